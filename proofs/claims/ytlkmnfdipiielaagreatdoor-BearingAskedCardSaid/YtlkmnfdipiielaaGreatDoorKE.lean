/-
  Part 5 of what all proofs of this seat share: laws of the model that the walks use, and what functions of the program reckon. Conditions: the premises that each theorem states.
-/
import Derived.Test.YtlkmnfdipiielaaGreatDoorKD
import Derived.Conc.LeavingOf
import Derived.LaidMore
import Derived.WideKeyArgs
import Derived.ChangeArms
import Derived.WideShapes
import Derived.ChangeShapes
import Derived.Test.YtlkmnfdipiielaaGreatDoorTie
import Derived.Test.YtlkmnfdipiielaaGreatDoorCards
import Derived.OpenShut
import Derived.SevenTiedAt
import Derived.Test.YtlkmnfdipiielaaGreatDoorRows
import Derived.JoinedOf
set_option maxRecDepth 100000
set_option linter.all false
set_option linter.unusedVariables false
set_option linter.unusedSimpArgs false
set_option linter.unusedSectionVars false
namespace Go.Lg
open Go Go.Conc
theorem Put.app {o : Nat} {vs l l' : List Value} (r : List Value) (h : Put o vs l l') : Put o vs (l ++ r) (l' ++ r) := by
  induction h with
  | nil => exact .nil
  | here _ ih => exact .here ih
  | skip _ ih => exact .skip ih
theorem Put.behind {o : Nat} {vs l l' : List Value} (h : Put o vs l l') : ∀ pre : List Value, Put (pre.length + o) vs (pre ++ l) (pre ++ l')
  | [] => by simpa using h
  | x :: pre => by
    have := Put.skip (x := x) (Put.behind h pre)
    simpa [Nat.add_assoc, Nat.add_comm, Nat.add_left_comm] using this
theorem Put.flat {α : Type} {enc : α → List Value} {k o : Nat} {vs : List Value} (hk : ∀ x, (enc x).length = k) : ∀ (xs : List α) (i : Nat) (h : i < xs.length) (y : α) (sp : List Value), Put o vs (enc xs[i]) (enc y) → Put (i * k + o) vs (xs.flatMap enc ++ sp) ((xs.set i y).flatMap enc ++ sp)
  | x :: xs, 0, _, y, sp, hp => by
    simp only [List.flatMap_cons, List.set_cons_zero, List.append_assoc, Nat.zero_mul, Nat.zero_add]
    exact Put.app _ hp
  | x :: xs, i + 1, h, y, sp, hp => by
    have := Put.behind (Put.flat hk xs i (by simpa using h) y sp hp) (enc x)
    rw [hk] at this
    simp only [List.flatMap_cons, List.set_cons_succ, List.append_assoc]
    rw [show (i + 1) * k + o = k + (i * k + o) by rw [Nat.add_mul]; omega]
    exact this
theorem Buf.at {e : TypeId} {k : Nat} {tail own : List (Nat × Obj)} {v : Value} {cells : List Value} (h : Buf e k tail v cells own) (hp : 0 < cells.length) : ∃ p len cap spare, v = .slice (some ⟨p, 0, none⟩) len cap ∧ cells.length = len * k ∧ own = (p, .cells (cells ++ spare).toArray e (0, 0)) :: tail ∧ ∀ cells' : List Value, cells'.length = cells.length → Buf e k tail v cells' ((p, .cells (cells' ++ spare).toArray e (0, 0)) :: tail) := by
  cases h with
  | nil => simp at hp
  | blk c1 c2 c3 => exact ⟨_, _, _, _, rfl, c1, rfl, fun cells' hc => .blk (by rw [hc]; exact c1) (by rw [List.length_append, hc, ← List.length_append]; exact c2) c3⟩
end Go.Lg
namespace Go.Lg.B
open Go Go.Conc Go.Lg Go.Proofs Go.Proofs.Tryz
def sured (w : Wt) : Wt := { w with sure := true }
def trusted (b : Bk) (k : Int) : Bk := { b with ws := b.ws.set k.toNat (sured (b.wt k.toNat)) }
def trustH (b : Bk) (k : Int) : Int := if checkChart b ≠ 0 then checkChart b else if b.witness k ≠ 0 then b.witness k else if (b.wt k.toNat).sure = true then 5 else openH (trusted b k) 0
variable {main : Bool} {J : Goroutine → Mem → Prop} (hJ : Closed prog main J)
include hJ
theorem trust_c {b : Bk} {v : Value} {ro : RO} (he : Env ro) (hv : BkV ro v b) (hs : b.short) (k : Int) : CallR prog J (fnv 43) [v, .int .i64 k] ro (fun x ro' => NewV ro' (trusted b k) (trustH b k) x) := by
  have hvv := hv
  obtain ⟨vc, vw, rfl, hc, hw⟩ := hv
  obtain ⟨cb, cc, rfl⟩ := hc.form
  obtain ⟨wb, wc, rfl⟩ := hw.form
  refine CallR.intro hJ (by kernel_rfl) fun c cs tail hret => enter_X (n := 42) func43 rfl rfl (Nl rfl) ?_
  have C : Ctx prog main J (bf 43 .normal) := ⟨hJ, by decide⟩
  refine Xr C rfl rfl <| R.box C rfl rfl rfl rfl fun p2 => R.alloc C rfl rfl zeroValue25 rfl fun p4 => Ad C rfl rfl <| Xs C <| Xr C rfl rfl <| R.loadAgg C rfl rfl rfl isAgg25 sizeOf25 (by repeat (first | exact Mh | apply Mt)) (.take (.take (.take (.take (.take .nil))))) <| R.callP C rfl rfl rfl rfl (checkChart_c hJ (by assumption) (by assumption) (by assumption)) <| Ad C rfl rfl <| Xr C rfl rfl <| Rm C rfl rfl <| R.int C rfl rfl rfl rfl b_neq <| R.done C <| X.cond C.1 rfl (fun hh => ?_) (fun hh => ?_)
  · have hh := hh
    simp at hh
    refine Xr C rfl rfl <| R.build C rfl rfl rfl zeroValue25 rfl runUnderlying25 (by kernel_rfl) .nil <| Rm C rfl rfl <| R.store C rfl rfl rfl rfl sizeOf25 rfl rfl rfl (by repeat (first | exact Uh | apply Ut)) (.here (.here (.here (.here (.here .nil))))) <| Ad C rfl rfl <| X.ret C rfl rfl func43 rfl (by exact (.agg rfl isAgg25 sizeOf25 (by repeat (first | exact Mh | apply Mt)) (.take (.take (.take (.take (.take .nil))))) (.tmp rfl .nil))) <| hret _ _ _ (RO.le_refl _) (by repeat (first | exact Sr | apply Sc)) ?_
    exact .inl ⟨by rw [trustH, if_pos hh]; exact hh, by rw [trustH, if_pos hh]; rfl⟩
  · have hh := hh
    simp at hh
    have hb := good_iff.1 hh
    have hnw := hb.nw
    have hnc := hb.nc
    have hsm := hb.small
    refine X.skip C.1 <| Xs C <| Xr C rfl rfl <| R.loadAgg C rfl rfl rfl isAgg25 sizeOf25 (by repeat (first | exact Mh | apply Mt)) (.take (.take (.take (.take (.take .nil))))) <| R.build C rfl rfl rfl zeroValue105 rfl runUnderlying105 (by kernel_rfl) (Fills.part rfl rfl sizeOf25 rfl (.here (.here (.here (.here (.here .nil))))) .nil) <| Rm C rfl rfl <| R.callP C rfl rfl rfl rfl (witness_c hJ hvv hsm k) <| Ad C rfl rfl <| Xr C rfl rfl <| Rm C rfl rfl <| R.int C rfl rfl rfl rfl b_neq <| R.done C <| X.cond C.1 rfl (fun hk => ?_) (fun hk => ?_)
    · have hk := hk
      simp at hk
      refine Xr C rfl rfl <| R.build C rfl rfl rfl zeroValue25 rfl runUnderlying25 (by kernel_rfl) .nil <| Rm C rfl rfl <| R.store C rfl rfl rfl rfl sizeOf25 rfl rfl rfl (by repeat (first | exact Uh | apply Ut)) (.here (.here (.here (.here (.here .nil))))) <| Ad C rfl rfl <| X.ret C rfl rfl func43 rfl (by exact (.agg rfl isAgg25 sizeOf25 (by repeat (first | exact Mh | apply Mt)) (.take (.take (.take (.take (.take .nil))))) (.tmp rfl .nil))) <| hret _ _ _ (RO.le_refl _) (by repeat (first | exact Sr | apply Sc)) ?_
      exact .inl ⟨by rw [trustH, if_neg (by simp [hh]), if_pos hk]; exact hk, by rw [trustH, if_neg (by simp [hh]), if_pos hk]; rfl⟩
    · have hk := hk
      simp at hk
      have hkb := there_zero.1 hk
      simp only [between, Bool.and_eq_true, decide_eq_true_eq] at hkb
      have hki : k.toNat < b.ws.length := by omega
      have hwt := Bk.wt_get hki
      obtain ⟨pp, off, cap, l, t, fq, hsl, hrop, hsub⟩ := hw.at Wt.len (by omega)
      cases hsl
      have hx : l[off + k.toNat * 5 + 4]? = some (.bool (b.wt k.toNat).sure) := by
        have := (hsub k.toNat hki).get 4 (by decide)
        rw [hwt] at this
        simpa [Wt.cells] using this
      refine X.skip C.1 <| Xs C <| Xr C rfl rfl <| R.fieldAddr (off' := 4) C rfl rfl rfl runUnderlying25 rfl sizeOf23 rfl <| R.loadOne C rfl rfl rfl isAgg23 (by repeat (first | exact Mh | apply Mt)) rfl <| Rm C rfl rfl <| R.indexAddr C rfl rfl rfl rfl runUnderlying23 sizeOf58 (by omega) (by omega) <| R.fieldAddr C rfl rfl rfl runUnderlying58 rfl sizeOf4 rfl <| R.loadOneRo C rfl rfl rfl isAgg4 hrop hx <| R.done C <| X.cond C.1 rfl (fun hsu => ?_) (fun hsu => ?_)
      · have hsu := hsu
        refine Xr C rfl rfl <| R.build C rfl rfl rfl zeroValue25 rfl runUnderlying25 (by kernel_rfl) .nil <| R.store C rfl rfl rfl rfl sizeOf25 rfl rfl rfl (by repeat (first | exact Uh | apply Ut)) (.here (.here (.here (.here (.here .nil))))) <| Ad C rfl rfl <| X.ret C rfl rfl func43 rfl (by exact (.agg rfl isAgg25 sizeOf25 (by repeat (first | exact Mh | apply Mt)) (.take (.take (.take (.take (.take .nil))))) (.tmp rfl .nil))) <| hret _ _ _ (RO.le_refl _) (by repeat (first | exact Sr | apply Sc)) ?_
        exact .inl ⟨by rw [trustH, if_neg (by simp [hh]), if_neg (by simp [hk]), if_pos hsu]; decide, by rw [trustH, if_neg (by simp [hh]), if_neg (by simp [hk]), if_pos hsu]; rfl⟩
      · have hsu := hsu
        have hfin : trustH b k = openH (trusted b k) 0 := by rw [trustH, if_neg (by simp [hh]), if_neg (by simp [hk]), if_neg (by simp [hsu])]
        rw [hfin] at hret
        have hsh : (trusted b k).short := ⟨by show b.cs.length ≤ 1000; omega, by show (b.ws.set _ _).length ≤ 1000; simp; omega⟩
        have hfl := flatMap_len Wt.len b.ws
        have hfl2 := flatMap_len Wt.len (b.ws.set k.toNat (sured (b.wt k.toNat)))
        rw [List.length_set] at hfl2
        refine X.skip C.1 <| Xr C rfl rfl <| R.fieldAddr (off' := 4) C rfl rfl rfl runUnderlying25 rfl sizeOf23 rfl <| R.loadOne C rfl rfl rfl isAgg23 (by repeat (first | exact Mh | apply Mt | apply List.mem_append_right)) rfl <| R.call C rfl rfl rfl rfl (pre := []) rfl (cloneW_c hJ hw (by omega)) fun vW roW preW hleW hqW => ?_
        obtain ⟨rfl, hbW⟩ := hqW
        obtain ⟨pW, len, capW, spare, rfl, hlen, rfl, hset⟩ := hbW.at (by omega)
        obtain rfl : len = b.ws.length := by omega
        refine R.fieldAddr (off' := 4) C rfl rfl rfl runUnderlying25 rfl sizeOf23 rfl <| R.store C rfl rfl rfl rfl sizeOf23 rfl rfl rfl (by repeat (first | exact Uh | apply Ut | apply Upd.app)) (.skip (.skip (.skip (.skip (.here .nil))))) <| R.done C <| Xr C rfl rfl <| R.fieldAddr (off' := 4) C rfl rfl rfl runUnderlying25 rfl sizeOf23 rfl <| R.loadOne C rfl rfl rfl isAgg23 (by repeat (first | exact Mh | apply Mt | apply List.mem_append_right)) rfl <| Rm C rfl rfl <| R.indexAddr C rfl rfl rfl rfl runUnderlying23 sizeOf58 (by omega) (by omega) <| R.fieldAddr C rfl rfl rfl runUnderlying58 rfl sizeOf4 rfl <| R.store C rfl rfl rfl rfl sizeOf4 rfl rfl rfl (by repeat (first | exact Uh | apply Ut | apply Upd.app)) (by rw [Nat.zero_add]; exact Put.flat Wt.len b.ws k.toNat hki (sured (b.wt k.toNat)) spare (by rw [hwt]; exact .skip (.skip (.skip (.skip (.here .nil)))))) <| R.done C <| Xr C rfl rfl ?_
        have hb1 := hset ((b.ws.set k.toNat (sured (b.wt k.toNat))).flatMap Wt.cells) (by omega)
        refine R.finish C.1 Wt.len (by decide) (hb1.app _) fun ro3 hl3 hls3 => ?_
        have hv3 : BkV ro3 (.agg [.int .i64 b.w, .int .i64 b.h, .int .i64 b.f, .slice cb b.cs.length cc, .slice (some ⟨pW, 0, none⟩) b.ws.length capW].toArray) (trusted b k) := ⟨_, _, rfl, hc.mono hl3, hls3⟩
        have he3 := he.mono hl3
        refine R.loadAgg C rfl rfl rfl isAgg25 sizeOf25 (by repeat (first | exact Mh | apply Mt | apply List.mem_append_right)) (.take (.take (.take (.take (.take .nil))))) <| R.callR C rfl rfl rfl rfl (agreed_c hJ (by assumption) (by assumption) (by assumption)) fun v1 ro2 hl2 hp => ?_
        rcases hp with ⟨h0, rfl⟩ | ⟨h0, v2, ⟨vc2, vw2, rfl, hc2, hw2⟩, rfl⟩
        ·
          unfold noBk
          refine R.ext C rfl rfl rfl rfl <| R.ext C rfl rfl rfl rfl <| R.store C rfl rfl rfl rfl sizeOf25 rfl rfl rfl (by repeat (first | exact Uh | apply Ut | apply Upd.app)) (.here (.here (.here (.here (.here .nil))))) <| Ad C rfl rfl <| X.ret C rfl rfl func43 rfl (by exact (.agg rfl isAgg25 sizeOf25 (by repeat (first | exact Mh | apply Mt | apply List.mem_append_right)) (.take (.take (.take (.take (.take .nil))))) (.tmp rfl .nil))) <| hret _ _ _ (RO.le_trans hl3 hl2) (by repeat (first | exact Sr | apply Sc)) ?_
          exact .inl ⟨h0, rfl⟩
        ·
          obtain ⟨cb2, cc2, rfl⟩ := hc2.form
          obtain ⟨wb2, wc2, rfl⟩ := hw2.form
          refine R.ext C rfl rfl rfl rfl <| R.ext C rfl rfl rfl rfl <| R.store C rfl rfl rfl rfl sizeOf25 rfl rfl rfl (by repeat (first | exact Uh | apply Ut | apply Upd.app)) (.here (.here (.here (.here (.here .nil))))) <| Ad C rfl rfl <| X.ret C rfl rfl func43 rfl (by exact (.agg rfl isAgg25 sizeOf25 (by repeat (first | exact Mh | apply Mt | apply List.mem_append_right)) (.take (.take (.take (.take (.take .nil))))) (.tmp rfl .nil))) <| hret _ _ _ (RO.le_trans hl3 hl2) (by repeat (first | exact Sr | apply Sc)) ?_
          exact .inr ⟨h0, _, ⟨_, _, rfl, hc2, hw2⟩, rfl⟩
omit hJ in
def cut (c x : Rc) : Rc := ⟨max c.lo x.lo, min c.hi x.hi⟩
omit hJ in
def swung (b : Bk) (k : Int) (x : Rc) : Bk := { b with cs := b.cs.set k.toNat (cut (b.cs.getD k.toNat ⟨0, 0⟩) x) }
omit hJ in
def swingH (b : Bk) (k : Int) (x : Rc) : Int := if checkChart b ≠ 0 then checkChart b else if b.compass k ≠ 0 then b.compass k else if (!isReach x (-3) 3) = true then 1 else if (cut (b.cs.getD k.toNat ⟨0, 0⟩) x).hi < (cut (b.cs.getD k.toNat ⟨0, 0⟩) x).lo then 9 else openH (swung b k x) 0
theorem swing_c {b : Bk} {v : Value} {ro : RO} (he : Env ro) (hv : BkV ro v b) (hs : b.short) (k : Int) (x : Rc) : CallR prog J (fnv 45) [v, .int .i64 k, x.val] ro (fun y ro' => NewV ro' (swung b k x) (swingH b k x) y) := by
  have hvv := hv
  obtain ⟨vc, vw, rfl, hc, hw⟩ := hv
  obtain ⟨cb, cc, rfl⟩ := hc.form
  obtain ⟨wb, wc, rfl⟩ := hw.form
  refine CallR.intro hJ (by kernel_rfl) fun c cs tail hret => enter_X (n := 65) func45 rfl rfl (Nl rfl) ?_
  have C : Ctx prog main J (bf 45 .normal) := ⟨hJ, by decide⟩
  refine Xr C rfl rfl <| R.box C rfl rfl rfl rfl fun p3 => R.box C rfl rfl rfl rfl fun p5 => R.alloc C rfl rfl zeroValue25 rfl fun p6 => Ad C rfl rfl <| Xs C <| Xr C rfl rfl <| R.loadAgg C rfl rfl rfl isAgg25 sizeOf25 (by repeat (first | exact Mh | apply Mt)) (.take (.take (.take (.take (.take .nil))))) <| R.callP C rfl rfl rfl rfl (checkChart_c hJ (by assumption) (by assumption) (by assumption)) <| Ad C rfl rfl <| Xr C rfl rfl <| Rm C rfl rfl <| R.int C rfl rfl rfl rfl b_neq <| R.done C <| X.cond C.1 rfl (fun hh => ?_) (fun hh => ?_)
  · have hh := hh
    simp at hh
    refine Xr C rfl rfl <| R.build C rfl rfl rfl zeroValue25 rfl runUnderlying25 (by kernel_rfl) .nil <| Rm C rfl rfl <| R.store C rfl rfl rfl rfl sizeOf25 rfl rfl rfl (by repeat (first | exact Uh | apply Ut)) (.here (.here (.here (.here (.here .nil))))) <| Ad C rfl rfl <| X.ret C rfl rfl func45 rfl (by exact (.agg rfl isAgg25 sizeOf25 (by repeat (first | exact Mh | apply Mt)) (.take (.take (.take (.take (.take .nil))))) (.tmp rfl .nil))) <| hret _ _ _ (RO.le_refl _) (by repeat (first | exact Sr | apply Sc)) ?_
    exact .inl ⟨by rw [swingH, if_pos hh]; exact hh, by rw [swingH, if_pos hh]; rfl⟩
  · have hh := hh
    simp at hh
    have hb := good_iff.1 hh
    have hnw := hb.nw
    have hnc := hb.nc
    have hsm := hb.small
    have hE : swingH b k x = if b.compass k ≠ 0 then b.compass k else if (!isReach x (-3) 3) = true then 1 else if (cut (b.cs.getD k.toNat ⟨0, 0⟩) x).hi < (cut (b.cs.getD k.toNat ⟨0, 0⟩) x).lo then 9 else openH (swung b k x) 0 := by rw [swingH, if_neg (by simp [hh])]
    rw [hE] at hret
    refine X.skip C.1 <| Xs C <| Xr C rfl rfl <| R.loadAgg C rfl rfl rfl isAgg25 sizeOf25 (by repeat (first | exact Mh | apply Mt)) (.take (.take (.take (.take (.take .nil))))) <| R.build C rfl rfl rfl zeroValue105 rfl runUnderlying105 (by kernel_rfl) (Fills.part rfl rfl sizeOf25 rfl (.here (.here (.here (.here (.here .nil))))) .nil) <| Rm C rfl rfl <| R.callP C rfl rfl rfl rfl (compass_c hJ hvv hsm k) <| Ad C rfl rfl <| Xr C rfl rfl <| Rm C rfl rfl <| R.int C rfl rfl rfl rfl b_neq <| R.done C <| X.cond C.1 rfl (fun hk => ?_) (fun hk => ?_)
    · have hk := hk
      simp at hk
      rw [if_pos hk] at hret
      refine Xr C rfl rfl <| R.build C rfl rfl rfl zeroValue25 rfl runUnderlying25 (by kernel_rfl) .nil <| Rm C rfl rfl <| R.store C rfl rfl rfl rfl sizeOf25 rfl rfl rfl (by repeat (first | exact Uh | apply Ut)) (.here (.here (.here (.here (.here .nil))))) <| Ad C rfl rfl <| X.ret C rfl rfl func45 rfl (by exact (.agg rfl isAgg25 sizeOf25 (by repeat (first | exact Mh | apply Mt)) (.take (.take (.take (.take (.take .nil))))) (.tmp rfl .nil))) <| hret _ _ _ (RO.le_refl _) (by repeat (first | exact Sr | apply Sc)) ?_
      exact .inl ⟨hk, rfl⟩
    · have hk := hk
      simp at hk
      rw [if_neg (by simp [hk])] at hret
      have hkb := there_zero.1 hk
      simp only [between, Bool.and_eq_true, decide_eq_true_eq] at hkb
      have hki : k.toNat < b.cs.length := by omega
      refine X.skip C.1 <| Xs C <| Xr C rfl rfl <| R.loadAgg C rfl rfl rfl isAgg46 sizeOf46 (by repeat (first | exact Mh | apply Mt)) (.take (.take .nil)) <| R.callP C rfl rfl rfl rfl (isReach_c hJ _ _ _ _) <| R.not C rfl rfl rfl <| R.done C <| X.cond C.1 rfl (fun hx => ?_) (fun hx => ?_)
      · have hx := hx
        rw [if_pos hx] at hret
        refine Xr C rfl rfl <| R.build C rfl rfl rfl zeroValue25 rfl runUnderlying25 (by kernel_rfl) .nil <| R.store C rfl rfl rfl rfl sizeOf25 rfl rfl rfl (by repeat (first | exact Uh | apply Ut)) (.here (.here (.here (.here (.here .nil))))) <| Ad C rfl rfl <| X.ret C rfl rfl func45 rfl (by exact (.agg rfl isAgg25 sizeOf25 (by repeat (first | exact Mh | apply Mt)) (.take (.take (.take (.take (.take .nil))))) (.tmp rfl .nil))) <| hret _ _ _ (RO.le_refl _) (by repeat (first | exact Sr | apply Sc)) ?_
        exact .inl ⟨by decide, rfl⟩
      · have hx := hx
        rw [if_neg (by simp only [hx]; decide)] at hret
        obtain ⟨pp, off, cap, l, t, fq, hsl, hrop, hsub⟩ := hc.at Rc.len (by omega)
        cases hsl
        have hgd : b.cs[k.toNat] = b.cs.getD k.toNat ⟨0, 0⟩ := by simp [hki]
        have hs0 := hsub k.toNat hki
        rw [hgd] at hs0
        generalize hc0 : b.cs.getD k.toNat ⟨0, 0⟩ = c0 at *
        refine X.skip C.1 <| Xr C rfl rfl <| R.fieldAddr (off' := 3) C rfl rfl rfl runUnderlying25 rfl sizeOf22 rfl <| R.loadOne C rfl rfl rfl isAgg22 (by repeat (first | exact Mh | apply Mt)) rfl <| Rm C rfl rfl <| R.indexAddr C rfl rfl rfl rfl runUnderlying22 sizeOf46 (by omega) (by omega) <| R.loadAggRo C rfl rfl rfl isAgg46 sizeOf46 hrop hs0 <| R.alloc C rfl rfl zeroValue46 rfl fun p10 => R.store C rfl rfl rfl rfl sizeOf46 rfl rfl rfl (by repeat (first | exact Uh | apply Ut)) (.here (.here .nil)) <| R.done C <| Xr C rfl rfl <| R.fieldAddr (off' := 0) C rfl rfl rfl runUnderlying46 rfl sizeOf3 rfl <| R.loadOne C rfl rfl rfl isAgg3 (by repeat (first | exact Mh | apply Mt)) rfl <| R.fieldAddr (off' := 0) C rfl rfl rfl runUnderlying46 rfl sizeOf3 rfl <| R.loadOne C rfl rfl rfl isAgg3 (by repeat (first | exact Mh | apply Mt)) rfl <| R.max2 C rfl rfl rfl rfl <| R.fieldAddr (off' := 1) C rfl rfl rfl runUnderlying46 rfl sizeOf3 rfl <| R.loadOne C rfl rfl rfl isAgg3 (by repeat (first | exact Mh | apply Mt)) rfl <| R.fieldAddr (off' := 1) C rfl rfl rfl runUnderlying46 rfl sizeOf3 rfl <| R.loadOne C rfl rfl rfl isAgg3 (by repeat (first | exact Mh | apply Mt)) rfl <| R.min2 C rfl rfl rfl rfl <| R.build C rfl rfl rfl zeroValue46 rfl runUnderlying46 (by kernel_rfl) (Fills.part rfl rfl sizeOf3 rfl (.here .nil) (Fills.part rfl rfl sizeOf3 rfl (.skip (.here .nil)) .nil)) <| R.alloc C rfl rfl zeroValue46 rfl fun p11 => R.store C rfl rfl rfl rfl sizeOf46 rfl rfl rfl (by repeat (first | exact Uh | apply Ut)) (.here (.here .nil)) <| R.done C <| Xs C <| Xr C rfl rfl <| R.fieldAddr (off' := 0) C rfl rfl rfl runUnderlying46 rfl sizeOf3 rfl <| R.loadOne C rfl rfl rfl isAgg3 (by repeat (first | exact Mh | apply Mt)) rfl <| R.fieldAddr (off' := 1) C rfl rfl rfl runUnderlying46 rfl sizeOf3 rfl <| R.loadOne C rfl rfl rfl isAgg3 (by repeat (first | exact Mh | apply Mt)) rfl <| R.int C rfl rfl rfl rfl b_gtr <| R.done C <| X.cond C.1 rfl (fun hbad => ?_) (fun hbad => ?_)
        · have hbad := hbad
          simp only [decide_eq_true_eq] at hbad
          rw [if_pos (by exact hbad)] at hret
          refine Xr C rfl rfl <| R.build C rfl rfl rfl zeroValue25 rfl runUnderlying25 (by kernel_rfl) .nil <| R.store C rfl rfl rfl rfl sizeOf25 rfl rfl rfl (by repeat (first | exact Uh | apply Ut)) (.here (.here (.here (.here (.here .nil))))) <| Ad C rfl rfl <| X.ret C rfl rfl func45 rfl (by exact (.agg rfl isAgg25 sizeOf25 (by repeat (first | exact Mh | apply Mt)) (.take (.take (.take (.take (.take .nil))))) (.tmp rfl .nil))) <| hret _ _ _ (RO.le_refl _) (by repeat (first | exact Sr | apply Sc)) ?_
          exact .inl ⟨by decide, rfl⟩
        · have hbad := hbad
          simp only [decide_eq_false_iff_not] at hbad
          rw [if_neg (by exact hbad)] at hret
          have hcut : (b.cs.set k.toNat (cut c0 x)) = (swung b k x).cs := by rw [← hc0]; rfl
          have hsh : (swung b k x).short := ⟨by show (b.cs.set _ _).length ≤ 1000; simp; omega, by show b.ws.length ≤ 1000; omega⟩
          have hfl := flatMap_len Rc.len b.cs
          have hfl2 := flatMap_len Rc.len (b.cs.set k.toNat (cut c0 x))
          rw [List.length_set] at hfl2
          refine X.skip C.1 <| Xr C rfl rfl <| R.fieldAddr (off' := 3) C rfl rfl rfl runUnderlying25 rfl sizeOf22 rfl <| R.loadOne C rfl rfl rfl isAgg22 (by repeat (first | exact Mh | apply Mt | apply List.mem_append_right)) rfl <| R.call C rfl rfl rfl rfl (pre := []) rfl (cloneC_c hJ hc (by omega)) fun vC roC preC hleC hqC => ?_
          obtain ⟨rfl, hbC⟩ := hqC
          obtain ⟨pC, len, capC, spare, rfl, hlen, rfl, hset⟩ := hbC.at (by omega)
          obtain rfl : len = b.cs.length := by omega
          refine R.fieldAddr (off' := 3) C rfl rfl rfl runUnderlying25 rfl sizeOf22 rfl <| R.store C rfl rfl rfl rfl sizeOf22 rfl rfl rfl (by repeat (first | exact Uh | apply Ut | apply Upd.app)) (.skip (.skip (.skip (.here .nil)))) <| R.done C <| Xr C rfl rfl <| R.fieldAddr (off' := 3) C rfl rfl rfl runUnderlying25 rfl sizeOf22 rfl <| R.loadOne C rfl rfl rfl isAgg22 (by repeat (first | exact Mh | apply Mt | apply List.mem_append_right)) rfl <| Rm C rfl rfl <| R.loadAgg C rfl rfl rfl isAgg46 sizeOf46 (by repeat (first | exact Mh | apply Mt | apply List.mem_append_right)) (.take (.take .nil)) <| R.indexAddr C rfl rfl rfl rfl runUnderlying22 sizeOf46 (by omega) (by omega) <| R.store C rfl rfl rfl rfl sizeOf46 rfl rfl rfl (by repeat (first | exact Uh | apply Ut | apply Upd.app)) (by rw [Nat.zero_add]; exact Put.flat (o := 0) Rc.len b.cs k.toNat hki (cut c0 x) spare (.here (.here .nil))) <| R.done C <| Xr C rfl rfl ?_
          have hb1 := hset ((b.cs.set k.toNat (cut c0 x)).flatMap Rc.cells) (by omega)
          refine R.finish C.1 Rc.len (by decide) (hb1.app _) fun ro3 hl3 hls3 => ?_
          rw [hcut] at hls3
          have hln : (swung b k x).cs.length = b.cs.length := by rw [← hcut, List.length_set]
          have hv3 : BkV ro3 (.agg [.int .i64 b.w, .int .i64 b.h, .int .i64 b.f, .slice (some ⟨pC, 0, none⟩) b.cs.length capC, .slice wb b.ws.length wc].toArray) (swung b k x) := ⟨_, _, rfl, hls3, hw.mono hl3⟩
          have he3 := he.mono hl3
          refine R.loadAgg C rfl rfl rfl isAgg25 sizeOf25 (by repeat (first | exact Mh | apply Mt | apply List.mem_append_right)) (.take (.take (.take (.take (.take .nil))))) <| R.callR C rfl rfl rfl rfl (agreed_c hJ (by assumption) (by assumption) (by assumption)) fun v1 ro2 hl2 hp => ?_
          rcases hp with ⟨h0, rfl⟩ | ⟨h0, v2, ⟨vc2, vw2, rfl, hc2, hw2⟩, rfl⟩
          ·
            unfold noBk
            refine R.ext C rfl rfl rfl rfl <| R.ext C rfl rfl rfl rfl <| R.store C rfl rfl rfl rfl sizeOf25 rfl rfl rfl (by repeat (first | exact Uh | apply Ut | apply Upd.app)) (.here (.here (.here (.here (.here .nil))))) <| Ad C rfl rfl <| X.ret C rfl rfl func45 rfl (by exact (.agg rfl isAgg25 sizeOf25 (by repeat (first | exact Mh | apply Mt | apply List.mem_append_right)) (.take (.take (.take (.take (.take .nil))))) (.tmp rfl .nil))) <| hret _ _ _ (RO.le_trans hl3 hl2) (by repeat (first | exact Sr | apply Sc)) ?_
            exact .inl ⟨h0, rfl⟩
          ·
            obtain ⟨cb2, cc2, rfl⟩ := hc2.form
            obtain ⟨wb2, wc2, rfl⟩ := hw2.form
            refine R.ext C rfl rfl rfl rfl <| R.ext C rfl rfl rfl rfl <| R.store C rfl rfl rfl rfl sizeOf25 rfl rfl rfl (by repeat (first | exact Uh | apply Ut | apply Upd.app)) (.here (.here (.here (.here (.here .nil))))) <| Ad C rfl rfl <| X.ret C rfl rfl func45 rfl (by exact (.agg rfl isAgg25 sizeOf25 (by repeat (first | exact Mh | apply Mt | apply List.mem_append_right)) (.take (.take (.take (.take (.take .nil))))) (.tmp rfl .nil))) <| hret _ _ _ (RO.le_trans hl3 hl2) (by repeat (first | exact Sr | apply Sc)) ?_
            exact .inr ⟨h0, _, ⟨_, _, rfl, hc2, hw2⟩, rfl⟩
end Go.Lg.B
namespace Go.Lg
open Go Go.Conc
theorem R.neAgg {P : Program} {main : Bool} {J : Goroutine → Mem → Prop} {b : Frame} (C : Ctx P main J b) {cs : List Frame} {n : Nat} {ds : List Deferred} {σ : Slots} {k : List Item} {ops : Array Oper} {i : Nat} {rest : List Nat} {d : Nat} {ty : TypeId} {pos : String} {af : Array Edge} {g : Option (Nat × Bool)}
    {t t' : TypeId} {x y : Operand} {m : Nat} {p q : List Int} {M : Mem} (ho : ops[i]? = some ⟨some d, .binOp .neq t x y t', ty, pos, af, g⟩) (hg : wantedS ops σ ⟨some d, .binOp .neq t x y t', ty, pos, af, g⟩ = some true)
    (hx : ev σ x = some (.agg (ints p).toArray)) (hy : ev σ y = some (.agg (ints q).toArray)) (ht : IntT P 10000 t m true) (hp : p.length = m) (hq : q.length = m) (hd : P.eqGuardType P.depth t = false)
    (h : R J b cs n ops rest k ds ((d, .bool (!decide (p = q))) :: σ) M) : R J b cs n ops (i :: rest) k ds σ M :=
  R.v C ho hg rfl (fun a ha K hk => by
    unfold execOp
    simp only [ha.ev hx, ha.ev hy]
    refine ex_v (Sm.bind ?_)
    unfold eqGuard
    refine Sm.bind (Sm.program (Sm.bind (Sm.program ?_)))
    rw [hd]
    refine Sm.pure ?_
    show Sm P M (binOp .neq t (.agg (ints p).toArray) (.agg (ints q).toArray)) _
    unfold binOp
    simp only
    exact Sm.bind (ht p q hp hq _ _ (Sm.pure hk))) h
end Go.Lg
namespace Go.Lg.B
open Go Go.Conc Go.Lg Go.Proofs Go.Proofs.Tryz
theorem Ls.lit {α : Type} {enc : α → List Value} {k : Nat} {ro : RO} {p cap : Nat} {xs : List α} {t : TypeId} {fq : Nat × Nat} (hk : ∀ x, (enc x).length = k) (h : ro p = some (.cells (xs.flatMap enc).toArray t fq)) : Ls enc k ro (.slice (some ⟨p, 0, none⟩) xs.length cap) xs := by
  refine ⟨_, _, rfl, .inr ⟨p, 0, _, _, _, rfl, h, ?_⟩⟩
  have := Sub.front (xs.flatMap enc) []
  rw [List.append_nil, flatMap_len hk] at this
  exact this
def exB : Bk := ⟨3, 3, 1, [⟨0, 0⟩, ⟨0, 1⟩], [⟨⟨-1, 0⟩, 2, 0, false⟩, ⟨⟨0, 3⟩, 4, 1, false⟩, ⟨⟨2, -1⟩, 0, 0, false⟩]⟩
def earlier (a c : List Int) : Bool := decide (cmpL a c < 0)
def sameInts (a c : List Int) : Bool := !earlier a c && !earlier c a
theorem sameInts_iff {a c : List Int} : sameInts a c = decide (a = c) := by
  unfold sameInts earlier
  have h := cmpL_flip a c
  by_cases e : a = c
  · subst e; simp [cmpL_refl]
  · have : cmpL a c ≠ 0 := fun h => e (cmpL_zero h)
    rw [decide_eq_false e]
    by_cases h1 : cmpL a c < 0
    · simp [h1]
    · have h2 : cmpL c a < 0 := by omega
      simp [h2]
variable {main : Bool} {J : Goroutine → Mem → Prop} (hJ : Closed prog main J)
include hJ
theorem sq_c (e n : Int) (ro : RO) : CallP prog J (fnv 50) [.int .i64 e, .int .i64 n] ro (Sq.val ⟨e, n⟩) := by
  refine CallP.intro hJ (by kernel_rfl) fun c cs tail hret => enter_X (n := 8) func50 rfl rfl (Nl rfl) ?_
  have C : Ctx prog main J (bf 50 .normal) := ⟨hJ, by decide⟩
  refine Xr C rfl rfl <| R.alloc C rfl rfl zeroValue27 rfl fun p4 => R.done C <| Xr C rfl rfl <| Rm C rfl rfl <| Rm C rfl rfl <| R.build C rfl rfl rfl zeroValue27 rfl runUnderlying27 (by kernel_rfl) (Fills.part rfl rfl sizeOf3 rfl (.here .nil) (Fills.part rfl rfl sizeOf3 rfl (.skip (.here .nil)) .nil)) <| R.store C rfl rfl rfl rfl sizeOf27 rfl rfl rfl (by repeat (first | exact Uh | apply Ut)) (.here (.here .nil)) <| R.done C <| X.ret C rfl rfl func50 rfl (by exact (.agg rfl isAgg27 sizeOf27 (by repeat (first | exact Mh | apply Mt)) (.take (.take .nil)) .nil)) <| hret _ _ ?_ (by repeat (first | exact Sr | apply Sc))
  rfl
theorem one_c (n : Int) (ro : RO) : CallP prog J (fnv 56) [.int .i64 n] ro (Rc.val ⟨n, n⟩) := by
  refine CallP.intro hJ (by kernel_rfl) fun c cs tail hret => enter_X (n := 6) func56 rfl rfl (Nl rfl) ?_
  have C : Ctx prog main J (bf 56 .normal) := ⟨hJ, by decide⟩
  refine Xr C rfl rfl <| R.alloc C rfl rfl zeroValue46 rfl fun p2 => R.done C <| Xr C rfl rfl <| Rm C rfl rfl <| Rm C rfl rfl <| R.build C rfl rfl rfl zeroValue46 rfl runUnderlying46 (by kernel_rfl) (Fills.part rfl rfl sizeOf3 rfl (.here .nil) (Fills.part rfl rfl sizeOf3 rfl (.skip (.here .nil)) .nil)) <| R.store C rfl rfl rfl rfl sizeOf46 rfl rfl rfl (by repeat (first | exact Uh | apply Ut)) (.here (.here .nil)) <| R.done C <| X.ret C rfl rfl func56 rfl (by exact (.agg rfl isAgg46 sizeOf46 (by repeat (first | exact Mh | apply Mt)) (.take (.take .nil)) .nil)) <| hret _ _ ?_ (by repeat (first | exact Sr | apply Sc))
  rfl
theorem reach_c (a z : Int) (ro : RO) : CallP prog J (fnv 80) [.int .i64 a, .int .i64 z] ro (Rc.val ⟨a, z⟩) := by
  refine CallP.intro hJ (by kernel_rfl) fun c cs tail hret => enter_X (n := 8) func80 rfl rfl (Nl rfl) ?_
  have C : Ctx prog main J (bf 80 .normal) := ⟨hJ, by decide⟩
  refine Xr C rfl rfl <| R.alloc C rfl rfl zeroValue46 rfl fun p4 => R.done C <| Xr C rfl rfl <| Rm C rfl rfl <| Rm C rfl rfl <| R.build C rfl rfl rfl zeroValue46 rfl runUnderlying46 (by kernel_rfl) (Fills.part rfl rfl sizeOf3 rfl (.here .nil) (Fills.part rfl rfl sizeOf3 rfl (.skip (.here .nil)) .nil)) <| R.store C rfl rfl rfl rfl sizeOf46 rfl rfl rfl (by repeat (first | exact Uh | apply Ut)) (.here (.here .nil)) <| R.done C <| X.ret C rfl rfl func80 rfl (by exact (.agg rfl isAgg46 sizeOf46 (by repeat (first | exact Mh | apply Mt)) (.take (.take .nil)) .nil)) <| hret _ _ ?_ (by repeat (first | exact Sr | apply Sc))
  rfl
theorem example_c (ro : RO) : CallR prog J (fnv 79) [] ro (fun v ro' => BkV ro' v exB) := by
  refine CallR.intro hJ (by kernel_rfl) fun c cs tail hret => enter_X (n := 12) func79 rfl rfl (Nl rfl) ?_
  have C : Ctx prog main J (bf 79 .normal) := ⟨hJ, by decide⟩
  refine Xr C rfl rfl <| R.alloc C rfl rfl zeroValue25 rfl fun p0 => R.done C <| Xr C rfl rfl <| R.callP C rfl rfl rfl rfl (one_c hJ _ _) <| R.callP C rfl rfl rfl rfl (reach_c hJ _ _ _) <| R.buildSlice C (vs := _) rfl rfl (show pvals _ _ = some (numbered 0 [_, _]) from rfl) rfl runUnderlying22 sizeOf46 zeroValue46 (by decide) ((.cons rfl rfl (.cons rfl rfl .nil))) fun p3 => R.callP C rfl rfl rfl rfl (sq_c hJ _ _ _) <| R.build C rfl rfl rfl zeroValue58 rfl runUnderlying58 (by kernel_rfl) (Fills.part rfl rfl sizeOf27 rfl (.here (.here .nil)) (Fills.part rfl rfl sizeOf3 rfl (.skip (.skip (.here .nil))) .nil)) <| R.callP C rfl rfl rfl rfl (sq_c hJ _ _ _) <| R.build C rfl rfl rfl zeroValue58 rfl runUnderlying58 (by kernel_rfl) (Fills.part rfl rfl sizeOf27 rfl (.here (.here .nil)) (Fills.part rfl rfl sizeOf3 rfl (.skip (.skip (.here .nil))) (Fills.part rfl rfl sizeOf3 rfl (.skip (.skip (.skip (.here .nil)))) .nil))) <| R.callP C rfl rfl rfl rfl (sq_c hJ _ _ _) <| R.build C rfl rfl rfl zeroValue58 rfl runUnderlying58 (by kernel_rfl) (Fills.part rfl rfl sizeOf27 rfl (.here (.here .nil)) .nil) <| R.buildSlice C (vs := _) rfl rfl (show pvals _ _ = some (numbered 0 [_, _, _]) from rfl) rfl runUnderlying23 sizeOf58 zeroValue58 (by decide) ((.cons rfl rfl (.cons rfl rfl (.cons rfl rfl .nil)))) fun p10 => R.build C rfl rfl rfl zeroValue25 rfl runUnderlying25 (by kernel_rfl) (Fills.part rfl rfl sizeOf3 rfl (.here .nil) (Fills.part rfl rfl sizeOf3 rfl (.skip (.here .nil)) (Fills.part rfl rfl sizeOf3 rfl (.skip (.skip (.here .nil))) (Fills.part rfl rfl sizeOf22 rfl (.skip (.skip (.skip (.here .nil)))) (Fills.part rfl rfl sizeOf23 rfl (.skip (.skip (.skip (.skip (.here .nil))))) .nil))))) <| R.store C rfl rfl rfl rfl sizeOf25 rfl rfl rfl (by repeat (first | exact Uh | apply Ut)) (.here (.here (.here (.here (.here .nil))))) <| R.done C <| X.perm C.1 (perm_mid [_] [_] _) <| X.persist C.1 fun ro1 hl1 h1 => X.persist C.1 fun ro2 hl2 h2 => X.ret C rfl rfl func79 rfl (by exact (.agg rfl isAgg25 sizeOf25 (by repeat (first | exact Mh | apply Mt)) (.take (.take (.take (.take (.take .nil))))) .nil)) <| hret _ _ _ (RO.le_trans hl1 hl2) (by repeat (first | exact Sr | apply Sc)) ?_
  exact ⟨_, _, rfl, Ls.lit (xs := exB.cs) Rc.len (by first | exact h2 | exact hl2 _ _ h1), Ls.lit (xs := exB.ws) Wt.len (by first | exact h2 | exact hl2 _ _ h1)⟩
theorem earlier_c {va vb : Value} {ro : RO} {a d : List Int} (ha : LsI ro va a) (hc : LsI ro vb d) (h1 : a.length ≤ 1000000) (h2 : d.length ≤ 1000000) : CallP prog J (fnv 114) [va, vb] ro (.bool (earlier a d)) := by
  obtain ⟨ab, ac, rfl⟩ := ha.form
  obtain ⟨bb, bc, rfl⟩ := hc.form
  refine CallP.intro hJ (by kernel_rfl) fun c cs tail hret => enter_X (n := 36) func114 rfl rfl (Nl rfl) ?_
  have C : Ctx prog main J (bf 114 .normal) := ⟨hJ, by decide⟩
  refine Xr C rfl rfl <| Ad C rfl rfl <| Xs C <| Xr C rfl rfl <| Ad C rfl rfl <| X.block C.1 <| X.loopI (ι := Nat) C.1 (fun i => i ≤ a.length ∧ i ≤ d.length ∧ cmpL a d = cmpL (a.drop i) (d.drop i)) (fun i => [(0, .slice ab a.length ac), (1, .slice bb d.length bc), (5, .int .i64 (i : Int))])
    (fun _ => ⟨ro, tail⟩) (fun i => d.length - i) 0 ⟨Nat.zero_le _, Nat.zero_le _, rfl⟩ rfl ⟨rfl, rfl, rfl, trivial⟩ fun i hi hnext => ?_
  obtain ⟨hi, hi2, hcm⟩ := hi
  refine Xs C <| Xr C rfl rfl <| Rm C rfl rfl <| Rm C rfl rfl <| R.lenSlice C rfl rfl rfl runUnderlying28 <| R.int C rfl rfl rfl rfl b_lss <| R.done C <| X.cond C.1 rfl (fun hlt => ?_) (fun hlt => ?_)
  · have hlt := hlt
    simp only [decide_eq_true_eq] at hlt
    have hj' : i < d.length := by omega
    rw [List.drop_eq_getElem_cons hj'] at hcm
    obtain ⟨pp2, off2, cap2, ll2, t2, fq2, hsl2, hrop2, hsub2⟩ := hc.at ic_len (by omega)
    cases hsl2
    have hx2 : ll2[off2 + i * 1]? = some (.int .i64 d[i]) := by have := (hsub2 i hj').get 0 (by decide); simpa [ic] using this
    refine X.skip C.1 <| Xs C <| X.block C.1 <| Xs C <| Xs C <| X.regionD C (by kernel_rfl) (by kernel_rfl) (by kernel_rfl) fun hok => Dm C 0 hok rfl rfl rfl <| Dm C 1 hok rfl rfl rfl <| Dp 2 hok (fun _ _ _ A h => R.lenSlice C rfl (A.w rfl rfl) (A.x rfl rfl) runUnderlying28 h) <| Di C 3 hok rfl rfl rfl rfl rfl b_geq <| Dm C 4 hok rfl rfl rfl <| D.fix (t := 16) rfl (fun hge => ?_) (fun hge => ?_)
    · have hge := hge
      simp only [decide_eq_true_eq] at hge
      obtain rfl : i = a.length := by omega
      refine Dp 5 (v := undef) hok (fun _ _ _ A h => R.pass C rfl (A.w rfl rfl) h) <| Dp 6 (v := undef) hok (fun _ _ _ A h => R.pass C rfl (A.w rfl rfl) h) <| Dp 7 (v := undef) hok (fun _ _ _ A h => R.pass C rfl (A.w rfl rfl) h) <| Dp 8 (v := undef) hok (fun _ _ _ A h => R.pass C rfl (A.w rfl rfl) h) <| Dp 9 (v := undef) hok (fun _ _ _ A h => R.pass C rfl (A.w rfl rfl) h) <| Dp 10 (v := undef) hok (fun _ _ _ A h => R.pass C rfl (A.w rfl rfl) h) <| Dp 11 (v := undef) hok (fun _ _ _ A h => R.pass C rfl (A.w rfl rfl) h) <| Dp 12 (v := undef) hok (fun _ _ _ A h => R.pass C rfl (A.w rfl rfl) h) <| Dp 13 (v := undef) hok (fun _ _ _ A h => R.pass C rfl (A.w rfl rfl) h) <| Dp 14 hok (fun _ _ _ A h => R.pickT C rfl (A.w rfl rfl) (A.x rfl rfl) (A.x rfl rfl) h) <| D.done C hok (by kernel_rfl) <| X.cond C.1 rfl (fun _ => ?_) (fun h => nomatch h)
      refine Xr C rfl rfl <| Ad C rfl rfl <| X.ret C rfl rfl func114 rfl (by exact (.tmp rfl .nil)) <| hret _ _ ?_ (by repeat (first | exact Sr | apply Sc))
      rw [earlier, hcm, List.drop_length]; rfl
    · have hge := hge
      simp only [decide_eq_false_iff_not] at hge
      have hi' : i < a.length := by omega
      rw [List.drop_eq_getElem_cons hi', cmpL] at hcm
      obtain ⟨pp, off, cap, ll, t, fq, hsl, hrop, hsub⟩ := ha.at ic_len (by omega)
      cases hsl
      have hx : ll[off + i * 1]? = some (.int .i64 a[i]) := by have := (hsub i hi').get 0 (by decide); simpa [ic] using this
      refine Dm C 5 hok rfl rfl rfl <| Dm C 6 hok rfl rfl rfl <| Dp 7 hok (fun _ _ _ A h => R.indexAddr C rfl (A.w rfl rfl) (A.x rfl rfl) (A.x rfl rfl) runUnderlying28 sizeOf3 (by omega) (by omega) h) <| Dl 8 hok (fun _ _ A h => R.loadOneRo C rfl (A.w rfl rfl) (A.x rfl rfl) isAgg3 hrop hx h) <| Dm C 9 hok rfl rfl rfl <| Dm C 10 hok rfl rfl rfl <| Dp 11 hok (fun _ _ _ A h => R.indexAddr C rfl (A.w rfl rfl) (A.x rfl rfl) (A.x rfl rfl) runUnderlying28 sizeOf3 (by omega) (by omega) h) <| Dl 12 hok (fun _ _ A h => R.loadOneRo C rfl (A.w rfl rfl) (A.x rfl rfl) isAgg3 hrop2 hx2 h) <| Di C 13 hok rfl rfl rfl rfl rfl b_lss <| Dp 14 hok (fun _ _ _ A h => R.pickF C rfl (A.w rfl rfl) (A.x rfl rfl) (A.x rfl rfl) h) <| D.done C hok (by kernel_rfl) <| X.cond C.1 rfl (fun hls => ?_) (fun hls => ?_)
      · have hls := hls
        simp only [decide_eq_true_eq] at hls
        refine Xr C rfl rfl <| Ad C rfl rfl <| X.ret C rfl rfl func114 rfl (by exact (.tmp rfl .nil)) <| hret _ _ ?_ (by repeat (first | exact Sr | apply Sc))
        have := cmpI_neg.2 hls
        rw [earlier, hcm, if_pos (by omega), decide_eq_true this]; rfl
      · have hls := hls
        simp only [decide_eq_false_iff_not] at hls
        refine X.skip C.1 <| Xs C <| X.regionD C (by kernel_rfl) (by kernel_rfl) (by kernel_rfl) fun hok => Dm C 0 hok rfl rfl rfl <| Dm C 1 hok rfl rfl rfl <| Dp 2 hok (fun _ _ _ A h => R.indexAddr C rfl (A.w rfl rfl) (A.x rfl rfl) (A.x rfl rfl) runUnderlying28 sizeOf3 (by omega) (by omega) h) <| Dl 3 hok (fun _ _ A h => R.loadOneRo C rfl (A.w rfl rfl) (A.x rfl rfl) isAgg3 hrop hx h) <| Dm C 4 hok rfl rfl rfl <| Dm C 5 hok rfl rfl rfl <| Dp 6 hok (fun _ _ _ A h => R.indexAddr C rfl (A.w rfl rfl) (A.x rfl rfl) (A.x rfl rfl) runUnderlying28 sizeOf3 (by omega) (by omega) h) <| Dl 7 hok (fun _ _ A h => R.loadOneRo C rfl (A.w rfl rfl) (A.x rfl rfl) isAgg3 hrop2 hx2 h) <| Di C 8 hok rfl rfl rfl rfl rfl b_gtr <| D.done C hok (by kernel_rfl) <| X.cond C.1 rfl (fun hgt => ?_) (fun hgt => ?_)
        · have hgt := hgt
          simp only [decide_eq_true_eq] at hgt
          refine Xr C rfl rfl <| Ad C rfl rfl <| X.ret C rfl rfl func114 rfl (by exact (.tmp rfl .nil)) <| hret _ _ ?_ (by repeat (first | exact Sr | apply Sc))
          have h3 : ¬ cmpI a[i] d[i] < 0 := fun h => by have := cmpI_neg.1 h; omega
          have h4 : cmpI a[i] d[i] ≠ 0 := fun h => by have := cmpI_zero.1 h; omega
          rw [earlier, hcm, if_pos h4, decide_eq_false h3]; rfl
        · have hgt := hgt
          simp only [decide_eq_false_iff_not] at hgt
          refine X.skip C.1 <| X.inBlock C.1 <| X.region C rfl rfl <| Rm C rfl rfl <| R.int C rfl rfl rfl rfl (b_add (by omega) (by omega)) <| Ad C rfl rfl ?_
          rw [if_neg (by rw [Decidable.not_not, cmpI_zero]; omega)] at hcm
          refine X.weaken ?_ (hnext (i + 1) ⟨hi', hj', hcm⟩ (by omega))
          exact ⟨rfl, rfl, by simp [look], trivial⟩
  · have hlt := hlt
    simp only [decide_eq_false_iff_not] at hlt
    obtain rfl : i = d.length := by omega
    rw [List.drop_length] at hcm
    refine X.exit C.1 rfl <| Xr C rfl rfl <| Ad C rfl rfl <| X.ret C rfl rfl func114 rfl (by exact (.tmp rfl .nil)) <| hret _ _ ?_ (by repeat (first | exact Sr | apply Sc))
    have : ¬ cmpL (a.drop d.length) [] < 0 := by cases a.drop d.length <;> simp [cmpL]
    rw [earlier, hcm, decide_eq_false this]; rfl
theorem sameInts_c {va vb : Value} {ro : RO} {a d : List Int} (ha : LsI ro va a) (hc : LsI ro vb d) (h1 : a.length ≤ 1000000) (h2 : d.length ≤ 1000000) : CallP prog J (fnv 39) [va, vb] ro (.bool (sameInts a d)) := by
  refine CallP.intro hJ (by kernel_rfl) fun c cs tail hret => enter_X (n := 15) func39 rfl rfl (Nl rfl) ?_
  have C : Ctx prog main J (bf 39 .normal) := ⟨hJ, by decide⟩
  refine Xr C rfl rfl <| Ad C rfl rfl <| Xr C rfl rfl <| Rm C rfl rfl <| Rm C rfl rfl <| R.callP C rfl rfl rfl rfl (earlier_c hJ ha hc h1 h2) <| R.not C rfl rfl rfl <| Rm C rfl rfl <| R.fix (t := 9) rfl (fun q1 => ?_) (fun q1 => ?_)
  · have q1 := q1
    refine Rm C rfl rfl <| Rm C rfl rfl <| R.callP C rfl rfl rfl rfl (earlier_c hJ hc ha h2 h1) <| R.not C rfl rfl rfl <| R.pickT C rfl rfl rfl rfl <| Ad C rfl rfl <| X.ret C rfl rfl func39 rfl (by exact (.tmp rfl .nil)) <| hret _ _ ?_ (by repeat (first | exact Sr | apply Sc))
    first | (simp_all [sameInts, retVal]; done)
  · have q1 := q1
    refine R.pass C rfl rfl <| R.pass C rfl rfl <| R.pass C rfl rfl <| R.pass C rfl rfl <| R.pickF C rfl rfl rfl rfl <| Ad C rfl rfl <| X.ret C rfl rfl func39 rfl (by exact (.tmp rfl .nil)) <| hret _ _ ?_ (by repeat (first | exact Sr | apply Sc))
    first | (simp_all [sameInts, retVal]; done)
theorem sameSquares_c {va vb : Value} {ro : RO} {a d : List Sq} (ha : LsS ro va a) (hc : LsS ro vb d) (h1 : a.length ≤ 1000000) (h2 : d.length ≤ 1000000) : CallP prog J (fnv 30) [va, vb] ro (.bool (decide (a = d))) := by
  obtain ⟨ab, ac, rfl⟩ := ha.form
  obtain ⟨bb, bc, rfl⟩ := hc.form
  refine CallP.intro hJ (by kernel_rfl) fun c cs tail hret => enter_X (n := 26) func30 rfl rfl (Nl rfl) ?_
  have C : Ctx prog main J (bf 30 .normal) := ⟨hJ, by decide⟩
  refine Xr C rfl rfl <| Ad C rfl rfl <| Xs C <| Xr C rfl rfl <| Rm C rfl rfl <| R.lenSlice C rfl rfl rfl runUnderlying41 <| Rm C rfl rfl <| R.lenSlice C rfl rfl rfl runUnderlying41 <| R.int C rfl rfl rfl rfl b_neq <| R.done C <| X.cond C.1 rfl (fun hne => ?_) (fun hne => ?_)
  · have hne := hne
    refine Xr C rfl rfl <| Ad C rfl rfl <| X.ret C rfl rfl func30 rfl (by exact (.tmp rfl .nil)) <| hret _ _ ?_ (by repeat (first | exact Sr | apply Sc))
    have : a ≠ d := fun e => by subst e; simp at hne
    simp [this, retVal]
  · have hne := hne
    have hlen : a.length = d.length := by simp at hne; omega
    refine X.skip C.1 <| Xs C <| Xr C rfl rfl <| Ad C rfl rfl <| X.block C.1 <| X.loopI (ι := Nat) C.1 (fun i => i ≤ a.length ∧ a.take i = d.take i) (fun i => [(0, .slice ab a.length ac), (1, .slice bb d.length bc), (5, .int .i64 (i : Int))])
      (fun _ => ⟨ro, tail⟩) (fun i => a.length - i) 0 ⟨Nat.zero_le _, rfl⟩ rfl ⟨rfl, rfl, rfl, trivial⟩ fun i hi hnext => ?_
    obtain ⟨hi, hcm⟩ := hi
    refine Xs C <| Xr C rfl rfl <| Rm C rfl rfl <| Rm C rfl rfl <| R.lenSlice C rfl rfl rfl runUnderlying41 <| R.int C rfl rfl rfl rfl b_lss <| R.done C <| X.cond C.1 rfl (fun hlt => ?_) (fun hlt => ?_)
    · have hlt := hlt
      simp only [decide_eq_true_eq] at hlt
      have hi' : i < a.length := by omega
      have hj' : i < d.length := by omega
      obtain ⟨pp, off, cap, ll, t, fq, hsl, hrop, hsub⟩ := ha.at Sq.len (by omega)
      cases hsl
      obtain ⟨pp2, off2, cap2, ll2, t2, fq2, hsl2, hrop2, hsub2⟩ := hc.at Sq.len (by omega)
      cases hsl2
      have hta : a.take (i + 1) = a.take i ++ [a[i]] := List.take_succ_eq_append_getElem hi'
      have htd : d.take (i + 1) = d.take i ++ [d[i]] := List.take_succ_eq_append_getElem hj'
      have hgn : a[i] ≠ d[i] → a ≠ d := fun h e => h (by subst e; rfl)
      refine X.skip C.1 <| Xs C <| X.block C.1 <| Xs C <| X.regionD C (by kernel_rfl) (by kernel_rfl) (by kernel_rfl) fun hok => Dm C 0 hok rfl rfl rfl <| Dm C 1 hok rfl rfl rfl <| Dp 2 hok (fun _ _ _ A h => R.indexAddr C rfl (A.w rfl rfl) (A.x rfl rfl) (A.x rfl rfl) runUnderlying41 sizeOf27 (by omega) (by omega) h) <| Dl 3 hok (fun _ _ A h => R.loadAggRo C rfl (A.w rfl rfl) (A.x rfl rfl) isAgg27 sizeOf27 hrop (hsub i hi') h) <| Dm C 4 hok rfl rfl rfl <| Dm C 5 hok rfl rfl rfl <| Dp 6 hok (fun _ _ _ A h => R.indexAddr C rfl (A.w rfl rfl) (A.x rfl rfl) (A.x rfl rfl) runUnderlying41 sizeOf27 (by omega) (by omega) h) <| Dl 7 hok (fun _ _ A h => R.loadAggRo C rfl (A.w rfl rfl) (A.x rfl rfl) isAgg27 sizeOf27 hrop2 (hsub2 i hj') h) <| Dp 8 hok (fun _ _ _ A h => R.neAgg (p := [(a[i]).e, (a[i]).n]) (q := [(d[i]).e, (d[i]).n]) C rfl (A.w rfl rfl) (A.x rfl rfl) (A.x rfl rfl) eqT27 rfl rfl (by kernel_rfl) h) <| D.done C hok (by kernel_rfl) <| X.cond C.1 rfl (fun hne2 => ?_) (fun hne2 => ?_)
      · have hne2 := hne2
        refine Xr C rfl rfl <| Ad C rfl rfl <| X.ret C rfl rfl func30 rfl (by exact (.tmp rfl .nil)) <| hret _ _ ?_ (by repeat (first | exact Sr | apply Sc))
        have : a ≠ d := hgn (fun e => by rw [e] at hne2; simp at hne2)
        simp [this, retVal]
      · have hne2 := hne2
        have hxy : a[i] = d[i] := by
          generalize a[i] = x at hne2 ⊢
          generalize d[i] = y at hne2 ⊢
          obtain ⟨_, _⟩ := x; obtain ⟨_, _⟩ := y; simp at hne2 ⊢; omega
        refine X.skip C.1 <| X.inBlock C.1 <| X.region C rfl rfl <| Rm C rfl rfl <| R.int C rfl rfl rfl rfl (b_add (by omega) (by omega)) <| Ad C rfl rfl <| X.weaken ?_ (hnext (i + 1) ⟨hi', by rw [hta, htd, hcm, hxy]⟩ (by omega))
        exact ⟨rfl, rfl, by simp [look], trivial⟩
    · have hlt := hlt
      simp only [decide_eq_false_iff_not] at hlt
      obtain rfl : i = a.length := by omega
      rw [List.take_length, hlen, List.take_length] at hcm
      refine X.exit C.1 rfl <| Xr C rfl rfl <| Ad C rfl rfl <| X.ret C rfl rfl func30 rfl (by exact (.tmp rfl .nil)) <| hret _ _ ?_ (by repeat (first | exact Sr | apply Sc))
      simp [hcm, retVal]
end Go.Lg.B
namespace Go.Lg.B
open Go Go.Conc Go.Lg Go.Proofs Go.Proofs.Tryz
theorem asc_unique : ∀ {a c : List Int}, a.Pairwise (· < ·) → c.Pairwise (· < ·) → (∀ x, x ∈ a ↔ x ∈ c) → a = c
  | [], [], _, _, _ => rfl
  | [], y :: c, _, _, h => absurd ((h y).2 List.mem_cons_self) (by simp)
  | x :: a, [], _, _, h => absurd ((h x).1 List.mem_cons_self) (by simp)
  | x :: a, y :: c, ha, hc, h => by
    rw [List.pairwise_cons] at ha hc
    have hxy : x = y := by
      rcases List.mem_cons.1 ((h x).1 List.mem_cons_self) with e | e
      · exact e
      · rcases List.mem_cons.1 ((h y).2 List.mem_cons_self) with e2 | e2
        · exact e2.symm
        · have := hc.1 x e
          have := ha.1 y e2
          omega
    subst hxy
    rw [asc_unique ha.2 hc.2 fun z => ?_]
    have hz := h z
    simp only [List.mem_cons] at hz
    constructor
    · intro hm
      rcases hz.1 (.inr hm) with e | e
      · have := ha.1 z hm; omega
      · exact e
    · intro hm
      rcases hz.2 (.inr hm) with e | e
      · have := hc.1 z hm; omega
      · exact e
theorem asc_last {acc : List Int} {x : Int} (h : acc.Pairwise (· < ·)) (hx : x ∈ acc) (hm : ∀ y ∈ acc, y ≤ x) : acc.getLast? = some x := by
  induction acc with
  | nil => cases hx
  | cons y acc ih =>
    rw [List.pairwise_cons] at h
    cases acc with
    | nil =>
      simp only [List.mem_singleton] at hx
      subst hx; rfl
    | cons z acc =>
      have hx' : x ∈ z :: acc := by
        rcases List.mem_cons.1 hx with e | e
        · have := h.1 z List.mem_cons_self
          have := hm z (by simp)
          omega
        · exact e
      have := ih h.2 hx' fun w hw => hm w (List.mem_cons_of_mem _ hw)
      rw [List.getLast?_cons_cons]; exact this
theorem fold_asc : ∀ (l acc : List Int), acc.Pairwise (· < ·) → l.Pairwise (· ≤ ·) → (∀ x ∈ acc, ∀ y ∈ l, x ≤ y) → (l.foldl cstep acc).Pairwise (· < ·) ∧ ∀ x, x ∈ l.foldl cstep acc ↔ x ∈ acc ∨ x ∈ l
  | [], acc, h, _, _ => ⟨h, fun x => by simp⟩
  | x :: l, acc, h, hl, hle => by
    rw [List.pairwise_cons] at hl
    have hax : ∀ y ∈ acc, y ≤ x := fun y hy => hle y hy x List.mem_cons_self
    rw [List.foldl_cons]
    by_cases hc : acc.getLast? = some x
    · rw [cstep, if_pos hc]
      have hxa : x ∈ acc := List.mem_of_getLast? hc
      have := fold_asc l acc h hl.2 fun a ha y hy => hle a ha y (List.mem_cons_of_mem _ hy)
      refine ⟨this.1, fun z => ?_⟩
      rw [this.2, List.mem_cons]
      constructor
      · rintro (h | h)
        · exact .inl h
        · exact .inr (.inr h)
      · rintro (h | rfl | h)
        · exact .inl h
        · exact .inl hxa
        · exact .inr h
    · rw [cstep, if_neg hc]
      have hlt : ∀ y ∈ acc, y < x := fun y hy => by
        have := hax y hy
        by_cases e : y = x
        · subst e; exact absurd (asc_last h hy hax) hc
        · omega
      have := fold_asc l (acc ++ [x]) (by
        rw [List.pairwise_append]
        exact ⟨h, by simp, fun a ha b hb => by simp only [List.mem_singleton] at hb; subst hb; exact hlt a ha⟩) hl.2 (fun a ha y hy => by
          rcases List.mem_append.1 ha with e | e
          · exact hle a e y (List.mem_cons_of_mem _ hy)
          · simp only [List.mem_singleton] at e; subst e; exact hl.1 y hy)
      refine ⟨this.1, fun z => ?_⟩
      rw [this.2]
      have e1 : (z ∈ acc ++ [x]) ↔ (z ∈ acc ∨ z = x) := by rw [List.mem_append, List.mem_singleton]
      rw [e1, List.mem_cons]
      constructor
      · rintro ((h | h) | h)
        · exact .inl h
        · exact .inr (.inl h)
        · exact .inr (.inr h)
      · rintro (h | h | h)
        · exact .inl (.inl h)
        · exact .inl (.inr h)
        · exact .inr h
theorem compact_sort {l r : List Int} (hr : r.Pairwise (· < ·)) (h : ∀ x, x ∈ r ↔ x ∈ l) : compactL (l.mergeSort fun x y => decide (x ≤ y)) = r := by
  have hs : (l.mergeSort fun x y => decide (x ≤ y)).Pairwise (· ≤ ·) := by
    have := List.pairwise_mergeSort (le := fun x y : Int => decide (x ≤ y)) (by intro a b c; simp; omega) (by intro a b; simp; omega) l
    exact this.imp (by intro a b; simp)
  have hf := fold_asc _ [] .nil hs (by simp)
  refine asc_unique hf.1 hr fun x => ?_
  show x ∈ List.foldl cstep [] _ ↔ _
  rw [hf.2, h]
  simp [(List.mergeSort_perm l _).mem_iff]
theorem offOf_eq {b : Bk} {k : Int} {r : List Int} (h0 : (openH b (b.compass k) == 0) = true) (hr : r.Pairwise (· < ·)) (h : ((((cases b).map fun c => c.a.off k).all fun x => r.contains x) && (r.all fun x => ((cases b).map fun c => c.a.off k).contains x)) = true) : offOf b k = (r, 0) := by
  simp only [Bool.and_eq_true, List.all_eq_true, List.contains_iff_mem] at h
  rw [offOf, if_neg (by simpa using h0), compact_sort hr fun x => ⟨h.2 x, h.1 x⟩]
theorem ex_off : offOf exB 1 = ([0, 1], 0) := offOf_eq (by kernel_rfl) (by decide) (by kernel_rfl)
theorem ex_off0 : offOf { exB with f := 0 } 1 = ([1], 0) := offOf_eq (by kernel_rfl) (by decide) (by kernel_rfl)
end Go.Lg.B
namespace Go.Lg.B
open Go Go.Conc Go.Lg Go.Proofs Go.Proofs.Tryz
def exO : Bk := heard exB ⟨⟨4, 2⟩, 6, 0, false⟩
def exT : Bk := trusted exB 0
def exS : Bk := swung exB 1 ⟨0, 0⟩
def ex0 : Bk := { exB with f := 0 }
theorem k_true1 : true_ ⟨0, 0⟩ ⟨2, 1⟩ = (1, 0) := by kernel_rfl
theorem k_true2 : true_ ⟨0, 0⟩ ⟨5, -2⟩ = (2, 0) := by kernel_rfl
theorem k_is1 : isCase exB ⟨⟨2, 1⟩, [0, 1], []⟩ = (true, 0) := by kernel_rfl
theorem k_is2 : isCase exB ⟨⟨2, 1⟩, [0, 0], []⟩ = (false, 0) := by kernel_rfl
theorem k_check : checkChart exB = 0 := by kernel_rfl
theorem k_cases : (cases exB).length = 14 := by kernel_rfl
theorem k_open : openH exB 0 = 0 := by kernel_rfl
theorem k_where : wheres exB = [⟨0, 0⟩, ⟨1, 0⟩, ⟨2, 0⟩, ⟨2, 1⟩, ⟨1, 2⟩, ⟨2, 2⟩] := by kernel_rfl
theorem k_box : box exB = (⟨0, 2⟩, ⟨0, 2⟩) := by kernel_rfl
theorem k_at1 : told exB (exB.square ⟨2, 0⟩) (fun c => decide (c.a.s = ⟨2, 0⟩)) = (0, 0) := by kernel_rfl
theorem k_at2 : told exB (exB.square ⟨0, 1⟩) (fun c => decide (c.a.s = ⟨0, 1⟩)) = (2, 0) := by kernel_rfl
theorem k_ask : ask exB = (0, 10, 0) := by kernel_rfl
theorem k_hear : hearH exB ⟨⟨4, 2⟩, 6, 0, false⟩ = 0 := by kernel_rfl
theorem k_ocheck : checkChart exO = 0 := by kernel_rfl
theorem k_ocases : (cases exO).length = 4 := by kernel_rfl
theorem k_few : fewest exO = ([0], 0) := by kernel_rfl
theorem k_clash : clash exO = ([0, 3], 0) := by kernel_rfl
theorem k_trust : trustH exB 0 = 0 := by kernel_rfl
theorem k_tcheck : checkChart exT = 0 := by kernel_rfl
theorem k_tcases : (cases exT).length = 10 := by kernel_rfl
theorem k_swing : swingH exB 1 ⟨0, 0⟩ = 0 := by kernel_rfl
theorem k_scheck : checkChart exS = 0 := by kernel_rfl
theorem k_scases : (cases exS).length = 4 := by kernel_rfl
theorem k_open0 : openH ex0 0 = 0 := by kernel_rfl
theorem k_where0 : wheres ex0 = [⟨2, 0⟩, ⟨2, 1⟩] := by kernel_rfl
theorem k_false : told exB (exB.witness 0) (fun c => c.m.testBit (0 : Int).toNat) = (0, 0) := by kernel_rfl
theorem k_short : exB.short := ⟨by decide, by decide⟩
theorem k_shortO : exO.short := ⟨by decide, by decide⟩
theorem k_shortT : exT.short := ⟨by decide, by decide⟩
theorem k_shortS : exS.short := ⟨by decide, by decide⟩
theorem k_short0 : ex0.short := ⟨by decide, by decide⟩
theorem CallR.to {J : Goroutine → Mem → Prop} {fv : Value} {args : List Value} {ro : RO} {w1 w0 : Value} (h : CallR prog J fv args ro fun w _ => w = w1) (e : w1 = w0) : CallR prog J fv args ro fun w _ => w = w0 := by subst e; exact h
variable {main : Bool} {J : Goroutine → Mem → Prop} (hJ : Closed prog main J)
include hJ
theorem x_is1 {v vk : Value} {ro : RO} (he : Env ro) (hv : BkV ro v exB) (hk : CsV ro vk ⟨⟨2, 1⟩, [0, 1], []⟩) : CallR prog J (fnv 22) [v, vk] ro fun w _ => w = .tuple [.bool true, .int .i64 0].toArray := CallR.to (isCase_c hJ he hv k_short hk ⟨by decide, by decide⟩) (by rw [k_is1])
theorem x_is2 {v vk : Value} {ro : RO} (he : Env ro) (hv : BkV ro v exB) (hk : CsV ro vk ⟨⟨2, 1⟩, [0, 0], []⟩) : CallR prog J (fnv 22) [v, vk] ro fun w _ => w = .tuple [.bool false, .int .i64 0].toArray := CallR.to (isCase_c hJ he hv k_short hk ⟨by decide, by decide⟩) (by rw [k_is2])
theorem x_cases {v : Value} {ro : RO} (he : Env ro) (hv : BkV ro v exB) : CallR prog J (fnv 26) [v] ro fun w _ => w = .tuple [.int .i64 14, .int .i64 0].toArray := CallR.to (cases_c hJ he hv k_short) (by rw [k_check, k_cases]; rfl)
theorem x_casesO {v : Value} {ro : RO} (he : Env ro) (hv : BkV ro v exO) : CallR prog J (fnv 26) [v] ro fun w _ => w = .tuple [.int .i64 4, .int .i64 0].toArray := CallR.to (cases_c hJ he hv k_shortO) (by rw [k_ocheck, k_ocases]; rfl)
theorem x_casesT {v : Value} {ro : RO} (he : Env ro) (hv : BkV ro v exT) : CallR prog J (fnv 26) [v] ro fun w _ => w = .tuple [.int .i64 10, .int .i64 0].toArray := CallR.to (cases_c hJ he hv k_shortT) (by rw [k_tcheck, k_tcases]; rfl)
theorem x_casesS {v : Value} {ro : RO} (he : Env ro) (hv : BkV ro v exS) : CallR prog J (fnv 26) [v] ro fun w _ => w = .tuple [.int .i64 4, .int .i64 0].toArray := CallR.to (cases_c hJ he hv k_shortS) (by rw [k_scheck, k_scases]; rfl)
theorem x_where {v : Value} {ro : RO} (he : Env ro) (hv : BkV ro v exB) : CallR prog J (fnv 28) [v] ro fun w ro' => ∃ vs, LsS ro' vs [⟨0, 0⟩, ⟨1, 0⟩, ⟨2, 0⟩, ⟨2, 1⟩, ⟨1, 2⟩, ⟨2, 2⟩] ∧ w = .tuple [vs, .int .i64 0].toArray := by
  have := where_c hJ he hv k_short
  rwa [k_where, k_open] at this
theorem x_where0 {v : Value} {ro : RO} (he : Env ro) (hv : BkV ro v ex0) : CallR prog J (fnv 28) [v] ro fun w ro' => ∃ vs, LsS ro' vs [⟨2, 0⟩, ⟨2, 1⟩] ∧ w = .tuple [vs, .int .i64 0].toArray := by
  have := where_c hJ he hv k_short0
  rwa [k_where0, k_open0] at this
theorem x_box {v : Value} {ro : RO} (he : Env ro) (hv : BkV ro v exB) : CallR prog J (fnv 31) [v] ro fun w _ => w = .tuple [Rc.val ⟨0, 2⟩, Rc.val ⟨0, 2⟩, .int .i64 0].toArray := CallR.to (box_c hJ he hv k_short) (by rw [k_box, k_open])
theorem x_at1 {v : Value} {ro : RO} (he : Env ro) (hv : BkV ro v exB) : CallR prog J (fnv 33) [v, Sq.val ⟨2, 0⟩] ro fun w _ => w = .tuple [.int .i64 0, .int .i64 0].toArray := CallR.to (at_c hJ he hv k_short ⟨2, 0⟩) (by rw [k_at1])
theorem x_at2 {v : Value} {ro : RO} (he : Env ro) (hv : BkV ro v exB) : CallR prog J (fnv 33) [v, Sq.val ⟨0, 1⟩] ro fun w _ => w = .tuple [.int .i64 2, .int .i64 0].toArray := CallR.to (at_c hJ he hv k_short ⟨0, 1⟩) (by rw [k_at2])
theorem x_off {v : Value} {ro : RO} (he : Env ro) (hv : BkV ro v exB) : CallR prog J (fnv 35) [v, .int .i64 1] ro fun w ro' => ∃ vl, LsI ro' vl [0, 1] ∧ w = .tuple [vl, .int .i64 0].toArray := by
  have := off_c hJ he hv k_short 1
  rwa [ex_off] at this
theorem x_off0 {v : Value} {ro : RO} (he : Env ro) (hv : BkV ro v ex0) : CallR prog J (fnv 35) [v, .int .i64 1] ro fun w ro' => ∃ vl, LsI ro' vl [1] ∧ w = .tuple [vl, .int .i64 0].toArray := by
  have := off_c hJ he hv k_short0 1
  rwa [show offOf ex0 1 = ([1], 0) from ex_off0] at this
theorem x_false {v : Value} {ro : RO} (he : Env ro) (hv : BkV ro v exB) : CallR prog J (fnv 37) [v, .int .i64 0] ro fun w _ => w = .tuple [.int .i64 0, .int .i64 0].toArray := CallR.to (false_c hJ he hv k_short 0) (by rw [k_false])
theorem x_ask {v : Value} {ro : RO} (he : Env ro) (hv : BkV ro v exB) : CallR prog J (fnv 58) [v] ro fun w _ => w = .tuple [.int .i64 0, .int .i64 10, .int .i64 0].toArray := CallR.to (ask_c hJ he hv k_short) (by rw [k_ask])
omit hJ in
theorem new_zero {b : Bk} {h : Int} {ro : RO} {w : Value} (hn : NewV ro b h w) (h0 : h = 0) : ∃ v, BkV ro v b ∧ w = .tuple [v, .int .i64 0].toArray := hn.elim (fun x => absurd h0 x.1) (fun x => x.2)
omit hJ in
theorem CallR.imp {J : Goroutine → Mem → Prop} {fv : Value} {args : List Value} {ro : RO} {A B : Value → RO → Prop} (h : CallR prog J fv args ro A) (e : ∀ v r, A v r → B v r) : CallR prog J fv args ro B := CallR.mono h fun v r _ x => e v r x
theorem x_hear {v : Value} {ro : RO} (he : Env ro) (hv : BkV ro v exB) : CallR prog J (fnv 40) [v, Wt.val ⟨⟨4, 2⟩, 6, 0, false⟩] ro fun w ro' => ∃ v', BkV ro' v' exO ∧ w = .tuple [v', .int .i64 0].toArray := CallR.imp (hear_c hJ he hv k_short _) fun _ _ h => new_zero h k_hear
theorem x_trust {v : Value} {ro : RO} (he : Env ro) (hv : BkV ro v exB) : CallR prog J (fnv 43) [v, .int .i64 0] ro fun w ro' => ∃ v', BkV ro' v' exT ∧ w = .tuple [v', .int .i64 0].toArray := CallR.imp (trust_c hJ he hv k_short 0) fun _ _ h => new_zero h k_trust
theorem x_swing {v : Value} {ro : RO} (he : Env ro) (hv : BkV ro v exB) : CallR prog J (fnv 45) [v, .int .i64 1, Rc.val ⟨0, 0⟩] ro fun w ro' => ∃ v', BkV ro' v' exS ∧ w = .tuple [v', .int .i64 0].toArray := CallR.imp (swing_c hJ he hv k_short 1 ⟨0, 0⟩) fun _ _ h => new_zero h k_swing
omit hJ in
theorem x_few {Q : Machine → Outcome → World → Trace → Prop} {v : Value} {ro : RO} (he : Env ro) (hv : BkV ro v exO) : CallR prog (JM prog Q) (fnv 51) [v] ro fun w ro' => ∃ vl, LsI ro' vl [0] ∧ w = .tuple [vl, .int .i64 0].toArray := by
  have := fewest_c (Q := Q) he hv k_shortO
  rwa [k_few] at this
omit hJ in
theorem x_clash {Q : Machine → Outcome → World → Trace → Prop} {v : Value} {ro : RO} (he : Env ro) (hv : BkV ro v exO) : CallR prog (JM prog Q) (fnv 63) [v] ro fun w ro' => ∃ vl, LsI ro' vl [0, 3] ∧ w = .tuple [vl, .int .i64 0].toArray := by
  have := clash_c (Q := Q) he hv k_shortO
  rwa [k_clash] at this
end Go.Lg.B
namespace Go.Lg.B
open Go Go.Conc Go.Lg Go.Proofs Go.Proofs.Tryz
noncomputable def b19 : Code := Tryz.f19.body.getD .skip
noncomputable def g20 : Code := cR (cR (cR (cR (cR (cR (cR (cR (cR (cR (cR (cR (cR (cR (cR (cR (cR (cR (cR (cR (b19))))))))))))))))))))
def exCells (cb wb : Option Addr) (cc wc : Nat) (f : Int) : List Value := [.int .i64 3, .int .i64 3, .int .i64 f, .slice cb 2 cc, .slice wb 3 wc]
variable {Q : Machine → Outcome → World → Trace → Prop}
theorem found_end {p1 p24 : Nat} {cb wb : Option Addr} {cc wc : Nat} {ro : RO} {c : Frame} {cs : List Frame} {tail : List (Nat × Obj)} {x1 x2 x3 x4 x5 : Value} (he : Env ro) (hc : Ls Rc.cells 2 ro (.slice cb 2 cc) exB.cs) (hw : Ls Wt.cells 5 ro (.slice wb 3 wc) exB.ws)
    (hret : ∀ ro' own, ro.le ro' → tail.Sublist own → JM prog Q (G (c.finish (.bool true)) cs) ⟨ro', own⟩) :
    X (JM prog Q) (bf 19 .normal) (c :: cs) 340 [.code g20] [] [(1, .pointer (some ⟨p1, 0, none⟩)), (24, .pointer (some ⟨p24, 0, none⟩))] ⟨ro, (p24, .cells [x1, x2, x3, x4, x5].toArray 25 (0, 0)) :: (p1, .cells [.int .i64 3, .int .i64 3, .int .i64 1, .slice cb 2 cc, .slice wb 3 wc].toArray 25 (0, 0)) :: tail⟩ := by
  have hJ : Closed prog true (JM prog Q) := JM.closed
  let main := true
  let J := JM prog Q
  have C : Ctx prog true (JM prog Q) (bf 19 .normal) := ⟨hJ, by decide⟩
  have hv : BkV ro (.agg [.int .i64 3, .int .i64 3, .int .i64 1, .slice cb 2 cc, .slice wb 3 wc].toArray) exB := ⟨_, _, rfl, hc, hw⟩
  refine Xr C rfl rfl <| R.loadAgg C rfl rfl rfl isAgg25 sizeOf25 (by repeat (first | exact Mh | apply Mt)) (.take (.take (.take (.take (.take .nil))))) <| R.callR C rfl rfl rfl rfl ((x_trust hJ he hv)) fun v1 ro1 hl1 hq1 => ?_
  obtain ⟨v1, hv1, rfl⟩ := hq1
  have hv1' := hv1
  obtain ⟨vc1, vw1, rfl, hc1, hw1⟩ := hv1
  obtain ⟨cb1, cc1, rfl⟩ := hc1.form
  obtain ⟨wb1, wc1, rfl⟩ := hw1.form
  have he1 := he.mono hl1
  refine Rm C rfl rfl <| R.ext C rfl rfl rfl rfl <| R.ext C rfl rfl rfl rfl <| R.store C rfl rfl rfl rfl sizeOf25 rfl rfl rfl (by repeat (first | exact Uh | apply Ut)) (.here (.here (.here (.here (.here .nil))))) <| Ad C rfl rfl <| Xr C rfl rfl <| R.loadAgg C rfl rfl rfl isAgg25 sizeOf25 (by repeat (first | exact Mh | apply Mt)) (.take (.take (.take (.take (.take .nil))))) <| R.callR C rfl rfl rfl rfl ((x_casesT hJ he1 hv1')) fun v2 ro2 hl2 hq2 => ?_
  subst hq2
  have he2 := he1.mono hl2
  have hl12 := RO.le_trans hl1 hl2
  refine Rm C rfl rfl <| R.ext C rfl rfl rfl rfl <| R.ext C rfl rfl rfl rfl <| R.asg C rfl rfl rfl <| Ad C rfl rfl <| Xs C <| X.regionD C (by kernel_rfl) (by kernel_rfl) (by kernel_rfl) fun hok => Dl 0 hok (fun _ _ A h => R.loadAgg C rfl (A.w rfl rfl) (A.x rfl rfl) isAgg25 sizeOf25 (by repeat (first | exact Mh | apply Mt)) (.take (.take (.take (.take (.take .nil))))) h) <| D.eP (i := 1) (dst := (some 278)) [true] hok rfl (by kernel_rfl) (by kernel_rfl) (fun σr rest A hk => ?_)
  refine R.callP C rfl (A.w rfl rfl) (A.x rfl rfl) (A.s rfl rfl) (one_c hJ _ _) (hk _ _ ⟨(QFs.cons (QF.of rfl (fun _ _ A h => R.loadAgg C rfl (A.w rfl rfl) (A.x rfl rfl) isAgg25 sizeOf25 (by repeat (first | exact Mh | apply Mt)) (.take (.take (.take (.take (.take .nil))))) h)) QFs.nil), ?_⟩)
  refine D.eP (i := 2) (dst := (some 279)) [false] hok rfl (by kernel_rfl) (by kernel_rfl) (fun σr rest A hk => ?_)
  refine R.callR C rfl (A.w rfl rfl) (A.x rfl rfl) (A.s rfl rfl) ((x_swing hJ he2 (hv.mono hl12))) fun v3 ro3 hl3 hq3 => hk _ _ ⟨QFs.nil, ?_⟩
  obtain ⟨v3, hv3, rfl⟩ := hq3
  have hv3' := hv3
  obtain ⟨vc3, vw3, rfl, hc3, hw3⟩ := hv3
  obtain ⟨cb3, cc3, rfl⟩ := hc3.form
  obtain ⟨wb3, wc3, rfl⟩ := hw3.form
  have he3 := he2.mono hl3
  refine Dm C 3 hok rfl rfl rfl <| Dp 4 hok (fun _ _ _ A h => R.ext C rfl (A.w rfl rfl) (A.x rfl rfl) rfl h) <| Dp 5 hok (fun _ _ _ A h => R.ext C rfl (A.w rfl rfl) (A.x rfl rfl) rfl h) <| D.eP (i := 6) (dst := none) [] hok rfl (by kernel_rfl) (by kernel_rfl) (fun σr rest A hk => ?_)
  refine R.store C rfl (A.w rfl rfl) (A.x rfl rfl) (A.x rfl rfl) sizeOf25 rfl rfl rfl (by repeat (first | exact Uh | apply Ut)) (.here (.here (.here (.here (.here .nil))))) (hk undef _ ⟨QFs.nil, ?_⟩)
  refine Dp 7 hok (fun _ _ _ A h => R.asg C rfl (A.w rfl rfl) (A.x rfl rfl) h) <| D.done C hok (by kernel_rfl) <| Xr C rfl rfl <| R.loadAgg C rfl rfl rfl isAgg25 sizeOf25 (by repeat (first | exact Mh | apply Mt)) (.take (.take (.take (.take (.take .nil))))) <| R.callR C rfl rfl rfl rfl ((x_casesS hJ he3 hv3')) fun v4 ro4 hl4 hq4 => ?_
  subst hq4
  have he4 := he3.mono hl4
  have hl14 := RO.le_trans hl12 (RO.le_trans hl3 hl4)
  have hv0 : BkV ro4 (.agg [.int .i64 3, .int .i64 3, .int .i64 0, .slice cb 2 cc, .slice wb 3 wc].toArray) ex0 := ⟨_, _, rfl, hc.mono hl14, hw.mono hl14⟩
  refine Rm C rfl rfl <| R.ext C rfl rfl rfl rfl <| R.ext C rfl rfl rfl rfl <| R.asg C rfl rfl rfl <| Ad C rfl rfl <| Xr C rfl rfl <| R.fieldAddr (off' := 2) C rfl rfl rfl runUnderlying25 rfl sizeOf3 rfl <| R.store C rfl rfl rfl rfl sizeOf3 rfl rfl rfl (by repeat (first | exact Uh | apply Ut)) (.skip (.skip (.here .nil))) <| R.done C <| Xr C rfl rfl <| R.loadAgg C rfl rfl rfl isAgg25 sizeOf25 (by repeat (first | exact Mh | apply Mt)) (.take (.take (.take (.take (.take .nil))))) <| R.callR C rfl rfl rfl rfl ((x_where0 hJ he4 hv0)) fun v5 ro5 hl5 hq5 => ?_
  obtain ⟨vs, hvs, rfl⟩ := hq5
  have he5 := he4.mono hl5
  refine Rm C rfl rfl <| R.ext C rfl rfl rfl rfl <| R.ext C rfl rfl rfl rfl <| R.asg C rfl rfl rfl <| Ad C rfl rfl <| Xr C rfl rfl <| R.loadAgg C rfl rfl rfl isAgg25 sizeOf25 (by repeat (first | exact Mh | apply Mt)) (.take (.take (.take (.take (.take .nil))))) <| R.callR C rfl rfl rfl rfl ((x_off0 hJ he5 (hv0.mono hl5))) fun v6 ro6 hl6 hq6 => ?_
  obtain ⟨vl, hvl, rfl⟩ := hq6
  refine Rm C rfl rfl <| R.ext C rfl rfl rfl rfl <| R.ext C rfl rfl rfl rfl <| R.asg C rfl rfl rfl <| Ad C rfl rfl <| Xr C rfl rfl <| Rm C rfl rfl <| R.int C rfl rfl rfl rfl b_eql <| R.fixv (t := 299) (v' := .bool true) rfl (by rfl) <| Rm C rfl rfl <| Rm C rfl rfl <| R.int C rfl rfl rfl rfl b_eql <| R.fixv (t := 302) (v' := .bool true) rfl (by rfl) <| R.pickT C rfl rfl rfl rfl <| Rm C rfl rfl <| Rm C rfl rfl <| R.int C rfl rfl rfl rfl b_eql <| R.fixv (t := 306) (v' := .bool true) rfl (by rfl) <| R.pickT C rfl rfl rfl rfl <| Rm C rfl rfl <| Rm C rfl rfl <| R.int C rfl rfl rfl rfl b_eql <| R.fixv (t := 310) (v' := .bool true) rfl (by rfl) <| R.pickT C rfl rfl rfl rfl <| Rm C rfl rfl <| Rm C rfl rfl <| R.int C rfl rfl rfl rfl b_eql <| R.fixv (t := 314) (v' := .bool true) rfl (by rfl) <| R.pickT C rfl rfl rfl rfl <| Rm C rfl rfl <| Rm C rfl rfl <| R.int C rfl rfl rfl rfl b_eql <| R.fixv (t := 318) (v' := .bool true) rfl (by rfl) <| R.pickT C rfl rfl rfl rfl <| Rm C rfl rfl <| Rm C rfl rfl <| R.int C rfl rfl rfl rfl b_eql <| R.fixv (t := 322) (v' := .bool true) rfl (by rfl) <| R.pickT C rfl rfl rfl rfl <| Rm C rfl rfl ?_; refine Rm C rfl rfl <| R.int C rfl rfl rfl rfl b_eql <| R.fixv (t := 326) (v' := .bool true) rfl (by rfl) <| R.pickT C rfl rfl rfl rfl <| Rm C rfl rfl <| Rm C rfl rfl <| R.buildSlice C (vs := _) rfl rfl (show pvals _ _ = some (numbered 0 [_]) from rfl) rfl runUnderlying28 sizeOf3 zeroValue3 (by decide) (Cat.one rfl rfl) fun p330 => R.persist C.1 fun ro7 hl7 hp7 => R.callP C rfl rfl rfl rfl (sameInts_c hJ (hvl.mono hl7) (Ls.lit (xs := [1]) ic_len hp7) (by decide) (by decide)) <| R.fixv (t := 331) (v' := .bool true) rfl (by exact congrArg Value.bool (by kernel_rfl)) <| R.pickT C rfl rfl rfl rfl <| Rm C rfl rfl <| Rm C rfl rfl <| R.callP C rfl rfl rfl rfl (sq_c hJ _ _ _) <| R.callP C rfl rfl rfl rfl (sq_c hJ _ _ _) <| R.buildSlice C (vs := _) rfl rfl (show pvals _ _ = some (numbered 0 [_, _]) from rfl) rfl runUnderlying41 sizeOf27 zeroValue27 (by decide) ((.cons rfl rfl (.cons rfl rfl .nil))) fun p337 => R.persist C.1 fun ro8 hl8 hp8 => R.callP C rfl rfl rfl rfl (sameSquares_c hJ (hvs.mono (RO.le_trans hl6 (RO.le_trans hl7 hl8))) (Ls.lit (xs := ([⟨2, 0⟩, ⟨2, 1⟩] : List Sq)) (t := 27) (fq := (0, 0)) Sq.len (show ro8 p337 = some (.cells (([⟨2, 0⟩, ⟨2, 1⟩] : List Sq).flatMap Sq.cells).toArray 27 (0, 0)) from hp8)) (by decide) (by decide)) <| R.fixv (t := 338) (v' := .bool true) rfl (by rfl) <| R.pickT C rfl rfl rfl rfl <| Ad C rfl rfl <| X.ret C rfl rfl func19 rfl (by exact .tmp rfl .nil) ?_
  exact hret _ _ (RO.le_trans hl14 (RO.le_trans hl5 (RO.le_trans hl6 (RO.le_trans hl7 hl8)))) (by repeat (first | exact Sr | apply Sc))
noncomputable def g17 : Code := cR (cR (cR (cR (cR (cR (cR (cR (cR (cR (cR (cR (cR (cR (cR (cR (b19))))))))))))))))
theorem found_two {p1 p24 : Nat} {cb wb cbO wbO : Option Addr} {cc wc ccO wcO : Nat} {vl : Value} {ro : RO} {c : Frame} {cs : List Frame} {tail : List (Nat × Obj)} (he : Env ro) (hc : Ls Rc.cells 2 ro (.slice cb 2 cc) exB.cs) (hw : Ls Wt.cells 5 ro (.slice wb 3 wc) exB.ws)
    (hvl : LsI ro vl [0, 1]) (hcO : Ls Rc.cells 2 ro (.slice cbO 2 ccO) exO.cs) (hwO : Ls Wt.cells 5 ro (.slice wbO 4 wcO) exO.ws)
    (hret : ∀ ro' own, ro.le ro' → tail.Sublist own → JM prog Q (G (c.finish (.bool true)) cs) ⟨ro', own⟩) :
    X (JM prog Q) (bf 19 .normal) (c :: cs) 340 [.code g17] [] [(1, .pointer (some ⟨p1, 0, none⟩)), (24, .pointer (some ⟨p24, 0, none⟩)), (21, vl), (3, .int .i64 0), (17, .int .i64 0), (5, .int .i64 0), (22, .int .i64 0), (23, .int .i64 10), (7, .int .i64 0), (9, .int .i64 0)]
      ⟨ro, (p24, .cells [.int .i64 3, .int .i64 3, .int .i64 1, .slice cbO 2 ccO, .slice wbO 4 wcO].toArray 25 (0, 0)) :: (p1, .cells [.int .i64 3, .int .i64 3, .int .i64 1, .slice cb 2 cc, .slice wb 3 wc].toArray 25 (0, 0)) :: tail⟩ := by
  have hJ : Closed prog true (JM prog Q) := JM.closed
  let main := true
  let J := JM prog Q
  have C : Ctx prog true (JM prog Q) (bf 19 .normal) := ⟨hJ, by decide⟩
  have hv : BkV ro (.agg [.int .i64 3, .int .i64 3, .int .i64 1, .slice cbO 2 ccO, .slice wbO 4 wcO].toArray) exO := ⟨_, _, rfl, hcO, hwO⟩
  refine Xr C rfl rfl <| R.loadAgg C rfl rfl rfl isAgg25 sizeOf25 (by repeat (first | exact Mh | apply Mt)) (.take (.take (.take (.take (.take .nil))))) <| R.callR C rfl rfl rfl rfl ((x_casesO hJ he hv)) fun v1 ro1 hl1 hq1 => ?_
  subst hq1
  have he1 := he.mono hl1
  refine Rm C rfl rfl <| R.ext C rfl rfl rfl rfl <| R.ext C rfl rfl rfl rfl <| R.asg C rfl rfl rfl <| Ad C rfl rfl <| Xr C rfl rfl <| R.loadAgg C rfl rfl rfl isAgg25 sizeOf25 (by repeat (first | exact Mh | apply Mt)) (.take (.take (.take (.take (.take .nil))))) <| R.callR C rfl rfl rfl rfl ((x_few he1 (hv.mono hl1))) fun v2 ro2 hl2 hq2 => ?_
  obtain ⟨vf, hvf, rfl⟩ := hq2
  have he2 := he1.mono hl2
  have hl12 := RO.le_trans hl1 hl2
  refine Rm C rfl rfl <| R.ext C rfl rfl rfl rfl <| R.ext C rfl rfl rfl rfl <| R.asg C rfl rfl rfl <| Ad C rfl rfl <| Xr C rfl rfl <| R.loadAgg C rfl rfl rfl isAgg25 sizeOf25 (by repeat (first | exact Mh | apply Mt)) (.take (.take (.take (.take (.take .nil))))) <| R.callR C rfl rfl rfl rfl ((x_clash he2 (hv.mono hl12))) fun v3 ro3 hl3 hq3 => ?_
  obtain ⟨vk, hvk, rfl⟩ := hq3
  have hl13 := RO.le_trans hl12 hl3
  refine Rm C rfl rfl <| R.ext C rfl rfl rfl rfl <| R.ext C rfl rfl rfl rfl <| R.asg C rfl rfl rfl <| Ad C rfl rfl <| Xs C <| Xr C rfl rfl <| Rm C rfl rfl <| R.int C rfl rfl rfl rfl b_neq <| R.fixv (t := 207) (v' := .bool false) rfl (by rfl) <| Rm C rfl rfl <| Rm C rfl rfl <| R.int C rfl rfl rfl rfl b_neq <| R.fixv (t := 210) (v' := .bool false) rfl (by rfl) <| R.pickF C rfl rfl rfl rfl <| Rm C rfl rfl <| Rm C rfl rfl <| R.int C rfl rfl rfl rfl b_neq <| R.fixv (t := 214) (v' := .bool false) rfl (by rfl) <| R.pickF C rfl rfl rfl rfl <| Rm C rfl rfl <| Rm C rfl rfl <| R.int C rfl rfl rfl rfl b_neq <| R.fixv (t := 218) (v' := .bool false) rfl (by rfl) <| R.pickF C rfl rfl rfl rfl <| Rm C rfl rfl <| Rm C rfl rfl <| R.int C rfl rfl rfl rfl b_neq <| R.fixv (t := 222) (v' := .bool false) rfl (by rfl) <| R.pickF C rfl rfl rfl rfl <| Rm C rfl rfl <| Rm C rfl rfl <| R.int C rfl rfl rfl rfl b_neq <| R.fixv (t := 226) (v' := .bool false) rfl (by rfl) <| R.pickF C rfl rfl rfl rfl <| Rm C rfl rfl <| Rm C rfl rfl <| R.int C rfl rfl rfl rfl b_neq <| R.fixv (t := 230) (v' := .bool false) rfl (by rfl) <| R.pickF C rfl rfl rfl rfl ?_; refine Rm C rfl rfl <| Rm C rfl rfl <| R.int C rfl rfl rfl rfl b_neq <| R.fixv (t := 234) (v' := .bool false) rfl (by rfl) <| R.pickF C rfl rfl rfl rfl <| Rm C rfl rfl <| Rm C rfl rfl <| R.int C rfl rfl rfl rfl b_neq <| R.fixv (t := 238) (v' := .bool false) rfl (by rfl) <| R.pickF C rfl rfl rfl rfl <| Rm C rfl rfl <| Rm C rfl rfl <| R.int C rfl rfl rfl rfl b_neq <| R.fixv (t := 242) (v' := .bool false) rfl (by rfl) <| R.pickF C rfl rfl rfl rfl <| Rm C rfl rfl <| Rm C rfl rfl <| R.int C rfl rfl rfl rfl b_neq <| R.fixv (t := 246) (v' := .bool false) rfl (by rfl) <| R.pickF C rfl rfl rfl rfl <| Rm C rfl rfl <| Rm C rfl rfl <| R.buildSlice C (vs := _) rfl rfl (show pvals _ _ = some (numbered 0 [_, _]) from rfl) rfl runUnderlying28 sizeOf3 zeroValue3 (by decide) ((.cons rfl rfl (.cons rfl rfl .nil))) fun p250 => R.persist C.1 fun ro4 hl4 hp4 => R.callP C rfl rfl rfl rfl (sameInts_c hJ (hvl.mono (RO.le_trans hl13 hl4)) (Ls.lit (xs := ([0, 1] : List Int)) (t := 3) (fq := (0, 0)) ic_len hp4) (by decide) (by decide)) <| R.fixv (t := 251) (v' := .bool true) rfl (by exact congrArg Value.bool (by kernel_rfl)) <| R.not C rfl rfl rfl <| R.fixv (t := 252) (v' := .bool false) rfl rfl <| R.pickF C rfl rfl rfl rfl <| Rm C rfl rfl <| Rm C rfl rfl <| R.buildSlice C (vs := _) rfl rfl (show pvals _ _ = some (numbered 0 [_]) from rfl) rfl runUnderlying28 sizeOf3 zeroValue3 (by decide) (Cat.one rfl rfl) fun p256 => R.persist C.1 fun ro5 hl5 hp5 => R.callP C rfl rfl rfl rfl (sameInts_c hJ (hvf.mono (RO.le_trans hl3 (RO.le_trans hl4 hl5))) (Ls.lit (xs := ([0] : List Int)) (t := 3) (fq := (0, 0)) ic_len hp5) (by decide) (by decide)) <| R.fixv (t := 257) (v' := .bool true) rfl (by exact congrArg Value.bool (by kernel_rfl)) <| R.not C rfl rfl rfl <| R.fixv (t := 258) (v' := .bool false) rfl rfl <| R.pickF C rfl rfl rfl rfl <| Rm C rfl rfl <| Rm C rfl rfl ?_; refine R.buildSlice C (vs := _) rfl rfl (show pvals _ _ = some (numbered 0 [_, _]) from rfl) rfl runUnderlying28 sizeOf3 zeroValue3 (by decide) ((.cons rfl rfl (.cons rfl rfl .nil))) fun p262 => R.persist C.1 fun ro6 hl6 hp6 => R.callP C rfl rfl rfl rfl (sameInts_c hJ (hvk.mono (RO.le_trans hl4 (RO.le_trans hl5 hl6))) (Ls.lit (xs := ([0, 3] : List Int)) (t := 3) (fq := (0, 0)) ic_len hp6) (by decide) (by decide)) <| R.fixv (t := 263) (v' := .bool true) rfl (by exact congrArg Value.bool (by kernel_rfl)) <| R.not C rfl rfl rfl <| R.fixv (t := 264) (v' := .bool false) rfl rfl <| R.pickF C rfl rfl rfl rfl <| R.done C <| X.cond C.1 rfl (fun h => nomatch h) (fun _ => ?_)
  refine X.skip C.1 ?_
  have hl := RO.le_trans hl13 (RO.le_trans hl4 (RO.le_trans hl5 hl6))
  refine X.weaken ?_ (found_end (he.mono hl) (hc.mono hl) (hw.mono hl) fun ro' own h1 h2 => hret ro' own (RO.le_trans hl h1) h2)
  exact ⟨rfl, rfl, trivial⟩
end Go.Lg.B
namespace Go.Lg.B
open Go Go.Conc Go.Lg Go.Proofs Go.Proofs.Tryz
variable {Q : Machine → Outcome → World → Trace → Prop}
theorem eqT46 : IntT prog 10000 46 2 true := IntT.struct runUnderlying46 (by kernel_rfl) (.cons (by decide) rfl sizeOf3 isAgg3 (fun _ => rfl) (IntT.int runUnderlying3) (.cons (by decide) rfl sizeOf3 isAgg3 (fun _ => rfl) (IntT.int runUnderlying3) .nil))
noncomputable def g16 : Code := cR (cR (cR (cR (cR (cR (cR (cR (cR (cR (cR (cR (cR (cR (cR (b19)))))))))))))))
theorem found_hear {p1 : Nat} {cb wb : Option Addr} {cc wc : Nat} {vl : Value} {ro : RO} {c : Frame} {cs : List Frame} {tail : List (Nat × Obj)} (he : Env ro) (hc : Ls Rc.cells 2 ro (.slice cb 2 cc) exB.cs) (hw : Ls Wt.cells 5 ro (.slice wb 3 wc) exB.ws)
    (hvl : LsI ro vl [0, 1])
    (hret : ∀ ro' own, ro.le ro' → tail.Sublist own → JM prog Q (G (c.finish (.bool true)) cs) ⟨ro', own⟩) :
    X (JM prog Q) (bf 19 .normal) (c :: cs) 340 [.code g16] [] [(1, .pointer (some ⟨p1, 0, none⟩)), (21, vl), (3, .int .i64 0), (17, .int .i64 0), (5, .int .i64 0), (22, .int .i64 0), (23, .int .i64 10), (7, .int .i64 0)]
      ⟨ro, (p1, .cells [.int .i64 3, .int .i64 3, .int .i64 1, .slice cb 2 cc, .slice wb 3 wc].toArray 25 (0, 0)) :: tail⟩ := by
  have hJ : Closed prog true (JM prog Q) := JM.closed
  let main := true
  let J := JM prog Q
  have C : Ctx prog true (JM prog Q) (bf 19 .normal) := ⟨hJ, by decide⟩
  have hv : BkV ro (.agg [.int .i64 3, .int .i64 3, .int .i64 1, .slice cb 2 cc, .slice wb 3 wc].toArray) exB := ⟨_, _, rfl, hc, hw⟩
  refine Xs C <| X.regionD C (by kernel_rfl) (by kernel_rfl) (by kernel_rfl) fun hok => Dl 0 hok (fun _ _ A h => R.loadAgg C rfl (A.w rfl rfl) (A.x rfl rfl) isAgg25 sizeOf25 (by repeat (first | exact Mh | apply Mt)) (.take (.take (.take (.take (.take .nil))))) h) <| D.eP2 (i := 1) (i' := 7) (dst := (some 186)) (dst' := (some 24)) [true] [true] hok rfl rfl (by kernel_rfl) (by kernel_rfl) (by kernel_rfl) (fun σr rest A hk => ?_) (fun σr rest A hk => ?_)
  ·
    refine R.callP C rfl (A.w rfl rfl) (A.x rfl rfl) (A.s rfl rfl) (sq_c hJ _ _ _) (hk _ _ ⟨(QFs.cons (QF.of rfl (fun _ _ A h => R.loadAgg C rfl (A.w rfl rfl) (A.x rfl rfl) isAgg25 sizeOf25 (by repeat (first | exact Mh | apply Mt)) (.take (.take (.take (.take (.take .nil))))) h)) QFs.nil), ?_⟩)
    refine Dp 2 hok (fun _ _ _ A h => R.build C rfl (A.w rfl rfl) (A.p rfl rfl) zeroValue58 rfl runUnderlying58 (by kernel_rfl) (Fills.part rfl rfl sizeOf27 rfl (.here (.here .nil)) (Fills.part rfl rfl sizeOf3 rfl (.skip (.skip (.here .nil))) .nil)) h) <| D.eP2 (i := 3) (i' := 7) (dst := (some 188)) (dst' := (some 24)) [false] [true] hok rfl rfl (by kernel_rfl) (by kernel_rfl) (by kernel_rfl) (fun σr rest A hk => ?_) (fun σr rest A hk => ?_)
    ·
      refine R.callR C rfl (A.w rfl rfl) (A.x rfl rfl) (A.s rfl rfl) ((x_hear hJ he hv)) fun v1 ro1 hl1 hq1 => hk _ _ ⟨QFs.nil, ?_⟩
      obtain ⟨v1, hv1, rfl⟩ := hq1
      obtain ⟨vc1, vw1, rfl, hc1, hw1⟩ := hv1
      obtain ⟨cb1, cc1, rfl⟩ := hc1.form
      obtain ⟨wb1, wc1, rfl⟩ := hw1.form
      refine Dm C 4 hok rfl rfl rfl <| Dp 5 hok (fun _ _ _ A h => R.ext C rfl (A.w rfl rfl) (A.x rfl rfl) rfl h) <| Dp 6 hok (fun _ _ _ A h => R.ext C rfl (A.w rfl rfl) (A.x rfl rfl) rfl h) <| D.eP (i := 7) (dst := (some 24)) [] hok rfl (by kernel_rfl) (by kernel_rfl) (fun σr rest A hk => ?_)
      refine R.alloc C rfl (A.w rfl rfl) zeroValue25 rfl fun p24 => hk _ _ ⟨QFs.nil, ?_⟩
      refine D.eP (i := 8) (dst := none) [] hok rfl (by kernel_rfl) (by kernel_rfl) (fun σr rest A hk => ?_)
      refine R.store C rfl (A.w rfl rfl) (A.x rfl rfl) (A.x rfl rfl) sizeOf25 rfl rfl rfl (by repeat (first | exact Uh | apply Ut)) (.here (.here (.here (.here (.here .nil))))) (hk undef _ ⟨QFs.nil, ?_⟩)
      refine Dp 9 hok (fun _ _ _ A h => R.asg C rfl (A.w rfl rfl) (A.x rfl rfl) h) <| D.done C hok (by kernel_rfl) <| X.weaken ?_ (found_two (he.mono hl1) (hc.mono hl1) (hw.mono hl1) (hvl.mono hl1) hc1 hw1 fun ro' own h1 h2 => hret ro' own (RO.le_trans hl1 h1) h2)
      exact ⟨rfl, rfl, rfl, rfl, rfl, rfl, rfl, rfl, rfl, rfl, trivial⟩
    ·
      refine R.alloc C rfl (A.w rfl rfl) zeroValue25 rfl fun p24 => hk _ _ ⟨(QFs.cons (QF.of rfl (fun _ _ A h => R.loadAgg C rfl (A.w rfl rfl) (A.x rfl rfl) isAgg25 sizeOf25 (by repeat (first | exact Mh | apply Mt)) (.take (.take (.take (.take (.take .nil))))) h)) QFs.nil), ?_⟩
      refine D.eP (i := 3) (dst := (some 188)) [false] hok rfl (by kernel_rfl) (by kernel_rfl) (fun σr rest A hk => ?_)
      refine R.callR C rfl (A.w rfl rfl) (A.x rfl rfl) (A.s rfl rfl) ((x_hear hJ he hv)) fun v1 ro1 hl1 hq1 => hk _ _ ⟨QFs.nil, ?_⟩
      obtain ⟨v1, hv1, rfl⟩ := hq1
      obtain ⟨vc1, vw1, rfl, hc1, hw1⟩ := hv1
      obtain ⟨cb1, cc1, rfl⟩ := hc1.form
      obtain ⟨wb1, wc1, rfl⟩ := hw1.form
      refine Dm C 4 hok rfl rfl rfl <| Dp 5 hok (fun _ _ _ A h => R.ext C rfl (A.w rfl rfl) (A.x rfl rfl) rfl h) <| Dp 6 hok (fun _ _ _ A h => R.ext C rfl (A.w rfl rfl) (A.x rfl rfl) rfl h) <| D.eP (i := 8) (dst := none) [] hok rfl (by kernel_rfl) (by kernel_rfl) (fun σr rest A hk => ?_)
      refine R.store C rfl (A.w rfl rfl) (A.x rfl rfl) (A.x rfl rfl) sizeOf25 rfl rfl rfl (by repeat (first | exact Uh | apply Ut)) (.here (.here (.here (.here (.here .nil))))) (hk undef _ ⟨QFs.nil, ?_⟩)
      refine Dp 9 hok (fun _ _ _ A h => R.asg C rfl (A.w rfl rfl) (A.x rfl rfl) h) <| D.done C hok (by kernel_rfl) <| X.weaken ?_ (found_two (he.mono hl1) (hc.mono hl1) (hw.mono hl1) (hvl.mono hl1) hc1 hw1 fun ro' own h1 h2 => hret ro' own (RO.le_trans hl1 h1) h2)
      exact ⟨rfl, rfl, rfl, rfl, rfl, rfl, rfl, rfl, rfl, rfl, trivial⟩
  ·
    refine R.alloc C rfl (A.w rfl rfl) zeroValue25 rfl fun p24 => hk _ _ ⟨(QFs.cons (QF.of rfl (fun _ _ A h => R.loadAgg C rfl (A.w rfl rfl) (A.x rfl rfl) isAgg25 sizeOf25 (by repeat (first | exact Mh | apply Mt)) (.take (.take (.take (.take (.take .nil))))) h)) QFs.nil), ?_⟩
    refine D.eP (i := 1) (dst := (some 186)) [true] hok rfl (by kernel_rfl) (by kernel_rfl) (fun σr rest A hk => ?_)
    refine R.callP C rfl (A.w rfl rfl) (A.x rfl rfl) (A.s rfl rfl) (sq_c hJ _ _ _) (hk _ _ ⟨(QFs.cons (QF.of rfl (fun _ _ A h => R.loadAgg C rfl (A.w rfl rfl) (A.x rfl rfl) isAgg25 sizeOf25 (by repeat (first | exact Mh | apply Mt)) (.take (.take (.take (.take (.take .nil))))) h)) QFs.nil), ?_⟩)
    refine Dp 2 hok (fun _ _ _ A h => R.build C rfl (A.w rfl rfl) (A.p rfl rfl) zeroValue58 rfl runUnderlying58 (by kernel_rfl) (Fills.part rfl rfl sizeOf27 rfl (.here (.here .nil)) (Fills.part rfl rfl sizeOf3 rfl (.skip (.skip (.here .nil))) .nil)) h) <| D.eP (i := 3) (dst := (some 188)) [false] hok rfl (by kernel_rfl) (by kernel_rfl) (fun σr rest A hk => ?_)
    refine R.callR C rfl (A.w rfl rfl) (A.x rfl rfl) (A.s rfl rfl) ((x_hear hJ he hv)) fun v1 ro1 hl1 hq1 => hk _ _ ⟨QFs.nil, ?_⟩
    obtain ⟨v1, hv1, rfl⟩ := hq1
    obtain ⟨vc1, vw1, rfl, hc1, hw1⟩ := hv1
    obtain ⟨cb1, cc1, rfl⟩ := hc1.form
    obtain ⟨wb1, wc1, rfl⟩ := hw1.form
    refine Dm C 4 hok rfl rfl rfl <| Dp 5 hok (fun _ _ _ A h => R.ext C rfl (A.w rfl rfl) (A.x rfl rfl) rfl h) <| Dp 6 hok (fun _ _ _ A h => R.ext C rfl (A.w rfl rfl) (A.x rfl rfl) rfl h) <| D.eP (i := 8) (dst := none) [] hok rfl (by kernel_rfl) (by kernel_rfl) (fun σr rest A hk => ?_)
    refine R.store C rfl (A.w rfl rfl) (A.x rfl rfl) (A.x rfl rfl) sizeOf25 rfl rfl rfl (by repeat (first | exact Uh | apply Ut)) (.here (.here (.here (.here (.here .nil))))) (hk undef _ ⟨QFs.nil, ?_⟩)
    refine Dp 9 hok (fun _ _ _ A h => R.asg C rfl (A.w rfl rfl) (A.x rfl rfl) h) <| D.done C hok (by kernel_rfl) <| X.weaken ?_ (found_two (he.mono hl1) (hc.mono hl1) (hw.mono hl1) (hvl.mono hl1) hc1 hw1 fun ro' own h1 h2 => hret ro' own (RO.le_trans hl1 h1) h2)
    exact ⟨rfl, rfl, rfl, rfl, rfl, rfl, rfl, rfl, rfl, rfl, trivial⟩
noncomputable def g6 : Code := cR (cR (cR (cR (cR (cR b19)))))
theorem found_one {p1 : Nat} {cb wb : Option Addr} {cc wc : Nat} {ro : RO} {c : Frame} {cs : List Frame} {tail : List (Nat × Obj)} (he : Env ro) (hc : Ls Rc.cells 2 ro (.slice cb 2 cc) exB.cs) (hw : Ls Wt.cells 5 ro (.slice wb 3 wc) exB.ws)
    (hret : ∀ ro' own, ro.le ro' → tail.Sublist own → JM prog Q (G (c.finish (.bool true)) cs) ⟨ro', own⟩) :
    X (JM prog Q) (bf 19 .normal) (c :: cs) 340 [.code g6] [] [(1, .pointer (some ⟨p1, 0, none⟩)), (2, .int .i64 1), (3, .int .i64 0), (4, .int .i64 2), (5, .int .i64 0), (6, .bool true), (7, .int .i64 0), (8, .bool false), (9, .int .i64 0)]
      ⟨ro, (p1, .cells [.int .i64 3, .int .i64 3, .int .i64 1, .slice cb 2 cc, .slice wb 3 wc].toArray 25 (0, 0)) :: tail⟩ := by
  have hJ : Closed prog true (JM prog Q) := JM.closed
  let main := true
  let J := JM prog Q
  have C : Ctx prog true (JM prog Q) (bf 19 .normal) := ⟨hJ, by decide⟩
  have hv : BkV ro (.agg [.int .i64 3, .int .i64 3, .int .i64 1, .slice cb 2 cc, .slice wb 3 wc].toArray) exB := ⟨_, _, rfl, hc, hw⟩
  refine Xr C rfl rfl <| R.loadAgg C rfl rfl rfl isAgg25 sizeOf25 (by repeat (first | exact Mh | apply Mt)) (.take (.take (.take (.take (.take .nil))))) <| R.callR C rfl rfl rfl rfl ((x_cases hJ he hv)) fun v1 ro1 hl1 hq1 => ?_
  subst hq1
  have he1 := he.mono hl1
  refine Rm C rfl rfl <| R.ext C rfl rfl rfl rfl <| R.ext C rfl rfl rfl rfl <| R.asg C rfl rfl rfl <| Ad C rfl rfl <| Xr C rfl rfl <| R.loadAgg C rfl rfl rfl isAgg25 sizeOf25 (by repeat (first | exact Mh | apply Mt)) (.take (.take (.take (.take (.take .nil))))) <| R.callR C rfl rfl rfl rfl ((x_where hJ he1 (hv.mono hl1))) fun v2 ro2 hl2 hq2 => ?_
  obtain ⟨vs, hvs, rfl⟩ := hq2
  have he2 := he1.mono hl2
  have hl12 := RO.le_trans hl1 hl2
  refine Rm C rfl rfl <| R.ext C rfl rfl rfl rfl <| R.ext C rfl rfl rfl rfl <| R.asg C rfl rfl rfl <| Ad C rfl rfl <| Xr C rfl rfl <| R.loadAgg C rfl rfl rfl isAgg25 sizeOf25 (by repeat (first | exact Mh | apply Mt)) (.take (.take (.take (.take (.take .nil))))) <| R.callR C rfl rfl rfl rfl ((x_box hJ he2 (hv.mono hl12))) fun v3 ro3 hl3 hq3 => ?_
  subst hq3
  have he3 := he2.mono hl3
  have hl13 := RO.le_trans hl12 hl3
  refine Rm C rfl rfl <| R.ext C rfl rfl rfl rfl <| R.ext C rfl rfl rfl rfl <| R.ext C rfl rfl rfl rfl <| R.alloc C rfl rfl zeroValue46 rfl fun p14 => R.alloc C rfl rfl zeroValue46 rfl fun p15 => R.store C rfl rfl rfl rfl sizeOf46 rfl rfl rfl (by repeat (first | exact Uh | apply Ut)) (.here (.here .nil)) <| R.store C rfl rfl rfl rfl sizeOf46 rfl rfl rfl (by repeat (first | exact Uh | apply Ut)) (.here (.here .nil)) <| Ad C rfl rfl <| Xs C <| X.regionD C (by kernel_rfl) (by kernel_rfl) (by kernel_rfl) fun hok => Dl 0 hok (fun _ _ A h => R.loadAgg C rfl (A.w rfl rfl) (A.x rfl rfl) isAgg25 sizeOf25 (by repeat (first | exact Mh | apply Mt)) (.take (.take (.take (.take (.take .nil))))) h) <| D.eP (i := 1) (dst := (some 75)) [true] hok rfl (by kernel_rfl) (by kernel_rfl) (fun σr rest A hk => ?_)
  refine R.callP C rfl (A.w rfl rfl) (A.x rfl rfl) (A.s rfl rfl) (sq_c hJ _ _ _) (hk _ _ ⟨(QFs.cons (QF.of rfl (fun _ _ A h => R.loadAgg C rfl (A.w rfl rfl) (A.x rfl rfl) isAgg25 sizeOf25 (by repeat (first | exact Mh | apply Mt)) (.take (.take (.take (.take (.take .nil))))) h)) QFs.nil), ?_⟩)
  refine D.eP (i := 2) (dst := (some 76)) [false] hok rfl (by kernel_rfl) (by kernel_rfl) (fun σr rest A hk => ?_)
  refine R.callR C rfl (A.w rfl rfl) (A.x rfl rfl) (A.s rfl rfl) ((x_at1 hJ he3 (hv.mono hl13))) fun v4 ro4 hl4 hq4 => hk _ _ ⟨QFs.nil, ?_⟩
  subst hq4
  have he4 := he3.mono hl4
  have hl14 := RO.le_trans hl13 hl4
  refine Dm C 3 hok rfl rfl rfl <| Dp 4 hok (fun _ _ _ A h => R.ext C rfl (A.w rfl rfl) (A.x rfl rfl) rfl h) <| Dp 5 hok (fun _ _ _ A h => R.ext C rfl (A.w rfl rfl) (A.x rfl rfl) rfl h) <| Dp 6 hok (fun _ _ _ A h => R.asg C rfl (A.w rfl rfl) (A.x rfl rfl) h) <| Dp 7 hok (fun _ _ _ A h => R.asg C rfl (A.w rfl rfl) (A.x rfl rfl) h) <| D.done C hok (by kernel_rfl) <| Xs C <| X.regionD C (by kernel_rfl) (by kernel_rfl) (by kernel_rfl) fun hok => Dl 0 hok (fun _ _ A h => R.loadAgg C rfl (A.w rfl rfl) (A.x rfl rfl) isAgg25 sizeOf25 (by repeat (first | exact Mh | apply Mt)) (.take (.take (.take (.take (.take .nil))))) h) <| D.eP (i := 1) (dst := (some 81)) [true] hok rfl (by kernel_rfl) (by kernel_rfl) (fun σr rest A hk => ?_)
  refine R.callP C rfl (A.w rfl rfl) (A.x rfl rfl) (A.s rfl rfl) (sq_c hJ _ _ _) (hk _ _ ⟨(QFs.cons (QF.of rfl (fun _ _ A h => R.loadAgg C rfl (A.w rfl rfl) (A.x rfl rfl) isAgg25 sizeOf25 (by repeat (first | exact Mh | apply Mt)) (.take (.take (.take (.take (.take .nil))))) h)) QFs.nil), ?_⟩)
  refine D.eP (i := 2) (dst := (some 82)) [false] hok rfl (by kernel_rfl) (by kernel_rfl) (fun σr rest A hk => ?_)
  refine R.callR C rfl (A.w rfl rfl) (A.x rfl rfl) (A.s rfl rfl) ((x_at2 hJ he4 (hv.mono hl14))) fun v5 ro5 hl5 hq5 => hk _ _ ⟨QFs.nil, ?_⟩
  subst hq5
  have he5 := he4.mono hl5
  have hl15 := RO.le_trans hl14 hl5
  refine Dm C 3 hok rfl rfl rfl <| Dp 4 hok (fun _ _ _ A h => R.ext C rfl (A.w rfl rfl) (A.x rfl rfl) rfl h) <| Dp 5 hok (fun _ _ _ A h => R.ext C rfl (A.w rfl rfl) (A.x rfl rfl) rfl h) <| Dp 6 hok (fun _ _ _ A h => R.asg C rfl (A.w rfl rfl) (A.x rfl rfl) h) <| Dp 7 hok (fun _ _ _ A h => R.asg C rfl (A.w rfl rfl) (A.x rfl rfl) h) <| D.done C hok (by kernel_rfl) <| Xs C <| Xs C <| X.regionD C (by kernel_rfl) (by kernel_rfl) (by kernel_rfl) fun hok => Dm C 0 hok rfl rfl rfl <| Di C 1 hok rfl rfl rfl rfl rfl b_neq <| D.fixv (t := 86) (v' := .bool false) rfl (by rfl) <| Dm C 2 hok rfl rfl rfl <| Dm C 3 hok rfl rfl rfl <| Di C 4 hok rfl rfl rfl rfl rfl b_neq <| D.fixv (t := 89) (v' := .bool false) rfl (by rfl) <| Dp 5 hok (fun _ _ _ A h => R.pickF C rfl (A.w rfl rfl) (A.x rfl rfl) (A.x rfl rfl) h) <| Dm C 6 hok rfl rfl rfl <| Dm C 7 hok rfl rfl rfl <| Di C 8 hok rfl rfl rfl rfl rfl b_neq <| D.fixv (t := 93) (v' := .bool false) rfl (by rfl) <| Dp 9 hok (fun _ _ _ A h => R.pickF C rfl (A.w rfl rfl) (A.x rfl rfl) (A.x rfl rfl) h) <| Dm C 10 hok rfl rfl rfl <| Dm C 11 hok rfl rfl rfl <| Di C 12 hok rfl rfl rfl rfl rfl b_neq <| D.fixv (t := 97) (v' := .bool false) rfl (by rfl) <| Dp 13 hok (fun _ _ _ A h => R.pickF C rfl (A.w rfl rfl) (A.x rfl rfl) (A.x rfl rfl) h) <| Dm C 14 hok rfl rfl rfl <| Dm C 15 hok rfl rfl rfl <| Di C 16 hok rfl rfl rfl rfl rfl b_neq <| D.fixv (t := 101) (v' := .bool false) rfl (by rfl) <| Dp 17 hok (fun _ _ _ A h => R.pickF C rfl (A.w rfl rfl) (A.x rfl rfl) (A.x rfl rfl) h) <| Dm C 18 hok rfl rfl rfl <| Dm C 19 hok rfl rfl rfl <| Di C 20 hok rfl rfl rfl rfl rfl b_neq <| D.fixv (t := 105) (v' := .bool false) rfl (by rfl) <| Dp 21 hok (fun _ _ _ A h => R.pickF C rfl (A.w rfl rfl) (A.x rfl rfl) (A.x rfl rfl) h) <| Dm C 22 hok rfl rfl rfl <| Dm C 23 hok rfl rfl rfl <| Di C 24 hok rfl rfl rfl rfl rfl b_neq ?_; refine D.fixv (t := 109) (v' := .bool false) rfl (by rfl) <| Dp 25 hok (fun _ _ _ A h => R.pickF C rfl (A.w rfl rfl) (A.x rfl rfl) (A.x rfl rfl) h) <| Dm C 26 hok rfl rfl rfl <| Dm C 27 hok rfl rfl rfl <| Di C 28 hok rfl rfl rfl rfl rfl b_neq <| D.fixv (t := 113) (v' := .bool false) rfl (by rfl) <| Dp 29 hok (fun _ _ _ A h => R.pickF C rfl (A.w rfl rfl) (A.x rfl rfl) (A.x rfl rfl) h) <| Dm C 30 hok rfl rfl rfl <| Dm C 31 hok rfl rfl rfl <| Di C 32 hok rfl rfl rfl rfl rfl b_neq <| D.fixv (t := 117) (v' := .bool false) rfl (by rfl) <| Dp 33 hok (fun _ _ _ A h => R.pickF C rfl (A.w rfl rfl) (A.x rfl rfl) (A.x rfl rfl) h) <| Dm C 34 hok rfl rfl rfl <| Dm C 35 hok rfl rfl rfl <| Di C 36 hok rfl rfl rfl rfl rfl b_neq <| D.fixv (t := 121) (v' := .bool false) rfl (by rfl) <| Dp 37 hok (fun _ _ _ A h => R.pickF C rfl (A.w rfl rfl) (A.x rfl rfl) (A.x rfl rfl) h) <| Dm C 38 hok rfl rfl rfl <| Dm C 39 hok rfl rfl rfl <| Di C 40 hok rfl rfl rfl rfl rfl b_neq <| D.fixv (t := 125) (v' := .bool false) rfl (by rfl) <| Dp 41 hok (fun _ _ _ A h => R.pickF C rfl (A.w rfl rfl) (A.x rfl rfl) (A.x rfl rfl) h) <| Dm C 42 hok rfl rfl rfl <| Dm C 43 hok rfl rfl rfl <| Dp 44 hok (fun _ _ _ A h => R.not C rfl (A.w rfl rfl) (A.x rfl rfl) h) <| D.fixv (t := 129) (v' := .bool false) rfl rfl <| Dp 45 hok (fun _ _ _ A h => R.pickF C rfl (A.w rfl rfl) (A.x rfl rfl) (A.x rfl rfl) h) <| Dm C 46 hok rfl rfl rfl <| Dm C 47 hok rfl rfl rfl <| Dp 48 hok (fun _ _ _ A h => R.pickF C rfl (A.w rfl rfl) (A.x rfl rfl) (A.x rfl rfl) h) <| Dm C 49 hok rfl rfl rfl <| Dm C 50 hok rfl rfl rfl <| Di C 51 hok rfl rfl rfl rfl rfl b_neq <| D.fixv (t := 136) (v' := .bool false) rfl (by rfl) <| Dp 52 hok (fun _ _ _ A h => R.pickF C rfl (A.w rfl rfl) (A.x rfl rfl) (A.x rfl rfl) h) <| Dm C 53 hok rfl rfl rfl <| Dl 54 hok (fun _ _ A h => R.loadAgg C rfl (A.w rfl rfl) (A.x rfl rfl) isAgg46 sizeOf46 (by repeat (first | exact Mh | apply Mt)) (.take (.take .nil)) h) <| D.eP (i := 55) (dst := (some 140)) [true] hok rfl (by kernel_rfl) (by kernel_rfl) (fun σr rest A hk => ?_)
  refine R.callP C rfl (A.w rfl rfl) (A.x rfl rfl) (A.s rfl rfl) (reach_c hJ _ _ _) (hk _ _ ⟨(QFs.cons (QF.of rfl (fun _ _ A h => R.loadAgg C rfl (A.w rfl rfl) (A.x rfl rfl) isAgg46 sizeOf46 (by repeat (first | exact Mh | apply Mt)) (.take (.take .nil)) h)) QFs.nil), ?_⟩)
  refine Dp 56 hok (fun _ _ _ A h => R.neAgg (p := [0, 2]) (q := [0, 2]) C rfl (A.w rfl rfl) (A.x rfl rfl) (A.x rfl rfl) eqT46 rfl rfl (by kernel_rfl) h) <| D.fixv (t := 141) (v' := .bool false) rfl (by rfl) <| Dp 57 hok (fun _ _ _ A h => R.pickF C rfl (A.w rfl rfl) (A.x rfl rfl) (A.x rfl rfl) h) <| Dm C 58 hok rfl rfl rfl <| Dl 59 hok (fun _ _ A h => R.loadAgg C rfl (A.w rfl rfl) (A.x rfl rfl) isAgg46 sizeOf46 (by repeat (first | exact Mh | apply Mt)) (.take (.take .nil)) h) <| D.eP (i := 60) (dst := (some 145)) [true, false] hok rfl (by kernel_rfl) (by kernel_rfl) (fun σr rest A hk => ?_)
  refine R.callP C rfl (A.w rfl rfl) (A.x rfl rfl) (A.s rfl rfl) (reach_c hJ _ _ _) (hk _ _ ⟨(QFs.cons (QF.of rfl (fun _ _ A h => R.loadAgg C rfl (A.w rfl rfl) (A.x rfl rfl) isAgg46 sizeOf46 (by repeat (first | exact Mh | apply Mt)) (.take (.take .nil)) h)) QFs.nil), ?_⟩)
  refine Dp 61 hok (fun _ _ _ A h => R.neAgg (p := [0, 2]) (q := [0, 2]) C rfl (A.w rfl rfl) (A.x rfl rfl) (A.x rfl rfl) eqT46 rfl rfl (by kernel_rfl) h) <| D.fixv (t := 146) (v' := .bool false) rfl (by rfl) <| Dp 62 hok (fun _ _ _ A h => R.pickF C rfl (A.w rfl rfl) (A.x rfl rfl) (A.x rfl rfl) h) <| Dm C 63 hok rfl rfl rfl <| Dm C 64 hok rfl rfl rfl <| Di C 65 hok rfl rfl rfl rfl rfl b_neq <| D.fixv (t := 150) (v' := .bool false) rfl (by rfl) <| Dp 66 hok (fun _ _ _ A h => R.pickF C rfl (A.w rfl rfl) (A.x rfl rfl) (A.x rfl rfl) h) <| Dm C 67 hok rfl rfl rfl <| Dm C 68 hok rfl rfl rfl <| Di C 69 hok rfl rfl rfl rfl rfl b_neq <| D.fixv (t := 154) (v' := .bool false) rfl (by rfl) <| Dp 70 hok (fun _ _ _ A h => R.pickF C rfl (A.w rfl rfl) (A.x rfl rfl) (A.x rfl rfl) h) <| Dm C 71 hok rfl rfl rfl <| Dm C 72 hok rfl rfl rfl <| D.eP (i := 73) (dst := (some 158)) [false] hok rfl (by kernel_rfl) (by kernel_rfl) (fun σr rest A hk => ?_)
  refine R.callP C rfl (A.w rfl rfl) (A.x rfl rfl) (A.s rfl rfl) (sq_c hJ _ _ _) (hk _ _ ⟨QFs.nil, ?_⟩)
  refine D.eP (i := 74) (dst := (some 159)) [] hok rfl (by kernel_rfl) (by kernel_rfl) (fun σr rest A hk => ?_)
  refine R.callP C rfl (A.w rfl rfl) (A.x rfl rfl) (A.s rfl rfl) (sq_c hJ _ _ _) (hk _ _ ⟨QFs.nil, ?_⟩)
  refine D.eP (i := 75) (dst := (some 160)) [] hok rfl (by kernel_rfl) (by kernel_rfl) (fun σr rest A hk => ?_)
  refine R.callP C rfl (A.w rfl rfl) (A.x rfl rfl) (A.s rfl rfl) (sq_c hJ _ _ _) (hk _ _ ⟨QFs.nil, ?_⟩)
  refine D.eP (i := 76) (dst := (some 161)) [] hok rfl (by kernel_rfl) (by kernel_rfl) (fun σr rest A hk => ?_)
  refine R.callP C rfl (A.w rfl rfl) (A.x rfl rfl) (A.s rfl rfl) (sq_c hJ _ _ _) (hk _ _ ⟨QFs.nil, ?_⟩)
  refine D.eP (i := 77) (dst := (some 162)) [] hok rfl (by kernel_rfl) (by kernel_rfl) (fun σr rest A hk => ?_)
  refine R.callP C rfl (A.w rfl rfl) (A.x rfl rfl) (A.s rfl rfl) (sq_c hJ _ _ _) (hk _ _ ⟨QFs.nil, ?_⟩)
  refine D.eP (i := 78) (dst := (some 163)) [] hok rfl (by kernel_rfl) (by kernel_rfl) (fun σr rest A hk => ?_)
  refine R.callP C rfl (A.w rfl rfl) (A.x rfl rfl) (A.s rfl rfl) (sq_c hJ _ _ _) (hk _ _ ⟨QFs.nil, ?_⟩)
  refine D.eP (i := 79) (dst := (some 164)) [] hok rfl (by kernel_rfl) (by kernel_rfl) (fun σr rest A hk => ?_)
  refine R.buildSlice C (vs := _) rfl (A.w rfl rfl) (show pvals _ _ = some (numbered 0 [_, _, _, _, _, _]) from (A.p rfl rfl)) rfl runUnderlying41 sizeOf27 zeroValue27 (by decide) ((.cons rfl rfl (.cons rfl rfl (.cons rfl rfl (.cons rfl rfl (.cons rfl rfl (.cons rfl rfl .nil))))))) fun p164 => hk _ _ ⟨QFs.nil, ?_⟩
  refine D.eP (i := 80) (dst := (some 165)) [] hok rfl (by kernel_rfl) (by kernel_rfl) (fun σr rest A hk => ?_)
  refine R.persist C.1 fun ro6 hl6 hp6 => R.callP C rfl (A.w rfl rfl) (A.x rfl rfl) (A.s rfl rfl) (sameSquares_c hJ (hvs.mono (RO.le_trans hl3 (RO.le_trans hl4 (RO.le_trans hl5 hl6)))) (Ls.lit (xs := ([⟨0, 0⟩, ⟨1, 0⟩, ⟨2, 0⟩, ⟨2, 1⟩, ⟨1, 2⟩, ⟨2, 2⟩] : List Sq)) (t := 27) (fq := (0, 0)) Sq.len (show ro6 p164 = some (.cells (([⟨0, 0⟩, ⟨1, 0⟩, ⟨2, 0⟩, ⟨2, 1⟩, ⟨1, 2⟩, ⟨2, 2⟩] : List Sq).flatMap Sq.cells).toArray 27 (0, 0)) from hp6)) (by decide) (by decide)) (hk _ _ ⟨QFs.nil, ?_⟩)
  refine D.fixv (t := 165) (v' := .bool true) rfl (by rfl) ?_
  have he6 := he5.mono hl6
  have hl16 := RO.le_trans hl15 hl6
  refine Dp 81 hok (fun _ _ _ A h => R.not C rfl (A.w rfl rfl) (A.x rfl rfl) h) <| D.fixv (t := 166) (v' := .bool false) rfl rfl <| Dp 82 hok (fun _ _ _ A h => R.pickF C rfl (A.w rfl rfl) (A.x rfl rfl) (A.x rfl rfl) h) <| D.done C hok (by kernel_rfl) <| X.cond C.1 rfl (fun h => nomatch h) (fun _ => ?_)
  refine X.skip C.1 <| Xr C rfl rfl <| R.loadAgg C rfl rfl rfl isAgg25 sizeOf25 (by repeat (first | exact Mh | apply Mt)) (.take (.take (.take (.take (.take .nil))))) <| R.callR C rfl rfl rfl rfl ((x_off hJ he6 (hv.mono hl16))) fun v7 ro7 hl7 hq7 => ?_
  obtain ⟨vl, hvl, rfl⟩ := hq7
  have he7 := he6.mono hl7
  have hl17 := RO.le_trans hl16 hl7
  refine Rm C rfl rfl <| R.ext C rfl rfl rfl rfl <| R.ext C rfl rfl rfl rfl <| R.asg C rfl rfl rfl <| Ad C rfl rfl <| Xr C rfl rfl <| R.loadAgg C rfl rfl rfl isAgg25 sizeOf25 (by repeat (first | exact Mh | apply Mt)) (.take (.take (.take (.take (.take .nil))))) <| R.callR C rfl rfl rfl rfl ((x_false hJ he7 (hv.mono hl17))) fun v8 ro8 hl8 hq8 => ?_
  subst hq8
  have he8 := he7.mono hl8
  have hl18 := RO.le_trans hl17 hl8
  refine Rm C rfl rfl <| R.ext C rfl rfl rfl rfl <| R.ext C rfl rfl rfl rfl <| R.asg C rfl rfl rfl <| Ad C rfl rfl <| Xr C rfl rfl <| R.loadAgg C rfl rfl rfl isAgg25 sizeOf25 (by repeat (first | exact Mh | apply Mt)) (.take (.take (.take (.take (.take .nil))))) <| R.callR C rfl rfl rfl rfl ((x_ask hJ he8 (hv.mono hl18))) fun v9 ro9 hl9 hq9 => ?_
  subst hq9
  have hl := RO.le_trans hl18 hl9
  refine Rm C rfl rfl <| R.ext C rfl rfl rfl rfl <| R.ext C rfl rfl rfl rfl <| R.ext C rfl rfl rfl rfl <| R.asg C rfl rfl rfl <| R.asg C rfl rfl rfl <| Ad C rfl rfl <| X.perm C.1 (perm_mid [_, _] [_] _) <| X.weaken ?_ (found_hear (he.mono hl) (hc.mono hl) (hw.mono hl) (hvl.mono (RO.le_trans hl8 hl9)) fun ro' own h1 h2 => hret ro' own (RO.le_trans hl h1) ((List.Sublist.trans (by repeat (first | exact Sr | apply Sc)) h2)))
  exact ⟨rfl, rfl, rfl, rfl, rfl, rfl, rfl, rfl, trivial⟩
end Go.Lg.B
namespace Go.Lg.B
open Go Go.Conc Go.Lg Go.Proofs Go.Proofs.Tryz
variable {Q : Machine → Outcome → World → Trace → Prop}
noncomputable def g5 : Code := cR (cR (cR (cR (cR b19))))
theorem found_at5 {p1 : Nat} {cb wb : Option Addr} {cc wc : Nat} {ro : RO} {c : Frame} {cs : List Frame} {tail : List (Nat × Obj)} (he : Env ro) (hc : Ls Rc.cells 2 ro (.slice cb 2 cc) exB.cs) (hw : Ls Wt.cells 5 ro (.slice wb 3 wc) exB.ws)
    (hret : ∀ ro' own, ro.le ro' → tail.Sublist own → JM prog Q (G (c.finish (.bool true)) cs) ⟨ro', own⟩) :
    X (JM prog Q) (bf 19 .normal) (c :: cs) 340 [.code g5] [] [(1, .pointer (some ⟨p1, 0, none⟩)), (2, .int .i64 1), (3, .int .i64 0), (4, .int .i64 2), (5, .int .i64 0), (6, .bool true), (7, .int .i64 0)]
      ⟨ro, (p1, .cells [.int .i64 3, .int .i64 3, .int .i64 1, .slice cb 2 cc, .slice wb 3 wc].toArray 25 (0, 0)) :: tail⟩ := by
  have hJ : Closed prog true (JM prog Q) := JM.closed
  let main := true
  let J := JM prog Q
  have C : Ctx prog true (JM prog Q) (bf 19 .normal) := ⟨hJ, by decide⟩
  have hv : BkV ro (.agg [.int .i64 3, .int .i64 3, .int .i64 1, .slice cb 2 cc, .slice wb 3 wc].toArray) exB := ⟨_, _, rfl, hc, hw⟩
  refine Xs C <| X.regionD C (by kernel_rfl) (by kernel_rfl) (by kernel_rfl) fun hok => Dl 0 hok (fun _ _ A h => R.loadAgg C rfl (A.w rfl rfl) (A.x rfl rfl) isAgg25 sizeOf25 (by repeat (first | exact Mh | apply Mt)) (.take (.take (.take (.take (.take .nil))))) h) <| D.eP2 (i := 1) (i' := 2) (dst := (some 51)) (dst' := (some 52)) [true] [true] hok rfl rfl (by kernel_rfl) (by kernel_rfl) (by kernel_rfl) (fun σr rest A hk => ?_) (fun σr rest A hk => ?_)
  ·
    refine R.callP C rfl (A.w rfl rfl) (A.x rfl rfl) (A.s rfl rfl) (sq_c hJ _ _ _) (hk _ _ ⟨(QFs.cons (QF.of rfl (fun _ _ A h => R.loadAgg C rfl (A.w rfl rfl) (A.x rfl rfl) isAgg25 sizeOf25 (by repeat (first | exact Mh | apply Mt)) (.take (.take (.take (.take (.take .nil))))) h)) QFs.nil), ?_⟩)
    refine D.eP (i := 2) (dst := (some 52)) [true] hok rfl (by kernel_rfl) (by kernel_rfl) (fun σr rest A hk => ?_)
    refine R.buildSlice C (vs := _) rfl (A.w rfl rfl) (show pvals _ _ = some (numbered 0 [_, _]) from (A.p rfl rfl)) rfl runUnderlying28 sizeOf3 zeroValue3 (by decide) ((.cons rfl rfl (.cons rfl rfl .nil))) fun p52 => hk _ _ ⟨(QFs.cons (QF.of rfl (fun _ _ A h => R.loadAgg C rfl (A.w rfl rfl) (A.x rfl rfl) isAgg25 sizeOf25 (by repeat (first | exact Mh | apply Mt)) (.take (.take (.take (.take (.take .nil))))) h)) QFs.nil), ?_⟩
    refine Dp 3 hok (fun _ _ _ A h => R.build C rfl (A.w rfl rfl) (A.p rfl rfl) zeroValue30 rfl runUnderlying30 (by kernel_rfl) (Fills.part rfl rfl sizeOf27 rfl (.here (.here .nil)) (Fills.part rfl rfl sizeOf28 rfl (.skip (.skip (.here .nil))) .nil)) h) <| D.eP (i := 4) (dst := (some 54)) [false] hok rfl (by kernel_rfl) (by kernel_rfl) (fun σr rest A hk => ?_)
    refine R.persist C.1 fun ro1 hl1 hp1 => R.callR C rfl (A.w rfl rfl) (A.x rfl rfl) (A.s rfl rfl) ((x_is2 hJ (he.mono hl1) (hv.mono hl1) ⟨_, _, rfl, Ls.lit (xs := ([0, 0] : List Int)) (t := 3) (fq := (0, 0)) ic_len (show ro1 p52 = _ from hp1), ⟨none, 0, rfl, .inl rfl⟩⟩)) fun v2 ro2 hl2 hq2 => hk _ _ ⟨QFs.nil, ?_⟩
    subst hq2
    refine Dm C 5 hok rfl rfl rfl <| Dp 6 hok (fun _ _ _ A h => R.ext C rfl (A.w rfl rfl) (A.x rfl rfl) rfl h) <| Dp 7 hok (fun _ _ _ A h => R.ext C rfl (A.w rfl rfl) (A.x rfl rfl) rfl h) <| Dp 8 hok (fun _ _ _ A h => R.asg C rfl (A.w rfl rfl) (A.x rfl rfl) h) <| Dp 9 hok (fun _ _ _ A h => R.asg C rfl (A.w rfl rfl) (A.x rfl rfl) h) <| D.done C hok (by kernel_rfl) ?_
    have hl := RO.le_trans hl1 hl2
    refine X.weaken ?_ (found_one (he.mono hl) (hc.mono hl) (hw.mono hl) fun ro' own h1 h2 => hret ro' own (RO.le_trans hl h1) h2)
    exact ⟨rfl, rfl, rfl, rfl, rfl, rfl, rfl, rfl, rfl, trivial⟩
  ·
    refine R.buildSlice C (vs := _) rfl (A.w rfl rfl) (show pvals _ _ = some (numbered 0 [_, _]) from (A.p rfl rfl)) rfl runUnderlying28 sizeOf3 zeroValue3 (by decide) ((.cons rfl rfl (.cons rfl rfl .nil))) fun p52 => hk _ _ ⟨(QFs.cons (QF.of rfl (fun _ _ A h => R.loadAgg C rfl (A.w rfl rfl) (A.x rfl rfl) isAgg25 sizeOf25 (by repeat (first | exact Mh | apply Mt)) (.take (.take (.take (.take (.take .nil))))) h)) QFs.nil), ?_⟩
    refine D.eP (i := 1) (dst := (some 51)) [true] hok rfl (by kernel_rfl) (by kernel_rfl) (fun σr rest A hk => ?_)
    refine R.callP C rfl (A.w rfl rfl) (A.x rfl rfl) (A.s rfl rfl) (sq_c hJ _ _ _) (hk _ _ ⟨(QFs.cons (QF.of rfl (fun _ _ A h => R.loadAgg C rfl (A.w rfl rfl) (A.x rfl rfl) isAgg25 sizeOf25 (by repeat (first | exact Mh | apply Mt)) (.take (.take (.take (.take (.take .nil))))) h)) QFs.nil), ?_⟩)
    refine Dp 3 hok (fun _ _ _ A h => R.build C rfl (A.w rfl rfl) (A.p rfl rfl) zeroValue30 rfl runUnderlying30 (by kernel_rfl) (Fills.part rfl rfl sizeOf27 rfl (.here (.here .nil)) (Fills.part rfl rfl sizeOf28 rfl (.skip (.skip (.here .nil))) .nil)) h) <| D.eP (i := 4) (dst := (some 54)) [false] hok rfl (by kernel_rfl) (by kernel_rfl) (fun σr rest A hk => ?_)
    refine R.persist C.1 fun ro1 hl1 hp1 => R.callR C rfl (A.w rfl rfl) (A.x rfl rfl) (A.s rfl rfl) ((x_is2 hJ (he.mono hl1) (hv.mono hl1) ⟨_, _, rfl, Ls.lit (xs := ([0, 0] : List Int)) (t := 3) (fq := (0, 0)) ic_len (show ro1 p52 = _ from hp1), ⟨none, 0, rfl, .inl rfl⟩⟩)) fun v2 ro2 hl2 hq2 => hk _ _ ⟨QFs.nil, ?_⟩
    subst hq2
    refine Dm C 5 hok rfl rfl rfl <| Dp 6 hok (fun _ _ _ A h => R.ext C rfl (A.w rfl rfl) (A.x rfl rfl) rfl h) <| Dp 7 hok (fun _ _ _ A h => R.ext C rfl (A.w rfl rfl) (A.x rfl rfl) rfl h) <| Dp 8 hok (fun _ _ _ A h => R.asg C rfl (A.w rfl rfl) (A.x rfl rfl) h) <| Dp 9 hok (fun _ _ _ A h => R.asg C rfl (A.w rfl rfl) (A.x rfl rfl) h) <| D.done C hok (by kernel_rfl) ?_
    have hl := RO.le_trans hl1 hl2
    refine X.weaken ?_ (found_one (he.mono hl) (hc.mono hl) (hw.mono hl) fun ro' own h1 h2 => hret ro' own (RO.le_trans hl h1) h2)
    exact ⟨rfl, rfl, rfl, rfl, rfl, rfl, rfl, rfl, rfl, trivial⟩
noncomputable def g4 : Code := cR (cR (cR (cR b19)))
theorem found_at4 {p1 : Nat} {cb wb : Option Addr} {cc wc : Nat} {ro : RO} {c : Frame} {cs : List Frame} {tail : List (Nat × Obj)} (he : Env ro) (hc : Ls Rc.cells 2 ro (.slice cb 2 cc) exB.cs) (hw : Ls Wt.cells 5 ro (.slice wb 3 wc) exB.ws)
    (hret : ∀ ro' own, ro.le ro' → tail.Sublist own → JM prog Q (G (c.finish (.bool true)) cs) ⟨ro', own⟩) :
    X (JM prog Q) (bf 19 .normal) (c :: cs) 340 [.code g4] [] [(1, .pointer (some ⟨p1, 0, none⟩)), (2, .int .i64 1), (3, .int .i64 0), (4, .int .i64 2), (5, .int .i64 0)]
      ⟨ro, (p1, .cells [.int .i64 3, .int .i64 3, .int .i64 1, .slice cb 2 cc, .slice wb 3 wc].toArray 25 (0, 0)) :: tail⟩ := by
  have hJ : Closed prog true (JM prog Q) := JM.closed
  let main := true
  let J := JM prog Q
  have C : Ctx prog true (JM prog Q) (bf 19 .normal) := ⟨hJ, by decide⟩
  have hv : BkV ro (.agg [.int .i64 3, .int .i64 3, .int .i64 1, .slice cb 2 cc, .slice wb 3 wc].toArray) exB := ⟨_, _, rfl, hc, hw⟩
  refine Xs C <| X.regionD C (by kernel_rfl) (by kernel_rfl) (by kernel_rfl) fun hok => Dl 0 hok (fun _ _ A h => R.loadAgg C rfl (A.w rfl rfl) (A.x rfl rfl) isAgg25 sizeOf25 (by repeat (first | exact Mh | apply Mt)) (.take (.take (.take (.take (.take .nil))))) h) <| D.eP2 (i := 1) (i' := 2) (dst := (some 43)) (dst' := (some 44)) [true] [true] hok rfl rfl (by kernel_rfl) (by kernel_rfl) (by kernel_rfl) (fun σr rest A hk => ?_) (fun σr rest A hk => ?_)
  ·
    refine R.callP C rfl (A.w rfl rfl) (A.x rfl rfl) (A.s rfl rfl) (sq_c hJ _ _ _) (hk _ _ ⟨(QFs.cons (QF.of rfl (fun _ _ A h => R.loadAgg C rfl (A.w rfl rfl) (A.x rfl rfl) isAgg25 sizeOf25 (by repeat (first | exact Mh | apply Mt)) (.take (.take (.take (.take (.take .nil))))) h)) QFs.nil), ?_⟩)
    refine D.eP (i := 2) (dst := (some 44)) [true] hok rfl (by kernel_rfl) (by kernel_rfl) (fun σr rest A hk => ?_)
    refine R.buildSlice C (vs := _) rfl (A.w rfl rfl) (show pvals _ _ = some (numbered 0 [_, _]) from (A.p rfl rfl)) rfl runUnderlying28 sizeOf3 zeroValue3 (by decide) ((.cons rfl rfl (.cons rfl rfl .nil))) fun p44 => hk _ _ ⟨(QFs.cons (QF.of rfl (fun _ _ A h => R.loadAgg C rfl (A.w rfl rfl) (A.x rfl rfl) isAgg25 sizeOf25 (by repeat (first | exact Mh | apply Mt)) (.take (.take (.take (.take (.take .nil))))) h)) QFs.nil), ?_⟩
    refine Dp 3 hok (fun _ _ _ A h => R.build C rfl (A.w rfl rfl) (A.p rfl rfl) zeroValue30 rfl runUnderlying30 (by kernel_rfl) (Fills.part rfl rfl sizeOf27 rfl (.here (.here .nil)) (Fills.part rfl rfl sizeOf28 rfl (.skip (.skip (.here .nil))) .nil)) h) <| D.eP (i := 4) (dst := (some 46)) [false] hok rfl (by kernel_rfl) (by kernel_rfl) (fun σr rest A hk => ?_)
    refine R.persist C.1 fun ro1 hl1 hp1 => R.callR C rfl (A.w rfl rfl) (A.x rfl rfl) (A.s rfl rfl) ((x_is1 hJ (he.mono hl1) (hv.mono hl1) ⟨_, _, rfl, Ls.lit (xs := ([0, 1] : List Int)) (t := 3) (fq := (0, 0)) ic_len (show ro1 p44 = _ from hp1), ⟨none, 0, rfl, .inl rfl⟩⟩)) fun v2 ro2 hl2 hq2 => hk _ _ ⟨QFs.nil, ?_⟩
    subst hq2
    refine Dm C 5 hok rfl rfl rfl <| Dp 6 hok (fun _ _ _ A h => R.ext C rfl (A.w rfl rfl) (A.x rfl rfl) rfl h) <| Dp 7 hok (fun _ _ _ A h => R.ext C rfl (A.w rfl rfl) (A.x rfl rfl) rfl h) <| Dp 8 hok (fun _ _ _ A h => R.asg C rfl (A.w rfl rfl) (A.x rfl rfl) h) <| Dp 9 hok (fun _ _ _ A h => R.asg C rfl (A.w rfl rfl) (A.x rfl rfl) h) <| D.done C hok (by kernel_rfl) ?_
    have hl := RO.le_trans hl1 hl2
    refine X.weaken ?_ (found_at5 (he.mono hl) (hc.mono hl) (hw.mono hl) fun ro' own h1 h2 => hret ro' own (RO.le_trans hl h1) h2)
    exact ⟨rfl, rfl, rfl, rfl, rfl, rfl, rfl, trivial⟩
  ·
    refine R.buildSlice C (vs := _) rfl (A.w rfl rfl) (show pvals _ _ = some (numbered 0 [_, _]) from (A.p rfl rfl)) rfl runUnderlying28 sizeOf3 zeroValue3 (by decide) ((.cons rfl rfl (.cons rfl rfl .nil))) fun p44 => hk _ _ ⟨(QFs.cons (QF.of rfl (fun _ _ A h => R.loadAgg C rfl (A.w rfl rfl) (A.x rfl rfl) isAgg25 sizeOf25 (by repeat (first | exact Mh | apply Mt)) (.take (.take (.take (.take (.take .nil))))) h)) QFs.nil), ?_⟩
    refine D.eP (i := 1) (dst := (some 43)) [true] hok rfl (by kernel_rfl) (by kernel_rfl) (fun σr rest A hk => ?_)
    refine R.callP C rfl (A.w rfl rfl) (A.x rfl rfl) (A.s rfl rfl) (sq_c hJ _ _ _) (hk _ _ ⟨(QFs.cons (QF.of rfl (fun _ _ A h => R.loadAgg C rfl (A.w rfl rfl) (A.x rfl rfl) isAgg25 sizeOf25 (by repeat (first | exact Mh | apply Mt)) (.take (.take (.take (.take (.take .nil))))) h)) QFs.nil), ?_⟩)
    refine Dp 3 hok (fun _ _ _ A h => R.build C rfl (A.w rfl rfl) (A.p rfl rfl) zeroValue30 rfl runUnderlying30 (by kernel_rfl) (Fills.part rfl rfl sizeOf27 rfl (.here (.here .nil)) (Fills.part rfl rfl sizeOf28 rfl (.skip (.skip (.here .nil))) .nil)) h) <| D.eP (i := 4) (dst := (some 46)) [false] hok rfl (by kernel_rfl) (by kernel_rfl) (fun σr rest A hk => ?_)
    refine R.persist C.1 fun ro1 hl1 hp1 => R.callR C rfl (A.w rfl rfl) (A.x rfl rfl) (A.s rfl rfl) ((x_is1 hJ (he.mono hl1) (hv.mono hl1) ⟨_, _, rfl, Ls.lit (xs := ([0, 1] : List Int)) (t := 3) (fq := (0, 0)) ic_len (show ro1 p44 = _ from hp1), ⟨none, 0, rfl, .inl rfl⟩⟩)) fun v2 ro2 hl2 hq2 => hk _ _ ⟨QFs.nil, ?_⟩
    subst hq2
    refine Dm C 5 hok rfl rfl rfl <| Dp 6 hok (fun _ _ _ A h => R.ext C rfl (A.w rfl rfl) (A.x rfl rfl) rfl h) <| Dp 7 hok (fun _ _ _ A h => R.ext C rfl (A.w rfl rfl) (A.x rfl rfl) rfl h) <| Dp 8 hok (fun _ _ _ A h => R.asg C rfl (A.w rfl rfl) (A.x rfl rfl) h) <| Dp 9 hok (fun _ _ _ A h => R.asg C rfl (A.w rfl rfl) (A.x rfl rfl) h) <| D.done C hok (by kernel_rfl) ?_
    have hl := RO.le_trans hl1 hl2
    refine X.weaken ?_ (found_at5 (he.mono hl) (hc.mono hl) (hw.mono hl) fun ro' own h1 h2 => hret ro' own (RO.le_trans hl h1) h2)
    exact ⟨rfl, rfl, rfl, rfl, rfl, rfl, rfl, trivial⟩
theorem found_c (ro : RO) (he : Env ro) : CallR prog (JM prog Q) (fnv 19) [] ro (fun w _ => w = .bool true) := by
  have hJ : Closed prog true (JM prog Q) := JM.closed
  let main := true
  let J := JM prog Q
  refine CallR.intro hJ (by kernel_rfl) fun c cs tail hret => enter_X (n := 340) func19 rfl rfl (Nl rfl) ?_
  have C : Ctx prog main J (bf 19 .normal) := ⟨hJ, by decide⟩
  refine Xr C rfl rfl <| Ad C rfl rfl <| Xr C rfl rfl <| R.callR C rfl rfl rfl rfl ((example_c hJ _)) fun v1 ro1 hl1 hq1 => ?_
  obtain ⟨vc, vw, rfl, hc, hw⟩ := hq1
  obtain ⟨cb, cc, rfl⟩ := hc.form
  obtain ⟨wb, wc, rfl⟩ := hw.form
  have kt1 := true_c hJ ⟨0, 0⟩ ⟨2, 1⟩ ro1
  have kt2 := true_c hJ ⟨0, 0⟩ ⟨5, -2⟩ ro1
  rw [k_true1] at kt1
  rw [k_true2] at kt2
  refine R.alloc C rfl rfl zeroValue25 rfl fun p1 => R.store C rfl rfl rfl rfl sizeOf25 rfl rfl rfl (by repeat (first | exact Uh | apply Ut)) (.here (.here (.here (.here (.here .nil))))) <| R.done C <| Xr C rfl rfl <| R.callP C rfl rfl rfl rfl (sq_c hJ _ _ _) <| R.callP C rfl rfl rfl rfl (sq_c hJ _ _ _) <| R.callP C rfl rfl rfl rfl (kt1) <| Rm C rfl rfl <| R.ext C rfl rfl rfl rfl <| R.ext C rfl rfl rfl rfl <| R.asg C rfl rfl rfl <| Ad C rfl rfl <| Xr C rfl rfl <| R.callP C rfl rfl rfl rfl (sq_c hJ _ _ _) <| R.callP C rfl rfl rfl rfl (sq_c hJ _ _ _) <| R.callP C rfl rfl rfl rfl (kt2) <| Rm C rfl rfl <| R.ext C rfl rfl rfl rfl <| R.ext C rfl rfl rfl rfl <| R.asg C rfl rfl rfl <| Ad C rfl rfl <| X.weaken ?_ (found_at4 (he.mono hl1) hc hw fun ro' own h1 h2 => hret _ ro' own (RO.le_trans hl1 h1) h2 rfl)
  exact ⟨rfl, rfl, rfl, rfl, rfl, trivial⟩
end Go.Lg.B
namespace Go.Lg
open Go Go.Conc
theorem R.neBool {P : Program} {main : Bool} {J : Goroutine → Mem → Prop} {b : Frame} (C : Ctx P main J b) {cs : List Frame} {n : Nat} {ds : List Deferred} {σ : Slots} {k : List Item} {ops : Array Oper} {i : Nat} {rest : List Nat} {d : Nat} {ty : TypeId} {pos : String} {af : Array Edge} {g : Option (Nat × Bool)}
    {t t' : TypeId} {x y : Operand} {p q : Bool} {M : Mem} (ho : ops[i]? = some ⟨some d, .binOp .neq t x y t', ty, pos, af, g⟩) (hg : wantedS ops σ ⟨some d, .binOp .neq t x y t', ty, pos, af, g⟩ = some true)
    (hx : ev σ x = some (.bool p)) (hy : ev σ y = some (.bool q)) (hu : ∀ w, Sem.run P (Go.underlying t) w = .ok .bool w)
    (h : R J b cs n ops rest k ds ((d, .bool (!(p == q))) :: σ) M) : R J b cs n ops (i :: rest) k ds σ M :=
  R.v C ho hg rfl (fun a ha K hk => by
    unfold execOp
    simp only [ha.ev hx, ha.ev hy]
    refine ex_v (Sm.bind ?_)
    unfold eqGuard
    refine Sm.pure ?_
    show Sm P M (binOp .neq t (.bool p) (.bool q)) _
    unfold binOp
    simp only
    refine Sm.bind ?_
    unfold Op.equal Op.equalIn
    refine Sm.bind (Sm.underlying hu ?_)
    exact Sm.pure (Sm.pure hk)) h
theorem R.eqBool {P : Program} {main : Bool} {J : Goroutine → Mem → Prop} {b : Frame} (C : Ctx P main J b) {cs : List Frame} {n : Nat} {ds : List Deferred} {σ : Slots} {k : List Item} {ops : Array Oper} {i : Nat} {rest : List Nat} {d : Nat} {ty : TypeId} {pos : String} {af : Array Edge} {g : Option (Nat × Bool)}
    {t t' : TypeId} {x y : Operand} {p q : Bool} {M : Mem} (ho : ops[i]? = some ⟨some d, .binOp .eql t x y t', ty, pos, af, g⟩) (hg : wantedS ops σ ⟨some d, .binOp .eql t x y t', ty, pos, af, g⟩ = some true)
    (hx : ev σ x = some (.bool p)) (hy : ev σ y = some (.bool q)) (hu : ∀ w, Sem.run P (Go.underlying t) w = .ok .bool w)
    (h : R J b cs n ops rest k ds ((d, .bool (p == q)) :: σ) M) : R J b cs n ops (i :: rest) k ds σ M :=
  R.v C ho hg rfl (fun a ha K hk => by
    unfold execOp
    simp only [ha.ev hx, ha.ev hy]
    refine ex_v (Sm.bind ?_)
    unfold eqGuard
    refine Sm.pure ?_
    show Sm P M (binOp .eql t (.bool p) (.bool q)) _
    unfold binOp
    simp only
    refine Sm.bind ?_
    unfold Op.equal Op.equalIn
    refine Sm.bind (Sm.underlying hu ?_)
    exact Sm.pure (Sm.pure hk)) h
end Go.Lg
namespace Go.Lg.B
open Go Go.Conc Go.Lg Go.Proofs Go.Proofs.Tryz
section
variable {main : Bool} {J : Goroutine → Mem → Prop} (hJ : Closed prog main J)
include hJ
theorem betweenR_c (n l m : Int) (ro : RO) : CallP prog J (fnv 55) [.int .i64 n, .int .i64 l, .int .i64 m] ro (.bool (between n l m)) := by
  refine CallP.intro hJ (by kernel_rfl) fun c cs tail hret => enter_X (n := 15) func55 rfl rfl (Nl rfl) ?_
  have C : Ctx prog main J (bf 55 .normal) := ⟨hJ, by decide⟩
  refine Xr C rfl rfl <| Ad C rfl rfl <| Xr C rfl rfl <| Rm C rfl rfl <| Rm C rfl rfl <| R.int C rfl rfl rfl rfl b_leq <| Rm C rfl rfl <| R.fix (t := 10) rfl (fun q1 => ?_) (fun q1 => ?_)
  · have q1 := q1
    refine Rm C rfl rfl <| Rm C rfl rfl <| R.int C rfl rfl rfl rfl b_leq <| R.pickT C rfl rfl rfl rfl <| Ad C rfl rfl <| X.ret C rfl rfl func55 rfl (by exact (.tmp rfl .nil)) <| hret _ _ ?_ (by repeat (first | exact Sr | apply Sc))
    first | (simp_all [between, retVal]; done) | (simp_all [between, retVal]; omega)
  · have q1 := q1
    refine R.pass C rfl rfl <| R.pass C rfl rfl <| R.pass C rfl rfl <| R.pickF C rfl rfl rfl rfl <| Ad C rfl rfl <| X.ret C rfl rfl func55 rfl (by exact (.tmp rfl .nil)) <| hret _ _ ?_ (by repeat (first | exact Sr | apply Sc))
    first | (simp_all [between, retVal]; done) | (simp_all [between, retVal]; omega)
end
end Go.Lg.B
namespace Go.Lg
open Go Go.Conc
section
variable {P : Program} {Post : Value → World → Prop} {b : Frame} {n : Nat} {ds : List Deferred} {σ : Slots} {ro : RO} {own : List (Nat × Obj)} {k : List Item}
def Back0 (ro : RO) (Post : Value → World → Prop) (R : Value → RO → Prop) : Prop :=
  ∀ v ro' own, ro.le ro' → R v ro' → ∀ w, Sat ⟨ro', own⟩ w → Post v w
theorem J_leave0 {a : Act} {todo : List Item} {fn : Func} {rs : List ResultVar} {vs : List Value} (hi : P.inits.idxOf? b.fn = none) (hkind : b.kind = .normal) (hf : P.funcs[b.fn]? = some fn) (hrs : fn.results = rs.toArray) (ha : Holds n [] σ a) (hr : Res P σ own rs vs) (h : ∀ w, Sat ⟨ro, own⟩ w → Post (retVal vs) w) :
    JM P (Go.Conc.Good P Post) (G { fr b a todo with mode := .returning } []) ⟨ro, own⟩ := by
  refine JM.last rfl fun w hs => ?_
  obtain ⟨x, w', es, M', h1, h2, h3, h4⟩ := Sm.results (ro := ro) (tmps := a.tmps) ha rfl hrs hr (K := fun v M' => v = retVal vs ∧ M' = ⟨ro, own⟩) ⟨rfl, rfl⟩ w #[] hs
  subst h3; subst h4
  rw [Array.empty_append] at h1
  refine ⟨_, w', seen P b.fn es, _, ?_, { h2 with evs := fun e he => h2.evs e (mem_seen he) }, h w' h2.sat⟩
  simp only [fr, G, stepG, unwind, ha.defers, hf]
  rw [h1]
  simp [GStep.after, doReturn, hkind, hi]
variable (C : Ctx P true (JM P (Go.Conc.Good P Post)) b)
include C
theorem X.ret0 {fn : Func} {rs : List ResultVar} {vs : List Value} (hi : P.inits.idxOf? b.fn = none) (hro : b.roundOf = none) (hkind : b.kind = .normal) (hf : P.funcs[b.fn]? = some fn) (hrs : fn.results = rs.toArray) (hr : Res P σ own rs vs) (h : ∀ w, Sat ⟨ro, own⟩ w → Post (retVal vs) w) :
    X (JM P (Go.Conc.Good P Post)) b [] n (.code .ret :: k) [] σ ⟨ro, own⟩ := fun _ ha => C.1.ctl rfl (fun w => ret_step hro w) (J_leave0 hi hkind hf hrs ha hr h)
end
def Root (P : Program) (f : FuncId) (args : List Value) (ro : RO) (R : Value → RO → Prop) : Prop :=
  ∀ Post, Back0 ro Post R → JM P (Go.Conc.Good P Post) (G (Frame.enter P f args.toArray .normal) []) ⟨ro, []⟩
end Go.Lg
namespace Go.Lg
open Go Go.Conc Go.ChangeShapes Go.RowKit
section
variable {H : Type} {enc : TypeId × Value → H}
theorem trodAll_stays {P : Program} (hl : laidOutB P = true) {W W' : World} {sp' : Nat → Bool} : ∀ {ts : List TypeId} {vs : List Value} {ds : List (DataW H)} {ps : List MemPlace}, (∀ t ∈ ts, P.readableRec t = true ∧ t < P.types.size) →
    DataW.TrodAll enc P W 0 (fun _ => true) true ts vs ds ps → (∀ p ∈ ps, W.sameAt W' p) → (∀ p ∈ ps, sp' p.block = true) → DataW.TrodAll enc P W' 0 sp' true ts vs ds ps
  | [], vs, ds, ps, _, h, _, _ => by obtain ⟨rfl, rfl, rfl⟩ := trodAll_nil h; exact trodAll_mk0
  | t :: ts, vs, ds, ps, hr, h, h1, h2 => by
    obtain ⟨v, vs', d, ds', p, q, rfl, rfl, rfl, hd, hrest⟩ := trodAll_cons h
    exact ⟨p, q, WideElems.Trod_stays hl (hr t List.mem_cons_self).1 (hr t List.mem_cons_self).2 hd (fun x hx => h1 x (List.mem_append_left _ hx)) (fun x hx => h2 x (List.mem_append_left _ hx)), trodAll_stays hl (fun t ht => hr t (List.mem_cons_of_mem _ ht)) hrest (fun x hx => h1 x (List.mem_append_right _ hx)) (fun x hx => h2 x (List.mem_append_right _ hx)), rfl⟩
theorem sameAt_of {W W' : World} (h : ∀ (b : Nat) (o : Obj), W.heap[b]? = some o → W'.heap[b]? = some o) {p : MemPlace} (hp : p.block < W.heap.size) : W.sameAt W' p := by
  have hb : W'.heap[p.block]? = W.heap[p.block]? := by rw [h _ _ (Array.getElem?_eq_getElem hp), Array.getElem?_eq_getElem hp]
  cases p with
  | cell b o => exact World.cell?_of_block (w := W) hb
  | map b => exact hb
theorem keptBut_of {W W' : World} (h : ∀ (b : Nat) (o : Obj), W.heap[b]? = some o → W'.heap[b]? = some o) (hs : SameOut W W') (may : MemPlace → Prop) : W.keptBut W' may := by
  refine ⟨hs.1, hs.2, fun i hi => ?_⟩
  rw [h _ _ (Array.getElem?_eq_getElem hi), Array.getElem?_eq_getElem hi]
  split <;> simp_all
theorem leaving_of_root {a : Assume} {C : Checked} {os : Os} {f : FuncId} {fn : Func} {s : ChangeSpec} {conds : List PathCond} {apart fresh handsOn : Bool} {X : World → Array Value → Prop} {tb : TypeId}
    (hX : ∀ (w w' : World) (args : Array Value), w.heap = w'.heap → X w args → X w' args)
    (own : ownKnob C.prog.godebug = none) (started : os.Started) (hfn : C.prog.funcs[f]? = some fn)
    (hl : laidOutB C.prog = true) (hpar : ∀ t ∈ fn.params.toList, C.prog.readableRec t = true ∧ t < C.prog.types.size) (hvars : s.vars = []) (hres : fn.resultTypes = #[tb]) (htb : C.prog.underlying tb = some .bool)
    (witness : ∃ (w : World) (tape : Tape) (i : Input), w.os = os ∧ (w.forCall tape i).Shaped C.prog ∧ i.vars = [] ∧ Input.okWide C.prog (w.forCall tape i) .any w.heap.size f i ∧
      ((s.pre enc C.prog fn conds apart (w.forCall tape i).memory i.args ∧ X (w.forCall tape i).memory i.args) ∧ sizedMet enc C.prog fn (OpenSpec.ofChange s) apart (w.forCall tape i).memory i.args) ∧ a.holds C.prog (lone (Frame.enter C.prog f i.args .normal) [] (w.forCall tape i)))
    (root : ∀ (W : World) (base : Nat) (args : Array Value) (ds gs : List (DataW H)) (before : List MemPlace),
      (∀ (j : Nat) t v, fn.params[j]? = some t → args[j]? = some v → Value.okWide C.prog W .any base t v) →
      DataW.Whole enc C.prog fn.params.toList s.vars apart W args.toList ds gs before →
      conds.all (PathCond.test C.prog ⟨fn.params.toList, ds, s.plain.varTypes C.prog, gs⟩) = true → (DataW.weightsEach C.prog (fn.params.toList ++ s.plain.varTypes C.prog) (ds ++ gs)).all (· ≤ reachBytes) = true → X W args →
      s.fn H (ds ++ gs) = { results := [.lit (.bool true)], args := ds, vars := [] } ∧ Root C.prog f args.toList (fun b => W.heap[b]?) (fun w _ => w = .bool true)) :
    ReturnsInLeavingWide a C os f .any (fun w args => (s.pre enc C.prog fn conds apart w args ∧ X w args) ∧ sizedMet enc C.prog fn (OpenSpec.ofChange s) apart w args) (s.post enc C.prog fn apart fresh handsOn false) := by
  refine returnsInLeavingWide_of_good own started witness ?_
  intro w tape i _ _ _ hok hpre hholds
  obtain ⟨_, _, _, fn', hfn', _, _, _, _, hval⟩ := hok
  have e : fn' = fn := Option.some.inj (hfn'.symm.trans hfn)
  subst e
  obtain ⟨⟨⟨ds, gs, before, hw, hc⟩, hx⟩, hz⟩ := hpre
  have hw' := DataW.Whole.of_heap (w' := w.forCall tape i) (by rfl) hw
  generalize hW : w.forCall tape i = W at *
  obtain ⟨hfnv, hroot⟩ := root W w.heap.size i.args ds gs before hval hw' hc (hz.weights hw) (hX _ _ _ (by subst hW; rfl) hx)
  have hj := hroot (fun v w' => v = .bool true ∧ ∀ (b : Nat) (o : Obj), W.heap[b]? = some o → w'.heap[b]? = some o) fun v ro' own hle hv w' hs => ⟨hv, fun b o hb => hs.ro _ _ (hle _ _ hb)⟩
  rw [Array.toArray_toList] at hj
  obtain ⟨N, last, o, w', t', h1, h2, h3, hG, hso⟩ := JM.start hj
  refine ⟨N, last, o, w', t', h1, h2, h3, hG.mono fun v ⟨hv, hh⟩ => ChangeSpec.post_blind ?_⟩
  subst hv
  obtain ⟨p, q, hA, hV, rfl, _, _⟩ := id hw'
  refine ⟨ds, gs, _, [], p, [], hw', ?_, ?_, ?_, keptBut_of hh hso _, fun h => nomatch h⟩
  · rw [hfnv, hres]
    exact trodAll_mk1 (shut_bool htb _)
  · rw [hfnv]
    have hlt := hw'.lt
    exact trodAll_stays hl hpar hA (fun x hx => sameAt_of hh (hlt x (List.mem_append_left _ hx))) (fun x hx => by simpa using hlt x (List.mem_append_left _ hx))
  · rw [hfnv, hvars]; rfl
end
end Go.Lg
namespace Go.Lg
open Go
abbrev roOf (W : World) : RO := fun b => W.heap[b]?
theorem Sub.of_get {off n : Nat} {l out : List Value} (hn : off + n ≤ l.length) (ho : out.length = n) (h : ∀ i, i < n → l[off + i]? = out[i]?) : Sub off n l out := by
  have e : out = (l.drop off).take n := by
    refine List.ext_getElem? fun i => ?_
    by_cases hi : i < n
    · rw [← h i hi, List.getElem?_take_of_lt hi, List.getElem?_drop]
    · rw [List.getElem?_eq_none (by omega), List.getElem?_eq_none (by simp; omega)]
  rw [e]; exact Sub.of hn
theorem cell_block {W : World} {a : Addr} {v : Value} (h : W.cell? a = some v) : a.spot = none ∧ ∃ l t fq, W.heap[a.block]? = some (.cells l t fq) ∧ l[a.off]? = some v := by
  unfold World.cell? at h
  split at h
  · rename_i c t fq hc
    split at h
    · cases h
    · rename_i hs
      exact ⟨by simpa using hs, c, t, fq, hc, h⟩
  · cases h
theorem cells_get {W : World} {base : Nat} {a : Addr} {n : Nat} {l : List Value} (h : W.cells? base a n = some l) : l.length = n ∧ ∀ i, i < n → W.cell? (a.add i) = l[i]? := by
  unfold World.cells? at h
  split at h
  · refine ⟨by simpa using mapM_some_length h, fun i hi => mapM_some_get h i i (by simp [hi])⟩
  · cases h
theorem add_add (a : Addr) (i j : Nat) : (a.add i).add j = a.add (i + j) := by
  by_cases h1 : i = 0 <;> by_cases h2 : j = 0 <;> simp [Addr.add, h1, h2] <;> omega
theorem add_none {a : Addr} (h : a.spot = none) (i : Nat) : a.add i = ⟨a.block, a.off + i, none⟩ := by
  obtain ⟨b, o, s⟩ := a
  subst h
  by_cases h1 : i = 0 <;> simp [Addr.add, h1]
section
variable {H : Type} {enc0 : TypeId × Value → H} {P : Program} {W : World} {base : Nat} {sp : Nat → Bool} {held : Bool}
theorem ls_of_trod {α : Type} {enc : α → List Value} {k : Nat} {t e : TypeId} {fuel : Nat} {cs : List Value} {x : DataW H × List MemPlace} (ht : P.underlying t = some (.slice e)) (hc : P.cellsOf e = k) (hk : 0 < k) (hlen : ∀ x, (enc x).length = k)
    (hel : ∀ n cs z, DataW.trod enc0 P W base sp held n e cs = some z → ∃ y, cs = enc y) (h : DataW.trod enc0 P W base sp held fuel t cs = some x) : ∃ v xs, cs = [v] ∧ Ls enc k (roOf W) v xs := by
  subst hc
  rcases DataW.trod_slice ht h with ⟨rfl, _⟩ | ⟨a, len, cap, elems, rest, n, _, rfl, _, hb, hl, _, hlen2, hel2, _⟩
  · exact ⟨_, [], rfl, .nil⟩
  · have one : ∀ i, i < len → ∃ y : α, W.cells? base (a.add (i * P.cellsOf e)) (P.cellsOf e) = some (enc y) := fun i hi => by
      have h1 := hel2 i hi
      rw [List.getElem?_eq_getElem (by omega)] at h1
      obtain ⟨l, h2, h3⟩ := Option.bind_eq_some_iff.1 h1
      obtain ⟨y, rfl⟩ := hel _ _ _ h3
      exact ⟨y, h2⟩
    have all : ∀ m, m ≤ len → ∃ ys : List α, ys.length = m ∧ ∀ j, j < m * P.cellsOf e → W.cell? (a.add j) = (ys.flatMap enc)[j]? := by
      intro m
      induction m with
      | zero => exact fun _ => ⟨[], rfl, fun j hj => by omega⟩
      | succ m ih =>
        intro hm
        obtain ⟨ys, h1, h2⟩ := ih (by omega)
        obtain ⟨y, hy⟩ := one m (by omega)
        refine ⟨ys ++ [y], by simp [h1], fun j hj => ?_⟩
        have hfl : (ys.flatMap enc).length = m * P.cellsOf e := by rw [flatMap_len hlen, h1]
        rw [List.flatMap_append]
        by_cases hjm : j < m * P.cellsOf e
        · rw [List.getElem?_append_left (by omega)]; exact h2 j hjm
        · rw [List.getElem?_append_right (by omega), hfl]
          have := (cells_get hy).2 (j - m * P.cellsOf e) (by rw [Nat.succ_mul] at hj; omega)
          simp only [List.flatMap_cons, List.flatMap_nil, List.append_nil]
          rw [← this, add_add]
          congr 2
          omega
    obtain ⟨ys, h1, h2⟩ := all len (Nat.le_refl _)
    refine ⟨_, ys, rfl, some a, cap, by rw [h1], ?_⟩
    by_cases h0 : len = 0
    · exact .inl (List.eq_nil_of_length_eq_zero (by omega))
    · right
      have hfl : (ys.flatMap enc).length = len * P.cellsOf e := by rw [flatMap_len hlen, h1]
      have hpos : 0 < len * P.cellsOf e := Nat.mul_pos (by omega) hk
      have hlast := h2 (len * P.cellsOf e - 1) (by omega)
      rw [List.getElem?_eq_getElem (by omega)] at hlast
      have hfirst := h2 0 hpos
      rw [List.getElem?_eq_getElem (by omega)] at hfirst
      have hs : a.spot = none := (cell_block hfirst).1
      rw [add_none hs] at hlast
      obtain ⟨_, l, t', fq, hh, hl2⟩ := cell_block hlast
      refine ⟨a.block, a.off, l.toList, t', fq, by obtain ⟨ab, ao, az⟩ := a; subst hs; rfl, by rw [Array.toArray_toList]; exact hh, ?_⟩
      rw [h1]
      have hlt : a.off + (len * P.cellsOf e - 1) < l.size := (Array.getElem?_eq_some_iff.1 hl2).1
      refine Sub.of_get (by simp; omega) hfl fun i hi => ?_
      have := h2 i hi
      rw [add_none hs] at this
      unfold World.cell? at this
      simp only at this
      rw [hh] at this
      simpa using this
theorem int_of_trod {t : TypeId} {k : IntKind} {fuel : Nat} {cs : List Value} {x : DataW H × List MemPlace} (ht : P.underlying t = some (.int k)) (h : DataW.trod enc0 P W base sp held fuel t cs = some x) : ∃ n, cs = [.int k n] ∧ (Lit.int k n).wf = true := by
  cases fuel with
  | zero => simp [DataW.trod] at h
  | succ n =>
    unfold DataW.trod at h
    rw [ht] at h
    split at h <;> simp_all
theorem bool_of_trod {t : TypeId} {fuel : Nat} {cs : List Value} {x : DataW H × List MemPlace} (ht : P.underlying t = some .bool) (h : DataW.trod enc0 P W base sp held fuel t cs = some x) : ∃ b, cs = [.bool b] := by
  cases fuel with
  | zero => simp [DataW.trod] at h
  | succ n =>
    unfold DataW.trod at h
    rw [ht] at h
    split at h <;> simp_all
end
end Go.Lg
namespace Go.Lg.B
open Go Go.Conc Go.Lg Go.Proofs Go.WideShapes Go.ChangeShapes Go.Proofs.Tryz
set_option maxRecDepth 100000
theorem cells3 : prog.cellsOf 3 = 1 := by kernel_rfl
theorem cells4 : prog.cellsOf 4 = 1 := by kernel_rfl
theorem cells22 : prog.cellsOf 22 = 1 := by kernel_rfl
theorem cells23 : prog.cellsOf 23 = 1 := by kernel_rfl
theorem cells28 : prog.cellsOf 28 = 1 := by kernel_rfl
theorem cells25 : prog.cellsOf 25 = 5 := by kernel_rfl
theorem cells27 : prog.cellsOf 27 = 2 := by kernel_rfl
theorem cells30 : prog.cellsOf 30 = 4 := by kernel_rfl
theorem cells46 : prog.cellsOf 46 = 2 := by kernel_rfl
theorem cells58 : prog.cellsOf 58 = 5 := by kernel_rfl
section
variable {H : Type} {enc0 : TypeId × Value → H} {W : World} {base : Nat} {sp : Nat → Bool} {held : Bool}
theorem field_of {P : Program} {t : TypeId} {fs : Array Field} {fuel : Nat} {cs : List Value} {x : DataW H × List MemPlace} (ht : P.underlying t = some (.struct fs)) (h : DataW.trod enc0 P W base sp held fuel t cs = some x) :
    cs.length = P.cellsOf t ∧ ∀ (i : Nat) (f : Field), fs[i]? = some f → ∃ n z, DataW.trod enc0 P W base sp held n f.type ((cs.drop f.offset).take (P.cellsOf f.type)) = some z := by
  obtain ⟨xs, n, _, _, h1, h2, h3⟩ := DataW.trod_struct ht h
  refine ⟨h1, fun i f hf => ?_⟩
  have hi : i < xs.length := by rw [h2]; exact (Array.getElem?_eq_some_iff.1 hf).1
  exact ⟨n, xs[i], by rw [h3 i f hf, List.getElem?_eq_getElem hi]⟩
theorem sq_of {n : Nat} {cs : List Value} {z : DataW H × List MemPlace} (h : DataW.trod enc0 prog W base sp held n 27 cs = some z) : ∃ s : Sq, cs = s.cells := by
  obtain ⟨hl, hf⟩ := field_of underlying27 h
  rw [cells27] at hl
  match cs, hl with
  | [a, c], _ =>
    have g0 : ∃ n z, DataW.trod enc0 prog W base sp held n 3 (([a, c].drop 0).take (prog.cellsOf 3)) = some z := hf 0 _ rfl
    rw [cells3] at g0
    obtain ⟨_, _, h0⟩ := g0
    have g1 : ∃ n z, DataW.trod enc0 prog W base sp held n 3 (([a, c].drop 1).take (prog.cellsOf 3)) = some z := hf 1 _ rfl
    rw [cells3] at g1
    obtain ⟨_, _, h1⟩ := g1
    obtain ⟨x0, e0, _⟩ := int_of_trod underlying3 h0
    obtain ⟨x1, e1, _⟩ := int_of_trod underlying3 h1
    simp at e0 e1
    subst e0; subst e1
    exact ⟨⟨x0, x1⟩, rfl⟩
theorem rc_of {n : Nat} {cs : List Value} {z : DataW H × List MemPlace} (h : DataW.trod enc0 prog W base sp held n 46 cs = some z) : ∃ s : Rc, cs = s.cells := by
  obtain ⟨hl, hf⟩ := field_of underlying46 h
  rw [cells46] at hl
  match cs, hl with
  | [a, c], _ =>
    have g0 : ∃ n z, DataW.trod enc0 prog W base sp held n 3 (([a, c].drop 0).take (prog.cellsOf 3)) = some z := hf 0 _ rfl
    rw [cells3] at g0
    obtain ⟨_, _, h0⟩ := g0
    have g1 : ∃ n z, DataW.trod enc0 prog W base sp held n 3 (([a, c].drop 1).take (prog.cellsOf 3)) = some z := hf 1 _ rfl
    rw [cells3] at g1
    obtain ⟨_, _, h1⟩ := g1
    obtain ⟨x0, e0, _⟩ := int_of_trod underlying3 h0
    obtain ⟨x1, e1, _⟩ := int_of_trod underlying3 h1
    simp at e0 e1
    subst e0; subst e1
    exact ⟨⟨x0, x1⟩, rfl⟩
theorem wt_of {n : Nat} {cs : List Value} {z : DataW H × List MemPlace} (h : DataW.trod enc0 prog W base sp held n 58 cs = some z) : ∃ s : Wt, cs = s.cells := by
  obtain ⟨hl, hf⟩ := field_of underlying58 h
  rw [cells58] at hl
  match cs, hl with
  | [a, c, d, e, f], _ =>
    have g0 : ∃ n z, DataW.trod enc0 prog W base sp held n 27 (([a, c, d, e, f].drop 0).take (prog.cellsOf 27)) = some z := hf 0 _ rfl
    rw [cells27] at g0
    obtain ⟨_, _, h0⟩ := g0
    have g1 : ∃ n z, DataW.trod enc0 prog W base sp held n 3 (([a, c, d, e, f].drop 2).take (prog.cellsOf 3)) = some z := hf 1 _ rfl
    rw [cells3] at g1
    obtain ⟨_, _, h1⟩ := g1
    have g2 : ∃ n z, DataW.trod enc0 prog W base sp held n 3 (([a, c, d, e, f].drop 3).take (prog.cellsOf 3)) = some z := hf 2 _ rfl
    rw [cells3] at g2
    obtain ⟨_, _, h2⟩ := g2
    have g3 : ∃ n z, DataW.trod enc0 prog W base sp held n 4 (([a, c, d, e, f].drop 4).take (prog.cellsOf 4)) = some z := hf 3 _ rfl
    rw [cells4] at g3
    obtain ⟨_, _, h3⟩ := g3
    obtain ⟨s, e0⟩ := sq_of h0
    obtain ⟨x1, e1, _⟩ := int_of_trod underlying3 h1
    obtain ⟨x2, e2, _⟩ := int_of_trod underlying3 h2
    obtain ⟨x3, e3⟩ := bool_of_trod underlying4 h3
    simp [Sq.cells] at e0 e1 e2 e3
    obtain ⟨rfl, rfl⟩ := e0
    subst e1; subst e2; subst e3
    exact ⟨⟨s, x1, x2, x3⟩, rfl⟩
theorem ic_of {n : Nat} {cs : List Value} {z : DataW H × List MemPlace} (h : DataW.trod enc0 prog W base sp held n 3 cs = some z) : ∃ s : Int, cs = ic s := by
  obtain ⟨x, rfl, _⟩ := int_of_trod underlying3 h
  exact ⟨x, rfl⟩
theorem rcs_of {n : Nat} {cs : List Value} {z : DataW H × List MemPlace} (h : DataW.trod enc0 prog W base sp held n 22 cs = some z) : ∃ v xs, cs = [v] ∧ Ls Rc.cells 2 (fun b => W.heap[b]?) v xs :=
  ls_of_trod underlying22 cells46 (by decide) Rc.len (fun _ _ _ h => rc_of h) h
theorem wts_of {n : Nat} {cs : List Value} {z : DataW H × List MemPlace} (h : DataW.trod enc0 prog W base sp held n 23 cs = some z) : ∃ v xs, cs = [v] ∧ Ls Wt.cells 5 (fun b => W.heap[b]?) v xs :=
  ls_of_trod underlying23 cells58 (by decide) Wt.len (fun _ _ _ h => wt_of h) h
theorem ints_of {n : Nat} {cs : List Value} {z : DataW H × List MemPlace} (h : DataW.trod enc0 prog W base sp held n 28 cs = some z) : ∃ v xs, cs = [v] ∧ LsI (fun b => W.heap[b]?) v xs :=
  ls_of_trod underlying28 cells3 (by decide) ic_len (fun _ _ _ h => ic_of h) h
theorem argSq {r : Reach} {b0 : Nat} {v : Value} {d : DataW H} {p : List MemPlace} (hv : Value.okWide prog W r b0 27 v) (h : DataW.Trod enc0 prog W base sp held 27 v d p) : ∃ s : Sq, v = s.val := by
  obtain ⟨cs, rfl, _⟩ := okWide_struct underlying27 hv
  obtain ⟨n, h⟩ := h
  obtain ⟨s, e⟩ := sq_of h
  exact ⟨s, by rw [Sq.val, ← e]; rfl⟩
theorem argRc {r : Reach} {b0 : Nat} {v : Value} {d : DataW H} {p : List MemPlace} (hv : Value.okWide prog W r b0 46 v) (h : DataW.Trod enc0 prog W base sp held 46 v d p) : ∃ s : Rc, v = s.val := by
  obtain ⟨cs, rfl, _⟩ := okWide_struct underlying46 hv
  obtain ⟨n, h⟩ := h
  obtain ⟨s, e⟩ := rc_of h
  exact ⟨s, by rw [Rc.val, ← e]; rfl⟩
theorem argWt {r : Reach} {b0 : Nat} {v : Value} {d : DataW H} {p : List MemPlace} (hv : Value.okWide prog W r b0 58 v) (h : DataW.Trod enc0 prog W base sp held 58 v d p) : ∃ s : Wt, v = s.val := by
  obtain ⟨cs, rfl, _⟩ := okWide_struct underlying58 hv
  obtain ⟨n, h⟩ := h
  obtain ⟨s, e⟩ := wt_of h
  exact ⟨s, by rw [Wt.val, ← e]; rfl⟩
theorem argBk {r : Reach} {b0 : Nat} {v : Value} {d : DataW H} {p : List MemPlace} (hv : Value.okWide prog W r b0 25 v) (h : DataW.Trod enc0 prog W base sp held 25 v d p) : ∃ b, BkV (fun b => W.heap[b]?) v b := by
  obtain ⟨⟨cs⟩, rfl, _⟩ := okWide_struct underlying25 hv
  obtain ⟨n, h⟩ := h
  obtain ⟨hl, hf⟩ := field_of (cs := cs) underlying25 h
  rw [cells25] at hl
  match cs, hl with
  | [a, c, d, e, f], _ =>
    have g0 : ∃ n z, DataW.trod enc0 prog W base sp held n 3 (([a, c, d, e, f].drop 0).take (prog.cellsOf 3)) = some z := hf 0 _ rfl
    rw [cells3] at g0
    obtain ⟨_, _, h0⟩ := g0
    have g1 : ∃ n z, DataW.trod enc0 prog W base sp held n 3 (([a, c, d, e, f].drop 1).take (prog.cellsOf 3)) = some z := hf 1 _ rfl
    rw [cells3] at g1
    obtain ⟨_, _, h1⟩ := g1
    have g2 : ∃ n z, DataW.trod enc0 prog W base sp held n 3 (([a, c, d, e, f].drop 2).take (prog.cellsOf 3)) = some z := hf 2 _ rfl
    rw [cells3] at g2
    obtain ⟨_, _, h2⟩ := g2
    have g3 : ∃ n z, DataW.trod enc0 prog W base sp held n 22 (([a, c, d, e, f].drop 3).take (prog.cellsOf 22)) = some z := hf 3 _ rfl
    rw [cells22] at g3
    obtain ⟨_, _, h3⟩ := g3
    have g4 : ∃ n z, DataW.trod enc0 prog W base sp held n 23 (([a, c, d, e, f].drop 4).take (prog.cellsOf 23)) = some z := hf 4 _ rfl
    rw [cells23] at g4
    obtain ⟨_, _, h4⟩ := g4
    obtain ⟨x0, e0, _⟩ := int_of_trod underlying3 h0
    obtain ⟨x1, e1, _⟩ := int_of_trod underlying3 h1
    obtain ⟨x2, e2, _⟩ := int_of_trod underlying3 h2
    obtain ⟨v3, x3, e3, l3⟩ := rcs_of h3
    obtain ⟨v4, x4, e4, l4⟩ := wts_of h4
    simp at e0 e1 e2 e3 e4
    subst e0; subst e1; subst e2; subst e3; subst e4
    exact ⟨⟨x0, x1, x2, x3, x4⟩, _, _, rfl, l3, l4⟩
theorem argCs {r : Reach} {b0 : Nat} {v : Value} {d : DataW H} {p : List MemPlace} (hv : Value.okWide prog W r b0 30 v) (h : DataW.Trod enc0 prog W base sp held 30 v d p) : ∃ c, CsV (fun b => W.heap[b]?) v c := by
  obtain ⟨⟨cs⟩, rfl, _⟩ := okWide_struct underlying30 hv
  obtain ⟨n, h⟩ := h
  obtain ⟨hl, hf⟩ := field_of (cs := cs) underlying30 h
  rw [cells30] at hl
  match cs, hl with
  | [a, c, d, e], _ =>
    have g0 : ∃ n z, DataW.trod enc0 prog W base sp held n 27 (([a, c, d, e].drop 0).take (prog.cellsOf 27)) = some z := hf 0 _ rfl
    rw [cells27] at g0
    obtain ⟨_, _, h0⟩ := g0
    have g1 : ∃ n z, DataW.trod enc0 prog W base sp held n 28 (([a, c, d, e].drop 2).take (prog.cellsOf 28)) = some z := hf 1 _ rfl
    rw [cells28] at g1
    obtain ⟨_, _, h1⟩ := g1
    have g2 : ∃ n z, DataW.trod enc0 prog W base sp held n 28 (([a, c, d, e].drop 3).take (prog.cellsOf 28)) = some z := hf 2 _ rfl
    rw [cells28] at g2
    obtain ⟨_, _, h2⟩ := g2
    obtain ⟨s, e0⟩ := sq_of h0
    obtain ⟨v1, x1, e1, l1⟩ := ints_of h1
    obtain ⟨v2, x2, e2, l2⟩ := ints_of h2
    simp [Sq.cells] at e0 e1 e2
    obtain ⟨rfl, rfl⟩ := e0
    subst e1; subst e2
    exact ⟨⟨s, x1, x2⟩, _, _, rfl, l1, l2⟩
theorem argU8 {r : Reach} {b0 : Nat} {v : Value} {d : DataW H} {p : List MemPlace} (hv : Value.okWide prog W r b0 5 v) (h : DataW.Trod enc0 prog W base sp held 5 v d p) : ∃ n, v = .int .u8 n ∧ 0 ≤ n ∧ n ≤ 255 := by
  obtain ⟨x, rfl, _, _, wx⟩ := open_int underlying5 hv h
  exact ⟨x, rfl, by simpa [Lit.wf, IntKind.min, IntKind.max, IntKind.signed, IntKind.bits] using wx⟩
theorem argInt {r : Reach} {b0 : Nat} {v : Value} {d : DataW H} {p : List MemPlace} (hv : Value.okWide prog W r b0 3 v) (h : DataW.Trod enc0 prog W base sp held 3 v d p) : ∃ n, v = .int .i64 n ∧ -9223372036854775808 ≤ n ∧ n ≤ 9223372036854775807 := by
  obtain ⟨x, rfl, _, _, wx⟩ := open_int underlying3 hv h
  exact ⟨x, rfl, by simpa [Lit.wf, IntKind.min, IntKind.max, IntKind.signed, IntKind.bits] using wx⟩
end
end Go.Lg.B
namespace Go.Lg.B
open Go Go.Conc Go.Lg Go.Proofs Go.Proofs.YtlkmnfdipiielaaGreatDoor Go.Proofs.Tryz
set_option maxRecDepth 100000
theorem own0 : ownKnob prog.godebug = none := by kernel_rfl
theorem gChecks : prog.globalNamed "lagan/bearing.checks" = some 0 := by kernel_rfl
theorem tChecks : (prog.globals[0]?).map (·.type) = some 119 := by kernel_rfl
theorem cells118 : prog.cellsOf 118 = 1 := by kernel_rfl
theorem cells119 : prog.cellsOf 119 = 3 := by kernel_rfl
theorem laid0 : laidOutB prog = true := by kernel_rfl
abbrev laid1 : List (String × DataW Unit) := [("lagan/bearing.checks", Rows.laid_lagan_bearing_checks)]
theorem env_of_laid {W : World} (h : laidMetH prog laid1 W) : Env (fun b => W.heap[b]?) := by
  obtain ⟨g, t, cs, fuel, p, hg, ht, hv, hd⟩ := h.funcs (List.mem_singleton.2 rfl)
  obtain rfl := Option.some.inj (gChecks.symm.trans hg)
  obtain rfl := Option.some.inj (tChecks.symm.trans ht)
  have hd' : DataW.trod (funcToken prog) prog W 0 (fun _ => true) true fuel 119 cs.toList = some (.agg [.held [40, 108, 97, 103, 97, 110, 47, 98, 101, 97, 114, 105, 110, 103, 46, 98, 111, 111, 107, 41, 46, 99, 104, 97, 114, 116], .held [40, 108, 97, 103, 97, 110, 47, 98, 101, 97, 114, 105, 110, 103, 46, 98, 111, 111, 107, 41, 46, 99, 111, 109, 112, 97, 115, 115, 101, 115], .held [40, 108, 97, 103, 97, 110, 47, 98, 101, 97, 114, 105, 110, 103, 46, 98, 111, 111, 107, 41, 46, 119, 105, 116, 110, 101, 115, 115, 101, 115]], p) := hd
  obtain ⟨xs, m, _, hx, hl, hn, hel⟩ := DataW.trod_array underlying119 hd'
  rw [cells119] at hl
  obtain ⟨v0, v1, v2, hcs⟩ : ∃ v0 v1 v2, cs.toList = [v0, v1, v2] := by
    match h : cs.toList, hl with
    | [a, b, c], _ => exact ⟨a, b, c, rfl⟩
  obtain ⟨x0, x1, x2, rfl⟩ : ∃ x0 x1 x2, xs = [x0, x1, x2] := by
    match xs, hn with
    | [a, b, c], _ => exact ⟨a, b, c, rfl⟩
  simp only [Prod.mk.injEq, DataW.agg.injEq, List.map_cons, List.map_nil, List.cons.injEq, and_true] at hx
  obtain ⟨⟨h0, h1, h2⟩, _⟩ := hx
  have e0 := hel 0 (by omega)
  have e1 := hel 1 (by omega)
  have e2 := hel 2 (by omega)
  obtain ⟨d0, q0⟩ := x0
  obtain ⟨d1, q1⟩ := x1
  obtain ⟨d2, q2⟩ := x2
  simp only at h0 h1 h2
  subst h0; subst h1; subst h2
  rw [cells118, hcs] at e0 e1 e2
  have f0 := func_of_trod (f0 := 346) underlying118 (by kernel_rfl) (show DataW.trod (funcToken prog) prog W 0 (fun _ => true) true m 118 [v0] = some (_, q0) from e0)
  have f1 := func_of_trod (f0 := 347) underlying118 (by kernel_rfl) (show DataW.trod (funcToken prog) prog W 0 (fun _ => true) true m 118 [v1] = some (_, q1) from e1)
  have f2 := func_of_trod (f0 := 348) underlying118 (by kernel_rfl) (show DataW.trod (funcToken prog) prog W 0 (fun _ => true) true m 118 [v2] = some (_, q2) from e2)
  subst f0; subst f1; subst f2
  unfold World.var? at hv
  rw [gChecks] at hv
  simp only [Option.bind_some] at hv
  split at hv
  · rename_i c t fq hc
    cases hv
    refine ⟨t, fq, ?_⟩
    show W.heap[0]? = _
    rw [hc, ← hcs]
  · cases hv
theorem door_met (os : Os) (args : Array Value) : laidMetH prog laid1 ((World.doorLaid prog 89 os).forCall (fun _ _ => 0) ⟨#[], args, []⟩).memory :=
  laidMetH_of_parts3 (fuel := 8) (laidMet_of_run' 8 (by kernel_rfl) (by kernel_rfl)) (by kernel_rfl) (by kernel_rfl)
theorem door_shaped (os : Os) (args : Array Value) : ((World.doorLaid prog 89 os).forCall (fun _ _ => 0) ⟨#[], args, []⟩).Shaped Tryz.checked.prog := World.shaped_of_RefB (by kernel_rfl) (by kernel_rfl)
theorem card_goes (Lk : Looks) {p : Pinned} {s : OpenSpec} {c : OpenClaim} (kinds : List LaidKind) (tests : Bool) (har : Bool × String) (lk : Bool)
    (hc : c.holds p s) (hw : c.wfByText s = true) (htie : c.laidByTextAt Lk p kinds tests)
    (hst : c.start = .entering) (hnb : c.noBlocks = false ∧ c.again = false) (hm : p.checked.prog.mainIs = some (har.1, har.2.toList)) (hn : (!har.1 && har.2.isEmpty && !lk) = false)
    (hl : ∀ f fn, p.checked.prog.funcNamed c.func = some f → p.checked.prog.funcs[f]? = some fn → lk = p.checked.prog.looks [] ∧ ∀ (j : Nat) t, fn.params[j]? = some t → p.checked.prog.wantsStandIn t = false)
    (hg : true = c.goesBy p.checked.prog) :
    Claim7.holds p (.plain s) { stood := { row := c, standIns := [], harness := har, looks := lk }, kinds := [], alts := [], goes := true, laidByText := true, laidKinds := kinds, laidTests := tests, laidLooks := Lk } := by
  have h6 : ∀ r : OpenClaim, Claim7.isSixth { stood := { row := r, standIns := [], harness := har, looks := lk }, kinds := [] } = false := fun r => by simpa [Claim7.isSixth] using hn
  exact ⟨Claim7.tied_new_at Lk kinds tests (Claim7.new_of_sixth hc har lk hst hnb hm (h6 c) hl) hw, fun D hD => (nomatch hD), htie, (fun h => by cases h), hg⟩
end Go.Lg.B
namespace Go.Lg.B
open Go Go.Proofs Go.Proofs.YtlkmnfdipiielaaGreatDoor Go.Proofs.Tryz
set_option maxRecDepth 100000
theorem and_mk {a b : Bool} (h : a = true) (h' : b = true) : (a && b) = true := by rw [h, h']; rfl
theorem k_lo : laidOutB prog = true := by kernel_rfl
theorem k_mr : mapsRowed prog = true := by kernel_rfl
theorem k_stops : (prog.stops == []) = true := by kernel_rfl
theorem k_knobs : (prog.stopKnobs == []) = true := by kernel_rfl
theorem k_heard : prog.stopsHeard = true := by kernel_rfl
theorem k_may : prog.mayEnter = true := by kernel_rfl
theorem k_lift : prog.liftsFinal = Rows.bearingTurnedRow.lifted := by kernel_rfl
theorem k_pk : prog.plainKeys = false := by kernel_rfl
theorem k_make : prog.make = some Rows.bearingTurnedRow.make := by kernel_rfl
theorem k_looks : true = prog.looks [] := by kernel_rfl
theorem k_main : prog.mainIs = some (true, ("6da441031df1273c87b994104071112c0d6d76e328f9edd428a3df0ab3bd48e1" : String).toList) := by kernel_rfl
end Go.Lg.B
