/-
  It is proved that the given function answers true for every input, whatever is scheduled: the statement Shared of the seat. Conditions: none but those of the given statement itself.
-/
import Derived.Test.YtchjgmkeemdhlaaGreatDoorKE
import Derived.Conc.Holds
set_option maxRecDepth 100000
set_option maxHeartbeats 2000000
set_option linter.all false
set_option linter.unusedVariables false
set_option linter.unusedSimpArgs false
set_option linter.unusedSectionVars false
namespace Go.Lg.B
open Go Go.Conc Go.Lg Go.Proofs Go.Proofs.Tryz
inductive LeL:List Int→List Int→Prop
 |nil:LeL [] []
 |cons {x y:Int} {a c:List Int}:x≤y→LeL a c→LeL (x::a) (y::c)
theorem LeL.getD{a c:List Int}(h:LeL a c):∀i,a.getD i 0≤c.getD i 0:=by
 induction h with
 |nil=>intro i;simp
 |cons h _ ih=>
  intro i
  cases i with
  |zero=>simpa using h
  |succ i=>simpa using ih i
theorem how_one{n all:Nat}(h:0<all):how n all=1↔n=all:=by
 unfold how
 split
 ·constructor
  ·intro h2;cases h2
  ·intro h2;omega
 ·split
  ·simp_all
  ·constructor
   ·intro h2;cases h2
   ·intro h2;contradiction
theorem filter_all{α:Type}{p:α→Bool}{l:List α}:(l.filter p).length=l.length↔l.all p=true:=by
 rw [List.length_filter_eq_length_iff,List.all_eq_true]
theorem open_nine{b:Bk}(h:checkBook b=0)(hL:cases b= []):openH b 0=9:=by rw [openH_zero,if_neg (fun e=>e h),if_pos hL]
theorem open_zero{b:Bk}(h:checkBook b=0)(hL:cases b≠ []):openH b 0=0:=by rw [openH_zero,if_neg (fun e=>e h),if_neg hL]
theorem mayH_eq{b:Bk}{g k:Int}(h:there g b.gs.length=0)(h2:there k b.cs.length=0):mayH b g k=openH b 0:=by simp [mayH,firstH,h,h2]
end Go.Lg.B
namespace Go.Lg
open Go Go.Conc
theorem R.finish{P:Program}{main:Bool}{J:Goroutine→Mem→Prop}{b:Frame}{cs:List Frame}{n:Nat}{ds:List Deferred}{σ:Slots}{ro:RO}{own:List (Nat×Obj)}{k:List Item}{ops:Array Oper}{l:List Nat}{α:Type}{enc:α→List Value}{e:TypeId}{kk:Nat}{v:Value}{xs:List α}{tail:List (Nat×Obj)}(hJ:Closed P main J)(hk:∀x,(enc x).length=kk)(hkp:0<kk)(hb:Buf e kk tail v (xs.flatMap enc) own)
  (h:∀ro':RO,ro.le ro'→Ls enc kk ro' v xs→R J b cs n ops l k ds σ ⟨ro',tail⟩):R J b cs n ops l k ds σ ⟨ro,own⟩:=fun hok=>X.finish hJ hk hkp hb fun ro' hl hls=>h ro' hl hls hok
end Go.Lg
namespace Go.Lg.B
open Go Go.Conc Go.Lg Go.Proofs Go.Proofs.Tryz
section
variable {main:Bool}{J:Goroutine→Mem→Prop}(hJ:Closed prog main J)
include hJ
end
end Go.Lg.B
namespace Go.Lg.B
open Go Go.Conc Go.Lg Go.Proofs Go.Proofs.Tryz
theorem renew_zero(p:List Int):renew 0 p=p:=by
 have:∀ (l:List Int) (i:Nat),renewGo 0 i l=l:=fun l=>by
  induction l with
  |nil=>exact fun _=>rfl
  |cons x l ih=>exact fun i=>by simp [renewGo,ih]
 exact this p 0
structure RenOk(b c:Bk)(l:List Int):Prop where
 w:c.w=b.w
 gs:c.gs=b.gs
 cs:c.cs=b.cs
 ts:c.ts=b.ts
 np:c.ps.length=b.ps.length
 sh:∀x,c.sheaves x=b.sheaves x
 ps:∀i:Nat,c.ps[i]? =b.ps[i]?.map fun p=>if(i:Int)∈l then {p with r:=⟨99,99⟩ } else p
 ch:checkBook b=0→checkBook c=0
theorem may_all{b:Bk}(hne:cases b≠ []){g p:Nat}:may b g p=1↔((cases b).all fun t=>lifts b t.1 g (nth t.2 p))=true:=by
 rw [may,how_one (List.length_pos_iff.2 hne),filter_all]
def shOk(ng:Nat)(s:Nat→Nat→Bool):List Int→List Int→Bool
 |_, []=>true
 |gs,g::z=>between g 0 ((ng:Int) -1) && (!decide (g∈gs) && (s g.toNat gs.length && shOk ng s (gs++ [g]) z))
theorem range_first{α:Type}(f:Nat→Option α):∀n:Nat,(∀j,j<n→f j=none)∨∃g,g<n∧(∀j,j<g→f j=none)∧∃x,f g=some x
 |0=> .inl fun j h=>by omega
 |n+1=>by
  rcases range_first f n with h|⟨g,h1,h2⟩
  ·cases e:f n with
   |none=>
    refine .inl fun j hj=>?_
    by_cases e2:j=n
    ·rw [e2];exact e
    ·exact h j (by omega)
   |some x=>exact .inr ⟨n,by omega,h,x,e⟩
  ·exact .inr ⟨g,by omega,h2⟩
theorem share_law(ng:Nat)(s:Nat→Nat→Bool):∀ (r:Nat) (gs:List Int),
  (shareGo ng s r gs=none∧∀z:List Int,z.length=r→shOk ng s gs z=false)∨
  ∃z,shareGo ng s r gs=some (gs++z)∧z.length=r∧shOk ng s gs z=true∧∀z':List Int,z'.length=r→shOk ng s gs z'=true→¬cmpL z' z<0
 |0,gs=> .inr ⟨[],by simp [shareGo],rfl,rfl,fun z' hz _=>by
   rw [List.length_eq_zero_iff] at hz;subst hz;simp [cmpL]⟩
 |r+1,gs=>by
  have ih:=share_law ng s r
  have inv:∀ (g:Int) (z:List Int),shOk ng s gs (g::z)=true→∃j:Nat,g=j∧j<ng∧(j:Int)∉gs∧s j gs.length=true∧shOk ng s (gs++ [g]) z=true:=fun g z h=>by
   simp only [shOk,Bool.and_eq_true,between_iff,Bool.not_eq_true',decide_eq_false_iff_not] at h
   obtain⟨j,rfl⟩:=Int.eq_ofNat_of_zero_le h.1.1
   exact⟨j,rfl,by omega,h.2.1,by simpa using h.2.2.1,h.2.2.2⟩
  have e:shareGo ng s (r+1) gs=(List.range ng).findSome? fun g=>if s g gs.length && !decide ((g:Int)∈gs) then shareGo ng s r (gs++ [(g:Int)]) else none:=rfl
  rw [e]
  generalize hf:(fun g:Nat=>if s g gs.length && !decide ((g:Int)∈gs) then shareGo ng s r (gs++ [(g:Int)]) else none)=f
  have hfe:∀g:Nat,s g gs.length=true→(g:Int)∉gs→f g=shareGo ng s r (gs++ [(g:Int)]):=fun g h1 h2=>by rw [←hf];simp [h1,h2]
  rcases range_first f ng with h|⟨g,h1,h2,x,h3⟩
  ·refine .inl ⟨findSome_miss h,fun z hz=>?_⟩
   cases z with
   |nil=>simp at hz
   |cons g z=>
    cases hs:shOk ng s gs (g::z) with
    |false=>rfl
    |true=>
     obtain⟨j,rfl,h4,h5,h6,h7⟩:=inv g z hs
     have h8:=h j h4
     rw [hfe j h6 h5] at h8
     rcases ih (gs++ [(j:Int)]) with⟨_,k2⟩|⟨z',k1,_⟩
     ·have:=k2 z (by simpa using hz)
      rw [h7] at this;cases this
     ·rw [k1] at h8;cases h8
  ·have hg:s g gs.length=true∧(g:Int)∉gs:=by
    rw [←hf] at h3
    simp only at h3
    split at h3
    ·rename_i h4;simpa using h4
    ·cases h3
   rw [findSome_hit h1 h2 h3]
   rw [hfe g hg.1 hg.2] at h3
   rcases ih (gs++ [(g:Int)]) with⟨k1,_⟩|⟨z,k1,k2,k3,k4⟩
   ·rw [k1] at h3;cases h3
   ·rw [k1] at h3
    have hx:=Option.some.inj h3
    refine .inr ⟨(g:Int)::z,by rw [←hx];simp,by simp [k2], ?_,fun z' hz hs=>?_⟩
    ·simp only [shOk,Bool.and_eq_true,between_iff,Bool.not_eq_true',decide_eq_false_iff_not,Int.toNat_natCast]
     exact⟨by omega,hg.2,hg.1,k3⟩
    ·cases z' with
     |nil=>simp at hz
     |cons g' z'=>
      obtain⟨j,rfl,h4,h5,h6,h7⟩:=inv g' z' hs
      by_cases hlt:j<g
      ·have h8:=h2 j hlt
       rw [hfe j h6 h5] at h8
       rcases ih (gs++ [(j:Int)]) with⟨_,q2⟩|⟨z2,q1,_⟩
       ·have:=q2 z' (by simpa using hz)
        rw [h7] at this;cases this
       ·rw [q1] at h8;cases h8
      ·rw [cmpL]
       by_cases heq:j=g
       ·subst heq
        rw [if_neg (by simp [cmpI])]
        exact k4 z' (by simpa using hz) h7
       ·have:cmpI (j:Int) g=1:=by unfold cmpI;rw [if_neg (by omega),if_pos (by omega)]
        rw [this,if_pos (by decide)];decide
theorem shOk_cong{ng:Nat}{s s':Nat→Nat→Bool}{nc:Nat}(h:∀g p,g<ng→p<nc→s g p=s' g p):∀ (z gs:List Int),gs.length+z.length≤nc→shOk ng s gs z=shOk ng s' gs z
 | [],_,_=>rfl
 |g::z,gs,hn=>by
  rw [List.length_cons] at hn
  simp only [shOk]
  by_cases hb:between g 0 ((ng:Int) -1)=true
  ·have hb':=between_iff.1 hb
   rw [h g.toNat gs.length (by omega) (by omega),shOk_cong h z (gs++ [g]) (by simp;omega)]
  ·simp only [Bool.not_eq_true] at hb
   rw [hb];rfl
def mayS(b:Bk)(g p:Nat):Bool:=may b g p==1
theorem sureM_may{b:Bk}(hne:cases b≠ []){g p:Nat}(hg:g<b.gs.length)(hp:p<b.cs.length):sureM b 0 g p=mayS b g p:=by
 have e:sure b 0 g p=decide (may b g p=1):=by
  rw [Bool.eq_iff_iff,decide_eq_true_eq,may_all hne]
  have:(fun t:Tn=>lifts b (renew 0 (pad 4 t.1)) g (nth t.2 p))=fun t=>lifts b t.1 g (nth t.2 p):=by
   funext t;rw [renew_zero,lifts_pad]
  rw [sure,this]
 unfold sureM mayS
 rw [e]
 simp only [hg,hp,decide_true,Bool.true_and]
 rw [Bool.eq_iff_iff];simp
theorem shOk_bd{ng:Nat}{s:Nat→Nat→Bool}:∀ {z gs:List Int},shOk ng s gs z=true→(∀g∈z,0≤g∧g<(ng:Int))∧z.Nodup∧∀g∈z,g∉gs
 | [],_,_=>by simp
 |g::z,gs,h=>by
  simp only [shOk,Bool.and_eq_true,between_iff,Bool.not_eq_true',decide_eq_false_iff_not] at h
  obtain⟨k1,k2,k3⟩:=shOk_bd h.2.2.2
  refine⟨fun x hx=>?_,List.nodup_cons.2 ⟨fun hx=>k3 g hx (by simp),k2⟩,fun x hx=>?_⟩
  ·rcases List.mem_cons.1 hx with rfl|hx
   ·omega
   ·exact k1 x hx
  ·rcases List.mem_cons.1 hx with rfl|hx
   ·exact h.2.1
   ·exact fun hd=>k3 x hx (by simp [hd])
theorem shareR_law{b:Bk}(hch:checkBook b=0)(hne:cases b≠ []):
  ((shareR b)=(none,0)∧∀z:List Int,z.length=b.cs.length→shOk b.gs.length (mayS b) [] z=false)∨
  ∃z,shareR b=(some z,0)∧z.length=b.cs.length∧shOk b.gs.length (mayS b) [] z=true∧∀z':List Int,z'.length=b.cs.length→shOk b.gs.length (mayS b) [] z'=true→¬cmpL z' z<0:=by
 have hop:=open_zero hch hne
 have hcg:∀z:List Int,z.length=b.cs.length→shOk b.gs.length (sureM b 0) [] z=shOk b.gs.length (mayS b) [] z:=fun z hz=>shOk_cong (nc:=b.cs.length) (fun g p hg hp=>sureM_may hne hg hp) z [] (by simp [hz])
 have e:shareR b=(shareGo b.gs.length (sureM b 0) b.cs.length [],0):=by rw [shareR,hop];rfl
 rw [e]
 rcases share_law b.gs.length (sureM b 0) b.cs.length [] with⟨h1,h2⟩|⟨z,h1,h2,h3,h4⟩
 ·exact .inl ⟨by rw [h1],fun z hz=>by rw [←hcg z hz];exact h2 z hz⟩
 ·exact .inr ⟨z,by rw [h1];rfl,h2,by rw [←hcg z h2];exact h3,fun z' hz hs=>h4 z' hz (by rw [hcg z' hz];exact hs)⟩
abbrev U16:={n:Int//0≤n∧n≤65535}
def uc(n:U16):List Value:= [.int .u16 n.1]
theorem uc_len(n:U16):(uc n).length=1:=rfl
theorem b_subW{P:Program}{t:TypeId}{m n:Int}:∀M K,K (.int .i64 (IntKind.i64.wrap (m-n))) M→Sm P M (binOp .sub t (.int .i64 m) (.int .i64 n)) K:=fun M K h=>by
 unfold binOp;simp only [ne_eq,not_true_eq_false,if_false,Op.intArith];exact Sm.pure h
theorem wrap_le{m:Int}(h: -1≤m):IntKind.i64.wrap m≤m:=by
 by_cases h0:m≤9223372036854775807
 ·rw [wrap64 (by omega) h0];exact Int.le_refl _
 ·unfold IntKind.wrap
  simp only [IntKind.bits,IntKind.signed]
  have:m%18446744073709551616<18446744073709551616:=Int.emod_lt_of_pos _ (by decide)
  have:0≤m%18446744073709551616:=Int.emod_nonneg _ (by decide)
  show(if(true && decide (m%18446744073709551616≥9223372036854775808))=true then m%18446744073709551616-18446744073709551616 else m%18446744073709551616)≤m
  split
  ·omega
  ·rename_i hn
   simp at hn;omega
theorem getD_at{l:List Int}{i:Nat}(h:i<l.length):l.getD i 0=l[i]:=by simp [List.getD_eq_getElem?_getD,h]
def choice(p:List U16)(k:Int):Int:=if between k 0 (IntKind.i64.wrap ((p.length:Int) -1))=true then(p.map (·.1)).getD k.toNat 0 else 0
theorem choice_range(p:List U16)(k:Int):0≤choice p k∧choice p k≤65535:=by
 unfold choice
 split
 ·by_cases h:k.toNat<p.length
  ·rw [getD_at (by simpa using h),List.getElem_map]
   exact p[k.toNat].2
  ·rw [List.getD_eq_getElem?_getD,List.getElem?_eq_none (by simp;omega)]
   decide
 ·decide
section
theorem share2_c{Q:Machine→Outcome→World→Trace→Prop}{b:Bk}{v:Value}{ro:RO}(he:Env ro)(hv:BkV ro v b)(hs:b.short):CallR prog (JM prog Q) (fnv 47) [v] ro (fun w ro'=>∃vl,LsI ro' vl ((shareR b).1.getD [])∧capOk vl∧w= .tuple [vl, .bool (shareR b).1.isSome, .int .i64 (shareR b).2].toArray):=by
 have hJ:Closed prog true (JM prog Q):=JM.closed
 obtain⟨vp,vg,vc,vt,rfl,hv⟩:=hv
 have hv':=hv
 obtain⟨_,_,rfl⟩:=hv.1.form
 obtain⟨_,_,rfl⟩:=hv.2.1.form
 obtain⟨_,_,rfl⟩:=hv.2.2.1.form
 obtain⟨_,_,rfl⟩:=hv.2.2.2.form
 let main:=true
 let J:=JM prog Q
 have hop:=open_c hJ he hv' hs (zs:= []) .nil (Nat.zero_le _) (fun z hz=>absurd hz List.not_mem_nil)
 rw [List.map_nil,firstH_nil] at hop
 refine CallR.intro hJ (by kernel_rfl) fun c cs tail hret=>enter_X (n:=23) func47 U U (Nl U) ?_
 have C:Ctx prog main J (bf 47 .normal):=⟨hJ,by decide⟩
 refine Xr C U U<|R.box C U U U U fun p1=>R.alloc C U U zeroValue28 U fun p2=>R.asg C U U U<|Ad C U U<|Xr C U U<|R5 C U U isAgg27 sizeOf27 (by repeat constructor) Tk5<|R.call C U U U U (pre:= []) U hop fun w3 ro3 pre3 hl3 hp3=>?_
 rcases hp3 with⟨h0,rfl,rfl⟩|⟨h0,m,kv,vl,rfl,hm,hls,rfl⟩
 ·
  have e:shareR b=(none,openH b 0):=by rw [shareR,if_pos h0]
  refine Rm C U U<|R.ext C U U U U<|R.ext C U U U U<|R.alloc C U U zeroValue141 U fun p5=>R.store C U U U U sizeOf141 U U U (by repeat constructor) Ph7<|Ad C U U<|Xs C<|Xr C U U<|Rm C U U<|R.int C U U U U b_neq<|R.done C<|X.cond C.1 U (fun hq=>?_) (fun hq=>?_)
  ·refine Xr C U U<|Rm C U U<|R.store C U U U U sizeOf28 U U U (by repeat constructor) (.here .nil)<|R.asg C U U U<|Ad C U U<|X.ret C U U func47 U (by exact(.one U isAgg28 (by repeat constructor) U (.tmp U (.tmp U .nil))))<|Hr hret hl3 ?_
   rw [e];exact⟨_, .nil,⟨_,_,_,rfl,Nat.le_refl _⟩,rfl⟩
  ·simp at hq;contradiction
 ·
  have e:shareR b=(shareGo b.gs.length (sureM b 0) b.cs.length [],0):=by rw [shareR,if_neg (by simp [h0])]
  obtain⟨hb,_,hne,_⟩:=openH_good h0
  have hv3:=hv'.mono hl3
  obtain⟨lb,lc,rfl⟩:=hls.form
  refine Rm C U U<|R.ext C U U U U<|R.ext C U U U U<|R.alloc C U U zeroValue141 U fun p5=>R.store C U U U U sizeOf141 U U U (by repeat constructor) Ph7<|Ad C U U<|Xs C<|Xr C U U<|Rm C U U<|R.int C U U U U b_neq<|R.done C<|X.cond C.1 U (fun hq=>?_) (fun hq=>?_)
  ·simp at hq
  ·refine X.skip C.1<|Xr C U U<|R5 C U U isAgg141 sizeOf141 (by repeat constructor) (.take Tk6)<|R.callR C U U U U (sure_c (mask:=0) hv3 hb hls (by omega)) fun w4 ro4 hl4 hw4=>?_
   subst hw4
   refine R.alloc C U U zeroValue157 U fun p6=>R.store C U U U U sizeOf157 U U U (by repeat constructor) (.here (.here Ph7))<|R.done C<|Xr C U U<|R.alloc C U U zeroValue32 U fun p7=>R.done C<|Xr C U U<|R.makeFunc C U U U U<|R.store C U U U U sizeOf32 U U U (by repeat constructor) (.here .nil)<|R.done C<|Xs C<|Xs C<|X.persist C.1 fun ro5 hl5 h7=>X.persist C.1 fun ro6 hl6 h6=>X.drop C.1 (own':=_::_::tail) (.cons _ (List.sublist_cons_self _ _))<|X.perm C.1 (by exact pm1)<|X.persist C.1 fun ro7 hl7 h1=>?_
   have hl67:=RO.le_trans hl6 hl7
   have hl47:=RO.le_trans hl4 (RO.le_trans hl5 hl67)
   have h7:=hl67 _ _ h7
   have h6:=hl7 _ _ h6
   have hnx:=next_c hJ (hv3.mono hl47) hb (sureM b 0) h1 h6 h7 b.cs.length [] (.slice none 0 0) [] (by simp) .nil
   refine X.region C U U<|R.loadOneRo C U U U isAgg32 h7 U<|R.call C U U U U (pre:= [_]) (tail:=tail) U hnx fun w8 ro8 pre8 hl8 hp8=>?_
   obtain⟨hro8,v8,own8,L8,rfl,hb8,hp8⟩:=hp8
   subst hro8
   obtain⟨bs8,cap8,rfl,hc8,_⟩:=buf_own hb8
   rcases hp8 with⟨rfl,hsh⟩|⟨rfl,hsh,rfl⟩
   ·
    refine R.not C U U U<|R.fixv (t:=21) (v':= .bool false) U U<|R.done C<|X.cond C.1 U (fun h=>nomatch h) (fun _=>?_)
    refine X.skip C.1<|Xr C U U<|Rl C U U isAgg28 (by repeat constructor) U ?_;refine R.store C U U U U sizeOf28 U U U (by repeat constructor) (.here .nil)<|R.asg C U U U<|Ad C U U<|X.perm C.1 List.perm_middle.symm<|(BufX.of hb8).fin C.1 fun ro9 hl9 hls9=>X.ret C U U func47 U (by exact(.one U isAgg28 (by repeat constructor) U (.tmp U (.tmp U .nil))))<|Hr hret (RO.le_trans hl3 (RO.le_trans hl47 hl9)) ?_
    rw [e,hsh];exact⟨_,hls9,⟨_,_,_,rfl,hc8⟩,rfl⟩
   ·
    refine R.not C U U U<|R.fixv (t:=21) (v':= .bool true) U U<|R.done C<|X.cond C.1 U (fun _=>?_) (fun h=>nomatch h)
    refine Xr C U U<|R.store C U U U U sizeOf28 U U U (by repeat constructor) (.here .nil)<|R.asg C U U U<|Ad C U U<|X.drop C.1 (own':=_::tail) (.cons_cons _ (List.sublist_append_right _ _))<|X.ret C U U func47 U (by exact(.one U isAgg28 (by repeat constructor) U (.tmp U (.tmp U .nil))))<|Hr hret (RO.le_trans hl3 hl47) ?_
    rw [e,hsh];exact⟨_, .nil,⟨_,_,_,rfl,Nat.le_refl _⟩,rfl⟩
end
def otherTo(b:Bk)(p:List U16)(n:Nat):List Int:=(List.range n).map fun i:Nat=>choice p i%b.gs.length
theorem otherTo_len(b:Bk)(p:List U16)(n:Nat):(otherTo b p n).length=n:=by simp [otherTo]
theorem otherTo_succ(b:Bk)(p:List U16)(n:Nat):otherTo b p (n+1)=otherTo b p n++ [choice p n%b.gs.length]:=by simp [otherTo,List.range_succ]
section
variable {main:Bool}{J:Goroutine→Mem→Prop}(hJ:Closed prog main J)
include hJ
theorem choiceR_c{v:Value}{ro:RO}{p:List U16}(hp:Ls uc 1 ro v p)(k:Int):CallP prog J (fnv 144) [v, .int .i64 k] ro (.int .i64 (choice p k)):=by
 have hp0:=hp
 obtain⟨pb,pc,rfl⟩:=hp.form
 refine CallP.intro hJ (by kernel_rfl) fun c cs tail hret=>enter_X (n:=15) func144 U U (Nl U) ?_
 have C:Ctx prog main J (bf 144 .normal):=⟨hJ,by decide⟩
 refine Xr C U U<|Ad C U U<|Xs C<|Xr C U U<|Rm C U U<|Rm C U U<|Rn C U U runUnderlying52<|R.int C U U U U b_subW<|R.callP C U U U U (betweenR_c hJ _ _ _ _)<|R.done C<|X.cond C.1 U (fun hq=>?_) (fun hq=>?_)
 ·have hq':=hq
  simp only [between,Bool.and_eq_true,decide_eq_true_eq] at hq'
  have hw:=wrap_le (m:=(p.length:Int) -1) (by omega)
  have hki:k.toNat<p.length:=by omega
  obtain⟨pp,off,cap,ll,t,fq,hsl,hrop,hsub⟩:=hp0.at uc_len (by omega)
  cases hsl
  have hx:ll[off+k.toNat*1]? =some (.int .u16 p[k.toNat].1):=by have:=(hsub k.toNat hki).get 0 (by decide);simpa [uc] using this
  have hr:=p[k.toNat].2
  have hce:choice p k=p[k.toNat].1:=by rw [choice,if_pos hq,getD_at (by simpa using hki),List.getElem_map]
  rw [hce] at hret
  generalize p[k.toNat].1=z at hx hr hret
  refine Xr C U U<|Rm C U U<|Rm C U U<|R.indexAddr C U U U U runUnderlying52 sizeOf235 hq'.1 (by omega)<|R.loadOneRo C U U U isAgg235 hrop hx<|R.convInt C U U U runUnderlying235 runUnderlying3 (wrap64 (by omega) (by omega))<|Ad C U U<|Xt C func144<|Hp hret ?_
  rfl
 ·refine X.skip C.1<|Xr C U U<|Ad C U U<|Xt C func144<|Hp hret ?_
  rw [choice,if_neg (by rw [hq];simp)];rfl
theorem otherR_c{b:Bk}{v vk:Value}{ro:RO}{p:List U16}(hv:BkV ro v b)(hk:Ls uc 1 ro vk p)(hng:1≤b.gs.length∧b.gs.length≤1000)(hnc:b.cs.length≤1000):CallR prog J (fnv 72) [v,vk] ro (fun w ro'=>LsI ro' w (otherTo b p b.cs.length)∧capOk w):=by
 obtain⟨vp,vg,vc,vt,rfl,hv⟩:=hv
 obtain⟨pb,pcap,rfl⟩:=hv.1.form
 obtain⟨gb,gcap,rfl⟩:=hv.2.1.form
 obtain⟨cb,ccap,rfl⟩:=hv.2.2.1.form
 obtain⟨tb,tcap,rfl⟩:=hv.2.2.2.form
 have hk0:=hk
 obtain⟨kb,kc,rfl⟩:=hk.form
 refine CallR.intro hJ (by kernel_rfl) fun c cs tail hret=>enter_X (n:=25) func72 U U (Nl U) ?_
 have C:Ctx prog main J (bf 72 .normal):=⟨hJ,by decide⟩
 refine Xr C U U<|R.box C U U U U fun p2=>Ad C U U<|Xr C U U<|Ad C U U<|Xs C<|Xr C U U<|Ad C U U<|X.block C.1<|X.loopI (ι:=Nat×Value×List (Nat×Obj)) C.1 (fun s=>s.1≤b.cs.length∧Buf 3 1 [] s.2.1 ((otherTo b p s.1).flatMap ic) s.2.2) (fun s=> [(1, .slice kb p.length kc),(2, .pointer (some ⟨p2,0,none⟩)),(5,s.2.1),(6, .int .i64 (s.1:Int))])
  (fun s=>⟨ro,s.2.2++((p2, .cells [.int .i64 b.w, .slice pb b.ps.length pcap, .slice gb b.gs.length gcap, .slice cb b.cs.length ccap, .slice tb b.ts.length tcap].toArray 27 (0,0))::tail)⟩) (fun s=>b.cs.length-s.1) (0, .slice none 0 0, []) ⟨Nat.zero_le _, .nil⟩ rfl ⟨U,U,U,U,trivial⟩ fun s hs hnext=>?_
 obtain⟨i,v2,own2⟩:=s
 obtain⟨hi,hb2⟩:=hs
 simp only at hi hb2 hnext⊢
 have hfl:((otherTo b p i).flatMap ic).length=i:=by rw [flat_len,otherTo_len]
 refine Xs C<|Xr C U U<|Rm C U U<|Rf C 3 U U runUnderlying27 U sizeOf24<|R.loadOne C U U U isAgg24 (by repeat (first|exact Mh|apply Mt|apply List.mem_append_right)) U<|Rn C U U runUnderlying24<|R.int C U U U U b_lss<|R.done C<|Xk C U (fun hlt=>?_) (fun hlt=>?_)
 ·have hi':i<b.cs.length:=by omega
  have hcr:=choice_range p i
  refine X.skip C.1<|Xs C<|X.block C.1<|Xd C fun hok=>Dm C 0 hok U U U<|Dm C 1 hok U U U<|Dm C 2 hok U U U<|Df (off':=2) C 4 hok U U U runUnderlying27 U sizeOf23 U<|Dl 5 hok (fun _ _ A h=>R.loadOne C U (A.w U U) (A.x U U) isAgg23 (by repeat (first|exact Mh|apply Mt|apply List.mem_append_right)) U h)<|Ds C 6 hok U U runUnderlying23<|De 3 (some 17) [true] hok (fun _ _ A hk=>?_)
  refine R.callP C U (A.w U U) (A.x U U) (A.s U U) (choiceR_c hJ hk0 (i:Int)) (hk _ _ ⟨(QFs.cons (QF.of U (fun _ _ A h=>R.loadOne C U (A.w U U) (A.x U U) isAgg23 (by repeat (first|exact Mh|apply Mt|apply List.mem_append_right)) U h)) QFs.nil), ?_⟩)
  refine Di C 7 hok U U U U U (b_remP (by omega) (by omega))<|De 8 (some 22) [false] hok (fun _ _ A hk=>?_)
  refine R.buildSlice C (vs:=_) U (A.w U U) (show pvals _ _=some (numbered 0 [_]) from(A.p U U)) U runUnderlying28 sizeOf3 zeroValue3 (by decide) (Cat.one U U) fun p22=>hk _ _ ⟨QFs.nil, ?_⟩
  refine De 9 (some 23) [] hok (fun _ _ A hk=>?_)
  refine R.append1 (kk:=1) C U (A.w U U) (A.x U U) (A.x U U) runUnderlying28 runUnderlying28 (fun _=>nofun) (show prog.info? 3=some Tryz.t3 by kernel_rfl) U U U (by decide) (by decide) (hb2.app _) U U (by simp only [List.length_append,List.length_cons,List.length_nil];omega) fun v' own' hb'=>hk _ _ ⟨QFs.nil, ?_⟩
  refine Da C 10 hok U U<|D.done C hok (by kernel_rfl)<|X.inBlock C.1<|X.region C U U<|Rm C U U<|Ra C U U U<|Ad C U U ?_
  obtain⟨own3,rfl,hb3⟩:=Buf.unapp (tail:= []) hb'
  have hcat:(otherTo b p i).flatMap ic++ [Value.int .i64 (choice p i%b.gs.length)]=(otherTo b p (i+1)).flatMap ic:=by rw [otherTo_succ,List.flatMap_append];rfl
  rw [hcat] at hb3
  refine X.weaken ?_ (hnext (i+1,_,own3) ⟨hi',hb3⟩ (by simp only;omega))
  exact⟨rfl,rfl,rfl,by simp [look],trivial⟩
 ·obtain rfl:i=b.cs.length:=by omega
  obtain⟨bs2,cap2,rfl,hcap2,_⟩:=buf_own hb2
  refine X.exit C.1 U<|Xr C U U<|R.finish C.1 ic_len (by decide) (hb2.app _) fun ro4 hl4 hls4=>Rm C U U<|Ad C U U<|Xt C func72<|Hr hret hl4 ?_
  exact⟨hls4,_,_,_,rfl,hcap2⟩
theorem sharesR_c{b:Bk}{v vl:Value}{ro:RO}{l:List Int}(he:Env ro)(hv:BkV ro v b)(hch:checkBook b=0)(hL:cases b≠ [])(hl:LsI ro vl l)(hcap:capOk vl)(hn:l.length≤b.cs.length):CallR prog J (fnv 71) [v,vl] ro (fun w _=>w= .bool (shOk b.gs.length (mayS b) [] l)):=by
 have hvv:=hv
 have hb:=good_of hch
 have hsh:=short_of (not_great hch)
 have hnc:=hb.nc
 have hng:=hb.ng
 have hop:=open_zero hch hL
 obtain⟨vp,vg,vc,vt,rfl,hv⟩:=hv
 obtain⟨pb,pc,rfl⟩:=hv.1.form
 obtain⟨gb,gc,rfl⟩:=hv.2.1.form
 obtain⟨cb,cc,rfl⟩:=hv.2.2.1.form
 obtain⟨tb,tc,rfl⟩:=hv.2.2.2.form
 obtain⟨lb,lc,rfl⟩:=hl.form
 have hlc:l.length≤lc:=by obtain⟨_,_,_,e,h⟩:=hcap;cases e;exact h
 refine CallR.intro hJ (by kernel_rfl) fun c cs tail hret=>enter_X (n:=50) func71 U U (Nl U) ?_
 have C:Ctx prog main J (bf 71 .normal):=⟨hJ,by decide⟩
 refine Xr C U U<|R.box C U U U U fun p2=>Ad C U U<|Xs C<|Xr C U U<|Ad C U U<|X.block C.1<|X.loopI (ι:=Nat×RO) C.1 (fun s=>s.1≤l.length∧ro.le s.2∧shOk b.gs.length (mayS b) [] l=shOk b.gs.length (mayS b) (l.take s.1) (l.drop s.1)) (fun s=> [(1, .slice lb l.length lc),(2, .pointer (some ⟨p2,0,none⟩)),(5, .int .i64 (s.1:Int))])
  (fun s=>⟨s.2,(p2, .cells [.int .i64 b.w, .slice pb b.ps.length pc, .slice gb b.gs.length gc, .slice cb b.cs.length cc, .slice tb b.ts.length tc].toArray 27 (0,0))::tail⟩) (fun s=>l.length-s.1) (0,ro) ⟨Nat.zero_le _,RO.le_refl _,by simp⟩ rfl ⟨U,U,U,trivial⟩ fun s hs hnext=>?_
 obtain⟨i,ro1⟩:=s
 obtain⟨hi,hle,hr⟩:=hs
 simp only at hi hle hr hnext⊢
 refine Xs C<|Xr C U U<|Rm C U U<|Rm C U U<|Rn C U U runUnderlying28<|R.int C U U U U b_lss<|R.done C<|Xk C U (fun hlt=>?_) (fun hlt=>?_)
 ·have hi':i<l.length:=by omega
  have hl1:=hl.mono hle
  obtain⟨pp,off,cap,ll,t,fq,hsl,hrop,hsub⟩:=hl1.at ic_len (by omega)
  cases hsl
  rw [List.drop_eq_getElem_cons hi'] at hr
  have hat:=ic_at hsub hi'
  have htk:l.take (i+1)=l.take i++ [l[i]]:=List.take_succ_eq_append_getElem hi'
  have htl:(l.take i).length=i:=by rw [List.length_take];omega
  generalize l[i]=n at hr hat htk
  simp only [shOk,htl] at hr
  by_cases hbt:between n 0 ((b.gs.length:Int) -1)=true
  ·have hbt':=between_iff.1 hbt
   have hnn:((n.toNat:Nat):Int)=n:=by omega
   refine X.skip C.1<|Xs C<|X.block C.1<|Xs C<|Xs C<|Xd C fun hok=>Dm C 0 hok U U U<|Dm C 1 hok U U U<|Dx C 2 hok U U U runUnderlying28 sizeOf3<|D2 C 3 hok U U isAgg3 hrop hat<|Df (off':=2) C 4 hok U U U runUnderlying27 U sizeOf23 U<|D1 C 5 hok U U isAgg23 (by repeat constructor) U<|Ds C 6 hok U U runUnderlying23<|Di C 7 hok U U U U U (b_sub (by omega) (by omega))<|De 8 (some 22) [false,false] hok (fun _ _ A hk=>?_)
   refine R.callP C U (A.w U U) (A.x U U) (A.s U U) (betweenR_c hJ _ _ _ _) (hk _ _ ⟨QFs.nil, ?_⟩)
   refine Dp 9 hok (fun _ _ _ A h=>R.not C U (A.w U U) (A.x U U) h)<|D.fixv (t:=23) (v':= .bool false) U (by(rw [hbt];rfl))<|Dm C 10 hok U U U<|Dm C 11 hok U U U<|Dm C 12 hok U U U<|Dp 13 hok (fun _ _ _ A h=>R.sliceTo C U (A.w U U) (A.x U U) (A.x U U) runUnderlying28 sizeOf3 (by omega) (by omega) h)<|Dm C 14 hok U U U<|Dm C 15 hok U U U<|Dx C 16 hok U U U runUnderlying28 sizeOf3<|D2 C 17 hok U U isAgg3 hrop hat<|De 18 (some 32) [false] hok (fun _ _ A hk=>?_)
   refine R.callP C U (A.w U U) (A.x U U) (A.s U U) (holdsR_c hJ (lsI_take hl1 (show((i:Int)).toNat≤l.length by omega)) (by simp;omega) n) (hk _ _ ⟨QFs.nil, ?_⟩)
   refine Dp 19 hok (fun _ _ _ A h=>R.pickF C U (A.w U U) (A.x U U) (A.x U U) h)<|D.done C hok (by kernel_rfl)<|X.cond C.1 U (fun h3=>?_) (fun h3=>?_)
   ·have h3:n∈l.take i:=by simpa [Int.toNat_natCast] using h3
    refine Xr C U U<|Ad C U U<|Xt C func71<|Hr hret hle ?_
    rw [hr];simp [h3];rfl
   ·have h3:¬n∈l.take i:=by simpa [Int.toNat_natCast] using h3
    have e4:mayR b n i=(may b n i,0):=by rw [mayR,mayH_eq (there_zero.2 (by omega)) (there_zero.2 ⟨by omega,by omega⟩),hop];rfl
    have hms:mayS b n.toNat i=(may b n i==1):=by unfold mayS;rw [hnn]
    refine X.skip C.1<|Xs C<|Xd C fun hok=>D5 C 0 hok U U isAgg27 sizeOf27 (by repeat constructor) Tk5<|Dm C 1 hok U U U<|Dm C 2 hok U U U<|Dx C 3 hok U U U runUnderlying28 sizeOf3<|D2 C 4 hok U U isAgg3 hrop hat<|Dm C 5 hok U U U<|De 6 (some 41) [false,false] hok (fun _ _ A hk=>?_)
    refine R.callR C U (A.w U U) (A.x U U) (A.s U U) (may_c hJ (he.mono hle) (hvv.mono hle) hsh n i) fun v3 ro3 hl3 hq3=>hk _ _ ⟨QFs.nil, ?_⟩
    subst hq3
    rw [e4]
    refine Dm C 7 hok U U U<|Dp 8 hok (fun _ _ _ A h=>R.ext C U (A.w U U) (A.x U U) U h)<|Dp 9 hok (fun _ _ _ A h=>R.ext C U (A.w U U) (A.x U U) U h)<|Da C 10 hok U U<|Da C 11 hok U U<|D.done C hok (by kernel_rfl)<|Xr C U U<|Rm C U U<|R.int C U U U U b_neq<|R.fixv (t:=45) (v':= .bool false) U (by rfl)<|Rm C U U<|Rm C U U<|R.int C U U U U b_neq<|R.pickF C U U U U<|R.done C<|X.cond C.1 U (fun hm=>?_) (fun hm=>?_)
    ·have hm:(may b n i==1)=false:=by simpa using hm
     refine Xr C U U<|Ad C U U<|Xt C func71<|Hr hret (RO.le_trans hle hl3) ?_
     rw [hr,hms,hm];simp;rfl
    ·have hm:(may b n i==1)=true:=by simpa using hm
     refine X.skip C.1<|X.inBlock C.1<|X.region C U U<|Rm C U U<|Ra C U U U<|Ad C U U<|X.weaken ?_ (hnext (i+1,ro3) ⟨hi',RO.le_trans hle hl3, ?_⟩ (by simp only;omega))
     ·exact⟨rfl,rfl,by simp [look],trivial⟩
     ·rw [hr,hbt,hms,hm,htk];simp [h3]
  ·have hbt:between n 0 ((b.gs.length:Int) -1)=false:=by simpa using hbt
   refine X.skip C.1<|Xs C<|X.block C.1<|Xs C<|Xs C<|Xd C fun hok=>Dm C 0 hok U U U<|Dm C 1 hok U U U<|Dx C 2 hok U U U runUnderlying28 sizeOf3<|D2 C 3 hok U U isAgg3 hrop hat<|Df (off':=2) C 4 hok U U U runUnderlying27 U sizeOf23 U<|D1 C 5 hok U U isAgg23 (by repeat constructor) U<|Ds C 6 hok U U runUnderlying23<|Di C 7 hok U U U U U (b_sub (by omega) (by omega))<|De 8 (some 22) [false,false] hok (fun _ _ A hk=>?_)
   refine R.callP C U (A.w U U) (A.x U U) (A.s U U) (betweenR_c hJ _ _ _ _) (hk _ _ ⟨QFs.nil, ?_⟩)
   refine Dp 9 hok (fun _ _ _ A h=>R.not C U (A.w U U) (A.x U U) h)<|D.fixv (t:=23) (v':= .bool true) U (by(rw [hbt];rfl))<|Dm C 10 hok U U U<|Du C 11 hok U<|Du C 12 hok U<|Du C 13 hok U<|Du C 14 hok U<|Du C 15 hok U<|Du C 16 hok U<|Du C 17 hok U<|Du C 18 hok U<|Dp 19 hok (fun _ _ _ A h=>R.pickT C U (A.w U U) (A.x U U) (A.x U U) h)<|D.done C hok (by kernel_rfl)<|X.cond C.1 U (fun _=>?_) (fun h=>nomatch h)
   refine Xr C U U<|Ad C U U<|Xt C func71<|Hr hret hle ?_
   rw [hr,hbt];rfl
 ·obtain rfl:i=l.length:=by omega
  refine X.exit C.1 U<|Xr C U U<|Ad C U U<|Xt C func71<|Hr hret hle ?_
  rw [hr,List.drop_length];rfl
end
theorem shared_root{b:Bk}{vb vk:Value}{p:List U16}{ro:RO}(he:Env ro)(hv:BkV ro vb b)(hk:Ls uc 1 ro vk p):Root prog 13 [vb,vk] ro (fun w _=>w= .bool true):=by
 intro Post hret
 have hJ:Closed prog true (JM prog (Go.Conc.Good prog Post)):=JM.closed
 have hvv:=hv
 obtain⟨vp,vg,vc,vt,rfl,hp,hg,hc,ht⟩:=hv
 obtain⟨pb,pc,rfl⟩:=hp.form
 obtain⟨gb,gc,rfl⟩:=hg.form
 obtain⟨cb,cc,rfl⟩:=hc.form
 obtain⟨tb,tc,rfl⟩:=ht.form
 have hk0:=hk
 obtain⟨kb,kc,rfl⟩:=hk.form
 let main:=true
 let J:=JM prog (Go.Conc.Good prog Post)
 refine enter_X (n:=91) func13 U U (Nl U) ?_
 have C:Ctx prog main J (bf 13 .normal):=⟨hJ,by decide⟩
 refine Xr C U U<|R.box C U U U U fun p2=>Ad C U U<|Xs C<|Xr C U U<|R5 C U U isAgg27 sizeOf27 (by repeat constructor) Tk5<|R.callP C U U U U (fitR_c hJ hvv)<|R.not C U U U<|R.done C<|X.cond C.1 U (fun hfit=>?_) (fun hfit=>?_)
 ·refine Xr C U U<|R.callR C U U U U ((hoisted_c _ he)) fun v9 ro9 hl9 hq9=>Ad C U U<|X.ret0 C (by kernel_rfl) U U func13 U (by exact(.tmp U .nil)) fun w9 hs9=>hret _ _ _ hl9 ?_ w9 hs9
  exact hq9
 ·have hch:checkBook b=0:=by simpa using hfit
  have hb:=good_of hch
  have hsh:=short_of (not_great hch)
  have hng:=hb.ng
  have hnc:=hb.nc
  refine X.skip C.1<|Xr C U U<|R5 C U U isAgg27 sizeOf27 (by repeat constructor) Tk5<|R.callR C U U U U ((share2_c he hvv hsh)) fun v1 ro1 hl1 hq1=>?_
  obtain⟨w1,y1,c1,rfl⟩:=hq1
  by_cases hL:cases b= []
  ·have e1:shareR b=(none,9):=by rw [shareR,open_nine hch hL];rfl
   rw [e1] at y1⊢
   have y1:LsI ro1 w1 []:=y1
   obtain⟨_,_,rfl⟩:=y1.form
   refine Rm C U U<|R.ext C U U U U<|R.ext C U U U U<|R.ext C U U U U<|R.asg C U U U<|R.asg C U U U<|Ad C U U<|Xs C<|Xr C U U<|Rm C U U<|R.int C U U U U b_neq<|R.fixv (t:=20) (v':= .bool true) U (by rfl)<|Rm C U U<|R.pass C U U<|R.pass C U U<|R.pickT C U U U U<|R.done C<|X.cond C.1 U (fun _=>?_) (fun h=>nomatch h)
   refine Xs C<|Xd C fun hok=>Dm C 0 hok U U U<|Di C 1 hok U U U U U b_eql<|D.fixv (t:=26) (v':= .bool false) U (by rfl)<|Dm C 2 hok U U U<|Dm C 3 hok U U U<|Di C 4 hok U U U U U b_eql<|D.fixv (t:=29) (v':= .bool true) U (by rfl)<|Dp 5 hok (fun _ _ _ A h=>R.pickF C U (A.w U U) (A.x U U) (A.x U U) h)<|Dm C 6 hok U U U<|Dm C 7 hok U U U<|Ds C 8 hok U U runUnderlying28<|Di C 9 hok U U U U U b_eql<|D.fixv (t:=34) (v':= .bool true) U (by rfl)<|Dp 10 hok (fun _ _ _ A h=>R.pickT C U (A.w U U) (A.x U U) (A.x U U) h)<|Dm C 11 hok U U U<|Dm C 12 hok U U U<|Dp 13 hok (fun _ _ _ A h=>R.not C U (A.w U U) (A.x U U) h)<|D.fixv (t:=38) (v':= .bool true) U (by rfl)<|Dp 14 hok (fun _ _ _ A h=>R.pickT C U (A.w U U) (A.x U U) (A.x U U) h)<|Dm C 15 hok U U U<|Dm C 16 hok U U U<|Di C 17 hok U U U U U b_eql<|D.fixv (t:=42) (v':= .bool true) U (by rfl)<|Dm C 18 hok U U U<|Du C 19 hok U<|Du C 20 hok U<|Du C 21 hok U<|Du C 22 hok U<|Du C 23 hok U<|Du C 24 hok U<|Dp 25 hok (fun _ _ _ A h=>R.pickT C U (A.w U U) (A.x U U) (A.x U U) h)<|Dp 26 hok (fun _ _ _ A h=>R.pickT C U (A.w U U) (A.x U U) (A.x U U) h)<|Dm C 27 hok U U U<|De 28 (some 53) [] hok (fun _ _ A hk=>?_)
   refine R.callR C U (A.w U U) (A.x U U) (A.s U U) ((hoisted_c _ (he.mono hl1))) fun v9 ro9 hl9 hq9=>hk _ _ ⟨QFs.nil, ?_⟩
   refine Dp 29 hok (fun _ _ _ A h=>R.pickT C U (A.w U U) (A.x U U) (A.x U U) h)<|Da C 30 hok U U<|D.done C hok (by kernel_rfl)<|X.ret0 C (by kernel_rfl) U U func13 U (by exact(.tmp U .nil)) fun w9 hs9=>hret _ _ _ (RO.le_trans hl1 hl9) ?_ w9 hs9
   exact hq9
  ·have hol:=otherTo_len b p b.cs.length
   rcases shareR_law hch hL with⟨e1,hno⟩|⟨z,e1,hzl,hzs,hmin⟩
   ·rw [e1] at y1⊢
    have y1:LsI ro1 w1 []:=y1
    obtain⟨_,_,rfl⟩:=y1.form
    refine Rm C U U<|R.ext C U U U U<|R.ext C U U U U<|R.ext C U U U U<|R.asg C U U U<|R.asg C U U U<|Ad C U U<|Xs C<|Xr C U U<|Rm C U U<|R.int C U U U U b_neq<|R.fixv (t:=20) (v':= .bool false) U (by rfl)<|Rm C U U<|Rm C U U<|R.not C U U U<|R.fixv (t:=23) (v':= .bool true) U (by rfl)<|R.pickF C U U U U<|R.done C<|X.cond C.1 U (fun _=>?_) (fun h=>nomatch h)
    refine Xs C<|Xd C fun hok=>Dm C 0 hok U U U<|Di C 1 hok U U U U U b_eql<|D.fixv (t:=26) (v':= .bool true) U (by rfl)<|Dm C 2 hok U U U<|Du C 3 hok U<|Du C 4 hok U<|Dp 5 hok (fun _ _ _ A h=>R.pickT C U (A.w U U) (A.x U U) (A.x U U) h)<|Dm C 6 hok U U U<|Dm C 7 hok U U U<|Ds C 8 hok U U runUnderlying28<|Di C 9 hok U U U U U b_eql<|D.fixv (t:=34) (v':= .bool true) U (by rfl)<|Dp 10 hok (fun _ _ _ A h=>R.pickT C U (A.w U U) (A.x U U) (A.x U U) h)<|Dm C 11 hok U U U<|Dm C 12 hok U U U<|Dp 13 hok (fun _ _ _ A h=>R.not C U (A.w U U) (A.x U U) h)<|D.fixv (t:=38) (v':= .bool true) U (by rfl)<|Dp 14 hok (fun _ _ _ A h=>R.pickT C U (A.w U U) (A.x U U) (A.x U U) h)<|Dm C 15 hok U U U<|Dm C 16 hok U U U<|Di C 17 hok U U U U U b_eql<|D.fixv (t:=42) (v':= .bool false) U (by rfl)<|Dm C 18 hok U U U<|D5 C 19 hok U U isAgg27 sizeOf27 (by repeat constructor) Tk5<|D5 C 20 hok U U isAgg27 sizeOf27 (by repeat constructor) Tk5<|Dm C 21 hok U U U<|De 22 (some 47) [false,true] hok (fun _ _ A hk=>?_)
    refine R.callR C U (A.w U U) (A.x U U) (A.s U U) (otherR_c hJ (hvv.mono hl1) (hk0.mono hl1) (by omega) (by omega)) fun v3 ro3 hl3 hq3=>hk _ _ ⟨(QFs.cons (QF.of U (fun _ _ A h=>R.loadAgg C U (A.w U U) (A.x U U) isAgg27 sizeOf27 (by repeat constructor) Tk5 h)) QFs.nil), ?_⟩
    refine De 23 (some 48) [false] hok (fun _ _ A hk=>?_)
    obtain⟨y3,c3⟩:=hq3
    have k3:=RO.le_trans hl1 hl3
    refine R.callR C U (A.w U U) (A.x U U) (A.s U U) (sharesR_c hJ (he.mono k3) (hvv.mono k3) hch hL y3 c3 (by omega)) fun v4 ro4 hl4 hq4=>hk _ _ ⟨QFs.nil, ?_⟩
    subst hq4
    have k4:=RO.le_trans k3 hl4
    rw [hno _ hol]
    refine Dp 24 hok (fun _ _ _ A h=>R.not C U (A.w U U) (A.x U U) h)<|D.fixv (t:=49) (v':= .bool true) U (by rfl)<|Dp 25 hok (fun _ _ _ A h=>R.pickF C U (A.w U U) (A.x U U) (A.x U U) h)<|Dp 26 hok (fun _ _ _ A h=>R.pickT C U (A.w U U) (A.x U U) (A.x U U) h)<|Dm C 27 hok U U U<|De 28 (some 53) [] hok (fun _ _ A hk=>?_)
    refine R.callR C U (A.w U U) (A.x U U) (A.s U U) ((hoisted_c _ (he.mono k4))) fun v9 ro9 hl9 hq9=>hk _ _ ⟨QFs.nil, ?_⟩
    refine Dp 29 hok (fun _ _ _ A h=>R.pickT C U (A.w U U) (A.x U U) (A.x U U) h)<|Da C 30 hok U U<|D.done C hok (by kernel_rfl)<|X.ret0 C (by kernel_rfl) U U func13 U (by exact(.tmp U .nil)) fun w9 hs9=>hret _ _ _ (RO.le_trans k4 hl9) ?_ w9 hs9
    exact hq9
   ·rw [e1] at y1⊢
    have y1:LsI ro1 w1 z:=y1
    obtain⟨zb,zc,rfl⟩:=y1.form
    obtain⟨s1,s2,_⟩:=shOk_bd hzs
    have hzg:z.length≤b.gs.length:=nodup_len s2 s1
    refine Rm C U U<|R.ext C U U U U<|R.ext C U U U U<|R.ext C U U U U<|R.asg C U U U<|R.asg C U U U<|Ad C U U<|Xs C<|Xr C U U<|Rm C U U<|R.int C U U U U b_neq<|R.fixv (t:=20) (v':= .bool false) U (by rfl)<|Rm C U U<|Rm C U U<|R.not C U U U<|R.fixv (t:=23) (v':= .bool false) U (by rfl)<|R.pickF C U U U U<|R.done C<|X.cond C.1 U (fun h=>nomatch h) (fun _=>?_)
    refine X.skip C.1<|Xs C<|Xr C U U<|Rm C U U<|Rn C U U runUnderlying28<|Rf C 3 U U runUnderlying27 U sizeOf24<|Rl C U U isAgg24 (by repeat constructor) U<|Rn C U U runUnderlying24<|R.int C U U U U b_neq<|R.fixv (t:=60) (v':= .bool false) U (by(refine congrArg Value.bool ?_;simp;omega)) ?_;refine Rm C U U<|Rm C U U<|Rn C U U runUnderlying28<|Rf C 2 U U runUnderlying27 U sizeOf23<|Rl C U U isAgg23 (by repeat constructor) U<|Rn C U U runUnderlying23<|R.int C U U U U b_gtr<|R.fixv (t:=67) (v':= .bool false) U (by(refine congrArg Value.bool ?_;rw [dF];omega)) ?_;refine R.pickF C U U U U<|Rm C U U<|R5 C U U isAgg27 sizeOf27 (by repeat constructor) Tk5<|Rm C U U<|R.callR C U U U U (sharesR_c hJ (he.mono hl1) (hvv.mono hl1) hch hL y1 c1 (by omega)) fun v3 ro3 hl3 hq3=>?_
    subst hq3
    have k3:=RO.le_trans hl1 hl3
    rw [hzs]
    refine R.not C U U U<|R.fixv (t:=73) (v':= .bool false) U (by rfl)<|R.pickF C U U U U<|R.done C<|X.cond C.1 U (fun h=>nomatch h) (fun _=>?_)
    refine X.skip C.1<|Xr C U U<|R5 C U U isAgg27 sizeOf27 (by repeat constructor) Tk5<|Rm C U U<|R.callR C U U U U (otherR_c hJ (hvv.mono k3) (hk0.mono k3) (by omega) (by omega)) fun v4 ro4 hl4 hq4=>Ad C U U<|Xs C ?_
    obtain⟨y4,c4⟩:=hq4
    have k4:=RO.le_trans k3 hl4
    refine X.region C U U<|R5 C U U isAgg27 sizeOf27 (by repeat constructor) Tk5<|Rm C U U<|R.callR C U U U U (sharesR_c hJ (he.mono k4) (hvv.mono k4) hch hL y4 c4 (by omega)) fun v5 ro5 hl5 hq5=>?_
    subst hq5
    have k5:=RO.le_trans k4 hl5
    have hmn:=hmin _ hol
    generalize shOk b.gs.length (mayS b) [] (otherTo b p b.cs.length)=q at hmn⊢
    cases q
    ·have _:=hzg
     refine R.not C U U U<|R.fixv (t:=81) (v':= .bool true) U (by rfl)<|Rm C U U<|R.pass C U U<|R.pass C U U<|R.pass C U U<|R.pass C U U<|R.pickT C U U U U<|Rm C U U<|R.callR C U U U U ((hoisted_c _ (he.mono k5))) fun v9 ro9 hl9 hq9=>R.pickT C U U U U<|Ad C U U<|X.ret0 C (by kernel_rfl) U U func13 U (by exact(.tmp U .nil)) fun w9 hs9=>hret _ _ _ (RO.le_trans k5 hl9) ?_ w9 hs9
     exact hq9
    ·have hne:earlier (otherTo b p b.cs.length) z=false:=by unfold earlier;rw [dF];exact hmn rfl
     refine R.not C U U U<|R.fixv (t:=81) (v':= .bool false) U (by rfl)<|Rm C U U<|Rm C U U<|Rm C U U<|R.callP C U U U U (earlier_c hJ (y4.mono hl5) (y1.mono (RO.le_trans hl3 (RO.le_trans hl4 hl5))) (by omega) (by omega))<|R.not C U U U<|R.fixv (t:=86) (v':= .bool true) U (by(rw [hne];rfl))<|R.pickF C U U U U<|Rm C U U<|R.callR C U U U U ((hoisted_c _ (he.mono k5))) fun v9 ro9 hl9 hq9=>R.pickT C U U U U<|Ad C U U<|X.ret0 C (by kernel_rfl) U U func13 U (by exact(.tmp U .nil)) fun w9 hs9=>hret _ _ _ (RO.le_trans k5 hl9) ?_ w9 hs9
     exact hq9
end Go.Lg.B
namespace Go.Lg.B
open Go Go.Conc Go.Lg Go.Proofs Go.WideShapes Go.ChangeShapes Go.Proofs.Tryz
theorem cells235:prog.cellsOf 235=1:=by kernel_rfl
section
variable {H:Type}{enc0:TypeId×Value→H}{W:World}{base:Nat}{sp:Nat→Bool}{held:Bool}
theorem uc_of{n:Nat}{cs:List Value}{z:DataW H×List MemPlace}(h:DataW.trod enc0 prog W base sp held n 235 cs=some z):∃s:U16,cs=uc s:=by
 obtain⟨x,e,w⟩:=int_of_trod underlying235 h
 have hw:0≤x∧x≤65535:=by simpa [Lit.wf,IntKind.min,IntKind.max,IntKind.signed,IntKind.bits] using w
 exact⟨⟨x,hw⟩,e⟩
theorem u16s_of{n:Nat}{cs:List Value}{z:DataW H×List MemPlace}(h:DataW.trod enc0 prog W base sp held n 52 cs=some z):∃v xs,cs= [v]∧Ls uc 1 (fun b=>W.heap[b]?) v xs:=
 ls_of_trod underlying52 cells235 (by decide) uc_len (fun _ _ _ h=>uc_of h) h
theorem argU16s{r:Reach}{b0:Nat}{v:Value}{d:DataW H}{p:List MemPlace}(hv:Value.okWide prog W r b0 52 v)(h:DataW.Trod enc0 prog W base sp held 52 v d p):∃xs,Ls uc 1 (fun b=>W.heap[b]?) v xs:=by
 obtain⟨a,len,cap,rfl⟩:=okWide_slice underlying52 hv
 obtain⟨n,h⟩:=h
 obtain⟨v',xs,e,hl⟩:=u16s_of (cs:= [Value.slice a len cap]) h
 cases e
 exact⟨xs,hl⟩
end
end Go.Lg.B
namespace Go.Lg.B
open Go Go.Proofs Go.Proofs.YtchjgmkeemdhlaaGreatDoor Go.Proofs.Tryz
theorem shared_k1:(Rows.tackleSharedRow.inPlace==prog.inPlace 13)=true:=by kernel_rfl
theorem shared_k2:(Rows.tackleSharedRow.unfollowed==prog.unfollowed 13)=true:=by kernel_rfl
theorem shared_k3:(Rows.tackleSharedRow.recurses==prog.recurses 13)=true:=by kernel_rfl
theorem shared_k4:(Rows.tackleSharedRow.named==prog.varsNamed 13)=true:=by kernel_rfl
theorem shared_name:prog.funcNamed "lagan/laganlaw07.TackleShared" =some 13:=by kernel_rfl
theorem shared_goes:true=Rows.tackleSharedRow.goesBy prog:=by kernel_rfl
theorem shared_wf:Rows.tackleSharedRow.wfByText (OpenSpec.ofChange Rows.tackleSharedSpec)=true:=by kernel_rfl
theorem shared_facts:joinedFacts prog 13 Tryz.f13 Rows.tackleSharedSpec Rows.tackleSharedRow=true:=by
 unfold joinedFacts
 exact(and_mk (and_mk (and_mk (and_mk (and_mk (and_mk (and_mk (and_mk (and_mk (and_mk (and_mk (and_mk (and_mk (and_mk (and_mk (and_mk (and_mk (and_mk (and_mk (and_mk (and_mk (and_mk (and_mk (and_mk (and_mk (and_mk (and_mk (and_mk (and_mk (and_mk (and_mk (by as_aux_lemma=>kernel_rfl)
  k_lo)
  k_mr)
  (by as_aux_lemma=>kernel_rfl))
  (by as_aux_lemma=>kernel_rfl))
  (by as_aux_lemma=>kernel_rfl))
  k_stops)
  (by as_aux_lemma=>kernel_rfl))
  k_knobs)
  shared_k1)
  shared_k2)
  shared_k3)
  shared_k4)
  (by as_aux_lemma=>kernel_rfl))
  (by as_aux_lemma=>kernel_rfl))
  (by as_aux_lemma=>kernel_rfl))
  (by as_aux_lemma=>kernel_rfl))
  (by as_aux_lemma=>kernel_rfl))
  (by as_aux_lemma=>kernel_rfl))
  (by as_aux_lemma=>kernel_rfl))
  (by as_aux_lemma=>kernel_rfl))
  (by as_aux_lemma=>kernel_rfl))
  (beq_iff_eq.2 k_pk.symm))
  (by as_aux_lemma=>kernel_rfl))
  k_heard)
  k_may)
  (beq_iff_eq.2 k_lift.symm))
  (beq_iff_eq.2 k_make))
  (by as_aux_lemma=>kernel_rfl))
  (by as_aux_lemma=>kernel_rfl))
  (by as_aux_lemma=>kernel_rfl))
  (by as_aux_lemma=>kernel_rfl))
end Go.Lg.B
namespace Go.Proofs.YtchjgmkeemdhlaaGreatDoor
open Go Go.Conc Go.Lg Go.Lg.B Go.ChangeShapes Go.RowKit Go.WideShapes
theorem shared_lifted(os:Os)(started:os.Started)(H:Type)(enc:TypeId×Value→H):
  ReturnsInLeavingWide {} Tryz.checked os 13 .any (fun w args=>(Rows.tackleSharedSpec.pre enc Tryz.prog Tryz.f13 [] false w args∧laidMetH Tryz.prog laid1 w)∧sizedMet enc Tryz.prog Tryz.f13 (OpenSpec.ofChange Rows.tackleSharedSpec) false w args)
   (Rows.tackleSharedSpec.post enc Tryz.prog Tryz.f13 false true false false):=by
 refine leaving_of_root (C:=Tryz.checked) (tb:=4) (X:=fun w _=>laidMetH Tryz.prog laid1 w) (fun _ _ _ hh h=>h.of_heap hh) own0 started Tryz.func13 laid0 (by
   intro t ht
   rw [Tryz.params13] at ht
   have hm:t∈ [27,52]:=ht
   have hall:([27,52].all fun u=>Tryz.prog.readableRec u && decide (u<Tryz.prog.types.size))=true:=by kernel_rfl
   have:=List.all_eq_true.1 hall t hm
   rw [Bool.and_eq_true,decide_eq_true_eq] at this
   exact this) rfl (by kernel_rfl) Tryz.underlying4
  (ChangeSpec.witness_shaped (enc:=enc) (C:=Tryz.checked) (os:=os) (X:=fun w _=>laidMetH Tryz.prog laid1 w) false (World.doorLaid Tryz.prog 89 os) #[.agg #[.int .i64 0, .slice none 0 0, .slice none 0 0, .slice none 0 0, .slice none 0 0], .slice none 0 0] 8 rfl (door_shaped os _) (by kernel_rfl) (by kernel_rfl) (by kernel_rfl) (door_met os _)) ?_
 intro W base args ds gs before hval hW _ _ hL
 obtain⟨p,q,hA,hV,rfl,_,_⟩:=hW
 obtain⟨rfl,rfl⟩:=trodVars_none hV
 have hA:DataW.TrodAll enc Tryz.prog W 0 (fun _=>true) true Tryz.f13.params.toList args.toList ds p:=hA
 have hval:∀ (j:Nat) t v,Tryz.f13.params[j]? =some t→args[j]? =some v→Value.okWide Tryz.prog W .any base t v:=hval
 rw [Tryz.params13] at hA hval
 obtain⟨v1,l1,d1,k1,p1,q1,e1,rfl,rfl,h1,hA⟩:=trodAll_cons hA
 obtain⟨v2,l2,d2,k2,p2,q2,rfl,rfl,rfl,h2,hA⟩:=trodAll_cons hA
 obtain⟨rfl,rfl,rfl⟩:=trodAll_nil hA
 have ea:args= #[v1,v2]:=Array.toList_inj.1 e1
 subst ea
 obtain⟨b,b1⟩:=argBk (hval 0 27 v1 rfl rfl) h1
 obtain⟨xs,o1⟩:=argU16s (hval 1 52 v2 rfl rfl) h2
 exact⟨rfl,shared_root (env_of_laid hL) b1 o1⟩
theorem shared_row:Rows.TackleSharedSaid:=
 OpenClaim.holds_of_wide_leaving 13 Tryz.f13 rfl rfl rfl rfl rfl rfl rfl ⟨rfl,rfl,rfl,rfl,rfl⟩ rfl rfl rfl rfl rfl shared_name Tryz.func13 shared_facts
  (of_decide_eq_true (by kernel_rfl)) (by unfold Func.isWrapper;first|(rw [if_pos (by decide+kernel)];kernel_rfl)|(rw [if_neg (by decide+kernel)];exact⟨rfl,rfl⟩))
  (fun os started H enc _=>shared_lifted os started H enc)
theorem shared_holds:Rows.TackleSharedCardSaid:=
 card_goes .later [.funcs] true (true, "6ec45924a9ef3528b91853e2f3d4ce9a8ac3f7423f5bdc8d9ecf7c969235976f") true
  shared_row shared_wf tackleShared_row_tie rfl ⟨rfl,rfl⟩ k_main rfl
  (fun f fn hf hfn=>by
   obtain rfl:f=13:=Option.some.inj (shared_name.symm.trans hf)|>.symm
   obtain rfl:fn=Tryz.f13:=(Option.some.inj (Tryz.func13.symm.trans hfn)).symm
   exact⟨k_looks,fun j t ht=>by
    rw [Tryz.params13] at ht
    have hm:t∈ [27,52]:=by simpa using Array.mem_of_getElem? ht
    have hall:([27,52].all fun u=> !Tryz.prog.wantsStandIn u)=true:=by kernel_rfl
    exact(show Tryz.prog.wantsStandIn t=false by simpa using List.all_eq_true.1 hall t hm)⟩)
  shared_goes
end Go.Proofs.YtchjgmkeemdhlaaGreatDoor
