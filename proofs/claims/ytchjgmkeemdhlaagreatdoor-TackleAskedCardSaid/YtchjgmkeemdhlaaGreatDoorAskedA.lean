/-
  It is proved that the given function answers true for every input, whatever is scheduled: the statement Asked of the seat. Conditions: none but those of the given statement itself.
-/
import Derived.Test.YtchjgmkeemdhlaaGreatDoorKE
import Derived.Conc.Holds
set_option maxRecDepth 100000
set_option maxHeartbeats 2000000
set_option linter.all false
set_option linter.unusedVariables false
set_option linter.unusedSimpArgs false
set_option linter.unusedSectionVars false
namespace Go.Lg.B
open Go Go.Conc Go.Lg Go.Proofs Go.Proofs.Tryz
inductive LeL:List Int→List Int→Prop
 |nil:LeL [] []
 |cons {x y:Int} {a c:List Int}:x≤y→LeL a c→LeL (x::a) (y::c)
theorem LeL.getD{a c:List Int}(h:LeL a c):∀i,a.getD i 0≤c.getD i 0:=by
 induction h with
 |nil=>intro i;simp
 |cons h _ ih=>
  intro i
  cases i with
  |zero=>simpa using h
  |succ i=>simpa using ih i
theorem open_nine{b:Bk}(h:checkBook b=0)(hL:cases b= []):openH b 0=9:=by rw [openH_zero,if_neg (fun e=>e h),if_pos hL]
theorem open_zero{b:Bk}(h:checkBook b=0)(hL:cases b≠ []):openH b 0=0:=by rw [openH_zero,if_neg (fun e=>e h),if_neg hL]
theorem loadOf_bd{x:Int}:1≤loadOf x∧loadOf x≤99:=by unfold loadOf;omega
theorem testsGo_of{m:Int}:∀ {l:List Ts},(∀t∈l,(0≤t.g∧t.g<m)∧1≤t.l∧t.l≤99)→testsGo m l=0
 | [],_=>rfl
 |t::l,h=>by
  have ht:=h t (by simp)
  rw [testsGo,if_neg (fun e=>e (there_zero.2 ht.1)),if_neg (fun e=>e (loadH_zero.2 ht.2))]
  exact testsGo_of fun x hx=>h x (by simp [hx])
theorem check_ts{b:Bk}(hch:checkBook b=0){l:List Ts}(hn:l.length≤3)(h:∀t∈l,(0≤t.g∧t.g<b.gs.length)∧1≤t.l∧t.l≤99):checkBook {b with ts:=l}=0:=by
 obtain⟨w,p,g,c,_⟩:=check_parts hch
 have hts:Bk.testsH {b with ts:=l}=0:=by
  unfold Bk.testsH
  rw [if_neg (by show¬l.length>3;omega)]
  exact testsGo_of h
 have hw:Bk.winchH {b with ts:=l}=0:=w
 have hp:Bk.partsH {b with ts:=l}=0:=p
 have hg:Bk.gearsH {b with ts:=l}=0:=g
 have hc:Bk.piecesH {b with ts:=l}=0:=c
 unfold checkBook
 rw [hw,hp,hg,hc,hts];rfl
theorem lifts_ts{b:Bk}{l:List Ts}(p:List Int)(g n:Int):lifts {b with ts:=l} p g n=lifts b p g n:=by
 have e:∀x y,pullsGo {b with ts:=l} x y=pullsGo b x y:=fun x y=>by
  induction y generalizing x with
  |nil=>rfl
  |cons z y ih=>rw [pullsGo,pullsGo,ih];rfl
 unfold lifts gives pulls
 rw [e];rfl
theorem right_ts{b:Bk}{l:List Ts}(p:List Int):right {b with ts:=l} p=l.all fun t=>lifts b p t.g t.l==t.held:=by
 unfold right
 simp only [lifts_ts]
theorem bearsL_tried(b:Bk)(t:Ts):bearsL (b.tried t)=(bearsL b).filter fun p=>lifts b p t.g t.l==t.held:=by
 unfold bearsL
 rw [List.filter_filter]
 refine List.filter_congr fun p _=>?_
 have:right (b.tried t) p=(b.ts++ [t]).all fun t=>lifts b p t.g t.l==t.held:=right_ts (l:=b.ts++ [t]) p
 rw [this,List.all_append]
 unfold right
 simp [Bool.and_comm]
theorem cases_tried(b:Bk)(t:Ts):cases (b.tried t)=(cases b).filter fun x=>lifts b x.1 t.g t.l==t.held:=by
 unfold cases
 rw [bearsL_tried,List.filter_flatMap]
 have e:weightsL (b.tried t)=weightsL b:=rfl
 rw [e]
 generalize bearsL b=L
 induction L with
 |nil=>rfl
 |cons p L ih=>
  rw [List.flatMap_cons, ←ih,List.filter_cons]
  by_cases h:(lifts b p t.g t.l==t.held)=true
  ·rw [if_pos h,List.flatMap_cons]
   congr 1
   rw [List.filter_eq_self.2]
   intro x hx
   obtain⟨w,_,rfl⟩:=List.mem_map.1 hx
   exact h
  ·rw [if_neg h]
   have:(((weightsL b).map fun w=>(p,w)).filter fun x=>lifts b x.1 t.g t.l==t.held)= []:=by
    rw [List.filter_eq_nil_iff]
    intro x hx
    obtain⟨w,_,rfl⟩:=List.mem_map.1 hx
    exact h
   rw [this];rfl
theorem tried_len(b:Bk)(g k:Int):(cases (b.tried ⟨g,k,true⟩)).length=heldOf b g k∧(cases (b.tried ⟨g,k,false⟩)).length=(cases b).length-heldOf b g k:=by
 rw [cases_tried,cases_tried]
 unfold heldOf
 generalize cases b=L
 simp only [beq_true,beq_false]
 refine⟨trivial, ?_⟩
 induction L with
 |nil=>rfl
 |cons x L ih=>
  have:=List.length_filter_le (fun t:Tn=>lifts b t.1 g k) L
  rw [List.filter_cons,List.filter_cons,List.length_cons]
  by_cases h:lifts b x.1 g k=true
  ·simp only [h,Bool.not_true,if_true,List.length_cons,Bool.false_eq_true,if_false];omega
  ·simp only [h,Bool.not_false,if_true,List.length_cons,Bool.false_eq_true,if_false];omega
def worst(b:Bk)(g k:Int):Int:=max (heldOf b g k:Int) ((cases b).length-heldOf b g k)
def AskOk(b:Bk)(seen:Int→Int→Prop)(r:Best3):Prop:=
 (r=(-1,0,((cases b).length:Int))∧∀g k,seen g k→((cases b).length:Int)≤worst b g k)∨
 (∃g0 k0,r=(g0,k0,worst b g0 k0)∧seen g0 k0∧worst b g0 k0<(cases b).length∧∀g k,seen g k→worst b g0 k0≤worst b g k∧((g<g0∨g=g0∧k<k0)→worst b g0 k0<worst b g k))
theorem AskOk.step{b:Bk}{seen:Int→Int→Prop}{r:Best3}(h:AskOk b seen r){g k:Int}(hn:∀g' k',seen g' k'→g'<g∨g'=g∧k'<k):AskOk b (fun g' k'=>seen g' k'∨g'=g∧k'=k) (askStep b r g k):=by
 have e:askStep b r g k=if worst b g k<r.2.2 then(g,k,worst b g k) else r:=rfl
 rw [e]
 rcases h with⟨rfl,h⟩|⟨g0,k0,rfl,h1,h2,h3⟩
 ·by_cases hw:worst b g k<((cases b).length:Int)
  ·rw [if_pos hw]
   refine .inr ⟨g,k,rfl, .inr ⟨rfl,rfl⟩,hw,fun g' k' hs=>?_⟩
   rcases hs with hs|⟨rfl,rfl⟩
   ·have:=h g' k' hs
    exact⟨by omega,fun _=>by omega⟩
   ·exact⟨Int.le_refl _,fun hx=>by omega⟩
  ·rw [if_neg hw]
   refine .inl ⟨rfl,fun g' k' hs=>?_⟩
   rcases hs with hs|⟨rfl,rfl⟩
   ·exact h g' k' hs
   ·omega
 ·by_cases hw:worst b g k<worst b g0 k0
  ·rw [if_pos hw]
   refine .inr ⟨g,k,rfl, .inr ⟨rfl,rfl⟩,by omega,fun g' k' hs=>?_⟩
   rcases hs with hs|⟨rfl,rfl⟩
   ·have:=h3 g' k' hs
    exact⟨by omega,fun _=>by omega⟩
   ·exact⟨Int.le_refl _,fun hx=>by omega⟩
  ·rw [if_neg hw]
   refine .inr ⟨g0,k0,rfl, .inl h1,h2,fun g' k' hs=>?_⟩
   rcases hs with hs|⟨rfl,rfl⟩
   ·exact h3 g' k' hs
   ·have:=hn g0 k0 h1
    exact⟨by omega,fun hx=>by omega⟩
theorem AskOk.cong{b:Bk}{s s':Int→Int→Prop}{r:Best3}(h:AskOk b s r)(e:∀g k,s g k↔s' g k):AskOk b s' r:=by
 have:s=s':=funext fun g=>funext fun k=>propext (e g k)
 rw [←this];exact h
theorem ask_gear{b:Bk}{G:Nat}{r:Best3}(h:AskOk b (fun g k=>0≤g∧g<G∧1≤k∧k≤99) r):∀i:Nat,i≤99→AskOk b (fun g k=>0≤g∧g<G∧1≤k∧k≤99∨g=G∧1≤k∧k≤i) (askGear b G r i)
 |0,_=>h.cong fun g k=>by omega
 |i+1,hi=>by
  rw [askGear]
  exact((ask_gear h i (by omega)).step (g:=G) (k:=((i+1:Nat):Int)) (fun g' k' hs=>by omega)).cong fun g k=>by omega
theorem ask_to(b:Bk):∀G:Nat,AskOk b (fun g k=>0≤g∧g<G∧1≤k∧k≤99) (askTo b G)
 |0=> .inl ⟨rfl,fun g k h=>by omega⟩
 |G+1=>by
  rw [askTo]
  exact(ask_gear (ask_to b G) 99 (Nat.le_refl _)).cong fun g k=>by omega
theorem worst_bd(b:Bk)(g k:Int):0≤worst b g k∧worst b g k≤(cases b).length:=by
 have:=heldOf_le b g k
 unfold worst;omega
theorem tried_check{b:Bk}(hch:checkBook b=0)(hn:b.ts.length<3){t:Ts}(h1:0≤t.g∧t.g<b.gs.length)(h2:1≤t.l∧t.l≤99):checkBook (b.tried t)=0:=by
 refine check_ts hch (by simp;omega) fun x hx=>?_
 rcases List.mem_append.1 hx with hx|hx
 ·exact(good_of hch).ts x hx
 ·rw [List.mem_singleton] at hx;subst hx;exact⟨h1,h2⟩
section
variable {main:Bool}{J:Goroutine→Mem→Prop}(hJ:Closed prog main J)
include hJ
theorem leavesR_c{b:Bk}{v:Value}{ro:RO}(he:Env ro)(hv:BkV ro v b)(hch:checkBook b=0)(hn:b.ts.length<3){g k:Int}(h1:0≤g∧g<b.gs.length)(h2:1≤k∧k≤99):CallR prog J (fnv 67) [v, .int .i64 g, .int .i64 k] ro (fun w _=>w= .tuple [.int .i64 (worst b g k), .bool true].toArray):=by
 have hvv:=hv
 have ht1:checkBook (b.tried ⟨g,k,true⟩)=0:=tried_check hch hn h1 h2
 have ht2:checkBook (b.tried ⟨g,k,false⟩)=0:=tried_check hch hn h1 h2
 obtain⟨hl1,hl2⟩:=tried_len b g k
 have hle:=heldOf_le b g k
 have hw:max (((cases (b.tried ⟨g,k,true⟩)).length:Nat):Int) (((cases (b.tried ⟨g,k,false⟩)).length:Nat):Int)=worst b g k:=by
  rw [hl1,hl2];unfold worst;omega
 obtain⟨vp,vg,vc,vt,rfl,hp,hg,hc,ht⟩:=hv
 obtain⟨pb,pc,rfl⟩:=hp.form
 obtain⟨gb,gc,rfl⟩:=hg.form
 obtain⟨cb,cc,rfl⟩:=hc.form
 obtain⟨tb,tc,rfl⟩:=ht.form
 refine CallR.intro hJ (by kernel_rfl) fun c cs tail hret=>enter_X (n:=39) func67 U U (Nl U) ?_
 have C:Ctx prog main J (bf 67 .normal):=⟨hJ,by decide⟩
 refine Xr C U U<|R.box C U U U U fun p3=>R.asg C U U U<|Ad C U U<|Xr C U U<|R5 C U U isAgg27 sizeOf27 (by repeat constructor) Tk5<|Rm C U U<|Rm C U U ?_;refine R.build C U U U zeroValue92 U runUnderlying92 (by kernel_rfl) (Fills.part U U sizeOf3 U (.here .nil) (Fills.part U U sizeOf3 U (.skip (.here .nil)) (Fills.part U U sizeOf4 U (.skip (.skip (.here .nil))) .nil)))<|R.callR C U U U U (tried_c hJ hvv (by omega) ⟨g,k,true⟩) fun v1 ro1 hle1 hq1=>R.callR C U U U U (casesN_c hJ (he.mono hle1) hq1 (short_of (not_great ht1))) fun v2 ro2 hle2 hq2=>?_
 subst hq2
 have k2:=RO.le_trans hle1 hle2
 rw [show casesOf (b.tried ⟨g,k,true⟩)=(((cases (b.tried ⟨g,k,true⟩)).length:Int),0) by rw [casesOf,if_neg (fun h=>h ht1)]]
 refine Rm C U U<|R.ext C U U U U<|R.ext C U U U U<|R.asg C U U U<|Ad C U U<|Xr C U U<|R5 C U U isAgg27 sizeOf27 (by repeat constructor) Tk5<|Rm C U U<|Rm C U U ?_;refine R.build C U U U zeroValue92 U runUnderlying92 (by kernel_rfl) (Fills.part U U sizeOf3 U (.here .nil) (Fills.part U U sizeOf3 U (.skip (.here .nil)) .nil))<|R.callR C U U U U (tried_c hJ (hvv.mono k2) (by omega) ⟨g,k,false⟩) fun v3 ro3 hle3 hq3=>?_
 have k3:=RO.le_trans k2 hle3
 refine R.callR C U U U U (casesN_c hJ (he.mono k3) hq3 (short_of (not_great ht2))) fun v4 ro4 hle4 hq4=>?_
 subst hq4
 rw [show casesOf (b.tried ⟨g,k,false⟩)=(((cases (b.tried ⟨g,k,false⟩)).length:Int),0) by rw [casesOf,if_neg (fun h=>h ht2)]]
 refine Rm C U U<|R.ext C U U U U<|R.ext C U U U U<|R.asg C U U U<|Ad C U U<|Xr C U U<|Rm C U U<|Rm C U U<|R.max2 C U U U U<|Rm C U U<|R.int C U U U U b_eql<|R.fixv (t:=34) (v':= .bool true) U (by rfl)<|Rm C U U<|Rm C U U<|R.int C U U U U b_eql<|R.fixv (t:=37) (v':= .bool true) U (by rfl)<|R.pickT C U U U U<|R.asg C U U U<|Ad C U U<|X.ret C U U func67 U (by exact(.tmp U (.tmp U .nil)))<|Hr hret (RO.le_trans k3 hle4) ?_
 rw [←hw];rfl
end
theorem asked_root{b:Bk}{vb:Value}{y z:Int}(hy:0≤y∧y≤255)(hz:0≤z∧z≤255){ro:RO}(he:Env ro)(hv:BkV ro vb b):Root prog 10 [vb, .int .u8 y, .int .u8 z] ro (fun w _=>w= .bool true):=by
 intro Post hret
 have hJ:Closed prog true (JM prog (Go.Conc.Good prog Post)):=JM.closed
 have hvv:=hv
 obtain⟨vp,vg,vc,vt,rfl,hp,hg,hc,ht⟩:=hv
 obtain⟨pb,pc,rfl⟩:=hp.form
 obtain⟨gb,gc,rfl⟩:=hg.form
 obtain⟨cb,cc,rfl⟩:=hc.form
 obtain⟨tb,tc,rfl⟩:=ht.form
 let main:=true
 let J:=JM prog (Go.Conc.Good prog Post)
 refine enter_X (n:=167) func10 U U (Nl U) ?_
 have C:Ctx prog main J (bf 10 .normal):=⟨hJ,by decide⟩
 by_cases hch:checkBook b=0
 ·have hb:=good_of hch
  have hsh:=short_of (not_great hch)
  have hng:=hb.ng
  have hnt:=hb.nt
  by_cases hn3:b.ts.length<3
  ·have _:=hn3
   refine Xr C U U<|R.box C U U U U fun p3=>Ad C U U<|Xs C<|Xr C U U<|R5 C U U isAgg27 sizeOf27 (by repeat constructor) Tk5<|R.callP C U U U U (fitR_c hJ hvv)<|R.not C U U U<|R.fixv (t:=19) (v':= .bool false) U (by(refine congrArg Value.bool ?_;simp [hch])) ?_;refine Rm C U U<|Rf C 4 U U runUnderlying27 U sizeOf25<|Rl C U U isAgg25 (by repeat constructor) U<|Rn C U U runUnderlying25<|R.int C U U U U b_geq<|R.fixv (t:=24) (v':= .bool false) U (by(refine congrArg Value.bool ?_;(try dsimp only);rw [dF];omega)) ?_;refine R.pickF C U U U U<|R.done C<|X.cond C.1 U (fun h=>nomatch h) (fun _=>?_)
   refine X.skip C.1<|Xr C U U<|R5 C U U isAgg27 sizeOf27 (by repeat constructor) Tk5<|R.callR C U U U U (ask_c hJ he hvv hsh) fun v1 ro1 hl1 hq1=>?_
   subst hq1
   refine Rm C U U<|R.ext C U U U U<|R.ext C U U U U<|R.ext C U U U U<|R.ext C U U U U<|R.asg C U U U<|R.asg C U U U<|R.asg C U U U<|Ad C U U<|Xr C U U<|R5 C U U isAgg27 sizeOf27 (by repeat constructor) Tk5<|R.callR C U U U U (casesN_c hJ (he.mono hl1) (hvv.mono hl1) hsh) fun v2 ro2 hl2 hq2=>?_
   subst hq2
   have k2:=RO.le_trans hl1 hl2
   rw [show casesOf b=(((cases b).length:Int),0) by rw [casesOf,if_neg (fun h=>h hch)]]
   by_cases hL:cases b= []
   ·have e1:askR b=((0,0,0),9):=by rw [askR,open_nine hch hL];rfl
    have hnil:([]:List Tn).length=0:=rfl
    rw [e1,hL]
    refine Rm C U U<|R.ext C U U U U<|R.ext C U U U U<|R.asg C U U U<|Ad C U U<|Xs C<|Xr C U U<|Rm C U U<|R.int C U U U U b_neq<|R.fixv (t:=40) (v':= .bool false) U (by rfl)<|Rm C U U<|Rm C U U<|R.int C U U U U b_eql<|Rm C U U<|R.int C U U U U b_gtr<|R.neBool C U U U U runUnderlying4<|R.fixv (t:=46) (v':= .bool false) U (by rfl)<|R.pickF C U U U U<|R.done C<|X.cond C.1 U (fun h=>nomatch h) (fun _=>?_)
    refine X.skip C.1<|Xs C<|Xr C U U<|Rm C U U<|R.int C U U U U b_neq<|R.fixv (t:=49) (v':= .bool true) U (by rfl)<|R.done C<|X.cond C.1 U (fun _=>?_) (fun h=>nomatch h)
    refine Xr C U U<|Rm C U U<|R.int C U U U U b_eql<|R.fixv (t:=51) (v':= .bool true) U (by rfl)<|Rm C U U<|Rm C U U<|R.int C U U U U b_eql<|R.fixv (t:=54) (v':= .bool true) U (by rfl)<|R.pickT C U U U U<|Rm C U U<|Rm C U U<|R.int C U U U U b_eql<|R.fixv (t:=58) (v':= .bool true) U (by rfl)<|R.pickT C U U U U<|Rm C U U<|Rm C U U<|R.int C U U U U b_eql<|R.fixv (t:=62) (v':= .bool true) U (by rfl)<|R.pickT C U U U U<|Rm C U U<|R.callR C U U U U ((hoisted_c _ (he.mono k2))) fun v9 ro9 hl9 hq9=>R.pickT C U U U U<|Ad C U U<|X.ret0 C (by kernel_rfl) U U func10 U (by exact(.tmp U .nil)) fun w9 hs9=>hret _ _ _ (RO.le_trans k2 hl9) ?_ w9 hs9
    exact hq9
   ·have e1:askR b=(askTo b b.gs.length,0):=by rw [askR,open_zero hch hL];rfl
    have hpos:=List.length_pos_iff.2 hL
    have hcl:=cases_le hb
    have hat:=ask_to b b.gs.length
    rw [e1]
    generalize askTo b b.gs.length=r at hat⊢
    have hgb:0≤y% (b.gs.length:Int)∧y% (b.gs.length:Int)<b.gs.length:=⟨Int.emod_nonneg _ (by omega),Int.emod_lt_of_pos _ (by omega)⟩
    have hlo:1≤loadOf z∧loadOf z≤99:=loadOf_bd
    have hwb:=worst_bd b (y% (b.gs.length:Int)) (loadOf z)
    rcases hat with⟨rfl,hno⟩|⟨g0,k0,rfl,hs0,hlt0,hmin⟩
    ·have hmn:=hno _ _ ⟨hgb.1,hgb.2,hlo.1,hlo.2⟩
     have hweq:worst b (y% (b.gs.length:Int)) (loadOf z)=(cases b).length:=by omega
     refine Rm C U U<|R.ext C U U U U<|R.ext C U U U U<|R.asg C U U U<|Ad C U U<|Xs C<|Xr C U U<|Rm C U U<|R.int C U U U U b_neq<|R.fixv (t:=40) (v':= .bool false) U (by rfl)<|Rm C U U<|Rm C U U<|R.int C U U U U b_eql<|Rm C U U<|R.int C U U U U b_gtr<|R.neBool C U U U U runUnderlying4<|R.fixv (t:=46) (v':= .bool false) U (by(refine congrArg Value.bool ?_;simp;omega)) ?_;refine R.pickF C U U U U<|R.done C<|X.cond C.1 U (fun h=>nomatch h) (fun _=>?_)
     refine X.skip C.1<|Xs C<|Xr C U U<|Rm C U U<|R.int C U U U U b_neq<|R.fixv (t:=49) (v':= .bool false) U (by rfl)<|R.done C<|X.cond C.1 U (fun h=>nomatch h) (fun _=>?_)
     refine X.skip C.1<|Xs C<|Xr C U U<|Rm C U U<|Rf C 2 U U runUnderlying27 U sizeOf23<|Rl C U U isAgg23 (by repeat constructor) U<|Rn C U U runUnderlying23<|R.int C U U U U (b_sub (by omega) (by omega))<|R.callP C U U U U (betweenR_c hJ _ _ _ _)<|R.fixv (t:=72) (v':= .bool true) U (by(refine congrArg Value.bool ?_;simp [between];omega)) ?_;refine R.not C U U U<|R.fixv (t:=73) (v':= .bool false) U U<|R.fixv (t:=73) (v':= .bool false) U (by rfl)<|Rm C U U<|Rm C U U<|R.callP C U U U U (betweenR_c hJ _ _ _ _)<|R.fixv (t:=76) (v':= .bool true) U (by rfl)<|R.not C U U U<|R.fixv (t:=77) (v':= .bool false) U U<|R.fixv (t:=77) (v':= .bool false) U (by rfl)<|R.pickF C U U U U<|Rm C U U<|Rm C U U<|R.int C U U U U b_lss<|Rm C U U<|Rm C U U<|R.int C U U U U b_eql<|R.neBool C U U U U runUnderlying4<|R.fixv (t:=85) (v':= .bool false) U (by(refine congrArg Value.bool ?_;simp)) ?_;refine R.pickF C U U U U<|Rm C U U<|Rm C U U<|R.int C U U U U b_lss<|Rm C U U<|R.int C U U U U b_eql<|R.neBool C U U U U runUnderlying4<|R.fixv (t:=92) (v':= .bool false) U (by rfl)<|R.pickF C U U U U<|Rm C U U<|Rm C U U<|Rm C U U<|R.int C U U U U b_gtr<|R.fixv (t:=97) (v':= .bool false) U (by(refine congrArg Value.bool ?_;(try dsimp only);rw [dF];omega)) ?_;refine R.pickF C U U U U<|R.done C<|X.cond C.1 U (fun h=>nomatch h) (fun _=>?_)
     refine X.skip C.1<|Xs C<|Xd C fun hok=>Dm C 0 hok U U U<|Dp 1 hok (fun _ _ _ A h=>R.convInt C U (A.w U U) (A.x U U) runUnderlying5 runUnderlying3 (wrap64 (by omega) (by omega)) h)<|Df (off':=2) C 2 hok U U U runUnderlying27 U sizeOf23 U<|D1 C 3 hok U U isAgg23 (by repeat constructor) U<|Ds C 4 hok U U runUnderlying23<|Di C 5 hok U U U U U (b_remP (by omega) (by omega))<|Dm C 6 hok U U U<|De 7 (some 106) [true] hok (fun _ _ A hk=>?_)
     refine R.callP C U (A.w U U) (A.x U U) (A.s U U) (loadR_c hJ (by omega) _) (hk _ _ ⟨(QFs.cons (QF.of U (fun _ _ A h=>R.loadOne C U (A.w U U) (A.x U U) isAgg23 (by repeat constructor) U h)) QFs.nil), ?_⟩)
     refine Da C 8 hok U U<|Da C 9 hok U U<|D.done C hok (by kernel_rfl)<|Xs C ?_
     generalize y% (b.gs.length:Int)=g at hgb hwb hmn hweq⊢
     generalize loadOf z=k at hlo hwb hmn hweq⊢
     refine X.region C U U<|R5 C U U isAgg27 sizeOf27 (by repeat constructor) Tk5<|Rm C U U<|Rm C U U<|R.callR C U U U U (leavesR_c hJ (he.mono k2) (hvv.mono k2) hch hn3 hgb hlo) fun v3 ro3 hl3 hq3=>?_
     subst hq3
     have k3:=RO.le_trans k2 hl3
     refine Rm C U U<|R.ext C U U U U<|R.ext C U U U U<|R.asg C U U U<|Ad C U U<|Xs C<|Xr C U U<|Rm C U U<|R.not C U U U<|R.fixv (t:=115) (v':= .bool false) U (by rfl)<|Rm C U U<|Rm C U U<|Rm C U U<|R.int C U U U U b_lss<|R.fixv (t:=119) (v':= .bool false) U (by(refine congrArg Value.bool ?_;(try dsimp only);rw [dF];omega)) ?_;refine R.pickF C U U U U<|Rm C U U<|Rm C U U<|Rm C U U<|R.int C U U U U b_eql<|R.fixv (t:=124) (v':= .bool true) U (by(refine congrArg Value.bool ?_;(try dsimp only);rw [beq_iff_eq];omega)) ?_;refine Rm C U U<|Rm C U U<|R.int C U U U U b_geq<|R.fixv (t:=127) (v':= .bool false) U (by(refine congrArg Value.bool ?_;(try dsimp only);rw [dF];omega)) ?_;refine R.pickT C U U U U<|Rm C U U<|R.pass C U U<|R.pass C U U<|R.pass C U U<|R.pass C U U<|R.pass C U U<|R.pass C U U<|R.pass C U U<|R.pass C U U<|R.pass C U U<|R.pass C U U<|R.pass C U U<|R.pass C U U<|R.pass C U U<|R.pickF C U U U U<|R.pickF C U U U U<|R.done C<|X.cond C.1 U (fun h=>nomatch h) (fun _=>?_)
     refine X.skip C.1<|Xs C<|Xr C U U<|Rm C U U<|R.int C U U U U b_geq<|R.fixv (t:=146) (v':= .bool false) U (by(refine congrArg Value.bool ?_;(try dsimp only);rw [dF];omega)) ?_;refine R.done C<|X.cond C.1 U (fun h=>nomatch h) (fun _=>?_)
     refine X.skip C.1<|Xr C U U<|Rm C U U<|Rm C U U<|R.fixv (t:=155) (v':= .bool true) U (by rfl)<|Rm C U U<|R.int C U U U U b_lss<|R.fixv (t:=157) (v':= .bool true) U (by(refine congrArg Value.bool ?_;(try dsimp only);rw [decide_eq_true_iff];omega)) ?_;refine Rm C U U<|R.pass C U U<|R.pass C U U<|R.pass C U U<|R.pickT C U U U U<|R.pickT C U U U U<|Rm C U U<|R.callR C U U U U ((hoisted_c _ (he.mono k3))) fun v9 ro9 hl9 hq9=>R.pickT C U U U U<|Ad C U U<|X.ret0 C (by kernel_rfl) U U func10 U (by exact(.tmp U .nil)) fun w9 hs9=>hret _ _ _ (RO.le_trans k3 hl9) ?_ w9 hs9
     exact hq9
    ·obtain⟨hs1,hs2,hs3,hs4⟩:=hs0
     have hwb0:=worst_bd b g0 k0
     have hmn:=hmin _ _ ⟨hgb.1,hgb.2,hlo.1,hlo.2⟩
     obtain⟨hm1,hm2⟩:=hmn
     refine Rm C U U<|R.ext C U U U U<|R.ext C U U U U<|R.asg C U U U<|Ad C U U<|Xs C<|Xr C U U<|Rm C U U<|R.int C U U U U b_neq<|R.fixv (t:=40) (v':= .bool false) U (by rfl)<|Rm C U U<|Rm C U U<|R.int C U U U U b_eql<|Rm C U U<|R.int C U U U U b_gtr<|R.neBool C U U U U runUnderlying4<|R.fixv (t:=46) (v':= .bool false) U (by(refine congrArg Value.bool ?_;simp;omega)) ?_;refine R.pickF C U U U U<|R.done C<|X.cond C.1 U (fun h=>nomatch h) (fun _=>?_)
     refine X.skip C.1<|Xs C<|Xr C U U<|Rm C U U<|R.int C U U U U b_neq<|R.fixv (t:=49) (v':= .bool false) U (by rfl)<|R.done C<|X.cond C.1 U (fun h=>nomatch h) (fun _=>?_)
     refine X.skip C.1<|Xs C<|Xr C U U<|Rm C U U<|Rf C 2 U U runUnderlying27 U sizeOf23<|Rl C U U isAgg23 (by repeat constructor) U<|Rn C U U runUnderlying23<|R.int C U U U U (b_sub (by omega) (by omega))<|R.callP C U U U U (betweenR_c hJ _ _ _ _)<|R.fixv (t:=72) (v':= .bool true) U (by(refine congrArg Value.bool ?_;(try dsimp only);rw [between_iff];omega)) ?_;refine R.not C U U U<|R.fixv (t:=73) (v':= .bool false) U U<|R.fixv (t:=73) (v':= .bool false) U (by rfl)<|Rm C U U<|Rm C U U<|R.callP C U U U U (betweenR_c hJ _ _ _ _)<|R.fixv (t:=76) (v':= .bool true) U (by(refine congrArg Value.bool ?_;(try dsimp only);rw [between_iff];omega)) ?_;refine R.not C U U U<|R.fixv (t:=77) (v':= .bool false) U U<|R.fixv (t:=77) (v':= .bool false) U (by rfl)<|R.pickF C U U U U<|Rm C U U<|Rm C U U<|R.int C U U U U b_lss<|R.fixv (t:=81) (v':= .bool false) U (by(refine congrArg Value.bool ?_;(try dsimp only);rw [dF];omega)) ?_;refine Rm C U U<|Rm C U U<|R.int C U U U U b_eql<|R.fixv (t:=84) (v':= .bool false) U (by(refine congrArg Value.bool ?_;(try dsimp only);rw [beq_eq_false_iff_ne];omega)) ?_;refine R.neBool C U U U U runUnderlying4<|R.fixv (t:=85) (v':= .bool false) U (by rfl)<|R.pickF C U U U U<|Rm C U U<|Rm C U U<|R.int C U U U U b_lss<|R.fixv (t:=89) (v':= .bool false) U (by(refine congrArg Value.bool ?_;(try dsimp only);rw [dF];omega)) ?_;refine Rm C U U<|R.int C U U U U b_eql<|R.fixv (t:=91) (v':= .bool false) U (by(refine congrArg Value.bool ?_;(try dsimp only);rw [beq_eq_false_iff_ne];omega)) ?_;refine R.neBool C U U U U runUnderlying4<|R.fixv (t:=92) (v':= .bool false) U (by rfl)<|R.pickF C U U U U<|Rm C U U<|Rm C U U<|Rm C U U<|R.int C U U U U b_gtr<|R.fixv (t:=97) (v':= .bool false) U (by(refine congrArg Value.bool ?_;(try dsimp only);rw [dF];omega)) ?_;refine R.pickF C U U U U<|R.done C<|X.cond C.1 U (fun h=>nomatch h) (fun _=>?_)
     refine X.skip C.1<|Xs C<|Xd C fun hok=>Dm C 0 hok U U U<|Dp 1 hok (fun _ _ _ A h=>R.convInt C U (A.w U U) (A.x U U) runUnderlying5 runUnderlying3 (wrap64 (by omega) (by omega)) h)<|Df (off':=2) C 2 hok U U U runUnderlying27 U sizeOf23 U<|D1 C 3 hok U U isAgg23 (by repeat constructor) U<|Ds C 4 hok U U runUnderlying23<|Di C 5 hok U U U U U (b_remP (by omega) (by omega))<|Dm C 6 hok U U U<|De 7 (some 106) [true] hok (fun _ _ A hk=>?_)
     refine R.callP C U (A.w U U) (A.x U U) (A.s U U) (loadR_c hJ (by omega) _) (hk _ _ ⟨(QFs.cons (QF.of U (fun _ _ A h=>R.loadOne C U (A.w U U) (A.x U U) isAgg23 (by repeat constructor) U h)) QFs.nil), ?_⟩)
     refine Da C 8 hok U U<|Da C 9 hok U U<|D.done C hok (by kernel_rfl)<|Xs C ?_
     generalize y% (b.gs.length:Int)=g at hgb hwb hm1 hm2⊢
     generalize loadOf z=k at hlo hwb hm1 hm2⊢
     refine X.region C U U<|R5 C U U isAgg27 sizeOf27 (by repeat constructor) Tk5<|Rm C U U<|Rm C U U<|R.callR C U U U U (leavesR_c hJ (he.mono k2) (hvv.mono k2) hch hn3 hgb hlo) fun v3 ro3 hl3 hq3=>?_
     subst hq3
     have k3:=RO.le_trans k2 hl3
     by_cases hq:worst b g k=worst b g0 k0
     ·have hx1:¬g<g0:=fun h=>by have:=hm2 (.inl h);omega
      by_cases hg2:g=g0
      ·have hx2:¬k<k0:=fun h=>by have:=hm2 (.inr ⟨hg2,h⟩);omega
       refine Rm C U U<|R.ext C U U U U<|R.ext C U U U U<|R.asg C U U U<|Ad C U U<|Xs C<|Xr C U U<|Rm C U U<|R.not C U U U<|R.fixv (t:=115) (v':= .bool false) U (by rfl)<|Rm C U U<|Rm C U U<|Rm C U U<|R.int C U U U U b_lss<|R.fixv (t:=119) (v':= .bool false) U (by(refine congrArg Value.bool ?_;(try dsimp only);rw [dF];omega)) ?_;refine R.pickF C U U U U<|Rm C U U<|Rm C U U<|Rm C U U<|R.int C U U U U b_eql<|R.fixv (t:=124) (v':= .bool true) U (by(refine congrArg Value.bool ?_;(try dsimp only);rw [beq_iff_eq];omega)) ?_;refine Rm C U U<|Rm C U U<|R.int C U U U U b_geq<|R.fixv (t:=127) (v':= .bool true) U (by(refine congrArg Value.bool ?_;(try dsimp only);rw [decide_eq_true_iff];omega)) ?_;refine R.pickT C U U U U<|Rm C U U<|Rm C U U<|Rm C U U<|R.int C U U U U b_lss<|R.fixv (t:=132) (v':= .bool false) U (by(refine congrArg Value.bool ?_;(try dsimp only);rw [dF];omega)) ?_;refine Rm C U U<|Rm C U U<|Rm C U U<|R.int C U U U U b_eql<|R.fixv (t:=136) (v':= .bool true) U (by(refine congrArg Value.bool ?_;(try dsimp only);rw [beq_iff_eq];omega)) ?_;refine Rm C U U<|Rm C U U<|Rm C U U<|R.int C U U U U b_lss<|R.fixv (t:=140) (v':= .bool false) U (by(refine congrArg Value.bool ?_;(try dsimp only);rw [dF];omega)) ?_;refine R.pickT C U U U U<|R.pickF C U U U U<|R.pickT C U U U U<|R.pickF C U U U U<|R.done C<|X.cond C.1 U (fun h=>nomatch h) (fun _=>?_)
       refine X.skip C.1<|Xs C<|Xr C U U<|Rm C U U<|R.int C U U U U b_geq<|R.fixv (t:=146) (v':= .bool true) U (by(refine congrArg Value.bool ?_;(try dsimp only);rw [decide_eq_true_iff];omega)) ?_;refine R.done C<|X.cond C.1 U (fun _=>?_) (fun h=>nomatch h)
       refine X.region C U U<|R5 C U U isAgg27 sizeOf27 (by repeat constructor) Tk5<|Rm C U U<|Rm C U U<|R.callR C U U U U (leavesR_c hJ (he.mono k3) (hvv.mono k3) hch hn3 ⟨hs1,hs2⟩ ⟨hs3,hs4⟩) fun v5 ro5 hl5 hq5=>?_
       subst hq5
       have k5:=RO.le_trans k3 hl5
       refine Rm C U U<|R.ext C U U U U<|R.ext C U U U U<|R.asg C U U U<|Ad C U U<|Xr C U U<|Rm C U U<|Rm C U U<|R.fixv (t:=155) (v':= .bool true) U (by rfl)<|Rm C U U<|R.int C U U U U b_lss<|R.fixv (t:=157) (v':= .bool false) U (by(refine congrArg Value.bool ?_;(try dsimp only);rw [dF];omega)) ?_;refine Rm C U U<|Rm C U U<|Rm C U U<|R.int C U U U U b_eql<|R.fixv (t:=161) (v':= .bool true) U (by(refine congrArg Value.bool ?_;simp)) ?_;refine R.pickF C U U U U<|R.pickT C U U U U<|Rm C U U<|R.callR C U U U U ((hoisted_c _ (he.mono k5))) fun v9 ro9 hl9 hq9=>R.pickT C U U U U<|Ad C U U<|X.ret0 C (by kernel_rfl) U U func10 U (by exact(.tmp U .nil)) fun w9 hs9=>hret _ _ _ (RO.le_trans k5 hl9) ?_ w9 hs9
       exact hq9
      ·have _:=hg2
       refine Rm C U U<|R.ext C U U U U<|R.ext C U U U U<|R.asg C U U U<|Ad C U U<|Xs C<|Xr C U U<|Rm C U U<|R.not C U U U<|R.fixv (t:=115) (v':= .bool false) U (by rfl)<|Rm C U U<|Rm C U U<|Rm C U U<|R.int C U U U U b_lss<|R.fixv (t:=119) (v':= .bool false) U (by(refine congrArg Value.bool ?_;(try dsimp only);rw [dF];omega)) ?_;refine R.pickF C U U U U<|Rm C U U<|Rm C U U<|Rm C U U<|R.int C U U U U b_eql<|R.fixv (t:=124) (v':= .bool true) U (by(refine congrArg Value.bool ?_;(try dsimp only);rw [beq_iff_eq];omega)) ?_;refine Rm C U U<|Rm C U U<|R.int C U U U U b_geq<|R.fixv (t:=127) (v':= .bool true) U (by(refine congrArg Value.bool ?_;(try dsimp only);rw [decide_eq_true_iff];omega)) ?_;refine R.pickT C U U U U<|Rm C U U<|Rm C U U<|Rm C U U<|R.int C U U U U b_lss<|R.fixv (t:=132) (v':= .bool false) U (by(refine congrArg Value.bool ?_;(try dsimp only);rw [dF];omega)) ?_;refine Rm C U U<|Rm C U U<|Rm C U U<|R.int C U U U U b_eql<|R.fixv (t:=136) (v':= .bool false) U (by(refine congrArg Value.bool ?_;(try dsimp only);rw [beq_eq_false_iff_ne];omega)) ?_;refine Rm C U U<|R.pass C U U<|R.pass C U U<|R.pass C U U<|R.pickF C U U U U<|R.pickF C U U U U<|R.pickT C U U U U<|R.pickF C U U U U<|R.done C<|X.cond C.1 U (fun h=>nomatch h) (fun _=>?_)
       refine X.skip C.1<|Xs C<|Xr C U U<|Rm C U U<|R.int C U U U U b_geq<|R.fixv (t:=146) (v':= .bool true) U (by(refine congrArg Value.bool ?_;(try dsimp only);rw [decide_eq_true_iff];omega)) ?_;refine R.done C<|X.cond C.1 U (fun _=>?_) (fun h=>nomatch h)
       refine X.region C U U<|R5 C U U isAgg27 sizeOf27 (by repeat constructor) Tk5<|Rm C U U<|Rm C U U<|R.callR C U U U U (leavesR_c hJ (he.mono k3) (hvv.mono k3) hch hn3 ⟨hs1,hs2⟩ ⟨hs3,hs4⟩) fun v5 ro5 hl5 hq5=>?_
       subst hq5
       have k5:=RO.le_trans k3 hl5
       refine Rm C U U<|R.ext C U U U U<|R.ext C U U U U<|R.asg C U U U<|Ad C U U<|Xr C U U<|Rm C U U<|Rm C U U<|R.fixv (t:=155) (v':= .bool true) U (by rfl)<|Rm C U U<|R.int C U U U U b_lss<|R.fixv (t:=157) (v':= .bool false) U (by(refine congrArg Value.bool ?_;(try dsimp only);rw [dF];omega)) ?_;refine Rm C U U<|Rm C U U<|Rm C U U<|R.int C U U U U b_eql<|R.fixv (t:=161) (v':= .bool true) U (by(refine congrArg Value.bool ?_;simp)) ?_;refine R.pickF C U U U U<|R.pickT C U U U U<|Rm C U U<|R.callR C U U U U ((hoisted_c _ (he.mono k5))) fun v9 ro9 hl9 hq9=>R.pickT C U U U U<|Ad C U U<|X.ret0 C (by kernel_rfl) U U func10 U (by exact(.tmp U .nil)) fun w9 hs9=>hret _ _ _ (RO.le_trans k5 hl9) ?_ w9 hs9
       exact hq9
     ·have _:=hq
      refine Rm C U U<|R.ext C U U U U<|R.ext C U U U U<|R.asg C U U U<|Ad C U U<|Xs C<|Xr C U U<|Rm C U U<|R.not C U U U<|R.fixv (t:=115) (v':= .bool false) U (by rfl)<|Rm C U U<|Rm C U U<|Rm C U U<|R.int C U U U U b_lss<|R.fixv (t:=119) (v':= .bool false) U (by(refine congrArg Value.bool ?_;(try dsimp only);rw [dF];omega)) ?_;refine R.pickF C U U U U<|Rm C U U<|Rm C U U<|Rm C U U<|R.int C U U U U b_eql<|R.fixv (t:=124) (v':= .bool false) U (by(refine congrArg Value.bool ?_;(try dsimp only);rw [beq_eq_false_iff_ne];omega)) ?_;refine Rm C U U<|R.pass C U U<|R.pass C U U<|R.pickF C U U U U<|Rm C U U<|R.pass C U U<|R.pass C U U<|R.pass C U U<|R.pass C U U<|R.pass C U U<|R.pass C U U<|R.pass C U U<|R.pass C U U<|R.pass C U U<|R.pass C U U<|R.pass C U U<|R.pass C U U<|R.pass C U U<|R.pickF C U U U U<|R.pickF C U U U U<|R.done C<|X.cond C.1 U (fun h=>nomatch h) (fun _=>?_)
      refine X.skip C.1<|Xs C<|Xr C U U<|Rm C U U<|R.int C U U U U b_geq<|R.fixv (t:=146) (v':= .bool true) U (by(refine congrArg Value.bool ?_;(try dsimp only);rw [decide_eq_true_iff];omega)) ?_;refine R.done C<|X.cond C.1 U (fun _=>?_) (fun h=>nomatch h)
      refine X.region C U U<|R5 C U U isAgg27 sizeOf27 (by repeat constructor) Tk5<|Rm C U U<|Rm C U U<|R.callR C U U U U (leavesR_c hJ (he.mono k3) (hvv.mono k3) hch hn3 ⟨hs1,hs2⟩ ⟨hs3,hs4⟩) fun v5 ro5 hl5 hq5=>?_
      subst hq5
      have k5:=RO.le_trans k3 hl5
      refine Rm C U U<|R.ext C U U U U<|R.ext C U U U U<|R.asg C U U U<|Ad C U U<|Xr C U U<|Rm C U U<|Rm C U U<|R.fixv (t:=155) (v':= .bool true) U (by rfl)<|Rm C U U<|R.int C U U U U b_lss<|R.fixv (t:=157) (v':= .bool false) U (by(refine congrArg Value.bool ?_;(try dsimp only);rw [dF];omega)) ?_;refine Rm C U U<|Rm C U U<|Rm C U U<|R.int C U U U U b_eql<|R.fixv (t:=161) (v':= .bool true) U (by(refine congrArg Value.bool ?_;simp)) ?_;refine R.pickF C U U U U<|R.pickT C U U U U<|Rm C U U<|R.callR C U U U U ((hoisted_c _ (he.mono k5))) fun v9 ro9 hl9 hq9=>R.pickT C U U U U<|Ad C U U<|X.ret0 C (by kernel_rfl) U U func10 U (by exact(.tmp U .nil)) fun w9 hs9=>hret _ _ _ (RO.le_trans k5 hl9) ?_ w9 hs9
      exact hq9
  ·have _:=hn3
   refine Xr C U U<|R.box C U U U U fun p3=>Ad C U U<|Xs C<|Xr C U U<|R5 C U U isAgg27 sizeOf27 (by repeat constructor) Tk5<|R.callP C U U U U (fitR_c hJ hvv)<|R.not C U U U<|R.fixv (t:=19) (v':= .bool false) U (by(refine congrArg Value.bool ?_;simp [hch])) ?_;refine Rm C U U<|Rf C 4 U U runUnderlying27 U sizeOf25<|Rl C U U isAgg25 (by repeat constructor) U<|Rn C U U runUnderlying25<|R.int C U U U U b_geq<|R.fixv (t:=24) (v':= .bool true) U (by(refine congrArg Value.bool ?_;(try dsimp only);rw [decide_eq_true_iff];omega)) ?_;refine R.pickF C U U U U<|R.done C<|X.cond C.1 U (fun _=>?_) (fun h=>nomatch h)
   refine Xr C U U<|R.callR C U U U U ((hoisted_c _ he)) fun v9 ro9 hl9 hq9=>Ad C U U<|X.ret0 C (by kernel_rfl) U U func10 U (by exact(.tmp U .nil)) fun w9 hs9=>hret _ _ _ hl9 ?_ w9 hs9
   exact hq9
 ·have _:=hch
  refine Xr C U U<|R.box C U U U U fun p3=>Ad C U U<|Xs C<|Xr C U U<|R5 C U U isAgg27 sizeOf27 (by repeat constructor) Tk5<|R.callP C U U U U (fitR_c hJ hvv)<|R.not C U U U<|R.fixv (t:=19) (v':= .bool true) U (by(refine congrArg Value.bool ?_;simp [hch])) ?_;refine Rm C U U<|R.pass C U U<|R.pass C U U<|R.pass C U U<|R.pass C U U<|R.pickT C U U U U<|R.done C<|X.cond C.1 U (fun _=>?_) (fun h=>nomatch h)
  refine Xr C U U<|R.callR C U U U U ((hoisted_c _ he)) fun v9 ro9 hl9 hq9=>Ad C U U<|X.ret0 C (by kernel_rfl) U U func10 U (by exact(.tmp U .nil)) fun w9 hs9=>hret _ _ _ hl9 ?_ w9 hs9
  exact hq9
end Go.Lg.B
namespace Go.Lg.B
open Go Go.Proofs Go.Proofs.YtchjgmkeemdhlaaGreatDoor Go.Proofs.Tryz
theorem asked_k1:(Rows.tackleAskedRow.inPlace==prog.inPlace 10)=true:=by kernel_rfl
theorem asked_k2:(Rows.tackleAskedRow.unfollowed==prog.unfollowed 10)=true:=by kernel_rfl
theorem asked_k3:(Rows.tackleAskedRow.recurses==prog.recurses 10)=true:=by kernel_rfl
theorem asked_k4:(Rows.tackleAskedRow.named==prog.varsNamed 10)=true:=by kernel_rfl
theorem asked_name:prog.funcNamed "lagan/laganlaw07.TackleAsked" =some 10:=by kernel_rfl
theorem asked_goes:true=Rows.tackleAskedRow.goesBy prog:=by kernel_rfl
theorem asked_wf:Rows.tackleAskedRow.wfByText (OpenSpec.ofChange Rows.tackleAskedSpec)=true:=by kernel_rfl
theorem asked_facts:joinedFacts prog 10 Tryz.f10 Rows.tackleAskedSpec Rows.tackleAskedRow=true:=by
 unfold joinedFacts
 exact(and_mk (and_mk (and_mk (and_mk (and_mk (and_mk (and_mk (and_mk (and_mk (and_mk (and_mk (and_mk (and_mk (and_mk (and_mk (and_mk (and_mk (and_mk (and_mk (and_mk (and_mk (and_mk (and_mk (and_mk (and_mk (and_mk (and_mk (and_mk (and_mk (and_mk (and_mk (by as_aux_lemma=>kernel_rfl)
  k_lo)
  k_mr)
  (by as_aux_lemma=>kernel_rfl))
  (by as_aux_lemma=>kernel_rfl))
  (by as_aux_lemma=>kernel_rfl))
  k_stops)
  (by as_aux_lemma=>kernel_rfl))
  k_knobs)
  asked_k1)
  asked_k2)
  asked_k3)
  asked_k4)
  (by as_aux_lemma=>kernel_rfl))
  (by as_aux_lemma=>kernel_rfl))
  (by as_aux_lemma=>kernel_rfl))
  (by as_aux_lemma=>kernel_rfl))
  (by as_aux_lemma=>kernel_rfl))
  (by as_aux_lemma=>kernel_rfl))
  (by as_aux_lemma=>kernel_rfl))
  (by as_aux_lemma=>kernel_rfl))
  (by as_aux_lemma=>kernel_rfl))
  (beq_iff_eq.2 k_pk.symm))
  (by as_aux_lemma=>kernel_rfl))
  k_heard)
  k_may)
  (beq_iff_eq.2 k_lift.symm))
  (beq_iff_eq.2 k_make))
  (by as_aux_lemma=>kernel_rfl))
  (by as_aux_lemma=>kernel_rfl))
  (by as_aux_lemma=>kernel_rfl))
  (by as_aux_lemma=>kernel_rfl))
end Go.Lg.B
namespace Go.Proofs.YtchjgmkeemdhlaaGreatDoor
open Go Go.Conc Go.Lg Go.Lg.B Go.ChangeShapes Go.RowKit Go.WideShapes
theorem asked_lifted(os:Os)(started:os.Started)(H:Type)(enc:TypeId×Value→H):
  ReturnsInLeavingWide {} Tryz.checked os 10 .any (fun w args=>(Rows.tackleAskedSpec.pre enc Tryz.prog Tryz.f10 [] false w args∧laidMetH Tryz.prog laid1 w)∧sizedMet enc Tryz.prog Tryz.f10 (OpenSpec.ofChange Rows.tackleAskedSpec) false w args)
   (Rows.tackleAskedSpec.post enc Tryz.prog Tryz.f10 false true false false):=by
 refine leaving_of_root (C:=Tryz.checked) (tb:=4) (X:=fun w _=>laidMetH Tryz.prog laid1 w) (fun _ _ _ hh h=>h.of_heap hh) own0 started Tryz.func10 laid0 (by
   intro t ht
   rw [Tryz.params10] at ht
   have hm:t∈ [27,5,5]:=ht
   have hall:([27,5,5].all fun u=>Tryz.prog.readableRec u && decide (u<Tryz.prog.types.size))=true:=by kernel_rfl
   have:=List.all_eq_true.1 hall t hm
   rw [Bool.and_eq_true,decide_eq_true_eq] at this
   exact this) rfl (by kernel_rfl) Tryz.underlying4
  (ChangeSpec.witness_shaped (enc:=enc) (C:=Tryz.checked) (os:=os) (X:=fun w _=>laidMetH Tryz.prog laid1 w) false (World.doorLaid Tryz.prog 89 os) #[.agg #[.int .i64 0, .slice none 0 0, .slice none 0 0, .slice none 0 0, .slice none 0 0], .int .u8 0, .int .u8 0] 8 rfl (door_shaped os _) (by kernel_rfl) (by kernel_rfl) (by kernel_rfl) (door_met os _)) ?_
 intro W base args ds gs before hval hW _ _ hL
 obtain⟨p,q,hA,hV,rfl,_,_⟩:=hW
 obtain⟨rfl,rfl⟩:=trodVars_none hV
 have hA:DataW.TrodAll enc Tryz.prog W 0 (fun _=>true) true Tryz.f10.params.toList args.toList ds p:=hA
 have hval:∀ (j:Nat) t v,Tryz.f10.params[j]? =some t→args[j]? =some v→Value.okWide Tryz.prog W .any base t v:=hval
 rw [Tryz.params10] at hA hval
 obtain⟨v1,l1,d1,k1,p1,q1,e1,rfl,rfl,h1,hA⟩:=trodAll_cons hA
 obtain⟨v2,l2,d2,k2,p2,q2,rfl,rfl,rfl,h2,hA⟩:=trodAll_cons hA
 obtain⟨v3,l3,d3,k3,p3,q3,rfl,rfl,rfl,h3,hA⟩:=trodAll_cons hA
 obtain⟨rfl,rfl,rfl⟩:=trodAll_nil hA
 have ea:args= #[v1,v2,v3]:=Array.toList_inj.1 e1
 subst ea
 obtain⟨b,b1⟩:=argBk (hval 0 27 v1 rfl rfl) h1
 obtain⟨g,rfl,o1⟩:=argU8 (hval 1 5 v2 rfl rfl) h2
 obtain⟨y,rfl,o2⟩:=argU8 (hval 2 5 v3 rfl rfl) h3
 exact⟨rfl,asked_root o1 o2 (env_of_laid hL) b1⟩
theorem asked_row:Rows.TackleAskedSaid:=
 OpenClaim.holds_of_wide_leaving 10 Tryz.f10 rfl rfl rfl rfl rfl rfl rfl ⟨rfl,rfl,rfl,rfl,rfl⟩ rfl rfl rfl rfl rfl asked_name Tryz.func10 asked_facts
  (of_decide_eq_true (by kernel_rfl)) (by unfold Func.isWrapper;first|(rw [if_pos (by decide+kernel)];kernel_rfl)|(rw [if_neg (by decide+kernel)];exact⟨rfl,rfl⟩))
  (fun os started H enc _=>asked_lifted os started H enc)
theorem asked_holds:Rows.TackleAskedCardSaid:=
 card_goes .later [.funcs] true (true, "6ec45924a9ef3528b91853e2f3d4ce9a8ac3f7423f5bdc8d9ecf7c969235976f") true
  asked_row asked_wf tackleAsked_row_tie rfl ⟨rfl,rfl⟩ k_main rfl
  (fun f fn hf hfn=>by
   obtain rfl:f=10:=Option.some.inj (asked_name.symm.trans hf)|>.symm
   obtain rfl:fn=Tryz.f10:=(Option.some.inj (Tryz.func10.symm.trans hfn)).symm
   exact⟨k_looks,fun j t ht=>by
    rw [Tryz.params10] at ht
    have hm:t∈ [27,5,5]:=by simpa using Array.mem_of_getElem? ht
    have hall:([27,5,5].all fun u=> !Tryz.prog.wantsStandIn u)=true:=by kernel_rfl
    exact(show Tryz.prog.wantsStandIn t=false by simpa using List.all_eq_true.1 hall t hm)⟩)
  asked_goes
end Go.Proofs.YtchjgmkeemdhlaaGreatDoor
