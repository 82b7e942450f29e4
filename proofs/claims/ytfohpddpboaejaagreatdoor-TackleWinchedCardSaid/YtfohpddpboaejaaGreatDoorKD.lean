/-
  Part 4 of what all proofs of this seat share: laws of the model that the walks use, and what functions of the program reckon. Conditions: the premises that each theorem states.
-/
import Derived.Test.YtfohpddpboaejaaGreatDoorKC
import Derived.Sort.LotD5
import Derived.Laws.Bits64
import Derived.Laws.Bits64b
import Derived.Sort.Walk13a
set_option maxRecDepth 100000
set_option maxHeartbeats 400000
set_option linter.all false
set_option linter.unusedVariables false
set_option linter.unusedSimpArgs false
set_option linter.unusedSectionVars false
namespace Go.Lg
open Go Go.Conc
theorem X.loopB{P:Program}{main:Bool}{J:Goroutine→Mem→Prop}{b:Frame}{cs:List Frame}{n:Nat}{ds:List Deferred}{σ:Slots}{M:Mem}{k:List Item}{id:Nat}{ι:Type}{c:Code}(hJ:Closed P main J)(Inv:ι→Prop)(σf:ι→Slots)(Mf:ι→Mem)(μ:ι→Nat)(i₀:ι)(E:ι→Prop)(h0:Inv i₀)(hM:M=Mf i₀)(hs:keeps σ (σf i₀))
  (hexit:∀i,E i→X J b cs n k ds (σf i) (Mf i))
  (step:∀i,Inv i→(∀j,Inv j→μ j<μ i→X J b cs n (.inLoop c:: .inBlock id::k) ds (σf j) (Mf j))→(∀j,E j→X J b cs n k ds (σf j) (Mf j))→X J b cs n (.code c:: .inLoop c:: .inBlock id::k) ds (σf i) (Mf i)):X J b cs n (.code (.loop c):: .inBlock id::k) ds σ M:=
 X.loopI hJ Inv σf Mf μ i₀ h0 hM hs fun i hi hn=>step i hi hn hexit
end Go.Lg
namespace Go.Lg.B
open Go Go.Conc Go.Lg Go.Proofs Go.Proofs.Tryz
open Go.Sort (ltInt swp scanUp scanDown partLoop partEqLoop partition partitionEqual)
variable {p:Int→Bool}{d d1:Array Int}{a b cap i j pv:Nat}{sp:List Value}{ro:RO}
theorem scanUp_go(h:i≤j)(hp:p d[i]! =true):scanUp p d j i=scanUp p d j (i+1):=by rw [scanUp,if_pos (by simp [h,hp])]
theorem scanUp_stop(h:j<i∨p d[i]! =false):scanUp p d j i=i:=by
 rw [scanUp,if_neg]
 rcases h with h|h
 ·simp;omega
 ·simp [h]
theorem scanDown_go(h:i≤j)(hj:0<j)(hp:p d[j]! =true):scanDown p d i j=scanDown p d i (j-1):=by
 obtain⟨j,rfl⟩:∃k,j=k+1:=⟨j-1,O⟩
 rw [scanDown,if_pos (by simp [h,hp])];rfl
theorem scanDown_stop(h:j<i∨p d[j]! =false):scanDown p d i j=j:=by
 cases j with
 |zero=>rfl
 |succ j=>
  rw [scanDown,if_neg]
  rcases h with h|h
  ·simp;omega
  ·simp [h]
theorem swp_sz:(swp d i j).size=d.size:=by simp [swp]
theorem part_now(h1:d1=swp d a pv)(hi:i=scanUp (fun x=>ltInt x d1[a]!) d1 (b-1) (a+1))(hj:j=scanDown (fun x=> !ltInt x d1[a]!) d1 i (b-1))(h:j<i):partition ltInt d a b pv=(j,true,swp d1 j a):=by
 subst h1;subst hi;subst hj
 unfold partition
 simp only
 rw [if_pos h]
theorem part_later(h1:d1=swp d a pv)(hi:i=scanUp (fun x=>ltInt x d1[a]!) d1 (b-1) (a+1))(hj:j=scanDown (fun x=> !ltInt x d1[a]!) d1 i (b-1))(h:¬j<i):partition ltInt d a b pv=((partLoop ltInt a (i+1) (j-1) (swp d1 i j)).1,false,swp (partLoop ltInt a (i+1) (j-1) (swp d1 i j)).2 (partLoop ltInt a (i+1) (j-1) (swp d1 i j)).1 a):=by
 subst h1;subst hi;subst hj
 unfold partition
 simp only
 rw [if_neg h]
theorem scan_ne{q:Int→Bool}(hq:∀x,q x= !p x){i0 j0:Nat}(hi:i=scanUp p d j0 i0)(hj:j=scanDown q d i j0)(h:i≤j)(h0:0<j):i<j:=by
 refine Nat.lt_of_le_of_ne h fun e=>?_
 have h1:=(Go.Sort.scanUp_spec p d j0 _ i0 rfl).2.2.2
 have h2:=Go.Sort.scanDown_spec q d i j0
 rw [←hi] at h1
 rw [←hj] at h2
 have h3:=h1 O
 have h4:=h2.2.2.2 h h0
 rw [hq, ←e,h3] at h4
 cases h4
variable {main:Bool}{J:Goroutine→Mem→Prop}(hJ:Closed prog main J)
include hJ
theorem partition_c{p:Nat}(hn:d.size≤1000000000)(hp1:a≤pv)(hp2:pv<b)(hb:b≤d.size):CallS J 245 p sp d cap [.int .i64 (a:Int), .int .i64 (b:Int), .int .i64 (pv:Int)] ro (.tuple [.int .i64 ((partition ltInt d a b pv).1:Int), .bool (partition ltInt d a b pv).2.1].toArray) (partition ltInt d a b pv).2.2:=by
 refine CallS.intro hJ Kr fun c cs tail hret=>?_
 let J:=J
 refine enter_X (n:=168) func245 U U (Nl U) ?_
 have C:Ctx prog main J (bf 245 .normal):=⟨hJ,by decide⟩
 refine Xu W<|Rg Y<|Ae W<|Xv<|Xf fun hok=>Dt 0 Y<|Dt 1 Y<|Dt 2 Y<|Dt 3 Y<|Dt 4 Y<|Dt 5 Y<|Dw 6 Y A58 B3<|Db 7 W G3 V (vals_at (k:=pv) O O)<|Dt 8 Y<|Dt 9 Y<|Dw 10 Y A58 B3<|Db 11 W G3 V (vals_at (k:=a) O O)<|Dw 12 Y A58 B3<|De 13 none [false,false] hok (fun _ _ A hk=>?_)
 refine R.store C U (A.w U U) (A.x U U) (A.x U U) B3 U U U V (vals_put (k:=a) O O) (hk undef _ ⟨QFs.nil, ?_⟩)
 refine Dw 14 Y A58 B3<|De 15 none [] hok (fun _ _ A hk=>?_)
 refine R.store C U (A.w U U) (A.x U U) (A.x U U) B3 U U U V (vals_put (k:=pv) O Zo) (hk undef _ ⟨QFs.nil, ?_⟩)
 refine Dn<|Xu W ?_
 obtain⟨d1,hd1e⟩:∃d1,d1=swp d a pv:=⟨_,rfl⟩
 have hd1:d1.size=d.size:=by rw [hd1e,swp_sz]
 have hd1v:(d.setIfInBounds a d[pv]!).setIfInBounds pv d[a]! =d1:=hd1e.symm
 rw [hd1v]
 refine Ro W<|Rb Y<|R.fixv (t:=27) (v':= .int .i64 ((a+1:Nat):Int)) U (by rfl)<|Ro W<|Ri Z (b_sub O O)<|R.fixv (t:=29) (v':= .int .i64 ((b-1:Nat):Int)) U (by(congr 1;omega))<|Rg Y<|Ae W<|Xv<|Xb<|X.loopB (ι:=Nat) C.1 (fun i=>a<i∧i≤(b-1)+1∧(a+1)≤i∧scanUp (fun x=>ltInt x d1[a]!) d1 (b-1) i=scanUp (fun x=>ltInt x d1[a]!) d1 (b-1) (a+1)) (fun i=> [(0, .slice (some ⟨p,0,none⟩) d.size cap),(1, .int .i64 (a:Int)),(10, .int .i64 ((i:Nat):Int)),(11, .int .i64 (((b-1):Nat):Int))])
  (fun _=>⟨ro,(p, .cells (vals d1++sp).toArray 3 (0,0))::tail⟩) (fun i=>(b-1)+1-i) ((a+1)) (fun i=>a<i∧i≤(b-1)+1∧(a+1)≤i∧i=scanUp (fun x=>ltInt x d1[a]!) d1 (b-1) (a+1)) ⟨O,O,O,rfl⟩ rfl ⟨U,U,U,U,trivial⟩ (fun i1 hi1=>?_) fun i1 hi1 hnx hex=>?_
 ·obtain⟨i1a,i1b,i1c,i1d⟩:=hi1
  refine Xv<|Xb<|X.loopB (ι:=Nat) C.1 (fun j=>j<b∧i1≤j+1∧j≤(b-1)∧scanDown (fun x=> !ltInt x d1[a]!) d1 i1 j=scanDown (fun x=> !ltInt x d1[a]!) d1 i1 (b-1)) (fun j=> [(0, .slice (some ⟨p,0,none⟩) d.size cap),(1, .int .i64 (a:Int)),(10, .int .i64 ((i1:Nat):Int)),(11, .int .i64 ((j:Nat):Int))])
   (fun _=>⟨ro,(p, .cells (vals d1++sp).toArray 3 (0,0))::tail⟩) (fun j=>j) ((b-1)) (fun j=>j<b∧i1≤j+1∧j≤(b-1)∧j=scanDown (fun x=> !ltInt x d1[a]!) d1 i1 (b-1)) ⟨O,O,O,rfl⟩ rfl ⟨U,U,U,U,trivial⟩ (fun j2 hj2=>?_) fun j2 hj2 hnx hex=>?_
  ·obtain⟨j2a,j2b,j2c,j2d⟩:=hj2
   refine Xx W<|Oo W W<|Ri Z b_gtr<|Zj U (fun hgt=>?_) (fun hgt=>?_)
   ·rw [part_now hd1e i1d j2d O] at hret
    refine Xv<|Xf fun hok=>Dt 0 Y<|Dt 1 Y<|Dt 2 Y<|Dt 3 Y<|Dt 4 Y<|Dt 5 Y<|Dw 6 Y A58 B3<|Db 7 W G3 V (vals_at (k:=a) O O)<|Dt 8 Y<|Dt 9 Y<|Dw 10 Y A58 B3<|Db 11 W G3 V (vals_at (k:=j2) O O)<|Dw 12 Y A58 B3<|De 13 none [false,false] hok (fun _ _ A hk=>?_)
    refine R.store C U (A.w U U) (A.x U U) (A.x U U) B3 U U U V (vals_put (k:=j2) O O) (hk undef _ ⟨QFs.nil, ?_⟩)
    refine Dw 14 Y A58 B3<|De 15 none [] hok (fun _ _ A hk=>?_)
    refine R.store C U (A.w U U) (A.x U U) (A.x U U) B3 U U U V (vals_put (k:=a) O Zo) (hk undef _ ⟨QFs.nil, ?_⟩)
    refine Dn<|Xm W W<|Rg Y<|Ae W<|X.ret C U U func245 U (by exact .tmp U (.tmp U .nil)) ?_
    exact hret _ _ rfl rfl
   ·have hne:=scan_ne (fun _=>rfl) i1d j2d O O
    rw [part_later hd1e i1d j2d O] at hret
    refine Xz<|Xv<|Xf fun hok=>Dt 0 Y<|Dt 1 Y<|Dt 2 Y<|Dt 3 Y<|Dt 4 Y<|Dt 5 Y<|Dw 6 Y A58 B3<|Db 7 W G3 V (vals_at (k:=j2) O O)<|Dt 8 Y<|Dt 9 Y<|Dw 10 Y A58 B3<|Db 11 W G3 V (vals_at (k:=i1) O O)<|Dw 12 Y A58 B3<|De 13 none [false,false] hok (fun _ _ A hk=>?_)
    refine R.store C U (A.w U U) (A.x U U) (A.x U U) B3 U U U V (vals_put (k:=i1) O O) (hk undef _ ⟨QFs.nil, ?_⟩)
    refine Dw 14 Y A58 B3<|De 15 none [] hok (fun _ _ A hk=>?_)
    refine R.store C U (A.w U U) (A.x U U) (A.x U U) B3 U U U V (vals_put (k:=j2) O Zo) (hk undef _ ⟨QFs.nil, ?_⟩)
    refine Dn<|Xm W W<|Rb Y<|R.fixv (t:=96) (v':= .int .i64 ((i1+1:Nat):Int)) U (by rfl)<|Ae W<|Xm W W<|Ri Z (b_sub O O)<|R.fixv (t:=98) (v':= .int .i64 ((j2-1:Nat):Int)) U (by(congr 1;omega))<|Ae W<|Xv<|Xb<|X.loopB (ι:=Nat×Nat×Array Int) C.1 (fun s=>a<s.1∧s.1≤s.2.1+1∧s.2.1<b∧s.2.2.size=d.size∧partLoop ltInt a s.1 s.2.1 s.2.2=partLoop ltInt a (i1+1) (j2-1) (swp d1 i1 j2)) (fun s=> [(0, .slice (some ⟨p,0,none⟩) d.size cap),(1, .int .i64 (a:Int)),(10, .int .i64 ((s.1:Nat):Int)),(11, .int .i64 ((s.2.1:Nat):Int))])
     (fun s=>⟨ro,(p, .cells (vals s.2.2++sp).toArray 3 (0,0))::tail⟩) (fun s=>s.2.1+1-s.1) (i1+1,j2-1,swp d1 i1 j2) (fun s=>s.2.1<b∧s.2.2.size=d.size∧a≤s.2.1∧partLoop ltInt a (i1+1) (j2-1) (swp d1 i1 j2)=(s.2.1,s.2.2)) ⟨by show a<i1+1;omega,by show i1+1≤j2-1+1;omega,by show j2-1<b;omega,by rw [swp_sz];exact hd1,rfl⟩ rfl ⟨U,U,U,U,trivial⟩ (fun s hs=>?_) fun s hs hnxM hexM=>?_
    ·obtain⟨i3,j3,d2⟩:=s
     obtain⟨h1,h2,h4,h3⟩:=hs
     simp only at h1 h2 h3 h4⊢
     rw [h3] at hret
     refine Xv<|Xf fun hok=>Dt 0 Y<|Dt 1 Y<|Dt 2 Y<|Dt 3 Y<|Dt 4 Y<|Dt 5 Y<|Dw 6 Y A58 B3<|Db 7 W G3 V (vals_at (k:=a) O O)<|Dt 8 Y<|Dt 9 Y<|Dw 10 Y A58 B3<|Db 11 W G3 V (vals_at (k:=j3) O O)<|Dw 12 Y A58 B3<|De 13 none [false,false] hok (fun _ _ A hk=>?_)
     refine R.store C U (A.w U U) (A.x U U) (A.x U U) B3 U U U V (vals_put (k:=j3) O O) (hk undef _ ⟨QFs.nil, ?_⟩)
     refine Dw 14 Y A58 B3<|De 15 none [] hok (fun _ _ A hk=>?_)
     refine R.store C U (A.w U U) (A.x U U) (A.x U U) B3 U U U V (vals_put (k:=a) O Zo) (hk undef _ ⟨QFs.nil, ?_⟩)
     refine Dn<|Xm W W<|Rg Y<|Ae W<|X.ret C U U func245 U (by exact .tmp U (.tmp U .nil)) ?_
     exact hret _ _ rfl rfl
    ·obtain⟨i3,j3,d2⟩:=s
     obtain⟨h1,h3,h4,h2,h5⟩:=hs
     simp only at h1 h2 h3 h4 h5 hnxM hexM⊢
     refine Xb<|Xv<|Xb<|X.loopB (ι:=Nat) C.1 (fun i=>a<i∧i≤j3+1∧i3≤i∧scanUp (fun x=>ltInt x d2[a]!) d2 j3 i=scanUp (fun x=>ltInt x d2[a]!) d2 j3 i3) (fun i=> [(0, .slice (some ⟨p,0,none⟩) d.size cap),(1, .int .i64 (a:Int)),(10, .int .i64 ((i:Nat):Int)),(11, .int .i64 ((j3:Nat):Int))])
      (fun _=>⟨ro,(p, .cells (vals d2++sp).toArray 3 (0,0))::tail⟩) (fun i=>j3+1-i) (i3) (fun i=>a<i∧i≤j3+1∧i3≤i∧i=scanUp (fun x=>ltInt x d2[a]!) d2 j3 i3) ⟨O,O,O,rfl⟩ rfl ⟨U,U,U,U,trivial⟩ (fun i4 hi4=>?_) fun i4 hi4 hnx hex=>?_
     ·obtain⟨i4a,i4b,i4c,i4d⟩:=hi4
      refine Xv<|Xb<|X.loopB (ι:=Nat) C.1 (fun j=>j<b∧i4≤j+1∧j≤j3∧scanDown (fun x=> !ltInt x d2[a]!) d2 i4 j=scanDown (fun x=> !ltInt x d2[a]!) d2 i4 j3) (fun j=> [(0, .slice (some ⟨p,0,none⟩) d.size cap),(1, .int .i64 (a:Int)),(10, .int .i64 ((i4:Nat):Int)),(11, .int .i64 ((j:Nat):Int))])
       (fun _=>⟨ro,(p, .cells (vals d2++sp).toArray 3 (0,0))::tail⟩) (fun j=>j) (j3) (fun j=>j<b∧i4≤j+1∧j≤j3∧j=scanDown (fun x=> !ltInt x d2[a]!) d2 i4 j3) ⟨O,O,O,rfl⟩ rfl ⟨U,U,U,U,trivial⟩ (fun j5 hj5=>?_) fun j5 hj5 hnx hex=>?_
      ·obtain⟨j5a,j5b,j5c,j5d⟩:=hj5
       refine Xx W<|Oo W W<|Ri Z b_gtr<|Zj U (fun hgt=>?_) (fun hgt=>?_)
       ·refine Xe U<|X.weaken ?_ (hexM (i4,j5,d2) ⟨by show j5<b;omega,h2,by show a≤j5;omega,by rw [←h5,Go.Sort.partLoop_eq, ←i4d, ←j5d,if_pos O]⟩)
        exact⟨U,U,U,U,trivial⟩
       ·have hne:=scan_ne (fun _=>rfl) i4d j5d O O
        refine Xz<|Xv<|Xf fun hok=>Dt 0 Y<|Dt 1 Y<|Dt 2 Y<|Dt 3 Y<|Dt 4 Y<|Dt 5 Y<|Dw 6 Y A58 B3<|Db 7 W G3 V (vals_at (k:=j5) O O)<|Dt 8 Y<|Dt 9 Y<|Dw 10 Y A58 B3<|Db 11 W G3 V (vals_at (k:=i4) O O)<|Dw 12 Y A58 B3<|De 13 none [false,false] hok (fun _ _ A hk=>?_)
        refine R.store C U (A.w U U) (A.x U U) (A.x U U) B3 U U U V (vals_put (k:=i4) O O) (hk undef _ ⟨QFs.nil, ?_⟩)
        refine Dw 14 Y A58 B3<|De 15 none [] hok (fun _ _ A hk=>?_)
        refine R.store C U (A.w U U) (A.x U U) (A.x U U) B3 U U U V (vals_put (k:=j5) O Zo) (hk undef _ ⟨QFs.nil, ?_⟩)
        refine Dn<|Xm W W<|Rb Y<|Ae W<|Xg W<|Ro W<|Ri Z (b_sub O O)<|Ae W<|Xi<|X.weaken ?_ (hnxM (i4+1,j5-1,swp d2 i4 j5) ⟨by show a<i4+1;omega,by show i4+1≤j5-1+1;omega,by show j5-1<b;omega,by rw [swp_sz];exact h2,by rw [←h5,Go.Sort.partLoop_eq (d:=d2), ←i4d, ←j5d,if_neg O]⟩ (by show j5-1+1- (i4+1)<j3+1-i3;omega))
        exact⟨rfl,rfl,by simp [look],congrArg (fun z=>some (Value.int .i64 z)) (by show(j5:Int) -1=((j5-1:Nat):Int);omega),trivial⟩
      ·obtain⟨j5a,j5b,j5c,j5d⟩:=hj5
       refine Xv<|Xv<|Xf fun hok=>Dt 0 Y<|Dt 1 Y<|Dj 2 Y5 b_leq<|Dt 3 Y<|D.fix (t:=118) U (fun hg=>?_) (fun hg=>?_)
       ·simp only [dT] at hg
        refine Dt 4 Y<|Dt 5 Y<|Dw 6 Y A58 B3<|Db 7 W G3 V (vals_at (k:=j5) O O)<|Dt 8 Y<|Dt 9 Y<|Dw 10 Y A58 B3<|Db 11 W G3 V (vals_at (k:=a) O O)<|De 12 (some 127) [false,false] hok (fun _ _ A hk=>?_)
        refine R.callP C U (A.w U U) (A.x U U) (A.s U U) (less_c hJ _ _ _) (hk _ _ ⟨QFs.nil, ?_⟩)
        refine Dp 13 hok (fun _ _ _ A h=>R.not C U (A.w U U) (A.x U U) h)<|Dp 14 hok (fun _ _ _ A h=>R.pickT C U (A.w U U) (A.x U U) (A.x U U) h)<|Dn<|Xc U (fun hl=>?_) (fun hl=>?_)
        ·refine Xz<|Xb<|Xg W<|Ro W<|Ri Z (b_sub O O)<|Ae W<|Xi<|X.weaken ?_ (hnx (j5-1) ⟨O,O,O, ?_⟩ O)
         ·exact⟨rfl,rfl,rfl,congrArg (fun z=>some (Value.int .i64 z)) O,trivial⟩
         ·exact(scanDown_go (p:=(fun x=> !ltInt x d2[a]!)) O O hl).symm.trans j5d
        ·refine Xe U<|X.weaken ?_ (hex j5 ⟨O,O,O,(scanDown_stop (p:=(fun x=> !ltInt x d2[a]!)) (.inr hl)).symm.trans j5d⟩)
         exact⟨U,U,U,U,trivial⟩
       ·simp only [dF] at hg
        refine Dr 4 U<|Dr 5 U<|Dr 6 U<|Dr 7 U<|Dr 8 U<|Dr 9 U<|Dr 10 U<|Dr 11 U<|Dr 12 U<|Dr 13 U<|Dp 14 hok (fun _ _ _ A h=>R.pickF C U (A.w U U) (A.x U U) (A.x U U) h)<|Dn<|Xc U (fun h=>nomatch h) (fun _=>?_)
        refine Xe U<|X.weaken ?_ (hex j5 ⟨O,O,O,(scanDown_stop (p:=(fun x=> !ltInt x d2[a]!)) (.inl O)).symm.trans j5d⟩)
        exact⟨U,U,U,U,trivial⟩
     ·obtain⟨i4a,i4b,i4c,i4d⟩:=hi4
      refine Xv<|Xv<|Xf fun hok=>Dt 0 Y<|Dt 1 Y<|Dj 2 Y5 b_leq<|Dt 3 Y<|D.fix (t:=102) U (fun hg=>?_) (fun hg=>?_)
      ·simp only [dT] at hg
       refine Dt 4 Y<|Dt 5 Y<|Dw 6 Y A58 B3<|Db 7 W G3 V (vals_at (k:=i4) O O)<|Dt 8 Y<|Dt 9 Y<|Dw 10 Y A58 B3<|Db 11 W G3 V (vals_at (k:=a) O O)<|De 12 (some 111) [false,false] hok (fun _ _ A hk=>?_)
       refine R.callP C U (A.w U U) (A.x U U) (A.s U U) (less_c hJ _ _ _) (hk _ _ ⟨QFs.nil, ?_⟩)
       refine Dp 13 hok (fun _ _ _ A h=>R.pickT C U (A.w U U) (A.x U U) (A.x U U) h)<|Dn<|Xc U (fun hl=>?_) (fun hl=>?_)
       ·refine Xz<|Xb<|Xg W<|Ro W<|Rb Y<|Ae W<|Xi<|X.weaken ?_ (hnx (i4+1) ⟨O,O,O, ?_⟩ O)
        ·exact⟨rfl,rfl,by simp [look],rfl,trivial⟩
        ·exact(scanUp_go (p:=(fun x=>ltInt x d2[a]!)) O hl).symm.trans i4d
       ·refine Xe U<|X.weaken ?_ (hex i4 ⟨O,O,O,(scanUp_stop (p:=(fun x=>ltInt x d2[a]!)) (.inr hl)).symm.trans i4d⟩)
        exact⟨U,U,U,U,trivial⟩
      ·simp only [dF] at hg
       refine Dr 4 U<|Dr 5 U<|Dr 6 U<|Dr 7 U<|Dr 8 U<|Dr 9 U<|Dr 10 U<|Dr 11 U<|Dr 12 U<|Dp 13 hok (fun _ _ _ A h=>R.pickF C U (A.w U U) (A.x U U) (A.x U U) h)<|Dn<|Xc U (fun h=>nomatch h) (fun _=>?_)
       refine Xe U<|X.weaken ?_ (hex i4 ⟨O,O,O,(scanUp_stop (p:=(fun x=>ltInt x d2[a]!)) (.inl O)).symm.trans i4d⟩)
       exact⟨U,U,U,U,trivial⟩
  ·obtain⟨j2a,j2b,j2c,j2d⟩:=hj2
   refine Xv<|Xv<|Xf fun hok=>Dt 0 Y<|Dt 1 Y<|Dj 2 Y5 b_leq<|Dt 3 Y<|D.fix (t:=49) U (fun hg=>?_) (fun hg=>?_)
   ·simp only [dT] at hg
    refine Dt 4 Y<|Dt 5 Y<|Dw 6 Y A58 B3<|Db 7 W G3 V (vals_at (k:=j2) O O)<|Dt 8 Y<|Dt 9 Y<|Dw 10 Y A58 B3<|Db 11 W G3 V (vals_at (k:=a) O O)<|De 12 (some 58) [false,false] hok (fun _ _ A hk=>?_)
    refine R.callP C U (A.w U U) (A.x U U) (A.s U U) (less_c hJ _ _ _) (hk _ _ ⟨QFs.nil, ?_⟩)
    refine Dp 13 hok (fun _ _ _ A h=>R.not C U (A.w U U) (A.x U U) h)<|Dp 14 hok (fun _ _ _ A h=>R.pickT C U (A.w U U) (A.x U U) (A.x U U) h)<|Dn<|Xc U (fun hl=>?_) (fun hl=>?_)
    ·refine Xz<|Xb<|Xg W<|Ro W<|Ri Z (b_sub O O)<|Ae W<|Xi<|X.weaken ?_ (hnx (j2-1) ⟨O,O,O, ?_⟩ O)
     ·exact⟨rfl,rfl,rfl,congrArg (fun z=>some (Value.int .i64 z)) O,trivial⟩
     ·exact(scanDown_go (p:=(fun x=> !ltInt x d1[a]!)) O O hl).symm.trans j2d
    ·refine Xe U<|X.weaken ?_ (hex j2 ⟨O,O,O,(scanDown_stop (p:=(fun x=> !ltInt x d1[a]!)) (.inr hl)).symm.trans j2d⟩)
     exact⟨U,U,U,U,trivial⟩
   ·simp only [dF] at hg
    refine Dr 4 U<|Dr 5 U<|Dr 6 U<|Dr 7 U<|Dr 8 U<|Dr 9 U<|Dr 10 U<|Dr 11 U<|Dr 12 U<|Dr 13 U<|Dp 14 hok (fun _ _ _ A h=>R.pickF C U (A.w U U) (A.x U U) (A.x U U) h)<|Dn<|Xc U (fun h=>nomatch h) (fun _=>?_)
    refine Xe U<|X.weaken ?_ (hex j2 ⟨O,O,O,(scanDown_stop (p:=(fun x=> !ltInt x d1[a]!)) (.inl O)).symm.trans j2d⟩)
    exact⟨U,U,U,U,trivial⟩
 ·obtain⟨i1a,i1b,i1c,i1d⟩:=hi1
  refine Xv<|Xv<|Xf fun hok=>Dt 0 Y<|Dt 1 Y<|Dj 2 Y5 b_leq<|Dt 3 Y<|D.fix (t:=33) U (fun hg=>?_) (fun hg=>?_)
  ·simp only [dT] at hg
   refine Dt 4 Y<|Dt 5 Y<|Dw 6 Y A58 B3<|Db 7 W G3 V (vals_at (k:=i1) O O)<|Dt 8 Y<|Dt 9 Y<|Dw 10 Y A58 B3<|Db 11 W G3 V (vals_at (k:=a) O O)<|De 12 (some 42) [false,false] hok (fun _ _ A hk=>?_)
   refine R.callP C U (A.w U U) (A.x U U) (A.s U U) (less_c hJ _ _ _) (hk _ _ ⟨QFs.nil, ?_⟩)
   refine Dp 13 hok (fun _ _ _ A h=>R.pickT C U (A.w U U) (A.x U U) (A.x U U) h)<|Dn<|Xc U (fun hl=>?_) (fun hl=>?_)
   ·refine Xz<|Xb<|Xg W<|Ro W<|Rb Y<|Ae W<|Xi<|X.weaken ?_ (hnx (i1+1) ⟨O,O,O, ?_⟩ O)
    ·exact⟨rfl,rfl,by simp [look],rfl,trivial⟩
    ·exact(scanUp_go (p:=(fun x=>ltInt x d1[a]!)) O hl).symm.trans i1d
   ·refine Xe U<|X.weaken ?_ (hex i1 ⟨O,O,O,(scanUp_stop (p:=(fun x=>ltInt x d1[a]!)) (.inr hl)).symm.trans i1d⟩)
    exact⟨U,U,U,U,trivial⟩
  ·simp only [dF] at hg
   refine Dr 4 U<|Dr 5 U<|Dr 6 U<|Dr 7 U<|Dr 8 U<|Dr 9 U<|Dr 10 U<|Dr 11 U<|Dr 12 U<|Dp 13 hok (fun _ _ _ A h=>R.pickF C U (A.w U U) (A.x U U) (A.x U U) h)<|Dn<|Xc U (fun h=>nomatch h) (fun _=>?_)
   refine Xe U<|X.weaken ?_ (hex i1 ⟨O,O,O,(scanUp_stop (p:=(fun x=>ltInt x d1[a]!)) (.inl O)).symm.trans i1d⟩)
   exact⟨U,U,U,U,trivial⟩
theorem partitionEqual_c{p:Nat}(hn:d.size≤1000000000)(hp1:a≤pv)(hp2:pv<b)(hb:b≤d.size):CallS J 244 p sp d cap [.int .i64 (a:Int), .int .i64 (b:Int), .int .i64 (pv:Int)] ro (.int .i64 ((partitionEqual ltInt d a b pv).1:Int)) (partitionEqual ltInt d a b pv).2:=by
 refine CallS.intro hJ Kr fun c cs tail hret=>?_
 let J:=J
 refine enter_X (n:=84) func244 U U (Nl U) ?_
 have C:Ctx prog main J (bf 244 .normal):=⟨hJ,by decide⟩
 refine Xo W W<|Xv<|Xf fun hok=>Dt 0 Y<|Dt 1 Y<|Dt 2 Y<|Dt 3 Y<|Dt 4 Y<|Dt 5 Y<|Dw 6 Y A58 B3<|Db 7 W G3 V (vals_at (k:=pv) O O)<|Dt 8 Y<|Dt 9 Y<|Dw 10 Y A58 B3<|Db 11 W G3 V (vals_at (k:=a) O O)<|Dw 12 Y A58 B3<|De 13 none [false,false] hok (fun _ _ A hk=>?_)
 refine R.store C U (A.w U U) (A.x U U) (A.x U U) B3 U U U V (vals_put (k:=a) O O) (hk undef _ ⟨QFs.nil, ?_⟩)
 refine Dw 14 Y A58 B3<|De 15 none [] hok (fun _ _ A hk=>?_)
 refine R.store C U (A.w U U) (A.x U U) (A.x U U) B3 U U U V (vals_put (k:=pv) O Zo) (hk undef _ ⟨QFs.nil, ?_⟩)
 refine Dn<|Xu W ?_
 have hdef:partitionEqual ltInt d a b pv=partEqLoop ltInt a (a+1) (b-1) (swp d a pv):=rfl
 rw [hdef] at hret
 obtain⟨d1,hd1e⟩:∃d1,d1=swp d a pv:=⟨_,rfl⟩
 have hd1:d1.size=d.size:=by rw [hd1e,swp_sz]
 have hd1v:(d.setIfInBounds a d[pv]!).setIfInBounds pv d[a]! =d1:=hd1e.symm
 rw [hd1v]
 rw [←hd1e] at hret
 refine Ro W<|Rb Y<|R.fixv (t:=26) (v':= .int .i64 ((a+1:Nat):Int)) U (by rfl)<|Ro W<|Ri Z (b_sub O O)<|R.fixv (t:=28) (v':= .int .i64 ((b-1:Nat):Int)) U (by(congr 1;omega))<|Rg Y<|Ae W<|Xv<|Xb<|X.loopB (ι:=Nat×Nat×Array Int) C.1 (fun s=>a<s.1∧s.1≤s.2.1+1∧s.2.1<b∧s.2.2.size=d.size∧partEqLoop ltInt a s.1 s.2.1 s.2.2=partEqLoop ltInt a (a+1) (b-1) d1) (fun s=> [(0, .slice (some ⟨p,0,none⟩) d.size cap),(1, .int .i64 (a:Int)),(9, .int .i64 ((s.1:Nat):Int)),(10, .int .i64 ((s.2.1:Nat):Int))])
  (fun s=>⟨ro,(p, .cells (vals s.2.2++sp).toArray 3 (0,0))::tail⟩) (fun s=>s.2.1+1-s.1) (a+1,b-1,d1) (fun s=>s.2.2.size=d.size∧s.1≤d.size∧partEqLoop ltInt a (a+1) (b-1) d1=(s.1,s.2.2)) ⟨by show a<a+1;omega,by show a+1≤b-1+1;omega,by show b-1<b;omega,hd1,rfl⟩ rfl ⟨U,U,U,U,trivial⟩ (fun s hs=>?_) fun s hs hnxM hexM=>?_
 ·obtain⟨i3,j3,d2⟩:=s
  obtain⟨h1,h2,h3⟩:=hs
  simp only at h1 h2 h3⊢
  rw [h3] at hret
  refine Xm W W<|Ae W<|X.ret C U U func244 U (by exact .tmp U .nil) ?_
  exact hret _ _ rfl rfl
 ·obtain⟨i3,j3,d2⟩:=s
  obtain⟨h1,h3,h4,h2,h5⟩:=hs
  simp only at h1 h2 h3 h4 h5 hnxM hexM⊢
  refine Xb<|Xv<|Xb<|X.loopB (ι:=Nat) C.1 (fun i=>a<i∧i≤j3+1∧i3≤i∧scanUp (fun x=> !ltInt d2[a]! x) d2 j3 i=scanUp (fun x=> !ltInt d2[a]! x) d2 j3 i3) (fun i=> [(0, .slice (some ⟨p,0,none⟩) d.size cap),(1, .int .i64 (a:Int)),(9, .int .i64 ((i:Nat):Int)),(10, .int .i64 ((j3:Nat):Int))])
   (fun _=>⟨ro,(p, .cells (vals d2++sp).toArray 3 (0,0))::tail⟩) (fun i=>j3+1-i) (i3) (fun i=>a<i∧i≤j3+1∧i3≤i∧i=scanUp (fun x=> !ltInt d2[a]! x) d2 j3 i3) ⟨O,O,O,rfl⟩ rfl ⟨U,U,U,U,trivial⟩ (fun i4 hi4=>?_) fun i4 hi4 hnx hex=>?_
  ·obtain⟨i4a,i4b,i4c,i4d⟩:=hi4
   refine Xv<|Xb<|X.loopB (ι:=Nat) C.1 (fun j=>j<b∧i4≤j+1∧j≤j3∧scanDown (fun x=>ltInt d2[a]! x) d2 i4 j=scanDown (fun x=>ltInt d2[a]! x) d2 i4 j3) (fun j=> [(0, .slice (some ⟨p,0,none⟩) d.size cap),(1, .int .i64 (a:Int)),(9, .int .i64 ((i4:Nat):Int)),(10, .int .i64 ((j:Nat):Int))])
    (fun _=>⟨ro,(p, .cells (vals d2++sp).toArray 3 (0,0))::tail⟩) (fun j=>j) (j3) (fun j=>j<b∧i4≤j+1∧j≤j3∧j=scanDown (fun x=>ltInt d2[a]! x) d2 i4 j3) ⟨O,O,O,rfl⟩ rfl ⟨U,U,U,U,trivial⟩ (fun j5 hj5=>?_) fun j5 hj5 hnx hex=>?_
   ·obtain⟨j5a,j5b,j5c,j5d⟩:=hj5
    refine Xx W<|Oo W W<|Ri Z b_gtr<|Zj U (fun hgt=>?_) (fun hgt=>?_)
    ·refine Xe U<|X.weaken ?_ (hexM (i4,j5,d2) ⟨h2,by show i4≤d.size;omega,by rw [←h5,Go.Sort.partEqLoop_eq, ←i4d, ←j5d,if_pos O]⟩)
     exact⟨U,U,U,U,trivial⟩
    ·have hne:=scan_ne (fun _=>(Bool.not_not _).symm) i4d j5d O O
     refine Xz<|Xv<|Xf fun hok=>Dt 0 Y<|Dt 1 Y<|Dt 2 Y<|Dt 3 Y<|Dt 4 Y<|Dt 5 Y<|Dw 6 Y A58 B3<|Db 7 W G3 V (vals_at (k:=j5) O O)<|Dt 8 Y<|Dt 9 Y<|Dw 10 Y A58 B3<|Db 11 W G3 V (vals_at (k:=i4) O O)<|Dw 12 Y A58 B3<|De 13 none [false,false] hok (fun _ _ A hk=>?_)
     refine R.store C U (A.w U U) (A.x U U) (A.x U U) B3 U U U V (vals_put (k:=i4) O O) (hk undef _ ⟨QFs.nil, ?_⟩)
     refine Dw 14 Y A58 B3<|De 15 none [] hok (fun _ _ A hk=>?_)
     refine R.store C U (A.w U U) (A.x U U) (A.x U U) B3 U U U V (vals_put (k:=j5) O Zo) (hk undef _ ⟨QFs.nil, ?_⟩)
     refine Dn<|Xm W W<|Rb Y<|Ae W<|Xg W<|Ro W<|Ri Z (b_sub O O)<|Ae W<|Xi<|X.weaken ?_ (hnxM (i4+1,j5-1,swp d2 i4 j5) ⟨by show a<i4+1;omega,by show i4+1≤j5-1+1;omega,by show j5-1<b;omega,by rw [swp_sz];exact h2,by rw [←h5,Go.Sort.partEqLoop_eq (d:=d2), ←i4d, ←j5d,if_neg O]⟩ (by show j5-1+1- (i4+1)<j3+1-i3;omega))
     exact⟨rfl,rfl,by simp [look],congrArg (fun z=>some (Value.int .i64 z)) (by show(j5:Int) -1=((j5-1:Nat):Int);omega),trivial⟩
   ·obtain⟨j5a,j5b,j5c,j5d⟩:=hj5
    refine Xv<|Xv<|Xf fun hok=>Dt 0 Y<|Dt 1 Y<|Dj 2 Y5 b_leq<|Dt 3 Y<|D.fix (t:=49) U (fun hg=>?_) (fun hg=>?_)
    ·simp only [dT] at hg
     refine Dt 4 Y<|Dt 5 Y<|Dw 6 Y A58 B3<|Db 7 W G3 V (vals_at (k:=a) O O)<|Dt 8 Y<|Dt 9 Y<|Dw 10 Y A58 B3<|Db 11 W G3 V (vals_at (k:=j5) O O)<|De 12 (some 58) [false,false] hok (fun _ _ A hk=>?_)
     refine R.callP C U (A.w U U) (A.x U U) (A.s U U) (less_c hJ _ _ _) (hk _ _ ⟨QFs.nil, ?_⟩)
     refine Dp 13 hok (fun _ _ _ A h=>R.pickT C U (A.w U U) (A.x U U) (A.x U U) h)<|Dn<|Xc U (fun hl=>?_) (fun hl=>?_)
     ·refine Xz<|Xb<|Xg W<|Ro W<|Ri Z (b_sub O O)<|Ae W<|Xi<|X.weaken ?_ (hnx (j5-1) ⟨O,O,O, ?_⟩ O)
      ·exact⟨rfl,rfl,rfl,congrArg (fun z=>some (Value.int .i64 z)) O,trivial⟩
      ·exact(scanDown_go (p:=(fun x=>ltInt d2[a]! x)) O O hl).symm.trans j5d
     ·refine Xe U<|X.weaken ?_ (hex j5 ⟨O,O,O,(scanDown_stop (p:=(fun x=>ltInt d2[a]! x)) (.inr hl)).symm.trans j5d⟩)
      exact⟨U,U,U,U,trivial⟩
    ·simp only [dF] at hg
     refine Dr 4 U<|Dr 5 U<|Dr 6 U<|Dr 7 U<|Dr 8 U<|Dr 9 U<|Dr 10 U<|Dr 11 U<|Dr 12 U<|Dp 13 hok (fun _ _ _ A h=>R.pickF C U (A.w U U) (A.x U U) (A.x U U) h)<|Dn<|Xc U (fun h=>nomatch h) (fun _=>?_)
     refine Xe U<|X.weaken ?_ (hex j5 ⟨O,O,O,(scanDown_stop (p:=(fun x=>ltInt d2[a]! x)) (.inl O)).symm.trans j5d⟩)
     exact⟨U,U,U,U,trivial⟩
  ·obtain⟨i4a,i4b,i4c,i4d⟩:=hi4
   refine Xv<|Xv<|Xf fun hok=>Dt 0 Y<|Dt 1 Y<|Dj 2 Y5 b_leq<|Dt 3 Y<|D.fix (t:=32) U (fun hg=>?_) (fun hg=>?_)
   ·simp only [dT] at hg
    refine Dt 4 Y<|Dt 5 Y<|Dw 6 Y A58 B3<|Db 7 W G3 V (vals_at (k:=a) O O)<|Dt 8 Y<|Dt 9 Y<|Dw 10 Y A58 B3<|Db 11 W G3 V (vals_at (k:=i4) O O)<|De 12 (some 41) [false,false] hok (fun _ _ A hk=>?_)
    refine R.callP C U (A.w U U) (A.x U U) (A.s U U) (less_c hJ _ _ _) (hk _ _ ⟨QFs.nil, ?_⟩)
    refine Dp 13 hok (fun _ _ _ A h=>R.not C U (A.w U U) (A.x U U) h)<|Dp 14 hok (fun _ _ _ A h=>R.pickT C U (A.w U U) (A.x U U) (A.x U U) h)<|Dn<|Xc U (fun hl=>?_) (fun hl=>?_)
    ·refine Xz<|Xb<|Xg W<|Ro W<|Rb Y<|Ae W<|Xi<|X.weaken ?_ (hnx (i4+1) ⟨O,O,O, ?_⟩ O)
     ·exact⟨rfl,rfl,by simp [look],rfl,trivial⟩
     ·exact(scanUp_go (p:=(fun x=> !ltInt d2[a]! x)) O hl).symm.trans i4d
    ·refine Xe U<|X.weaken ?_ (hex i4 ⟨O,O,O,(scanUp_stop (p:=(fun x=> !ltInt d2[a]! x)) (.inr hl)).symm.trans i4d⟩)
     exact⟨U,U,U,U,trivial⟩
   ·simp only [dF] at hg
    refine Dr 4 U<|Dr 5 U<|Dr 6 U<|Dr 7 U<|Dr 8 U<|Dr 9 U<|Dr 10 U<|Dr 11 U<|Dr 12 U<|Dr 13 U<|Dp 14 hok (fun _ _ _ A h=>R.pickF C U (A.w U U) (A.x U U) (A.x U U) h)<|Dn<|Xc U (fun h=>nomatch h) (fun _=>?_)
    refine Xe U<|X.weaken ?_ (hex i4 ⟨O,O,O,(scanUp_stop (p:=(fun x=> !ltInt d2[a]! x)) (.inl O)).symm.trans i4d⟩)
    exact⟨U,U,U,U,trivial⟩
end Go.Lg.B
namespace Go.Lg.B
open Go Go.Conc Go.Lg Go.Proofs Go.Proofs.Tryz
open Go.Sort (ltInt swp scanSorted shiftDown shiftUp partialIns partialInsertionSort fixDown fixUp)
variable {d:Array Int}{b i j:Nat}
theorem scanS_go(h:i<b)(hl:(!ltInt d[i]! d[i-1]!)=true):scanSorted ltInt d b i=scanSorted ltInt d b (i+1):=by rw [scanSorted,if_pos (by simp only [hl,Bool.and_true,decide_eq_true_eq];exact h)]
theorem scanS_stop(h:b≤i∨(!ltInt d[i]! d[i-1]!)=false):scanSorted ltInt d b i=i:=by
 rw [scanSorted,if_neg]
 rcases h with h|h
 ·simp;omega
 ·simp only [h,Bool.and_false];decide
theorem shD_go(hj:1≤j)(h:(!ltInt d[j]! d[j-1]!)=false):shiftDown ltInt j d=shiftDown ltInt (j-1) (swp d j (j-1)):=by
 obtain⟨j,rfl⟩:∃k,j=k+1:=⟨j-1,O⟩
 have h:(!ltInt d[j+1]! d[j]!)=false:=by simpa using h
 simp only [shiftDown]
 rw [if_neg (by rw [h];simp)];rfl
theorem shD_stop(h:j=0∨(!ltInt d[j]! d[j-1]!)=true):shiftDown ltInt j d=d:=by
 cases j with
 |zero=>rfl
 |succ j=>
  have h:(!ltInt d[j+1]! d[j]!)=true:=by simpa using h
  simp only [shiftDown]
  rw [if_pos h]
theorem shU_go(hj:j<b)(h:(!ltInt d[j]! d[j-1]!)=false):shiftUp ltInt b j d=shiftUp ltInt b (j+1) (swp d j (j-1)):=by
 rw [shiftUp,if_pos hj,if_neg (by rw [h];simp)]
theorem shU_stop(h:b≤j∨(!ltInt d[j]! d[j-1]!)=true):shiftUp ltInt b j d=d:=by
 rw [shiftUp]
 rcases h with h|h
 ·rw [if_neg O]
 ·split<;>first|rfl|rw [if_pos h]
variable {main:Bool}{J:Goroutine→Mem→Prop}(hJ:Closed prog main J)
include hJ
theorem partialIns_c{p:Nat}{sp:List Value}{cap a:Nat}{ro:RO}(hn:d.size≤1000000000)(hab:a<b)(hb:b≤d.size):CallS J 242 p sp d cap [.int .i64 (a:Int), .int .i64 (b:Int)] ro (.bool (partialInsertionSort ltInt d a b).2) (partialInsertionSort ltInt d a b).1:=by
 refine CallS.intro hJ Kr fun c cs tail hret=>?_
 let J:=J
 refine enter_X (n:=133) func242 U U (Nl U) ?_
 have C:Ctx prog main J (bf 242 .normal):=⟨hJ,by decide⟩
 refine Xo W W<|Xm W W<|Rb Y<|Ae W<|Xx W<|Ae W<|Xb<|X.loopI (ι:=Nat×Nat×Array Int) C.1 (fun s=>s.1≤5∧a+1≤s.2.1∧s.2.1≤b∧s.2.2.size=d.size∧partialIns ltInt a b (5-s.1) s.2.1 s.2.2=partialInsertionSort ltInt d a b) (fun s=> [(0, .slice (some ⟨p,0,none⟩) d.size cap),(1, .int .i64 (a:Int)),(2, .int .i64 (b:Int)),(7, .int .i64 ((s.2.1:Nat):Int)),(8, .int .i64 ((s.1:Nat):Int))])
  (fun s=>⟨ro,(p, .cells (vals s.2.2++sp).toArray 3 (0,0))::tail⟩) (fun s=>5-s.1) (0,a+1,d) ⟨Nat.zero_le _,Nat.le_refl _,by show a+1≤b;omega,rfl,rfl⟩ rfl ⟨rfl,rfl,rfl,by simp [look],rfl,trivial⟩ fun s hs hnext=>?_
 obtain⟨k,i0,d2⟩:=s
 obtain⟨hk,hi1,hi2,h1,hp5⟩:=hs
 simp only at hk hi1 hi2 h1 hp5 hnext⊢
 refine Xx W<|Ro W<|Ri Z b_lss<|Zj U (fun hk5=>?_) (fun hk5=>?_)
 ·rw [show 5-k=(5- (k+1))+1 by omega,Go.Sort.partialIns_succ] at hp5
  refine Xz<|Xv<|Xb<|Xv<|Xb<|X.loopB (ι:=Nat) C.1 (fun i=>i0≤i∧i≤b∧scanSorted ltInt d2 b i=scanSorted ltInt d2 b i0) (fun i=> [(0, .slice (some ⟨p,0,none⟩) d.size cap),(1, .int .i64 (a:Int)),(2, .int .i64 (b:Int)),(7, .int .i64 ((i:Nat):Int)),(8, .int .i64 ((k:Nat):Int))])
   (fun _=>⟨ro,(p, .cells (vals d2++sp).toArray 3 (0,0))::tail⟩) (fun i=>b-i) i0 (fun i=>i0≤i∧i≤b∧i=scanSorted ltInt d2 b i0) ⟨Nat.le_refl _,hi2,rfl⟩ rfl ⟨U,U,U,U,U,trivial⟩ (fun i h=>?_) fun i h hns hes=>?_
  ·obtain⟨hia,hib,hic⟩:=h
   rw [←hic] at hp5
   refine Xx W<|Oo W W<|Ri Z b_eql<|Zc U (fun hend=>?_) (fun hend=>?_)
   ·have hib':i=b:=by simp at hend;omega
    rw [if_pos hib'] at hp5
    rw [←hp5] at hret
    refine Xo W W<|X.ret C U U func242 U (by exact .tmp U .nil) ?_
    exact hret _ _ rfl rfl
   ·have hib':¬i=b:=by simp at hend;omega
    rw [if_neg hib'] at hp5
    refine Xz<|Xx W<|Oo W W<|Ri Z (b_sub O O)<|Ri Z b_lss<|Zj U (fun h50=>?_) (fun h50=>?_)
    ·rw [if_pos O] at hp5
     rw [←hp5] at hret
     refine Xo W W<|X.ret C U U func242 U (by exact .tmp U .nil) ?_
     exact hret _ _ rfl rfl
    ·rw [if_neg O] at hp5
     refine Xz<|Xv<|Xf fun hok=>Dt 0 Y<|Dt 1 Y<|Dt 2 Y<|Dt 3 Y<|Dj 4 Y5 (b_sub O O)<|Dt 5 Y<|Dt 6 Y<|Dj 7 Y5 (b_sub O O)<|Dw 8 Y A58 B3<|Db 9 W G3 V (vals_at (k:=i-1) O O)<|Dt 10 Y<|Dt 11 Y<|Dw 12 Y A58 B3<|Db 13 W G3 V (vals_at (k:=i) O O)<|Dw 14 Y A58 B3<|De 15 none [false,false] hok (fun _ _ A hk=>?_)
     refine R.store C U (A.w U U) (A.x U U) (A.x U U) B3 U U U V (vals_put (k:=i) O O) (hk undef _ ⟨QFs.nil, ?_⟩)
     refine Dw 16 Y A58 B3<|De 17 none [] hok (fun _ _ A hk=>?_)
     refine R.store C U (A.w U U) (A.x U U) (A.x U U) B3 U U U V (vals_put (k:=i-1) O Zo) (hk undef _ ⟨QFs.nil, ?_⟩)
     refine Dn<|Xx W ?_
     have hsw:(d2.setIfInBounds i d2[i-1]!).setIfInBounds (i-1) d2[i]! =(swp d2 i (i-1)):=rfl
     rw [hsw]
     refine Oo W W<|Ri Z (b_sub O O)<|Ri Z b_geq<|Zj U (fun hd0=>?_) (fun hd0=>?_)
     ·refine Xm W W<|Ri Z (b_sub O O)<|R.fixv (t:=63) (v':= .int .i64 ((i-1:Nat):Int)) U (by(congr 1;omega))<|Ae W<|Xb<|X.loopB (ι:=Nat×Array Int) C.1 (fun s=>s.1<b∧s.2.size=d.size∧shiftDown ltInt s.1 s.2=shiftDown ltInt (i-1) (swp d2 i (i-1))) (fun s=> [(0, .slice (some ⟨p,0,none⟩) d.size cap),(1, .int .i64 (a:Int)),(2, .int .i64 (b:Int)),(7, .int .i64 ((i:Nat):Int)),(8, .int .i64 ((k:Nat):Int)),(9, .int .i64 ((s.1:Nat):Int))])
       (fun s=>⟨ro,(p, .cells (vals s.2++sp).toArray 3 (0,0))::tail⟩) (fun s=>s.1) (i-1,(swp d2 i (i-1))) (fun s=>s.2.size=d.size∧shiftDown ltInt (i-1) (swp d2 i (i-1))=s.2) ⟨by show i-1<b;omega,by rw [swp_sz];exact h1,rfl⟩ rfl ⟨U,U,U,U,U,U,trivial⟩ (fun s hs=>?_) fun s hs hnd hed=>?_
      ·obtain⟨j,d3⟩:=s
       obtain⟨h31,h32⟩:=hs
       simp only at h31 h32⊢
       refine Xm W W<|Ro W<|Ri Z (b_sub O O)<|Ri Z b_geq<|Zj U (fun hu=>?_) (fun hu=>?_)
       ·refine Xm W W<|Rb Y<|R.fixv (t:=100) (v':= .int .i64 ((i+1:Nat):Int)) U (by rfl)<|Ae W<|Xb<|X.loopB (ι:=Nat×Array Int) C.1 (fun s=>i+1≤s.1∧s.1≤b∧s.2.size=d.size∧shiftUp ltInt b s.1 s.2=shiftUp ltInt b (i+1) d3) (fun s=> [(0, .slice (some ⟨p,0,none⟩) d.size cap),(1, .int .i64 (a:Int)),(2, .int .i64 (b:Int)),(7, .int .i64 ((i:Nat):Int)),(8, .int .i64 ((k:Nat):Int)),(10, .int .i64 ((s.1:Nat):Int))])
         (fun s=>⟨ro,(p, .cells (vals s.2++sp).toArray 3 (0,0))::tail⟩) (fun s=>b-s.1) (i+1,d3) (fun s=>s.2.size=d.size∧shiftUp ltInt b (i+1) d3=s.2) ⟨Nat.le_refl _,by show i+1≤b;omega,h31,rfl⟩ rfl ⟨U,U,U,U,U,U,trivial⟩ (fun s hs=>?_) fun s hs hnu heu=>?_
        ·obtain⟨j,d5⟩:=s
         obtain⟨h51,h52⟩:=hs
         simp only at h51 h52⊢
         refine Xi<|Xg W<|Ro W<|Rb Y<|Ae W<|X.weaken ?_ (hnext (k+1,i,d5) ⟨by show k+1≤5;omega,by show a+1≤i;omega,by show i≤b;omega, ?_, ?_⟩ (by show 5- (k+1)<5-k;omega))
         ·exact⟨rfl,rfl,rfl,rfl,by simp [look],trivial⟩
         ·show(d5).size=d.size;first|assumption|(rw [swp_sz];assumption)
         ·show partialIns ltInt a b (5- (k+1)) i d5=_
          rw [←hp5];rw [fixDown,if_pos O,h32];rw [fixUp,if_pos O,h52]
        ·obtain⟨j,d4⟩:=s
         obtain⟨g1,g2,g3,g4⟩:=hs
         simp only at g1 g2 g3 g4 hnu heu⊢
         refine Xx W<|Oo W W<|Ri Z b_lss<|Zj U (fun hjb=>?_) (fun hjb=>?_)
         ·refine Xz<|Xv<|Xb<|Xv<|Xv<|Xf fun hok=>Dt 0 Y<|Dt 1 Y<|Dw 2 Y A58 B3<|Db 3 W G3 V (vals_at (k:=j) O O)<|Dt 4 Y<|Dt 5 Y<|Dj 6 Y5 (b_sub O O)<|Dw 7 Y A58 B3<|Db 8 W G3 V (vals_at (k:=j-1) O O)<|De 9 (some 115) [false,false] hok (fun _ _ A hk=>?_)
          refine R.callP C U (A.w U U) (A.x U U) (A.s U U) (less_c hJ _ _ _) (hk _ _ ⟨QFs.nil, ?_⟩)
          refine Dp 10 hok (fun _ _ _ A h=>R.not C U (A.w U U) (A.x U U) h)<|Dn<|Xc U (fun hl=>?_) (fun hl=>?_)
          ·refine Xe U<|X.weaken ?_ (heu (j,d4) ⟨g3,by rw [←g4,shU_stop (.inr hl)]⟩)
           exact⟨U,U,U,U,U,U,trivial⟩
          ·refine Xz<|Xf fun hok=>Dt 0 Y<|Dt 1 Y<|Dt 2 Y<|Dt 3 Y<|Dj 4 Y5 (b_sub O O)<|Dt 5 Y<|Dt 6 Y<|Dj 7 Y5 (b_sub O O)<|Dw 8 Y A58 B3<|Db 9 W G3 V (vals_at (k:=j-1) O O)<|Dt 10 Y<|Dt 11 Y<|Dw 12 Y A58 B3<|Db 13 W G3 V (vals_at (k:=j) O O)<|Dw 14 Y A58 B3<|De 15 none [false,false] hok (fun _ _ A hk=>?_)
           refine R.store C U (A.w U U) (A.x U U) (A.x U U) B3 U U U V (vals_put (k:=j) O O) (hk undef _ ⟨QFs.nil, ?_⟩)
           refine Dw 16 Y A58 B3<|De 17 none [] hok (fun _ _ A hk=>?_)
           refine R.store C U (A.w U U) (A.x U U) (A.x U U) B3 U U U V (vals_put (k:=j-1) O Zo) (hk undef _ ⟨QFs.nil, ?_⟩)
           refine Dn<|Xi<|Xg W<|Ro W<|Rb Y<|Ae W<|X.weaken ?_ (hnu (j+1,swp d4 j (j-1)) ⟨by show i+1≤j+1;omega,by show j+1≤b;omega,by rw [swp_sz];exact g3,by rw [←g4,shU_go O hl]⟩ (by show b- (j+1)<b-j;omega))
           exact⟨rfl,rfl,rfl,rfl,rfl,by simp [look],trivial⟩
         ·refine Xe U<|X.weaken ?_ (heu (j,d4) ⟨g3,by rw [←g4,shU_stop (.inl O)]⟩)
          exact⟨U,U,U,U,U,U,trivial⟩
       ·refine Xz<|Xi<|Xg W<|Ro W<|Rb Y<|Ae W<|X.weaken ?_ (hnext (k+1,i,d3) ⟨by show k+1≤5;omega,by show a+1≤i;omega,by show i≤b;omega, ?_, ?_⟩ (by show 5- (k+1)<5-k;omega))
        ·exact⟨rfl,rfl,rfl,rfl,by simp [look],trivial⟩
        ·show(d3).size=d.size;first|assumption|(rw [swp_sz];assumption)
        ·show partialIns ltInt a b (5- (k+1)) i d3=_
         rw [←hp5];rw [fixDown,if_pos O,h32];rw [fixUp,if_neg O]
      ·obtain⟨j,d4⟩:=s
       obtain⟨g1,g3,g4⟩:=hs
       simp only at g1 g3 g4 hnd hed⊢
       refine Xx W<|Ro W<|Ri Z b_geq<|Zj U (fun hjb=>?_) (fun hjb=>?_)
       ·refine Xz<|Xv<|Xb<|Xv<|Xv<|Xf fun hok=>Dt 0 Y<|Dt 1 Y<|Dw 2 Y A58 B3<|Db 3 W G3 V (vals_at (k:=j) O O)<|Dt 4 Y<|Dt 5 Y<|Dj 6 Y5 (b_sub O O)<|Dw 7 Y A58 B3<|Db 8 W G3 V (vals_at (k:=j-1) O O)<|De 9 (some 77) [false,false] hok (fun _ _ A hk=>?_)
        refine R.callP C U (A.w U U) (A.x U U) (A.s U U) (less_c hJ _ _ _) (hk _ _ ⟨QFs.nil, ?_⟩)
        refine Dp 10 hok (fun _ _ _ A h=>R.not C U (A.w U U) (A.x U U) h)<|Dn<|Xc U (fun hl=>?_) (fun hl=>?_)
        ·refine Xe U<|X.weaken ?_ (hed (j,d4) ⟨g3,by rw [←g4,shD_stop (.inr hl)]⟩)
         exact⟨U,U,U,U,U,U,trivial⟩
        ·refine Xz<|Xf fun hok=>Dt 0 Y<|Dt 1 Y<|Dt 2 Y<|Dt 3 Y<|Dj 4 Y5 (b_sub O O)<|Dt 5 Y<|Dt 6 Y<|Dj 7 Y5 (b_sub O O)<|Dw 8 Y A58 B3<|Db 9 W G3 V (vals_at (k:=j-1) O O)<|Dt 10 Y<|Dt 11 Y<|Dw 12 Y A58 B3<|Db 13 W G3 V (vals_at (k:=j) O O)<|Dw 14 Y A58 B3<|De 15 none [false,false] hok (fun _ _ A hk=>?_)
         refine R.store C U (A.w U U) (A.x U U) (A.x U U) B3 U U U V (vals_put (k:=j) O O) (hk undef _ ⟨QFs.nil, ?_⟩)
         refine Dw 16 Y A58 B3<|De 17 none [] hok (fun _ _ A hk=>?_)
         refine R.store C U (A.w U U) (A.x U U) (A.x U U) B3 U U U V (vals_put (k:=j-1) O Zo) (hk undef _ ⟨QFs.nil, ?_⟩)
         refine Dn<|Xi<|Xg W<|Ro W<|Ri Z (b_sub O O)<|Ae W<|X.weaken ?_ (hnd (j-1,swp d4 j (j-1)) ⟨by show j-1<b;omega,by rw [swp_sz];exact g3,by rw [←g4,shD_go O hl]⟩ (by show j-1<j;omega))
         exact⟨rfl,rfl,rfl,rfl,rfl,congrArg (fun z=>some (Value.int .i64 z)) (by show(j:Int) -1=((j-1:Nat):Int);omega),trivial⟩
       ·refine Xe U<|X.weaken ?_ (hed (j,d4) ⟨g3,by rw [←g4,shD_stop (.inl O)]⟩)
        exact⟨U,U,U,U,U,U,trivial⟩
     ·refine Xz<|Xm W W<|Ro W<|Ri Z (b_sub O O)<|Ri Z b_geq<|Zj U (fun hu=>?_) (fun hu=>?_)
      ·refine Xm W W<|Rb Y<|R.fixv (t:=100) (v':= .int .i64 ((i+1:Nat):Int)) U (by rfl)<|Ae W<|Xb<|X.loopB (ι:=Nat×Array Int) C.1 (fun s=>i+1≤s.1∧s.1≤b∧s.2.size=d.size∧shiftUp ltInt b s.1 s.2=shiftUp ltInt b (i+1) (swp d2 i (i-1))) (fun s=> [(0, .slice (some ⟨p,0,none⟩) d.size cap),(1, .int .i64 (a:Int)),(2, .int .i64 (b:Int)),(7, .int .i64 ((i:Nat):Int)),(8, .int .i64 ((k:Nat):Int)),(10, .int .i64 ((s.1:Nat):Int))])
        (fun s=>⟨ro,(p, .cells (vals s.2++sp).toArray 3 (0,0))::tail⟩) (fun s=>b-s.1) (i+1,(swp d2 i (i-1))) (fun s=>s.2.size=d.size∧shiftUp ltInt b (i+1) (swp d2 i (i-1))=s.2) ⟨Nat.le_refl _,by show i+1≤b;omega,by rw [swp_sz];exact h1,rfl⟩ rfl ⟨U,U,U,U,U,U,trivial⟩ (fun s hs=>?_) fun s hs hnu heu=>?_
       ·obtain⟨j,d5⟩:=s
        obtain⟨h51,h52⟩:=hs
        simp only at h51 h52⊢
        refine Xi<|Xg W<|Ro W<|Rb Y<|Ae W<|X.weaken ?_ (hnext (k+1,i,d5) ⟨by show k+1≤5;omega,by show a+1≤i;omega,by show i≤b;omega, ?_, ?_⟩ (by show 5- (k+1)<5-k;omega))
        ·exact⟨rfl,rfl,rfl,rfl,by simp [look],trivial⟩
        ·show(d5).size=d.size;first|assumption|(rw [swp_sz];assumption)
        ·show partialIns ltInt a b (5- (k+1)) i d5=_
         rw [←hp5];rw [fixDown,if_neg O];rw [fixUp,if_pos O,h52]
       ·obtain⟨j,d4⟩:=s
        obtain⟨g1,g2,g3,g4⟩:=hs
        simp only at g1 g2 g3 g4 hnu heu⊢
        refine Xx W<|Oo W W<|Ri Z b_lss<|Zj U (fun hjb=>?_) (fun hjb=>?_)
        ·refine Xz<|Xv<|Xb<|Xv<|Xv<|Xf fun hok=>Dt 0 Y<|Dt 1 Y<|Dw 2 Y A58 B3<|Db 3 W G3 V (vals_at (k:=j) O O)<|Dt 4 Y<|Dt 5 Y<|Dj 6 Y5 (b_sub O O)<|Dw 7 Y A58 B3<|Db 8 W G3 V (vals_at (k:=j-1) O O)<|De 9 (some 115) [false,false] hok (fun _ _ A hk=>?_)
         refine R.callP C U (A.w U U) (A.x U U) (A.s U U) (less_c hJ _ _ _) (hk _ _ ⟨QFs.nil, ?_⟩)
         refine Dp 10 hok (fun _ _ _ A h=>R.not C U (A.w U U) (A.x U U) h)<|Dn<|Xc U (fun hl=>?_) (fun hl=>?_)
         ·refine Xe U<|X.weaken ?_ (heu (j,d4) ⟨g3,by rw [←g4,shU_stop (.inr hl)]⟩)
          exact⟨U,U,U,U,U,U,trivial⟩
         ·refine Xz<|Xf fun hok=>Dt 0 Y<|Dt 1 Y<|Dt 2 Y<|Dt 3 Y<|Dj 4 Y5 (b_sub O O)<|Dt 5 Y<|Dt 6 Y<|Dj 7 Y5 (b_sub O O)<|Dw 8 Y A58 B3<|Db 9 W G3 V (vals_at (k:=j-1) O O)<|Dt 10 Y<|Dt 11 Y<|Dw 12 Y A58 B3<|Db 13 W G3 V (vals_at (k:=j) O O)<|Dw 14 Y A58 B3<|De 15 none [false,false] hok (fun _ _ A hk=>?_)
          refine R.store C U (A.w U U) (A.x U U) (A.x U U) B3 U U U V (vals_put (k:=j) O O) (hk undef _ ⟨QFs.nil, ?_⟩)
          refine Dw 16 Y A58 B3<|De 17 none [] hok (fun _ _ A hk=>?_)
          refine R.store C U (A.w U U) (A.x U U) (A.x U U) B3 U U U V (vals_put (k:=j-1) O Zo) (hk undef _ ⟨QFs.nil, ?_⟩)
          refine Dn<|Xi<|Xg W<|Ro W<|Rb Y<|Ae W<|X.weaken ?_ (hnu (j+1,swp d4 j (j-1)) ⟨by show i+1≤j+1;omega,by show j+1≤b;omega,by rw [swp_sz];exact g3,by rw [←g4,shU_go O hl]⟩ (by show b- (j+1)<b-j;omega))
          exact⟨rfl,rfl,rfl,rfl,rfl,by simp [look],trivial⟩
        ·refine Xe U<|X.weaken ?_ (heu (j,d4) ⟨g3,by rw [←g4,shU_stop (.inl O)]⟩)
         exact⟨U,U,U,U,U,U,trivial⟩
      ·refine Xz<|Xi<|Xg W<|Ro W<|Rb Y<|Ae W<|X.weaken ?_ (hnext (k+1,i,(swp d2 i (i-1))) ⟨by show k+1≤5;omega,by show a+1≤i;omega,by show i≤b;omega, ?_, ?_⟩ (by show 5- (k+1)<5-k;omega))
       ·exact⟨rfl,rfl,rfl,rfl,by simp [look],trivial⟩
       ·show((swp d2 i (i-1))).size=d.size;first|assumption|(rw [swp_sz];assumption)
       ·show partialIns ltInt a b (5- (k+1)) i (swp d2 i (i-1))=_
        rw [←hp5];rw [fixDown,if_neg O];rw [fixUp,if_neg O]
  ·obtain⟨hia,hib,hic⟩:=h
   refine Xv<|Xv<|Xf fun hok=>Dt 0 Y<|Dt 1 Y<|Dj 2 Y5 b_lss<|Dt 3 Y<|D.fix (t:=20) U (fun hg=>?_) (fun hg=>?_)
   ·simp only [dT] at hg
    refine Dt 4 Y<|Dt 5 Y<|Dw 6 Y A58 B3<|Db 7 W G3 V (vals_at (k:=i) O O)<|Dt 8 Y<|Dt 9 Y<|Dj 10 Y5 (b_sub O O)<|Dw 11 Y A58 B3<|Db 12 W G3 V (vals_at (k:=i-1) O O)<|De 13 (some 30) [false,false] hok (fun _ _ A hk=>?_)
    refine R.callP C U (A.w U U) (A.x U U) (A.s U U) (less_c hJ _ _ _) (hk _ _ ⟨QFs.nil, ?_⟩)
    refine Dp 14 hok (fun _ _ _ A h=>R.not C U (A.w U U) (A.x U U) h)<|Dp 15 hok (fun _ _ _ A h=>R.pickT C U (A.w U U) (A.x U U) (A.x U U) h)<|Dn<|Xc U (fun hl=>?_) (fun hl=>?_)
    ·refine Xz<|Xb<|Xg W<|Ro W<|Rb Y<|Ae W<|Xi<|X.weaken ?_ (hns (i+1) ⟨O,O,(scanS_go O hl).symm.trans hic⟩ O)
     exact⟨rfl,rfl,rfl,by simp [look],rfl,trivial⟩
    ·refine Xe U<|X.weaken ?_ (hes i ⟨O,O,(scanS_stop (.inr hl)).symm.trans hic⟩)
     exact⟨U,U,U,U,U,trivial⟩
   ·simp only [dF] at hg
    refine Dr 4 U<|Dr 5 U<|Dr 6 U<|Dr 7 U<|Dr 8 U<|Dr 9 U<|Dr 10 U<|Dr 11 U<|Dr 12 U<|Dr 13 U<|Dr 14 U<|Dp 15 hok (fun _ _ _ A h=>R.pickF C U (A.w U U) (A.x U U) (A.x U U) h)<|Dn<|Xc U (fun h=>nomatch h) (fun _=>?_)
    refine Xe U<|X.weaken ?_ (hes i ⟨O,O,(scanS_stop (.inl O)).symm.trans hic⟩)
    exact⟨U,U,U,U,U,trivial⟩
 ·obtain rfl:k=5:=by omega
  simp only [Nat.sub_self,partialIns] at hp5
  rw [←hp5] at hret
  refine Xe U<|Xo W W<|X.ret C U U func242 U (by exact .tmp U .nil) ?_
  exact hret _ _ rfl rfl
end Go.Lg.B
namespace Go.Lg
open Go Go.Conc
section
variable {P:Program}{main:Bool}{J:Goroutine→Mem→Prop}{b:Frame}(C:Ctx P main J b){cs:List Frame}{n:Nat}{ds:List Deferred}{σ:Slots}{k:List Item}{ops:Array Oper}{i:Nat}{rest:List Nat}
 {d:Nat} {ty:TypeId} {pos:String} {af:Array Edge} {g:Option (Nat×Bool)}
include C
theorem R.indexStr{t:TypeId}{x y:Operand}{ik:IntKind}{z:Int}{s:ByteArray}{v:UInt8}{M:Mem}(ho:ops[i]? =some ⟨some d, .index t x y,ty,pos,af,g⟩)(hg:wantedS ops σ ⟨some d, .index t x y,ty,pos,af,g⟩=some true)(hx:ev σ x=some (.string s))
  (hy:ev σ y=some (.int ik z)) (hu:∀w,Sem.run P (Go.underlying t) w= .ok .string w) (h0:0≤z) (hv:s[z.toNat]? =some v)
  (h:R J b cs n ops rest k ds ((d, .int .u8 (v.toNat:Int))::σ) M):R J b cs n ops (i::rest) k ds σ M:=
 R.v C ho hg rfl (fun _ hh _ hk=>by
  unfold execOp;simp only [hh.ev hx,hh.ev hy]
  refine ex_v ?_
  show Sm P M (Instr.index t (.string s) (.int ik z)) _
  unfold Instr.index
  refine Sm.bind (Sm.pure (Sm.bind (Sm.underlying hu ?_)))
  simp only [h0,if_true,hv]
  exact Sm.pure hk) h
end
end Go.Lg
namespace Go.Lg.B
open Go Go.Conc Go.Lg Go.Proofs Go.Proofs.Tryz
open Go.Sort (ltInt swp bitsLen bitsLen_le_iff xorNextN xorNext breakStep breakPatterns)
variable {x y:Nat}{P:Program}{t:TypeId}
def lenTab:ByteArray:=⟨#[0,1,2,2,3,3,3,3,4,4,4,4,4,4,4,4,5,5,5,5,5,5,5,5,5,5,5,5,5,5,5,5,6,6,6,6,6,6,6,6,6,6,6,6,6,6,6,6,6,6,6,6,6,6,6,6,6,6,6,6,6,6,6,6,7,7,7,7,7,7,7,7,7,7,7,7,7,7,7,7,7,7,7,7,7,7,7,7,7,7,7,7,7,7,7,7,7,7,7,7,7,7,7,7,7,7,7,7,7,7,7,7,7,7,7,7,7,7,7,7,7,7,7,7,7,7,7,7,8,8,8,8,8,8,8,8,8,8,8,8,8,8,8,8,8,8,8,8,8,8,8,8,8,8,8,8,8,8,8,8,8,8,8,8,8,8,8,8,8,8,8,8,8,8,8,8,8,8,8,8,8,8,8,8,8,8,8,8,8,8,8,8,8,8,8,8,8,8,8,8,8,8,8,8,8,8,8,8,8,8,8,8,8,8,8,8,8,8,8,8,8,8,8,8,8,8,8,8,8,8,8,8,8,8,8,8,8,8,8,8,8,8,8,8,8,8,8,8,8,8,8,8,8,8,8,8]⟩
def bl(y:Nat):Nat:=if y=0 then 0 else if y<2 then 1 else if y<4 then 2 else if y<8 then 3 else if y<16 then 4 else if y<32 then 5 else if y<64 then 6 else if y<128 then 7 else 8
theorem tab_all:((List.range 256).all fun y=>lenTab[y]? ==some (UInt8.ofNat (bl y)))=true:=by kernel_rfl
theorem bl_eq(h:y<256):bitsLen y=bl y:=by
 have h0:=bitsLen_le_iff y 0
 have h1:=bitsLen_le_iff y 1
 have h2:=bitsLen_le_iff y 2
 have h3:=bitsLen_le_iff y 3
 have h4:=bitsLen_le_iff y 4
 have h5:=bitsLen_le_iff y 5
 have h6:=bitsLen_le_iff y 6
 have h7:=bitsLen_le_iff y 7
 have h8:=bitsLen_le_iff y 8
 simp only [Nat.reducePow] at h0 h1 h2 h3 h4 h5 h6 h7 h8
 unfold bl
 split
 ·omega
 ·split
  ·omega
  ·split
   ·omega
   ·split
    ·omega
    ·split
     ·omega
     ·split
      ·omega
      ·split
       ·omega
       ·split<;>omega
theorem bl_le(y:Nat):bl y≤8:=by
 unfold bl
 repeat' split
 all_goals omega
theorem tab_at{z:Int}(hz:z=(y:Int))(h:y<256):lenTab[z.toNat]? =some (UInt8.ofNat (bitsLen y)):=by
 subst hz
 have:=List.all_eq_true.1 tab_all y (List.mem_range.2 h)
 rw [bl_eq h,Int.toNat_natCast]
 simpa using this
theorem tab_val(h:y<256):((UInt8.ofNat (bitsLen y)).toNat:Int)=(bitsLen y:Int):=by
 have h1:=bl_le y
 rw [bl_eq h,UInt8.toNat_ofNat']
 omega
theorem bitsLen_shift{k:Nat}(h:2^k≤x):bitsLen x=bitsLen (x/2^k)+k:=by
 have hp:=Nat.two_pow_pos k
 have key:∀m,bitsLen x≤m+k↔bitsLen (x/2^k)≤m:=fun m=>by
  rw [bitsLen_le_iff,bitsLen_le_iff,Nat.div_lt_iff_lt_mul hp,Nat.pow_add]
 have h1:=(key (bitsLen (x/2^k))).2 (Nat.le_refl _)
 have h2:k<bitsLen x:=by
  refine Nat.lt_of_not_le fun h3=>?_
  have:=(bitsLen_le_iff x k).1 h3
  omega
 have h3:=(key (bitsLen x-k)).1 O
 omega
theorem b_xorU(hx:x<18446744073709551616)(hy:y<18446744073709551616):∀M K,K (.int .u64 ((x^^^y:Nat):Int)) M→Sm P M (binOp .xor t (.int .u64 (x:Int)) (.int .u64 (y:Int))) K:=fun M K h=>by
 rw [←bits_xor_u64_nat x y hx hy] at h
 unfold binOp;simp only [ne_eq,not_true_eq_false,if_false]
 exact(Sm.pure h:Sm P M (Pure.pure (.int .u64 (bits .xor .u64 (x:Int) (y:Int))):Sem Value) K)
theorem b_andN(hx:x<18446744073709551616)(hy:y<18446744073709551616):∀M K,K (.int .u64 ((x &&& y:Nat):Int)) M→Sm P M (binOp .and t (.int .u64 (x:Int)) (.int .u64 (y:Int))) K:=fun M K h=>by
 rw [←bits_and_u64_nat x y hx hy] at h
 unfold binOp;simp only [ne_eq,not_true_eq_false,if_false]
 exact(Sm.pure h:Sm P M (Pure.pure (.int .u64 (bits .and .u64 (x:Int) (y:Int))):Sem Value) K)
theorem b_shlU{k':IntKind}{n:Nat}(hn:n≤63):∀M K,K (.int .u64 ((x*2^n%18446744073709551616:Nat):Int)) M→Sm P M (binOp .shl t (.int .u64 (x:Int)) (.int k' (n:Int))) K:=fun M K h=>by
 have e:min (n:Int).toNat IntKind.u64.bits=n:=by simp only [IntKind.bits,Int.toNat_natCast];omega
 have e2:IntKind.u64.wrap ((x:Int)*2^n)=((x*2^n%18446744073709551616:Nat):Int):=by
  rw [IntKind.wrap_u64,Int.natCast_emod,Int.natCast_mul,Int.natCast_pow];rfl
 rw [←e2] at h
 unfold binOp Op.shift;simp only [Int.not_lt.2 (Int.natCast_nonneg n),if_false,e];exact Sm.pure h
def stAt(a len modulus idx:Nat)(s:UInt64×Array Int):Nat→UInt64×Array Int
 |0=>s
 |k+1=>breakStep a len modulus (stAt a len modulus idx s k) (idx+k)
theorem stAt_size{a len modulus idx:Nat}{s:UInt64×Array Int}:∀k,(stAt a len modulus idx s k).2.size=s.2.size
 |0=>rfl
 |k+1=>by simp only [stAt,breakStep];rw [swp_sz];exact stAt_size k
theorem b_subU{x y:Int}(h0:0≤x-y)(h1:x-y≤18446744073709551615):∀M K,K (.int .u64 (x-y)) M→Sm P M (binOp .sub t (.int .u64 x) (.int .u64 y)) K:=fun M K h=>by
 unfold binOp;simp only [ne_eq,not_true_eq_false,if_false,Op.intArith,IntWalk.u64_in _ ⟨h0,h1⟩];exact Sm.pure h
theorem wrap_u8(h:y<256):IntKind.u8.wrap (y:Int)=(y:Int):=by rw [IntKind.wrap_u8];omega
variable {main:Bool}{J:Goroutine→Mem→Prop}(hJ:Closed prog main J)
include hJ
theorem len64_c(hx:x≤1000000000)(ro:RO):CallP prog J (fnv 247) [.int .u64 (x:Int)] ro (.int .i64 (bitsLen x:Int)):=by
 have h30:bitsLen x≤30:=(bitsLen_le_iff x 30).2 O
 refine EP 25 hJ func247 W fun c cs tail hret C=>Xo W W<|Xx W<|Ro W<|Ri Z b_geq<|Zc U (fun q0=>?_) (fun q0=>?_)
 ·simp only [dT] at q0;omega
 ·refine Xz<|Xx W<|Ro W<|Ri Z b_geq<|Zj U (fun q1=>?_) (fun q1=>?_)
  ·have e1:=bitsLen_shift (x:=x) (k:=16) O
   have e1:bitsLen x=bitsLen (x/65536)+16:=e1
   refine Xm W W<|R.shift C U U U U (b_shr Dd Dd O)<|R.fixv (t:=10) (v':= .int .u64 ((x/65536:Nat):Int)) U (by first|rfl|(congr 1;done)|(congr 1;omega))<|Ae W<|Xg W<|Ro W<|Rb Y<|Ae W<|Xx W<|Ro W<|Ri Z b_geq<|Zj U (fun q2=>?_) (fun q2=>?_)
   ·have e2:=bitsLen_shift (x:=(x/65536)) (k:=8) O
    have hz2:(x/65536) /2^8=(x/65536) /256:=rfl
    rw [hz2] at e2
    have hzl:(x/65536) /256<256:=O
    have hzb:bitsLen ((x/65536) /256)≤8:=(bitsLen_le_iff _ 8).2 hzl
    refine Xm W W<|R.shift C U U U U (b_shr Dd Dd O)<|R.fixv (t:=16) (v':= .int .u64 ((((x/65536)) /256:Nat):Int)) U (by first|rfl|(congr 1;done)|(congr 1;omega))<|Ae W<|Xg W<|Ro W<|Rb Y<|Ae W<|Xm W W<|Ro W<|R.convInt C U U U A347 A5 (wrap_u8 O)<|R.indexStr C U U U U A9 O (tab_at U hzl)<|R.fixv (t:=22) (v':= .int .u8 ((bitsLen ((x/65536) /256):Nat):Int)) U (by exact congrArg (Value.int .u8) (tab_val hzl))<|R.convInt C U U U A5 A3 (wrap64 O O)<|Rb Y<|Hq W func247 hret ?_
    simp only [retVal];congr 1;omega
   ·have hzl:(x/65536)<256:=O
    have hzb:bitsLen (x/65536)≤8:=(bitsLen_le_iff _ 8).2 hzl
    refine Xz<|Xm W W<|Ro W<|R.convInt C U U U A347 A5 (wrap_u8 O)<|R.indexStr C U U U U A9 O (tab_at U hzl)<|R.fixv (t:=22) (v':= .int .u8 ((bitsLen ((x/65536)):Nat):Int)) U (by exact congrArg (Value.int .u8) (tab_val hzl))<|R.convInt C U U U A5 A3 (wrap64 O O)<|Rb Y<|Hq W func247 hret ?_
    simp only [retVal];congr 1;omega
  ·have hy:x<65536:=O
   refine Xz<|Xx W<|Ro W<|Ri Z b_geq<|Zj U (fun q2=>?_) (fun q2=>?_)
   ·have e2:=bitsLen_shift (x:=x) (k:=8) O
    have hz2:x/2^8=x/256:=rfl
    rw [hz2] at e2
    have hzl:x/256<256:=O
    have hzb:bitsLen (x/256)≤8:=(bitsLen_le_iff _ 8).2 hzl
    refine Xm W W<|R.shift C U U U U (b_shr Dd Dd O)<|R.fixv (t:=16) (v':= .int .u64 (((x) /256:Nat):Int)) U (by first|rfl|(congr 1;done)|(congr 1;omega))<|Ae W<|Xg W<|Ro W<|Rb Y<|Ae W<|Xm W W<|Ro W<|R.convInt C U U U A347 A5 (wrap_u8 O)<|R.indexStr C U U U U A9 O (tab_at U hzl)<|R.fixv (t:=22) (v':= .int .u8 ((bitsLen (x/256):Nat):Int)) U (by exact congrArg (Value.int .u8) (tab_val hzl))<|R.convInt C U U U A5 A3 (wrap64 O O)<|Rb Y<|Hq W func247 hret ?_
    simp only [retVal];congr 1;omega
   ·have hzl:x<256:=O
    have hzb:bitsLen x≤8:=(bitsLen_le_iff _ 8).2 hzl
    refine Xz<|Xm W W<|Ro W<|R.convInt C U U U A347 A5 (wrap_u8 O)<|R.indexStr C U U U U A9 O (tab_at U hzl)<|R.fixv (t:=22) (v':= .int .u8 ((bitsLen (x):Nat):Int)) U (by exact congrArg (Value.int .u8) (tab_val hzl))<|R.convInt C U U U A5 A3 (wrap64 O O)<|Rb Y<|Hq W func247 hret ?_
    simp only [retVal];congr 1;omega
theorem len_c(hx:x≤1000000000)(ro:RO):CallP prog J (fnv 175) [.int .u64 (x:Int)] ro (.int .i64 (bitsLen x:Int)):=by
 refine EP 8 hJ func175 W fun c cs tail hret C=>Xo W W<|Xv<|Xc U (fun h=>nomatch h) (fun _=>?_)
 refine Xz<|Xm W W<|Cp Z (len64_c hJ O _)<|Hq W func175 hret ?_
 rfl
theorem nextPow_c(hx:x≤1000000000)(ro:RO):CallP prog J (fnv 303) [.int .i64 (x:Int)] ro (.int .u64 ((2^bitsLen x:Nat):Int)):=by
 have h30:bitsLen x≤30:=(bitsLen_le_iff x 30).2 O
 have hp:2^bitsLen x≤2^30:=Nat.pow_le_pow_right Dd h30
 have e1:1*2^bitsLen x%18446744073709551616=2^bitsLen x:=by rw [Nat.one_mul];exact Nat.mod_eq_of_lt O
 refine EP 7 hJ func303 W fun c cs tail hret C=>Xo W W<|Xm W W<|R.convInt C U U U A3 A299 (IntWalk.u64_in _ O)<|Cp Z (len_c hJ O _)<|R.shift C U U U U (b_shlU (x:=1) O)<|R.fixv (t:=6) (v':= .int .u64 ((2^bitsLen x:Nat):Int)) U (by exact congrArg (fun n:Nat=>Value.int .u64 (n:Int)) e1)<|Hq W func303 hret ?_
 rfl
theorem xorshift_c{q:Nat}(hx:x<18446744073709551616)(ro:RO):CallV prog J (fnv 304) [.pointer (some ⟨q,0,none⟩)] ro [(q, .cells [.int .u64 (x:Int)].toArray 423 (0,0))] fun v ro' pre'=>v= .int .u64 (xorNextN x:Int)∧ro'=ro∧pre'= [(q, .cells [.int .u64 (xorNextN x:Int)].toArray 423 (0,0))]:=by
 refine CallV.intro (first:= []) (cap:= []) hJ Kr fun c cs tail hret=>?_
 let J:=J
 obtain⟨xa,hA⟩:∃xa:Nat,xa=x^^^ (x*2^13%18446744073709551616):=⟨_,rfl⟩
 obtain⟨xb,hB⟩:∃xb:Nat,xb=xa^^^ (xa/128):=⟨_,rfl⟩
 obtain⟨xe,hE⟩:∃xe:Nat,xe=xb^^^ (xb*2^17%18446744073709551616):=⟨_,rfl⟩
 have lA:xa<18446744073709551616:=by rw [hA];exact Nat.xor_lt_two_pow (n:=64) O O
 have lB:xb<18446744073709551616:=by rw [hB];exact Nat.xor_lt_two_pow (n:=64) O O
 have hv:xorNextN x=xe:=by rw [hE,hB,hA];rfl
 rw [hv] at hret
 have vA:=congrArg (fun n:Nat=>Value.int .u64 (n:Int)) hA.symm
 have vB:=congrArg (fun n:Nat=>Value.int .u64 (n:Int)) hB.symm
 have vE:=congrArg (fun n:Nat=>Value.int .u64 (n:Int)) hE.symm
 clear hA hB hE hv
 refine enter_X (n:=33) func304 U U (Nl U) ?_
 have C:Ctx prog main J (bf 304 .normal):=⟨hJ,by decide⟩
 refine Xo W W<|Xv<|Xf fun hok=>Dt 0 Y<|Dp 1 hok (fun _ _ _ A h=>R.nilCheck C U (A.w U U) (A.x U U) h)<|Db 2 W G423 V U<|Dt 3 Y<|Dp 4 hok (fun _ _ _ A h=>R.nilCheck C U (A.w U U) (A.x U U) h)<|Db 5 W G423 V U<|Dp 6 hok (fun _ _ _ A h=>R.shift C U (A.w U U) (A.x U U) (A.x U U) (b_shlU (n:=13) Dd) h)<|Dj 7 Y5 (b_xorU hx (Nat.mod_lt _ Dd))<|D.fixv (t:=10) (v':= .int .u64 ((xa:Nat):Int)) U (by exact vA)<|Dp 8 hok (fun _ _ _ A h=>R.nilCheck C U (A.w U U) (A.x U U) h)<|De 9 none [false,false] hok (fun _ _ A hk=>?_)
 refine R.store C U (A.w U U) (A.x U U) (A.x U U) sizeOf423 U U U V (.here .nil) (hk undef _ ⟨QFs.nil, ?_⟩)
 refine Dn<|Xv<|Xf fun hok=>Dt 0 Y<|Dp 1 hok (fun _ _ _ A h=>R.nilCheck C U (A.w U U) (A.x U U) h)<|Db 2 W G423 V U<|Dt 3 Y<|Dp 4 hok (fun _ _ _ A h=>R.nilCheck C U (A.w U U) (A.x U U) h)<|Db 5 W G423 V U<|Dp 6 hok (fun _ _ _ A h=>R.shift C U (A.w U U) (A.x U U) (A.x U U) (b_shr Dd Dd O) h)<|D.fixv (t:=18) (v':= .int .u64 ((xa/128:Nat):Int)) U (by rfl)<|Dj 7 Y5 (b_xorU lA O)<|D.fixv (t:=19) (v':= .int .u64 ((xb:Nat):Int)) U (by exact vB)<|Dp 8 hok (fun _ _ _ A h=>R.nilCheck C U (A.w U U) (A.x U U) h)<|De 9 none [false,false] hok (fun _ _ A hk=>?_)
 refine R.store C U (A.w U U) (A.x U U) (A.x U U) sizeOf423 U U U V (.here .nil) (hk undef _ ⟨QFs.nil, ?_⟩)
 refine Dn<|Xv<|Xf fun hok=>Dt 0 Y<|Dp 1 hok (fun _ _ _ A h=>R.nilCheck C U (A.w U U) (A.x U U) h)<|Db 2 W G423 V U<|Dt 3 Y<|Dp 4 hok (fun _ _ _ A h=>R.nilCheck C U (A.w U U) (A.x U U) h)<|Db 5 W G423 V U<|Dp 6 hok (fun _ _ _ A h=>R.shift C U (A.w U U) (A.x U U) (A.x U U) (b_shlU (n:=17) Dd) h)<|Dj 7 Y5 (b_xorU lB (Nat.mod_lt _ Dd))<|D.fixv (t:=28) (v':= .int .u64 ((xe:Nat):Int)) U (by exact vE)<|Dp 8 hok (fun _ _ _ A h=>R.nilCheck C U (A.w U U) (A.x U U) h)<|De 9 none [false,false] hok (fun _ _ A hk=>?_)
 refine R.store C U (A.w U U) (A.x U U) (A.x U U) sizeOf423 U U U V (.here .nil) (hk undef _ ⟨QFs.nil, ?_⟩)
 refine Dn<|Xm W W<|R.nilCheck C U U U<|Rj W G423 V U<|Ae W<|X.ret C U U func304 U (by exact .tmp U .nil) ?_
 exact hret _ _ [_] _ (RO.le_refl _) ⟨rfl,rfl,rfl⟩ (.refl _)
theorem breakPatterns_c{p:Nat}{sp:List Value}{d:Array Int}{cap a b:Nat}{ro:RO}(hn:d.size≤1000000000)(hab:a≤b)(hb:b≤d.size):CallS J 239 p sp d cap [.int .i64 (a:Int), .int .i64 (b:Int)] ro (.tuple #[]) (breakPatterns d a b):=by
 refine CallS.intro hJ Kr fun c cs tail hret=>?_
 let J:=J
 refine enter_X (n:=65) func239 U U (Nl U) ?_
 have C:Ctx prog main J (bf 239 .normal):=⟨hJ,by decide⟩
 refine Xm W W<|Ro W<|Ri Z (b_sub O O)<|R.fixv (t:=13) (v':= .int .i64 ((b-a:Nat):Int)) U (by(congr 1;omega))<|Ae W<|Xm W W<|Ri Z b_geq<|Zj U (fun h8=>?_) (fun h8=>?_)
 ·obtain⟨len,hlen⟩:∃len,len=b-a:=⟨_,rfl⟩
  obtain⟨idx,hidx⟩:∃idx,idx=a+len/4*2-1:=⟨_,rfl⟩
  obtain⟨md,hmd⟩:∃md,md=2^bitsLen len:=⟨_,rfl⟩
  have hmd2:md≤2*len:=by rw [hmd];exact Go.Sort.two_pow_bitsLen_le O
  have hmd1:1≤md:=by rw [hmd];exact Nat.two_pow_pos _
  have hdef:breakPatterns d a b=(stAt a len md idx (UInt64.ofNat len,d) 3).2:=by
   rw [hmd,hidx,hlen]
   unfold breakPatterns
   simp only [stAt]
   rw [if_pos O,Nat.one_shiftLeft]
   rfl
  rw [hdef] at hret
  rw [←hlen]
  refine Xm W W<|R.convInt C U U U A3 runUnderlying423 (IntWalk.u64_in _ O)<|Al W zeroValue423 U fun p7=>Rs Z sizeOf423 Y V (.here .nil)<|Rz<|Xm W W<|Cp Z (nextPow_c hJ O _)<|R.fixv (t:=19) (v':= .int .u64 ((md:Nat):Int)) U (by rw [hmd])<|Ae W<|Xm W W<|Ro W<|Ri Z (b_quoP O O Dd)<|Ri Z (b_mul O O)<|Rb Y<|Ri Z (b_sub O O)<|R.fixv (t:=25) (v':= .int .i64 ((idx:Nat):Int)) U (by(congr 1;omega))<|Ae W<|Xb ?_
  have hs0:((UInt64.ofNat len).toNat:Int)=(len:Int):=by rw [UInt64.toNat_ofNat'];omega
  refine X.loopI (ι:=Nat) C.1 (fun k=>k≤3) (fun k=> [(0, .slice (some ⟨p,0,none⟩) d.size cap),(1, .int .i64 (a:Int)),(6, .int .i64 (len:Int)),(7, .pointer (some ⟨p7,0,none⟩)),(8, .int .u64 (md:Int)),(9, .int .i64 ((idx+k:Nat):Int))])
   (fun k=>⟨ro,(p7, .cells [.int .u64 ((stAt a len md idx (UInt64.ofNat len,d) k).1.toNat:Int)].toArray 423 (0,0))::(p, .cells (vals (stAt a len md idx (UInt64.ofNat len,d) k).2++sp).toArray 3 (0,0))::tail⟩) (fun k=>3-k) 0 Dd (by simp only [stAt,hs0]) ⟨U,U,U,U,U,U,trivial⟩ fun k hk hnext=>?_
  have hgo:=hnext (k+1)
  have hsz:=stAt_size (a:=a) (len:=len) (modulus:=md) (idx:=idx) (s:=(UInt64.ofNat len,d)) k
  simp only at hgo hsz
  rw [stAt,breakStep] at hgo
  generalize hst:stAt a len md idx (UInt64.ofNat len,d) k=st at hgo hsz⊢
  simp only [Go.Sort.xorNext_toNat] at hgo
  have hrlt:=Go.Sort.xorNextN_lt st.1.toNat st.1.toNat_lt
  have hcall:=xorshift_c hJ (x:=st.1.toNat) (q:=p7) st.1.toNat_lt ro
  generalize xorNextN st.1.toNat=rr at hgo hrlt hcall
  have hov:rr &&& (md-1)≤md-1:=Nat.and_le_right
  refine Xx W<|Oo W W<|Ro W<|Ri Z (b_quoP O O Dd)<|Ri Z (b_mul O O)<|Rb Y<|Rb Y<|Ri Z b_leq<|Zj U (fun hk2=>?_) (fun hk2=>?_)
  ·refine Xz<|Xv<|Xb<|Xu W<|R.call C U U U U U hcall fun v1 ro1 pre1 hle1 hp1=>?_
   obtain⟨rfl,rfl,rfl⟩:=hp1
   obtain⟨o0,ho0⟩:∃o0,o0=rr &&& (md-1):=⟨_,rfl⟩
   rw [←ho0] at hgo hov
   refine Ro W<|Ri Z (b_subU O O)<|R.fixv (t:=38) (v':= .int .u64 ((md-1:Nat):Int)) U (by(congr 1;omega))<|Ri Z (b_andN hrlt O)<|R.fixv (t:=39) (v':= .int .u64 ((o0:Nat):Int)) U (by rw [ho0])<|R.convInt C U U U A299 A3 (wrap64 O O)<|Ae W<|Xx W<|Oo W W<|Ri Z b_geq<|Zj U (fun hge=>?_) (fun hge=>?_)
   ·rw [if_pos O] at hgo
    refine Xg W<|Oo W W<|Ri Z (b_sub O O)<|Ae W<|Xf fun hok=>Dt 0 Y<|Dt 1 Y<|Dt 2 Y<|Dt 3 Y<|Dt 4 Y<|Dj 5 Y5 (b_add O O)<|Dt 6 Y<|Dt 7 Y<|Dt 8 Y<|Dj 9 Y5 (b_add O O)<|Dw 10 Y A58 B3<|Db 11 W G3 V (vals_at (k:=a+(o0-len)) O O)<|Dt 12 Y<|Dt 13 Y<|Dw 14 Y A58 B3<|Db 15 W G3 V (vals_at (k:=idx+k) O O)<|Dw 16 Y A58 B3<|De 17 none [false,false] hok (fun _ _ A hk=>?_)
    refine R.store C U (A.w U U) (A.x U U) (A.x U U) B3 U U U V (vals_put (k:=idx+k) O O) (hk undef _ ⟨QFs.nil, ?_⟩)
    refine Dw 18 Y A58 B3<|De 19 none [] hok (fun _ _ A hk=>?_)
    refine R.store C U (A.w U U) (A.x U U) (A.x U U) B3 U U U V (vals_put (k:=a+(o0-len)) O Zo) (hk undef _ ⟨QFs.nil, ?_⟩)
    refine Dn<|Xi<|Xg W<|Ro W<|Rb Y<|Ae W<|X.weaken ?_ (hgo O O)
    exact⟨rfl,rfl,rfl,rfl,rfl,congrArg (fun z=>some (Value.int .i64 z)) O,trivial⟩
   ·rw [if_neg O] at hgo
    refine Xz<|Xf fun hok=>Dt 0 Y<|Dt 1 Y<|Dt 2 Y<|Dt 3 Y<|Dt 4 Y<|Dj 5 Y5 (b_add O O)<|Dt 6 Y<|Dt 7 Y<|Dt 8 Y<|Dj 9 Y5 (b_add O O)<|Dw 10 Y A58 B3<|Db 11 W G3 V (vals_at (k:=a+(o0)) O O)<|Dt 12 Y<|Dt 13 Y<|Dw 14 Y A58 B3<|Db 15 W G3 V (vals_at (k:=idx+k) O O)<|Dw 16 Y A58 B3<|De 17 none [false,false] hok (fun _ _ A hk=>?_)
    refine R.store C U (A.w U U) (A.x U U) (A.x U U) B3 U U U V (vals_put (k:=idx+k) O O) (hk undef _ ⟨QFs.nil, ?_⟩)
    refine Dw 18 Y A58 B3<|De 19 none [] hok (fun _ _ A hk=>?_)
    refine R.store C U (A.w U U) (A.x U U) (A.x U U) B3 U U U V (vals_put (k:=a+(o0)) O Zo) (hk undef _ ⟨QFs.nil, ?_⟩)
    refine Dn<|Xi<|Xg W<|Ro W<|Rb Y<|Ae W<|X.weaken ?_ (hgo O O)
    exact⟨rfl,rfl,rfl,rfl,rfl,congrArg (fun z=>some (Value.int .i64 z)) O,trivial⟩
  ·obtain rfl:k=3:=by omega
   refine Xe U<|X.drop C.1 (own':=_::tail) (List.sublist_cons_self _ _)<|X.fall C U U func239 U (by exact .nil) ?_
   exact hret _ _ rfl (by rw [hst])
 ·have hdef:breakPatterns d a b=d:=by
   unfold breakPatterns
   simp only
   rw [if_neg O]
  rw [hdef] at hret
  refine Xz<|X.fall C U U func239 U (by exact .nil) ?_
  exact hret _ _ rfl rfl
end Go.Lg.B
namespace Go.Lg.B
open Go Go.Conc Go.Lg Go.Proofs Go.Proofs.Tryz
open Go.Sort (ltInt swp bitsLen SWO pdq pdq_small pdq_heap pdq_done pdq_eq pdq_left pdq_right rd_facts rd_dec rd_not rd_pi_yes rd_pi_no rd_c partitionEqual partition choosePivot Hint)
variable {a b cap lim m n p:Nat}{sp:List Value}{d rr:Array Int}{ro:RO}{wb wp:Bool}{cs:List Frame}{tail:List (Nat×Obj)}{σ:Slots}{c:Frame}{h:Hint}
noncomputable def b174:Code:=Tryz.f174.body.getD .skip
noncomputable def e0:Code:=cB (cB (cB (cR (cR b174))))
noncomputable def e4:Code:=cR (cR (cR (cR e0)))
noncomputable def e6:Code:=cR (cR e4)
noncomputable def e7:Code:=cR e6
noncomputable def lb158:Code:=cB (cB (cR (cR b174)))
def sl158(p n cap a b l:Nat)(wb wp:Bool):Slots:= [(0, .slice (some ⟨p,0,none⟩) n cap),(1, .int .i64 (a:Int)),(2, .int .i64 (b:Int)),(3, .int .i64 (l:Int)),(8, .bool wb),(9, .bool wp)]
def Nx158(J:Goroutine→Mem→Prop)(cs:List Frame)(ro:RO)(tail:List (Nat×Obj))(p n cap:Nat)(sp:List Value)(m:Nat)(rr:Array Int):Prop:=
 ∀ (a b l:Nat) (wb wp:Bool) (d:Array Int),a≤b→b≤n→d.size=n→l≤1000→Go.Sort.Below ltInt a b d→pdq ltInt d a b l wb wp=rr→b-a<m→X J (bf 174 .normal) cs 134 [.inLoop lb158, .inBlock 0] [] (sl158 p n cap a b l wb wp) ⟨ro,(p, .cells (vals d++sp).toArray 3 (0,0))::tail⟩
def Ih174(J:Goroutine→Mem→Prop)(ro:RO)(p n cap:Nat)(sp:List Value)(m:Nat):Prop:=
 ∀ (a b l:Nat) (d:Array Int),a≤b→b≤n→d.size=n→l≤1000→Go.Sort.Below ltInt a b d→b-a<m→
  CallV prog J (fnv 174) [.slice (some ⟨p,0,none⟩) n cap, .int .i64 (a:Int), .int .i64 (b:Int), .int .i64 (l:Int)] ro [(p, .cells (vals d++sp).toArray 3 (0,0))] fun v' ro' pre'=>v'= .tuple #[]∧ro'=ro∧pre'= [(p, .cells (vals (pdq ltInt d a b l true true)++sp).toArray 3 (0,0))]
theorem callS_n{J:Goroutine→Mem→Prop}{f:FuncId}{d':Array Int}{args:List Value}{v:Value}(h:CallS J f p sp d cap args ro v d')(hn:d.size=n):
  CallV prog J (fnv f) (.slice (some ⟨p,0,none⟩) n cap::args) ro [(p, .cells (vals d++sp).toArray 3 (0,0))] fun v' ro' pre'=>v'=v∧ro'=ro∧pre'= [(p, .cells (vals d'++sp).toArray 3 (0,0))]:=by subst hn;exact h
theorem pdq_sz{l:Nat}(hab:a≤b)(hb:b≤d.size)(hB:Go.Sort.Below ltInt a b d):Go.Sort.PermIn a b d (pdq ltInt d a b l wb wp)∧Go.Sort.SortedIn ltInt a b (pdq ltInt d a b l wb wp):=
 Go.Sort.pdq_holds Go.Sort.insertionSort_holds Go.Sort.heapSort_holds Go.Sort.partialInsertionSort_holds (Go.Sort.partition_holds _) (Go.Sort.partitionEqual_holds _) Go.Sort.reverseRange_holds Go.Sort.swo_ltInt d a b l wb wp hab hb hB
variable {main:Bool}{J:Goroutine→Mem→Prop}(hJ:Closed prog main J)
include hJ
theorem pdq3{pv:Nat}(hn:n≤1000000000)(ha:a<b)(hb:b≤n)(hd:d.size=n)(hB:Go.Sort.Below ltInt a b d)(hp1:a≤pv)(hp2:pv<b)(hlim:lim≤1000)(hm:b-a≤m)
  (nx:Nx158 J cs ro tail p n cap sp (b-a) rr) (ih:Ih174 J ro p n cap sp m)
  (h1:(decide (a>0) && !ltInt d[a-1]! d[pv]!)=true→pdq ltInt (partitionEqual ltInt d a b pv).2 (partitionEqual ltInt d a b pv).1 b lim wb wp=rr)
  (h2:(decide (a>0) && !ltInt d[a-1]! d[pv]!)=false→(partition ltInt d a b pv).1-a<b- (partition ltInt d a b pv).1→pdq ltInt (pdq ltInt (partition ltInt d a b pv).2.2 a (partition ltInt d a b pv).1 lim true true) ((partition ltInt d a b pv).1+1) b lim (decide ((partition ltInt d a b pv).1-a≥ (b-a) /8)) (partition ltInt d a b pv).2.1=rr)
  (h3:(decide (a>0) && !ltInt d[a-1]! d[pv]!)=false→¬(partition ltInt d a b pv).1-a<b- (partition ltInt d a b pv).1→pdq ltInt (pdq ltInt (partition ltInt d a b pv).2.2 ((partition ltInt d a b pv).1+1) b lim true true) a (partition ltInt d a b pv).1 lim (decide (b- (partition ltInt d a b pv).1≥ (b-a) /8)) (partition ltInt d a b pv).2.1=rr)
  (hσ:keeps σ ((10, .int .i64 ((b-a:Nat):Int))::(11, .int .i64 (pv:Int))::sl158 p n cap a b lim wb wp)):
  X J (bf 174 .normal) cs 134 [.code e7, .inBlock 1, .inLoop lb158, .inBlock 0] [] σ ⟨ro,(p, .cells (vals d++sp).toArray 3 (0,0))::tail⟩:=by
 refine X.weaken hσ ?_
 have C:Ctx prog main J (bf 174 .normal):=⟨hJ,by decide⟩
 unfold sl158
 refine Xv<|Xv<|Xf fun hok=>Dt 0 Y<|Dj 1 Y5 b_gtr<|Dt 2 Y<|D.fix (t:=75) U (fun hg=>?_) (fun hg=>?_)
 ·simp only [dT] at hg
  refine Dt 3 Y<|Dt 4 Y<|Dj 5 Y5 (b_sub O O)<|Dw 6 Y A58 B3<|Db 7 W G3 V (vals_at (k:=a-1) O O)<|Dt 8 Y<|Dt 9 Y<|Dw 10 Y A58 B3<|Db 11 W G3 V (vals_at (k:=pv) O O)<|De 12 (some 85) [false,false] hok (fun _ _ A hk=>?_)
  refine R.callP C U (A.w U U) (A.x U U) (A.s U U) (less_c hJ _ _ _) (hk _ _ ⟨QFs.nil, ?_⟩)
  refine Dp 13 hok (fun _ _ _ A h=>R.not C U (A.w U U) (A.x U U) h)<|Dp 14 hok (fun _ _ _ A h=>R.pickT C U (A.w U U) (A.x U U) (A.x U U) h)<|Dn<|Xc U (fun hc=>?_) (fun hc=>?_)
  ·have hT:(decide (a>0) && !ltInt d[a-1]! d[pv]!)=true:=by rw [hc,Bool.and_true,decide_eq_true_eq];omega
   have hpc:=callS_n (partitionEqual_c hJ (p:=p) (sp:=sp) (d:=d) (cap:=cap) (a:=a) (b:=b) (pv:=pv) (ro:=ro) O hp1 hp2 O) hd
   obtain⟨mid,d4,hx⟩:∃mid d4,partitionEqual ltInt d a b pv=(mid,d4):=⟨_,_,rfl⟩
   obtain⟨g1,g2,g3,g4,_⟩:=Go.Sort.round_eq Go.Sort.swo_ltInt (Go.Sort.partitionEqual_holds _) O hp1 hp2 O hB (by simpa using hc) hx
   have h1:=h1 hT
   rw [hx] at hpc h1
   simp only at hpc h1
   refine Xm W W<|Oo W W<|Ro W<|R.call C U U U U U hpc fun v1 ro1 pre1 hle1 hq1=>?_
   obtain⟨rfl,rfl,rfl⟩:=hq1
   refine Ae W<|Xm W W<|Ae W<|Xe U<|X.weaken ?_ (nx mid b lim wb wp d4 g2 hb O hlim g4 h1 O)
   exact⟨U,U,U,U,U,U,trivial⟩
  ·have hF:(decide (a>0) && !ltInt d[a-1]! d[pv]!)=false:=by rw [hc,Bool.and_false]
   have hpc:=callS_n (partition_c hJ (p:=p) (sp:=sp) (d:=d) (cap:=cap) (a:=a) (b:=b) (pv:=pv) (ro:=ro) O hp1 hp2 O) hd
   obtain⟨mid,ap,d4,hx⟩:∃mid ap d4,partition ltInt d a b pv=(mid,ap,d4):=⟨_,_,_,rfl⟩
   obtain⟨g1,g2,g3,g4,g5,g6,g7⟩:=Go.Sort.round_part Go.Sort.swo_ltInt (Go.Sort.partition_holds _) hp1 hp2 O hB hx
   rw [hx] at hpc h2 h3
   have h2:=h2 hF
   have h3:=h3 hF
   simp only at hpc h2 h3
   refine Xz<|Xm W W<|Oo W W<|Ro W<|R.call C U U U U U hpc fun v1 ro1 pre1 hle1 hq1=>?_
   obtain⟨rfl,rfl,rfl⟩:=hq1
   refine Ro W<|Re Z<|Re Z<|Rg Y<|Ae W<|Xm W W<|Ae W<|Xm W W<|Ro W<|Ri Z (b_sub O O)<|Oo W W<|Ri Z (b_sub O O)<|Rg Y<|Ae W<|Xm W W<|Ri Z (b_quoP O O Dd)<|Ae W<|Xm W W<|Ro W<|Ri Z b_lss<|Zj U (fun hlt=>?_) (fun hlt=>?_)
   ·have hpd:=pdq_sz (d:=d4) (l:=lim) (wb:=true) (wp:=true) g1 O g4
    have hgl:=(g6 _ hpd.1 hpd.2).1
    have hcall:=ih a mid lim d4 g1 O O hlim g4 O
    refine Xm W W<|Ro W<|Ri Z b_geq<|R.fixv (t:=116) (v':= .bool (decide (mid-a≥ (b-a) /8))) U (by(congr 1;exact decide_eq_decide.2 O))<|Ae W<|Xm W W<|Oo W W<|Ro W<|R.call C U U U U U hcall fun v1 ro1 pre1 hle1 hq1=>Rz<|Xg W ?_
    obtain⟨rfl,rfl,rfl⟩:=hq1
    refine Ro W<|Rb Y<|Ae W<|Xi<|X.weaken ?_ (nx (mid+1) b lim _ ap _ O O (by rw [hpd.1.1];omega) hlim hgl (h2 O) O)
    exact⟨rfl,by simp [look],rfl,rfl,rfl,rfl,trivial⟩
   ·have hpd:=pdq_sz (d:=d4) (a:=mid+1) (b:=b) (l:=lim) (wb:=true) (wp:=true) O O g5
    have hgr:=(g7 _ hpd.1 hpd.2).1
    have hcall:=ih (mid+1) b lim d4 O O O hlim g5 O
    refine Xm W W<|Ro W<|Ri Z b_geq<|R.fixv (t:=126) (v':= .bool (decide (b-mid≥ (b-a) /8))) U (by(congr 1;exact decide_eq_decide.2 O))<|Ae W<|Xm W W<|Ro W<|Rb Y<|R.fixv (t:=129) (v':= .int .i64 ((mid+1:Nat):Int)) U (by rfl)<|Oo W W<|R.call C U U U U U hcall fun v1 ro1 pre1 hle1 hq1=>Rz<|Xg W ?_
    obtain⟨rfl,rfl,rfl⟩:=hq1
    refine Ro W<|Ae W<|Xi<|X.weaken ?_ (nx a mid lim _ ap _ O O (by rw [hpd.1.1];omega) hlim hgr (h3 O) O)
    exact⟨U,U,U,U,U,U,trivial⟩
 ·simp only [dF] at hg
  have hF:(decide (a>0) && !ltInt d[a-1]! d[pv]!)=false:=by rw [decide_eq_false O,Bool.false_and]
  have hpc:=callS_n (partition_c hJ (p:=p) (sp:=sp) (d:=d) (cap:=cap) (a:=a) (b:=b) (pv:=pv) (ro:=ro) O hp1 hp2 O) hd
  obtain⟨mid,ap,d4,hx⟩:∃mid ap d4,partition ltInt d a b pv=(mid,ap,d4):=⟨_,_,_,rfl⟩
  obtain⟨g1,g2,g3,g4,g5,g6,g7⟩:=Go.Sort.round_part Go.Sort.swo_ltInt (Go.Sort.partition_holds _) hp1 hp2 O hB hx
  rw [hx] at hpc h2 h3
  have h2:=h2 hF
  have h3:=h3 hF
  simp only at hpc h2 h3
  refine Dr 3 U<|Dr 4 U<|Dr 5 U<|Dr 6 U<|Dr 7 U<|Dr 8 U<|Dr 9 U<|Dr 10 U<|Dr 11 U<|Dr 12 U<|Dr 13 U<|Dp 14 hok (fun _ _ _ A h=>R.pickF C U (A.w U U) (A.x U U) (A.x U U) h)<|Dn<|Xc U (fun h=>nomatch h) (fun _=>?_)
  refine Xz<|Xm W W<|Oo W W<|Ro W<|R.call C U U U U U hpc fun v1 ro1 pre1 hle1 hq1=>?_
  obtain⟨rfl,rfl,rfl⟩:=hq1
  refine Ro W<|Re Z<|Re Z<|Rg Y<|Ae W<|Xm W W<|Ae W<|Xm W W<|Ro W<|Ri Z (b_sub O O)<|Oo W W<|Ri Z (b_sub O O)<|Rg Y<|Ae W<|Xm W W<|Ri Z (b_quoP O O Dd)<|Ae W<|Xm W W<|Ro W<|Ri Z b_lss<|Zj U (fun hlt=>?_) (fun hlt=>?_)
  ·have hpd:=pdq_sz (d:=d4) (l:=lim) (wb:=true) (wp:=true) g1 O g4
   have hgl:=(g6 _ hpd.1 hpd.2).1
   have hcall:=ih a mid lim d4 g1 O O hlim g4 O
   refine Xm W W<|Ro W<|Ri Z b_geq<|R.fixv (t:=116) (v':= .bool (decide (mid-a≥ (b-a) /8))) U (by(congr 1;exact decide_eq_decide.2 O))<|Ae W<|Xm W W<|Oo W W<|Ro W<|R.call C U U U U U hcall fun v1 ro1 pre1 hle1 hq1=>Rz<|Xg W ?_
   obtain⟨rfl,rfl,rfl⟩:=hq1
   refine Ro W<|Rb Y<|Ae W<|Xi<|X.weaken ?_ (nx (mid+1) b lim _ ap _ O O (by rw [hpd.1.1];omega) hlim hgl (h2 O) O)
   exact⟨rfl,by simp [look],rfl,rfl,rfl,rfl,trivial⟩
  ·have hpd:=pdq_sz (d:=d4) (a:=mid+1) (b:=b) (l:=lim) (wb:=true) (wp:=true) O O g5
   have hgr:=(g7 _ hpd.1 hpd.2).1
   have hcall:=ih (mid+1) b lim d4 O O O hlim g5 O
   refine Xm W W<|Ro W<|Ri Z b_geq<|R.fixv (t:=126) (v':= .bool (decide (b-mid≥ (b-a) /8))) U (by(congr 1;exact decide_eq_decide.2 O))<|Ae W<|Xm W W<|Ro W<|Rb Y<|R.fixv (t:=129) (v':= .int .i64 ((mid+1:Nat):Int)) U (by rfl)<|Oo W W<|R.call C U U U U U hcall fun v1 ro1 pre1 hle1 hq1=>Rz<|Xg W ?_
   obtain⟨rfl,rfl,rfl⟩:=hq1
   refine Ro W<|Ae W<|Xi<|X.weaken ?_ (nx a mid lim _ ap _ O O (by rw [hpd.1.1];omega) hlim hgr (h3 O) O)
   exact⟨U,U,U,U,U,U,trivial⟩
theorem pdqT(hn:n≤1000000000)(h12:¬b-a≤12)(h0:¬lim=0)(hb:b≤n)(hd:d.size=n)(hB:Go.Sort.Below ltInt a b d)(hlim:lim≤1000)(hm:b-a≤m)
  (nx:Nx158 J (c::cs) ro tail p n cap sp (b-a) rr) (ih:Ih174 J ro p n cap sp m) (hR:pdq ltInt d a b lim wb wp=rr) (hpi:(Go.Sort.rd ltInt d a b lim wb wp).pi.2=false)
  (hσ:keeps σ ((10, .int .i64 ((b-a:Nat):Int))::(11, .int .i64 ((Go.Sort.rd ltInt d a b lim wb wp).pivot:Int))::sl158 p n cap a b (Go.Sort.rd ltInt d a b lim wb wp).lim wb wp)):
  X J (bf 174 .normal) (c::cs) 134 [.code e7, .inBlock 1, .inLoop lb158, .inBlock 0] [] σ ⟨ro,(p, .cells (vals (Go.Sort.rd ltInt d a b lim wb wp).pi.1++sp).toArray 3 (0,0))::tail⟩:=by
 obtain⟨s1,B1,c1,s2,B2,pv,s3,B3⟩:=rd_facts (wb:=wb) (wp:=wp) (limit:=lim) Go.Sort.swo_ltInt Go.Sort.partialInsertionSort_holds Go.Sort.reverseRange_holds (show a<b by omega) (show b≤d.size by omega) hB
 have hlimle:=Go.Sort.rd_lim_le (lt:=ltInt) (d:=d) (a:=a) (b:=b) (limit:=lim) (wb:=wb) (wp:=wp)
 have hpt:=Go.Sort.round_part Go.Sort.swo_ltInt (Go.Sort.partition_holds _) pv.1 pv.2 (by rw [s3];omega) B3 (show Go.Sort.partition ltInt (Go.Sort.rd ltInt d a b lim wb wp).pi.1 a b (Go.Sort.rd ltInt d a b lim wb wp).pivot=(_,_,_) from rfl)
 refine pdq3 hJ hn O hb (by rw [s3];exact hd) B3 pv.1 pv.2 O hm nx ih (fun hT=>?_) (fun hF hlt=>?_) (fun hF hlt=>?_) hσ
 ·have hT':=hT
  simp only [Bool.and_eq_true,decide_eq_true_eq,Bool.not_eq_true'] at hT'
  have he:=Go.Sort.round_eq Go.Sort.swo_ltInt (Go.Sort.partitionEqual_holds _) hT'.1 pv.1 pv.2 (by rw [s3];omega) B3 hT'.2 (show Go.Sort.partitionEqual ltInt (Go.Sort.rd ltInt d a b lim wb wp).pi.1 a b (Go.Sort.rd ltInt d a b lim wb wp).pivot=(_,_) from rfl)
  exact(pdq_eq h12 h0 hpi hT ⟨he.1,he.2.1⟩).symm.trans hR
 ·exact(pdq_left h12 h0 hpi hF ⟨hpt.1,hpt.2.1⟩ hlt).symm.trans hR
 ·exact(pdq_right h12 h0 hpi hF ⟨hpt.1,hpt.2.1⟩ hlt).symm.trans hR
omit hJ in
theorem hintZ_one:(hintZ h==1)=true↔h= .increasing:=by cases h<;>simp [hintZ]
omit hJ in
theorem hintZ_two:(hintZ h==2)=true↔h= .decreasing:=by cases h<;>simp [hintZ]
theorem pdq2(hn:n≤1000000000)(h12:¬b-a≤12)(h0:¬lim=0)(hb:b≤n)(hd:d.size=n)(hB:Go.Sort.Below ltInt a b d)(hlim:lim≤1000)(hm:b-a≤m)
  (nx:Nx158 J (c::cs) ro tail p n cap sp (b-a) rr) (ih:Ih174 J ro p n cap sp m) (hR:pdq ltInt d a b lim wb wp=rr) (hret:BackS J c cs ro tail p sp (.tuple #[]) rr)
  (hσ:keeps σ ((10, .int .i64 ((b-a:Nat):Int))::(11, .int .i64 ((Go.Sort.rd ltInt d a b lim wb wp).pivot:Int))::(12, .int .i64 (hintZ (Go.Sort.rd ltInt d a b lim wb wp).hint))::sl158 p n cap a b (Go.Sort.rd ltInt d a b lim wb wp).lim wb wp)):
  X J (bf 174 .normal) (c::cs) 134 [.code e6, .inBlock 1, .inLoop lb158, .inBlock 0] [] σ ⟨ro,(p, .cells (vals (Go.Sort.rd ltInt d a b lim wb wp).d2++sp).toArray 3 (0,0))::tail⟩:=by
 obtain⟨s1,B1,c1,s2,B2,pv,s3,B3⟩:=rd_facts (wb:=wb) (wp:=wp) (limit:=lim) Go.Sort.swo_ltInt Go.Sort.partialInsertionSort_holds Go.Sort.reverseRange_holds (show a<b by omega) (show b≤d.size by omega) hB
 refine X.weaken hσ ?_
 have C:Ctx prog main J (bf 174 .normal):=⟨hJ,by decide⟩
 unfold sl158
 refine Xx W<|Oo W W<|R.fix (t:=62) U (fun hw=>?_) (fun hw=>?_)
 ·subst hw
  refine Ro W<|Pp Z<|Ro W<|R.fix (t:=65) U (fun hw2=>?_) (fun hw2=>?_)
  ·subst hw2
   refine Ro W<|Ri Z b_eql<|Pp Z<|Zc U (fun hh=>?_) (fun hh=>?_)
   ·have hh':=hintZ_one.1 hh
    have hpi:(Go.Sort.rd ltInt d a b lim true true).pi=Go.Sort.partialInsertionSort ltInt (Go.Sort.rd ltInt d a b lim true true).d2 a b:=rd_pi_yes (by simp [hh'])
    have hdone:=fun h=>(pdq_done h12 h0 h).symm.trans hR
    have htl:=fun h σ=>pdqT hJ (σ:=σ) hn h12 h0 hb hd hB hlim hm nx ih hR h
    have s2':=s2.trans hd
    generalize(Go.Sort.rd ltInt d a b lim true true).d2=d2 at hpi s2'⊢
    generalize(Go.Sort.rd ltInt d a b lim true true).pi=pi at hpi hdone htl
    generalize(Go.Sort.rd ltInt d a b lim true true).pivot=pvv at htl⊢
    generalize(Go.Sort.rd ltInt d a b lim true true).lim=lim2 at htl⊢
    have hpc:=callS_n (partialIns_c hJ (p:=p) (sp:=sp) (d:=d2) (cap:=cap) (a:=a) (b:=b) (ro:=ro) O O O) s2'
    rw [←hpi] at hpc
    refine Xm W W<|Oo W W<|R.call C U U U U U hpc fun v1 ro1 pre1 hle1 hq1=>Rz ?_
    obtain⟨rfl,rfl,rfl⟩:=hq1
    refine Xc U (fun hdn=>?_) (fun hdn=>?_)
    ·have e:=hdone hdn
     refine X.ret C U U func174 U (by exact .nil) ?_
     exact hret _ _ rfl e
    ·refine Xz<|htl hdn _ ?_
     exact⟨U,U,U,U,U,U,U,U,trivial⟩
   ·have hh':¬(Go.Sort.rd ltInt d a b lim true true).hint= .increasing:=fun e=>by rw [hintZ_one.2 e] at hh;cases hh
    refine Xz ?_
    have hpi:(Go.Sort.rd ltInt d a b lim true true).pi=((Go.Sort.rd ltInt d a b lim true true).d2,false):=rd_pi_no (by simp [hh'])
    rw [show(Go.Sort.rd ltInt d a b lim true true).d2=(Go.Sort.rd ltInt d a b lim true true).pi.1 by rw [hpi]]
    refine pdqT hJ hn h12 h0 hb hd hB hlim hm nx ih hR (by rw [hpi]) ?_
    exact⟨U,U,U,U,U,U,U,U,trivial⟩
  ·subst hw2
   refine Rp W<|Rp W<|Pf Z<|Zc U (fun h=>nomatch h) (fun _=>?_)
   refine Xz ?_
   have hpi:(Go.Sort.rd ltInt d a b lim true false).pi=((Go.Sort.rd ltInt d a b lim true false).d2,false):=rd_pi_no Zi
   rw [show(Go.Sort.rd ltInt d a b lim true false).d2=(Go.Sort.rd ltInt d a b lim true false).pi.1 by rw [hpi]]
   refine pdqT hJ hn h12 h0 hb hd hB hlim hm nx ih hR (by rw [hpi]) ?_
   exact⟨U,U,U,U,U,U,U,U,trivial⟩
 ·subst hw
  refine Rp W<|Pf Z<|Ro W<|Rp W<|Rp W<|Pf Z<|Zc U (fun h=>nomatch h) (fun _=>?_)
  refine Xz ?_
  have hpi:(Go.Sort.rd ltInt d a b lim false wp).pi=((Go.Sort.rd ltInt d a b lim false wp).d2,false):=rd_pi_no Zi
  rw [show(Go.Sort.rd ltInt d a b lim false wp).d2=(Go.Sort.rd ltInt d a b lim false wp).pi.1 by rw [hpi]]
  refine pdqT hJ hn h12 h0 hb hd hB hlim hm nx ih hR (by rw [hpi]) ?_
  exact⟨U,U,U,U,U,U,U,U,trivial⟩
theorem pdq1(hn:n≤1000000000)(h12:¬b-a≤12)(h0:¬lim=0)(hb:b≤n)(hd:d.size=n)(hB:Go.Sort.Below ltInt a b d)(hlim:lim≤1000)(hm:b-a≤m)
  (nx:Nx158 J (c::cs) ro tail p n cap sp (b-a) rr) (ih:Ih174 J ro p n cap sp m) (hR:pdq ltInt d a b lim wb wp=rr) (hret:BackS J c cs ro tail p sp (.tuple #[]) rr)
  (hσ:keeps σ ((10, .int .i64 ((b-a:Nat):Int))::sl158 p n cap a b (Go.Sort.rd ltInt d a b lim wb wp).lim wb wp)):
  X J (bf 174 .normal) (c::cs) 134 [.code e4, .inBlock 1, .inLoop lb158, .inBlock 0] [] σ ⟨ro,(p, .cells (vals (Go.Sort.rd ltInt d a b lim wb wp).d1++sp).toArray 3 (0,0))::tail⟩:=by
 obtain⟨s1,B1,c1,s2,B2,pv,s3,B3⟩:=rd_facts (wb:=wb) (wp:=wp) (limit:=lim) Go.Sort.swo_ltInt Go.Sort.partialInsertionSort_holds Go.Sort.reverseRange_holds (show a<b by omega) (show b≤d.size by omega) hB
 refine X.weaken hσ ?_
 have C:Ctx prog main J (bf 174 .normal):=⟨hJ,by decide⟩
 unfold sl158
 have htl:=fun σ=>pdq2 hJ (σ:=σ) hn h12 h0 hb hd hB hlim hm nx ih hR hret
 have hdec:=rd_dec (lt:=ltInt) (d:=d) (a:=a) (b:=b) (limit:=lim) (wb:=wb) (wp:=wp)
 have hnot:=rd_not (lt:=ltInt) (d:=d) (a:=a) (b:=b) (limit:=lim) (wb:=wb) (wp:=wp)
 have hc:(Go.Sort.rd ltInt d a b lim wb wp).c=choosePivot ltInt (Go.Sort.rd ltInt d a b lim wb wp).d1 a b:=rd_c
 have s1':=s1.trans hd
 generalize(Go.Sort.rd ltInt d a b lim wb wp).c=cc at hc hdec hnot c1
 generalize(Go.Sort.rd ltInt d a b lim wb wp).d1=d1 at hc hdec hnot s1'⊢
 generalize(Go.Sort.rd ltInt d a b lim wb wp).d2=d2 at hdec hnot htl
 generalize(Go.Sort.rd ltInt d a b lim wb wp).pivot=pvv at hdec hnot htl
 generalize(Go.Sort.rd ltInt d a b lim wb wp).hint=hh at hdec hnot htl
 generalize(Go.Sort.rd ltInt d a b lim wb wp).lim=lim2 at htl⊢
 have hpc:=callS_n (choosePivot_c hJ (p:=p) (sp:=sp) (d:=d1) (cap:=cap) (a:=a) (b:=b) (ro:=ro) O O O) s1'
 rw [←hc] at hpc
 have hpr:=callS_n (reverseRange_c hJ (p:=p) (sp:=sp) (d:=d1) (cap:=cap) (a:=a) (b:=b) (ro:=ro) O O O) s1'
 refine Xm W W<|Oo W W<|R.call C U U U U U hpc fun v1 ro1 pre1 hle1 hq1=>?_
 obtain⟨rfl,rfl,rfl⟩:=hq1
 refine Ro W<|Re Z<|Re Z<|Rg Y<|Ae W<|Xx W<|Ro W<|Ri Z b_eql<|Zc U (fun hdc=>?_) (fun hdc=>?_)
 ·obtain⟨q1,q2,q3⟩:=hdec (hintZ_two.1 hdc)
  subst q1;subst q2;subst q3
  refine Xm W W<|Oo W W<|R.call C U U U U U hpr fun v1 ro1 pre1 hle1 hq1=>Rz<|Xu W ?_
  obtain⟨rfl,rfl,rfl⟩:=hq1
  refine Ro W<|Ri Z (b_sub O O)<|Oo W W<|Ri Z (b_sub O O)<|Ri Z (b_sub O O)<|Ae W<|Xg W<|Ae W<|htl _ ?_
  exact⟨rfl,congrArg (fun z=>some (Value.int .i64 z)) O,rfl,rfl,rfl,rfl,rfl,rfl,rfl,trivial⟩
 ·obtain⟨q1,q2,q3⟩:=hnot (fun e=>by rw [hintZ_two.2 e] at hdc;cases hdc)
  subst q1;subst q2;subst q3
  refine Xz<|htl _ ?_
  exact⟨U,U,U,U,U,U,U,U,U,trivial⟩
theorem pdq_step(hn:n≤1000000000)(ih:Ih174 J ro p n cap sp m):Ih174 J ro p n cap sp (m+1):=by
 intro a0 b0 l0 d0 hab0 hb0 hd0 hl0 hB0 hm0
 obtain⟨rr,hrr⟩:∃rr,rr=pdq ltInt d0 a0 b0 l0 true true:=⟨_,rfl⟩
 rw [←hrr]
 refine callS_n (CallS.intro hJ (p:=p) (sp:=sp) (d:=d0) (cap:=cap) Kr fun c cs tail hret=>?_) hd0
 rw [hd0]
 let J:=J
 refine enter_X (n:=134) func174 U U (Nl U) ?_
 have C:Ctx prog main J (bf 174 .normal):=⟨hJ,by decide⟩
 refine Xo W W<|Xo W W<|Xb<|X.loopI (ι:=Nat×Nat×Nat×Bool×Bool×Array Int) C.1 (fun s=>s.1≤s.2.1∧s.2.1≤n∧s.2.2.2.2.2.size=n∧s.2.2.1≤1000∧Go.Sort.Below ltInt s.1 s.2.1 s.2.2.2.2.2∧pdq ltInt s.2.2.2.2.2 s.1 s.2.1 s.2.2.1 s.2.2.2.1 s.2.2.2.2.1=rr∧s.2.1-s.1≤m) (fun s=>sl158 p n cap s.1 s.2.1 s.2.2.1 s.2.2.2.1 s.2.2.2.2.1)
  (fun s=>⟨ro,(p, .cells (vals s.2.2.2.2.2++sp).toArray 3 (0,0))::tail⟩) (fun s=>s.2.1-s.1) (a0,b0,l0,true,true,d0) ⟨hab0,hb0,hd0,hl0,hB0,hrr.symm,by show b0-a0≤m;omega⟩ rfl ⟨U,U,U,U,U,U,trivial⟩ fun s hs hnext=>?_
 obtain⟨a,b,lim,wb,wp,d⟩:=s
 obtain⟨hab,hb,hd,hlim,hB,hR,hm⟩:=hs
 simp only at hab hb hd hlim hB hR hm hnext⊢
 have nx:Nx158 J (c::cs) ro tail p n cap sp (b-a) rr:=fun a' b' l' wb' wp' d' k1 k2 k3 k4 k5 k6 k7=>hnext (a',b',l',wb',wp',d') ⟨k1,k2,k3,k4,k5,k6,by show b'-a'≤m;omega⟩ k7
 have hpi:=callS_n (insertionSort_c hJ (p:=p) (sp:=sp) (d:=d) (cap:=cap) (a:=a) (b:=b) (ro:=ro) O hab O) hd
 have hph:=callS_n (heapSort_c hJ (p:=p) (sp:=sp) (d:=d) (cap:=cap) (a:=a) (b:=b) (ro:=ro) O hab O) hd
 have hpb:=callS_n (breakPatterns_c hJ (p:=p) (sp:=sp) (d:=d) (cap:=cap) (a:=a) (b:=b) (ro:=ro) O hab O) hd
 unfold sl158
 refine Xb<|Xm W W<|Ro W<|Ri Z (b_sub O O)<|R.fixv (t:=21) (v':= .int .i64 ((b-a:Nat):Int)) U (by(congr 1;omega))<|Ae W<|Xx W<|Ro W<|Ri Z b_leq<|Zj U (fun h12=>?_) (fun h12=>?_)
 ·rw [pdq_small O] at hR
  refine Xm W W<|Oo W W<|R.call C U U U U U hpi fun v1 ro1 pre1 hle1 hq1=>Rz ?_
  obtain⟨rfl,rfl,rfl⟩:=hq1
  refine X.ret C U U func174 U (by exact .nil) ?_
  exact hret _ _ rfl hR
 ·have h12':¬b-a≤12:=O
  refine Xz<|Xx W<|Ro W<|Ri Z b_eql<|Zc U (fun h0=>?_) (fun h0=>?_)
  ·have h0':lim=0:=by simpa using h0
   rw [pdq_heap h12' h0'] at hR
   refine Xm W W<|Oo W W<|R.call C U U U U U hph fun v1 ro1 pre1 hle1 hq1=>Rz ?_
   obtain⟨rfl,rfl,rfl⟩:=hq1
   refine X.ret C U U func174 U (by exact .nil) ?_
   exact hret _ _ rfl hR
  ·have h0':¬lim=0:=by simpa using h0
   refine Xz<|Xx W<|Ro W<|Rh Y<|Zc U (fun hw=>?_) (fun hw=>?_)
   ·have hw':wb=false:=by simpa using hw
    subst hw'
    refine Xm W W<|Oo W W<|R.call C U U U U U hpb fun v1 ro1 pre1 hle1 hq1=>Rz<|Xg W ?_
    obtain⟨rfl,rfl,rfl⟩:=hq1
    refine Ro W<|Ri Z (b_sub O O)<|Ae W<|pdq1 hJ hn h12' h0' hb hd hB hlim hm nx ih hR hret ?_
    exact⟨rfl,rfl,rfl,rfl,congrArg (fun z=>some (Value.int .i64 z)) (by show(lim:Int) -1=((lim-1:Nat):Int);omega),rfl,rfl,trivial⟩
   ·have hw':wb=true:=by simpa using hw
    subst hw'
    refine Xz<|pdq1 hJ hn h12' h0' hb hd hB hlim hm nx ih hR hret ?_
    exact⟨U,U,U,U,U,U,U,trivial⟩
theorem pdq_all{p n cap:Nat}{sp:List Value}{ro:RO}(hn:n≤1000000000):∀m,Ih174 J ro p n cap sp m
 |0=>fun _ _ _ _ _ _ _ _ _ h=>absurd h (Nat.not_lt_zero _)
 |m+1=>pdq_step hJ hn (pdq_all hn m)
theorem sort_c{l:List Int}(hn:l.length≤1000000000):CallV prog J (fnv 80) [.slice (some ⟨p,0,none⟩) l.length cap] ro [(p, .cells (l.flatMap ic++sp).toArray 3 (0,0))] fun v' ro' pre'=>v'= .tuple #[]∧ro'=ro∧pre'= [(p, .cells ((l.mergeSort fun x y=>decide (x≤y)).flatMap ic++sp).toArray 3 (0,0))]:=by
 have hfl:∀l:List Int,l.flatMap ic=vals l.toArray:=fun l=>by
  unfold vals
  induction l with
  |nil=>rfl
  |cons x l ih=>simpa [ic] using ih
 have hpw:∀k,30≤k→l.length<2^k:=fun k hk=>Nat.lt_of_le_of_lt hn (Nat.lt_of_lt_of_le (show 1000000000<2^30 by decide) (Nat.pow_le_pow_right Dd hk))
 have hkl:∀k,30≤k→bitsLen l.length≤k:=fun k hk=>(Go.Sort.bitsLen_le_iff _ _).2 (hpw k hk)
 have hbl:bitsLen l.length≤1000:=hkl _ Dd
 have hpc:=pdq_all hJ (p:=p) (cap:=cap) (sp:=sp) (ro:=ro) hn (l.length+1) 0 l.length (bitsLen l.length) l.toArray (Nat.zero_le _) (Nat.le_refl _) Zi hbl (.inl rfl) O
 have hsort:pdq ltInt l.toArray 0 l.length (bitsLen l.length) true true=(l.mergeSort fun x y=>decide (x≤y)).toArray:=by
  have h:=Go.Sort.sortInt_holds (Go.Sort.sort_holds (Go.Sort.pdq_holds Go.Sort.insertionSort_holds Go.Sort.heapSort_holds Go.Sort.partialInsertionSort_holds (Go.Sort.partition_holds _) (Go.Sort.partitionEqual_holds _) Go.Sort.reverseRange_holds)) l
  unfold Go.Sort.sort at h
  simp only [List.size_toArray] at h
  rw [←h]
 rw [hsort] at hpc
 rw [hfl,hfl]
 refine CallV.intro (first:= []) (cap:= []) hJ Kr fun c cs tail hret=>?_
 let J:=J
 refine enter_X (n:=11) func80 U U (Nl U) ?_
 have C:Ctx prog main J (bf 80 .normal):=⟨hJ,by decide⟩
 refine Xm W W<|Rt W A58<|Ae W<|Xg W<|Oo W W<|Ro W<|R.convInt C U U U A3 A299 (IntWalk.u64_in _ O)<|Cp Z (len_c hJ O _)<|R.call C U U U U U hpc fun v1 ro1 pre1 hle1 hq1=>Rz ?_
 obtain⟨rfl,rfl,rfl⟩:=hq1
 refine X.fall C U U func80 U (by exact .nil) ?_
 exact hret _ _ [_] _ (RO.le_refl _) ⟨rfl,rfl,rfl⟩ (.refl _)
end Go.Lg.B
namespace Go.Lg
open Go Go.Conc
section
variable {P:Program}{main:Bool}{J:Goroutine→Mem→Prop}{b:Frame}(C:Ctx P main J b){cs:List Frame}{n:Nat}{ds:List Deferred}{σ:Slots}{ro:RO}{own:List (Nat×Obj)}{k:List Item}{ops:Array Oper}{i:Nat}{rest:List Nat}
 {dst:Option Nat} {ty:TypeId} {pos:String} {af:Array Edge} {g:Option (Nat×Bool)}
include C
theorem R.clearS{t e:TypeId}{tt:TypeId}{x:Operand}{bb off len cap:Nat}{z:Value}{vs l l':List Value}{own':List (Nat×Obj)}(ho:ops[i]? =some ⟨dst, .call ⟨.builtin .clear, #[x], #[t]⟩,ty,pos,af,g⟩)(hg:wantedS ops σ ⟨dst, .call ⟨.builtin .clear, #[x], #[t]⟩,ty,pos,af,g⟩=some true)
  (hx:ev σ x=some (.slice (some ⟨bb,off,none⟩) (len+1) cap)) (hu:∀w,Sem.run P (Go.underlying t) w= .ok (.slice e) w) (hz:∀w,Sem.run P (Go.zeroValue e) w= .ok z w) (hvs:(Builtin.zeroCells z.cells (len+1)).toList=vs) (h1:ones vs=true)
  (hup:Upd own bb (.cells l.toArray tt (0,0)) (.cells l'.toArray tt (0,0)) own') (hp:Put off vs l l')
  (h:R J b cs n ops rest k ds (putS dst (.tuple #[]) σ) ⟨ro,own'⟩):R J b cs n ops (i::rest) k ds σ ⟨ro,own⟩:=
 R.op C ho hg rfl fun a ha=>by
  unfold execOp
  refine Sm.bind ?_
  unfold resolve
  refine Sm.pure ?_
  unfold invoke builtin Builtin.clear_
  simp only [List.map_toArray,List.map_cons,List.map_nil,ha.ev hx,List.getElem?_toArray,List.getElem?_cons_zero]
  refine Sm.bind (Sm.bind (Sm.underlying hu ?_))
  simp only
  refine Sm.bind (Sm.zeroValue hz ?_)
  rw [hvs]
  refine Sm.bind (Sm.storeCells_own (M:=⟨ro,own⟩) vs 0 hup (by simpa using hp) h1 ?_)
  exact Sm.pure (Sm.pure h)
end
end Go.Lg
namespace Go.Lg.B
open Go Go.Conc Go.Lg Go.Proofs Go.Proofs.Tryz
variable {c l xs:List Int}{i k:Nat}{sp:List Value}{x z:Int}
theorem compact_take(h:i<l.length):compactL (l.take (i+1))=cstep (compactL (l.take i)) l[i]:=by
 unfold compactL
 rw [List.take_succ_eq_append_getElem h,List.foldl_append];rfl
theorem compact_last(h:i<l.length):(compactL (l.take (i+1))).getLast? =some l[i]:=by
 rw [compact_take h]
 unfold cstep
 split
 ·assumption
 ·simp
theorem compact_len(l:List Int):∀i,(compactL (l.take i)).length≤i
 |0=>by simp [compactL]
 |i+1=>by
  by_cases h:i<l.length
  ·rw [compact_take h]
   have:=compact_len l i
   unfold cstep;split<;>simp<;>omega
  ·rw [List.take_of_length_le O]
   have:=compact_len l i
   rw [List.take_of_length_le O] at this
   omega
theorem compact_same(h:i+1<l.length)(e:l[i+1]=l[i]):compactL (l.take (i+2))=compactL (l.take (i+1)):=by
 rw [compact_take h,cstep,if_pos (by rw [compact_last O,e])]
theorem compact_new(h:i+1<l.length)(e:l[i+1]≠l[i]):compactL (l.take (i+2))=compactL (l.take (i+1))++ [l[i+1]]:=by
 rw [compact_take h,cstep,if_neg (by rw [compact_last O];intro h;exact e (Option.some.inj h).symm)]
def mixed(l c:List Int):List Int:=c++l.drop c.length
theorem mixed_len(h:c.length≤l.length):(mixed l c).length=l.length:=by simp [mixed];omega
theorem mixed_at{j:Nat}(h:c.length≤j)(hj:j<l.length):(mixed l c)[j]? =some l[j]:=by
 unfold mixed
 rw [List.getElem?_append_right h,List.getElem?_drop,show c.length+(j-c.length)=j by omega,List.getElem?_eq_getElem hj]
theorem ints_at{off:Nat}(hz:(off:Int)+z=(k:Int))(h0:0≤z)(hx:xs[k]? =some x):(xs.flatMap ic++sp)[off+z.toNat*1]? =some (.int .i64 x):=by
 have hk:off+z.toNat*1=k:=O
 have hl:k<xs.length:=(List.getElem?_eq_some_iff.1 hx).1
 rw [hk,List.getElem?_append_left (by rw [flat_len];exact hl)]
 have:∀ (l:List Int) (k:Nat),(l.flatMap ic)[k]? =(l[k]?).map (Value.int .i64):=by
  intro l
  induction l with
  |nil=>intro k;simp
  |cons y l ih=>intro k;cases k with
   |zero=>simp [ic]
   |succ k=>simpa [ic] using ih k
 rw [this,hx];rfl
theorem mixed_set(x:Int)(h:c.length<l.length):(mixed l c).set c.length x=mixed l (c++ [x]):=by
 unfold mixed
 rw [List.set_append_right _ _ (Nat.le_refl _),Nat.sub_self]
 have e:=List.drop_eq_getElem_cons h
 rw [e,List.set_cons_zero]
 simp
theorem ints_put(hz:z=(k:Int))(hk:k<xs.length):Put (0+z.toNat*1) [.int .i64 x] (xs.flatMap ic++sp) ((xs.set k x).flatMap ic++sp):=by
 subst hz
 have:=put_at (xs.flatMap ic) k (.int .i64 x) sp (by rw [flat_len];exact hk)
 have e:∀ (l:List Int) (k:Nat),(l.set k x).flatMap ic=(l.flatMap ic).set k (.int .i64 x):=by
  intro l
  induction l with
  |nil=>intro k;simp
  |cons y l ih=>intro k;cases k with
   |zero=>simp [ic]
   |succ k=>simpa [ic] using ih k
 rw [Int.toNat_natCast,Nat.mul_one,Nat.zero_add,e]
 exact this
theorem zero_ints(m:Nat):(Builtin.zeroCells (Value.int .i64 0).cells m).toList=(List.replicate m (0:Int)).flatMap ic:=by
 unfold Builtin.zeroCells
 have e:(Value.int .i64 0).cells= #[.int .i64 0]:=rfl
 rw [e]
 apply List.ext_getElem
 ·rw [flat_len];simp
 ·intro i h1 h2
  have hr:∀ (m i:Nat) (h:i<((List.replicate m (0:Int)).flatMap ic).length),((List.replicate m (0:Int)).flatMap ic)[i]= .int .i64 0:=by
   intro m
   induction m with
   |zero=>intro i h;simp at h
   |succ m ih=>intro i h;cases i with
    |zero=>simp [List.replicate_succ,ic]
    |succ i=>simp only [List.replicate_succ,List.flatMap_cons,ic,List.singleton_append,List.getElem_cons_succ];exact ih i _
  rw [hr]
  simp [Nat.mod_one]
theorem clear_put(h:c.length≤l.length):Put c.length ((List.replicate (l.length-c.length) (0:Int)).flatMap ic) ((mixed l c).flatMap ic++sp) (c.flatMap ic++((List.replicate (l.length-c.length) (0:Int)).flatMap ic++sp)):=by
 have:=Put.mid (c.flatMap ic) ((List.replicate (l.length-c.length) (0:Int)).flatMap ic) ((l.drop c.length).flatMap ic++sp) (by rw [flat_len,List.length_append,flat_len,List.length_replicate,List.length_drop];omega)
 rw [flat_len] at this
 have e:(mixed l c).flatMap ic++sp=c.flatMap ic++((l.drop c.length).flatMap ic++sp):=by simp [mixed,List.flatMap_append]
 rw [e]
 have e2:((l.drop c.length).flatMap ic++sp).drop ((List.replicate (l.length-c.length) (0:Int)).flatMap ic).length=sp:=by
  rw [flat_len,List.length_replicate,List.drop_append_of_le_length (by rw [flat_len];simp),List.drop_of_length_le (by rw [flat_len];simp)];rfl
 rw [e2] at this
 exact this
variable {main:Bool}{J:Goroutine→Mem→Prop}(hJ:Closed prog main J)
include hJ
theorem compact_c{p cap:Nat}{ro:RO}(hn:l.length≤1000000000)(hcap:l.length≤cap):CallV prog J (fnv 81) [.slice (some ⟨p,0,none⟩) l.length cap] ro [(p, .cells (l.flatMap ic++sp).toArray 3 (0,0))] fun v' ro' pre'=>v'= .slice (some ⟨p,0,none⟩) (compactL l).length cap∧ro'=ro∧∃r:List Value,pre'= [(p, .cells ((compactL l).flatMap ic++r).toArray 3 (0,0))]:=by
 refine CallV.intro (first:= []) (cap:= []) hJ Kr fun c cs tail hret=>?_
 let J:=J
 have hself:compactL l=l→Go.Lg.BackV J c cs ro tail (fun v' ro' pre'=>v'= .slice (some ⟨p,0,none⟩) l.length cap∧ro'=ro∧pre'= [(p, .cells (l.flatMap ic++sp).toArray 3 (0,0))]):=fun e v ro' pre' own hl hp hs=>by
  obtain⟨h1,h2,h3⟩:=hp
  exact hret v ro' pre' own hl ⟨by rw [e];exact h1,h2,sp,by rw [e];exact h3⟩ hs
 refine enter_X (n:=61) F81 U U (Nl U) ?_
 have C:Ctx prog main J (bf 81 .normal):=⟨hJ,by decide⟩
 refine Xo W W<|Xx W<|Ro W<|Rt W A58<|Ri Z b_lss<|Zj U (fun h2=>?_) (fun h2=>?_)
 ·have e:compactL l=l:=by
   match l,h2 with
   | [],_=>rfl
   | [x],_=>rfl
   |_::_::_,h=>simp at h;omega
  refine Xm W W<|Ae W<|X.ret C U U F81 U (by exact .tmp U .nil) ?_
  exact hself e _ _ [_] _ (RO.le_refl _) ⟨rfl,rfl,rfl⟩ (.refl _)
 ·refine Xz<|Xx W<|Ae W<|Xb<|X.loopI (ι:=Nat) C.1 (fun k=>1≤k∧k≤l.length∧compactL (l.take k)=l.take k) (fun k=> [(0, .slice (some ⟨p,0,none⟩) l.length cap),(3, .int .i64 (k:Int))])
   (fun _=>⟨ro,(p, .cells (l.flatMap ic++sp).toArray 3 (0,0))::tail⟩) (fun k=>l.length-k) 1 ⟨Nat.le_refl _,O,by
    cases l with
    |nil=>simp at h2
    |cons x l=>rfl⟩ rfl ⟨U,U,trivial⟩ fun k hs hnext=>?_
  obtain⟨hk1,hk2,hk3⟩:=hs
  refine Xx W<|Oo W W<|Rt W A58<|Ri Z b_lss<|Zj U (fun hlt=>?_) (fun hlt=>?_)
  ·have hk':k<l.length:=O
   refine Xz<|Xv<|Xb<|Xv<|Xf fun hok=>Dt 0 Y<|Dt 1 Y<|Dw 2 Y A58 B3<|Db 3 W G3 V (ints_at (off:=0) (k:=k) (x:=l[k]) O O (List.getElem?_eq_getElem hk')) ?_;refine Dt 4 Y<|Dt 5 Y<|Dj 6 Y5 (b_sub O O)<|Dw 7 Y A58 B3<|Db 8 W G3 V (ints_at (off:=0) (k:=k-1) (x:=l[k-1]) O O (List.getElem?_eq_getElem O)) ?_;refine Dj 9 Y5 b_eql<|Dn ?_
   obtain⟨q,rfl⟩:∃q,k=q+1:=⟨k-1,O⟩
   refine Xc U (fun he=>?_) (fun he=>?_)
   ·have he':l[q+1]=l[q]:=by simpa using he
    refine Xm W W<|Ro W<|R.sliceFrom C U U U U A58 B3 O O<|Ae W<|Xx W<|Ae W<|Xb ?_
    obtain⟨bs,hbs⟩:∃bs,bs=(if cap=(((q+1:Nat):Int)).toNat then some (⟨p,0,none⟩:Addr) else(some (⟨p,0,none⟩:Addr)).map (·.add ((((q+1:Nat):Int)).toNat*1))):=⟨_,rfl⟩
    have hbs2:bs=some ⟨p,q+1,none⟩:=by
     rw [hbs,if_neg O]
     show some (Addr.add ⟨p,0,none⟩ _)=_
     rw [add_addr]
     congr 2
     omega
    have hC1:compactL (l.take (q+1+1))=l.take (q+1):=by rw [compact_same hk' he',hk3]
    have hM1:mixed l (l.take (q+1))=l:=by
     unfold mixed
     rw [List.length_take,Nat.min_eq_left O]
     exact List.take_append_drop _ _
    have hL1:(l.take (q+1)).length=q+1:=by rw [List.length_take];omega
    refine X.loopI (ι:=Nat) C.1 (fun j=>1≤j∧q+1+j≤l.length∧(compactL (l.take (q+1+j))).length<q+1+j) (fun j=> [(0, .slice (some ⟨p,0,none⟩) l.length cap),(3, .int .i64 ((compactL (l.take (q+1+j))).length:Int)),(4, .slice (some ⟨p,q+1,none⟩) (l.length- (q+1)) (cap- (q+1))),(5, .int .i64 (j:Int))])
     (fun j=>⟨ro,(p, .cells ((mixed l (compactL (l.take (q+1+j)))).flatMap ic++sp).toArray 3 (0,0))::tail⟩) (fun j=>l.length-j) 1 ⟨Nat.le_refl _,O,by rw [hC1,hL1];omega⟩ (by rw [hC1,hM1]) ⟨rfl,by rw [hC1,hL1];rfl, ?_,rfl,trivial⟩ fun j hs hnext2=>?_
    ·rw [←hbs2,hbs];rfl
    obtain⟨hj1,hj2,hj3⟩:=hs
    have hcs:q+1+j<l.length→compactL (l.take (q+1+(j+1)))=cstep (compactL (l.take (q+1+j))) l[q+1+j]! :=fun h=>by
     rw [getElem!_pos l (q+1+j) h];exact compact_take h
    have hcl:compactL (l.take (q+1+j))≠ []→True:=fun _=>trivial
    have hgl:(compactL (l.take (q+1+j))).getLast? =some l[q+j]:=by
     have:=compact_last (l:=l) (i:=q+j) O
     rw [show q+j+1=q+1+j by omega] at this
     exact this
    have hgo:=hnext2 (j+1)
    generalize hcc:compactL (l.take (q+1+j))=cc at*
    refine Xx W<|Oo W W<|Rt W A58<|Ri Z b_lss<|Zj U (fun hlt2=>?_) (fun hlt2=>?_)
    ·have hj':q+1+j<l.length:=O
     have hcs:=hcs hj'
     rw [getElem!_pos l _ hj'] at hcs
     refine Xz<|Xv<|Xb<|Xv<|Xf fun hok=>Dt 0 Y<|Dt 1 Y<|Dw 2 Y A58 B3<|Db 3 W G3 V (ints_at (k:=q+1+j) (x:=l[q+1+j]) O O (mixed_at O hj'))<|Dt 4 Y<|Dt 5 Y<|Dj 6 Y5 (b_sub O O)<|Dw 7 Y A58 B3<|Db 8 W G3 V (ints_at (k:=q+j) (x:=l[q+j]) O O (mixed_at O O))<|Dj 9 Y5 b_neq<|Dn<|Xc U (fun hne=>?_) (fun hne=>?_)
     ·have hne':l[q+1+j]≠l[q+j]:=by simpa using hne
      rw [cstep,if_neg (by rw [hgl];intro h;exact hne' (Option.some.inj h).symm)] at hcs
      rw [hcs] at hgo
      refine Xm W W<|Oo W W<|Ro W<|Ry Y A58 B3<|R.loadOne C U U U G3 V (ints_at (k:=q+1+j) (x:=l[q+1+j]) O O (mixed_at O hj'))<|Ry Y A58 B3<|Rs Z B3 Y V (ints_put (k:=cc.length) O (by rw [mixed_len O];omega))<|Rz<|Xg W<|Ro W<|Rb Y<|Ae W<|Xi<|Xg W<|Ro W<|Rb Y<|Ae W ?_
      rw [mixed_set _ O]
      refine X.weaken ?_ (hgo ⟨O,O,by rw [List.length_append];simp;omega⟩ O)
      exact⟨rfl,by simp [look],rfl,by simp [look],trivial⟩
     ·have hne':l[q+1+j]=l[q+j]:=by simpa using hne
      rw [cstep,if_pos (by rw [hgl,hne'])] at hcs
      rw [hcs] at hgo
      refine Xz<|Xi<|Xg W<|Ro W<|Rb Y<|Ae W<|X.weaken ?_ (hgo ⟨O,O,O⟩ O)
      exact⟨rfl,rfl,rfl,by simp [look],trivial⟩
    ·have hjn:q+1+j=l.length:=O
     rw [hjn,List.take_length] at hcc
     have hm:l.length-cc.length-1+1=l.length-cc.length:=O
     have hv56:Value.slice (if cap=((cc.length:Nat):Int).toNat then some (⟨p,0,none⟩:Addr) else(some (⟨p,0,none⟩:Addr)).map (·.add (((cc.length:Nat):Int).toNat*1))) (l.length- ((cc.length:Nat):Int).toNat) (cap- ((cc.length:Nat):Int).toNat)= .slice (some ⟨p,cc.length,none⟩) (l.length-cc.length-1+1) (cap-cc.length):=by
      rw [if_neg O,hm]
      show Value.slice (some (Addr.add ⟨p,0,none⟩ _)) _ _=_
      rw [add_addr]
      congr 2
      congr 1
      omega
     refine Xe U<|Xm W W<|Ro W<|R.sliceFrom C U U U U A58 B3 O O<|R.fixv (t:=56) (v':= .slice (some ⟨p,cc.length,none⟩) (l.length-cc.length-1+1) (cap-cc.length)) U (by exact hv56)<|R.clearS C U U U A58 K3 (by rw [hm];exact zero_ints _) (ones_ic _) V (clear_put O)<|Rz<|Xm W W<|Ro W<|R.sliceTo C U U U U A58 B3 O O<|Ae W<|X.ret C U U F81 U (by exact .tmp U .nil) ?_
     exact hret _ _ [_] _ (RO.le_refl _) ⟨by rw [hcc,Int.toNat_natCast];rfl,rfl,_,by rw [hcc]⟩ (.refl _)
   ·have he':l[q+1]≠l[q]:=by simpa using he
    refine Xz<|Xi<|Xg W<|Ro W<|Rb Y<|Ae W<|X.weaken ?_ (hnext (q+2) ⟨O,O, ?_⟩ O)
    ·exact⟨rfl,by simp [look];omega,trivial⟩
    ·rw [compact_new hk' he',hk3,List.take_succ_eq_append_getElem hk']
  ·obtain rfl:k=l.length:=by omega
   rw [List.take_length] at hk3
   refine Xe U<|Xm W W<|Ae W<|X.ret C U U F81 U (by exact .tmp U .nil) ?_
   exact hself hk3 _ _ [_] _ (RO.le_refl _) ⟨rfl,rfl,rfl⟩ (.refl _)
end Go.Lg.B
set_option maxRecDepth 100000
namespace Go.Lg.B
open Go Go.Conc Go.Lg Go.Proofs Go.Proofs.Tryz
variable {v:Value}{L:List Int}{own:List (Nat×Obj)}{ro:RO}
def BufX(v:Value)(L:List Int)(own:List (Nat×Obj)):Prop:=(v= .slice none 0 0∧L= []∧own= [])∨∃p cap r,v= .slice (some ⟨p,0,none⟩) L.length cap∧L.length≤cap∧own= [(p, .cells (L.flatMap ic++r).toArray 3 (0,0))]
theorem BufX.of(h:Buf 3 1 [] v (L.flatMap ic) own):BufX v L own:=by
 have hl:=flat_len L
 generalize hc:L.flatMap ic=cl at h hl
 cases h with
 |nil=>exact .inl ⟨rfl,List.length_eq_zero_iff.1 (by rw [←hl];rfl),rfl⟩
 |blk h1 h2 h3=>
  rename_i p len cap spare
  have e:len=L.length:=O
  subst e
  exact .inr ⟨p,cap,spare,rfl,h3,by rw [hc]⟩
theorem BufX.form(h:BufX v L own):∃b c,v= .slice b L.length c:=by
 rcases h with⟨rfl,rfl,_⟩|⟨p,cap,r,rfl,_⟩
 ·exact⟨_,_,rfl⟩
 ·exact⟨_,_,rfl⟩
theorem BufX.fin{P:Program}{main:Bool}{J:Goroutine→Mem→Prop}{b:Frame}{cs:List Frame}{n:Nat}{ds:List Deferred}{σ:Slots}{tail:List (Nat×Obj)}{todo:List Item}(hJ:Closed P main J)(hb:BufX v L own)
  (h:∀ro':RO,ro.le ro'→LsI ro' v L→X J b cs n todo ds σ ⟨ro',tail⟩):X J b cs n todo ds σ ⟨ro,own++tail⟩:=by
 rcases hb with⟨rfl,rfl,rfl⟩|⟨p,cap,r,rfl,_,rfl⟩
 ·exact h ro (RO.le_refl _) .nil
 ·refine X.persist hJ fun ro' hl hp=>h ro' hl ⟨_,_,rfl, .inr ⟨p,0,_,_,_,rfl,hp, ?_⟩⟩
  have:=Sub.front (L.flatMap ic) r
  rw [flat_len] at this
  rw [Nat.mul_one];exact this
variable {main:Bool}{J:Goroutine→Mem→Prop}(hJ:Closed prog main J)
include hJ
theorem insNil_c:CallP prog J (fnv 237) [.slice none 0 0, .int .i64 0, .int .i64 0] ro (.tuple #[]):=by
 refine EP 49 hJ func237 W fun c cs tail hret C=>Xm W W<|Rb Y<|Ae W<|Xb<|X.loop C.1<|Xx W<|Oo W W<|Ri Z b_lss<|Zc U (fun h1=>?_) (fun h1=>?_)
 ·simp at h1
 ·refine Xe U<|X.fall C U U func237 U (by exact .nil)<|Hp hret ?_
  rfl
theorem pdqNil_c(n:Int):CallP prog J (fnv 174) [.slice none 0 0, .int .i64 0, .int .i64 0, .int .i64 n] ro (.tuple #[]):=by
 refine EP 134 hJ func174 W fun c cs tail hret C=>Xo W W<|Xo W W<|Xb<|X.loop C.1<|Xb<|Xm W W<|Ro W<|Ri Z (b_sub O O)<|Ae W<|Xx W<|Ro W<|Ri Z b_leq<|Zc U (fun h1=>?_) (fun h1=>?_)
 ·refine Xm W W<|Oo W W<|Cp Z (insNil_c hJ)<|Rz<|X.ret C U U func174 U (by exact .nil)<|Hp hret ?_
  rfl
 ·simp at h1
theorem sortNil_c:CallP prog J (fnv 80) [.slice none 0 0] ro (.tuple #[]):=by
 refine EP 11 hJ func80 W fun c cs tail hret C=>Xm W W<|Rt W A58<|Ae W<|Xg W<|Oo W W<|Ro W<|R.convInt C U U U A3 A299 (IntWalk.u64_in _ O)<|Cp Z (len_c hJ (x:=0) O ro)<|Cp Z (pdqNil_c hJ _)<|Rz<|X.fall C U U func80 U (by exact .nil)<|Hp hret ?_
 rfl
theorem compactNil_c:CallP prog J (fnv 81) [.slice none 0 0] ro (.slice none 0 0):=by
 refine EP 61 hJ F81 W fun c cs tail hret C=>Xo W W<|Xx W<|Ro W<|Rt W A58<|Ri Z b_lss<|Zc U (fun h1=>?_) (fun h1=>?_)
 ·refine Xm W W<|Hq W F81 hret ?_
  rfl
 ·simp at h1
theorem sortX_c(hn:L.length≤1000000000)(hb:BufX v L own):CallV prog J (fnv 80) [v] ro own fun w ro' own'=>w= .tuple #[]∧ro'=ro∧BufX v (L.mergeSort fun x y=>decide (x≤y)) own':=by
 have hsl:(L.mergeSort fun x y=>decide (x≤y)).length=L.length:=List.length_mergeSort _
 rcases hb with⟨rfl,rfl,rfl⟩|⟨p,cap,r,rfl,hc,rfl⟩
 ·refine(sortNil_c hJ).mono ?_
  rintro w ro' own' _ ⟨rfl,rfl,rfl⟩
  exact⟨rfl,rfl, .inl ⟨rfl,by simp,rfl⟩⟩
 ·refine(sort_c hJ hn).mono ?_
  rintro w ro' own' _ ⟨rfl,rfl,rfl⟩
  exact⟨rfl,rfl, .inr ⟨p,cap,r,by rw [hsl],by rw [hsl];exact hc,rfl⟩⟩
theorem compactX_c(hn:L.length≤1000000000)(hb:BufX v L own):CallV prog J (fnv 81) [v] ro own fun w ro' own'=>ro'=ro∧BufX w (compactL L) own':=by
 rcases hb with⟨rfl,rfl,rfl⟩|⟨p,cap,r,rfl,hc,rfl⟩
 ·refine(compactNil_c hJ).mono ?_
  rintro w ro' own' _ ⟨rfl,rfl,rfl⟩
  exact⟨rfl, .inl ⟨rfl,rfl,rfl⟩⟩
 ·refine(compact_c hJ hn hc).mono ?_
  rintro w ro' own' _ ⟨rfl,rfl,r',rfl⟩
  have hcl:(compactL L).length≤L.length:=by
   have:=compact_len L L.length
   rwa [List.take_length] at this
  exact⟨rfl, .inr ⟨p,cap,r',rfl,O,rfl⟩⟩
end Go.Lg.B
set_option maxRecDepth 100000
namespace Go.Lg.B
open Go Go.Conc Go.Lg Go.Proofs Go.Proofs.Tryz
variable {b:Bk}{vc vg vp vt:Value}{ro:RO}{m:Nat}{kv:KV}
abbrev iterV(b:Bk)(vp vg vc vt:Value)(m:Nat):Value:= .func (.func 137) [.agg [.int .i64 b.w,vp,vg,vc,vt, .map (some m)].toArray].toArray #[]
def firstH:List Int→Int
 | []=>0
 |h::l=>if h≠0 then h else firstH l
def noOpen:List Value:= [.int .i64 0, .slice none 0 0, .slice none 0 0, .slice none 0 0, .slice none 0 0, .map none, .slice none 0 0]
def OpenP(b:Bk)(h:Int)(vp vg vc vt w:Value)(ro':RO)(pre':List (Nat×Obj)):Prop:=
 (openH b h≠0∧pre'= []∧w= .tuple [.agg noOpen.toArray, .int .i64 (openH b h)].toArray)∨
 (openH b h=0∧∃m kv vl,pre'= [(m,mapO kv)]∧MapOk ro' b kv∧LsT ro' vl (cases b)∧w= .tuple [.agg [.int .i64 b.w,vp,vg,vc,vt, .map (some m),vl].toArray, .int .i64 0].toArray)
theorem openH_good{h:Int}(h0:openH b h=0):b.good∧h=0∧cases b≠ []∧checkBook b=0:=by
 unfold openH at h0
 split at h0
 ·contradiction
 ·rename_i h1
  have h1:checkBook b=0:=Classical.not_not.1 h1
  split at h0
  ·contradiction
  ·rename_i h2
   split at h0
   ·cases h0
   ·rename_i h3
    exact⟨good_of h1,Classical.not_not.1 h2,h3,h1⟩
abbrev LsF(ro:RO)(v:Value)(zs:List (Value×Int)):Prop:=Ls (fun z:Value×Int=> [z.1]) 1 ro v zs
variable {main:Bool}{J:Goroutine→Mem→Prop}(hJ:Closed prog main J)
include hJ
theorem appendSeq_c(hv:BkP ro b vp vg vc vt)(hb:b.good)(hm:MapOk ro b kv):
  CallV prog J (fnv 265) [.slice none 0 0,iterV b vp vg vc vt m] ro [(m,mapO kv)] (fun w ro' pre'=>∃kv',pre'= [(m,mapO kv')]∧MapOk ro' b kv'∧LsT ro' w (cases b)):=by
 have hcl:=cases_le hb
 refine CallV.intro (first:= []) (vs:= [_,_]) (cap:= []) hJ Kr fun c cs tail hret=>enter_X (n:=13) func265 U U (Nl U) ?_
 have C:Ctx prog main J (bf 265 .normal):=⟨hJ,by decide⟩
 refine Xr C U U<|R.box C U U U U fun p2=>Ad C U U<|Xs C<|Xr C U U<|Rm C U U<|R.done C<|X.block C.1<|X.perm C.1 (List.Perm.cons _ (List.perm_append_singleton _ _).symm)<|X.rangeFuncW C (own:=_::tail) (w0:= [(m,mapO kv)]) (items:=(cases b).map fun c=> [c.val]) (ro0:=ro) (W:=fun ro' w=>Kept m b ro' w)
  (fun k ro' q=>∃v' own0,Buf 237 7 tail v' (((cases b).take k).flatMap tc) own0∧q=(p2, .cells [v'].toArray 226 (0,0))::own0)
  (fun x ro' q=>False)
  rfl rfl (cases_it hJ hv hb) ⟨kv,rfl,hm⟩ (RO.le_refl _) rfl (fun x hx=>by obtain⟨a,_,rfl⟩:=List.mem_map.1 hx;rfl) ⟨.slice none 0 0,tail, .nil,rfl⟩ (fun _ _ _ _ _ h=>h) ?_ ?_ ?_
 ·rintro kk hk l cs H H1 ro1 q hle1 ⟨v0,own0,hbuf,rfl⟩ C hbegin hdone hjump
  have hk':kk<(cases b).length:=by simpa using hk
  rw [List.getElem_map]
  simp only [roundSlots]
  have hmem:=List.getElem_mem hk'
  have htk:(cases b).take (kk+1)=(cases b).take kk++ [(cases b)[kk]]:=List.take_succ_eq_append_getElem hk'
  generalize(cases b)[kk]=co at hmem htk
  have htc:=tc_eq hb hmem
  obtain⟨x1,x2,x3,x4,y1,y2,y3,m1,m2,m3⟩:=hb.lit hmem
  rw [Tn.val,m3]
  refine X.region C U U<|R.alloc C U U K237 U fun p5=>R.store C U U U U B237 U U U V Ph7<|R.done C<|hbegin _ _ (_::_::own0) ?_
  have hfl:(((cases b).take kk).flatMap tc).length=kk*7:=by rw [flatMap_len tc_len];simp;omega
  refine X.block C.1<|X.region C U U<|Rl C U U G226 V U<|R5 C U U G237 B237 V (.take Tk6)<|R.buildSlice C (vs:=_) U U (show pvals _ _=some (numbered 0 [_]) from rfl) U A226 B237 K237 Dd (Cat.one U U) fun p10=>R.append2 (kk:=7) C [_,_] U U U U A226 A226 (fun _=>nofun) (show prog.info? 237=some Tryz.t237 by kernel_rfl) U U U Dd Dd (hbuf.app H1) U U (by(try simp only [List.length_append,List.length_cons,List.length_nil]);omega) fun v' own' hb'=>?_
  obtain⟨own1,rfl,hb1⟩:=hb'.unapp
  refine R.store C U U U U B226 hb'.cells1 U hb'.ones1 V (.here .nil)<|R.done C<|X.inBlock C.1<|X.drop C.1 (own':=_::(own1++H1)) (List.sublist_cons_self _ _)<|hdone _ _ (_::own1) (RO.le_refl _) ⟨v',own1, ?_,rfl⟩
  rw [htk,List.flatMap_append,List.flatMap_cons,List.flatMap_nil,List.append_nil,htc,m3]
  exact hb1
 ·rintro r ro' q' z' hl ⟨kv',rfl,hm'⟩ ⟨v',own0,hbuf,rfl⟩
  have hall:(cases b).take ((cases b).map fun c=> [c.val]).length=cases b:=by simp
  rw [hall] at hbuf
  refine X.inBlock C.1<|Xr C U U<|Rl C U U G226 V U<|Ad C U U<|X.finishA [_,_] C.1 tc_len Dd (hbuf.app _) fun ro2 hl2 hls=>X.perm C.1 (by exact List.Perm.cons _ (List.Perm.cons _ (List.perm_append_singleton _ _)))<|X.retM C U U func265 U (.cons V (.nil)) (by exact(.tmp U .nil)) ?_
  exact hret _ _ [_] _ (RO.le_trans hl hl2) ⟨kv',rfl,hm'.mono hl2,hls⟩ (.cons _ (List.sublist_cons_self _ _))
 ·rintro r x ro' q' z' hl _ hf
  exact hf.elim
theorem collect_c(hv:BkP ro b vp vg vc vt)(hb:b.good)(hm:MapOk ro b kv):
  CallV prog J (fnv 199) [iterV b vp vg vc vt m] ro [(m,mapO kv)] (fun w ro' pre'=>∃kv',pre'= [(m,mapO kv')]∧MapOk ro' b kv'∧LsT ro' w (cases b)):=by
 refine CallV.intro (first:= []) (vs:= [_]) (cap:= []) hJ Kr fun c cs tail hret=>enter_X (n:=5) func199 U U (Nl U) ?_
 have C:Ctx prog main J (bf 199 .normal):=⟨hJ,by decide⟩
 refine Xo W W<|Xm W W<|R.call C U U U U (pre:= [_]) (tail:=tail) U (appendSeq_c hJ hv hb hm) fun w ro1 pre1 hl1 hp1=>?_
 obtain⟨kv',rfl,hm',hls⟩:=hp1
 refine Ae W<|Xw func199 ?_
 exact hret _ _ [_] _ hl1 ⟨kv',rfl,hm',hls⟩ (by repeat (first|exact Sr|apply Sk|apply Sc))
theorem open_c{vf:Value}(he:Env ro)(hv:BkP ro b vp vg vc vt)(hs:b.short){zs:List (Value×Int)}(hz:LsF ro vf zs)(hzn:zs.length≤1000)
  (hf:∀z∈zs,b.good→∀ (m:Nat) ro',ro.le ro'→CallP prog J z.1 [.agg [.int .i64 b.w,vp,vg,vc,vt, .map (some m)].toArray] ro' (.int .i64 z.2)):
  CallV prog J (fnv 112) [.agg [.int .i64 b.w,vp,vg,vc,vt].toArray,vf] ro [] (OpenP b (firstH (zs.map (·.2))) vp vg vc vt):=by
 have hv':=hv
 have hvv:BkV ro (.agg [.int .i64 b.w,vp,vg,vc,vt].toArray) b:=⟨_,_,_,_,rfl,hv⟩
 obtain⟨_,_,rfl⟩:=hv.1.form
 obtain⟨_,_,rfl⟩:=hv.2.1.form
 obtain⟨_,_,rfl⟩:=hv.2.2.1.form
 obtain⟨_,_,rfl⟩:=hv.2.2.2.form
 obtain⟨fb,fc,rfl⟩:=hz.form
 refine CallV.intro (first:= []) (vs:= [_,_]) (cap:= []) hJ Kr fun c cs tail hret=>enter_X (n:=46) func112 U U (Nl U) ?_
 have C:Ctx prog main J (bf 112 .normal):=⟨hJ,by decide⟩
 refine Xu W<|Bx Z fun p2=>Al W K228 U fun p4=>Ae W<|Xx W<|Rq W G27 B27 V Tk5<|Cp Z (checkBook_c hJ (by assumption) (by assumption) (by assumption))<|Ae W<|Xm W W<|Ri Z b_neq<|Zc U (fun hh=>?_) (fun hh=>?_)
 ·have hh:checkBook b≠0:=by simpa using hh
  have e:openH b (firstH (zs.map (·.2)))=checkBook b:=by rw [openH,if_pos hh]
  refine Xu W ?_;refine R.build C U U U K228 U A228 Kr .nil<|Ro W<|Rs Z B228 Y V Ph7<|Ae W<|X.ret C U U func112 U (by exact(.agg U G228 B228 V (.take Tk6) (.tmp U .nil))) ?_
  exact hret _ _ [] _ (RO.le_refl _) (.inl ⟨by rw [e];exact hh,rfl,by rw [e];rfl⟩) Vs
 ·have hh:checkBook b=0:=by simpa using hh
  have hb:=good_of hh
  have hcl:=cases_le hb
  refine Xz<|Xu W<|Rq W G27 B27 V Tk5<|R.call C U U U U (pre:= []) U (yardOf_c hJ hv') fun w ro1 pre1 hl1 hp1=>?_
  obtain⟨rfl,m,rfl,rfl⟩:=hp1
  refine R.build C U U U K228 U A228 Kr (Fills.part U U B225 U Ph6 .nil)<|Al W K228 U fun p7=>Rs Z B228 Y V Ph7<|Rz<|Xx W<|Ro W<|Rt W A323<|Ro W<|Rz<|Xb<|X.loopI (ι:=Nat) C.1 (fun i=>i≤zs.length∧firstH (zs.map (·.2))=firstH ((zs.drop i).map (·.2))) (fun i=> [(20, .slice fb zs.length fc),(21, .int .i64 (zs.length:Int)),(22, .int .i64 (i:Int)),(7, .pointer (some ⟨p7,0,none⟩)),(4, .pointer (some ⟨p4,0,none⟩))])
   (fun _=>⟨ro1,_⟩) (fun i=>zs.length-i) 0 ⟨Nat.zero_le _,by simp⟩ rfl ⟨U,U,U,U,U,trivial⟩ fun i hi hnext=>?_
  obtain⟨hi,hr⟩:=hi
  refine Xu W<|Ri Z b_lss<|Rz<|Xv<|Xj U (fun hlt=>?_) (fun hlt=>?_)
  ·have hi':i<zs.length:=O
   obtain⟨pp,off,cap,l,t,fq,hsl,hrop,hsub⟩:=hz.at (fun _=>rfl) O
   cases hsl
   have hzi:l[off+i*1]? =some zs[i].1:=by simpa using(hsub i hi').get 0 O
   have hfi:=hf _ (List.getElem_mem hi') hb m ro1 (RO.le_refl _)
   rw [List.drop_eq_getElem_cons hi'] at hr
   generalize zs[i]=z at hzi hfi hr
   simp only [List.map_cons,firstH] at hr
   refine Xz<|Xv<|Xb<|Xu W<|Ry Y A323 B231<|Lo Y isAgg231 hrop hzi<|Ae W<|Xm W W<|Rv 0 W A228 U B225<|Rq W G225 B225 V Tk6<|Cp Z (hfi)<|Ae W<|Xm W W<|Ri Z b_neq<|Zc U (fun h1=>?_) (fun h1=>?_)
   ·have h1:z.2≠0:=by simpa using h1
    rw [if_pos h1] at hr
    have e:openH b (firstH (zs.map (·.2)))=z.2:=by rw [openH,if_neg (fun h=>h hh),hr,if_pos h1]
    refine Xu W ?_;refine R.build C U U U K228 U A228 Kr .nil<|Ro W<|Rs Z B228 Y V Ph7<|Ae W<|X.ret C U U func112 U (by exact(.agg U G228 B228 V (.take Tk6) (.tmp U .nil))) ?_
    exact hret _ _ [] _ (RO.le_refl _) (.inl ⟨by rw [e];exact h1,rfl,by rw [e];rfl⟩) Vs
   ·have h1:z.2=0:=by simpa using h1
    rw [if_neg (fun h=>h h1)] at hr
    refine Xz<|Xi<|Xg W<|Rb Y<|Ro W<|Rz<|X.weaken ?_ (hnext (i+1) ⟨hi',hr⟩ O)
    exact⟨rfl,rfl,by simp [look],rfl,rfl,trivial⟩
  ·obtain rfl:i=zs.length:=by omega
   simp only [List.drop_length,List.map_nil,firstH] at hr
   refine Xe U<|Xx W<|Rv 0 W A228 U B225<|Rq W G225 B225 V Tk6<|R.makeFunc C U U U U<|R.perm C.1 pm1<|R.call C U U U U (pre:= [_]) U (collect_c hJ hv' hb (kv:= []) (fun x hx=>absurd hx (List.not_mem_nil))) fun w ro2 pre2 hl2 hp2=>?_
   obtain⟨kv,rfl,hm,hls⟩:=hp2
   obtain⟨lb,lc,rfl⟩:=hls.form
   refine Rv 6 W A228 U B226<|Rs Z B226 Y V (.skip (.skip (.skip (.skip (.skip (.skip (.here .nil)))))))<|Rz<|Xu W<|Rv 6 W A228 U B226<|Rj W G226 V U<|Rt W A226<|Ri Z b_eql<|Zc U (fun h2=>?_) (fun h2=>?_)
   ·have h2:cases b= []:=by simpa using h2
    have e:openH b (firstH (zs.map (·.2)))=9:=by rw [openH,if_neg (fun h=>h hh),hr,if_neg Zi,if_pos h2]
    refine Xu W ?_;refine R.build C U U U K228 U A228 Kr .nil<|Rs Z B228 Y V Ph7<|Ae W<|X.ret C U U func112 U (by exact(.agg U G228 B228 V (.take Tk6) (.tmp U .nil))) ?_
    exact hret _ _ [] _ hl2 (.inl ⟨by rw [e];decide,rfl,by rw [e];rfl⟩) Vs
   ·have h2:cases b≠ []:=by simpa using h2
    have e:openH b (firstH (zs.map (·.2)))=0:=by rw [openH,if_neg (fun h=>h hh),hr,if_neg Zi,if_neg h2]
    refine Xz<|Xu W<|Rq W G228 B228 V (.take Tk6)<|Rs Z B228 Y V Ph7<|Ae W<|X.ret C U U func112 U (by exact(.agg U G228 B228 V (.take Tk6) (.tmp U .nil))) ?_
    exact hret _ _ [_] _ hl2 (.inr ⟨e,m,kv,_,rfl,hm,hls,rfl⟩) (by repeat (first|exact Sr|apply Sk|apply Sc))
theorem askPart_c(hv:BkP ro b vp vg vc vt)(hb:b.good)(n:Int)(m:Nat):CallP prog J (.func (.func 139) [.int .i64 n].toArray #[]) [.agg [.int .i64 b.w,vp,vg,vc,vt, .map (some m)].toArray] ro (.int .i64 (there n b.ps.length)):=by
 obtain⟨_,_,rfl⟩:=hv.1.form
 obtain⟨_,_,rfl⟩:=hv.2.1.form
 obtain⟨_,_,rfl⟩:=hv.2.2.1.form
 obtain⟨_,_,rfl⟩:=hv.2.2.2.form
 have hn:=hb.np
 refine CallV.intro (first:= [_]) (vs:= [_]) (cap:= []) hJ Kr fun c cs tail hret=>enter_X (n:=12) func139 U U (Nl U) ?_
 have C:Ctx prog main J (bf 139 .normal):=⟨hJ,by decide⟩
 refine Xu W<|Bx Z fun p3=>Ae W<|Xm W W<|Rv 0 W A225 U B222<|Rv 0 W A222 U B27<|Rv 1 W A27 U B22<|Rj W G22 V U<|Rt W A22<|Cp Z (there_c hJ _ _ _ O O)<|Ae W<|Xw func139 ?_
 exact hret _ _ [] _ (RO.le_refl _) ⟨rfl,rfl,rfl⟩ Vs
theorem askPiece_c(hv:BkP ro b vp vg vc vt)(hb:b.good)(n:Int)(m:Nat):CallP prog J (.func (.func 142) [.int .i64 n].toArray #[]) [.agg [.int .i64 b.w,vp,vg,vc,vt, .map (some m)].toArray] ro (.int .i64 (there n b.cs.length)):=by
 obtain⟨_,_,rfl⟩:=hv.1.form
 obtain⟨_,_,rfl⟩:=hv.2.1.form
 obtain⟨_,_,rfl⟩:=hv.2.2.1.form
 obtain⟨_,_,rfl⟩:=hv.2.2.2.form
 have hn:=hb.nc
 refine CallV.intro (first:= [_]) (vs:= [_]) (cap:= []) hJ Kr fun c cs tail hret=>enter_X (n:=12) func142 U U (Nl U) ?_
 have C:Ctx prog main J (bf 142 .normal):=⟨hJ,by decide⟩
 refine Xu W<|Bx Z fun p3=>Ae W<|Xm W W<|Rv 0 W A225 U B222<|Rv 0 W A222 U B27<|Rv 3 W A27 U B24<|Rj W G24 V U<|Rt W A24<|Cp Z (there_c hJ _ _ _ O O)<|Ae W<|Xw func142 ?_
 exact hret _ _ [] _ (RO.le_refl _) ⟨rfl,rfl,rfl⟩ Vs
theorem askGear_c(hv:BkP ro b vp vg vc vt)(hb:b.good)(n:Int)(m:Nat):CallP prog J (.func (.func 113) [.int .i64 n].toArray #[]) [.agg [.int .i64 b.w,vp,vg,vc,vt, .map (some m)].toArray] ro (.int .i64 (there n b.gs.length)):=by
 obtain⟨_,_,rfl⟩:=hv.1.form
 obtain⟨_,_,rfl⟩:=hv.2.1.form
 obtain⟨_,_,rfl⟩:=hv.2.2.1.form
 obtain⟨_,_,rfl⟩:=hv.2.2.2.form
 have hn:=hb.ng
 refine CallV.intro (first:= [_]) (vs:= [_]) (cap:= []) hJ Kr fun c cs tail hret=>enter_X (n:=12) func113 U U (Nl U) ?_
 have C:Ctx prog main J (bf 113 .normal):=⟨hJ,by decide⟩
 refine Xu W<|Bx Z fun p3=>Ae W<|Xm W W<|Rv 0 W A225 U B222<|Rv 0 W A222 U B27<|Rv 2 W A27 U B23<|Rj W G23 V U<|Rt W A23<|Cp Z (there_c hJ _ _ _ O O)<|Ae W<|Xw func113 ?_
 exact hret _ _ [] _ (RO.le_refl _) ⟨rfl,rfl,rfl⟩ Vs
theorem askLoad_c(hv:BkP ro b vp vg vc vt)(n:Int)(m:Nat):CallP prog J (.func (.func 145) [.int .i64 n].toArray #[]) [.agg [.int .i64 b.w,vp,vg,vc,vt, .map (some m)].toArray] ro (.int .i64 (loadH n)):=by
 obtain⟨_,_,rfl⟩:=hv.1.form
 obtain⟨_,_,rfl⟩:=hv.2.1.form
 obtain⟨_,_,rfl⟩:=hv.2.2.1.form
 obtain⟨_,_,rfl⟩:=hv.2.2.2.form
 refine CallV.intro (first:= [_]) (vs:= [_]) (cap:= []) hJ Kr fun c cs tail hret=>enter_X (n:=7) func145 U U (Nl U) ?_
 have C:Ctx prog main J (bf 145 .normal):=⟨hJ,by decide⟩
 refine Xu W<|Bx Z fun p3=>Ae W<|Xm W W<|Cp Z (load_c hJ _ _)<|Ae W<|Xw func145 ?_
 exact hret _ _ [] _ (RO.le_refl _) ⟨rfl,rfl,rfl⟩ Vs
theorem numbers_c{vl fv:Value}(hv:BkP ro b vp vg vc vt)(hb:b.good)(hl:LsT ro vl (cases b)){f:Tn→Int}(hf:∀t∈cases b,CallP prog J fv [t.val] ro (.int .i64 (f t))):
  CallR prog J (fnv 140) [.agg [.int .i64 b.w,vp,vg,vc,vt, .map (some m),vl].toArray,fv] ro (fun w ro'=>LsI ro' w (numbers ((cases b).map f))):=by
 obtain⟨_,_,rfl⟩:=hv.1.form
 obtain⟨_,_,rfl⟩:=hv.2.1.form
 obtain⟨_,_,rfl⟩:=hv.2.2.1.form
 obtain⟨_,_,rfl⟩:=hv.2.2.2.form
 obtain⟨lb,lc,rfl⟩:=hl.form
 have hcl:=cases_le hb
 refine ER 26 hJ func140 W fun c cs tail hret C=>Xu W<|Bx Z fun p2=>Ae W<|Xo W W<|Xx W<|Rv 6 W A228 U B226<|Rj W G226 V U<|Rt W A226<|Ro W<|Rz<|Xb<|X.drop C.1 (own':=tail) Vs<|X.loopI (ι:=Nat×Value×List (Nat×Obj)) C.1 (fun s=>s.1≤(cases b).length∧Buf 3 1 tail s.2.1 ((((cases b).map f).take s.1).flatMap ic) s.2.2)
  (fun s=> [(1,fv),(5,s.2.1),(9, .slice lb (cases b).length lc),(10, .int .i64 ((cases b).length:Int)),(11, .int .i64 (s.1:Int))])
  (fun s=>⟨ro,s.2.2⟩) (fun s=>(cases b).length-s.1) (0, .slice none 0 0,tail) ⟨Nat.zero_le _, .nil⟩ rfl ⟨U,U,U,U,U,trivial⟩ fun s hs' hnext=>?_
 obtain⟨i,v0,own0⟩:=s
 obtain⟨hi,hbuf⟩:=hs'
 simp only at hi hbuf hnext⊢
 refine Xu W<|Ri Z b_lss<|Rz<|Xv<|Xj U (fun hlt=>?_) (fun hlt=>?_)
 ·have hi':i<(cases b).length:=O
  obtain⟨pp,off,cap,l,t,fq,hsl,hrop,hsub⟩:=hl.at tc_len O
  cases hsl
  have hmem:=List.getElem_mem hi'
  have hsi:=hsub i hi'
  have hta:((cases b).map f).take (i+1)=((cases b).map f).take i++ [f (cases b)[i]]:=by rw [List.take_succ_eq_append_getElem (by simpa using hi'),List.getElem_map]
  have hfl:=flat_len (((cases b).map f).take i)
  rw [List.length_take,List.length_map] at hfl
  generalize(cases b)[i]=co at hmem hsi hta
  obtain⟨x1,x2,x3,x4,y1,y2,y3,m1,m2,m3⟩:=hb.lit hmem
  have hfc:=hf co hmem
  rw [tc_eq hb hmem,m3] at hsi
  rw [Tn.val,m3] at hfc
  refine Xz<|Xv<|Xb<|Xu W<|Ry Y A226 B237<|La Y G237 B237 hrop hsi<|Al W K237 U fun p7=>Rs Z B237 Y V Ph7<|Rz<|Xg W<|Oo W W<|Rq W G237 B237 V (.take Tk6)<|Cp Z (hfc)<|R.buildSlice C (vs:=_) U U (show pvals _ _=some (numbered 0 [_]) from rfl) U A58 B3 K3 Dd (Cat.one U U) fun p19=>R.append2 (kk:=1) C [_] U U U U A58 A58 (fun _=>nofun) (show prog.info? 3=some Tryz.t3 by kernel_rfl) U U U Dd Dd hbuf U U (by(try simp only [List.length_append,List.length_cons,List.length_nil]);omega) fun v' own' hb'=>Ae W<|Xi<|Xg W<|Rb Y<|Ro W<|Rz<|X.drop C.1 (own':=own') (List.sublist_cons_self _ _)<|X.weaken ?_ (hnext (i+1,v',own') ⟨hi', ?_⟩ (by simp only;omega))
  ·exact⟨rfl,rfl,rfl,rfl,by simp [look],trivial⟩
  ·rw [hta,List.flatMap_append];exact hb'
 ·obtain rfl:i=(cases b).length:=by omega
  have hall:((cases b).map f).take (cases b).length=(cases b).map f:=by rw [List.take_of_length_le];simp
  rw [hall] at hbuf
  have hol:((cases b).map f).length=(cases b).length:=by simp
  generalize(cases b).map f=L at hbuf hol hret
  have hbuf2:Buf 3 1 ([]++tail) v0 (L.flatMap ic) own0:=hbuf
  obtain⟨own1,rfl,hb1⟩:=hbuf2.unapp
  have hX:=BufX.of hb1
  refine Xe U<|Xm W W<|R.call C U U U U U (sortX_c hJ O hX) fun w1 ro1 own2 hl1 hp1=>?_
  obtain⟨rfl,rfl,hX2⟩:=hp1
  refine Rz<|Xm W W<|R.call C U U U U U (compactX_c hJ (by rw [List.length_mergeSort];omega) hX2) fun w2 ro2 own3 hl2 hp2=>?_
  obtain⟨rfl,hX3⟩:=hp2
  refine Ae W<|hX3.fin C.1 fun ro3 hl3 hls=>Xw func140<|Hr hret hl3 ?_
  exact hls
end Go.Lg.B
set_option maxRecDepth 100000
namespace Go.Lg.B
open Go Go.Conc Go.Lg Go.Proofs Go.Proofs.Tryz
variable {ro:RO}{p:Nat}{t ty:TypeId}{fq:Nat×Nat}{v:Value}{b:Bk}{i:Int}
theorem firstH_one(h:Int):firstH [h]=h:=by
 simp only [firstH];split
 ·rfl
 ·rename_i k;exact(Classical.not_not.1 k).symm
theorem firstH_two(g h:Int):firstH [g,h]=if g≠0 then g else h:=by
 have:=firstH_one h
 simp only [firstH] at this⊢
 rw [this]
def bearsR(b:Bk)(i:Int):List Int×Int:=if openH b (there i b.ps.length)≠0 then([],openH b (there i b.ps.length)) else(bearsOf b i,0)
def weightsR(b:Bk)(i:Int):List Int×Int:=if openH b (there i b.cs.length)≠0 then([],openH b (there i b.cs.length)) else(weightsOf b i,0)
def mayH(b:Bk)(g k:Int):Int:=openH b (firstH [there g b.gs.length,there k b.cs.length])
def mayR(b:Bk)(g k:Int):Int×Int:=if mayH b g k≠0 then(0,mayH b g k) else(may b g k,0)
theorem lsF_one(h:Int)(hp:ro p=some (.cells [v].toArray t fq)):LsF ro (.slice (some ⟨p,0,none⟩) 1 1) [(v,h)]:=⟨_,_,rfl, .inr ⟨p,0,_,_,_,rfl,hp, .take .nil⟩⟩
theorem lsF_two{w:Value}(g h:Int)(hp:ro p=some (.cells [v,w].toArray t fq)):LsF ro (.slice (some ⟨p,0,none⟩) 2 2) [(v,g),(w,h)]:=⟨_,_,rfl, .inr ⟨p,0,_,_,_,rfl,hp, .take (.take .nil)⟩⟩
theorem weight_bd(hb:b.good){t:Tn}(ht:t∈cases b){k:Int}(h0:0≤k)(h1:k<b.cs.length):1≤nth t.2 k∧nth t.2 k≤99:=by
 have hw:=(mem_cases.1 ht).2
 exact weightsL_bd hb hw _ (nth_mem h0 (by rw [weightsL_len _ hw];exact h1))
theorem filter_take_succ{α:Type}{p:α→Bool}{l:List α}{i:Nat}(h:i<l.length):((l.take (i+1)).filter p).length=((l.take i).filter p).length+(if p l[i] then 1 else 0):=by
 rw [List.take_succ_eq_append_getElem h,List.filter_append,List.length_append]
 congr 1
 simp only [List.filter_cons,List.filter_nil]
 split<;>rfl
variable {main:Bool}{J:Goroutine→Mem→Prop}(hJ:Closed prog main J)
include hJ
theorem bears1_c(hb:b.good)(hp:ro p=some (.cells [.int .i64 i].toArray ty fq))(h0:0≤i)(h1:i<4){t:Tn}(ht:t∈cases b):CallP prog J (.func (.func 141) #[] [.pointer (some ⟨p,0,none⟩)].toArray) [t.val] ro (.int .i64 (nth t.1 i)):=by
 obtain⟨x1,x2,x3,x4,y1,y2,y3,m1,m2,m3⟩:=hb.lit ht
 rw [Tn.val,m3, ←nth_four m1]
 have hat:=part_at (x1:=x1) (x2:=x2) (x3:=x3) (x4:=x4) (r:= [.int .i64 y1, .int .i64 y2, .int .i64 y3]) h0 h1
 refine CallP.introC hJ Kr fun c cs tail hret=>enter_X (n:=8) func141 U U (Nl U) ?_
 have C:Ctx prog main J (bf 141 .normal):=⟨hJ,by decide⟩
 refine Xu W<|Bx Z fun p2=>Ae W<|Xu W<|Lo Y G3 hp U<|Rv 0 W A237 U B234<|R.indexAddrA C U U U U A234 B3 O O<|R.loadOne C U U U G3 V hat<|Hq W func141 hret ?_
 rfl
theorem weights1_c(hb:b.good)(hp:ro p=some (.cells [.int .i64 i].toArray ty fq))(h0:0≤i)(h1:i<3){t:Tn}(ht:t∈cases b):CallP prog J (.func (.func 143) #[] [.pointer (some ⟨p,0,none⟩)].toArray) [t.val] ro (.int .i64 (nth t.2 i)):=by
 obtain⟨x1,x2,x3,x4,y1,y2,y3,m1,m2,m3⟩:=hb.lit ht
 rw [Tn.val,m3, ←nth_three m2]
 have hat:=piece_at (x1:=x1) (x2:=x2) (x3:=x3) (x4:=x4) (y1:=y1) (y2:=y2) (y3:=y3) h0 h1
 refine CallP.introC hJ Kr fun c cs tail hret=>enter_X (n:=8) func143 U U (Nl U) ?_
 have C:Ctx prog main J (bf 143 .normal):=⟨hJ,by decide⟩
 refine Xu W<|Bx Z fun p2=>Ae W<|Xu W<|Lo Y G3 hp U<|Rv 4 W A237 U B235<|R.indexAddrA C U U U U A235 B3 O O<|R.loadOne C U U U G3 V hat<|Hq W func143 hret ?_
 rfl
theorem bears_c(he:Env ro)(hv:BkV ro v b)(hs:b.short)(i:Int):CallR prog J (fnv 49) [v, .int .i64 i] ro (fun w ro'=>∃vl,LsI ro' vl (bearsR b i).1∧w= .tuple [vl, .int .i64 (bearsR b i).2].toArray):=by
 obtain⟨vp,vg,vc,vt,rfl,hv⟩:=hv
 have hv':=hv
 obtain⟨_,_,rfl⟩:=hv.1.form
 obtain⟨_,_,rfl⟩:=hv.2.1.form
 obtain⟨_,_,rfl⟩:=hv.2.2.1.form
 obtain⟨_,_,rfl⟩:=hv.2.2.2.form
 refine ER 22 hJ func49 W fun c cs tail hret C=>Xu W<|Bx Z fun p2=>Bx Z fun p3=>Rg Y<|Ae W<|Xu W<|Rq W G27 B27 V Tk5<|Rj W G3 V U<|R.makeFunc C U U U U<|R.buildSlice C (vs:=_) U U (show pvals _ _=some (numbered 0 [_]) from rfl) U A323 B231 K231 Dd (Cat.one U U) fun p12=>R.persist C.1 fun ro1 hl1 h12=>R.persist C.1 fun ro2 hl2 h3=>?_
 have hl:=RO.le_trans hl1 hl2
 have hv2:=hv'.mono hl
 have hop:=open_c hJ (he.mono hl) hv2 hs (lsF_one (there i b.ps.length) (hl2 _ _ h12)) (Nl rfl) (fun z hz hb m ro' hl'=>by
  rw [List.mem_singleton] at hz;subst hz
  exact askPart_c hJ (hv2.mono hl') hb i m)
 rw [List.map_cons,List.map_nil,firstH_one] at hop
 refine R.call C U U U U (pre:= []) U hop fun w ro3 pre3 hl3 hp3=>?_
 rcases hp3 with⟨h0,rfl,rfl⟩|⟨h0,m,kv,vl,rfl,hm,hls,rfl⟩
 ·
  have e:bearsR b i=([],openH b (there i b.ps.length)):=by rw [bearsR,if_pos h0]
  refine Ro W<|Re Z<|Re Z<|Al W K228 U fun p6=>Rs Z B228 Y V Ph7<|Ae W<|Xx W<|Ro W<|Ri Z b_neq<|Zc U (fun hq=>?_) (fun hq=>?_)
  ·refine Xm W W<|Rg Y<|Ae W<|X.ret C U U func49 U (by exact(.tmp U (.tmp U .nil)))<|Hr hret (RO.le_trans hl hl3) ?_
   exact⟨_,by rw [e];exact .nil,by rw [e];rfl⟩
  ·simp at hq;contradiction
 ·
  have e:bearsR b i=(bearsOf b i,0):=by rw [bearsR,if_neg (by simp [h0])]
  obtain⟨hb,hi,hne,_⟩:=openH_good h0
  have hi:=there_zero.1 hi
  have hnp:=hb.np
  obtain⟨lb,lc,rfl⟩:=hls.form
  refine Ro W<|Re Z<|Re Z<|Al W K228 U fun p6=>Rs Z B228 Y V Ph7<|Ae W<|Xx W<|Ro W<|Ri Z b_neq<|Zc U (fun hq=>?_) (fun hq=>?_)
  ·simp at hq
  ·refine Xz<|Xu W<|Rq W G228 B228 V (.take Tk6)<|R.makeFunc C U U U U<|R.callR C U U U U (numbers_c hJ (hv2.mono hl3) hb hls (f:=fun t=>nth t.1 i) (fun t ht=>bears1_c hJ hb (hl3 _ _ h3) hi.1 O ht)) fun v1 ro4 hl4 hp4=>Rg Y<|Ae W<|X.ret C U U func49 U (by exact(.tmp U (.tmp U .nil)))<|Hr hret (RO.le_trans hl (RO.le_trans hl3 hl4)) ?_
   exact⟨_,by rw [e];exact hp4,by rw [e];rfl⟩
theorem weights_c(he:Env ro)(hv:BkV ro v b)(hs:b.short)(i:Int):CallR prog J (fnv 50) [v, .int .i64 i] ro (fun w ro'=>∃vl,LsI ro' vl (weightsR b i).1∧w= .tuple [vl, .int .i64 (weightsR b i).2].toArray):=by
 obtain⟨vp,vg,vc,vt,rfl,hv⟩:=hv
 have hv':=hv
 obtain⟨_,_,rfl⟩:=hv.1.form
 obtain⟨_,_,rfl⟩:=hv.2.1.form
 obtain⟨_,_,rfl⟩:=hv.2.2.1.form
 obtain⟨_,_,rfl⟩:=hv.2.2.2.form
 refine ER 22 hJ func50 W fun c cs tail hret C=>Xu W<|Bx Z fun p2=>Bx Z fun p3=>Rg Y<|Ae W<|Xu W<|Rq W G27 B27 V Tk5<|Rj W G3 V U<|R.makeFunc C U U U U<|R.buildSlice C (vs:=_) U U (show pvals _ _=some (numbered 0 [_]) from rfl) U A323 B231 K231 Dd (Cat.one U U) fun p12=>R.persist C.1 fun ro1 hl1 h12=>R.persist C.1 fun ro2 hl2 h3=>?_
 have hl:=RO.le_trans hl1 hl2
 have hv2:=hv'.mono hl
 have hop:=open_c hJ (he.mono hl) hv2 hs (lsF_one (there i b.cs.length) (hl2 _ _ h12)) (Nl rfl) (fun z hz hb m ro' hl'=>by
  rw [List.mem_singleton] at hz;subst hz
  exact askPiece_c hJ (hv2.mono hl') hb i m)
 rw [List.map_cons,List.map_nil,firstH_one] at hop
 refine R.call C U U U U (pre:= []) U hop fun w ro3 pre3 hl3 hp3=>?_
 rcases hp3 with⟨h0,rfl,rfl⟩|⟨h0,m,kv,vl,rfl,hm,hls,rfl⟩
 ·
  have e:weightsR b i=([],openH b (there i b.cs.length)):=by rw [weightsR,if_pos h0]
  refine Ro W<|Re Z<|Re Z<|Al W K228 U fun p6=>Rs Z B228 Y V Ph7<|Ae W<|Xx W<|Ro W<|Ri Z b_neq<|Zc U (fun hq=>?_) (fun hq=>?_)
  ·refine Xm W W<|Rg Y<|Ae W<|X.ret C U U func50 U (by exact(.tmp U (.tmp U .nil)))<|Hr hret (RO.le_trans hl hl3) ?_
   exact⟨_,by rw [e];exact .nil,by rw [e];rfl⟩
  ·simp at hq;contradiction
 ·
  have e:weightsR b i=(weightsOf b i,0):=by rw [weightsR,if_neg (by simp [h0])]
  obtain⟨hb,hi,hne,_⟩:=openH_good h0
  have hi:=there_zero.1 hi
  have hnc:=hb.nc
  obtain⟨lb,lc,rfl⟩:=hls.form
  refine Ro W<|Re Z<|Re Z<|Al W K228 U fun p6=>Rs Z B228 Y V Ph7<|Ae W<|Xx W<|Ro W<|Ri Z b_neq<|Zc U (fun hq=>?_) (fun hq=>?_)
  ·simp at hq
  ·refine Xz<|Xu W<|Rq W G228 B228 V (.take Tk6)<|R.makeFunc C U U U U<|R.callR C U U U U (numbers_c hJ (hv2.mono hl3) hb hls (f:=fun t=>nth t.2 i) (fun t ht=>weights1_c hJ hb (hl3 _ _ h3) hi.1 O ht)) fun v1 ro4 hl4 hp4=>Rg Y<|Ae W<|X.ret C U U func50 U (by exact(.tmp U (.tmp U .nil)))<|Hr hret (RO.le_trans hl (RO.le_trans hl3 hl4)) ?_
   exact⟨_,by rw [e];exact hp4,by rw [e];rfl⟩
theorem may_c(he:Env ro)(hv:BkV ro v b)(hs:b.short)(g k:Int):CallR prog J (fnv 51) [v, .int .i64 g, .int .i64 k] ro (fun w _=>w= .tuple [.int .i64 (mayR b g k).1, .int .i64 (mayR b g k).2].toArray):=by
 obtain⟨vp,vg,vc,vt,rfl,hv⟩:=hv
 have hv':=hv
 obtain⟨_,_,rfl⟩:=hv.1.form
 obtain⟨_,_,rfl⟩:=hv.2.1.form
 obtain⟨_,_,rfl⟩:=hv.2.2.1.form
 obtain⟨_,_,rfl⟩:=hv.2.2.2.form
 refine ER 55 hJ func51 W fun c cs tail hret C=>Xu W<|Bx Z fun p3=>Rg Y<|Ae W<|Xu W<|Rq W G27 B27 V Tk5<|Ro W<|R.makeFunc C U U U U<|Ro W<|R.makeFunc C U U U U<|R.buildSlice C (vs:=_) U U (show pvals _ _=some (numbered 0 [_,_]) from rfl) U A323 B231 K231 Dd ((.cons U U (.cons U U .nil))) fun p19=>R.persist C.1 fun ro1 hl h19=>?_
 have hv2:=hv'.mono hl
 have hop:=open_c hJ (he.mono hl) hv2 hs (lsF_two (there g b.gs.length) (there k b.cs.length) h19) (Nl rfl) (fun z hz hb m ro' hl'=>by
  rcases List.mem_cons.1 hz with rfl|hz
  ·exact askGear_c hJ (hv2.mono hl') hb g m
  ·rw [List.mem_singleton] at hz;subst hz
   exact askPiece_c hJ (hv2.mono hl') hb k m)
 rw [List.map_cons,List.map_cons,List.map_nil] at hop
 refine R.call C U U U U (pre:= []) U hop fun w ro3 pre3 hl3 hp3=>?_
 rcases hp3 with⟨h0,rfl,rfl⟩|⟨h0,m,kv,vl,rfl,hm,hls,rfl⟩
 ·
  have e:mayR b g k=(0,mayH b g k):=by rw [mayR,mayH,if_pos h0]
  refine Ro W<|Re Z<|Re Z<|Al W K228 U fun p8=>Rs Z B228 Y V Ph7<|Ae W<|Xx W<|Ro W<|Ri Z b_neq<|Zc U (fun hq=>?_) (fun hq=>?_)
  ·refine Xm W W<|Rg Y<|Ae W<|X.ret C U U func51 U (by exact(.tmp U (.tmp U .nil)))<|Hr hret (RO.le_trans hl hl3) ?_
   rw [e];rfl
  ·simp at hq;contradiction
 ·
  have e:mayR b g k=(may b g k,0):=by rw [mayR,mayH,if_neg (by simp [h0])]
  obtain⟨hb,hi,hne,_⟩:=openH_good h0
  rw [firstH_two] at hi
  have hg:there g b.gs.length=0:=by
   split at hi
   ·exact hi
   ·rename_i h;exact Classical.not_not.1 h
  rw [if_neg (by simp [hg])] at hi
  have hg:=there_zero.1 hg
  have hk:=there_zero.1 hi
  have hnc:=hb.nc
  have hcl:=cases_le hb
  have hv3:=hv2.mono hl3
  obtain⟨lb,lc,rfl⟩:=hls.form
  have hmay:may b g k=how ((cases b).filter fun t=>lifts b t.1 g (nth t.2 k)).length (cases b).length:=rfl
  refine Ro W<|Re Z<|Re Z<|Al W K228 U fun p8=>Rs Z B228 Y V Ph7<|Ae W<|Xx W<|Ro W<|Ri Z b_neq<|Zc U (fun hq=>?_) (fun hq=>?_)
  ·simp at hq
  ·refine Xz<|Xo W W<|Xx W<|Rv 6 W A228 U B226<|Rj W G226 V U<|Rt W A226<|Ro W<|Rz<|Xb<|X.loopI (ι:=Nat×RO×KV) C.1 (fun s=>s.1≤(cases b).length∧ro3.le s.2.1∧MapOk s.2.1 b s.2.2)
    (fun s=> [(1, .int .i64 g),(2, .int .i64 k),(10, .int .i64 ((((cases b).take s.1).filter fun t=>lifts b t.1 g (nth t.2 k)).length:Int)),(8, .pointer (some ⟨p8,0,none⟩)),(27, .slice lb (cases b).length lc),(28, .int .i64 ((cases b).length:Int)),(29, .int .i64 (s.1:Int))])
    (fun s=>⟨s.2.1,_::(m,mapO s.2.2)::_::tail⟩) (fun s=>(cases b).length-s.1) (0,ro3,kv) ⟨Nat.zero_le _,RO.le_refl _,hm⟩ rfl ⟨U,U,U,U,U,U,U,trivial⟩ fun s hs' hnext=>?_
   obtain⟨i,ro4,kv4⟩:=s
   obtain⟨hi,hle,hm4⟩:=hs'
   simp only at hi hle hm4 hnext⊢
   refine Xu W<|Ri Z b_lss<|Rz<|Xv<|Xj U (fun hlt=>?_) (fun hlt=>?_)
   ·have hi':i<(cases b).length:=O
    obtain⟨pp,off,cap,l,t,fq,hsl,hrop,hsub⟩:=hls.at tc_len O
    cases hsl
    have hmem:=List.getElem_mem hi'
    have hsi:=hsub i hi'
    have hft:=filter_take_succ (p:=fun t=>lifts b t.1 g (nth t.2 k)) hi'
    have hfl:=List.length_filter_le (fun t:Tn=>lifts b t.1 g (nth t.2 k)) ((cases b).take i)
    rw [List.length_take] at hfl
    have hnx:=fun s:RO×KV=>hnext (i+1,s)
    simp only [hft] at hnx
    generalize(cases b)[i]=co at hmem hsi hnx
    obtain⟨x1,x2,x3,x4,y1,y2,y3,m1,m2,m3⟩:=hb.lit hmem
    have hwb:=weight_bd hb hmem hk.1 hk.2
    rw [tc_eq hb hmem,m3] at hsi
    have hpa:=piece_at (x1:=x1) (x2:=x2) (x3:=x3) (x4:=x4) (y1:=y1) (y2:=y2) (y3:=y3) hk.1 (show k<3 by omega)
    rw [nth_three m2] at hpa
    have hlc:=lifts_c hJ (hv3.mono hle) hb hg (l:=nth co.2 k) O (p:= [x1,x2,x3,x4]) rfl (m:=m) hm4
    rw [lifts_four m1] at hlc
    refine Xz<|Xv<|Xb<|Xu W<|Ry Y A226 B237<|La Y G237 B237 (hle _ _ hrop) hsi<|Al W K237 U fun p12=>Rs Z B237 Y V Ph7<|Rz<|Xv<|Xf fun hok=>Dh 0 0 Y A228 U B225<|D5 C 1 hok U U G225 B225 V Tk6<|Dh 0 2 Y A237 U B234<|D5 C 3 hok U U G234 B234 V Tk4<|Dt 4 Y<|Dt 5 Y<|Dh 4 6 Y A237 U B235<|Dp 7 hok (fun _ _ _ A h=>R.indexAddrA C U (A.w U U) (A.x U U) (A.x U U) A235 B3 O O h)<|Db 8 W G3 V hpa ?_;refine Dp 9 hok (fun _ _ _ A h=>R.build C U (A.w U U) (A.p U U) K240 U A240 Kr (Fills.part U U B3 U (.here .nil) (Fills.part U U B3 U (.skip (.here .nil)) .nil)) h)<|De 10 (some 43) [false,false,false] hok (fun _ _ A hk=>?_)
    refine R.perm C.1 (by exact pm2)<|R.call C U (A.w U U) (A.x U U) (A.s U U) (pre:= [_]) U hlc fun w5 ro5 pre5 hl5 hp5=>hk _ _ ⟨QFs.nil, ?_⟩
    obtain⟨rfl,kv5,rfl,hm5⟩:=hp5
    refine Dn<|Xc U (fun hlf=>?_) (fun hlf=>?_)
    ·refine Xg W<|Ro W<|Rb Y<|Ae W<|Xi<|Xg W<|Rb Y<|Ro W<|Rz<|X.drop C.1 (own':=_::_::_::tail) (.cons_cons _ (List.sublist_cons_self _ _))<|X.perm C.1 (by exact pm1) ?_
     simp only [hlf,if_true] at hnx
     refine X.weaken ?_ (hnx (ro5,kv5) ⟨hi',RO.le_trans hle hl5,hm5⟩ O)
     exact⟨rfl,rfl,by simp [look],rfl,rfl,rfl,by simp [look],trivial⟩
    ·refine Xz<|Xi<|Xg W<|Rb Y<|Ro W<|Rz<|X.drop C.1 (own':=_::_::_::tail) (.cons_cons _ (List.sublist_cons_self _ _))<|X.perm C.1 (by exact pm1) ?_
     simp only [hlf,Bool.false_eq_true,if_false,Nat.add_zero] at hnx
     refine X.weaken ?_ (hnx (ro5,kv5) ⟨hi',RO.le_trans hle hl5,hm5⟩ O)
     exact⟨rfl,rfl,rfl,rfl,rfl,rfl,by simp [look],trivial⟩
   ·obtain rfl:i=(cases b).length:=by omega
    simp only [List.take_length]
    refine Xe U<|Xx W<|Ro W<|Rz<|Xb<|Xu W<|Ri Z b_eql<|Ae W<|Xc U (fun hz=>?_) (fun hz=>?_)
    ·refine Xu W<|Rg Y<|Ae W<|X.ret C U U func51 U (by exact(.tmp U (.tmp U .nil)))<|Hr hret (RO.le_trans hl (RO.le_trans hl3 hle)) ?_
     rw [e,hmay,how,if_pos (by simpa using hz)];rfl
    ·refine Xu W<|Rv 6 W A228 U B226<|Rj W G226 V U<|Rt W A226<|Ri Z b_eql<|Ae W<|Xc U (fun hz2=>?_) (fun hz2=>?_)
     ·refine Xu W<|Rg Y<|Ae W<|X.ret C U U func51 U (by exact(.tmp U (.tmp U .nil)))<|Hr hret (RO.le_trans hl (RO.le_trans hl3 hle)) ?_
      simp only [beq_iff_eq,beq_eq_false_iff_ne,ne_eq] at hz hz2
      rw [e,hmay,how,if_neg O,if_pos O];rfl
     ·refine Xz<|Xi<|Xu W<|Rg Y<|Ae W<|X.ret C U U func51 U (by exact(.tmp U (.tmp U .nil)))<|Hr hret (RO.le_trans hl (RO.le_trans hl3 hle)) ?_
      simp only [beq_iff_eq,beq_eq_false_iff_ne,ne_eq] at hz hz2
      rw [e,hmay,how,if_neg O,if_neg O];rfl
end Go.Lg.B
set_option maxRecDepth 100000
namespace Go.Lg.B
open Go Go.Conc Go.Lg Go.Proofs Go.Proofs.Tryz
variable {α:Type}{b:Bk}{g:Int}{v:Value}{ro:RO}
def mostH(b:Bk)(g:Int):Int:=openH b (there g b.gs.length)
def mostR(b:Bk)(g:Int):Int×Int:=if mostH b g≠0 then(0,mostH b g) else(most b g,0)
def weakH(b:Bk)(g l:Int):Int:=openH b (firstH [there g b.gs.length,loadH l])
def weakR(b:Bk)(g l:Int):List Int×Int:=if weakH b g l≠0 then([],weakH b g l) else(weak b g l,0)
def before(n:Nat):Int:=if n=0 then 0 else(n:Int) -1
theorem all_take{p:α→Bool}{l:List α}(h:∀j (hj:j<l.length),j<l.length→p l[j]=true):l.all p=true:=by
 rw [List.all_eq_true]
 intro x hx
 obtain⟨j,hj,rfl⟩:=List.mem_iff_getElem.1 hx
 exact h j hj hj
theorem all_not{p:α→Bool}{l:List α}{j:Nat}(hj:j<l.length)(h:p l[j]=false):l.all p=false:=by
 rw [List.all_eq_false]
 exact⟨_,List.getElem_mem hj,by simp [h]⟩
theorem before_succ(n:Nat):before (n+1)=n:=by simp only [before];rw [if_neg O];omega
theorem mostGo_step{n m:Nat}{mo:Int}:mostGo b g n (m+1) mo=if(cases b).all fun t=>lifts b t.1 g n then mostGo b g (n+1:Nat) m n else mo:=by
 simp only [mostGo];rfl
theorem gives_flat_len(hb:b.good){l:Int}(hg:0≤g∧g<b.gs.length)(L:List Tn):(L.flatMap fun t=>gives b t.1 g l).length≤L.length*5:=
 flat_le fun t _=>by
  have:=gives_len b t.1 g l
  have:=hb.gearLen hg.1 hg.2
  omega
variable {main:Bool}{J:Goroutine→Mem→Prop}(hJ:Closed prog main J)
include hJ
theorem most_c(he:Env ro)(hv:BkV ro v b)(hs:b.short)(g:Int):CallR prog J (fnv 32) [v, .int .i64 g] ro (fun w _=>w= .tuple [.int .i64 (mostR b g).1, .int .i64 (mostR b g).2].toArray):=by
 obtain⟨vp,vg,vc,vt,rfl,hv⟩:=hv
 have hv':=hv
 obtain⟨_,_,rfl⟩:=hv.1.form
 obtain⟨_,_,rfl⟩:=hv.2.1.form
 obtain⟨_,_,rfl⟩:=hv.2.2.1.form
 obtain⟨_,_,rfl⟩:=hv.2.2.2.form
 refine ER 46 hJ func32 W fun c cs tail hret C=>Xu W<|Bx Z fun p2=>Rg Y<|Ae W<|X.scope C.1<|Xu W<|Rq W G27 B27 V Tk5<|Ro W<|R.makeFunc C U U U U<|R.buildSlice C (vs:=_) U U (show pvals _ _=some (numbered 0 [_]) from rfl) U A323 B231 K231 Dd (Cat.one U U) fun p16=>R.persist C.1 fun ro1 hl h16=>?_
 have hv2:=hv'.mono hl
 have hop:=open_c hJ (he.mono hl) hv2 hs (lsF_one (there g b.gs.length) h16) (Nl rfl) (fun z hz hb m ro' hl'=>by
  rw [List.mem_singleton] at hz;subst hz
  exact askGear_c hJ (hv2.mono hl') hb g m)
 rw [List.map_cons,List.map_nil,firstH_one] at hop
 refine R.call C U U U U (pre:= []) U hop fun w ro3 pre3 hl3 hp3=>?_
 rcases hp3 with⟨h0,rfl,rfl⟩|⟨h0,m,kv,vl,rfl,hm,hls,rfl⟩
 ·
  have e:mostR b g=(0,mostH b g):=by rw [mostR,mostH,if_pos h0]
  refine Ro W<|Re Z<|Re Z<|Al W K228 U fun p6=>Rs Z B228 Y V Ph7<|Ae W<|Xx W<|Ro W<|Ri Z b_neq<|Zc U (fun hq=>?_) (fun hq=>?_)
  ·refine Xm W W<|Rg Y<|Ae W<|X.ret C U U func32 U (by exact(.tmp U (.tmp U .nil)))<|Hr hret (RO.le_trans hl hl3) ?_
   rw [e];rfl
  ·simp at hq;contradiction
 ·
  have e:mostR b g=(mostGo b g 0 100 0,0):=by rw [mostR,mostH,if_neg (by simp [h0])];rfl
  rw [e] at hret
  obtain⟨hb,hg,hne,_⟩:=openH_good h0
  have hg:=there_zero.1 hg
  have hcl:=cases_le hb
  have hv3:=hv2.mono hl3
  obtain⟨lb,lc,rfl⟩:=hls.form
  refine Ro W<|Re Z<|Re Z<|Al W K228 U fun p6=>Rs Z B228 Y V Ph7<|Ae W<|Xx W<|Ro W<|Ri Z b_neq<|Zc U (fun hq=>?_) (fun hq=>?_)
  ·simp at hq
  ·refine Xz<|Xo W W<|Xv<|X.label C.1<|Xx W<|Ro W<|Rz<|Xb<|X.loopI (ι:=Nat×RO×KV) C.1 (fun s=>s.1≤100∧ro3.le s.2.1∧MapOk s.2.1 b s.2.2∧mostGo b g 0 100 0=mostGo b g (s.1:Int) (100-s.1) (before s.1))
    (fun s=> [(1, .int .i64 g),(8, .int .i64 (before s.1)),(6, .pointer (some ⟨p6,0,none⟩)),(23, .int .i64 (s.1:Int))])
    (fun s=>⟨s.2.1,_::(m,mapO s.2.2)::_::tail⟩) (fun s=>100-s.1) (0,ro3,kv) ⟨Nat.zero_le _,RO.le_refl _,hm,rfl⟩ rfl ⟨U,U,U,U,trivial⟩ fun s hs' hnext=>?_
   obtain⟨n,ro4,kv4⟩:=s
   obtain⟨hn,hle,hm4,hr⟩:=hs'
   simp only at hn hle hm4 hr hnext⊢
   refine Xu W<|Ri Z b_lss<|Rz<|Xv<|Xj U (fun hlt=>?_) (fun hlt=>?_)
   ·have hn':n<100:=O
    obtain⟨k,hk⟩:∃k,100-n=k+1:=⟨99-n,O⟩
    have hk2:100- (n+1)=k:=O
    rw [hk,mostGo_step] at hr
    refine Xz<|Xv<|Xb<|Xm W W<|Ae W<|Xx W<|Rv 6 W A228 U B226<|Rj W G226 V U<|Rt W A226<|Ro W<|Rz<|Xb<|X.loopI (ι:=Nat×RO×KV) C.1 (fun s=>s.1≤(cases b).length∧ro3.le s.2.1∧MapOk s.2.1 b s.2.2∧∀j (hj:j<(cases b).length),j<s.1→lifts b (cases b)[j].1 g n=true)
     (fun s=> [(1, .int .i64 g),(8, .int .i64 (before n)),(9, .int .i64 (n:Int)),(6, .pointer (some ⟨p6,0,none⟩)),(23, .int .i64 (n:Int)),(27, .slice lb (cases b).length lc),(28, .int .i64 ((cases b).length:Int)),(29, .int .i64 (s.1:Int))])
     (fun s=>⟨s.2.1,_::(m,mapO s.2.2)::_::tail⟩) (fun s=>(cases b).length-s.1) (0,ro4,kv4) ⟨Nat.zero_le _,hle,hm4,fun _ _ h=>absurd h (Nat.not_lt_zero _)⟩ rfl ⟨U,U,U,U,U,U,U,U,trivial⟩ fun s hs' hnext2=>?_
    obtain⟨i,ro5,kv5⟩:=s
    obtain⟨hi,hle5,hm5,hall⟩:=hs'
    simp only at hi hle5 hm5 hall hnext2⊢
    refine Xu W<|Ri Z b_lss<|Rz<|Xv<|Xj U (fun hlt2=>?_) (fun hlt2=>?_)
    ·have hi':i<(cases b).length:=O
     obtain⟨pp,off,cap,l,t,fq,hsl,hrop,hsub⟩:=hls.at tc_len O
     cases hsl
     have hmem:=List.getElem_mem hi'
     have hsi:=hsub i hi'
     obtain⟨x1,x2,x3,x4,y1,y2,y3,m1,m2,m3⟩:=hb.lit hmem
     rw [tc_eq hb hmem,m3] at hsi
     have hlc:=lifts_c hJ (hv3.mono hle5) hb hg (l:=(n:Int)) O (p:= [x1,x2,x3,x4]) rfl (m:=m) hm5
     rw [lifts_four m1] at hlc
     have hnot:=fun h:lifts b (cases b)[i].1 g n=false=>all_not (p:=fun t:Tn=>lifts b t.1 g n) hi' h
     have hyes:lifts b (cases b)[i].1 g n=true→∀j (hj:j<(cases b).length),j<i+1→lifts b (cases b)[j].1 g n=true:=fun h j hj hji=>by
      by_cases ej:j=i
      ·subst ej;exact h
      ·exact hall j hj O
     generalize lifts b (cases b)[i].1 g n=lf at hlc hnot hyes
     refine Xz<|Xv<|Xb<|Xu W<|Ry Y A226 B237<|La Y G237 B237 (hle5 _ _ hrop) hsi<|Al W K237 U fun p11=>Rs Z B237 Y V Ph7<|Rz<|Xu W<|Rv 0 W A228 U B225<|Rq W G225 B225 V Tk6<|Rv 0 W A237 U B234<|Rq W G234 B234 V Tk4<|Oo W W ?_;refine R.build C U U U K240 U A240 Kr (Fills.part U U B3 U (.here .nil) (Fills.part U U B3 U (.skip (.here .nil)) .nil))<|R.perm C.1 (by exact pm2)<|R.call C U U U U (pre:= [_]) U hlc fun w6 ro6 pre6 hl6 hp6=>?_
     obtain⟨rfl,kv6,rfl,hm6⟩:=hp6
     refine Rh Y<|Zc U (fun hlf=>?_) (fun hlf=>?_)
     ·have hlf:lf=false:=by simpa using hlf
      have hr2:=hnot hlf
      rw [hr2] at hr
      refine Xe U<|Xm W W<|Rg Y<|Ae W<|X.ret C U U func32 U (by exact(.tmp U (.tmp U .nil)))<|Hr hret (RO.le_trans hl (RO.le_trans hl3 (RO.le_trans hle5 hl6))) ?_
      rw [hr];rfl
     ·have hlf:lf=true:=by simpa using hlf
      refine Xz<|Xi<|Xg W<|Rb Y<|Ro W<|Rz<|X.drop C.1 (own':=_::_::_::tail) (.cons_cons _ (List.sublist_cons_self _ _))<|X.perm C.1 (by exact pm1)<|X.weaken ?_ (hnext2 (i+1,ro6,kv6) ⟨hi',RO.le_trans hle5 hl6,hm6,hyes hlf⟩ (by simp only;omega))
      exact⟨rfl,rfl,rfl,rfl,rfl,rfl,rfl,by simp [look],trivial⟩
    ·obtain rfl:i=(cases b).length:=by omega
     have hr2:((cases b).all fun t=>lifts b t.1 g n)=true:=all_take fun j hj _=>hall j hj hj
     rw [if_pos hr2] at hr
     refine Xe U<|Xg W<|Ro W<|Ae W<|Xi<|Xg W<|Rb Y<|Ro W<|Rz<|X.weaken ?_ (hnext (n+1,ro5,kv5) ⟨hn',hle5,hm5, ?_⟩ (by simp only;omega))
     ·exact⟨rfl,by rw [before_succ];rfl,rfl,by simp [look],trivial⟩
     ·simp only [hk2,before_succ];exact hr
   ·obtain rfl:n=100:=by omega
    refine Xe U<|Xm W W<|Rg Y<|Ae W<|X.ret C U U func32 U (by exact(.tmp U (.tmp U .nil)))<|Hr hret (RO.le_trans hl (RO.le_trans hl3 hle)) ?_
    rw [hr];rfl
theorem weak_c(he:Env ro)(hv:BkV ro v b)(hs:b.short)(g n:Int):CallR prog J (fnv 53) [v, .int .i64 g, .int .i64 n] ro (fun w ro'=>∃vl,LsI ro' vl (weakR b g n).1∧w= .tuple [vl, .int .i64 (weakR b g n).2].toArray):=by
 obtain⟨vp,vg,vc,vt,rfl,hv⟩:=hv
 have hv':=hv
 obtain⟨_,_,rfl⟩:=hv.1.form
 obtain⟨_,_,rfl⟩:=hv.2.1.form
 obtain⟨_,_,rfl⟩:=hv.2.2.1.form
 obtain⟨_,_,rfl⟩:=hv.2.2.2.form
 refine ER 48 hJ func53 W fun c cs tail hret C=>Xu W<|Bx Z fun p3=>Rg Y<|Ae W<|Xu W<|Rq W G27 B27 V Tk5<|Ro W<|R.makeFunc C U U U U<|Ro W<|R.makeFunc C U U U U<|R.buildSlice C (vs:=_) U U (show pvals _ _=some (numbered 0 [_,_]) from rfl) U A323 B231 K231 Dd ((.cons U U (.cons U U .nil))) fun p19=>R.persist C.1 fun ro1 hl h19=>?_
 have hv2:=hv'.mono hl
 have hop:=open_c hJ (he.mono hl) hv2 hs (lsF_two (there g b.gs.length) (loadH n) h19) (Nl rfl) (fun z hz hb m ro' hl'=>by
  rcases List.mem_cons.1 hz with rfl|hz
  ·exact askGear_c hJ (hv2.mono hl') hb g m
  ·rw [List.mem_singleton] at hz;subst hz
   exact askLoad_c hJ (hv2.mono hl') n m)
 rw [List.map_cons,List.map_cons,List.map_nil] at hop
 refine R.call C U U U U (pre:= []) U hop fun w ro3 pre3 hl3 hp3=>?_
 rcases hp3 with⟨h0,rfl,rfl⟩|⟨h0,m,kv,vl,rfl,hm,hls,rfl⟩
 ·
  have e:weakR b g n=([],weakH b g n):=by rw [weakR,weakH,if_pos h0]
  refine Ro W<|Re Z<|Re Z<|Al W K228 U fun p8=>Rs Z B228 Y V Ph7<|Ae W<|Xx W<|Ro W<|Ri Z b_neq<|Zc U (fun hq=>?_) (fun hq=>?_)
  ·refine Xm W W<|Rg Y<|Ae W<|X.ret C U U func53 U (by exact(.tmp U (.tmp U .nil)))<|Hr hret (RO.le_trans hl hl3) ?_
   exact⟨_,by rw [e];exact .nil,by rw [e];rfl⟩
  ·simp at hq;contradiction
 ·
  have e:weakR b g n=(weak b g n,0):=by rw [weakR,weakH,if_neg (by simp [h0])]
  obtain⟨hb,hi,hne,_⟩:=openH_good h0
  rw [firstH_two] at hi
  have hg:there g b.gs.length=0:=by
   split at hi
   ·exact hi
   ·rename_i h;exact Classical.not_not.1 h
  rw [if_neg (by simp [hg])] at hi
  have hg:=there_zero.1 hg
  have hk:=loadH_zero.1 hi
  have hcl:=cases_le hb
  have hv3:=hv2.mono hl3
  obtain⟨lb,lc,rfl⟩:=hls.form
  have hwk:weak b g n=numbers ((cases b).flatMap fun t=>gives b t.1 g n):=rfl
  have hgf:=gives_flat_len hb (l:=n) hg
  refine Ro W<|Re Z<|Re Z<|Al W K228 U fun p8=>Rs Z B228 Y V Ph7<|Ae W<|Xx W<|Ro W<|Ri Z b_neq<|Zc U (fun hq=>?_) (fun hq=>?_)
  ·simp at hq
  ·refine Xz<|Xo W W<|Xx W<|Rv 6 W A228 U B226<|Rj W G226 V U<|Rt W A226<|Ro W<|Rz<|Xb<|X.loopI (ι:=Nat×(Value×List (Nat×Obj))×RO×KV) C.1 (fun s=>s.1≤(cases b).length∧Buf 3 1 [] s.2.1.1 ((((cases b).take s.1).flatMap fun t=>gives b t.1 g n).flatMap ic) s.2.1.2∧ro3.le s.2.2.1∧MapOk s.2.2.1 b s.2.2.2)
    (fun s=> [(1, .int .i64 g),(2, .int .i64 n),(10,s.2.1.1),(8, .pointer (some ⟨p8,0,none⟩)),(27, .slice lb (cases b).length lc),(28, .int .i64 ((cases b).length:Int)),(29, .int .i64 (s.1:Int))])
    (fun s=>⟨s.2.2.1,s.2.1.2++_::(m,mapO s.2.2.2)::_::tail⟩) (fun s=>(cases b).length-s.1) (0,(.slice none 0 0, []),ro3,kv) ⟨Nat.zero_le _, .nil,RO.le_refl _,hm⟩ rfl ⟨U,U,U,U,U,U,U,trivial⟩ fun s hs' hnext=>?_
   obtain⟨i,⟨vo,own0⟩,ro4,kv4⟩:=s
   obtain⟨hi,hbuf,hle,hm4⟩:=hs'
   simp only at hi hbuf hle hm4 hnext⊢
   refine Xu W<|Ri Z b_lss<|Rz<|Xv<|Xj U (fun hlt=>?_) (fun hlt=>?_)
   ·have hi':i<(cases b).length:=O
    obtain⟨pp,off,cap,l,t,fq,hsl,hrop,hsub⟩:=hls.at tc_len O
    cases hsl
    have hmem:=List.getElem_mem hi'
    have hsi:=hsub i hi'
    have hta:((cases b).take (i+1)).flatMap (fun t=>gives b t.1 g n)=((cases b).take i).flatMap (fun t=>gives b t.1 g n)++gives b (cases b)[i].1 g n:=by
     rw [List.take_succ_eq_append_getElem hi',List.flatMap_append,List.flatMap_cons,List.flatMap_nil,List.append_nil]
    have hfl:=hgf ((cases b).take i)
    rw [List.length_take] at hfl
    have hfl2:=flat_len (((cases b).take i).flatMap fun t=>gives b t.1 g n)
    generalize(cases b)[i]=co at hmem hsi hta
    obtain⟨x1,x2,x3,x4,y1,y2,y3,m1,m2,m3⟩:=hb.lit hmem
    rw [tc_eq hb hmem,m3] at hsi
    have hgl:=gives_len b co.1 g n
    have hgl2:=hb.gearLen hg.1 hg.2
    have hfl3:=flat_len (gives b co.1 g n)
    have hgc:=gives_c hJ (hv3.mono hle) hb hg (l:=n) O (p:= [x1,x2,x3,x4]) rfl (m:=m) hm4
    rw [show gives b [x1,x2,x3,x4] g n=gives b co.1 g n by rw [←m1,gives_pad]] at hgc
    refine Xz<|Xv<|Xb<|Xu W<|Ry Y A226 B237<|La Y G237 B237 (hle _ _ hrop) hsi<|Al W K237 U fun p12=>Rs Z B237 Y (by repeat (first|exact Uh|apply Ut|apply Upd.app)) Ph7<|Rz<|Xg W<|Ro W<|Rv 0 W A228 U B225<|R.loadAgg C U U U G225 B225 Vm Tk6<|Rv 0 W A237 U B234<|R.loadAgg C U U U G234 B234 Vm Tk4<|Oo W W ?_;refine R.build C U U U K240 U A240 Kr (Fills.part U U B3 U (.here .nil) (Fills.part U U B3 U (.skip (.here .nil)) .nil))<|R.perm C.1 (own':=(m,mapO kv4)::_::(own0++_::_::tail)) (by exact(List.Perm.cons _ (List.perm_middle.trans (List.Perm.cons _ List.perm_middle))).trans (pm2.trans (List.Perm.cons _ (List.Perm.cons _ List.perm_middle.symm))))<|R.call C U U U U (pre:= [_]) U hgc fun w5 ro5 pre5 hl5 hp5=>?_
    obtain⟨hw5,kv5,rfl,hm5⟩:=hp5
    refine R.drop C.1 (own':=(m,mapO kv5)::(own0++_::_::tail)) (.cons_cons _ (List.sublist_cons_self _ _))<|R.perm C.1 (own':=own0++_::(m,mapO kv5)::_::tail) (by exact List.perm_middle.symm.trans (List.Perm.append_left _ pm1))<|R.appendH (kk:=1) C U U U U A58 A58 (fun _=>nofun) (show prog.info? 3=some Tryz.t3 by kernel_rfl) U U U Dd Dd hbuf (hw5.rd ic_len) (ones_ic _) O U fun v' own' hb'=>Ae W<|Xi<|Xg W<|Rb Y<|Ro W<|Rz<|X.weaken ?_ (hnext (i+1,(v',own'),ro5,kv5) ⟨hi', ?_,RO.le_trans hle hl5,hm5⟩ (by simp only;omega))
    ·exact⟨rfl,rfl,rfl,rfl,rfl,rfl,by simp [look],trivial⟩
    ·rw [hta,List.flatMap_append];exact hb'
   ·obtain rfl:i=(cases b).length:=by omega
    simp only [List.take_length] at hbuf
    have hfl:=hgf (cases b)
    rw [e,hwk] at hret
    generalize((cases b).flatMap fun t=>gives b t.1 g n)=L at hbuf hfl hret
    have hX:=BufX.of hbuf
    refine Xe U<|Xm W W<|R.call C U U U U U (sortX_c hJ O hX) fun w6 ro6 own6 hl6 hp6=>?_
    obtain⟨rfl,rfl,hX2⟩:=hp6
    refine Rz<|Xm W W<|R.call C U U U U U (compactX_c hJ (by rw [List.length_mergeSort];omega) hX2) fun w7 ro7 own7 hl7 hp7=>?_
    obtain⟨rfl,hX3⟩:=hp7
    refine Rg Y<|Ae W<|hX3.fin C.1 fun ro8 hl8 hls8=>X.ret C U U func53 U (by exact(.tmp U (.tmp U .nil)))<|hret _ _ _ (RO.le_trans hl (RO.le_trans hl3 (RO.le_trans hle hl8))) (by repeat (first|exact List.Sublist.refl _|apply List.Sublist.cons|apply List.sublist_append_of_sublist_right)) ?_
    exact⟨_,hls8,rfl⟩
end Go.Lg.B
set_option maxRecDepth 100000
namespace Go.Lg.B
open Go Go.Conc Go.Lg Go.Proofs Go.Proofs.Tryz
open Go.ConcR (KK WgAt stA smA rd wr mk)
open Go.ConcN (WgLive)
variable {ro ro0:RO}{own:List (Nat×Obj)}{a g lc mask p5 pg pm px:Nat}{t t2 t5 tx:TypeId}{k':IntKind}{n:Int}{b:Bk}{mx vc vg vp vt:Value}{lb:Option Addr}{f2 f5 fx:Nat×Nat}
section
variable {P:Program}{ty:TypeId}{Wg Ch:Nat}{A A':Goroutine→Mem→Prop}(h:∀g M,A g M→A' g M)
include h
theorem AtW2.mono{vs:Nat}:∀g M,AtW2 P ty Wg Ch A vs g M→AtW2 P ty Wg Ch A' vs g M:=fun _ _ ⟨h1,h2,h3⟩=>⟨h1,h2,fun v hv hne=>let⟨g',h4,h5⟩:=h3 v hv hne;⟨g',h4,h5.mono h⟩⟩
theorem AtW1.mono:∀g M,AtW1 P ty Wg Ch A g M→AtW1 P ty Wg Ch A' g M:=fun _ _ ⟨h1,h2⟩=>⟨h1,fun v hv=>let⟨g',h3,h4,h5⟩:=h2 v hv;⟨g',h3,h4,fun hne=>(h5 hne).mono (AtW2.mono h)⟩⟩
theorem AtKd.mono:∀g M,AtKd P ty Wg A g M→AtKd P ty Wg A' g M:=fun _ _ ⟨h1,g',h2,h3⟩=>⟨h1,g',h2,h3.mono h⟩
end
def AnchA(Wg Ch:Nat)(g:Goroutine)(M:Mem):Prop:= ∃c cs ro own,Tr (WgLive 352 Wg) prog false (AtCl prog Ch) (G (c.finish (.tuple #[])) cs) ⟨ro,own⟩∧Anch Wg c cs ⟨ro,own⟩ g M
theorem anchA_run{Wg Ch:Nat}:∀g M,AnchA Wg Ch g M→g.status= .running:=fun g M ⟨_,_,_,_,_,h⟩=>anch_run g M h
theorem anchA_w1{Wg Ch:Nat}:∀g M,AnchA Wg Ch g M→AtW1 prog 352 Wg Ch (AnchA Wg Ch) g M:=fun g M ⟨c,cs,ro,own,h1,h2⟩=>AtW1.mono (fun _ _ h=>⟨c,cs,ro,own,h1,h⟩) g M (anch_w1 h1 g M h2)
theorem wait_c{Wg Ch:Nat}{c:Frame}{cs:List Frame}(h:Tr (WgLive 352 Wg) prog false (AtCl prog Ch) (G (c.finish (.tuple #[])) cs) ⟨ro,own⟩):
  Tr (WgLive 352 Wg) prog false (AtKd prog 352 Wg (AnchA Wg Ch)) (G (Frame.enter prog 221 [.pointer (some ⟨Wg,0,none⟩)].toArray .normal) (c::cs)) ⟨ro,own⟩:=wait_t.mono (AtKd.mono fun _ _ k=>⟨_,_,_,_,h,k⟩)
theorem closer_t{Wg Ch:Nat}(h5:ro p5=some (.cells [.chan (some Ch)].toArray 342 (0,0))):
  Tr (WgLive 352 Wg) prog false (AtKd prog 352 Wg (AnchA Wg Ch)) (born prog ⟨.fn (.func 220) [.pointer (some ⟨Wg,0,none⟩), .pointer (some ⟨p5,0,none⟩)].toArray, #[]⟩) ⟨ro,own⟩:=by
 have hJ:Closed prog false (Tr (WgLive 352 Wg) prog false (AtKd prog 352 Wg (AnchA Wg Ch))):=Tr.closed
 refine born_X (n:=4) hJ func220 Dd U U (Nl U) ?_
 have C:Ctx prog false _ (bf 220 .deferred):=⟨hJ,by decide⟩
 refine Xu W<|R.enter C U U Kr U fun hok a ha=>wait_c<|R.resume (o:=_) ha hok U ?_
 have hJ:Closed prog false (Tr (WgLive 352 Wg) prog false (AtCl prog Ch)):=Tr.closed
 have C:Ctx prog false _ (bf 220 .deferred):=⟨hJ,by decide⟩
 refine Rz<|Xg W<|Lo Y isAgg342 h5 U ?_
 exact R.closeQ Kr func220 rfl (fun a=>by rfl) rfl rfl rfl
theorem b_shlN{P:Program}(h0:0≤n)(h1:n≤62):∀M K,K (.int .i64 ((2^n.toNat:Nat):Int)) M→Sm P M (binOp .shl t (.int .i64 1) (.int k' n)) K:=fun M K h=>by
 have hb:(2:Nat)^n.toNat≤4611686018427387904:=Nat.le_trans (Nat.pow_le_pow_right O (show n.toNat≤62 by omega)) Dd
 have e:((2^n.toNat:Nat):Int)=1*2^n.toNat:=by simp
 rw [e] at h
 have h2:(1:Int)*2^n.toNat≤4611686018427387904:=by rw [←e];exact Int.ofNat_le.2 hb
 have h3:0≤(1:Int)*2^n.toNat:=by rw [←e];exact Int.natCast_nonneg _
 exact b_shl h0 O O O M K h
theorem b_shrN{P:Program}(h0:0≤n)(h1:n≤62):∀M K,K (.int .i64 ((a>>>n.toNat:Nat):Int)) M→Sm P M (binOp .shr t (.int .i64 (a:Int)) (.int k' n)) K:=fun M K h=>by
 have e:((a>>>n.toNat:Nat):Int)=(a:Int) /2^n.toNat:=by rw [Nat.shiftRight_eq_div_pow];simp
 rw [e] at h
 exact b_shr h0 (by simp [IntKind.bits];omega) O M K h
theorem b_and1{P:Program}(ha:a<2^63):∀M K,K (.int .i64 ((a &&& 1:Nat):Int)) M→Sm P M (binOp .and t (.int .i64 (a:Int)) (.int .i64 1)) K:=fun M K h=>b_and (c:=1) ha O M K h
theorem bit_one(a n:Nat):(((a>>>n &&& 1:Nat):Int)==1)=a.testBit n:=by
 rw [Nat.testBit_eq_decide_div_mod_eq,Nat.shiftRight_eq_div_pow,Nat.and_one_is_mod]
 generalize a/2^n%2=x
 by_cases h:x=1
 ·simp [h]
 ·simp only [h,decide_false,beq_eq_false_iff_ne,ne_eq];omega
def cS:Code→Code
 | .scope c=>c
 |c=>c
noncomputable def b218:Code:=Tryz.f218.body.getD .skip
noncomputable def w185:Code:=cB (cB (cR (cR (cR (cR (cS b218))))))
def pairV(g p:Nat):Value:= .agg #[.int .i64 (g:Int), .int .i64 (p:Int)]
def sentTo(b:Bk)(mask g k:Nat):List Value:=((List.range k).filter fun p:Nat=>sure b mask g p).map (pairV g)
def okS(b:Bk)(mask g:Nat)(sent:List Value)(_:RO):Prop:=sent=sentTo b mask g b.cs.length
theorem okS.mono:∀g sent ro ro',RO.le ro ro'→okS b mask g sent ro→okS b mask g sent ro':=fun _ _ _ _ _ h=>h
theorem sentTo_succ(b:Bk)(mask g k:Nat):sentTo b mask g (k+1)=if sure b mask g k then sentTo b mask g k++ [pairV g k] else sentTo b mask g k:=by
 unfold sentTo
 rw [List.range_succ,List.filter_append,List.map_append]
 by_cases h:sure b mask g k=true
 ·simp [h]
 ·simp [h]
def renewTo(mask:Nat):Nat→List Int→List Int
 |0,xs=>xs
 |i+1,xs=>if mask.testBit i then(renewTo mask i xs).set i 99 else renewTo mask i xs
theorem renewTo_len(mask:Nat)(xs:List Int):∀i,(renewTo mask i xs).length=xs.length
 |0=>rfl
 |i+1=>by
  simp only [renewTo];split
  ·rw [List.length_set];exact renewTo_len mask xs i
  ·exact renewTo_len mask xs i
theorem renewTo_all(mask:Nat)(x1 x2 x3 x4:Int):renewTo mask 4 [x1,x2,x3,x4]=renew mask [x1,x2,x3,x4]:=by
 simp only [renewTo,renew,renewGo]
 cases mask.testBit 0<;>cases mask.testBit 1<;>cases mask.testBit 2<;>cases mask.testBit 3<;>rfl
theorem piece_at'{pn:List Int}{y1 y2 y3 k:Int}(h4:pn.length=4)(h0:0≤k)(h1:k<3):(ints (pn++ [y1,y2,y3]))[4+k.toNat*1]? =some (.int .i64 (nth [y1,y2,y3] k)):=by
 match pn,h4 with
 | [_,_,_,_],_=>exact piece_at h0 h1
theorem vok_pair{p:Nat}(hg:g<3)(hp:p<3):vok (pairV g p):=⟨g,p,rfl,hg,hp⟩
theorem pieces_w{Wg Ch py m:Nat}(hv:BkP ro0 b vp vg vc vt)(hb:b.good)(hls:LsT ro0 (.slice lb (cases b).length lc) (cases b)) 
  (hx:ro0 px=some (.cells [.int .i64 b.w,vp,vg,vc,vt,mx, .slice lb (cases b).length lc].toArray tx fx)) (hm:ro0 pm=some (.cells [.int .i64 (mask:Int)].toArray t2 f2)) (h5:ro0 p5=some (.cells [.chan (some Ch)].toArray t5 f5)) (hg:g<b.gs.length) (hmask:mask<2^63):
  ∀ (rem k:Nat) (kv:KV) (ro1:RO),k+rem=b.cs.length→ro0.le ro1→MapOk ro1 b kv→
   X (Wtr prog 352 Wg Ch (okS b mask g) (sentTo b mask g k)) (bf 218 .deferred) [botF prog] 60 [.code w185, .inLoop w185, .inBlock 0, .inScope (cS b218)] [dcall 219 [.pointer (some ⟨Wg,0,none⟩)].toArray]
    [(1, .pointer (some ⟨px,0,none⟩)),(2, .pointer (some ⟨pm,0,none⟩)),(3, .pointer (some ⟨pg,0,none⟩)),(4, .pointer (some ⟨p5,0,none⟩)),(5, .pointer (some ⟨py,0,none⟩)),(20, .int .i64 (b.cs.length:Int)),(21, .int .i64 (k:Int))]
    ⟨ro1,(py, .cells [.int .i64 b.w,vp,vg,vc,vt, .map (some m)].toArray 225 (0,0))::(m,mapO kv):: [(pg, .cells [.int .i64 (g:Int)].toArray 3 (0,0))]⟩:=by
 have hnc:=hb.nc
 have hng:=hb.ng
 have hcl:=cases_le hb
 intro rem
 induction rem with
 |zero=>
  intro k kv ro1 hk hle hmk
  obtain rfl:k=b.cs.length:=by omega
  have hJ:Closed prog false (Wtr prog 352 Wg Ch (okS b mask g) (sentTo b mask g b.cs.length)):=Wtr.closed
  have C:Ctx prog false _ (bf 218 .deferred):=⟨hJ,by decide⟩
  refine Xr C U U<|R.int C U U U U b_lss<|R.fixv (t:=22) (v':= .bool false) U (by exact congrArg Value.bool Zi)<|R.done C<|Xs C<|X.cond C.1 U (fun h=>nomatch h) (fun _=>?_)
  refine X.exit C.1 U<|X.inScope C.1<|X.drop C.1 (own':= [_]) (.cons _ (List.sublist_cons_self _ _)) ?_
  exact X.doneW (L:=wgL) wgLib func218 rfl rfl
 |succ rem ih=>
  intro k kv ro1 hk hle hmk
  have hk':k<b.cs.length:=O
  have hss:=sentTo_succ b mask g k
  have hJ:Closed prog false (Wtr prog 352 Wg Ch (okS b mask g) (sentTo b mask g k)):=Wtr.closed
  have C:Ctx prog false _ (bf 218 .deferred):=⟨hJ,by decide⟩
  refine Xr C U U<|R.int C U U U U b_lss<|R.fixv (t:=22) (v':= .bool true) U (by exact congrArg Value.bool Zo)<|R.done C<|Xs C<|X.cond C.1 U (fun _=>?_) (fun h=>nomatch h)
  refine X.skip C.1<|Xs C<|X.block C.1<|Xr C U U<|Rm C U U<|Ad C U U<|Xs C<|Xr C U U<|R.fieldAddr C U U U A228 U B226 U<|R.loadOneRo C U U U G226 (hle _ _ hx) U<|Rn C U U A226<|Rm C U U<|R.done C<|X.block C.1<|X.loopI (ι:=Nat×RO×KV) C.1 (fun s=>s.1≤(cases b).length∧ro1.le s.2.1∧MapOk s.2.1 b s.2.2∧∀j (hj:j<(cases b).length),j<s.1→lifts b (renew mask (pad 4 (cases b)[j].1)) g (nth (cases b)[j].2 k)=true)
   (fun s=> [(1, .pointer (some ⟨px,0,none⟩)),(2, .pointer (some ⟨pm,0,none⟩)),(3, .pointer (some ⟨pg,0,none⟩)),(4, .pointer (some ⟨p5,0,none⟩)),(5, .pointer (some ⟨py,0,none⟩)),(6, .int .i64 (k:Int)),(20, .int .i64 (b.cs.length:Int)),(21, .int .i64 (k:Int)),(25, .slice lb (cases b).length lc),(26, .int .i64 ((cases b).length:Int)),(27, .int .i64 (s.1:Int))])
   (fun s=>⟨s.2.1,(py, .cells [.int .i64 b.w,vp,vg,vc,vt, .map (some m)].toArray 225 (0,0))::(m,mapO s.2.2):: [(pg, .cells [.int .i64 (g:Int)].toArray 3 (0,0))]⟩) (fun s=>(cases b).length-s.1) (0,ro1,kv) ⟨Nat.zero_le _,RO.le_refl _,hmk,fun _ _ h=>absurd h (Nat.not_lt_zero _)⟩ rfl ⟨U,U,U,U,U,U,U,U,U,U,U,trivial⟩ fun s hs' hnext=>?_
  obtain⟨i,ro2,kv2⟩:=s
  obtain⟨hi,hle2,hm2,hall⟩:=hs'
  simp only at hi hle2 hm2 hall hnext⊢
  have hle0:=RO.le_trans hle hle2
  refine Xr C U U<|R.int C U U U U b_lss<|R.done C<|Xs C<|Xk C U (fun hlt=>?_) (fun hlt=>?_)
  ·have hi':i<(cases b).length:=O
   obtain⟨pp,off,cap,l,t,fq,hsl,hrop,hsub⟩:=hls.at tc_len O
   cases hsl
   have hmem:=List.getElem_mem hi'
   have hsi:=hsub i hi'
   obtain⟨x1,x2,x3,x4,y1,y2,y3,m1,m2,m3⟩:=hb.lit hmem
   have hwb:=weight_bd hb hmem (k:=(k:Int)) O O
   rw [tc_eq hb hmem,m3] at hsi
   have hnot:=fun h:lifts b (renew mask (pad 4 (cases b)[i].1)) g (nth (cases b)[i].2 k)=false=>all_not (p:=fun t:Tn=>lifts b (renew mask (pad 4 t.1)) g (nth t.2 k)) hi' h
   have hyes:lifts b (renew mask (pad 4 (cases b)[i].1)) g (nth (cases b)[i].2 k)=true→∀j (hj:j<(cases b).length),j<i+1→lifts b (renew mask (pad 4 (cases b)[j].1)) g (nth (cases b)[j].2 k)=true:=fun h j hj hji=>by
    by_cases ej:j=i
    ·subst ej;exact h
    ·exact hall j hj O
   have hlf2:lifts b (renew mask (pad 4 (cases b)[i].1)) g (nth (cases b)[i].2 k)=lifts b (renewTo mask 4 [x1,x2,x3,x4]) g (nth [y1,y2,y3] k):=by rw [renewTo_all,m1,nth_three m2]
   rw [←nth_three m2] at hwb
   rw [hlf2] at hnot hyes
   refine X.skip C.1<|Xs C<|X.block C.1<|Xr C U U<|Rx C U U U A226 B237<|R.loadAggRo C U U U G237 B237 (hle0 _ _ hrop) hsi<|R.alloc C U U K237 U fun p8=>R.store C U U U U B237 U U U V Ph7<|R.done C<|Xs C<|Xr C U U<|Rm C U U<|R.done C<|X.block C.1<|X.loopI (ι:=Nat) C.1 (fun j=>j≤4)
    (fun j=> [(1, .pointer (some ⟨px,0,none⟩)),(2, .pointer (some ⟨pm,0,none⟩)),(3, .pointer (some ⟨pg,0,none⟩)),(4, .pointer (some ⟨p5,0,none⟩)),(5, .pointer (some ⟨py,0,none⟩)),(6, .int .i64 (k:Int)),(8, .pointer (some ⟨p8,0,none⟩)),(20, .int .i64 (b.cs.length:Int)),(21, .int .i64 (k:Int)),(25, .slice (some ⟨pp,off,none⟩) (cases b).length lc),(26, .int .i64 ((cases b).length:Int)),(27, .int .i64 (i:Int)),(31, .int .i64 (j:Int))])
    (fun j=>⟨ro2,(p8, .cells (ints (renewTo mask j [x1,x2,x3,x4]++ [y1,y2,y3])).toArray 237 (0,0))::(py, .cells [.int .i64 b.w,vp,vg,vc,vt, .map (some m)].toArray 225 (0,0))::(m,mapO kv2):: [(pg, .cells [.int .i64 (g:Int)].toArray 3 (0,0))]⟩) (fun j=>4-j) 0 (Nat.zero_le _) rfl ⟨U,U,U,U,U,U,U,U,U,U,U,U,U,trivial⟩ fun j hj hnextb=>?_
   have hrl:(renewTo mask j [x1,x2,x3,x4]).length=4:=renewTo_len _ _ _
   refine Xr C U U<|R.int C U U U U b_lss<|R.done C<|Xs C<|Xk C U (fun hlt4=>?_) (fun hlt4=>?_)
   ·have hj':j<4:=O
    have hnb:=hnextb (j+1) hj' O
    simp only [renewTo] at hnb
    refine X.skip C.1<|Xs C<|X.block C.1<|Xr C U U<|Rm C U U<|Ad C U U<|Xr C U U<|R.loadOneRo C U U U G3 (hle0 _ _ hm) U<|Rm C U U<|R.shift C U U U U (b_shrN O O)<|R.int C U U U U (b_and1 (Nat.lt_of_le_of_lt (Nat.shiftRight_le _ _) hmask))<|R.int C U U U U b_eql<|R.done C<|X.cond C.1 U (fun hbit=>?_) (fun hbit=>?_)
    ·rw [Int.toNat_natCast,bit_one] at hbit
     rw [if_pos hbit] at hnb
     refine X.region C U U<|Rm C U U<|Rf C 0 U U A237 U B234<|R.indexAddrA C U U U U A234 B3 O O<|R.store C U U U U B3 U U U V (put_part O)<|R.done C<|X.inBlock C.1<|X.region C U U<|Ra C U U U<|Rm C U U<|R.done C<|X.weaken ?_ hnb
     exact⟨rfl,rfl,rfl,rfl,rfl,rfl,rfl,rfl,rfl,rfl,rfl,rfl,by simp [look],trivial⟩
    ·rw [Int.toNat_natCast,bit_one] at hbit
     rw [if_neg (by simp [hbit])] at hnb
     refine X.skip C.1<|X.inBlock C.1<|X.region C U U<|Ra C U U U<|Rm C U U<|R.done C<|X.weaken ?_ hnb
     exact⟨rfl,rfl,rfl,rfl,rfl,rfl,rfl,rfl,rfl,rfl,rfl,rfl,by simp [look],trivial⟩
   ·obtain rfl:j=4:=by omega
    generalize renewTo mask 4 [x1,x2,x3,x4]=rn at hrl hnot hyes⊢
    have hlc:=lifts_c hJ ((hv.mono hle0)) hb (g:=(g:Int)) O (l:=nth [y1,y2,y3] k) O (p:=rn) hrl (m:=m) hm2
    have hpa:=piece_at' (pn:=rn) (y1:=y1) (y2:=y2) (y3:=y3) (k:=(k:Int)) hrl O O
    have hfr:Sub 0 4 (ints (rn++ [y1,y2,y3])) (ints rn):=by have:=Sub.front (ints rn) (ints [y1,y2,y3]);rw [←ints_append,ints_len,hrl] at this;exact this
    generalize lifts b rn g (nth [y1,y2,y3] k)=lf at hlc hnot hyes
    refine X.exit C.1 U<|Xs C<|Xd C fun hok=>D5 C 0 hok U U G225 B225 V Tk6<|Df (off':=0) C 1 hok U U U A237 U B234 U<|D5 C 2 hok U U G234 B234 V hfr<|D1 C 3 hok U U G3 V U<|Dm C 4 hok U U U<|Df (off':=4) C 5 hok U U U A237 U B235 U<|Dp 6 hok (fun _ _ _ A h=>R.indexAddrA C U (A.w U U) (A.x U U) (A.x U U) A235 B3 O O h)<|D1 C 7 hok U U G3 V hpa ?_;refine Dp 8 hok (fun _ _ _ A h=>R.build C U (A.w U U) (A.p U U) K240 U A240 Kr (Fills.part U U B3 U (.here .nil) (Fills.part U U B3 U (.skip (.here .nil)) .nil)) h)<|De 9 (some 52) [false,false,false,false] hok (fun _ _ A hk=>?_)
    refine R.perm C.1 (by exact pm2)<|R.call C U (A.w U U) (A.x U U) (A.s U U) (pre:= [_]) U hlc fun w3 ro3 pre3 hl3 hp3=>hk _ _ ⟨QFs.nil, ?_⟩
    obtain⟨rfl,kv3,rfl,hm3⟩:=hp3
    refine Dp 10 hok (fun _ _ _ A h=>R.not C U (A.w U U) (A.x U U) h)<|D.done C hok Kr<|X.cond C.1 U (fun hlf=>?_) (fun hlf=>?_)
    ·have hlf:lf=false:=by simpa using hlf
     have hsu:sure b mask g k=false:=hnot hlf
     rw [if_neg (by simp [hsu])] at hss
     refine X.exit C.1 U<|X.region C U U<|Ra C U U U<|Rm C U U<|R.done C<|X.drop C.1 (own':=_::_:: [_]) (.cons_cons _ (List.sublist_cons_self _ _))<|X.perm C.1 (by exact pm1)<|X.inLoop hJ ?_
     have:=ih (k+1) kv3 ro3 O (RO.le_trans hle0 hl3) hm3
     rw [hss] at this
     refine X.weaken ?_ this
     exact⟨rfl,rfl,rfl,rfl,rfl,rfl,by simp [look],trivial⟩
    ·have hlf:lf=true:=by simpa using hlf
     refine X.skip C.1<|X.inBlock C.1<|X.region C U U<|Ra C U U U<|Rm C U U<|R.done C<|X.drop C.1 (own':=_::_:: [_]) (.cons_cons _ (List.sublist_cons_self _ _))<|X.perm C.1 (by exact pm1)<|X.weaken ?_ (hnext (i+1,ro3,kv3) ⟨hi',RO.le_trans hle2 hl3,hm3,hyes hlf⟩ (by simp only;omega))
     exact⟨rfl,rfl,rfl,rfl,rfl,rfl,rfl,rfl,rfl,rfl,by simp [look],trivial⟩
  ·obtain rfl:i=(cases b).length:=by omega
   have hsu:sure b mask g k=true:=all_take fun j hj _=>hall j hj hj
   rw [if_pos hsu] at hss
   refine X.exit C.1 U<|X.region C U U<|R.loadOneRo C U U U isAgg342 (hle0 _ _ h5) U<|Rl C U U G3 V U<|Rm C U U<|R.buildA C (vs:=_) U U (show pvals _ _=some (numbered 0 [_,_]) from rfl) zeroValue354 U A354 B3 U (.cons U U (.cons U U .nil)) ?_;refine R.send Dd U U U U (vok_pair (show g<3 by omega) (show k<3 by omega)) ?_
   have hJ2:Closed prog false (Wtr prog 352 Wg Ch (okS b mask g) (sentTo b mask g k++ [pairV g k])):=Wtr.closed
   have C:Ctx prog false _ (bf 218 .deferred):=⟨hJ2,by decide⟩
   refine R.done C<|X.inBlock C.1<|X.region C U U<|Ra C U U U<|Rm C U U<|R.done C<|X.inLoop hJ2 ?_
   have:=ih (k+1) kv2 ro2 O hle0 hm2
   rw [hss] at this
   refine X.weaken ?_ this
   exact⟨rfl,rfl,rfl,rfl,rfl,rfl,by simp [look],trivial⟩
theorem worker_t{Wg Ch pf:Nat}(hv:BkP ro0 b vp vg vc vt)(hb:b.good)(hls:LsT ro0 (.slice lb (cases b).length lc) (cases b)) 
  (hx:ro0 px=some (.cells [.int .i64 b.w,vp,vg,vc,vt,mx, .slice lb (cases b).length lc].toArray tx fx)) (hm:ro0 pm=some (.cells [.int .i64 (mask:Int)].toArray t2 f2)) (h5:ro0 pf=some (.cells [.chan (some Ch)].toArray t5 f5)) (hg:g<b.gs.length) (hmask:mask<2^63):
  Wtr prog 352 Wg Ch (okS b mask g) [] (born prog ⟨.fn (.func 218) [.pointer (some ⟨Wg,0,none⟩), .pointer (some ⟨px,0,none⟩), .pointer (some ⟨pm,0,none⟩), .pointer (some ⟨pg,0,none⟩), .pointer (some ⟨pf,0,none⟩)].toArray, #[]⟩) ⟨ro0, [(pg, .cells [.int .i64 (g:Int)].toArray 3 (0,0))]⟩:=by
 have hJ:Closed prog false (Wtr prog 352 Wg Ch (okS b mask g) []):=Wtr.closed
 have hpw:=fun m py:Nat=>pieces_w (mx:=mx) (Wg:=Wg) (pg:=pg) (m:=m) (py:=py) hv hb hls hx hm h5 hg hmask b.cs.length 0
 have hv':=hv
 obtain⟨_,_,rfl⟩:=hv.1.form
 obtain⟨_,_,rfl⟩:=hv.2.1.form
 obtain⟨_,_,rfl⟩:=hv.2.2.1.form
 obtain⟨_,_,rfl⟩:=hv.2.2.2.form
 refine born_X (n:=60) hJ func218 Dd U U (Nl U) ?_
 have C:Ctx prog false _ (bf 218 .deferred):=⟨hJ,by decide⟩
 refine X.scope C.1<|Xu W<|R.defer C (xs:= [.tmp 0]) (vs:= [.pointer (some ⟨Wg,0,none⟩)]) U U U<|Rz<|Xu W<|R.fieldAddr C U U U A228 U B225 U<|R.fieldAddr C U U U A225 U B222 U<|R.fieldAddr C U U U A222 U B27 U<|La Y G27 B27 hx Tk5<|R.call C U U U U (pre:= []) U (yardOf_c hJ hv') fun w ro1 pre1 hl1 hp1=>?_
 obtain⟨rfl,m,rfl,rfl⟩:=hp1
 refine Al W K225 U fun p5=>Rs Z B225 Y V Ph6<|Rz<|Xv<|X.label C.1<|Xu W<|R.fieldAddr C U U U A228 U B225 U<|R.fieldAddr C U U U A225 U B222 U<|R.fieldAddr C U U U A222 U B27 U<|R.fieldAddr C U U U A27 U B24 U<|Lo Y G24 hx U<|Rt W A24<|Ro W<|Rz<|Xb<|X.loop C.1<|X.weaken ?_ (hpw m p5 [] ro1 O (RO.le_refl _) (fun x hx=>absurd hx (List.not_mem_nil)))
 exact⟨U,U,U,U,U,U,U,trivial⟩
end Go.Lg.B
set_option maxRecDepth 100000
namespace Go.Lg.B
open Go Go.Conc Go.Lg Go.Proofs Go.Proofs.Tryz
open Go.ConcR (KK WgAt stA smA rd wr mk)
open Go.ConcN (WgLive)
variable {s:Nat→Nat→Bool}{Ch Wg a c mask p4:Nat}{rs:List Value}{b:Bk}{ro ro0:RO}{cs:List Frame}{own tail:List (Nat×Obj)}{Q:Machine→Outcome→World→Trace→Prop}{vc vg vp vt:Value}{At:List Value→Goroutine→Mem→Prop}
noncomputable def b147:Code:=Tryz.f147.body.getD .skip
noncomputable def d5:Code:=cR (cR (cR b147))
noncomputable def lb1:Code:=cB (cB (cR (cL d5)))
noncomputable def d7:Code:=cR (cR (cR d5))
noncomputable def lb2:Code:=cB (cB (cR (cL d7)))
def sC(s:Nat→Nat→Bool):List Value:= [.bool (s 0 0), .bool (s 0 1), .bool (s 0 2), .bool (s 1 0), .bool (s 1 1), .bool (s 1 2), .bool (s 2 0), .bool (s 2 1), .bool (s 2 2)]
theorem sC_congr{t:Nat→Nat→Bool}(h:∀j k,j<3→k<3→s j k=t j k):sC s=sC t:=by
 simp only [sC,h 0 0 O O,h 0 1 O O,h 0 2 O O,h 1 0 O O,h 1 1 O O,h 1 2 O O,h 2 0 O O,h 2 1 O O,h 2 2 O O]
def sureM(b:Bk)(mask j k:Nat):Bool:=decide (j<b.gs.length) && (decide (k<b.cs.length) && sure b mask j k)
def updS(s:Nat→Nat→Bool)(a c:Nat):Nat→Nat→Bool:=fun j k=>(j==a && k==c)||s j k
theorem put_sure(ha:a<3)(hc:c<3):Put (0+((a:Int)).toNat*3+((c:Int)).toNat*1) [.bool true] (sC s) (sC (updS s a c)):=by
 have h1:a=0∨a=1∨a=2:=O
 have h2:c=0∨c=1∨c=2:=O
 rcases h1 with rfl|rfl|rfl<;>rcases h2 with rfl|rfl|rfl
 ·exact .here .nil
 ·exact .skip (.here .nil)
 ·exact .skip (.skip (.here .nil))
 ·exact .skip (.skip (.skip (.here .nil)))
 ·exact .skip (.skip (.skip (.skip (.here .nil))))
 ·exact .skip (.skip (.skip (.skip (.skip (.here .nil)))))
 ·exact .skip (.skip (.skip (.skip (.skip (.skip (.here .nil))))))
 ·exact .skip (.skip (.skip (.skip (.skip (.skip (.skip (.here .nil)))))))
 ·exact .skip (.skip (.skip (.skip (.skip (.skip (.skip (.skip (.here .nil))))))))
theorem pairV_inj{j k:Nat}(h:pairV a c=pairV j k):a=j∧c=k:=by
 simp only [pairV,Value.agg.injEq] at h
 have:=congrArg Array.toList h
 simp at this
 omega
def SOk(s:Nat→Nat→Bool)(rs:List Value):Prop:= ∀j k,s j k=true↔pairV j k∈rs
theorem SOk.put(h:SOk s rs)(a c:Nat):SOk (updS s a c) (rs++ [pairV a c]):=fun j k=>by
 simp only [updS,Bool.or_eq_true,Bool.and_eq_true,beq_iff_eq,List.mem_append,List.mem_singleton,h j k]
 constructor
 ·rintro(⟨rfl,rfl⟩|h)
  ·exact .inr rfl
  ·exact .inl h
 ·rintro(h|h)
  ·exact .inr h
  ·have:=pairV_inj h;exact .inl ⟨this.1,this.2⟩
theorem all_sent(h:AllSent b.gs.length (okS b mask) rs ro)(hs:SOk s rs)(j k:Nat):s j k=sureM b mask j k:=by
 obtain⟨S,hp,hS⟩:=h
 rw [Bool.eq_iff_iff,hs j k,hp.mem_iff,List.mem_flatMap]
 simp only [sureM,Bool.and_eq_true,decide_eq_true_eq]
 constructor
 ·rintro⟨g,hg,hm⟩
  rw [List.mem_range] at hg
  rw [hS g hg] at hm
  unfold sentTo at hm
  rw [List.mem_map] at hm
  obtain⟨p,hp2,e⟩:=hm
  rw [List.mem_filter,List.mem_range] at hp2
  obtain⟨rfl,rfl⟩:=pairV_inj e
  exact⟨hg,hp2.1,hp2.2⟩
 ·rintro⟨hg,hk,hsu⟩
  refine⟨j,List.mem_range.2 hg, ?_⟩
  rw [hS j hg]
  unfold sentTo
  rw [List.mem_map]
  exact⟨k,List.mem_filter.2 ⟨List.mem_range.2 hk,hsu⟩,rfl⟩
def AtR(Ch p4:Nat)(ro0:RO)(cs:List Frame)(tail:List (Nat×Obj))(rs:List Value)(g:Goroutine)(M:Mem):Prop:=
 ∃a ro s s0 p8,Holds 35 [] [(24, .chan (some Ch)),(8, .pointer (some ⟨p8,0,none⟩)),(4, .pointer (some ⟨p4,0,none⟩))] a∧g=G (fr (bf 147 .normal) a [.inRegion (cO (cL lb2)) [0,1], .code (cR lb2), .inLoop lb2, .inBlock 2, .code (cR d7)]) cs∧
  M=⟨ro,(p8, .cells (sC s).toArray 270 (0,0))::(p4, .cells (sC s0).toArray 270 (0,0))::tail⟩∧SOk s rs∧ro0.le ro
theorem atR_run:∀rs g M,AtR Ch p4 ro0 cs tail rs g M→g.status= .running:=by
 rintro rs g M ⟨a,ro,s,s0,p8,_,rfl,_,_⟩;rfl
theorem to_recv{p8:Nat}{s0:Nat→Nat→Bool}(hle:ro0.le ro)(hs:SOk s rs):
  X (Tr (WgLive 352 Wg) prog true (AtR Ch p4 ro0 cs tail rs)) (bf 147 .normal) cs 35 [.code lb2, .inLoop lb2, .inBlock 2, .code (cR d7)] [] [(24, .chan (some Ch)),(8, .pointer (some ⟨p8,0,none⟩)),(4, .pointer (some ⟨p4,0,none⟩))] ⟨ro,(p8, .cells (sC s).toArray 270 (0,0))::(p4, .cells (sC s0).toArray 270 (0,0))::tail⟩:=by
 have hJ:Closed prog true (Tr (WgLive 352 Wg) prog true (AtR Ch p4 ro0 cs tail rs)):=Tr.closed
 have C:Ctx prog true _ (bf 147 .normal):=⟨hJ,by decide⟩
 refine Xu W ?_
 exact fun _ a ha=>Tr.stop ⟨a,ro,s,s0,p8,ha,rfl,rfl,hs,hle⟩
theorem recv_c{c:Frame} 
  (hret:∀v ro' own,ro0.le ro'→v= .agg (sC (sureM b mask)).toArray→tail.Sublist own→JM prog Q (G (c.finish v) cs) ⟨ro',own⟩):
  ∀rs g M,AtR Ch p4 ro0 (c::cs) tail rs g M→Recv prog 352 Wg Ch b.gs.length (okS b mask) (JM prog Q) (AtR Ch p4 ro0 (c::cs) tail) rs g M:=by
 rintro rs g M ⟨a,ro,s,s0,p8,ha,rfl,rfl,hs,hle0⟩
 have hok:dstsOk 35 (cO (cL lb2)).toList=true:=by kernel_rfl
 refine recvAt Dd hok ha U U U runUnderlying342 zeroValue354 (fun v hv=>?_) (fun ro' hl hsent=>?_)
 ·obtain⟨x,y,rfl,hx,hy⟩:=hv
  have hs2:=hs.put x y
  have hJ:Closed prog true (Tr (WgLive 352 Wg) prog true (AtR Ch p4 ro0 (c::cs) tail (rs++ [pairV x y]))):=Tr.closed
  have C:Ctx prog true _ (bf 147 .normal):=⟨hJ,by decide⟩
  refine R.ext C U U U U<|R.fixv (t:=26) (v':= .bool true) U (by rfl)<|R.done C<|Xs C<|X.cond C.1 U (fun _=>?_) (fun h=>nomatch h)
  refine X.skip C.1<|X.block C.1<|Xr C U U<|R.ext C U U U U<|R.alloc C U U zeroValue354 U fun p9=>R.store C U U U U sizeOf354 U U U V Ph2<|R.done C<|Xd C fun hok=>Dp 0 hok (fun _ _ _ A h=>R.indexAddrA C U (A.w U U) (A.x U U) (A.x U U) A354 B3 O O h)<|D1 C 1 hok U U G3 V U<|Dp 2 hok (fun _ _ _ A h=>R.indexAddrA C U (A.w U U) (A.x U U) (A.x U U) A354 B3 O O h)<|D1 C 3 hok U U G3 V U<|Dp 4 hok (fun _ _ _ A h=>R.indexAddrA C U (A.w U U) (A.x U U) (A.x U U) A270 sizeOf268 O O h)<|Dp 5 hok (fun _ _ _ A h=>R.indexAddrA C U (A.w U U) (A.x U U) (A.x U U) A268 B4 O O h)<|De 6 none [false,false] hok (fun _ _ A hk=>?_)
  refine R.store C U (A.w U U) (A.x U U) (A.x U U) B4 U U U V (put_sure hx hy) (hk undef _ ⟨QFs.nil, ?_⟩)
  refine D.done C hok Kr<|X.inBlock C.1<|X.drop C.1 (own':=_::_::tail) (List.sublist_cons_self _ _)<|X.inLoop hJ<|X.weaken (σ':= [(24, .chan (some Ch)),(8, .pointer (some ⟨p8,0,none⟩)),(4, .pointer (some ⟨p4,0,none⟩))]) ⟨U,U,U,trivial⟩ ?_
  exact to_recv hle0 hs2
 ·have hJ:Closed prog true (JM prog Q):=JM.closed
  have C:Ctx prog true _ (bf 147 .normal):=⟨hJ,by decide⟩
  have hse:sC s=sC (sureM b mask):=sC_congr fun j k _ _=>all_sent hsent hs j k
  rw [hse]
  refine R.ext C U U U U<|R.fixv (t:=26) (v':= .bool false) U (by rfl)<|R.done C<|Xs C<|X.cond C.1 U (fun h=>nomatch h) (fun _=>?_)
  refine X.exit C.1 U<|Xr C U U<|R.loadAgg C U U U isAgg270 B270 V (.take (.take (.take Tk6)))<|R.store C U U U U B270 U U U V (.here (.here Ph7))<|R.done C<|X.ret C U U func147 U (by exact(.agg U isAgg270 B270 V (.take (.take (.take Tk6))) .nil)) ?_
  exact hret _ ro' _ (RO.le_trans hle0 hl) rfl Vs
theorem spawn_t{mx:Value}{p2 p3 p5:Nat}{lb:Option Addr}{lc:Nat}{kr:List Item}(hv:BkP ro b vp vg vc vt)(hb:b.good)(hls:LsT ro (.slice lb (cases b).length lc) (cases b)){tx t2:TypeId}{fx f2:Nat×Nat}
  (hx:ro p2=some (.cells [.int .i64 b.w,vp,vg,vc,vt,mx, .slice lb (cases b).length lc].toArray tx fx)) (hm:ro p3=some (.cells [.int .i64 (mask:Int)].toArray t2 f2)) (h5:ro p5=some (.cells [.chan (some Ch)].toArray 342 (0,0))) (hmask:mask<2^63)
  (hfin:X (Tr (WgLive 352 Wg) prog true (AtGoC prog 352 Wg (AnchA Wg Ch) At)) (bf 147 .normal) cs 35 kr [] [(6, .pointer (some ⟨Wg,0,none⟩)),(5, .pointer (some ⟨p5,0,none⟩)),(4, .pointer (some ⟨p4,0,none⟩))] ⟨ro,own⟩):
  ∀r,r≤b.gs.length→X (Tr (WgLive 352 Wg) prog true (Sp prog 352 Wg Ch (AnchA Wg Ch) (okS b mask) At b.gs.length r)) (bf 147 .normal) cs 35 (.code lb1:: .inLoop lb1:: .inBlock 0::kr) []
   [(16, .int .i64 (b.gs.length:Int)),(17, .int .i64 ((b.gs.length-r:Nat):Int)),(6, .pointer (some ⟨Wg,0,none⟩)),(5, .pointer (some ⟨p5,0,none⟩)),(4, .pointer (some ⟨p4,0,none⟩)),(3, .pointer (some ⟨p3,0,none⟩)),(2, .pointer (some ⟨p2,0,none⟩))] ⟨ro,own⟩:=by
 have hng:=hb.ng
 intro r
 induction r with
 |zero=>
  intro _
  have hJ:Closed prog true (Tr (WgLive 352 Wg) prog true (Sp prog 352 Wg Ch (AnchA Wg Ch) (okS b mask) At b.gs.length 0)):=Tr.closed
  have C:Ctx prog true _ (bf 147 .normal):=⟨hJ,by decide⟩
  refine Xu W<|Ri Z b_lss<|FF 18 U (by exact congrArg Value.bool Zi)<|Rz<|Xv<|Xc U (fun h=>nomatch h) (fun _=>?_)
  refine Xe U<|X.weaken ?_ hfin
  exact⟨U,U,U,trivial⟩
 |succ r ih=>
  intro hr
  have hJ:Closed prog true (Tr (WgLive 352 Wg) prog true (AtS6 prog 352 Wg Ch (okS b mask) (b.gs.length- (r+1)) (Sp prog 352 Wg Ch (AnchA Wg Ch) (okS b mask) At b.gs.length r))):=Tr.closed
  have C:Ctx prog true _ (bf 147 .normal):=⟨hJ,by decide⟩
  show X (Tr (WgLive 352 Wg) prog true (AtS6 prog 352 Wg Ch (okS b mask) (b.gs.length- (r+1)) (Sp prog 352 Wg Ch (AnchA Wg Ch) (okS b mask) At b.gs.length r))) (bf 147 .normal) cs 35 (.code lb1:: .inLoop lb1:: .inBlock 0::kr) [] _ _
  refine Xu W<|Ri Z b_lss<|FT 18 U (by exact congrArg Value.bool Zo)<|Rz<|Xv<|Xc U (fun _=>?_) (fun h=>nomatch h)
  refine Xz<|Xv<|Xb<|Xm W W<|Al W K3 U fun p7=>Rs Z B3 Y V (.here .nil)<|Rz<|Xu W<|R.enter C U U Kr U fun hok a ha=>add_t<|R.resume (o:=_) ha hok U ?_
  have hJ:Closed prog true (Tr (WgLive 352 Wg) prog true (AtGo prog 352 Wg Ch (okS b mask) (b.gs.length- (r+1)) (Sp prog 352 Wg Ch (AnchA Wg Ch) (okS b mask) At b.gs.length r))):=Tr.closed
  have C:Ctx prog true _ (bf 147 .normal):=⟨hJ,by decide⟩
  refine Rz<|Xg W<|R.makeFunc C U U U U<|R.goW Dd U U U (c:= [_]) (.refl _) (worker_t (g:=b.gs.length- (r+1)) hv hb hls hx hm h5 O hmask) ?_
  have hJ:Closed prog true (Tr (WgLive 352 Wg) prog true (Sp prog 352 Wg Ch (AnchA Wg Ch) (okS b mask) At b.gs.length r)):=Tr.closed
  have C:Ctx prog true _ (bf 147 .normal):=⟨hJ,by decide⟩
  refine Rz<|Xi<|Xg W<|Rb Y<|Ro W<|Rz<|X.inLoop hJ<|X.weaken ?_ (ih O)
  exact⟨rfl,congrArg (fun z=>some (Value.int .i64 z)) O,rfl,rfl,rfl,rfl,rfl,trivial⟩
theorem X.phase{P:Program}{ty:TypeId}{n:Nat}{Anch:Goroutine→Mem→Prop}{ok:Nat→List Value→RO→Prop}{b:Frame}{nn:Nat}{k:List Item}{ds:List Deferred}{σ:Slots}{s r:Nat}{tm:Bool}
  (hn:n<2147483648) (hA:∀g M,Anch g M→g.status= .running) (hAn:∀g M,Anch g M→AtW1 P ty Wg Ch Anch g M) (hAt:∀rs g M,At rs g M→g.status= .running) (hR:∀rs g M,At rs g M→Recv P ty Wg Ch n ok (JM P Q) At rs g M) (hok:∀i s ro ro',ro.le ro'→ok i s ro→ok i s ro')
  (h:X (Tr (WgLive ty Wg) P true (Sp P ty Wg Ch Anch ok At n n)) b cs nn k ds σ ⟨ro,own⟩):X (JM P Q) b cs nn k ds σ ⟨ro,(Wg, .cells #[.int .u64 0, .int .u32 0] ty (0,0))::(Ch, .chan 0 #[] false s r tm)::own⟩:=fun a ha=>JM.phase hn hA hAn hAt hR hok (h a ha)
theorem sure_c{vl:Value}{m:Nat}(hv:BkP ro b vp vg vc vt)(hb:b.good)(hls:LsT ro vl (cases b))(hmask:mask<2^63):
  CallR prog (JM prog Q) (fnv 147) [.agg [.int .i64 b.w,vp,vg,vc,vt, .map (some m),vl].toArray, .int .i64 (mask:Int)] ro fun w _=>w= .agg (sC (sureM b mask)).toArray:=by
 have hJ:Closed prog true (JM prog Q):=JM.closed
 have hng:=hb.ng
 have hv':=hv
 obtain⟨_,_,rfl⟩:=hv.1.form
 obtain⟨_,_,rfl⟩:=hv.2.1.form
 obtain⟨_,_,rfl⟩:=hv.2.2.1.form
 obtain⟨_,_,rfl⟩:=hv.2.2.2.form
 obtain⟨lb,lc,rfl⟩:=hls.form
 let main:=true
 let J:=JM prog Q
 refine ER 35 hJ func147 W fun c cs tail hret C=>Xu W<|Bx Z fun p2=>Bx Z fun p3=>Al W K270 U fun p4=>Rz<|Xu W<|R.makeChan C U U U runUnderlying342 (show prog.info? 354=some Tryz.t354 by kernel_rfl) fun p10=>Al W zeroValue342 U fun p5=>Rs Z sizeOf342 Y V (.here .nil)<|Rz<|Xu W<|Al W zeroValue352 U fun p6=>Rz<|Xv<|Xv<|X.perm hJ (by exact pm1)<|X.persist hJ fun ro1 hl1 h5=>X.perm hJ (by exact pm3)<|X.persist hJ fun ro2 hl2 h3=>X.perm hJ (by exact pm3)<|X.persist hJ fun ro3 hl3 h2=>?_
 have hl23:=RO.le_trans hl2 hl3
 have hle:=RO.le_trans hl1 hl23
 have h5:=hl23 _ _ h5
 have h3:=hl3 _ _ h3
 have hv3:=hv'.mono hle
 have hls3:=hls.mono hle
 refine Xg W<|Rv 0 W A228 U B225<|Rv 0 W A225 U B222<|Rv 0 W A222 U B27<|Rv 2 W A27 U B23<|Lo Y G23 h2 U<|Rt W A23<|Ro W<|Rz<|Xb<|X.phase (n:=b.gs.length) (At:=AtR p10 p4 ro3 (c::cs) tail) O anchA_run anchA_w1 atR_run (recv_c (b:=b) (mask:=mask) (ro0:=ro3) fun v' ro' own' hl hL hs=>hret _ _ _ (RO.le_trans hle hl) hs hL) okS.mono<|X.loop (main:=true) Tr.closed<|X.weaken ?_ (spawn_t (p4:=p4) hv3 hb hls3 h2 h3 h5 hmask ?_ b.gs.length (Nat.le_refl _))
 ·exact⟨rfl,congrArg (fun z=>some (Value.int .i64 z)) O,rfl,rfl,rfl,rfl,rfl,trivial⟩
 have hJ:Closed prog true (Tr (WgLive 352 p6) prog true (AtGoC prog 352 p6 (AnchA p6 p10) (AtR p10 p4 ro3 (c::cs) tail))):=Tr.closed
 have C:Ctx prog true _ (bf 147 .normal):=⟨hJ,by decide⟩
 refine Xu W<|R.makeFunc C U U U U<|R.goC Dd U U U (c:= []) (.refl _) (closer_t h5) ?_
 have hJ:Closed prog true (Tr (WgLive 352 p6) prog true (AtR p10 p4 ro3 (c::cs) tail [])):=Tr.closed
 have C:Ctx prog true _ (bf 147 .normal):=⟨hJ,by decide⟩
 refine Rz<|Xu W<|Al W K270 U fun p8=>Rz<|Xx W<|Lo Y isAgg342 h5 U<|Rz<|Xb<|X.loop (main:=true) Tr.closed<|X.weaken ?_ (to_recv (s:=fun _ _=>false) (s0:=fun _ _=>false) (RO.le_refl _) (fun j k=>by simp))
 exact⟨U,U,U,trivial⟩
end Go.Lg.B
set_option maxRecDepth 100000
namespace Go.Lg.B
open Go Go.Conc Go.Lg Go.Proofs Go.Proofs.Tryz
variable {ro:RO}{o:Option (List Int)}{c:List Value}{gears j n:Nat}{p:Nat→Bool}{b:Bk}{vc vg vl vp vt:Value}
def BestB(ro:RO)(o:Option (List Int))(c:List Value):Prop:=
 match o with
 |none=>c= [.slice none 0 0, .bool false]
 |some y=>∃v,LsI ro v y∧y.length≤1000∧c= [v, .bool true]
theorem BestB.mono{ro':RO}(h:BestB ro o c)(hl:ro.le ro'):BestB ro' o c:=by
 cases o with
 |none=>exact h
 |some y=>obtain⟨v,h1,h2,h3⟩:=h;exact⟨v,h1.mono hl,h2,h3⟩
theorem bitsFrom_snoc(mask:Nat):∀ (k s:Nat),bitsFrom mask s (k+1)=bitsFrom mask s k++(if mask.testBit (s+k) then [((s+k:Nat):Int)] else [])
 |0,s=>by simp only [bitsFrom,Nat.add_zero,List.nil_append]
 |k+1,s=>by
  have ih:=bitsFrom_snoc mask k (s+1)
  rw [bitsFrom,ih,bitsFrom]
  rw [show s+1+k=s+(k+1) by omega]
  split<;>simp
theorem listOf_len(mask:Nat):∀k s:Nat,(bitsFrom mask s k).length≤k
 |0,_=>by simp [bitsFrom]
 |k+1,s=>by
  have:=listOf_len mask k (s+1)
  simp only [bitsFrom];split<;>simp<;>omega
def bestTo(many:Nat)(is:Nat→Bool)(m:Nat):Option (List Int):=(((List.range m).filter is).map (listOf many)).foldl offer none
theorem bestTo_succ(many:Nat)(is:Nat→Bool)(m:Nat):bestTo many is (m+1)=if is m then offer (bestTo many is m) (listOf many m) else bestTo many is m:=by
 unfold bestTo
 rw [List.range_succ,List.filter_append,List.map_append,List.foldl_append]
 by_cases h:is m=true
 ·simp [h]
 ·simp [h]
theorem sC_at{s:Nat→Nat→Bool}{g p:Nat}(hg:g<3)(hp:p<3):(sC s)[0+((g:Int)).toNat*3+((p:Int)).toNat*1]? =some (.bool (s g p)):=by
 have h1:g=0∨g=1∨g=2:=O
 have h2:p=0∨p=1∨p=2:=O
 rcases h1 with rfl|rfl|rfl<;>rcases h2 with rfl|rfl|rfl<;>rfl
theorem all_range(h:∀j,j<n→p j=true):(List.range n).all p=true:=by
 rw [List.all_eq_true];intro x hx;exact h x (List.mem_range.1 hx)
theorem all_range_not(hj:j<n)(h:p j=false):(List.range n).all p=false:=by
 rw [List.all_eq_false];exact⟨j,List.mem_range.2 hj,by simp [h]⟩
theorem any_range(hj:j<n)(h:p j=true):(List.range n).any p=true:=by
 rw [List.any_eq_true];exact⟨j,List.mem_range.2 hj,h⟩
theorem any_range_not(h:∀j,j<n→p j=false):(List.range n).any p=false:=by
 rw [List.any_eq_false];intro x hx;simp [h x (List.mem_range.1 hx)]
def fewestR(b:Bk):Option (List Int)×Int:=if openH b 0≠0 then(none,openH b 0) else(fewestOf b.gs.length (lifted b (sureM b 0)),0)
def renewR(b:Bk):Option (List Int)×Int:=if openH b 0≠0 then(none,openH b 0) else(fewestOf b.ps.length (fun mask=>lifted b (sureM b mask) (2^b.gs.length-1)),0)
theorem firstH_nil:firstH []=0:=rfl
variable {main:Bool}{J:Goroutine→Mem→Prop}(hJ:Closed prog main J)
include hJ
theorem offer_c{x:List Int}{v:Value}{pb:Nat}(hb:BestB ro o c)(hv:LsI ro v x)(hx:x.length≤1000):
  CallV prog J (fnv 222) [.pointer (some ⟨pb,0,none⟩),v,fnv 223] ro [(pb, .cells c.toArray 356 (0,0))] (fun w ro' pre'=>w= .tuple #[]∧ro'=ro∧∃c',pre'= [(pb, .cells c'.toArray 356 (0,0))]∧BestB ro (offer o x) c'):=by
 obtain⟨xb,xc,rfl⟩:=hv.form
 cases o with
 |none=>
  simp only [BestB] at hb
  subst hb
  refine CallV.intro (first:= []) (vs:= [_,_,_]) (cap:= []) hJ Kr fun c cs tail hret=>enter_X (n:=27) func222 U U (Nl U) ?_
  have C:Ctx prog main J (bf 222 .normal):=⟨hJ,by decide⟩
  refine Xm W W<|R.nilCheck C U U U<|Rv 1 W A356 U B4<|Rj W G4 V U<|Rh Y<|Ro W<|FT 11 U (by rfl)<|Rp W<|Rp W<|Rp W<|Rp W<|Rp W<|Rp W<|Rp W<|Pp Z<|Zc U (fun _=>?_) (fun h=>nomatch h)
  refine Xg W<|Oo W W<|Ro W<|R.nilCheck C U U U<|Rv 0 W A356 U B58<|Rs Z B58 Y V (.here .nil)<|R.nilCheck C U U U<|Rv 1 W A356 U B4<|Rs Z B4 Y V (.skip (.here .nil))<|Rz<|X.fall C U U func222 U (by exact .nil) ?_
  exact hret _ _ [_] _ (RO.le_refl _) ⟨rfl,rfl,_,rfl,_,hv,hx,rfl⟩ Vs
 |some y=>
  obtain⟨vy,hy,hyl,rfl⟩:=hb
  obtain⟨yb,yc,rfl⟩:=hy.form
  have hsm:=smaller_c hJ hv hy O O
  refine CallV.intro (first:= []) (vs:= [_,_,_]) (cap:= []) hJ Kr fun c cs tail hret=>enter_X (n:=27) func222 U U (Nl U) ?_
  have C:Ctx prog main J (bf 222 .normal):=⟨hJ,by decide⟩
  refine Xm W W<|R.nilCheck C U U U<|Rv 1 W A356 U B4<|Rj W G4 V U<|Rh Y<|Ro W<|FF 11 U (by rfl)<|Oo W W<|Ro W<|R.nilCheck C U U U<|Rv 0 W A356 U B58<|Rj W G58 V U<|Cp Z (hsm)<|Pf Z<|Zc U (fun h1=>?_) (fun h1=>?_)
  ·refine Xg W<|Oo W W<|Ro W<|R.nilCheck C U U U<|Rv 0 W A356 U B58<|Rs Z B58 Y V (.here .nil)<|R.nilCheck C U U U<|Rv 1 W A356 U B4<|Rs Z B4 Y V (.skip (.here .nil))<|Rz<|X.fall C U U func222 U (by exact .nil)<|hret _ _ [_] _ (RO.le_refl _) ⟨rfl,rfl,_,rfl, ?_⟩ Vs
   simp only [offer,h1,if_true]
   exact⟨_,hv,hx,rfl⟩
  ·refine Xz<|X.fall C U U func222 U (by exact .nil)<|hret _ _ [_] _ (RO.le_refl _) ⟨rfl,rfl,_,rfl, ?_⟩ Vs
   simp only [offer,h1,Bool.false_eq_true,if_false]
   exact⟨_,hy,hyl,rfl⟩
theorem fewest_c{many:Nat}{fv:Value}{is:Nat→Bool}(hm:many≤20)(hf:∀m:Nat,m<2^many→∀ro',ro.le ro'→CallR prog J fv [.int .i64 (m:Int)] ro' fun w _=>w= .bool (is m)):
  CallR prog J (fnv 148) [.int .i64 (many:Int),fv] ro fun w ro'=>∃vl,LsI ro' vl ((fewestOf many is).getD [])∧w= .tuple [vl, .bool (fewestOf many is).isSome].toArray:=by
 have hp:2^many≤1048576:=Nat.le_trans (Nat.pow_le_pow_right O hm) Dd
 have hall:fewestOf many is=bestTo many is (2^many):=rfl
 refine ER 40 hJ func148 W fun c cs tail hret C=>Xu W<|Rg Y<|Ae W<|Xu W<|Al W zeroValue356 U fun p6=>Rz<|Xx W<|Ro W<|R.shift C U U U U (b_shlN O O)<|Ro W<|Rz<|Xb<|X.loopI (ι:=Nat×RO×List Value) C.1 (fun s=>s.1≤2^many∧ro.le s.2.1∧BestB s.2.1 (bestTo many is s.1) s.2.2)
  (fun s=> [(0, .int .i64 (many:Int)),(1,fv),(6, .pointer (some ⟨p6,0,none⟩)),(11, .int .i64 ((2^many:Nat):Int)),(12, .int .i64 (s.1:Int))])
  (fun s=>⟨s.2.1,(p6, .cells s.2.2.toArray 356 (0,0))::tail⟩) (fun s=>2^many-s.1) (0,ro,_) ⟨Nat.zero_le _,RO.le_refl _,rfl⟩ rfl ⟨U,U,U,U,U,trivial⟩ fun s hs' hnext=>?_
 obtain⟨m,ro1,c1⟩:=s
 obtain⟨hml,hle,hb⟩:=hs'
 simp only at hml hle hb hnext⊢
 have hsucc:=bestTo_succ many is m
 refine Xu W<|Ri Z b_lss<|Rz<|Xv<|Xj U (fun hlt=>?_) (fun hlt=>?_)
 ·have hm':m<2^many:=O
  have hcall:=hf m hm' ro1 hle
  generalize is m=im at hcall hsucc
  refine Xz<|Xv<|Xb<|Xm W W<|Ae W<|Xx W<|Oo W W<|R.callR C U U U U (hcall) fun w2 ro2 hl2 hw2=>?_
  subst hw2
  refine Rh Y<|Zc U (fun h1=>?_) (fun h1=>?_)
  ·have h1:im=false:=by simpa using h1
   rw [if_neg (by simp [h1])] at hsucc
   refine Xe U<|Xg W<|Rb Y<|Ro W<|Rz<|X.weaken ?_ (hnext (m+1,ro2,c1) ⟨hm',RO.le_trans hle hl2,by rw [hsucc];exact hb.mono hl2⟩ (by simp only;omega))
   exact⟨rfl,rfl,rfl,rfl,by simp [look],trivial⟩
  ·have h1:im=true:=by simpa using h1
   rw [if_pos h1] at hsucc
   refine Xz<|Xo W W<|Xx W<|Oo W W<|Rz<|Xb<|X.loopI (ι:=Nat×Value×List (Nat×Obj)) C.1 (fun s=>s.1≤many∧Buf 3 1 [] s.2.1 ((bitsFrom m 0 s.1).flatMap ic) s.2.2)
    (fun s=> [(0, .int .i64 (many:Int)),(1,fv),(6, .pointer (some ⟨p6,0,none⟩)),(7, .int .i64 (m:Int)),(8,s.2.1),(11, .int .i64 ((2^many:Nat):Int)),(12, .int .i64 (m:Int)),(19, .int .i64 (many:Int)),(20, .int .i64 (s.1:Int))])
    (fun s=>⟨ro2,s.2.2++(p6, .cells c1.toArray 356 (0,0))::tail⟩) (fun s=>many-s.1) (0, .slice none 0 0, []) ⟨Nat.zero_le _, .nil⟩ rfl ⟨U,U,U,U,U,U,U,U,U,trivial⟩ fun s hs' hnext2=>?_
   obtain⟨i,v0,own0⟩:=s
   obtain⟨hi,hbuf⟩:=hs'
   simp only at hi hbuf hnext2⊢
   have hsn:=bitsFrom_snoc m i 0
   rw [Nat.zero_add] at hsn
   have hln:=listOf_len m i 0
   have hfl:=flat_len (bitsFrom m 0 i)
   refine Xu W<|Ri Z b_lss<|Rz<|Xv<|Xj U (fun hlt2=>?_) (fun hlt2=>?_)
   ·have hi':i<many:=O
    refine Xz<|Xv<|Xb<|Xm W W<|Ae W<|Xm W W<|Ro W<|R.shift C U U U U (b_shrN O O)<|Ri Z (b_and1 (Nat.lt_of_le_of_lt (Nat.shiftRight_le _ _) O))<|Ri Z b_eql<|Zc U (fun hbit=>?_) (fun hbit=>?_)
    ·rw [Int.toNat_natCast,bit_one] at hbit
     rw [if_pos hbit] at hsn
     refine Xg W<|Oo W W<|R.buildSlice C (vs:=_) U U (show pvals _ _=some (numbered 0 [_]) from rfl) U A58 B3 K3 Dd (Cat.one U U) fun p30=>R.append1 (kk:=1) C U U U U A58 A58 (fun _=>nofun) (show prog.info? 3=some Tryz.t3 by kernel_rfl) U U U Dd Dd (hbuf.app _) U U (by simp only [List.length_append,List.length_cons,List.length_nil];omega) fun v' own' hb'=>Ae W<|Xi<|Xg W<|Rb Y<|Ro W<|Rz ?_
     obtain⟨own1,rfl,hb1⟩:=hb'.unapp (tail:= [])
     refine X.weaken ?_ (hnext2 (i+1,v',own1) ⟨hi', ?_⟩ (by simp only;omega))
     ·exact⟨rfl,rfl,rfl,rfl,rfl,rfl,rfl,rfl,by simp [look],trivial⟩
     ·rw [hsn,List.flatMap_append];exact hb1
    ·rw [Int.toNat_natCast,bit_one] at hbit
     rw [if_neg (by simp [hbit]),List.append_nil] at hsn
     refine Xz<|Xi<|Xg W<|Rb Y<|Ro W<|Rz<|X.weaken ?_ (hnext2 (i+1,v0,own0) ⟨hi',by rw [hsn];exact hbuf⟩ (by simp only;omega))
     exact⟨rfl,rfl,rfl,rfl,rfl,rfl,rfl,rfl,by simp [look],trivial⟩
   ·obtain rfl:i=many:=by omega
    refine Xe U<|(BufX.of hbuf).fin C.1 fun ro3 hl3 hls=>?_
    have hof:=offer_c hJ (pb:=p6) (hb.mono (RO.le_trans hl2 hl3)) hls O
    refine Xg W<|Ro W<|R.call C U U U U (pre:= [_]) (tail:=tail) U hof fun w4 ro4 pre4 hl4 hp4=>?_
    obtain⟨rfl,rfl,c4,rfl,hb4⟩:=hp4
    refine Rz<|Xi<|Xg W<|Rb Y<|Ro W<|Rz<|X.weaken ?_ (hnext (m+1,ro4,c4) ⟨hm',RO.le_trans hle (RO.le_trans hl2 hl3),by rw [hsucc];exact hb4⟩ (by simp only;omega))
    exact⟨rfl,rfl,rfl,rfl,by simp [look],trivial⟩
 ·obtain rfl:m=2^many:=by omega
  rw [←hall] at hb
  generalize fewestOf many is=r at hb hret
  rcases r with _|y
  ·
   simp only [BestB] at hb
   subst hb
   refine Xe U<|Xv<|Xf fun hok=>Dh 0 0 Y A356 U B58<|Db 1 W G58 V U<|Dh 1 2 Y A356 U B4<|Db 3 W G4 V U<|Da C 4 hok U U<|Da C 5 hok U U<|Dn<|X.ret C U U func148 U (by exact(.tmp U (.tmp U .nil)))<|Hr hret hle ?_
   exact⟨_, .nil,rfl⟩
  ·
   obtain⟨vy,hy,hyl,rfl⟩:=hb
   obtain⟨yb,yc,rfl⟩:=hy.form
   refine Xe U<|Xv<|Xf fun hok=>Dh 0 0 Y A356 U B58<|Db 1 W G58 V U<|Dh 1 2 Y A356 U B4<|Db 3 W G4 V U<|Da C 4 hok U U<|Da C 5 hok U U<|Dn<|X.ret C U U func148 U (by exact(.tmp U (.tmp U .nil)))<|Hr hret hle ?_
   exact⟨_,hy,rfl⟩
theorem lifted_c{mx:Value}(hv:BkP ro b vp vg vc vt)(hb:b.good)(hls:LsT ro vl (cases b))(hmx:∃m,mx= .map m)(s:Nat→Nat→Bool)(hgs:gears<2^63):
  CallP prog J (fnv 150) [.agg [.int .i64 b.w,vp,vg,vc,vt,mx,vl].toArray, .agg (sC s).toArray, .int .i64 (gears:Int)] ro (.bool (lifted b s gears)):=by
 have hng:=hb.ng
 have hnc:=hb.nc
 obtain⟨_,_,rfl⟩:=hv.1.form
 obtain⟨_,_,rfl⟩:=hv.2.1.form
 obtain⟨_,_,rfl⟩:=hv.2.2.1.form
 obtain⟨_,_,rfl⟩:=hv.2.2.2.form
 obtain⟨lb,lc,rfl⟩:=hls.form
 obtain⟨mm,rfl⟩:=hmx
 have hdef:lifted b s gears=(List.range b.cs.length).all fun p=>(List.range b.gs.length).any fun g=>gears.testBit g && s g p:=rfl
 refine EP 41 hJ func150 W fun c cs tail hret C=>Xu W<|Bx Z fun p3=>Bx Z fun p4=>Ae W<|X.scope C.1<|Xv<|X.label C.1<|Xx W<|Rv 0 W A228 U B225<|Rv 0 W A225 U B222<|Rv 0 W A222 U B27<|Rv 3 W A27 U B24<|Rj W G24 V U<|Rt W A24<|Ro W<|Rz<|Xb<|X.loopI (ι:=Nat) C.1 (fun p=>p≤b.cs.length∧∀q,q<p→((List.range b.gs.length).any fun g=>gears.testBit g && s g q)=true)
  (fun p=> [(2, .int .i64 (gears:Int)),(3, .pointer (some ⟨p3,0,none⟩)),(4, .pointer (some ⟨p4,0,none⟩)),(14, .int .i64 (b.cs.length:Int)),(15, .int .i64 (p:Int))])
  (fun _=>⟨ro,_⟩) (fun p=>b.cs.length-p) 0 ⟨Nat.zero_le _,fun _ h=>absurd h (Nat.not_lt_zero _)⟩ rfl ⟨U,U,U,U,U,trivial⟩ fun p hp' hnext=>?_
 obtain⟨hp,hall⟩:=hp'
 refine Xu W<|Ri Z b_lss<|Rz<|Xv<|Xj U (fun hlt=>?_) (fun hlt=>?_)
 ·have hp':p<b.cs.length:=O
  refine Xz<|Xv<|Xb<|Xm W W<|Ae W<|Xx W<|Rv 0 W A228 U B225<|Rv 0 W A225 U B222<|Rv 0 W A222 U B27<|Rv 2 W A27 U B23<|Rj W G23 V U<|Rt W A23<|Ro W<|Rz<|Xb<|X.loopI (ι:=Nat) C.1 (fun g=>g≤b.gs.length∧∀h,h<g→(gears.testBit h && s h p)=false)
   (fun g=> [(2, .int .i64 (gears:Int)),(3, .pointer (some ⟨p3,0,none⟩)),(4, .pointer (some ⟨p4,0,none⟩)),(7, .int .i64 (p:Int)),(14, .int .i64 (b.cs.length:Int)),(15, .int .i64 (p:Int)),(23, .int .i64 (b.gs.length:Int)),(24, .int .i64 (g:Int))])
   (fun _=>⟨ro,_⟩) (fun g=>b.gs.length-g) 0 ⟨Nat.zero_le _,fun _ h=>absurd h (Nat.not_lt_zero _)⟩ rfl ⟨U,U,U,U,U,U,U,U,trivial⟩ fun g hg' hnext2=>?_
  obtain⟨hg,hnone⟩:=hg'
  refine Xu W<|Ri Z b_lss<|Rz<|Xv<|Xj U (fun hlt2=>?_) (fun hlt2=>?_)
  ·have hg':g<b.gs.length:=O
   have hat:=sC_at (s:=s) (g:=g) (p:=p) O O
   have hyes:(gears.testBit g && s g p)=true→X J (bf 150 .normal) (c::cs) 41 _ _ _ _:=fun h=>hnext (p+1) ⟨hp',fun q hq=>by
    by_cases e:q=p
    ·subst e;exact any_range hg' h
    ·exact hall q O⟩ O
   have hno:(gears.testBit g && s g p)=false→∀h,h<g+1→(gears.testBit h && s h p)=false:=fun hf h hh=>by
    by_cases e:h=g
    ·subst e;exact hf
    ·exact hnone h O
   refine Xz<|Xv<|Xb<|Xm W W<|Ae W<|Xm W W<|Ro W<|R.shift C U U U U (b_shrN O O)<|Ri Z (b_and1 (Nat.lt_of_le_of_lt (Nat.shiftRight_le _ _) hgs))<|Ri Z b_eql<|Ro W<|R.fix (t:=32) U (fun hbit=>?_) (fun hbit=>?_)
   ·rw [Int.toNat_natCast,bit_one] at hbit
    rw [hbit,Bool.true_and] at hyes hno
    refine Oo W W<|R.indexAddrA C U U U U A270 sizeOf268 O O<|R.indexAddrA C U U U U A268 B4 O O<|R.loadOne C U U U G4 V hat<|Pp Z<|Zc U (fun hs1=>?_) (fun hs1=>?_)
    ·refine Xe U<|Xg W<|Rb Y<|Ro W<|Rz<|X.weaken ?_ (hyes hs1)
     exact⟨rfl,rfl,rfl,rfl,by simp [look],trivial⟩
    ·refine Xz<|Xi<|Xg W<|Rb Y<|Ro W<|Rz<|X.weaken ?_ (hnext2 (g+1) ⟨hg',hno hs1⟩ O)
     exact⟨rfl,rfl,rfl,rfl,rfl,rfl,rfl,by simp [look],trivial⟩
   ·rw [Int.toNat_natCast,bit_one] at hbit
    rw [hbit,Bool.false_and] at hno
    refine Rp W<|Rp W<|Rp W<|Rp W<|Rp W<|Pf Z<|Zc U (fun h=>nomatch h) (fun _=>?_)
    refine Xz<|Xi<|Xg W<|Rb Y<|Ro W<|Rz<|X.weaken ?_ (hnext2 (g+1) ⟨hg',hno rfl⟩ O)
    exact⟨rfl,rfl,rfl,rfl,rfl,rfl,rfl,by simp [look],trivial⟩
  ·obtain rfl:g=b.gs.length:=by omega
   have hf:lifted b s gears=false:=by rw [hdef];exact all_range_not hp' (any_range_not hnone)
   refine Xe U<|Xu W<|Hq W func150 hret ?_
   rw [hf];rfl
 ·obtain rfl:p=b.cs.length:=by omega
  have hf:lifted b s gears=true:=by rw [hdef];exact all_range hall
  refine Xe U<|Xu W<|Hq W func150 hret ?_
  rw [hf];rfl
theorem fewest1_c{m:Nat}(hv:BkP ro b vp vg vc vt)(hb:b.good)(hls:LsT ro vl (cases b))(s:Nat→Nat→Bool){p5 p6:Nat}{t5 t6:TypeId}{f5 f6:Nat×Nat}(h5:ro p5=some (.cells [.int .i64 b.w,vp,vg,vc,vt, .map (some m),vl].toArray t5 f5))(h6:ro p6=some (.cells (sC s).toArray t6 f6))(hgs:gears<2^63):
  CallP prog J (.func (.func 149) #[] [.pointer (some ⟨p5,0,none⟩), .pointer (some ⟨p6,0,none⟩)].toArray) [.int .i64 (gears:Int)] ro (.bool (lifted b s gears)):=by
 have hl:=lifted_c hJ (mx:= .map (some m)) hv hb hls ⟨_,rfl⟩ s hgs
 refine CallP.introC hJ Kr fun c cs tail hret=>enter_X (n:=9) func149 U U (Nl U) ?_
 have C:Ctx prog main J (bf 149 .normal):=⟨hJ,by decide⟩
 refine Xo W W<|Xu W<|La Y G228 B228 h5 (.take Tk6)<|La Y isAgg270 B270 h6 (sub_all U)<|Ro W<|Cp Z (hl)<|Hq W func149 hret ?_
 rfl
end Go.Lg.B
set_option maxRecDepth 100000
namespace Go.Lg.B
open Go Go.Conc Go.Lg Go.Proofs Go.Proofs.Tryz
variable {Q:Machine→Outcome→World→Trace→Prop}{b:Bk}{ro:RO}{v:Value}
theorem two_pow_le{n k:Nat}(h:n≤k):2^n≤2^k:=Nat.pow_le_pow_right Dd h
theorem renew1_c{vp vg vc vt vl:Value}{m:Nat}(hv:BkP ro b vp vg vc vt)(hb:b.good)(hls:LsT ro vl (cases b)){p5 p6:Nat}{t5 t6:TypeId}{f5 f6:Nat×Nat}
  (h5:ro p5=some (.cells [.int .i64 b.w,vp,vg,vc,vt, .map (some m),vl].toArray t5 f5)) (h6:ro p6=some (.cells [.int .i64 ((2^b.gs.length-1:Nat):Int)].toArray t6 f6)) {mask:Nat} (hmask:mask<2^63):
  CallR prog (JM prog Q) (.func (.func 153) #[] [.pointer (some ⟨p5,0,none⟩), .pointer (some ⟨p6,0,none⟩)].toArray) [.int .i64 (mask:Int)] ro fun w _=>w= .bool (lifted b (sureM b mask) (2^b.gs.length-1)):=by
 have hJ:Closed prog true (JM prog Q):=JM.closed
 have hng:=hb.ng
 have h8:2^b.gs.length≤2^3:=two_pow_le hng.2
 let main:=true
 let J:=JM prog Q
 refine CallR.introC hJ Kr fun c cs tail hret=>enter_X (n:=11) func153 U U (Nl U) ?_
 have C:Ctx prog main J (bf 153 .normal):=⟨hJ,by decide⟩
 refine Xo W W<|Xv<|Xf fun hok=>Dl 0 hok (fun _ _ A h=>R.loadAggRo C U (A.w U U) (A.x U U) G228 B228 (by first|exact h5|exact hl1 _ _ h5) (.take Tk6) h)<|Dl 1 hok (fun _ _ A h=>R.loadAggRo C U (A.w U U) (A.x U U) G228 B228 h5 (.take Tk6) h)<|Dt 2 Y<|Dc 4 W G3 (by first|exact h6|exact hl1 _ _ h6) U<|De 3 (some 8) [true,false,true] hok (fun _ _ A hk=>?_)
 refine R.callR C U (A.w U U) (A.x U U) (A.s U U) (sure_c hv hb hls hmask) fun w1 ro1 hl1 hw1=>hk _ _ ⟨(QFs.cons (QF.of U (fun _ _ A h=>R.loadOneRo C U (A.w U U) (A.x U U) G3 (by first|exact h6|exact hl1 _ _ h6) U h)) (QFs.cons (QF.of U (fun _ _ A h=>R.loadAggRo C U (A.w U U) (A.x U U) G228 B228 (by first|exact h5|exact hl1 _ _ h5) (.take Tk6) h)) QFs.nil)), ?_⟩
 refine De 5 (some 10) [false,false] hok (fun _ _ A hk=>?_)
 subst hw1
 refine R.callP C U (A.w U U) (A.x U U) (A.s U U) (lifted_c hJ (hv.mono hl1) hb (hls.mono hl1) ⟨_,rfl⟩ _ O) (hk _ _ ⟨QFs.nil, ?_⟩)
 refine Da C 6 hok U U<|Dn<|Xw func153<|Hr hret hl1 ?_
 rfl
theorem fewestG_c(he:Env ro)(hv:BkV ro v b)(hs:b.short):CallR prog (JM prog Q) (fnv 54) [v] ro (fun w ro'=>∃vl,LsI ro' vl ((fewestR b).1.getD [])∧w= .tuple [vl, .bool (fewestR b).1.isSome, .int .i64 (fewestR b).2].toArray):=by
 have hJ:Closed prog true (JM prog Q):=JM.closed
 obtain⟨vp,vg,vc,vt,rfl,hv⟩:=hv
 have hv':=hv
 obtain⟨_,_,rfl⟩:=hv.1.form
 obtain⟨_,_,rfl⟩:=hv.2.1.form
 obtain⟨_,_,rfl⟩:=hv.2.2.1.form
 obtain⟨_,_,rfl⟩:=hv.2.2.2.form
 let main:=true
 let J:=JM prog Q
 have hop:=open_c hJ he hv' hs (zs:= []) .nil (Nat.zero_le _) (fun z hz=>absurd hz List.not_mem_nil)
 rw [List.map_nil,firstH_nil] at hop
 refine ER 27 hJ func54 W fun c cs tail hret C=>Xu W<|Bx Z fun p1=>Rg Y<|Rg Y<|Ae W<|Xu W<|Rq W G27 B27 V Tk5<|R.call C U U U U (pre:= []) U hop fun w3 ro3 pre3 hl3 hp3=>?_
 rcases hp3 with⟨h0,rfl,rfl⟩|⟨h0,m,kv,vl,rfl,hm,hls,rfl⟩
 ·
  have e:fewestR b=(none,openH b 0):=by rw [fewestR,if_pos h0]
  refine Ro W<|Re Z<|Re Z<|Al W K228 U fun p5=>Rs Z B228 Y V Ph7<|Ae W<|Xx W<|Ro W<|Ri Z b_neq<|Zc U (fun hq=>?_) (fun hq=>?_)
  ·refine Xm W W<|Rg Y<|Rg Y<|Ae W<|X.ret C U U func54 U (by exact(.tmp U (.tmp U (.tmp U .nil))))<|Hr hret hl3 ?_
   rw [e];exact⟨_, .nil,rfl⟩
  ·simp at hq;contradiction
 ·
  have e:fewestR b=(fewestOf b.gs.length (lifted b (sureM b 0)),0):=by rw [fewestR,if_neg (by simp [h0])]
  obtain⟨hb,_,hne,_⟩:=openH_good h0
  have hng:=hb.ng
  have h8:2^b.gs.length≤2^3:=two_pow_le hng.2
  have hv3:=hv'.mono hl3
  obtain⟨lb,lc,rfl⟩:=hls.form
  refine Ro W<|Re Z<|Re Z<|Al W K228 U fun p5=>Rs Z B228 Y V Ph7<|Ae W<|Xx W<|Ro W<|Ri Z b_neq<|Zc U (fun hq=>?_) (fun hq=>?_)
  ·simp at hq
  ·refine Xz<|Xu W<|Rq W G228 B228 V (.take Tk6)<|R.callR C U U U U (sure_c (mask:=0) hv3 hb hls O) fun w4 ro4 hl4 hw4=>?_
   subst hw4
   refine Al W K270 U fun p6=>Rs Z B270 Y V (.here (.here Ph7))<|Rz<|Xu W<|Rv 2 W A27 U B23<|Rj W G23 V U<|Rt W A23<|R.makeFunc C U U U U<|R.persist C.1 fun ro5 hl5 h6=>R.persist C.1 fun ro6 hl6 h5=>?_
   have hl46:=RO.le_trans hl4 (RO.le_trans hl5 hl6)
   have hfc:=fewest_c hJ (many:=b.gs.length) (is:=lifted b (sureM b 0)) (ro:=ro6) (fv:= .func (.func 149) #[] [.pointer (some ⟨p5,0,none⟩), .pointer (some ⟨p6,0,none⟩)].toArray) O (fun k hk ro' hl'=>by
    have h:=fewest1_c hJ (hv3.mono (RO.le_trans hl46 hl')) hb (hls.mono (RO.le_trans hl46 hl')) (sureM b 0) (hl' _ _ h5) (hl' _ _ (hl6 _ _ h6)) (gears:=k) O
    refine CallV.mono h ?_
    rintro w ro2 pre2 _ ⟨rfl,rfl,rfl⟩
    exact⟨rfl,rfl⟩)
   refine R.callR C U U U U (hfc) fun w7 ro7 hl7 hw7=>?_
   obtain⟨vr,hvr,rfl⟩:=hw7
   obtain⟨_,_,rfl⟩:=hvr.form
   refine Ro W<|Re Z<|Re Z<|Rg Y<|Ae W<|Xm W W<|Ro W<|Rg Y<|Rg Y<|Ae W<|X.ret C U U func54 U (by exact(.tmp U (.tmp U (.tmp U .nil))))<|Hr hret (RO.le_trans hl3 (RO.le_trans hl46 hl7)) ?_
   rw [e];exact⟨_,hvr,rfl⟩
theorem renew_c(he:Env ro)(hv:BkV ro v b)(hs:b.short):CallR prog (JM prog Q) (fnv 56) [v] ro (fun w ro'=>∃vl,LsI ro' vl ((renewR b).1.getD [])∧w= .tuple [vl, .bool (renewR b).1.isSome, .int .i64 (renewR b).2].toArray):=by
 have hJ:Closed prog true (JM prog Q):=JM.closed
 obtain⟨vp,vg,vc,vt,rfl,hv⟩:=hv
 have hv':=hv
 obtain⟨_,_,rfl⟩:=hv.1.form
 obtain⟨_,_,rfl⟩:=hv.2.1.form
 obtain⟨_,_,rfl⟩:=hv.2.2.1.form
 obtain⟨_,_,rfl⟩:=hv.2.2.2.form
 let main:=true
 let J:=JM prog Q
 have hop:=open_c hJ he hv' hs (zs:= []) .nil (Nat.zero_le _) (fun z hz=>absurd hz List.not_mem_nil)
 rw [List.map_nil,firstH_nil] at hop
 refine ER 30 hJ func56 W fun c cs tail hret C=>Xu W<|Bx Z fun p1=>Rg Y<|Rg Y<|Ae W<|Xu W<|Rq W G27 B27 V Tk5<|R.call C U U U U (pre:= []) U hop fun w3 ro3 pre3 hl3 hp3=>?_
 rcases hp3 with⟨h0,rfl,rfl⟩|⟨h0,m,kv,vl,rfl,hm,hls,rfl⟩
 ·
  have e:renewR b=(none,openH b 0):=by rw [renewR,if_pos h0]
  refine Ro W<|Re Z<|Re Z<|Al W K228 U fun p5=>Rs Z B228 Y V Ph7<|Ae W<|Xx W<|Ro W<|Ri Z b_neq<|Zc U (fun hq=>?_) (fun hq=>?_)
  ·refine Xm W W<|Rg Y<|Rg Y<|Ae W<|X.ret C U U func56 U (by exact(.tmp U (.tmp U (.tmp U .nil))))<|Hr hret hl3 ?_
   rw [e];exact⟨_, .nil,rfl⟩
  ·simp at hq;contradiction
 ·
  have e:renewR b=(fewestOf b.ps.length (fun mask=>lifted b (sureM b mask) (2^b.gs.length-1)),0):=by rw [renewR,if_neg (by simp [h0])]
  obtain⟨hb,_,hne,_⟩:=openH_good h0
  have hng:=hb.ng
  have hnp:=hb.np
  have h8:2^b.gs.length≤2^3:=two_pow_le hng.2
  have h1:0<2^b.gs.length:=Nat.two_pow_pos _
  have h16:2^b.ps.length≤2^4:=two_pow_le hnp.2
  have hv3:=hv'.mono hl3
  obtain⟨lb,lc,rfl⟩:=hls.form
  refine Ro W<|Re Z<|Re Z<|Al W K228 U fun p5=>Rs Z B228 Y V Ph7<|Ae W<|Xx W<|Ro W<|Ri Z b_neq<|Zc U (fun hq=>?_) (fun hq=>?_)
  ·simp at hq
  ·refine Xz<|Xu W<|Rv 2 W A27 U B23<|Rj W G23 V U<|Rt W A23<|R.shift C U U U U (b_shlN O O)<|R.fixv (t:=18) (v':= .int .i64 ((2^b.gs.length:Nat):Int)) U (by rw [Int.toNat_natCast])<|Ri Z (b_sub O O)<|R.fixv (t:=19) (v':= .int .i64 ((2^b.gs.length-1:Nat):Int)) U (by(congr 1;omega))<|Al W K3 U fun p6=>Rs Z B3 Y V (.here .nil)<|Rz<|Xu W<|Rv 1 W A27 U B22<|Rj W G22 V U<|Rt W A22<|R.makeFunc C U U U U<|R.persist C.1 fun ro5 hl5 h6=>R.persist C.1 fun ro6 hl6 h5=>?_
   have hl46:=RO.le_trans hl5 hl6
   have hfc:=fewest_c hJ (many:=b.ps.length) (is:=fun mask=>lifted b (sureM b mask) (2^b.gs.length-1)) (ro:=ro6) (fv:= .func (.func 153) #[] [.pointer (some ⟨p5,0,none⟩), .pointer (some ⟨p6,0,none⟩)].toArray) O (fun k hk ro' hl'=>renew1_c (hv3.mono (RO.le_trans hl46 hl')) hb (hls.mono (RO.le_trans hl46 hl')) (hl' _ _ h5) (hl' _ _ (hl6 _ _ h6)) O)
   refine R.callR C U U U U (hfc) fun w7 ro7 hl7 hw7=>?_
   obtain⟨vr,hvr,rfl⟩:=hw7
   obtain⟨_,_,rfl⟩:=hvr.form
   refine Ro W<|Re Z<|Re Z<|Rg Y<|Ae W<|Xm W W<|Ro W<|Rg Y<|Rg Y<|Ae W<|X.ret C U U func56 U (by exact(.tmp U (.tmp U (.tmp U .nil))))<|Hr hret (RO.le_trans hl3 (RO.le_trans hl46 hl7)) ?_
   rw [e];exact⟨_,hvr,rfl⟩
end Go.Lg.B
set_option maxRecDepth 100000
namespace Go.Lg.B
open Go Go.Conc Go.Lg Go.Proofs Go.Proofs.Tryz
variable {α:Type}{n:Nat}{e:TypeId}{own:List (Nat×Obj)}{L l:List Int}{v:Value}{ro:RO}
def shareGo(ng:Nat)(s:Nat→Nat→Bool):Nat→List Int→Option (List Int)
 |0,gs=>some gs
 |r+1,gs=>(List.range ng).findSome? fun g=>if s g gs.length && !decide ((g:Int)∈gs) then shareGo ng s r (gs++ [(g:Int)]) else none
def shareR(b:Bk):Option (List Int)×Int:=if openH b 0≠0 then(none,openH b 0) else(shareGo b.gs.length (sureM b 0) b.cs.length [],0)
theorem findSome_hit{g:Nat}{f:Nat→Option α}{x:α}(hg:g<n)(h0:∀j,j<g→f j=none)(h:f g=some x):(List.range n).findSome? f=some x:=by
 obtain⟨k,rfl⟩:∃k,n=g+1+k:=⟨n- (g+1),O⟩
 rw [List.range_add,List.findSome?_append,List.range_succ,List.findSome?_append]
 have:(List.range g).findSome? f=none:=by
  rw [List.findSome?_eq_none_iff];intro x hx;exact h0 x (List.mem_range.1 hx)
 rw [this]
 simp [h]
theorem findSome_miss{f:Nat→Option α}(h0:∀j,j<n→f j=none):(List.range n).findSome? f=none:=by
 rw [List.findSome?_eq_none_iff];intro x hx;exact h0 x (List.mem_range.1 hx)
theorem buf_part{tail:List (Nat×Obj)}{bs:Option Addr}{len cap:Nat}(h:Buf e 1 tail (.slice bs len cap) (L.flatMap ic) own)(hn:n≤L.length):Buf e 1 tail (.slice bs n cap) ((L.take n).flatMap ic) own:=by
 have hl:=flat_len L
 have hl2:((L.take n).flatMap ic).length=n:=by rw [flat_len];simp;omega
 generalize hc:L.flatMap ic=cl at h hl
 cases h with
 |nil=>
  simp at hl
  obtain rfl:n=0:=by omega
  simpa using Buf.nil
 |blk h1 h2 h3=>
  rename_i p spare
  have e2:cl++spare=(L.take n).flatMap ic++((L.drop n).flatMap ic++spare):=by
   rw [←List.append_assoc, ←List.flatMap_append,List.take_append_drop,hc]
  rw [e2] at h2⊢
  exact .blk O h2 O
theorem buf_own(h:Buf e 1 [] v (L.flatMap ic) own):∃bs cap,v= .slice bs L.length cap∧L.length≤cap∧(L= []∨∃p spare,bs=some ⟨p,0,none⟩∧own= [(p, .cells (L.flatMap ic++spare).toArray e (0,0))]):=by
 have hl:=flat_len L
 generalize hc:L.flatMap ic=cl at h hl
 cases h with
 |nil=>simp at hl;exact⟨none,0,by rw [←hl],O, .inl (List.length_eq_zero_iff.1 O)⟩
 |blk h1 h2 h3=>
  rename_i p len cap spare
  obtain rfl:len=L.length:=by omega
  exact⟨_,cap,rfl,h3, .inr ⟨p,spare,rfl,rfl⟩⟩
theorem ic_front{sp:List Value}{i:Nat}(h:i<l.length):(l.flatMap ic++sp)[0+((i:Int)).toNat*1]? =some (.int .i64 l[i]):=by
 rw [Int.toNat_natCast,Nat.zero_add,Nat.mul_one,ic_ints,List.getElem?_append_left (by simpa [ints] using h)]
 simp [ints,h]
def nextV(p2 p1 p6 p7:Nat):Value:= .func (.func 151) #[] [.pointer (some ⟨p2,0,none⟩), .pointer (some ⟨p1,0,none⟩), .pointer (some ⟨p6,0,none⟩), .pointer (some ⟨p7,0,none⟩)].toArray
variable {main:Bool}{J:Goroutine→Mem→Prop}(hJ:Closed prog main J)
include hJ
theorem indexB_c(n:Int)(hb:Buf 3 1 [] v (l.flatMap ic) own)(hn:l.length≤1000000):CallV prog J (fnv 224) [v, .int .i64 n] ro own (fun w ro' pre'=>w= .int .i64 (findN n l)∧ro'=ro∧pre'=own):=by
 obtain⟨bs,cap,rfl,hcap,hsrc⟩:=buf_own hb
 refine CallV.intro (first:= []) (vs:= [_,_]) (cap:= []) hJ Kr fun c cs tail hret=>enter_X (n:=19) func224 U U (Nl U) ?_
 have C:Ctx prog main J (bf 224 .normal):=⟨hJ,by decide⟩
 refine Xo W W<|Xx W<|Ro W<|Rt W A58<|Ro W<|Rz<|Xb<|X.loopI (ι:=Nat) C.1 (fun i=>i≤l.length∧n∉l.take i) (fun i=> [(0, .slice bs l.length cap),(1, .int .i64 n),(7, .int .i64 (l.length:Int)),(8, .int .i64 (i:Int))])
  (fun _=>⟨ro,own++tail⟩) (fun i=>l.length-i) 0 ⟨Nat.zero_le _,by simp⟩ rfl ⟨U,U,U,U,trivial⟩ fun i hi hnext=>?_
 obtain⟨hi,hinv⟩:=hi
 refine Xu W<|Ri Z b_lss<|Rz<|Xv<|Xj U (fun hlt=>?_) (fun hlt=>?_)
 ·have hi':i<l.length:=O
  rcases hsrc with h0|⟨p,spare,rfl,rfl⟩
  ·rw [h0] at hi';exact absurd hi' (Nat.not_lt_zero _)
  ·have _:=hi'
   refine Xz<|Xv<|Xb<|Xm W W<|Ae W<|Xm W W<|Oo W W<|Ry Y A58 B3<|R.loadOne C U U U G3 V (ic_front hi')<|Ri Z b_eql<|Zc U (fun g1=>?_) (fun g1=>?_)
   ·have e1:n=l[i]:=by simpa using g1
    refine Xm W W<|Ae W<|Xw func224<|hret _ _ [_] _ (RO.le_refl _) ⟨?_,rfl,rfl⟩ Vs
    rw [findN_hit hi' e1 hinv];rfl
   ·have e1:¬n=l[i]:=by simpa using g1
    refine Xz<|Xi<|Xg W<|Rb Y<|Ro W<|Rz<|X.weaken ?_ (hnext (i+1) ⟨hi', ?_⟩ O)
    ·exact⟨rfl,rfl,rfl,by simp [look],trivial⟩
    ·show n∉l.take (i+1)
     rw [List.take_succ_eq_append_getElem hi',List.mem_append,List.mem_singleton]
     exact fun h=>h.elim hinv e1
 ·obtain rfl:i=l.length:=by omega
  rw [List.take_length] at hinv
  refine Xe U<|Xo W W<|Xw func224<|hret _ _ own _ (RO.le_refl _) ⟨?_,rfl,rfl⟩ Vs
  rw [findN_miss hinv];rfl
theorem containsB_c(n:Int)(hb:Buf 3 1 [] v (l.flatMap ic) own)(hn:l.length≤1000000):CallV prog J (fnv 152) [v, .int .i64 n] ro own (fun w ro' pre'=>w= .bool (decide (n∈l))∧ro'=ro∧pre'=own):=by
 refine CallV.intro (first:= []) (vs:= [_,_]) (cap:= []) hJ Kr fun c cs tail hret=>enter_X (n:=9) func152 U U (Nl U) ?_
 have C:Ctx prog main J (bf 152 .normal):=⟨hJ,by decide⟩
 refine Xo W W<|Xm W W<|Ro W<|R.call C U U U U U (indexB_c hJ n hb hn) fun w1 ro1 pre1 hl1 hp1=>?_
 obtain⟨rfl,rfl,rfl⟩:=hp1
 refine Ri Z b_geq<|Ae W<|Xw func152<|hret _ _ _ _ (RO.le_refl _) ⟨?_,rfl,rfl⟩ Vs
 rw [findN_in];rfl
theorem next_c{b:Bk}{vp vg vc vt:Value}{ro0:RO}(hv:BkP ro0 b vp vg vc vt)(hb:b.good)(s:Nat→Nat→Bool){p1 p2 p6 p7:Nat}{t1 t6 t7:TypeId}{f1 f6 f7:Nat×Nat}
  (h1:ro0 p1=some (.cells [.int .i64 b.w,vp,vg,vc,vt].toArray t1 f1)) (h6:ro0 p6=some (.cells (sC s).toArray t6 f6)) (h7:ro0 p7=some (.cells [nextV p2 p1 p6 p7].toArray t7 f7)):
  ∀ (r:Nat) (gs:List Int) (v:Value) (own0:List (Nat×Obj)),gs.length+r=b.cs.length→Buf 3 1 [] v (gs.flatMap ic) own0→
   CallV prog J (nextV p2 p1 p6 p7) [] ro0 ((p2, .cells [v].toArray 58 (0,0))::own0) fun w ro' pre'=>ro'=ro0∧∃v' own' L,pre'=(p2, .cells [v'].toArray 58 (0,0))::own'∧Buf 3 1 [] v' (L.flatMap ic) own'∧
    ((w= .bool true∧shareGo b.gs.length s r gs=some L)∨(w= .bool false∧shareGo b.gs.length s r gs=none∧L=gs)):=by
 have hnc:=hb.nc
 have hng:=hb.ng
 obtain⟨_,_,rfl⟩:=hv.2.1.form
 obtain⟨_,_,rfl⟩:=hv.2.2.1.form
 intro r
 induction r with
 |zero=>
  intro gs v own0 hr hbuf
  obtain⟨bs,cap,rfl,hcap,_⟩:=buf_own hbuf
  refine CallV.intro (first:= []) (vs:= []) (cap:= [_,_,_,_]) hJ Kr fun c cs tail hret=>enter_X (n:=41) func151 U U (Nl U) ?_
  have C:Ctx prog main J (bf 151 .normal):=⟨hJ,by decide⟩
  refine Xo W W<|Xu W<|Rj W G58 V U<|Rt W A58<|Ae W<|Xx W<|Ro W<|R.fieldAddr C U U U A27 U B24 U<|Lo Y G24 h1 U<|Rt W A24<|Ri Z b_eql<|Zc U (fun he=>?_) (fun he=>?_)
  ·refine Xo W W<|Xw func151 ?_
   exact hret _ _ (_::own0) _ (RO.le_refl _) ⟨rfl,_,own0,gs,rfl,hbuf, .inl ⟨rfl,rfl⟩⟩ (List.Sublist.refl _)
  ·simp at he;omega
 |succ r ih=>
  intro gs v own0 hr hbuf
  obtain⟨bs,cap,rfl,hcap,_⟩:=buf_own hbuf
  have hdef:shareGo b.gs.length s (r+1) gs=(List.range b.gs.length).findSome? fun g=>if s g gs.length && !decide ((g:Int)∈gs) then shareGo b.gs.length s r (gs++ [(g:Int)]) else none:=rfl
  rw [hdef]
  generalize hfd:(fun g:Nat=>if s g gs.length && !decide ((g:Int)∈gs) then shareGo b.gs.length s r (gs++ [(g:Int)]) else none)=fd
  refine CallV.intro (first:= []) (vs:= []) (cap:= [_,_,_,_]) hJ Kr fun c cs tail hret=>enter_X (n:=41) func151 U U (Nl U) ?_
  have C:Ctx prog main J (bf 151 .normal):=⟨hJ,by decide⟩
  refine Xo W W<|Xu W<|Rj W G58 V U<|Rt W A58<|Ae W<|Xx W<|Ro W<|R.fieldAddr C U U U A27 U B24 U<|Lo Y G24 h1 U<|Rt W A24<|Ri Z b_eql<|Zc U (fun he=>?_) (fun he=>?_)
  ·simp at he;omega
  ·refine Xz<|Xx W<|R.fieldAddr C U U U A27 U B23 U<|Lo Y G23 h1 U<|Rt W A23<|Ro W<|Rz<|Xb<|X.loopI (ι:=Nat×Value×List (Nat×Obj)) C.1 (fun s=>s.1≤b.gs.length∧(∀h,h<s.1→fd h=none)∧Buf 3 1 [] s.2.1 (gs.flatMap ic) s.2.2)
    (fun s=> [(0, .pointer (some ⟨p2,0,none⟩)),(1, .pointer (some ⟨p1,0,none⟩)),(2, .pointer (some ⟨p6,0,none⟩)),(3, .pointer (some ⟨p7,0,none⟩)),(5, .int .i64 (gs.length:Int)),(16, .int .i64 (b.gs.length:Int)),(17, .int .i64 (s.1:Int))])
    (fun s=>⟨ro0,(p2, .cells [s.2.1].toArray 58 (0,0))::(s.2.2++tail)⟩) (fun s=>b.gs.length-s.1) (0,_,own0) ⟨Nat.zero_le _,fun _ h=>absurd h (Nat.not_lt_zero _),hbuf⟩ rfl ⟨U,U,U,U,U,U,U,trivial⟩ fun s' hs' hnext=>?_
   obtain⟨g,v1,own1⟩:=s'
   obtain⟨hg,hnone,hb1⟩:=hs'
   simp only at hg hnone hb1 hnext⊢
   refine Xu W<|Ri Z b_lss<|Rz<|Xv<|Xj U (fun hlt=>?_) (fun hlt=>?_)
   ·have hg':g<b.gs.length:=O
    have hat:=sC_at (s:=s) (g:=g) (p:=gs.length) O O
    have hfg:fd g=if s g gs.length && !decide ((g:Int)∈gs) then shareGo b.gs.length s r (gs++ [(g:Int)]) else none:=by rw [←hfd]
    have hno:fd g=none→∀h,h<g+1→fd h=none:=fun hf h hh=>by
     by_cases e:h=g
     ·subst e;exact hf
     ·exact hnone h O
    refine Xz<|Xv<|Xb<|Xm W W<|Ae W<|Xx W<|Oo W W<|R.indexAddrA C U U U U A270 sizeOf268 O O<|R.indexAddrA C U U U U A268 B4 O O<|Lo Y G4 h6 hat<|Rh Y<|Ro W<|R.fix (t:=26) U (fun hs1=>?_) (fun hs1=>?_)
    ·have hs1:s g gs.length=false:=by simpa using hs1
     rw [if_neg (by simp [hs1])] at hfg
     refine Rp W<|Rp W<|Rp W<|Pp Z<|Zc U (fun _=>?_) (fun h=>nomatch h)
     refine Xe U<|Xg W<|Rb Y<|Ro W<|Rz<|X.weaken ?_ (hnext (g+1,v1,own1) ⟨hg',hno hfg,hb1⟩ (by simp only;omega))
     exact⟨rfl,rfl,rfl,rfl,rfl,rfl,by simp [look],trivial⟩
    ·have hs1:s g gs.length=true:=by simpa using hs1
     refine Rj W G58 V U<|Ro W<|R.perm C.1 List.perm_middle.symm<|R.call C U U U U U (containsB_c hJ (g:Int) hb1 O) fun w2 ro2 pre2 hl2 hp2=>?_
     obtain⟨rfl,rfl,rfl⟩:=hp2
     refine R.perm C.1 List.perm_middle<|Pf Z<|Zc U (fun hc1=>?_) (fun hc1=>?_)
     ·have hc1:(g:Int)∈gs:=by simpa using hc1
      rw [if_neg (by simp [hc1])] at hfg
      refine Xe U<|Xg W<|Rb Y<|Ro W<|Rz<|X.weaken ?_ (hnext (g+1,v1,pre2) ⟨hg',hno hfg,hb1⟩ (by simp only;omega))
      exact⟨rfl,rfl,rfl,rfl,rfl,rfl,by simp [look],trivial⟩
     ·have hc1:(g:Int)∉gs:=by simpa using hc1
      rw [if_pos (by simp [hs1,hc1])] at hfg
      have hfl:=flat_len gs
      refine Xz<|Xu W<|Rj W G58 V U<|Ro W<|R.buildSlice C (vs:=_) U U (show pvals _ _=some (numbered 0 [_]) from rfl) U A58 B3 K3 Dd (Cat.one U U) fun p33=>R.append2 (kk:=1) C [_] U U U U A58 A58 (fun _=>nofun) (show prog.info? 3=some Tryz.t3 by kernel_rfl) U U U Dd Dd (hb1.app tail) U U (by(try simp only [List.length_append,List.length_cons,List.length_nil]);omega) fun v' own' hb'=>?_
      obtain⟨own2,rfl,hb2⟩:=hb'.unapp (tail:= [])
      refine R.store C U U U U B58 hb'.cells1 U hb'.ones1 V (.here .nil) ?_
      have hb2':Buf 3 1 [] v' ((gs++ [(g:Int)]).flatMap ic) own2:=by rw [List.flatMap_append];exact hb2
      have hrec:=ih (gs++ [(g:Int)]) v' own2 Zo hb2'
      refine Rz<|Xx W<|Lo Y isAgg40 h7 U<|R.call C U U U U (pre:=_::own2) (tail:=tail) U hrec fun w3 ro3 pre3 hl3 hp3=>?_
      obtain⟨rfl,v3,own3,L3,rfl,hb3,hp3⟩:=hp3
      rcases hp3 with⟨rfl,hsh⟩|⟨rfl,hsh,rfl⟩
      ·
       refine Zc U (fun _=>?_) (fun h=>nomatch h)
       refine Xo W W<|Xw func151 ?_
       exact hret _ _ (_::own3) _ (RO.le_refl _) ⟨rfl,v3,own3,L3,rfl,hb3, .inl ⟨rfl,findSome_hit hg' hnone (by rw [hfg,hsh])⟩⟩ (List.Sublist.refl _)
      ·
       obtain⟨b3,c3,rfl,hc3,_⟩:=buf_own hb3
       have hb4:=buf_part hb3 (n:=gs.length) Zi
       rw [List.take_left] at hb4
       refine Zc U (fun h=>nomatch h) (fun _=>?_)
       refine Xz<|Xg W<|Rj W G58 V U<|Ro W<|R.sliceTo C U U U U A58 B3 O (by simp only [List.length_append,List.length_cons,List.length_nil] at hc3;omega) ?_;refine Rs Z B58 Y V (.here .nil)<|Rz<|Xi<|Xg W<|Rb Y<|Ro W<|Rz<|X.weaken ?_ (hnext (g+1,_,own3) ⟨hg',hno (by rw [hfg,hsh]),hb4⟩ (by simp only;omega))
       exact⟨rfl,rfl,rfl,rfl,rfl,rfl,by simp [look],trivial⟩
   ·obtain rfl:g=b.gs.length:=by omega
    refine Xe U<|Xo W W<|Xw func151 ?_
    exact hret _ _ (_::own1) _ (RO.le_refl _) ⟨rfl,v1,own1,gs,rfl,hb1, .inr ⟨rfl,findSome_miss hnone,rfl⟩⟩ (List.Sublist.refl _)
end Go.Lg.B
set_option maxRecDepth 100000
namespace Go.Lg.B
open Go Go.Conc Go.Lg Go.Proofs Go.Proofs.Tryz
variable {k mask:Nat}{l:List Ts}{b:Bk}{v:Value}{ro:RO}
def selK(mask:Nat)(l:List Ts)(k:Nat):List Ts:=((l.zipIdx.take k).filter fun x=>mask.testBit x.2).map (·.1)
def selT(mask:Nat)(l:List Ts):List Ts:=selK mask l l.length
theorem selK_succ(h:k<l.length):selK mask l (k+1)=if mask.testBit k then selK mask l k++ [l[k]] else selK mask l k:=by
 unfold selK
 rw [List.take_succ_eq_append_getElem (by simpa using h),List.filter_append,List.map_append]
 simp only [List.getElem_zipIdx,Nat.zero_add,List.filter_cons,List.filter_nil]
 split<;>simp
theorem selK_sub:∀t∈selK mask l k,t∈l:=fun t ht=>by
 unfold selK at ht
 obtain⟨x,hx,rfl⟩:=List.mem_map.1 ht
 have:=List.mem_of_mem_take (List.mem_filter.1 hx).1
 exact(List.mem_zipIdx' this).2▸List.getElem_mem _
theorem selK_len:(selK mask l k).length≤l.length:=by
 unfold selK
 rw [List.length_map]
 have h1:=List.length_filter_le (fun x:Ts×Nat=>mask.testBit x.2) (l.zipIdx.take k)
 rw [List.length_take,List.length_zipIdx] at h1
 omega
def Bk.only(b:Bk)(mask:Nat):Bk:={b with ts:=selT mask b.ts}
theorem Bk.good.only(hb:b.good)(mask:Nat):(b.only mask).good:=
 ⟨hb.w,hb.np,hb.ps,hb.ng,hb.gs,hb.nc,hb.cs,Nat.le_trans selK_len hb.nt,fun t ht=>hb.ts t (selK_sub t ht)⟩
def noneLeft(b:Bk)(mask:Nat):Bool:= !decide (cases (b.only mask)≠ [])
def clashR(b:Bk):List Int×Int:=if checkBook b≠0 then([],checkBook b) else if cases b≠ [] then([],0) else((fewestOf b.ts.length (noneLeft b)).getD [],0)
theorem share_c{Q:Machine→Outcome→World→Trace→Prop}(he:Env ro)(hv:BkV ro v b)(hs:b.short):CallR prog (JM prog Q) (fnv 55) [v] ro (fun w ro'=>∃vl,LsI ro' vl ((shareR b).1.getD [])∧w= .tuple [vl, .bool (shareR b).1.isSome, .int .i64 (shareR b).2].toArray):=by
 have hJ:Closed prog true (JM prog Q):=JM.closed
 obtain⟨vp,vg,vc,vt,rfl,hv⟩:=hv
 have hv':=hv
 obtain⟨_,_,rfl⟩:=hv.1.form
 obtain⟨_,_,rfl⟩:=hv.2.1.form
 obtain⟨_,_,rfl⟩:=hv.2.2.1.form
 obtain⟨_,_,rfl⟩:=hv.2.2.2.form
 let main:=true
 let J:=JM prog Q
 have hop:=open_c hJ he hv' hs (zs:= []) .nil (Nat.zero_le _) (fun z hz=>absurd hz List.not_mem_nil)
 rw [List.map_nil,firstH_nil] at hop
 refine ER 23 hJ func55 W fun c cs tail hret C=>Xu W<|Bx Z fun p1=>Al W K58 U fun p2=>Rg Y<|Ae W<|Xu W<|Rq W G27 B27 V Tk5<|R.call C U U U U (pre:= []) U hop fun w3 ro3 pre3 hl3 hp3=>?_
 rcases hp3 with⟨h0,rfl,rfl⟩|⟨h0,m,kv,vl,rfl,hm,hls,rfl⟩
 ·
  have e:shareR b=(none,openH b 0):=by rw [shareR,if_pos h0]
  refine Ro W<|Re Z<|Re Z<|Al W K228 U fun p5=>Rs Z B228 Y V Ph7<|Ae W<|Xx W<|Ro W<|Ri Z b_neq<|Zc U (fun hq=>?_) (fun hq=>?_)
  ·refine Xm W W<|Rs Z B58 Y V (.here .nil)<|Rg Y<|Ae W<|X.ret C U U func55 U (by exact(.one U G58 V U (.tmp U (.tmp U .nil))))<|Hr hret hl3 ?_
   rw [e];exact⟨_, .nil,rfl⟩
  ·simp at hq;contradiction
 ·
  have e:shareR b=(shareGo b.gs.length (sureM b 0) b.cs.length [],0):=by rw [shareR,if_neg (by simp [h0])]
  obtain⟨hb,_,hne,_⟩:=openH_good h0
  have hv3:=hv'.mono hl3
  obtain⟨lb,lc,rfl⟩:=hls.form
  refine Ro W<|Re Z<|Re Z<|Al W K228 U fun p5=>Rs Z B228 Y V Ph7<|Ae W<|Xx W<|Ro W<|Ri Z b_neq<|Zc U (fun hq=>?_) (fun hq=>?_)
  ·simp at hq
  ·refine Xz<|Xu W<|Rq W G228 B228 V (.take Tk6)<|R.callR C U U U U (sure_c (mask:=0) hv3 hb hls O) fun w4 ro4 hl4 hw4=>?_
   subst hw4
   refine Al W K270 U fun p6=>Rs Z B270 Y V (.here (.here Ph7))<|Rz<|Xu W<|Al W zeroValue40 U fun p7=>Rz<|Xu W<|R.makeFunc C U U U U<|Rs Z sizeOf40 Y V (.here .nil)<|Rz<|Xv<|Xv<|X.persist C.1 fun ro5 hl5 h7=>X.persist C.1 fun ro6 hl6 h6=>X.drop C.1 (own':=_::_::tail) (.cons _ (List.sublist_cons_self _ _))<|X.perm C.1 (by exact pm1)<|X.persist C.1 fun ro7 hl7 h1=>?_
   have hl67:=RO.le_trans hl6 hl7
   have hl47:=RO.le_trans hl4 (RO.le_trans hl5 hl67)
   have h7:=hl67 _ _ h7
   have h6:=hl7 _ _ h6
   have hnx:=next_c hJ (hv3.mono hl47) hb (sureM b 0) h1 h6 h7 b.cs.length [] (.slice none 0 0) [] Zi .nil
   refine Xg W<|Lo Y isAgg40 h7 U<|R.call C U U U U (pre:= [_]) (tail:=tail) U hnx fun w8 ro8 pre8 hl8 hp8=>?_
   obtain⟨hro8,v8,own8,L8,rfl,hb8,hp8⟩:=hp8
   subst hro8
   obtain⟨bs8,cap8,rfl,hc8,_⟩:=buf_own hb8
   rcases hp8 with⟨rfl,hsh⟩|⟨rfl,hsh,rfl⟩
   ·
    refine Rh Y<|FF 21 U U<|Zc U (fun h=>nomatch h) (fun _=>?_)
    refine Xz<|Xu W<|Rj W G58 V U ?_;refine Rs Z B58 Y V (.here .nil)<|Rg Y<|Ae W<|X.perm C.1 List.perm_middle.symm<|(BufX.of hb8).fin C.1 fun ro9 hl9 hls9=>X.ret C U U func55 U (by exact(.one U G58 V U (.tmp U (.tmp U .nil))))<|Hr hret (RO.le_trans hl3 (RO.le_trans hl47 hl9)) ?_
    rw [e,hsh];exact⟨_,hls9,rfl⟩
   ·
    refine Rh Y<|FT 21 U U<|Zc U (fun _=>?_) (fun h=>nomatch h)
    refine Xu W<|Rs Z B58 Y V (.here .nil)<|Rg Y<|Ae W<|X.drop C.1 (own':=_::tail) (.cons_cons _ (List.sublist_append_right _ _))<|X.ret C U U func55 U (by exact(.one U G58 V U (.tmp U (.tmp U .nil))))<|Hr hret (RO.le_trans hl3 hl47) ?_
    rw [e,hsh];exact⟨_, .nil,rfl⟩
variable {main:Bool}{J:Goroutine→Mem→Prop}(hJ:Closed prog main J)
include hJ
theorem clash1_c{vp vg vc vt:Value}(hv:BkP ro b vp vg vc vt)(hb:b.good){p1:Nat}{t1:TypeId}{f1:Nat×Nat}(h1:ro p1=some (.cells [.int .i64 b.w,vp,vg,vc,vt].toArray t1 f1))(hmask:mask<2^63):
  CallR prog J (.func (.func 158) #[] [.pointer (some ⟨p1,0,none⟩)].toArray) [.int .i64 (mask:Int)] ro fun w _=>w= .bool (noneLeft b mask):=by
 have hnt:=hb.nt
 have hb2:=hb.only mask
 obtain⟨_,_,rfl⟩:=hv.1.form
 obtain⟨_,_,rfl⟩:=hv.2.1.form
 obtain⟨_,_,rfl⟩:=hv.2.2.1.form
 obtain⟨tb,tcp,rfl⟩:=hv.2.2.2.form
 refine CallR.introC hJ Kr fun c cs tail hret=>enter_X (n:=33) func158 U U (Nl U) ?_
 have C:Ctx prog main J (bf 158 .normal):=⟨hJ,by decide⟩
 refine Xo W W<|Xu W<|La Y G27 B27 h1 Tk5<|Al W K27 U fun p4=>Rs Z B27 Y V Ph5<|Rz<|Xu W<|Rv 4 W A27 U B25<|Rs Z B25 Y V (.skip (.skip (.skip (.skip (.here .nil)))))<|Rz<|Xx W<|R.fieldAddr C U U U A27 U B25 U<|Lo Y G25 h1 U<|Rt W A25<|Ro W<|Rz<|Xb<|X.loopI (ι:=Nat×Value×List (Nat×Obj)) C.1 (fun s=>s.1≤b.ts.length∧Buf 105 3 [] s.2.1 ((selK mask b.ts s.1).flatMap Ts.cells) s.2.2)
  (fun s=> [(0, .int .i64 (mask:Int)),(1, .pointer (some ⟨p1,0,none⟩)),(4, .pointer (some ⟨p4,0,none⟩)),(10, .slice tb b.ts.length tcp),(11, .int .i64 (b.ts.length:Int)),(12, .int .i64 (s.1:Int))])
  (fun s=>⟨ro,(p4, .cells [.int .i64 b.w,_,_,_,s.2.1].toArray 27 (0,0))::(s.2.2++tail)⟩) (fun s=>b.ts.length-s.1) (0, .slice none 0 0, []) ⟨Nat.zero_le _, .nil⟩ rfl ⟨U,U,U,U,U,U,trivial⟩ fun s hs' hnext=>?_
 obtain⟨i,v0,own0⟩:=s
 obtain⟨hi,hbuf⟩:=hs'
 simp only at hi hbuf hnext⊢
 obtain⟨bs0,cap0,rfl⟩:=hbuf.form Dd
 refine Xu W<|Ri Z b_lss<|Rz<|Xv<|Xj U (fun hlt=>?_) (fun hlt=>?_)
 ·have hi':i<b.ts.length:=O
  obtain⟨pp,off,cap,l,t,fq,hsl,hrop,hsub⟩:=hv.2.2.2.at Ts.len O
  cases hsl
  have hsi:=hsub i hi'
  have hsk:=selK_succ (mask:=mask) hi'
  have hskl:=selK_len (mask:=mask) (l:=b.ts) (k:=i)
  have hfl:((selK mask b.ts i).flatMap Ts.cells).length=(selK mask b.ts i).length*3:=flatMap_len Ts.len _
  generalize b.ts[i]=co at hsi hsk
  refine Xz<|Xv<|Xb<|Xm W W<|Ry Y A25 B105<|La Y G105 B105 hrop hsi<|Al W K105 U fun p6=>Rg Y<|Rs Z B105 Y V Ph3<|Rz<|Xm W W<|Ro W<|R.shift C U U U U (b_shrN O O)<|Ri Z (b_and1 (Nat.lt_of_le_of_lt (Nat.shiftRight_le _ _) hmask))<|Ri Z b_eql<|Zc U (fun hbit=>?_) (fun hbit=>?_)
  ·rw [Int.toNat_natCast,bit_one] at hbit
   rw [if_pos hbit] at hsk
   refine Xg W<|Rv 4 W A27 U B25<|Rj W G25 V U<|Rq W G105 B105 V Tk3<|R.buildSlice C (vs:=_) U U (show pvals _ _=some (numbered 0 [_]) from rfl) U A25 B105 K105 Dd (Cat.one U U) fun p25=>R.append2 (kk:=3) C [_,_] U U U U A25 A25 (fun _=>nofun) (show prog.info? 105=some Tryz.t105 by kernel_rfl) U U U Dd Dd (hbuf.app tail) U U (by(try simp only [List.length_append,List.length_cons,List.length_nil]);omega) fun v' own' hb'=>Rv 4 W A27 U B25 ?_
   obtain⟨own1,rfl,hb1⟩:=hb'.unapp (tail:= [])
   refine R.store C U U U U B25 hb'.cells1 U hb'.ones1 V (.skip (.skip (.skip (.skip (.here .nil)))))<|Rz<|Xi<|Xg W<|Rb Y<|Ro W<|Rz<|X.drop C.1 (own':=_::(own1++tail)) (List.sublist_cons_self _ _)<|X.weaken ?_ (hnext (i+1,v',own1) ⟨hi', ?_⟩ (by simp only;omega))
   ·exact⟨rfl,rfl,rfl,rfl,rfl,by simp [look],trivial⟩
   ·rw [hsk,List.flatMap_append];exact hb1
  ·rw [Int.toNat_natCast,bit_one] at hbit
   rw [if_neg (by simp [hbit])] at hsk
   refine Xz<|Xi<|Xg W<|Rb Y<|Ro W<|Rz<|X.drop C.1 (own':=_::(own0++tail)) (List.sublist_cons_self _ _)<|X.weaken ?_ (hnext (i+1,_,own0) ⟨hi',by rw [hsk];exact hbuf⟩ (by simp only;omega))
   exact⟨rfl,rfl,rfl,rfl,rfl,by simp [look],trivial⟩
 ·obtain rfl:i=b.ts.length:=by omega
  refine Xe U<|Xv<|X.finishA [_] C.1 Ts.len Dd (hbuf.app tail) fun ro2 hl2 hls=>?_
  have hv2:BkP ro2 (b.only mask) _ _ _ _:=⟨hv.1.mono hl2,hv.2.1.mono hl2,hv.2.2.1.mono hl2,hls⟩
  have hyo:=yardOf_c hJ hv2
  refine Xg W<|Rq W G27 B27 V Tk5<|R.call C U U U U (pre:= []) U hyo fun w3 ro3 pre3 hl3 hp3=>?_
  obtain⟨rfl,m,rfl,rfl⟩:=hp3
  refine R.call C U U U U (pre:= [_]) U (some_c hJ hv2 hb2 (m:=m) (kv:= []) (fun x hx=>absurd hx (List.not_mem_nil))) fun w4 ro4 pre4 hl4 hp4=>?_
  obtain⟨rfl,rfl⟩:=hp4
  refine Rh Y<|Ae W<|Xw func158<|Hr hret (RO.le_trans hl2 hl4) ?_
  rfl
theorem clash_c(he:Env ro)(hv:BkV ro v b)(hs:b.short):CallR prog J (fnv 60) [v] ro (fun w ro'=>∃vl,LsI ro' vl (clashR b).1∧w= .tuple [vl, .int .i64 (clashR b).2].toArray):=by
 have hvv:=hv
 obtain⟨vp,vg,vc,vt,rfl,hv⟩:=hv
 have hv':=hv
 obtain⟨_,_,rfl⟩:=hv.1.form
 obtain⟨_,_,rfl⟩:=hv.2.1.form
 obtain⟨_,_,rfl⟩:=hv.2.2.1.form
 obtain⟨_,_,rfl⟩:=hv.2.2.2.form
 refine ER 24 hJ func60 W fun c cs tail hret C=>Xu W<|Bx Z fun p1=>Rg Y<|Ae W<|Xx W<|Rq W G27 B27 V Tk5<|Cp Z (checkBook_c hJ (by assumption) (by assumption) (by assumption))<|Ae W<|Xm W W<|Ri Z b_neq<|Zc U (fun hh=>?_) (fun hh=>?_)
 ·have hh:checkBook b≠0:=by simpa using hh
  refine Xm W W<|Rg Y<|Ae W<|X.ret C U U func60 U (by exact(.tmp U (.tmp U .nil)))<|Hr hret (RO.le_refl _) ?_
  rw [clashR,if_pos hh];exact⟨_, .nil,rfl⟩
 ·have hh:checkBook b=0:=by simpa using hh
  have hb:=good_of hh
  have hnt:=hb.nt
  have h8:2^b.ts.length≤2^3:=two_pow_le hnt
  refine Xz<|Xx W<|Rq W G27 B27 V Tk5<|R.call C U U U U (pre:= []) U (yardOf_c hJ hv') fun w1 ro1 pre1 hl1 hp1=>?_
  obtain⟨rfl,m,rfl,rfl⟩:=hp1
  refine R.call C U U U U (pre:= [_]) U (some_c hJ hv' hb (m:=m) (kv:= []) (fun x hx=>absurd hx (List.not_mem_nil))) fun w4 ro4 pre4 hl4 hp4=>?_
  obtain⟨rfl,rfl⟩:=hp4
  refine Zc U (fun hc=>?_) (fun hc=>?_)
  ·have hc:cases b≠ []:=by simpa using hc
   refine Xu W<|Rg Y<|Ae W<|X.ret C U U func60 U (by exact(.tmp U (.tmp U .nil)))<|Hr hret hl4 ?_
   rw [clashR,if_neg (fun h=>h hh),if_pos hc];exact⟨_, .nil,rfl⟩
  ·have hc:¬cases b≠ []:=by simpa using hc
   have e:clashR b=((fewestOf b.ts.length (noneLeft b)).getD [],0):=by rw [clashR,if_neg (fun h=>h hh),if_neg hc]
   refine Xz<|Xu W<|Rv 4 W A27 U B25<|Rj W G25 V U<|Rt W A25<|R.makeFunc C U U U U<|R.persist C.1 fun ro5 hl5 h1=>?_
   have hl45:=RO.le_trans hl4 hl5
   have hk1:∀k:Nat,k<2^b.ts.length→∀ro',ro5.le ro'→CallR prog J (.func (.func 158) #[] [.pointer (some ⟨p1,0,none⟩)].toArray) [.int .i64 (k:Int)] ro' fun w _=>w= .bool (noneLeft b k):=by
    intro k hk ro' hl'
    have h1':=hl' _ _ h1
    exact clash1_c hJ (hv'.mono (RO.le_trans hl45 hl')) hb h1' O
   have hfc:=fewest_c hJ (many:=b.ts.length) (is:=noneLeft b) O hk1
   refine R.callR C U U U U (hfc) fun w7 ro7 hl7 hw7=>?_
   obtain⟨vr,hvr,rfl⟩:=hw7
   obtain⟨_,_,rfl⟩:=hvr.form
   refine Ro W<|Re Z<|Re Z<|Rg Y<|Ae W<|Xm W W<|Rg Y<|Ae W<|X.ret C U U func60 U (by exact(.tmp U (.tmp U .nil)))<|Hr hret (RO.le_trans hl45 hl7) ?_
   rw [e];exact⟨_,hvr,rfl⟩
end Go.Lg.B
