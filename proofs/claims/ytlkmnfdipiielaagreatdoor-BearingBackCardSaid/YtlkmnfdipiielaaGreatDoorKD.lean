/-
  Part 4 of what all proofs of this seat share: laws of the model that the walks use, and what functions of the program reckon. Conditions: the premises that each theorem states.
-/
import Derived.Test.YtlkmnfdipiielaaGreatDoorKC
import Derived.Sort.LotD5
import Derived.Laws.Bits64
import Derived.Laws.Bits64b
import Derived.Sort.Walk13a
import Derived.Conc.LeavingOf
import Derived.LaidMore
import Derived.WideKeyArgs
import Derived.ChangeArms
import Derived.WideShapes
import Derived.ChangeShapes
import Derived.Test.YtlkmnfdipiielaaGreatDoorTie
import Derived.Test.YtlkmnfdipiielaaGreatDoorCards
import Derived.OpenShut
import Derived.SevenTiedAt
import Derived.Test.YtlkmnfdipiielaaGreatDoorRows
import Derived.JoinedOf
set_option maxRecDepth 100000
set_option linter.all false
set_option linter.unusedVariables false
set_option linter.unusedSimpArgs false
set_option linter.unusedSectionVars false
namespace Go.Lg
open Go Go.Conc
theorem X.loopB{P:Program}{main:Bool}{J:Goroutine→Mem→Prop}{b:Frame}{cs:List Frame}{n:Nat}{ds:List Deferred}{σ:Slots}{M:Mem}{k:List Item}{id:Nat}{ι:Type}{c:Code}(hJ:Closed P main J)(Inv:ι→Prop)(σf:ι→Slots)(Mf:ι→Mem)(μ:ι→Nat)(i₀:ι)(E:ι→Prop)(h0:Inv i₀)(hM:M=Mf i₀)(hs:keeps σ (σf i₀))
  (hexit:∀i,E i→X J b cs n k ds (σf i) (Mf i))
  (step:∀i,Inv i→(∀j,Inv j→μ j<μ i→X J b cs n (.inLoop c:: .inBlock id::k) ds (σf j) (Mf j))→(∀j,E j→X J b cs n k ds (σf j) (Mf j))→X J b cs n (.code c:: .inLoop c:: .inBlock id::k) ds (σf i) (Mf i)):X J b cs n (.code (.loop c):: .inBlock id::k) ds σ M:=
 X.loopI hJ Inv σf Mf μ i₀ h0 hM hs fun i hi hn=>step i hi hn hexit
end Go.Lg
namespace Go.Lg.B
open Go Go.Conc Go.Lg Go.Proofs Go.Proofs.Tryz
open Go.Sort (ltInt swp scanUp scanDown partLoop partEqLoop partition partitionEqual)
variable {p:Int→Bool}{d d1:Array Int}{a b cap i j pv:Nat}{sp:List Value}{ro:RO}
theorem scanUp_go(h:i≤j)(hp:p d[i]! =true):scanUp p d j i=scanUp p d j (i+1):=by rw [scanUp,if_pos (by simp [h,hp])]
theorem scanUp_stop(h:j<i∨p d[i]! =false):scanUp p d j i=i:=by
 rw [scanUp,if_neg]
 rcases h with h|h
 ·simp;omega
 ·simp [h]
theorem scanDown_go(h:i≤j)(hj:0<j)(hp:p d[j]! =true):scanDown p d i j=scanDown p d i (j-1):=by
 obtain⟨j,rfl⟩:∃k,j=k+1:=⟨j-1,O⟩
 rw [scanDown,if_pos (by simp [h,hp])];rfl
theorem scanDown_stop(h:j<i∨p d[j]! =false):scanDown p d i j=j:=by
 cases j with
 |zero=>rfl
 |succ j=>
  rw [scanDown,if_neg]
  rcases h with h|h
  ·simp;omega
  ·simp [h]
theorem swp_sz:(swp d i j).size=d.size:=by simp [swp]
theorem part_now(h1:d1=swp d a pv)(hi:i=scanUp (fun x=>ltInt x d1[a]!) d1 (b-1) (a+1))(hj:j=scanDown (fun x=> !ltInt x d1[a]!) d1 i (b-1))(h:j<i):partition ltInt d a b pv=(j,true,swp d1 j a):=by
 subst h1;subst hi;subst hj
 unfold partition
 simp only
 rw [if_pos h]
theorem part_later(h1:d1=swp d a pv)(hi:i=scanUp (fun x=>ltInt x d1[a]!) d1 (b-1) (a+1))(hj:j=scanDown (fun x=> !ltInt x d1[a]!) d1 i (b-1))(h:¬j<i):partition ltInt d a b pv=((partLoop ltInt a (i+1) (j-1) (swp d1 i j)).1,false,swp (partLoop ltInt a (i+1) (j-1) (swp d1 i j)).2 (partLoop ltInt a (i+1) (j-1) (swp d1 i j)).1 a):=by
 subst h1;subst hi;subst hj
 unfold partition
 simp only
 rw [if_neg h]
theorem scan_ne{q:Int→Bool}(hq:∀x,q x= !p x){i0 j0:Nat}(hi:i=scanUp p d j0 i0)(hj:j=scanDown q d i j0)(h:i≤j)(h0:0<j):i<j:=by
 refine Nat.lt_of_le_of_ne h fun e=>?_
 have h1:=(Go.Sort.scanUp_spec p d j0 _ i0 rfl).2.2.2
 have h2:=Go.Sort.scanDown_spec q d i j0
 rw [←hi] at h1
 rw [←hj] at h2
 have h3:=h1 O
 have h4:=h2.2.2.2 h h0
 rw [hq, ←e,h3] at h4
 cases h4
variable {main:Bool}{J:Goroutine→Mem→Prop}(hJ:Closed prog main J)
include hJ
theorem partition_c{p:Nat}(hn:d.size≤1000000000)(hp1:a≤pv)(hp2:pv<b)(hb:b≤d.size):CallS J 192 p sp d cap [.int .i64 (a:Int), .int .i64 (b:Int), .int .i64 (pv:Int)] ro (.tuple [.int .i64 ((partition ltInt d a b pv).1:Int), .bool (partition ltInt d a b pv).2.1].toArray) (partition ltInt d a b pv).2.2:=by
 refine CallS.intro hJ Kr fun c cs tail hret=>?_
 let J:=J
 refine enter_X (n:=168) func192 U U (Nl U) ?_
 have C:Ctx prog main J (bf 192 .normal):=⟨hJ,by decide⟩
 refine Xr C U U<|R.asg C U U U<|Ad C U U<|Xs C<|Xd C fun hok=>Dm C 0 hok U U U<|Dm C 1 hok U U U<|Dm C 2 hok U U U<|Dm C 3 hok U U U<|Dm C 4 hok U U U<|Dm C 5 hok U U U<|Dx C 6 hok U U U runUnderlying28 sizeOf3<|D1 C 7 hok U U isAgg3 V (vals_at (k:=pv) O O)<|Dm C 8 hok U U U<|Dm C 9 hok U U U<|Dx C 10 hok U U U runUnderlying28 sizeOf3<|D1 C 11 hok U U isAgg3 V (vals_at (k:=a) O O)<|Dx C 12 hok U U U runUnderlying28 sizeOf3<|De 13 none [false,false] hok (fun _ _ A hk=>?_)
 refine R.store C U (A.w U U) (A.x U U) (A.x U U) sizeOf3 U U U V (vals_put (k:=a) O O) (hk undef _ ⟨QFs.nil, ?_⟩)
 refine Dx C 14 hok U U U runUnderlying28 sizeOf3<|De 15 none [] hok (fun _ _ A hk=>?_)
 refine R.store C U (A.w U U) (A.x U U) (A.x U U) sizeOf3 U U U V (vals_put (k:=pv) O Zo) (hk undef _ ⟨QFs.nil, ?_⟩)
 refine D.done C hok Kr<|Xr C U U ?_
 obtain⟨d1,hd1e⟩:∃d1,d1=swp d a pv:=⟨_,rfl⟩
 have hd1:d1.size=d.size:=by rw [hd1e,swp_sz]
 have hd1v:(d.setIfInBounds a d[pv]!).setIfInBounds pv d[a]! =d1:=hd1e.symm
 rw [hd1v]
 refine Rm C U U<|Ra C U U U<|R.fixv (t:=27) (v':= .int .i64 ((a+1:Nat):Int)) U (by rfl)<|Rm C U U<|R.int C U U U U (b_sub O O)<|R.fixv (t:=29) (v':= .int .i64 ((b-1:Nat):Int)) U (by(congr 1;omega))<|R.asg C U U U<|Ad C U U<|Xs C<|X.block C.1<|X.loopB (ι:=Nat) C.1 (fun i=>a<i∧i≤(b-1)+1∧(a+1)≤i∧scanUp (fun x=>ltInt x d1[a]!) d1 (b-1) i=scanUp (fun x=>ltInt x d1[a]!) d1 (b-1) (a+1)) (fun i=> [(0, .slice (some ⟨p,0,none⟩) d.size cap),(1, .int .i64 (a:Int)),(10, .int .i64 ((i:Nat):Int)),(11, .int .i64 (((b-1):Nat):Int))])
  (fun _=>⟨ro,(p, .cells (vals d1++sp).toArray 3 (0,0))::tail⟩) (fun i=>(b-1)+1-i) ((a+1)) (fun i=>a<i∧i≤(b-1)+1∧(a+1)≤i∧i=scanUp (fun x=>ltInt x d1[a]!) d1 (b-1) (a+1)) ⟨O,O,O,rfl⟩ rfl ⟨U,U,U,U,trivial⟩ (fun i1 hi1=>?_) fun i1 hi1 hnx hex=>?_
 ·obtain⟨i1a,i1b,i1c,i1d⟩:=hi1
  refine Xs C<|X.block C.1<|X.loopB (ι:=Nat) C.1 (fun j=>j<b∧i1≤j+1∧j≤(b-1)∧scanDown (fun x=> !ltInt x d1[a]!) d1 i1 j=scanDown (fun x=> !ltInt x d1[a]!) d1 i1 (b-1)) (fun j=> [(0, .slice (some ⟨p,0,none⟩) d.size cap),(1, .int .i64 (a:Int)),(10, .int .i64 ((i1:Nat):Int)),(11, .int .i64 ((j:Nat):Int))])
   (fun _=>⟨ro,(p, .cells (vals d1++sp).toArray 3 (0,0))::tail⟩) (fun j=>j) ((b-1)) (fun j=>j<b∧i1≤j+1∧j≤(b-1)∧j=scanDown (fun x=> !ltInt x d1[a]!) d1 i1 (b-1)) ⟨O,O,O,rfl⟩ rfl ⟨U,U,U,U,trivial⟩ (fun j2 hj2=>?_) fun j2 hj2 hnx hex=>?_
  ·obtain⟨j2a,j2b,j2c,j2d⟩:=hj2
   refine Xs C<|Xr C U U<|Rm C U U<|Rm C U U<|R.int C U U U U b_gtr<|R.done C<|Xk C U (fun hgt=>?_) (fun hgt=>?_)
   ·rw [part_now hd1e i1d j2d O] at hret
    refine Xs C<|Xd C fun hok=>Dm C 0 hok U U U<|Dm C 1 hok U U U<|Dm C 2 hok U U U<|Dm C 3 hok U U U<|Dm C 4 hok U U U<|Dm C 5 hok U U U<|Dx C 6 hok U U U runUnderlying28 sizeOf3<|D1 C 7 hok U U isAgg3 V (vals_at (k:=a) O O)<|Dm C 8 hok U U U<|Dm C 9 hok U U U<|Dx C 10 hok U U U runUnderlying28 sizeOf3<|D1 C 11 hok U U isAgg3 V (vals_at (k:=j2) O O)<|Dx C 12 hok U U U runUnderlying28 sizeOf3<|De 13 none [false,false] hok (fun _ _ A hk=>?_)
    refine R.store C U (A.w U U) (A.x U U) (A.x U U) sizeOf3 U U U V (vals_put (k:=j2) O O) (hk undef _ ⟨QFs.nil, ?_⟩)
    refine Dx C 14 hok U U U runUnderlying28 sizeOf3<|De 15 none [] hok (fun _ _ A hk=>?_)
    refine R.store C U (A.w U U) (A.x U U) (A.x U U) sizeOf3 U U U V (vals_put (k:=a) O Zo) (hk undef _ ⟨QFs.nil, ?_⟩)
    refine D.done C hok Kr<|Xr C U U<|Rm C U U<|R.asg C U U U<|Ad C U U<|X.ret C U U func192 U (by exact .tmp U (.tmp U .nil)) ?_
    exact hret _ _ rfl rfl
   ·have hne:=scan_ne (fun _=>rfl) i1d j2d O O
    rw [part_later hd1e i1d j2d O] at hret
    refine X.skip C.1<|Xs C<|Xd C fun hok=>Dm C 0 hok U U U<|Dm C 1 hok U U U<|Dm C 2 hok U U U<|Dm C 3 hok U U U<|Dm C 4 hok U U U<|Dm C 5 hok U U U<|Dx C 6 hok U U U runUnderlying28 sizeOf3<|D1 C 7 hok U U isAgg3 V (vals_at (k:=j2) O O)<|Dm C 8 hok U U U<|Dm C 9 hok U U U<|Dx C 10 hok U U U runUnderlying28 sizeOf3<|D1 C 11 hok U U isAgg3 V (vals_at (k:=i1) O O)<|Dx C 12 hok U U U runUnderlying28 sizeOf3<|De 13 none [false,false] hok (fun _ _ A hk=>?_)
    refine R.store C U (A.w U U) (A.x U U) (A.x U U) sizeOf3 U U U V (vals_put (k:=i1) O O) (hk undef _ ⟨QFs.nil, ?_⟩)
    refine Dx C 14 hok U U U runUnderlying28 sizeOf3<|De 15 none [] hok (fun _ _ A hk=>?_)
    refine R.store C U (A.w U U) (A.x U U) (A.x U U) sizeOf3 U U U V (vals_put (k:=j2) O Zo) (hk undef _ ⟨QFs.nil, ?_⟩)
    refine D.done C hok Kr<|Xr C U U<|Rm C U U<|Ra C U U U<|R.fixv (t:=96) (v':= .int .i64 ((i1+1:Nat):Int)) U (by rfl)<|Ad C U U<|Xr C U U<|Rm C U U<|R.int C U U U U (b_sub O O)<|R.fixv (t:=98) (v':= .int .i64 ((j2-1:Nat):Int)) U (by(congr 1;omega))<|Ad C U U<|Xs C<|X.block C.1<|X.loopB (ι:=Nat×Nat×Array Int) C.1 (fun s=>a<s.1∧s.1≤s.2.1+1∧s.2.1<b∧s.2.2.size=d.size∧partLoop ltInt a s.1 s.2.1 s.2.2=partLoop ltInt a (i1+1) (j2-1) (swp d1 i1 j2)) (fun s=> [(0, .slice (some ⟨p,0,none⟩) d.size cap),(1, .int .i64 (a:Int)),(10, .int .i64 ((s.1:Nat):Int)),(11, .int .i64 ((s.2.1:Nat):Int))])
     (fun s=>⟨ro,(p, .cells (vals s.2.2++sp).toArray 3 (0,0))::tail⟩) (fun s=>s.2.1+1-s.1) (i1+1,j2-1,swp d1 i1 j2) (fun s=>s.2.1<b∧s.2.2.size=d.size∧a≤s.2.1∧partLoop ltInt a (i1+1) (j2-1) (swp d1 i1 j2)=(s.2.1,s.2.2)) ⟨by show a<i1+1;omega,by show i1+1≤j2-1+1;omega,by show j2-1<b;omega,by rw [swp_sz];exact hd1,rfl⟩ rfl ⟨U,U,U,U,trivial⟩ (fun s hs=>?_) fun s hs hnxM hexM=>?_
    ·obtain⟨i3,j3,d2⟩:=s
     obtain⟨h1,h2,h4,h3⟩:=hs
     simp only at h1 h2 h3 h4⊢
     rw [h3] at hret
     refine Xs C<|Xd C fun hok=>Dm C 0 hok U U U<|Dm C 1 hok U U U<|Dm C 2 hok U U U<|Dm C 3 hok U U U<|Dm C 4 hok U U U<|Dm C 5 hok U U U<|Dx C 6 hok U U U runUnderlying28 sizeOf3<|D1 C 7 hok U U isAgg3 V (vals_at (k:=a) O O)<|Dm C 8 hok U U U<|Dm C 9 hok U U U<|Dx C 10 hok U U U runUnderlying28 sizeOf3<|D1 C 11 hok U U isAgg3 V (vals_at (k:=j3) O O)<|Dx C 12 hok U U U runUnderlying28 sizeOf3<|De 13 none [false,false] hok (fun _ _ A hk=>?_)
     refine R.store C U (A.w U U) (A.x U U) (A.x U U) sizeOf3 U U U V (vals_put (k:=j3) O O) (hk undef _ ⟨QFs.nil, ?_⟩)
     refine Dx C 14 hok U U U runUnderlying28 sizeOf3<|De 15 none [] hok (fun _ _ A hk=>?_)
     refine R.store C U (A.w U U) (A.x U U) (A.x U U) sizeOf3 U U U V (vals_put (k:=a) O Zo) (hk undef _ ⟨QFs.nil, ?_⟩)
     refine D.done C hok Kr<|Xr C U U<|Rm C U U<|R.asg C U U U<|Ad C U U<|X.ret C U U func192 U (by exact .tmp U (.tmp U .nil)) ?_
     exact hret _ _ rfl rfl
    ·obtain⟨i3,j3,d2⟩:=s
     obtain⟨h1,h3,h4,h2,h5⟩:=hs
     simp only at h1 h2 h3 h4 h5 hnxM hexM⊢
     refine X.block C.1<|Xs C<|X.block C.1<|X.loopB (ι:=Nat) C.1 (fun i=>a<i∧i≤j3+1∧i3≤i∧scanUp (fun x=>ltInt x d2[a]!) d2 j3 i=scanUp (fun x=>ltInt x d2[a]!) d2 j3 i3) (fun i=> [(0, .slice (some ⟨p,0,none⟩) d.size cap),(1, .int .i64 (a:Int)),(10, .int .i64 ((i:Nat):Int)),(11, .int .i64 ((j3:Nat):Int))])
      (fun _=>⟨ro,(p, .cells (vals d2++sp).toArray 3 (0,0))::tail⟩) (fun i=>j3+1-i) (i3) (fun i=>a<i∧i≤j3+1∧i3≤i∧i=scanUp (fun x=>ltInt x d2[a]!) d2 j3 i3) ⟨O,O,O,rfl⟩ rfl ⟨U,U,U,U,trivial⟩ (fun i4 hi4=>?_) fun i4 hi4 hnx hex=>?_
     ·obtain⟨i4a,i4b,i4c,i4d⟩:=hi4
      refine Xs C<|X.block C.1<|X.loopB (ι:=Nat) C.1 (fun j=>j<b∧i4≤j+1∧j≤j3∧scanDown (fun x=> !ltInt x d2[a]!) d2 i4 j=scanDown (fun x=> !ltInt x d2[a]!) d2 i4 j3) (fun j=> [(0, .slice (some ⟨p,0,none⟩) d.size cap),(1, .int .i64 (a:Int)),(10, .int .i64 ((i4:Nat):Int)),(11, .int .i64 ((j:Nat):Int))])
       (fun _=>⟨ro,(p, .cells (vals d2++sp).toArray 3 (0,0))::tail⟩) (fun j=>j) (j3) (fun j=>j<b∧i4≤j+1∧j≤j3∧j=scanDown (fun x=> !ltInt x d2[a]!) d2 i4 j3) ⟨O,O,O,rfl⟩ rfl ⟨U,U,U,U,trivial⟩ (fun j5 hj5=>?_) fun j5 hj5 hnx hex=>?_
      ·obtain⟨j5a,j5b,j5c,j5d⟩:=hj5
       refine Xs C<|Xr C U U<|Rm C U U<|Rm C U U<|R.int C U U U U b_gtr<|R.done C<|Xk C U (fun hgt=>?_) (fun hgt=>?_)
       ·refine X.exit C.1 U<|X.weaken ?_ (hexM (i4,j5,d2) ⟨by show j5<b;omega,h2,by show a≤j5;omega,by rw [←h5,Go.Sort.partLoop_eq, ←i4d, ←j5d,if_pos O]⟩)
        exact⟨U,U,U,U,trivial⟩
       ·have hne:=scan_ne (fun _=>rfl) i4d j5d O O
        refine X.skip C.1<|Xs C<|Xd C fun hok=>Dm C 0 hok U U U<|Dm C 1 hok U U U<|Dm C 2 hok U U U<|Dm C 3 hok U U U<|Dm C 4 hok U U U<|Dm C 5 hok U U U<|Dx C 6 hok U U U runUnderlying28 sizeOf3<|D1 C 7 hok U U isAgg3 V (vals_at (k:=j5) O O)<|Dm C 8 hok U U U<|Dm C 9 hok U U U<|Dx C 10 hok U U U runUnderlying28 sizeOf3<|D1 C 11 hok U U isAgg3 V (vals_at (k:=i4) O O)<|Dx C 12 hok U U U runUnderlying28 sizeOf3<|De 13 none [false,false] hok (fun _ _ A hk=>?_)
        refine R.store C U (A.w U U) (A.x U U) (A.x U U) sizeOf3 U U U V (vals_put (k:=i4) O O) (hk undef _ ⟨QFs.nil, ?_⟩)
        refine Dx C 14 hok U U U runUnderlying28 sizeOf3<|De 15 none [] hok (fun _ _ A hk=>?_)
        refine R.store C U (A.w U U) (A.x U U) (A.x U U) sizeOf3 U U U V (vals_put (k:=j5) O Zo) (hk undef _ ⟨QFs.nil, ?_⟩)
        refine D.done C hok Kr<|Xr C U U<|Rm C U U<|Ra C U U U<|Ad C U U<|X.region C U U<|Rm C U U<|R.int C U U U U (b_sub O O)<|Ad C U U<|X.inBlock C.1<|X.weaken ?_ (hnxM (i4+1,j5-1,swp d2 i4 j5) ⟨by show a<i4+1;omega,by show i4+1≤j5-1+1;omega,by show j5-1<b;omega,by rw [swp_sz];exact h2,by rw [←h5,Go.Sort.partLoop_eq (d:=d2), ←i4d, ←j5d,if_neg O]⟩ (by show j5-1+1- (i4+1)<j3+1-i3;omega))
        exact⟨rfl,rfl,by simp [look],congrArg (fun z=>some (Value.int .i64 z)) (by show(j5:Int) -1=((j5-1:Nat):Int);omega),trivial⟩
      ·obtain⟨j5a,j5b,j5c,j5d⟩:=hj5
       refine Xs C<|Xs C<|Xd C fun hok=>Dm C 0 hok U U U<|Dm C 1 hok U U U<|Di C 2 hok U U U U U b_leq<|Dm C 3 hok U U U<|D.fix (t:=118) U (fun hg=>?_) (fun hg=>?_)
       ·simp only [dT] at hg
        refine Dm C 4 hok U U U<|Dm C 5 hok U U U<|Dx C 6 hok U U U runUnderlying28 sizeOf3<|D1 C 7 hok U U isAgg3 V (vals_at (k:=j5) O O)<|Dm C 8 hok U U U<|Dm C 9 hok U U U<|Dx C 10 hok U U U runUnderlying28 sizeOf3<|D1 C 11 hok U U isAgg3 V (vals_at (k:=a) O O)<|De 12 (some 127) [false,false] hok (fun _ _ A hk=>?_)
        refine R.callP C U (A.w U U) (A.x U U) (A.s U U) (less_c hJ _ _ _) (hk _ _ ⟨QFs.nil, ?_⟩)
        refine Dp 13 hok (fun _ _ _ A h=>R.not C U (A.w U U) (A.x U U) h)<|Dp 14 hok (fun _ _ _ A h=>R.pickT C U (A.w U U) (A.x U U) (A.x U U) h)<|D.done C hok Kr<|X.cond C.1 U (fun hl=>?_) (fun hl=>?_)
        ·refine X.skip C.1<|X.block C.1<|X.region C U U<|Rm C U U<|R.int C U U U U (b_sub O O)<|Ad C U U<|X.inBlock C.1<|X.weaken ?_ (hnx (j5-1) ⟨O,O,O, ?_⟩ O)
         ·exact⟨rfl,rfl,rfl,congrArg (fun z=>some (Value.int .i64 z)) O,trivial⟩
         ·exact(scanDown_go (p:=(fun x=> !ltInt x d2[a]!)) O O hl).symm.trans j5d
        ·refine X.exit C.1 U<|X.weaken ?_ (hex j5 ⟨O,O,O,(scanDown_stop (p:=(fun x=> !ltInt x d2[a]!)) (.inr hl)).symm.trans j5d⟩)
         exact⟨U,U,U,U,trivial⟩
       ·simp only [dF] at hg
        refine Du C 4 hok U<|Du C 5 hok U<|Du C 6 hok U<|Du C 7 hok U<|Du C 8 hok U<|Du C 9 hok U<|Du C 10 hok U<|Du C 11 hok U<|Du C 12 hok U<|Du C 13 hok U<|Dp 14 hok (fun _ _ _ A h=>R.pickF C U (A.w U U) (A.x U U) (A.x U U) h)<|D.done C hok Kr<|X.cond C.1 U (fun h=>nomatch h) (fun _=>?_)
        refine X.exit C.1 U<|X.weaken ?_ (hex j5 ⟨O,O,O,(scanDown_stop (p:=(fun x=> !ltInt x d2[a]!)) (.inl O)).symm.trans j5d⟩)
        exact⟨U,U,U,U,trivial⟩
     ·obtain⟨i4a,i4b,i4c,i4d⟩:=hi4
      refine Xs C<|Xs C<|Xd C fun hok=>Dm C 0 hok U U U<|Dm C 1 hok U U U<|Di C 2 hok U U U U U b_leq<|Dm C 3 hok U U U<|D.fix (t:=102) U (fun hg=>?_) (fun hg=>?_)
      ·simp only [dT] at hg
       refine Dm C 4 hok U U U<|Dm C 5 hok U U U<|Dx C 6 hok U U U runUnderlying28 sizeOf3<|D1 C 7 hok U U isAgg3 V (vals_at (k:=i4) O O)<|Dm C 8 hok U U U<|Dm C 9 hok U U U<|Dx C 10 hok U U U runUnderlying28 sizeOf3<|D1 C 11 hok U U isAgg3 V (vals_at (k:=a) O O)<|De 12 (some 111) [false,false] hok (fun _ _ A hk=>?_)
       refine R.callP C U (A.w U U) (A.x U U) (A.s U U) (less_c hJ _ _ _) (hk _ _ ⟨QFs.nil, ?_⟩)
       refine Dp 13 hok (fun _ _ _ A h=>R.pickT C U (A.w U U) (A.x U U) (A.x U U) h)<|D.done C hok Kr<|X.cond C.1 U (fun hl=>?_) (fun hl=>?_)
       ·refine X.skip C.1<|X.block C.1<|X.region C U U<|Rm C U U<|Ra C U U U<|Ad C U U<|X.inBlock C.1<|X.weaken ?_ (hnx (i4+1) ⟨O,O,O, ?_⟩ O)
        ·exact⟨rfl,rfl,by simp [look],rfl,trivial⟩
        ·exact(scanUp_go (p:=(fun x=>ltInt x d2[a]!)) O hl).symm.trans i4d
       ·refine X.exit C.1 U<|X.weaken ?_ (hex i4 ⟨O,O,O,(scanUp_stop (p:=(fun x=>ltInt x d2[a]!)) (.inr hl)).symm.trans i4d⟩)
        exact⟨U,U,U,U,trivial⟩
      ·simp only [dF] at hg
       refine Du C 4 hok U<|Du C 5 hok U<|Du C 6 hok U<|Du C 7 hok U<|Du C 8 hok U<|Du C 9 hok U<|Du C 10 hok U<|Du C 11 hok U<|Du C 12 hok U<|Dp 13 hok (fun _ _ _ A h=>R.pickF C U (A.w U U) (A.x U U) (A.x U U) h)<|D.done C hok Kr<|X.cond C.1 U (fun h=>nomatch h) (fun _=>?_)
       refine X.exit C.1 U<|X.weaken ?_ (hex i4 ⟨O,O,O,(scanUp_stop (p:=(fun x=>ltInt x d2[a]!)) (.inl O)).symm.trans i4d⟩)
       exact⟨U,U,U,U,trivial⟩
  ·obtain⟨j2a,j2b,j2c,j2d⟩:=hj2
   refine Xs C<|Xs C<|Xd C fun hok=>Dm C 0 hok U U U<|Dm C 1 hok U U U<|Di C 2 hok U U U U U b_leq<|Dm C 3 hok U U U<|D.fix (t:=49) U (fun hg=>?_) (fun hg=>?_)
   ·simp only [dT] at hg
    refine Dm C 4 hok U U U<|Dm C 5 hok U U U<|Dx C 6 hok U U U runUnderlying28 sizeOf3<|D1 C 7 hok U U isAgg3 V (vals_at (k:=j2) O O)<|Dm C 8 hok U U U<|Dm C 9 hok U U U<|Dx C 10 hok U U U runUnderlying28 sizeOf3<|D1 C 11 hok U U isAgg3 V (vals_at (k:=a) O O)<|De 12 (some 58) [false,false] hok (fun _ _ A hk=>?_)
    refine R.callP C U (A.w U U) (A.x U U) (A.s U U) (less_c hJ _ _ _) (hk _ _ ⟨QFs.nil, ?_⟩)
    refine Dp 13 hok (fun _ _ _ A h=>R.not C U (A.w U U) (A.x U U) h)<|Dp 14 hok (fun _ _ _ A h=>R.pickT C U (A.w U U) (A.x U U) (A.x U U) h)<|D.done C hok Kr<|X.cond C.1 U (fun hl=>?_) (fun hl=>?_)
    ·refine X.skip C.1<|X.block C.1<|X.region C U U<|Rm C U U<|R.int C U U U U (b_sub O O)<|Ad C U U<|X.inBlock C.1<|X.weaken ?_ (hnx (j2-1) ⟨O,O,O, ?_⟩ O)
     ·exact⟨rfl,rfl,rfl,congrArg (fun z=>some (Value.int .i64 z)) O,trivial⟩
     ·exact(scanDown_go (p:=(fun x=> !ltInt x d1[a]!)) O O hl).symm.trans j2d
    ·refine X.exit C.1 U<|X.weaken ?_ (hex j2 ⟨O,O,O,(scanDown_stop (p:=(fun x=> !ltInt x d1[a]!)) (.inr hl)).symm.trans j2d⟩)
     exact⟨U,U,U,U,trivial⟩
   ·simp only [dF] at hg
    refine Du C 4 hok U<|Du C 5 hok U<|Du C 6 hok U<|Du C 7 hok U<|Du C 8 hok U<|Du C 9 hok U<|Du C 10 hok U<|Du C 11 hok U<|Du C 12 hok U<|Du C 13 hok U<|Dp 14 hok (fun _ _ _ A h=>R.pickF C U (A.w U U) (A.x U U) (A.x U U) h)<|D.done C hok Kr<|X.cond C.1 U (fun h=>nomatch h) (fun _=>?_)
    refine X.exit C.1 U<|X.weaken ?_ (hex j2 ⟨O,O,O,(scanDown_stop (p:=(fun x=> !ltInt x d1[a]!)) (.inl O)).symm.trans j2d⟩)
    exact⟨U,U,U,U,trivial⟩
 ·obtain⟨i1a,i1b,i1c,i1d⟩:=hi1
  refine Xs C<|Xs C<|Xd C fun hok=>Dm C 0 hok U U U<|Dm C 1 hok U U U<|Di C 2 hok U U U U U b_leq<|Dm C 3 hok U U U<|D.fix (t:=33) U (fun hg=>?_) (fun hg=>?_)
  ·simp only [dT] at hg
   refine Dm C 4 hok U U U<|Dm C 5 hok U U U<|Dx C 6 hok U U U runUnderlying28 sizeOf3<|D1 C 7 hok U U isAgg3 V (vals_at (k:=i1) O O)<|Dm C 8 hok U U U<|Dm C 9 hok U U U<|Dx C 10 hok U U U runUnderlying28 sizeOf3<|D1 C 11 hok U U isAgg3 V (vals_at (k:=a) O O)<|De 12 (some 42) [false,false] hok (fun _ _ A hk=>?_)
   refine R.callP C U (A.w U U) (A.x U U) (A.s U U) (less_c hJ _ _ _) (hk _ _ ⟨QFs.nil, ?_⟩)
   refine Dp 13 hok (fun _ _ _ A h=>R.pickT C U (A.w U U) (A.x U U) (A.x U U) h)<|D.done C hok Kr<|X.cond C.1 U (fun hl=>?_) (fun hl=>?_)
   ·refine X.skip C.1<|X.block C.1<|X.region C U U<|Rm C U U<|Ra C U U U<|Ad C U U<|X.inBlock C.1<|X.weaken ?_ (hnx (i1+1) ⟨O,O,O, ?_⟩ O)
    ·exact⟨rfl,rfl,by simp [look],rfl,trivial⟩
    ·exact(scanUp_go (p:=(fun x=>ltInt x d1[a]!)) O hl).symm.trans i1d
   ·refine X.exit C.1 U<|X.weaken ?_ (hex i1 ⟨O,O,O,(scanUp_stop (p:=(fun x=>ltInt x d1[a]!)) (.inr hl)).symm.trans i1d⟩)
    exact⟨U,U,U,U,trivial⟩
  ·simp only [dF] at hg
   refine Du C 4 hok U<|Du C 5 hok U<|Du C 6 hok U<|Du C 7 hok U<|Du C 8 hok U<|Du C 9 hok U<|Du C 10 hok U<|Du C 11 hok U<|Du C 12 hok U<|Dp 13 hok (fun _ _ _ A h=>R.pickF C U (A.w U U) (A.x U U) (A.x U U) h)<|D.done C hok Kr<|X.cond C.1 U (fun h=>nomatch h) (fun _=>?_)
   refine X.exit C.1 U<|X.weaken ?_ (hex i1 ⟨O,O,O,(scanUp_stop (p:=(fun x=>ltInt x d1[a]!)) (.inl O)).symm.trans i1d⟩)
   exact⟨U,U,U,U,trivial⟩
theorem partitionEqual_c{p:Nat}(hn:d.size≤1000000000)(hp1:a≤pv)(hp2:pv<b)(hb:b≤d.size):CallS J 191 p sp d cap [.int .i64 (a:Int), .int .i64 (b:Int), .int .i64 (pv:Int)] ro (.int .i64 ((partitionEqual ltInt d a b pv).1:Int)) (partitionEqual ltInt d a b pv).2:=by
 refine CallS.intro hJ Kr fun c cs tail hret=>?_
 let J:=J
 refine enter_X (n:=84) func191 U U (Nl U) ?_
 have C:Ctx prog main J (bf 191 .normal):=⟨hJ,by decide⟩
 refine Xr C U U<|Ad C U U<|Xs C<|Xd C fun hok=>Dm C 0 hok U U U<|Dm C 1 hok U U U<|Dm C 2 hok U U U<|Dm C 3 hok U U U<|Dm C 4 hok U U U<|Dm C 5 hok U U U<|Dx C 6 hok U U U runUnderlying28 sizeOf3<|D1 C 7 hok U U isAgg3 V (vals_at (k:=pv) O O)<|Dm C 8 hok U U U<|Dm C 9 hok U U U<|Dx C 10 hok U U U runUnderlying28 sizeOf3<|D1 C 11 hok U U isAgg3 V (vals_at (k:=a) O O)<|Dx C 12 hok U U U runUnderlying28 sizeOf3<|De 13 none [false,false] hok (fun _ _ A hk=>?_)
 refine R.store C U (A.w U U) (A.x U U) (A.x U U) sizeOf3 U U U V (vals_put (k:=a) O O) (hk undef _ ⟨QFs.nil, ?_⟩)
 refine Dx C 14 hok U U U runUnderlying28 sizeOf3<|De 15 none [] hok (fun _ _ A hk=>?_)
 refine R.store C U (A.w U U) (A.x U U) (A.x U U) sizeOf3 U U U V (vals_put (k:=pv) O Zo) (hk undef _ ⟨QFs.nil, ?_⟩)
 refine D.done C hok Kr<|Xr C U U ?_
 have hdef:partitionEqual ltInt d a b pv=partEqLoop ltInt a (a+1) (b-1) (swp d a pv):=rfl
 rw [hdef] at hret
 obtain⟨d1,hd1e⟩:∃d1,d1=swp d a pv:=⟨_,rfl⟩
 have hd1:d1.size=d.size:=by rw [hd1e,swp_sz]
 have hd1v:(d.setIfInBounds a d[pv]!).setIfInBounds pv d[a]! =d1:=hd1e.symm
 rw [hd1v]
 rw [←hd1e] at hret
 refine Rm C U U<|Ra C U U U<|R.fixv (t:=26) (v':= .int .i64 ((a+1:Nat):Int)) U (by rfl)<|Rm C U U<|R.int C U U U U (b_sub O O)<|R.fixv (t:=28) (v':= .int .i64 ((b-1:Nat):Int)) U (by(congr 1;omega))<|R.asg C U U U<|Ad C U U<|Xs C<|X.block C.1<|X.loopB (ι:=Nat×Nat×Array Int) C.1 (fun s=>a<s.1∧s.1≤s.2.1+1∧s.2.1<b∧s.2.2.size=d.size∧partEqLoop ltInt a s.1 s.2.1 s.2.2=partEqLoop ltInt a (a+1) (b-1) d1) (fun s=> [(0, .slice (some ⟨p,0,none⟩) d.size cap),(1, .int .i64 (a:Int)),(9, .int .i64 ((s.1:Nat):Int)),(10, .int .i64 ((s.2.1:Nat):Int))])
  (fun s=>⟨ro,(p, .cells (vals s.2.2++sp).toArray 3 (0,0))::tail⟩) (fun s=>s.2.1+1-s.1) (a+1,b-1,d1) (fun s=>s.2.2.size=d.size∧s.1≤d.size∧partEqLoop ltInt a (a+1) (b-1) d1=(s.1,s.2.2)) ⟨by show a<a+1;omega,by show a+1≤b-1+1;omega,by show b-1<b;omega,hd1,rfl⟩ rfl ⟨U,U,U,U,trivial⟩ (fun s hs=>?_) fun s hs hnxM hexM=>?_
 ·obtain⟨i3,j3,d2⟩:=s
  obtain⟨h1,h2,h3⟩:=hs
  simp only at h1 h2 h3⊢
  rw [h3] at hret
  refine Xr C U U<|Rm C U U<|Ad C U U<|X.ret C U U func191 U (by exact .tmp U .nil) ?_
  exact hret _ _ rfl rfl
 ·obtain⟨i3,j3,d2⟩:=s
  obtain⟨h1,h3,h4,h2,h5⟩:=hs
  simp only at h1 h2 h3 h4 h5 hnxM hexM⊢
  refine X.block C.1<|Xs C<|X.block C.1<|X.loopB (ι:=Nat) C.1 (fun i=>a<i∧i≤j3+1∧i3≤i∧scanUp (fun x=> !ltInt d2[a]! x) d2 j3 i=scanUp (fun x=> !ltInt d2[a]! x) d2 j3 i3) (fun i=> [(0, .slice (some ⟨p,0,none⟩) d.size cap),(1, .int .i64 (a:Int)),(9, .int .i64 ((i:Nat):Int)),(10, .int .i64 ((j3:Nat):Int))])
   (fun _=>⟨ro,(p, .cells (vals d2++sp).toArray 3 (0,0))::tail⟩) (fun i=>j3+1-i) (i3) (fun i=>a<i∧i≤j3+1∧i3≤i∧i=scanUp (fun x=> !ltInt d2[a]! x) d2 j3 i3) ⟨O,O,O,rfl⟩ rfl ⟨U,U,U,U,trivial⟩ (fun i4 hi4=>?_) fun i4 hi4 hnx hex=>?_
  ·obtain⟨i4a,i4b,i4c,i4d⟩:=hi4
   refine Xs C<|X.block C.1<|X.loopB (ι:=Nat) C.1 (fun j=>j<b∧i4≤j+1∧j≤j3∧scanDown (fun x=>ltInt d2[a]! x) d2 i4 j=scanDown (fun x=>ltInt d2[a]! x) d2 i4 j3) (fun j=> [(0, .slice (some ⟨p,0,none⟩) d.size cap),(1, .int .i64 (a:Int)),(9, .int .i64 ((i4:Nat):Int)),(10, .int .i64 ((j:Nat):Int))])
    (fun _=>⟨ro,(p, .cells (vals d2++sp).toArray 3 (0,0))::tail⟩) (fun j=>j) (j3) (fun j=>j<b∧i4≤j+1∧j≤j3∧j=scanDown (fun x=>ltInt d2[a]! x) d2 i4 j3) ⟨O,O,O,rfl⟩ rfl ⟨U,U,U,U,trivial⟩ (fun j5 hj5=>?_) fun j5 hj5 hnx hex=>?_
   ·obtain⟨j5a,j5b,j5c,j5d⟩:=hj5
    refine Xs C<|Xr C U U<|Rm C U U<|Rm C U U<|R.int C U U U U b_gtr<|R.done C<|Xk C U (fun hgt=>?_) (fun hgt=>?_)
    ·refine X.exit C.1 U<|X.weaken ?_ (hexM (i4,j5,d2) ⟨h2,by show i4≤d.size;omega,by rw [←h5,Go.Sort.partEqLoop_eq, ←i4d, ←j5d,if_pos O]⟩)
     exact⟨U,U,U,U,trivial⟩
    ·have hne:=scan_ne (fun _=>(Bool.not_not _).symm) i4d j5d O O
     refine X.skip C.1<|Xs C<|Xd C fun hok=>Dm C 0 hok U U U<|Dm C 1 hok U U U<|Dm C 2 hok U U U<|Dm C 3 hok U U U<|Dm C 4 hok U U U<|Dm C 5 hok U U U<|Dx C 6 hok U U U runUnderlying28 sizeOf3<|D1 C 7 hok U U isAgg3 V (vals_at (k:=j5) O O)<|Dm C 8 hok U U U<|Dm C 9 hok U U U<|Dx C 10 hok U U U runUnderlying28 sizeOf3<|D1 C 11 hok U U isAgg3 V (vals_at (k:=i4) O O)<|Dx C 12 hok U U U runUnderlying28 sizeOf3<|De 13 none [false,false] hok (fun _ _ A hk=>?_)
     refine R.store C U (A.w U U) (A.x U U) (A.x U U) sizeOf3 U U U V (vals_put (k:=i4) O O) (hk undef _ ⟨QFs.nil, ?_⟩)
     refine Dx C 14 hok U U U runUnderlying28 sizeOf3<|De 15 none [] hok (fun _ _ A hk=>?_)
     refine R.store C U (A.w U U) (A.x U U) (A.x U U) sizeOf3 U U U V (vals_put (k:=j5) O Zo) (hk undef _ ⟨QFs.nil, ?_⟩)
     refine D.done C hok Kr<|Xr C U U<|Rm C U U<|Ra C U U U<|Ad C U U<|X.region C U U<|Rm C U U<|R.int C U U U U (b_sub O O)<|Ad C U U<|X.inBlock C.1<|X.weaken ?_ (hnxM (i4+1,j5-1,swp d2 i4 j5) ⟨by show a<i4+1;omega,by show i4+1≤j5-1+1;omega,by show j5-1<b;omega,by rw [swp_sz];exact h2,by rw [←h5,Go.Sort.partEqLoop_eq (d:=d2), ←i4d, ←j5d,if_neg O]⟩ (by show j5-1+1- (i4+1)<j3+1-i3;omega))
     exact⟨rfl,rfl,by simp [look],congrArg (fun z=>some (Value.int .i64 z)) (by show(j5:Int) -1=((j5-1:Nat):Int);omega),trivial⟩
   ·obtain⟨j5a,j5b,j5c,j5d⟩:=hj5
    refine Xs C<|Xs C<|Xd C fun hok=>Dm C 0 hok U U U<|Dm C 1 hok U U U<|Di C 2 hok U U U U U b_leq<|Dm C 3 hok U U U<|D.fix (t:=49) U (fun hg=>?_) (fun hg=>?_)
    ·simp only [dT] at hg
     refine Dm C 4 hok U U U<|Dm C 5 hok U U U<|Dx C 6 hok U U U runUnderlying28 sizeOf3<|D1 C 7 hok U U isAgg3 V (vals_at (k:=a) O O)<|Dm C 8 hok U U U<|Dm C 9 hok U U U<|Dx C 10 hok U U U runUnderlying28 sizeOf3<|D1 C 11 hok U U isAgg3 V (vals_at (k:=j5) O O)<|De 12 (some 58) [false,false] hok (fun _ _ A hk=>?_)
     refine R.callP C U (A.w U U) (A.x U U) (A.s U U) (less_c hJ _ _ _) (hk _ _ ⟨QFs.nil, ?_⟩)
     refine Dp 13 hok (fun _ _ _ A h=>R.pickT C U (A.w U U) (A.x U U) (A.x U U) h)<|D.done C hok Kr<|X.cond C.1 U (fun hl=>?_) (fun hl=>?_)
     ·refine X.skip C.1<|X.block C.1<|X.region C U U<|Rm C U U<|R.int C U U U U (b_sub O O)<|Ad C U U<|X.inBlock C.1<|X.weaken ?_ (hnx (j5-1) ⟨O,O,O, ?_⟩ O)
      ·exact⟨rfl,rfl,rfl,congrArg (fun z=>some (Value.int .i64 z)) O,trivial⟩
      ·exact(scanDown_go (p:=(fun x=>ltInt d2[a]! x)) O O hl).symm.trans j5d
     ·refine X.exit C.1 U<|X.weaken ?_ (hex j5 ⟨O,O,O,(scanDown_stop (p:=(fun x=>ltInt d2[a]! x)) (.inr hl)).symm.trans j5d⟩)
      exact⟨U,U,U,U,trivial⟩
    ·simp only [dF] at hg
     refine Du C 4 hok U<|Du C 5 hok U<|Du C 6 hok U<|Du C 7 hok U<|Du C 8 hok U<|Du C 9 hok U<|Du C 10 hok U<|Du C 11 hok U<|Du C 12 hok U<|Dp 13 hok (fun _ _ _ A h=>R.pickF C U (A.w U U) (A.x U U) (A.x U U) h)<|D.done C hok Kr<|X.cond C.1 U (fun h=>nomatch h) (fun _=>?_)
     refine X.exit C.1 U<|X.weaken ?_ (hex j5 ⟨O,O,O,(scanDown_stop (p:=(fun x=>ltInt d2[a]! x)) (.inl O)).symm.trans j5d⟩)
     exact⟨U,U,U,U,trivial⟩
  ·obtain⟨i4a,i4b,i4c,i4d⟩:=hi4
   refine Xs C<|Xs C<|Xd C fun hok=>Dm C 0 hok U U U<|Dm C 1 hok U U U<|Di C 2 hok U U U U U b_leq<|Dm C 3 hok U U U<|D.fix (t:=32) U (fun hg=>?_) (fun hg=>?_)
   ·simp only [dT] at hg
    refine Dm C 4 hok U U U<|Dm C 5 hok U U U<|Dx C 6 hok U U U runUnderlying28 sizeOf3<|D1 C 7 hok U U isAgg3 V (vals_at (k:=a) O O)<|Dm C 8 hok U U U<|Dm C 9 hok U U U<|Dx C 10 hok U U U runUnderlying28 sizeOf3<|D1 C 11 hok U U isAgg3 V (vals_at (k:=i4) O O)<|De 12 (some 41) [false,false] hok (fun _ _ A hk=>?_)
    refine R.callP C U (A.w U U) (A.x U U) (A.s U U) (less_c hJ _ _ _) (hk _ _ ⟨QFs.nil, ?_⟩)
    refine Dp 13 hok (fun _ _ _ A h=>R.not C U (A.w U U) (A.x U U) h)<|Dp 14 hok (fun _ _ _ A h=>R.pickT C U (A.w U U) (A.x U U) (A.x U U) h)<|D.done C hok Kr<|X.cond C.1 U (fun hl=>?_) (fun hl=>?_)
    ·refine X.skip C.1<|X.block C.1<|X.region C U U<|Rm C U U<|Ra C U U U<|Ad C U U<|X.inBlock C.1<|X.weaken ?_ (hnx (i4+1) ⟨O,O,O, ?_⟩ O)
     ·exact⟨rfl,rfl,by simp [look],rfl,trivial⟩
     ·exact(scanUp_go (p:=(fun x=> !ltInt d2[a]! x)) O hl).symm.trans i4d
    ·refine X.exit C.1 U<|X.weaken ?_ (hex i4 ⟨O,O,O,(scanUp_stop (p:=(fun x=> !ltInt d2[a]! x)) (.inr hl)).symm.trans i4d⟩)
     exact⟨U,U,U,U,trivial⟩
   ·simp only [dF] at hg
    refine Du C 4 hok U<|Du C 5 hok U<|Du C 6 hok U<|Du C 7 hok U<|Du C 8 hok U<|Du C 9 hok U<|Du C 10 hok U<|Du C 11 hok U<|Du C 12 hok U<|Du C 13 hok U<|Dp 14 hok (fun _ _ _ A h=>R.pickF C U (A.w U U) (A.x U U) (A.x U U) h)<|D.done C hok Kr<|X.cond C.1 U (fun h=>nomatch h) (fun _=>?_)
    refine X.exit C.1 U<|X.weaken ?_ (hex i4 ⟨O,O,O,(scanUp_stop (p:=(fun x=> !ltInt d2[a]! x)) (.inl O)).symm.trans i4d⟩)
    exact⟨U,U,U,U,trivial⟩
end Go.Lg.B
namespace Go.Lg.B
open Go Go.Conc Go.Lg Go.Proofs Go.Proofs.Tryz
open Go.Sort (ltInt swp scanSorted shiftDown shiftUp partialIns partialInsertionSort fixDown fixUp)
variable {d:Array Int}{b i j:Nat}
theorem scanS_go(h:i<b)(hl:(!ltInt d[i]! d[i-1]!)=true):scanSorted ltInt d b i=scanSorted ltInt d b (i+1):=by rw [scanSorted,if_pos (by simp only [hl,Bool.and_true,decide_eq_true_eq];exact h)]
theorem scanS_stop(h:b≤i∨(!ltInt d[i]! d[i-1]!)=false):scanSorted ltInt d b i=i:=by
 rw [scanSorted,if_neg]
 rcases h with h|h
 ·simp;omega
 ·simp only [h,Bool.and_false];decide
theorem shD_go(hj:1≤j)(h:(!ltInt d[j]! d[j-1]!)=false):shiftDown ltInt j d=shiftDown ltInt (j-1) (swp d j (j-1)):=by
 obtain⟨j,rfl⟩:∃k,j=k+1:=⟨j-1,O⟩
 have h:(!ltInt d[j+1]! d[j]!)=false:=by simpa using h
 simp only [shiftDown]
 rw [if_neg (by rw [h];simp)];rfl
theorem shD_stop(h:j=0∨(!ltInt d[j]! d[j-1]!)=true):shiftDown ltInt j d=d:=by
 cases j with
 |zero=>rfl
 |succ j=>
  have h:(!ltInt d[j+1]! d[j]!)=true:=by simpa using h
  simp only [shiftDown]
  rw [if_pos h]
theorem shU_go(hj:j<b)(h:(!ltInt d[j]! d[j-1]!)=false):shiftUp ltInt b j d=shiftUp ltInt b (j+1) (swp d j (j-1)):=by
 rw [shiftUp,if_pos hj,if_neg (by rw [h];simp)]
theorem shU_stop(h:b≤j∨(!ltInt d[j]! d[j-1]!)=true):shiftUp ltInt b j d=d:=by
 rw [shiftUp]
 rcases h with h|h
 ·rw [if_neg O]
 ·split<;>first|rfl|rw [if_pos h]
variable {main:Bool}{J:Goroutine→Mem→Prop}(hJ:Closed prog main J)
include hJ
theorem partialIns_c{p:Nat}{sp:List Value}{cap a:Nat}{ro:RO}(hn:d.size≤1000000000)(hab:a<b)(hb:b≤d.size):CallS J 189 p sp d cap [.int .i64 (a:Int), .int .i64 (b:Int)] ro (.bool (partialInsertionSort ltInt d a b).2) (partialInsertionSort ltInt d a b).1:=by
 refine CallS.intro hJ Kr fun c cs tail hret=>?_
 let J:=J
 refine enter_X (n:=133) func189 U U (Nl U) ?_
 have C:Ctx prog main J (bf 189 .normal):=⟨hJ,by decide⟩
 refine Xr C U U<|Ad C U U<|Xr C U U<|Rm C U U<|Ra C U U U<|Ad C U U<|Xs C<|Xr C U U<|Ad C U U<|X.block C.1<|X.loopI (ι:=Nat×Nat×Array Int) C.1 (fun s=>s.1≤5∧a+1≤s.2.1∧s.2.1≤b∧s.2.2.size=d.size∧partialIns ltInt a b (5-s.1) s.2.1 s.2.2=partialInsertionSort ltInt d a b) (fun s=> [(0, .slice (some ⟨p,0,none⟩) d.size cap),(1, .int .i64 (a:Int)),(2, .int .i64 (b:Int)),(7, .int .i64 ((s.2.1:Nat):Int)),(8, .int .i64 ((s.1:Nat):Int))])
  (fun s=>⟨ro,(p, .cells (vals s.2.2++sp).toArray 3 (0,0))::tail⟩) (fun s=>5-s.1) (0,a+1,d) ⟨Nat.zero_le _,Nat.le_refl _,by show a+1≤b;omega,rfl,rfl⟩ rfl ⟨rfl,rfl,rfl,by simp [look],rfl,trivial⟩ fun s hs hnext=>?_
 obtain⟨k,i0,d2⟩:=s
 obtain⟨hk,hi1,hi2,h1,hp5⟩:=hs
 simp only at hk hi1 hi2 h1 hp5 hnext⊢
 refine Xs C<|Xr C U U<|Rm C U U<|R.int C U U U U b_lss<|R.done C<|Xk C U (fun hk5=>?_) (fun hk5=>?_)
 ·rw [show 5-k=(5- (k+1))+1 by omega,Go.Sort.partialIns_succ] at hp5
  refine X.skip C.1<|Xs C<|X.block C.1<|Xs C<|X.block C.1<|X.loopB (ι:=Nat) C.1 (fun i=>i0≤i∧i≤b∧scanSorted ltInt d2 b i=scanSorted ltInt d2 b i0) (fun i=> [(0, .slice (some ⟨p,0,none⟩) d.size cap),(1, .int .i64 (a:Int)),(2, .int .i64 (b:Int)),(7, .int .i64 ((i:Nat):Int)),(8, .int .i64 ((k:Nat):Int))])
   (fun _=>⟨ro,(p, .cells (vals d2++sp).toArray 3 (0,0))::tail⟩) (fun i=>b-i) i0 (fun i=>i0≤i∧i≤b∧i=scanSorted ltInt d2 b i0) ⟨Nat.le_refl _,hi2,rfl⟩ rfl ⟨U,U,U,U,U,trivial⟩ (fun i h=>?_) fun i h hns hes=>?_
  ·obtain⟨hia,hib,hic⟩:=h
   rw [←hic] at hp5
   refine Xs C<|Xr C U U<|Rm C U U<|Rm C U U<|R.int C U U U U b_eql<|R.done C<|X.cond C.1 U (fun hend=>?_) (fun hend=>?_)
   ·have hib':i=b:=by simp at hend;omega
    rw [if_pos hib'] at hp5
    rw [←hp5] at hret
    refine Xr C U U<|Ad C U U<|X.ret C U U func189 U (by exact .tmp U .nil) ?_
    exact hret _ _ rfl rfl
   ·have hib':¬i=b:=by simp at hend;omega
    rw [if_neg hib'] at hp5
    refine X.skip C.1<|Xs C<|Xr C U U<|Rm C U U<|Rm C U U<|R.int C U U U U (b_sub O O)<|R.int C U U U U b_lss<|R.done C<|Xk C U (fun h50=>?_) (fun h50=>?_)
    ·rw [if_pos O] at hp5
     rw [←hp5] at hret
     refine Xr C U U<|Ad C U U<|X.ret C U U func189 U (by exact .tmp U .nil) ?_
     exact hret _ _ rfl rfl
    ·rw [if_neg O] at hp5
     refine X.skip C.1<|Xs C<|Xd C fun hok=>Dm C 0 hok U U U<|Dm C 1 hok U U U<|Dm C 2 hok U U U<|Dm C 3 hok U U U<|Di C 4 hok U U U U U (b_sub O O)<|Dm C 5 hok U U U<|Dm C 6 hok U U U<|Di C 7 hok U U U U U (b_sub O O)<|Dx C 8 hok U U U runUnderlying28 sizeOf3<|D1 C 9 hok U U isAgg3 V (vals_at (k:=i-1) O O)<|Dm C 10 hok U U U<|Dm C 11 hok U U U<|Dx C 12 hok U U U runUnderlying28 sizeOf3<|D1 C 13 hok U U isAgg3 V (vals_at (k:=i) O O)<|Dx C 14 hok U U U runUnderlying28 sizeOf3<|De 15 none [false,false] hok (fun _ _ A hk=>?_)
     refine R.store C U (A.w U U) (A.x U U) (A.x U U) sizeOf3 U U U V (vals_put (k:=i) O O) (hk undef _ ⟨QFs.nil, ?_⟩)
     refine Dx C 16 hok U U U runUnderlying28 sizeOf3<|De 17 none [] hok (fun _ _ A hk=>?_)
     refine R.store C U (A.w U U) (A.x U U) (A.x U U) sizeOf3 U U U V (vals_put (k:=i-1) O Zo) (hk undef _ ⟨QFs.nil, ?_⟩)
     refine D.done C hok Kr<|Xs C<|Xr C U U ?_
     have hsw:(d2.setIfInBounds i d2[i-1]!).setIfInBounds (i-1) d2[i]! =(swp d2 i (i-1)):=rfl
     rw [hsw]
     refine Rm C U U<|Rm C U U<|R.int C U U U U (b_sub O O)<|R.int C U U U U b_geq<|R.done C<|Xk C U (fun hd0=>?_) (fun hd0=>?_)
     ·refine Xr C U U<|Rm C U U<|R.int C U U U U (b_sub O O)<|R.fixv (t:=63) (v':= .int .i64 ((i-1:Nat):Int)) U (by(congr 1;omega))<|Ad C U U<|X.block C.1<|X.loopB (ι:=Nat×Array Int) C.1 (fun s=>s.1<b∧s.2.size=d.size∧shiftDown ltInt s.1 s.2=shiftDown ltInt (i-1) (swp d2 i (i-1))) (fun s=> [(0, .slice (some ⟨p,0,none⟩) d.size cap),(1, .int .i64 (a:Int)),(2, .int .i64 (b:Int)),(7, .int .i64 ((i:Nat):Int)),(8, .int .i64 ((k:Nat):Int)),(9, .int .i64 ((s.1:Nat):Int))])
       (fun s=>⟨ro,(p, .cells (vals s.2++sp).toArray 3 (0,0))::tail⟩) (fun s=>s.1) (i-1,(swp d2 i (i-1))) (fun s=>s.2.size=d.size∧shiftDown ltInt (i-1) (swp d2 i (i-1))=s.2) ⟨by show i-1<b;omega,by rw [swp_sz];exact h1,rfl⟩ rfl ⟨U,U,U,U,U,U,trivial⟩ (fun s hs=>?_) fun s hs hnd hed=>?_
      ·obtain⟨j,d3⟩:=s
       obtain⟨h31,h32⟩:=hs
       simp only at h31 h32⊢
       refine Xr C U U<|Rm C U U<|Rm C U U<|R.int C U U U U (b_sub O O)<|R.int C U U U U b_geq<|R.done C<|Xk C U (fun hu=>?_) (fun hu=>?_)
       ·refine Xr C U U<|Rm C U U<|Ra C U U U<|R.fixv (t:=100) (v':= .int .i64 ((i+1:Nat):Int)) U (by rfl)<|Ad C U U<|X.block C.1<|X.loopB (ι:=Nat×Array Int) C.1 (fun s=>i+1≤s.1∧s.1≤b∧s.2.size=d.size∧shiftUp ltInt b s.1 s.2=shiftUp ltInt b (i+1) d3) (fun s=> [(0, .slice (some ⟨p,0,none⟩) d.size cap),(1, .int .i64 (a:Int)),(2, .int .i64 (b:Int)),(7, .int .i64 ((i:Nat):Int)),(8, .int .i64 ((k:Nat):Int)),(10, .int .i64 ((s.1:Nat):Int))])
         (fun s=>⟨ro,(p, .cells (vals s.2++sp).toArray 3 (0,0))::tail⟩) (fun s=>b-s.1) (i+1,d3) (fun s=>s.2.size=d.size∧shiftUp ltInt b (i+1) d3=s.2) ⟨Nat.le_refl _,by show i+1≤b;omega,h31,rfl⟩ rfl ⟨U,U,U,U,U,U,trivial⟩ (fun s hs=>?_) fun s hs hnu heu=>?_
        ·obtain⟨j,d5⟩:=s
         obtain⟨h51,h52⟩:=hs
         simp only at h51 h52⊢
         refine X.inBlock C.1<|X.region C U U<|Rm C U U<|Ra C U U U<|Ad C U U<|X.weaken ?_ (hnext (k+1,i,d5) ⟨by show k+1≤5;omega,by show a+1≤i;omega,by show i≤b;omega, ?_, ?_⟩ (by show 5- (k+1)<5-k;omega))
         ·exact⟨rfl,rfl,rfl,rfl,by simp [look],trivial⟩
         ·show(d5).size=d.size;first|assumption|(rw [swp_sz];assumption)
         ·show partialIns ltInt a b (5- (k+1)) i d5=_
          rw [←hp5];rw [fixDown,if_pos O,h32];rw [fixUp,if_pos O,h52]
        ·obtain⟨j,d4⟩:=s
         obtain⟨g1,g2,g3,g4⟩:=hs
         simp only at g1 g2 g3 g4 hnu heu⊢
         refine Xs C<|Xr C U U<|Rm C U U<|Rm C U U<|R.int C U U U U b_lss<|R.done C<|Xk C U (fun hjb=>?_) (fun hjb=>?_)
         ·refine X.skip C.1<|Xs C<|X.block C.1<|Xs C<|Xs C<|Xd C fun hok=>Dm C 0 hok U U U<|Dm C 1 hok U U U<|Dx C 2 hok U U U runUnderlying28 sizeOf3<|D1 C 3 hok U U isAgg3 V (vals_at (k:=j) O O)<|Dm C 4 hok U U U<|Dm C 5 hok U U U<|Di C 6 hok U U U U U (b_sub O O)<|Dx C 7 hok U U U runUnderlying28 sizeOf3<|D1 C 8 hok U U isAgg3 V (vals_at (k:=j-1) O O)<|De 9 (some 115) [false,false] hok (fun _ _ A hk=>?_)
          refine R.callP C U (A.w U U) (A.x U U) (A.s U U) (less_c hJ _ _ _) (hk _ _ ⟨QFs.nil, ?_⟩)
          refine Dp 10 hok (fun _ _ _ A h=>R.not C U (A.w U U) (A.x U U) h)<|D.done C hok Kr<|X.cond C.1 U (fun hl=>?_) (fun hl=>?_)
          ·refine X.exit C.1 U<|X.weaken ?_ (heu (j,d4) ⟨g3,by rw [←g4,shU_stop (.inr hl)]⟩)
           exact⟨U,U,U,U,U,U,trivial⟩
          ·refine X.skip C.1<|Xd C fun hok=>Dm C 0 hok U U U<|Dm C 1 hok U U U<|Dm C 2 hok U U U<|Dm C 3 hok U U U<|Di C 4 hok U U U U U (b_sub O O)<|Dm C 5 hok U U U<|Dm C 6 hok U U U<|Di C 7 hok U U U U U (b_sub O O)<|Dx C 8 hok U U U runUnderlying28 sizeOf3<|D1 C 9 hok U U isAgg3 V (vals_at (k:=j-1) O O)<|Dm C 10 hok U U U<|Dm C 11 hok U U U<|Dx C 12 hok U U U runUnderlying28 sizeOf3<|D1 C 13 hok U U isAgg3 V (vals_at (k:=j) O O)<|Dx C 14 hok U U U runUnderlying28 sizeOf3<|De 15 none [false,false] hok (fun _ _ A hk=>?_)
           refine R.store C U (A.w U U) (A.x U U) (A.x U U) sizeOf3 U U U V (vals_put (k:=j) O O) (hk undef _ ⟨QFs.nil, ?_⟩)
           refine Dx C 16 hok U U U runUnderlying28 sizeOf3<|De 17 none [] hok (fun _ _ A hk=>?_)
           refine R.store C U (A.w U U) (A.x U U) (A.x U U) sizeOf3 U U U V (vals_put (k:=j-1) O Zo) (hk undef _ ⟨QFs.nil, ?_⟩)
           refine D.done C hok Kr<|X.inBlock C.1<|X.region C U U<|Rm C U U<|Ra C U U U<|Ad C U U<|X.weaken ?_ (hnu (j+1,swp d4 j (j-1)) ⟨by show i+1≤j+1;omega,by show j+1≤b;omega,by rw [swp_sz];exact g3,by rw [←g4,shU_go O hl]⟩ (by show b- (j+1)<b-j;omega))
           exact⟨rfl,rfl,rfl,rfl,rfl,by simp [look],trivial⟩
         ·refine X.exit C.1 U<|X.weaken ?_ (heu (j,d4) ⟨g3,by rw [←g4,shU_stop (.inl O)]⟩)
          exact⟨U,U,U,U,U,U,trivial⟩
       ·refine X.skip C.1<|X.inBlock C.1<|X.region C U U<|Rm C U U<|Ra C U U U<|Ad C U U<|X.weaken ?_ (hnext (k+1,i,d3) ⟨by show k+1≤5;omega,by show a+1≤i;omega,by show i≤b;omega, ?_, ?_⟩ (by show 5- (k+1)<5-k;omega))
        ·exact⟨rfl,rfl,rfl,rfl,by simp [look],trivial⟩
        ·show(d3).size=d.size;first|assumption|(rw [swp_sz];assumption)
        ·show partialIns ltInt a b (5- (k+1)) i d3=_
         rw [←hp5];rw [fixDown,if_pos O,h32];rw [fixUp,if_neg O]
      ·obtain⟨j,d4⟩:=s
       obtain⟨g1,g3,g4⟩:=hs
       simp only at g1 g3 g4 hnd hed⊢
       refine Xs C<|Xr C U U<|Rm C U U<|R.int C U U U U b_geq<|R.done C<|Xk C U (fun hjb=>?_) (fun hjb=>?_)
       ·refine X.skip C.1<|Xs C<|X.block C.1<|Xs C<|Xs C<|Xd C fun hok=>Dm C 0 hok U U U<|Dm C 1 hok U U U<|Dx C 2 hok U U U runUnderlying28 sizeOf3<|D1 C 3 hok U U isAgg3 V (vals_at (k:=j) O O)<|Dm C 4 hok U U U<|Dm C 5 hok U U U<|Di C 6 hok U U U U U (b_sub O O)<|Dx C 7 hok U U U runUnderlying28 sizeOf3<|D1 C 8 hok U U isAgg3 V (vals_at (k:=j-1) O O)<|De 9 (some 77) [false,false] hok (fun _ _ A hk=>?_)
        refine R.callP C U (A.w U U) (A.x U U) (A.s U U) (less_c hJ _ _ _) (hk _ _ ⟨QFs.nil, ?_⟩)
        refine Dp 10 hok (fun _ _ _ A h=>R.not C U (A.w U U) (A.x U U) h)<|D.done C hok Kr<|X.cond C.1 U (fun hl=>?_) (fun hl=>?_)
        ·refine X.exit C.1 U<|X.weaken ?_ (hed (j,d4) ⟨g3,by rw [←g4,shD_stop (.inr hl)]⟩)
         exact⟨U,U,U,U,U,U,trivial⟩
        ·refine X.skip C.1<|Xd C fun hok=>Dm C 0 hok U U U<|Dm C 1 hok U U U<|Dm C 2 hok U U U<|Dm C 3 hok U U U<|Di C 4 hok U U U U U (b_sub O O)<|Dm C 5 hok U U U<|Dm C 6 hok U U U<|Di C 7 hok U U U U U (b_sub O O)<|Dx C 8 hok U U U runUnderlying28 sizeOf3<|D1 C 9 hok U U isAgg3 V (vals_at (k:=j-1) O O)<|Dm C 10 hok U U U<|Dm C 11 hok U U U<|Dx C 12 hok U U U runUnderlying28 sizeOf3<|D1 C 13 hok U U isAgg3 V (vals_at (k:=j) O O)<|Dx C 14 hok U U U runUnderlying28 sizeOf3<|De 15 none [false,false] hok (fun _ _ A hk=>?_)
         refine R.store C U (A.w U U) (A.x U U) (A.x U U) sizeOf3 U U U V (vals_put (k:=j) O O) (hk undef _ ⟨QFs.nil, ?_⟩)
         refine Dx C 16 hok U U U runUnderlying28 sizeOf3<|De 17 none [] hok (fun _ _ A hk=>?_)
         refine R.store C U (A.w U U) (A.x U U) (A.x U U) sizeOf3 U U U V (vals_put (k:=j-1) O Zo) (hk undef _ ⟨QFs.nil, ?_⟩)
         refine D.done C hok Kr<|X.inBlock C.1<|X.region C U U<|Rm C U U<|R.int C U U U U (b_sub O O)<|Ad C U U<|X.weaken ?_ (hnd (j-1,swp d4 j (j-1)) ⟨by show j-1<b;omega,by rw [swp_sz];exact g3,by rw [←g4,shD_go O hl]⟩ (by show j-1<j;omega))
         exact⟨rfl,rfl,rfl,rfl,rfl,congrArg (fun z=>some (Value.int .i64 z)) (by show(j:Int) -1=((j-1:Nat):Int);omega),trivial⟩
       ·refine X.exit C.1 U<|X.weaken ?_ (hed (j,d4) ⟨g3,by rw [←g4,shD_stop (.inl O)]⟩)
        exact⟨U,U,U,U,U,U,trivial⟩
     ·refine X.skip C.1<|Xr C U U<|Rm C U U<|Rm C U U<|R.int C U U U U (b_sub O O)<|R.int C U U U U b_geq<|R.done C<|Xk C U (fun hu=>?_) (fun hu=>?_)
      ·refine Xr C U U<|Rm C U U<|Ra C U U U<|R.fixv (t:=100) (v':= .int .i64 ((i+1:Nat):Int)) U (by rfl)<|Ad C U U<|X.block C.1<|X.loopB (ι:=Nat×Array Int) C.1 (fun s=>i+1≤s.1∧s.1≤b∧s.2.size=d.size∧shiftUp ltInt b s.1 s.2=shiftUp ltInt b (i+1) (swp d2 i (i-1))) (fun s=> [(0, .slice (some ⟨p,0,none⟩) d.size cap),(1, .int .i64 (a:Int)),(2, .int .i64 (b:Int)),(7, .int .i64 ((i:Nat):Int)),(8, .int .i64 ((k:Nat):Int)),(10, .int .i64 ((s.1:Nat):Int))])
        (fun s=>⟨ro,(p, .cells (vals s.2++sp).toArray 3 (0,0))::tail⟩) (fun s=>b-s.1) (i+1,(swp d2 i (i-1))) (fun s=>s.2.size=d.size∧shiftUp ltInt b (i+1) (swp d2 i (i-1))=s.2) ⟨Nat.le_refl _,by show i+1≤b;omega,by rw [swp_sz];exact h1,rfl⟩ rfl ⟨U,U,U,U,U,U,trivial⟩ (fun s hs=>?_) fun s hs hnu heu=>?_
       ·obtain⟨j,d5⟩:=s
        obtain⟨h51,h52⟩:=hs
        simp only at h51 h52⊢
        refine X.inBlock C.1<|X.region C U U<|Rm C U U<|Ra C U U U<|Ad C U U<|X.weaken ?_ (hnext (k+1,i,d5) ⟨by show k+1≤5;omega,by show a+1≤i;omega,by show i≤b;omega, ?_, ?_⟩ (by show 5- (k+1)<5-k;omega))
        ·exact⟨rfl,rfl,rfl,rfl,by simp [look],trivial⟩
        ·show(d5).size=d.size;first|assumption|(rw [swp_sz];assumption)
        ·show partialIns ltInt a b (5- (k+1)) i d5=_
         rw [←hp5];rw [fixDown,if_neg O];rw [fixUp,if_pos O,h52]
       ·obtain⟨j,d4⟩:=s
        obtain⟨g1,g2,g3,g4⟩:=hs
        simp only at g1 g2 g3 g4 hnu heu⊢
        refine Xs C<|Xr C U U<|Rm C U U<|Rm C U U<|R.int C U U U U b_lss<|R.done C<|Xk C U (fun hjb=>?_) (fun hjb=>?_)
        ·refine X.skip C.1<|Xs C<|X.block C.1<|Xs C<|Xs C<|Xd C fun hok=>Dm C 0 hok U U U<|Dm C 1 hok U U U<|Dx C 2 hok U U U runUnderlying28 sizeOf3<|D1 C 3 hok U U isAgg3 V (vals_at (k:=j) O O)<|Dm C 4 hok U U U<|Dm C 5 hok U U U<|Di C 6 hok U U U U U (b_sub O O)<|Dx C 7 hok U U U runUnderlying28 sizeOf3<|D1 C 8 hok U U isAgg3 V (vals_at (k:=j-1) O O)<|De 9 (some 115) [false,false] hok (fun _ _ A hk=>?_)
         refine R.callP C U (A.w U U) (A.x U U) (A.s U U) (less_c hJ _ _ _) (hk _ _ ⟨QFs.nil, ?_⟩)
         refine Dp 10 hok (fun _ _ _ A h=>R.not C U (A.w U U) (A.x U U) h)<|D.done C hok Kr<|X.cond C.1 U (fun hl=>?_) (fun hl=>?_)
         ·refine X.exit C.1 U<|X.weaken ?_ (heu (j,d4) ⟨g3,by rw [←g4,shU_stop (.inr hl)]⟩)
          exact⟨U,U,U,U,U,U,trivial⟩
         ·refine X.skip C.1<|Xd C fun hok=>Dm C 0 hok U U U<|Dm C 1 hok U U U<|Dm C 2 hok U U U<|Dm C 3 hok U U U<|Di C 4 hok U U U U U (b_sub O O)<|Dm C 5 hok U U U<|Dm C 6 hok U U U<|Di C 7 hok U U U U U (b_sub O O)<|Dx C 8 hok U U U runUnderlying28 sizeOf3<|D1 C 9 hok U U isAgg3 V (vals_at (k:=j-1) O O)<|Dm C 10 hok U U U<|Dm C 11 hok U U U<|Dx C 12 hok U U U runUnderlying28 sizeOf3<|D1 C 13 hok U U isAgg3 V (vals_at (k:=j) O O)<|Dx C 14 hok U U U runUnderlying28 sizeOf3<|De 15 none [false,false] hok (fun _ _ A hk=>?_)
          refine R.store C U (A.w U U) (A.x U U) (A.x U U) sizeOf3 U U U V (vals_put (k:=j) O O) (hk undef _ ⟨QFs.nil, ?_⟩)
          refine Dx C 16 hok U U U runUnderlying28 sizeOf3<|De 17 none [] hok (fun _ _ A hk=>?_)
          refine R.store C U (A.w U U) (A.x U U) (A.x U U) sizeOf3 U U U V (vals_put (k:=j-1) O Zo) (hk undef _ ⟨QFs.nil, ?_⟩)
          refine D.done C hok Kr<|X.inBlock C.1<|X.region C U U<|Rm C U U<|Ra C U U U<|Ad C U U<|X.weaken ?_ (hnu (j+1,swp d4 j (j-1)) ⟨by show i+1≤j+1;omega,by show j+1≤b;omega,by rw [swp_sz];exact g3,by rw [←g4,shU_go O hl]⟩ (by show b- (j+1)<b-j;omega))
          exact⟨rfl,rfl,rfl,rfl,rfl,by simp [look],trivial⟩
        ·refine X.exit C.1 U<|X.weaken ?_ (heu (j,d4) ⟨g3,by rw [←g4,shU_stop (.inl O)]⟩)
         exact⟨U,U,U,U,U,U,trivial⟩
      ·refine X.skip C.1<|X.inBlock C.1<|X.region C U U<|Rm C U U<|Ra C U U U<|Ad C U U<|X.weaken ?_ (hnext (k+1,i,(swp d2 i (i-1))) ⟨by show k+1≤5;omega,by show a+1≤i;omega,by show i≤b;omega, ?_, ?_⟩ (by show 5- (k+1)<5-k;omega))
       ·exact⟨rfl,rfl,rfl,rfl,by simp [look],trivial⟩
       ·show((swp d2 i (i-1))).size=d.size;first|assumption|(rw [swp_sz];assumption)
       ·show partialIns ltInt a b (5- (k+1)) i (swp d2 i (i-1))=_
        rw [←hp5];rw [fixDown,if_neg O];rw [fixUp,if_neg O]
  ·obtain⟨hia,hib,hic⟩:=h
   refine Xs C<|Xs C<|Xd C fun hok=>Dm C 0 hok U U U<|Dm C 1 hok U U U<|Di C 2 hok U U U U U b_lss<|Dm C 3 hok U U U<|D.fix (t:=20) U (fun hg=>?_) (fun hg=>?_)
   ·simp only [dT] at hg
    refine Dm C 4 hok U U U<|Dm C 5 hok U U U<|Dx C 6 hok U U U runUnderlying28 sizeOf3<|D1 C 7 hok U U isAgg3 V (vals_at (k:=i) O O)<|Dm C 8 hok U U U<|Dm C 9 hok U U U<|Di C 10 hok U U U U U (b_sub O O)<|Dx C 11 hok U U U runUnderlying28 sizeOf3<|D1 C 12 hok U U isAgg3 V (vals_at (k:=i-1) O O)<|De 13 (some 30) [false,false] hok (fun _ _ A hk=>?_)
    refine R.callP C U (A.w U U) (A.x U U) (A.s U U) (less_c hJ _ _ _) (hk _ _ ⟨QFs.nil, ?_⟩)
    refine Dp 14 hok (fun _ _ _ A h=>R.not C U (A.w U U) (A.x U U) h)<|Dp 15 hok (fun _ _ _ A h=>R.pickT C U (A.w U U) (A.x U U) (A.x U U) h)<|D.done C hok Kr<|X.cond C.1 U (fun hl=>?_) (fun hl=>?_)
    ·refine X.skip C.1<|X.block C.1<|X.region C U U<|Rm C U U<|Ra C U U U<|Ad C U U<|X.inBlock C.1<|X.weaken ?_ (hns (i+1) ⟨O,O,(scanS_go O hl).symm.trans hic⟩ O)
     exact⟨rfl,rfl,rfl,by simp [look],rfl,trivial⟩
    ·refine X.exit C.1 U<|X.weaken ?_ (hes i ⟨O,O,(scanS_stop (.inr hl)).symm.trans hic⟩)
     exact⟨U,U,U,U,U,trivial⟩
   ·simp only [dF] at hg
    refine Du C 4 hok U<|Du C 5 hok U<|Du C 6 hok U<|Du C 7 hok U<|Du C 8 hok U<|Du C 9 hok U<|Du C 10 hok U<|Du C 11 hok U<|Du C 12 hok U<|Du C 13 hok U<|Du C 14 hok U<|Dp 15 hok (fun _ _ _ A h=>R.pickF C U (A.w U U) (A.x U U) (A.x U U) h)<|D.done C hok Kr<|X.cond C.1 U (fun h=>nomatch h) (fun _=>?_)
    refine X.exit C.1 U<|X.weaken ?_ (hes i ⟨O,O,(scanS_stop (.inl O)).symm.trans hic⟩)
    exact⟨U,U,U,U,U,trivial⟩
 ·obtain rfl:k=5:=by omega
  simp only [Nat.sub_self,partialIns] at hp5
  rw [←hp5] at hret
  refine X.exit C.1 U<|Xr C U U<|Ad C U U<|X.ret C U U func189 U (by exact .tmp U .nil) ?_
  exact hret _ _ rfl rfl
end Go.Lg.B
namespace Go.Lg
open Go Go.Conc
section
variable {P:Program}{main:Bool}{J:Goroutine→Mem→Prop}{b:Frame}(C:Ctx P main J b){cs:List Frame}{n:Nat}{ds:List Deferred}{σ:Slots}{k:List Item}{ops:Array Oper}{i:Nat}{rest:List Nat}
 {d:Nat} {ty:TypeId} {pos:String} {af:Array Edge} {g:Option (Nat×Bool)}
include C
theorem R.indexStr{t:TypeId}{x y:Operand}{ik:IntKind}{z:Int}{s:ByteArray}{v:UInt8}{M:Mem}(ho:ops[i]? =some ⟨some d, .index t x y,ty,pos,af,g⟩)(hg:wantedS ops σ ⟨some d, .index t x y,ty,pos,af,g⟩=some true)(hx:ev σ x=some (.string s))
  (hy:ev σ y=some (.int ik z)) (hu:∀w,Sem.run P (Go.underlying t) w= .ok .string w) (h0:0≤z) (hv:s[z.toNat]? =some v)
  (h:R J b cs n ops rest k ds ((d, .int .u8 (v.toNat:Int))::σ) M):R J b cs n ops (i::rest) k ds σ M:=
 R.v C ho hg rfl (fun _ hh _ hk=>by
  unfold execOp;simp only [hh.ev hx,hh.ev hy]
  refine ex_v ?_
  show Sm P M (Instr.index t (.string s) (.int ik z)) _
  unfold Instr.index
  refine Sm.bind (Sm.pure (Sm.bind (Sm.underlying hu ?_)))
  simp only [h0,if_true,hv]
  exact Sm.pure hk) h
end
end Go.Lg
namespace Go.Lg.B
open Go Go.Conc Go.Lg Go.Proofs Go.Proofs.Tryz
open Go.Sort (ltInt swp bitsLen bitsLen_le_iff xorNextN xorNext breakStep breakPatterns)
variable {x y:Nat}{P:Program}{t:TypeId}
def lenTab:ByteArray:=⟨#[0,1,2,2,3,3,3,3,4,4,4,4,4,4,4,4,5,5,5,5,5,5,5,5,5,5,5,5,5,5,5,5,6,6,6,6,6,6,6,6,6,6,6,6,6,6,6,6,6,6,6,6,6,6,6,6,6,6,6,6,6,6,6,6,7,7,7,7,7,7,7,7,7,7,7,7,7,7,7,7,7,7,7,7,7,7,7,7,7,7,7,7,7,7,7,7,7,7,7,7,7,7,7,7,7,7,7,7,7,7,7,7,7,7,7,7,7,7,7,7,7,7,7,7,7,7,7,7,8,8,8,8,8,8,8,8,8,8,8,8,8,8,8,8,8,8,8,8,8,8,8,8,8,8,8,8,8,8,8,8,8,8,8,8,8,8,8,8,8,8,8,8,8,8,8,8,8,8,8,8,8,8,8,8,8,8,8,8,8,8,8,8,8,8,8,8,8,8,8,8,8,8,8,8,8,8,8,8,8,8,8,8,8,8,8,8,8,8,8,8,8,8,8,8,8,8,8,8,8,8,8,8,8,8,8,8,8,8,8,8,8,8,8,8,8,8,8,8,8,8,8,8,8,8,8,8]⟩
def bl(y:Nat):Nat:=if y=0 then 0 else if y<2 then 1 else if y<4 then 2 else if y<8 then 3 else if y<16 then 4 else if y<32 then 5 else if y<64 then 6 else if y<128 then 7 else 8
theorem tab_all:((List.range 256).all fun y=>lenTab[y]? ==some (UInt8.ofNat (bl y)))=true:=by kernel_rfl
theorem bl_eq(h:y<256):bitsLen y=bl y:=by
 have h0:=bitsLen_le_iff y 0
 have h1:=bitsLen_le_iff y 1
 have h2:=bitsLen_le_iff y 2
 have h3:=bitsLen_le_iff y 3
 have h4:=bitsLen_le_iff y 4
 have h5:=bitsLen_le_iff y 5
 have h6:=bitsLen_le_iff y 6
 have h7:=bitsLen_le_iff y 7
 have h8:=bitsLen_le_iff y 8
 simp only [Nat.reducePow] at h0 h1 h2 h3 h4 h5 h6 h7 h8
 unfold bl
 split
 ·omega
 ·split
  ·omega
  ·split
   ·omega
   ·split
    ·omega
    ·split
     ·omega
     ·split
      ·omega
      ·split
       ·omega
       ·split<;>omega
theorem bl_le(y:Nat):bl y≤8:=by
 unfold bl
 repeat' split
 all_goals omega
theorem tab_at{z:Int}(hz:z=(y:Int))(h:y<256):lenTab[z.toNat]? =some (UInt8.ofNat (bitsLen y)):=by
 subst hz
 have:=List.all_eq_true.1 tab_all y (List.mem_range.2 h)
 rw [bl_eq h,Int.toNat_natCast]
 simpa using this
theorem tab_val(h:y<256):((UInt8.ofNat (bitsLen y)).toNat:Int)=(bitsLen y:Int):=by
 have h1:=bl_le y
 rw [bl_eq h,UInt8.toNat_ofNat']
 omega
theorem bitsLen_shift{k:Nat}(h:2^k≤x):bitsLen x=bitsLen (x/2^k)+k:=by
 have hp:=Nat.two_pow_pos k
 have key:∀m,bitsLen x≤m+k↔bitsLen (x/2^k)≤m:=fun m=>by
  rw [bitsLen_le_iff,bitsLen_le_iff,Nat.div_lt_iff_lt_mul hp,Nat.pow_add]
 have h1:=(key (bitsLen (x/2^k))).2 (Nat.le_refl _)
 have h2:k<bitsLen x:=by
  refine Nat.lt_of_not_le fun h3=>?_
  have:=(bitsLen_le_iff x k).1 h3
  omega
 have h3:=(key (bitsLen x-k)).1 O
 omega
theorem b_xorU(hx:x<18446744073709551616)(hy:y<18446744073709551616):∀M K,K (.int .u64 ((x^^^y:Nat):Int)) M→Sm P M (binOp .xor t (.int .u64 (x:Int)) (.int .u64 (y:Int))) K:=fun M K h=>by
 rw [←bits_xor_u64_nat x y hx hy] at h
 unfold binOp;simp only [ne_eq,not_true_eq_false,if_false]
 exact(Sm.pure h:Sm P M (Pure.pure (.int .u64 (bits .xor .u64 (x:Int) (y:Int))):Sem Value) K)
theorem b_andN(hx:x<18446744073709551616)(hy:y<18446744073709551616):∀M K,K (.int .u64 ((x &&& y:Nat):Int)) M→Sm P M (binOp .and t (.int .u64 (x:Int)) (.int .u64 (y:Int))) K:=fun M K h=>by
 rw [←bits_and_u64_nat x y hx hy] at h
 unfold binOp;simp only [ne_eq,not_true_eq_false,if_false]
 exact(Sm.pure h:Sm P M (Pure.pure (.int .u64 (bits .and .u64 (x:Int) (y:Int))):Sem Value) K)
theorem b_shlU{k':IntKind}{n:Nat}(hn:n≤63):∀M K,K (.int .u64 ((x*2^n%18446744073709551616:Nat):Int)) M→Sm P M (binOp .shl t (.int .u64 (x:Int)) (.int k' (n:Int))) K:=fun M K h=>by
 have e:min (n:Int).toNat IntKind.u64.bits=n:=by simp only [IntKind.bits,Int.toNat_natCast];omega
 have e2:IntKind.u64.wrap ((x:Int)*2^n)=((x*2^n%18446744073709551616:Nat):Int):=by
  rw [IntKind.wrap_u64,Int.natCast_emod,Int.natCast_mul,Int.natCast_pow];rfl
 rw [←e2] at h
 unfold binOp Op.shift;simp only [Int.not_lt.2 (Int.natCast_nonneg n),if_false,e];exact Sm.pure h
def stAt(a len modulus idx:Nat)(s:UInt64×Array Int):Nat→UInt64×Array Int
 |0=>s
 |k+1=>breakStep a len modulus (stAt a len modulus idx s k) (idx+k)
theorem stAt_size{a len modulus idx:Nat}{s:UInt64×Array Int}:∀k,(stAt a len modulus idx s k).2.size=s.2.size
 |0=>rfl
 |k+1=>by simp only [stAt,breakStep];rw [swp_sz];exact stAt_size k
theorem b_subU{x y:Int}(h0:0≤x-y)(h1:x-y≤18446744073709551615):∀M K,K (.int .u64 (x-y)) M→Sm P M (binOp .sub t (.int .u64 x) (.int .u64 y)) K:=fun M K h=>by
 unfold binOp;simp only [ne_eq,not_true_eq_false,if_false,Op.intArith,IntWalk.u64_in _ ⟨h0,h1⟩];exact Sm.pure h
theorem wrap_u8(h:y<256):IntKind.u8.wrap (y:Int)=(y:Int):=by rw [IntKind.wrap_u8];omega
variable {main:Bool}{J:Goroutine→Mem→Prop}(hJ:Closed prog main J)
include hJ
theorem len64_c(hx:x≤1000000000)(ro:RO):CallP prog J (fnv 194) [.int .u64 (x:Int)] ro (.int .i64 (bitsLen x:Int)):=by
 have h30:bitsLen x≤30:=(bitsLen_le_iff x 30).2 O
 refine CallP.intro hJ Kr fun c cs tail hret=>enter_X (n:=25) func194 U U (Nl U) ?_
 have C:Ctx prog main J (bf 194 .normal):=⟨hJ,by decide⟩
 refine Xr C U U<|Ad C U U<|Xs C<|Xr C U U<|Rm C U U<|R.int C U U U U b_geq<|R.done C<|X.cond C.1 U (fun q0=>?_) (fun q0=>?_)
 ·simp only [dT] at q0;omega
 ·refine X.skip C.1<|Xs C<|Xr C U U<|Rm C U U<|R.int C U U U U b_geq<|R.done C<|Xk C U (fun q1=>?_) (fun q1=>?_)
  ·have e1:=bitsLen_shift (x:=x) (k:=16) O
   have e1:bitsLen x=bitsLen (x/65536)+16:=e1
   refine Xr C U U<|Rm C U U<|R.shift C U U U U (b_shr Dd Dd O)<|R.fixv (t:=10) (v':= .int .u64 ((x/65536:Nat):Int)) U (by first|rfl|(congr 1;done)|(congr 1;omega))<|Ad C U U<|X.region C U U<|Rm C U U<|Ra C U U U<|Ad C U U<|Xs C<|Xr C U U<|Rm C U U<|R.int C U U U U b_geq<|R.done C<|Xk C U (fun q2=>?_) (fun q2=>?_)
   ·have e2:=bitsLen_shift (x:=(x/65536)) (k:=8) O
    have hz2:(x/65536) /2^8=(x/65536) /256:=rfl
    rw [hz2] at e2
    have hzl:(x/65536) /256<256:=O
    have hzb:bitsLen ((x/65536) /256)≤8:=(bitsLen_le_iff _ 8).2 hzl
    refine Xr C U U<|Rm C U U<|R.shift C U U U U (b_shr Dd Dd O)<|R.fixv (t:=16) (v':= .int .u64 ((((x/65536)) /256:Nat):Int)) U (by first|rfl|(congr 1;done)|(congr 1;omega))<|Ad C U U<|X.region C U U<|Rm C U U<|Ra C U U U<|Ad C U U<|Xr C U U<|Rm C U U<|Rm C U U<|R.convInt C U U U runUnderlying196 runUnderlying5 (wrap_u8 O)<|R.indexStr C U U U U runUnderlying9 O (tab_at U hzl)<|R.fixv (t:=22) (v':= .int .u8 ((bitsLen ((x/65536) /256):Nat):Int)) U (by exact congrArg (Value.int .u8) (tab_val hzl))<|R.convInt C U U U runUnderlying5 runUnderlying3 (wrap64 O O)<|Ra C U U U<|Ad C U U<|Xt C func194<|Hp hret ?_
    simp only [retVal];congr 1;omega
   ·have hzl:(x/65536)<256:=O
    have hzb:bitsLen (x/65536)≤8:=(bitsLen_le_iff _ 8).2 hzl
    refine X.skip C.1<|Xr C U U<|Rm C U U<|Rm C U U<|R.convInt C U U U runUnderlying196 runUnderlying5 (wrap_u8 O)<|R.indexStr C U U U U runUnderlying9 O (tab_at U hzl)<|R.fixv (t:=22) (v':= .int .u8 ((bitsLen ((x/65536)):Nat):Int)) U (by exact congrArg (Value.int .u8) (tab_val hzl))<|R.convInt C U U U runUnderlying5 runUnderlying3 (wrap64 O O)<|Ra C U U U<|Ad C U U<|Xt C func194<|Hp hret ?_
    simp only [retVal];congr 1;omega
  ·have hy:x<65536:=O
   refine X.skip C.1<|Xs C<|Xr C U U<|Rm C U U<|R.int C U U U U b_geq<|R.done C<|Xk C U (fun q2=>?_) (fun q2=>?_)
   ·have e2:=bitsLen_shift (x:=x) (k:=8) O
    have hz2:x/2^8=x/256:=rfl
    rw [hz2] at e2
    have hzl:x/256<256:=O
    have hzb:bitsLen (x/256)≤8:=(bitsLen_le_iff _ 8).2 hzl
    refine Xr C U U<|Rm C U U<|R.shift C U U U U (b_shr Dd Dd O)<|R.fixv (t:=16) (v':= .int .u64 (((x) /256:Nat):Int)) U (by first|rfl|(congr 1;done)|(congr 1;omega))<|Ad C U U<|X.region C U U<|Rm C U U<|Ra C U U U<|Ad C U U<|Xr C U U<|Rm C U U<|Rm C U U<|R.convInt C U U U runUnderlying196 runUnderlying5 (wrap_u8 O)<|R.indexStr C U U U U runUnderlying9 O (tab_at U hzl)<|R.fixv (t:=22) (v':= .int .u8 ((bitsLen (x/256):Nat):Int)) U (by exact congrArg (Value.int .u8) (tab_val hzl))<|R.convInt C U U U runUnderlying5 runUnderlying3 (wrap64 O O)<|Ra C U U U<|Ad C U U<|Xt C func194<|Hp hret ?_
    simp only [retVal];congr 1;omega
   ·have hzl:x<256:=O
    have hzb:bitsLen x≤8:=(bitsLen_le_iff _ 8).2 hzl
    refine X.skip C.1<|Xr C U U<|Rm C U U<|Rm C U U<|R.convInt C U U U runUnderlying196 runUnderlying5 (wrap_u8 O)<|R.indexStr C U U U U runUnderlying9 O (tab_at U hzl)<|R.fixv (t:=22) (v':= .int .u8 ((bitsLen (x):Nat):Int)) U (by exact congrArg (Value.int .u8) (tab_val hzl))<|R.convInt C U U U runUnderlying5 runUnderlying3 (wrap64 O O)<|Ra C U U U<|Ad C U U<|Xt C func194<|Hp hret ?_
    simp only [retVal];congr 1;omega
theorem len_c(hx:x≤1000000000)(ro:RO):CallP prog J (fnv 159) [.int .u64 (x:Int)] ro (.int .i64 (bitsLen x:Int)):=by
 refine CallP.intro hJ Kr fun c cs tail hret=>enter_X (n:=8) func159 U U (Nl U) ?_
 have C:Ctx prog main J (bf 159 .normal):=⟨hJ,by decide⟩
 refine Xr C U U<|Ad C U U<|Xs C<|X.cond C.1 U (fun h=>nomatch h) (fun _=>?_)
 refine X.skip C.1<|Xr C U U<|Rm C U U<|R.callP C U U U U (len64_c hJ O _)<|Ad C U U<|Xt C func159<|Hp hret ?_
 rfl
theorem nextPow_c(hx:x≤1000000000)(ro:RO):CallP prog J (fnv 232) [.int .i64 (x:Int)] ro (.int .u64 ((2^bitsLen x:Nat):Int)):=by
 have h30:bitsLen x≤30:=(bitsLen_le_iff x 30).2 O
 have hp:2^bitsLen x≤2^30:=Nat.pow_le_pow_right Dd h30
 have e1:1*2^bitsLen x%18446744073709551616=2^bitsLen x:=by rw [Nat.one_mul];exact Nat.mod_eq_of_lt O
 refine CallP.intro hJ Kr fun c cs tail hret=>enter_X (n:=7) func232 U U (Nl U) ?_
 have C:Ctx prog main J (bf 232 .normal):=⟨hJ,by decide⟩
 refine Xr C U U<|Ad C U U<|Xr C U U<|Rm C U U<|R.convInt C U U U runUnderlying3 runUnderlying189 (IntWalk.u64_in _ O)<|R.callP C U U U U (len_c hJ O _)<|R.shift C U U U U (b_shlU (x:=1) O)<|R.fixv (t:=6) (v':= .int .u64 ((2^bitsLen x:Nat):Int)) U (by exact congrArg (fun n:Nat=>Value.int .u64 (n:Int)) e1)<|Ad C U U<|Xt C func232<|Hp hret ?_
 rfl
theorem xorshift_c{q:Nat}(hx:x<18446744073709551616)(ro:RO):CallV prog J (fnv 233) [.pointer (some ⟨q,0,none⟩)] ro [(q, .cells [.int .u64 (x:Int)].toArray 292 (0,0))] fun v ro' pre'=>v= .int .u64 (xorNextN x:Int)∧ro'=ro∧pre'= [(q, .cells [.int .u64 (xorNextN x:Int)].toArray 292 (0,0))]:=by
 refine CallV.intro (first:= []) (cap:= []) hJ Kr fun c cs tail hret=>?_
 let J:=J
 obtain⟨xa,hA⟩:∃xa:Nat,xa=x^^^ (x*2^13%18446744073709551616):=⟨_,rfl⟩
 obtain⟨xb,hB⟩:∃xb:Nat,xb=xa^^^ (xa/128):=⟨_,rfl⟩
 obtain⟨xe,hE⟩:∃xe:Nat,xe=xb^^^ (xb*2^17%18446744073709551616):=⟨_,rfl⟩
 have lA:xa<18446744073709551616:=by rw [hA];exact Nat.xor_lt_two_pow (n:=64) O O
 have lB:xb<18446744073709551616:=by rw [hB];exact Nat.xor_lt_two_pow (n:=64) O O
 have hv:xorNextN x=xe:=by rw [hE,hB,hA];rfl
 rw [hv] at hret
 have vA:=congrArg (fun n:Nat=>Value.int .u64 (n:Int)) hA.symm
 have vB:=congrArg (fun n:Nat=>Value.int .u64 (n:Int)) hB.symm
 have vE:=congrArg (fun n:Nat=>Value.int .u64 (n:Int)) hE.symm
 clear hA hB hE hv
 refine enter_X (n:=33) func233 U U (Nl U) ?_
 have C:Ctx prog main J (bf 233 .normal):=⟨hJ,by decide⟩
 refine Xr C U U<|Ad C U U<|Xs C<|Xd C fun hok=>Dm C 0 hok U U U<|Dp 1 hok (fun _ _ _ A h=>R.nilCheck C U (A.w U U) (A.x U U) h)<|D1 C 2 hok U U isAgg292 V U<|Dm C 3 hok U U U<|Dp 4 hok (fun _ _ _ A h=>R.nilCheck C U (A.w U U) (A.x U U) h)<|D1 C 5 hok U U isAgg292 V U<|Dp 6 hok (fun _ _ _ A h=>R.shift C U (A.w U U) (A.x U U) (A.x U U) (b_shlU (n:=13) Dd) h)<|Di C 7 hok U U U U U (b_xorU hx (Nat.mod_lt _ Dd))<|D.fixv (t:=10) (v':= .int .u64 ((xa:Nat):Int)) U (by exact vA)<|Dp 8 hok (fun _ _ _ A h=>R.nilCheck C U (A.w U U) (A.x U U) h)<|De 9 none [false,false] hok (fun _ _ A hk=>?_)
 refine R.store C U (A.w U U) (A.x U U) (A.x U U) sizeOf292 U U U V (.here .nil) (hk undef _ ⟨QFs.nil, ?_⟩)
 refine D.done C hok Kr<|Xs C<|Xd C fun hok=>Dm C 0 hok U U U<|Dp 1 hok (fun _ _ _ A h=>R.nilCheck C U (A.w U U) (A.x U U) h)<|D1 C 2 hok U U isAgg292 V U<|Dm C 3 hok U U U<|Dp 4 hok (fun _ _ _ A h=>R.nilCheck C U (A.w U U) (A.x U U) h)<|D1 C 5 hok U U isAgg292 V U<|Dp 6 hok (fun _ _ _ A h=>R.shift C U (A.w U U) (A.x U U) (A.x U U) (b_shr Dd Dd O) h)<|D.fixv (t:=18) (v':= .int .u64 ((xa/128:Nat):Int)) U (by rfl)<|Di C 7 hok U U U U U (b_xorU lA O)<|D.fixv (t:=19) (v':= .int .u64 ((xb:Nat):Int)) U (by exact vB)<|Dp 8 hok (fun _ _ _ A h=>R.nilCheck C U (A.w U U) (A.x U U) h)<|De 9 none [false,false] hok (fun _ _ A hk=>?_)
 refine R.store C U (A.w U U) (A.x U U) (A.x U U) sizeOf292 U U U V (.here .nil) (hk undef _ ⟨QFs.nil, ?_⟩)
 refine D.done C hok Kr<|Xs C<|Xd C fun hok=>Dm C 0 hok U U U<|Dp 1 hok (fun _ _ _ A h=>R.nilCheck C U (A.w U U) (A.x U U) h)<|D1 C 2 hok U U isAgg292 V U<|Dm C 3 hok U U U<|Dp 4 hok (fun _ _ _ A h=>R.nilCheck C U (A.w U U) (A.x U U) h)<|D1 C 5 hok U U isAgg292 V U<|Dp 6 hok (fun _ _ _ A h=>R.shift C U (A.w U U) (A.x U U) (A.x U U) (b_shlU (n:=17) Dd) h)<|Di C 7 hok U U U U U (b_xorU lB (Nat.mod_lt _ Dd))<|D.fixv (t:=28) (v':= .int .u64 ((xe:Nat):Int)) U (by exact vE)<|Dp 8 hok (fun _ _ _ A h=>R.nilCheck C U (A.w U U) (A.x U U) h)<|De 9 none [false,false] hok (fun _ _ A hk=>?_)
 refine R.store C U (A.w U U) (A.x U U) (A.x U U) sizeOf292 U U U V (.here .nil) (hk undef _ ⟨QFs.nil, ?_⟩)
 refine D.done C hok Kr<|Xr C U U<|Rm C U U<|R.nilCheck C U U U<|Rl C U U isAgg292 V U<|Ad C U U<|X.ret C U U func233 U (by exact .tmp U .nil) ?_
 exact hret _ _ [_] _ (RO.le_refl _) ⟨rfl,rfl,rfl⟩ (.refl _)
theorem breakPatterns_c{p:Nat}{sp:List Value}{d:Array Int}{cap a b:Nat}{ro:RO}(hn:d.size≤1000000000)(hab:a≤b)(hb:b≤d.size):CallS J 186 p sp d cap [.int .i64 (a:Int), .int .i64 (b:Int)] ro (.tuple #[]) (breakPatterns d a b):=by
 refine CallS.intro hJ Kr fun c cs tail hret=>?_
 let J:=J
 refine enter_X (n:=65) func186 U U (Nl U) ?_
 have C:Ctx prog main J (bf 186 .normal):=⟨hJ,by decide⟩
 refine Xr C U U<|Rm C U U<|Rm C U U<|R.int C U U U U (b_sub O O)<|R.fixv (t:=13) (v':= .int .i64 ((b-a:Nat):Int)) U (by(congr 1;omega))<|Ad C U U<|Xr C U U<|Rm C U U<|R.int C U U U U b_geq<|R.done C<|Xk C U (fun h8=>?_) (fun h8=>?_)
 ·obtain⟨len,hlen⟩:∃len,len=b-a:=⟨_,rfl⟩
  obtain⟨idx,hidx⟩:∃idx,idx=a+len/4*2-1:=⟨_,rfl⟩
  obtain⟨md,hmd⟩:∃md,md=2^bitsLen len:=⟨_,rfl⟩
  have hmd2:md≤2*len:=by rw [hmd];exact Go.Sort.two_pow_bitsLen_le O
  have hmd1:1≤md:=by rw [hmd];exact Nat.two_pow_pos _
  have hdef:breakPatterns d a b=(stAt a len md idx (UInt64.ofNat len,d) 3).2:=by
   rw [hmd,hidx,hlen]
   unfold breakPatterns
   simp only [stAt]
   rw [if_pos O,Nat.one_shiftLeft]
   rfl
  rw [hdef] at hret
  rw [←hlen]
  refine Xr C U U<|Rm C U U<|R.convInt C U U U runUnderlying3 runUnderlying292 (IntWalk.u64_in _ O)<|R.alloc C U U zeroValue292 U fun p7=>R.store C U U U U sizeOf292 U U U V (.here .nil)<|R.done C<|Xr C U U<|Rm C U U<|R.callP C U U U U (nextPow_c hJ O _)<|R.fixv (t:=19) (v':= .int .u64 ((md:Nat):Int)) U (by rw [hmd])<|Ad C U U<|Xr C U U<|Rm C U U<|Rm C U U<|R.int C U U U U (b_quoP O O Dd)<|R.int C U U U U (b_mul O O)<|Ra C U U U<|R.int C U U U U (b_sub O O)<|R.fixv (t:=25) (v':= .int .i64 ((idx:Nat):Int)) U (by(congr 1;omega))<|Ad C U U<|X.block C.1 ?_
  have hs0:((UInt64.ofNat len).toNat:Int)=(len:Int):=by rw [UInt64.toNat_ofNat'];omega
  refine X.loopI (ι:=Nat) C.1 (fun k=>k≤3) (fun k=> [(0, .slice (some ⟨p,0,none⟩) d.size cap),(1, .int .i64 (a:Int)),(6, .int .i64 (len:Int)),(7, .pointer (some ⟨p7,0,none⟩)),(8, .int .u64 (md:Int)),(9, .int .i64 ((idx+k:Nat):Int))])
   (fun k=>⟨ro,(p7, .cells [.int .u64 ((stAt a len md idx (UInt64.ofNat len,d) k).1.toNat:Int)].toArray 292 (0,0))::(p, .cells (vals (stAt a len md idx (UInt64.ofNat len,d) k).2++sp).toArray 3 (0,0))::tail⟩) (fun k=>3-k) 0 Dd (by simp only [stAt,hs0]) ⟨U,U,U,U,U,U,trivial⟩ fun k hk hnext=>?_
  have hgo:=hnext (k+1)
  have hsz:=stAt_size (a:=a) (len:=len) (modulus:=md) (idx:=idx) (s:=(UInt64.ofNat len,d)) k
  simp only at hgo hsz
  rw [stAt,breakStep] at hgo
  generalize hst:stAt a len md idx (UInt64.ofNat len,d) k=st at hgo hsz⊢
  simp only [Go.Sort.xorNext_toNat] at hgo
  have hrlt:=Go.Sort.xorNextN_lt st.1.toNat st.1.toNat_lt
  have hcall:=xorshift_c hJ (x:=st.1.toNat) (q:=p7) st.1.toNat_lt ro
  generalize xorNextN st.1.toNat=rr at hgo hrlt hcall
  have hov:rr &&& (md-1)≤md-1:=Nat.and_le_right
  refine Xs C<|Xr C U U<|Rm C U U<|Rm C U U<|Rm C U U<|R.int C U U U U (b_quoP O O Dd)<|R.int C U U U U (b_mul O O)<|Ra C U U U<|Ra C U U U<|R.int C U U U U b_leq<|R.done C<|Xk C U (fun hk2=>?_) (fun hk2=>?_)
  ·refine X.skip C.1<|Xs C<|X.block C.1<|Xr C U U<|R.call C U U U U U hcall fun v1 ro1 pre1 hle1 hp1=>?_
   obtain⟨rfl,rfl,rfl⟩:=hp1
   obtain⟨o0,ho0⟩:∃o0,o0=rr &&& (md-1):=⟨_,rfl⟩
   rw [←ho0] at hgo hov
   refine Rm C U U<|R.int C U U U U (b_subU O O)<|R.fixv (t:=38) (v':= .int .u64 ((md-1:Nat):Int)) U (by(congr 1;omega))<|R.int C U U U U (b_andN hrlt O)<|R.fixv (t:=39) (v':= .int .u64 ((o0:Nat):Int)) U (by rw [ho0])<|R.convInt C U U U runUnderlying189 runUnderlying3 (wrap64 O O)<|Ad C U U<|Xs C<|Xr C U U<|Rm C U U<|Rm C U U<|R.int C U U U U b_geq<|R.done C<|Xk C U (fun hge=>?_) (fun hge=>?_)
   ·rw [if_pos O] at hgo
    refine X.region C U U<|Rm C U U<|Rm C U U<|R.int C U U U U (b_sub O O)<|Ad C U U<|Xd C fun hok=>Dm C 0 hok U U U<|Dm C 1 hok U U U<|Dm C 2 hok U U U<|Dm C 3 hok U U U<|Dm C 4 hok U U U<|Di C 5 hok U U U U U (b_add O O)<|Dm C 6 hok U U U<|Dm C 7 hok U U U<|Dm C 8 hok U U U<|Di C 9 hok U U U U U (b_add O O)<|Dx C 10 hok U U U runUnderlying28 sizeOf3<|D1 C 11 hok U U isAgg3 V (vals_at (k:=a+(o0-len)) O O)<|Dm C 12 hok U U U<|Dm C 13 hok U U U<|Dx C 14 hok U U U runUnderlying28 sizeOf3<|D1 C 15 hok U U isAgg3 V (vals_at (k:=idx+k) O O)<|Dx C 16 hok U U U runUnderlying28 sizeOf3<|De 17 none [false,false] hok (fun _ _ A hk=>?_)
    refine R.store C U (A.w U U) (A.x U U) (A.x U U) sizeOf3 U U U V (vals_put (k:=idx+k) O O) (hk undef _ ⟨QFs.nil, ?_⟩)
    refine Dx C 18 hok U U U runUnderlying28 sizeOf3<|De 19 none [] hok (fun _ _ A hk=>?_)
    refine R.store C U (A.w U U) (A.x U U) (A.x U U) sizeOf3 U U U V (vals_put (k:=a+(o0-len)) O Zo) (hk undef _ ⟨QFs.nil, ?_⟩)
    refine D.done C hok Kr<|X.inBlock C.1<|X.region C U U<|Rm C U U<|Ra C U U U<|Ad C U U<|X.weaken ?_ (hgo O O)
    exact⟨rfl,rfl,rfl,rfl,rfl,congrArg (fun z=>some (Value.int .i64 z)) O,trivial⟩
   ·rw [if_neg O] at hgo
    refine X.skip C.1<|Xd C fun hok=>Dm C 0 hok U U U<|Dm C 1 hok U U U<|Dm C 2 hok U U U<|Dm C 3 hok U U U<|Dm C 4 hok U U U<|Di C 5 hok U U U U U (b_add O O)<|Dm C 6 hok U U U<|Dm C 7 hok U U U<|Dm C 8 hok U U U<|Di C 9 hok U U U U U (b_add O O)<|Dx C 10 hok U U U runUnderlying28 sizeOf3<|D1 C 11 hok U U isAgg3 V (vals_at (k:=a+(o0)) O O)<|Dm C 12 hok U U U<|Dm C 13 hok U U U<|Dx C 14 hok U U U runUnderlying28 sizeOf3<|D1 C 15 hok U U isAgg3 V (vals_at (k:=idx+k) O O)<|Dx C 16 hok U U U runUnderlying28 sizeOf3<|De 17 none [false,false] hok (fun _ _ A hk=>?_)
    refine R.store C U (A.w U U) (A.x U U) (A.x U U) sizeOf3 U U U V (vals_put (k:=idx+k) O O) (hk undef _ ⟨QFs.nil, ?_⟩)
    refine Dx C 18 hok U U U runUnderlying28 sizeOf3<|De 19 none [] hok (fun _ _ A hk=>?_)
    refine R.store C U (A.w U U) (A.x U U) (A.x U U) sizeOf3 U U U V (vals_put (k:=a+(o0)) O Zo) (hk undef _ ⟨QFs.nil, ?_⟩)
    refine D.done C hok Kr<|X.inBlock C.1<|X.region C U U<|Rm C U U<|Ra C U U U<|Ad C U U<|X.weaken ?_ (hgo O O)
    exact⟨rfl,rfl,rfl,rfl,rfl,congrArg (fun z=>some (Value.int .i64 z)) O,trivial⟩
  ·obtain rfl:k=3:=by omega
   refine X.exit C.1 U<|X.drop C.1 (own':=_::tail) (List.sublist_cons_self _ _)<|X.fall C U U func186 U (by exact .nil) ?_
   exact hret _ _ rfl (by rw [hst])
 ·have hdef:breakPatterns d a b=d:=by
   unfold breakPatterns
   simp only
   rw [if_neg O]
  rw [hdef] at hret
  refine X.skip C.1<|X.fall C U U func186 U (by exact .nil) ?_
  exact hret _ _ rfl rfl
end Go.Lg.B
namespace Go.Lg.B
open Go Go.Conc Go.Lg Go.Proofs Go.Proofs.Tryz
open Go.Sort (ltInt swp bitsLen SWO pdq pdq_small pdq_heap pdq_done pdq_eq pdq_left pdq_right rd_facts rd_dec rd_not rd_pi_yes rd_pi_no rd_c partitionEqual partition choosePivot Hint)
variable {a b cap lim m n p:Nat}{sp:List Value}{d rr:Array Int}{ro:RO}{wb wp:Bool}{cs:List Frame}{tail:List (Nat×Obj)}{σ:Slots}{c:Frame}{h:Hint}
noncomputable def b158:Code:=Tryz.f158.body.getD .skip
noncomputable def e0:Code:=cB (cB (cB (cR (cR b158))))
noncomputable def e4:Code:=cR (cR (cR (cR e0)))
noncomputable def e6:Code:=cR (cR e4)
noncomputable def e7:Code:=cR e6
noncomputable def lb158:Code:=cB (cB (cR (cR b158)))
def sl158(p n cap a b l:Nat)(wb wp:Bool):Slots:= [(0, .slice (some ⟨p,0,none⟩) n cap),(1, .int .i64 (a:Int)),(2, .int .i64 (b:Int)),(3, .int .i64 (l:Int)),(8, .bool wb),(9, .bool wp)]
def Nx158(J:Goroutine→Mem→Prop)(cs:List Frame)(ro:RO)(tail:List (Nat×Obj))(p n cap:Nat)(sp:List Value)(m:Nat)(rr:Array Int):Prop:=
 ∀ (a b l:Nat) (wb wp:Bool) (d:Array Int),a≤b→b≤n→d.size=n→l≤1000→Go.Sort.Below ltInt a b d→pdq ltInt d a b l wb wp=rr→b-a<m→X J (bf 158 .normal) cs 134 [.inLoop lb158, .inBlock 0] [] (sl158 p n cap a b l wb wp) ⟨ro,(p, .cells (vals d++sp).toArray 3 (0,0))::tail⟩
def Ih158(J:Goroutine→Mem→Prop)(ro:RO)(p n cap:Nat)(sp:List Value)(m:Nat):Prop:=
 ∀ (a b l:Nat) (d:Array Int),a≤b→b≤n→d.size=n→l≤1000→Go.Sort.Below ltInt a b d→b-a<m→
  CallV prog J (fnv 158) [.slice (some ⟨p,0,none⟩) n cap, .int .i64 (a:Int), .int .i64 (b:Int), .int .i64 (l:Int)] ro [(p, .cells (vals d++sp).toArray 3 (0,0))] fun v' ro' pre'=>v'= .tuple #[]∧ro'=ro∧pre'= [(p, .cells (vals (pdq ltInt d a b l true true)++sp).toArray 3 (0,0))]
theorem callS_n{J:Goroutine→Mem→Prop}{f:FuncId}{d':Array Int}{args:List Value}{v:Value}(h:CallS J f p sp d cap args ro v d')(hn:d.size=n):
  CallV prog J (fnv f) (.slice (some ⟨p,0,none⟩) n cap::args) ro [(p, .cells (vals d++sp).toArray 3 (0,0))] fun v' ro' pre'=>v'=v∧ro'=ro∧pre'= [(p, .cells (vals d'++sp).toArray 3 (0,0))]:=by subst hn;exact h
theorem pdq_sz{l:Nat}(hab:a≤b)(hb:b≤d.size)(hB:Go.Sort.Below ltInt a b d):Go.Sort.PermIn a b d (pdq ltInt d a b l wb wp)∧Go.Sort.SortedIn ltInt a b (pdq ltInt d a b l wb wp):=
 Go.Sort.pdq_holds Go.Sort.insertionSort_holds Go.Sort.heapSort_holds Go.Sort.partialInsertionSort_holds (Go.Sort.partition_holds _) (Go.Sort.partitionEqual_holds _) Go.Sort.reverseRange_holds Go.Sort.swo_ltInt d a b l wb wp hab hb hB
variable {main:Bool}{J:Goroutine→Mem→Prop}(hJ:Closed prog main J)
include hJ
theorem pdq3{pv:Nat}(hn:n≤1000000000)(ha:a<b)(hb:b≤n)(hd:d.size=n)(hB:Go.Sort.Below ltInt a b d)(hp1:a≤pv)(hp2:pv<b)(hlim:lim≤1000)(hm:b-a≤m)
  (nx:Nx158 J cs ro tail p n cap sp (b-a) rr) (ih:Ih158 J ro p n cap sp m)
  (h1:(decide (a>0) && !ltInt d[a-1]! d[pv]!)=true→pdq ltInt (partitionEqual ltInt d a b pv).2 (partitionEqual ltInt d a b pv).1 b lim wb wp=rr)
  (h2:(decide (a>0) && !ltInt d[a-1]! d[pv]!)=false→(partition ltInt d a b pv).1-a<b- (partition ltInt d a b pv).1→pdq ltInt (pdq ltInt (partition ltInt d a b pv).2.2 a (partition ltInt d a b pv).1 lim true true) ((partition ltInt d a b pv).1+1) b lim (decide ((partition ltInt d a b pv).1-a≥ (b-a) /8)) (partition ltInt d a b pv).2.1=rr)
  (h3:(decide (a>0) && !ltInt d[a-1]! d[pv]!)=false→¬(partition ltInt d a b pv).1-a<b- (partition ltInt d a b pv).1→pdq ltInt (pdq ltInt (partition ltInt d a b pv).2.2 ((partition ltInt d a b pv).1+1) b lim true true) a (partition ltInt d a b pv).1 lim (decide (b- (partition ltInt d a b pv).1≥ (b-a) /8)) (partition ltInt d a b pv).2.1=rr)
  (hσ:keeps σ ((10, .int .i64 ((b-a:Nat):Int))::(11, .int .i64 (pv:Int))::sl158 p n cap a b lim wb wp)):
  X J (bf 158 .normal) cs 134 [.code e7, .inBlock 1, .inLoop lb158, .inBlock 0] [] σ ⟨ro,(p, .cells (vals d++sp).toArray 3 (0,0))::tail⟩:=by
 refine X.weaken hσ ?_
 have C:Ctx prog main J (bf 158 .normal):=⟨hJ,by decide⟩
 unfold sl158
 refine Xs C<|Xs C<|Xd C fun hok=>Dm C 0 hok U U U<|Di C 1 hok U U U U U b_gtr<|Dm C 2 hok U U U<|D.fix (t:=75) U (fun hg=>?_) (fun hg=>?_)
 ·simp only [dT] at hg
  refine Dm C 3 hok U U U<|Dm C 4 hok U U U<|Di C 5 hok U U U U U (b_sub O O)<|Dx C 6 hok U U U runUnderlying28 sizeOf3<|D1 C 7 hok U U isAgg3 V (vals_at (k:=a-1) O O)<|Dm C 8 hok U U U<|Dm C 9 hok U U U<|Dx C 10 hok U U U runUnderlying28 sizeOf3<|D1 C 11 hok U U isAgg3 V (vals_at (k:=pv) O O)<|De 12 (some 85) [false,false] hok (fun _ _ A hk=>?_)
  refine R.callP C U (A.w U U) (A.x U U) (A.s U U) (less_c hJ _ _ _) (hk _ _ ⟨QFs.nil, ?_⟩)
  refine Dp 13 hok (fun _ _ _ A h=>R.not C U (A.w U U) (A.x U U) h)<|Dp 14 hok (fun _ _ _ A h=>R.pickT C U (A.w U U) (A.x U U) (A.x U U) h)<|D.done C hok Kr<|X.cond C.1 U (fun hc=>?_) (fun hc=>?_)
  ·have hT:(decide (a>0) && !ltInt d[a-1]! d[pv]!)=true:=by rw [hc,Bool.and_true,decide_eq_true_eq];omega
   have hpc:=callS_n (partitionEqual_c hJ (p:=p) (sp:=sp) (d:=d) (cap:=cap) (a:=a) (b:=b) (pv:=pv) (ro:=ro) O hp1 hp2 O) hd
   obtain⟨mid,d4,hx⟩:∃mid d4,partitionEqual ltInt d a b pv=(mid,d4):=⟨_,_,rfl⟩
   obtain⟨g1,g2,g3,g4,_⟩:=Go.Sort.round_eq Go.Sort.swo_ltInt (Go.Sort.partitionEqual_holds _) O hp1 hp2 O hB (by simpa using hc) hx
   have h1:=h1 hT
   rw [hx] at hpc h1
   simp only at hpc h1
   refine Xr C U U<|Rm C U U<|Rm C U U<|Rm C U U<|Rm C U U<|R.call C U U U U U hpc fun v1 ro1 pre1 hle1 hq1=>?_
   obtain⟨rfl,rfl,rfl⟩:=hq1
   refine Ad C U U<|Xr C U U<|Rm C U U<|Ad C U U<|X.exit C.1 U<|X.weaken ?_ (nx mid b lim wb wp d4 g2 hb O hlim g4 h1 O)
   exact⟨U,U,U,U,U,U,trivial⟩
  ·have hF:(decide (a>0) && !ltInt d[a-1]! d[pv]!)=false:=by rw [hc,Bool.and_false]
   have hpc:=callS_n (partition_c hJ (p:=p) (sp:=sp) (d:=d) (cap:=cap) (a:=a) (b:=b) (pv:=pv) (ro:=ro) O hp1 hp2 O) hd
   obtain⟨mid,ap,d4,hx⟩:∃mid ap d4,partition ltInt d a b pv=(mid,ap,d4):=⟨_,_,_,rfl⟩
   obtain⟨g1,g2,g3,g4,g5,g6,g7⟩:=Go.Sort.round_part Go.Sort.swo_ltInt (Go.Sort.partition_holds _) hp1 hp2 O hB hx
   rw [hx] at hpc h2 h3
   have h2:=h2 hF
   have h3:=h3 hF
   simp only at hpc h2 h3
   refine X.skip C.1<|Xr C U U<|Rm C U U<|Rm C U U<|Rm C U U<|Rm C U U<|R.call C U U U U U hpc fun v1 ro1 pre1 hle1 hq1=>?_
   obtain⟨rfl,rfl,rfl⟩:=hq1
   refine Rm C U U<|R.ext C U U U U<|R.ext C U U U U<|R.asg C U U U<|Ad C U U<|Xr C U U<|Rm C U U<|Ad C U U<|Xr C U U<|Rm C U U<|Rm C U U<|R.int C U U U U (b_sub O O)<|Rm C U U<|Rm C U U<|R.int C U U U U (b_sub O O)<|R.asg C U U U<|Ad C U U<|Xr C U U<|Rm C U U<|R.int C U U U U (b_quoP O O Dd)<|Ad C U U<|Xr C U U<|Rm C U U<|Rm C U U<|R.int C U U U U b_lss<|R.done C<|Xk C U (fun hlt=>?_) (fun hlt=>?_)
   ·have hpd:=pdq_sz (d:=d4) (l:=lim) (wb:=true) (wp:=true) g1 O g4
    have hgl:=(g6 _ hpd.1 hpd.2).1
    have hcall:=ih a mid lim d4 g1 O O hlim g4 O
    refine Xr C U U<|Rm C U U<|Rm C U U<|R.int C U U U U b_geq<|R.fixv (t:=116) (v':= .bool (decide (mid-a≥ (b-a) /8))) U (by(congr 1;exact decide_eq_decide.2 O))<|Ad C U U<|Xr C U U<|Rm C U U<|Rm C U U<|Rm C U U<|Rm C U U<|R.call C U U U U U hcall fun v1 ro1 pre1 hle1 hq1=>R.done C<|X.region C U U ?_
    obtain⟨rfl,rfl,rfl⟩:=hq1
    refine Rm C U U<|Ra C U U U<|Ad C U U<|X.inBlock C.1<|X.weaken ?_ (nx (mid+1) b lim _ ap _ O O (by rw [hpd.1.1];omega) hlim hgl (h2 O) O)
    exact⟨rfl,by simp [look],rfl,rfl,rfl,rfl,trivial⟩
   ·have hpd:=pdq_sz (d:=d4) (a:=mid+1) (b:=b) (l:=lim) (wb:=true) (wp:=true) O O g5
    have hgr:=(g7 _ hpd.1 hpd.2).1
    have hcall:=ih (mid+1) b lim d4 O O O hlim g5 O
    refine Xr C U U<|Rm C U U<|Rm C U U<|R.int C U U U U b_geq<|R.fixv (t:=126) (v':= .bool (decide (b-mid≥ (b-a) /8))) U (by(congr 1;exact decide_eq_decide.2 O))<|Ad C U U<|Xr C U U<|Rm C U U<|Rm C U U<|Ra C U U U<|R.fixv (t:=129) (v':= .int .i64 ((mid+1:Nat):Int)) U (by rfl)<|Rm C U U<|Rm C U U<|R.call C U U U U U hcall fun v1 ro1 pre1 hle1 hq1=>R.done C<|X.region C U U ?_
    obtain⟨rfl,rfl,rfl⟩:=hq1
    refine Rm C U U<|Ad C U U<|X.inBlock C.1<|X.weaken ?_ (nx a mid lim _ ap _ O O (by rw [hpd.1.1];omega) hlim hgr (h3 O) O)
    exact⟨U,U,U,U,U,U,trivial⟩
 ·simp only [dF] at hg
  have hF:(decide (a>0) && !ltInt d[a-1]! d[pv]!)=false:=by rw [decide_eq_false O,Bool.false_and]
  have hpc:=callS_n (partition_c hJ (p:=p) (sp:=sp) (d:=d) (cap:=cap) (a:=a) (b:=b) (pv:=pv) (ro:=ro) O hp1 hp2 O) hd
  obtain⟨mid,ap,d4,hx⟩:∃mid ap d4,partition ltInt d a b pv=(mid,ap,d4):=⟨_,_,_,rfl⟩
  obtain⟨g1,g2,g3,g4,g5,g6,g7⟩:=Go.Sort.round_part Go.Sort.swo_ltInt (Go.Sort.partition_holds _) hp1 hp2 O hB hx
  rw [hx] at hpc h2 h3
  have h2:=h2 hF
  have h3:=h3 hF
  simp only at hpc h2 h3
  refine Du C 3 hok U<|Du C 4 hok U<|Du C 5 hok U<|Du C 6 hok U<|Du C 7 hok U<|Du C 8 hok U<|Du C 9 hok U<|Du C 10 hok U<|Du C 11 hok U<|Du C 12 hok U<|Du C 13 hok U<|Dp 14 hok (fun _ _ _ A h=>R.pickF C U (A.w U U) (A.x U U) (A.x U U) h)<|D.done C hok Kr<|X.cond C.1 U (fun h=>nomatch h) (fun _=>?_)
  refine X.skip C.1<|Xr C U U<|Rm C U U<|Rm C U U<|Rm C U U<|Rm C U U<|R.call C U U U U U hpc fun v1 ro1 pre1 hle1 hq1=>?_
  obtain⟨rfl,rfl,rfl⟩:=hq1
  refine Rm C U U<|R.ext C U U U U<|R.ext C U U U U<|R.asg C U U U<|Ad C U U<|Xr C U U<|Rm C U U<|Ad C U U<|Xr C U U<|Rm C U U<|Rm C U U<|R.int C U U U U (b_sub O O)<|Rm C U U<|Rm C U U<|R.int C U U U U (b_sub O O)<|R.asg C U U U<|Ad C U U<|Xr C U U<|Rm C U U<|R.int C U U U U (b_quoP O O Dd)<|Ad C U U<|Xr C U U<|Rm C U U<|Rm C U U<|R.int C U U U U b_lss<|R.done C<|Xk C U (fun hlt=>?_) (fun hlt=>?_)
  ·have hpd:=pdq_sz (d:=d4) (l:=lim) (wb:=true) (wp:=true) g1 O g4
   have hgl:=(g6 _ hpd.1 hpd.2).1
   have hcall:=ih a mid lim d4 g1 O O hlim g4 O
   refine Xr C U U<|Rm C U U<|Rm C U U<|R.int C U U U U b_geq<|R.fixv (t:=116) (v':= .bool (decide (mid-a≥ (b-a) /8))) U (by(congr 1;exact decide_eq_decide.2 O))<|Ad C U U<|Xr C U U<|Rm C U U<|Rm C U U<|Rm C U U<|Rm C U U<|R.call C U U U U U hcall fun v1 ro1 pre1 hle1 hq1=>R.done C<|X.region C U U ?_
   obtain⟨rfl,rfl,rfl⟩:=hq1
   refine Rm C U U<|Ra C U U U<|Ad C U U<|X.inBlock C.1<|X.weaken ?_ (nx (mid+1) b lim _ ap _ O O (by rw [hpd.1.1];omega) hlim hgl (h2 O) O)
   exact⟨rfl,by simp [look],rfl,rfl,rfl,rfl,trivial⟩
  ·have hpd:=pdq_sz (d:=d4) (a:=mid+1) (b:=b) (l:=lim) (wb:=true) (wp:=true) O O g5
   have hgr:=(g7 _ hpd.1 hpd.2).1
   have hcall:=ih (mid+1) b lim d4 O O O hlim g5 O
   refine Xr C U U<|Rm C U U<|Rm C U U<|R.int C U U U U b_geq<|R.fixv (t:=126) (v':= .bool (decide (b-mid≥ (b-a) /8))) U (by(congr 1;exact decide_eq_decide.2 O))<|Ad C U U<|Xr C U U<|Rm C U U<|Rm C U U<|Ra C U U U<|R.fixv (t:=129) (v':= .int .i64 ((mid+1:Nat):Int)) U (by rfl)<|Rm C U U<|Rm C U U<|R.call C U U U U U hcall fun v1 ro1 pre1 hle1 hq1=>R.done C<|X.region C U U ?_
   obtain⟨rfl,rfl,rfl⟩:=hq1
   refine Rm C U U<|Ad C U U<|X.inBlock C.1<|X.weaken ?_ (nx a mid lim _ ap _ O O (by rw [hpd.1.1];omega) hlim hgr (h3 O) O)
   exact⟨U,U,U,U,U,U,trivial⟩
theorem pdqT(hn:n≤1000000000)(h12:¬b-a≤12)(h0:¬lim=0)(hb:b≤n)(hd:d.size=n)(hB:Go.Sort.Below ltInt a b d)(hlim:lim≤1000)(hm:b-a≤m)
  (nx:Nx158 J (c::cs) ro tail p n cap sp (b-a) rr) (ih:Ih158 J ro p n cap sp m) (hR:pdq ltInt d a b lim wb wp=rr) (hpi:(Go.Sort.rd ltInt d a b lim wb wp).pi.2=false)
  (hσ:keeps σ ((10, .int .i64 ((b-a:Nat):Int))::(11, .int .i64 ((Go.Sort.rd ltInt d a b lim wb wp).pivot:Int))::sl158 p n cap a b (Go.Sort.rd ltInt d a b lim wb wp).lim wb wp)):
  X J (bf 158 .normal) (c::cs) 134 [.code e7, .inBlock 1, .inLoop lb158, .inBlock 0] [] σ ⟨ro,(p, .cells (vals (Go.Sort.rd ltInt d a b lim wb wp).pi.1++sp).toArray 3 (0,0))::tail⟩:=by
 obtain⟨s1,B1,c1,s2,B2,pv,s3,B3⟩:=rd_facts (wb:=wb) (wp:=wp) (limit:=lim) Go.Sort.swo_ltInt Go.Sort.partialInsertionSort_holds Go.Sort.reverseRange_holds (show a<b by omega) (show b≤d.size by omega) hB
 have hlimle:=Go.Sort.rd_lim_le (lt:=ltInt) (d:=d) (a:=a) (b:=b) (limit:=lim) (wb:=wb) (wp:=wp)
 have hpt:=Go.Sort.round_part Go.Sort.swo_ltInt (Go.Sort.partition_holds _) pv.1 pv.2 (by rw [s3];omega) B3 (show Go.Sort.partition ltInt (Go.Sort.rd ltInt d a b lim wb wp).pi.1 a b (Go.Sort.rd ltInt d a b lim wb wp).pivot=(_,_,_) from rfl)
 refine pdq3 hJ hn O hb (by rw [s3];exact hd) B3 pv.1 pv.2 O hm nx ih (fun hT=>?_) (fun hF hlt=>?_) (fun hF hlt=>?_) hσ
 ·have hT':=hT
  simp only [Bool.and_eq_true,decide_eq_true_eq,Bool.not_eq_true'] at hT'
  have he:=Go.Sort.round_eq Go.Sort.swo_ltInt (Go.Sort.partitionEqual_holds _) hT'.1 pv.1 pv.2 (by rw [s3];omega) B3 hT'.2 (show Go.Sort.partitionEqual ltInt (Go.Sort.rd ltInt d a b lim wb wp).pi.1 a b (Go.Sort.rd ltInt d a b lim wb wp).pivot=(_,_) from rfl)
  exact(pdq_eq h12 h0 hpi hT ⟨he.1,he.2.1⟩).symm.trans hR
 ·exact(pdq_left h12 h0 hpi hF ⟨hpt.1,hpt.2.1⟩ hlt).symm.trans hR
 ·exact(pdq_right h12 h0 hpi hF ⟨hpt.1,hpt.2.1⟩ hlt).symm.trans hR
omit hJ in
theorem hintZ_one:(hintZ h==1)=true↔h= .increasing:=by cases h<;>simp [hintZ]
omit hJ in
theorem hintZ_two:(hintZ h==2)=true↔h= .decreasing:=by cases h<;>simp [hintZ]
theorem pdq2(hn:n≤1000000000)(h12:¬b-a≤12)(h0:¬lim=0)(hb:b≤n)(hd:d.size=n)(hB:Go.Sort.Below ltInt a b d)(hlim:lim≤1000)(hm:b-a≤m)
  (nx:Nx158 J (c::cs) ro tail p n cap sp (b-a) rr) (ih:Ih158 J ro p n cap sp m) (hR:pdq ltInt d a b lim wb wp=rr) (hret:BackS J c cs ro tail p sp (.tuple #[]) rr)
  (hσ:keeps σ ((10, .int .i64 ((b-a:Nat):Int))::(11, .int .i64 ((Go.Sort.rd ltInt d a b lim wb wp).pivot:Int))::(12, .int .i64 (hintZ (Go.Sort.rd ltInt d a b lim wb wp).hint))::sl158 p n cap a b (Go.Sort.rd ltInt d a b lim wb wp).lim wb wp)):
  X J (bf 158 .normal) (c::cs) 134 [.code e6, .inBlock 1, .inLoop lb158, .inBlock 0] [] σ ⟨ro,(p, .cells (vals (Go.Sort.rd ltInt d a b lim wb wp).d2++sp).toArray 3 (0,0))::tail⟩:=by
 obtain⟨s1,B1,c1,s2,B2,pv,s3,B3⟩:=rd_facts (wb:=wb) (wp:=wp) (limit:=lim) Go.Sort.swo_ltInt Go.Sort.partialInsertionSort_holds Go.Sort.reverseRange_holds (show a<b by omega) (show b≤d.size by omega) hB
 refine X.weaken hσ ?_
 have C:Ctx prog main J (bf 158 .normal):=⟨hJ,by decide⟩
 unfold sl158
 refine Xs C<|Xr C U U<|Rm C U U<|Rm C U U<|R.fix (t:=62) U (fun hw=>?_) (fun hw=>?_)
 ·subst hw
  refine Rm C U U<|R.pickT C U U U U<|Rm C U U<|R.fix (t:=65) U (fun hw2=>?_) (fun hw2=>?_)
  ·subst hw2
   refine Rm C U U<|R.int C U U U U b_eql<|R.pickT C U U U U<|R.done C<|X.cond C.1 U (fun hh=>?_) (fun hh=>?_)
   ·have hh':=hintZ_one.1 hh
    have hpi:(Go.Sort.rd ltInt d a b lim true true).pi=Go.Sort.partialInsertionSort ltInt (Go.Sort.rd ltInt d a b lim true true).d2 a b:=rd_pi_yes (by simp [hh'])
    have hdone:=fun h=>(pdq_done h12 h0 h).symm.trans hR
    have htl:=fun h σ=>pdqT hJ (σ:=σ) hn h12 h0 hb hd hB hlim hm nx ih hR h
    have s2':=s2.trans hd
    generalize(Go.Sort.rd ltInt d a b lim true true).d2=d2 at hpi s2'⊢
    generalize(Go.Sort.rd ltInt d a b lim true true).pi=pi at hpi hdone htl
    generalize(Go.Sort.rd ltInt d a b lim true true).pivot=pvv at htl⊢
    generalize(Go.Sort.rd ltInt d a b lim true true).lim=lim2 at htl⊢
    have hpc:=callS_n (partialIns_c hJ (p:=p) (sp:=sp) (d:=d2) (cap:=cap) (a:=a) (b:=b) (ro:=ro) O O O) s2'
    rw [←hpi] at hpc
    refine Xr C U U<|Rm C U U<|Rm C U U<|Rm C U U<|R.call C U U U U U hpc fun v1 ro1 pre1 hle1 hq1=>R.done C ?_
    obtain⟨rfl,rfl,rfl⟩:=hq1
    refine X.cond C.1 U (fun hdn=>?_) (fun hdn=>?_)
    ·have e:=hdone hdn
     refine X.ret C U U func158 U (by exact .nil) ?_
     exact hret _ _ rfl e
    ·refine X.skip C.1<|htl hdn _ ?_
     exact⟨U,U,U,U,U,U,U,U,trivial⟩
   ·have hh':¬(Go.Sort.rd ltInt d a b lim true true).hint= .increasing:=fun e=>by rw [hintZ_one.2 e] at hh;cases hh
    refine X.skip C.1 ?_
    have hpi:(Go.Sort.rd ltInt d a b lim true true).pi=((Go.Sort.rd ltInt d a b lim true true).d2,false):=rd_pi_no (by simp [hh'])
    rw [show(Go.Sort.rd ltInt d a b lim true true).d2=(Go.Sort.rd ltInt d a b lim true true).pi.1 by rw [hpi]]
    refine pdqT hJ hn h12 h0 hb hd hB hlim hm nx ih hR (by rw [hpi]) ?_
    exact⟨U,U,U,U,U,U,U,U,trivial⟩
  ·subst hw2
   refine R.pass C U U<|R.pass C U U<|R.pickF C U U U U<|R.done C<|X.cond C.1 U (fun h=>nomatch h) (fun _=>?_)
   refine X.skip C.1 ?_
   have hpi:(Go.Sort.rd ltInt d a b lim true false).pi=((Go.Sort.rd ltInt d a b lim true false).d2,false):=rd_pi_no Zi
   rw [show(Go.Sort.rd ltInt d a b lim true false).d2=(Go.Sort.rd ltInt d a b lim true false).pi.1 by rw [hpi]]
   refine pdqT hJ hn h12 h0 hb hd hB hlim hm nx ih hR (by rw [hpi]) ?_
   exact⟨U,U,U,U,U,U,U,U,trivial⟩
 ·subst hw
  refine R.pass C U U<|R.pickF C U U U U<|Rm C U U<|R.pass C U U<|R.pass C U U<|R.pickF C U U U U<|R.done C<|X.cond C.1 U (fun h=>nomatch h) (fun _=>?_)
  refine X.skip C.1 ?_
  have hpi:(Go.Sort.rd ltInt d a b lim false wp).pi=((Go.Sort.rd ltInt d a b lim false wp).d2,false):=rd_pi_no Zi
  rw [show(Go.Sort.rd ltInt d a b lim false wp).d2=(Go.Sort.rd ltInt d a b lim false wp).pi.1 by rw [hpi]]
  refine pdqT hJ hn h12 h0 hb hd hB hlim hm nx ih hR (by rw [hpi]) ?_
  exact⟨U,U,U,U,U,U,U,U,trivial⟩
theorem pdq1(hn:n≤1000000000)(h12:¬b-a≤12)(h0:¬lim=0)(hb:b≤n)(hd:d.size=n)(hB:Go.Sort.Below ltInt a b d)(hlim:lim≤1000)(hm:b-a≤m)
  (nx:Nx158 J (c::cs) ro tail p n cap sp (b-a) rr) (ih:Ih158 J ro p n cap sp m) (hR:pdq ltInt d a b lim wb wp=rr) (hret:BackS J c cs ro tail p sp (.tuple #[]) rr)
  (hσ:keeps σ ((10, .int .i64 ((b-a:Nat):Int))::sl158 p n cap a b (Go.Sort.rd ltInt d a b lim wb wp).lim wb wp)):
  X J (bf 158 .normal) (c::cs) 134 [.code e4, .inBlock 1, .inLoop lb158, .inBlock 0] [] σ ⟨ro,(p, .cells (vals (Go.Sort.rd ltInt d a b lim wb wp).d1++sp).toArray 3 (0,0))::tail⟩:=by
 obtain⟨s1,B1,c1,s2,B2,pv,s3,B3⟩:=rd_facts (wb:=wb) (wp:=wp) (limit:=lim) Go.Sort.swo_ltInt Go.Sort.partialInsertionSort_holds Go.Sort.reverseRange_holds (show a<b by omega) (show b≤d.size by omega) hB
 refine X.weaken hσ ?_
 have C:Ctx prog main J (bf 158 .normal):=⟨hJ,by decide⟩
 unfold sl158
 have htl:=fun σ=>pdq2 hJ (σ:=σ) hn h12 h0 hb hd hB hlim hm nx ih hR hret
 have hdec:=rd_dec (lt:=ltInt) (d:=d) (a:=a) (b:=b) (limit:=lim) (wb:=wb) (wp:=wp)
 have hnot:=rd_not (lt:=ltInt) (d:=d) (a:=a) (b:=b) (limit:=lim) (wb:=wb) (wp:=wp)
 have hc:(Go.Sort.rd ltInt d a b lim wb wp).c=choosePivot ltInt (Go.Sort.rd ltInt d a b lim wb wp).d1 a b:=rd_c
 have s1':=s1.trans hd
 generalize(Go.Sort.rd ltInt d a b lim wb wp).c=cc at hc hdec hnot c1
 generalize(Go.Sort.rd ltInt d a b lim wb wp).d1=d1 at hc hdec hnot s1'⊢
 generalize(Go.Sort.rd ltInt d a b lim wb wp).d2=d2 at hdec hnot htl
 generalize(Go.Sort.rd ltInt d a b lim wb wp).pivot=pvv at hdec hnot htl
 generalize(Go.Sort.rd ltInt d a b lim wb wp).hint=hh at hdec hnot htl
 generalize(Go.Sort.rd ltInt d a b lim wb wp).lim=lim2 at htl⊢
 have hpc:=callS_n (choosePivot_c hJ (p:=p) (sp:=sp) (d:=d1) (cap:=cap) (a:=a) (b:=b) (ro:=ro) O O O) s1'
 rw [←hc] at hpc
 have hpr:=callS_n (reverseRange_c hJ (p:=p) (sp:=sp) (d:=d1) (cap:=cap) (a:=a) (b:=b) (ro:=ro) O O O) s1'
 refine Xr C U U<|Rm C U U<|Rm C U U<|Rm C U U<|R.call C U U U U U hpc fun v1 ro1 pre1 hle1 hq1=>?_
 obtain⟨rfl,rfl,rfl⟩:=hq1
 refine Rm C U U<|R.ext C U U U U<|R.ext C U U U U<|R.asg C U U U<|Ad C U U<|Xs C<|Xr C U U<|Rm C U U<|R.int C U U U U b_eql<|R.done C<|X.cond C.1 U (fun hdc=>?_) (fun hdc=>?_)
 ·obtain⟨q1,q2,q3⟩:=hdec (hintZ_two.1 hdc)
  subst q1;subst q2;subst q3
  refine Xr C U U<|Rm C U U<|Rm C U U<|Rm C U U<|R.call C U U U U U hpr fun v1 ro1 pre1 hle1 hq1=>R.done C<|Xr C U U ?_
  obtain⟨rfl,rfl,rfl⟩:=hq1
  refine Rm C U U<|R.int C U U U U (b_sub O O)<|Rm C U U<|Rm C U U<|R.int C U U U U (b_sub O O)<|R.int C U U U U (b_sub O O)<|Ad C U U<|X.region C U U<|Ad C U U<|htl _ ?_
  exact⟨rfl,congrArg (fun z=>some (Value.int .i64 z)) O,rfl,rfl,rfl,rfl,rfl,rfl,rfl,trivial⟩
 ·obtain⟨q1,q2,q3⟩:=hnot (fun e=>by rw [hintZ_two.2 e] at hdc;cases hdc)
  subst q1;subst q2;subst q3
  refine X.skip C.1<|htl _ ?_
  exact⟨U,U,U,U,U,U,U,U,U,trivial⟩
theorem pdq_step(hn:n≤1000000000)(ih:Ih158 J ro p n cap sp m):Ih158 J ro p n cap sp (m+1):=by
 intro a0 b0 l0 d0 hab0 hb0 hd0 hl0 hB0 hm0
 obtain⟨rr,hrr⟩:∃rr,rr=pdq ltInt d0 a0 b0 l0 true true:=⟨_,rfl⟩
 rw [←hrr]
 refine callS_n (CallS.intro hJ (p:=p) (sp:=sp) (d:=d0) (cap:=cap) Kr fun c cs tail hret=>?_) hd0
 rw [hd0]
 let J:=J
 refine enter_X (n:=134) func158 U U (Nl U) ?_
 have C:Ctx prog main J (bf 158 .normal):=⟨hJ,by decide⟩
 refine Xr C U U<|Ad C U U<|Xr C U U<|Ad C U U<|X.block C.1<|X.loopI (ι:=Nat×Nat×Nat×Bool×Bool×Array Int) C.1 (fun s=>s.1≤s.2.1∧s.2.1≤n∧s.2.2.2.2.2.size=n∧s.2.2.1≤1000∧Go.Sort.Below ltInt s.1 s.2.1 s.2.2.2.2.2∧pdq ltInt s.2.2.2.2.2 s.1 s.2.1 s.2.2.1 s.2.2.2.1 s.2.2.2.2.1=rr∧s.2.1-s.1≤m) (fun s=>sl158 p n cap s.1 s.2.1 s.2.2.1 s.2.2.2.1 s.2.2.2.2.1)
  (fun s=>⟨ro,(p, .cells (vals s.2.2.2.2.2++sp).toArray 3 (0,0))::tail⟩) (fun s=>s.2.1-s.1) (a0,b0,l0,true,true,d0) ⟨hab0,hb0,hd0,hl0,hB0,hrr.symm,by show b0-a0≤m;omega⟩ rfl ⟨U,U,U,U,U,U,trivial⟩ fun s hs hnext=>?_
 obtain⟨a,b,lim,wb,wp,d⟩:=s
 obtain⟨hab,hb,hd,hlim,hB,hR,hm⟩:=hs
 simp only at hab hb hd hlim hB hR hm hnext⊢
 have nx:Nx158 J (c::cs) ro tail p n cap sp (b-a) rr:=fun a' b' l' wb' wp' d' k1 k2 k3 k4 k5 k6 k7=>hnext (a',b',l',wb',wp',d') ⟨k1,k2,k3,k4,k5,k6,by show b'-a'≤m;omega⟩ k7
 have hpi:=callS_n (insertionSort_c hJ (p:=p) (sp:=sp) (d:=d) (cap:=cap) (a:=a) (b:=b) (ro:=ro) O hab O) hd
 have hph:=callS_n (heapSort_c hJ (p:=p) (sp:=sp) (d:=d) (cap:=cap) (a:=a) (b:=b) (ro:=ro) O hab O) hd
 have hpb:=callS_n (breakPatterns_c hJ (p:=p) (sp:=sp) (d:=d) (cap:=cap) (a:=a) (b:=b) (ro:=ro) O hab O) hd
 unfold sl158
 refine X.block C.1<|Xr C U U<|Rm C U U<|Rm C U U<|R.int C U U U U (b_sub O O)<|R.fixv (t:=21) (v':= .int .i64 ((b-a:Nat):Int)) U (by(congr 1;omega))<|Ad C U U<|Xs C<|Xr C U U<|Rm C U U<|R.int C U U U U b_leq<|R.done C<|Xk C U (fun h12=>?_) (fun h12=>?_)
 ·rw [pdq_small O] at hR
  refine Xr C U U<|Rm C U U<|Rm C U U<|Rm C U U<|R.call C U U U U U hpi fun v1 ro1 pre1 hle1 hq1=>R.done C ?_
  obtain⟨rfl,rfl,rfl⟩:=hq1
  refine X.ret C U U func158 U (by exact .nil) ?_
  exact hret _ _ rfl hR
 ·have h12':¬b-a≤12:=O
  refine X.skip C.1<|Xs C<|Xr C U U<|Rm C U U<|R.int C U U U U b_eql<|R.done C<|X.cond C.1 U (fun h0=>?_) (fun h0=>?_)
  ·have h0':lim=0:=by simpa using h0
   rw [pdq_heap h12' h0'] at hR
   refine Xr C U U<|Rm C U U<|Rm C U U<|Rm C U U<|R.call C U U U U U hph fun v1 ro1 pre1 hle1 hq1=>R.done C ?_
   obtain⟨rfl,rfl,rfl⟩:=hq1
   refine X.ret C U U func158 U (by exact .nil) ?_
   exact hret _ _ rfl hR
  ·have h0':¬lim=0:=by simpa using h0
   refine X.skip C.1<|Xs C<|Xr C U U<|Rm C U U<|R.not C U U U<|R.done C<|X.cond C.1 U (fun hw=>?_) (fun hw=>?_)
   ·have hw':wb=false:=by simpa using hw
    subst hw'
    refine Xr C U U<|Rm C U U<|Rm C U U<|Rm C U U<|R.call C U U U U U hpb fun v1 ro1 pre1 hle1 hq1=>R.done C<|X.region C U U ?_
    obtain⟨rfl,rfl,rfl⟩:=hq1
    refine Rm C U U<|R.int C U U U U (b_sub O O)<|Ad C U U<|pdq1 hJ hn h12' h0' hb hd hB hlim hm nx ih hR hret ?_
    exact⟨rfl,rfl,rfl,rfl,congrArg (fun z=>some (Value.int .i64 z)) (by show(lim:Int) -1=((lim-1:Nat):Int);omega),rfl,rfl,trivial⟩
   ·have hw':wb=true:=by simpa using hw
    subst hw'
    refine X.skip C.1<|pdq1 hJ hn h12' h0' hb hd hB hlim hm nx ih hR hret ?_
    exact⟨U,U,U,U,U,U,U,trivial⟩
theorem pdq_all{p n cap:Nat}{sp:List Value}{ro:RO}(hn:n≤1000000000):∀m,Ih158 J ro p n cap sp m
 |0=>fun _ _ _ _ _ _ _ _ _ h=>absurd h (Nat.not_lt_zero _)
 |m+1=>pdq_step hJ hn (pdq_all hn m)
theorem sort_c{l:List Int}(hn:l.length≤1000000000):CallV prog J (fnv 106) [.slice (some ⟨p,0,none⟩) l.length cap] ro [(p, .cells (l.flatMap ic++sp).toArray 3 (0,0))] fun v' ro' pre'=>v'= .tuple #[]∧ro'=ro∧pre'= [(p, .cells ((l.mergeSort fun x y=>decide (x≤y)).flatMap ic++sp).toArray 3 (0,0))]:=by
 have hfl:∀l:List Int,l.flatMap ic=vals l.toArray:=fun l=>by
  unfold vals
  induction l with
  |nil=>rfl
  |cons x l ih=>simpa [ic] using ih
 have hpw:∀k,30≤k→l.length<2^k:=fun k hk=>Nat.lt_of_le_of_lt hn (Nat.lt_of_lt_of_le (show 1000000000<2^30 by decide) (Nat.pow_le_pow_right Dd hk))
 have hkl:∀k,30≤k→bitsLen l.length≤k:=fun k hk=>(Go.Sort.bitsLen_le_iff _ _).2 (hpw k hk)
 have hbl:bitsLen l.length≤1000:=hkl _ Dd
 have hpc:=pdq_all hJ (p:=p) (cap:=cap) (sp:=sp) (ro:=ro) hn (l.length+1) 0 l.length (bitsLen l.length) l.toArray (Nat.zero_le _) (Nat.le_refl _) Zi hbl (.inl rfl) O
 have hsort:pdq ltInt l.toArray 0 l.length (bitsLen l.length) true true=(l.mergeSort fun x y=>decide (x≤y)).toArray:=by
  have h:=Go.Sort.sortInt_holds (Go.Sort.sort_holds (Go.Sort.pdq_holds Go.Sort.insertionSort_holds Go.Sort.heapSort_holds Go.Sort.partialInsertionSort_holds (Go.Sort.partition_holds _) (Go.Sort.partitionEqual_holds _) Go.Sort.reverseRange_holds)) l
  unfold Go.Sort.sort at h
  simp only [List.size_toArray] at h
  rw [←h]
 rw [hsort] at hpc
 rw [hfl,hfl]
 refine CallV.intro (first:= []) (cap:= []) hJ Kr fun c cs tail hret=>?_
 let J:=J
 refine enter_X (n:=11) func106 U U (Nl U) ?_
 have C:Ctx prog main J (bf 106 .normal):=⟨hJ,by decide⟩
 refine Xr C U U<|Rm C U U<|Rn C U U runUnderlying28<|Ad C U U<|X.region C U U<|Rm C U U<|Rm C U U<|Rm C U U<|R.convInt C U U U runUnderlying3 runUnderlying189 (IntWalk.u64_in _ O)<|R.callP C U U U U (len_c hJ O _)<|R.call C U U U U U hpc fun v1 ro1 pre1 hle1 hq1=>R.done C ?_
 obtain⟨rfl,rfl,rfl⟩:=hq1
 refine X.fall C U U func106 U (by exact .nil) ?_
 exact hret _ _ [_] _ (RO.le_refl _) ⟨rfl,rfl,rfl⟩ (.refl _)
end Go.Lg.B
namespace Go.Lg
open Go Go.Conc
section
variable {P:Program}{main:Bool}{J:Goroutine→Mem→Prop}{b:Frame}(C:Ctx P main J b){cs:List Frame}{n:Nat}{ds:List Deferred}{σ:Slots}{ro:RO}{own:List (Nat×Obj)}{k:List Item}{ops:Array Oper}{i:Nat}{rest:List Nat}
 {dst:Option Nat} {ty:TypeId} {pos:String} {af:Array Edge} {g:Option (Nat×Bool)}
include C
theorem R.clearS{t e:TypeId}{tt:TypeId}{x:Operand}{bb off len cap:Nat}{z:Value}{vs l l':List Value}{own':List (Nat×Obj)}(ho:ops[i]? =some ⟨dst, .call ⟨.builtin .clear, #[x], #[t]⟩,ty,pos,af,g⟩)(hg:wantedS ops σ ⟨dst, .call ⟨.builtin .clear, #[x], #[t]⟩,ty,pos,af,g⟩=some true)
  (hx:ev σ x=some (.slice (some ⟨bb,off,none⟩) (len+1) cap)) (hu:∀w,Sem.run P (Go.underlying t) w= .ok (.slice e) w) (hz:∀w,Sem.run P (Go.zeroValue e) w= .ok z w) (hvs:(Builtin.zeroCells z.cells (len+1)).toList=vs) (h1:ones vs=true)
  (hup:Upd own bb (.cells l.toArray tt (0,0)) (.cells l'.toArray tt (0,0)) own') (hp:Put off vs l l')
  (h:R J b cs n ops rest k ds (putS dst (.tuple #[]) σ) ⟨ro,own'⟩):R J b cs n ops (i::rest) k ds σ ⟨ro,own⟩:=
 R.op C ho hg rfl fun a ha=>by
  unfold execOp
  refine Sm.bind ?_
  unfold resolve
  refine Sm.pure ?_
  unfold invoke builtin Builtin.clear_
  simp only [List.map_toArray,List.map_cons,List.map_nil,ha.ev hx,List.getElem?_toArray,List.getElem?_cons_zero]
  refine Sm.bind (Sm.bind (Sm.underlying hu ?_))
  simp only
  refine Sm.bind (Sm.zeroValue hz ?_)
  rw [hvs]
  refine Sm.bind (Sm.storeCells_own (M:=⟨ro,own⟩) vs 0 hup (by simpa using hp) h1 ?_)
  exact Sm.pure (Sm.pure h)
end
end Go.Lg
namespace Go.Lg.B
open Go Go.Conc Go.Lg Go.Proofs Go.Proofs.Tryz
variable {c l xs:List Int}{i k:Nat}{sp:List Value}{x z:Int}
def cstep(acc:List Int)(x:Int):List Int:=if acc.getLast? =some x then acc else acc++ [x]
def compactL(l:List Int):List Int:=l.foldl cstep []
theorem compact_take(h:i<l.length):compactL (l.take (i+1))=cstep (compactL (l.take i)) l[i]:=by
 unfold compactL
 rw [List.take_succ_eq_append_getElem h,List.foldl_append];rfl
theorem compact_last(h:i<l.length):(compactL (l.take (i+1))).getLast? =some l[i]:=by
 rw [compact_take h]
 unfold cstep
 split
 ·assumption
 ·simp
theorem compact_same(h:i+1<l.length)(e:l[i+1]=l[i]):compactL (l.take (i+2))=compactL (l.take (i+1)):=by
 rw [compact_take h,cstep,if_pos (by rw [compact_last O,e])]
theorem compact_new(h:i+1<l.length)(e:l[i+1]≠l[i]):compactL (l.take (i+2))=compactL (l.take (i+1))++ [l[i+1]]:=by
 rw [compact_take h,cstep,if_neg (by rw [compact_last O];intro h;exact e (Option.some.inj h).symm)]
def mixed(l c:List Int):List Int:=c++l.drop c.length
theorem mixed_len(h:c.length≤l.length):(mixed l c).length=l.length:=by simp [mixed];omega
theorem mixed_at{j:Nat}(h:c.length≤j)(hj:j<l.length):(mixed l c)[j]? =some l[j]:=by
 unfold mixed
 rw [List.getElem?_append_right h,List.getElem?_drop,show c.length+(j-c.length)=j by omega,List.getElem?_eq_getElem hj]
theorem ints_at{off:Nat}(hz:(off:Int)+z=(k:Int))(h0:0≤z)(hx:xs[k]? =some x):(xs.flatMap ic++sp)[off+z.toNat*1]? =some (.int .i64 x):=by
 have hk:off+z.toNat*1=k:=O
 have hl:k<xs.length:=(List.getElem?_eq_some_iff.1 hx).1
 rw [hk,List.getElem?_append_left (by rw [flat_len];exact hl)]
 have:∀ (l:List Int) (k:Nat),(l.flatMap ic)[k]? =(l[k]?).map (Value.int .i64):=by
  intro l
  induction l with
  |nil=>intro k;simp
  |cons y l ih=>intro k;cases k with
   |zero=>simp [ic]
   |succ k=>simpa [ic] using ih k
 rw [this,hx];rfl
theorem mixed_set(x:Int)(h:c.length<l.length):(mixed l c).set c.length x=mixed l (c++ [x]):=by
 unfold mixed
 rw [List.set_append_right _ _ (Nat.le_refl _),Nat.sub_self]
 have e:=List.drop_eq_getElem_cons h
 rw [e,List.set_cons_zero]
 simp
theorem ints_put(hz:z=(k:Int))(hk:k<xs.length):Put (0+z.toNat*1) [.int .i64 x] (xs.flatMap ic++sp) ((xs.set k x).flatMap ic++sp):=by
 subst hz
 have:=put_at (xs.flatMap ic) k (.int .i64 x) sp (by rw [flat_len];exact hk)
 have e:∀ (l:List Int) (k:Nat),(l.set k x).flatMap ic=(l.flatMap ic).set k (.int .i64 x):=by
  intro l
  induction l with
  |nil=>intro k;simp
  |cons y l ih=>intro k;cases k with
   |zero=>simp [ic]
   |succ k=>simpa [ic] using ih k
 rw [Int.toNat_natCast,Nat.mul_one,Nat.zero_add,e]
 exact this
theorem zero_ints(m:Nat):(Builtin.zeroCells (Value.int .i64 0).cells m).toList=(List.replicate m (0:Int)).flatMap ic:=by
 unfold Builtin.zeroCells
 have e:(Value.int .i64 0).cells= #[.int .i64 0]:=rfl
 rw [e]
 apply List.ext_getElem
 ·rw [flat_len];simp
 ·intro i h1 h2
  have hr:∀ (m i:Nat) (h:i<((List.replicate m (0:Int)).flatMap ic).length),((List.replicate m (0:Int)).flatMap ic)[i]= .int .i64 0:=by
   intro m
   induction m with
   |zero=>intro i h;simp at h
   |succ m ih=>intro i h;cases i with
    |zero=>simp [List.replicate_succ,ic]
    |succ i=>simp only [List.replicate_succ,List.flatMap_cons,ic,List.singleton_append,List.getElem_cons_succ];exact ih i _
  rw [hr]
  simp [Nat.mod_one]
theorem clear_put(h:c.length≤l.length):Put c.length ((List.replicate (l.length-c.length) (0:Int)).flatMap ic) ((mixed l c).flatMap ic++sp) (c.flatMap ic++((List.replicate (l.length-c.length) (0:Int)).flatMap ic++sp)):=by
 have:=Put.mid (c.flatMap ic) ((List.replicate (l.length-c.length) (0:Int)).flatMap ic) ((l.drop c.length).flatMap ic++sp) (by rw [flat_len,List.length_append,flat_len,List.length_replicate,List.length_drop];omega)
 rw [flat_len] at this
 have e:(mixed l c).flatMap ic++sp=c.flatMap ic++((l.drop c.length).flatMap ic++sp):=by simp [mixed,List.flatMap_append]
 rw [e]
 have e2:((l.drop c.length).flatMap ic++sp).drop ((List.replicate (l.length-c.length) (0:Int)).flatMap ic).length=sp:=by
  rw [flat_len,List.length_replicate,List.drop_append_of_le_length (by rw [flat_len];simp),List.drop_of_length_le (by rw [flat_len];simp)];rfl
 rw [e2] at this
 exact this
variable {main:Bool}{J:Goroutine→Mem→Prop}(hJ:Closed prog main J)
include hJ
theorem compact_c{p cap:Nat}{ro:RO}(hn:l.length≤1000000000)(hcap:l.length≤cap):CallV prog J (fnv 107) [.slice (some ⟨p,0,none⟩) l.length cap] ro [(p, .cells (l.flatMap ic++sp).toArray 3 (0,0))] fun v' ro' pre'=>v'= .slice (some ⟨p,0,none⟩) (compactL l).length cap∧ro'=ro∧∃r:List Value,pre'= [(p, .cells ((compactL l).flatMap ic++r).toArray 3 (0,0))]:=by
 refine CallV.intro (first:= []) (cap:= []) hJ Kr fun c cs tail hret=>?_
 let J:=J
 have hself:compactL l=l→Go.Lg.BackV J c cs ro tail (fun v' ro' pre'=>v'= .slice (some ⟨p,0,none⟩) l.length cap∧ro'=ro∧pre'= [(p, .cells (l.flatMap ic++sp).toArray 3 (0,0))]):=fun e v ro' pre' own hl hp hs=>by
  obtain⟨h1,h2,h3⟩:=hp
  exact hret v ro' pre' own hl ⟨by rw [e];exact h1,h2,sp,by rw [e];exact h3⟩ hs
 refine enter_X (n:=61) func107 U U (Nl U) ?_
 have C:Ctx prog main J (bf 107 .normal):=⟨hJ,by decide⟩
 refine Xr C U U<|Ad C U U<|Xs C<|Xr C U U<|Rm C U U<|Rn C U U runUnderlying28<|R.int C U U U U b_lss<|R.done C<|Xk C U (fun h2=>?_) (fun h2=>?_)
 ·have e:compactL l=l:=by
   match l,h2 with
   | [],_=>rfl
   | [x],_=>rfl
   |_::_::_,h=>simp at h;omega
  refine Xr C U U<|Rm C U U<|Ad C U U<|X.ret C U U func107 U (by exact .tmp U .nil) ?_
  exact hself e _ _ [_] _ (RO.le_refl _) ⟨rfl,rfl,rfl⟩ (.refl _)
 ·refine X.skip C.1<|Xs C<|Xr C U U<|Ad C U U<|X.block C.1<|X.loopI (ι:=Nat) C.1 (fun k=>1≤k∧k≤l.length∧compactL (l.take k)=l.take k) (fun k=> [(0, .slice (some ⟨p,0,none⟩) l.length cap),(3, .int .i64 (k:Int))])
   (fun _=>⟨ro,(p, .cells (l.flatMap ic++sp).toArray 3 (0,0))::tail⟩) (fun k=>l.length-k) 1 ⟨Nat.le_refl _,O,by
    cases l with
    |nil=>simp at h2
    |cons x l=>rfl⟩ rfl ⟨U,U,trivial⟩ fun k hs hnext=>?_
  obtain⟨hk1,hk2,hk3⟩:=hs
  refine Xs C<|Xr C U U<|Rm C U U<|Rm C U U<|Rn C U U runUnderlying28<|R.int C U U U U b_lss<|R.done C<|Xk C U (fun hlt=>?_) (fun hlt=>?_)
  ·have hk':k<l.length:=O
   refine X.skip C.1<|Xs C<|X.block C.1<|Xs C<|Xd C fun hok=>Dm C 0 hok U U U<|Dm C 1 hok U U U<|Dx C 2 hok U U U runUnderlying28 sizeOf3<|D1 C 3 hok U U isAgg3 V (ints_at (off:=0) (k:=k) (x:=l[k]) O O (List.getElem?_eq_getElem hk')) ?_;refine Dm C 4 hok U U U<|Dm C 5 hok U U U<|Di C 6 hok U U U U U (b_sub O O)<|Dx C 7 hok U U U runUnderlying28 sizeOf3<|D1 C 8 hok U U isAgg3 V (ints_at (off:=0) (k:=k-1) (x:=l[k-1]) O O (List.getElem?_eq_getElem O)) ?_;refine Di C 9 hok U U U U U b_eql<|D.done C hok Kr ?_
   obtain⟨q,rfl⟩:∃q,k=q+1:=⟨k-1,O⟩
   refine X.cond C.1 U (fun he=>?_) (fun he=>?_)
   ·have he':l[q+1]=l[q]:=by simpa using he
    refine Xr C U U<|Rm C U U<|Rm C U U<|R.sliceFrom C U U U U runUnderlying28 sizeOf3 O O<|Ad C U U<|Xs C<|Xr C U U<|Ad C U U<|X.block C.1 ?_
    obtain⟨bs,hbs⟩:∃bs,bs=(if cap=(((q+1:Nat):Int)).toNat then some (⟨p,0,none⟩:Addr) else(some (⟨p,0,none⟩:Addr)).map (·.add ((((q+1:Nat):Int)).toNat*1))):=⟨_,rfl⟩
    have hbs2:bs=some ⟨p,q+1,none⟩:=by
     rw [hbs,if_neg O]
     show some (Addr.add ⟨p,0,none⟩ _)=_
     rw [add_addr]
     congr 2
     omega
    have hC1:compactL (l.take (q+1+1))=l.take (q+1):=by rw [compact_same hk' he',hk3]
    have hM1:mixed l (l.take (q+1))=l:=by
     unfold mixed
     rw [List.length_take,Nat.min_eq_left O]
     exact List.take_append_drop _ _
    have hL1:(l.take (q+1)).length=q+1:=by rw [List.length_take];omega
    refine X.loopI (ι:=Nat) C.1 (fun j=>1≤j∧q+1+j≤l.length∧(compactL (l.take (q+1+j))).length<q+1+j) (fun j=> [(0, .slice (some ⟨p,0,none⟩) l.length cap),(3, .int .i64 ((compactL (l.take (q+1+j))).length:Int)),(4, .slice (some ⟨p,q+1,none⟩) (l.length- (q+1)) (cap- (q+1))),(5, .int .i64 (j:Int))])
     (fun j=>⟨ro,(p, .cells ((mixed l (compactL (l.take (q+1+j)))).flatMap ic++sp).toArray 3 (0,0))::tail⟩) (fun j=>l.length-j) 1 ⟨Nat.le_refl _,O,by rw [hC1,hL1];omega⟩ (by rw [hC1,hM1]) ⟨rfl,by rw [hC1,hL1];rfl, ?_,rfl,trivial⟩ fun j hs hnext2=>?_
    ·rw [←hbs2,hbs];rfl
    obtain⟨hj1,hj2,hj3⟩:=hs
    have hcs:q+1+j<l.length→compactL (l.take (q+1+(j+1)))=cstep (compactL (l.take (q+1+j))) l[q+1+j]! :=fun h=>by
     rw [getElem!_pos l (q+1+j) h];exact compact_take h
    have hcl:compactL (l.take (q+1+j))≠ []→True:=fun _=>trivial
    have hgl:(compactL (l.take (q+1+j))).getLast? =some l[q+j]:=by
     have:=compact_last (l:=l) (i:=q+j) O
     rw [show q+j+1=q+1+j by omega] at this
     exact this
    have hgo:=hnext2 (j+1)
    generalize hcc:compactL (l.take (q+1+j))=cc at*
    refine Xs C<|Xr C U U<|Rm C U U<|Rm C U U<|Rn C U U runUnderlying28<|R.int C U U U U b_lss<|R.done C<|Xk C U (fun hlt2=>?_) (fun hlt2=>?_)
    ·have hj':q+1+j<l.length:=O
     have hcs:=hcs hj'
     rw [getElem!_pos l _ hj'] at hcs
     refine X.skip C.1<|Xs C<|X.block C.1<|Xs C<|Xd C fun hok=>Dm C 0 hok U U U<|Dm C 1 hok U U U<|Dx C 2 hok U U U runUnderlying28 sizeOf3<|D1 C 3 hok U U isAgg3 V (ints_at (k:=q+1+j) (x:=l[q+1+j]) O O (mixed_at O hj'))<|Dm C 4 hok U U U<|Dm C 5 hok U U U<|Di C 6 hok U U U U U (b_sub O O)<|Dx C 7 hok U U U runUnderlying28 sizeOf3<|D1 C 8 hok U U isAgg3 V (ints_at (k:=q+j) (x:=l[q+j]) O O (mixed_at O O))<|Di C 9 hok U U U U U b_neq<|D.done C hok Kr<|X.cond C.1 U (fun hne=>?_) (fun hne=>?_)
     ·have hne':l[q+1+j]≠l[q+j]:=by simpa using hne
      rw [cstep,if_neg (by rw [hgl];intro h;exact hne' (Option.some.inj h).symm)] at hcs
      rw [hcs] at hgo
      refine Xr C U U<|Rm C U U<|Rm C U U<|Rm C U U<|Rm C U U<|Rx C U U U runUnderlying28 sizeOf3<|R.loadOne C U U U isAgg3 V (ints_at (k:=q+1+j) (x:=l[q+1+j]) O O (mixed_at O hj'))<|Rx C U U U runUnderlying28 sizeOf3<|R.store C U U U U sizeOf3 U U U V (ints_put (k:=cc.length) O (by rw [mixed_len O];omega))<|R.done C<|X.region C U U<|Rm C U U<|Ra C U U U<|Ad C U U<|X.inBlock C.1<|X.region C U U<|Rm C U U<|Ra C U U U<|Ad C U U ?_
      rw [mixed_set _ O]
      refine X.weaken ?_ (hgo ⟨O,O,by rw [List.length_append];simp;omega⟩ O)
      exact⟨rfl,by simp [look],rfl,by simp [look],trivial⟩
     ·have hne':l[q+1+j]=l[q+j]:=by simpa using hne
      rw [cstep,if_pos (by rw [hgl,hne'])] at hcs
      rw [hcs] at hgo
      refine X.skip C.1<|X.inBlock C.1<|X.region C U U<|Rm C U U<|Ra C U U U<|Ad C U U<|X.weaken ?_ (hgo ⟨O,O,O⟩ O)
      exact⟨rfl,rfl,rfl,by simp [look],trivial⟩
    ·have hjn:q+1+j=l.length:=O
     rw [hjn,List.take_length] at hcc
     have hm:l.length-cc.length-1+1=l.length-cc.length:=O
     have hv56:Value.slice (if cap=((cc.length:Nat):Int).toNat then some (⟨p,0,none⟩:Addr) else(some (⟨p,0,none⟩:Addr)).map (·.add (((cc.length:Nat):Int).toNat*1))) (l.length- ((cc.length:Nat):Int).toNat) (cap- ((cc.length:Nat):Int).toNat)= .slice (some ⟨p,cc.length,none⟩) (l.length-cc.length-1+1) (cap-cc.length):=by
      rw [if_neg O,hm]
      show Value.slice (some (Addr.add ⟨p,0,none⟩ _)) _ _=_
      rw [add_addr]
      congr 2
      congr 1
      omega
     refine X.exit C.1 U<|Xr C U U<|Rm C U U<|Rm C U U<|R.sliceFrom C U U U U runUnderlying28 sizeOf3 O O<|R.fixv (t:=56) (v':= .slice (some ⟨p,cc.length,none⟩) (l.length-cc.length-1+1) (cap-cc.length)) U (by exact hv56)<|R.clearS C U U U runUnderlying28 zeroValue3 (by rw [hm];exact zero_ints _) (ones_ic _) V (clear_put O)<|R.done C<|Xr C U U<|Rm C U U<|Rm C U U<|R.sliceTo C U U U U runUnderlying28 sizeOf3 O O<|Ad C U U<|X.ret C U U func107 U (by exact .tmp U .nil) ?_
     exact hret _ _ [_] _ (RO.le_refl _) ⟨by rw [hcc,Int.toNat_natCast];rfl,rfl,_,by rw [hcc]⟩ (.refl _)
   ·have he':l[q+1]≠l[q]:=by simpa using he
    refine X.skip C.1<|X.inBlock C.1<|X.region C U U<|Rm C U U<|Ra C U U U<|Ad C U U<|X.weaken ?_ (hnext (q+2) ⟨O,O, ?_⟩ O)
    ·exact⟨rfl,by simp [look];omega,trivial⟩
    ·rw [compact_new hk' he',hk3,List.take_succ_eq_append_getElem hk']
  ·obtain rfl:k=l.length:=by omega
   rw [List.take_length] at hk3
   refine X.exit C.1 U<|Xr C U U<|Rm C U U<|Ad C U U<|X.ret C U U func107 U (by exact .tmp U .nil) ?_
   exact hself hk3 _ _ [_] _ (RO.le_refl _) ⟨rfl,rfl,rfl⟩ (.refl _)
end Go.Lg.B
namespace Go.Lg.B
open Go Go.Conc Go.Lg Go.Proofs Go.Proofs.Tryz
variable {b:Bk}{v:Value}{ro:RO}
def offOf(b:Bk)(k:Int):List Int×Int:=if openH b (b.compass k)≠0 then([],openH b (b.compass k)) else(compactL (((cases b).map fun c=>c.a.off k).mergeSort fun x y=>decide (x≤y)),0)
theorem Lot.getOff(c:Lot){k:Int}(h0:0≤k)(h1:k<3):c.cells[2+k.toNat*1]? =some (.int .i64 (c.a.off k)):=by
 have:k=0∨k=1∨k=2:=O
 rcases this with rfl|rfl|rfl<;>rfl
variable {main:Bool}{J:Goroutine→Mem→Prop}(hJ:Closed prog main J)
include hJ
theorem off1_c'(hv:BkV ro v b)(hs:b.small){p:Nat}{t:TypeId}{fq:Nat×Nat}(k:Int)(hp:ro p=some (.cells [.int .i64 k].toArray t fq)):CallP prog J (.func (.func 104) #[] [.pointer (some ⟨p,0,none⟩)].toArray) [v] ro (.int .i64 (b.compass k)):=by
 have hvv:=hv
 obtain⟨vc,vw,rfl,hc,hw⟩:=hv
 obtain⟨cb,cc,rfl⟩:=hc.form
 obtain⟨wb,wc,rfl⟩:=hw.form
 refine CallP.introC hJ Kr fun c cs tail hret=>enter_X (n:=7) func104 U U (Nl U) ?_
 have C:Ctx prog main J (bf 104 .normal):=⟨hJ,by decide⟩
 refine Xr C U U<|R.box C U U U U fun p2=>Ad C U U<|Xr C U U<|R5 C U U isAgg105 sizeOf105 V Tk5<|R.loadOneRo C U U U isAgg3 hp U<|R.callP C U U U U (compass_c hJ hvv hs k)<|Ad C U U<|Xt C func104<|Hp hret ?_
 rfl
theorem off_c(he:Env ro)(hv:BkV ro v b)(hs:b.short)(k:Int):CallR prog J (fnv 35) [v, .int .i64 k] ro (fun w ro'=>∃vl,LsI ro' vl (offOf b k).1∧w= .tuple [vl, .int .i64 (offOf b k).2].toArray):=by
 obtain⟨vc,vw,rfl,hc,hw⟩:=hv
 obtain⟨cb,cc,rfl⟩:=hc.form
 obtain⟨wb,wc,rfl⟩:=hw.form
 refine CallR.intro hJ Kr fun c cs tail hret=>enter_X (n:=40) func35 U U (Nl U) ?_
 have C:Ctx prog main J (bf 35 .normal):=⟨hJ,by decide⟩
 refine Xr C U U<|R.box C U U U U fun p2=>R.box C U U U U fun p3=>R.asg C U U U<|Ad C U U<|Xr C U U<|R.persist C.1 fun ro1 hl1 hps=>?_
 have hc1:=hc.mono hl1
 have hw1:=hw.mono hl1
 refine R5 C U U isAgg25 sizeOf25 V Tk5<|R.makeFunc C U U U U<|R.callR C U U U U ((open_c hJ (he.mono hl1) hc1 hw1 hs _ (b.compass k) fun hg=>off1_c' hJ ⟨_,_,rfl,hc1,hw1⟩ hg.small k hps)) fun v' ro2 hl2 hp=>?_
 have hps:=hl2 _ _ hps
 rcases hp with⟨h0,rfl⟩|⟨h0,vl,hls,rfl⟩
 ·
  refine Rm C U U<|R.ext C U U U U<|R.ext C U U U U<|R.alloc C U U zeroValue126 U fun p6=>R.store C U U U U sizeOf126 U U U V Ph6<|Ad C U U<|Xs C<|Xr C U U<|Rm C U U<|R.int C U U U U b_neq<|R.done C<|X.cond C.1 U (fun hq=>?_) (fun hq=>?_)
  ·refine Xr C U U<|Rm C U U<|R.asg C U U U<|Ad C U U<|X.ret C U U func35 U (by exact(.tmp U (.tmp U .nil)))<|Hr hret (RO.le_trans hl1 hl2) ?_
   exact⟨_,by rw [offOf,if_pos h0];exact .nil,by rw [offOf,if_pos h0];rfl⟩
  ·simp at hq;contradiction
 ·
  obtain⟨hb,hk0,hcn⟩:=openH_good h0
  have hcl:=cases_le hb
  have hnc:=hb.nc
  have hkb:0≤k∧k<3:=by
   have:=there_zero.1 hk0
   simp only [between,Bool.and_eq_true,decide_eq_true_eq] at this
   omega
  have hpos:0<(cases b).length:=by
   cases h:cases b with
   |nil=>exact absurd h hcn
   |cons=>simp
  obtain⟨lb,lc,rfl⟩:=hls.form
  refine Rm C U U<|R.ext C U U U U<|R.ext C U U U U<|R.alloc C U U zeroValue126 U fun p6=>R.store C U U U U sizeOf126 U U U V Ph6<|Ad C U U<|Xs C<|Xr C U U<|Rm C U U<|R.int C U U U U b_neq<|R.done C<|X.cond C.1 U (fun hq=>?_) (fun hq=>?_)
  ·simp at hq
  ·refine X.skip C.1<|Xr C U U<|Ad C U U<|Xs C<|Xr C U U<|Rf C 5 U U runUnderlying126 U sizeOf124<|Rl C U U isAgg124 V U<|Rn C U U runUnderlying124<|Rm C U U<|R.done C<|X.block C.1<|X.drop C.1 (own':=tail) Vs<|X.loopI (ι:=Nat×Value×List (Nat×Obj)) C.1 (fun s=>s.1≤(cases b).length∧Buf 3 1 tail s.2.1 ((((cases b).map fun c=>c.a.off k).take s.1).flatMap ic) s.2.2)
    (fun s=> [(3, .pointer (some ⟨p3,0,none⟩)),(8,s.2.1),(21, .slice lb (cases b).length lc),(22, .int .i64 ((cases b).length:Int)),(23, .int .i64 (s.1:Int))])
    (fun s=>⟨ro2,s.2.2⟩) (fun s=>(cases b).length-s.1) (0, .slice none 0 0,tail) ⟨Nat.zero_le _, .nil⟩ rfl ⟨U,U,U,U,U,trivial⟩ fun s hs' hnext=>?_
   obtain⟨i,v0,own0⟩:=s
   obtain⟨hi,hbuf⟩:=hs'
   simp only at hi hbuf hnext⊢
   refine Xr C U U<|R.int C U U U U b_lss<|R.done C<|Xs C<|Xk C U (fun hlt=>?_) (fun hlt=>?_)
   ·have hi':i<(cases b).length:=O
    obtain⟨pp,off,cap,l,t,fq,hsl,hrop,hsub⟩:=hls.at Lot.len O
    cases hsl
    have hfc:=flat_len (((cases b).map fun c=>c.a.off k).take i)
    rw [List.length_take,List.length_map] at hfc
    refine X.skip C.1<|Xs C<|X.block C.1<|Xr C U U<|Rx C U U U runUnderlying124 sizeOf111<|R.loadAggRo C U U U isAgg111 sizeOf111 hrop (hsub i hi')<|R.alloc C U U zeroValue111 U fun p10=>R.store C U U U U sizeOf111 U U U V Ph6<|R.done C<|X.region C U U<|Rm C U U<|R.loadOneRo C U U U isAgg3 hps U<|Rf C 0 U U runUnderlying111 U sizeOf109<|Rf C 2 U U runUnderlying109 U sizeOf107<|R.indexAddrA C U U U U runUnderlying107 sizeOf3 O O<|R.loadOne C U U U isAgg3 V ((cases b)[i].getOff hkb.1 hkb.2)<|R.buildSlice C (vs:=_) U U (show pvals _ _=some (numbered 0 [_]) from rfl) U runUnderlying28 sizeOf3 zeroValue3 Dd (Cat.one U U) fun p33=>R.append2 (kk:=1) C [_] U U U U runUnderlying28 runUnderlying28 (fun _=>nofun) (show prog.info? 3=some Tryz.t3 by kernel_rfl) U U U Dd Dd hbuf U U (by(try simp only [List.length_append,List.length_cons,List.length_nil]);omega) fun v' own' hb'=>Ad C U U<|X.inBlock C.1<|X.region C U U<|Ra C U U U<|Rm C U U<|R.done C<|X.drop C.1 (own':=own') (List.sublist_cons_self _ _)<|X.weaken ?_ (hnext (i+1,v',own') ⟨hi', ?_⟩ Zo)
    ·exact⟨rfl,rfl,rfl,rfl,by simp [look],trivial⟩
    ·have:((cases b).map fun c=>c.a.off k).take (i+1)=((cases b).map fun c=>c.a.off k).take i++ [(cases b)[i].a.off k]:=by
      rw [List.take_succ_eq_append_getElem (by simpa using hi'),List.getElem_map]
     rw [this,List.flatMap_append]
     exact hb'
   ·obtain rfl:i=(cases b).length:=by omega
    have hall:((cases b).map fun c=>c.a.off k).take (cases b).length=(cases b).map fun c=>c.a.off k:=by rw [List.take_of_length_le];simp
    rw [hall] at hbuf
    have hol:((cases b).map fun c=>c.a.off k).length=(cases b).length:=by simp
    have hres:offOf b k=(compactL (((cases b).map fun c=>c.a.off k).mergeSort fun x y=>decide (x≤y)),0):=by rw [offOf,if_neg (by simp [h0])]
    generalize(cases b).map (fun c=>c.a.off k)=L at*
    obtain⟨p,cap,sp,rfl,rfl,hcap⟩:∃p cap sp,v0= .slice (some ⟨p,0,none⟩) L.length cap∧own0=(p, .cells (L.flatMap ic++sp).toArray 3 (0,0))::tail∧L.length≤cap:=by
     have hfl:=flat_len L
     generalize L.flatMap ic=cl at hbuf hfl
     cases hbuf with
     |nil=>simp at hfl;omega
     |blk c1 c2 c3=>
      rename_i p len cap spare
      obtain rfl:len=L.length:=by omega
      exact⟨p,cap,spare,rfl,rfl,c3⟩
    have hsl:(L.mergeSort fun x y=>decide (x≤y)).length=L.length:=List.length_mergeSort _
    have hsc:=sort_c hJ (p:=p) (cap:=cap) (sp:=sp) (l:=L) (ro:=ro2) O
    have hcc:=compact_c hJ (p:=p) (cap:=cap) (sp:=sp) (l:=L.mergeSort fun x y=>decide (x≤y)) (ro:=ro2) O O
    rw [hsl] at hcc
    refine X.exit C.1 U<|Xr C U U<|Rm C U U<|R.call C U U U U U hsc fun v1 ro4 pre1 hle1 hq1=>R.done C<|Xr C U U ?_
    obtain⟨rfl,rfl,rfl⟩:=hq1
    refine Rm C U U<|R.call C U U U U U hcc fun v1 ro4 pre1 hle1 hq1=>?_
    obtain⟨rfl,rfl,r,rfl⟩:=hq1
    refine R.asg C U U U<|Ad C U U<|X.persist C.1 fun ro5 hl5 hp5=>X.ret C U U func35 U (by exact(.tmp U (.tmp U .nil)))<|Hr hret (RO.le_trans hl1 (RO.le_trans hl2 hl5)) ?_
    rw [hres]
    refine⟨_,⟨_,_,rfl, .inr ⟨p,0,_,_,_,rfl,hp5, ?_⟩⟩,rfl⟩
    have:=Sub.front ((compactL (L.mergeSort fun x y=>decide (x≤y))).flatMap ic) r
    rw [flat_len] at this
    rw [Nat.mul_one]
    exact this
end Go.Lg.B
namespace Go.Lg
open Go Go.Conc
theorem Upd.app{own own':List (Nat×Obj)}{p:Nat}{o o':Obj}(A:List (Nat×Obj))(h:Upd own p o o' own'):Upd (A++own) p o o' (A++own'):=by
 induction A with
 |nil=>exact h
 |cons x A ih=>exact .there ih
theorem ones_flat{α:Type}{enc:α→List Value}(h:∀x,ones (enc x)=true)(l:List α):ones (l.flatMap enc)=true:=by
 have app:∀a c:List Value,ones a=true→ones c=true→ones (a++c)=true:=by
  intro a c
  induction a with
  |nil=>intro _ h;exact h
  |cons x a ih=>intro h1 h2;simp only [List.cons_append,ones,Bool.and_eq_true] at h1⊢;exact⟨h1.1,ih h1.2 h2⟩
 induction l with
 |nil=>rfl
 |cons x l ih=>rw [List.flatMap_cons];exact app _ _ (h x) ih
end Go.Lg
namespace Go.Lg.B
open Go Go.Conc Go.Lg Go.Proofs Go.Proofs.Tryz
variable {v:Value}{ro:RO}
theorem ones_W(xs:List Wt):ones (xs.flatMap Wt.cells)=true:=ones_flat (fun _=>rfl) xs
theorem ones_C(xs:List Rc):ones (xs.flatMap Rc.cells)=true:=ones_flat (fun _=>rfl) xs
variable {main:Bool}{J:Goroutine→Mem→Prop}(hJ:Closed prog main J)
include hJ
theorem cloneW_c{xs:List Wt}(hls:Ls Wt.cells 5 ro v xs)(hn:xs.length≤1000000):CallV prog J (fnv 115) [v] ro [] (fun v' ro' pre'=>ro'=ro∧Buf 58 5 [] v' (xs.flatMap Wt.cells) pre'):=by
 have hls0:=hls
 obtain⟨base,cap,rfl,hbase⟩:=hls
 refine CallV.intro (first:= []) (cap:= []) hJ Kr fun c cs tail hret=>?_
 let J:=J
 have hfl:=flatMap_len Wt.len xs
 refine enter_X (n:=8) func115 U U (Nl U) ?_
 have C:Ctx prog main J (bf 115 .normal):=⟨hJ,by decide⟩
 refine Xr C U U<|Ad C U U<|Xs C<|Xr C U U<|Rm C U U<|R.eqNil C U U U U runUnderlying23<|R.done C<|X.cond C.1 U (fun hz=>?_) (fun hz=>?_)
 ·have hx:xs= []:=by
   rcases hbase with h|⟨_,_,_,_,_,h,_⟩
   ·exact h
   ·rw [h] at hz;cases hz
  subst hx
  refine Xr C U U<|Ad C U U<|X.ret C U U func115 U (by exact .tmp U .nil) ?_
  exact hret _ _ [] _ (RO.le_refl _) ⟨rfl, .nil⟩ (.refl _)
 ·refine X.skip C.1<|Xr C U U<|R.buildSlice C (vs:=_) U U (show pvals _ _=some (numbered 0 []) from rfl) U runUnderlying23 sizeOf58 zeroValue58 Dd (.nil) fun p5=>Rm C U U<|R.append (kk:=5) C U U U U runUnderlying23 runUnderlying23 (fun _=>nofun) (show prog.info? 58=some Tryz.t58 by kernel_rfl) U U U Dd Dd (Buf.blk (cells:= []) (spare:= []) (len:=0) (cap:=0) U U (Nat.le_refl _)) (hls0.rd Wt.len) (ones_W xs) (by simp only [List.length_nil];omega) fun v' own' hb'=>Ad C U U<|X.ret C U U func115 U (by exact .tmp U .nil) ?_
  obtain⟨own0,rfl,hb0⟩:=Buf.unapp (tail:= []) (H:=tail) hb'
  exact hret _ _ own0 _ (RO.le_refl _) ⟨rfl,hb0⟩ (.refl _)
theorem cloneC_c{xs:List Rc}(hls:Ls Rc.cells 2 ro v xs)(hn:xs.length≤1000000):CallV prog J (fnv 119) [v] ro [] (fun v' ro' pre'=>ro'=ro∧Buf 46 2 [] v' (xs.flatMap Rc.cells) pre'):=by
 have hls0:=hls
 obtain⟨base,cap,rfl,hbase⟩:=hls
 refine CallV.intro (first:= []) (cap:= []) hJ Kr fun c cs tail hret=>?_
 let J:=J
 have hfl:=flatMap_len Rc.len xs
 refine enter_X (n:=8) func119 U U (Nl U) ?_
 have C:Ctx prog main J (bf 119 .normal):=⟨hJ,by decide⟩
 refine Xr C U U<|Ad C U U<|Xs C<|Xr C U U<|Rm C U U<|R.eqNil C U U U U runUnderlying22<|R.done C<|X.cond C.1 U (fun hz=>?_) (fun hz=>?_)
 ·have hx:xs= []:=by
   rcases hbase with h|⟨_,_,_,_,_,h,_⟩
   ·exact h
   ·rw [h] at hz;cases hz
  subst hx
  refine Xr C U U<|Ad C U U<|X.ret C U U func119 U (by exact .tmp U .nil) ?_
  exact hret _ _ [] _ (RO.le_refl _) ⟨rfl, .nil⟩ (.refl _)
 ·refine X.skip C.1<|Xr C U U<|R.buildSlice C (vs:=_) U U (show pvals _ _=some (numbered 0 []) from rfl) U runUnderlying22 sizeOf46 zeroValue46 Dd (.nil) fun p5=>Rm C U U<|R.append (kk:=2) C U U U U runUnderlying22 runUnderlying22 (fun _=>nofun) (show prog.info? 46=some Tryz.t46 by kernel_rfl) U U U Dd Dd (Buf.blk (cells:= []) (spare:= []) (len:=0) (cap:=0) U U (Nat.le_refl _)) (hls0.rd Rc.len) (ones_C xs) (by simp only [List.length_nil];omega) fun v' own' hb'=>Ad C U U<|X.ret C U U func119 U (by exact .tmp U .nil) ?_
  obtain⟨own0,rfl,hb0⟩:=Buf.unapp (tail:= []) (H:=tail) hb'
  exact hret _ _ own0 _ (RO.le_refl _) ⟨rfl,hb0⟩ (.refl _)
end Go.Lg.B
namespace Go.Lg
open Go Go.Conc
theorem R.finish{P:Program}{main:Bool}{J:Goroutine→Mem→Prop}{b:Frame}{cs:List Frame}{n:Nat}{ds:List Deferred}{σ:Slots}{ro:RO}{own:List (Nat×Obj)}{k:List Item}{ops:Array Oper}{l:List Nat}{α:Type}{enc:α→List Value}{e:TypeId}{kk:Nat}{v:Value}{xs:List α}{tail:List (Nat×Obj)}(hJ:Closed P main J)(hk:∀x,(enc x).length=kk)(hkp:0<kk)(hb:Buf e kk tail v (xs.flatMap enc) own)
  (h:∀ro':RO,ro.le ro'→Ls enc kk ro' v xs→R J b cs n ops l k ds σ ⟨ro',tail⟩):R J b cs n ops l k ds σ ⟨ro,own⟩:=fun hok=>X.finish hJ hk hkp hb fun ro' hl hls=>h ro' hl hls hok
end Go.Lg
namespace Go.Lg.B
open Go Go.Conc Go.Lg Go.Proofs Go.Proofs.Tryz
variable {b:Bk}{v:Value}{ro:RO}
def noBk:Value:= .agg [.int .i64 0, .int .i64 0, .int .i64 0, .slice none 0 0, .slice none 0 0].toArray
def NewV(ro:RO)(b:Bk)(h:Int)(w:Value):Prop:=(h≠0∧w= .tuple [noBk, .int .i64 h].toArray)∨(h=0∧∃v,BkV ro v b∧w= .tuple [v, .int .i64 0].toArray)
variable {main:Bool}{J:Goroutine→Mem→Prop}(hJ:Closed prog main J)
include hJ
theorem agreed_c(he:Env ro)(hv:BkV ro v b)(hs:b.short):CallR prog J (fnv 116) [v] ro (fun w ro'=>NewV ro' b (openH b 0) w):=by
 have hvv:=hv
 obtain⟨vc,vw,rfl,hc,hw⟩:=hv
 obtain⟨cb,cc,rfl⟩:=hc.form
 obtain⟨wb,wc,rfl⟩:=hw.form
 refine CallR.intro hJ Kr fun c cs tail hret=>enter_X (n:=24) func116 U U (Nl U) ?_
 have C:Ctx prog main J (bf 116 .normal):=⟨hJ,by decide⟩
 refine Xr C U U<|R.box C U U U U fun p1=>R.alloc C U U zeroValue25 U fun p2=>Ad C U U<|Xs C<|Xr C U U<|R5 C U U isAgg25 sizeOf25 V Tk5<|R.callR C U U U U ((open_c hJ he hc hw hs _ 0 fun hg=>nothing_c hJ b hvv)) fun v1 ro2 hl2 hp=>?_
 rcases hp with⟨h0,rfl⟩|⟨h0,vl,hls,rfl⟩
 ·
  refine Rm C U U<|R.ext C U U U U<|R.ext C U U U U<|R.alloc C U U zeroValue126 U fun p4=>R.store C U U U U sizeOf126 U U U V Ph6<|Ad C U U<|Xr C U U<|Rm C U U<|R.int C U U U U b_neq<|R.done C<|X.cond C.1 U (fun hq=>?_) (fun hq=>?_)
  ·refine Xr C U U ?_;refine R.build C U U U zeroValue25 U runUnderlying25 Kr .nil<|Rm C U U<|R.store C U U U U sizeOf25 U U U V Ph5<|Ad C U U<|X.ret C U U func116 U (by exact(.agg U isAgg25 sizeOf25 V Tk5 (.tmp U .nil)))<|Hr hret hl2 ?_
   exact .inl ⟨h0,rfl⟩
  ·simp at hq;contradiction
 ·
  have hb:b.good:=(openH_good h0).1
  have hnc:=hb.nc
  have hnw:=hb.nw
  obtain⟨lb,lc,rfl⟩:=hls.form
  refine Rm C U U<|R.ext C U U U U<|R.ext C U U U U<|R.alloc C U U zeroValue126 U fun p4=>R.store C U U U U sizeOf126 U U U V Ph6<|Ad C U U<|Xr C U U<|Rm C U U<|R.int C U U U U b_neq<|R.done C<|X.cond C.1 U (fun hq=>?_) (fun hq=>?_)
  ·simp at hq
  ·refine X.skip C.1<|Xs C<|Xd C fun hok=>Df (off':=3) C 0 hok U U U runUnderlying25 U sizeOf22 U<|Dl 1 hok (fun _ _ A h=>R.loadOne C U (A.w U U) (A.x U U) isAgg22 Vm U h)<|Df (off':=4) C 3 hok U U U runUnderlying25 U sizeOf23 U<|Dl 4 hok (fun _ _ A h=>R.loadOne C U (A.w U U) (A.x U U) isAgg23 Vm U h)<|De 2 (some 17) [true,false] hok (fun _ _ A hk=>?_)
   refine R.call C U (A.w U U) (A.x U U) (A.s U U) (pre:= []) U (cloneC_c hJ (hc.mono hl2) O) fun vC roC preC hleC hqC=>hk _ _ ⟨(QFs.cons (QF.of U (fun _ _ A h=>R.loadOne C U (A.w U U) (A.x U U) isAgg23 Vm U h)) QFs.nil), ?_⟩
   refine Df (off':=3) C 6 hok U U U runUnderlying25 U sizeOf22 U<|De 5 (some 20) [false] hok (fun _ _ A hk=>?_)
   obtain⟨rfl,hbC⟩:=hqC
   obtain⟨bsC,capC,rfl⟩:=hbC.form Dd
   refine R.call C U (A.w U U) (A.x U U) (A.s U U) (pre:= []) U (cloneW_c hJ (hw.mono hl2) O) fun vW roW preW hleW hqW=>hk _ _ ⟨QFs.nil, ?_⟩
   refine De 7 none [] hok (fun _ _ A hk=>?_)
   obtain⟨rfl,hbW⟩:=hqW
   obtain⟨bsW,capW,rfl⟩:=hbW.form Dd
   refine R.store C U (A.w U U) (A.x U U) (A.x U U) sizeOf22 U U U (by repeat (first|exact Uh|apply Ut|apply Upd.app)) (.skip (.skip (.skip (.here .nil)))) (hk undef _ ⟨QFs.nil, ?_⟩)
   refine Df (off':=4) C 8 hok U U U runUnderlying25 U sizeOf23 U<|De 9 none [] hok (fun _ _ A hk=>?_)
   refine R.store C U (A.w U U) (A.x U U) (A.x U U) sizeOf23 U U U (by repeat (first|exact Uh|apply Ut|apply Upd.app)) (.skip (.skip (.skip (.skip (.here .nil))))) (hk undef _ ⟨QFs.nil, ?_⟩)
   refine D.done C hok Kr<|Xr C U U<|R.loadAgg C U U U isAgg25 sizeOf25 Vm Tk5<|R.store C U U U U sizeOf25 U U U (by repeat (first|exact Uh|apply Ut|apply Upd.app)) Ph5<|Ad C U U<|X.finish C.1 Wt.len Dd (hbW.app _) fun ro3 hl3 hlsW=>X.finish C.1 Rc.len Dd (hbC.app _) fun ro4 hl4 hlsC=>X.ret C U U func116 U (by exact(.agg U isAgg25 sizeOf25 V Tk5 (.tmp U .nil)))<|Hr hret (RO.le_trans hl2 (RO.le_trans hl3 hl4)) ?_
   exact .inr ⟨h0,_,⟨_,_,rfl,hlsC,hlsW.mono hl4⟩,rfl⟩
omit hJ in
def heard(b:Bk)(w:Wt):Bk:={b with ws:=b.ws++ [w] }
omit hJ in
def hearH(b:Bk)(w:Wt):Int:=if checkChart b≠0 then checkChart b else openH (heard b w) 0
theorem hear_c(he:Env ro)(hv:BkV ro v b)(hs:b.short)(w:Wt):CallR prog J (fnv 40) [v,w.val] ro (fun x ro'=>NewV ro' (heard b w) (hearH b w) x):=by
 have hvv:=hv
 obtain⟨vc,vw,rfl,hc,hw⟩:=hv
 obtain⟨cb,cc,rfl⟩:=hc.form
 obtain⟨wb,wc,rfl⟩:=hw.form
 refine CallR.intro hJ Kr fun c cs tail hret=>enter_X (n:=24) func40 U U (Nl U) ?_
 have C:Ctx prog main J (bf 40 .normal):=⟨hJ,by decide⟩
 refine Xr C U U<|R.box C U U U U fun p2=>R.box C U U U U fun p3=>R.alloc C U U zeroValue25 U fun p4=>Ad C U U<|Xs C<|Xr C U U<|R5 C U U isAgg25 sizeOf25 V Tk5<|R.callP C U U U U (checkChart_c hJ (by assumption) (by assumption) (by assumption))<|Ad C U U<|Xr C U U<|Rm C U U<|R.int C U U U U b_neq<|R.done C<|X.cond C.1 U (fun hh=>?_) (fun hh=>?_)
 ·simp at hh
  refine Xr C U U ?_;refine R.build C U U U zeroValue25 U runUnderlying25 Kr .nil<|Rm C U U<|R.store C U U U U sizeOf25 U U U V Ph5<|Ad C U U<|X.ret C U U func40 U (by exact(.agg U isAgg25 sizeOf25 V Tk5 (.tmp U .nil)))<|Hr hret (RO.le_refl _) ?_
  exact .inl ⟨by rw [hearH,if_pos hh];exact hh,by rw [hearH,if_pos hh];rfl⟩
 ·simp at hh
  have hb:=good_iff.1 hh
  have hnw:=hb.nw
  have hnc:=hb.nc
  have hfl:=flatMap_len Wt.len b.ws
  have hfin:hearH b w=openH (heard b w) 0:=by rw [hearH,if_neg (by simp [hh])]
  have hcat:b.ws.flatMap Wt.cells++w.cells=(b.ws++ [w]).flatMap Wt.cells:=by simp
  have hsh:(heard b w).short:=⟨by show b.cs.length≤1000;omega,by show(b.ws++ [w]).length≤1000;simp;omega⟩
  rw [hfin] at hret
  refine X.skip C.1<|Xs C<|Xd C fun hok=>Df (off':=4) C 0 hok U U U runUnderlying25 U sizeOf23 U<|Dl 1 hok (fun _ _ A h=>R.loadOne C U (A.w U U) (A.x U U) isAgg23 Vm U h)<|Dl 3 hok (fun _ _ A h=>R.loadAgg C U (A.w U U) (A.x U U) isAgg58 sizeOf58 Vm Tk5 h)<|D.eP2 (i:=2) (i':=4) (dst:=(some 15)) (dst':=(some 17)) [true,false] [false,true] hok U U Kr Kr Kr (fun _ _ A hk=>?_) (fun _ _ A hk=>?_)
  ·
   refine R.call C U (A.w U U) (A.x U U) (A.s U U) (pre:= []) U (cloneW_c hJ hw O) fun vW roW preW hleW hqW=>hk _ _ ⟨(QFs.cons (QF.of U (fun _ _ A h=>R.loadAgg C U (A.w U U) (A.x U U) isAgg58 sizeOf58 Vm Tk5 h)) QFs.nil), ?_⟩
   refine De 4 (some 17) [false] hok (fun _ _ A hk=>?_)
   refine R.buildSlice C (vs:=_) U (A.w U U) (show pvals _ _=some (numbered 0 [_]) from(A.p U U)) U runUnderlying23 sizeOf58 zeroValue58 Dd (Cat.one U U) fun p17=>hk _ _ ⟨QFs.nil, ?_⟩
   refine De 5 (some 18) [] hok (fun _ _ A hk=>?_)
   obtain⟨rfl,hbW⟩:=hqW
   refine R.append1 (kk:=5) C U (A.w U U) (A.x U U) (A.x U U) runUnderlying23 runUnderlying23 (fun _=>nofun) (show prog.info? 58=some Tryz.t58 by kernel_rfl) U U U Dd Dd (hbW.app _) U U (by(try simp only [List.length_append,List.length_cons,List.length_nil]);omega) fun v' own' hb'=>hk _ _ ⟨QFs.nil, ?_⟩
   refine Df (off':=4) C 6 hok U U U runUnderlying25 U sizeOf23 U<|De 7 none [] hok (fun _ _ A hk=>?_)
   obtain⟨own1,rfl,hb1⟩:=hb'.unapp
   replace hb1:Buf 58 5 [] v' ((b.ws++ [w]).flatMap Wt.cells) own1:=by rw [←hcat];exact hb1
   obtain⟨bs1,cap1,rfl⟩:=hb1.form Dd
   refine R.store C U (A.w U U) (A.x U U) (A.x U U) sizeOf23 U U U (by repeat (first|exact Uh|apply Ut|apply Upd.app)) (.skip (.skip (.skip (.skip (.here .nil))))) (hk undef _ ⟨QFs.nil, ?_⟩)
   refine D.done C hok Kr<|Xr C U U<|R.finish C.1 Wt.len Dd (hb1.app _) fun ro3 hl3 hls3=>?_
   have hv3:BkV ro3 (.agg [.int .i64 b.w, .int .i64 b.h, .int .i64 b.f, .slice cb b.cs.length cc, .slice bs1 (((b.ws++ [w]).flatMap Wt.cells).length/5) cap1].toArray) (heard b w):=⟨_,_,rfl,hc.mono hl3,hls3⟩
   have he3:=he.mono hl3
   refine R.loadAgg C U U U isAgg25 sizeOf25 Vm Tk5<|R.callR C U U U U (agreed_c hJ (by assumption) (by assumption) (by assumption)) fun v1 ro2 hl2 hp=>?_
   rcases hp with⟨h0,rfl⟩|⟨h0,v2,⟨vc2,vw2,rfl,hc2,hw2⟩,rfl⟩
   ·
    unfold noBk
    refine R.ext C U U U U<|R.ext C U U U U<|R.store C U U U U sizeOf25 U U U (by repeat (first|exact Uh|apply Ut|apply Upd.app)) Ph5<|Ad C U U<|X.ret C U U func40 U (by exact(.agg U isAgg25 sizeOf25 Vm Tk5 (.tmp U .nil)))<|hret _ _ _ (RO.le_trans hl3 hl2) (by repeat (first|exact List.Sublist.refl _|apply List.Sublist.cons|apply List.sublist_append_of_sublist_right)) ?_
    exact .inl ⟨h0,rfl⟩
   ·
    obtain⟨cb2,cc2,rfl⟩:=hc2.form
    obtain⟨wb2,wc2,rfl⟩:=hw2.form
    refine R.ext C U U U U<|R.ext C U U U U<|R.store C U U U U sizeOf25 U U U (by repeat (first|exact Uh|apply Ut|apply Upd.app)) Ph5<|Ad C U U<|X.ret C U U func40 U (by exact(.agg U isAgg25 sizeOf25 Vm Tk5 (.tmp U .nil)))<|hret _ _ _ (RO.le_trans hl3 hl2) (by repeat (first|exact List.Sublist.refl _|apply List.Sublist.cons|apply List.sublist_append_of_sublist_right)) ?_
    exact .inr ⟨h0,_,⟨_,_,rfl,hc2,hw2⟩,rfl⟩
  ·
   refine R.buildSlice C (vs:=_) U (A.w U U) (show pvals _ _=some (numbered 0 [_]) from(A.p U U)) U runUnderlying23 sizeOf58 zeroValue58 Dd (Cat.one U U) fun p17=>hk _ _ ⟨(QFs.cons (QF.of U (fun _ _ A h=>R.loadOne C U (A.w U U) (A.x U U) isAgg23 Vm U h)) QFs.nil), ?_⟩
   refine De 2 (some 15) [false] hok (fun _ _ A hk=>?_)
   refine R.call C U (A.w U U) (A.x U U) (A.s U U) (pre:= []) U (cloneW_c hJ hw O) fun vW roW preW hleW hqW=>hk _ _ ⟨QFs.nil, ?_⟩
   refine De 5 (some 18) [] hok (fun _ _ A hk=>?_)
   obtain⟨rfl,hbW⟩:=hqW
   refine R.perm C.1 List.perm_middle<|R.append1 (kk:=5) C U (A.w U U) (A.x U U) (A.x U U) runUnderlying23 runUnderlying23 (fun _=>nofun) (show prog.info? 58=some Tryz.t58 by kernel_rfl) U U U Dd Dd (hbW.app _) U U (by(try simp only [List.length_append,List.length_cons,List.length_nil]);omega) fun v' own' hb'=>hk _ _ ⟨QFs.nil, ?_⟩
   refine Df (off':=4) C 6 hok U U U runUnderlying25 U sizeOf23 U<|De 7 none [] hok (fun _ _ A hk=>?_)
   obtain⟨own1,rfl,hb1⟩:=hb'.unapp
   replace hb1:Buf 58 5 [] v' ((b.ws++ [w]).flatMap Wt.cells) own1:=by rw [←hcat];exact hb1
   obtain⟨bs1,cap1,rfl⟩:=hb1.form Dd
   refine R.store C U (A.w U U) (A.x U U) (A.x U U) sizeOf23 U U U (by repeat (first|exact Uh|apply Ut|apply Upd.app)) (.skip (.skip (.skip (.skip (.here .nil))))) (hk undef _ ⟨QFs.nil, ?_⟩)
   refine D.done C hok Kr<|Xr C U U<|R.finish C.1 Wt.len Dd (hb1.app _) fun ro3 hl3 hls3=>?_
   have hv3:BkV ro3 (.agg [.int .i64 b.w, .int .i64 b.h, .int .i64 b.f, .slice cb b.cs.length cc, .slice bs1 (((b.ws++ [w]).flatMap Wt.cells).length/5) cap1].toArray) (heard b w):=⟨_,_,rfl,hc.mono hl3,hls3⟩
   have he3:=he.mono hl3
   refine R.loadAgg C U U U isAgg25 sizeOf25 Vm Tk5<|R.callR C U U U U (agreed_c hJ (by assumption) (by assumption) (by assumption)) fun v1 ro2 hl2 hp=>?_
   rcases hp with⟨h0,rfl⟩|⟨h0,v2,⟨vc2,vw2,rfl,hc2,hw2⟩,rfl⟩
   ·
    unfold noBk
    refine R.ext C U U U U<|R.ext C U U U U<|R.store C U U U U sizeOf25 U U U (by repeat (first|exact Uh|apply Ut|apply Upd.app)) Ph5<|Ad C U U<|X.ret C U U func40 U (by exact(.agg U isAgg25 sizeOf25 Vm Tk5 (.tmp U .nil)))<|hret _ _ _ (RO.le_trans hl3 hl2) (by repeat (first|exact List.Sublist.refl _|apply List.Sublist.cons|apply List.sublist_append_of_sublist_right)) ?_
    exact .inl ⟨h0,rfl⟩
   ·
    obtain⟨cb2,cc2,rfl⟩:=hc2.form
    obtain⟨wb2,wc2,rfl⟩:=hw2.form
    refine R.ext C U U U U<|R.ext C U U U U<|R.store C U U U U sizeOf25 U U U (by repeat (first|exact Uh|apply Ut|apply Upd.app)) Ph5<|Ad C U U<|X.ret C U U func40 U (by exact(.agg U isAgg25 sizeOf25 Vm Tk5 (.tmp U .nil)))<|hret _ _ _ (RO.le_trans hl3 hl2) (by repeat (first|exact List.Sublist.refl _|apply List.Sublist.cons|apply List.sublist_append_of_sublist_right)) ?_
    exact .inr ⟨h0,_,⟨_,_,rfl,hc2,hw2⟩,rfl⟩
end Go.Lg.B
namespace Go.Lg
open Go Go.Conc
theorem Put.app{o:Nat}{vs l l':List Value}(r:List Value)(h:Put o vs l l'):Put o vs (l++r) (l'++r):=by
 induction h with
 |nil=>exact .nil
 |here _ ih=>exact .here ih
 |skip _ ih=>exact .skip ih
theorem Put.behind{o:Nat}{vs l l':List Value}(h:Put o vs l l'):∀pre:List Value,Put (pre.length+o) vs (pre++l) (pre++l')
 | []=>by simpa using h
 |x::pre=>by
  have:=Put.skip (x:=x) (Put.behind h pre)
  simpa [Nat.add_assoc,Nat.add_comm,Nat.add_left_comm] using this
theorem Put.flat{α:Type}{enc:α→List Value}{k o:Nat}{vs:List Value}(hk:∀x,(enc x).length=k):∀ (xs:List α) (i:Nat) (h:i<xs.length) (y:α) (sp:List Value),Put o vs (enc xs[i]) (enc y)→Put (i*k+o) vs (xs.flatMap enc++sp) ((xs.set i y).flatMap enc++sp)
 |x::xs,0,_,y,sp,hp=>by
  simp only [List.flatMap_cons,List.set_cons_zero,List.append_assoc,Nat.zero_mul,Nat.zero_add]
  exact Put.app _ hp
 |x::xs,i+1,h,y,sp,hp=>by
  have:=Put.behind (Put.flat hk xs i (by simpa using h) y sp hp) (enc x)
  rw [hk] at this
  simp only [List.flatMap_cons,List.set_cons_succ,List.append_assoc]
  rw [show(i+1)*k+o=k+(i*k+o) by rw [Nat.add_mul];omega]
  exact this
theorem Buf.at{e:TypeId}{k:Nat}{tail own:List (Nat×Obj)}{v:Value}{cells:List Value}(h:Buf e k tail v cells own)(hp:0<cells.length):∃p len cap spare,v= .slice (some ⟨p,0,none⟩) len cap∧cells.length=len*k∧own=(p, .cells (cells++spare).toArray e (0,0))::tail∧∀cells':List Value,cells'.length=cells.length→Buf e k tail v cells' ((p, .cells (cells'++spare).toArray e (0,0))::tail):=by
 cases h with
 |nil=>simp at hp
 |blk c1 c2 c3=>exact⟨_,_,_,_,rfl,c1,rfl,fun cells' hc=> .blk (by rw [hc];exact c1) (by rw [List.length_append,hc, ←List.length_append];exact c2) c3⟩
end Go.Lg
namespace Go.Lg.B
open Go Go.Conc Go.Lg Go.Proofs Go.Proofs.Tryz
variable {b:Bk}{v:Value}{ro:RO}
def sured(w:Wt):Wt:={w with sure:=true}
def trusted(b:Bk)(k:Int):Bk:={b with ws:=b.ws.set k.toNat (sured (b.wt k.toNat)) }
def trustH(b:Bk)(k:Int):Int:=if checkChart b≠0 then checkChart b else if b.witness k≠0 then b.witness k else if(b.wt k.toNat).sure=true then 5 else openH (trusted b k) 0
variable {main:Bool}{J:Goroutine→Mem→Prop}(hJ:Closed prog main J)
include hJ
theorem trust_c(he:Env ro)(hv:BkV ro v b)(hs:b.short)(k:Int):CallR prog J (fnv 43) [v, .int .i64 k] ro (fun x ro'=>NewV ro' (trusted b k) (trustH b k) x):=by
 have hvv:=hv
 obtain⟨vc,vw,rfl,hc,hw⟩:=hv
 obtain⟨cb,cc,rfl⟩:=hc.form
 obtain⟨wb,wc,rfl⟩:=hw.form
 refine CallR.intro hJ Kr fun c cs tail hret=>enter_X (n:=42) func43 U U (Nl U) ?_
 have C:Ctx prog main J (bf 43 .normal):=⟨hJ,by decide⟩
 refine Xr C U U<|R.box C U U U U fun p2=>R.alloc C U U zeroValue25 U fun p4=>Ad C U U<|Xs C<|Xr C U U<|R5 C U U isAgg25 sizeOf25 V Tk5<|R.callP C U U U U (checkChart_c hJ (by assumption) (by assumption) (by assumption))<|Ad C U U<|Xr C U U<|Rm C U U<|R.int C U U U U b_neq<|R.done C<|X.cond C.1 U (fun hh=>?_) (fun hh=>?_)
 ·simp at hh
  refine Xr C U U ?_;refine R.build C U U U zeroValue25 U runUnderlying25 Kr .nil<|Rm C U U<|R.store C U U U U sizeOf25 U U U V Ph5<|Ad C U U<|X.ret C U U func43 U (by exact(.agg U isAgg25 sizeOf25 V Tk5 (.tmp U .nil)))<|Hr hret (RO.le_refl _) ?_
  exact .inl ⟨by rw [trustH,if_pos hh];exact hh,by rw [trustH,if_pos hh];rfl⟩
 ·simp at hh
  have hb:=good_iff.1 hh
  have hnw:=hb.nw
  have hnc:=hb.nc
  have hsm:=hb.small
  refine X.skip C.1<|Xs C<|Xr C U U<|R5 C U U isAgg25 sizeOf25 V Tk5 ?_;refine R.build C U U U zeroValue105 U runUnderlying105 Kr (Fills.part U U sizeOf25 U Ph5 .nil)<|Rm C U U<|R.callP C U U U U (witness_c hJ hvv hsm k)<|Ad C U U<|Xr C U U<|Rm C U U<|R.int C U U U U b_neq<|R.done C<|X.cond C.1 U (fun hk=>?_) (fun hk=>?_)
  ·simp at hk
   refine Xr C U U ?_;refine R.build C U U U zeroValue25 U runUnderlying25 Kr .nil<|Rm C U U<|R.store C U U U U sizeOf25 U U U V Ph5<|Ad C U U<|X.ret C U U func43 U (by exact(.agg U isAgg25 sizeOf25 V Tk5 (.tmp U .nil)))<|Hr hret (RO.le_refl _) ?_
   exact .inl ⟨by rw [trustH,if_neg (by simp [hh]),if_pos hk];exact hk,by rw [trustH,if_neg (by simp [hh]),if_pos hk];rfl⟩
  ·simp at hk
   have hkb:=there_zero.1 hk
   simp only [between,Bool.and_eq_true,decide_eq_true_eq] at hkb
   have hki:k.toNat<b.ws.length:=O
   have hwt:=Bk.wt_get hki
   obtain⟨pp,off,cap,l,t,fq,hsl,hrop,hsub⟩:=hw.at Wt.len O
   cases hsl
   have hx:l[off+k.toNat*5+4]? =some (.bool (b.wt k.toNat).sure):=by
    have:=(hsub k.toNat hki).get 4 Dd
    rw [hwt] at this
    simpa [Wt.cells] using this
   refine X.skip C.1<|Xs C<|Xr C U U<|Rf C 4 U U runUnderlying25 U sizeOf23<|Rl C U U isAgg23 V U<|Rm C U U<|Rx C U U U runUnderlying23 sizeOf58<|R.fieldAddr C U U U runUnderlying58 U sizeOf4 U<|R.loadOneRo C U U U isAgg4 hrop hx<|R.done C<|X.cond C.1 U (fun hsu=>?_) (fun hsu=>?_)
   ·refine Xr C U U ?_;refine R.build C U U U zeroValue25 U runUnderlying25 Kr .nil<|R.store C U U U U sizeOf25 U U U V Ph5<|Ad C U U<|X.ret C U U func43 U (by exact(.agg U isAgg25 sizeOf25 V Tk5 (.tmp U .nil)))<|Hr hret (RO.le_refl _) ?_
    exact .inl ⟨by rw [trustH,if_neg (by simp [hh]),if_neg (by simp [hk]),if_pos hsu];decide,by rw [trustH,if_neg (by simp [hh]),if_neg (by simp [hk]),if_pos hsu];rfl⟩
   ·have hfin:trustH b k=openH (trusted b k) 0:=by rw [trustH,if_neg (by simp [hh]),if_neg (by simp [hk]),if_neg (by simp [hsu])]
    rw [hfin] at hret
    have hsh:(trusted b k).short:=⟨by show b.cs.length≤1000;omega,by show(b.ws.set _ _).length≤1000;simp;omega⟩
    have hfl:=flatMap_len Wt.len b.ws
    have hfl2:=flatMap_len Wt.len (b.ws.set k.toNat (sured (b.wt k.toNat)))
    rw [List.length_set] at hfl2
    refine X.skip C.1<|Xr C U U<|Rf C 4 U U runUnderlying25 U sizeOf23<|R.loadOne C U U U isAgg23 Vm U<|R.call C U U U U (pre:= []) U (cloneW_c hJ hw O) fun vW roW preW hleW hqW=>?_
    obtain⟨rfl,hbW⟩:=hqW
    obtain⟨pW,len,capW,spare,rfl,hlen,rfl,hset⟩:=hbW.at O
    obtain rfl:len=b.ws.length:=by omega
    refine Rf C 4 U U runUnderlying25 U sizeOf23<|R.store C U U U U sizeOf23 U U U (by repeat (first|exact Uh|apply Ut|apply Upd.app)) (.skip (.skip (.skip (.skip (.here .nil)))))<|R.done C<|Xr C U U<|Rf C 4 U U runUnderlying25 U sizeOf23<|R.loadOne C U U U isAgg23 Vm U<|Rm C U U<|Rx C U U U runUnderlying23 sizeOf58<|R.fieldAddr C U U U runUnderlying58 U sizeOf4 U<|R.store C U U U U sizeOf4 U U U (by repeat (first|exact Uh|apply Ut|apply Upd.app)) (by rw [Nat.zero_add];exact Put.flat Wt.len b.ws k.toNat hki (sured (b.wt k.toNat)) spare (by rw [hwt];exact .skip (.skip (.skip (.skip (.here .nil))))))<|R.done C<|Xr C U U ?_
    have hb1:=hset ((b.ws.set k.toNat (sured (b.wt k.toNat))).flatMap Wt.cells) O
    refine R.finish C.1 Wt.len Dd (hb1.app _) fun ro3 hl3 hls3=>?_
    have hv3:BkV ro3 (.agg [.int .i64 b.w, .int .i64 b.h, .int .i64 b.f, .slice cb b.cs.length cc, .slice (some ⟨pW,0,none⟩) b.ws.length capW].toArray) (trusted b k):=⟨_,_,rfl,hc.mono hl3,hls3⟩
    have he3:=he.mono hl3
    refine R.loadAgg C U U U isAgg25 sizeOf25 Vm Tk5<|R.callR C U U U U (agreed_c hJ (by assumption) (by assumption) (by assumption)) fun v1 ro2 hl2 hp=>?_
    rcases hp with⟨h0,rfl⟩|⟨h0,v2,⟨vc2,vw2,rfl,hc2,hw2⟩,rfl⟩
    ·
     unfold noBk
     refine R.ext C U U U U<|R.ext C U U U U<|R.store C U U U U sizeOf25 U U U (by repeat (first|exact Uh|apply Ut|apply Upd.app)) Ph5<|Ad C U U<|X.ret C U U func43 U (by exact(.agg U isAgg25 sizeOf25 Vm Tk5 (.tmp U .nil)))<|hret _ _ _ (RO.le_trans hl3 hl2) (by repeat (first|exact List.Sublist.refl _|apply List.Sublist.cons|apply List.sublist_append_of_sublist_right)) ?_
     exact .inl ⟨h0,rfl⟩
    ·
     obtain⟨cb2,cc2,rfl⟩:=hc2.form
     obtain⟨wb2,wc2,rfl⟩:=hw2.form
     refine R.ext C U U U U<|R.ext C U U U U<|R.store C U U U U sizeOf25 U U U (by repeat (first|exact Uh|apply Ut|apply Upd.app)) Ph5<|Ad C U U<|X.ret C U U func43 U (by exact(.agg U isAgg25 sizeOf25 Vm Tk5 (.tmp U .nil)))<|hret _ _ _ (RO.le_trans hl3 hl2) (by repeat (first|exact List.Sublist.refl _|apply List.Sublist.cons|apply List.sublist_append_of_sublist_right)) ?_
     exact .inr ⟨h0,_,⟨_,_,rfl,hc2,hw2⟩,rfl⟩
omit hJ in
def cut(c x:Rc):Rc:=⟨max c.lo x.lo,min c.hi x.hi⟩
omit hJ in
def swung(b:Bk)(k:Int)(x:Rc):Bk:={b with cs:=b.cs.set k.toNat (cut (b.cs.getD k.toNat ⟨0,0⟩) x) }
omit hJ in
def swingH(b:Bk)(k:Int)(x:Rc):Int:=if checkChart b≠0 then checkChart b else if b.compass k≠0 then b.compass k else if(!isReach x (-3) 3)=true then 1 else if(cut (b.cs.getD k.toNat ⟨0,0⟩) x).hi<(cut (b.cs.getD k.toNat ⟨0,0⟩) x).lo then 9 else openH (swung b k x) 0
theorem swing_c(he:Env ro)(hv:BkV ro v b)(hs:b.short)(k:Int)(x:Rc):CallR prog J (fnv 45) [v, .int .i64 k,x.val] ro (fun y ro'=>NewV ro' (swung b k x) (swingH b k x) y):=by
 have hvv:=hv
 obtain⟨vc,vw,rfl,hc,hw⟩:=hv
 obtain⟨cb,cc,rfl⟩:=hc.form
 obtain⟨wb,wc,rfl⟩:=hw.form
 refine CallR.intro hJ Kr fun c cs tail hret=>enter_X (n:=65) func45 U U (Nl U) ?_
 have C:Ctx prog main J (bf 45 .normal):=⟨hJ,by decide⟩
 refine Xr C U U<|R.box C U U U U fun p3=>R.box C U U U U fun p5=>R.alloc C U U zeroValue25 U fun p6=>Ad C U U<|Xs C<|Xr C U U<|R5 C U U isAgg25 sizeOf25 V Tk5<|R.callP C U U U U (checkChart_c hJ (by assumption) (by assumption) (by assumption))<|Ad C U U<|Xr C U U<|Rm C U U<|R.int C U U U U b_neq<|R.done C<|X.cond C.1 U (fun hh=>?_) (fun hh=>?_)
 ·simp at hh
  refine Xr C U U ?_;refine R.build C U U U zeroValue25 U runUnderlying25 Kr .nil<|Rm C U U<|R.store C U U U U sizeOf25 U U U V Ph5<|Ad C U U<|X.ret C U U func45 U (by exact(.agg U isAgg25 sizeOf25 V Tk5 (.tmp U .nil)))<|Hr hret (RO.le_refl _) ?_
  exact .inl ⟨by rw [swingH,if_pos hh];exact hh,by rw [swingH,if_pos hh];rfl⟩
 ·simp at hh
  have hb:=good_iff.1 hh
  have hnw:=hb.nw
  have hnc:=hb.nc
  have hsm:=hb.small
  have hE:swingH b k x=if b.compass k≠0 then b.compass k else if(!isReach x (-3) 3)=true then 1 else if(cut (b.cs.getD k.toNat ⟨0,0⟩) x).hi<(cut (b.cs.getD k.toNat ⟨0,0⟩) x).lo then 9 else openH (swung b k x) 0:=by rw [swingH,if_neg (by simp [hh])]
  rw [hE] at hret
  refine X.skip C.1<|Xs C<|Xr C U U<|R5 C U U isAgg25 sizeOf25 V Tk5 ?_;refine R.build C U U U zeroValue105 U runUnderlying105 Kr (Fills.part U U sizeOf25 U Ph5 .nil)<|Rm C U U<|R.callP C U U U U (compass_c hJ hvv hsm k)<|Ad C U U<|Xr C U U<|Rm C U U<|R.int C U U U U b_neq<|R.done C<|X.cond C.1 U (fun hk=>?_) (fun hk=>?_)
  ·simp at hk
   rw [if_pos hk] at hret
   refine Xr C U U ?_;refine R.build C U U U zeroValue25 U runUnderlying25 Kr .nil<|Rm C U U<|R.store C U U U U sizeOf25 U U U V Ph5<|Ad C U U<|X.ret C U U func45 U (by exact(.agg U isAgg25 sizeOf25 V Tk5 (.tmp U .nil)))<|Hr hret (RO.le_refl _) ?_
   exact .inl ⟨hk,rfl⟩
  ·simp at hk
   rw [if_neg (by simp [hk])] at hret
   have hkb:=there_zero.1 hk
   simp only [between,Bool.and_eq_true,decide_eq_true_eq] at hkb
   have hki:k.toNat<b.cs.length:=O
   refine X.skip C.1<|Xs C<|Xr C U U<|R5 C U U isAgg46 sizeOf46 V Tk2<|R.callP C U U U U (isReach_c hJ _ _ _ _)<|R.not C U U U<|R.done C<|X.cond C.1 U (fun hx=>?_) (fun hx=>?_)
   ·rw [if_pos hx] at hret
    refine Xr C U U ?_;refine R.build C U U U zeroValue25 U runUnderlying25 Kr .nil<|R.store C U U U U sizeOf25 U U U V Ph5<|Ad C U U<|X.ret C U U func45 U (by exact(.agg U isAgg25 sizeOf25 V Tk5 (.tmp U .nil)))<|Hr hret (RO.le_refl _) ?_
    exact .inl ⟨by decide,rfl⟩
   ·rw [if_neg (by simp only [hx];decide)] at hret
    obtain⟨pp,off,cap,l,t,fq,hsl,hrop,hsub⟩:=hc.at Rc.len O
    cases hsl
    have hgd:b.cs[k.toNat]=b.cs.getD k.toNat ⟨0,0⟩:=by simp [hki]
    have hs0:=hsub k.toNat hki
    rw [hgd] at hs0
    generalize hc0:b.cs.getD k.toNat ⟨0,0⟩=c0 at*
    refine X.skip C.1<|Xr C U U<|Rf C 3 U U runUnderlying25 U sizeOf22<|Rl C U U isAgg22 V U<|Rm C U U<|Rx C U U U runUnderlying22 sizeOf46<|R.loadAggRo C U U U isAgg46 sizeOf46 hrop hs0<|R.alloc C U U zeroValue46 U fun p10=>R.store C U U U U sizeOf46 U U U V Ph2<|R.done C<|Xr C U U<|Rf C 0 U U runUnderlying46 U sizeOf3<|Rl C U U isAgg3 V U<|Rf C 0 U U runUnderlying46 U sizeOf3<|Rl C U U isAgg3 V U<|R.max2 C U U U U<|Rf C 1 U U runUnderlying46 U sizeOf3<|Rl C U U isAgg3 V U<|Rf C 1 U U runUnderlying46 U sizeOf3<|Rl C U U isAgg3 V U<|R.min2 C U U U U ?_;refine R.build C U U U zeroValue46 U runUnderlying46 Kr (Fills.part U U sizeOf3 U (.here .nil) (Fills.part U U sizeOf3 U (.skip (.here .nil)) .nil))<|R.alloc C U U zeroValue46 U fun p11=>R.store C U U U U sizeOf46 U U U V Ph2<|R.done C<|Xs C<|Xr C U U<|Rf C 0 U U runUnderlying46 U sizeOf3<|Rl C U U isAgg3 V U<|Rf C 1 U U runUnderlying46 U sizeOf3<|Rl C U U isAgg3 V U<|R.int C U U U U b_gtr<|R.done C<|Xk C U (fun hbad=>?_) (fun hbad=>?_)
    ·rw [if_pos (by exact hbad)] at hret
     refine Xr C U U ?_;refine R.build C U U U zeroValue25 U runUnderlying25 Kr .nil<|R.store C U U U U sizeOf25 U U U V Ph5<|Ad C U U<|X.ret C U U func45 U (by exact(.agg U isAgg25 sizeOf25 V Tk5 (.tmp U .nil)))<|Hr hret (RO.le_refl _) ?_
     exact .inl ⟨by decide,rfl⟩
    ·rw [if_neg (by exact hbad)] at hret
     have hcut:(b.cs.set k.toNat (cut c0 x))=(swung b k x).cs:=by rw [←hc0];rfl
     have hsh:(swung b k x).short:=⟨by show(b.cs.set _ _).length≤1000;simp;omega,by show b.ws.length≤1000;omega⟩
     have hfl:=flatMap_len Rc.len b.cs
     have hfl2:=flatMap_len Rc.len (b.cs.set k.toNat (cut c0 x))
     rw [List.length_set] at hfl2
     refine X.skip C.1<|Xr C U U<|Rf C 3 U U runUnderlying25 U sizeOf22<|R.loadOne C U U U isAgg22 Vm U<|R.call C U U U U (pre:= []) U (cloneC_c hJ hc O) fun vC roC preC hleC hqC=>?_
     obtain⟨rfl,hbC⟩:=hqC
     obtain⟨pC,len,capC,spare,rfl,hlen,rfl,hset⟩:=hbC.at O
     obtain rfl:len=b.cs.length:=by omega
     refine Rf C 3 U U runUnderlying25 U sizeOf22<|R.store C U U U U sizeOf22 U U U (by repeat (first|exact Uh|apply Ut|apply Upd.app)) (.skip (.skip (.skip (.here .nil))))<|R.done C<|Xr C U U<|Rf C 3 U U runUnderlying25 U sizeOf22<|R.loadOne C U U U isAgg22 Vm U<|Rm C U U<|R.loadAgg C U U U isAgg46 sizeOf46 Vm Tk2<|Rx C U U U runUnderlying22 sizeOf46<|R.store C U U U U sizeOf46 U U U (by repeat (first|exact Uh|apply Ut|apply Upd.app)) (by rw [Nat.zero_add];exact Put.flat (o:=0) Rc.len b.cs k.toNat hki (cut c0 x) spare Ph2)<|R.done C<|Xr C U U ?_
     have hb1:=hset ((b.cs.set k.toNat (cut c0 x)).flatMap Rc.cells) O
     refine R.finish C.1 Rc.len Dd (hb1.app _) fun ro3 hl3 hls3=>?_
     rw [hcut] at hls3
     have hln:(swung b k x).cs.length=b.cs.length:=by rw [←hcut,List.length_set]
     have hv3:BkV ro3 (.agg [.int .i64 b.w, .int .i64 b.h, .int .i64 b.f, .slice (some ⟨pC,0,none⟩) b.cs.length capC, .slice wb b.ws.length wc].toArray) (swung b k x):=⟨_,_,rfl,hls3,hw.mono hl3⟩
     have he3:=he.mono hl3
     refine R.loadAgg C U U U isAgg25 sizeOf25 Vm Tk5<|R.callR C U U U U (agreed_c hJ (by assumption) (by assumption) (by assumption)) fun v1 ro2 hl2 hp=>?_
     rcases hp with⟨h0,rfl⟩|⟨h0,v2,⟨vc2,vw2,rfl,hc2,hw2⟩,rfl⟩
     ·
      unfold noBk
      refine R.ext C U U U U<|R.ext C U U U U<|R.store C U U U U sizeOf25 U U U (by repeat (first|exact Uh|apply Ut|apply Upd.app)) Ph5<|Ad C U U<|X.ret C U U func45 U (by exact(.agg U isAgg25 sizeOf25 Vm Tk5 (.tmp U .nil)))<|hret _ _ _ (RO.le_trans hl3 hl2) (by repeat (first|exact List.Sublist.refl _|apply List.Sublist.cons|apply List.sublist_append_of_sublist_right)) ?_
      exact .inl ⟨h0,rfl⟩
     ·
      obtain⟨cb2,cc2,rfl⟩:=hc2.form
      obtain⟨wb2,wc2,rfl⟩:=hw2.form
      refine R.ext C U U U U<|R.ext C U U U U<|R.store C U U U U sizeOf25 U U U (by repeat (first|exact Uh|apply Ut|apply Upd.app)) Ph5<|Ad C U U<|X.ret C U U func45 U (by exact(.agg U isAgg25 sizeOf25 Vm Tk5 (.tmp U .nil)))<|hret _ _ _ (RO.le_trans hl3 hl2) (by repeat (first|exact List.Sublist.refl _|apply List.Sublist.cons|apply List.sublist_append_of_sublist_right)) ?_
      exact .inr ⟨h0,_,⟨_,_,rfl,hc2,hw2⟩,rfl⟩
end Go.Lg.B
namespace Go.Lg
open Go Go.Conc
theorem R.neAgg{P:Program}{main:Bool}{J:Goroutine→Mem→Prop}{b:Frame}(C:Ctx P main J b){cs:List Frame}{n:Nat}{ds:List Deferred}{σ:Slots}{k:List Item}{ops:Array Oper}{i:Nat}{rest:List Nat}{d:Nat}{ty:TypeId}{pos:String}{af:Array Edge}{g:Option (Nat×Bool)}
  {t t':TypeId} {x y:Operand} {m:Nat} {p q:List Int} {M:Mem} (ho:ops[i]? =some ⟨some d, .binOp .neq t x y t',ty,pos,af,g⟩) (hg:wantedS ops σ ⟨some d, .binOp .neq t x y t',ty,pos,af,g⟩=some true)
  (hx:ev σ x=some (.agg (ints p).toArray)) (hy:ev σ y=some (.agg (ints q).toArray)) (ht:IntT P 10000 t m true) (hp:p.length=m) (hq:q.length=m) (hd:P.eqGuardType P.depth t=false)
  (h:R J b cs n ops rest k ds ((d, .bool (!decide (p=q)))::σ) M):R J b cs n ops (i::rest) k ds σ M:=
 R.v C ho hg rfl (fun a ha K hk=>by
  unfold execOp
  simp only [ha.ev hx,ha.ev hy]
  refine ex_v (Sm.bind ?_)
  unfold eqGuard
  refine Sm.bind (Sm.program (Sm.bind (Sm.program ?_)))
  rw [hd]
  refine Sm.pure ?_
  show Sm P M (binOp .neq t (.agg (ints p).toArray) (.agg (ints q).toArray)) _
  unfold binOp
  simp only
  exact Sm.bind (ht p q hp hq _ _ (Sm.pure hk))) h
end Go.Lg
namespace Go.Lg.B
open Go Go.Conc Go.Lg Go.Proofs Go.Proofs.Tryz
variable {ro:RO}{va vb:Value}{a d:List Int}
theorem Ls.lit{α:Type}{enc:α→List Value}{k:Nat}{p cap:Nat}{xs:List α}{t:TypeId}{fq:Nat×Nat}(hk:∀x,(enc x).length=k)(h:ro p=some (.cells (xs.flatMap enc).toArray t fq)):Ls enc k ro (.slice (some ⟨p,0,none⟩) xs.length cap) xs:=by
 refine⟨_,_,rfl, .inr ⟨p,0,_,_,_,rfl,h, ?_⟩⟩
 have:=Sub.front (xs.flatMap enc) []
 rw [List.append_nil,flatMap_len hk] at this
 exact this
def exB:Bk:=⟨3,3,1, [⟨0,0⟩,⟨0,1⟩], [⟨⟨-1,0⟩,2,0,false⟩,⟨⟨0,3⟩,4,1,false⟩,⟨⟨2, -1⟩,0,0,false⟩]⟩
def earlier(a c:List Int):Bool:=decide (cmpL a c<0)
def sameInts(a c:List Int):Bool:= !earlier a c && !earlier c a
variable {main:Bool}{J:Goroutine→Mem→Prop}(hJ:Closed prog main J)
include hJ
theorem sq_c(e n:Int)(ro:RO):CallP prog J (fnv 50) [.int .i64 e, .int .i64 n] ro (Sq.val ⟨e,n⟩):=by
 refine CallP.intro hJ Kr fun c cs tail hret=>enter_X (n:=8) func50 U U (Nl U) ?_
 have C:Ctx prog main J (bf 50 .normal):=⟨hJ,by decide⟩
 refine Xr C U U<|R.alloc C U U zeroValue27 U fun p4=>R.done C<|Xr C U U<|Rm C U U<|Rm C U U ?_;refine R.build C U U U zeroValue27 U runUnderlying27 Kr (Fills.part U U sizeOf3 U (.here .nil) (Fills.part U U sizeOf3 U (.skip (.here .nil)) .nil))<|R.store C U U U U sizeOf27 U U U V Ph2<|R.done C<|X.ret C U U func50 U (by exact(.agg U isAgg27 sizeOf27 V Tk2 .nil))<|Hp hret ?_
 rfl
theorem one_c(n:Int)(ro:RO):CallP prog J (fnv 56) [.int .i64 n] ro (Rc.val ⟨n,n⟩):=by
 refine CallP.intro hJ Kr fun c cs tail hret=>enter_X (n:=6) func56 U U (Nl U) ?_
 have C:Ctx prog main J (bf 56 .normal):=⟨hJ,by decide⟩
 refine Xr C U U<|R.alloc C U U zeroValue46 U fun p2=>R.done C<|Xr C U U<|Rm C U U<|Rm C U U ?_;refine R.build C U U U zeroValue46 U runUnderlying46 Kr (Fills.part U U sizeOf3 U (.here .nil) (Fills.part U U sizeOf3 U (.skip (.here .nil)) .nil))<|R.store C U U U U sizeOf46 U U U V Ph2<|R.done C<|X.ret C U U func56 U (by exact(.agg U isAgg46 sizeOf46 V Tk2 .nil))<|Hp hret ?_
 rfl
theorem reach_c(a z:Int)(ro:RO):CallP prog J (fnv 80) [.int .i64 a, .int .i64 z] ro (Rc.val ⟨a,z⟩):=by
 refine CallP.intro hJ Kr fun c cs tail hret=>enter_X (n:=8) func80 U U (Nl U) ?_
 have C:Ctx prog main J (bf 80 .normal):=⟨hJ,by decide⟩
 refine Xr C U U<|R.alloc C U U zeroValue46 U fun p4=>R.done C<|Xr C U U<|Rm C U U<|Rm C U U ?_;refine R.build C U U U zeroValue46 U runUnderlying46 Kr (Fills.part U U sizeOf3 U (.here .nil) (Fills.part U U sizeOf3 U (.skip (.here .nil)) .nil))<|R.store C U U U U sizeOf46 U U U V Ph2<|R.done C<|X.ret C U U func80 U (by exact(.agg U isAgg46 sizeOf46 V Tk2 .nil))<|Hp hret ?_
 rfl
theorem example_c(ro:RO):CallR prog J (fnv 79) [] ro (fun v ro'=>BkV ro' v exB):=by
 refine CallR.intro hJ Kr fun c cs tail hret=>enter_X (n:=12) func79 U U (Nl U) ?_
 have C:Ctx prog main J (bf 79 .normal):=⟨hJ,by decide⟩
 refine Xr C U U<|R.alloc C U U zeroValue25 U fun p0=>R.done C<|Xr C U U<|R.callP C U U U U (one_c hJ _ _)<|R.callP C U U U U (reach_c hJ _ _ _)<|R.buildSlice C (vs:=_) U U (show pvals _ _=some (numbered 0 [_,_]) from rfl) U runUnderlying22 sizeOf46 zeroValue46 Dd ((.cons U U (.cons U U .nil))) fun p3=>R.callP C U U U U (sq_c hJ _ _ _) ?_;refine R.build C U U U zeroValue58 U runUnderlying58 Kr (Fills.part U U sizeOf27 U Ph2 (Fills.part U U sizeOf3 U (.skip (.skip (.here .nil))) .nil))<|R.callP C U U U U (sq_c hJ _ _ _) ?_;refine R.build C U U U zeroValue58 U runUnderlying58 Kr (Fills.part U U sizeOf27 U Ph2 (Fills.part U U sizeOf3 U (.skip (.skip (.here .nil))) (Fills.part U U sizeOf3 U (.skip (.skip (.skip (.here .nil)))) .nil)))<|R.callP C U U U U (sq_c hJ _ _ _) ?_;refine R.build C U U U zeroValue58 U runUnderlying58 Kr (Fills.part U U sizeOf27 U Ph2 .nil)<|R.buildSlice C (vs:=_) U U (show pvals _ _=some (numbered 0 [_,_,_]) from rfl) U runUnderlying23 sizeOf58 zeroValue58 Dd ((.cons U U (.cons U U (.cons U U .nil)))) fun p10=>?_;refine R.build C U U U zeroValue25 U runUnderlying25 Kr (Fills.part U U sizeOf3 U (.here .nil) (Fills.part U U sizeOf3 U (.skip (.here .nil)) (Fills.part U U sizeOf3 U (.skip (.skip (.here .nil))) (Fills.part U U sizeOf22 U (.skip (.skip (.skip (.here .nil)))) (Fills.part U U sizeOf23 U (.skip (.skip (.skip (.skip (.here .nil))))) .nil)))))<|R.store C U U U U sizeOf25 U U U V Ph5<|R.done C<|X.perm C.1 (perm_mid [_] [_] _)<|X.persist C.1 fun ro1 hl1 h1=>X.persist C.1 fun ro2 hl2 h2=>X.ret C U U func79 U (by exact(.agg U isAgg25 sizeOf25 V Tk5 .nil))<|Hr hret (RO.le_trans hl1 hl2) ?_
 exact⟨_,_,rfl,Ls.lit (xs:=exB.cs) Rc.len (by first|exact h2|exact hl2 _ _ h1),Ls.lit (xs:=exB.ws) Wt.len (by first|exact h2|exact hl2 _ _ h1)⟩
theorem earlier_c(ha:LsI ro va a)(hc:LsI ro vb d)(h1:a.length≤1000000)(h2:d.length≤1000000):CallP prog J (fnv 114) [va,vb] ro (.bool (earlier a d)):=by
 obtain⟨ab,ac,rfl⟩:=ha.form
 obtain⟨bb,bc,rfl⟩:=hc.form
 refine CallP.intro hJ Kr fun c cs tail hret=>enter_X (n:=36) func114 U U (Nl U) ?_
 have C:Ctx prog main J (bf 114 .normal):=⟨hJ,by decide⟩
 refine Xr C U U<|Ad C U U<|Xs C<|Xr C U U<|Ad C U U<|X.block C.1<|X.loopI (ι:=Nat) C.1 (fun i=>i≤a.length∧i≤d.length∧cmpL a d=cmpL (a.drop i) (d.drop i)) (fun i=> [(0, .slice ab a.length ac),(1, .slice bb d.length bc),(5, .int .i64 (i:Int))])
  (fun _=>⟨ro,tail⟩) (fun i=>d.length-i) 0 ⟨Nat.zero_le _,Nat.zero_le _,rfl⟩ rfl ⟨U,U,U,trivial⟩ fun i hi hnext=>?_
 obtain⟨hi,hi2,hcm⟩:=hi
 refine Xs C<|Xr C U U<|Rm C U U<|Rm C U U<|Rn C U U runUnderlying28<|R.int C U U U U b_lss<|R.done C<|Xk C U (fun hlt=>?_) (fun hlt=>?_)
 ·have hj':i<d.length:=O
  rw [List.drop_eq_getElem_cons hj'] at hcm
  obtain⟨pp2,off2,cap2,ll2,t2,fq2,hsl2,hrop2,hsub2⟩:=hc.at ic_len O
  cases hsl2
  have hx2:ll2[off2+i*1]? =some (.int .i64 d[i]):=by have:=(hsub2 i hj').get 0 Dd;simpa [ic] using this
  refine X.skip C.1<|Xs C<|X.block C.1<|Xs C<|Xs C<|Xd C fun hok=>Dm C 0 hok U U U<|Dm C 1 hok U U U<|Ds C 2 hok U U runUnderlying28<|Di C 3 hok U U U U U b_geq<|Dm C 4 hok U U U<|D.fix (t:=16) U (fun hge=>?_) (fun hge=>?_)
  ·simp only [dT] at hge
   obtain rfl:i=a.length:=by omega
   refine Du C 5 hok U<|Du C 6 hok U<|Du C 7 hok U<|Du C 8 hok U<|Du C 9 hok U<|Du C 10 hok U<|Du C 11 hok U<|Du C 12 hok U<|Du C 13 hok U<|Dp 14 hok (fun _ _ _ A h=>R.pickT C U (A.w U U) (A.x U U) (A.x U U) h)<|D.done C hok Kr<|X.cond C.1 U (fun _=>?_) (fun h=>nomatch h)
   refine Xr C U U<|Ad C U U<|Xt C func114<|Hp hret ?_
   rw [earlier,hcm,List.drop_length];rfl
  ·simp only [dF] at hge
   have hi':i<a.length:=O
   rw [List.drop_eq_getElem_cons hi',cmpL] at hcm
   obtain⟨pp,off,cap,ll,t,fq,hsl,hrop,hsub⟩:=ha.at ic_len O
   cases hsl
   have hx:ll[off+i*1]? =some (.int .i64 a[i]):=by have:=(hsub i hi').get 0 Dd;simpa [ic] using this
   refine Dm C 5 hok U U U<|Dm C 6 hok U U U<|Dx C 7 hok U U U runUnderlying28 sizeOf3<|D2 C 8 hok U U isAgg3 hrop hx<|Dm C 9 hok U U U<|Dm C 10 hok U U U<|Dx C 11 hok U U U runUnderlying28 sizeOf3<|D2 C 12 hok U U isAgg3 hrop2 hx2<|Di C 13 hok U U U U U b_lss<|Dp 14 hok (fun _ _ _ A h=>R.pickF C U (A.w U U) (A.x U U) (A.x U U) h)<|D.done C hok Kr<|Xk C U (fun hls=>?_) (fun hls=>?_)
   ·refine Xr C U U<|Ad C U U<|Xt C func114<|Hp hret ?_
    have:=cmpI_neg.2 hls
    rw [earlier,hcm,if_pos O,decide_eq_true this];rfl
   ·refine X.skip C.1<|Xs C<|Xd C fun hok=>Dm C 0 hok U U U<|Dm C 1 hok U U U<|Dx C 2 hok U U U runUnderlying28 sizeOf3<|D2 C 3 hok U U isAgg3 hrop hx<|Dm C 4 hok U U U<|Dm C 5 hok U U U<|Dx C 6 hok U U U runUnderlying28 sizeOf3<|D2 C 7 hok U U isAgg3 hrop2 hx2<|Di C 8 hok U U U U U b_gtr<|D.done C hok Kr<|Xk C U (fun hgt=>?_) (fun hgt=>?_)
    ·refine Xr C U U<|Ad C U U<|Xt C func114<|Hp hret ?_
     have h3:¬cmpI a[i] d[i]<0:=fun h=>by have:=cmpI_neg.1 h;omega
     have h4:cmpI a[i] d[i]≠0:=fun h=>by have:=cmpI_zero.1 h;omega
     rw [earlier,hcm,if_pos h4,decide_eq_false h3];rfl
    ·refine X.skip C.1<|X.inBlock C.1<|X.region C U U<|Rm C U U<|Ra C U U U<|Ad C U U ?_
     rw [if_neg (by rw [Decidable.not_not,cmpI_zero];omega)] at hcm
     refine X.weaken ?_ (hnext (i+1) ⟨hi',hj',hcm⟩ O)
     exact⟨rfl,rfl,by simp [look],trivial⟩
 ·obtain rfl:i=d.length:=by omega
  rw [List.drop_length] at hcm
  refine X.exit C.1 U<|Xr C U U<|Ad C U U<|Xt C func114<|Hp hret ?_
  have:¬cmpL (a.drop d.length) []<0:=by cases a.drop d.length<;>simp [cmpL]
  rw [earlier,hcm,decide_eq_false this];rfl
theorem sameInts_c(ha:LsI ro va a)(hc:LsI ro vb d)(h1:a.length≤1000000)(h2:d.length≤1000000):CallP prog J (fnv 39) [va,vb] ro (.bool (sameInts a d)):=by
 refine CallP.intro hJ Kr fun c cs tail hret=>enter_X (n:=15) func39 U U (Nl U) ?_
 have C:Ctx prog main J (bf 39 .normal):=⟨hJ,by decide⟩
 refine Xr C U U<|Ad C U U<|Xr C U U<|Rm C U U<|Rm C U U<|R.callP C U U U U (earlier_c hJ ha hc h1 h2)<|R.not C U U U<|Rm C U U<|R.fix (t:=9) U (fun q1=>?_) (fun q1=>?_)
 ·refine Rm C U U<|Rm C U U<|R.callP C U U U U (earlier_c hJ hc ha h2 h1)<|R.not C U U U<|R.pickT C U U U U<|Ad C U U<|Xt C func39<|Hp hret ?_
  first|(simp_all [sameInts,retVal];done)
 ·refine R.pass C U U<|R.pass C U U<|R.pass C U U<|R.pass C U U<|R.pickF C U U U U<|Ad C U U<|Xt C func39<|Hp hret ?_
  first|(simp_all [sameInts,retVal];done)
theorem sameSquares_c{a d:List Sq}(ha:LsS ro va a)(hc:LsS ro vb d)(h1:a.length≤1000000)(h2:d.length≤1000000):CallP prog J (fnv 30) [va,vb] ro (.bool (decide (a=d))):=by
 obtain⟨ab,ac,rfl⟩:=ha.form
 obtain⟨bb,bc,rfl⟩:=hc.form
 refine CallP.intro hJ Kr fun c cs tail hret=>enter_X (n:=26) func30 U U (Nl U) ?_
 have C:Ctx prog main J (bf 30 .normal):=⟨hJ,by decide⟩
 refine Xr C U U<|Ad C U U<|Xs C<|Xr C U U<|Rm C U U<|Rn C U U runUnderlying41<|Rm C U U<|Rn C U U runUnderlying41<|R.int C U U U U b_neq<|R.done C<|X.cond C.1 U (fun hne=>?_) (fun hne=>?_)
 ·refine Xr C U U<|Ad C U U<|Xt C func30<|Hp hret ?_
  have:a≠d:=fun e=>by subst e;simp at hne
  simp [this,retVal]
 ·have hlen:a.length=d.length:=by simp at hne;omega
  refine X.skip C.1<|Xs C<|Xr C U U<|Ad C U U<|X.block C.1<|X.loopI (ι:=Nat) C.1 (fun i=>i≤a.length∧a.take i=d.take i) (fun i=> [(0, .slice ab a.length ac),(1, .slice bb d.length bc),(5, .int .i64 (i:Int))])
   (fun _=>⟨ro,tail⟩) (fun i=>a.length-i) 0 ⟨Nat.zero_le _,rfl⟩ rfl ⟨U,U,U,trivial⟩ fun i hi hnext=>?_
  obtain⟨hi,hcm⟩:=hi
  refine Xs C<|Xr C U U<|Rm C U U<|Rm C U U<|Rn C U U runUnderlying41<|R.int C U U U U b_lss<|R.done C<|Xk C U (fun hlt=>?_) (fun hlt=>?_)
  ·have hi':i<a.length:=O
   have hj':i<d.length:=O
   obtain⟨pp,off,cap,ll,t,fq,hsl,hrop,hsub⟩:=ha.at Sq.len O
   cases hsl
   obtain⟨pp2,off2,cap2,ll2,t2,fq2,hsl2,hrop2,hsub2⟩:=hc.at Sq.len O
   cases hsl2
   have hta:a.take (i+1)=a.take i++ [a[i]]:=List.take_succ_eq_append_getElem hi'
   have htd:d.take (i+1)=d.take i++ [d[i]]:=List.take_succ_eq_append_getElem hj'
   have hgn:a[i]≠d[i]→a≠d:=fun h e=>h (by subst e;rfl)
   refine X.skip C.1<|Xs C<|X.block C.1<|Xs C<|Xd C fun hok=>Dm C 0 hok U U U<|Dm C 1 hok U U U<|Dx C 2 hok U U U runUnderlying41 sizeOf27<|Dl 3 hok (fun _ _ A h=>R.loadAggRo C U (A.w U U) (A.x U U) isAgg27 sizeOf27 hrop (hsub i hi') h)<|Dm C 4 hok U U U<|Dm C 5 hok U U U<|Dx C 6 hok U U U runUnderlying41 sizeOf27<|Dl 7 hok (fun _ _ A h=>R.loadAggRo C U (A.w U U) (A.x U U) isAgg27 sizeOf27 hrop2 (hsub2 i hj') h)<|Dp 8 hok (fun _ _ _ A h=>R.neAgg (p:= [(a[i]).e,(a[i]).n]) (q:= [(d[i]).e,(d[i]).n]) C U (A.w U U) (A.x U U) (A.x U U) eqT27 U U Kr h)<|D.done C hok Kr<|X.cond C.1 U (fun hne2=>?_) (fun hne2=>?_)
   ·refine Xr C U U<|Ad C U U<|Xt C func30<|Hp hret ?_
    have:a≠d:=hgn (fun e=>by rw [e] at hne2;simp at hne2)
    simp [this,retVal]
   ·have hxy:a[i]=d[i]:=by
     generalize a[i]=x at hne2⊢
     generalize d[i]=y at hne2⊢
     obtain⟨_,_⟩:=x;obtain⟨_,_⟩:=y;simp at hne2⊢;omega
    refine X.skip C.1<|X.inBlock C.1<|X.region C U U<|Rm C U U<|Ra C U U U<|Ad C U U<|X.weaken ?_ (hnext (i+1) ⟨hi',by rw [hta,htd,hcm,hxy]⟩ O)
    exact⟨rfl,rfl,by simp [look],trivial⟩
  ·obtain rfl:i=a.length:=by omega
   rw [List.take_length,hlen,List.take_length] at hcm
   refine X.exit C.1 U<|Xr C U U<|Ad C U U<|Xt C func30<|Hp hret ?_
   simp [hcm,retVal]
end Go.Lg.B
namespace Go.Lg.B
open Go Go.Conc Go.Lg Go.Proofs Go.Proofs.Tryz
variable {r:List Int}
theorem asc_unique:∀ {a c:List Int},a.Pairwise (· < ·)→c.Pairwise (· < ·)→(∀x,x∈a↔x∈c)→a=c
 | [], [],_,_,_=>rfl
 | [],y::c,_,_,h=>absurd ((h y).2 List.mem_cons_self) Zi
 |x::a, [],_,_,h=>absurd ((h x).1 List.mem_cons_self) Zi
 |x::a,y::c,ha,hc,h=>by
  rw [List.pairwise_cons] at ha hc
  have hxy:x=y:=by
   rcases List.mem_cons.1 ((h x).1 List.mem_cons_self) with e|e
   ·exact e
   ·rcases List.mem_cons.1 ((h y).2 List.mem_cons_self) with e2|e2
    ·exact e2.symm
    ·have:=hc.1 x e
     have:=ha.1 y e2
     omega
  subst hxy
  rw [asc_unique ha.2 hc.2 fun z=>?_]
  have hz:=h z
  simp only [List.mem_cons] at hz
  constructor
  ·intro hm
   rcases hz.1 (.inr hm) with e|e
   ·have:=ha.1 z hm;omega
   ·exact e
  ·intro hm
   rcases hz.2 (.inr hm) with e|e
   ·have:=hc.1 z hm;omega
   ·exact e
theorem asc_last{acc:List Int}{x:Int}(h:acc.Pairwise (· < ·))(hx:x∈acc)(hm:∀y∈acc,y≤x):acc.getLast? =some x:=by
 induction acc with
 |nil=>cases hx
 |cons y acc ih=>
  rw [List.pairwise_cons] at h
  cases acc with
  |nil=>
   simp only [List.mem_singleton] at hx
   subst hx;rfl
  |cons z acc=>
   have hx':x∈z::acc:=by
    rcases List.mem_cons.1 hx with e|e
    ·have:=h.1 z List.mem_cons_self
     have:=hm z Zi
     omega
    ·exact e
   have:=ih h.2 hx' fun w hw=>hm w (List.mem_cons_of_mem _ hw)
   rw [List.getLast?_cons_cons];exact this
theorem fold_asc:∀ (l acc:List Int),acc.Pairwise (· < ·)→l.Pairwise (· ≤ ·)→(∀x∈acc,∀y∈l,x≤y)→(l.foldl cstep acc).Pairwise (· < ·)∧∀x,x∈l.foldl cstep acc↔x∈acc∨x∈l
 | [],acc,h,_,_=>⟨h,fun x=>by simp⟩
 |x::l,acc,h,hl,hle=>by
  rw [List.pairwise_cons] at hl
  have hax:∀y∈acc,y≤x:=fun y hy=>hle y hy x List.mem_cons_self
  rw [List.foldl_cons]
  by_cases hc:acc.getLast? =some x
  ·rw [cstep,if_pos hc]
   have hxa:x∈acc:=List.mem_of_getLast? hc
   have:=fold_asc l acc h hl.2 fun a ha y hy=>hle a ha y (List.mem_cons_of_mem _ hy)
   refine⟨this.1,fun z=>?_⟩
   rw [this.2,List.mem_cons]
   constructor
   ·rintro(h|h)
    ·exact .inl h
    ·exact .inr (.inr h)
   ·rintro(h|rfl|h)
    ·exact .inl h
    ·exact .inl hxa
    ·exact .inr h
  ·rw [cstep,if_neg hc]
   have hlt:∀y∈acc,y<x:=fun y hy=>by
    have:=hax y hy
    by_cases e:y=x
    ·subst e;exact absurd (asc_last h hy hax) hc
    ·omega
   have:=fold_asc l (acc++ [x]) (by
    rw [List.pairwise_append]
    exact⟨h,by simp,fun a ha b hb=>by simp only [List.mem_singleton] at hb;subst hb;exact hlt a ha⟩) hl.2 (fun a ha y hy=>by
     rcases List.mem_append.1 ha with e|e
     ·exact hle a e y (List.mem_cons_of_mem _ hy)
     ·simp only [List.mem_singleton] at e;subst e;exact hl.1 y hy)
   refine⟨this.1,fun z=>?_⟩
   rw [this.2]
   have e1:(z∈acc++ [x])↔(z∈acc∨z=x):=by rw [List.mem_append,List.mem_singleton]
   rw [e1,List.mem_cons]
   constructor
   ·rintro((h|h)|h)
    ·exact .inl h
    ·exact .inr (.inl h)
    ·exact .inr (.inr h)
   ·rintro(h|h|h)
    ·exact .inl (.inl h)
    ·exact .inl (.inr h)
    ·exact .inr h
theorem compact_sort{l:List Int}(hr:r.Pairwise (· < ·))(h:∀x,x∈r↔x∈l):compactL (l.mergeSort fun x y=>decide (x≤y))=r:=by
 have hs:(l.mergeSort fun x y=>decide (x≤y)).Pairwise (· ≤ ·):=by
  have:=List.pairwise_mergeSort (le:=fun x y:Int=>decide (x≤y)) (by intro a b c;simp;omega) (by intro a b;simp;omega) l
  exact this.imp (by intro a b;simp)
 have hf:=fold_asc _ [] .nil hs Zi
 refine asc_unique hf.1 hr fun x=>?_
 show x∈List.foldl cstep [] _↔_
 rw [hf.2,h]
 simp [(List.mergeSort_perm l _).mem_iff]
theorem offOf_eq{b:Bk}{k:Int}(h0:(openH b (b.compass k)==0)=true)(hr:r.Pairwise (· < ·))(h:((((cases b).map fun c=>c.a.off k).all fun x=>r.contains x) && (r.all fun x=>((cases b).map fun c=>c.a.off k).contains x))=true):offOf b k=(r,0):=by
 simp only [Bool.and_eq_true,List.all_eq_true,List.contains_iff_mem] at h
 rw [offOf,if_neg (by simpa using h0),compact_sort hr fun x=>⟨h.2 x,h.1 x⟩]
theorem ex_off:offOf exB 1=([0,1],0):=offOf_eq Kr Dd Kr
theorem ex_off0:offOf {exB with f:=0} 1=([1],0):=offOf_eq Kr Dd Kr
end Go.Lg.B
namespace Go.Lg.B
open Go Go.Conc Go.Lg Go.Proofs Go.Proofs.Tryz
variable {fv v vk:Value}{args:List Value}{ro:RO}{Q:Machine→Outcome→World→Trace→Prop}
def exO:Bk:=heard exB ⟨⟨4,2⟩,6,0,false⟩
def exT:Bk:=trusted exB 0
def exS:Bk:=swung exB 1 ⟨0,0⟩
def ex0:Bk:={exB with f:=0}
theorem k_true1:true_ ⟨0,0⟩ ⟨2,1⟩=(1,0):=by kernel_rfl
theorem k_true2:true_ ⟨0,0⟩ ⟨5, -2⟩=(2,0):=by kernel_rfl
theorem k_is1:isCase exB ⟨⟨2,1⟩, [0,1], []⟩=(true,0):=by kernel_rfl
theorem k_is2:isCase exB ⟨⟨2,1⟩, [0,0], []⟩=(false,0):=by kernel_rfl
theorem k_check:checkChart exB=0:=by kernel_rfl
theorem k_cases:(cases exB).length=14:=by kernel_rfl
theorem k_open:openH exB 0=0:=by kernel_rfl
theorem k_where:wheres exB= [⟨0,0⟩,⟨1,0⟩,⟨2,0⟩,⟨2,1⟩,⟨1,2⟩,⟨2,2⟩]:=by kernel_rfl
theorem k_box:box exB=(⟨0,2⟩,⟨0,2⟩):=by kernel_rfl
theorem k_at1:told exB (exB.square ⟨2,0⟩) (fun c=>decide (c.a.s=⟨2,0⟩))=(0,0):=by kernel_rfl
theorem k_at2:told exB (exB.square ⟨0,1⟩) (fun c=>decide (c.a.s=⟨0,1⟩))=(2,0):=by kernel_rfl
theorem k_ask:ask exB=(0,10,0):=by kernel_rfl
theorem k_hear:hearH exB ⟨⟨4,2⟩,6,0,false⟩=0:=by kernel_rfl
theorem k_ocheck:checkChart exO=0:=by kernel_rfl
theorem k_ocases:(cases exO).length=4:=by kernel_rfl
theorem k_few:fewest exO=([0],0):=by kernel_rfl
theorem k_clash:clash exO=([0,3],0):=by kernel_rfl
theorem k_trust:trustH exB 0=0:=by kernel_rfl
theorem k_tcheck:checkChart exT=0:=by kernel_rfl
theorem k_tcases:(cases exT).length=10:=by kernel_rfl
theorem k_swing:swingH exB 1 ⟨0,0⟩=0:=by kernel_rfl
theorem k_scheck:checkChart exS=0:=by kernel_rfl
theorem k_scases:(cases exS).length=4:=by kernel_rfl
theorem k_open0:openH ex0 0=0:=by kernel_rfl
theorem k_where0:wheres ex0= [⟨2,0⟩,⟨2,1⟩]:=by kernel_rfl
theorem k_false:told exB (exB.witness 0) (fun c=>c.m.testBit (0:Int).toNat)=(0,0):=by kernel_rfl
theorem k_short:exB.short:=⟨by decide,by decide⟩
theorem k_shortO:exO.short:=⟨by decide,by decide⟩
theorem k_shortT:exT.short:=⟨by decide,by decide⟩
theorem k_shortS:exS.short:=⟨by decide,by decide⟩
theorem k_short0:ex0.short:=⟨by decide,by decide⟩
theorem CallR.to{J:Goroutine→Mem→Prop}{w1 w0:Value}(h:CallR prog J fv args ro fun w _=>w=w1)(e:w1=w0):CallR prog J fv args ro fun w _=>w=w0:=by subst e;exact h
variable {main:Bool}{J:Goroutine→Mem→Prop}(hJ:Closed prog main J)
include hJ
theorem x_is1(he:Env ro)(hv:BkV ro v exB)(hk:CsV ro vk ⟨⟨2,1⟩, [0,1], []⟩):CallR prog J (fnv 22) [v,vk] ro fun w _=>w= .tuple [.bool true, .int .i64 0].toArray:=CallR.to (isCase_c hJ he hv k_short hk ⟨by decide,by decide⟩) (by rw [k_is1])
theorem x_is2(he:Env ro)(hv:BkV ro v exB)(hk:CsV ro vk ⟨⟨2,1⟩, [0,0], []⟩):CallR prog J (fnv 22) [v,vk] ro fun w _=>w= .tuple [.bool false, .int .i64 0].toArray:=CallR.to (isCase_c hJ he hv k_short hk ⟨by decide,by decide⟩) (by rw [k_is2])
theorem x_cases(he:Env ro)(hv:BkV ro v exB):CallR prog J (fnv 26) [v] ro fun w _=>w= .tuple [.int .i64 14, .int .i64 0].toArray:=CallR.to (cases_c hJ he hv k_short) (by rw [k_check,k_cases];rfl)
theorem x_casesO(he:Env ro)(hv:BkV ro v exO):CallR prog J (fnv 26) [v] ro fun w _=>w= .tuple [.int .i64 4, .int .i64 0].toArray:=CallR.to (cases_c hJ he hv k_shortO) (by rw [k_ocheck,k_ocases];rfl)
theorem x_casesT(he:Env ro)(hv:BkV ro v exT):CallR prog J (fnv 26) [v] ro fun w _=>w= .tuple [.int .i64 10, .int .i64 0].toArray:=CallR.to (cases_c hJ he hv k_shortT) (by rw [k_tcheck,k_tcases];rfl)
theorem x_casesS(he:Env ro)(hv:BkV ro v exS):CallR prog J (fnv 26) [v] ro fun w _=>w= .tuple [.int .i64 4, .int .i64 0].toArray:=CallR.to (cases_c hJ he hv k_shortS) (by rw [k_scheck,k_scases];rfl)
theorem x_where(he:Env ro)(hv:BkV ro v exB):CallR prog J (fnv 28) [v] ro fun w ro'=>∃vs,LsS ro' vs [⟨0,0⟩,⟨1,0⟩,⟨2,0⟩,⟨2,1⟩,⟨1,2⟩,⟨2,2⟩]∧w= .tuple [vs, .int .i64 0].toArray:=by
 have:=where_c hJ he hv k_short
 rwa [k_where,k_open] at this
theorem x_where0(he:Env ro)(hv:BkV ro v ex0):CallR prog J (fnv 28) [v] ro fun w ro'=>∃vs,LsS ro' vs [⟨2,0⟩,⟨2,1⟩]∧w= .tuple [vs, .int .i64 0].toArray:=by
 have:=where_c hJ he hv k_short0
 rwa [k_where0,k_open0] at this
theorem x_box(he:Env ro)(hv:BkV ro v exB):CallR prog J (fnv 31) [v] ro fun w _=>w= .tuple [Rc.val ⟨0,2⟩,Rc.val ⟨0,2⟩, .int .i64 0].toArray:=CallR.to (box_c hJ he hv k_short) (by rw [k_box,k_open])
theorem x_at1(he:Env ro)(hv:BkV ro v exB):CallR prog J (fnv 33) [v,Sq.val ⟨2,0⟩] ro fun w _=>w= .tuple [.int .i64 0, .int .i64 0].toArray:=CallR.to (at_c hJ he hv k_short ⟨2,0⟩) (by rw [k_at1])
theorem x_at2(he:Env ro)(hv:BkV ro v exB):CallR prog J (fnv 33) [v,Sq.val ⟨0,1⟩] ro fun w _=>w= .tuple [.int .i64 2, .int .i64 0].toArray:=CallR.to (at_c hJ he hv k_short ⟨0,1⟩) (by rw [k_at2])
theorem x_off(he:Env ro)(hv:BkV ro v exB):CallR prog J (fnv 35) [v, .int .i64 1] ro fun w ro'=>∃vl,LsI ro' vl [0,1]∧w= .tuple [vl, .int .i64 0].toArray:=by
 have:=off_c hJ he hv k_short 1
 rwa [ex_off] at this
theorem x_off0(he:Env ro)(hv:BkV ro v ex0):CallR prog J (fnv 35) [v, .int .i64 1] ro fun w ro'=>∃vl,LsI ro' vl [1]∧w= .tuple [vl, .int .i64 0].toArray:=by
 have:=off_c hJ he hv k_short0 1
 rwa [show offOf ex0 1=([1],0) from ex_off0] at this
theorem x_false(he:Env ro)(hv:BkV ro v exB):CallR prog J (fnv 37) [v, .int .i64 0] ro fun w _=>w= .tuple [.int .i64 0, .int .i64 0].toArray:=CallR.to (false_c hJ he hv k_short 0) (by rw [k_false])
theorem x_ask(he:Env ro)(hv:BkV ro v exB):CallR prog J (fnv 58) [v] ro fun w _=>w= .tuple [.int .i64 0, .int .i64 10, .int .i64 0].toArray:=CallR.to (ask_c hJ he hv k_short) (by rw [k_ask])
omit hJ in
theorem new_zero{b:Bk}{h:Int}{w:Value}(hn:NewV ro b h w)(h0:h=0):∃v,BkV ro v b∧w= .tuple [v, .int .i64 0].toArray:=hn.elim (fun x=>absurd h0 x.1) (fun x=>x.2)
omit hJ in
theorem CallR.imp{J:Goroutine→Mem→Prop}{A B:Value→RO→Prop}(h:CallR prog J fv args ro A)(e:∀v r,A v r→B v r):CallR prog J fv args ro B:=CallR.mono h fun v r _ x=>e v r x
theorem x_hear(he:Env ro)(hv:BkV ro v exB):CallR prog J (fnv 40) [v,Wt.val ⟨⟨4,2⟩,6,0,false⟩] ro fun w ro'=>∃v',BkV ro' v' exO∧w= .tuple [v', .int .i64 0].toArray:=CallR.imp (hear_c hJ he hv k_short _) fun _ _ h=>new_zero h k_hear
theorem x_trust(he:Env ro)(hv:BkV ro v exB):CallR prog J (fnv 43) [v, .int .i64 0] ro fun w ro'=>∃v',BkV ro' v' exT∧w= .tuple [v', .int .i64 0].toArray:=CallR.imp (trust_c hJ he hv k_short 0) fun _ _ h=>new_zero h k_trust
theorem x_swing(he:Env ro)(hv:BkV ro v exB):CallR prog J (fnv 45) [v, .int .i64 1,Rc.val ⟨0,0⟩] ro fun w ro'=>∃v',BkV ro' v' exS∧w= .tuple [v', .int .i64 0].toArray:=CallR.imp (swing_c hJ he hv k_short 1 ⟨0,0⟩) fun _ _ h=>new_zero h k_swing
omit hJ in
theorem x_few(he:Env ro)(hv:BkV ro v exO):CallR prog (JM prog Q) (fnv 51) [v] ro fun w ro'=>∃vl,LsI ro' vl [0]∧w= .tuple [vl, .int .i64 0].toArray:=by
 have:=fewest_c (Q:=Q) he hv k_shortO
 rwa [k_few] at this
omit hJ in
theorem x_clash(he:Env ro)(hv:BkV ro v exO):CallR prog (JM prog Q) (fnv 63) [v] ro fun w ro'=>∃vl,LsI ro' vl [0,3]∧w= .tuple [vl, .int .i64 0].toArray:=by
 have:=clash_c (Q:=Q) he hv k_shortO
 rwa [k_clash] at this
end Go.Lg.B
namespace Go.Lg.B
open Go Go.Conc Go.Lg Go.Proofs Go.Proofs.Tryz
variable {cc p1 p24 wc:Nat}{cb wb:Option Addr}{ro:RO}{c:Frame}{cs:List Frame}{tail:List (Nat×Obj)}
noncomputable def b19:Code:=Tryz.f19.body.getD .skip
noncomputable def g20:Code:=cR (cR (cR (cR (cR (cR (cR (cR (cR (cR (cR (cR (cR (cR (cR (cR (cR (cR (cR (cR (b19))))))))))))))))))))
variable {Q:Machine→Outcome→World→Trace→Prop}
theorem found_end{x1 x2 x3 x4 x5:Value}(he:Env ro)(hc:Ls Rc.cells 2 ro (.slice cb 2 cc) exB.cs)(hw:Ls Wt.cells 5 ro (.slice wb 3 wc) exB.ws)
  (hret:∀ro' own,ro.le ro'→tail.Sublist own→JM prog Q (G (c.finish (.bool true)) cs) ⟨ro',own⟩):
  X (JM prog Q) (bf 19 .normal) (c::cs) 340 [.code g20] [] [(1, .pointer (some ⟨p1,0,none⟩)),(24, .pointer (some ⟨p24,0,none⟩))] ⟨ro,(p24, .cells [x1,x2,x3,x4,x5].toArray 25 (0,0))::(p1, .cells [.int .i64 3, .int .i64 3, .int .i64 1, .slice cb 2 cc, .slice wb 3 wc].toArray 25 (0,0))::tail⟩:=by
 have hJ:Closed prog true (JM prog Q):=JM.closed
 let main:=true
 let J:=JM prog Q
 have C:Ctx prog true (JM prog Q) (bf 19 .normal):=⟨hJ,by decide⟩
 have hv:BkV ro (.agg [.int .i64 3, .int .i64 3, .int .i64 1, .slice cb 2 cc, .slice wb 3 wc].toArray) exB:=⟨_,_,rfl,hc,hw⟩
 refine Xr C U U<|R5 C U U isAgg25 sizeOf25 V Tk5<|R.callR C U U U U ((x_trust hJ he hv)) fun v1 ro1 hl1 hq1=>?_
 obtain⟨v1,hv1,rfl⟩:=hq1
 have hv1':=hv1
 obtain⟨vc1,vw1,rfl,hc1,hw1⟩:=hv1
 obtain⟨cb1,cc1,rfl⟩:=hc1.form
 obtain⟨wb1,wc1,rfl⟩:=hw1.form
 have he1:=he.mono hl1
 refine Rm C U U<|R.ext C U U U U<|R.ext C U U U U<|R.store C U U U U sizeOf25 U U U V Ph5<|Ad C U U<|Xr C U U<|R5 C U U isAgg25 sizeOf25 V Tk5<|R.callR C U U U U ((x_casesT hJ he1 hv1')) fun v2 ro2 hl2 hq2=>?_
 subst hq2
 have he2:=he1.mono hl2
 have hl12:=RO.le_trans hl1 hl2
 refine Rm C U U<|R.ext C U U U U<|R.ext C U U U U<|R.asg C U U U<|Ad C U U<|Xs C<|Xd C fun hok=>D5 C 0 hok U U isAgg25 sizeOf25 V Tk5<|De 1 (some 278) [true] hok (fun _ _ A hk=>?_)
 refine R.callP C U (A.w U U) (A.x U U) (A.s U U) (one_c hJ _ _) (hk _ _ ⟨(QFs.cons (QF.of U (fun _ _ A h=>R.loadAgg C U (A.w U U) (A.x U U) isAgg25 sizeOf25 V Tk5 h)) QFs.nil), ?_⟩)
 refine De 2 (some 279) [false] hok (fun _ _ A hk=>?_)
 refine R.callR C U (A.w U U) (A.x U U) (A.s U U) ((x_swing hJ he2 (hv.mono hl12))) fun v3 ro3 hl3 hq3=>hk _ _ ⟨QFs.nil, ?_⟩
 obtain⟨v3,hv3,rfl⟩:=hq3
 have hv3':=hv3
 obtain⟨vc3,vw3,rfl,hc3,hw3⟩:=hv3
 obtain⟨cb3,cc3,rfl⟩:=hc3.form
 obtain⟨wb3,wc3,rfl⟩:=hw3.form
 have he3:=he2.mono hl3
 refine Dm C 3 hok U U U<|Dp 4 hok (fun _ _ _ A h=>R.ext C U (A.w U U) (A.x U U) U h)<|Dp 5 hok (fun _ _ _ A h=>R.ext C U (A.w U U) (A.x U U) U h)<|De 6 none [] hok (fun _ _ A hk=>?_)
 refine R.store C U (A.w U U) (A.x U U) (A.x U U) sizeOf25 U U U V Ph5 (hk undef _ ⟨QFs.nil, ?_⟩)
 refine Da C 7 hok U U<|D.done C hok Kr<|Xr C U U<|R5 C U U isAgg25 sizeOf25 V Tk5<|R.callR C U U U U ((x_casesS hJ he3 hv3')) fun v4 ro4 hl4 hq4=>?_
 subst hq4
 have he4:=he3.mono hl4
 have hl14:=RO.le_trans hl12 (RO.le_trans hl3 hl4)
 have hv0:BkV ro4 (.agg [.int .i64 3, .int .i64 3, .int .i64 0, .slice cb 2 cc, .slice wb 3 wc].toArray) ex0:=⟨_,_,rfl,hc.mono hl14,hw.mono hl14⟩
 refine Rm C U U<|R.ext C U U U U<|R.ext C U U U U<|R.asg C U U U<|Ad C U U<|Xr C U U<|Rf C 2 U U runUnderlying25 U sizeOf3<|R.store C U U U U sizeOf3 U U U V (.skip (.skip (.here .nil)))<|R.done C<|Xr C U U<|R5 C U U isAgg25 sizeOf25 V Tk5<|R.callR C U U U U ((x_where0 hJ he4 hv0)) fun v5 ro5 hl5 hq5=>?_
 obtain⟨vs,hvs,rfl⟩:=hq5
 have he5:=he4.mono hl5
 refine Rm C U U<|R.ext C U U U U<|R.ext C U U U U<|R.asg C U U U<|Ad C U U<|Xr C U U<|R5 C U U isAgg25 sizeOf25 V Tk5<|R.callR C U U U U ((x_off0 hJ he5 (hv0.mono hl5))) fun v6 ro6 hl6 hq6=>?_
 obtain⟨vl,hvl,rfl⟩:=hq6
 refine Rm C U U<|R.ext C U U U U<|R.ext C U U U U<|R.asg C U U U<|Ad C U U<|Xr C U U<|Rm C U U<|R.int C U U U U b_eql<|R.fixv (t:=299) (v':= .bool true) U (by rfl)<|Rm C U U<|Rm C U U<|R.int C U U U U b_eql<|R.fixv (t:=302) (v':= .bool true) U (by rfl)<|R.pickT C U U U U<|Rm C U U<|Rm C U U<|R.int C U U U U b_eql<|R.fixv (t:=306) (v':= .bool true) U (by rfl)<|R.pickT C U U U U<|Rm C U U<|Rm C U U<|R.int C U U U U b_eql<|R.fixv (t:=310) (v':= .bool true) U (by rfl)<|R.pickT C U U U U<|Rm C U U<|Rm C U U<|R.int C U U U U b_eql<|R.fixv (t:=314) (v':= .bool true) U (by rfl)<|R.pickT C U U U U<|Rm C U U<|Rm C U U<|R.int C U U U U b_eql<|R.fixv (t:=318) (v':= .bool true) U (by rfl)<|R.pickT C U U U U<|Rm C U U<|Rm C U U<|R.int C U U U U b_eql<|R.fixv (t:=322) (v':= .bool true) U (by rfl)<|R.pickT C U U U U<|Rm C U U ?_;refine Rm C U U<|R.int C U U U U b_eql<|R.fixv (t:=326) (v':= .bool true) U (by rfl)<|R.pickT C U U U U<|Rm C U U<|Rm C U U<|R.buildSlice C (vs:=_) U U (show pvals _ _=some (numbered 0 [_]) from rfl) U runUnderlying28 sizeOf3 zeroValue3 Dd (Cat.one U U) fun p330=>R.persist C.1 fun ro7 hl7 hp7=>R.callP C U U U U (sameInts_c hJ (hvl.mono hl7) (Ls.lit (xs:= [1]) ic_len hp7) Dd Dd)<|R.fixv (t:=331) (v':= .bool true) U (by exact congrArg Value.bool Kr)<|R.pickT C U U U U<|Rm C U U<|Rm C U U<|R.callP C U U U U (sq_c hJ _ _ _)<|R.callP C U U U U (sq_c hJ _ _ _)<|R.buildSlice C (vs:=_) U U (show pvals _ _=some (numbered 0 [_,_]) from rfl) U runUnderlying41 sizeOf27 zeroValue27 Dd ((.cons U U (.cons U U .nil))) fun p337=>R.persist C.1 fun ro8 hl8 hp8=>R.callP C U U U U (sameSquares_c hJ (hvs.mono (RO.le_trans hl6 (RO.le_trans hl7 hl8))) (Ls.lit (xs:=([⟨2,0⟩,⟨2,1⟩]:List Sq)) (t:=27) (fq:=(0,0)) Sq.len (show ro8 p337=some (.cells (([⟨2,0⟩,⟨2,1⟩]:List Sq).flatMap Sq.cells).toArray 27 (0,0)) from hp8)) Dd Dd)<|R.fixv (t:=338) (v':= .bool true) U (by rfl)<|R.pickT C U U U U<|Ad C U U<|X.ret C U U func19 U (by exact .tmp U .nil) ?_
 exact hret _ _ (RO.le_trans hl14 (RO.le_trans hl5 (RO.le_trans hl6 (RO.le_trans hl7 hl8)))) Vs
noncomputable def g17:Code:=cR (cR (cR (cR (cR (cR (cR (cR (cR (cR (cR (cR (cR (cR (cR (cR (b19))))))))))))))))
theorem found_two{cbO wbO:Option Addr}{ccO wcO:Nat}{vl:Value}(he:Env ro)(hc:Ls Rc.cells 2 ro (.slice cb 2 cc) exB.cs)(hw:Ls Wt.cells 5 ro (.slice wb 3 wc) exB.ws)
  (hvl:LsI ro vl [0,1]) (hcO:Ls Rc.cells 2 ro (.slice cbO 2 ccO) exO.cs) (hwO:Ls Wt.cells 5 ro (.slice wbO 4 wcO) exO.ws)
  (hret:∀ro' own,ro.le ro'→tail.Sublist own→JM prog Q (G (c.finish (.bool true)) cs) ⟨ro',own⟩):
  X (JM prog Q) (bf 19 .normal) (c::cs) 340 [.code g17] [] [(1, .pointer (some ⟨p1,0,none⟩)),(24, .pointer (some ⟨p24,0,none⟩)),(21,vl),(3, .int .i64 0),(17, .int .i64 0),(5, .int .i64 0),(22, .int .i64 0),(23, .int .i64 10),(7, .int .i64 0),(9, .int .i64 0)]
   ⟨ro,(p24, .cells [.int .i64 3, .int .i64 3, .int .i64 1, .slice cbO 2 ccO, .slice wbO 4 wcO].toArray 25 (0,0))::(p1, .cells [.int .i64 3, .int .i64 3, .int .i64 1, .slice cb 2 cc, .slice wb 3 wc].toArray 25 (0,0))::tail⟩:=by
 have hJ:Closed prog true (JM prog Q):=JM.closed
 let main:=true
 let J:=JM prog Q
 have C:Ctx prog true (JM prog Q) (bf 19 .normal):=⟨hJ,by decide⟩
 have hv:BkV ro (.agg [.int .i64 3, .int .i64 3, .int .i64 1, .slice cbO 2 ccO, .slice wbO 4 wcO].toArray) exO:=⟨_,_,rfl,hcO,hwO⟩
 refine Xr C U U<|R5 C U U isAgg25 sizeOf25 V Tk5<|R.callR C U U U U ((x_casesO hJ he hv)) fun v1 ro1 hl1 hq1=>?_
 subst hq1
 have he1:=he.mono hl1
 refine Rm C U U<|R.ext C U U U U<|R.ext C U U U U<|R.asg C U U U<|Ad C U U<|Xr C U U<|R5 C U U isAgg25 sizeOf25 V Tk5<|R.callR C U U U U ((x_few he1 (hv.mono hl1))) fun v2 ro2 hl2 hq2=>?_
 obtain⟨vf,hvf,rfl⟩:=hq2
 have he2:=he1.mono hl2
 have hl12:=RO.le_trans hl1 hl2
 refine Rm C U U<|R.ext C U U U U<|R.ext C U U U U<|R.asg C U U U<|Ad C U U<|Xr C U U<|R5 C U U isAgg25 sizeOf25 V Tk5<|R.callR C U U U U ((x_clash he2 (hv.mono hl12))) fun v3 ro3 hl3 hq3=>?_
 obtain⟨vk,hvk,rfl⟩:=hq3
 have hl13:=RO.le_trans hl12 hl3
 refine Rm C U U<|R.ext C U U U U<|R.ext C U U U U<|R.asg C U U U<|Ad C U U<|Xs C<|Xr C U U<|Rm C U U<|R.int C U U U U b_neq<|R.fixv (t:=207) (v':= .bool false) U (by rfl)<|Rm C U U<|Rm C U U<|R.int C U U U U b_neq<|R.fixv (t:=210) (v':= .bool false) U (by rfl)<|R.pickF C U U U U<|Rm C U U<|Rm C U U<|R.int C U U U U b_neq<|R.fixv (t:=214) (v':= .bool false) U (by rfl)<|R.pickF C U U U U<|Rm C U U<|Rm C U U<|R.int C U U U U b_neq<|R.fixv (t:=218) (v':= .bool false) U (by rfl)<|R.pickF C U U U U<|Rm C U U<|Rm C U U<|R.int C U U U U b_neq<|R.fixv (t:=222) (v':= .bool false) U (by rfl)<|R.pickF C U U U U<|Rm C U U<|Rm C U U<|R.int C U U U U b_neq<|R.fixv (t:=226) (v':= .bool false) U (by rfl)<|R.pickF C U U U U<|Rm C U U<|Rm C U U<|R.int C U U U U b_neq<|R.fixv (t:=230) (v':= .bool false) U (by rfl)<|R.pickF C U U U U ?_;refine Rm C U U<|Rm C U U<|R.int C U U U U b_neq<|R.fixv (t:=234) (v':= .bool false) U (by rfl)<|R.pickF C U U U U<|Rm C U U<|Rm C U U<|R.int C U U U U b_neq<|R.fixv (t:=238) (v':= .bool false) U (by rfl)<|R.pickF C U U U U<|Rm C U U<|Rm C U U<|R.int C U U U U b_neq<|R.fixv (t:=242) (v':= .bool false) U (by rfl)<|R.pickF C U U U U<|Rm C U U<|Rm C U U<|R.int C U U U U b_neq<|R.fixv (t:=246) (v':= .bool false) U (by rfl)<|R.pickF C U U U U<|Rm C U U<|Rm C U U<|R.buildSlice C (vs:=_) U U (show pvals _ _=some (numbered 0 [_,_]) from rfl) U runUnderlying28 sizeOf3 zeroValue3 Dd ((.cons U U (.cons U U .nil))) fun p250=>R.persist C.1 fun ro4 hl4 hp4=>R.callP C U U U U (sameInts_c hJ (hvl.mono (RO.le_trans hl13 hl4)) (Ls.lit (xs:=([0,1]:List Int)) (t:=3) (fq:=(0,0)) ic_len hp4) Dd Dd)<|R.fixv (t:=251) (v':= .bool true) U (by exact congrArg Value.bool Kr)<|R.not C U U U<|R.fixv (t:=252) (v':= .bool false) U U<|R.pickF C U U U U<|Rm C U U<|Rm C U U<|R.buildSlice C (vs:=_) U U (show pvals _ _=some (numbered 0 [_]) from rfl) U runUnderlying28 sizeOf3 zeroValue3 Dd (Cat.one U U) fun p256=>R.persist C.1 fun ro5 hl5 hp5=>R.callP C U U U U (sameInts_c hJ (hvf.mono (RO.le_trans hl3 (RO.le_trans hl4 hl5))) (Ls.lit (xs:=([0]:List Int)) (t:=3) (fq:=(0,0)) ic_len hp5) Dd Dd)<|R.fixv (t:=257) (v':= .bool true) U (by exact congrArg Value.bool Kr)<|R.not C U U U<|R.fixv (t:=258) (v':= .bool false) U U<|R.pickF C U U U U<|Rm C U U<|Rm C U U ?_;refine R.buildSlice C (vs:=_) U U (show pvals _ _=some (numbered 0 [_,_]) from rfl) U runUnderlying28 sizeOf3 zeroValue3 Dd ((.cons U U (.cons U U .nil))) fun p262=>R.persist C.1 fun ro6 hl6 hp6=>R.callP C U U U U (sameInts_c hJ (hvk.mono (RO.le_trans hl4 (RO.le_trans hl5 hl6))) (Ls.lit (xs:=([0,3]:List Int)) (t:=3) (fq:=(0,0)) ic_len hp6) Dd Dd)<|R.fixv (t:=263) (v':= .bool true) U (by exact congrArg Value.bool Kr)<|R.not C U U U<|R.fixv (t:=264) (v':= .bool false) U U<|R.pickF C U U U U<|R.done C<|X.cond C.1 U (fun h=>nomatch h) (fun _=>?_)
 refine X.skip C.1 ?_
 have hl:=RO.le_trans hl13 (RO.le_trans hl4 (RO.le_trans hl5 hl6))
 refine X.weaken ?_ (found_end (he.mono hl) (hc.mono hl) (hw.mono hl) fun ro' own h1 h2=>hret ro' own (RO.le_trans hl h1) h2)
 exact⟨U,U,trivial⟩
end Go.Lg.B
namespace Go.Lg.B
open Go Go.Conc Go.Lg Go.Proofs Go.Proofs.Tryz
variable {cc p1 wc:Nat}{cb wb:Option Addr}{ro:RO}{c:Frame}{cs:List Frame}{tail:List (Nat×Obj)}
variable {Q:Machine→Outcome→World→Trace→Prop}
theorem eqT46:IntT prog 10000 46 2 true:=IntT.struct runUnderlying46 Kr (.cons Dd rfl sizeOf3 isAgg3 (fun _=>rfl) (IntT.int runUnderlying3) (.cons Dd rfl sizeOf3 isAgg3 (fun _=>rfl) (IntT.int runUnderlying3) .nil))
noncomputable def g16:Code:=cR (cR (cR (cR (cR (cR (cR (cR (cR (cR (cR (cR (cR (cR (cR (b19)))))))))))))))
theorem found_hear{vl:Value}(he:Env ro)(hc:Ls Rc.cells 2 ro (.slice cb 2 cc) exB.cs)(hw:Ls Wt.cells 5 ro (.slice wb 3 wc) exB.ws)
  (hvl:LsI ro vl [0,1])
  (hret:∀ro' own,ro.le ro'→tail.Sublist own→JM prog Q (G (c.finish (.bool true)) cs) ⟨ro',own⟩):
  X (JM prog Q) (bf 19 .normal) (c::cs) 340 [.code g16] [] [(1, .pointer (some ⟨p1,0,none⟩)),(21,vl),(3, .int .i64 0),(17, .int .i64 0),(5, .int .i64 0),(22, .int .i64 0),(23, .int .i64 10),(7, .int .i64 0)]
   ⟨ro,(p1, .cells [.int .i64 3, .int .i64 3, .int .i64 1, .slice cb 2 cc, .slice wb 3 wc].toArray 25 (0,0))::tail⟩:=by
 have hJ:Closed prog true (JM prog Q):=JM.closed
 let main:=true
 let J:=JM prog Q
 have C:Ctx prog true (JM prog Q) (bf 19 .normal):=⟨hJ,by decide⟩
 have hv:BkV ro (.agg [.int .i64 3, .int .i64 3, .int .i64 1, .slice cb 2 cc, .slice wb 3 wc].toArray) exB:=⟨_,_,rfl,hc,hw⟩
 refine Xs C<|Xd C fun hok=>D5 C 0 hok U U isAgg25 sizeOf25 V Tk5<|D.eP2 (i:=1) (i':=7) (dst:=(some 186)) (dst':=(some 24)) [true] [true] hok U U Kr Kr Kr (fun _ _ A hk=>?_) (fun _ _ A hk=>?_)
 ·
  refine R.callP C U (A.w U U) (A.x U U) (A.s U U) (sq_c hJ _ _ _) (hk _ _ ⟨(QFs.cons (QF.of U (fun _ _ A h=>R.loadAgg C U (A.w U U) (A.x U U) isAgg25 sizeOf25 V Tk5 h)) QFs.nil), ?_⟩)
  refine Dp 2 hok (fun _ _ _ A h=>R.build C U (A.w U U) (A.p U U) zeroValue58 U runUnderlying58 Kr (Fills.part U U sizeOf27 U Ph2 (Fills.part U U sizeOf3 U (.skip (.skip (.here .nil))) .nil)) h)<|D.eP2 (i:=3) (i':=7) (dst:=(some 188)) (dst':=(some 24)) [false] [true] hok U U Kr Kr Kr (fun _ _ A hk=>?_) (fun _ _ A hk=>?_)
  ·
   refine R.callR C U (A.w U U) (A.x U U) (A.s U U) ((x_hear hJ he hv)) fun v1 ro1 hl1 hq1=>hk _ _ ⟨QFs.nil, ?_⟩
   obtain⟨v1,hv1,rfl⟩:=hq1
   obtain⟨vc1,vw1,rfl,hc1,hw1⟩:=hv1
   obtain⟨cb1,cc1,rfl⟩:=hc1.form
   obtain⟨wb1,wc1,rfl⟩:=hw1.form
   refine Dm C 4 hok U U U<|Dp 5 hok (fun _ _ _ A h=>R.ext C U (A.w U U) (A.x U U) U h)<|Dp 6 hok (fun _ _ _ A h=>R.ext C U (A.w U U) (A.x U U) U h)<|De 7 (some 24) [] hok (fun _ _ A hk=>?_)
   refine R.alloc C U (A.w U U) zeroValue25 U fun p24=>hk _ _ ⟨QFs.nil, ?_⟩
   refine De 8 none [] hok (fun _ _ A hk=>?_)
   refine R.store C U (A.w U U) (A.x U U) (A.x U U) sizeOf25 U U U V Ph5 (hk undef _ ⟨QFs.nil, ?_⟩)
   refine Da C 9 hok U U<|D.done C hok Kr<|X.weaken ?_ (found_two (he.mono hl1) (hc.mono hl1) (hw.mono hl1) (hvl.mono hl1) hc1 hw1 fun ro' own h1 h2=>hret ro' own (RO.le_trans hl1 h1) h2)
   exact⟨U,U,U,U,U,U,U,U,U,U,trivial⟩
  ·
   refine R.alloc C U (A.w U U) zeroValue25 U fun p24=>hk _ _ ⟨(QFs.cons (QF.of U (fun _ _ A h=>R.loadAgg C U (A.w U U) (A.x U U) isAgg25 sizeOf25 V Tk5 h)) QFs.nil), ?_⟩
   refine De 3 (some 188) [false] hok (fun _ _ A hk=>?_)
   refine R.callR C U (A.w U U) (A.x U U) (A.s U U) ((x_hear hJ he hv)) fun v1 ro1 hl1 hq1=>hk _ _ ⟨QFs.nil, ?_⟩
   obtain⟨v1,hv1,rfl⟩:=hq1
   obtain⟨vc1,vw1,rfl,hc1,hw1⟩:=hv1
   obtain⟨cb1,cc1,rfl⟩:=hc1.form
   obtain⟨wb1,wc1,rfl⟩:=hw1.form
   refine Dm C 4 hok U U U<|Dp 5 hok (fun _ _ _ A h=>R.ext C U (A.w U U) (A.x U U) U h)<|Dp 6 hok (fun _ _ _ A h=>R.ext C U (A.w U U) (A.x U U) U h)<|De 8 none [] hok (fun _ _ A hk=>?_)
   refine R.store C U (A.w U U) (A.x U U) (A.x U U) sizeOf25 U U U V Ph5 (hk undef _ ⟨QFs.nil, ?_⟩)
   refine Da C 9 hok U U<|D.done C hok Kr<|X.weaken ?_ (found_two (he.mono hl1) (hc.mono hl1) (hw.mono hl1) (hvl.mono hl1) hc1 hw1 fun ro' own h1 h2=>hret ro' own (RO.le_trans hl1 h1) h2)
   exact⟨U,U,U,U,U,U,U,U,U,U,trivial⟩
 ·
  refine R.alloc C U (A.w U U) zeroValue25 U fun p24=>hk _ _ ⟨(QFs.cons (QF.of U (fun _ _ A h=>R.loadAgg C U (A.w U U) (A.x U U) isAgg25 sizeOf25 V Tk5 h)) QFs.nil), ?_⟩
  refine De 1 (some 186) [true] hok (fun _ _ A hk=>?_)
  refine R.callP C U (A.w U U) (A.x U U) (A.s U U) (sq_c hJ _ _ _) (hk _ _ ⟨(QFs.cons (QF.of U (fun _ _ A h=>R.loadAgg C U (A.w U U) (A.x U U) isAgg25 sizeOf25 V Tk5 h)) QFs.nil), ?_⟩)
  refine Dp 2 hok (fun _ _ _ A h=>R.build C U (A.w U U) (A.p U U) zeroValue58 U runUnderlying58 Kr (Fills.part U U sizeOf27 U Ph2 (Fills.part U U sizeOf3 U (.skip (.skip (.here .nil))) .nil)) h)<|De 3 (some 188) [false] hok (fun _ _ A hk=>?_)
  refine R.callR C U (A.w U U) (A.x U U) (A.s U U) ((x_hear hJ he hv)) fun v1 ro1 hl1 hq1=>hk _ _ ⟨QFs.nil, ?_⟩
  obtain⟨v1,hv1,rfl⟩:=hq1
  obtain⟨vc1,vw1,rfl,hc1,hw1⟩:=hv1
  obtain⟨cb1,cc1,rfl⟩:=hc1.form
  obtain⟨wb1,wc1,rfl⟩:=hw1.form
  refine Dm C 4 hok U U U<|Dp 5 hok (fun _ _ _ A h=>R.ext C U (A.w U U) (A.x U U) U h)<|Dp 6 hok (fun _ _ _ A h=>R.ext C U (A.w U U) (A.x U U) U h)<|De 8 none [] hok (fun _ _ A hk=>?_)
  refine R.store C U (A.w U U) (A.x U U) (A.x U U) sizeOf25 U U U V Ph5 (hk undef _ ⟨QFs.nil, ?_⟩)
  refine Da C 9 hok U U<|D.done C hok Kr<|X.weaken ?_ (found_two (he.mono hl1) (hc.mono hl1) (hw.mono hl1) (hvl.mono hl1) hc1 hw1 fun ro' own h1 h2=>hret ro' own (RO.le_trans hl1 h1) h2)
  exact⟨U,U,U,U,U,U,U,U,U,U,trivial⟩
noncomputable def g6:Code:=cR (cR (cR (cR (cR (cR b19)))))
theorem found_one(he:Env ro)(hc:Ls Rc.cells 2 ro (.slice cb 2 cc) exB.cs)(hw:Ls Wt.cells 5 ro (.slice wb 3 wc) exB.ws)
  (hret:∀ro' own,ro.le ro'→tail.Sublist own→JM prog Q (G (c.finish (.bool true)) cs) ⟨ro',own⟩):
  X (JM prog Q) (bf 19 .normal) (c::cs) 340 [.code g6] [] [(1, .pointer (some ⟨p1,0,none⟩)),(2, .int .i64 1),(3, .int .i64 0),(4, .int .i64 2),(5, .int .i64 0),(6, .bool true),(7, .int .i64 0),(8, .bool false),(9, .int .i64 0)]
   ⟨ro,(p1, .cells [.int .i64 3, .int .i64 3, .int .i64 1, .slice cb 2 cc, .slice wb 3 wc].toArray 25 (0,0))::tail⟩:=by
 have hJ:Closed prog true (JM prog Q):=JM.closed
 let main:=true
 let J:=JM prog Q
 have C:Ctx prog true (JM prog Q) (bf 19 .normal):=⟨hJ,by decide⟩
 have hv:BkV ro (.agg [.int .i64 3, .int .i64 3, .int .i64 1, .slice cb 2 cc, .slice wb 3 wc].toArray) exB:=⟨_,_,rfl,hc,hw⟩
 refine Xr C U U<|R5 C U U isAgg25 sizeOf25 V Tk5<|R.callR C U U U U ((x_cases hJ he hv)) fun v1 ro1 hl1 hq1=>?_
 subst hq1
 have he1:=he.mono hl1
 refine Rm C U U<|R.ext C U U U U<|R.ext C U U U U<|R.asg C U U U<|Ad C U U<|Xr C U U<|R5 C U U isAgg25 sizeOf25 V Tk5<|R.callR C U U U U ((x_where hJ he1 (hv.mono hl1))) fun v2 ro2 hl2 hq2=>?_
 obtain⟨vs,hvs,rfl⟩:=hq2
 have he2:=he1.mono hl2
 have hl12:=RO.le_trans hl1 hl2
 refine Rm C U U<|R.ext C U U U U<|R.ext C U U U U<|R.asg C U U U<|Ad C U U<|Xr C U U<|R5 C U U isAgg25 sizeOf25 V Tk5<|R.callR C U U U U ((x_box hJ he2 (hv.mono hl12))) fun v3 ro3 hl3 hq3=>?_
 subst hq3
 have he3:=he2.mono hl3
 have hl13:=RO.le_trans hl12 hl3
 refine Rm C U U<|R.ext C U U U U<|R.ext C U U U U<|R.ext C U U U U<|R.alloc C U U zeroValue46 U fun p14=>R.alloc C U U zeroValue46 U fun p15=>R.store C U U U U sizeOf46 U U U V Ph2<|R.store C U U U U sizeOf46 U U U V Ph2<|Ad C U U<|Xs C<|Xd C fun hok=>D5 C 0 hok U U isAgg25 sizeOf25 V Tk5<|De 1 (some 75) [true] hok (fun _ _ A hk=>?_)
 refine R.callP C U (A.w U U) (A.x U U) (A.s U U) (sq_c hJ _ _ _) (hk _ _ ⟨(QFs.cons (QF.of U (fun _ _ A h=>R.loadAgg C U (A.w U U) (A.x U U) isAgg25 sizeOf25 V Tk5 h)) QFs.nil), ?_⟩)
 refine De 2 (some 76) [false] hok (fun _ _ A hk=>?_)
 refine R.callR C U (A.w U U) (A.x U U) (A.s U U) ((x_at1 hJ he3 (hv.mono hl13))) fun v4 ro4 hl4 hq4=>hk _ _ ⟨QFs.nil, ?_⟩
 subst hq4
 have he4:=he3.mono hl4
 have hl14:=RO.le_trans hl13 hl4
 refine Dm C 3 hok U U U<|Dp 4 hok (fun _ _ _ A h=>R.ext C U (A.w U U) (A.x U U) U h)<|Dp 5 hok (fun _ _ _ A h=>R.ext C U (A.w U U) (A.x U U) U h)<|Da C 6 hok U U<|Da C 7 hok U U<|D.done C hok Kr<|Xs C<|Xd C fun hok=>D5 C 0 hok U U isAgg25 sizeOf25 V Tk5<|De 1 (some 81) [true] hok (fun _ _ A hk=>?_)
 refine R.callP C U (A.w U U) (A.x U U) (A.s U U) (sq_c hJ _ _ _) (hk _ _ ⟨(QFs.cons (QF.of U (fun _ _ A h=>R.loadAgg C U (A.w U U) (A.x U U) isAgg25 sizeOf25 V Tk5 h)) QFs.nil), ?_⟩)
 refine De 2 (some 82) [false] hok (fun _ _ A hk=>?_)
 refine R.callR C U (A.w U U) (A.x U U) (A.s U U) ((x_at2 hJ he4 (hv.mono hl14))) fun v5 ro5 hl5 hq5=>hk _ _ ⟨QFs.nil, ?_⟩
 subst hq5
 have he5:=he4.mono hl5
 have hl15:=RO.le_trans hl14 hl5
 refine Dm C 3 hok U U U<|Dp 4 hok (fun _ _ _ A h=>R.ext C U (A.w U U) (A.x U U) U h)<|Dp 5 hok (fun _ _ _ A h=>R.ext C U (A.w U U) (A.x U U) U h)<|Da C 6 hok U U<|Da C 7 hok U U<|D.done C hok Kr<|Xs C<|Xs C<|Xd C fun hok=>Dm C 0 hok U U U<|Di C 1 hok U U U U U b_neq<|D.fixv (t:=86) (v':= .bool false) U (by rfl)<|Dm C 2 hok U U U<|Dm C 3 hok U U U<|Di C 4 hok U U U U U b_neq<|D.fixv (t:=89) (v':= .bool false) U (by rfl)<|Dp 5 hok (fun _ _ _ A h=>R.pickF C U (A.w U U) (A.x U U) (A.x U U) h)<|Dm C 6 hok U U U<|Dm C 7 hok U U U<|Di C 8 hok U U U U U b_neq<|D.fixv (t:=93) (v':= .bool false) U (by rfl)<|Dp 9 hok (fun _ _ _ A h=>R.pickF C U (A.w U U) (A.x U U) (A.x U U) h)<|Dm C 10 hok U U U<|Dm C 11 hok U U U<|Di C 12 hok U U U U U b_neq<|D.fixv (t:=97) (v':= .bool false) U (by rfl)<|Dp 13 hok (fun _ _ _ A h=>R.pickF C U (A.w U U) (A.x U U) (A.x U U) h)<|Dm C 14 hok U U U<|Dm C 15 hok U U U<|Di C 16 hok U U U U U b_neq<|D.fixv (t:=101) (v':= .bool false) U (by rfl)<|Dp 17 hok (fun _ _ _ A h=>R.pickF C U (A.w U U) (A.x U U) (A.x U U) h)<|Dm C 18 hok U U U<|Dm C 19 hok U U U<|Di C 20 hok U U U U U b_neq<|D.fixv (t:=105) (v':= .bool false) U (by rfl)<|Dp 21 hok (fun _ _ _ A h=>R.pickF C U (A.w U U) (A.x U U) (A.x U U) h)<|Dm C 22 hok U U U<|Dm C 23 hok U U U<|Di C 24 hok U U U U U b_neq ?_;refine D.fixv (t:=109) (v':= .bool false) U (by rfl)<|Dp 25 hok (fun _ _ _ A h=>R.pickF C U (A.w U U) (A.x U U) (A.x U U) h)<|Dm C 26 hok U U U<|Dm C 27 hok U U U<|Di C 28 hok U U U U U b_neq<|D.fixv (t:=113) (v':= .bool false) U (by rfl)<|Dp 29 hok (fun _ _ _ A h=>R.pickF C U (A.w U U) (A.x U U) (A.x U U) h)<|Dm C 30 hok U U U<|Dm C 31 hok U U U<|Di C 32 hok U U U U U b_neq<|D.fixv (t:=117) (v':= .bool false) U (by rfl)<|Dp 33 hok (fun _ _ _ A h=>R.pickF C U (A.w U U) (A.x U U) (A.x U U) h)<|Dm C 34 hok U U U<|Dm C 35 hok U U U<|Di C 36 hok U U U U U b_neq<|D.fixv (t:=121) (v':= .bool false) U (by rfl)<|Dp 37 hok (fun _ _ _ A h=>R.pickF C U (A.w U U) (A.x U U) (A.x U U) h)<|Dm C 38 hok U U U<|Dm C 39 hok U U U<|Di C 40 hok U U U U U b_neq<|D.fixv (t:=125) (v':= .bool false) U (by rfl)<|Dp 41 hok (fun _ _ _ A h=>R.pickF C U (A.w U U) (A.x U U) (A.x U U) h)<|Dm C 42 hok U U U<|Dm C 43 hok U U U<|Dp 44 hok (fun _ _ _ A h=>R.not C U (A.w U U) (A.x U U) h)<|D.fixv (t:=129) (v':= .bool false) U U<|Dp 45 hok (fun _ _ _ A h=>R.pickF C U (A.w U U) (A.x U U) (A.x U U) h)<|Dm C 46 hok U U U<|Dm C 47 hok U U U<|Dp 48 hok (fun _ _ _ A h=>R.pickF C U (A.w U U) (A.x U U) (A.x U U) h)<|Dm C 49 hok U U U<|Dm C 50 hok U U U<|Di C 51 hok U U U U U b_neq<|D.fixv (t:=136) (v':= .bool false) U (by rfl)<|Dp 52 hok (fun _ _ _ A h=>R.pickF C U (A.w U U) (A.x U U) (A.x U U) h)<|Dm C 53 hok U U U<|D5 C 54 hok U U isAgg46 sizeOf46 V Tk2<|De 55 (some 140) [true] hok (fun _ _ A hk=>?_)
 refine R.callP C U (A.w U U) (A.x U U) (A.s U U) (reach_c hJ _ _ _) (hk _ _ ⟨(QFs.cons (QF.of U (fun _ _ A h=>R.loadAgg C U (A.w U U) (A.x U U) isAgg46 sizeOf46 V Tk2 h)) QFs.nil), ?_⟩)
 refine Dp 56 hok (fun _ _ _ A h=>R.neAgg (p:= [0,2]) (q:= [0,2]) C U (A.w U U) (A.x U U) (A.x U U) eqT46 U U Kr h)<|D.fixv (t:=141) (v':= .bool false) U (by rfl)<|Dp 57 hok (fun _ _ _ A h=>R.pickF C U (A.w U U) (A.x U U) (A.x U U) h)<|Dm C 58 hok U U U<|D5 C 59 hok U U isAgg46 sizeOf46 V Tk2<|De 60 (some 145) [true,false] hok (fun _ _ A hk=>?_)
 refine R.callP C U (A.w U U) (A.x U U) (A.s U U) (reach_c hJ _ _ _) (hk _ _ ⟨(QFs.cons (QF.of U (fun _ _ A h=>R.loadAgg C U (A.w U U) (A.x U U) isAgg46 sizeOf46 V Tk2 h)) QFs.nil), ?_⟩)
 refine Dp 61 hok (fun _ _ _ A h=>R.neAgg (p:= [0,2]) (q:= [0,2]) C U (A.w U U) (A.x U U) (A.x U U) eqT46 U U Kr h)<|D.fixv (t:=146) (v':= .bool false) U (by rfl)<|Dp 62 hok (fun _ _ _ A h=>R.pickF C U (A.w U U) (A.x U U) (A.x U U) h)<|Dm C 63 hok U U U<|Dm C 64 hok U U U<|Di C 65 hok U U U U U b_neq<|D.fixv (t:=150) (v':= .bool false) U (by rfl)<|Dp 66 hok (fun _ _ _ A h=>R.pickF C U (A.w U U) (A.x U U) (A.x U U) h)<|Dm C 67 hok U U U<|Dm C 68 hok U U U<|Di C 69 hok U U U U U b_neq<|D.fixv (t:=154) (v':= .bool false) U (by rfl)<|Dp 70 hok (fun _ _ _ A h=>R.pickF C U (A.w U U) (A.x U U) (A.x U U) h)<|Dm C 71 hok U U U<|Dm C 72 hok U U U<|De 73 (some 158) [false] hok (fun _ _ A hk=>?_)
 refine R.callP C U (A.w U U) (A.x U U) (A.s U U) (sq_c hJ _ _ _) (hk _ _ ⟨QFs.nil, ?_⟩)
 refine De 74 (some 159) [] hok (fun _ _ A hk=>?_)
 refine R.callP C U (A.w U U) (A.x U U) (A.s U U) (sq_c hJ _ _ _) (hk _ _ ⟨QFs.nil, ?_⟩)
 refine De 75 (some 160) [] hok (fun _ _ A hk=>?_)
 refine R.callP C U (A.w U U) (A.x U U) (A.s U U) (sq_c hJ _ _ _) (hk _ _ ⟨QFs.nil, ?_⟩)
 refine De 76 (some 161) [] hok (fun _ _ A hk=>?_)
 refine R.callP C U (A.w U U) (A.x U U) (A.s U U) (sq_c hJ _ _ _) (hk _ _ ⟨QFs.nil, ?_⟩)
 refine De 77 (some 162) [] hok (fun _ _ A hk=>?_)
 refine R.callP C U (A.w U U) (A.x U U) (A.s U U) (sq_c hJ _ _ _) (hk _ _ ⟨QFs.nil, ?_⟩)
 refine De 78 (some 163) [] hok (fun _ _ A hk=>?_)
 refine R.callP C U (A.w U U) (A.x U U) (A.s U U) (sq_c hJ _ _ _) (hk _ _ ⟨QFs.nil, ?_⟩)
 refine De 79 (some 164) [] hok (fun _ _ A hk=>?_)
 refine R.buildSlice C (vs:=_) U (A.w U U) (show pvals _ _=some (numbered 0 [_,_,_,_,_,_]) from(A.p U U)) U runUnderlying41 sizeOf27 zeroValue27 Dd ((.cons U U (.cons U U (.cons U U (.cons U U (.cons U U (.cons U U .nil))))))) fun p164=>hk _ _ ⟨QFs.nil, ?_⟩
 refine De 80 (some 165) [] hok (fun _ _ A hk=>?_)
 refine R.persist C.1 fun ro6 hl6 hp6=>R.callP C U (A.w U U) (A.x U U) (A.s U U) (sameSquares_c hJ (hvs.mono (RO.le_trans hl3 (RO.le_trans hl4 (RO.le_trans hl5 hl6)))) (Ls.lit (xs:=([⟨0,0⟩,⟨1,0⟩,⟨2,0⟩,⟨2,1⟩,⟨1,2⟩,⟨2,2⟩]:List Sq)) (t:=27) (fq:=(0,0)) Sq.len (show ro6 p164=some (.cells (([⟨0,0⟩,⟨1,0⟩,⟨2,0⟩,⟨2,1⟩,⟨1,2⟩,⟨2,2⟩]:List Sq).flatMap Sq.cells).toArray 27 (0,0)) from hp6)) Dd Dd) (hk _ _ ⟨QFs.nil, ?_⟩)
 refine D.fixv (t:=165) (v':= .bool true) U (by rfl) ?_
 have he6:=he5.mono hl6
 have hl16:=RO.le_trans hl15 hl6
 refine Dp 81 hok (fun _ _ _ A h=>R.not C U (A.w U U) (A.x U U) h)<|D.fixv (t:=166) (v':= .bool false) U U<|Dp 82 hok (fun _ _ _ A h=>R.pickF C U (A.w U U) (A.x U U) (A.x U U) h)<|D.done C hok Kr<|X.cond C.1 U (fun h=>nomatch h) (fun _=>?_)
 refine X.skip C.1<|Xr C U U<|R5 C U U isAgg25 sizeOf25 V Tk5<|R.callR C U U U U ((x_off hJ he6 (hv.mono hl16))) fun v7 ro7 hl7 hq7=>?_
 obtain⟨vl,hvl,rfl⟩:=hq7
 have he7:=he6.mono hl7
 have hl17:=RO.le_trans hl16 hl7
 refine Rm C U U<|R.ext C U U U U<|R.ext C U U U U<|R.asg C U U U<|Ad C U U<|Xr C U U<|R5 C U U isAgg25 sizeOf25 V Tk5<|R.callR C U U U U ((x_false hJ he7 (hv.mono hl17))) fun v8 ro8 hl8 hq8=>?_
 subst hq8
 have he8:=he7.mono hl8
 have hl18:=RO.le_trans hl17 hl8
 refine Rm C U U<|R.ext C U U U U<|R.ext C U U U U<|R.asg C U U U<|Ad C U U<|Xr C U U<|R5 C U U isAgg25 sizeOf25 V Tk5<|R.callR C U U U U ((x_ask hJ he8 (hv.mono hl18))) fun v9 ro9 hl9 hq9=>?_
 subst hq9
 have hl:=RO.le_trans hl18 hl9
 refine Rm C U U<|R.ext C U U U U<|R.ext C U U U U<|R.ext C U U U U<|R.asg C U U U<|R.asg C U U U<|Ad C U U<|X.perm C.1 (perm_mid [_,_] [_] _)<|X.weaken ?_ (found_hear (he.mono hl) (hc.mono hl) (hw.mono hl) (hvl.mono (RO.le_trans hl8 hl9)) fun ro' own h1 h2=>hret ro' own (RO.le_trans hl h1) ((List.Sublist.trans Vs h2)))
 exact⟨U,U,U,U,U,U,U,U,trivial⟩
end Go.Lg.B
namespace Go.Lg.B
open Go Go.Conc Go.Lg Go.Proofs Go.Proofs.Tryz
variable {cc p1 wc:Nat}{cb wb:Option Addr}{ro:RO}{c:Frame}{cs:List Frame}{tail:List (Nat×Obj)}
variable {Q:Machine→Outcome→World→Trace→Prop}
noncomputable def g5:Code:=cR (cR (cR (cR (cR b19))))
theorem found_at5(he:Env ro)(hc:Ls Rc.cells 2 ro (.slice cb 2 cc) exB.cs)(hw:Ls Wt.cells 5 ro (.slice wb 3 wc) exB.ws)
  (hret:∀ro' own,ro.le ro'→tail.Sublist own→JM prog Q (G (c.finish (.bool true)) cs) ⟨ro',own⟩):
  X (JM prog Q) (bf 19 .normal) (c::cs) 340 [.code g5] [] [(1, .pointer (some ⟨p1,0,none⟩)),(2, .int .i64 1),(3, .int .i64 0),(4, .int .i64 2),(5, .int .i64 0),(6, .bool true),(7, .int .i64 0)]
   ⟨ro,(p1, .cells [.int .i64 3, .int .i64 3, .int .i64 1, .slice cb 2 cc, .slice wb 3 wc].toArray 25 (0,0))::tail⟩:=by
 have hJ:Closed prog true (JM prog Q):=JM.closed
 let main:=true
 let J:=JM prog Q
 have C:Ctx prog true (JM prog Q) (bf 19 .normal):=⟨hJ,by decide⟩
 have hv:BkV ro (.agg [.int .i64 3, .int .i64 3, .int .i64 1, .slice cb 2 cc, .slice wb 3 wc].toArray) exB:=⟨_,_,rfl,hc,hw⟩
 refine Xs C<|Xd C fun hok=>D5 C 0 hok U U isAgg25 sizeOf25 V Tk5<|D.eP2 (i:=1) (i':=2) (dst:=(some 51)) (dst':=(some 52)) [true] [true] hok U U Kr Kr Kr (fun _ _ A hk=>?_) (fun _ _ A hk=>?_)
 ·
  refine R.callP C U (A.w U U) (A.x U U) (A.s U U) (sq_c hJ _ _ _) (hk _ _ ⟨(QFs.cons (QF.of U (fun _ _ A h=>R.loadAgg C U (A.w U U) (A.x U U) isAgg25 sizeOf25 V Tk5 h)) QFs.nil), ?_⟩)
  refine De 2 (some 52) [true] hok (fun _ _ A hk=>?_)
  refine R.buildSlice C (vs:=_) U (A.w U U) (show pvals _ _=some (numbered 0 [_,_]) from(A.p U U)) U runUnderlying28 sizeOf3 zeroValue3 Dd ((.cons U U (.cons U U .nil))) fun p52=>hk _ _ ⟨(QFs.cons (QF.of U (fun _ _ A h=>R.loadAgg C U (A.w U U) (A.x U U) isAgg25 sizeOf25 V Tk5 h)) QFs.nil), ?_⟩
  refine Dp 3 hok (fun _ _ _ A h=>R.build C U (A.w U U) (A.p U U) zeroValue30 U runUnderlying30 Kr (Fills.part U U sizeOf27 U Ph2 (Fills.part U U sizeOf28 U (.skip (.skip (.here .nil))) .nil)) h)<|De 4 (some 54) [false] hok (fun _ _ A hk=>?_)
  refine R.persist C.1 fun ro1 hl1 hp1=>R.callR C U (A.w U U) (A.x U U) (A.s U U) ((x_is2 hJ (he.mono hl1) (hv.mono hl1) ⟨_,_,rfl,Ls.lit (xs:=([0,0]:List Int)) (t:=3) (fq:=(0,0)) ic_len (show ro1 p52=_ from hp1),⟨none,0,rfl, .inl rfl⟩⟩)) fun v2 ro2 hl2 hq2=>hk _ _ ⟨QFs.nil, ?_⟩
  subst hq2
  refine Dm C 5 hok U U U<|Dp 6 hok (fun _ _ _ A h=>R.ext C U (A.w U U) (A.x U U) U h)<|Dp 7 hok (fun _ _ _ A h=>R.ext C U (A.w U U) (A.x U U) U h)<|Da C 8 hok U U<|Da C 9 hok U U<|D.done C hok Kr ?_
  have hl:=RO.le_trans hl1 hl2
  refine X.weaken ?_ (found_one (he.mono hl) (hc.mono hl) (hw.mono hl) fun ro' own h1 h2=>hret ro' own (RO.le_trans hl h1) h2)
  exact⟨U,U,U,U,U,U,U,U,U,trivial⟩
 ·
  refine R.buildSlice C (vs:=_) U (A.w U U) (show pvals _ _=some (numbered 0 [_,_]) from(A.p U U)) U runUnderlying28 sizeOf3 zeroValue3 Dd ((.cons U U (.cons U U .nil))) fun p52=>hk _ _ ⟨(QFs.cons (QF.of U (fun _ _ A h=>R.loadAgg C U (A.w U U) (A.x U U) isAgg25 sizeOf25 V Tk5 h)) QFs.nil), ?_⟩
  refine De 1 (some 51) [true] hok (fun _ _ A hk=>?_)
  refine R.callP C U (A.w U U) (A.x U U) (A.s U U) (sq_c hJ _ _ _) (hk _ _ ⟨(QFs.cons (QF.of U (fun _ _ A h=>R.loadAgg C U (A.w U U) (A.x U U) isAgg25 sizeOf25 V Tk5 h)) QFs.nil), ?_⟩)
  refine Dp 3 hok (fun _ _ _ A h=>R.build C U (A.w U U) (A.p U U) zeroValue30 U runUnderlying30 Kr (Fills.part U U sizeOf27 U Ph2 (Fills.part U U sizeOf28 U (.skip (.skip (.here .nil))) .nil)) h)<|De 4 (some 54) [false] hok (fun _ _ A hk=>?_)
  refine R.persist C.1 fun ro1 hl1 hp1=>R.callR C U (A.w U U) (A.x U U) (A.s U U) ((x_is2 hJ (he.mono hl1) (hv.mono hl1) ⟨_,_,rfl,Ls.lit (xs:=([0,0]:List Int)) (t:=3) (fq:=(0,0)) ic_len (show ro1 p52=_ from hp1),⟨none,0,rfl, .inl rfl⟩⟩)) fun v2 ro2 hl2 hq2=>hk _ _ ⟨QFs.nil, ?_⟩
  subst hq2
  refine Dm C 5 hok U U U<|Dp 6 hok (fun _ _ _ A h=>R.ext C U (A.w U U) (A.x U U) U h)<|Dp 7 hok (fun _ _ _ A h=>R.ext C U (A.w U U) (A.x U U) U h)<|Da C 8 hok U U<|Da C 9 hok U U<|D.done C hok Kr ?_
  have hl:=RO.le_trans hl1 hl2
  refine X.weaken ?_ (found_one (he.mono hl) (hc.mono hl) (hw.mono hl) fun ro' own h1 h2=>hret ro' own (RO.le_trans hl h1) h2)
  exact⟨U,U,U,U,U,U,U,U,U,trivial⟩
noncomputable def g4:Code:=cR (cR (cR (cR b19)))
theorem found_at4(he:Env ro)(hc:Ls Rc.cells 2 ro (.slice cb 2 cc) exB.cs)(hw:Ls Wt.cells 5 ro (.slice wb 3 wc) exB.ws)
  (hret:∀ro' own,ro.le ro'→tail.Sublist own→JM prog Q (G (c.finish (.bool true)) cs) ⟨ro',own⟩):
  X (JM prog Q) (bf 19 .normal) (c::cs) 340 [.code g4] [] [(1, .pointer (some ⟨p1,0,none⟩)),(2, .int .i64 1),(3, .int .i64 0),(4, .int .i64 2),(5, .int .i64 0)]
   ⟨ro,(p1, .cells [.int .i64 3, .int .i64 3, .int .i64 1, .slice cb 2 cc, .slice wb 3 wc].toArray 25 (0,0))::tail⟩:=by
 have hJ:Closed prog true (JM prog Q):=JM.closed
 let main:=true
 let J:=JM prog Q
 have C:Ctx prog true (JM prog Q) (bf 19 .normal):=⟨hJ,by decide⟩
 have hv:BkV ro (.agg [.int .i64 3, .int .i64 3, .int .i64 1, .slice cb 2 cc, .slice wb 3 wc].toArray) exB:=⟨_,_,rfl,hc,hw⟩
 refine Xs C<|Xd C fun hok=>D5 C 0 hok U U isAgg25 sizeOf25 V Tk5<|D.eP2 (i:=1) (i':=2) (dst:=(some 43)) (dst':=(some 44)) [true] [true] hok U U Kr Kr Kr (fun _ _ A hk=>?_) (fun _ _ A hk=>?_)
 ·
  refine R.callP C U (A.w U U) (A.x U U) (A.s U U) (sq_c hJ _ _ _) (hk _ _ ⟨(QFs.cons (QF.of U (fun _ _ A h=>R.loadAgg C U (A.w U U) (A.x U U) isAgg25 sizeOf25 V Tk5 h)) QFs.nil), ?_⟩)
  refine De 2 (some 44) [true] hok (fun _ _ A hk=>?_)
  refine R.buildSlice C (vs:=_) U (A.w U U) (show pvals _ _=some (numbered 0 [_,_]) from(A.p U U)) U runUnderlying28 sizeOf3 zeroValue3 Dd ((.cons U U (.cons U U .nil))) fun p44=>hk _ _ ⟨(QFs.cons (QF.of U (fun _ _ A h=>R.loadAgg C U (A.w U U) (A.x U U) isAgg25 sizeOf25 V Tk5 h)) QFs.nil), ?_⟩
  refine Dp 3 hok (fun _ _ _ A h=>R.build C U (A.w U U) (A.p U U) zeroValue30 U runUnderlying30 Kr (Fills.part U U sizeOf27 U Ph2 (Fills.part U U sizeOf28 U (.skip (.skip (.here .nil))) .nil)) h)<|De 4 (some 46) [false] hok (fun _ _ A hk=>?_)
  refine R.persist C.1 fun ro1 hl1 hp1=>R.callR C U (A.w U U) (A.x U U) (A.s U U) ((x_is1 hJ (he.mono hl1) (hv.mono hl1) ⟨_,_,rfl,Ls.lit (xs:=([0,1]:List Int)) (t:=3) (fq:=(0,0)) ic_len (show ro1 p44=_ from hp1),⟨none,0,rfl, .inl rfl⟩⟩)) fun v2 ro2 hl2 hq2=>hk _ _ ⟨QFs.nil, ?_⟩
  subst hq2
  refine Dm C 5 hok U U U<|Dp 6 hok (fun _ _ _ A h=>R.ext C U (A.w U U) (A.x U U) U h)<|Dp 7 hok (fun _ _ _ A h=>R.ext C U (A.w U U) (A.x U U) U h)<|Da C 8 hok U U<|Da C 9 hok U U<|D.done C hok Kr ?_
  have hl:=RO.le_trans hl1 hl2
  refine X.weaken ?_ (found_at5 (he.mono hl) (hc.mono hl) (hw.mono hl) fun ro' own h1 h2=>hret ro' own (RO.le_trans hl h1) h2)
  exact⟨U,U,U,U,U,U,U,trivial⟩
 ·
  refine R.buildSlice C (vs:=_) U (A.w U U) (show pvals _ _=some (numbered 0 [_,_]) from(A.p U U)) U runUnderlying28 sizeOf3 zeroValue3 Dd ((.cons U U (.cons U U .nil))) fun p44=>hk _ _ ⟨(QFs.cons (QF.of U (fun _ _ A h=>R.loadAgg C U (A.w U U) (A.x U U) isAgg25 sizeOf25 V Tk5 h)) QFs.nil), ?_⟩
  refine De 1 (some 43) [true] hok (fun _ _ A hk=>?_)
  refine R.callP C U (A.w U U) (A.x U U) (A.s U U) (sq_c hJ _ _ _) (hk _ _ ⟨(QFs.cons (QF.of U (fun _ _ A h=>R.loadAgg C U (A.w U U) (A.x U U) isAgg25 sizeOf25 V Tk5 h)) QFs.nil), ?_⟩)
  refine Dp 3 hok (fun _ _ _ A h=>R.build C U (A.w U U) (A.p U U) zeroValue30 U runUnderlying30 Kr (Fills.part U U sizeOf27 U Ph2 (Fills.part U U sizeOf28 U (.skip (.skip (.here .nil))) .nil)) h)<|De 4 (some 46) [false] hok (fun _ _ A hk=>?_)
  refine R.persist C.1 fun ro1 hl1 hp1=>R.callR C U (A.w U U) (A.x U U) (A.s U U) ((x_is1 hJ (he.mono hl1) (hv.mono hl1) ⟨_,_,rfl,Ls.lit (xs:=([0,1]:List Int)) (t:=3) (fq:=(0,0)) ic_len (show ro1 p44=_ from hp1),⟨none,0,rfl, .inl rfl⟩⟩)) fun v2 ro2 hl2 hq2=>hk _ _ ⟨QFs.nil, ?_⟩
  subst hq2
  refine Dm C 5 hok U U U<|Dp 6 hok (fun _ _ _ A h=>R.ext C U (A.w U U) (A.x U U) U h)<|Dp 7 hok (fun _ _ _ A h=>R.ext C U (A.w U U) (A.x U U) U h)<|Da C 8 hok U U<|Da C 9 hok U U<|D.done C hok Kr ?_
  have hl:=RO.le_trans hl1 hl2
  refine X.weaken ?_ (found_at5 (he.mono hl) (hc.mono hl) (hw.mono hl) fun ro' own h1 h2=>hret ro' own (RO.le_trans hl h1) h2)
  exact⟨U,U,U,U,U,U,U,trivial⟩
theorem found_c(ro:RO)(he:Env ro):CallR prog (JM prog Q) (fnv 19) [] ro (fun w _=>w= .bool true):=by
 have hJ:Closed prog true (JM prog Q):=JM.closed
 let main:=true
 let J:=JM prog Q
 refine CallR.intro hJ Kr fun c cs tail hret=>enter_X (n:=340) func19 U U (Nl U) ?_
 have C:Ctx prog main J (bf 19 .normal):=⟨hJ,by decide⟩
 refine Xr C U U<|Ad C U U<|Xr C U U<|R.callR C U U U U ((example_c hJ _)) fun v1 ro1 hl1 hq1=>?_
 obtain⟨vc,vw,rfl,hc,hw⟩:=hq1
 obtain⟨cb,cc,rfl⟩:=hc.form
 obtain⟨wb,wc,rfl⟩:=hw.form
 have kt1:=true_c hJ ⟨0,0⟩ ⟨2,1⟩ ro1
 have kt2:=true_c hJ ⟨0,0⟩ ⟨5, -2⟩ ro1
 rw [k_true1] at kt1
 rw [k_true2] at kt2
 refine R.alloc C U U zeroValue25 U fun p1=>R.store C U U U U sizeOf25 U U U V Ph5<|R.done C<|Xr C U U<|R.callP C U U U U (sq_c hJ _ _ _)<|R.callP C U U U U (sq_c hJ _ _ _)<|R.callP C U U U U (kt1)<|Rm C U U<|R.ext C U U U U<|R.ext C U U U U<|R.asg C U U U<|Ad C U U<|Xr C U U<|R.callP C U U U U (sq_c hJ _ _ _)<|R.callP C U U U U (sq_c hJ _ _ _)<|R.callP C U U U U (kt2)<|Rm C U U<|R.ext C U U U U<|R.ext C U U U U<|R.asg C U U U<|Ad C U U<|X.weaken ?_ (found_at4 (he.mono hl1) hc hw fun ro' own h1 h2=>hret _ ro' own (RO.le_trans hl1 h1) h2 U)
 exact⟨U,U,U,U,U,trivial⟩
end Go.Lg.B
namespace Go.Lg
open Go Go.Conc
theorem R.neBool{P:Program}{main:Bool}{J:Goroutine→Mem→Prop}{b:Frame}(C:Ctx P main J b){cs:List Frame}{n:Nat}{ds:List Deferred}{σ:Slots}{k:List Item}{ops:Array Oper}{i:Nat}{rest:List Nat}{d:Nat}{ty:TypeId}{pos:String}{af:Array Edge}{g:Option (Nat×Bool)}
  {t t':TypeId} {x y:Operand} {p q:Bool} {M:Mem} (ho:ops[i]? =some ⟨some d, .binOp .neq t x y t',ty,pos,af,g⟩) (hg:wantedS ops σ ⟨some d, .binOp .neq t x y t',ty,pos,af,g⟩=some true)
  (hx:ev σ x=some (.bool p)) (hy:ev σ y=some (.bool q)) (hu:∀w,Sem.run P (Go.underlying t) w= .ok .bool w)
  (h:R J b cs n ops rest k ds ((d, .bool (!(p==q)))::σ) M):R J b cs n ops (i::rest) k ds σ M:=
 R.v C ho hg rfl (fun a ha K hk=>by
  unfold execOp
  simp only [ha.ev hx,ha.ev hy]
  refine ex_v (Sm.bind ?_)
  unfold eqGuard
  refine Sm.pure ?_
  show Sm P M (binOp .neq t (.bool p) (.bool q)) _
  unfold binOp
  simp only
  refine Sm.bind ?_
  unfold Op.equal Op.equalIn
  refine Sm.bind (Sm.underlying hu ?_)
  exact Sm.pure (Sm.pure hk)) h
end Go.Lg
namespace Go.Lg.B
open Go Go.Conc Go.Lg Go.Proofs Go.Proofs.Tryz
section
variable {main:Bool}{J:Goroutine→Mem→Prop}(hJ:Closed prog main J)
include hJ
theorem betweenR_c(n l m:Int)(ro:RO):CallP prog J (fnv 55) [.int .i64 n, .int .i64 l, .int .i64 m] ro (.bool (between n l m)):=by
 refine CallP.intro hJ Kr fun c cs tail hret=>enter_X (n:=15) func55 U U (Nl U) ?_
 have C:Ctx prog main J (bf 55 .normal):=⟨hJ,by decide⟩
 refine Xr C U U<|Ad C U U<|Xr C U U<|Rm C U U<|Rm C U U<|R.int C U U U U b_leq<|Rm C U U<|R.fix (t:=10) U (fun q1=>?_) (fun q1=>?_)
 ·refine Rm C U U<|Rm C U U<|R.int C U U U U b_leq<|R.pickT C U U U U<|Ad C U U<|Xt C func55<|Hp hret ?_
  first|(simp_all [between,retVal];done)|(simp_all [between,retVal];omega)
 ·refine R.pass C U U<|R.pass C U U<|R.pass C U U<|R.pickF C U U U U<|Ad C U U<|Xt C func55<|Hp hret ?_
  first|(simp_all [between,retVal];done)|(simp_all [between,retVal];omega)
end
end Go.Lg.B
namespace Go.Lg
open Go Go.Conc
variable {fn:Func}{rs:List ResultVar}{vs:List Value}
section
variable {P:Program}{Post:Value→World→Prop}{b:Frame}{n:Nat}{ds:List Deferred}{σ:Slots}{ro:RO}{own:List (Nat×Obj)}{k:List Item}
def Back0(ro:RO)(Post:Value→World→Prop)(R:Value→RO→Prop):Prop:=
 ∀v ro' own,ro.le ro'→R v ro'→∀w,Sat ⟨ro',own⟩ w→Post v w
theorem J_leave0{a:Act}{todo:List Item}(hi:P.inits.idxOf? b.fn=none)(hkind:b.kind= .normal)(hf:P.funcs[b.fn]? =some fn)(hrs:fn.results=rs.toArray)(ha:Holds n [] σ a)(hr:Res P σ own rs vs)(h:∀w,Sat ⟨ro,own⟩ w→Post (retVal vs) w):
  JM P (Go.Conc.Good P Post) (G {fr b a todo with mode:= .returning} []) ⟨ro,own⟩:=by
 refine JM.last U fun w hs=>?_
 obtain⟨x,w',es,M',h1,h2,h3,h4⟩:=Sm.results (ro:=ro) (tmps:=a.tmps) ha rfl hrs hr (K:=fun v M'=>v=retVal vs∧M'=⟨ro,own⟩) ⟨rfl,rfl⟩ w #[] hs
 subst h3;subst h4
 rw [Array.empty_append] at h1
 refine⟨_,w',seen P b.fn es,_, ?_,{h2 with evs:=fun e he=>h2.evs e (mem_seen he) },h w' h2.sat⟩
 simp only [fr,G,stepG,unwind,ha.defers,hf]
 rw [h1]
 simp [GStep.after,doReturn,hkind,hi]
variable (C:Ctx P true (JM P (Go.Conc.Good P Post)) b)
include C
theorem X.ret0(hi:P.inits.idxOf? b.fn=none)(hro:b.roundOf=none)(hkind:b.kind= .normal)(hf:P.funcs[b.fn]? =some fn)(hrs:fn.results=rs.toArray)(hr:Res P σ own rs vs)(h:∀w,Sat ⟨ro,own⟩ w→Post (retVal vs) w):
  X (JM P (Go.Conc.Good P Post)) b [] n (.code .ret::k) [] σ ⟨ro,own⟩:=fun _ ha=>C.1.ctl rfl (fun w=>ret_step hro w) (J_leave0 hi hkind hf hrs ha hr h)
end
def Root(P:Program)(f:FuncId)(args:List Value)(ro:RO)(R:Value→RO→Prop):Prop:=
 ∀Post,Back0 ro Post R→JM P (Go.Conc.Good P Post) (G (Frame.enter P f args.toArray .normal) []) ⟨ro, []⟩
end Go.Lg
namespace Go.Lg
open Go Go.Conc Go.ChangeShapes Go.RowKit
variable {W W':World}
section
variable {H:Type}{enc:TypeId×Value→H}
theorem trodAll_stays{P:Program}(hl:laidOutB P=true){W W':World}{sp':Nat→Bool}:∀ {ts:List TypeId} {vs:List Value} {ds:List (DataW H)} {ps:List MemPlace},(∀t∈ts,P.readableRec t=true∧t<P.types.size)→
  DataW.TrodAll enc P W 0 (fun _=>true) true ts vs ds ps→(∀p∈ps,W.sameAt W' p)→(∀p∈ps,sp' p.block=true)→DataW.TrodAll enc P W' 0 sp' true ts vs ds ps
 | [],vs,ds,ps,_,h,_,_=>by obtain⟨rfl,rfl,rfl⟩:=trodAll_nil h;exact trodAll_mk0
 |t::ts,vs,ds,ps,hr,h,h1,h2=>by
  obtain⟨v,vs',d,ds',p,q,rfl,rfl,rfl,hd,hrest⟩:=trodAll_cons h
  exact⟨p,q,WideElems.Trod_stays hl (hr t List.mem_cons_self).1 (hr t List.mem_cons_self).2 hd (fun x hx=>h1 x (List.mem_append_left _ hx)) (fun x hx=>h2 x (List.mem_append_left _ hx)),trodAll_stays hl (fun t ht=>hr t (List.mem_cons_of_mem _ ht)) hrest (fun x hx=>h1 x (List.mem_append_right _ hx)) (fun x hx=>h2 x (List.mem_append_right _ hx)),rfl⟩
theorem sameAt_of(h:∀ (b:Nat)(o:Obj),W.heap[b]? =some o→W'.heap[b]? =some o){p:MemPlace}(hp:p.block<W.heap.size):W.sameAt W' p:=by
 have hb:W'.heap[p.block]? =W.heap[p.block]? :=by rw [h _ _ (Array.getElem?_eq_getElem hp),Array.getElem?_eq_getElem hp]
 cases p with
 |cell b o=>exact World.cell?_of_block (w:=W) hb
 |map b=>exact hb
theorem keptBut_of(h:∀ (b:Nat)(o:Obj),W.heap[b]? =some o→W'.heap[b]? =some o)(hs:SameOut W W')(may:MemPlace→Prop):W.keptBut W' may:=by
 refine⟨hs.1,hs.2,fun i hi=>?_⟩
 rw [h _ _ (Array.getElem?_eq_getElem hi),Array.getElem?_eq_getElem hi]
 split<;>simp_all
theorem leaving_of_root{a:Assume}{C:Checked}{os:Os}{f:FuncId}{fn:Func}{s:ChangeSpec}{conds:List PathCond}{apart fresh handsOn:Bool}{X:World→Array Value→Prop}{tb:TypeId}
  (hX:∀ (w w':World) (args:Array Value),w.heap=w'.heap→X w args→X w' args)
  (own:ownKnob C.prog.godebug=none) (started:os.Started) (hfn:C.prog.funcs[f]? =some fn)
  (hl:laidOutB C.prog=true) (hpar:∀t∈fn.params.toList,C.prog.readableRec t=true∧t<C.prog.types.size) (hvars:s.vars= []) (hres:fn.resultTypes= #[tb]) (htb:C.prog.underlying tb=some .bool)
  (witness:∃ (w:World) (tape:Tape) (i:Input),w.os=os∧(w.forCall tape i).Shaped C.prog∧i.vars= []∧Input.okWide C.prog (w.forCall tape i) .any w.heap.size f i∧
   ((s.pre enc C.prog fn conds apart (w.forCall tape i).memory i.args∧X (w.forCall tape i).memory i.args)∧sizedMet enc C.prog fn (OpenSpec.ofChange s) apart (w.forCall tape i).memory i.args)∧a.holds C.prog (lone (Frame.enter C.prog f i.args .normal) [] (w.forCall tape i)))
  (root:∀ (W:World) (base:Nat) (args:Array Value) (ds gs:List (DataW H)) (before:List MemPlace),
   (∀ (j:Nat) t v,fn.params[j]? =some t→args[j]? =some v→Value.okWide C.prog W .any base t v)→
   DataW.Whole enc C.prog fn.params.toList s.vars apart W args.toList ds gs before→
   conds.all (PathCond.test C.prog ⟨fn.params.toList,ds,s.plain.varTypes C.prog,gs⟩)=true→(DataW.weightsEach C.prog (fn.params.toList++s.plain.varTypes C.prog) (ds++gs)).all (· ≤reachBytes)=true→X W args→
   s.fn H (ds++gs)={results:= [.lit (.bool true)],args:=ds,vars:= [] }∧Root C.prog f args.toList (fun b=>W.heap[b]?) (fun w _=>w= .bool true)):
  ReturnsInLeavingWide a C os f .any (fun w args=>(s.pre enc C.prog fn conds apart w args∧X w args)∧sizedMet enc C.prog fn (OpenSpec.ofChange s) apart w args) (s.post enc C.prog fn apart fresh handsOn false):=by
 refine returnsInLeavingWide_of_good own started witness ?_
 intro w tape i _ _ _ hok hpre hholds
 obtain⟨_,_,_,fn',hfn',_,_,_,_,hval⟩:=hok
 have e:fn'=fn:=Option.some.inj (hfn'.symm.trans hfn)
 subst e
 obtain⟨⟨⟨ds,gs,before,hw,hc⟩,hx⟩,hz⟩:=hpre
 have hw':=DataW.Whole.of_heap (w':=w.forCall tape i) (by rfl) hw
 generalize hW:w.forCall tape i=W at*
 obtain⟨hfnv,hroot⟩:=root W w.heap.size i.args ds gs before hval hw' hc (hz.weights hw) (hX _ _ _ (by subst hW;rfl) hx)
 have hj:=hroot (fun v w'=>v= .bool true∧∀ (b:Nat) (o:Obj),W.heap[b]? =some o→w'.heap[b]? =some o) fun v ro' own hle hv w' hs=>⟨hv,fun b o hb=>hs.ro _ _ (hle _ _ hb)⟩
 rw [Array.toArray_toList] at hj
 obtain⟨N,last,o,w',t',h1,h2,h3,hG,hso⟩:=JM.start hj
 refine⟨N,last,o,w',t',h1,h2,h3,hG.mono fun v ⟨hv,hh⟩=>ChangeSpec.post_blind ?_⟩
 subst hv
 obtain⟨p,q,hA,hV,rfl,_,_⟩:=id hw'
 refine⟨ds,gs,_, [],p, [],hw', ?_, ?_, ?_,keptBut_of hh hso _,fun h=>nomatch h⟩
 ·rw [hfnv,hres]
  exact trodAll_mk1 (shut_bool htb _)
 ·rw [hfnv]
  have hlt:=hw'.lt
  exact trodAll_stays hl hpar hA (fun x hx=>sameAt_of hh (hlt x (List.mem_append_left _ hx))) (fun x hx=>by simpa using hlt x (List.mem_append_left _ hx))
 ·rw [hfnv,hvars];rfl
end
end Go.Lg
namespace Go.Lg
open Go
variable {fuel n:Nat}{cs l:List Value}{a:Addr}{t:TypeId}
abbrev roOf(W:World):RO:=fun b=>W.heap[b]?
theorem Sub.of_get{off:Nat}{out:List Value}(hn:off+n≤l.length)(ho:out.length=n)(h:∀i,i<n→l[off+i]? =out[i]?):Sub off n l out:=by
 have e:out=(l.drop off).take n:=by
  refine List.ext_getElem? fun i=>?_
  by_cases hi:i<n
  ·rw [←h i hi,List.getElem?_take_of_lt hi,List.getElem?_drop]
  ·rw [List.getElem?_eq_none O,List.getElem?_eq_none Zo]
 rw [e];exact Sub.of hn
theorem cell_block{W:World}{v:Value}(h:W.cell? a=some v):a.spot=none∧∃l t fq,W.heap[a.block]? =some (.cells l t fq)∧l[a.off]? =some v:=by
 unfold World.cell? at h
 split at h
 ·rename_i c t fq hc
  split at h
  ·cases h
  ·rename_i hs
   exact⟨by simpa using hs,c,t,fq,hc,h⟩
 ·cases h
theorem cells_get{W:World}{base:Nat}(h:W.cells? base a n=some l):l.length=n∧∀i,i<n→W.cell? (a.add i)=l[i]? :=by
 unfold World.cells? at h
 split at h
 ·refine⟨by simpa using mapM_some_length h,fun i hi=>mapM_some_get h i i (by simp [hi])⟩
 ·cases h
theorem add_add(a:Addr)(i j:Nat):(a.add i).add j=a.add (i+j):=by
 by_cases h1:i=0<;>by_cases h2:j=0<;>simp [Addr.add,h1,h2]<;>omega
theorem add_none(h:a.spot=none)(i:Nat):a.add i=⟨a.block,a.off+i,none⟩:=by
 obtain⟨b,o,s⟩:=a
 subst h
 by_cases h1:i=0<;>simp [Addr.add,h1]
section
variable {H:Type}{enc0:TypeId×Value→H}{P:Program}{W:World}{base:Nat}{sp:Nat→Bool}{held:Bool}
theorem ls_of_trod{α:Type}{enc:α→List Value}{k:Nat}{e:TypeId}{x:DataW H×List MemPlace}(ht:P.underlying t=some (.slice e))(hc:P.cellsOf e=k)(hk:0<k)(hlen:∀x,(enc x).length=k)
  (hel:∀n cs z,DataW.trod enc0 P W base sp held n e cs=some z→∃y,cs=enc y) (h:DataW.trod enc0 P W base sp held fuel t cs=some x):∃v xs,cs= [v]∧Ls enc k (roOf W) v xs:=by
 subst hc
 rcases DataW.trod_slice ht h with⟨rfl,_⟩|⟨a,len,cap,elems,rest,n,_,rfl,_,hb,hl,_,hlen2,hel2,_⟩
 ·exact⟨_, [],rfl, .nil⟩
 ·have one:∀i,i<len→∃y:α,W.cells? base (a.add (i*P.cellsOf e)) (P.cellsOf e)=some (enc y):=fun i hi=>by
   have h1:=hel2 i hi
   rw [List.getElem?_eq_getElem O] at h1
   obtain⟨l,h2,h3⟩:=Option.bind_eq_some_iff.1 h1
   obtain⟨y,rfl⟩:=hel _ _ _ h3
   exact⟨y,h2⟩
  have all:∀m,m≤len→∃ys:List α,ys.length=m∧∀j,j<m*P.cellsOf e→W.cell? (a.add j)=(ys.flatMap enc)[j]? :=by
   intro m
   induction m with
   |zero=>exact fun _=>⟨[],rfl,fun j hj=>by omega⟩
   |succ m ih=>
    intro hm
    obtain⟨ys,h1,h2⟩:=ih O
    obtain⟨y,hy⟩:=one m O
    refine⟨ys++ [y],by simp [h1],fun j hj=>?_⟩
    have hfl:(ys.flatMap enc).length=m*P.cellsOf e:=by rw [flatMap_len hlen,h1]
    rw [List.flatMap_append]
    by_cases hjm:j<m*P.cellsOf e
    ·rw [List.getElem?_append_left O];exact h2 j hjm
    ·rw [List.getElem?_append_right O,hfl]
     have:=(cells_get hy).2 (j-m*P.cellsOf e) (by rw [Nat.succ_mul] at hj;omega)
     simp only [List.flatMap_cons,List.flatMap_nil,List.append_nil]
     rw [←this,add_add]
     congr 2
     omega
  obtain⟨ys,h1,h2⟩:=all len (Nat.le_refl _)
  refine⟨_,ys,rfl,some a,cap,by rw [h1], ?_⟩
  by_cases h0:len=0
  ·exact .inl (List.eq_nil_of_length_eq_zero O)
  ·right
   have hfl:(ys.flatMap enc).length=len*P.cellsOf e:=by rw [flatMap_len hlen,h1]
   have hpos:0<len*P.cellsOf e:=Nat.mul_pos O hk
   have hlast:=h2 (len*P.cellsOf e-1) O
   rw [List.getElem?_eq_getElem O] at hlast
   have hfirst:=h2 0 hpos
   rw [List.getElem?_eq_getElem O] at hfirst
   have hs:a.spot=none:=(cell_block hfirst).1
   rw [add_none hs] at hlast
   obtain⟨_,l,t',fq,hh,hl2⟩:=cell_block hlast
   refine⟨a.block,a.off,l.toList,t',fq,by obtain⟨ab,ao,az⟩:=a;subst hs;rfl,by rw [Array.toArray_toList];exact hh, ?_⟩
   rw [h1]
   have hlt:a.off+(len*P.cellsOf e-1)<l.size:=(Array.getElem?_eq_some_iff.1 hl2).1
   refine Sub.of_get Zo hfl fun i hi=>?_
   have:=h2 i hi
   rw [add_none hs] at this
   unfold World.cell? at this
   simp only at this
   rw [hh] at this
   simpa using this
theorem int_of_trod{k:IntKind}{x:DataW H×List MemPlace}(ht:P.underlying t=some (.int k))(h:DataW.trod enc0 P W base sp held fuel t cs=some x):∃n,cs= [.int k n]∧(Lit.int k n).wf=true:=by
 cases fuel with
 |zero=>simp [DataW.trod] at h
 |succ n=>
  unfold DataW.trod at h
  rw [ht] at h
  split at h<;>simp_all
theorem bool_of_trod{x:DataW H×List MemPlace}(ht:P.underlying t=some .bool)(h:DataW.trod enc0 P W base sp held fuel t cs=some x):∃b,cs= [.bool b]:=by
 cases fuel with
 |zero=>simp [DataW.trod] at h
 |succ n=>
  unfold DataW.trod at h
  rw [ht] at h
  split at h<;>simp_all
end
end Go.Lg
namespace Go.Lg.B
open Go Go.Conc Go.Lg Go.Proofs Go.WideShapes Go.ChangeShapes Go.Proofs.Tryz
set_option maxRecDepth 100000
variable {cs:List Value}{n:Nat}
theorem cells3:prog.cellsOf 3=1:=by kernel_rfl
theorem cells4:prog.cellsOf 4=1:=by kernel_rfl
theorem cells22:prog.cellsOf 22=1:=by kernel_rfl
theorem cells23:prog.cellsOf 23=1:=by kernel_rfl
theorem cells25:prog.cellsOf 25=5:=by kernel_rfl
theorem cells27:prog.cellsOf 27=2:=by kernel_rfl
theorem cells46:prog.cellsOf 46=2:=by kernel_rfl
theorem cells58:prog.cellsOf 58=5:=by kernel_rfl
section
variable {H:Type}{enc0:TypeId×Value→H}{W:World}{base:Nat}{sp:Nat→Bool}{held:Bool}
theorem field_of{P:Program}{t:TypeId}{fs:Array Field}{fuel:Nat}{x:DataW H×List MemPlace}(ht:P.underlying t=some (.struct fs))(h:DataW.trod enc0 P W base sp held fuel t cs=some x):
  cs.length=P.cellsOf t∧∀ (i:Nat) (f:Field),fs[i]? =some f→∃n z,DataW.trod enc0 P W base sp held n f.type ((cs.drop f.offset).take (P.cellsOf f.type))=some z:=by
 obtain⟨xs,n,_,_,h1,h2,h3⟩:=DataW.trod_struct ht h
 refine⟨h1,fun i f hf=>?_⟩
 have hi:i<xs.length:=by rw [h2];exact(Array.getElem?_eq_some_iff.1 hf).1
 exact⟨n,xs[i],by rw [h3 i f hf,List.getElem?_eq_getElem hi]⟩
theorem sq_of{z:DataW H×List MemPlace}(h:DataW.trod enc0 prog W base sp held n 27 cs=some z):∃s:Sq,cs=s.cells:=by
 obtain⟨hl,hf⟩:=field_of underlying27 h
 rw [cells27] at hl
 match cs,hl with
 | [a,c],_=>
  have g0:∃n z,DataW.trod enc0 prog W base sp held n 3 (([a,c].drop 0).take (prog.cellsOf 3))=some z:=hf 0 _ rfl
  rw [cells3] at g0
  obtain⟨_,_,h0⟩:=g0
  have g1:∃n z,DataW.trod enc0 prog W base sp held n 3 (([a,c].drop 1).take (prog.cellsOf 3))=some z:=hf 1 _ rfl
  rw [cells3] at g1
  obtain⟨_,_,h1⟩:=g1
  obtain⟨x0,e0,_⟩:=int_of_trod underlying3 h0
  obtain⟨x1,e1,_⟩:=int_of_trod underlying3 h1
  simp at e0 e1
  subst e0;subst e1
  exact⟨⟨x0,x1⟩,rfl⟩
theorem rc_of{z:DataW H×List MemPlace}(h:DataW.trod enc0 prog W base sp held n 46 cs=some z):∃s:Rc,cs=s.cells:=by
 obtain⟨hl,hf⟩:=field_of underlying46 h
 rw [cells46] at hl
 match cs,hl with
 | [a,c],_=>
  have g0:∃n z,DataW.trod enc0 prog W base sp held n 3 (([a,c].drop 0).take (prog.cellsOf 3))=some z:=hf 0 _ rfl
  rw [cells3] at g0
  obtain⟨_,_,h0⟩:=g0
  have g1:∃n z,DataW.trod enc0 prog W base sp held n 3 (([a,c].drop 1).take (prog.cellsOf 3))=some z:=hf 1 _ rfl
  rw [cells3] at g1
  obtain⟨_,_,h1⟩:=g1
  obtain⟨x0,e0,_⟩:=int_of_trod underlying3 h0
  obtain⟨x1,e1,_⟩:=int_of_trod underlying3 h1
  simp at e0 e1
  subst e0;subst e1
  exact⟨⟨x0,x1⟩,rfl⟩
theorem wt_of{z:DataW H×List MemPlace}(h:DataW.trod enc0 prog W base sp held n 58 cs=some z):∃s:Wt,cs=s.cells:=by
 obtain⟨hl,hf⟩:=field_of underlying58 h
 rw [cells58] at hl
 match cs,hl with
 | [a,c,d,e,f],_=>
  have g0:∃n z,DataW.trod enc0 prog W base sp held n 27 (([a,c,d,e,f].drop 0).take (prog.cellsOf 27))=some z:=hf 0 _ rfl
  rw [cells27] at g0
  obtain⟨_,_,h0⟩:=g0
  have g1:∃n z,DataW.trod enc0 prog W base sp held n 3 (([a,c,d,e,f].drop 2).take (prog.cellsOf 3))=some z:=hf 1 _ rfl
  rw [cells3] at g1
  obtain⟨_,_,h1⟩:=g1
  have g2:∃n z,DataW.trod enc0 prog W base sp held n 3 (([a,c,d,e,f].drop 3).take (prog.cellsOf 3))=some z:=hf 2 _ rfl
  rw [cells3] at g2
  obtain⟨_,_,h2⟩:=g2
  have g3:∃n z,DataW.trod enc0 prog W base sp held n 4 (([a,c,d,e,f].drop 4).take (prog.cellsOf 4))=some z:=hf 3 _ rfl
  rw [cells4] at g3
  obtain⟨_,_,h3⟩:=g3
  obtain⟨s,e0⟩:=sq_of h0
  obtain⟨x1,e1,_⟩:=int_of_trod underlying3 h1
  obtain⟨x2,e2,_⟩:=int_of_trod underlying3 h2
  obtain⟨x3,e3⟩:=bool_of_trod underlying4 h3
  simp [Sq.cells] at e0 e1 e2 e3
  obtain⟨rfl,rfl⟩:=e0
  subst e1;subst e2;subst e3
  exact⟨⟨s,x1,x2,x3⟩,rfl⟩
theorem rcs_of{z:DataW H×List MemPlace}(h:DataW.trod enc0 prog W base sp held n 22 cs=some z):∃v xs,cs= [v]∧Ls Rc.cells 2 (fun b=>W.heap[b]?) v xs:=
 ls_of_trod underlying22 cells46 Dd Rc.len (fun _ _ _ h=>rc_of h) h
theorem wts_of{z:DataW H×List MemPlace}(h:DataW.trod enc0 prog W base sp held n 23 cs=some z):∃v xs,cs= [v]∧Ls Wt.cells 5 (fun b=>W.heap[b]?) v xs:=
 ls_of_trod underlying23 cells58 Dd Wt.len (fun _ _ _ h=>wt_of h) h
theorem argBk{r:Reach}{b0:Nat}{v:Value}{d:DataW H}{p:List MemPlace}(hv:Value.okWide prog W r b0 25 v)(h:DataW.Trod enc0 prog W base sp held 25 v d p):∃b,BkV (fun b=>W.heap[b]?) v b:=by
 obtain⟨⟨cs⟩,rfl,_⟩:=okWide_struct underlying25 hv
 obtain⟨n,h⟩:=h
 obtain⟨hl,hf⟩:=field_of (cs:=cs) underlying25 h
 rw [cells25] at hl
 match cs,hl with
 | [a,c,d,e,f],_=>
  have g0:∃n z,DataW.trod enc0 prog W base sp held n 3 (([a,c,d,e,f].drop 0).take (prog.cellsOf 3))=some z:=hf 0 _ rfl
  rw [cells3] at g0
  obtain⟨_,_,h0⟩:=g0
  have g1:∃n z,DataW.trod enc0 prog W base sp held n 3 (([a,c,d,e,f].drop 1).take (prog.cellsOf 3))=some z:=hf 1 _ rfl
  rw [cells3] at g1
  obtain⟨_,_,h1⟩:=g1
  have g2:∃n z,DataW.trod enc0 prog W base sp held n 3 (([a,c,d,e,f].drop 2).take (prog.cellsOf 3))=some z:=hf 2 _ rfl
  rw [cells3] at g2
  obtain⟨_,_,h2⟩:=g2
  have g3:∃n z,DataW.trod enc0 prog W base sp held n 22 (([a,c,d,e,f].drop 3).take (prog.cellsOf 22))=some z:=hf 3 _ rfl
  rw [cells22] at g3
  obtain⟨_,_,h3⟩:=g3
  have g4:∃n z,DataW.trod enc0 prog W base sp held n 23 (([a,c,d,e,f].drop 4).take (prog.cellsOf 23))=some z:=hf 4 _ rfl
  rw [cells23] at g4
  obtain⟨_,_,h4⟩:=g4
  obtain⟨x0,e0,_⟩:=int_of_trod underlying3 h0
  obtain⟨x1,e1,_⟩:=int_of_trod underlying3 h1
  obtain⟨x2,e2,_⟩:=int_of_trod underlying3 h2
  obtain⟨v3,x3,e3,l3⟩:=rcs_of h3
  obtain⟨v4,x4,e4,l4⟩:=wts_of h4
  simp at e0 e1 e2 e3 e4
  subst e0;subst e1;subst e2;subst e3;subst e4
  exact⟨⟨x0,x1,x2,x3,x4⟩,_,_,rfl,l3,l4⟩
end
end Go.Lg.B
namespace Go.Lg.B
open Go Go.Conc Go.Lg Go.Proofs Go.Proofs.YtlkmnfdipiielaaGreatDoor Go.Proofs.Tryz
set_option maxRecDepth 100000
theorem own0:ownKnob prog.godebug=none:=by kernel_rfl
theorem gChecks:prog.globalNamed "lagan/bearing.checks" =some 0:=by kernel_rfl
theorem tChecks:(prog.globals[0]?).map (·.type)=some 119:=by kernel_rfl
theorem cells118:prog.cellsOf 118=1:=by kernel_rfl
theorem cells119:prog.cellsOf 119=3:=by kernel_rfl
theorem laid0:laidOutB prog=true:=by kernel_rfl
abbrev laid1:List (String×DataW Unit):= [("lagan/bearing.checks",Rows.laid_lagan_bearing_checks)]
theorem env_of_laid{W:World}(h:laidMetH prog laid1 W):Env (fun b=>W.heap[b]?):=by
 obtain⟨g,t,cs,fuel,p,hg,ht,hv,hd⟩:=h.funcs (List.mem_singleton.2 rfl)
 obtain rfl:=Option.some.inj (gChecks.symm.trans hg)
 obtain rfl:=Option.some.inj (tChecks.symm.trans ht)
 have hd':DataW.trod (funcToken prog) prog W 0 (fun _=>true) true fuel 119 cs.toList=some (.agg [.held [40,108,97,103,97,110,47,98,101,97,114,105,110,103,46,98,111,111,107,41,46,99,104,97,114,116], .held [40,108,97,103,97,110,47,98,101,97,114,105,110,103,46,98,111,111,107,41,46,99,111,109,112,97,115,115,101,115], .held [40,108,97,103,97,110,47,98,101,97,114,105,110,103,46,98,111,111,107,41,46,119,105,116,110,101,115,115,101,115]],p):=hd
 obtain⟨xs,m,_,hx,hl,hn,hel⟩:=DataW.trod_array underlying119 hd'
 rw [cells119] at hl
 obtain⟨v0,v1,v2,hcs⟩:∃v0 v1 v2,cs.toList= [v0,v1,v2]:=by
  match h:cs.toList,hl with
  | [a,b,c],_=>exact⟨a,b,c,rfl⟩
 obtain⟨x0,x1,x2,rfl⟩:∃x0 x1 x2,xs= [x0,x1,x2]:=by
  match xs,hn with
  | [a,b,c],_=>exact⟨a,b,c,rfl⟩
 simp only [Prod.mk.injEq,DataW.agg.injEq,List.map_cons,List.map_nil,List.cons.injEq,and_true] at hx
 obtain⟨⟨h0,h1,h2⟩,_⟩:=hx
 have e0:=hel 0 O
 have e1:=hel 1 O
 have e2:=hel 2 O
 obtain⟨d0,q0⟩:=x0
 obtain⟨d1,q1⟩:=x1
 obtain⟨d2,q2⟩:=x2
 simp only at h0 h1 h2
 subst h0;subst h1;subst h2
 rw [cells118,hcs] at e0 e1 e2
 have f0:=func_of_trod (f0:=346) underlying118 Kr (show DataW.trod (funcToken prog) prog W 0 (fun _=>true) true m 118 [v0]=some (_,q0) from e0)
 have f1:=func_of_trod (f0:=347) underlying118 Kr (show DataW.trod (funcToken prog) prog W 0 (fun _=>true) true m 118 [v1]=some (_,q1) from e1)
 have f2:=func_of_trod (f0:=348) underlying118 Kr (show DataW.trod (funcToken prog) prog W 0 (fun _=>true) true m 118 [v2]=some (_,q2) from e2)
 subst f0;subst f1;subst f2
 unfold World.var? at hv
 rw [gChecks] at hv
 simp only [Option.bind_some] at hv
 split at hv
 ·rename_i c t fq hc
  cases hv
  refine⟨t,fq, ?_⟩
  show W.heap[0]? =_
  rw [hc, ←hcs]
 ·cases hv
theorem card_goes(Lk:Looks){p:Pinned}{s:OpenSpec}{c:OpenClaim}(kinds:List LaidKind)(tests:Bool)(har:Bool×String)(lk:Bool)
  (hc:c.holds p s) (hw:c.wfByText s=true) (htie:c.laidByTextAt Lk p kinds tests)
  (hst:c.start= .entering) (hnb:c.noBlocks=false∧c.again=false) (hm:p.checked.prog.mainIs=some (har.1,har.2.toList)) (hn:(!har.1 && har.2.isEmpty && !lk)=false)
  (hl:∀f fn,p.checked.prog.funcNamed c.func=some f→p.checked.prog.funcs[f]? =some fn→lk=p.checked.prog.looks []∧∀ (j:Nat) t,fn.params[j]? =some t→p.checked.prog.wantsStandIn t=false)
  (hg:true=c.goesBy p.checked.prog):
  Claim7.holds p (.plain s) {stood:={row:=c,standIns:= [],harness:=har,looks:=lk},kinds:= [],alts:= [],goes:=true,laidByText:=true,laidKinds:=kinds,laidTests:=tests,laidLooks:=Lk}:=by
 have h6:∀r:OpenClaim,Claim7.isSixth {stood:={row:=r,standIns:= [],harness:=har,looks:=lk},kinds:= [] }=false:=fun r=>by simpa [Claim7.isSixth] using hn
 exact⟨Claim7.tied_new_at Lk kinds tests (Claim7.new_of_sixth hc har lk hst hnb hm (h6 c) hl) hw,fun D hD=>(nomatch hD),htie,(fun h=>by cases h),hg⟩
end Go.Lg.B
namespace Go.Lg.B
open Go Go.Proofs Go.Proofs.YtlkmnfdipiielaaGreatDoor Go.Proofs.Tryz
set_option maxRecDepth 100000
theorem and_mk{a b:Bool}(h:a=true)(h':b=true):(a && b)=true:=by rw [h,h'];rfl
theorem k_lo:laidOutB prog=true:=by kernel_rfl
theorem k_mr:mapsRowed prog=true:=by kernel_rfl
theorem k_stops:(prog.stops== [])=true:=by kernel_rfl
theorem k_knobs:(prog.stopKnobs== [])=true:=by kernel_rfl
theorem k_heard:prog.stopsHeard=true:=by kernel_rfl
theorem k_may:prog.mayEnter=true:=by kernel_rfl
theorem k_lift:prog.liftsFinal=Rows.bearingTurnedRow.lifted:=by kernel_rfl
theorem k_pk:prog.plainKeys=false:=by kernel_rfl
theorem k_make:prog.make=some Rows.bearingTurnedRow.make:=by kernel_rfl
theorem k_looks:true=prog.looks []:=by kernel_rfl
theorem k_main:prog.mainIs=some (true,("6da441031df1273c87b994104071112c0d6d76e328f9edd428a3df0ab3bd48e1" :String).toList):=by kernel_rfl
end Go.Lg.B
