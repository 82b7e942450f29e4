/-
  It is proved that the given function answers true for every input, whatever is scheduled: the statement Hulled of the seat. Conditions: none but those of the given statement itself.
-/
import Derived.Test.YtfohpddpboaejaaGreatDoorHulledA
import Derived.Conc.Holds
set_option maxRecDepth 100000
set_option maxHeartbeats 2000000
set_option linter.all false
namespace Go.Lg
open Go
theorem Bv{a c:Bool}(h:a=c):Value.bool a=Value.bool c:=congrArg _ h
end Go.Lg
namespace Go.Lg.H
open Go Go.Conc Go.Lg Go.Proofs Go.Lg.B Go.Proofs.Tryz
theorem spread_in{rs:List Rc}{ws:List Int}(h:ws∈spread rs)(hr:∀r∈rs,1≤r.lo∧r.lo≤r.hi∧r.hi≤99∧r.hi-r.lo<3)(i:Nat):0≤ws.getD i 0∧ws.getD i 0≤99:=by
 obtain⟨hl,h⟩:=B.mem_spread.1 h
 by_cases hi:i<rs.length
 ·obtain⟨x,h1,h2⟩:=h i rs[i] (by simp [hi])
  have h3:=hr _ (List.getElem_mem hi)
  simp only [List.getD_eq_getElem?_getD,h1,Option.getD_some];omega
 ·have:ws[i]? =none:=by simp;omega
  simp [List.getD_eq_getElem?_getD,this]
variable {main:Bool}{J:Goroutine→Mem→Prop}(hJ:Closed prog main J)
include hJ
theorem casesOfR_c{b:Bk}{v:Value}{ro:RO}(hv:BkV ro v b)(hs:b.short)(hch:checkBook b=0):CallR prog J (fnv 23) [v] ro (fun w _=>∃ (base:Option Addr) (n cap:Nat),w= .slice base n cap∧n≤1000):=by
 have hb:=good_of hch
 have hv0:=hv
 obtain⟨vp,vo,vh,rfl,hp,ho,hh,hcp,hco⟩:=hv
 obtain⟨vb,vc,rfl⟩:=hp.form
 obtain⟨ob,oc,rfl⟩:=ho.form
 obtain⟨eb,ec,rfl⟩:=hh.form
 have hbal:=hb.bal
 have hnp:=hb.np
 obtain⟨rs,hrs⟩:∃rs,rs=b.ps.map Pc.r:=⟨_,rfl⟩
 have hn:rs.length=b.ps.length:=by rw [hrs,List.length_map]
 have hr:∀r∈rs,1≤r.lo∧r.lo≤r.hi∧r.hi≤99∧r.hi-r.lo<3:=fun r h=>by
  rw [hrs] at h
  obtain⟨p,hp1,rfl⟩:=List.mem_map.1 h
  exact(hb.ps p hp1).r
 refine ER 87 hJ func23 W fun c cs tail hret C=>Xu W<|Bx Z fun p1=>Ae W<|Xu W<|R.buildSlice C (vs:=_) U U (show pvals _ _=some (numbered 0 [_]) from rfl) U A23 B58 K58 Dd (Cat.one U U) fun p12=>Ae W<|Xx W<|Ae W<|Xb<|X.finish C.1 (enc:=fun z:Value×List Int=> [z.1]) (kk:=1) (e:=58) (xs:= [(.slice none 0 0, [])]) (fun _=>rfl) Dd (Buf.blk (cells:= [.slice none 0 0]) (spare:= []) (len:=1) (cap:=1) U U (Nat.le_refl _)) fun ro0 hl0 hls0=>X.loopI (ι:=Nat×RO×Value) C.1 (fun s=>s.1≤rs.length∧ro0.le s.2.1∧LsG s.2.1 s.2.2 (spread (rs.take s.1))) (fun s=> [(1, .pointer (some ⟨p1,0,none⟩)),(3,s.2.2),(4, .int .i64 (s.1:Int))])
  (fun s=>⟨s.2.1,(p1, .cells [.int .i64 b.lim, .int .i64 b.bal.lo, .int .i64 b.bal.hi, .slice vb b.ps.length vc, .slice ob b.out.length oc, .slice eb b.hs.length ec].toArray 66 (0,0))::tail⟩) (fun s=>rs.length-s.1) (0,ro0, .slice (some ⟨p12,0,none⟩) 1 1) ⟨Nat.zero_le _,RO.le_refl _,_,hls0,rfl,fun z hz=>by simp at hz;subst hz;exact⟨Ls.nil,_,_,_,rfl,Nat.le_refl _⟩⟩ rfl ⟨U,U,U,trivial⟩ fun s hs1 hnext=>?_
 obtain⟨i,ro1,v1⟩:=s
 obtain⟨hi,hle1,hg1⟩:=hs1
 simp only at hi hle1 hg1 hnext⊢
 refine Xx W<|Ro W<|Rv 3 W A66 U B63<|Rj W G63 V U<|Rt W A63<|Ri Z b_lss<|Zj U (fun hlt=>?_) (fun hlt=>?_)
 ·have hi':i<rs.length:=O
  have hstep:=grow_to rs hi'
  have hri:=hr _ (List.getElem_mem hi')
  have hallx:∀x∈spread (rs.take i),x.length=i:=fun x hx=>by rw [spread_len x hx,List.length_take];omega
  have hal:(spread (rs.take i)).length≤243:=by
   have h1:=spread_le (rs:=rs.take i) fun r h=>(hr r (List.mem_of_mem_take h)).2.2.2
   have h2:3^ (rs.take i).length≤3^5:=Nat.pow_le_pow_right Dd (by rw [List.length_take];omega)
   omega
  obtain⟨rp,rof,rcap,rl,rt,rfq,hsl,hrro,hrsub⟩:=(hp.mono (RO.le_trans hl0 hle1)).at O
  cases hsl
  obtain⟨sbase,sc,hsi,_,_⟩:=hrsub i O
  have hre:b.ps[i].r=rs[i]:=by simp [hrs]
  have hlo:rl[rof+i*5+2]? =some (.int .i64 rs[i].lo):=by rw [←hre];exact hsi.get 2 Dd
  have hhi:rl[rof+i*5+3]? =some (.int .i64 rs[i].hi):=by rw [←hre];exact hsi.get 3 Dd
  clear hre hsi hrsub
  generalize rs[i]=r at hstep hri hlo hhi
  generalize spread (rs.take i)=all at hg1 hstep hallx hal
  obtain⟨ab,ac,rfl⟩:=hg1.form
  refine Xz<|Xv<|Xb<|Xo W W<|Xx W<|Ae W<|Xb<|X.loopI (ι:=Nat×RO×Value×List (Value×List Int)×List (Nat×Obj)) C.1 (fun s=>s.1≤all.length∧ro1.le s.2.1∧Buf 58 1 [] s.2.2.1 (s.2.2.2.1.flatMap fun z=> [z.1]) s.2.2.2.2∧s.2.2.2.1.map (·.2)=grow (all.take s.1) r∧∀z∈s.2.2.2.1,LsI s.2.1 z.1 z.2∧capOk z.1) (fun s=> [(1, .pointer (some ⟨p1,0,none⟩)),(3, .slice ab all.length ac),(4, .int .i64 (i:Int)),(5,s.2.2.1),(6, .int .i64 (s.1:Int))])
   (fun s=>⟨s.2.1,s.2.2.2.2++((p1, .cells [.int .i64 b.lim, .int .i64 b.bal.lo, .int .i64 b.bal.hi, .slice (some ⟨rp,rof,none⟩) b.ps.length vc, .slice ob b.out.length oc, .slice eb b.hs.length ec].toArray 66 (0,0))::tail)⟩) (fun s=>all.length-s.1) (0,ro1, .slice none 0 0, [], []) ⟨Nat.zero_le _,RO.le_refl _, .nil,by simp [grow],fun _ h=>nomatch h⟩ rfl ⟨U,U,U,U,U,trivial⟩ fun s hs2 hnext2=>?_
  obtain⟨k,ro2,v2,zs2,own2⟩:=s
  obtain⟨hk,hle2,hb2,hzs2,hls2⟩:=hs2
  simp only at hk hle2 hb2 hzs2 hls2 hnext2⊢
  refine Xx W<|Oo W W<|Rt W A23<|Ri Z b_lss<|Zj U (fun hlt2=>?_) (fun hlt2=>?_)
  ·have hk':k<all.length:=O
   obtain⟨ap,ao,acap,al,aty,afq,hasl,haro,hasub⟩:=hg1.at O
   cases hasl
   obtain⟨qb,qc,hqat,hqc,hqls⟩:=hasub k hk'
   have hgt:=grow_take all r hk'
   have hgl:=B.grow_le (all.take k) hri.2.2.2
   rw [List.length_take] at hgl
   have hxl:=hallx _ (List.getElem_mem hk')
   generalize all[k]=x at hqat hqc hqls hgt hxl
   have hrro2:=hle2 _ _ hrro
   have hrl:∃c:Nat,c=(r.hi+1-r.lo).toNat:=⟨_,rfl⟩
   obtain⟨c,hc⟩:=hrl
   have hnums:r.nums=B.rz r.lo c:=by rw [hc];rfl
   refine Xz<|Xv<|Xb<|Xu W<|Rv 3 W A66 U B63<|R.loadOne C U U U G63 Vm U<|Ro W<|Ry Y A63 B174<|R.fieldAddr C U U U A174 U B45 U<|R.fieldAddr C U U U A45 U B3 U<|Lo Y G3 hrro2 hlo<|Ae W<|Xb<|X.loopI (ι:=Nat×RO×Value×List (Value×List Int)×List (Nat×Obj)) C.1 (fun s=>s.1≤c∧ro2.le s.2.1∧Buf 58 1 [] s.2.2.1 (s.2.2.2.1.flatMap fun z=> [z.1]) s.2.2.2.2∧s.2.2.2.1.map (·.2)=grow (all.take k) r++(B.rz r.lo s.1).map (fun n=>x++ [n])∧∀z∈s.2.2.2.1,LsI s.2.1 z.1 z.2∧capOk z.1) (fun s=> [(1, .pointer (some ⟨p1,0,none⟩)),(3, .slice (some ⟨ap,ao,none⟩) all.length ac),(4, .int .i64 (i:Int)),(5,s.2.2.1),(6, .int .i64 (k:Int)),(7, .int .i64 (r.lo+(s.1:Int)))])
    (fun s=>⟨s.2.1,s.2.2.2.2++((p1, .cells [.int .i64 b.lim, .int .i64 b.bal.lo, .int .i64 b.bal.hi, .slice (some ⟨rp,rof,none⟩) b.ps.length vc, .slice ob b.out.length oc, .slice eb b.hs.length ec].toArray 66 (0,0))::tail)⟩) (fun s=>c-s.1) (0,ro2,v2,zs2,own2) ⟨Nat.zero_le _,RO.le_refl _,hb2,by simp [hzs2,B.rz],hls2⟩ rfl ⟨rfl,rfl,rfl,rfl,rfl,by simp [look],trivial⟩ fun s hs3 hnext3=>?_
   obtain⟨j,ro3,v3,zs3,own3⟩:=s
   obtain⟨hj,hle3,hb3,hzs3,hls3⟩:=hs3
   simp only at hj hle3 hb3 hzs3 hls3 hnext3⊢
   have hlen3:=congrArg List.length hzs3
   rw [List.length_map,List.length_append,List.length_map,rz_len] at hlen3
   have hff3:(zs3.flatMap fun z:Value×List Int=> [z.1]).length=zs3.length:=by rw [flatMap_len (k:=1) (fun _=>rfl),Nat.mul_one]
   have hrro3:=hle3 _ _ hrro2
   have haro3:=hle3 _ _ (hle2 _ _ haro)
   have hqls3:=hqls.mono (RO.le_trans hle2 hle3)
   refine Xx W<|Ro W<|Rv 3 W A66 U B63<|R.loadOne C U U U G63 Vm U<|Ro W<|Ry Y A63 B174<|R.fieldAddr C U U U A174 U B45 U<|R.fieldAddr C U U U A45 U B3 U<|Lo Y G3 hrro3 hhi<|Ri Z b_leq<|Zj U (fun hlt3=>?_) (fun hlt3=>?_)
   ·have hfl:=flat_len x
    refine Xz<|Xv<|Xb<|Xg W<|Ro W<|R.buildSlice C (vs:=_) U U (show pvals _ _=some (numbered 0 []) from rfl) U A58 B3 K3 Dd (.nil) fun p45=>Oo W W<|Ry Y A23 B58<|Lo Y G58 haro3 hqat<|R.append (kk:=1) C U U U U A58 A58 (fun _=>nofun) (show prog.info? 3=some Tryz.t3 by kernel_rfl) U U U Dd Dd (Buf.blk (cells:= []) (spare:= []) (len:=0) (cap:=0) U U (Nat.le_refl _)) (hqls3.rd ic_len) (ones_ic x) (by simp only [List.length_nil];omega) fun v' own' hb'=>Ro W<|R.buildSlice C (vs:=_) U U (show pvals _ _=some (numbered 0 [_]) from rfl) U A58 B3 K3 Dd (Cat.one U U) fun p52=>R.append1 (kk:=1) C U U U U A58 A58 (fun _=>nofun) (show prog.info? 3=some Tryz.t3 by kernel_rfl) U U U Dd Dd hb' U U (by simp only [List.length_append,List.length_cons,List.length_nil];omega) fun v' own' hb'=>?_
    have e3:([]++x.flatMap ic)++ [Value.int .i64 (r.lo+(j:Int))]=(x++ [r.lo+(j:Int)]).flatMap ic:=by simp [List.flatMap_append,ic]
    rw [e3] at hb'
    have hco:=hb'.capOk
    refine R.finish C.1 ic_len Dd hb' fun ro4 hl4 hls4=>?_
    obtain⟨b4,c4,rfl⟩:=hls4.form
    refine R.buildSlice C (vs:=_) U U (show pvals _ _=some (numbered 0 [_]) from rfl) U A23 B58 K58 Dd (Cat.one U U) fun p54=>R.append1 (kk:=1) C U U U U A23 A23 (fun _=>nofun) (show prog.info? 58=some Tryz.t58 by kernel_rfl) U U U Dd Dd (hb3.app _) U U (by simp only [List.length_append,List.length_cons,List.length_nil];omega) fun v' own' hb'=>Ae W<|Xi<|Xg W<|Ro W<|Rb Y<|Ae W ?_
    obtain⟨own4,rfl,hb4⟩:=hb'.unapp
    refine X.weaken ?_ (hnext3 (j+1,ro4,_,zs3++ [(.slice b4 (x++ [r.lo+(j:Int)]).length c4,x++ [r.lo+(j:Int)])],_) ⟨O,RO.le_trans hle3 hl4,by simpa [List.flatMap_append] using hb4, ?_,fun z hz=>?_⟩ (by simp only;omega))
    ·exact⟨rfl,rfl,rfl,rfl,rfl,by simp only [look];congr 2;omega,trivial⟩
    ·rw [List.map_append,hzs3,rz_to,List.map_append,List.append_assoc];rfl
    ·rcases List.mem_append.1 hz with hz|hz
     ·exact⟨(hls3 z hz).1.mono hl4,(hls3 z hz).2⟩
     ·rw [List.mem_singleton.1 hz];exact⟨hls4,hco⟩
   ·obtain rfl:j=c:=by omega
    rw [←hnums, ←hgt] at hzs3
    refine Xe U<|Xi<|Xg W<|Ro W<|Rb Y<|Ae W<|X.weaken ?_ (hnext2 (k+1,ro3,v3,zs3,own3) ⟨hk',RO.le_trans hle2 hle3,hb3,hzs3,hls3⟩ (by simp only;omega))
    exact⟨rfl,rfl,rfl,rfl,by simp [look],trivial⟩
  ·obtain rfl:k=all.length:=by omega
   rw [List.take_length, ←hstep] at hzs2
   refine Xe U<|Xg W ?_
   have hls2':=hls2
   refine R.finish C.1 (enc:=fun z:Value×List Int=> [z.1]) (fun _=>rfl) Dd (hb2.app _) fun ro3 hl3 hls3=>Ro W<|Ae W<|Xi<|Xg W<|Ro W<|Rb Y<|Ae W<|X.weaken ?_ (hnext (i+1,ro3,v2) ⟨hi',RO.le_trans hle1 (RO.le_trans hle2 hl3),zs2,hls3,hzs2,fun z hz=>⟨(hls2 z hz).1.mono hl3,(hls2 z hz).2⟩⟩ (by simp only;omega))
   exact⟨rfl,rfl,by simp [look],trivial⟩
 ·obtain rfl:i=rs.length:=by omega
  rw [List.take_length] at hg1
  obtain⟨ab,ac,rfl⟩:=hg1.form
  have hal:(spread rs).length≤243:=by
   have h1:=spread_le (rs:=rs) fun r h=>(hr r h).2.2.2
   have h2:3^rs.length≤3^5:=Nat.pow_le_pow_right Dd O
   omega
  have hallx:∀x∈spread rs,x.length=b.ps.length∧∀i,0≤x.getD i 0∧x.getD i 0≤99:=fun x hx=>⟨by rw [spread_len x hx,hn],spread_in hx hr⟩
  generalize spread rs=all at hg1 hallx hal
  have hrl:∃c:Nat,c=(b.bal.hi+1-b.bal.lo).toNat:=⟨_,rfl⟩
  obtain⟨c,hc⟩:=hrl
  refine Xe U<|Xo W W<|Xx W<|Rv 1 W A66 U B45<|Rv 1 W A45 U B3<|R.loadOne C U U U G3 Vm U<|Ae W<|Xb<|X.loopI (ι:=Nat×RO×Value×List Value×List (Nat×Obj)) C.1 (fun s=>s.1≤c∧ro1.le s.2.1∧Buf 176 2 [] s.2.2.1 s.2.2.2.1 s.2.2.2.2∧s.2.2.2.1.length≤486*s.1) (fun s=> [(1, .pointer (some ⟨p1,0,none⟩)),(3, .slice ab all.length ac),(8,s.2.2.1),(9, .int .i64 (b.bal.lo+(s.1:Int)))])
   (fun s=>⟨s.2.1,s.2.2.2.2++((p1, .cells [.int .i64 b.lim, .int .i64 b.bal.lo, .int .i64 b.bal.hi, .slice vb b.ps.length vc, .slice ob b.out.length oc, .slice eb b.hs.length ec].toArray 66 (0,0))::tail)⟩) (fun s=>c-s.1) (0,ro1, .slice none 0 0, [], []) ⟨Nat.zero_le _,RO.le_refl _, .nil,Nat.le_refl _⟩ rfl ⟨rfl,rfl,rfl,by simp [look],trivial⟩ fun s hs2 hnext2=>?_
  obtain⟨j,ro2,v2,zs2,own2⟩:=s
  obtain⟨hj,hle2,hb2,hzs2⟩:=hs2
  simp only at hj hle2 hb2 hzs2 hnext2⊢
  refine Xx W<|Ro W<|Rv 1 W A66 U B45<|Rv 2 W A45 U B3<|R.loadOne C U U U G3 Vm U<|Ri Z b_leq<|Zj U (fun hlt2=>?_) (fun hlt2=>?_)
  ·refine Xz<|Xv<|Xb<|Xo W W<|Xb<|X.loopI (ι:=Nat×RO×Value×List Value×List (Nat×Obj)) C.1 (fun s=>s.1≤all.length∧ro2.le s.2.1∧Buf 176 2 [] s.2.2.1 s.2.2.2.1 s.2.2.2.2∧s.2.2.2.1.length≤486*j+2*s.1) (fun s=> [(1, .pointer (some ⟨p1,0,none⟩)),(3, .slice ab all.length ac),(8,s.2.2.1),(9, .int .i64 (b.bal.lo+(j:Int))),(10, .int .i64 (s.1:Int))])
    (fun s=>⟨s.2.1,s.2.2.2.2++((p1, .cells [.int .i64 b.lim, .int .i64 b.bal.lo, .int .i64 b.bal.hi, .slice vb b.ps.length vc, .slice ob b.out.length oc, .slice eb b.hs.length ec].toArray 66 (0,0))::tail)⟩) (fun s=>all.length-s.1) (0,ro2,v2,zs2,own2) ⟨Nat.zero_le _,RO.le_refl _,hb2,hzs2⟩ rfl ⟨U,U,U,U,U,trivial⟩ fun s hs3 hnext3=>?_
   obtain⟨k,ro3,v3,zs3,own3⟩:=s
   obtain⟨hk,hle3,hb3,hzs3⟩:=hs3
   simp only at hk hle3 hb3 hzs3 hnext3⊢
   refine Xx W<|Oo W W<|Rt W A23<|Ri Z b_lss<|Zj U (fun hlt3=>?_) (fun hlt3=>?_)
   ·have hk':k<all.length:=O
    have k3:=RO.le_trans hle2 hle3
    obtain⟨ap,ao,acap,al,aty,afq,hasl,haro,hasub⟩:=(hg1.mono k3).at O
    cases hasl
    obtain⟨qb,qc,hqat,hqc,hqls⟩:=hasub k hk'
    obtain⟨hxl,hxb⟩:=hallx _ (List.getElem_mem hk')
    generalize all[k]=x at hqat hqc hqls hxl hxb
    have hvk:=hv0.mono (RO.le_trans hl0 (RO.le_trans hle1 k3))
    refine Xz<|Xv<|Xb<|Xm W W<|Oo W W<|Ry Y A23 B58<|Lo Y G58 haro hqat ?_;refine R.build C U U U zeroValue176 U A176 Kr (Fills.part U U B3 U (.here .nil) (Fills.part U U B58 U (.skip (.here .nil)) .nil))<|Al W zeroValue176 U fun p11=>Rs Z B176 Y (by repeat (first|exact Uh|apply Ut|apply Upd.app)) Ph2<|Rz<|Xu W<|R.loadAgg C U U U G66 B66 Vm Tk6<|R.loadAgg C U U U isAgg176 B176 Vm Tk2<|R.callR C U U U U (caseR_c hJ hvk hs hch hqls hxl hxb (n0:=b.bal.lo+(j:Int)) O) fun v4 ro4 hl4 hq4=>?_
    obtain⟨z,rfl⟩:=hq4
    refine Zc U (fun hz=>?_) (fun hz=>?_)
    ·refine Xg W<|Ro W<|R.loadAgg C U U U isAgg176 B176 Vm Tk2<|R.buildSlice C (vs:=_) U U (show pvals _ _=some (numbered 0 [_]) from rfl) U A72 B176 zeroValue176 Dd (Cat.one U U) fun p84=>R.append2 (kk:=2) C [_] U U U U A72 A72 (fun _=>nofun) (show prog.info? 176=some Tryz.t176 by kernel_rfl) U U U Dd Dd (hb3.app _) U U (by(try simp only [List.length_append,List.length_cons,List.length_nil]);omega) fun v' own' hb'=>Ae W<|Xi<|Xg W<|Ro W<|Rb Y<|Ae W ?_
     obtain⟨own4,rfl,hb4⟩:=hb'.unapp
     refine X.drop C.1 (own':=own4++_) (List.sublist_cons_self _ _)<|X.weaken ?_ (hnext3 (k+1,ro4,_,_,own4) ⟨hk',RO.le_trans hle3 hl4,hb4,by simp only [List.length_append,List.length_cons,List.length_nil];omega⟩ (by simp only;omega))
     exact⟨rfl,rfl,rfl,rfl,by simp [look],trivial⟩
    ·refine Xz<|Xi<|Xg W<|Ro W<|Rb Y<|Ae W<|X.drop C.1 (own':=own3++_) (List.sublist_cons_self _ _)<|X.weaken ?_ (hnext3 (k+1,ro4,_,_,own3) ⟨hk',RO.le_trans hle3 hl4,hb3,by simp only;omega⟩ (by simp only;omega))
     exact⟨rfl,rfl,rfl,rfl,by simp [look],trivial⟩
   ·obtain rfl:k=all.length:=by omega
    refine Xe U<|Xi<|Xg W<|Ro W<|Rb Y<|Ae W<|X.weaken ?_ (hnext2 (j+1,ro3,v3,zs3,own3) ⟨O,RO.le_trans hle2 hle3,hb3,by simp only;omega⟩ (by simp only;omega))
    exact⟨rfl,rfl,rfl,by simp only [look];congr 2;omega,trivial⟩
  ·obtain rfl:j=c:=by omega
   obtain⟨fb,fc,rfl⟩:=hb2.form Dd
   refine Xe U<|Xm W W<|Ae W<|Xw func23<|hret _ _ _ (RO.le_trans hl0 (RO.le_trans hle1 hle2)) (by repeat (first|exact List.Sublist.refl _|apply List.Sublist.cons|apply List.sublist_append_of_sublist_right)) ?_
   exact⟨_,_,_,rfl,O⟩
end Go.Lg.H
namespace Go.Lg.B
open Go Go.Conc Go.Lg Go.Proofs Go.Proofs.Tryz
section
variable {b:Bk}
theorem bears_weighed(b:Bk)(i:Nat)(r:Rc):bearsL (b.weighed i r)=bearsL b:=by
 unfold bearsL
 congr 1
 funext p
 exact right_alike (b:=b.weighed i r) (c:=b) rfl rfl rfl (fun _=>rfl) p
theorem cases_of_bears(hb:b.good)(h:bearsL b≠ []):cases b≠ []:=by
 have hnc:=hb.nc
 have hf:=piece_fine hb (i:=0) ⟨Int.le_refl _,O⟩
 unfold Pc.fine at hf
 obtain⟨w,hw,_⟩:=weights_hi hb (k:=0) (Int.le_refl _) O (x:=(b.piece 0).r.lo) O
 intro e
 cases hc:bearsL b with
 |nil=>exact h hc
 |cons p L=>
  have:(p,w)∈cases b:=mem_cases.2 ⟨by rw [hc];simp,hw⟩
  rw [e] at this;cases this
theorem weighed2_c{Q:Machine→Outcome→World→Trace→Prop}{vb vl vm:Value}{l m:List Int}{ro:RO}(he:Env ro)(hvb:BkV ro vb b)(hch:checkBook b=0)(hbe:bearsL b≠ [])(hl:LsI ro vl l)(hm:LsI ro vm m)(nl:l≠ [])(nm:m≠ [])(hs:∀y∈m,y∈l)(al:l.Pairwise (· < ·))(am:m.Pairwise (· < ·)){l0 l1:Int}(hw:l1-l0<3)(ha:1≤l0∧l1≤1000)(hin:∀y∈l,l0≤y∧y≤l1)
  {i g k n:Int} (hi:0≤i∧i<b.ps.length) (hg:0≤g∧g<b.gs.length) (hkb:0≤k∧k<b.cs.length) (hn:1≤n∧n≤99):
  CallR prog (JM prog Q) (fnv 26) [vb, .int .i64 k,vl,vm, .int .i64 i, .int .i64 g, .int .i64 n] ro (fun w _=>w= .bool true):=by
 have hJ:Closed prog true (JM prog Q):=JM.closed
 let main:=true
 let J:=JM prog Q
 have hb:=good_of hch
 have hnp:1≤b.cs.length∧b.cs.length≤3:=hb.nc
 have hlen:l.length≤3:=asc_len (lo:=l0) (m:=3) al fun x hx=>by have:=hin x hx;omega
 have hinm:∀y∈m,l0≤y∧y≤l1:=fun y hy=>hin y (hs y hy)
 have hlem:m.length≤3:=asc_len (lo:=l0) (m:=3) am fun x hx=>by have:=hinm x hx;omega
 have hpl:=List.length_pos_iff.2 nl
 have hpm:=List.length_pos_iff.2 nm
 have hins:insideL m l=true:=by
  unfold insideL;rw [List.all_eq_true];intro x hx;rw [List.contains_iff_mem];exact hs x hx
 have n1:=span_narrow (more:=0) (least:=1) al nl hin hw O
 have n2:=span_narrow (more:=0) (least:=1) am nm hinm hw O
 have hsp:=span_in (more:=0) (least:=1) (most:=99) al nm hs
 have bl:∀x∈l, -1000≤x∧x≤1000:=fun x hx=>by have:=hin x hx;omega
 have bm:∀x∈m, -1000≤x∧x≤1000:=fun x hx=>bl x (hs x hx)
 have c1:=check_weighed hch k.toNat n1
 have c2:=check_weighed hch k.toNat n2
 have hfw:=fewer_weighed2 hkb hsp.1 hsp.2
 have nd:cases (b.weighed k.toNat (spanL m 0 1 99))≠ []:=cases_of_bears (good_of c2) (by rw [bears_weighed];exact hbe)
 have hvb0:=hvb
 obtain⟨vp,vg,vc,vt,rfl,hp,hgg,hc,htt⟩:=hvb
 obtain⟨pb,pc,rfl⟩:=hp.form
 obtain⟨gb,gc,rfl⟩:=hgg.form
 obtain⟨cb,cc,rfl⟩:=hc.form
 obtain⟨tb,tc,rfl⟩:=htt.form
 have hl0:=hl
 have hm0:=hm
 obtain⟨lb,lc,rfl⟩:=hl.form
 obtain⟨mb,mc,rfl⟩:=hm.form
 refine ER 58 hJ func26 W fun c cs tail hret C=>Xu W<|Bx Z fun p7=>Ae W<|Xx W<|Ro W<|Rt W A58<|Ri Z b_eql<|FF 19 U (Bv (by rw [beq_eq_false_iff_ne];omega)) ?_;refine Oo W W<|Rt W A58<|Ri Z b_eql<|FF 23 U (Bv (by rw [beq_eq_false_iff_ne];omega)) ?_;refine Pf Z<|Oo W W<|Ro W<|Cp Z (inside2R_c hJ hm0 hl0 O O)<|Rh Y<|FF 29 U (by(rw [hins];rfl))<|Pf Z<|Zc U (fun h=>nomatch h) (fun _=>?_)
 refine Xz<|Xv<|X.afterI (ι:=Nat×RO×Value×Value×Value×Value) (fun s=>ro.le s.2.1∧BkP s.2.1 (b.weighed k.toNat (spanL l 0 1 99)) s.2.2.1 s.2.2.2.1 s.2.2.2.2.1 s.2.2.2.2.2) (fun s=> [(15, .pointer (some ⟨s.1,0,none⟩)),(1, .int .i64 k),(3, .slice mb m.length mc),(4, .int .i64 i),(5, .int .i64 g),(6, .int .i64 n),(7, .pointer (some ⟨p7,0,none⟩))])
  (fun s=>⟨s.2.1,(s.1, .cells [.int .i64 b.w,s.2.2.1,s.2.2.2.1,s.2.2.2.2.1,s.2.2.2.2.2].toArray 27 (0,0))::(p7, .cells [.int .i64 b.w, .slice pb b.ps.length pc, .slice gb b.gs.length gc, .slice cb b.cs.length cc, .slice tb b.ts.length tc].toArray 27 (0,0))::tail⟩) (fun s hsx=>?_) (fun hcont=>?_)
 rotate_left
 ·have _:=hpl
  refine Xf fun hok=>D5 C 0 hok U U G27 B27 V Tk5<|Dt 1 Y<|Dt 2 Y<|D.eP2 (i:=3) (i':=5) (dst:=(some 34)) (dst':=(some 15)) [true] [true] hok U U Kr Kr Kr (fun _ _ A hk=>?_) (fun _ _ A hk=>?_)
  ·
   refine R.callP C U (A.w U U) (A.x U U) (A.s U U) (spanned_c hJ hl0 nl bl O O) (hk _ _ ⟨(QFs.cons (QF.of U (fun _ _ A h=>R.loadAgg C U (A.w U U) (A.x U U) G27 B27 V Tk5 h)) QFs.nil), ?_⟩)
   refine D.eP2 (i:=4) (i':=5) (dst:=(some 35)) (dst':=(some 15)) [false] [true] hok U U Kr Kr Kr (fun _ _ A hk=>?_) (fun _ _ A hk=>?_)
   ·
    refine R.callR C U (A.w U U) (A.x U U) (A.s U U) (weighedR_c hJ hvb0 (show b.cs.length≤1000 by omega) hkb (spanL l 0 1 99)) fun v5 ro5 hl5 hq5=>hk _ _ ⟨QFs.nil, ?_⟩
    refine De 5 (some 15) [] hok (fun _ _ A hk=>?_)
    obtain⟨_,_,_,_,rfl,hnb⟩:=hq5
    obtain⟨_,_,rfl⟩:=hnb.1.form
    obtain⟨_,_,rfl⟩:=hnb.2.1.form
    obtain⟨_,_,rfl⟩:=hnb.2.2.1.form
    obtain⟨_,_,rfl⟩:=hnb.2.2.2.form
    refine R.alloc C U (A.w U U) K27 U fun p15=>hk _ _ ⟨QFs.nil, ?_⟩
    refine De 6 none [] hok (fun _ _ A hk=>?_)
    refine R.store C U (A.w U U) (A.x U U) (A.x U U) B27 U U U V Ph5 (hk undef _ ⟨QFs.nil, ?_⟩)
    refine Dn<|X.weaken ?_ (hcont (p15,ro5,_,_,_,_) ⟨hl5,hnb⟩)
    exact⟨U,U,U,U,U,U,U,trivial⟩
   ·
    refine R.alloc C U (A.w U U) K27 U fun p15=>hk _ _ ⟨(QFs.cons (QF.of U (fun _ _ A h=>R.loadAgg C U (A.w U U) (A.x U U) G27 B27 V Tk5 h)) QFs.nil), ?_⟩
    refine De 4 (some 35) [false] hok (fun _ _ A hk=>?_)
    refine R.callR C U (A.w U U) (A.x U U) (A.s U U) (weighedR_c hJ hvb0 (show b.cs.length≤1000 by omega) hkb (spanL l 0 1 99)) fun v5 ro5 hl5 hq5=>hk _ _ ⟨QFs.nil, ?_⟩
    refine De 6 none [] hok (fun _ _ A hk=>?_)
    obtain⟨_,_,_,_,rfl,hnb⟩:=hq5
    obtain⟨_,_,rfl⟩:=hnb.1.form
    obtain⟨_,_,rfl⟩:=hnb.2.1.form
    obtain⟨_,_,rfl⟩:=hnb.2.2.1.form
    obtain⟨_,_,rfl⟩:=hnb.2.2.2.form
    refine R.store C U (A.w U U) (A.x U U) (A.x U U) B27 U U U V Ph5 (hk undef _ ⟨QFs.nil, ?_⟩)
    refine Dn<|X.weaken ?_ (hcont (p15,ro5,_,_,_,_) ⟨hl5,hnb⟩)
    exact⟨U,U,U,U,U,U,U,trivial⟩
  ·
   refine R.alloc C U (A.w U U) K27 U fun p15=>hk _ _ ⟨(QFs.cons (QF.of U (fun _ _ A h=>R.loadAgg C U (A.w U U) (A.x U U) G27 B27 V Tk5 h)) QFs.nil), ?_⟩
   refine De 3 (some 34) [true] hok (fun _ _ A hk=>?_)
   refine R.callP C U (A.w U U) (A.x U U) (A.s U U) (spanned_c hJ hl0 nl bl O O) (hk _ _ ⟨(QFs.cons (QF.of U (fun _ _ A h=>R.loadAgg C U (A.w U U) (A.x U U) G27 B27 V Tk5 h)) QFs.nil), ?_⟩)
   refine De 4 (some 35) [false] hok (fun _ _ A hk=>?_)
   refine R.callR C U (A.w U U) (A.x U U) (A.s U U) (weighedR_c hJ hvb0 (show b.cs.length≤1000 by omega) hkb (spanL l 0 1 99)) fun v5 ro5 hl5 hq5=>hk _ _ ⟨QFs.nil, ?_⟩
   refine De 6 none [] hok (fun _ _ A hk=>?_)
   obtain⟨_,_,_,_,rfl,hnb⟩:=hq5
   obtain⟨_,_,rfl⟩:=hnb.1.form
   obtain⟨_,_,rfl⟩:=hnb.2.1.form
   obtain⟨_,_,rfl⟩:=hnb.2.2.1.form
   obtain⟨_,_,rfl⟩:=hnb.2.2.2.form
   refine R.store C U (A.w U U) (A.x U U) (A.x U U) B27 U U U V Ph5 (hk undef _ ⟨QFs.nil, ?_⟩)
   refine Dn<|X.weaken ?_ (hcont (p15,ro5,_,_,_,_) ⟨hl5,hnb⟩)
   exact⟨U,U,U,U,U,U,U,trivial⟩
 obtain⟨p15,ro5,zp,zg,zc,zt⟩:=s
 obtain⟨hl5,hnb⟩:=hsx
 simp only at hl5 hnb⊢
 obtain⟨pb5,pc5,rfl⟩:=hnb.1.form
 obtain⟨gb5,gc5,rfl⟩:=hnb.2.1.form
 obtain⟨cb5,cc5,rfl⟩:=hnb.2.2.1.form
 obtain⟨tb5,tc5,rfl⟩:=hnb.2.2.2.form
 have hv5:BkV ro5 (.agg [.int .i64 b.w, .slice pb5 (b.weighed k.toNat (spanL l 0 1 99)).ps.length pc5, .slice gb5 (b.weighed k.toNat (spanL l 0 1 99)).gs.length gc5, .slice cb5 (b.weighed k.toNat (spanL l 0 1 99)).cs.length cc5, .slice tb5 (b.weighed k.toNat (spanL l 0 1 99)).ts.length tc5].toArray) (b.weighed k.toNat (spanL l 0 1 99)):=⟨_,_,_,_,rfl,hnb⟩
 have hvb5:=hvb0.mono hl5
 have hm5:=hm0.mono hl5
 refine Xv<|X.afterI (ι:=Nat×RO×Value×Value×Value×Value) (fun s=>ro5.le s.2.1∧BkP s.2.1 (b.weighed k.toNat (spanL m 0 1 99)) s.2.2.1 s.2.2.2.1 s.2.2.2.2.1 s.2.2.2.2.2) (fun s=> [(16, .pointer (some ⟨s.1,0,none⟩)),(15, .pointer (some ⟨p15,0,none⟩)),(1, .int .i64 k),(4, .int .i64 i),(5, .int .i64 g),(6, .int .i64 n)])
  (fun s=>⟨s.2.1,(s.1, .cells [.int .i64 b.w,s.2.2.1,s.2.2.2.1,s.2.2.2.2.1,s.2.2.2.2.2].toArray 27 (0,0))::(p15, .cells [.int .i64 b.w, .slice pb5 (b.weighed k.toNat (spanL l 0 1 99)).ps.length pc5, .slice gb5 (b.weighed k.toNat (spanL l 0 1 99)).gs.length gc5, .slice cb5 (b.weighed k.toNat (spanL l 0 1 99)).cs.length cc5, .slice tb5 (b.weighed k.toNat (spanL l 0 1 99)).ts.length tc5].toArray 27 (0,0))::(p7, .cells [.int .i64 b.w, .slice pb b.ps.length pc, .slice gb b.gs.length gc, .slice cb b.cs.length cc, .slice tb b.ts.length tc].toArray 27 (0,0))::tail⟩) (fun s hsx=>?_) (fun hcont=>?_)
 rotate_left
 ·have _:=hpl
  refine Xf fun hok=>D5 C 0 hok U U G27 B27 V Tk5<|Dt 1 Y<|Dt 2 Y<|D.eP2 (i:=3) (i':=5) (dst:=(some 39)) (dst':=(some 16)) [true] [true] hok U U Kr Kr Kr (fun _ _ A hk=>?_) (fun _ _ A hk=>?_)
  ·
   refine R.callP C U (A.w U U) (A.x U U) (A.s U U) (spanned_c hJ hm5 nm bm O O) (hk _ _ ⟨(QFs.cons (QF.of U (fun _ _ A h=>R.loadAgg C U (A.w U U) (A.x U U) G27 B27 V Tk5 h)) QFs.nil), ?_⟩)
   refine D.eP2 (i:=4) (i':=5) (dst:=(some 40)) (dst':=(some 16)) [false] [true] hok U U Kr Kr Kr (fun _ _ A hk=>?_) (fun _ _ A hk=>?_)
   ·
    refine R.callR C U (A.w U U) (A.x U U) (A.s U U) (weighedR_c hJ hvb5 (show b.cs.length≤1000 by omega) hkb (spanL m 0 1 99)) fun v6 ro6 hl6 hq6=>hk _ _ ⟨QFs.nil, ?_⟩
    refine De 5 (some 16) [] hok (fun _ _ A hk=>?_)
    obtain⟨_,_,_,_,rfl,hnb6⟩:=hq6
    obtain⟨_,_,rfl⟩:=hnb6.1.form
    obtain⟨_,_,rfl⟩:=hnb6.2.1.form
    obtain⟨_,_,rfl⟩:=hnb6.2.2.1.form
    obtain⟨_,_,rfl⟩:=hnb6.2.2.2.form
    refine R.alloc C U (A.w U U) K27 U fun p16=>hk _ _ ⟨QFs.nil, ?_⟩
    refine De 6 none [] hok (fun _ _ A hk=>?_)
    refine R.store C U (A.w U U) (A.x U U) (A.x U U) B27 U U U V Ph5 (hk undef _ ⟨QFs.nil, ?_⟩)
    refine Dn<|X.weaken ?_ (hcont (p16,ro6,_,_,_,_) ⟨hl6,hnb6⟩)
    exact⟨U,U,U,U,U,U,trivial⟩
   ·
    refine R.alloc C U (A.w U U) K27 U fun p16=>hk _ _ ⟨(QFs.cons (QF.of U (fun _ _ A h=>R.loadAgg C U (A.w U U) (A.x U U) G27 B27 V Tk5 h)) QFs.nil), ?_⟩
    refine De 4 (some 40) [false] hok (fun _ _ A hk=>?_)
    refine R.callR C U (A.w U U) (A.x U U) (A.s U U) (weighedR_c hJ hvb5 (show b.cs.length≤1000 by omega) hkb (spanL m 0 1 99)) fun v6 ro6 hl6 hq6=>hk _ _ ⟨QFs.nil, ?_⟩
    refine De 6 none [] hok (fun _ _ A hk=>?_)
    obtain⟨_,_,_,_,rfl,hnb6⟩:=hq6
    obtain⟨_,_,rfl⟩:=hnb6.1.form
    obtain⟨_,_,rfl⟩:=hnb6.2.1.form
    obtain⟨_,_,rfl⟩:=hnb6.2.2.1.form
    obtain⟨_,_,rfl⟩:=hnb6.2.2.2.form
    refine R.store C U (A.w U U) (A.x U U) (A.x U U) B27 U U U V Ph5 (hk undef _ ⟨QFs.nil, ?_⟩)
    refine Dn<|X.weaken ?_ (hcont (p16,ro6,_,_,_,_) ⟨hl6,hnb6⟩)
    exact⟨U,U,U,U,U,U,trivial⟩
  ·
   refine R.alloc C U (A.w U U) K27 U fun p16=>hk _ _ ⟨(QFs.cons (QF.of U (fun _ _ A h=>R.loadAgg C U (A.w U U) (A.x U U) G27 B27 V Tk5 h)) QFs.nil), ?_⟩
   refine De 3 (some 39) [true] hok (fun _ _ A hk=>?_)
   refine R.callP C U (A.w U U) (A.x U U) (A.s U U) (spanned_c hJ hm5 nm bm O O) (hk _ _ ⟨(QFs.cons (QF.of U (fun _ _ A h=>R.loadAgg C U (A.w U U) (A.x U U) G27 B27 V Tk5 h)) QFs.nil), ?_⟩)
   refine De 4 (some 40) [false] hok (fun _ _ A hk=>?_)
   refine R.callR C U (A.w U U) (A.x U U) (A.s U U) (weighedR_c hJ hvb5 (show b.cs.length≤1000 by omega) hkb (spanL m 0 1 99)) fun v6 ro6 hl6 hq6=>hk _ _ ⟨QFs.nil, ?_⟩
   refine De 6 none [] hok (fun _ _ A hk=>?_)
   obtain⟨_,_,_,_,rfl,hnb6⟩:=hq6
   obtain⟨_,_,rfl⟩:=hnb6.1.form
   obtain⟨_,_,rfl⟩:=hnb6.2.1.form
   obtain⟨_,_,rfl⟩:=hnb6.2.2.1.form
   obtain⟨_,_,rfl⟩:=hnb6.2.2.2.form
   refine R.store C U (A.w U U) (A.x U U) (A.x U U) B27 U U U V Ph5 (hk undef _ ⟨QFs.nil, ?_⟩)
   refine Dn<|X.weaken ?_ (hcont (p16,ro6,_,_,_,_) ⟨hl6,hnb6⟩)
   exact⟨U,U,U,U,U,U,trivial⟩
 obtain⟨p16,ro6,yp,yg,yc,yt⟩:=s
 obtain⟨hl6,hnb6⟩:=hsx
 simp only at hl6 hnb6⊢
 obtain⟨_,_,rfl⟩:=hnb6.1.form
 obtain⟨_,_,rfl⟩:=hnb6.2.1.form
 obtain⟨_,_,rfl⟩:=hnb6.2.2.1.form
 obtain⟨_,_,rfl⟩:=hnb6.2.2.2.form
 have hv6:BkV ro6 _ (b.weighed k.toNat (spanL m 0 1 99)):=⟨_,_,_,_,rfl,hnb6⟩
 have hv56:=hv5.mono hl6
 have k6:=RO.le_trans hl5 hl6
 refine Xu W<|Rq W G27 B27 V Tk5<|Cp Z (checkBookR_c hJ hv56 (short_of (not_great c1)))<|Ri Z b_eql<|FT 43 U (by(rw [c1];rfl))<|Ro W<|Rq W G27 B27 V Tk5<|Cp Z (checkBookR_c hJ hv6 (short_of (not_great c2)))<|Ri Z b_eql<|FT 47 U (by(rw [c2];rfl))<|Pp Z<|Ro W<|Rq W G27 B27 V Tk5<|Rq W G27 B27 V Tk5<|Oo W W<|Oo W W<|R.callR C U U U U (betterR_c (he.mono k6) hv56 hv6 c1 c2 nd hfw hi hg (by unfold Bk.weighed;simpa using hkb) hn) fun v7 ro7 hl7 hq7=>Pp Z<|Ae W<|Xw func26<|Hr hret (RO.le_trans k6 hl7) ?_
 exact hq7
end
section
variable {b:Bk}{v:Value}{ro:RO}
theorem BkV.all(h:BkV ro v b):∃pb pc gb gc cb cc tb tc,v= .agg [.int .i64 b.w, .slice pb b.ps.length pc, .slice gb b.gs.length gc, .slice cb b.cs.length cc, .slice tb b.ts.length tc].toArray∧Ls Pt.cells 4 ro (.slice pb b.ps.length pc) b.ps∧LsG ro (.slice gb b.gs.length gc) b.gs∧Ls Pc.cells 3 ro (.slice cb b.cs.length cc) b.cs∧Ls Ts.cells 3 ro (.slice tb b.ts.length tc) b.ts:=by
 obtain⟨vp,vg,vc,vt,rfl,hp,hg,hc,ht⟩:=h
 obtain⟨pb,pc,rfl⟩:=hp.form
 obtain⟨gb,gc,rfl⟩:=hg.form
 obtain⟨cb,cc,rfl⟩:=hc.form
 obtain⟨tb,tc,rfl⟩:=ht.form
 exact⟨_,_,_,_,_,_,_,_,rfl,hp,hg,hc,ht⟩
theorem LsG.nil:LsG ro (.slice none 0 0) []:=⟨[],Ls.nil,rfl,fun _ h=>nomatch h⟩
section
variable {main:Bool}{J:Goroutine→Mem→Prop}(hJ:Closed prog main J)
include hJ
theorem bearsOfR_c(hv:BkV ro v b)(hb:b.good):CallR prog J (fnv 21) [v] ro (fun w ro'=>LsG ro' w (bearsL b)):=by
 have hvv:=hv
 obtain⟨pb,pc,gb,gc,cb,cc,tb,tc,rfl,hp,hg,hc,ht⟩:=hv.all
 have hnp:=hb.np
 have hml:(b.ps.map Pt.r).length=b.ps.length:=List.length_map ..
 refine ER 46 hJ func21 W fun c cs tail hret C=>Xu W<|Bx Z fun p1=>Ae W<|Xo W W<|Xx W<|Ae W<|Xb<|X.loopI (ι:=Nat×Value×List (Nat×Obj)) C.1 (fun s=>s.1≤b.ps.length∧Buf 45 2 [] s.2.1 (((b.ps.map Pt.r).take s.1).flatMap Rc.cells) s.2.2)
  (fun s=> [(1, .pointer (some ⟨p1,0,none⟩)),(3,s.2.1),(4, .int .i64 (s.1:Int))]) (fun s=>⟨ro,s.2.2++((p1, .cells [.int .i64 b.w, .slice pb b.ps.length pc, .slice gb b.gs.length gc, .slice cb b.cs.length cc, .slice tb b.ts.length tc].toArray 27 (0,0))::tail)⟩) (fun s=>b.ps.length-s.1) (0, .slice none 0 0, []) ⟨Nat.zero_le _, .nil⟩ rfl ⟨U,U,U,trivial⟩ fun s hs hnext=>?_
 obtain⟨i,v1,own1⟩:=s
 obtain⟨hi,hbuf⟩:=hs
 simp only at hi hbuf hnext⊢
 have hfl:(((b.ps.map Pt.r).take i).flatMap Rc.cells).length=i*2:=by
  rw [flatMap_len (k:=2) (fun _=>rfl),List.length_take];omega
 obtain⟨bs0,cap0,rfl⟩:=hbuf.form Dd
 refine Xx W<|Ro W<|Rv 1 W A27 U B22<|R.loadOne C U U U G22 Vm U<|Rt W A22<|Ri Z b_lss<|Zj U (fun hlt=>?_) (fun hlt=>?_)
 ·have hi':i<b.ps.length:=O
  obtain⟨pp,po,pcap,pl,pty,pfq,hsl,hrop,hsub⟩:=hp.at Pt.len O
  cases hsl
  have hsi:Sub (po+i*4+2) 2 pl (b.ps[i]).r.cells:=(hsub i hi').part (i:=2) (m:=2) Dd
  have hstep:(b.ps.map Pt.r).take (i+1)=(b.ps.map Pt.r).take i++ [(b.ps[i]).r]:=by rw [List.take_succ_eq_append_getElem O,List.getElem_map]
  generalize(b.ps[i]).r=r at hsi hstep
  have hrl:r.cells.length=2:=rfl
  refine Xz<|Xv<|Xb<|Xg W<|Ro W<|Rv 1 W A27 U B22<|R.loadOne C U U U G22 Vm U<|Ro W<|Ry Y A22 B169<|R.fieldAddr C U U U A169 U B45 U<|La Y G45 B45 hrop hsi<|R.buildSlice C (vs:=_) U U (show pvals _ _=some (numbered 0 [_]) from rfl) U A29 B45 K45 Dd (Cat.one U U) fun p22=>R.append1 (kk:=2) C U U U U A29 A29 (fun _=>nofun) (show prog.info? 45=some Tryz.t45 by kernel_rfl) U U U Dd Dd (hbuf.app _) U U (by(try simp only [List.length_append,List.length_cons,List.length_nil]);omega) fun v' own' hb'=>Ae W<|Xi<|Xg W<|Ro W<|Rb Y<|Ae W ?_
  obtain⟨own2,rfl,hb1⟩:=hb'.unapp (tail:= [])
  refine X.weaken ?_ (hnext (i+1,v',own2) ⟨hi', ?_⟩ (by simp only;omega))
  ·exact⟨rfl,rfl,by simp [look],trivial⟩
  ·rw [hstep,List.flatMap_append];exact hb1
 ·obtain rfl:i=b.ps.length:=by omega
  rw [List.take_of_length_le O] at hbuf hfl⊢
  refine Xe U<|Xv<|X.finish C.1 (enc:=Rc.cells) (fun _=>rfl) Dd (hbuf.app _) fun ro1 hl1 hls1=>Xg W<|Ro W<|R.callR C U U U U ((listsR_c (rs:=b.ps.map Pt.r) hJ hls1 O (fun r h=>by obtain⟨q,hq,rfl⟩:=List.mem_map.1 h;exact(hb.ps q hq).2))) fun v2 ro2 hl2 hq2=>?_
  obtain⟨zs,hz1,hz2,hz3⟩:=hq2
  have hL2:=RO.le_trans hl1 hl2
  have hzl:zs.length≤81:=by
   have h1:=spread_le (rs:=b.ps.map Pt.r) fun r h=>by
    obtain⟨q,hq,rfl⟩:=List.mem_map.1 h
    exact(hb.ps q hq).2.2.2.2
   have h2:3^ (b.ps.map Pt.r).length≤3^4:=Nat.pow_le_pow_right Dd O
   rw [←hz2,List.length_map] at h1
   omega
  obtain⟨zb,zc,rfl⟩:=hz1.form
  refine Ae W<|Xo W W<|Xx W<|Ae W<|Xb<|X.loopI (ι:=Nat×RO×Value×List (Nat×Obj)) C.1 (fun s=>s.1≤zs.length∧ro2.le s.2.1∧Buf 58 1 [] s.2.2.1 (((zs.take s.1).filter fun z=>right b z.2).flatMap fun z=> [z.1]) s.2.2.2)
   (fun s=> [(1, .pointer (some ⟨p1,0,none⟩)),(5, .slice zb zs.length zc),(6,s.2.2.1),(7, .int .i64 (s.1:Int))]) (fun s=>⟨s.2.1,s.2.2.2++((p1, .cells [.int .i64 b.w, .slice pb b.ps.length pc, .slice gb b.gs.length gc, .slice cb b.cs.length cc, .slice tb b.ts.length tc].toArray 27 (0,0))::tail)⟩) (fun s=>zs.length-s.1) (0,ro2, .slice none 0 0, []) ⟨Nat.zero_le _,RO.le_refl _, .nil⟩ rfl ⟨U,U,U,U,trivial⟩ fun s hs hnext2=>?_
  obtain⟨k,ro3,v3,own3⟩:=s
  obtain⟨hk,hl3,hb3⟩:=hs
  simp only at hk hl3 hb3 hnext2⊢
  have hfl3:(((zs.take k).filter fun z=>right b z.2).flatMap fun z:Value×List Int=> [z.1]).length≤k:=by
   rw [flatMap_len (k:=1) (fun _=>rfl),Nat.mul_one]
   have:=List.length_filter_le (fun z:Value×List Int=>right b z.2) (zs.take k)
   rw [List.length_take] at this;omega
  obtain⟨bs3,cap3,rfl⟩:=hb3.form Dd
  refine Xx W<|Oo W W<|Rt W A23<|Ri Z b_lss<|Zj U (fun hlt2=>?_) (fun hlt2=>?_)
  ·have hk':k<zs.length:=O
   obtain⟨zp,zo,zcap,zl,zty,zfq,hsl,hzro,hzsub⟩:=hz1.at (fun _=>rfl) O
   cases hsl
   have hzk:zl[zo+k*1+0]? =some zs[k].1:=(hzsub k hk').get 0 Dd
   have hzi:=hz3 _ (List.getElem_mem hk')
   have hzlen:zs[k].2.length=b.ps.length:=by
    have:zs[k].2∈spread (b.ps.map Pt.r):=by rw [←hz2];exact List.mem_map.2 ⟨_,List.getElem_mem hk',rfl⟩
    rw [spread_len _ this,hml]
   have hstep:(zs.take (k+1)).filter (fun z=>right b z.2)=(zs.take k).filter (fun z=>right b z.2)++(if right b zs[k].2 then [zs[k]] else []):=by
    rw [List.take_succ_eq_append_getElem hk',List.filter_append,List.filter_cons,List.filter_nil]
   generalize zs[k]=z at hzk hzi hzlen hstep
   obtain⟨z1,z2⟩:=z
   simp only at hzk hzi hzlen hstep
   obtain⟨qb,qc,rfl⟩:=hzi.1.form
   have hzro3:=hl3 _ _ hzro
   refine Xz<|Xv<|Xb<|Xv<|Xf fun hok=>Dl 0 hok (fun _ _ A h=>R.loadAgg C U (A.w U U) (A.x U U) G27 B27 Vm Tk5 h)<|Dt 1 Y<|Dt 2 Y<|Dw 3 Y A23 B58<|Dc 4 W G58 hzro3 hzk<|De 5 (some 37) [false,false] hok (fun _ _ A hk=>?_)
   refine R.callR C U (A.w U U) (A.x U U) (A.s U U) (testedR_c hJ (hvv.mono (RO.le_trans hL2 hl3)) hb (hzi.1.mono hl3) hzlen) fun v4 ro4 hl4 hq4=>hk _ _ ⟨QFs.nil, ?_⟩
   refine Dn ?_
   subst hq4
   refine Xc U (fun hrt=>?_) (fun hrt=>?_)
   ·rw [if_pos hrt] at hstep
    have hzro4:=hl4 _ _ hzro3
    refine Xg W<|Oo W W<|Ro W<|Ry Y A23 B58<|Lo Y G58 hzro4 hzk<|R.buildSlice C (vs:=_) U U (show pvals _ _=some (numbered 0 [_]) from rfl) U A23 B58 K58 Dd (Cat.one U U) fun p43=>R.append1 (kk:=1) C U U U U A23 A23 (fun _=>nofun) (show prog.info? 58=some Tryz.t58 by kernel_rfl) U U U Dd Dd (hb3.app _) U U (by simp only [List.length_append,List.length_cons,List.length_nil];omega) fun v' own' hb'=>Ae W<|Xi<|Xg W<|Ro W<|Rb Y<|Ae W ?_
    obtain⟨own5,rfl,hb5⟩:=hb'.unapp (tail:= [])
    refine X.weaken ?_ (hnext2 (k+1,ro4,v',own5) ⟨hk',RO.le_trans hl3 hl4, ?_⟩ (by simp only;omega))
    ·exact⟨rfl,rfl,rfl,by simp [look],trivial⟩
    ·rw [hstep,List.flatMap_append];exact hb5
   ·rw [if_neg (by rw [hrt];decide),List.append_nil] at hstep
    refine Xz<|Xi<|Xg W<|Ro W<|Rb Y<|Ae W<|X.weaken ?_ (hnext2 (k+1,ro4,_,own3) ⟨hk',RO.le_trans hl3 hl4,by rw [hstep];exact hb3⟩ (by simp only;omega))
    exact⟨rfl,rfl,rfl,by simp [look],trivial⟩
  ·obtain rfl:k=zs.length:=by omega
   rw [List.take_length] at hb3 hfl3⊢
   refine Xe U<|Xv<|X.finish C.1 (enc:=fun z:Value×List Int=> [z.1]) (fun _=>rfl) Dd (hb3.app _) fun ro5 hl5 hls5=>Xg W<|Ro W<|Ae W<|Xw func21<|Hr hret (RO.le_trans hL2 (RO.le_trans hl3 hl5))<|⟨_,hls5, ?_,fun z hz=>?_⟩
   ·rw [bearsL, ←hz2,List.filter_map];rfl
   ·have:=hz3 z (List.mem_filter.1 hz).1
    exact⟨this.1.mono (RO.le_trans hl3 hl5),this.2⟩
end
end
end Go.Lg.B
namespace Go.Lg.H
open Go Go.Conc Go.Lg Go.Proofs Go.Lg.B Go.Proofs.Tryz
theorem emod_in{x:Int}{n:Nat}(h:1≤n):0≤x% (n:Int)∧x% (n:Int)<n:=⟨Int.emod_nonneg _ O,Int.emod_lt_of_pos _ O⟩
theorem fit_true{b:Bk}(h:fit b=true):great b=false∧checkBook b=0:=by simpa [fit] using h
theorem hulled_root{b:B.Bk}{u:Bk}{vb vu:Value}{x:Hl}{c0 i0 g0 k0 n0:Int}(hc0:0≤c0∧c0≤255)(hi0:0≤i0∧i0≤255)(hg0:0≤g0∧g0≤255)(hk0:0≤k0∧k0≤255)(hn0:0≤n0∧n0≤255){ro:RO}(he:B.Env ro)(heH:Env ro)(hv:B.BkV ro vb b)(hvu:BkV ro vu u):
  Root prog 5 [vb,vu, .agg [.int .i64 x.after, .int .i64 x.side].toArray, .int .u8 c0, .int .u8 i0, .int .u8 g0, .int .u8 k0, .int .u8 n0] ro (fun w _=>w= .bool true):=by
 intro Post hret
 have hJ:Closed prog true (JM prog (Go.Conc.Good prog Post)):=JM.closed
 have hvv:=hv
 obtain⟨vp,vg,vc,vt,rfl,hp,hg,hc,ht⟩:=hv
 obtain⟨pb,pc,rfl⟩:=hp.form
 obtain⟨gb,gc,rfl⟩:=hg.form
 obtain⟨cb,cc,rfl⟩:=hc.form
 obtain⟨tb,tc,rfl⟩:=ht.form
 have hvu0:=hvu
 obtain⟨up,uo,uh,rfl,hup,huo,huh,hcp,hco⟩:=hvu
 obtain⟨upb,upc,rfl⟩:=hup.form
 obtain⟨uob,uoc,rfl⟩:=huo.form
 obtain⟨uhb,uhc,rfl⟩:=huh.form
 let main:=true
 let J:=JM prog (Go.Conc.Good prog Post)
 refine enter_X (n:=107) F5 U U (Nl U) ?_
 have C:Ctx prog main J (bf 5 .normal):=⟨hJ,by decide⟩
 by_cases h1:B.checkBook b=0
 ·have hb:=B.good_of h1
  refine Xu W<|Bx Z fun p8=>Bx Z fun p9=>Bx Z fun p10=>Ae W<|Xx W<|Rq W G27 B27 V Tk5<|Cp Z (B.fitR_c hJ hvv)<|Rh Y<|FF 26 U (by(rw [h1];rfl))<|Ro W<|Rq W G27 B27 V Tk5<|R.callR C U U U U (bearsOfR_c hJ hvv hb) fun v1 ro1 hl1 hq1=>?_
  obtain⟨lb0,lc0,rfl⟩:=hq1.form
  by_cases h2:(bearsL b).length=0
  ·have _:=h1
   refine Rt W A23<|Ri Z b_eql<|FT 31 U (Bv (by rw [beq_iff_eq];omega)) ?_;refine Pf Z<|Ro W<|Rp W<|Rp W<|Rp W<|Pp Z<|Ro W<|Rp W<|Rp W<|Rp W<|Rp W<|Pp Z<|Zc U (fun _=>?_) (fun h=>nomatch h)
   refine Xu W<|R.callR C U U U U ((hoisted_c _ (he.mono hl1))) fun v9 ro9 hl9 hq9=>Ae W<|X.ret0 C Kr U U F5 U (by exact(.tmp U .nil)) fun w9 hs9=>hret _ _ _ (RO.le_trans hl1 hl9) ?_ w9 hs9
   exact hq9
  ·by_cases h3:fit u=true
   ·obtain⟨hgu,hch⟩:=fit_true h3
    have hsh:=short_of hgu
    have hub:=good_of hch
    have hnp:1≤b.ps.length∧b.ps.length≤4:=hb.np
    have hng:1≤b.gs.length∧b.gs.length≤3:=hb.ng
    have hnc:1≤b.cs.length∧b.cs.length≤3:=hb.nc
    have hnu:1≤u.ps.length∧u.ps.length≤5:=hub.np
    refine Rt W A23<|Ri Z b_eql<|FF 31 U (Bv (by rw [beq_eq_false_iff_ne];omega)) ?_;refine Pf Z<|Ro W<|Rq W G66 B66 V Tk6<|Cp Z (fitR_c hJ (hvu0.mono hl1))<|Rh Y<|FF 36 U (by(rw [h3];rfl))<|Pf Z<|Ro W<|Rq W G66 B66 V Tk6<|R.callR C U U U U (casesOfR_c hJ (hvu0.mono hl1) hsh hch) fun v2 ro2 hl2 hq2=>?_
    obtain⟨cb2,cn2,cc2,rfl,hcn⟩:=hq2
    have k2:=RO.le_trans hl1 hl2
    by_cases h4:cn2=0
    ·have _:=h1
     refine Rt W A72<|Ri Z b_eql<|FT 42 U (Bv (by rw [beq_iff_eq];omega)) ?_;refine Pf Z<|Zc U (fun _=>?_) (fun h=>nomatch h)
     refine Xu W<|R.callR C U U U U ((hoisted_c _ (he.mono k2))) fun v9 ro9 hl9 hq9=>Ae W<|X.ret0 C Kr U U F5 U (by exact(.tmp U .nil)) fun w9 hs9=>hret _ _ _ (RO.le_trans k2 hl9) ?_ w9 hs9
     exact hq9
    ·have _:=h1
     refine Rt W A72<|Ri Z b_eql<|FF 42 U (Bv (by rw [beq_eq_false_iff_ne];omega)) ?_;refine Pf Z<|Zc U (fun h=>nomatch h) (fun _=>?_)
     refine Xz<|Xu W<|Rq W G66 B66 V Tk6<|Rq W G69 B69 V Tk2<|R.callR C U U U U ((heel_c hJ (heH.mono k2) (hvu0.mono k2) hsh x)) fun v3 ro3 hl3 hq3=>?_
     have k3:=RO.le_trans k2 hl3
     rcases hq3 with⟨hne,rfl⟩|⟨hz,v3,hvo,rfl⟩
     ·
      unfold noBk
      refine Ro W<|Re Z<|Re Z<|Al W K66 U fun p17=>Rs Z B66 Y V Ph6<|Ae W<|Xx W<|Ro W<|Ri Z b_neq<|Zc U (fun hq=>?_) (fun hq=>?_)
      ·refine Xu W<|R.callR C U U U U ((hoisted_c _ (he.mono k3))) fun v9 ro9 hl9 hq9=>Ae W<|X.ret0 C Kr U U F5 U (by exact(.tmp U .nil)) fun w9 hs9=>hret _ _ _ (RO.le_trans k3 hl9) ?_ w9 hs9
       exact hq9
      ·simp at hq;contradiction
     ·
      have hvo0:=hvo
      obtain⟨op,oo,oh,rfl,hop,hoo,hoh,_,_⟩:=hvo
      obtain⟨opb,opc,rfl⟩:=hop.form
      obtain⟨oob,ooc,rfl⟩:=hoo.form
      obtain⟨ohb,ohc,rfl⟩:=hoh.form
      obtain⟨_,hco2,hlaw⟩:=heel_law hz
      have hci:=emod_in (x:=c0) hnu.1
      obtain⟨l,m,e1,e2,nl,nm,hs,al,am,l0,l1,ha0,ha1,haw,hin⟩:=hlaw (c0% (u.ps.length:Int)) hci.1 hci.2
      have hshO:(u.heeled x).short:=⟨hsh.ps,hsh.out,by have:=(good_of hco2).nh;omega⟩
      refine Ro W<|Re Z<|Re Z<|Al W K66 U fun p17=>Rs Z B66 Y V Ph6<|Ae W<|Xx W<|Ro W<|Ri Z b_neq<|Zc U (fun hq=>?_) (fun hq=>?_)
      ·simp at hq
      ·refine Xz<|Xm W W<|R.convInt C U U U A5 A3 (wrap64 O O)<|Rv 3 W A66 U B63<|Rj W G63 V U<|Rt W A63<|Ri Z (b_remP O O)<|Ae W<|Xu W<|Rq W G66 B66 V Tk6<|Ro W<|R.callR C U U U U ((weights_c hJ (heH.mono k3) (hvu0.mono k3) hsh (c0% (u.ps.length:Int)))) fun v4 ro4 hl4 hq4=>?_
       obtain⟨vl,hll,rfl⟩:=hq4
       rw [e1] at hll⊢
       simp only at hll⊢
       have hll0:=hll
       obtain⟨lb,lc,rfl⟩:=hll.form
       have k4:=RO.le_trans k3 hl4
       refine Ro W<|Re Z<|Re Z<|Rg Y<|Ae W<|Xu W<|Rq W G66 B66 V Tk6<|Ro W<|R.callR C U U U U ((weights_c hJ (heH.mono k4) (hvo0.mono hl4) hshO (c0% (u.ps.length:Int)))) fun v5 ro5 hl5 hq5=>?_
       obtain⟨vm,hmm,rfl⟩:=hq5
       rw [e2] at hmm⊢
       simp only at hmm⊢
       have hmm0:=hmm
       obtain⟨mb,mc,rfl⟩:=hmm.form
       have k5:=RO.le_trans k4 hl5
       refine Ro W<|Re Z<|Re Z<|Rg Y<|Ae W<|Xv<|Xf fun hok=>Dt 0 Y<|Dj 1 Y5 b_eql<|D.fixv (t:=73) (v':= .bool true) U (by rfl)<|Dt 2 Y<|Dt 3 Y<|Dj 4 Y5 b_eql<|D.fixv (t:=76) (v':= .bool true) U (by rfl)<|Dp 5 hok (fun _ _ _ A h=>R.pickT C U (A.w U U) (A.x U U) (A.x U U) h)<|Dt 6 Y<|D5 C 7 hok U U G27 B27 V Tk5<|Dt 8 Y<|Dp 9 hok (fun _ _ _ A h=>R.convInt C U (A.w U U) (A.x U U) A5 A3 (wrap64 O O) h)<|Dh 3 10 Y A27 U B24<|Db 11 W G24 V U<|Ds C 12 hok U U A24<|Dj 13 Y5 (b_remP O O)<|Dt 14 Y<|Dt 15 Y<|Dt 16 Y<|Dp 17 hok (fun _ _ _ A h=>R.convInt C U (A.w U U) (A.x U U) A5 A3 (wrap64 O O) h)<|Dh 1 18 Y A27 U B22<|Db 19 W G22 V U<|Ds C 20 hok U U A22<|Dj 21 Y5 (b_remP O O)<|Dt 22 Y<|Dp 23 hok (fun _ _ _ A h=>R.convInt C U (A.w U U) (A.x U U) A5 A3 (wrap64 O O) h)<|Dh 2 24 Y A27 U B23<|Db 25 W G23 V U<|Ds C 26 hok U U A23<|Dj 27 Y5 (b_remP O O)<|Dt 28 Y<|De 29 (some 101) [true,true,true,true] hok (fun _ _ A hk=>?_)
       refine R.callP C U (A.w U U) (A.x U U) (A.s U U) (loadR_c hJ O _) (hk _ _ ⟨(QFs.cons (QF.of U (fun _ _ A h=>R.loadOne C U (A.w U U) (A.x U U) G23 V U h)) (QFs.cons (QF.of U (fun _ _ A h=>R.loadOne C U (A.w U U) (A.x U U) G22 V U h)) (QFs.cons (QF.of U (fun _ _ A h=>R.loadOne C U (A.w U U) (A.x U U) G24 V U h)) (QFs.cons (QF.of U (fun _ _ A h=>R.loadAgg C U (A.w U U) (A.x U U) G27 B27 V Tk5 h)) QFs.nil)))), ?_⟩)
       refine De 30 (some 102) [false,false,false,false] hok (fun _ _ A hk=>?_)
       refine R.callR C U (A.w U U) (A.x U U) (A.s U U) ((weighed2_c (he.mono k5) (hvv.mono k5) h1 (fun e=>h2 (by rw [e];rfl)) (hll0.mono hl5) hmm0 nl nm hs al am haw ⟨ha0,O⟩ hin (emod_in hnp.1) (emod_in hng.1) (emod_in hnc.1) loadOf_bd)) fun v6 ro6 hl6 hq6=>hk _ _ ⟨QFs.nil, ?_⟩
       subst hq6
       have k6:=RO.le_trans k5 hl6
       refine Dp 31 hok (fun _ _ _ A h=>R.pickT C U (A.w U U) (A.x U U) (A.x U U) h)<|D.fixv (t:=103) (v':= .bool true) U (by rfl)<|Dt 32 Y<|De 33 (some 105) [] hok (fun _ _ A hk=>?_)
       refine R.callR C U (A.w U U) (A.x U U) (A.s U U) ((hoisted_c _ (he.mono k6))) fun v9 ro9 hl9 hq9=>hk _ _ ⟨QFs.nil, ?_⟩
       refine Dp 34 hok (fun _ _ _ A h=>R.pickT C U (A.w U U) (A.x U U) (A.x U U) h)<|Da C 35 hok U U<|Dn<|X.ret0 C Kr U U F5 U (by exact(.tmp U .nil)) fun w9 hs9=>hret _ _ _ (RO.le_trans k6 hl9) ?_ w9 hs9
       exact hq9
   ·have _:=h1
    refine Rt W A23<|Ri Z b_eql<|FF 31 U (Bv (by rw [beq_eq_false_iff_ne];omega)) ?_;refine Pf Z<|Ro W<|Rq W G66 B66 V Tk6<|Cp Z (fitR_c hJ (hvu0.mono hl1))<|Rh Y<|FT 36 U (by(rw [Bool.eq_false_iff.2 h3];rfl))<|Pf Z<|Ro W<|Rp W<|Rp W<|Rp W<|Rp W<|Pp Z<|Zc U (fun _=>?_) (fun h=>nomatch h)
    refine Xu W<|R.callR C U U U U ((hoisted_c _ (he.mono hl1))) fun v9 ro9 hl9 hq9=>Ae W<|X.ret0 C Kr U U F5 U (by exact(.tmp U .nil)) fun w9 hs9=>hret _ _ _ (RO.le_trans hl1 hl9) ?_ w9 hs9
    exact hq9
 ·have _:=h1
  refine Xu W<|Bx Z fun p8=>Bx Z fun p9=>Bx Z fun p10=>Ae W<|Xx W<|Rq W G27 B27 V Tk5<|Cp Z (B.fitR_c hJ hvv)<|Rh Y<|FT 26 U (by(rw [beq_eq_false_iff_ne.2 h1];rfl))<|Ro W<|Rp W<|Rp W<|Rp W<|Rp W<|Pp Z<|Ro W<|Rp W<|Rp W<|Rp W<|Pp Z<|Ro W<|Rp W<|Rp W<|Rp W<|Rp W<|Pp Z<|Zc U (fun _=>?_) (fun h=>nomatch h)
  refine Xu W<|R.callR C U U U U ((hoisted_c _ he)) fun v9 ro9 hl9 hq9=>Ae W<|X.ret0 C Kr U U F5 U (by exact(.tmp U .nil)) fun w9 hs9=>hret _ _ _ hl9 ?_ w9 hs9
  exact hq9
end Go.Lg.H
namespace Go.Lg.H
open Go Go.Conc Go.Lg Go.Proofs Go.WideShapes Go.ChangeShapes Go.Lg.B Go.Proofs.Tryz
variable {b0 n:Nat}{cs:List Value}{r:Reach}{v:Value}{p:List MemPlace}
theorem cells63:prog.cellsOf 63=1:=by kernel_rfl
theorem cells64:prog.cellsOf 64=1:=by kernel_rfl
theorem cells66:prog.cellsOf 66=6:=by kernel_rfl
theorem cells67:prog.cellsOf 67=1:=by kernel_rfl
theorem cells69:prog.cellsOf 69=2:=by kernel_rfl
theorem cells174:prog.cellsOf 174=5:=by kernel_rfl
section
variable {H:Type}{enc0:TypeId×Value→H}{W:World}{base:Nat}{sp:Nat→Bool}{held:Bool}
theorem hl_of{z:DataW H×List MemPlace}(h:DataW.trod enc0 prog W base sp held n 69 cs=some z):∃s:Hl,cs=s.cells:=by
 obtain⟨hl,hf⟩:=field_of underlying69 h
 rw [cells69] at hl
 match cs,hl with
 | [a,c],_=>
  have g0:∃n z,DataW.trod enc0 prog W base sp held n 3 (([a,c].drop 0).take (prog.cellsOf 3))=some z:=hf 0 _ rfl
  rw [cells3] at g0
  obtain⟨_,_,h0⟩:=g0
  have g1:∃n z,DataW.trod enc0 prog W base sp held n 67 (([a,c].drop 1).take (prog.cellsOf 67))=some z:=hf 1 _ rfl
  rw [cells67] at g1
  obtain⟨_,_,h1⟩:=g1
  obtain⟨x0,e0,_⟩:=int_of_trod N3 h0
  obtain⟨x1,e1,_⟩:=int_of_trod underlying67 h1
  simp at e0 e1
  subst e0
  subst e1
  exact⟨⟨x0,x1⟩,rfl⟩
theorem zp_of{z:DataW H×List MemPlace}(h:DataW.trod enc0 prog W base sp held n 174 cs=some z):∃s:{z:Zp//LsI (fun b=>W.heap[b]?) z.1 z.2.on∧capOk z.1},cs=zp s.1:=by
 obtain⟨hl,hf⟩:=field_of underlying174 h
 rw [cells174] at hl
 match cs,hl with
 | [a,c,d,e,f],_=>
  have g0:∃n z,DataW.trod enc0 prog W base sp held n 9 (([a,c,d,e,f].drop 0).take (prog.cellsOf 9))=some z:=hf 0 _ rfl
  rw [cells9] at g0
  obtain⟨_,_,h0⟩:=g0
  have g1:∃n z,DataW.trod enc0 prog W base sp held n 3 (([a,c,d,e,f].drop 1).take (prog.cellsOf 3))=some z:=hf 1 _ rfl
  rw [cells3] at g1
  obtain⟨_,_,h1⟩:=g1
  have g2:∃n z,DataW.trod enc0 prog W base sp held n 45 (([a,c,d,e,f].drop 2).take (prog.cellsOf 45))=some z:=hf 2 _ rfl
  rw [cells45] at g2
  obtain⟨_,_,h2⟩:=g2
  have g3:∃n z,DataW.trod enc0 prog W base sp held n 58 (([a,c,d,e,f].drop 4).take (prog.cellsOf 58))=some z:=hf 3 _ rfl
  rw [cells58] at g3
  obtain⟨_,_,h3⟩:=g3
  obtain⟨x0,e0⟩:=str_of h0
  obtain⟨x1,e1,_⟩:=int_of_trod N3 h1
  obtain⟨x2,e2⟩:=rc_of h2
  obtain⟨v3,x3,e3,l3,m3⟩:=ints_of h3
  simp [Rc.cells] at e0 e1 e2 e3
  subst e0
  subst e1
  obtain⟨rfl,rfl⟩:=e2
  subst e3
  exact⟨⟨(f,⟨x0,x1,x2,x3⟩),l3,m3⟩,rfl⟩
theorem hls_of{z:DataW H×List MemPlace}(h:DataW.trod enc0 prog W base sp held n 64 cs=some z):∃v xs,cs= [v]∧Ls Hl.cells 2 (fun b=>W.heap[b]?) v xs:=by
 obtain⟨v,xs,rfl,hl⟩:=ls_of_trod underlying64 cells69 Dd Hl.len (fun _ _ _ h=>hl_of h) h
 exact⟨_,_,rfl,hl⟩
theorem lsp_of{z:DataW H×List MemPlace}(h:DataW.trod enc0 prog W base sp held n 63 cs=some z):∃v L,cs= [v]∧LsP (fun b=>W.heap[b]?) v L∧capOk v:=by
 obtain⟨v,xs,rfl,hl⟩:=ls_of_trod (α:={z:Zp//LsI (fun b=>W.heap[b]?) z.1 z.2.on∧capOk z.1}) (enc:=fun z=>zp z.1) (k:=5) underlying63 cells174 Dd (fun _=>rfl) (fun _ _ _ h=>zp_of h) h
 obtain⟨v',e,hc⟩:=cap_of_trod underlying63 h
 cases e
 refine⟨_,_,rfl,⟨xs.map (·.1),Ls.map (enc':=zp) (·.1) hl (fun _=>rfl),rfl,fun z hz=>?_⟩,hc⟩
 obtain⟨y,_,rfl⟩:=List.mem_map.1 hz
 exact y.2
theorem argHl{d:DataW H}(hv:Value.okWide prog W r b0 69 v)(h:DataW.Trod enc0 prog W base sp held 69 v d p):∃s:Hl,v=s.val:=by
 obtain⟨cs,rfl,_⟩:=okWide_struct underlying69 hv
 obtain⟨n,h⟩:=h
 obtain⟨s,e⟩:=hl_of h
 exact⟨s,by rw [Hl.val, ←e];rfl⟩
theorem argBk{d:DataW H}(hv:Value.okWide prog W r b0 66 v)(h:DataW.Trod enc0 prog W base sp held 66 v d p):∃b,BkV (fun b=>W.heap[b]?) v b:=by
 obtain⟨⟨cs⟩,rfl,_⟩:=okWide_struct underlying66 hv
 obtain⟨n,h⟩:=h
 obtain⟨hl,hf⟩:=field_of (cs:=cs) underlying66 h
 rw [cells66] at hl
 match cs,hl with
 | [a,c,d,e,f,g],_=>
  have g0:∃n z,DataW.trod enc0 prog W base sp held n 3 (([a,c,d,e,f,g].drop 0).take (prog.cellsOf 3))=some z:=hf 0 _ rfl
  rw [cells3] at g0
  obtain⟨_,_,h0⟩:=g0
  have g1:∃n z,DataW.trod enc0 prog W base sp held n 45 (([a,c,d,e,f,g].drop 1).take (prog.cellsOf 45))=some z:=hf 1 _ rfl
  rw [cells45] at g1
  obtain⟨_,_,h1⟩:=g1
  have g2:∃n z,DataW.trod enc0 prog W base sp held n 63 (([a,c,d,e,f,g].drop 3).take (prog.cellsOf 63))=some z:=hf 2 _ rfl
  rw [cells63] at g2
  obtain⟨_,_,h2⟩:=g2
  have g3:∃n z,DataW.trod enc0 prog W base sp held n 58 (([a,c,d,e,f,g].drop 4).take (prog.cellsOf 58))=some z:=hf 3 _ rfl
  rw [cells58] at g3
  obtain⟨_,_,h3⟩:=g3
  have g4:∃n z,DataW.trod enc0 prog W base sp held n 64 (([a,c,d,e,f,g].drop 5).take (prog.cellsOf 64))=some z:=hf 4 _ rfl
  rw [cells64] at g4
  obtain⟨_,_,h4⟩:=g4
  obtain⟨x0,e0,_⟩:=int_of_trod N3 h0
  obtain⟨x1,e1⟩:=rc_of h1
  obtain⟨v2,x2,e2,l2,m2⟩:=lsp_of h2
  obtain⟨v3,x3,e3,l3,m3⟩:=ints_of h3
  obtain⟨v4,x4,e4,l4⟩:=hls_of h4
  simp [Rc.cells] at e0 e1 e2 e3 e4
  subst e0
  obtain⟨rfl,rfl⟩:=e1
  subst e2
  subst e3
  subst e4
  exact⟨⟨x0,x1,x2,x3,x4⟩,_,_,_,rfl,l2,l3,l4,m2,m3⟩
end
end Go.Lg.H
namespace Go.Lg.B
open Go Go.Conc Go.Lg Go.Proofs Go.Proofs.YtfohpddpboaejaaGreatDoor Go.Proofs.Tryz
theorem g_hull:prog.globalNamed "lagan/hull.checks" =some 2:=by kernel_rfl
theorem t_hull:(prog.globals[2]?).map (·.type)=some 305:=by kernel_rfl
theorem c_hull1:prog.cellsOf 189=1:=by kernel_rfl
theorem c_hull:prog.cellsOf 305=4:=by kernel_rfl
theorem env_hull{W:World}{lst:List (String×DataW Unit)}(h:laidMetH prog lst W)(hm:("lagan/hull.checks",Rows.laid_lagan_hull_checks)∈lst):H.Env (fun b=>W.heap[b]?):=by
 obtain⟨g,t,cs,fuel,p,hg,ht,hv,hd⟩:=h.funcs hm
 obtain rfl:=Option.some.inj (g_hull.symm.trans hg)
 obtain rfl:=Option.some.inj (t_hull.symm.trans ht)
 have hd':DataW.trod (funcToken prog) prog W 0 (fun _=>true) true fuel 305 cs.toList=some (.agg [.held [40,108,97,103,97,110,47,104,117,108,108,46,98,111,111,107,41,46,104,117,108,108], .held [40,108,97,103,97,110,47,104,117,108,108,46,98,111,111,107,41,46,112,105,101,99,101,115], .held [40,108,97,103,97,110,47,104,117,108,108,46,98,111,111,107,41,46,111,117,116], .held [40,108,97,103,97,110,47,104,117,108,108,46,98,111,111,107,41,46,104,101,101,108,115]],p):=hd
 obtain⟨xs,m,_,hx,hl,hn,hel⟩:=DataW.trod_array underlying305 hd'
 rw [c_hull] at hl
 obtain⟨v0,v1,v2,v3,hcs⟩:∃v0 v1 v2 v3,cs.toList= [v0,v1,v2,v3]:=by
  match h:cs.toList,hl with
  | [a,b,c,d],_=>exact⟨a,b,c,d,rfl⟩
 obtain⟨x0,x1,x2,x3,rfl⟩:∃x0 x1 x2 x3,xs= [x0,x1,x2,x3]:=by
  match xs,hn with
  | [a,b,c,d],_=>exact⟨a,b,c,d,rfl⟩
 simp only [Prod.mk.injEq,DataW.agg.injEq,List.map_cons,List.map_nil,List.cons.injEq,and_true] at hx
 obtain⟨⟨h0,h1,h2,h3⟩,_⟩:=hx
 have e0:=hel 0 O
 have e1:=hel 1 O
 have e2:=hel 2 O
 have e3:=hel 3 O
 obtain⟨d0,q0⟩:=x0
 obtain⟨d1,q1⟩:=x1
 obtain⟨d2,q2⟩:=x2
 obtain⟨d3,q3⟩:=x3
 simp only at h0 h1 h2 h3
 subst h0
 subst h1
 subst h2
 subst h3
 rw [c_hull1,hcs] at e0 e1 e2 e3
 have f0:=func_of_trod (f0:=365) N189 Kr (show DataW.trod (funcToken prog) prog W 0 (fun _=>true) true m 189 [v0]=some (_,q0) from e0)
 have f1:=func_of_trod (f0:=366) N189 Kr (show DataW.trod (funcToken prog) prog W 0 (fun _=>true) true m 189 [v1]=some (_,q1) from e1)
 have f2:=func_of_trod (f0:=367) N189 Kr (show DataW.trod (funcToken prog) prog W 0 (fun _=>true) true m 189 [v2]=some (_,q2) from e2)
 have f3:=func_of_trod (f0:=368) N189 Kr (show DataW.trod (funcToken prog) prog W 0 (fun _=>true) true m 189 [v3]=some (_,q3) from e3)
 subst f0
 subst f1
 subst f2
 subst f3
 unfold World.var? at hv
 rw [g_hull] at hv
 simp only [Option.bind_some] at hv
 split at hv
 ·rename_i c t fq hc
  cases hv
  refine⟨t,fq, ?_⟩
  show W.heap[2]? =_
  rw [hc, ←hcs]
 ·cases hv
abbrev laid_hull_tackle:List (String×DataW Unit):= [("lagan/hull.checks",Rows.laid_lagan_hull_checks),("lagan/tackle.checks",Rows.laid_lagan_tackle_checks)]
theorem met_hull_tackle(os:Os)(args:Array Value):laidMetH prog laid_hull_tackle ((World.doorLaid prog 89 os).forCall (fun _ _=>0) ⟨#[],args, []⟩).memory:=
 laidMetH_of_parts3 (fuel:=8) (laidMet_of_run' 8 Kr Kr) Kr Kr
end Go.Lg.B
namespace Go.Lg.B
open Go Go.Proofs Go.Proofs.YtfohpddpboaejaaGreatDoor Go.Proofs.Tryz
theorem hulled_k1:(Rows.tackleHulledRow.inPlace==prog.inPlace 5)=true:=by kernel_rfl
theorem hulled_k2:(Rows.tackleHulledRow.unfollowed==prog.unfollowed 5)=true:=by kernel_rfl
theorem hulled_k3:(Rows.tackleHulledRow.recurses==prog.recurses 5)=true:=by kernel_rfl
theorem hulled_k4:(Rows.tackleHulledRow.named==prog.varsNamed 5)=true:=by kernel_rfl
theorem hulled_name:prog.funcNamed "lagan/laganlaw07.TackleHulled" =some 5:=by kernel_rfl
theorem hulled_goes:true=Rows.tackleHulledRow.goesBy prog:=by kernel_rfl
theorem hulled_wf:Rows.tackleHulledRow.wfByText (OpenSpec.ofChange Rows.tackleHulledSpec)=true:=by kernel_rfl
theorem hulled_facts:joinedFacts prog 5 Tryz.f5 Rows.tackleHulledSpec Rows.tackleHulledRow=true:=by
 unfold joinedFacts
 exact(and_mk (and_mk (and_mk (and_mk (and_mk (and_mk (and_mk (and_mk (and_mk (and_mk (and_mk (and_mk (and_mk (and_mk (and_mk (and_mk (and_mk (and_mk (and_mk (and_mk (and_mk (and_mk (and_mk (and_mk (and_mk (and_mk (and_mk (and_mk (and_mk (and_mk (and_mk (by as_aux_lemma=>kernel_rfl)
  k_lo)
  k_mr)
  (by as_aux_lemma=>kernel_rfl))
  (by as_aux_lemma=>kernel_rfl))
  (by as_aux_lemma=>kernel_rfl))
  k_stops)
  (by as_aux_lemma=>kernel_rfl))
  k_knobs)
  hulled_k1)
  hulled_k2)
  hulled_k3)
  hulled_k4)
  (by as_aux_lemma=>kernel_rfl))
  (by as_aux_lemma=>kernel_rfl))
  (by as_aux_lemma=>kernel_rfl))
  (by as_aux_lemma=>kernel_rfl))
  (by as_aux_lemma=>kernel_rfl))
  (by as_aux_lemma=>kernel_rfl))
  (by as_aux_lemma=>kernel_rfl))
  (by as_aux_lemma=>kernel_rfl))
  (by as_aux_lemma=>kernel_rfl))
  (beq_iff_eq.2 k_pk.symm))
  (by as_aux_lemma=>kernel_rfl))
  k_heard)
  k_may)
  (beq_iff_eq.2 k_lift.symm))
  (beq_iff_eq.2 k_make))
  (by as_aux_lemma=>kernel_rfl))
  (by as_aux_lemma=>kernel_rfl))
  (by as_aux_lemma=>kernel_rfl))
  (by as_aux_lemma=>kernel_rfl))
end Go.Lg.B
namespace Go.Proofs.YtfohpddpboaejaaGreatDoor
open Go Go.Conc Go.Lg Go.Lg.B Go.ChangeShapes Go.RowKit Go.WideShapes
theorem hulled_lifted(os:Os)(started:os.Started)(H:Type)(enc:TypeId×Value→H):
  ReturnsInLeavingWide {} Tryz.checked os 5 .any (fun w args=>(Rows.tackleHulledSpec.pre enc Tryz.prog Tryz.f5 [] false w args∧laidMetH Tryz.prog laid_hull_tackle w)∧sizedMet enc Tryz.prog Tryz.f5 (OpenSpec.ofChange Rows.tackleHulledSpec) false w args)
   (Rows.tackleHulledSpec.post enc Tryz.prog Tryz.f5 false true false false):=by
 refine leaving_of_root (C:=Tryz.checked) (tb:=4) (X:=fun w _=>laidMetH Tryz.prog laid_hull_tackle w) (fun _ _ _ hh h=>h.of_heap hh) own0 started Tryz.func5 laid0 (by
   intro t ht
   rw [Tryz.params5] at ht
   have hm:t∈ [27,66,69,5,5,5,5,5]:=ht
   have hall:([27,66,69,5,5,5,5,5].all fun u=>Tryz.prog.readableRec u && decide (u<Tryz.prog.types.size))=true:=by kernel_rfl
   have:=List.all_eq_true.1 hall t hm
   rw [Bool.and_eq_true,decide_eq_true_eq] at this
   exact this) rfl Kr Tryz.underlying4
  (ChangeSpec.witness_shaped (enc:=enc) (C:=Tryz.checked) (os:=os) (X:=fun w _=>laidMetH Tryz.prog laid_hull_tackle w) false (World.doorLaid Tryz.prog 89 os) #[.agg #[.int .i64 0, .slice none 0 0, .slice none 0 0, .slice none 0 0, .slice none 0 0], .agg #[.int .i64 0, .int .i64 0, .int .i64 0, .slice none 0 0, .slice none 0 0, .slice none 0 0], .agg #[.int .i64 0, .int .i64 0], .int .u8 0, .int .u8 0, .int .u8 0, .int .u8 0, .int .u8 0] 8 rfl (door_shaped os _) Kr Kr Kr (met_hull_tackle os _)) ?_
 intro W base args ds gs before hval hW _ _ hL
 obtain⟨p,q,hA,hV,rfl,_,_⟩:=hW
 obtain⟨rfl,rfl⟩:=trodVars_none hV
 have hA:DataW.TrodAll enc Tryz.prog W 0 (fun _=>true) true Tryz.f5.params.toList args.toList ds p:=hA
 have hval:∀ (j:Nat) t v,Tryz.f5.params[j]? =some t→args[j]? =some v→Value.okWide Tryz.prog W .any base t v:=hval
 rw [Tryz.params5] at hA hval
 obtain⟨v1,l1,d1,k1,p1,q1,e1,rfl,rfl,h1,hA⟩:=trodAll_cons hA
 obtain⟨v2,l2,d2,k2,p2,q2,rfl,rfl,rfl,h2,hA⟩:=trodAll_cons hA
 obtain⟨v3,l3,d3,k3,p3,q3,rfl,rfl,rfl,h3,hA⟩:=trodAll_cons hA
 obtain⟨v4,l4,d4,k4,p4,q4,rfl,rfl,rfl,h4,hA⟩:=trodAll_cons hA
 obtain⟨v5,l5,d5,k5,p5,q5,rfl,rfl,rfl,h5,hA⟩:=trodAll_cons hA
 obtain⟨v6,l6,d6,k6,p6,q6,rfl,rfl,rfl,h6,hA⟩:=trodAll_cons hA
 obtain⟨v7,l7,d7,k7,p7,q7,rfl,rfl,rfl,h7,hA⟩:=trodAll_cons hA
 obtain⟨v8,l8,d8,k8,p8,q8,rfl,rfl,rfl,h8,hA⟩:=trodAll_cons hA
 obtain⟨rfl,rfl,rfl⟩:=trodAll_nil hA
 have ea:args= #[v1,v2,v3,v4,v5,v6,v7,v8]:=Array.toList_inj.1 e1
 subst ea
 obtain⟨b,b1⟩:=argBk (hval 0 27 v1 rfl rfl) h1
 obtain⟨ch,b2⟩:=Go.Lg.H.argBk (hval 1 66 v2 rfl rfl) h2
 obtain⟨x,rfl⟩:=Go.Lg.H.argHl (hval 2 69 v3 rfl rfl) h3
 obtain⟨a1,rfl,o1⟩:=argU8 (hval 3 5 v4 rfl rfl) h4
 obtain⟨a2,rfl,o2⟩:=argU8 (hval 4 5 v5 rfl rfl) h5
 obtain⟨a3,rfl,o3⟩:=argU8 (hval 5 5 v6 rfl rfl) h6
 obtain⟨a4,rfl,o4⟩:=argU8 (hval 6 5 v7 rfl rfl) h7
 obtain⟨a5,rfl,o5⟩:=argU8 (hval 7 5 v8 rfl rfl) h8
 exact⟨rfl,Go.Lg.H.hulled_root o1 o2 o3 o4 o5 (env_tackle hL Zi) (env_hull hL Zi) b1 b2⟩
theorem hulled_row:Rows.TackleHulledSaid:=
 OpenClaim.holds_of_wide_leaving 5 Tryz.f5 rfl rfl rfl rfl rfl rfl rfl ⟨rfl,rfl,rfl,rfl,rfl⟩ rfl rfl rfl rfl rfl hulled_name Tryz.func5 hulled_facts
  (of_decide_eq_true Kr) (by unfold Func.isWrapper;first|(rw [if_pos (by decide+kernel)];kernel_rfl)|(rw [if_neg (by decide+kernel)];exact⟨rfl,rfl⟩))
  (fun os started H enc _=>hulled_lifted os started H enc)
theorem hulled_holds:Rows.TackleHulledCardSaid:=
 card_goes .later [.funcs, .funcs] true (true, "7268d481d5cd4890fc3e51dc004ed55463d6f3c1cbd9cf0add1e476a9c0c0c57") false
  hulled_row hulled_wf tackleHulled_row_tie rfl ⟨rfl,rfl⟩ k_main rfl
  (fun f fn hf hfn=>by
   obtain rfl:f=5:=Option.some.inj (hulled_name.symm.trans hf)|>.symm
   obtain rfl:fn=Tryz.f5:=(Option.some.inj (Tryz.func5.symm.trans hfn)).symm
   exact⟨k_looks,fun j t ht=>by
    rw [Tryz.params5] at ht
    have hm:t∈ [27,66,69,5,5,5,5,5]:=by simpa using Array.mem_of_getElem? ht
    have hall:([27,66,69,5,5,5,5,5].all fun u=> !Tryz.prog.wantsStandIn u)=true:=by kernel_rfl
    exact(show Tryz.prog.wantsStandIn t=false by simpa using List.all_eq_true.1 hall t hm)⟩)
  hulled_goes
end Go.Proofs.YtfohpddpboaejaaGreatDoor
