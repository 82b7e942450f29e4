/-
  It is proved that the given function answers true for every input, whatever is scheduled: the statement Winched of the seat. Conditions: none but those of the given statement itself.
-/
import Derived.Test.YtfohpddpboaejaaGreatDoorWinchedA
import Derived.Conc.Holds
set_option maxRecDepth 100000
set_option maxHeartbeats 2000000
set_option linter.all false
namespace Go.Lg.Be
open Go Go.Conc Go.Lg Go.Proofs Go.Lg.B Go.Proofs.Tryz
theorem mem_in{rs:List Rc}{ws:List Int}(h:ws∈spread rs)(hr:∀r∈rs,1≤r.lo∧r.lo≤r.hi∧r.hi≤99∧r.hi-r.lo<3):∀x∈ws,0≤x∧x≤99:=fun x hx=>by
 obtain⟨hl,h⟩:=B.mem_spread.1 h
 obtain⟨i,hi,rfl⟩:=List.mem_iff_getElem.1 hx
 obtain⟨y,h1,h2⟩:=h i rs[i] Zi
 have h3:=hr _ (List.getElem_mem (show i<rs.length by omega))
 rw [List.getElem?_eq_getElem hi] at h1
 cases h1
 omega
variable {main:Bool}{J:Goroutine→Mem→Prop}(hJ:Closed prog main J)
include hJ
theorem casesOfR_c{b:Bk}{v:Value}{ro:RO}(hv:BkV ro v b)(hb:b.good):CallR prog J (fnv 29) [v] ro (fun w _=>∃ (base:Option Addr) (n cap:Nat),w= .slice base n cap∧n≤1000):=by
 have hv0:=hv
 obtain⟨mb,mc,sb,sc,kb,kc,rfl,hp,hmc⟩:=hv.all
 have hleak:=hb.leak
 have hnp:=hb.nm
 obtain⟨rs,hrs⟩:∃rs,rs=b.ms.map Mn.r:=⟨_,rfl⟩
 have hn:rs.length=b.ms.length:=by rw [hrs,List.length_map]
 have hr:∀r∈rs,1≤r.lo∧r.lo≤r.hi∧r.hi≤99∧r.hi-r.lo<3:=fun r h=>by
  rw [hrs] at h
  obtain⟨p,hp1,rfl⟩:=List.mem_map.1 h
  exact hb.ms p hp1
 refine ER 87 hJ func29 W fun c cs tail hret C=>Xu W<|Bx Z fun p1=>Ae W<|Xu W<|R.buildSlice C (vs:=_) U U (show pvals _ _=some (numbered 0 [_]) from rfl) U A23 B58 K58 Dd (Cat.one U U) fun p12=>Ae W<|Xx W<|Ae W<|Xb<|X.finish C.1 (enc:=fun z:Value×List Int=> [z.1]) (kk:=1) (e:=58) (xs:= [(.slice none 0 0, [])]) (fun _=>rfl) Dd (Buf.blk (cells:= [.slice none 0 0]) (spare:= []) (len:=1) (cap:=1) U U (Nat.le_refl _)) fun ro0 hl0 hls0=>X.loopI (ι:=Nat×RO×Value) C.1 (fun s=>s.1≤rs.length∧ro0.le s.2.1∧LsG s.2.1 s.2.2 (spread (rs.take s.1))) (fun s=> [(1, .pointer (some ⟨p1,0,none⟩)),(3,s.2.2),(4, .int .i64 (s.1:Int))])
  (fun s=>⟨s.2.1,(p1, .cells (bs b mb mc sb sc kb kc []).toArray 81 (0,0))::tail⟩) (fun s=>rs.length-s.1) (0,ro0, .slice (some ⟨p12,0,none⟩) 1 1) ⟨Nat.zero_le _,RO.le_refl _,_,hls0,rfl,fun z hz=>by simp at hz;subst hz;exact⟨Ls.nil,_,_,_,rfl,Nat.le_refl _⟩⟩ rfl ⟨U,U,U,trivial⟩ fun s hs1 hnext=>?_
 obtain⟨i,ro1,v1⟩:=s
 obtain⟨hi,hle1,hg1⟩:=hs1
 simp only at hi hle1 hg1 hnext⊢
 refine Xx W<|Ro W<|Rv 12 W A81 U B78<|Rj W G78 V U<|Rt W A78<|Ri Z b_lss<|Zj U (fun hlt=>?_) (fun hlt=>?_)
 ·have hi':i<rs.length:=O
  have hstep:=grow_to rs hi'
  have hri:=hr _ (List.getElem_mem hi')
  have hallx:∀x∈spread (rs.take i),x.length=i:=fun x hx=>by rw [spread_len x hx,List.length_take];omega
  have hal:(spread (rs.take i)).length≤27:=by
   have h1:=spread_le (rs:=rs.take i) fun r h=>(hr r (List.mem_of_mem_take h)).2.2.2
   have h2:3^ (rs.take i).length≤3^3:=Nat.pow_le_pow_right Dd (by rw [List.length_take];omega)
   omega
  obtain⟨rp,rof,rcap,rl,rt,rfq,hsl,hrro,hrsub⟩:=(hp.1.mono (RO.le_trans hl0 hle1)).at Mn.len O
  cases hsl
  have hsi:=hrsub i O
  have hre:b.ms[i].r=rs[i]:=by simp [hrs]
  have hlo:rl[rof+i*3+1]? =some (.int .i64 rs[i].lo):=by rw [←hre];exact hsi.get 1 Dd
  have hhi:rl[rof+i*3+2]? =some (.int .i64 rs[i].hi):=by rw [←hre];exact hsi.get 2 Dd
  clear hre hsi hrsub
  generalize rs[i]=r at hstep hri hlo hhi
  generalize spread (rs.take i)=all at hg1 hstep hallx hal
  obtain⟨ab,ac,rfl⟩:=hg1.form
  refine Xz<|Xv<|Xb<|Xo W W<|Xx W<|Ae W<|Xb<|X.loopI (ι:=Nat×RO×Value×List (Value×List Int)×List (Nat×Obj)) C.1 (fun s=>s.1≤all.length∧ro1.le s.2.1∧Buf 58 1 [] s.2.2.1 (s.2.2.2.1.flatMap fun z=> [z.1]) s.2.2.2.2∧s.2.2.2.1.map (·.2)=grow (all.take s.1) r∧∀z∈s.2.2.2.1,LsI s.2.1 z.1 z.2∧capOk z.1) (fun s=> [(1, .pointer (some ⟨p1,0,none⟩)),(3, .slice ab all.length ac),(4, .int .i64 (i:Int)),(5,s.2.2.1),(6, .int .i64 (s.1:Int))])
   (fun s=>⟨s.2.1,s.2.2.2.2++((p1, .cells (bs b (some ⟨rp,rof,none⟩) mc sb sc kb kc []).toArray 81 (0,0))::tail)⟩) (fun s=>all.length-s.1) (0,ro1, .slice none 0 0, [], []) ⟨Nat.zero_le _,RO.le_refl _, .nil,by simp [grow],fun _ h=>nomatch h⟩ rfl ⟨U,U,U,U,U,trivial⟩ fun s hs2 hnext2=>?_
  obtain⟨k,ro2,v2,zs2,own2⟩:=s
  obtain⟨hk,hle2,hb2,hzs2,hls2⟩:=hs2
  simp only at hk hle2 hb2 hzs2 hls2 hnext2⊢
  refine Xx W<|Oo W W<|Rt W A23<|Ri Z b_lss<|Zj U (fun hlt2=>?_) (fun hlt2=>?_)
  ·have hk':k<all.length:=O
   obtain⟨ap,ao,acap,al,aty,afq,hasl,haro,hasub⟩:=hg1.at O
   cases hasl
   obtain⟨qb,qc,hqat,hqc,hqls⟩:=hasub k hk'
   have hgt:=grow_take all r hk'
   have hgl:=B.grow_le (all.take k) hri.2.2.2
   rw [List.length_take] at hgl
   have hxl:=hallx _ (List.getElem_mem hk')
   generalize all[k]=x at hqat hqc hqls hgt hxl
   have hrro2:=hle2 _ _ hrro
   have hrl:∃c:Nat,c=(r.hi+1-r.lo).toNat:=⟨_,rfl⟩
   obtain⟨c,hc⟩:=hrl
   have hnums:r.nums=B.rz r.lo c:=by rw [hc];rfl
   refine Xz<|Xv<|Xb<|Xu W<|Rv 12 W A81 U B78<|R.loadOne C U U U G78 Vm U<|Ro W<|Ry Y A78 B198<|R.fieldAddr C U U U A198 U B45 U<|R.fieldAddr C U U U A45 U B3 U<|Lo Y G3 hrro2 hlo<|Ae W<|Xb<|X.loopI (ι:=Nat×RO×Value×List (Value×List Int)×List (Nat×Obj)) C.1 (fun s=>s.1≤c∧ro2.le s.2.1∧Buf 58 1 [] s.2.2.1 (s.2.2.2.1.flatMap fun z=> [z.1]) s.2.2.2.2∧s.2.2.2.1.map (·.2)=grow (all.take k) r++(B.rz r.lo s.1).map (fun n=>x++ [n])∧∀z∈s.2.2.2.1,LsI s.2.1 z.1 z.2∧capOk z.1) (fun s=> [(1, .pointer (some ⟨p1,0,none⟩)),(3, .slice (some ⟨ap,ao,none⟩) all.length ac),(4, .int .i64 (i:Int)),(5,s.2.2.1),(6, .int .i64 (k:Int)),(7, .int .i64 (r.lo+(s.1:Int)))])
    (fun s=>⟨s.2.1,s.2.2.2.2++((p1, .cells (bs b (some ⟨rp,rof,none⟩) mc sb sc kb kc []).toArray 81 (0,0))::tail)⟩) (fun s=>c-s.1) (0,ro2,v2,zs2,own2) ⟨Nat.zero_le _,RO.le_refl _,hb2,by simp [hzs2,B.rz],hls2⟩ rfl ⟨rfl,rfl,rfl,rfl,rfl,by simp [look],trivial⟩ fun s hs3 hnext3=>?_
   obtain⟨j,ro3,v3,zs3,own3⟩:=s
   obtain⟨hj,hle3,hb3,hzs3,hls3⟩:=hs3
   simp only at hj hle3 hb3 hzs3 hls3 hnext3⊢
   have hlen3:=congrArg List.length hzs3
   rw [List.length_map,List.length_append,List.length_map,rz_len] at hlen3
   have hff3:(zs3.flatMap fun z:Value×List Int=> [z.1]).length=zs3.length:=by rw [flatMap_len (k:=1) (fun _=>rfl),Nat.mul_one]
   have hrro3:=hle3 _ _ hrro2
   have haro3:=hle3 _ _ (hle2 _ _ haro)
   have hqls3:=hqls.mono (RO.le_trans hle2 hle3)
   refine Xx W<|Ro W<|Rv 12 W A81 U B78<|R.loadOne C U U U G78 Vm U<|Ro W<|Ry Y A78 B198<|R.fieldAddr C U U U A198 U B45 U<|R.fieldAddr C U U U A45 U B3 U<|Lo Y G3 hrro3 hhi<|Ri Z b_leq<|Zj U (fun hlt3=>?_) (fun hlt3=>?_)
   ·have hfl:=flat_len x
    refine Xz<|Xv<|Xb<|Xg W<|Ro W<|R.buildSlice C (vs:=_) U U (show pvals _ _=some (numbered 0 []) from rfl) U A58 B3 K3 Dd (.nil) fun p45=>Oo W W<|Ry Y A23 B58<|Lo Y G58 haro3 hqat<|R.append (kk:=1) C U U U U A58 A58 (fun _=>nofun) (show prog.info? 3=some Tryz.t3 by kernel_rfl) U U U Dd Dd (Buf.blk (cells:= []) (spare:= []) (len:=0) (cap:=0) U U (Nat.le_refl _)) (hqls3.rd ic_len) (ones_ic x) (by simp only [List.length_nil];omega) fun v' own' hb'=>Ro W<|R.buildSlice C (vs:=_) U U (show pvals _ _=some (numbered 0 [_]) from rfl) U A58 B3 K3 Dd (Cat.one U U) fun p52=>R.append1 (kk:=1) C U U U U A58 A58 (fun _=>nofun) (show prog.info? 3=some Tryz.t3 by kernel_rfl) U U U Dd Dd hb' U U (by simp only [List.length_append,List.length_cons,List.length_nil];omega) fun v' own' hb'=>?_
    have e3:([]++x.flatMap ic)++ [Value.int .i64 (r.lo+(j:Int))]=(x++ [r.lo+(j:Int)]).flatMap ic:=by simp [List.flatMap_append,ic]
    rw [e3] at hb'
    have hco:=hb'.capOk
    refine R.finish C.1 ic_len Dd hb' fun ro4 hl4 hls4=>?_
    obtain⟨b4,c4,rfl⟩:=hls4.form
    refine R.buildSlice C (vs:=_) U U (show pvals _ _=some (numbered 0 [_]) from rfl) U A23 B58 K58 Dd (Cat.one U U) fun p54=>R.append1 (kk:=1) C U U U U A23 A23 (fun _=>nofun) (show prog.info? 58=some Tryz.t58 by kernel_rfl) U U U Dd Dd (hb3.app _) U U (by simp only [List.length_append,List.length_cons,List.length_nil];omega) fun v' own' hb'=>Ae W<|Xi<|Xg W<|Ro W<|Rb Y<|Ae W ?_
    obtain⟨own4,rfl,hb4⟩:=hb'.unapp
    refine X.weaken ?_ (hnext3 (j+1,ro4,_,zs3++ [(.slice b4 (x++ [r.lo+(j:Int)]).length c4,x++ [r.lo+(j:Int)])],_) ⟨O,RO.le_trans hle3 hl4,by simpa [List.flatMap_append] using hb4, ?_,fun z hz=>?_⟩ (by simp only;omega))
    ·exact⟨rfl,rfl,rfl,rfl,rfl,by simp only [look];congr 2;omega,trivial⟩
    ·rw [List.map_append,hzs3,rz_to,List.map_append,List.append_assoc];rfl
    ·rcases List.mem_append.1 hz with hz|hz
     ·exact⟨(hls3 z hz).1.mono hl4,(hls3 z hz).2⟩
     ·rw [List.mem_singleton.1 hz];exact⟨hls4,hco⟩
   ·obtain rfl:j=c:=by omega
    rw [←hnums, ←hgt] at hzs3
    refine Xe U<|Xi<|Xg W<|Ro W<|Rb Y<|Ae W<|X.weaken ?_ (hnext2 (k+1,ro3,v3,zs3,own3) ⟨hk',RO.le_trans hle2 hle3,hb3,hzs3,hls3⟩ (by simp only;omega))
    exact⟨rfl,rfl,rfl,rfl,by simp [look],trivial⟩
  ·obtain rfl:k=all.length:=by omega
   rw [List.take_length, ←hstep] at hzs2
   refine Xe U<|Xg W ?_
   have hls2':=hls2
   refine R.finish C.1 (enc:=fun z:Value×List Int=> [z.1]) (fun _=>rfl) Dd (hb2.app _) fun ro3 hl3 hls3=>Ro W<|Ae W<|Xi<|Xg W<|Ro W<|Rb Y<|Ae W<|X.weaken ?_ (hnext (i+1,ro3,v2) ⟨hi',RO.le_trans hle1 (RO.le_trans hle2 hl3),zs2,hls3,hzs2,fun z hz=>⟨(hls2 z hz).1.mono hl3,(hls2 z hz).2⟩⟩ (by simp only;omega))
   exact⟨rfl,rfl,by simp [look],trivial⟩
 ·obtain rfl:i=rs.length:=by omega
  rw [List.take_length] at hg1
  obtain⟨ab,ac,rfl⟩:=hg1.form
  have hal:(spread rs).length≤27:=by
   have h1:=spread_le (rs:=rs) fun r h=>(hr r h).2.2.2
   have h2:3^rs.length≤3^3:=Nat.pow_le_pow_right Dd O
   omega
  have hallx:∀x∈spread rs,x.length=b.ms.length∧∀z∈x,0≤z∧z≤99:=fun x hx=>⟨by rw [spread_len x hx,hn],mem_in hx hr⟩
  generalize spread rs=all at hg1 hallx hal
  have hrl:∃c:Nat,c=(b.leak.hi+1-b.leak.lo).toNat:=⟨_,rfl⟩
  obtain⟨c,hc⟩:=hrl
  refine Xe U<|Xo W W<|Xx W<|Rv 8 W A81 U B45<|Rv 8 W A45 U B3<|R.loadOne C U U U G3 Vm U<|Ae W<|Xb<|X.loopI (ι:=Nat×RO×Value×List Value×List (Nat×Obj)) C.1 (fun s=>s.1≤c∧ro1.le s.2.1∧Buf 200 2 [] s.2.2.1 s.2.2.2.1 s.2.2.2.2∧s.2.2.2.1.length≤54*s.1) (fun s=> [(1, .pointer (some ⟨p1,0,none⟩)),(3, .slice ab all.length ac),(8,s.2.2.1),(9, .int .i64 (b.leak.lo+(s.1:Int)))])
   (fun s=>⟨s.2.1,s.2.2.2.2++((p1, .cells (bs b mb mc sb sc kb kc []).toArray 81 (0,0))::tail)⟩) (fun s=>c-s.1) (0,ro1, .slice none 0 0, [], []) ⟨Nat.zero_le _,RO.le_refl _, .nil,Nat.le_refl _⟩ rfl ⟨rfl,rfl,rfl,by simp [look],trivial⟩ fun s hs2 hnext2=>?_
  obtain⟨j,ro2,v2,zs2,own2⟩:=s
  obtain⟨hj,hle2,hb2,hzs2⟩:=hs2
  simp only at hj hle2 hb2 hzs2 hnext2⊢
  refine Xx W<|Ro W<|Rv 8 W A81 U B45<|Rv 9 W A45 U B3<|R.loadOne C U U U G3 Vm U<|Ri Z b_leq<|Zj U (fun hlt2=>?_) (fun hlt2=>?_)
  ·refine Xz<|Xv<|Xb<|Xo W W<|Xb<|X.loopI (ι:=Nat×RO×Value×List Value×List (Nat×Obj)) C.1 (fun s=>s.1≤all.length∧ro2.le s.2.1∧Buf 200 2 [] s.2.2.1 s.2.2.2.1 s.2.2.2.2∧s.2.2.2.1.length≤54*j+2*s.1) (fun s=> [(1, .pointer (some ⟨p1,0,none⟩)),(3, .slice ab all.length ac),(8,s.2.2.1),(9, .int .i64 (b.leak.lo+(j:Int))),(10, .int .i64 (s.1:Int))])
    (fun s=>⟨s.2.1,s.2.2.2.2++((p1, .cells (bs b mb mc sb sc kb kc []).toArray 81 (0,0))::tail)⟩) (fun s=>all.length-s.1) (0,ro2,v2,zs2,own2) ⟨Nat.zero_le _,RO.le_refl _,hb2,hzs2⟩ rfl ⟨U,U,U,U,U,trivial⟩ fun s hs3 hnext3=>?_
   obtain⟨k,ro3,v3,zs3,own3⟩:=s
   obtain⟨hk,hle3,hb3,hzs3⟩:=hs3
   simp only at hk hle3 hb3 hzs3 hnext3⊢
   refine Xx W<|Oo W W<|Rt W A23<|Ri Z b_lss<|Zj U (fun hlt3=>?_) (fun hlt3=>?_)
   ·have hk':k<all.length:=O
    have k3:=RO.le_trans hle2 hle3
    obtain⟨ap,ao,acap,al,aty,afq,hasl,haro,hasub⟩:=(hg1.mono k3).at O
    cases hasl
    obtain⟨qb,qc,hqat,hqc,hqls⟩:=hasub k hk'
    obtain⟨hxl,hxb⟩:=hallx _ (List.getElem_mem hk')
    generalize all[k]=x at hqat hqc hqls hxl hxb
    have hvk:=hv0.mono (RO.le_trans hl0 (RO.le_trans hle1 k3))
    refine Xz<|Xv<|Xb<|Xm W W<|Oo W W<|Ry Y A23 B58<|Lo Y G58 haro hqat ?_;refine R.build C U U U zeroValue200 U A200 Kr (Fills.part U U B3 U (.here .nil) (Fills.part U U B58 U (.skip (.here .nil)) .nil))<|Al W zeroValue200 U fun p11=>Rs Z B200 Y (by repeat (first|exact Uh|apply Ut|apply Upd.app)) Ph2<|Rz<|Xu W<|R.loadAgg C U U U G81 B81 Vm (.take (.take (.take (.take (.take (.take (.take (.take (.take Tk6)))))))))<|R.loadAgg C U U U isAgg200 B200 Vm Tk2<|R.callR C U U U U (caseR_c hJ hvk hb hqls hxl (n:=b.leak.lo+(j:Int)) O hxb) fun v4 ro4 hl4 hq4=>?_
    obtain⟨z,rfl⟩:=hq4
    refine Zc U (fun hz=>?_) (fun hz=>?_)
    ·refine Xg W<|Ro W<|R.loadAgg C U U U isAgg200 B200 Vm Tk2<|R.buildSlice C (vs:=_) U U (show pvals _ _=some (numbered 0 [_]) from rfl) U A84 B200 zeroValue200 Dd (Cat.one U U) fun p84=>R.append2 (kk:=2) C [_] U U U U A84 A84 (fun _=>nofun) (show prog.info? 200=some Tryz.t200 by kernel_rfl) U U U Dd Dd (hb3.app _) U U (by(try simp only [List.length_append,List.length_cons,List.length_nil]);omega) fun v' own' hb'=>Ae W<|Xi<|Xg W<|Ro W<|Rb Y<|Ae W ?_
     obtain⟨own4,rfl,hb4⟩:=hb'.unapp
     refine X.drop C.1 (own':=own4++_) (List.sublist_cons_self _ _)<|X.weaken ?_ (hnext3 (k+1,ro4,_,_,own4) ⟨hk',RO.le_trans hle3 hl4,hb4,by simp only [List.length_append,List.length_cons,List.length_nil];omega⟩ (by simp only;omega))
     exact⟨rfl,rfl,rfl,rfl,by simp [look],trivial⟩
    ·refine Xz<|Xi<|Xg W<|Ro W<|Rb Y<|Ae W<|X.drop C.1 (own':=own3++_) (List.sublist_cons_self _ _)<|X.weaken ?_ (hnext3 (k+1,ro4,_,_,own3) ⟨hk',RO.le_trans hle3 hl4,hb3,by simp only;omega⟩ (by simp only;omega))
     exact⟨rfl,rfl,rfl,rfl,by simp [look],trivial⟩
   ·obtain rfl:k=all.length:=by omega
    refine Xe U<|Xi<|Xg W<|Ro W<|Rb Y<|Ae W<|X.weaken ?_ (hnext2 (j+1,ro3,v3,zs3,own3) ⟨O,RO.le_trans hle2 hle3,hb3,by simp only;omega⟩ (by simp only;omega))
    exact⟨rfl,rfl,rfl,by simp only [look];congr 2;omega,trivial⟩
  ·obtain rfl:j=c:=by omega
   obtain⟨fb,fc,rfl⟩:=hb2.form Dd
   refine Xe U<|Xm W W<|Ae W<|Xw func29<|hret _ _ _ (RO.le_trans hl0 (RO.le_trans hle1 hle2)) (by repeat (first|exact List.Sublist.refl _|apply List.Sublist.cons|apply List.sublist_append_of_sublist_right)) ?_
   exact⟨_,_,_,rfl,O⟩
end Go.Lg.Be
namespace Go.Lg.Be
open Go Go.Conc Go.Lg Go.Proofs Go.Lg.B Go.Proofs.Tryz
theorem emod_in{x:Int}{n:Nat}(h:1≤n):0≤x% (n:Int)∧x% (n:Int)<n:=⟨Int.emod_nonneg _ O,Int.emod_lt_of_pos _ O⟩
theorem winched_root{b:B.Bk}{u:Bk}{vb vu vl:Value}{l:List Int}{x:Rc}{g0 n0:Int}(hg0:0≤g0∧g0≤255)(hn0:0≤n0∧n0≤255){ro:RO}(he:B.Env ro)(heS:Env ro)(hv:B.BkV ro vb b)(hvu:BkV ro vu u)(hl:LsI ro vl l):
  Root prog 6 [vb,vu,vl, .agg [.int .i64 x.lo, .int .i64 x.hi].toArray, .int .u8 g0, .int .u8 n0] ro (fun w _=>w= .bool true):=by
 intro Post hret
 have hJ:Closed prog true (JM prog (Go.Conc.Good prog Post)):=JM.closed
 obtain⟨vp,vg,vc,vt,rfl,hp,hg,hc,ht⟩:=hv
 obtain⟨pb,pc,rfl⟩:=hp.form
 obtain⟨gb,gc,rfl⟩:=hg.form
 obtain⟨cb,cc,rfl⟩:=hc.form
 obtain⟨tb,tc,rfl⟩:=ht.form
 have hvv:B.BkV ro (.agg [.int .i64 b.w, .slice pb b.ps.length pc, .slice gb b.gs.length gc, .slice cb b.cs.length cc, .slice none 0 0].toArray) b.noTests:=⟨_,_,_,_,rfl,hp,hg,hc, .nil⟩
 have hvu0:=hvu
 obtain⟨mb,mc,sb,sc,kb,kc,rfl,hup,hmc⟩:=hvu.all
 have hl0:=hl
 obtain⟨lb,lc,rfl⟩:=hl.form
 let main:=true
 let J:=JM prog (Go.Conc.Good prog Post)
 refine enter_X (n:=131) F6 U U (Nl U) ?_
 have C:Ctx prog main J (bf 6 .normal):=⟨hJ,by decide⟩
 by_cases h1:B.checkBook b.noTests=0
 ·by_cases h2:fit u=true
  ·by_cases hll:l.length≤20
   ·by_cases hpl:u.planH l=0
    ·obtain⟨hgu,hchR⟩:=fit_true h2
     have hsh:=short_of hgu
     have hubR:=good_of hchR
     have hb:=B.good_of h1
     have hng:1≤b.gs.length∧b.gs.length≤3:=hb.ng
     refine Xu W<|Bx Z fun p6=>Bx Z fun p7=>Bx Z fun p9=>Ae W<|Xu W<|Rv 4 W A27 U B25<|Rs Z B25 Y V (.skip (.skip (.skip (.skip (.here .nil)))))<|Rz<|Xx W<|Rq W G27 B27 V Tk5<|Cp Z (B.fitR_c hJ hvv)<|Rh Y<|FF 26 U (by(rw [h1];rfl))<|Ro W<|R.loadAgg C U U U G81 B81 V (.take (.take (.take (.take (.take (.take (.take (.take (.take Tk6)))))))))<|Cp Z (fitR_c hJ hvu0)<|Rh Y<|FF 30 U (by(rw [h2];rfl))<|Pf Z<|Oo W W<|Rt W A58<|Ri Z b_gtr<|FF 35 U (by(exact congrArg Value.bool Zo))<|Pf Z<|Ro W<|R.loadAgg C U U U G81 B81 V (.take (.take (.take (.take (.take (.take (.take (.take (.take Tk6)))))))))<|Ro W<|Cp Z (planR_c hJ hvu0 hl0 O)<|Ri Z b_neq<|FF 41 U (by(rw [hpl];rfl))<|Pf Z<|Ro W<|R.loadAgg C U U U G81 B81 V (.take (.take (.take (.take (.take (.take (.take (.take (.take Tk6)))))))))<|R.callR C U U U U (casesOfR_c hJ hvu0 hubR) fun v2 ro2 hl2 hq2=>?_
     obtain⟨cb2,cn2,cc2,rfl,hcn⟩:=hq2
     by_cases h4:cn2=0
     ·have _:=h1
      refine Rt W A84<|Ri Z b_eql<|FT 47 U (Bv (by rw [beq_iff_eq];omega)) ?_;refine Pf Z<|Zc U (fun _=>?_) (fun h=>nomatch h)
      refine Xu W<|R.callR C U U U U ((hoisted_c _ (he.mono hl2))) fun v9 ro9 hl9 hq9=>Ae W<|X.ret0 C Kr U U F6 U (by exact(.tmp U .nil)) fun w9 hs9=>hret _ _ _ (RO.le_trans hl2 hl9) ?_ w9 hs9
      exact hq9
     ·have _:=h1
      refine Rt W A84<|Ri Z b_eql<|FF 47 U (Bv (by rw [beq_eq_false_iff_ne];omega)) ?_;refine Pf Z<|Zc U (fun h=>nomatch h) (fun _=>?_)
      refine Xz<|Xu W<|R.loadAgg C U U U G81 B81 V (.take (.take (.take (.take (.take (.take (.take (.take (.take Tk6)))))))))<|Rq W G45 B45 V Tk2<|R.callR C U U U U ((caulk_c hJ (heS.mono hl2) (hvu0.mono hl2) hsh x)) fun v3 ro3 hl3 hq3=>?_
      have k3:=RO.le_trans hl2 hl3
      rcases hq3 with⟨hne,rfl⟩|⟨hz,v3,hvo,rfl⟩
      ·
       unfold noBk
       refine Ro W<|Re Z<|Re Z<|Al W K81 U fun p13=>Rs Z B81 Y V (.here (.here (.here (.here (.here (.here (.here (.here Ph7))))))))<|Ae W<|Xx W<|Ro W<|Ri Z b_neq<|Zc U (fun hq=>?_) (fun hq=>?_)
       ·refine Xu W<|R.callR C U U U U ((hoisted_c _ (he.mono k3))) fun v9 ro9 hl9 hq9=>Ae W<|X.ret0 C Kr U U F6 U (by exact(.tmp U .nil)) fun w9 hs9=>hret _ _ _ (RO.le_trans k3 hl9) ?_ w9 hs9
        exact hq9
       ·simp at hq;contradiction
      ·
       have hvo0:=hvo
       obtain⟨mb2,mc2,sb2,sc2,kb2,kc2,rfl,hop,_⟩:=hvo.all
       obtain⟨ho1,ho2,hch1,hch2⟩:=caulk_law hz hpl
       have hshO:(u.caulked x).short:=⟨hsh.ms,hsh.sent,hsh.ks⟩
       refine Ro W<|Re Z<|Re Z<|Al W K81 U fun p13=>Rs Z B81 Y V (.here (.here (.here (.here (.here (.here (.here (.here Ph7))))))))<|Ae W<|Xx W<|Ro W<|Ri Z b_neq<|Zc U (fun hq=>?_) (fun hq=>?_)
       ·simp at hq
       ·refine Xz<|Xu W<|R.loadAgg C U U U G81 B81 V (.take (.take (.take (.take (.take (.take (.take (.take (.take Tk6)))))))))<|Ro W<|R.callR C U U U U ((crew_c hJ (heS.mono k3) (hvu0.mono k3) hsh (hl0.mono k3) O)) fun v4 ro4 hl4 hq4=>?_
        obtain⟨bA,mA,cA,fA,rfl,hA⟩:=hq4
        obtain⟨hA,hA3⟩:=hA ho1
        rw [ho1]
        have k4:=RO.le_trans k3 hl4
        refine Ro W<|Re Z<|Re Z<|Re Z<|Rg Y<|Rg Y<|Ae W<|Xu W<|R.loadAgg C U U U G81 B81 V (.take (.take (.take (.take (.take (.take (.take (.take (.take Tk6)))))))))<|Ro W<|R.callR C U U U U ((crew_c hJ (heS.mono k4) (hvo0.mono hl4) hshO (hl0.mono k4) O)) fun v5 ro5 hl5 hq5=>?_
        obtain⟨bZ,mZ,cZ,fZ,rfl,hZ⟩:=hq5
        obtain⟨hZ,hZ3⟩:=hZ ho2
        rw [ho2]
        have k5:=RO.le_trans k4 hl5
        have hlaw:=crew_law hA hZ
        by_cases hfA:fA=true
        ·obtain⟨hfZ,hmm⟩:=hlaw hfA
         subst hfA
         subst hfZ
         refine Ro W<|Re Z<|Re Z<|Re Z<|Rg Y<|Rg Y<|Ae W<|Xx W<|Ro W<|Ri Z b_neq<|FF 74 U (by rfl)<|Oo W W<|Ri Z b_neq<|FF 77 U (by rfl)<|Pf Z<|Oo W W<|Ro W<|FT 81 U (by rfl)<|Ro W<|Rh Y<|FF 83 U (by rfl)<|Oo W W<|Rt W A58<|Ro W<|Rt W A58<|Ri Z b_lss<|FF 89 U (by(exact congrArg Value.bool Zo))<|Pf Z<|Pp Z<|Pf Z<|Oo W W<|Rt W A58<|Ri Z b_gtr<|FF 96 U (by(exact congrArg Value.bool Zo))<|Pf Z ?_;refine Oo W W<|Rt W A58<|Ri Z b_gtr<|FF 101 U (by(exact congrArg Value.bool Zo))<|Pf Z<|Zc U (fun h=>nomatch h) (fun _=>?_)
         refine Xz<|Xv<|X.drop C.1 (own':=(p6, .cells [.int .i64 b.w, .slice pb b.ps.length pc, .slice gb b.gs.length gc, .slice cb b.cs.length cc, .slice none 0 0].toArray 27 (0,0)):: []) (.cons _ (.cons _ (.cons _ (.cons₂ _ .slnil))))<|X.afterI (ι:=Nat×Nat) (fun _=>True) (fun s=> [(21, .pointer (some ⟨s.1,0,none⟩)),(22, .pointer (some ⟨s.2,0,none⟩)),(6, .pointer (some ⟨p6,0,none⟩)),(4, .int .u8 g0),(5, .int .u8 n0),(15, .slice bA mA cA),(16, .bool true),(18, .slice bZ mZ cZ)])
          (fun s=>⟨ro5,(s.2, .cells [.int .i64 b.w, .slice pb b.ps.length pc, .slice gb b.gs.length gc, .slice cb b.cs.length cc, .slice none 0 0].toArray 27 (0,0))::(s.1, .cells [.int .i64 b.w, .slice pb b.ps.length pc, .slice gb b.gs.length gc, .slice cb b.cs.length cc, .slice none 0 0].toArray 27 (0,0))::(p6, .cells [.int .i64 b.w, .slice pb b.ps.length pc, .slice gb b.gs.length gc, .slice cb b.cs.length cc, .slice none 0 0].toArray 27 (0,0)):: []⟩) (fun s hsx=>?_) (fun hcont=>?_)
         rotate_left
         ·have _:=h1
          refine Xf fun hok=>D5 C 0 hok U U G27 B27 V Tk5<|D5 C 1 hok U U G27 B27 V Tk5<|D.eP2 (i:=2) (i':=3) (dst:=(some 21)) (dst':=(some 22)) [true,true] [true,true] hok U U Kr Kr Kr (fun _ _ A hk=>?_) (fun _ _ A hk=>?_)
          ·
           refine R.alloc C U (A.w U U) K27 U fun p21=>hk _ _ ⟨(QFs.cons (QF.of U (fun _ _ A h=>R.loadAgg C U (A.w U U) (A.x U U) G27 B27 V Tk5 h)) (QFs.cons (QF.of U (fun _ _ A h=>R.loadAgg C U (A.w U U) (A.x U U) G27 B27 V Tk5 h)) QFs.nil)), ?_⟩
           refine De 3 (some 22) [true,true] hok (fun _ _ A hk=>?_)
           refine R.alloc C U (A.w U U) K27 U fun p22=>hk _ _ ⟨(QFs.cons (QF.of U (fun _ _ A h=>R.loadAgg C U (A.w U U) (A.x U U) G27 B27 V Tk5 h)) (QFs.cons (QF.of U (fun _ _ A h=>R.loadAgg C U (A.w U U) (A.x U U) G27 B27 V Tk5 h)) QFs.nil)), ?_⟩
           refine De 4 none [true,false] hok (fun _ _ A hk=>?_)
           refine R.store C U (A.w U U) (A.x U U) (A.x U U) B27 U U U V Ph5 (hk undef _ ⟨(QFs.cons (QF.of U (fun _ _ A h=>R.loadAgg C U (A.w U U) (A.x U U) G27 B27 V Tk5 h)) QFs.nil), ?_⟩)
           refine De 5 none [false] hok (fun _ _ A hk=>?_)
           refine R.store C U (A.w U U) (A.x U U) (A.x U U) B27 U U U V Ph5 (hk undef _ ⟨QFs.nil, ?_⟩)
           refine Dn<|X.weaken ?_ (hcont (p21,p22) trivial)
           exact⟨U,U,U,U,U,U,U,U,trivial⟩
          ·
           refine R.alloc C U (A.w U U) K27 U fun p22=>hk _ _ ⟨(QFs.cons (QF.of U (fun _ _ A h=>R.loadAgg C U (A.w U U) (A.x U U) G27 B27 V Tk5 h)) (QFs.cons (QF.of U (fun _ _ A h=>R.loadAgg C U (A.w U U) (A.x U U) G27 B27 V Tk5 h)) QFs.nil)), ?_⟩
           refine De 2 (some 21) [true,true] hok (fun _ _ A hk=>?_)
           refine R.alloc C U (A.w U U) K27 U fun p21=>hk _ _ ⟨(QFs.cons (QF.of U (fun _ _ A h=>R.loadAgg C U (A.w U U) (A.x U U) G27 B27 V Tk5 h)) (QFs.cons (QF.of U (fun _ _ A h=>R.loadAgg C U (A.w U U) (A.x U U) G27 B27 V Tk5 h)) QFs.nil)), ?_⟩
           refine De 4 none [true,false] hok (fun _ _ A hk=>?_)
           refine R.store C U (A.w U U) (A.x U U) (A.x U U) B27 U U U V Ph5 (hk undef _ ⟨(QFs.cons (QF.of U (fun _ _ A h=>R.loadAgg C U (A.w U U) (A.x U U) G27 B27 V Tk5 h)) QFs.nil), ?_⟩)
           refine De 5 none [false] hok (fun _ _ A hk=>?_)
           refine R.store C U (A.w U U) (A.x U U) (A.x U U) B27 U U U V Ph5 (hk undef _ ⟨QFs.nil, ?_⟩)
           refine Dn<|X.perm C.1 (List.Perm.swap _ _ _)<|X.weaken ?_ (hcont (p21,p22) trivial)
           exact⟨U,U,U,U,U,U,U,U,trivial⟩
         obtain⟨p21,p22⟩:=s
         clear hsx
         simp only
         have hup2:Up {b.noTests with w:=5*(mA:Int) } {b.noTests with w:=5*(mZ:Int) }:=winch_up (b:=b.noTests) h1 rfl O O O
         have hva:B.BkV ro (.agg [.int .i64 (5*(mA:Int)), .slice pb b.ps.length pc, .slice gb b.gs.length gc, .slice cb b.cs.length cc, .slice none 0 0].toArray) {b.noTests with w:=5*(mA:Int) }:=⟨_,_,_,_,rfl,hp,hg,hc, .nil⟩
         have hva2:B.BkV ro (.agg [.int .i64 (5*(mZ:Int)), .slice pb b.ps.length pc, .slice gb b.gs.length gc, .slice cb b.cs.length cc, .slice none 0 0].toArray) {b.noTests with w:=5*(mZ:Int) }:=⟨_,_,_,_,rfl,hp,hg,hc, .nil⟩
         refine Xm W W<|Rt W A58<|Ri Z (b_mul O O)<|Ro W<|Rt W A58<|Ri Z (b_mul O O)<|Rv 0 W A27 U B3<|Rs Z B3 Y V (.here .nil)<|Rv 0 W A27 U B3<|Rs Z B3 Y V (.here .nil)<|Rz<|Xv<|Xf fun hok=>Dt 0 Y<|Dp 1 hok (fun _ _ _ A h=>R.not C U (A.w U U) (A.x U U) h)<|D.fixv (t:=114) (v':= .bool false) U (by rfl)<|Dt 2 Y<|D5 C 3 hok U U G27 B27 V Tk5<|D5 C 4 hok U U G27 B27 V Tk5<|Dt 5 Y<|Dp 6 hok (fun _ _ _ A h=>R.convInt C U (A.w U U) (A.x U U) A5 A3 (wrap64 O O) h)<|Dh 2 7 Y A27 U B23<|Db 8 W G23 V U<|Ds C 9 hok U U A23<|Dj 10 Y5 (b_remP O O)<|Dt 11 Y<|De 12 (some 125) [true,true,true] hok (fun _ _ A hk=>?_)
         refine R.callP C U (A.w U U) (A.x U U) (A.s U U) (loadR_c hJ O _) (hk _ _ ⟨(QFs.cons (QF.of U (fun _ _ A h=>R.loadOne C U (A.w U U) (A.x U U) G23 V U h)) (QFs.cons (QF.of U (fun _ _ A h=>R.loadAgg C U (A.w U U) (A.x U U) G27 B27 V Tk5 h)) (QFs.cons (QF.of U (fun _ _ A h=>R.loadAgg C U (A.w U U) (A.x U U) G27 B27 V Tk5 h)) QFs.nil))), ?_⟩)
         refine De 13 (some 126) [false,false,false] hok (fun _ _ A hk=>?_)
         refine R.callR C U (A.w U U) (A.x U U) (A.s U U) ((noLessR_c (he.mono k5) (hva.mono k5) (hva2.mono k5) hup2.hb hup2.hc (bare_cases (B.good_of hup2.hb) hup2.tb) (bare_cases (B.good_of hup2.hc) hup2.tc) hup2.noLess (emod_in hng.1) loadOf_bd)) fun v6 ro6 hl6 hq6=>hk _ _ ⟨QFs.nil, ?_⟩
         subst hq6
         have k6:=RO.le_trans k5 hl6
         refine Dp 14 hok (fun _ _ _ A h=>R.pickF C U (A.w U U) (A.x U U) (A.x U U) h)<|D.fixv (t:=127) (v':= .bool true) U (by rfl)<|Dt 15 Y<|De 16 (some 129) [] hok (fun _ _ A hk=>?_)
         refine R.callR C U (A.w U U) (A.x U U) (A.s U U) ((hoisted_c _ (he.mono k6))) fun v9 ro9 hl9 hq9=>hk _ _ ⟨QFs.nil, ?_⟩
         refine Dp 17 hok (fun _ _ _ A h=>R.pickT C U (A.w U U) (A.x U U) (A.x U U) h)<|Da C 18 hok U U<|Dn<|X.ret0 C Kr U U F6 U (by exact(.tmp U .nil)) fun w9 hs9=>hret _ _ _ (RO.le_trans k6 hl9) ?_ w9 hs9
         exact hq9
        ·have hfA:fA=false:=by simpa using hfA
         subst hfA
         refine Ro W<|Re Z<|Re Z<|Re Z<|Rg Y<|Rg Y<|Ae W<|Xx W<|Ro W<|Ri Z b_neq<|FF 74 U (by rfl)<|Oo W W<|Ri Z b_neq<|FF 77 U (by rfl)<|Pf Z<|Oo W W<|Ro W<|FF 81 U (by rfl)<|Rp W<|Rp W<|Rp W<|Rp W<|Rp W<|Rp W<|Rp W<|Rp W<|Rp W<|Pf Z<|Pf Z<|Oo W W<|Rt W A58<|Ri Z b_gtr<|FF 96 U (by(exact congrArg Value.bool Zo))<|Pf Z<|Oo W W ?_;refine Rt W A58<|Ri Z b_gtr<|FF 101 U (by(exact congrArg Value.bool Zo))<|Pf Z<|Zc U (fun h=>nomatch h) (fun _=>?_)
         refine Xz<|Xv<|X.drop C.1 (own':=(p6, .cells [.int .i64 b.w, .slice pb b.ps.length pc, .slice gb b.gs.length gc, .slice cb b.cs.length cc, .slice none 0 0].toArray 27 (0,0)):: []) (.cons _ (.cons _ (.cons _ (.cons₂ _ .slnil))))<|X.afterI (ι:=Nat×Nat) (fun _=>True) (fun s=> [(21, .pointer (some ⟨s.1,0,none⟩)),(22, .pointer (some ⟨s.2,0,none⟩)),(6, .pointer (some ⟨p6,0,none⟩)),(4, .int .u8 g0),(5, .int .u8 n0),(15, .slice bA mA cA),(16, .bool false),(18, .slice bZ mZ cZ)])
          (fun s=>⟨ro5,(s.2, .cells [.int .i64 b.w, .slice pb b.ps.length pc, .slice gb b.gs.length gc, .slice cb b.cs.length cc, .slice none 0 0].toArray 27 (0,0))::(s.1, .cells [.int .i64 b.w, .slice pb b.ps.length pc, .slice gb b.gs.length gc, .slice cb b.cs.length cc, .slice none 0 0].toArray 27 (0,0))::(p6, .cells [.int .i64 b.w, .slice pb b.ps.length pc, .slice gb b.gs.length gc, .slice cb b.cs.length cc, .slice none 0 0].toArray 27 (0,0)):: []⟩) (fun s hsx=>?_) (fun hcont=>?_)
         rotate_left
         ·have _:=h1
          refine Xf fun hok=>D5 C 0 hok U U G27 B27 V Tk5<|D5 C 1 hok U U G27 B27 V Tk5<|D.eP2 (i:=2) (i':=3) (dst:=(some 21)) (dst':=(some 22)) [true,true] [true,true] hok U U Kr Kr Kr (fun _ _ A hk=>?_) (fun _ _ A hk=>?_)
          ·
           refine R.alloc C U (A.w U U) K27 U fun p21=>hk _ _ ⟨(QFs.cons (QF.of U (fun _ _ A h=>R.loadAgg C U (A.w U U) (A.x U U) G27 B27 V Tk5 h)) (QFs.cons (QF.of U (fun _ _ A h=>R.loadAgg C U (A.w U U) (A.x U U) G27 B27 V Tk5 h)) QFs.nil)), ?_⟩
           refine De 3 (some 22) [true,true] hok (fun _ _ A hk=>?_)
           refine R.alloc C U (A.w U U) K27 U fun p22=>hk _ _ ⟨(QFs.cons (QF.of U (fun _ _ A h=>R.loadAgg C U (A.w U U) (A.x U U) G27 B27 V Tk5 h)) (QFs.cons (QF.of U (fun _ _ A h=>R.loadAgg C U (A.w U U) (A.x U U) G27 B27 V Tk5 h)) QFs.nil)), ?_⟩
           refine De 4 none [true,false] hok (fun _ _ A hk=>?_)
           refine R.store C U (A.w U U) (A.x U U) (A.x U U) B27 U U U V Ph5 (hk undef _ ⟨(QFs.cons (QF.of U (fun _ _ A h=>R.loadAgg C U (A.w U U) (A.x U U) G27 B27 V Tk5 h)) QFs.nil), ?_⟩)
           refine De 5 none [false] hok (fun _ _ A hk=>?_)
           refine R.store C U (A.w U U) (A.x U U) (A.x U U) B27 U U U V Ph5 (hk undef _ ⟨QFs.nil, ?_⟩)
           refine Dn<|X.weaken ?_ (hcont (p21,p22) trivial)
           exact⟨U,U,U,U,U,U,U,U,trivial⟩
          ·
           refine R.alloc C U (A.w U U) K27 U fun p22=>hk _ _ ⟨(QFs.cons (QF.of U (fun _ _ A h=>R.loadAgg C U (A.w U U) (A.x U U) G27 B27 V Tk5 h)) (QFs.cons (QF.of U (fun _ _ A h=>R.loadAgg C U (A.w U U) (A.x U U) G27 B27 V Tk5 h)) QFs.nil)), ?_⟩
           refine De 2 (some 21) [true,true] hok (fun _ _ A hk=>?_)
           refine R.alloc C U (A.w U U) K27 U fun p21=>hk _ _ ⟨(QFs.cons (QF.of U (fun _ _ A h=>R.loadAgg C U (A.w U U) (A.x U U) G27 B27 V Tk5 h)) (QFs.cons (QF.of U (fun _ _ A h=>R.loadAgg C U (A.w U U) (A.x U U) G27 B27 V Tk5 h)) QFs.nil)), ?_⟩
           refine De 4 none [true,false] hok (fun _ _ A hk=>?_)
           refine R.store C U (A.w U U) (A.x U U) (A.x U U) B27 U U U V Ph5 (hk undef _ ⟨(QFs.cons (QF.of U (fun _ _ A h=>R.loadAgg C U (A.w U U) (A.x U U) G27 B27 V Tk5 h)) QFs.nil), ?_⟩)
           refine De 5 none [false] hok (fun _ _ A hk=>?_)
           refine R.store C U (A.w U U) (A.x U U) (A.x U U) B27 U U U V Ph5 (hk undef _ ⟨QFs.nil, ?_⟩)
           refine Dn<|X.perm C.1 (List.Perm.swap _ _ _)<|X.weaken ?_ (hcont (p21,p22) trivial)
           exact⟨U,U,U,U,U,U,U,U,trivial⟩
         obtain⟨p21,p22⟩:=s
         clear hsx
         simp only
         refine Xm W W<|Rt W A58<|Ri Z (b_mul O O)<|Ro W<|Rt W A58<|Ri Z (b_mul O O)<|Rv 0 W A27 U B3<|Rs Z B3 Y V (.here .nil)<|Rv 0 W A27 U B3<|Rs Z B3 Y V (.here .nil)<|Rz<|Xv<|Xf fun hok=>Dt 0 Y<|Dp 1 hok (fun _ _ _ A h=>R.not C U (A.w U U) (A.x U U) h)<|D.fixv (t:=114) (v':= .bool true) U (by rfl)<|Dt 2 Y<|Dr 3 U<|Dr 4 U<|Dr 5 U<|Dr 6 U<|Dr 7 U<|Dr 8 U<|Dr 9 U<|Dr 10 U<|Dr 11 U<|Dr 12 U<|Dr 13 U<|Dp 14 hok (fun _ _ _ A h=>R.pickT C U (A.w U U) (A.x U U) (A.x U U) h)<|Dt 15 Y<|De 16 (some 129) [] hok (fun _ _ A hk=>?_)
         refine R.callR C U (A.w U U) (A.x U U) (A.s U U) ((hoisted_c _ (he.mono k5))) fun v9 ro9 hl9 hq9=>hk _ _ ⟨QFs.nil, ?_⟩
         refine Dp 17 hok (fun _ _ _ A h=>R.pickT C U (A.w U U) (A.x U U) (A.x U U) h)<|Da C 18 hok U U<|Dn<|X.ret0 C Kr U U F6 U (by exact(.tmp U .nil)) fun w9 hs9=>hret _ _ _ (RO.le_trans k5 hl9) ?_ w9 hs9
         exact hq9
    ·have _:=h1
     refine Xu W<|Bx Z fun p6=>Bx Z fun p7=>Bx Z fun p9=>Ae W<|Xu W<|Rv 4 W A27 U B25<|Rs Z B25 Y V (.skip (.skip (.skip (.skip (.here .nil)))))<|Rz<|Xx W<|Rq W G27 B27 V Tk5<|Cp Z (B.fitR_c hJ hvv)<|Rh Y<|FF 26 U (by(rw [h1];rfl))<|Ro W<|R.loadAgg C U U U G81 B81 V (.take (.take (.take (.take (.take (.take (.take (.take (.take Tk6)))))))))<|Cp Z (fitR_c hJ hvu0)<|Rh Y<|FF 30 U (by(rw [h2];rfl))<|Pf Z<|Oo W W<|Rt W A58<|Ri Z b_gtr<|FF 35 U (by(exact congrArg Value.bool Zo))<|Pf Z<|Ro W<|R.loadAgg C U U U G81 B81 V (.take (.take (.take (.take (.take (.take (.take (.take (.take Tk6)))))))))<|Ro W<|Cp Z (planR_c hJ hvu0 hl0 O)<|Ri Z b_neq<|FT 41 U (Bv (by rw [bne_iff_ne];exact hpl)) ?_;refine Pf Z<|Ro W<|Rp W<|Rp W<|Rp W<|Rp W<|Pp Z<|Zc U (fun _=>?_) (fun h=>nomatch h)
     refine Xu W<|R.callR C U U U U ((hoisted_c _ he)) fun v9 ro9 hl9 hq9=>Ae W<|X.ret0 C Kr U U F6 U (by exact(.tmp U .nil)) fun w9 hs9=>hret _ _ _ hl9 ?_ w9 hs9
     exact hq9
   ·have _:=h1
    refine Xu W<|Bx Z fun p6=>Bx Z fun p7=>Bx Z fun p9=>Ae W<|Xu W<|Rv 4 W A27 U B25<|Rs Z B25 Y V (.skip (.skip (.skip (.skip (.here .nil)))))<|Rz<|Xx W<|Rq W G27 B27 V Tk5<|Cp Z (B.fitR_c hJ hvv)<|Rh Y<|FF 26 U (by(rw [h1];rfl))<|Ro W<|R.loadAgg C U U U G81 B81 V (.take (.take (.take (.take (.take (.take (.take (.take (.take Tk6)))))))))<|Cp Z (fitR_c hJ hvu0)<|Rh Y<|FF 30 U (by(rw [h2];rfl))<|Pf Z<|Oo W W<|Rt W A58<|Ri Z b_gtr<|FT 35 U (by(exact congrArg Value.bool Zo))<|Pf Z<|Ro W<|Rp W<|Rp W<|Rp W<|Rp W<|Pp Z<|Ro W<|Rp W<|Rp W<|Rp W<|Rp W<|Pp Z<|Rz ?_;refine Xc U (fun _=>?_) (fun h=>nomatch h)
    refine Xu W<|R.callR C U U U U ((hoisted_c _ he)) fun v9 ro9 hl9 hq9=>Ae W<|X.ret0 C Kr U U F6 U (by exact(.tmp U .nil)) fun w9 hs9=>hret _ _ _ hl9 ?_ w9 hs9
    exact hq9
  ·have _:=h1
   refine Xu W<|Bx Z fun p6=>Bx Z fun p7=>Bx Z fun p9=>Ae W<|Xu W<|Rv 4 W A27 U B25<|Rs Z B25 Y V (.skip (.skip (.skip (.skip (.here .nil)))))<|Rz<|Xx W<|Rq W G27 B27 V Tk5<|Cp Z (B.fitR_c hJ hvv)<|Rh Y<|FF 26 U (by(rw [h1];rfl))<|Ro W<|R.loadAgg C U U U G81 B81 V (.take (.take (.take (.take (.take (.take (.take (.take (.take Tk6)))))))))<|Cp Z (fitR_c hJ hvu0)<|Rh Y<|FT 30 U (by(rw [Bool.eq_false_iff.2 h2];rfl))<|Pf Z<|Ro W<|Rp W<|Rp W<|Rp W<|Pp Z<|Ro W<|Rp W<|Rp W<|Rp W<|Rp W<|Pp Z<|Ro W<|Rp W<|Rp W<|Rp W<|Rp W<|Pp Z<|Zc U (fun _=>?_) (fun h=>nomatch h)
   refine Xu W<|R.callR C U U U U ((hoisted_c _ he)) fun v9 ro9 hl9 hq9=>Ae W<|X.ret0 C Kr U U F6 U (by exact(.tmp U .nil)) fun w9 hs9=>hret _ _ _ hl9 ?_ w9 hs9
   exact hq9
 ·have _:=h1
  refine Xu W<|Bx Z fun p6=>Bx Z fun p7=>Bx Z fun p9=>Ae W<|Xu W<|Rv 4 W A27 U B25<|Rs Z B25 Y V (.skip (.skip (.skip (.skip (.here .nil)))))<|Rz<|Xx W<|Rq W G27 B27 V Tk5<|Cp Z (B.fitR_c hJ hvv)<|Rh Y<|FT 26 U (by(rw [beq_eq_false_iff_ne.2 h1];rfl))<|Ro W<|Rp W<|Rp W<|Rp W<|Pp Z<|Ro W<|Rp W<|Rp W<|Rp W<|Pp Z<|Ro W<|Rp W<|Rp W<|Rp W<|Rp W<|Pp Z<|Ro W<|Rp W<|Rp W<|Rp W<|Rp W<|Pp Z<|Zc U (fun _=>?_) (fun h=>nomatch h)
  refine Xu W<|R.callR C U U U U ((hoisted_c _ he)) fun v9 ro9 hl9 hq9=>Ae W<|X.ret0 C Kr U U F6 U (by exact(.tmp U .nil)) fun w9 hs9=>hret _ _ _ hl9 ?_ w9 hs9
  exact hq9
end Go.Lg.Be
namespace Go.Lg.Be
open Go Go.Conc Go.Lg Go.Proofs Go.WideShapes Go.ChangeShapes Go.Lg.B Go.Proofs.Tryz
variable {n:Nat}{cs:List Value}
theorem cells78:prog.cellsOf 78=1:=by kernel_rfl
theorem cells79:prog.cellsOf 79=1:=by kernel_rfl
theorem cells81:prog.cellsOf 81=15:=by kernel_rfl
theorem cells198:prog.cellsOf 198=3:=by kernel_rfl
theorem cells309:prog.cellsOf 309=3:=by kernel_rfl
section
variable {H:Type}{enc0:TypeId×Value→H}{W:World}{base:Nat}{sp:Nat→Bool}{held:Bool}
theorem mn_of{z:DataW H×List MemPlace}(h:DataW.trod enc0 prog W base sp held n 198 cs=some z):∃s:Mn,cs=s.cells:=by
 obtain⟨hl,hf⟩:=field_of underlying198 h
 rw [cells198] at hl
 match cs,hl with
 | [y0,y1,y2],_=>
  have g0:∃n z,DataW.trod enc0 prog W base sp held n 9 (([y0,y1,y2].drop 0).take (prog.cellsOf 9))=some z:=hf 0 _ rfl
  rw [cells9] at g0
  obtain⟨_,_,h0⟩:=g0
  have g1:∃n z,DataW.trod enc0 prog W base sp held n 45 (([y0,y1,y2].drop 1).take (prog.cellsOf 45))=some z:=hf 1 _ rfl
  rw [cells45] at g1
  obtain⟨_,_,h1⟩:=g1
  obtain⟨x0,e0⟩:=str_of h0
  obtain⟨x1,e1⟩:=rc_of h1
  simp [Rc.cells] at e0 e1
  subst e0
  obtain⟨rfl,rfl⟩:=e1
  exact⟨⟨x0,x1⟩,rfl⟩
theorem mk_of{z:DataW H×List MemPlace}(h:DataW.trod enc0 prog W base sp held n 309 cs=some z):∃s:Mk,cs=s.cells:=by
 obtain⟨hl,hf⟩:=field_of underlying309 h
 rw [cells309] at hl
 match cs,hl with
 | [y0,y1,y2],_=>
  have g0:∃n z,DataW.trod enc0 prog W base sp held n 3 (([y0,y1,y2].drop 0).take (prog.cellsOf 3))=some z:=hf 0 _ rfl
  rw [cells3] at g0
  obtain⟨_,_,h0⟩:=g0
  have g1:∃n z,DataW.trod enc0 prog W base sp held n 45 (([y0,y1,y2].drop 1).take (prog.cellsOf 45))=some z:=hf 1 _ rfl
  rw [cells45] at g1
  obtain⟨_,_,h1⟩:=g1
  obtain⟨x0,e0,_⟩:=int_of_trod N3 h0
  obtain⟨x1,e1⟩:=rc_of h1
  simp [Rc.cells] at e0 e1
  subst e0
  obtain⟨rfl,rfl⟩:=e1
  exact⟨⟨x0,x1⟩,rfl⟩
theorem mns_of{z:DataW H×List MemPlace}(h:DataW.trod enc0 prog W base sp held n 78 cs=some z):∃v xs,cs= [v]∧Ls Mn.cells 3 (fun b=>W.heap[b]?) v xs∧capOk v:=by
 obtain⟨v,xs,rfl,hl⟩:=ls_of_trod underlying78 cells198 Dd Mn.len (fun _ _ _ h=>mn_of h) h
 obtain⟨v',e,hc⟩:=cap_of_trod underlying78 h
 cases e
 exact⟨_,_,rfl,hl,hc⟩
theorem mks_of{z:DataW H×List MemPlace}(h:DataW.trod enc0 prog W base sp held n 79 cs=some z):∃v xs,cs= [v]∧Ls Mk.cells 3 (fun b=>W.heap[b]?) v xs∧capOk v:=by
 obtain⟨v,xs,rfl,hl⟩:=ls_of_trod underlying79 cells309 Dd Mk.len (fun _ _ _ h=>mk_of h) h
 obtain⟨v',e,hc⟩:=cap_of_trod underlying79 h
 cases e
 exact⟨_,_,rfl,hl,hc⟩
theorem argBk{r:Reach}{b0:Nat}{v:Value}{d:DataW H}{p:List MemPlace}(hv:Value.okWide prog W r b0 81 v)(h:DataW.Trod enc0 prog W base sp held 81 v d p):∃b,BkV (fun b=>W.heap[b]?) v b:=by
 obtain⟨⟨cs⟩,rfl,_⟩:=okWide_struct underlying81 hv
 obtain⟨n,h⟩:=h
 obtain⟨hl,hf⟩:=field_of (cs:=cs) underlying81 h
 rw [cells81] at hl
 match cs,hl with
 | [y0,y1,y2,y3,y4,y5,y6,y7,y8,y9,y10,y11,y12,y13,y14],_=>
  have g0:∃n z,DataW.trod enc0 prog W base sp held n 3 (([y0,y1,y2,y3,y4,y5,y6,y7,y8,y9,y10,y11,y12,y13,y14].drop 0).take (prog.cellsOf 3))=some z:=hf 0 _ rfl
  rw [cells3] at g0
  obtain⟨_,_,h0⟩:=g0
  have g1:∃n z,DataW.trod enc0 prog W base sp held n 3 (([y0,y1,y2,y3,y4,y5,y6,y7,y8,y9,y10,y11,y12,y13,y14].drop 1).take (prog.cellsOf 3))=some z:=hf 1 _ rfl
  rw [cells3] at g1
  obtain⟨_,_,h1⟩:=g1
  have g2:∃n z,DataW.trod enc0 prog W base sp held n 3 (([y0,y1,y2,y3,y4,y5,y6,y7,y8,y9,y10,y11,y12,y13,y14].drop 2).take (prog.cellsOf 3))=some z:=hf 2 _ rfl
  rw [cells3] at g2
  obtain⟨_,_,h2⟩:=g2
  have g3:∃n z,DataW.trod enc0 prog W base sp held n 3 (([y0,y1,y2,y3,y4,y5,y6,y7,y8,y9,y10,y11,y12,y13,y14].drop 3).take (prog.cellsOf 3))=some z:=hf 3 _ rfl
  rw [cells3] at g3
  obtain⟨_,_,h3⟩:=g3
  have g4:∃n z,DataW.trod enc0 prog W base sp held n 3 (([y0,y1,y2,y3,y4,y5,y6,y7,y8,y9,y10,y11,y12,y13,y14].drop 4).take (prog.cellsOf 3))=some z:=hf 4 _ rfl
  rw [cells3] at g4
  obtain⟨_,_,h4⟩:=g4
  have g5:∃n z,DataW.trod enc0 prog W base sp held n 3 (([y0,y1,y2,y3,y4,y5,y6,y7,y8,y9,y10,y11,y12,y13,y14].drop 5).take (prog.cellsOf 3))=some z:=hf 5 _ rfl
  rw [cells3] at g5
  obtain⟨_,_,h5⟩:=g5
  have g6:∃n z,DataW.trod enc0 prog W base sp held n 3 (([y0,y1,y2,y3,y4,y5,y6,y7,y8,y9,y10,y11,y12,y13,y14].drop 6).take (prog.cellsOf 3))=some z:=hf 6 _ rfl
  rw [cells3] at g6
  obtain⟨_,_,h6⟩:=g6
  have g7:∃n z,DataW.trod enc0 prog W base sp held n 3 (([y0,y1,y2,y3,y4,y5,y6,y7,y8,y9,y10,y11,y12,y13,y14].drop 7).take (prog.cellsOf 3))=some z:=hf 7 _ rfl
  rw [cells3] at g7
  obtain⟨_,_,h7⟩:=g7
  have g8:∃n z,DataW.trod enc0 prog W base sp held n 45 (([y0,y1,y2,y3,y4,y5,y6,y7,y8,y9,y10,y11,y12,y13,y14].drop 8).take (prog.cellsOf 45))=some z:=hf 8 _ rfl
  rw [cells45] at g8
  obtain⟨_,_,h8⟩:=g8
  have g9:∃n z,DataW.trod enc0 prog W base sp held n 45 (([y0,y1,y2,y3,y4,y5,y6,y7,y8,y9,y10,y11,y12,y13,y14].drop 10).take (prog.cellsOf 45))=some z:=hf 9 _ rfl
  rw [cells45] at g9
  obtain⟨_,_,h9⟩:=g9
  have g10:∃n z,DataW.trod enc0 prog W base sp held n 78 (([y0,y1,y2,y3,y4,y5,y6,y7,y8,y9,y10,y11,y12,y13,y14].drop 12).take (prog.cellsOf 78))=some z:=hf 10 _ rfl
  rw [cells78] at g10
  obtain⟨_,_,h10⟩:=g10
  have g11:∃n z,DataW.trod enc0 prog W base sp held n 58 (([y0,y1,y2,y3,y4,y5,y6,y7,y8,y9,y10,y11,y12,y13,y14].drop 13).take (prog.cellsOf 58))=some z:=hf 11 _ rfl
  rw [cells58] at g11
  obtain⟨_,_,h11⟩:=g11
  have g12:∃n z,DataW.trod enc0 prog W base sp held n 79 (([y0,y1,y2,y3,y4,y5,y6,y7,y8,y9,y10,y11,y12,y13,y14].drop 14).take (prog.cellsOf 79))=some z:=hf 12 _ rfl
  rw [cells79] at g12
  obtain⟨_,_,h12⟩:=g12
  obtain⟨x0,e0,_⟩:=int_of_trod N3 h0
  obtain⟨x1,e1,_⟩:=int_of_trod N3 h1
  obtain⟨x2,e2,_⟩:=int_of_trod N3 h2
  obtain⟨x3,e3,_⟩:=int_of_trod N3 h3
  obtain⟨x4,e4,_⟩:=int_of_trod N3 h4
  obtain⟨x5,e5,_⟩:=int_of_trod N3 h5
  obtain⟨x6,e6,_⟩:=int_of_trod N3 h6
  obtain⟨x7,e7,_⟩:=int_of_trod N3 h7
  obtain⟨x8,e8⟩:=rc_of h8
  obtain⟨x9,e9⟩:=rc_of h9
  obtain⟨v10,x10,e10,l10,m10⟩:=mns_of h10
  obtain⟨v11,x11,e11,l11,m11⟩:=ints_of h11
  obtain⟨v12,x12,e12,l12,m12⟩:=mks_of h12
  simp [Rc.cells] at e0 e1 e2 e3 e4 e5 e6 e7 e8 e9 e10 e11 e12
  subst e0
  subst e1
  subst e2
  subst e3
  subst e4
  subst e5
  subst e6
  subst e7
  obtain⟨rfl,rfl⟩:=e8
  obtain⟨rfl,rfl⟩:=e9
  subst e10
  subst e11
  subst e12
  exact⟨⟨x0,x1,x2,x3,x4,x5,x6,x7,x8,x9,x10,x11,x12⟩,_,_,_,rfl,l10,l11,l12,m10⟩
end
end Go.Lg.Be
namespace Go.Lg.B
open Go Go.Conc Go.Lg Go.Proofs Go.Proofs.YtfohpddpboaejaaGreatDoor Go.Proofs.Tryz
variable {W:World}
theorem g_bell:prog.globalNamed "lagan/bell.checks" =some 3:=by kernel_rfl
theorem t_bell:(prog.globals[3]?).map (·.type)=some 314:=by kernel_rfl
theorem c_bell1:prog.cellsOf 313=1:=by kernel_rfl
theorem c_bell:prog.cellsOf 314=5:=by kernel_rfl
theorem one_of_trod{P:Program}{t:TypeId}{fs:Array Field}{f:Field}(ht:P.underlying t=some (.struct fs))(h0:fs[0]? =some f)(hs:fs.size=1)(ho:f.offset=0)(hc:P.cellsOf f.type=1){H:Type}{enc:TypeId×Value→H}{base:Nat}{sp:Nat→Bool}{held:Bool}{fuel:Nat}{v:Value}{d:DataW H}{p:List MemPlace}(h:DataW.trod enc P W base sp held fuel t [v]=some (.agg [d],p)):∃m q,DataW.trod enc P W base sp held m f.type [v]=some (d,q):=by
 obtain⟨xs,n,_,hx,_,hn,hel⟩:=DataW.trod_struct ht h
 have e:=hel 0 f h0
 rw [ho,hc] at e
 match xs,hn.trans hs with
 | [(a,q)],_=>
  simp only [List.map_cons,List.map_nil,Prod.mk.injEq,DataW.agg.injEq,List.cons.injEq,and_true] at hx
  obtain⟨rfl,_⟩:=hx
  exact⟨n,q,e⟩
theorem env_bell{lst:List (String×DataW Unit)}(h:laidMetH prog lst W)(hm:("lagan/bell.checks",Rows.laid_lagan_bell_checks)∈lst):Be.Env (fun b=>W.heap[b]?):=by
 obtain⟨g,t,cs,fuel,p,hg,ht,hv,hd⟩:=h.funcs hm
 obtain rfl:=Option.some.inj (g_bell.symm.trans hg)
 obtain rfl:=Option.some.inj (t_bell.symm.trans ht)
 have hd':DataW.trod (funcToken prog) prog W 0 (fun _=>true) true fuel 314 cs.toList=some (.agg [.agg [.held [40,108,97,103,97,110,47,98,101,108,108,46,98,111,111,107,41,46,98,101,108,108]], .agg [.held [40,108,97,103,97,110,47,98,101,108,108,46,98,111,111,107,41,46,117,115,101,115]], .agg [.held [40,108,97,103,97,110,47,98,101,108,108,46,98,111,111,107,41,46,109,101,110]], .agg [.held [40,108,97,103,97,110,47,98,101,108,108,46,98,111,111,107,41,46,115,101,110,116]], .agg [.held [40,108,97,103,97,110,47,98,101,108,108,46,98,111,111,107,41,46,109,97,114,107,115]]],p):=hd
 obtain⟨xs,m,_,hx,hl,hn,hel⟩:=DataW.trod_array underlying314 hd'
 rw [c_bell] at hl
 obtain⟨v0,v1,v2,v3,v4,hcs⟩:∃v0 v1 v2 v3 v4,cs.toList= [v0,v1,v2,v3,v4]:=by
  match h:cs.toList,hl with
  | [a,b,c,d,e],_=>exact⟨a,b,c,d,e,rfl⟩
 obtain⟨x0,x1,x2,x3,x4,rfl⟩:∃x0 x1 x2 x3 x4,xs= [x0,x1,x2,x3,x4]:=by
  match xs,hn with
  | [a,b,c,d,e],_=>exact⟨a,b,c,d,e,rfl⟩
 simp only [Prod.mk.injEq,DataW.agg.injEq,List.map_cons,List.map_nil,List.cons.injEq,and_true] at hx
 obtain⟨⟨h0,h1,h2,h3,h4⟩,_⟩:=hx
 have e0:=hel 0 O
 have e1:=hel 1 O
 have e2:=hel 2 O
 have e3:=hel 3 O
 have e4:=hel 4 O
 obtain⟨d0,q0⟩:=x0
 obtain⟨d1,q1⟩:=x1
 obtain⟨d2,q2⟩:=x2
 obtain⟨d3,q3⟩:=x3
 obtain⟨d4,q4⟩:=x4
 simp only at h0 h1 h2 h3 h4
 subst h0
 subst h1
 subst h2
 subst h3
 subst h4
 rw [c_bell1,hcs] at e0 e1 e2 e3 e4
 obtain⟨m0,r0,e0⟩:=one_of_trod N313 rfl rfl rfl Kr e0
 obtain⟨m1,r1,e1⟩:=one_of_trod N313 rfl rfl rfl Kr e1
 obtain⟨m2,r2,e2⟩:=one_of_trod N313 rfl rfl rfl Kr e2
 obtain⟨m3,r3,e3⟩:=one_of_trod N313 rfl rfl rfl Kr e3
 obtain⟨m4,r4,e4⟩:=one_of_trod N313 rfl rfl rfl Kr e4
 have f0:=func_of_trod (f0:=375) N212 Kr (show DataW.trod (funcToken prog) prog W 0 (fun _=>true) true m0 212 [v0]=some (_,r0) from e0)
 have f1:=func_of_trod (f0:=376) N212 Kr (show DataW.trod (funcToken prog) prog W 0 (fun _=>true) true m1 212 [v1]=some (_,r1) from e1)
 have f2:=func_of_trod (f0:=377) N212 Kr (show DataW.trod (funcToken prog) prog W 0 (fun _=>true) true m2 212 [v2]=some (_,r2) from e2)
 have f3:=func_of_trod (f0:=378) N212 Kr (show DataW.trod (funcToken prog) prog W 0 (fun _=>true) true m3 212 [v3]=some (_,r3) from e3)
 have f4:=func_of_trod (f0:=379) N212 Kr (show DataW.trod (funcToken prog) prog W 0 (fun _=>true) true m4 212 [v4]=some (_,r4) from e4)
 subst f0
 subst f1
 subst f2
 subst f3
 subst f4
 unfold World.var? at hv
 rw [g_bell] at hv
 simp only [Option.bind_some] at hv
 split at hv
 ·rename_i c t fq hc
  cases hv
  refine⟨t,fq, ?_⟩
  show W.heap[3]? =_
  rw [hc, ←hcs]
 ·cases hv
abbrev laid_bell_tackle:List (String×DataW Unit):= [("lagan/bell.checks",Rows.laid_lagan_bell_checks),("lagan/tackle.checks",Rows.laid_lagan_tackle_checks)]
theorem met_bell_tackle(os:Os)(args:Array Value):laidMetH prog laid_bell_tackle ((World.doorLaid prog 89 os).forCall (fun _ _=>0) ⟨#[],args, []⟩).memory:=
 laidMetH_of_parts3 (fuel:=8) (laidMet_of_run' 8 Kr Kr) Kr Kr
end Go.Lg.B
namespace Go.Lg.B
open Go Go.Proofs Go.Proofs.YtfohpddpboaejaaGreatDoor Go.Proofs.Tryz
theorem winched_k1:(Rows.tackleWinchedRow.inPlace==prog.inPlace 6)=true:=by kernel_rfl
theorem winched_k2:(Rows.tackleWinchedRow.unfollowed==prog.unfollowed 6)=true:=by kernel_rfl
theorem winched_k3:(Rows.tackleWinchedRow.recurses==prog.recurses 6)=true:=by kernel_rfl
theorem winched_k4:(Rows.tackleWinchedRow.named==prog.varsNamed 6)=true:=by kernel_rfl
theorem winched_name:prog.funcNamed "lagan/laganlaw07.TackleWinched" =some 6:=by kernel_rfl
theorem winched_goes:true=Rows.tackleWinchedRow.goesBy prog:=by kernel_rfl
theorem winched_wf:Rows.tackleWinchedRow.wfByText (OpenSpec.ofChange Rows.tackleWinchedSpec)=true:=by kernel_rfl
set_option maxHeartbeats 4000000 in
theorem winched_facts:joinedFacts prog 6 Tryz.f6 Rows.tackleWinchedSpec Rows.tackleWinchedRow=true:=by
 unfold joinedFacts
 exact(and_mk (and_mk (and_mk (and_mk (and_mk (and_mk (and_mk (and_mk (and_mk (and_mk (and_mk (and_mk (and_mk (and_mk (and_mk (and_mk (and_mk (and_mk (and_mk (and_mk (and_mk (and_mk (and_mk (and_mk (and_mk (and_mk (and_mk (and_mk (and_mk (and_mk (and_mk (by as_aux_lemma=>kernel_rfl)
  k_lo)
  k_mr)
  (by as_aux_lemma=>kernel_rfl))
  (by as_aux_lemma=>kernel_rfl))
  (by as_aux_lemma=>kernel_rfl))
  k_stops)
  (by as_aux_lemma=>kernel_rfl))
  k_knobs)
  winched_k1)
  winched_k2)
  winched_k3)
  winched_k4)
  (by as_aux_lemma=>kernel_rfl))
  (by as_aux_lemma=>kernel_rfl))
  (by as_aux_lemma=>kernel_rfl))
  (by as_aux_lemma=>kernel_rfl))
  (by as_aux_lemma=>kernel_rfl))
  (by as_aux_lemma=>kernel_rfl))
  (by as_aux_lemma=>kernel_rfl))
  (by as_aux_lemma=>kernel_rfl))
  (by as_aux_lemma=>kernel_rfl))
  (beq_iff_eq.2 k_pk.symm))
  (by as_aux_lemma=>kernel_rfl))
  k_heard)
  k_may)
  (beq_iff_eq.2 k_lift.symm))
  (beq_iff_eq.2 k_make))
  (by as_aux_lemma=>kernel_rfl))
  (by as_aux_lemma=>kernel_rfl))
  (by as_aux_lemma=>kernel_rfl))
  (by as_aux_lemma=>kernel_rfl))
end Go.Lg.B
namespace Go.Proofs.YtfohpddpboaejaaGreatDoor
open Go Go.Conc Go.Lg Go.Lg.B Go.ChangeShapes Go.RowKit Go.WideShapes
theorem winched_lifted(os:Os)(started:os.Started)(H:Type)(enc:TypeId×Value→H):
  ReturnsInLeavingWide {} Tryz.checked os 6 .any (fun w args=>(Rows.tackleWinchedSpec.pre enc Tryz.prog Tryz.f6 [] false w args∧laidMetH Tryz.prog laid_bell_tackle w)∧sizedMet enc Tryz.prog Tryz.f6 (OpenSpec.ofChange Rows.tackleWinchedSpec) false w args)
   (Rows.tackleWinchedSpec.post enc Tryz.prog Tryz.f6 false true false false):=by
 refine leaving_of_root (C:=Tryz.checked) (tb:=4) (X:=fun w _=>laidMetH Tryz.prog laid_bell_tackle w) (fun _ _ _ hh h=>h.of_heap hh) own0 started Tryz.func6 laid0 (by
   intro t ht
   rw [Tryz.params6] at ht
   have hm:t∈ [27,81,58,45,5,5]:=ht
   have hall:([27,81,58,45,5,5].all fun u=>Tryz.prog.readableRec u && decide (u<Tryz.prog.types.size))=true:=by kernel_rfl
   have:=List.all_eq_true.1 hall t hm
   rw [Bool.and_eq_true,decide_eq_true_eq] at this
   exact this) rfl Kr Tryz.underlying4
  (ChangeSpec.witness_shaped (enc:=enc) (C:=Tryz.checked) (os:=os) (X:=fun w _=>laidMetH Tryz.prog laid_bell_tackle w) false (World.doorLaid Tryz.prog 89 os) #[.agg #[.int .i64 0, .slice none 0 0, .slice none 0 0, .slice none 0 0, .slice none 0 0], .agg #[.int .i64 0, .int .i64 0, .int .i64 0, .int .i64 0, .int .i64 0, .int .i64 0, .int .i64 0, .int .i64 0, .int .i64 0, .int .i64 0, .int .i64 0, .int .i64 0, .slice none 0 0, .slice none 0 0, .slice none 0 0], .slice none 0 0, .agg #[.int .i64 0, .int .i64 0], .int .u8 0, .int .u8 0] 8 rfl (door_shaped os _) Kr Kr Kr (met_bell_tackle os _)) ?_
 intro W base args ds gs before hval hW _ _ hL
 obtain⟨p,q,hA,hV,rfl,_,_⟩:=hW
 obtain⟨rfl,rfl⟩:=trodVars_none hV
 have hA:DataW.TrodAll enc Tryz.prog W 0 (fun _=>true) true Tryz.f6.params.toList args.toList ds p:=hA
 have hval:∀ (j:Nat) t v,Tryz.f6.params[j]? =some t→args[j]? =some v→Value.okWide Tryz.prog W .any base t v:=hval
 rw [Tryz.params6] at hA hval
 obtain⟨v1,l1,d1,k1,p1,q1,e1,rfl,rfl,h1,hA⟩:=trodAll_cons hA
 obtain⟨v2,l2,d2,k2,p2,q2,rfl,rfl,rfl,h2,hA⟩:=trodAll_cons hA
 obtain⟨v3,l3,d3,k3,p3,q3,rfl,rfl,rfl,h3,hA⟩:=trodAll_cons hA
 obtain⟨v4,l4,d4,k4,p4,q4,rfl,rfl,rfl,h4,hA⟩:=trodAll_cons hA
 obtain⟨v5,l5,d5,k5,p5,q5,rfl,rfl,rfl,h5,hA⟩:=trodAll_cons hA
 obtain⟨v6,l6,d6,k6,p6,q6,rfl,rfl,rfl,h6,hA⟩:=trodAll_cons hA
 obtain⟨rfl,rfl,rfl⟩:=trodAll_nil hA
 have ea:args= #[v1,v2,v3,v4,v5,v6]:=Array.toList_inj.1 e1
 subst ea
 obtain⟨b,b1⟩:=argBk (hval 0 27 v1 rfl rfl) h1
 obtain⟨ch,b2⟩:=Go.Lg.Be.argBk (hval 1 81 v2 rfl rfl) h2
 obtain⟨l,b3⟩:=argInts (hval 2 58 v3 rfl rfl) h3
 obtain⟨x,rfl⟩:=argRc (hval 3 45 v4 rfl rfl) h4
 obtain⟨a1,rfl,o1⟩:=argU8 (hval 4 5 v5 rfl rfl) h5
 obtain⟨a2,rfl,o2⟩:=argU8 (hval 5 5 v6 rfl rfl) h6
 exact⟨rfl,Go.Lg.Be.winched_root o1 o2 (env_tackle hL Zi) (env_bell hL Zi) b1 b2 b3⟩
theorem winched_row:Rows.TackleWinchedSaid:=
 OpenClaim.holds_of_wide_leaving 6 Tryz.f6 rfl rfl rfl rfl rfl rfl rfl ⟨rfl,rfl,rfl,rfl,rfl⟩ rfl rfl rfl rfl rfl winched_name Tryz.func6 winched_facts
  (of_decide_eq_true Kr) (by unfold Func.isWrapper;first|(rw [if_pos (by decide+kernel)];kernel_rfl)|(rw [if_neg (by decide+kernel)];exact⟨rfl,rfl⟩))
  (fun os started H enc _=>winched_lifted os started H enc)
theorem winched_holds:Rows.TackleWinchedCardSaid:=
 card_goes .later [.funcs, .funcs] true (true, "7268d481d5cd4890fc3e51dc004ed55463d6f3c1cbd9cf0add1e476a9c0c0c57") false
  winched_row winched_wf tackleWinched_row_tie rfl ⟨rfl,rfl⟩ k_main rfl
  (fun f fn hf hfn=>by
   obtain rfl:f=6:=Option.some.inj (winched_name.symm.trans hf)|>.symm
   obtain rfl:fn=Tryz.f6:=(Option.some.inj (Tryz.func6.symm.trans hfn)).symm
   exact⟨k_looks,fun j t ht=>by
    rw [Tryz.params6] at ht
    have hm:t∈ [27,81,58,45,5,5]:=by simpa using Array.mem_of_getElem? ht
    have hall:([27,81,58,45,5,5].all fun u=> !Tryz.prog.wantsStandIn u)=true:=by kernel_rfl
    exact(show Tryz.prog.wantsStandIn t=false by simpa using List.all_eq_true.1 hall t hm)⟩)
  winched_goes
end Go.Proofs.YtfohpddpboaejaaGreatDoor
