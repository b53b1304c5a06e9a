/- Texts Way, Tall, LeaveW, LoopM, LoopD, BackI, joined. -/
import Derived.Deep.LoopGhost
import Derived.RangeFuncNested
import Derived.RangeFuncLeaves
import Derived.Test.YtpbniokljofedaaGreatZE01
import Derived.Test.YtpbniokljofedaaGreatZE03
import Derived.Test.YtpbniokljofedaaGreatZE10
import Derived.Test.YtpbniokljofedaaGreatZE14
import Derived.Test.YtpbniokljofedaaGreatZE20
import Derived.Test.YtpbniokljofedaaGreatZE21
import Derived.Test.YtpbniokljofedaaGreatZE22
set_option linter.unusedSimpArgs false
set_option linter.unusedVariables false
set_option maxHeartbeats 8000000
namespace Go.Proofs.YtpbniokljofedaaGreat
open Go.RowKit
structure WyI (S:Sto) (K:K3) (full:List Stp) (lo:Nat) (w1:World) (v i:Value) (wr:World):Prop where
 ex:∃ (h r:Nat) (ys:List It) (pre:List Stp) (Av:Option Addr) (cv:Nat),v=.slice Av pre.length cv∧i=.int .i64 (r:Int)∧8≤r∧r<256∧qu S r=some ((h:Int),ys)∧(Qe S h ys).isSome=true∧full=pre++VD S K h ys∧pre.length+h<6∧jW lo wr v pre∧Below lo w1 wr
set_option maxRecDepth 100000 in
theorem way_any (A1:Option Addr) (n1 c1:Nat) (A2:Option Addr) (n2 c2:Nat) (A3:Option Addr) (n3 c3:Nat) (A4:Option Addr) (n4 c4:Nat) (S:Sto) (hS:qo S=true) (a lvl:Nat) (xs:List It) (ha:8≤a) (ha2:a<256) (hn:qu S a=some ((lvl:Int),xs)) (hsp:(Qe S lvl xs).isSome=true) (k i o:Int) (w:World)
  (hst:qT w w.heap.size (.slice A1 n1 c1) (.slice A2 n2 c2) (.slice A3 n3 c3) (.slice A4 n4 c4) S) :
  Calls Tryz.prog 98 #[Qa A1 n1 c1 A2 n2 c2 A3 n3 c3 A4 n4 c4,.int .i64 (a:Int),keyV k i o] w (zE (fun u W=>YY w.heap.size W u (VD S (k,i,o) lvl xs)) w):=by
 obtain⟨i0,hi,hz0,hz1,hz2⟩:=info_parts Tryz.info_step
 obtain⟨full,hfull⟩:∃ full,VD S (k,i,o) lvl xs=full:=⟨_,rfl⟩
 rw[hfull]
 have hl6:lvl<6:=by have:=ZW hn;omega
 have HI0:=zH (fun W=>(⟨⟨lvl,a,xs,[],none,0,rfl,rfl,ha,ha2,hn,hsp,hfull.symm,by simpa using hl6,jW.nil _ _,Below.refl _ _⟩⟩:WyI S (k,i,o) full W.heap.size W (.slice none 0 0) (.int .i64 (a:Int)) W))
 have HN:=zH (fun (r:Nat) W (hx:Ext w W)=>qhx A1 n1 c1 A2 n2 c2 A3 n3 c3 A4 n4 c4 S (r:Int) W (hst.ext hx))
 replace hS:=zH hS
 replace hi:=zH hi
 clear hst hn hsp hfull ha ha2 hl6
 go_enter Tryz.func98,Tryz.ntmps98
 go_wp2_with fail
 generalize hw1:(World.alloc (World.alloc w _) _)=w1
 have x1:Ext w w1:=by rw[←hw1];exact(zN _ _).trans (zN _ _)
 have rs1:w1.heap[w.heap.size]?=some (.cells #[.slice A1 n1 c1,.slice A2 n2 c2,.slice A3 n3 c3,.slice A4 n4 c4] 28 (0,0)):=by rw[←hw1];exact(zK _ _ _ (by simp)).trans (zI _ _ _ rfl)
 have rk1:w1.heap[w.heap.size+1]?=some (.cells #[.int .u8 k,.int .u32 i,.int .u32 o] 66 (0,0)):=by rw[←hw1];exact zI _ _ _ (by simp)
 have z1:w.heap.size≤w1.heap.size:=by rw[←hw1];simp;omega
 clear hw1
 have I0:=zH (HI0.out w1)
 clear HI0
 go_wp2_with fail
 go_loopw [6,7] (fun v j wr=>WyI S (k,i,o) full w1.heap.size w1 v j wr) (fun _ j _=>Kp S j)
 case atStart=>exact I0.out
 case round =>
  obtain⟨h,r,ys,pre,Av,cv,rfl,rfl,h8,h256,hn,hsp,hfull,hlen,hso,xr⟩:=hrel.ex
  clear I0 hrel
  have hlv:=XR hn
  obtain⟨hm1,hm2,-⟩:=Qb hn
  have hyl:ys.length≤5:=by unfold Qg jK at hm1;simp at hm1;omega
  have hpos:0<h→0<ys.length:=fun h0=>qcs hm1 h0
  have xr1:Ext w1 wr:=xr
  have HNr:=HN.out r wr (x1.trans xr1)
  rw[show Ji S (r:Int)=0 by
   rw[qbU hS.out h8 h256,if_neg (show ¬zO S r=0 from fun e=>by unfold qu at hn;rw[if_pos (show (S.now[r]?.getD 0).toNat=0 from e)] at hn;cases hn)],if_pos rfl,Int.toNat_natCast,hn] at HNr
  have rsr:=qb rs1 xr1
  have rkr:=qb rk1 xr1
  have ksr:=qa rsr
  replace hsp:=zH hsp
  replace hn:=zH hn
  replace hm2:=zH hm2
  replace hfull:=zH hfull
  replace hso:=zH hso
  replace hlv:=zH hlv
  replace hpos:=zH hpos
  clear hm1
  go_wp2_with fail
  refine HNr.mono ?_
  clear HNr
  rintro e w4 ⟨u,rfl,⟨A9,c9,rfl,hits⟩,hB⟩
  have hB:Ext wr w4:=hB
  have xx4:Ext w1 w4:=xr1.trans hB
  have rk4:=qb rkr hB
  have so4:=zH (hso.out.ext hB)
  have z4:w.heap.size+1<w4.heap.size:=(zG.1 rk4).1
  have kk4:=qa rk4
  have zwr:w1.heap.size≤wr.heap.size:=xr.size
  have z4r:wr.heap.size≤w4.heap.size:=hB.size
  replace hits:=zH hits
  have hso':Hid (∀ q,(Value.slice Av pre.length cv).ownBlock=some q→q<wr.heap.size):=zH fun q hq=>by
   obtain⟨ps,-,ho,-⟩:=hso.out
   exact(QV ho q hq).2
  clear hB rsr rkr ksr hso xr xr1
  go_wp2_with fail
  generalize hw5:(World.alloc w4 _)=w5
  have x45:Ext w4 w5:=by rw[←hw5];exact zN _ _
  have rn5:w5.heap[w4.heap.size]?=some (.cells #[.int .i64 h,.slice A9 ys.length c9] 49 (0,0)):=by rw[←hw5];exact zI _ _ _ rfl
  clear hw5
  have rk5:=qb rk4 x45
  have kn5:=qa rn5
  have kk5:=qa rk5
  clear kk4
  go_wp2_with fail
  refine(qbF (h:Int) A9 c9 ys k i o _ w5 hyl (hits.out.ext x45)).mono ?_
  rintro e w6 ⟨rfl,hB⟩
  have x56:Ext w4 w6:=x45.trans hB
  have rn6:=qb rn5 hB
  have kn6:=qa rn6
  have hits6:=zH (hits.out.ext x56)
  have xx6:Ext w1 w6:=xx4.trans x56
  have so6:=zH (so4.out.ext x56)
  have z46:=x56.size
  have z4':=xx4.size
  clear rn5 x45 hB x56 rk4 rk5 kk5 kn5 xx4 hits so4
  obtain⟨ips,hips,hsx⟩:=hits6.out.toE (X:=OwnL w1.heap.size (.slice Av pre.length cv)) (fun q hq hx=>hx.elim (fun h1=>by have:=hso'.out q h1;omega) fun h1=>by omega)
  replace hsx:=zH hsx
  replace hips:=zH hips
  have hA:=hits6.out.its.at_.2.2.2
  clear hits6
  obtain⟨ie,hie⟩:∃ ie,KS ys (k,i,o)=ie:=⟨_,rfl⟩
  obtain⟨p,hp⟩:∃ p,qL ys (k,i,o)=p:=⟨_,rfl⟩
  have hplc:=JO ys (k,i,o)
  rw[hie,hp]
  rw[hp] at hplc
  obtain⟨ps,e0,ho,hpp⟩:=so6.out
  have hgr:∀ W':World,w6.grownBy W' (Value.slice Av pre.length cv).ownBlock→Qd (OwnL w1.heap.size (.slice Av pre.length cv)) w6 W':=fun W' hg=>Qd.of_heap fun q hq hX=>hg.block q hq fun e=>hX (.inl e.symm)
  replace hpp:=zH hpp
  replace hgr:=zH hgr
  clear so6
  rcases Nat.eq_zero_or_pos h with h0|h0
  ·have hh1:((h:Int) == 0)=true:=by rw[beq_iff_eq];omega
   have hh2:decide (h=0)=true:=decide_eq_true h0
   have hf2:full=pre++[(0,ys,p)]:=by rw[hfull.out,h0,qeM,hp]
   subst h0
   replace hf2:=zH hf2
   clear hA hpos hie hp
   go_wp2_with (at_builtin;refine qZ ?_)
   refine QA.go (ZP w6 rfl (.tmp 28) (.tmp 32) 153 rfl w1.heap.size 160 i0 _ 3 40 Tryz.underlying153 hi.out hz0 hz1 hz2 rfl (by decide) (.slice Av pre.length cv) pre.length (jk ps) (by exact rfl) ho #[.int .i64 0,.slice A9 ys.length c9,.int .i64 (p:Int)] (by exact rfl) rfl (by simp[Value.oneCell']) (by omega) (by decide) xx6.size ?_)
   intro v' W' hown' hg hB hat
   have hF:jW w1.heap.size W' v' (pre++[(0,ys,p)]):=jW.push (s:=(0,ys,p)) xx6.size e0 hpp.out hips.out hsx.out hown' hg hat
   have hBW:Ext w W':=x1.trans (Below.trans xx6 hB)
   replace hF:=zH hF
   replace hBW:=zH hBW
   clear hown' hg hat hB
   go_wp2_with fail
   go_ret
   exact⟨_,rfl,by rw[hf2.out];exact hF.out.toE.mono z1,hBW.out⟩
  ·have hh1:((h:Int) == 0)=false:=by rw[beq_eq_false_iff_ne];omega
   have hh2:decide (h=0)=false:=decide_eq_false (by omega)
   obtain⟨h',hh⟩:∃ h',h=h'+1:=⟨h-1,by omega⟩
   obtain⟨j,hj⟩:∃ j,Kx ys (k,i,o)=j:=⟨_,rfl⟩
   have hjl:j<ys.length:=by rw[←hj];exact JD (hpos.out h0)
   obtain⟨b',e1,f8,f256,zs,e4,e5⟩:=Js (h:=h') (by rw[←hh];exact vc hsp.out _ (List.getElem_mem hjl))
   have hfl:full=(pre++[(h,ys,j)])++VD S (k,i,o) h' zs:=by
    rw[hfull.out,hh,qax (by rw[hj];exact zL hjl) (by rw[e1,Int.toNat_natCast];exact e4),hj,List.append_assoc]
    rfl
   have hms:Kp S (.int .i64 (b':Int))<Kp S (.int .i64 (r:Int)):=by rw[XR e4,hlv.out];omega
   obtain⟨b9,off,rfl,hb9⟩:=hA (by omega)
   have hfin:∀ (v':Value) (W':World),w6.ownsRow w1.heap.size 160 3 (.slice Av pre.length cv) pre.length (jk ps)→W'.ownsRow w1.heap.size 160 3 v' (pre.length+1) (jk ps++[.int .i64 (h:Int),.slice (some ⟨b9,off,none⟩) ys.length c9,.int .i64 (j:Int)])→w6.grownBy W' (Value.slice Av pre.length cv).ownBlock→(v'.ownBlock=(Value.slice Av pre.length cv).ownBlock∨∃ g,v'.ownBlock=some g∧w6.heap.size≤g)→Below w1.heap.size w6 W' →
     WyI S (k,i,o) full w1.heap.size w1 v' (.int .i64 (b':Int)) W'∧Kp S (.int .i64 (b':Int))<Kp S (.int .i64 (r:Int)):=fun v' W' _ hown' hg hat hB=>by
    obtain⟨A7,c7,rfl,-,-⟩:=qw hown'
    have hF:jW w1.heap.size W' (.slice A7 (pre.length+1) c7) (pre++[(h,ys,j)]):=jW.push (s:=(h,ys,j)) xx6.size e0 hpp.out hips.out hsx.out hown' hg hat
    exact⟨⟨h',b',zs,_,A7,c7,by simp,rfl,f8,f256,e4,e5,hfl,by simp;omega,hF,Below.trans xx6 hB⟩,hms⟩
   have hit:∀ W':World,w6.grownBy W' (Value.slice Av pre.length cv).ownBlock→W'.cell? ⟨b9,off+j*5+3,none⟩=some (.int .i64 (b':Int))∧W'.heap[w4.heap.size]?=some (.cells #[.int .i64 (h:Int),.slice (some ⟨b9,off,none⟩) ys.length c9] 49 (0,0)):=fun W' hg=>by
    obtain⟨A',c',-,-,-,d3,-,-⟩:=(show Its W' W'.heap.size (.slice (some ⟨b9,off,none⟩) ys.length c9) ys by have:=hsx.out.its (hgr.out W' hg);rw[hips.out] at this;exact this).item j hjl
    rw[e1] at d3
    refine⟨d3,(hg.block _ (zG.1 rn6).1 fun e=>?_).trans rn6⟩
    have:=hso'.out _ e.symm
    omega
   replace hfin:=zH hfin
   replace hit:=zH hit
   replace hpos:=zH hpos
   replace hh:=zH hh
   clear hA hfl hms e4 e5 hsp hn hfull hlv hpp hgr
   have hcase:(ie=true∧p=j)∨(ie=false∧max (0:Int) ((p:Int)-1)=(j:Int)):=by
    unfold Kx at hj
    rw[hie,hp] at hj
    cases ie
    ·right
     refine⟨rfl,?_⟩
     simp only[Bool.false_eq_true,if_false] at hj
     omega
    ·left
     exact⟨rfl,by simpa using hj⟩
   clear hie hp hj
   rcases hcase with ⟨rfl,rfl⟩|⟨rfl,hmax⟩
   ·go_wp2_with (at_builtin;refine qZ ?_)
    refine QA.go (ZP w6 rfl (.tmp 39) (.tmp 43) 153 rfl w1.heap.size 160 i0 _ 3 40 Tryz.underlying153 hi.out hz0 hz1 hz2 rfl (by decide) (.slice Av pre.length cv) pre.length (jk ps) (by exact rfl) ho #[.int .i64 (h:Int),.slice (some ⟨b9,off,none⟩) ys.length c9,.int .i64 (p:Int)] (by exact rfl) rfl (by simp[Value.oneCell']) (by omega) (by decide) xx6.size ?_)
    intro v' W' hown' hg hB hat
    obtain⟨d3,rnW⟩:=hit.out W' hg
    have knW:=qa rnW
    have hF:=zH (hfin.out v' W' ho hown' hg hat hB)
    clear hfin hit hown' hg hat hB ho
    go_wp2_with fail
    exact hF.out
   ·go_wp2_with (at_builtin;refine qZ ?_)
    refine QA.go (ZP w6 rfl (.tmp 39) (.tmp 43) 153 rfl w1.heap.size 160 i0 _ 3 40 Tryz.underlying153 hi.out hz0 hz1 hz2 rfl (by decide) (.slice Av pre.length cv) pre.length (jk ps) (by exact rfl) ho #[.int .i64 (h:Int),.slice (some ⟨b9,off,none⟩) ys.length c9,.int .i64 (j:Int)] (by exact rfl) rfl (by simp[Value.oneCell']) (by omega) (by decide) xx6.size ?_)
    intro v' W' hown' hg hB hat
    obtain⟨d3,rnW⟩:=hit.out W' hg
    have knW:=qa rnW
    have hF:=zH (hfin.out v' W' ho hown' hg hat hB)
    clear hfin hit hown' hg hat hB ho
    go_wp2_with fail
    exact hF.out
def VX (s:Stp):Bool:=decide (s.2.1.length<5)
def ThinIx (l:List Stp) (u:Value):Prop:=(∃ j:Nat,u=.int .i64 (j:Int)∧l.any VX=true)∨(u=.int .i64 (-1)∧l.any VX=false)
set_option maxRecDepth 100000 in
theorem qij (lvl p:Int) (A:Option Addr) (n c:Nat) (w:World):Calls Tryz.prog 145 #[.agg #[.int .i64 lvl,.slice A n c,.int .i64 p]] w (Ret (.bool (decide (n<5))) w):=by
 go_enter Tryz.func145,Tryz.ntmps145
 by_cases h:n<5
 ·have h1:decide ((n:Int)<5)=true:=decide_eq_true (by omega)
  rw[decide_eq_true h]
  replace h:=zH h
  go_wp2
  go_ret
  exact⟨rfl,zN _ _⟩
 ·have h1:decide ((n:Int)<5)=false:=decide_eq_false (by omega)
  rw[decide_eq_false h]
  replace h:=zH h
  go_wp2
  go_ret
  exact⟨rfl,zN _ _⟩
set_option maxRecDepth 100000 in
theorem qhY (v:Value) (l:List Stp) (hl:l.length≤100) (w:World) (h:VO w.heap.size w v l) :
  Calls Tryz.prog 168 #[v,.func (.func 145) #[] #[]] w (zE (fun u _=>ThinIx l u) w):=by
 obtain⟨ps,hps,⟨A,c,rfl,hc1,hc2,hr⟩,hpp⟩:=h
 have hpl:ps.length=l.length:=by rw[←hps,List.length_map]
 replace hr:=zH hr
 replace hc2:=zH hc2
 go_enter Tryz.func168,Tryz.ntmps168
 go_wp2_with fail
 go_loopw [8] (fun i wr=>∃ k:Nat,k≤l.length∧i=.int .i64 (k:Int)∧Ext w wr∧(l.take k).any VX=false) (fun i _=>l.length-(intOf i).toNat)
 case atStart=>exact⟨0,Nat.zero_le _,rfl,Ext.refl _,rfl⟩
 case round =>
  obtain⟨k,hk,rfl,xr,hno⟩:=hrel
  replace hno:=zH hno
  by_cases hlt:k<l.length
  ·obtain⟨bv,offv,rfl,hbv,hcel⟩:=hr.out.2 (by omega)
   have hkp:k<ps.length:=by omega
   obtain⟨d0,d1,d2⟩:=Yz ps k hkp
   replace d0:=Ext.cell xr (hcel _ _ d0)
   replace d1:=Ext.cell xr (hcel _ _ d1)
   replace d2:=Ext.cell xr (hcel _ _ d2)
   rw[←Nat.add_assoc] at d1 d2
   obtain⟨Ax,cx,hx2⟩:=(hpp ps[k] (List.getElem_mem hkp)).1
   have hxe:ps[k].1=l[k]:=by simp only[←hps,List.getElem_map]
   rw[hx2,hxe] at d1
   rw[hxe] at d0 d2
   have HAT:=zH (fun (he:VX l[k]=true)=>show l.any VX=true from List.any_eq_true.2 ⟨l[k],List.getElem_mem hlt,he⟩)
   have HNO:=zH (fun (he:VX l[k]=false)=>show (l.take (k+1)).any VX=false by rw[List.take_succ_eq_append_getElem hlt,List.any_append,hno.out];simp[he])
   unfold VX at HAT HNO
   generalize l[k]=u at *
   obtain⟨ul,uxs,up⟩:=u
   dsimp only at d0 d1 d2 HAT HNO
   clear hcel hx2 hxe
   have hw64:=zH (IntWalk.wrap64_in ((k:Int)+1) (by omega))
   have hV:=qij (ul:Int) (up:Int) Ax uxs.length cx wr
   go_wp2_with fail
   refine hV.mono ?_
   rintro e w2 ⟨rfl,hB⟩
   clear d0 d1 d2 hV
   by_cases he:uxs.length<5
   ·rw[decide_eq_true he]
    have HQ:=zH (HAT.out (decide_eq_true he))
    clear HAT HNO
    replace he:=zH he
    go_wp2_with fail
    refine bodyPost_ret (v:=.int .i64 (k:Int)) ?_ rfl ⟨_,rfl,.inl ⟨k,rfl,HQ.out⟩,Ext.trans xr hB⟩
    simp[results,Tryz.results168,go_sem]
   ·rw[decide_eq_false he]
    have HQ:=zH (HNO.out (decide_eq_false he))
    clear HAT HNO
    replace he:=zH he
    have hw1:=hw64.out
    go_wp2_with fail
    refine⟨⟨k+1,hlt,rfl,Ext.trans xr hB,HQ.out⟩,?_⟩
    simp[intOf]
    omega
  ·obtain rfl:k=l.length:=by omega
   have HQ:=zH (show l.any VX=false by have:=hno.out;rwa [List.take_length] at this)
   go_wp2_with fail
   refine bodyPost_ret (v:=.int .i64 (-1)) ?_ rfl ⟨_,rfl,.inr ⟨rfl,HQ.out⟩,xr⟩
   simp[results,Tryz.results168,go_sem]
set_option maxRecDepth 100000 in
theorem thin_any (v:Value) (l:List Stp) (hl:l.length≤100) (w:World) (h:VO w.heap.size w v l) :
  Calls Tryz.prog 144 #[v,.func (.func 145) #[] #[]] w (Ret (.bool (l.any VX)) w):=by
 have HX:=qhY v l hl w h
 clear h
 go_enter Tryz.func144,Tryz.ntmps144
 go_wp2_with fail
 refine HX.mono ?_
 rintro e w2 ⟨u,rfl,hu,hB⟩
 rcases hu with ⟨j,rfl,hj⟩|⟨rfl,hj⟩
 ·have hd:decide ((0:Int)≤(j:Int))=true:=decide_eq_true (by omega)
  go_wp2_with fail
  go_ret
  exact⟨by rw[hj];rfl,hB⟩
 ·go_wp2_with fail
  go_ret
  exact⟨by rw[hj];rfl,hB⟩
set_option maxRecDepth 100000 in
theorem tall_any (v:Value) (l:List Stp) (hl:l.length≤100) (hl0:0<l.length) (k i o:Int) (hl5:∀ s∈l,s.2.1.length≤5) (w:World) (h:VO w.heap.size w v l) :
  Calls Tryz.prog 99 #[v,keyV k i o] w (Ret (.bool (Ug (k,i,o) l)) w):=by
 have HT:=zH (fun W (hx:Ext w W)=>thin_any v l hl W ((h.below hx).more hx.size))
 obtain⟨ps,hps,⟨A,c,rfl,hc1,hc2,hr⟩,hpp⟩:=h
 have hpl:ps.length=l.length:=by rw[←hps,List.length_map]
 obtain⟨bv,offv,rfl,hbv,hcel⟩:=hr.2 hl0
 obtain⟨m,hm⟩:∃ m,l.length=m+1:=⟨l.length-1,by omega⟩
 have hmp:m<ps.length:=by omega
 have hml:m<l.length:=by omega
 obtain⟨d0,d1,d2⟩:=Yz ps m hmp
 replace d0:=hcel _ _ d0
 replace d1:=hcel _ _ d1
 replace d2:=hcel _ _ d2
 rw[←Nat.add_assoc] at d1 d2
 obtain⟨⟨Ax,cx,hx2⟩,hits⟩:=hpp ps[m] (List.getElem_mem hmp)
 have hxe:ps[m].1=l[m]:=by simp only[←hps,List.getElem_map]
 rw[hx2,hxe] at d1 hits
 rw[hxe] at d0
 have hlast:l.getLast?=some l[m]:=by rw[List.getLast?_eq_getElem?,hm,Nat.add_sub_cancel];exact zL hml
 have hq:Ug (k,i,o) l=(decide (l.length=6) && !(l.any VX) && !(KS l[m].2.1 (k,i,o))):=by
  unfold Ug
  rw[hlast]
  simp only
  congr 2
  rw[Bool.eq_iff_iff]
  simp[List.all_eq_true,VX]
 have hu5:=hl5 l[m] (List.getElem_mem hml)
 rw[hq]
 generalize l[m]=u at *
 obtain⟨ul,uxs,up⟩:=u
 dsimp only at d0 d1 hits hu5 ⊢
 have HP:=zH (fun W (hx:Ext w W)=>GX (ul:Int) Ax cx uxs k i o W hu5 ((hits.below hx).more hx.size))
 clear hq hlast hcel hr hx2 hxe hpp hits d2 hps
 replace hm:=zH hm
 have hmk:m<l.length:=hml
 generalize l.any VX=bt at *
 generalize KS uxs (k,i,o)=bi at *
 generalize qL uxs (k,i,o)=pn at *
 replace hc2:=zH hc2
 go_enter Tryz.func99,Tryz.ntmps99
 go_wp2_with fail
 generalize hw1:World.alloc _ _=w1
 have x1:Ext w w1:=by rw[←hw1];exact zN _ _
 have r1:w1.heap[w.heap.size]?=some (.cells #[.int .u8 k,.int .u32 i,.int .u32 o] 66 (0,0)):=by rw[←hw1];exact zI _ _ _ rfl
 clear hw1
 refine(HT.out w1 x1).mono ?_
 clear HT
 rintro e w2 ⟨rfl,hB⟩
 have x2:Ext w w2:=x1.trans hB
 have r2:=qb r1 hB
 clear r1 hB x1
 go_upto_region 2 with fail
 have g0:∀ W,ql.r w2 W→W.cell? ⟨bv,offv+m*3,none⟩=some (.int .i64 (ul:Int)):=fun W h=>Ext.cell (x2.trans h) d0
 have g1:∀ W,ql.r w2 W→W.cell? ⟨bv,offv+m*3+1,none⟩=some (.slice Ax uxs.length cx):=fun W h=>Ext.cell (x2.trans h) d1
 have g2:∀ W,ql.r w2 W→∀ i_1,W.cell? ⟨w.heap.size,i_1,none⟩=#[.int .u8 k,.int .u32 i,.int .u32 o][i_1]?:=fun W h=>qa (qb r2 h)
 clear d0 d1
 have hwl:=zH (show IntKind.i64.wrap ((l.length:Int)-1)=(m:Int) by rw[IntKind.wrap_i64];have:=hm.out;omega)
 refine qm (by kernel_rfl) ?_
 refine qO (w:=w2) ql (qE [(8,one (.tuple #[.int .i64 (pn:Int),.bool bi]))]) (List.replicate 14 true) 0 (by kernel_rfl) (by kernel_rfl) (by kernel_rfl) (by kernel_rfl) (by kernel_rfl) (by kernel_rfl) (by kernel_rfl) ?st (Rel.drew _ _) ?walk
 case st=>exact qk (by simp only[List.forall_mem_cons];exact⟨qer _,fun _ h=>by cases h⟩)
 case walk =>
  intro K hK
  dsimp only[qp,List.replicate]
  repeat ((first|(refine qe ?_ (by rfl) (by rfl) (fun W hW _=>⟨W,?_,Rel.refl _ W⟩) ?_;rotate_left;(first|(go_simp;with_reducible rfl)|(go_simp;done)))|(refine qh (by rfl) ?_));try simp only[Act.put,qj,qf,qc,qg,zA,zB,zC])
  refine qe (.pointer (some ⟨bv,offv+m*3,none⟩)) (by rfl) (by rfl) (fun W hW _=>⟨W,?_,Rel.refl _ W⟩) ?_
  ·go_simp
   rw[hwl.out,if_pos (by omega)]
   simp
  simp only[Act.put,qj,qf,qc,qg,zA,zB,zC]
  repeat ((first|(refine qe ?_ (by rfl) (by rfl) (fun W hW _=>⟨W,?_,Rel.refl _ W⟩) ?_;rotate_left;(first|(go_simp;with_reducible rfl)|(go_simp;done)))|(refine qh (by rfl) ?_));try simp only[Act.put,qj,qf,qc,qg,zA,zB,zC])
  refine qv (one _) (by rfl) (by rfl) (fun W hW _=>?_) (fun (_:Unit)=>?_)
  ·have hW':Ext w2 W:=hW
   refine Qc ?_ ((HP.out W (x2.trans hW')).mono fun e w' h=>⟨(),h.1,trivial,h.2⟩)
   go_simp
  simp only[Act.put,qj,qf,qc,qg,zA,zB,zC]
  repeat ((first|(refine qe ?_ (by rfl) (by rfl) (fun W hW _=>⟨W,?_,Rel.refl _ W⟩) ?_;rotate_left;(first|(go_simp;with_reducible rfl)|(go_simp;done)))|(refine qh (by rfl) ?_));try simp only[Act.put,qj,qf,qc,qg,zA,zB,zC])
  refine qt (hK _ _ fun W hW hF=>?_)
  clear hF hK
  have hW:Ext w2 W:=hW
  have xW:Ext w W:=x2.trans hW
  dsimp only[List.drop,List.length_cons,List.length_nil,Nat.reduceAdd,Nat.reduceSub]
  go_wp2
  refine Qo ?_
  clear HP g0 g1 g2 r2
  by_cases h6:l.length=6
  ·have e6:((l.length:Int) == 6)=true:=by rw[beq_iff_eq];omega
   have d6:=decide_eq_true h6
   replace h6:=zH h6
   cases bt
   ·cases bi
    all_goals
     go_wp2_with fail
     go_ret
     exact⟨by rw[d6];rfl,xW⟩
   ·go_wp2_with fail
    go_ret
    exact⟨by rw[d6];rfl,xW⟩
  ·have e6:((l.length:Int) == 6)=false:=by rw[beq_eq_false_iff_ne];omega
   have d6:=decide_eq_false h6
   replace h6:=zH h6
   go_wp2_with fail
   go_ret
   exact⟨by rw[d6];rfl,xW⟩
def vl:List UInt8→Nat
 | []=>0
 |x :: r=>x.toNat+vl r
theorem qar:∀ (t:List UInt8) (a:Nat) (x:UInt8),a<t.length→vl (t.set a x)+Qj t a=vl t+x.toNat
 | [],a,x,h=>by simp at h
 |y :: r,0,x,h=>by simp[vl,Qj];omega
 |y :: r,a+1,x,h=>by
  have:=qar r a x (by simpa using h)
  simp only[zC,vl]
  have e:Qj (y :: r) (a+1)=Qj r a:=by simp[Qj]
  rw[e]
  omega
theorem XV {t:List UInt8} {a:Nat} (h:t.length≤a):Qj t a=0:=by
 unfold Qj
 rw[List.getElem?_eq_none h]
 rfl
theorem YP {t:List UInt8} {a:Nat} (h:a<t.length) (x:UInt8):Qj (t.set a x) a=x.toNat:=by
 unfold Qj
 rw[List.getElem?_set_self h]
 rfl
theorem KU {t:List UInt8} {a j:Nat} (h:j≠a) (x:UInt8):Qj (t.set a x) j=Qj t j:=by
 unfold Qj
 rw[List.getElem?_set_ne (by omega)]
theorem UU (t:List UInt8) (a:Nat):Qj t a<256:=(t[a]?.getD 0).toNat_lt
theorem GG {t:List UInt8} {a:Nat} (h:Qj t a≠0):vl (kh t a)+1=vl t:=by
 have hl:a<t.length:=by
  by_cases h1:a<t.length
  ·exact h1
  ·exact absurd (XV (by omega)) h
 have e:=qar t a (UInt8.ofNat (Qj t a-1)) hl
 have h2:=UU t a
 have h3:(UInt8.ofNat (Qj t a-1)).toNat=Qj t a-1:=by rw[UInt8.toNat_ofNat'];omega
 unfold kh
 omega
theorem qgx (t:List UInt8) (a j:Nat):Qj (kh t a) j≤Qj t j:=by
 unfold kh
 by_cases hj:j=a
 ·subst hj
  by_cases hl:j<t.length
  ·rw[YP hl]
   have h2:=UU t j
   rw[UInt8.toNat_ofNat']
   omega
  ·rw[XV (by simpa using hl)]
   omega
 ·rw[KU hj]
  omega
theorem Tv {t:List UInt8} {a:Nat} (h:Qj t a=1):vl (t.set a 0)+1=vl t:=by
 have hl:a<t.length:=by
  by_cases h1:a<t.length
  ·exact h1
  ·rw[XV (by omega)] at h;cases h
 have e:=qar t a 0 hl
 rw[h] at e
 simpa using e
theorem zero_le (t:List UInt8) (a j:Nat):Qj (t.set a 0) j≤Qj t j:=by
 by_cases hj:j=a
 ·subst hj
  by_cases hl:j<t.length
  ·rw[YP hl]
   simp
  ·rw[XV (by simpa using hl)]
   omega
 ·rw[KU hj]
  omega
theorem Yp:∀ {l:List Nat} {t t':List UInt8},QH l t=.ok t'→vl t'≤vl t∧∀ j,Qj t' j≤Qj t j
 | [],t,t',e=>by cases e;exact⟨zM _,fun _=>zM _⟩
 |a :: l,t,t',e=>by
  by_cases ha:a=0
  ·subst ha
   rw[Jf] at e
   exact Yp e
  ·by_cases h0:Qj t a=0
   ·rw[JC ha h0] at e;cases e
   ·rw[Je ha h0] at e
    obtain⟨h1,h2⟩:=Yp e
    have:=GG h0
    exact⟨by omega,fun j=>Nat.le_trans (h2 j) (qgx t a j)⟩
theorem qfX {S:Sto} {t:List UInt8} {a:Nat} (h:Qj t a≠0) (hle:Qj t a≤Qj S.now a):qu (qy S t) a=qu S a:=by
 have e1:qu (qy S t) a=if Qj t a=0 then none else QF (Jn S a):=rfl
 have e2:qu S a=if Qj S.now a=0 then none else QF (Jn S a):=rfl
 rw[e1,e2,if_neg h,if_neg (by omega)]
theorem qfC {S:Sto} {a:Nat} {lvl:Int} {xs:List It} (h:qu S a=some (lvl,xs)) (hl:0<lvl):∀ r∈qX xs,8≤r∧r<256:=fun r hr=>by
 have h1:=YA h r hr
 obtain⟨x,hx,rfl⟩:=List.mem_map.1 hr
 have hm:=(Qb h).1
 have hio:=((Qb h).2.1 x hx).1.2.2.2.1.1
 unfold Qg at hm
 simp only[Bool.and_eq_true] at hm
 obtain⟨i,hi,e⟩:=List.mem_iff_getElem.1 hx
 have h2:=List.all_eq_true.1 hm.2 i (List.mem_range.2 hi)
 unfold Uz at h2
 rw[zL hi] at h2
 simp only[Bool.and_eq_true] at h2
 have h3:=h2.2
 rw[e,decide_eq_true hl] at h3
 have h4:x.r≠0:=by
  intro h5
  rw[h5] at h3
  simp at h3
 omega
structure LvI (S:Sto) (a:Nat) (st:List (Nat×Int)) (t:List UInt8):Prop where
 eq:QI S (-1) S.now a=jX S st.reverse t
 may:Ql t=true
 le:∀ j,Qj t j≤Qj S.now j
 few:st.length+5*vl t≤5*vl S.now+1
 at_:∀ p∈st,8≤p.1∧p.1<256∧-1≤p.2∧p.2<6
theorem qfV (S:Sto) (x:Nat×Int) (t:List UInt8):jX S [x] t=QI S x.2 t x.1:=by
 unfold jX
 cases QI S x.2 t x.1 <;> rfl
theorem LvI.start {S:Sto} (hS:qo S=true) {a:Nat} (ha:8≤a) (ha2:a<256):LvI S a [(a,-1)] S.now:=by
 refine⟨(qfV S (a,-1) S.now).symm,(qz.1 hS).2.1,fun _=>zM _,by simp;omega,fun p hp=>?_⟩
 obtain rfl:p=(a,-1):=by simpa using hp
 exact⟨ha,ha2,by simp,by simp⟩
theorem LvI.done {S:Sto} {a:Nat} {t:List UInt8} (h:LvI S a [] t):QI S (-1) S.now a=some t:=h.eq
section
variable {S:Sto} {a:Nat} {s:List (Nat×Int)} {x:Nat×Int} {t:List UInt8}
theorem LvI.eq' (h:LvI S a (s++[x]) t):QI S (-1) S.now a=match QI S x.2 t x.1 with
  |none=>none
  |some t'=>jX S s.reverse t':=by
 rw[h.eq,List.reverse_append]
 rfl
theorem LvI.top (h:LvI S a (s++[x]) t):8≤x.1∧x.1<256∧-1≤x.2∧x.2<6:=h.at_ x (by simp)
theorem LvI.bad0 (h:LvI S a (s++[x]) t) (h0:Qj t x.1=0):QI S (-1) S.now a=none:=by
 rw[h.eq',KV,if_pos h0]
theorem LvI.more (h:LvI S a (s++[x]) t) (h1:1<Qj t x.1):LvI S a s (kh t x.1):=by
 have hd:=GG (t:=t) (a:=x.1) (by omega)
 have hf:=h.few
 simp only[List.length_append,List.length_cons,List.length_nil] at hf
 refine⟨?_,ZB h.may h.top.1 _,fun j=>Nat.le_trans (qgx t x.1 j) (h.le j),by omega,fun p hp=>h.at_ p (by simp[hp])⟩
 rw[h.eq',KV,if_neg (by omega),if_pos h1]
theorem LvI.one (h:LvI S a (s++[x]) t) (h1:Qj t x.1=1):QI S (-1) S.now a=match (match qu S x.1 with
  |none=>none
  |some (l,xs)=>if 0≤x.2∧l≠x.2 then none else if 0<l then jX S ((qX xs).map fun r=>(r,l-1)) (t.set x.1 0) else
   match QH (qX xs) (t.set x.1 0) with
   | .error _=>none
   | .ok t'=>some t') with
  |none=>none
  |some t'=>jX S s.reverse t':=by
 rw[h.eq',KV,if_neg (by omega),if_neg (by omega)] <;> rfl
theorem LvI.none_ (h:LvI S a (s++[x]) t) (h1:Qj t x.1=1) (hn:qu S x.1=none):QI S (-1) S.now a=none:=by
 rw[h.one h1,hn]
theorem LvI.level (h:LvI S a (s++[x]) t) (h1:Qj t x.1=1) {l:Int} {xs:List It} (hn:qu S x.1=some (l,xs)) (h0:0≤x.2) (hl:l≠x.2):QI S (-1) S.now a=none:=by
 rw[h.one h1,hn]
 simp only
 rw[if_pos ⟨h0,hl⟩]
theorem LvI.push (h:LvI S a (s++[x]) t) (h1:Qj t x.1=1) {l:Int} {xs:List It} (hn:qu S x.1=some (l,xs)) (h0:¬(0≤x.2∧l≠x.2)) (hl:0<l):LvI S a (s++((qX xs).map fun r=>(r,l-1)).reverse) (t.set x.1 0):=by
 have hd:=Tv h1
 have hf:=h.few
 have h6:=ZW hn
 have hlen:(qX xs).length=xs.length:=by unfold qX;simp
 simp only[List.length_append,List.length_cons,List.length_nil] at hf
 refine⟨?_,ZB h.may h.top.1 _,fun j=>Nat.le_trans (zero_le t x.1 j) (h.le j),by simp only[List.length_append,List.length_reverse,List.length_map];omega,fun p hp=>?_⟩
 ·rw[h.one h1,hn,List.reverse_append,List.reverse_reverse,YT]
  simp only
  rw[if_neg h0,if_pos hl] <;> rfl
 ·rcases List.mem_append.1 hp with hp|hp
  ·exact h.at_ p (by simp[hp])
  ·obtain⟨r,hr,rfl⟩:=List.mem_map.1 (List.mem_reverse.1 hp)
   have:=qfC hn hl r hr
   exact⟨this.1,this.2,by simp only;omega,by simp only;omega⟩
theorem LvI.leafBad (h:LvI S a (s++[x]) t) (h1:Qj t x.1=1) {l:Int} {xs:List It} (hn:qu S x.1=some (l,xs)) (h0:¬(0≤x.2∧l≠x.2)) (hl:¬0<l) {e:Int} (he:QH (qX xs) (t.set x.1 0)=.error e):QI S (-1) S.now a=none:=by
 rw[h.one h1,hn]
 simp only
 rw[if_neg h0,if_neg hl,he]
theorem LvI.leaf (h:LvI S a (s++[x]) t) (h1:Qj t x.1=1) {l:Int} {xs:List It} (hn:qu S x.1=some (l,xs)) (h0:¬(0≤x.2∧l≠x.2)) (hl:¬0<l) {t':List UInt8} (he:QH (qX xs) (t.set x.1 0)=.ok t'):LvI S a s t':=by
 have hd:=Tv h1
 obtain⟨hs,hj⟩:=Yp he
 have hf:=h.few
 simp only[List.length_append,List.length_cons,List.length_nil] at hf
 refine⟨?_,JG (fun b hb=>(YA hn b hb).1) (ZB h.may h.top.1 _) he,fun j=>Nat.le_trans (hj j) (Nat.le_trans (zero_le t x.1 j) (h.le j)),by omega,fun p hp=>h.at_ p (by simp[hp])⟩
 rw[h.one h1,hn]
 simp only
 rw[if_neg h0,if_neg hl,he]
end
def mixL:List Bool→Nat→List Value→(Nat→Value)→List Value
 | [],_,l,_=>l
 |_ :: _,_,[],_=>[]
 |b :: m,i,x :: r,g=>(bif b then g i else x) :: mixL m (i+1) r g
def qap (D:Nat):Deferred:={ target:=.collected D,args:=#[] }
theorem qcJ {P:Program} {Q:Exit→Act→World→Prop} {tm:List Value} {w:World} {c:Code} (mask:List Bool) (n₀:Nat) (rel:Nat→(Nat→Value)→List Nat→World→Prop) (h₀:rel n₀ (fun i=>tm.getD i undef) [] w) (hmix:mixL mask 0 tm (fun i=>tm.getD i undef)=tm)
  (round:∀ (n:Nat) (g:Nat→Value) (Ds:List Nat) (wr:World) (K:Act→World→Prop),rel n g Ds wr→(∀ (n':Nat) (g':Nat→Value) (Ds':List Nat) (w':World),n'<n→rel n' g' Ds' w'→K { tmps:=(mixL mask 0 tm g').toArray,defers:=Ds'.map qap } w')→c.wp P (Exit.then K Q) { tmps:=(mixL mask 0 tm g).toArray,defers:=Ds.map qap } wr) :
  (Code.loop c).wp P Q { tmps:=tm.toArray,defers:=[] } w:=by
 refine wp_loop_ghost (fun n a w=>∃ g Ds,a={ tmps:=(mixL mask 0 tm g).toArray,defers:=Ds.map qap }∧rel n g Ds w) n₀ ⟨_,[],by rw[hmix];rfl,h₀⟩ ?_
 rintro n a wr ⟨g,Ds,rfl,h⟩
 exact round n g Ds wr _ h fun n' g' Ds' w' hlt hr=>⟨n',hlt,g',Ds',rfl,hr⟩
theorem Gr {mask:List Bool} {tm:List Value} {n:Nat} {rel:Nat→(Nat→Value)→List Nat→World→Prop} {K:Act→World→Prop} (hK:∀ (n':Nat) (g':Nat→Value) (Ds':List Nat) (w':World),n'<n→rel n' g' Ds' w'→K { tmps:=(mixL mask 0 tm g').toArray,defers:=Ds'.map qap } w') {l:List Value} {df:List Deferred} {w':World} (n':Nat) (hlt:n'<n) (Ds':List Nat) (hdf:df=Ds'.map qap)
  (heq:l=mixL mask 0 tm (fun i=>l.getD i undef)) (hr:rel n' (fun i=>l.getD i undef) Ds' w'):K { tmps:=l.toArray,defers:=df } w':=by
 have:=hK n' _ Ds' w' hlt hr
 rw[←heq] at this
 rwa [hdf]
structure jn (lo:Nat) (Ds:List Nat) (w:World):Prop where
 nodup:Ds.Nodup
 at_:∀ D∈Ds,lo≤D∧w.heap[D]?=some (.deferred (some []))
theorem jn.nil (lo:Nat) (w:World):jn lo [] w:=⟨List.nodup_nil,fun _ h=>by cases h⟩
theorem jn.keep {lo:Nat} {Ds:List Nat} {w W:World} (h:jn lo Ds w) (hk:∀ (q:Nat) (o:Obj),w.heap[q]?=some o→o.isCells=false→W.heap[q]?=some o):jn lo Ds W:=⟨h.nodup,fun D hD=>⟨(h.at_ D hD).1,hk D _ (h.at_ D hD).2 rfl⟩⟩
theorem jn.cons {lo:Nat} {Ds:List Nat} {w W:World} (h:jn lo Ds w) (hk:∀ (q:Nat) (o:Obj),w.heap[q]?=some o→o.isCells=false→W.heap[q]?=some o) {D:Nat} (hD:w.heap.size≤D) (hl:lo≤D) (hr:W.heap[D]?=some (.deferred (some []))):jn lo (D :: Ds) W:=by
 have h1:=h.keep hk
 refine⟨List.nodup_cons.2 ⟨fun hm=>?_,h1.nodup⟩,fun q hq=>?_⟩
 ·have:=(zG.1 (h.at_ D hm).2).1
  omega
 ·rcases List.mem_cons.1 hq with rfl|hq
  ·exact⟨hl,hr⟩
  ·exact h1.at_ q hq
theorem XQ {F:Fence} {n:Nat} {P:Program} {fn:Func} {tmps:Array Value} {R:Ending→World→Prop} {lo:Nat}:∀ (Ds:List Nat) (W:World),jn lo Ds W →
  (∀ W',(∀ q,q∉Ds→W'.heap[q]?=W.heap[q]?)→W'.heap.size=W.heap.size→W'.os=W.os→W'.tape=W.tape→W'.output=W.output→LeavesIn F n P fn tmps R [] .returning W')→LeavesInM F n P fn tmps R (Ds.map qap) .returning W
 | [],W,_,h=>h W (fun _ _=>rfl) rfl rfl rfl rfl
 |D :: Ds,W,hm,h=>by
  refine⟨by simp,.inl ⟨D,_,rfl,run_takeDeferred (hm.at_ D List.mem_cons_self).2,?_⟩⟩
  have hnd:=List.nodup_cons.1 hm.nodup
  refine XQ (lo:=lo) Ds (W.putObj D (.deferred none)) ⟨hnd.2,fun q hq=>⟨(hm.at_ q (List.mem_cons_of_mem _ hq)).1,(World.putObj_heap_other (o:=.deferred none) (fun e=>by subst e;exact hnd.1 hq)).trans (hm.at_ q (List.mem_cons_of_mem _ hq)).2⟩⟩ ?_
  intro W' h1 h2 h3 h4 h5
  refine h W' (fun q hq=>?_) ?_ ?_ ?_ ?_
  ·exact(h1 q fun hx=>hq (List.mem_cons_of_mem _ hx)).trans (World.putObj_heap_other (o:=.deferred none) fun e=>hq (by rw[e];exact List.mem_cons_self))
  ·rw[h2];simp
  ·rw[h3];rfl
  ·rw[h4];rfl
  ·rw[h5];rfl
end Go.Proofs.YtpbniokljofedaaGreat
namespace Go.Proofs.YtpbniokljofedaaGreat
open Go.RowKit Go.Shelf
attribute [local go_sem] Oper.semAt_some
abbrev Ui:Type:=It×Sl
abbrev uiz:Ui:=((⟨0,0,0,0,[]⟩:It),(none,0,0))
set_option maxRecDepth 100000 in
theorem backi_in (n:Nat) (hn:1≤n) (l Bs b off len cap:Nat) (us:List Ui) (hreach:len<1099511627776) (J Jx:List Nat→World→Prop)
  (hY:∀ pre (x:Nat) W,J pre W→pre.length<len→YieldAt Fence.wide (n-1) Tryz.prog l #[.int .i64 (x:Int),.agg #[.int .u8 (us[x]?.getD uiz).1.k,.int .u32 (us[x]?.getD uiz).1.i,.int .u32 (us[x]?.getD uiz).1.o,.int .i64 (us[x]?.getD uiz).1.r,sv (us[x]?.getD uiz).2]] W fun e W' =>
   (e=.returned (.bool true)∧J (pre++[x]) W'∧Qu Bs b W W')∨(e=.returned (.bool false)∧Jx (pre++[x]) W'))
  (W:World) (hBs:W.cell? ⟨Bs,0,none⟩=some (.slice (some ⟨b,off,none⟩) len cap)) (hc:∀ i,i<len→W.cell? ⟨b,off+i*5,none⟩=some (.int .u8 (us[i]?.getD uiz).1.k)∧W.cell? ⟨b,off+i*5+1,none⟩=some (.int .u32 (us[i]?.getD uiz).1.i)∧W.cell? ⟨b,off+i*5+2,none⟩=some (.int .u32 (us[i]?.getD uiz).1.o)∧W.cell? ⟨b,off+i*5+3,none⟩=some (.int .i64 (us[i]?.getD uiz).1.r)∧W.cell? ⟨b,off+i*5+4,none⟩=some (sv (us[i]?.getD uiz).2)) (h0:J [] W) :
  CallsIn Fence.wide n Tryz.prog 170 #[.func (.yield l) #[] #[],.pointer (some ⟨Bs,0,none⟩)] W fun e W'=>(∃ v,e=.returned v) ∧
   ((∃ ys,ys=ZO (fun j=>len-1-j) len∧J ys W')∨(∃ pre,(∃ k,k≤len∧pre=ZO (fun j=>len-1-j) k)∧Jx pre W')):=by
 refine callsIn_of_wp Tryz.func170 rfl trivial ?_ rfl
 simp only[Tryz.ntmps170,List.size_toArray,List.length_cons,List.length_nil,Nat.reduceAdd,Nat.reduceSub,Array.replicate_succ,Array.replicate_zero,List.push_toArray,List.append_toArray,List.nil_append,List.cons_append]
 gi_wp2
 gi_loopw [3] (fun i wr=>∃ k:Nat,k≤len∧i=.int .i64 ((len:Int)-1-k)∧J (ZO (fun j=>len-1-j) k) wr∧Qu Bs b W wr)
  (fun i _=>(intOf i+1).toNat)
 case atStart=>exact⟨0,Nat.zero_le _,by simp,h0,Qu.refl _ _ _⟩
 case round =>
  obtain⟨k,hk,rfl,hJs,hnx⟩:=hrel
  have hBr:wr.cell? ⟨Bs,0,none⟩=some (.slice (some ⟨b,off,none⟩) len cap):=(World.cell?_of_block (w:=W) hnx.1).trans hBs
  by_cases hlt:k<len
  ·obtain⟨fn,tmps,assign,body,hy,hR⟩:=hY _ (len-1-k) wr hJs (by rw[Zc];exact hlt)
   have hc0:=(World.cell?_of_block (w:=W) (a:=⟨b,off+(len-1-k)*5,none⟩) hnx.2).trans (hc (len-1-k) (by omega)).1
   have hc1:=(World.cell?_of_block (w:=W) (a:=⟨b,off+(len-1-k)*5+1,none⟩) hnx.2).trans (hc (len-1-k) (by omega)).2.1
   have hc2:=(World.cell?_of_block (w:=W) (a:=⟨b,off+(len-1-k)*5+2,none⟩) hnx.2).trans (hc (len-1-k) (by omega)).2.2.1
   have hc3:=(World.cell?_of_block (w:=W) (a:=⟨b,off+(len-1-k)*5+3,none⟩) hnx.2).trans (hc (len-1-k) (by omega)).2.2.2.1
   have hc4:=(World.cell?_of_block (w:=W) (a:=⟨b,off+(len-1-k)*5+4,none⟩) hnx.2).trans (hc (len-1-k) (by omega)).2.2.2.2
   try dsimp only at hy
   obtain⟨i,hi⟩:∃ i:Nat,len-1-k=i:=⟨_,rfl⟩
   have hi2:(len:Int)-1-k=(i:Int):=by omega
   have hil:i<len:=by omega
   have hik:k+i+1≤len∧len≤k+i+1:=by omega
   have HU:=zH (vH (fun j=>len-1-j) k)
   obtain⟨u,hu⟩:∃ u,us[i]?.getD uiz=u:=⟨_,rfl⟩
   rw[hi] at hc0 hc1 hc2 hc3 hc4 hy hR
   rw[hu] at hc0 hc1 hc2 hc3 hc4 hy
   rw[hi2]
   clear hi2
   have HE:=zH hu
   clear hu
   have HI:=zH hi
   clear hi
   gi_wp2
   refine hR.mono ?_
   rintro e W3 (⟨rfl,hJ3,hk3⟩|⟨rfl,hJx3⟩)
   ·gi_wp2
    go_roundw
    case rel=>exact⟨k+1,by omega,by go_num,by rw[HU.out,HI.out];exact hJ3,hnx.t hk3⟩
    case measure=>simp[intOf]
   ·gi_wp2
    refine bodyPost_ret (results_none rfl _ _ _) rfl ?_
    exact⟨⟨_,rfl⟩,.inr ⟨_,⟨k+1,by omega,by rw[HU.out,HI.out]⟩,hJx3⟩⟩
  ·obtain rfl:k=len:=by omega
   gi_wp2
   go_end0
   exact⟨⟨_,rfl⟩,.inl ⟨_,rfl,hJs⟩⟩
set_option maxRecDepth 100000 in
theorem qci (n l Bs c:Nat) (A:Option Addr) (J:List Nat→World→Prop) (W:World) (hBs:W.cell? ⟨Bs,0,none⟩=some (.slice A 0 c)) (h0:J [] W) :
  CallsIn Fence.wide n Tryz.prog 170 #[.func (.yield l) #[] #[],.pointer (some ⟨Bs,0,none⟩)] W fun e W'=>(∃ v,e=.returned v)∧J [] W':=by
 refine callsIn_of_wp Tryz.func170 rfl trivial ?_ rfl
 simp only[Tryz.ntmps170,List.size_toArray,List.length_cons,List.length_nil,Nat.reduceAdd,Nat.reduceSub,Array.replicate_succ,Array.replicate_zero,List.push_toArray,List.append_toArray,List.nil_append,List.cons_append]
 gi_wp2
 gi_loopw [3] (fun i wr=>i=.int .i64 (-1)∧J [] wr) (fun _ _=>0)
 case atStart=>exact⟨rfl,h0⟩
 case round =>
  obtain⟨rfl,hJs⟩:=hrel
  gi_wp2
  go_end0
  exact⟨⟨_,rfl⟩,hJs⟩
def SWi (W:World) (Bs b:Nat) (v:Value) (us:List Ui):Prop:=
 W.cell? ⟨Bs,0,none⟩=some v∧((us=[]∧∃ A c,v=.slice A 0 c)∨∃ off cap,v=.slice (some ⟨b,off,none⟩) us.length cap∧∀ i,i<us.length→W.cell? ⟨b,off+i*5,none⟩=some (.int .u8 (us[i]?.getD uiz).1.k)∧W.cell? ⟨b,off+i*5+1,none⟩=some (.int .u32 (us[i]?.getD uiz).1.i)∧W.cell? ⟨b,off+i*5+2,none⟩=some (.int .u32 (us[i]?.getD uiz).1.o)∧W.cell? ⟨b,off+i*5+3,none⟩=some (.int .i64 (us[i]?.getD uiz).1.r)∧W.cell? ⟨b,off+i*5+4,none⟩=some (sv (us[i]?.getD uiz).2))
theorem SWi.keep {W W':World} {Bs b:Nat} {v:Value} {us:List Ui} (h:SWi W Bs b v us) (hk:Qu Bs b W W'):SWi W' Bs b v us:=by
 refine⟨(World.cell?_of_block (w:=W) hk.1).trans h.1,?_⟩
 rcases h.2 with h|⟨off,cap,e,hc⟩
 ·exact .inl h
 ·exact .inr ⟨off,cap,e,fun i hi=>⟨(World.cell?_of_block (w:=W) hk.2).trans (hc i hi).1,(World.cell?_of_block (w:=W) hk.2).trans (hc i hi).2.1,(World.cell?_of_block (w:=W) hk.2).trans (hc i hi).2.2.1,(World.cell?_of_block (w:=W) hk.2).trans (hc i hi).2.2.2.1,(World.cell?_of_block (w:=W) hk.2).trans (hc i hi).2.2.2.2⟩⟩
theorem qdD (n:Nat) (hn:1≤n) (Bs b:Nat) (v:Value) (us:List Ui) (hreach:us.length<1099511627776) (w:World) (hBs:Bs<w.heap.size) (hb:b<w.heap.size) (hS:SWi w Bs b v us) :
  SeqStopsK Fence.wide n Tryz.prog 170 #[.pointer (some ⟨Bs,0,none⟩)] (fun x:Nat=>#[.int .i64 (x:Int),.agg #[.int .u8 (us[x]?.getD uiz).1.k,.int .u32 (us[x]?.getD uiz).1.i,.int .u32 (us[x]?.getD uiz).1.o,.int .i64 (us[x]?.getD uiz).1.r,sv (us[x]?.getD uiz).2]]) (Qu Bs b) (fun ys=>ys=ZO (fun j=>us.length-1-j) us.length)
   (fun pre=>∃ k,k≤us.length∧pre=ZO (fun j=>us.length-1-j) k) us.length w:=fun l J Jx W hW _ _ hY h0=>by
 obtain⟨hc,h⟩:=hS.keep (Qu.below hW hBs hb)
 rcases h with ⟨rfl,A,c,rfl⟩|⟨off,cap,rfl,hcs⟩
 ·exact(qci n l Bs c A J W hc h0).mono fun e W' ⟨he,hj⟩=>⟨he,.inl ⟨_,rfl,hj⟩⟩
 ·exact backi_in n hn l Bs b off us.length cap us hreach J Jx hY W hc hcs h0
theorem qaz (A:Option Addr) (m c:Nat) (w:World) :
  Calls Tryz.prog 151 #[.slice A m c] w (fun e w'=>e=.returned (.func (.func 170) #[] #[.pointer (some ⟨w.heap.size,0,none⟩)])∧w'=w.alloc (.cells #[.slice A m c] 47)):=by
 go_enter Tryz.func151,Tryz.ntmps151
 go_wp2
 go_ret
 exact⟨rfl,rfl⟩
end Go.Proofs.YtpbniokljofedaaGreat
