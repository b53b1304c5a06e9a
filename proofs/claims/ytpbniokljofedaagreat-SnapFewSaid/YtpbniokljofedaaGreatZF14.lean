/- Texts FWalk, FCheck, Order2, FFind, VFind, joined. -/
import Derived.Laws.EntriesVeiled
import Derived.WalkMore
import Derived.Test.YtpbniokljofedaaGreatZF13
set_option linter.unusedSimpArgs false
set_option linter.unusedVariables false
set_option maxHeartbeats 8000000
namespace Go.Proofs.YtpbniokljofedaaGreat
open Go.RowKit
theorem qdp {w:World} {B b o n c:Nat} {l:List UInt8} (h:Bys w B (.slice (some ⟨b,o,none⟩) n c) l) {a:Nat} (ha:a<l.length):w.cell? ⟨b,o+a,none⟩=some (.int .u8 ((l[a]?.getD 0).toNat:Int)):=by
 obtain⟨A',c',e,_,_,hr⟩:=h
 rw[Value.slice.injEq] at e
 obtain⟨rfl,_,rfl⟩:=e
 obtain⟨b',off',e,_,hc⟩:=hr.2 (by omega)
 simp only[Option.some.injEq,Addr.mk.injEq,and_true] at e
 obtain⟨rfl,rfl⟩:=e
 exact hc a _ (by rw[List.getElem?_map,zL (by omega)];rfl)
theorem qeg {S:Sto} (hS:qm S=true) {w:World} {B:Nat} {v:Value} (h:Bys w B v S.now):∃ b3 o3 c3,v=.slice (some ⟨b3,o3,none⟩) 256 c3∧256≤c3∧c3≤maxLen:=by
 obtain⟨-,-,hl3,-⟩:=qU hS
 have hn:=h
 obtain⟨A3,c3,e3,-⟩:=h
 rw[e3] at hn
 obtain⟨_,hc3,hm3,hA3⟩:=hn.at_
 obtain⟨b3,o3,rfl,_⟩:=hA3 (by omega)
 rw[hl3] at e3 hc3
 exact⟨b3,o3,c3,e3,hc3,hm3⟩
theorem qhJ {R:Ending→World→Prop} {a:Act} {W:World} {b:Nat} {f l:K3} {bo:Bool} (h4:a.tmps[5]?.getD undef=.pointer (some ⟨b,0,none⟩)) (hd:a.defers=[])
  (hrow:W.heap[b]?=some (.cells (sp7 f l bo) 114 (0,0))) (hR:R (.returned (.agg (sp7 f l bo))) W):bodyPost Tryz.prog Tryz.f68 R .ret a W:=by
 refine bodyPost_ret (v:=.agg (sp7 f l bo)) ?_ hd hR
 have k:=qa hrow
 simp[results,Tryz.results68,go_sem,h4,k]
set_option maxRecDepth 100000 in
theorem qeS (S:Sto) (hS:qm S=true) (bS bB bW bb:Nat) (v1 v2 v3 v4:Value) (A1:Option Addr) (n1 c1:Nat) (A2:Option Addr) (n2 c2:Nat) (A3:Option Addr) (n3 c3:Nat) (A4:Option Addr) (n4 c4:Nat) (h:Nat)
  (HW:∀ h':Nat,h=h'+1→WalkC S bS bB bW bb v1 v2 v3 v4 (.slice A1 n1 c1) (.slice A2 n2 c2) (.slice A3 n3 c3) (.slice A4 n4 c4) h'):WalkC S bS bB bW bb v1 v2 v3 v4 (.slice A1 n1 c1) (.slice A2 n2 c2) (.slice A3 n3 c3) (.slice A4 n4 c4) h:=by
 intro xs A c f l lo w hE hh5 hlen hxr hits hsp
 obtain⟨b3,o3,d3,e3,hd3,hm3⟩:=qeg hS hE.n
 subst e3
 have hl256:S.now.length=256:=(qU hS).2.2.1
 obtain⟨-,hc1,hc2,hA⟩:=hits.its.at_
 have hss:(Qd S h xs).isSome=true:=by rw[hsp];rfl
 replace hits:=zH hits
 have HG:=zH (fun k hk=>qgf hss (k:=k) hk)
 have HN:=zH (fun y hy=>one_now (JV hss y hy))
 have HT:=zH (fun h' (e:h=h'+1) y (hy:y∈xs)=>Jj (S:=S) (h:=h') (y:=y) (by have:=JV hss y hy;rw[e] at this;exact this))
 replace hsp:=zH hsp
 replace hss:=zH hss
 replace hE:=zH hE
 replace hxr:=zH hxr
 replace hh5:=zH hh5
 replace hl256:=zH hl256
 replace hS:=zH hS
 go_enter Tryz.func68,Tryz.ntmps68
 go_wp2
 generalize hw1:(World.alloc (World.alloc _ _) _)=w1
 have x1:Ext w w1:=by rw[←hw1];exact((zN _ _).trans (zN _ _)).trans (zN _ _)
 have H1:WkI S h xs A c w w1 0 (0,0,0) (0,0,0) false:=by
  refine⟨?_,?_,?_,fun h0=>absurd h0 (Nat.lt_irrefl 0),x1⟩
  ·rw[←hw1];exact(zK _ _ _ (by simp;omega)).trans ((zK _ _ _ (by simp)).trans (zI _ _ _ rfl))
  ·rw[←hw1];exact(zK _ _ _ (by simp)).trans (zI _ _ _ (by simp))
  ·rw[←hw1];exact zI _ _ _ (by simp)
 clear hw1 x1
 replace H1:=zH H1
 go_loopw [15] (fun i wr=>∃ (k:Nat) (fk lk:K3) (b:Bool),k≤xs.length∧i=.int .i64 (k:Int)∧WkI S h xs A c w wr k fk lk b) (fun i _=>xs.length-(intOf i).toNat)
 case atStart=>exact⟨0,_,_,_,by omega,rfl,H1.out⟩
 case round =>
  obtain⟨k,fk,lk,bk,hk,rfl,HR⟩:=hrel
  clear H1
  have xr:=HR.xt
  have rnr:=HR.rn
  have rxr:=HR.rx
  have rrr:=HR.rr
  have z2:w.heap.size+2<wr.heap.size:=(zG.1 rxr).1
  by_cases hlt:k<xs.length
  ·have hlt':=hlt
   obtain⟨b,off,rfl,hb⟩:=hA (by omega)
   obtain⟨A',c',d0,d1,d2,d3',d4,-⟩:=(hits.out.ext xr).its.item k hlt'
   have hxk:=hxr.out xs[k] (List.getElem_mem hlt')
   have hnk:=HN.out xs[k] (List.getElem_mem hlt')
   obtain⟨l1,hone,hgo⟩:=HG.out k hlt'
   obtain⟨g1,g2⟩:=hgo fk lk (fun h0=>(HR.sp h0).1)
   have HTk:=zH (fun h' e=>HT.out h' e xs[k] (List.getElem_mem hlt'))
   generalize xs[k]=x at *
   obtain⟨hr01,hr02⟩:=hxk
   obtain⟨r,hr⟩:=Int.eq_ofNat_of_zero_le hr01
   rw[hr] at d3' hr02
   have hr2:r<256:=by omega
   rw[hr,Int.toNat_natCast] at hnk
   have hfN:=fun W (hx:Ext wr W)=>qdp ((hE.out.ext (xr.trans hx)).n) (a:=r) (by have:=hl256.out;omega)
   have hnr:(S.now[r]?.getD 0).toNat=(S.now[r]?.getD 0).toNat:=rfl
   generalize hnv:(S.now[r]?.getD 0).toNat=nv at *
   clear hnr
   have hr0:(((r:Int) == 0)=true∧decide (r=0)=true)∨(((r:Int) == 0)=false∧decide (r=0)=false∧decide (0<nv)=true):=by
    rcases Nat.eq_zero_or_pos r with h0|h0
    ·subst h0
     exact .inl ⟨by decide,by decide⟩
    ·exact .inr ⟨by rw[beq_eq_false_iff_ne];omega,decide_eq_false (by omega),decide_eq_true (by omega)⟩
   replace hr:=zH hr
   replace hnv:=zH hnv
   replace hone:=zH hone
   replace g1:=zH g1
   replace g2:=zH g2
   replace hnk:=zH hnk
   unfold maxLen at hm3
   clear hr01 hr02 hgo
   have knr:=qa rnr
   have kxr:=qa rxr
   replace hfN:=zH hfN
   go_wp2_with fail
   generalize hwa:(World.alloc _ _)=wa
   have xa:Ext wr wa:=by rw[←hwa];exact zN _ _
   have ra:wa.heap[wr.heap.size]?=some (.cells #[.int .u8 x.k,.int .u32 x.i,.int .u32 x.o,.int .i64 r,.slice A' x.val.length c'] 68 (0,0)):=by rw[←hwa];exact zI _ _ _ rfl
   clear hwa d0 d1 d2 d3' d4
   have Ea:=hE.out.ext (xr.trans xa)
   have gC:∀ W,ql.r wa W→W.cell? ⟨bS,2,none⟩=some (.slice (some ⟨b3,o3,none⟩) 256 d3):=fun W h=>by rw[qa (qb Ea.s h)];rfl
   have gN:∀ W,ql.r wa W→W.cell? ⟨b3,o3+r,none⟩=some (.int .u8 (nv:Int)):=fun W h=>hfN.out W (xa.trans h)
   have gI:∀ W,ql.r wa W→∀ i,W.cell? ⟨wr.heap.size,i,none⟩=#[.int .u8 x.k,.int .u32 x.i,.int .u32 x.o,.int .i64 r,.slice A' x.val.length c'][i]?:=fun W h=>qa (qb ra h)
   clear knr kxr hfN
   refine qo (by kernel_rfl) ?_
   refine Zp (w:=wa) ql (qF [(17,jT wa.heap.size 114 (sp7 (0,0,0) (0,0,0) false))]) [true,true,true,true,true,true,true,true,true,true,true,true,true,true,true,true,true,true] 1 (by kernel_rfl) (by kernel_rfl) (by kernel_rfl) (by kernel_rfl) (by kernel_rfl) (by kernel_rfl) ?st (Rel.drew _ _) ?walk
   case st=>exact qk (by simp only[List.forall_mem_cons];exact⟨fun p=>QK (ZX _ _ _ p),fun _ h=>by cases h⟩)
   case walk =>
    intro K hK
    dsimp only[qp]
    rcases hr0 with ⟨hq1,hq2⟩|⟨hq1,hq2,hq3⟩
    all_goals
     repeat ((first|(refine qe ?_ (by rfl) (by rfl) (fun W hW _=>⟨W,?_,Rel.refl _ W⟩) ?_;rotate_left;(go_simp<;>with_reducible rfl))|(refine qh (by rfl) ?_));try simp only[Act.put,qj,qf,qc,qg,qc,zA,zB,zC])
     try (
      refine qe (.pointer (some ⟨b3,o3+r,none⟩)) (by rfl) (by rfl) (fun W hW _=>⟨W,?_,Rel.refl _ W⟩) ?_
      ·go_simp
       intro hge
       exfalso
       omega
      simp only[Act.put,qj,qf,qc,qg,qc,zA,zB,zC])
     repeat ((first|(refine qe ?_ (by rfl) (by rfl) (fun W hW _=>⟨W,?_,Rel.refl _ W⟩) ?_;rotate_left;(go_simp<;>with_reducible rfl))|(refine qh (by rfl) ?_));try simp only[Act.put,qj,qf,qc,qg,qc,zA,zB,zC])
     refine qy (jT wa.heap.size 114 (sp7 (0,0,0) (0,0,0) false)) (by rfl) (by rfl) (fun W hW _=>?_) (fun (p8:Nat)=>?_)
     ·refine jY ?_ (Below.size hW)
      go_simp
     simp only[Act.put,qj,qf,qc,qg,qc,zA,zB,zC]
     refine qt (hK _ _ fun W hW hF=>?_)
     obtain⟨f8,hlo⟩:W.heap[p8]?=some (.cells (sp7 (0,0,0) (0,0,0) false) 114 (0,0))∧wa.heap.size≤p8:=(hF 17).1
     clear hF hK gC gN gI
     have hW':Ext wa W:=hW
     dsimp only[List.drop,List.length_cons,List.length_nil]
     have k8:=qa f8
     have h8:=qd f8
     go_wp2
     refine Qm ?_
     have x5:Ext wa _:=qcb hW' hlo (.int .u8 x.k) (.int .u32 x.i) (.int .u32 x.o) (.int .u8 x.k) (.int .u32 x.i) (.int .u32 x.o) (.bool true)
     have r8:=row7 f8 rfl (.int .u8 x.k) (.int .u32 x.i) (.int .u32 x.o) (.int .u8 x.k) (.int .u32 x.i) (.int .u32 x.o) (.bool true)
     generalize hw5:(World.setCell (World.setCell (World.setCell (World.setCell (World.setCell (World.setCell (World.setCell W _ _) _ _) _ _) _ _) _ _) _ _) _ _)=w5 at *
     clear hw5 k8 h8 f8 hW hW' hq1 hq2
     have H5:=HR.ext (xa.trans x5)
     have r5:=qb ra x5
     have z8:wr.heap.size<p8:=Nat.lt_of_lt_of_le (zG.1 ra).1 hlo
     have z8':p8<w5.heap.size:=(zG.1 r8).1
     have kn5:=qa H5.rn
     rcases Nat.eq_zero_or_pos h with hz|hz
     case' inl =>
      have hd:decide ((h:Int)>0)=false:=decide_eq_false (by omega)
      have hd2:decide (0<h)=false:=decide_eq_false (by omega)
      have hl1:l1=qE x:=by
       have:=hone.out
       rw[hz] at this
       unfold vw at this
       split at this
       ·cases this;rfl
       ·cases this
      have H7:=H5
      replace r8:w5.heap[p8]?=some (.cells (sp7 (qE x) l1 true) 114 (0,0)):=by rw[hl1];exact r8
      replace hz:=zH hz
      replace hl1:=zH hl1
      replace H5:=zH H5
      replace H7:=zH H7
      clear rnr rxr rrr
      go_upto_region 11 with fail
     case' inr =>
      obtain⟨h',hh⟩:∃ h',h=h'+1:=⟨h-1,by omega⟩
      have hc1:(h':Int)=(h:Int)-1:=by omega
      obtain⟨b',ys,e1,e2,e3,e4,e5⟩:=one_span (by rw[←hh];exact hone.out)
      have hrb:r=b':=by have:=hr.out;omega
      subst hrb
      have hd:decide ((h:Int)>0)=true:=decide_eq_true (by omega)
      have hd2:decide (0<h)=true:=decide_eq_true hz
      have hw64:wrap64 ((h:Int)-1)=(h:Int)-1:=IntWalk.wrap64_in _ (by have:=hh5.out;omega)
      replace hw64:=zH hw64
      obtain⟨hm1,hm2,-⟩:=Qa e4
      have hyl:ys.length≤5:=by unfold Qe jz at hm1;simp at hm1;omega
      have hyn:0<ys.length:=by
       rcases Nat.eq_zero_or_pos ys.length with h0|h0
       ·obtain rfl:=List.eq_nil_of_length_eq_zero h0
        cases e5
       ·exact h0
      have hHW:=zH (fun W (hx:Ext w5 W) A9 c9 lo9 (hi9:Zw lo9 W (.slice A9 ys.length c9) ys)=>HW h' hh ys A9 c9 (qE x) l1 lo9 W (hE.out.ext ((xr.trans (xa.trans x5)).trans hx)) (by have:=hh5.out;omega) hyl (fun y hy=>(hm2 y hy).1.2.2.2.1) hi9 e5)
      have hBN:=zH (VN 0 bb A1 n1 c1 A2 n2 c2 A3 n3 c3 A4 n4 c4 S hS.out r e2 e3 w5 (hE.out.ext (xr.trans (xa.trans x5))).on)
      rw[e4] at hBN
      have hy1:((ys.length:Int) == 0)=false:=by rw[beq_eq_false_iff_ne];omega
      have hy2:decide (ys.length=0)=false:=decide_eq_false (by omega)
      have kb5:=qa (hE.out.ext (xr.trans (xa.trans x5))).b
      have ki5:=qa r5
      replace hh:=zH hh
      replace hz:=zH hz
      replace H5:=zH H5
      replace e4:=zH e4
      replace e5:=zH e5
      replace hc1:=zH hc1
      clear rnr rxr rrr hm1 hm2 hyl hyn e1 e2 e3
      go_wp2_with fail
      refine hBN.out.mono ?_
      clear hBN
      rintro e w6 ⟨u,rfl,hu,hB6⟩
      obtain⟨A9,c9,rfl,hits9⟩:=hu
      rw[hc1.out]
      have H6:=H5.out.ext hB6
      have r86:=qb r8 hB6
      have r56:=qb r5 hB6
      have E6:=hE.out.ext ((xr.trans (xa.trans x5)).trans hB6)
      have kn6:=qa H6.rn
      have kf6:=qa E6.f
      have z6:p8<w6.heap.size:=(zG.1 r86).1
      have z66:=(zG.1 H6.rn).1
      have zf6:=(zG.1 E6.f).1
      replace H6:=zH H6
      replace E6:=zH E6
      replace hits9:=zH hits9
      have hw64':=hw64.out
      clear r8 r5 ki5 kb5 kn5 x5
      go_wp2_with fail
      generalize hw7:(World.alloc w6 _)=w7
      have x7:Ext w6 w7:=by rw[←hw7];exact zN _ _
      clear hw7
      have hCall:=hHW.out w7 (Ext.trans hB6 x7) A9 c9 _ (hits9.out.ext x7)
      rw[hc1.out] at hCall
      refine hCall.mono ?_
      clear hCall hHW
      rintro e w8 ⟨rfl,hB8⟩
      have x8:Ext w6 w8:=x7.trans hB8
      have H8:=H6.out.ext x8
      have r88:=qb r86 x8
      have r58:=qb r56 x8
      have b8:=row7 r88 rfl (.int .u8 (qE x).1) (.int .u32 (qE x).2.1) (.int .u32 (qE x).2.2) (.int .u8 l1.1) (.int .u32 l1.2.1) (.int .u32 l1.2.2) (.bool true)
      have x9:∀ q≤p8,Below q w8 _:=fun q hq=>qcb (Below.refl q w8) hq (.int .u8 (qE x).1) (.int .u32 (qE x).2.1) (.int .u32 (qE x).2.2) (.int .u8 l1.1) (.int .u32 l1.2.1) (.int .u32 l1.2.2) (.bool true)
      have f8:=qd r88
      have k8:=qa r88
      have z8:w.heap.size+2<p8:=by omega
      clear r86 r56 kn6 kf6
      replace hz:=zH hz.out
      replace H8:=zH H8
      go_upto_region 11 with fail
      have H7:=H8.out.low (x9 p8 (zM _)) z8
      have r5:=((x9 p8 (zM _)).block wr.heap.size (by omega)).trans r58
      clear x9 r88 r58 f8 k8
      generalize hw9:(World.setCell (World.setCell (World.setCell (World.setCell (World.setCell (World.setCell (World.setCell w8 _ _) _ _) _ _) _ _) _ _) _ _) _ _)=w9 at *
      clear hw9 z8' hB8 x8 hB6 x7 z6 z66 zf6
      have r8:w9.heap[p8]?=some (.cells (sp7 (qE x) l1 true) 114 (0,0)):=b8
      clear b8
      replace H7:=zH H7
     all_goals
      replace HR:=zH HR
      clear xa
      have kn7:=qa H7.out.rn
      have kx7:=qa H7.out.rx
      have fx7:=qd H7.out.rx
      have k8:=qa r8
      have k5:=qa r5
      have hp3:p8≠w.heap.size+1+1:=by omega
      have hp4:w.heap.size+1+1≠p8:=by omega
      rcases Nat.eq_zero_or_pos k with hk0|hk0
      ·have hk1:decide ((k:Int)>0)=false:=decide_eq_false (by omega)
       have hk2:((k:Int) == 0)=true:=by rw[beq_iff_eq];omega
       have hk3:decide (k=0)=true:=decide_eq_true hk0
       have hk4:decide (0<k)=false:=decide_eq_false (by omega)
       have HN:=g2.out
       rw[if_pos hk0] at HN
       have HR9:=H7.out.set7 HN
       replace HN:=zH HN
       replace hk0:=zH hk0
       dsimp only[qE] at HR9
       replace HR9:=zH HR9
       clear hk
       go_wp2_with fail
       refine⟨⟨k+1,(x.k,x.i,x.o),l1,true,hlt',rfl,HR9.out⟩,?_⟩
       simp[intOf]
       omega
      ·have hk1:decide ((k:Int)>0)=true:=decide_eq_true (by omega)
       have hk2:((k:Int) == 0)=false:=by rw[beq_eq_false_iff_ne];omega
       have hk3:decide (k=0)=false:=decide_eq_false (by omega)
       have hk4:decide (0<k)=true:=decide_eq_true hk0
       have HN:=g2.out
       rw[if_neg (by omega)] at HN
       replace HN:=zH HN
       have hls:VU lk.1 lk.2.1 lk.2.2 x.k x.i x.o=true:=g1.out hk0
       replace hls:=zH hls
       replace hk0:=zH hk0
       clear hk
       go_wp2_with fail
       refine(KT lk.1 lk.2.1 lk.2.2 x.k x.i x.o _).mono ?_
       rintro e wl ⟨rfl,hB⟩
       rw[hls.out]
       have H8':=H7.out.ext hB
       have kn8:=qa H8'.rn
       have kx8:=qa H8'.rx
       have fx8:=qd H8'.rx
       have k88:=qa (qb r8 hB)
       have HR9:=zH (H8'.set4 HN.out)
       replace H8':=zH H8'
       clear kn7 kx7 fx7 k8 k5 hB r8 r5
       go_wp2_with fail
       refine⟨⟨k+1,fk,l1,true,hlt',rfl,HR9.out⟩,?_⟩
       simp[intOf]
       omega
  ·have hke:k=xs.length:=by omega
   have hx0:0<xs.length:=by
    rcases Nat.eq_zero_or_pos xs.length with h0|h0
    ·have:=hsp.out
     rw[List.eq_nil_of_length_eq_zero h0] at this
     cases this
    ·exact h0
   obtain⟨hs1,rfl⟩:=HR.sp (by omega)
   rw[hke,List.take_length,hsp.out] at hs1
   simp only[Option.some.injEq,Prod.mk.injEq] at hs1
   obtain⟨rfl,rfl⟩:=hs1
   have kx:=qa rxr
   have kr:=qa rrr
   have fr:=qd rrr
   have kn:=qa rnr
   have rr:=zH rrr
   have xrh:=zH xr
   replace HR:=zH HR
   replace hke:=zH hke
   clear rxr rnr rrr xr
   go_wp2
   exact qhJ (b:=w.heap.size+1) rfl rfl (row7 rr.out rfl _ _ _ _ _ _ _) ⟨rfl,qcb xrh.out (by omega) _ _ _ _ _ _ _⟩
theorem qeR (S:Sto) (hS:qm S=true) (bS bB bW bb:Nat) (v1 v2 v3 v4:Value) (A1:Option Addr) (n1 c1:Nat) (A2:Option Addr) (n2 c2:Nat) (A3:Option Addr) (n3 c3:Nat) (A4:Option Addr) (n4 c4:Nat) :
  ∀ h:Nat,WalkC S bS bB bW bb v1 v2 v3 v4 (.slice A1 n1 c1) (.slice A2 n2 c2) (.slice A3 n3 c3) (.slice A4 n4 c4) h
 |0=>qeS S hS bS bB bW bb v1 v2 v3 v4 A1 n1 c1 A2 n2 c2 A3 n3 c3 A4 n4 c4 0 fun _ e=>by omega
 |h+1=>qeS S hS bS bB bW bb v1 v2 v3 v4 A1 n1 c1 A2 n2 c2 A3 n3 c3 A4 n4 c4 (h+1) fun h' e=>by
  obtain rfl:h=h':=by omega
  exact qeR S hS bS bB bW bb v1 v2 v3 v4 A1 n1 c1 A2 n2 c2 A3 n3 c3 A4 n4 c4 h
theorem now_pos {S:Sto} {a:Nat} {q:Int×List It} (h:qu S a=some q):0<(S.now[a]?.getD 0).toNat:=by
 unfold qu at h
 split at h
 ·cases h
 ·omega
theorem qhH (f l:K3) (b:Bool) (w:World):(Instr.field 114 (.agg (sp7 f l b)) 2).run Tryz.prog w=.ok (.bool b) w:=by kernel_rfl
theorem Gn {R:Ending→World→Prop} {a:Act} {W:World} {u v:Value} (h4:a.tmps[4]?.getD undef=u) (h5:a.tmps[5]?.getD undef=v) (hd:a.defers=[]) (hR:R (.returned (.tuple #[u,v])) W):bodyPost Tryz.prog Tryz.f29 R .ret a W:=by
 refine bodyPost_ret (v:=.tuple #[u,v]) ?_ hd hR
 simp[results,Tryz.results29,go_sem,h4,h5]
set_option maxRecDepth 100000 in
theorem Uf (A1:Option Addr) (n1 c1:Nat) (A2:Option Addr) (n2 c2:Nat) (A3:Option Addr) (n3 c3:Nat) (A4:Option Addr) (n4 c4:Nat) (S:Sto) (hS:qm S=true) (a:Nat) (hT:JB S a) (w:World)
  (hst:qP w w.heap.size (.slice A1 n1 c1) (.slice A2 n2 c2) (.slice A3 n3 c3) (.slice A4 n4 c4) S) :
  Calls Tryz.prog 29 #[qX A1 n1 c1 A2 n2 c2 A3 n3 c3 A4 n4 c4,.int .i64 (a:Int)] w (zo (fun u _=>∃ (lvl:Nat) (xs:List It),qu S a=some ((lvl:Int),xs)∧lvl≤5∧u=.tuple #[.int .i64 ((lvl:Int)+1),.int .i64 0]) w):=by
 obtain⟨ha,ha2,lvl,xs,hn,hsp⟩:=hT
 have hpos:=now_pos hn
 obtain⟨hm1,hm2,-⟩:=Qa hn
 have hxl:xs.length≤5:=by unfold Qe jz at hm1;simp at hm1;omega
 have hll:lvl≤5:=by unfold Qe jz at hm1;simp at hm1;omega
 have hl3:S.now.length=256:=(qU hS).2.2.1
 obtain⟨b3,o3,d3,e3,hd3,hm3⟩:=qeg hS hst.now
 simp only[Value.slice.injEq] at e3
 obtain⟨rfl,rfl,rfl⟩:=e3
 have hcell:=qdp hst.now (a:=a) (by omega)
 have HCK:=zH (fun W (hx:Ext w W)=>jU A1 n1 c1 A2 n2 c2 (some ⟨b3,o3,none⟩) 256 c3 A4 n4 c4 S W (hst.ext hx))
 have HON:=zH (fun W (hx:Ext w W)=>qfY A1 n1 c1 A2 n2 c2 (some ⟨b3,o3,none⟩) 256 c3 A4 n4 c4 S (by omega) W (hst.ext hx))
 have HST:=zH hst
 have ha3:decide ((a:Int)<8)=false:=decide_eq_false (by omega)
 have ha4:decide (a<8)=false:=decide_eq_false (by omega)
 have ha5:decide ((a:Int)≥256)=false:=decide_eq_false (by omega)
 have ha6:decide (256≤a)=false:=decide_eq_false (by omega)
 have ha7:a<256:=ha2
 have ha8:(a:Int)<256:=by omega
 generalize hnv:(S.now[a]?.getD 0).toNat=nv at *
 have hn1:((nv:Int) == 0)=false:=by rw[beq_eq_false_iff_ne];omega
 have hn2:decide (nv=0)=false:=decide_eq_false (by omega)
 replace hnv:=zH hnv
 replace hm1:=zH hm1
 replace hm2:=zH hm2
 replace hn:=zH hn
 replace hsp:=zH hsp
 replace hS:=zH hS
 replace hm3:=zH hm3
 replace hl3:=zH hl3
 have hwr:Hid (wrap64 ((lvl:Int)+1)=(lvl:Int)+1):=zH (IntWalk.wrap64_in _ (by omega))
 replace hll:=zH hll
 clear hst hpos
 go_enter Tryz.func29,Tryz.ntmps29
 go_wp2_with fail
 generalize hw1:(World.alloc _ _)=w1
 have x1:Ext w w1:=by rw[←hw1];exact zN _ _
 have r1:w1.heap[w.heap.size]?=some (.cells #[.slice A1 n1 c1,.slice A2 n2 c2,.slice (some ⟨b3,o3,none⟩) 256 c3,.slice A4 n4 c4] 28 (0,0)):=by rw[←hw1];exact zI _ _ _ rfl
 clear hw1
 refine(HCK.out w1 x1).mono ?_
 clear HCK
 rintro e w2 ⟨rfl,hB⟩
 have x2:Ext w w2:=x1.trans hB
 have r2:=qb r1 hB
 rw[hS.out,show jX true=0 from rfl]
 have k2:=qa r2
 have hc2:=Ext.cell x2 hcell
 clear r1 hB x1 hcell
 go_wp2_with fail
 refine(HON.out w2 x2).mono ?_
 clear HON
 rintro e w3 ⟨u,rfl,⟨bb,A3',c3',rfl,hOn,-⟩,hB⟩
 have x3:Ext w w3:=Ext.trans x2 hB
 have r3:=qb r2 hB
 clear k2 hc2 r2 x2 hB
 replace hOn:=zH hOn
 go_wp2_with fail
 generalize hw4:(World.alloc w3 _)=w4
 have x34:Ext w3 w4:=by rw[←hw4];exact zN _ _
 have rb4:w4.heap[w3.heap.size]?=some (.cells #[.pointer (some ⟨bb,0,none⟩)] 80 (0,0)):=by rw[←hw4];exact zI _ _ _ rfl
 have rs4:=qb r3 x34
 have hOn4:=zH (hOn.out.ext x34)
 have x4:Ext w w4:=x3.trans x34
 clear hw4
 have hBN:=VN 0 bb A1 n1 c1 A2 n2 n2 A3' 256 c3' A4 n4 c4 S hS.out a ha ha2 w4 ⟨Nat.zero_le _,(hOn.out.ext x34).2⟩
 rw[hn.out] at hBN
 refine hBN.mono ?_
 clear hBN
 rintro e w5 ⟨u,rfl,⟨A9,c9,rfl,hits⟩,hB⟩
 have hB':Ext w4 w5:=hB
 have rs5:=qb rs4 hB'
 have rb5:=qb rb4 hB'
 have hOn5:=zH (hOn4.out.ext hB')
 have x5:Ext w w5:=x4.trans hB'
 replace hits:=zH hits
 clear rs4 rb4 hB hB' x34 x4 x3 hOn4 hOn r3
 have z5:w3.heap.size<w5.heap.size:=(zG.1 rb5).1
 rcases Nat.eq_zero_or_pos xs.length with h0|h0
 ·have hx1:decide ((xs.length:Int)>0)=false:=decide_eq_false (by omega)
  have hx2:decide (0<xs.length)=false:=decide_eq_false (by omega)
  replace h0:=zH h0
  go_wp2_with fail
  exact Gn (u:=.int .i64 ((lvl:Int)+1)) (by show Value.int .i64 (wrap64 _)=_;rw[hwr.out]) rfl rfl ⟨_,rfl,⟨lvl,xs,hn.out,hll.out,rfl⟩,x5.trans ((zN _ _).trans (zN _ _))⟩
 ·have hx1:decide ((xs.length:Int)>0)=true:=decide_eq_true (by omega)
  have hx2:decide (0<xs.length)=true:=decide_eq_true h0
  obtain⟨⟨f,l⟩,hfl⟩:∃ p,Qd S lvl xs=some (some p):=by
   rcases hq:Qd S lvl xs with _|_|p
   ·have:=hsp.out;rw[hq] at this;cases this
   ·exact absurd (by rw[List.take_length];exact hq) (Zz (S:=S) (h:=lvl) h0 (zM xs.length))
   ·exact⟨p,rfl⟩
  replace h0:=zH h0
  replace hfl:=zH hfl
  go_wp2_with fail
  generalize hw6:(World.alloc (World.alloc w5 _) _)=w6
  have x56:Ext w5 w6:=by rw[←hw6];exact(zN _ _).trans (zN _ _)
  have rf6:w6.heap[w5.heap.size+1]?=some (.cells #[.func (.func 68) #[] #[.pointer (some ⟨w.heap.size,0,none⟩),.pointer (some ⟨w3.heap.size,0,none⟩),.pointer (some ⟨w5.heap.size+1,0,none⟩)]] 112 (0,0)):=by rw[←hw6];exact zI _ _ _ (by simp)
  have rn6:w6.heap[w5.heap.size]?=some (.cells #[.int .i64 lvl,.slice A9 xs.length c9] 49 (0,0)):=by rw[←hw6];exact(zK _ _ _ (by simp)).trans (zI _ _ _ rfl)
  clear hw6
  have x6:Ext w w6:=x5.trans x56
  have hCall:=qeR S hS.out w.heap.size w3.heap.size (w5.heap.size+1) bb (.slice A1 n1 c1) (.slice A2 n2 c2) (.slice (some ⟨b3,o3,none⟩) 256 c3) (.slice A4 n4 c4) A1 n1 c1 A2 n2 n2 A3' 256 c3' A4 n4 c4 lvl xs A9 c9 f l _ w6
   ⟨qb rs5 x56,qb rb5 x56,rf6,(HST.out.ext x6).now,⟨Nat.zero_le _,(hOn5.out.ext x56).2⟩⟩ hll.out hxl (fun y hy=>(hm2.out y hy).1.2.2.2.1) (hits.out.ext x56) hfl.out
  refine hCall.mono ?_
  clear hCall
  rintro e w7 ⟨rfl,hB⟩
  have rn7:=qb rn6 hB
  have kn7:=qa rn7
  have x7:=zH (x6.trans hB)
  clear rs5 rb5 rf6 rn6 hB x6 x56 x5
  have hfi:=qhH
  go_wp2_with fail
  exact Gn (u:=.int .i64 ((lvl:Int)+1)) (by show Value.int .i64 (wrap64 _)=_;rw[hwr.out]) rfl rfl ⟨_,rfl,⟨lvl,xs,hn.out,hll.out,rfl⟩,x7.out⟩
theorem Xh (A1:Option Addr) (n1 c1:Nat) (A2:Option Addr) (n2 c2:Nat) (A3:Option Addr) (n3 c3:Nat) (A4:Option Addr) (n4 c4:Nat) (S:Sto) (hS:qm S=true) (a:Nat) (hT:JB S a) (w:World)
  (hst:qP w w.heap.size (.slice A1 n1 c1) (.slice A2 n2 c2) (.slice A3 n3 c3) (.slice A4 n4 c4) S) :
  Calls Tryz.prog 29 #[qX A1 n1 c1 A2 n2 c2 A3 n3 c3 A4 n4 c4,.int .i64 (a:Int)] w (zo (fun u _=>∃ m:Int,u=.tuple #[.int .i64 m,.int .i64 0]) w):=
 (Uf A1 n1 c1 A2 n2 c2 A3 n3 c3 A4 n4 c4 S hS a hT w hst).mono fun e w' ⟨u,he,⟨_,_,_,_,hu⟩,hB⟩=>⟨u,he,⟨_,hu⟩,hB⟩

abbrev qfD (x:It) (A:Option Addr) (c:Nat):Array Value:=#[.int .u8 x.k,.int .u32 x.i,.int .u32 x.o,.int .i64 x.r,.slice A x.val.length c]
abbrev XJ:Array Value:=#[.int .u8 0,.int .u32 0,.int .u32 0,.int .i64 0,.slice none 0 0]
def qcW (lo:Nat) (q:Option It) (u:Value) (W:World):Prop:=match q with
 |none=>u=.tuple #[.agg XJ,.int .i64 6]
 |some x=>∃ A c,u=.tuple #[.agg (qfD x A c),.int .i64 0]∧Bys W W.heap.size (.slice A x.val.length c) x.val∧Zm lo (.slice A x.val.length c)
theorem qaE {w:World} {lo b off n c:Nat} {xs:List It} (h:Zw lo w (.slice (some ⟨b,off,none⟩) n c) xs) (i:Nat) (hi:i<xs.length):∃ A' c',ItAt w w.heap.size b (off+i*5) xs[i] A' c'∧Zm lo (.slice A' xs[i].val.length c'):=by
 obtain⟨ps,rfl,⟨A,c1,e,_,_,hr⟩,hp,hf,hg⟩:=h
 cases e
 have hi':i<ps.length:=by simpa using hi
 obtain⟨b',off',e,hb,hc⟩:=hr.2 (by omega)
 cases e
 obtain⟨c0,c1,c2,c3,c4⟩:=vG ps i hi'
 have hgi:=hg ps[i] (List.getElem_mem hi')
 obtain⟨⟨A',c',e5⟩,hby⟩:=hp ps[i] (List.getElem_mem hi')
 rw[e5] at c4 hby hgi
 refine⟨A',c',?_,by simpa using hgi⟩
 simp only[List.getElem_map]
 refine⟨hc _ _ c0,?_,?_,?_,?_,hby⟩
 ·rw[Nat.add_assoc];exact hc _ _ c1
 ·rw[Nat.add_assoc];exact hc _ _ c2
 ·rw[Nat.add_assoc];exact hc _ _ c3
 ·rw[Nat.add_assoc];exact hc _ _ c4
def Kn (S:Sto) (i:Value):Nat:=match qu S (intOf i).toNat with
 |some (l,_)=>l.toNat
 |none=>0
theorem XU {S:Sto} {r h:Nat} {ys:List It} (hn:qu S r=some ((h:Int),ys)):Kn S (.int .i64 (r:Int))=h:=by
 unfold Kn intOf
 simp only[Int.toNat_natCast]
 rw[hn]
 simp
structure FnI (S:Sto) (K:K3) (q:Option It) (w2:World) (i:Value) (wr:World):Prop where
 ex:∃ (h r:Nat) (ys:List It),i=.int .i64 (r:Int)∧8≤r∧r<256∧qu S r=some ((h:Int),ys)∧(Qd S h ys).isSome=true∧XY S K h ys=q∧Ext w2 wr
theorem TA {R:Ending→World→Prop} {a:Act} {W:World} {b:Nat} {cs:Array Value} {v:Value} (h6:a.tmps[6]?.getD undef=.pointer (some ⟨b,0,none⟩)) (h7:a.tmps[7]?.getD undef=v) (hd:a.defers=[])
  (hrow:W.heap[b]?=some (.cells cs 68 (0,0))) (hs:∃ x0 x1 x2 x3 x4,cs=#[x0,x1,x2,x3,x4]) (hR:R (.returned (.tuple #[.agg cs,v])) W):bodyPost Tryz.prog Tryz.f109 R .ret a W:=by
 refine bodyPost_ret (v:=.tuple #[.agg cs,v]) ?_ hd hR
 have k:=qa hrow
 obtain⟨x0,x1,x2,x3,x4,rfl⟩:=hs
 simp[results,Tryz.results109,go_sem,h6,h7,k]
theorem row5 {w:World} {b:Nat} {ty:TypeId} {y0 y1 y2 y3 y4:Value} (h:w.heap[b]?=some (.cells #[y0,y1,y2,y3,y4] ty (0,0))) (x0 x1 x2 x3 x4:Value) :
  (((((w.setCell ⟨b,0,none⟩ x0).setCell ⟨b,1,none⟩ x1).setCell ⟨b,2,none⟩ x2).setCell ⟨b,3,none⟩ x3).setCell ⟨b,4,none⟩ x4).heap[b]?=some (.cells #[x0,x1,x2,x3,x4] ty (0,0)):=qi (qi (qi (qi (qi h 0 x0) 1 x1) 2 x2) 3 x3) 4 x4
theorem Xa {w0 w:World} {B b:Nat} (h:Below B w0 w) (hb:B≤b) (x0 x1 x2 x3 x4:Value) :
  Below B w0 (((((w.setCell ⟨b,0,none⟩ x0).setCell ⟨b,1,none⟩ x1).setCell ⟨b,2,none⟩ x2).setCell ⟨b,3,none⟩ x3).setCell ⟨b,4,none⟩ x4):=
 Below.setCell (Below.setCell (Below.setCell (Below.setCell (Below.setCell h (p:=⟨b,0,none⟩) hb _) (p:=⟨b,1,none⟩) hb _) (p:=⟨b,2,none⟩) hb _) (p:=⟨b,3,none⟩) hb _) (p:=⟨b,4,none⟩) hb _
theorem its_set5 {w:World} {lo b:Nat} {v:Value} {xs:List It} (h:Zw lo w v xs) (hb:b<lo) (x0 x1 x2 x3 x4:Value) :
  Zw lo (((((w.setCell ⟨b,0,none⟩ x0).setCell ⟨b,1,none⟩ x1).setCell ⟨b,2,none⟩ x2).setCell ⟨b,3,none⟩ x3).setCell ⟨b,4,none⟩ x4) v xs:=by
 refine h.keep (by simp) (fun q hq _=>?_)
 have hne:∀ j,(⟨b,j,none⟩:Addr)≠q:=fun j e=>by subst e;simp at hq;omega
 rw[World.cell?_setCell_other _ _ _ _ (hne _),World.cell?_setCell_other _ _ _ _ (hne _),World.cell?_setCell_other _ _ _ _ (hne _),World.cell?_setCell_other _ _ _ _ (hne _),World.cell?_setCell_other _ _ _ _ (hne _)]
theorem bys_set5 {w:World} {b lo:Nat} {v:Value} {l:List UInt8} (h:Bys w w.heap.size v l) (hf:Zm lo v) (hb:b<lo) (x0 x1 x2 x3 x4:Value) :
  Bys (((((w.setCell ⟨b,0,none⟩ x0).setCell ⟨b,1,none⟩ x1).setCell ⟨b,2,none⟩ x2).setCell ⟨b,3,none⟩ x3).setCell ⟨b,4,none⟩ x4) (((((w.setCell ⟨b,0,none⟩ x0).setCell ⟨b,1,none⟩ x1).setCell ⟨b,2,none⟩ x2).setCell ⟨b,3,none⟩ x3).setCell ⟨b,4,none⟩ x4).heap.size v l:=by
 have:=((((h.setCell hf (p:=⟨b,0,none⟩) hb x0).setCell hf (p:=⟨b,1,none⟩) hb x1).setCell hf (p:=⟨b,2,none⟩) hb x2).setCell hf (p:=⟨b,3,none⟩) hb x3).setCell hf (p:=⟨b,4,none⟩) hb x4
 refine this.more ?_
 simp
theorem its_cell {w:World} {lo b:Nat} {v:Value} {xs:List It} (_:Zw lo w v xs) {q:Addr} (hb:b<lo) (x0 x1 x2 x3 x4:Value) (hq:lo≤q.block) :
  (((((w.setCell ⟨b,0,none⟩ x0).setCell ⟨b,1,none⟩ x1).setCell ⟨b,2,none⟩ x2).setCell ⟨b,3,none⟩ x3).setCell ⟨b,4,none⟩ x4).cell? q=w.cell? q:=by
 have hne:∀ j,(⟨b,j,none⟩:Addr)≠q:=fun j e=>by subst e;simp at hq;omega
 rw[World.cell?_setCell_other _ _ _ _ (hne _),World.cell?_setCell_other _ _ _ _ (hne _),World.cell?_setCell_other _ _ _ _ (hne _),World.cell?_setCell_other _ _ _ _ (hne _),World.cell?_setCell_other _ _ _ _ (hne _)]
set_option maxRecDepth 100000 in
theorem qhG (A1:Option Addr) (n1 c1:Nat) (A2:Option Addr) (n2 c2:Nat) (A3:Option Addr) (n3 c3:Nat) (A4:Option Addr) (n4 c4:Nat) (S:Sto) (hS:qm S=true) (a lvl:Nat) (xs:List It) (ha:8≤a) (ha2:a<256) (hn:qu S a=some ((lvl:Int),xs)) (hsp:(Qd S lvl xs).isSome=true) (k i o:Int) (w:World)
  (hst:qP w w.heap.size (.slice A1 n1 c1) (.slice A2 n2 c2) (.slice A3 n3 c3) (.slice A4 n4 c4) S) :
  Calls Tryz.prog 109 #[qX A1 n1 c1 A2 n2 c2 A3 n3 c3 A4 n4 c4,.int .i64 (a:Int),keyV k i o] w (zo (qcW w.heap.size (XY S (k,i,o) lvl xs)) w):=by
 have HCK:=zH (fun W (hx:Ext w W)=>Xh A1 n1 c1 A2 n2 c2 A3 n3 c3 A4 n4 c4 S hS a ⟨ha,ha2,lvl,xs,hn,hsp⟩ W (hst.ext hx))
 have HON:=zH (fun W (hx:Ext w W)=>qfY A1 n1 c1 A2 n2 c2 A3 n3 c3 A4 n4 c4 S (by have:=(qU hS).2.2.1;omega) W (hst.ext hx))
 obtain⟨q,hq⟩:∃ q,XY S (k,i,o) lvl xs=q:=⟨_,rfl⟩
 rw[hq]
 have HI0:∀ W,FnI S (k,i,o) q W (.int .i64 (a:Int)) W:=fun W=>⟨lvl,a,xs,rfl,ha,ha2,hn,hsp,hq,Ext.refl _⟩
 replace HI0:=zH HI0
 replace hS:=zH hS
 clear hst hn hsp hq ha ha2
 go_enter Tryz.func109,Tryz.ntmps109
 go_wp2_with fail
 generalize hw1:(World.alloc (World.alloc (World.alloc w _) _) _)=w1
 have x1:Ext w w1:=by rw[←hw1];exact((zN _ _).trans (zN _ _)).trans (zN _ _)
 have rs1:w1.heap[w.heap.size]?=some (.cells #[.slice A1 n1 c1,.slice A2 n2 c2,.slice A3 n3 c3,.slice A4 n4 c4] 28 (0,0)):=by rw[←hw1];exact(zK _ _ _ (by simp;omega)).trans ((zK _ _ _ (by simp)).trans (zI _ _ _ rfl))
 have rk1:w1.heap[w.heap.size+1]?=some (.cells #[.int .u8 k,.int .u32 i,.int .u32 o] 66 (0,0)):=by rw[←hw1];exact(zK _ _ _ (by simp)).trans (zI _ _ _ (by simp))
 have ri1:w1.heap[w.heap.size+2]?=some (.cells XJ 68 (0,0)):=by rw[←hw1];exact zI _ _ _ (by simp)
 clear hw1
 have ks1:=qa rs1
 go_step3
 go_wp2_with fail
 refine(HCK.out w1 x1).mono ?_
 clear HCK
 rintro e w2 ⟨u,rfl,⟨m,rfl⟩,hB⟩
 have x2:Ext w w2:=Ext.trans x1 hB
 have rs2:=qb rs1 hB
 have rk2:=qb rk1 hB
 have ri2:=qb ri1 hB
 clear rs1 rk1 ri1 hB x1 ks1
 have ks2:=qa rs2
 go_wp2_with fail
 refine(HON.out w2 x2).mono ?_
 clear HON
 rintro e w3 ⟨u,rfl,⟨bb,A3',c3',rfl,hOn,-⟩,hB⟩
 have x3:Ext w w3:=Ext.trans x2 hB
 have rk3:=qb rk2 hB
 have ri3:=qb ri2 hB
 clear rs2 rk2 ri2 hB x2 ks2
 replace hOn:=zH hOn
 have I0:=zH (HI0.out w3)
 clear HI0
 go_wp2_with fail
 go_step3
 go_wp2_with fail
 go_loopw [10] (fun j wr=>FnI S (k,i,o) q w3 j wr) (fun j _=>Kn S j)
 case atStart=>exact I0.out
 case round =>
  obtain⟨h,r,ys,rfl,h8,h256,hn,hsp,hq,xr⟩:=hrel.ex
  clear I0 hrel
  have hlv:=XU hn
  obtain⟨hm1,hm2,-⟩:=Qa hn
  have hyl:ys.length≤5:=by unfold Qe jz at hm1;simp at hm1;omega
  have hord:=(span_ord hsp).2
  have hBN:=VN 0 bb A1 n1 c1 A2 n2 n2 A3' n3 c3' A4 n4 c4 S hS.out r h8 h256 wr ⟨Nat.zero_le _,(hOn.out.ext xr).2⟩
  rw[hn] at hBN
  have xwr:=x3.trans xr
  have rkr:=qb rk3 xr
  have rir:=qb ri3 xr
  have zr:w.heap.size+2<wr.heap.size:=(zG.1 rir).1
  replace hlv:=zH hlv
  replace hsp:=zH hsp
  replace hn:=zH hn
  replace hq:=zH hq
  replace hm2:=zH hm2
  replace hord:=zH hord
  clear hm1
  go_wp2_with fail
  refine hBN.mono ?_
  clear hBN
  rintro e w4 ⟨u,rfl,⟨A9,c9,rfl,hits⟩,hB⟩
  have hB':Ext wr w4:=hB
  have x4:=xwr.trans hB'
  have rk4:=qb rkr hB'
  have ri4:=qb rir hB'
  have z4:w.heap.size+2<w4.heap.size:=(zG.1 ri4).1
  have kk4:=qa rk4
  have z41:w.heap.size+1<w4.heap.size:=by omega
  replace hits:=zH hits
  replace xr:=zH (xr.trans hB')
  clear rkr rir hB hB' xwr
  go_wp2_with fail
  generalize hw5:(World.alloc w4 _)=w5
  have x5:Ext w4 w5:=by rw[←hw5];exact zN _ _
  have rn5:w5.heap[w4.heap.size]?=some (.cells #[.int .i64 h,.slice A9 ys.length c9] 49 (0,0)):=by rw[←hw5];exact zI _ _ _ rfl
  clear hw5
  refine(qbD (h:Int) A9 c9 ys k i o _ w5 hyl (hits.out.ext x5)).mono ?_
  rintro e w6 ⟨rfl,hB⟩
  have x56:Ext w4 w6:=x5.trans hB
  have rn6:=qb rn5 hB
  have ri6:=qb ri4 x56
  have kn6:=qa rn6
  have fi6:=qd ri6
  have ki6:=qa ri6
  have z6:w.heap.size+2<w6.heap.size:=(zG.1 ri6).1
  have hits6:=zH (hits.out.ext x56)
  replace xr:=zH (xr.out.trans x56)
  replace x4:=zH (x4.trans x56)
  clear rn5 x5 hB x56 rk4 ri4 kk4 z4 z41
  have hA:=hits6.out.its.at_.2.2.2
  have hplc:=JR ys (k,i,o)
  have hIT:=zH (fun j (hj:j<ys.length) b9 off (he:A9=some ⟨b9,off,none⟩)=>by have:=hits6.out.its;rw[he] at this;exact this.item j hj)
  obtain⟨ie,hie⟩:∃ ie,KR ys (k,i,o)=ie:=⟨_,rfl⟩
  obtain⟨p,hp⟩:∃ p,qL ys (k,i,o)=p:=⟨_,rfl⟩
  have hT:ie=true→∃ hp:qL ys (k,i,o)<ys.length,qE (ys[qL ys (k,i,o)]'hp)=(k,i,o):=fun h0=>by
   rw[h0] at hie
   by_cases hl:qL ys (k,i,o)<ys.length
   ·rw[US hl] at hie
    exact⟨hl,of_decide_eq_true hie⟩
   ·rw[XH hl] at hie;cases hie
  have hF:ie=false→∀ hp:qL ys (k,i,o)<ys.length,qE (ys[qL ys (k,i,o)]'hp)≠(k,i,o):=fun h0 hl=>by
   rw[h0,US hl] at hie
   exact of_decide_eq_false hie
  rw[hie,hp]
  rw[hp] at hplc
  have hT':=zH hT
  have hF':=zH hF
  replace hp:=zH hp
  replace hie:=zH hie
  clear hT hF
  have HREL:=zH (fun (x:It) (hx:x∈ys) (hd:XD ys (k,i,o)=some x) (h':Nat) (hh:h=h'+1)=>by
   have h1:=JV hsp.out x hx
   rw[hh] at h1
   obtain⟨b,e1,e2,e3,zs,e4,e5⟩:=Jj h1
   have e6:qu S x.r.toNat=some ((h':Int),zs):=by rw[e1,Int.toNat_natCast];exact e4
   have e7:XY S (k,i,o) h' zs=q:=by rw[←one_down hd e6,←hh];exact hq.out
   have e8:Kn S (.int .i64 (b:Int))<Kn S (.int .i64 (r:Int)):=by rw[XU e4,hlv.out];omega
   exact(⟨b,e1,⟨⟨h',b,zs,rfl,e2,e3,e4,e5,e7,xr.out⟩⟩,e8⟩:∃ b:Nat,x.r=(b:Int)∧FnI S (k,i,o) q w3 (.int .i64 (b:Int)) w6∧Kn S (.int .i64 (b:Int))<Kn S (.int .i64 (r:Int))))
  rcases Nat.eq_zero_or_pos h with h0|h0
  ·have hh1:((h:Int) == 0)=true:=by rw[beq_iff_eq];omega
   have hh2:decide (h=0)=true:=decide_eq_true h0
   clear HREL
   cases ie
   ·have hz:q=none:=by rw[←hq.out,h0,qei,leaf_no hord.out (hF'.out rfl)]
    replace h0:=zH h0
    replace hz:=zH hz
    clear hA hplc
    go_wp2_with fail
    exact TA (b:=w.heap.size+2) rfl rfl rfl (row5 ri6 _ _ _ _ _) ⟨_,_,_,_,_,rfl⟩ ⟨_,rfl,by rw[hz.out];rfl,Xa x4.out (by omega) _ _ _ _ _⟩
   ·obtain⟨hpl,hke⟩:=hT'.out rfl
    have hz:q=some ys[qL ys (k,i,o)]:=by rw[←hq.out,h0,qei,leaf_is hord.out hpl hke]
    obtain⟨b9,off,rfl,hb9⟩:=hA (by omega)
    obtain⟨A',c',d0,d1,d2,d3,d4,-⟩:=hIT.out _ hpl b9 off rfl
    have hfr:=zH (fun j=>XN hits6.out b9 off ys.length c9 j rfl (by omega))
    have hI5:=fun x0 x1 x2 x3 x4=>qaE (its_set5 hits6.out (b:=w.heap.size+1+1) (by omega) x0 x1 x2 x3 x4) _ hpl
    have hpp:=hp.out
    generalize ys[qL ys (k,i,o)]=x at *
    simp only[hpp] at hpl d0 d1 d2 d3 d4 hI5
    replace h0:=zH h0
    replace hz:=zH hz
    replace hI5:=zH hI5
    replace hke:=zH hke
    clear hA hplc hpp hb9
    go_wp2_with fail
    obtain⟨A'',c'',⟨-,-,-,-,g4,gb⟩,gf⟩:=hI5.out (.int .u8 x.k) (.int .u32 x.i) (.int .u32 x.o) (.int .i64 x.r) (.slice A' x.val.length c')
    have hsame:=its_cell hits6.out (b:=w.heap.size+1+1) (q:=⟨b9,off+p*5+4,none⟩) (by omega) (.int .u8 x.k) (.int .u32 x.i) (.int .u32 x.o) (.int .i64 x.r) (.slice A' x.val.length c') (hfr.out 0)
    rw[hsame,d4] at g4
    simp only[Option.some.injEq,Value.slice.injEq,true_and] at g4
    obtain⟨rfl,rfl⟩:=g4
    exact TA (b:=w.heap.size+2) rfl rfl rfl (row5 ri6 _ _ _ _ _) ⟨_,_,_,_,_,rfl⟩ ⟨_,rfl,by rw[hz.out];exact⟨A',c',rfl,gb,gf.mono (by omega)⟩,Xa x4.out (by omega) _ _ _ _ _⟩
  ·have hh1:((h:Int) == 0)=false:=by rw[beq_eq_false_iff_ne];omega
   have hh2:decide (h=0)=false:=decide_eq_false (by omega)
   obtain⟨h',hh⟩:∃ h',h=h'+1:=⟨h-1,by omega⟩
   replace hh:=zH hh
   replace h0:=zH h0
   cases ie
   ·rcases Nat.eq_zero_or_pos p with hp0|hp0
    ·have hz:q=none:=by rw[←hq.out,hh.out,one_none (down_no hord.out (by rw[hp.out];exact hp0) (hF'.out rfl))]
     have hp1:((p:Int) == 0)=true:=by rw[beq_iff_eq];omega
     have hp2:decide (p=0)=true:=decide_eq_true hp0
     replace hp0:=zH hp0
     replace hz:=zH hz
     clear hA hplc HREL
     go_wp2_with fail
     exact TA (b:=w.heap.size+2) rfl rfl rfl (row5 ri6 _ _ _ _ _) ⟨_,_,_,_,_,rfl⟩ ⟨_,rfl,by rw[hz.out];rfl,Xa x4.out (by omega) _ _ _ _ _⟩
    ·have hd:=qdE hord.out (by rw[hp.out];exact hp0) (hF'.out rfl)
     have hp1:((p:Int) == 0)=false:=by rw[beq_eq_false_iff_ne];omega
     have hp2:decide (p=0)=false:=decide_eq_false (by omega)
     simp only[hp.out] at hd
     obtain⟨b',e1,e2,e3⟩:=HREL.out _ (List.getElem_mem _) hd h' hh.out
     obtain⟨x,hx⟩:∃ x,ys[p-1]'(by omega)=x:=⟨_,rfl⟩
     rw[hx] at hd e1
     obtain⟨p',rfl⟩:∃ p',p=p'+1:=⟨p-1,by omega⟩
     obtain⟨b9,off,rfl,hb9⟩:=hA (by omega)
     obtain⟨A',c',-,-,-,d3,-,-⟩:=hIT.out p' (by omega) b9 off rfl
     simp only[Nat.add_sub_cancel] at hx
     rw[hx,e1] at d3
     replace hx:=zH hx
     have hw64:wrap64 (((p'+1:Nat):Int)-1)=(p':Int):=by rw[IntWalk.wrap64_in _ (by omega)];omega
     have hlt:p'<ys.length:=by omega
     replace hw64:=hw64
     replace hd:=zH hd
     replace e1:=zH e1
     replace e2:=zH e2
     replace e3:=zH e3
     clear hA HREL
     replace hplc:=zH hplc
     replace hp0:=zH hp0
     go_wp2_with fail
     exact⟨e2.out,e3.out⟩
   ·obtain⟨hpl,hke⟩:=hT'.out rfl
    have hd:=down_is hord.out hpl hke
    obtain⟨b',e1,e2,e3⟩:=HREL.out _ (List.getElem_mem _) hd h' hh.out
    obtain⟨b9,off,rfl,hb9⟩:=hA (by omega)
    obtain⟨A',c',-,-,-,d3,-,-⟩:=hIT.out _ hpl b9 off rfl
    rw[e1] at d3
    have hpp:=hp.out
    simp only[hpp] at hpl d3
    replace hd:=zH hd
    replace hke:=zH hke
    replace e1:=zH e1
    replace e2:=zH e2
    replace e3:=zH e3
    clear hA HREL hplc hpp
    obtain⟨pz,hp1,hp2⟩:∃ pz:Bool,((p:Int) == 0)=pz∧decide (p=0)=pz:=by
     rcases Nat.eq_zero_or_pos p with hp0|hp0
     ·exact⟨true,by rw[beq_iff_eq];omega,decide_eq_true hp0⟩
     ·exact⟨false,by rw[beq_eq_false_iff_ne];omega,decide_eq_false (by omega)⟩
    cases pz
    all_goals
     go_wp2_with fail
     exact⟨e2.out,e3.out⟩
def qbi (S:Sto) (root:Int) (K:K3):Option It:=match qu S root.toNat with
 |none=>none
 |some (lvl,xs)=>XY S K lvl.toNat xs
def Ge (S:Sto) (root next:Int) (dead:List Int) (vs:List Vol):Prop:=∃ refs nodes,Ql S root next dead vs∧qR S (Qw root dead vs) refs nodes∧QD S refs
def zF (S:Sto) (root next:Int) (dead:List Int):Prop:=∀ vs,Ql S root next dead vs→∃ refs nodes,qR S (Qw root dead vs) refs nodes∧¬QD S refs
theorem ky {vs:List Vol} {id:Int} {v:Vol} (h:zm vs id=some v):v∈vs:=List.mem_of_find?_eq_some h
theorem qik {S:Sto} {root next:Int} {dead:List Int} {vs:List Vol} (h:Ql S root next dead vs) {v:Vol} (hv:v∈vs):∃ a:Nat,v.root=(a:Int)∧JB S a:=
 JN (h.ok v.root (by unfold Zl;exact List.mem_append_right _ (List.mem_map.2 ⟨v,hv,rfl⟩)))
def VFindQ (S:Sto) (root next:Int) (dead:List Int) (id:Int) (K:K3) (w:World) (e:Ending) (w':World):Prop:=Below w.heap.size w w' ∧
 ((e=.returned (.tuple #[.agg XJ,.int .i64 8])∧zF S root next dead) ∨
  ∃ vs u,Ge S root next dead vs∧e=.returned u∧match zm vs id with
   |none=>u=.tuple #[.agg XJ,.int .i64 6]
   |some v=>qcW w.heap.size (qbi S v.root K) u w')
theorem Yz {R:Ending→World→Prop} {a:Act} {W:World} {b:Nat} {cs:Array Value} {v:Value} (h6:a.tmps[6]?.getD undef=.pointer (some ⟨b,0,none⟩)) (h7:a.tmps[7]?.getD undef=v) (hd:a.defers=[])
  (hrow:W.heap[b]?=some (.cells cs 68 (0,0))) (hs:∃ x0 x1 x2 x3 x4,cs=#[x0,x1,x2,x3,x4]) (hR:R (.returned (.tuple #[.agg cs,v])) W):bodyPost Tryz.prog Tryz.f60 R .ret a W:=by
 refine bodyPost_ret (v:=.tuple #[.agg cs,v]) ?_ hd hR
 have k:=qa hrow
 obtain⟨x0,x1,x2,x3,x4,rfl⟩:=hs
 simp[results,Tryz.results60,go_sem,h6,h7,k]
set_option maxRecDepth 100000 in
theorem qix (A1:Option Addr) (n1 c1:Nat) (A2:Option Addr) (n2 c2:Nat) (A3:Option Addr) (n3 c3:Nat) (A4:Option Addr) (n4 c4:Nat) (gen root next:Int) (A5:Option Addr) (c5:Nat) (S:Sto) (dead:List Int) (id k i o:Int) (w:World)
  (h:qP w w.heap.size (.slice A1 n1 c1) (.slice A2 n2 c2) (.slice A3 n3 c3) (.slice A4 n4 c4) S) (hd:Zn w w.heap.size (.slice A5 dead.length c5) dead) :
  Calls Tryz.prog 60 #[.agg (qC (.slice A1 n1 c1) (.slice A2 n2 c2) (.slice A3 n3 c3) (.slice A4 n4 c4) gen root next (.slice A5 dead.length c5)),.int .u32 id,keyV k i o] w (VFindQ S root next dead id (k,i,o) w):=by
 have HT:=zH (fun W (hx:Ext w W)=>Gt A1 n1 c1 A2 n2 c2 A3 n3 c3 A4 n4 c4 gen root next A5 c5 S dead id W (h.ext hx) (by
  obtain⟨A,c,e,q1,q2,q3⟩:=hd
  exact⟨A,c,e,q1,q2,(q3.below hx).more hx.size⟩))
 have HF:=zH (fun W (hx:Ext w W) (hS:qm S=true) a lvl xs ha ha2 hn hsp=>qhG A1 n1 c1 A2 n2 c2 A3 n3 c3 A4 n4 c4 S hS a lvl xs ha ha2 hn hsp k i o W (h.ext hx))
 clear h hd
 go_enter Tryz.func60,Tryz.ntmps60
 go_wp2_with fail
 generalize hw1:(World.alloc (World.alloc (World.alloc w _) _) _)=w1
 have x1:Ext w w1:=by rw[←hw1];exact((zN _ _).trans (zN _ _)).trans (zN _ _)
 have rp1:w1.heap[w.heap.size]?=some (.cells (qC (.slice A1 n1 c1) (.slice A2 n2 c2) (.slice A3 n3 c3) (.slice A4 n4 c4) gen root next (.slice A5 dead.length c5)) 32 (0,0)):=by rw[←hw1];exact(zK _ _ _ (by simp;omega)).trans ((zK _ _ _ (by simp)).trans (zI _ _ _ rfl))
 have rk1:w1.heap[w.heap.size+1]?=some (.cells #[.int .u8 k,.int .u32 i,.int .u32 o] 66 (0,0)):=by rw[←hw1];exact(zK _ _ _ (by simp)).trans (zI _ _ _ (by simp))
 have ri1:w1.heap[w.heap.size+2]?=some (.cells XJ 68 (0,0)):=by rw[←hw1];exact zI _ _ _ (by simp)
 clear hw1
 refine(HT.out w1 x1).mono ?_
 clear HT
 rintro e w2 ⟨hB,hQ⟩
 have x2:Ext w w2:=Ext.trans x1 hB
 have rp2:=qb rp1 hB
 have rk2:=qb rk1 hB
 have ri2:=qb ri1 hB
 have z2:w.heap.size+2<w2.heap.size:=(zG.1 ri2).1
 have z20:w.heap.size<w2.heap.size:=by omega
 have z21:w.heap.size+1<w2.heap.size:=by omega
 clear hB x1 rp1 rk1 ri1
 rcases hQ with ⟨rfl,hno⟩|⟨vs,refs,nodes,hp,hcn,hen,rfl⟩
 ·replace hno:=zH hno
  have ki2:=qa ri2
  have fi2:=qd ri2
  go_wp2_with fail
  exact Yz (b:=w.heap.size+2) (cs:=XJ) rfl rfl rfl ((zK _ _ _ (by simp;omega)).trans (row5 ri2 _ _ _ _ _)) ⟨_,_,_,_,_,rfl⟩ ⟨Below.alloc (Xa x2 (by omega) _ _ _ _ _) (by simp;omega) _,.inl ⟨rfl,hno.out⟩⟩
 ·have hok:=zH (⟨refs,nodes,hp,hcn,hen⟩:Ge S root next dead vs)
  replace hp:=zH hp
  clear hcn hen
  rcases hv:zm vs id with _|v
  ·unfold volQ
   replace hv:=zH hv
   have ki2:=qa ri2
   have fi2:=qd ri2
   go_wp2_with fail
   exact Yz (b:=w.heap.size+2) (cs:=XJ) rfl rfl rfl ((zK _ _ _ (by simp;omega)).trans (row5 ri2 _ _ _ _ _)) ⟨_,_,_,_,_,rfl⟩ ⟨Below.alloc (Xa x2 (by omega) _ _ _ _ _) (by simp;omega) _,.inr ⟨vs,_,hok.out,rfl,by rw[hv.out];rfl⟩⟩
  ·unfold volQ
   obtain⟨a,ha,ht⟩:=qik hp.out (ky hv)
   obtain⟨h8,h256,lvl,xs,hn,hsp⟩:=ht
   have hfs:qbi S v.root (k,i,o)=XY S (k,i,o) lvl xs:=by
    unfold qbi
    rw[ha,Int.toNat_natCast,hn]
    simp
   have HFF:=zH (fun W hx=>HF.out W hx hp.out.may a lvl xs h8 h256 hn hsp)
   have kp2:=qa rp2
   have kk2:=qa rk2
   replace hv:=zH hv
   replace hfs:=zH hfs
   replace ha:=zH ha
   clear hn hsp HF
   go_wp2_with fail
   generalize hw3:(World.alloc w2 _)=w3
   have x23:Ext w2 w3:=by rw[←hw3];exact zN _ _
   clear hw3
   have hCall:=HFF.out w3 (x2.trans x23)
   rw[←ha.out] at hCall
   refine hCall.mono ?_
   clear hCall HFF
   rintro e w4 ⟨u,rfl,hu,hB⟩
   have x4:Ext w w4:=(x2.trans x23).trans hB
   have ri4:=qb (qb ri2 x23) hB
   have ki4:=qa ri4
   have fi4:=qd ri4
   have z3:w.heap.size+2<w3.heap.size:=(zG.1 (qb ri2 x23)).1
   have z4:w.heap.size+2<w4.heap.size:=(zG.1 ri4).1
   replace x4:=zH x4
   clear kp2 kk2 rp2 rk2 ri2 hB x23 x2 z2 z20 z21
   rcases hq:XY S (k,i,o) lvl xs with _|x
   ·rw[hq] at hu hfs
    obtain rfl:u=.tuple #[.agg XJ,.int .i64 6]:=hu
    replace hq:=zH hq
    go_wp2_with fail
    exact Yz (b:=w.heap.size+2) (cs:=XJ) rfl rfl rfl (row5 ri4 _ _ _ _ _) ⟨_,_,_,_,_,rfl⟩ ⟨Xa x4.out (by omega) _ _ _ _ _,.inr ⟨vs,_,hok.out,rfl,by rw[hv.out];show qcW _ (qbi S v.root (k,i,o)) _ _;rw[hfs.out];rfl⟩⟩
   ·rw[hq] at hu hfs
    obtain⟨A,c,rfl,hby,hfr⟩:=hu
    replace hq:=zH hq
    replace hby:=zH hby
    replace hfr:=zH hfr
    go_wp2_with fail
    exact Yz (b:=w.heap.size+2) (cs:=qfD x A c) rfl rfl rfl (row5 ri4 _ _ _ _ _) ⟨_,_,_,_,_,rfl⟩ ⟨Xa x4.out (by omega) _ _ _ _ _,.inr ⟨vs,_,hok.out,rfl,by rw[hv.out];show qcW _ (qbi S v.root (k,i,o)) _ _;rw[hfs.out];exact⟨A,c,rfl,bys_set5 hby.out hfr.out z3 _ _ _ _ _,hfr.out.mono (by omega)⟩⟩⟩
end Go.Proofs.YtpbniokljofedaaGreat
