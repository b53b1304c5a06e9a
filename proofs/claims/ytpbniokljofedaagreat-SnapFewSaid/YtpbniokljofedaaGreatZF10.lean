/- Texts CRead2, CLevels, TreeW, FreeT, VolsW, joined. -/
import Derived.Test.YtpbniokljofedaaGreatZF04
import Derived.Test.YtpbniokljofedaaGreatZF06
import Derived.Test.YtpbniokljofedaaGreatZF08
import Derived.Test.YtpbniokljofedaaGreatZF09
set_option linter.unusedSimpArgs false
set_option linter.unusedVariables false
set_option maxHeartbeats 8000000
namespace Go.Proofs.YtpbniokljofedaaGreat
open Go.RowKit
theorem cen_now {p:CP} {W:World} {g:Int→Option Value} (hC:Cen p W g):∃ b3 o3 c3,p.v3=.slice (some ⟨b3,o3,none⟩) 256 c3∧256≤c3∧c3≤maxLen:=by
 obtain⟨_,_,hl3,_⟩:=qU hC.may
 have hn:=hC.sto.now
 obtain⟨A3,c3,e3,_⟩:=hC.sto.now
 rw[e3] at hn
 obtain⟨_,hc3,hm3,hA3⟩:=hn.at_
 obtain⟨b3,o3,rfl,_⟩:=hA3 (by omega)
 rw[hl3] at e3 hc3
 exact⟨b3,o3,c3,e3,hc3,hm3⟩
theorem qcc {p:CP} {W:World} {g:Int→Option Value} (hC:Cen p W g) {b3 o3 c3:Nat} (h3:p.v3=.slice (some ⟨b3,o3,none⟩) 256 c3) {a:Nat} (ha:a<256):W.cell? ⟨b3,o3+a,none⟩=some (.int .u8 ((p.S.now[a]?.getD 0).toNat:Int)):=by
 obtain⟨_,_,hl3,_⟩:=qU hC.may
 obtain⟨A',c',e,_,_,hr⟩:=hC.sto.now
 rw[h3,Value.slice.injEq] at e
 obtain⟨rfl,_,rfl⟩:=e
 obtain⟨b',off',e,_,hc⟩:=hr.2 (by omega)
 simp only[Option.some.injEq,Addr.mk.injEq,and_true] at e
 obtain⟨rfl,rfl⟩:=e
 exact hc a _ (by rw[List.getElem?_map,zL (by omega)];rfl)
theorem Ti {R:Ending→World→Prop} {a:Act} {W:World} {b:Nat} {lvl:Int} {A:Option Addr} {n c:Nat} {f l:K3} {bo:Bool} (h4:a.tmps[4]?.getD undef=.pointer (some ⟨b,0,none⟩)) (hd:a.defers=[])
  (hrow:W.heap[b]?=some (.cells (jD lvl A n c f l bo) 135 (0,0))) (hR:R (.returned (ZV lvl A n c f l bo)) W):bodyPost Tryz.prog Tryz.f134 R .ret a W:=by
 refine bodyPost_ret (v:=ZV lvl A n c f l bo) ?_ hd hR
 have k:=qa hrow
 simp[results,Tryz.results134,go_sem,h4,k]
theorem RdI.bad {p:CP} {h:Nat} {xs:List It} {A:Option Addr} {c:Nat} {w wr:World} {f g:Int→Option Value} {k:Nat} {fk lk:K3} (H:RdI p h xs A c w f wr g k fk lk) (hC:Cen p w f) (hb:Qd p.S h xs=none) :
  YV p f (qcY p h A c xs) w (.returned (ZV h A xs.length c (0,0,0) (0,0,0) false)) (((((((((wr.setCell ⟨w.heap.size+1,0,none⟩ (.int .i64 h)).setCell ⟨w.heap.size+1,1,none⟩ (.slice A xs.length c)).setCell ⟨w.heap.size+1,2,none⟩ (.int .u8 0)).setCell ⟨w.heap.size+1,3,none⟩ (.int .u32 0)).setCell ⟨w.heap.size+1,4,none⟩ (.int .u32 0)).setCell ⟨w.heap.size+1,5,none⟩ (.int .u8 0)).setCell ⟨w.heap.size+1,6,none⟩ (.int .u32 0)).setCell ⟨w.heap.size+1,7,none⟩ (.int .u32 0)).setCell ⟨w.heap.size+1,8,none⟩ (.bool false)):=
 H.ret hC (VC _ _ _ _ _ _ _ _ _) ⟨(0,0,0),(0,0,0),false,rfl,⟨by rw[hb];rfl,fun q hq=>by rw[hb] at hq;cases hq⟩,fun h=>by cases h⟩
set_option maxRecDepth 100000 in
theorem qbg (p:CP) (h:Nat) (HL:∀ h':Nat,h=h'+1→qeX p (h':Int)):ReadC p h:=by
 intro xs A c w f hmay hxs hits hC
 have hIts:=hits.its
 obtain⟨-,hc1,hc2,hA⟩:=hIts.at_
 have hlen:xs.length≤5:=by unfold Qe jz at hmay;simp at hmay;omega
 have hle5:h≤5:=by unfold Qe jz at hmay;simp at hmay;omega
 replace hle5:=zH hle5
 have hlow:=hC.low
 have HI:=zH hIts
 have HXS:=zH hxs
 have HC:=zH hC
 have HLow:=zH hlow
 clear hits hIts hmay hxs hC hlow
 go_enter Tryz.func134,Tryz.ntmps134
 go_wp2
 generalize hw1:(World.alloc (World.alloc _ _) _)=w1
 have x1:Ext w w1:=by rw[←hw1];exact((zN _ _).trans (zN _ _)).trans (zN _ _)
 have H1:RdI p h xs A c w f w1 f 0 (0,0,0) (0,0,0):=by
  refine⟨?_,?_,?_,⟨rfl,fun p hp=>by cases hp⟩,fun _ y hy=>by simp at hy,Jp.refl _,(HC.out.ext x1).map,Zr x1 _,fun a v h1 h0=>by rw[h1] at h0;cases h0⟩
  ·rw[←hw1];exact(zK _ _ _ (by simp;omega)).trans ((zK _ _ _ (by simp)).trans (zI _ _ _ rfl))
  ·rw[←hw1];exact(zK _ _ _ (by simp)).trans (zI _ _ _ (by simp))
  ·rw[←hw1];exact zI _ _ _ (by simp)
 clear hw1
 replace H1:=zH H1
 go_loopw [14] (fun i wr=>∃ (k:Nat) (g:Int→Option Value) (fk lk:K3),k≤xs.length∧i=.int .i64 (k:Int)∧RdI p h xs A c w f wr g k fk lk) (fun i _=>xs.length-(intOf i).toNat)
 case atStart=>exact⟨0,f,_,_,by omega,rfl,H1.out⟩
 case round =>
  obtain⟨k,g,fk,lk,hk,rfl,HR⟩:=hrel
  clear H1 x1
  have zr:=HR.gw.size
  have HCr:=HR.cen HC.out
  have hkeep:=jx HC.out.map HR.mp HR.gw
  have rnr:=HR.rn
  have rxr:=HR.rx
  have rrr:=HR.rr
  have z2:w.heap.size+2<wr.heap.size:=(zG.1 rxr).1
  by_cases hlt:k<xs.length
  ·have hlt':=hlt
   obtain⟨b,off,rfl,hb⟩:=hA (by omega)
   obtain⟨A',c',d0,d1,d2,d3,d4,-⟩:=HI.out.item k hlt'
   rw[←hkeep _ (by simpa using hb)] at d0 d1 d2 d3 d4
   clear hkeep
   have hxr:=HXS.out xs[k] (List.getElem_mem hlt')
   obtain⟨b3,o3,c3,e3,hc3,hm3⟩:=cen_now HCr
   have HSTEP:=zH (fun f l b=>@qil p.S h xs k f l fk lk b hlt')
   have HSTOK:=zH (fun f l=>@round_ok p.S h xs k f l fk lk hlt')
   have HMEM:=zH (List.getElem_mem hlt')
   have HTK:=zH (List.take_succ_eq_append_getElem hlt')
   generalize xs[k]=x at *
   obtain⟨⟨-,-,-,hr0,-⟩,-⟩:=hxr
   obtain⟨hr01,hr02⟩:=hr0
   obtain⟨r,hr⟩:=Int.eq_ofNat_of_zero_le hr01
   rw[hr] at d3 hr02
   have hr2:r<256:=by omega
   replace hr:=zH hr
   have knr:=qa rnr
   have kxr:=qa rxr
   have hfN:=fun W (hx:Ext wr W)=>qcc (HCr.ext hx) e3 hr2
   generalize hnv:(p.S.now[r]?.getD 0).toNat=nv at *
   replace hnv:=zH hnv
   unfold maxLen at hm3
   clear hr01 hr02
   have hfN0:=hfN wr (Ext.refl _)
   replace hfN:=zH hfN
   go_wp2_with fail
   generalize hwa:(World.alloc _ _)=wa
   have xa:Ext wr wa:=by rw[←hwa];exact zN _ _
   have ra:wa.heap[wr.heap.size]?=some (.cells #[.int .u8 x.k,.int .u32 x.i,.int .u32 x.o,.int .i64 r,.slice A' x.val.length c'] 68 (0,0)):=by rw[←hwa];exact zI _ _ _ rfl
   clear hwa d0 d1 d2 d3 d4 hfN0
   have HCa:=HCr.ext xa
   have hcb:=HCa.c2
   rw[e3] at hcb
   have gC:∀ W,ql.r wa W→W.cell? ⟨p.cb,2,none⟩=some (.slice (some ⟨b3,o3,none⟩) 256 c3):=fun W h=>by rw[qa (qb HCa.row h)];exact hcb
   have gN:∀ W,ql.r wa W→W.cell? ⟨b3,o3+r,none⟩=some (.int .u8 (nv:Int)):=fun W h=>hfN.out W (xa.trans h)
   have gI:∀ W,ql.r wa W→∀ i,W.cell? ⟨wr.heap.size,i,none⟩=#[.int .u8 x.k,.int .u32 x.i,.int .u32 x.o,.int .i64 r,.slice A' x.val.length c'][i]?:=fun W h=>qa (qb ra h)
   clear hcb knr kxr hfN
   obtain⟨is0,hi0⟩:∃ is0:Bool,is0=decide (x.r=0∨0<nv):=⟨_,rfl⟩
   replace hi0:=zH hi0
   have hr0:(((r:Int) == 0)=true∧decide (r=0)=true∧is0=true)∨(((r:Int) == 0)=false∧decide (r=0)=false∧is0=decide (0<nv)):=by
    rw[hi0.out,hr.out]
    rcases Nat.eq_zero_or_pos r with h0|h0
    ·subst h0
     exact .inl ⟨by decide,by decide,by simp⟩
    ·exact .inr ⟨by rw[beq_eq_false_iff_ne];omega,decide_eq_false (by omega),by rw[decide_eq_decide];omega⟩
   refine qo (by kernel_rfl) ?_
   refine Zp (w:=wa) ql (qF [(20,jT wa.heap.size 135 (jD 0 none 0 0 (0,0,0) (0,0,0) false))]) [true,true,true,true,true,true,true,true,true,true,true,true,true,true,true,true,true,true,true,true,true] 1 (by kernel_rfl) (by kernel_rfl) (by kernel_rfl) (by kernel_rfl) (by kernel_rfl) (by kernel_rfl) ?st (Rel.drew _ _) ?walk
   case st=>exact qk (by simp only[List.forall_mem_cons];exact⟨fun p=>QK (ZX _ _ _ p),fun _ h=>by cases h⟩)
   case walk =>
    intro K hK
    dsimp only[qp]
    rcases hr0 with ⟨hq1,hq2,hq3⟩|⟨hq1,hq2,hq3⟩
    all_goals
     replace hq3:=zH hq3
     repeat ((first|(refine qe ?_ (by rfl) (by rfl) (fun W hW _=>⟨W,?_,Rel.refl _ W⟩) ?_;rotate_left;(go_simp<;>with_reducible rfl))|(refine qh (by rfl) ?_));try simp only[Act.put,qj,qf,qc,qg,qc,zA,zB,zC])
     try (
      refine qe (.pointer (some ⟨b3,o3+r,none⟩)) (by rfl) (by rfl) (fun W hW _=>⟨W,?_,Rel.refl _ W⟩) ?_
      ·go_simp
       intro hge
       exfalso
       omega
      simp only[Act.put,qj,qf,qc,qg,qc,zA,zB,zC])
     repeat ((first|(refine qe ?_ (by rfl) (by rfl) (fun W hW _=>⟨W,?_,Rel.refl _ W⟩) ?_;rotate_left;(go_simp<;>with_reducible rfl))|(refine qh (by rfl) ?_));try simp only[Act.put,qj,qf,qc,qg,qc,zA,zB,zC])
     refine qy (jT wa.heap.size 135 (jD 0 none 0 0 (0,0,0) (0,0,0) false)) (by rfl) (by rfl) (fun W hW _=>?_) (fun (p8:Nat)=>?_)
     ·refine jY ?_ (Below.size hW)
      go_simp
     simp only[Act.put,qj,qf,qc,qg,qc,zA,zB,zC]
     refine qt (hK _ _ fun W hW hF=>?_)
     obtain⟨f8,hlo⟩:W.heap[p8]?=some (.cells (jD 0 none 0 0 (0,0,0) (0,0,0) false) 135 (0,0))∧wa.heap.size≤p8:=(hF 20).1
     clear hF hK gC gN gI
     have hW':Ext wa W:=hW
     dsimp only[List.drop,List.length_cons,List.length_nil]
     have k8:=qa f8
     have h8:=qd f8
     go_wp2
     refine Qm ?_
     have x5:Ext wa _:=ve hW' hlo (.int .i64 0) (.slice none 0 0) (.int .u8 x.k) (.int .u32 x.i) (.int .u32 x.o) (.int .u8 x.k) (.int .u32 x.i) (.int .u32 x.o) (.bool is0)
     have r8:=Va f8 rfl (.int .i64 0) (.slice none 0 0) (.int .u8 x.k) (.int .u32 x.i) (.int .u32 x.o) (.int .u8 x.k) (.int .u32 x.i) (.int .u32 x.o) (.bool is0)
     rw[hq3.out] at x5 r8
     generalize hw5:(World.setCell (World.setCell (World.setCell (World.setCell (World.setCell (World.setCell (World.setCell (World.setCell (World.setCell W _ _) _ _) _ _) _ _) _ _) _ _) _ _) _ _) _ _)=w5 at *
     rw[←hq3.out] at r8
     clear hw5 k8 h8 f8 hW hW' hq1 hq2
     have H5:=HR.ext HC.out (xa.trans x5)
     have r5:=qb ra x5
     have z8:wr.heap.size<p8:=Nat.lt_of_lt_of_le (zG.1 ra).1 hlo
     have z8':p8<w5.heap.size:=(zG.1 r8).1
     have kn5:=qa H5.rn
     rcases Nat.eq_zero_or_pos h with hz|hz
     case' inl =>
      have HO:YD p.S h x (qE x) (qE x) is0:=by
       rw[hz]
       unfold YD vw
       rw[hi0.out,hr.out,Int.toNat_natCast,hnv.out]
       split
       ·rename_i hh
        split at hh
        ·cases hh
        ·rename_i hn
         exact decide_eq_false hn
       ·rename_i hh
        split at hh
        ·rename_i hn
         cases hh
         exact⟨decide_eq_true hn,rfl⟩
        ·cases hh
      have hd:decide ((h:Int)>0)=false:=decide_eq_false (by omega)
      have hd2:decide (0<h)=false:=decide_eq_false (by omega)
      have hd3:¬0<h:=by omega
      obtain⟨g',H7,HCL⟩:∃ g',RdI p h xs (some ⟨b,off,none⟩) c w f w5 g' k fk lk∧Hid (is0=true→0<h→(g' x.r).isSome=true):=⟨g,H5,zH fun _ h0=>absurd h0 hd3⟩
      replace r8:w5.heap[p8]?=some (.cells (jD 0 none 0 0 (qE x) (qE x) is0) 135 (0,0)):=r8
      generalize hF1:qE x=F1 at r8 HO
      obtain⟨L1,hL1⟩:∃ L1,L1=F1:=⟨_,rfl⟩
      replace HO:Hid (YD p.S h x F1 L1 is0):=zH (by rw[hL1];exact HO)
      replace r8:w5.heap[p8]?=some (.cells (jD 0 none 0 0 F1 L1 is0) 135 (0,0)):=by rw[hL1];exact r8
      replace hz:=zH hz
      replace H5:=zH H5
      replace H7:=zH H7
      generalize is0=B at r8 HO HCL
      clear hi0 hq3 hF1 hL1
      go_upto_region 8 with fail
     case' inr =>
      obtain⟨h',hh⟩:∃ h',h=h'+1:=⟨h-1,by omega⟩
      have HLc:=HL h' hh
      rw[show (h':Int)=(h:Int)-1 by omega] at HLc
      have hd:decide ((h:Int)>0)=true:=decide_eq_true (by omega)
      have hd2:decide (0<h)=true:=decide_eq_true hz
      have hw64:wrap64 ((h:Int)-1)=(h:Int)-1:=IntWalk.wrap64_in _ (by have:=hle5.out;omega)
      replace hh:=zH hh
      have ki5:=qa r5
      go_wp2_with fail
      refine(HLc r w5 g (H5.cen HC.out)).mono ?_
      rintro e w6 ⟨v,g',rfl,⟨lvl,A9,n9,c9,F1,L1,rfl,hknown⟩,hgr,hm,hg,hn⟩
      have hlowO:=HLow.out
      have C6:=(H5.cen HC.out).after hgr hm hg hn
      have HO:Hid (YD p.S h x F1 L1 (okL p.S (h-1) r)):=by
       refine zH ?_
       rw[show (h:Int)-1=(h':Int) by have:=hh.out;omega] at hknown ⊢
       have hcl:okL p.S (h':Int) r=true→vR p.S h' r=some (F1,L1):=fun hok=>qdy (C6.known _ _ (hknown hok)) hok
       have hol:=qby p.S h' r
       unfold YD
       rw[hh.out,VY,hr.out]
       rcases hls:vR p.S h' r with _|q
       ·rw[hls] at hol;exact hol
       ·rw[hls] at hol
        have h1:=hcl hol
        rw[hls] at h1
        cases h1
        exact⟨hol,rfl⟩
      have HCL:Hid (okL p.S (h-1) r=true→0<h→(g' x.r).isSome=true):=zH fun hok _=>by rw[hr.out,hknown hok];rfl
      generalize okL p.S ((h:Int)-1) r=B at *
      have b8:=(hg.block p8 z8' (by simp;omega)).trans r8
      have H7:=HR.call8 HC.out (xa.trans x5) hgr hm hg hn (b:=p8) (by omega) z8' (VC (.int .i64 lvl) (.slice A9 n9 c9) (.int .u8 F1.1) (.int .u32 F1.2.1) (.int .u32 F1.2.2) (.int .u8 L1.1) (.int .u32 L1.2.1) (.int .u32 L1.2.2) (.bool B))
      have r9:=Va b8 rfl (.int .i64 lvl) (.slice A9 n9 c9) (.int .u8 F1.1) (.int .u32 F1.2.1) (.int .u32 F1.2.2) (.int .u8 L1.1) (.int .u32 L1.2.1) (.int .u32 L1.2.2) (.bool B)
      have g9:=VC (w:=w6) (b:=p8) (.int .i64 lvl) (.slice A9 n9 c9) (.int .u8 F1.1) (.int .u32 F1.2.1) (.int .u32 F1.2.2) (.int .u8 L1.1) (.int .u32 L1.2.1) (.int .u32 L1.2.2) (.bool B)
      have r59:=(g9.block wr.heap.size (by have:=hg.size;omega) (by simp;omega)).trans ((hg.block wr.heap.size (by omega) (by simp;omega)).trans r5)
      have z9:p8<(World.setCell (World.setCell (World.setCell (World.setCell (World.setCell (World.setCell (World.setCell (World.setCell (World.setCell w6 _ _) _ _) _ _) _ _) _ _) _ _) _ _) _ _) _ _).heap.size:=(zG.1 r9).1
      have f8:=qd b8
      have kb8:=qa b8
      clear r8 r5 hknown HLc ki5
      replace hz:=zH hz
      replace H5:=zH H5
      replace H7:=zH H7
      replace C6:=zH C6
      replace HLow:=zH HLow
      clear hq3 hi0
      go_upto_region 8 with fail
      generalize hw7:(World.setCell (World.setCell (World.setCell (World.setCell (World.setCell (World.setCell (World.setCell (World.setCell (World.setCell w6 _ _) _ _) _ _) _ _) _ _) _ _) _ _) _ _) _ _)=w7 at *
      clear hw7 b8 f8 kb8 hgr hm hg hn g9 z8' hlowO
      have r8:=r9
      have r5:=r59
      have z8':=z9
      clear r9 r59 z9
     all_goals
      replace HR:=zH HR
      replace HCr:=zH HCr
      replace HCa:=zH HCa
      replace e3:=zH e3
      replace hnv:=zH hnv
      clear rxr rrr rnr hb hA hlt hk hc3 hm3 hr2 zr xa ra x5 hlo kn5
      have HBD:=zH (fun hb=>H7.out.bad HC.out (HSTEP.out _ _ _ HO.out H7.out.sp hb))
      have kn7:=qa H7.out.rn
      have kx7:=qa H7.out.rx
      have fx7:=qd H7.out.rx
      have kr7:=qa H7.out.rr
      have fr7:=qd H7.out.rr
      have k8:=qa r8
      have k5:=qa r5
      have hp1:p8≠w.heap.size+2:=by omega
      have hp2:w.heap.size+2≠p8:=by omega
      have hp3:p8≠w.heap.size+1+1:=by omega
      have hp4:w.heap.size+1+1≠p8:=by omega
      rcases hb0:B with _|_
      ·rw[hb0] at k8
       have HB:=HBD.out (.inl hb0)
       replace HB:=zH HB
       clear HBD
       go_wp2
       exact Ti (b:=w.heap.size+1) rfl rfl (Va H7.out.rr rfl _ _ _ _ _ _ _ _ _) HB.out
      ·rw[hb0] at k8
       have HO1:YD p.S h x F1 L1 true:=by rw[←hb0];exact HO.out
       by_cases hF:F1=qE x
       ·subst hF
        have HN0:=zH (HSTOK.out _ _ HO1 H7.out.sp rfl)
        have hcl:0<h→∀ y∈xs.take (k+1),(g' y.r).isSome=true:=fun h0 y hy=>by
         rw[HTK.out,List.mem_append,List.mem_singleton] at hy
         rcases hy with hy|rfl
         ·exact H7.out.cl h0 y hy
         ·exact HCL.out hb0 h0
        replace hcl:=zH hcl
        replace HO1:=zH HO1
        replace hb0:=zH hb0
        rcases Nat.eq_zero_or_pos k with hk0|hk0
        ·have hk1:decide ((k:Int)>0)=false:=decide_eq_false (by omega)
         have hk2:((k:Int) == 0)=true:=by rw[beq_iff_eq];omega
         have hk3:decide (k=0)=true:=decide_eq_true hk0
         have hk4:decide (0<k)=false:=decide_eq_false (by omega)
         have HN:=HN0.out (fun h=>by omega)
         rw[if_pos hk0] at HN
         replace HN:=zH HN
         replace hk0:=zH hk0
         clear HBD HN0
         have HR9:=H7.out.set6 HC.out HN.out hcl.out
         dsimp only[qE] at HR9
         replace HR9:=zH HR9
         go_wp2_with fail
         refine⟨⟨k+1,g',(x.k,x.i,x.o),L1,hlt',rfl,HR9.out⟩,?_⟩
         simp[intOf]
         omega
        ·have hk1:decide ((k:Int)>0)=true:=decide_eq_true (by omega)
         have hk2:((k:Int) == 0)=false:=by rw[beq_eq_false_iff_ne];omega
         have hk3:decide (k=0)=false:=decide_eq_false (by omega)
         have hk4:decide (0<k)=true:=decide_eq_true hk0
         have hkn:¬k=0:=by omega
         have hkz:=zH hk0
         clear hk0 hkn
         go_wp2_with fail
         refine(KT lk.1 lk.2.1 lk.2.2 x.k x.i x.o _).mono ?_
         rintro e wl ⟨rfl,hB⟩
         have H8:=H7.out.ext HC.out hB
         have HS8:=zH (HSTEP.out _ _ _ HO1.out H8.sp)
         have kn8:=qa H8.rn
         have kx8:=qa H8.rx
         have fx8:=qd H8.rx
         have kr8:=qa H8.rr
         have fr8:=qd H8.rr
         have r88:=qb r8 hB
         rw[hb0.out] at r88
         have k88:=qa r88
         clear kn7 kx7 fx7 kr7 fr7 k8 k5 hB r8 r5 HBD
         replace H8:=zH H8
         rcases hls:VU lk.1 lk.2.1 lk.2.2 x.k x.i x.o with _|_
         ·have HB:=zH (H8.out.bad HC.out (HS8.out (.inr (.inr ⟨hkz.out,hls⟩))))
          go_wp2
          exact Ti (b:=w.heap.size+1) rfl rfl (Va H8.out.rr rfl _ _ _ _ _ _ _ _ _) HB.out
         ·have HN:=HN0.out (fun _=>hls)
          rw[if_neg (by have:=hkz.out;omega)] at HN
          replace HN:=zH HN
          clear HN0
          have HR9:=zH (H8.out.set3 HC.out HN.out hcl.out)
          go_wp2_with fail
          refine⟨⟨k+1,g',fk,L1,hlt',rfl,HR9.out⟩,?_⟩
          simp[intOf]
          omega
       ·have HB:=HBD.out (.inr (.inl hF))
        replace HB:=zH HB
        clear HBD
        replace hb0:=zH hb0
        go_wp2_with fail
        all_goals first
         |exact absurd (Prod.ext ‹F1.1=x.k› (Prod.ext ‹F1.2.1=x.i› ‹F1.2.2=x.o›)) hF
         |exact Ti (b:=w.heap.size+1) rfl rfl (Va H7.out.rr rfl _ _ _ _ _ _ _ _ _) HB.out
  ·have hke:k=xs.length:=by omega
   have HQ:qcY p h A c xs (ZV h A xs.length c fk lk true) g:=by
    refine⟨fk,lk,true,rfl,?_,fun _ h0 y hy=>HR.cl h0 y (by rw[hke,List.take_length];exact hy)⟩
    have:=HR.sp
    rwa [hke,List.take_length] at this
   have HB:=zH (HR.ret HC.out (VC (.int .i64 h) (.slice A xs.length c) (.int .u8 fk.1) (.int .u32 fk.2.1) (.int .u32 fk.2.2) (.int .u8 lk.1) (.int .u32 lk.2.1) (.int .u32 lk.2.2) (.bool true)) HQ)
   have kx:=qa rxr
   have kr:=qa rrr
   have fr:=qd rrr
   have kn:=qa rnr
   have rr:=zH rrr
   replace HCr:=zH HCr
   replace HR:=zH HR
   replace HQ:=zH HQ
   replace hke:=zH hke
   clear hkeep rxr rnr rrr zr
   go_wp2
   exact Ti (b:=w.heap.size+1) rfl rfl (Va rr.out rfl _ _ _ _ _ _ _ _ _) HB.out
theorem qbf (p:CP):∀ h:Nat,h≤5→ReadC p h
 |0,_=>qbg p 0 fun _ e=>by omega
 |h+1,hh=>qbg p (h+1) fun h' e=>by
  have e':h=h':=by omega
  subst e'
  exact qbq p (h:Int) (.inr (by omega)) fun n hn hL=>by
   have e':n=h:=by have:=hL (by omega);omega
   subst e'
   exact qbf p n (by omega)
theorem GA (p:CP):qeX p (-1):=qbq p (-1) (.inl rfl) fun h hh _=>qbf p h hh
theorem field_is (lvl:Int) (A:Option Addr) (n c:Nat) (f l:K3) (b:Bool) (w:World):(Instr.field 135 (ZV lvl A n c f l b) 3).run Tryz.prog w=.ok (.bool b) w:=by kernel_rfl
theorem qgO (lvl:Int) (A:Option Addr) (n c:Nat) (f l:K3) (b:Bool) (w:World):(Instr.field 135 (ZV lvl A n c f l b) 0).run Tryz.prog w=.ok (jg lvl A n c) w:=by kernel_rfl
structure Ar (ca:Array Value) (refs nodes:Nat→Nat) (vv:Value):Prop where
 size:ca.size=519
 ref:∀ a,a<256→ca[6+a]?=some (.int .i64 (refs a:Int))
 node:∀ a,a<256→ca[262+a]?=some (.int .i64 (nodes a:Int))
 vol:ca[518]?=some vv
def Js (f:Nat→Nat) (a:Nat):Nat→Nat:=fun b=>f b+if b=a then 1 else 0
theorem Ar.addRef {ca:Array Value} {refs nodes:Nat→Nat} {vv:Value} (h:Ar ca refs nodes vv) {a:Nat} (ha:a<256):Ar (ca.setIfInBounds (6+a) (.int .i64 ((refs a:Int)+1))) (Js refs a) nodes vv:=by
 have hs:=h.size
 refine⟨by simp[hs],fun b hb=>?_,fun b hb=>?_,?_⟩
 ·rw[Array.getElem?_setIfInBounds]
  unfold Js
  by_cases e:b=a
  ·subst e
   rw[if_pos rfl,if_pos (by omega),if_pos rfl]
   simp
  ·rw[if_neg (by omega),if_neg e,h.ref b hb]
   simp
 ·rw[Array.getElem?_setIfInBounds,if_neg (by omega),h.node b hb]
 ·rw[Array.getElem?_setIfInBounds,if_neg (by omega),h.vol]
theorem Ar.addNode {ca:Array Value} {refs nodes:Nat→Nat} {vv:Value} (h:Ar ca refs nodes vv) {a:Nat} (ha:a<256):Ar (ca.setIfInBounds (262+a) (.int .i64 ((nodes a:Int)+1))) refs (Js nodes a) vv:=by
 have hs:=h.size
 refine⟨by simp[hs],fun b hb=>?_,fun b hb=>?_,?_⟩
 ·rw[Array.getElem?_setIfInBounds,if_neg (by omega),h.ref b hb]
 ·rw[Array.getElem?_setIfInBounds]
  unfold Js
  by_cases e:b=a
  ·subst e
   rw[if_pos rfl,if_pos (by omega),if_pos rfl]
   simp
  ·rw[if_neg (by omega),if_neg e,h.node b hb]
   simp
 ·rw[Array.getElem?_setIfInBounds,if_neg (by omega),h.vol]
theorem qcL {ca:Array Value} {k i:Nat} {v:Value} (hk:6≤k) (hi:i<6):(ca.setIfInBounds k v)[i]?=ca[i]?:=by
 rw[Array.getElem?_setIfInBounds,if_neg (by omega)]
def vU (nodes:Nat→Nat):Nat→Bool:=fun a=>decide (0<nodes a)
theorem VD {nodes:Nat→Nat} {a:Nat}:vU (Js nodes a)=KV (vU nodes) a:=by
 funext b
 unfold vU Js KV
 by_cases e:b=a
 ·rw[if_pos e,if_pos e];simp
 ·rw[if_neg e,if_neg e];rfl
theorem VE {nodes:Nat→Nat} {a:Nat} (h:0<nodes a):vU (Js nodes a)=vU nodes:=by
 funext b
 unfold vU Js
 by_cases e:b=a
 ·subst e;rw[if_pos rfl,decide_eq_true h,decide_eq_true (by omega)]
 ·rw[if_neg e];rfl
def Tw (S:Sto) (f:Int→Option Value) (R:List Nat):Prop:=∀ a∈R,JB S a∧(f (a:Int)).isSome=true
structure qR (S:Sto) (R:List Nat) (refs nodes:Nat→Nat):Prop where
 mkd:jl (vQ S) (vZ S) R (vU nodes) refs
 few:∀ a,nodes a+6*JX (vU nodes) 256≤1536+R.length
theorem Tw.reach {S:Sto} {lo:Nat} {w:World} {f:Int→Option Value} {R:List Nat} (hR:Tw S f R) (hk:qaZ S lo w f) {a:Nat} (h:Rch (vQ S) (· ∈ R) a):JB S a∧(f (a:Int)).isSome=true:=
 h.closed (M:=fun a=>JB S a∧(f (a:Int)).isSome=true) (fun a ha=>hR a ha) fun a ha b hb=>⟨qhR ha.1 hb,qhS hk ha.1 ha.2 hb⟩
theorem qet {S:Sto} {R:List Nat} {M:Nat→Bool} {refs:Nat→Nat} {s:List Nat} (h:JI (vQ S) (vZ S) R M refs s) (b:Nat):refs b≤R.length+1280:=by
 rw[h.sum]
 have h1:=List.count_le_length (a:=b) (l:=R)
 have h2:=qhh (rs:=vZ S) (M:=M) (b:=b) (k:=5) 256 fun a _ _=>qeu
 omega
structure Wk (S:Sto) (R:List Nat) (refs nodes:Nat→Nat) (s:List Nat):Prop where
 wk:JI (vQ S) (vZ S) R (vU nodes) refs s
 few:∀ a,nodes a+6*JX (vU nodes) 256+s.length≤1536+R.length
theorem qR.start {S:Sto} {R:List Nat} {refs nodes:Nat→Nat} (h:qR S R refs nodes) (a:Nat):Wk S (R++[a]) (Js refs a) nodes [a]:=
 ⟨(jl.walk.1 h.mkd).add a fun _=>rfl,fun b=>by have:=h.few b;simp;omega⟩
theorem Wk.done {S:Sto} {R:List Nat} {refs nodes:Nat→Nat} (h:Wk S R refs nodes []):qR S R refs nodes:=
 ⟨jl.walk.2 h.wk,fun a=>by have:=h.few a;simpa using this⟩
theorem Wk.again {S:Sto} {R:List Nat} {refs nodes:Nat→Nat} {s:List Nat} {a:Nat} (h:Wk S R refs nodes (s++[a])) (ha:0<nodes a):Wk S R refs (Js nodes a) s:=by
 refine⟨?_,fun b=>?_⟩
 ·rw[VE ha]
  exact h.wk.again (decide_eq_true ha)
 ·rw[VE ha]
  have:=h.few b
  rw[List.length_append,List.length_singleton] at this
  unfold Js
  split <;> omega
def VH (xs:List It) (k:Nat):List Nat:=((xs.take k).map fun y=>y.r.toNat).filter fun r=>r != 0
theorem GX {S:Sto} {a:Nat} {lvl:Int} {xs:List It} (h:qu S a=some (lvl,xs)):VH xs xs.length=vZ S a:=by
 unfold VH vZ
 rw[List.take_length,h]
theorem Yu {xs:List It} {k:Nat} (hk:k<xs.length):VH xs (k+1)=if xs[k].r.toNat=0 then VH xs k else VH xs k++[xs[k].r.toNat]:=by
 unfold VH
 rw[List.take_succ_eq_append_getElem hk,List.map_append,List.filter_append]
 by_cases h:xs[k].r.toNat=0
 ·rw[if_pos h];simp[h]
 ·rw[if_neg h];simp[h]
theorem GY {xs:List It} {k:Nat}:(VH xs k).length≤k:=by
 unfold VH
 refine Nat.le_trans (List.length_filter_le _ _) ?_
 rw[List.length_map,List.length_take]
 omega
theorem Wk.new {S:Sto} {R:List Nat} {refs nodes refs':Nat→Nat} {s:List Nat} {a lvl:Nat} {xs:List It} (h:Wk S R refs nodes (s++[a])) (ha:nodes a=0) (hl:a<256) (hn:qu S a=some ((lvl:Int),xs)) (hr:∀ b,refs' b=refs b+(VH xs xs.length).count b) :
  Wk S R refs' (Js nodes a) (s++if 0<lvl then VH xs xs.length else []):=by
 have hm:vU nodes a=false:=decide_eq_false (by omega)
 have hk:vQ S a=if 0<lvl then VH xs xs.length else []:=by
  unfold vQ
  rw[hn,GX hn]
  simp only
  by_cases h0:0<lvl
  ·rw[if_pos h0,if_pos (by omega)]
  ·rw[if_neg h0,if_neg (by omega)]
 rw[←hk]
 refine⟨?_,fun b=>?_⟩
 ·rw[VD]
  exact h.wk.new hm hl fun b=>by rw[hr,GX hn]
 ·rw[VD]
  have h1:=h.few b
  have h2:=Xu hm 256
  rw[if_pos hl] at h2
  rw[List.length_append,List.length_singleton] at h1
  have h3:(vQ S a).length≤5:=by
   rw[hk]
   split
   ·rw[GX hn];exact qeu
   ·simp
  rw[List.length_append]
  unfold Js
  split <;> omega
def leftW (w:World) (cb:Nat):Nat:=JX (fun a=>match w.cell? ⟨cb,262+a,none⟩ with|some (.int _ n)=>decide (0<n)|_=>false) 256
theorem XS {w:World} {cb:Nat} {ca:Array Value} {ty:TypeId} {refs nodes:Nat→Nat} {vv:Value} (hr:w.heap[cb]?=some (.cells ca ty (0,0))) (h:Ar ca refs nodes vv):leftW w cb=JX (vU nodes) 256:=by
 unfold leftW
 refine Uz _ fun a ha=>?_
 rw[qa hr,h.node a ha]
 unfold vU
 simp
def lenV:Value→Nat
 | .slice _ n _=>n
 |_=>0
structure TrI (p:CP) (B:Nat) (w1 wr:World) (vv:Value) (ca:Array Value) (refs nodes:Nat→Nat):Prop where
 off:Off B p.cb w1 wr
 row:wr.heap[p.cb]?=some (.cells ca 84 (0,0))
 ar:Ar ca refs nodes vv
 low:∀ i,i<6→ca[i]?=p.ca[i]?
 lt:p.cb<B
theorem TrI.grown {p:CP} {B:Nat} {w1 wr W:World} {vv:Value} {ca:Array Value} {refs nodes:Nat→Nat} (h:TrI p B w1 wr vv ca refs nodes) {row:Option Nat} (hg:wr.grownBy W row) (hr:∀ g,row=some g→B≤g):TrI p B w1 W vv ca refs nodes:=
 ⟨h.off.grown hg fun g e=>.inr (hr g e),(hg.block _ (Nat.lt_of_lt_of_le h.lt h.off.size) fun e=>by have:=hr _ e.symm;have:=h.lt;omega).trans h.row,h.ar,h.low,h.lt⟩
theorem TrI.ext {p:CP} {B:Nat} {w1 wr W:World} {vv:Value} {ca:Array Value} {refs nodes:Nat→Nat} (h:TrI p B w1 wr vv ca refs nodes) (hx:Ext wr W):TrI p B w1 W vv ca refs nodes:=h.grown (Zr hx none) fun g e=>by cases e
theorem TrI.addRef {p:CP} {B:Nat} {w1 wr:World} {vv:Value} {ca:Array Value} {refs nodes:Nat→Nat} (h:TrI p B w1 wr vv ca refs nodes) {a:Nat} (ha:a<256):TrI p B w1 (wr.setCell ⟨p.cb,6+a,none⟩ (.int .i64 ((refs a:Int)+1))) vv (ca.setIfInBounds (6+a) (.int .i64 ((refs a:Int)+1))) (Js refs a) nodes:=
 ⟨h.off.setCell (p:=⟨p.cb,6+a,none⟩) (.inl rfl) _,qi h.row _ _,h.ar.addRef ha,fun i hi=>(qcL (by omega) hi).trans (h.low i hi),h.lt⟩
theorem TrI.addNode {p:CP} {B:Nat} {w1 wr:World} {vv:Value} {ca:Array Value} {refs nodes:Nat→Nat} (h:TrI p B w1 wr vv ca refs nodes) {a:Nat} (ha:a<256):TrI p B w1 (wr.setCell ⟨p.cb,262+a,none⟩ (.int .i64 ((nodes a:Int)+1))) vv (ca.setIfInBounds (262+a) (.int .i64 ((nodes a:Int)+1))) refs (Js nodes a):=
 ⟨h.off.setCell (p:=⟨p.cb,262+a,none⟩) (.inl rfl) _,qi h.row _ _,h.ar.addNode ha,fun i hi=>(qcL (by omega) hi).trans (h.low i hi),h.lt⟩
theorem TrI.cen {p:CP} {w1 wr:World} {vv:Value} {ca:Array Value} {refs nodes:Nat→Nat} {g:Int→Option Value} (h:TrI p w1.heap.size w1 wr vv ca refs nodes) (hC:Cen p w1 g):Cen (p.put ca) wr g:=hC.put rfl h.off h.row h.low
theorem TrI.its {p:CP} {w1 wr:World} {vv v:Value} {ca:Array Value} {refs nodes:Nat→Nat} {g:Int→Option Value} {xs:List It} (h:TrI p w1.heap.size w1 wr vv ca refs nodes) (hC:Cen p w1 g) (hi:Zw p.lo w1 v xs):Zw p.lo wr v xs:=
 hi.keep h.off.size fun q h1 h2=>h.off.cell h2 (by have:=hC.low;omega)
def Zo (lvl:Nat) (xs:List It) (k:Nat):List Nat:=if 0<lvl then VH xs k else []
theorem Uu (lvl:Nat) (xs:List It):Zo lvl xs 0=[]:=by unfold Zo VH;simp
theorem qep {lvl:Nat} {xs:List It} {k:Nat} (hk:k<xs.length) (h:xs[k].r.toNat=0∨lvl=0):Zo lvl xs (k+1)=Zo lvl xs k:=by
 unfold Zo
 by_cases h0:0<lvl
 ·rw[if_pos h0,if_pos h0,Yu hk,if_pos (by omega)]
 ·rw[if_neg h0,if_neg h0]
theorem qeo {lvl:Nat} {xs:List It} {k:Nat} (hk:k<xs.length) (h:¬xs[k].r.toNat=0) (hl:0<lvl):Zo lvl xs (k+1)=Zo lvl xs k++[xs[k].r.toNat]:=by
 unfold Zo
 rw[if_pos hl,if_pos hl,Yu hk,if_neg h]
theorem qio {xs:List It} {k:Nat} {rf rf':Nat→Nat} (hk:k<xs.length) (h:xs[k].r.toNat=0) (hr:∀ b,rf' b=rf b+(VH xs k).count b):∀ b,rf' b=rf b+(VH xs (k+1)).count b:=by
 intro b
 rw[hr,Yu hk,if_pos h]
theorem qin {xs:List It} {k:Nat} {rf rf':Nat→Nat} (hk:k<xs.length) (h:¬xs[k].r.toNat=0) (hr:∀ b,rf' b=rf b+(VH xs k).count b):∀ b,Js rf' xs[k].r.toNat b=rf b+(VH xs (k+1)).count b:=by
 intro b
 rw[Yu hk,if_neg h,List.count_append,←Nat.add_assoc,←hr]
 unfold Js
 rw[List.count_singleton]
 by_cases e:b=xs[k].r.toNat
 ·rw[if_pos e,if_pos (by simp[e])]
 ·rw[if_neg e,if_neg (by simp;omega)]
theorem qip (xs:List It):VH xs 0=[]:=by unfold VH;simp
def jA (s:List Nat):List Value:=s.map fun (a:Nat)=>Value.int .i64 (a:Int)
theorem Ym (s:List Nat):(jA s).length=s.length:=by simp[jA]
theorem kV (s:List Nat) (a:Nat):jA (s++[a])=jA s++[Value.int .i64 (a:Int)]:=by simp[jA]
section
variable {P:Program} (w:World) {ops:Array Oper} {rest:List Oper} {o:Oper} {a:Act} {Q:Exit→Act→World→Prop}
theorem Yc {mb:Nat} {f:Int→Option Value} (h:zu w mb f) (t k e:TypeId) (ht:P.underlying t=some (.map k e)) (hk:P.underlying k=some (.int .i64)) {a:Int} {v:Value} (hf:f a=some v) :
  (Instr.lookup t (.map (some mb)) (.int .i64 a) false).run P w=.ok v w:=by
 obtain⟨es,clock,hb,hks,hfa⟩:=h
 have h0:=hfa a
 rw[hf] at h0
 rcases Vq a es.toList 0 hks with ⟨h1,h2⟩|⟨j,e2,h1,h2,h3,h4,_⟩
 ·unfold Km at h0
  rw[h2] at h0
  cases h0
 ·unfold Km at h0
  rw[h3] at h0
  simp only[Option.map_some,Option.some.injEq] at h0
  simp[Instr.lookup,run_underlying ht,MapKept.run_getObj_map hb,jI hk,Jk hk h2,h0,Result.andThen]
theorem Tr (hg:o.guard=none) (m x:Operand) (t:TypeId) (hop:o.op=Op.lookup t m x false) {k e:TypeId} (ht:P.underlying t=some (.map k e)) (hk:P.underlying k=some (.int .i64))
  {mb:Nat} {f:Int→Option Value} {r:Int} {v:Value} (hm:a.eval m=.map (some mb)) (hx:a.eval x=.int .i64 r) (h:zu w mb f) (hf:f r=some v)
  (hK:wpList P ops Q rest (a.put o.dst v) w):wpList P ops Q (o :: rest) a w:=by
 refine wpList_plain hg fun K' hK'=>?_
 unfold Oper.wp
 simp[execOp,hop,hm,hx,Yc w h t k e ht hk hf,Result.andThen]
 exact hK' _ _ hK
end
section
variable {R:Rel}
section
variable {P:Program} {ops:Array Oper} {w0:World}
def KB (ops:Array Oper) (listed:Array Bool):Prop:=∀ (i:Nat) (o:Oper),ops[i]?=some o→listed.getD i false=true→∀ k∈qG o,listed.getD k false=true
def Yl (ops:Array Oper) (listed:Array Bool):Bool:=(List.range ops.size).all fun i=>!(listed.getD i false) || (match ops[i]? with|some o=>(qG o).all fun k=>listed.getD k false|none=>true)
theorem vp {listed:Array Bool} (h:Yl ops listed=true):KB ops listed:=by
 intro i o ho hi k hk
 have h1:=List.all_eq_true.1 h i (List.mem_range.2 (zG.1 ho).1)
 rw[hi,ho] at h1
 simp only[Bool.not_true,Bool.false_or] at h1
 exact List.all_eq_true.1 h1 k hk
theorem Vw {listed:Array Bool} {j:Nat} (hj:j∈Region.ready .any ops listed) {o:Oper} (ho:ops[j]?=some o):∀ k∈qG o,listed.getD k false=true:=by
 intro k hk
 obtain⟨_,o',ho',hall⟩:=mem_ready.1 hj
 rw[ho] at ho'
 cases ho'
 obtain⟨e,he,hei⟩:=List.mem_map.1 hk
 rw[List.mem_filter] at he
 rw[←hei]
 exact hall e (by simpa using he.1) he.2
theorem YI {listed:Array Bool} {j k:Nat} (h:listed.getD k false=true):(listed.setIfInBounds j true).getD k false=true:=by
 rcases Nat.lt_or_ge k listed.size with h'|h'
 ·simp only[Array.getD_eq_getD_getElem?,Array.getElem?_setIfInBounds] at h ⊢
  by_cases e:j=k
  ·subst e;simp[h']
  ·rw[if_neg e];exact h
 ·simp[Array.getElem?_eq_none h'] at h
theorem KB.step {listed:Array Bool} {j:Nat} (h:KB ops listed) (hj:j∈Region.ready .any ops listed):KB ops (listed.setIfInBounds j true):=by
 intro i o ho hi k hk
 by_cases e:i=j
 ·subst e
  exact YI (Vw hj ho k hk)
 ·refine YI (h i o ho ?_ k hk)
  simp only[Array.getD_eq_getD_getElem?,Array.getElem?_setIfInBounds] at hi ⊢
  rwa [if_neg (fun x=>e x.symm)] at hi
def UC (ops:Array Oper):Nat→Nat→Nat→Bool
 |0,_,_=>false
 |n+1,j,k=>match ops[j]? with
  |some o=>(qG o).contains k || (qG o).any fun i=>UC ops n i k
  |none=>false
theorem vC {listed:Array Bool} (h:KB ops listed):∀ (n j k:Nat),(∀ o,ops[j]?=some o→∀ i∈qG o,listed.getD i false=true)→UC ops n j k=true→listed.getD k false=true
 |0,_,_,_,hw=>by cases hw
 |n+1,j,k,hp,hw=>by
  unfold UC at hw
  split at hw
  ·rename_i o ho
   rw[Bool.or_eq_true] at hw
   rcases hw with hw|hw
   ·exact hp o ho k (by simpa using hw)
   ·obtain⟨i,hi,hw⟩:=List.any_eq_true.1 hw
    exact vC h n i k (fun o' ho'=>h i o' ho' (hp o ho i hi)) hw
  ·cases hw
def qeH (ops:Array Oper) (L:Array Bool) (ks:List Nat):Bool:=(List.range ops.size).all fun j=>L.getD j true || ks.all fun k=>UC ops 9 j k
theorem Xt {L:Array Bool} {ks:List Nat} (h:qeH ops L ks=true):∀ (listed:Array Bool) (j:Nat),KB ops listed→j∈Region.ready .any ops listed→L.getD j true=false→∀ k,k∈ks→listed.getD k false=true:=by
 intro listed j hc hj hm k hk
 obtain⟨_,o,ho,_⟩:=mem_ready.1 hj
 have h1:=List.all_eq_true.1 h j (List.mem_range.2 (zG.1 ho).1)
 rw[hm,Bool.false_or] at h1
 exact vC hc 9 j k (fun o' ho'=>Vw hj ho') (List.all_eq_true.1 h1 k hk)
theorem qaV {H:Nat→Option qS} (hH:∀ i h,H i=some h→∀ p,qD R (h.φ p)) {A:Nat→Prop} {Cl:Array Bool→Prop} {L:Array Bool} {Q:Act→qM→Prop} {i:Nat} {oi:Oper} (hi:ops[i]?=some oi) (him:A i)
  (hsel:∀ (j:Nat) (o:Oper) cs b,ops[j]?=some o→o.op≠.select cs b) (hcl:∀ listed j,Cl listed→j∈Region.ready .any ops listed→Cl (listed.setIfInBounds j true)) (htail:∀ (listed:Array Bool) (j:Nat),Cl listed→j∈Region.ready .any ops listed→L.getD j true=false→∀ k,A k→listed.getD k false=true) :
  ∀ (fuel:Nat) (listed:Array Bool) (a:Act) (F:qM),Cl listed →
   (∀ j oj,ops[j]?=some oj→j≠i→listed.getD j true=false→(∀ e∈oj.after,Region.binds .any e=true→e.on≠i)→oi.apart ops oj=true) →
   i∈Region.ready .any ops listed→(∀ k,qD R (F k))→KC R w0 F→(∀ k,listed.getD k true=false→∀ W,F k W) →
   FOpG R P ops w0 H i oi (vE R P ops w0 H L Q fuel (listed.setIfInBounds i true)) a F→vE R P ops w0 H L Q (fuel+1) listed a F:=by
 intro fuel
 induction fuel with
 |zero =>
  intro listed a F hCl _ hr hst hc _ hop
  refine⟨fun h=>(by rw[h] at hr;cases hr),fun j hj oj hoj=>?_⟩
  by_cases hji:j=i
  ·subst hji
   rw[hi] at hoj;cases hoj
   exact hop
  ·exfalso
   obtain⟨h,hok,hK⟩:=hop
   obtain⟨p,hcp⟩:=hok.some_ hc hst
   have hmj:L.getD j true=false:=by rw[←(hK p hcp).1];exact(mem_ready.1 (ready_mono hj hji)).1
   have h1:=htail listed j hCl hj hmj i him
   have h0:=(mem_ready.1 hr).1
   rcases Nat.lt_or_ge i listed.size with h'|h'
   ·simp[h'] at h0 h1;rw[h0] at h1;cases h1
   ·simp[Array.getElem?_eq_none h'] at h1
 |succ fuel ih =>
  intro listed a F hCl hfree hr hst hc hun hop
  refine⟨fun h=>(by rw[h] at hr;cases hr),fun j hj oj hoj=>?_⟩
  by_cases hji:j=i
  ·subst hji
   rw[hi] at hoj;cases hoj
   exact hop
  ·obtain⟨hjun,oj',hoj',hall⟩:=mem_ready.1 hj
   rw[hoj] at hoj';cases hoj'
   obtain⟨hiun,oi',hoi',halli⟩:=mem_ready.1 hr
   rw[hi] at hoi';cases hoi'
   have bad:∀ k,listed.getD k true=false→listed.getD k false=true→False:=fun k h0 h1=>by
    rcases Nat.lt_or_ge k listed.size with h'|h'
    ·simp[h'] at h0 h1;rw[h0] at h1;cases h1
    ·simp[Array.getElem?_eq_none h'] at h1
   have hnot:∀ e∈oj.after,Region.binds .any e=true→e.on≠i:=fun e he hb heq=>bad i hiun (heq ▸ hall e he hb)
   have hnot':∀ e∈oi.after,Region.binds .any e=true→e.on≠j:=fun e he hb heq=>bad j hjun (heq ▸ halli e he hb)
   have hpi:i∉qG oj:=fun hin=>by
    obtain⟨e,he,hei⟩:=List.mem_map.1 hin
    rw[List.mem_filter] at he
    exact hnot e (by simpa using he.1) he.2 hei
   have hpj:j∉qG oi:=fun hin=>by
    obtain⟨e,he,hei⟩:=List.mem_map.1 hin
    rw[List.mem_filter] at he
    exact hnot' e (by simpa using he.1) he.2 hei
   have hap:=hfree j oj hoj hji hjun hnot
   have hsi:∀ cs b,oi.op≠.select cs b:=fun cs b=>hsel i oi cs b hi
   have hsj:∀ cs b,oj.op≠.select cs b:=fun cs b=>hsel j oj cs b hoj
   obtain⟨h2,_⟩:=(Oper.apart_spec hap).2
   obtain⟨hI,okI,hKI⟩:=hop
   obtain⟨p0,hcp0⟩:=okI.some_ hc hst
   obtain⟨hJ,okJ0,_⟩:=(hKI p0 hcp0).2 j (ready_mono hj hji) oj hoj
   have okJ:ZJ R P ops w0 H j oj a F hJ:=(ZJ.move hap hsj hpi).1 okJ0
   refine⟨hJ,okJ,fun q hcq=>?_⟩
   have stJ:=okJ.stable hH q
   have hfree':∀ k ok,ops[k]?=some ok→k≠i→(listed.setIfInBounds j true).getD k true=false →
     (∀ e∈ok.after,Region.binds .any e=true→e.on≠i)→oi.apart ops ok=true:=fun k ok hk hki hunk hno=>by
    refine hfree k ok hk hki ?_ hno
    by_cases hjk:j=k
    ·subst hjk;exact hjun
    ·rw[getD_set_ne true hjk] at hunk;exact hunk
   refine ih (listed.setIfInBounds j true) _ _ (hcl _ _ hCl hj) hfree' (ready_mono hr (Ne.symm hji)) (Zv hst j oj stJ) hcq ?_ ?_
   ·intro k hk W
    by_cases hjk:j=k
    ·subst hjk
     exfalso
     have hlt:j<listed.size:=by
      rcases Nat.lt_or_ge j listed.size with h'|h'
      ·exact h'
      ·simp[Array.getElem?_eq_none h'] at hjun
     simp[hlt] at hk
    ·rw[getD_set_ne true hjk] at hk
     have:=hun k hk W
     unfold upd;rw[if_neg (fun e=>hjk e.symm)];exact this
   ·refine⟨hI,(ZJ.move' hap hsi hpj).2 okI,fun p hcp=>?_⟩
    have hcp':KC R w0 (upd F i oi (hI.φ p)):=by
     obtain⟨W,hW,hF⟩:=hcp
     refine⟨W,hW,fun k=>?_⟩
     have hk:=hF k
     by_cases hki:k=i
     ·subst hki
      unfold upd at hk ⊢
      rw[if_pos rfl] at hk ⊢
      refine⟨hk.1,fun l hl=>?_⟩
      have:=hk.2 l hl
      rwa [if_neg (fun e=>hpj (by rw[←e];exact hl))] at this
     ·by_cases hkj:k=j
      ·subst hkj
       unfold upd;rw[if_neg hki];exact hun k hjun W
      ·unfold upd at hk ⊢
       rw[if_neg hki,if_neg hkj] at hk
       rw[if_neg hki];exact hk
    obtain⟨hJ',okJ',hKJ'⟩:=(hKI p hcp').2 j (ready_mono hj hji) oj hoj
    have okJ'':ZJ R P ops w0 H j oj a F hJ':=(ZJ.move hap hsj hpi).1 okJ'
    have e:=okJ''.unique hc okJ
    subst e
    have hq:=hKJ' q (by rw[JY F _ _ (Ne.symm hji) hpi hpj];exact hcp)
    rw[Array.setIfInBounds_comm _ _ (fun e=>hji e.symm),Act.put_comm a (hI.f p) (hJ'.f q) h2,JY F _ _ (Ne.symm hji) hpi hpj] at hq
    exact hq
theorem Yg {H:Nat→Option qS} (hH:∀ i h,H i=some h→∀ p,qD R (h.φ p)) {Cl:Array Bool→Prop} {L:Array Bool} {ks:List Nat} {Q:Act→qM→Prop} (hs:Region.noSelect ops=true)
  (hcl:∀ listed j,Cl listed→j∈Region.ready .any ops listed→Cl (listed.setIfInBounds j true)) (htail:∀ (listed:Array Bool) (j:Nat),Cl listed→j∈Region.ready .any ops listed→L.getD j true=false→∀ k,k∈ks→listed.getD k false=true):∀ (l:List (Nat×Oper)) (listed:Array Bool) (a:Act) (F:qM),Cl listed→(∀ x∈l,ops[x.1]?=some x.2∧x.1∈ks) →
  Zs ops L (l.map (·.1)) listed=true→(∀ k,qD R (F k))→KC R w0 F→(∀ j,listed.getD j true=false→∀ W,F j W)→ji R P ops w0 H Q l a F→vE R P ops w0 H L Q l.length listed a F
 | [],listed,a,F,_,_,hB,_,_,_,h=>⟨by simpa [Zs] using hB,h⟩
 |(k,o) :: l,listed,a,F,hCl,hl,hB,hst,hc,hun,h=>by
  obtain⟨h0,hks⟩:=hl (k,o) (List.mem_cons_self)
  simp only[List.map_cons,Zs,Bool.and_eq_true] at hB
  obtain⟨⟨hr,hf⟩,hB'⟩:=hB
  have hrk:k∈Region.ready .any ops listed:=by simpa using hr
  have hkun:=(mem_ready.1 hrk).1
  refine qaV (A:=fun k=>k∈ks) hH h0 hks (Region.noSelect_spec hs) hcl htail l.length listed a F hCl (Region.free_spec h0 hf) hrk hst hc hun ?_
  obtain⟨hh,hok,hK⟩:=h
  refine⟨hh,hok,fun p hcp=>?_⟩
  refine Yg hH hs hcl htail l _ _ _ (hcl _ _ hCl hrk) (fun x hx=>hl x (List.mem_cons_of_mem _ hx)) hB' (Zv hst k o (hok.stable hH p)) hcp (fun j hj W=>?_) (hK p hcp)
  by_cases hjk:k=j
  ·subst hjk
   have hlt:k<listed.size:=by
    rcases Nat.lt_or_ge k listed.size with h'|h'
    ·exact h'
    ·simp[Array.getElem?_eq_none h'] at hkun
   simp[hlt] at hj
  ·rw[getD_set_ne true hjk] at hj
   have:=hun j hj W
   unfold upd
   rw[if_neg (fun e=>hjk e.symm)]
   exact this
theorem qO {l:List Oper} {Q:Exit→Act→World→Prop} {fuel:Nat} {listed:Array Bool} {a:Act} {w W:World} (R:Rel) (H:Nat→Option qS) (M:List Bool) (t:Nat)
  (hs:Region.noSelect l.toArray=true) (ht:qeH l.toArray (QM l.length (l.length-t)) ((qp 0 l M).map (·.1))=true) (hc0:Yl l.toArray listed=true) (hB:Zs l.toArray (QM l.length (l.length-t)) ((qp 0 l M).map (·.1)) listed=true)
  (hseq:TQ l.toArray t (l.length-t) (QM l.length (l.length-t))=true) (hfu:fuel=(qp 0 l M).length+t) (htl:(l.drop (l.length-t)).length=t)
  (hH:∀ i h,H i=some h→∀ p,qD R (h.φ p)) (hW:R.r w W)
  (h:∀ K:Act→qM→Prop,(∀ a' F',(∀ W,R.r w W→(∀ k,F' k W)→wpList P l.toArray Q (l.drop (l.length-t)) a' W)→K a' F')→ji R P l.toArray w H K (qp 0 l M) a (fun _ _=>True)):wpAny P .any l.toArray Q fuel listed a W:=by
 have h:=h _ (fun a' F' hh=>hh)
 subst hfu
 have key:=Yg (w0:=w) hH hs (fun _ _ h=>h.step) (Xt ht) (qp 0 l M) listed a (fun _ _=>True) (vp hc0) (fun x hx=>by
  obtain⟨j,h1,h2⟩:=vt l M 0 x hx
  refine⟨?_,List.mem_map.2 ⟨x,hx,rfl⟩⟩
  rw[h1,Nat.zero_add]
  simpa using h2) hB (fun _ _ _ _ _=>trivial) ⟨W,hW,fun _=>trivial⟩ (fun _ _ _=>trivial) h
 refine Vj (w0:=w) hH (t:=t) (Q':=Q) (fun a F W hq hW hF=>?_) _ _ _ _ W (fun _ _ _ _ _=>trivial) hW (fun _=>trivial) key
 have:=kA (l.drop (l.length-t)) (l.length-t) _ a W (fun j _=>by rw[List.getElem?_drop];simp) (by rw[htl];exact hseq) (hq W hW hF)
 rwa [htl] at this
end
end
def Qn (S:Sto):Nat→List It→List It
 |0,xs=>xs
 |h+1,xs=>xs.flatMap fun y=>match qu S y.r.toNat with
  |none=>[]
  |some (_,ys)=>Qn S h ys
def jM (next:Int) (y:It):Bool:=XI y && (decide (y.i≠0) && decide (y.i<next))
def Zj (next:Int):List Vol→List It→Option (List Vol)
 |vs,[]=>some vs
 |vs,y :: r=>if jM next y=true∧vs.length≠16 then Zj next (vs++[ku y]) r else none
theorem UA (next:Int) (vs:List Vol) (y:It) (r:List It):Zj next vs (y :: r)=if jM next y=true∧vs.length≠16 then Zj next (vs++[ku y]) r else none:=rfl
theorem Zx (S:Sto) (h:Nat) (xs:List It):Qn S (h+1) xs=xs.flatMap fun y=>match qu S y.r.toNat with|none=>[]|some (_,ys)=>Qn S h ys:=rfl
theorem JG (next:Int):∀ (l m:List It) (vs:List Vol),Zj next vs (l++m)=(Zj next vs l).bind fun vs'=>Zj next vs' m
 | [],m,vs=>rfl
 |y :: r,m,vs=>by
  rw[List.cons_append,UA,UA]
  split
  ·exact JG next r m _
  ·rfl
theorem Vh (next:Int):∀ (l:List It) (vs vs':List Vol),vs.length≤16→Zj next vs l=some vs'→vs'.length≤16
 | [],vs,vs',h,e=>by cases e;exact h
 |y :: r,vs,vs',h,e=>by
  unfold Zj at e
  split at e
  ·rename_i hc
   exact Vh next r _ vs' (by rw[List.length_append,List.length_singleton];have:=hc.2;omega) e
  ·cases e
theorem qao (next:Int):∀ (l:List It) (vs:List Vol),vs.length≤16→Zj next vs l=if l.all (jM next)=true∧vs.length+l.length≤16 then some (vs++l.map ku) else none
 | [],vs,h=>by
  unfold Zj
  rw[if_pos ⟨rfl,by simpa using h⟩]
  simp
 |y :: r,vs,h=>by
  unfold Zj
  by_cases hg:jM next y=true
  ·by_cases hl:vs.length=16
   ·rw[if_neg (fun x=>x.2 hl),if_neg (fun x=>by have:=x.2;simp at this;omega)]
   ·rw[if_pos ⟨hg,hl⟩,qao next r _ (by rw[List.length_append,List.length_singleton];omega)]
    simp only[List.all_cons,hg,Bool.true_and,List.length_append,List.length_cons,List.length_nil,List.append_assoc,List.map_cons,List.cons_append,List.nil_append]
    by_cases h1:r.all (jM next)=true∧vs.length+(0+1)+r.length≤16
    ·rw[if_pos h1,if_pos ⟨h1.1,by omega⟩]
    ·rw[if_neg h1,if_neg (fun x=>h1 ⟨x.1,by omega⟩)]
  ·rw[if_neg (fun x=>hg x.1),if_neg (fun x=>by have:=x.1;simp only[List.all_cons,Bool.and_eq_true] at this;exact hg this.1)]
theorem qfE {S:Sto} {xs:List It} {k:Nat} (hk:k<xs.length):Qn S 0 (xs.take (k+1))=Qn S 0 (xs.take k)++[xs[k]]:=List.take_succ_eq_append_getElem hk
theorem qfF {S:Sto} {h:Nat} {xs ys:List It} {lvl:Int} {k:Nat} (hk:k<xs.length) (hn:qu S xs[k].r.toNat=some (lvl,ys)):Qn S (h+1) (xs.take (k+1))=Qn S (h+1) (xs.take k)++Qn S h ys:=by
 rw[List.take_succ_eq_append_getElem hk,Zx,Zx,List.flatMap_append]
 simp[hn]
theorem TD {S:Sto} (h:Nat):Qn S h []=[]:=by
 cases h <;> rfl
theorem qdO {S:Sto} {h:Nat} {xs:List It} {k:Nat} (hk:k≤xs.length):∃ r,Qn S h xs=Qn S h (xs.take k)++r:=by
 cases h with
 |zero=>exact⟨xs.drop k,(List.take_append_drop k xs).symm⟩
 |succ h =>
  refine⟨Qn S (h+1) (xs.drop k),?_⟩
  have:=(List.take_append_drop k xs).symm
  conv=>lhs;rw[this]
  rw[Zx,Zx,Zx,List.flatMap_append]
theorem qgt {S:Sto} {h:Nat} {xs:List It} {k:Nat} {next:Int} {vs:List Vol} (hk:k≤xs.length) (hb:Zj next vs (Qn S h (xs.take k))=none):Zj next vs (Qn S h xs)=none:=by
 obtain⟨r,hr⟩:=qdO (S:=S) (h:=h) hk
 rw[hr,JG,hb]
 rfl
def ZC (vs:List Vol):List Value:=vs.flatMap fun v=>[.int .u32 v.id,.int .i64 v.root,.bool v.fz,.int .u32 v.frm]
theorem qdv (vs:List Vol) (v:Vol):ZC (vs++[v])=ZC vs++[.int .u32 v.id,.int .i64 v.root,.bool v.fz,.int .u32 v.frm]:=by simp[ZC]
structure VolI (p:CP) (w1 w:World) (vs:List Vol) (vv:Value) (ca:Array Value) (refs nodes:Nat→Nat):Prop where
 t:TrI p w1.heap.size w1 w vv ca refs nodes
 own:w.ownsRow w1.heap.size 40 4 vv vs.length (ZC vs)
structure Kv (p:CP) (vv:Value) (w w':World):Prop where
 os:w'.os=w.os
 tape:w'.tape=w.tape
 output:w'.output=w.output
 size:w.heap.size≤w'.heap.size
 block:∀ k,k<w.heap.size→k≠p.cb→vv.ownBlock≠some k→w'.heap[k]?=w.heap[k]?
def Vl (vv:Value) (n:Nat) (vv':Value):Prop:=vv'.ownBlock=vv.ownBlock∨∃ g,vv'.ownBlock=some g∧n≤g
def VolsQ (p:CP) (w1:World) (refs nodes:Nat→Nat) (next:Int) (vs:List Vol) (l:List It) (vv:Value) (w:World) (e:Ending) (w':World):Prop:=
 Kv p vv w w'∧match Zj next vs l with
  |none=>e=.returned (.int .i64 8)
  |some vs'=>e=.returned (.int .i64 0)∧∃ vv' ca',VolI p w1 w' vs' vv' ca' refs nodes∧Vl vv w.heap.size vv'
theorem Kv.refl (p:CP) (vv:Value) (w:World):Kv p vv w w:=⟨rfl,rfl,rfl,zM _,fun _ _ _ _=>rfl⟩
theorem Kv.ext {p:CP} {vv:Value} {w w' w'':World} (h:Kv p vv w w') (hx:Ext w' w''):Kv p vv w w'':=
 ⟨hx.os.trans h.os,hx.tape.trans h.tape,hx.output.trans h.output,Nat.le_trans h.size hx.size,fun k h1 h2 h3=>(hx.block k (Nat.lt_of_lt_of_le h1 h.size)).trans (h.block k h1 h2 h3)⟩
theorem Kv.trans {p:CP} {vv vv':Value} {w w' w'':World} (h:Kv p vv w w') (h':Kv p vv' w' w'') (hn:Vl vv w.heap.size vv'):Kv p vv w w'':=
 ⟨h'.os.trans h.os,h'.tape.trans h.tape,h'.output.trans h.output,Nat.le_trans h.size h'.size,fun k h1 h2 h3=>(h'.block k (Nat.lt_of_lt_of_le h1 h.size) h2 (fun e=>by
  rcases hn with x|⟨g,x,y⟩
  ·exact h3 (x ▸ e)
  ·rw[x] at e;cases e;omega)).trans (h.block k h1 h2 h3)⟩
theorem Vl.refl (vv:Value) (n:Nat):Vl vv n vv:=.inl rfl
theorem Vl.trans {vv vv' vv'':Value} {n n':Nat} (h:Vl vv n vv') (h':Vl vv' n' vv'') (hn:n≤n'):Vl vv n vv'':=by
 rcases h' with x|⟨g,x,y⟩
 ·rcases h with z|⟨g,z,y⟩
  ·exact .inl (x.trans z)
  ·exact .inr ⟨g,x.trans z,y⟩
 ·exact .inr ⟨g,x,by omega⟩
theorem VolI.ext {p:CP} {w1 w w':World} {vs:List Vol} {vv:Value} {ca:Array Value} {refs nodes:Nat→Nat} (h:VolI p w1 w vs vv ca refs nodes) (hx:Ext w w'):VolI p w1 w' vs vv ca refs nodes:=⟨h.t.ext hx,QP h.own hx⟩
theorem TrI.setVol {p:CP} {B:Nat} {w1 wr:World} {vv:Value} {ca:Array Value} {refs nodes:Nat→Nat} (h:TrI p B w1 wr vv ca refs nodes) (vv':Value):TrI p B w1 (wr.setCell ⟨p.cb,518,none⟩ vv') vv' (ca.setIfInBounds 518 vv') refs nodes:=by
 have hs:=h.ar.size
 refine⟨h.off.setCell (p:=⟨p.cb,518,none⟩) (.inl rfl) _,qi h.row _ _,⟨by simp[hs],fun a ha=>?_,fun a ha=>?_,?_⟩,fun i hi=>(qcL (by omega) hi).trans (h.low i hi),h.lt⟩
 ·rw[Array.getElem?_setIfInBounds,if_neg (by omega),h.ar.ref a ha]
 ·rw[Array.getElem?_setIfInBounds,if_neg (by omega),h.ar.node a ha]
 ·rw[Array.getElem?_setIfInBounds,if_pos rfl,if_pos (by omega)]
theorem Kv.grown {p:CP} {vv0 vv:Value} {w w' w'':World} (h:Kv p vv0 w w') (hn:Vl vv0 w.heap.size vv) (hg:w'.grownBy w'' vv.ownBlock):Kv p vv0 w w'':=
 ⟨hg.os.trans h.os,hg.tape.trans h.tape,hg.output.trans h.output,Nat.le_trans h.size hg.size,fun k h1 h2 h3=>(hg.block k (Nat.lt_of_lt_of_le h1 h.size) (fun e=>by
  rcases hn with x|⟨g,x,y⟩
  ·exact h3 (x ▸ e.symm)
  ·rw[x] at e;cases e;omega)).trans (h.block k h1 h2 h3)⟩
theorem Kv.setC {p:CP} {vv0 u:Value} {w w':World} {i:Nat} (h:Kv p vv0 w w'):Kv p vv0 w (w'.setCell ⟨p.cb,i,none⟩ u):=
 ⟨h.os,h.tape,h.output,by simpa using h.size,fun k h1 h2 h3=>(zJ _ _ _ _ (fun e=>h2 e)).trans (h.block k h1 h2 h3)⟩
abbrev qC (s1 s2 s3 s4:Value) (gen root next:Int) (dead:Value):Array Value:=#[s1,s2,s3,s4,.int .u32 gen,.int .i64 root,.int .u32 next,dead]
def VolsC (p:CP) (w1:World) (f:Int→Option Value) (refs nodes:Nat→Nat) (s1 s2 s3 s4:Value) (gen root next:Int) (dead:Value) (h:Nat):Prop:=
 ∀ (xs:List It) (A:Option Addr) (c:Nat) (vs:List Vol) (vv:Value) (ca:Array Value) (w:World),VolI p w1 w vs vv ca refs nodes→vs.length≤16→(∀ x∈xs,ZY x)→xs.length≤5→Zw p.lo w1 (.slice A xs.length c) xs →
  (Qd p.S h xs).isSome=true→(0<h→∀ y∈xs,(f y.r).isSome=true) →
  Calls Tryz.prog 85 #[.pointer (some ⟨p.cb,0,none⟩),.agg (qC s1 s2 s3 s4 gen root next dead),jg h A xs.length c] w (VolsQ p w1 refs nodes next vs (Qn p.S h xs) vv w)
end Go.Proofs.YtpbniokljofedaaGreat
