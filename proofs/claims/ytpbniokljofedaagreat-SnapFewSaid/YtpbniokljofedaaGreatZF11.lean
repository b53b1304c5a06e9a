/- Texts Vols, Tree, CenB, joined. -/
import Derived.Test.YtpbniokljofedaaGreatZF06
import Derived.Test.YtpbniokljofedaaGreatZF07
import Derived.Test.YtpbniokljofedaaGreatZF10
set_option linter.unusedSimpArgs false
set_option linter.unusedVariables false
set_option maxHeartbeats 8000000
namespace Go.Proofs.YtpbniokljofedaaGreat
open Go.RowKit
theorem Tryz.info_vol:(Tryz.prog.info? 40).map (fun i=>(i.zero,i.size,i.bytes))=some (some (.agg #[.int .u32 0,.int .i64 0,.bool false,.int .u32 0]),4,24):=by kernel_rfl
abbrev vol4 (v:Vol):Array Value:=#[.int .u32 v.id,.int .i64 v.root,.bool v.fz,.int .u32 v.frm]
structure VRel (p:CP) (w1:World) (refs nodes:Nat→Nat) (pcs:Array Value) (next:Int) (vs0:List Vol) (xs:List It) (h:Nat) (A:Option Addr) (c:Nat) (vv0:Value) (w:World) (i:Value) (wr:World):Prop where
 ex:∃ (k:Nat) (vs:List Vol) (vv:Value) (ca:Array Value),k≤xs.length∧i=.int .i64 (k:Int)∧Zj next vs0 (Qn p.S h (xs.take k))=some vs∧vs.length≤16∧VolI p w1 wr vs vv ca refs nodes∧Kv p vv0 w wr∧Vl vv0 w.heap.size vv ∧
  (∀ q,vv.ownBlock=some q→q≠w.heap.size∧q≠w.heap.size+1)∧wr.heap[w.heap.size]?=some (.cells pcs 32 (0,0))∧wr.heap[w.heap.size+1]?=some (.cells #[.int .i64 h,.slice A xs.length c] 49 (0,0))
set_option maxRecDepth 100000 in
theorem qeP (p:CP) (w1:World) (f:Int→Option Value) (refs nodes:Nat→Nat) (s1 s2 s3 s4:Value) (gen root next:Int) (dead:Value) (hC:Cen p w1 f) (h:Nat) (HL:∀ h',h=h'+1→VolsC p w1 f refs nodes s1 s2 s3 s4 gen root next dead h') :
  VolsC p w1 f refs nodes s1 s2 s3 s4 gen root next dead h:=by
 intro xs A c vs0 vv0 ca0 w HI hvl hxs hlen hits hsp hkn
 have hlo:=QR HI.own
 replace hC:=zH hC
 replace HI:=zH HI
 replace hxs:=zH hxs
 replace hits:=zH hits
 replace hsp:=zH hsp
 replace hkn:=zH hkn
 replace hlo:=zH hlo
 replace HL:=zH HL
 replace hvl:=zH hvl
 go_enter Tryz.func85,Tryz.ntmps85
 go_wp2
 generalize hw2:(World.alloc (World.alloc _ _) _)=w2
 have x2:Ext w w2:=by rw[←hw2];exact(zN _ _).trans (zN _ _)
 have q2:w2.heap[w.heap.size]?=some (.cells (qC s1 s2 s3 s4 gen root next dead) 32 (0,0)):=by
  rw[←hw2];exact(zK _ _ _ (by simp)).trans (zI _ _ _ rfl)
 have n2:w2.heap[w.heap.size+1]?=some (.cells #[.int .i64 h,.slice A xs.length c] 49 (0,0)):=by
  rw[←hw2];exact zI _ _ _ (by simp)
 clear hw2
 have I0:VRel p w1 refs nodes (qC s1 s2 s3 s4 gen root next dead) next vs0 xs h A c vv0 w (.int .i64 0) w2:=by
  refine⟨0,vs0,vv0,ca0,Nat.zero_le _,rfl,?_,hvl.out,HI.out.ext x2,(Kv.refl _ _ _).ext x2,Vl.refl _ _,fun q hq=>?_,q2,n2⟩
  ·rw[List.take_zero,TD];rfl
  ·have:=(hlo.out q hq).2
   omega
 replace I0:=zH I0
 clear x2 q2 n2
 go_loopw [15] (fun i wr=>VRel p w1 refs nodes (qC s1 s2 s3 s4 gen root next dead) next vs0 xs h A c vv0 w i wr) (fun i _=>xs.length-(intOf i).toNat)
 case atStart=>exact I0.out
 case round =>
  obtain⟨k,vs,vv,ca,hk,rfl,hgo,hvs,V,F,hnew,hnq,qr,nr⟩:=hrel.ex
  clear I0
  by_cases hlt:k<xs.length
  ·have hlt':=hlt
   obtain⟨b9,off9,rfl,hb9⟩:=hits.out.its.at_.2.2.2 (by omega)
   obtain⟨A',c',d0,d1,d2,d3,d4,hby⟩:=(V.t.its hC.out hits.out).its.item k hlt'
   have hxk:=hxs.out xs[k] (List.getElem_mem hlt')
   have HLEAF:Hid (h=0→Qn p.S h (xs.take (k+1))=Qn p.S h (xs.take k)++[xs[k]]):=zH fun e=>by rw[e];exact qfE hlt'
   have HNODE:Hid (∀ h' ys lvl,h=h'+1→qu p.S xs[k].r.toNat=some (lvl,ys)→Qn p.S h (xs.take (k+1))=Qn p.S h (xs.take k)++Qn p.S h' ys):=zH fun h' ys lvl e hn=>by rw[e];exact qfF hlt' hn
   have HONE:=zH (JV hsp.out xs[k] (List.getElem_mem hlt'))
   have HKN:=zH (fun h0=>hkn.out h0 xs[k] (List.getElem_mem hlt'))
   have HBAD:=zH (fun hb=>@qgt p.S h xs (k+1) next vs0 hlt' hb)
   generalize xs[k]=x at *
   have kn:=qa nr
   have kq:=qa qr
   replace V:=zH V
   replace F:=zH F
   replace hnew:=zH hnew
   replace hnq:=zH hnq
   replace hgo:=zH hgo
   replace hby:=zH hby
   replace hxk:=zH hxk
   have hz:w.heap.size+1<wr.heap.size:=(zG.1 nr).1
   have hz0:w.heap.size<wr.heap.size:=by omega
   replace hvs:=zH hvs
   rcases Nat.eq_zero_or_pos h with hh|hh
   ·have hd:decide ((h:Int)>0)=false:=decide_eq_false (by omega)
    have hd2:decide (0<h)=false:=decide_eq_false (by omega)
    have hd3:¬0<h:=by omega
    replace hh:=zH hh
    go_wp2_with fail
    generalize hw3:World.alloc wr _=w3
    have x3:Ext wr w3:=by rw[←hw3];exact zN _ _
    clear hw3 d0 d1 d2 d3 d4
    refine(qgu x hxk.out A' c' w3 ((hby.out.below x3).more x3.size)).mono ?_
    rintro e w4 ⟨u,rfl,⟨v',rfl,hv'⟩,hB⟩
    have x4:=x3.trans hB
    clear hB x3
    have hstep:Zj next vs0 (Qn p.S h (xs.take (k+1)))=if jM next x=true∧vs.length≠16 then some (vs++[ku x]) else none:=by
     rw[HLEAF.out hh.out,JG,hgo.out]
     rfl
    have HB8:Hid (¬(jM next x=true∧vs.length≠16)→∀ W,Ext wr W→VolsQ p w1 refs nodes next vs0 (Qn p.S h xs) vv0 w (.returned (.int .i64 8)) W):=zH fun hb W hx =>
     ⟨F.out.ext hx,by rw[HBAD.out (by rw[hstep,if_neg hb])]⟩
    have V4:=V.out.ext x4
    obtain⟨AV,cV,rfl,-,-⟩:=qv V4.own
    have kc:w4.cell? ⟨p.cb,518,none⟩=some (.slice AV vs.length cV):=by rw[qa V4.t.row];exact V4.t.ar.vol
    have kq4:=qa (qb qr x4)
    have hcb4:p.cb<w4.heap.size:=(zG.1 V4.t.row).1
    have hqz4:w.heap.size<w4.heap.size:=by have:=x4.size;omega
    replace hstep:=zH hstep
    rcases hiv:XI x with _|_
    ·have HB:=HB8.out (fun hh=>by have:=hh.1;unfold jM at this;rw[hiv] at this;cases this)
     replace HB:=zH HB
     replace hiv:=zH hiv
     clear kc kq4 V4
     go_wp2_with fail
     go_ret
     exact HB.out _ (x4.trans (zN _ _))
    ·have hve:=hv' hiv
     have hid:v'.id=x.i:=by rw[hve];rfl
     have hgd:jM next x=(decide (x.i≠0) && decide (x.i<next)):=by unfold jM;rw[hiv,Bool.true_and]
     replace hiv:=zH hiv
     replace hve:=zH hve
     rcases Int.decEq v'.id 0 with hi0|hi0
     ·rcases Int.decLt v'.id next with hi1|hi1
      ·have HB:=HB8.out (fun hh=>by have:=hh.1;rw[hgd] at this;simp at this;omega)
       have hg1:decide (v'.id≥next)=true:=decide_eq_true (by omega)
       have hg2:decide (next≤v'.id)=true:=decide_eq_true (by omega)
       replace HB:=zH HB
       replace hid:=zH hid
       replace hgd:=zH hgd
       clear hi1 hv' V4
       go_wp2_with fail
       go_ret
       exact HB.out _ (x4.trans (zN _ _))
      ·have hg1:decide (v'.id≥next)=false:=decide_eq_false (by omega)
       have hg2:decide (next≤v'.id)=false:=decide_eq_false (by omega)
       rcases Nat.decEq vs.length 16 with h16|h16
       ·have hf1:((vs.length:Int) == 16)=false:=by rw[beq_eq_false_iff_ne];omega
        have hok:jM next x=true:=by rw[hgd];simp;omega
        replace hok:=zH hok
        replace hid:=zH hid
        replace hgd:=zH hgd
        replace V4:=zH V4
        clear hi1 hv'
        have h16':=zH h16
        go_wp2_with fail
        generalize hw5:World.alloc w4 _=w5
        have x45:Ext w4 w5:=by rw[←hw5];exact zN _ _
        have r5:w5.heap[w4.heap.size]?=some (.cells (vol4 v') 40 (0,0)):=by rw[←hw5];exact zI _ _ _ rfl
        have z5:w4.heap.size<w5.heap.size:=(zG.1 r5).1
        clear hw5 kc kq4 h16 hf1 hg1 hg2 hi0
        have x5:=x4.trans x45
        have V5:=V4.out.ext x45
        have q5:=qb qr x5
        have nr5:=qb nr x5
        have hol:=QR V5.own
        have hcb5:=V5.t.lt
        have hbase5:=V5.t.off.size
        have hvs5:=hvs.out
        have hn4:(Value.slice AV vs.length cV).ownBlock≠some w4.heap.size:=fun e=>by have:=(QR V4.out.own _ e).2;omega
        have hnc:(Value.slice AV vs.length cV).ownBlock≠some p.cb:=fun e=>by have:=(hol _ e).1;omega
        obtain⟨RR,hRR⟩:∃ RR:Rel,RR=VB w1.heap.size 40 4 w5.heap.size (.slice AV vs.length cV) vs.length (ZC vs) (vs.length+1) (ZC vs++(vol4 v').toList):=⟨_,rfl⟩
        replace hRR:=zH hRR
        have gV:∀ W,RR.r w5 W→W.cell? ⟨p.cb,518,none⟩=some (.slice AV vs.length cV):=fun W h=>jn (hRR.out ▸ h) hnc (by rw[qa V5.t.row];exact V5.t.ar.vol)
        have gv:∀ W,RR.r w5 W→∀ i,W.cell? ⟨w4.heap.size,i,none⟩=(vol4 v')[i]?:=fun W h=>qa (vO (hRR.out ▸ h) hn4 r5)
        refine qo (by kernel_rfl) ?_
        refine qO (w:=w5) RR (qF [(6,jt w5.heap.size 1 40 (vol4 v')),(7,Ta w1.heap.size 40 4 w5.heap.size (.slice AV vs.length cV) (vs.length+1) (ZC vs++(vol4 v').toList))])
         [true,true,true,true,true,true,true,true] 3 (by kernel_rfl) (by kernel_rfl) (by kernel_rfl) (by kernel_rfl) (by kernel_rfl) (by kernel_rfl) (by kernel_rfl) ?st (Rel.drew _ _) ?walk
        case st=>rw[hRR.out];exact qk (by simp only[List.forall_mem_cons];exact⟨KZ (fun g hg=>by have:=hol g hg;omega),UK,fun _ h=>by cases h⟩)
        case walk =>
         intro K hK
         dsimp only[qp]
         repeat ((first|(refine qe ?_ (by rfl) (by rfl) (fun W hW _=>⟨W,?_,Rel.refl _ W⟩) ?_;rotate_left;(go_simp<;>with_reducible rfl))|(refine qh (by rfl) ?_));try simp only[Act.put,qj,qf,qc,qg,qc,qN,jS,zA,zB,zC])
         refine qy (jt w5.heap.size 1 40 (vol4 v')) (by rfl) (by rfl) (fun W hW _=>?_) (fun (pb:Nat)=>?_)
         ·rw[hRR.out] at hW ⊢
          refine Ug ?_ hW.1.size
          go_simp
         simp only[Act.put,qj,qf,qc,qg,qc,qN,jS,zA,zB,zC]
         refine qy (Ta w1.heap.size 40 4 w5.heap.size (.slice AV vs.length cV) (vs.length+1) (ZC vs++(vol4 v').toList)) (by rfl) (by rfl) (fun W hW hp=>?_) (fun (p7:Option Addr×Nat)=>?_)
         ·rw[hRR.out] at hW ⊢
          obtain⟨i0,hi,hz0,hz1,hz2⟩:=info_parts Tryz.info_vol
          obtain⟨hcells,_⟩:=(hp 6 (by decide)).1
          obtain⟨v2,w',hrun,hD,hR'⟩:=Kr (P:=Tryz.prog) (lo:=w5.heap.size) W 35 35 i0 _ 24 Tryz.underlying35 hi hz0 hz1 hz2 rfl (by decide) (hW.2.1 V5.own) ⟨pb,0,none⟩ 1 1 (vol4 v').toList rfl (qez hcells) (by simp[Value.oneCell']) (by omega) (by decide) (by have:=hW.1.size;omega) hW.1.size
          obtain⟨A2,c2,rfl,_,_⟩:=qv hD.1
          refine ZW (u:=.slice A2 (vs.length+1) c2) (w':=w') ?_ ⟨(A2,c2),rfl,hD,hR'⟩
          exact Ue (s:=.tmp 67) (x:=.tmp 69) rfl rfl rfl hrun
         obtain⟨A2,c2⟩:=p7
         simp only[Act.put,qj,qf,qc,qg,qc,qN,jS,zA,zB,zC]
         repeat ((first|(refine qe ?_ (by rfl) (by rfl) (fun W hW _=>⟨W,?_,Rel.refl _ W⟩) ?_;rotate_left;(go_simp<;>with_reducible rfl))|(refine qh (by rfl) ?_));try simp only[Act.put,qj,qf,qc,qg,qc,qN,jS,zA,zB,zC])
         refine qt (hK _ _ fun W hW hF=>?_)
         have hD:=(hF 7).1
         clear hF hK gV gv
         rw[hRR.out] at hW
         change Done _ _ _ _ _ _ _ _ W at hD
         dsimp only[List.drop,List.length_cons,List.length_nil]
         have TW:=V5.t.grown hW.1 (fun q hq=>(hol q hq).1)
         have T6:=TW.setVol (.slice A2 (vs.length+1) c2)
         have own6:=Vv hD.1 (p:=⟨p.cb,518,none⟩) hcb5 (.slice A2 (vs.length+1) c2)
         have hcw:p.cb<w.heap.size:=Nat.lt_of_lt_of_le hcb5 HI.out.t.off.size
         have q6:(W.setCell ⟨p.cb,518,none⟩ (.slice A2 (vs.length+1) c2)).heap[w.heap.size]?=_:=(zJ _ _ _ _ (by show w.heap.size≠p.cb;omega)).trans (vO hW (fun e=>(hnq.out _ e).1 rfl) q5)
         have n6:(W.setCell ⟨p.cb,518,none⟩ (.slice A2 (vs.length+1) c2)).heap[w.heap.size+1]?=_:=(zJ _ _ _ _ (by show w.heap.size+1≠p.cb;omega)).trans (vO hW (fun e=>(hnq.out _ e).2 rfl) nr5)
         have F6:=((F.out.ext x5).grown hnew.out hW.1).setC (i:=518) (u:=.slice A2 (vs.length+1) c2)
         have N6:Vl vv0 w.heap.size (.slice A2 (vs.length+1) c2):=Vl.trans hnew.out (n':=w5.heap.size) hD.2 (by have:=F.out.size;have:=x5.size;omega)
         have B6:∀ q,(Value.slice A2 (vs.length+1) c2).ownBlock=some q→q≠w.heap.size∧q≠w.heap.size+1:=by
          intro q hq
          rcases hD.2 with e|⟨g,e,e2⟩
          ·exact hnq.out q (e ▸ hq)
          ·rw[e] at hq
           cases hq
           have:=x5.size
           omega
         have kc:=qa TW.row
         have kv:=TW.ar.vol
         have fc:=qd TW.row
         have IR:VRel p w1 refs nodes (qC s1 s2 s3 s4 gen root next dead) next vs0 xs h (some ⟨b9,off9,none⟩) c vv0 w (.int .i64 ((k:Int)+1)) (W.setCell ⟨p.cb,518,none⟩ (.slice A2 (vs.length+1) c2)):=by
          refine⟨k+1,vs++[v'],_,_,hlt',rfl,?_,?_,⟨T6,?_⟩,F6,N6,B6,q6,n6⟩
          ·rw[hstep.out,if_pos ⟨hok.out,h16'.out⟩,hve.out]
          ·rw[List.length_append,List.length_singleton]
           have:=h16'.out
           omega
          ·rw[List.length_append,List.length_singleton,qdv]
           exact own6
         replace IR:=zH IR
         clear T6 own6 q6 n6 F6 N6 B6 hW hD q5 nr5 V5 r5 x5 x4 x45
         replace TW:=zH TW
         go_wp2
         refine Qm ?_
         go_wp2_with fail
         refine⟨IR.out,?_⟩
         simp[intOf]
         omega
       ·have hf1:((vs.length:Int) == 16)=true:=by rw[beq_iff_eq];omega
        have HB:=HB8.out (fun hh=>hh.2 h16)
        replace HB:=zH HB
        replace hid:=zH hid
        replace hgd:=zH hgd
        replace h16:=zH h16
        clear hi1 hv' V4
        go_wp2_with fail
        go_ret
        exact HB.out _ (x4.trans (zN _ _))
     ·have HB:=HB8.out (fun hh=>by have:=hh.1;rw[hgd] at this;simp at this;omega)
      replace HB:=zH HB
      replace hid:=zH hid
      replace hgd:=zH hgd
      clear hv' V4 kc kq4
      go_wp2_with fail
      go_ret
      exact HB.out _ (x4.trans (zN _ _))
   ·have hd:decide ((h:Int)>0)=true:=decide_eq_true (by omega)
    have hd2:decide (0<h)=true:=decide_eq_true hh
    replace hh:=zH hh
    obtain⟨h',hh'⟩:∃ h',h=h'+1:=⟨h-1,by have:=hh.out;omega⟩
    obtain⟨b,hxr,hb1,hb2,ys,hnode,hsy⟩:=Jj (hh' ▸ HONE.out)
    obtain⟨v9,hv9⟩:=Option.isSome_iff_exists.1 (HKN.out hh.out)
    obtain⟨n9,lv9,ys',A9,c9,f9,l9,b9',e9,-,-,hn9,rfl,hits9,hsp9,hcl9⟩:=hC.out.known _ _ hv9
    obtain rfl:b=n9:=by omega
    rw[hnode,Option.some.injEq,Prod.mk.injEq] at hn9
    obtain⟨e1,rfl⟩:=hn9
    obtain rfl:h'=lv9:=by omega
    have hMAP:=hC.out.map
    have hmay:=(Qa hnode).1
    have hys:=fun y hy=>((Qa hnode).2.1 y hy).1
    have hylen:ys.length≤5:=by unfold Qe jz at hmay;simp at hmay;omega
    have hyk:0<h'→∀ y∈ys,(f y.r).isSome=true:=fun h0=>hcl9 (by rw[hsp9.1];exact hsy) h0
    have HN2:=HNODE.out h' ys h' hh' (by rw[hxr,Int.toNat_natCast];exact hnode)
    have HCALL:=HL.out h' hh' ys A9 c9 vs vv ca
    rw[hxr] at d3 hv9
    have hfn:=qgO
    replace hh':=zH hh'
    replace hxr:=zH hxr
    replace hnode:=zH hnode
    replace hsy:=zH hsy
    replace hits9:=zH hits9
    replace hys:=zH hys
    replace hyk:=zH hyk
    replace HN2:=zH HN2
    replace HCALL:=zH HCALL
    replace hv9:=zH hv9
    clear hsp9 hcl9 hmay e9 e1
    replace hMAP:=zH hMAP
    go_wp2_with fail
    generalize hw3:World.alloc wr _=w3
    have x3:Ext wr w3:=by rw[←hw3];exact zN _ _
    have r3:w3.heap[wr.heap.size]?=some (.cells #[.int .u8 x.k,.int .u32 x.i,.int .u32 x.o,.int .i64 b,.slice A' x.val.length c'] 68 (0,0)):=by rw[←hw3];exact zI _ _ _ rfl
    clear hw3 d0 d1 d2 d3 d4
    have V3:=V.out.ext x3
    have C3:=V3.t.cen hC.out
    have gP:∀ W,ql.r w3 W→∀ i,W.cell? ⟨w.heap.size,i,none⟩=(qC s1 s2 s3 s4 gen root next dead)[i]?:=fun W h=>qa (qb (qb qr x3) h)
    have gX:∀ W,ql.r w3 W→∀ i,W.cell? ⟨wr.heap.size,i,none⟩=#[.int .u8 x.k,.int .u32 x.i,.int .u32 x.o,.int .i64 b,.slice A' x.val.length c'][i]?:=fun W h=>qa (qb r3 h)
    have gM:∀ W,ql.r w3 W→W.cell? ⟨p.cb,5,none⟩=some (.map (some p.mb)):=fun W h=>by rw[qa (qb C3.row h)];exact C3.c5
    refine qo (by kernel_rfl) ?_
    refine qO (w:=w3) ql (qF []) [true,true,true,true,true,true,true,true,true,true] 2 (by kernel_rfl) (by kernel_rfl) (by kernel_rfl) (by kernel_rfl) (by kernel_rfl) (by kernel_rfl) (by kernel_rfl) ?st2 (Rel.drew _ _) ?walk2
    case st2=>exact qk (fun _ h=>by cases h)
    case walk2 =>
     intro K hK
     dsimp only[qp]
     repeat ((first|(refine qe ?_ (by rfl) (by rfl) (fun W hW _=>⟨W,?_,Rel.refl _ W⟩) ?_;rotate_left;(go_simp<;>with_reducible rfl))|(refine qh (by rfl) ?_));try simp only[Act.put,qj,qf,qc,qg,qc,qN,jS,zA,zB,zC])
     refine qe (ZV h' A9 ys.length c9 f9 l9 b9') (by rfl) (by rfl) (fun W hW _=>⟨W,?_,Rel.refl _ W⟩) ?_
     ·have hWx:Ext w3 W:=hW
      have hm:=Yc (P:=Tryz.prog) W (C3.ext hWx).map 81 3 135 Tryz.underlying81 Tryz.underlying3 hv9.out
      go_simp
     simp only[Act.put,qj,qf,qc,qg,qc,qN,jS,zA,zB,zC]
     repeat ((first|(refine qe ?_ (by rfl) (by rfl) (fun W hW _=>⟨W,?_,Rel.refl _ W⟩) ?_;rotate_left;(go_simp<;>with_reducible rfl))|(refine qh (by rfl) ?_));try simp only[Act.put,qj,qf,qc,qg,qc,qN,jS,zA,zB,zC])
     refine qt (hK _ _ fun W hW hF=>?_)
     have hWx:Ext w3 W:=hW
     have x4:=x3.trans hWx
     clear hF hK gP gX gM hfn
     dsimp only[List.drop,List.length_cons,List.length_nil]
     have VW:=V.out.ext x4
     have qW:=qb qr x4
     have nW:=qb nr x4
     clear hW hWx x3 r3 V3 C3
     replace VW:=zH VW
     go_wp2_with fail
     refine(HCALL.out W VW.out hvs.out hys.out hylen hits9.out hsy.out hyk.out).mono ?_
     rintro e w6 ⟨F6,hm⟩
     have hstep:Zj next vs0 (Qn p.S h (xs.take (k+1)))=Zj next vs (Qn p.S h' ys):=by
      rw[HN2.out,JG,hgo.out]
      rfl
     have FW:=(F.out.ext x4).trans F6 hnew.out
     have hcw:p.cb<w.heap.size:=Nat.lt_of_lt_of_le V.out.t.lt HI.out.t.off.size
     have hzW:w.heap.size+1<W.heap.size:=(zG.1 nW).1
     have q6:=(F6.block w.heap.size (by omega) (by omega) (fun e=>(hnq.out _ e).1 rfl)).trans qW
     have n6:=(F6.block (w.heap.size+1) (by omega) (by omega) (fun e=>(hnq.out _ e).2 rfl)).trans nW
     rcases hg6:Zj next vs (Qn p.S h' ys) with _|vs'
     ·rw[hg6] at hm hstep
      obtain rfl:e=.returned (.int .i64 8):=hm
      have HB:VolsQ p w1 refs nodes next vs0 (Qn p.S h xs) vv0 w (.returned (.int .i64 8)) w6:=⟨FW,by rw[HBAD.out hstep]⟩
      replace HB:=zH HB
      clear q6 n6 FW F6 hstep x4 qW nW
      go_wp2_with fail
      refine Qm ?_
      go_wp2_with fail
      go_ret
      exact HB.out
     ·rw[hg6] at hm hstep
      obtain⟨rfl,vv',ca',V6,N6⟩:=hm
      have IR:VRel p w1 refs nodes (qC s1 s2 s3 s4 gen root next dead) next vs0 xs h (some ⟨b9,off9,none⟩) c vv0 w (.int .i64 ((k:Int)+1)) w6:=by
       refine⟨k+1,vs',vv',ca',hlt',rfl,hstep,Vh next _ _ _ hvs.out hg6,V6,FW,Vl.trans hnew.out N6 (by omega),fun q hq=>?_,q6,n6⟩
       rcases N6 with e|⟨g,e,e2⟩
       ·exact hnq.out q (e ▸ hq)
       ·rw[e] at hq
        cases hq
        omega
      replace IR:=zH IR
      clear q6 n6 FW F6 hstep x4 qW nW V6 N6
      go_wp2_with fail
      refine Qm ?_
      go_wp2_with fail
      refine⟨IR.out,?_⟩
      simp[intOf]
      omega
  ·have hke:k=xs.length:=by omega
   have HQ:VolsQ p w1 refs nodes next vs0 (Qn p.S h xs) vv0 w (.returned (.int .i64 0)) wr:=by
    rw[hke,List.take_length] at hgo
    exact⟨F,by rw[hgo];exact⟨rfl,vv,ca,V,hnew⟩⟩
   replace HQ:=zH HQ
   replace V:=zH V
   replace F:=zH F
   replace hnew:=zH hnew
   replace hnq:=zH hnq
   replace hgo:=zH hgo
   replace hke:=zH hke
   clear qr nr
   go_wp2
   go_ret
   exact HQ.out
def TreeQ (p:CP) (R:List Nat) (r:Int) (vv:Value) (w:World) (f:Int→Option Value) (e:Ending) (w':World):Prop:=
 e=.returned (.int .i64 (if okL p.S (-1) r=true then 0 else 8))∧w'.os=w.os∧w'.tape=w.tape∧w'.output=w.output∧w.heap.size≤w'.heap.size∧(∀ k,k<w.heap.size→k≠p.cb→k≠p.mb→w'.heap[k]?=w.heap[k]?) ∧
  (okL p.S (-1) r=true→∃ ca g refs nodes,Cen (p.put ca) w' g∧Jp f g∧Ar ca refs nodes vv∧qR p.S (R++[r.toNat]) refs nodes∧Tw p.S g (R++[r.toNat]))
theorem Tryz.info_int:(Tryz.prog.info? 3).map (fun i=>(i.zero,i.size,i.bytes))=some (some (.int .i64 0),1,8):=by kernel_rfl
structure TRel (p:CP) (w1:World) (vv:Value) (R:List Nat) (v:Value) (wr:World):Prop where
 ex:∃ (s:List Nat) (rf nd:Nat→Nat) (ca:Array Value),lenV v=s.length∧wr.ownsRow w1.heap.size 3 1 v s.length (jA s)∧TrI p w1.heap.size w1 wr vv ca rf nd∧Wk p.S R rf nd s
structure IRel (p:CP) (w1:World) (vv:Value) (s':List Nat) (lv9:Nat) (xs:List It) (rf nd':Nat→Nat) (nb:Nat) (A9:Option Addr) (c9:Nat) (v i:Value) (wq:World):Prop where
 ex:∃ (k:Nat) (rf':Nat→Nat) (ca':Array Value),k≤xs.length∧i=.int .i64 (k:Int)∧(∀ x,rf' x=rf x+(VH xs k).count x)∧lenV v=(s'++Zo lv9 xs k).length ∧
  wq.ownsRow w1.heap.size 3 1 v (s'++Zo lv9 xs k).length (jA (s'++Zo lv9 xs k))∧(∀ q,v.ownBlock=some q→q≠nb)∧TrI p w1.heap.size w1 wq vv ca' rf' nd' ∧
  wq.heap[nb]?=some (.cells #[.int .i64 lv9,.slice A9 xs.length c9] 49 (0,0))
set_option maxRecDepth 100000 in
theorem tree_any (p:CP) (R:List Nat) (hRl:R.length≤100) (r:Int) (w:World) (f:Int→Option Value) (refs nodes:Nat→Nat) (vv:Value) (hC:Cen p w f) (hA:Ar p.ca refs nodes vv) (hN:qR p.S R refs nodes) (hR:Tw p.S f R) :
  Calls Tryz.prog 86 #[.pointer (some ⟨p.cb,0,none⟩),.int .i64 r] w (TreeQ p R r vv w f):=by
 replace hC:=zH hC
 replace hA:=zH hA
 replace hN:=zH hN
 replace hR:=zH hR
 have hfi:=field_is
 have hfn:=qgO
 go_enter Tryz.func86,Tryz.ntmps86
 go_wp2_with fail
 refine(GA p r w f hC.out).mono ?_
 rintro e w1 ⟨v,g,rfl,⟨lvl,A,n,c,fk,lk,rfl,hknown⟩,hgr,hm,hg,hn⟩
 have C1:=hC.out.after hgr hm hg hn
 rcases hok:okL p.S (-1) r with _|_
 ·have HQ:TreeQ p R r vv w f (.returned (.int .i64 8)) w1:=⟨by rw[hok];rfl,hg.os,hg.tape,hg.output,hg.size,fun k h1 _ h2=>hg.block k h1 (by simp;omega),fun h=>by rw[hok] at h;cases h⟩
  replace HQ:=zH HQ
  replace C1:=zH C1
  clear hknown hgr hm hg hn
  go_wp2
  go_ret
  exact HQ.out
 ·obtain⟨a,rfl,htree⟩:=JN hok
  have hga:=hknown hok
  have ha2:a<256:=htree.2.1
  have kc:=qa C1.row
  have fc:=qd C1.row
  have kr:=hA.out.ref a ha2
  replace C1:=zH C1
  replace htree:=zH htree
  replace hga:=zH hga
  clear hknown
  have hw1:wrap64 ((refs a:Int)+1)=(refs a:Int)+1:=IntWalk.wrap64_in _ (by have:=qet (jl.walk.1 hN.out.mkd) a;omega)
  have T1:TrI p w1.heap.size w1 w1 vv p.ca refs nodes:=⟨Off.refl (zM _),C1.out.row,hA.out,fun _ _=>rfl,(zG.1 C1.out.row).1⟩
  have Rk:Tw p.S g (R++[a]):=fun b hb=>by
   rcases List.mem_append.1 hb with hb|hb
   ·exact⟨(hR.out b hb).1,hgr.some_ _ (hR.out b hb).2⟩
   ·rw[List.mem_singleton.1 hb]
    exact⟨htree.out,by rw[hga.out];rfl⟩
  replace Rk:=zH Rk
  go_wp2_with fail
  have gR:∀ W,ql.r w1 W→W.cell? ⟨p.cb,6+a,none⟩=some (.int .i64 (refs a:Int)):=fun W h=>by rw[qa (qb C1.out.row h)];exact kr
  refine qo (by kernel_rfl) ?_
  refine zh 0 10 (.pointer (some ⟨p.cb,0,none⟩)) (by kernel_rfl) (by simp only[List.getElem?_toArray,List.getElem?_cons_succ,List.getElem?_cons_zero];exact rfl) (by kernel_rfl) (by kernel_rfl) (by kernel_rfl) (by rfl) (fun W=>?_) ?_
  ·go_simp
  simp only[Act.put,qj,qf,qc,qg,qc,zA,zB,zC]
  refine zh 7 9 (.pointer (some ⟨p.cb,0,none⟩)) (by kernel_rfl) (by simp only[List.getElem?_toArray,List.getElem?_cons_succ,List.getElem?_cons_zero];exact rfl) (by kernel_rfl) (by kernel_rfl) (by kernel_rfl) (by rfl) (fun W=>?_) ?_
  ·go_simp
  simp only[Act.put,qj,qf,qc,qg,qc,zA,zB,zC]
  refine zh 8 8 (.pointer (some ⟨p.cb,6,none⟩)) (by kernel_rfl) (by simp only[List.getElem?_toArray,List.getElem?_cons_succ,List.getElem?_cons_zero];exact rfl) (by kernel_rfl) (by kernel_rfl) (by kernel_rfl) (by rfl) (fun W=>?_) ?_
  ·go_simp
  simp only[Act.put,qj,qf,qc,qg,qc,zA,zB,zC]
  refine Zp (w:=w1) ql (qF []) [false,true,true,true,true,true,true,false,false,true] 1 (by kernel_rfl) (by kernel_rfl) (by kernel_rfl) (by kernel_rfl) (by kernel_rfl) (by kernel_rfl) ?st (Rel.drew _ _) ?walk
  case st=>exact qk (fun _ h=>by cases h)
  case walk =>
   intro K hK
   dsimp only[qp]
   repeat ((first|(refine qe ?_ (by rfl) (by rfl) (fun W hW _=>⟨W,?_,Rel.refl _ W⟩) ?_;rotate_left;(go_simp<;>with_reducible rfl))|(refine qh (by rfl) ?_));try simp only[Act.put,qj,qf,qc,qg,qc,zA,zB,zC])
   first
    |(refine qe (.pointer (some ⟨p.cb,6+a,none⟩)) (by rfl) (by rfl) (fun W hW _=>⟨W,?_,Rel.refl _ W⟩) ?_
      ·go_simp
       intro hge
       exfalso
       omega
      simp only[Act.put,qj,qf,qc,qg,qc,zA,zB,zC])
    |skip
   repeat ((first|(refine qe ?_ (by rfl) (by rfl) (fun W hW _=>⟨W,?_,Rel.refl _ W⟩) ?_;rotate_left;(go_simp<;>with_reducible rfl))|(refine qh (by rfl) ?_));try simp only[Act.put,qj,qf,qc,qg,qc,zA,zB,zC])
   first
    |(refine qe (.pointer (some ⟨p.cb,6+a,none⟩)) (by rfl) (by rfl) (fun W hW _=>⟨W,?_,Rel.refl _ W⟩) ?_
      ·go_simp
       intro hge
       exfalso
       omega
      simp only[Act.put,qj,qf,qc,qg,qc,zA,zB,zC])
    |skip
   repeat ((first|(refine qe ?_ (by rfl) (by rfl) (fun W hW _=>⟨W,?_,Rel.refl _ W⟩) ?_;rotate_left;(go_simp<;>with_reducible rfl))|(refine qh (by rfl) ?_));try simp only[Act.put,qj,qf,qc,qg,qc,zA,zB,zC])
   refine qt (hK _ _ fun W hW hF=>?_)
   have hW':Ext w1 W:=hW
   clear hF hK gR kc fc kr
   dsimp only[List.drop,List.length_cons,List.length_nil]
   have T2:=(T1.ext hW').addRef ha2
   have rc:=qb C1.out.row hW'
   have kc:=qa rc
   have fc:=qd rc
   have kr:=hA.out.ref a ha2
   go_wp2
   refine Qm ?_
   go_wp2_with fail
   generalize hw3:World.alloc _ _=w3
   have T3:TrI p w1.heap.size w1 w3 vv _ (Js refs a) nodes:=T2.ext (by rw[←hw3];exact zN _ _)
   have o3:w3.ownsRow w1.heap.size 3 1 (.slice (some ⟨W.heap.size,0,none⟩) 1 1) 1 (jA [a]):=by
    have h:=World.ownsRow_lit (base:=w1.heap.size) (e:=3) (size:=1) (W.setCell ⟨p.cb,6+a,none⟩ (.int .i64 ((refs a:Int)+1))) #[.int .i64 (a:Int)] 1 (by simpa using hW'.size) (by unfold maxLen;omega) rfl
    rw[←hw3]
    have hz:(W.setCell ⟨p.cb,6+a,none⟩ (.int .i64 ((refs a:Int)+1))).heap.size=W.heap.size:=by simp
    rw[hz] at h
    exact h
   have K3:=hN.out.start a
   generalize (p.ca.setIfInBounds (6+a) _)=ca3 at T3
   clear hw3 kc fc kr rc T2 hW' T1 hN hA hw1
   generalize W.heap.size=g3 at *
   replace T3:=zH T3
   replace o3:=zH o3
   replace K3:=zH K3
   go_loopw [5] (fun v wr=>TRel p w1 vv (R++[a]) v wr) (fun v wr=>6*leftW wr p.cb+lenV v)
   case atStart=>exact⟨[a],_,_,_,rfl,o3.out,T3.out,K3.out⟩
   case round =>
    obtain⟨s,rf,nd,ca,hsl,hown,T,K⟩:=hrel.ex
    clear T3 o3 K3
    rcases List.eq_nil_or_concat s with rfl|⟨s',b,rfl⟩
    ·obtain⟨A,c',rfl,-,-⟩:=qv hown
     have hd:qR p.S (R++[a]) rf nd:=K.done
     have HQ:TreeQ p R (a:Int) vv w f (.returned (.int .i64 0)) wr:=by
      refine⟨by rw[hok];rfl,?_,?_,?_,?_,?_,fun _=>⟨ca,g,rf,nd,T.cen C1.out,hgr,T.ar,?_,?_⟩⟩
      ·exact T.off.os.trans hg.os
      ·exact T.off.tape.trans hg.tape
      ·exact T.off.output.trans hg.output
      ·exact Nat.le_trans hg.size T.off.size
      ·intro k h1 h2 h3
       exact(T.off.block k (Nat.lt_of_lt_of_le h1 hg.size) h2).trans (hg.block k h1 (by simp;omega))
      ·simpa using hd
      ·simpa using Rk.out
     replace HQ:=zH HQ
     replace T:=zH T
     replace K:=zH K
     replace hd:=zH hd
     clear hown hsl hgr hm hg hn
     go_wp2
     go_ret
     exact HQ.out
    ·rw[List.concat_eq_append] at *
     obtain⟨m,hm0⟩:∃ m,m=s'.length:=⟨_,rfl⟩
     rw[List.length_append,List.length_singleton,←hm0] at hown
     rw[kV] at hown
     rcases hown.2 with ⟨h0,-⟩|⟨gb,cap,cur,rfl,hgb,hrow,hnc,hcm,hcs,htk⟩
     ·exfalso
      have:=hown.1
      simp[Ym] at this
      rw[h0] at hsl
      simp[lenV] at hsl
     ·obtain⟨gb',off',e0,hgb',hcel⟩:=(Rd.of_own hown).2 (by omega)
      simp only[Option.some.injEq,Addr.mk.injEq,and_true] at e0
      obtain⟨rfl,rfl⟩:=e0
      have kb:=hcel m (.int .i64 (b:Int)) (by rw[List.getElem?_append_right (by rw[Ym];omega),Ym,←hm0];simp)
      rw[Nat.zero_add] at kb
      clear hcel
      have hown2:=Xp (xs:=jA s') (news:=[.int .i64 (b:Int)]) (n:=m) (m:=1) hown (by rw[Ym,hm0];omega)
      obtain⟨hbt,hbk⟩:=Rk.out.reach C1.out.known (K.wk.stk b (List.mem_append_right _ (List.mem_singleton.2 rfl)))
      have hb2:=hbt.2.1
      have hw2:wrap64 ((m:Int)+1-1)=(m:Int):=by rw[IntWalk.wrap64_in _ (by unfold maxLen at hcm;omega)];omega
      have hw22:wrap64 (m:Int)=(m:Int):=IntWalk.wrap64_in _ (by unfold maxLen at hcm;omega)
      replace hown:=zH hown
      replace hown2:=zH hown2
      replace T:=zH T
      replace K:=zH K
      replace hbt:=zH hbt
      replace hbk:=zH hbk
      replace hm0:=zH hm0
      replace hsl:=zH hsl
      have hmc:m≤cap:=Nat.le_of_succ_le hnc
      have hcap:¬cap=0:=fun e=>by rw[e] at hnc;exact absurd hnc (Nat.not_succ_le_zero _)
      clear hrow
      clear htk hcs hgr hm hg hn hgb hcm hnc
      have kn0:=T.out.ar.node b hb2
      have hw3:wrap64 ((nd b:Int)+1)=(nd b:Int)+1:=IntWalk.wrap64_in _ (by have:=K.out.few b;simp at this;omega)
      go_wp2_with fail
      have gN:∀ W,ql.r wr W→W.cell? ⟨p.cb,262+b,none⟩=some (.int .i64 (nd b:Int)):=fun W h=>by rw[qa (qb T.out.row h)];exact kn0
      refine qo (by kernel_rfl) ?_
      refine zh 0 10 (.pointer (some ⟨p.cb,0,none⟩)) (by kernel_rfl) (by simp only[List.getElem?_toArray,List.getElem?_cons_succ,List.getElem?_cons_zero];exact rfl) (by kernel_rfl) (by kernel_rfl) (by kernel_rfl) (by rfl) (fun W=>?_) ?_
      ·go_simp
      simp only[Act.put,qj,qf,qc,qg,qc,zA,zB,zC]
      refine zh 2 9 (.pointer (some ⟨p.cb,0,none⟩)) (by kernel_rfl) (by simp only[List.getElem?_toArray,List.getElem?_cons_succ,List.getElem?_cons_zero];exact rfl) (by kernel_rfl) (by kernel_rfl) (by kernel_rfl) (by rfl) (fun W=>?_) ?_
      ·go_simp
      simp only[Act.put,qj,qf,qc,qg,qc,zA,zB,zC]
      refine zh 7 8 (.pointer (some ⟨p.cb,0,none⟩)) (by kernel_rfl) (by simp only[List.getElem?_toArray,List.getElem?_cons_succ,List.getElem?_cons_zero];exact rfl) (by kernel_rfl) (by kernel_rfl) (by kernel_rfl) (by rfl) (fun W=>?_) ?_
      ·go_simp
      simp only[Act.put,qj,qf,qc,qg,qc,zA,zB,zC]
      refine zh 8 7 (.pointer (some ⟨p.cb,262,none⟩)) (by kernel_rfl) (by simp only[List.getElem?_toArray,List.getElem?_cons_succ,List.getElem?_cons_zero];exact rfl) (by kernel_rfl) (by kernel_rfl) (by kernel_rfl) (by rfl) (fun W=>?_) ?_
      ·go_simp
      simp only[Act.put,qj,qf,qc,qg,qc,zA,zB,zC]
      refine Zp (w:=wr) ql (qF []) [false,true,false,true,true,true,true,false,false,true] 1 (by kernel_rfl) (by kernel_rfl) (by kernel_rfl) (by kernel_rfl) (by kernel_rfl) (by kernel_rfl) ?st (Rel.drew _ _) ?walk
      case st=>exact qk (fun _ h=>by cases h)
      case walk =>
       intro K' hK'
       dsimp only[qp]
       repeat ((first|(refine qe ?_ (by rfl) (by rfl) (fun W hW _=>⟨W,?_,Rel.refl _ W⟩) ?_;rotate_left;(go_simp<;>with_reducible rfl))|(refine qh (by rfl) ?_));try simp only[Act.put,qj,qf,qc,qg,qc,zA,zB,zC])
       first
        |(refine qe (.pointer (some ⟨p.cb,262+b,none⟩)) (by rfl) (by rfl) (fun W hW _=>⟨W,?_,Rel.refl _ W⟩) ?_
          ·go_simp
           intro hge
           exfalso
           omega
          simp only[Act.put,qj,qf,qc,qg,qc,zA,zB,zC])
        |skip
       repeat ((first|(refine qe ?_ (by rfl) (by rfl) (fun W hW _=>⟨W,?_,Rel.refl _ W⟩) ?_;rotate_left;(go_simp<;>with_reducible rfl))|(refine qh (by rfl) ?_));try simp only[Act.put,qj,qf,qc,qg,qc,zA,zB,zC])
       first
        |(refine qe (.pointer (some ⟨p.cb,262+b,none⟩)) (by rfl) (by rfl) (fun W hW _=>⟨W,?_,Rel.refl _ W⟩) ?_
          ·go_simp
           intro hge
           exfalso
           omega
          simp only[Act.put,qj,qf,qc,qg,qc,zA,zB,zC])
        |skip
       repeat ((first|(refine qe ?_ (by rfl) (by rfl) (fun W hW _=>⟨W,?_,Rel.refl _ W⟩) ?_;rotate_left;(go_simp<;>with_reducible rfl))|(refine qh (by rfl) ?_));try simp only[Act.put,qj,qf,qc,qg,qc,zA,zB,zC])
       refine qt (hK' _ _ fun W hW hF=>?_)
       have hWx:Ext wr W:=hW
       clear hF hK' gN
       dsimp only[List.drop,List.length_cons,List.length_nil]
       have T2:=(T.out.ext hWx).addNode hb2
       have rc:=qb T.out.row hWx
       have kc:=qa rc
       have fc:=qd rc
       have o2:(W.setCell ⟨p.cb,262+b,none⟩ (.int .i64 ((nd b:Int)+1))).ownsRow w1.heap.size 3 1 (.slice (some ⟨gb,0,none⟩) m cap) m (jA s'):=Vv (QP hown2.out hWx) (p:=⟨p.cb,262+b,none⟩) T.out.lt _
       generalize (ca.setIfInBounds (262+b) _)=ca4 at T2
       replace rc:=zH rc
       go_wp2
       refine Qm ?_
       rw[hw3]
       generalize hw4:W.setCell ⟨p.cb,262+b,none⟩ (.int .i64 ((nd b:Int)+1))=w4 at *
       clear hw4 kc fc rc hWx
       replace T2:=zH T2
       replace o2:=zH o2
       have kc:=qa T2.out.row
       have kn2:=T2.out.ar.node b hb2
       have hbb:Js nd b b=nd b+1:=by unfold Js;rw[if_pos rfl]
       rw[hbb] at kn2
       have kq:w4.cell? ⟨p.cb,262+b,none⟩=some (.int .i64 ((nd b:Int)+1)):=(kc _).trans kn2
       have kq5:w4.cell? ⟨p.cb,5,none⟩=some (.map (some p.mb)):=(kc _).trans ((T2.out.low 5 (by omega)).trans C1.out.c5)
       clear kc kn2
       rcases Nat.eq_zero_or_pos (nd b) with hz|hz
       ·have hc1:decide (((nd b+1:Nat):Int)>1)=false:=decide_eq_false (by omega)
        have hc2:decide ((nd b:Int)+1>1)=false:=decide_eq_false (by omega)
        replace hz:=zH hz
        go_wp2_with (at_lookup;refine qZ ?_)
        obtain⟨v9,hv9⟩:=Option.isSome_iff_exists.1 hbk.out
        obtain⟨n9,lv9,xs,A9,c9,f9,l9,b9,e9,-,-,hnode,rfl,hits,-,-⟩:=C1.out.known _ _ hv9
        obtain rfl:b=n9:=by omega
        have hMap:=(T2.out.cen C1.out).map
        refine Qy.go (Tr _ rfl (.tmp 61) (.tmp 62) 81 rfl Tryz.underlying81 Tryz.underlying3 rfl rfl hMap hv9 ?_)
        have hmay:=(Qa hnode).1
        have hxs:=(Qa hnode).2.1
        have hlen:xs.length≤5:=by unfold Qe jz at hmay;simp at hmay;omega
        clear hMap hv9 hmay kq kq5
        replace hnode:=zH hnode
        replace hits:=zH hits
        replace hxs:=zH hxs
        go_wp2_with fail
        generalize hw5:World.alloc w4 _=w5
        have T5:=T2.out.ext (by rw[←hw5];exact zN _ _:Ext w4 w5)
        have o5:=QP o2.out (by rw[←hw5];exact zN _ _:Ext w4 w5)
        have n5:w5.heap[w4.heap.size]?=some (.cells #[.int .i64 lv9,.slice A9 xs.length c9] 49 (0,0)):=by rw[←hw5];exact zI _ _ _ rfl
        have z5:gb<w4.heap.size:=(QR o2.out gb rfl).2
        clear hw5
        have hlt9:=T2.out.lt
        have hB4:=T2.out.off.size
        generalize w4.heap.size=nb at *
        have I0:IRel p w1 vv s' lv9 xs rf (Js nd b) nb A9 c9 (.slice (some ⟨gb,0,none⟩) m cap) (.int .i64 0) w5:=by
         refine⟨0,rf,ca4,Nat.zero_le _,rfl,fun x=>by rw[qip];rfl,?_,?_,fun q hq=>?_,T5,n5⟩
         ·rw[Uu,List.append_nil];exact hm0.out
         ·rw[Uu,List.append_nil,←hm0.out];exact o5
         ·simp[Value.ownBlock] at hq
          omega
        replace I0:=zH I0
        clear o5 T5 n5
        go_loopw [5,68] (fun v i wq=>IRel p w1 vv s' lv9 xs rf (Js nd b) nb A9 c9 v i wq) (fun _ i _=>xs.length-(intOf i).toNat)
        case atStart=>exact I0.out
        case round =>
         obtain⟨k,rf',ca',hk,rfl,hrf,hvl,hown',hnb,TI,nI⟩:=hrel.ex
         clear I0
         by_cases hlt:k<xs.length
         ·have hlt':=hlt
          obtain⟨b9',off9,rfl,hb9⟩:=hits.out.its.at_.2.2.2 (by omega)
          obtain⟨A',c',d0,d1,d2,d3,d4,-⟩:=(TI.its C1.out hits.out).its.item k hlt'
          obtain⟨⟨-,-,-,⟨hr1,hr2⟩,-⟩,-⟩:=hxs.out xs[k] (List.getElem_mem hlt')
          have HSK:=zH (fun h=>qep (lvl:=lv9) hlt' h)
          have HPU:=zH (fun h h'=>qeo (lvl:=lv9) hlt' h h')
          have HRS:=zH (fun h=>qio hlt' h hrf)
          have HRB:=zH (fun h=>qin hlt' h hrf)
          generalize xs[k]=x at *
          obtain⟨r,hr⟩:=Int.eq_ofNat_of_zero_le hr1
          rw[hr] at d3 hr2
          have hr3:r<256:=by omega
          rw[hr,Int.toNat_natCast] at HSK HPU HRS HRB
          clear hr1 hr2
          replace hr:=zH hr
          replace hrf:=zH hrf
          replace TI:=zH TI
          replace hown':=zH hown'
          replace hvl:=zH hvl
          replace hnb:=zH hnb
          rcases Nat.eq_zero_or_pos r with hr0|hr0
          ·have hq1:((r:Int) == 0)=true:=by rw[beq_iff_eq];omega
           have hq2:decide (r=0)=true:=decide_eq_true hr0
           have hrf1:=HRS.out hr0
           have hpt:=HSK.out (.inl hr0)
           replace hr0:=zH hr0
           replace hrf1:=zH hrf1
           replace hpt:=zH hpt
           go_wp2_with fail
           refine⟨⟨k+1,rf',ca',hlt',rfl,hrf1.out,?_,?_,hnb.out,TI.out.ext (zN _ _),qb nI (zN _ _)⟩,by simp[intOf];omega⟩
           ·rw[hpt.out];exact hvl.out
           ·rw[hpt.out];exact QP hown'.out (zN _ _)
          ·have hq1:((r:Int) == 0)=false:=by rw[beq_eq_false_iff_ne];omega
           have hq2:decide (r=0)=false:=decide_eq_false (by omega)
           have hr00:¬r=0:=by omega
           have hrf1:=HRB.out hr00
           replace hrf1:=zH hrf1
           replace hr00:=zH hr00
           clear hr0
           go_wp2_with fail
           generalize hw6:World.alloc wr _=w6
           have x6:Ext wr w6:=by rw[←hw6];exact zN _ _
           have r6:w6.heap[wr.heap.size]?=some (.cells #[.int .u8 x.k,.int .u32 x.i,.int .u32 x.o,.int .i64 r,.slice A' x.val.length c'] 68 (0,0)):=by rw[←hw6];exact zI _ _ _ rfl
           clear hw6 d0 d1 d2 d3 d4
           have T6:=TI.out.ext x6
           have o6:=QP hown'.out x6
           have n6:=qb nI x6
           have kr0:=T6.ar.ref r hr3
           have hw6:wrap64 ((rf' r:Int)+1)=(rf' r:Int)+1:=IntWalk.wrap64_in _ (by
            have h1:=hrf.out r
            have h2:=List.count_le_length (a:=r) (l:=VH xs k)
            have h3:=GY (xs:=xs) (k:=k)
            have h4:=qet K.out.wk r
            simp at h4
            omega)
           have gR:∀ W,ql.r w6 W→W.cell? ⟨p.cb,6+r,none⟩=some (.int .i64 (rf' r:Int)):=fun W h=>by rw[qa (qb T6.row h)];exact kr0
           have gI:∀ W,ql.r w6 W→∀ i,W.cell? ⟨wr.heap.size,i,none⟩=#[.int .u8 x.k,.int .u32 x.i,.int .u32 x.o,.int .i64 r,.slice A' x.val.length c'][i]?:=fun W h=>qa (qb r6 h)
           refine qo (by kernel_rfl) ?_
           refine zh 0 11 (.pointer (some ⟨p.cb,0,none⟩)) (by kernel_rfl) (by simp only[List.getElem?_toArray,List.getElem?_cons_succ,List.getElem?_cons_zero];exact rfl) (by kernel_rfl) (by kernel_rfl) (by kernel_rfl) (by rfl) (fun W=>?_) ?_
           ·go_simp
           simp only[Act.put,qj,qf,qc,qg,qc,zA,zB,zC]
           refine zh 3 10 (.pointer (some ⟨p.cb,0,none⟩)) (by kernel_rfl) (by simp only[List.getElem?_toArray,List.getElem?_cons_succ,List.getElem?_cons_zero];exact rfl) (by kernel_rfl) (by kernel_rfl) (by kernel_rfl) (by rfl) (fun W=>?_) ?_
           ·go_simp
           simp only[Act.put,qj,qf,qc,qg,qc,zA,zB,zC]
           refine zh 8 9 (.pointer (some ⟨p.cb,0,none⟩)) (by kernel_rfl) (by simp only[List.getElem?_toArray,List.getElem?_cons_succ,List.getElem?_cons_zero];exact rfl) (by kernel_rfl) (by kernel_rfl) (by kernel_rfl) (by rfl) (fun W=>?_) ?_
           ·go_simp
           simp only[Act.put,qj,qf,qc,qg,qc,zA,zB,zC]
           refine zh 9 8 (.pointer (some ⟨p.cb,6,none⟩)) (by kernel_rfl) (by simp only[List.getElem?_toArray,List.getElem?_cons_succ,List.getElem?_cons_zero];exact rfl) (by kernel_rfl) (by kernel_rfl) (by kernel_rfl) (by rfl) (fun W=>?_) ?_
           ·go_simp
           simp only[Act.put,qj,qf,qc,qg,qc,zA,zB,zC]
           refine Zp (w:=w6) ql (qF []) [false,true,true,false,true,true,true,true,false,false,true] 1 (by kernel_rfl) (by kernel_rfl) (by kernel_rfl) (by kernel_rfl) (by kernel_rfl) (by kernel_rfl) ?st (Rel.drew _ _) ?walk
           case st=>exact qk (fun _ h=>by cases h)
           case walk =>
            intro K2 hK2
            dsimp only[qp]
            repeat ((first|(refine qe ?_ (by rfl) (by rfl) (fun W hW _=>⟨W,?_,Rel.refl _ W⟩) ?_;rotate_left;(go_simp<;>with_reducible rfl))|(refine qh (by rfl) ?_));try simp only[Act.put,qj,qf,qc,qg,qc,zA,zB,zC])
            first
             |(refine qe (.pointer (some ⟨p.cb,6+r,none⟩)) (by rfl) (by rfl) (fun W hW _=>⟨W,?_,Rel.refl _ W⟩) ?_
               ·go_simp
                intro hge
                exfalso
                omega
               simp only[Act.put,qj,qf,qc,qg,qc,zA,zB,zC])
             |skip
            repeat ((first|(refine qe ?_ (by rfl) (by rfl) (fun W hW _=>⟨W,?_,Rel.refl _ W⟩) ?_;rotate_left;(go_simp<;>with_reducible rfl))|(refine qh (by rfl) ?_));try simp only[Act.put,qj,qf,qc,qg,qc,zA,zB,zC])
            first
             |(refine qe (.pointer (some ⟨p.cb,6+r,none⟩)) (by rfl) (by rfl) (fun W hW _=>⟨W,?_,Rel.refl _ W⟩) ?_
               ·go_simp
                intro hge
                exfalso
                omega
               simp only[Act.put,qj,qf,qc,qg,qc,zA,zB,zC])
             |skip
            repeat ((first|(refine qe ?_ (by rfl) (by rfl) (fun W hW _=>⟨W,?_,Rel.refl _ W⟩) ?_;rotate_left;(go_simp<;>with_reducible rfl))|(refine qh (by rfl) ?_));try simp only[Act.put,qj,qf,qc,qg,qc,zA,zB,zC])
            refine qt (hK2 _ _ fun W hW hF=>?_)
            have hWx:Ext w6 W:=hW
            clear hF hK2 gR gI
            dsimp only[List.drop,List.length_cons,List.length_nil]
            have T7:=(T6.ext hWx).addRef hr3
            have rc:=qb T6.row hWx
            have kc:=qa rc
            have fc:=qd rc
            have hlp:=T6.lt
            have o7:(W.setCell ⟨p.cb,6+r,none⟩ (.int .i64 ((rf' r:Int)+1))).ownsRow w1.heap.size 3 1 _ _ _:=Vv (QP o6 hWx) (p:=⟨p.cb,6+r,none⟩) hlp _
            have n7:(W.setCell ⟨p.cb,6+r,none⟩ (.int .i64 ((rf' r:Int)+1))).heap[nb]?=_:=(zJ _ _ _ _ (by show nb≠p.cb;omega)).trans (qb n6 hWx)
            have r7:(W.setCell ⟨p.cb,6+r,none⟩ (.int .i64 ((rf' r:Int)+1))).heap[wr.heap.size]?=_:=(zJ _ _ _ _ (by show wr.heap.size≠p.cb;have:=TI.out.off.size;omega)).trans (qb r6 hWx)
            generalize (ca'.setIfInBounds (6+r) _)=ca7 at T7
            replace rc:=zH rc
            go_wp2
            refine Qm ?_
            rw[hw6]
            generalize hw7:W.setCell ⟨p.cb,6+r,none⟩ (.int .i64 ((rf' r:Int)+1))=w7 at *
            clear hw7 kc fc rc hWx T6 o6 n6 x6 r6 kr0 hw6
            have kn7:=qa n7
            have kr7:=qa r7
            replace T7:=zH T7
            replace o7:=zH o7
            rcases Nat.eq_zero_or_pos lv9 with hv0|hv0
            ·have hq3:decide ((lv9:Int)>0)=false:=decide_eq_false (by omega)
             have hq4:decide (0<lv9)=false:=decide_eq_false (by omega)
             have hpt:=HSK.out (.inr hv0)
             replace hpt:=zH hpt
             replace hv0:=zH hv0
             go_wp2_with fail
             refine⟨⟨k+1,Js rf' r,ca7,hlt',rfl,hrf1.out,?_,?_,hnb.out,T7.out,n7⟩,by simp[intOf];omega⟩
             ·rw[hpt.out];exact hvl.out
             ·rw[hpt.out];exact o7.out
            ·have hq3:decide ((lv9:Int)>0)=true:=decide_eq_true (by omega)
             have hq4:decide (0<lv9)=true:=decide_eq_true hv0
             have hpt:=HPU.out hr00.out hv0
             replace hpt:=zH hpt
             replace hv0:=zH hv0
             have hlv7:=hvl.out
             have hnb7:=hnb.out
             have hz7:nb<w7.heap.size:=(zG.1 n7).1
             have hfew:(s'++Zo lv9 xs k).length<1073741824:=by
              have h1:=K.out.few b
              have h2:(Zo lv9 xs k).length≤k:=by
               unfold Zo
               split
               ·exact GY
               ·simp
              simp at h1
              rw[List.length_append]
              omega
             replace hlv7:=zH hlv7
             replace hnb7:=zH hnb7
             replace hfew:=zH hfew
             obtain⟨i0,hi,hz0,hz1,hz2⟩:=info_parts Tryz.info_int
             go_wp2_with (at_builtin;refine qZ ?_)
             refine Qy.go (ZM _ rfl (.tmp 89) (.tmp 92) 30 rfl w1.heap.size 3 i0 (.int .i64 0) 1 8 Tryz.underlying30 hi hz0 hz1 hz2 rfl (by decide) _ _ _ rfl o7.out #[.int .i64 (r:Int)] rfl rfl (by simp[Value.oneCell']) hfew.out (by decide) T7.out.off.size ?_)
             intro v8 w8 own8 g8 _ hown8
             have T8:=T7.out.grown g8 fun q hq=>(QR o7.out q hq).1
             have n8:=(g8.block nb hz7 (fun e=>hnb7.out nb e.symm rfl)).trans n7
             have hnb8:∀ q,v8.ownBlock=some q→q≠nb:=by
              intro q hq
              rcases hown8 with e|⟨q',e,e2⟩
              ·exact hnb7.out q (e.symm.trans hq)
              ·rw[e] at hq
               cases hq
               omega
             obtain⟨A8,c8,hv8,-,-⟩:=qv own8
             have hlen8:lenV v8=(s'++Zo lv9 xs (k+1)).length:=by
              rw[hv8,hpt.out]
              simp only[lenV,List.length_append,List.length_cons,List.length_nil]
              omega
             have own9:w8.ownsRow w1.heap.size 3 1 v8 (s'++Zo lv9 xs (k+1)).length (jA (s'++Zo lv9 xs (k+1))):=by
              have hcat:(s'++Zo lv9 xs (k+1)).length=(s'++Zo lv9 xs k).length+1:=by rw[hpt.out,←List.append_assoc,List.length_append,List.length_singleton]
              rw[hcat,hpt.out,←List.append_assoc,kV]
              exact own8
             have IR:IRel p w1 vv s' lv9 xs rf (Js nd b) nb (some ⟨b9',off9,none⟩) c9 v8 (.int .i64 ((k:Int)+1)) w8:=⟨k+1,Js rf' r,ca7,hlt',rfl,hrf1.out,hlen8,own9,hnb8,T8,n8⟩
             replace IR:=zH IR
             clear own8 g8 hown8 hv8 hlen8 own9 hnb8 T8 n8 hi hz0 hz1 hz2
             go_wp2_with fail
             refine⟨IR.out,?_⟩
             simp[intOf]
             omega
         ·have hke:k=xs.length:=by omega
          subst hke
          have KN:=K.out.new hz.out hb2 hnode.out hrf
          have hlen2:lenV _=_:=hvl
          have e1:=XS T.out.row T.out.ar
          have e2:=XS TI.row TI.ar
          have e3:=Xu (M:=vU nd) (a:=b) (decide_eq_false (by have:=hz.out;omega)) 256
          rw[←VD,if_pos hb2] at e3
          have hpl:(Zo lv9 xs xs.length).length≤5:=by
           unfold Zo
           split
           ·exact Nat.le_trans GY hlen
           ·simp
          replace e3:=zH e3
          clear hw2 hw22 hw3
          go_wp2_with fail
          go_roundw
          case rel =>
           exact⟨s'++Zo lv9 xs xs.length,rf',Js nd b,ca',hvl,hown',TI,KN⟩
          case measure =>
           rw[e1,e2,hvl,List.length_append,←hm0.out]
           have e3':=e3.out
           simp only[lenV]
           omega
       ·have hc1:decide (((nd b+1:Nat):Int)>1)=true:=decide_eq_true (by omega)
        have hc2:decide ((nd b:Int)+1>1)=true:=decide_eq_true (by omega)
        replace hz:=zH hz
        go_wp2_with fail
        go_roundw
        case rel =>
         exact⟨s',rf,Js nd b,ca4,hm0.out,by rw[←hm0.out];exact o2.out,T2.out,K.out.again hz.out⟩
        case measure =>
         have e1:=XS T.out.row T.out.ar
         have e2:=XS T2.out.row T2.out.ar
         rw[VE hz.out] at e2
         rw[e1,e2]
         simp[lenV]
def ca0 (s1 s2 s3 s4:Value) (bb mb:Nat):Array Value:=(#[s1,s2,s3,s4,.pointer (some ⟨bb,0,none⟩),.map (some mb)]++Array.replicate 512 (.int .i64 0))++#[.slice none 0 0]
theorem ca_eq (s1 s2 s3 s4:Value) (bb mb:Nat):(((((Tryz.zeroCells84.setIfInBounds 0 s1).setIfInBounds 1 s2).setIfInBounds 2 s3).setIfInBounds 3 s4).setIfInBounds 4 (.pointer (some ⟨bb,0,none⟩))).setIfInBounds 5 (.map (some mb))=ca0 s1 s2 s3 s4 bb mb:=by kernel_rfl
end Go.Proofs.YtpbniokljofedaaGreat
