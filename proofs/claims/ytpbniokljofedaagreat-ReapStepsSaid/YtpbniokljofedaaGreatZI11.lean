/- Texts Vols, Tree, CenB, joined. -/
import Derived.Test.YtpbniokljofedaaGreatZI10
set_option linter.unusedSimpArgs false
set_option linter.unusedVariables false
set_option maxHeartbeats 8000000
open Go.Proofs.Tryz
namespace Go.Proofs.YtpbniokljofedaaGreat
open Go.RowKit
theorem Tryz.info_vol:(Tryz.prog.info? 40).map (fun i=>(i.zero,i.size,i.bytes))=some (some (.agg #[.int .u32 0,.int .i64 0,.bool false,.int .u32 0]),4,24):=zQ
abbrev vol4 (v:Vol):Array Value:=#[.int .u32 v.id,.int .i64 v.root,.bool v.fz,.int .u32 v.frm]
structure VRel (p:CP) (w1:World) (refs nodes:Nat->Nat) (pcs:Array Value) (next:Int) (xP:List Vol) (xs:List It) (h:Nat) (A:Option Addr) (c:Nat) (rU:Value) (w:World) (i:Value) (wr:World):Prop where
 ex:∃ (k:Nat) (vs:List Vol) (vv:Value) (ca:Array Value),k<=xs.length/\i=.int .i64 (k:Int)/\ZG next xP (Qs p.S h (xs.take k))=some vs/\vs.length<=16/\VolI p w1 wr vs vv ca refs nodes/\Ku p rU w wr/\vX rU w.heap.size vv /\
  (∀ q,vv.ownBlock=some q->q≠w.heap.size/\q≠w.heap.size+1)/\wr.heap[w.heap.size]?=some (.cells pcs 32 (0,0))/\wr.heap[w.heap.size+1]?=some (.cells #[.int .i64 h,.slice A xs.length c] 49 (0,0))
set_option maxRecDepth 100000 in
theorem qew (p:CP) (w1:World) (f:Int->Option Value) (refs nodes:Nat->Nat) (s1 s2 s3 s4:Value) (gen root next:Int) (dead:Value) (hC:Cen p w1 f) (h:Nat) (HL:∀ h',h=h'+1->VolsC p w1 f refs nodes s1 s2 s3 s4 gen root next dead h'):VolsC p w1 f refs nodes s1 s2 s3 s4 gen root next dead h:=by
 intro xs A c xP rU ca0 w HI bz oq hlen aG aU nZ;have aP:=Ql HI.own;replace hC:=zH hC;replace HI:=zH HI;replace oq:=zH oq;replace aG:=zH aG;replace aU:=zH aU;replace nZ:=zH nZ;replace aP:=zH aP;replace HL:=zH HL;replace bz:=zH bz;go_enter func85,ntmps85;go_wp2;generalize dA:(World.alloc (World.alloc _ _) _)=w2;have x2:Ext w w2:=by rw[<-dA];exact(zN _ _).trans (zN _ _)
 have q2:w2.heap[w.heap.size]?=some (.cells (qB s1 s2 s3 s4 gen root next dead) 32 (0,0)):=by rw[<-dA];exact(zK _ _ _ zA3).trans (zI _ _ _ rfl)
 have n2:w2.heap[w.heap.size+1]?=some (.cells #[.int .i64 h,.slice A xs.length c] 49 (0,0)):=by rw[<-dA];exact zI _ _ _ zA3
 clear dA;have I0:VRel p w1 refs nodes (qB s1 s2 s3 s4 gen root next dead) next xP xs h A c rU w (.int .i64 0) w2:=by
  refine⟨0,xP,rU,ca0,Nat.zero_le _,rfl,?_,bz.out,HI.out.ext x2,(Ku.refl _ _ _).ext x2,vX.refl _ _,fun q hq=>?_,q2,n2⟩
  ·rw[List.take_zero,Tv];rfl
  ·have:=(aP.out q hq).2;omega
 replace I0:=zH I0;clear x2 q2 n2;go_loopw [15] (fun i wr=>VRel p w1 refs nodes (qB s1 s2 s3 s4 gen root next dead) next xP xs h A c rU w i wr) (fun i _=>xs.length-(intOf i).toNat)
 case atStart=>exact I0.out
 case round =>
  obtain⟨k,vs,vv,ca,hk,rfl,hgo,hvs,V,F,pq,hnq,qr,nr⟩:=hrel.ex;clear I0;by_cases hlt:k<xs.length
  ·have aJ:=hlt;obtain⟨b9,hFX,rfl,hb9⟩:=aG.out.its.at_.2.2.2 zO;obtain⟨A',c',d0,d1,d2,d3,d4,aT⟩:=(V.t.its hC.out aG.out).its.item k aJ;have hxk:=oq.out xs[k] (List.getElem_mem aJ);have HLEAF:Hid (h=0->Qs p.S h (xs.take (k+1))=Qs p.S h (xs.take k)++[xs[k]]):=zH fun e=>by rw[e];exact qfj aJ
   have HNODE:Hid (∀ h' ys lvl,h=h'+1->qv p.S xs[k].r.toNat=some (lvl,ys)->Qs p.S h (xs.take (k+1))=Qs p.S h (xs.take k)++Qs p.S h' ys):=zH fun h' ys lvl e hn=>by rw[e];exact qfk aJ hn
   have HONE:=zH (JO aU.out xs[k] (List.getElem_mem aJ));have HKN:=zH (fun h0=>nZ.out h0 xs[k] (List.getElem_mem aJ));have HBAD:=zH (fun hb=>@qfT p.S h xs (k+1) next xP aJ hb);generalize xs[k]=x at *;have kn:=qa nr;replace V:=zH V;replace F:=zH F;replace pq:=zH pq;replace hnq:=zH hnq;replace hgo:=zH hgo;replace aT:=zH aT;replace hxk:=zH hxk;have hz:w.heap.size+1<wr.heap.size:=(zG.1 nr).1;replace hvs:=zH hvs;rcases Nat.eq_zero_or_pos h with hh|hh
   ·have hd:decide ((h:Int)>0)=false:=decide_eq_false zO;have hd3:¬0<h:=zO;replace hh:=zH hh;go_wp2_with fail;generalize aO:World.alloc wr _=w3;have x3:Ext wr w3:=by rw[<-aO];exact zN _ _
    clear aO d0 d1 d2 d3 d4;refine(qfU x hxk.out A' c' w3 ((aT.out.below x3).more x3.size)).mono ?_;rintro e w4 ⟨u,rfl,⟨v',rfl,yL⟩,hB⟩;have x4:=x3.trans hB;clear hB x3;have dM:ZG next xP (Qs p.S h (xs.take (k+1)))=if Vn next x=true/\vs.length≠16 then some (vs++[Kr x]) else none:=by rw[HLEAF.out hh.out,JB,hgo.out];rfl
    have HB8:Hid (¬(Vn next x=true/\vs.length≠16)->∀ W,Ext wr W->VolsQ p w1 refs nodes next xP (Qs p.S h xs) rU w (.returned (.int .i64 8)) W):=zH fun hb W hx =>
     ⟨F.out.ext hx,by rw[HBAD.out (by rw[dM,if_neg hb])]⟩
    have V4:=V.out.ext x4;obtain⟨AV,cV,rfl,-,-⟩:=qy V4.own;have kc:w4.cell? ⟨p.cb,518,none⟩=some (.slice AV vs.length cV):=by rw[qa V4.t.row];exact V4.t.ar.vol
    have kq4:=qa (qb qr x4);have hcb4:p.cb<w4.heap.size:=(zG.1 V4.t.row).1;have hqz4:w.heap.size<w4.heap.size:=by have:=x4.size;omega
    replace dM:=zH dM;rcases hiv:TZ x with _|_
    ·have HB:=HB8.out (fun hh=>by have:=hh.1;unfold Vn at this;rw[hiv] at this;cases this);replace HB:=zH HB;replace hiv:=zH hiv;clear kc kq4 V4;go_wp2_with fail;go_ret;exact HB.out _ (x4.trans (zN _ _))
    ·have hve:=yL hiv;have hid:v'.id=x.i:=by rw[hve];rfl
     have fG:Vn next x=(decide (x.i≠0) && decide (x.i<next)):=by unfold Vn;rw[hiv,Bool.true_and]
     replace hiv:=zH hiv;replace hve:=zH hve;rcases Int.decEq v'.id 0 with nH|nH
     ·rcases Int.decLt v'.id next with yT|yT
      ·have HB:=HB8.out (fun hh=>by have:=hh.1;rw[fG] at this;simp at this;omega);have hg1:decide (v'.id≥next)=true:=decide_eq_true zO;replace HB:=zH HB;replace hid:=zH hid;replace fG:=zH fG;clear yT yL V4;go_wp2_with fail;go_ret;exact HB.out _ (x4.trans (zN _ _))
      ·have hg1:decide (v'.id≥next)=false:=decide_eq_false zO;have hg2:decide (next<=v'.id)=false:=decide_eq_false zO;rcases Nat.decEq vs.length 16 with wQ|wQ
       ·have hf1:((vs.length:Int) == 16)=false:=by rw[beq_eq_false_iff_ne];omega
        have hok:Vn next x=true:=by rw[fG];simp;omega
        replace hok:=zH hok;replace hid:=zH hid;replace fG:=zH fG;replace V4:=zH V4;clear yT yL;have h16':=zH wQ;go_wp2_with fail;generalize aK:World.alloc w4 _=w5;have af:Ext w4 w5:=by rw[<-aK];exact zN _ _
        have r5:w5.heap[w4.heap.size]?=some (.cells (vol4 v') 40 (0,0)):=by rw[<-aK];exact zI _ _ _ rfl
        clear aK kc kq4 wQ hf1 hg1 hg2 nH;have x5:=x4.trans af;have V5:=V4.out.ext af;have q5:=qb qr x5;have nr5:=qb nr x5;have hol:=Ql V5.own;have hDX:=V5.t.lt;have hbase5:=V5.t.off.size;have hvs5:=hvs.out;have hn4:(Value.slice AV vs.length cV).ownBlock≠some w4.heap.size:=fun e=>by have:=(Ql V4.out.own _ e).2;omega
        have fP:(Value.slice AV vs.length cV).ownBlock≠some p.cb:=fun e=>by have:=(hol _ e).1;omega
        obtain⟨RR,ak⟩:∃ RR:Rel,RR=Vr w1.heap.size 40 4 w5.heap.size (.slice AV vs.length cV) vs.length (ZB vs) (vs.length+1) (ZB vs++(vol4 v').toList):=⟨_,rfl⟩
        replace ak:=zH ak;have gV:∀ W,RR.r w5 W->W.cell? ⟨p.cb,518,none⟩=some (.slice AV vs.length cV):=fun W h=>ji (ak.out ▸ h) fP (by rw[qa V5.t.row];exact V5.t.ar.vol);have gv:∀ W,RR.r w5 W->∀ i,W.cell? ⟨w4.heap.size,i,none⟩=(vol4 v')[i]?:=fun W h=>qa (vF (ak.out ▸ h) hn4 r5);refine qm zQ ?_;refine qL (w:=w5) RR (qD [(6,jm w5.heap.size 1 40 (vol4 v')),(7,XS w1.heap.size 40 4 w5.heap.size (.slice AV vs.length cV) (vs.length+1) (ZB vs++(vol4 v').toList))])
         [true,true,true,true,true,true,true,true] 3 zQ zQ zQ zQ zQ zQ zQ ?st (Rel.drew _ _) ?walk
        case st=>rw[ak.out];exact qj (by simp only[List.forall_mem_cons];exact⟨KS (fun g hg=>by have:=hol g hg;omega),UE,fun _ h=>by cases h⟩)
        case walk =>
         intro K hK;dsimp only[qp];repeat ((first|(refine qd ?_ zA0 zA0 (fun W hW _=>⟨W,?_,Rel.refl _ W⟩) ?_;rotate_left;(go_simp<;>with_reducible rfl))|(refine qh zA0 ?_));try simp only[Act.put,ql,qf,qc,qg,qc,qO,jN,zA,zB,zC])
         refine qw (jm w5.heap.size 1 40 (vol4 v')) zA0 zA0 (fun W hW _=>?_) (fun (pb:Nat)=>?_)
         ·rw[ak.out] at hW ⊢;refine TX ?_ hW.1.size;go_simp
         simp only[Act.put,qf,qc,qg,qc,qO,jN,zA,zB,zC];refine qw (XS w1.heap.size 40 4 w5.heap.size (.slice AV vs.length cV) (vs.length+1) (ZB vs++(vol4 v').toList)) zA0 zA0 (fun W hW hp=>?_) (fun (p7:Option Addr×Nat)=>?_)
         ·rw[ak.out] at hW ⊢;obtain⟨i0,hi,aY,aV,aX⟩:=info_parts Tryz.info_vol;obtain⟨dO,_⟩:=(hp 6 zA1).1;obtain⟨v2,w',au,hD,hR'⟩:=Kp (P:=prog) (lo:=w5.heap.size) W 35 35 i0 _ 24 underlying35 hi aY aV aX rfl zA1 (hW.2.1 V5.own) ⟨pb,0,none⟩ 1 1 (vol4 v').toList rfl (qeh dO) zA8 zO zA1 (by have:=hW.1.size;omega) hW.1.size;obtain⟨A2,c2,rfl,_,_⟩:=qy hD.1;refine ZW (u:=.slice A2 (vs.length+1) c2) (w':=w') ?_ ⟨(A2,c2),rfl,hD,hR'⟩;exact TV (s:=.tmp 67) (x:=.tmp 69) rfl rfl rfl au
         obtain⟨A2,c2⟩:=p7;simp only[Act.put,qf,qc,qg,qc,qO,jN,zA,zB,zC];repeat ((first|(refine qd ?_ zA0 zA0 (fun W hW _=>⟨W,?_,Rel.refl _ W⟩) ?_;rotate_left;(go_simp<;>with_reducible rfl))|(refine qh zA0 ?_));try simp only[Act.put,ql,qf,qc,qg,qc,qO,jN,zA,zB,zC])
         refine qt (hK _ _ fun W hW hF=>?_);have hD:=(hF 7).1;clear hF hK gV gv;rw[ak.out] at hW;change Done _ _ _ _ _ _ _ _ W at hD;refine zB5 ?_;have TW:=V5.t.grown hW.1 (fun q hq=>(hol q hq).1);have T6:=TW.setVol (.slice A2 (vs.length+1) c2);have own6:=Vh hD.1 (p:=⟨p.cb,518,none⟩) hDX (.slice A2 (vs.length+1) c2);have hcw:p.cb<w.heap.size:=Nat.lt_of_lt_of_le hDX HI.out.t.off.size;have q6:(W.setCell ⟨p.cb,518,none⟩ (.slice A2 (vs.length+1) c2)).heap[w.heap.size]?=_:=(zJ _ _ _ _ (by show w.heap.size≠p.cb;omega)).trans (vF hW (fun e=>(hnq.out _ e).1 rfl) q5);have n6:(W.setCell ⟨p.cb,518,none⟩ (.slice A2 (vs.length+1) c2)).heap[w.heap.size+1]?=_:=(zJ _ _ _ _ (by show w.heap.size+1≠p.cb;omega)).trans (vF hW (fun e=>(hnq.out _ e).2 rfl) nr5);have F6:=((F.out.ext x5).grown pq.out hW.1).setC (i:=518) (u:=.slice A2 (vs.length+1) c2);have N6:vX rU w.heap.size (.slice A2 (vs.length+1) c2):=vX.trans pq.out (n':=w5.heap.size) hD.2 (by have:=F.out.size;have:=x5.size;omega);have B6:∀ q,(Value.slice A2 (vs.length+1) c2).ownBlock=some q->q≠w.heap.size/\q≠w.heap.size+1:=by
          intro q hq;rcases hD.2 with e|⟨g,e,e2⟩
          ·exact hnq.out q (e ▸ hq)
          ·rw[e] at hq;cases hq;have:=x5.size;omega
         have kc:=qa TW.row;have kv:=TW.ar.vol;have fc:=qe TW.row;have IR:VRel p w1 refs nodes (qB s1 s2 s3 s4 gen root next dead) next xP xs h (some ⟨b9,hFX,none⟩) c rU w (.int .i64 ((k:Int)+1)) (W.setCell ⟨p.cb,518,none⟩ (.slice A2 (vs.length+1) c2)):=by
          refine⟨k+1,vs++[v'],_,_,aJ,rfl,?_,?_,⟨T6,?_⟩,F6,N6,B6,q6,n6⟩
          ·rw[dM.out,if_pos ⟨hok.out,h16'.out⟩,hve.out]
          ·rw[List.length_append,List.length_singleton];have:=h16'.out;omega
          ·rw[List.length_append,List.length_singleton,qde];exact own6
         replace IR:=zH IR;clear T6 own6 q6 n6 F6 N6 B6 hW hD q5 nr5 V5 r5 x5 x4 af;replace TW:=zH TW;go_wp2;refine Qm ?_;go_wp2_with fail;refine⟨IR.out,?_⟩;simp[intOf];omega
       ·have hf1:((vs.length:Int) == 16)=true:=by rw[beq_iff_eq];omega
        have HB:=HB8.out (fun hh=>hh.2 wQ);replace HB:=zH HB;replace hid:=zH hid;replace fG:=zH fG;replace wQ:=zH wQ;clear yT yL V4;go_wp2_with fail;go_ret;exact HB.out _ (x4.trans (zN _ _))
     ·have HB:=HB8.out (fun hh=>by have:=hh.1;rw[fG] at this;simp at this;omega);replace HB:=zH HB;replace hid:=zH hid;replace fG:=zH fG;clear yL V4 kc kq4;go_wp2_with fail;go_ret;exact HB.out _ (x4.trans (zN _ _))
   ·have hd:decide ((h:Int)>0)=true:=decide_eq_true zO;have hd2:decide (0<h)=true:=decide_eq_true hh;replace hh:=zH hh;obtain⟨h',yS⟩:∃ h',h=h'+1:=⟨h-1,by have:=hh.out;omega⟩
    obtain⟨b,nP,bD,bI,ys,hnode,hsy⟩:=Jb (yS ▸ HONE.out);obtain⟨v9,hv9⟩:=Option.isSome_iff_exists.1 (HKN.out hh.out);obtain⟨n9,iR,ys',A9,c9,f9,l9,b9',e9,-,-,hn9,rfl,mM,yJ,xq⟩:=hC.out.known _ _ hv9;obtain rfl:b=n9:=zO;rw[hnode,Option.some.injEq,Prod.mk.injEq] at hn9;obtain⟨e1,rfl⟩:=hn9;obtain rfl:h'=iR:=zO;have hMAP:=hC.out.map;have hmay:=(Qc hnode).1;have yZ:=fun y hy=>((Qc hnode).2.1 y hy).1;have hSY:ys.length<=5:=by unfold Qe jv at hmay;simp at hmay;omega
    have hyk:0<h'->∀ y∈ys,(f y.r).isSome=true:=fun h0=>xq (by rw[yJ.1];exact hsy) h0;have HN2:=HNODE.out h' ys h' yS (by rw[nP,Int.toNat_natCast];exact hnode);have HCALL:=HL.out h' yS ys A9 c9 vs vv ca;rw[nP] at d3 hv9;have ui:=qgj;replace yS:=zH yS;replace nP:=zH nP;replace hnode:=zH hnode;replace hsy:=zH hsy;replace mM:=zH mM;replace yZ:=zH yZ;replace hyk:=zH hyk;replace HN2:=zH HN2;replace HCALL:=zH HCALL;replace hv9:=zH hv9;clear yJ xq hmay e9 e1;replace hMAP:=zH hMAP;go_wp2_with fail;generalize aO:World.alloc wr _=w3;have x3:Ext wr w3:=by rw[<-aO];exact zN _ _
    have r3:w3.heap[wr.heap.size]?=some (.cells #[.int .u8 x.k,.int .u32 x.i,.int .u32 x.o,.int .i64 b,.slice A' x.val.length c'] 68 (0,0)):=by rw[<-aO];exact zI _ _ _ rfl
    clear aO d0 d1 d2 d3 d4;have V3:=V.out.ext x3;have C3:=V3.t.cen hC.out;have gP:∀ W,qk.r w3 W->∀ i,W.cell? ⟨w.heap.size,i,none⟩=(qB s1 s2 s3 s4 gen root next dead)[i]?:=fun W h=>qa (qb (qb qr x3) h);have gX:∀ W,qk.r w3 W->∀ i,W.cell? ⟨wr.heap.size,i,none⟩=#[.int .u8 x.k,.int .u32 x.i,.int .u32 x.o,.int .i64 b,.slice A' x.val.length c'][i]?:=fun W h=>qa (qb r3 h);have gM:∀ W,qk.r w3 W->W.cell? ⟨p.cb,5,none⟩=some (.map (some p.mb)):=fun W h=>by rw[qa (qb C3.row h)];exact C3.c5
    refine qm zQ ?_;refine qL (w:=w3) qk (qD []) [true,true,true,true,true,true,true,true,true,true] 2 zQ zQ zQ zQ zQ zQ zQ ?st2 (Rel.drew _ _) ?hUT
    case st2=>exact qj (fun _ h=>by cases h)
    case hUT =>
     intro K hK;dsimp only[qp];repeat ((first|(refine qd ?_ zA0 zA0 (fun W hW _=>⟨W,?_,Rel.refl _ W⟩) ?_;rotate_left;(go_simp<;>with_reducible rfl))|(refine qh zA0 ?_));try simp only[Act.put,ql,qf,qc,qg,qc,qO,jN,zA,zB,zC])
     refine qd (ZV h' A9 ys.length c9 f9 l9 b9') zA0 zA0 (fun W hW _=>⟨W,?_,Rel.refl _ W⟩) ?_
     ·have iW:Ext w3 W:=hW;have hm:=Ya (P:=prog) W (C3.ext iW).map 81 3 135 underlying81 underlying3 hv9.out;go_simp
     simp only[Act.put,qf,qc,qg,qc,qO,jN,zA,zB,zC];repeat ((first|(refine qd ?_ zA0 zA0 (fun W hW _=>⟨W,?_,Rel.refl _ W⟩) ?_;rotate_left;(go_simp<;>with_reducible rfl))|(refine qh zA0 ?_));try simp only[Act.put,ql,qf,qc,qg,qc,qO,jN,zA,zB,zC])
     refine qt (hK _ _ fun W hW hF=>?_);have iW:Ext w3 W:=hW;have x4:=x3.trans iW;clear hF hK gP gX gM ui;refine zB5 ?_;have VW:=V.out.ext x4;have qW:=qb qr x4;have nW:=qb nr x4;clear hW iW x3 r3 V3 C3;replace VW:=zH VW;go_wp2_with fail;refine(HCALL.out W VW.out hvs.out yZ.out hSY mM.out hsy.out hyk.out).mono ?_;rintro e w6 ⟨F6,hm⟩;have dM:ZG next xP (Qs p.S h (xs.take (k+1)))=ZG next vs (Qs p.S h' ys):=by rw[HN2.out,JB,hgo.out];rfl
     have FW:=(F.out.ext x4).trans F6 pq.out;have hcw:p.cb<w.heap.size:=Nat.lt_of_lt_of_le V.out.t.lt HI.out.t.off.size;have hzW:w.heap.size+1<W.heap.size:=(zG.1 nW).1;have q6:=(F6.block w.heap.size zO zO (fun e=>(hnq.out _ e).1 rfl)).trans qW;have n6:=(F6.block (w.heap.size+1) zO zO (fun e=>(hnq.out _ e).2 rfl)).trans nW;rcases hg6:ZG next vs (Qs p.S h' ys) with _|vs'
     ·rw[hg6] at hm dM;obtain rfl:e=.returned (.int .i64 8):=hm;have HB:VolsQ p w1 refs nodes next xP (Qs p.S h xs) rU w (.returned (.int .i64 8)) w6:=⟨FW,by rw[HBAD.out dM]⟩
      replace HB:=zH HB;clear q6 n6 FW F6 dM x4 qW nW;go_wp2_with fail;refine Qm ?_;go_wp2_with fail;go_ret;exact HB.out
     ·rw[hg6] at hm dM;obtain⟨rfl,uH,ca',V6,N6⟩:=hm;have IR:VRel p w1 refs nodes (qB s1 s2 s3 s4 gen root next dead) next xP xs h (some ⟨b9,hFX,none⟩) c rU w (.int .i64 ((k:Int)+1)) w6:=by
       refine⟨k+1,vs',uH,ca',aJ,rfl,dM,vV next _ _ _ hvs.out hg6,V6,FW,vX.trans pq.out N6 zO,fun q hq=>?_,q6,n6⟩;rcases N6 with e|⟨g,e,e2⟩
       ·exact hnq.out q (e ▸ hq)
       ·rw[e] at hq;cases hq;omega
      replace IR:=zH IR;clear q6 n6 FW F6 dM x4 qW nW V6 N6;go_wp2_with fail;refine Qm ?_;go_wp2_with fail;refine⟨IR.out,?_⟩;simp[intOf];omega
  ·have lX:k=xs.length:=zO;have HQ:VolsQ p w1 refs nodes next xP (Qs p.S h xs) rU w (.returned (.int .i64 0)) wr:=by rw[lX,List.take_length] at hgo;exact⟨F,by rw[hgo];exact⟨rfl,vv,ca,V,pq⟩⟩
   replace HQ:=zH HQ;replace V:=zH V;replace F:=zH F;replace pq:=zH pq;replace hnq:=zH hnq;replace hgo:=zH hgo;replace lX:=zH lX;clear qr nr;go_wp2;go_ret;exact HQ.out
def TreeQ (p:CP) (R:List Nat) (r:Int) (vv:Value) (w:World) (f:Int->Option Value) (e:Ending) (w':World):Prop:=
 e=.returned (.int .i64 (if okL p.S (-1) r=true then 0 else 8))/\w'.os=w.os/\w'.tape=w.tape/\w'.output=w.output/\w.heap.size<=w'.heap.size/\(∀ k,k<w.heap.size->k≠p.cb->k≠p.mb->w'.heap[k]?=w.heap[k]?) /\
  (okL p.S (-1) r=true->∃ ca g refs nodes,Cen (p.put ca) w' g/\Jf f g/\Ar ca refs nodes vv/\Qr p.S (R++[r.toNat]) refs nodes/\To p.S g (R++[r.toNat]))
theorem Tryz.info_int:(Tryz.prog.info? 3).map (fun i=>(i.zero,i.size,i.bytes))=some (some (.int .i64 0),1,8):=zQ
structure TRel (p:CP) (w1:World) (vv:Value) (R:List Nat) (v:Value) (wr:World):Prop where
 ex:∃ (s:List Nat) (rf nd:Nat->Nat) (ca:Array Value),lenV v=s.length/\wr.ownsRow w1.heap.size 3 1 v s.length (JX s)/\TrI p w1.heap.size w1 wr vv ca rf nd/\Wk p.S R rf nd s
structure IRel (p:CP) (w1:World) (vv:Value) (s':List Nat) (iR:Nat) (xs:List It) (rf nd':Nat->Nat) (nb:Nat) (A9:Option Addr) (c9:Nat) (v i:Value) (wq:World):Prop where
 ex:∃ (k:Nat) (pG:Nat->Nat) (ca':Array Value),k<=xs.length/\i=.int .i64 (k:Int)/\(∀ x,pG x=rf x+(VA xs k).count x)/\lenV v=(s'++Zm iR xs k).length /\
  wq.ownsRow w1.heap.size 3 1 v (s'++Zm iR xs k).length (JX (s'++Zm iR xs k))/\(∀ q,v.ownBlock=some q->q≠nb)/\TrI p w1.heap.size w1 wq vv ca' pG nd' /\
  wq.heap[nb]?=some (.cells #[.int .i64 iR,.slice A9 xs.length c9] 49 (0,0))
set_option maxRecDepth 100000 in
theorem tree_any (p:CP) (R:List Nat) (hRl:R.length<=100) (r:Int) (w:World) (f:Int->Option Value) (refs nodes:Nat->Nat) (vv:Value) (hC:Cen p w f) (hA:Ar p.ca refs nodes vv) (hN:Qr p.S R refs nodes) (hR:To p.S f R):Calls prog 86 #[.pointer (some ⟨p.cb,0,none⟩),.int .i64 r] w (TreeQ p R r vv w f):=by
 replace hC:=zH hC;replace hA:=zH hA;replace hN:=zH hN;replace hR:=zH hR;have hfi:=field_is;have ui:=qgj;go_enter func86,ntmps86;go_wp2_with fail;refine(Gp p r w f hC.out).mono ?_;rintro e w1 ⟨v,g,rfl,⟨lvl,A,n,c,fk,lk,rfl,bZ⟩,bP,hm,hg,hn⟩;have C1:=hC.out.after bP hm hg hn;rcases hok:okL p.S (-1) r with _|_
 ·have HQ:TreeQ p R r vv w f (.returned (.int .i64 8)) w1:=⟨by rw[hok];rfl,hg.os,hg.tape,hg.output,hg.size,fun k h1 _ h2=>hg.block k h1 zA2,fun h=>by rw[hok] at h;cases h⟩
  replace HQ:=zH HQ;replace C1:=zH C1;clear bZ bP hm hg hn;go_wp2;go_ret;exact HQ.out
 ·obtain⟨a,rfl,mf⟩:=VU hok;have hga:=bZ hok;have bK:a<256:=mf.2.1;have kc:=qa C1.row;have fc:=qe C1.row;have kr:=hA.out.ref a bK;replace C1:=zH C1;replace mf:=zH mf;replace hga:=zH hga;clear bZ;have aA:wrap64 ((refs a:Int)+1)=(refs a:Int)+1:=IntWalk.wrap64_in _ (by have:=qec (jy.walk.1 hN.out.mkd) a;omega);have T1:TrI p w1.heap.size w1 w1 vv p.ca refs nodes:=⟨Off.refl (zM _),C1.out.row,hA.out,fun _ _=>rfl,(zG.1 C1.out.row).1⟩
  have Rk:To p.S g (R++[a]):=fun b hb=>by
   rcases List.mem_append.1 hb with hb|hb
   ·exact⟨(hR.out b hb).1,bP.some_ _ (hR.out b hb).2⟩
   ·rw[List.mem_singleton.1 hb];exact⟨mf.out,by rw[hga.out];rfl⟩
  replace Rk:=zH Rk;go_wp2_with fail;have gR:∀ W,qk.r w1 W->W.cell? ⟨p.cb,6+a,none⟩=some (.int .i64 (refs a:Int)):=fun W h=>by rw[qa (qb C1.out.row h)];exact kr
  refine qm zQ ?_;refine zu 0 10 (.pointer (some ⟨p.cb,0,none⟩)) zQ (by simp only[List.getElem?_toArray,List.getElem?_cons_zero];exact rfl) zQ zQ zQ zA0 (fun W=>?_) ?_
  ·go_simp
  simp only[Act.put,qf,qc,qg,qc,zA,zB,zC];refine zu 7 9 (.pointer (some ⟨p.cb,0,none⟩)) zQ zA6 zQ zQ zQ zA0 (fun W=>?_) ?_
  ·go_simp
  simp only[Act.put,qf,qc,qg,qc,zA,zB,zC];refine zu 8 8 (.pointer (some ⟨p.cb,6,none⟩)) zQ zA6 zQ zQ zQ zA0 (fun W=>?_) ?_
  ·go_simp
  simp only[Act.put,qf,qc,qg,qc,zA,zB,zC];refine Zo (w:=w1) qk (qD []) [false,true,true,true,true,true,true,false,false,true] 1 zQ zQ zQ zQ zQ zQ ?st (Rel.drew _ _) ?walk
  case st=>exact qj (fun _ h=>by cases h)
  case walk =>
   intro K hK;dsimp only[qp];repeat ((first|(refine qd ?_ zA0 zA0 (fun W hW _=>⟨W,?_,Rel.refl _ W⟩) ?_;rotate_left;(go_simp<;>with_reducible rfl))|(refine qh zA0 ?_));try simp only[Act.put,ql,qf,qc,qg,qc,zA,zB,zC])
   first
    |(refine qd (.pointer (some ⟨p.cb,6+a,none⟩)) zA0 zA0 (fun W hW _=>⟨W,?_,Rel.refl _ W⟩) ?_
      ·go_simp;intro iD;exfalso;omega
      simp only[Act.put,qf,qc,qg,qc,zA,zB,zC])
    |skip
   repeat ((first|(refine qd ?_ zA0 zA0 (fun W hW _=>⟨W,?_,Rel.refl _ W⟩) ?_;rotate_left;(go_simp<;>with_reducible rfl))|(refine qh zA0 ?_));try simp only[Act.put,ql,qf,qc,qg,qc,zA,zB,zC])
   first
    |(refine qd (.pointer (some ⟨p.cb,6+a,none⟩)) zA0 zA0 (fun W hW _=>⟨W,?_,Rel.refl _ W⟩) ?_
      ·go_simp;intro iD;exfalso;omega
      simp only[Act.put,qf,qc,qg,qc,zA,zB,zC])
    |skip
   repeat ((first|(refine qd ?_ zA0 zA0 (fun W hW _=>⟨W,?_,Rel.refl _ W⟩) ?_;rotate_left;(go_simp<;>with_reducible rfl))|(refine qh zA0 ?_));try simp only[Act.put,ql,qf,qc,qg,qc,zA,zB,zC])
   refine qt (hK _ _ fun W hW hF=>?_);have ay:Ext w1 W:=hW;clear hF hK gR kc fc kr;refine zB5 ?_;have T2:=(T1.ext ay).addRef bK;have rc:=qb C1.out.row ay;have kc:=qa rc;have fc:=qe rc;have kr:=hA.out.ref a bK;go_wp2;refine Qm ?_;go_wp2_with fail;generalize aO:World.alloc _ _=w3;have T3:TrI p w1.heap.size w1 w3 vv _ (Jl refs a) nodes:=T2.ext (by rw[<-aO];exact zN _ _);have o3:w3.ownsRow w1.heap.size 3 1 (.slice (some ⟨W.heap.size,0,none⟩) 1 1) 1 (JX [a]):=by have h:=World.ownsRow_lit (base:=w1.heap.size) (e:=3) (size:=1) (W.setCell ⟨p.cb,6+a,none⟩ (.int .i64 ((refs a:Int)+1))) #[.int .i64 (a:Int)] 1 (by simpa using ay.size) zA7 rfl;rw[<-aO];have hz:(W.setCell ⟨p.cb,6+a,none⟩ (.int .i64 ((refs a:Int)+1))).heap.size=W.heap.size:=zA3;rw[hz] at h;exact h
   have K3:=hN.out.start a;generalize (p.ca.setIfInBounds (6+a) _)=ca3 at T3;clear aO kc fc kr rc T2 ay T1 hN hA aA;generalize W.heap.size=g3 at *;replace T3:=zH T3;replace o3:=zH o3;replace K3:=zH K3;go_loopw [5] (fun v wr=>TRel p w1 vv (R++[a]) v wr) (fun v wr=>6*leftW wr p.cb+lenV v)
   case atStart=>exact⟨[a],_,_,_,rfl,o3.out,T3.out,K3.out⟩
   case round =>
    obtain⟨s,rf,nd,ca,hsl,aB,T,K⟩:=hrel.ex;clear T3 o3 K3;rcases List.eq_nil_or_concat s with rfl|⟨s',b,rfl⟩
    ·obtain⟨A,c',rfl,-,-⟩:=qy aB;have hd:Qr p.S (R++[a]) rf nd:=K.done;have HQ:TreeQ p R (a:Int) vv w f (.returned (.int .i64 0)) wr:=by
      refine⟨by rw[hok];rfl,?_,?_,?_,?_,?_,fun _=>⟨ca,g,rf,nd,T.cen C1.out,bP,T.ar,?_,?_⟩⟩
      ·exact T.off.os.trans hg.os
      ·exact T.off.tape.trans hg.tape
      ·exact T.off.output.trans hg.output
      ·exact Nat.le_trans hg.size T.off.size
      ·intro k h1 h2 h3;exact(T.off.block k (Nat.lt_of_lt_of_le h1 hg.size) h2).trans (hg.block k h1 zA2)
      ·simpa using hd
      ·simpa using Rk.out
     replace HQ:=zH HQ;replace T:=zH T;replace K:=zH K;replace hd:=zH hd;clear aB hsl bP hm hg hn;go_wp2;go_ret;exact HQ.out
    ·rw[List.concat_eq_append] at *;obtain⟨m,hm0⟩:∃ m,m=s'.length:=⟨_,rfl⟩
     rw[List.length_append,List.length_singleton,<-hm0] at aB;rw[Xh] at aB;rcases aB.2 with ⟨h0,-⟩|⟨gb,cap,cur,rfl,rY,aC,fP,eG,bV,nN⟩
     ·exfalso;have:=aB.1;simp[Yk] at this;rw[h0] at hsl;simp[lenV] at hsl
     ·obtain⟨gb',off',e0,hgb',aS⟩:=(Rd.of_own aB).2 zO;simp only[Option.some.injEq,Addr.mk.injEq,and_true] at e0;obtain⟨rfl,rfl⟩:=e0;have kb:=aS m (.int .i64 (b:Int)) (by rw[List.getElem?_append_right (by rw[Yk];omega),Yk,<-hm0];simp);rw[Nat.zero_add] at kb;clear aS;have hBM:=Xm (xs:=JX s') (news:=[.int .i64 (b:Int)]) (n:=m) (m:=1) aB (by rw[Yk,hm0];omega);obtain⟨pR,lI⟩:=Rk.out.reach C1.out.known (K.wk.stk b (List.mem_append_right _ (List.mem_singleton.2 rfl)));have bI:=pR.2.1;have dA:wrap64 ((m:Int)+1-1)=(m:Int):=by rw[IntWalk.wrap64_in _ (by unfold maxLen at eG;omega)];omega
      have hw22:wrap64 (m:Int)=(m:Int):=IntWalk.wrap64_in _ (by unfold maxLen at eG;omega);replace aB:=zH aB;replace hBM:=zH hBM;replace T:=zH T;replace K:=zH K;replace pR:=zH pR;replace lI:=zH lI;replace hm0:=zH hm0;replace hsl:=zH hsl;have hmc:m<=cap:=Nat.le_of_succ_le fP;have hcap:¬cap=0:=fun e=>by rw[e] at fP;exact absurd fP (Nat.not_succ_le_zero _)
      clear aC;clear nN bV bP hm hg hn rY eG fP;have kn0:=T.out.ar.node b bI;have aO:wrap64 ((nd b:Int)+1)=(nd b:Int)+1:=IntWalk.wrap64_in _ (by have:=K.out.few b;simp at this;omega);go_wp2_with fail;have gN:∀ W,qk.r wr W->W.cell? ⟨p.cb,262+b,none⟩=some (.int .i64 (nd b:Int)):=fun W h=>by rw[qa (qb T.out.row h)];exact kn0
      refine qm zQ ?_;refine zu 0 10 (.pointer (some ⟨p.cb,0,none⟩)) zQ (by simp only[List.getElem?_toArray,List.getElem?_cons_zero];exact rfl) zQ zQ zQ zA0 (fun W=>?_) ?_
      ·go_simp
      simp only[Act.put,qf,qc,qg,qc,zA,zB,zC];refine zu 2 9 (.pointer (some ⟨p.cb,0,none⟩)) zQ zA6 zQ zQ zQ zA0 (fun W=>?_) ?_
      ·go_simp
      simp only[Act.put,qf,qc,qg,qc,zA,zB,zC];refine zu 7 8 (.pointer (some ⟨p.cb,0,none⟩)) zQ zA6 zQ zQ zQ zA0 (fun W=>?_) ?_
      ·go_simp
      simp only[Act.put,qf,qc,qg,qc,zA,zB,zC];refine zu 8 7 (.pointer (some ⟨p.cb,262,none⟩)) zQ zA6 zQ zQ zQ zA0 (fun W=>?_) ?_
      ·go_simp
      simp only[Act.put,qf,qc,qg,qc,zA,zB,zC];refine Zo (w:=wr) qk (qD []) [false,true,false,true,true,true,true,false,false,true] 1 zQ zQ zQ zQ zQ zQ ?st (Rel.drew _ _) ?walk
      case st=>exact qj (fun _ h=>by cases h)
      case walk =>
       intro K' hK';dsimp only[qp];repeat ((first|(refine qd ?_ zA0 zA0 (fun W hW _=>⟨W,?_,Rel.refl _ W⟩) ?_;rotate_left;(go_simp<;>with_reducible rfl))|(refine qh zA0 ?_));try simp only[Act.put,ql,qf,qc,qg,qc,zA,zB,zC])
       first
        |(refine qd (.pointer (some ⟨p.cb,262+b,none⟩)) zA0 zA0 (fun W hW _=>⟨W,?_,Rel.refl _ W⟩) ?_
          ·go_simp;intro iD;exfalso;omega
          simp only[Act.put,qf,qc,qg,qc,zA,zB,zC])
        |skip
       repeat ((first|(refine qd ?_ zA0 zA0 (fun W hW _=>⟨W,?_,Rel.refl _ W⟩) ?_;rotate_left;(go_simp<;>with_reducible rfl))|(refine qh zA0 ?_));try simp only[Act.put,ql,qf,qc,qg,qc,zA,zB,zC])
       first
        |(refine qd (.pointer (some ⟨p.cb,262+b,none⟩)) zA0 zA0 (fun W hW _=>⟨W,?_,Rel.refl _ W⟩) ?_
          ·go_simp;intro iD;exfalso;omega
          simp only[Act.put,qf,qc,qg,qc,zA,zB,zC])
        |skip
       repeat ((first|(refine qd ?_ zA0 zA0 (fun W hW _=>⟨W,?_,Rel.refl _ W⟩) ?_;rotate_left;(go_simp<;>with_reducible rfl))|(refine qh zA0 ?_));try simp only[Act.put,ql,qf,qc,qg,qc,zA,zB,zC])
       refine qt (hK' _ _ fun W hW hF=>?_);have iW:Ext wr W:=hW;clear hF hK' gN;refine zB5 ?_;have T2:=(T.out.ext iW).addNode bI;have rc:=qb T.out.row iW;have kc:=qa rc;have fc:=qe rc;have o2:(W.setCell ⟨p.cb,262+b,none⟩ (.int .i64 ((nd b:Int)+1))).ownsRow w1.heap.size 3 1 (.slice (some ⟨gb,0,none⟩) m cap) m (JX s'):=Vh (QM hBM.out iW) (p:=⟨p.cb,262+b,none⟩) T.out.lt _;generalize (ca.setIfInBounds (262+b) _)=ca4 at T2;replace rc:=zH rc;go_wp2;refine Qm ?_;rw[aO];generalize hw4:W.setCell ⟨p.cb,262+b,none⟩ (.int .i64 ((nd b:Int)+1))=w4 at *;clear hw4 kc fc rc iW;replace T2:=zH T2;replace o2:=zH o2;have kc:=qa T2.out.row;have kn2:=T2.out.ar.node b bI;have hbb:Jl nd b b=nd b+1:=by unfold Jl;rw[if_pos rfl]
       rw[hbb] at kn2;have kq:w4.cell? ⟨p.cb,262+b,none⟩=some (.int .i64 ((nd b:Int)+1)):=(kc _).trans kn2;have kq5:w4.cell? ⟨p.cb,5,none⟩=some (.map (some p.mb)):=(kc _).trans ((T2.out.low 5 zO).trans C1.out.c5);clear kc kn2;rcases Nat.eq_zero_or_pos (nd b) with hz|hz
       ·have dV:decide (((nd b+1:Nat):Int)>1)=false:=decide_eq_false zO;have az:decide ((nd b:Int)+1>1)=false:=decide_eq_false zO;replace hz:=zH hz;go_wp2_with (at_lookup;refine qI ?_);obtain⟨v9,hv9⟩:=Option.isSome_iff_exists.1 lI.out;obtain⟨n9,iR,xs,A9,c9,f9,l9,b9,e9,-,-,hnode,rfl,aG,-,-⟩:=C1.out.known _ _ hv9;obtain rfl:b=n9:=zO;have hMap:=(T2.out.cen C1.out).map;refine Qh.go (Tj _ rfl (.tmp 61) (.tmp 62) 81 rfl underlying81 underlying3 rfl rfl hMap hv9 ?_);have hmay:=(Qc hnode).1;have oq:=(Qc hnode).2.1;have hlen:xs.length<=5:=by unfold Qe jv at hmay;simp at hmay;omega
        clear hMap hv9 hmay kq kq5;replace hnode:=zH hnode;replace aG:=zH aG;replace oq:=zH oq;go_wp2_with fail;generalize aK:World.alloc w4 _=w5;have T5:=T2.out.ext (by rw[<-aK];exact zN _ _:Ext w4 w5);have o5:=QM o2.out (by rw[<-aK];exact zN _ _:Ext w4 w5);have n5:w5.heap[w4.heap.size]?=some (.cells #[.int .i64 iR,.slice A9 xs.length c9] 49 (0,0)):=by rw[<-aK];exact zI _ _ _ rfl
        have z5:gb<w4.heap.size:=(Ql o2.out gb rfl).2;clear aK;have hlt9:=T2.out.lt;have dG:=T2.out.off.size;generalize w4.heap.size=nb at *;have I0:IRel p w1 vv s' iR xs rf (Jl nd b) nb A9 c9 (.slice (some ⟨gb,0,none⟩) m cap) (.int .i64 0) w5:=by
         refine⟨0,rf,ca4,Nat.zero_le _,rfl,fun x=>by rw[qhF];rfl,?_,?_,fun q hq=>?_,T5,n5⟩
         ·rw[Up,List.append_nil];exact hm0.out
         ·rw[Up,List.append_nil,<-hm0.out];exact o5
         ·simp[Value.ownBlock] at hq;omega
        replace I0:=zH I0;clear o5 T5 n5;go_loopw [5,68] (fun v i wq=>IRel p w1 vv s' iR xs rf (Jl nd b) nb A9 c9 v i wq) (fun _ i _=>xs.length-(intOf i).toNat)
        case atStart=>exact I0.out
        case round =>
         obtain⟨k,pG,ca',hk,rfl,hrf,bz,aW,ru,TI,nI⟩:=hrel.ex;clear I0;by_cases hlt:k<xs.length
         ·have aJ:=hlt;obtain⟨b9',hFX,rfl,hb9⟩:=aG.out.its.at_.2.2.2 zO;obtain⟨A',c',d0,d1,d2,d3,d4,-⟩:=(TI.its C1.out aG.out).its.item k aJ;obtain⟨⟨-,-,-,⟨mX,hr2⟩,-⟩,-⟩:=oq.out xs[k] (List.getElem_mem aJ);have HSK:=zH (fun h=>qea (lvl:=iR) aJ h);have HPU:=zH (fun h h'=>qdZ (lvl:=iR) aJ h h');have HRS:=zH (fun h=>qhE aJ h hrf);have HRB:=zH (fun h=>qhD aJ h hrf);generalize xs[k]=x at *;obtain⟨r,hr⟩:=Int.eq_ofNat_of_zero_le mX;rw[hr] at d3 hr2;have wC:r<256:=zO;rw[hr,Int.toNat_natCast] at HSK HPU HRS HRB;clear mX hr2;replace hr:=zH hr;replace hrf:=zH hrf;replace TI:=zH TI;replace aW:=zH aW;replace bz:=zH bz;replace ru:=zH ru;rcases Nat.eq_zero_or_pos r with hr0|hr0
          ·have yF:((r:Int) == 0)=true:=by rw[beq_iff_eq];omega
           have tZ:=HRS.out hr0;have uz:=HSK.out (.inl hr0);replace hr0:=zH hr0;replace tZ:=zH tZ;replace uz:=zH uz;go_wp2_with fail;refine⟨⟨k+1,pG,ca',aJ,rfl,tZ.out,?_,?_,ru.out,TI.out.ext (zN _ _),qb nI (zN _ _)⟩,by simp[intOf];omega⟩
           ·rw[uz.out];exact bz.out
           ·rw[uz.out];exact QM aW.out (zN _ _)
          ·have yF:((r:Int) == 0)=false:=by rw[beq_eq_false_iff_ne];omega
           have hFA:¬r=0:=zO;have tZ:=HRB.out hFA;replace tZ:=zH tZ;replace hFA:=zH hFA;clear hr0;go_wp2_with fail;generalize nO:World.alloc wr _=w6;have x6:Ext wr w6:=by rw[<-nO];exact zN _ _
           have r6:w6.heap[wr.heap.size]?=some (.cells #[.int .u8 x.k,.int .u32 x.i,.int .u32 x.o,.int .i64 r,.slice A' x.val.length c'] 68 (0,0)):=by rw[<-nO];exact zI _ _ _ rfl
           clear nO d0 d1 d2 d3 d4;have T6:=TI.out.ext x6;have o6:=QM aW.out x6;have n6:=qb nI x6;have kr0:=T6.ar.ref r wC;have nO:wrap64 ((pG r:Int)+1)=(pG r:Int)+1:=IntWalk.wrap64_in _ (by have h1:=hrf.out r;have h2:=List.count_le_length (a:=r) (l:=VA xs k);have h3:=GR (xs:=xs) (k:=k);have h4:=qec K.out.wk r;simp at h4;omega);have gR:∀ W,qk.r w6 W->W.cell? ⟨p.cb,6+r,none⟩=some (.int .i64 (pG r:Int)):=fun W h=>by rw[qa (qb T6.row h)];exact kr0
           have gI:∀ W,qk.r w6 W->∀ i,W.cell? ⟨wr.heap.size,i,none⟩=#[.int .u8 x.k,.int .u32 x.i,.int .u32 x.o,.int .i64 r,.slice A' x.val.length c'][i]?:=fun W h=>qa (qb r6 h);refine qm zQ ?_;refine zu 0 11 (.pointer (some ⟨p.cb,0,none⟩)) zQ (by simp only[List.getElem?_toArray,List.getElem?_cons_zero];exact rfl) zQ zQ zQ zA0 (fun W=>?_) ?_
           ·go_simp
           simp only[Act.put,qf,qc,qg,qc,zA,zB,zC];refine zu 3 10 (.pointer (some ⟨p.cb,0,none⟩)) zQ zA6 zQ zQ zQ zA0 (fun W=>?_) ?_
           ·go_simp
           simp only[Act.put,qf,qc,qg,qc,zA,zB,zC];refine zu 8 9 (.pointer (some ⟨p.cb,0,none⟩)) zQ zA6 zQ zQ zQ zA0 (fun W=>?_) ?_
           ·go_simp
           simp only[Act.put,qf,qc,qg,qc,zA,zB,zC];refine zu 9 8 (.pointer (some ⟨p.cb,6,none⟩)) zQ zA6 zQ zQ zQ zA0 (fun W=>?_) ?_
           ·go_simp
           simp only[Act.put,qf,qc,qg,qc,zA,zB,zC];refine Zo (w:=w6) qk (qD []) [false,true,true,false,true,true,true,true,false,false,true] 1 zQ zQ zQ zQ zQ zQ ?st (Rel.drew _ _) ?walk
           case st=>exact qj (fun _ h=>by cases h)
           case walk =>
            intro K2 hK2;dsimp only[qp];repeat ((first|(refine qd ?_ zA0 zA0 (fun W hW _=>⟨W,?_,Rel.refl _ W⟩) ?_;rotate_left;(go_simp<;>with_reducible rfl))|(refine qh zA0 ?_));try simp only[Act.put,ql,qf,qc,qg,qc,zA,zB,zC])
            first
             |(refine qd (.pointer (some ⟨p.cb,6+r,none⟩)) zA0 zA0 (fun W hW _=>⟨W,?_,Rel.refl _ W⟩) ?_
               ·go_simp;intro iD;exfalso;omega
               simp only[Act.put,qf,qc,qg,qc,zA,zB,zC])
             |skip
            repeat ((first|(refine qd ?_ zA0 zA0 (fun W hW _=>⟨W,?_,Rel.refl _ W⟩) ?_;rotate_left;(go_simp<;>with_reducible rfl))|(refine qh zA0 ?_));try simp only[Act.put,ql,qf,qc,qg,qc,zA,zB,zC])
            first
             |(refine qd (.pointer (some ⟨p.cb,6+r,none⟩)) zA0 zA0 (fun W hW _=>⟨W,?_,Rel.refl _ W⟩) ?_
               ·go_simp;intro iD;exfalso;omega
               simp only[Act.put,qf,qc,qg,qc,zA,zB,zC])
             |skip
            repeat ((first|(refine qd ?_ zA0 zA0 (fun W hW _=>⟨W,?_,Rel.refl _ W⟩) ?_;rotate_left;(go_simp<;>with_reducible rfl))|(refine qh zA0 ?_));try simp only[Act.put,ql,qf,qc,qg,qc,zA,zB,zC])
            refine qt (hK2 _ _ fun W hW hF=>?_);have iW:Ext w6 W:=hW;clear hF hK2 gR gI;refine zB5 ?_;have T7:=(T6.ext iW).addRef wC;have rc:=qb T6.row iW;have kc:=qa rc;have fc:=qe rc;have hlp:=T6.lt;have o7:(W.setCell ⟨p.cb,6+r,none⟩ (.int .i64 ((pG r:Int)+1))).ownsRow w1.heap.size 3 1 _ _ _:=Vh (QM o6 iW) (p:=⟨p.cb,6+r,none⟩) hlp _;have n7:(W.setCell ⟨p.cb,6+r,none⟩ (.int .i64 ((pG r:Int)+1))).heap[nb]?=_:=(zJ _ _ _ _ (by show nb≠p.cb;omega)).trans (qb n6 iW);have r7:(W.setCell ⟨p.cb,6+r,none⟩ (.int .i64 ((pG r:Int)+1))).heap[wr.heap.size]?=_:=(zJ _ _ _ _ (by show wr.heap.size≠p.cb;have:=TI.out.off.size;omega)).trans (qb r6 iW);generalize (ca'.setIfInBounds (6+r) _)=ca7 at T7;replace rc:=zH rc;go_wp2;refine Qm ?_;rw[nO];generalize gu:W.setCell ⟨p.cb,6+r,none⟩ (.int .i64 ((pG r:Int)+1))=w7 at *;clear gu kc fc rc iW T6 o6 n6 x6 r6 kr0 nO;have kn7:=qa n7;have kr7:=qa r7;replace T7:=zH T7;replace o7:=zH o7;rcases Nat.eq_zero_or_pos iR with hv0|hv0
            ·have nM:decide ((iR:Int)>0)=false:=decide_eq_false zO;have hq4:decide (0<iR)=false:=decide_eq_false zO;have uz:=HSK.out (.inr hv0);replace uz:=zH uz;replace hv0:=zH hv0;go_wp2_with fail;refine⟨⟨k+1,Jl pG r,ca7,aJ,rfl,tZ.out,?_,?_,ru.out,T7.out,n7⟩,by simp[intOf];omega⟩
             ·rw[uz.out];exact bz.out
             ·rw[uz.out];exact o7.out
            ·have nM:decide ((iR:Int)>0)=true:=decide_eq_true zO;have hq4:decide (0<iR)=true:=decide_eq_true hv0;have uz:=HPU.out hFA.out hv0;replace uz:=zH uz;replace hv0:=zH hv0;have hlv7:=bz.out;have hEU:=ru.out;have hz7:nb<w7.heap.size:=(zG.1 n7).1;have sV:(s'++Zm iR xs k).length<1073741824:=by
              have h1:=K.out.few b;have h2:(Zm iR xs k).length<=k:=by
               unfold Zm;split
               ·exact GR
               ·simp
              simp at h1;rw[List.length_append];omega
             replace hlv7:=zH hlv7;replace hEU:=zH hEU;replace sV:=zH sV;obtain⟨i0,hi,aY,aV,aX⟩:=info_parts Tryz.info_int;go_wp2_with (at_builtin;refine qI ?_);refine Qh.go (Zc _ rfl (.tmp 89) (.tmp 92) 30 rfl w1.heap.size 3 i0 (.int .i64 0) 1 8 underlying30 hi aY aV aX rfl zA1 _ _ _ rfl o7.out #[.int .i64 (r:Int)] rfl rfl zA8 sV.out zA1 T7.out.off.size ?_);intro v8 w8 rM g8 _ hHM;have T8:=T7.out.grown g8 fun q hq=>(Ql o7.out q hq).1;have n8:=(g8.block nb hz7 (fun e=>hEU.out nb e.symm rfl)).trans n7;have hnb8:∀ q,v8.ownBlock=some q->q≠nb:=by
              intro q hq;rcases hHM with e|⟨q',e,e2⟩
              ·exact hEU.out q (e.symm.trans hq)
              ·rw[e] at hq;cases hq;omega
             obtain⟨A8,c8,hv8,-,-⟩:=qy rM;have hHE:lenV v8=(s'++Zm iR xs (k+1)).length:=by rw[hv8,uz.out];simp only[lenV,List.length_append,List.length_cons,List.length_nil];omega
             have own9:w8.ownsRow w1.heap.size 3 1 v8 (s'++Zm iR xs (k+1)).length (JX (s'++Zm iR xs (k+1))):=by
              have hcat:(s'++Zm iR xs (k+1)).length=(s'++Zm iR xs k).length+1:=by rw[uz.out,<-List.append_assoc,List.length_append,List.length_singleton]
              rw[hcat,uz.out,<-List.append_assoc,Xh];exact rM
             have IR:IRel p w1 vv s' iR xs rf (Jl nd b) nb (some ⟨b9',hFX,none⟩) c9 v8 (.int .i64 ((k:Int)+1)) w8:=⟨k+1,Jl pG r,ca7,aJ,rfl,tZ.out,hHE,own9,hnb8,T8,n8⟩
             replace IR:=zH IR;clear rM g8 hHM hv8 hHE own9 hnb8 T8 n8 hi aY aV aX;go_wp2_with fail;refine⟨IR.out,?_⟩;simp[intOf];omega
         ·have lX:k=xs.length:=zO;subst lX;have KN:=K.out.new hz.out bI hnode.out hrf;have e1:=XK T.out.row T.out.ar;have e2:=XK TI.row TI.ar;have e3:=Xp (M:=VS nd) (a:=b) (decide_eq_false (by have:=hz.out;omega)) 256;rw[<-Vv,if_pos bI] at e3;have bU:(Zm iR xs xs.length).length<=5:=by
           unfold Zm;split
           ·exact Nat.le_trans GR hlen
           ·simp
          replace e3:=zH e3;clear dA hw22 aO;go_wp2_with fail;go_roundw
          case rel =>exact⟨s'++Zm iR xs xs.length,pG,Jl nd b,ca',bz,aW,TI,KN⟩
          case measure =>rw[e1,e2,bz,List.length_append,<-hm0.out];have e3':=e3.out;simp only[lenV];omega
       ·have dV:decide (((nd b+1:Nat):Int)>1)=true:=decide_eq_true zO;have az:decide ((nd b:Int)+1>1)=true:=decide_eq_true zO;replace hz:=zH hz;go_wp2_with fail;go_roundw
        case rel =>exact⟨s',rf,Jl nd b,ca4,hm0.out,by rw[<-hm0.out];exact o2.out,T2.out,K.out.again hz.out⟩
        case measure =>have e1:=XK T.out.row T.out.ar;have e2:=XK T2.out.row T2.out.ar;rw[Vw hz.out] at e2;rw[e1,e2];simp[lenV]
def ca0 (s1 s2 s3 s4:Value) (bb mb:Nat):Array Value:=(#[s1,s2,s3,s4,.pointer (some ⟨bb,0,none⟩),.map (some mb)]++Array.replicate 512 (.int .i64 0))++#[.slice none 0 0]
theorem ca_eq (s1 s2 s3 s4:Value) (bb mb:Nat):(((((Tryz.zeroCells84.setIfInBounds 0 s1).setIfInBounds 1 s2).setIfInBounds 2 s3).setIfInBounds 3 s4).setIfInBounds 4 (.pointer (some ⟨bb,0,none⟩))).setIfInBounds 5 (.map (some mb))=ca0 s1 s2 s3 s4 bb mb:=zQ
end Go.Proofs.YtpbniokljofedaaGreat
