/- Texts NewD, Vols, joined. -/
import Derived.Test.YtpbniokljofedaaGreatZG06
import Derived.Test.YtpbniokljofedaaGreatZG10
import Derived.Test.YtpbniokljofedaaGreatZG12
set_option linter.unusedSimpArgs false
set_option linter.unusedVariables false
set_option maxHeartbeats 8000000
open Go.Proofs.Tryz
namespace Go.Proofs.YtpbniokljofedaaGreat
open Go.RowKit
def jb (n:Nat):List UInt8:=List.replicate n 0
theorem Zv (n:Nat):(jb n).length=n:=by simp[jb]
theorem qiv (n:Nat):madeCells #[.int .u8 0] n=((jb n).map bv).toArray:=by
 apply Array.ext_getElem?;intro i;unfold madeCells jb;rw[Array.getElem?_map,Array.getElem?_range,List.getElem?_toArray,List.getElem?_map,List.getElem?_replicate];by_cases h:i<n
 ·rw[if_pos h,if_pos h];simp[Nat.mod_one,bv]
 ·rw[if_neg h,if_neg h];rfl
theorem qji {n:Nat} (hn:n<1000000) (w:World):(Instr.makeSlice 26 (.int .i64 (n:Int)) (.int .i64 (n:Int))).run prog w=.ok (.slice (some ⟨w.heap.size,0,none⟩) n n) (w.alloc (.cells ((jb n).map bv).toArray 5)):=by obtain⟨i0,hi,ag,aU,aW⟩:=info_parts Tryz.info_u8;have h:=run_make (P:=prog) w 26 5 i0 _ underlying26 hi ag .i64 .i64 (n:Int) (n:Int) zO zO (by rw[aW];omega) zO;rw[aU,Int.toNat_natCast,Nat.mul_one] at h;rw[<-qiv];exact h
theorem qfk (w:World):Calls prog 94 #[] w (Za (fun u W=>u=.slice (some ⟨w.heap.size,0,none⟩) 256 256/\W.heap[w.heap.size]?=some (.cells ((jb 256).map bv).toArray 5 (0,0))) w):=by have hmk:∀ w,(Instr.makeSlice 26 (.int .i64 256) (.int .i64 256)).run prog w=.ok (.slice (some ⟨w.heap.size,0,none⟩) 256 256) (w.alloc (.cells ((jb 256).map bv).toArray 5)):=fun w=>qji (n:=256) zO w;go_enter func94,ntmps94;go_wp2;go_ret;exact⟨_,rfl,⟨rfl,zI _ _ _ rfl⟩,zN _ _⟩
structure NewI (w2:World) (BB:Nat) (i:Value) (wr:World):Prop where
 ex:∃ (k:Nat) (cs:Array Value),k<=256/\i=.int .i64 (k:Int)/\Below BB w2 wr/\BB<wr.heap.size/\wr.heap[BB]?=some (.cells cs 26 (0,0))/\cs.size=256 /\
  wr.heap[BB+1]?=some (.cells #[.slice (some ⟨BB,0,none⟩) 256 256,.slice none 0 0] 25 (0,0))/\∀ i,i<k->∃ b,cs[i]?=some (.slice (some ⟨b,0,none⟩) 128 128)/\BB<b/\wr.heap[b]?=some (.cells ((jb 128).map bv).toArray 5 (0,0))
def JO:List (List UInt8):=List.replicate 256 (jb 128)
set_option maxRecDepth 100000 in
theorem dnew_any (w:World):Calls prog 93 #[] w (Za (fun u W=>∃ BB,u=YN (some ⟨BB,0,none⟩) 256 256 none 0 0/\∀ W2:World,(∀ q:Addr,w.heap.size<=q.block->q.block<W.heap.size->W2.cell? q=W.cell? q)->Bls W2 W.heap.size (.slice (some ⟨BB,0,none⟩) 256 256) JO) w):=by
 have hmk:∀ w,(Instr.makeSlice 26 (.int .i64 128) (.int .i64 128)).run prog w=.ok (.slice (some ⟨w.heap.size,0,none⟩) 128 128) (w.alloc (.cells ((jb 128).map bv).toArray 5)):=fun w=>qji (n:=128) zO w;have hmk2:∀ w,(Instr.makeSlice 22 (.int .i64 256) (.int .i64 256)).run prog w=.ok (.slice (some ⟨w.heap.size,0,none⟩) 256 256) (w.alloc (.cells (madeCells #[.slice none 0 0] 256) 26)):=fun w=>Ux (n:=256) zO w;go_enter func93,ntmps93;go_wp2_with fail;generalize bT:(World.alloc (World.alloc (World.alloc _ _) _) _)=w2;have x2:Ext w w2:=by rw[<-bT];exact((zN _ _).trans (zN _ _)).trans (zN _ _)
 have q2:w2.heap[w.heap.size]?=some (.cells #[.slice none 0 0,.slice none 0 0] 25 (0,0)):=by rw[<-bT];exact(zK _ _ _ zA1).trans ((zK _ _ _ zA2).trans (zI _ _ _ rfl))
 have b2:w2.heap[w.heap.size+1]?=some (.cells (madeCells #[.slice none 0 0] 256) 26 (0,0)):=by rw[<-bT];exact(zK _ _ _ zA2).trans (zI _ _ _ zA2)
 have d2:w2.heap[w.heap.size+1+1]?=some (.cells #[.slice (some ⟨w.heap.size+1,0,none⟩) 256 256,.slice none 0 0] 25 (0,0)):=by rw[<-bT];exact zI _ _ _ zA2
 have I0:NewI w2 (w.heap.size+1) (.int .i64 0) w2:=⟨0,_,zO,rfl,Below.refl _ _,(zG.1 b2).1,b2,size_madeCells _ _,d2,fun i hi=>zO⟩
 have kd:=qa d2;replace I0:=zH I0;clear bT hmk2 b2 d2;go_wp2_with fail;go_loopw [8] (fun i wr=>NewI w2 (w.heap.size+1) i wr) (fun i _=>256-(intOf i).toNat)
 case atStart=>exact I0.out
 case round =>
  obtain⟨k,cs,hk,rfl,hE,hz,aF,hsz,hd,dD⟩:=hrel.ex;clear hrel I0 kd;have xw:Below w.heap.size w wr:=Below.trans x2 (Below.mono hE zO);by_cases hlt:k<256
  ·have aH:=hlt;have g1:∀ W,qj.r wr W->∀ i,W.cell? ⟨w.heap.size+1+1,i,none⟩=#[.slice (some ⟨w.heap.size+1,0,none⟩) 256 256,.slice none 0 0][i]?:=fun W h=>qa (qb hd h);have wS:=zH (IntWalk.wrap64_in ((k:Int)+1) zO);have hEh:=zH hE;have hcsh:=zH dD;have hVA:=zH aF;have hdh:=zH hd;clear hE dD aF hd;go_wp2_with fail;refine qp zQ ?_;refine qQ (w:=wr) qj (qH [(3,GV wr.heap.size 128 128 5 ((jb 128).map bv).toArray)]) [true,true,true,true,true] 1 zQ zQ zQ zQ zQ zQ zQ ?st (Rel.drew _ _) ?walk
   case st=>exact qk (by simp only[List.forall_mem_cons];exact⟨Yh _ _ _ _ _,fun _ h=>by cases h⟩)
   case walk =>
    intro K hK;dsimp only[qt];repeat ((first|(refine qd ?_ zA0 zA0 (fun W hW _=>⟨W,?_,Rel.refl _ W⟩) ?_;rotate_left;(go_simp<;>with_reducible rfl))|(refine qh zA0 ?_));try simp only[Act.put,ql,qg,qc,qf,zp,zA,zB,zC])
    refine qw (GV wr.heap.size 128 128 5 ((jb 128).map bv).toArray) zA0 zA0 (fun W hW _=>?_) (fun (b:Nat)=>?_)
    ·have hW:Ext wr W:=hW;refine jw (u:=.slice (some ⟨W.heap.size,0,none⟩) 128 128) (w':=W.alloc (.cells ((jb 128).map bv).toArray 5)) ?_ ⟨W.heap.size,rfl,⟨zI _ _ _ rfl,hW.size⟩,zN _ _⟩;go_simp
    simp only[Act.put,qg,qc,qf,zp,zA,zB,zC];repeat ((first|(refine qd ?_ zA0 zA0 (fun W hW _=>⟨W,?_,Rel.refl _ W⟩) ?_;rotate_left;(go_simp<;>with_reducible rfl))|(refine qh zA0 ?_));try simp only[Act.put,ql,qg,qc,qf,zp,zA,zB,zC])
    first
     |(refine qd (.pointer (some ⟨w.heap.size+1,0+k,none⟩)) zA0 zA0 (fun W hW _=>⟨W,?_,Rel.refl _ W⟩) ?_
       ·go_simp;rw[IntWalk.i64_in (k:Int) zO,if_pos zO];simp
       simp only[Act.put,ql,qg,qc,qf,zp,zA,zB,zC])
     |skip
    repeat ((first|(refine qd ?_ zA0 zA0 (fun W hW _=>⟨W,?_,Rel.refl _ W⟩) ?_;rotate_left;(go_simp<;>with_reducible rfl))|(refine qh zA0 ?_));try simp only[Act.put,ql,qg,qc,qf,zp,zA,zB,zC])
    refine qv (hK _ _ fun W hW hF=>?_);have hb:W.heap[b]?=some (.cells ((jb 128).map bv).toArray 5 (0,0))/\wr.heap.size<=b:=(hF 3).1;have hW:Ext wr W:=hW;clear hF hK g1 hmk;refine zB5 ?_;have rB:=qb hVA.out hW;have kB:=qa rB k;have fB:=qe rB k;rw[Array.getElem?_eq_getElem zO] at kB;have IR:NewI w2 (w.heap.size+1) (.int .i64 ((k:Int)+1)) (W.setCell ⟨w.heap.size+1,k,none⟩ (.slice (some ⟨b,0,none⟩) 128 128)):=⟨k+1,_,zO,rfl,Below.setCell (Below.trans hEh.out (Below.mono hW zO)) (p:=⟨w.heap.size+1,k,none⟩) (zM _) _,by have:=hW.size;simp;omega,qi rB k _,by simpa using hsz,
     (zJ _ _ _ _ (by show _≠w.heap.size+1;omega)).trans (qb hdh.out hW),fun i hi=>by
      rw[Array.getElem?_setIfInBounds];by_cases e:k=i
      ·subst e;rw[if_pos rfl,if_pos zO];exact⟨b,rfl,zO,(zJ _ _ _ _ (by show _≠w.heap.size+1;omega)).trans hb.1⟩
      ·rw[if_neg e];obtain⟨b',e1,e2,e3⟩:=hcsh.out i zO;exact⟨b',e1,e2,(zJ _ _ _ _ (by show _≠w.heap.size+1;omega)).trans (qb e3 hW)⟩⟩
    replace IR:=zH IR;generalize cs[k]=u0 at *;clear hb hW rB;go_wp2;refine Qo ?_;go_wp2_with fail;try rw[wS.out]
    refine⟨IR.out,?_⟩;simp[intOf];omega
  ·obtain rfl:k=256:=zO;have qq:=(hE.block w.heap.size zO).trans q2;have kq:=qa qq;have fq:=qe qq;have kd:=qa hd;have rf:=qi (qi qq 0 (.slice (some ⟨w.heap.size+1,0,none⟩) 256 256)) 1 (.slice none 0 0);have kf:=qa rf;have bf:Below w.heap.size w ((wr.setCell ⟨w.heap.size,0,none⟩ (.slice (some ⟨w.heap.size+1,0,none⟩) 256 256)).setCell ⟨w.heap.size,1,none⟩ (.slice none 0 0)):=Below.setCell (Below.setCell xw (p:=⟨w.heap.size,0,none⟩) (zM _) _) (p:=⟨w.heap.size,1,none⟩) (zM _) _;have DF:∀ W2:World,(∀ q:Addr,w.heap.size<=q.block->q.block<((wr.setCell ⟨w.heap.size,0,none⟩ (.slice (some ⟨w.heap.size+1,0,none⟩) 256 256)).setCell ⟨w.heap.size,1,none⟩ (.slice none 0 0)).heap.size->W2.cell? q=((wr.setCell ⟨w.heap.size,0,none⟩ (.slice (some ⟨w.heap.size+1,0,none⟩) 256 256)).setCell ⟨w.heap.size,1,none⟩ (.slice none 0 0)).cell? q)->Bls W2 ((wr.setCell ⟨w.heap.size,0,none⟩ (.slice (some ⟨w.heap.size+1,0,none⟩) 256 256)).setCell ⟨w.heap.size,1,none⟩ (.slice none 0 0)).heap.size (.slice (some ⟨w.heap.size+1,0,none⟩) 256 256) JO:=by
    have st:∀ b,b≠w.heap.size->((wr.setCell ⟨w.heap.size,0,none⟩ (.slice (some ⟨w.heap.size+1,0,none⟩) 256 256)).setCell ⟨w.heap.size,1,none⟩ (.slice none 0 0)).heap[b]?=wr.heap[b]?:=fun b hb=>(zJ _ _ _ _ hb).trans (zJ _ _ _ _ hb);generalize World.setCell (World.setCell wr _ _) _ _=wf at *;intro W2 hk;have rB:=(st (w.heap.size+1) zO).trans aF;have zB:=(zG.1 rB).1;refine⟨cs.toList,some ⟨w.heap.size+1,0,none⟩,256,by simp[JO],by simp[JO],zA6,⟨by simp[JO,hsz],fun _=>⟨w.heap.size+1,0,rfl,zB,fun j u hu=>?_⟩⟩,fun i u l hu hl=>?_⟩
    ·rw[hk ⟨w.heap.size+1,0+j,none⟩ (by show w.heap.size<=w.heap.size+1;omega) zB,Nat.zero_add,qa rB];simpa using hu
    have hi:i<256:=by have:=(List.getElem?_eq_some_iff.1 hl).1;simpa [JO] using this
    have e0:cs.toList[i]?=cs[i]?:=zA2;obtain⟨b,e1,e2,e3⟩:=dD i hi;rw[e0,e1] at hu;cases hu;have yh:l=jb 128:=by
     have:JO[i]?=some (jb 128):=by unfold JO;rw[List.getElem?_replicate,if_pos hi]
     rw[this] at hl;cases hl;rfl
    subst yh;have e4:=(st b zO).trans e3;have zb:=(zG.1 e4).1;refine⟨_,128,by rw[Zv],by rw[Zv];omega,zA6,zA2,fun _=>⟨b,0,rfl,zb,fun j u hu=>?_⟩⟩;rw[hk ⟨b,0+j,none⟩ (by show w.heap.size<=b;omega) zb,Nat.zero_add,qa e4];simpa using hu
   replace kf:=zH kf;replace bf:=zH bf;replace DF:=zH DF;clear rf hE aF dD hd;go_wp2;have kf:=kf.out;exact bodyPost_ret (v:=YN (some ⟨w.heap.size+1,0,none⟩) 256 256 none 0 0) (by simp[results,results93,go_sem,kf]) rfl ⟨_,rfl,⟨w.heap.size+1,rfl,DF.out⟩,bf.out⟩
theorem Tryz.info_vol:(Tryz.prog.info? 40).map (fun i=>(i.zero,i.size,i.bytes))=some (some (.agg #[.int .u32 0,.int .i64 0,.bool false,.int .u32 0]),4,24):=zQ
abbrev vol4 (v:Vol):Array Value:=#[.int .u32 v.id,.int .i64 v.root,.bool v.fz,.int .u32 v.frm]
structure VRel (p:CP) (w1:World) (refs nodes:Nat->Nat) (pcs:Array Value) (next:Int) (yK:List Vol) (xs:List It) (h:Nat) (A:Option Addr) (c:Nat) (sU:Value) (w:World) (i:Value) (wr:World):Prop where
 ex:∃ (k:Nat) (vs:List Vol) (vv:Value) (ca:Array Value),k<=xs.length/\i=.int .i64 (k:Int)/\Zs next yK (qC p.S h (xs.take k))=some vs/\vs.length<=16/\VolI p w1 wr vs vv ca refs nodes/\Yy p sU w wr/\ku sU w.heap.size vv /\
  (∀ q,vv.ownBlock=some q->q≠w.heap.size/\q≠w.heap.size+1)/\wr.heap[w.heap.size]?=some (.cells pcs 32 (0,0))/\wr.heap[w.heap.size+1]?=some (.cells #[.int .i64 h,.slice A xs.length c] 49 (0,0))
set_option maxRecDepth 100000 in
theorem qgB (p:CP) (w1:World) (f:Int->Option Value) (refs nodes:Nat->Nat) (s1 s2 s3 s4:Value) (gen root next:Int) (dead:Value) (hC:Cen p w1 f) (h:Nat) (HL:∀ h',h=h'+1->VolsC p w1 f refs nodes s1 s2 s3 s4 gen root next dead h'):VolsC p w1 f refs nodes s1 s2 s3 s4 gen root next dead h:=by
 intro xs A c yK sU ca0 w HI az tN hlen aJ aN oV;have aP:=QM HI.own;replace hC:=zH hC;replace HI:=zH HI;replace tN:=zH tN;replace aJ:=zH aJ;replace aN:=zH aN;replace oV:=zH oV;replace aP:=zH aP;replace HL:=zH HL;replace az:=zH az;go_enter func85,ntmps85;go_wp2;generalize bT:(World.alloc (World.alloc _ _) _)=w2;have x2:Ext w w2:=by rw[<-bT];exact(zN _ _).trans (zN _ _)
 have q2:w2.heap[w.heap.size]?=some (.cells (qF s1 s2 s3 s4 gen root next dead) 32 (0,0)):=by rw[<-bT];exact(zK _ _ _ zA2).trans (zI _ _ _ rfl)
 have n2:w2.heap[w.heap.size+1]?=some (.cells #[.int .i64 h,.slice A xs.length c] 49 (0,0)):=by rw[<-bT];exact zI _ _ _ zA2
 clear bT;have I0:VRel p w1 refs nodes (qF s1 s2 s3 s4 gen root next dead) next yK xs h A c sU w (.int .i64 0) w2:=by
  refine⟨0,yK,sU,ca0,Nat.zero_le _,rfl,?_,az.out,HI.out.ext x2,(Yy.refl _ _ _).ext x2,ku.refl _ _,fun q hq=>?_,q2,n2⟩
  ·rw[List.take_zero,JB];rfl
  ·have:=(aP.out q hq).2;omega
 replace I0:=zH I0;clear x2 q2 n2;go_loopw [15] (fun i wr=>VRel p w1 refs nodes (qF s1 s2 s3 s4 gen root next dead) next yK xs h A c sU w i wr) (fun i _=>xs.length-(intOf i).toNat)
 case atStart=>exact I0.out
 case round =>
  obtain⟨k,vs,vv,ca,hk,rfl,hgo,hvs,V,F,nG,hnq,qr,nr⟩:=hrel.ex;clear I0;by_cases hlt:k<xs.length
  ·have aH:=hlt;obtain⟨b9,hIL,rfl,hb9⟩:=aJ.out.its.at_.2.2.2 zO;obtain⟨A',c',d0,d1,d2,d3,d4,aQ⟩:=(V.t.its hC.out aJ.out).its.item k aH;have hxk:=tN.out xs[k] (List.getElem_mem aH);have HLEAF:Hid (h=0->qC p.S h (xs.take (k+1))=qC p.S h (xs.take k)++[xs[k]]):=zH fun e=>by rw[e];exact qhs aH
   have HNODE:Hid (∀ h' ys lvl,h=h'+1->qu p.S xs[k].r.toNat=some (lvl,ys)->qC p.S h (xs.take (k+1))=qC p.S h (xs.take k)++qC p.S h' ys):=zH fun h' ys lvl e hn=>by rw[e];exact qht aH hn
   have HONE:=zH (jv aN.out xs[k] (List.getElem_mem aH));have HKN:=zH (fun h0=>oV.out h0 xs[k] (List.getElem_mem aH));have HBAD:=zH (fun hb=>@qin p.S h xs (k+1) next yK aH hb);generalize xs[k]=x at *;have kn:=qa nr;replace V:=zH V;replace F:=zH F;replace nG:=zH nG;replace hnq:=zH hnq;replace hgo:=zH hgo;replace aQ:=zH aQ;replace hxk:=zH hxk;have hz:w.heap.size+1<wr.heap.size:=(zG.1 nr).1;replace hvs:=zH hvs;rcases Nat.eq_zero_or_pos h with hh|hh
   ·have hd:decide ((h:Int)>0)=false:=decide_eq_false zO;have hd3:¬0<h:=zO;replace hh:=zH hh;go_wp2_with fail;generalize aO:World.alloc wr _=w3;have x3:Ext wr w3:=by rw[<-aO];exact zN _ _
    clear aO d0 d1 d2 d3 d4;refine(qio x hxk.out A' c' w3 ((aQ.out.below x3).more x3.size)).mono ?_;rintro e w4 ⟨u,rfl,⟨v',rfl,hv'⟩,hB⟩;have x4:=x3.trans hB;clear hB x3;have dM:Zs next yK (qC p.S h (xs.take (k+1)))=if ZO next x=true/\vs.length≠16 then some (vs++[jg x]) else none:=by rw[HLEAF.out hh.out,vA,hgo.out];rfl
    have HB8:Hid (¬(ZO next x=true/\vs.length≠16)->∀ W,Ext wr W->VolsQ p w1 refs nodes next yK (qC p.S h xs) sU w (.returned (.int .i64 8)) W):=zH fun hb W hx =>
     ⟨F.out.ext hx,by rw[HBAD.out (by rw[dM,if_neg hb])]⟩
    have V4:=V.out.ext x4;obtain⟨AV,cV,rfl,-,-⟩:=qz V4.own;have kc:w4.cell? ⟨p.cb,518,none⟩=some (.slice AV vs.length cV):=by rw[qa V4.t.row];exact V4.t.ar.vol
    have kq4:=qa (qb qr x4);have hcb4:p.cb<w4.heap.size:=(zG.1 V4.t.row).1;have hqz4:w.heap.size<w4.heap.size:=by have:=x4.size;omega
    replace dM:=zH dM;rcases hiv:VB x with _|_
    ·have HB:=HB8.out (fun hh=>by have:=hh.1;unfold ZO at this;rw[hiv] at this;cases this);replace HB:=zH HB;replace hiv:=zH hiv;clear kc kq4 V4;go_wp2_with fail;go_ret;exact HB.out _ (x4.trans (zN _ _))
    ·have hve:=hv' hiv;have hid:v'.id=x.i:=by rw[hve];rfl
     have fP:ZO next x=(decide (x.i≠0) && decide (x.i<next)):=by unfold ZO;rw[hiv,Bool.true_and]
     replace hiv:=zH hiv;replace hve:=zH hve;rcases Int.decEq v'.id 0 with rV|rV
     ·rcases Int.decLt v'.id next with uM|uM
      ·have HB:=HB8.out (fun hh=>by have:=hh.1;rw[fP] at this;simp at this;omega);have hg1:decide (v'.id≥next)=true:=decide_eq_true zO;replace HB:=zH HB;replace hid:=zH hid;replace fP:=zH fP;clear uM hv' V4;go_wp2_with fail;go_ret;exact HB.out _ (x4.trans (zN _ _))
      ·have hg1:decide (v'.id≥next)=false:=decide_eq_false zO;have hg2:decide (next<=v'.id)=false:=decide_eq_false zO;rcases Nat.decEq vs.length 16 with xn|xn
       ·have hf1:((vs.length:Int) == 16)=false:=by rw[beq_eq_false_iff_ne];omega
        have hok:ZO next x=true:=by rw[fP];simp;omega
        replace hok:=zH hok;replace hid:=zH hid;replace fP:=zH fP;replace V4:=zH V4;clear uM hv';have h16':=zH xn;go_wp2_with fail;generalize aV:World.alloc w4 _=w5;have dP:Ext w4 w5:=by rw[<-aV];exact zN _ _
        have r5:w5.heap[w4.heap.size]?=some (.cells (vol4 v') 40 (0,0)):=by rw[<-aV];exact zI _ _ _ rfl
        clear aV kc kq4 xn hf1 hg1 hg2 rV;have x5:=x4.trans dP;have V5:=V4.out.ext dP;have q5:=qb qr x5;have nr5:=qb nr x5;have hol:=QM V5.own;have hGL:=V5.t.lt;have hbase5:=V5.t.off.size;have hvs5:=hvs.out;have hn4:(Value.slice AV vs.length cV).ownBlock≠some w4.heap.size:=fun e=>by have:=(QM V4.out.own _ e).2;omega
        have iI:(Value.slice AV vs.length cV).ownBlock≠some p.cb:=fun e=>by have:=(hol _ e).1;omega
        obtain⟨RR,bK⟩:∃ RR:Rel,RR=kX w1.heap.size 40 4 w5.heap.size (.slice AV vs.length cV) vs.length (ZU vs) (vs.length+1) (ZU vs++(vol4 v').toList):=⟨_,rfl⟩
        replace bK:=zH bK;have gV:∀ W,RR.r w5 W->W.cell? ⟨p.cb,518,none⟩=some (.slice AV vs.length cV):=fun W h=>jK (bK.out ▸ h) iI (by rw[qa V5.t.row];exact V5.t.ar.vol);have gv:∀ W,RR.r w5 W->∀ i,W.cell? ⟨w4.heap.size,i,none⟩=(vol4 v')[i]?:=fun W h=>qa (Vz (bK.out ▸ h) hn4 r5);refine qp zQ ?_;refine qQ (w:=w5) RR (qH [(6,jR w5.heap.size 1 40 (vol4 v')),(7,Um w1.heap.size 40 4 w5.heap.size (.slice AV vs.length cV) (vs.length+1) (ZU vs++(vol4 v').toList))])
         [true,true,true,true,true,true,true,true] 3 zQ zQ zQ zQ zQ zQ zQ ?st (Rel.drew _ _) ?walk
        case st=>rw[bK.out];exact qk (by simp only[List.forall_mem_cons];exact⟨Xf (fun g hg=>by have:=hol g hg;omega),qao,fun _ h=>by cases h⟩)
        case walk =>
         intro K hK;dsimp only[qt];repeat ((first|(refine qd ?_ zA0 zA0 (fun W hW _=>⟨W,?_,Rel.refl _ W⟩) ?_;rotate_left;(go_simp<;>with_reducible rfl))|(refine qh zA0 ?_));try simp only[Act.put,ql,qg,qc,qf,qc,qS,Jv,zA,zB,zC])
         refine qw (jR w5.heap.size 1 40 (vol4 v')) zA0 zA0 (fun W hW _=>?_) (fun (pb:Nat)=>?_)
         ·rw[bK.out] at hW ⊢;refine GG ?_ hW.1.size;go_simp
         simp only[Act.put,qg,qc,qf,qc,qS,Jv,zA,zB,zC];refine qw (Um w1.heap.size 40 4 w5.heap.size (.slice AV vs.length cV) (vs.length+1) (ZU vs++(vol4 v').toList)) zA0 zA0 (fun W hW hp=>?_) (fun (p7:Option Addr×Nat)=>?_)
         ·rw[bK.out] at hW ⊢;obtain⟨i0,hi,ag,aU,aW⟩:=info_parts Tryz.info_vol;obtain⟨dQ,_⟩:=(hp 6 zD).1;obtain⟨v2,w',ay,hD,hR'⟩:=Yu (P:=prog) (lo:=w5.heap.size) W 35 35 i0 _ 24 underlying35 hi ag aU aW rfl zD (hW.2.1 V5.own) ⟨pb,0,none⟩ 1 1 (vol4 v').toList rfl (qgm dQ) zA7 zO zD (by have:=hW.1.size;omega) hW.1.size;obtain⟨A2,c2,rfl,_,_⟩:=qz hD.1;refine jw (u:=.slice A2 (vs.length+1) c2) (w':=w') ?_ ⟨(A2,c2),rfl,hD,hR'⟩;exact GE (s:=.tmp 67) (x:=.tmp 69) rfl rfl rfl ay
         obtain⟨A2,c2⟩:=p7;simp only[Act.put,qg,qc,qf,qc,qS,Jv,zA,zB,zC];repeat ((first|(refine qd ?_ zA0 zA0 (fun W hW _=>⟨W,?_,Rel.refl _ W⟩) ?_;rotate_left;(go_simp<;>with_reducible rfl))|(refine qh zA0 ?_));try simp only[Act.put,ql,qg,qc,qf,qc,qS,Jv,zA,zB,zC])
         refine qv (hK _ _ fun W hW hF=>?_);have hD:=(hF 7).1;clear hF hK gV gv;rw[bK.out] at hW;change Done _ _ _ _ _ _ _ _ W at hD;refine zB5 ?_;have TW:=V5.t.grown hW.1 (fun q hq=>(hol q hq).1);have T6:=TW.setVol (.slice A2 (vs.length+1) c2);have own6:=vP hD.1 (p:=⟨p.cb,518,none⟩) hGL (.slice A2 (vs.length+1) c2);have hcw:p.cb<w.heap.size:=Nat.lt_of_lt_of_le hGL HI.out.t.off.size;have q6:(W.setCell ⟨p.cb,518,none⟩ (.slice A2 (vs.length+1) c2)).heap[w.heap.size]?=_:=(zJ _ _ _ _ (by show w.heap.size≠p.cb;omega)).trans (Vz hW (fun e=>(hnq.out _ e).1 rfl) q5);have n6:(W.setCell ⟨p.cb,518,none⟩ (.slice A2 (vs.length+1) c2)).heap[w.heap.size+1]?=_:=(zJ _ _ _ _ (by show w.heap.size+1≠p.cb;omega)).trans (Vz hW (fun e=>(hnq.out _ e).2 rfl) nr5);have F6:=((F.out.ext x5).grown nG.out hW.1).setC (i:=518) (u:=.slice A2 (vs.length+1) c2);have N6:ku sU w.heap.size (.slice A2 (vs.length+1) c2):=ku.trans nG.out (n':=w5.heap.size) hD.2 (by have:=F.out.size;have:=x5.size;omega);have B6:∀ q,(Value.slice A2 (vs.length+1) c2).ownBlock=some q->q≠w.heap.size/\q≠w.heap.size+1:=by
          intro q hq;rcases hD.2 with e|⟨g,e,e2⟩
          ·exact hnq.out q (e ▸ hq)
          ·rw[e] at hq;cases hq;have:=x5.size;omega
         have kc:=qa TW.row;have kv:=TW.ar.vol;have fc:=qe TW.row;have IR:VRel p w1 refs nodes (qF s1 s2 s3 s4 gen root next dead) next yK xs h (some ⟨b9,hIL,none⟩) c sU w (.int .i64 ((k:Int)+1)) (W.setCell ⟨p.cb,518,none⟩ (.slice A2 (vs.length+1) c2)):=by
          refine⟨k+1,vs++[v'],_,_,aH,rfl,?_,?_,⟨T6,?_⟩,F6,N6,B6,q6,n6⟩
          ·rw[dM.out,if_pos ⟨hok.out,h16'.out⟩,hve.out]
          ·rw[List.length_append,List.length_singleton];have:=h16'.out;omega
          ·rw[List.length_append,List.length_singleton,qfe];exact own6
         replace IR:=zH IR;clear T6 own6 q6 n6 F6 N6 B6 hW hD q5 nr5 V5 r5 x5 x4 dP;replace TW:=zH TW;go_wp2;refine Qo ?_;go_wp2_with fail;refine⟨IR.out,?_⟩;simp[intOf];omega
       ·have hf1:((vs.length:Int) == 16)=true:=by rw[beq_iff_eq];omega
        have HB:=HB8.out (fun hh=>hh.2 xn);replace HB:=zH HB;replace hid:=zH hid;replace fP:=zH fP;replace xn:=zH xn;clear uM hv' V4;go_wp2_with fail;go_ret;exact HB.out _ (x4.trans (zN _ _))
     ·have HB:=HB8.out (fun hh=>by have:=hh.1;rw[fP] at this;simp at this;omega);replace HB:=zH HB;replace hid:=zH hid;replace fP:=zH fP;clear hv' V4 kc kq4;go_wp2_with fail;go_ret;exact HB.out _ (x4.trans (zN _ _))
   ·have hd:decide ((h:Int)>0)=true:=decide_eq_true zO;have hd2:decide (0<h)=true:=decide_eq_true hh;replace hh:=zH hh;obtain⟨h',hh'⟩:∃ h',h=h'+1:=⟨h-1,by have:=hh.out;omega⟩
    obtain⟨b,oJ,bU,bZ,ys,hnode,hsy⟩:=ZZ (hh' ▸ HONE.out);obtain⟨v9,hv9⟩:=Option.isSome_iff_exists.1 (HKN.out hh.out);obtain⟨n9,iq,ys',A9,c9,f9,l9,b9',e9,-,-,hn9,rfl,mg,hAE,yZ⟩:=hC.out.known _ _ hv9;obtain rfl:b=n9:=zO;rw[hnode,Option.some.injEq,Prod.mk.injEq] at hn9;obtain⟨e1,rfl⟩:=hn9;obtain rfl:h'=iq:=zO;have hMAP:=hC.out.map;have hmay:=(qN hnode).1;have eX:=fun y hy=>((qN hnode).2.1 y hy).1;have hVY:ys.length<=5:=by unfold Qb ZR at hmay;simp at hmay;omega
    have hyk:0<h'->∀ y∈ys,(f y.r).isSome=true:=fun h0=>yZ (by rw[hAE.1];exact hsy) h0;have HN2:=HNODE.out h' ys h' hh' (by rw[oJ,Int.toNat_natCast];exact hnode);have HCALL:=HL.out h' hh' ys A9 c9 vs vv ca;rw[oJ] at d3 hv9;have uJ:=qiK;replace hh':=zH hh';replace oJ:=zH oJ;replace hnode:=zH hnode;replace hsy:=zH hsy;replace mg:=zH mg;replace eX:=zH eX;replace hyk:=zH hyk;replace HN2:=zH HN2;replace HCALL:=zH HCALL;replace hv9:=zH hv9;clear hAE yZ hmay e9 e1;replace hMAP:=zH hMAP;go_wp2_with fail;generalize aO:World.alloc wr _=w3;have x3:Ext wr w3:=by rw[<-aO];exact zN _ _
    have r3:w3.heap[wr.heap.size]?=some (.cells #[.int .u8 x.k,.int .u32 x.i,.int .u32 x.o,.int .i64 b,.slice A' x.val.length c'] 68 (0,0)):=by rw[<-aO];exact zI _ _ _ rfl
    clear aO d0 d1 d2 d3 d4;have V3:=V.out.ext x3;have C3:=V3.t.cen hC.out;have gP:∀ W,qj.r w3 W->∀ i,W.cell? ⟨w.heap.size,i,none⟩=(qF s1 s2 s3 s4 gen root next dead)[i]?:=fun W h=>qa (qb (qb qr x3) h);have gX:∀ W,qj.r w3 W->∀ i,W.cell? ⟨wr.heap.size,i,none⟩=#[.int .u8 x.k,.int .u32 x.i,.int .u32 x.o,.int .i64 b,.slice A' x.val.length c'][i]?:=fun W h=>qa (qb r3 h);have gM:∀ W,qj.r w3 W->W.cell? ⟨p.cb,5,none⟩=some (.map (some p.mb)):=fun W h=>by rw[qa (qb C3.row h)];exact C3.c5
    refine qp zQ ?_;refine qQ (w:=w3) qj (qH []) [true,true,true,true,true,true,true,true,true,true] 2 zQ zQ zQ zQ zQ zQ zQ ?st2 (Rel.drew _ _) ?hXJ
    case st2=>exact qk (fun _ h=>by cases h)
    case hXJ =>
     intro K hK;dsimp only[qt];repeat ((first|(refine qd ?_ zA0 zA0 (fun W hW _=>⟨W,?_,Rel.refl _ W⟩) ?_;rotate_left;(go_simp<;>with_reducible rfl))|(refine qh zA0 ?_));try simp only[Act.put,ql,qg,qc,qf,qc,qS,Jv,zA,zB,zC])
     refine qd (jt h' A9 ys.length c9 f9 l9 b9') zA0 zA0 (fun W hW _=>⟨W,?_,Rel.refl _ W⟩) ?_
     ·have lC:Ext w3 W:=hW;have hm:=Xj (P:=prog) W (C3.ext lC).map 81 3 135 underlying81 underlying3 hv9.out;go_simp
     simp only[Act.put,qg,qc,qf,qc,qS,Jv,zA,zB,zC];repeat ((first|(refine qd ?_ zA0 zA0 (fun W hW _=>⟨W,?_,Rel.refl _ W⟩) ?_;rotate_left;(go_simp<;>with_reducible rfl))|(refine qh zA0 ?_));try simp only[Act.put,ql,qg,qc,qf,qc,qS,Jv,zA,zB,zC])
     refine qv (hK _ _ fun W hW hF=>?_);have lC:Ext w3 W:=hW;have x4:=x3.trans lC;clear hF hK gP gX gM uJ;refine zB5 ?_;have VW:=V.out.ext x4;have qW:=qb qr x4;have nW:=qb nr x4;clear hW lC x3 r3 V3 C3;replace VW:=zH VW;go_wp2_with fail;refine(HCALL.out W VW.out hvs.out eX.out hVY mg.out hsy.out hyk.out).mono ?_;rintro e w6 ⟨F6,hm⟩;have dM:Zs next yK (qC p.S h (xs.take (k+1)))=Zs next vs (qC p.S h' ys):=by rw[HN2.out,vA,hgo.out];rfl
     have FW:=(F.out.ext x4).trans F6 nG.out;have hcw:p.cb<w.heap.size:=Nat.lt_of_lt_of_le V.out.t.lt HI.out.t.off.size;have hzW:w.heap.size+1<W.heap.size:=(zG.1 nW).1;have q6:=(F6.block w.heap.size zO zO (fun e=>(hnq.out _ e).1 rfl)).trans qW;have n6:=(F6.block (w.heap.size+1) zO zO (fun e=>(hnq.out _ e).2 rfl)).trans nW;rcases hg6:Zs next vs (qC p.S h' ys) with _|vs'
     ·rw[hg6] at hm dM;obtain rfl:e=.returned (.int .i64 8):=hm;have HB:VolsQ p w1 refs nodes next yK (qC p.S h xs) sU w (.returned (.int .i64 8)) w6:=⟨FW,by rw[HBAD.out dM]⟩
      replace HB:=zH HB;clear q6 n6 FW F6 dM x4 qW nW;go_wp2_with fail;refine Qo ?_;go_wp2_with fail;go_ret;exact HB.out
     ·rw[hg6] at hm dM;obtain⟨rfl,wE,ca',V6,N6⟩:=hm;have IR:VRel p w1 refs nodes (qF s1 s2 s3 s4 gen root next dead) next yK xs h (some ⟨b9,hIL,none⟩) c sU w (.int .i64 ((k:Int)+1)) w6:=by
       refine⟨k+1,vs',wE,ca',aH,rfl,dM,VV next _ _ _ hvs.out hg6,V6,FW,ku.trans nG.out N6 zO,fun q hq=>?_,q6,n6⟩;rcases N6 with e|⟨g,e,e2⟩
       ·exact hnq.out q (e ▸ hq)
       ·rw[e] at hq;cases hq;omega
      replace IR:=zH IR;clear q6 n6 FW F6 dM x4 qW nW V6 N6;go_wp2_with fail;refine Qo ?_;go_wp2_with fail;refine⟨IR.out,?_⟩;simp[intOf];omega
  ·have mD:k=xs.length:=zO;have HQ:VolsQ p w1 refs nodes next yK (qC p.S h xs) sU w (.returned (.int .i64 0)) wr:=by rw[mD,List.take_length] at hgo;exact⟨F,by rw[hgo];exact⟨rfl,vv,ca,V,nG⟩⟩
   replace HQ:=zH HQ;replace V:=zH V;replace F:=zH F;replace nG:=zH nG;replace hnq:=zH hnq;replace hgo:=zH hgo;replace mD:=zH mD;clear qr nr;go_wp2;go_ret;exact HQ.out
end Go.Proofs.YtpbniokljofedaaGreat
