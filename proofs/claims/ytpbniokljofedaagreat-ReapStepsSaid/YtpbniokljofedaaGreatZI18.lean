/- Texts BMake2, Order, Place, PutE, joined. -/
import Derived.Test.YtpbniokljofedaaGreatZI17
set_option linter.unusedSimpArgs false
set_option linter.unusedVariables false
set_option maxHeartbeats 8000000
open Go.Proofs.Tryz
namespace Go.Proofs.YtpbniokljofedaaGreat
open Go.RowKit
theorem or_none (a b:Nat) (ha:a<256) (hb:b<256):(bits .or .u8 (a:Int) (b:Int) != 0)=!(decide (a=0) && decide (b=0)):=by rw[<-qgs a b ha hb];rfl
theorem first_eq {S:Sto} {f:Nat} (hf:f<256) (h:ZK S f=true) (ni:∀ k,8<=k->k<f->ZK S k=false):Zj S≠[]/\QO S=f:=by
 have e:∃ l,Zj S=f :: l:=by
  unfold Zj;have h0:jA S f=[]:=by
   unfold jA;rw[List.filter_eq_nil_iff];intro k hk;have hkf:k<f:=by simpa using hk
   rcases Nat.lt_or_ge k 8 with h8|h8
   ·unfold ZK;simp;omega
   ·rw[ni k h8 hkf];decide
  have h1:=KF S f;rw[if_pos h,h0] at h1;obtain⟨t,ht⟩:=Gg S (show f+1<=256 by omega);exact⟨t,by rw[<-ht,h1];rfl⟩
 obtain⟨l,e⟩:=e;exact⟨by rw[e];simp,by unfold QO;rw[e];rfl⟩
theorem qgY {S:Sto} (h:∀ k,8<=k->k<256->ZK S k=false):Zj S=[]:=by
 unfold Zj jA;rw[List.filter_eq_nil_iff];intro k hk;have hkf:k<256:=by simpa using hk
 rcases Nat.lt_or_ge k 8 with h8|h8
 ·unfold ZK;simp;omega
 ·rw[h k h8 hkf];decide
theorem IsB.keepX {X:Nat->Prop} {lo n:Nat} {l:List UInt8} {v:Value} {w C:World} (h:IsB lo n l v w) (hk:Qa X w C) (hX:∀ q,lo<=q->q<w.heap.size->¬X q):Bys C C.heap.size v l:=by
 obtain⟨A,c,e,⟨A',c',e',hc,hm,hr⟩,hf⟩:=h;refine⟨A',c',e',hc,hm,hr.1,fun hn=>?_⟩;obtain⟨b,off,e2,hb,aF⟩:=hr.2 hn;subst e2;have aP:=hf ⟨b,off,none⟩ _ _ e';have hl:0<(l.map bv).length:=by simpa using hn
 exact⟨b,off,rfl,World.block_lt_of_cell? C ⟨b,off+0,none⟩ (hk _ _ (hX b aP hb) (aF 0 _ (zL hl))),fun j u hu=>hk _ _ (hX b aP hb) (aF j u hu)⟩
theorem WsB.slice {D:Nat->Prop} {B lo b g:Nat} {k:Option Nat} {v:Value} {ws:List (Int×List UInt8)} {w:World} (h:WsB D B lo b g k v ws w):∃ A c,v=.slice A ws.length c:=by
 obtain⟨ps,e,hc,_⟩:=h;rcases hc with ⟨_,_,A,e2,_⟩|⟨q,_,_,how⟩
 ·exact⟨A,_,e2⟩
 ·obtain⟨A,c,e,_⟩:=qy how;exact⟨A,c,e⟩
def VH (D:Nat->Prop) (B lo b g:Nat) (k:Option Nat) (S:Sto) (lvl:Int) (its:List It) (w:World) (e:Ending) (W:World):Prop:=qY lo b g k w W /\
 match zh S lvl its with
 | .error er=>e=.returned (.tuple #[.int .i64 0,.int .i64 er])
 | .ok (f,S')=>e=.returned (.tuple #[.int .i64 (f:Int),.int .i64 0])/\∃ k' D',Zf w.heap.size k k'/\Ks w.heap.size D D'/\Bch D' B lo b g k' S' W
theorem VH.bad {D:Nat->Prop} {B lo b g:Nat} {k:Option Nat} {S:Sto} {lvl:Int} {its:List It} {w W:World} {er:Int} (h:zh S lvl its=.error er) (hB:qY lo b g k w W):VH D B lo b g k S lvl its w (.returned (.tuple #[.int .i64 0,.int .i64 er])) W:=by refine⟨hB,?_⟩;rw[h]
theorem VH.good {D D':Nat->Prop} {B lo b g:Nat} {k k':Option Nat} {S S':Sto} {lvl:Int} {its:List It} {w W:World} {f:Nat} (h:zh S lvl its=.ok (f,S')) (hB:qY lo b g k w W) (hN:Zf w.heap.size k k') (hD:Ks w.heap.size D D') (hb:Bch D' B lo b g k' S' W):VH D B lo b g k S lvl its w (.returned (.tuple #[.int .i64 (f:Int),.int .i64 0])) W:=by refine⟨hB,?_⟩;rw[h];exact⟨rfl,k',D',hN,hD,hb⟩
theorem vx {R:Ending->World->Prop} {a:Act} {W:World} {u v:Value} (h4:a.tmps[4]?.getD undef=u) (h5:a.tmps[5]?.getD undef=v) (hd:a.defers=[]) (hR:R (.returned (.tuple #[u,v])) W):bodyPost prog Tryz.f142 R .ret a W:=by refine bodyPost_ret (v:=.tuple #[u,v]) ?_ hd hR;simp[results,results142,go_sem,h4,h5]
set_option maxRecDepth 100000 in
theorem Tq (D:Nat->Prop) (B lo b g:Nat) (k:Option Nat) (S:Sto) (lvl:Int) (A:Option Addr) (n c:Nat) (its:List It) (mJ:∀ x∈its,jq x) (xI:S.ws.length<=4096) (w:World) (h:Bch D B lo b g k S w) (hx:JZ (B3 b g k) w (.slice A n c) its):Calls prog 142 #[.pointer (some ⟨b,0,none⟩),je lvl A n c] w (VH D B lo b g k S lvl its w):=by
 obtain⟨ik,hzb,uo,hzg,rY,uq,wX⟩:=h.size;have dF:=h.b3;obtain⟨ny,-,-,hA⟩:=hx.now.at_;subst ny;cases hm:Qe lvl its
 case false =>
  have hE:=zH (show zh S lvl its=.error 8 by unfold zh;rw[hm];rfl);have hW:=zH (fun W (hw:Ext w W)=>qfz lvl A its.length c its W (hx.now.ext hw) hm);replace hx:=zH hx;replace h:=zH h;clear hA hm wX dF;go_enter func142,ntmps142;go_wp2_with fail;generalize aA:World.alloc _ _=w1;have x1:Ext w w1:=by rw[<-aA];exact zN _ _
  clear aA;refine(hW.out w1 x1).mono ?_;rintro e w2 ⟨rfl,hB⟩;have x2:Ext w w2:=x1.trans hB;clear hB x1 hW;go_wp2_with fail;exact vx rfl rfl rfl (VH.bad hE.out (qY.of_ext x2 uq))
 case true =>
  have hE:Hid (zh S lvl its=match ZF (qX its) S.now with
   | .error e=>.error e
   | .ok t=>if Zj (qu S t)=[]\/S.ws.length=4096 then .error 9 else .ok (QO (qu S t),KX (qu S t) (QO (qu S t)) (jf (zX lvl its)))):=zH (by unfold zh;rw[hm];rfl)
  obtain⟨oM,um,hl5,hib⟩:=jG hm;have hW:=zH (fun W (hw:Ext w W)=>GC lvl A its.length c its W (hx.now.ext hw) hm mJ);have hX:=zH hx;have hsl:=zH (vD (b:=zX lvl its) (by have:=Ki lvl its.length its.length mJ hl5;rw[Kh] at this;omega));replace hA:=zH hA;replace hib:=zH hib;replace mJ:=zH mJ;replace h:=zH h;replace dF:=zH dF;replace wX:=zH wX;replace xI:=zH xI;clear hx hm oM um;go_enter func142,ntmps142;go_wp2_with fail;generalize aA:World.alloc _ _=w1;have x1:Ext w w1:=by rw[<-aA];exact zN _ _
  have p1:w1.heap[w.heap.size]?=some (.cells #[.int .i64 lvl,.slice A its.length c] 49 (0,0)):=by rw[<-aA];exact zI _ _ _ rfl
  clear aA;refine(hW.out w1 x1).mono ?_;rintro e w2 ⟨u,rfl,⟨u,rfl,hu⟩,hB⟩;have hB:Ext w1 w2:=hB;have x2:Ext w w2:=x1.trans hB;have p2:=qb p1 hB;have kp:=qa p2;have z1:w.heap.size<w1.heap.size:=(zG.1 p1).1;obtain⟨A0,c0,rfl,hu1,hu2⟩:=hu;have hu:IsB w1.heap.size 128 (jf (zX lvl its)) (.slice A0 128 c0) w2:=⟨A0,c0,rfl,hu1,hu2⟩
  replace hu:=zH hu;clear hB x1 p1 hW hu1 hu2;go_wp2_with fail;go_loopw [21] (fun i wr=>∃ (j:Nat) (t:List UInt8),j<=its.length/\i=.int .i64 (j:Int)/\ZF (qX (its.take j)) S.now=.ok t/\Bch D B lo b g k (qu S t) wr/\qY lo b g k w2 wr) (fun i _=>its.length-(intOf i).toNat)
  case atStart=>exact⟨0,S.now,Nat.zero_le _,rfl,rfl,h.out.ext x2,qY.refl _ _ _ _ _⟩
  case round =>
   obtain⟨j,t,hj,rfl,iy,bg,lI⟩:=hrel;have nP:=hX.out.trans ((Qa.of_ext (X:=B3 b g k) x2).trans lI.keepX fun _ _ h=>h) (fun _ _ h=>h);by_cases hlt:j<its.length
   ·obtain⟨bi,off,rfl,hbi⟩:=hA.out zO;obtain⟨A',c',d0,d1,d2,d3,d4,-⟩:=nP.now.item j hlt;have tY:=hib.out its[j] (List.getElem_mem hlt);have yX:its[j].r=0\/(8<=its[j].r/\its[j].r<256):=by unfold itB at tY;simp at tY;exact tY.1
    have ah:=zH (fun e h1=>qfN hlt (e:=e) iy h1);have ae:=zH (fun t' h1=>qem hlt (t'':=t') iy h1);generalize its[j]=x at *;have uS:=zH (IntWalk.wrap64_in ((j:Int)+1) zO);replace iy:=zH iy;replace nP:=zH nP;clear hbi tY;rcases yX with hr0|mX
    ·have hsh2:=zH (ae.out t (by rw[hr0];simp[Jr]));rw[hr0] at d3;have aY:=bg.size.2.2.2.2.2.1;replace bg:=zH bg;replace lI:=zH lI;clear hr0 ah ae kp;go_wp2_with fail;try rw[uS.out]
     refine⟨⟨j+1,t,zO,rfl,hsh2.out,bg.out.ext (zN _ _),lI.out.trans (qY.of_ext (zN _ _) aY) (Zf.refl _ _)⟩,?_⟩;simp[intOf];omega
    ·obtain⟨a,hra⟩:∃ a:Nat,x.r=(a:Int):=⟨x.r.toNat,zO⟩
     have ha8:8<=a:=zO;have ha9:a<256:=zO;have hsa:(x.r).toNat=a:=zO;rw[hra] at d3;rw[hsa] at ah ae;have xH:Hid (Jr t a=if qT t a=0 then .error 6 else if qT t a=255 then .error 70 else .ok (Ye t a 1)):=zH (by unfold Jr;rw[if_neg zO]);have hza:((a:Int) == 0)=false:=by rw[beq_eq_false_iff_ne];omega
     have aY:=bg.size.2.2.2.2.2.1;have HS:=zH (fun W (hW:Ext wr W)=>qeO D B lo b g k (qu S t) a ha9 W (bg.ext hW));replace bg:=zH bg;replace lI:=zH lI;clear kp mX hsa hra;go_wp2_with fail;generalize iG:World.alloc _ _=wa;have xa:Ext wr wa:=by rw[<-iG];exact zN _ _
     have ra:wa.heap[wr.heap.size]?=some (.cells #[.int .u8 x.k,.int .u32 x.i,.int .u32 x.o,.int .i64 (a:Int),.slice A' x.val.length c'] 68 (0,0)):=by rw[<-iG];exact zI _ _ _ rfl
     have ka:=qa ra;clear iG d0 d1 d2 d3 d4;go_wp2_with fail;refine(HS.out wa xa).mono ?_;rintro e wsh ⟨hk2,aQ⟩;have ig:=lI.out.trans ((qY.of_ext xa aY).trans hk2 (Zf.refl _ _)) (Zf.refl _ _);clear HS hk2 ka ra xa;rcases aQ with ⟨dC,rfl⟩|⟨dC,rfl⟩|⟨dC,dV,rfl,dF⟩
     ·have hEE:=zH (show zh S lvl its=.error 6 by rw[hE.out,ah.out 6 (by rw[xH.out,if_pos dC])]);clear hE ah ae xH dC;go_wp2_with fail;exact vx rfl rfl rfl (VH.bad hEE.out ((qY.of_ext x2 uq).trans ig (Zf.refl _ _)))
     ·have hEE:=zH (show zh S lvl its=.error 70 by rw[hE.out,ah.out 70 (by rw[xH.out,if_neg zO,if_pos dC])]);clear hE ah ae xH dC;go_wp2_with fail;exact vx rfl rfl rfl (VH.bad hEE.out ((qY.of_ext x2 uq).trans ig (Zf.refl _ _)))
     ·have IR:∃ (j':Nat) (t':List UInt8),j'<=its.length/\Value.int .i64 ((j:Int)+1)=.int .i64 (j':Int)/\ZF (qX (its.take j')) S.now=.ok t'/\Bch D B lo b g k (qu S t') wsh/\qY lo b g k w2 wsh:=
       ⟨j+1,Ye t a 1,zO,rfl,ae.out _ (by rw[xH.out,if_neg dC,if_neg dV]),dF,ig⟩
      replace IR:=zH IR;clear hE ah ae xH dC dV dF ig lI bg;go_wp2_with fail;try rw[uS.out]
      refine⟨IR.out,?_⟩;simp[intOf];omega
   ·obtain rfl:j=its.length:=zO;rw[List.take_length] at iy;rw[iy] at hE;have hE:Hid (zh S lvl its=if Zj (qu S t)=[]\/S.ws.length=4096 then .error 9 else .ok (QO (qu S t),KX (qu S t) (QO (qu S t)) (jf (zX lvl its)))):=hE;have yx:Hid ((qu S t).ws.length=S.ws.length):=rfl;rw[<-yx.out] at hE xI;generalize qu S t=S' at *;have xk:=(qY.of_ext (b:=b) (g:=g) (k:=k) x2 uq).trans lI (Zf.refl _ _);obtain⟨D',hD'⟩:∃ D':Nat->Prop,D'=fun q=>D q\/(w1.heap.size<=q/\q<w2.heap.size):=⟨_,rfl⟩
    have dF:=dF.out;have hzw:=h.out.size.2.2.2.2.2.1;have hux:=zH (fun C (hC:Qa (YS B D') wr C)=>hu.out.keepX (X:=fun q=>B3 b g k q\/YS B D' q) ((lI.keepX.mono fun q _ h=>.inl h).trans hC fun _ _ h=>.inr h) (fun q h1 h2=>by
     rintro (hx|hx)
     ·have:=(dF q hx).2;omega
     ·exact hx.2 (by rw[hD'];exact .inr ⟨h1,h2⟩)))
    have hDD:∀ q,D q->D' q:=fun q hq=>by rw[hD'];exact .inl hq
    have hDn:Ks w.heap.size D D':=fun q hq=>by rw[hD'] at hq;exact hq.imp id fun h=>zO
    have hDb:∀ W,Ext wr W->∀ q,D' q->lo<=q/\q<W.heap.size/\¬B3 b g k q:=fun W hW q hq=>by
     have hz:=hW.size;have aX:=lI.below.size;rw[hD'] at hq;rcases hq with hq|⟨h1,h2⟩
     ·have:=bg.dB q hq;exact⟨this.1,zO,this.2.2⟩
     ·exact⟨zO,zO,fun hx=>by have:=(dF q hx).2;omega⟩
    have hkD:∀ q,k=some q->¬(q<B\/D' q):=fun q hq hx=>hx.elim (fun h1=>h.out.off q h1 (.inr (.inr hq))) fun h1=>(hDb wr (Ext.refl _) q h1).2.2 (.inr (.inr hq));replace hDb:=zH hDb;replace hDn:=zH hDn;replace hDD:=zH hDD;replace hkD:=zH hkD;clear hD' dF hzw;obtain⟨A1,n1,c1,v2,c3,A4,c4,hr,ho,hwb,bD,iI⟩:=bg.ex;obtain⟨hlen,hAX⟩:=bg.lens;obtain⟨nZ,ui,-,-⟩:=zm ho;obtain⟨b4,o4,rfl,hb4lt,sZ⟩:∃ b4 o4,A4=some ⟨b4,o4,none⟩/\b4<B/\∀ a,a<256->wr.cell? ⟨b4,o4+a,none⟩=some (.int .u8 (VL S' a:Int)):=by obtain⟨A',c',e,_,_,oV⟩:=iI;simp only[Value.slice.injEq] at e;obtain⟨rfl,_,rfl⟩:=e;obtain⟨b4,o4,e,h1,h2⟩:=oV.2 zO;exact⟨b4,o4,e,h1,fun a ha=>h2 a _ (by rw[List.getElem?_map,zL zO];simp[VL,zL (show a<S'.last.length by omega)])⟩
    have nZ:Hid (∀ a,a<256->wr.cell? ⟨g,a,none⟩=some (.int .u8 (ZE S' a:Int))):=zH nZ;have sZ:=zH sZ;have hfr:Hid (∀ k,8<=k->(bits .or .u8 (ZE S' k:Int) (VL S' k:Int) != 0)=!ZK S' k):=zH fun k h8=>by rw[or_none _ _ (qgp S' k) (qdE S' k)];unfold ZK;rw[decide_eq_true h8,Bool.true_and]
    obtain⟨A2,c2,rfl⟩:=hwb.slice;have h5g:=h.out.size;have hEO:=bg.size.2.2.2.2.2.2;replace hEO:=zH hEO;have h0:=h;clear kp hu nP hX hA hib mJ h lI iy yx p2 wX h5g;replace bg:=zH bg;replace hwb:=zH hwb;replace ho:=zH ho;replace bD:=zH bD;replace iI:=zH iI;replace xk:=zH xk;replace ui:=zH ui;replace hlen:=zH hlen;replace hAX:=zH hAX;have hwx:=zH (Ext.refl wr);generalize hwm:wr=wm at *;clear hwm;go_wp2_with fail;go_loopw [4] (fun i wr=>∃ k:Nat,8<=k/\k<=256/\i=.int .i64 (k:Int)/\(∀ j,8<=j->j<k->ZK S' j=false)/\Ext wm wr) (fun i _=>256-(intOf i).toNat)
    case atStart=>exact⟨8,zM _,zO,rfl,fun _ _ h=>zO,Ext.refl _⟩
    case round =>
     obtain⟨f,h8,hf,rfl,ni,fQ⟩:=hrel;replace ni:=zH ni;have r2:=qb hr fQ;by_cases hlt:f<256
     ·have g1:∀ W,qk.r wr W->∀ i,W.cell? ⟨b,i,none⟩=#[.slice A1 n1 c1,.slice A2 S'.ws.length c2,.slice (some ⟨g,0,none⟩) 256 c3,.slice (some ⟨b4,o4,none⟩) 256 c4][i]?:=fun W h=>qa (qb r2 h);have g2:∀ W,qk.r wr W->W.cell? ⟨g,f,none⟩=some (.int .u8 (ZE S' f:Int)):=fun W h=>Ext.cell (fQ.trans h) (nZ.out f hlt);have g3:∀ W,qk.r wr W->W.cell? ⟨b4,o4+f,none⟩=some (.int .u8 (VL S' f:Int)):=fun W h=>Ext.cell (fQ.trans h) (sZ.out f hlt);have hbit:=hfr.out f h8;generalize ZE S' f=nw at *;generalize VL S' f=lw at *;have d1:decide ((f:Int)<256)=true:=decide_eq_true zO;have d2:decide (f<256)=true:=decide_eq_true hlt;have uS:=zH (IntWalk.wrap64_in ((f:Int)+1) zO);have hBC:=zH (fun (h:ZK S' f=false)=>(fun j hj (hlt:j<f+1)=>(Nat.lt_or_ge j f).elim (fun h1=>ni.out j hj h1) fun h1=>by rw[show j=f by omega];exact h:∀ j,8<=j->j<f+1->ZK S' j=false));have pV:=zH (fun (h:ZK S' f=true)=>first_eq hlt h ni.out);generalize ZK S' f=fb at *;have e0:=zH fQ;clear fQ;go_upto_region 13 with fail;refine qm zQ ?_;refine qL (w:=wr) qk (qD []) (List.replicate 22 true) 0 zQ zQ zQ zQ zQ zQ zQ ?st (Rel.drew _ _) ?walk
      case st=>exact qj (fun _ h=>by cases h)
      case walk =>
       intro K hK;dsimp only[qp,List.replicate];repeat ((first|(refine qd ?_ zA0 zA0 (fun W hW _=>⟨W,?_,Rel.refl _ W⟩) ?_;rotate_left;(go_simp<;>with_reducible rfl))|(refine qh zA0 ?_));try simp only[Act.put,ql,qf,qc,qg,zA,zB,zC])
       refine qd (.pointer (some ⟨g,f,none⟩)) zA0 zA0 (fun W hW _=>⟨W,?_,Rel.refl _ W⟩) ?_
       ·go_simp;intro iD;exfalso;omega
       simp only[Act.put,qf,qc,qg,zA,zB,zC];repeat ((first|(refine qd ?_ zA0 zA0 (fun W hW _=>⟨W,?_,Rel.refl _ W⟩) ?_;rotate_left;(go_simp<;>with_reducible rfl))|(refine qh zA0 ?_));try simp only[Act.put,ql,qf,qc,qg,zA,zB,zC])
       refine qd (.pointer (some ⟨b4,o4+f,none⟩)) zA0 zA0 (fun W hW _=>⟨W,?_,Rel.refl _ W⟩) ?_
       ·go_simp;intro iD;exfalso;omega
       simp only[Act.put,qf,qc,qg,zA,zB,zC];repeat ((first|(refine qd ?_ zA0 zA0 (fun W hW _=>⟨W,?_,Rel.refl _ W⟩) ?_;rotate_left;(go_simp<;>with_reducible rfl))|(refine qh zA0 ?_));try simp only[Act.put,ql,qf,qc,qg,zA,zB,zC])
       refine qt (hK _ _ fun W hW hF=>?_);clear hF hK g1 g2 g3;have hW:Ext wr W:=hW;have xE:Ext wm W:=e0.out.trans hW;clear e0 hW;refine zC3 ?_;cases fb
       ·have IR:∃ k':Nat,8<=k'/\k'<=256/\Value.int .i64 ((f:Int)+1)=.int .i64 (k':Int)/\(∀ j,8<=j->j<k'->ZK S' j=false)/\Ext wm W:=⟨f+1,zO,zO,rfl,hBC.out rfl,xE⟩
        replace IR:=zH IR;clear xE ni hBC pV;go_wp2;refine Qm ?_;go_wp2_with fail;try rw[uS.out]
        refine⟨IR.out,?_⟩;simp[intOf];omega
       ·have aN:=zH (pV.out rfl).1;have hfs:=zH (pV.out rfl).2;clear ni hBC pV hbit nZ sZ hfr d1 d2;have r3:=qb hr xE;have k3:=qa r3;have f3:=qe r3;have e1:((f:Int) == 256)=false:=by rw[beq_eq_false_iff_ne];omega
        by_cases hw4:S'.ws.length=4096
        ·have hEE:=zH (show zh S lvl its=.error 9 by rw[hE.out,if_pos (.inr hw4)]);have oM:((S'.ws.length:Int) == 4096)=true:=by rw[beq_iff_eq];omega
         replace hw4:=zH hw4;replace xE:=zH xE;go_wp2;refine Qm ?_;go_wp2_with fail;exact vx rfl rfl rfl (VH.bad hEE.out (xk.out.trans (qY.of_ext xE.out bg.out.size.2.2.2.2.2.1) (Zf.refl _ _)))
        ·have hEE:=zH (show zh S lvl its=.ok (f,KX S' f (jf (zX lvl its))) by rw[hE.out,if_neg (fun h=>h.elim aN.out hw4),hfs.out]);have oM:((S'.ws.length:Int) == 4096)=false:=by rw[beq_eq_false_iff_ne];omega
         replace hw4:=zH hw4;have xw:=zH xE;have zW:=xE.size;have zwm:=bg.out.size.2.2.2.2.2.1;have hbW:=zH ((bg.out.ext xE).mono hDD.out (hDb.out W (hwx.out.trans xE)));clear xE;go_wp2;refine Qm ?_;go_wp2_with (at_builtin;refine qI ?_);have zBlo:=h0.out.blo;refine Qh.go (qcy rfl (.tmp 78) (.tmp 82) rfl rfl rfl ((hwb.out.mono hDD.out).ext xw.out zO) zO hkD.out (by have:=xI.out;omega) (f:Int) A0 128 c0 (jf (zX lvl its)) hsl.out.symm (fun C hC=>hux.out C ((Qa.of_ext (hwx.out.trans xw.out)).trans hC fun _ _ h=>h)) ?_);intro v4 w4 k4 hW4 hK4 hN4 rE;obtain⟨A5,c5,rfl⟩:=hW4.slice;rw[List.length_append,List.length_singleton] at hW4;have r4:=(rE b (zG.1 r3).1 fun e=>(hEO.out b e).2.2.1 rfl).trans r3;have kr4:=qa r4;have fr4:=qe r4;have oW:=QM ho.out xw.out;have o4:=QA oW (w':=w4) fun q hq=>by cases hq;exact rE g (Ql oW g rfl).2 fun e=>(hEO.out g e).2.2.2 rfl
         have kg4:=(zm o4).1 f hlt;have fg4:=(zm o4).2.1 f;have P:=zH (Bch.put hbW.out r3 oW (bD.out.below (Below.mono xw.out zO)) (iI.out.below (Below.mono xw.out zO)) hlt hW4 hK4 hN4 rE);have hAll:Hid (qY lo b g k w _):=zH (xk.out.trans ((qY.of_ext xw.out zwm).trans P.out.2 (Zf.refl _ _)) (Zf.refl _ _));replace hN4:=zH hN4;clear o4 oW rE hW4 r3 k3 f3 hK4;go_wp2_with fail;exact vx rfl rfl rfl (VH.good hEE.out hAll.out (hN4.out.mono (by have:=xk.out.below.size;omega)) hDn.out P.out.1)
     ·have d1:decide ((f:Int)<256)=false:=decide_eq_false zO;have e1:((f:Int) == 256)=true:=by rw[beq_iff_eq];omega
      have hf6:f=256:=zO;have hEE:=zH (show zh S lvl its=.error 9 by rw[hE.out,if_pos (.inl (qgY fun j h8 hj=>ni.out j h8 zO))]);have e0:=zH fQ;replace hf6:=zH hf6;clear fQ nZ sZ hfr ni r2;go_upto_region 13 with fail;refine qm zQ ?_;refine qL (w:=wr) qk (qD []) (List.replicate 22 true) 0 zQ zQ zQ zQ zQ zQ zQ ?st (Rel.drew _ _) ?walk
      case st=>exact qj (fun _ h=>by cases h)
      case walk =>
       intro K hK;dsimp only[qp,List.replicate];repeat ((first|(refine qd ?_ zA0 zA0 (fun W hW _=>⟨W,?_,Rel.refl _ W⟩) ?_;rotate_left;(go_simp<;>with_reducible rfl))|(refine qh zA0 ?_));try simp only[Act.put,ql,qf,qc,qg,zA,zB,zC])
       refine qt (hK _ _ fun W hW hF=>?_);clear hF hK;have hW:Ext wr W:=hW;have xE:Ext wm W:=e0.out.trans hW;clear e0 hW;refine zC3 ?_;replace xE:=zH xE;go_wp2;refine Qm ?_;go_wp2_with fail;exact vx rfl rfl rfl (VH.bad hEE.out (xk.out.trans (qY.of_ext xE.out bg.out.size.2.2.2.2.2.1) (Zf.refl _ _)))
theorem Yl (a b:K3):QH a b=true↔(a.1<b.1\/(a.1=b.1/\(a.2.1<b.2.1\/(a.2.1=b.2.1/\a.2.2<b.2.2)))):=by simp[QH,VO]
theorem VP (a b:K3):QH a b=false↔¬(a.1<b.1\/(a.1=b.1/\(a.2.1<b.2.1\/(a.2.1=b.2.1/\a.2.2<b.2.2)))):=by rw[<-Bool.not_eq_true,Yl]
def leK (a b:K3):Prop:=QH b a=false
theorem Gn (a:K3):leK a a:=by unfold leK;rw[VP];omega
theorem qbW {a b c:K3} (h:leK a b) (h':QH b c=true):QH a c=true:=by unfold leK at h;rw[VP] at h;rw[Yl] at *;omega
theorem Gu {a b c:K3} (h:QH a b=true) (h':leK b c):QH a c=true:=by unfold leK at h';rw[VP] at h';rw[Yl] at *;omega
theorem VM {a b:K3} (h:QH a b=true):leK a b:=by unfold leK;rw[VP];rw[Yl] at h;omega
theorem lt_trans {a b c:K3} (h:QH a b=true) (h':QH b c=true):QH a c=true:=Gu h (VM h')
theorem Xi (a:K3):QH a a=false:=Gn a
theorem leK_eq {a b:K3} (h:leK a b) (h':leK b a):a=b:=by obtain⟨a1,a2,a3⟩:=a;obtain⟨b1,b2,b3⟩:=b;unfold leK at *;rw[VP] at *;simp only[Prod.mk.injEq] at *;omega
structure Srt (f l:K3) (ys:List It):Prop where
 ord:ys.Pairwise fun a b=>QH (qE a) (qE b)=true
 low:∀ x∈ys,leK f (qE x)
 high:∀ x∈ys,leK (qE x) l
 le:leK f l
theorem Srt.append {f l f' l':K3} {ys zs:List It} (h:Srt f l ys) (h':Srt f' l' zs) (hl:QH l f'=true):Srt f l' (ys++zs):=
 ⟨List.pairwise_append.2 ⟨h.ord,h'.ord,fun a ha b hb=>qbW (h.high a ha) (Gu hl (h'.low b hb))⟩,
  fun x hx=>(List.mem_append.1 hx).elim (h.low x) fun hx=>VM (qbW h.le (Gu hl (h'.low x hx))),
  fun x hx=>(List.mem_append.1 hx).elim (fun hx=>VM (qbW (h.high x hx) (Gu hl h'.le))) (h'.high x),
  VM (qbW h.le (Gu hl h'.le))⟩
theorem Srt.one (x:It) {l:K3} (h:leK (qE x) l):Srt (qE x) l [x]:=
 ⟨List.pairwise_singleton _ _,fun y hy=>by rw[List.mem_singleton.1 hy];exact Gn _,fun y hy=>by rw[List.mem_singleton.1 hy];exact h,h⟩
theorem qbS {S:Sto}:∀ (h:Nat) (xs ys:List It),Qs S h (xs++ys)=Qs S h xs++Qs S h ys
 |0,_,_=>rfl
 |h+1,xs,ys=>by rw[ZM,ZM,ZM,List.flatMap_append]
theorem YM (S:Sto) (h:Nat) (H1:∀ y f l,Vx S h y=some (f,l)->Srt f l (Qs S h [y])) (xs:List It):∀ (k:Nat) (_:k<=xs.length) (p:K3×K3),Qg S h (xs.take k)=some (some p)->Srt p.1 p.2 (Qs S h (xs.take k))/\Srt p.1 p.2 (xs.take k):=by
 intro k;induction k with
 |zero=>intro _ p e;rw[List.take_zero] at e;cases e
 |succ k ih =>
  intro hk p e;have hlt:k<xs.length:=hk;rw[vS hlt] at e;unfold Yd at e;rw[List.take_succ_eq_append_getElem hlt,qbS];rcases hO:Vx S h xs[k] with _|⟨f,l⟩
  ·rw[hO] at e;rcases hA:Qg S h (xs.take k) with _|a
   ·rw[hA] at e;cases e
   ·rw[hA] at e;cases e
  ·have h1:=H1 _ _ _ hO;rw[hO] at e;rcases hA:Qg S h (xs.take k) with _|_|q
   ·rw[hA] at e;cases e
   ·obtain rfl:k=0:=by
     rcases Nat.eq_zero_or_pos k with h0|h0
     ·exact h0
     ·exact absurd hA (Zy h0 zO)
    rw[hA] at e;simp only at e;split at e
    ·rename_i hf;cases e;subst hf;rw[List.take_zero,Tv];exact⟨h1,Srt.one _ h1.le⟩
    ·cases e
   ·obtain⟨i1,i2⟩:=ih zO q hA;rw[hA] at e;simp only at e;split at e
    ·rename_i hf;split at e
     ·rename_i hl;cases e;subst hf;exact⟨i1.append h1 hl,i2.append (Srt.one _ h1.le) hl⟩
     ·cases e
    ·cases e
theorem qgr (S:Sto):∀ (h:Nat) (y:It) (f l:K3),Vx S h y=some (f,l)->Srt f l (Qs S h [y])
 |0,y,f,l,e=>by
  unfold Vx at e;split at e
  ·cases e;exact Srt.one y (Gn _)
  ·cases e
 |h+1,y,f,l,e=>by
  rw[Yq] at e;unfold Vu at e;split at e
  ·rcases hn:qv S y.r.toNat with _|⟨lvl,xs⟩
   ·rw[hn] at e;cases e
   ·rw[hn] at e;simp only at e;split at e
    ·rcases hs:Qg S h xs with _|_|q
     ·rw[hs] at e;cases e
     ·rw[hs] at e;cases e
     ·rw[hs] at e;cases e;have:=(YM S h (qgr S h) xs xs.length (zM _) _ (by rw[List.take_length];exact hs)).1;rw[List.take_length] at this;rw[ZM];simp only[List.flatMap_cons,List.flatMap_nil,List.append_nil,hn];exact this
    ·cases e
  ·cases e
theorem qeo {S:Sto} {h:Nat} {xs:List It} {p:K3×K3} (hs:Qg S h xs=some (some p)):Srt p.1 p.2 (Qs S h xs)/\Srt p.1 p.2 xs:=by
 have:=YM S h (qgr S h) xs xs.length (zM _) p (by rw[List.take_length];exact hs)
 rwa [List.take_length] at this
theorem span_ord {S:Sto} {h:Nat} {xs:List It} (hs:(Qg S h xs).isSome=true):(Qs S h xs).Pairwise (fun a b=>QH (qE a) (qE b)=true)/\xs.Pairwise (fun a b=>QH (qE a) (qE b)=true):=by
 rcases hq:Qg S h xs with _|_|p
 ·rw[hq] at hs;cases hs
 ·rcases Nat.eq_zero_or_pos xs.length with h0|h0
  ·obtain rfl:=List.eq_nil_of_length_eq_zero h0;rw[Tv];exact⟨List.Pairwise.nil,List.Pairwise.nil⟩
  ·exact absurd (by rw[List.take_length];exact hq) (Zy (S:=S) (h:=h) h0 (zM xs.length))
 ·exact⟨(qeo hq).1.ord,(qeo hq).2.ord⟩
theorem GF {xs:List It} (h:xs.Pairwise fun a b=>QH (qE a) (qE b)=true) {i j:Nat} (hij:i<j) (hj:j<xs.length):QH (qE (xs[i]'(by omega))) (qE xs[j])=true:=List.pairwise_iff_getElem.1 h i j _ hj hij
theorem qaa {S:Sto} {h:Nat} {xs:List It} (hs:(Qg S h xs).isSome=true) (k:Nat):(Qg S h (xs.take k)).isSome=true:=by
 rcases hq:Qg S h (xs.take k) with _|q
 ·rw[qbs hq] at hs;cases hs
 ·rfl
def qG (xs:List It) (k:K3):Nat:=(xs.filter fun x=>QH (qE x) k).length
theorem JJ (xs:List It) (k:K3):qG xs k<=xs.length:=List.length_filter_le _ _
theorem qfC {xs:List It} {k:K3} {i:Nat} (h:i<xs.length):qG (xs.take (i+1)) k=qG (xs.take i) k+(if QH (qE xs[i]) k=true then 1 else 0):=by
 unfold qG;rw[List.take_succ_eq_append_getElem h,List.filter_append,List.length_append];congr 1;by_cases hl:QH (qE xs[i]) k=true
 ·rw[if_pos hl];simp[hl]
 ·rw[if_neg hl];simp[hl]
theorem JI:∀ {xs:List It} {k:K3},xs.Pairwise (fun a b=>QH (qE a) (qE b)=true)->∀ i (h:i<xs.length),(QH (qE xs[i]) k=true↔i<qG xs k)
 | [],_,_,i,h=>absurd h (Nat.not_lt_zero _)
 |x :: r,k,ho,i,h=>by
  rw[List.pairwise_cons] at ho;by_cases hx:QH (qE x) k=true
  ·have e:qG (x :: r) k=qG r k+1:=by simp[qG,hx]
   cases i with
   |zero=>simp[hx,e]
   |succ i=>rw[e];have:=JI (k:=k) ho.2 i (by simpa using h);simpa using this
  ·have bC:∀ y∈r,QH (qE y) k=false:=fun y hy=>by
    rcases hz:QH (qE y) k with _|_
    ·rfl
    ·exact absurd (lt_trans (ho.1 y hy) hz) hx
   have e:qG (x :: r) k=0:=by
    unfold qG;have:r.filter (fun x=>QH (qE x) k)=[]:=by rw[List.filter_eq_nil_iff];intro y hy;simp[bC y hy]
    simp[hx,this]
   rw[e];cases i with
   |zero=>simp[hx]
   |succ i =>
    have hi:i<r.length:=by simpa using h
    simp[bC r[i] (List.getElem_mem hi)]
theorem GP {p:It->Bool} {xs:List It} {i:Nat} (h:i<xs.length) (hp:p xs[i]=true) (hn:∀ j (hj:j<xs.length),i<j->p xs[j]=false):xs.reverse.find? p=some xs[i]:=by
 have e:xs=xs.take i++xs[i] :: xs.drop (i+1):=by rw[<-List.drop_eq_getElem_cons h,List.take_append_drop]
 have e2:xs.reverse=(xs.drop (i+1)).reverse++xs[i] :: (xs.take i).reverse:=by
  conv=>lhs;rw[e]
  simp
 rw[e2,List.find?_append];have e3:(xs.drop (i+1)).reverse.find? p=none:=by rw[List.find?_eq_none];intro y hy;rw[List.mem_reverse] at hy;obtain⟨j,hj,rfl⟩:=List.mem_iff_getElem.1 hy;rw[List.length_drop] at hj;rw[List.getElem_drop];simp[hn (i+1+j) zO zO]
 rw[e3,List.find?_cons_of_pos hp];rfl
theorem qef {p:It->Bool} {xs:List It} (hn:∀ j (hj:j<xs.length),p xs[j]=false):xs.reverse.find? p=none:=by rw[List.find?_eq_none];intro y hy;rw[List.mem_reverse] at hy;obtain⟨j,hj,rfl⟩:=List.mem_iff_getElem.1 hy;simp[hn j hj]
def XA (xs:List It) (k:K3):Option It:=xs.reverse.find? fun x=>!QH k (qE x)
def leafS (xs:List It) (k:K3):Option It:=xs.reverse.find? fun x=>decide (qE x=k)
def XQ (S:Sto) (k:K3):Nat->List It->Option It
 |0,xs=>leafS xs k
 |h+1,xs=>match XA xs k with
  |none=>none
  |some y=>match qv S y.r.toNat with
   |none=>none
   |some (_,ys)=>XQ S k h ys
theorem qdT (S:Sto) (k:K3) (xs:List It):XQ S k 0 xs=leafS xs k:=rfl
theorem one_down {S:Sto} {k:K3} {h:Nat} {xs ys:List It} {y:It} {lvl:Int} (hd:XA xs k=some y) (hn:qv S y.r.toNat=some (lvl,ys)):XQ S k (h+1) xs=XQ S k h ys:=by show (match XA xs k with|none=>none|some y=>match qv S y.r.toNat with|none=>none|some (_,ys)=>XQ S k h ys)=_;rw[hd];simp only;rw[hn]
theorem one_none {S:Sto} {k:K3} {h:Nat} {xs:List It} (hd:XA xs k=none):XQ S k (h+1) xs=none:=by show (match XA xs k with|none=>none|some y=>match qv S y.r.toNat with|none=>none|some (_,ys)=>XQ S k h ys)=_;rw[hd]
section
variable {xs:List It} {k:K3} (ho:xs.Pairwise fun a b=>QH (qE a) (qE b)=true)
include ho
theorem leaf_is (hp:qG xs k<xs.length) (he:qE (xs[qG xs k]'hp)=k):leafS xs k=some xs[qG xs k]:=by refine GP hp (by simp[he]) fun j hj hlt=>?_;have:=GF ho hlt hj;rw[he] at this;rw[decide_eq_false_iff_not];intro h;rw[h,Xi] at this;cases this
theorem leaf_no (hn:∀ hp:qG xs k<xs.length,qE (xs[qG xs k]'hp)≠k):leafS xs k=none:=by
 refine qef fun j hj=>?_;rw[decide_eq_false_iff_not];intro h;have h1:¬j<qG xs k:=fun hl=>by have:=(JI (k:=k) ho j hj).2 hl;rw[h,Xi] at this;cases this
 have h2:¬qG xs k<j:=fun hl=>by have h3:=GF ho hl hj;rw[h] at h3;exact absurd ((JI (k:=k) ho _ zO).1 h3) (Nat.lt_irrefl _)
 have h4:qG xs k=j:=zO;subst h4;exact hn hj h
theorem down_is (hp:qG xs k<xs.length) (he:qE (xs[qG xs k]'hp)=k):XA xs k=some xs[qG xs k]:=by refine GP hp (by simp[he,Xi]) fun j hj hlt=>?_;have:=GF ho hlt hj;rw[he] at this;simp[this]
theorem down_no (h0:qG xs k=0) (hn:∀ hp:qG xs k<xs.length,qE (xs[qG xs k]'hp)≠k):XA xs k=none:=by
 refine qef fun j hj=>?_;have h1:QH (qE xs[j]) k=false:=by
  rcases hz:QH (qE xs[j]) k with _|_
  ·rfl
  ·have:=(JI ho j hj).1 hz;omega
 rcases hz:QH k (qE xs[j]) with _|_
 ·have he:qE xs[j]=k:=leK_eq hz h1;rcases Nat.eq_zero_or_pos j with hj0|hj0
  ·subst hj0;exact absurd (by simpa [h0] using he) (hn zO)
  ·have h3:=GF ho (i:=0) hj0 hj;rw[he] at h3;have:=(JI ho 0 zO).1 h3;omega
 ·simp
theorem qdn (h0:0<qG xs k) (hn:∀ hp:qG xs k<xs.length,qE (xs[qG xs k]'hp)≠k):XA xs k=some (xs[qG xs k-1]'(by have:=JJ xs k;omega)):=by
 have hle:=JJ xs k;refine GP zO ?_ fun j hj hlt=>?_
 ·have:=(JI (k:=k) ho (qG xs k-1) zO).2 zO;have h2:QH k (qE (xs[qG xs k-1]'(by omega)))=false:=VM this;simp[h2]
 ·have h1:QH (qE xs[j]) k=false:=by
   rcases hz:QH (qE xs[j]) k with _|_
   ·rfl
   ·have:=(JI ho j hj).1 hz;omega
  rcases hz:QH k (qE xs[j]) with _|_
  ·have he:qE xs[j]=k:=leK_eq hz h1;by_cases hjp:qG xs k=j
   ·subst hjp;exact absurd he (hn hj)
   ·have h3:=GF ho (show qG xs k<j by omega) hj;rw[he] at h3;have:=(JI ho _ zO).1 h3;omega
  ·simp
end
def Kv (xs:List It) (k:K3):Bool:=match xs[qG xs k]? with
 |none=>false
 |some x=>decide (qE x=k)
theorem UK {xs:List It} {k:K3} (h:qG xs k<xs.length):Kv xs k=decide (qE xs[qG xs k]=k):=by unfold Kv;rw[zL h]
theorem XB {xs:List It} {k:K3} (h:¬qG xs k<xs.length):Kv xs k=false:=by unfold Kv;rw[List.getElem?_eq_none zO]
theorem key_if (x:It) (k i o:Int) (W:World):(if x.k=k then if x.i=i then if x.o=o then Result.ok (Next.value (Value.bool true)) W else Result.ok (Next.value (Value.bool false)) W else Result.ok (Next.value (Value.bool false)) W else Result.ok (Next.value (Value.bool false)) W)=Result.ok (Next.value (Value.bool (decide (qE x=(k,i,o))))) W:=by
 have e:(qE x=(k,i,o))↔(x.k=k/\x.i=i/\x.o=o):=by unfold qE;simp only[Prod.mk.injEq]
 by_cases h1:x.k=k
 ·by_cases h2:x.i=i
  ·by_cases h3:x.o=o
   ·rw[if_pos h1,if_pos h2,if_pos h3,decide_eq_true (e.2 ⟨h1,h2,h3⟩)]
   ·rw[if_pos h1,if_pos h2,if_neg h3,decide_eq_false (fun h=>h3 (e.1 h).2.2)]
  ·rw[if_pos h1,if_neg h2,decide_eq_false (fun h=>h2 (e.1 h).2.1)]
 ·rw[if_neg h1,decide_eq_false (fun h=>h1 (e.1 h).1)]
theorem qbo {R:Ending->World->Prop} {a:Act} {W:World} {u v:Value} (h2:a.tmps[4]?.getD undef=u) (h3:a.tmps[5]?.getD undef=v) (hd:a.defers=[]) (hR:R (.returned (.tuple #[u,v])) W):bodyPost prog Tryz.f143 R .ret a W:=by refine bodyPost_ret (v:=.tuple #[u,v]) ?_ hd hR;simp[results,results143,go_sem,h2,h3]
set_option maxRecDepth 100000 in
theorem GK (lvl:Int) (A:Option Addr) (c:Nat) (xs:List It) (k i o:Int) (w:World) (hl:xs.length<=5) (h:Its w w.heap.size (.slice A xs.length c) xs):Calls prog 143 #[je lvl A xs.length c,keyV k i o] w (Ret (.tuple #[.int .i64 ((qG xs (k,i,o):Nat):Int),.bool (Kv xs (k,i,o))]) w):=by
 obtain⟨-,dV,az,hA⟩:=h.at_;have HI:=zH h;clear h;go_enter func143,ntmps143;go_wp2_with fail;generalize aA:(World.alloc (World.alloc w _) _)=w1;have x1:Ext w w1:=by rw[<-aA];exact(zN _ _).trans (zN _ _)
 have rn:w1.heap[w.heap.size]?=some (.cells #[.int .i64 lvl,.slice A xs.length c] 49 (0,0)):=by rw[<-aA];exact(zK _ _ _ zA3).trans (zI _ _ _ rfl)
 have rk:w1.heap[w.heap.size+1]?=some (.cells #[.int .u8 k,.int .u32 i,.int .u32 o] 66 (0,0)):=by rw[<-aA];exact zI _ _ _ zA3
 clear aA;go_loopw [4,11] (fun p j wr=>∃ n:Nat,n<=xs.length/\j=.int .i64 (n:Int)/\p=.int .i64 ((qG (xs.take n) (k,i,o):Nat):Int)/\Ext w1 wr) (fun _ j _=>xs.length-(intOf j).toNat)
 case atStart=>exact⟨0,Nat.zero_le _,rfl,rfl,Ext.refl _⟩
 case round =>
  obtain⟨n,hn,rfl,rfl,xr⟩:=hrel;have nT:=x1.trans xr;have kn:=qa (qb rn xr);have kk:=qa (qb rk xr);have zk:w.heap.size+1<wr.heap.size:=(zG.1 (qb rk xr)).1;by_cases hlt:n<xs.length
  ·obtain⟨b,off,rfl,hb⟩:=hA zO;obtain⟨A',c',d0,d1,d2,d3,d4,-⟩:=HI.out.item n hlt;replace d0:=Ext.cell nT d0;replace d1:=Ext.cell nT d1;replace d2:=Ext.cell nT d2;replace d3:=Ext.cell nT d3;replace d4:=Ext.cell nT d4;have HP:=zH (qfC (k:=(k,i,o)) hlt);have bU:=JJ (xs.take n) (k,i,o);rw[List.length_take] at bU;generalize qG (xs.take n) (k,i,o)=pl at *;generalize xs[n]=x at *;go_wp2_with fail;generalize iG:(World.alloc wr _)=wa;have xa:Ext wr wa:=by rw[<-iG];exact zN _ _
   clear iG;refine(KL x.k x.i x.o k i o wa).mono ?_;rintro e wl ⟨rfl,hB⟩;have xl:Ext w1 wl:=xr.trans (xa.trans hB);clear kn kk d0 d1 d2 d3 d4;rcases hls:VO x.k x.i x.o k i o with _|_
   ·have hz:qG (xs.take (n+1)) (k,i,o)=pl:=by rw[HP.out,if_neg (show ¬QH (qE x) (k,i,o)=true from (fun h=>by rw[show QH (qE x) (k,i,o)=false from hls] at h;cases h))];rfl
    replace hz:=zH hz;go_wp2_with fail;refine⟨⟨n+1,hlt,rfl,by rw[hz.out],xl⟩,?_⟩;simp[intOf];omega
   ·have hz:qG (xs.take (n+1)) (k,i,o)=pl+1:=by rw[HP.out,if_pos (show QH (qE x) (k,i,o)=true from hls)]
    replace hz:=zH hz;go_wp2_with fail;refine⟨⟨n+1,hlt,rfl,by rw[hz.out];rfl,xl⟩,?_⟩;simp[intOf];omega
  ·obtain rfl:n=xs.length:=zO;rw[List.take_length];have bU:=JJ xs (k,i,o);go_wp2_with fail;by_cases hp:qG xs (k,i,o)<xs.length
   ·have hia:=UK hp;obtain⟨b,off,rfl,hb⟩:=hA zO;obtain⟨A',c',d0,d1,d2,-,-,-⟩:=HI.out.item _ hp;replace d0:=Ext.cell nT d0;replace d1:=Ext.cell nT d1;replace d2:=Ext.cell nT d2;generalize xs[qG xs (k,i,o)]=x at *;generalize qG xs (k,i,o)=pl at *;generalize iZ:Kv xs (k,i,o)=ie at *;have gN:∀ W,qk.r wr W->∀ i,W.cell? ⟨w.heap.size,i,none⟩=#[.int .i64 lvl,.slice (some ⟨b,off,none⟩) xs.length c][i]?:=fun W h=>qa (qb (qb rn xr) h);have gK:∀ W,qk.r wr W->∀ j,W.cell? ⟨w.heap.size+1,j,none⟩=#[.int .u8 k,.int .u32 i,.int .u32 o][j]?:=fun W h=>qa (qb (qb rk xr) h);have gD:∀ W,qk.r wr W->W.cell? ⟨b,off+pl*5,none⟩=some (.int .u8 x.k)/\W.cell? ⟨b,off+pl*5+1,none⟩=some (.int .u32 x.i)/\W.cell? ⟨b,off+pl*5+2,none⟩=some (.int .u32 x.o):=fun W h=>⟨Ext.cell h d0,Ext.cell h d1,Ext.cell h d2⟩
    have gD0:=fun W h=>(gD W h).1;have gD1:=fun W h=>(gD W h).2.1;have gD2:=fun W h=>(gD W h).2.2;replace hia:=zH hia;clear d0 d1 d2 gD;refine qm zQ ?_;refine qL (w:=wr) qk (qD []) [true,true,true,true,true,true,true,true,true,true,true,true,true,true,true,true,true] 1 zQ zQ zQ zQ zQ zQ zQ ?st (Rel.drew _ _) ?walk
    case st=>exact qj (fun _ h=>by cases h)
    case walk =>
     intro K hK;dsimp only[qp];repeat ((first|(refine qd ?_ zA0 zA0 (fun W hW _=>⟨W,?_,Rel.refl _ W⟩) ?_;rotate_left;(go_simp<;>with_reducible rfl))|(refine qh zA0 ?_));try simp only[Act.put,ql,qf,qc,qg,zA,zB,zC])
     refine qd (.bool ie) zA0 zA0 (fun W hW _=>⟨W,?_,Rel.refl _ W⟩) ?_
     ·go_simp;rw[hia.out];exact key_if x k i o W
     simp only[Act.put,qf,qc,qg,zA,zB,zC];repeat ((first|(refine qd ?_ zA0 zA0 (fun W hW _=>⟨W,?_,Rel.refl _ W⟩) ?_;rotate_left;(go_simp<;>with_reducible rfl))|(refine qh zA0 ?_));try simp only[Act.put,ql,qf,qc,qg,zA,zB,zC])
     refine qt (hK _ _ fun W hW hF=>?_);clear hF hK gN gK gD0 gD1 gD2;have ay:Ext wr W:=hW;refine zB5 ?_;go_wp2;refine Qm ?_;go_wp2_with fail;exact qbo rfl rfl rfl ⟨rfl,nT.trans ay⟩
   ·have hia:=XB hp;have gN:∀ W,qk.r wr W->∀ i,W.cell? ⟨w.heap.size,i,none⟩=#[.int .i64 lvl,.slice A xs.length c][i]?:=fun W h=>qa (qb (qb rn xr) h);generalize qG xs (k,i,o)=pl at *;generalize iZ:Kv xs (k,i,o)=ie at *;replace hia:=zH hia;refine qm zQ ?_;refine qL (w:=wr) qk (qD []) [true,true,true,true,true,true,true,true,true,true,true,true,true,true,true,true,true] 1 zQ zQ zQ zQ zQ zQ zQ ?st (Rel.drew _ _) ?walk
    case st=>exact qj (fun _ h=>by cases h)
    case walk =>
     intro K hK;dsimp only[qp];repeat ((first|(refine qd ?_ zA0 zA0 (fun W hW _=>⟨W,?_,Rel.refl _ W⟩) ?_;rotate_left;(go_simp<;>with_reducible rfl))|(refine qh zA0 ?_));try simp only[Act.put,ql,qf,qc,qg,zA,zB,zC])
     refine qt (hK _ _ fun W hW hF=>?_);clear hF hK gN;have ay:Ext wr W:=hW;refine zB5 ?_;go_wp2;refine Qm ?_;go_wp2_with fail;exact qbo rfl rfl rfl ⟨by rw[hia.out];rfl,nT.trans ay⟩
theorem TA (lvl:Int) (A:Option Addr) (c:Nat) (xs:List It) (k i o:Int) (lo:Nat) (w:World) (hl:xs.length<=5) (h:Zv lo w (.slice A xs.length c) xs):Calls prog 143 #[je lvl A xs.length c,keyV k i o] w (Ret (.tuple #[.int .i64 ((qG xs (k,i,o):Nat):Int),.bool (Kv xs (k,i,o))]) w):=GK lvl A c xs k i o w hl h.its
def QG:List Nat->List UInt8->Except Int (List UInt8)
 | [],t=>.ok t
 |a :: r,t=>if a=0 then QG r t else if qT t a=0 then .error 6 else QG r (ZL t a)
theorem jV (r:List Nat) (t:List UInt8):QG (0 :: r) t=QG r t:=by simp[QG]
theorem Jo {a:Nat} (ha:a≠0) {t:List UInt8} (h:qT t a=0) (r:List Nat):QG (a :: r) t=.error 6:=by simp only[QG];rw[if_neg ha,if_pos h]
theorem jU {a:Nat} (ha:a≠0) {t:List UInt8} (h:qT t a≠0) (r:List Nat):QG (a :: r) t=QG r (ZL t a):=by simp only[QG];rw[if_neg ha,if_neg h]
theorem jF:∀ (l r:List Nat) (t:List UInt8),QG (l++r) t=match QG l t with
  | .error e=>.error e
  | .ok t'=>QG r t'
 | [],_,_=>rfl
 |a :: l,r,t=>by
  by_cases ha:a=0
  ·subst ha;rw[List.cons_append,jV,jV];exact jF l r t
  ·by_cases h:qT t a=0
   ·rw[List.cons_append,Jo ha h,Jo ha h]
   ·rw[List.cons_append,jU ha h,jU ha h];exact jF l r _
def vJ (S:Sto):Nat->Int->List UInt8->Nat->Option (List UInt8)
 |0,_,_,_=>none
 |h+1,lvl,t,a=>if qT t a=0 then none else if 1<qT t a then some (ZL t a) else
  match qv S a with
  |none=>none
  |some (l,xs)=>if 0<=lvl/\l≠lvl then none else if 0<l then (qX xs).foldl (fun acc r=>acc.bind fun t=>vJ S h (l-1) t r) (some (t.set a 0)) else
   match QG (qX xs) (t.set a 0) with
   | .error _=>none
   | .ok t'=>some t'
theorem Vf (S:Sto) (h:Nat) (lvl:Int) (t:List UInt8) (a:Nat):vJ S (h+1) lvl t a=if qT t a=0 then none else if 1<qT t a then some (ZL t a) else
  match qv S a with
  |none=>none
  |some (l,xs)=>if 0<=lvl/\l≠lvl then none else if 0<l then (qX xs).foldl (fun acc r=>acc.bind fun t=>vJ S h (l-1) t r) (some (t.set a 0)) else
   match QG (qX xs) (t.set a 0) with
   | .error _=>none
   | .ok t'=>some t':=rfl
theorem Uh (S:Sto):∀ (h:Nat) (lvl:Int) (t:List UInt8) (a:Nat),0<=lvl->lvl<h->vJ S (h+1) lvl t a=vJ S h lvl t a
 |0,lvl,t,a,h0,h1=>zO
 |h+1,lvl,t,a,h0,h1=>by
  rw[Vf,Vf];split
  ·rfl
  ·split
   ·rfl
   ·split
    ·rfl
    ·rename_i l xs _;split
     ·rfl
     ·rename_i hl;have e:l=lvl:=by
       by_cases h:l=lvl
       ·exact h
       ·exact absurd ⟨h0,h⟩ hl
      subst e;split
      ·rename_i hp;congr 1;funext acc r;congr 1;funext t;exact Uh S h (l-1) t r zO zO
      ·rfl
theorem zt {S:Sto} {a:Nat} {lvl:Int} {xs:List It} (h:qv S a=some (lvl,xs)):0<=lvl/\lvl<6/\xs.length<=5:=by have:=jG (Qc h).1;exact⟨this.1,this.2.1,this.2.2.1⟩
def Qz (S:Sto) (lvl:Int) (t:List UInt8) (a:Nat):Option (List UInt8):=vJ S 7 lvl t a
def jL (S:Sto):List (Nat×Int)->List UInt8->Option (List UInt8)
 | [],t=>some t
 |x :: r,t=>match Qz S x.2 t x.1 with
  |none=>none
  |some t'=>jL S r t'
theorem YH (S:Sto):∀ (l r:List (Nat×Int)) (t:List UInt8),jL S (l++r) t=match jL S l t with
  |none=>none
  |some t'=>jL S r t'
 | [],_,_=>rfl
 |x :: l,r,t=>by
  simp only[List.cons_append,jL];cases Qz S x.2 t x.1 with
  |none=>rfl
  |some t'=>exact YH S l r t'
theorem Uj (S:Sto) (l:Int):∀ (rs:List Nat) (o:Option (List UInt8)),rs.foldl (fun acc r=>acc.bind fun t=>Qz S l t r) o=o.bind fun t=>jL S (rs.map fun r=>(r,l)) t
 | [],o=>by cases o <;> rfl
 |a :: r,o=>by
  rw[List.foldl_cons,Uj S l r];cases o with
  |none=>rfl
  |some t =>
   simp only[Option.bind_some,List.map_cons,jL];cases Qz S l t a <;> rfl
theorem KK (S:Sto) (lvl:Int) (t:List UInt8) (a:Nat):Qz S lvl t a=if qT t a=0 then none else if 1<qT t a then some (ZL t a) else
  match qv S a with
  |none=>none
  |some (l,xs)=>if 0<=lvl/\l≠lvl then none else if 0<l then jL S ((qX xs).map fun r=>(r,l-1)) (t.set a 0) else
   match QG (qX xs) (t.set a 0) with
   | .error _=>none
   | .ok t'=>some t':=by
 obtain⟨h,hh⟩:∃ h,h=6:=⟨_,rfl⟩
 have L1:∀ lvl t a,Qz S lvl t a=vJ S (h+1) lvl t a:=fun lvl t a=>by rw[hh];rfl
 rw[L1,Vf];have key:∀ l xs,qv S a=some (l,xs)->0<l->(qX xs).foldl (fun acc r=>acc.bind fun t=>vJ S h (l-1) t r) (some (t.set a 0))=jL S ((qX xs).map fun r=>(r,l-1)) (t.set a 0):=fun l xs hn h0=>by
  obtain⟨_,h6,_⟩:=zt hn;have e1:=Uj S (l-1) (qX xs) (some (t.set a 0));rw[Option.bind_some] at e1;rw[<-e1];have e:(fun (acc:Option (List UInt8)) (r:Nat)=>acc.bind fun t=>vJ S h (l-1) t r)=fun acc r=>acc.bind fun t=>Qz S (l-1) t r:=by
   funext acc r;cases acc with
   |none=>rfl
   |some t =>
    simp only[Option.bind_some];rw[L1,Uh S h (l-1) t r zO zO]
  rw[e]
 split
 ·rfl
 ·split
  ·rfl
  ·split
   ·rfl
   ·rename_i l xs hn;split
    ·rfl
    ·split
     ·rename_i h0;exact key l xs hn h0
     ·rfl
def mkIt (k:K3) (r:Nat):It:=⟨k.1,k.2.1,k.2.2,(r:Int),[]⟩
def Tw (p:List It):K3:=match p with
 | []=>(0,0,0)
 |x :: _=>qE x
def jw (lvl:Int):List (List It)->Sto->Except Int (List It×Sto)
 | [],S=>.ok ([],S)
 |p :: r,S=>match zh S lvl p with
  | .error e=>.error e
  | .ok (f,S')=>match jw lvl r S' with
   | .error e=>.error e
   | .ok (up,S'')=>.ok (mkIt (Tw p) f :: up,S'')
def Vi (l:List It):List (List It):=if 5<l.length then [l.take 3,l.drop 3] else [l]
def QZ (S:Sto) (lvl:Int) (l held:List It):Except Int (List It×Sto):=match jw lvl (Vi l) S with
 | .error e=>.error e
 | .ok (up,S')=>match QG (qX held) S'.now with
  | .error e=>.error e
  | .ok t=>.ok (up,qu S' t)
def Ko (xs:List It) (p many:Nat) (up:List It):List It:=xs.take p++up++xs.drop (p+many)
def VD (S:Sto) (k:K3):Nat->List It->List (Nat×List It×Nat)
 |0,xs=>[(0,xs,qG xs k)]
 |h+1,xs=>(h+1,xs,if Kv xs k=true then qG xs k else qG xs k-1) :: match xs[if Kv xs k=true then qG xs k else qG xs k-1]? with
  |none=>[]
  |some y=>match qv S y.r.toNat with
   |none=>[]
   |some (_,ys)=>VD S k h ys
def VR (k:K3) (lvl:Nat) (xs:List It):Nat:=if lvl=0/\Kv xs k=false then 0 else 1
def ju (k:K3):List (Nat×List It×Nat)->List It->Sto->Except Int (List It×Sto)
 | [],up,S=>.ok (up,S)
 |(lvl,xs,p) :: r,up,S=>match QZ S (lvl:Int) (Ko xs p (VR k lvl xs) up) up with
  | .error e=>.error e
  | .ok (up',S')=>ju k r up' S'
def Ut (k:K3) (l:List (Nat×List It×Nat)):Bool:=decide (l.length=6) && (l.all fun s=>!decide (s.2.1.length<5)) && !(match l.getLast? with
 |none=>false
 |some s=>Kv s.2.1 k)
def putX (S:Sto) (L:Nat) (xs:List It) (root:Nat) (x:It):Except Int (Nat×Sto):=
 if Ut (qE x) (VD S (qE x) L xs)=true then .error 120 else
 match ju (qE x) (VD S (qE x) L xs).reverse [x] S with
 | .error e=>.error e
 | .ok (up,S1)=>match (if 1<up.length then QZ S1 ((VD S (qE x) L xs).length:Int) up up else .ok (up,S1)) with
  | .error e=>.error e
  | .ok (up',S2)=>match Qz S2 (-1) S2.now root with
   |none=>.error 8
   |some t=>.ok (match up' with
    | []=>0
    |y :: _=>y.r.toNat,qu S2 t)
end Go.Proofs.YtpbniokljofedaaGreat
