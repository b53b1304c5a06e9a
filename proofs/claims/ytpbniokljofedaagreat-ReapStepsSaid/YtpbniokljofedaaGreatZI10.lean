/- Texts CRead2, CLevels, TreeW, FreeT, VolsW, joined. -/
import Derived.Test.YtpbniokljofedaaGreatZI09
set_option linter.unusedSimpArgs false
set_option linter.unusedVariables false
set_option maxHeartbeats 8000000
open Go.Proofs.Tryz
namespace Go.Proofs.YtpbniokljofedaaGreat
open Go.RowKit
theorem cen_now {p:CP} {W:World} {g:Int->Option Value} (hC:Cen p W g):∃ b3 o3 c3,p.v3=.slice (some ⟨b3,o3,none⟩) 256 c3/\256<=c3/\c3<=maxLen:=by obtain⟨_,_,nJ,_⟩:=qQ hC.may;have hn:=hC.sto.now;obtain⟨A3,c3,e3,_⟩:=hC.sto.now;rw[e3] at hn;obtain⟨_,sO,tC,uI⟩:=hn.at_;obtain⟨b3,o3,rfl,_⟩:=uI zO;rw[nJ] at e3 sO;exact⟨b3,o3,c3,e3,sO,tC⟩
theorem qbL {p:CP} {W:World} {g:Int->Option Value} (hC:Cen p W g) {b3 o3 c3:Nat} (h3:p.v3=.slice (some ⟨b3,o3,none⟩) 256 c3) {a:Nat} (ha:a<256):W.cell? ⟨b3,o3+a,none⟩=some (.int .u8 ((p.S.now[a]?.getD 0).toNat:Int)):=by obtain⟨_,_,nJ,_⟩:=qQ hC.may;obtain⟨A',c',e,_,_,hr⟩:=hC.sto.now;rw[h3,Value.slice.injEq] at e;obtain⟨rfl,_,rfl⟩:=e;obtain⟨b',off',e,_,hc⟩:=hr.2 zO;simp only[Option.some.injEq,Addr.mk.injEq,and_true] at e;obtain⟨rfl,rfl⟩:=e;exact hc a _ (by rw[List.getElem?_map,zL zO];rfl)
theorem Tb {R:Ending->World->Prop} {a:Act} {W:World} {b:Nat} {lvl:Int} {A:Option Addr} {n c:Nat} {f l:K3} {bo:Bool} (h4:a.tmps[4]?.getD undef=.pointer (some ⟨b,0,none⟩)) (hd:a.defers=[]) (aC:W.heap[b]?=some (.cells (jC lvl A n c f l bo) 135 (0,0))) (hR:R (.returned (ZV lvl A n c f l bo)) W):bodyPost prog Tryz.f134 R .ret a W:=by
 refine bodyPost_ret (v:=ZV lvl A n c f l bo) ?_ hd hR;have k:=qa aC;simp[results,results134,go_sem,h4,k]
theorem RdI.bad {p:CP} {h:Nat} {xs:List It} {A:Option Addr} {c:Nat} {w wr:World} {f g:Int->Option Value} {k:Nat} {fk lk:K3} (H:RdI p h xs A c w f wr g k fk lk) (hC:Cen p w f) (hb:Qg p.S h xs=none):YT p f (qcE p h A c xs) w (.returned (ZV h A xs.length c (0,0,0) (0,0,0) false)) (((((((((wr.setCell ⟨w.heap.size+1,0,none⟩ (.int .i64 h)).setCell ⟨w.heap.size+1,1,none⟩ (.slice A xs.length c)).setCell ⟨w.heap.size+1,2,none⟩ (.int .u8 0)).setCell ⟨w.heap.size+1,3,none⟩ (.int .u32 0)).setCell ⟨w.heap.size+1,4,none⟩ (.int .u32 0)).setCell ⟨w.heap.size+1,5,none⟩ (.int .u8 0)).setCell ⟨w.heap.size+1,6,none⟩ (.int .u32 0)).setCell ⟨w.heap.size+1,7,none⟩ (.int .u32 0)).setCell ⟨w.heap.size+1,8,none⟩ (.bool false)):=
 H.ret hC (Vt _ _ _ _ _ _ _ _ _) ⟨(0,0,0),(0,0,0),false,rfl,⟨by rw[hb];rfl,fun q hq=>by rw[hb] at hq;cases hq⟩,fun h=>by cases h⟩
set_option maxRecDepth 100000 in
theorem qaW (p:CP) (h:Nat) (HL:∀ h':Nat,h=h'+1->qeD p (h':Int)):ReadC p h:=by
 intro xs A c w f hmay oq aG hC;have hIW:=aG.its;obtain⟨-,dV,az,hA⟩:=hIW.at_;have hlen:xs.length<=5:=by unfold Qe jv at hmay;simp at hmay;omega
 have hKA:h<=5:=by unfold Qe jv at hmay;simp at hmay;omega
 replace hKA:=zH hKA;have lM:=hC.low;have HI:=zH hIW;have HXS:=zH oq;have HC:=zH hC;have HLow:=zH lM;clear aG hIW hmay oq hC lM;go_enter func134,ntmps134;go_wp2;generalize aA:(World.alloc (World.alloc _ _) _)=w1;have x1:Ext w w1:=by rw[<-aA];exact((zN _ _).trans (zN _ _)).trans (zN _ _)
 have H1:RdI p h xs A c w f w1 f 0 (0,0,0) (0,0,0):=by
  refine⟨?_,?_,?_,⟨rfl,fun p hp=>by cases hp⟩,fun _ y hy=>by simp at hy,Jf.refl _,(HC.out.ext x1).map,zy x1 _,fun a v h1 h0=>by rw[h1] at h0;cases h0⟩
  ·rw[<-aA];exact(zK _ _ _ zA2).trans ((zK _ _ _ zA3).trans (zI _ _ _ rfl))
  ·rw[<-aA];exact(zK _ _ _ zA3).trans (zI _ _ _ zA3)
  ·rw[<-aA];exact zI _ _ _ zA3
 clear aA;replace H1:=zH H1;go_loopw [14] (fun i wr=>∃ (k:Nat) (g:Int->Option Value) (fk lk:K3),k<=xs.length/\i=.int .i64 (k:Int)/\RdI p h xs A c w f wr g k fk lk) (fun i _=>xs.length-(intOf i).toNat)
 case atStart=>exact⟨0,f,_,_,zO,rfl,H1.out⟩
 case round =>
  obtain⟨k,g,fk,lk,hk,rfl,HR⟩:=hrel;clear H1 x1;have zr:=HR.gw.size;have HCr:=HR.cen HC.out;have mP:=js HC.out.map HR.mp HR.gw;have rnr:=HR.rn;have yt:=HR.rx;have yl:=HR.rr;have z2:w.heap.size+2<wr.heap.size:=(zG.1 yt).1;by_cases hlt:k<xs.length
  ·have aJ:=hlt;obtain⟨b,off,rfl,hb⟩:=hA zO;obtain⟨A',c',d0,d1,d2,d3,d4,-⟩:=HI.out.item k aJ;rw[<-mP _ (by simpa using hb)] at d0 d1 d2 d3 d4;clear mP;have nP:=HXS.out xs[k] (List.getElem_mem aJ);obtain⟨b3,o3,c3,e3,sO,tC⟩:=cen_now HCr;have HSTEP:=zH (fun f l b=>@qhB p.S h xs k f l fk lk b aJ);have HSTOK:=zH (fun f l=>@round_ok p.S h xs k f l fk lk aJ);have HMEM:=zH (List.getElem_mem aJ);have HTK:=zH (List.take_succ_eq_append_getElem aJ);generalize xs[k]=x at *;obtain⟨⟨-,-,-,hr0,-⟩,-⟩:=nP;obtain⟨hBT,hBU⟩:=hr0;obtain⟨r,hr⟩:=Int.eq_ofNat_of_zero_le hBT;rw[hr] at d3 hBU;have hr2:r<256:=zO;replace hr:=zH hr;have knr:=qa rnr;have kxr:=qa yt;have hfN:=fun W (hx:Ext wr W)=>qbL (HCr.ext hx) e3 hr2;generalize iw:(p.S.now[r]?.getD 0).toNat=nv at *;replace iw:=zH iw;unfold maxLen at tC;clear hBT hBU;have hfN0:=hfN wr (Ext.refl _);replace hfN:=zH hfN;go_wp2_with fail;generalize iG:(World.alloc _ _)=wa;have xa:Ext wr wa:=by rw[<-iG];exact zN _ _
   have ra:wa.heap[wr.heap.size]?=some (.cells #[.int .u8 x.k,.int .u32 x.i,.int .u32 x.o,.int .i64 r,.slice A' x.val.length c'] 68 (0,0)):=by rw[<-iG];exact zI _ _ _ rfl
   clear iG d0 d1 d2 d3 d4 hfN0;have HCa:=HCr.ext xa;have uJ:=HCa.c2;rw[e3] at uJ;have gC:∀ W,qk.r wa W->W.cell? ⟨p.cb,2,none⟩=some (.slice (some ⟨b3,o3,none⟩) 256 c3):=fun W h=>by rw[qa (qb HCa.row h)];exact uJ
   have gN:∀ W,qk.r wa W->W.cell? ⟨b3,o3+r,none⟩=some (.int .u8 (nv:Int)):=fun W h=>hfN.out W (xa.trans h);have gI:∀ W,qk.r wa W->∀ i,W.cell? ⟨wr.heap.size,i,none⟩=#[.int .u8 x.k,.int .u32 x.i,.int .u32 x.o,.int .i64 r,.slice A' x.val.length c'][i]?:=fun W h=>qa (qb ra h);clear uJ knr kxr hfN;obtain⟨y9,nH⟩:∃ y9:Bool,y9=decide (x.r=0\/0<nv):=⟨_,rfl⟩
   replace nH:=zH nH;have hr0:(((r:Int) == 0)=true/\decide (r=0)=true/\y9=true)\/(((r:Int) == 0)=false/\decide (r=0)=false/\y9=decide (0<nv)):=by
    rw[nH.out,hr.out];rcases Nat.eq_zero_or_pos r with h0|h0
    ·subst h0;exact .inl ⟨zA1,zA1,zA3⟩
    ·exact .inr ⟨by rw[beq_eq_false_iff_ne];omega,decide_eq_false zO,by rw[decide_eq_decide];omega⟩
   refine qm zQ ?_;refine Zo (w:=wa) qk (qD [(20,jO wa.heap.size 135 (jC 0 none 0 0 (0,0,0) (0,0,0) false))]) [true,true,true,true,true,true,true,true,true,true,true,true,true,true,true,true,true,true,true,true,true] 1 zQ zQ zQ zQ zQ zQ ?st (Rel.drew _ _) ?walk
   case st=>exact qj (by simp only[List.forall_mem_cons];exact⟨fun p=>QI (ZX _ _ _ p),fun _ h=>by cases h⟩)
   case walk =>
    intro K hK;dsimp only[qp];rcases hr0 with ⟨yF,nK,nM⟩|⟨yF,nK,nM⟩
    all_goals
     replace nM:=zH nM;repeat ((first|(refine qd ?_ zA0 zA0 (fun W hW _=>⟨W,?_,Rel.refl _ W⟩) ?_;rotate_left;(go_simp<;>with_reducible rfl))|(refine qh zA0 ?_));try simp only[Act.put,ql,qf,qc,qg,qc,zA,zB,zC])
     try (
      refine qd (.pointer (some ⟨b3,o3+r,none⟩)) zA0 zA0 (fun W hW _=>⟨W,?_,Rel.refl _ W⟩) ?_
      ·go_simp;intro iD;exfalso;omega
      simp only[Act.put,qf,qc,qg,qc,zA,zB,zC])
     repeat ((first|(refine qd ?_ zA0 zA0 (fun W hW _=>⟨W,?_,Rel.refl _ W⟩) ?_;rotate_left;(go_simp<;>with_reducible rfl))|(refine qh zA0 ?_));try simp only[Act.put,ql,qf,qc,qg,qc,zA,zB,zC])
     refine qw (jO wa.heap.size 135 (jC 0 none 0 0 (0,0,0) (0,0,0) false)) zA0 zA0 (fun W hW _=>?_) (fun (p8:Nat)=>?_)
     ·refine jT ?_ (Below.size hW);go_simp
     simp only[Act.put,qf,qc,qg,qc,zA,zB,zC];refine qt (hK _ _ fun W hW hF=>?_);obtain⟨f8,aP⟩:W.heap[p8]?=some (.cells (jC 0 none 0 0 (0,0,0) (0,0,0) false) 135 (0,0))/\wa.heap.size<=p8:=(hF 20).1;clear hF hK gC gN gI;have ay:Ext wa W:=hW;refine zB5 ?_;have k8:=qa f8;have h8:=qe f8;go_wp2;refine Qm ?_;have x5:Ext wa _:=JU ay aP (.int .i64 0) (.slice none 0 0) (.int .u8 x.k) (.int .u32 x.i) (.int .u32 x.o) (.int .u8 x.k) (.int .u32 x.i) (.int .u32 x.o) (.bool y9);have r8:=vP f8 rfl (.int .i64 0) (.slice none 0 0) (.int .u8 x.k) (.int .u32 x.i) (.int .u32 x.o) (.int .u8 x.k) (.int .u32 x.i) (.int .u32 x.o) (.bool y9);rw[nM.out] at x5 r8;generalize aK:(World.setCell (World.setCell (World.setCell (World.setCell (World.setCell (World.setCell (World.setCell (World.setCell (World.setCell W _ _) _ _) _ _) _ _) _ _) _ _) _ _) _ _) _ _)=w5 at *;rw[<-nM.out] at r8;clear aK k8 h8 f8 hW ay yF nK;have H5:=HR.ext HC.out (xa.trans x5);have r5:=qb ra x5;have z8:wr.heap.size<p8:=Nat.lt_of_lt_of_le (zG.1 ra).1 aP;have z8':p8<w5.heap.size:=(zG.1 r8).1;have kn5:=qa H5.rn;rcases Nat.eq_zero_or_pos h with hz|hz
     case' inl =>
      have HO:YB p.S h x (qE x) (qE x) y9:=by
       rw[hz];unfold YB Vx;rw[nH.out,hr.out,Int.toNat_natCast,iw.out];split
       ·rename_i hh;split at hh
        ·cases hh
        ·rename_i hn;exact decide_eq_false hn
       ·rename_i hh;split at hh
        ·rename_i hn;cases hh;exact⟨decide_eq_true hn,rfl⟩
        ·cases hh
      have hd3:¬0<h:=zO;obtain⟨g',H7,HCL⟩:∃ g',RdI p h xs (some ⟨b,off,none⟩) c w f w5 g' k fk lk/\Hid (y9=true->0<h->(g' x.r).isSome=true):=⟨g,H5,zH fun _ h0=>absurd h0 hd3⟩
      replace r8:w5.heap[p8]?=some (.cells (jC 0 none 0 0 (qE x) (qE x) y9) 135 (0,0)):=r8;generalize hF1:qE x=F1 at r8 HO;obtain⟨L1,hL1⟩:∃ L1,L1=F1:=⟨_,rfl⟩
      replace HO:Hid (YB p.S h x F1 L1 y9):=zH (by rw[hL1];exact HO);replace r8:w5.heap[p8]?=some (.cells (jC 0 none 0 0 F1 L1 y9) 135 (0,0)):=by rw[hL1];exact r8
      replace hz:=zH hz;replace H5:=zH H5;replace H7:=zH H7;generalize y9=B at r8 HO HCL;clear nH nM hF1 hL1;go_upto_region 8 with fail
     case' inr =>
      obtain⟨h',hh⟩:∃ h',h=h'+1:=⟨h-1,zO⟩
      have HLc:=HL h' hh;rw[show (h':Int)=(h:Int)-1 by omega] at HLc;have iQ:wrap64 ((h:Int)-1)=(h:Int)-1:=IntWalk.wrap64_in _ (by have:=hKA.out;omega);replace hh:=zH hh;have ki5:=qa r5;go_wp2_with fail;refine(HLc r w5 g (H5.cen HC.out)).mono ?_;rintro e w6 ⟨v,g',rfl,⟨lvl,A9,n9,c9,F1,L1,rfl,bZ⟩,bP,hm,hg,hn⟩;have hQP:=HLow.out;have C6:=(H5.cen HC.out).after bP hm hg hn;have HO:Hid (YB p.S h x F1 L1 (okL p.S (h-1) r)):=by
       refine zH ?_;rw[show (h:Int)-1=(h':Int) by have:=hh.out;omega] at bZ ⊢;have bJ:okL p.S (h':Int) r=true->Vu p.S h' r=some (F1,L1):=fun hok=>qdg (C6.known _ _ (bZ hok)) hok;have hol:=qbi p.S h' r;unfold YB;rw[hh.out,Yq,hr.out];rcases hls:Vu p.S h' r with _|q
       ·rw[hls] at hol;exact hol
       ·rw[hls] at hol;have h1:=bJ hol;rw[hls] at h1;cases h1;exact⟨hol,rfl⟩
      have HCL:Hid (okL p.S (h-1) r=true->0<h->(g' x.r).isSome=true):=zH fun hok _=>by rw[hr.out,bZ hok];rfl
      generalize okL p.S ((h:Int)-1) r=B at *;have b8:=(hg.block p8 z8' zA2).trans r8;have H7:=HR.call8 HC.out (xa.trans x5) bP hm hg hn (b:=p8) zO z8' (Vt (.int .i64 lvl) (.slice A9 n9 c9) (.int .u8 F1.1) (.int .u32 F1.2.1) (.int .u32 F1.2.2) (.int .u8 L1.1) (.int .u32 L1.2.1) (.int .u32 L1.2.2) (.bool B));have r9:=vP b8 rfl (.int .i64 lvl) (.slice A9 n9 c9) (.int .u8 F1.1) (.int .u32 F1.2.1) (.int .u32 F1.2.2) (.int .u8 L1.1) (.int .u32 L1.2.1) (.int .u32 L1.2.2) (.bool B);have g9:=Vt (w:=w6) (b:=p8) (.int .i64 lvl) (.slice A9 n9 c9) (.int .u8 F1.1) (.int .u32 F1.2.1) (.int .u32 F1.2.2) (.int .u8 L1.1) (.int .u32 L1.2.1) (.int .u32 L1.2.2) (.bool B);have r59:=(g9.block wr.heap.size (by have:=hg.size;omega) zA2).trans ((hg.block wr.heap.size zO zA2).trans r5);have z9:p8<(World.setCell (World.setCell (World.setCell (World.setCell (World.setCell (World.setCell (World.setCell (World.setCell (World.setCell w6 _ _) _ _) _ _) _ _) _ _) _ _) _ _) _ _) _ _).heap.size:=(zG.1 r9).1;have f8:=qe b8;have kb8:=qa b8;clear r8 r5 bZ HLc ki5;replace hz:=zH hz;replace H5:=zH H5;replace H7:=zH H7;replace C6:=zH C6;replace HLow:=zH HLow;clear nM nH;go_upto_region 8 with fail;generalize gu:(World.setCell (World.setCell (World.setCell (World.setCell (World.setCell (World.setCell (World.setCell (World.setCell (World.setCell w6 _ _) _ _) _ _) _ _) _ _) _ _) _ _) _ _) _ _)=w7 at *;clear gu b8 f8 kb8 bP hm hg hn g9 z8' hQP;have r8:=r9;have r5:=r59;clear r9 r59 z9
     all_goals
      replace HR:=zH HR;replace HCr:=zH HCr;replace HCa:=zH HCa;replace e3:=zH e3;replace iw:=zH iw;clear yt yl rnr hb hA hlt hk sO tC hr2 zr xa ra x5 aP kn5;have HBD:=zH (fun hb=>H7.out.bad HC.out (HSTEP.out _ _ _ HO.out H7.out.sp hb));have kn7:=qa H7.out.rn;have kx7:=qa H7.out.rx;have fx7:=qe H7.out.rx;have kr7:=qa H7.out.rr;have fr7:=qe H7.out.rr;have k8:=qa r8;have k5:=qa r5;have hp1:p8≠w.heap.size+2:=zO;have fD:w.heap.size+2≠p8:=zO;have hp3:p8≠w.heap.size+1+1:=zO;have hp4:w.heap.size+1+1≠p8:=zO;rcases hb0:B with _|_
      ·rw[hb0] at k8;have HB:=HBD.out (.inl hb0);replace HB:=zH HB;clear HBD;go_wp2;exact Tb (b:=w.heap.size+1) rfl rfl (vP H7.out.rr rfl _ _ _ _ _ _ _ _ _) HB.out
      ·rw[hb0] at k8;have HO1:YB p.S h x F1 L1 true:=by rw[<-hb0];exact HO.out
       by_cases hF:F1=qE x
       ·subst hF;have HN0:=zH (HSTOK.out _ _ HO1 H7.out.sp rfl);have bJ:0<h->∀ y∈xs.take (k+1),(g' y.r).isSome=true:=fun h0 y hy=>by
         rw[HTK.out,List.mem_append,List.mem_singleton] at hy;rcases hy with hy|rfl
         ·exact H7.out.cl h0 y hy
         ·exact HCL.out hb0 h0
        replace bJ:=zH bJ;replace HO1:=zH HO1;replace hb0:=zH hb0;rcases Nat.eq_zero_or_pos k with pX|pX
        ·have hk1:decide ((k:Int)>0)=false:=decide_eq_false zO;have hk2:((k:Int) == 0)=true:=by rw[beq_iff_eq];omega
         have sZ:decide (0<k)=false:=decide_eq_false zO;have HN:=HN0.out (fun h=>zO);rw[if_pos pX] at HN;replace HN:=zH HN;replace pX:=zH pX;clear HBD HN0;have HR9:=H7.out.set6 HC.out HN.out bJ.out;dsimp only[qE] at HR9;replace HR9:=zH HR9;go_wp2_with fail;refine⟨⟨k+1,g',(x.k,x.i,x.o),L1,aJ,rfl,HR9.out⟩,?_⟩;simp[intOf];omega
        ·have hk1:decide ((k:Int)>0)=true:=decide_eq_true zO;have hk2:((k:Int) == 0)=false:=by rw[beq_eq_false_iff_ne];omega
         have sZ:decide (0<k)=true:=decide_eq_true pX;have nZ:¬k=0:=zO;have hkz:=zH pX;clear pX nZ;go_wp2_with fail;refine(KL lk.1 lk.2.1 lk.2.2 x.k x.i x.o _).mono ?_;rintro e wl ⟨rfl,hB⟩;have H8:=H7.out.ext HC.out hB;have HS8:=zH (HSTEP.out _ _ _ HO1.out H8.sp);have kn8:=qa H8.rn;have kx8:=qa H8.rx;have fx8:=qe H8.rx;have kr8:=qa H8.rr;have fr8:=qe H8.rr;have r88:=qb r8 hB;rw[hb0.out] at r88;have k88:=qa r88;clear kn7 kx7 fx7 kr7 fr7 k8 k5 hB r8 r5 HBD;replace H8:=zH H8;rcases hls:VO lk.1 lk.2.1 lk.2.2 x.k x.i x.o with _|_
         ·have HB:=zH (H8.out.bad HC.out (HS8.out (.inr (.inr ⟨hkz.out,hls⟩))));go_wp2;exact Tb (b:=w.heap.size+1) rfl rfl (vP H8.out.rr rfl _ _ _ _ _ _ _ _ _) HB.out
         ·have HN:=HN0.out (fun _=>hls);rw[if_neg (by have:=hkz.out;omega)] at HN;replace HN:=zH HN;clear HN0;have HR9:=zH (H8.out.set3 HC.out HN.out bJ.out);go_wp2_with fail;refine⟨⟨k+1,g',fk,L1,aJ,rfl,HR9.out⟩,?_⟩;simp[intOf];omega
       ·have HB:=HBD.out (.inr (.inl hF));replace HB:=zH HB;clear HBD;replace hb0:=zH hb0;go_wp2_with fail;all_goals first
         |exact absurd (Prod.ext ‹F1.1=x.k› (Prod.ext ‹F1.2.1=x.i› ‹F1.2.2=x.o›)) hF
         |exact Tb (b:=w.heap.size+1) rfl rfl (vP H7.out.rr rfl _ _ _ _ _ _ _ _ _) HB.out
  ·have lX:k=xs.length:=zO;have HQ:qcE p h A c xs (ZV h A xs.length c fk lk true) g:=by
    refine⟨fk,lk,true,rfl,?_,fun _ h0 y hy=>HR.cl h0 y (by rw[lX,List.take_length];exact hy)⟩;have:=HR.sp
    rwa [lX,List.take_length] at this
   have HB:=zH (HR.ret HC.out (Vt (.int .i64 h) (.slice A xs.length c) (.int .u8 fk.1) (.int .u32 fk.2.1) (.int .u32 fk.2.2) (.int .u8 lk.1) (.int .u32 lk.2.1) (.int .u32 lk.2.2) (.bool true)) HQ);have kx:=qa yt;have kr:=qa yl;have fr:=qe yl;have rr:=zH yl;replace HCr:=zH HCr;replace HR:=zH HR;replace HQ:=zH HQ;replace lX:=zH lX;clear mP yt rnr yl zr;go_wp2;exact Tb (b:=w.heap.size+1) rfl rfl (vP rr.out rfl _ _ _ _ _ _ _ _ _) HB.out
theorem qaV (p:CP):∀ h:Nat,h<=5->ReadC p h
 |0,_=>qaW p 0 fun _ e=>zO
 |h+1,hh=>qaW p (h+1) fun h' e=>by
  have e':h=h':=zO;subst e';exact qbc p (h:Int) (.inr zO) fun n hn hL=>by
   have e':n=h:=by have:=hL zO;omega
   subst e';exact qaV p n zO
theorem Gp (p:CP):qeD p (-1):=qbc p (-1) (.inl rfl) fun h hh _=>qaV p h hh
theorem field_is (lvl:Int) (A:Option Addr) (n c:Nat) (f l:K3) (b:Bool) (w:World):(Instr.field 135 (ZV lvl A n c f l b) 3).run prog w=.ok (.bool b) w:=zQ
theorem qgj (lvl:Int) (A:Option Addr) (n c:Nat) (f l:K3) (b:Bool) (w:World):(Instr.field 135 (ZV lvl A n c f l b) 0).run prog w=.ok (je lvl A n c) w:=zQ
structure Ar (ca:Array Value) (refs nodes:Nat->Nat) (vv:Value):Prop where
 size:ca.size=519
 ref:∀ a,a<256->ca[6+a]?=some (.int .i64 (refs a:Int))
 node:∀ a,a<256->ca[262+a]?=some (.int .i64 (nodes a:Int))
 vol:ca[518]?=some vv
def Jl (f:Nat->Nat) (a:Nat):Nat->Nat:=fun b=>f b+if b=a then 1 else 0
theorem Ar.addRef {ca:Array Value} {refs nodes:Nat->Nat} {vv:Value} (h:Ar ca refs nodes vv) {a:Nat} (ha:a<256):Ar (ca.setIfInBounds (6+a) (.int .i64 ((refs a:Int)+1))) (Jl refs a) nodes vv:=by
 have hs:=h.size;refine⟨by simp[hs],fun b hb=>?_,fun b hb=>?_,?_⟩
 ·rw[Array.getElem?_setIfInBounds];unfold Jl;by_cases e:b=a
  ·subst e;rw[if_pos rfl,if_pos zO,if_pos rfl];simp
  ·rw[if_neg zO,if_neg e,h.ref b hb];simp
 ·rw[Array.getElem?_setIfInBounds,if_neg zO,h.node b hb]
 ·rw[Array.getElem?_setIfInBounds,if_neg zO,h.vol]
theorem Ar.addNode {ca:Array Value} {refs nodes:Nat->Nat} {vv:Value} (h:Ar ca refs nodes vv) {a:Nat} (ha:a<256):Ar (ca.setIfInBounds (262+a) (.int .i64 ((nodes a:Int)+1))) refs (Jl nodes a) vv:=by
 have hs:=h.size;refine⟨by simp[hs],fun b hb=>?_,fun b hb=>?_,?_⟩
 ·rw[Array.getElem?_setIfInBounds,if_neg zO,h.ref b hb]
 ·rw[Array.getElem?_setIfInBounds];unfold Jl;by_cases e:b=a
  ·subst e;rw[if_pos rfl,if_pos zO,if_pos rfl];simp
  ·rw[if_neg zO,if_neg e,h.node b hb];simp
 ·rw[Array.getElem?_setIfInBounds,if_neg zO,h.vol]
theorem qcs {ca:Array Value} {k i:Nat} {v:Value} (hk:6<=k) (hi:i<6):(ca.setIfInBounds k v)[i]?=ca[i]?:=by rw[Array.getElem?_setIfInBounds,if_neg zO]
def VS (nodes:Nat->Nat):Nat->Bool:=fun a=>decide (0<nodes a)
theorem Vv {nodes:Nat->Nat} {a:Nat}:VS (Jl nodes a)=KO (VS nodes) a:=by
 funext b;unfold VS Jl KO;by_cases e:b=a
 ·rw[if_pos e,if_pos e];simp
 ·rw[if_neg e,if_neg e];rfl
theorem Vw {nodes:Nat->Nat} {a:Nat} (h:0<nodes a):VS (Jl nodes a)=VS nodes:=by
 funext b;unfold VS Jl;by_cases e:b=a
 ·subst e;rw[if_pos rfl,decide_eq_true h,decide_eq_true zO]
 ·rw[if_neg e];rfl
def To (S:Sto) (f:Int->Option Value) (R:List Nat):Prop:=∀ a∈R,Kj S a/\(f (a:Int)).isSome=true
structure Qr (S:Sto) (R:List Nat) (refs nodes:Nat->Nat):Prop where
 mkd:jy (vI S) (vO S) R (VS nodes) refs
 few:∀ a,nodes a+6*JP (VS nodes) 256<=1536+R.length
theorem To.reach {S:Sto} {lo:Nat} {w:World} {f:Int->Option Value} {R:List Nat} (hR:To S f R) (hk:qaR S lo w f) {a:Nat} (h:Rch (vI S) (· ∈ R) a):Kj S a/\(f (a:Int)).isSome=true:=
 h.closed (M:=fun a=>Kj S a/\(f (a:Int)).isSome=true) (fun a ha=>hR a ha) fun a ha b hb=>⟨qhe ha.1 hb,qhf hk ha.1 ha.2 hb⟩
theorem qec {S:Sto} {R:List Nat} {M:Nat->Bool} {refs:Nat->Nat} {s:List Nat} (h:JD (vI S) (vO S) R M refs s) (b:Nat):refs b<=R.length+1280:=by rw[h.sum];have h1:=List.count_le_length (a:=b) (l:=R);have h2:=qgx (rs:=vO S) (M:=M) (b:=b) (k:=5) 256 fun a _ _=>qed;omega
structure Wk (S:Sto) (R:List Nat) (refs nodes:Nat->Nat) (s:List Nat):Prop where
 wk:JD (vI S) (vO S) R (VS nodes) refs s
 few:∀ a,nodes a+6*JP (VS nodes) 256+s.length<=1536+R.length
theorem Qr.start {S:Sto} {R:List Nat} {refs nodes:Nat->Nat} (h:Qr S R refs nodes) (a:Nat):Wk S (R++[a]) (Jl refs a) nodes [a]:=
 ⟨(jy.walk.1 h.mkd).add a fun _=>rfl,fun b=>by have:=h.few b;simp;omega⟩
theorem Wk.done {S:Sto} {R:List Nat} {refs nodes:Nat->Nat} (h:Wk S R refs nodes []):Qr S R refs nodes:=
 ⟨jy.walk.2 h.wk,fun a=>by have:=h.few a;simpa using this⟩
theorem Wk.again {S:Sto} {R:List Nat} {refs nodes:Nat->Nat} {s:List Nat} {a:Nat} (h:Wk S R refs nodes (s++[a])) (ha:0<nodes a):Wk S R refs (Jl nodes a) s:=by
 refine⟨?_,fun b=>?_⟩
 ·rw[Vw ha];exact h.wk.again (decide_eq_true ha)
 ·rw[Vw ha];have:=h.few b;rw[List.length_append,List.length_singleton] at this;unfold Jl;split <;> omega
def VA (xs:List It) (k:Nat):List Nat:=((xs.take k).map fun y=>y.r.toNat).filter fun r=>r != 0
theorem GQ {S:Sto} {a:Nat} {lvl:Int} {xs:List It} (h:qv S a=some (lvl,xs)):VA xs xs.length=vO S a:=by unfold VA vO;rw[List.take_length,h]
theorem Yu {xs:List It} {k:Nat} (hk:k<xs.length):VA xs (k+1)=if xs[k].r.toNat=0 then VA xs k else VA xs k++[xs[k].r.toNat]:=by
 unfold VA;rw[List.take_succ_eq_append_getElem hk,List.map_append,List.filter_append];by_cases h:xs[k].r.toNat=0
 ·rw[if_pos h];simp[h]
 ·rw[if_neg h];simp[h]
theorem GR {xs:List It} {k:Nat}:(VA xs k).length<=k:=by unfold VA;refine Nat.le_trans (List.length_filter_le _ _) ?_;rw[List.length_map,List.length_take];omega
theorem Wk.new {S:Sto} {R:List Nat} {refs nodes refs':Nat->Nat} {s:List Nat} {a lvl:Nat} {xs:List It} (h:Wk S R refs nodes (s++[a])) (ha:nodes a=0) (hl:a<256) (hn:qv S a=some ((lvl:Int),xs)) (hr:∀ b,refs' b=refs b+(VA xs xs.length).count b):Wk S R refs' (Jl nodes a) (s++if 0<lvl then VA xs xs.length else []):=by
 have hm:VS nodes a=false:=decide_eq_false zO;have hk:vI S a=if 0<lvl then VA xs xs.length else []:=by
  unfold vI;rw[hn,GQ hn];simp only;by_cases h0:0<lvl
  ·rw[if_pos h0,if_pos zO]
  ·rw[if_neg h0,if_neg zO]
 rw[<-hk];refine⟨?_,fun b=>?_⟩
 ·rw[Vv];exact h.wk.new hm hl fun b=>by rw[hr,GQ hn]
 ·rw[Vv];have h1:=h.few b;have h2:=Xp hm 256;rw[if_pos hl] at h2;rw[List.length_append,List.length_singleton] at h1;have h3:(vI S a).length<=5:=by
   rw[hk];split
   ·rw[GQ hn];exact qed
   ·simp
  rw[List.length_append];unfold Jl;split <;> omega
def leftW (w:World) (cb:Nat):Nat:=JP (fun a=>match w.cell? ⟨cb,262+a,none⟩ with|some (.int _ n)=>decide (0<n)|_=>false) 256
theorem XK {w:World} {cb:Nat} {ca:Array Value} {ty:TypeId} {refs nodes:Nat->Nat} {vv:Value} (hr:w.heap[cb]?=some (.cells ca ty (0,0))) (h:Ar ca refs nodes vv):leftW w cb=JP (VS nodes) 256:=by unfold leftW;refine Uu _ fun a ha=>?_;rw[qa hr,h.node a ha];unfold VS;simp
def lenV:Value->Nat
 | .slice _ n _=>n
 |_=>0
structure TrI (p:CP) (B:Nat) (w1 wr:World) (vv:Value) (ca:Array Value) (refs nodes:Nat->Nat):Prop where
 off:Off B p.cb w1 wr
 row:wr.heap[p.cb]?=some (.cells ca 84 (0,0))
 ar:Ar ca refs nodes vv
 low:∀ i,i<6->ca[i]?=p.ca[i]?
 lt:p.cb<B
theorem TrI.grown {p:CP} {B:Nat} {w1 wr W:World} {vv:Value} {ca:Array Value} {refs nodes:Nat->Nat} (h:TrI p B w1 wr vv ca refs nodes) {row:Option Nat} (hg:wr.grownBy W row) (hr:∀ g,row=some g->B<=g):TrI p B w1 W vv ca refs nodes:=
 ⟨h.off.grown hg fun g e=>.inr (hr g e),(hg.block _ (Nat.lt_of_lt_of_le h.lt h.off.size) fun e=>by have:=hr _ e.symm;have:=h.lt;omega).trans h.row,h.ar,h.low,h.lt⟩
theorem TrI.ext {p:CP} {B:Nat} {w1 wr W:World} {vv:Value} {ca:Array Value} {refs nodes:Nat->Nat} (h:TrI p B w1 wr vv ca refs nodes) (hx:Ext wr W):TrI p B w1 W vv ca refs nodes:=h.grown (zy hx none) fun g e=>by cases e
theorem TrI.addRef {p:CP} {B:Nat} {w1 wr:World} {vv:Value} {ca:Array Value} {refs nodes:Nat->Nat} (h:TrI p B w1 wr vv ca refs nodes) {a:Nat} (ha:a<256):TrI p B w1 (wr.setCell ⟨p.cb,6+a,none⟩ (.int .i64 ((refs a:Int)+1))) vv (ca.setIfInBounds (6+a) (.int .i64 ((refs a:Int)+1))) (Jl refs a) nodes:=
 ⟨h.off.setCell (p:=⟨p.cb,6+a,none⟩) (.inl rfl) _,qi h.row _ _,h.ar.addRef ha,fun i hi=>(qcs zO hi).trans (h.low i hi),h.lt⟩
theorem TrI.addNode {p:CP} {B:Nat} {w1 wr:World} {vv:Value} {ca:Array Value} {refs nodes:Nat->Nat} (h:TrI p B w1 wr vv ca refs nodes) {a:Nat} (ha:a<256):TrI p B w1 (wr.setCell ⟨p.cb,262+a,none⟩ (.int .i64 ((nodes a:Int)+1))) vv (ca.setIfInBounds (262+a) (.int .i64 ((nodes a:Int)+1))) refs (Jl nodes a):=
 ⟨h.off.setCell (p:=⟨p.cb,262+a,none⟩) (.inl rfl) _,qi h.row _ _,h.ar.addNode ha,fun i hi=>(qcs zO hi).trans (h.low i hi),h.lt⟩
theorem TrI.cen {p:CP} {w1 wr:World} {vv:Value} {ca:Array Value} {refs nodes:Nat->Nat} {g:Int->Option Value} (h:TrI p w1.heap.size w1 wr vv ca refs nodes) (hC:Cen p w1 g):Cen (p.put ca) wr g:=hC.put rfl h.off h.row h.low
theorem TrI.its {p:CP} {w1 wr:World} {vv v:Value} {ca:Array Value} {refs nodes:Nat->Nat} {g:Int->Option Value} {xs:List It} (h:TrI p w1.heap.size w1 wr vv ca refs nodes) (hC:Cen p w1 g) (hi:Zv p.lo w1 v xs):Zv p.lo wr v xs:=
 hi.keep h.off.size fun q h1 h2=>h.off.cell h2 (by have:=hC.low;omega)
def Zm (lvl:Nat) (xs:List It) (k:Nat):List Nat:=if 0<lvl then VA xs k else []
theorem Up (lvl:Nat) (xs:List It):Zm lvl xs 0=[]:=by unfold Zm VA;simp
theorem qea {lvl:Nat} {xs:List It} {k:Nat} (hk:k<xs.length) (h:xs[k].r.toNat=0\/lvl=0):Zm lvl xs (k+1)=Zm lvl xs k:=by
 unfold Zm;by_cases h0:0<lvl
 ·rw[if_pos h0,if_pos h0,Yu hk,if_pos zO]
 ·rw[if_neg h0,if_neg h0]
theorem qdZ {lvl:Nat} {xs:List It} {k:Nat} (hk:k<xs.length) (h:¬xs[k].r.toNat=0) (hl:0<lvl):Zm lvl xs (k+1)=Zm lvl xs k++[xs[k].r.toNat]:=by unfold Zm;rw[if_pos hl,if_pos hl,Yu hk,if_neg h]
theorem qhE {xs:List It} {k:Nat} {rf pG:Nat->Nat} (hk:k<xs.length) (h:xs[k].r.toNat=0) (hr:∀ b,pG b=rf b+(VA xs k).count b):∀ b,pG b=rf b+(VA xs (k+1)).count b:=by intro b;rw[hr,Yu hk,if_pos h]
theorem qhD {xs:List It} {k:Nat} {rf pG:Nat->Nat} (hk:k<xs.length) (h:¬xs[k].r.toNat=0) (hr:∀ b,pG b=rf b+(VA xs k).count b):∀ b,Jl pG xs[k].r.toNat b=rf b+(VA xs (k+1)).count b:=by
 intro b;rw[Yu hk,if_neg h,List.count_append,<-Nat.add_assoc,<-hr];unfold Jl;rw[List.count_singleton];by_cases e:b=xs[k].r.toNat
 ·rw[if_pos e,if_pos (by simp[e])]
 ·rw[if_neg e,if_neg zA2]
theorem qhF (xs:List It):VA xs 0=[]:=by unfold VA;simp
def JX (s:List Nat):List Value:=s.map fun (a:Nat)=>Value.int .i64 (a:Int)
theorem Yk (s:List Nat):(JX s).length=s.length:=by simp[JX]
theorem Xh (s:List Nat) (a:Nat):JX (s++[a])=JX s++[Value.int .i64 (a:Int)]:=by simp[JX]
section
variable {P:Program} (w:World) {ops:Array Oper} {rest:List Oper} {o:Oper} {a:Act} {Q:Exit->Act->World->Prop}
theorem Ya {mb:Nat} {f:Int->Option Value} (h:QU w mb f) (t k e:TypeId) (ht:P.underlying t=some (.map k e)) (hk:P.underlying k=some (.int .i64)) {a:Int} {v:Value} (hf:f a=some v) : (Instr.lookup t (.map (some mb)) (.int .i64 a) false).run P w=.ok v w:=by
 obtain⟨es,clock,hb,yA,hfa⟩:=h;have h0:=hfa a;rw[hf] at h0;rcases Vb a es.toList 0 yA with ⟨h1,h2⟩|⟨j,e2,h1,h2,h3,h4,_⟩
 ·unfold Kl at h0;rw[h2] at h0;cases h0
 ·unfold Kl at h0;rw[h3] at h0;simp only[Option.map_some,Option.some.injEq] at h0;simp[Instr.lookup,run_underlying ht,MapKept.run_getObj_map hb,jH hk,Jc hk h2,h0,Result.andThen]
theorem Tj (hg:o.guard=none) (m x:Operand) (t:TypeId) (dZ:o.op=Op.lookup t m x false) {k e:TypeId} (ht:P.underlying t=some (.map k e)) (hk:P.underlying k=some (.int .i64)) {mb:Nat} {f:Int->Option Value} {r:Int} {v:Value} (hm:a.eval m=.map (some mb)) (hx:a.eval x=.int .i64 r) (h:QU w mb f) (hf:f r=some v) (hK:wpList P ops Q rest (a.put o.dst v) w):wpList P ops Q (o :: rest) a w:=by
 refine wpList_plain hg fun K' hK'=>?_;unfold Oper.wp;simp[execOp,dZ,hm,hx,Ya w h t k e ht hk hf,Result.andThen];exact hK' _ _ hK
end
section
variable {R:Rel}
section
variable {P:Program} {ops:Array Oper} {w0:World}
def Kz (ops:Array Oper) (listed:Array Bool):Prop:=∀ (i:Nat) (o:Oper),ops[i]?=some o->listed.getD i false=true->∀ k∈qF o,listed.getD k false=true
def Yj (ops:Array Oper) (listed:Array Bool):Bool:=(List.range ops.size).all fun i=>!(listed.getD i false) || (match ops[i]? with|some o=>(qF o).all fun k=>listed.getD k false|none=>true)
theorem ve {listed:Array Bool} (h:Yj ops listed=true):Kz ops listed:=by intro i o ho hi k hk;have h1:=List.all_eq_true.1 h i (List.mem_range.2 (zG.1 ho).1);rw[hi,ho] at h1;simp only[Bool.not_true,Bool.false_or] at h1;exact List.all_eq_true.1 h1 k hk
theorem Vj {listed:Array Bool} {j:Nat} (hj:j∈Region.ready .any ops listed) {o:Oper} (ho:ops[j]?=some o):∀ k∈qF o,listed.getD k false=true:=by intro k hk;obtain⟨_,o',uO,bC⟩:=mem_ready.1 hj;rw[ho] at uO;cases uO;obtain⟨e,he,nX⟩:=List.mem_map.1 hk;rw[List.mem_filter] at he;rw[<-nX];exact bC e (by simpa using he.1) he.2
theorem YF {listed:Array Bool} {j k:Nat} (h:listed.getD k false=true):(listed.setIfInBounds j true).getD k false=true:=by
 rcases Nat.lt_or_ge k listed.size with h'|h'
 ·simp only[Array.getD_eq_getD_getElem?,Array.getElem?_setIfInBounds] at h ⊢;by_cases e:j=k
  ·subst e;simp[h']
  ·rw[if_neg e];exact h
 ·simp[Array.getElem?_eq_none h'] at h
theorem Kz.step {listed:Array Bool} {j:Nat} (h:Kz ops listed) (hj:j∈Region.ready .any ops listed):Kz ops (listed.setIfInBounds j true):=by
 intro i o ho hi k hk;by_cases e:i=j
 ·subst e;exact YF (Vj hj ho k hk)
 ·refine YF (h i o ho ?_ k hk);simp only[Array.getD_eq_getD_getElem?,Array.getElem?_setIfInBounds] at hi ⊢
  rwa [if_neg (fun x=>e x.symm)] at hi
def Th (ops:Array Oper):Nat->Nat->Nat->Bool
 |0,_,_=>false
 |n+1,j,k=>match ops[j]? with
  |some o=>(qF o).contains k || (qF o).any fun i=>Th ops n i k
  |none=>false
theorem vt {listed:Array Bool} (h:Kz ops listed):∀ (n j k:Nat),(∀ o,ops[j]?=some o->∀ i∈qF o,listed.getD i false=true)->Th ops n j k=true->listed.getD k false=true
 |0,_,_,_,hw=>by cases hw
 |n+1,j,k,hp,hw=>by
  unfold Th at hw;split at hw
  ·rename_i o ho;rw[Bool.or_eq_true] at hw;rcases hw with hw|hw
   ·exact hp o ho k (by simpa using hw)
   ·obtain⟨i,hi,hw⟩:=List.any_eq_true.1 hw;exact vt h n i k (fun o' uO=>h i o' uO (hp o ho i hi)) hw
  ·cases hw
def qeq (ops:Array Oper) (L:Array Bool) (ks:List Nat):Bool:=(List.range ops.size).all fun j=>L.getD j true || ks.all fun k=>Th ops 9 j k
theorem Xo {L:Array Bool} {ks:List Nat} (h:qeq ops L ks=true):∀ (listed:Array Bool) (j:Nat),Kz ops listed->j∈Region.ready .any ops listed->L.getD j true=false->∀ k,k∈ks->listed.getD k false=true:=by intro listed j hc hj hm k hk;obtain⟨_,o,ho,_⟩:=mem_ready.1 hj;have h1:=List.all_eq_true.1 h j (List.mem_range.2 (zG.1 ho).1);rw[hm,Bool.false_or] at h1;exact vt hc 9 j k (fun o' uO=>Vj hj uO) (List.all_eq_true.1 h1 k hk)
theorem qaN {H:Nat->Option qS} (hH:∀ i h,H i=some h->∀ p,qC R (h.φ p)) {A:Nat->Prop} {Cl:Array Bool->Prop} {L:Array Bool} {Q:Act->qJ->Prop} {i:Nat} {oi:Oper} (hi:ops[i]?=some oi) (him:A i) (gZ:∀ (j:Nat) (o:Oper) cs b,ops[j]?=some o->o.op≠.select cs b) (bJ:∀ listed j,Cl listed->j∈Region.ready .any ops listed->Cl (listed.setIfInBounds j true)) (bM:∀ (listed:Array Bool) (j:Nat),Cl listed->j∈Region.ready .any ops listed->L.getD j true=false->∀ k,A k->listed.getD k false=true) : ∀ (fuel:Nat) (listed:Array Bool) (a:Act) (F:qJ),Cl listed -> (∀ j oj,ops[j]?=some oj->j≠i->listed.getD j true=false->(∀ e∈oj.after,Region.binds .any e=true->e.on≠i)->oi.apart ops oj=true) ->
   i∈Region.ready .any ops listed->(∀ k,qC R (F k))->KA R w0 F->(∀ k,listed.getD k true=false->∀ W,F k W) ->
   FOpG R P ops w0 H i oi (vw R P ops w0 H L Q fuel (listed.setIfInBounds i true)) a F->vw R P ops w0 H L Q (fuel+1) listed a F:=by
 intro fuel;induction fuel with
 |zero =>
  intro listed a F xY _ hr aH hc _ dZ;refine⟨fun h=>(by rw[h] at hr;cases hr),fun j hj oj dE=>?_⟩;by_cases hji:j=i
  ·subst hji;rw[hi] at dE;cases dE;exact dZ
  ·exfalso;obtain⟨h,hok,hK⟩:=dZ;obtain⟨p,eU⟩:=hok.some_ hc aH;have hmj:L.getD j true=false:=by rw[<-(hK p eU).1];exact(mem_ready.1 (ready_mono hj hji)).1
   have h1:=bM listed j xY hj hmj i him;have h0:=(mem_ready.1 hr).1;rcases Nat.lt_or_ge i listed.size with h'|h'
   ·simp[h'] at h0 h1;rw[h0] at h1;cases h1
   ·simp[Array.getElem?_eq_none h'] at h1
 |succ fuel ih =>
  intro listed a F xY dH hr aH hc lC dZ;refine⟨fun h=>(by rw[h] at hr;cases hr),fun j hj oj dE=>?_⟩;by_cases hji:j=i
  ·subst hji;rw[hi] at dE;cases dE;exact dZ
  ·obtain⟨bY,oj',iM,bC⟩:=mem_ready.1 hj;rw[dE] at iM;cases iM;obtain⟨mO,oi',mW,fV⟩:=mem_ready.1 hr;rw[hi] at mW;cases mW;have bad:∀ k,listed.getD k true=false->listed.getD k false=true->False:=fun k h0 h1=>by
    rcases Nat.lt_or_ge k listed.size with h'|h'
    ·simp[h'] at h0 h1;rw[h0] at h1;cases h1
    ·simp[Array.getElem?_eq_none h'] at h1
   have mQ:∀ e∈oj.after,Region.binds .any e=true->e.on≠i:=fun e he hb nY=>bad i mO (nY ▸ bC e he hb);have mV:∀ e∈oi.after,Region.binds .any e=true->e.on≠j:=fun e he hb nY=>bad j bY (nY ▸ fV e he hb);have iE:i∉qF oj:=fun hin=>by obtain⟨e,he,nX⟩:=List.mem_map.1 hin;rw[List.mem_filter] at he;exact mQ e (by simpa using he.1) he.2 nX
   have rC:j∉qF oi:=fun hin=>by obtain⟨e,he,nX⟩:=List.mem_map.1 hin;rw[List.mem_filter] at he;exact mV e (by simpa using he.1) he.2 nX
   have eX:=dH j oj dE hji bY mQ;have wE:∀ cs b,oi.op≠.select cs b:=fun cs b=>gZ i oi cs b hi;have tu:∀ cs b,oj.op≠.select cs b:=fun cs b=>gZ j oj cs b dE;obtain⟨h2,_⟩:=(Oper.apart_spec eX).2;obtain⟨hI,okI,hKI⟩:=dZ;obtain⟨p0,sS⟩:=okI.some_ hc aH;obtain⟨hJ,wJ,_⟩:=(hKI p0 sS).2 j (ready_mono hj hji) oj dE;have uT:ZI R P ops w0 H j oj a F hJ:=(ZI.move eX tu iE).1 wJ;refine⟨hJ,uT,fun q hcq=>?_⟩;have stJ:=uT.stable hH q;have fJ:∀ k ok,ops[k]?=some ok->k≠i->(listed.setIfInBounds j true).getD k true=false ->
     (∀ e∈ok.after,Region.binds .any e=true->e.on≠i)->oi.apart ops ok=true:=fun k ok hk dY mg bT=>by
    refine dH k ok hk dY ?_ bT;by_cases hjk:j=k
    ·subst hjk;exact bY
    ·rw[getD_set_ne true hjk] at mg;exact mg
   refine ih (listed.setIfInBounds j true) _ _ (bJ _ _ xY hj) fJ (ready_mono hr (Ne.symm hji)) (Zt aH j oj stJ) hcq ?_ ?_
   ·intro k hk W;by_cases hjk:j=k
    ·subst hjk;exfalso;have hlt:j<listed.size:=by
      rcases Nat.lt_or_ge j listed.size with h'|h'
      ·exact h'
      ·simp[Array.getElem?_eq_none h'] at bY
     simp[hlt] at hk
    ·rw[getD_set_ne true hjk] at hk;have:=lC k hk W;unfold upd;rw[if_neg (fun e=>hjk e.symm)];exact this
   ·refine⟨hI,(ZI.move' eX wE rC).2 okI,fun p eU=>?_⟩;have uf:KA R w0 (upd F i oi (hI.φ p)):=by
     obtain⟨W,hW,hF⟩:=eU;refine⟨W,hW,fun k=>?_⟩;have hk:=hF k;by_cases dY:k=i
     ·subst dY;unfold upd at hk ⊢;rw[if_pos rfl] at hk ⊢;refine⟨hk.1,fun l hl=>?_⟩;have:=hk.2 l hl
      rwa [if_neg (fun e=>rC (by rw[<-e];exact hl))] at this
     ·by_cases hkj:k=j
      ·subst hkj;unfold upd;rw[if_neg dY];exact lC k bY W
      ·unfold upd at hk ⊢;rw[if_neg dY,if_neg hkj] at hk;rw[if_neg dY];exact hk
    obtain⟨yz,wI,uZ⟩:=(hKI p uf).2 j (ready_mono hj hji) oj dE;have mr:ZI R P ops w0 H j oj a F yz:=(ZI.move eX tu iE).1 wI;have e:=mr.unique hc uT;subst e;have hq:=uZ q (by rw[JQ F _ _ (Ne.symm hji) iE rC];exact eU);rw[Array.setIfInBounds_comm _ _ (fun e=>hji e.symm),Act.put_comm a (hI.f p) (yz.f q) h2,JQ F _ _ (Ne.symm hji) iE rC] at hq;exact hq
theorem Yf {H:Nat->Option qS} (hH:∀ i h,H i=some h->∀ p,qC R (h.φ p)) {Cl:Array Bool->Prop} {L:Array Bool} {ks:List Nat} {Q:Act->qJ->Prop} (hs:Region.noSelect ops=true) (bJ:∀ listed j,Cl listed->j∈Region.ready .any ops listed->Cl (listed.setIfInBounds j true)) (bM:∀ (listed:Array Bool) (j:Nat),Cl listed->j∈Region.ready .any ops listed->L.getD j true=false->∀ k,k∈ks->listed.getD k false=true):∀ (l:List (Nat×Oper)) (listed:Array Bool) (a:Act) (F:qJ),Cl listed->(∀ x∈l,ops[x.1]?=some x.2/\x.1∈ks) ->
  Zq ops L (l.map (·.1)) listed=true->(∀ k,qC R (F k))->KA R w0 F->(∀ j,listed.getD j true=false->∀ W,F j W)->Zz R P ops w0 H Q l a F->vw R P ops w0 H L Q l.length listed a F
 | [],listed,a,F,_,_,hB,_,_,_,h=>⟨by simpa [Zq] using hB,h⟩
 |(k,o) :: l,listed,a,F,xY,hl,hB,aH,hc,lC,h=>by
  obtain⟨h0,yA⟩:=hl (k,o) (List.mem_cons_self);simp only[List.map_cons,Zq,Bool.and_eq_true] at hB;obtain⟨⟨hr,hf⟩,iC⟩:=hB;have yH:k∈Region.ready .any ops listed:=by simpa using hr
  have uk:=(mem_ready.1 yH).1;refine qaN (A:=fun k=>k∈ks) hH h0 yA (Region.noSelect_spec hs) bJ bM l.length listed a F xY (Region.free_spec h0 hf) yH aH hc lC ?_;obtain⟨hh,hok,hK⟩:=h;refine⟨hh,hok,fun p eU=>?_⟩;refine Yf hH hs bJ bM l _ _ _ (bJ _ _ xY yH) (fun x hx=>hl x (List.mem_cons_of_mem _ hx)) iC (Zt aH k o (hok.stable hH p)) eU (fun j hj W=>?_) (hK p eU);by_cases hjk:k=j
  ·subst hjk;have hlt:k<listed.size:=by
    rcases Nat.lt_or_ge k listed.size with h'|h'
    ·exact h'
    ·simp[Array.getElem?_eq_none h'] at uk
   simp[hlt] at hj
  ·rw[getD_set_ne true hjk] at hj;have:=lC j hj W;unfold upd;rw[if_neg (fun e=>hjk e.symm)];exact this
theorem qL {l:List Oper} {Q:Exit->Act->World->Prop} {fuel:Nat} {listed:Array Bool} {a:Act} {w W:World} (R:Rel) (H:Nat->Option qS) (M:List Bool) (t:Nat) (hs:Region.noSelect l.toArray=true) (ht:qeq l.toArray (QK l.length (l.length-t)) ((qp 0 l M).map (·.1))=true) (dC:Yj l.toArray listed=true) (hB:Zq l.toArray (QK l.length (l.length-t)) ((qp 0 l M).map (·.1)) listed=true) (mZ:TJ l.toArray t (l.length-t) (QK l.length (l.length-t))=true) (hfu:fuel=(qp 0 l M).length+t) (oD:(l.drop (l.length-t)).length=t) (hH:∀ i h,H i=some h->∀ p,qC R (h.φ p)) (hW:R.r w W) (h:∀ K:Act->qJ->Prop,(∀ a' F',(∀ W,R.r w W->(∀ k,F' k W)->wpList P l.toArray Q (l.drop (l.length-t)) a' W)->K a' F')->Zz R P l.toArray w H K (qp 0 l M) a (fun _ _=>True)):wpAny P .any l.toArray Q fuel listed a W:=by
 have h:=h _ (fun a' F' hh=>hh);subst hfu;have key:=Yf (w0:=w) hH hs (fun _ _ h=>h.step) (Xo ht) (qp 0 l M) listed a (fun _ _=>True) (ve dC) (fun x hx=>by obtain⟨j,h1,h2⟩:=vk l M 0 x hx;refine⟨?_,List.mem_map.2 ⟨x,hx,rfl⟩⟩;rw[h1,Nat.zero_add];simpa using h2) hB (fun _ _ _ _ _=>trivial) ⟨W,hW,fun _=>trivial⟩ (fun _ _ _=>trivial) h;refine vW (w0:=w) hH (t:=t) (Q':=Q) (fun a F W hq hW hF=>?_) _ _ _ _ W (fun _ _ _ _ _=>trivial) hW (fun _=>trivial) key;have:=ky (l.drop (l.length-t)) (l.length-t) _ a W (fun j _=>by rw[List.getElem?_drop];simp) (by rw[oD];exact mZ) (hq W hW hF)
 rwa [oD] at this
end
end
def Qs (S:Sto):Nat->List It->List It
 |0,xs=>xs
 |h+1,xs=>xs.flatMap fun y=>match qv S y.r.toNat with
  |none=>[]
  |some (_,ys)=>Qs S h ys
def Vn (next:Int) (y:It):Bool:=TZ y && (decide (y.i≠0) && decide (y.i<next))
def ZG (next:Int):List Vol->List It->Option (List Vol)
 |vs,[]=>some vs
 |vs,y :: r=>if Vn next y=true/\vs.length≠16 then ZG next (vs++[Kr y]) r else none
theorem Uv (next:Int) (vs:List Vol) (y:It) (r:List It):ZG next vs (y :: r)=if Vn next y=true/\vs.length≠16 then ZG next (vs++[Kr y]) r else none:=rfl
theorem ZM (S:Sto) (h:Nat) (xs:List It):Qs S (h+1) xs=xs.flatMap fun y=>match qv S y.r.toNat with|none=>[]|some (_,ys)=>Qs S h ys:=rfl
theorem JB (next:Int):∀ (l m:List It) (vs:List Vol),ZG next vs (l++m)=(ZG next vs l).bind fun vs'=>ZG next vs' m
 | [],m,vs=>rfl
 |y :: r,m,vs=>by
  rw[List.cons_append,Uv,Uv];split
  ·exact JB next r m _
  ·rfl
theorem vV (next:Int):∀ (l:List It) (vs vs':List Vol),vs.length<=16->ZG next vs l=some vs'->vs'.length<=16
 | [],vs,vs',h,e=>by cases e;exact h
 |y :: r,vs,vs',h,e=>by
  unfold ZG at e;split at e
  ·rename_i hc;exact vV next r _ vs' (by rw[List.length_append,List.length_singleton];have:=hc.2;omega) e
  ·cases e
theorem qfj {S:Sto} {xs:List It} {k:Nat} (hk:k<xs.length):Qs S 0 (xs.take (k+1))=Qs S 0 (xs.take k)++[xs[k]]:=List.take_succ_eq_append_getElem hk
theorem qfk {S:Sto} {h:Nat} {xs ys:List It} {lvl:Int} {k:Nat} (hk:k<xs.length) (hn:qv S xs[k].r.toNat=some (lvl,ys)):Qs S (h+1) (xs.take (k+1))=Qs S (h+1) (xs.take k)++Qs S h ys:=by rw[List.take_succ_eq_append_getElem hk,ZM,ZM,List.flatMap_append];simp[hn]
theorem Tv {S:Sto} (h:Nat):Qs S h []=[]:=by cases h <;> rfl
theorem qdB {S:Sto} {h:Nat} {xs:List It} {k:Nat} (hk:k<=xs.length):∃ r,Qs S h xs=Qs S h (xs.take k)++r:=by
 cases h with
 |zero=>exact⟨xs.drop k,(List.take_append_drop k xs).symm⟩
 |succ h =>
  refine⟨Qs S (h+1) (xs.drop k),?_⟩;have:=(List.take_append_drop k xs).symm
  conv=>lhs;rw[this]
  rw[ZM,ZM,ZM,List.flatMap_append]
theorem qfT {S:Sto} {h:Nat} {xs:List It} {k:Nat} {next:Int} {vs:List Vol} (hk:k<=xs.length) (hb:ZG next vs (Qs S h (xs.take k))=none):ZG next vs (Qs S h xs)=none:=by obtain⟨r,hr⟩:=qdB (S:=S) (h:=h) hk;rw[hr,JB,hb];rfl
def ZB (vs:List Vol):List Value:=vs.flatMap fun v=>[.int .u32 v.id,.int .i64 v.root,.bool v.fz,.int .u32 v.frm]
theorem qde (vs:List Vol) (v:Vol):ZB (vs++[v])=ZB vs++[.int .u32 v.id,.int .i64 v.root,.bool v.fz,.int .u32 v.frm]:=by simp[ZB]
structure VolI (p:CP) (w1 w:World) (vs:List Vol) (vv:Value) (ca:Array Value) (refs nodes:Nat->Nat):Prop where
 t:TrI p w1.heap.size w1 w vv ca refs nodes
 own:w.ownsRow w1.heap.size 40 4 vv vs.length (ZB vs)
structure Ku (p:CP) (vv:Value) (w w':World):Prop where
 os:w'.os=w.os
 tape:w'.tape=w.tape
 output:w'.output=w.output
 size:w.heap.size<=w'.heap.size
 block:∀ k,k<w.heap.size->k≠p.cb->vv.ownBlock≠some k->w'.heap[k]?=w.heap[k]?
def vX (vv:Value) (n:Nat) (uH:Value):Prop:=uH.ownBlock=vv.ownBlock\/∃ g,uH.ownBlock=some g/\n<=g
def VolsQ (p:CP) (w1:World) (refs nodes:Nat->Nat) (next:Int) (vs:List Vol) (l:List It) (vv:Value) (w:World) (e:Ending) (w':World):Prop:=
 Ku p vv w w'/\match ZG next vs l with
  |none=>e=.returned (.int .i64 8)
  |some vs'=>e=.returned (.int .i64 0)/\∃ uH ca',VolI p w1 w' vs' uH ca' refs nodes/\vX vv w.heap.size uH
theorem Ku.refl (p:CP) (vv:Value) (w:World):Ku p vv w w:=⟨rfl,rfl,rfl,zM _,fun _ _ _ _=>rfl⟩
theorem Ku.ext {p:CP} {vv:Value} {w w' w'':World} (h:Ku p vv w w') (hx:Ext w' w''):Ku p vv w w'':=
 ⟨hx.os.trans h.os,hx.tape.trans h.tape,hx.output.trans h.output,Nat.le_trans h.size hx.size,fun k h1 h2 h3=>(hx.block k (Nat.lt_of_lt_of_le h1 h.size)).trans (h.block k h1 h2 h3)⟩
theorem Ku.trans {p:CP} {vv uH:Value} {w w' w'':World} (h:Ku p vv w w') (h':Ku p uH w' w'') (hn:vX vv w.heap.size uH):Ku p vv w w'':=
 ⟨h'.os.trans h.os,h'.tape.trans h.tape,h'.output.trans h.output,Nat.le_trans h.size h'.size,fun k h1 h2 h3=>(h'.block k (Nat.lt_of_lt_of_le h1 h.size) h2 (fun e=>by
  rcases hn with x|⟨g,x,y⟩
  ·exact h3 (x ▸ e)
  ·rw[x] at e;cases e;omega)).trans (h.block k h1 h2 h3)⟩
theorem vX.refl (vv:Value) (n:Nat):vX vv n vv:=.inl rfl
theorem vX.trans {vv uH vv'':Value} {n n':Nat} (h:vX vv n uH) (h':vX uH n' vv'') (hn:n<=n'):vX vv n vv'':=by
 rcases h' with x|⟨g,x,y⟩
 ·rcases h with z|⟨g,z,y⟩
  ·exact .inl (x.trans z)
  ·exact .inr ⟨g,x.trans z,y⟩
 ·exact .inr ⟨g,x,zO⟩
theorem VolI.ext {p:CP} {w1 w w':World} {vs:List Vol} {vv:Value} {ca:Array Value} {refs nodes:Nat->Nat} (h:VolI p w1 w vs vv ca refs nodes) (hx:Ext w w'):VolI p w1 w' vs vv ca refs nodes:=⟨h.t.ext hx,QM h.own hx⟩
theorem TrI.setVol {p:CP} {B:Nat} {w1 wr:World} {vv:Value} {ca:Array Value} {refs nodes:Nat->Nat} (h:TrI p B w1 wr vv ca refs nodes) (uH:Value):TrI p B w1 (wr.setCell ⟨p.cb,518,none⟩ uH) uH (ca.setIfInBounds 518 uH) refs nodes:=by
 have hs:=h.ar.size;refine⟨h.off.setCell (p:=⟨p.cb,518,none⟩) (.inl rfl) _,qi h.row _ _,⟨by simp[hs],fun a ha=>?_,fun a ha=>?_,?_⟩,fun i hi=>(qcs zO hi).trans (h.low i hi),h.lt⟩
 ·rw[Array.getElem?_setIfInBounds,if_neg zO,h.ar.ref a ha]
 ·rw[Array.getElem?_setIfInBounds,if_neg zO,h.ar.node a ha]
 ·rw[Array.getElem?_setIfInBounds,if_pos rfl,if_pos zO]
theorem Ku.grown {p:CP} {rU vv:Value} {w w' w'':World} (h:Ku p rU w w') (hn:vX rU w.heap.size vv) (hg:w'.grownBy w'' vv.ownBlock):Ku p rU w w'':=
 ⟨hg.os.trans h.os,hg.tape.trans h.tape,hg.output.trans h.output,Nat.le_trans h.size hg.size,fun k h1 h2 h3=>(hg.block k (Nat.lt_of_lt_of_le h1 h.size) (fun e=>by
  rcases hn with x|⟨g,x,y⟩
  ·exact h3 (x ▸ e.symm)
  ·rw[x] at e;cases e;omega)).trans (h.block k h1 h2 h3)⟩
theorem Ku.setC {p:CP} {rU u:Value} {w w':World} {i:Nat} (h:Ku p rU w w'):Ku p rU w (w'.setCell ⟨p.cb,i,none⟩ u):=
 ⟨h.os,h.tape,h.output,by simpa using h.size,fun k h1 h2 h3=>(zJ _ _ _ _ (fun e=>h2 e)).trans (h.block k h1 h2 h3)⟩
abbrev qB (s1 s2 s3 s4:Value) (gen root next:Int) (dead:Value):Array Value:=#[s1,s2,s3,s4,.int .u32 gen,.int .i64 root,.int .u32 next,dead]
def VolsC (p:CP) (w1:World) (f:Int->Option Value) (refs nodes:Nat->Nat) (s1 s2 s3 s4:Value) (gen root next:Int) (dead:Value) (h:Nat):Prop:=
 ∀ (xs:List It) (A:Option Addr) (c:Nat) (vs:List Vol) (vv:Value) (ca:Array Value) (w:World),VolI p w1 w vs vv ca refs nodes->vs.length<=16->(∀ x∈xs,jq x)->xs.length<=5->Zv p.lo w1 (.slice A xs.length c) xs ->
  (Qg p.S h xs).isSome=true->(0<h->∀ y∈xs,(f y.r).isSome=true) ->
  Calls prog 85 #[.pointer (some ⟨p.cb,0,none⟩),.agg (qB s1 s2 s3 s4 gen root next dead),je h A xs.length c] w (VolsQ p w1 refs nodes next vs (Qs p.S h xs) vv w)
end Go.Proofs.YtpbniokljofedaaGreat
