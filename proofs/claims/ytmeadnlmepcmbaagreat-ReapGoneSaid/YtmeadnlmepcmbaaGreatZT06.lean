/- Lemmas of the proof. -/
import Derived.Test.YtmeadnlmepcmbaaGreatZT05
set_option linter.all false
set_option maxHeartbeats 8000000
open Go.Proofs.Tryz
open Go.World renaming setCell→D,alloc→Jx
open Go.Value renaming int→E,slice→X
open Bool renaming true→F,false→O
open Go.IntKind renaming u32→I,i64→Y
open Option renaming some→J,none→U
open Go.Obj renaming cells→Z
open Go renaming Value→Oa
namespace Go.Proofs.YtmeadnlmepcmbaaGreat
open Go.RowKit
variable {cs ca:Array Value}{w w0 w5 w6 W wr w1:World}{ty:TypeId}{p:CP}{f g g':Int->Option Value}{φ:Value->(Int->Option Value)->Prop}{a lvl c n lo h k k' i cb B:Nat}{xs:List It}{A:OA}{fk lk l fk' lk':K3}{u v vv:Value}{bo:Bool}{S:Sto}{refs nodes rf rf':Nat->Nat}{R s:List Nat}{M:Nat->Bool}
theorem Tryz.info_span:(Tryz.prog.info? 156).map (λi=>(i.zero,i.size,i.bytes))=J (J (jY 0 U 0 0 (0,0,0) (0,0,0) O),9,64):=zQ
theorem qmR(w:World):(zeroValue 156).run prog w=.ok (jY 0 U 0 0 (0,0,0) (0,0,0) O) w:=by obtain⟨i0,hi,aZ,_,_⟩:=info_parts Tryz.info_span;simp[zeroValue,typeInfo,hi,aZ]
theorem set9(hs:cs.size=9)(x0 x1 x2 x3 x4 x5 x6 x7 x8:Oa):((((((((cs.setIfInBounds 0 x0).setIfInBounds 1 x1).setIfInBounds 2 x2).setIfInBounds 3 x3).setIfInBounds 4 x4).setIfInBounds 5 x5).setIfInBounds 6 x6).setIfInBounds 7 x7).setIfInBounds 8 x8=#[x0,x1,x2,x3,x4,x5,x6,x7,x8]:=by
 apply Array.ext_getElem?;intro j;by_cases hj:j<9;have:j=0\/j=1\/j=2\/j=3\/j=4\/j=5\/j=6\/j=7\/j=8:=zO;rcases this with rfl|rfl|rfl|rfl|rfl|rfl|rfl|rfl|rfl<;>simp[hs]
 rw[Array.getElem?_eq_none zA2,Array.getElem?_eq_none zA2]
theorem Kx{b:Nat}(h:w.heap[b]?=J (Z cs ty))(hs:cs.size=9)(x0 x1 x2 x3 x4 x5 x6 x7 x8:Oa):(((((((((w.setCell b x0).setCell (b,1) x1).setCell (b,2) x2).setCell (b,3) x3).setCell (b,4) x4).setCell (b,5) x5).setCell (b,6) x6).setCell (b,7) x7).setCell (b,8) x8).heap[b]?=J (Z #[x0,x1,x2,x3,x4,x5,x6,x7,x8] ty):=by have:=qi (qi (qi (qi (qi (qi (qi (qi (qi h 0 x0) 1 x1) 2 x2) 3 x3) 4 x4) 5 x5) 6 x6) 7 x7) 8 x8;rw[this,set9 hs]
theorem kj{B b:Nat}(h:Below B w0 w)(hb:B<=b)(x0 x1 x2 x3 x4 x5 x6 x7 x8:Oa):Below B w0 (((((((((w.setCell b x0).setCell (b,1) x1).setCell (b,2) x2).setCell (b,3) x3).setCell (b,4) x4).setCell (b,5) x5).setCell (b,6) x6).setCell (b,7) x7).setCell (b,8) x8):=
 Below.setCell (Below.setCell (Below.setCell (Below.setCell (Below.setCell (Below.setCell (Below.setCell (Below.setCell (Below.setCell h (p:=⟨b,0,U⟩) hb _) (p:=⟨b,1,U⟩) hb _) (p:=⟨b,2,U⟩) hb _) (p:=⟨b,3,U⟩) hb _) (p:=⟨b,4,U⟩) hb _) (p:=⟨b,5,U⟩) hb _) (p:=⟨b,6,U⟩) hb _) (p:=⟨b,7,U⟩) hb _) (p:=⟨b,8,U⟩) hb _
theorem Yh{b:Nat}(x0 x1 x2 x3 x4 x5 x6 x7 x8:Oa):w.grownBy (((((((((w.setCell b x0).setCell (b,1) x1).setCell (b,2) x2).setCell (b,3) x3).setCell (b,4) x4).setCell (b,5) x5).setCell (b,6) x6).setCell (b,7) x7).setCell (b,8) x8) (J b):=
 QO.trans (QO.trans (QO.trans (QO.trans (QO.trans (QO.trans (QO.trans (QO.trans QO)))))))
theorem qaB{w7 w7' w8:World}{b:Bool}(hfa:f a=U)(hC:Cen p w f)(h5:Ext w w5)(hlt:w.heap.size<w5)(bU:vZ f g)(ry:QR w6 p.mb g)(hg6:w5.grownBy w6 (J p.mb))(hn:News p.S w5 f g w6)(uJ:w6.grownBy w7 (J w.heap.size))(h7:Ext w7 w7')(hm7:QR w7' p.mb g)(h78:w7'.grownBy w8 (J p.mb))(hm8:QR w8 p.mb (λr=>if r=(a:Int)then J (jY lvl A xs.length c fk lk b)else g r))(h8W:w8.grownBy W (J w.heap.size))(ha:8<=a)(bC:a<256)(hnode:qo p.S a=J ((lvl:Int),xs))(aG:ZO (↑w+1) w5 (X A xs.length c) xs)(aK:kh p.S lvl xs fk lk b)(az:b=F->0<lvl->∀y∈xs,(g y.r).isSome=F)(hφ:φ u (λr=>if r=(a:Int)then J (jY lvl A xs.length c fk lk b)else g r)):Uz p f φ w u W:=by
 have hmb:p.mb<w:=by have:=hC.low;omega
 have hC5:=hC.ext h5;have z6:=hg6.size;have z7:=uJ.size;have z7':=h7.size;have z8:=h78.size;have zW:=h8W.size;have hmW:QR W p.mb _:=hm8.of_heap (h8W.block _ zO zA2);refine qmd (w5:=w5) (w6:=w6) hfa h5 hlt bU hg6 hn hmW ?_ zO (λq h1 h2=>?_) ha bC hnode ?_ aK az hφ;refine World.grownBy.andThen (World.grownBy.andThen (World.grownBy.andThen (World.grownBy.andThen (World.grownBy.andThen (QP h5 (J p.mb)) hg6 (λj e=>.inr (by rw[<-e]))) uJ (λj e=>.inl (by cases e;omega))) (QP h7 U) (λj e=>by cases e)) h78 (λj e=>.inr (by rw[<-e]))) h8W (λj e=>.inl (by cases e;omega));have aH:J q.block≠J w.heap.size:=zA2;rw[World.cell?_of_block (h8W.block q.block zO aH),JC hm7 hm8 h78 q zO,Below.cell h7 (p:=q) zO,World.cell?_of_block (uJ.block q.block zO aH)];exact aG.keep hg6.size (λq _ h2=>JC hC5.map ry hg6 q h2)
abbrev qfZ:Oa:=jY 0 U 0 0 (0,0,0) (0,0,0) O
theorem JB{R:Ending->World->Prop}{a:Act}{b:Nat}{lvl:Int}{f:K3}(h6:a.tmps[6]?.getD undef=.pointer b)(hd:a.defers=[])(aC:W.heap[b]?=J (Z (JL lvl A n c f l bo) 156))(hR:R (.returned (jY lvl A n c f l bo)) W):bodyPost prog Tryz.f110 R .ret a W:=by refine bodyPost_ret (v:=jY lvl A n c f l bo) ?_ hd hR;have k:=qa aC;simp[results,results110,go_sem,h6,k]
theorem cen_node(hC:Cen p W g)(ha:8<=a)(bC:a<256):Calls prog 145 #[.pointer p.bb,(a:Int)] W (zZ (qce W (qo p.S a)) W):=by obtain⟨_,A1,c1,e1,_⟩:=hC.onB.2.2.bs;obtain⟨_,_,⟨A2,c2,e2,_⟩,_⟩:=hC.onB.2.2.ws;obtain⟨A3,c3,e3,_⟩:=hC.onB.2.2.now;obtain⟨A4,c4,e4,_⟩:=hC.onB.2.2.last;have h:=hC.onB;rw[e1,e2,e3,e4]at h;exact Ve 0 p.bb _ _ _ _ _ _ _ _ _ _ _ _ p.S hC.may a ha bC W h
set_option maxRecDepth 100000 in
theorem qeP(p:CP)(L:Int)(hL:L=-1\/(0<=L/\L<=5))(HR:∀h:Nat,h<=5->(0<=L->(h:Int)=L)->ReadC p h):qiT p L:=by
 intro r w f hC;by_cases hr:r<8\/256<=r
 ·have ho:okL p.S L r=O:=by unfold okL;rw[if_neg zO]
  have HP:qcd p L r qfZ f:=⟨0,U,0,0,_,_,by rw[ho],λh=>by rw[ho]at h;cases h⟩
  replace⟨HP,hC⟩:=zH2 HP hC;clear ho HR;go_enter func110,ntmps110;go_wp2;all_goals first|(exfalso;omega)|skip
  all_goals
   generalize ah:(Jx _ _)=wf;have rf:wf.heap[w.heap.size]?=J (Z (JL 0 U 0 0 (0,0,0) (0,0,0) O) 156 (0,0)):=ah▸zI _ _ _ rfl;have xf:Ext w wf:=ah▸zN _ _;have kf:=qa rf;exact bodyPost_ret (v:=qfZ) (by simp[results,results110,go_sem,kf]) rfl (Uz.same hC.out xf HP.out)
 obtain⟨a,rfl⟩:∃a:Nat,r=(a:Int):=⟨r.toNat,zO⟩
 have ha:8<=a:=zO;have bC:a<256:=zO;have hd1:decide ((a:Int)<8)=O:=decide_eq_false zO;have hd2:decide ((a:Int)≥256)=O:=decide_eq_false zO;have HOK:Hid (okL p.S L a=match qo p.S a with|none=>O|some (lvl,xs)=>(qz p.S lvl.toNat xs).isSome&&(decide (L<0)||(decide (lvl=L)&&decide (xs.length≠0)))):=by refine zH ?_;unfold okL;rw[if_pos zO,Int.toNat_natCast];all_goals rfl
 have k0:∀W,Ext w W->W.cell? (p.cb,5)=J (.map (J p.mb)):=λW h=>by rw[qa (qb hC.row h),hC.c5]
 have k1:∀W,Ext w W->W.cell? (p.cb,4)=J (.pointer p.bb):=λW h=>by rw[qa (qb hC.row h),hC.c4]
 have xI:p.cb<w:=(zG.1 hC.row).1;have rY:w.cell? (p.cb,5)=J (.map (J p.mb)):=k0 w (Ext.refl _);replace hC:=zH hC;clear hr;go_enter func110,ntmps110;go_wp2_with (at_lookup;refine qV ?_);generalize aA:(Jx _ _)=w1;have x1:Ext w w1:=aA▸zN _ _;have q1:w1.heap[w.heap.size]?=J (Z (JL 0 U 0 0 (0,0,0) (0,0,0) O) 156 (0,0)):=aA▸zI _ _ _ rfl;clear aA;have hC1:=hC.out.ext x1;refine Qm.go (Yc _ rfl (.tmp 21) (.tmp 22) 93 rfl underlying93 underlying3 (qmR _) rfl rfl hC1.map ?_);rcases hfr:f (a:Int)with _|v
 ·have kq:=qa q1;have fq:=qe q1;go_wp2_with fail;have q2:=Kx q1 rfl (E Y 0) (X U 0 0) (E .u8 0) (E I 0) (E I 0) (E .u8 0) (E I 0) (E I 0) (.bool O);have x2:Ext w _:=kj x1 (zM w.heap.size) (E Y 0) (X U 0 0) (E .u8 0) (E I 0) (E I 0) (E .u8 0) (E I 0) (E I 0) (.bool O);generalize cO:(D (D (D (D (D (D (D (D (D w1 _ _) _ _) _ _) _ _) _ _) _ _) _ _) _ _) _ _)=w2 at*;clear cO kq fq q1 x1 hC1;refine(cen_node (hC.out.ext x2) ha bC).mono ?_;rintro e w3 ⟨u,rfl,hu,hB⟩;have x3:Ext w w3:=x2.trans hB;have q3:=qb q2 hB;have s3:w.heap.size<w3:=(zG.1 q3).1;have s2:w.heap.size<w2:=(zG.1 q2).1;have k3:=qa q3;have f3:=qe q3;have HP0:okL p.S L a=O->qcd p L a qfZ f:=λh=>⟨0,U,0,0,_,_,by rw[h],λh'=>by rw[h]at h';cases h'⟩
  rcases hnode:qo p.S a with _|⟨lvl',xs⟩
  ·rw[hnode]at hu HOK;obtain⟨er,aH,rfl⟩:=hu;have hv:=HP0 HOK.out;have uA:(er != 0)=F:=by rw[bne_iff_ne];exact aH
   replace hv:=zH hv;clear HP0 HOK HR hnode k0 k1 rY;go_wp2;exact JB (b:=w.heap.size) rfl rfl ((zK _ _ _ (by simpa using s3)).trans (Kx q3 rfl _ _ _ _ _ _ _ _ _)) (Uz.same hC.out (Below.alloc (kj x3 (zM _) _ _ _ _ _ _ _ _ _) zA2 _) hv.out)
  rw[hnode]at hu HOK;obtain⟨A,c,rfl,aG⟩:=hu;obtain⟨hmay,ng,hlv⟩:=qI hnode;obtain⟨lvl,rfl⟩:=Int.eq_ofNat_of_zero_le hlv;replace HOK:Hid (okL p.S L a=((qz p.S lvl xs).isSome&&(decide (L<0)||(decide ((lvl:Int)=L)&&decide (xs.length≠0))))):=HOK;have hl5:lvl<=5:=by unfold Qj ZV at hmay;simp at hmay;omega
  by_cases hmm:0<=L/\(lvl:Int)≠L
  ·have hv:=HP0 (by rw[HOK.out];simp only[decide_eq_false (show ¬L<0 by omega),decide_eq_false hmm.2];simp);have dV:decide (L≥0)=F:=decide_eq_true hmm.1;have hBD:((lvl:Int)!=L)=F:=by rw[bne_iff_ne];exact hmm.2
   replace hv:=zH hv;clear HP0 HOK HR hnode k0 k1 rY hmm;go_wp2;exact JB (b:=w.heap.size) rfl rfl ((zK _ _ _ (by simpa using s3)).trans (Kx q3 rfl _ _ _ _ _ _ _ _ _)) (Uz.same hC.out (Below.alloc (kj x3 (zM _) _ _ _ _ _ _ _ _ _) zA2 _) hv.out)
  have hLc:L<0\/(0<=L/\(lvl:Int)=L):=by
   rcases hL with h|h
   exact .inl zO;exact .inr ⟨h.1,Classical.byContradiction λh'=>hmm ⟨h.1,h'⟩⟩
  have HRD:=zH (HR lvl hl5 (λh=>zO));clear HR;rcases hLc with hL0|⟨hL0,hLl⟩
  ·skip
   have dV:decide (L≥0)=O:=decide_eq_false zO;have nN:okL p.S L a=(qz p.S lvl xs).isSome:=by rw[HOK.out,decide_eq_true hL0,Bool.true_or,Bool.and_true]
   replace nN:=zH nN;clear HOK HP0;go_wp2_with fail;generalize aS:(Jx _ _)=w5;have x35:Ext w3 w5:=aS▸zN _ _;clear aS k3 f3;have x5:Ext w w5:=x3.trans x35;have q5:=qb q3 x35;have dI:=hC.out.low;have s5:w.heap.size<w5:=(zG.1 q5).1;have fH:ZO (↑w+1) w5 (X A xs.length c) xs:=(aG.ext x35).mono zO;refine(HRD.out xs A c w5 f hmay ng (fH.mono zO) (hC.out.ext x5)).mono ?_;rintro e w6 ⟨v,g,rfl,⟨fk,lk,b,rfl,aK,az⟩,bU,ry,hg6,xP⟩;have hC6:=(hC.out.ext x5).after bU ry hg6 xP;have q6:w6.heap[w.heap.size]?=_:=(hg6.block _ s5 zA2).trans q5;have k6:=qa q6;have f6:=qe q6;go_wp2_with fail;have q7:=Kx q6 rfl (E Y lvl) (X A xs.length c) (E .u8 fk.1) (E I fk.2.1) (E I fk.2.2) (E .u8 lk.1) (E I lk.2.1) (E I lk.2.2) (.bool b);have uJ:=Yh (w:=w6) (b:=w.heap.size) (E Y lvl) (X A xs.length c) (E .u8 fk.1) (E I fk.2.1) (E I fk.2.2) (E .u8 lk.1) (E I lk.2.1) (E I lk.2.2) (.bool b);generalize lX:(D (D (D (D (D (D (D (D (D w6 _ _) _ _) _ _) _ _) _ _) _ _) _ _) _ _) _ _)=w7 at*;have z56:=hg6.size;have wW:w7.heap[p.cb]?=_:=(uJ.block _ zO zA2).trans hC6.row;have hm7:QR w7 p.mb g:=ry.of_heap (uJ.block _ zO zA2);have hc5:=hC6.c5;clear lX k6 f6 q6;have g5:∀W,qm.r w7 W->W.cell? (p.cb,5)=J (.map (J p.mb)):=λW h=>by rw[qa (qb wW h),hc5]
   have gq:∀W,qm.r w7 W->∀i,W.cell? ⟨w,i,U⟩=(JL lvl A xs.length c fk lk b)[i]?:=λW h=>qa (qb q7 h);refine qt zQ ?_;refine ji (w:=w7) qm (qP []) [F,F,F,F,F,F] 1 zQ zQ zQ zQ zQ zQ ?st (Rel.drew _ _) ?walk
   case st=>exact qk (λ_ h=>by cases h)
   case walk=>intro K hK;dsimp only[qv];refine zB7 ?_;refine qB (hK _ _ λW hW hF=>?_);clear hF hK g5 gq;have bZ:Ext w7 W:=hW;have z7:=uJ.size;have q7':=qb q7 bZ;have hmW:QR W p.mb g:=hm7.of_heap (bZ.block _ zO);refine zB6 ?_;refine jr _ rfl (.tmp 56) (.tmp 57) (.tmp 58) 93 rfl underlying93 underlying3 rfl rfl rfl hmW ?_;intro w8 hm8 hg8;have z7W:=bZ.size;have q8:w8.heap[w.heap.size]?=_:=(hg8.block _ zO zA2).trans q7';have k8:=qa q8;have f8:=qe q8;replace⟨az,aK,hnode,hfr⟩:=zH4 az aK hnode hfr;go_wp2;refine Qq ?_;go_wp2;exact JB (b:=w.heap.size) rfl rfl (Kx q8 rfl _ _ _ _ _ _ _ _ _) (qaB hfr.out hC.out x5 s5 bU ry hg6 xP uJ bZ hmW hg8 hm8 (Yh _ _ _ _ _ _ _ _ _) ha bC hnode.out fH aK.out az.out ⟨lvl,A,_,c,fk,lk,by rw[nN.out,<-aK.out.1],λ_=>if_pos rfl⟩)
  by_cases hm0:xs.length=0
  case neg=>
   have hBD:((lvl:Int)!=L)=O:=by rw[bne_eq_false_iff_eq];exact hLl
   have nN:okL p.S L a=(qz p.S lvl xs).isSome:=by rw[HOK.out,decide_eq_true hLl,decide_eq_true hm0];simp
   have uA:((xs.length:Int)==0)=O:=by rw[beq_eq_false_iff_ne];omega
   replace⟨nN,hLl,hm0⟩:=zH3 nN hLl hm0;clear HOK HP0;go_wp2_with fail;generalize aS:(Jx _ _)=w5;have x35:Ext w3 w5:=aS▸zN _ _;clear aS k3 f3;have x5:Ext w w5:=x3.trans x35;have q5:=qb q3 x35;have dI:=hC.out.low;have s5:w.heap.size<w5:=(zG.1 q5).1;have fH:ZO (↑w+1) w5 (X A xs.length c) xs:=(aG.ext x35).mono zO;refine(HRD.out xs A c w5 f hmay ng (fH.mono zO) (hC.out.ext x5)).mono ?_;rintro e w6 ⟨v,g,rfl,⟨fk,lk,b,rfl,aK,az⟩,bU,ry,hg6,xP⟩;have hC6:=(hC.out.ext x5).after bU ry hg6 xP;have q6:w6.heap[w.heap.size]?=_:=(hg6.block _ s5 zA2).trans q5;have k6:=qa q6;have f6:=qe q6;go_wp2_with fail;have q7:=Kx q6 rfl (E Y lvl) (X A xs.length c) (E .u8 fk.1) (E I fk.2.1) (E I fk.2.2) (E .u8 lk.1) (E I lk.2.1) (E I lk.2.2) (.bool b);have uJ:=Yh (w:=w6) (b:=w.heap.size) (E Y lvl) (X A xs.length c) (E .u8 fk.1) (E I fk.2.1) (E I fk.2.2) (E .u8 lk.1) (E I lk.2.1) (E I lk.2.2) (.bool b);generalize lX:(D (D (D (D (D (D (D (D (D w6 _ _) _ _) _ _) _ _) _ _) _ _) _ _) _ _) _ _)=w7 at*;have z56:=hg6.size;have wW:w7.heap[p.cb]?=_:=(uJ.block _ zO zA2).trans hC6.row;have hm7:QR w7 p.mb g:=ry.of_heap (uJ.block _ zO zA2);have hc5:=hC6.c5;clear lX k6 f6 q6;have g5:∀W,qm.r w7 W->W.cell? (p.cb,5)=J (.map (J p.mb)):=λW h=>by rw[qa (qb wW h),hc5]
   have gq:∀W,qm.r w7 W->∀i,W.cell? ⟨w,i,U⟩=(JL lvl A xs.length c fk lk b)[i]?:=λW h=>qa (qb q7 h);refine qt zQ ?_;refine ji (w:=w7) qm (qP []) [F,F,F,F,F,F] 1 zQ zQ zQ zQ zQ zQ ?st (Rel.drew _ _) ?walk
   case st=>exact qk (λ_ h=>by cases h)
   case walk=>intro K hK;dsimp only[qv];refine zB7 ?_;refine qB (hK _ _ λW hW hF=>?_);clear hF hK g5 gq;have bZ:Ext w7 W:=hW;have z7:=uJ.size;have q7':=qb q7 bZ;have hmW:QR W p.mb g:=hm7.of_heap (bZ.block _ zO);refine zB6 ?_;refine jr _ rfl (.tmp 56) (.tmp 57) (.tmp 58) 93 rfl underlying93 underlying3 rfl rfl rfl hmW ?_;intro w8 hm8 hg8;have z7W:=bZ.size;have q8:w8.heap[w.heap.size]?=_:=(hg8.block _ zO zA2).trans q7';have k8:=qa q8;have f8:=qe q8;replace⟨az,aK,hnode,hfr⟩:=zH4 az aK hnode hfr;go_wp2;refine Qq ?_;go_wp2;exact JB (b:=w.heap.size) rfl rfl (Kx q8 rfl _ _ _ _ _ _ _ _ _) (qaB hfr.out hC.out x5 s5 bU ry hg6 xP uJ bZ hmW hg8 hm8 (Yh _ _ _ _ _ _ _ _ _) ha bC hnode.out fH aK.out az.out ⟨lvl,A,_,c,fk,lk,by rw[nN.out,<-aK.out.1],λ_=>if_pos rfl⟩)
  case pos=>
   have hBD:((lvl:Int)!=L)=O:=by rw[bne_eq_false_iff_eq];exact hLl
   have nN:okL p.S L a=O:=by rw[HOK.out];simp[hm0,show ¬L<0 by omega]
   have uA:((xs.length:Int)==0)=F:=by rw[beq_iff_eq];omega
   replace⟨nN,hLl,hm0⟩:=zH3 nN hLl hm0;clear HOK HP0;go_wp2_with fail;generalize aS:(Jx _ _)=w5;have x35:Ext w3 w5:=aS▸zN _ _;clear aS k3 f3;have x5:Ext w w5:=x3.trans x35;have q5:=qb q3 x35;have dI:=hC.out.low;have s5:w.heap.size<w5:=(zG.1 q5).1;have fH:ZO (↑w+1) w5 (X A xs.length c) xs:=(aG.ext x35).mono zO;refine(HRD.out xs A c w5 f hmay ng (fH.mono zO) (hC.out.ext x5)).mono ?_;rintro e w6 ⟨v,g,rfl,⟨fk,lk,b,rfl,aK,az⟩,bU,ry,hg6,xP⟩;have hC6:=(hC.out.ext x5).after bU ry hg6 xP;have q6:w6.heap[w.heap.size]?=_:=(hg6.block _ s5 zA2).trans q5;have k6:=qa q6;have f6:=qe q6;go_wp2_with fail;have q7:=Kx q6 rfl (E Y lvl) (X A xs.length c) (E .u8 fk.1) (E I fk.2.1) (E I fk.2.2) (E .u8 lk.1) (E I lk.2.1) (E I lk.2.2) (.bool b);have uJ:=Yh (w:=w6) (b:=w.heap.size) (E Y lvl) (X A xs.length c) (E .u8 fk.1) (E I fk.2.1) (E I fk.2.2) (E .u8 lk.1) (E I lk.2.1) (E I lk.2.2) (.bool b);generalize lX:(D (D (D (D (D (D (D (D (D w6 _ _) _ _) _ _) _ _) _ _) _ _) _ _) _ _) _ _)=w7 at*;have z56:=hg6.size;have wW:w7.heap[p.cb]?=_:=(uJ.block _ zO zA2).trans hC6.row;have hm7:QR w7 p.mb g:=ry.of_heap (uJ.block _ zO zA2);have hc5:=hC6.c5;clear lX k6 f6 q6;have g5:∀W,qm.r w7 W->W.cell? (p.cb,5)=J (.map (J p.mb)):=λW h=>by rw[qa (qb wW h),hc5]
   have gq:∀W,qm.r w7 W->∀i,W.cell? ⟨w,i,U⟩=(JL lvl A xs.length c fk lk b)[i]?:=λW h=>qa (qb q7 h);refine qt zQ ?_;refine ji (w:=w7) qm (qP []) [F,F,F,F,F,F] 1 zQ zQ zQ zQ zQ zQ ?st (Rel.drew _ _) ?walk
   case st=>exact qk (λ_ h=>by cases h)
   case walk=>intro K hK;dsimp only[qv];refine zB7 ?_;refine qB (hK _ _ λW hW hF=>?_);clear hF hK g5 gq;have bZ:Ext w7 W:=hW;have z7:=uJ.size;have q7':=qb q7 bZ;have hmW:QR W p.mb g:=hm7.of_heap (bZ.block _ zO);refine zB6 ?_;refine jr _ rfl (.tmp 56) (.tmp 57) (.tmp 58) 93 rfl underlying93 underlying3 rfl rfl rfl hmW ?_;intro w8 hm8 hg8;have z7W:=bZ.size;have q8:w8.heap[w.heap.size]?=_:=(hg8.block _ zO zA2).trans q7';have k8:=qa q8;have f8:=qe q8;replace⟨az,aK,hnode,hfr⟩:=zH4 az aK hnode hfr;go_wp2;refine Qq ?_;go_wp2;exact JB (b:=w.heap.size) (f:=(0,0,0)) (l:=(0,0,0)) rfl rfl (Kx q8 rfl _ _ _ _ _ _ _ _ _) (qaB hfr.out hC.out x5 s5 bU ry hg6 xP uJ bZ hmW hg8 hm8 (Yh _ _ _ _ _ _ _ _ _) ha bC hnode.out fH aK.out az.out ⟨0,U,0,0,_,_,by rw[nN.out],λh=>by rw[nN.out]at h;cases h⟩)
 obtain⟨n,lvl,xs,A,c,fk,lk,b,hn,_,_,hnode,rfl,aG,hKZ,hclo⟩:=hC1.known _ _ hfr;obtain rfl:a=n:=zO;have hok:okL p.S L a=(b&&(decide (L<0)||(decide ((lvl:Int)=L)&&decide (xs.length≠0)))):=by rw[HOK.out,hnode,hKZ.1];rfl
 have HPv:okL p.S L a=b->qcd p L a (jY lvl A xs.length c fk lk b) f:=λh=>⟨_,A,_,c,fk,lk,by rw[h],λ_=>hfr⟩
 have HP0:okL p.S L a=O->qcd p L a qfZ f:=λh=>⟨0,U,0,0,_,_,by rw[h],λh'=>by rw[h]at h';cases h'⟩
 replace⟨HPv,HP0,hC1,hok⟩:=zH4 HPv HP0 hC1 hok;clear hfr hclo hKZ aG hnode HOK HR hn k0 k1 rY;have kq:=qa q1;have fq:=qe q1;generalize iG:xs.length=m at*;clear iG;by_cases hL0:L<0
 ·have hv:=HPv.out (by rw[hok.out,decide_eq_true hL0,Bool.true_or,Bool.and_true]);have dV:decide (L≥0)=O:=decide_eq_false zO;replace hv:=zH hv;clear HPv HP0 hok;go_wp2;exact JB (b:=w.heap.size) rfl rfl (Kx (Kx q1 rfl _ _ _ _ _ _ _ _ _) rfl _ _ _ _ _ _ _ _ _) (Uz.same hC.out (kj (kj x1 (zM _) _ _ _ _ _ _ _ _ _) (zM _) _ _ _ _ _ _ _ _ _) hv.out)
 have dV:decide (L≥0)=F:=decide_eq_true zO;by_cases hll:(lvl:Int)=L/\m≠0
 ·have hv:=HPv.out (by rw[hok.out,decide_eq_false hL0,decide_eq_true hll.1,decide_eq_true hll.2];simp);have hBD:((lvl:Int)!=L)=O:=by rw[bne_eq_false_iff_eq];exact hll.1
  have uA:((m:Int)==0)=O:=by rw[beq_eq_false_iff_ne];omega
  replace hv:=zH hv;clear HPv HP0 hok hll;go_wp2;exact JB (b:=w.heap.size) rfl rfl (Kx (Kx q1 rfl _ _ _ _ _ _ _ _ _) rfl _ _ _ _ _ _ _ _ _) (Uz.same hC.out (kj (kj x1 (zM _) _ _ _ _ _ _ _ _ _) (zM _) _ _ _ _ _ _ _ _ _) hv.out)
 have hv:=HP0.out (by
  rw[hok.out,decide_eq_false hL0];by_cases h1:(lvl:Int)=L;have h2:m=0:=Classical.byContradiction λh=>hll ⟨h1,h⟩;simp[h2]
  ·simp[h1])
 replace hv:=zH hv;clear HPv HP0 hok;by_cases h1:(lvl:Int)=L
 ·have h2:m=0:=Classical.byContradiction λh=>hll ⟨h1,h⟩;have hBD:((lvl:Int)!=L)=O:=by rw[bne_eq_false_iff_eq];exact h1
  clear hll h1;subst h2;go_wp2;exact JB (b:=w.heap.size) rfl rfl (Kx (Kx q1 rfl _ _ _ _ _ _ _ _ _) rfl _ _ _ _ _ _ _ _ _) (Uz.same hC.out (kj (kj x1 (zM _) _ _ _ _ _ _ _ _ _) (zM _) _ _ _ _ _ _ _ _ _) hv.out)
 have hBD:((lvl:Int)!=L)=F:=by rw[bne_iff_ne];exact h1
 clear hll h1;go_wp2;exact JB (b:=w.heap.size) rfl rfl (Kx (Kx q1 rfl _ _ _ _ _ _ _ _ _) rfl _ _ _ _ _ _ _ _ _) (Uz.same hC.out (kj (kj x1 (zM _) _ _ _ _ _ _ _ _ _) (zM _) _ _ _ _ _ _ _ _ _) hv.out)
theorem qeV(S:Sto)(h:Nat)(r:Int):okL S (h:Int) r=(vI S h r).isSome:=by
 unfold okL vI;split;rcases hn:qo S r.toNat with _|⟨lvl,xs⟩
 rfl;simp only;by_cases hl:lvl=(h:Int)
 subst hl;rw[if_pos rfl];rcases hs:qz S h xs with _|_|p
 simp[hs];have:xs.length=0:=by
  rcases Nat.eq_zero_or_pos xs.length with h0|h0
  exact h0;exact absurd (by rw[List.take_length];exact hs) (Zx (S:=S) (h:=h) h0 (zM _))
 simp[hs,this,show ¬((h:Int)<0)by omega];have:xs≠[]:=qkp ⟨p,hs⟩;simp[hs,this];rw[if_neg hl];simp[hl,show ¬((h:Int)<0)by omega];rfl
theorem qho{r lvl:Int}{b:Bool}(hc:Ux S lo w g r (jY lvl A n c fk lk b))(hok:okL S (h:Int) r=F):vI S h r=J (fk,lk):=by
 obtain⟨m,lv,xs,A',c',fk',lk',b',rfl,h1,h2,h3,h4,_,h6,_⟩:=hc;simp only[Value.agg.injEq,Array.mk.injEq,List.cons.injEq,Value.int.injEq,Value.bool.injEq,true_and,and_true]at h4;obtain⟨_,_,e1,e2,e3,e4,e5,e6,rfl⟩:=h4;have ef:fk=fk':=Prod.ext e1 (Prod.ext e2 e3);have el:lk=lk':=Prod.ext e4 (Prod.ext e5 e6);subst ef;subst el;rw[qeV]at hok;unfold vI at hok⊢;rw[if_pos zO,Int.toNat_natCast,h3]at hok⊢;simp only at hok⊢;split at hok;rename_i hl;obtain rfl:lv=h:=zO;rw[if_pos rfl];rcases hs:qz S lv xs with _|_|q
 rw[hs]at hok;cases hok;rw[hs]at hok;cases hok;rw[h6.2 q hs];rfl;cases hok
structure RdI(p:CP)(h:Nat)(xs:List It)(A:OA)(c:Nat)(w:World)(f:Int->Option Oa)(wr:World)(g:Int->Option Oa)(k:Nat)(fk lk:K3):Prop where
 rn:wr.heap[w.heap.size]?=J (Z #[h,X A xs.length c] 113)
 rr:wr.heap[w.heap.size+1]?=J (Z (JL 0 U 0 0 (0,0,0) (0,0,0) O) 156 (0,0))
 rx:wr.heap[w.heap.size+2]?=J (Z (JL h A xs.length c fk lk F) 156)
 sp:kh p.S h (xs.take k) fk lk F
 cl:0<h->∀y∈xs.take k,(g y.r).isSome=F
 gr:vZ f g
 mp:QR wr p.mb g
 gw:w.grownBy wr (J p.mb)
 nw:∀a v,g a=J v->f a=U->Ux p.S (↑w+3) wr g a v
theorem RdI.news(H:RdI p h xs A c w f wr g k fk lk):News p.S w f g wr:=
 λa v h1 h2=>(H.nw a v h1 h2).keep zO (zM _) (λ_ _ _=>rfl) (λ_ h=>h)
theorem RdI.cen(H:RdI p h xs A c w f wr g k fk lk)(hC:Cen p w f):Cen p wr g:=
 hC.after H.gr H.mp H.gw H.news
theorem RdI.ext(H:RdI p h xs A c w f wr g k fk lk)(hC:Cen p w f)(hx:Ext wr W):RdI p h xs A c w f W g k fk lk where
 rn:=qb H.rn hx
 rr:=qb H.rr hx
 rx:=qb H.rx hx
 sp:=H.sp
 cl:=H.cl
 gr:=H.gr
 mp:=H.mp.of_heap (hx.block _ (by have:=hC.low;have:=H.gw.size;omega))
 gw:=World.grownBy.andThen H.gw (QP hx (J p.mb)) (λj e=>.inr (by rw[<-e]))
 nw:=λa v h1 h2=>(H.nw a v h1 h2).keep (zM _) hx.size (λq _ hq=>Below.cell hx hq) (λ_ h=>h)
theorem RdI.call(H:RdI p h xs A c w f wr g k fk lk)(hC:Cen p w f)(bU:vZ g g')(hm:QR W p.mb g')(hg:wr.grownBy W (J p.mb))(hn:News p.S wr g g' W):RdI p h xs A c w f W g' k fk lk:=by
 have hl:=hC.low;have h2:w.heap.size+2<wr:=(zG.1 H.rx).1;have hb:∀b,w.heap.size<=b->b<wr.heap.size->W.heap[b]?=wr.heap[b]?:=λb h1 h2=>hg.block b h2 zA2;refine⟨(hb _ zO zO).trans H.rn,(hb _ zO zO).trans H.rr,(hb _ zO zO).trans H.rx,H.sp,λh0 y hy=>bU.some_ _ (H.cl h0 y hy),H.gr.trans bU,hm,World.grownBy.andThen H.gw hg (λj e=>.inr (by rw[<-e])),λa v h1 h0=>?_⟩;rcases hga:g a with _|u
 exact(hn a v h1 hga).keep zO (zM _) (λ_ _ _=>rfl) (λ_ h=>h);have e:=bU a u hga;rw[h1]at e;cases e;exact(H.nw a v hga h0).keep (zM _) hg.size (λq h3 h4=>World.cell?_of_block (hb q.block zO h4)) bU.some_
theorem RdI.set(H:RdI p h xs A c w f wr g k fk lk)(hC:Cen p w f)(hg:wr.grownBy W (J (w.heap.size+2)))(hx:W.heap[w.heap.size+2]?=J (Z (JL h A xs.length c fk' lk' F) 156))(hs:kh p.S h (xs.take k') fk' lk' F)(hc:0<h->∀y∈xs.take k',(g y.r).isSome=F):RdI p h xs A c w f W g k' fk' lk':=by
 have hl:=hC.low;have h2:w.heap.size+2<wr:=(zG.1 H.rx).1;have hb:∀b,b≠w.heap.size+2->b<wr.heap.size->W.heap[b]?=wr.heap[b]?:=λb h1 h2=>hg.block b h2 zA2;exact⟨(hb _ zO zO).trans H.rn,(hb _ zO zO).trans H.rr,hx,hs,hc,H.gr,H.mp.of_heap (hb _ zO zO),World.grownBy.andThen H.gw hg (λj e=>.inl (by cases e;omega)),
  λa v h1 h0=>(H.nw a v h1 h0).keep (zM _) hg.size (λq h3 h4=>World.cell?_of_block (hb q.block zO h4)) (λ_ h=>h)⟩
theorem RdI.set6(H:RdI p h xs A c w f wr g k fk lk)(hC:Cen p w f)(hs:kh p.S h (xs.take k') fk' lk' F)(hc:0<h->∀y∈xs.take k',(g y.r).isSome=F):RdI p h xs A c w f ((((((wr.setCell ⟨w.heap.size+1+1,2,U⟩ (E .u8 fk'.1)).setCell ⟨w.heap.size+1+1,3,U⟩ (E I fk'.2.1)).setCell ⟨w.heap.size+1+1,4,U⟩ (E I fk'.2.2)).setCell ⟨w.heap.size+1+1,5,U⟩ (E .u8 lk'.1)).setCell ⟨w.heap.size+1+1,6,U⟩ (E I lk'.2.1)).setCell ⟨w.heap.size+1+1,7,U⟩ (E I lk'.2.2)) g k' fk' lk':=
 H.set hC (QO.trans (QO.trans (QO.trans (QO.trans (QO.trans QO))))) (qi (qi (qi (qi (qi (qi H.rx 2 _) 3 _) 4 _) 5 _) 6 _) 7 _) hs hc
theorem RdI.set3(H:RdI p h xs A c w f wr g k fk lk)(hC:Cen p w f)(hs:kh p.S h (xs.take k') fk lk' F)(hc:0<h->∀y∈xs.take k',(g y.r).isSome=F):RdI p h xs A c w f (((wr.setCell ⟨w.heap.size+1+1,5,U⟩ (E .u8 lk'.1)).setCell ⟨w.heap.size+1+1,6,U⟩ (E I lk'.2.1)).setCell ⟨w.heap.size+1+1,7,U⟩ (E I lk'.2.2)) g k' fk lk':=
 H.set hC (QO.trans (QO.trans QO)) (qi (qi (qi H.rx 5 _) 6 _) 7 _) hs hc
theorem RdI.call8(H:RdI p h xs A c w f wr g k fk lk)(hC:Cen p w f)(hx:Ext wr w5)(bU:vZ g g')(hm:QR w6 p.mb g')(hg:w5.grownBy w6 (J p.mb))(hn:News p.S w5 g g' w6){b:Nat}(hb:wr.heap.size<=b)(bP:b<w5)(h7:w6.grownBy W (J b)):RdI p h xs A c w f W g' k fk lk:=by
 have hl:=hC.low;have h2:w.heap.size+2<wr:=(zG.1 H.rx).1;have zg:=hg.size;have H6:=(H.ext hC hx).call hC bU hm hg hn;have hk:∀a,a≠b->a<w6.heap.size->W.heap[a]?=w6.heap[a]?:=λa h1 h2=>h7.block a h2 zA2;refine⟨(hk _ zO zO).trans H6.rn,(hk _ zO zO).trans H6.rr,(hk _ zO zO).trans H6.rx,H6.sp,H6.cl,H6.gr,hm.of_heap (hk _ zO zO),World.grownBy.andThen H6.gw h7 (λj e=>.inl (by cases e;omega)),λa v h1 h0=>?_⟩;rcases hga:g a with _|u
 exact(hn a v h1 hga).keep zO h7.size (λq h3 h4=>World.cell?_of_block (hk q.block zO h4)) (λ_ h=>h);have e:=bU a u hga;rw[h1]at e;cases e;refine(H.nw a v hga h0).keep (zM _) (by have:=h7.size;omega) (λq h3 h4=>?_) bU.some_;rw[World.cell?_of_block (hk q.block zO zO),World.cell?_of_block (hg.block q.block zO zA2),Below.cell hx (p:=q) h4]
theorem RdI.ret(H:RdI p h xs A c w f wr g k fk lk)(hC:Cen p w f)(hg:wr.grownBy W (J (w.heap.size+1)))(hv:qgO p h A c xs v g):Uz p f (qgO p h A c xs) w v W:=by
 have hl:=hC.low;have h2:w.heap.size+2<wr:=(zG.1 H.rx).1;have hb:∀b,b≠w.heap.size+1->b<wr.heap.size->W.heap[b]?=wr.heap[b]?:=λb h1 h2=>hg.block b h2 zA2;exact⟨v,g,rfl,hv,H.gr,H.mp.of_heap (hb _ zO zO),World.grownBy.andThen H.gw hg (λj e=>.inl (by cases e;omega)),
  λa u h1 h0=>(H.nw a u h1 h0).keep zO hg.size (λq h3 h4=>World.cell?_of_block (hb q.block zO h4)) (λ_ h=>h)⟩
def Uk(S:Sto)(h:Nat)(x:It)(f l:K3)(b:Bool):Prop:=match jA S h x with|none=>b=O|some q=>b=F/\q=(f,l)
theorem qmC{S:Sto}{h:Nat}{xs:List It}{k:Nat}{f l f0 l0:K3}{b:Bool}(hk:k<xs.length)(ho:Uk S h xs[k] f l b)(hs:kh S h (xs.take k) f0 l0 F)(hb:b=O\/f≠qw xs[k]\/(0<k/\Qg l0 f=O)):qz S h xs=U:=by
 refine qfm (k:=k+1) ?_;rw[Jz hk];unfold Uk at ho;unfold jP;rcases hq:qz S h (xs.take k)with _|a
 rfl;rcases hone:jA S h xs[k]with _|q
 rfl;rw[hone]at ho;obtain⟨rfl,rfl⟩:=ho;simp only;rcases hb with hb|hb|⟨hb,hl⟩
 cases hb;rw[if_neg hb];split;rcases a with _|q0
 exact absurd hq (Zx hb zO);have:=hs.2 q0 hq;subst this;simp[hl];rfl
theorem round_ok{S:Sto}{h:Nat}{xs:List It}{k:Nat}{f l f0 l0:K3}(hk:k<xs.length)(ho:Uk S h xs[k] f l F)(hs:kh S h (xs.take k) f0 l0 F)(hf:f=qw xs[k])(hl:0<k->Qg l0 f=F):kh S h (xs.take (k+1)) (if k=0 then f else f0) l F:=by
 unfold kh;rw[Jz hk];unfold Uk at ho;unfold jP;rcases hq:qz S h (xs.take k)with _|a
 have:=hs.1;rw[hq]at this;cases this;rcases hone:jA S h xs[k]with _|q
 rw[hone]at ho;cases ho;rw[hone]at ho;obtain⟨_,rfl⟩:=ho;simp only[if_pos hf];rcases Nat.eq_zero_or_pos k with rfl|h0
 have:a=U:=by rw[List.take_zero]at hq;cases hq;rfl
 subst this;exact⟨rfl,λq hq=>by cases hq;rfl⟩;rcases a with _|q0
 exact absurd hq (Zx h0 zO);have:=hs.2 q0 hq;subst this;rw[if_neg zO];simp only[hl h0,if_true];exact⟨rfl,λq hq=>by cases hq;rfl⟩
theorem cen_now(hC:Cen p W g):∃b3 o3 c3,p.v3=X (J ⟨b3,o3,U⟩) 256 c3/\256<=c3/\c3<=maxLen:=by obtain⟨_,_,lu,_⟩:=qZ hC.may;have hn:=hC.sto.now;obtain⟨A3,c3,e3,_⟩:=hC.sto.now;rw[e3]at hn;obtain⟨_,su,nU,hA3⟩:=hn.at_;obtain⟨b3,o3,rfl,_⟩:=hA3 zO;rw[lu]at e3 su;exact⟨b3,o3,c3,e3,su,nU⟩
theorem qfN(hC:Cen p W g){b3 o3 c3:Nat}(h3:p.v3=X (b3,o3) 256 c3)(ha:a<256):W.cell? (b3,o3+a)=J (E .u8 ((p.S.now[a]?.getD 0).toNat:Int)):=by obtain⟨_,_,lu,_⟩:=qZ hC.may;obtain⟨A',c',e,_,_,hr⟩:=hC.sto.now;rw[h3,Value.slice.injEq]at e;obtain⟨rfl,_,rfl⟩:=e;obtain⟨b',off',e,_,hc⟩:=hr.2 zO;simp only[Option.some.injEq,Addr.mk.injEq,and_true]at e;obtain⟨rfl,rfl⟩:=e;exact hc a _ (by rw[List.getElem?_map,zL zO];rfl)
theorem GU{R:Ending->World->Prop}{a:Act}{b:Nat}{lvl:Int}{f:K3}(h4:a.tmps[4]?.getD undef=.pointer b)(hd:a.defers=[])(aC:W.heap[b]?=J (Z (JL lvl A n c f l bo) 156))(hR:R (.returned (jY lvl A n c f l bo)) W):bodyPost prog Tryz.f161 R .ret a W:=by refine bodyPost_ret (v:=jY lvl A n c f l bo) ?_ hd hR;have k:=qa aC;simp[results,results161,go_sem,h4,k]
theorem RdI.bad(H:RdI p h xs A c w f wr g k fk lk)(hC:Cen p w f)(hb:qz p.S h xs=U):Uz p f (qgO p h A c xs) w (.returned (jY h A xs.length c (0,0,0) (0,0,0) O)) (((((((((wr.setCell (w,1,0) (E Y h)).setCell (w,1,1) (X A xs.length c)).setCell (w,1,2) (E .u8 0)).setCell (w,1,3) (E I 0)).setCell (w,1,4) (E I 0)).setCell (w,1,5) (E .u8 0)).setCell (w,1,6) (E I 0)).setCell (w,1,7) (E I 0)).setCell (w,1,8) (.bool O)):=
 H.ret hC (Yh _ _ _ _ _ _ _ _ _) ⟨(0,0,0),(0,0,0),O,rfl,⟨by rw[hb];rfl,λq hq=>by rw[hb]at hq;cases hq⟩,λh=>by cases h⟩
set_option maxRecDepth 100000 in
theorem qeB(p:CP)(h:Nat)(HL:∀h':Nat,h=h'+1->qiT p (h':Int)):ReadC p h:=by
 intro xs A c w f hmay ng aG hC;have hLH:=aG.its;obtain⟨-,dP,au,hA⟩:=hLH.at_;have hlen:xs.length<=5:=by unfold Qj ZV at hmay;simp at hmay;omega
 have hMP:h<=5:=by unfold Qj ZV at hmay;simp at hmay;omega
 replace hMP:=zH hMP;have dI:=hC.low;have HI:=zH hLH;have HXS:=zH ng;have HC:=zH hC;have HLow:=zH dI;clear aG hLH hmay ng hC dI;go_enter func161,ntmps161;go_wp2;generalize aA:(Jx (Jx _ _) _)=w1;have x1:Ext w w1:=by rw[<-aA];exact((zN _ _).trans (zN _ _)).trans (zN _ _)
 have H1:RdI p h xs A c w f w1 f 0 (0,0,0) (0,0,0):=by refine⟨?_,?_,?_,⟨rfl,λp hp=>by cases hp⟩,λ_ y hy=>by simp at hy,vZ.refl _,(HC.out.ext x1).map,QP x1 _,λa v h1 h0=>by rw[h1]at h0;cases h0⟩;rw[<-aA];exact(zK _ _ _ zA2).trans ((zK _ _ _ zA3).trans (zI _ _ _ rfl));rw[<-aA];exact(zK _ _ _ zA3).trans (zI _ _ _ zA3);rw[<-aA];exact zI _ _ _ zA3
 clear aA;replace H1:=zH H1;go_loopw [14] (λi wr=>∃(k:Nat)(g:Int->Option Oa)(fk lk:K3),k<=xs.length/\i=E Y (k:Int)/\RdI p h xs A c w f wr g k fk lk) (λi _=>xs.length-(intOf i).toNat)
 case atStart=>exact⟨0,f,_,_,zO,rfl,H1.out⟩
 case round=>
  obtain⟨k,g,fk,lk,hk,rfl,HR⟩:=hrel;clear H1 x1;have zr:=HR.gw.size;have HCr:=HR.cen HC.out;have iQ:=JC HC.out.map HR.mp HR.gw;have rnr:=HR.rn;have rxr:=HR.rx;have rrr:=HR.rr;have z2:w.heap.size+2<wr:=(zG.1 rxr).1;by_cases hlt:k<xs.length
  ·have aO:=hlt;obtain⟨b,off,rfl,hb⟩:=hA zO;obtain⟨A',c',d0,d1,d2,d3,d4,-⟩:=HI.out.item k aO;rw[<-iQ _ (by simpa using hb)]at d0 d1 d2 d3 d4;clear iQ;have pG:=HXS.out xs[k] (List.getElem_mem aO);obtain⟨b3,o3,c3,e3,su,nU⟩:=cen_now HCr;have HSTEP:=zH (λf l b=>@qmC p.S h xs k f l fk lk b aO);have HSTOK:=zH (λf l=>@round_ok p.S h xs k f l fk lk aO);have HMEM:=zH (List.getElem_mem aO);have HTK:=zH (List.take_succ_eq_append_getElem aO);generalize xs[k]=x at*;obtain⟨⟨-,-,-,hr0,-⟩,-⟩:=pG;obtain⟨hFD,hFE⟩:=hr0;obtain⟨r,hr⟩:=Int.eq_ofNat_of_zero_le hFD;rw[hr]at d3 hFE;have sH:r<256:=zO;replace hr:=zH hr;have knr:=qa rnr;have kxr:=qa rxr;have hfN:=λW (hx:Ext wr W)=>qfN (HCr.ext hx) e3 sH;generalize mY:(p.S.now[r]?.getD 0).toNat=nv at*;replace mY:=zH mY;unfold maxLen at nU;clear hFD hFE;have hfN0:=hfN wr (Ext.refl _);replace hfN:=zH hfN;go_wp2_with fail;generalize iO:(Jx _ _)=wa;have xa:Ext wr wa:=iO▸zN _ _;have ra:wa.heap[wr.heap.size]?=J (Z #[E .u8 x.k,E I x.i,E I x.o,r,X A' x.val.length c'] 51):=iO▸zI _ _ _ rfl;clear iO d0 d1 d2 d3 d4 hfN0;have HCa:=HCr.ext xa;have xI:=HCa.c2;rw[e3]at xI;have gC:∀W,qm.r wa W->W.cell? (p.cb,2)=J (X (b3,o3) 256 c3):=λW h=>by rw[qa (qb HCa.row h)];exact xI
   have gN:∀W,qm.r wa W->W.cell? (b3,o3+r)=J (E .u8 (nv:Int)):=λW h=>hfN.out W (xa.trans h);have gI:∀W,qm.r wa W->∀i,W.cell? ⟨wr,i,U⟩=#[E .u8 x.k,E I x.i,E I x.o,r,X A' x.val.length c'][i]?:=λW h=>qa (qb ra h);clear xI knr kxr hfN;obtain⟨is0,lh⟩:∃is0:Bool,is0=decide (x.r=0\/0<nv):=⟨_,rfl⟩
   replace lh:=zH lh;have hr0:(((r:Int)==0)=F/\decide (r=0)=F/\is0=F)\/(((r:Int)==0)=O/\decide (r=0)=O/\is0=decide (0<nv)):=by
    rw[lh.out,hr.out];rcases Nat.eq_zero_or_pos r with h0|h0
    subst h0;exact .inl ⟨zA1,zA1,zA3⟩;exact .inr ⟨by rw[beq_eq_false_iff_ne];omega,decide_eq_false zO,by rw[decide_eq_decide];omega⟩
   refine qt zQ ?_;refine ji (w:=wa) qm (qP [(20,Ju wa.heap.size 156 (JL 0 U 0 0 (0,0,0) (0,0,0) O))]) [F,F,F,F,F,F,F,F,F,F,F,F,F,F,F,F,F,F,F,F,F] 1 zQ zQ zQ zQ zQ zQ ?st (Rel.drew _ _) ?walk
   case st=>exact qk (by simp only[List.forall_mem_cons];exact⟨λp=>Qr (jv _ _ _ p),λ_ h=>by cases h⟩)
   case walk=>
    intro K hK;dsimp only[qv];rcases hr0 with⟨oh,hq2,nZ⟩|⟨oh,hq2,nZ⟩
    all_goals
     replace nZ:=zH nZ;refine zB7 ?_;try (
      refine qd (.pointer (J ⟨b3,o3+r,U⟩)) zA0 zA0 (λW hW _=>⟨W,?_,Rel.refl _ W⟩) ?_
      ·go_simp;intro lg;exfalso;omega
      simp only[Act.put,qf,qc,qg,zA,zB,zC])
     refine zB7 ?_;refine qH (Ju wa.heap.size 156 (JL 0 U 0 0 (0,0,0) (0,0,0) O)) zA0 zA0 (λW hW _=>?_) (λ(p8:Nat)=>?_)
     ·refine Jq ?_ (Below.size hW);go_simp
     simp only[Act.put,qf,qc,qg,zA,zB,zC];refine qB (hK _ _ λW hW hF=>?_);obtain⟨f8,aQ⟩:W.heap[p8]?=J (Z (JL 0 U 0 0 (0,0,0) (0,0,0) O) 156 (0,0))/\wa.heap.size<=p8:=(hF 20).1;clear hF hK gC gN gI;have bZ:Ext wa W:=hW;refine zB6 ?_;have k8:=qa f8;have h8:=qe f8;go_wp2;refine Qq ?_;have x5:Ext wa _:=kj bZ aQ (E Y 0) (X U 0 0) (E .u8 x.k) (E I x.i) (E I x.o) (E .u8 x.k) (E I x.i) (E I x.o) (.bool is0);have r8:=Kx f8 rfl (E Y 0) (X U 0 0) (E .u8 x.k) (E I x.i) (E I x.o) (E .u8 x.k) (E I x.i) (E I x.o) (.bool is0);rw[nZ.out]at x5 r8;generalize aS:(D (D (D (D (D (D (D (D (D W _ _) _ _) _ _) _ _) _ _) _ _) _ _) _ _) _ _)=w5 at*;rw[<-nZ.out]at r8;clear aS k8 h8 f8 hW bZ oh hq2;have H5:=HR.ext HC.out (xa.trans x5);have r5:=qb ra x5;have z8:wr.heap.size<p8:=Nat.lt_of_lt_of_le (zG.1 ra).1 aQ;have z8':p8<w5:=(zG.1 r8).1;have kn5:=qa H5.rn;rcases Nat.eq_zero_or_pos h with hz|hz
     case' inl=>
      have HO:Uk p.S h x (qw x) (qw x) is0:=by rw[hz];unfold Uk jA;rw[lh.out,hr.out,Int.toNat_natCast,mY.out];split;rename_i hh;split at hh;cases hh;rename_i hn;exact decide_eq_false hn;rename_i hh;split at hh;rename_i hn;cases hh;exact⟨decide_eq_true hn,rfl⟩;cases hh
      have hd3:¬0<h:=zO;obtain⟨g',H7,HCL⟩:∃g',RdI p h xs (b,off) c w f w5 g' k fk lk/\Hid (is0=F->0<h->(g' x.r).isSome=F):=⟨g,H5,zH λ_ h0=>absurd h0 hd3⟩
      replace r8:w5.heap[p8]?=J (Z (JL 0 U 0 0 (qw x) (qw x) is0) 156 (0,0)):=r8;generalize hF1:qw x=F1 at r8 HO;obtain⟨L1,hL1⟩:∃L1,L1=F1:=⟨_,rfl⟩
      replace HO:Hid (Uk p.S h x F1 L1 is0):=zH (by rw[hL1];exact HO);replace r8:w5.heap[p8]?=J (Z (JL 0 U 0 0 F1 L1 is0) 156 (0,0)):=by rw[hL1];exact r8
      replace⟨hz,H5,H7⟩:=zH3 hz H5 H7;generalize is0=B at r8 HO HCL;clear lh nZ hF1 hL1;go_upto_region 8 with fail
     case' inr=>
      obtain⟨h',hh⟩:∃h',h=h'+1:=⟨h-1,zO⟩
      have HLc:=HL h' hh;rw[show(h':Int)=(h:Int)-1 by omega]at HLc;have lV:wrap64 ((h:Int)-1)=(h:Int)-1:=IntWalk.wrap64_in _ (by have:=hMP.out;omega);replace hh:=zH hh;have ki5:=qa r5;go_wp2_with fail;refine(HLc r w5 g (H5.cen HC.out)).mono ?_;rintro e w6 ⟨v,g',rfl,⟨lvl,A9,n9,c9,F1,L1,rfl,dH⟩,bU,hm,hg,hn⟩;have hTF:=HLow.out;have C6:=(H5.cen HC.out).after bU hm hg hn;have HO:Hid (Uk p.S h x F1 L1 (okL p.S (h-1) r)):=by
       refine zH ?_;rw[show(h:Int)-1=(h':Int)by have:=hh.out;omega]at dH⊢;have az:okL p.S (h':Int) r=F->vI p.S h' r=J (F1,L1):=λhok=>qho (C6.known _ _ (dH hok)) hok;have hol:=qeV p.S h' r;unfold Uk;rw[hh.out,Jc,hr.out];rcases hls:vI p.S h' r with _|q
       rw[hls]at hol;exact hol;rw[hls]at hol;have h1:=az hol;rw[hls]at h1;cases h1;exact⟨hol,rfl⟩
      have HCL:Hid (okL p.S (h-1) r=F->0<h->(g' x.r).isSome=F):=zH λhok _=>by rw[hr.out,dH hok];rfl
      generalize okL p.S ((h:Int)-1) r=B at*;have b8:=(hg.block p8 z8' zA2).trans r8;have H7:=HR.call8 HC.out (xa.trans x5) bU hm hg hn (b:=p8) zO z8' (Yh (E Y lvl) (X A9 n9 c9) (E .u8 F1.1) (E I F1.2.1) (E I F1.2.2) (E .u8 L1.1) (E I L1.2.1) (E I L1.2.2) (.bool B));have r9:=Kx b8 rfl (E Y lvl) (X A9 n9 c9) (E .u8 F1.1) (E I F1.2.1) (E I F1.2.2) (E .u8 L1.1) (E I L1.2.1) (E I L1.2.2) (.bool B);have g9:=Yh (w:=w6) (b:=p8) (E Y lvl) (X A9 n9 c9) (E .u8 F1.1) (E I F1.2.1) (E I F1.2.2) (E .u8 L1.1) (E I L1.2.1) (E I L1.2.2) (.bool B);have r59:=(g9.block wr.heap.size (by have:=hg.size;omega) zA2).trans ((hg.block wr.heap.size zO zA2).trans r5);have z9:p8<(D (D (D (D (D (D (D (D (D w6 _ _) _ _) _ _) _ _) _ _) _ _) _ _) _ _) _ _).heap.size:=(zG.1 r9).1;have f8:=qe b8;have kb8:=qa b8;clear r8 r5 dH HLc ki5;replace⟨hz,H5,H7,C6,HLow⟩:=zH5 hz H5 H7 C6 HLow;clear nZ lh;go_upto_region 8 with fail;generalize lX:(D (D (D (D (D (D (D (D (D w6 _ _) _ _) _ _) _ _) _ _) _ _) _ _) _ _) _ _)=w7 at*;clear lX b8 f8 kb8 bU hm hg hn g9 z8' hTF;have r8:=r9;have r5:=r59;clear r9 r59 z9
     all_goals
      replace⟨HR,HCr,HCa,e3,mY⟩:=zH5 HR HCr HCa e3 mY;clear rxr rrr rnr hb hA hlt hk su nU sH zr xa ra x5 aQ kn5;have HBD:=zH (λhb=>H7.out.bad HC.out (HSTEP.out _ _ _ HO.out H7.out.sp hb));have kn7:=qa H7.out.rn;have kx7:=qa H7.out.rx;have fx7:=qe H7.out.rx;have kr7:=qa H7.out.rr;have fr7:=qe H7.out.rr;have k8:=qa r8;have k5:=qa r5;have oM:p8≠w+2:=zO;have fG:w.heap.size+2≠p8:=zO;have hp3:p8≠w+1+1:=zO;have hp4:w.heap.size+1+1≠p8:=zO;rcases hb0:B with _|_
      ·rw[hb0]at k8;have HB:=HBD.out (.inl hb0);replace HB:=zH HB;clear HBD;go_wp2;exact GU (b:=w.heap.size+1) rfl rfl (Kx H7.out.rr rfl _ _ _ _ _ _ _ _ _) HB.out
      rw[hb0]at k8;have HO1:Uk p.S h x F1 L1 F:=hb0▸HO.out;by_cases hF:F1=qw x
      ·subst hF;have HN0:=zH (HSTOK.out _ _ HO1 H7.out.sp rfl);have az:0<h->∀y∈xs.take (k+1),(g' y.r).isSome=F:=λh0 y hy=>by
        rw[HTK.out,List.mem_append,List.mem_singleton]at hy;rcases hy with hy|rfl
        exact H7.out.cl h0 y hy;exact HCL.out hb0 h0
       replace⟨az,HO1,hb0⟩:=zH3 az HO1 hb0;rcases Nat.eq_zero_or_pos k with tY|tY
       ·have hk1:decide ((k:Int)>0)=O:=decide_eq_false zO;have yx:((k:Int)==0)=F:=by rw[beq_iff_eq];omega
        have pR:decide (0<k)=O:=decide_eq_false zO;have HN:=HN0.out (λh=>zO);rw[if_pos tY]at HN;replace⟨HN,tY⟩:=zH2 HN tY;clear HBD HN0;have HR9:=H7.out.set6 HC.out HN.out az.out;dsimp only[qw]at HR9;replace HR9:=zH HR9;go_wp2_with fail;refine⟨⟨k+1,g',(x.k,x.i,x.o),L1,aO,rfl,HR9.out⟩,?_⟩;simp[intOf];omega
       have hk1:decide ((k:Int)>0)=F:=decide_eq_true zO;have yx:((k:Int)==0)=O:=by rw[beq_eq_false_iff_ne];omega
       have pR:decide (0<k)=F:=decide_eq_true tY;have pU:¬k=0:=zO;have hkz:=zH tY;clear tY pU;go_wp2_with fail;refine(VN lk.1 lk.2.1 lk.2.2 x.k x.i x.o _).mono ?_;rintro e wl ⟨rfl,hB⟩;have H8:=H7.out.ext HC.out hB;have HS8:=zH (HSTEP.out _ _ _ HO1.out H8.sp);have kn8:=qa H8.rn;have kx8:=qa H8.rx;have fx8:=qe H8.rx;have kr8:=qa H8.rr;have fr8:=qe H8.rr;have r88:=qb r8 hB;rw[hb0.out]at r88;have k88:=qa r88;clear kn7 kx7 fx7 kr7 fr7 k8 k5 hB r8 r5 HBD;replace H8:=zH H8;rcases hls:vJ lk.1 lk.2.1 lk.2.2 x.k x.i x.o with _|_
       ·have HB:=zH (H8.out.bad HC.out (HS8.out (.inr (.inr ⟨hkz.out,hls⟩))));go_wp2;exact GU (b:=w.heap.size+1) rfl rfl (Kx H8.out.rr rfl _ _ _ _ _ _ _ _ _) HB.out
       have HN:=HN0.out (λ_=>hls);rw[if_neg (by have:=hkz.out;omega)]at HN;replace HN:=zH HN;clear HN0;have HR9:=zH (H8.out.set3 HC.out HN.out az.out);go_wp2_with fail;refine⟨⟨k+1,g',fk,L1,aO,rfl,HR9.out⟩,?_⟩;simp[intOf];omega
      have HB:=HBD.out (.inr (.inl hF));replace HB:=zH HB;clear HBD;replace hb0:=zH hb0;go_wp2_with fail;all_goals first
       |exact absurd (Prod.ext ‹F1.1=x.k› (Prod.ext ‹F1.2.1=x.i› ‹F1.2.2=x.o›)) hF
       |exact GU (b:=w.heap.size+1) rfl rfl (Kx H7.out.rr rfl _ _ _ _ _ _ _ _ _) HB.out
  have nT:k=xs.length:=zO;have HQ:qgO p h A c xs (jY h A xs.length c fk lk F) g:=by
   refine⟨fk,lk,F,rfl,?_,λ_ h0 y hy=>HR.cl h0 y (by rw[nT,List.take_length];exact hy)⟩;have:=HR.sp
   rwa [nT,List.take_length]at this
  have HB:=zH (HR.ret HC.out (Yh (E Y h) (X A xs.length c) (E .u8 fk.1) (E I fk.2.1) (E I fk.2.2) (E .u8 lk.1) (E I lk.2.1) (E I lk.2.2) (.bool F)) HQ);have kx:=qa rxr;have kr:=qa rrr;have fr:=qe rrr;have rr:=zH rrr;replace⟨HCr,HR,HQ,nT⟩:=zH4 HCr HR HQ nT;clear iQ rxr rnr rrr zr;go_wp2;exact GU (b:=w.heap.size+1) rfl rfl (Kx rr.out rfl _ _ _ _ _ _ _ _ _) HB.out
theorem qeA(p:CP):∀h:Nat,h<=5->ReadC p h
 |0,_=>qeB p 0 λ_ e=>zO
 |h+1,hh=>qeB p (h+1) λh' e=>by
  have e':h=h':=zO;subst e';exact qeP p (h:Int) (.inr zO) λn hn hL=>by
   have e':n=h:=by have:=hL zO;omega
   subst e';exact qeA p n zO
theorem qcF(p:CP):qiT p (-1):=qeP p (-1) (.inl rfl) λh hh _=>qeA p h hh
theorem field_is(lvl:Int)(A:OA)(n c:Nat)(f l:K3)(b:Bool)(w:World):(Instr.field 156 (jY lvl A n c f l b) 3).run prog w=.ok (.bool b) w:=zQ
theorem qkQ(lvl:Int)(A:OA)(n c:Nat)(f l:K3)(b:Bool)(w:World):(Instr.field 156 (jY lvl A n c f l b) 0).run prog w=.ok (jW lvl A n c) w:=zQ
structure Ar(ca:Array Oa)(refs nodes:Nat->Nat)(vv:Oa):Prop where
 size:ca.size=519
 ref:∀a,a<256->ca[6+a]?=J (E Y (refs a:Int))
 node:∀a,a<256->ca[262+a]?=J (E Y (nodes a:Int))
 vol:ca[518]?=vv
def Vh(f:Nat->Nat)(a:Nat):Nat->Nat:=λb=>f b+if b=a then 1 else 0
theorem Ar.addRef(h:Ar ca refs nodes vv)(ha:a<256):Ar (ca.setIfInBounds (6+a) (E Y ((refs a:Int)+1))) (Vh refs a) nodes vv:=by have hs:=h.size;refine⟨by simp[hs],λb hb=>?_,λb hb=>?_,?_⟩;rw[Array.getElem?_setIfInBounds];unfold Vh;by_cases e:b=a;subst e;rw[if_pos rfl,if_pos zO,if_pos rfl];simp;rw[if_neg zO,if_neg e,h.ref b hb];simp;rw[Array.getElem?_setIfInBounds,if_neg zO,h.node b hb];rw[Array.getElem?_setIfInBounds,if_neg zO,h.vol]
theorem Ar.addNode(h:Ar ca refs nodes vv)(ha:a<256):Ar (ca.setIfInBounds (262+a) (E Y ((nodes a:Int)+1))) refs (Vh nodes a) vv:=by have hs:=h.size;refine⟨by simp[hs],λb hb=>?_,λb hb=>?_,?_⟩;rw[Array.getElem?_setIfInBounds,if_neg zO,h.ref b hb];rw[Array.getElem?_setIfInBounds];unfold Vh;by_cases e:b=a;subst e;rw[if_pos rfl,if_pos zO,if_pos rfl];simp;rw[if_neg zO,if_neg e,h.node b hb];simp;rw[Array.getElem?_setIfInBounds,if_neg zO,h.vol]
theorem qgy(hk:6<=k)(hi:i<6):(ca.setIfInBounds k v)[i]?=ca[i]?:=by rw[Array.getElem?_setIfInBounds,if_neg zO]
def vN(nodes:Nat->Nat):Nat->Bool:=λa=>decide (0<nodes a)
theorem Yi:vN (Vh nodes a)=vM (vN nodes) a:=by funext b;unfold vN Vh vM;by_cases e:b=a;rw[if_pos e,if_pos e];simp;rw[if_neg e,if_neg e];rfl
theorem Yj(h:0<nodes a):vN (Vh nodes a)=vN nodes:=by funext b;unfold vN Vh;by_cases e:b=a;subst e;rw[if_pos rfl,decide_eq_true h,decide_eq_true zO];rw[if_neg e];rfl
def qam(S:Sto)(f:Int->Option Oa)(R:List Nat):Prop:=∀a∈R,ZN S a/\(f (a:Int)).isSome=F
structure Qu(S:Sto)(R:List Nat)(refs nodes:Nat->Nat):Prop where
 mkd:JI (Zr S) (QV S) R (vN nodes) refs
 few:∀a,nodes a+6*vU (vN nodes) 256<=1536+R.length
theorem qam.reach(hR:qam S f R)(hk:qes S lo w f)(h:Rch (Zr S) (· ∈ R) a):ZN S a/\(f (a:Int)).isSome=F:=
 h.closed (M:=λa=>ZN S a/\(f (a:Int)).isSome=F) (λa ha=>hR a ha) λa ha b hb=>⟨qeO ha.1 hb,qmc hk ha.1 ha.2 hb⟩
theorem qio(h:VF (Zr S) (QV S) R M refs s)(b:Nat):refs b<=R.length+1280:=by rw[h.sum];have h1:=List.count_le_length (a:=b) (l:=R);have h2:=qlk (rs:=QV S) (M:=M) (b:=b) (k:=5) 256 λa _ _=>qip;omega
structure Wk(S:Sto)(R:List Nat)(refs nodes:Nat->Nat)(s:List Nat):Prop where
 wk:VF (Zr S) (QV S) R (vN nodes) refs s
 few:∀a,nodes a+6*vU (vN nodes) 256+s.length<=1536+R.length
theorem Qu.start(h:Qu S R refs nodes)(a:Nat):Wk S (R++[a]) (Vh refs a) nodes [a]:=
 ⟨(JI.walk.1 h.mkd).add a λ_=>rfl,λb=>by have:=h.few b;simp;omega⟩
theorem Wk.done(h:Wk S R refs nodes []):Qu S R refs nodes:=
 ⟨JI.walk.2 h.wk,λa=>by have:=h.few a;simpa using this⟩
theorem Wk.again(h:Wk S R refs nodes (s++[a]))(ha:0<nodes a):Wk S R refs (Vh nodes a) s:=by refine⟨?_,λb=>?_⟩;rw[Yj ha];exact h.wk.again (decide_eq_true ha);rw[Yj ha];have:=h.few b;rw[List.length_append,List.length_singleton]at this;unfold Vh;split<;>omega
def Yn(xs:List It)(k:Nat):List Nat:=((xs.take k).map λy=>y.r.toNat).filter λr=>r != 0
theorem qdk{lvl:Int}(h:qo S a=J (lvl,xs)):Yn xs xs.length=QV S a:=by unfold Yn QV;rw[List.take_length,h]
theorem TX(hk:k<xs.length):Yn xs (k+1)=if xs[k].r.toNat=0 then Yn xs k else Yn xs k++[xs[k].r.toNat]:=by unfold Yn;rw[List.take_succ_eq_append_getElem hk,List.map_append,List.filter_append];by_cases h:xs[k].r.toNat=0;rw[if_pos h];simp[h];rw[if_neg h];simp[h]
theorem qdl:(Yn xs k).length<=k:=by unfold Yn;refine Nat.le_trans (List.length_filter_le _ _) ?_;rw[List.length_map,List.length_take];omega
theorem Wk.new{refs':Nat->Nat}(h:Wk S R refs nodes (s++[a]))(ha:nodes a=0)(hl:a<256)(hn:qo S a=J ((lvl:Int),xs))(hr:∀b,refs' b=refs b+(Yn xs xs.length).count b):Wk S R refs' (Vh nodes a) (s++if 0<lvl then Yn xs xs.length else []):=by
 have hm:vN nodes a=O:=decide_eq_false zO;have hk:Zr S a=if 0<lvl then Yn xs xs.length else []:=by unfold Zr;rw[hn,qdk hn];simp only;by_cases h0:0<lvl;rw[if_pos h0,if_pos zO];rw[if_neg h0,if_neg zO]
 rw[<-hk];refine⟨?_,λb=>?_⟩;rw[Yi];exact h.wk.new hm hl λb=>by rw[hr,qdk hn]
 rw[Yi];have h1:=h.few b;have h2:=Ga hm 256;rw[if_pos hl]at h2;rw[List.length_append,List.length_singleton]at h1;have h3:(Zr S a).length<=5:=by rw[hk];split;rw[qdk hn];exact qip;simp
 rw[List.length_append];unfold Vh;split<;>omega
def leftW(w:World)(cb:Nat):Nat:=vU (λa=>match w.cell? (cb,262+a) with|some (E _ n)=>decide (0<n)|_=>O) 256
theorem Gz(hr:w.heap[cb]?=J (Z ca ty))(h:Ar ca refs nodes vv):leftW w cb=vU (vN nodes) 256:=by unfold leftW;refine qbF _ λa ha=>?_;rw[qa hr,h.node a ha];unfold vN;simp
def lenV:Oa->Nat
 |.slice _ n _=>n
 |_=>0
structure TrI(p:CP)(B:Nat)(w1 wr:World)(vv:Oa)(ca:Array Oa)(refs nodes:Nat->Nat):Prop where
 off:Off B p.cb w1 wr
 row:wr.heap[p.cb]?=J (Z ca 96)
 ar:Ar ca refs nodes vv
 low:∀i,i<6->ca[i]?=p.ca[i]?
 lt:p.cb<B
theorem TrI.grown(h:TrI p B w1 wr vv ca refs nodes){row:Option Nat}(hg:wr.grownBy W row)(hr:∀g,row=J g->B<=g):TrI p B w1 W vv ca refs nodes:=
 ⟨h.off.grown hg λg e=>.inr (hr g e),(hg.block _ (Nat.lt_of_lt_of_le h.lt h.off.size) λe=>by have:=hr _ e.symm;have:=h.lt;omega).trans h.row,h.ar,h.low,h.lt⟩
theorem TrI.ext(h:TrI p B w1 wr vv ca refs nodes)(hx:Ext wr W):TrI p B w1 W vv ca refs nodes:=h.grown (QP hx U) λg e=>by cases e
theorem TrI.addRef(h:TrI p B w1 wr vv ca refs nodes)(ha:a<256):TrI p B w1 (wr.setCell (p.cb,6+a) (E Y ((refs a:Int)+1))) vv (ca.setIfInBounds (6+a) (E Y ((refs a:Int)+1))) (Vh refs a) nodes:=
 ⟨h.off.setCell (p:=⟨p.cb,6+a,U⟩) (.inl rfl) _,qi h.row _ _,h.ar.addRef ha,λi hi=>(qgy zO hi).trans (h.low i hi),h.lt⟩
theorem TrI.addNode(h:TrI p B w1 wr vv ca refs nodes)(ha:a<256):TrI p B w1 (wr.setCell (p.cb,262+a) (E Y ((nodes a:Int)+1))) vv (ca.setIfInBounds (262+a) (E Y ((nodes a:Int)+1))) refs (Vh nodes a):=
 ⟨h.off.setCell (p:=⟨p.cb,262+a,U⟩) (.inl rfl) _,qi h.row _ _,h.ar.addNode ha,λi hi=>(qgy zO hi).trans (h.low i hi),h.lt⟩
theorem TrI.cen(h:TrI p w1 w1 wr vv ca refs nodes)(hC:Cen p w1 g):Cen (p.put ca) wr g:=hC.put rfl h.off h.row h.low
theorem TrI.its(h:TrI p w1 w1 wr vv ca refs nodes)(hC:Cen p w1 g)(hi:ZO p.lo w1 v xs):ZO p.lo wr v xs:=
 hi.keep h.off.size λq h1 h2=>h.off.cell h2 (by have:=hC.low;omega)
def jg(lvl:Nat)(xs:List It)(k:Nat):List Nat:=if 0<lvl then Yn xs k else []
theorem qbx(lvl:Nat)(xs:List It):jg lvl xs 0=[]:=by unfold jg Yn;simp
theorem qim(hk:k<xs.length)(h:xs[k].r.toNat=0\/lvl=0):jg lvl xs (k+1)=jg lvl xs k:=by unfold jg;by_cases h0:0<lvl;rw[if_pos h0,if_pos h0,TX hk,if_pos zO];rw[if_neg h0,if_neg h0]
theorem qil(hk:k<xs.length)(h:¬xs[k].r.toNat=0)(hl:0<lvl):jg lvl xs (k+1)=jg lvl xs k++[xs[k].r.toNat]:=by unfold jg;rw[if_pos hl,if_pos hl,TX hk,if_neg h]
theorem qmE(hk:k<xs.length)(h:xs[k].r.toNat=0)(hr:∀b,rf' b=rf b+(Yn xs k).count b):∀b,rf' b=rf b+(Yn xs (k+1)).count b:=by intro b;rw[hr,TX hk,if_pos h]
theorem qmD(hk:k<xs.length)(h:¬xs[k].r.toNat=0)(hr:∀b,rf' b=rf b+(Yn xs k).count b):∀b,Vh rf' xs[k].r.toNat b=rf b+(Yn xs (k+1)).count b:=by intro b;rw[TX hk,if_neg h,List.count_append,<-Nat.add_assoc,<-hr];unfold Vh;rw[List.count_singleton];by_cases e:b=xs[k].r.toNat;rw[if_pos e,if_pos (by simp[e])];rw[if_neg e,if_neg zA2]
theorem qmF(xs:List It):Yn xs 0=[]:=by unfold Yn;simp
def kD(s:List Nat):List Oa:=s.map λ(a:Nat)=>Value.int Y (a:Int)
theorem TO(s:List Nat):(kD s).length=s.length:=by simp[kD]
theorem UP(s:List Nat)(a:Nat):kD (s++[a])=kD s++[Value.int Y (a:Int)]:=by simp[kD]
section
variable {P:Program} (w:World) {ops:Array Oper} {rest:List Oper} {o:Oper} {a:Act} {Q:Exit->Act->World->Prop}
theorem Tz{mb:Nat}{f:Int->Option Oa}(h:QR w mb f)(t k e:TypeId)(ht:P.underlying t=J (.map k e))(hk:P.underlying k=J (.int Y)){a:Int}{v:Oa}(hf:f a=v):(Instr.lookup t (.map (J mb)) (E Y a) O).run P w=.ok v w:=by
 obtain⟨es,clock,hb,yJ,hfa⟩:=h;have h0:=hfa a;rw[hf]at h0;rcases KL a es.toList 0 yJ with⟨h1,h2⟩|⟨j,e2,h1,h2,h3,h4,_⟩
 unfold XF at h0;rw[h2]at h0;cases h0;unfold XF at h0;rw[h3]at h0;simp only[Option.map_some,Option.some.injEq]at h0;simp[Instr.lookup,run_underlying ht,MapKept.run_getObj_map hb,JT hk,vQ hk h2,h0,Result.andThen]
theorem qai(hg:o.guard=U)(m x:Operand)(t:TypeId)(dw:o.op=Op.lookup t m x O){k e:TypeId}(ht:P.underlying t=J (.map k e))(hk:P.underlying k=J (.int Y)){mb:Nat}{f:Int->Option Oa}{r:Int}{v:Oa}(hm:a.eval m=.map (J mb))(hx:a.eval x=E Y r)(h:QR w mb f)(hf:f r=v)(hK:wpList P ops Q rest (a.put o.dst v) w):wpList P ops Q (o::rest) a w:=by refine wpList_plain hg λK' hK'=>?_;unfold Oper.wp;simp[execOp,dw,hm,hx,Tz w h t k e ht hk hf,Result.andThen];exact hK' _ _ hK
end
end Go.Proofs.YtmeadnlmepcmbaaGreat
