/- Lemmas of the proof. -/
import Derived.Test.YtmeadnlmepcmbaaGreatZS05
set_option linter.all false
set_option maxHeartbeats 8000000
open Go.Proofs.Tryz
open Go.World renaming setCell→D,alloc→Oa
open Go.Value renaming int→E,slice→X
open Bool renaming true→F,false→O
open Go.IntKind renaming u32→I,i64→Y
open Option renaming some→J,none→U
open Go renaming Value→Z
open Go.Obj renaming cells→Jx
namespace Go.Proofs.YtmeadnlmepcmbaaGreat
open Go.RowKit
variable {w w0 w5 w6 W wr w1:World}{ty:TypeId}{p:CP}{f g g':Int->Option Value}{φ:Value->(Int->Option Value)->Prop}{a lvl c n lo h k k' i cb B:Nat}{xs:List It}{A:OA}{fk lk l fk' lk':K3}{u v vv:Value}{bo:Bool}{S:Sto}{ca:Array Value}{refs nodes rf rf':Nat->Nat}{R s:List Nat}{M:Nat->Bool}
theorem Tryz.info_span:(Tryz.prog.info? 156).map (λi=>(i.zero,i.size,i.bytes))=J (J (Je 0 U 0 0 (0,0,0) (0,0,0) O),9,64):=zQ
theorem qmT(w:World):(zeroValue 156).run prog w=.ok (Je 0 U 0 0 (0,0,0) (0,0,0) O) w:=by obtain⟨i0,hi,hz0,_,_⟩:=info_parts Tryz.info_span;simp[zeroValue,typeInfo,hi,hz0]
theorem set9{cs:Array Z}(hs:cs.size=9)(x0 x1 x2 x3 x4 x5 x6 x7 x8:Z):((((((((cs.setIfInBounds 0 x0).setIfInBounds 1 x1).setIfInBounds 2 x2).setIfInBounds 3 x3).setIfInBounds 4 x4).setIfInBounds 5 x5).setIfInBounds 6 x6).setIfInBounds 7 x7).setIfInBounds 8 x8=#[x0,x1,x2,x3,x4,x5,x6,x7,x8]:=by
 apply Array.ext_getElem?;intro j;by_cases hj:j<9;have:j=0\/j=1\/j=2\/j=3\/j=4\/j=5\/j=6\/j=7\/j=8:=zO;rcases this with rfl|rfl|rfl|rfl|rfl|rfl|rfl|rfl|rfl<;>simp[hs]
 rw[Array.getElem?_eq_none zA2,Array.getElem?_eq_none zA2]
theorem KA{b:Nat}{cs:Array Z}(h:w.heap[b]?=J (Jx cs ty))(hs:cs.size=9)(x0 x1 x2 x3 x4 x5 x6 x7 x8:Z):(((((((((w.setCell b x0).setCell (b,1) x1).setCell (b,2) x2).setCell (b,3) x3).setCell (b,4) x4).setCell (b,5) x5).setCell (b,6) x6).setCell (b,7) x7).setCell (b,8) x8).heap[b]?=J (Jx #[x0,x1,x2,x3,x4,x5,x6,x7,x8] ty):=by have:=qj (qj (qj (qj (qj (qj (qj (qj (qj h 0 x0) 1 x1) 2 x2) 3 x3) 4 x4) 5 x5) 6 x6) 7 x7) 8 x8;rw[this,set9 hs]
theorem kA{B b:Nat}(h:Below B w0 w)(hb:B<=b)(x0 x1 x2 x3 x4 x5 x6 x7 x8:Z):Below B w0 (((((((((w.setCell b x0).setCell (b,1) x1).setCell (b,2) x2).setCell (b,3) x3).setCell (b,4) x4).setCell (b,5) x5).setCell (b,6) x6).setCell (b,7) x7).setCell (b,8) x8):=
 Below.setCell (Below.setCell (Below.setCell (Below.setCell (Below.setCell (Below.setCell (Below.setCell (Below.setCell (Below.setCell h (p:=⟨b,0,U⟩) hb _) (p:=⟨b,1,U⟩) hb _) (p:=⟨b,2,U⟩) hb _) (p:=⟨b,3,U⟩) hb _) (p:=⟨b,4,U⟩) hb _) (p:=⟨b,5,U⟩) hb _) (p:=⟨b,6,U⟩) hb _) (p:=⟨b,7,U⟩) hb _) (p:=⟨b,8,U⟩) hb _
theorem Yn{b:Nat}(x0 x1 x2 x3 x4 x5 x6 x7 x8:Z):w.grownBy (((((((((w.setCell b x0).setCell (b,1) x1).setCell (b,2) x2).setCell (b,3) x3).setCell (b,4) x4).setCell (b,5) x5).setCell (b,6) x6).setCell (b,7) x7).setCell (b,8) x8) (J b):=
 QP.trans (QP.trans (QP.trans (QP.trans (QP.trans (QP.trans (QP.trans (QP.trans QP)))))))
theorem qaC{w7 w7' w8:World}{b:Bool}(hfa:f a=U)(hC:Cen p w f)(h5:Ext w w5)(hlt:w.heap.size<w5)(hgr:Vk f g)(hm6:Zu w6 p.mb g)(hg6:w5.grownBy w6 (J p.mb))(hn:News p.S w5 f g w6)(h67:w6.grownBy w7 (J w.heap.size))(h7:Ext w7 w7')(hm7:Zu w7' p.mb g)(h78:w7'.grownBy w8 (J p.mb))(hm8:Zu w8 p.mb (λr=>if r=(a:Int)then J (Je lvl A xs.length c fk lk b)else g r))(h8W:w8.grownBy W (J w.heap.size))(ha:8<=a)(ha2:a<256)(hnode:qm p.S a=J ((lvl:Int),xs))(hBE:jr (↑w+1) w5 (X A xs.length c) xs)(hsp:kz p.S lvl xs fk lk b)(hcl:b=F->0<lvl->∀y∈xs,(g y.r).isSome=F)(hφ:φ u (λr=>if r=(a:Int)then J (Je lvl A xs.length c fk lk b)else g r)):UK p f φ w u W:=by
 have hmb:p.mb<w:=by have:=hC.low;omega
 have hC5:=hC.ext h5;have z6:=hg6.size;have z7:=h67.size;have z7':=h7.size;have z8:=h78.size;have zW:=h8W.size;have hmW:Zu W p.mb _:=hm8.of_heap (h8W.block _ zO zA2);refine qmh (w5:=w5) (w6:=w6) hfa h5 hlt hgr hg6 hn hmW ?_ zO (λq h1 h2=>?_) ha ha2 hnode ?_ hsp hcl hφ;refine World.grownBy.andThen (World.grownBy.andThen (World.grownBy.andThen (World.grownBy.andThen (World.grownBy.andThen (ZN h5 (J p.mb)) hg6 (λj e=>.inr (by rw[<-e]))) h67 (λj e=>.inl (by cases e;omega))) (ZN h7 U) (λj e=>by cases e)) h78 (λj e=>.inr (by rw[<-e]))) h8W (λj e=>.inl (by cases e;omega));have hne:J q.block≠J w.heap.size:=zA2;rw[World.cell?_of_block (h8W.block q.block zO hne),JP hm7 hm8 h78 q zO,Below.cell h7 (p:=q) zO,World.cell?_of_block (h67.block q.block zO hne)];exact hBE.keep hg6.size (λq _ h2=>JP hC5.map hm6 hg6 q h2)
abbrev qgc:Z:=Je 0 U 0 0 (0,0,0) (0,0,0) O
theorem JO{R:Ending->World->Prop}{a:Act}{b:Nat}{lvl:Int}{f:K3}(h6:a.tmps[6]?.getD undef=.pointer b)(hd:a.defers=[])(hAH:W.heap[b]?=J (Jx (JY lvl A n c f l bo) 156))(hR:R (.returned (Je lvl A n c f l bo)) W):bodyPost prog Tryz.f110 R .ret a W:=by refine bodyPost_ret (v:=Je lvl A n c f l bo) ?_ hd hR;have k:=qa hAH;simp[results,results110,go_sem,h6,k]
theorem cen_node(hC:Cen p W g)(ha:8<=a)(ha2:a<256):Calls prog 145 #[.pointer p.bb,(a:Int)] W (zv (qcl W (qm p.S a)) W):=by obtain⟨_,A1,c1,e1,_⟩:=hC.onB.2.2.bs;obtain⟨_,_,⟨A2,c2,e2,_⟩,_⟩:=hC.onB.2.2.ws;obtain⟨A3,c3,e3,_⟩:=hC.onB.2.2.now;obtain⟨A4,c4,e4,_⟩:=hC.onB.2.2.last;have h:=hC.onB;rw[e1,e2,e3,e4]at h;exact Vn 0 p.bb _ _ _ _ _ _ _ _ _ _ _ _ p.S hC.may a ha ha2 W h
set_option maxRecDepth 100000 in
theorem qeQ(p:CP)(L:Int)(hL:L=-1\/(0<=L/\L<=5))(HR:∀h:Nat,h<=5->(0<=L->(h:Int)=L)->ReadC p h):qjd p L:=by
 intro r w f hC;by_cases hr:r<8\/256<=r
 ·have ho:okL p.S L r=O:=by unfold okL;rw[if_neg zO]
  have HP:qck p L r qgc f:=⟨0,U,0,0,_,_,by rw[ho],λh=>by rw[ho]at h;cases h⟩
  replace⟨HP,hC⟩:=zH2 HP hC;clear ho HR;go_enter func110,ntmps110;go_wp2;all_goals first|(exfalso;omega)|skip
  all_goals
   generalize hwf:(Oa _ _)=wf;have rf:wf.heap[w.heap.size]?=J (Jx (JY 0 U 0 0 (0,0,0) (0,0,0) O) 156 (0,0)):=hwf▸zI _ _ _ rfl;have xf:Ext w wf:=hwf▸zN _ _;have kf:=qa rf;exact bodyPost_ret (v:=qgc) (by simp[results,results110,go_sem,kf]) rfl (UK.same hC.out xf HP.out)
 obtain⟨a,rfl⟩:∃a:Nat,r=(a:Int):=⟨r.toNat,zO⟩
 have ha:8<=a:=zO;have ha2:a<256:=zO;have hd1:decide ((a:Int)<8)=O:=decide_eq_false zO;have hd2:decide ((a:Int)≥256)=O:=decide_eq_false zO;have HOK:Hid (okL p.S L a=match qm p.S a with|none=>O|some (lvl,xs)=>(qC p.S lvl.toNat xs).isSome&&(decide (L<0)||(decide (lvl=L)&&decide (xs.length≠0)))):=by refine zH ?_;unfold okL;rw[if_pos zO,Int.toNat_natCast];all_goals rfl
 have k0:∀W,Ext w W->W.cell? (p.cb,5)=J (.map (J p.mb)):=λW h=>by rw[qa (qb hC.row h),hC.c5]
 have k1:∀W,Ext w W->W.cell? (p.cb,4)=J (.pointer p.bb):=λW h=>by rw[qa (qb hC.row h),hC.c4]
 have hcb:p.cb<w:=(zG.1 hC.row).1;have hk5:w.cell? (p.cb,5)=J (.map (J p.mb)):=k0 w (Ext.refl _);replace hC:=zH hC;clear hr;go_enter func110,ntmps110;go_wp2_with (at_lookup;refine Qa ?_);generalize hw1:(Oa _ _)=w1;have x1:Ext w w1:=hw1▸zN _ _;have q1:w1.heap[w.heap.size]?=J (Jx (JY 0 U 0 0 (0,0,0) (0,0,0) O) 156 (0,0)):=hw1▸zI _ _ _ rfl;clear hw1;have hC1:=hC.out.ext x1;refine Qs.go (qak _ rfl (.tmp 21) (.tmp 22) 93 rfl underlying93 underlying3 (qmT _) rfl rfl hC1.map ?_);rcases hfr:f (a:Int)with _|v
 ·have kq:=qa q1;have fq:=qd q1;go_wp2_with fail;have q2:=KA q1 rfl (E Y 0) (X U 0 0) (E .u8 0) (E I 0) (E I 0) (E .u8 0) (E I 0) (E I 0) (.bool O);have x2:Ext w _:=kA x1 (zM w.heap.size) (E Y 0) (X U 0 0) (E .u8 0) (E I 0) (E I 0) (E .u8 0) (E I 0) (E I 0) (.bool O);generalize hw2:(D (D (D (D (D (D (D (D (D w1 _ _) _ _) _ _) _ _) _ _) _ _) _ _) _ _) _ _)=w2 at*;clear hw2 kq fq q1 x1 hC1;refine(cen_node (hC.out.ext x2) ha ha2).mono ?_;rintro e w3 ⟨u,rfl,hu,hB⟩;have x3:Ext w w3:=x2.trans hB;have q3:=qb q2 hB;have s3:w.heap.size<w3:=(zG.1 q3).1;have s2:w.heap.size<w2:=(zG.1 q2).1;have k3:=qa q3;have f3:=qd q3;have HP0:okL p.S L a=O->qck p L a qgc f:=λh=>⟨0,U,0,0,_,_,by rw[h],λh'=>by rw[h]at h';cases h'⟩
  rcases hnode:qm p.S a with _|⟨lvl',xs⟩
  ·rw[hnode]at hu HOK;obtain⟨er,hne,rfl⟩:=hu;have hv:=HP0 HOK.out;have hQG:(er != 0)=F:=by rw[bne_iff_ne];exact hne
   replace hv:=zH hv;clear HP0 HOK HR hnode k0 k1 hk5;go_wp2;exact JO (b:=w.heap.size) rfl rfl ((zK _ _ _ (by simpa using s3)).trans (KA q3 rfl _ _ _ _ _ _ _ _ _)) (UK.same hC.out (Below.alloc (kA x3 (zM _) _ _ _ _ _ _ _ _ _) zA2 _) hv.out)
  rw[hnode]at hu HOK;obtain⟨A,c,rfl,hBE⟩:=hu;obtain⟨hmay,hxs,hlv⟩:=qJ hnode;obtain⟨lvl,rfl⟩:=Int.eq_ofNat_of_zero_le hlv;replace HOK:Hid (okL p.S L a=((qC p.S lvl xs).isSome&&(decide (L<0)||(decide ((lvl:Int)=L)&&decide (xs.length≠0))))):=HOK;have hl5:lvl<=5:=by unfold Qq Jy at hmay;simp at hmay;omega
  by_cases hmm:0<=L/\(lvl:Int)≠L
  ·have hv:=HP0 (by rw[HOK.out];simp only[decide_eq_false (show ¬L<0 by omega),decide_eq_false hmm.2];simp);have hdl:decide (L≥0)=F:=decide_eq_true hmm.1;have hKB:((lvl:Int)!=L)=F:=by rw[bne_iff_ne];exact hmm.2
   replace hv:=zH hv;clear HP0 HOK HR hnode k0 k1 hk5 hmm;go_wp2;exact JO (b:=w.heap.size) rfl rfl ((zK _ _ _ (by simpa using s3)).trans (KA q3 rfl _ _ _ _ _ _ _ _ _)) (UK.same hC.out (Below.alloc (kA x3 (zM _) _ _ _ _ _ _ _ _ _) zA2 _) hv.out)
  have hLc:L<0\/(0<=L/\(lvl:Int)=L):=by
   rcases hL with h|h
   exact .inl zO;exact .inr ⟨h.1,Classical.byContradiction λh'=>hmm ⟨h.1,h'⟩⟩
  have HRD:=zH (HR lvl hl5 (λh=>zO));clear HR;rcases hLc with hL0|⟨hL0,hLl⟩
  ·skip
   have hdl:decide (L≥0)=O:=decide_eq_false zO;have hME:okL p.S L a=(qC p.S lvl xs).isSome:=by rw[HOK.out,decide_eq_true hL0,Bool.true_or,Bool.and_true]
   replace hME:=zH hME;clear HOK HP0;go_wp2_with fail;generalize hw5:(Oa _ _)=w5;have x35:Ext w3 w5:=hw5▸zN _ _;clear hw5 k3 f3;have x5:Ext w w5:=x3.trans x35;have q5:=qb q3 x35;have hEZ:=hC.out.low;have s5:w.heap.size<w5:=(zG.1 q5).1;have hHF:jr (↑w+1) w5 (X A xs.length c) xs:=(hBE.ext x35).mono zO;refine(HRD.out xs A c w5 f hmay hxs (hHF.mono zO) (hC.out.ext x5)).mono ?_;rintro e w6 ⟨v,g,rfl,⟨fk,lk,b,rfl,hsp,hcl⟩,hgr,hm6,hg6,hn6⟩;have hC6:=(hC.out.ext x5).after hgr hm6 hg6 hn6;have q6:w6.heap[w.heap.size]?=_:=(hg6.block _ s5 zA2).trans q5;have k6:=qa q6;have f6:=qd q6;go_wp2_with fail;have q7:=KA q6 rfl (E Y lvl) (X A xs.length c) (E .u8 fk.1) (E I fk.2.1) (E I fk.2.2) (E .u8 lk.1) (E I lk.2.1) (E I lk.2.2) (.bool b);have h67:=Yn (w:=w6) (b:=w.heap.size) (E Y lvl) (X A xs.length c) (E .u8 fk.1) (E I fk.2.1) (E I fk.2.2) (E .u8 lk.1) (E I lk.2.1) (E I lk.2.2) (.bool b);generalize hw7:(D (D (D (D (D (D (D (D (D w6 _ _) _ _) _ _) _ _) _ _) _ _) _ _) _ _) _ _)=w7 at*;have z56:=hg6.size;have hSO:w7.heap[p.cb]?=_:=(h67.block _ zO zA2).trans hC6.row;have hm7:Zu w7 p.mb g:=hm6.of_heap (h67.block _ zO zA2);have hc5:=hC6.c5;clear hw7 k6 f6 q6;have g5:∀W,qp.r w7 W->W.cell? (p.cb,5)=J (.map (J p.mb)):=λW h=>by rw[qa (qb hSO h),hc5]
   have gq:∀W,qp.r w7 W->∀i,W.cell? ⟨w,i,U⟩=(JY lvl A xs.length c fk lk b)[i]?:=λW h=>qa (qb q7 h);refine qw zQ ?_;refine jj (w:=w7) qp (qV []) [F,F,F,F,F,F] 1 zQ zQ zQ zQ zQ zQ ?st (Rel.drew _ _) ?walk
   case st=>exact ql (λ_ h=>by cases h)
   case walk=>intro K hK;dsimp only[qA];refine zB6 ?_;refine qF (hK _ _ λW hW hF=>?_);clear hF hK g5 gq;have hW':Ext w7 W:=hW;have z7:=h67.size;have q7':=qb q7 hW';have hmW:Zu W p.mb g:=hm7.of_heap (hW'.block _ zO);refine zB5 ?_;refine Vg _ rfl (.tmp 56) (.tmp 57) (.tmp 58) 93 rfl underlying93 underlying3 rfl rfl rfl hmW ?_;intro w8 hm8 hg8;have z7W:=hW'.size;have q8:w8.heap[w.heap.size]?=_:=(hg8.block _ zO zA2).trans q7';have k8:=qa q8;have f8:=qd q8;replace⟨hcl,hsp,hnode,hfr⟩:=zH4 hcl hsp hnode hfr;go_wp2;refine Qt ?_;go_wp2;exact JO (b:=w.heap.size) rfl rfl (KA q8 rfl _ _ _ _ _ _ _ _ _) (qaC hfr.out hC.out x5 s5 hgr hm6 hg6 hn6 h67 hW' hmW hg8 hm8 (Yn _ _ _ _ _ _ _ _ _) ha ha2 hnode.out hHF hsp.out hcl.out ⟨lvl,A,_,c,fk,lk,by rw[hME.out,<-hsp.out.1],λ_=>if_pos rfl⟩)
  by_cases hm0:xs.length=0
  case neg=>
   have hKB:((lvl:Int)!=L)=O:=by rw[bne_eq_false_iff_eq];exact hLl
   have hME:okL p.S L a=(qC p.S lvl xs).isSome:=by rw[HOK.out,decide_eq_true hLl,decide_eq_true hm0];simp
   have hQG:((xs.length:Int)==0)=O:=by rw[beq_eq_false_iff_ne];omega
   replace⟨hME,hLl,hm0⟩:=zH3 hME hLl hm0;clear HOK HP0;go_wp2_with fail;generalize hw5:(Oa _ _)=w5;have x35:Ext w3 w5:=hw5▸zN _ _;clear hw5 k3 f3;have x5:Ext w w5:=x3.trans x35;have q5:=qb q3 x35;have hEZ:=hC.out.low;have s5:w.heap.size<w5:=(zG.1 q5).1;have hHF:jr (↑w+1) w5 (X A xs.length c) xs:=(hBE.ext x35).mono zO;refine(HRD.out xs A c w5 f hmay hxs (hHF.mono zO) (hC.out.ext x5)).mono ?_;rintro e w6 ⟨v,g,rfl,⟨fk,lk,b,rfl,hsp,hcl⟩,hgr,hm6,hg6,hn6⟩;have hC6:=(hC.out.ext x5).after hgr hm6 hg6 hn6;have q6:w6.heap[w.heap.size]?=_:=(hg6.block _ s5 zA2).trans q5;have k6:=qa q6;have f6:=qd q6;go_wp2_with fail;have q7:=KA q6 rfl (E Y lvl) (X A xs.length c) (E .u8 fk.1) (E I fk.2.1) (E I fk.2.2) (E .u8 lk.1) (E I lk.2.1) (E I lk.2.2) (.bool b);have h67:=Yn (w:=w6) (b:=w.heap.size) (E Y lvl) (X A xs.length c) (E .u8 fk.1) (E I fk.2.1) (E I fk.2.2) (E .u8 lk.1) (E I lk.2.1) (E I lk.2.2) (.bool b);generalize hw7:(D (D (D (D (D (D (D (D (D w6 _ _) _ _) _ _) _ _) _ _) _ _) _ _) _ _) _ _)=w7 at*;have z56:=hg6.size;have hSO:w7.heap[p.cb]?=_:=(h67.block _ zO zA2).trans hC6.row;have hm7:Zu w7 p.mb g:=hm6.of_heap (h67.block _ zO zA2);have hc5:=hC6.c5;clear hw7 k6 f6 q6;have g5:∀W,qp.r w7 W->W.cell? (p.cb,5)=J (.map (J p.mb)):=λW h=>by rw[qa (qb hSO h),hc5]
   have gq:∀W,qp.r w7 W->∀i,W.cell? ⟨w,i,U⟩=(JY lvl A xs.length c fk lk b)[i]?:=λW h=>qa (qb q7 h);refine qw zQ ?_;refine jj (w:=w7) qp (qV []) [F,F,F,F,F,F] 1 zQ zQ zQ zQ zQ zQ ?st (Rel.drew _ _) ?walk
   case st=>exact ql (λ_ h=>by cases h)
   case walk=>intro K hK;dsimp only[qA];refine zB6 ?_;refine qF (hK _ _ λW hW hF=>?_);clear hF hK g5 gq;have hW':Ext w7 W:=hW;have z7:=h67.size;have q7':=qb q7 hW';have hmW:Zu W p.mb g:=hm7.of_heap (hW'.block _ zO);refine zB5 ?_;refine Vg _ rfl (.tmp 56) (.tmp 57) (.tmp 58) 93 rfl underlying93 underlying3 rfl rfl rfl hmW ?_;intro w8 hm8 hg8;have z7W:=hW'.size;have q8:w8.heap[w.heap.size]?=_:=(hg8.block _ zO zA2).trans q7';have k8:=qa q8;have f8:=qd q8;replace⟨hcl,hsp,hnode,hfr⟩:=zH4 hcl hsp hnode hfr;go_wp2;refine Qt ?_;go_wp2;exact JO (b:=w.heap.size) rfl rfl (KA q8 rfl _ _ _ _ _ _ _ _ _) (qaC hfr.out hC.out x5 s5 hgr hm6 hg6 hn6 h67 hW' hmW hg8 hm8 (Yn _ _ _ _ _ _ _ _ _) ha ha2 hnode.out hHF hsp.out hcl.out ⟨lvl,A,_,c,fk,lk,by rw[hME.out,<-hsp.out.1],λ_=>if_pos rfl⟩)
  case pos=>
   have hKB:((lvl:Int)!=L)=O:=by rw[bne_eq_false_iff_eq];exact hLl
   have hME:okL p.S L a=O:=by rw[HOK.out];simp[hm0,show ¬L<0 by omega]
   have hQG:((xs.length:Int)==0)=F:=by rw[beq_iff_eq];omega
   replace⟨hME,hLl,hm0⟩:=zH3 hME hLl hm0;clear HOK HP0;go_wp2_with fail;generalize hw5:(Oa _ _)=w5;have x35:Ext w3 w5:=hw5▸zN _ _;clear hw5 k3 f3;have x5:Ext w w5:=x3.trans x35;have q5:=qb q3 x35;have hEZ:=hC.out.low;have s5:w.heap.size<w5:=(zG.1 q5).1;have hHF:jr (↑w+1) w5 (X A xs.length c) xs:=(hBE.ext x35).mono zO;refine(HRD.out xs A c w5 f hmay hxs (hHF.mono zO) (hC.out.ext x5)).mono ?_;rintro e w6 ⟨v,g,rfl,⟨fk,lk,b,rfl,hsp,hcl⟩,hgr,hm6,hg6,hn6⟩;have hC6:=(hC.out.ext x5).after hgr hm6 hg6 hn6;have q6:w6.heap[w.heap.size]?=_:=(hg6.block _ s5 zA2).trans q5;have k6:=qa q6;have f6:=qd q6;go_wp2_with fail;have q7:=KA q6 rfl (E Y lvl) (X A xs.length c) (E .u8 fk.1) (E I fk.2.1) (E I fk.2.2) (E .u8 lk.1) (E I lk.2.1) (E I lk.2.2) (.bool b);have h67:=Yn (w:=w6) (b:=w.heap.size) (E Y lvl) (X A xs.length c) (E .u8 fk.1) (E I fk.2.1) (E I fk.2.2) (E .u8 lk.1) (E I lk.2.1) (E I lk.2.2) (.bool b);generalize hw7:(D (D (D (D (D (D (D (D (D w6 _ _) _ _) _ _) _ _) _ _) _ _) _ _) _ _) _ _)=w7 at*;have z56:=hg6.size;have hSO:w7.heap[p.cb]?=_:=(h67.block _ zO zA2).trans hC6.row;have hm7:Zu w7 p.mb g:=hm6.of_heap (h67.block _ zO zA2);have hc5:=hC6.c5;clear hw7 k6 f6 q6;have g5:∀W,qp.r w7 W->W.cell? (p.cb,5)=J (.map (J p.mb)):=λW h=>by rw[qa (qb hSO h),hc5]
   have gq:∀W,qp.r w7 W->∀i,W.cell? ⟨w,i,U⟩=(JY lvl A xs.length c fk lk b)[i]?:=λW h=>qa (qb q7 h);refine qw zQ ?_;refine jj (w:=w7) qp (qV []) [F,F,F,F,F,F] 1 zQ zQ zQ zQ zQ zQ ?st (Rel.drew _ _) ?walk
   case st=>exact ql (λ_ h=>by cases h)
   case walk=>intro K hK;dsimp only[qA];refine zB6 ?_;refine qF (hK _ _ λW hW hF=>?_);clear hF hK g5 gq;have hW':Ext w7 W:=hW;have z7:=h67.size;have q7':=qb q7 hW';have hmW:Zu W p.mb g:=hm7.of_heap (hW'.block _ zO);refine zB5 ?_;refine Vg _ rfl (.tmp 56) (.tmp 57) (.tmp 58) 93 rfl underlying93 underlying3 rfl rfl rfl hmW ?_;intro w8 hm8 hg8;have z7W:=hW'.size;have q8:w8.heap[w.heap.size]?=_:=(hg8.block _ zO zA2).trans q7';have k8:=qa q8;have f8:=qd q8;replace⟨hcl,hsp,hnode,hfr⟩:=zH4 hcl hsp hnode hfr;go_wp2;refine Qt ?_;go_wp2;exact JO (b:=w.heap.size) (f:=(0,0,0)) (l:=(0,0,0)) rfl rfl (KA q8 rfl _ _ _ _ _ _ _ _ _) (qaC hfr.out hC.out x5 s5 hgr hm6 hg6 hn6 h67 hW' hmW hg8 hm8 (Yn _ _ _ _ _ _ _ _ _) ha ha2 hnode.out hHF hsp.out hcl.out ⟨0,U,0,0,_,_,by rw[hME.out],λh=>by rw[hME.out]at h;cases h⟩)
 obtain⟨n,lvl,xs,A,c,fk,lk,b,hn,_,_,hnode,rfl,hBE,wEL,hclo⟩:=hC1.known _ _ hfr;obtain rfl:a=n:=zO;have hok:okL p.S L a=(b&&(decide (L<0)||(decide ((lvl:Int)=L)&&decide (xs.length≠0)))):=by rw[HOK.out,hnode,wEL.1];rfl
 have HPv:okL p.S L a=b->qck p L a (Je lvl A xs.length c fk lk b) f:=λh=>⟨_,A,_,c,fk,lk,by rw[h],λ_=>hfr⟩
 have HP0:okL p.S L a=O->qck p L a qgc f:=λh=>⟨0,U,0,0,_,_,by rw[h],λh'=>by rw[h]at h';cases h'⟩
 replace⟨HPv,HP0,hC1,hok⟩:=zH4 HPv HP0 hC1 hok;clear hfr hclo wEL hBE hnode HOK HR hn k0 k1 hk5;have kq:=qa q1;have fq:=qd q1;generalize hxl:xs.length=m at*;clear hxl;by_cases hL0:L<0
 ·have hv:=HPv.out (by rw[hok.out,decide_eq_true hL0,Bool.true_or,Bool.and_true]);have hdl:decide (L≥0)=O:=decide_eq_false zO;replace hv:=zH hv;clear HPv HP0 hok;go_wp2;exact JO (b:=w.heap.size) rfl rfl (KA (KA q1 rfl _ _ _ _ _ _ _ _ _) rfl _ _ _ _ _ _ _ _ _) (UK.same hC.out (kA (kA x1 (zM _) _ _ _ _ _ _ _ _ _) (zM _) _ _ _ _ _ _ _ _ _) hv.out)
 have hdl:decide (L≥0)=F:=decide_eq_true zO;by_cases hll:(lvl:Int)=L/\m≠0
 ·have hv:=HPv.out (by rw[hok.out,decide_eq_false hL0,decide_eq_true hll.1,decide_eq_true hll.2];simp);have hKB:((lvl:Int)!=L)=O:=by rw[bne_eq_false_iff_eq];exact hll.1
  have hQG:((m:Int)==0)=O:=by rw[beq_eq_false_iff_ne];omega
  replace hv:=zH hv;clear HPv HP0 hok hll;go_wp2;exact JO (b:=w.heap.size) rfl rfl (KA (KA q1 rfl _ _ _ _ _ _ _ _ _) rfl _ _ _ _ _ _ _ _ _) (UK.same hC.out (kA (kA x1 (zM _) _ _ _ _ _ _ _ _ _) (zM _) _ _ _ _ _ _ _ _ _) hv.out)
 have hv:=HP0.out (by
  rw[hok.out,decide_eq_false hL0];by_cases h1:(lvl:Int)=L;have h2:m=0:=Classical.byContradiction λh=>hll ⟨h1,h⟩;simp[h2]
  ·simp[h1])
 replace hv:=zH hv;clear HPv HP0 hok;by_cases h1:(lvl:Int)=L
 ·have h2:m=0:=Classical.byContradiction λh=>hll ⟨h1,h⟩;have hKB:((lvl:Int)!=L)=O:=by rw[bne_eq_false_iff_eq];exact h1
  clear hll h1;subst h2;go_wp2;exact JO (b:=w.heap.size) rfl rfl (KA (KA q1 rfl _ _ _ _ _ _ _ _ _) rfl _ _ _ _ _ _ _ _ _) (UK.same hC.out (kA (kA x1 (zM _) _ _ _ _ _ _ _ _ _) (zM _) _ _ _ _ _ _ _ _ _) hv.out)
 have hKB:((lvl:Int)!=L)=F:=by rw[bne_iff_ne];exact h1
 clear hll h1;go_wp2;exact JO (b:=w.heap.size) rfl rfl (KA (KA q1 rfl _ _ _ _ _ _ _ _ _) rfl _ _ _ _ _ _ _ _ _) (UK.same hC.out (kA (kA x1 (zM _) _ _ _ _ _ _ _ _ _) (zM _) _ _ _ _ _ _ _ _ _) hv.out)
theorem qeY(S:Sto)(h:Nat)(r:Int):okL S (h:Int) r=(vT S h r).isSome:=by
 unfold okL vT;split;rcases hn:qm S r.toNat with _|⟨lvl,xs⟩
 rfl;simp only;by_cases hl:lvl=(h:Int)
 subst hl;rw[if_pos rfl];rcases hs:qC S h xs with _|_|p
 simp[hs];have:xs.length=0:=by
  rcases Nat.eq_zero_or_pos xs.length with h0|h0
  exact h0;exact absurd (by rw[List.take_length];exact hs) (ZS (S:=S) (h:=h) h0 (zM _))
 simp[hs,this,show ¬((h:Int)<0)by omega];have:xs≠[]:=qkq ⟨p,hs⟩;simp[hs,this];rw[if_neg hl];simp[hl,show ¬((h:Int)<0)by omega];rfl
theorem qhq{r lvl:Int}{b:Bool}(hc:UI S lo w g r (Je lvl A n c fk lk b))(hok:okL S (h:Int) r=F):vT S h r=J (fk,lk):=by
 obtain⟨m,lv,xs,A',c',fk',lk',b',rfl,h1,h2,h3,h4,_,h6,_⟩:=hc;simp only[Value.agg.injEq,Array.mk.injEq,List.cons.injEq,Value.int.injEq,Value.bool.injEq,true_and,and_true]at h4;obtain⟨_,_,e1,e2,e3,e4,e5,e6,rfl⟩:=h4;have ef:fk=fk':=Prod.ext e1 (Prod.ext e2 e3);have el:lk=lk':=Prod.ext e4 (Prod.ext e5 e6);subst ef;subst el;rw[qeY]at hok;unfold vT at hok⊢;rw[if_pos zO,Int.toNat_natCast,h3]at hok⊢;simp only at hok⊢;split at hok;rename_i hl;obtain rfl:lv=h:=zO;rw[if_pos rfl];rcases hs:qC S lv xs with _|_|q
 rw[hs]at hok;cases hok;rw[hs]at hok;cases hok;rw[h6.2 q hs];rfl;cases hok
structure RdI(p:CP)(h:Nat)(xs:List It)(A:OA)(c:Nat)(w:World)(f:Int->Option Z)(wr:World)(g:Int->Option Z)(k:Nat)(fk lk:K3):Prop where
 rn:wr.heap[w.heap.size]?=J (Jx #[h,X A xs.length c] 113)
 rr:wr.heap[w.heap.size+1]?=J (Jx (JY 0 U 0 0 (0,0,0) (0,0,0) O) 156 (0,0))
 rx:wr.heap[w.heap.size+2]?=J (Jx (JY h A xs.length c fk lk F) 156)
 sp:kz p.S h (xs.take k) fk lk F
 cl:0<h->∀y∈xs.take k,(g y.r).isSome=F
 gr:Vk f g
 mp:Zu wr p.mb g
 gw:w.grownBy wr (J p.mb)
 nw:∀a v,g a=J v->f a=U->UI p.S (↑w+3) wr g a v
theorem RdI.news(H:RdI p h xs A c w f wr g k fk lk):News p.S w f g wr:=
 λa v h1 h2=>(H.nw a v h1 h2).keep zO (zM _) (λ_ _ _=>rfl) (λ_ h=>h)
theorem RdI.cen(H:RdI p h xs A c w f wr g k fk lk)(hC:Cen p w f):Cen p wr g:=
 hC.after H.gr H.mp H.gw H.news
theorem RdI.ext(H:RdI p h xs A c w f wr g k fk lk)(hC:Cen p w f)(hx:Ext wr W):RdI p h xs A c w f W g k fk lk where
 rn:=qb H.rn hx
 rr:=qb H.rr hx
 rx:=qb H.rx hx
 sp:=H.sp
 cl:=H.cl
 gr:=H.gr
 mp:=H.mp.of_heap (hx.block _ (by have:=hC.low;have:=H.gw.size;omega))
 gw:=World.grownBy.andThen H.gw (ZN hx (J p.mb)) (λj e=>.inr (by rw[<-e]))
 nw:=λa v h1 h2=>(H.nw a v h1 h2).keep (zM _) hx.size (λq _ hq=>Below.cell hx hq) (λ_ h=>h)
theorem RdI.call(H:RdI p h xs A c w f wr g k fk lk)(hC:Cen p w f)(hgr:Vk g g')(hm:Zu W p.mb g')(hg:wr.grownBy W (J p.mb))(hn:News p.S wr g g' W):RdI p h xs A c w f W g' k fk lk:=by
 have hl:=hC.low;have h2:w.heap.size+2<wr:=(zG.1 H.rx).1;have hb:∀b,w.heap.size<=b->b<wr->W.heap[b]?=wr.heap[b]?:=λb h1 h2=>hg.block b h2 zA2;refine⟨(hb _ zO zO).trans H.rn,(hb _ zO zO).trans H.rr,(hb _ zO zO).trans H.rx,H.sp,λh0 y hy=>hgr.some_ _ (H.cl h0 y hy),H.gr.trans hgr,hm,World.grownBy.andThen H.gw hg (λj e=>.inr (by rw[<-e])),λa v h1 h0=>?_⟩;rcases hga:g a with _|u
 exact(hn a v h1 hga).keep zO (zM _) (λ_ _ _=>rfl) (λ_ h=>h);have e:=hgr a u hga;rw[h1]at e;cases e;exact(H.nw a v hga h0).keep (zM _) hg.size (λq h3 h4=>World.cell?_of_block (hb q.block zO h4)) hgr.some_
theorem RdI.set(H:RdI p h xs A c w f wr g k fk lk)(hC:Cen p w f)(hg:wr.grownBy W (J (w.heap.size+2)))(hx:W.heap[w.heap.size+2]?=J (Jx (JY h A xs.length c fk' lk' F) 156 (0,0)))(hs:kz p.S h (xs.take k') fk' lk' F)(hc:0<h->∀y∈xs.take k',(g y.r).isSome=F):RdI p h xs A c w f W g k' fk' lk':=by
 have hl:=hC.low;have h2:w.heap.size+2<wr.heap.size:=(zG.1 H.rx).1;have hb:∀b,b≠w.heap.size+2->b<wr.heap.size->W.heap[b]?=wr.heap[b]?:=λb h1 h2=>hg.block b h2 zA2;exact⟨(hb _ zO zO).trans H.rn,(hb _ zO zO).trans H.rr,hx,hs,hc,H.gr,H.mp.of_heap (hb _ zO zO),World.grownBy.andThen H.gw hg (λj e=>.inl (by cases e;omega)),
  λa v h1 h0=>(H.nw a v h1 h0).keep (zM _) hg.size (λq h3 h4=>World.cell?_of_block (hb q.block zO h4)) (λ_ h=>h)⟩
theorem RdI.set6(H:RdI p h xs A c w f wr g k fk lk)(hC:Cen p w f)(hs:kz p.S h (xs.take k') fk' lk' F)(hc:0<h->∀y∈xs.take k',(g y.r).isSome=F):RdI p h xs A c w f ((((((wr.setCell (w,1+1,2) (E .u8 fk'.1)).setCell (w,1+1,3) (E I fk'.2.1)).setCell (w,1+1,4) (E I fk'.2.2)).setCell (w,1+1,5) (E .u8 lk'.1)).setCell (w,1+1,6) (E I lk'.2.1)).setCell (w,1+1,7) (E I lk'.2.2)) g k' fk' lk':=
 H.set hC (QP.trans (QP.trans (QP.trans (QP.trans (QP.trans QP))))) (qj (qj (qj (qj (qj (qj H.rx 2 _) 3 _) 4 _) 5 _) 6 _) 7 _) hs hc
theorem RdI.set3(H:RdI p h xs A c w f wr g k fk lk)(hC:Cen p w f)(hs:kz p.S h (xs.take k') fk lk' F)(hc:0<h->∀y∈xs.take k',(g y.r).isSome=F):RdI p h xs A c w f (((wr.setCell (w,1+1,5) (E .u8 lk'.1)).setCell (w,1+1,6) (E I lk'.2.1)).setCell (w,1+1,7) (E I lk'.2.2)) g k' fk lk':=
 H.set hC (QP.trans (QP.trans QP)) (qj (qj (qj H.rx 5 _) 6 _) 7 _) hs hc
theorem RdI.call8(H:RdI p h xs A c w f wr g k fk lk)(hC:Cen p w f)(hx:Ext wr w5)(hgr:Vk g g')(hm:Zu w6 p.mb g')(hg:w5.grownBy w6 (J p.mb))(hn:News p.S w5 g g' w6){b:Nat}(hb:wr.heap.size<=b)(hb2:b<w5)(h7:w6.grownBy W (J b)):RdI p h xs A c w f W g' k fk lk:=by
 have hl:=hC.low;have h2:w.heap.size+2<wr:=(zG.1 H.rx).1;have zg:=hg.size;have H6:=(H.ext hC hx).call hC hgr hm hg hn;have hk:∀a,a≠b->a<w6->W.heap[a]?=w6.heap[a]?:=λa h1 h2=>h7.block a h2 zA2;refine⟨(hk _ zO zO).trans H6.rn,(hk _ zO zO).trans H6.rr,(hk _ zO zO).trans H6.rx,H6.sp,H6.cl,H6.gr,hm.of_heap (hk _ zO zO),World.grownBy.andThen H6.gw h7 (λj e=>.inl (by cases e;omega)),λa v h1 h0=>?_⟩;rcases hga:g a with _|u
 exact(hn a v h1 hga).keep zO h7.size (λq h3 h4=>World.cell?_of_block (hk q.block zO h4)) (λ_ h=>h);have e:=hgr a u hga;rw[h1]at e;cases e;refine(H.nw a v hga h0).keep (zM _) (by have:=h7.size;omega) (λq h3 h4=>?_) hgr.some_;rw[World.cell?_of_block (hk q.block zO zO),World.cell?_of_block (hg.block q.block zO zA2),Below.cell hx (p:=q) h4]
theorem RdI.ret(H:RdI p h xs A c w f wr g k fk lk)(hC:Cen p w f)(hg:wr.grownBy W (J (w.heap.size+1)))(hv:qgP p h A c xs v g):UK p f (qgP p h A c xs) w (.returned v) W:=by
 have hl:=hC.low;have h2:w.heap.size+2<wr.heap.size:=(zG.1 H.rx).1;have hb:∀b,b≠w.heap.size+1->b<wr.heap.size->W.heap[b]?=wr.heap[b]?:=λb h1 h2=>hg.block b h2 zA2;exact⟨v,g,rfl,hv,H.gr,H.mp.of_heap (hb _ zO zO),World.grownBy.andThen H.gw hg (λj e=>.inl (by cases e;omega)),
  λa u h1 h0=>(H.nw a u h1 h0).keep zO hg.size (λq h3 h4=>World.cell?_of_block (hb q.block zO h4)) (λ_ h=>h)⟩
def Uq(S:Sto)(h:Nat)(x:It)(f l:K3)(b:Bool):Prop:=match ju S h x with|none=>b=O|some q=>b=F/\q=(f,l)
theorem qmD{S:Sto}{h:Nat}{xs:List It}{k:Nat}{f l f0 l0:K3}{b:Bool}(hk:k<xs.length)(ho:Uq S h xs[k] f l b)(hs:kz S h (xs.take k) f0 l0 F)(hb:b=O\/f≠qz xs[k]\/(0<k/\Qm l0 f=O)):qC S h xs=U:=by
 refine qfp (k:=k+1) ?_;rw[vC hk];unfold Uq at ho;unfold Jf;rcases hq:qC S h (xs.take k)with _|a
 rfl;rcases hone:ju S h xs[k]with _|q
 rfl;rw[hone]at ho;obtain⟨rfl,rfl⟩:=ho;simp only;rcases hb with hb|hb|⟨hb,hl⟩
 cases hb;rw[if_neg hb];split;rcases a with _|q0
 exact absurd hq (ZS hb zO);have:=hs.2 q0 hq;subst this;simp[hl];rfl
theorem round_ok{S:Sto}{h:Nat}{xs:List It}{k:Nat}{f l f0 l0:K3}(hk:k<xs.length)(ho:Uq S h xs[k] f l F)(hs:kz S h (xs.take k) f0 l0 F)(hf:f=qz xs[k])(hl:0<k->Qm l0 f=F):kz S h (xs.take (k+1)) (if k=0 then f else f0) l F:=by
 unfold kz;rw[vC hk];unfold Uq at ho;unfold Jf;rcases hq:qC S h (xs.take k)with _|a
 have:=hs.1;rw[hq]at this;cases this;rcases hone:ju S h xs[k]with _|q
 rw[hone]at ho;cases ho;rw[hone]at ho;obtain⟨_,rfl⟩:=ho;simp only[if_pos hf];rcases Nat.eq_zero_or_pos k with rfl|h0
 have:a=U:=by rw[List.take_zero]at hq;cases hq;rfl
 subst this;exact⟨rfl,λq hq=>by cases hq;rfl⟩;rcases a with _|q0
 exact absurd hq (ZS h0 zO);have:=hs.2 q0 hq;subst this;rw[if_neg zO];simp only[hl h0,if_true];exact⟨rfl,λq hq=>by cases hq;rfl⟩
theorem cen_now(hC:Cen p W g):∃b3 o3 c3,p.v3=X (J ⟨b3,o3,U⟩) 256 c3/\256<=c3/\c3<=maxLen:=by obtain⟨_,_,hl3,_⟩:=qZ hC.may;have hn:=hC.sto.now;obtain⟨A3,c3,e3,_⟩:=hC.sto.now;rw[e3]at hn;obtain⟨_,hc3,hm3,hA3⟩:=hn.at_;obtain⟨b3,o3,rfl,_⟩:=hA3 zO;rw[hl3]at e3 hc3;exact⟨b3,o3,c3,e3,hc3,hm3⟩
theorem qfO(hC:Cen p W g){b3 o3 c3:Nat}(h3:p.v3=X (b3,o3) 256 c3)(ha:a<256):W.cell? (b3,o3+a)=J (E .u8 ((p.S.now[a]?.getD 0).toNat:Int)):=by obtain⟨_,_,hl3,_⟩:=qZ hC.may;obtain⟨A',c',e,_,_,hr⟩:=hC.sto.now;rw[h3,Value.slice.injEq]at e;obtain⟨rfl,_,rfl⟩:=e;obtain⟨b',off',e,_,hc⟩:=hr.2 zO;simp only[Option.some.injEq,Addr.mk.injEq,and_true]at e;obtain⟨rfl,rfl⟩:=e;exact hc a _ (by rw[List.getElem?_map,zL zO];rfl)
theorem GY{R:Ending->World->Prop}{a:Act}{b:Nat}{lvl:Int}{f:K3}(h4:a.tmps[4]?.getD undef=.pointer b)(hd:a.defers=[])(hAH:W.heap[b]?=J (Jx (JY lvl A n c f l bo) 156))(hR:R (.returned (Je lvl A n c f l bo)) W):bodyPost prog Tryz.f161 R .ret a W:=by refine bodyPost_ret (v:=Je lvl A n c f l bo) ?_ hd hR;have k:=qa hAH;simp[results,results161,go_sem,h4,k]
theorem RdI.bad(H:RdI p h xs A c w f wr g k fk lk)(hC:Cen p w f)(hb:qC p.S h xs=U):UK p f (qgP p h A c xs) w (.returned (Je h A xs.length c (0,0,0) (0,0,0) O)) (((((((((wr.setCell (w,1,0) (E Y h)).setCell (w,1,1) (X A xs.length c)).setCell (w,1,2) (E .u8 0)).setCell (w,1,3) (E I 0)).setCell (w,1,4) (E I 0)).setCell (w,1,5) (E .u8 0)).setCell (w,1,6) (E I 0)).setCell (w,1,7) (E I 0)).setCell (w,1,8) (.bool O)):=
 H.ret hC (Yn _ _ _ _ _ _ _ _ _) ⟨(0,0,0),(0,0,0),O,rfl,⟨by rw[hb];rfl,λq hq=>by rw[hb]at hq;cases hq⟩,λh=>by cases h⟩
set_option maxRecDepth 100000 in
theorem qeB(p:CP)(h:Nat)(HL:∀h':Nat,h=h'+1->qjd p (h':Int)):ReadC p h:=by
 intro xs A c w f hmay hxs hBE hC;have wET:=hBE.its;obtain⟨-,hc1,hc2,hA⟩:=wET.at_;have hlen:xs.length<=5:=by unfold Qq Jy at hmay;simp at hmay;omega
 have wGF:h<=5:=by unfold Qq Jy at hmay;simp at hmay;omega
 replace wGF:=zH wGF;have hEZ:=hC.low;have HI:=zH wET;have HXS:=zH hxs;have HC:=zH hC;have HLow:=zH hEZ;clear hBE wET hmay hxs hC hEZ;go_enter func161,ntmps161;go_wp2;generalize hw1:(Oa (Oa _ _) _)=w1;have x1:Ext w w1:=by rw[<-hw1];exact((zN _ _).trans (zN _ _)).trans (zN _ _)
 have H1:RdI p h xs A c w f w1 f 0 (0,0,0) (0,0,0):=by refine⟨?_,?_,?_,⟨rfl,λp hp=>by cases hp⟩,λ_ y hy=>by simp at hy,Vk.refl _,(HC.out.ext x1).map,ZN x1 _,λa v h1 h0=>by rw[h1]at h0;cases h0⟩;rw[<-hw1];exact(zK _ _ _ zA2).trans ((zK _ _ _ zA3).trans (zI _ _ _ rfl));rw[<-hw1];exact(zK _ _ _ zA3).trans (zI _ _ _ zA3);rw[<-hw1];exact zI _ _ _ zA3
 clear hw1;replace H1:=zH H1;go_loopw [14] (λi wr=>∃(k:Nat)(g:Int->Option Z)(fk lk:K3),k<=xs.length/\i=E Y (k:Int)/\RdI p h xs A c w f wr g k fk lk) (λi _=>xs.length-(intOf i).toNat)
 case atStart=>exact⟨0,f,_,_,zO,rfl,H1.out⟩
 case round=>
  obtain⟨k,g,fk,lk,hk,rfl,HR⟩:=hrel;clear H1 x1;have zr:=HR.gw.size;have HCr:=HR.cen HC.out;have hJK:=JP HC.out.map HR.mp HR.gw;have rnr:=HR.rn;have rxr:=HR.rx;have rrr:=HR.rr;have z2:w.heap.size+2<wr:=(zG.1 rxr).1;by_cases hlt:k<xs.length
  ·have hBP:=hlt;obtain⟨b,off,rfl,hb⟩:=hA zO;obtain⟨A',c',d0,d1,d2,d3,d4,-⟩:=HI.out.item k hBP;rw[<-hJK _ (by simpa using hb)]at d0 d1 d2 d3 d4;clear hJK;have hxr:=HXS.out xs[k] (List.getElem_mem hBP);obtain⟨b3,o3,c3,e3,hc3,hm3⟩:=cen_now HCr;have HSTEP:=zH (λf l b=>@qmD p.S h xs k f l fk lk b hBP);have HSTOK:=zH (λf l=>@round_ok p.S h xs k f l fk lk hBP);have HMEM:=zH (List.getElem_mem hBP);have HTK:=zH (List.take_succ_eq_append_getElem hBP);generalize xs[k]=x at*;obtain⟨⟨-,-,-,hr0,-⟩,-⟩:=hxr;obtain⟨hZL,hZM⟩:=hr0;obtain⟨r,hr⟩:=Int.eq_ofNat_of_zero_le hZL;rw[hr]at d3 hZM;have hr2:r<256:=zO;replace hr:=zH hr;have knr:=qa rnr;have kxr:=qa rxr;have hfN:=λW (hx:Ext wr W)=>qfO (HCr.ext hx) e3 hr2;generalize hnv:(p.S.now[r]?.getD 0).toNat=nv at*;replace hnv:=zH hnv;unfold maxLen at hm3;clear hZL hZM;have hfN0:=hfN wr (Ext.refl _);replace hfN:=zH hfN;go_wp2_with fail;generalize hwa:(Oa _ _)=wa;have xa:Ext wr wa:=hwa▸zN _ _;have ra:wa.heap[wr.heap.size]?=J (Jx #[E .u8 x.k,E I x.i,E I x.o,r,X A' x.val.length c'] 51):=hwa▸zI _ _ _ rfl;clear hwa d0 d1 d2 d3 d4 hfN0;have HCa:=HCr.ext xa;have hcb:=HCa.c2;rw[e3]at hcb;have gC:∀W,qp.r wa W->W.cell? (p.cb,2)=J (X (b3,o3) 256 c3):=λW h=>by rw[qa (qb HCa.row h)];exact hcb
   have gN:∀W,qp.r wa W->W.cell? (b3,o3+r)=J (E .u8 (nv:Int)):=λW h=>hfN.out W (xa.trans h);have gI:∀W,qp.r wa W->∀i,W.cell? ⟨wr,i,U⟩=#[E .u8 x.k,E I x.i,E I x.o,r,X A' x.val.length c'][i]?:=λW h=>qa (qb ra h);clear hcb knr kxr hfN;obtain⟨is0,hi0⟩:∃is0:Bool,is0=decide (x.r=0\/0<nv):=⟨_,rfl⟩
   replace hi0:=zH hi0;have hr0:(((r:Int)==0)=F/\decide (r=0)=F/\is0=F)\/(((r:Int)==0)=O/\decide (r=0)=O/\is0=decide (0<nv)):=by
    rw[hi0.out,hr.out];rcases Nat.eq_zero_or_pos r with h0|h0
    subst h0;exact .inl ⟨zA1,zA1,zA3⟩;exact .inr ⟨by rw[beq_eq_false_iff_ne];omega,decide_eq_false zO,by rw[decide_eq_decide];omega⟩
   refine qw zQ ?_;refine jj (w:=wa) qp (qV [(20,jx wa.heap.size 156 (JY 0 U 0 0 (0,0,0) (0,0,0) O))]) [F,F,F,F,F,F,F,F,F,F,F,F,F,F,F,F,F,F,F,F,F] 1 zQ zQ zQ zQ zQ zQ ?st (Rel.drew _ _) ?walk
   case st=>exact ql (by simp only[List.forall_mem_cons];exact⟨λp=>QA (Zt _ _ _ p),λ_ h=>by cases h⟩)
   case walk=>
    intro K hK;dsimp only[qA];rcases hr0 with⟨hq1,hq2,hq3⟩|⟨hq1,hq2,hq3⟩
    all_goals
     replace hq3:=zH hq3;refine zB6 ?_;try (
      refine qe (.pointer (J ⟨b3,o3+r,U⟩)) zA0 zA0 (λW hW _=>⟨W,?_,Rel.refl _ W⟩) ?_
      ·go_simp;intro hge;exfalso;omega
      simp only[Act.put,qf,qc,qh,zA,zB,zC])
     refine zB6 ?_;refine qH (jx wa.heap.size 156 (JY 0 U 0 0 (0,0,0) (0,0,0) O)) zA0 zA0 (λW hW _=>?_) (λ(p8:Nat)=>?_)
     ·refine jl ?_ (Below.size hW);go_simp
     simp only[Act.put,qf,qc,qh,zA,zB,zC];refine qF (hK _ _ λW hW hF=>?_);obtain⟨f8,hlo⟩:W.heap[p8]?=J (Jx (JY 0 U 0 0 (0,0,0) (0,0,0) O) 156 (0,0))/\wa.heap.size<=p8:=(hF 20).1;clear hF hK gC gN gI;have hW':Ext wa W:=hW;refine zB5 ?_;have k8:=qa f8;have h8:=qd f8;go_wp2;refine Qt ?_;have x5:Ext wa _:=kA hW' hlo (E Y 0) (X U 0 0) (E .u8 x.k) (E I x.i) (E I x.o) (E .u8 x.k) (E I x.i) (E I x.o) (.bool is0);have r8:=KA f8 rfl (E Y 0) (X U 0 0) (E .u8 x.k) (E I x.i) (E I x.o) (E .u8 x.k) (E I x.i) (E I x.o) (.bool is0);rw[hq3.out]at x5 r8;generalize hw5:(D (D (D (D (D (D (D (D (D W _ _) _ _) _ _) _ _) _ _) _ _) _ _) _ _) _ _)=w5 at*;rw[<-hq3.out]at r8;clear hw5 k8 h8 f8 hW hW' hq1 hq2;have H5:=HR.ext HC.out (xa.trans x5);have r5:=qb ra x5;have z8:wr.heap.size<p8:=Nat.lt_of_lt_of_le (zG.1 ra).1 hlo;have z8':p8<w5:=(zG.1 r8).1;have kn5:=qa H5.rn;rcases Nat.eq_zero_or_pos h with hz|hz
     case' inl=>
      have HO:Uq p.S h x (qz x) (qz x) is0:=by rw[hz];unfold Uq ju;rw[hi0.out,hr.out,Int.toNat_natCast,hnv.out];split;rename_i hh;split at hh;cases hh;rename_i hn;exact decide_eq_false hn;rename_i hh;split at hh;rename_i hn;cases hh;exact⟨decide_eq_true hn,rfl⟩;cases hh
      have hd3:¬0<h:=zO;obtain⟨g',H7,HCL⟩:∃g',RdI p h xs (b,off) c w f w5 g' k fk lk/\Hid (is0=F->0<h->(g' x.r).isSome=F):=⟨g,H5,zH λ_ h0=>absurd h0 hd3⟩
      replace r8:w5.heap[p8]?=J (Jx (JY 0 U 0 0 (qz x) (qz x) is0) 156 (0,0)):=r8;generalize hF1:qz x=F1 at r8 HO;obtain⟨L1,hL1⟩:∃L1,L1=F1:=⟨_,rfl⟩
      replace HO:Hid (Uq p.S h x F1 L1 is0):=zH (by rw[hL1];exact HO);replace r8:w5.heap[p8]?=J (Jx (JY 0 U 0 0 F1 L1 is0) 156 (0,0)):=by rw[hL1];exact r8
      replace⟨hz,H5,H7⟩:=zH3 hz H5 H7;generalize is0=B at r8 HO HCL;clear hi0 hq3 hF1 hL1;go_upto_region 8 with fail
     case' inr=>
      obtain⟨h',hh⟩:∃h',h=h'+1:=⟨h-1,zO⟩
      have HLc:=HL h' hh;rw[show(h':Int)=(h:Int)-1 by omega]at HLc;have hLF:wrap64 ((h:Int)-1)=(h:Int)-1:=IntWalk.wrap64_in _ (by have:=wGF.out;omega);replace hh:=zH hh;have ki5:=qa r5;go_wp2_with fail;refine(HLc r w5 g (H5.cen HC.out)).mono ?_;rintro e w6 ⟨v,g',rfl,⟨lvl,A9,n9,c9,F1,L1,rfl,hEY⟩,hgr,hm,hg,hn⟩;have wLI:=HLow.out;have C6:=(H5.cen HC.out).after hgr hm hg hn;have HO:Hid (Uq p.S h x F1 L1 (okL p.S (h-1) r)):=by
       refine zH ?_;rw[show(h:Int)-1=(h':Int)by have:=hh.out;omega]at hEY⊢;have hcl:okL p.S (h':Int) r=F->vT p.S h' r=J (F1,L1):=λhok=>qhq (C6.known _ _ (hEY hok)) hok;have hol:=qeY p.S h' r;unfold Uq;rw[hh.out,Ji,hr.out];rcases hls:vT p.S h' r with _|q
       rw[hls]at hol;exact hol;rw[hls]at hol;have h1:=hcl hol;rw[hls]at h1;cases h1;exact⟨hol,rfl⟩
      have HCL:Hid (okL p.S (h-1) r=F->0<h->(g' x.r).isSome=F):=zH λhok _=>by rw[hr.out,hEY hok];rfl
      generalize okL p.S ((h:Int)-1) r=B at*;have b8:=(hg.block p8 z8' zA2).trans r8;have H7:=HR.call8 HC.out (xa.trans x5) hgr hm hg hn (b:=p8) zO z8' (Yn (E Y lvl) (X A9 n9 c9) (E .u8 F1.1) (E I F1.2.1) (E I F1.2.2) (E .u8 L1.1) (E I L1.2.1) (E I L1.2.2) (.bool B));have r9:=KA b8 rfl (E Y lvl) (X A9 n9 c9) (E .u8 F1.1) (E I F1.2.1) (E I F1.2.2) (E .u8 L1.1) (E I L1.2.1) (E I L1.2.2) (.bool B);have g9:=Yn (w:=w6) (b:=p8) (E Y lvl) (X A9 n9 c9) (E .u8 F1.1) (E I F1.2.1) (E I F1.2.2) (E .u8 L1.1) (E I L1.2.1) (E I L1.2.2) (.bool B);have r59:=(g9.block wr.heap.size (by have:=hg.size;omega) zA2).trans ((hg.block wr.heap.size zO zA2).trans r5);have z9:p8<(D (D (D (D (D (D (D (D (D w6 _ _) _ _) _ _) _ _) _ _) _ _) _ _) _ _) _ _).heap.size:=(zG.1 r9).1;have f8:=qd b8;have kb8:=qa b8;clear r8 r5 hEY HLc ki5;replace⟨hz,H5,H7,C6,HLow⟩:=zH5 hz H5 H7 C6 HLow;clear hq3 hi0;go_upto_region 8 with fail;generalize hw7:(D (D (D (D (D (D (D (D (D w6 _ _) _ _) _ _) _ _) _ _) _ _) _ _) _ _) _ _)=w7 at*;clear hw7 b8 f8 kb8 hgr hm hg hn g9 z8' wLI;have r8:=r9;have r5:=r59;clear r9 r59 z9
     all_goals
      replace⟨HR,HCr,HCa,e3,hnv⟩:=zH5 HR HCr HCa e3 hnv;clear rxr rrr rnr hb hA hlt hk hc3 hm3 hr2 zr xa ra x5 hlo kn5;have HBD:=zH (λhb=>H7.out.bad HC.out (HSTEP.out _ _ _ HO.out H7.out.sp hb));have kn7:=qa H7.out.rn;have kx7:=qa H7.out.rx;have fx7:=qd H7.out.rx;have kr7:=qa H7.out.rr;have fr7:=qd H7.out.rr;have k8:=qa r8;have k5:=qa r5;have hp1:p8≠w+2:=zO;have hp2:w.heap.size+2≠p8:=zO;have hp3:p8≠w+1+1:=zO;have hp4:w.heap.size+1+1≠p8:=zO;rcases hb0:B with _|_
      ·rw[hb0]at k8;have HB:=HBD.out (.inl hb0);replace HB:=zH HB;clear HBD;go_wp2;exact GY (b:=w.heap.size+1) rfl rfl (KA H7.out.rr rfl _ _ _ _ _ _ _ _ _) HB.out
      rw[hb0]at k8;have HO1:Uq p.S h x F1 L1 F:=hb0▸HO.out;by_cases hF:F1=qz x
      ·subst hF;have HN0:=zH (HSTOK.out _ _ HO1 H7.out.sp rfl);have hcl:0<h->∀y∈xs.take (k+1),(g' y.r).isSome=F:=λh0 y hy=>by
        rw[HTK.out,List.mem_append,List.mem_singleton]at hy;rcases hy with hy|rfl
        exact H7.out.cl h0 y hy;exact HCL.out hb0 h0
       replace⟨hcl,HO1,hb0⟩:=zH3 hcl HO1 hb0;rcases Nat.eq_zero_or_pos k with hk0|hk0
       ·have hk1:decide ((k:Int)>0)=O:=decide_eq_false zO;have hk2:((k:Int)==0)=F:=by rw[beq_iff_eq];omega
        have hk4:decide (0<k)=O:=decide_eq_false zO;have HN:=HN0.out (λh=>zO);rw[if_pos hk0]at HN;replace⟨HN,hk0⟩:=zH2 HN hk0;clear HBD HN0;have HR9:=H7.out.set6 HC.out HN.out hcl.out;dsimp only[qz]at HR9;replace HR9:=zH HR9;go_wp2_with fail;refine⟨⟨k+1,g',(x.k,x.i,x.o),L1,hBP,rfl,HR9.out⟩,?_⟩;simp[intOf];omega
       have hk1:decide ((k:Int)>0)=F:=decide_eq_true zO;have hk2:((k:Int)==0)=O:=by rw[beq_eq_false_iff_ne];omega
       have hk4:decide (0<k)=F:=decide_eq_true hk0;have hkn:¬k=0:=zO;have hkz:=zH hk0;clear hk0 hkn;go_wp2_with fail;refine(Tq lk.1 lk.2.1 lk.2.2 x.k x.i x.o _).mono ?_;rintro e wl ⟨rfl,hB⟩;have H8:=H7.out.ext HC.out hB;have HS8:=zH (HSTEP.out _ _ _ HO1.out H8.sp);have kn8:=qa H8.rn;have kx8:=qa H8.rx;have fx8:=qd H8.rx;have kr8:=qa H8.rr;have fr8:=qd H8.rr;have r88:=qb r8 hB;rw[hb0.out]at r88;have k88:=qa r88;clear kn7 kx7 fx7 kr7 fr7 k8 k5 hB r8 r5 HBD;replace H8:=zH H8;rcases hls:YE lk.1 lk.2.1 lk.2.2 x.k x.i x.o with _|_
       ·have HB:=zH (H8.out.bad HC.out (HS8.out (.inr (.inr ⟨hkz.out,hls⟩))));go_wp2;exact GY (b:=w.heap.size+1) rfl rfl (KA H8.out.rr rfl _ _ _ _ _ _ _ _ _) HB.out
       have HN:=HN0.out (λ_=>hls);rw[if_neg (by have:=hkz.out;omega)]at HN;replace HN:=zH HN;clear HN0;have HR9:=zH (H8.out.set3 HC.out HN.out hcl.out);go_wp2_with fail;refine⟨⟨k+1,g',fk,L1,hBP,rfl,HR9.out⟩,?_⟩;simp[intOf];omega
      have HB:=HBD.out (.inr (.inl hF));replace HB:=zH HB;clear HBD;replace hb0:=zH hb0;go_wp2_with fail;all_goals first
       |exact absurd (Prod.ext ‹F1.1=x.k› (Prod.ext ‹F1.2.1=x.i› ‹F1.2.2=x.o›)) hF
       |exact GY (b:=w.heap.size+1) rfl rfl (KA H7.out.rr rfl _ _ _ _ _ _ _ _ _) HB.out
  have hke:k=xs.length:=zO;have HQ:qgP p h A c xs (Je h A xs.length c fk lk F) g:=by
   refine⟨fk,lk,F,rfl,?_,λ_ h0 y hy=>HR.cl h0 y (by rw[hke,List.take_length];exact hy)⟩;have:=HR.sp
   rwa [hke,List.take_length]at this
  have HB:=zH (HR.ret HC.out (Yn (E Y h) (X A xs.length c) (E .u8 fk.1) (E I fk.2.1) (E I fk.2.2) (E .u8 lk.1) (E I lk.2.1) (E I lk.2.2) (.bool F)) HQ);have kx:=qa rxr;have kr:=qa rrr;have fr:=qd rrr;have rr:=zH rrr;replace⟨HCr,HR,HQ,hke⟩:=zH4 HCr HR HQ hke;clear hJK rxr rnr rrr zr;go_wp2;exact GY (b:=w.heap.size+1) rfl rfl (KA rr.out rfl _ _ _ _ _ _ _ _ _) HB.out
theorem qeA(p:CP):∀h:Nat,h<=5->ReadC p h
 |0,_=>qeB p 0 λ_ e=>zO
 |h+1,hh=>qeB p (h+1) λh' e=>by
  have e':h=h':=zO;subst e';exact qeQ p (h:Int) (.inr zO) λn hn hL=>by
   have e':n=h:=by have:=hL zO;omega
   subst e';exact qeA p n zO
theorem qcM(p:CP):qjd p (-1):=qeQ p (-1) (.inl rfl) λh hh _=>qeA p h hh
theorem field_is(lvl:Int)(A:OA)(n c:Nat)(f l:K3)(b:Bool)(w:World):(Instr.field 156 (Je lvl A n c f l b) 3).run prog w=.ok (.bool b) w:=zQ
theorem qkV(lvl:Int)(A:OA)(n c:Nat)(f l:K3)(b:Bool)(w:World):(Instr.field 156 (Je lvl A n c f l b) 0).run prog w=.ok (Jc lvl A n c) w:=zQ
structure Ar(ca:Array Z)(refs nodes:Nat->Nat)(vv:Z):Prop where
 size:ca.size=519
 ref:∀a,a<256->ca[6+a]?=J (E Y (refs a:Int))
 node:∀a,a<256->ca[262+a]?=J (E Y (nodes a:Int))
 vol:ca[518]?=vv
def Vr(f:Nat->Nat)(a:Nat):Nat->Nat:=λb=>f b+if b=a then 1 else 0
theorem Ar.addRef(h:Ar ca refs nodes vv)(ha:a<256):Ar (ca.setIfInBounds (6+a) (E Y ((refs a:Int)+1))) (Vr refs a) nodes vv:=by have hs:=h.size;refine⟨by simp[hs],λb hb=>?_,λb hb=>?_,?_⟩;rw[Array.getElem?_setIfInBounds];unfold Vr;by_cases e:b=a;subst e;rw[if_pos rfl,if_pos zO,if_pos rfl];simp;rw[if_neg zO,if_neg e,h.ref b hb];simp;rw[Array.getElem?_setIfInBounds,if_neg zO,h.node b hb];rw[Array.getElem?_setIfInBounds,if_neg zO,h.vol]
theorem Ar.addNode(h:Ar ca refs nodes vv)(ha:a<256):Ar (ca.setIfInBounds (262+a) (E Y ((nodes a:Int)+1))) refs (Vr nodes a) vv:=by have hs:=h.size;refine⟨by simp[hs],λb hb=>?_,λb hb=>?_,?_⟩;rw[Array.getElem?_setIfInBounds,if_neg zO,h.ref b hb];rw[Array.getElem?_setIfInBounds];unfold Vr;by_cases e:b=a;subst e;rw[if_pos rfl,if_pos zO,if_pos rfl];simp;rw[if_neg zO,if_neg e,h.node b hb];simp;rw[Array.getElem?_setIfInBounds,if_neg zO,h.vol]
theorem qgz(hk:6<=k)(hi:i<6):(ca.setIfInBounds k v)[i]?=ca[i]?:=by rw[Array.getElem?_setIfInBounds,if_neg zO]
def Vj(nodes:Nat->Nat):Nat->Bool:=λa=>decide (0<nodes a)
theorem Yo:Vj (Vr nodes a)=vY (Vj nodes) a:=by funext b;unfold Vj Vr vY;by_cases e:b=a;rw[if_pos e,if_pos e];simp;rw[if_neg e,if_neg e];rfl
theorem Yp(h:0<nodes a):Vj (Vr nodes a)=Vj nodes:=by funext b;unfold Vj Vr;by_cases e:b=a;subst e;rw[if_pos rfl,decide_eq_true h,decide_eq_true zO];rw[if_neg e];rfl
def qap(S:Sto)(f:Int->Option Z)(R:List Nat):Prop:=∀a∈R,Zp S a/\(f (a:Int)).isSome=F
structure Qk(S:Sto)(R:List Nat)(refs nodes:Nat->Nat):Prop where
 mkd:Jo (ZD S) (QZ S) R (Vj nodes) refs
 few:∀a,nodes a+6*VY (Vj nodes) 256<=1536+R.length
theorem qap.reach(hR:qap S f R)(hk:qeu S lo w f)(h:Rch (ZD S) (· ∈ R) a):Zp S a/\(f (a:Int)).isSome=F:=
 h.closed (M:=λa=>Zp S a/\(f (a:Int)).isSome=F) (λa ha=>hR a ha) λa ha b hb=>⟨qeP ha.1 hb,qmg hk ha.1 ha.2 hb⟩
theorem qix(h:VJ (ZD S) (QZ S) R M refs s)(b:Nat):refs b<=R.length+1280:=by rw[h.sum];have h1:=List.count_le_length (a:=b) (l:=R);have h2:=qlo (rs:=QZ S) (M:=M) (b:=b) (k:=5) 256 λa _ _=>qiy;omega
structure Wk(S:Sto)(R:List Nat)(refs nodes:Nat->Nat)(s:List Nat):Prop where
 wk:VJ (ZD S) (QZ S) R (Vj nodes) refs s
 few:∀a,nodes a+6*VY (Vj nodes) 256+s.length<=1536+R.length
theorem Qk.start(h:Qk S R refs nodes)(a:Nat):Wk S (R++[a]) (Vr refs a) nodes [a]:=
 ⟨(Jo.walk.1 h.mkd).add a λ_=>rfl,λb=>by have:=h.few b;simp;omega⟩
theorem Wk.done(h:Wk S R refs nodes []):Qk S R refs nodes:=
 ⟨Jo.walk.2 h.wk,λa=>by have:=h.few a;simpa using this⟩
theorem Wk.again(h:Wk S R refs nodes (s++[a]))(ha:0<nodes a):Wk S R refs (Vr nodes a) s:=by refine⟨?_,λb=>?_⟩;rw[Yp ha];exact h.wk.again (decide_eq_true ha);rw[Yp ha];have:=h.few b;rw[List.length_append,List.length_singleton]at this;unfold Vr;split<;>omega
def Yt(xs:List It)(k:Nat):List Nat:=((xs.take k).map λy=>y.r.toNat).filter λr=>r != 0
theorem qdq{lvl:Int}(h:qm S a=J (lvl,xs)):Yt xs xs.length=QZ S a:=by unfold Yt QZ;rw[List.take_length,h]
theorem Uc(hk:k<xs.length):Yt xs (k+1)=if xs[k].r.toNat=0 then Yt xs k else Yt xs k++[xs[k].r.toNat]:=by unfold Yt;rw[List.take_succ_eq_append_getElem hk,List.map_append,List.filter_append];by_cases h:xs[k].r.toNat=0;rw[if_pos h];simp[h];rw[if_neg h];simp[h]
theorem qdr:(Yt xs k).length<=k:=by unfold Yt;refine Nat.le_trans (List.length_filter_le _ _) ?_;rw[List.length_map,List.length_take];omega
theorem Wk.new{refs':Nat->Nat}(h:Wk S R refs nodes (s++[a]))(ha:nodes a=0)(hl:a<256)(hn:qm S a=J ((lvl:Int),xs))(hr:∀b,refs' b=refs b+(Yt xs xs.length).count b):Wk S R refs' (Vr nodes a) (s++if 0<lvl then Yt xs xs.length else []):=by
 have hm:Vj nodes a=O:=decide_eq_false zO;have hk:ZD S a=if 0<lvl then Yt xs xs.length else []:=by unfold ZD;rw[hn,qdq hn];simp only;by_cases h0:0<lvl;rw[if_pos h0,if_pos zO];rw[if_neg h0,if_neg zO]
 rw[<-hk];refine⟨?_,λb=>?_⟩;rw[Yo];exact h.wk.new hm hl λb=>by rw[hr,qdq hn]
 rw[Yo];have h1:=h.few b;have h2:=Gj hm 256;rw[if_pos hl]at h2;rw[List.length_append,List.length_singleton]at h1;have h3:(ZD S a).length<=5:=by rw[hk];split;rw[qdq hn];exact qiy;simp
 rw[List.length_append];unfold Vr;split<;>omega
def leftW(w:World)(cb:Nat):Nat:=VY (λa=>match w.cell? (cb,262+a) with|some (E _ n)=>decide (0<n)|_=>O) 256
theorem GF(hr:w.heap[cb]?=J (Jx ca ty))(h:Ar ca refs nodes vv):leftW w cb=VY (Vj nodes) 256:=by unfold leftW;refine qbE _ λa ha=>?_;rw[qa hr,h.node a ha];unfold Vj;simp
def lenV:Z->Nat
 |.slice _ n _=>n
 |_=>0
structure TrI(p:CP)(B:Nat)(w1 wr:World)(vv:Z)(ca:Array Z)(refs nodes:Nat->Nat):Prop where
 off:Off B p.cb w1 wr
 row:wr.heap[p.cb]?=J (Jx ca 96)
 ar:Ar ca refs nodes vv
 low:∀i,i<6->ca[i]?=p.ca[i]?
 lt:p.cb<B
theorem TrI.grown(h:TrI p B w1 wr vv ca refs nodes){row:Option Nat}(hg:wr.grownBy W row)(hr:∀g,row=J g->B<=g):TrI p B w1 W vv ca refs nodes:=
 ⟨h.off.grown hg λg e=>.inr (hr g e),(hg.block _ (Nat.lt_of_lt_of_le h.lt h.off.size) λe=>by have:=hr _ e.symm;have:=h.lt;omega).trans h.row,h.ar,h.low,h.lt⟩
theorem TrI.ext(h:TrI p B w1 wr vv ca refs nodes)(hx:Ext wr W):TrI p B w1 W vv ca refs nodes:=h.grown (ZN hx U) λg e=>by cases e
theorem TrI.addRef(h:TrI p B w1 wr vv ca refs nodes)(ha:a<256):TrI p B w1 (wr.setCell (p.cb,6+a) (E Y ((refs a:Int)+1))) vv (ca.setIfInBounds (6+a) (E Y ((refs a:Int)+1))) (Vr refs a) nodes:=
 ⟨h.off.setCell (p:=⟨p.cb,6+a,U⟩) (.inl rfl) _,qj h.row _ _,h.ar.addRef ha,λi hi=>(qgz zO hi).trans (h.low i hi),h.lt⟩
theorem TrI.addNode(h:TrI p B w1 wr vv ca refs nodes)(ha:a<256):TrI p B w1 (wr.setCell (p.cb,262+a) (E Y ((nodes a:Int)+1))) vv (ca.setIfInBounds (262+a) (E Y ((nodes a:Int)+1))) refs (Vr nodes a):=
 ⟨h.off.setCell (p:=⟨p.cb,262+a,U⟩) (.inl rfl) _,qj h.row _ _,h.ar.addNode ha,λi hi=>(qgz zO hi).trans (h.low i hi),h.lt⟩
theorem TrI.cen(h:TrI p w1 w1 wr vv ca refs nodes)(hC:Cen p w1 g):Cen (p.put ca) wr g:=hC.put rfl h.off h.row h.low
theorem TrI.its(h:TrI p w1 w1 wr vv ca refs nodes)(hC:Cen p w1 g)(hi:jr p.lo w1 v xs):jr p.lo wr v xs:=
 hi.keep h.off.size λq h1 h2=>h.off.cell h2 (by have:=hC.low;omega)
def ji(lvl:Nat)(xs:List It)(k:Nat):List Nat:=if 0<lvl then Yt xs k else []
theorem qbw(lvl:Nat)(xs:List It):ji lvl xs 0=[]:=by unfold ji Yt;simp
theorem qit(hk:k<xs.length)(h:xs[k].r.toNat=0\/lvl=0):ji lvl xs (k+1)=ji lvl xs k:=by unfold ji;by_cases h0:0<lvl;rw[if_pos h0,if_pos h0,Uc hk,if_pos zO];rw[if_neg h0,if_neg h0]
theorem qis(hk:k<xs.length)(h:¬xs[k].r.toNat=0)(hl:0<lvl):ji lvl xs (k+1)=ji lvl xs k++[xs[k].r.toNat]:=by unfold ji;rw[if_pos hl,if_pos hl,Uc hk,if_neg h]
theorem qmG(hk:k<xs.length)(h:xs[k].r.toNat=0)(hr:∀b,rf' b=rf b+(Yt xs k).count b):∀b,rf' b=rf b+(Yt xs (k+1)).count b:=by intro b;rw[hr,Uc hk,if_pos h]
theorem qmF(hk:k<xs.length)(h:¬xs[k].r.toNat=0)(hr:∀b,rf' b=rf b+(Yt xs k).count b):∀b,Vr rf' xs[k].r.toNat b=rf b+(Yt xs (k+1)).count b:=by intro b;rw[Uc hk,if_neg h,List.count_append,<-Nat.add_assoc,<-hr];unfold Vr;rw[List.count_singleton];by_cases e:b=xs[k].r.toNat;rw[if_pos e,if_pos (by simp[e])];rw[if_neg e,if_neg zA2]
theorem qmH(xs:List It):Yt xs 0=[]:=by unfold Yt;simp
def JR(s:List Nat):List Z:=s.map λ(a:Nat)=>Value.int Y (a:Int)
theorem TV(s:List Nat):(JR s).length=s.length:=by simp[JR]
theorem Xh(s:List Nat)(a:Nat):JR (s++[a])=JR s++[Value.int Y (a:Int)]:=by simp[JR]
section
variable {P:Program} (w:World) {ops:Array Oper} {rest:List Oper} {o:Oper} {a:Act} {Q:Exit->Act->World->Prop}
theorem TJ{mb:Nat}{f:Int->Option Z}(h:Zu w mb f)(t k e:TypeId)(ht:P.underlying t=J (.map k e))(hk:P.underlying k=J (.int Y)){a:Int}{v:Z}(hf:f a=v):(Instr.lookup t (.map (J mb)) (E Y a) O).run P w=.ok v w:=by
 obtain⟨es,clock,hb,hks,hfa⟩:=h;have h0:=hfa a;rw[hf]at h0;rcases KX a es.toList 0 hks with⟨h1,h2⟩|⟨j,e2,h1,h2,h3,h4,_⟩
 unfold XI at h0;rw[h2]at h0;cases h0;unfold XI at h0;rw[h3]at h0;simp only[Option.map_some,Option.some.injEq]at h0;simp[Instr.lookup,run_underlying ht,MapKept.run_getObj_map hb,ve hk,Vb hk h2,h0,Result.andThen]
theorem qal(hg:o.guard=U)(m x:Operand)(t:TypeId)(hop:o.op=Op.lookup t m x O){k e:TypeId}(ht:P.underlying t=J (.map k e))(hk:P.underlying k=J (.int Y)){mb:Nat}{f:Int->Option Z}{r:Int}{v:Z}(hm:a.eval m=.map (J mb))(hx:a.eval x=E Y r)(h:Zu w mb f)(hf:f r=v)(hK:wpList P ops Q rest (a.put o.dst v) w):wpList P ops Q (o::rest) a w:=by refine wpList_plain hg λK' hK'=>?_;unfold Oper.wp;simp[execOp,hop,hm,hx,TJ w h t k e ht hk hf,Result.andThen];exact hK' _ _ hK
end
end Go.Proofs.YtmeadnlmepcmbaaGreat
