/- Lemmas of the proof. -/
import Derived.Test.YtmeadnlmepcmbaaGreatZG05
set_option linter.all false
set_option maxHeartbeats 8000000
open Go.Proofs.Tryz
namespace Go.Proofs.YtmeadnlmepcmbaaGreat
open Go.RowKit
theorem Tryz.info_span:(Tryz.prog.info? 156).map (λi=>(i.zero,i.size,i.bytes))=some (some (jN 0 none 0 0 (0,0,0) (0,0,0) false),9,64):=zQ
theorem qlv(w:World):(zeroValue 156).run prog w=.ok (jN 0 none 0 0 (0,0,0) (0,0,0) false) w:=by obtain⟨i0,hi,hz0,_,_⟩:=info_parts Tryz.info_span;simp[zeroValue,typeInfo,hi,hz0]
theorem set9{cs:Array Value}(hs:cs.size=9)(x0 x1 x2 x3 x4 x5 x6 x7 x8:Value):((((((((cs.setIfInBounds 0 x0).setIfInBounds 1 x1).setIfInBounds 2 x2).setIfInBounds 3 x3).setIfInBounds 4 x4).setIfInBounds 5 x5).setIfInBounds 6 x6).setIfInBounds 7 x7).setIfInBounds 8 x8=#[x0,x1,x2,x3,x4,x5,x6,x7,x8]:=by
 apply Array.ext_getElem?;intro j;by_cases hj:j<9
 ·have:j=0\/j=1\/j=2\/j=3\/j=4\/j=5\/j=6\/j=7\/j=8:=zO;rcases this with rfl|rfl|rfl|rfl|rfl|rfl|rfl|rfl|rfl<;>simp[hs]
 ·rw[Array.getElem?_eq_none zA2,Array.getElem?_eq_none zA2]
theorem Ki{w:World}{b:Nat}{ty:TypeId}{cs:Array Value}(h:w.heap[b]?=some (.cells cs ty (0,0)))(hs:cs.size=9)(x0 x1 x2 x3 x4 x5 x6 x7 x8:Value):(((((((((w.setCell ⟨b,0,none⟩ x0).setCell ⟨b,1,none⟩ x1).setCell ⟨b,2,none⟩ x2).setCell ⟨b,3,none⟩ x3).setCell ⟨b,4,none⟩ x4).setCell ⟨b,5,none⟩ x5).setCell ⟨b,6,none⟩ x6).setCell ⟨b,7,none⟩ x7).setCell ⟨b,8,none⟩ x8).heap[b]?=some (.cells #[x0,x1,x2,x3,x4,x5,x6,x7,x8] ty (0,0)):=by
 have:=qo (qo (qo (qo (qo (qo (qo (qo (qo h 0 x0) 1 x1) 2 x2) 3 x3) 4 x4) 5 x5) 6 x6) 7 x7) 8 x8;rw[this,set9 hs]
theorem VM{w0 w:World}{B b:Nat}(h:Below B w0 w)(hb:B<=b)(x0 x1 x2 x3 x4 x5 x6 x7 x8:Value):Below B w0 (((((((((w.setCell ⟨b,0,none⟩ x0).setCell ⟨b,1,none⟩ x1).setCell ⟨b,2,none⟩ x2).setCell ⟨b,3,none⟩ x3).setCell ⟨b,4,none⟩ x4).setCell ⟨b,5,none⟩ x5).setCell ⟨b,6,none⟩ x6).setCell ⟨b,7,none⟩ x7).setCell ⟨b,8,none⟩ x8):=
 Below.setCell (Below.setCell (Below.setCell (Below.setCell (Below.setCell (Below.setCell (Below.setCell (Below.setCell (Below.setCell h (p:=⟨b,0,none⟩) hb _) (p:=⟨b,1,none⟩) hb _) (p:=⟨b,2,none⟩) hb _) (p:=⟨b,3,none⟩) hb _) (p:=⟨b,4,none⟩) hb _) (p:=⟨b,5,none⟩) hb _) (p:=⟨b,6,none⟩) hb _) (p:=⟨b,7,none⟩) hb _) (p:=⟨b,8,none⟩) hb _
theorem KQ{w:World}{b:Nat}(x0 x1 x2 x3 x4 x5 x6 x7 x8:Value):w.grownBy (((((((((w.setCell ⟨b,0,none⟩ x0).setCell ⟨b,1,none⟩ x1).setCell ⟨b,2,none⟩ x2).setCell ⟨b,3,none⟩ x3).setCell ⟨b,4,none⟩ x4).setCell ⟨b,5,none⟩ x5).setCell ⟨b,6,none⟩ x6).setCell ⟨b,7,none⟩ x7).setCell ⟨b,8,none⟩ x8) (some b):=
 QI.trans (QI.trans (QI.trans (QI.trans (QI.trans (QI.trans (QI.trans (QI.trans QI)))))))
theorem GM{p:CP}{f g:Int->Option Value}{φ:Value->(Int->Option Value)->Prop}{w w5 w6 w7 w7' w8 W:World}{a:Nat}{lvl:Nat}{xs:List It}{A:OA}{c:Nat}{fk lk:K3}{b:Bool}{u:Value}(hfa:f a=none)(hC:Cen p w f)(h5:Ext w w5)(hlt:w.heap.size<w5.heap.size)(hgr:vN f g)(hm6:Zn w6 p.mb g)(hg6:w5.grownBy w6 (some p.mb))(hn:News p.S w5 f g w6)(h67:w6.grownBy w7 (some w.heap.size))(h7:Ext w7 w7')(hm7:Zn w7' p.mb g)(h78:w7'.grownBy w8 (some p.mb))(hm8:Zn w8 p.mb (λr=>if r=(a:Int)then some (jN lvl A xs.length c fk lk b)else g r))(h8W:w8.grownBy W (some w.heap.size))(ha:8<=a)(ha2:a<256)(hnode:qk p.S a=some ((lvl:Int),xs))(hBC:ZB (w.heap.size+1) w5 (.slice A xs.length c) xs)(hsp:VL p.S lvl xs fk lk b)(hcl:b=true->0<lvl->∀y∈xs,(g y.r).isSome=true)(hφ:φ u (λr=>if r=(a:Int)then some (jN lvl A xs.length c fk lk b)else g r)):TQ p f φ w (.returned u) W:=by
 have hmb:p.mb<w.heap.size:=by have:=hC.low;omega
 have hC5:=hC.ext h5;have z6:=hg6.size;have z7:=h67.size;have z7':=h7.size;have z8:=h78.size;have zW:=h8W.size;have hmW:Zn W p.mb _:=hm8.of_heap (h8W.block _ zO zA2);refine qkJ (w5:=w5) (w6:=w6) hfa h5 hlt hgr hg6 hn hmW ?_ zO (λq h1 h2=>?_) ha ha2 hnode ?_ hsp hcl hφ
 ·refine World.grownBy.andThen (World.grownBy.andThen (World.grownBy.andThen (World.grownBy.andThen (World.grownBy.andThen (ZD h5 (some p.mb)) hg6 (λj e=>.inr (by rw[<-e]))) h67 (λj e=>.inl (by cases e;omega))) (ZD h7 none) (λj e=>by cases e)) h78 (λj e=>.inr (by rw[<-e]))) h8W (λj e=>.inl (by cases e;omega))
 ·have hne:some q.block≠some w.heap.size:=zA2;rw[World.cell?_of_block (h8W.block q.block zO hne),Jt hm7 hm8 h78 q zO,Below.cell h7 (p:=q) zO,World.cell?_of_block (h67.block q.block zO hne)]
 ·exact hBC.keep hg6.size (λq _ h2=>Jt hC5.map hm6 hg6 q h2)
abbrev qeY:Value:=jN 0 none 0 0 (0,0,0) (0,0,0) false
theorem Js{R:Ending->World->Prop}{a:Act}{W:World}{b:Nat}{lvl:Int}{A:OA}{n c:Nat}{f l:K3}{bo:Bool}(h6:a.tmps[6]?.getD undef=.pointer (some ⟨b,0,none⟩))(hd:a.defers=[])(hBT:W.heap[b]?=some (.cells (JA lvl A n c f l bo) 156 (0,0)))(hR:R (.returned (jN lvl A n c f l bo)) W):bodyPost prog Tryz.f110 R .ret a W:=by
 refine bodyPost_ret (v:=jN lvl A n c f l bo) ?_ hd hR;have k:=qa hBT;simp[results,results110,go_sem,h6,k]
theorem cen_node{p:CP}{W:World}{g:Int->Option Value}{a:Nat}(hC:Cen p W g)(ha:8<=a)(ha2:a<256):Calls prog 145 #[.pointer (some ⟨p.bb,0,none⟩),.int .i64 (a:Int)] W (zm (qbr W.heap.size (qk p.S a)) W):=by
 obtain⟨_,A1,c1,e1,_⟩:=hC.onB.2.2.bs;obtain⟨_,_,⟨A2,c2,e2,_⟩,_⟩:=hC.onB.2.2.ws;obtain⟨A3,c3,e3,_⟩:=hC.onB.2.2.now;obtain⟨A4,c4,e4,_⟩:=hC.onB.2.2.last;have h:=hC.onB;rw[e1,e2,e3,e4]at h;exact vS 0 p.bb _ _ _ _ _ _ _ _ _ _ _ _ p.S hC.may a ha ha2 W h
set_option maxRecDepth 100000 in
theorem qdW(p:CP)(L:Int)(hL:L=-1\/(0<=L/\L<=5))(HR:∀h:Nat,h<=5->(0<=L->(h:Int)=L)->ReadC p h):qhO p L:=by
 intro r w f hC;by_cases hr:r<8\/256<=r
 ·have ho:okL p.S L r=false:=by unfold okL;rw[if_neg zO]
  have HP:qbq p L r qeY f:=⟨0,none,0,0,_,_,by rw[ho],λh=>by rw[ho]at h;cases h⟩
  replace⟨HP,hC⟩:=zH2 HP hC;clear ho HR;go_enter func110,ntmps110;go_wp2;all_goals first|(exfalso;omega)|skip
  all_goals
   generalize hwf:(World.alloc _ _)=wf;have rf:wf.heap[w.heap.size]?=some (.cells (JA 0 none 0 0 (0,0,0) (0,0,0) false) 156 (0,0)):=by rw[<-hwf];exact zI _ _ _ rfl
   have xf:Ext w wf:=by rw[<-hwf];exact zN _ _
   have kf:=qa rf;exact bodyPost_ret (v:=qeY) (by simp[results,results110,go_sem,kf]) rfl (TQ.same hC.out xf HP.out)
 ·obtain⟨a,rfl⟩:∃a:Nat,r=(a:Int):=⟨r.toNat,zO⟩
  have ha:8<=a:=zO;have ha2:a<256:=zO;have hd1:decide ((a:Int)<8)=false:=decide_eq_false zO;have hd2:decide ((a:Int)≥256)=false:=decide_eq_false zO;have HOK:Hid (okL p.S L a=match qk p.S a with|none=>false|some (lvl,xs)=>(qz p.S lvl.toNat xs).isSome&&(decide (L<0)||(decide (lvl=L)&&decide (xs.length≠0)))):=by refine zH ?_;unfold okL;rw[if_pos zO,Int.toNat_natCast];all_goals rfl
  have k0:∀W,Ext w W->W.cell? ⟨p.cb,5,none⟩=some (.map (some p.mb)):=λW h=>by rw[qa (qb hC.row h),hC.c5]
  have k1:∀W,Ext w W->W.cell? ⟨p.cb,4,none⟩=some (.pointer (some ⟨p.bb,0,none⟩)):=λW h=>by rw[qa (qb hC.row h),hC.c4]
  have hcb:p.cb<w.heap.size:=(zG.1 hC.row).1;have hk5:w.cell? ⟨p.cb,5,none⟩=some (.map (some p.mb)):=k0 w (Ext.refl _);replace hC:=zH hC;clear hr;go_enter func110,ntmps110;go_wp2_with (at_lookup;refine qY ?_);generalize hw1:(World.alloc _ _)=w1;have x1:Ext w w1:=by rw[<-hw1];exact zN _ _
  have q1:w1.heap[w.heap.size]?=some (.cells (JA 0 none 0 0 (0,0,0) (0,0,0) false) 156 (0,0)):=by rw[<-hw1];exact zI _ _ _ rfl
  clear hw1;have hC1:=hC.out.ext x1;refine Qm.go (Gv _ rfl (.tmp 21) (.tmp 22) 93 rfl underlying93 underlying3 (qlv _) rfl rfl hC1.map ?_);rcases hfr:f (a:Int)with _|v
  ·have kq:=qa q1;have fq:=qg q1;go_wp2_with fail;have q2:=Ki q1 rfl (.int .i64 0) (.slice none 0 0) (.int .u8 0) (.int .u32 0) (.int .u32 0) (.int .u8 0) (.int .u32 0) (.int .u32 0) (.bool false);have x2:Ext w _:=VM x1 (zM w.heap.size) (.int .i64 0) (.slice none 0 0) (.int .u8 0) (.int .u32 0) (.int .u32 0) (.int .u8 0) (.int .u32 0) (.int .u32 0) (.bool false);generalize hw2:(World.setCell (World.setCell (World.setCell (World.setCell (World.setCell (World.setCell (World.setCell (World.setCell (World.setCell w1 _ _) _ _) _ _) _ _) _ _) _ _) _ _) _ _) _ _)=w2 at*;clear hw2 kq fq q1 x1 hC1;refine(cen_node (hC.out.ext x2) ha ha2).mono ?_;rintro e w3 ⟨u,rfl,hu,hB⟩;have x3:Ext w w3:=x2.trans hB;have q3:=qb q2 hB;have s3:w.heap.size<w3.heap.size:=(zG.1 q3).1;have s2:w.heap.size<w2.heap.size:=(zG.1 q2).1;have k3:=qa q3;have f3:=qg q3;have HP0:okL p.S L a=false->qbq p L a qeY f:=λh=>⟨0,none,0,0,_,_,by rw[h],λh'=>by rw[h]at h';cases h'⟩
   rcases hnode:qk p.S a with _|⟨lvl',xs⟩
   ·rw[hnode]at hu HOK;obtain⟨er,hne,rfl⟩:=hu;have hv:=HP0 HOK.out;have hZN:(er != 0)=true:=by rw[bne_iff_ne];exact hne
    replace hv:=zH hv;clear HP0 HOK HR hnode k0 k1 hk5;go_wp2;exact Js (b:=w.heap.size) rfl rfl ((zK _ _ _ (by simpa using s3)).trans (Ki q3 rfl _ _ _ _ _ _ _ _ _)) (TQ.same hC.out (Below.alloc (VM x3 (zM _) _ _ _ _ _ _ _ _ _) zA2 _) hv.out)
   ·rw[hnode]at hu HOK;obtain⟨A,c,rfl,hBC⟩:=hu;obtain⟨hmay,hxs,hlv⟩:=qF hnode;obtain⟨lvl,rfl⟩:=Int.eq_ofNat_of_zero_le hlv;replace HOK:Hid (okL p.S L a=((qz p.S lvl xs).isSome&&(decide (L<0)||(decide ((lvl:Int)=L)&&decide (xs.length≠0))))):=HOK;have hl5:lvl<=5:=by unfold Qj ZZ at hmay;simp at hmay;omega
    by_cases hmm:0<=L/\(lvl:Int)≠L
    ·have hv:=HP0 (by rw[HOK.out];simp only[decide_eq_false (show ¬L<0 by omega),decide_eq_false hmm.2];simp);have hdl:decide (L≥0)=true:=decide_eq_true hmm.1;have hUW:((lvl:Int)!=L)=true:=by rw[bne_iff_ne];exact hmm.2
     replace hv:=zH hv;clear HP0 HOK HR hnode k0 k1 hk5 hmm;go_wp2;exact Js (b:=w.heap.size) rfl rfl ((zK _ _ _ (by simpa using s3)).trans (Ki q3 rfl _ _ _ _ _ _ _ _ _)) (TQ.same hC.out (Below.alloc (VM x3 (zM _) _ _ _ _ _ _ _ _ _) zA2 _) hv.out)
    ·have hLc:L<0\/(0<=L/\(lvl:Int)=L):=by
      rcases hL with h|h
      ·exact .inl zO
      ·exact .inr ⟨h.1,Classical.byContradiction λh'=>hmm ⟨h.1,h'⟩⟩
     have HRD:=zH (HR lvl hl5 (λh=>zO));clear HR;rcases hLc with hL0|⟨hL0,hLl⟩
     ·skip
      have hdl:decide (L≥0)=false:=decide_eq_false zO;have hTN:okL p.S L a=(qz p.S lvl xs).isSome:=by rw[HOK.out,decide_eq_true hL0,Bool.true_or,Bool.and_true]
      replace hTN:=zH hTN;clear HOK HP0;go_wp2_with fail;generalize hw5:(World.alloc _ _)=w5;have x35:Ext w3 w5:=by rw[<-hw5];exact zN _ _
      clear hw5 k3 f3;have x5:Ext w w5:=x3.trans x35;have q5:=qb q3 x35;have hHE:=hC.out.low;have s5:w.heap.size<w5.heap.size:=(zG.1 q5).1;have hLD:ZB (w.heap.size+1) w5 (.slice A xs.length c) xs:=(hBC.ext x35).mono zO;refine(HRD.out xs A c w5 f hmay hxs (hLD.mono zO) (hC.out.ext x5)).mono ?_;rintro e w6 ⟨v,g,rfl,⟨fk,lk,b,rfl,hsp,hcl⟩,hgr,hm6,hg6,hn6⟩;have hC6:=(hC.out.ext x5).after hgr hm6 hg6 hn6;have q6:w6.heap[w.heap.size]?=_:=(hg6.block _ s5 zA2).trans q5;have k6:=qa q6;have f6:=qg q6;go_wp2_with fail;have q7:=Ki q6 rfl (.int .i64 lvl) (.slice A xs.length c) (.int .u8 fk.1) (.int .u32 fk.2.1) (.int .u32 fk.2.2) (.int .u8 lk.1) (.int .u32 lk.2.1) (.int .u32 lk.2.2) (.bool b);have h67:=KQ (w:=w6) (b:=w.heap.size) (.int .i64 lvl) (.slice A xs.length c) (.int .u8 fk.1) (.int .u32 fk.2.1) (.int .u32 fk.2.2) (.int .u8 lk.1) (.int .u32 lk.2.1) (.int .u32 lk.2.2) (.bool b);generalize hw7:(World.setCell (World.setCell (World.setCell (World.setCell (World.setCell (World.setCell (World.setCell (World.setCell (World.setCell w6 _ _) _ _) _ _) _ _) _ _) _ _) _ _) _ _) _ _)=w7 at*;have z56:=hg6.size;have wBQ:w7.heap[p.cb]?=_:=(h67.block _ zO zA2).trans hC6.row;have hm7:Zn w7 p.mb g:=hm6.of_heap (h67.block _ zO zA2);have hc5:=hC6.c5;clear hw7 k6 f6 q6;have g5:∀W,qj.r w7 W->W.cell? ⟨p.cb,5,none⟩=some (.map (some p.mb)):=λW h=>by rw[qa (qb wBQ h),hc5]
      have gq:∀W,qj.r w7 W->∀i,W.cell? ⟨w.heap.size,i,none⟩=(JA lvl A xs.length c fk lk b)[i]?:=λW h=>qa (qb q7 h);refine qt zQ ?_;refine ZY (w:=w7) qj (qQ []) [true,true,true,true,true,true] 1 zQ zQ zQ zQ zQ zQ ?st (Rel.drew _ _) ?walk
      case st=>exact qi (λ_ h=>by cases h)
      case walk=>intro K hK;dsimp only[qw];refine zB7 ?_;refine qD (hK _ _ λW hW hF=>?_);clear hF hK g5 gq;have hW':Ext w7 W:=hW;have z7:=h67.size;have q7':=qb q7 hW';have hmW:Zn W p.mb g:=hm7.of_heap (hW'.block _ zO);refine zB6 ?_;refine vK _ rfl (.tmp 56) (.tmp 57) (.tmp 58) 93 rfl underlying93 underlying3 rfl rfl rfl hmW ?_;intro w8 hm8 hg8;have z7W:=hW'.size;have q8:w8.heap[w.heap.size]?=_:=(hg8.block _ zO zA2).trans q7';have k8:=qa q8;have f8:=qg q8;replace⟨hcl,hsp,hnode,hfr⟩:=zH4 hcl hsp hnode hfr;go_wp2;refine Qn ?_;go_wp2;exact Js (b:=w.heap.size) rfl rfl (Ki q8 rfl _ _ _ _ _ _ _ _ _) (GM hfr.out hC.out x5 s5 hgr hm6 hg6 hn6 h67 hW' hmW hg8 hm8 (KQ _ _ _ _ _ _ _ _ _) ha ha2 hnode.out hLD hsp.out hcl.out ⟨lvl,A,_,c,fk,lk,by rw[hTN.out,<-hsp.out.1],λ_=>if_pos rfl⟩)
     ·by_cases hm0:xs.length=0
      case neg=>
       have hUW:((lvl:Int)!=L)=false:=by rw[bne_eq_false_iff_eq];exact hLl
       have hTN:okL p.S L a=(qz p.S lvl xs).isSome:=by rw[HOK.out,decide_eq_true hLl,decide_eq_true hm0];simp
       have hZN:((xs.length:Int)==0)=false:=by rw[beq_eq_false_iff_ne];omega
       replace⟨hTN,hLl,hm0⟩:=zH3 hTN hLl hm0;clear HOK HP0;go_wp2_with fail;generalize hw5:(World.alloc _ _)=w5;have x35:Ext w3 w5:=by rw[<-hw5];exact zN _ _
       clear hw5 k3 f3;have x5:Ext w w5:=x3.trans x35;have q5:=qb q3 x35;have hHE:=hC.out.low;have s5:w.heap.size<w5.heap.size:=(zG.1 q5).1;have hLD:ZB (w.heap.size+1) w5 (.slice A xs.length c) xs:=(hBC.ext x35).mono zO;refine(HRD.out xs A c w5 f hmay hxs (hLD.mono zO) (hC.out.ext x5)).mono ?_;rintro e w6 ⟨v,g,rfl,⟨fk,lk,b,rfl,hsp,hcl⟩,hgr,hm6,hg6,hn6⟩;have hC6:=(hC.out.ext x5).after hgr hm6 hg6 hn6;have q6:w6.heap[w.heap.size]?=_:=(hg6.block _ s5 zA2).trans q5;have k6:=qa q6;have f6:=qg q6;go_wp2_with fail;have q7:=Ki q6 rfl (.int .i64 lvl) (.slice A xs.length c) (.int .u8 fk.1) (.int .u32 fk.2.1) (.int .u32 fk.2.2) (.int .u8 lk.1) (.int .u32 lk.2.1) (.int .u32 lk.2.2) (.bool b);have h67:=KQ (w:=w6) (b:=w.heap.size) (.int .i64 lvl) (.slice A xs.length c) (.int .u8 fk.1) (.int .u32 fk.2.1) (.int .u32 fk.2.2) (.int .u8 lk.1) (.int .u32 lk.2.1) (.int .u32 lk.2.2) (.bool b);generalize hw7:(World.setCell (World.setCell (World.setCell (World.setCell (World.setCell (World.setCell (World.setCell (World.setCell (World.setCell w6 _ _) _ _) _ _) _ _) _ _) _ _) _ _) _ _) _ _)=w7 at*;have z56:=hg6.size;have wBQ:w7.heap[p.cb]?=_:=(h67.block _ zO zA2).trans hC6.row;have hm7:Zn w7 p.mb g:=hm6.of_heap (h67.block _ zO zA2);have hc5:=hC6.c5;clear hw7 k6 f6 q6;have g5:∀W,qj.r w7 W->W.cell? ⟨p.cb,5,none⟩=some (.map (some p.mb)):=λW h=>by rw[qa (qb wBQ h),hc5]
       have gq:∀W,qj.r w7 W->∀i,W.cell? ⟨w.heap.size,i,none⟩=(JA lvl A xs.length c fk lk b)[i]?:=λW h=>qa (qb q7 h);refine qt zQ ?_;refine ZY (w:=w7) qj (qQ []) [true,true,true,true,true,true] 1 zQ zQ zQ zQ zQ zQ ?st (Rel.drew _ _) ?walk
       case st=>exact qi (λ_ h=>by cases h)
       case walk=>intro K hK;dsimp only[qw];refine zB7 ?_;refine qD (hK _ _ λW hW hF=>?_);clear hF hK g5 gq;have hW':Ext w7 W:=hW;have z7:=h67.size;have q7':=qb q7 hW';have hmW:Zn W p.mb g:=hm7.of_heap (hW'.block _ zO);refine zB6 ?_;refine vK _ rfl (.tmp 56) (.tmp 57) (.tmp 58) 93 rfl underlying93 underlying3 rfl rfl rfl hmW ?_;intro w8 hm8 hg8;have z7W:=hW'.size;have q8:w8.heap[w.heap.size]?=_:=(hg8.block _ zO zA2).trans q7';have k8:=qa q8;have f8:=qg q8;replace⟨hcl,hsp,hnode,hfr⟩:=zH4 hcl hsp hnode hfr;go_wp2;refine Qn ?_;go_wp2;exact Js (b:=w.heap.size) rfl rfl (Ki q8 rfl _ _ _ _ _ _ _ _ _) (GM hfr.out hC.out x5 s5 hgr hm6 hg6 hn6 h67 hW' hmW hg8 hm8 (KQ _ _ _ _ _ _ _ _ _) ha ha2 hnode.out hLD hsp.out hcl.out ⟨lvl,A,_,c,fk,lk,by rw[hTN.out,<-hsp.out.1],λ_=>if_pos rfl⟩)
      case pos=>
       have hUW:((lvl:Int)!=L)=false:=by rw[bne_eq_false_iff_eq];exact hLl
       have hTN:okL p.S L a=false:=by rw[HOK.out];simp[hm0,show ¬L<0 by omega]
       have hZN:((xs.length:Int)==0)=true:=by rw[beq_iff_eq];omega
       replace⟨hTN,hLl,hm0⟩:=zH3 hTN hLl hm0;clear HOK HP0;go_wp2_with fail;generalize hw5:(World.alloc _ _)=w5;have x35:Ext w3 w5:=by rw[<-hw5];exact zN _ _
       clear hw5 k3 f3;have x5:Ext w w5:=x3.trans x35;have q5:=qb q3 x35;have hHE:=hC.out.low;have s5:w.heap.size<w5.heap.size:=(zG.1 q5).1;have hLD:ZB (w.heap.size+1) w5 (.slice A xs.length c) xs:=(hBC.ext x35).mono zO;refine(HRD.out xs A c w5 f hmay hxs (hLD.mono zO) (hC.out.ext x5)).mono ?_;rintro e w6 ⟨v,g,rfl,⟨fk,lk,b,rfl,hsp,hcl⟩,hgr,hm6,hg6,hn6⟩;have hC6:=(hC.out.ext x5).after hgr hm6 hg6 hn6;have q6:w6.heap[w.heap.size]?=_:=(hg6.block _ s5 zA2).trans q5;have k6:=qa q6;have f6:=qg q6;go_wp2_with fail;have q7:=Ki q6 rfl (.int .i64 lvl) (.slice A xs.length c) (.int .u8 fk.1) (.int .u32 fk.2.1) (.int .u32 fk.2.2) (.int .u8 lk.1) (.int .u32 lk.2.1) (.int .u32 lk.2.2) (.bool b);have h67:=KQ (w:=w6) (b:=w.heap.size) (.int .i64 lvl) (.slice A xs.length c) (.int .u8 fk.1) (.int .u32 fk.2.1) (.int .u32 fk.2.2) (.int .u8 lk.1) (.int .u32 lk.2.1) (.int .u32 lk.2.2) (.bool b);generalize hw7:(World.setCell (World.setCell (World.setCell (World.setCell (World.setCell (World.setCell (World.setCell (World.setCell (World.setCell w6 _ _) _ _) _ _) _ _) _ _) _ _) _ _) _ _) _ _)=w7 at*;have z56:=hg6.size;have wBQ:w7.heap[p.cb]?=_:=(h67.block _ zO zA2).trans hC6.row;have hm7:Zn w7 p.mb g:=hm6.of_heap (h67.block _ zO zA2);have hc5:=hC6.c5;clear hw7 k6 f6 q6;have g5:∀W,qj.r w7 W->W.cell? ⟨p.cb,5,none⟩=some (.map (some p.mb)):=λW h=>by rw[qa (qb wBQ h),hc5]
       have gq:∀W,qj.r w7 W->∀i,W.cell? ⟨w.heap.size,i,none⟩=(JA lvl A xs.length c fk lk b)[i]?:=λW h=>qa (qb q7 h);refine qt zQ ?_;refine ZY (w:=w7) qj (qQ []) [true,true,true,true,true,true] 1 zQ zQ zQ zQ zQ zQ ?st (Rel.drew _ _) ?walk
       case st=>exact qi (λ_ h=>by cases h)
       case walk=>intro K hK;dsimp only[qw];refine zB7 ?_;refine qD (hK _ _ λW hW hF=>?_);clear hF hK g5 gq;have hW':Ext w7 W:=hW;have z7:=h67.size;have q7':=qb q7 hW';have hmW:Zn W p.mb g:=hm7.of_heap (hW'.block _ zO);refine zB6 ?_;refine vK _ rfl (.tmp 56) (.tmp 57) (.tmp 58) 93 rfl underlying93 underlying3 rfl rfl rfl hmW ?_;intro w8 hm8 hg8;have z7W:=hW'.size;have q8:w8.heap[w.heap.size]?=_:=(hg8.block _ zO zA2).trans q7';have k8:=qa q8;have f8:=qg q8;replace⟨hcl,hsp,hnode,hfr⟩:=zH4 hcl hsp hnode hfr;go_wp2;refine Qn ?_;go_wp2;exact Js (b:=w.heap.size) (f:=(0,0,0)) (l:=(0,0,0)) rfl rfl (Ki q8 rfl _ _ _ _ _ _ _ _ _) (GM hfr.out hC.out x5 s5 hgr hm6 hg6 hn6 h67 hW' hmW hg8 hm8 (KQ _ _ _ _ _ _ _ _ _) ha ha2 hnode.out hLD hsp.out hcl.out ⟨0,none,0,0,_,_,by rw[hTN.out],λh=>by rw[hTN.out]at h;cases h⟩)
  ·obtain⟨n,lvl,xs,A,c,fk,lk,b,hn,_,_,hnode,rfl,hBC,wQB,hclo⟩:=hC1.known _ _ hfr;obtain rfl:a=n:=zO;have hok:okL p.S L a=(b&&(decide (L<0)||(decide ((lvl:Int)=L)&&decide (xs.length≠0)))):=by rw[HOK.out,hnode,wQB.1];rfl
   have HPv:okL p.S L a=b->qbq p L a (jN lvl A xs.length c fk lk b) f:=λh=>⟨_,A,_,c,fk,lk,by rw[h],λ_=>hfr⟩
   have HP0:okL p.S L a=false->qbq p L a qeY f:=λh=>⟨0,none,0,0,_,_,by rw[h],λh'=>by rw[h]at h';cases h'⟩
   replace⟨HPv,HP0,hC1,hok⟩:=zH4 HPv HP0 hC1 hok;clear hfr hclo wQB hBC hnode HOK HR hn k0 k1 hk5;have kq:=qa q1;have fq:=qg q1;generalize hxl:xs.length=m at*;clear hxl;by_cases hL0:L<0
   ·have hv:=HPv.out (by rw[hok.out,decide_eq_true hL0,Bool.true_or,Bool.and_true]);have hdl:decide (L≥0)=false:=decide_eq_false zO;replace hv:=zH hv;clear HPv HP0 hok;go_wp2;exact Js (b:=w.heap.size) rfl rfl (Ki (Ki q1 rfl _ _ _ _ _ _ _ _ _) rfl _ _ _ _ _ _ _ _ _) (TQ.same hC.out (VM (VM x1 (zM _) _ _ _ _ _ _ _ _ _) (zM _) _ _ _ _ _ _ _ _ _) hv.out)
   ·have hdl:decide (L≥0)=true:=decide_eq_true zO;by_cases hll:(lvl:Int)=L/\m≠0
    ·have hv:=HPv.out (by rw[hok.out,decide_eq_false hL0,decide_eq_true hll.1,decide_eq_true hll.2];simp);have hUW:((lvl:Int)!=L)=false:=by rw[bne_eq_false_iff_eq];exact hll.1
     have hZN:((m:Int)==0)=false:=by rw[beq_eq_false_iff_ne];omega
     replace hv:=zH hv;clear HPv HP0 hok hll;go_wp2;exact Js (b:=w.heap.size) rfl rfl (Ki (Ki q1 rfl _ _ _ _ _ _ _ _ _) rfl _ _ _ _ _ _ _ _ _) (TQ.same hC.out (VM (VM x1 (zM _) _ _ _ _ _ _ _ _ _) (zM _) _ _ _ _ _ _ _ _ _) hv.out)
    ·have hv:=HP0.out (by
      rw[hok.out,decide_eq_false hL0];by_cases h1:(lvl:Int)=L
      ·have h2:m=0:=Classical.byContradiction λh=>hll ⟨h1,h⟩;simp[h2]
      ·simp[h1])
     replace hv:=zH hv;clear HPv HP0 hok;by_cases h1:(lvl:Int)=L
     ·have h2:m=0:=Classical.byContradiction λh=>hll ⟨h1,h⟩;have hUW:((lvl:Int)!=L)=false:=by rw[bne_eq_false_iff_eq];exact h1
      clear hll h1;subst h2;go_wp2;exact Js (b:=w.heap.size) rfl rfl (Ki (Ki q1 rfl _ _ _ _ _ _ _ _ _) rfl _ _ _ _ _ _ _ _ _) (TQ.same hC.out (VM (VM x1 (zM _) _ _ _ _ _ _ _ _ _) (zM _) _ _ _ _ _ _ _ _ _) hv.out)
     ·have hUW:((lvl:Int)!=L)=true:=by rw[bne_iff_ne];exact h1
      clear hll h1;go_wp2;exact Js (b:=w.heap.size) rfl rfl (Ki (Ki q1 rfl _ _ _ _ _ _ _ _ _) rfl _ _ _ _ _ _ _ _ _) (TQ.same hC.out (VM (VM x1 (zM _) _ _ _ _ _ _ _ _ _) (zM _) _ _ _ _ _ _ _ _ _) hv.out)
theorem qea(S:Sto)(h:Nat)(r:Int):okL S (h:Int) r=(Va S h r).isSome:=by
 unfold okL Va;split
 ·rcases hn:qk S r.toNat with _|⟨lvl,xs⟩
  ·rfl
  ·simp only;by_cases hl:lvl=(h:Int)
   ·subst hl;rw[if_pos rfl];rcases hs:qz S h xs with _|_|p
    ·simp[hs]
    ·have:xs.length=0:=by
      rcases Nat.eq_zero_or_pos xs.length with h0|h0
      ·exact h0
      ·exact absurd (by rw[List.take_length];exact hs) (Zm (S:=S) (h:=h) h0 (zM _))
     simp[hs,this,show ¬((h:Int)<0)by omega]
    ·have:xs≠[]:=qja ⟨p,hs⟩;simp[hs,this]
   ·rw[if_neg hl];simp[hl,show ¬((h:Int)<0)by omega]
 ·rfl
theorem qgk{S:Sto}{lo h:Nat}{w:World}{g:Int->Option Value}{r lvl:Int}{A:OA}{n c:Nat}{fk lk:K3}{b:Bool}(hc:TO S lo w g r (jN lvl A n c fk lk b))(hok:okL S (h:Int) r=true):Va S h r=some (fk,lk):=by
 obtain⟨m,lv,xs,A',c',fk',lk',b',rfl,h1,h2,h3,h4,_,h6,_⟩:=hc;simp only[Value.agg.injEq,Array.mk.injEq,List.cons.injEq,Value.int.injEq,Value.bool.injEq,true_and,and_true]at h4;obtain⟨_,_,e1,e2,e3,e4,e5,e6,rfl⟩:=h4;have ef:fk=fk':=Prod.ext e1 (Prod.ext e2 e3);have el:lk=lk':=Prod.ext e4 (Prod.ext e5 e6);subst ef;subst el;rw[qea]at hok;unfold Va at hok⊢;rw[if_pos zO,Int.toNat_natCast,h3]at hok⊢;simp only at hok⊢;split at hok
 ·rename_i hl;obtain rfl:lv=h:=zO;rw[if_pos rfl];rcases hs:qz S lv xs with _|_|q
  ·rw[hs]at hok;cases hok
  ·rw[hs]at hok;cases hok
  ·rw[h6.2 q hs];rfl
 ·cases hok
structure RdI(p:CP)(h:Nat)(xs:List It)(A:OA)(c:Nat)(w:World)(f:Int->Option Value)(wr:World)(g:Int->Option Value)(k:Nat)(fk lk:K3):Prop where
 rn:wr.heap[w.heap.size]?=some (.cells #[.int .i64 h,.slice A xs.length c] 113 (0,0))
 rr:wr.heap[w.heap.size+1]?=some (.cells (JA 0 none 0 0 (0,0,0) (0,0,0) false) 156 (0,0))
 rx:wr.heap[w.heap.size+2]?=some (.cells (JA h A xs.length c fk lk true) 156 (0,0))
 sp:VL p.S h (xs.take k) fk lk true
 cl:0<h->∀y∈xs.take k,(g y.r).isSome=true
 gr:vN f g
 mp:Zn wr p.mb g
 gw:w.grownBy wr (some p.mb)
 nw:∀a v,g a=some v->f a=none->TO p.S (w.heap.size+3) wr g a v
theorem RdI.news{p:CP}{h:Nat}{xs:List It}{A:OA}{c:Nat}{w wr:World}{f g:Int->Option Value}{k:Nat}{fk lk:K3}(H:RdI p h xs A c w f wr g k fk lk):News p.S w f g wr:=
 λa v h1 h2=>(H.nw a v h1 h2).keep zO (zM _) (λ_ _ _=>rfl) (λ_ h=>h)
theorem RdI.cen{p:CP}{h:Nat}{xs:List It}{A:OA}{c:Nat}{w wr:World}{f g:Int->Option Value}{k:Nat}{fk lk:K3}(H:RdI p h xs A c w f wr g k fk lk)(hC:Cen p w f):Cen p wr g:=
 hC.after H.gr H.mp H.gw H.news
theorem RdI.ext{p:CP}{h:Nat}{xs:List It}{A:OA}{c:Nat}{w wr W:World}{f g:Int->Option Value}{k:Nat}{fk lk:K3}(H:RdI p h xs A c w f wr g k fk lk)(hC:Cen p w f)(hx:Ext wr W):RdI p h xs A c w f W g k fk lk where
 rn:=qb H.rn hx
 rr:=qb H.rr hx
 rx:=qb H.rx hx
 sp:=H.sp
 cl:=H.cl
 gr:=H.gr
 mp:=H.mp.of_heap (hx.block _ (by have:=hC.low;have:=H.gw.size;omega))
 gw:=World.grownBy.andThen H.gw (ZD hx (some p.mb)) (λj e=>.inr (by rw[<-e]))
 nw:=λa v h1 h2=>(H.nw a v h1 h2).keep (zM _) hx.size (λq _ hq=>Below.cell hx hq) (λ_ h=>h)
theorem RdI.call{p:CP}{h:Nat}{xs:List It}{A:OA}{c:Nat}{w wr W:World}{f g g':Int->Option Value}{k:Nat}{fk lk:K3}(H:RdI p h xs A c w f wr g k fk lk)(hC:Cen p w f)(hgr:vN g g')(hm:Zn W p.mb g')(hg:wr.grownBy W (some p.mb))(hn:News p.S wr g g' W):RdI p h xs A c w f W g' k fk lk:=by
 have hl:=hC.low;have h2:w.heap.size+2<wr.heap.size:=(zG.1 H.rx).1;have hb:∀b,w.heap.size<=b->b<wr.heap.size->W.heap[b]?=wr.heap[b]?:=λb h1 h2=>hg.block b h2 zA2;refine⟨(hb _ zO zO).trans H.rn,(hb _ zO zO).trans H.rr,(hb _ zO zO).trans H.rx,H.sp,λh0 y hy=>hgr.some_ _ (H.cl h0 y hy),H.gr.trans hgr,hm,World.grownBy.andThen H.gw hg (λj e=>.inr (by rw[<-e])),λa v h1 h0=>?_⟩;rcases hga:g a with _|u
 ·exact(hn a v h1 hga).keep zO (zM _) (λ_ _ _=>rfl) (λ_ h=>h)
 ·have e:=hgr a u hga;rw[h1]at e;cases e;exact(H.nw a v hga h0).keep (zM _) hg.size (λq h3 h4=>World.cell?_of_block (hb q.block zO h4)) hgr.some_
theorem RdI.set{p:CP}{h:Nat}{xs:List It}{A:OA}{c:Nat}{w wr W:World}{f g:Int->Option Value}{k k':Nat}{fk lk fk' lk':K3}(H:RdI p h xs A c w f wr g k fk lk)(hC:Cen p w f)(hg:wr.grownBy W (some (w.heap.size+2)))(hx:W.heap[w.heap.size+2]?=some (.cells (JA h A xs.length c fk' lk' true) 156 (0,0)))(hs:VL p.S h (xs.take k') fk' lk' true)(hc:0<h->∀y∈xs.take k',(g y.r).isSome=true):RdI p h xs A c w f W g k' fk' lk':=by
 have hl:=hC.low;have h2:w.heap.size+2<wr.heap.size:=(zG.1 H.rx).1;have hb:∀b,b≠w.heap.size+2->b<wr.heap.size->W.heap[b]?=wr.heap[b]?:=λb h1 h2=>hg.block b h2 zA2;exact⟨(hb _ zO zO).trans H.rn,(hb _ zO zO).trans H.rr,hx,hs,hc,H.gr,H.mp.of_heap (hb _ zO zO),World.grownBy.andThen H.gw hg (λj e=>.inl (by cases e;omega)),
  λa v h1 h0=>(H.nw a v h1 h0).keep (zM _) hg.size (λq h3 h4=>World.cell?_of_block (hb q.block zO h4)) (λ_ h=>h)⟩
theorem RdI.set6{p:CP}{h:Nat}{xs:List It}{A:OA}{c:Nat}{w wr:World}{f g:Int->Option Value}{k k':Nat}{fk lk fk' lk':K3}(H:RdI p h xs A c w f wr g k fk lk)(hC:Cen p w f)(hs:VL p.S h (xs.take k') fk' lk' true)(hc:0<h->∀y∈xs.take k',(g y.r).isSome=true):RdI p h xs A c w f ((((((wr.setCell ⟨w.heap.size+1+1,2,none⟩ (.int .u8 fk'.1)).setCell ⟨w.heap.size+1+1,3,none⟩ (.int .u32 fk'.2.1)).setCell ⟨w.heap.size+1+1,4,none⟩ (.int .u32 fk'.2.2)).setCell ⟨w.heap.size+1+1,5,none⟩ (.int .u8 lk'.1)).setCell ⟨w.heap.size+1+1,6,none⟩ (.int .u32 lk'.2.1)).setCell ⟨w.heap.size+1+1,7,none⟩ (.int .u32 lk'.2.2)) g k' fk' lk':=
 H.set hC (QI.trans (QI.trans (QI.trans (QI.trans (QI.trans QI))))) (qo (qo (qo (qo (qo (qo H.rx 2 _) 3 _) 4 _) 5 _) 6 _) 7 _) hs hc
theorem RdI.set3{p:CP}{h:Nat}{xs:List It}{A:OA}{c:Nat}{w wr:World}{f g:Int->Option Value}{k k':Nat}{fk lk lk':K3}(H:RdI p h xs A c w f wr g k fk lk)(hC:Cen p w f)(hs:VL p.S h (xs.take k') fk lk' true)(hc:0<h->∀y∈xs.take k',(g y.r).isSome=true):RdI p h xs A c w f (((wr.setCell ⟨w.heap.size+1+1,5,none⟩ (.int .u8 lk'.1)).setCell ⟨w.heap.size+1+1,6,none⟩ (.int .u32 lk'.2.1)).setCell ⟨w.heap.size+1+1,7,none⟩ (.int .u32 lk'.2.2)) g k' fk lk':=
 H.set hC (QI.trans (QI.trans QI)) (qo (qo (qo H.rx 5 _) 6 _) 7 _) hs hc
theorem RdI.call8{p:CP}{h:Nat}{xs:List It}{A:OA}{c:Nat}{w wr w5 w6 W:World}{f g g':Int->Option Value}{k:Nat}{fk lk:K3}(H:RdI p h xs A c w f wr g k fk lk)(hC:Cen p w f)(hx:Ext wr w5)(hgr:vN g g')(hm:Zn w6 p.mb g')(hg:w5.grownBy w6 (some p.mb))(hn:News p.S w5 g g' w6){b:Nat}(hb:wr.heap.size<=b)(hb2:b<w5.heap.size)(h7:w6.grownBy W (some b)):RdI p h xs A c w f W g' k fk lk:=by
 have hl:=hC.low;have h2:w.heap.size+2<wr.heap.size:=(zG.1 H.rx).1;have zg:=hg.size;have H6:=(H.ext hC hx).call hC hgr hm hg hn;have hk:∀a,a≠b->a<w6.heap.size->W.heap[a]?=w6.heap[a]?:=λa h1 h2=>h7.block a h2 zA2;refine⟨(hk _ zO zO).trans H6.rn,(hk _ zO zO).trans H6.rr,(hk _ zO zO).trans H6.rx,H6.sp,H6.cl,H6.gr,hm.of_heap (hk _ zO zO),World.grownBy.andThen H6.gw h7 (λj e=>.inl (by cases e;omega)),λa v h1 h0=>?_⟩;rcases hga:g a with _|u
 ·exact(hn a v h1 hga).keep zO h7.size (λq h3 h4=>World.cell?_of_block (hk q.block zO h4)) (λ_ h=>h)
 ·have e:=hgr a u hga;rw[h1]at e;cases e;refine(H.nw a v hga h0).keep (zM _) (by have:=h7.size;omega) (λq h3 h4=>?_) hgr.some_;rw[World.cell?_of_block (hk q.block zO zO),World.cell?_of_block (hg.block q.block zO zA2),Below.cell hx (p:=q) h4]
theorem RdI.ret{p:CP}{h:Nat}{xs:List It}{A:OA}{c:Nat}{w wr W:World}{f g:Int->Option Value}{k:Nat}{fk lk:K3}{v:Value}(H:RdI p h xs A c w f wr g k fk lk)(hC:Cen p w f)(hg:wr.grownBy W (some (w.heap.size+1)))(hv:qfO p h A c xs v g):TQ p f (qfO p h A c xs) w (.returned v) W:=by
 have hl:=hC.low;have h2:w.heap.size+2<wr.heap.size:=(zG.1 H.rx).1;have hb:∀b,b≠w.heap.size+1->b<wr.heap.size->W.heap[b]?=wr.heap[b]?:=λb h1 h2=>hg.block b h2 zA2;exact⟨v,g,rfl,hv,H.gr,H.mp.of_heap (hb _ zO zO),World.grownBy.andThen H.gw hg (λj e=>.inl (by cases e;omega)),
  λa u h1 h0=>(H.nw a u h1 h0).keep zO hg.size (λq h3 h4=>World.cell?_of_block (hb q.block zO h4)) (λ_ h=>h)⟩
def Tx(S:Sto)(h:Nat)(x:It)(f l:K3)(b:Bool):Prop:=match jv S h x with|none=>b=false|some q=>b=true/\q=(f,l)
theorem qlh{S:Sto}{h:Nat}{xs:List It}{k:Nat}{f l f0 l0:K3}{b:Bool}(hk:k<xs.length)(ho:Tx S h xs[k] f l b)(hs:VL S h (xs.take k) f0 l0 true)(hb:b=false\/f≠qp xs[k]\/(0<k/\qV l0 f=false)):qz S h xs=none:=by
 refine qer (k:=k+1) ?_;rw[Jp hk];unfold Tx at ho;unfold jO;rcases hq:qz S h (xs.take k)with _|a
 ·rfl
 ·rcases hone:jv S h xs[k]with _|q
  ·rfl
  ·rw[hone]at ho;obtain⟨rfl,rfl⟩:=ho;simp only;rcases hb with hb|hb|⟨hb,hl⟩
   ·cases hb
   ·rw[if_neg hb]
   ·split
    ·rcases a with _|q0
     ·exact absurd hq (Zm hb zO)
     ·have:=hs.2 q0 hq;subst this;simp[hl]
    ·rfl
theorem round_ok{S:Sto}{h:Nat}{xs:List It}{k:Nat}{f l f0 l0:K3}(hk:k<xs.length)(ho:Tx S h xs[k] f l true)(hs:VL S h (xs.take k) f0 l0 true)(hf:f=qp xs[k])(hl:0<k->qV l0 f=true):VL S h (xs.take (k+1)) (if k=0 then f else f0) l true:=by
 unfold VL;rw[Jp hk];unfold Tx at ho;unfold jO;rcases hq:qz S h (xs.take k)with _|a
 ·have:=hs.1;rw[hq]at this;cases this
 ·rcases hone:jv S h xs[k]with _|q
  ·rw[hone]at ho;cases ho
  ·rw[hone]at ho;obtain⟨_,rfl⟩:=ho;simp only[if_pos hf];rcases Nat.eq_zero_or_pos k with rfl|h0
   ·have:a=none:=by rw[List.take_zero]at hq;cases hq;rfl
    subst this;exact⟨rfl,λq hq=>by cases hq;rfl⟩
   ·rcases a with _|q0
    ·exact absurd hq (Zm h0 zO)
    ·have:=hs.2 q0 hq;subst this;rw[if_neg zO];simp only[hl h0,if_true];exact⟨rfl,λq hq=>by cases hq;rfl⟩
theorem cen_now{p:CP}{W:World}{g:Int->Option Value}(hC:Cen p W g):∃b3 o3 c3,p.v3=.slice (some ⟨b3,o3,none⟩) 256 c3/\256<=c3/\c3<=maxLen:=by obtain⟨_,_,hl3,_⟩:=Qb hC.may;have hn:=hC.sto.now;obtain⟨A3,c3,e3,_⟩:=hC.sto.now;rw[e3]at hn;obtain⟨_,hc3,hm3,hA3⟩:=hn.at_;obtain⟨b3,o3,rfl,_⟩:=hA3 zO;rw[hl3]at e3 hc3;exact⟨b3,o3,c3,e3,hc3,hm3⟩
theorem qeM{p:CP}{W:World}{g:Int->Option Value}(hC:Cen p W g){b3 o3 c3:Nat}(h3:p.v3=.slice (some ⟨b3,o3,none⟩) 256 c3){a:Nat}(ha:a<256):W.cell? ⟨b3,o3+a,none⟩=some (.int .u8 ((p.S.now[a]?.getD 0).toNat:Int)):=by obtain⟨_,_,hl3,_⟩:=Qb hC.may;obtain⟨A',c',e,_,_,hr⟩:=hC.sto.now;rw[h3,Value.slice.injEq]at e;obtain⟨rfl,_,rfl⟩:=e;obtain⟨b',off',e,_,hc⟩:=hr.2 zO;simp only[Option.some.injEq,Addr.mk.injEq,and_true]at e;obtain⟨rfl,rfl⟩:=e;exact hc a _ (by rw[List.getElem?_map,zL zO];rfl)
theorem Gj{R:Ending->World->Prop}{a:Act}{W:World}{b:Nat}{lvl:Int}{A:OA}{n c:Nat}{f l:K3}{bo:Bool}(h4:a.tmps[4]?.getD undef=.pointer (some ⟨b,0,none⟩))(hd:a.defers=[])(hBT:W.heap[b]?=some (.cells (JA lvl A n c f l bo) 156 (0,0)))(hR:R (.returned (jN lvl A n c f l bo)) W):bodyPost prog Tryz.f161 R .ret a W:=by
 refine bodyPost_ret (v:=jN lvl A n c f l bo) ?_ hd hR;have k:=qa hBT;simp[results,results161,go_sem,h4,k]
theorem RdI.bad{p:CP}{h:Nat}{xs:List It}{A:OA}{c:Nat}{w wr:World}{f g:Int->Option Value}{k:Nat}{fk lk:K3}(H:RdI p h xs A c w f wr g k fk lk)(hC:Cen p w f)(hb:qz p.S h xs=none):TQ p f (qfO p h A c xs) w (.returned (jN h A xs.length c (0,0,0) (0,0,0) false)) (((((((((wr.setCell ⟨w.heap.size+1,0,none⟩ (.int .i64 h)).setCell ⟨w.heap.size+1,1,none⟩ (.slice A xs.length c)).setCell ⟨w.heap.size+1,2,none⟩ (.int .u8 0)).setCell ⟨w.heap.size+1,3,none⟩ (.int .u32 0)).setCell ⟨w.heap.size+1,4,none⟩ (.int .u32 0)).setCell ⟨w.heap.size+1,5,none⟩ (.int .u8 0)).setCell ⟨w.heap.size+1,6,none⟩ (.int .u32 0)).setCell ⟨w.heap.size+1,7,none⟩ (.int .u32 0)).setCell ⟨w.heap.size+1,8,none⟩ (.bool false)):=
 H.ret hC (KQ _ _ _ _ _ _ _ _ _) ⟨(0,0,0),(0,0,0),false,rfl,⟨by rw[hb];rfl,λq hq=>by rw[hb]at hq;cases hq⟩,λh=>by cases h⟩
set_option maxRecDepth 100000 in
theorem qdG(p:CP)(h:Nat)(HL:∀h':Nat,h=h'+1->qhO p (h':Int)):ReadC p h:=by
 intro xs A c w f hmay hxs hBC hC;have wQL:=hBC.its;obtain⟨-,hc1,hc2,hA⟩:=wQL.at_;have hlen:xs.length<=5:=by unfold Qj ZZ at hmay;simp at hmay;omega
 have wRO:h<=5:=by unfold Qj ZZ at hmay;simp at hmay;omega
 replace wRO:=zH wRO;have hHE:=hC.low;have HI:=zH wQL;have HXS:=zH hxs;have HC:=zH hC;have HLow:=zH hHE;clear hBC wQL hmay hxs hC hHE;go_enter func161,ntmps161;go_wp2;generalize hw1:(World.alloc (World.alloc _ _) _)=w1;have x1:Ext w w1:=by rw[<-hw1];exact((zN _ _).trans (zN _ _)).trans (zN _ _)
 have H1:RdI p h xs A c w f w1 f 0 (0,0,0) (0,0,0):=by
  refine⟨?_,?_,?_,⟨rfl,λp hp=>by cases hp⟩,λ_ y hy=>by simp at hy,vN.refl _,(HC.out.ext x1).map,ZD x1 _,λa v h1 h0=>by rw[h1]at h0;cases h0⟩
  ·rw[<-hw1];exact(zK _ _ _ zA2).trans ((zK _ _ _ zA3).trans (zI _ _ _ rfl))
  ·rw[<-hw1];exact(zK _ _ _ zA3).trans (zI _ _ _ zA3)
  ·rw[<-hw1];exact zI _ _ _ zA3
 clear hw1;replace H1:=zH H1;go_loopw [14] (λi wr=>∃(k:Nat)(g:Int->Option Value)(fk lk:K3),k<=xs.length/\i=.int .i64 (k:Int)/\RdI p h xs A c w f wr g k fk lk) (λi _=>xs.length-(intOf i).toNat)
 case atStart=>exact⟨0,f,_,_,zO,rfl,H1.out⟩
 case round=>
  obtain⟨k,g,fk,lk,hk,rfl,HR⟩:=hrel;clear H1 x1;have zr:=HR.gw.size;have HCr:=HR.cen HC.out;have hRV:=Jt HC.out.map HR.mp HR.gw;have rnr:=HR.rn;have rxr:=HR.rx;have rrr:=HR.rr;have z2:w.heap.size+2<wr.heap.size:=(zG.1 rxr).1;by_cases hlt:k<xs.length
  ·have hCB:=hlt;obtain⟨b,off,rfl,hb⟩:=hA zO;obtain⟨A',c',d0,d1,d2,d3,d4,-⟩:=HI.out.item k hCB;rw[<-hRV _ (by simpa using hb)]at d0 d1 d2 d3 d4;clear hRV;have hxr:=HXS.out xs[k] (List.getElem_mem hCB);obtain⟨b3,o3,c3,e3,hc3,hm3⟩:=cen_now HCr;have HSTEP:=zH (λf l b=>@qlh p.S h xs k f l fk lk b hCB);have HSTOK:=zH (λf l=>@round_ok p.S h xs k f l fk lk hCB);have HMEM:=zH (List.getElem_mem hCB);have HTK:=zH (List.take_succ_eq_append_getElem hCB);generalize xs[k]=x at*;obtain⟨⟨-,-,-,hr0,-⟩,-⟩:=hxr;obtain⟨wKP,wKQ⟩:=hr0;obtain⟨r,hr⟩:=Int.eq_ofNat_of_zero_le wKP;rw[hr]at d3 wKQ;have hr2:r<256:=zO;replace hr:=zH hr;have knr:=qa rnr;have kxr:=qa rxr;have hfN:=λW (hx:Ext wr W)=>qeM (HCr.ext hx) e3 hr2;generalize hnv:(p.S.now[r]?.getD 0).toNat=nv at*;replace hnv:=zH hnv;unfold maxLen at hm3;clear wKP wKQ;have hfN0:=hfN wr (Ext.refl _);replace hfN:=zH hfN;go_wp2_with fail;generalize hwa:(World.alloc _ _)=wa;have xa:Ext wr wa:=by rw[<-hwa];exact zN _ _
   have ra:wa.heap[wr.heap.size]?=some (.cells #[.int .u8 x.k,.int .u32 x.i,.int .u32 x.o,.int .i64 r,.slice A' x.val.length c'] 51 (0,0)):=by rw[<-hwa];exact zI _ _ _ rfl
   clear hwa d0 d1 d2 d3 d4 hfN0;have HCa:=HCr.ext xa;have hcb:=HCa.c2;rw[e3]at hcb;have gC:∀W,qj.r wa W->W.cell? ⟨p.cb,2,none⟩=some (.slice (some ⟨b3,o3,none⟩) 256 c3):=λW h=>by rw[qa (qb HCa.row h)];exact hcb
   have gN:∀W,qj.r wa W->W.cell? ⟨b3,o3+r,none⟩=some (.int .u8 (nv:Int)):=λW h=>hfN.out W (xa.trans h);have gI:∀W,qj.r wa W->∀i,W.cell? ⟨wr.heap.size,i,none⟩=#[.int .u8 x.k,.int .u32 x.i,.int .u32 x.o,.int .i64 r,.slice A' x.val.length c'][i]?:=λW h=>qa (qb ra h);clear hcb knr kxr hfN;obtain⟨is0,hi0⟩:∃is0:Bool,is0=decide (x.r=0\/0<nv):=⟨_,rfl⟩
   replace hi0:=zH hi0;have hr0:(((r:Int)==0)=true/\decide (r=0)=true/\is0=true)\/(((r:Int)==0)=false/\decide (r=0)=false/\is0=decide (0<nv)):=by
    rw[hi0.out,hr.out];rcases Nat.eq_zero_or_pos r with h0|h0
    ·subst h0;exact .inl ⟨zA1,zA1,zA3⟩
    ·exact .inr ⟨by rw[beq_eq_false_iff_ne];omega,decide_eq_false zO,by rw[decide_eq_decide];omega⟩
   refine qt zQ ?_;refine ZY (w:=wa) qj (qQ [(20,Jj wa.heap.size 156 (JA 0 none 0 0 (0,0,0) (0,0,0) false))]) [true,true,true,true,true,true,true,true,true,true,true,true,true,true,true,true,true,true,true,true,true] 1 zQ zQ zQ zQ zQ zQ ?st (Rel.drew _ _) ?walk
   case st=>exact qi (by simp only[List.forall_mem_cons];exact⟨λp=>Qo (jh _ _ _ p),λ_ h=>by cases h⟩)
   case walk=>
    intro K hK;dsimp only[qw];rcases hr0 with⟨hq1,hq2,hq3⟩|⟨hq1,hq2,hq3⟩
    all_goals
     replace hq3:=zH hq3;refine zB7 ?_;try (
      refine qd (.pointer (some ⟨b3,o3+r,none⟩)) zA0 zA0 (λW hW _=>⟨W,?_,Rel.refl _ W⟩) ?_
      ·go_simp;intro hge;exfalso;omega
      simp only[Act.put,qe,qc,qf,zA,zB,zC])
     refine zB7 ?_;refine qH (Jj wa.heap.size 156 (JA 0 none 0 0 (0,0,0) (0,0,0) false)) zA0 zA0 (λW hW _=>?_) (λ(p8:Nat)=>?_)
     ·refine Je ?_ (Below.size hW);go_simp
     simp only[Act.put,qe,qc,qf,zA,zB,zC];refine qD (hK _ _ λW hW hF=>?_);obtain⟨f8,hlo⟩:W.heap[p8]?=some (.cells (JA 0 none 0 0 (0,0,0) (0,0,0) false) 156 (0,0))/\wa.heap.size<=p8:=(hF 20).1;clear hF hK gC gN gI;have hW':Ext wa W:=hW;refine zB6 ?_;have k8:=qa f8;have h8:=qg f8;go_wp2;refine Qn ?_;have x5:Ext wa _:=VM hW' hlo (.int .i64 0) (.slice none 0 0) (.int .u8 x.k) (.int .u32 x.i) (.int .u32 x.o) (.int .u8 x.k) (.int .u32 x.i) (.int .u32 x.o) (.bool is0);have r8:=Ki f8 rfl (.int .i64 0) (.slice none 0 0) (.int .u8 x.k) (.int .u32 x.i) (.int .u32 x.o) (.int .u8 x.k) (.int .u32 x.i) (.int .u32 x.o) (.bool is0);rw[hq3.out]at x5 r8;generalize hw5:(World.setCell (World.setCell (World.setCell (World.setCell (World.setCell (World.setCell (World.setCell (World.setCell (World.setCell W _ _) _ _) _ _) _ _) _ _) _ _) _ _) _ _) _ _)=w5 at*;rw[<-hq3.out]at r8;clear hw5 k8 h8 f8 hW hW' hq1 hq2;have H5:=HR.ext HC.out (xa.trans x5);have r5:=qb ra x5;have z8:wr.heap.size<p8:=Nat.lt_of_lt_of_le (zG.1 ra).1 hlo;have z8':p8<w5.heap.size:=(zG.1 r8).1;have kn5:=qa H5.rn;rcases Nat.eq_zero_or_pos h with hz|hz
     case' inl=>
      have HO:Tx p.S h x (qp x) (qp x) is0:=by
       rw[hz];unfold Tx jv;rw[hi0.out,hr.out,Int.toNat_natCast,hnv.out];split
       ·rename_i hh;split at hh
        ·cases hh
        ·rename_i hn;exact decide_eq_false hn
       ·rename_i hh;split at hh
        ·rename_i hn;cases hh;exact⟨decide_eq_true hn,rfl⟩
        ·cases hh
      have hd3:¬0<h:=zO;obtain⟨g',H7,HCL⟩:∃g',RdI p h xs (some ⟨b,off,none⟩) c w f w5 g' k fk lk/\Hid (is0=true->0<h->(g' x.r).isSome=true):=⟨g,H5,zH λ_ h0=>absurd h0 hd3⟩
      replace r8:w5.heap[p8]?=some (.cells (JA 0 none 0 0 (qp x) (qp x) is0) 156 (0,0)):=r8;generalize hF1:qp x=F1 at r8 HO;obtain⟨L1,hL1⟩:∃L1,L1=F1:=⟨_,rfl⟩
      replace HO:Hid (Tx p.S h x F1 L1 is0):=zH (by rw[hL1];exact HO);replace r8:w5.heap[p8]?=some (.cells (JA 0 none 0 0 F1 L1 is0) 156 (0,0)):=by rw[hL1];exact r8
      replace⟨hz,H5,H7⟩:=zH3 hz H5 H7;generalize is0=B at r8 HO HCL;clear hi0 hq3 hF1 hL1;go_upto_region 8 with fail
     case' inr=>
      obtain⟨h',hh⟩:∃h',h=h'+1:=⟨h-1,zO⟩
      have HLc:=HL h' hh;rw[show(h':Int)=(h:Int)-1 by omega]at HLc;have hQU:wrap64 ((h:Int)-1)=(h:Int)-1:=IntWalk.wrap64_in _ (by have:=wRO.out;omega);replace hh:=zH hh;have ki5:=qa r5;go_wp2_with fail;refine(HLc r w5 g (H5.cen HC.out)).mono ?_;rintro e w6 ⟨v,g',rfl,⟨lvl,A9,n9,c9,F1,L1,rfl,hHD⟩,hgr,hm,hg,hn⟩;have wWP:=HLow.out;have C6:=(H5.cen HC.out).after hgr hm hg hn;have HO:Hid (Tx p.S h x F1 L1 (okL p.S (h-1) r)):=by
       refine zH ?_;rw[show(h:Int)-1=(h':Int)by have:=hh.out;omega]at hHD⊢;have hcl:okL p.S (h':Int) r=true->Va p.S h' r=some (F1,L1):=λhok=>qgk (C6.known _ _ (hHD hok)) hok;have hol:=qea p.S h' r;unfold Tx;rw[hh.out,vk,hr.out];rcases hls:Va p.S h' r with _|q
       ·rw[hls]at hol;exact hol
       ·rw[hls]at hol;have h1:=hcl hol;rw[hls]at h1;cases h1;exact⟨hol,rfl⟩
      have HCL:Hid (okL p.S (h-1) r=true->0<h->(g' x.r).isSome=true):=zH λhok _=>by rw[hr.out,hHD hok];rfl
      generalize okL p.S ((h:Int)-1) r=B at*;have b8:=(hg.block p8 z8' zA2).trans r8;have H7:=HR.call8 HC.out (xa.trans x5) hgr hm hg hn (b:=p8) zO z8' (KQ (.int .i64 lvl) (.slice A9 n9 c9) (.int .u8 F1.1) (.int .u32 F1.2.1) (.int .u32 F1.2.2) (.int .u8 L1.1) (.int .u32 L1.2.1) (.int .u32 L1.2.2) (.bool B));have r9:=Ki b8 rfl (.int .i64 lvl) (.slice A9 n9 c9) (.int .u8 F1.1) (.int .u32 F1.2.1) (.int .u32 F1.2.2) (.int .u8 L1.1) (.int .u32 L1.2.1) (.int .u32 L1.2.2) (.bool B);have g9:=KQ (w:=w6) (b:=p8) (.int .i64 lvl) (.slice A9 n9 c9) (.int .u8 F1.1) (.int .u32 F1.2.1) (.int .u32 F1.2.2) (.int .u8 L1.1) (.int .u32 L1.2.1) (.int .u32 L1.2.2) (.bool B);have r59:=(g9.block wr.heap.size (by have:=hg.size;omega) zA2).trans ((hg.block wr.heap.size zO zA2).trans r5);have z9:p8<(World.setCell (World.setCell (World.setCell (World.setCell (World.setCell (World.setCell (World.setCell (World.setCell (World.setCell w6 _ _) _ _) _ _) _ _) _ _) _ _) _ _) _ _) _ _).heap.size:=(zG.1 r9).1;have f8:=qg b8;have kb8:=qa b8;clear r8 r5 hHD HLc ki5;replace⟨hz,H5,H7,C6,HLow⟩:=zH5 hz H5 H7 C6 HLow;clear hq3 hi0;go_upto_region 8 with fail;generalize hw7:(World.setCell (World.setCell (World.setCell (World.setCell (World.setCell (World.setCell (World.setCell (World.setCell (World.setCell w6 _ _) _ _) _ _) _ _) _ _) _ _) _ _) _ _) _ _)=w7 at*;clear hw7 b8 f8 kb8 hgr hm hg hn g9 z8' wWP;have r8:=r9;have r5:=r59;clear r9 r59 z9
     all_goals
      replace⟨HR,HCr,HCa,e3,hnv⟩:=zH5 HR HCr HCa e3 hnv;clear rxr rrr rnr hb hA hlt hk hc3 hm3 hr2 zr xa ra x5 hlo kn5;have HBD:=zH (λhb=>H7.out.bad HC.out (HSTEP.out _ _ _ HO.out H7.out.sp hb));have kn7:=qa H7.out.rn;have kx7:=qa H7.out.rx;have fx7:=qg H7.out.rx;have kr7:=qa H7.out.rr;have fr7:=qg H7.out.rr;have k8:=qa r8;have k5:=qa r5;have hp1:p8≠w.heap.size+2:=zO;have hp2:w.heap.size+2≠p8:=zO;have hp3:p8≠w.heap.size+1+1:=zO;have hp4:w.heap.size+1+1≠p8:=zO;rcases hb0:B with _|_
      ·rw[hb0]at k8;have HB:=HBD.out (.inl hb0);replace HB:=zH HB;clear HBD;go_wp2;exact Gj (b:=w.heap.size+1) rfl rfl (Ki H7.out.rr rfl _ _ _ _ _ _ _ _ _) HB.out
      ·rw[hb0]at k8;have HO1:Tx p.S h x F1 L1 true:=by rw[<-hb0];exact HO.out
       by_cases hF:F1=qp x
       ·subst hF;have HN0:=zH (HSTOK.out _ _ HO1 H7.out.sp rfl);have hcl:0<h->∀y∈xs.take (k+1),(g' y.r).isSome=true:=λh0 y hy=>by
         rw[HTK.out,List.mem_append,List.mem_singleton]at hy;rcases hy with hy|rfl
         ·exact H7.out.cl h0 y hy
         ·exact HCL.out hb0 h0
        replace⟨hcl,HO1,hb0⟩:=zH3 hcl HO1 hb0;rcases Nat.eq_zero_or_pos k with hk0|hk0
        ·have hk1:decide ((k:Int)>0)=false:=decide_eq_false zO;have hk2:((k:Int)==0)=true:=by rw[beq_iff_eq];omega
         have hk4:decide (0<k)=false:=decide_eq_false zO;have HN:=HN0.out (λh=>zO);rw[if_pos hk0]at HN;replace⟨HN,hk0⟩:=zH2 HN hk0;clear HBD HN0;have HR9:=H7.out.set6 HC.out HN.out hcl.out;dsimp only[qp]at HR9;replace HR9:=zH HR9;go_wp2_with fail;refine⟨⟨k+1,g',(x.k,x.i,x.o),L1,hCB,rfl,HR9.out⟩,?_⟩;simp[intOf];omega
        ·have hk1:decide ((k:Int)>0)=true:=decide_eq_true zO;have hk2:((k:Int)==0)=false:=by rw[beq_eq_false_iff_ne];omega
         have hk4:decide (0<k)=true:=decide_eq_true hk0;have hkn:¬k=0:=zO;have hkz:=zH hk0;clear hk0 hkn;go_wp2_with fail;refine(Vy lk.1 lk.2.1 lk.2.2 x.k x.i x.o _).mono ?_;rintro e wl ⟨rfl,hB⟩;have H8:=H7.out.ext HC.out hB;have HS8:=zH (HSTEP.out _ _ _ HO1.out H8.sp);have kn8:=qa H8.rn;have kx8:=qa H8.rx;have fx8:=qg H8.rx;have kr8:=qa H8.rr;have fr8:=qg H8.rr;have r88:=qb r8 hB;rw[hb0.out]at r88;have k88:=qa r88;clear kn7 kx7 fx7 kr7 fr7 k8 k5 hB r8 r5 HBD;replace H8:=zH H8;rcases hls:JD lk.1 lk.2.1 lk.2.2 x.k x.i x.o with _|_
         ·have HB:=zH (H8.out.bad HC.out (HS8.out (.inr (.inr ⟨hkz.out,hls⟩))));go_wp2;exact Gj (b:=w.heap.size+1) rfl rfl (Ki H8.out.rr rfl _ _ _ _ _ _ _ _ _) HB.out
         ·have HN:=HN0.out (λ_=>hls);rw[if_neg (by have:=hkz.out;omega)]at HN;replace HN:=zH HN;clear HN0;have HR9:=zH (H8.out.set3 HC.out HN.out hcl.out);go_wp2_with fail;refine⟨⟨k+1,g',fk,L1,hCB,rfl,HR9.out⟩,?_⟩;simp[intOf];omega
       ·have HB:=HBD.out (.inr (.inl hF));replace HB:=zH HB;clear HBD;replace hb0:=zH hb0;go_wp2_with fail;all_goals first
         |exact absurd (Prod.ext ‹F1.1=x.k› (Prod.ext ‹F1.2.1=x.i› ‹F1.2.2=x.o›)) hF
         |exact Gj (b:=w.heap.size+1) rfl rfl (Ki H7.out.rr rfl _ _ _ _ _ _ _ _ _) HB.out
  ·have hke:k=xs.length:=zO;have HQ:qfO p h A c xs (jN h A xs.length c fk lk true) g:=by
    refine⟨fk,lk,true,rfl,?_,λ_ h0 y hy=>HR.cl h0 y (by rw[hke,List.take_length];exact hy)⟩;have:=HR.sp
    rwa [hke,List.take_length]at this
   have HB:=zH (HR.ret HC.out (KQ (.int .i64 h) (.slice A xs.length c) (.int .u8 fk.1) (.int .u32 fk.2.1) (.int .u32 fk.2.2) (.int .u8 lk.1) (.int .u32 lk.2.1) (.int .u32 lk.2.2) (.bool true)) HQ);have kx:=qa rxr;have kr:=qa rrr;have fr:=qg rrr;have rr:=zH rrr;replace⟨HCr,HR,HQ,hke⟩:=zH4 HCr HR HQ hke;clear hRV rxr rnr rrr zr;go_wp2;exact Gj (b:=w.heap.size+1) rfl rfl (Ki rr.out rfl _ _ _ _ _ _ _ _ _) HB.out
theorem qdF(p:CP):∀h:Nat,h<=5->ReadC p h
 |0,_=>qdG p 0 λ_ e=>zO
 |h+1,hh=>qdG p (h+1) λh' e=>by
  have e':h=h':=zO;subst e';exact qdW p (h:Int) (.inr zO) λn hn hL=>by
   have e':n=h:=by have:=hL zO;omega
   subst e';exact qdF p n zO
theorem qbS(p:CP):qhO p (-1):=qdW p (-1) (.inl rfl) λh hh _=>qdF p h hh
theorem field_is(lvl:Int)(A:OA)(n c:Nat)(f l:K3)(b:Bool)(w:World):(Instr.field 156 (jN lvl A n c f l b) 3).run prog w=.ok (.bool b) w:=zQ
theorem qjE(lvl:Int)(A:OA)(n c:Nat)(f l:K3)(b:Bool)(w:World):(Instr.field 156 (jN lvl A n c f l b) 0).run prog w=.ok (jL lvl A n c) w:=zQ
structure Ar(ca:Array Value)(refs nodes:Nat->Nat)(vv:Value):Prop where
 size:ca.size=519
 ref:∀a,a<256->ca[6+a]?=some (.int .i64 (refs a:Int))
 node:∀a,a<256->ca[262+a]?=some (.int .i64 (nodes a:Int))
 vol:ca[518]?=some vv
def vW(f:Nat->Nat)(a:Nat):Nat->Nat:=λb=>f b+if b=a then 1 else 0
theorem Ar.addRef{ca:Array Value}{refs nodes:Nat->Nat}{vv:Value}(h:Ar ca refs nodes vv){a:Nat}(ha:a<256):Ar (ca.setIfInBounds (6+a) (.int .i64 ((refs a:Int)+1))) (vW refs a) nodes vv:=by
 have hs:=h.size;refine⟨by simp[hs],λb hb=>?_,λb hb=>?_,?_⟩
 ·rw[Array.getElem?_setIfInBounds];unfold vW;by_cases e:b=a
  ·subst e;rw[if_pos rfl,if_pos zO,if_pos rfl];simp
  ·rw[if_neg zO,if_neg e,h.ref b hb];simp
 ·rw[Array.getElem?_setIfInBounds,if_neg zO,h.node b hb]
 ·rw[Array.getElem?_setIfInBounds,if_neg zO,h.vol]
theorem Ar.addNode{ca:Array Value}{refs nodes:Nat->Nat}{vv:Value}(h:Ar ca refs nodes vv){a:Nat}(ha:a<256):Ar (ca.setIfInBounds (262+a) (.int .i64 ((nodes a:Int)+1))) refs (vW nodes a) vv:=by
 have hs:=h.size;refine⟨by simp[hs],λb hb=>?_,λb hb=>?_,?_⟩
 ·rw[Array.getElem?_setIfInBounds,if_neg zO,h.ref b hb]
 ·rw[Array.getElem?_setIfInBounds];unfold vW;by_cases e:b=a
  ·subst e;rw[if_pos rfl,if_pos zO,if_pos rfl];simp
  ·rw[if_neg zO,if_neg e,h.node b hb];simp
 ·rw[Array.getElem?_setIfInBounds,if_neg zO,h.vol]
theorem qfx{ca:Array Value}{k i:Nat}{v:Value}(hk:6<=k)(hi:i<6):(ca.setIfInBounds k v)[i]?=ca[i]?:=by rw[Array.getElem?_setIfInBounds,if_neg zO]
def vA(nodes:Nat->Nat):Nat->Bool:=λa=>decide (0<nodes a)
theorem KR{nodes:Nat->Nat}{a:Nat}:vA (vW nodes a)=vz (vA nodes) a:=by
 funext b;unfold vA vW vz;by_cases e:b=a
 ·rw[if_pos e,if_pos e];simp
 ·rw[if_neg e,if_neg e];rfl
theorem KS{nodes:Nat->Nat}{a:Nat}(h:0<nodes a):vA (vW nodes a)=vA nodes:=by
 funext b;unfold vA vW;by_cases e:b=a
 ·subst e;rw[if_pos rfl,decide_eq_true h,decide_eq_true zO]
 ·rw[if_neg e];rfl
def Gz(S:Sto)(f:Int->Option Value)(R:List Nat):Prop:=∀a∈R,jT S a/\(f (a:Int)).isSome=true
structure Qz(S:Sto)(R:List Nat)(refs nodes:Nat->Nat):Prop where
 mkd:Jy (Zh S) (QO S) R (vA nodes) refs
 few:∀a,nodes a+6*vG (vA nodes) 256<=1536+R.length
theorem Gz.reach{S:Sto}{lo:Nat}{w:World}{f:Int->Option Value}{R:List Nat}(hR:Gz S f R)(hk:qdA S lo w f){a:Nat}(h:Rch (Zh S) (· ∈ R) a):jT S a/\(f (a:Int)).isSome=true:=
 h.closed (M:=λa=>jT S a/\(f (a:Int)).isSome=true) (λa ha=>hR a ha) λa ha b hb=>⟨qdV ha.1 hb,qkI hk ha.1 ha.2 hb⟩
theorem qhg{S:Sto}{R:List Nat}{M:Nat->Bool}{refs:Nat->Nat}{s:List Nat}(h:Vs (Zh S) (QO S) R M refs s)(b:Nat):refs b<=R.length+1280:=by rw[h.sum];have h1:=List.count_le_length (a:=b) (l:=R);have h2:=qjU (rs:=QO S) (M:=M) (b:=b) (k:=5) 256 λa _ _=>qhh;omega
structure Wk(S:Sto)(R:List Nat)(refs nodes:Nat->Nat)(s:List Nat):Prop where
 wk:Vs (Zh S) (QO S) R (vA nodes) refs s
 few:∀a,nodes a+6*vG (vA nodes) 256+s.length<=1536+R.length
theorem Qz.start{S:Sto}{R:List Nat}{refs nodes:Nat->Nat}(h:Qz S R refs nodes)(a:Nat):Wk S (R++[a]) (vW refs a) nodes [a]:=
 ⟨(Jy.walk.1 h.mkd).add a λ_=>rfl,λb=>by have:=h.few b;simp;omega⟩
theorem Wk.done{S:Sto}{R:List Nat}{refs nodes:Nat->Nat}(h:Wk S R refs nodes []):Qz S R refs nodes:=
 ⟨Jy.walk.2 h.wk,λa=>by have:=h.few a;simpa using this⟩
theorem Wk.again{S:Sto}{R:List Nat}{refs nodes:Nat->Nat}{s:List Nat}{a:Nat}(h:Wk S R refs nodes (s++[a]))(ha:0<nodes a):Wk S R refs (vW nodes a) s:=by
 refine⟨?_,λb=>?_⟩
 ·rw[KS ha];exact h.wk.again (decide_eq_true ha)
 ·rw[KS ha];have:=h.few b;rw[List.length_append,List.length_singleton]at this;unfold vW;split<;>omega
def Ya(xs:List It)(k:Nat):List Nat:=((xs.take k).map λy=>y.r.toNat).filter λr=>r != 0
theorem qcw{S:Sto}{a:Nat}{lvl:Int}{xs:List It}(h:qk S a=some (lvl,xs)):Ya xs xs.length=QO S a:=by unfold Ya QO;rw[List.take_length,h]
theorem Tm{xs:List It}{k:Nat}(hk:k<xs.length):Ya xs (k+1)=if xs[k].r.toNat=0 then Ya xs k else Ya xs k++[xs[k].r.toNat]:=by
 unfold Ya;rw[List.take_succ_eq_append_getElem hk,List.map_append,List.filter_append];by_cases h:xs[k].r.toNat=0
 ·rw[if_pos h];simp[h]
 ·rw[if_neg h];simp[h]
theorem qcx{xs:List It}{k:Nat}:(Ya xs k).length<=k:=by unfold Ya;refine Nat.le_trans (List.length_filter_le _ _) ?_;rw[List.length_map,List.length_take];omega
theorem Wk.new{S:Sto}{R:List Nat}{refs nodes refs':Nat->Nat}{s:List Nat}{a lvl:Nat}{xs:List It}(h:Wk S R refs nodes (s++[a]))(ha:nodes a=0)(hl:a<256)(hn:qk S a=some ((lvl:Int),xs))(hr:∀b,refs' b=refs b+(Ya xs xs.length).count b):Wk S R refs' (vW nodes a) (s++if 0<lvl then Ya xs xs.length else []):=by
 have hm:vA nodes a=false:=decide_eq_false zO;have hk:Zh S a=if 0<lvl then Ya xs xs.length else []:=by
  unfold Zh;rw[hn,qcw hn];simp only;by_cases h0:0<lvl
  ·rw[if_pos h0,if_pos zO]
  ·rw[if_neg h0,if_neg zO]
 rw[<-hk];refine⟨?_,λb=>?_⟩
 ·rw[KR];exact h.wk.new hm hl λb=>by rw[hr,qcw hn]
 ·rw[KR];have h1:=h.few b;have h2:=Uq hm 256;rw[if_pos hl]at h2;rw[List.length_append,List.length_singleton]at h1;have h3:(Zh S a).length<=5:=by
   rw[hk];split
   ·rw[qcw hn];exact qhh
   ·simp
  rw[List.length_append];unfold vW;split<;>omega
def leftW(w:World)(cb:Nat):Nat:=vG (λa=>match w.cell? ⟨cb,262+a,none⟩ with|some (.int _ n)=>decide (0<n)|_=>false) 256
theorem UQ{w:World}{cb:Nat}{ca:Array Value}{ty:TypeId}{refs nodes:Nat->Nat}{vv:Value}(hr:w.heap[cb]?=some (.cells ca ty (0,0)))(h:Ar ca refs nodes vv):leftW w cb=vG (vA nodes) 256:=by unfold leftW;refine qaT _ λa ha=>?_;rw[qa hr,h.node a ha];unfold vA;simp
def lenV:Value->Nat
 |.slice _ n _=>n
 |_=>0
structure TrI(p:CP)(B:Nat)(w1 wr:World)(vv:Value)(ca:Array Value)(refs nodes:Nat->Nat):Prop where
 off:Off B p.cb w1 wr
 row:wr.heap[p.cb]?=some (.cells ca 96 (0,0))
 ar:Ar ca refs nodes vv
 low:∀i,i<6->ca[i]?=p.ca[i]?
 lt:p.cb<B
theorem TrI.grown{p:CP}{B:Nat}{w1 wr W:World}{vv:Value}{ca:Array Value}{refs nodes:Nat->Nat}(h:TrI p B w1 wr vv ca refs nodes){row:Option Nat}(hg:wr.grownBy W row)(hr:∀g,row=some g->B<=g):TrI p B w1 W vv ca refs nodes:=
 ⟨h.off.grown hg λg e=>.inr (hr g e),(hg.block _ (Nat.lt_of_lt_of_le h.lt h.off.size) λe=>by have:=hr _ e.symm;have:=h.lt;omega).trans h.row,h.ar,h.low,h.lt⟩
theorem TrI.ext{p:CP}{B:Nat}{w1 wr W:World}{vv:Value}{ca:Array Value}{refs nodes:Nat->Nat}(h:TrI p B w1 wr vv ca refs nodes)(hx:Ext wr W):TrI p B w1 W vv ca refs nodes:=h.grown (ZD hx none) λg e=>by cases e
theorem TrI.addRef{p:CP}{B:Nat}{w1 wr:World}{vv:Value}{ca:Array Value}{refs nodes:Nat->Nat}(h:TrI p B w1 wr vv ca refs nodes){a:Nat}(ha:a<256):TrI p B w1 (wr.setCell ⟨p.cb,6+a,none⟩ (.int .i64 ((refs a:Int)+1))) vv (ca.setIfInBounds (6+a) (.int .i64 ((refs a:Int)+1))) (vW refs a) nodes:=
 ⟨h.off.setCell (p:=⟨p.cb,6+a,none⟩) (.inl rfl) _,qo h.row _ _,h.ar.addRef ha,λi hi=>(qfx zO hi).trans (h.low i hi),h.lt⟩
theorem TrI.addNode{p:CP}{B:Nat}{w1 wr:World}{vv:Value}{ca:Array Value}{refs nodes:Nat->Nat}(h:TrI p B w1 wr vv ca refs nodes){a:Nat}(ha:a<256):TrI p B w1 (wr.setCell ⟨p.cb,262+a,none⟩ (.int .i64 ((nodes a:Int)+1))) vv (ca.setIfInBounds (262+a) (.int .i64 ((nodes a:Int)+1))) refs (vW nodes a):=
 ⟨h.off.setCell (p:=⟨p.cb,262+a,none⟩) (.inl rfl) _,qo h.row _ _,h.ar.addNode ha,λi hi=>(qfx zO hi).trans (h.low i hi),h.lt⟩
theorem TrI.cen{p:CP}{w1 wr:World}{vv:Value}{ca:Array Value}{refs nodes:Nat->Nat}{g:Int->Option Value}(h:TrI p w1.heap.size w1 wr vv ca refs nodes)(hC:Cen p w1 g):Cen (p.put ca) wr g:=hC.put rfl h.off h.row h.low
theorem TrI.its{p:CP}{w1 wr:World}{vv v:Value}{ca:Array Value}{refs nodes:Nat->Nat}{g:Int->Option Value}{xs:List It}(h:TrI p w1.heap.size w1 wr vv ca refs nodes)(hC:Cen p w1 g)(hi:ZB p.lo w1 v xs):ZB p.lo wr v xs:=
 hi.keep h.off.size λq h1 h2=>h.off.cell h2 (by have:=hC.low;omega)
def ZV(lvl:Nat)(xs:List It)(k:Nat):List Nat:=if 0<lvl then Ya xs k else []
theorem qaM(lvl:Nat)(xs:List It):ZV lvl xs 0=[]:=by unfold ZV Ya;simp
theorem qhe{lvl:Nat}{xs:List It}{k:Nat}(hk:k<xs.length)(h:xs[k].r.toNat=0\/lvl=0):ZV lvl xs (k+1)=ZV lvl xs k:=by
 unfold ZV;by_cases h0:0<lvl
 ·rw[if_pos h0,if_pos h0,Tm hk,if_pos zO]
 ·rw[if_neg h0,if_neg h0]
theorem qhd{lvl:Nat}{xs:List It}{k:Nat}(hk:k<xs.length)(h:¬xs[k].r.toNat=0)(hl:0<lvl):ZV lvl xs (k+1)=ZV lvl xs k++[xs[k].r.toNat]:=by unfold ZV;rw[if_pos hl,if_pos hl,Tm hk,if_neg h]
theorem qlk{xs:List It}{k:Nat}{rf rf':Nat->Nat}(hk:k<xs.length)(h:xs[k].r.toNat=0)(hr:∀b,rf' b=rf b+(Ya xs k).count b):∀b,rf' b=rf b+(Ya xs (k+1)).count b:=by intro b;rw[hr,Tm hk,if_pos h]
theorem qlj{xs:List It}{k:Nat}{rf rf':Nat->Nat}(hk:k<xs.length)(h:¬xs[k].r.toNat=0)(hr:∀b,rf' b=rf b+(Ya xs k).count b):∀b,vW rf' xs[k].r.toNat b=rf b+(Ya xs (k+1)).count b:=by
 intro b;rw[Tm hk,if_neg h,List.count_append,<-Nat.add_assoc,<-hr];unfold vW;rw[List.count_singleton];by_cases e:b=xs[k].r.toNat
 ·rw[if_pos e,if_pos (by simp[e])]
 ·rw[if_neg e,if_neg zA2]
theorem qll(xs:List It):Ya xs 0=[]:=by unfold Ya;simp
def XC(s:List Nat):List Value:=s.map λ(a:Nat)=>Value.int .i64 (a:Int)
theorem Th(s:List Nat):(XC s).length=s.length:=by simp[XC]
theorem qbM(s:List Nat)(a:Nat):XC (s++[a])=XC s++[Value.int .i64 (a:Int)]:=by simp[XC]
section
variable {P:Program} (w:World) {ops:Array Oper} {rest:List Oper} {o:Oper} {a:Act} {Q:Exit->Act->World->Prop}
theorem XW{mb:Nat}{f:Int->Option Value}(h:Zn w mb f)(t k e:TypeId)(ht:P.underlying t=some (.map k e))(hk:P.underlying k=some (.int .i64)){a:Int}{v:Value}(hf:f a=some v):(Instr.lookup t (.map (some mb)) (.int .i64 a) false).run P w=.ok v w:=by
 obtain⟨es,clock,hb,hks,hfa⟩:=h;have h0:=hfa a;rw[hf]at h0;rcases Kz a es.toList 0 hks with⟨h1,h2⟩|⟨j,e2,h1,h2,h3,h4,_⟩
 ·unfold Xc at h0;rw[h2]at h0;cases h0
 ·unfold Xc at h0;rw[h3]at h0;simp only[Option.map_some,Option.some.injEq]at h0;simp[Instr.lookup,run_underlying ht,MapKept.run_getObj_map hb,JI hk,vC hk h2,h0,Result.andThen]
theorem Gw(hg:o.guard=none)(m x:Operand)(t:TypeId)(hop:o.op=Op.lookup t m x false){k e:TypeId}(ht:P.underlying t=some (.map k e))(hk:P.underlying k=some (.int .i64)){mb:Nat}{f:Int->Option Value}{r:Int}{v:Value}(hm:a.eval m=.map (some mb))(hx:a.eval x=.int .i64 r)(h:Zn w mb f)(hf:f r=some v)(hK:wpList P ops Q rest (a.put o.dst v) w):wpList P ops Q (o::rest) a w:=by
 refine wpList_plain hg λK' hK'=>?_;unfold Oper.wp;simp[execOp,hop,hm,hx,XW w h t k e ht hk hf,Result.andThen];exact hK' _ _ hK
end
end Go.Proofs.YtmeadnlmepcmbaaGreat
