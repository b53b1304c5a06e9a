/- Texts Learn, CRead, CRead2, CLevels, joined. -/
import Derived.Test.YtpbniokljofedaaGreatZG08
set_option linter.unusedSimpArgs false
set_option linter.unusedVariables false
set_option maxHeartbeats 8000000
open Go.Proofs.Tryz
namespace Go.Proofs.YtpbniokljofedaaGreat
open Go.RowKit
theorem Tryz.info_span:(Tryz.prog.info? 135).map (fun i=>(i.zero,i.size,i.bytes))=some (some (jt 0 none 0 0 (0,0,0) (0,0,0) false),9,64):=zQ
theorem qkM (w:World):(zeroValue 135).run prog w=.ok (jt 0 none 0 0 (0,0,0) (0,0,0) false) w:=by obtain⟨i0,hi,ag,_,_⟩:=info_parts Tryz.info_span;simp[zeroValue,typeInfo,hi,ag]
theorem set9 {cs:Array Value} (hs:cs.size=9) (x0 x1 x2 x3 x4 x5 x6 x7 x8:Value) : ((((((((cs.setIfInBounds 0 x0).setIfInBounds 1 x1).setIfInBounds 2 x2).setIfInBounds 3 x3).setIfInBounds 4 x4).setIfInBounds 5 x5).setIfInBounds 6 x6).setIfInBounds 7 x7).setIfInBounds 8 x8=#[x0,x1,x2,x3,x4,x5,x6,x7,x8]:=by
 apply Array.ext_getElem?;intro j;by_cases hj:j<9
 ·have:j=0\/j=1\/j=2\/j=3\/j=4\/j=5\/j=6\/j=7\/j=8:=zO;rcases this with rfl|rfl|rfl|rfl|rfl|rfl|rfl|rfl|rfl <;> simp[hs]
 ·rw[Array.getElem?_eq_none zA1,Array.getElem?_eq_none zA1]
theorem VM {w:World} {b:Nat} {ty:TypeId} {cs:Array Value} (h:w.heap[b]?=some (.cells cs ty (0,0))) (hs:cs.size=9) (x0 x1 x2 x3 x4 x5 x6 x7 x8:Value) : (((((((((w.setCell ⟨b,0,none⟩ x0).setCell ⟨b,1,none⟩ x1).setCell ⟨b,2,none⟩ x2).setCell ⟨b,3,none⟩ x3).setCell ⟨b,4,none⟩ x4).setCell ⟨b,5,none⟩ x5).setCell ⟨b,6,none⟩ x6).setCell ⟨b,7,none⟩ x7).setCell ⟨b,8,none⟩ x8).heap[b]?=some (.cells #[x0,x1,x2,x3,x4,x5,x6,x7,x8] ty (0,0)):=by
 have:=qi (qi (qi (qi (qi (qi (qi (qi (qi h 0 x0) 1 x1) 2 x2) 3 x3) 4 x4) 5 x5) 6 x6) 7 x7) 8 x8;rw[this,set9 hs]
theorem vZ {w0 w:World} {B b:Nat} (h:Below B w0 w) (hb:B<=b) (x0 x1 x2 x3 x4 x5 x6 x7 x8:Value):Below B w0 (((((((((w.setCell ⟨b,0,none⟩ x0).setCell ⟨b,1,none⟩ x1).setCell ⟨b,2,none⟩ x2).setCell ⟨b,3,none⟩ x3).setCell ⟨b,4,none⟩ x4).setCell ⟨b,5,none⟩ x5).setCell ⟨b,6,none⟩ x6).setCell ⟨b,7,none⟩ x7).setCell ⟨b,8,none⟩ x8):=
 Below.setCell (Below.setCell (Below.setCell (Below.setCell (Below.setCell (Below.setCell (Below.setCell (Below.setCell (Below.setCell h (p:=⟨b,0,none⟩) hb _) (p:=⟨b,1,none⟩) hb _) (p:=⟨b,2,none⟩) hb _) (p:=⟨b,3,none⟩) hb _) (p:=⟨b,4,none⟩) hb _) (p:=⟨b,5,none⟩) hb _) (p:=⟨b,6,none⟩) hb _) (p:=⟨b,7,none⟩) hb _) (p:=⟨b,8,none⟩) hb _
theorem Ka {w:World} {b:Nat} (x0 x1 x2 x3 x4 x5 x6 x7 x8:Value):w.grownBy (((((((((w.setCell ⟨b,0,none⟩ x0).setCell ⟨b,1,none⟩ x1).setCell ⟨b,2,none⟩ x2).setCell ⟨b,3,none⟩ x3).setCell ⟨b,4,none⟩ x4).setCell ⟨b,5,none⟩ x5).setCell ⟨b,6,none⟩ x6).setCell ⟨b,7,none⟩ x7).setCell ⟨b,8,none⟩ x8) (some b):=
 QB.trans (QB.trans (QB.trans (QB.trans (QB.trans (QB.trans (QB.trans (QB.trans QB)))))))
theorem Ga {p:CP} {f g:Int->Option Value} {φ:Value->(Int->Option Value)->Prop} {w w5 w6 w7 w7' w8 W:World} {a:Nat} {lvl:Nat} {xs:List It} {A:Option Addr} {c:Nat} {fk lk:K3} {b:Bool} {u:Value} (hfa:f a=none) (hC:Cen p w f) (h5:Ext w w5) (hlt:w.heap.size<w5.heap.size) (bM:JY f g) (pU:Ze w6 p.mb g) (hg6:w5.grownBy w6 (some p.mb)) (hn:News p.S w5 f g w6) (sW:w6.grownBy w7 (some w.heap.size)) (h7:Ext w7 w7') (hm7:Ze w7' p.mb g) (h78:w7'.grownBy w8 (some p.mb)) (wJ:Ze w8 p.mb (fun r=>if r=(a:Int) then some (jt lvl A xs.length c fk lk b) else g r)) (h8W:w8.grownBy W (some w.heap.size)) (ha:8<=a) (aj:a<256) (hnode:qu p.S a=some ((lvl:Int),xs)) (aJ:ZE (w.heap.size+1) w5 (.slice A xs.length c) xs) (aN:vY p.S lvl xs fk lk b) (ai:b=true->0<lvl->∀ y∈xs,(g y.r).isSome=true) (hφ:φ u (fun r=>if r=(a:Int) then some (jt lvl A xs.length c fk lk b) else g r)):XZ p f φ w (.returned u) W:=by
 have hmb:p.mb<w.heap.size:=by have:=hC.low;omega
 have hC5:=hC.ext h5;have z6:=hg6.size;have z7:=sW.size;have z7':=h7.size;have z8:=h78.size;have zW:=h8W.size;have hmW:Ze W p.mb _:=wJ.of_heap (h8W.block _ zO zA1);refine qjY (w5:=w5) (w6:=w6) hfa h5 hlt bM hg6 hn hmW ?_ zO (fun q h1 h2=>?_) ha aj hnode ?_ aN ai hφ
 ·refine World.grownBy.andThen (World.grownBy.andThen (World.grownBy.andThen (World.grownBy.andThen (World.grownBy.andThen (ZI h5 (some p.mb)) hg6 (fun j e=>.inr (by rw[<-e]))) sW (fun j e=>.inl (by cases e;omega))) (ZI h7 none) (fun j e=>by cases e)) h78 (fun j e=>.inr (by rw[<-e]))) h8W (fun j e=>.inl (by cases e;omega))
 ·have aG:some q.block≠some w.heap.size:=zA1;rw[World.cell?_of_block (h8W.block q.block zO aG),jX hm7 wJ h78 q zO,Below.cell h7 (p:=q) zO,World.cell?_of_block (sW.block q.block zO aG)]
 ·exact aJ.keep hg6.size (fun q _ h2=>jX hC5.map pU hg6 q h2)
abbrev qdS:Value:=jt 0 none 0 0 (0,0,0) (0,0,0) false
theorem jW {R:Ending->World->Prop} {a:Act} {W:World} {b:Nat} {lvl:Int} {A:Option Addr} {n c:Nat} {f l:K3} {bo:Bool} (h6:a.tmps[6]?.getD undef=.pointer (some ⟨b,0,none⟩)) (hd:a.defers=[]) (aF:W.heap[b]?=some (.cells (Je lvl A n c f l bo) 135 (0,0))) (hR:R (.returned (jt lvl A n c f l bo)) W):bodyPost prog Tryz.f84 R .ret a W:=by
 refine bodyPost_ret (v:=jt lvl A n c f l bo) ?_ hd hR;have k:=qa aF;simp[results,results84,go_sem,h6,k]
theorem cen_node {p:CP} {W:World} {g:Int->Option Value} {a:Nat} (hC:Cen p W g) (ha:8<=a) (aj:a<256):Calls prog 67 #[.pointer (some ⟨p.bb,0,none⟩),.int .i64 (a:Int)] W (Za (qcB W.heap.size (qu p.S a)) W):=by
 obtain⟨_,A1,c1,e1,_⟩:=hC.onB.2.2.bs;obtain⟨_,_,⟨A2,c2,e2,_⟩,_⟩:=hC.onB.2.2.ws;obtain⟨A3,c3,e3,_⟩:=hC.onB.2.2.now;obtain⟨A4,c4,e4,_⟩:=hC.onB.2.2.last;have h:=hC.onB;rw[e1,e2,e3,e4] at h;exact Kn 0 p.bb _ _ _ _ _ _ _ _ _ _ _ _ p.S hC.may a ha aj W h
set_option maxRecDepth 100000 in
theorem qcT (p:CP) (L:Int) (hL:L=-1\/(0<=L/\L<=5)) (HR:∀ h:Nat,h<=5->(0<=L->(h:Int)=L)->ReadC p h):qgI p L:=by
 intro r w f hC;by_cases hr:r<8\/256<=r
 ·have ho:okL p.S L r=false:=by unfold okL;rw[if_neg zO]
  have HP:qaI p L r qdS f:=⟨0,none,0,0,_,_,by rw[ho],fun h=>by rw[ho] at h;cases h⟩
  replace HP:=zH HP;replace hC:=zH hC;clear ho HR;go_enter func84,ntmps84;go_wp2;all_goals first|(exfalso;omega)|skip
  all_goals
   generalize aY:(World.alloc _ _)=wf;have rf:wf.heap[w.heap.size]?=some (.cells (Je 0 none 0 0 (0,0,0) (0,0,0) false) 135 (0,0)):=by rw[<-aY];exact zI _ _ _ rfl
   have xf:Ext w wf:=by rw[<-aY];exact zN _ _
   have kf:=qa rf;exact bodyPost_ret (v:=qdS) (by simp[results,results84,go_sem,kf]) rfl (XZ.same hC.out xf HP.out)
 ·obtain⟨a,rfl⟩:∃ a:Nat,r=(a:Int):=⟨r.toNat,zO⟩
  have ha:8<=a:=zO;have aj:a<256:=zO;have hd1:decide ((a:Int)<8)=false:=decide_eq_false zO;have hd2:decide ((a:Int)≥256)=false:=decide_eq_false zO;have HOK:Hid (okL p.S L a=match qu p.S a with|none=>false|some (lvl,xs)=>(qD p.S lvl.toNat xs).isSome && (decide (L<0) || (decide (lvl=L) && decide (xs.length≠0)))):=by refine zH ?_;unfold okL;rw[if_pos zO,Int.toNat_natCast];rfl
  have k0:∀ W,Ext w W->W.cell? ⟨p.cb,5,none⟩=some (.map (some p.mb)):=fun W h=>by rw[qa (qb hC.row h),hC.c5]
  have k1:∀ W,Ext w W->W.cell? ⟨p.cb,4,none⟩=some (.pointer (some ⟨p.bb,0,none⟩)):=fun W h=>by rw[qa (qb hC.row h),hC.c4]
  have wH:p.cb<w.heap.size:=(zG.1 hC.row).1;have hk5:w.cell? ⟨p.cb,5,none⟩=some (.map (some p.mb)):=k0 w (Ext.refl _);replace hC:=zH hC;clear hr;go_enter func84,ntmps84;go_wp2_with (at_lookup;refine Qf ?_);generalize aA:(World.alloc _ _)=w1;have x1:Ext w w1:=by rw[<-aA];exact zN _ _
  have q1:w1.heap[w.heap.size]?=some (.cells (Je 0 none 0 0 (0,0,0) (0,0,0) false) 135 (0,0)):=by rw[<-aA];exact zI _ _ _ rfl
  clear aA;have hC1:=hC.out.ext x1;refine QC.go (UJ _ rfl (.tmp 21) (.tmp 22) 81 rfl underlying81 underlying3 (qkM _) rfl rfl hC1.map ?_);rcases hfr:f (a:Int) with _|v
  ·have kq:=qa q1;have fq:=qe q1;go_wp2_with fail;have q2:=VM q1 rfl (.int .i64 0) (.slice none 0 0) (.int .u8 0) (.int .u32 0) (.int .u32 0) (.int .u8 0) (.int .u32 0) (.int .u32 0) (.bool false);have x2:Ext w _:=vZ x1 (zM w.heap.size) (.int .i64 0) (.slice none 0 0) (.int .u8 0) (.int .u32 0) (.int .u32 0) (.int .u8 0) (.int .u32 0) (.int .u32 0) (.bool false);generalize bT:(World.setCell (World.setCell (World.setCell (World.setCell (World.setCell (World.setCell (World.setCell (World.setCell (World.setCell w1 _ _) _ _) _ _) _ _) _ _) _ _) _ _) _ _) _ _)=w2 at *;clear bT kq fq q1 x1 hC1;refine(cen_node (hC.out.ext x2) ha aj).mono ?_;rintro e w3 ⟨u,rfl,hu,hB⟩;have x3:Ext w w3:=x2.trans hB;have q3:=qb q2 hB;have s3:w.heap.size<w3.heap.size:=(zG.1 q3).1;have s2:w.heap.size<w2.heap.size:=(zG.1 q2).1;have k3:=qa q3;have f3:=qe q3;have HP0:okL p.S L a=false->qaI p L a qdS f:=fun h=>⟨0,none,0,0,_,_,by rw[h],fun h'=>by rw[h] at h';cases h'⟩
   rcases hnode:qu p.S a with _|⟨sO,xs⟩
   ·rw[hnode] at hu HOK;obtain⟨er,aG,rfl⟩:=hu;have hv:=HP0 HOK.out;have ru:(er != 0)=true:=by rw[bne_iff_ne];exact aG
    replace hv:=zH hv;clear HP0 HOK HR hnode k0 k1 hk5;go_wp2;exact jW (b:=w.heap.size) rfl rfl ((zK _ _ _ (by simpa using s3)).trans (VM q3 rfl _ _ _ _ _ _ _ _ _)) (XZ.same hC.out (Below.alloc (vZ x3 (zM _) _ _ _ _ _ _ _ _ _) zA1 _) hv.out)
   ·rw[hnode] at hu HOK;obtain⟨A,c,rfl,aJ⟩:=hu;obtain⟨hmay,tN,hlv⟩:=qN hnode;obtain⟨lvl,rfl⟩:=Int.eq_ofNat_of_zero_le hlv;replace HOK:Hid (okL p.S L a=((qD p.S lvl xs).isSome && (decide (L<0) || (decide ((lvl:Int)=L) && decide (xs.length≠0))))):=HOK;have hl5:lvl<=5:=by unfold Qb ZR at hmay;simp at hmay;omega
    by_cases hmm:0<=L/\(lvl:Int)≠L
    ·have hv:=HP0 (by rw[HOK.out];simp only[decide_eq_false (show ¬L<0 by omega),decide_eq_false hmm.2];simp);have gW:decide (L≥0)=true:=decide_eq_true hmm.1;have nD:((lvl:Int) != L)=true:=by rw[bne_iff_ne];exact hmm.2
     replace hv:=zH hv;clear HP0 HOK HR hnode k0 k1 hk5 hmm;go_wp2;exact jW (b:=w.heap.size) rfl rfl ((zK _ _ _ (by simpa using s3)).trans (VM q3 rfl _ _ _ _ _ _ _ _ _)) (XZ.same hC.out (Below.alloc (vZ x3 (zM _) _ _ _ _ _ _ _ _ _) zA1 _) hv.out)
    ·have hLc:L<0\/(0<=L/\(lvl:Int)=L):=by
      rcases hL with h|h
      ·exact .inl zO
      ·exact .inr ⟨h.1,Classical.byContradiction fun h'=>hmm ⟨h.1,h'⟩⟩
     have HRD:=zH (HR lvl hl5 (fun h=>zO));clear HR;rcases hLc with hL0|⟨hL0,hLl⟩
     ·skip
      have gW:decide (L≥0)=false:=decide_eq_false zO;have lW:okL p.S L a=(qD p.S lvl xs).isSome:=by rw[HOK.out,decide_eq_true hL0,Bool.true_or,Bool.and_true]
      replace lW:=zH lW;clear HOK HP0;go_wp2_with fail;generalize aV:(World.alloc _ _)=w5;have wY:Ext w3 w5:=by rw[<-aV];exact zN _ _
      clear aV k3 f3;have x5:Ext w w5:=x3.trans wY;have q5:=qb q3 wY;have lU:=hC.out.low;have s5:w.heap.size<w5.heap.size:=(zG.1 q5).1;have dn:ZE (w.heap.size+1) w5 (.slice A xs.length c) xs:=(aJ.ext wY).mono zO;refine(HRD.out xs A c w5 f hmay tN (dn.mono zO) (hC.out.ext x5)).mono ?_;rintro e w6 ⟨v,g,rfl,⟨fk,lk,b,rfl,aN,ai⟩,bM,pU,hg6,hn6⟩;have hC6:=(hC.out.ext x5).after bM pU hg6 hn6;have q6:w6.heap[w.heap.size]?=_:=(hg6.block _ s5 zA1).trans q5;have k6:=qa q6;have f6:=qe q6;go_wp2_with fail;have q7:=VM q6 rfl (.int .i64 lvl) (.slice A xs.length c) (.int .u8 fk.1) (.int .u32 fk.2.1) (.int .u32 fk.2.2) (.int .u8 lk.1) (.int .u32 lk.2.1) (.int .u32 lk.2.2) (.bool b);have sW:=Ka (w:=w6) (b:=w.heap.size) (.int .i64 lvl) (.slice A xs.length c) (.int .u8 fk.1) (.int .u32 fk.2.1) (.int .u32 fk.2.2) (.int .u8 lk.1) (.int .u32 lk.2.1) (.int .u32 lk.2.2) (.bool b);generalize gp:(World.setCell (World.setCell (World.setCell (World.setCell (World.setCell (World.setCell (World.setCell (World.setCell (World.setCell w6 _ _) _ _) _ _) _ _) _ _) _ _) _ _) _ _) _ _)=w7 at *;have z56:=hg6.size;have uh:w7.heap[p.cb]?=_:=(sW.block _ zO zA1).trans hC6.row;have hm7:Ze w7 p.mb g:=pU.of_heap (sW.block _ zO zA1);have hc5:=hC6.c5;clear gp k6 f6 q6;have g5:∀ W,qj.r w7 W->W.cell? ⟨p.cb,5,none⟩=some (.map (some p.mb)):=fun W h=>by rw[qa (qb uh h),hc5]
      have gq:∀ W,qj.r w7 W->∀ i,W.cell? ⟨w.heap.size,i,none⟩=(Je lvl A xs.length c fk lk b)[i]?:=fun W h=>qa (qb q7 h);refine qp zQ ?_;refine ZH (w:=w7) qj (qH []) [true,true,true,true,true,true] 1 zQ zQ zQ zQ zQ zQ ?st (Rel.drew _ _) ?walk
      case st=>exact qk (fun _ h=>by cases h)
      case walk =>
       intro K hK;dsimp only[qt];repeat ((first|(refine qd ?_ zA0 zA0 (fun W hW _=>⟨W,?_,Rel.refl _ W⟩) ?_;rotate_left;(go_simp<;>with_reducible rfl))|(refine qh zA0 ?_));try simp only[Act.put,ql,qg,qc,qf,zA,zB,zC])
       refine qv (hK _ _ fun W hW hF=>?_);clear hF hK g5 gq;have ak:Ext w7 W:=hW;have z7:=sW.size;have q7':=qb q7 ak;have hmW:Ze W p.mb g:=hm7.of_heap (ak.block _ zO);refine zB5 ?_;refine JX _ rfl (.tmp 56) (.tmp 57) (.tmp 58) 81 rfl underlying81 underlying3 rfl rfl rfl hmW ?_;intro w8 wJ hg8;have z7W:=ak.size;have q8:w8.heap[w.heap.size]?=_:=(hg8.block _ zO zA1).trans q7';have k8:=qa q8;have f8:=qe q8;replace ai:=zH ai;replace aN:=zH aN;replace hnode:=zH hnode;replace hfr:=zH hfr;go_wp2;refine Qo ?_;go_wp2;exact jW (b:=w.heap.size) rfl rfl (VM q8 rfl _ _ _ _ _ _ _ _ _) (Ga hfr.out hC.out x5 s5 bM pU hg6 hn6 sW ak hmW hg8 wJ (Ka _ _ _ _ _ _ _ _ _) ha aj hnode.out dn aN.out ai.out ⟨lvl,A,_,c,fk,lk,by rw[lW.out,<-aN.out.1],fun _=>if_pos rfl⟩)
     ·by_cases hm0:xs.length=0
      case neg =>
       have nD:((lvl:Int) != L)=false:=by rw[bne_eq_false_iff_eq];exact hLl
       have lW:okL p.S L a=(qD p.S lvl xs).isSome:=by rw[HOK.out,decide_eq_true hLl,decide_eq_true hm0];simp
       have ru:((xs.length:Int) == 0)=false:=by rw[beq_eq_false_iff_ne];omega
       replace lW:=zH lW;replace hLl:=zH hLl;replace hm0:=zH hm0;clear HOK HP0;go_wp2_with fail;generalize aV:(World.alloc _ _)=w5;have wY:Ext w3 w5:=by rw[<-aV];exact zN _ _
       clear aV k3 f3;have x5:Ext w w5:=x3.trans wY;have q5:=qb q3 wY;have lU:=hC.out.low;have s5:w.heap.size<w5.heap.size:=(zG.1 q5).1;have dn:ZE (w.heap.size+1) w5 (.slice A xs.length c) xs:=(aJ.ext wY).mono zO;refine(HRD.out xs A c w5 f hmay tN (dn.mono zO) (hC.out.ext x5)).mono ?_;rintro e w6 ⟨v,g,rfl,⟨fk,lk,b,rfl,aN,ai⟩,bM,pU,hg6,hn6⟩;have hC6:=(hC.out.ext x5).after bM pU hg6 hn6;have q6:w6.heap[w.heap.size]?=_:=(hg6.block _ s5 zA1).trans q5;have k6:=qa q6;have f6:=qe q6;go_wp2_with fail;have q7:=VM q6 rfl (.int .i64 lvl) (.slice A xs.length c) (.int .u8 fk.1) (.int .u32 fk.2.1) (.int .u32 fk.2.2) (.int .u8 lk.1) (.int .u32 lk.2.1) (.int .u32 lk.2.2) (.bool b);have sW:=Ka (w:=w6) (b:=w.heap.size) (.int .i64 lvl) (.slice A xs.length c) (.int .u8 fk.1) (.int .u32 fk.2.1) (.int .u32 fk.2.2) (.int .u8 lk.1) (.int .u32 lk.2.1) (.int .u32 lk.2.2) (.bool b);generalize gp:(World.setCell (World.setCell (World.setCell (World.setCell (World.setCell (World.setCell (World.setCell (World.setCell (World.setCell w6 _ _) _ _) _ _) _ _) _ _) _ _) _ _) _ _) _ _)=w7 at *;have z56:=hg6.size;have uh:w7.heap[p.cb]?=_:=(sW.block _ zO zA1).trans hC6.row;have hm7:Ze w7 p.mb g:=pU.of_heap (sW.block _ zO zA1);have hc5:=hC6.c5;clear gp k6 f6 q6;have g5:∀ W,qj.r w7 W->W.cell? ⟨p.cb,5,none⟩=some (.map (some p.mb)):=fun W h=>by rw[qa (qb uh h),hc5]
       have gq:∀ W,qj.r w7 W->∀ i,W.cell? ⟨w.heap.size,i,none⟩=(Je lvl A xs.length c fk lk b)[i]?:=fun W h=>qa (qb q7 h);refine qp zQ ?_;refine ZH (w:=w7) qj (qH []) [true,true,true,true,true,true] 1 zQ zQ zQ zQ zQ zQ ?st (Rel.drew _ _) ?walk
       case st=>exact qk (fun _ h=>by cases h)
       case walk =>
        intro K hK;dsimp only[qt];repeat ((first|(refine qd ?_ zA0 zA0 (fun W hW _=>⟨W,?_,Rel.refl _ W⟩) ?_;rotate_left;(go_simp<;>with_reducible rfl))|(refine qh zA0 ?_));try simp only[Act.put,ql,qg,qc,qf,zA,zB,zC])
        refine qv (hK _ _ fun W hW hF=>?_);clear hF hK g5 gq;have ak:Ext w7 W:=hW;have z7:=sW.size;have q7':=qb q7 ak;have hmW:Ze W p.mb g:=hm7.of_heap (ak.block _ zO);refine zB5 ?_;refine JX _ rfl (.tmp 56) (.tmp 57) (.tmp 58) 81 rfl underlying81 underlying3 rfl rfl rfl hmW ?_;intro w8 wJ hg8;have z7W:=ak.size;have q8:w8.heap[w.heap.size]?=_:=(hg8.block _ zO zA1).trans q7';have k8:=qa q8;have f8:=qe q8;replace ai:=zH ai;replace aN:=zH aN;replace hnode:=zH hnode;replace hfr:=zH hfr;go_wp2;refine Qo ?_;go_wp2;exact jW (b:=w.heap.size) rfl rfl (VM q8 rfl _ _ _ _ _ _ _ _ _) (Ga hfr.out hC.out x5 s5 bM pU hg6 hn6 sW ak hmW hg8 wJ (Ka _ _ _ _ _ _ _ _ _) ha aj hnode.out dn aN.out ai.out ⟨lvl,A,_,c,fk,lk,by rw[lW.out,<-aN.out.1],fun _=>if_pos rfl⟩)
      case pos =>
       have nD:((lvl:Int) != L)=false:=by rw[bne_eq_false_iff_eq];exact hLl
       have lW:okL p.S L a=false:=by rw[HOK.out];simp[hm0,show ¬L<0 by omega]
       have ru:((xs.length:Int) == 0)=true:=by rw[beq_iff_eq];omega
       replace lW:=zH lW;replace hLl:=zH hLl;replace hm0:=zH hm0;clear HOK HP0;go_wp2_with fail;generalize aV:(World.alloc _ _)=w5;have wY:Ext w3 w5:=by rw[<-aV];exact zN _ _
       clear aV k3 f3;have x5:Ext w w5:=x3.trans wY;have q5:=qb q3 wY;have lU:=hC.out.low;have s5:w.heap.size<w5.heap.size:=(zG.1 q5).1;have dn:ZE (w.heap.size+1) w5 (.slice A xs.length c) xs:=(aJ.ext wY).mono zO;refine(HRD.out xs A c w5 f hmay tN (dn.mono zO) (hC.out.ext x5)).mono ?_;rintro e w6 ⟨v,g,rfl,⟨fk,lk,b,rfl,aN,ai⟩,bM,pU,hg6,hn6⟩;have hC6:=(hC.out.ext x5).after bM pU hg6 hn6;have q6:w6.heap[w.heap.size]?=_:=(hg6.block _ s5 zA1).trans q5;have k6:=qa q6;have f6:=qe q6;go_wp2_with fail;have q7:=VM q6 rfl (.int .i64 lvl) (.slice A xs.length c) (.int .u8 fk.1) (.int .u32 fk.2.1) (.int .u32 fk.2.2) (.int .u8 lk.1) (.int .u32 lk.2.1) (.int .u32 lk.2.2) (.bool b);have sW:=Ka (w:=w6) (b:=w.heap.size) (.int .i64 lvl) (.slice A xs.length c) (.int .u8 fk.1) (.int .u32 fk.2.1) (.int .u32 fk.2.2) (.int .u8 lk.1) (.int .u32 lk.2.1) (.int .u32 lk.2.2) (.bool b);generalize gp:(World.setCell (World.setCell (World.setCell (World.setCell (World.setCell (World.setCell (World.setCell (World.setCell (World.setCell w6 _ _) _ _) _ _) _ _) _ _) _ _) _ _) _ _) _ _)=w7 at *;have z56:=hg6.size;have uh:w7.heap[p.cb]?=_:=(sW.block _ zO zA1).trans hC6.row;have hm7:Ze w7 p.mb g:=pU.of_heap (sW.block _ zO zA1);have hc5:=hC6.c5;clear gp k6 f6 q6;have g5:∀ W,qj.r w7 W->W.cell? ⟨p.cb,5,none⟩=some (.map (some p.mb)):=fun W h=>by rw[qa (qb uh h),hc5]
       have gq:∀ W,qj.r w7 W->∀ i,W.cell? ⟨w.heap.size,i,none⟩=(Je lvl A xs.length c fk lk b)[i]?:=fun W h=>qa (qb q7 h);refine qp zQ ?_;refine ZH (w:=w7) qj (qH []) [true,true,true,true,true,true] 1 zQ zQ zQ zQ zQ zQ ?st (Rel.drew _ _) ?walk
       case st=>exact qk (fun _ h=>by cases h)
       case walk =>
        intro K hK;dsimp only[qt];repeat ((first|(refine qd ?_ zA0 zA0 (fun W hW _=>⟨W,?_,Rel.refl _ W⟩) ?_;rotate_left;(go_simp<;>with_reducible rfl))|(refine qh zA0 ?_));try simp only[Act.put,ql,qg,qc,qf,zA,zB,zC])
        refine qv (hK _ _ fun W hW hF=>?_);clear hF hK g5 gq;have ak:Ext w7 W:=hW;have z7:=sW.size;have q7':=qb q7 ak;have hmW:Ze W p.mb g:=hm7.of_heap (ak.block _ zO);refine zB5 ?_;refine JX _ rfl (.tmp 56) (.tmp 57) (.tmp 58) 81 rfl underlying81 underlying3 rfl rfl rfl hmW ?_;intro w8 wJ hg8;have z7W:=ak.size;have q8:w8.heap[w.heap.size]?=_:=(hg8.block _ zO zA1).trans q7';have k8:=qa q8;have f8:=qe q8;replace ai:=zH ai;replace aN:=zH aN;replace hnode:=zH hnode;replace hfr:=zH hfr;go_wp2;refine Qo ?_;go_wp2;exact jW (b:=w.heap.size) (f:=(0,0,0)) (l:=(0,0,0)) rfl rfl (VM q8 rfl _ _ _ _ _ _ _ _ _) (Ga hfr.out hC.out x5 s5 bM pU hg6 hn6 sW ak hmW hg8 wJ (Ka _ _ _ _ _ _ _ _ _) ha aj hnode.out dn aN.out ai.out ⟨0,none,0,0,_,_,by rw[lW.out],fun h=>by rw[lW.out] at h;cases h⟩)
  ·obtain⟨n,lvl,xs,A,c,fk,lk,b,hn,_,_,hnode,rfl,aJ,hJZ,hclo⟩:=hC1.known _ _ hfr;obtain rfl:a=n:=zO;have hok:okL p.S L a=(b && (decide (L<0) || (decide ((lvl:Int)=L) && decide (xs.length≠0)))):=by rw[HOK.out,hnode,hJZ.1];rfl
   have HPv:okL p.S L a=b->qaI p L a (jt lvl A xs.length c fk lk b) f:=fun h=>⟨_,A,_,c,fk,lk,by rw[h],fun _=>hfr⟩
   have HP0:okL p.S L a=false->qaI p L a qdS f:=fun h=>⟨0,none,0,0,_,_,by rw[h],fun h'=>by rw[h] at h';cases h'⟩
   replace HPv:=zH HPv;replace HP0:=zH HP0;replace hC1:=zH hC1;replace hok:=zH hok;clear hfr hclo hJZ aJ hnode HOK HR hn k0 k1 hk5;have kq:=qa q1;have fq:=qe q1;generalize gu:xs.length=m at *;clear gu;by_cases hL0:L<0
   ·have hv:=HPv.out (by rw[hok.out,decide_eq_true hL0,Bool.true_or,Bool.and_true]);have gW:decide (L≥0)=false:=decide_eq_false zO;replace hv:=zH hv;clear HPv HP0 hok;go_wp2;exact jW (b:=w.heap.size) rfl rfl (VM (VM q1 rfl _ _ _ _ _ _ _ _ _) rfl _ _ _ _ _ _ _ _ _) (XZ.same hC.out (vZ (vZ x1 (zM _) _ _ _ _ _ _ _ _ _) (zM _) _ _ _ _ _ _ _ _ _) hv.out)
   ·have gW:decide (L≥0)=true:=decide_eq_true zO;by_cases hll:(lvl:Int)=L/\m≠0
    ·have hv:=HPv.out (by rw[hok.out,decide_eq_false hL0,decide_eq_true hll.1,decide_eq_true hll.2];simp);have nD:((lvl:Int) != L)=false:=by rw[bne_eq_false_iff_eq];exact hll.1
     have ru:((m:Int) == 0)=false:=by rw[beq_eq_false_iff_ne];omega
     replace hv:=zH hv;clear HPv HP0 hok hll;go_wp2;exact jW (b:=w.heap.size) rfl rfl (VM (VM q1 rfl _ _ _ _ _ _ _ _ _) rfl _ _ _ _ _ _ _ _ _) (XZ.same hC.out (vZ (vZ x1 (zM _) _ _ _ _ _ _ _ _ _) (zM _) _ _ _ _ _ _ _ _ _) hv.out)
    ·have hv:=HP0.out (by
      rw[hok.out,decide_eq_false hL0];by_cases h1:(lvl:Int)=L
      ·have h2:m=0:=Classical.byContradiction fun h=>hll ⟨h1,h⟩;simp[h2]
      ·simp[h1])
     replace hv:=zH hv;clear HPv HP0 hok;by_cases h1:(lvl:Int)=L
     ·have h2:m=0:=Classical.byContradiction fun h=>hll ⟨h1,h⟩;have nD:((lvl:Int) != L)=false:=by rw[bne_eq_false_iff_eq];exact h1
      clear hll h1;subst h2;go_wp2;exact jW (b:=w.heap.size) rfl rfl (VM (VM q1 rfl _ _ _ _ _ _ _ _ _) rfl _ _ _ _ _ _ _ _ _) (XZ.same hC.out (vZ (vZ x1 (zM _) _ _ _ _ _ _ _ _ _) (zM _) _ _ _ _ _ _ _ _ _) hv.out)
     ·have nD:((lvl:Int) != L)=true:=by rw[bne_iff_ne];exact h1
      clear hll h1;go_wp2;exact jW (b:=w.heap.size) rfl rfl (VM (VM q1 rfl _ _ _ _ _ _ _ _ _) rfl _ _ _ _ _ _ _ _ _) (XZ.same hC.out (vZ (vZ x1 (zM _) _ _ _ _ _ _ _ _ _) (zM _) _ _ _ _ _ _ _ _ _) hv.out)
theorem qdb (S:Sto) (h:Nat) (r:Int):okL S (h:Int) r=(Va S h r).isSome:=by
 unfold okL Va;split
 ·rcases hn:qu S r.toNat with _|⟨lvl,xs⟩
  ·rfl
  ·simp only;by_cases hl:lvl=(h:Int)
   ·subst hl;rw[if_pos rfl];rcases hs:qD S h xs with _|_|p
    ·simp[hs]
    ·have:xs.length=0:=by
      rcases Nat.eq_zero_or_pos xs.length with h0|h0
      ·exact h0
      ·exact absurd (by rw[List.take_length];exact hs) (Zd (S:=S) (h:=h) h0 (zM _))
     simp[hs,this,show ¬((h:Int)<0) by omega]
    ·have:xs≠[]:=qif ⟨p,hs⟩;simp[hs,this]
   ·rw[if_neg hl];simp[hl,show ¬((h:Int)<0) by omega]
 ·rfl
theorem qfi {S:Sto} {lo h:Nat} {w:World} {g:Int->Option Value} {r lvl:Int} {A:Option Addr} {n c:Nat} {fk lk:K3} {b:Bool} (hc:XX S lo w g r (jt lvl A n c fk lk b)) (hok:okL S (h:Int) r=true):Va S h r=some (fk,lk):=by
 obtain⟨m,lv,xs,A',c',ng,lk',b',rfl,h1,h2,h3,h4,_,h6,_⟩:=hc;simp only[Value.agg.injEq,Array.mk.injEq,List.cons.injEq,Value.int.injEq,Value.bool.injEq,true_and,and_true] at h4;obtain⟨_,_,e1,e2,e3,e4,e5,e6,rfl⟩:=h4;have ef:fk=ng:=Prod.ext e1 (Prod.ext e2 e3);have el:lk=lk':=Prod.ext e4 (Prod.ext e5 e6);subst ef;subst el;rw[qdb] at hok;unfold Va at hok ⊢;rw[if_pos zO,Int.toNat_natCast,h3] at hok ⊢;simp only at hok ⊢;split at hok
 ·rename_i hl;obtain rfl:lv=h:=zO;rw[if_pos rfl];rcases hs:qD S lv xs with _|_|q
  ·rw[hs] at hok;cases hok
  ·rw[hs] at hok;cases hok
  ·rw[h6.2 q hs];rfl
 ·cases hok
structure RdI (p:CP) (h:Nat) (xs:List It) (A:Option Addr) (c:Nat) (w:World) (f:Int->Option Value) (wr:World) (g:Int->Option Value) (k:Nat) (fk lk:K3):Prop where
 rn:wr.heap[w.heap.size]?=some (.cells #[.int .i64 h,.slice A xs.length c] 49 (0,0))
 rr:wr.heap[w.heap.size+1]?=some (.cells (Je 0 none 0 0 (0,0,0) (0,0,0) false) 135 (0,0))
 rx:wr.heap[w.heap.size+2]?=some (.cells (Je h A xs.length c fk lk true) 135 (0,0))
 sp:vY p.S h (xs.take k) fk lk true
 cl:0<h->∀ y∈xs.take k,(g y.r).isSome=true
 gr:JY f g
 mp:Ze wr p.mb g
 gw:w.grownBy wr (some p.mb)
 nw:∀ a v,g a=some v->f a=none->XX p.S (w.heap.size+3) wr g a v
theorem RdI.news {p:CP} {h:Nat} {xs:List It} {A:Option Addr} {c:Nat} {w wr:World} {f g:Int->Option Value} {k:Nat} {fk lk:K3} (H:RdI p h xs A c w f wr g k fk lk):News p.S w f g wr:=
 fun a v h1 h2=>(H.nw a v h1 h2).keep zO (zM _) (fun _ _ _=>rfl) (fun _ h=>h)
theorem RdI.cen {p:CP} {h:Nat} {xs:List It} {A:Option Addr} {c:Nat} {w wr:World} {f g:Int->Option Value} {k:Nat} {fk lk:K3} (H:RdI p h xs A c w f wr g k fk lk) (hC:Cen p w f):Cen p wr g:=
 hC.after H.gr H.mp H.gw H.news
theorem RdI.ext {p:CP} {h:Nat} {xs:List It} {A:Option Addr} {c:Nat} {w wr W:World} {f g:Int->Option Value} {k:Nat} {fk lk:K3} (H:RdI p h xs A c w f wr g k fk lk) (hC:Cen p w f) (hx:Ext wr W):RdI p h xs A c w f W g k fk lk where
 rn:=qb H.rn hx
 rr:=qb H.rr hx
 rx:=qb H.rx hx
 sp:=H.sp
 cl:=H.cl
 gr:=H.gr
 mp:=H.mp.of_heap (hx.block _ (by have:=hC.low;have:=H.gw.size;omega))
 gw:=World.grownBy.andThen H.gw (ZI hx (some p.mb)) (fun j e=>.inr (by rw[<-e]))
 nw:=fun a v h1 h2=>(H.nw a v h1 h2).keep (zM _) hx.size (fun q _ hq=>Below.cell hx hq) (fun _ h=>h)
theorem RdI.call {p:CP} {h:Nat} {xs:List It} {A:Option Addr} {c:Nat} {w wr W:World} {f g g':Int->Option Value} {k:Nat} {fk lk:K3} (H:RdI p h xs A c w f wr g k fk lk) (hC:Cen p w f) (bM:JY g g') (hm:Ze W p.mb g') (hg:wr.grownBy W (some p.mb)) (hn:News p.S wr g g' W):RdI p h xs A c w f W g' k fk lk:=by
 have hl:=hC.low;have h2:w.heap.size+2<wr.heap.size:=(zG.1 H.rx).1;have hb:∀ b,w.heap.size<=b->b<wr.heap.size->W.heap[b]?=wr.heap[b]?:=fun b h1 h2=>hg.block b h2 zA1;refine⟨(hb _ zO zO).trans H.rn,(hb _ zO zO).trans H.rr,(hb _ zO zO).trans H.rx,H.sp,fun h0 y hy=>bM.some_ _ (H.cl h0 y hy),H.gr.trans bM,hm,World.grownBy.andThen H.gw hg (fun j e=>.inr (by rw[<-e])),fun a v h1 h0=>?_⟩;rcases hga:g a with _|u
 ·exact(hn a v h1 hga).keep zO (zM _) (fun _ _ _=>rfl) (fun _ h=>h)
 ·have e:=bM a u hga;rw[h1] at e;cases e;exact(H.nw a v hga h0).keep (zM _) hg.size (fun q h3 h4=>World.cell?_of_block (hb q.block zO h4)) bM.some_
theorem RdI.set {p:CP} {h:Nat} {xs:List It} {A:Option Addr} {c:Nat} {w wr W:World} {f g:Int->Option Value} {k k':Nat} {fk lk ng lk':K3} (H:RdI p h xs A c w f wr g k fk lk) (hC:Cen p w f) (hg:wr.grownBy W (some (w.heap.size+2))) (hx:W.heap[w.heap.size+2]?=some (.cells (Je h A xs.length c ng lk' true) 135 (0,0))) (hs:vY p.S h (xs.take k') ng lk' true) (hc:0<h->∀ y∈xs.take k',(g y.r).isSome=true):RdI p h xs A c w f W g k' ng lk':=by
 have hl:=hC.low;have h2:w.heap.size+2<wr.heap.size:=(zG.1 H.rx).1;have hb:∀ b,b≠w.heap.size+2->b<wr.heap.size->W.heap[b]?=wr.heap[b]?:=fun b h1 h2=>hg.block b h2 zA1;exact⟨(hb _ zO zO).trans H.rn,(hb _ zO zO).trans H.rr,hx,hs,hc,H.gr,H.mp.of_heap (hb _ zO zO),World.grownBy.andThen H.gw hg (fun j e=>.inl (by cases e;omega)),
  fun a v h1 h0=>(H.nw a v h1 h0).keep (zM _) hg.size (fun q h3 h4=>World.cell?_of_block (hb q.block zO h4)) (fun _ h=>h)⟩
theorem RdI.set6 {p:CP} {h:Nat} {xs:List It} {A:Option Addr} {c:Nat} {w wr:World} {f g:Int->Option Value} {k k':Nat} {fk lk ng lk':K3} (H:RdI p h xs A c w f wr g k fk lk) (hC:Cen p w f) (hs:vY p.S h (xs.take k') ng lk' true) (hc:0<h->∀ y∈xs.take k',(g y.r).isSome=true):RdI p h xs A c w f ((((((wr.setCell ⟨w.heap.size+1+1,2,none⟩ (.int .u8 ng.1)).setCell ⟨w.heap.size+1+1,3,none⟩ (.int .u32 ng.2.1)).setCell ⟨w.heap.size+1+1,4,none⟩ (.int .u32 ng.2.2)).setCell ⟨w.heap.size+1+1,5,none⟩ (.int .u8 lk'.1)).setCell ⟨w.heap.size+1+1,6,none⟩ (.int .u32 lk'.2.1)).setCell ⟨w.heap.size+1+1,7,none⟩ (.int .u32 lk'.2.2)) g k' ng lk':=
 H.set hC (QB.trans (QB.trans (QB.trans (QB.trans (QB.trans QB))))) (qi (qi (qi (qi (qi (qi H.rx 2 _) 3 _) 4 _) 5 _) 6 _) 7 _) hs hc
theorem RdI.set3 {p:CP} {h:Nat} {xs:List It} {A:Option Addr} {c:Nat} {w wr:World} {f g:Int->Option Value} {k k':Nat} {fk lk lk':K3} (H:RdI p h xs A c w f wr g k fk lk) (hC:Cen p w f) (hs:vY p.S h (xs.take k') fk lk' true) (hc:0<h->∀ y∈xs.take k',(g y.r).isSome=true):RdI p h xs A c w f (((wr.setCell ⟨w.heap.size+1+1,5,none⟩ (.int .u8 lk'.1)).setCell ⟨w.heap.size+1+1,6,none⟩ (.int .u32 lk'.2.1)).setCell ⟨w.heap.size+1+1,7,none⟩ (.int .u32 lk'.2.2)) g k' fk lk':=
 H.set hC (QB.trans (QB.trans QB)) (qi (qi (qi H.rx 5 _) 6 _) 7 _) hs hc
theorem RdI.call8 {p:CP} {h:Nat} {xs:List It} {A:Option Addr} {c:Nat} {w wr w5 w6 W:World} {f g g':Int->Option Value} {k:Nat} {fk lk:K3} (H:RdI p h xs A c w f wr g k fk lk) (hC:Cen p w f) (hx:Ext wr w5) (bM:JY g g') (hm:Ze w6 p.mb g') (hg:w5.grownBy w6 (some p.mb)) (hn:News p.S w5 g g' w6) {b:Nat} (hb:wr.heap.size<=b) (bZ:b<w5.heap.size) (h7:w6.grownBy W (some b)):RdI p h xs A c w f W g' k fk lk:=by
 have hl:=hC.low;have h2:w.heap.size+2<wr.heap.size:=(zG.1 H.rx).1;have zg:=hg.size;have H6:=(H.ext hC hx).call hC bM hm hg hn;have hk:∀ a,a≠b->a<w6.heap.size->W.heap[a]?=w6.heap[a]?:=fun a h1 h2=>h7.block a h2 zA1;refine⟨(hk _ zO zO).trans H6.rn,(hk _ zO zO).trans H6.rr,(hk _ zO zO).trans H6.rx,H6.sp,H6.cl,H6.gr,hm.of_heap (hk _ zO zO),World.grownBy.andThen H6.gw h7 (fun j e=>.inl (by cases e;omega)),fun a v h1 h0=>?_⟩;rcases hga:g a with _|u
 ·exact(hn a v h1 hga).keep zO h7.size (fun q h3 h4=>World.cell?_of_block (hk q.block zO h4)) (fun _ h=>h)
 ·have e:=bM a u hga;rw[h1] at e;cases e;refine(H.nw a v hga h0).keep (zM _) (by have:=h7.size;omega) (fun q h3 h4=>?_) bM.some_;rw[World.cell?_of_block (hk q.block zO zO),World.cell?_of_block (hg.block q.block zO zA1),Below.cell hx (p:=q) h4]
theorem RdI.ret {p:CP} {h:Nat} {xs:List It} {A:Option Addr} {c:Nat} {w wr W:World} {f g:Int->Option Value} {k:Nat} {fk lk:K3} {v:Value} (H:RdI p h xs A c w f wr g k fk lk) (hC:Cen p w f) (hg:wr.grownBy W (some (w.heap.size+1))) (hv:qeF p h A c xs v g):XZ p f (qeF p h A c xs) w (.returned v) W:=by
 have hl:=hC.low;have h2:w.heap.size+2<wr.heap.size:=(zG.1 H.rx).1;have hb:∀ b,b≠w.heap.size+1->b<wr.heap.size->W.heap[b]?=wr.heap[b]?:=fun b h1 h2=>hg.block b h2 zA1;exact⟨v,g,rfl,hv,H.gr,H.mp.of_heap (hb _ zO zO),World.grownBy.andThen H.gw hg (fun j e=>.inl (by cases e;omega)),
  fun a u h1 h0=>(H.nw a u h1 h0).keep zO hg.size (fun q h3 h4=>World.cell?_of_block (hb q.block zO h4)) (fun _ h=>h)⟩
def XJ (S:Sto) (h:Nat) (x:It) (f l:K3) (b:Bool):Prop:=match jr S h x with|none=>b=false|some q=>b=true/\q=(f,l)
theorem qku {S:Sto} {h:Nat} {xs:List It} {k:Nat} {f l f0 l0:K3} {b:Bool} (hk:k<xs.length) (ho:XJ S h xs[k] f l b) (hs:vY S h (xs.take k) f0 l0 true) (hb:b=false\/f≠qo xs[k]\/(0<k/\qM l0 f=false)):qD S h xs=none:=by
 refine qdo (k:=k+1) ?_;rw[jV hk];unfold XJ at ho;unfold jF;rcases hq:qD S h (xs.take k) with _|a
 ·rfl
 ·rcases hone:jr S h xs[k] with _|q
  ·rfl
  ·rw[hone] at ho;obtain⟨rfl,rfl⟩:=ho;simp only;rcases hb with hb|hb|⟨hb,hl⟩
   ·cases hb
   ·rw[if_neg hb]
   ·split
    ·rcases a with _|q0
     ·exact absurd hq (Zd hb zO)
     ·have:=hs.2 q0 hq;subst this;simp[hl]
    ·rfl
theorem round_ok {S:Sto} {h:Nat} {xs:List It} {k:Nat} {f l f0 l0:K3} (hk:k<xs.length) (ho:XJ S h xs[k] f l true) (hs:vY S h (xs.take k) f0 l0 true) (hf:f=qo xs[k]) (hl:0<k->qM l0 f=true):vY S h (xs.take (k+1)) (if k=0 then f else f0) l true:=by
 unfold vY;rw[jV hk];unfold XJ at ho;unfold jF;rcases hq:qD S h (xs.take k) with _|a
 ·have:=hs.1;rw[hq] at this;cases this
 ·rcases hone:jr S h xs[k] with _|q
  ·rw[hone] at ho;cases ho
  ·rw[hone] at ho;obtain⟨_,rfl⟩:=ho;simp only[if_pos hf];rcases Nat.eq_zero_or_pos k with rfl|h0
   ·have:a=none:=by rw[List.take_zero] at hq;cases hq;rfl
    subst this;exact⟨rfl,fun q hq=>by cases hq;rfl⟩
   ·rcases a with _|q0
    ·exact absurd hq (Zd h0 zO)
    ·have:=hs.2 q0 hq;subst this;rw[if_neg zO];simp only[hl h0,if_true];exact⟨rfl,fun q hq=>by cases hq;rfl⟩
theorem cen_now {p:CP} {W:World} {g:Int->Option Value} (hC:Cen p W g):∃ b3 o3 c3,p.v3=.slice (some ⟨b3,o3,none⟩) 256 c3/\256<=c3/\c3<=maxLen:=by obtain⟨_,_,nC,_⟩:=Qc hC.may;have hn:=hC.sto.now;obtain⟨A3,c3,e3,_⟩:=hC.sto.now;rw[e3] at hn;obtain⟨_,wG,yC,hA3⟩:=hn.at_;obtain⟨b3,o3,rfl,_⟩:=hA3 zO;rw[nC] at e3 wG;exact⟨b3,o3,c3,e3,wG,yC⟩
theorem qdF {p:CP} {W:World} {g:Int->Option Value} (hC:Cen p W g) {b3 o3 c3:Nat} (h3:p.v3=.slice (some ⟨b3,o3,none⟩) 256 c3) {a:Nat} (ha:a<256):W.cell? ⟨b3,o3+a,none⟩=some (.int .u8 ((p.S.now[a]?.getD 0).toNat:Int)):=by obtain⟨_,_,nC,_⟩:=Qc hC.may;obtain⟨A',c',e,_,_,hr⟩:=hC.sto.now;rw[h3,Value.slice.injEq] at e;obtain⟨rfl,_,rfl⟩:=e;obtain⟨b',off',e,_,hc⟩:=hr.2 zO;simp only[Option.some.injEq,Addr.mk.injEq,and_true] at e;obtain⟨rfl,rfl⟩:=e;exact hc a _ (by rw[List.getElem?_map,zL zO];rfl)
theorem Uv {R:Ending->World->Prop} {a:Act} {W:World} {b:Nat} {lvl:Int} {A:Option Addr} {n c:Nat} {f l:K3} {bo:Bool} (h4:a.tmps[4]?.getD undef=.pointer (some ⟨b,0,none⟩)) (hd:a.defers=[]) (aF:W.heap[b]?=some (.cells (Je lvl A n c f l bo) 135 (0,0))) (hR:R (.returned (jt lvl A n c f l bo)) W):bodyPost prog Tryz.f134 R .ret a W:=by
 refine bodyPost_ret (v:=jt lvl A n c f l bo) ?_ hd hR;have k:=qa aF;simp[results,results134,go_sem,h4,k]
theorem RdI.bad {p:CP} {h:Nat} {xs:List It} {A:Option Addr} {c:Nat} {w wr:World} {f g:Int->Option Value} {k:Nat} {fk lk:K3} (H:RdI p h xs A c w f wr g k fk lk) (hC:Cen p w f) (hb:qD p.S h xs=none):XZ p f (qeF p h A c xs) w (.returned (jt h A xs.length c (0,0,0) (0,0,0) false)) (((((((((wr.setCell ⟨w.heap.size+1,0,none⟩ (.int .i64 h)).setCell ⟨w.heap.size+1,1,none⟩ (.slice A xs.length c)).setCell ⟨w.heap.size+1,2,none⟩ (.int .u8 0)).setCell ⟨w.heap.size+1,3,none⟩ (.int .u32 0)).setCell ⟨w.heap.size+1,4,none⟩ (.int .u32 0)).setCell ⟨w.heap.size+1,5,none⟩ (.int .u8 0)).setCell ⟨w.heap.size+1,6,none⟩ (.int .u32 0)).setCell ⟨w.heap.size+1,7,none⟩ (.int .u32 0)).setCell ⟨w.heap.size+1,8,none⟩ (.bool false)):=
 H.ret hC (Ka _ _ _ _ _ _ _ _ _) ⟨(0,0,0),(0,0,0),false,rfl,⟨by rw[hb];rfl,fun q hq=>by rw[hb] at hq;cases hq⟩,fun h=>by cases h⟩
set_option maxRecDepth 100000 in
theorem qcI (p:CP) (h:Nat) (HL:∀ h':Nat,h=h'+1->qgI p (h':Int)):ReadC p h:=by
 intro xs A c w f hmay tN aJ hC;have hKY:=aJ.its;obtain⟨-,dV,bP,hA⟩:=hKY.at_;have hlen:xs.length<=5:=by unfold Qb ZR at hmay;simp at hmay;omega
 have hMH:h<=5:=by unfold Qb ZR at hmay;simp at hmay;omega
 replace hMH:=zH hMH;have lU:=hC.low;have HI:=zH hKY;have HXS:=zH tN;have HC:=zH hC;have HLow:=zH lU;clear aJ hKY hmay tN hC lU;go_enter func134,ntmps134;go_wp2;generalize aA:(World.alloc (World.alloc _ _) _)=w1;have x1:Ext w w1:=by rw[<-aA];exact((zN _ _).trans (zN _ _)).trans (zN _ _)
 have H1:RdI p h xs A c w f w1 f 0 (0,0,0) (0,0,0):=by
  refine⟨?_,?_,?_,⟨rfl,fun p hp=>by cases hp⟩,fun _ y hy=>by simp at hy,JY.refl _,(HC.out.ext x1).map,ZI x1 _,fun a v h1 h0=>by rw[h1] at h0;cases h0⟩
  ·rw[<-aA];exact(zK _ _ _ zA1).trans ((zK _ _ _ zA2).trans (zI _ _ _ rfl))
  ·rw[<-aA];exact(zK _ _ _ zA2).trans (zI _ _ _ zA2)
  ·rw[<-aA];exact zI _ _ _ zA2
 clear aA;replace H1:=zH H1;go_loopw [14] (fun i wr=>∃ (k:Nat) (g:Int->Option Value) (fk lk:K3),k<=xs.length/\i=.int .i64 (k:Int)/\RdI p h xs A c w f wr g k fk lk) (fun i _=>xs.length-(intOf i).toNat)
 case atStart=>exact⟨0,f,_,_,zO,rfl,H1.out⟩
 case round =>
  obtain⟨k,g,fk,lk,hk,rfl,HR⟩:=hrel;clear H1 x1;have zr:=HR.gw.size;have HCr:=HR.cen HC.out;have mr:=jX HC.out.map HR.mp HR.gw;have rnr:=HR.rn;have rxr:=HR.rx;have wW:=HR.rr;have z2:w.heap.size+2<wr.heap.size:=(zG.1 rxr).1;by_cases hlt:k<xs.length
  ·have aH:=hlt;obtain⟨b,off,rfl,hb⟩:=hA zO;obtain⟨A',c',d0,d1,d2,d3,d4,-⟩:=HI.out.item k aH;rw[<-mr _ (by simpa using hb)] at d0 d1 d2 d3 d4;clear mr;have oJ:=HXS.out xs[k] (List.getElem_mem aH);obtain⟨b3,o3,c3,e3,wG,yC⟩:=cen_now HCr;have HSTEP:=zH (fun f l b=>@qku p.S h xs k f l fk lk b aH);have HSTOK:=zH (fun f l=>@round_ok p.S h xs k f l fk lk aH);have HMEM:=zH (List.getElem_mem aH);have HTK:=zH (List.take_succ_eq_append_getElem aH);generalize xs[k]=x at *;obtain⟨⟨-,-,-,hr0,-⟩,-⟩:=oJ;obtain⟨hDV,hDW⟩:=hr0;obtain⟨r,hr⟩:=Int.eq_ofNat_of_zero_le hDV;rw[hr] at d3 hDW;have hr2:r<256:=zO;replace hr:=zH hr;have knr:=qa rnr;have kxr:=qa rxr;have hfN:=fun W (hx:Ext wr W)=>qdF (HCr.ext hx) e3 hr2;generalize gZ:(p.S.now[r]?.getD 0).toNat=nv at *;replace gZ:=zH gZ;unfold maxLen at yC;clear hDV hDW;have hfN0:=hfN wr (Ext.refl _);replace hfN:=zH hfN;go_wp2_with fail;generalize lg:(World.alloc _ _)=wa;have xa:Ext wr wa:=by rw[<-lg];exact zN _ _
   have ra:wa.heap[wr.heap.size]?=some (.cells #[.int .u8 x.k,.int .u32 x.i,.int .u32 x.o,.int .i64 r,.slice A' x.val.length c'] 68 (0,0)):=by rw[<-lg];exact zI _ _ _ rfl
   clear lg d0 d1 d2 d3 d4 hfN0;have HCa:=HCr.ext xa;have wH:=HCa.c2;rw[e3] at wH;have gC:∀ W,qj.r wa W->W.cell? ⟨p.cb,2,none⟩=some (.slice (some ⟨b3,o3,none⟩) 256 c3):=fun W h=>by rw[qa (qb HCa.row h)];exact wH
   have gN:∀ W,qj.r wa W->W.cell? ⟨b3,o3+r,none⟩=some (.int .u8 (nv:Int)):=fun W h=>hfN.out W (xa.trans h);have gI:∀ W,qj.r wa W->∀ i,W.cell? ⟨wr.heap.size,i,none⟩=#[.int .u8 x.k,.int .u32 x.i,.int .u32 x.o,.int .i64 r,.slice A' x.val.length c'][i]?:=fun W h=>qa (qb ra h);clear wH knr kxr hfN;obtain⟨is0,rV⟩:∃ is0:Bool,is0=decide (x.r=0\/0<nv):=⟨_,rfl⟩
   replace rV:=zH rV;have hr0:(((r:Int) == 0)=true/\decide (r=0)=true/\is0=true)\/(((r:Int) == 0)=false/\decide (r=0)=false/\is0=decide (0<nv)):=by
    rw[rV.out,hr.out];rcases Nat.eq_zero_or_pos r with h0|h0
    ·subst h0;exact .inl ⟨zD,zD,zA2⟩
    ·exact .inr ⟨by rw[beq_eq_false_iff_ne];omega,decide_eq_false zO,by rw[decide_eq_decide];omega⟩
   refine qp zQ ?_;refine ZH (w:=wa) qj (qH [(20,jS wa.heap.size 135 (Je 0 none 0 0 (0,0,0) (0,0,0) false))]) [true,true,true,true,true,true,true,true,true,true,true,true,true,true,true,true,true,true,true,true,true] 1 zQ zQ zQ zQ zQ zQ ?st (Rel.drew _ _) ?walk
   case st=>exact qk (by simp only[List.forall_mem_cons];exact⟨fun p=>QI (ZP _ _ _ p),fun _ h=>by cases h⟩)
   case walk =>
    intro K hK;dsimp only[qt];rcases hr0 with ⟨yx,og,oG⟩|⟨yx,og,oG⟩
    all_goals
     replace oG:=zH oG;repeat ((first|(refine qd ?_ zA0 zA0 (fun W hW _=>⟨W,?_,Rel.refl _ W⟩) ?_;rotate_left;(go_simp<;>with_reducible rfl))|(refine qh zA0 ?_));try simp only[Act.put,ql,qg,qc,qf,qc,zA,zB,zC])
     try (
      refine qd (.pointer (some ⟨b3,o3+r,none⟩)) zA0 zA0 (fun W hW _=>⟨W,?_,Rel.refl _ W⟩) ?_
      ·go_simp;intro lG;exfalso;omega
      simp only[Act.put,qg,qc,qf,qc,zA,zB,zC])
     repeat ((first|(refine qd ?_ zA0 zA0 (fun W hW _=>⟨W,?_,Rel.refl _ W⟩) ?_;rotate_left;(go_simp<;>with_reducible rfl))|(refine qh zA0 ?_));try simp only[Act.put,ql,qg,qc,qf,qc,zA,zB,zC])
     refine qw (jS wa.heap.size 135 (Je 0 none 0 0 (0,0,0) (0,0,0) false)) zA0 zA0 (fun W hW _=>?_) (fun (p8:Nat)=>?_)
     ·refine jN ?_ (Below.size hW);go_simp
     simp only[Act.put,qg,qc,qf,qc,zA,zB,zC];refine qv (hK _ _ fun W hW hF=>?_);obtain⟨f8,aP⟩:W.heap[p8]?=some (.cells (Je 0 none 0 0 (0,0,0) (0,0,0) false) 135 (0,0))/\wa.heap.size<=p8:=(hF 20).1;clear hF hK gC gN gI;have ak:Ext wa W:=hW;refine zB5 ?_;have k8:=qa f8;have h8:=qe f8;go_wp2;refine Qo ?_;have x5:Ext wa _:=vZ ak aP (.int .i64 0) (.slice none 0 0) (.int .u8 x.k) (.int .u32 x.i) (.int .u32 x.o) (.int .u8 x.k) (.int .u32 x.i) (.int .u32 x.o) (.bool is0);have r8:=VM f8 rfl (.int .i64 0) (.slice none 0 0) (.int .u8 x.k) (.int .u32 x.i) (.int .u32 x.o) (.int .u8 x.k) (.int .u32 x.i) (.int .u32 x.o) (.bool is0);rw[oG.out] at x5 r8;generalize aV:(World.setCell (World.setCell (World.setCell (World.setCell (World.setCell (World.setCell (World.setCell (World.setCell (World.setCell W _ _) _ _) _ _) _ _) _ _) _ _) _ _) _ _) _ _)=w5 at *;rw[<-oG.out] at r8;clear aV k8 h8 f8 hW ak yx og;have H5:=HR.ext HC.out (xa.trans x5);have r5:=qb ra x5;have z8:wr.heap.size<p8:=Nat.lt_of_lt_of_le (zG.1 ra).1 aP;have z8':p8<w5.heap.size:=(zG.1 r8).1;have kn5:=qa H5.rn;rcases Nat.eq_zero_or_pos h with hz|hz
     case' inl =>
      have HO:XJ p.S h x (qo x) (qo x) is0:=by
       rw[hz];unfold XJ jr;rw[rV.out,hr.out,Int.toNat_natCast,gZ.out];split
       ·rename_i hh;split at hh
        ·cases hh
        ·rename_i hn;exact decide_eq_false hn
       ·rename_i hh;split at hh
        ·rename_i hn;cases hh;exact⟨decide_eq_true hn,rfl⟩
        ·cases hh
      have hd3:¬0<h:=zO;obtain⟨g',H7,HCL⟩:∃ g',RdI p h xs (some ⟨b,off,none⟩) c w f w5 g' k fk lk/\Hid (is0=true->0<h->(g' x.r).isSome=true):=⟨g,H5,zH fun _ h0=>absurd h0 hd3⟩
      replace r8:w5.heap[p8]?=some (.cells (Je 0 none 0 0 (qo x) (qo x) is0) 135 (0,0)):=r8;generalize hF1:qo x=F1 at r8 HO;obtain⟨L1,hL1⟩:∃ L1,L1=F1:=⟨_,rfl⟩
      replace HO:Hid (XJ p.S h x F1 L1 is0):=zH (by rw[hL1];exact HO);replace r8:w5.heap[p8]?=some (.cells (Je 0 none 0 0 F1 L1 is0) 135 (0,0)):=by rw[hL1];exact r8
      replace hz:=zH hz;replace H5:=zH H5;replace H7:=zH H7;generalize is0=B at r8 HO HCL;clear rV oG hF1 hL1;go_upto_region 8 with fail
     case' inr =>
      obtain⟨h',hh⟩:∃ h',h=h'+1:=⟨h-1,zO⟩
      have HLc:=HL h' hh;rw[show (h':Int)=(h:Int)-1 by omega] at HLc;have iM:wrap64 ((h:Int)-1)=(h:Int)-1:=IntWalk.wrap64_in _ (by have:=hMH.out;omega);replace hh:=zH hh;have ki5:=qa r5;go_wp2_with fail;refine(HLc r w5 g (H5.cen HC.out)).mono ?_;rintro e w6 ⟨v,g',rfl,⟨lvl,A9,n9,c9,F1,L1,rfl,bn⟩,bM,hm,hg,hn⟩;have hUA:=HLow.out;have C6:=(H5.cen HC.out).after bM hm hg hn;have HO:Hid (XJ p.S h x F1 L1 (okL p.S (h-1) r)):=by
       refine zH ?_;rw[show (h:Int)-1=(h':Int) by have:=hh.out;omega] at bn ⊢;have ai:okL p.S (h':Int) r=true->Va p.S h' r=some (F1,L1):=fun hok=>qfi (C6.known _ _ (bn hok)) hok;have hol:=qdb p.S h' r;unfold XJ;rw[hh.out,Vv,hr.out];rcases hls:Va p.S h' r with _|q
       ·rw[hls] at hol;exact hol
       ·rw[hls] at hol;have h1:=ai hol;rw[hls] at h1;cases h1;exact⟨hol,rfl⟩
      have HCL:Hid (okL p.S (h-1) r=true->0<h->(g' x.r).isSome=true):=zH fun hok _=>by rw[hr.out,bn hok];rfl
      generalize okL p.S ((h:Int)-1) r=B at *;have b8:=(hg.block p8 z8' zA1).trans r8;have H7:=HR.call8 HC.out (xa.trans x5) bM hm hg hn (b:=p8) zO z8' (Ka (.int .i64 lvl) (.slice A9 n9 c9) (.int .u8 F1.1) (.int .u32 F1.2.1) (.int .u32 F1.2.2) (.int .u8 L1.1) (.int .u32 L1.2.1) (.int .u32 L1.2.2) (.bool B));have r9:=VM b8 rfl (.int .i64 lvl) (.slice A9 n9 c9) (.int .u8 F1.1) (.int .u32 F1.2.1) (.int .u32 F1.2.2) (.int .u8 L1.1) (.int .u32 L1.2.1) (.int .u32 L1.2.2) (.bool B);have g9:=Ka (w:=w6) (b:=p8) (.int .i64 lvl) (.slice A9 n9 c9) (.int .u8 F1.1) (.int .u32 F1.2.1) (.int .u32 F1.2.2) (.int .u8 L1.1) (.int .u32 L1.2.1) (.int .u32 L1.2.2) (.bool B);have r59:=(g9.block wr.heap.size (by have:=hg.size;omega) zA1).trans ((hg.block wr.heap.size zO zA1).trans r5);have z9:p8<(World.setCell (World.setCell (World.setCell (World.setCell (World.setCell (World.setCell (World.setCell (World.setCell (World.setCell w6 _ _) _ _) _ _) _ _) _ _) _ _) _ _) _ _) _ _).heap.size:=(zG.1 r9).1;have f8:=qe b8;have kb8:=qa b8;clear r8 r5 bn HLc ki5;replace hz:=zH hz;replace H5:=zH H5;replace H7:=zH H7;replace C6:=zH C6;replace HLow:=zH HLow;clear oG rV;go_upto_region 8 with fail;generalize gp:(World.setCell (World.setCell (World.setCell (World.setCell (World.setCell (World.setCell (World.setCell (World.setCell (World.setCell w6 _ _) _ _) _ _) _ _) _ _) _ _) _ _) _ _) _ _)=w7 at *;clear gp b8 f8 kb8 bM hm hg hn g9 z8' hUA;have r8:=r9;have r5:=r59;clear r9 r59 z9
     all_goals
      replace HR:=zH HR;replace HCr:=zH HCr;replace HCa:=zH HCa;replace e3:=zH e3;replace gZ:=zH gZ;clear rxr wW rnr hb hA hlt hk wG yC hr2 zr xa ra x5 aP kn5;have HBD:=zH (fun hb=>H7.out.bad HC.out (HSTEP.out _ _ _ HO.out H7.out.sp hb));have kn7:=qa H7.out.rn;have kx7:=qa H7.out.rx;have fx7:=qe H7.out.rx;have kr7:=qa H7.out.rr;have fr7:=qe H7.out.rr;have k8:=qa r8;have k5:=qa r5;have sD:p8≠w.heap.size+2:=zO;have dS:w.heap.size+2≠p8:=zO;have hp3:p8≠w.heap.size+1+1:=zO;have hp4:w.heap.size+1+1≠p8:=zO;rcases hb0:B with _|_
      ·rw[hb0] at k8;have HB:=HBD.out (.inl hb0);replace HB:=zH HB;clear HBD;go_wp2;exact Uv (b:=w.heap.size+1) rfl rfl (VM H7.out.rr rfl _ _ _ _ _ _ _ _ _) HB.out
      ·rw[hb0] at k8;have HO1:XJ p.S h x F1 L1 true:=by rw[<-hb0];exact HO.out
       by_cases hF:F1=qo x
       ·subst hF;have HN0:=zH (HSTOK.out _ _ HO1 H7.out.sp rfl);have ai:0<h->∀ y∈xs.take (k+1),(g' y.r).isSome=true:=fun h0 y hy=>by
         rw[HTK.out,List.mem_append,List.mem_singleton] at hy;rcases hy with hy|rfl
         ·exact H7.out.cl h0 y hy
         ·exact HCL.out hb0 h0
        replace ai:=zH ai;replace HO1:=zH HO1;replace hb0:=zH hb0;rcases Nat.eq_zero_or_pos k with rX|rX
        ·have hk1:decide ((k:Int)>0)=false:=decide_eq_false zO;have hk2:((k:Int) == 0)=true:=by rw[beq_iff_eq];omega
         have uP:decide (0<k)=false:=decide_eq_false zO;have HN:=HN0.out (fun h=>zO);rw[if_pos rX] at HN;replace HN:=zH HN;replace rX:=zH rX;clear HBD HN0;have HR9:=H7.out.set6 HC.out HN.out ai.out;dsimp only[qo] at HR9;replace HR9:=zH HR9;go_wp2_with fail;refine⟨⟨k+1,g',(x.k,x.i,x.o),L1,aH,rfl,HR9.out⟩,?_⟩;simp[intOf];omega
        ·have hk1:decide ((k:Int)>0)=true:=decide_eq_true zO;have hk2:((k:Int) == 0)=false:=by rw[beq_eq_false_iff_ne];omega
         have uP:decide (0<k)=true:=decide_eq_true rX;have oV:¬k=0:=zO;have hkz:=zH rX;clear rX oV;go_wp2_with fail;refine(vK lk.1 lk.2.1 lk.2.2 x.k x.i x.o _).mono ?_;rintro e wl ⟨rfl,hB⟩;have H8:=H7.out.ext HC.out hB;have HS8:=zH (HSTEP.out _ _ _ HO1.out H8.sp);have kn8:=qa H8.rn;have kx8:=qa H8.rx;have fx8:=qe H8.rx;have kr8:=qa H8.rr;have fr8:=qe H8.rr;have r88:=qb r8 hB;rw[hb0.out] at r88;have k88:=qa r88;clear kn7 kx7 fx7 kr7 fr7 k8 k5 hB r8 r5 HBD;replace H8:=zH H8;rcases hls:Jh lk.1 lk.2.1 lk.2.2 x.k x.i x.o with _|_
         ·have HB:=zH (H8.out.bad HC.out (HS8.out (.inr (.inr ⟨hkz.out,hls⟩))));go_wp2;exact Uv (b:=w.heap.size+1) rfl rfl (VM H8.out.rr rfl _ _ _ _ _ _ _ _ _) HB.out
         ·have HN:=HN0.out (fun _=>hls);rw[if_neg (by have:=hkz.out;omega)] at HN;replace HN:=zH HN;clear HN0;have HR9:=zH (H8.out.set3 HC.out HN.out ai.out);go_wp2_with fail;refine⟨⟨k+1,g',fk,L1,aH,rfl,HR9.out⟩,?_⟩;simp[intOf];omega
       ·have HB:=HBD.out (.inr (.inl hF));replace HB:=zH HB;clear HBD;replace hb0:=zH hb0;go_wp2_with fail;all_goals first
         |exact absurd (Prod.ext ‹F1.1=x.k› (Prod.ext ‹F1.2.1=x.i› ‹F1.2.2=x.o›)) hF
         |exact Uv (b:=w.heap.size+1) rfl rfl (VM H7.out.rr rfl _ _ _ _ _ _ _ _ _) HB.out
  ·have mD:k=xs.length:=zO;have HQ:qeF p h A c xs (jt h A xs.length c fk lk true) g:=by
    refine⟨fk,lk,true,rfl,?_,fun _ h0 y hy=>HR.cl h0 y (by rw[mD,List.take_length];exact hy)⟩;have:=HR.sp
    rwa [mD,List.take_length] at this
   have HB:=zH (HR.ret HC.out (Ka (.int .i64 h) (.slice A xs.length c) (.int .u8 fk.1) (.int .u32 fk.2.1) (.int .u32 fk.2.2) (.int .u8 lk.1) (.int .u32 lk.2.1) (.int .u32 lk.2.2) (.bool true)) HQ);have kx:=qa rxr;have kr:=qa wW;have fr:=qe wW;have rr:=zH wW;replace HCr:=zH HCr;replace HR:=zH HR;replace HQ:=zH HQ;replace mD:=zH mD;clear mr rxr rnr wW zr;go_wp2;exact Uv (b:=w.heap.size+1) rfl rfl (VM rr.out rfl _ _ _ _ _ _ _ _ _) HB.out
theorem qcH (p:CP):∀ h:Nat,h<=5->ReadC p h
 |0,_=>qcI p 0 fun _ e=>zO
 |h+1,hh=>qcI p (h+1) fun h' e=>by
  have e':h=h':=zO;subst e';exact qcT p (h:Int) (.inr zO) fun n hn hL=>by
   have e':n=h:=by have:=hL zO;omega
   subst e';exact qcH p n zO
theorem qbc (p:CP):qgI p (-1):=qcT p (-1) (.inl rfl) fun h hh _=>qcH p h hh
end Go.Proofs.YtpbniokljofedaaGreat
