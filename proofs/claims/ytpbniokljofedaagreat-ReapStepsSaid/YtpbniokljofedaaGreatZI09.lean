/- Texts Learn, CRead, joined. -/
import Derived.Test.YtpbniokljofedaaGreatZI08
set_option linter.unusedSimpArgs false
set_option linter.unusedVariables false
set_option maxHeartbeats 8000000
open Go.Proofs.Tryz
namespace Go.Proofs.YtpbniokljofedaaGreat
open Go.RowKit
theorem Tryz.info_span:(Tryz.prog.info? 135).map (fun i=>(i.zero,i.size,i.bytes))=some (some (ZV 0 none 0 0 (0,0,0) (0,0,0) false),9,64):=zQ
theorem qhP (w:World):(zeroValue 135).run prog w=.ok (ZV 0 none 0 0 (0,0,0) (0,0,0) false) w:=by obtain⟨i0,hi,aY,_,_⟩:=info_parts Tryz.info_span;simp[zeroValue,typeInfo,hi,aY]
theorem set9 {cs:Array Value} (hs:cs.size=9) (x0 x1 x2 x3 x4 x5 x6 x7 x8:Value) : ((((((((cs.setIfInBounds 0 x0).setIfInBounds 1 x1).setIfInBounds 2 x2).setIfInBounds 3 x3).setIfInBounds 4 x4).setIfInBounds 5 x5).setIfInBounds 6 x6).setIfInBounds 7 x7).setIfInBounds 8 x8=#[x0,x1,x2,x3,x4,x5,x6,x7,x8]:=by
 apply Array.ext_getElem?;intro j;by_cases hj:j<9
 ·have:j=0\/j=1\/j=2\/j=3\/j=4\/j=5\/j=6\/j=7\/j=8:=zO;rcases this with rfl|rfl|rfl|rfl|rfl|rfl|rfl|rfl|rfl <;> simp[hs]
 ·rw[Array.getElem?_eq_none zA2,Array.getElem?_eq_none zA2]
theorem vP {w:World} {b:Nat} {ty:TypeId} {cs:Array Value} (h:w.heap[b]?=some (.cells cs ty (0,0))) (hs:cs.size=9) (x0 x1 x2 x3 x4 x5 x6 x7 x8:Value) : (((((((((w.setCell ⟨b,0,none⟩ x0).setCell ⟨b,1,none⟩ x1).setCell ⟨b,2,none⟩ x2).setCell ⟨b,3,none⟩ x3).setCell ⟨b,4,none⟩ x4).setCell ⟨b,5,none⟩ x5).setCell ⟨b,6,none⟩ x6).setCell ⟨b,7,none⟩ x7).setCell ⟨b,8,none⟩ x8).heap[b]?=some (.cells #[x0,x1,x2,x3,x4,x5,x6,x7,x8] ty (0,0)):=by
 have:=qi (qi (qi (qi (qi (qi (qi (qi (qi h 0 x0) 1 x1) 2 x2) 3 x3) 4 x4) 5 x5) 6 x6) 7 x7) 8 x8;rw[this,set9 hs]
theorem JU {w0 w:World} {B b:Nat} (h:Below B w0 w) (hb:B<=b) (x0 x1 x2 x3 x4 x5 x6 x7 x8:Value):Below B w0 (((((((((w.setCell ⟨b,0,none⟩ x0).setCell ⟨b,1,none⟩ x1).setCell ⟨b,2,none⟩ x2).setCell ⟨b,3,none⟩ x3).setCell ⟨b,4,none⟩ x4).setCell ⟨b,5,none⟩ x5).setCell ⟨b,6,none⟩ x6).setCell ⟨b,7,none⟩ x7).setCell ⟨b,8,none⟩ x8):=
 Below.setCell (Below.setCell (Below.setCell (Below.setCell (Below.setCell (Below.setCell (Below.setCell (Below.setCell (Below.setCell h (p:=⟨b,0,none⟩) hb _) (p:=⟨b,1,none⟩) hb _) (p:=⟨b,2,none⟩) hb _) (p:=⟨b,3,none⟩) hb _) (p:=⟨b,4,none⟩) hb _) (p:=⟨b,5,none⟩) hb _) (p:=⟨b,6,none⟩) hb _) (p:=⟨b,7,none⟩) hb _) (p:=⟨b,8,none⟩) hb _
theorem Vt {w:World} {b:Nat} (x0 x1 x2 x3 x4 x5 x6 x7 x8:Value):w.grownBy (((((((((w.setCell ⟨b,0,none⟩ x0).setCell ⟨b,1,none⟩ x1).setCell ⟨b,2,none⟩ x2).setCell ⟨b,3,none⟩ x3).setCell ⟨b,4,none⟩ x4).setCell ⟨b,5,none⟩ x5).setCell ⟨b,6,none⟩ x6).setCell ⟨b,7,none⟩ x7).setCell ⟨b,8,none⟩ x8) (some b):=
 Qv.trans (Qv.trans (Qv.trans (Qv.trans (Qv.trans (Qv.trans (Qv.trans (Qv.trans Qv)))))))
theorem Tx {p:CP} {f g:Int->Option Value} {φ:Value->(Int->Option Value)->Prop} {w w5 w6 w7 w7' w8 W:World} {a:Nat} {lvl:Nat} {xs:List It} {A:Option Addr} {c:Nat} {fk lk:K3} {b:Bool} {u:Value} (hfa:f a=none) (hC:Cen p w f) (h5:Ext w w5) (hlt:w.heap.size<w5.heap.size) (bP:Jf f g) (oN:QU w6 p.mb g) (hg6:w5.grownBy w6 (some p.mb)) (hn:News p.S w5 f g w6) (rV:w6.grownBy w7 (some w.heap.size)) (h7:Ext w7 w7') (hm7:QU w7' p.mb g) (h78:w7'.grownBy w8 (some p.mb)) (hm8:QU w8 p.mb (fun r=>if r=(a:Int) then some (ZV lvl A xs.length c fk lk b) else g r)) (h8W:w8.grownBy W (some w.heap.size)) (ha:8<=a) (bK:a<256) (hnode:qv p.S a=some ((lvl:Int),xs)) (aG:Zv (w.heap.size+1) w5 (.slice A xs.length c) xs) (aU:JT p.S lvl xs fk lk b) (bJ:b=true->0<lvl->∀ y∈xs,(g y.r).isSome=true) (hφ:φ u (fun r=>if r=(a:Int) then some (ZV lvl A xs.length c fk lk b) else g r)):YT p f φ w (.returned u) W:=by
 have hmb:p.mb<w.heap.size:=by have:=hC.low;omega
 have hC5:=hC.ext h5;have z6:=hg6.size;have z7:=rV.size;have z7':=h7.size;have z8:=h78.size;have zW:=h8W.size;have yU:QU W p.mb _:=hm8.of_heap (h8W.block _ zO zA2);refine qhg (w5:=w5) (w6:=w6) hfa h5 hlt bP hg6 hn yU ?_ zO (fun q h1 h2=>?_) ha bK hnode ?_ aU bJ hφ
 ·refine World.grownBy.andThen (World.grownBy.andThen (World.grownBy.andThen (World.grownBy.andThen (World.grownBy.andThen (zy h5 (some p.mb)) hg6 (fun j e=>.inr (by rw[<-e]))) rV (fun j e=>.inl (by cases e;omega))) (zy h7 none) (fun j e=>by cases e)) h78 (fun j e=>.inr (by rw[<-e]))) h8W (fun j e=>.inl (by cases e;omega))
 ·have aN:some q.block≠some w.heap.size:=zA2;rw[World.cell?_of_block (h8W.block q.block zO aN),js hm7 hm8 h78 q zO,Below.cell h7 (p:=q) zO,World.cell?_of_block (rV.block q.block zO aN)]
 ·exact aG.keep hg6.size (fun q _ h2=>js hC5.map oN hg6 q h2)
abbrev qcb:Value:=ZV 0 none 0 0 (0,0,0) (0,0,0) false
theorem jr {R:Ending->World->Prop} {a:Act} {W:World} {b:Nat} {lvl:Int} {A:Option Addr} {n c:Nat} {f l:K3} {bo:Bool} (h6:a.tmps[6]?.getD undef=.pointer (some ⟨b,0,none⟩)) (hd:a.defers=[]) (aC:W.heap[b]?=some (.cells (jC lvl A n c f l bo) 135 (0,0))) (hR:R (.returned (ZV lvl A n c f l bo)) W):bodyPost prog Tryz.f84 R .ret a W:=by
 refine bodyPost_ret (v:=ZV lvl A n c f l bo) ?_ hd hR;have k:=qa aC;simp[results,results84,go_sem,h6,k]
theorem cen_node {p:CP} {W:World} {g:Int->Option Value} {a:Nat} (hC:Cen p W g) (ha:8<=a) (bK:a<256):Calls prog 67 #[.pointer (some ⟨p.bb,0,none⟩),.int .i64 (a:Int)] W (QV (UV W.heap.size (qv p.S a)) W):=by
 obtain⟨_,A1,c1,e1,_⟩:=hC.onB.2.2.bs;obtain⟨_,_,⟨A2,c2,e2,_⟩,_⟩:=hC.onB.2.2.ws;obtain⟨A3,c3,e3,_⟩:=hC.onB.2.2.now;obtain⟨A4,c4,e4,_⟩:=hC.onB.2.2.last;have h:=hC.onB;rw[e1,e2,e3,e4] at h;exact vy 0 p.bb _ _ _ _ _ _ _ _ _ _ _ _ p.S hC.may a ha bK W h
set_option maxRecDepth 100000 in
theorem qbc (p:CP) (L:Int) (hL:L=-1\/(0<=L/\L<=5)) (HR:∀ h:Nat,h<=5->(0<=L->(h:Int)=L)->ReadC p h):qeD p L:=by
 intro r w f hC;by_cases hr:r<8\/256<=r
 ·have ho:okL p.S L r=false:=by unfold okL;rw[if_neg zO]
  have HP:UU p L r qcb f:=⟨0,none,0,0,_,_,by rw[ho],fun h=>by rw[ho] at h;cases h⟩
  replace HP:=zH HP;replace hC:=zH hC;clear ho HR;go_enter func84,ntmps84;go_wp2;all_goals first|(exfalso;omega)|skip
  all_goals
   generalize aZ:(World.alloc _ _)=wf;have rf:wf.heap[w.heap.size]?=some (.cells (jC 0 none 0 0 (0,0,0) (0,0,0) false) 135 (0,0)):=by rw[<-aZ];exact zI _ _ _ rfl
   have xf:Ext w wf:=by rw[<-aZ];exact zN _ _
   have kf:=qa rf;exact bodyPost_ret (v:=qcb) (by simp[results,results84,go_sem,kf]) rfl (YT.same hC.out xf HP.out)
 ·obtain⟨a,rfl⟩:∃ a:Nat,r=(a:Int):=⟨r.toNat,zO⟩
  have ha:8<=a:=zO;have bK:a<256:=zO;have hd1:decide ((a:Int)<8)=false:=decide_eq_false zO;have hd2:decide ((a:Int)≥256)=false:=decide_eq_false zO;have HOK:Hid (okL p.S L a=match qv p.S a with|none=>false|some (lvl,xs)=>(Qg p.S lvl.toNat xs).isSome && (decide (L<0) || (decide (lvl=L) && decide (xs.length≠0)))):=by refine zH ?_;unfold okL;rw[if_pos zO,Int.toNat_natCast];all_goals rfl
  have k0:∀ W,Ext w W->W.cell? ⟨p.cb,5,none⟩=some (.map (some p.mb)):=fun W h=>by rw[qa (qb hC.row h),hC.c5]
  have k1:∀ W,Ext w W->W.cell? ⟨p.cb,4,none⟩=some (.pointer (some ⟨p.bb,0,none⟩)):=fun W h=>by rw[qa (qb hC.row h),hC.c4]
  have uJ:p.cb<w.heap.size:=(zG.1 hC.row).1;have hk5:w.cell? ⟨p.cb,5,none⟩=some (.map (some p.mb)):=k0 w (Ext.refl _);replace hC:=zH hC;clear hr;go_enter func84,ntmps84;go_wp2_with (at_lookup;refine qI ?_);generalize aA:(World.alloc _ _)=w1;have x1:Ext w w1:=by rw[<-aA];exact zN _ _
  have q1:w1.heap[w.heap.size]?=some (.cells (jC 0 none 0 0 (0,0,0) (0,0,0) false) 135 (0,0)):=by rw[<-aA];exact zI _ _ _ rfl
  clear aA;have hC1:=hC.out.ext x1;refine Qh.go (Vo _ rfl (.tmp 21) (.tmp 22) 81 rfl underlying81 underlying3 (qhP _) rfl rfl hC1.map ?_);rcases hfr:f (a:Int) with _|v
  ·have kq:=qa q1;have fq:=qe q1;go_wp2_with fail;have q2:=vP q1 rfl (.int .i64 0) (.slice none 0 0) (.int .u8 0) (.int .u32 0) (.int .u32 0) (.int .u8 0) (.int .u32 0) (.int .u32 0) (.bool false);have x2:Ext w _:=JU x1 (zM w.heap.size) (.int .i64 0) (.slice none 0 0) (.int .u8 0) (.int .u32 0) (.int .u32 0) (.int .u8 0) (.int .u32 0) (.int .u32 0) (.bool false);generalize dA:(World.setCell (World.setCell (World.setCell (World.setCell (World.setCell (World.setCell (World.setCell (World.setCell (World.setCell w1 _ _) _ _) _ _) _ _) _ _) _ _) _ _) _ _) _ _)=w2 at *;clear dA kq fq q1 x1 hC1;refine(cen_node (hC.out.ext x2) ha bK).mono ?_;rintro e w3 ⟨u,rfl,hu,hB⟩;have x3:Ext w w3:=x2.trans hB;have q3:=qb q2 hB;have s3:w.heap.size<w3.heap.size:=(zG.1 q3).1;have s2:w.heap.size<w2.heap.size:=(zG.1 q2).1;have k3:=qa q3;have f3:=qe q3;have HP0:okL p.S L a=false->UU p L a qcb f:=fun h=>⟨0,none,0,0,_,_,by rw[h],fun h'=>by rw[h] at h';cases h'⟩
   rcases hnode:qv p.S a with _|⟨lvl',xs⟩
   ·rw[hnode] at hu HOK;obtain⟨er,aN,rfl⟩:=hu;have hv:=HP0 HOK.out;have pg:(er != 0)=true:=by rw[bne_iff_ne];exact aN
    replace hv:=zH hv;clear HP0 HOK HR hnode k0 k1 hk5;go_wp2;exact jr (b:=w.heap.size) rfl rfl ((zK _ _ _ (by simpa using s3)).trans (vP q3 rfl _ _ _ _ _ _ _ _ _)) (YT.same hC.out (Below.alloc (JU x3 (zM _) _ _ _ _ _ _ _ _ _) zA2 _) hv.out)
   ·rw[hnode] at hu HOK;obtain⟨A,c,rfl,aG⟩:=hu;obtain⟨hmay,oq,hlv⟩:=Qc hnode;obtain⟨lvl,rfl⟩:=Int.eq_ofNat_of_zero_le hlv;replace HOK:Hid (okL p.S L a=((Qg p.S lvl xs).isSome && (decide (L<0) || (decide ((lvl:Int)=L) && decide (xs.length≠0))))):=HOK;have hl5:lvl<=5:=by unfold Qe jv at hmay;simp at hmay;omega
    by_cases hmm:0<=L/\(lvl:Int)≠L
    ·have hv:=HP0 (by rw[HOK.out];simp only[decide_eq_false (show ¬L<0 by omega),decide_eq_false hmm.2];simp);have dK:decide (L≥0)=true:=decide_eq_true hmm.1;have yC:((lvl:Int) != L)=true:=by rw[bne_iff_ne];exact hmm.2
     replace hv:=zH hv;clear HP0 HOK HR hnode k0 k1 hk5 hmm;go_wp2;exact jr (b:=w.heap.size) rfl rfl ((zK _ _ _ (by simpa using s3)).trans (vP q3 rfl _ _ _ _ _ _ _ _ _)) (YT.same hC.out (Below.alloc (JU x3 (zM _) _ _ _ _ _ _ _ _ _) zA2 _) hv.out)
    ·have hLc:L<0\/(0<=L/\(lvl:Int)=L):=by
      rcases hL with h|h
      ·exact .inl zO
      ·exact .inr ⟨h.1,Classical.byContradiction fun h'=>hmm ⟨h.1,h'⟩⟩
     have HRD:=zH (HR lvl hl5 (fun h=>zO));clear HR;rcases hLc with hL0|⟨hL0,hLl⟩
     ·skip
      have dK:decide (L≥0)=false:=decide_eq_false zO;have lQ:okL p.S L a=(Qg p.S lvl xs).isSome:=by rw[HOK.out,decide_eq_true hL0,Bool.true_or,Bool.and_true]
      replace lQ:=zH lQ;clear HOK HP0;go_wp2_with fail;generalize aK:(World.alloc _ _)=w5;have x35:Ext w3 w5:=by rw[<-aK];exact zN _ _
      clear aK k3 f3;have x5:Ext w w5:=x3.trans x35;have q5:=qb q3 x35;have lM:=hC.out.low;have s5:w.heap.size<w5.heap.size:=(zG.1 q5).1;have di:Zv (w.heap.size+1) w5 (.slice A xs.length c) xs:=(aG.ext x35).mono zO;refine(HRD.out xs A c w5 f hmay oq (di.mono zO) (hC.out.ext x5)).mono ?_;rintro e w6 ⟨v,g,rfl,⟨fk,lk,b,rfl,aU,bJ⟩,bP,oN,hg6,hn6⟩;have hC6:=(hC.out.ext x5).after bP oN hg6 hn6;have q6:w6.heap[w.heap.size]?=_:=(hg6.block _ s5 zA2).trans q5;have k6:=qa q6;have f6:=qe q6;go_wp2_with fail;have q7:=vP q6 rfl (.int .i64 lvl) (.slice A xs.length c) (.int .u8 fk.1) (.int .u32 fk.2.1) (.int .u32 fk.2.2) (.int .u8 lk.1) (.int .u32 lk.2.1) (.int .u32 lk.2.2) (.bool b);have rV:=Vt (w:=w6) (b:=w.heap.size) (.int .i64 lvl) (.slice A xs.length c) (.int .u8 fk.1) (.int .u32 fk.2.1) (.int .u32 fk.2.2) (.int .u8 lk.1) (.int .u32 lk.2.1) (.int .u32 lk.2.2) (.bool b);generalize gu:(World.setCell (World.setCell (World.setCell (World.setCell (World.setCell (World.setCell (World.setCell (World.setCell (World.setCell w6 _ _) _ _) _ _) _ _) _ _) _ _) _ _) _ _) _ _)=w7 at *;have z56:=hg6.size;have tq:w7.heap[p.cb]?=_:=(rV.block _ zO zA2).trans hC6.row;have hm7:QU w7 p.mb g:=oN.of_heap (rV.block _ zO zA2);have hc5:=hC6.c5;clear gu k6 f6 q6;have g5:∀ W,qk.r w7 W->W.cell? ⟨p.cb,5,none⟩=some (.map (some p.mb)):=fun W h=>by rw[qa (qb tq h),hc5]
      have gq:∀ W,qk.r w7 W->∀ i,W.cell? ⟨w.heap.size,i,none⟩=(jC lvl A xs.length c fk lk b)[i]?:=fun W h=>qa (qb q7 h);refine qm zQ ?_;refine Zo (w:=w7) qk (qD []) [true,true,true,true,true,true] 1 zQ zQ zQ zQ zQ zQ ?st (Rel.drew _ _) ?walk
      case st=>exact qj (fun _ h=>by cases h)
      case walk =>
       intro K hK;dsimp only[qp];repeat ((first|(refine qd ?_ zA0 zA0 (fun W hW _=>⟨W,?_,Rel.refl _ W⟩) ?_;rotate_left;(go_simp<;>with_reducible rfl))|(refine qh zA0 ?_));try simp only[Act.put,ql,qf,qc,qg,zA,zB,zC])
       refine qt (hK _ _ fun W hW hF=>?_);clear hF hK g5 gq;have ay:Ext w7 W:=hW;have z7:=rV.size;have q7':=qb q7 ay;have yU:QU W p.mb g:=hm7.of_heap (ay.block _ zO);refine zB5 ?_;refine jg _ rfl (.tmp 56) (.tmp 57) (.tmp 58) 81 rfl underlying81 underlying3 rfl rfl rfl yU ?_;intro w8 hm8 hg8;have z7W:=ay.size;have q8:w8.heap[w.heap.size]?=_:=(hg8.block _ zO zA2).trans q7';have k8:=qa q8;have f8:=qe q8;replace bJ:=zH bJ;replace aU:=zH aU;replace hnode:=zH hnode;replace hfr:=zH hfr;go_wp2;refine Qm ?_;go_wp2;exact jr (b:=w.heap.size) rfl rfl (vP q8 rfl _ _ _ _ _ _ _ _ _) (Tx hfr.out hC.out x5 s5 bP oN hg6 hn6 rV ay yU hg8 hm8 (Vt _ _ _ _ _ _ _ _ _) ha bK hnode.out di aU.out bJ.out ⟨lvl,A,_,c,fk,lk,by rw[lQ.out,<-aU.out.1],fun _=>if_pos rfl⟩)
     ·by_cases hm0:xs.length=0
      case neg =>
       have yC:((lvl:Int) != L)=false:=by rw[bne_eq_false_iff_eq];exact hLl
       have lQ:okL p.S L a=(Qg p.S lvl xs).isSome:=by rw[HOK.out,decide_eq_true hLl,decide_eq_true hm0];simp
       have pg:((xs.length:Int) == 0)=false:=by rw[beq_eq_false_iff_ne];omega
       replace lQ:=zH lQ;replace hLl:=zH hLl;replace hm0:=zH hm0;clear HOK HP0;go_wp2_with fail;generalize aK:(World.alloc _ _)=w5;have x35:Ext w3 w5:=by rw[<-aK];exact zN _ _
       clear aK k3 f3;have x5:Ext w w5:=x3.trans x35;have q5:=qb q3 x35;have lM:=hC.out.low;have s5:w.heap.size<w5.heap.size:=(zG.1 q5).1;have di:Zv (w.heap.size+1) w5 (.slice A xs.length c) xs:=(aG.ext x35).mono zO;refine(HRD.out xs A c w5 f hmay oq (di.mono zO) (hC.out.ext x5)).mono ?_;rintro e w6 ⟨v,g,rfl,⟨fk,lk,b,rfl,aU,bJ⟩,bP,oN,hg6,hn6⟩;have hC6:=(hC.out.ext x5).after bP oN hg6 hn6;have q6:w6.heap[w.heap.size]?=_:=(hg6.block _ s5 zA2).trans q5;have k6:=qa q6;have f6:=qe q6;go_wp2_with fail;have q7:=vP q6 rfl (.int .i64 lvl) (.slice A xs.length c) (.int .u8 fk.1) (.int .u32 fk.2.1) (.int .u32 fk.2.2) (.int .u8 lk.1) (.int .u32 lk.2.1) (.int .u32 lk.2.2) (.bool b);have rV:=Vt (w:=w6) (b:=w.heap.size) (.int .i64 lvl) (.slice A xs.length c) (.int .u8 fk.1) (.int .u32 fk.2.1) (.int .u32 fk.2.2) (.int .u8 lk.1) (.int .u32 lk.2.1) (.int .u32 lk.2.2) (.bool b);generalize gu:(World.setCell (World.setCell (World.setCell (World.setCell (World.setCell (World.setCell (World.setCell (World.setCell (World.setCell w6 _ _) _ _) _ _) _ _) _ _) _ _) _ _) _ _) _ _)=w7 at *;have z56:=hg6.size;have tq:w7.heap[p.cb]?=_:=(rV.block _ zO zA2).trans hC6.row;have hm7:QU w7 p.mb g:=oN.of_heap (rV.block _ zO zA2);have hc5:=hC6.c5;clear gu k6 f6 q6;have g5:∀ W,qk.r w7 W->W.cell? ⟨p.cb,5,none⟩=some (.map (some p.mb)):=fun W h=>by rw[qa (qb tq h),hc5]
       have gq:∀ W,qk.r w7 W->∀ i,W.cell? ⟨w.heap.size,i,none⟩=(jC lvl A xs.length c fk lk b)[i]?:=fun W h=>qa (qb q7 h);refine qm zQ ?_;refine Zo (w:=w7) qk (qD []) [true,true,true,true,true,true] 1 zQ zQ zQ zQ zQ zQ ?st (Rel.drew _ _) ?walk
       case st=>exact qj (fun _ h=>by cases h)
       case walk =>
        intro K hK;dsimp only[qp];repeat ((first|(refine qd ?_ zA0 zA0 (fun W hW _=>⟨W,?_,Rel.refl _ W⟩) ?_;rotate_left;(go_simp<;>with_reducible rfl))|(refine qh zA0 ?_));try simp only[Act.put,ql,qf,qc,qg,zA,zB,zC])
        refine qt (hK _ _ fun W hW hF=>?_);clear hF hK g5 gq;have ay:Ext w7 W:=hW;have z7:=rV.size;have q7':=qb q7 ay;have yU:QU W p.mb g:=hm7.of_heap (ay.block _ zO);refine zB5 ?_;refine jg _ rfl (.tmp 56) (.tmp 57) (.tmp 58) 81 rfl underlying81 underlying3 rfl rfl rfl yU ?_;intro w8 hm8 hg8;have z7W:=ay.size;have q8:w8.heap[w.heap.size]?=_:=(hg8.block _ zO zA2).trans q7';have k8:=qa q8;have f8:=qe q8;replace bJ:=zH bJ;replace aU:=zH aU;replace hnode:=zH hnode;replace hfr:=zH hfr;go_wp2;refine Qm ?_;go_wp2;exact jr (b:=w.heap.size) rfl rfl (vP q8 rfl _ _ _ _ _ _ _ _ _) (Tx hfr.out hC.out x5 s5 bP oN hg6 hn6 rV ay yU hg8 hm8 (Vt _ _ _ _ _ _ _ _ _) ha bK hnode.out di aU.out bJ.out ⟨lvl,A,_,c,fk,lk,by rw[lQ.out,<-aU.out.1],fun _=>if_pos rfl⟩)
      case pos =>
       have yC:((lvl:Int) != L)=false:=by rw[bne_eq_false_iff_eq];exact hLl
       have lQ:okL p.S L a=false:=by rw[HOK.out];simp[hm0,show ¬L<0 by omega]
       have pg:((xs.length:Int) == 0)=true:=by rw[beq_iff_eq];omega
       replace lQ:=zH lQ;replace hLl:=zH hLl;replace hm0:=zH hm0;clear HOK HP0;go_wp2_with fail;generalize aK:(World.alloc _ _)=w5;have x35:Ext w3 w5:=by rw[<-aK];exact zN _ _
       clear aK k3 f3;have x5:Ext w w5:=x3.trans x35;have q5:=qb q3 x35;have lM:=hC.out.low;have s5:w.heap.size<w5.heap.size:=(zG.1 q5).1;have di:Zv (w.heap.size+1) w5 (.slice A xs.length c) xs:=(aG.ext x35).mono zO;refine(HRD.out xs A c w5 f hmay oq (di.mono zO) (hC.out.ext x5)).mono ?_;rintro e w6 ⟨v,g,rfl,⟨fk,lk,b,rfl,aU,bJ⟩,bP,oN,hg6,hn6⟩;have hC6:=(hC.out.ext x5).after bP oN hg6 hn6;have q6:w6.heap[w.heap.size]?=_:=(hg6.block _ s5 zA2).trans q5;have k6:=qa q6;have f6:=qe q6;go_wp2_with fail;have q7:=vP q6 rfl (.int .i64 lvl) (.slice A xs.length c) (.int .u8 fk.1) (.int .u32 fk.2.1) (.int .u32 fk.2.2) (.int .u8 lk.1) (.int .u32 lk.2.1) (.int .u32 lk.2.2) (.bool b);have rV:=Vt (w:=w6) (b:=w.heap.size) (.int .i64 lvl) (.slice A xs.length c) (.int .u8 fk.1) (.int .u32 fk.2.1) (.int .u32 fk.2.2) (.int .u8 lk.1) (.int .u32 lk.2.1) (.int .u32 lk.2.2) (.bool b);generalize gu:(World.setCell (World.setCell (World.setCell (World.setCell (World.setCell (World.setCell (World.setCell (World.setCell (World.setCell w6 _ _) _ _) _ _) _ _) _ _) _ _) _ _) _ _) _ _)=w7 at *;have z56:=hg6.size;have tq:w7.heap[p.cb]?=_:=(rV.block _ zO zA2).trans hC6.row;have hm7:QU w7 p.mb g:=oN.of_heap (rV.block _ zO zA2);have hc5:=hC6.c5;clear gu k6 f6 q6;have g5:∀ W,qk.r w7 W->W.cell? ⟨p.cb,5,none⟩=some (.map (some p.mb)):=fun W h=>by rw[qa (qb tq h),hc5]
       have gq:∀ W,qk.r w7 W->∀ i,W.cell? ⟨w.heap.size,i,none⟩=(jC lvl A xs.length c fk lk b)[i]?:=fun W h=>qa (qb q7 h);refine qm zQ ?_;refine Zo (w:=w7) qk (qD []) [true,true,true,true,true,true] 1 zQ zQ zQ zQ zQ zQ ?st (Rel.drew _ _) ?walk
       case st=>exact qj (fun _ h=>by cases h)
       case walk =>
        intro K hK;dsimp only[qp];repeat ((first|(refine qd ?_ zA0 zA0 (fun W hW _=>⟨W,?_,Rel.refl _ W⟩) ?_;rotate_left;(go_simp<;>with_reducible rfl))|(refine qh zA0 ?_));try simp only[Act.put,ql,qf,qc,qg,zA,zB,zC])
        refine qt (hK _ _ fun W hW hF=>?_);clear hF hK g5 gq;have ay:Ext w7 W:=hW;have z7:=rV.size;have q7':=qb q7 ay;have yU:QU W p.mb g:=hm7.of_heap (ay.block _ zO);refine zB5 ?_;refine jg _ rfl (.tmp 56) (.tmp 57) (.tmp 58) 81 rfl underlying81 underlying3 rfl rfl rfl yU ?_;intro w8 hm8 hg8;have z7W:=ay.size;have q8:w8.heap[w.heap.size]?=_:=(hg8.block _ zO zA2).trans q7';have k8:=qa q8;have f8:=qe q8;replace bJ:=zH bJ;replace aU:=zH aU;replace hnode:=zH hnode;replace hfr:=zH hfr;go_wp2;refine Qm ?_;go_wp2;exact jr (b:=w.heap.size) (f:=(0,0,0)) (l:=(0,0,0)) rfl rfl (vP q8 rfl _ _ _ _ _ _ _ _ _) (Tx hfr.out hC.out x5 s5 bP oN hg6 hn6 rV ay yU hg8 hm8 (Vt _ _ _ _ _ _ _ _ _) ha bK hnode.out di aU.out bJ.out ⟨0,none,0,0,_,_,by rw[lQ.out],fun h=>by rw[lQ.out] at h;cases h⟩)
  ·obtain⟨n,lvl,xs,A,c,fk,lk,b,hn,_,_,hnode,rfl,aG,hHX,hclo⟩:=hC1.known _ _ hfr;obtain rfl:a=n:=zO;have hok:okL p.S L a=(b && (decide (L<0) || (decide ((lvl:Int)=L) && decide (xs.length≠0)))):=by rw[HOK.out,hnode,hHX.1];rfl
   have HPv:okL p.S L a=b->UU p L a (ZV lvl A xs.length c fk lk b) f:=fun h=>⟨_,A,_,c,fk,lk,by rw[h],fun _=>hfr⟩
   have HP0:okL p.S L a=false->UU p L a qcb f:=fun h=>⟨0,none,0,0,_,_,by rw[h],fun h'=>by rw[h] at h';cases h'⟩
   replace HPv:=zH HPv;replace HP0:=zH HP0;replace hC1:=zH hC1;replace hok:=zH hok;clear hfr hclo hHX aG hnode HOK HR hn k0 k1 hk5;have kq:=qa q1;have fq:=qe q1;generalize fH:xs.length=m at *;clear fH;by_cases hL0:L<0
   ·have hv:=HPv.out (by rw[hok.out,decide_eq_true hL0,Bool.true_or,Bool.and_true]);have dK:decide (L≥0)=false:=decide_eq_false zO;replace hv:=zH hv;clear HPv HP0 hok;go_wp2;exact jr (b:=w.heap.size) rfl rfl (vP (vP q1 rfl _ _ _ _ _ _ _ _ _) rfl _ _ _ _ _ _ _ _ _) (YT.same hC.out (JU (JU x1 (zM _) _ _ _ _ _ _ _ _ _) (zM _) _ _ _ _ _ _ _ _ _) hv.out)
   ·have dK:decide (L≥0)=true:=decide_eq_true zO;by_cases hll:(lvl:Int)=L/\m≠0
    ·have hv:=HPv.out (by rw[hok.out,decide_eq_false hL0,decide_eq_true hll.1,decide_eq_true hll.2];simp);have yC:((lvl:Int) != L)=false:=by rw[bne_eq_false_iff_eq];exact hll.1
     have pg:((m:Int) == 0)=false:=by rw[beq_eq_false_iff_ne];omega
     replace hv:=zH hv;clear HPv HP0 hok hll;go_wp2;exact jr (b:=w.heap.size) rfl rfl (vP (vP q1 rfl _ _ _ _ _ _ _ _ _) rfl _ _ _ _ _ _ _ _ _) (YT.same hC.out (JU (JU x1 (zM _) _ _ _ _ _ _ _ _ _) (zM _) _ _ _ _ _ _ _ _ _) hv.out)
    ·have hv:=HP0.out (by
      rw[hok.out,decide_eq_false hL0];by_cases h1:(lvl:Int)=L
      ·have h2:m=0:=Classical.byContradiction fun h=>hll ⟨h1,h⟩;simp[h2]
      ·simp[h1])
     replace hv:=zH hv;clear HPv HP0 hok;by_cases h1:(lvl:Int)=L
     ·have h2:m=0:=Classical.byContradiction fun h=>hll ⟨h1,h⟩;have yC:((lvl:Int) != L)=false:=by rw[bne_eq_false_iff_eq];exact h1
      clear hll h1;subst h2;go_wp2;exact jr (b:=w.heap.size) rfl rfl (vP (vP q1 rfl _ _ _ _ _ _ _ _ _) rfl _ _ _ _ _ _ _ _ _) (YT.same hC.out (JU (JU x1 (zM _) _ _ _ _ _ _ _ _ _) (zM _) _ _ _ _ _ _ _ _ _) hv.out)
     ·have yC:((lvl:Int) != L)=true:=by rw[bne_iff_ne];exact h1
      clear hll h1;go_wp2;exact jr (b:=w.heap.size) rfl rfl (vP (vP q1 rfl _ _ _ _ _ _ _ _ _) rfl _ _ _ _ _ _ _ _ _) (YT.same hC.out (JU (JU x1 (zM _) _ _ _ _ _ _ _ _ _) (zM _) _ _ _ _ _ _ _ _ _) hv.out)
theorem qbi (S:Sto) (h:Nat) (r:Int):okL S (h:Int) r=(Vu S h r).isSome:=by
 unfold okL Vu;split
 ·rcases hn:qv S r.toNat with _|⟨lvl,xs⟩
  ·rfl
  ·simp only;by_cases hl:lvl=(h:Int)
   ·subst hl;rw[if_pos rfl];rcases hs:Qg S h xs with _|_|p
    ·simp[hs]
    ·have:xs.length=0:=by
      rcases Nat.eq_zero_or_pos xs.length with h0|h0
      ·exact h0
      ·exact absurd (by rw[List.take_length];exact hs) (Zy (S:=S) (h:=h) h0 (zM _))
     simp[hs,this,show ¬((h:Int)<0) by omega]
    ·have:xs≠[]:=qfO ⟨p,hs⟩;simp[hs,this]
   ·rw[if_neg hl];simp[hl,show ¬((h:Int)<0) by omega]
 ·rfl
theorem qdg {S:Sto} {lo h:Nat} {w:World} {g:Int->Option Value} {r lvl:Int} {A:Option Addr} {n c:Nat} {fk lk:K3} {b:Bool} (hc:YR S lo w g r (ZV lvl A n c fk lk b)) (hok:okL S (h:Int) r=true):Vu S h r=some (fk,lk):=by
 obtain⟨m,lv,xs,A',c',nG,lk',b',rfl,h1,h2,h3,h4,_,h6,_⟩:=hc;simp only[Value.agg.injEq,Array.mk.injEq,List.cons.injEq,Value.int.injEq,Value.bool.injEq,true_and,and_true] at h4;obtain⟨_,_,e1,e2,e3,e4,e5,e6,rfl⟩:=h4;have ef:fk=nG:=Prod.ext e1 (Prod.ext e2 e3);have el:lk=lk':=Prod.ext e4 (Prod.ext e5 e6);subst ef;subst el;rw[qbi] at hok;unfold Vu at hok ⊢;rw[if_pos zO,Int.toNat_natCast,h3] at hok ⊢;simp only at hok ⊢;split at hok
 ·rename_i hl;obtain rfl:lv=h:=zO;rw[if_pos rfl];rcases hs:Qg S lv xs with _|_|q
  ·rw[hs] at hok;cases hok
  ·rw[hs] at hok;cases hok
  ·rw[h6.2 q hs];rfl
 ·cases hok
structure RdI (p:CP) (h:Nat) (xs:List It) (A:Option Addr) (c:Nat) (w:World) (f:Int->Option Value) (wr:World) (g:Int->Option Value) (k:Nat) (fk lk:K3):Prop where
 rn:wr.heap[w.heap.size]?=some (.cells #[.int .i64 h,.slice A xs.length c] 49 (0,0))
 rr:wr.heap[w.heap.size+1]?=some (.cells (jC 0 none 0 0 (0,0,0) (0,0,0) false) 135 (0,0))
 rx:wr.heap[w.heap.size+2]?=some (.cells (jC h A xs.length c fk lk true) 135 (0,0))
 sp:JT p.S h (xs.take k) fk lk true
 cl:0<h->∀ y∈xs.take k,(g y.r).isSome=true
 gr:Jf f g
 mp:QU wr p.mb g
 gw:w.grownBy wr (some p.mb)
 nw:∀ a v,g a=some v->f a=none->YR p.S (w.heap.size+3) wr g a v
theorem RdI.news {p:CP} {h:Nat} {xs:List It} {A:Option Addr} {c:Nat} {w wr:World} {f g:Int->Option Value} {k:Nat} {fk lk:K3} (H:RdI p h xs A c w f wr g k fk lk):News p.S w f g wr:=
 fun a v h1 h2=>(H.nw a v h1 h2).keep zO (zM _) (fun _ _ _=>rfl) (fun _ h=>h)
theorem RdI.cen {p:CP} {h:Nat} {xs:List It} {A:Option Addr} {c:Nat} {w wr:World} {f g:Int->Option Value} {k:Nat} {fk lk:K3} (H:RdI p h xs A c w f wr g k fk lk) (hC:Cen p w f):Cen p wr g:=
 hC.after H.gr H.mp H.gw H.news
theorem RdI.ext {p:CP} {h:Nat} {xs:List It} {A:Option Addr} {c:Nat} {w wr W:World} {f g:Int->Option Value} {k:Nat} {fk lk:K3} (H:RdI p h xs A c w f wr g k fk lk) (hC:Cen p w f) (hx:Ext wr W):RdI p h xs A c w f W g k fk lk where
 rn:=qb H.rn hx
 rr:=qb H.rr hx
 rx:=qb H.rx hx
 sp:=H.sp
 cl:=H.cl
 gr:=H.gr
 mp:=H.mp.of_heap (hx.block _ (by have:=hC.low;have:=H.gw.size;omega))
 gw:=World.grownBy.andThen H.gw (zy hx (some p.mb)) (fun j e=>.inr (by rw[<-e]))
 nw:=fun a v h1 h2=>(H.nw a v h1 h2).keep (zM _) hx.size (fun q _ hq=>Below.cell hx hq) (fun _ h=>h)
theorem RdI.call {p:CP} {h:Nat} {xs:List It} {A:Option Addr} {c:Nat} {w wr W:World} {f g g':Int->Option Value} {k:Nat} {fk lk:K3} (H:RdI p h xs A c w f wr g k fk lk) (hC:Cen p w f) (bP:Jf g g') (hm:QU W p.mb g') (hg:wr.grownBy W (some p.mb)) (hn:News p.S wr g g' W):RdI p h xs A c w f W g' k fk lk:=by
 have hl:=hC.low;have h2:w.heap.size+2<wr.heap.size:=(zG.1 H.rx).1;have hb:∀ b,w.heap.size<=b->b<wr.heap.size->W.heap[b]?=wr.heap[b]?:=fun b h1 h2=>hg.block b h2 zA2;refine⟨(hb _ zO zO).trans H.rn,(hb _ zO zO).trans H.rr,(hb _ zO zO).trans H.rx,H.sp,fun h0 y hy=>bP.some_ _ (H.cl h0 y hy),H.gr.trans bP,hm,World.grownBy.andThen H.gw hg (fun j e=>.inr (by rw[<-e])),fun a v h1 h0=>?_⟩;rcases hga:g a with _|u
 ·exact(hn a v h1 hga).keep zO (zM _) (fun _ _ _=>rfl) (fun _ h=>h)
 ·have e:=bP a u hga;rw[h1] at e;cases e;exact(H.nw a v hga h0).keep (zM _) hg.size (fun q h3 h4=>World.cell?_of_block (hb q.block zO h4)) bP.some_
theorem RdI.set {p:CP} {h:Nat} {xs:List It} {A:Option Addr} {c:Nat} {w wr W:World} {f g:Int->Option Value} {k k':Nat} {fk lk nG lk':K3} (H:RdI p h xs A c w f wr g k fk lk) (hC:Cen p w f) (hg:wr.grownBy W (some (w.heap.size+2))) (hx:W.heap[w.heap.size+2]?=some (.cells (jC h A xs.length c nG lk' true) 135 (0,0))) (hs:JT p.S h (xs.take k') nG lk' true) (hc:0<h->∀ y∈xs.take k',(g y.r).isSome=true):RdI p h xs A c w f W g k' nG lk':=by
 have hl:=hC.low;have h2:w.heap.size+2<wr.heap.size:=(zG.1 H.rx).1;have hb:∀ b,b≠w.heap.size+2->b<wr.heap.size->W.heap[b]?=wr.heap[b]?:=fun b h1 h2=>hg.block b h2 zA2;exact⟨(hb _ zO zO).trans H.rn,(hb _ zO zO).trans H.rr,hx,hs,hc,H.gr,H.mp.of_heap (hb _ zO zO),World.grownBy.andThen H.gw hg (fun j e=>.inl (by cases e;omega)),
  fun a v h1 h0=>(H.nw a v h1 h0).keep (zM _) hg.size (fun q h3 h4=>World.cell?_of_block (hb q.block zO h4)) (fun _ h=>h)⟩
theorem RdI.set6 {p:CP} {h:Nat} {xs:List It} {A:Option Addr} {c:Nat} {w wr:World} {f g:Int->Option Value} {k k':Nat} {fk lk nG lk':K3} (H:RdI p h xs A c w f wr g k fk lk) (hC:Cen p w f) (hs:JT p.S h (xs.take k') nG lk' true) (hc:0<h->∀ y∈xs.take k',(g y.r).isSome=true):RdI p h xs A c w f ((((((wr.setCell ⟨w.heap.size+1+1,2,none⟩ (.int .u8 nG.1)).setCell ⟨w.heap.size+1+1,3,none⟩ (.int .u32 nG.2.1)).setCell ⟨w.heap.size+1+1,4,none⟩ (.int .u32 nG.2.2)).setCell ⟨w.heap.size+1+1,5,none⟩ (.int .u8 lk'.1)).setCell ⟨w.heap.size+1+1,6,none⟩ (.int .u32 lk'.2.1)).setCell ⟨w.heap.size+1+1,7,none⟩ (.int .u32 lk'.2.2)) g k' nG lk':=
 H.set hC (Qv.trans (Qv.trans (Qv.trans (Qv.trans (Qv.trans Qv))))) (qi (qi (qi (qi (qi (qi H.rx 2 _) 3 _) 4 _) 5 _) 6 _) 7 _) hs hc
theorem RdI.set3 {p:CP} {h:Nat} {xs:List It} {A:Option Addr} {c:Nat} {w wr:World} {f g:Int->Option Value} {k k':Nat} {fk lk lk':K3} (H:RdI p h xs A c w f wr g k fk lk) (hC:Cen p w f) (hs:JT p.S h (xs.take k') fk lk' true) (hc:0<h->∀ y∈xs.take k',(g y.r).isSome=true):RdI p h xs A c w f (((wr.setCell ⟨w.heap.size+1+1,5,none⟩ (.int .u8 lk'.1)).setCell ⟨w.heap.size+1+1,6,none⟩ (.int .u32 lk'.2.1)).setCell ⟨w.heap.size+1+1,7,none⟩ (.int .u32 lk'.2.2)) g k' fk lk':=
 H.set hC (Qv.trans (Qv.trans Qv)) (qi (qi (qi H.rx 5 _) 6 _) 7 _) hs hc
theorem RdI.call8 {p:CP} {h:Nat} {xs:List It} {A:Option Addr} {c:Nat} {w wr w5 w6 W:World} {f g g':Int->Option Value} {k:Nat} {fk lk:K3} (H:RdI p h xs A c w f wr g k fk lk) (hC:Cen p w f) (hx:Ext wr w5) (bP:Jf g g') (hm:QU w6 p.mb g') (hg:w5.grownBy w6 (some p.mb)) (hn:News p.S w5 g g' w6) {b:Nat} (hb:wr.heap.size<=b) (bI:b<w5.heap.size) (h7:w6.grownBy W (some b)):RdI p h xs A c w f W g' k fk lk:=by
 have hl:=hC.low;have h2:w.heap.size+2<wr.heap.size:=(zG.1 H.rx).1;have zg:=hg.size;have H6:=(H.ext hC hx).call hC bP hm hg hn;have hk:∀ a,a≠b->a<w6.heap.size->W.heap[a]?=w6.heap[a]?:=fun a h1 h2=>h7.block a h2 zA2;refine⟨(hk _ zO zO).trans H6.rn,(hk _ zO zO).trans H6.rr,(hk _ zO zO).trans H6.rx,H6.sp,H6.cl,H6.gr,hm.of_heap (hk _ zO zO),World.grownBy.andThen H6.gw h7 (fun j e=>.inl (by cases e;omega)),fun a v h1 h0=>?_⟩;rcases hga:g a with _|u
 ·exact(hn a v h1 hga).keep zO h7.size (fun q h3 h4=>World.cell?_of_block (hk q.block zO h4)) (fun _ h=>h)
 ·have e:=bP a u hga;rw[h1] at e;cases e;refine(H.nw a v hga h0).keep (zM _) (by have:=h7.size;omega) (fun q h3 h4=>?_) bP.some_;rw[World.cell?_of_block (hk q.block zO zO),World.cell?_of_block (hg.block q.block zO zA2),Below.cell hx (p:=q) h4]
theorem RdI.ret {p:CP} {h:Nat} {xs:List It} {A:Option Addr} {c:Nat} {w wr W:World} {f g:Int->Option Value} {k:Nat} {fk lk:K3} {v:Value} (H:RdI p h xs A c w f wr g k fk lk) (hC:Cen p w f) (hg:wr.grownBy W (some (w.heap.size+1))) (hv:qcE p h A c xs v g):YT p f (qcE p h A c xs) w (.returned v) W:=by
 have hl:=hC.low;have h2:w.heap.size+2<wr.heap.size:=(zG.1 H.rx).1;have hb:∀ b,b≠w.heap.size+1->b<wr.heap.size->W.heap[b]?=wr.heap[b]?:=fun b h1 h2=>hg.block b h2 zA2;exact⟨v,g,rfl,hv,H.gr,H.mp.of_heap (hb _ zO zO),World.grownBy.andThen H.gw hg (fun j e=>.inl (by cases e;omega)),
  fun a u h1 h0=>(H.nw a u h1 h0).keep zO hg.size (fun q h3 h4=>World.cell?_of_block (hb q.block zO h4)) (fun _ h=>h)⟩
def YB (S:Sto) (h:Nat) (x:It) (f l:K3) (b:Bool):Prop:=match Vx S h x with|none=>b=false|some q=>b=true/\q=(f,l)
theorem qhB {S:Sto} {h:Nat} {xs:List It} {k:Nat} {f l f0 l0:K3} {b:Bool} (hk:k<xs.length) (ho:YB S h xs[k] f l b) (hs:JT S h (xs.take k) f0 l0 true) (hb:b=false\/f≠qE xs[k]\/(0<k/\QH l0 f=false)):Qg S h xs=none:=by
 refine qbs (k:=k+1) ?_;rw[vS hk];unfold YB at ho;unfold Yd;rcases hq:Qg S h (xs.take k) with _|a
 ·rfl
 ·rcases hone:Vx S h xs[k] with _|q
  ·rfl
  ·rw[hone] at ho;obtain⟨rfl,rfl⟩:=ho;simp only;rcases hb with hb|hb|⟨hb,hl⟩
   ·cases hb
   ·rw[if_neg hb]
   ·split
    ·rcases a with _|q0
     ·exact absurd hq (Zy hb zO)
     ·have:=hs.2 q0 hq;subst this;simp[hl]
    ·rfl
theorem round_ok {S:Sto} {h:Nat} {xs:List It} {k:Nat} {f l f0 l0:K3} (hk:k<xs.length) (ho:YB S h xs[k] f l true) (hs:JT S h (xs.take k) f0 l0 true) (hf:f=qE xs[k]) (hl:0<k->QH l0 f=true):JT S h (xs.take (k+1)) (if k=0 then f else f0) l true:=by
 unfold JT;rw[vS hk];unfold YB at ho;unfold Yd;rcases hq:Qg S h (xs.take k) with _|a
 ·have:=hs.1;rw[hq] at this;cases this
 ·rcases hone:Vx S h xs[k] with _|q
  ·rw[hone] at ho;cases ho
  ·rw[hone] at ho;obtain⟨_,rfl⟩:=ho;simp only[if_pos hf];rcases Nat.eq_zero_or_pos k with rfl|h0
   ·have:a=none:=by rw[List.take_zero] at hq;cases hq;rfl
    subst this;exact⟨rfl,fun q hq=>by cases hq;rfl⟩
   ·rcases a with _|q0
    ·exact absurd hq (Zy h0 zO)
    ·have:=hs.2 q0 hq;subst this;rw[if_neg zO];simp only[hl h0,if_true];exact⟨rfl,fun q hq=>by cases hq;rfl⟩
end Go.Proofs.YtpbniokljofedaaGreat
