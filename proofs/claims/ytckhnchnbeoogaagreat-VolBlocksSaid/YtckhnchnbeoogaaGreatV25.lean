/- Texts KLearn, CountsW, KGoneW, KMarkW, joined. -/
import Derived.Test.YtckhnchnbeoogaaGreatV17
import Derived.Test.YtckhnchnbeoogaaGreatV24
set_option linter.unusedSimpArgs false
set_option linter.unusedVariables false
namespace Go.Proofs.YtckhnchnbeoogaaGreat
open Go.RowKit
theorem setArr10 {cs:Array Value} (hs:cs.size=10) (x0 x1 x2 x3 x4 x5 x6 x7 x8 x9:Value):((((((((((cs.setIfInBounds 0 x0).setIfInBounds 1 x1).setIfInBounds 2 x2).setIfInBounds 3 x3).setIfInBounds 4 x4).setIfInBounds 5 x5).setIfInBounds 6 x6).setIfInBounds 7 x7).setIfInBounds 8 x8).setIfInBounds 9 x9)=#[x0,x1,x2,x3,x4,x5,x6,x7,x8,x9]:=by
 apply Array.ext_getElem?
 intro j
 by_cases hj:j<10
 ·have:j=0∨j=1∨j=2∨j=3∨j=4∨j=5∨j=6∨j=7∨j=8∨j=9:=by omega
  rcases this with rfl|rfl|rfl|rfl|rfl|rfl|rfl|rfl|rfl|rfl <;> simp[Array.getElem?_setIfInBounds,hs]
 ·rw[Array.getElem?_eq_none (by simp;omega),Array.getElem?_eq_none (by simp;omega)]
theorem XN {w:World} {b:Nat} {ty:TypeId} {cs:Array Value} (h:w.heap[b]?=some (.cells cs ty (0,0))) (hs:cs.size=10) (x0 x1 x2 x3 x4 x5 x6 x7 x8 x9:Value) :
  (((((((((((w.setCell ⟨b,0,none⟩ x0).setCell ⟨b,1,none⟩ x1).setCell ⟨b,2,none⟩ x2).setCell ⟨b,3,none⟩ x3).setCell ⟨b,4,none⟩ x4).setCell ⟨b,5,none⟩ x5).setCell ⟨b,6,none⟩ x6).setCell ⟨b,7,none⟩ x7).setCell ⟨b,8,none⟩ x8).setCell ⟨b,9,none⟩ x9)).heap[b]?=some (.cells #[x0,x1,x2,x3,x4,x5,x6,x7,x8,x9] ty (0,0)):=by
 have:=(qh (qh (qh (qh (qh (qh (qh (qh (qh (qh h 0 x0) 1 x1) 2 x2) 3 x3) 4 x4) 5 x5) 6 x6) 7 x7) 8 x8) 9 x9)
 rw[this,setArr10 hs]
theorem Yp {w0 w:World} {B b:Nat} (h:Below B w0 w) (hb:B≤b) (x0 x1 x2 x3 x4 x5 x6 x7 x8 x9:Value):Below B w0 (((((((((((w.setCell ⟨b,0,none⟩ x0).setCell ⟨b,1,none⟩ x1).setCell ⟨b,2,none⟩ x2).setCell ⟨b,3,none⟩ x3).setCell ⟨b,4,none⟩ x4).setCell ⟨b,5,none⟩ x5).setCell ⟨b,6,none⟩ x6).setCell ⟨b,7,none⟩ x7).setCell ⟨b,8,none⟩ x8).setCell ⟨b,9,none⟩ x9)):=
 (Below.setCell (Below.setCell (Below.setCell (Below.setCell (Below.setCell (Below.setCell (Below.setCell (Below.setCell (Below.setCell (Below.setCell h (p:=⟨b,0,none⟩) hb _) (p:=⟨b,1,none⟩) hb _) (p:=⟨b,2,none⟩) hb _) (p:=⟨b,3,none⟩) hb _) (p:=⟨b,4,none⟩) hb _) (p:=⟨b,5,none⟩) hb _) (p:=⟨b,6,none⟩) hb _) (p:=⟨b,7,none⟩) hb _) (p:=⟨b,8,none⟩) hb _) (p:=⟨b,9,none⟩) hb _)
theorem Yy {w:World} {b:Nat} (x0 x1 x2 x3 x4 x5 x6 x7 x8 x9:Value):w.grownBy (((((((((((w.setCell ⟨b,0,none⟩ x0).setCell ⟨b,1,none⟩ x1).setCell ⟨b,2,none⟩ x2).setCell ⟨b,3,none⟩ x3).setCell ⟨b,4,none⟩ x4).setCell ⟨b,5,none⟩ x5).setCell ⟨b,6,none⟩ x6).setCell ⟨b,7,none⟩ x7).setCell ⟨b,8,none⟩ x8).setCell ⟨b,9,none⟩ x9)) (some b):=
 (qk.trans (qk.trans (qk.trans (qk.trans (qk.trans (qk.trans (qk.trans (qk.trans (qk.trans qk)))))))))
theorem Td {w:World} {b k:Nat} (hk:k≠b) (x0 x1 x2 x3 x4 x5 x6 x7 x8 x9:Value):((((((((((w.setCell ⟨b,0,none⟩ x0).setCell ⟨b,1,none⟩ x1).setCell ⟨b,2,none⟩ x2).setCell ⟨b,3,none⟩ x3).setCell ⟨b,4,none⟩ x4).setCell ⟨b,5,none⟩ x5).setCell ⟨b,6,none⟩ x6).setCell ⟨b,7,none⟩ x7).setCell ⟨b,8,none⟩ x8).setCell ⟨b,9,none⟩ x9).heap[k]?=w.heap[k]?:=by
 rw[Below.heap_setCell _ _ _ _ (show k≠b from hk),Below.heap_setCell _ _ _ _ (show k≠b from hk),Below.heap_setCell _ _ _ _ (show k≠b from hk),Below.heap_setCell _ _ _ _ (show k≠b from hk),Below.heap_setCell _ _ _ _ (show k≠b from hk),Below.heap_setCell _ _ _ _ (show k≠b from hk),Below.heap_setCell _ _ _ _ (show k≠b from hk),Below.heap_setCell _ _ _ _ (show k≠b from hk),Below.heap_setCell _ _ _ _ (show k≠b from hk),Below.heap_setCell _ _ _ _ (show k≠b from hk)]
theorem ken_read {p:KP} {W:World} {g:Int→Option Value} {a:Nat} (hC:Ken p W g) (ha:8≤a) (ha2:a<256) :
  Calls Tryz.prog 59 #[.agg #[p.v1,p.v2,p.v3,p.v4],.int .i64 (a:Int)] W (zE (Node8P W.heap.size (qV p.S a)) W):=by
 obtain⟨_,A1,c1,e1,_⟩:=hC.sto.bs
 obtain⟨_,_,⟨A2,c2,e2,_⟩,_⟩:=hC.sto.ws
 obtain⟨A3,c3,e3,_⟩:=hC.sto.now
 obtain⟨A4,c4,e4,_⟩:=hC.sto.last
 have h:=hC.sto.more (show p.B≤W.heap.size by have:=hC.low;omega)
 rw[e1,e2,e3,e4] at h ⊢
 exact GJ A1 _ c1 A2 _ c2 A3 _ c3 A4 _ c4 p.S hC.may a ha ha2 W h
abbrev noD:Value:=vg 0 none 0 0 (0,0,0) (0,0,0) false false
theorem jO {R:Ending→World→Prop} {a:Act} {W:World} {b:Nat} {lvl:Int} {A:Option Addr} {n c:Nat} {f l:K3} {d bo:Bool} (h6:a.tmps[8]?.getD undef=.pointer (some ⟨b,0,none⟩)) (hd:a.defers=[])
  (hrow:W.heap[b]?=some (.cells (QV lvl A n c f l d bo) 185 (0,0))) (hR:R (.returned (vg lvl A n c f l d bo)) W):bodyPost Tryz.prog Tryz.f106 R .ret a W:=by
 refine bodyPost_ret (v:=vg lvl A n c f l d bo) ?_ hd hR
 have k:=qa hrow
 simp[results,Tryz.results106,go_sem,h6,k]
theorem qde {p:KP} {f g:Int→Option Value} {φ:Value→(Int→Option Value)→Prop} {w w5 w6 W:World} {a:Nat} {lvl:Nat} {xs:List It} {A:Option Addr} {c:Nat} {fk lk:K3} {b:Bool} {u:Value} (hfa:f a=none) (h5:Ext w w5) (hlt:w.heap.size+2≤w5.heap.size)
  (hgr:Zf f g) (hn:vV p.S w5 f g w6) (hm:jN W p.sb (fun r=>if r=(a:Int) then some (zh lvl A xs.length c fk lk b) else g r)) (hgW:w.grownBy W (some p.sb)) (hsW:w6.heap.size≤W.heap.size)
  (hk:∀ q:Addr,w.heap.size+2≤q.block→q.block<w6.heap.size→W.cell? q=w6.cell? q) (ha:8≤a) (ha2:a<256) (hnode:qV p.S a=some ((lvl:Int),xs)) (hits:zU (w.heap.size+2) w6 (.slice A xs.length c) xs) (hsp:Zz p.S lvl xs fk lk b)
  (hcl:b=true→0<lvl→∀ y∈xs,(g y.r).isSome=true) (hφ:φ u (fun r=>if r=(a:Int) then some (zh lvl A xs.length c fk lk b) else g r)):XR p f φ w (.returned u) W:=by
 have hs:∀ r:Int,(g r).isSome=true→((fun r=>if r=(a:Int) then some (zh lvl A xs.length c fk lk b) else g r) r).isSome=true:=by
  intro r hr
  show (if r=(a:Int) then some (zh lvl A xs.length c fk lk b) else g r).isSome=true
  split
  ·rfl
  ·exact hr
 refine⟨u,_,rfl,hφ,fun r v hr=>?_,hm,hgW,fun r v hv hr=>?_⟩
 ·show (if r=(a:Int) then some (zh lvl A xs.length c fk lk b) else g r)=some v
  rw[if_neg (fun e=>by rw[e,hfa] at hr;cases hr)]
  exact hgr r v hr
 ·have hv':(if r=(a:Int) then some (zh lvl A xs.length c fk lk b) else g r)=some v:=hv
  by_cases hra:r=(a:Int)
  ·rw[if_pos hra] at hv'
   cases hv'
   exact⟨a,lvl,xs,A,c,fk,lk,b,hra,ha,ha2,hnode,rfl,(hits.keep hsW (fun q h1 h2=>hk q (by omega) h2)).mono (by omega),hsp,fun x y z t=>hs _ (hcl x y z t)⟩
  ·rw[if_neg hra] at hv'
   exact(hn r v hv' hr).keep (by omega) hsW (fun q h1 h2=>hk q (by omega) h2) hs
theorem qcs {p:KP} {f g:Int→Option Value} {φ:Value→(Int→Option Value)→Prop} {w w5 w6 w7 w7' w8 W:World} {a:Nat} {lvl:Nat} {xs:List It} {A:Option Addr} {c:Nat} {fk lk:K3} {b:Bool} {u:Value} (hfa:f a=none) (hC:Ken p w f) (h5:Ext w w5) (hlt:w.heap.size+2≤w5.heap.size)
  (hgr:Zf f g) (hm6:jN w6 p.sb g) (hg6:w5.grownBy w6 (some p.sb)) (hn:vV p.S w5 f g w6) (h67:w6.grownBy w7 (some (w.heap.size+1))) (h7:Ext w7 w7') (h78:w7'.grownBy w8 (some p.sb))
  (hm8:jN w8 p.sb (fun r=>if r=(a:Int) then some (zh lvl A xs.length c fk lk b) else g r)) (h8W:w8.grownBy W (some w.heap.size)) (ha:8≤a) (ha2:a<256) (hnode:qV p.S a=some ((lvl:Int),xs)) (hits:zU (w.heap.size+2) w5 (.slice A xs.length c) xs) (hsp:Zz p.S lvl xs fk lk b)
  (hcl:b=true→0<lvl→∀ y∈xs,(g y.r).isSome=true) (hφ:φ u (fun r=>if r=(a:Int) then some (zh lvl A xs.length c fk lk b) else g r)):XR p f φ w (.returned u) W:=by
 have hmb:p.sb<w.heap.size:=by have:=hC.low;omega
 have z5:=h5.size
 have z6:=hg6.size
 have z7:=h67.size
 have z7':=h7.size
 have z8:=h78.size
 have zW:=h8W.size
 have hmW:jN W p.sb _:=hm8.of_heap (h8W.block _ (by omega) (by simp;omega))
 refine qde (w5:=w5) (w6:=w6) hfa h5 hlt hgr hn hmW ?_ (by omega) (fun q h1 h2=>?_) ha ha2 hnode ?_ hsp hcl hφ
 ·refine World.grownBy.andThen (World.grownBy.andThen (World.grownBy.andThen (World.grownBy.andThen (World.grownBy.andThen (Qo h5 (some p.sb)) hg6 (fun j e=>.inr (by rw[←e]))) h67 (fun j e=>.inl (by cases e;omega))) (Qo h7 none) (fun j e=>by cases e)) h78 (fun j e=>.inr (by rw[←e]))) h8W (fun j e=>.inl (by cases e;omega))
 ·have hne:some q.block≠some w.heap.size:=by simp;omega
  have hne1:some q.block≠some (w.heap.size+1):=by simp;omega
  have hne2:some q.block≠some p.sb:=by simp;omega
  rw[World.cell?_of_block (h8W.block q.block (by omega) hne),World.cell?_of_block (h78.block q.block (by omega) hne2),Below.cell h7 (p:=q) (by omega),World.cell?_of_block (h67.block q.block (by omega) hne1)]
 ·exact hits.keep hg6.size (fun q h1 h2=>World.cell?_of_block (hg6.block q.block h2 (by simp;omega)))
set_option maxHeartbeats 8000000 in
set_option maxRecDepth 100000 in
theorem Ut (p:KP) (L:Int) (root:Bool) (hL:(L=-1∧root=true)∨(0≤L∧L≤5∧root=false)) (HR:∀ h:Nat,h≤5→(0≤L→(h:Int)=L)→GoneC p h):GN p L root:=by
 intro r w f hC
 by_cases hr:r<8∨256≤r
 ·have ho:okL p.S L r=false:=by unfold okL;rw[if_neg (by omega)]
  have HP:qai p L r noD f:=⟨0,none,0,0,_,_,_,by rw[ho],fun h=>by rw[ho] at h;cases h⟩
  replace HP:=zH HP
  replace hC:=zH hC
  clear ho HR hL
  go_enter Tryz.func106,Tryz.ntmps106
  go_wp2
  all_goals first|(exfalso;omega)|skip
  all_goals
   generalize hwf:(World.alloc _ _)=wf
   have rf:wf.heap[w.heap.size]?=some (.cells (QV 0 none 0 0 (0,0,0) (0,0,0) false false) 185 (0,0)):=by rw[←hwf];exact World.alloc_heap_at _ _ _ rfl
   have xf:Ext w wf:=by rw[←hwf];exact Ext.alloc _ _
   exact jO (b:=w.heap.size) rfl rfl rf (XR.same hC.out xf HP.out)
 ·obtain⟨a,rfl⟩:∃ a:Nat,r=(a:Int):=⟨r.toNat,by omega⟩
  have ha:8≤a:=by omega
  have ha2:a<256:=by omega
  have hd1:decide ((a:Int)<8)=false:=decide_eq_false (by omega)
  have hd2:decide ((a:Int)≥256)=false:=decide_eq_false (by omega)
  have HOK:Hid (okL p.S L a=match qV p.S a with|none=>false|some (lvl,xs)=>(QL p.S lvl.toNat xs).isSome && (decide (L<0) || (decide (lvl=L) && decide (xs.length≠0)))):=by
   refine zH ?_
   unfold okL
   rw[if_pos (by omega),Int.toNat_natCast]
   rfl
  have kk:=qa hC.row
  have hkb:p.kb<w.heap.size:=by have:=hC.low;omega
  have hsb:p.sb<w.heap.size:=by have:=hC.low;omega
  have HP0:okL p.S L a=false→qai p L a noD f:=fun h=>⟨0,none,0,0,_,_,_,by rw[h],fun h'=>by rw[h] at h';cases h'⟩
  replace HP0:=zH HP0
  rcases hfr:f (a:Int) with _|v
  ·obtain⟨k0,k1,k2,k3,k4,k5,k6,k7,k8,k9⟩:=hC.arr.cells ha2 (by rw[hfr];rfl)
   have hlow:=hC.low
   replace hC:=zH hC
   replace hfr:=zH hfr
   clear hr
   go_enter Tryz.func106,Tryz.ntmps106
   go_wp2_with fail
   generalize hw2:World.alloc (World.alloc _ _) _=w2
   have x2:Ext w w2:=by rw[←hw2];exact(Ext.alloc _ _).trans (Ext.alloc _ _)
   have q8:w2.heap[w.heap.size]?=some (.cells (QV 0 none 0 0 (0,0,0) (0,0,0) false false) 185 (0,0)):=by rw[←hw2];exact(Below.heap_alloc _ _ _ (by simp)).trans (World.alloc_heap_at _ _ _ rfl)
   have q9:w2.heap[w.heap.size+1]?=some (.cells (QV 0 none 0 0 (0,0,0) (0,0,0) false false) 185 (0,0)):=by rw[←hw2];exact World.alloc_heap_at _ _ _ (by simp)
   clear hw2 k0 k1 k2 k3 k4 k5 k6 k7 k8 k9
   have HRd:=ken_read (hC.out.ext x2) ha ha2
   refine HRd.mono ?_
   clear HRd
   rintro e w3 ⟨u,rfl,hu,hB⟩
   have x3:Ext w w3:=x2.trans hB
   have r8:=qc q8 hB
   have r9:=qc q9 hB
   have s2:w.heap.size+1<w2.heap.size:=(zG.1 q9).1
   have s3:w.heap.size+1<w3.heap.size:=(zG.1 r9).1
   clear q8 q9 hB kk
   have k8:=qa r8
   have f8:=qd r8
   have k9:=qa r9
   have f9:=qd r9
   rcases hnode:qV p.S a with _|⟨lvl',xs⟩
   ·rw[hnode] at hu HOK
    obtain rfl:u=GO:=hu
    have hv:=HP0.out HOK.out
    replace hv:=zH hv
    clear HP0 HOK HR hnode hL
    go_upto_region 7 with fail
    have v9:=XN r9 rfl (.int .i64 0) (.slice none 0 0) (.int .u8 0) (.int .u32 0) (.int .u32 0) (.int .u8 0) (.int .u32 0) (.int .u32 0) (.bool false) (.bool false)
    have v8:=(Td (w:=w3) (b:=w.heap.size+1) (k:=w.heap.size) (by omega) (.int .i64 0) (.slice none 0 0) (.int .u8 0) (.int .u32 0) (.int .u32 0) (.int .u8 0) (.int .u32 0) (.int .u32 0) (.bool false) (.bool false)).trans r8
    have y3:=Yp (b:=w.heap.size+1) x3 (by omega) (.int .i64 0) (.slice none 0 0) (.int .u8 0) (.int .u32 0) (.int .u32 0) (.int .u8 0) (.int .u32 0) (.int .u32 0) (.bool false) (.bool false)
    replace v9:=(Below.heap_alloc _ (.cells #[.int .i64 0,.slice none 0 0] 118) _ (zG.1 v9).1).trans v9
    replace v8:=(Below.heap_alloc _ (.cells #[.int .i64 0,.slice none 0 0] 118) _ (zG.1 v8).1).trans v8
    replace y3:=Below.alloc y3 y3.size (.cells #[.int .i64 0,.slice none 0 0] 118)
    generalize hw4:World.alloc (World.setCell (World.setCell (World.setCell (World.setCell (World.setCell (World.setCell (World.setCell (World.setCell (World.setCell (World.setCell w3 _ _) _ _) _ _) _ _) _ _) _ _) _ _) _ _) _ _) _ _) _=w4 at *
    clear hw4 k8 f8 k9 f9 r8 r9 x2 hd1 hd2 hkb hsb
    have k8:=qa v8
    have f8:=qd v8
    have k9:=qa v9
    have f9:=qd v9
    go_wp2
    exact jO (b:=w.heap.size) rfl rfl (XN v8 rfl _ _ _ _ _ _ _ _ _ _) (XR.same hC.out (Yp y3 (Nat.le_refl _) _ _ _ _ _ _ _ _ _ _) hv.out)
   ·rw[hnode] at hu HOK
    obtain⟨A,c,rfl,hits⟩:=hu
    obtain⟨hmay,hxs,hlv⟩:=Qn hnode
    obtain⟨lvl,rfl⟩:=Int.eq_ofNat_of_zero_le hlv
    replace HOK:Hid (okL p.S L a=((QL p.S lvl xs).isSome && (decide (L<0) || (decide ((lvl:Int)=L) && decide (xs.length≠0))))):=HOK
    have hl5:lvl≤5:=by unfold qR zN at hmay;simp at hmay;omega
    replace hmay:=zH hmay
    replace hxs:=zH hxs
    replace hnode:=zH hnode
    replace hits:=zH hits
    by_cases hacc:L<0∨((lvl:Int)=L∧xs.length≠0)
    ·have hokb:okL p.S L a=(QL p.S lvl xs).isSome:=by
      rw[HOK.out]
      rcases hacc with h|h
      ·rw[decide_eq_true h,Bool.true_or,Bool.and_true]
      ·rw[decide_eq_true h.1,decide_eq_true h.2];simp
     have HRD:=zH (HR lvl hl5 (fun h=>by omega))
     replace hokb:=zH hokb
     clear HR HOK HP0
     have hcs:(decide (L≥0)=false∧root=true)∨(decide (L≥0)=true∧root=false∧((lvl:Int) != L)=false∧((xs.length:Int) == 0)=false∧decide (xs.length=0)=false):=by
      rcases hL with ⟨h1,h2⟩|⟨h1,h2,h3⟩
      ·exact .inl ⟨decide_eq_false (by omega),h2⟩
      ·rcases hacc with h|h
       ·omega
       ·exact .inr ⟨decide_eq_true (by omega),h3,by rw[bne_eq_false_iff_eq];exact h.1,by rw[beq_eq_false_iff_ne];omega,decide_eq_false h.2⟩
     replace hacc:=zH hacc
     clear hL
     go_upto_region 7 with fail
     have v9:=XN r9 rfl (.int .i64 lvl) (.slice A xs.length c) (.int .u8 0) (.int .u32 0) (.int .u32 0) (.int .u8 0) (.int .u32 0) (.int .u32 0) (.bool false) (.bool true)
     have v8:=(Td (w:=w3) (b:=w.heap.size+1) (k:=w.heap.size) (by omega) (.int .i64 lvl) (.slice A xs.length c) (.int .u8 0) (.int .u32 0) (.int .u32 0) (.int .u8 0) (.int .u32 0) (.int .u32 0) (.bool false) (.bool true)).trans r8
     have y3:=Yp (b:=w.heap.size+1) x3 (by omega) (.int .i64 lvl) (.slice A xs.length c) (.int .u8 0) (.int .u32 0) (.int .u32 0) (.int .u8 0) (.int .u32 0) (.int .u32 0) (.bool false) (.bool true)
     replace v9:=(Below.heap_alloc _ (.cells #[.int .i64 lvl,.slice A xs.length c] 118) _ (zG.1 v9).1).trans v9
     replace v8:=(Below.heap_alloc _ (.cells #[.int .i64 lvl,.slice A xs.length c] 118) _ (zG.1 v8).1).trans v8
     replace y3:=Below.alloc y3 y3.size (.cells #[.int .i64 lvl,.slice A xs.length c] 118)
     have g4:=World.grownBy.andThen (Yy (w:=w3) (b:=w.heap.size+1) (.int .i64 lvl) (.slice A xs.length c) (.int .u8 0) (.int .u32 0) (.int .u32 0) (.int .u8 0) (.int .u32 0) (.int .u32 0) (.bool false) (.bool true)) (Qo (Ext.alloc _ (.cells #[.int .i64 lvl,.slice A xs.length c] 118)) none) (fun j e=>by cases e)
     generalize hw4:World.alloc (World.setCell (World.setCell (World.setCell (World.setCell (World.setCell (World.setCell (World.setCell (World.setCell (World.setCell (World.setCell w3 _ _) _ _) _ _) _ _) _ _) _ _) _ _) _ _) _ _) _ _) _=w4 at *
     clear hw4 k8 f8 k9 f9 r8 r9 x2 hd1 hd2 hkb hsb
     have k8:=qa v8
     have f8:=qd v8
     have k9:=qa v9
     have f9:=qd v9
     have s4:w.heap.size+1<w4.heap.size:=(zG.1 v9).1
     have hits4:zU (w.heap.size+2) w4 (.slice A xs.length c) xs:=(hits.out.keep g4.size (fun q h1 h2=>World.cell?_of_block (g4.block q.block h2 (by simp;omega)))).mono (by omega)
     have HCall:=HRD.out xs A c w4 f hmay.out hxs.out (hits4.mono (by omega)) (hC.out.ext y3)
     replace HCall:=zH HCall
     replace hits4:=zH hits4
     clear HRD hmay hxs hits g4
     rcases hcs with ⟨c1,rfl⟩|⟨c1,rfl,c2,c3,c4⟩
     all_goals
      go_wp2_with fail
      refine HCall.out.mono ?_
      clear HCall
      rintro e w6 ⟨v,g,rfl,⟨fk,lk,b,rfl,hsp,hcl⟩,hgr,hm6,hg6,hn6⟩
      have hC6:=(hC.out.ext y3).after hgr hm6 hg6 hn6
      have q8:=(hg6.block w.heap.size (by omega) (by simp;omega)).trans v8
      have q9:=(hg6.block (w.heap.size+1) s4 (by simp;omega)).trans v9
      have s6:=hg6.size
      clear k8 f8 k9 f9
      have k9:=qa q9
      have f9:=qd q9
      go_upto_region 11 with fail
      have q9':=XN q9 rfl (.int .i64 lvl) (.slice A xs.length c) (.int .u8 fk.1) (.int .u32 fk.2.1) (.int .u32 fk.2.2) (.int .u8 lk.1) (.int .u32 lk.2.1) (.int .u32 lk.2.2) (.bool true) (.bool b)
      have q8':=(Td (w:=w6) (b:=w.heap.size+1) (k:=w.heap.size) (by omega) (.int .i64 lvl) (.slice A xs.length c) (.int .u8 fk.1) (.int .u32 fk.2.1) (.int .u32 fk.2.2) (.int .u8 lk.1) (.int .u32 lk.2.1) (.int .u32 lk.2.2) (.bool true) (.bool b)).trans q8
      have h67:=Yy (w:=w6) (b:=w.heap.size+1) (.int .i64 lvl) (.slice A xs.length c) (.int .u8 fk.1) (.int .u32 fk.2.1) (.int .u32 fk.2.2) (.int .u8 lk.1) (.int .u32 lk.2.1) (.int .u32 lk.2.2) (.bool true) (.bool b)
      generalize hw7:World.setCell (World.setCell (World.setCell (World.setCell (World.setCell (World.setCell (World.setCell (World.setCell (World.setCell (World.setCell w6 _ _) _ _) _ _) _ _) _ _) _ _) _ _) _ _) _ _) _ _=w7 at *
      have hrow7:w7.heap[p.kb]?=_:=(h67.block _ (by omega) (by simp;omega)).trans hC6.row
      have hm7:jN w7 p.sb g:=hm6.of_heap (h67.block _ (by omega) (by simp;omega))
      clear hw7 k9 f9 q8 q9
      have gK:∀ W,qu.r w7 W→∀ i,W.cell? ⟨p.kb,i,none⟩=#[p.v1,p.v2,p.v3,p.v4,.slice (some ⟨p.sb,0,none⟩) 256 256][i]?:=fun W h=>qa (qc hrow7 h)
      have gq:∀ W,qu.r w7 W→∀ i,W.cell? ⟨w.heap.size+1,i,none⟩=(QV lvl A xs.length c fk lk true b)[i]?:=fun W h=>qa (qc q9' h)
      replace hC6:=zH hC6
      replace hsp:=zH hsp
      replace hcl:=zH hcl
      refine qv (by kernel_rfl) ?_
      refine Qu (w:=w7) qu (qE []) [true,true,true,true,true,true,true] 1 (by kernel_rfl) (by kernel_rfl) (by kernel_rfl) (by kernel_rfl) (by kernel_rfl) (by kernel_rfl) (by kernel_rfl) ?st (Rel.drew _ _) ?walk
      case st=>exact qm (fun _ h=>by cases h)
      case walk =>
       intro K hK
       dsimp only[qz]
       repeat ((first|(refine qf ?_ (by rfl) (by rfl) (fun W hW _=>⟨W,?_,Rel.refl _ W⟩) ?_;rotate_left;(first|(go_simp;with_reducible rfl)|(go_simp;done)))|(refine qj (by rfl) ?_));try simp only[Act.put,qi,qe,qb,qg,qb,zA,zB,zC])
       refine qf (.pointer (some ⟨p.sb,a*10,none⟩)) (by rfl) (by rfl) (fun W hW _=>⟨W,?_,Rel.refl _ W⟩) ?_
       ·go_simp
        intro hge
        exfalso
        omega
       simp only[Act.put,qi,qe,qb,qg,qb,zA,zB,zC]
       refine qD (hK _ _ fun W hW hF=>?_)
       clear hF hK gK gq
       have hW':Ext w7 W:=hW
       have z7:=h67.size
       have q9W:=qc q9' hW'
       have q8W:=qc q8' hW'
       have hmW:jN W p.sb g:=hm7.of_heap (hW'.block _ (by omega))
       obtain⟨u0,u1,u2,u3,u4,u5,u6,u7,u8,u9,j0,j1,j2,j3,j4,j5,j6,j7,j8,j9⟩:=hmW.some_cells ha2
       have fm:=hmW.frozen
       have hput:=hmW.put (lvl:=lvl) (A:=A) (n:=xs.length) (c:=c) (fk:=fk) (lk:=lk) (b:=b) ha2
       have hg8:=grown10 (w:=W) (b:=p.sb) (o:=a*10) (.int .i64 lvl) (.slice A xs.length c) (.int .u8 fk.1) (.int .u32 fk.2.1) (.int .u32 fk.2.2) (.int .u8 lk.1) (.int .u32 lk.2.1) (.int .u32 lk.2.2) (.bool true) (.bool b)
       have q9X:=(hg8.block (w.heap.size+1) (zG.1 q9W).1 (by simp;omega)).trans q9W
       have q8X:=(hg8.block w.heap.size (zG.1 q8W).1 (by simp;omega)).trans q8W
       unfold set10 at hput hg8 q9X q8X
       dsimp only[List.drop,List.length_cons,List.length_nil]
       go_wp2
       refine Qw ?_
       generalize hw8:World.setCell (World.setCell (World.setCell (World.setCell (World.setCell (World.setCell (World.setCell (World.setCell (World.setCell (World.setCell W _ _) _ _) _ _) _ _) _ _) _ _) _ _) _ _) _ _) _ _=w8 at *
       clear hw8 j0 j1 j2 j3 j4 j5 j6 j7 j8 j9 fm
       have kq9:=qa q9X
       have kq8:=qa q8X
       have fq8:=qd q8X
       go_wp2
       exact jO (b:=w.heap.size) rfl rfl (XN q8X rfl _ _ _ _ _ _ _ _ _ _) (qcs hfr.out hC.out y3 s4 hgr hm6 hg6 hn6 h67 hW' hg8 hput (Yy _ _ _ _ _ _ _ _ _ _) ha ha2 hnode.out hits4.out hsp.out hcl.out ⟨lvl,A,_,c,fk,lk,true,by rw[hokb.out,←hsp.out.1],fun h=>⟨rfl,by
        have hb:b=true:=by rw[hsp.out.1,←hokb.out];exact h
        rw[hb];exact if_pos rfl⟩⟩)
    ·have hv:=HP0.out (by
      rw[HOK.out]
      have h1:¬L<0:=fun h=>hacc (.inl h)
      rw[decide_eq_false h1,Bool.false_or]
      by_cases h2:(lvl:Int)=L
      ·have h3:xs.length=0:=Classical.byContradiction fun h=>hacc (.inr ⟨h2,h⟩)
       rw[h3];simp
      ·rw[decide_eq_false h2];simp)
     have hcs:decide (L≥0)=true∧root=false∧(((lvl:Int) != L)=true∨(((lvl:Int) != L)=false∧((xs.length:Int) == 0)=true∧decide (xs.length=0)=true)):=by
      rcases hL with ⟨h1,h2⟩|⟨h1,h2,h3⟩
      ·exact absurd (Or.inl (by omega)) hacc
      ·refine⟨decide_eq_true (by omega),h3,?_⟩
       by_cases h4:(lvl:Int)=L
       ·have h5:xs.length=0:=Classical.byContradiction fun h=>hacc (.inr ⟨h4,h⟩)
        exact .inr ⟨by rw[bne_eq_false_iff_eq];exact h4,by rw[beq_iff_eq];omega,decide_eq_true h5⟩
       ·exact .inl (by rw[bne_iff_ne];exact h4)
     replace hv:=zH hv
     clear HR HOK HP0 hacc hL
     go_upto_region 7 with fail
     have v9:=XN r9 rfl (.int .i64 lvl) (.slice A xs.length c) (.int .u8 0) (.int .u32 0) (.int .u32 0) (.int .u8 0) (.int .u32 0) (.int .u32 0) (.bool false) (.bool true)
     have v8:=(Td (w:=w3) (b:=w.heap.size+1) (k:=w.heap.size) (by omega) (.int .i64 lvl) (.slice A xs.length c) (.int .u8 0) (.int .u32 0) (.int .u32 0) (.int .u8 0) (.int .u32 0) (.int .u32 0) (.bool false) (.bool true)).trans r8
     have y3:=Yp (b:=w.heap.size+1) x3 (by omega) (.int .i64 lvl) (.slice A xs.length c) (.int .u8 0) (.int .u32 0) (.int .u32 0) (.int .u8 0) (.int .u32 0) (.int .u32 0) (.bool false) (.bool true)
     replace v9:=(Below.heap_alloc _ (.cells #[.int .i64 lvl,.slice A xs.length c] 118) _ (zG.1 v9).1).trans v9
     replace v8:=(Below.heap_alloc _ (.cells #[.int .i64 lvl,.slice A xs.length c] 118) _ (zG.1 v8).1).trans v8
     replace y3:=Below.alloc y3 y3.size (.cells #[.int .i64 lvl,.slice A xs.length c] 118)
     generalize hw4:World.alloc (World.setCell (World.setCell (World.setCell (World.setCell (World.setCell (World.setCell (World.setCell (World.setCell (World.setCell (World.setCell w3 _ _) _ _) _ _) _ _) _ _) _ _) _ _) _ _) _ _) _ _) _=w4 at *
     clear hw4 k8 f8 k9 f9 r8 r9 x2 hd1 hd2 hkb hsb
     have k8:=qa v8
     have f8:=qd v8
     have k9:=qa v9
     have f9:=qd v9
     obtain⟨c1,rfl,c2|⟨c2,c3,c4⟩⟩:=hcs
     all_goals
      go_wp2
      exact jO (b:=w.heap.size) rfl rfl (XN v8 rfl _ _ _ _ _ _ _ _ _ _) (XR.same hC.out (Yp y3 (Nat.le_refl _) _ _ _ _ _ _ _ _ _ _) hv.out)
  ·obtain⟨n,lvl,xs,A,c,fk,lk,b,hn,_,_,hnode,rfl,hits,hspan,hclo⟩:=hC.known _ _ hfr
   obtain rfl:a=n:=by omega
   have hok:okL p.S L a=(b && (decide (L<0) || (decide ((lvl:Int)=L) && decide (xs.length≠0)))):=by rw[HOK.out,hnode,hspan.1];rfl
   have HPv:okL p.S L a=b→qai p L a (vg lvl A xs.length c fk lk true b) f:=fun h=>⟨_,A,_,c,fk,lk,true,by rw[h],fun h'=>⟨rfl,by rw[hfr,←h,h']⟩⟩
   obtain⟨k0,k1,k2,k3,k4,k5,k6,k7,k8,k9⟩:=hC.arr.cells ha2 (by rw[hfr];rfl)
   replace HPv:=zH HPv
   replace hok:=zH hok
   replace hC:=zH hC
   clear hfr hclo hspan hits hnode HOK HR hn hr
   generalize hxl:xs.length=m at *
   clear hxl
   have hcs:(okL p.S L a=b∧b=true∧((decide (L≥0)=false∧root=true)∨(decide (L≥0)=true∧root=false∧((lvl:Int) != L)=false∧((m:Int) == 0)=false∧decide (m=0)=false))) ∨
     (okL p.S L a=false∧(b=false∨(b=true∧decide (L≥0)=true∧root=false∧(((lvl:Int) != L)=true∨(((lvl:Int) != L)=false∧((m:Int) == 0)=true∧decide (m=0)=true))))):=by
    rw[hok.out]
    cases b
    ·exact .inr ⟨rfl,.inl rfl⟩
    ·rcases hL with ⟨h1,h2⟩|⟨h1,h2,h3⟩
     ·exact .inl ⟨by rw[decide_eq_true (by omega)];rfl,rfl,.inl ⟨decide_eq_false (by omega),h2⟩⟩
     ·have h0:decide (L<0)=false:=decide_eq_false (by omega)
      by_cases h4:(lvl:Int)=L
      ·by_cases h5:m=0
       ·exact .inr ⟨by rw[h0,h5];simp,.inr ⟨rfl,decide_eq_true (by omega),h3,.inr ⟨by rw[bne_eq_false_iff_eq];exact h4,by rw[beq_iff_eq];omega,decide_eq_true h5⟩⟩⟩
       ·exact .inl ⟨by rw[decide_eq_true h4,decide_eq_true h5];simp,rfl,.inr ⟨decide_eq_true (by omega),h3,by rw[bne_eq_false_iff_eq];exact h4,by rw[beq_eq_false_iff_ne];omega,decide_eq_false h5⟩⟩
      ·exact .inr ⟨by rw[h0,decide_eq_false h4];simp,.inr ⟨rfl,decide_eq_true (by omega),h3,.inl (by rw[bne_iff_ne];exact h4)⟩⟩
   clear hok hL
   rcases hcs with ⟨hok,rfl,hcs⟩|⟨hok,hcs⟩
   ·have hv:=zH (HPv.out hok)
    clear hok HPv HP0
    rcases hcs with ⟨c1,rfl⟩|⟨c1,rfl,c2,c3,c4⟩
    all_goals
     go_enter Tryz.func106,Tryz.ntmps106
     go_wp2
     generalize hwf:World.alloc (World.alloc _ _) _=wf
     have rf:wf.heap[w.heap.size]?=some (.cells (QV lvl A m c fk lk true true) 185 (0,0)):=by rw[←hwf];exact(Below.heap_alloc _ _ _ (by simp)).trans (World.alloc_heap_at _ _ _ rfl)
     have xf:Ext w wf:=by rw[←hwf];exact(Ext.alloc _ _).trans (Ext.alloc _ _)
     exact jO (b:=w.heap.size) rfl rfl rf (XR.same hC.out xf hv.out)
   ·have hv:=zH (HP0.out hok)
    clear hok HPv HP0
    rcases hcs with rfl|⟨rfl,c1,rfl,c2|⟨c2,c3,c4⟩⟩
    all_goals
     go_enter Tryz.func106,Tryz.ntmps106
     go_wp2
     generalize hwf:World.alloc (World.alloc _ _) _=wf
     have rf:wf.heap[w.heap.size]?=some (.cells (QV 0 none 0 0 (0,0,0) (0,0,0) false false) 185 (0,0)):=by rw[←hwf];exact(Below.heap_alloc _ _ _ (by simp)).trans (World.alloc_heap_at _ _ _ rfl)
     have xf:Ext w wf:=by rw[←hwf];exact(Ext.alloc _ _).trans (Ext.alloc _ _)
     exact jO (b:=w.heap.size) rfl rfl rf (XR.same hC.out xf hv.out)
theorem tab_at {w:World} {B:Nat} {v:Value} {l:List UInt8} (h:Bys w B v l) (hl:l.length=256):∃ b o c,v=.slice (some ⟨b,o,none⟩) 256 c∧b<B∧∀ k:Nat,k<256→w.cell? ⟨b,o+k,none⟩=some (.int .u8 ((l[k]?.getD 0).toNat:Int)):=by
 obtain⟨A,c,rfl,_,_,hr⟩:=h
 obtain⟨b,o,rfl,hb,hc⟩:=hr.2 (by omega)
 exact⟨b,o,c,by rw[hl],hb,fun k hk=>hc k _ (by rw[List.getElem?_map,List.getElem?_eq_getElem (by omega)];rfl)⟩
structure Chg (l h c:Nat) (w6 W:World):Prop where
 os:W.os=w6.os
 tape:W.tape=w6.tape
 output:W.output=w6.output
 size:w6.heap.size≤W.heap.size
 block:∀ b,b<w6.heap.size→b≠c→(b<l∨h≤b)→W.heap[b]?=w6.heap[b]?
theorem Chg.refl (l h c:Nat) (w:World):Chg l h c w w:=⟨rfl,rfl,rfl,Nat.le_refl _,fun _ _ _ _=>rfl⟩
theorem Chg.ext {l h c:Nat} {w6 W W':World} (x:Chg l h c w6 W) (hx:Ext W W'):Chg l h c w6 W':=
 ⟨hx.os.trans x.os,hx.tape.trans x.tape,hx.output.trans x.output,Nat.le_trans x.size hx.size,fun b h1 h2 h3=>(hx.block b (Nat.lt_of_lt_of_le h1 x.size)).trans (x.block b h1 h2 h3)⟩
theorem Chg.grown {l h c:Nat} {w6 W W':World} {g:Nat} (x:Chg l h c w6 W) (hx:W.grownBy W' (some g)) (hg:g=c∨(l≤g∧g<h)∨w6.heap.size≤g):Chg l h c w6 W':=
 ⟨hx.os.trans x.os,hx.tape.trans x.tape,hx.output.trans x.output,Nat.le_trans x.size hx.size,fun b h1 h2 h3=>(hx.block b (Nat.lt_of_lt_of_le h1 x.size) (fun e=>by simp at e;omega)).trans (x.block b h1 h2 h3)⟩
structure GoB (p:KP) (h:Nat) (xs:List It) (A:Option Addr) (c:Nat) (w:World) (f:Int→Option Value) (wr:World) (g:Int→Option Value):Prop where
 rn:wr.heap[w.heap.size]?=some (.cells #[.int .i64 h,.slice A xs.length c] 118 (0,0))
 rr:wr.heap[w.heap.size+1]?=some (.cells (QV 0 none 0 0 (0,0,0) (0,0,0) false false) 185 (0,0))
 gr:Zf f g
 mp:jN wr p.sb g
 gw:w.grownBy wr (some p.sb)
 sz:w.heap.size+2<wr.heap.size
 nw:∀ a v,g a=some v→f a=none→kh p.S (w.heap.size+3) wr g a v
theorem GoB.news {p:KP} {h:Nat} {xs:List It} {A:Option Addr} {c:Nat} {w wr:World} {f g:Int→Option Value} (H:GoB p h xs A c w f wr g):vV p.S w f g wr:=
 fun a v h1 h2=>(H.nw a v h1 h2).keep (by omega) (Nat.le_refl _) (fun _ _ _=>rfl) (fun _ h=>h)
theorem GoB.ken {p:KP} {h:Nat} {xs:List It} {A:Option Addr} {c:Nat} {w wr:World} {f g:Int→Option Value} (H:GoB p h xs A c w f wr g) (hC:Ken p w f):Ken p wr g:=
 hC.after H.gr H.mp H.gw H.news
theorem GoB.round {p:KP} {h:Nat} {xs:List It} {A:Option Addr} {c:Nat} {w wr wa w6 W:World} {f g g':Int→Option Value} (H:GoB p h xs A c w f wr g) (hC:Ken p w f) (hx:Ext wr wa) (hgr:Zf g g') (hm:jN w6 p.sb g') (hg:wa.grownBy w6 (some p.sb)) (hn:vV p.S wa g g' w6)
  (hW:Chg wr.heap.size wa.heap.size (w.heap.size+2) w6 W):GoB p h xs A c w f W g':=by
 have hl:=hC.low
 have h2:=H.sz
 have zx:=hx.size
 have zg:=hg.size
 have zW:=hW.size
 have kb:∀ b,b<wr.heap.size→b≠w.heap.size+2→b≠p.sb→W.heap[b]?=wr.heap[b]?:=fun b h1 h2 h3 =>
  (hW.block b (by omega) h2 (.inl h1)).trans ((hg.block b (by omega) (by simp;exact h3)).trans (hx.block b h1))
 refine⟨(kb _ (by omega) (by omega) (by omega)).trans H.rn,(kb _ (by omega) (by omega) (by omega)).trans H.rr,H.gr.trans hgr,hm.of_heap (hW.block _ (by omega) (by omega) (.inl (by omega))),?_,by omega,fun a v h1 h0=>?_⟩
 ·refine⟨hW.os.trans (hg.os.trans (hx.os.trans H.gw.os)),hW.tape.trans (hg.tape.trans (hx.tape.trans H.gw.tape)),hW.output.trans (hg.output.trans (hx.output.trans H.gw.output)),by have:=H.gw.size;omega,fun b hb hne=>?_⟩
  exact(kb b (by omega) (by omega) (fun e=>hne (by rw[e]))).trans (H.gw.block b hb hne)
 ·rcases hga:g a with _|u
  ·exact(hn a v h1 hga).keep (by omega) zW (fun q h3 h4=>World.cell?_of_block (hW.block q.block h4 (by omega) (.inr h3))) (fun _ h=>h)
  ·have e:=hgr a u hga
   rw[h1] at e
   cases e
   exact(H.nw a v hga h0).keep (Nat.le_refl _) (by omega) (fun q h3 h4=>World.cell?_of_block (kb q.block h4 (by omega) (by omega))) hgr.some_
structure GoI (p:KP) (h:Nat) (xs:List It) (A:Option Addr) (c:Nat) (w:World) (f:Int→Option Value) (i:Value) (wr:World):Prop where
 ex:∃ (k:Nat) (g:Int→Option Value) (fk lk:K3) (b:Bool),k≤xs.length∧i=.int .i64 (k:Int)∧GoB p h xs A c w f wr g∧wr.heap[w.heap.size+2]?=some (.cells (QV h A xs.length c fk lk true b) 185 (0,0)) ∧
  ((b=true∧Zz p.S h (xs.take k) fk lk true)∨(b=false∧QL p.S h xs=none))∧(b=true→0<h→∀ y∈xs.take k,(g y.r).isSome=true)
theorem GoB.ret {p:KP} {h:Nat} {xs:List It} {A:Option Addr} {c:Nat} {w wr W:World} {f g:Int→Option Value} {v:Value} (H:GoB p h xs A c w f wr g) (hC:Ken p w f) (hg:wr.grownBy W (some (w.heap.size+1))) (hv:GoneP p h A c xs v g):XR p f (GoneP p h A c xs) w (.returned v) W:=by
 have hl:=hC.low
 have h2:=H.sz
 have hb:∀ b,b≠w.heap.size+1→b<wr.heap.size→W.heap[b]?=wr.heap[b]?:=fun b h1 h2=>hg.block b h2 (by simp;omega)
 exact⟨v,g,rfl,hv,H.gr,H.mp.of_heap (hb _ (by omega) (by omega)),World.grownBy.andThen H.gw hg (fun j e=>.inl (by cases e;omega)),
  fun a u h1 h0=>(H.nw a u h1 h0).keep (by omega) hg.size (fun q h3 h4=>World.cell?_of_block (hb q.block (by omega) h4)) (fun _ h=>h)⟩
theorem qeM {R:Ending→World→Prop} {a:Act} {W:World} {b:Nat} {lvl:Int} {A:Option Addr} {n c:Nat} {f l:K3} {d bo:Bool} (h6:a.tmps[4]?.getD undef=.pointer (some ⟨b,0,none⟩)) (hd:a.defers=[])
  (hrow:W.heap[b]?=some (.cells (QV lvl A n c f l d bo) 185 (0,0))) (hR:R (.returned (vg lvl A n c f l d bo)) W):bodyPost Tryz.prog Tryz.f133 R .ret a W:=by
 refine bodyPost_ret (v:=vg lvl A n c f l d bo) ?_ hd hR
 have k:=qa hrow
 simp[results,Tryz.results133,go_sem,h6,k]
theorem ken_now {p:KP} {W:World} {g:Int→Option Value} (hC:Ken p W g):∃ b o c,p.v3=.slice (some ⟨b,o,none⟩) 256 c∧∀ k:Nat,k<256→W.cell? ⟨b,o+k,none⟩=some (.int .u8 ((p.S.now[k]?.getD 0).toNat:Int)):=by
 obtain⟨b,o,c,e,_,h⟩:=tab_at hC.sto.now (qQ hC.may).2.2.1
 exact⟨b,o,c,e,h⟩
structure GoM (p:KP) (h:Nat) (xs:List It) (A:Option Addr) (c:Nat) (w:World) (f:Int→Option Value) (ya:Nat) (x:It) (r:Int) (A':Option Addr) (c':Nat) (fk lk L1:K3) (W:World) (g':Int→Option Value) (is':Bool):Prop where
 gb:GoB p h xs A c w f W g'
 rx:W.heap[w.heap.size+2]?=some (.cells (QV h A xs.length c fk lk true is') 185 (0,0))
 ra:W.heap[ya]?=some (.cells #[.int .u8 x.k,.int .u32 x.i,.int .u32 x.o,.int .i64 r,.slice A' x.val.length c'] 38 (0,0))
 rb:W.heap[ya+1]?=some (.cells #[.int .u8 L1.1,.int .u32 L1.2.1,.int .u32 L1.2.2] 34 (0,0))
 low:w.heap.size+2<ya
 ok:is'=true→jp p.S h x (Zp x) L1 true
 bad:is'=false→∃ F L B,jp p.S h x F L B∧(B=false∨F≠Zp x)
 cl:is'=true→0<h→(g' x.r).isSome=true
theorem GoB.set {p:KP} {h:Nat} {xs:List It} {A:Option Addr} {c:Nat} {w wr W:World} {f g:Int→Option Value} (H:GoB p h xs A c w f wr g) (hC:Ken p w f) (hg:wr.grownBy W (some (w.heap.size+2))):GoB p h xs A c w f W g:=
 H.round hC (Ext.refl _) (Zf.refl _) H.mp (World.grownBy.refl _ _) (vV.refl _ _ _ _) ((Chg.refl _ _ _ _).grown hg (.inl rfl))
theorem GoB.ext {p:KP} {h:Nat} {xs:List It} {A:Option Addr} {c:Nat} {w wr W:World} {f g:Int→Option Value} (H:GoB p h xs A c w f wr g) (hC:Ken p w f) (hx:Ext wr W):GoB p h xs A c w f W g:=
 H.round hC (Ext.refl _) (Zf.refl _) H.mp (World.grownBy.refl _ _) (vV.refl _ _ _ _) ((Chg.refl _ _ _ _).ext hx)
theorem GoM.ext {p:KP} {h:Nat} {xs:List It} {A:Option Addr} {c:Nat} {w:World} {f:Int→Option Value} {ya:Nat} {x:It} {r:Int} {A':Option Addr} {c':Nat} {fk lk L1:K3} {W W':World} {g':Int→Option Value} {is':Bool} (H:GoM p h xs A c w f ya x r A' c' fk lk L1 W g' is') (hC:Ken p w f) (hx:Ext W W'):GoM p h xs A c w f ya x r A' c' fk lk L1 W' g' is':=
 ⟨H.gb.ext hC hx,qc H.rx hx,qc H.ra hx,qc H.rb hx,H.low,H.ok,H.bad,H.cl⟩
theorem GoM.of8 {p:KP} {h:Nat} {xs:List It} {A:Option Addr} {c:Nat} {w wr wa w6 w8:World} {f g g':Int→Option Value} {x:It} {r:Int} {A':Option Addr} {c':Nat} {fk lk L1:K3} {b is':Bool} {u0 u1 u2:Value} (H:GoB p h xs A c w f wr g) (hC:Ken p w f) (hx:Ext wr wa) (hgr:Zf g g') (hm:jN w6 p.sb g') (hg:wa.grownBy w6 (some p.sb)) (hn:vV p.S wa g g' w6)
  (h8:Chg wr.heap.size wa.heap.size (w.heap.size+2) w6 w8) (za:wr.heap.size+1<wa.heap.size) (rx8:w8.heap[w.heap.size+2]?=some (.cells (QV h A xs.length c fk lk true b) 185 (0,0)))
  (ra8:w8.heap[wr.heap.size]?=some (.cells #[.int .u8 x.k,.int .u32 x.i,.int .u32 x.o,.int .i64 r,.slice A' x.val.length c'] 38 (0,0))) (rb8:w8.heap[wr.heap.size+1]?=some (.cells #[u0,u1,u2] 34 (0,0)))
  (hok:is'=true→jp p.S h x (Zp x) L1 true) (hbad:is'=false→∃ F L B,jp p.S h x F L B∧(B=false∨F≠Zp x)) (hcl:is'=true→0<h→(g' x.r).isSome=true) :
  GoM p h xs A c w f wr.heap.size x r A' c' fk lk L1 ((((w8.setCell ⟨w.heap.size+1+1,9,none⟩ (.bool is')).setCell ⟨wr.heap.size+1,0,none⟩ (.int .u8 L1.1)).setCell ⟨wr.heap.size+1,1,none⟩ (.int .u32 L1.2.1)).setCell ⟨wr.heap.size+1,2,none⟩ (.int .u32 L1.2.2)) g' is':=by
 have hs:=H.sz
 have key:∀ (W0:World) (k:Nat) (o:Obj),k≠wr.heap.size+1→W0.heap[k]?=some o→(((W0.setCell ⟨wr.heap.size+1,0,none⟩ (.int .u8 L1.1)).setCell ⟨wr.heap.size+1,1,none⟩ (.int .u32 L1.2.1)).setCell ⟨wr.heap.size+1,2,none⟩ (.int .u32 L1.2.2)).heap[k]?=some o:=fun W0 k o hk h0=>by
  rw[Below.heap_setCell _ _ _ _ (show k≠wr.heap.size+1 from hk),Below.heap_setCell _ _ _ _ (show k≠wr.heap.size+1 from hk),Below.heap_setCell _ _ _ _ (show k≠wr.heap.size+1 from hk),h0]
 have one:∀ (k:Nat) (o:Obj),k≠w.heap.size+2→w8.heap[k]?=some o→(w8.setCell ⟨w.heap.size+1+1,9,none⟩ (.bool is')).heap[k]?=some o:=fun k o hk h0=>(Below.heap_setCell _ _ _ _ (show k≠w.heap.size+1+1 from hk)).trans h0
 refine⟨H.round hC hx hgr hm hg hn ((((h8.grown (W':=w8.setCell ⟨w.heap.size+1+1,9,none⟩ (.bool is')) (g:=w.heap.size+2) qk (.inl rfl)).grown (g:=wr.heap.size+1) qk (.inr (.inl ⟨by omega,by omega⟩))).grown (g:=wr.heap.size+1) qk (.inr (.inl ⟨by omega,by omega⟩))).grown (g:=wr.heap.size+1) qk (.inr (.inl ⟨by omega,by omega⟩))),?_,?_,?_,by omega,hok,hbad,hcl⟩
 ·exact key _ _ _ (by omega) (qh rx8 9 _)
 ·exact key _ _ _ (by omega) (one _ _ (by omega) ra8)
 ·exact qh (qh (qh (one _ _ (by omega) rb8) 0 _) 1 _) 2 _
theorem GoM.of0 {p:KP} {h:Nat} {xs:List It} {A:Option Addr} {c:Nat} {w wr wa W:World} {f g:Int→Option Value} {x:It} {r:Int} {A':Option Addr} {c':Nat} {fk lk:K3} {b is':Bool} (H:GoB p h xs A c w f wr g) (hC:Ken p w f) (hx:Ext wr wa) (hW:Ext wa W) (za:wr.heap.size+1<wa.heap.size)
  (rx8:wa.heap[w.heap.size+2]?=some (.cells (QV h A xs.length c fk lk true b) 185 (0,0)))
  (ra8:wa.heap[wr.heap.size]?=some (.cells #[.int .u8 x.k,.int .u32 x.i,.int .u32 x.o,.int .i64 r,.slice A' x.val.length c'] 38 (0,0))) (rb8:wa.heap[wr.heap.size+1]?=some (.cells #[.int .u8 x.k,.int .u32 x.i,.int .u32 x.o] 34 (0,0)))
  (hok:jp p.S h x (Zp x) (Zp x) is') (hz:h=0):GoM p h xs A c w f wr.heap.size x r A' c' fk lk (Zp x) (W.setCell ⟨w.heap.size+1+1,9,none⟩ (.bool is')) g is':=by
 have hs:=H.sz
 have hE:=H.ext hC (hx.trans hW)
 have one:∀ (k:Nat) (o:Obj),k≠w.heap.size+2→wa.heap[k]?=some o→(W.setCell ⟨w.heap.size+1+1,9,none⟩ (.bool is')).heap[k]?=some o:=fun k o hk h0=>(Below.heap_setCell _ _ _ _ (show k≠w.heap.size+1+1 from hk)).trans (qc h0 hW)
 refine⟨hE.set hC qk,qh (qc rx8 hW) 9 _,one _ _ (by omega) ra8,one _ _ (by omega) rb8,by omega,fun h=>by rw[h] at hok;exact hok,fun h=>⟨_,_,_,hok,.inl h⟩,fun _ h=>by omega⟩
theorem GoM.next {p:KP} {h:Nat} {xs:List It} {A:Option Addr} {c:Nat} {w:World} {f:Int→Option Value} {ya:Nat} {x:It} {r:Int} {A':Option Addr} {c':Nat} {fk lk L1 fk':K3} {W W':World} {g':Int→Option Value} {is' b':Bool} {k:Nat} (H:GoM p h xs A c w f ya x r A' c' fk lk L1 W g' is') (hC:Ken p w f) (hk:k<xs.length) (hx:xs[k]=x)
  (hs:Zz p.S h (xs.take k) fk lk true) (hcl:0<h→∀ y∈xs.take k,(g' y.r).isSome=true) (hg:W.grownBy W' (some (w.heap.size+2))) (hr:W'.heap[w.heap.size+2]?=some (.cells (QV h A xs.length c fk' L1 true b') 185 (0,0)))
  (hf:fk'=if k=0 then Zp x else fk) (hb:(k=0∧b'=is')∨(0<k∧((qaU lk (Zp x)=true∧b'=is')∨(qaU lk (Zp x)=false∧b'=false)))):GoI p h xs A c w f (.int .i64 ((k:Int)+1)) W':=by
 subst hx
 refine⟨k+1,g',fk',L1,b',hk,rfl,H.gb.set hC hg,hr,?_,fun h1 h0 y hy=>?_⟩
 ·have hBAD:is'=false→QL p.S h xs=none:=fun hi=>by
   obtain⟨F,L,B,h1,h2⟩:=H.bad hi
   exact Ke hk h1 hs (by rcases h2 with h2|h2;exact .inl h2;exact .inr (.inl h2))
  rcases hb with ⟨h0,h1⟩|⟨h0,⟨h2,h1⟩|⟨h2,h1⟩⟩
  ·subst h1
   cases b'
   ·exact .inr ⟨rfl,hBAD rfl⟩
   ·refine .inl ⟨rfl,?_⟩
    rw[hf]
    exact YK hk (H.ok rfl) hs rfl (fun h=>by omega)
  ·subst h1
   cases b'
   ·exact .inr ⟨rfl,hBAD rfl⟩
   ·refine .inl ⟨rfl,?_⟩
    rw[hf]
    exact YK hk (H.ok rfl) hs rfl (fun _=>h2)
  ·subst h1
   refine .inr ⟨rfl,?_⟩
   cases hi:is'
   ·exact hBAD hi
   ·exact Ke hk (H.ok hi) hs (.inr (.inr ⟨h0,h2⟩))
 ·rw[List.take_succ_eq_append_getElem hk,List.mem_append,List.mem_singleton] at hy
  have hi:is'=true:=by
   rcases hb with ⟨_,h2⟩|⟨_,⟨_,h2⟩|⟨_,h2⟩⟩
   ·rw[←h2];exact h1
   ·rw[←h2];exact h1
   ·rw[h2] at h1;cases h1
  rcases hy with hy|rfl
  ·exact hcl h0 y hy
  ·exact H.cl hi h0
theorem Gb {rs:Nat→List Nat} {M M':Nat→Bool} {b:Nat} (h:∀ a,M a=true→M' a=true):∀ n,vL rs M b n≤vL rs M' b n
 |0=>Nat.le_refl _
 |n+1=>by
  unfold vL
  have:=Gb (rs:=rs) (b:=b) h n
  by_cases hn:M n=true
  ·rw[if_pos hn,if_pos (h n hn)];omega
  ·rw[if_neg hn];split <;> omega
theorem UO (xs:List It) (k b:Nat):(Jb xs k).count b≤(Jb xs xs.length).count b:=by
 unfold Jb
 refine List.Sublist.count_le b ?_
 refine List.Sublist.filter _ (List.Sublist.map _ ?_)
 rw[List.take_length]
 exact List.take_sublist k xs
theorem qbR (S:Sto) (M:Nat→Bool) (b:Nat):vL (zi S) M b 256≤1280:=by
 have:=qab (rs:=zi S) (M:=M) (b:=b) (k:=5) 256 fun a _ _=>Uc
 omega
def met1 (met:Nat→Nat) (a:Nat):Nat→Nat:=fun b=>if b=a then 1 else met b
theorem qeo (met:Nat→Nat) (a:Nat):zv (met1 met a)=Ju (zv met) a:=by
 funext b
 unfold zv met1 Ju
 by_cases e:b=a
 ·rw[if_pos e,if_pos e];rfl
 ·rw[if_neg e,if_neg e]
theorem Xj (f:Nat→Nat) {a:Nat} (ha:a<256):(zk f).toArray.setIfInBounds a (.int .i64 ((f a:Int)+1))=(zk (bump f a)).toArray:=by
 have:=qaZ f ha (f a+1)
 rw[show ((f a+1:Nat):Int)=(f a:Int)+1 by omega] at this
 rw[this]
 congr 2
 funext b
 unfold bump
 by_cases e:b=a
 ·rw[if_pos e,if_pos e,e]
 ·rw[if_neg e,if_neg e];rfl
def Few (S:Sto) (C:Nat) (refs met:Nat→Nat):Prop:=∀ b,refs b≤C+vL (zi S) (zv met) b 256
structure Rows2 (p:KP) (rb mb:Nat):Prop where
 ne:rb≠mb
 kr:p.kb≠rb
 km:p.kb≠mb
 sr:p.sb≠rb
 sm:p.sb≠mb
 br:p.B≤rb
 bm:p.B≤mb
def MarkQ (p:KP) (rb mb a:Nat) (refs met:Nat→Nat) (w:World) (e:Ending) (w':World):Prop:=e=.returned (.tuple #[])∧jZ rb mb w w' ∧
 ∃ refs' met',w'.heap[rb]?=some (.cells (zk refs').toArray 3 (0,0))∧w'.heap[mb]?=some (.cells (zk met').toArray 3 (0,0))∧JE (QX p.S) (zi p.S) [a] (zv met) refs (zv met') refs'
def MarkC (p:KP) (h:Nat):Prop:=∀ (a:Nat) (xs:List It) (w:World) (f:Int→Option Value) (rb mb:Nat) (refs met:Nat→Nat) (C:Nat),Ken p w f→ZN p.S a→qV p.S a=some ((h:Int),xs)→(f (a:Int)).isSome=true→Rows2 p rb mb →
 w.heap[rb]?=some (.cells (zk refs).toArray 3 (0,0))→w.heap[mb]?=some (.cells (zk met).toArray 3 (0,0))→Few p.S C refs met→C≤10000 →
 Calls Tryz.prog 108 #[.pointer (some ⟨p.kb,0,none⟩),.int .i64 (a:Int),.slice (some ⟨rb,0,none⟩) 256 256,.slice (some ⟨mb,0,none⟩) 256 256] w (MarkQ p rb mb a refs met w)
structure MkI (p:KP) (h:Nat) (xs:List It) (A:Option Addr) (c a:Nat) (w:World) (rb mb:Nat) (refs met:Nat→Nat) (i:Value) (wr:World):Prop where
 ex:∃ (k:Nat) (rfk mtk rk:Nat→Nat),k≤xs.length∧i=.int .i64 (k:Int)∧jZ rb mb w wr∧w.heap.size<wr.heap.size∧wr.heap[w.heap.size]?=some (.cells #[.int .i64 h,.slice A xs.length c] 118 (0,0)) ∧
  wr.heap[rb]?=some (.cells (zk rfk).toArray 3 (0,0))∧wr.heap[mb]?=some (.cells (zk mtk).toArray 3 (0,0))∧(∀ b,rfk b=rk b+(Jb xs k).count b)∧JE (QX p.S) (zi p.S) (zI h xs k) (Ju (zv met) a) refs (zv mtk) rk
theorem few_at {S:Sto} {C:Nat} {refs met mtk rk rfk:Nat→Nat} {xs:List It} {a h k:Nat} {T:List Nat} (hF:Few S C refs met) (hn:qV S a=some ((h:Int),xs)) (ha:met a=0) (hl:a<256) (hm:JE (QX S) (zi S) T (Ju (zv met) a) refs (zv mtk) rk)
  (hr:∀ b,rfk b=rk b+(Jb xs k).count b):Few S C rfk mtk:=by
 intro b
 have h1:=hm.sum b
 have h2:=kZ (rs:=zi S) (M:=zv met) (a:=a) (b:=b) (decide_eq_false (by omega)) 256
 rw[if_pos hl] at h2
 have h3:=hF b
 have h4:=UO xs k b
 rw[vR hn] at h4
 have h5:=hr b
 omega
theorem JE.sub {S:Sto} {T:List Nat} {M M':Nat→Bool} {rk rf rf':Nat→Nat} {cnt:Nat→Nat} (x:JE (QX S) (zi S) T M rf M' rf') (hr:∀ b,rf b=rk b+cnt b):JE (QX S) (zi S) T M rk M' (fun b=>rf' b-cnt b)∧∀ b,rf' b=(rf' b-cnt b)+cnt b:=by
 have hge:∀ b,cnt b≤rf' b:=fun b=>by
  have h1:=x.sum b
  have h2:=Gb (rs:=zi S) (b:=b) x.grow 256
  have h3:=hr b
  omega
 exact⟨x.more fun b=>by have:=hge b;have:=hr b;omega,fun b=>by have:=hge b;omega⟩
theorem Few.bump {S:Sto} {C:Nat} {refs met:Nat→Nat} (h:Few S C refs met) (a:Nat):Few S (C+1) (bump refs a) met:=by
 intro b
 have:=h b
 unfold Go.Proofs.YtckhnchnbeoogaaGreat.bump
 split <;> omega
theorem jZ.its {rb mb lo:Nat} {w w':World} {v:Value} {xs:List It} (hk:jZ rb mb w w') (h1:Tt w rb) (h2:Tt w mb) (h:zU lo w v xs):zU lo w' v xs:=
 h.keptInt hk.size fun b hb=>by
  by_cases e1:b=rb
  ·subst e1;exact .inr h1
  ·by_cases e2:b=mb
   ·subst e2;exact .inr h2
   ·exact .inl (hk.block b hb e1 e2)
theorem jZ.set {rb mb:Nat} {w w':World} (hk:jZ rb mb w w') {b i:Nat} (hb:b=rb∨b=mb) (u:Value):jZ rb mb w (w'.setCell ⟨b,i,none⟩ u):=
 ⟨hk.os,hk.tape,hk.output,by simpa using hk.size,fun k h1 h2 h3=>(Below.heap_setCell _ _ _ _ (show k≠b by rcases hb with e|e <;> (rw[e];assumption))).trans (hk.block k h1 h2 h3)⟩
end Go.Proofs.YtckhnchnbeoogaaGreat
