/- Texts Twin8, RTake, PCheck, Has, PoolW, Data, joined. -/
import Derived.RangeFuncLeaves
import Derived.WalkMore
import Derived.Test.YtckhnchnbeoogaaGreatV03
import Derived.Test.YtckhnchnbeoogaaGreatV10
import Derived.Test.YtckhnchnbeoogaaGreatV13
import Derived.Test.YtckhnchnbeoogaaGreatV15
import Derived.Test.YtckhnchnbeoogaaGreatV16
import Derived.Test.YtckhnchnbeoogaaGreatV17
import Derived.Test.YtckhnchnbeoogaaGreatV18
import Derived.Test.YtckhnchnbeoogaaGreatV19
import Derived.Test.YtckhnchnbeoogaaGreatV20
set_option linter.unusedSimpArgs false
set_option linter.unusedVariables false
namespace Go.Proofs.YtckhnchnbeoogaaGreat
open Go.RowKit
def outD (lo:Nat) (bs:List (List UInt8)) (ws:List (Int×List UInt8)):qT:=⟨(Option Addr×Nat)×(Option Addr×Nat),fun p=>Zw p.1.1 bs.length p.1.2 p.2.1 ws.length p.2.2,fun p W=>∀ W2:World,(∀ q:Addr,lo≤q.block→q.block<W.heap.size→W2.cell? q=W.cell? q)→Bls W2 W.heap.size (.slice p.1.1 bs.length p.1.2) bs∧Wrs W2 W.heap.size (.slice p.2.1 ws.length p.2.2) ws⟩
theorem Xf (lo:Nat) (bs:List (List UInt8)) (ws:List (Int×List UInt8)) (A:Option Addr) (c:Nat) (B:Option Addr) (d:Nat):(outD lo bs ws).f ((A,c),(B,d))=Zw A bs.length c B ws.length d:=rfl
theorem qbG (lo:Nat) (bs:List (List UInt8)) (ws:List (Int×List UInt8)):∀ p,qF qu ((outD lo bs ws).φ p):=fun p W W' he h W2 hk=>by
 have he:Ext W W':=he
 have:=h W2 (fun q h1 h2=>(hk q h1 (Nat.lt_of_lt_of_le h2 he.size)).trans (World.cell?_of_block (he.block q.block h2)))
 exact⟨this.1.more he.size,this.2.more he.size⟩
theorem JF (lo n:Nat) (l:List UInt8):∀ p,qF qu ((ZA lo n l).φ p):=fun p W W' he h=>by
 have he:Ext W W':=he
 exact⟨(h.1.below he).more he.size,h.2⟩
set_option maxHeartbeats 2000000 in
set_option maxRecDepth 100000 in
theorem qeP (A1:Option Addr) (n1 c1:Nat) (A2:Option Addr) (n2 c2:Nat) (A3:Option Addr) (c3:Nat) (A4:Option Addr) (c4:Nat) (S:Sto) (hS:kK S) (w:World) (h:qH w w.heap.size (.slice A1 n1 c1) (.slice A2 n2 c2) (.slice A3 S.now.length c3) (.slice A4 S.last.length c4) S) :
  Calls Tryz.prog 24 #[Qy A1 n1 c1 A2 n2 c2 A3 S.now.length c3 A4 S.last.length c4] w (zE (qbB w.heap.size S) w):=by
 have HD:=zH (fun W (hW:Ext w W)=>qek A1 n1 c1 A2 n2 c2 S.bs S.ws hS.bs hS.ws hS.be hS.we W (h.ext hW).bs (h.ext hW).ws)
 have HN:=zH (fun W (hW:Ext w W)=>qbX (h.ext hW).now hS.now)
 have HL:=zH (fun W (hW:Ext w W)=>qbX (h.ext hW).last hS.last)
 clear h hS
 go_enter Tryz.func24,Tryz.ntmps24
 go_wp2_with fail
 generalize hw1:(World.alloc (World.alloc _ _) _)=w1
 have x1:Ext w w1:=by rw[←hw1];exact(Ext.alloc _ _).trans (Ext.alloc _ _)
 have r1:w1.heap[w.heap.size]?=some (.cells #[.slice A1 n1 c1,.slice A2 n2 c2,.slice A3 S.now.length c3,.slice A4 S.last.length c4] 28 (0,0)):=by rw[←hw1];exact(Below.heap_alloc _ _ _ (by simp)).trans (World.alloc_heap_at _ _ _ rfl)
 have q1:w1.heap[w.heap.size+1]?=some (.cells #[.slice none 0 0,.slice none 0 0,.slice none 0 0,.slice none 0 0] 28 (0,0)):=by rw[←hw1];exact World.alloc_heap_at _ _ _ (by simp)
 clear hw1
 have g1:∀ W,qu.r w1 W→∀ i,W.cell? ⟨w.heap.size,i,none⟩=#[.slice A1 n1 c1,.slice A2 n2 c2,.slice A3 S.now.length c3,.slice A4 S.last.length c4][i]?:=fun W h=>qa (qc r1 h)
 refine qv (by kernel_rfl) ?_
 refine Qu (w:=w1) qu (qE [(2,outD w1.heap.size S.bs S.ws),(5,ZA w1.heap.size S.now.length S.now),(8,ZA w1.heap.size S.last.length S.last)])
  [true,true,true,true,true,true,true,true,true] 2 (by kernel_rfl) (by kernel_rfl) (by kernel_rfl) (by kernel_rfl) (by kernel_rfl) (by kernel_rfl) (by kernel_rfl) ?st (Rel.drew _ _) ?walk
 case st=>exact qm (by simp only[List.forall_mem_cons];exact⟨qbG _ _ _,JF _ _ _,JF _ _ _,fun _ h=>by cases h⟩)
 case walk =>
  intro K hK
  dsimp only[qz]
  repeat ((first|(refine qf ?_ (by rfl) (by rfl) (fun W hW _=>⟨W,?_,Rel.refl _ W⟩) ?_;rotate_left;(first|(go_simp;with_reducible rfl)|(go_simp;done)))|(refine qj (by rfl) ?_));try simp only[Act.put,qi,qe,qb,qg,Xf,qe,zA,zB,zC])
  refine qA (outD w1.heap.size S.bs S.ws) (by rfl) (by rfl) (fun W hW _=>?_) (fun p=>?_)
  ·refine Qg ?_ ((HD.out W (Ext.trans x1 hW)).mono fun e w' h=>?_)
   ·go_simp
   have hW:Ext w1 W:=hW
   obtain⟨u,rfl,⟨B1,d1,B2,d2,rfl,h1⟩,hB⟩:=h
   exact⟨((B1,d1),(B2,d2)),rfl,fun W2 hk=>h1 W2 (fun q hq hz=>hk q (Nat.le_trans hW.size hq) hz),hB⟩
  obtain⟨⟨B1,d1⟩,⟨B2,d2⟩⟩:=p
  simp only[Act.put,qi,qe,qb,qg,Xf,qe,zA,zB,zC]
  repeat ((first|(refine qf ?_ (by rfl) (by rfl) (fun W hW _=>⟨W,?_,Rel.refl _ W⟩) ?_;rotate_left;(first|(go_simp;with_reducible rfl)|(go_simp;done)))|(refine qj (by rfl) ?_));try simp only[Act.put,qi,qe,qb,qg,Xf,qe,zA,zB,zC])
  refine qA (ZA w1.heap.size S.now.length S.now) (by rfl) (by rfl) (fun W hW _=>?_) (fun p=>?_)
  ·have hW:Ext w1 W:=hW
   obtain⟨p,w',hrun,h1,h2⟩:=HN.out W (Ext.trans x1 hW)
   refine Qa (u:=.slice p.1 S.now.length p.2) (w':=w') ?_ ⟨p,rfl,⟨h1.1,h1.2.mono hW.size⟩,h2⟩
   exact QQ (s:=.const (.slice none 0 0)) (x:=.tmp 7) rfl rfl rfl hrun
  obtain⟨B3,d3⟩:=p
  simp only[Act.put,qi,qe,qb,qg,Xf,qe,zA,zB,zC]
  repeat ((first|(refine qf ?_ (by rfl) (by rfl) (fun W hW _=>⟨W,?_,Rel.refl _ W⟩) ?_;rotate_left;(first|(go_simp;with_reducible rfl)|(go_simp;done)))|(refine qj (by rfl) ?_));try simp only[Act.put,qi,qe,qb,qg,Xf,qe,zA,zB,zC])
  refine qA (ZA w1.heap.size S.last.length S.last) (by rfl) (by rfl) (fun W hW _=>?_) (fun p=>?_)
  ·have hW:Ext w1 W:=hW
   obtain⟨p,w',hrun,h1,h2⟩:=HL.out W (Ext.trans x1 hW)
   refine Qa (u:=.slice p.1 S.last.length p.2) (w':=w') ?_ ⟨p,rfl,⟨h1.1,h1.2.mono hW.size⟩,h2⟩
   exact QQ (s:=.const (.slice none 0 0)) (x:=.tmp 10) rfl rfl rfl hrun
  obtain⟨B4,d4⟩:=p
  simp only[Act.put,qi,qe,qb,qg,Xf,qe,zA,zB,zC]
  refine qD (hK _ _ fun W hW hF=>?_)
  have hD:=(hF 2).1
  have hN:Bys W W.heap.size (.slice B3 S.now.length d3) S.now∧QD w1.heap.size (.slice B3 S.now.length d3):=(hF 5).1
  have hL:Bys W W.heap.size (.slice B4 S.last.length d4) S.last∧QD w1.heap.size (.slice B4 S.last.length d4):=(hF 8).1
  clear hF hK g1
  have hW':Ext w1 W:=hW
  dsimp only[List.drop,List.length_cons,List.length_nil]
  have qW:=qc q1 hW'
  have kW:=qa qW
  have fW:=qd qW
  have hz:w.heap.size+1<w1.heap.size:=(zG.1 q1).1
  have rf:=qh (qh (qh (qh qW 0 (.slice B1 S.bs.length d1)) 1 (.slice B2 S.ws.length d2)) 2 (.slice B3 S.now.length d3)) 3 (.slice B4 S.last.length d4)
  have bf:Below w.heap.size w ((((W.setCell ⟨w.heap.size+1,0,none⟩ (.slice B1 S.bs.length d1)).setCell ⟨w.heap.size+1,1,none⟩ (.slice B2 S.ws.length d2)).setCell ⟨w.heap.size+1,2,none⟩ (.slice B3 S.now.length d3)).setCell ⟨w.heap.size+1,3,none⟩ (.slice B4 S.last.length d4)):=by
   have xW:Below w.heap.size w W:=Ext.trans x1 hW'
   exact Below.setCell (Below.setCell (Below.setCell (Below.setCell xW (p:=⟨w.heap.size+1,0,none⟩) (Nat.le_succ _) _) (p:=⟨w.heap.size+1,1,none⟩) (Nat.le_succ _) _) (p:=⟨w.heap.size+1,2,none⟩) (Nat.le_succ _) _) (p:=⟨w.heap.size+1,3,none⟩) (Nat.le_succ _) _
  have hsz:((((W.setCell ⟨w.heap.size+1,0,none⟩ (.slice B1 S.bs.length d1)).setCell ⟨w.heap.size+1,1,none⟩ (.slice B2 S.ws.length d2)).setCell ⟨w.heap.size+1,2,none⟩ (.slice B3 S.now.length d3)).setCell ⟨w.heap.size+1,3,none⟩ (.slice B4 S.last.length d4)).heap.size=W.heap.size:=by simp
  have hA:qbB w.heap.size S (Qy B1 S.bs.length d1 B2 S.ws.length d2 B3 S.now.length d3 B4 S.last.length d4) ((((W.setCell ⟨w.heap.size+1,0,none⟩ (.slice B1 S.bs.length d1)).setCell ⟨w.heap.size+1,1,none⟩ (.slice B2 S.ws.length d2)).setCell ⟨w.heap.size+1,2,none⟩ (.slice B3 S.now.length d3)).setCell ⟨w.heap.size+1,3,none⟩ (.slice B4 S.last.length d4)):=by
   refine⟨B1,d1,B2,d2,B3,d3,B4,d4,rfl,fun W2 hk=>?_⟩
   rw[hsz] at hk ⊢
   have hk':∀ q:Addr,w1.heap.size≤q.block→q.block<W.heap.size→W2.cell? q=W.cell? q:=fun q hq hl=>(hk q (by omega) hl).trans (World.cell?_of_block ((Below.heap_setCell _ _ _ _ (by show q.block≠w.heap.size+1;omega)).trans ((Below.heap_setCell _ _ _ _ (by show q.block≠w.heap.size+1;omega)).trans ((Below.heap_setCell _ _ _ _ (by show q.block≠w.heap.size+1;omega)).trans (Below.heap_setCell _ _ _ _ (by show q.block≠w.heap.size+1;omega))))))
   exact⟨(hD W2 hk').1,(hD W2 hk').2,hN.1.keepN hN.2 hk',hL.1.keepN hL.2 hk'⟩
  have kf:=zH (qa rf)
  replace hA:=zH hA
  replace bf:=zH bf
  clear rf hD hsz hN hL
  go_wp2
  refine Qw ?_
  go_wp2
  have kf:=kf.out
  exact bodyPost_ret (v:=Qy B1 S.bs.length d1 B2 S.ws.length d2 B3 S.now.length d3 B4 S.last.length d4) (by simp[results,Tryz.results24,go_sem,kf]) rfl ⟨_,rfl,hA.out,bf.out⟩
end Go.Proofs.YtckhnchnbeoogaaGreat
namespace Go.Proofs.YtckhnchnbeoogaaGreat
open Go.RowKit Go.Shelf
attribute [local go_sem] Oper.semAt_some
def qO (S:Sto):Nat:=(Qh S).headD 0
def jV (S:Sto) (data:List UInt8):Int:=if qB S=true then (if data.length=128 then (if Qh S=[]∨S.ws.length=4096 then 9 else 0) else 3) else 8
def ZR (S:Sto) (a:Nat) (data:List UInt8):Sto:=⟨S.bs,S.ws++[((a:Int),data)],S.now.set a 1,S.last⟩
def RTakeQ (S:Sto) (data:List UInt8) (lo:Nat) (u:Value) (W:World):Prop:=(jV S data≠0∧u=.tuple #[sto0,.int .i64 0,.int .i64 (jV S data)])∨(jV S data=0∧∃ v,u=.tuple #[v,.int .i64 (qO S:Int),.int .i64 0]∧Tq lo (ZR S (qO S) data) v W)
theorem KeepsOthers.of_ext {W W':World} (h:Ext W W'):KeepsOthers W W':=⟨h.size,fun k _ hk _=>(h.block k (zG.1 hk).1).trans hk⟩
theorem UY {n b:Nat} {R:Ending→World→Prop} {a:Act} {W:World} {x0 x1 x2 x3 y z:Value} (h4:a.tmps[4]?.getD undef=.pointer (some ⟨b+1+1,0,none⟩)) (h5:a.tmps[5]?.getD undef=.pointer (some ⟨b+1+1+1,0,none⟩)) (h6:a.tmps[6]?.getD undef=.pointer (some ⟨b+1+1+1+1,0,none⟩)) (hd:a.defers=[])
  (r4:W.heap[b+2]?=some (.cells #[x0,x1,x2,x3] 28 (0,0))) (r5:W.heap[b+3]?=some (.cells #[y] 3 (0,0))) (r6:W.heap[b+4]?=some (.cells #[z] 39 (0,0))) (hR:R (.returned (.tuple #[.agg #[x0,x1,x2,x3],y,z])) W) :
  bodyPostM Fence.wide n Tryz.prog Tryz.f36 R .ret a W:=by
 have k4:=qa r4
 have k5:=qa r5
 have k6:=qa r6
 change LeavesInM Fence.wide n Tryz.prog Tryz.f36 a.tmps R a.defers .returning W
 rw[hd]
 refine⟨.tuple #[.agg #[x0,x1,x2,x3],y,z],?_,hR⟩
 simp[results,Tryz.results36,go_sem,h4,h5,h6,k4,k5,k6]
theorem Ur {n b D:Nat} {R:Ending→World→Prop} {a:Act} {W:World} {x0 x1 x2 x3 y z:Value} (h4:a.tmps[4]?.getD undef=.pointer (some ⟨b+1+1,0,none⟩)) (h5:a.tmps[5]?.getD undef=.pointer (some ⟨b+1+1+1,0,none⟩)) (h6:a.tmps[6]?.getD undef=.pointer (some ⟨b+1+1+1+1,0,none⟩)) (hd:a.defers=[{ target:=.collected D,args:=#[] }])
  (hK:W.heap[D]?=some (.deferred (some []))) (hD:b+4<D)
  (r4:W.heap[b+2]?=some (.cells #[x0,x1,x2,x3] 28 (0,0))) (r5:W.heap[b+3]?=some (.cells #[y] 3 (0,0))) (r6:W.heap[b+4]?=some (.cells #[z] 39 (0,0))) (hR:R (.returned (.tuple #[.agg #[x0,x1,x2,x3],y,z])) (W.putObj D (.deferred none))) :
  bodyPostM Fence.wide n Tryz.prog Tryz.f36 R .ret a W:=by
 have k4:=qa ((World.putObj_heap_other (o:=.deferred none) (show b+2≠D by omega)).trans r4)
 have k5:=qa ((World.putObj_heap_other (o:=.deferred none) (show b+3≠D by omega)).trans r5)
 have k6:=qa ((World.putObj_heap_other (o:=.deferred none) (show b+4≠D by omega)).trans r6)
 change LeavesInM Fence.wide n Tryz.prog Tryz.f36 a.tmps R a.defers .returning W
 rw[hd]
 refine⟨by simp,.inl ⟨_,_,rfl,run_takeDeferred hK,.tuple #[.agg #[x0,x1,x2,x3],y,z],?_,hR⟩⟩
 simp[results,Tryz.results36,go_sem,h4,h5,h6,k4,k5,k6]
theorem VR {w W:World} {x0 x1 x2 x3 y z:Value} {ty1 ty2 ty3:TypeId} {u0 u1 u2 u3 u5 u6:Value} (r4:W.heap[w.heap.size+2]?=some (.cells #[u0,u1,u2,u3] ty1 (0,0))) (r5:W.heap[w.heap.size+3]?=some (.cells #[u5] ty2 (0,0))) (r6:W.heap[w.heap.size+4]?=some (.cells #[u6] ty3 (0,0))) {C:World}
  (hC:C=((((((W.setCell ⟨w.heap.size+1+1,0,none⟩ x0).setCell ⟨w.heap.size+1+1,1,none⟩ x1).setCell ⟨w.heap.size+1+1,2,none⟩ x2).setCell ⟨w.heap.size+1+1,3,none⟩ x3).setCell ⟨w.heap.size+1+1+1,0,none⟩ y).setCell ⟨w.heap.size+1+1+1+1,0,none⟩ z)) :
  C.heap[w.heap.size+2]?=some (.cells #[x0,x1,x2,x3] ty1 (0,0))∧C.heap[w.heap.size+3]?=some (.cells #[y] ty2 (0,0))∧C.heap[w.heap.size+4]?=some (.cells #[z] ty3 (0,0))∧(∀ {B:Nat} {w0:World},B≤w.heap.size+2→Below B w0 W→Below B w0 C)∧C.heap.size=W.heap.size∧(∀ k,w.heap.size+5≤k→C.heap[k]?=W.heap[k]?)∧KeepsOthers W C:=by
 subst hC
 have hs:=fun (A:World) (b j:Nat) (v:Value) (k:Nat) (hk:k≠b)=>Below.heap_setCell A ⟨b,j,none⟩ v k hk
 refine⟨?_,?_,?_,fun hB h=>?_,by simp,fun k hk=>?_,?_⟩
 ·rw[hs _ _ _ _ _ (by omega),hs _ _ _ _ _ (by omega)]
  exact TG r4 x0 x1 x2 x3
 ·rw[hs _ _ _ _ _ (by omega)]
  refine qh (t:=ty2) (cs:=#[u5]) ?_ 0 y
  rw[hs _ _ _ _ _ (by omega),hs _ _ _ _ _ (by omega),hs _ _ _ _ _ (by omega),hs _ _ _ _ _ (by omega)]
  exact r5
 ·refine qh (t:=ty3) (cs:=#[u6]) ?_ 0 z
  rw[hs _ _ _ _ _ (by omega),hs _ _ _ _ _ (by omega),hs _ _ _ _ _ (by omega),hs _ _ _ _ _ (by omega),hs _ _ _ _ _ (by omega)]
  exact r6
 ·exact Below.setCell (Below.setCell (ZO h (b:=w.heap.size+1+1) (by omega) x0 x1 x2 x3) (p:=⟨w.heap.size+1+1+1,0,none⟩) (by simp;omega) _) (p:=⟨w.heap.size+1+1+1+1,0,none⟩) (by simp;omega) _
 ·rw[hs _ _ _ _ _ (by omega),hs _ _ _ _ _ (by omega),hs _ _ _ _ _ (by omega),hs _ _ _ _ _ (by omega),hs _ _ _ _ _ (by omega),hs _ _ _ _ _ (by omega)]
 ·exact(((((KeepsOthers.setCell _ _ _).trans (KeepsOthers.setCell _ _ _)).trans (KeepsOthers.setCell _ _ _)).trans (KeepsOthers.setCell _ _ _)).trans (KeepsOthers.setCell _ _ _)).trans (KeepsOthers.setCell _ _ _)
def TakeB (w:World) (S:Sto) (data:List UInt8) (x:Nat) (Wb:World):Prop:=∃ x0 x1 x2 x3 y e,Wb.heap[w.heap.size+2]?=some (.cells #[x0,x1,x2,x3] 28 (0,0))∧Wb.heap[w.heap.size+3]?=some (.cells #[.int .i64 y] 3 (0,0))∧Wb.heap[w.heap.size+4]?=some (.cells #[.int .i64 e] 39 (0,0)) ∧
 ((e≠0∧e=jc S.bs S.ws (x:Int) data∧y=0∧Value.agg #[x0,x1,x2,x3]=sto0)∨(e=0∧jc S.bs S.ws (x:Int) data=0∧y=(x:Int)∧∃ B1 d1 B2 d2 B3 d3 B4 d4,(x0=.slice B1 S.bs.length d1∧x1=.slice B2 (S.ws.length+1) d2∧x2=.slice B3 S.now.length d3∧x3=.slice B4 S.last.length d4) ∧
  ∀ C:World,(∀ q:Addr,w.heap.size+5≤q.block→q.block<Wb.heap.size→C.cell? q=(thaw Wb).cell? q)→qH C Wb.heap.size x0 x1 x2 x3 (ZR S x data)))
theorem UQ {S:Sto} {x:Nat} {data:List UInt8} (h:jc S.bs S.ws (x:Int) data=0):Kh (Qe S.bs S.ws) (x:Int)=0∧x<256:=by
 unfold jc at h
 split at h
 ·rename_i h1;exact absurd h h1
 ·rename_i h1
  have h2:Kh (Qe S.bs S.ws) (x:Int)=0:=by simpa using h1
  refine⟨h2,?_⟩
  unfold Kh at h2
  split at h2
  ·split at h2
   ·omega
   ·cases h2
  ·cases h2
set_option maxHeartbeats 8000000 in
set_option maxRecDepth 100000 in
theorem qet (A1:Option Addr) (n1 c1:Nat) (A2:Option Addr) (n2 c2:Nat) (A3:Option Addr) (n3 c3:Nat) (A4:Option Addr) (n4 c4:Nat) (S:Sto) (A:Option Addr) (c:Nat) (data:List UInt8) (w:World)
  (h:qH w w.heap.size (.slice A1 n1 c1) (.slice A2 n2 c2) (.slice A3 n3 c3) (.slice A4 n4 c4) S) (hd:Bys w w.heap.size (.slice A data.length c) data) :
  Calls Tryz.prog 36 #[Qy A1 n1 c1 A2 n2 c2 A3 n3 c3 A4 n4 c4,.slice A data.length c] w (zE (RTakeQ S data w.heap.size) w):=by
 have HC:=zH (fun W (hx:Ext w W)=>JQ A1 n1 c1 A2 n2 c2 A3 n3 c3 A4 n4 c4 S W (h.ext hx))
 refine(callsIn_wide (n:=3)).1 ?_
 refine callsIn_of_wp_marks Tryz.func36 rfl trivial ?_ rfl
 simp only[Tryz.ntmps36,List.size_toArray,List.length_cons,List.length_nil,Nat.reduceAdd,Nat.reduceSub,Array.replicate_succ,Array.replicate_zero,List.push_toArray,List.append_toArray,List.nil_append,List.cons_append]
 refine wpIn_wide.2 ?_
 replace h:=zH h
 replace hd:=zH hd
 go_wp2_with fail
 generalize hw1:(World.alloc (World.alloc _ _) _)=w1
 have x1:Ext w w1:=by rw[←hw1];exact((((Ext.alloc _ _).trans (Ext.alloc _ _)).trans (Ext.alloc _ _)).trans (Ext.alloc _ _)).trans (Ext.alloc _ _)
 have s1:w1.heap.size=w.heap.size+5:=by rw[←hw1];simp
 have ra1:w1.heap[w.heap.size]?=some (.cells #[.slice A1 n1 c1,.slice A2 n2 c2,.slice A3 n3 c3,.slice A4 n4 c4] 28 (0,0)):=by rw[←hw1];exact(Below.heap_alloc _ _ _ (by simp <;> omega)).trans ((Below.heap_alloc _ _ _ (by simp <;> omega)).trans ((Below.heap_alloc _ _ _ (by simp <;> omega)).trans ((Below.heap_alloc _ _ _ (by simp <;> omega)).trans (World.alloc_heap_at _ _ _ rfl))))
 have rb1:w1.heap[w.heap.size+1]?=some (.cells #[.slice A data.length c] 26 (0,0)):=by rw[←hw1];exact(Below.heap_alloc _ _ _ (by simp <;> omega)).trans ((Below.heap_alloc _ _ _ (by simp <;> omega)).trans ((Below.heap_alloc _ _ _ (by simp <;> omega)).trans (World.alloc_heap_at _ _ _ (by simp))))
 have rc1:w1.heap[w.heap.size+2]?=some (.cells #[.slice none 0 0,.slice none 0 0,.slice none 0 0,.slice none 0 0] 28 (0,0)):=by rw[←hw1];exact(Below.heap_alloc _ _ _ (by simp <;> omega)).trans ((Below.heap_alloc _ _ _ (by simp <;> omega)).trans (World.alloc_heap_at _ _ _ (by simp)))
 have rd1:w1.heap[w.heap.size+3]?=some (.cells #[.int .i64 0] 3 (0,0)):=by rw[←hw1];exact(Below.heap_alloc _ _ _ (by simp <;> omega)).trans (World.alloc_heap_at _ _ _ (by simp))
 have re1:w1.heap[w.heap.size+4]?=some (.cells #[.int .i64 0] 39 (0,0)):=by rw[←hw1];exact World.alloc_heap_at _ _ _ (by simp)
 clear hw1
 refine(HC.out w1 x1).mono ?_
 clear HC
 rintro e w2 ⟨rfl,hB⟩
 have x2:Ext w w2:=x1.trans hB
 have s2:=hB.size
 have ra2:=qc ra1 hB
 have rb2:=qc rb1 hB
 have rc2:=qc rc1 hB
 have rd2:=qc rd1 hB
 have re2:=qc re1 hB
 clear hB ra1 rb1 rc1 rd1 re1 x1
 have ka2:=qa ra2
 have kb2:=qa rb2
 have kc2:=qa rc2
 have kd2:=qa rd2
 have ke2:=qa re2
 have fc2:=qd rc2
 have fd2:=qd rd2
 have fe2:=qd re2
 rcases hS:qB S with _|_
 ·rw[ju rfl]
  have hE:jV S data=8:=by unfold jV;rw[hS];rfl
  replace hE:=zH hE
  replace hS:=zH hS
  go_wp2_with fail
  obtain⟨g4,g5,g6,hb,-⟩:=VR rc2 rd2 re2 rfl
  exact UY rfl rfl rfl rfl g4 g5 g6 ⟨_,rfl,.inl ⟨by rw[hE.out];decide,by rw[hE.out]⟩,hb (by omega) x2⟩
 ·rw[jw rfl]
  by_cases hl:data.length=128
  ·have hll:((data.length:Int) == 128)=true:=by rw[beq_iff_eq];omega
   have hll2:decide (data.length=128)=true:=decide_eq_true hl
   replace hl:=zH hl
   go_wp2_with fail
   refine(Tr A1 n1 c1 A2 n2 c2 A3 n3 c3 A4 n4 c4 w2).mono ?_
   rintro e w3 ⟨rfl,rfl⟩
   go_wp2_with fail
   have x3:Ext w2 (w2.alloc (.cells #[.slice A1 n1 c1,.slice A2 n2 c2,.slice A3 n3 c3,.slice A4 n4 c4] 28)):=Ext.alloc _ _
   have r3:(w2.alloc (.cells #[.slice A1 n1 c1,.slice A2 n2 c2,.slice A3 n3 c3,.slice A4 n4 c4] 28)).heap[w2.heap.size]?=_:=World.alloc_heap_at _ _ _ rfl
   have h3:=h.out.ext (x2.trans x3)
   have s3:(w2.alloc (.cells #[.slice A1 n1 c1,.slice A2 n2 c2,.slice A3 n3 c3,.slice A4 n4 c4] 28)).heap.size=w2.heap.size+1:=by simp
   generalize hw3:w2.alloc _=w3 at *
   refine(wpIn_wide (n:=3)).1 ?_
   refine wpIn_rangeFunc_ownH rfl (by omega) (gf:=103) (lb:=#[.pointer (some ⟨w2.heap.size,0,none⟩)]) rfl trivial (enters_of Tryz.func103 (by kernel_rfl) rfl)
    (Tx (3-1) (by omega) w2.heap.size w3.heap.size _ _ _ _ S hS w3 (by omega) (Nat.le_refl _) r3 h3) Below.trans (belowK_b (by omega)) (Below.refl _ _) (fun _=>rfl)
    (fun pre W=>((pre=[]∧(W.heap[w.heap.size]?=some (.cells #[.slice A1 n1 c1,.slice A2 n2 c2,.slice A3 n3 c3,.slice A4 n4 c4] 28 (0,0))∧W.heap[w.heap.size+1]?=some (.cells #[.slice A data.length c] 26 (0,0)))) ∧
     (W.heap[w.heap.size+2]?=some (.cells #[.slice none 0 0,.slice none 0 0,.slice none 0 0,.slice none 0 0] 28 (0,0))∧(W.heap[w.heap.size+3]?=some (.cells #[.int .i64 0] 3 (0,0))∧W.heap[w.heap.size+4]?=some (.cells #[.int .i64 0] 39 (0,0)))))∧Below w.heap.size w W)
    (fun c pre W=>(∃ x Wb,c=.ret∧pre=[x]∧TakeB w S data x Wb∧Qv Wb W)∧Below w.heap.size w W)
    (OwnFrom.and (OwnFrom.and (OwnFrom.and (js _ _) (OwnFrom.and (Qf _ _ _ _) (Qf _ _ _ _))) (OwnFrom.and (Qf _ _ _ _) (OwnFrom.and (Qf _ _ _ _) (Qf _ _ _ _)))) (ownFrom_below (Nat.le_refl _) (by omega)))
    (fun c=>OwnFrom.and (fun s A C row hs hg hr=>by
     obtain⟨x,Wb,h1,h2,h3,h4⟩:=hs
     exact⟨x,Wb,h1,h2,h3,h4.grown hg fun r e=>(hr r e).2⟩) (ownFrom_below (Nat.le_refl _) (by omega)))
    ⟨⟨⟨rfl,qc ra2 x3,qc rb2 x3⟩,qc rc2 x3,qc rd2 x3,qc re2 x3⟩,x2.trans x3⟩
    (fun x a' _=>a'={ tmps:=#[Qy A1 n1 c1 A2 n2 c2 A3 n3 c3 A4 n4 c4,.slice A data.length c,.pointer (some ⟨w.heap.size,0,none⟩),.pointer (some ⟨w.heap.size+1,0,none⟩),.pointer (some ⟨w.heap.size+1+1,0,none⟩),.pointer (some ⟨w.heap.size+1+1+1,0,none⟩),.pointer (some ⟨w.heap.size+1+1+1+1,0,none⟩),.int .i64 0,.int .i64 (x:Int),undef,undef,undef,
     .agg #[.slice A1 n1 c1,.slice A2 n2 c2,.slice A3 n3 c3,.slice A4 n4 c4],.int .i64 0,.int .i64 0,.bool false,undef,undef,.slice A data.length c,.int .i64 (data.length:Int),.bool false,undef,.agg #[.slice A1 n1 c1,.slice A2 n2 c2,.slice A3 n3 c3,.slice A4 n4 c4],
     .func (.func 103) #[] #[.pointer (some ⟨w2.heap.size,0,none⟩)],.int .i64 (x:Int),undef,undef,undef,undef,undef,undef,undef,undef,undef,undef,undef,undef,undef,undef,undef,undef,undef,undef,undef,undef,undef,undef,undef,undef,undef,undef],defers:=[] })
    (fun x a'=>js _ _) ?assign ?body ?done ?stop
   case assign =>
    rintro l pre x W K hI hK
    gi_wp2_with fail
    exact hK _ _ (KeepsFrom.refl _ _) (Below.refl _ _) hI rfl
   case body =>
    rintro l pre x a' W hl' - ⟨⟨⟨rfl,ra,rb⟩,rc,rd,re⟩,hB⟩ rfl hpl
    have HW:=qcU A1 n1 c1 A2 n2 c2 S.bs S.ws (x:Int) A c data W (h.out.ext hB).bs (h.out.ext hB).ws ((hd.out.below hB).more hB.size)
    have ka:=qa ra
    have kb:=qa rb
    clear ka2 kb2 kc2 kd2 ke2 fc2 fd2 fe2 ra2 rb2 rc2 rd2 re2 hll hll2
    replace h3:=zH h3
    replace hS:=zH hS
    gi_wp2_with fail
    refine⟨trivial,(CallsIn.inRound _ (callsIn_wide.2 HW)).mono ?_⟩
    clear HW
    rintro e W4 ⟨u,rfl,hu,hB4⟩
    have x4:Ext w W4:=hB.trans (Below.mono hB4 hB.size)
    have z4:=hB4.size
    have ra4:=qc ra hB4
    have rb4:=qc rb hB4
    have rc4:=qc rc hB4
    have rd4:=qc rd hB4
    have re4:=qc re hB4
    have hk4:KeepsOthers W W4:=KeepsOthers.of_ext hB4
    have zB:w.heap.size+4<W.heap.size:=(zG.1 re).1
    clear ka kb ra rb rc rd re hB4
    have ka:=qa ra4
    have kc:=qa rc4
    have kd:=qa rd4
    have ke:=qa re4
    have fc:=qd rc4
    have fd:=qd rd4
    have fe:=qd re4
    have za:w.heap.size<W4.heap.size:=by omega
    have zc:w.heap.size+1+1<W4.heap.size:=by omega
    have zd:w.heap.size+1+1+1<W4.heap.size:=by omega
    have ze:w.heap.size+1+1+1+1<W4.heap.size:=by omega
    replace hB:=zH hB
    rcases hu with ⟨he,rfl⟩|⟨he,v,rfl,hv⟩
    ·obtain⟨e,hee⟩:∃ e,e=jc S.bs S.ws (x:Int) data:=⟨_,rfl⟩
     rw[←hee] at he ⊢
     have heb:(e != 0)=true:=by rw[bne_iff_ne];exact he
     replace hee:=zH hee
     replace he:=zH he
     gi_wp2_with fail
     obtain⟨g4,g5,g6,hb,hz,hk,hkp⟩:=VR rc4 rd4 re4 rfl
     exact⟨((hk4.trans hkp).trans (KeepsOthers.alloc _ _)).from _,⟨x,_,rfl,rfl,⟨_,_,_,_,0,e,(Below.heap_alloc _ _ _ (by rw[hz];omega)).trans g4,(Below.heap_alloc _ _ _ (by rw[hz];omega)).trans g5,(Below.heap_alloc _ _ _ (by rw[hz];omega)).trans g6,.inl ⟨he.out,hee.out,rfl,rfl⟩⟩,Qv.refl _⟩,(hb (by omega) x4).alloc (by rw[hz];omega) _⟩
    ·obtain⟨B1,d1,B2,d2,rfl,hnd⟩:=hv
     have hask:=UQ he
     have hx256:x<256:=hask.2
     simp only[List.length_append,List.length_singleton] at hnd ⊢
     replace he:=zH he
     replace hnd:=zH hnd
     have hnl:=(qQ hS.out).2.2.1
     have HB:=Zh (.slice A3 n3 c3) S.now (by omega) (W4.alloc (.cells #[.slice B1 S.bs.length d1,.slice B2 (S.ws.length+1) d2] 25)) ((h.out.ext x4).ext (Ext.alloc W4 _)).now
     gi_wp2_with fail
     refine⟨trivial,(CallsIn.inRound _ (callsIn_wide.2 HB)).mono ?_⟩
     clear HB
     have x5:Ext W4 (W4.alloc (.cells #[.slice B1 S.bs.length d1,.slice B2 (S.ws.length+1) d2] 25)):=Ext.alloc _ _
     have r5:(W4.alloc (.cells #[.slice B1 S.bs.length d1,.slice B2 (S.ws.length+1) d2] 25)).heap[W4.heap.size]?=_:=World.alloc_heap_at _ _ _ rfl
     have k5:KeepsOthers W4 (W4.alloc (.cells #[.slice B1 S.bs.length d1,.slice B2 (S.ws.length+1) d2] 25)):=KeepsOthers.alloc _ _
     generalize hw5:W4.alloc _=w5 at *
     clear hw5
     rintro e W6 ⟨u,rfl,hown,hB6⟩
     have s5:W4.heap.size<w5.heap.size:=(zG.1 r5).1
     have x6:Ext w W6:=(x4.trans x5).trans hB6
     have y6:Ext W4 W6:=x5.trans hB6
     have ra6:=qc ra4 y6
     have rc6:=qc rc4 y6
     have rd6:=qc rd4 y6
     have re6:=qc re4 y6
     have r6:=qc r5 hB6
     have hk6:KeepsOthers W W6:=(hk4.trans k5).trans (KeepsOthers.of_ext hB6)
     have z6:=hB6.size
     rw[hnl] at hown
     obtain⟨g,c',rfl⟩:∃ g c',u=.slice (some ⟨g,0,none⟩) 256 c':=by
      rcases hown.2 with ⟨_,h0⟩|⟨g,cap,cur,e,_⟩
      ·omega
      ·exact⟨g,cap,e⟩
     obtain⟨hcg,hfg,hlg,hgz⟩:=vW hown
     have hcgx:=hcg x hx256
     have hfgx:=hfg x
     have hset:=zH (Ti hown hx256 1)
     clear ka kc kd ke fc fd fe hcg hfg hown ra4 rc4 rd4 re4 rb4 r5 k5
     have hx256b:decide (x<256)=true:=decide_eq_true hx256
     have ka6:=qa ra6
     have kr6:=qa r6
     replace y6:=zH y6
     gi_upto_region 13 with fail
     have hs7:=fun (k:Nat) (hk:k≠g)=>Below.heap_setCell W6 ⟨g,x,none⟩ (.int .u8 1) k hk
     have z7:(W6.setCell ⟨g,x,none⟩ (.int .u8 1)).heap.size=W6.heap.size:=by simp
     have x7:Ext w (W6.setCell ⟨g,x,none⟩ (.int .u8 1)):=Below.setCell x6 (p:=⟨g,x,none⟩) (by simp;omega) _
     have own7:(W6.setCell ⟨g,x,none⟩ (.int .u8 1)).ownsRow w5.heap.size 5 1 (.slice (some ⟨g,0,none⟩) 256 c') 256 ((S.now.set x 1).map bv):=hset.out
     have ra7:=(hs7 w.heap.size (by omega)).trans ra6
     have rc7:=(hs7 (w.heap.size+2) (by omega)).trans rc6
     have rd7:=(hs7 (w.heap.size+3) (by omega)).trans rd6
     have re7:=(hs7 (w.heap.size+4) (by omega)).trans re6
     have r7:=(hs7 W4.heap.size (by omega)).trans r6
     have hk7:KeepsOthers W (W6.setCell ⟨g,x,none⟩ (.int .u8 1)):=hk6.trans (KeepsOthers.setCell _ _ _)
     have y7:∀ q:Addr,q.block<W4.heap.size→(thaw (W6.setCell ⟨g,x,none⟩ (.int .u8 1))).cell? q=(thaw W4).cell? q:=fun q hq=>(Qi (hs7 q.block (by omega))).trans (Below.thaw y6.out hq)
     replace hset:=trivial
     clear hs7
     generalize hw7:W6.setCell ⟨g,x,none⟩ (.int .u8 1)=w7 at *
     clear hw7 hset hk6 ra6 rc6 rd6 re6 r6 ka6 kr6 hcgx hfgx y6
     have HL:=zH (fun W (hW:Ext w7 W)=>Zh (.slice A4 n4 c4) S.last (by have:=(qQ hS.out).2.2.2;omega) W ((h.out.ext x7).ext hW).last)
     have gA:∀ W,qu.r w7 W→∀ i,W.cell? ⟨w.heap.size,i,none⟩=#[.slice A1 n1 c1,.slice A2 n2 c2,.slice A3 n3 c3,.slice A4 n4 c4][i]?:=fun W h=>qa (qc ra7 h)
     have gD:∀ W,qu.r w7 W→∀ i,W.cell? ⟨W4.heap.size,i,none⟩=#[.slice B1 S.bs.length d1,.slice B2 (S.ws.length+1) d2][i]?:=fun W h=>qa (qc r7 h)
     refine TT (by kernel_rfl) ?_
     refine qcw (Xo l) (by kernel_rfl) 6 9 (.int .i64 (x:Int)) (by kernel_rfl) (by simp only[List.getElem?_toArray,List.getElem?_cons_succ,List.getElem?_cons_zero];exact rfl) (by kernel_rfl) (by kernel_rfl) (by kernel_rfl) (by rfl) (fun W=>?_) ?_
     ·go_simp
     simp only[Act.put,qi,qe,qb,qg,QG,zA,zB,zC]
     refine qaX (w:=w7) (Xo l) (by kernel_rfl) qu (qE [(4,VI w7.heap.size S.last.length S.last)]) [true,true,true,true,true,true] 3 (by kernel_rfl) (by kernel_rfl) (by kernel_rfl) (by kernel_rfl) (by kernel_rfl) (by kernel_rfl) (by kernel_rfl) ?st (Rel.drew _ _) ?walk
     case st=>exact qm (by simp only[List.forall_mem_cons];exact⟨Uz _ _ _,fun _ h=>by cases h⟩)
     case walk =>
      intro K hK
      dsimp only[qz,List.replicate]
      repeat ((first|(refine qf ?_ (by rfl) (by rfl) (fun W hW _=>⟨W,?_,Rel.refl _ W⟩) ?_;rotate_left;(first|(go_simp;with_reducible rfl)|(go_simp;done)))|(refine qj (by rfl) ?_));try simp only[Act.put,qi,qe,qb,qg,QG,zA,zB,zC])
      refine qA (VI w7.heap.size S.last.length S.last) (by rfl) (by rfl) (fun W' hW _=>?_) (fun p7=>?_)
      ·have hxW:Ext w7 W':=hW
       refine Qg ?_ ((HL.out W' hxW).mono fun e w' h=>?_)
       ·go_simp
       obtain⟨u,rfl,hu,hB⟩:=h
       obtain⟨A',c',rfl,_,_⟩:=qw hu
       exact⟨(A',c'),rfl,(ZP.of_own hu).mono hxW.size,hB⟩
      obtain⟨B4,d4⟩:=p7
      simp only[Act.put,qi,qe,qb,qg,QG,zA,zB,zC]
      repeat ((first|(refine qf ?_ (by rfl) (by rfl) (fun W hW _=>⟨W,?_,Rel.refl _ W⟩) ?_;rotate_left;(first|(go_simp;with_reducible rfl)|(go_simp;done)))|(refine qj (by rfl) ?_));try simp only[Act.put,qi,qe,qb,qg,QG,zA,zB,zC])
      refine qD (hK _ _ fun W8 hW hF=>?_)
      have hL:ZP w7.heap.size (.slice B4 S.last.length d4) S.last W8:=(hF 4).1
      clear hF hK gA gD
      have hW':Ext w7 W8:=hW
      have z8:=hW'.size
      have rc8:=qc rc7 hW'
      have rd8:=qc rd7 hW'
      have re8:=qc re7 hW'
      dsimp only[List.drop,List.length_cons,List.length_nil]
      have kc:=qa rc8
      have kd:=qa rd8
      have ke:=qa re8
      have fc:=qd rc8
      have fd:=qd rd8
      have fe:=qd re8
      replace hL:=zH hL
      replace own7:=zH own7
      replace y7:=zH y7
      clear HL hW rc7 rd7 re7 ra7 r7
      gi_wp2_with fail
      refine Qw ?_
      gi_wp2_with fail
      obtain⟨g4,g5,g6,hb,hz,hk,hkp⟩:=VR rc8 rd8 re8 rfl
      refine⟨((hk7.trans (KeepsOthers.of_ext hW')).trans hkp).from _,⟨x,_,rfl,rfl,⟨_,_,_,_,(x:Int),0,g4,g5,g6,.inr ⟨rfl,he.out,rfl,B1,d1,B2,d2,some ⟨g,0,none⟩,c',B4,d4,⟨rfl,rfl,by rw[hnl],rfl⟩,fun C hC=>?_⟩⟩,Qv.refl _⟩,hb (by omega) (x7.trans hW')⟩
      have hag:∀ q:Addr,w.heap.size+5≤q.block→q.block<W8.heap.size→C.cell? q=(thaw W8).cell? q:=fun q h1 h2=>(hC q h1 (by rw[hz];exact h2)).trans (Qi (hk q.block h1))
      have h7:∀ q:Addr,w.heap.size+5≤q.block→q.block<w7.heap.size→C.cell? q=(thaw w7).cell? q:=fun q h1 h2=>(hag q h1 (by omega)).trans (Below.thaw hW' h2)
      obtain⟨q1,q2⟩:=hnd.out C fun q h1 h2=>(h7 q (by omega) (by omega)).trans (y7.out q h2)
      have q3:=(Bys.of_ownT own7.out).keepN (QD.of_own own7.out) (W:=C) fun q h1 h2=>h7 q (by omega) h2
      have q4:=hL.out.thaw.keepN hL.out.from (W:=C) fun q h1 h2=>hag q (by omega) h2
      rw[hz]
      exact⟨q1.more (by omega),by simpa [ZR] using q2.more (show W4.heap.size≤W8.heap.size by omega),q3.more (by omega),q4⟩
   case done =>
    rintro D ys W hD rfl ⟨⟨⟨hz,ra,rb⟩,rc,rd,re⟩,hB⟩ hK
    have kc:=qa rc
    have kd:=qa rd
    have ke:=qa re
    have fc:=qd rc
    have fd:=qd rd
    have fe:=qd re
    have hE:jV S data=9:=by unfold jV;rw[hS,if_pos rfl,if_pos hl.out,if_pos (.inl hz)]
    replace hE:=zH hE
    replace hS:=zH hS
    replace hz:=zH hz
    gi_wp2_with fail
    go_wp2_with fail
    obtain⟨g4,g5,g6,hb,-,hk,-⟩:=VR rc rd re rfl
    have zB:w.heap.size+4<W.heap.size:=(zG.1 re).1
    exact Ur rfl rfl rfl rfl ((hk D (by omega)).trans hK) (by omega) g4 g5 g6 ⟨_,rfl,.inl ⟨by rw[hE.out];decide,by rw[hE.out]⟩,(hb (by omega) hB).trans (belowK_b (w:=w) (Nat.le_refl _) _ D _ _ (by omega) ((hk D (by omega)).trans hK) rfl rfl)⟩
   case stop =>
    rintro D cc pre W hD hpre ⟨⟨x,Wb,rfl,rfl,hTB,hCK⟩,hB⟩ hK
    gi_wp2_with fail
    obtain⟨t,ht⟩:=hpre
    have hff:qO S=x:=by unfold qO;rw[←ht];rfl
    have hne:Qh S≠[]:=by rw[←ht];simp
    have hx:Je S x=true:=by
     have:x∈zP S 256:=(show x∈Qh S by rw[←ht];simp)
     unfold zP at this
     exact(List.mem_filter.1 this).2
    have hx256:x<256:=by
     have:x∈zP S 256:=(show x∈Qh S by rw[←ht];simp)
     unfold zP at this
     simpa using (List.mem_filter.1 this).1
    have hWE:jc S.bs S.ws (x:Int) data=jV S data:=by
     have hd:Qe S.bs S.ws=true:=by unfold qB at hS;simp at hS;exact hS.1
     have ha:Kh (Qe S.bs S.ws) (x:Int)=0:=by unfold Kh;rw[hd,if_pos rfl,if_pos (by omega)]
     unfold jc jV
     rw[ha,hS,if_neg (by simp),if_neg (by simpa using hl.out),if_pos rfl,if_pos hl.out]
     simp only[hne,false_or]
    obtain⟨x0,x1,x2',x3',y,e,g4,g5,g6,hcase⟩:=hTB
    have hfin:=fun (q:Addr) (v:Value) (hq:(thaw Wb).cell? q=some v)=>(hCK.put (.deferred none) hK rfl).thaw hq
    have hbel:Below w.heap.size w (W.putObj D (.deferred none)):=hB.trans (belowK_b (w:=w) (Nat.le_refl _) W D _ _ (by omega) hK rfl rfl)
    refine Ur rfl rfl rfl rfl hK (by omega) (hCK.row g4) (hCK.row g5) (hCK.row g6) ⟨_,rfl,?_,hbel⟩
    rw[hWE] at hcase
    rcases hcase with ⟨h1,h2,h3',h4⟩|⟨h1,h2,h3',B1,d1,B2,d2,B3,d3,B4,d4,⟨e1,e2,e3,e4⟩,h4⟩
    ·refine .inl ⟨by rw[←h2];exact h1,?_⟩
     rw[h4,h3',h2]
    ·refine .inr ⟨h2,.agg #[x0,x1,x2',x3'],by rw[h3',hff,h1],?_⟩
     ·rw[hff]
      refine⟨B1,d1,B2,d2,B3,d3,B4,d4,?_,fun C hC=>?_⟩
      ·rw[e1,e2,e3,e4];simp[ZR]
      ·have h5:=UT (Φ:=fun C=>qH C Wb.heap.size x0 x1 x2' x3' (ZR S x data)) (fun A C hAC hA=>hA.some_ hAC) h4 C (fun q v hq1 hq2 hq=>hC q v (by omega) (Nat.lt_of_lt_of_le hq2 (by have:=hCK.size;simpa [World.putObj] using this)) (hfin q v hq))
       have h6:=h5.more (show Wb.heap.size≤(W.putObj D (.deferred none)).heap.size by have:=hCK.size;simpa [World.putObj] using this)
       rw[e1,e2,e3,e4] at h6
       simpa [ZR] using h6
  ·have hll:((data.length:Int) == 128)=false:=by rw[beq_eq_false_iff_ne];omega
   have hll2:decide (data.length=128)=false:=decide_eq_false hl
   have hE:jV S data=3:=by unfold jV;rw[hS,if_pos rfl,if_neg hl]
   replace hE:=zH hE
   replace hS:=zH hS
   replace hl:=zH hl
   go_wp2_with fail
   obtain⟨g4,g5,g6,hb,-⟩:=VR rc2 rd2 re2 rfl
   exact UY rfl rfl rfl rfl g4 g5 g6 ⟨_,rfl,.inl ⟨by rw[hE.out];decide,by rw[hE.out]⟩,hb (by omega) x2⟩
end Go.Proofs.YtckhnchnbeoogaaGreat
namespace Go.Proofs.YtckhnchnbeoogaaGreat
open Go.RowKit
def GL (S:Sto) (root next:Int) (dead:List Int) (w:World) (e:Ending) (w':World):Prop:=Below w.heap.size w w' ∧
 ((e=.returned (.int .i64 8)∧∀ vs,QM S root next dead vs→∃ refs nodes,Qj S (zl root dead vs) refs nodes∧¬QY S refs) ∨
  (e=.returned (.int .i64 0)∧∃ vs refs nodes,QM S root next dead vs∧Qj S (zl root dead vs) refs nodes∧QY S refs))
theorem Ts {R:Ending→World→Prop} {a:Act} {W:World} {u:Value} (h2:a.tmps[2]?.getD undef=u) (hd:a.defers=[]) (hR:R (.returned u) W):bodyPost Tryz.prog Tryz.f35 R .ret a W:=by
 refine bodyPost_ret (v:=u) ?_ hd hR
 simp[results,Tryz.results35,go_sem,h2]
set_option maxHeartbeats 2000000 in
set_option maxRecDepth 100000 in
theorem qcE (A1:Option Addr) (n1 c1:Nat) (A2:Option Addr) (n2 c2:Nat) (A3:Option Addr) (n3 c3:Nat) (A4:Option Addr) (n4 c4:Nat) (gen root next:Int) (A5:Option Addr) (c5:Nat) (S:Sto) (dead:List Int) (w:World)
  (h:qH w w.heap.size (.slice A1 n1 c1) (.slice A2 n2 c2) (.slice A3 n3 c3) (.slice A4 n4 c4) S) (hd:QF w w.heap.size (.slice A5 dead.length c5) dead) :
  Calls Tryz.prog 35 #[.agg (qC (.slice A1 n1 c1) (.slice A2 n2 c2) (.slice A3 n3 c3) (.slice A4 n4 c4) gen root next (.slice A5 dead.length c5))] w (GL S root next dead w):=by
 have HT:=zH (fun W (hx:Ext w W)=>Ub A1 n1 c1 A2 n2 c2 A3 n3 c3 A4 n4 c4 gen root next A5 c5 S dead W (h.ext hx) (by
  obtain⟨A,c,e,q1,q2,q3⟩:=hd
  exact⟨A,c,e,q1,q2,(q3.below hx).more hx.size⟩))
 clear h hd
 go_enter Tryz.func35,Tryz.ntmps35
 go_wp2_with fail
 generalize hw1:World.alloc w _=w1
 have x1:Ext w w1:=by rw[←hw1];exact Ext.alloc _ _
 clear hw1
 refine(HT.out w1 x1).mono ?_
 rintro e w2 ⟨hB,hQ⟩
 have x2:Below w.heap.size w w2:=Ext.trans x1 hB
 rcases hQ with ⟨rfl,hno⟩|⟨vs,refs,nodes,cb,ca,vv,rfl,hT⟩
 ·have HB:GL S root next dead w (.returned (.int .i64 8)) w2:=⟨x2,.inl ⟨rfl,hno⟩⟩
  replace HB:=zH HB
  clear hno hB
  go_wp2_with fail
  exact Ts rfl rfl HB.out
 ·have HB:GL S root next dead w (.returned (.int .i64 0)) w2:=⟨x2,.inr ⟨rfl,vs,refs,nodes,hT.pool,hT.cnt,hT.enough⟩⟩
  replace HB:=zH HB
  clear hT hB
  go_wp2_with fail
  exact Ts rfl rfl HB.out
theorem rowI_one (l:List Int):∀ u∈Ki l,u.oneCell'=true:=by
 intro u hu
 obtain⟨a,_,rfl⟩:=List.mem_map.1 hu
 rfl
theorem QF.of_own {w:World} {base:Nat} {v:Value} {l:List Int} (h:w.ownsRow base 3 1 v l.length (Ki l)):QF w w.heap.size v l:=by
 obtain⟨A,c,rfl,hc,hm⟩:=qw h
 refine⟨A,c,rfl,hc,hm,by simp,fun hn=>?_⟩
 rcases h.2 with ⟨_,h0⟩|⟨g,cap,cur,e,_,hr,_⟩
 ·omega
 ·simp only[Value.slice.injEq] at e
  obtain⟨rfl,-,rfl⟩:=e
  exact⟨g,0,rfl,(zG.1 hr).1,fun j u hu=>by have h5:=h.cells (g:=g) rfl j u hu;rw[Nat.zero_add];unfold Addr.add at h5;split at h5 <;> simp_all⟩
theorem QF.keepN {w W:World} {B lo:Nat} {v:Value} {l:List Int} (h:QF w B v l) (hf:QD lo v) (hk:∀ q:Addr,lo≤q.block→q.block<B→W.cell? q=w.cell? q):QF W B v l:=by
 obtain⟨A,c,e,hc,hm,hr⟩:=h
 subst e
 exact⟨A,c,rfl,hc,hm,Rd.keepN hr hf hk⟩
theorem QF.more {w:World} {B B':Nat} {v:Value} {l:List Int} (h:QF w B v l) (hb:B≤B'):QF w B' v l:=by
 obtain⟨A,c,e,hc,hm,hr⟩:=h
 exact⟨A,c,e,hc,hm,hr.more hb⟩
theorem QF.ext_ {w W:World} {v:Value} {l:List Int} (h:QF w w.heap.size v l) (hx:Ext w W):QF W W.heap.size v l:=by
 obtain⟨A,c,e,hc,hm,hr⟩:=h
 exact⟨A,c,e,hc,hm,(hr.below hx).more hx.size⟩
set_option maxHeartbeats 1000000 in
set_option maxRecDepth 100000 in
theorem KZ (v:Value) (l:List Int) (hl:l.length<1073741824) (w:World) (h:QF w w.heap.size v l) :
  Calls Tryz.prog 37 #[v] w (zE (fun u w'=>w'.ownsRow w.heap.size 3 1 u l.length (Ki l)) w):=by
 obtain⟨i0,hi,hz0,hz1,hz2⟩:=info_parts Tryz.info_int
 obtain⟨A,c,rfl,hc,hm,hr⟩:=h
 have qn:∀ (w:World) (a:Option Addr) (n c n' c':Nat),(binOp .eql 30 (.slice a n c) (.slice none n' c')).run Tryz.prog w=.ok (.bool a.isNone) w:=fun w a n c n' c'=>Lib.run_eql_slice_nil w _ _ a n c n' c' Tryz.underlying30
 rcases A with _|⟨b,off,p⟩
 ·have h0:l=[]:=by
   rcases l with _|⟨x,r⟩
   ·rfl
   ·obtain⟨b,off,h,_⟩:=hr.2 (by simp)
    cases h
  subst h0
  go_enter Tryz.func37,Tryz.ntmps37
  go_wp2
  go_ret
  exact⟨_,rfl,World.ownsRow_nil _ _ _ _,Below.refl _ _⟩
 ·go_enter Tryz.func37,Tryz.ntmps37
  go_wp2_with (at_builtin;refine qI ?_)
  refine Qc.go (qM _ rfl (.tmp 5) (.tmp 6) 30 rfl w.heap.size 3 i0 (.int .i64 0) 1 8 Tryz.underlying30 hi hz0 hz1 hz2 rfl (by decide) _ 0 [] rfl ?_ w.heap.size _ l.length c (Ki l) (by exact rfl) ?_ (rowI_one l) (by omega) (by decide) (by simp) ?_)
  ·exact World.ownsRow_lit w #[] 0 (Nat.le_refl _) (by simp[maxLen]) rfl
  ·exact hr.keep fun p hp=>World.cell?_alloc_lt w _ p hp
  ·intro v' w' hown _ hb _
   simp only[Nat.zero_add,List.nil_append] at hown
   go_wp2
   go_ret
   exact⟨_,rfl,hown,Below.trans ((Below.refl _ _).alloc (Nat.le_refl _) _) hb⟩
theorem ints_at (l:List Nat) {k:Nat} (hk:k<l.length):(ZD l)[k]?=some (.int .i64 (l[k]:Int)):=by unfold ZD;rw[List.getElem?_map,List.getElem?_eq_getElem hk];rfl
def IxP (l:List Nat) (x:Nat) (u:Value):Prop:=(x∈l∧∃ j:Nat,j<l.length∧u=.int .i64 (j:Int))∨(x∉l∧u=.int .i64 (-1))
theorem ix_ret {R:Ending→World→Prop} {a:Act} {W:World} {u:Value} (h4:a.tmps[4]?.getD undef=u) (hd:a.defers=[]) (hR:R (.returned u) W):bodyPost Tryz.prog Tryz.f109 R .ret a W:=by
 refine bodyPost_ret (v:=u) ?_ hd hR
 simp[results,Tryz.results109,go_sem,h4]
set_option maxHeartbeats 2000000 in
set_option maxRecDepth 100000 in
theorem qeD (A:Option Addr) (c:Nat) (l:List Nat) (hl:l.length≤1000000) (x:Nat) (w:World) (h:Rd w w.heap.size 1 A l.length (ZD l)) :
  Calls Tryz.prog 109 #[.slice A l.length c,.int .i64 (x:Int)] w (fun e W=>∃ u,e=.returned u∧IxP l x u∧W=w):=by
 replace h:=zH h
 go_enter Tryz.func109,Tryz.ntmps109
 go_wp2_with fail
 go_loopw [8] (fun i wr=>∃ k:Nat,k≤l.length∧i=.int .i64 (k:Int)∧wr=w∧∀ j (hj:j<l.length),j<k→l[j]≠x) (fun i _=>l.length-(intOf i).toNat)
 case atStart=>exact⟨0,Nat.zero_le _,rfl,rfl,fun j _ hj=>absurd hj (Nat.not_lt_zero _)⟩
 case round =>
  obtain⟨k,hk,rfl,rfl,hno⟩:=hrel
  replace hno:=zH hno
  by_cases hlt:k<l.length
  ·obtain⟨b,o,rfl,hb,hcell⟩:=h.out.2 (by omega)
   have hc:=hcell k _ (ints_at l hlt)
   have HNO:=zH (fun (he:l[k]≠x) j (hj:j<l.length) (hjk:j<k+1)=>by
    rcases Nat.lt_or_ge j k with h1|h1
    ·exact hno.out j hj h1
    ·obtain rfl:j=k:=by omega
     exact he)
   have HY:=zH (fun (he:l[k]=x)=>(⟨he ▸ List.getElem_mem hlt,k,hlt,rfl⟩:x∈l∧∃ j:Nat,j<l.length∧(Value.int .i64 (k:Int))=.int .i64 (j:Int)))
   have hw:=zH (IntWalk.wrap64_in ((k:Int)+1) (by omega))
   have hd1:decide (k<l.length)=true:=decide_eq_true hlt
   generalize l[k]=y at *
   clear hcell
   by_cases he:y=x
   ·have z1:((x:Int) == (y:Int))=true:=by rw[beq_iff_eq];omega
    have z2:decide (x=y)=true:=decide_eq_true he.symm
    have hQ:=zH (HY.out he)
    clear HNO HY
    replace he:=zH he
    go_wp2_with fail
    exact ix_ret rfl rfl ⟨_,rfl,.inl hQ.out,rfl⟩
   ·have z1:((x:Int) == (y:Int))=false:=by rw[beq_eq_false_iff_ne];omega
    have z2:decide (x=y)=false:=decide_eq_false (fun h=>he h.symm)
    have hQ:=zH (HNO.out he)
    clear HNO HY
    replace he:=zH he
    have hw':=hw.out
    go_wp2_with fail
    refine⟨⟨k+1,hlt,rfl,trivial,fun j hj hjk=>hQ.out j hj hjk⟩,?_⟩
    simp[intOf]
    omega
  ·obtain rfl:k=l.length:=by omega
   have hQ:x∉l:=fun hx=>by
    obtain⟨j,hj,e⟩:=List.mem_iff_getElem.1 hx
    exact hno.out j hj hj e
   replace hQ:=zH hQ
   go_wp2_with fail
   exact ix_ret rfl rfl ⟨_,rfl,.inr ⟨hQ.out,rfl⟩,rfl⟩
set_option maxRecDepth 100000 in
theorem has_any (A:Option Addr) (c:Nat) (l:List Nat) (hl:l.length≤1000000) (x:Nat) (w:World) (h:Rd w w.heap.size 1 A l.length (ZD l)) :
  Calls Tryz.prog 77 #[.slice A l.length c,.int .i64 (x:Int)] w (fun e W=>e=.returned (.bool (decide (x∈l)))∧W=w):=by
 have HI:=zH (qeD A c l hl x w h)
 clear h
 go_enter Tryz.func77,Tryz.ntmps77
 go_wp2_with fail
 refine HI.out.mono ?_
 clear HI
 rintro e W ⟨u,rfl,hu,rfl⟩
 rcases hu with ⟨h1,j,hj,rfl⟩|⟨h1,rfl⟩
 ·have z1:decide ((j:Int)≥0)=true:=decide_eq_true (by omega)
  replace h1:=zH h1
  go_wp2_with fail
  go_ret
  exact⟨by rw[decide_eq_true h1.out];rfl,rfl⟩
 ·replace h1:=zH h1
  go_wp2_with fail
  go_ret
  exact⟨by rw[decide_eq_false h1.out];rfl,rfl⟩
def vE (S:Sto) (refs:Nat→Nat):Bool:=(List.range 256).all fun a=>decide (refs a≤(S.now[a]?.getD 0).toNat)
theorem jj (S:Sto) (refs:Nat→Nat):vE S refs=true↔QY S refs:=by
 unfold vE QY
 rw[List.all_eq_true]
 exact⟨fun h a ha=>of_decide_eq_true (h a (List.mem_range.2 ha)),fun h a ha=>decide_eq_true (h a (List.mem_range.1 ha))⟩
theorem QM.same {S:Sto} {root next:Int} {dead:List Int} {vs vs':List Vol} (h:QM S root next dead vs) (h':QM S root next dead vs'):vs=vs':=by
 have:=h.vols
 rw[h'.vols] at this
 cases this
 rfl
def Qk (S:Sto) (refs nodes:Nat→Nat) (a:Int) (held:Bool):Int:=if 8≤a∧a<256 then (if zZ S a.toNat=0∨0<nodes a.toNat∨(held=true∧zZ S a.toNat≤refs a.toNat) then 6 else 0) else 2
theorem Ga {S:Sto} {refs nodes:Nat→Nat} {a:Int} (h:¬(8≤a∧a<256)) (held:Bool):Qk S refs nodes a held=2:=by unfold Qk;rw[if_neg h]
theorem qbL (S:Sto) (refs nodes:Nat→Nat) {a:Nat} (h8:8≤a) (h:a<256) (held:Bool):Qk S refs nodes (a:Int) held=if zZ S a=0∨0<nodes a∨(held=true∧zZ S a≤refs a) then 6 else 0:=by
 unfold Qk
 rw[if_pos (by omega),Int.toNat_natCast]
theorem mem_met {nodes:Nat→Nat} {a:Nat} (h:a<256):a∈vj nodes 256↔0<nodes a:=by
 unfold vj
 simp[h]
def DataQ (S:Sto) (root next:Int) (dead:List Int) (a:Int) (held:Bool) (w:World) (e:Ending) (w':World):Prop:=Below w.heap.size w w' ∧
 ((e=.returned (.int .i64 8)∧∀ vs,QM S root next dead vs→∃ refs nodes,Qj S (zl root dead vs) refs nodes∧¬QY S refs) ∨
  ∃ vs refs nodes,QM S root next dead vs∧Qj S (zl root dead vs) refs nodes∧QY S refs∧e=.returned (.int .i64 (Qk S refs nodes a held)))
theorem Ji {R:Ending→World→Prop} {a:Act} {W:World} {u:Value} (h6:a.tmps[6]?.getD undef=u) (hd:a.defers=[]) (hR:R (.returned u) W):bodyPost Tryz.prog Tryz.f41 R .ret a W:=by
 refine bodyPost_ret (v:=u) ?_ hd hR
 simp[results,Tryz.results41,go_sem,h6]
theorem Xs {S:Sto} {R:List Nat} {refs refs' nodes nodes':Nat→Nat} (h:Qj S R refs nodes) (h':Qj S R refs' nodes'):refs=refs':=(Qr.same h.mkd h'.mkd).2
set_option maxHeartbeats 4000000 in
set_option maxRecDepth 100000 in
theorem Ug (A1:Option Addr) (n1 c1:Nat) (A2:Option Addr) (n2 c2:Nat) (A3:Option Addr) (n3 c3:Nat) (A4:Option Addr) (n4 c4:Nat) (gen root next:Int) (A5:Option Addr) (c5:Nat) (S:Sto) (dead:List Int) (a:Int) (held:Bool) (w:World)
  (h:qH w w.heap.size (.slice A1 n1 c1) (.slice A2 n2 c2) (.slice A3 n3 c3) (.slice A4 n4 c4) S) (hd:QF w w.heap.size (.slice A5 dead.length c5) dead) :
  Calls Tryz.prog 41 #[.agg (qC (.slice A1 n1 c1) (.slice A2 n2 c2) (.slice A3 n3 c3) (.slice A4 n4 c4) gen root next (.slice A5 dead.length c5)),.int .i64 a,.bool held] w (DataQ S root next dead a held w):=by
 have HI:=fun W (hx:Ext w W)=>(show QF W W.heap.size (.slice A5 dead.length c5) dead by
  obtain⟨A,c,e,q1,q2,q3⟩:=hd
  exact⟨A,c,e,q1,q2,(q3.below hx).more hx.size⟩)
 have HR:=zH (fun W (hx:Ext w W)=>refs_any A1 n1 c1 A2 n2 c2 A3 n3 c3 A4 n4 c4 gen root next A5 c5 S dead W (h.ext hx) (HI W hx))
 have HN:=zH (fun W (hx:Ext w W)=>qez A1 n1 c1 A2 n2 c2 A3 n3 c3 A4 n4 c4 gen root next A5 c5 S dead W (h.ext hx) (HI W hx))
 replace h:=zH h
 clear hd HI
 go_enter Tryz.func41,Tryz.ntmps41
 go_wp2_with fail
 generalize hw1:(World.alloc w _)=w1
 have x1:Ext w w1:=by rw[←hw1];exact Ext.alloc _ _
 have rp1:w1.heap[w.heap.size]?=some (.cells (qC (.slice A1 n1 c1) (.slice A2 n2 c2) (.slice A3 n3 c3) (.slice A4 n4 c4) gen root next (.slice A5 dead.length c5)) 32 (0,0)):=by rw[←hw1];exact World.alloc_heap_at _ _ _ rfl
 clear hw1
 refine(HR.out w1 x1).mono ?_
 clear HR
 rintro e w2 ⟨hB,hQ⟩
 have x2:Ext w w2:=Ext.trans x1 hB
 have rp2:=qc rp1 hB
 clear hB rp1 x1
 rcases hQ with ⟨rfl,hno⟩|⟨vs,refs,nodes,cb,ca,vv,lo,rfl,hlo,hT⟩
 ·replace hno:=zH hno
  go_wp2_with fail
  exact Ji rfl rfl ⟨x2,.inl ⟨rfl,hno.out⟩⟩
 ·have kp2:=qa rp2
  replace hT:=zH hT
  go_wp2_with fail
  refine(HN.out w2 x2).mono ?_
  clear HN
  rintro e w3 ⟨hB,hQ⟩
  have x3:Ext w w3:=Ext.trans x2 hB
  have rp3:=qc rp2 hB
  have rc3:=qc hT.out.row hB
  clear hB rp2 x2 kp2
  rcases hQ with ⟨rfl,hno⟩|⟨vs',refs',nodes',v,lo',rfl,hlo',hp',hc',he',hown⟩
  ·obtain⟨refs',nodes',hc',hn'⟩:=hno vs hT.out.pool
   exact absurd (Xs hT.out.cnt hc' ▸ hT.out.enough) hn'
  ·obtain rfl:=QM.same hT.out.pool hp'
   obtain rfl:=Xs hT.out.cnt hc'
   obtain⟨An,cn,rfl,-,-⟩:=qw hown
   by_cases hr:8≤a∧a<256
   ·obtain⟨m,hma⟩:=Int.eq_ofNat_of_zero_le (show 0≤a by omega)
    subst hma
    have hm8:8≤m:=by omega
    have hm256:m<256:=by omega
    have hE:=qbL S refs nodes' hm8 hm256 held
    obtain⟨b,o,c,e3,hb,hcell⟩:=kG hp'.may h.out.now
    have hcn:=Ext.cell x3 (hcell m hm256)
    have hrf:=(qa rc3 (6+m)).trans (hT.out.ar.ref m hm256)
    have hmem:=mem_met (nodes:=nodes') hm256
    have HH:=has_any An cn (vj nodes' 256) (Nat.le_trans (GA _ _) (by omega)) m w3 (Rd.of_own hown)
    cases e3
    have kp3:=qa rp3
    have d1:decide ((m:Int)<8)=false:=decide_eq_false (by omega)
    have d2:decide ((m:Int)≥256)=false:=decide_eq_false (by omega)
    have hQ:=fun E (hh:Qk S refs nodes' (m:Int) held=E)=>(⟨x3,.inr ⟨vs,refs,nodes',hp',hc',he',by rw[hh]⟩⟩:DataQ S root next dead (m:Int) held w (.returned (.int .i64 E)) w3)
    replace hQ:=zH hQ
    have hwn:=zH (IntWalk.wrap64_in (zZ S m:Int) (by have:=(S.now[m]?.getD 0).toNat_lt;unfold zZ;omega))
    generalize zZ S m=nw at *
    generalize refs m=rf at *
    clear hT hp' hc' he' hown hcell hr rc3
    by_cases h0:nw=0
    ·have z1:((nw:Int) == 0)=true:=by rw[beq_iff_eq];omega
     have z2:decide (nw=0)=true:=decide_eq_true h0
     rw[if_pos (.inl h0)] at hE
     replace hE:=zH hE
     replace h0:=zH h0
     replace hmem:=zH hmem
     have hw':=hwn.out
     go_wp2_with fail
     exact Ji rfl rfl (hQ.out _ hE.out)
    ·have z1:((nw:Int) == 0)=false:=by rw[beq_eq_false_iff_ne];omega
     have z2:decide (nw=0)=false:=decide_eq_false h0
     by_cases hm:m∈vj nodes' 256
     ·rw[decide_eq_true hm] at HH
      rw[if_pos (.inr (.inl (hmem.1 hm)))] at hE
      replace hE:=zH hE
      replace h0:=zH h0
      replace hmem:=zH hmem
      replace hm:=zH hm
      have hw':=hwn.out
      go_wp2_with fail
      refine HH.mono ?_
      rintro e w4 ⟨rfl,rfl⟩
      have hw':=hwn.out
      go_wp2_with fail
      exact Ji rfl rfl (hQ.out _ hE.out)
     ·rw[decide_eq_false hm] at HH
      have hm':¬0<nodes' m:=fun h=>hm (hmem.2 h)
      replace hmem:=zH hmem
      replace hm:=zH hm
      cases held
      ·rw[if_neg (fun h=>by rcases h with h|h|⟨h,h'⟩;exact h0 h;exact hm' h;cases h)] at hE
       replace hE:=zH hE
       replace h0:=zH h0
       replace hm':=zH hm'
       have hw':=hwn.out
       go_wp2_with fail
       refine HH.mono ?_
       rintro e w4 ⟨rfl,rfl⟩
       have hw':=hwn.out
       go_wp2_with fail
       exact Ji rfl rfl (hQ.out _ hE.out)
      ·by_cases hle:nw≤rf
       ·have z3:decide ((nw:Int)≤(rf:Int))=true:=decide_eq_true (by omega)
        have z4:decide (nw≤rf)=true:=decide_eq_true hle
        rw[if_pos (.inr (.inr ⟨rfl,hle⟩))] at hE
        replace hE:=zH hE
        replace h0:=zH h0
        replace hm':=zH hm'
        replace hle:=zH hle
        have hw':=hwn.out
        go_wp2_with fail
        refine HH.mono ?_
        rintro e w4 ⟨rfl,rfl⟩
        have hw':=hwn.out
        go_wp2_with fail
        exact Ji rfl rfl (hQ.out _ hE.out)
       ·have z3:decide ((nw:Int)≤(rf:Int))=false:=decide_eq_false (by omega)
        have z4:decide (nw≤rf)=false:=decide_eq_false hle
        rw[if_neg (fun h=>by rcases h with h|h|⟨h',h⟩;exact h0 h;exact hm' h;exact hle h)] at hE
        replace hE:=zH hE
        replace h0:=zH h0
        replace hm':=zH hm'
        replace hle:=zH hle
        have hw':=hwn.out
        go_wp2_with fail
        refine HH.mono ?_
        rintro e w4 ⟨rfl,rfl⟩
        go_wp2_with fail
        exact Ji rfl rfl (hQ.out _ hE.out)
   ·have hE:=zH (Ga (S:=S) (refs:=refs) (nodes:=nodes') hr held)
    have hQ:=fun E (hh:Qk S refs nodes' a held=E)=>(⟨x3,.inr ⟨vs,refs,nodes',hp',hc',he',by rw[hh]⟩⟩:DataQ S root next dead a held w (.returned (.int .i64 E)) w3)
    replace hQ:=zH hQ
    clear hT hp' hc' he' hown rc3
    by_cases h8:a<8
    ·have d1:decide (a<8)=true:=decide_eq_true h8
     replace hr:=zH hr
     go_wp2_with fail
     exact Ji rfl rfl (hQ.out _ hE.out)
    ·have d1:decide (a<8)=false:=decide_eq_false h8
     have d2:decide (a≥256)=true:=decide_eq_true (by omega)
     replace hr:=zH hr
     go_wp2_with fail
     exact Ji rfl rfl (hQ.out _ hE.out)
end Go.Proofs.YtckhnchnbeoogaaGreat
