/- Texts Nodes, FreeL, FreeP, DoneX, Mix, Copy, HeapC, joined. -/
import Derived.RangeFuncNested
import Derived.Laws.CopyRow
import Derived.Laws.IdiomCopy
import Derived.Lib.Walk
import Derived.Test.YtckhnchnbeoogaaGreatV01
import Derived.Test.YtckhnchnbeoogaaGreatV03
import Derived.Test.YtckhnchnbeoogaaGreatV09
import Derived.Test.YtckhnchnbeoogaaGreatV10
import Derived.Test.YtckhnchnbeoogaaGreatV15
import Derived.Test.YtckhnchnbeoogaaGreatV16
set_option linter.unusedSimpArgs false
set_option linter.unusedVariables false
namespace Go.Proofs.YtckhnchnbeoogaaGreat
open Go.RowKit
def vj (nodes:Nat→Nat) (k:Nat):List Nat:=(List.range k).filter fun a=>decide (0<nodes a)
theorem qct (nodes:Nat→Nat) (k:Nat):vj nodes (k+1)=if 0<nodes k then vj nodes k++[k] else vj nodes k:=by
 unfold vj
 rw[List.range_succ,List.filter_append]
 by_cases h:0<nodes k
 ·rw[if_pos h];simp[h]
 ·rw[if_neg h];simp[h]
theorem GA (nodes:Nat→Nat) (k:Nat):(vj nodes k).length≤k:=by
 unfold vj
 exact Nat.le_trans (List.length_filter_le _ _) (by simp)
def qcK (S:Sto) (root next:Int) (dead:List Int) (w:World) (e:Ending) (w':World):Prop:=Below w.heap.size w w' ∧
 ((e=.returned (.tuple #[.slice none 0 0,.int .i64 8])∧∀ vs,QM S root next dead vs→∃ refs nodes,Qj S (zl root dead vs) refs nodes∧¬QY S refs) ∨
  ∃ vs refs nodes v lo,e=.returned (.tuple #[v,.int .i64 0])∧w.heap.size≤lo∧QM S root next dead vs∧Qj S (zl root dead vs) refs nodes∧QY S refs∧w'.ownsRow lo 3 1 v (vj nodes 256).length (ZD (vj nodes 256)))
structure N1 (nodes:Nat→Nat) (w2:World) (v i:Value) (wr:World):Prop where
 ex:∃ k:Nat,k≤256∧i=.int .i64 (k:Int)∧wr.ownsRow w2.heap.size 3 1 v (vj nodes k).length (ZD (vj nodes k))∧Ext w2 wr
theorem Gl {R:Ending→World→Prop} {a:Act} {W:World} {u v:Value} (h2:a.tmps[2]?.getD undef=u) (h3:a.tmps[3]?.getD undef=v) (hd:a.defers=[]) (hR:R (.returned (.tuple #[u,v])) W):bodyPost Tryz.prog Tryz.f76 R .ret a W:=by
 refine bodyPost_ret (v:=.tuple #[u,v]) ?_ hd hR
 simp[results,Tryz.results76,go_sem,h2,h3]
set_option maxHeartbeats 2000000 in
set_option maxRecDepth 100000 in
theorem qez (A1:Option Addr) (n1 c1:Nat) (A2:Option Addr) (n2 c2:Nat) (A3:Option Addr) (n3 c3:Nat) (A4:Option Addr) (n4 c4:Nat) (gen root next:Int) (A5:Option Addr) (c5:Nat) (S:Sto) (dead:List Int) (w:World)
  (h:qH w w.heap.size (.slice A1 n1 c1) (.slice A2 n2 c2) (.slice A3 n3 c3) (.slice A4 n4 c4) S) (hd:QF w w.heap.size (.slice A5 dead.length c5) dead) :
  Calls Tryz.prog 76 #[.agg (qC (.slice A1 n1 c1) (.slice A2 n2 c2) (.slice A3 n3 c3) (.slice A4 n4 c4) gen root next (.slice A5 dead.length c5))] w (qcK S root next dead w):=by
 have HT:=zH (fun W (hx:Ext w W)=>Ub A1 n1 c1 A2 n2 c2 A3 n3 c3 A4 n4 c4 gen root next A5 c5 S dead W (h.ext hx) (by
  obtain⟨A,c,e,q1,q2,q3⟩:=hd
  exact⟨A,c,e,q1,q2,(q3.below hx).more hx.size⟩))
 clear h hd
 go_enter Tryz.func76,Tryz.ntmps76
 go_wp2_with fail
 generalize hw1:World.alloc w _=w1
 have x1:Ext w w1:=by rw[←hw1];exact Ext.alloc _ _
 clear hw1
 refine(HT.out w1 x1).mono ?_
 rintro e w2 ⟨hB,hQ⟩
 have x2:Below w.heap.size w w2:=Ext.trans x1 hB
 rcases hQ with ⟨rfl,hno⟩|⟨vs,refs,nodes,cb,ca,vv,rfl,hT⟩
 ·have HB:qcK S root next dead w (.returned (.tuple #[.slice none 0 0,.int .i64 8])) w2:=⟨x2,.inl ⟨rfl,hno⟩⟩
  replace HB:=zH HB
  clear hno hB
  go_wp2_with fail
  exact Gl rfl rfl rfl HB.out
 ·have hcc:∀ j v,(zk nodes)[j]?=some v→w2.cell? ⟨cb,262+j,none⟩=some v:=fun j v hj=>by
   obtain⟨h1,rfl⟩:=qaj hj
   rw[qa hT.row]
   exact hT.ar.node j h1
  replace hT:=zH hT
  clear hB
  go_wp2_with (refine vX rfl 110 (.tmp 17) rfl cb 262 rfl (zk nodes) _ hcc Tryz.underlying110 rfl (by rw[show (zk nodes).length=256 by simp[zk]];kernel_rfl) ?_)
  clear hcc
  go_loopw [2,19] (fun v i wq=>N1 nodes w2 v i wq) (fun _ i _=>256-(intOf i).toNat)
  case atStart=>exact⟨0,by omega,rfl,World.ownsRow_nil _ _ _ _,Ext.refl _⟩
  case round =>
   obtain⟨k,hk,rfl,own,xr⟩:=hrel.ex
   clear hrel
   by_cases hlt:k<256
   ·have hix:=Kp (cs:=(zk nodes).toArray) hlt (v:=.int .i64 (nodes k)) (by rw[List.getElem?_toArray];exact Zn nodes hlt)
    have hml:=GA nodes k
    generalize (zk nodes).toArray=arr at *
    obtain⟨AR,cR,rfl,hcr1,hcr2⟩:=qw own
    clear hcr1 hcr2
    replace own:=zH own
    replace xr:=zH xr
    have hsu:=zH (qct nodes k)
    rcases Nat.eq_zero_or_pos (nodes k) with h0|h0
    ·have hc1:decide ((nodes k:Int)>0)=false:=decide_eq_false (by omega)
     have hc2:decide (0<nodes k)=false:=decide_eq_false (by omega)
     have IR:N1 nodes w2 (.slice AR (vj nodes k).length cR) (.int .i64 ((k:Int)+1)) wr:=⟨k+1,hlt,rfl,by rw[hsu.out,if_neg (by omega)];exact own.out,xr.out⟩
     replace IR:=zH IR
     replace h0:=zH h0
     go_wp2_with fail
     refine⟨IR.out,?_⟩
     simp[intOf]
     omega
    ·have hc1:decide ((nodes k:Int)>0)=true:=decide_eq_true (by omega)
     have hc2:decide (0<nodes k)=true:=decide_eq_true h0
     obtain⟨i0,hi,hz0,hz1,hz2⟩:=info_parts Tryz.info_int
     replace hml:=zH hml
     replace h0:=zH h0
     go_wp2_with (at_builtin;refine qI ?_)
     refine Qc.go (QP _ rfl (.tmp 25) (.tmp 27) 30 rfl w2.heap.size 3 i0 (.int .i64 0) 1 8 Tryz.underlying30 hi hz0 hz1 hz2 rfl (by decide) _ _ _ rfl own.out #[.int .i64 (k:Int)] rfl rfl (by simp[Value.oneCell']) (by have:=hml.out;omega) (by decide) xr.out.size ?_)
     intro v8 w8 own8 _ hB8 _
     have IR:N1 nodes w2 v8 (.int .i64 ((k:Int)+1)) w8:=⟨k+1,hlt,rfl,by
      rw[hsu.out,if_pos h0.out,ve,List.length_append,List.length_singleton]
      exact own8,Below.trans xr.out hB8⟩
     replace IR:=zH IR
     clear own8 hB8 hi hz0 hz1 hz2
     go_wp2_with fail
     refine⟨IR.out,?_⟩
     simp[intOf]
     omega
   ·obtain rfl:k=256:=by omega
    have HB:qcK S root next dead w (.returned (.tuple #[_,.int .i64 0])) wr:=⟨x2.trans (Below.mono xr x2.size),.inr ⟨vs,refs,nodes,_,w2.heap.size,rfl,x2.size,hT.out.pool,hT.out.cnt,hT.out.enough,own⟩⟩
    replace HB:=zH HB
    replace own:=zH own
    replace xr:=zH xr
    go_wp2_with fail
    exact Gl rfl rfl rfl HB.out
end Go.Proofs.YtckhnchnbeoogaaGreat
namespace Go.Proofs.YtckhnchnbeoogaaGreat
open Go.RowKit Go.Shelf
attribute [local go_sem] Oper.semAt_some
theorem Tx (n:Nat) (hn:1≤n) (bs n₀:Nat) (v1 v2 v3 v4:Value) (S:Sto) (hS:qB S=true) (w:World) (hbs:bs<n₀) (hn₀:n₀≤w.heap.size)
  (hrow:w.heap[bs]?=some (.cells #[v1,v2,v3,v4] 28 (0,0))) (hst:qH w n₀ v1 v2 v3 v4 S) :
  SeqStopsK Fence.wide n Tryz.prog 103 #[.pointer (some ⟨bs,0,none⟩)] (fun x:Nat=>#[.int .i64 (x:Int)]) (Below n₀) (fun ys=>ys=Qh S) (fun pre=>pre <+: Qh S) 256 w:=fun l J Jx W hW hJ _ hY h0 =>
 free_in n hn l bs n₀ v1 v2 v3 v4 S hS J Jx hY (fun pre W1 W2 h hx=>hJ pre W1 W2 none h ⟨hx.os,hx.tape,hx.output,hx.size,fun k hk _=>hx.block k hk⟩ (fun _ e=>by cases e)) W hbs (Nat.le_trans hn₀ hW.size) ((hW.block bs (Nat.lt_of_lt_of_le hbs hn₀)).trans hrow) (hst.below (Below.mono hW hn₀)) h0
theorem TL {w:World} {B:Nat} {e:TypeId} {size:Nat} {v:Value} {n:Nat} {xs:List Value} (h:w.ownsRow B e size v n xs):∀ g,v.ownBlock=some g→∃ c fz,w.heap[g]?=some (.cells c e fz):=by
 intro g hg
 rcases h.2 with ⟨rfl,_⟩|⟨b,cap,cur,rfl,_,h2,_⟩
 ·simp[Value.ownBlock] at hg
 ·simp[Value.ownBlock] at hg
  subst hg
  exact⟨cur,(0,0),h2⟩
theorem qaK {w:World} {B B':Nat} {e:TypeId} {size:Nat} {v:Value} {n:Nat} {xs:List Value} (h:w.ownsRow B e size v n xs) (hb:B'≤B):w.ownsRow B' e size v n xs:=by
 rcases h with ⟨h1,h2|⟨g,cap,cur,e1,h3,h4⟩⟩
 ·exact⟨h1,.inl h2⟩
 ·exact⟨h1,.inr ⟨g,cap,cur,e1,by omega,h4⟩⟩
theorem qap {w:World} {B:Nat} {e:TypeId} {size:Nat} {v:Value} {n:Nat} {xs:List Value} (h:w.ownsRow B e size v n xs) {D:Nat} {o:Obj} (hD:w.heap[D]?=some o) (ho:o.isCells=false):v.ownBlock=none∨v.ownBlock≠some D:=by
 refine .inr fun hv=>?_
 obtain⟨c,fz,h3⟩:=TL h D hv
 rw[hD] at h3
 cases h3
 cases ho
theorem qbl {B:Nat} {W W':World} {row:Option Nat} (hg:W.grownBy W' row) (hr:∀ g,row=some g→B≤g) (hB:B≤W.heap.size:=by omega):Below B W W':=(Below.refl _ _).grown hg hB (fun k e=>hr k e)
theorem qbE {w w':World} {B:Nat} {e:TypeId} {size:Nat} {v:Value} {n:Nat} {xs:List Value} (h:w.ownsRow B e size v n xs) (hg:w.grownBy w' v.ownBlock):KeepsOthers w w':=⟨hg.size,fun k o hk ho=>(hg.block k (zG.1 hk).1 (fun e1=>by
 obtain⟨c,fz,h3⟩:=TL h k e1.symm
 rw[hk] at h3
 cases h3
 cases ho)).trans hk⟩
theorem qae {B:Nat} (b base:Nat) (ty ety:TypeId):OwnFrom B (fun (pre:List Nat) W=>∃ v,W.heap[b]?=some (.cells #[v] ty (0,0))∧W.ownsRow base ety 1 v pre.length (ZD pre)):=fun s A C row ⟨v,h1,h2⟩ hg hr =>
 ⟨v,Qf (β:=Unit) _ _ _ _ () A C row h1 hg hr,h2.kept hg (by
  rcases hv:v.ownBlock with _|g
  ·exact .inl rfl
  ·refine .inr fun e=>?_
   obtain⟨_,o,ho,hc⟩:=hr g e.symm
   rcases TL h2 g hv with ⟨c,fz,h3⟩
   rw[ho] at h3
   cases h3
   cases hc)⟩
set_option maxRecDepth 100000 in
set_option maxHeartbeats 2000000 in
theorem GW (n:Nat) (h3:3≤n) (bs:Nat) (v1 v2 v3 v4:Value) (S:Sto) (hS:qB S=true) (w:World) (hbs:bs<w.heap.size) (hrow:w.heap[bs]?=some (.cells #[v1,v2,v3,v4] 28 (0,0))) (hst:qH w w.heap.size v1 v2 v3 v4 S) :
  CallsIn Fence.wide n Tryz.prog 129 #[.slice none 0 0,.func (.func 103) #[] #[.pointer (some ⟨bs,0,none⟩)]] w fun e W'=>∃ v,e=.returned v∧Below w.heap.size w W'∧W'.ownsRow (w.heap.size+1) 3 1 v (Qh S).length (ZD (Qh S)):=by
 have h1:1≤n:=by omega
 refine callsIn_of_wp_marks Tryz.func129 rfl trivial ?_ rfl
 simp only[Tryz.ntmps129,List.size_toArray,List.length_cons,List.length_nil,Nat.reduceAdd,Nat.reduceSub,Array.replicate_succ,Array.replicate_zero,List.push_toArray,List.append_toArray,List.nil_append,List.cons_append]
 gi_wp2_with fail
 have x1:Ext w (w.alloc (.cells #[.slice none 0 0] 30)):=Ext.alloc _ _
 obtain⟨i0,hi,hz0,hz1,hz2⟩:=info_parts Tryz.info_int
 refine wpIn_rangeFunc_ownH rfl h1 (gf:=103) (lb:=#[.pointer (some ⟨bs,0,none⟩)]) rfl trivial (enters_of Tryz.func103 (by kernel_rfl) rfl)
  (Tx (n-1) (by omega) bs w.heap.size v1 v2 v3 v4 S hS _ hbs (by simp) (qc hrow x1) (hst.below x1)) Below.trans (belowK_b (by simp)) (Below.refl _ _) (fun _=>rfl)
  (fun pre W=>(∃ v,W.heap[w.heap.size]?=some (.cells #[v] 30 (0,0))∧W.ownsRow (w.heap.size+1) 3 1 v pre.length (ZD pre))∧Below w.heap.size w W)
  (fun _ _ _=>False)
  (OwnFrom.and (qae _ _ _ _) (ownFrom_below (Nat.le_refl _) (by simp)))
  (fun _ _ _ _ _ hs _ _=>hs)
  ⟨⟨.slice none 0 0,World.alloc_heap_at _ _ _ rfl,World.ownsRow_nil _ _ _ _⟩,x1⟩
  (fun x a' _=>a'={ tmps:=#[.slice none 0 0,.func (.func 103) #[] #[.pointer (some ⟨bs,0,none⟩)],.pointer (some ⟨w.heap.size,0,none⟩),undef,.slice none 0 0,.int .i64 (x:Int),.func (.func 103) #[] #[.pointer (some ⟨bs,0,none⟩)],.int .i64 (x:Int),undef,undef,undef,undef,undef],defers:=[] })
  (fun x a'=>js _ _) ?assign ?body ?done ?stop
 case assign =>
  rintro l pre x W K hI hK
  gi_wp2_with fail
  exact hK _ _ (KeepsFrom.refl _ _) (Below.refl _ _) hI rfl
 case body =>
  rintro l pre x a' W hl - ⟨⟨v,hr,hown⟩,hB⟩ rfl hpl
  have kr:=qa hr
  have zb:w.heap.size<W.heap.size:=(zG.1 hr).1
  have hne:v.ownBlock≠some w.heap.size:=fun e=>by have:=(zY hown _ e).1;omega
  obtain⟨Av,cv,rfl,-,-⟩:=qw hown
  gi_wp2_with (gi_at_builtin;refine UG ?_)
  refine Qc.go (Ux W rfl (.tmp 8) (.tmp 10) 30 rfl (w.heap.size+1) 3 i0 _ 1 8 Tryz.underlying30 hi hz0 hz1 hz2 rfl (by decide) (.slice Av pre.length cv) pre.length _ (by exact rfl) hown #[.int .i64 (x:Int)] (by exact rfl) rfl (by simp[Value.oneCell']) (by omega) (by decide) (by omega) ?_)
  intro v' W3 hown3 hg hat
  have hg0:∀ g,(Value.slice Av pre.length cv).ownBlock=some g→w.heap.size+1≤g:=fun g e=>(zY hown _ e).1
  have hr3:W3.heap[w.heap.size]?=_:=(hg.block _ zb (fun e=>hne e.symm)).trans hr
  have kr3:=qa hr3
  have fr3:=qd hr3
  have hB3:Below w.heap.size W W3:=qbl hg fun g e=>by have:=hg0 g e;omega
  have zb3:w.heap.size<W3.heap.size:=(zG.1 hr3).1
  have hg3:∀ g,v'.ownBlock=some g→w.heap.size+1≤g:=fun g e=>(zY hown3 _ e).1
  have hkeep:KeepsOthers W W3:=qbE hown hg
  replace hg:=zH hg
  replace hown:=zH hown
  replace hat:=zH hat
  obtain⟨Av',cv',rfl,-,-⟩:=qw hown3
  replace hown3:=zH hown3
  gi_wp2_with fail
  refine⟨(hkeep.trans (KeepsOthers.setCell _ _ _)).from _,hB3.setCell (p:=⟨w.heap.size,0,none⟩) (Nat.le_refl _) _,⟨_,qh hr3 0 _,?_⟩,hB.trans (hB3.setCell (p:=⟨w.heap.size,0,none⟩) (Nat.le_refl _) _)⟩
  rw[List.length_append,List.length_singleton,ve]
  exact hown3.out.kept (grownBy_setCell' _ _ _) (.inr fun e=>by have:=hg3 _ e;omega)
 case done =>
  rintro D ys W hD rfl ⟨⟨v,hr,hown⟩,hB⟩ hK
  have kr:=qa hr
  gi_wp2_with fail
  refine⟨by simp,.inl ⟨_,_,rfl,run_takeDeferred hK,?_⟩⟩
  exact⟨_,results_tmp rfl _ _ _,v,rfl,hB.trans (belowK_b (w:=w) (Nat.le_refl _) W D _ _ (by simp at hD;omega) hK rfl rfl),hown.kept (grownBy_putObj' W D _) (qap hown hK rfl)⟩
 case stop =>
  rintro D c pre W _ _ h _
  exact h.elim
def RFreeQ (S:Sto) (w:World) (e:Ending) (w':World):Prop:=Below w.heap.size w w' ∧
 ((qB S=false∧e=.returned (.tuple #[.slice none 0 0,.int .i64 8]))∨(qB S=true∧∃ v,e=.returned (.tuple #[v,.int .i64 0])∧w'.ownsRow w.heap.size 3 1 v (Qh S).length (ZD (Qh S))))
set_option maxRecDepth 100000 in
set_option maxHeartbeats 2000000 in
theorem qbr (bs:Nat) (v1 v2 v3 v4:Value) (S:Sto) (hS:qB S=true) (w:World) (hbs:bs<w.heap.size) (hrow:w.heap[bs]?=some (.cells #[v1,v2,v3,v4] 28 (0,0))) (hst:qH w w.heap.size v1 v2 v3 v4 S) :
  Calls Tryz.prog 100 #[.func (.func 103) #[] #[.pointer (some ⟨bs,0,none⟩)]] w fun e W'=>∃ v,e=.returned v∧Below w.heap.size w W'∧W'.ownsRow (w.heap.size+1) 3 1 v (Qh S).length (ZD (Qh S)):=by
 go_enter Tryz.func100,Tryz.ntmps100
 go_wp2_with fail
 refine((callsIn_wide (n:=3)).1 (GW 3 (by omega) bs v1 v2 v3 v4 S hS w hbs hrow hst)).mono ?_
 rintro e w2 ⟨v,rfl,hB,hown⟩
 obtain⟨A,c,rfl,-,-⟩:=qw hown
 replace hown:=zH hown
 go_wp2_with fail
 go_ret
 exact⟨_,rfl,hB,hown.out⟩
set_option maxHeartbeats 1000000 in
theorem Tr (A1:Option Addr) (n1 c1:Nat) (A2:Option Addr) (n2 c2:Nat) (A3:Option Addr) (n3 c3:Nat) (A4:Option Addr) (n4 c4:Nat) (w:World) :
  Calls Tryz.prog 67 #[Qy A1 n1 c1 A2 n2 c2 A3 n3 c3 A4 n4 c4] w (fun e w'=>e=.returned (.func (.func 103) #[] #[.pointer (some ⟨w.heap.size,0,none⟩)])∧w'=w.alloc (.cells #[.slice A1 n1 c1,.slice A2 n2 c2,.slice A3 n3 c3,.slice A4 n4 c4] 28)):=by
 go_enter Tryz.func67,Tryz.ntmps67
 go_wp2
 go_ret
 exact⟨rfl,rfl⟩
theorem GF {R:Ending→World→Prop} {a:Act} {W:World} {u v:Value} (h2:a.tmps[2]?.getD undef=u) (h3:a.tmps[3]?.getD undef=v) (hd:a.defers=[]) (hR:R (.returned (.tuple #[u,v])) W):bodyPost Tryz.prog Tryz.f65 R .ret a W:=by
 refine bodyPost_ret (v:=.tuple #[u,v]) ?_ hd hR
 simp[results,Tryz.results65,go_sem,h2,h3]
set_option maxRecDepth 100000 in
set_option maxHeartbeats 2000000 in
theorem qeQ (A1:Option Addr) (n1 c1:Nat) (A2:Option Addr) (n2 c2:Nat) (A3:Option Addr) (n3 c3:Nat) (A4:Option Addr) (n4 c4:Nat) (S:Sto) (w:World) (h:qH w w.heap.size (.slice A1 n1 c1) (.slice A2 n2 c2) (.slice A3 n3 c3) (.slice A4 n4 c4) S) :
  Calls Tryz.prog 65 #[Qy A1 n1 c1 A2 n2 c2 A3 n3 c3 A4 n4 c4] w (RFreeQ S w):=by
 have HC:=zH (fun W (hx:Ext w W)=>JQ A1 n1 c1 A2 n2 c2 A3 n3 c3 A4 n4 c4 S W (h.ext hx))
 replace h:=zH h
 go_enter Tryz.func65,Tryz.ntmps65
 go_wp2_with fail
 generalize hw1:(World.alloc w _)=w1
 have x1:Ext w w1:=by rw[←hw1];exact Ext.alloc _ _
 have r1:w1.heap[w.heap.size]?=some (.cells #[.slice A1 n1 c1,.slice A2 n2 c2,.slice A3 n3 c3,.slice A4 n4 c4] 28 (0,0)):=by rw[←hw1];exact World.alloc_heap_at _ _ _ rfl
 clear hw1
 refine(HC.out w1 x1).mono ?_
 clear HC
 rintro e w2 ⟨rfl,hB⟩
 have x2:Ext w w2:=x1.trans hB
 have r2:=qc r1 hB
 have k2:=qa r2
 clear hB r1 x1
 rcases hS:qB S with _|_
 ·rw[ju rfl]
  replace hS:=zH hS
  go_wp2_with fail
  exact GF rfl rfl rfl ⟨x2,.inl ⟨hS.out,rfl⟩⟩
 ·rw[jw rfl]
  go_wp2_with fail
  refine(Tr A1 n1 c1 A2 n2 c2 A3 n3 c3 A4 n4 c4 w2).mono ?_
  rintro e w3 ⟨rfl,rfl⟩
  have x3:Ext w2 (w2.alloc (.cells #[.slice A1 n1 c1,.slice A2 n2 c2,.slice A3 n3 c3,.slice A4 n4 c4] 28)):=Ext.alloc _ _
  have r3:(w2.alloc (.cells #[.slice A1 n1 c1,.slice A2 n2 c2,.slice A3 n3 c3,.slice A4 n4 c4] 28)).heap[w2.heap.size]?=_:=World.alloc_heap_at _ _ _ rfl
  have h3:=h.out.ext (x2.trans x3)
  generalize hw3:w2.alloc _=w3 at *
  have s3:w2.heap.size<w3.heap.size:=(zG.1 r3).1
  go_wp2_with fail
  refine(qbr w2.heap.size _ _ _ _ S hS w3 s3 r3 h3).mono ?_
  rintro e w4 ⟨v,rfl,hB4,hown⟩
  obtain⟨A,c,rfl,-,-⟩:=qw hown
  have HR:RFreeQ S w (.returned (.tuple #[.slice A (Qh S).length c,.int .i64 0])) w4:=⟨Ext.trans (x2.trans x3) hB4,.inr ⟨hS,_,rfl,qaK hown (by have:=(x2.trans x3).size;omega)⟩⟩
  replace HR:=zH HR
  replace hown:=zH hown
  replace hS:=zH hS
  clear hw3 r3 r2 k2
  go_wp2_with fail
  exact GF rfl rfl rfl HR.out
end Go.Proofs.YtckhnchnbeoogaaGreat
namespace Go.Proofs.YtckhnchnbeoogaaGreat
open Go.RowKit
section
variable {F0:Fence} {P:Program} {ops:Array Oper} {n:Nat}
theorem qec {Q:Exit→Act→World→Prop} {i:Nat} {a:Act} {w:World} {K K':Act→World→Prop} (hK:∀ a w,K a w→K' a w) (h:wpOpIn F0 n P ops (QN Q) i K a w):wpOpIn F0 n P ops Q i K' a w:=by
 unfold wpOpIn at *
 split
 ·exact hK _ _ (by simpa [*] using h)
 ·rename_i o ho
  simp only[ho] at h
  split
  ·rename_i hw
   simp only[hw,if_true] at h
   refine⟨h.1,?_⟩
   replace h:=h.2
   generalize (o.semAt F0.round a.eval).run P w=r at *
   cases r with
   |ok m w' =>
    cases m <;> simp only[Oper.uponIn] at h ⊢ <;>
     first
      |exact hK _ _ h
      |exact⟨h.1,CallsIn.mono h.2 (fun e w'' he=>by cases e <;> first|exact hK _ _ he|exact absurd he Zr|exact False.elim he)⟩
      |exact⟨h.1,RowsIn.mono h.2 (fun _ _ he=>hK _ _ he)⟩
      |exact⟨h.1,RoundIn.mono h.2 (fun e w'' he=>by cases e <;> first|exact hK _ _ he|exact absurd he Zr|exact False.elim he)⟩
   |halt x w'=>cases x <;> simp only[Oper.uponIn] at h ⊢ <;> exact False.elim h
  ·rename_i hw;simp only[hw] at h;exact⟨h.1,hK _ _ h.2⟩
theorem TF {Q:Exit→Act→World→Prop}:∀ (fuel:Nat) (listed:Array Bool) (a:Act) (w:World),wpAnyIn F0 n P .any ops (QN Q) fuel listed a w→wpAnyIn F0 n P .any ops Q fuel listed a w
 |0,_,_,_,h=>⟨h.1,h.2⟩
 |fuel+1,listed,a,w,h=>⟨h.1,fun i hi=>qec (fun a w h=>TF fuel _ a w h) (h.2 i hi)⟩
theorem qal (HF:Xv F0) (HN:Vc ops=true) {Q:Exit→Act→World→Prop} {z:Nat} {oz:Oper} {v:Value} (hz:ops[z]?=some oz) (hsel:∀ (j:Nat) (o:Oper) cs b,ops[j]?=some o→o.op≠.select cs b) :
  ∀ (fuel:Nat) (listed:Array Bool) (a:Act) (W:World),
   (∀ j oj,ops[j]?=some oj→j≠z→listed.getD j true=false→(∀ e∈oj.after,Region.binds .any e=true→e.on≠z)→oz.apart ops oj=true) →
   z∈Region.ready .any ops listed→Region.wanted oz (yielded ops a.tmps)=true→(∀ W,(execOp a.eval oz).run P W=.ok (.value v) W) →
   wpAnyIn F0 n P .any ops (QN Q) fuel (listed.setIfInBounds z true) (a.put oz.dst v) W→wpAnyIn F0 n P .any ops (QN Q) (fuel+1) listed a W:=by
 have first:∀ (K:Act→World→Prop) (a:Act) (W:World),Region.wanted oz (yielded ops a.tmps)=true→(∀ W,(execOp a.eval oz).run P W=.ok (.value v) W)→K (a.put oz.dst v) W→wpOpIn F0 n P ops (QN Q) z K a W:=by
  intro K a W hw hp h
  unfold wpOpIn
  simp only[hz,hw,if_true]
  refine⟨fun f _=>HF.fn f,?_⟩
  rw[Oper.semAt_eq _ _ _ (Jy HN hz),hp]
  exact h
 intro fuel
 induction fuel with
 |zero =>
  intro listed a W hfree hr hw hp h
  refine⟨fun h0=>(by rw[h0] at hr;cases hr),fun i hi=>?_⟩
  by_cases hiz:i=z
  ·subst hiz;exact first _ a W hw hp h
  ·exfalso
   have:=ready_mono hi hiz
   rw[h.1] at this
   cases this
 |succ fuel ih =>
  intro listed a W hfree hr hw hp h
  refine⟨fun h0=>(by rw[h0] at hr;cases hr),fun i hi=>?_⟩
  by_cases hiz:i=z
  ·subst hiz;exact first _ a W hw hp h
  ·have hi2:=h.2 i (ready_mono hi hiz)
   obtain⟨hiun,oi,hoi,halli⟩:=mem_ready.1 hi
   obtain⟨hzun,_,_,_⟩:=mem_ready.1 hr
   have bad:∀ k,listed.getD k true=false→listed.getD k false=true→False:=fun k h0 h1=>by
    rcases Nat.lt_or_ge k listed.size with h'|h'
    ·simp[h'] at h0 h1;rw[h0] at h1;cases h1
    ·simp[Array.getElem?_eq_none h'] at h1
   have hap:=hfree i oi hoi hiz hiun (fun e he hb heq=>bad z hzun (heq ▸ halli e he hb))
   obtain⟨h1,h2,h3⟩:=Oper.apart_spec hap
   have hsi:∀ cs b,oi.op≠.select cs b:=fun cs b=>hsel i oi cs b hoi
   have hsz:∀ cs b,oz.op≠.select cs b:=fun cs b=>hsel z oz cs b hz
   have step:∀ (b:Act) (u:Value) (w':World),b.tmps=a.tmps→wpAnyIn F0 n P .any ops (QN Q) fuel ((listed.setIfInBounds z true).setIfInBounds i true) ((b.put oz.dst v).put oi.dst u) w'→wpAnyIn F0 n P .any ops (QN Q) (fuel+1) (listed.setIfInBounds i true) (b.put oi.dst u) w':=by
    intro b u w' hb hh
    rw[Act.put_comm b v u h2,Array.setIfInBounds_comm _ _ (fun e=>hiz e.symm)] at hh
    have hev:b.eval=a.eval:=by funext x;cases x <;> simp[Act.eval,hb]
    refine ih _ _ w' (fun j oj hoj hjz hjun hno=>?_) (ready_mono hr (Ne.symm hiz)) ?_ (fun W=>?_) hh
    ·refine hfree j oj hoj hjz ?_ hno
     by_cases hij:i=j
     ·subst hij;exact hiun
     ·rw[getD_set_ne true hij] at hjun;exact hjun
    ·rw[wanted_put oz b oi.dst u h3,hb];exact hw
    ·rw[execOp_put oz hsz b oi.dst u h3,hev];exact hp W
   unfold wpOpIn at hi2 ⊢
   simp only[hoi] at hi2 ⊢
   rw[wanted_put oi a oz.dst v h1] at hi2
   split
   ·rename_i hw'
    rw[if_pos hw'] at hi2
    refine⟨fun f _=>HF.fn f,?_⟩
    replace hi2:=hi2.2
    rw[Oper.semAt_eq _ _ _ (Jy HN hoi)] at hi2 ⊢
    rw[execOp_put oi hsi a oz.dst v h1] at hi2
    generalize (execOp a.eval oi).run P W=r at *
    cases r with
    |ok m w' =>
     cases m <;> simp only[Oper.uponIn] at hi2 ⊢
     case value u=>exact step a u w' rfl hi2
     case skip=>exact step a undef w' rfl hi2
     case defer d =>
      refine step { a with defers:=d :: a.defers } undef w' rfl ?_
      have e:({ a.put oz.dst v with defers:=d :: (a.put oz.dst v).defers }:Act)=({ a with defers:=d :: a.defers }:Act).put oz.dst v:=by cases oz.dst <;> rfl
      rw[←e]
      exact hi2
     case enter f args=>exact⟨hi2.1,CallsIn.mono hi2.2 (fun e w'' he=>by cases e <;> first|exact step a _ _ rfl he|exact absurd he Zr|exact False.elim he)⟩
     case row=>exact⟨hi2.1,RowsIn.mono hi2.2 (fun _ _ he=>step a _ _ rfl he)⟩
     case round=>exact⟨hi2.1,RoundIn.mono hi2.2 (fun e w'' he=>by cases e <;> first|exact step a _ _ rfl he|exact absurd he Zr|exact False.elim he)⟩
    |halt x w'=>cases x <;> simp only[Oper.uponIn] at hi2 ⊢ <;> exact False.elim hi2
   ·rename_i hw'
    rw[if_neg hw'] at hi2
    exact⟨fun f _=>HF.fn f,step a undef W rfl hi2.2⟩
theorem TT {id:Nat} {l:List Oper} {Q:Exit→Act→World→Prop} {a:Act} {w:World} (hm:P.follows .mixedOrders=true)
  (h:wpAnyIn F0 n P .any l.toArray (QN Q) l.length (Array.replicate l.length false) a w.drew):(Code.region id l.toArray true).wpIn F0 n P Q a w:=
 wpIn_region_any hm (by simpa using TF _ _ _ _ h)
theorem qcw {l:List Oper} {Q:Exit→Act→World→Prop} {m:Nat} {listed:Array Bool} {a:Act} {W:World} (HF:Xv F0) (HN:Vc l.toArray=true) (z fuel:Nat) {oz:Oper} (v:Value) (hn:m=fuel+1) (hz:l.toArray[z]?=some oz) (hs:Region.noSelect l.toArray=true)
  (hf:Region.free .any l.toArray listed z=true) (hr:(Region.ready .any l.toArray listed).contains z=true) (hw:Region.wanted oz (yielded l.toArray a.tmps)=true) (hp:∀ W,(execOp a.eval oz).run P W=.ok (.value v) W)
  (h:wpAnyIn F0 n P .any l.toArray (QN Q) fuel (listed.setIfInBounds z true) (a.put oz.dst v) W):wpAnyIn F0 n P .any l.toArray (QN Q) m listed a W:=
 hn ▸ qal HF HN hz (Region.noSelect_spec hs) fuel listed a W (Region.free_spec hz hf) (by simpa using hr) hw hp h
theorem qaX {l:List Oper} {Q:Exit→Act→World→Prop} {fuel:Nat} {listed:Array Bool} {a:Act} {w W:World} (HF:Xv F0) (HN:Vc l.toArray=true) (R:Rel) (H:Nat→Option qT) (M:List Bool) (t:Nat)
  (hs:Region.noSelect l.toArray=true) (ht:qbe l.toArray (QS l.length (l.length-t)) ((qz 0 l M).map (·.1))=true) (hc0:YF l.toArray listed=true) (hB:Zs l.toArray (QS l.length (l.length-t)) ((qz 0 l M).map (·.1)) listed=true)
  (hseq:YY l.toArray t (l.length-t) (QS l.length (l.length-t))=true) (hfu:fuel=(qz 0 l M).length+t) (htl:(l.drop (l.length-t)).length=t)
  (hH:∀ i h,H i=some h→∀ p,qF R (h.φ p)) (hW:R.r w W)
  (h:∀ K:Act→qN→Prop,(∀ a' F',(∀ W,R.r w W→(∀ k,F' k W)→wpListIn F0 n P l.toArray Q (l.drop (l.length-t)) a' W)→K a' F')→ZC R P l.toArray w H K (qz 0 l M) a (fun _ _=>True)):wpAnyIn F0 n P .any l.toArray Q fuel listed a W:=by
 have h:=h _ (fun a' F' hh=>hh)
 subst hfu
 have key:=vn (w0:=w) hH hs (fun _ _ h=>h.step) (VC ht) (qz 0 l M) listed a (fun _ _=>True) (JA hc0) (fun x hx=>by
  obtain⟨j,h1,h2⟩:=jz l M 0 x hx
  refine⟨?_,List.mem_map.2 ⟨x,hx,rfl⟩⟩
  rw[h1,Nat.zero_add]
  simpa using h2) hB (fun _ _ _ _ _=>trivial) ⟨W,hW,fun _=>trivial⟩ (fun _ _ _=>trivial) h
 exact jP HF HN (n:=n) (w0:=w) hH (t:=t) (Q':=Q) (fun a F W hq hW hF=>by
  have:=VZ (F:=F0) (n:=n) (l.drop (l.length-t)) (l.length-t) _ a W (fun j _=>by rw[List.getElem?_drop];simp) (by rw[htl];exact hseq) (hq W hW hF)
  rwa [htl] at this) _ _ _ _ W (fun _ _ _ _ _=>trivial) hW (fun _=>trivial) key
end
def UX:Obj→Obj
 | .cells c t f=>if f=(0,0) then .cells c t f else .coro none
 |o=>o
def thaw (W:World):World:={ W with heap:=W.heap.map UX }
theorem vS (W:World):(thaw W).heap.size=W.heap.size:=by simp[thaw]
theorem jG (W:World) (k:Nat):(thaw W).heap[k]?=(W.heap[k]?).map UX:=by simp[thaw]
theorem thaw_row {W:World} {b:Nat} {cs:Array Value} {t:TypeId} (h:W.heap[b]?=some (.cells cs t (0,0))):(thaw W).heap[b]?=some (.cells cs t (0,0)):=by
 rw[jG,h]
 rfl
theorem Qi {w w':World} {q:Addr} (h:w'.heap[q.block]?=w.heap[q.block]?):(thaw w').cell? q=(thaw w).cell? q:=
 World.cell?_of_block (by rw[jG,jG,h])
theorem Below.thaw {B:Nat} {w w':World} (h:Below B w w') {q:Addr} (hq:q.block<B):(thaw w').cell? q=(Go.Proofs.YtckhnchnbeoogaaGreat.thaw w).cell? q:=Qi (h.block q.block hq)
theorem Qd {W:World} {q:Addr} {v:Value} (h:(thaw W).cell? q=some v):W.cell? q=some v∧W.frozen? q=false:=by
 unfold World.cell? at h
 rw[jG] at h
 unfold World.cell? World.frozen?
 cases hb:W.heap[q.block]? with
 |none=>rw[hb] at h;cases h
 |some o =>
  rw[hb] at h
  cases o with
  |cells c e f =>
   simp only[Option.map_some,UX] at h
   by_cases hf:f=(0,0)
   ·subst hf
    rw[if_pos rfl] at h
    exact⟨h,by simp⟩
   ·rw[if_neg hf] at h
    cases h
  |_=>simp only[Option.map_some,UX] at h;cases h
theorem jh {W:World} {b:Nat} {cs:Array Value} {t:TypeId} (h:W.heap[b]?=some (.cells cs t (0,0))) (j:Nat):(thaw W).cell? ⟨b,j,none⟩=W.cell? ⟨b,j,none⟩:=by
 rw[qa h,qa (thaw_row h)]
def Thaw (W:World) (v:Value):Prop:=∀ a n c,v=.slice (some a) n c→0<n→∃ cs t,W.heap[a.block]?=some (.cells cs t (0,0))
theorem Thaw.of_own {w:World} {base n size:Nat} {e:TypeId} {v:Value} {xs:List Value} (h:w.ownsRow base e size v n xs):Thaw w v:=by
 intro a n' c ev hn
 rcases h.2 with ⟨rfl,rfl⟩|⟨g,cap,cur,rfl,_,hg,_⟩
 ·cases ev
 ·cases ev
  exact⟨_,_,hg⟩
def ZP (lo:Nat) (v:Value) (l:List UInt8) (W:World):Prop:=Bys W W.heap.size v l∧QD lo v∧Thaw W v
theorem ZP.of_own {w:World} {base n:Nat} {e:TypeId} {v:Value} {l:List UInt8} (h:w.ownsRow base e 1 v n (l.map bv)):ZP base v l w:=⟨Bys.of_own h,QD.of_own h,Thaw.of_own h⟩
theorem ZP.mono {lo lo':Nat} {v:Value} {l:List UInt8} {W:World} (h:ZP lo v l W) (hl:lo'≤lo):ZP lo' v l W:=⟨h.1,h.2.1.mono hl,h.2.2⟩
theorem ZP.grown {lo:Nat} {v:Value} {l:List UInt8} {W W':World} {row:Option Nat} (h:ZP lo v l W) (hg:W.grownBy W' row) (ha:∀ a n c,v=.slice (some a) n c→0<n→row≠some a.block):ZP lo v l W':=by
 refine⟨h.1.grown hg ha,h.2.1,fun a n c e hn=>?_⟩
 obtain⟨A',c',e',_,_,hr⟩:=h.1
 have e2:=e'
 rw[e] at e'
 simp only[Value.slice.injEq] at e'
 obtain⟨e1,e3,_⟩:=e'
 obtain⟨b,off,e4,hbb,_⟩:=hr.2 (by omega)
 rw[←e1] at e4
 simp only[Option.some.injEq] at e4
 have:=ha a n c e hn
 rw[hg.block a.block (by rw[e4];exact hbb) (fun x=>this x.symm)]
 exact h.2.2 a n c e hn
theorem ZP.ext {lo:Nat} {v:Value} {l:List UInt8} {W W':World} (h:ZP lo v l W) (hx:Ext W W'):ZP lo v l W':=h.grown (Qo hx none) fun _ _ _ _ _ x=>by cases x
theorem ZP.thaw {lo:Nat} {v:Value} {l:List UInt8} {W:World} (h:ZP lo v l W):Bys (thaw W) W.heap.size v l:=by
 obtain⟨⟨A,c,e,hc,hm,hr⟩,_,ht⟩:=h
 refine⟨A,c,e,hc,hm,hr.1,fun hn=>?_⟩
 obtain⟨b,off,e2,hb,hcs⟩:=hr.2 hn
 obtain⟨cs,t,hrow⟩:=ht ⟨b,off,none⟩ l.length c (by rw[e,e2]) hn
 exact⟨b,off,e2,hb,fun j u hu=>(jh hrow _).trans (hcs j u hu)⟩
theorem ZP.from {lo:Nat} {v:Value} {l:List UInt8} {W:World} (h:ZP lo v l W):QD lo v:=h.2.1
def VE (base:Nat) (e:TypeId) (size lo:Nat) (v:Value) (n:Nat) (xs:List Value) (f:Value→List Value) (l:List UInt8) (v':Value) (W:World):Prop:=
 ∃ A c,XT base e size lo v (n+1) (xs++f (.slice A l.length c)) v' W∧ZP lo (.slice A l.length c) l W∧zV v' (.slice A l.length c)
theorem VE.ext {base:Nat} {e:TypeId} {size lo:Nat} {v:Value} {n:Nat} {xs:List Value} {f:Value→List Value} {l:List UInt8} {v':Value} {W W':World} (h:VE base e size lo v n xs f l v' W) (hx:Ext W W'):VE base e size lo v n xs f l v' W':=by
 obtain⟨A,c,h1,h2,h3⟩:=h
 exact⟨A,c,⟨QK h1.1 hx,h1.2⟩,h2.ext hx,h3⟩
def XX (base:Nat) (e:TypeId) (size lo:Nat) (v:Value) (n:Nat) (xs:List Value) (f:Value→List Value) (l:List UInt8):Rel where
 rel W W':=W.grownBy W' v.ownBlock∧(W.ownsRow base e size v n xs→W'.ownsRow base e size v n xs)∧∀ v',VE base e size lo v n xs f l v' W→VE base e size lo v n xs f l v' W'
 refl' W:=⟨World.grownBy.refl _ _,id,fun _=>id⟩
 trans' h k:=⟨h.1.trans k.1,fun x=>k.2.1 (h.2.1 x),fun v' x=>k.2.2 v' (h.2.2 v' x)⟩
 drew' W:=⟨⟨rfl,rfl,rfl,Nat.le_refl _,fun _ _ _=>rfl⟩,fun h=>h.drew,fun v' h=>h.ext (Ext.drew W)⟩
section
variable {base:Nat} {e:TypeId} {size lo:Nat} {v:Value} {n:Nat} {xs:List Value} {f:Value→List Value} {l:List UInt8}
theorem vZ {W W':World} (h:Ext W W'):(XX base e size lo v n xs f l).r W W':=
 ⟨Qo h _,fun x=>QK x h,fun _ x=>x.ext h⟩
theorem Xa {W W':World} (h:(XX base e size lo v n xs f l).r W W') {p:Addr} {u:Value} (hp:v.ownBlock≠some p.block) (hc:W.cell? p=some u):W'.cell? p=some u:=
 World.grownBy.cell h.1 hc (fun x=>hp x.symm)
theorem ZT {W W':World} (h:(XX base e size lo v n xs f l).r W W') {b:Nat} {o:Obj} (hp:v.ownBlock≠some b) (hc:W.heap[b]?=some o):W'.heap[b]?=some o:=
 (h.1.block b (zG.1 hc).1 (fun x=>hp x.symm)).trans hc
theorem Vi {P:Program} (W:World) (t ty:TypeId) (i:TypeInfo) (z:Value) (bytes:Nat) (ht:P.underlying t=some (.slice e)) (hi:P.info? e=some i) (hz:i.zero=some z)
  (hsize:i.size=size) (hby:i.bytes=bytes) (hzs:z.cells.size=size) (hsz:0<size) (hown:W.ownsRow base e size v n xs)
  (a:Addr) (A:Option Addr) (c:Nat) (hl:(f (.slice A l.length c)).length=size) (hnews:∀ j u,(f (.slice A l.length c))[j]?=some u→W.cell? (a.add j)=some u) (h1:∀ u∈f (.slice A l.length c),u.oneCell'=true)
  (hnb:ZP lo (.slice A l.length c) l W) (hvl:∀ g,v.ownBlock=some g→g<lo)
  (hn:n+1<1073741824) (hbytes:bytes≤65536) (hbase:base≤W.heap.size) (hlo:lo≤W.heap.size) :
  ∃ v' w',(Builtin.append_ #[t,t] ty #[v,.slice (some a) 1 1]).run P W=.ok v' w'∧VE base e size lo v n xs f l v' w'∧(XX base e size lo v n xs f l).r W w':=by
 have hbs:=hnb.1
 have hf:=hnb.2.1
 have hb:(n+1)*bytes≤140737488355328:=Nat.le_trans (Nat.mul_le_mul_left _ hbytes) (by omega)
 have hm:n+1≤maxLen:=by unfold maxLen;omega
 have hl':(f (.slice A l.length c)).length=1*size:=by rw[hl,Nat.one_mul]
 obtain⟨v',w',hr,h2,h3,_,h5⟩:=run_append_own_at (P:=P) W base t ty e i z size bytes ht hi hz hsize hby hzs hsz v n xs hown a 1 1 _ hl' hnews h1 hm hb hbase
 have hap:zV v (.slice A l.length c):=zV.of_from hf hvl
 have hap':zV v' (.slice A l.length c):=by
  intro a n c e hn
  rcases h5 with h4|h4
  ·rw[h4];exact hap a n c e hn
  ·rw[h4]
   intro hx
   simp only[Option.some.injEq] at hx
   obtain⟨A',c',e',_,_,hr⟩:=hbs
   rw[e] at e'
   simp only[Value.slice.injEq] at e'
   obtain⟨e1,e2,_⟩:=e'
   obtain⟨b,off,e3,hbb,_⟩:=hr.2 (by omega)
   rw[←e1] at e3
   simp only[Option.some.injEq] at e3
   rw[e3] at hx
   simp at hx
   omega
 have hD:VE base e size lo v n xs f l v' w':=⟨A,c,⟨h2,h5.imp id fun e=>⟨_,e,hlo⟩⟩,hnb.grown h3 hap,hap'⟩
 rcases hown.2 with ⟨rfl,rfl⟩|⟨g,cap,cur,rfl,hbg,hg,hnc,hcm,hcs,htk⟩
 ·exact⟨v',w',hr,hD,vZ ⟨h3.os,h3.tape,h3.output,h3.size,fun k hk=>h3.block k hk (by simp[Value.ownBlock])⟩⟩
 ·by_cases hroom:n+1≤cap
  ·obtain⟨w2,hr2,g2,g3⟩:=run_append_fits (P:=P) W base t ty e i size ht hi hsize g n cap xs hown a 1 1 _ hl' hnews h1 hroom
   refine⟨_,w2,hr2,⟨A,c,⟨g2,.inl rfl⟩,hnb.grown g3 hap,hap⟩,g3,fun _=>KY g2 hown.1,fun u hu=>?_⟩
   obtain⟨A0,c0,hu,k2,k4⟩:=hu
   have k2':=k2.grown g3 (zV.of_from k2.2.1 hvl)
   rcases hu.1.2 with h0|⟨g',cap',cur',rfl,hbg',hg',hnc',hcm',hcs',htk'⟩
   ·exact⟨A0,c0,⟨⟨hu.1.1,.inl h0⟩,hu.2⟩,k2',k4⟩
   ·by_cases hgg:g'=g
    ·subst hgg
     rw[hg] at hg'
     simp only[Option.some.injEq,Obj.cells.injEq] at hg'
     obtain⟨rfl,_⟩:=hg'
     obtain rfl:cap'=cap:=by
      have:cap'*size=cap*size:=by rw[←hcs',←hcs]
      exact Nat.eq_of_mul_eq_mul_right hsz this
     exact⟨A,c,⟨g2,.inl rfl⟩,hnb.grown g3 hap,hap⟩
    ·exact⟨A0,c0,⟨⟨hu.1.1,.inr ⟨g',cap',cur',rfl,hbg',(g3.block g' (zG.1 hg').1 (by simpa using hgg)).trans hg',hnc',hcm',hcs',htk'⟩⟩,hu.2⟩,k2',k4⟩
  ·have holds:∀ j u,xs[j]?=some u→W.cell? ((⟨g,0,none⟩:Addr).add j)=some u:=hown.cells (g:=g) rfl
   subst hsize
   subst hby
   have hr':=run_append_grow (P:=P) W t ty e i z ht hi hz ⟨g,0,none⟩ n cap xs hown.1 holds a 1 1 _ hl' hnews (by omega) (by unfold maxLen at hm;omega) (growslice_fits (by omega) hb)
   rw[hr] at hr'
   cases hr'
   exact⟨_,_,hr,hD,vZ ((Ext.drew W).trans (Ext.alloc _ _))⟩
def outX (base:Nat) (e:TypeId) (size lo:Nat) (v:Value) (n:Nat) (xs:List Value) (f:Value→List Value) (l:List UInt8):qT:=⟨Option Addr×Nat,fun p=>.slice p.1 (n+1) p.2,fun p W=>VE base e size lo v n xs f l (.slice p.1 (n+1) p.2) W⟩
theorem zQ (A:Option Addr) (c:Nat):(outX base e size lo v n xs f l).f (A,c)=.slice A (n+1) c:=rfl
theorem VO:∀ p,qF (XX base e size lo v n xs f l) ((outX base e size lo v n xs f l).φ p):=fun p _ _ he h=>he.2.2 _ h
def Jz (lo:Nat) (ty:TypeId) (f:Value→List Value) (l:List UInt8):qT:=⟨Nat,fun b=>.slice (some ⟨b,0,none⟩) 1 1,fun b W=>lo≤b∧∃ A c,W.heap[b]?=some (.cells (f (.slice A l.length c)).toArray ty (0,0))∧ZP lo (.slice A l.length c) l W⟩
theorem Ql (lo:Nat) (ty:TypeId) (b:Nat):(Jz lo ty f l).f b=.slice (some ⟨b,0,none⟩) 1 1:=rfl
theorem JX {lo':Nat} {ty:TypeId} (hlo:∀ g,v.ownBlock=some g→g<lo'):∀ p,qF (XX base e size lo v n xs f l) ((Jz lo' ty f l).φ p):=fun p _ _ he ⟨h1,A,c,h2,h3⟩ =>
 ⟨h1,A,c,ZT he (fun x=>by have:=hlo p x;omega) h2,h3.grown he.1 (zV.of_from h3.2.1 hlo)⟩
def VI (lo n:Nat) (l:List UInt8):qT:=⟨Option Addr×Nat,fun p=>.slice p.1 n p.2,fun p W=>ZP lo (.slice p.1 n p.2) l W⟩
theorem QG (lo n:Nat) (l:List UInt8) (A:Option Addr) (c:Nat):(VI lo n l).f (A,c)=.slice A n c:=rfl
theorem Uz (lo n:Nat) (l:List UInt8):∀ p,qF qu ((VI lo n l).φ p):=fun p W W' he h=>by
 have he:Ext W W':=he
 exact ZP.ext h he
theorem vJ {lo' n':Nat} {l':List UInt8} (hlo:∀ g,v.ownBlock=some g→g<lo'):∀ p,qF (XX base e size lo v n xs f l) ((VI lo' n' l').φ p):=fun p _ _ he h =>
 ZP.grown h he.1 (zV.of_from h.2.1 hlo)
end
def Js {α:Type} (base lo:Nat) (e:TypeId) (size:Nat) (g:α→Value→List Value) (by_:α→List UInt8) (w:World) (v:Value) (ps:List (α×Value)):Prop:=
 w.ownsRow base e size v ps.length (ps.flatMap fun p=>g p.1 p.2)∧∀ p∈ps,((∃ A c,p.2=.slice A (by_ p.1).length c)∧QD lo p.2)∧Bys w w.heap.size p.2 (by_ p.1)∧zV v p.2
section
variable {α:Type} {base lo:Nat} {e:TypeId} {size:Nat} {g:α→Value→List Value} {by_:α→List UInt8}
theorem Js.nil (w:World):Js base lo e size g by_ w (.slice none 0 0) []:=⟨World.ownsRow_nil _ _ _ _,fun _ h=>by cases h⟩
theorem Js.ext {w w':World} {v:Value} {ps:List (α×Value)} (h:Js base lo e size g by_ w v ps) (hx:Ext w w'):Js base lo e size g by_ w' v ps:=
 ⟨QK h.1 hx,fun p hp=>⟨(h.2 p hp).1,((h.2 p hp).2.1.below hx).more hx.size,(h.2 p hp).2.2⟩⟩
theorem Js.setCell {w:World} {v:Value} {ps:List (α×Value)} (h:Js base lo e size g by_ w v ps) {p:Addr} (hp:p.block<base) (hl:p.block<lo) (u:Value):Js base lo e size g by_ (w.setCell p u) v ps:=
 ⟨QR h.1 hp u,fun q hq=>⟨(h.2 q hq).1,by simpa using (h.2 q hq).2.1.setCell (h.2 q hq).1.2 hl u,(h.2 q hq).2.2⟩⟩
theorem Js.push {lo2:Nat} {w W:World} {v v':Value} {ps:List (α×Value)} (h:Js base lo e size g by_ w v ps) (x:α) (hll:lo≤lo2) (hl:lo2=w.heap.size)
  (hD:VE base e size lo2 v ps.length (ps.flatMap fun p=>g p.1 p.2) (g x) (by_ x) v' W) (hg:w.grownBy W v.ownBlock):∃ u,Js base lo e size g by_ W v' (ps++[(x,u)]):=by
 subst hl
 obtain⟨A,c,hD,⟨hB,hF,-⟩,hA⟩:=hD
 refine⟨.slice A (by_ x).length c,by rw[List.length_append,List.flatMap_append];simpa using hD.1,?_⟩
 intro p hp
 rcases List.mem_append.1 hp with hp|hp
 ·obtain⟨h1,h2,h3⟩:=h.2 p hp
  refine⟨h1,h2.grown hg h3,fun a n c e hn=>?_⟩
  rcases hD.2 with h4|⟨k,h4,h5⟩
  ·rw[h4];exact h3 a n c e hn
  ·rw[h4]
   intro hx
   simp only[Option.some.injEq] at hx
   obtain⟨A',c',e',_,_,hr⟩:=h2
   rw[e] at e'
   simp only[Value.slice.injEq] at e'
   obtain⟨e1,e2,_⟩:=e'
   obtain⟨b,off,e3,hbb,_⟩:=hr.2 (by omega)
   rw[←e1] at e3
   simp only[Option.some.injEq] at e3
   rw[e3] at hx
   simp at hx
   omega
 ·obtain rfl:p=(x,.slice A (by_ x).length c):=by simpa using hp
  exact⟨⟨⟨_,_,rfl⟩,hF.mono hll⟩,hB,hA⟩
end
theorem Rd.some_ {w w':World} {B size n:Nat} {A:Option Addr} {xs:List Value} (h:Rd w B size A n xs) (hk:∀ p v,w.cell? p=some v→w'.cell? p=some v):Rd w' B size A n xs:=
 ⟨h.1,fun hn=>by
  obtain⟨b,off,e,hb,hc⟩:=h.2 hn
  exact⟨b,off,e,hb,fun j u hu=>hk _ _ (hc j u hu)⟩⟩
theorem Bys.some_ {w w':World} {B:Nat} {v:Value} {l:List UInt8} (h:Bys w B v l) (hk:∀ p v,w.cell? p=some v→w'.cell? p=some v):Bys w' B v l:=by
 obtain⟨A,c,e,hc,hm,hr⟩:=h
 exact⟨A,c,e,hc,hm,hr.some_ hk⟩
theorem qH.some_ {w w':World} {B:Nat} {v1 v2 v3 v4:Value} {S:Sto} (h:qH w B v1 v2 v3 v4 S) (hk:∀ p v,w.cell? p=some v→w'.cell? p=some v):qH w' B v1 v2 v3 v4 S:=by
 obtain⟨⟨vs,A,c,e,h1,h2,h3,h4⟩,⟨ps,e',⟨A',c',e1,e2,e3,hr⟩,hp⟩,h5,h6⟩:=h
 exact⟨⟨vs,A,c,e,h1,h2,h3.some_ hk,fun i u l hu hl=>(h4 i u l hu hl).some_ hk⟩,⟨ps,e',⟨A',c',e1,e2,e3,hr.some_ hk⟩,fun p h=>⟨(hp p h).1,(hp p h).2.some_ hk⟩⟩,h5.some_ hk,h6.some_ hk⟩
def mixW (lo N:Nat) (W C:World):World:={ C with heap:=Array.ofFn (n:=max N C.heap.size) fun k=>if lo≤k.1∧k.1<N then W.heap[k.1]?.getD (.deferred none) else C.heap[k.1]?.getD (.deferred none) }
theorem Yq (lo N:Nat) (W C:World) (q:Addr):(mixW lo N W C).cell? q=if lo≤q.block∧q.block<N then W.cell? q else C.cell? q:=by
 unfold World.cell?
 have e:(mixW lo N W C).heap[q.block]?=if q.block<max N C.heap.size then some (if lo≤q.block∧q.block<N then W.heap[q.block]?.getD (.deferred none) else C.heap[q.block]?.getD (.deferred none)) else none:=by
  simp only[mixW,Array.getElem?_ofFn]
  split <;> rfl
 rw[e]
 by_cases h:lo≤q.block∧q.block<N
 ·rw[if_pos (by omega),if_pos h]
  simp only[if_pos h]
  cases W.heap[q.block]? <;> rfl
 ·simp only[if_neg h]
  split
  ·rename_i h1
   split at h1
   ·cases hq:C.heap[q.block]? with
    |none=>rw[hq] at h1;cases h1
    |some o=>rw[hq] at h1;simp only[Option.getD_some,Option.some.injEq] at h1;subst h1;rfl
   ·cases h1
  ·rename_i h1
   split at h1
   ·cases hq:C.heap[q.block]? with
    |none=>rfl
    |some o =>
     cases o with
     |cells c e f=>exact absurd (by rw[hq];rfl) (h1 c e f)
     |_=>rfl
   ·rename_i h2
    rw[Array.getElem?_eq_none (by omega)]
theorem UT {Φ:World→Prop} (hm:∀ A C:World,(∀ q v,A.cell? q=some v→C.cell? q=some v)→Φ A→Φ C) {lo N:Nat} {W:World} (h:∀ W2:World,(∀ q:Addr,lo≤q.block→q.block<N→W2.cell? q=W.cell? q)→Φ W2) :
  ∀ C:World,(∀ q v,lo≤q.block→q.block<N→W.cell? q=some v→C.cell? q=some v)→Φ C:=fun C h3 =>
 hm (mixW lo N W C) C (fun q v hq=>by
  rw[Yq] at hq
  split at hq
  ·rename_i h1;exact h3 q v h1.1 h1.2 hq
  ·exact hq) (h _ fun q h1 h2=>by rw[Yq,if_pos ⟨h1,h2⟩])
structure Qv (W W':World):Prop where
 size:W.heap.size≤W'.heap.size
 same:∀ (k:Nat) (o:Obj),W.heap[k]?=some o→o.isCells=true→W'.heap[k]?=some o
theorem Qv.refl (W:World):Qv W W:=⟨Nat.le_refl _,fun _ _ h _=>h⟩
theorem Qv.row {W W':World} (h:Qv W W') {b:Nat} {cs:Array Value} {ty:TypeId} {fz:Nat×Nat} (hr:W.heap[b]?=some (.cells cs ty fz)):W'.heap[b]?=some (.cells cs ty fz):=h.same b _ hr rfl
theorem Qv.cell {W W':World} (h:Qv W W') {q:Addr} {v:Value} (hq:W.cell? q=some v):W'.cell? q=some v:=by
 unfold World.cell? at *
 cases hb:W.heap[q.block]? with
 |none=>rw[hb] at hq;cases hq
 |some o =>
  cases o with
  |cells c e f =>
   rw[hb] at hq
   rw[h.row hb]
   exact hq
  |_=>rw[hb] at hq;cases hq
theorem Qv.grown {Wb W W':World} {row:Option Nat} (h:Qv Wb W) (hg:W.grownBy W' row) (hr:∀ r,row=some r→∃ o:Obj,W.heap[r]?=some o∧o.isCells=false):Qv Wb W':=⟨Nat.le_trans h.size hg.size,fun k o hk ho=>by
 have h1:=h.same k o hk ho
 refine(hg.block k (zG.1 h1).1 fun e=>?_).trans h1
 obtain⟨o',h2,h3⟩:=hr k e.symm
 rw[h1] at h2
 cases h2
 rw[ho] at h3
 cases h3⟩
theorem Qv.put {Wb W:World} (h:Qv Wb W) {D:Nat} {o:Obj} (o':Obj) (hD:W.heap[D]?=some o) (ho:o.isCells=false):Qv Wb (W.putObj D o'):=
 ⟨by have:=h.size;simpa [World.putObj] using this,fun k x hk hx=>by
  have h1:=h.same k x hk hx
  have hne:k≠D:=fun e=>by
   subst e
   rw[hD] at h1
   cases h1
   rw[ho] at hx
   cases hx
  exact(World.putObj_heap_other hne).trans h1⟩
def PosOn (lo:Nat) (W W':World):Prop:=∀ (q:Addr) (v:Value),lo≤q.block→q.block<W.heap.size→W.cell? q=some v→W'.cell? q=some v
def UK (lo:Nat) (W W':World):Prop:=∀ (q:Addr) (v:Value),lo≤q.block→q.block<W.heap.size→(thaw W).cell? q=some v→W'.cell? q=some v
theorem Qv.thaw {W W':World} (h:Qv W W') {q:Addr} {v:Value} (hq:(thaw W).cell? q=some v):(Go.Proofs.YtckhnchnbeoogaaGreat.thaw W').cell? q=some v:=by
 unfold World.cell? at *
 rw[jG] at hq ⊢
 cases hb:W.heap[q.block]? with
 |none=>rw[hb] at hq;cases hq
 |some o =>
  rw[hb] at hq
  cases o with
  |cells c e f =>
   rw[h.row hb]
   exact hq
  |_=>simp only[Option.map_some,UX] at hq;cases hq
theorem Ext.thaw {w w':World} (h:Ext w w'):Ext (thaw w) (Go.Proofs.YtckhnchnbeoogaaGreat.thaw w'):=⟨h.os,h.tape,h.output,by rw[vS,vS];exact h.size,fun k hk=>by
 rw[vS] at hk
 rw[jG,jG,h.block k hk]⟩
theorem Bys.of_ownT {w:World} {base n:Nat} {e:TypeId} {v:Value} {l:List UInt8} (h:w.ownsRow base e 1 v n (l.map bv)):Bys (thaw w) w.heap.size v l:=(ZP.of_own h).thaw
def Tq (lo:Nat) (S:Sto) (u:Value) (W:World):Prop:=∃ A1 c1 A2 c2 A3 c3 A4 c4,u=Qy A1 S.bs.length c1 A2 S.ws.length c2 A3 S.now.length c3 A4 S.last.length c4 ∧
 ∀ C:World,UK lo W C→qH C W.heap.size (.slice A1 S.bs.length c1) (.slice A2 S.ws.length c2) (.slice A3 S.now.length c3) (.slice A4 S.last.length c4) S
theorem Tq.keep {lo lo':Nat} {S:Sto} {u:Value} {W W':World} (h:Tq lo S u W) (hl:lo'≤lo) (hs:W.heap.size≤W'.heap.size) (hp:∀ q v,lo≤q.block→q.block<W.heap.size→(thaw W).cell? q=some v→(thaw W').cell? q=some v):Tq lo' S u W':=by
 obtain⟨A1,c1,A2,c2,A3,c3,A4,c4,e,hc⟩:=h
 exact⟨A1,c1,A2,c2,A3,c3,A4,c4,e,fun C hC=>(hc C fun q v h1 h2 h3=>hC q v (by omega) (by omega) (hp q v h1 h2 h3)).more hs⟩
theorem qbV {lo:Nat} {W W':World} (h:∀ k,lo≤k→k<W.heap.size→W'.heap[k]?=W.heap[k]?):UK lo W W':=fun q v h1 h2 h3=>(World.cell?_of_block (h q.block h1 h2)).trans (Qd h3).1
theorem ZO {w0 w:World} {B b:Nat} (h:Below B w0 w) (hb:B≤b) (x0 x1 x2 x3:Value):Below B w0 ((((w.setCell ⟨b,0,none⟩ x0).setCell ⟨b,1,none⟩ x1).setCell ⟨b,2,none⟩ x2).setCell ⟨b,3,none⟩ x3):=
 Below.setCell (Below.setCell (Below.setCell (Below.setCell h (p:=⟨b,0,none⟩) hb _) (p:=⟨b,1,none⟩) hb _) (p:=⟨b,2,none⟩) hb _) (p:=⟨b,3,none⟩) hb _
theorem TG {w:World} {b:Nat} {ty:TypeId} {y0 y1 y2 y3:Value} (h:w.heap[b]?=some (.cells #[y0,y1,y2,y3] ty (0,0))) (x0 x1 x2 x3:Value) :
  ((((w.setCell ⟨b,0,none⟩ x0).setCell ⟨b,1,none⟩ x1).setCell ⟨b,2,none⟩ x2).setCell ⟨b,3,none⟩ x3).heap[b]?=some (.cells #[x0,x1,x2,x3] ty (0,0)):=qh (qh (qh (qh h 0 x0) 1 x1) 2 x2) 3 x3
theorem jM {w:World} {b:Nat} {ty:TypeId} {y0 y1 y2 y3 y4 y5 y6 y7:Value} (h:w.heap[b]?=some (.cells #[y0,y1,y2,y3,y4,y5,y6,y7] ty (0,0))) (x0 x1 x2 x3 x4 x5 x6 x7:Value) :
  ((((((((w.setCell ⟨b,0,none⟩ x0).setCell ⟨b,1,none⟩ x1).setCell ⟨b,2,none⟩ x2).setCell ⟨b,3,none⟩ x3).setCell ⟨b,4,none⟩ x4).setCell ⟨b,5,none⟩ x5).setCell ⟨b,6,none⟩ x6).setCell ⟨b,7,none⟩ x7).heap[b]?=some (.cells #[x0,x1,x2,x3,x4,x5,x6,x7] ty (0,0)):=by
 have h1:=qh (qh (qh (qh h 0 x0) 1 x1) 2 x2) 3 x3
 exact qh (qh (qh (qh (cs:=#[x0,x1,x2,x3,y4,y5,y6,y7]) h1 4 x4) 5 x5) 6 x6) 7 x7
theorem zJ {w0 w:World} {B b:Nat} (h:Below B w0 w) (hb:B≤b) (x0 x1 x2 x3 x4 x5 x6 x7:Value):Below B w0 ((((((((w.setCell ⟨b,0,none⟩ x0).setCell ⟨b,1,none⟩ x1).setCell ⟨b,2,none⟩ x2).setCell ⟨b,3,none⟩ x3).setCell ⟨b,4,none⟩ x4).setCell ⟨b,5,none⟩ x5).setCell ⟨b,6,none⟩ x6).setCell ⟨b,7,none⟩ x7):=
 Below.setCell (Below.setCell (Below.setCell (Below.setCell (ZO h hb x0 x1 x2 x3) (p:=⟨b,4,none⟩) hb _) (p:=⟨b,5,none⟩) hb _) (p:=⟨b,6,none⟩) hb _) (p:=⟨b,7,none⟩) hb _
theorem Jl {w:World} {b k:Nat} (hk:k≠b) (x0 x1 x2 x3 x4 x5 x6 x7:Value):((((((((w.setCell ⟨b,0,none⟩ x0).setCell ⟨b,1,none⟩ x1).setCell ⟨b,2,none⟩ x2).setCell ⟨b,3,none⟩ x3).setCell ⟨b,4,none⟩ x4).setCell ⟨b,5,none⟩ x5).setCell ⟨b,6,none⟩ x6).setCell ⟨b,7,none⟩ x7).heap[k]?=w.heap[k]?:=by
 have hs:=fun (A:World) (j:Nat) (v:Value)=>Below.heap_setCell A ⟨b,j,none⟩ v k hk
 rw[hs,hs,hs,hs,hs,hs,hs,hs]
theorem qaC (w:World) (g:Nat) (cs:Array Value):w.grownBy (w.setRow g cs) (some g):=
 ⟨rfl,rfl,rfl,by simp,fun k _ hk=>setRow_other w g k _ (fun e=>hk (by simp[e]))⟩
theorem Yj {P:Program} (W:World) {B:Nat} (dT sT ty elem:TypeId) (g o dLen dCap:Nat) (A:Option Addr) (c:Nat) (l:List UInt8) (cur:Array Value) (t:TypeId)
  (hu:P.underlying dT=some (.slice elem)) (hs:(P.info? elem).map (·.size)=some 1) (hg:W.heap[g]?=some (.cells cur t (0,0))) (h:Bys W B (.slice A l.length c) l) (hd:l.length≤dLen) (hfit:o+l.length≤cur.size) :
  (Builtin.copy_ #[dT,sT] ty #[.slice (some ⟨g,o,none⟩) dLen dCap,.slice A l.length c]).run P W=.ok (.int .i64 (l.length:Int)) (W.setRow g (cur.toList.take o++l.map bv++cur.toList.drop (o+l.length)).toArray):=by
 obtain⟨A',c',e,hc,hm,hr⟩:=h
 simp only[Value.slice.injEq,true_and] at e
 obtain⟨rfl,rfl⟩:=e
 rcases A with _|ad
 ·have h0:l.length=0:=by
   rcases Nat.eq_zero_or_pos l.length with h0|h0
   ·exact h0
   ·obtain⟨b,off,h,_⟩:=hr.2 h0
    cases h
  obtain rfl:l=[]:=List.eq_nil_of_length_eq_zero h0
  cases hq:P.info? elem with
  |none=>simp[hq] at hs
  |some i =>
   simp[Builtin.copy_,run_underlying hu,Builtin.lenOf,Builtin.firstCells,sizeOf,typeInfo,hq,storeCells]
   rw[setRow_self W g cur t (0,0) hg]
   exact⟨rfl,rfl⟩
 ·have hsrc:∀ j v,(l.map bv)[j]?=some v→W.cell? (ad.add j)=some v:=by
   intro j v hv
   rcases Nat.eq_zero_or_pos l.length with h0|h0
   ·obtain rfl:l=[]:=List.eq_nil_of_length_eq_zero h0
    simp at hv
   ·obtain⟨b,off,h,_⟩:=hr.2 h0
    cases h
    exact hr.adds h0 j v hv
  have:=run_copy_row P W dT sT ty elem g o dLen dCap ad l.length c cur t (l.map bv) hu hs hg (by simp[Nat.min_eq_left hd]) hsrc (by simpa using hfit) (zT l)
  rw[List.length_map] at this
  exact this
def Zl (cur:Array Value) (o:Nat) (l:List UInt8):Array Value:=(cur.toList.take o++l.map bv++cur.toList.drop (o+l.length)).toArray
theorem Xz {cur:Array Value} {o:Nat} {l:List UInt8} (h:o+l.length≤cur.size):(Zl cur o l).size=cur.size:=by
 simp[Zl]
 omega
theorem qcY {cur:Array Value} {o:Nat} {l:List UInt8} {j:Nat} (h:o+l.length≤cur.size) (hj:j<o∨o+l.length≤j):(Zl cur o l)[j]?=cur[j]?:=by
 unfold Zl
 rw[List.getElem?_toArray]
 have hcl:cur.toList.length=cur.size:=by simp
 rcases hj with hj|hj
 ·rw[List.append_assoc,List.getElem?_append_left (by rw[List.length_take];omega),List.getElem?_take,if_pos hj]
  simp
 ·rw[List.getElem?_append_right (by rw[List.length_append,List.length_take,List.length_map];omega),List.getElem?_drop,List.length_append,List.length_take,List.length_map,hcl]
  rw[show o+l.length+(j-(min o cur.size+l.length))=j by omega]
  simp
theorem qcG {cur:Array Value} {o:Nat} {l:List UInt8} {j:Nat} {u:Value} (h:o+l.length≤cur.size) (hu:(l.map bv)[j]?=some u):(Zl cur o l)[o+j]?=some u:=by
 have hj:j<l.length:=by
  have:=(List.getElem?_eq_some_iff.1 hu).1
  simpa using this
 have hcl:cur.toList.length=cur.size:=by simp
 unfold Zl
 rw[List.getElem?_toArray,List.append_assoc,List.getElem?_append_right (by rw[List.length_take];omega),List.length_take,hcl,show o+j-min o cur.size=j by omega,List.getElem?_append_left (by rw[List.length_map];exact hj)]
 exact hu
structure US (hb g o n:Nat) (cur:Array Value) (w:World):Prop where
 box:w.heap[hb]?=some (.cells #[.slice (some ⟨g,o,none⟩) n n] 215 (0,0))
 row:w.heap[g]?=some (.cells cur 5 (0,0))
 ne:hb≠g
 fit:o+n≤cur.size
 few:n<1000000000000000
def CloneQ (hb g o n:Nat) (cur:Array Value) (l:List UInt8) (w:World) (e:Ending) (w':World):Prop:=∃ o',e=.returned (.slice (some ⟨g,o,none⟩) l.length l.length)∧(0<n-l.length→o'=o+l.length)∧(n-l.length=0→o'=o)∧US hb g o' (n-l.length) (Zl cur o l) w' ∧
 (w'.heap.size=w.heap.size∧w'.os=w.os∧w'.tape=w.tape∧w'.output=w.output∧∀ b,b≠hb→b≠g→w'.heap[b]?=w.heap[b]?)
set_option maxHeartbeats 2000000 in
set_option maxRecDepth 100000 in
theorem TU (hb g o n:Nat) (cur:Array Value) (A:Option Addr) (c:Nat) (l:List UInt8) (hl:l.length≤n) (w:World) (H:US hb g o n cur w) (h:Bys w w.heap.size (.slice A l.length c) l) :
  Calls Tryz.prog 130 #[.pointer (some ⟨hb,0,none⟩),.slice A l.length c] w (CloneQ hb g o n cur l w):=by
 have hsz:(Tryz.prog.info? 5).map (·.size)=some 1:=by kernel_rfl
 obtain⟨r1,r2,hne,hfit,hfew⟩:=H
 have hcp:=Yj (P:=Tryz.prog) w 215 26 3 5 g o n n A c l _ _ Tryz.underlying215 hsz r2 h hl (by omega)
 have e1:(List.take o cur.toList++List.map bv l++List.drop (o+l.length) cur.toList).toArray=Zl cur o l:=rfl
 rw[e1] at hcp
 have r3:(w.setRow g (Zl cur o l)).heap[hb]?=some (.cells #[.slice (some ⟨g,o,none⟩) n n] 215 (0,0)):=(setRow_other w g hb _ hne).trans r1
 have r4:=setRow_heap w g _ (Zl cur o l) _ _ r2
 have h3:∀ b,b≠g→(w.setRow g (Zl cur o l)).heap[b]?=w.heap[b]?:=fun b hb=>setRow_other w g b _ hb
 have s3:(w.setRow g (Zl cur o l)).heap.size=w.heap.size:=by simp
 have o3:(w.setRow g (Zl cur o l)).os=w.os∧(w.setRow g (Zl cur o l)).tape=w.tape∧(w.setRow g (Zl cur o l)).output=w.output:=⟨rfl,rfl,rfl⟩
 generalize w.setRow g (Zl cur o l)=w3 at *
 have k1:=qa r1
 have k3:=qa r3
 have f3:=qd r3
 have f1:=qd r1
 clear h r1 r2 hsz e1
 replace h3:=zH h3
 replace r4:=zH r4
 replace o3:=zH o3
 have hll:=zH hl
 have hc1:(l.length:Int)≤(n:Int):=by omega
 have fin:Hid (∀ o' n',n'=n-l.length→(0<n'→o'=o+l.length)→(n'=0→o'=o)→CloneQ hb g o n cur l w (.returned (.slice (some ⟨g,o,none⟩) l.length l.length)) (w3.setCell ⟨hb,0,none⟩ (.slice (some ⟨g,o',none⟩) n' n'))):=zH fun o' n' e h1 h2=>by
  subst e
  refine⟨o',rfl,h1,h2,⟨qh r3 0 _,(Below.heap_setCell _ _ _ _ (fun e=>hne e.symm)).trans r4.out,hne,?_,by omega⟩,by simpa using s3,o3.out.1,o3.out.2.1,o3.out.2.2,fun b hb hbg=>(Below.heap_setCell _ _ _ _ hb).trans (h3.out b hbg)⟩
  rw[Xz (by omega)]
  rcases Nat.eq_zero_or_pos (n-l.length) with h0|h0
  ·have:=h2 h0;omega
  ·have:=h1 h0;omega
 clear r3 r4 h3 o3 hfit
 go_enter Tryz.func130,Tryz.ntmps130
 go_wp2_with fail
 ·subst h
  go_ret
  exact fin.out o 0 (by omega) (fun h=>by omega) (fun _=>rfl)
 ·go_ret
  exact fin.out (o+l.length) (n-l.length) rfl (fun _=>rfl) (fun h=>by omega)
end Go.Proofs.YtckhnchnbeoogaaGreat
