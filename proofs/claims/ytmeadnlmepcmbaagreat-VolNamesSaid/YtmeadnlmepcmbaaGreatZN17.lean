/- Lemmas of the proof. -/
import Derived.Deep.LoopGhost
import Derived.Test.YtmeadnlmepcmbaaGreatZN16
set_option linter.all false
set_option maxHeartbeats 8000000
open Go.Proofs.Tryz
namespace Go.Proofs.YtmeadnlmepcmbaaGreat
open Go.RowKit
def Jo:Qe:=⟨Unit,fun _=>undef,fun _ _=>True⟩
theorem Qs (u:Unit):Jo.f u=undef:=rfl
theorem Jg {R:Rel}:∀ p,qJ R (Jo.φ p):=fun _ _ _ _ _=>trivial
theorem Vc {P:Program} {o:Oper} {a:Act} {W W':World} (hr:(execOp a.eval o).run P W=.ok .skip W') (hx:Ext W W'):QA qm P o a W Jo:=vd hr ⟨(),rfl,trivial,hx⟩
theorem same1 {w:World} {b:Nat} {x0:Value} {ty:TypeId} (h:w.heap[b]?=some (.cells #[x0] ty (0,0))):Ext w (w.setCell ⟨b,0,none⟩ x0):=Qx h rfl
theorem same4 {w:World} {b:Nat} {x0 x1 x2 x3:Value} {ty:TypeId} (h:w.heap[b]?=some (.cells #[x0,x1,x2,x3] ty (0,0))):Ext w ((((w.setCell ⟨b,0,none⟩ x0).setCell ⟨b,1,none⟩ x1).setCell ⟨b,2,none⟩ x2).setCell ⟨b,3,none⟩ x3):=by have e0:=Qx (j:=0) (v:=x0) h rfl;have h0:=qb h e0;have e1:=Qx (j:=1) (v:=x1) h0 rfl;have h1:=qb h0 e1;have e2:=Qx (j:=2) (v:=x2) h1 rfl;have h2:=qb h1 e2;exact((e0.trans e1).trans e2).trans (Qx (j:=3) (v:=x3) h2 rfl)
def vL (B:Nat) (ty:TypeId) (Φ:Array Value->World->Prop) (hΦ:∀ cs W W',W.grownBy W' (some B)->Φ cs W->Φ cs W'):Rel where
 rel W W':=W.grownBy W' (some B)/\(B<W.heap.size->W'.heap[B]?=W.heap[B]?\/∃ cs,W'.heap[B]?=some (.cells cs ty (0,0))/\Φ cs W')
 refl' W:=⟨World.grownBy.refl _ _,fun _=>.inl rfl⟩
 trans' h k:=⟨h.1.trans k.1,fun hb=>by
  rcases k.2 (Nat.lt_of_lt_of_le hb h.1.size) with e|e
  ·rw[e];rcases h.2 hb with e1|⟨cs,e1,e2⟩
   ·exact .inl e1
   ·exact .inr ⟨cs,e1,hΦ _ _ _ k.1 e2⟩
  ·exact .inr e⟩
 drew' W:=⟨⟨rfl,rfl,rfl,zM _,fun _ _ _=>rfl⟩,fun _=>.inl rfl⟩
section
variable {B:Nat} {ty:TypeId} {Φ:Array Value->World->Prop} {hΦ:∀ cs W W',W.grownBy W' (some B)->Φ cs W->Φ cs W'}
theorem qit {W W':World} (h:Ext W W'):(vL B ty Φ hΦ).r W W':=⟨Zk h _,fun hb=>.inl (h.block B hb)⟩
theorem km {W W':World} (h:(vL B ty Φ hΦ).r W W') {b:Nat} {o:Obj} (hp:b≠B) (hc:W.heap[b]?=some o):W'.heap[b]?=some o:=
 (h.1.block b (zG.1 hc).1 (fun x=>hp (by simpa using x))).trans hc
theorem qci {W W':World} (h:(vL B ty Φ hΦ).r W W') {o:Obj} (hc:W.heap[B]?=some o):W'.heap[B]?=some o\/∃ cs,W'.heap[B]?=some (.cells cs ty (0,0))/\Φ cs W':=by
 have:=h.2 (zG.1 hc).1
 rwa [hc] at this
theorem UO {W W':World} {B0:Nat} (h:(vL B ty Φ hΦ).r W W') (h1:B0<=B) (h2:B0<=W.heap.size):Below B0 W W':=(Below.refl _ _).grown h.1 h2 (fun g hg=>by simp at hg;omega)
theorem UP {W W':World} (h:(vL B ty Φ hΦ).r W W') {k:Nat} (hk:k<W.heap.size) (hp:k≠B):W'.heap[k]?=W.heap[k]?:=h.1.block k hk fun x=>hp (by simpa using x)
theorem qcW {lo:Nat} {S:Sto} (hB:B<lo):∀ p,qJ (vL B ty Φ hΦ) ((outTw lo S).φ p):=fun p W W' he h =>
 zl.keep h (zM _) he.1.size fun b h1 hb=>UP he hb zO
def XF (B:Nat) (ty:TypeId) (Φ:Array Value->World->Prop):Qe:=⟨Unit,fun _=>undef,fun _ W=>∃ cs,W.heap[B]?=some (.cells cs ty (0,0))/\Φ cs W⟩
theorem QE (u:Unit):(XF B ty Φ).f u=undef:=rfl
theorem qbS:∀ p,qJ (vL B ty Φ hΦ) ((XF B ty Φ).φ p):=fun _ W W' he ⟨cs,h1,h2⟩=>by
 rcases qci he h1 with e|e
 ·exact⟨cs,e,hΦ _ _ _ he.1 h2⟩
 ·exact e
theorem qge {P:Program} {o:Oper} {a:Act} {W w':World} {cs:Array Value} (hr:(execOp a.eval o).run P W=.ok .skip w') (hg:W.grownBy w' (some B)) (hw:w'.heap[B]?=some (.cells cs ty (0,0))) (hp:Φ cs W):QA (vL B ty Φ hΦ) P o a W (XF B ty Φ):=
 vd hr ⟨(),rfl,⟨cs,hw,hΦ _ _ _ hg hp⟩,hg,fun _=>.inr ⟨cs,hw,hΦ _ _ _ hg hp⟩⟩
end
def jG (lo:Nat) (S:Sto) (cs:Array Value) (W:World):Prop:=∃ x0 x1 x2 x3,cs=#[x0,x1,x2,x3]/\zl lo S (.agg cs) W
theorem jG.keep {lo:Nat} {S:Sto} {B:Nat} (hB:B<lo):∀ cs W W',W.grownBy W' (some B)->jG lo S cs W->jG lo S cs W':=fun cs W W' hg h=>by obtain⟨x0,x1,x2,x3,e,hT⟩:=h;exact⟨x0,x1,x2,x3,e,zl.keep hT (zM _) hg.size fun k h1 hk=>hg.block k hk fun e=>by simp at e;omega⟩
theorem qgf {P:Program} {o:Oper} {a:Act} {W:World} {lo B:Nat} {S:Sto} {ty:TypeId} {x0 x1 x2 x3:Value} (hB:B<lo) (h:∃ u0 u1 u2 u3,W.heap[B]?=some (.cells #[u0,u1,u2,u3] ty (0,0))) (hT:zl lo S (.agg #[x0,x1,x2,x3]) W) (hr:(execOp a.eval o).run P W=.ok .skip ((((W.setCell ⟨B,0,none⟩ x0).setCell ⟨B,1,none⟩ x1).setCell ⟨B,2,none⟩ x2).setCell ⟨B,3,none⟩ x3)):QA (vL B ty (jG lo S) (jG.keep hB)) P o a W (XF B ty (jG lo S)):=by
 obtain⟨u0,u1,u2,u3,h⟩:=h;exact qge hr (Qi.trans (Qi.trans (Qi.trans Qi))) (Vn h x0 x1 x2 x3) ⟨x0,x1,x2,x3,rfl,hT⟩
theorem twin_own {W W':World} {lo B:Nat} {S:Sto} {ty:TypeId} (hB:B<lo) {u0 u1 u2 u3:Value} (h:(vL B ty (jG lo S) (jG.keep hB)).r W W') (hc:W.heap[B]?=some (.cells #[u0,u1,u2,u3] ty (0,0))):∃ u0 u1 u2 u3,W'.heap[B]?=some (.cells #[u0,u1,u2,u3] ty (0,0)):=by
 rcases qci h hc with e|⟨cs,e,x0,x1,x2,x3,rfl,_⟩
 ·exact⟨_,_,_,_,e⟩
 ·exact⟨_,_,_,_,e⟩
end Go.Proofs.YtmeadnlmepcmbaaGreat
namespace Go.Proofs.YtmeadnlmepcmbaaGreat
open Go.RowKit Go.Shelf
attribute [local go_sem] Oper.semAt_some
theorem qcf {n b D:Nat} {v:Value} {R:Ending->World->Prop} {a:Act} {W:World} (h4:a.tmps[4]?.getD undef=.pointer (some ⟨b+1+1,0,none⟩)) (hd:a.defers=[{ target:=.collected D,args:=#[] }]) (hK:W.heap[D]?=some (.deferred (some []))) (hD:b+2<D) (hB:W.heap[b+2]?=some (.cells #[v] 26 (0,0))) (hR:∀ W',W'=W.putObj D (.deferred none)->R (.returned v) W'):bodyPostM Fence.wide n prog Tryz.f137 R .ret a W:=by
 have k4:=qa ((World.putObj_heap_other (o:=.deferred none) (show b+2≠D by omega)).trans hB);change LeavesInM Fence.wide n prog Tryz.f137 a.tmps R a.defers .returning W;rw[hd];refine⟨zA2,.inl ⟨_,_,rfl,run_takeDeferred hK,v,?_,hR _ rfl⟩⟩;simp[results,results137,go_sem,h4,k4]
set_option maxRecDepth 100000 in
theorem qky (A1 n1 c1 A2 n2 c2) (S:Sto) (hS:ql S=true) (m:Nat) (hm:m<256) (w:World) (hb:Bls w w.heap.size (.slice A1 n1 c1) S.bs) (hw:Wrs w w.heap.size (.slice A2 n2 c2) S.ws):Calls prog 137 #[Va A1 n1 c1 A2 n2 c2,.int .i64 (m:Int)] w (zF (fun u W=>Bys W W.heap.size u (Zu S m)) w):=by
 obtain⟨hl1,hl2,hl3,hl4⟩:=qX hS;have hbl:=QS hS;have hLS:Zu S m=match jp S.ws m with|some l=>l|none=>S.bs[m]:=by unfold Zu;rw[zL zO];rfl
 obtain⟨hn1,hc1,hm1,hA1⟩:=hb.at_;obtain⟨b1,o1,rfl,hb1⟩:=hA1 zO;obtain⟨A0,c0,hcb,wHQ⟩:=hb.get (bs:=S.bs) m zO;have wTD:n1=256:=by rw[hn1,hl1]
 generalize S.bs[m]=l0 at *;generalize Zu S m=l at *;generalize xBQ:S.ws=ws at *;obtain⟨ps,hps,⟨A2',c2',e2,hw1,hw2,hw3⟩,hw4⟩:=hw;rw[<-hps] at hLS e2 hw1 hw3 hl2;clear hn1 hS hl1 hl3 hl4 hA1 hbl xBQ hb;subst wTD;simp only[Value.slice.injEq] at e2;obtain⟨rfl,hw5,rfl⟩:=e2;rw[<-hw5] at hw1 hw3 hl2;replace hw5:=zH hw5;replace hLS:=zH hLS;have hpl:ps.length=n2:=by rw[hw5.out];simp
 obtain⟨us,hus⟩:∃ us:List W2,us=ps.map fun p=>((p.1.1,ku p.2):W2):=⟨_,rfl⟩
 have hul:us.length=n2:=by rw[hus,List.length_map,hpl]
 have hua:∀ j,(us[j]?.getD w2z).1=atN ws j:=fun j=>by unfold atN;rw[hus,<-hps,List.getElem?_map,List.getElem?_map];cases ps[j]? <;> rfl
 have hud:∀ j W,Ext w W->Bys W W.heap.size (sv (us[j]?.getD w2z).2) (Gg ws j):=fun j W hx=>by
  unfold Gg;rw[hus,<-hps,List.getElem?_map,List.getElem?_map];rcases hj:ps[j]? with _|p
  ·exact⟨none,0,rfl,zM _,zA6,zA2,fun hn=>absurd hn zA2⟩
  ·obtain⟨⟨A',c',e'⟩,hy⟩:=hw4 p (List.mem_of_getElem? hj);have:sv (ku p.2)=p.2:=by rw[e'];rfl
   simp only[Option.map_some,Option.getD_some];rw[this];exact(hy.below hx).more hx.size
 refine(callsIn_wide (n:=3)).1 ?_;refine callsIn_of_wp_marks func137 rfl trivial ?_ rfl;simp only[ntmps137,List.size_toArray,List.length_cons,List.length_nil,Nat.reduceAdd,Nat.reduceSub,Array.replicate_succ,Array.replicate_zero,List.push_toArray,List.append_toArray,List.nil_append,List.cons_append];refine wpIn_wide.2 ?_;go_wp2_with fail;generalize hOT:(World.alloc (World.alloc (World.alloc w _) _) _)=w2;have x2:Ext w w2:=by rw[<-hOT];exact((zN _ _).trans (zN _ _)).trans (zN _ _)
 have s2:w.heap.size+3<=w2.heap.size:=by rw[<-hOT];simp
 have ra2:w2.heap[w.heap.size]?=some (.cells #[.slice (some ⟨b1,o1,none⟩) 256 c1,.slice A2 n2 c2] 25 (0,0)):=by rw[<-hOT];exact(zK _ _ _ zA3).trans ((zK _ _ _ zA3).trans (zI _ _ _ rfl))
 have rb2:w2.heap[w.heap.size+1]?=some (.cells #[.int .i64 (m:Int)] 3 (0,0)):=by rw[<-hOT];exact(zK _ _ _ zA3).trans (zI _ _ _ zA2)
 have rc2:w2.heap[w.heap.size+2]?=some (.cells #[.slice none 0 0] 26 (0,0)):=by rw[<-hOT];exact zI _ _ _ zA2
 clear hOT;have ka2:=qa ra2;have kb2:=qa rb2;refine(Kl A2 n2 c2 w2).mono ?_;rintro e w3 ⟨rfl,rfl⟩;go_wp2_with fail;have x5:Ext w2 (w2.alloc (.cells #[.slice A2 n2 c2] 23)):=zN _ _;obtain⟨b2,hb2,hSW⟩:∃ b2,b2<w.heap.size/\SW (w2.alloc (.cells #[.slice A2 n2 c2] 23)) w2.heap.size b2 (.slice A2 n2 c2) us:=by
  have wIY:(w2.alloc (.cells #[.slice A2 n2 c2] 23)).cell? ⟨w2.heap.size,0,none⟩=some (.slice A2 n2 c2):=by rw[qa (zI _ _ _ rfl)];rfl
  by_cases hz:n2=0
  ·have:us=[]:=List.length_eq_zero_iff.1 zO;exact⟨b1,hb1,wIY,.inl ⟨this,A2,c2,by rw[hz]⟩⟩
  ·obtain⟨b2,o2,rfl,hlt,hc⟩:=hw3.2 zO;refine⟨b2,hlt,wIY,.inr ⟨o2,c2,by rw[hul],fun i hi=>?_⟩⟩;have hi':i<ps.length:=zO;obtain⟨g0,g1⟩:=VF ps i hi';have hx:=x2.trans x5;rw[hus];refine⟨?_,?_⟩
   ·rw[Ext.cell hx (hc _ _ g0),List.getElem?_map,zL hi'];rfl
   ·obtain⟨⟨A',c',e'⟩,_⟩:=hw4 ps[i] (List.getElem_mem hi');rw[Nat.add_assoc,Ext.cell hx (hc _ _ g1),List.getElem?_map,zL hi'];simp only[Option.map_some,Option.getD_some];rw[e'];rfl
 clear hus hw3;replace hua:=zH hua;replace hud:=zH hud;refine(wpIn_wide (n:=3)).1 ?_;refine wpIn_rangeFunc_ownH rfl zO (gf:=189) (lb:=#[.pointer (some ⟨w2.heap.size,0,none⟩)]) rfl trivial (enters_of func189 zQ rfl)
  (GM (3-1) zO w2.heap.size b2 _ _ (by rw[hul];omega) _ zA2 zA1 hSW) Qy.t (Qy.b zA2 zA1) (Below.refl _ _) (fun _=>rfl)
  (fun pre W'=>((W'.heap[w.heap.size]?=some (.cells #[.slice (some ⟨b1,o1,none⟩) 256 c1,.slice A2 n2 c2] 25 (0,0))/\W'.heap[w.heap.size+1]?=some (.cells #[.int .i64 (m:Int)] 3 (0,0)))/\(W'.heap[w.heap.size+2]?=some (.cells #[.slice none 0 0] 26 (0,0))/\W'.heap[w2.heap.size]?=some (.cells #[.slice A2 n2 c2] 23 (0,0))))/\(Below w.heap.size w W'/\∀ y∈pre,atN ws y≠(m:Int)))
  (fun c pre W'=>(∃ pre' x Wb,c=.ret/\pre=pre'++[x]/\atN ws x=(m:Int)/\(∀ y∈pre',atN ws y≠(m:Int))/\Wb.heap[w.heap.size+2]?=some (.cells #[sv (us[x]?.getD w2z).2] 26 (0,0))/\qU Wb W')/\Below w.heap.size w W')
  (OwnFrom.and (OwnFrom.and (OwnFrom.and (Qb _ _ _ _) (Qb _ _ _ _)) (OwnFrom.and (Qb _ _ _ _) (Qb _ _ _ _))) (OwnFrom.and (ownFrom_below (zM _) zA1) (Jp _ _)))
  (fun c=>OwnFrom.and (fun s A C row hs hg hr=>by obtain⟨pre',x,Wb,h1,h2,h3,h4,h5,h6⟩:=hs;exact⟨pre',x,Wb,h1,h2,h3,h4,h5,h6.grown hg fun r e=>(hr r e).2⟩) (ownFrom_below (zM _) zA1))
  ⟨⟨⟨qb ra2 x5,qb rb2 x5⟩,⟨qb rc2 x5,zI _ _ _ rfl⟩⟩,x2.trans x5,fun y hy=>by cases hy⟩
  (fun x a' W'=>∃ t8,a'={ tmps:=#[Va (some ⟨b1,o1,none⟩) 256 c1 A2 n2 c2,.int .i64 (m:Int),.pointer (some ⟨w.heap.size,0,none⟩),.pointer (some ⟨w.heap.size+1,0,none⟩),.pointer (some ⟨w.heap.size+1+1,0,none⟩),undef,.pointer (some ⟨t8,0,none⟩),.pointer (some ⟨w.heap.size,1,none⟩),.slice A2 n2 c2,.func (.func 189) #[] #[.pointer (some ⟨w2.heap.size,0,none⟩)],
    .int .i64 (x:Int),.agg #[.int .i64 (us[x]?.getD w2z).1,sv (us[x]?.getD w2z).2],undef,undef,undef,undef,undef,undef,undef,undef,undef,undef,undef],defers:=[] }/\W'.heap[t8]?=some (.cells #[.int .i64 (us[x]?.getD w2z).1,sv (us[x]?.getD w2z).2] 142 (0,0)))
  (fun x a' s A C row hs hg hr=>by obtain⟨t8,e,h⟩:=hs;exact⟨t8,e,Qb (β:=Unit) _ _ _ _ () A C row h hg hr⟩) ?assign ?body ?done ?stop
 case assign =>
  rintro l' pre x W' K ⟨⟨⟨i1,i2⟩,⟨i3,i7⟩⟩,i4,i5⟩ hK
  gi_wp2
  have z1:=(zG.1 i1).1;have z2:=(zG.1 i2).1;have z3:=(zG.1 i3).1;have z7:=(zG.1 i7).1;have z4:=i4.size;refine hK _ _ ((KeepsOthers.alloc _ _).from _) ⟨zK _ _ _ z7,zK _ _ _ zO⟩ ⟨⟨⟨(zK _ _ _ z1).trans i1,(zK _ _ _ z2).trans i2⟩,⟨(zK _ _ _ z3).trans i3,(zK _ _ _ z7).trans i7⟩⟩,Below.alloc i4 z4 _,i5⟩ ⟨W'.heap.size,rfl,zI _ _ _ rfl⟩
 case body =>
  rintro l' pre x a' W' hl ⟨rr,hlp⟩ ⟨⟨⟨i1,i2⟩,⟨i3,i7⟩⟩,i4,i5⟩ ⟨t8,rfl,hr8⟩ _;have hax:=hua.out x;generalize hu9:(us[x]?.getD w2z)=u9 at *;obtain⟨a9,A9,n9,c9⟩:=u9;simp only at hax;subst hax;have k8:=qa hr8;have k2:=qa i2;have k3:=qa i3;have f3:=qd i3;replace i5:=zH i5;replace hu9:=zH hu9;clear ka2 kb2;by_cases hq:atN ws x=(m:Int)
  ·have hqe:(atN ws x == (m:Int))=true:=by rw[beq_iff_eq];exact hq
   replace hq:=zH hq
   gi_wp2_with fail
   refine⟨(KeepsOthers.setCell _ _ _).from _,⟨rfl,pre,x,rfl,hq.out,i5.out,_,?_,qU.refl _⟩,Below.setCell i4 (p:=⟨w.heap.size+1+1,0,none⟩) zA1 _⟩;rw[hu9.out];exact qi i3 0 _
  ·have hqe:(atN ws x == (m:Int))=false:=by rw[beq_eq_false_iff_ne];exact hq
   replace hq:=zH hq
   gi_wp2_with fail
   refine⟨KeepsFrom.refl _ _,Qy.refl _ _ _,⟨⟨i1,i2⟩,⟨i3,i7⟩⟩,i4,fun y hy=>?_⟩;rcases List.mem_append.1 hy with h|h
   ·exact i5.out y h
   ·obtain rfl:y=x:=by simpa using h
    exact hq.out
 case done =>
  rintro D ys W' hD rfl ⟨⟨⟨i1,i2⟩,⟨i3,_⟩⟩,i4,i5⟩ hK;have h0:=qaY (ws:=ws) (a:=(m:Int)) (by rw[show ws.length=us.length by rw[hul,<-hpl,<-hps,List.length_map]];exact i5);have hll:l=l0:=by rw[hLS.out,hps,h0]
  have wZR:=Ext.cell i4 hcb;rw[<-hll] at wZR wHQ;clear h0 hll hcb;have k1:=qa i1;have k2:=qa i2;have k3:=qa i3;have f3:=qd i3;have im:(m:Int)<256:=zO;replace i5:=zH i5;replace wHQ:=zH wHQ;clear ka2 kb2 hw4 hw5;go_wp2_with fail;have hDw:w.heap.size+2<D:=by simp at hD;omega
  have q3:=qi i3 0 (.slice A0 l.length c0);have qK:=(zJ W' ⟨w.heap.size+1+1,0,none⟩ (.slice A0 l.length c0) D zA1).trans hK;have qx:=Below.setCell i4 (p:=⟨w.heap.size+1+1,0,none⟩) zA1 (.slice A0 l.length c0);generalize World.setCell W' _ _=wf at *;exact qcf (b:=w.heap.size) rfl rfl qK hDw q3 (fun W' e=>by have hX:Ext w W':=e ▸ qx.trans (belowK_b (w:=w) (zM _) wf D _ _ zO qK rfl rfl);exact⟨_,rfl,(wHQ.out.below hX).more hX.size,hX⟩)
 case stop =>
  rintro D c pre W' hD ⟨k,hk,hpre⟩ ⟨⟨pre',x,Wb,rfl,rfl,hx,hpp,hRB,hCK⟩,i4⟩ hK
  gi_wp2_with fail
  have hDw:w.heap.size+2<D:=by simp at hD;omega
  have hl2:l=Gg ws x:=by rw[hLS.out,hps,qaZ (ws:=ws) (k:=k) (by rw[<-hps,List.length_map,hpl,<-hul];exact hk) (by rw[show ws.length=us.length by rw[hul,<-hpl,<-hps,List.length_map]];exact hpre) hx hpp]
  exact qcf (b:=w.heap.size) rfl rfl hK hDw (hCK.row hRB) (fun W'' e=>by have hX:Ext w W'':=e ▸ i4.trans (belowK_b (w:=w) (zM _) W' D _ _ zO hK rfl rfl);exact⟨_,rfl,by rw[hl2];exact hud.out x W'' hX,hX⟩)
end Go.Proofs.YtmeadnlmepcmbaaGreat
namespace Go.Proofs.YtmeadnlmepcmbaaGreat
open Go.RowKit
theorem Gz {R:Ending->World->Prop} {a:Act} {W:World} {b:Nat} {x0 x1 v:Value} (h4:a.tmps[4]?.getD undef=.pointer (some ⟨b,0,none⟩)) (h5:a.tmps[5]?.getD undef=v) (hd:a.defers=[]) (hCA:W.heap[b]?=some (.cells #[x0,x1] 113 (0,0))) (hR:R (.returned (.tuple #[.agg #[x0,x1],v])) W):bodyPost prog Tryz.f72 R .ret a W:=by
 refine bodyPost_ret (v:=.tuple #[.agg #[x0,x1],v]) ?_ hd hR;have k:=qa hCA;simp[results,results72,go_sem,h4,h5,k]
set_option maxRecDepth 100000 in
theorem qks (A1 n1 c1 A2 n2 c2 A3 n3 c3 A4 n4 c4) (S:Sto) (a:Int) (w:World) (h:qZ w w.heap.size (.slice A1 n1 c1) (.slice A2 n2 c2) (.slice A3 n3 c3) (.slice A4 n4 c4) S):Calls prog 72 #[Qk A1 n1 c1 A2 n2 c2 A3 n3 c3 A4 n4 c4,.int .i64 a] w (zF (qdk w.heap.size (if jt S a=0 then qu S a.toNat else none)) w):=by
 have HA:=zH (fun W (hx:Ext w W)=>qbY A1 n1 c1 A2 n2 c2 A3 n3 c3 A4 n4 c4 S a W (h.ext hx));obtain⟨q,hq⟩:∃ q,(if jt S a=0 then qu S a.toNat else none)=q:=⟨_,rfl⟩
 rw[hq];replace hq:=zH hq;replace h:=zH h;go_enter func72,ntmps72;go_wp2_with fail;generalize hw1:(World.alloc (World.alloc w _) _)=w1;have x1:Ext w w1:=by rw[<-hw1];exact(zN _ _).trans (zN _ _)
 have r1:w1.heap[w.heap.size]?=some (.cells #[.slice A1 n1 c1,.slice A2 n2 c2,.slice A3 n3 c3,.slice A4 n4 c4] 28 (0,0)):=by rw[<-hw1];exact(zK _ _ _ zA2).trans (zI _ _ _ rfl)
 have q1:w1.heap[w.heap.size+1]?=some (.cells #[.int .i64 0,.slice none 0 0] 113 (0,0)):=by rw[<-hw1];exact zI _ _ _ zA2
 clear hw1;have k1:=qa r1;go_wp2_with fail;refine(HA.out w1 x1).mono ?_;clear HA;rintro e w2 ⟨rfl,hB⟩;have x2:Ext w w2:=x1.trans hB;have r2:=qb r1 hB;have q2:=qb q1 hB;clear hB r1 q1 x1 k1;have k2:=qa r2;have kq2:=qa q2;have fq2:=qd q2;by_cases hE:jt S a=0
 ·obtain⟨hS,n,rfl,h8,h256,hc⟩:=Vt hE;have hNA:q=QG (Zu S n):=by rw[<-hq.out,if_pos hE,Int.toNat_natCast];unfold qu;exact if_neg hc
  rw[hE];clear hq;have HS:=zH (fun W (hx:Ext w W)=>qky A1 n1 c1 A2 n2 c2 S hS n h256 W ((h.out.bs.below hx).more hx.size) ((h.out.ws.below hx).more hx.size));have HR:=zH (fun v W (hv:Bys W W.heap.size v (Zu S n))=>qkn v (Zu S n) W hv);replace hE:=zH hE;replace hS:=zH hS;replace hNA:=zH hNA;replace hc:=zH hc;generalize Zu S n=l at *;go_wp2_with fail;refine(HS.out w2 x2).mono ?_;clear HS;rintro e w3 ⟨u,rfl,hu,hB⟩;have x3:Ext w w3:=x2.trans hB;have q3:=qb q2 hB;clear hB k2 r2 kq2 fq2 q2;go_wp2_with fail;refine(HR.out u w3 hu).mono ?_;clear HR hu;rintro e w4 ⟨u4,rfl,hu,hB⟩;have hB:Ext w3 w4:=hB;have x4:Ext w w4:=x3.trans hB;have q4:=qb q3 hB;have z3:=x3.size;have z4:w.heap.size+1<w4.heap.size:=(zG.1 q4).1;have z3q:w.heap.size+1<w3.heap.size:=(zG.1 q3).1;clear hB q3;have kq4:=qa q4;have fq4:=qd q4;rcases hQ:QG l with _|⟨lvl,xs⟩
  ·rw[hQ] at hu;obtain⟨er,hne,rfl⟩:=hu;have hq:q=none:=by rw[hNA.out,hQ]
   replace hq:=zH hq;have wIE:(er != 0)=true:=by rw[bne_iff_ne];exact hne
   replace hne:=zH hne;go_wp2_with fail;generalize hwf:(World.alloc _ _)=wf;have rf:wf.heap[w.heap.size+1]?=some (.cells #[.int .i64 0,.slice none 0 0] 113 (0,0)):=by rw[<-hwf];exact(zK _ _ _ (by simpa using z4)).trans (qi (qi q4 0 _) 1 _)
   have bf:Below w.heap.size w wf:=by rw[<-hwf];exact Below.alloc (Below.setCell (Below.setCell x4 (p:=⟨w.heap.size+1,0,none⟩) zA2 _) (p:=⟨w.heap.size+1,1,none⟩) zA2 _) zA1 _
   exact Gz (b:=w.heap.size+1) rfl rfl rfl rf ⟨_,rfl,(by rw[hq.out];exact⟨8,zD,rfl⟩),bf⟩
  ·rw[hQ] at hu;obtain⟨A,c,rfl,hi⟩:=hu;have hq:q=some (lvl,xs):=by rw[hNA.out,hQ]
   replace hq:=zH hq;replace hi:=zH hi;go_wp2_with fail;generalize hwf:(World.alloc _ _)=wf;have rf:wf.heap[w.heap.size+1]?=some (.cells #[.int .i64 lvl,.slice A xs.length c] 113 (0,0)):=by rw[<-hwf];exact(zK _ _ _ (by simpa using z4)).trans (qi (qi q4 0 _) 1 _)
   have bf:Below w.heap.size w wf:=by rw[<-hwf];exact Below.alloc (Below.setCell (Below.setCell x4 (p:=⟨w.heap.size+1,0,none⟩) zA2 _) (p:=⟨w.heap.size+1,1,none⟩) zA2 _) zA1 _
   have hfi:je w.heap.size wf (.slice A xs.length c) xs:=by refine(hi.out.keep (by have:=bf.size;rw[<-hwf];simp) fun p h1 h2=>?_).mono z3;rw[<-hwf,World.cell?_alloc_lt _ _ _ (by simpa using h2),World.cell?_setCell_other _ _ _ _ (fun e=>by subst e;simp at h1;omega),World.cell?_setCell_other _ _ _ _ (fun e=>by subst e;simp at h1;omega)]
   exact Gz (b:=w.heap.size+1) rfl rfl rfl rf ⟨_,rfl,(by rw[hq.out];exact⟨A,c,rfl,hfi⟩),bf⟩
 ·have hqn:=zH (show q=none by rw[<-hq.out,if_neg hE]);clear hq;have hne:(jt S a != 0)=true:=by rw[bne_iff_ne];exact hE
  generalize jt S a=er at *;go_wp2_with fail;refine Gz (b:=w.heap.size+1) rfl rfl rfl (qi (qi q2 0 _) 1 _) ⟨_,rfl,(by rw[hqn.out];exact⟨er,hE,rfl⟩),?_⟩;exact Below.setCell (Below.setCell x2 (p:=⟨w.heap.size+1,0,none⟩) zA2 _) (p:=⟨w.heap.size+1,1,none⟩) zA2 _
structure WyI (ty:TypeId) (P:Nat->List It->Prop) (S:Sto) (K:K3) (full:List Stp) (lo:Nat) (w1:World) (v i:Value) (wr:World):Prop where
 ex:∃ (h r:Nat) (ys:List It) (pre:List Stp) (Av:OA) (cv:Nat),v=.slice Av pre.length cv/\i=.int .i64 (r:Int)/\8<=r/\r<256/\qu S r=some ((h:Int),ys)/\(qG S h ys).isSome=true/\full=pre++kJ S K h ys/\pre.length+h<6/\JK ty lo wr v pre/\Below lo w1 wr/\P h ys
set_option maxRecDepth 100000 in
theorem way_any (A1 n1 c1 A2 n2 c2 A3 n3 c3 A4 n4 c4) (S:Sto) (hS:ql S=true) (a lvl:Nat) (xs:List It) (ha:8<=a) (ha2:a<256) (hn:qu S a=some ((lvl:Int),xs)) (hsp:(qG S lvl xs).isSome=true) (k i o:Int) (w:World) (hst:qZ w w.heap.size (.slice A1 n1 c1) (.slice A2 n2 c2) (.slice A3 n3 c3) (.slice A4 n4 c4) S):Calls prog 127 #[Qk A1 n1 c1 A2 n2 c2 A3 n3 c3 A4 n4 c4,.int .i64 (a:Int),Xd k i o] w (zF (fun u W=>Tq w.heap.size W u (kJ S (k,i,o) lvl xs)) w):=by
 obtain⟨i0,hi,hz0,hz1,hz2⟩:=info_parts Tryz.info_step;obtain⟨full,hVI⟩:∃ full,kJ S (k,i,o) lvl xs=full:=⟨_,rfl⟩
 rw[hVI];have hl6:lvl<6:=by have:=jH hn;omega
 have HI0:=zH (fun W=>(⟨⟨lvl,a,xs,[],none,0,rfl,rfl,ha,ha2,hn,hsp,hVI.symm,by simpa using hl6,JK.nil _ _ _,Below.refl _ _,trivial⟩⟩:WyI 187 (fun _ _=>True) S (k,i,o) full W.heap.size W (.slice none 0 0) (.int .i64 (a:Int)) W));have HN:=zH (fun (r:Nat) W (hx:Ext w W)=>qks A1 n1 c1 A2 n2 c2 A3 n3 c3 A4 n4 c4 S (r:Int) W (hst.ext hx));replace hS:=zH hS;replace hi:=zH hi;clear hst hn hsp hVI ha ha2 hl6;go_enter func127,ntmps127;go_wp2_with fail;generalize hw1:(World.alloc (World.alloc w _) _)=w1;have x1:Ext w w1:=by rw[<-hw1];exact(zN _ _).trans (zN _ _)
 have rs1:w1.heap[w.heap.size]?=some (.cells #[.slice A1 n1 c1,.slice A2 n2 c2,.slice A3 n3 c3,.slice A4 n4 c4] 28 (0,0)):=by rw[<-hw1];exact(zK _ _ _ zA2).trans (zI _ _ _ rfl)
 have rk1:w1.heap[w.heap.size+1]?=some (.cells #[.int .u8 k,.int .u32 i,.int .u32 o] 49 (0,0)):=by rw[<-hw1];exact zI _ _ _ zA2
 have z1:w.heap.size<=w1.heap.size:=by rw[<-hw1];simp;omega
 clear hw1;have I0:=zH (HI0.out w1);clear HI0;go_wp2_with fail;go_loopw [6,7] (fun v j wr=>WyI 187 (fun _ _=>True) S (k,i,o) full w1.heap.size w1 v j wr) (fun _ j _=>YE S j)
 case atStart=>exact I0.out
 case round =>
  obtain⟨h,r,ys,pre,Av,cv,rfl,rfl,h8,h256,hn,hsp,hVI,hlen,hso,xr,-⟩:=hrel.ex;clear I0 hrel;have hlv:=Ur hn;obtain⟨hm1,hm2,-⟩:=qQ hn;have hyl:ys.length<=5:=by unfold Qn Jq at hm1;simp at hm1;omega
  have hRF:0<h->0<ys.length:=fun h0=>Uu hm1 h0;have xr1:Ext w1 wr:=xr;have HNr:=HN.out r wr (x1.trans xr1);rw[show jt S (r:Int)=0 by rw[qeh hS.out h8 h256,if_neg (show ¬Zo S r=0 from fun e=>by unfold qu at hn;rw[if_pos (show (S.now[r]?.getD 0).toNat=0 from e)] at hn;cases hn)],if_pos rfl,Int.toNat_natCast,hn] at HNr;have rsr:=qb rs1 xr1;have rkr:=qb rk1 xr1;have ksr:=qa rsr;replace hsp:=zH hsp;replace hn:=zH hn;replace hm2:=zH hm2;replace hVI:=zH hVI;replace hso:=zH hso;replace hlv:=zH hlv;replace hRF:=zH hRF;clear hm1;go_wp2_with fail;refine HNr.mono ?_;clear HNr;rintro e w4 ⟨u,rfl,⟨A9,c9,rfl,hCL⟩,hB⟩;have hB:Ext wr w4:=hB;have xx4:Ext w1 w4:=xr1.trans hB;have rk4:=qb rkr hB;have so4:=zH (hso.out.ext hB);have z4:w.heap.size+1<w4.heap.size:=(zG.1 rk4).1;have kk4:=qa rk4;have zwr:w1.heap.size<=wr.heap.size:=xr.size;have z4r:wr.heap.size<=w4.heap.size:=hB.size;replace hCL:=zH hCL;have hso':Hid (∀ q,(Value.slice Av pre.length cv).ownBlock=some q->q<wr.heap.size):=zH fun q hq=>by obtain⟨ps,-,ho,-⟩:=hso.out;exact(QZ ho q hq).2
  clear hB rsr rkr ksr hso xr xr1;go_wp2_with fail;generalize hw5:(World.alloc w4 _)=w5;have x45:Ext w4 w5:=by rw[<-hw5];exact zN _ _
  have rn5:w5.heap[w4.heap.size]?=some (.cells #[.int .i64 h,.slice A9 ys.length c9] 113 (0,0)):=by rw[<-hw5];exact zI _ _ _ rfl
  clear hw5;have rk5:=qb rk4 x45;have kn5:=qa rn5;have kk5:=qa rk5;clear kk4;go_wp2_with fail;refine(qdK (h:Int) A9 c9 ys k i o _ w5 hyl (hCL.out.ext x45)).mono ?_;rintro e w6 ⟨rfl,hB⟩;have x56:Ext w4 w6:=x45.trans hB;have rn6:=qb rn5 hB;have kn6:=qa rn6;have hVJ:=zH (hCL.out.ext x56);have xx6:Ext w1 w6:=xx4.trans x56;have so6:=zH (so4.out.ext x56);clear rn5 x45 hB x56 rk4 rk5 kk5 kn5 xx4 hCL so4;obtain⟨ips,wEB,hsx⟩:=hVJ.out.toE (X:=OwnL w1.heap.size (.slice Av pre.length cv)) (fun q hq hx=>hx.elim (fun h1=>by have:=hso'.out q h1;omega) fun h1=>zO);replace hsx:=zH hsx;replace wEB:=zH wEB;have hA:=hVJ.out.its.at_.2.2.2;clear hVJ;obtain⟨ie,hie⟩:∃ ie,Yb ys (k,i,o)=ie:=⟨_,rfl⟩
  obtain⟨p,hp⟩:∃ p,qD ys (k,i,o)=p:=⟨_,rfl⟩
  have wII:=JD ys (k,i,o);rw[hie,hp];rw[hp] at wII;obtain⟨ps,e0,ho,hpp⟩:=so6.out;have hgr:∀ W':World,w6.grownBy W' (Value.slice Av pre.length cv).ownBlock->Ql (OwnL w1.heap.size (.slice Av pre.length cv)) w6 W':=fun W' hg=>Ql.of_heap fun q hq hX=>hg.block q hq fun e=>hX (.inl e.symm);replace hpp:=zH hpp;replace hgr:=zH hgr;clear so6;rcases Nat.eq_zero_or_pos h with h0|h0
  ·have hh1:((h:Int) == 0)=true:=by rw[beq_iff_eq];omega
   have hh2:decide (h=0)=true:=decide_eq_true h0;have hf2:full=pre++[(0,ys,p)]:=by rw[hVI.out,h0,UU,hp]
   subst h0;replace hf2:=zH hf2;clear hA hRF hie hp;go_wp2_with (at_builtin;refine Qg ?_);refine QI.go (jF w6 rfl (.tmp 28) (.tmp 32) 180 rfl w1.heap.size 187 i0 _ 3 40 underlying180 hi.out hz0 hz1 hz2 rfl zD (.slice Av pre.length cv) pre.length (jR ps) zE ho #[.int .i64 0,.slice A9 ys.length c9,.int .i64 (p:Int)] zE rfl zA7 zO zD xx6.size ?_);intro v' W' hFW hg hB hat;have hF:JK 187 w1.heap.size W' v' (pre++[(0,ys,p)]):=JK.push (s:=(0,ys,p)) xx6.size e0 hpp.out wEB.out hsx.out hFW hg hat;have hBW:Ext w W':=x1.trans (Below.trans xx6 hB);replace hF:=zH hF;replace hBW:=zH hBW;clear hFW hg hat hB;go_wp2_with fail;go_ret;exact⟨_,rfl,by rw[hf2.out];exact hF.out.toE.mono z1,hBW.out⟩
  ·have hh1:((h:Int) == 0)=false:=by rw[beq_eq_false_iff_ne];omega
   obtain⟨h',hh⟩:∃ h',h=h'+1:=⟨h-1,zO⟩
   obtain⟨j,hj⟩:∃ j,Zb ys (k,i,o)=j:=⟨_,rfl⟩
   have hjl:j<ys.length:=by rw[<-hj];exact jQ (hRF.out h0)
   obtain⟨b',e1,f8,f256,zs,e4,e5⟩:=ZM (h:=h') (by rw[<-hh];exact ZP hsp.out _ (List.getElem_mem hjl));have hfl:full=(pre++[(h,ys,j)])++kJ S (k,i,o) h' zs:=by rw[hVI.out,hh,Xs (by rw[hj];exact zL hjl) (by rw[e1,Int.toNat_natCast];exact e4),hj,List.append_assoc];rfl
   have hms:YE S (.int .i64 (b':Int))<YE S (.int .i64 (r:Int)):=by rw[Ur e4,hlv.out];omega
   obtain⟨b9,off,rfl,hb9⟩:=hA zO;have hCI:∀ (v':Value) (W':World),w6.ownsRow w1.heap.size 187 3 (.slice Av pre.length cv) pre.length (jR ps)->W'.ownsRow w1.heap.size 187 3 v' (pre.length+1) (jR ps++[.int .i64 (h:Int),.slice (some ⟨b9,off,none⟩) ys.length c9,.int .i64 (j:Int)])->w6.grownBy W' (Value.slice Av pre.length cv).ownBlock->(v'.ownBlock=(Value.slice Av pre.length cv).ownBlock\/∃ g,v'.ownBlock=some g/\w6.heap.size<=g)->Below w1.heap.size w6 W' ->
     WyI 187 (fun _ _=>True) S (k,i,o) full w1.heap.size w1 v' (.int .i64 (b':Int)) W'/\YE S (.int .i64 (b':Int))<YE S (.int .i64 (r:Int)):=fun v' W' _ hFW hg hat hB=>by
    obtain⟨A7,c7,rfl,-,-⟩:=qB hFW;have hF:JK 187 w1.heap.size W' (.slice A7 (pre.length+1) c7) (pre++[(h,ys,j)]):=JK.push (s:=(h,ys,j)) xx6.size e0 hpp.out wEB.out hsx.out hFW hg hat;exact⟨⟨h',b',zs,_,A7,c7,zA2,rfl,f8,f256,e4,e5,hfl,zA1,hF,Below.trans xx6 hB,trivial⟩,hms⟩
   have hit:∀ W':World,w6.grownBy W' (Value.slice Av pre.length cv).ownBlock->W'.cell? ⟨b9,off+j*5+3,none⟩=some (.int .i64 (b':Int))/\W'.heap[w4.heap.size]?=some (.cells #[.int .i64 (h:Int),.slice (some ⟨b9,off,none⟩) ys.length c9] 113 (0,0)):=fun W' hg=>by obtain⟨A',c',-,-,-,d3,-,-⟩:=(show Its W' W'.heap.size (.slice (some ⟨b9,off,none⟩) ys.length c9) ys by have:=hsx.out.its (hgr.out W' hg);rw[wEB.out] at this;exact this).item j hjl;rw[e1] at d3;refine⟨d3,(hg.block _ (zG.1 rn6).1 fun e=>?_).trans rn6⟩;have:=hso'.out _ e.symm;omega
   replace hCI:=zH hCI;replace hit:=zH hit;replace hRF:=zH hRF;replace hh:=zH hh;clear hA hfl hms e4 e5 hsp hn hVI hlv hpp hgr;have hDJ:(ie=true/\p=j)\/(ie=false/\max (0:Int) ((p:Int)-1)=(j:Int)):=by
    unfold Zb at hj;rw[hie,hp] at hj;cases ie
    ·right;refine⟨rfl,?_⟩;simp only[Bool.false_eq_true,if_false] at hj;omega
    ·left;exact⟨rfl,by simpa using hj⟩
   clear hie hp hj;rcases hDJ with ⟨rfl,rfl⟩|⟨rfl,hmax⟩
   ·go_wp2_with (at_builtin;refine Qg ?_);refine QI.go (jF w6 rfl (.tmp 39) (.tmp 43) 180 rfl w1.heap.size 187 i0 _ 3 40 underlying180 hi.out hz0 hz1 hz2 rfl zD (.slice Av pre.length cv) pre.length (jR ps) zE ho #[.int .i64 (h:Int),.slice (some ⟨b9,off,none⟩) ys.length c9,.int .i64 (p:Int)] zE rfl zA7 zO zD xx6.size ?_);intro v' W' hFW hg hB hat;obtain⟨d3,rnW⟩:=hit.out W' hg;have knW:=qa rnW;have hF:=zH (hCI.out v' W' ho hFW hg hat hB);clear hCI hit hFW hg hat hB ho;go_wp2_with fail;exact hF.out
   ·go_wp2_with (at_builtin;refine Qg ?_);refine QI.go (jF w6 rfl (.tmp 39) (.tmp 43) 180 rfl w1.heap.size 187 i0 _ 3 40 underlying180 hi.out hz0 hz1 hz2 rfl zD (.slice Av pre.length cv) pre.length (jR ps) zE ho #[.int .i64 (h:Int),.slice (some ⟨b9,off,none⟩) ys.length c9,.int .i64 (j:Int)] zE rfl zA7 zO zD xx6.size ?_);intro v' W' hFW hg hB hat;obtain⟨d3,rnW⟩:=hit.out W' hg;have knW:=qa rnW;have hF:=zH (hCI.out v' W' ho hFW hg hat hB);clear hCI hit hFW hg hat hB ho;go_wp2_with fail;exact hF.out
def KK (s:Stp):Bool:=decide (s.2.1.length<5)
def ThinIx (l:List Stp) (u:Value):Prop:=(∃ j:Nat,u=.int .i64 (j:Int)/\l.any KK=true)\/(u=.int .i64 (-1)/\l.any KK=false)
set_option maxRecDepth 100000 in
theorem qkC (lvl p:Int) (A n c) (w:World):Calls prog 175 #[.agg #[.int .i64 lvl,.slice A n c,.int .i64 p]] w (Ret (.bool (decide (n<5))) w):=by
 go_enter func175,ntmps175;by_cases h:n<5
 ·have h1:decide ((n:Int)<5)=true:=decide_eq_true zO;rw[decide_eq_true h];replace h:=zH h;go_wp2;go_ret;exact⟨rfl,zN _ _⟩
 ·have h1:decide ((n:Int)<5)=false:=decide_eq_false zO;rw[decide_eq_false h];replace h:=zH h;go_wp2;go_ret;exact⟨rfl,zN _ _⟩
set_option maxRecDepth 100000 in
theorem qkD (v:Value) (l:List Stp) (hl:l.length<=100) (w:World) (h:Kj w.heap.size w v l):Calls prog 198 #[v,.func (.func 175) #[] #[]] w (zF (fun u _=>ThinIx l u) w):=by
 obtain⟨ps,hps,⟨A,c,rfl,hc1,hc2,hr⟩,hpp⟩:=h;have hpl:ps.length=l.length:=by rw[<-hps,List.length_map]
 replace hr:=zH hr;replace hc2:=zH hc2;go_enter func198,ntmps198;go_wp2_with fail;go_loopw [8] (fun i wr=>∃ k:Nat,k<=l.length/\i=.int .i64 (k:Int)/\Ext w wr/\(l.take k).any KK=false) (fun i _=>l.length-(intOf i).toNat)
 case atStart=>exact⟨0,Nat.zero_le _,rfl,Ext.refl _,rfl⟩
 case round =>
  obtain⟨k,hk,rfl,xr,hno⟩:=hrel;replace hno:=zH hno;by_cases hlt:k<l.length
  ·obtain⟨bv,offv,rfl,hbv,hDL⟩:=hr.out.2 zO;have hkp:k<ps.length:=zO;obtain⟨d0,d1,d2⟩:=Xv ps k hkp;replace d0:=Ext.cell xr (hDL _ _ d0);replace d1:=Ext.cell xr (hDL _ _ d1);replace d2:=Ext.cell xr (hDL _ _ d2);rw[<-Nat.add_assoc] at d1 d2;obtain⟨Ax,cx,hx2⟩:=(hpp ps[k] (List.getElem_mem hkp)).1;have hxe:ps[k].1=l[k]:=by simp only[<-hps,List.getElem_map]
   rw[hx2,hxe] at d1;rw[hxe] at d0 d2;have HAT:=zH (fun (he:KK l[k]=true)=>show l.any KK=true from List.any_eq_true.2 ⟨l[k],List.getElem_mem hlt,he⟩);have HNO:=zH (fun (he:KK l[k]=false)=>show (l.take (k+1)).any KK=false by rw[List.take_succ_eq_append_getElem hlt,List.any_append,hno.out];simp[he]);unfold KK at HAT HNO;generalize l[k]=u at *;obtain⟨ul,uxs,up⟩:=u;dsimp only at d0 d1 d2 HAT HNO;clear hDL hx2 hxe;have hXI:=zH (IntWalk.wrap64_in ((k:Int)+1) zO);have hV:=qkC (ul:Int) (up:Int) Ax uxs.length cx wr;go_wp2_with fail;refine hV.mono ?_;rintro e w2 ⟨rfl,hB⟩;clear d0 d1 d2 hV;by_cases he:uxs.length<5
   ·rw[decide_eq_true he];have HQ:=zH (HAT.out (decide_eq_true he));clear HAT HNO;replace he:=zH he;go_wp2_with fail;refine bodyPost_ret (v:=.int .i64 (k:Int)) ?_ rfl ⟨_,rfl,.inl ⟨k,rfl,HQ.out⟩,Ext.trans xr hB⟩;simp[results,results198,go_sem]
   ·rw[decide_eq_false he];have HQ:=zH (HNO.out (decide_eq_false he));clear HAT HNO;replace he:=zH he;have hw1:=hXI.out;go_wp2_with fail;refine⟨⟨k+1,hlt,rfl,Ext.trans xr hB,HQ.out⟩,?_⟩;simp[intOf];omega
  ·obtain rfl:k=l.length:=zO;have HQ:=zH (show l.any KK=false by have:=hno.out;rwa [List.take_length] at this);go_wp2_with fail;refine bodyPost_ret (v:=.int .i64 (-1)) ?_ rfl ⟨_,rfl,.inr ⟨rfl,HQ.out⟩,xr⟩;simp[results,results198,go_sem]
set_option maxRecDepth 100000 in
theorem thin_any (v:Value) (l:List Stp) (hl:l.length<=100) (w:World) (h:Kj w.heap.size w v l):Calls prog 174 #[v,.func (.func 175) #[] #[]] w (Ret (.bool (l.any KK)) w):=by
 have HX:=qkD v l hl w h;clear h;go_enter func174,ntmps174;go_wp2_with fail;refine HX.mono ?_;rintro e w2 ⟨u,rfl,hu,hB⟩;rcases hu with ⟨j,rfl,hj⟩|⟨rfl,hj⟩
 ·have hd:decide ((0:Int)<=(j:Int))=true:=decide_eq_true zO;go_wp2_with fail;go_ret;exact⟨by rw[hj];rfl,hB⟩
 ·go_wp2_with fail;go_ret;exact⟨by rw[hj];rfl,hB⟩
set_option maxRecDepth 100000 in
theorem tall_any (v:Value) (l:List Stp) (hl:l.length<=100) (hl0:0<l.length) (k i o:Int) (hl5:∀ s∈l,s.2.1.length<=5) (w:World) (h:Kj w.heap.size w v l):Calls prog 128 #[v,Xd k i o] w (Ret (.bool (qas (k,i,o) l)) w):=by
 have HT:=zH (fun W (hx:Ext w W)=>thin_any v l hl W ((h.below hx).more hx.size));obtain⟨ps,hps,⟨A,c,rfl,hc1,hc2,hr⟩,hpp⟩:=h;have hpl:ps.length=l.length:=by rw[<-hps,List.length_map]
 obtain⟨bv,offv,rfl,hbv,hDL⟩:=hr.2 hl0;obtain⟨m,hm⟩:∃ m,l.length=m+1:=⟨l.length-1,zO⟩
 have hmp:m<ps.length:=zO;have hml:m<l.length:=zO;obtain⟨d0,d1,d2⟩:=Xv ps m hmp;replace d0:=hDL _ _ d0;replace d1:=hDL _ _ d1;replace d2:=hDL _ _ d2;rw[<-Nat.add_assoc] at d1 d2;obtain⟨⟨Ax,cx,hx2⟩,hCL⟩:=hpp ps[m] (List.getElem_mem hmp);have hxe:ps[m].1=l[m]:=by simp only[<-hps,List.getElem_map]
 rw[hx2,hxe] at d1 hCL;rw[hxe] at d0;have wXS:l.getLast?=some l[m]:=by rw[List.getLast?_eq_getElem?,hm,Nat.add_sub_cancel];exact zL hml
 have hq:qas (k,i,o) l=(decide (l.length=6) && !(l.any KK) && !(Yb l[m].2.1 (k,i,o))):=by unfold qas;rw[wXS];simp only;congr 2;rw[Bool.eq_iff_iff];simp[List.all_eq_true,KK]
 have hu5:=hl5 l[m] (List.getElem_mem hml);rw[hq];generalize l[m]=u at *;obtain⟨ul,uxs,up⟩:=u;dsimp only at d0 d1 hCL hu5 ⊢;have HP:=zH (fun W (hx:Ext w W)=>qbW (ul:Int) Ax cx uxs k i o W hu5 ((hCL.below hx).more hx.size));clear hq wXS hDL hr hx2 hxe hpp hCL d2 hps;replace hm:=zH hm;generalize l.any KK=bt at *;generalize Yb uxs (k,i,o)=bi at *;generalize qD uxs (k,i,o)=pn at *;replace hc2:=zH hc2;go_enter func128,ntmps128;go_wp2_with fail;generalize hw1:World.alloc _ _=w1;have x1:Ext w w1:=by rw[<-hw1];exact zN _ _
 have r1:w1.heap[w.heap.size]?=some (.cells #[.int .u8 k,.int .u32 i,.int .u32 o] 49 (0,0)):=by rw[<-hw1];exact zI _ _ _ rfl
 clear hw1;refine(HT.out w1 x1).mono ?_;clear HT;rintro e w2 ⟨rfl,hB⟩;have x2:Ext w w2:=x1.trans hB;have r2:=qb r1 hB;clear r1 hB x1;go_upto_region 2 with fail;have g0:∀ W,qm.r w2 W->W.cell? ⟨bv,offv+m*3,none⟩=some (.int .i64 (ul:Int)):=fun W h=>Ext.cell (x2.trans h) d0;have g1:∀ W,qm.r w2 W->W.cell? ⟨bv,offv+m*3+1,none⟩=some (.slice Ax uxs.length cx):=fun W h=>Ext.cell (x2.trans h) d1;have g2:∀ W,qm.r w2 W->∀ i_1,W.cell? ⟨w.heap.size,i_1,none⟩=#[.int .u8 k,.int .u32 i,.int .u32 o][i_1]?:=fun W h=>qa (qb r2 h);clear d0 d1;have hwl:=zH (show IntKind.i64.wrap ((l.length:Int)-1)=(m:Int) by rw[IntKind.wrap_i64];have:=hm.out;omega);refine qp zQ ?_;refine Qa (w:=w2) qm (qM [(8,one (.tuple #[.int .i64 (pn:Int),.bool bi]))]) (List.replicate 14 true) 0 zQ zQ zQ zQ zQ zQ zQ ?st (Rel.drew _ _) ?walk
 case st=>exact qj (by simp only[List.forall_mem_cons];exact⟨jD _,fun _ h=>by cases h⟩)
 case walk =>
  intro K hK;dsimp only[qw,List.replicate];refine zB5 ?_;refine qe (.pointer (some ⟨bv,offv+m*3,none⟩)) zA0 zA0 (fun W hW _=>⟨W,?_,Rel.refl _ W⟩) ?_
  ·go_simp;rw[hwl.out,if_pos zO];simp
  refine zB5 ?_;refine qz (one _) zA0 zA0 (fun W hW _=>?_) (fun (_:Unit)=>?_)
  ·have hW':Ext w2 W:=hW;refine qV ?_ ((HP.out W (x2.trans hW')).mono fun e w' h=>⟨(),h.1,trivial,h.2⟩);go_simp
  refine zB5 ?_;refine qA (hK _ _ fun W hW hF=>?_);clear hF hK;have hW:Ext w2 W:=hW;have xW:Ext w W:=x2.trans hW;refine zB7 ?_;go_wp2;refine Qw ?_;clear HP g0 g1 g2 r2;by_cases h6:l.length=6
  ·have e6:((l.length:Int) == 6)=true:=by rw[beq_iff_eq];omega
   have d6:=decide_eq_true h6;replace h6:=zH h6;cases bt
   ·cases bi;all_goals
     go_wp2_with fail;go_ret;exact⟨by rw[d6];rfl,xW⟩
   ·go_wp2_with fail;go_ret;exact⟨by rw[d6];rfl,xW⟩
  ·have e6:((l.length:Int) == 6)=false:=by rw[beq_eq_false_iff_ne];omega
   have d6:=decide_eq_false h6;replace h6:=zH h6;go_wp2_with fail;go_ret;exact⟨by rw[d6];rfl,xW⟩
def Vo:List UInt8->Nat
 | []=>0
 |x :: r=>x.toNat+Vo r
theorem qco:∀ (t:List UInt8) (a:Nat) (x:UInt8),a<t.length->Vo (t.set a x)+qL t a=Vo t+x.toNat
 | [],a,x,h=>by simp at h
 |y :: r,0,x,h=>by simp[Vo,qL];omega
 |y :: r,a+1,x,h=>by
  have:=qco r a x (by simpa using h);simp only[zC,Vo];have e:qL (y :: r) (a+1)=qL r a:=by simp[qL]
  rw[e];omega
theorem Kx {t:List UInt8} {a:Nat} (h:t.length<=a):qL t a=0:=by unfold qL;rw[List.getElem?_eq_none h];rfl
theorem vR {t:List UInt8} {a:Nat} (h:a<t.length) (x:UInt8):qL (t.set a x) a=x.toNat:=by unfold qL;rw[List.getElem?_set_self h];rfl
theorem Ja {t:List UInt8} {a j:Nat} (h:j≠a) (x:UInt8):qL (t.set a x) j=qL t j:=by unfold qL;rw[List.getElem?_set_ne zO]
theorem Xx (t:List UInt8) (a:Nat):qL t a<256:=(t[a]?.getD 0).toNat_lt
theorem qbh {t:List UInt8} {a:Nat} (h:qL t a≠0):Vo (ju t a)+1=Vo t:=by
 have hl:a<t.length:=by
  by_cases h1:a<t.length
  ·exact h1
  ·exact absurd (Kx zO) h
 have e:=qco t a (UInt8.ofNat (qL t a-1)) hl;have h2:=Xx t a;have h3:(UInt8.ofNat (qL t a-1)).toNat=qL t a-1:=by rw[UInt8.toNat_ofNat'];omega
 unfold ju;omega
theorem qer (t:List UInt8) (a j:Nat):qL (ju t a) j<=qL t j:=by
 unfold ju;by_cases hj:j=a
 ·subst hj;by_cases hl:j<t.length
  ·rw[vR hl];have h2:=Xx t j;rw[UInt8.toNat_ofNat'];omega
  ·rw[Kx (by simpa using hl)];omega
 ·rw[Ja hj];omega
theorem Ga {t:List UInt8} {a:Nat} (h:qL t a=1):Vo (t.set a 0)+1=Vo t:=by
 have hl:a<t.length:=by
  by_cases h1:a<t.length
  ·exact h1
  ·rw[Kx zO] at h;cases h
 have e:=qco t a 0 hl;rw[h] at e;simpa using e
theorem zero_le (t:List UInt8) (a j:Nat):qL (t.set a 0) j<=qL t j:=by
 by_cases hj:j=a
 ·subst hj;by_cases hl:j<t.length
  ·rw[vR hl];simp
  ·rw[Kx (by simpa using hl)];omega
 ·rw[Ja hj];omega
theorem VJ:∀ {l:List Nat} {t t':List UInt8},looseL l t=.ok t'->Vo t'<=Vo t/\∀ j,qL t' j<=qL t j
 | [],t,t',e=>by cases e;exact⟨zM _,fun _=>zM _⟩
 |a :: l,t,t',e=>by
  by_cases ha:a=0
  ·subst ha;rw[jC] at e;exact VJ e
  ·by_cases h0:qL t a=0
   ·rw[Jd ha h0] at e;cases e
   ·rw[jB ha h0] at e;obtain⟨h1,h2⟩:=VJ e;have:=qbh h0;exact⟨zO,fun j=>Nat.le_trans (h2 j) (qer t a j)⟩
theorem Yj {S:Sto} {t:List UInt8} {a:Nat} (h:qL t a≠0) (hle:qL t a<=qL S.now a):qu (qy S t) a=qu S a:=by
 have e1:qu (qy S t) a=if qL t a=0 then none else QG (Zu S a):=rfl
 have e2:qu S a=if qL S.now a=0 then none else QG (Zu S a):=rfl
 rw[e1,e2,if_neg h,if_neg zO]
theorem qbF {S:Sto} {a:Nat} {lvl:Int} {xs:List It} (h:qu S a=some (lvl,xs)) (hl:0<lvl):∀ r∈qE xs,8<=r/\r<256:=fun r hr=>by
 have h1:=KH h r hr;obtain⟨x,hx,rfl⟩:=List.mem_map.1 hr;have hm:=(qQ h).1;have hio:=((qQ h).2.1 x hx).1.2.2.2.1.1;unfold Qn at hm;simp only[Bool.and_eq_true] at hm;obtain⟨i,hi,e⟩:=List.mem_iff_getElem.1 hx;have h2:=List.all_eq_true.1 hm.2 i (List.mem_range.2 hi);unfold GT at h2;rw[zL hi] at h2;simp only[Bool.and_eq_true] at h2;have h3:=h2.2;rw[e,decide_eq_true hl] at h3;have h4:x.r≠0:=by intro h5;rw[h5] at h3;simp at h3
 omega
structure LvI (S:Sto) (a:Nat) (st:List (Nat×Int)) (t:List UInt8):Prop where
 eq:QL S (-1) S.now a=JN S st.reverse t
 may:Qt t=true
 le:∀ j,qL t j<=qL S.now j
 few:st.length+5*Vo t<=5*Vo S.now+1
 at_:∀ p∈st,8<=p.1/\p.1<256/\-1<=p.2/\p.2<6
theorem qhZ (S:Sto) (x:Nat×Int) (t:List UInt8):JN S [x] t=QL S x.2 t x.1:=by unfold JN;cases QL S x.2 t x.1 <;> rfl
theorem LvI.start {S:Sto} (hS:ql S=true) {a:Nat} (ha:8<=a) (ha2:a<256):LvI S a [(a,-1)] S.now:=by
 refine⟨(qhZ S (a,-1) S.now).symm,(qF.1 hS).2.1,fun _=>zM _,zA1,fun p hp=>?_⟩;obtain rfl:p=(a,-1):=by simpa using hp
 exact⟨ha,ha2,zA2,zA2⟩
theorem LvI.done {S:Sto} {a:Nat} {t:List UInt8} (h:LvI S a [] t):QL S (-1) S.now a=some t:=h.eq
section
variable {S:Sto} {a:Nat} {s:List (Nat×Int)} {x:Nat×Int} {t:List UInt8}
theorem LvI.eq' (h:LvI S a (s++[x]) t):QL S (-1) S.now a=match QL S x.2 t x.1 with
  |none=>none
  |some t'=>JN S s.reverse t':=by
 rw[h.eq,List.reverse_append];rfl
theorem LvI.top (h:LvI S a (s++[x]) t):8<=x.1/\x.1<256/\-1<=x.2/\x.2<6:=h.at_ x zA2
theorem LvI.bad0 (h:LvI S a (s++[x]) t) (h0:qL t x.1=0):QL S (-1) S.now a=none:=by rw[h.eq',Xe,if_pos h0]
theorem LvI.more (h:LvI S a (s++[x]) t) (h1:1<qL t x.1):LvI S a s (ju t x.1):=by have hd:=qbh (t:=t) (a:=x.1) zO;have hf:=h.few;simp only[List.length_append,List.length_cons,List.length_nil] at hf;refine⟨?_,ji h.may h.top.1 _,fun j=>Nat.le_trans (qer t x.1 j) (h.le j),zO,fun p hp=>h.at_ p (by simp[hp])⟩;rw[h.eq',Xe,if_neg zO,if_pos h1]
theorem LvI.one (h:LvI S a (s++[x]) t) (h1:qL t x.1=1):QL S (-1) S.now a=match (match qu S x.1 with
  |none=>none
  |some (l,xs)=>if 0<=x.2/\l≠x.2 then none else if 0<l then JN S ((qE xs).map fun r=>(r,l-1)) (t.set x.1 0) else
   match looseL (qE xs) (t.set x.1 0) with
   | .error _=>none
   | .ok t'=>some t') with
  |none=>none
  |some t'=>JN S s.reverse t':=by
 rw[h.eq',Xe,if_neg zO,if_neg zO] <;> rfl
theorem LvI.none_ (h:LvI S a (s++[x]) t) (h1:qL t x.1=1) (hn:qu S x.1=none):QL S (-1) S.now a=none:=by rw[h.one h1,hn]
theorem LvI.level (h:LvI S a (s++[x]) t) (h1:qL t x.1=1) {l:Int} {xs:List It} (hn:qu S x.1=some (l,xs)) (h0:0<=x.2) (hl:l≠x.2):QL S (-1) S.now a=none:=by rw[h.one h1,hn];simp only;rw[if_pos ⟨h0,hl⟩]
theorem LvI.push (h:LvI S a (s++[x]) t) (h1:qL t x.1=1) {l:Int} {xs:List It} (hn:qu S x.1=some (l,xs)) (h0:¬(0<=x.2/\l≠x.2)) (hl:0<l):LvI S a (s++((qE xs).map fun r=>(r,l-1)).reverse) (t.set x.1 0):=by
 have hd:=Ga h1;have hf:=h.few;have h6:=jH hn;have hlen:(qE xs).length=xs.length:=by unfold qE;simp
 simp only[List.length_append,List.length_cons,List.length_nil] at hf;refine⟨?_,ji h.may h.top.1 _,fun j=>Nat.le_trans (zero_le t x.1 j) (h.le j),by simp only[List.length_append,List.length_reverse,List.length_map];omega,fun p hp=>?_⟩
 ·rw[h.one h1,hn,List.reverse_append,List.reverse_reverse,Tf];simp only;rw[if_neg h0,if_pos hl] <;> rfl
 ·rcases List.mem_append.1 hp with hp|hp
  ·exact h.at_ p (by simp[hp])
  ·obtain⟨r,hr,rfl⟩:=List.mem_map.1 (List.mem_reverse.1 hp);have:=qbF hn hl r hr;exact⟨this.1,this.2,by simp only;omega,by simp only;omega⟩
theorem LvI.leafBad (h:LvI S a (s++[x]) t) (h1:qL t x.1=1) {l:Int} {xs:List It} (hn:qu S x.1=some (l,xs)) (h0:¬(0<=x.2/\l≠x.2)) (hl:¬0<l) {e:Int} (he:looseL (qE xs) (t.set x.1 0)=.error e):QL S (-1) S.now a=none:=by rw[h.one h1,hn];simp only;rw[if_neg h0,if_neg hl,he]
theorem LvI.leaf (h:LvI S a (s++[x]) t) (h1:qL t x.1=1) {l:Int} {xs:List It} (hn:qu S x.1=some (l,xs)) (h0:¬(0<=x.2/\l≠x.2)) (hl:¬0<l) {t':List UInt8} (he:looseL (qE xs) (t.set x.1 0)=.ok t'):LvI S a s t':=by have hd:=Ga h1;obtain⟨hs,hj⟩:=VJ he;have hf:=h.few;simp only[List.length_append,List.length_cons,List.length_nil] at hf;refine⟨?_,JO (fun b hb=>(KH hn b hb).1) (ji h.may h.top.1 _) he,fun j=>Nat.le_trans (hj j) (Nat.le_trans (zero_le t x.1 j) (h.le j)),zO,fun p hp=>h.at_ p (by simp[hp])⟩;rw[h.one h1,hn];simp only;rw[if_neg h0,if_neg hl,he]
end
def mixL:List Bool->Nat->List Value->(Nat->Value)->List Value
 | [],_,l,_=>l
 |_ :: _,_,[],_=>[]
 |b :: m,i,x :: r,g=>(bif b then g i else x) :: mixL m (i+1) r g
def qbB (D:Nat):Deferred:={ target:=.collected D,args:=#[] }
theorem qfh {P:Program} {Q:Exit->Act->World->Prop} {tm:List Value} {w:World} {c:Code} (mask:List Bool) (n₀:Nat) (rel:Nat->(Nat->Value)->List Nat->World->Prop) (h₀:rel n₀ (fun i=>tm.getD i undef) [] w) (hmix:mixL mask 0 tm (fun i=>tm.getD i undef)=tm) (round:∀ (n:Nat) (g:Nat->Value) (Ds:List Nat) (wr:World) (K:Act->World->Prop),rel n g Ds wr->(∀ (n':Nat) (g':Nat->Value) (Ds':List Nat) (w':World),n'<n->rel n' g' Ds' w'->K { tmps:=(mixL mask 0 tm g').toArray,defers:=Ds'.map qbB } w')->c.wp P (Exit.then K Q) { tmps:=(mixL mask 0 tm g).toArray,defers:=Ds.map qbB } wr) : (Code.loop c).wp P Q { tmps:=tm.toArray,defers:=[] } w:=by
 refine wp_loop_ghost (fun n a w=>∃ g Ds,a={ tmps:=(mixL mask 0 tm g).toArray,defers:=Ds.map qbB }/\rel n g Ds w) n₀ ⟨_,[],by rw[hmix];rfl,h₀⟩ ?_;rintro n a wr ⟨g,Ds,rfl,h⟩;exact round n g Ds wr _ h fun n' g' Ds' w' hlt hr=>⟨n',hlt,g',Ds',rfl,hr⟩
theorem qbE {mask:List Bool} {tm:List Value} {n:Nat} {rel:Nat->(Nat->Value)->List Nat->World->Prop} {K:Act->World->Prop} (hK:∀ (n':Nat) (g':Nat->Value) (Ds':List Nat) (w':World),n'<n->rel n' g' Ds' w'->K { tmps:=(mixL mask 0 tm g').toArray,defers:=Ds'.map qbB } w') {l:List Value} {df:List Deferred} {w':World} (n':Nat) (hlt:n'<n) (Ds':List Nat) (hdf:df=Ds'.map qbB) (heq:l=mixL mask 0 tm (fun i=>l.getD i undef)) (hr:rel n' (fun i=>l.getD i undef) Ds' w'):K { tmps:=l.toArray,defers:=df } w':=by
 have:=hK n' _ Ds' w' hlt hr;rw[<-heq] at this
 rwa [hdf]
structure jT (lo:Nat) (Ds:List Nat) (w:World):Prop where
 nodup:Ds.Nodup
 at_:∀ D∈Ds,lo<=D/\w.heap[D]?=some (.deferred (some []))
theorem jT.nil (lo:Nat) (w:World):jT lo [] w:=⟨List.nodup_nil,fun _ h=>by cases h⟩
theorem jT.keep {lo:Nat} {Ds:List Nat} {w W:World} (h:jT lo Ds w) (hk:∀ (q:Nat) (o:Obj),w.heap[q]?=some o->o.isCells=false->W.heap[q]?=some o):jT lo Ds W:=⟨h.nodup,fun D hD=>⟨(h.at_ D hD).1,hk D _ (h.at_ D hD).2 rfl⟩⟩
theorem jT.cons {lo:Nat} {Ds:List Nat} {w W:World} (h:jT lo Ds w) (hk:∀ (q:Nat) (o:Obj),w.heap[q]?=some o->o.isCells=false->W.heap[q]?=some o) {D:Nat} (hD:w.heap.size<=D) (hl:lo<=D) (hr:W.heap[D]?=some (.deferred (some []))):jT lo (D :: Ds) W:=by
 have h1:=h.keep hk;refine⟨List.nodup_cons.2 ⟨fun hm=>?_,h1.nodup⟩,fun q hq=>?_⟩
 ·have:=(zG.1 (h.at_ D hm).2).1;omega
 ·rcases List.mem_cons.1 hq with rfl|hq
  ·exact⟨hl,hr⟩
  ·exact h1.at_ q hq
theorem Uo {F:Fence} {n:Nat} {P:Program} {fn:Func} {tmps:Array Value} {R:Ending->World->Prop} {lo:Nat}:∀ (Ds:List Nat) (W:World),jT lo Ds W -> (∀ W',(∀ q,q∉Ds->W'.heap[q]?=W.heap[q]?)->W'.heap.size=W.heap.size->W'.os=W.os->W'.tape=W.tape->W'.output=W.output->LeavesIn F n P fn tmps R [] .returning W')->LeavesInM F n P fn tmps R (Ds.map qbB) .returning W
 | [],W,_,h=>h W (fun _ _=>rfl) rfl rfl rfl rfl
 |D :: Ds,W,hm,h=>by
  refine⟨zA2,.inl ⟨D,_,rfl,run_takeDeferred (hm.at_ D List.mem_cons_self).2,?_⟩⟩;have hnd:=List.nodup_cons.1 hm.nodup;refine Uo (lo:=lo) Ds (W.putObj D (.deferred none)) ⟨hnd.2,fun q hq=>⟨(hm.at_ q (List.mem_cons_of_mem _ hq)).1,(World.putObj_heap_other (o:=.deferred none) (fun e=>by subst e;exact hnd.1 hq)).trans (hm.at_ q (List.mem_cons_of_mem _ hq)).2⟩⟩ ?_;intro W' h1 h2 h3 h4 h5;refine h W' (fun q hq=>?_) ?_ ?_ ?_ ?_
  ·exact(h1 q fun hx=>hq (List.mem_cons_of_mem _ hx)).trans (World.putObj_heap_other (o:=.deferred none) fun e=>hq (by rw[e];exact List.mem_cons_self))
  ·rw[h2];simp
  ·rw[h3];rfl
  ·rw[h4];rfl
  ·rw[h5];rfl
end Go.Proofs.YtmeadnlmepcmbaaGreat
namespace Go.Proofs.YtmeadnlmepcmbaaGreat
open Go.RowKit Go.Shelf
attribute [local go_sem] Oper.semAt_some
abbrev Ui:Type:=It×Sl
abbrev uiz:Ui:=((⟨0,0,0,0,[]⟩:It),(none,0,0))
set_option maxRecDepth 100000 in
theorem backi_in (n:Nat) (hn:1<=n) (l Bs b off len cap:Nat) (us:List Ui) (hJR:len<1099511627776) (J Jx:List Nat->World->Prop) (hY:∀ pre (x:Nat) W,J pre W->pre.length<len->YieldAt Fence.wide (n-1) prog l #[.int .i64 (x:Int),.agg #[.int .u8 (us[x]?.getD uiz).1.k,.int .u32 (us[x]?.getD uiz).1.i,.int .u32 (us[x]?.getD uiz).1.o,.int .i64 (us[x]?.getD uiz).1.r,sv (us[x]?.getD uiz).2]] W fun e W' =>
   (e=.returned (.bool true)/\J (pre++[x]) W'/\Qy Bs b W W')\/(e=.returned (.bool false)/\Jx (pre++[x]) W'))
  (W:World) (hBs:W.cell? ⟨Bs,0,none⟩=some (.slice (some ⟨b,off,none⟩) len cap)) (hc:∀ i,i<len->W.cell? ⟨b,off+i*5,none⟩=some (.int .u8 (us[i]?.getD uiz).1.k)/\W.cell? ⟨b,off+i*5+1,none⟩=some (.int .u32 (us[i]?.getD uiz).1.i)/\W.cell? ⟨b,off+i*5+2,none⟩=some (.int .u32 (us[i]?.getD uiz).1.o)/\W.cell? ⟨b,off+i*5+3,none⟩=some (.int .i64 (us[i]?.getD uiz).1.r)/\W.cell? ⟨b,off+i*5+4,none⟩=some (sv (us[i]?.getD uiz).2)) (h0:J [] W) :
  CallsIn Fence.wide n prog 197 #[.func (.yield l) #[] #[],.pointer (some ⟨Bs,0,none⟩)] W fun e W'=>(∃ v,e=.returned v) /\
   ((∃ ys,ys=jw (fun j=>len-1-j) len/\J ys W')\/(∃ pre,(∃ k,k<=len/\pre=jw (fun j=>len-1-j) k)/\Jx pre W')):=by
 refine callsIn_of_wp func197 rfl trivial ?_ rfl;simp only[ntmps197,List.size_toArray,List.length_cons,List.length_nil,Nat.reduceAdd,Nat.reduceSub,Array.replicate_succ,Array.replicate_zero,List.push_toArray,List.append_toArray,List.nil_append,List.cons_append]
 gi_wp2
 gi_loopw [3] (fun i wr=>∃ k:Nat,k<=len/\i=.int .i64 ((len:Int)-1-k)/\J (jw (fun j=>len-1-j) k) wr/\Qy Bs b W wr)
  (fun i _=>(intOf i+1).toNat)
 case atStart=>exact⟨0,Nat.zero_le _,zA2,h0,Qy.refl _ _ _⟩
 case round =>
  obtain⟨k,hk,rfl,hJs,hnx⟩:=hrel;have hBr:wr.cell? ⟨Bs,0,none⟩=some (.slice (some ⟨b,off,none⟩) len cap):=(World.cell?_of_block (w:=W) hnx.1).trans hBs;by_cases hlt:k<len
  ·obtain⟨fn,tmps,assign,body,hy,hR⟩:=hY _ (len-1-k) wr hJs (by rw[ZH];exact hlt);have hc0:=(World.cell?_of_block (w:=W) (a:=⟨b,off+(len-1-k)*5,none⟩) hnx.2).trans (hc (len-1-k) zO).1;have hc1:=(World.cell?_of_block (w:=W) (a:=⟨b,off+(len-1-k)*5+1,none⟩) hnx.2).trans (hc (len-1-k) zO).2.1;have hc2:=(World.cell?_of_block (w:=W) (a:=⟨b,off+(len-1-k)*5+2,none⟩) hnx.2).trans (hc (len-1-k) zO).2.2.1;have hc3:=(World.cell?_of_block (w:=W) (a:=⟨b,off+(len-1-k)*5+3,none⟩) hnx.2).trans (hc (len-1-k) zO).2.2.2.1;have hc4:=(World.cell?_of_block (w:=W) (a:=⟨b,off+(len-1-k)*5+4,none⟩) hnx.2).trans (hc (len-1-k) zO).2.2.2.2;try dsimp only at hy
   obtain⟨i,hi⟩:∃ i:Nat,len-1-k=i:=⟨_,rfl⟩
   have hi2:(len:Int)-1-k=(i:Int):=zO;have hil:i<len:=zO;have hik:k+i+1<=len/\len<=k+i+1:=zO;have HU:=zH (VN (fun j=>len-1-j) k);obtain⟨u,hu⟩:∃ u,us[i]?.getD uiz=u:=⟨_,rfl⟩
   rw[hi] at hc0 hc1 hc2 hc3 hc4 hy hR;rw[hu] at hc0 hc1 hc2 hc3 hc4 hy;rw[hi2];clear hi2;clear hu;have HI:=zH hi;clear hi
   gi_wp2
   refine hR.mono ?_;rintro e W3 (⟨rfl,hJ3,hk3⟩|⟨rfl,wBI⟩)
   ·gi_wp2
    go_roundw
    case rel=>exact⟨k+1,zO,by go_num,by rw[HU.out,HI.out];exact hJ3,hnx.t hk3⟩
    case measure=>simp[intOf]
   ·gi_wp2
    refine bodyPost_ret (results_none rfl _ _ _) rfl ?_;exact⟨⟨_,rfl⟩,.inr ⟨_,⟨k+1,zO,by rw[HU.out,HI.out]⟩,wBI⟩⟩
  ·obtain rfl:k=len:=zO
   gi_wp2
   go_end0;exact⟨⟨_,rfl⟩,.inl ⟨_,rfl,hJs⟩⟩
set_option maxRecDepth 100000 in
theorem qel (n l Bs c:Nat) (A:OA) (J:List Nat->World->Prop) (W:World) (hBs:W.cell? ⟨Bs,0,none⟩=some (.slice A 0 c)) (h0:J [] W):CallsIn Fence.wide n prog 197 #[.func (.yield l) #[] #[],.pointer (some ⟨Bs,0,none⟩)] W fun e W'=>(∃ v,e=.returned v)/\J [] W':=by
 refine callsIn_of_wp func197 rfl trivial ?_ rfl;simp only[ntmps197,List.size_toArray,List.length_cons,List.length_nil,Nat.reduceAdd,Nat.reduceSub,Array.replicate_succ,Array.replicate_zero,List.push_toArray,List.append_toArray,List.nil_append,List.cons_append]
 gi_wp2
 gi_loopw [3] (fun i wr=>i=.int .i64 (-1)/\J [] wr) (fun _ _=>0)
 case atStart=>exact⟨rfl,h0⟩
 case round =>
  obtain⟨rfl,hJs⟩:=hrel
  gi_wp2
  go_end0;exact⟨⟨_,rfl⟩,hJs⟩
def SWi (W:World) (Bs b:Nat) (v:Value) (us:List Ui):Prop:=
 W.cell? ⟨Bs,0,none⟩=some v/\((us=[]/\∃ A c,v=.slice A 0 c)\/∃ off cap,v=.slice (some ⟨b,off,none⟩) us.length cap/\∀ i,i<us.length->W.cell? ⟨b,off+i*5,none⟩=some (.int .u8 (us[i]?.getD uiz).1.k)/\W.cell? ⟨b,off+i*5+1,none⟩=some (.int .u32 (us[i]?.getD uiz).1.i)/\W.cell? ⟨b,off+i*5+2,none⟩=some (.int .u32 (us[i]?.getD uiz).1.o)/\W.cell? ⟨b,off+i*5+3,none⟩=some (.int .i64 (us[i]?.getD uiz).1.r)/\W.cell? ⟨b,off+i*5+4,none⟩=some (sv (us[i]?.getD uiz).2))
theorem SWi.keep {W W':World} {Bs b:Nat} {v:Value} {us:List Ui} (h:SWi W Bs b v us) (hk:Qy Bs b W W'):SWi W' Bs b v us:=by
 refine⟨(World.cell?_of_block (w:=W) hk.1).trans h.1,?_⟩;rcases h.2 with h|⟨off,cap,e,hc⟩
 ·exact .inl h
 ·exact .inr ⟨off,cap,e,fun i hi=>⟨(World.cell?_of_block (w:=W) hk.2).trans (hc i hi).1,(World.cell?_of_block (w:=W) hk.2).trans (hc i hi).2.1,(World.cell?_of_block (w:=W) hk.2).trans (hc i hi).2.2.1,(World.cell?_of_block (w:=W) hk.2).trans (hc i hi).2.2.2.1,(World.cell?_of_block (w:=W) hk.2).trans (hc i hi).2.2.2.2⟩⟩
theorem qfz (n:Nat) (hn:1<=n) (Bs b:Nat) (v:Value) (us:List Ui) (hJR:us.length<1099511627776) (w:World) (hBs:Bs<w.heap.size) (hb:b<w.heap.size) (hS:SWi w Bs b v us):SeqStopsK Fence.wide n prog 197 #[.pointer (some ⟨Bs,0,none⟩)] (fun x:Nat=>#[.int .i64 (x:Int),.agg #[.int .u8 (us[x]?.getD uiz).1.k,.int .u32 (us[x]?.getD uiz).1.i,.int .u32 (us[x]?.getD uiz).1.o,.int .i64 (us[x]?.getD uiz).1.r,sv (us[x]?.getD uiz).2]]) (Qy Bs b) (fun ys=>ys=jw (fun j=>us.length-1-j) us.length)
   (fun pre=>∃ k,k<=us.length/\pre=jw (fun j=>us.length-1-j) k) us.length w:=fun l J Jx W hW _ _ hY h0=>by
 obtain⟨hc,h⟩:=hS.keep (Qy.below hW hBs hb);rcases h with ⟨rfl,A,c,rfl⟩|⟨off,cap,rfl,hcs⟩
 ·exact(qel n l Bs c A J W hc h0).mono fun e W' ⟨he,hj⟩=>⟨he,.inl ⟨_,rfl,hj⟩⟩
 ·exact backi_in n hn l Bs b off us.length cap us hJR J Jx hY W hc hcs h0
theorem qcH (A m c) (w:World):Calls prog 172 #[.slice A m c] w (fun e w'=>e=.returned (.func (.func 197) #[] #[.pointer (some ⟨w.heap.size,0,none⟩)])/\w'=w.alloc (.cells #[.slice A m c] 55)):=by
 go_enter func172,ntmps172;go_wp2;go_ret;exact⟨rfl,rfl⟩
end Go.Proofs.YtmeadnlmepcmbaaGreat
