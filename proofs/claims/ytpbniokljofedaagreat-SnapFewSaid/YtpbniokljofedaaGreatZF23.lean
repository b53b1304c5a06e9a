/- Texts PutD, Once, RSeen, RNode, Way, Tall, LeaveW, joined. -/
import Derived.Test.YtpbniokljofedaaGreatZF06
import Derived.Test.YtpbniokljofedaaGreatZF10
import Derived.Test.YtpbniokljofedaaGreatZF14
import Derived.Test.YtpbniokljofedaaGreatZF15
import Derived.Test.YtpbniokljofedaaGreatZF17
import Derived.Test.YtpbniokljofedaaGreatZF20
import Derived.Test.YtpbniokljofedaaGreatZF21
import Derived.Test.YtpbniokljofedaaGreatZF22
set_option linter.unusedSimpArgs false
set_option linter.unusedVariables false
set_option maxHeartbeats 8000000
namespace Go.Proofs.YtpbniokljofedaaGreat
open Go.RowKit
theorem kI {S S':Sto} {lvl:Int} {l held up:List It} (hl:∀ x∈l,ZY x) (hh:∀ x∈held,(x.r=0∨8≤x.r)∧x.r<256) (hS:qm S=true) (e:QW S lvl l held=.ok (up,S')):qm S'=true∧(0<up.length∧up.length≤2)∧∀ y∈up,ZY y∧(8≤y.r∧y.r<256)∧y.val=[]:=by
 unfold QW at e
 split at e
 ·cases e
 ·rename_i up1 S1 e1
  split at e
  ·cases e
  ·rename_i t e2
   cases e
   obtain⟨h1,h2,h3⟩:=qbt (qem hl) hS e1
   refine⟨UT h1 (Jv (fun a ha=>by
    obtain⟨x,hx,rfl⟩:=List.mem_map.1 ha
    have:=hh x hx
    omega) (qz.1 h1).2.1 e2),?_,fun y hy=>?_⟩
   ·rw[h2]
    unfold vy
    split <;> simp
   ·obtain⟨⟨f,k1,k8,k9⟩,k2,p,hp,k3⟩:=h3 y hy
    have:=key0_ok (qem hl p hp)
    rw[←k3] at this
    obtain⟨a1,a2,a3⟩:=this
    exact⟨⟨a1,a2,a3,by rw[k1];omega,by rw[k2];simp⟩,by omega,k2⟩
theorem qfy {k:K3} {ps:List Stp} {j:Nat} {up:List It} {S:Sto} {e:Int} (h:ZR k (ps.take j) up S=.error e):ZR k ps up S=.error e:=by
 have:ps=ps.take j++ps.drop j:=(List.take_append_drop _ _).symm
 rw[this,kQ,h]
theorem To {W C:World} {U E:Nat} {u v u0 v0:Value} {ty1 ty2:TypeId} (hU:W.heap[U]?=some (.cells #[u0] ty1 (0,0))) (hE:W.heap[E]?=some (.cells #[v0] ty2 (0,0))) (hne:U≠E) (hC:C=(W.setCell ⟨U,0,none⟩ u).setCell ⟨E,0,none⟩ v) :
  C.heap[U]?=some (.cells #[u] ty1 (0,0))∧C.heap[E]?=some (.cells #[v] ty2 (0,0))∧(∀ k,k≠U→k≠E→C.heap[k]?=W.heap[k]?)∧C.heap.size=W.heap.size∧KeepsOthers W C∧∀ {B:Nat} {w0:World},B≤U→B≤E→Below B w0 W→Below B w0 C:=by
 subst hC
 have hs:=fun (A:World) (b j:Nat) (v:Value) (k:Nat) (hk:k≠b)=>zJ A ⟨b,j,none⟩ v k hk
 refine⟨?_,?_,fun k h1 h2=>?_,by simp,(KeepsOthers.setCell _ _ _).trans (KeepsOthers.setCell _ _ _),fun h1 h2 h=>Below.setCell (Below.setCell h (p:=⟨U,0,none⟩) h1 _) (p:=⟨E,0,none⟩) h2 _⟩
 ·rw[hs _ _ _ _ _ hne]
  exact qi hU 0 u
 ·refine qi (t:=ty2) (cs:=#[v0]) ?_ 0 v
  rw[hs _ _ _ _ _ (fun e=>hne e.symm)]
  exact hE
 ·rw[hs _ _ _ _ _ h2,hs _ _ _ _ _ h1]
def outTw (lo:Nat) (S:Sto):qS:=⟨(Nat×Nat)×(Option Addr×Nat)×(Option Addr×Nat),fun p=>qX (some ⟨p.1.1,0,none⟩) S.bs.length S.bs.length (some ⟨p.1.2,0,none⟩) S.ws.length (S.ws.length+1) p.2.1.1 S.now.length p.2.1.2 p.2.2.1 S.last.length p.2.2.2,fun p W=>QC lo S (qX (some ⟨p.1.1,0,none⟩) S.bs.length S.bs.length (some ⟨p.1.2,0,none⟩) S.ws.length (S.ws.length+1) p.2.1.1 S.now.length p.2.1.2 p.2.2.1 S.last.length p.2.2.2) W⟩
theorem Qu (lo:Nat) (S:Sto) (b c:Nat) (A3:Option Addr) (c3:Nat) (A4:Option Addr) (c4:Nat):(outTw lo S).f ((b,c),(A3,c3),(A4,c4))=qX (some ⟨b,0,none⟩) S.bs.length S.bs.length (some ⟨c,0,none⟩) S.ws.length (S.ws.length+1) A3 S.now.length c3 A4 S.last.length c4:=rfl
structure PutD (q:Except Int (List It×Sto)) (B0 lo b g UB TB D:Nat) (w W:World):Prop where
 ex:∃ (ups:List It) (S':Sto) (k':Option Nat) (D':Nat→Prop) (Au:Option Addr) (cu:Nat) (hps:List (It×Value)),q=.ok (ups,S')∧qm S'=true∧0<ups.length∧hps.map (·.1)=ups ∧
  W.heap[UB]?=some (.cells #[.slice Au ups.length cu] 47 (0,0))∧W.ownsRow 0 68 5 (.slice Au ups.length cu) ups.length (qQ hps)∧Bch D' B0 lo b g k' S' W∧∀ y∈ups,(y.r=0∨8≤y.r)∧y.r<256
 r2:W.heap[B0+2]?=some (.cells #[.slice none 0 0,.slice none 0 0,.slice none 0 0,.slice none 0 0] 28 (0,0))
 r3:W.heap[B0+3]?=some (.cells #[.int .i64 0] 3 (0,0))
 r4:W.heap[B0+4]?=some (.cells #[.int .i64 0] 36 (0,0))
 rT:W.heap[TB]?=some (.cells #[.pointer (some ⟨b,0,none⟩)] 80 (0,0))
 hK:W.heap[D]?=some (.deferred (some []))
 below:Below B0 w W
theorem Bch.kept {D:Nat→Prop} {B lo b g:Nat} {k:Option Nat} {S:Sto} {w W:World} (h:Bch D B lo b g k S w) (hB:Below B w W) (hr:∀ q,lo≤q→q<w.heap.size→W.heap[q]?=w.heap[q]?):Bch D B lo b g k S W:=
 h.keep hB fun q hq=>hq.elim (fun h2=>hr q (h.b3 q h2).1 (h.b3 q h2).2) fun h2=>hr q (h.dB q h2).1 (h.dB q h2).2.1
def Zu:qS:=⟨Unit,fun _=>undef,fun _ _=>True⟩
theorem Qc (u:Unit):Zu.f u=undef:=rfl
theorem Zh {R:Rel}:∀ p,qD R (Zu.φ p):=fun _ _ _ _ _=>trivial
theorem jq {P:Program} {o:Oper} {a:Act} {W W':World} (hr:(execOp a.eval o).run P W=.ok .skip W') (hx:Ext W W'):QG ql P o a W Zu:=vq hr ⟨(),rfl,trivial,hx⟩
theorem same1 {w:World} {b:Nat} {x0:Value} {ty:TypeId} (h:w.heap[b]?=some (.cells #[x0] ty (0,0))):Ext w (w.setCell ⟨b,0,none⟩ x0):=Qk h rfl
theorem same4 {w:World} {b:Nat} {x0 x1 x2 x3:Value} {ty:TypeId} (h:w.heap[b]?=some (.cells #[x0,x1,x2,x3] ty (0,0))):Ext w ((((w.setCell ⟨b,0,none⟩ x0).setCell ⟨b,1,none⟩ x1).setCell ⟨b,2,none⟩ x2).setCell ⟨b,3,none⟩ x3):=by
 have e0:=Qk (j:=0) (v:=x0) h rfl
 have h0:=qb h e0
 have e1:=Qk (j:=1) (v:=x1) h0 rfl
 have h1:=qb h0 e1
 have e2:=Qk (j:=2) (v:=x2) h1 rfl
 have h2:=qb h1 e2
 exact((e0.trans e1).trans e2).trans (Qk (j:=3) (v:=x3) h2 rfl)
def Jw (B:Nat) (ty:TypeId) (Φ:Array Value→World→Prop) (hΦ:∀ cs W W',W.grownBy W' (some B)→Φ cs W→Φ cs W'):Rel where
 rel W W':=W.grownBy W' (some B)∧(B<W.heap.size→W'.heap[B]?=W.heap[B]?∨∃ cs,W'.heap[B]?=some (.cells cs ty (0,0))∧Φ cs W')
 refl' W:=⟨World.grownBy.refl _ _,fun _=>.inl rfl⟩
 trans' h k:=⟨h.1.trans k.1,fun hb=>by
  rcases k.2 (Nat.lt_of_lt_of_le hb h.1.size) with e|e
  ·rw[e]
   rcases h.2 hb with e1|⟨cs,e1,e2⟩
   ·exact .inl e1
   ·exact .inr ⟨cs,e1,hΦ _ _ _ k.1 e2⟩
  ·exact .inr e⟩
 drew' W:=⟨⟨rfl,rfl,rfl,zM _,fun _ _ _=>rfl⟩,fun _=>.inl rfl⟩
section
variable {B:Nat} {ty:TypeId} {Φ:Array Value→World→Prop} {hΦ:∀ cs W W',W.grownBy W' (some B)→Φ cs W→Φ cs W'}
theorem qgi {W W':World} (h:Ext W W'):(Jw B ty Φ hΦ).r W W':=⟨Zr h _,fun hb=>.inl (h.block B hb)⟩
theorem Vc {W W':World} (h:(Jw B ty Φ hΦ).r W W') {b:Nat} {o:Obj} (hp:b≠B) (hc:W.heap[b]?=some o):W'.heap[b]?=some o:=
 (h.1.block b (zG.1 hc).1 (fun x=>hp (by simpa using x))).trans hc
theorem qac {W W':World} (h:(Jw B ty Φ hΦ).r W W') {o:Obj} (hc:W.heap[B]?=some o):W'.heap[B]?=some o∨∃ cs,W'.heap[B]?=some (.cells cs ty (0,0))∧Φ cs W':=by
 have:=h.2 (zG.1 hc).1
 rwa [hc] at this
theorem Tl {W W':World} {B0:Nat} (h:(Jw B ty Φ hΦ).r W W') (h1:B0≤B) (h2:B0≤W.heap.size):Below B0 W W':=(Below.refl _ _).grown h.1 h2 (fun g hg=>by simp at hg;omega)
theorem Tm {W W':World} (h:(Jw B ty Φ hΦ).r W W') {k:Nat} (hk:k<W.heap.size) (hp:k≠B):W'.heap[k]?=W.heap[k]?:=h.1.block k hk fun x=>hp (by simpa using x)
theorem qaM {lo:Nat} {S:Sto} (hB:B<lo):∀ p,qD (Jw B ty Φ hΦ) ((outTw lo S).φ p):=fun p W W' he h =>
 QC.keep h (zM _) he.1.size fun b h1 hb=>Tm he hb (by omega)
def Ys (B:Nat) (ty:TypeId) (Φ:Array Value→World→Prop):qS:=⟨Unit,fun _=>undef,fun _ W=>∃ cs,W.heap[B]?=some (.cells cs ty (0,0))∧Φ cs W⟩
theorem Qp (u:Unit):(Ys B ty Φ).f u=undef:=rfl
theorem GQ:∀ p,qD (Jw B ty Φ hΦ) ((Ys B ty Φ).φ p):=fun _ W W' he ⟨cs,h1,h2⟩=>by
 rcases qac he h1 with e|e
 ·exact⟨cs,e,hΦ _ _ _ he.1 h2⟩
 ·exact e
theorem qdK {P:Program} {o:Oper} {a:Act} {W w':World} {cs:Array Value} (hr:(execOp a.eval o).run P W=.ok .skip w') (hg:W.grownBy w' (some B)) (hw:w'.heap[B]?=some (.cells cs ty (0,0))) (hp:Φ cs W):QG (Jw B ty Φ hΦ) P o a W (Ys B ty Φ):=
 vq hr ⟨(),rfl,⟨cs,hw,hΦ _ _ _ hg hp⟩,hg,fun _=>.inr ⟨cs,hw,hΦ _ _ _ hg hp⟩⟩
end
def ZN (lo:Nat) (S:Sto) (cs:Array Value) (W:World):Prop:=∃ x0 x1 x2 x3,cs=#[x0,x1,x2,x3]∧QC lo S (.agg cs) W
theorem ZN.keep {lo:Nat} {S:Sto} {B:Nat} (hB:B<lo):∀ cs W W',W.grownBy W' (some B)→ZN lo S cs W→ZN lo S cs W':=fun cs W W' hg h=>by
 obtain⟨x0,x1,x2,x3,e,hT⟩:=h
 exact⟨x0,x1,x2,x3,e,QC.keep hT (zM _) hg.size fun k h1 hk=>hg.block k hk fun e=>by simp at e;omega⟩
theorem qdL {P:Program} {o:Oper} {a:Act} {W:World} {lo B:Nat} {S:Sto} {ty:TypeId} {x0 x1 x2 x3:Value} (hB:B<lo) (h:∃ u0 u1 u2 u3,W.heap[B]?=some (.cells #[u0,u1,u2,u3] ty (0,0))) (hT:QC lo S (.agg #[x0,x1,x2,x3]) W)
  (hr:(execOp a.eval o).run P W=.ok .skip ((((W.setCell ⟨B,0,none⟩ x0).setCell ⟨B,1,none⟩ x1).setCell ⟨B,2,none⟩ x2).setCell ⟨B,3,none⟩ x3)) :
  QG (Jw B ty (ZN lo S) (ZN.keep hB)) P o a W (Ys B ty (ZN lo S)):=by
 obtain⟨u0,u1,u2,u3,h⟩:=h
 exact qdK hr (Qt.trans (Qt.trans (Qt.trans Qt))) (vz h x0 x1 x2 x3) ⟨x0,x1,x2,x3,rfl,hT⟩
theorem twin_own {W W':World} {lo B:Nat} {S:Sto} {ty:TypeId} (hB:B<lo) {u0 u1 u2 u3:Value} (h:(Jw B ty (ZN lo S) (ZN.keep hB)).r W W') (hc:W.heap[B]?=some (.cells #[u0,u1,u2,u3] ty (0,0))):∃ u0 u1 u2 u3,W'.heap[B]?=some (.cells #[u0,u1,u2,u3] ty (0,0)):=by
 rcases qac h hc with e|⟨cs,e,x0,x1,x2,x3,rfl,_⟩
 ·exact⟨_,_,_,_,e⟩
 ·exact⟨_,_,_,_,e⟩
end Go.Proofs.YtpbniokljofedaaGreat
namespace Go.Proofs.YtpbniokljofedaaGreat
open Go.RowKit Go.Shelf
attribute [local go_sem] Oper.semAt_some
theorem GZ {n b D:Nat} {v:Value} {R:Ending→World→Prop} {a:Act} {W:World} (h4:a.tmps[4]?.getD undef=.pointer (some ⟨b+1+1,0,none⟩)) (hd:a.defers=[{ target:=.collected D,args:=#[] }])
  (hK:W.heap[D]?=some (.deferred (some []))) (hD:b+2<D) (hB:W.heap[b+2]?=some (.cells #[v] 26 (0,0)))
  (hR:∀ W',W'=W.putObj D (.deferred none)→R (.returned v) W') :
  bodyPostM Fence.wide n Tryz.prog Tryz.f50 R .ret a W:=by
 have k4:=qa ((World.putObj_heap_other (o:=.deferred none) (show b+2≠D by omega)).trans hB)
 change LeavesInM Fence.wide n Tryz.prog Tryz.f50 a.tmps R a.defers .returning W
 rw[hd]
 refine⟨by simp,.inl ⟨_,_,rfl,run_takeDeferred hK,v,?_,hR _ rfl⟩⟩
 simp[results,Tryz.results50,go_sem,h4,k4]
set_option maxRecDepth 100000 in
theorem qiq (A1:Option Addr) (n1 c1:Nat) (A2:Option Addr) (n2 c2:Nat) (S:Sto) (hS:qm S=true) (m:Nat) (hm:m<256) (w:World) (hb:Bls w w.heap.size (.slice A1 n1 c1) S.bs) (hw:Wrs w w.heap.size (.slice A2 n2 c2) S.ws) :
  Calls Tryz.prog 50 #[KJ A1 n1 c1 A2 n2 c2,.int .i64 (m:Int)] w (zo (fun u W=>Bys W W.heap.size u (Jl S m)) w):=by
 obtain⟨hl1,hl2,hl3,hl4⟩:=qU hS
 have hbl:=QY hS
 have hseen:Jl S m=match jC S.ws m with|some l=>l|none=>S.bs[m]:=by
  unfold Jl;rw[zL (by omega)];rfl
 obtain⟨hn1,hc1,hm1,hA1⟩:=hb.at_
 obtain⟨b1,o1,rfl,hb1⟩:=hA1 (by omega)
 obtain⟨A0,c0,hcb,hbyb⟩:=hb.get (bs:=S.bs) m (by omega)
 have hn1':n1=256:=by rw[hn1,hl1]
 generalize S.bs[m]=l0 at *
 generalize Jl S m=l at *
 generalize hwsE:S.ws=ws at *
 obtain⟨ps,hps,⟨A2',c2',e2,hw1,hw2,hw3⟩,hw4⟩:=hw
 rw[←hps] at hseen e2 hw1 hw3 hl2
 clear hn1 hS hl1 hl3 hl4 hA1 hbl hwsE hb
 subst hn1'
 simp only[Value.slice.injEq] at e2
 obtain⟨rfl,hw5,rfl⟩:=e2
 rw[←hw5] at hw1 hw3 hl2
 replace hw5:=zH hw5
 replace hseen:=zH hseen
 have hpl:ps.length=n2:=by rw[hw5.out];simp
 obtain⟨us,hus⟩:∃ us:List W2,us=ps.map fun p=>((p.1.1,VI p.2):W2):=⟨_,rfl⟩
 have hul:us.length=n2:=by rw[hus,List.length_map,hpl]
 have hua:∀ j,(us[j]?.getD w2z).1=atN ws j:=fun j=>by
  unfold atN
  rw[hus,←hps,List.getElem?_map,List.getElem?_map]
  cases ps[j]? <;> rfl
 have hud:∀ j W,Ext w W→Bys W W.heap.size (sv (us[j]?.getD w2z).2) (datN ws j):=fun j W hx=>by
  unfold datN
  rw[hus,←hps,List.getElem?_map,List.getElem?_map]
  rcases hj:ps[j]? with _|p
  ·exact⟨none,0,rfl,zM _,by unfold maxLen;omega,by simp,fun hn=>absurd hn (by simp)⟩
  ·obtain⟨⟨A',c',e'⟩,hy⟩:=hw4 p (List.mem_of_getElem? hj)
   have:sv (VI p.2)=p.2:=by rw[e'];rfl
   simp only[Option.map_some,Option.getD_some]
   rw[this]
   exact(hy.below hx).more hx.size
 refine(callsIn_wide (n:=3)).1 ?_
 refine callsIn_of_wp_marks Tryz.func50 rfl trivial ?_ rfl
 simp only[Tryz.ntmps50,List.size_toArray,List.length_cons,List.length_nil,Nat.reduceAdd,Nat.reduceSub,Array.replicate_succ,Array.replicate_zero,List.push_toArray,List.append_toArray,List.nil_append,List.cons_append]
 refine wpIn_wide.2 ?_
 go_wp2_with fail
 generalize hw1':(World.alloc (World.alloc (World.alloc w _) _) _)=w2
 have x2:Ext w w2:=by rw[←hw1'];exact((zN _ _).trans (zN _ _)).trans (zN _ _)
 have s2:w.heap.size+3≤w2.heap.size:=by rw[←hw1'];simp
 have ra2:w2.heap[w.heap.size]?=some (.cells #[.slice (some ⟨b1,o1,none⟩) 256 c1,.slice A2 n2 c2] 25 (0,0)):=by rw[←hw1'];exact(zK _ _ _ (by simp <;> omega)).trans ((zK _ _ _ (by simp <;> omega)).trans (zI _ _ _ rfl))
 have rb2:w2.heap[w.heap.size+1]?=some (.cells #[.int .i64 (m:Int)] 3 (0,0)):=by rw[←hw1'];exact(zK _ _ _ (by simp <;> omega)).trans (zI _ _ _ (by simp))
 have rc2:w2.heap[w.heap.size+2]?=some (.cells #[.slice none 0 0] 26 (0,0)):=by rw[←hw1'];exact zI _ _ _ (by simp)
 clear hw1'
 have ka2:=qa ra2
 have kb2:=qa rb2
 refine(YF A2 n2 c2 w2).mono ?_
 rintro e w3 ⟨rfl,rfl⟩
 go_wp2_with fail
 have x5:Ext w2 (w2.alloc (.cells #[.slice A2 n2 c2] 23)):=zN _ _
 obtain⟨b2,hb2,hSW⟩:∃ b2,b2<w.heap.size∧SW (w2.alloc (.cells #[.slice A2 n2 c2] 23)) w2.heap.size b2 (.slice A2 n2 c2) us:=by
  have hbox:(w2.alloc (.cells #[.slice A2 n2 c2] 23)).cell? ⟨w2.heap.size,0,none⟩=some (.slice A2 n2 c2):=by rw[qa (zI _ _ _ rfl)];rfl
  by_cases hz:n2=0
  ·have:us=[]:=List.length_eq_zero_iff.1 (by omega)
   exact⟨b1,hb1,hbox,.inl ⟨this,A2,c2,by rw[hz]⟩⟩
  ·obtain⟨b2,o2,rfl,hlt,hc⟩:=hw3.2 (by omega)
   refine⟨b2,hlt,hbox,.inr ⟨o2,c2,by rw[hul],fun i hi=>?_⟩⟩
   have hi':i<ps.length:=by omega
   obtain⟨g0,g1⟩:=VP ps i hi'
   have hx:=x2.trans x5
   rw[hus]
   refine⟨?_,?_⟩
   ·rw[Ext.cell hx (hc _ _ g0),List.getElem?_map,zL hi'];rfl
   ·obtain⟨⟨A',c',e'⟩,_⟩:=hw4 ps[i] (List.getElem_mem hi')
    rw[Nat.add_assoc,Ext.cell hx (hc _ _ g1),List.getElem?_map,zL hi']
    simp only[Option.map_some,Option.getD_some]
    rw[e']
    rfl
 clear hus hw3
 replace hua:=zH hua
 replace hud:=zH hud
 refine(wpIn_wide (n:=3)).1 ?_
 refine wpIn_rangeFunc_ownH rfl (by omega) (gf:=141) (lb:=#[.pointer (some ⟨w2.heap.size,0,none⟩)]) rfl trivial (enters_of Tryz.func141 (by kernel_rfl) rfl)
  (qdk (3-1) (by omega) w2.heap.size b2 _ _ (by rw[hul];omega) _ (by simp) (by simp;omega) hSW) Qr.t (Qr.b (by simp) (by simp;omega)) (Below.refl _ _) (fun _=>rfl)
  (fun pre W'=>((W'.heap[w.heap.size]?=some (.cells #[.slice (some ⟨b1,o1,none⟩) 256 c1,.slice A2 n2 c2] 25 (0,0))∧W'.heap[w.heap.size+1]?=some (.cells #[.int .i64 (m:Int)] 3 (0,0)))∧(W'.heap[w.heap.size+2]?=some (.cells #[.slice none 0 0] 26 (0,0))∧W'.heap[w2.heap.size]?=some (.cells #[.slice A2 n2 c2] 23 (0,0))))∧(Below w.heap.size w W'∧∀ y∈pre,atN ws y≠(m:Int)))
  (fun c pre W'=>(∃ pre' x Wb,c=.ret∧pre=pre'++[x]∧atN ws x=(m:Int)∧(∀ y∈pre',atN ws y≠(m:Int))∧Wb.heap[w.heap.size+2]?=some (.cells #[sv (us[x]?.getD w2z).2] 26 (0,0))∧Qf Wb W')∧Below w.heap.size w W')
  (OwnFrom.and (OwnFrom.and (OwnFrom.and (Qs _ _ _ _) (Qs _ _ _ _)) (OwnFrom.and (Qs _ _ _ _) (Qs _ _ _ _))) (OwnFrom.and (ownFrom_below (zM _) (by simp;omega)) (Kg _ _)))
  (fun c=>OwnFrom.and (fun s A C row hs hg hr=>by
   obtain⟨pre',x,Wb,h1,h2,h3,h4,h5,h6⟩:=hs
   exact⟨pre',x,Wb,h1,h2,h3,h4,h5,h6.grown hg fun r e=>(hr r e).2⟩) (ownFrom_below (zM _) (by simp;omega)))
  ⟨⟨⟨qb ra2 x5,qb rb2 x5⟩,⟨qb rc2 x5,zI _ _ _ rfl⟩⟩,x2.trans x5,fun y hy=>by cases hy⟩
  (fun x a' W'=>∃ t8,a'={ tmps:=#[KJ (some ⟨b1,o1,none⟩) 256 c1 A2 n2 c2,.int .i64 (m:Int),.pointer (some ⟨w.heap.size,0,none⟩),.pointer (some ⟨w.heap.size+1,0,none⟩),.pointer (some ⟨w.heap.size+1+1,0,none⟩),undef,.pointer (some ⟨t8,0,none⟩),.pointer (some ⟨w.heap.size,1,none⟩),.slice A2 n2 c2,.func (.func 141) #[] #[.pointer (some ⟨w2.heap.size,0,none⟩)],
    .int .i64 (x:Int),.agg #[.int .i64 (us[x]?.getD w2z).1,sv (us[x]?.getD w2z).2],undef,undef,undef,undef,undef,undef,undef,undef,undef,undef,undef],defers:=[] }∧W'.heap[t8]?=some (.cells #[.int .i64 (us[x]?.getD w2z).1,sv (us[x]?.getD w2z).2] 130 (0,0)))
  (fun x a' s A C row hs hg hr=>by
   obtain⟨t8,e,h⟩:=hs
   exact⟨t8,e,Qs (β:=Unit) _ _ _ _ () A C row h hg hr⟩) ?assign ?body ?done ?stop
 case assign =>
  rintro l' pre x W' K ⟨⟨⟨i1,i2⟩,⟨i3,i7⟩⟩,i4,i5⟩ hK
  gi_wp2
  have z1:=(zG.1 i1).1
  have z2:=(zG.1 i2).1
  have z3:=(zG.1 i3).1
  have z7:=(zG.1 i7).1
  have z4:=i4.size
  refine hK _ _ ((KeepsOthers.alloc _ _).from _) ⟨zK _ _ _ z7,zK _ _ _ (by omega)⟩ ⟨⟨⟨(zK _ _ _ z1).trans i1,(zK _ _ _ z2).trans i2⟩,⟨(zK _ _ _ z3).trans i3,(zK _ _ _ z7).trans i7⟩⟩,Below.alloc i4 z4 _,i5⟩ ⟨W'.heap.size,rfl,zI _ _ _ rfl⟩
 case body =>
  rintro l' pre x a' W' hl ⟨rr,hlp⟩ ⟨⟨⟨i1,i2⟩,⟨i3,i7⟩⟩,i4,i5⟩ ⟨t8,rfl,hr8⟩ _
  have hax:=hua.out x
  generalize hu9:(us[x]?.getD w2z)=u9 at *
  obtain⟨a9,A9,n9,c9⟩:=u9
  simp only at hax
  subst hax
  have k8:=qa hr8
  have k2:=qa i2
  have k3:=qa i3
  have f3:=qd i3
  replace i5:=zH i5
  replace hu9:=zH hu9
  clear ka2 kb2
  by_cases hq:atN ws x=(m:Int)
  ·have hqe:(atN ws x == (m:Int))=true:=by rw[beq_iff_eq];exact hq
   replace hq:=zH hq
   gi_wp2_with fail
   refine⟨(KeepsOthers.setCell _ _ _).from _,⟨rfl,pre,x,rfl,hq.out,i5.out,_,?_,Qf.refl _⟩,Below.setCell i4 (p:=⟨w.heap.size+1+1,0,none⟩) (by simp;omega) _⟩
   rw[hu9.out]
   exact qi i3 0 _
  ·have hqe:(atN ws x == (m:Int))=false:=by rw[beq_eq_false_iff_ne];exact hq
   replace hq:=zH hq
   gi_wp2_with fail
   refine⟨KeepsFrom.refl _ _,Qr.refl _ _ _,⟨⟨i1,i2⟩,⟨i3,i7⟩⟩,i4,fun y hy=>?_⟩
   rcases List.mem_append.1 hy with h|h
   ·exact i5.out y h
   ·obtain rfl:y=x:=by simpa using h
    exact hq.out
 case done =>
  rintro D ys W' hD rfl ⟨⟨⟨i1,i2⟩,⟨i3,_⟩⟩,i4,i5⟩ hK
  have h0:=qfc (ws:=ws) (a:=(m:Int)) (by rw[show ws.length=us.length by rw[hul,←hpl,←hps,List.length_map]];exact i5)
  have hll:l=l0:=by rw[hseen.out,hps,h0]
  have hcb':=Ext.cell i4 hcb
  rw[←hll] at hcb' hbyb
  clear h0 hll hcb
  have k1:=qa i1
  have k2:=qa i2
  have k3:=qa i3
  have f3:=qd i3
  have im:(m:Int)<256:=by omega
  have im2:decide (m<256)=true:=decide_eq_true hm
  replace i5:=zH i5
  replace hbyb:=zH hbyb
  clear ka2 kb2 hw4 hw5
  go_wp2_with fail
  have hDw:w.heap.size+2<D:=by simp at hD;omega
  have q3:=qi i3 0 (.slice A0 l.length c0)
  have qK:=(zJ W' ⟨w.heap.size+1+1,0,none⟩ (.slice A0 l.length c0) D (by simp;omega)).trans hK
  have qx:=Below.setCell i4 (p:=⟨w.heap.size+1+1,0,none⟩) (by simp;omega) (.slice A0 l.length c0)
  generalize World.setCell W' _ _=wf at *
  exact GZ (b:=w.heap.size) rfl rfl qK hDw q3 (fun W' e=>by
   have hX:Ext w W':=e ▸ qx.trans (belowK_b (w:=w) (zM _) wf D _ _ (by omega) qK rfl rfl)
   exact⟨_,rfl,(hbyb.out.below hX).more hX.size,hX⟩)
 case stop =>
  rintro D c pre W' hD ⟨k,hk,hpre⟩ ⟨⟨pre',x,Wb,rfl,rfl,hx,hpp,hRB,hCK⟩,i4⟩ hK
  gi_wp2_with fail
  have hDw:w.heap.size+2<D:=by simp at hD;omega
  have hl2:l=datN ws x:=by rw[hseen.out,hps,qfd (ws:=ws) (k:=k) (by rw[←hps,List.length_map,hpl,←hul];exact hk) (by rw[show ws.length=us.length by rw[hul,←hpl,←hps,List.length_map]];exact hpre) hx hpp]
  exact GZ (b:=w.heap.size) rfl rfl hK hDw (hCK.row hRB) (fun W'' e=>by
   have hX:Ext w W'':=e ▸ i4.trans (belowK_b (w:=w) (zM _) W' D _ _ (by omega) hK rfl rfl)
   exact⟨_,rfl,by rw[hl2];exact hud.out x W'' hX,hX⟩)
end Go.Proofs.YtpbniokljofedaaGreat
namespace Go.Proofs.YtpbniokljofedaaGreat
open Go.RowKit
theorem TM {R:Ending→World→Prop} {a:Act} {W:World} {b:Nat} {x0 x1 v:Value} (h4:a.tmps[4]?.getD undef=.pointer (some ⟨b,0,none⟩)) (h5:a.tmps[5]?.getD undef=v) (hd:a.defers=[])
  (hrow:W.heap[b]?=some (.cells #[x0,x1] 49 (0,0))) (hR:R (.returned (.tuple #[.agg #[x0,x1],v])) W):bodyPost Tryz.prog Tryz.f22 R .ret a W:=by
 refine bodyPost_ret (v:=.tuple #[.agg #[x0,x1],v]) ?_ hd hR
 have k:=qa hrow
 simp[results,Tryz.results22,go_sem,h4,h5,k]
set_option maxRecDepth 100000 in
theorem qii (A1:Option Addr) (n1 c1:Nat) (A2:Option Addr) (n2 c2:Nat) (A3:Option Addr) (n3 c3:Nat) (A4:Option Addr) (n4 c4:Nat) (S:Sto) (a:Int) (w:World) (h:qP w w.heap.size (.slice A1 n1 c1) (.slice A2 n2 c2) (.slice A3 n3 c3) (.slice A4 n4 c4) S) :
  Calls Tryz.prog 22 #[qX A1 n1 c1 A2 n2 c2 A3 n3 c3 A4 n4 c4,.int .i64 a] w (zo (qba w.heap.size (if Jd S a=0 then qu S a.toNat else none)) w):=by
 have HA:=zH (fun W (hx:Ext w W)=>GU A1 n1 c1 A2 n2 c2 A3 n3 c3 A4 n4 c4 S a W (h.ext hx))
 obtain⟨q,hq⟩:∃ q,(if Jd S a=0 then qu S a.toNat else none)=q:=⟨_,rfl⟩
 rw[hq]
 replace hq:=zH hq
 replace h:=zH h
 go_enter Tryz.func22,Tryz.ntmps22
 go_wp2_with fail
 generalize hw1:(World.alloc (World.alloc w _) _)=w1
 have x1:Ext w w1:=by rw[←hw1];exact(zN _ _).trans (zN _ _)
 have r1:w1.heap[w.heap.size]?=some (.cells #[.slice A1 n1 c1,.slice A2 n2 c2,.slice A3 n3 c3,.slice A4 n4 c4] 28 (0,0)):=by rw[←hw1];exact(zK _ _ _ (by simp)).trans (zI _ _ _ rfl)
 have q1:w1.heap[w.heap.size+1]?=some (.cells #[.int .i64 0,.slice none 0 0] 49 (0,0)):=by rw[←hw1];exact zI _ _ _ (by simp)
 clear hw1
 have k1:=qa r1
 go_wp2_with fail
 refine(HA.out w1 x1).mono ?_
 clear HA
 rintro e w2 ⟨rfl,hB⟩
 have x2:Ext w w2:=x1.trans hB
 have r2:=qb r1 hB
 have q2:=qb q1 hB
 have z2:w.heap.size+1<w2.heap.size:=(zG.1 q2).1
 clear hB r1 q1 x1 k1
 have k2:=qa r2
 have kq2:=qa q2
 have fq2:=qd q2
 by_cases hE:Jd S a=0
 ·obtain⟨hS,n,rfl,h8,h256,hc⟩:=Yi hE
  have hNA:q=QE (Jl S n):=by rw[←hq.out,if_pos hE,Int.toNat_natCast];unfold qu;exact if_neg hc
  rw[hE]
  clear hq
  have HS:=zH (fun W (hx:Ext w W)=>qiq A1 n1 c1 A2 n2 c2 S hS n h256 W ((h.out.bs.below hx).more hx.size) ((h.out.ws.below hx).more hx.size))
  have HR:=zH (fun v W (hv:Bys W W.heap.size v (Jl S n))=>qib v (Jl S n) W hv)
  replace hE:=zH hE
  replace hS:=zH hS
  replace hNA:=zH hNA
  replace hc:=zH hc
  generalize Jl S n=l at *
  go_wp2_with fail
  refine(HS.out w2 x2).mono ?_
  clear HS
  rintro e w3 ⟨u,rfl,hu,hB⟩
  have x3:Ext w w3:=x2.trans hB
  have q3:=qb q2 hB
  clear hB k2 r2 kq2 fq2 q2
  go_wp2_with fail
  refine(HR.out u w3 hu).mono ?_
  clear HR hu
  rintro e w4 ⟨u4,rfl,hu,hB⟩
  have hB:Ext w3 w4:=hB
  have x4:Ext w w4:=x3.trans hB
  have q4:=qb q3 hB
  have z3:=x3.size
  have z4:w.heap.size+1<w4.heap.size:=(zG.1 q4).1
  have z3q:w.heap.size+1<w3.heap.size:=(zG.1 q3).1
  clear hB q3
  have kq4:=qa q4
  have fq4:=qd q4
  rcases hQ:QE l with _|⟨lvl,xs⟩
  ·rw[hQ] at hu
   obtain⟨er,hne,rfl⟩:=hu
   have hq:q=none:=by rw[hNA.out,hQ]
   replace hq:=zH hq
   have hne2:(er != 0)=true:=by rw[bne_iff_ne];exact hne
   replace hne:=zH hne
   go_wp2_with fail
   generalize hwf:(World.alloc _ _)=wf
   have rf:wf.heap[w.heap.size+1]?=some (.cells #[.int .i64 0,.slice none 0 0] 49 (0,0)):=by rw[←hwf];exact(zK _ _ _ (by simpa using z4)).trans (qi (qi q4 0 _) 1 _)
   have bf:Below w.heap.size w wf:=by rw[←hwf];exact Below.alloc (Below.setCell (Below.setCell x4 (p:=⟨w.heap.size+1,0,none⟩) (by simp) _) (p:=⟨w.heap.size+1,1,none⟩) (by simp) _) (by simp;omega) _
   exact TM (b:=w.heap.size+1) rfl rfl rfl rf ⟨_,rfl,(by rw[hq.out];exact⟨8,by decide,rfl⟩),bf⟩
  ·rw[hQ] at hu
   obtain⟨A,c,rfl,hi⟩:=hu
   have hq:q=some (lvl,xs):=by rw[hNA.out,hQ]
   replace hq:=zH hq
   replace hi:=zH hi
   go_wp2_with fail
   generalize hwf:(World.alloc _ _)=wf
   have rf:wf.heap[w.heap.size+1]?=some (.cells #[.int .i64 lvl,.slice A xs.length c] 49 (0,0)):=by rw[←hwf];exact(zK _ _ _ (by simpa using z4)).trans (qi (qi q4 0 _) 1 _)
   have bf:Below w.heap.size w wf:=by rw[←hwf];exact Below.alloc (Below.setCell (Below.setCell x4 (p:=⟨w.heap.size+1,0,none⟩) (by simp) _) (p:=⟨w.heap.size+1,1,none⟩) (by simp) _) (by simp;omega) _
   have hfi:Zw w.heap.size wf (.slice A xs.length c) xs:=by
    refine(hi.out.keep (by have:=bf.size;rw[←hwf];simp) fun p h1 h2=>?_).mono z3
    rw[←hwf,World.cell?_alloc_lt _ _ _ (by simpa using h2),World.cell?_setCell_other _ _ _ _ (fun e=>by subst e;simp at h1;omega),World.cell?_setCell_other _ _ _ _ (fun e=>by subst e;simp at h1;omega)]
   exact TM (b:=w.heap.size+1) rfl rfl rfl rf ⟨_,rfl,(by rw[hq.out];exact⟨A,c,rfl,hfi⟩),bf⟩
 ·have hqn:=zH (show q=none by rw[←hq.out,if_neg hE])
  clear hq
  have hne:(Jd S a != 0)=true:=by rw[bne_iff_ne];exact hE
  generalize Jd S a=er at *
  go_wp2_with fail
  refine TM (b:=w.heap.size+1) rfl rfl rfl (qi (qi q2 0 _) 1 _) ⟨_,rfl,(by rw[hqn.out];exact⟨er,hE,rfl⟩),?_⟩
  exact Below.setCell (Below.setCell x2 (p:=⟨w.heap.size+1,0,none⟩) (by simp) _) (p:=⟨w.heap.size+1,1,none⟩) (by simp) _
structure WyI (S:Sto) (K:K3) (full:List Stp) (lo:Nat) (w1:World) (v i:Value) (wr:World):Prop where
 ex:∃ (h r:Nat) (ys:List It) (pre:List Stp) (Av:Option Addr) (cv:Nat),v=.slice Av pre.length cv∧i=.int .i64 (r:Int)∧8≤r∧r<256∧qu S r=some ((h:Int),ys)∧(Qd S h ys).isSome=true∧full=pre++vD S K h ys∧pre.length+h<6∧jO lo wr v pre∧Below lo w1 wr
set_option maxRecDepth 100000 in
theorem way_any (A1:Option Addr) (n1 c1:Nat) (A2:Option Addr) (n2 c2:Nat) (A3:Option Addr) (n3 c3:Nat) (A4:Option Addr) (n4 c4:Nat) (S:Sto) (hS:qm S=true) (a lvl:Nat) (xs:List It) (ha:8≤a) (ha2:a<256) (hn:qu S a=some ((lvl:Int),xs)) (hsp:(Qd S lvl xs).isSome=true) (k i o:Int) (w:World)
  (hst:qP w w.heap.size (.slice A1 n1 c1) (.slice A2 n2 c2) (.slice A3 n3 c3) (.slice A4 n4 c4) S) :
  Calls Tryz.prog 98 #[qX A1 n1 c1 A2 n2 c2 A3 n3 c3 A4 n4 c4,.int .i64 (a:Int),keyV k i o] w (zo (fun u W=>YW w.heap.size W u (vD S (k,i,o) lvl xs)) w):=by
 obtain⟨i0,hi,hz0,hz1,hz2⟩:=info_parts Tryz.info_step
 obtain⟨full,hfull⟩:∃ full,vD S (k,i,o) lvl xs=full:=⟨_,rfl⟩
 rw[hfull]
 have hl6:lvl<6:=by have:=ZO hn;omega
 have HI0:=zH (fun W=>(⟨⟨lvl,a,xs,[],none,0,rfl,rfl,ha,ha2,hn,hsp,hfull.symm,by simpa using hl6,jO.nil _ _,Below.refl _ _⟩⟩:WyI S (k,i,o) full W.heap.size W (.slice none 0 0) (.int .i64 (a:Int)) W))
 have HN:=zH (fun (r:Nat) W (hx:Ext w W)=>qii A1 n1 c1 A2 n2 c2 A3 n3 c3 A4 n4 c4 S (r:Int) W (hst.ext hx))
 replace hS:=zH hS
 replace hi:=zH hi
 clear hst hn hsp hfull ha ha2 hl6
 go_enter Tryz.func98,Tryz.ntmps98
 go_wp2_with fail
 generalize hw1:(World.alloc (World.alloc w _) _)=w1
 have x1:Ext w w1:=by rw[←hw1];exact(zN _ _).trans (zN _ _)
 have rs1:w1.heap[w.heap.size]?=some (.cells #[.slice A1 n1 c1,.slice A2 n2 c2,.slice A3 n3 c3,.slice A4 n4 c4] 28 (0,0)):=by rw[←hw1];exact(zK _ _ _ (by simp)).trans (zI _ _ _ rfl)
 have rk1:w1.heap[w.heap.size+1]?=some (.cells #[.int .u8 k,.int .u32 i,.int .u32 o] 66 (0,0)):=by rw[←hw1];exact zI _ _ _ (by simp)
 have z1:w.heap.size≤w1.heap.size:=by rw[←hw1];simp;omega
 clear hw1
 have I0:=zH (HI0.out w1)
 clear HI0
 go_wp2_with fail
 go_loopw [6,7] (fun v j wr=>WyI S (k,i,o) full w1.heap.size w1 v j wr) (fun _ j _=>Kn S j)
 case atStart=>exact I0.out
 case round =>
  obtain⟨h,r,ys,pre,Av,cv,rfl,rfl,h8,h256,hn,hsp,hfull,hlen,hso,xr⟩:=hrel.ex
  clear I0 hrel
  have hlv:=XU hn
  obtain⟨hm1,hm2,-⟩:=Qa hn
  have hyl:ys.length≤5:=by unfold Qe jz at hm1;simp at hm1;omega
  have hpos:0<h→0<ys.length:=fun h0=>qcp hm1 h0
  have xr1:Ext w1 wr:=xr
  have HNr:=HN.out r wr (x1.trans xr1)
  rw[show Jd S (r:Int)=0 by
   rw[qbU hS.out h8 h256,if_neg (show ¬zE S r=0 from fun e=>by unfold qu at hn;rw[if_pos (show (S.now[r]?.getD 0).toNat=0 from e)] at hn;cases hn)],if_pos rfl,Int.toNat_natCast,hn] at HNr
  have rsr:=qb rs1 xr1
  have rkr:=qb rk1 xr1
  have ksr:=qa rsr
  replace hsp:=zH hsp
  replace hn:=zH hn
  replace hm2:=zH hm2
  replace hfull:=zH hfull
  replace hso:=zH hso
  replace hlv:=zH hlv
  replace hpos:=zH hpos
  clear hm1
  go_wp2_with fail
  refine HNr.mono ?_
  clear HNr
  rintro e w4 ⟨u,rfl,⟨A9,c9,rfl,hits⟩,hB⟩
  have hB:Ext wr w4:=hB
  have xx4:Ext w1 w4:=xr1.trans hB
  have rk4:=qb rkr hB
  have so4:=zH (hso.out.ext hB)
  have z4:w.heap.size+1<w4.heap.size:=(zG.1 rk4).1
  have kk4:=qa rk4
  have zwr:w1.heap.size≤wr.heap.size:=xr.size
  have z4r:wr.heap.size≤w4.heap.size:=hB.size
  replace hits:=zH hits
  have hso':Hid (∀ q,(Value.slice Av pre.length cv).ownBlock=some q→q<wr.heap.size):=zH fun q hq=>by
   obtain⟨ps,-,ho,-⟩:=hso.out
   exact(QR ho q hq).2
  clear hB rsr rkr ksr hso xr xr1
  go_wp2_with fail
  generalize hw5:(World.alloc w4 _)=w5
  have x45:Ext w4 w5:=by rw[←hw5];exact zN _ _
  have rn5:w5.heap[w4.heap.size]?=some (.cells #[.int .i64 h,.slice A9 ys.length c9] 49 (0,0)):=by rw[←hw5];exact zI _ _ _ rfl
  clear hw5
  have rk5:=qb rk4 x45
  have kn5:=qa rn5
  have kk5:=qa rk5
  clear kk4
  go_wp2_with fail
  refine(qbD (h:Int) A9 c9 ys k i o _ w5 hyl (hits.out.ext x45)).mono ?_
  rintro e w6 ⟨rfl,hB⟩
  have x56:Ext w4 w6:=x45.trans hB
  have rn6:=qb rn5 hB
  have kn6:=qa rn6
  have hits6:=zH (hits.out.ext x56)
  have xx6:Ext w1 w6:=xx4.trans x56
  have so6:=zH (so4.out.ext x56)
  have z46:=x56.size
  have z4':=xx4.size
  clear rn5 x45 hB x56 rk4 rk5 kk5 kn5 xx4 hits so4
  obtain⟨ips,hips,hsx⟩:=hits6.out.toE (X:=OwnL w1.heap.size (.slice Av pre.length cv)) (fun q hq hx=>hx.elim (fun h1=>by have:=hso'.out q h1;omega) fun h1=>by omega)
  replace hsx:=zH hsx
  replace hips:=zH hips
  have hA:=hits6.out.its.at_.2.2.2
  clear hits6
  obtain⟨ie,hie⟩:∃ ie,KR ys (k,i,o)=ie:=⟨_,rfl⟩
  obtain⟨p,hp⟩:∃ p,qL ys (k,i,o)=p:=⟨_,rfl⟩
  have hplc:=JR ys (k,i,o)
  rw[hie,hp]
  rw[hp] at hplc
  obtain⟨ps,e0,ho,hpp⟩:=so6.out
  have hgr:∀ W':World,w6.grownBy W' (Value.slice Av pre.length cv).ownBlock→Qb (OwnL w1.heap.size (.slice Av pre.length cv)) w6 W':=fun W' hg=>Qb.of_heap fun q hq hX=>hg.block q hq fun e=>hX (.inl e.symm)
  replace hpp:=zH hpp
  replace hgr:=zH hgr
  clear so6
  rcases Nat.eq_zero_or_pos h with h0|h0
  ·have hh1:((h:Int) == 0)=true:=by rw[beq_iff_eq];omega
   have hh2:decide (h=0)=true:=decide_eq_true h0
   have hf2:full=pre++[(0,ys,p)]:=by rw[hfull.out,h0,qeT,hp]
   subst h0
   replace hf2:=zH hf2
   clear hA hpos hie hp
   go_wp2_with (at_builtin;refine qZ ?_)
   refine Qy.go (ZM w6 rfl (.tmp 28) (.tmp 32) 153 rfl w1.heap.size 160 i0 _ 3 40 Tryz.underlying153 hi.out hz0 hz1 hz2 rfl (by decide) (.slice Av pre.length cv) pre.length (ZZ ps) (by exact rfl) ho #[.int .i64 0,.slice A9 ys.length c9,.int .i64 (p:Int)] (by exact rfl) rfl (by simp[Value.oneCell']) (by omega) (by decide) xx6.size ?_)
   intro v' W' hown' hg hB hat
   have hF:jO w1.heap.size W' v' (pre++[(0,ys,p)]):=jO.push (s:=(0,ys,p)) xx6.size e0 hpp.out hips.out hsx.out hown' hg hat
   have hBW:Ext w W':=x1.trans (Below.trans xx6 hB)
   replace hF:=zH hF
   replace hBW:=zH hBW
   clear hown' hg hat hB
   go_wp2_with fail
   go_ret
   exact⟨_,rfl,by rw[hf2.out];exact hF.out.toE.mono z1,hBW.out⟩
  ·have hh1:((h:Int) == 0)=false:=by rw[beq_eq_false_iff_ne];omega
   have hh2:decide (h=0)=false:=decide_eq_false (by omega)
   obtain⟨h',hh⟩:∃ h',h=h'+1:=⟨h-1,by omega⟩
   obtain⟨j,hj⟩:∃ j,Ye ys (k,i,o)=j:=⟨_,rfl⟩
   have hjl:j<ys.length:=by rw[←hj];exact Jz (hpos.out h0)
   obtain⟨b',e1,f8,f256,zs,e4,e5⟩:=Jj (h:=h') (by rw[←hh];exact JV hsp.out _ (List.getElem_mem hjl))
   have hfl:full=(pre++[(h,ys,j)])++vD S (k,i,o) h' zs:=by
    rw[hfull.out,hh,qaq (by rw[hj];exact zL hjl) (by rw[e1,Int.toNat_natCast];exact e4),hj,List.append_assoc]
    rfl
   have hms:Kn S (.int .i64 (b':Int))<Kn S (.int .i64 (r:Int)):=by rw[XU e4,hlv.out];omega
   obtain⟨b9,off,rfl,hb9⟩:=hA (by omega)
   have hfin:∀ (v':Value) (W':World),w6.ownsRow w1.heap.size 160 3 (.slice Av pre.length cv) pre.length (ZZ ps)→W'.ownsRow w1.heap.size 160 3 v' (pre.length+1) (ZZ ps++[.int .i64 (h:Int),.slice (some ⟨b9,off,none⟩) ys.length c9,.int .i64 (j:Int)])→w6.grownBy W' (Value.slice Av pre.length cv).ownBlock→(v'.ownBlock=(Value.slice Av pre.length cv).ownBlock∨∃ g,v'.ownBlock=some g∧w6.heap.size≤g)→Below w1.heap.size w6 W' →
     WyI S (k,i,o) full w1.heap.size w1 v' (.int .i64 (b':Int)) W'∧Kn S (.int .i64 (b':Int))<Kn S (.int .i64 (r:Int)):=fun v' W' _ hown' hg hat hB=>by
    obtain⟨A7,c7,rfl,-,-⟩:=qv hown'
    have hF:jO w1.heap.size W' (.slice A7 (pre.length+1) c7) (pre++[(h,ys,j)]):=jO.push (s:=(h,ys,j)) xx6.size e0 hpp.out hips.out hsx.out hown' hg hat
    exact⟨⟨h',b',zs,_,A7,c7,by simp,rfl,f8,f256,e4,e5,hfl,by simp;omega,hF,Below.trans xx6 hB⟩,hms⟩
   have hit:∀ W':World,w6.grownBy W' (Value.slice Av pre.length cv).ownBlock→W'.cell? ⟨b9,off+j*5+3,none⟩=some (.int .i64 (b':Int))∧W'.heap[w4.heap.size]?=some (.cells #[.int .i64 (h:Int),.slice (some ⟨b9,off,none⟩) ys.length c9] 49 (0,0)):=fun W' hg=>by
    obtain⟨A',c',-,-,-,d3,-,-⟩:=(show Its W' W'.heap.size (.slice (some ⟨b9,off,none⟩) ys.length c9) ys by have:=hsx.out.its (hgr.out W' hg);rw[hips.out] at this;exact this).item j hjl
    rw[e1] at d3
    refine⟨d3,(hg.block _ (zG.1 rn6).1 fun e=>?_).trans rn6⟩
    have:=hso'.out _ e.symm
    omega
   replace hfin:=zH hfin
   replace hit:=zH hit
   replace hpos:=zH hpos
   replace hh:=zH hh
   clear hA hfl hms e4 e5 hsp hn hfull hlv hpp hgr
   have hcase:(ie=true∧p=j)∨(ie=false∧max (0:Int) ((p:Int)-1)=(j:Int)):=by
    unfold Ye at hj
    rw[hie,hp] at hj
    cases ie
    ·right
     refine⟨rfl,?_⟩
     simp only[Bool.false_eq_true,if_false] at hj
     omega
    ·left
     exact⟨rfl,by simpa using hj⟩
   clear hie hp hj
   rcases hcase with ⟨rfl,rfl⟩|⟨rfl,hmax⟩
   ·go_wp2_with (at_builtin;refine qZ ?_)
    refine Qy.go (ZM w6 rfl (.tmp 39) (.tmp 43) 153 rfl w1.heap.size 160 i0 _ 3 40 Tryz.underlying153 hi.out hz0 hz1 hz2 rfl (by decide) (.slice Av pre.length cv) pre.length (ZZ ps) (by exact rfl) ho #[.int .i64 (h:Int),.slice (some ⟨b9,off,none⟩) ys.length c9,.int .i64 (p:Int)] (by exact rfl) rfl (by simp[Value.oneCell']) (by omega) (by decide) xx6.size ?_)
    intro v' W' hown' hg hB hat
    obtain⟨d3,rnW⟩:=hit.out W' hg
    have knW:=qa rnW
    have hF:=zH (hfin.out v' W' ho hown' hg hat hB)
    clear hfin hit hown' hg hat hB ho
    go_wp2_with fail
    exact hF.out
   ·go_wp2_with (at_builtin;refine qZ ?_)
    refine Qy.go (ZM w6 rfl (.tmp 39) (.tmp 43) 153 rfl w1.heap.size 160 i0 _ 3 40 Tryz.underlying153 hi.out hz0 hz1 hz2 rfl (by decide) (.slice Av pre.length cv) pre.length (ZZ ps) (by exact rfl) ho #[.int .i64 (h:Int),.slice (some ⟨b9,off,none⟩) ys.length c9,.int .i64 (j:Int)] (by exact rfl) rfl (by simp[Value.oneCell']) (by omega) (by decide) xx6.size ?_)
    intro v' W' hown' hg hB hat
    obtain⟨d3,rnW⟩:=hit.out W' hg
    have knW:=qa rnW
    have hF:=zH (hfin.out v' W' ho hown' hg hat hB)
    clear hfin hit hown' hg hat hB ho
    go_wp2_with fail
    exact hF.out
def kt (s:Stp):Bool:=decide (s.2.1.length<5)
def ThinIx (l:List Stp) (u:Value):Prop:=(∃ j:Nat,u=.int .i64 (j:Int)∧l.any kt=true)∨(u=.int .i64 (-1)∧l.any kt=false)
set_option maxRecDepth 100000 in
theorem qit (lvl p:Int) (A:Option Addr) (n c:Nat) (w:World):Calls Tryz.prog 145 #[.agg #[.int .i64 lvl,.slice A n c,.int .i64 p]] w (Ret (.bool (decide (n<5))) w):=by
 go_enter Tryz.func145,Tryz.ntmps145
 by_cases h:n<5
 ·have h1:decide ((n:Int)<5)=true:=decide_eq_true (by omega)
  rw[decide_eq_true h]
  replace h:=zH h
  go_wp2
  go_ret
  exact⟨rfl,zN _ _⟩
 ·have h1:decide ((n:Int)<5)=false:=decide_eq_false (by omega)
  rw[decide_eq_false h]
  replace h:=zH h
  go_wp2
  go_ret
  exact⟨rfl,zN _ _⟩
set_option maxRecDepth 100000 in
theorem qiu (v:Value) (l:List Stp) (hl:l.length≤100) (w:World) (h:VA w.heap.size w v l) :
  Calls Tryz.prog 168 #[v,.func (.func 145) #[] #[]] w (zo (fun u _=>ThinIx l u) w):=by
 obtain⟨ps,hps,⟨A,c,rfl,hc1,hc2,hr⟩,hpp⟩:=h
 have hpl:ps.length=l.length:=by rw[←hps,List.length_map]
 replace hr:=zH hr
 replace hc2:=zH hc2
 go_enter Tryz.func168,Tryz.ntmps168
 go_wp2_with fail
 go_loopw [8] (fun i wr=>∃ k:Nat,k≤l.length∧i=.int .i64 (k:Int)∧Ext w wr∧(l.take k).any kt=false) (fun i _=>l.length-(intOf i).toNat)
 case atStart=>exact⟨0,Nat.zero_le _,rfl,Ext.refl _,rfl⟩
 case round =>
  obtain⟨k,hk,rfl,xr,hno⟩:=hrel
  replace hno:=zH hno
  by_cases hlt:k<l.length
  ·obtain⟨bv,offv,rfl,hbv,hcel⟩:=hr.out.2 (by omega)
   have hkp:k<ps.length:=by omega
   obtain⟨d0,d1,d2⟩:=Yj ps k hkp
   replace d0:=Ext.cell xr (hcel _ _ d0)
   replace d1:=Ext.cell xr (hcel _ _ d1)
   replace d2:=Ext.cell xr (hcel _ _ d2)
   rw[←Nat.add_assoc] at d1 d2
   obtain⟨Ax,cx,hx2⟩:=(hpp ps[k] (List.getElem_mem hkp)).1
   have hxe:ps[k].1=l[k]:=by simp only[←hps,List.getElem_map]
   rw[hx2,hxe] at d1
   rw[hxe] at d0 d2
   have HAT:=zH (fun (he:kt l[k]=true)=>show l.any kt=true from List.any_eq_true.2 ⟨l[k],List.getElem_mem hlt,he⟩)
   have HNO:=zH (fun (he:kt l[k]=false)=>show (l.take (k+1)).any kt=false by rw[List.take_succ_eq_append_getElem hlt,List.any_append,hno.out];simp[he])
   unfold kt at HAT HNO
   generalize l[k]=u at *
   obtain⟨ul,uxs,up⟩:=u
   dsimp only at d0 d1 d2 HAT HNO
   clear hcel hx2 hxe
   have hw64:=zH (IntWalk.wrap64_in ((k:Int)+1) (by omega))
   have hV:=qit (ul:Int) (up:Int) Ax uxs.length cx wr
   go_wp2_with fail
   refine hV.mono ?_
   rintro e w2 ⟨rfl,hB⟩
   clear d0 d1 d2 hV
   by_cases he:uxs.length<5
   ·rw[decide_eq_true he]
    have HQ:=zH (HAT.out (decide_eq_true he))
    clear HAT HNO
    replace he:=zH he
    go_wp2_with fail
    refine bodyPost_ret (v:=.int .i64 (k:Int)) ?_ rfl ⟨_,rfl,.inl ⟨k,rfl,HQ.out⟩,Ext.trans xr hB⟩
    simp[results,Tryz.results168,go_sem]
   ·rw[decide_eq_false he]
    have HQ:=zH (HNO.out (decide_eq_false he))
    clear HAT HNO
    replace he:=zH he
    have hw1:=hw64.out
    go_wp2_with fail
    refine⟨⟨k+1,hlt,rfl,Ext.trans xr hB,HQ.out⟩,?_⟩
    simp[intOf]
    omega
  ·obtain rfl:k=l.length:=by omega
   have HQ:=zH (show l.any kt=false by have:=hno.out;rwa [List.take_length] at this)
   go_wp2_with fail
   refine bodyPost_ret (v:=.int .i64 (-1)) ?_ rfl ⟨_,rfl,.inr ⟨rfl,HQ.out⟩,xr⟩
   simp[results,Tryz.results168,go_sem]
set_option maxRecDepth 100000 in
theorem thin_any (v:Value) (l:List Stp) (hl:l.length≤100) (w:World) (h:VA w.heap.size w v l) :
  Calls Tryz.prog 144 #[v,.func (.func 145) #[] #[]] w (Ret (.bool (l.any kt)) w):=by
 have HX:=qiu v l hl w h
 clear h
 go_enter Tryz.func144,Tryz.ntmps144
 go_wp2_with fail
 refine HX.mono ?_
 rintro e w2 ⟨u,rfl,hu,hB⟩
 rcases hu with ⟨j,rfl,hj⟩|⟨rfl,hj⟩
 ·have hd:decide ((0:Int)≤(j:Int))=true:=decide_eq_true (by omega)
  go_wp2_with fail
  go_ret
  exact⟨by rw[hj];rfl,hB⟩
 ·go_wp2_with fail
  go_ret
  exact⟨by rw[hj];rfl,hB⟩
set_option maxRecDepth 100000 in
theorem tall_any (v:Value) (l:List Stp) (hl:l.length≤100) (hl0:0<l.length) (k i o:Int) (hl5:∀ s∈l,s.2.1.length≤5) (w:World) (h:VA w.heap.size w v l) :
  Calls Tryz.prog 99 #[v,keyV k i o] w (Ret (.bool (Uy (k,i,o) l)) w):=by
 have HT:=zH (fun W (hx:Ext w W)=>thin_any v l hl W ((h.below hx).more hx.size))
 obtain⟨ps,hps,⟨A,c,rfl,hc1,hc2,hr⟩,hpp⟩:=h
 have hpl:ps.length=l.length:=by rw[←hps,List.length_map]
 obtain⟨bv,offv,rfl,hbv,hcel⟩:=hr.2 hl0
 obtain⟨m,hm⟩:∃ m,l.length=m+1:=⟨l.length-1,by omega⟩
 have hmp:m<ps.length:=by omega
 have hml:m<l.length:=by omega
 obtain⟨d0,d1,d2⟩:=Yj ps m hmp
 replace d0:=hcel _ _ d0
 replace d1:=hcel _ _ d1
 replace d2:=hcel _ _ d2
 rw[←Nat.add_assoc] at d1 d2
 obtain⟨⟨Ax,cx,hx2⟩,hits⟩:=hpp ps[m] (List.getElem_mem hmp)
 have hxe:ps[m].1=l[m]:=by simp only[←hps,List.getElem_map]
 rw[hx2,hxe] at d1 hits
 rw[hxe] at d0
 have hlast:l.getLast?=some l[m]:=by rw[List.getLast?_eq_getElem?,hm,Nat.add_sub_cancel];exact zL hml
 have hq:Uy (k,i,o) l=(decide (l.length=6) && !(l.any kt) && !(KR l[m].2.1 (k,i,o))):=by
  unfold Uy
  rw[hlast]
  simp only
  congr 2
  rw[Bool.eq_iff_iff]
  simp[List.all_eq_true,kt]
 have hu5:=hl5 l[m] (List.getElem_mem hml)
 rw[hq]
 generalize l[m]=u at *
 obtain⟨ul,uxs,up⟩:=u
 dsimp only at d0 d1 hits hu5 ⊢
 have HP:=zH (fun W (hx:Ext w W)=>GS (ul:Int) Ax cx uxs k i o W hu5 ((hits.below hx).more hx.size))
 clear hq hlast hcel hr hx2 hxe hpp hits d2 hps
 replace hm:=zH hm
 have hmk:m<l.length:=hml
 generalize l.any kt=bt at *
 generalize KR uxs (k,i,o)=bi at *
 generalize qL uxs (k,i,o)=pn at *
 replace hc2:=zH hc2
 go_enter Tryz.func99,Tryz.ntmps99
 go_wp2_with fail
 generalize hw1:World.alloc _ _=w1
 have x1:Ext w w1:=by rw[←hw1];exact zN _ _
 have r1:w1.heap[w.heap.size]?=some (.cells #[.int .u8 k,.int .u32 i,.int .u32 o] 66 (0,0)):=by rw[←hw1];exact zI _ _ _ rfl
 clear hw1
 refine(HT.out w1 x1).mono ?_
 clear HT
 rintro e w2 ⟨rfl,hB⟩
 have x2:Ext w w2:=x1.trans hB
 have r2:=qb r1 hB
 clear r1 hB x1
 go_upto_region 2 with fail
 have g0:∀ W,ql.r w2 W→W.cell? ⟨bv,offv+m*3,none⟩=some (.int .i64 (ul:Int)):=fun W h=>Ext.cell (x2.trans h) d0
 have g1:∀ W,ql.r w2 W→W.cell? ⟨bv,offv+m*3+1,none⟩=some (.slice Ax uxs.length cx):=fun W h=>Ext.cell (x2.trans h) d1
 have g2:∀ W,ql.r w2 W→∀ i_1,W.cell? ⟨w.heap.size,i_1,none⟩=#[.int .u8 k,.int .u32 i,.int .u32 o][i_1]?:=fun W h=>qa (qb r2 h)
 clear d0 d1
 have hwl:=zH (show IntKind.i64.wrap ((l.length:Int)-1)=(m:Int) by rw[IntKind.wrap_i64];have:=hm.out;omega)
 refine qo (by kernel_rfl) ?_
 refine qO (w:=w2) ql (qF [(8,one (.tuple #[.int .i64 (pn:Int),.bool bi]))]) (List.replicate 14 true) 0 (by kernel_rfl) (by kernel_rfl) (by kernel_rfl) (by kernel_rfl) (by kernel_rfl) (by kernel_rfl) (by kernel_rfl) ?st (Rel.drew _ _) ?walk
 case st=>exact qk (by simp only[List.forall_mem_cons];exact⟨qeh _,fun _ h=>by cases h⟩)
 case walk =>
  intro K hK
  dsimp only[qp,List.replicate]
  repeat ((first|(refine qe ?_ (by rfl) (by rfl) (fun W hW _=>⟨W,?_,Rel.refl _ W⟩) ?_;rotate_left;(go_simp<;>with_reducible rfl))|(refine qh (by rfl) ?_));try simp only[Act.put,qj,qf,qc,qg,zA,zB,zC])
  refine qe (.pointer (some ⟨bv,offv+m*3,none⟩)) (by rfl) (by rfl) (fun W hW _=>⟨W,?_,Rel.refl _ W⟩) ?_
  ·go_simp
   rw[hwl.out,if_pos (by omega)]
   simp
  simp only[Act.put,qj,qf,qc,qg,zA,zB,zC]
  repeat ((first|(refine qe ?_ (by rfl) (by rfl) (fun W hW _=>⟨W,?_,Rel.refl _ W⟩) ?_;rotate_left;(go_simp<;>with_reducible rfl))|(refine qh (by rfl) ?_));try simp only[Act.put,qj,qf,qc,qg,zA,zB,zC])
  refine qy (one _) (by rfl) (by rfl) (fun W hW _=>?_) (fun (_:Unit)=>?_)
  ·have hW':Ext w2 W:=hW
   refine Qg ?_ ((HP.out W (x2.trans hW')).mono fun e w' h=>⟨(),h.1,trivial,h.2⟩)
   go_simp
  simp only[Act.put,qj,qf,qc,qg,zA,zB,zC]
  repeat ((first|(refine qe ?_ (by rfl) (by rfl) (fun W hW _=>⟨W,?_,Rel.refl _ W⟩) ?_;rotate_left;(go_simp<;>with_reducible rfl))|(refine qh (by rfl) ?_));try simp only[Act.put,qj,qf,qc,qg,zA,zB,zC])
  refine qt (hK _ _ fun W hW hF=>?_)
  clear hF hK
  have hW:Ext w2 W:=hW
  have xW:Ext w W:=x2.trans hW
  dsimp only[List.drop,List.length_cons,List.length_nil,Nat.reduceAdd,Nat.reduceSub]
  go_wp2
  refine Qm ?_
  clear HP g0 g1 g2 r2
  by_cases h6:l.length=6
  ·have e6:((l.length:Int) == 6)=true:=by rw[beq_iff_eq];omega
   have d6:=decide_eq_true h6
   replace h6:=zH h6
   cases bt
   ·cases bi
    all_goals
     go_wp2_with fail
     go_ret
     exact⟨by rw[d6];rfl,xW⟩
   ·go_wp2_with fail
    go_ret
    exact⟨by rw[d6];rfl,xW⟩
  ·have e6:((l.length:Int) == 6)=false:=by rw[beq_eq_false_iff_ne];omega
   have d6:=decide_eq_false h6
   replace h6:=zH h6
   go_wp2_with fail
   go_ret
   exact⟨by rw[d6];rfl,xW⟩
def vk:List UInt8→Nat
 | []=>0
 |x :: r=>x.toNat+vk r
theorem qak:∀ (t:List UInt8) (a:Nat) (x:UInt8),a<t.length→vk (t.set a x)+Qh t a=vk t+x.toNat
 | [],a,x,h=>by simp at h
 |y :: r,0,x,h=>by simp[vk,Qh];omega
 |y :: r,a+1,x,h=>by
  have:=qak r a x (by simpa using h)
  simp only[zC,vk]
  have e:Qh (y :: r) (a+1)=Qh r a:=by simp[Qh]
  rw[e]
  omega
theorem XB {t:List UInt8} {a:Nat} (h:t.length≤a):Qh t a=0:=by
 unfold Qh
 rw[List.getElem?_eq_none h]
 rfl
theorem YG {t:List UInt8} {a:Nat} (h:a<t.length) (x:UInt8):Qh (t.set a x) a=x.toNat:=by
 unfold Qh
 rw[List.getElem?_set_self h]
 rfl
theorem KI {t:List UInt8} {a j:Nat} (h:j≠a) (x:UInt8):Qh (t.set a x) j=Qh t j:=by
 unfold Qh
 rw[List.getElem?_set_ne (by omega)]
theorem UQ (t:List UInt8) (a:Nat):Qh t a<256:=(t[a]?.getD 0).toNat_lt
theorem Gl {t:List UInt8} {a:Nat} (h:Qh t a≠0):vk (VQ t a)+1=vk t:=by
 have hl:a<t.length:=by
  by_cases h1:a<t.length
  ·exact h1
  ·exact absurd (XB (by omega)) h
 have e:=qak t a (UInt8.ofNat (Qh t a-1)) hl
 have h2:=UQ t a
 have h3:(UInt8.ofNat (Qh t a-1)).toNat=Qh t a-1:=by rw[UInt8.toNat_ofNat'];omega
 unfold VQ
 omega
theorem qgN (t:List UInt8) (a j:Nat):Qh (VQ t a) j≤Qh t j:=by
 unfold VQ
 by_cases hj:j=a
 ·subst hj
  by_cases hl:j<t.length
  ·rw[YG hl]
   have h2:=UQ t j
   rw[UInt8.toNat_ofNat']
   omega
  ·rw[XB (by simpa using hl)]
   omega
 ·rw[KI hj]
  omega
theorem Tt {t:List UInt8} {a:Nat} (h:Qh t a=1):vk (t.set a 0)+1=vk t:=by
 have hl:a<t.length:=by
  by_cases h1:a<t.length
  ·exact h1
  ·rw[XB (by omega)] at h;cases h
 have e:=qak t a 0 hl
 rw[h] at e
 simpa using e
theorem zero_le (t:List UInt8) (a j:Nat):Qh (t.set a 0) j≤Qh t j:=by
 by_cases hj:j=a
 ·subst hj
  by_cases hl:j<t.length
  ·rw[YG hl]
   simp
  ·rw[XB (by simpa using hl)]
   omega
 ·rw[KI hj]
  omega
theorem Yo:∀ {l:List Nat} {t t':List UInt8},QI l t=.ok t'→vk t'≤vk t∧∀ j,Qh t' j≤Qh t j
 | [],t,t',e=>by cases e;exact⟨zM _,fun _=>zM _⟩
 |a :: l,t,t',e=>by
  by_cases ha:a=0
  ·subst ha
   rw[Ja] at e
   exact Yo e
  ·by_cases h0:Qh t a=0
   ·rw[Ju ha h0] at e;cases e
   ·rw[jZ ha h0] at e
    obtain⟨h1,h2⟩:=Yo e
    have:=Gl h0
    exact⟨by omega,fun j=>Nat.le_trans (h2 j) (qgN t a j)⟩
theorem qfT {S:Sto} {t:List UInt8} {a:Nat} (h:Qh t a≠0) (hle:Qh t a≤Qh S.now a):qu (qw S t) a=qu S a:=by
 have e1:qu (qw S t) a=if Qh t a=0 then none else QE (Jl S a):=rfl
 have e2:qu S a=if Qh S.now a=0 then none else QE (Jl S a):=rfl
 rw[e1,e2,if_neg h,if_neg (by omega)]
theorem qfU {S:Sto} {a:Nat} {lvl:Int} {xs:List It} (h:qu S a=some (lvl,xs)) (hl:0<lvl):∀ r∈qV xs,8≤r∧r<256:=fun r hr=>by
 have h1:=Yr h r hr
 obtain⟨x,hx,rfl⟩:=List.mem_map.1 hr
 have hm:=(Qa h).1
 have hio:=((Qa h).2.1 x hx).1.2.2.2.1.1
 unfold Qe at hm
 simp only[Bool.and_eq_true] at hm
 obtain⟨i,hi,e⟩:=List.mem_iff_getElem.1 hx
 have h2:=List.all_eq_true.1 hm.2 i (List.mem_range.2 hi)
 unfold Uc at h2
 rw[zL hi] at h2
 simp only[Bool.and_eq_true] at h2
 have h3:=h2.2
 rw[e,decide_eq_true hl] at h3
 have h4:x.r≠0:=by
  intro h5
  rw[h5] at h3
  simp at h3
 omega
structure LvI (S:Sto) (a:Nat) (st:List (Nat×Int)) (t:List UInt8):Prop where
 eq:QH S (-1) S.now a=jR S st.reverse t
 may:Qj t=true
 le:∀ j,Qh t j≤Qh S.now j
 few:st.length+5*vk t≤5*vk S.now+1
 at_:∀ p∈st,8≤p.1∧p.1<256∧-1≤p.2∧p.2<6
theorem qfN (S:Sto) (x:Nat×Int) (t:List UInt8):jR S [x] t=QH S x.2 t x.1:=by
 unfold jR
 cases QH S x.2 t x.1 <;> rfl
theorem LvI.start {S:Sto} (hS:qm S=true) {a:Nat} (ha:8≤a) (ha2:a<256):LvI S a [(a,-1)] S.now:=by
 refine⟨(qfN S (a,-1) S.now).symm,(qz.1 hS).2.1,fun _=>zM _,by simp;omega,fun p hp=>?_⟩
 obtain rfl:p=(a,-1):=by simpa using hp
 exact⟨ha,ha2,by simp,by simp⟩
theorem LvI.done {S:Sto} {a:Nat} {t:List UInt8} (h:LvI S a [] t):QH S (-1) S.now a=some t:=h.eq
section
variable {S:Sto} {a:Nat} {s:List (Nat×Int)} {x:Nat×Int} {t:List UInt8}
theorem LvI.eq' (h:LvI S a (s++[x]) t):QH S (-1) S.now a=match QH S x.2 t x.1 with
  |none=>none
  |some t'=>jR S s.reverse t':=by
 rw[h.eq,List.reverse_append]
 rfl
theorem LvI.top (h:LvI S a (s++[x]) t):8≤x.1∧x.1<256∧-1≤x.2∧x.2<6:=h.at_ x (by simp)
theorem LvI.bad0 (h:LvI S a (s++[x]) t) (h0:Qh t x.1=0):QH S (-1) S.now a=none:=by
 rw[h.eq',KS,if_pos h0]
theorem LvI.more (h:LvI S a (s++[x]) t) (h1:1<Qh t x.1):LvI S a s (VQ t x.1):=by
 have hd:=Gl (t:=t) (a:=x.1) (by omega)
 have hf:=h.few
 simp only[List.length_append,List.length_cons,List.length_nil] at hf
 refine⟨?_,ZA h.may h.top.1 _,fun j=>Nat.le_trans (qgN t x.1 j) (h.le j),by omega,fun p hp=>h.at_ p (by simp[hp])⟩
 rw[h.eq',KS,if_neg (by omega),if_pos h1]
theorem LvI.one (h:LvI S a (s++[x]) t) (h1:Qh t x.1=1):QH S (-1) S.now a=match (match qu S x.1 with
  |none=>none
  |some (l,xs)=>if 0≤x.2∧l≠x.2 then none else if 0<l then jR S ((qV xs).map fun r=>(r,l-1)) (t.set x.1 0) else
   match QI (qV xs) (t.set x.1 0) with
   | .error _=>none
   | .ok t'=>some t') with
  |none=>none
  |some t'=>jR S s.reverse t':=by
 rw[h.eq',KS,if_neg (by omega),if_neg (by omega)] <;> rfl
theorem LvI.none_ (h:LvI S a (s++[x]) t) (h1:Qh t x.1=1) (hn:qu S x.1=none):QH S (-1) S.now a=none:=by
 rw[h.one h1,hn]
theorem LvI.level (h:LvI S a (s++[x]) t) (h1:Qh t x.1=1) {l:Int} {xs:List It} (hn:qu S x.1=some (l,xs)) (h0:0≤x.2) (hl:l≠x.2):QH S (-1) S.now a=none:=by
 rw[h.one h1,hn]
 simp only
 rw[if_pos ⟨h0,hl⟩]
theorem LvI.push (h:LvI S a (s++[x]) t) (h1:Qh t x.1=1) {l:Int} {xs:List It} (hn:qu S x.1=some (l,xs)) (h0:¬(0≤x.2∧l≠x.2)) (hl:0<l):LvI S a (s++((qV xs).map fun r=>(r,l-1)).reverse) (t.set x.1 0):=by
 have hd:=Tt h1
 have hf:=h.few
 have h6:=ZO hn
 have hlen:(qV xs).length=xs.length:=by unfold qV;simp
 simp only[List.length_append,List.length_cons,List.length_nil] at hf
 refine⟨?_,ZA h.may h.top.1 _,fun j=>Nat.le_trans (zero_le t x.1 j) (h.le j),by simp only[List.length_append,List.length_reverse,List.length_map];omega,fun p hp=>?_⟩
 ·rw[h.one h1,hn,List.reverse_append,List.reverse_reverse,YK]
  simp only
  rw[if_neg h0,if_pos hl] <;> rfl
 ·rcases List.mem_append.1 hp with hp|hp
  ·exact h.at_ p (by simp[hp])
  ·obtain⟨r,hr,rfl⟩:=List.mem_map.1 (List.mem_reverse.1 hp)
   have:=qfU hn hl r hr
   exact⟨this.1,this.2,by simp only;omega,by simp only;omega⟩
theorem LvI.leafBad (h:LvI S a (s++[x]) t) (h1:Qh t x.1=1) {l:Int} {xs:List It} (hn:qu S x.1=some (l,xs)) (h0:¬(0≤x.2∧l≠x.2)) (hl:¬0<l) {e:Int} (he:QI (qV xs) (t.set x.1 0)=.error e):QH S (-1) S.now a=none:=by
 rw[h.one h1,hn]
 simp only
 rw[if_neg h0,if_neg hl,he]
theorem LvI.leaf (h:LvI S a (s++[x]) t) (h1:Qh t x.1=1) {l:Int} {xs:List It} (hn:qu S x.1=some (l,xs)) (h0:¬(0≤x.2∧l≠x.2)) (hl:¬0<l) {t':List UInt8} (he:QI (qV xs) (t.set x.1 0)=.ok t'):LvI S a s t':=by
 have hd:=Tt h1
 obtain⟨hs,hj⟩:=Yo he
 have hf:=h.few
 simp only[List.length_append,List.length_cons,List.length_nil] at hf
 refine⟨?_,Jv (fun b hb=>(Yr hn b hb).1) (ZA h.may h.top.1 _) he,fun j=>Nat.le_trans (hj j) (Nat.le_trans (zero_le t x.1 j) (h.le j)),by omega,fun p hp=>h.at_ p (by simp[hp])⟩
 rw[h.one h1,hn]
 simp only
 rw[if_neg h0,if_neg hl,he]
end
end Go.Proofs.YtpbniokljofedaaGreat
