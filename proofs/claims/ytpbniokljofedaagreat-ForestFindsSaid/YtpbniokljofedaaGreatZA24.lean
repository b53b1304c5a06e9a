/- Texts Once, RSeen, RNode, Way, Tall, joined. -/
import Derived.Test.YtpbniokljofedaaGreatZA04
import Derived.Test.YtpbniokljofedaaGreatZA17
import Derived.Test.YtpbniokljofedaaGreatZA20
import Derived.Test.YtpbniokljofedaaGreatZA22
import Derived.Test.YtpbniokljofedaaGreatZA23
set_option linter.unusedSimpArgs false
set_option linter.unusedVariables false
namespace Go.Proofs.YtpbniokljofedaaGreat
open Go.RowKit
def jn:qO:=⟨Unit,fun _=>undef,fun _ _=>True⟩
theorem Qh (u:Unit):jn.f u=undef:=rfl
theorem jr {R:Rel}:∀ p,qA R (jn.φ p):=fun _ _ _ _ _=>trivial
theorem vn {P:Program} {o:Oper} {a:Act} {W W':World} (hr:(execOp a.eval o).run P W=.ok .skip W') (hx:Ext W W'):Qs ql P o a W jn:=Ju hr ⟨(),rfl,trivial,hx⟩
theorem same1 {w:World} {b:Nat} {x0:Value} {ty:TypeId} (h:w.heap[b]?=some (.cells #[x0] ty (0,0))):Ext w (w.setCell ⟨b,0,none⟩ x0):=QW h rfl
theorem same4 {w:World} {b:Nat} {x0 x1 x2 x3:Value} {ty:TypeId} (h:w.heap[b]?=some (.cells #[x0,x1,x2,x3] ty (0,0))):Ext w ((((w.setCell ⟨b,0,none⟩ x0).setCell ⟨b,1,none⟩ x1).setCell ⟨b,2,none⟩ x2).setCell ⟨b,3,none⟩ x3):=by
 have e0:=QW (j:=0) (v:=x0) h rfl
 have h0:=qc h e0
 have e1:=QW (j:=1) (v:=x1) h0 rfl
 have h1:=qc h0 e1
 have e2:=QW (j:=2) (v:=x2) h1 rfl
 have h2:=qc h1 e2
 exact((e0.trans e1).trans e2).trans (QW (j:=3) (v:=x3) h2 rfl)
def jK (B:Nat) (ty:TypeId) (Φ:Array Value→World→Prop) (hΦ:∀ cs W W',W.grownBy W' (some B)→Φ cs W→Φ cs W'):Rel where
 rel W W':=W.grownBy W' (some B)∧(B<W.heap.size→W'.heap[B]?=W.heap[B]?∨∃ cs,W'.heap[B]?=some (.cells cs ty (0,0))∧Φ cs W')
 refl' W:=⟨World.grownBy.refl _ _,fun _=>.inl rfl⟩
 trans' h k:=⟨h.1.trans k.1,fun hb=>by
  rcases k.2 (Nat.lt_of_lt_of_le hb h.1.size) with e|e
  ·rw[e]
   rcases h.2 hb with e1|⟨cs,e1,e2⟩
   ·exact .inl e1
   ·exact .inr ⟨cs,e1,hΦ _ _ _ k.1 e2⟩
  ·exact .inr e⟩
 drew' W:=⟨⟨rfl,rfl,rfl,Nat.le_refl _,fun _ _ _=>rfl⟩,fun _=>.inl rfl⟩
section
variable {B:Nat} {ty:TypeId} {Φ:Array Value→World→Prop} {hΦ:∀ cs W W',W.grownBy W' (some B)→Φ cs W→Φ cs W'}
theorem qcx {W W':World} (h:Ext W W'):(jK B ty Φ hΦ).r W W':=⟨QX h _,fun hb=>.inl (h.block B hb)⟩
theorem JP {W W':World} (h:(jK B ty Φ hΦ).r W W') {b:Nat} {o:Obj} (hp:b≠B) (hc:W.heap[b]?=some o):W'.heap[b]?=some o:=
 (h.1.block b (zG.1 hc).1 (fun x=>hp (by simpa using x))).trans hc
theorem Ta {W W':World} (h:(jK B ty Φ hΦ).r W W') {o:Obj} (hc:W.heap[B]?=some o):W'.heap[B]?=some o∨∃ cs,W'.heap[B]?=some (.cells cs ty (0,0))∧Φ cs W':=by
 have:=h.2 (zG.1 hc).1
 rwa [hc] at this
theorem KV {W W':World} {B0:Nat} (h:(jK B ty Φ hΦ).r W W') (h1:B0≤B) (h2:B0≤W.heap.size):Below B0 W W':=(Below.refl _ _).grown h.1 h2 (fun g hg=>by simp at hg;omega)
theorem Yq {W W':World} (h:(jK B ty Φ hΦ).r W W') {k:Nat} (hk:k<W.heap.size) (hp:k≠B):W'.heap[k]?=W.heap[k]?:=h.1.block k hk fun x=>hp (by simpa using x)
theorem Uz {lo:Nat} {S:Sto} (hB:B<lo):∀ p,qA (jK B ty Φ hΦ) ((outTw lo S).φ p):=fun p W W' he h =>
 QH.keep h (Nat.le_refl _) he.1.size fun b h1 hb=>Yq he hb (by omega)
def kN (B:Nat) (ty:TypeId) (Φ:Array Value→World→Prop):qO:=⟨Unit,fun _=>undef,fun _ W=>∃ cs,W.heap[B]?=some (.cells cs ty (0,0))∧Φ cs W⟩
theorem Qf (u:Unit):(kN B ty Φ).f u=undef:=rfl
theorem Tu:∀ p,qA (jK B ty Φ hΦ) ((kN B ty Φ).φ p):=fun _ W W' he ⟨cs,h1,h2⟩=>by
 rcases Ta he h1 with e|e
 ·exact⟨cs,e,hΦ _ _ _ he.1 h2⟩
 ·exact e
theorem qbu {P:Program} {o:Oper} {a:Act} {W w':World} {cs:Array Value} (hr:(execOp a.eval o).run P W=.ok .skip w') (hg:W.grownBy w' (some B)) (hw:w'.heap[B]?=some (.cells cs ty (0,0))) (hp:Φ cs W):Qs (jK B ty Φ hΦ) P o a W (kN B ty Φ):=
 Ju hr ⟨(),rfl,⟨cs,hw,hΦ _ _ _ hg hp⟩,hg,fun _=>.inr ⟨cs,hw,hΦ _ _ _ hg hp⟩⟩
end
def Zj (lo:Nat) (S:Sto) (cs:Array Value) (W:World):Prop:=∃ x0 x1 x2 x3,cs=#[x0,x1,x2,x3]∧QH lo S (.agg cs) W
theorem Zj.keep {lo:Nat} {S:Sto} {B:Nat} (hB:B<lo):∀ cs W W',W.grownBy W' (some B)→Zj lo S cs W→Zj lo S cs W':=fun cs W W' hg h=>by
 obtain⟨x0,x1,x2,x3,e,hT⟩:=h
 exact⟨x0,x1,x2,x3,e,QH.keep hT (Nat.le_refl _) hg.size fun k h1 hk=>hg.block k hk fun e=>by simp at e;omega⟩
theorem qaL {P:Program} {o:Oper} {a:Act} {W:World} {lo B:Nat} {S:Sto} {ty:TypeId} {x0 x1 x2 x3:Value} (hB:B<lo) (h:∃ u0 u1 u2 u3,W.heap[B]?=some (.cells #[u0,u1,u2,u3] ty (0,0))) (hT:QH lo S (.agg #[x0,x1,x2,x3]) W)
  (hr:(execOp a.eval o).run P W=.ok .skip ((((W.setCell ⟨B,0,none⟩ x0).setCell ⟨B,1,none⟩ x1).setCell ⟨B,2,none⟩ x2).setCell ⟨B,3,none⟩ x3)) :
  Qs (jK B ty (Zj lo S) (Zj.keep hB)) P o a W (kN B ty (Zj lo S)):=by
 obtain⟨u0,u1,u2,u3,h⟩:=h
 exact qbu hr (Qj.trans (Qj.trans (Qj.trans Qj))) (Uc h x0 x1 x2 x3) ⟨x0,x1,x2,x3,rfl,hT⟩
theorem twin_own {W W':World} {lo B:Nat} {S:Sto} {ty:TypeId} (hB:B<lo) {u0 u1 u2 u3:Value} (h:(jK B ty (Zj lo S) (Zj.keep hB)).r W W') (hc:W.heap[B]?=some (.cells #[u0,u1,u2,u3] ty (0,0))):∃ u0 u1 u2 u3,W'.heap[B]?=some (.cells #[u0,u1,u2,u3] ty (0,0)):=by
 rcases Ta h hc with e|⟨cs,e,x0,x1,x2,x3,rfl,_⟩
 ·exact⟨_,_,_,_,e⟩
 ·exact⟨_,_,_,_,e⟩
end Go.Proofs.YtpbniokljofedaaGreat
namespace Go.Proofs.YtpbniokljofedaaGreat
open Go.RowKit Go.Shelf
attribute [local go_sem] Oper.semAt_some
theorem Tj {n b D:Nat} {v:Value} {R:Ending→World→Prop} {a:Act} {W:World} (h4:a.tmps[4]?.getD undef=.pointer (some ⟨b+1+1,0,none⟩)) (hd:a.defers=[{ target:=.collected D,args:=#[] }])
  (hK:W.heap[D]?=some (.deferred (some []))) (hD:b+2<D) (hB:W.heap[b+2]?=some (.cells #[v] 26 (0,0)))
  (hR:∀ W',W'=W.putObj D (.deferred none)→R (.returned v) W') :
  bodyPostM Fence.wide n Tryz.prog Tryz.f50 R .ret a W:=by
 have k4:=qa ((World.putObj_heap_other (o:=.deferred none) (show b+2≠D by omega)).trans hB)
 change LeavesInM Fence.wide n Tryz.prog Tryz.f50 a.tmps R a.defers .returning W
 rw[hd]
 refine⟨by simp,.inl ⟨_,_,rfl,run_takeDeferred hK,v,?_,hR _ rfl⟩⟩
 simp[results,Tryz.results50,go_sem,h4,k4]
set_option maxHeartbeats 4000000 in
set_option maxRecDepth 100000 in
theorem qeA (A1:Option Addr) (n1 c1:Nat) (A2:Option Addr) (n2 c2:Nat) (S:Sto) (hS:qo S=true) (m:Nat) (hm:m<256) (w:World) (hb:Bls w w.heap.size (.slice A1 n1 c1) S.bs) (hw:Wrs w w.heap.size (.slice A2 n2 c2) S.ws) :
  Calls Tryz.prog 50 #[kz A1 n1 c1 A2 n2 c2,.int .i64 (m:Int)] w (zD (fun u W=>Bys W W.heap.size u (JK S m)) w):=by
 obtain⟨hl1,hl2,hl3,hl4⟩:=qV hS
 have hbl:=ju hS
 have hseen:JK S m=match jk S.ws m with|some l=>l|none=>S.bs[m]:=by
  unfold JK;rw[List.getElem?_eq_getElem (by omega)];rfl
 obtain⟨hn1,hc1,hm1,hA1⟩:=hb.at_
 obtain⟨b1,o1,rfl,hb1⟩:=hA1 (by omega)
 obtain⟨A0,c0,hcb,hbyb⟩:=hb.get (bs:=S.bs) m (by omega)
 have hn1':n1=256:=by rw[hn1,hl1]
 generalize S.bs[m]=l0 at *
 generalize JK S m=l at *
 generalize hwsE:S.ws=ws at *
 obtain⟨ps,hps,⟨A2',c2',e2,hw1,hw2,hw3⟩,hw4⟩:=hw
 rw[←hps] at hseen e2 hw1 hw3 hl2
 clear hn1 hS hl1 hl3 hl4 hA1 hbl hwsE hb
 subst hn1'
 simp only[Value.slice.injEq] at e2
 obtain⟨rfl,hw5,rfl⟩:=e2
 rw[←hw5] at hw1 hw3 hl2
 replace hw5:=zH hw5
 replace hseen:=zH hseen
 have hpl:ps.length=n2:=by rw[hw5.out];simp
 obtain⟨us,hus⟩:∃ us:List W2,us=ps.map fun p=>((p.1.1,VN p.2):W2):=⟨_,rfl⟩
 have hul:us.length=n2:=by rw[hus,List.length_map,hpl]
 have hua:∀ j,(us[j]?.getD w2z).1=atN ws j:=fun j=>by
  unfold atN
  rw[hus,←hps,List.getElem?_map,List.getElem?_map]
  cases ps[j]? <;> rfl
 have hud:∀ j W,Ext w W→Bys W W.heap.size (sv (us[j]?.getD w2z).2) (datN ws j):=fun j W hx=>by
  unfold datN
  rw[hus,←hps,List.getElem?_map,List.getElem?_map]
  rcases hj:ps[j]? with _|p
  ·exact⟨none,0,rfl,Nat.le_refl _,by unfold maxLen;omega,by simp,fun hn=>absurd hn (by simp)⟩
  ·obtain⟨⟨A',c',e'⟩,hy⟩:=hw4 p (List.mem_of_getElem? hj)
   have:sv (VN p.2)=p.2:=by rw[e'];rfl
   simp only[Option.map_some,Option.getD_some]
   rw[this]
   exact(hy.below hx).more hx.size
 refine(callsIn_wide (n:=3)).1 ?_
 refine callsIn_of_wp_marks Tryz.func50 rfl trivial ?_ rfl
 simp only[Tryz.ntmps50,List.size_toArray,List.length_cons,List.length_nil,Nat.reduceAdd,Nat.reduceSub,Array.replicate_succ,Array.replicate_zero,List.push_toArray,List.append_toArray,List.nil_append,List.cons_append]
 refine wpIn_wide.2 ?_
 go_wp2_with fail
 generalize hw1':(World.alloc (World.alloc (World.alloc w _) _) _)=w2
 have x2:Ext w w2:=by rw[←hw1'];exact((Ext.alloc _ _).trans (Ext.alloc _ _)).trans (Ext.alloc _ _)
 have s2:w.heap.size+3≤w2.heap.size:=by rw[←hw1'];simp
 have ra2:w2.heap[w.heap.size]?=some (.cells #[.slice (some ⟨b1,o1,none⟩) 256 c1,.slice A2 n2 c2] 25 (0,0)):=by rw[←hw1'];exact(Below.heap_alloc _ _ _ (by simp <;> omega)).trans ((Below.heap_alloc _ _ _ (by simp <;> omega)).trans (World.alloc_heap_at _ _ _ rfl))
 have rb2:w2.heap[w.heap.size+1]?=some (.cells #[.int .i64 (m:Int)] 3 (0,0)):=by rw[←hw1'];exact(Below.heap_alloc _ _ _ (by simp <;> omega)).trans (World.alloc_heap_at _ _ _ (by simp))
 have rc2:w2.heap[w.heap.size+2]?=some (.cells #[.slice none 0 0] 26 (0,0)):=by rw[←hw1'];exact World.alloc_heap_at _ _ _ (by simp)
 clear hw1'
 have ka2:=qa ra2
 have kb2:=qa rb2
 refine(Kn A2 n2 c2 w2).mono ?_
 rintro e w3 ⟨rfl,rfl⟩
 go_wp2_with fail
 have x5:Ext w2 (w2.alloc (.cells #[.slice A2 n2 c2] 23)):=Ext.alloc _ _
 obtain⟨b2,hb2,hSW⟩:∃ b2,b2<w.heap.size∧SW (w2.alloc (.cells #[.slice A2 n2 c2] 23)) w2.heap.size b2 (.slice A2 n2 c2) us:=by
  have hbox:(w2.alloc (.cells #[.slice A2 n2 c2] 23)).cell? ⟨w2.heap.size,0,none⟩=some (.slice A2 n2 c2):=by rw[qa (World.alloc_heap_at _ _ _ rfl)];rfl
  by_cases hz:n2=0
  ·have:us=[]:=List.length_eq_zero_iff.1 (by omega)
   exact⟨b1,hb1,hbox,.inl ⟨this,A2,c2,by rw[hz]⟩⟩
  ·obtain⟨b2,o2,rfl,hlt,hc⟩:=hw3.2 (by omega)
   refine⟨b2,hlt,hbox,.inr ⟨o2,c2,by rw[hul],fun i hi=>?_⟩⟩
   have hi':i<ps.length:=by omega
   obtain⟨g0,g1⟩:=JE ps i hi'
   have hx:=x2.trans x5
   rw[hus]
   refine⟨?_,?_⟩
   ·rw[Ext.cell hx (hc _ _ g0),List.getElem?_map,List.getElem?_eq_getElem hi'];rfl
   ·obtain⟨⟨A',c',e'⟩,_⟩:=hw4 ps[i] (List.getElem_mem hi')
    rw[Nat.add_assoc,Ext.cell hx (hc _ _ g1),List.getElem?_map,List.getElem?_eq_getElem hi']
    simp only[Option.map_some,Option.getD_some]
    rw[e']
    rfl
 clear hus hw3
 replace hua:=zH hua
 replace hud:=zH hud
 refine(wpIn_wide (n:=3)).1 ?_
 refine wpIn_rangeFunc_ownH rfl (by omega) (gf:=141) (lb:=#[.pointer (some ⟨w2.heap.size,0,none⟩)]) rfl trivial (enters_of Tryz.func141 (by kernel_rfl) rfl)
  (qbk (3-1) (by omega) w2.heap.size b2 _ _ (by rw[hul];omega) _ (by simp) (by simp;omega) hSW) Qq.t (Qq.b (by simp) (by simp;omega)) (Below.refl _ _) (fun _=>rfl)
  (fun pre W'=>((W'.heap[w.heap.size]?=some (.cells #[.slice (some ⟨b1,o1,none⟩) 256 c1,.slice A2 n2 c2] 25 (0,0))∧W'.heap[w.heap.size+1]?=some (.cells #[.int .i64 (m:Int)] 3 (0,0)))∧(W'.heap[w.heap.size+2]?=some (.cells #[.slice none 0 0] 26 (0,0))∧W'.heap[w2.heap.size]?=some (.cells #[.slice A2 n2 c2] 23 (0,0))))∧(Below w.heap.size w W'∧∀ y∈pre,atN ws y≠(m:Int)))
  (fun c pre W'=>(∃ pre' x Wb,c=.ret∧pre=pre'++[x]∧atN ws x=(m:Int)∧(∀ y∈pre',atN ws y≠(m:Int))∧Wb.heap[w.heap.size+2]?=some (.cells #[sv (us[x]?.getD w2z).2] 26 (0,0))∧qL Wb W')∧Below w.heap.size w W')
  (OwnFrom.and (OwnFrom.and (OwnFrom.and (QB _ _ _ _) (QB _ _ _ _)) (OwnFrom.and (QB _ _ _ _) (QB _ _ _ _))) (OwnFrom.and (ownFrom_below (Nat.le_refl _) (by simp;omega)) (YD _ _)))
  (fun c=>OwnFrom.and (fun s A C row hs hg hr=>by
   obtain⟨pre',x,Wb,h1,h2,h3,h4,h5,h6⟩:=hs
   exact⟨pre',x,Wb,h1,h2,h3,h4,h5,h6.grown hg fun r e=>(hr r e).2⟩) (ownFrom_below (Nat.le_refl _) (by simp;omega)))
  ⟨⟨⟨qc ra2 x5,qc rb2 x5⟩,⟨qc rc2 x5,World.alloc_heap_at _ _ _ rfl⟩⟩,x2.trans x5,fun y hy=>by cases hy⟩
  (fun x a' W'=>∃ t8,a'={ tmps:=#[kz (some ⟨b1,o1,none⟩) 256 c1 A2 n2 c2,.int .i64 (m:Int),.pointer (some ⟨w.heap.size,0,none⟩),.pointer (some ⟨w.heap.size+1,0,none⟩),.pointer (some ⟨w.heap.size+1+1,0,none⟩),undef,.pointer (some ⟨t8,0,none⟩),.pointer (some ⟨w.heap.size,1,none⟩),.slice A2 n2 c2,.func (.func 141) #[] #[.pointer (some ⟨w2.heap.size,0,none⟩)],
    .int .i64 (x:Int),.agg #[.int .i64 (us[x]?.getD w2z).1,sv (us[x]?.getD w2z).2],undef,undef,undef,undef,undef,undef,undef,undef,undef,undef,undef],defers:=[] }∧W'.heap[t8]?=some (.cells #[.int .i64 (us[x]?.getD w2z).1,sv (us[x]?.getD w2z).2] 130 (0,0)))
  (fun x a' s A C row hs hg hr=>by
   obtain⟨t8,e,h⟩:=hs
   exact⟨t8,e,QB (β:=Unit) _ _ _ _ () A C row h hg hr⟩) ?assign ?body ?done ?stop
 case assign =>
  rintro l' pre x W' K ⟨⟨⟨i1,i2⟩,⟨i3,i7⟩⟩,i4,i5⟩ hK
  gi_wp2
  have z1:=(zG.1 i1).1
  have z2:=(zG.1 i2).1
  have z3:=(zG.1 i3).1
  have z7:=(zG.1 i7).1
  have z4:=i4.size
  refine hK _ _ ((KeepsOthers.alloc _ _).from _) ⟨Below.heap_alloc _ _ _ z7,Below.heap_alloc _ _ _ (by omega)⟩ ⟨⟨⟨(Below.heap_alloc _ _ _ z1).trans i1,(Below.heap_alloc _ _ _ z2).trans i2⟩,⟨(Below.heap_alloc _ _ _ z3).trans i3,(Below.heap_alloc _ _ _ z7).trans i7⟩⟩,Below.alloc i4 z4 _,i5⟩ ⟨W'.heap.size,rfl,World.alloc_heap_at _ _ _ rfl⟩
 case body =>
  rintro l' pre x a' W' hl ⟨rr,hlp⟩ ⟨⟨⟨i1,i2⟩,⟨i3,i7⟩⟩,i4,i5⟩ ⟨t8,rfl,hr8⟩ _
  have hax:=hua.out x
  generalize hu9:(us[x]?.getD w2z)=u9 at *
  obtain⟨a9,A9,n9,c9⟩:=u9
  simp only at hax
  subst hax
  have k8:=qa hr8
  have k2:=qa i2
  have k3:=qa i3
  have f3:=qg i3
  replace i5:=zH i5
  replace hu9:=zH hu9
  clear ka2 kb2
  by_cases hq:atN ws x=(m:Int)
  ·have hqe:(atN ws x == (m:Int))=true:=by rw[beq_iff_eq];exact hq
   replace hq:=zH hq
   gi_wp2_with fail
   refine⟨(KeepsOthers.setCell _ _ _).from _,⟨rfl,pre,x,rfl,hq.out,i5.out,_,?_,qL.refl _⟩,Below.setCell i4 (p:=⟨w.heap.size+1+1,0,none⟩) (by simp;omega) _⟩
   rw[hu9.out]
   exact qj i3 0 _
  ·have hqe:(atN ws x == (m:Int))=false:=by rw[beq_eq_false_iff_ne];exact hq
   replace hq:=zH hq
   gi_wp2_with fail
   refine⟨KeepsFrom.refl _ _,Qq.refl _ _ _,⟨⟨i1,i2⟩,⟨i3,i7⟩⟩,i4,fun y hy=>?_⟩
   rcases List.mem_append.1 hy with h|h
   ·exact i5.out y h
   ·obtain rfl:y=x:=by simpa using h
    exact hq.out
 case done =>
  rintro D ys W' hD rfl ⟨⟨⟨i1,i2⟩,⟨i3,_⟩⟩,i4,i5⟩ hK
  have h0:=qcU (ws:=ws) (a:=(m:Int)) (by rw[show ws.length=us.length by rw[hul,←hpl,←hps,List.length_map]];exact i5)
  have hll:l=l0:=by rw[hseen.out,hps,h0]
  have hcb':=Ext.cell i4 hcb
  rw[←hll] at hcb' hbyb
  clear h0 hll hcb
  have k1:=qa i1
  have k2:=qa i2
  have k3:=qa i3
  have f3:=qg i3
  have im:(m:Int)<256:=by omega
  have im2:decide (m<256)=true:=decide_eq_true hm
  replace i5:=zH i5
  replace hbyb:=zH hbyb
  clear ka2 kb2 hw4 hw5
  go_wp2_with fail
  have hDw:w.heap.size+2<D:=by simp at hD;omega
  have q3:=qj i3 0 (.slice A0 l.length c0)
  have qK:=(Below.heap_setCell W' ⟨w.heap.size+1+1,0,none⟩ (.slice A0 l.length c0) D (by simp;omega)).trans hK
  have qx:=Below.setCell i4 (p:=⟨w.heap.size+1+1,0,none⟩) (by simp;omega) (.slice A0 l.length c0)
  generalize World.setCell W' _ _=wf at *
  exact Tj (b:=w.heap.size) rfl rfl qK hDw q3 (fun W' e=>by
   have hX:Ext w W':=e ▸ qx.trans (belowK_b (w:=w) (Nat.le_refl _) wf D _ _ (by omega) qK rfl rfl)
   exact⟨_,rfl,(hbyb.out.below hX).more hX.size,hX⟩)
 case stop =>
  rintro D c pre W' hD ⟨k,hk,hpre⟩ ⟨⟨pre',x,Wb,rfl,rfl,hx,hpp,hRB,hCK⟩,i4⟩ hK
  gi_wp2_with fail
  have hDw:w.heap.size+2<D:=by simp at hD;omega
  have hl2:l=datN ws x:=by rw[hseen.out,hps,qbX (ws:=ws) (k:=k) (by rw[←hps,List.length_map,hpl,←hul];exact hk) (by rw[show ws.length=us.length by rw[hul,←hpl,←hps,List.length_map]];exact hpre) hx hpp]
  exact Tj (b:=w.heap.size) rfl rfl hK hDw (hCK.row hRB) (fun W'' e=>by
   have hX:Ext w W'':=e ▸ i4.trans (belowK_b (w:=w) (Nat.le_refl _) W' D _ _ (by omega) hK rfl rfl)
   exact⟨_,rfl,by rw[hl2];exact hud.out x W'' hX,hX⟩)
end Go.Proofs.YtpbniokljofedaaGreat
namespace Go.Proofs.YtpbniokljofedaaGreat
open Go.RowKit
theorem YW {R:Ending→World→Prop} {a:Act} {W:World} {b:Nat} {x0 x1 v:Value} (h4:a.tmps[4]?.getD undef=.pointer (some ⟨b,0,none⟩)) (h5:a.tmps[5]?.getD undef=v) (hd:a.defers=[])
  (hrow:W.heap[b]?=some (.cells #[x0,x1] 49 (0,0))) (hR:R (.returned (.tuple #[.agg #[x0,x1],v])) W):bodyPost Tryz.prog Tryz.f22 R .ret a W:=by
 refine bodyPost_ret (v:=.tuple #[.agg #[x0,x1],v]) ?_ hd hR
 have k:=qa hrow
 simp[results,Tryz.results22,go_sem,h4,h5,k]
set_option maxHeartbeats 4000000 in
set_option maxRecDepth 100000 in
theorem qez (A1:Option Addr) (n1 c1:Nat) (A2:Option Addr) (n2 c2:Nat) (A3:Option Addr) (n3 c3:Nat) (A4:Option Addr) (n4 c4:Nat) (S:Sto) (a:Int) (w:World) (h:Qc w w.heap.size (.slice A1 n1 c1) (.slice A2 n2 c2) (.slice A3 n3 c3) (.slice A4 n4 c4) S) :
  Calls Tryz.prog 22 #[Qd A1 n1 c1 A2 n2 c2 A3 n3 c3 A4 n4 c4,.int .i64 a] w (zD (UT w.heap.size (if Kf S a=0 then qu S a.toNat else none)) w):=by
 have HA:=zH (fun W (hx:Ext w W)=>qcO A1 n1 c1 A2 n2 c2 A3 n3 c3 A4 n4 c4 S a W (h.ext hx))
 obtain⟨q,hq⟩:∃ q,(if Kf S a=0 then qu S a.toNat else none)=q:=⟨_,rfl⟩
 rw[hq]
 replace hq:=zH hq
 replace h:=zH h
 go_enter Tryz.func22,Tryz.ntmps22
 go_wp2_with fail
 generalize hw1:(World.alloc (World.alloc w _) _)=w1
 have x1:Ext w w1:=by rw[←hw1];exact(Ext.alloc _ _).trans (Ext.alloc _ _)
 have r1:w1.heap[w.heap.size]?=some (.cells #[.slice A1 n1 c1,.slice A2 n2 c2,.slice A3 n3 c3,.slice A4 n4 c4] 28 (0,0)):=by rw[←hw1];exact(Below.heap_alloc _ _ _ (by simp)).trans (World.alloc_heap_at _ _ _ rfl)
 have q1:w1.heap[w.heap.size+1]?=some (.cells #[.int .i64 0,.slice none 0 0] 49 (0,0)):=by rw[←hw1];exact World.alloc_heap_at _ _ _ (by simp)
 clear hw1
 have k1:=qa r1
 go_wp2_with fail
 refine(HA.out w1 x1).mono ?_
 clear HA
 rintro e w2 ⟨rfl,hB⟩
 have x2:Ext w w2:=x1.trans hB
 have r2:=qc r1 hB
 have q2:=qc q1 hB
 have z2:w.heap.size+1<w2.heap.size:=(zG.1 q2).1
 clear hB r1 q1 x1 k1
 have k2:=qa r2
 have kq2:=qa q2
 have fq2:=qg q2
 by_cases hE:Kf S a=0
 ·obtain⟨hS,n,rfl,h8,h256,hc⟩:=askR_ok hE
  have hNA:q=QE (JK S n):=by rw[←hq.out,if_pos hE,Int.toNat_natCast];unfold qu;exact if_neg hc
  rw[hE]
  clear hq
  have HS:=zH (fun W (hx:Ext w W)=>qeA A1 n1 c1 A2 n2 c2 S hS n h256 W ((h.out.bs.below hx).more hx.size) ((h.out.ws.below hx).more hx.size))
  have HR:=zH (fun v W (hv:Bys W W.heap.size v (JK S n))=>qeI v (JK S n) W hv)
  replace hE:=zH hE
  replace hS:=zH hS
  replace hNA:=zH hNA
  replace hc:=zH hc
  generalize JK S n=l at *
  go_wp2_with fail
  refine(HS.out w2 x2).mono ?_
  clear HS
  rintro e w3 ⟨u,rfl,hu,hB⟩
  have x3:Ext w w3:=x2.trans hB
  have q3:=qc q2 hB
  clear hB k2 r2 kq2 fq2 q2
  go_wp2_with fail
  refine(HR.out u w3 hu).mono ?_
  clear HR hu
  rintro e w4 ⟨u4,rfl,hu,hB⟩
  have hB:Ext w3 w4:=hB
  have x4:Ext w w4:=x3.trans hB
  have q4:=qc q3 hB
  have z3:=x3.size
  have z4:w.heap.size+1<w4.heap.size:=(zG.1 q4).1
  have z3q:w.heap.size+1<w3.heap.size:=(zG.1 q3).1
  clear hB q3
  have kq4:=qa q4
  have fq4:=qg q4
  rcases hQ:QE l with _|⟨lvl,xs⟩
  ·rw[hQ] at hu
   obtain⟨er,hne,rfl⟩:=hu
   have hq:q=none:=by rw[hNA.out,hQ]
   replace hq:=zH hq
   have hne2:(er != 0)=true:=by rw[bne_iff_ne];exact hne
   replace hne:=zH hne
   go_wp2_with fail
   generalize hwf:(World.alloc _ _)=wf
   have rf:wf.heap[w.heap.size+1]?=some (.cells #[.int .i64 0,.slice none 0 0] 49 (0,0)):=by rw[←hwf];exact(Below.heap_alloc _ _ _ (by simpa using z4)).trans (qj (qj q4 0 _) 1 _)
   have bf:Below w.heap.size w wf:=by rw[←hwf];exact Below.alloc (Below.setCell (Below.setCell x4 (p:=⟨w.heap.size+1,0,none⟩) (by simp) _) (p:=⟨w.heap.size+1,1,none⟩) (by simp) _) (by simp;omega) _
   exact YW (b:=w.heap.size+1) rfl rfl rfl rf ⟨_,rfl,(by rw[hq.out];exact⟨8,by decide,rfl⟩),bf⟩
  ·rw[hQ] at hu
   obtain⟨A,c,rfl,hi⟩:=hu
   have hq:q=some (lvl,xs):=by rw[hNA.out,hQ]
   replace hq:=zH hq
   replace hi:=zH hi
   go_wp2_with fail
   generalize hwf:(World.alloc _ _)=wf
   have rf:wf.heap[w.heap.size+1]?=some (.cells #[.int .i64 lvl,.slice A xs.length c] 49 (0,0)):=by rw[←hwf];exact(Below.heap_alloc _ _ _ (by simpa using z4)).trans (qj (qj q4 0 _) 1 _)
   have bf:Below w.heap.size w wf:=by rw[←hwf];exact Below.alloc (Below.setCell (Below.setCell x4 (p:=⟨w.heap.size+1,0,none⟩) (by simp) _) (p:=⟨w.heap.size+1,1,none⟩) (by simp) _) (by simp;omega) _
   have hfi:Zp w.heap.size wf (.slice A xs.length c) xs:=by
    refine(hi.out.keep (by have:=bf.size;rw[←hwf];simp) fun p h1 h2=>?_).mono z3
    rw[←hwf,World.cell?_alloc_lt _ _ _ (by simpa using h2),World.cell?_setCell_other _ _ _ _ (fun e=>by subst e;simp at h1;omega),World.cell?_setCell_other _ _ _ _ (fun e=>by subst e;simp at h1;omega)]
   exact YW (b:=w.heap.size+1) rfl rfl rfl rf ⟨_,rfl,(by rw[hq.out];exact⟨A,c,rfl,hfi⟩),bf⟩
 ·have hqn:=zH (show q=none by rw[←hq.out,if_neg hE])
  clear hq
  have hne:(Kf S a != 0)=true:=by rw[bne_iff_ne];exact hE
  generalize Kf S a=er at *
  go_wp2_with fail
  refine YW (b:=w.heap.size+1) rfl rfl rfl (qj (qj q2 0 _) 1 _) ⟨_,rfl,(by rw[hqn.out];exact⟨er,hE,rfl⟩),?_⟩
  exact Below.setCell (Below.setCell x2 (p:=⟨w.heap.size+1,0,none⟩) (by simp) _) (p:=⟨w.heap.size+1,1,none⟩) (by simp) _
structure WyI (S:Sto) (K:K3) (full:List Stp) (lo:Nat) (w1:World) (v i:Value) (wr:World):Prop where
 ex:∃ (h r:Nat) (ys:List It) (pre:List Stp) (Av:Option Addr) (cv:Nat),v=.slice Av pre.length cv∧i=.int .i64 (r:Int)∧8≤r∧r<256∧qu S r=some ((h:Int),ys)∧(qT S h ys).isSome=true∧full=pre++vK S K h ys∧pre.length+h<6∧jd lo wr v pre∧Below lo w1 wr
set_option maxHeartbeats 8000000 in
set_option maxRecDepth 100000 in
theorem way_any (A1:Option Addr) (n1 c1:Nat) (A2:Option Addr) (n2 c2:Nat) (A3:Option Addr) (n3 c3:Nat) (A4:Option Addr) (n4 c4:Nat) (S:Sto) (hS:qo S=true) (a lvl:Nat) (xs:List It) (ha:8≤a) (ha2:a<256) (hn:qu S a=some ((lvl:Int),xs)) (hsp:(qT S lvl xs).isSome=true) (k i o:Int) (w:World)
  (hst:Qc w w.heap.size (.slice A1 n1 c1) (.slice A2 n2 c2) (.slice A3 n3 c3) (.slice A4 n4 c4) S) :
  Calls Tryz.prog 98 #[Qd A1 n1 c1 A2 n2 c2 A3 n3 c3 A4 n4 c4,.int .i64 (a:Int),keyV k i o] w (zD (fun u W=>KC w.heap.size W u (vK S (k,i,o) lvl xs)) w):=by
 obtain⟨i0,hi,hz0,hz1,hz2⟩:=info_parts Tryz.info_step
 obtain⟨full,hfull⟩:∃ full,vK S (k,i,o) lvl xs=full:=⟨_,rfl⟩
 rw[hfull]
 have hl6:lvl<6:=by have:=jG hn;omega
 have HI0:=zH (fun W=>(⟨⟨lvl,a,xs,[],none,0,rfl,rfl,ha,ha2,hn,hsp,hfull.symm,by simpa using hl6,jd.nil _ _,Below.refl _ _⟩⟩:WyI S (k,i,o) full W.heap.size W (.slice none 0 0) (.int .i64 (a:Int)) W))
 have HN:=zH (fun (r:Nat) W (hx:Ext w W)=>qez A1 n1 c1 A2 n2 c2 A3 n3 c3 A4 n4 c4 S (r:Int) W (hst.ext hx))
 replace hS:=zH hS
 replace hi:=zH hi
 clear hst hn hsp hfull ha ha2 hl6
 go_enter Tryz.func98,Tryz.ntmps98
 go_wp2_with fail
 generalize hw1:(World.alloc (World.alloc w _) _)=w1
 have x1:Ext w w1:=by rw[←hw1];exact(Ext.alloc _ _).trans (Ext.alloc _ _)
 have rs1:w1.heap[w.heap.size]?=some (.cells #[.slice A1 n1 c1,.slice A2 n2 c2,.slice A3 n3 c3,.slice A4 n4 c4] 28 (0,0)):=by rw[←hw1];exact(Below.heap_alloc _ _ _ (by simp)).trans (World.alloc_heap_at _ _ _ rfl)
 have rk1:w1.heap[w.heap.size+1]?=some (.cells #[.int .u8 k,.int .u32 i,.int .u32 o] 66 (0,0)):=by rw[←hw1];exact World.alloc_heap_at _ _ _ (by simp)
 have z1:w.heap.size≤w1.heap.size:=by rw[←hw1];simp;omega
 clear hw1
 have I0:=zH (HI0.out w1)
 clear HI0
 go_wp2_with fail
 go_loopw [6,7] (fun v j wr=>WyI S (k,i,o) full w1.heap.size w1 v j wr) (fun _ j _=>TS S j)
 case atStart=>exact I0.out
 case round =>
  obtain⟨h,r,ys,pre,Av,cv,rfl,rfl,h8,h256,hn,hsp,hfull,hlen,hso,xr⟩:=hrel.ex
  clear I0 hrel
  have hlv:=qaI hn
  obtain⟨hm1,hm2,-⟩:=Qa hn
  have hyl:ys.length≤5:=by unfold qX jj at hm1;simp at hm1;omega
  have hpos:0<h→0<ys.length:=fun h0=>qaa hm1 h0
  have xr1:Ext w1 wr:=xr
  have HNr:=HN.out r wr (x1.trans xr1)
  rw[show Kf S (r:Int)=0 by
   rw[GO hS.out h8 h256,if_neg (show ¬Zx S r=0 from fun e=>by unfold qu at hn;rw[if_pos (show (S.now[r]?.getD 0).toNat=0 from e)] at hn;cases hn)],if_pos rfl,Int.toNat_natCast,hn] at HNr
  have rsr:=qc rs1 xr1
  have rkr:=qc rk1 xr1
  have ksr:=qa rsr
  replace hsp:=zH hsp
  replace hn:=zH hn
  replace hm2:=zH hm2
  replace hfull:=zH hfull
  replace hso:=zH hso
  replace hlv:=zH hlv
  replace hpos:=zH hpos
  clear hm1
  go_wp2_with fail
  refine HNr.mono ?_
  clear HNr
  rintro e w4 ⟨u,rfl,⟨A9,c9,rfl,hits⟩,hB⟩
  have hB:Ext wr w4:=hB
  have xx4:Ext w1 w4:=xr1.trans hB
  have rk4:=qc rkr hB
  have so4:=zH (hso.out.ext hB)
  have z4:w.heap.size+1<w4.heap.size:=(zG.1 rk4).1
  have kk4:=qa rk4
  have zwr:w1.heap.size≤wr.heap.size:=xr.size
  have z4r:wr.heap.size≤w4.heap.size:=hB.size
  replace hits:=zH hits
  have hso':Hid (∀ q,(Value.slice Av pre.length cv).ownBlock=some q→q<wr.heap.size):=zH fun q hq=>by
   obtain⟨ps,-,ho,-⟩:=hso.out
   exact(QM ho q hq).2
  clear hB rsr rkr ksr hso xr xr1
  go_wp2_with fail
  generalize hw5:(World.alloc w4 _)=w5
  have x45:Ext w4 w5:=by rw[←hw5];exact Ext.alloc _ _
  have rn5:w5.heap[w4.heap.size]?=some (.cells #[.int .i64 h,.slice A9 ys.length c9] 49 (0,0)):=by rw[←hw5];exact World.alloc_heap_at _ _ _ rfl
  clear hw5
  have rk5:=qc rk4 x45
  have kn5:=qa rn5
  have kk5:=qa rk5
  clear kk4
  go_wp2_with fail
  refine(qen (h:Int) A9 c9 ys k i o _ w5 hyl (hits.out.ext x45)).mono ?_
  rintro e w6 ⟨rfl,hB⟩
  have x56:Ext w4 w6:=x45.trans hB
  have rn6:=qc rn5 hB
  have kn6:=qa rn6
  have hits6:=zH (hits.out.ext x56)
  have xx6:Ext w1 w6:=xx4.trans x56
  have so6:=zH (so4.out.ext x56)
  have z46:=x56.size
  have z4':=xx4.size
  clear rn5 x45 hB x56 rk4 rk5 kk5 kn5 xx4 hits so4
  obtain⟨ips,hips,hsx⟩:=hits6.out.toE (X:=OwnL w1.heap.size (.slice Av pre.length cv)) (fun q hq hx=>hx.elim (fun h1=>by have:=hso'.out q h1;omega) fun h1=>by omega)
  replace hsx:=zH hsx
  replace hips:=zH hips
  have hA:=hits6.out.its.at_.2.2.2
  clear hits6
  obtain⟨ie,hie⟩:∃ ie,Ke ys (k,i,o)=ie:=⟨_,rfl⟩
  obtain⟨p,hp⟩:∃ p,Qv ys (k,i,o)=p:=⟨_,rfl⟩
  have hplc:=kj ys (k,i,o)
  rw[hie,hp]
  rw[hp] at hplc
  obtain⟨ps,e0,ho,hpp⟩:=so6.out
  have hgr:∀ W':World,w6.grownBy W' (Value.slice Av pre.length cv).ownBlock→qP (OwnL w1.heap.size (.slice Av pre.length cv)) w6 W':=fun W' hg=>qP.of_heap fun q hq hX=>hg.block q hq fun e=>hX (.inl e.symm)
  replace hpp:=zH hpp
  replace hgr:=zH hgr
  clear so6
  rcases Nat.eq_zero_or_pos h with h0|h0
  ·have hh1:((h:Int) == 0)=true:=by rw[beq_iff_eq];omega
   have hh2:decide (h=0)=true:=decide_eq_true h0
   have hf2:full=pre++[(0,ys,p)]:=by rw[hfull.out,h0,qaw,hp]
   subst h0
   replace hf2:=zH hf2
   clear hA hpos hie hp
   go_wp2_with (at_builtin;refine qQ ?_)
   refine Qt.go (Zh w6 rfl (.tmp 28) (.tmp 32) 153 rfl w1.heap.size 160 i0 _ 3 40 Tryz.underlying153 hi.out hz0 hz1 hz2 rfl (by decide) (.slice Av pre.length cv) pre.length (Zv ps) (by exact rfl) ho #[.int .i64 0,.slice A9 ys.length c9,.int .i64 (p:Int)] (by exact rfl) rfl (by simp[Value.oneCell']) (by omega) (by decide) xx6.size ?_)
   intro v' W' hown' hg hB hat
   have hF:jd w1.heap.size W' v' (pre++[(0,ys,p)]):=jd.push (s:=(0,ys,p)) xx6.size e0 hpp.out hips.out hsx.out hown' hg hat
   have hBW:Ext w W':=x1.trans (Below.trans xx6 hB)
   replace hF:=zH hF
   replace hBW:=zH hBW
   clear hown' hg hat hB
   go_wp2_with fail
   go_ret
   exact⟨_,rfl,by rw[hf2.out];exact hF.out.toE.mono z1,hBW.out⟩
  ·have hh1:((h:Int) == 0)=false:=by rw[beq_eq_false_iff_ne];omega
   have hh2:decide (h=0)=false:=decide_eq_false (by omega)
   obtain⟨h',hh⟩:∃ h',h=h'+1:=⟨h-1,by omega⟩
   obtain⟨j,hj⟩:∃ j,kJ ys (k,i,o)=j:=⟨_,rfl⟩
   have hjl:j<ys.length:=by rw[←hj];exact jF (hpos.out h0)
   obtain⟨b',e1,f8,f256,zs,e4,e5⟩:=jq (h:=h') (by rw[←hh];exact Jd hsp.out _ (List.getElem_mem hjl))
   have hfl:full=(pre++[(h,ys,j)])++vK S (k,i,o) h' zs:=by
    rw[hfull.out,hh,TE (by rw[hj];exact List.getElem?_eq_getElem hjl) (by rw[e1,Int.toNat_natCast];exact e4),hj,List.append_assoc]
    rfl
   have hms:TS S (.int .i64 (b':Int))<TS S (.int .i64 (r:Int)):=by rw[qaI e4,hlv.out];omega
   obtain⟨b9,off,rfl,hb9⟩:=hA (by omega)
   have hfin:∀ (v':Value) (W':World),w6.ownsRow w1.heap.size 160 3 (.slice Av pre.length cv) pre.length (Zv ps)→W'.ownsRow w1.heap.size 160 3 v' (pre.length+1) (Zv ps++[.int .i64 (h:Int),.slice (some ⟨b9,off,none⟩) ys.length c9,.int .i64 (j:Int)])→w6.grownBy W' (Value.slice Av pre.length cv).ownBlock→(v'.ownBlock=(Value.slice Av pre.length cv).ownBlock∨∃ g,v'.ownBlock=some g∧w6.heap.size≤g)→Below w1.heap.size w6 W' →
     WyI S (k,i,o) full w1.heap.size w1 v' (.int .i64 (b':Int)) W'∧TS S (.int .i64 (b':Int))<TS S (.int .i64 (r:Int)):=fun v' W' _ hown' hg hat hB=>by
    obtain⟨A7,c7,rfl,-,-⟩:=qJ hown'
    have hF:jd w1.heap.size W' (.slice A7 (pre.length+1) c7) (pre++[(h,ys,j)]):=jd.push (s:=(h,ys,j)) xx6.size e0 hpp.out hips.out hsx.out hown' hg hat
    exact⟨⟨h',b',zs,_,A7,c7,by simp,rfl,f8,f256,e4,e5,hfl,by simp;omega,hF,Below.trans xx6 hB⟩,hms⟩
   have hit:∀ W':World,w6.grownBy W' (Value.slice Av pre.length cv).ownBlock→W'.cell? ⟨b9,off+j*5+3,none⟩=some (.int .i64 (b':Int))∧W'.heap[w4.heap.size]?=some (.cells #[.int .i64 (h:Int),.slice (some ⟨b9,off,none⟩) ys.length c9] 49 (0,0)):=fun W' hg=>by
    obtain⟨A',c',-,-,-,d3,-,-⟩:=(show Its W' W'.heap.size (.slice (some ⟨b9,off,none⟩) ys.length c9) ys by have:=hsx.out.its (hgr.out W' hg);rw[hips.out] at this;exact this).item j hjl
    rw[e1] at d3
    refine⟨d3,(hg.block _ (zG.1 rn6).1 fun e=>?_).trans rn6⟩
    have:=hso'.out _ e.symm
    omega
   replace hfin:=zH hfin
   replace hit:=zH hit
   replace hpos:=zH hpos
   replace hh:=zH hh
   clear hA hfl hms e4 e5 hsp hn hfull hlv hpp hgr
   have hcase:(ie=true∧p=j)∨(ie=false∧max (0:Int) ((p:Int)-1)=(j:Int)):=by
    unfold kJ at hj
    rw[hie,hp] at hj
    cases ie
    ·right
     refine⟨rfl,?_⟩
     simp only[Bool.false_eq_true,if_false] at hj
     omega
    ·left
     exact⟨rfl,by simpa using hj⟩
   clear hie hp hj
   rcases hcase with ⟨rfl,rfl⟩|⟨rfl,hmax⟩
   ·go_wp2_with (at_builtin;refine qQ ?_)
    refine Qt.go (Zh w6 rfl (.tmp 39) (.tmp 43) 153 rfl w1.heap.size 160 i0 _ 3 40 Tryz.underlying153 hi.out hz0 hz1 hz2 rfl (by decide) (.slice Av pre.length cv) pre.length (Zv ps) (by exact rfl) ho #[.int .i64 (h:Int),.slice (some ⟨b9,off,none⟩) ys.length c9,.int .i64 (p:Int)] (by exact rfl) rfl (by simp[Value.oneCell']) (by omega) (by decide) xx6.size ?_)
    intro v' W' hown' hg hB hat
    obtain⟨d3,rnW⟩:=hit.out W' hg
    have knW:=qa rnW
    have hF:=zH (hfin.out v' W' ho hown' hg hat hB)
    clear hfin hit hown' hg hat hB ho
    go_wp2_with fail
    exact hF.out
   ·go_wp2_with (at_builtin;refine qQ ?_)
    refine Qt.go (Zh w6 rfl (.tmp 39) (.tmp 43) 153 rfl w1.heap.size 160 i0 _ 3 40 Tryz.underlying153 hi.out hz0 hz1 hz2 rfl (by decide) (.slice Av pre.length cv) pre.length (Zv ps) (by exact rfl) ho #[.int .i64 (h:Int),.slice (some ⟨b9,off,none⟩) ys.length c9,.int .i64 (j:Int)] (by exact rfl) rfl (by simp[Value.oneCell']) (by omega) (by decide) xx6.size ?_)
    intro v' W' hown' hg hB hat
    obtain⟨d3,rnW⟩:=hit.out W' hg
    have knW:=qa rnW
    have hF:=zH (hfin.out v' W' ho hown' hg hat hB)
    clear hfin hit hown' hg hat hB ho
    go_wp2_with fail
    exact hF.out
def vU (s:Stp):Bool:=decide (s.2.1.length<5)
def ThinIx (l:List Stp) (u:Value):Prop:=(∃ j:Nat,u=.int .i64 (j:Int)∧l.any vU=true)∨(u=.int .i64 (-1)∧l.any vU=false)
set_option maxHeartbeats 1000000 in
set_option maxRecDepth 100000 in
theorem qeo (lvl p:Int) (A:Option Addr) (n c:Nat) (w:World):Calls Tryz.prog 145 #[.agg #[.int .i64 lvl,.slice A n c,.int .i64 p]] w (Ret (.bool (decide (n<5))) w):=by
 go_enter Tryz.func145,Tryz.ntmps145
 by_cases h:n<5
 ·have h1:decide ((n:Int)<5)=true:=decide_eq_true (by omega)
  rw[decide_eq_true h]
  replace h:=zH h
  go_wp2
  go_ret
  exact⟨rfl,Ext.alloc _ _⟩
 ·have h1:decide ((n:Int)<5)=false:=decide_eq_false (by omega)
  rw[decide_eq_false h]
  replace h:=zH h
  go_wp2
  go_ret
  exact⟨rfl,Ext.alloc _ _⟩
set_option maxHeartbeats 4000000 in
set_option maxRecDepth 100000 in
theorem qeg (v:Value) (l:List Stp) (hl:l.length≤100) (w:World) (h:vJ w.heap.size w v l) :
  Calls Tryz.prog 168 #[v,.func (.func 145) #[] #[]] w (zD (fun u _=>ThinIx l u) w):=by
 obtain⟨ps,hps,⟨A,c,rfl,hc1,hc2,hr⟩,hpp⟩:=h
 have hpl:ps.length=l.length:=by rw[←hps,List.length_map]
 replace hr:=zH hr
 replace hc2:=zH hc2
 go_enter Tryz.func168,Tryz.ntmps168
 go_wp2_with fail
 go_loopw [8] (fun i wr=>∃ k:Nat,k≤l.length∧i=.int .i64 (k:Int)∧Ext w wr∧(l.take k).any vU=false) (fun i _=>l.length-(intOf i).toNat)
 case atStart=>exact⟨0,Nat.zero_le _,rfl,Ext.refl _,rfl⟩
 case round =>
  obtain⟨k,hk,rfl,xr,hno⟩:=hrel
  replace hno:=zH hno
  by_cases hlt:k<l.length
  ·obtain⟨bv,offv,rfl,hbv,hcel⟩:=hr.out.2 (by omega)
   have hkp:k<ps.length:=by omega
   obtain⟨d0,d1,d2⟩:=Kc ps k hkp
   replace d0:=Ext.cell xr (hcel _ _ d0)
   replace d1:=Ext.cell xr (hcel _ _ d1)
   replace d2:=Ext.cell xr (hcel _ _ d2)
   rw[←Nat.add_assoc] at d1 d2
   obtain⟨Ax,cx,hx2⟩:=(hpp ps[k] (List.getElem_mem hkp)).1
   have hxe:ps[k].1=l[k]:=by simp only[←hps,List.getElem_map]
   rw[hx2,hxe] at d1
   rw[hxe] at d0 d2
   have HAT:=zH (fun (he:vU l[k]=true)=>show l.any vU=true from List.any_eq_true.2 ⟨l[k],List.getElem_mem hlt,he⟩)
   have HNO:=zH (fun (he:vU l[k]=false)=>show (l.take (k+1)).any vU=false by rw[List.take_succ_eq_append_getElem hlt,List.any_append,hno.out];simp[he])
   unfold vU at HAT HNO
   generalize l[k]=u at *
   obtain⟨ul,uxs,up⟩:=u
   dsimp only at d0 d1 d2 HAT HNO
   clear hcel hx2 hxe
   have hw64:=zH (IntWalk.wrap64_in ((k:Int)+1) (by omega))
   have hV:=qeo (ul:Int) (up:Int) Ax uxs.length cx wr
   go_wp2_with fail
   refine hV.mono ?_
   rintro e w2 ⟨rfl,hB⟩
   clear d0 d1 d2 hV
   by_cases he:uxs.length<5
   ·rw[decide_eq_true he]
    have HQ:=zH (HAT.out (decide_eq_true he))
    clear HAT HNO
    replace he:=zH he
    go_wp2_with fail
    refine bodyPost_ret (v:=.int .i64 (k:Int)) ?_ rfl ⟨_,rfl,.inl ⟨k,rfl,HQ.out⟩,Ext.trans xr hB⟩
    simp[results,Tryz.results168,go_sem]
   ·rw[decide_eq_false he]
    have HQ:=zH (HNO.out (decide_eq_false he))
    clear HAT HNO
    replace he:=zH he
    have hw1:=hw64.out
    go_wp2_with fail
    refine⟨⟨k+1,hlt,rfl,Ext.trans xr hB,HQ.out⟩,?_⟩
    simp[intOf]
    omega
  ·obtain rfl:k=l.length:=by omega
   have HQ:=zH (show l.any vU=false by have:=hno.out;rwa [List.take_length] at this)
   go_wp2_with fail
   refine bodyPost_ret (v:=.int .i64 (-1)) ?_ rfl ⟨_,rfl,.inr ⟨rfl,HQ.out⟩,xr⟩
   simp[results,Tryz.results168,go_sem]
set_option maxHeartbeats 1000000 in
set_option maxRecDepth 100000 in
theorem thin_any (v:Value) (l:List Stp) (hl:l.length≤100) (w:World) (h:vJ w.heap.size w v l) :
  Calls Tryz.prog 144 #[v,.func (.func 145) #[] #[]] w (Ret (.bool (l.any vU)) w):=by
 have HX:=qeg v l hl w h
 clear h
 go_enter Tryz.func144,Tryz.ntmps144
 go_wp2_with fail
 refine HX.mono ?_
 rintro e w2 ⟨u,rfl,hu,hB⟩
 rcases hu with ⟨j,rfl,hj⟩|⟨rfl,hj⟩
 ·have hd:decide ((0:Int)≤(j:Int))=true:=decide_eq_true (by omega)
  go_wp2_with fail
  go_ret
  exact⟨by rw[hj];rfl,hB⟩
 ·go_wp2_with fail
  go_ret
  exact⟨by rw[hj];rfl,hB⟩
set_option maxHeartbeats 4000000 in
set_option maxRecDepth 100000 in
theorem tall_any (v:Value) (l:List Stp) (hl:l.length≤100) (hl0:0<l.length) (k i o:Int) (hl5:∀ s∈l,s.2.1.length≤5) (w:World) (h:vJ w.heap.size w v l) :
  Calls Tryz.prog 99 #[v,keyV k i o] w (Ret (.bool (XA (k,i,o) l)) w):=by
 have HT:=zH (fun W (hx:Ext w W)=>thin_any v l hl W ((h.below hx).more hx.size))
 obtain⟨ps,hps,⟨A,c,rfl,hc1,hc2,hr⟩,hpp⟩:=h
 have hpl:ps.length=l.length:=by rw[←hps,List.length_map]
 obtain⟨bv,offv,rfl,hbv,hcel⟩:=hr.2 hl0
 obtain⟨m,hm⟩:∃ m,l.length=m+1:=⟨l.length-1,by omega⟩
 have hmp:m<ps.length:=by omega
 have hml:m<l.length:=by omega
 obtain⟨d0,d1,d2⟩:=Kc ps m hmp
 replace d0:=hcel _ _ d0
 replace d1:=hcel _ _ d1
 replace d2:=hcel _ _ d2
 rw[←Nat.add_assoc] at d1 d2
 obtain⟨⟨Ax,cx,hx2⟩,hits⟩:=hpp ps[m] (List.getElem_mem hmp)
 have hxe:ps[m].1=l[m]:=by simp only[←hps,List.getElem_map]
 rw[hx2,hxe] at d1 hits
 rw[hxe] at d0
 have hlast:l.getLast?=some l[m]:=by rw[List.getLast?_eq_getElem?,hm,Nat.add_sub_cancel];exact List.getElem?_eq_getElem hml
 have hq:XA (k,i,o) l=(decide (l.length=6) && !(l.any vU) && !(Ke l[m].2.1 (k,i,o))):=by
  unfold XA
  rw[hlast]
  simp only
  congr 2
  rw[Bool.eq_iff_iff]
  simp[List.all_eq_true,vU]
 have hu5:=hl5 l[m] (List.getElem_mem hml)
 rw[hq]
 generalize l[m]=u at *
 obtain⟨ul,uxs,up⟩:=u
 dsimp only at d0 d1 hits hu5 ⊢
 have HP:=zH (fun W (hx:Ext w W)=>To (ul:Int) Ax cx uxs k i o W hu5 ((hits.below hx).more hx.size))
 clear hq hlast hcel hr hx2 hxe hpp hits d2 hps
 replace hm:=zH hm
 have hmk:m<l.length:=hml
 generalize l.any vU=bt at *
 generalize Ke uxs (k,i,o)=bi at *
 generalize Qv uxs (k,i,o)=pn at *
 replace hc2:=zH hc2
 go_enter Tryz.func99,Tryz.ntmps99
 go_wp2_with fail
 generalize hw1:World.alloc _ _=w1
 have x1:Ext w w1:=by rw[←hw1];exact Ext.alloc _ _
 have r1:w1.heap[w.heap.size]?=some (.cells #[.int .u8 k,.int .u32 i,.int .u32 o] 66 (0,0)):=by rw[←hw1];exact World.alloc_heap_at _ _ _ rfl
 clear hw1
 refine(HT.out w1 x1).mono ?_
 clear HT
 rintro e w2 ⟨rfl,hB⟩
 have x2:Ext w w2:=x1.trans hB
 have r2:=qc r1 hB
 clear r1 hB x1
 go_upto_region 2 with fail
 have g0:∀ W,ql.r w2 W→W.cell? ⟨bv,offv+m*3,none⟩=some (.int .i64 (ul:Int)):=fun W h=>Ext.cell (x2.trans h) d0
 have g1:∀ W,ql.r w2 W→W.cell? ⟨bv,offv+m*3+1,none⟩=some (.slice Ax uxs.length cx):=fun W h=>Ext.cell (x2.trans h) d1
 have g2:∀ W,ql.r w2 W→∀ i_1,W.cell? ⟨w.heap.size,i_1,none⟩=#[.int .u8 k,.int .u32 i,.int .u32 o][i_1]?:=fun W h=>qa (qc r2 h)
 clear d0 d1
 have hwl:=zH (show IntKind.i64.wrap ((l.length:Int)-1)=(m:Int) by rw[IntKind.wrap_i64];have:=hm.out;omega)
 refine qm (by kernel_rfl) ?_
 refine qR (w:=w2) ql (qG [(8,one (.tuple #[.int .i64 (pn:Int),.bool bi]))]) (List.replicate 14 true) 0 (by kernel_rfl) (by kernel_rfl) (by kernel_rfl) (by kernel_rfl) (by kernel_rfl) (by kernel_rfl) (by kernel_rfl) ?st (Rel.drew _ _) ?walk
 case st=>exact qk (by simp only[List.forall_mem_cons];exact⟨qaK _,fun _ h=>by cases h⟩)
 case walk =>
  intro K hK
  dsimp only[qp,List.replicate]
  repeat ((first|(refine qd ?_ (by rfl) (by rfl) (fun W hW _=>⟨W,?_,Rel.refl _ W⟩) ?_;rotate_left;(first|(go_simp;with_reducible rfl)|(go_simp;done)))|(refine qh (by rfl) ?_));try simp only[Act.put,qi,qe,qb,qf,zA,zB,zC])
  refine qd (.pointer (some ⟨bv,offv+m*3,none⟩)) (by rfl) (by rfl) (fun W hW _=>⟨W,?_,Rel.refl _ W⟩) ?_
  ·go_simp
   rw[hwl.out,if_pos (by omega)]
   simp
  simp only[Act.put,qi,qe,qb,qf,zA,zB,zC]
  repeat ((first|(refine qd ?_ (by rfl) (by rfl) (fun W hW _=>⟨W,?_,Rel.refl _ W⟩) ?_;rotate_left;(first|(go_simp;with_reducible rfl)|(go_simp;done)))|(refine qh (by rfl) ?_));try simp only[Act.put,qi,qe,qb,qf,zA,zB,zC])
  refine qy (one _) (by rfl) (by rfl) (fun W hW _=>?_) (fun (_:Unit)=>?_)
  ·have hW':Ext w2 W:=hW
   refine Qe ?_ ((HP.out W (x2.trans hW')).mono fun e w' h=>⟨(),h.1,trivial,h.2⟩)
   go_simp
  simp only[Act.put,qi,qe,qb,qf,zA,zB,zC]
  repeat ((first|(refine qd ?_ (by rfl) (by rfl) (fun W hW _=>⟨W,?_,Rel.refl _ W⟩) ?_;rotate_left;(first|(go_simp;with_reducible rfl)|(go_simp;done)))|(refine qh (by rfl) ?_));try simp only[Act.put,qi,qe,qb,qf,zA,zB,zC])
  refine qt (hK _ _ fun W hW hF=>?_)
  clear hF hK
  have hW:Ext w2 W:=hW
  have xW:Ext w W:=x2.trans hW
  dsimp only[List.drop,List.length_cons,List.length_nil,Nat.reduceAdd,Nat.reduceSub]
  go_wp2
  refine Qn ?_
  clear HP g0 g1 g2 r2
  by_cases h6:l.length=6
  ·have e6:((l.length:Int) == 6)=true:=by rw[beq_iff_eq];omega
   have d6:=decide_eq_true h6
   replace h6:=zH h6
   cases bt
   ·cases bi
    all_goals
     go_wp2_with fail
     go_ret
     exact⟨by rw[d6];rfl,xW⟩
   ·go_wp2_with fail
    go_ret
    exact⟨by rw[d6];rfl,xW⟩
  ·have e6:((l.length:Int) == 6)=false:=by rw[beq_eq_false_iff_ne];omega
   have d6:=decide_eq_false h6
   replace h6:=zH h6
   go_wp2_with fail
   go_ret
   exact⟨by rw[d6];rfl,xW⟩
end Go.Proofs.YtpbniokljofedaaGreat
