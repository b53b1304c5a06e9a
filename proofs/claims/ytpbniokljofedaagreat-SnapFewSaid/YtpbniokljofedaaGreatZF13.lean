/- Texts Mix, VolF2, Order, Place, FWalkW, joined. -/
import Derived.Test.YtpbniokljofedaaGreatZF03
import Derived.Test.YtpbniokljofedaaGreatZF07
import Derived.Test.YtpbniokljofedaaGreatZF08
import Derived.Test.YtpbniokljofedaaGreatZF10
import Derived.Test.YtpbniokljofedaaGreatZF12
set_option linter.unusedSimpArgs false
set_option linter.unusedVariables false
set_option maxHeartbeats 8000000
namespace Go.Proofs.YtpbniokljofedaaGreat
open Go.RowKit
theorem Rd.some_ {w w':World} {B size n:Nat} {A:Option Addr} {xs:List Value} (h:Rd w B size A n xs) (hk:∀ p v,w.cell? p=some v→w'.cell? p=some v):Rd w' B size A n xs:=
 ⟨h.1,fun hn=>by
  obtain⟨b,off,e,hb,hc⟩:=h.2 hn
  exact⟨b,off,e,hb,fun j u hu=>hk _ _ (hc j u hu)⟩⟩
theorem Bys.some_ {w w':World} {B:Nat} {v:Value} {l:List UInt8} (h:Bys w B v l) (hk:∀ p v,w.cell? p=some v→w'.cell? p=some v):Bys w' B v l:=by
 obtain⟨A,c,e,hc,hm,hr⟩:=h
 exact⟨A,c,e,hc,hm,hr.some_ hk⟩
theorem qP.some_ {w w':World} {B:Nat} {v1 v2 v3 v4:Value} {S:Sto} (h:qP w B v1 v2 v3 v4 S) (hk:∀ p v,w.cell? p=some v→w'.cell? p=some v):qP w' B v1 v2 v3 v4 S:=by
 obtain⟨⟨vs,A,c,e,h1,h2,h3,h4⟩,⟨ps,e',⟨A',c',e1,e2,e3,hr⟩,hp⟩,h5,h6⟩:=h
 exact⟨⟨vs,A,c,e,h1,h2,h3.some_ hk,fun i u l hu hl=>(h4 i u l hu hl).some_ hk⟩,⟨ps,e',⟨A',c',e1,e2,e3,hr.some_ hk⟩,fun p h=>⟨(hp p h).1,(hp p h).2.some_ hk⟩⟩,h5.some_ hk,h6.some_ hk⟩
def mixW (lo N:Nat) (W C:World):World:={ C with heap:=Array.ofFn (n:=max N C.heap.size) fun k=>if lo≤k.1∧k.1<N then W.heap[k.1]?.getD (.deferred none) else C.heap[k.1]?.getD (.deferred none) }
theorem qdZ (lo N:Nat) (W C:World) (q:Addr):(mixW lo N W C).cell? q=if lo≤q.block∧q.block<N then W.cell? q else C.cell? q:=by
 unfold World.cell?
 have e:(mixW lo N W C).heap[q.block]?=if q.block<max N C.heap.size then some (if lo≤q.block∧q.block<N then W.heap[q.block]?.getD (.deferred none) else C.heap[q.block]?.getD (.deferred none)) else none:=by
  simp only[mixW,Array.getElem?_ofFn]
  split <;> rfl
 rw[e]
 by_cases h:lo≤q.block∧q.block<N
 ·rw[if_pos (by omega),if_pos h]
  simp only[if_pos h]
  cases W.heap[q.block]? <;> rfl
 ·simp only[if_neg h]
  split
  ·rename_i h1
   split at h1
   ·cases hq:C.heap[q.block]? with
    |none=>rw[hq] at h1;cases h1
    |some o=>rw[hq] at h1;simp only[Option.getD_some,Option.some.injEq] at h1;subst h1;rfl
   ·cases h1
  ·rename_i h1
   split at h1
   ·cases hq:C.heap[q.block]? with
    |none=>rfl
    |some o =>
     cases o with
     |cells c e f=>exact absurd (by rw[hq];rfl) (h1 c e f)
     |_=>rfl
   ·rename_i h2
    rw[Array.getElem?_eq_none (by omega)]
theorem qie {Φ:World→Prop} (hm:∀ A C:World,(∀ q v,A.cell? q=some v→C.cell? q=some v)→Φ A→Φ C) {lo N:Nat} {W:World} (h:∀ W2:World,(∀ q:Addr,lo≤q.block→q.block<N→W2.cell? q=W.cell? q)→Φ W2) :
  ∀ C:World,(∀ q v,lo≤q.block→q.block<N→W.cell? q=some v→C.cell? q=some v)→Φ C:=fun C h3 =>
 hm (mixW lo N W C) C (fun q v hq=>by
  rw[qdZ] at hq
  split at hq
  ·rename_i h1;exact h3 q v h1.1 h1.2 hq
  ·exact hq) (h _ fun q h1 h2=>by rw[qdZ,if_pos ⟨h1,h2⟩])
structure Qf (W W':World):Prop where
 size:W.heap.size≤W'.heap.size
 same:∀ (k:Nat) (o:Obj),W.heap[k]?=some o→o.isCells=true→W'.heap[k]?=some o
theorem Qf.refl (W:World):Qf W W:=⟨zM _,fun _ _ h _=>h⟩
theorem Qf.row {W W':World} (h:Qf W W') {b:Nat} {cs:Array Value} {ty:TypeId} {fz:Nat×Nat} (hr:W.heap[b]?=some (.cells cs ty fz)):W'.heap[b]?=some (.cells cs ty fz):=h.same b _ hr rfl
theorem Qf.cell {W W':World} (h:Qf W W') {q:Addr} {v:Value} (hq:W.cell? q=some v):W'.cell? q=some v:=by
 unfold World.cell? at *
 cases hb:W.heap[q.block]? with
 |none=>rw[hb] at hq;cases hq
 |some o =>
  cases o with
  |cells c e f =>
   rw[hb] at hq
   rw[h.row hb]
   exact hq
  |_=>rw[hb] at hq;cases hq
theorem Qf.grown {Wb W W':World} {row:Option Nat} (h:Qf Wb W) (hg:W.grownBy W' row) (hr:∀ r,row=some r→∃ o:Obj,W.heap[r]?=some o∧o.isCells=false):Qf Wb W':=⟨Nat.le_trans h.size hg.size,fun k o hk ho=>by
 have h1:=h.same k o hk ho
 refine(hg.block k (zG.1 h1).1 fun e=>?_).trans h1
 obtain⟨o',h2,h3⟩:=hr k e.symm
 rw[h1] at h2
 cases h2
 rw[ho] at h3
 cases h3⟩
def PosZ (lo:Nat) (W W':World):Prop:=∀ (q:Addr) (v:Value),lo≤q.block→q.block<W.heap.size→(thaw W).cell? q=some v→W'.cell? q=some v
theorem Ext.thaw {w w':World} (h:Ext w w'):Ext (thaw w) (Go.Proofs.YtpbniokljofedaaGreat.thaw w'):=⟨h.os,h.tape,h.output,by rw[km,km];exact h.size,fun k hk=>by
 rw[km] at hk
 rw[vL,vL,h.block k hk]⟩
theorem Bys.of_ownT {w:World} {base n:Nat} {e:TypeId} {v:Value} {l:List UInt8} (h:w.ownsRow base e 1 v n (l.map bv)):Bys (thaw w) w.heap.size v l:=(NewB.of_own h).thaw
def NewSto (lo:Nat) (S:Sto) (u:Value) (W:World):Prop:=∃ A1 c1 A2 c2 A3 c3 A4 c4,u=qX A1 S.bs.length c1 A2 S.ws.length c2 A3 S.now.length c3 A4 S.last.length c4 ∧
 ∀ C:World,PosZ lo W C→qP C W.heap.size (.slice A1 S.bs.length c1) (.slice A2 S.ws.length c2) (.slice A3 S.now.length c3) (.slice A4 S.last.length c4) S
theorem Jc {lo:Nat} {W W':World} (h:∀ k,lo≤k→k<W.heap.size→W'.heap[k]?=W.heap[k]?):PosZ lo W W':=fun q v h1 h2 h3=>(World.cell?_of_block (h q.block h1 h2)).trans (TS h3).1
theorem zy {w0 w:World} {B b:Nat} (h:Below B w0 w) (hb:B≤b) (x0 x1 x2 x3:Value):Below B w0 ((((w.setCell ⟨b,0,none⟩ x0).setCell ⟨b,1,none⟩ x1).setCell ⟨b,2,none⟩ x2).setCell ⟨b,3,none⟩ x3):=
 Below.setCell (Below.setCell (Below.setCell (Below.setCell h (p:=⟨b,0,none⟩) hb _) (p:=⟨b,1,none⟩) hb _) (p:=⟨b,2,none⟩) hb _) (p:=⟨b,3,none⟩) hb _
theorem vz {w:World} {b:Nat} {ty:TypeId} {y0 y1 y2 y3:Value} (h:w.heap[b]?=some (.cells #[y0,y1,y2,y3] ty (0,0))) (x0 x1 x2 x3:Value) :
  ((((w.setCell ⟨b,0,none⟩ x0).setCell ⟨b,1,none⟩ x1).setCell ⟨b,2,none⟩ x2).setCell ⟨b,3,none⟩ x3).heap[b]?=some (.cells #[x0,x1,x2,x3] ty (0,0)):=qi (qi (qi (qi h 0 x0) 1 x1) 2 x2) 3 x3
theorem jj {w:World} {b:Nat} {ty:TypeId} {y0 y1 y2 y3 y4 y5 y6 y7:Value} (h:w.heap[b]?=some (.cells #[y0,y1,y2,y3,y4,y5,y6,y7] ty (0,0))) (x0 x1 x2 x3 x4 x5 x6 x7:Value) :
  ((((((((w.setCell ⟨b,0,none⟩ x0).setCell ⟨b,1,none⟩ x1).setCell ⟨b,2,none⟩ x2).setCell ⟨b,3,none⟩ x3).setCell ⟨b,4,none⟩ x4).setCell ⟨b,5,none⟩ x5).setCell ⟨b,6,none⟩ x6).setCell ⟨b,7,none⟩ x7).heap[b]?=some (.cells #[x0,x1,x2,x3,x4,x5,x6,x7] ty (0,0)):=by
 have h1:=qi (qi (qi (qi h 0 x0) 1 x1) 2 x2) 3 x3
 exact qi (qi (qi (qi (cs:=#[x0,x1,x2,x3,y4,y5,y6,y7]) h1 4 x4) 5 x5) 6 x6) 7 x7
theorem QV {w0 w:World} {B b:Nat} (h:Below B w0 w) (hb:B≤b) (x0 x1 x2 x3 x4 x5 x6 x7:Value):Below B w0 ((((((((w.setCell ⟨b,0,none⟩ x0).setCell ⟨b,1,none⟩ x1).setCell ⟨b,2,none⟩ x2).setCell ⟨b,3,none⟩ x3).setCell ⟨b,4,none⟩ x4).setCell ⟨b,5,none⟩ x5).setCell ⟨b,6,none⟩ x6).setCell ⟨b,7,none⟩ x7):=
 Below.setCell (Below.setCell (Below.setCell (Below.setCell (zy h hb x0 x1 x2 x3) (p:=⟨b,4,none⟩) hb _) (p:=⟨b,5,none⟩) hb _) (p:=⟨b,6,none⟩) hb _) (p:=⟨b,7,none⟩) hb _
theorem ja {w:World} {b k:Nat} (hk:k≠b) (x0 x1 x2 x3 x4 x5 x6 x7:Value):((((((((w.setCell ⟨b,0,none⟩ x0).setCell ⟨b,1,none⟩ x1).setCell ⟨b,2,none⟩ x2).setCell ⟨b,3,none⟩ x3).setCell ⟨b,4,none⟩ x4).setCell ⟨b,5,none⟩ x5).setCell ⟨b,6,none⟩ x6).setCell ⟨b,7,none⟩ x7).heap[k]?=w.heap[k]?:=by
 have hs:=fun (A:World) (j:Nat) (v:Value)=>zJ A ⟨b,j,none⟩ v k hk
 rw[hs,hs,hs,hs,hs,hs,hs,hs]
def VolFQ (S:Sto) (root next:Int) (dead:List Int) (id:Int) (w:World) (e:Ending) (w':World):Prop:=Below w.heap.size w w' ∧
 ((e=.returned (.tuple #[jK YB,.int .i64 8])∧∀ vs,Ql S root next dead vs→∃ refs nodes,qR S (Qw root dead vs) refs nodes∧¬QD S refs) ∨
  ∃ vs refs nodes,Ql S root next dead vs∧qR S (Qw root dead vs) refs nodes∧QD S refs∧e=.returned (volQ (zm vs id)))
theorem Gu {R:Ending→World→Prop} {a:Act} {W:World} {b:Nat} {u:Vol} {v:Value} (h4:a.tmps[4]?.getD undef=.pointer (some ⟨b,0,none⟩)) (h5:a.tmps[5]?.getD undef=v) (hd:a.defers=[])
  (hrow:W.heap[b]?=some (.cells #[.int .u32 u.id,.int .i64 u.root,.bool u.fz,.int .u32 u.frm] 40 (0,0))) (hR:R (.returned (.tuple #[jK u,v])) W):bodyPost Tryz.prog Tryz.f18 R .ret a W:=by
 refine bodyPost_ret (v:=.tuple #[jK u,v]) ?_ hd hR
 have k:=qa hrow
 simp[results,Tryz.results18,go_sem,h4,h5,k]
set_option maxRecDepth 100000 in
theorem Gt (A1:Option Addr) (n1 c1:Nat) (A2:Option Addr) (n2 c2:Nat) (A3:Option Addr) (n3 c3:Nat) (A4:Option Addr) (n4 c4:Nat) (gen root next:Int) (A5:Option Addr) (c5:Nat) (S:Sto) (dead:List Int) (id:Int) (w:World)
  (h:qP w w.heap.size (.slice A1 n1 c1) (.slice A2 n2 c2) (.slice A3 n3 c3) (.slice A4 n4 c4) S) (hd:Zn w w.heap.size (.slice A5 dead.length c5) dead) :
  Calls Tryz.prog 18 #[.agg (qC (.slice A1 n1 c1) (.slice A2 n2 c2) (.slice A3 n3 c3) (.slice A4 n4 c4) gen root next (.slice A5 dead.length c5)),.int .u32 id] w (VolFQ S root next dead id w):=by
 have HT:=zH (fun W (hx:Ext w W)=>kh A1 n1 c1 A2 n2 c2 A3 n3 c3 A4 n4 c4 gen root next A5 c5 S dead W (h.ext hx) (by
  obtain⟨A,c,e,q1,q2,q3⟩:=hd
  exact⟨A,c,e,q1,q2,(q3.below hx).more hx.size⟩))
 clear h hd
 go_enter Tryz.func18,Tryz.ntmps18
 go_wp2_with fail
 generalize hw1:(World.alloc (World.alloc (World.alloc w _) _) _)=w1
 have x1:Ext w w1:=by rw[←hw1];exact((zN _ _).trans (zN _ _)).trans (zN _ _)
 have ri1:w1.heap[w.heap.size+1]?=some (.cells #[.int .u32 id] 29 (0,0)):=by rw[←hw1];exact(zK _ _ _ (by simp)).trans (zI _ _ _ (by simp))
 have rv1:w1.heap[w.heap.size+2]?=some (.cells #[.int .u32 0,.int .i64 0,.bool false,.int .u32 0] 40 (0,0)):=by rw[←hw1];exact zI _ _ _ (by simp)
 clear hw1
 refine(HT.out w1 x1).mono ?_
 clear HT
 rintro e w2 ⟨hB,hQ⟩
 have x2:Ext w w2:=Ext.trans x1 hB
 have ri2:=qb ri1 hB
 have rv2:=qb rv1 hB
 have z2:w.heap.size+2<w2.heap.size:=(zG.1 rv2).1
 have kv2:=qa rv2
 have fv2:=qd rv2
 rcases hQ with ⟨rfl,hno⟩|⟨vs,refs,nodes,cb,ca,vv,rfl,hT⟩
 ·replace hno:=zH hno
  clear hB x1 ri1 rv1
  go_wp2_with fail
  exact Gu (b:=w.heap.size+2) (u:=YB) rfl rfl rfl (vz rv2 _ _ _ _) ⟨zy x2 (by omega) _ _ _ _,.inl ⟨rfl,hno.out⟩⟩
 ·have hvs:vs.length≤16:=by
   have hv:=hT.pool.vols
   unfold Xw at hv
   split at hv
   ·cases hv
   ·exact Vh _ _ _ _ (by simp) hv
  obtain⟨AV,cV,rfl,hcv1,hcv2⟩:=qv hT.own
  have hrd:=Rd.of_own hT.own
  have kc:w2.cell? ⟨cb,518,none⟩=some (.slice AV vs.length cV):=by rw[qa hT.row];exact hT.ar.vol
  have HIX:=zH (vidx_any AV cV vs hvs (w.heap.size+1) id w2 ri2 hrd)
  have HR:=zH hrd
  replace hT:=zH hT
  clear hB x1 ri1 rv1 hrd
  go_wp2_with fail
  refine HIX.out.mono ?_
  clear HIX
  rintro e w3 ⟨u,rfl,hu,hB⟩
  have x3:Ext w w3:=Ext.trans x2 hB
  have rv3:=qb rv2 hB
  have kv3:=qa rv3
  have fv3:=qd rv3
  have kc3:=Ext.cell hB kc
  have z3:w.heap.size+2<w3.heap.size:=(zG.1 rv3).1
  rcases hu with ⟨j,hj,rfl,hv⟩|⟨rfl,hv⟩
  ·obtain⟨bv,offv,rfl,hbv,hcel⟩:=HR.out.2 (by omega)
   obtain⟨d0,d1,d2,d3⟩:=Yk vs j hj
   replace d0:=Ext.cell hB (hcel _ _ d0)
   replace d1:=Ext.cell hB (hcel _ _ d1)
   replace d2:=Ext.cell hB (hcel _ _ d2)
   replace d3:=Ext.cell hB (hcel _ _ d3)
   generalize vs[j]=u at *
   rw[←Nat.add_assoc] at d1 d2 d3
   have hj1:decide ((j:Int)<0)=false:=decide_eq_false (by omega)
   replace hv:=zH hv
   replace x3:=zH x3
   clear hcel kv2 fv2 rv2 ri2 kc x2 hB z2
   go_wp2_with fail
   exact Gu (b:=w.heap.size+2) (u:=u) rfl rfl rfl (vz rv3 _ _ _ _) ⟨zy x3.out (by omega) _ _ _ _,.inr ⟨vs,refs,nodes,hT.out.pool,hT.out.cnt,hT.out.enough,by rw[hv.out];rfl⟩⟩
  ·replace hv:=zH hv
   replace x3:=zH x3
   clear kv2 fv2 rv2 ri2 kc x2 hB z2
   go_wp2_with fail
   exact Gu (b:=w.heap.size+2) (u:=YB) rfl rfl rfl (vz rv3 _ _ _ _) ⟨zy x3.out (by omega) _ _ _ _,.inr ⟨vs,refs,nodes,hT.out.pool,hT.out.cnt,hT.out.enough,by rw[hv.out];rfl⟩⟩
theorem Yn (a b:K3):QJ a b=true↔(a.1<b.1∨(a.1=b.1∧(a.2.1<b.2.1∨(a.2.1=b.2.1∧a.2.2<b.2.2)))):=by simp[QJ,VU]
theorem VV (a b:K3):QJ a b=false↔¬(a.1<b.1∨(a.1=b.1∧(a.2.1<b.2.1∨(a.2.1=b.2.1∧a.2.2<b.2.2)))):=by rw[←Bool.not_eq_true,Yn]
def leK (a b:K3):Prop:=QJ b a=false
theorem Gz (a:K3):leK a a:=by unfold leK;rw[VV];omega
theorem qcl {a b c:K3} (h:leK a b) (h':QJ b c=true):QJ a c=true:=by
 unfold leK at h;rw[VV] at h;rw[Yn] at *;omega
theorem GD {a b c:K3} (h:QJ a b=true) (h':leK b c):QJ a c=true:=by
 unfold leK at h';rw[VV] at h';rw[Yn] at *;omega
theorem VS {a b:K3} (h:QJ a b=true):leK a b:=by
 unfold leK;rw[VV];rw[Yn] at h;omega
theorem lt_trans {a b c:K3} (h:QJ a b=true) (h':QJ b c=true):QJ a c=true:=GD h (VS h')
theorem Xl (a:K3):QJ a a=false:=Gz a
theorem leK_eq {a b:K3} (h:leK a b) (h':leK b a):a=b:=by
 obtain⟨a1,a2,a3⟩:=a
 obtain⟨b1,b2,b3⟩:=b
 unfold leK at *;rw[VV] at *
 simp only[Prod.mk.injEq] at *
 omega
structure Srt (f l:K3) (ys:List It):Prop where
 ord:ys.Pairwise fun a b=>QJ (qE a) (qE b)=true
 low:∀ x∈ys,leK f (qE x)
 high:∀ x∈ys,leK (qE x) l
 le:leK f l
theorem Srt.append {f l f' l':K3} {ys zs:List It} (h:Srt f l ys) (h':Srt f' l' zs) (hl:QJ l f'=true):Srt f l' (ys++zs):=
 ⟨List.pairwise_append.2 ⟨h.ord,h'.ord,fun a ha b hb=>qcl (h.high a ha) (GD hl (h'.low b hb))⟩,
  fun x hx=>(List.mem_append.1 hx).elim (h.low x) fun hx=>VS (qcl h.le (GD hl (h'.low x hx))),
  fun x hx=>(List.mem_append.1 hx).elim (fun hx=>VS (qcl (h.high x hx) (GD hl h'.le))) (h'.high x),
  VS (qcl h.le (GD hl h'.le))⟩
theorem Srt.one (x:It) {l:K3} (h:leK (qE x) l):Srt (qE x) l [x]:=
 ⟨List.pairwise_singleton _ _,fun y hy=>by rw[List.mem_singleton.1 hy];exact Gz _,fun y hy=>by rw[List.mem_singleton.1 hy];exact h,h⟩
theorem qci {S:Sto}:∀ (h:Nat) (xs ys:List It),Qn S h (xs++ys)=Qn S h xs++Qn S h ys
 |0,_,_=>rfl
 |h+1,xs,ys=>by rw[Zx,Zx,Zx,List.flatMap_append]
theorem YO (S:Sto) (h:Nat) (H1:∀ y f l,vw S h y=some (f,l)→Srt f l (Qn S h [y])) (xs:List It):∀ (k:Nat) (_:k≤xs.length) (p:K3×K3),Qd S h (xs.take k)=some (some p)→Srt p.1 p.2 (Qn S h (xs.take k))∧Srt p.1 p.2 (xs.take k):=by
 intro k
 induction k with
 |zero=>intro _ p e;rw[List.take_zero] at e;cases e
 |succ k ih =>
  intro hk p e
  have hlt:k<xs.length:=hk
  rw[Ve hlt] at e
  unfold JW at e
  rw[List.take_succ_eq_append_getElem hlt,qci]
  rcases hO:vw S h xs[k] with _|⟨f,l⟩
  ·rw[hO] at e
   rcases hA:Qd S h (xs.take k) with _|a
   ·rw[hA] at e;cases e
   ·rw[hA] at e;cases e
  ·have h1:=H1 _ _ _ hO
   rw[hO] at e
   rcases hA:Qd S h (xs.take k) with _|_|q
   ·rw[hA] at e;cases e
   ·obtain rfl:k=0:=by
     rcases Nat.eq_zero_or_pos k with h0|h0
     ·exact h0
     ·exact absurd hA (Zz h0 (by omega))
    rw[hA] at e
    simp only at e
    split at e
    ·rename_i hf
     cases e
     subst hf
     rw[List.take_zero,TD]
     exact⟨h1,Srt.one _ h1.le⟩
    ·cases e
   ·obtain⟨i1,i2⟩:=ih (by omega) q hA
    rw[hA] at e
    simp only at e
    split at e
    ·rename_i hf
     split at e
     ·rename_i hl
      cases e
      subst hf
      exact⟨i1.append h1 hl,i2.append (Srt.one _ h1.le) hl⟩
     ·cases e
    ·cases e
theorem qgX (S:Sto):∀ (h:Nat) (y:It) (f l:K3),vw S h y=some (f,l)→Srt f l (Qn S h [y])
 |0,y,f,l,e=>by
  unfold vw at e
  split at e
  ·cases e
   exact Srt.one y (Gz _)
  ·cases e
 |h+1,y,f,l,e=>by
  rw[VY] at e
  unfold vR at e
  split at e
  ·rcases hn:qu S y.r.toNat with _|⟨lvl,xs⟩
   ·rw[hn] at e;cases e
   ·rw[hn] at e
    simp only at e
    split at e
    ·rcases hs:Qd S h xs with _|_|q
     ·rw[hs] at e;cases e
     ·rw[hs] at e;cases e
     ·rw[hs] at e
      cases e
      have:=(YO S h (qgX S h) xs xs.length (zM _) _ (by rw[List.take_length];exact hs)).1
      rw[List.take_length] at this
      rw[Zx]
      simp only[List.flatMap_cons,List.flatMap_nil,List.append_nil,hn]
      exact this
    ·cases e
  ·cases e
theorem qeF {S:Sto} {h:Nat} {xs:List It} {p:K3×K3} (hs:Qd S h xs=some (some p)):Srt p.1 p.2 (Qn S h xs)∧Srt p.1 p.2 xs:=by
 have:=YO S h (qgX S h) xs xs.length (zM _) p (by rw[List.take_length];exact hs)
 rwa [List.take_length] at this
theorem span_ord {S:Sto} {h:Nat} {xs:List It} (hs:(Qd S h xs).isSome=true):(Qn S h xs).Pairwise (fun a b=>QJ (qE a) (qE b)=true)∧xs.Pairwise (fun a b=>QJ (qE a) (qE b)=true):=by
 rcases hq:Qd S h xs with _|_|p
 ·rw[hq] at hs;cases hs
 ·rcases Nat.eq_zero_or_pos xs.length with h0|h0
  ·obtain rfl:=List.eq_nil_of_length_eq_zero h0
   rw[TD]
   exact⟨List.Pairwise.nil,List.Pairwise.nil⟩
  ·exact absurd (by rw[List.take_length];exact hq) (Zz (S:=S) (h:=h) h0 (zM xs.length))
 ·exact⟨(qeF hq).1.ord,(qeF hq).2.ord⟩
theorem GN {xs:List It} (h:xs.Pairwise fun a b=>QJ (qE a) (qE b)=true) {i j:Nat} (hij:i<j) (hj:j<xs.length):QJ (qE (xs[i]'(by omega))) (qE xs[j])=true:=List.pairwise_iff_getElem.1 h i j _ hj hij
theorem qaj {S:Sto} {h:Nat} {xs:List It} (hs:(Qd S h xs).isSome=true) (k:Nat):(Qd S h (xs.take k)).isSome=true:=by
 rcases hq:Qd S h (xs.take k) with _|q
 ·rw[qbK hq] at hs;cases hs
 ·rfl
def qL (xs:List It) (k:K3):Nat:=(xs.filter fun x=>QJ (qE x) k).length
theorem JR (xs:List It) (k:K3):qL xs k≤xs.length:=List.length_filter_le _ _
theorem qgb {xs:List It} {k:K3} {i:Nat} (h:i<xs.length):qL (xs.take (i+1)) k=qL (xs.take i) k+(if QJ (qE xs[i]) k=true then 1 else 0):=by
 unfold qL
 rw[List.take_succ_eq_append_getElem h,List.filter_append,List.length_append]
 congr 1
 by_cases hl:QJ (qE xs[i]) k=true
 ·rw[if_pos hl];simp[hl]
 ·rw[if_neg hl];simp[hl]
theorem JQ:∀ {xs:List It} {k:K3},xs.Pairwise (fun a b=>QJ (qE a) (qE b)=true)→∀ i (h:i<xs.length),(QJ (qE xs[i]) k=true↔i<qL xs k)
 | [],_,_,i,h=>absurd h (Nat.not_lt_zero _)
 |x :: r,k,ho,i,h=>by
  rw[List.pairwise_cons] at ho
  by_cases hx:QJ (qE x) k=true
  ·have e:qL (x :: r) k=qL r k+1:=by simp[qL,List.filter_cons,hx]
   cases i with
   |zero=>simp[hx,e]
   |succ i=>rw[e];have:=JQ (k:=k) ho.2 i (by simpa using h);simpa using this
  ·have hall:∀ y∈r,QJ (qE y) k=false:=fun y hy=>by
    rcases hz:QJ (qE y) k with _|_
    ·rfl
    ·exact absurd (lt_trans (ho.1 y hy) hz) hx
   have e:qL (x :: r) k=0:=by
    unfold qL
    have:r.filter (fun x=>QJ (qE x) k)=[]:=by rw[List.filter_eq_nil_iff];intro y hy;simp[hall y hy]
    simp[List.filter_cons,hx,this]
   rw[e]
   cases i with
   |zero=>simp[hx]
   |succ i =>
    have hi:i<r.length:=by simpa using h
    simp[hall r[i] (List.getElem_mem hi)]
theorem GW {p:It→Bool} {xs:List It} {i:Nat} (h:i<xs.length) (hp:p xs[i]=true) (hn:∀ j (hj:j<xs.length),i<j→p xs[j]=false):xs.reverse.find? p=some xs[i]:=by
 have e:xs=xs.take i++xs[i] :: xs.drop (i+1):=by
  rw[←List.drop_eq_getElem_cons h,List.take_append_drop]
 have e2:xs.reverse=(xs.drop (i+1)).reverse++xs[i] :: (xs.take i).reverse:=by
  conv=>lhs;rw[e]
  simp
 rw[e2,List.find?_append]
 have e3:(xs.drop (i+1)).reverse.find? p=none:=by
  rw[List.find?_eq_none]
  intro y hy
  rw[List.mem_reverse] at hy
  obtain⟨j,hj,rfl⟩:=List.mem_iff_getElem.1 hy
  rw[List.length_drop] at hj
  rw[List.getElem_drop]
  simp[hn (i+1+j) (by omega) (by omega)]
 rw[e3,List.find?_cons_of_pos hp]
 rfl
theorem qex {p:It→Bool} {xs:List It} (hn:∀ j (hj:j<xs.length),p xs[j]=false):xs.reverse.find? p=none:=by
 rw[List.find?_eq_none]
 intro y hy
 rw[List.mem_reverse] at hy
 obtain⟨j,hj,rfl⟩:=List.mem_iff_getElem.1 hy
 simp[hn j hj]
def XD (xs:List It) (k:K3):Option It:=xs.reverse.find? fun x=>!QJ k (qE x)
def leafS (xs:List It) (k:K3):Option It:=xs.reverse.find? fun x=>decide (qE x=k)
def XY (S:Sto) (k:K3):Nat→List It→Option It
 |0,xs=>leafS xs k
 |h+1,xs=>match XD xs k with
  |none=>none
  |some y=>match qu S y.r.toNat with
   |none=>none
   |some (_,ys)=>XY S k h ys
theorem qei (S:Sto) (k:K3) (xs:List It):XY S k 0 xs=leafS xs k:=rfl
theorem one_down {S:Sto} {k:K3} {h:Nat} {xs ys:List It} {y:It} {lvl:Int} (hd:XD xs k=some y) (hn:qu S y.r.toNat=some (lvl,ys)):XY S k (h+1) xs=XY S k h ys:=by
 show (match XD xs k with|none=>none|some y=>match qu S y.r.toNat with|none=>none|some (_,ys)=>XY S k h ys)=_
 rw[hd];simp only;rw[hn]
theorem one_none {S:Sto} {k:K3} {h:Nat} {xs:List It} (hd:XD xs k=none):XY S k (h+1) xs=none:=by
 show (match XD xs k with|none=>none|some y=>match qu S y.r.toNat with|none=>none|some (_,ys)=>XY S k h ys)=_
 rw[hd]
section
variable {xs:List It} {k:K3} (ho:xs.Pairwise fun a b=>QJ (qE a) (qE b)=true)
include ho
theorem leaf_is (hp:qL xs k<xs.length) (he:qE (xs[qL xs k]'hp)=k):leafS xs k=some xs[qL xs k]:=by
 refine GW hp (by simp[he]) fun j hj hlt=>?_
 have:=GN ho hlt hj
 rw[he] at this
 rw[decide_eq_false_iff_not]
 intro h
 rw[h,Xl] at this
 cases this
theorem leaf_no (hn:∀ hp:qL xs k<xs.length,qE (xs[qL xs k]'hp)≠k):leafS xs k=none:=by
 refine qex fun j hj=>?_
 rw[decide_eq_false_iff_not]
 intro h
 have h1:¬j<qL xs k:=fun hl=>by
  have:=(JQ (k:=k) ho j hj).2 hl
  rw[h,Xl] at this;cases this
 have h2:¬qL xs k<j:=fun hl=>by
  have h3:=GN ho hl hj
  rw[h] at h3
  exact absurd ((JQ (k:=k) ho _ (by omega)).1 h3) (Nat.lt_irrefl _)
 have h4:qL xs k=j:=by omega
 subst h4
 exact hn hj h
theorem down_is (hp:qL xs k<xs.length) (he:qE (xs[qL xs k]'hp)=k):XD xs k=some xs[qL xs k]:=by
 refine GW hp (by simp[he,Xl]) fun j hj hlt=>?_
 have:=GN ho hlt hj
 rw[he] at this
 simp[this]
theorem down_no (h0:qL xs k=0) (hn:∀ hp:qL xs k<xs.length,qE (xs[qL xs k]'hp)≠k):XD xs k=none:=by
 refine qex fun j hj=>?_
 have h1:QJ (qE xs[j]) k=false:=by
  rcases hz:QJ (qE xs[j]) k with _|_
  ·rfl
  ·have:=(JQ ho j hj).1 hz;omega
 rcases hz:QJ k (qE xs[j]) with _|_
 ·have he:qE xs[j]=k:=leK_eq hz h1
  rcases Nat.eq_zero_or_pos j with hj0|hj0
  ·subst hj0
   exact absurd (by simpa [h0] using he) (hn (by omega))
  ·have h3:=GN ho (i:=0) hj0 hj
   rw[he] at h3
   have:=(JQ ho 0 (by omega)).1 h3
   omega
 ·simp
theorem qdE (h0:0<qL xs k) (hn:∀ hp:qL xs k<xs.length,qE (xs[qL xs k]'hp)≠k):XD xs k=some (xs[qL xs k-1]'(by have:=JR xs k;omega)):=by
 have hle:=JR xs k
 refine GW (by omega) ?_ fun j hj hlt=>?_
 ·have:=(JQ (k:=k) ho (qL xs k-1) (by omega)).2 (by omega)
  have h2:QJ k (qE (xs[qL xs k-1]'(by omega)))=false:=VS this
  simp[h2]
 ·have h1:QJ (qE xs[j]) k=false:=by
   rcases hz:QJ (qE xs[j]) k with _|_
   ·rfl
   ·have:=(JQ ho j hj).1 hz;omega
  rcases hz:QJ k (qE xs[j]) with _|_
  ·have he:qE xs[j]=k:=leK_eq hz h1
   by_cases hjp:qL xs k=j
   ·subst hjp
    exact absurd he (hn hj)
   ·have h3:=GN ho (show qL xs k<j by omega) hj
    rw[he] at h3
    have:=(JQ ho _ (by omega)).1 h3
    omega
  ·simp
end
def KR (xs:List It) (k:K3):Bool:=match xs[qL xs k]? with
 |none=>false
 |some x=>decide (qE x=k)
theorem US {xs:List It} {k:K3} (h:qL xs k<xs.length):KR xs k=decide (qE xs[qL xs k]=k):=by
 unfold KR;rw[zL h]
theorem XH {xs:List It} {k:K3} (h:¬qL xs k<xs.length):KR xs k=false:=by
 unfold KR;rw[List.getElem?_eq_none (by omega)]
theorem key_if (x:It) (k i o:Int) (W:World):(if x.k=k then if x.i=i then if x.o=o then Result.ok (Next.value (Value.bool true)) W else Result.ok (Next.value (Value.bool false)) W else Result.ok (Next.value (Value.bool false)) W else Result.ok (Next.value (Value.bool false)) W)=Result.ok (Next.value (Value.bool (decide (qE x=(k,i,o))))) W:=by
 have e:(qE x=(k,i,o))↔(x.k=k∧x.i=i∧x.o=o):=by unfold qE;simp only[Prod.mk.injEq]
 by_cases h1:x.k=k
 ·by_cases h2:x.i=i
  ·by_cases h3:x.o=o
   ·rw[if_pos h1,if_pos h2,if_pos h3,decide_eq_true (e.2 ⟨h1,h2,h3⟩)]
   ·rw[if_pos h1,if_pos h2,if_neg h3,decide_eq_false (fun h=>h3 (e.1 h).2.2)]
  ·rw[if_pos h1,if_neg h2,decide_eq_false (fun h=>h2 (e.1 h).2.1)]
 ·rw[if_neg h1,decide_eq_false (fun h=>h1 (e.1 h).1)]
theorem qbE {R:Ending→World→Prop} {a:Act} {W:World} {u v:Value} (h2:a.tmps[4]?.getD undef=u) (h3:a.tmps[5]?.getD undef=v) (hd:a.defers=[]) (hR:R (.returned (.tuple #[u,v])) W):bodyPost Tryz.prog Tryz.f143 R .ret a W:=by
 refine bodyPost_ret (v:=.tuple #[u,v]) ?_ hd hR
 simp[results,Tryz.results143,go_sem,h2,h3]
set_option maxRecDepth 100000 in
theorem GS (lvl:Int) (A:Option Addr) (c:Nat) (xs:List It) (k i o:Int) (w:World) (hl:xs.length≤5) (h:Its w w.heap.size (.slice A xs.length c) xs) :
  Calls Tryz.prog 143 #[jg lvl A xs.length c,keyV k i o] w (Ret (.tuple #[.int .i64 ((qL xs (k,i,o):Nat):Int),.bool (KR xs (k,i,o))]) w):=by
 obtain⟨-,hc1,hc2,hA⟩:=h.at_
 have HI:=zH h
 clear h
 go_enter Tryz.func143,Tryz.ntmps143
 go_wp2_with fail
 generalize hw1:(World.alloc (World.alloc w _) _)=w1
 have x1:Ext w w1:=by rw[←hw1];exact(zN _ _).trans (zN _ _)
 have rn:w1.heap[w.heap.size]?=some (.cells #[.int .i64 lvl,.slice A xs.length c] 49 (0,0)):=by rw[←hw1];exact(zK _ _ _ (by simp)).trans (zI _ _ _ rfl)
 have rk:w1.heap[w.heap.size+1]?=some (.cells #[.int .u8 k,.int .u32 i,.int .u32 o] 66 (0,0)):=by rw[←hw1];exact zI _ _ _ (by simp)
 clear hw1
 go_loopw [4,11] (fun p j wr=>∃ n:Nat,n≤xs.length∧j=.int .i64 (n:Int)∧p=.int .i64 ((qL (xs.take n) (k,i,o):Nat):Int)∧Ext w1 wr) (fun _ j _=>xs.length-(intOf j).toNat)
 case atStart=>exact⟨0,Nat.zero_le _,rfl,rfl,Ext.refl _⟩
 case round =>
  obtain⟨n,hn,rfl,rfl,xr⟩:=hrel
  have xwr:=x1.trans xr
  have kn:=qa (qb rn xr)
  have kk:=qa (qb rk xr)
  have zk:w.heap.size+1<wr.heap.size:=(zG.1 (qb rk xr)).1
  by_cases hlt:n<xs.length
  ·obtain⟨b,off,rfl,hb⟩:=hA (by omega)
   obtain⟨A',c',d0,d1,d2,d3,d4,-⟩:=HI.out.item n hlt
   replace d0:=Ext.cell xwr d0
   replace d1:=Ext.cell xwr d1
   replace d2:=Ext.cell xwr d2
   replace d3:=Ext.cell xwr d3
   replace d4:=Ext.cell xwr d4
   have HP:=zH (qgb (k:=(k,i,o)) hlt)
   have hpl:=JR (xs.take n) (k,i,o)
   rw[List.length_take] at hpl
   generalize qL (xs.take n) (k,i,o)=pl at *
   generalize xs[n]=x at *
   have hw1:=zH (IntWalk.wrap64_in ((pl:Int)+1) (by omega))
   have hw2:=zH (IntWalk.wrap64_in ((n:Int)+1) (by omega))
   go_wp2_with fail
   generalize hwa:(World.alloc wr _)=wa
   have xa:Ext wr wa:=by rw[←hwa];exact zN _ _
   clear hwa
   refine(KT x.k x.i x.o k i o wa).mono ?_
   rintro e wl ⟨rfl,hB⟩
   have xl:Ext w1 wl:=xr.trans (xa.trans hB)
   clear kn kk d0 d1 d2 d3 d4
   rcases hls:VU x.k x.i x.o k i o with _|_
   ·have hz:qL (xs.take (n+1)) (k,i,o)=pl:=by rw[HP.out,if_neg (show ¬QJ (qE x) (k,i,o)=true from (fun h=>by rw[show QJ (qE x) (k,i,o)=false from hls] at h;cases h))];rfl
    replace hz:=zH hz
    go_wp2_with fail
    refine⟨⟨n+1,hlt,rfl,by rw[hz.out],xl⟩,?_⟩
    simp[intOf]
    omega
   ·have hz:qL (xs.take (n+1)) (k,i,o)=pl+1:=by rw[HP.out,if_pos (show QJ (qE x) (k,i,o)=true from hls)]
    replace hz:=zH hz
    go_wp2_with fail
    refine⟨⟨n+1,hlt,rfl,by rw[hz.out];rfl,xl⟩,?_⟩
    simp[intOf]
    omega
  ·obtain rfl:n=xs.length:=by omega
   rw[List.take_length]
   have hpl:=JR xs (k,i,o)
   go_wp2_with fail
   by_cases hp:qL xs (k,i,o)<xs.length
   ·have hia:=US hp
    obtain⟨b,off,rfl,hb⟩:=hA (by omega)
    obtain⟨A',c',d0,d1,d2,-,-,-⟩:=HI.out.item _ hp
    replace d0:=Ext.cell xwr d0
    replace d1:=Ext.cell xwr d1
    replace d2:=Ext.cell xwr d2
    generalize xs[qL xs (k,i,o)]=x at *
    generalize qL xs (k,i,o)=pl at *
    generalize hie:KR xs (k,i,o)=ie at *
    have gN:∀ W,ql.r wr W→∀ i,W.cell? ⟨w.heap.size,i,none⟩=#[.int .i64 lvl,.slice (some ⟨b,off,none⟩) xs.length c][i]?:=fun W h=>qa (qb (qb rn xr) h)
    have gK:∀ W,ql.r wr W→∀ j,W.cell? ⟨w.heap.size+1,j,none⟩=#[.int .u8 k,.int .u32 i,.int .u32 o][j]?:=fun W h=>qa (qb (qb rk xr) h)
    have gD:∀ W,ql.r wr W→W.cell? ⟨b,off+pl*5,none⟩=some (.int .u8 x.k)∧W.cell? ⟨b,off+pl*5+1,none⟩=some (.int .u32 x.i)∧W.cell? ⟨b,off+pl*5+2,none⟩=some (.int .u32 x.o):=fun W h=>⟨Ext.cell h d0,Ext.cell h d1,Ext.cell h d2⟩
    have gD0:=fun W h=>(gD W h).1
    have gD1:=fun W h=>(gD W h).2.1
    have gD2:=fun W h=>(gD W h).2.2
    have hd1:decide ((pl:Int)<(xs.length:Int))=true:=decide_eq_true (by omega)
    have hd2:decide (pl<xs.length)=true:=decide_eq_true hp
    replace hia:=zH hia
    clear d0 d1 d2 gD
    refine qo (by kernel_rfl) ?_
    refine qO (w:=wr) ql (qF []) [true,true,true,true,true,true,true,true,true,true,true,true,true,true,true,true,true] 1 (by kernel_rfl) (by kernel_rfl) (by kernel_rfl) (by kernel_rfl) (by kernel_rfl) (by kernel_rfl) (by kernel_rfl) ?st (Rel.drew _ _) ?walk
    case st=>exact qk (fun _ h=>by cases h)
    case walk =>
     intro K hK
     dsimp only[qp]
     repeat ((first|(refine qe ?_ (by rfl) (by rfl) (fun W hW _=>⟨W,?_,Rel.refl _ W⟩) ?_;rotate_left;(go_simp<;>with_reducible rfl))|(refine qh (by rfl) ?_));try simp only[Act.put,qj,qf,qc,qg,zA,zB,zC])
     refine qe (.bool ie) (by rfl) (by rfl) (fun W hW _=>⟨W,?_,Rel.refl _ W⟩) ?_
     ·go_simp
      rw[hia.out]
      exact key_if x k i o W
     simp only[Act.put,qj,qf,qc,qg,zA,zB,zC]
     repeat ((first|(refine qe ?_ (by rfl) (by rfl) (fun W hW _=>⟨W,?_,Rel.refl _ W⟩) ?_;rotate_left;(go_simp<;>with_reducible rfl))|(refine qh (by rfl) ?_));try simp only[Act.put,qj,qf,qc,qg,zA,zB,zC])
     refine qt (hK _ _ fun W hW hF=>?_)
     clear hF hK gN gK gD0 gD1 gD2
     have hW':Ext wr W:=hW
     dsimp only[List.drop,List.length_cons,List.length_nil]
     go_wp2
     refine Qm ?_
     go_wp2_with fail
     exact qbE rfl rfl rfl ⟨rfl,xwr.trans hW'⟩
   ·have hia:=XH hp
    have gN:∀ W,ql.r wr W→∀ i,W.cell? ⟨w.heap.size,i,none⟩=#[.int .i64 lvl,.slice A xs.length c][i]?:=fun W h=>qa (qb (qb rn xr) h)
    generalize qL xs (k,i,o)=pl at *
    generalize hie:KR xs (k,i,o)=ie at *
    have hd1:decide ((pl:Int)<(xs.length:Int))=false:=decide_eq_false (by omega)
    have hd2:decide (pl<xs.length)=false:=decide_eq_false hp
    replace hia:=zH hia
    refine qo (by kernel_rfl) ?_
    refine qO (w:=wr) ql (qF []) [true,true,true,true,true,true,true,true,true,true,true,true,true,true,true,true,true] 1 (by kernel_rfl) (by kernel_rfl) (by kernel_rfl) (by kernel_rfl) (by kernel_rfl) (by kernel_rfl) (by kernel_rfl) ?st (Rel.drew _ _) ?walk
    case st=>exact qk (fun _ h=>by cases h)
    case walk =>
     intro K hK
     dsimp only[qp]
     repeat ((first|(refine qe ?_ (by rfl) (by rfl) (fun W hW _=>⟨W,?_,Rel.refl _ W⟩) ?_;rotate_left;(go_simp<;>with_reducible rfl))|(refine qh (by rfl) ?_));try simp only[Act.put,qj,qf,qc,qg,zA,zB,zC])
     refine qt (hK _ _ fun W hW hF=>?_)
     clear hF hK gN
     have hW':Ext wr W:=hW
     dsimp only[List.drop,List.length_cons,List.length_nil]
     go_wp2
     refine Qm ?_
     go_wp2_with fail
     exact qbE rfl rfl rfl ⟨by rw[hia.out];rfl,xwr.trans hW'⟩
theorem qbD (lvl:Int) (A:Option Addr) (c:Nat) (xs:List It) (k i o:Int) (lo:Nat) (w:World) (hl:xs.length≤5) (h:Zw lo w (.slice A xs.length c) xs) :
  Calls Tryz.prog 143 #[jg lvl A xs.length c,keyV k i o] w (Ret (.tuple #[.int .i64 ((qL xs (k,i,o):Nat):Int),.bool (KR xs (k,i,o))]) w):=GS lvl A c xs k i o w hl h.its
abbrev sp7 (f l:K3) (b:Bool):Array Value:=#[.int .u8 f.1,.int .u32 f.2.1,.int .u32 f.2.2,.int .u8 l.1,.int .u32 l.2.1,.int .u32 l.2.2,.bool b]
theorem set7 {cs:Array Value} (hs:cs.size=7) (x0 x1 x2 x3 x4 x5 x6:Value) :
  ((((((cs.setIfInBounds 0 x0).setIfInBounds 1 x1).setIfInBounds 2 x2).setIfInBounds 3 x3).setIfInBounds 4 x4).setIfInBounds 5 x5).setIfInBounds 6 x6=#[x0,x1,x2,x3,x4,x5,x6]:=by
 apply Array.ext_getElem?
 intro j
 by_cases hj:j<7
 ·have:j=0∨j=1∨j=2∨j=3∨j=4∨j=5∨j=6:=by omega
  rcases this with rfl|rfl|rfl|rfl|rfl|rfl|rfl <;> simp[Array.getElem?_setIfInBounds,hs]
 ·rw[Array.getElem?_eq_none (by simp;omega),Array.getElem?_eq_none (by simp;omega)]
theorem row7 {w:World} {b:Nat} {ty:TypeId} {cs:Array Value} (h:w.heap[b]?=some (.cells cs ty (0,0))) (hs:cs.size=7) (x0 x1 x2 x3 x4 x5 x6:Value) :
  (((((((w.setCell ⟨b,0,none⟩ x0).setCell ⟨b,1,none⟩ x1).setCell ⟨b,2,none⟩ x2).setCell ⟨b,3,none⟩ x3).setCell ⟨b,4,none⟩ x4).setCell ⟨b,5,none⟩ x5).setCell ⟨b,6,none⟩ x6).heap[b]?=some (.cells #[x0,x1,x2,x3,x4,x5,x6] ty (0,0)):=by
 have:=qi (qi (qi (qi (qi (qi (qi h 0 x0) 1 x1) 2 x2) 3 x3) 4 x4) 5 x5) 6 x6
 rw[this,set7 hs]
theorem qcb {w0 w:World} {B b:Nat} (h:Below B w0 w) (hb:B≤b) (x0 x1 x2 x3 x4 x5 x6:Value) :
  Below B w0 (((((((w.setCell ⟨b,0,none⟩ x0).setCell ⟨b,1,none⟩ x1).setCell ⟨b,2,none⟩ x2).setCell ⟨b,3,none⟩ x3).setCell ⟨b,4,none⟩ x4).setCell ⟨b,5,none⟩ x5).setCell ⟨b,6,none⟩ x6):=
 Below.setCell (Below.setCell (Below.setCell (Below.setCell (Below.setCell (Below.setCell (Below.setCell h (p:=⟨b,0,none⟩) hb _) (p:=⟨b,1,none⟩) hb _) (p:=⟨b,2,none⟩) hb _) (p:=⟨b,3,none⟩) hb _) (p:=⟨b,4,none⟩) hb _) (p:=⟨b,5,none⟩) hb _) (p:=⟨b,6,none⟩) hb _
theorem qgf {S:Sto} {h:Nat} {xs:List It} (hs:(Qd S h xs).isSome=true) {k:Nat} (hk:k<xs.length) :
  ∃ l,vw S h xs[k]=some (qE xs[k],l)∧∀ f0 l0,(0<k→Qd S h (xs.take k)=some (some (f0,l0)))→(0<k→QJ l0 (qE xs[k])=true)∧Qd S h (xs.take (k+1))=some (some (if k=0 then qE xs[k] else f0,l)):=by
 have h2:=qaj hs (k+1)
 rw[Ve hk] at h2 ⊢
 unfold JW at h2 ⊢
 rcases hA:Qd S h (xs.take k) with _|a
 ·rw[hA] at h2;cases h2
 ·rcases hO:vw S h xs[k] with _|⟨f,l⟩
  ·rw[hA,hO] at h2;cases h2
  ·rw[hA,hO] at h2
   simp only at h2
   split at h2
   ·rename_i hf
    subst hf
    refine⟨l,rfl,fun f0 l0 hp=>?_⟩
    simp only[if_true]
    rcases a with _|⟨f1,l1⟩
    ·obtain rfl:k=0:=by
      rcases Nat.eq_zero_or_pos k with h0|h0
      ·exact h0
      ·exact absurd hA (Zz h0 (by omega))
     exact⟨fun h=>absurd h (Nat.lt_irrefl 0),rfl⟩
    ·have h0:0<k:=by
      rcases Nat.eq_zero_or_pos k with h0|h0
      ·subst h0;rw[List.take_zero] at hA;cases hA
      ·exact h0
     have:=hp h0
     cases this
     simp only at h2
     split at h2
     ·rename_i hl
      exact⟨fun _=>hl,by rw[if_neg (by omega)];simp[hl]⟩
     ·cases h2
   ·cases h2
theorem one_now {S:Sto}:∀ {h:Nat} {y:It},(vw S h y).isSome=true→y.r=0∨0<(S.now[y.r.toNat]?.getD 0).toNat
 |0,y,h=>by
  unfold vw at h
  split at h
  ·assumption
  ·cases h
 |h+1,y,hy=>by
  obtain⟨b,e,-,-,xs,hn,-⟩:=Jj hy
  refine .inr ?_
  rw[e,Int.toNat_natCast]
  unfold qu at hn
  split at hn
  ·cases hn
  ·omega
structure FEnv (S:Sto) (bS bB bW bb:Nat) (v1 v2 v3 v4 u1 u2 u3 u4:Value) (w:World):Prop where
 s:w.heap[bS]?=some (.cells #[v1,v2,v3,v4] 28 (0,0))
 b:w.heap[bB]?=some (.cells #[.pointer (some ⟨bb,0,none⟩)] 80 (0,0))
 f:w.heap[bW]?=some (.cells #[.func (.func 68) #[] #[.pointer (some ⟨bS,0,none⟩),.pointer (some ⟨bB,0,none⟩),.pointer (some ⟨bW,0,none⟩)]] 112 (0,0))
 n:Bys w w.heap.size v3 S.now
 on:OnB 0 bb u1 u2 u3 u4 S w
theorem OnB.ext {lo b:Nat} {v1 v2 v3 v4:Value} {S:Sto} {w W:World} (h:OnB lo b v1 v2 v3 v4 S w) (hx:Ext w W):OnB lo b v1 v2 v3 v4 S W:=⟨h.1,qb h.2.1 hx,h.2.2.ext hx⟩
theorem FEnv.ext {S:Sto} {bS bB bW bb:Nat} {v1 v2 v3 v4 u1 u2 u3 u4:Value} {w W:World} (h:FEnv S bS bB bW bb v1 v2 v3 v4 u1 u2 u3 u4 w) (hx:Ext w W):FEnv S bS bB bW bb v1 v2 v3 v4 u1 u2 u3 u4 W:=
 ⟨qb h.s hx,qb h.b hx,qb h.f hx,(h.n.below hx).more hx.size,h.on.ext hx⟩
structure WkI (S:Sto) (h:Nat) (xs:List It) (A:Option Addr) (c:Nat) (w wr:World) (k:Nat) (fk lk:K3) (b:Bool):Prop where
 rn:wr.heap[w.heap.size]?=some (.cells #[.int .i64 h,.slice A xs.length c] 49 (0,0))
 rr:wr.heap[w.heap.size+1]?=some (.cells (sp7 (0,0,0) (0,0,0) false) 114 (0,0))
 rx:wr.heap[w.heap.size+2]?=some (.cells (sp7 fk lk b) 114 (0,0))
 sp:0<k→Qd S h (xs.take k)=some (some (fk,lk))∧b=true
 xt:Ext w wr
theorem WkI.ext {S:Sto} {h:Nat} {xs:List It} {A:Option Addr} {c:Nat} {w wr W:World} {k:Nat} {fk lk:K3} {b:Bool} (H:WkI S h xs A c w wr k fk lk b) (hx:Ext wr W):WkI S h xs A c w W k fk lk b:=
 ⟨qb H.rn hx,qb H.rr hx,qb H.rx hx,H.sp,H.xt.trans hx⟩
theorem WkI.low {S:Sto} {h:Nat} {xs:List It} {A:Option Addr} {c:Nat} {w wr W:World} {k:Nat} {fk lk:K3} {b:Bool} {q:Nat} (H:WkI S h xs A c w wr k fk lk b) (hx:Below q wr W) (hq:w.heap.size+2<q):WkI S h xs A c w W k fk lk b:=
 ⟨(hx.block _ (by omega)).trans H.rn,(hx.block _ (by omega)).trans H.rr,(hx.block _ (by omega)).trans H.rx,H.sp,Below.trans H.xt (Below.mono hx (by omega))⟩
theorem WkI.set {S:Sto} {h:Nat} {xs:List It} {A:Option Addr} {c:Nat} {w wr W:World} {k:Nat} {fk lk fk' lk':K3} {b:Bool} (H:WkI S h xs A c w wr k fk lk b) (hb:∀ j,j≠w.heap.size+1+1→W.heap[j]?=wr.heap[j]?) (hB:Below w.heap.size w W)
  (hx:W.heap[w.heap.size+1+1]?=some (.cells (sp7 fk' lk' true) 114 (0,0))) (hs:Qd S h (xs.take (k+1))=some (some (fk',lk'))):WkI S h xs A c w W (k+1) fk' lk' true:=
 ⟨(hb _ (by omega)).trans H.rn,(hb _ (by omega)).trans H.rr,hx,fun _=>⟨hs,rfl⟩,hB⟩
theorem WkI.set7 {S:Sto} {h:Nat} {xs:List It} {A:Option Addr} {c:Nat} {w wr:World} {k:Nat} {fk lk fk' lk':K3} {b:Bool} (H:WkI S h xs A c w wr k fk lk b) (hs:Qd S h (xs.take (k+1))=some (some (fk',lk'))) :
  WkI S h xs A c w (((((((wr.setCell ⟨w.heap.size+1+1,0,none⟩ (.int .u8 fk'.1)).setCell ⟨w.heap.size+1+1,1,none⟩ (.int .u32 fk'.2.1)).setCell ⟨w.heap.size+1+1,2,none⟩ (.int .u32 fk'.2.2)).setCell ⟨w.heap.size+1+1,3,none⟩ (.int .u8 lk'.1)).setCell ⟨w.heap.size+1+1,4,none⟩ (.int .u32 lk'.2.1)).setCell ⟨w.heap.size+1+1,5,none⟩ (.int .u32 lk'.2.2)).setCell ⟨w.heap.size+1+1,6,none⟩ (.bool true)) (k+1) fk' lk' true:=
 H.set (fun j hj=>(zJ _ _ _ _ hj).trans ((zJ _ _ _ _ hj).trans ((zJ _ _ _ _ hj).trans ((zJ _ _ _ _ hj).trans ((zJ _ _ _ _ hj).trans ((zJ _ _ _ _ hj).trans (zJ _ _ _ _ hj)))))))
  (qcb H.xt (by omega) _ _ _ _ _ _ _) (row7 H.rx rfl _ _ _ _ _ _ _) hs
theorem WkI.set4 {S:Sto} {h:Nat} {xs:List It} {A:Option Addr} {c:Nat} {w wr:World} {k:Nat} {fk lk lk':K3} {b:Bool} (H:WkI S h xs A c w wr k fk lk b) (hs:Qd S h (xs.take (k+1))=some (some (fk,lk'))) :
  WkI S h xs A c w ((((wr.setCell ⟨w.heap.size+1+1,3,none⟩ (.int .u8 lk'.1)).setCell ⟨w.heap.size+1+1,4,none⟩ (.int .u32 lk'.2.1)).setCell ⟨w.heap.size+1+1,5,none⟩ (.int .u32 lk'.2.2)).setCell ⟨w.heap.size+1+1,6,none⟩ (.bool true)) (k+1) fk lk' true:=
 H.set (fun j hj=>(zJ _ _ _ _ hj).trans ((zJ _ _ _ _ hj).trans ((zJ _ _ _ _ hj).trans (zJ _ _ _ _ hj))))
  (Below.setCell (Below.setCell (Below.setCell (Below.setCell H.xt (p:=⟨w.heap.size+1+1,3,none⟩) (by simp;omega) _) (p:=⟨w.heap.size+1+1,4,none⟩) (by simp;omega) _) (p:=⟨w.heap.size+1+1,5,none⟩) (by simp;omega) _) (p:=⟨w.heap.size+1+1,6,none⟩) (by simp;omega) _)
  (qi (qi (qi (qi H.rx 3 _) 4 _) 5 _) 6 _) hs
theorem one_span {S:Sto} {h:Nat} {y:It} {p:K3×K3} (e:vw S (h+1) y=some p):∃ (b:Nat) (ys:List It),y.r=(b:Int)∧8≤b∧b<256∧qu S b=some ((h:Int),ys)∧Qd S h ys=some (some p):=by
 obtain⟨b,hb,h1,h2,ys,hn,-⟩:=Jj (by rw[e];rfl:(vw S (h+1) y).isSome=true)
 refine⟨b,ys,hb,h1,h2,hn,?_⟩
 rw[VY] at e
 unfold vR at e
 rw[if_pos (by omega),hb,Int.toNat_natCast,hn] at e
 simp only[if_true] at e
 rcases hs:Qd S h ys with _|_|q
 ·rw[hs] at e;cases e
 ·rw[hs] at e;cases e
 ·rw[hs] at e;cases e;rfl
def WalkC (S:Sto) (bS bB bW bb:Nat) (v1 v2 v3 v4 u1 u2 u3 u4:Value) (h:Nat):Prop:=
 ∀ (xs:List It) (A:Option Addr) (c:Nat) (f l:K3) (lo:Nat) (w:World),FEnv S bS bB bW bb v1 v2 v3 v4 u1 u2 u3 u4 w→h≤5→xs.length≤5→(∀ x∈xs,0≤x.r∧x.r<256)→Zw lo w (.slice A xs.length c) xs→Qd S h xs=some (some (f,l)) →
  Calls Tryz.prog 68 #[jg h A xs.length c,.pointer (some ⟨bS,0,none⟩),.pointer (some ⟨bB,0,none⟩),.pointer (some ⟨bW,0,none⟩)] w (Ret (.agg (sp7 f l true)) w)
end Go.Proofs.YtpbniokljofedaaGreat
