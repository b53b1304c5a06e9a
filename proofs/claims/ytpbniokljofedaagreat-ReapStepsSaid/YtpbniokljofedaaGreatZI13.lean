/- Texts Mix, VolF2, TwinW, PCheck, Has, Refs, Nodes, AskR, PoolW, Data, Copy, HeapC, joined. -/
import Derived.WalkMore
import Derived.Laws.CopyRow
import Derived.Laws.IdiomCopy
import Derived.Test.YtpbniokljofedaaGreatZI12
set_option linter.unusedSimpArgs false
set_option linter.unusedVariables false
set_option maxHeartbeats 8000000
open Go.Proofs.Tryz
namespace Go.Proofs.YtpbniokljofedaaGreat
open Go.RowKit
theorem Rd.some_ {w w':World} {B size n:Nat} {A:Option Addr} {xs:List Value} (h:Rd w B size A n xs) (hk:∀ p v,w.cell? p=some v->w'.cell? p=some v):Rd w' B size A n xs:=
 ⟨h.1,fun hn=>by obtain⟨b,off,e,hb,hc⟩:=h.2 hn;exact⟨b,off,e,hb,fun j u hu=>hk _ _ (hc j u hu)⟩⟩
theorem Bys.some_ {w w':World} {B:Nat} {v:Value} {l:List UInt8} (h:Bys w B v l) (hk:∀ p v,w.cell? p=some v->w'.cell? p=some v):Bys w' B v l:=by obtain⟨A,c,e,hc,hm,hr⟩:=h;exact⟨A,c,e,hc,hm,hr.some_ hk⟩
theorem qU.some_ {w w':World} {B:Nat} {v1 v2 v3 v4:Value} {S:Sto} (h:qU w B v1 v2 v3 v4 S) (hk:∀ p v,w.cell? p=some v->w'.cell? p=some v):qU w' B v1 v2 v3 v4 S:=by obtain⟨⟨vs,A,c,e,h1,h2,h3,h4⟩,⟨ps,e',⟨A',c',e1,e2,e3,hr⟩,hp⟩,h5,h6⟩:=h;exact⟨⟨vs,A,c,e,h1,h2,h3.some_ hk,fun i u l hu hl=>(h4 i u l hu hl).some_ hk⟩,⟨ps,e',⟨A',c',e1,e2,e3,hr.some_ hk⟩,fun p h=>⟨(hp p h).1,(hp p h).2.some_ hk⟩⟩,h5.some_ hk,h6.some_ hk⟩
def mixW (lo N:Nat) (W C:World):World:={ C with heap:=Array.ofFn (n:=max N C.heap.size) fun k=>if lo<=k.1/\k.1<N then W.heap[k.1]?.getD (.deferred none) else C.heap[k.1]?.getD (.deferred none) }
theorem qdK (lo N:Nat) (W C:World) (q:Addr):(mixW lo N W C).cell? q=if lo<=q.block/\q.block<N then W.cell? q else C.cell? q:=by
 unfold World.cell?;have e:(mixW lo N W C).heap[q.block]?=if q.block<max N C.heap.size then some (if lo<=q.block/\q.block<N then W.heap[q.block]?.getD (.deferred none) else C.heap[q.block]?.getD (.deferred none)) else none:=by simp only[mixW,Array.getElem?_ofFn];split <;> rfl
 rw[e];by_cases h:lo<=q.block/\q.block<N
 ·rw[if_pos zO,if_pos h];simp only[if_pos h];cases W.heap[q.block]? <;> rfl
 ·simp only[if_neg h];split
  ·rename_i h1;split at h1
   ·cases hq:C.heap[q.block]? with
    |none=>rw[hq] at h1;cases h1
    |some o=>rw[hq] at h1;simp only[Option.getD_some,Option.some.injEq] at h1;subst h1;rfl
   ·cases h1
  ·rename_i h1;split at h1
   ·cases hq:C.heap[q.block]? with
    |none=>rfl
    |some o =>
     cases o with
     |cells c e f=>exact absurd (by rw[hq];rfl) (h1 c e f)
     |_=>rfl
   ·rename_i h2;rw[Array.getElem?_eq_none zO]
theorem qhs {Φ:World->Prop} (hm:∀ A C:World,(∀ q v,A.cell? q=some v->C.cell? q=some v)->Φ A->Φ C) {lo N:Nat} {W:World} (h:∀ W2:World,(∀ q:Addr,lo<=q.block->q.block<N->W2.cell? q=W.cell? q)->Φ W2) : ∀ C:World,(∀ q v,lo<=q.block->q.block<N->W.cell? q=some v->C.cell? q=some v)->Φ C:=fun C h3 =>
 hm (mixW lo N W C) C (fun q v hq=>by
  rw[qdK] at hq;split at hq
  ·rename_i h1;exact h3 q v h1.1 h1.2 hq
  ·exact hq) (h _ fun q h1 h2=>by rw[qdK,if_pos ⟨h1,h2⟩])
structure Qf (W W':World):Prop where
 size:W.heap.size<=W'.heap.size
 same:∀ (k:Nat) (o:Obj),W.heap[k]?=some o->o.isCells=true->W'.heap[k]?=some o
theorem Qf.refl (W:World):Qf W W:=⟨zM _,fun _ _ h _=>h⟩
theorem Qf.row {W W':World} (h:Qf W W') {b:Nat} {cs:Array Value} {ty:TypeId} {fz:Nat×Nat} (hr:W.heap[b]?=some (.cells cs ty fz)):W'.heap[b]?=some (.cells cs ty fz):=h.same b _ hr rfl
theorem Qf.cell {W W':World} (h:Qf W W') {q:Addr} {v:Value} (hq:W.cell? q=some v):W'.cell? q=some v:=by
 unfold World.cell? at *;cases hb:W.heap[q.block]? with
 |none=>rw[hb] at hq;cases hq
 |some o =>
  cases o with
  |cells c e f =>
   rw[hb] at hq;rw[h.row hb];exact hq
  |_=>rw[hb] at hq;cases hq
theorem Qf.grown {Wb W W':World} {row:Option Nat} (h:Qf Wb W) (hg:W.grownBy W' row) (hr:∀ r,row=some r->∃ o:Obj,W.heap[r]?=some o/\o.isCells=false):Qf Wb W':=⟨Nat.le_trans h.size hg.size,fun k o hk ho=>by have h1:=h.same k o hk ho;refine(hg.block k (zG.1 h1).1 fun e=>?_).trans h1;obtain⟨o',h2,h3⟩:=hr k e.symm;rw[h1] at h2;cases h2;rw[ho] at h3;cases h3⟩
def PosZ (lo:Nat) (W W':World):Prop:=∀ (q:Addr) (v:Value),lo<=q.block->q.block<W.heap.size->(thaw W).cell? q=some v->W'.cell? q=some v
theorem Ext.thaw {w w':World} (h:Ext w w'):Ext (thaw w) (Go.Proofs.YtpbniokljofedaaGreat.thaw w'):=⟨h.os,h.tape,h.output,by rw[kj,kj];exact h.size,fun k hk=>by rw[kj] at hk;rw[vE,vE,h.block k hk]⟩
theorem Bys.of_ownT {w:World} {base n:Nat} {e:TypeId} {v:Value} {l:List UInt8} (h:w.ownsRow base e 1 v n (l.map bv)):Bys (thaw w) w.heap.size v l:=(NewB.of_own h).thaw
def NewSto (lo:Nat) (S:Sto) (u:Value) (W:World):Prop:=∃ A1 c1 A2 c2 A3 c3 A4 c4,u=Qd A1 S.bs.length c1 A2 S.ws.length c2 A3 S.now.length c3 A4 S.last.length c4 /\
 ∀ C:World,PosZ lo W C->qU C W.heap.size (.slice A1 S.bs.length c1) (.slice A2 S.ws.length c2) (.slice A3 S.now.length c3) (.slice A4 S.last.length c4) S
theorem KW {lo:Nat} {W W':World} (h:∀ k,lo<=k->k<W.heap.size->W'.heap[k]?=W.heap[k]?):PosZ lo W W':=fun q v h1 h2 h3=>(World.cell?_of_block (h q.block h1 h2)).trans (Yw h3).1
theorem ZY {w0 w:World} {B b:Nat} (h:Below B w0 w) (hb:B<=b) (x0 x1 x2 x3:Value):Below B w0 ((((w.setCell ⟨b,0,none⟩ x0).setCell ⟨b,1,none⟩ x1).setCell ⟨b,2,none⟩ x2).setCell ⟨b,3,none⟩ x3):=
 Below.setCell (Below.setCell (Below.setCell (Below.setCell h (p:=⟨b,0,none⟩) hb _) (p:=⟨b,1,none⟩) hb _) (p:=⟨b,2,none⟩) hb _) (p:=⟨b,3,none⟩) hb _
theorem Xn {w:World} {b:Nat} {ty:TypeId} {y0 y1 y2 y3:Value} (h:w.heap[b]?=some (.cells #[y0,y1,y2,y3] ty (0,0))) (x0 x1 x2 x3:Value) : ((((w.setCell ⟨b,0,none⟩ x0).setCell ⟨b,1,none⟩ x1).setCell ⟨b,2,none⟩ x2).setCell ⟨b,3,none⟩ x3).heap[b]?=some (.cells #[x0,x1,x2,x3] ty (0,0)):=qi (qi (qi (qi h 0 x0) 1 x1) 2 x2) 3 x3
theorem Kf {w:World} {b:Nat} {ty:TypeId} {y0 y1 y2 y3 y4 y5 y6 y7:Value} (h:w.heap[b]?=some (.cells #[y0,y1,y2,y3,y4,y5,y6,y7] ty (0,0))) (x0 x1 x2 x3 x4 x5 x6 x7:Value) : ((((((((w.setCell ⟨b,0,none⟩ x0).setCell ⟨b,1,none⟩ x1).setCell ⟨b,2,none⟩ x2).setCell ⟨b,3,none⟩ x3).setCell ⟨b,4,none⟩ x4).setCell ⟨b,5,none⟩ x5).setCell ⟨b,6,none⟩ x6).setCell ⟨b,7,none⟩ x7).heap[b]?=some (.cells #[x0,x1,x2,x3,x4,x5,x6,x7] ty (0,0)):=by
 have h1:=qi (qi (qi (qi h 0 x0) 1 x1) 2 x2) 3 x3;exact qi (qi (qi (qi (cs:=#[x0,x1,x2,x3,y4,y5,y6,y7]) h1 4 x4) 5 x5) 6 x6) 7 x7
theorem jz {w0 w:World} {B b:Nat} (h:Below B w0 w) (hb:B<=b) (x0 x1 x2 x3 x4 x5 x6 x7:Value):Below B w0 ((((((((w.setCell ⟨b,0,none⟩ x0).setCell ⟨b,1,none⟩ x1).setCell ⟨b,2,none⟩ x2).setCell ⟨b,3,none⟩ x3).setCell ⟨b,4,none⟩ x4).setCell ⟨b,5,none⟩ x5).setCell ⟨b,6,none⟩ x6).setCell ⟨b,7,none⟩ x7):=
 Below.setCell (Below.setCell (Below.setCell (Below.setCell (ZY h hb x0 x1 x2 x3) (p:=⟨b,4,none⟩) hb _) (p:=⟨b,5,none⟩) hb _) (p:=⟨b,6,none⟩) hb _) (p:=⟨b,7,none⟩) hb _
theorem jM {w:World} {b k:Nat} (hk:k≠b) (x0 x1 x2 x3 x4 x5 x6 x7:Value):((((((((w.setCell ⟨b,0,none⟩ x0).setCell ⟨b,1,none⟩ x1).setCell ⟨b,2,none⟩ x2).setCell ⟨b,3,none⟩ x3).setCell ⟨b,4,none⟩ x4).setCell ⟨b,5,none⟩ x5).setCell ⟨b,6,none⟩ x6).setCell ⟨b,7,none⟩ x7).heap[k]?=w.heap[k]?:=by have hs:=fun (A:World) (j:Nat) (v:Value)=>zJ A ⟨b,j,none⟩ v k hk;rw[hs,hs,hs,hs,hs,hs,hs,hs]
def qaS (S:Sto) (root next:Int) (dead:List Int) (id:Int) (w:World) (e:Ending) (w':World):Prop:=Below w.heap.size w w' /\
 ((e=.returned (.tuple #[VC vol0,.int .i64 8])/\∀ vs,zY S root next dead vs->∃ refs nodes,Qr S (zF root dead vs) refs nodes/\¬Zu S refs) \/
  ∃ vs refs nodes,zY S root next dead vs/\Qr S (zF root dead vs) refs nodes/\Zu S refs/\e=.returned (volQ (JY vs id)))
theorem Gi {R:Ending->World->Prop} {a:Act} {W:World} {b:Nat} {u:Vol} {v:Value} (h4:a.tmps[4]?.getD undef=.pointer (some ⟨b,0,none⟩)) (h5:a.tmps[5]?.getD undef=v) (hd:a.defers=[]) (aC:W.heap[b]?=some (.cells #[.int .u32 u.id,.int .i64 u.root,.bool u.fz,.int .u32 u.frm] 40 (0,0))) (hR:R (.returned (.tuple #[VC u,v])) W):bodyPost prog Tryz.f18 R .ret a W:=by
 refine bodyPost_ret (v:=.tuple #[VC u,v]) ?_ hd hR;have k:=qa aC;simp[results,results18,go_sem,h4,h5,k]
set_option maxRecDepth 100000 in
theorem qdv (A1:Option Addr) (n1 c1:Nat) (A2:Option Addr) (n2 c2:Nat) (A3:Option Addr) (n3 c3:Nat) (A4:Option Addr) (n4 c4:Nat) (gen root next:Int) (A5:Option Addr) (c5:Nat) (S:Sto) (dead:List Int) (id:Int) (w:World) (h:qU w w.heap.size (.slice A1 n1 c1) (.slice A2 n2 c2) (.slice A3 n3 c3) (.slice A4 n4 c4) S) (hd:Zk w w.heap.size (.slice A5 dead.length c5) dead):Calls prog 18 #[.agg (qB (.slice A1 n1 c1) (.slice A2 n2 c2) (.slice A3 n3 c3) (.slice A4 n4 c4) gen root next (.slice A5 dead.length c5)),.int .u32 id] w (qaS S root next dead id w):=by
 have HT:=zH (fun W (hx:Ext w W)=>Tg A1 n1 c1 A2 n2 c2 A3 n3 c3 A4 n4 c4 gen root next A5 c5 S dead W (h.ext hx) (by obtain⟨A,c,e,q1,q2,q3⟩:=hd;exact⟨A,c,e,q1,q2,(q3.below hx).more hx.size⟩));clear h hd;go_enter func18,ntmps18;go_wp2_with fail;generalize aA:(World.alloc (World.alloc (World.alloc w _) _) _)=w1;have x1:Ext w w1:=by rw[<-aA];exact((zN _ _).trans (zN _ _)).trans (zN _ _)
 have ri1:w1.heap[w.heap.size+1]?=some (.cells #[.int .u32 id] 29 (0,0)):=by rw[<-aA];exact(zK _ _ _ zA3).trans (zI _ _ _ zA3)
 have rv1:w1.heap[w.heap.size+2]?=some (.cells #[.int .u32 0,.int .i64 0,.bool false,.int .u32 0] 40 (0,0)):=by rw[<-aA];exact zI _ _ _ zA3
 clear aA;refine(HT.out w1 x1).mono ?_;clear HT;rintro e w2 ⟨hB,hQ⟩;have x2:Ext w w2:=Ext.trans x1 hB;have ri2:=qb ri1 hB;have uY:=qb rv1 hB;have z2:w.heap.size+2<w2.heap.size:=(zG.1 uY).1;have kv2:=qa uY;have fv2:=qe uY;rcases hQ with ⟨rfl,bT⟩|⟨vs,refs,nodes,cb,ca,vv,rfl,hT⟩
 ·replace bT:=zH bT;clear hB x1 ri1 rv1;go_wp2_with fail;exact Gi (b:=w.heap.size+2) (u:=vol0) rfl rfl rfl (Xn uY _ _ _ _) ⟨ZY x2 zO _ _ _ _,.inl ⟨rfl,bT.out⟩⟩
 ·have hvs:vs.length<=16:=by
   have hv:=hT.pool.vols;unfold TK at hv;split at hv
   ·cases hv
   ·exact vV _ _ _ _ zA3 hv
  obtain⟨AV,cV,rfl,hJK,hJL⟩:=qy hT.own;have oV:=Rd.of_own hT.own;have kc:w2.cell? ⟨cb,518,none⟩=some (.slice AV vs.length cV):=by rw[qa hT.row];exact hT.ar.vol
  have HIX:=zH (vidx_any AV cV vs hvs (w.heap.size+1) id w2 ri2 oV);have HR:=zH oV;replace hT:=zH hT;clear hB x1 ri1 rv1 oV;go_wp2_with fail;refine HIX.out.mono ?_;clear HIX;rintro e w3 ⟨u,rfl,hu,hB⟩;have x3:Ext w w3:=Ext.trans x2 hB;have rv3:=qb uY hB;have kv3:=qa rv3;have fv3:=qe rv3;have kc3:=Ext.cell hB kc;rcases hu with ⟨j,hj,rfl,hv⟩|⟨rfl,hv⟩
  ·obtain⟨bv,uD,rfl,hbv,aS⟩:=HR.out.2 zO;obtain⟨d0,d1,d2,d3⟩:=Yi vs j hj;replace d0:=Ext.cell hB (aS _ _ d0);replace d1:=Ext.cell hB (aS _ _ d1);replace d2:=Ext.cell hB (aS _ _ d2);replace d3:=Ext.cell hB (aS _ _ d3);generalize vs[j]=u at *;rw[<-Nat.add_assoc] at d1 d2 d3;have hj1:decide ((j:Int)<0)=false:=decide_eq_false zO;replace hv:=zH hv;replace x3:=zH x3;clear aS kv2 fv2 uY ri2 kc x2 hB z2;go_wp2_with fail;exact Gi (b:=w.heap.size+2) (u:=u) rfl rfl rfl (Xn rv3 _ _ _ _) ⟨ZY x3.out zO _ _ _ _,.inr ⟨vs,refs,nodes,hT.out.pool,hT.out.cnt,hT.out.enough,by rw[hv.out];rfl⟩⟩
  ·replace hv:=zH hv;replace x3:=zH x3;clear kv2 fv2 uY ri2 kc x2 hB z2;go_wp2_with fail;exact Gi (b:=w.heap.size+2) (u:=vol0) rfl rfl rfl (Xn rv3 _ _ _ _) ⟨ZY x3.out zO _ _ _ _,.inr ⟨vs,refs,nodes,hT.out.pool,hT.out.cnt,hT.out.enough,by rw[hv.out];rfl⟩⟩
theorem Tryz.info_bytes:(Tryz.prog.info? 26).map (fun i=>(i.zero,i.size,i.bytes))=some (some (.slice none 0 0),1,24):=zQ
theorem Tryz.info_write:(Tryz.prog.info? 130).map (fun i=>(i.zero,i.size,i.bytes))=some (some (.agg #[.int .i64 0,.slice none 0 0]),2,32):=zQ
abbrev gB (_:List UInt8) (u:Value):List Value:=[u]
theorem Rd.keepN {w W:World} {B size lo n c:Nat} {A:Option Addr} {xs:List Value} (h:Rd w B size A n xs) (hf:Ze lo (.slice A n c)) (hk:∀ q:Addr,lo<=q.block->q.block<B->W.cell? q=w.cell? q):Rd W B size A n xs:=
 ⟨h.1,fun hn=>by obtain⟨b,off,e,hb,hc⟩:=h.2 hn;subst e;exact⟨b,off,rfl,hb,fun j u hu=>(hk ⟨b,off+j,none⟩ (hf ⟨b,off,none⟩ n c rfl) hb).trans (hc j u hu)⟩⟩
theorem Bys.keepN {w W:World} {B lo:Nat} {v:Value} {l:List UInt8} (h:Bys w B v l) (hf:Ze lo v) (hk:∀ q:Addr,lo<=q.block->q.block<B->W.cell? q=w.cell? q):Bys W B v l:=by obtain⟨A,c,e,hc,hm,hr⟩:=h;subst e;exact⟨A,c,rfl,hc,hm,hr.keepN hf hk⟩
def kA (S:Sto) (root next:Int) (dead:List Int) (w:World) (e:Ending) (w':World):Prop:=Below w.heap.size w w' /\
 ((e=.returned (.int .i64 8)/\∀ vs,zY S root next dead vs->∃ refs nodes,Qr S (zF root dead vs) refs nodes/\¬Zu S refs) \/
  (e=.returned (.int .i64 0)/\∃ vs refs nodes,zY S root next dead vs/\Qr S (zF root dead vs) refs nodes/\Zu S refs))
theorem GJ {R:Ending->World->Prop} {a:Act} {W:World} {u:Value} (h2:a.tmps[2]?.getD undef=u) (hd:a.defers=[]) (hR:R (.returned u) W):bodyPost prog Tryz.f20 R .ret a W:=by refine bodyPost_ret (v:=u) ?_ hd hR;simp[results,results20,go_sem,h2]
set_option maxRecDepth 100000 in
theorem Kc (A1:Option Addr) (n1 c1:Nat) (A2:Option Addr) (n2 c2:Nat) (A3:Option Addr) (n3 c3:Nat) (A4:Option Addr) (n4 c4:Nat) (gen root next:Int) (A5:Option Addr) (c5:Nat) (S:Sto) (dead:List Int) (w:World) (h:qU w w.heap.size (.slice A1 n1 c1) (.slice A2 n2 c2) (.slice A3 n3 c3) (.slice A4 n4 c4) S) (hd:Zk w w.heap.size (.slice A5 dead.length c5) dead):Calls prog 20 #[.agg (qB (.slice A1 n1 c1) (.slice A2 n2 c2) (.slice A3 n3 c3) (.slice A4 n4 c4) gen root next (.slice A5 dead.length c5))] w (kA S root next dead w):=by
 have HT:=zH (fun W (hx:Ext w W)=>Tg A1 n1 c1 A2 n2 c2 A3 n3 c3 A4 n4 c4 gen root next A5 c5 S dead W (h.ext hx) (by obtain⟨A,c,e,q1,q2,q3⟩:=hd;exact⟨A,c,e,q1,q2,(q3.below hx).more hx.size⟩));clear h hd;go_enter func20,ntmps20;go_wp2_with fail;generalize aA:World.alloc w _=w1;have x1:Ext w w1:=by rw[<-aA];exact zN _ _
 clear aA;refine(HT.out w1 x1).mono ?_;rintro e w2 ⟨hB,hQ⟩;have x2:Below w.heap.size w w2:=Ext.trans x1 hB;rcases hQ with ⟨rfl,bT⟩|⟨vs,refs,nodes,cb,ca,vv,rfl,hT⟩
 ·have HB:kA S root next dead w (.returned (.int .i64 8)) w2:=⟨x2,.inl ⟨rfl,bT⟩⟩
  replace HB:=zH HB;clear bT hB;go_wp2_with fail;exact GJ rfl rfl HB.out
 ·have HB:kA S root next dead w (.returned (.int .i64 0)) w2:=⟨x2,.inr ⟨rfl,vs,refs,nodes,hT.pool,hT.cnt,hT.enough⟩⟩
  replace HB:=zH HB;clear hT hB;go_wp2_with fail;exact GJ rfl rfl HB.out
theorem rowI_one (l:List Int):∀ u∈vQ l,u.oneCell'=true:=by intro u hu;obtain⟨a,_,rfl⟩:=List.mem_map.1 hu;rfl
theorem Zk.of_own {w:World} {base:Nat} {v:Value} {l:List Int} (h:w.ownsRow base 3 1 v l.length (vQ l)):Zk w w.heap.size v l:=by
 obtain⟨A,c,rfl,hc,hm⟩:=qy h;refine⟨A,c,rfl,hc,hm,zA3,fun hn=>?_⟩;rcases h.2 with ⟨_,h0⟩|⟨g,cap,cur,e,_,hr,_⟩
 ·omega
 ·simp only[Value.slice.injEq] at e;obtain⟨rfl,-,rfl⟩:=e;exact⟨g,0,rfl,(zG.1 hr).1,fun j u hu=>by have h5:=h.cells (g:=g) rfl j u hu;rw[Nat.zero_add];unfold Addr.add at h5;split at h5 <;> simp_all⟩
theorem Zk.more {w:World} {B B':Nat} {v:Value} {l:List Int} (h:Zk w B v l) (hb:B<=B'):Zk w B' v l:=by obtain⟨A,c,e,hc,hm,hr⟩:=h;exact⟨A,c,e,hc,hm,hr.more hb⟩
theorem Zk.ext_ {w W:World} {v:Value} {l:List Int} (h:Zk w w.heap.size v l) (hx:Ext w W):Zk W W.heap.size v l:=by obtain⟨A,c,e,hc,hm,hr⟩:=h;exact⟨A,c,e,hc,hm,(hr.below hx).more hx.size⟩
set_option maxRecDepth 100000 in
theorem Gl (v:Value) (l:List Int) (hl:l.length<1073741824) (w:World) (h:Zk w w.heap.size v l):Calls prog 56 #[v] w (QV (fun u w'=>w'.ownsRow w.heap.size 3 1 u l.length (vQ l)) w):=by
 obtain⟨i0,hi,aY,aV,aX⟩:=info_parts Tryz.info_int;obtain⟨A,c,rfl,hc,hm,hr⟩:=h;have qn:∀ (w:World) (a:Option Addr) (n c n' c':Nat),(binOp .eql 30 (.slice a n c) (.slice none n' c')).run prog w=.ok (.bool a.isNone) w:=fun w a n c n' c'=>Lib.run_eql_slice_nil w _ _ a n c n' c' underlying30;rcases A with _|⟨b,off,p⟩
 ·have h0:l=[]:=by
   rcases l with _|⟨x,r⟩
   ·rfl
   ·obtain⟨b,off,h,_⟩:=hr.2 zA3;cases h
  subst h0;go_enter func56,ntmps56;go_wp2;go_ret;exact⟨_,rfl,World.ownsRow_nil _ _ _ _,Below.refl _ _⟩
 ·go_enter func56,ntmps56;go_wp2_with (at_builtin;refine qI ?_);refine Qh.go (Qq _ rfl (.tmp 5) (.tmp 6) 30 rfl w.heap.size 3 i0 (.int .i64 0) 1 8 underlying30 hi aY aV aX rfl zA1 _ 0 [] rfl ?_ w.heap.size _ l.length c (vQ l) zE ?_ (rowI_one l) zO zA1 zA3 ?_)
  ·exact World.ownsRow_lit w #[] 0 (zM _) (by simp[maxLen]) rfl
  ·exact hr.keep fun p hp=>World.cell?_alloc_lt w _ p hp
  ·intro v' w' aB _ hb _;simp only[Nat.zero_add,List.nil_append] at aB;go_wp2;go_ret;exact⟨_,rfl,aB,Below.trans ((Below.refl _ _).alloc (zM _) _) hb⟩



def ZE (S:Sto) (a:Nat):Nat:=(S.now[a]?.getD 0).toNat
def ZQ (S:Sto) (a:Int):Int:=if qo S=true then (if 8<=a/\a<256 then (if ZE S a.toNat=0 then 6 else 0) else 2) else 8
theorem qcO {S:Sto} (h:qo S=false) (a:Int):ZQ S a=8:=by unfold ZQ;rw[h];simp
theorem qcP {S:Sto} (h:qo S=true) {a:Int} (ha:¬(8<=a/\a<256)):ZQ S a=2:=by unfold ZQ;rw[if_pos h,if_neg ha]
theorem Xu {S:Sto} (h:qo S=true) {a:Nat} (ha:8<=a) (bK:a<256):ZQ S (a:Int)=if ZE S a=0 then 6 else 0:=by unfold ZQ;rw[if_pos h,if_pos zO,Int.toNat_natCast]
theorem qbC {S:Sto} {a:Int} (h:ZQ S a=0):qo S=true/\∃ n:Nat,a=(n:Int)/\8<=n/\n<256/\ZE S n≠0:=by
 unfold ZQ at h;split at h
 ·rename_i hm;split at h
  ·rename_i hr;split at h
   ·cases h
   ·rename_i hn;obtain⟨n,hna⟩:=Int.eq_ofNat_of_zero_le (show 0<=a by omega);subst hna;exact⟨hm,n,rfl,zO,zO,by simpa using hn⟩
  ·cases h
 ·cases h
theorem Gz {S:Sto} (hS:qo S=true) {w:World} {B:Nat} {v:Value} (h:Bys w B v S.now):∃ b o c,v=.slice (some ⟨b,o,none⟩) 256 c/\b<B/\∀ a,a<256->w.cell? ⟨b,o+a,none⟩=some (.int .u8 (ZE S a:Int)):=by obtain⟨-,-,hl,-⟩:=qQ hS;obtain⟨A,c,e,hc,hm,hr⟩:=h;obtain⟨b,o,rfl,hb,aF⟩:=hr.2 zO;rw[hl] at e;exact⟨b,o,c,e,hb,fun a ha=>aF a _ (by rw[List.getElem?_map,zL zO];unfold ZE;rw[zL zO];rfl)⟩
set_option maxRecDepth 100000 in
theorem qfE (A1:Option Addr) (n1 c1:Nat) (A2:Option Addr) (n2 c2:Nat) (A3:Option Addr) (n3 c3:Nat) (A4:Option Addr) (n4 c4:Nat) (S:Sto) (a:Int) (w:World) (h:qU w w.heap.size (.slice A1 n1 c1) (.slice A2 n2 c2) (.slice A3 n3 c3) (.slice A4 n4 c4) S):Calls prog 48 #[Qd A1 n1 c1 A2 n2 c2 A3 n3 c3 A4 n4 c4,.int .i64 a] w (Ret (.int .i64 (ZQ S a)) w):=by
 have HC:=zH (fun W (hx:Ext w W)=>jP A1 n1 c1 A2 n2 c2 A3 n3 c3 A4 n4 c4 S W (h.ext hx));replace h:=zH h;go_enter func48,ntmps48;go_wp2_with fail;generalize aA:(World.alloc w _)=w1;have x1:Ext w w1:=by rw[<-aA];exact zN _ _
 have r1:w1.heap[w.heap.size]?=some (.cells #[.slice A1 n1 c1,.slice A2 n2 c2,.slice A3 n3 c3,.slice A4 n4 c4] 28 (0,0)):=by rw[<-aA];exact zI _ _ _ rfl
 clear aA;refine(HC.out w1 x1).mono ?_;clear HC;rintro e w2 ⟨rfl,hB⟩;have x2:Ext w w2:=x1.trans hB;have r2:=qb r1 hB;clear hB r1 x1;rcases hS:qo S with _|_
 ·have hq:=zH (qcO hS a);replace hS:=zH hS;rw[jX rfl];go_wp2_with fail;go_ret;exact⟨by rw[hq.out];rfl,x2⟩
 ·rw[Jw rfl];by_cases hr:8<=a/\a<256
  ·obtain⟨n,hna⟩:=Int.eq_ofNat_of_zero_le (show 0<=a by omega);subst hna;have hn8:8<=n:=zO;have tJ:n<256:=zO;have hq:=Xu hS hn8 tJ;obtain⟨b,o,c,e3,hb,aF⟩:=Gz hS h.out.now;have lW:=Ext.cell x2 (aF n tJ);generalize ZE S n=nw at *;cases e3;have k2:=qa r2;have d1:decide ((n:Int)<8)=false:=decide_eq_false zO;have d2:decide ((n:Int)≥256)=false:=decide_eq_false zO;clear hr aF;replace hS:=zH hS;rcases Nat.eq_zero_or_pos nw with h0|h0
   ·have aV:((nw:Int) == 0)=true:=by rw[beq_iff_eq];omega
    have aX:decide (nw=0)=true:=decide_eq_true h0;rw[if_pos h0] at hq;replace hq:=zH hq;replace h0:=zH h0;go_wp2_with fail;go_ret;exact⟨by rw[hq.out];rfl,x2⟩
   ·have aV:((nw:Int) == 0)=false:=by rw[beq_eq_false_iff_ne];omega
    have aX:decide (nw=0)=false:=decide_eq_false zO;rw[if_neg zO] at hq;replace hq:=zH hq;replace h0:=zH h0;go_wp2_with fail;go_ret;exact⟨by rw[hq.out];rfl,x2⟩
  ·have hq:=zH (qcP hS hr);replace hS:=zH hS;by_cases h8:a<8
   ·have d1:decide (a<8)=true:=decide_eq_true h8;replace hr:=zH hr;go_wp2_with fail;go_ret;exact⟨by rw[hq.out];rfl,x2⟩
   ·have d1:decide (a<8)=false:=decide_eq_false h8;have d2:decide (a≥256)=true:=decide_eq_true zO;replace hr:=zH hr;go_wp2_with fail;go_ret;exact⟨by rw[hq.out];rfl,x2⟩
set_option maxRecDepth 100000 in
theorem qdp (A1:Option Addr) (n1 c1:Nat) (A2:Option Addr) (n2 c2:Nat) (A3:Option Addr) (n3 c3:Nat) (A4:Option Addr) (n4 c4:Nat) (S:Sto) (a:Int) (w:World) (h:qU w w.heap.size (.slice A1 n1 c1) (.slice A2 n2 c2) (.slice A3 n3 c3) (.slice A4 n4 c4) S):Calls prog 129 #[Qd A1 n1 c1 A2 n2 c2 A3 n3 c3 A4 n4 c4,.int .i64 a] w (Ret (.int .i64 (ZQ S a)) w):=by
 have HC:=zH (fun W (hx:Ext w W)=>jP A1 n1 c1 A2 n2 c2 A3 n3 c3 A4 n4 c4 S W (h.ext hx));replace h:=zH h;go_enter func129,ntmps129;go_wp2_with fail;generalize aA:(World.alloc w _)=w1;have x1:Ext w w1:=by rw[<-aA];exact zN _ _
 have r1:w1.heap[w.heap.size]?=some (.cells #[.slice A1 n1 c1,.slice A2 n2 c2,.slice A3 n3 c3,.slice A4 n4 c4] 28 (0,0)):=by rw[<-aA];exact zI _ _ _ rfl
 clear aA;refine(HC.out w1 x1).mono ?_;clear HC;rintro e w2 ⟨rfl,hB⟩;have x2:Ext w w2:=x1.trans hB;have r2:=qb r1 hB;clear hB r1 x1;rcases hS:qo S with _|_
 ·have hq:=zH (qcO hS a);replace hS:=zH hS;rw[jX rfl];go_wp2_with fail;go_ret;exact⟨by rw[hq.out];rfl,x2⟩
 ·rw[Jw rfl];by_cases hr:8<=a/\a<256
  ·obtain⟨n,hna⟩:=Int.eq_ofNat_of_zero_le (show 0<=a by omega);subst hna;have hn8:8<=n:=zO;have tJ:n<256:=zO;have hq:=Xu hS hn8 tJ;obtain⟨b,o,c,e3,hb,aF⟩:=Gz hS h.out.now;have lW:=Ext.cell x2 (aF n tJ);generalize ZE S n=nw at *;cases e3;have k2:=qa r2;have d1:decide ((n:Int)<8)=false:=decide_eq_false zO;have d2:decide ((n:Int)≥256)=false:=decide_eq_false zO;clear hr aF;replace hS:=zH hS;rcases Nat.eq_zero_or_pos nw with h0|h0
   ·have aV:((nw:Int) == 0)=true:=by rw[beq_iff_eq];omega
    have aX:decide (nw=0)=true:=decide_eq_true h0;rw[if_pos h0] at hq;replace hq:=zH hq;replace h0:=zH h0;go_wp2_with fail;go_ret;exact⟨by rw[hq.out];rfl,x2⟩
   ·have aV:((nw:Int) == 0)=false:=by rw[beq_eq_false_iff_ne];omega
    have aX:decide (nw=0)=false:=decide_eq_false zO;rw[if_neg zO] at hq;replace hq:=zH hq;replace h0:=zH h0;go_wp2_with fail;go_ret;exact⟨by rw[hq.out];rfl,x2⟩
  ·have hq:=zH (qcP hS hr);replace hS:=zH hS;by_cases h8:a<8
   ·have d1:decide (a<8)=true:=decide_eq_true h8;replace hr:=zH hr;go_wp2_with fail;go_ret;exact⟨by rw[hq.out];rfl,x2⟩
   ·have d1:decide (a<8)=false:=decide_eq_false h8;have d2:decide (a≥256)=true:=decide_eq_true zO;replace hr:=zH hr;go_wp2_with fail;go_ret;exact⟨by rw[hq.out];rfl,x2⟩
def qbP (S:Sto) (refs:Nat->Nat):Bool:=(List.range 256).all fun a=>decide (refs a<=(S.now[a]?.getD 0).toNat)
theorem qdr (S:Sto) (refs:Nat->Nat):qbP S refs=true↔Zu S refs:=by unfold qbP Zu;rw[List.all_eq_true];exact⟨fun h a ha=>of_decide_eq_true (h a (List.mem_range.2 ha)),fun h a ha=>decide_eq_true (h a (List.mem_range.1 ha))⟩
theorem zY.same {S:Sto} {root next:Int} {dead:List Int} {vs vs':List Vol} (h:zY S root next dead vs) (h':zY S root next dead vs'):vs=vs':=by have:=h.vols;rw[h'.vols] at this;cases this;rfl

theorem Tf (w:World) (g:Nat) (cs:Array Value):w.grownBy (w.setRow g cs) (some g):=
 ⟨rfl,rfl,rfl,zA3,fun k _ hk=>setRow_other w g k _ (fun e=>hk (by simp[e]))⟩
theorem Td {P:Program} (W:World) {B:Nat} (dT sT ty elem:TypeId) (g o dLen dCap:Nat) (A:Option Addr) (c:Nat) (l:List UInt8) (cur:Array Value) (t:TypeId) (hu:P.underlying dT=some (.slice elem)) (hs:(P.info? elem).map (·.size)=some 1) (hg:W.heap[g]?=some (.cells cur t (0,0))) (h:Bys W B (.slice A l.length c) l) (hd:l.length<=dLen) (gG:o+l.length<=cur.size) : (Builtin.copy_ #[dT,sT] ty #[.slice (some ⟨g,o,none⟩) dLen dCap,.slice A l.length c]).run P W=.ok (.int .i64 (l.length:Int)) (W.setRow g (cur.toList.take o++l.map bv++cur.toList.drop (o+l.length)).toArray):=by
 obtain⟨A',c',e,hc,hm,hr⟩:=h;simp only[Value.slice.injEq,true_and] at e;obtain⟨rfl,rfl⟩:=e;rcases A with _|ad
 ·have h0:l.length=0:=by
   rcases Nat.eq_zero_or_pos l.length with h0|h0
   ·exact h0
   ·obtain⟨b,off,h,_⟩:=hr.2 h0;cases h
  obtain rfl:l=[]:=List.eq_nil_of_length_eq_zero h0;cases hq:P.info? elem with
  |none=>simp[hq] at hs
  |some i =>
   simp[Builtin.copy_,run_underlying hu,Builtin.lenOf,Builtin.firstCells,sizeOf,typeInfo,hq,storeCells];rw[setRow_self W g cur t (0,0) hg];exact⟨rfl,rfl⟩
 ·have iP:∀ j v,(l.map bv)[j]?=some v->W.cell? (ad.add j)=some v:=by
   intro j v hv;rcases Nat.eq_zero_or_pos l.length with h0|h0
   ·obtain rfl:l=[]:=List.eq_nil_of_length_eq_zero h0;simp at hv
   ·obtain⟨b,off,h,_⟩:=hr.2 h0;cases h;exact hr.adds h0 j v hv
  have:=run_copy_row P W dT sT ty elem g o dLen dCap ad l.length c cur t (l.map bv) hu hs hg (by simp[Nat.min_eq_left hd]) iP (by simpa using gG) (Xv l);rw[List.length_map] at this;exact this
def ZD (cur:Array Value) (o:Nat) (l:List UInt8):Array Value:=(cur.toList.take o++l.map bv++cur.toList.drop (o+l.length)).toArray
theorem Uf {cur:Array Value} {o:Nat} {l:List UInt8} (h:o+l.length<=cur.size):(ZD cur o l).size=cur.size:=by simp[ZD];omega
theorem qfo {cur:Array Value} {o:Nat} {l:List UInt8} {j:Nat} (h:o+l.length<=cur.size) (hj:j<o\/o+l.length<=j):(ZD cur o l)[j]?=cur[j]?:=by
 unfold ZD;rw[List.getElem?_toArray];have bJ:cur.toList.length=cur.size:=zA3;rcases hj with hj|hj
 ·rw[List.append_assoc,List.getElem?_append_left (by rw[List.length_take];omega),List.getElem?_take,if_pos hj];simp
 ·rw[List.getElem?_append_right (by rw[List.length_append,List.length_take,List.length_map];omega),List.getElem?_drop,List.length_append,List.length_take,List.length_map,bJ];rw[show o+l.length+(j-(min o cur.size+l.length))=j by omega];simp
theorem qfn {cur:Array Value} {o:Nat} {l:List UInt8} {j:Nat} {u:Value} (h:o+l.length<=cur.size) (hu:(l.map bv)[j]?=some u):(ZD cur o l)[o+j]?=some u:=by
 have hj:j<l.length:=by have:=(List.getElem?_eq_some_iff.1 hu).1;simpa using this
 have bJ:cur.toList.length=cur.size:=zA3;unfold ZD;rw[List.getElem?_toArray,List.append_assoc,List.getElem?_append_right (by rw[List.length_take];omega),List.length_take,bJ,show o+j-min o cur.size=j by omega,List.getElem?_append_left (by rw[List.length_map];exact hj)];exact hu
structure qaQ (hb g o n:Nat) (cur:Array Value) (w:World):Prop where
 box:w.heap[hb]?=some (.cells #[.slice (some ⟨g,o,none⟩) n n] 257 (0,0))
 row:w.heap[g]?=some (.cells cur 5 (0,0))
 ne:hb≠g
 fit:o+n<=cur.size
 few:n<1000000000000000
def CloneQ (hb g o n:Nat) (cur:Array Value) (l:List UInt8) (w:World) (e:Ending) (w':World):Prop:=∃ o',e=.returned (.slice (some ⟨g,o,none⟩) l.length l.length)/\(0<n-l.length->o'=o+l.length)/\(n-l.length=0->o'=o)/\qaQ hb g o' (n-l.length) (ZD cur o l) w' /\
 (w'.heap.size=w.heap.size/\w'.os=w.os/\w'.tape=w.tape/\w'.output=w.output/\∀ b,b≠hb->b≠g->w'.heap[b]?=w.heap[b]?)
set_option maxRecDepth 100000 in
theorem Gk (hb g o n:Nat) (cur:Array Value) (A:Option Addr) (c:Nat) (l:List UInt8) (hl:l.length<=n) (w:World) (H:qaQ hb g o n cur w) (h:Bys w w.heap.size (.slice A l.length c) l):Calls prog 180 #[.pointer (some ⟨hb,0,none⟩),.slice A l.length c] w (CloneQ hb g o n cur l w):=by
 have hsz:(Tryz.prog.info? 5).map (·.size)=some 1:=zQ;obtain⟨r1,r2,aN,gG,sV⟩:=H;have eU:=Td (P:=prog) w 257 26 3 5 g o n n A c l _ _ underlying257 hsz r2 h hl zO;have e1:(List.take o cur.toList++List.map bv l++List.drop (o+l.length) cur.toList).toArray=ZD cur o l:=rfl;rw[e1] at eU;have r3:(w.setRow g (ZD cur o l)).heap[hb]?=some (.cells #[.slice (some ⟨g,o,none⟩) n n] 257 (0,0)):=(setRow_other w g hb _ aN).trans r1;have r4:=setRow_heap w g _ (ZD cur o l) _ _ r2;have h3:∀ b,b≠g->(w.setRow g (ZD cur o l)).heap[b]?=w.heap[b]?:=fun b hb=>setRow_other w g b _ hb;have s3:(w.setRow g (ZD cur o l)).heap.size=w.heap.size:=zA3;have o3:(w.setRow g (ZD cur o l)).os=w.os/\(w.setRow g (ZD cur o l)).tape=w.tape/\(w.setRow g (ZD cur o l)).output=w.output:=⟨rfl,rfl,rfl⟩
 generalize w.setRow g (ZD cur o l)=w3 at *;have k1:=qa r1;have k3:=qa r3;have f3:=qe r3;clear h r1 r2 hsz e1;replace h3:=zH h3;replace r4:=zH r4;replace o3:=zH o3;have hll:=zH hl;have dV:(l.length:Int)<=(n:Int):=zO;have fin:Hid (∀ o' n',n'=n-l.length->(0<n'->o'=o+l.length)->(n'=0->o'=o)->CloneQ hb g o n cur l w (.returned (.slice (some ⟨g,o,none⟩) l.length l.length)) (w3.setCell ⟨hb,0,none⟩ (.slice (some ⟨g,o',none⟩) n' n'))):=zH fun o' n' e h1 h2=>by
  subst e;refine⟨o',rfl,h1,h2,⟨qi r3 0 _,(zJ _ _ _ _ (fun e=>aN e.symm)).trans r4.out,aN,?_,zO⟩,by simpa using s3,o3.out.1,o3.out.2.1,o3.out.2.2,fun b hb hbg=>(zJ _ _ _ _ hb).trans (h3.out b hbg)⟩;rw[Uf zO];rcases Nat.eq_zero_or_pos (n-l.length) with h0|h0
  ·have:=h2 h0;omega
  ·have:=h1 h0;omega
 clear r3 r4 h3 o3 gG;go_enter func180,ntmps180;go_wp2_with fail
 ·subst h;go_ret;exact fin.out o 0 zO (fun h=>zO) (fun _=>rfl)
 ·go_ret;exact fin.out (o+l.length) (n-l.length) rfl (fun _=>rfl) (fun h=>zO)
end Go.Proofs.YtpbniokljofedaaGreat
