/- Lemmas of the proof. -/
import Derived.OrdersIn
import Derived.TacticsIn
import Derived.CallsIn
import Derived.RangeFuncKeeps
import Derived.Sort.CutIn
import Derived.Test.YtmeadnlmepcmbaaGreatZJ10
set_option linter.all false
set_option maxHeartbeats 8000000
open Go.Proofs.Tryz
namespace Go.Proofs.YtmeadnlmepcmbaaGreat
open Go.RowKit
theorem Rd.some_ {w w':World} {B size n:Nat} {A:OA} {xs:List Value} (h:Rd w B size A n xs) (hk:∀ p v,w.cell? p=some v->w'.cell? p=some v):Rd w' B size A n xs:=
 ⟨h.1,fun hn=>by obtain⟨b,off,e,hb,hc⟩:=h.2 hn;exact⟨b,off,e,hb,fun j u hu=>hk _ _ (hc j u hu)⟩⟩
theorem Bys.some_ {w w':World} {B:Nat} {v:Value} {l:List UInt8} (h:Bys w B v l) (hk:∀ p v,w.cell? p=some v->w'.cell? p=some v):Bys w' B v l:=by obtain⟨A,c,e,hc,hm,hr⟩:=h;exact⟨A,c,e,hc,hm,hr.some_ hk⟩
theorem qV.some_ {w w':World} {B:Nat} {v1 v2 v3 v4:Value} {S:Sto} (h:qV w B v1 v2 v3 v4 S) (hk:∀ p v,w.cell? p=some v->w'.cell? p=some v):qV w' B v1 v2 v3 v4 S:=by obtain⟨⟨vs,A,c,e,h1,h2,h3,h4⟩,⟨ps,e',⟨A',c',e1,e2,e3,hr⟩,hp⟩,h5,h6⟩:=h;exact⟨⟨vs,A,c,e,h1,h2,h3.some_ hk,fun i u l hu hl=>(h4 i u l hu hl).some_ hk⟩,⟨ps,e',⟨A',c',e1,e2,e3,hr.some_ hk⟩,fun p h=>⟨(hp p h).1,(hp p h).2.some_ hk⟩⟩,h5.some_ hk,h6.some_ hk⟩
def mixW (lo N:Nat) (W C:World):World:={ C with heap:=Array.ofFn (n:=max N C.heap.size) fun k=>if lo<=k.1/\k.1<N then W.heap[k.1]?.getD (.deferred none) else C.heap[k.1]?.getD (.deferred none) }
theorem qgs (lo N:Nat) (W C:World) (q:Addr):(mixW lo N W C).cell? q=if lo<=q.block/\q.block<N then W.cell? q else C.cell? q:=by
 unfold World.cell?;have e:(mixW lo N W C).heap[q.block]?=if q.block<max N C.heap.size then some (if lo<=q.block/\q.block<N then W.heap[q.block]?.getD (.deferred none) else C.heap[q.block]?.getD (.deferred none)) else none:=by simp only[mixW,Array.getElem?_ofFn];split <;> rfl
 rw[e];by_cases h:lo<=q.block/\q.block<N
 ·rw[if_pos zO,if_pos h];simp only[if_pos h];cases W.heap[q.block]? <;> rfl
 ·simp only[if_neg h];split
  ·rename_i h1;split at h1
   ·cases hq:C.heap[q.block]? with
    |none=>rw[hq] at h1;cases h1
    |some o=>rw[hq] at h1;simp only[Option.getD_some,Option.some.injEq] at h1;subst h1;rfl
   ·cases h1
  ·rename_i h1;split at h1
   ·cases hq:C.heap[q.block]? with
    |none=>rfl
    |some o =>
     cases o with
     |cells c e f=>exact absurd (by rw[hq];rfl) (h1 c e f)
     |_=>rfl
   ·rename_i h2;rw[Array.getElem?_eq_none zO]
theorem qkL {Φ:World->Prop} (hm:∀ A C:World,(∀ q v,A.cell? q=some v->C.cell? q=some v)->Φ A->Φ C) {lo N:Nat} {W:World} (h:∀ W2:World,(∀ q:Addr,lo<=q.block->q.block<N->W2.cell? q=W.cell? q)->Φ W2) : ∀ C:World,(∀ q v,lo<=q.block->q.block<N->W.cell? q=some v->C.cell? q=some v)->Φ C:=fun C h3 =>
 hm (mixW lo N W C) C (fun q v hq=>by
  rw[qgs] at hq;split at hq
  ·rename_i h1;exact h3 q v h1.1 h1.2 hq
  ·exact hq) (h _ fun q h1 h2=>by rw[qgs,if_pos ⟨h1,h2⟩])
structure Qo (W W':World):Prop where
 size:W.heap.size<=W'.heap.size
 same:∀ (k:Nat) (o:Obj),W.heap[k]?=some o->o.isCells=true->W'.heap[k]?=some o
theorem Qo.refl (W:World):Qo W W:=⟨zM _,fun _ _ h _=>h⟩
theorem Qo.row {W W':World} (h:Qo W W') {b:Nat} {cs:Array Value} {ty:TypeId} {fz:Nat×Nat} (hr:W.heap[b]?=some (.cells cs ty fz)):W'.heap[b]?=some (.cells cs ty fz):=h.same b _ hr rfl
theorem Qo.cell {W W':World} (h:Qo W W') {q:Addr} {v:Value} (hq:W.cell? q=some v):W'.cell? q=some v:=by
 unfold World.cell? at *;cases hb:W.heap[q.block]? with
 |none=>rw[hb] at hq;cases hq
 |some o =>
  cases o with
  |cells c e f =>
   rw[hb] at hq;rw[h.row hb];exact hq
  |_=>rw[hb] at hq;cases hq
theorem Qo.grown {Wb W W':World} {row:Option Nat} (h:Qo Wb W) (hg:W.grownBy W' row) (hr:∀ r,row=some r->∃ o:Obj,W.heap[r]?=some o/\o.isCells=false):Qo Wb W':=⟨Nat.le_trans h.size hg.size,fun k o hk ho=>by have h1:=h.same k o hk ho;refine(hg.block k (zG.1 h1).1 fun e=>?_).trans h1;obtain⟨o',h2,h3⟩:=hr k e.symm;rw[h1] at h2;cases h2;rw[ho] at h3;cases h3⟩
def PosZ (lo:Nat) (W W':World):Prop:=∀ (q:Addr) (v:Value),lo<=q.block->q.block<W.heap.size->(thaw W).cell? q=some v->W'.cell? q=some v
theorem Ext.thaw {w w':World} (h:Ext w w'):Ext (thaw w) (Go.Proofs.YtmeadnlmepcmbaaGreat.thaw w'):=⟨h.os,h.tape,h.output,by rw[KU,KU];exact h.size,fun k hk=>by rw[KU] at hk;rw[VO,VO,h.block k hk]⟩
theorem Bys.of_ownT {w:World} {base n:Nat} {e:TypeId} {v:Value} {l:List UInt8} (h:w.ownsRow base e 1 v n (l.map bv)):Bys (thaw w) w.heap.size v l:=(NewB.of_own h).thaw
def NewSto (lo:Nat) (S:Sto) (u:Value) (W:World):Prop:=∃ A1 c1 A2 c2 A3 c3 A4 c4,u=Qe A1 S.bs.length c1 A2 S.ws.length c2 A3 S.now.length c3 A4 S.last.length c4 /\
 ∀ C:World,PosZ lo W C->qV C W.heap.size (.slice A1 S.bs.length c1) (.slice A2 S.ws.length c2) (.slice A3 S.now.length c3) (.slice A4 S.last.length c4) S
theorem Jh {lo:Nat} {W W':World} (h:∀ k,lo<=k->k<W.heap.size->W'.heap[k]?=W.heap[k]?):PosZ lo W W':=fun q v h1 h2 h3=>(World.cell?_of_block (h q.block h1 h2)).trans (GT h3).1
theorem Zl {w0 w:World} {B b:Nat} (h:Below B w0 w) (hb:B<=b) (x0 x1 x2 x3:Value):Below B w0 ((((w.setCell ⟨b,0,none⟩ x0).setCell ⟨b,1,none⟩ x1).setCell ⟨b,2,none⟩ x2).setCell ⟨b,3,none⟩ x3):=
 Below.setCell (Below.setCell (Below.setCell (Below.setCell h (p:=⟨b,0,none⟩) hb _) (p:=⟨b,1,none⟩) hb _) (p:=⟨b,2,none⟩) hb _) (p:=⟨b,3,none⟩) hb _
theorem VC {w:World} {b:Nat} {ty:TypeId} {y0 y1 y2 y3:Value} (h:w.heap[b]?=some (.cells #[y0,y1,y2,y3] ty (0,0))) (x0 x1 x2 x3:Value) : ((((w.setCell ⟨b,0,none⟩ x0).setCell ⟨b,1,none⟩ x1).setCell ⟨b,2,none⟩ x2).setCell ⟨b,3,none⟩ x3).heap[b]?=some (.cells #[x0,x1,x2,x3] ty (0,0)):=qi (qi (qi (qi h 0 x0) 1 x1) 2 x2) 3 x3
theorem ji {w:World} {b:Nat} {ty:TypeId} {y0 y1 y2 y3 y4 y5 y6 y7:Value} (h:w.heap[b]?=some (.cells #[y0,y1,y2,y3,y4,y5,y6,y7] ty (0,0))) (x0 x1 x2 x3 x4 x5 x6 x7:Value) : ((((((((w.setCell ⟨b,0,none⟩ x0).setCell ⟨b,1,none⟩ x1).setCell ⟨b,2,none⟩ x2).setCell ⟨b,3,none⟩ x3).setCell ⟨b,4,none⟩ x4).setCell ⟨b,5,none⟩ x5).setCell ⟨b,6,none⟩ x6).setCell ⟨b,7,none⟩ x7).heap[b]?=some (.cells #[x0,x1,x2,x3,x4,x5,x6,x7] ty (0,0)):=by
 have h1:=qi (qi (qi (qi h 0 x0) 1 x1) 2 x2) 3 x3;exact qi (qi (qi (qi (cs:=#[x0,x1,x2,x3,y4,y5,y6,y7]) h1 4 x4) 5 x5) 6 x6) 7 x7
theorem QR {w0 w:World} {B b:Nat} (h:Below B w0 w) (hb:B<=b) (x0 x1 x2 x3 x4 x5 x6 x7:Value):Below B w0 ((((((((w.setCell ⟨b,0,none⟩ x0).setCell ⟨b,1,none⟩ x1).setCell ⟨b,2,none⟩ x2).setCell ⟨b,3,none⟩ x3).setCell ⟨b,4,none⟩ x4).setCell ⟨b,5,none⟩ x5).setCell ⟨b,6,none⟩ x6).setCell ⟨b,7,none⟩ x7):=
 Below.setCell (Below.setCell (Below.setCell (Below.setCell (Zl h hb x0 x1 x2 x3) (p:=⟨b,4,none⟩) hb _) (p:=⟨b,5,none⟩) hb _) (p:=⟨b,6,none⟩) hb _) (p:=⟨b,7,none⟩) hb _
theorem jK {w:World} {b k:Nat} (hk:k≠b) (x0 x1 x2 x3 x4 x5 x6 x7:Value):((((((((w.setCell ⟨b,0,none⟩ x0).setCell ⟨b,1,none⟩ x1).setCell ⟨b,2,none⟩ x2).setCell ⟨b,3,none⟩ x3).setCell ⟨b,4,none⟩ x4).setCell ⟨b,5,none⟩ x5).setCell ⟨b,6,none⟩ x6).setCell ⟨b,7,none⟩ x7).heap[k]?=w.heap[k]?:=by have hs:=fun (A:World) (j:Nat) (v:Value)=>zJ A ⟨b,j,none⟩ v k hk;rw[hs,hs,hs,hs,hs,hs,hs,hs]
set_option maxRecDepth 100000 in
theorem up_any (A n c) (t:List UInt8) (a:Int) (w:World) (h:Bys w w.heap.size (.slice A n c) t):Calls prog 156 #[.slice A n c,.int .i64 a] w (Zg (qfl t a 1 255 w.heap.size) w):=by
 have HT:=zH (turn_any A n c t a 1 255 w h);clear h;go_enter func156,ntmps156;go_wp2_with fail;refine HT.out.mono ?_;clear HT;rintro e w2 ⟨u,rfl,hu,hB⟩;rcases hu with ⟨h1,rfl⟩|⟨h1,A',c',rfl,aB⟩
 ·have iR:Ext w w2:=hB;have hQ:=zH (⟨_,rfl,.inl ⟨h1,rfl⟩,iR⟩:Zg (qfl t a 1 255 w.heap.size) w (.returned (.tuple #[.slice none 0 0,.int .i64 (YM t a 255)])) w2);generalize YM t a 255=er at *;replace h1:=zH h1;go_wp2_with fail;refine bodyPost_ret (v:=.tuple #[.slice none 0 0,.int .i64 er]) ?_ rfl hQ.out;simp[results,results156,go_sem]
 ·have iR:Ext w w2:=hB;have hQ:=zH (⟨_,rfl,.inr ⟨h1,A',c',rfl,aB⟩,iR⟩:Zg (qfl t a 1 255 w.heap.size) w (.returned (.tuple #[.slice A' 256 c',.int .i64 0])) w2);replace h1:=zH h1;go_wp2_with fail;refine bodyPost_ret (v:=.tuple #[.slice A' 256 c',.int .i64 0]) ?_ rfl hQ.out;simp[results,results156,go_sem]
abbrev qw (S:Sto) (t:List UInt8):Sto:=⟨S.bs,S.ws,t,S.last⟩
abbrev sto0:Value:=Qe none 0 0 none 0 0 none 0 0 none 0 0
def Qp (S:Sto) (a:Int):Int:=if JH S a≠0 then JH S a else if Zo S a.toNat=255 then 70 else 0
def StoQ (e:Int) (S:Sto) (lo:Nat) (u:Value) (W:World):Prop:=(e≠0/\u=.tuple #[sto0,.int .i64 e])\/(e=0/\∃ v,u=.tuple #[v,.int .i64 0]/\QM lo S v W)
theorem QV {S:Sto} (h:ql S=true):GZ S:=by
 obtain⟨h1,h2,h3,h4⟩:=Qc h;have hd:jO S.bs S.ws=true:=by unfold ql at h;simp at h;exact h.1
 obtain⟨d1,d2,d3,d4⟩:=qcG hd;exact⟨d1,d2,d3,d4,zO,zO⟩
theorem qiK {S:Sto} (h:ql S=true):Qt S.now=true:=by unfold ql at h;simp at h;exact h.2.1
theorem GS {R:Ending->World->Prop} {a:Act} {W:World} {b:Nat} {x0 x1 x2 x3 v:Value} (h4:a.tmps[4]?.getD undef=.pointer (some ⟨b,0,none⟩)) (h5:a.tmps[5]?.getD undef=v) (hd:a.defers=[]) (aF:W.heap[b]?=some (.cells #[x0,x1,x2,x3] 28 (0,0))) (hR:R (.returned (.tuple #[.agg #[x0,x1,x2,x3],v])) W):bodyPost prog Tryz.f103 R .ret a W:=by
 refine bodyPost_ret (v:=.tuple #[.agg #[x0,x1,x2,x3],v]) ?_ hd hR;have k:=qa aF;simp[results,results103,go_sem,h4,h5,k]
set_option maxRecDepth 100000 in
theorem qcj (A1 n1 c1 A2 n2 c2 A3 n3 c3 A4 n4 c4) (S:Sto) (a:Int) (w:World) (h:qV w w.heap.size (.slice A1 n1 c1) (.slice A2 n2 c2) (.slice A3 n3 c3) (.slice A4 n4 c4) S):Calls prog 103 #[Qe A1 n1 c1 A2 n2 c2 A3 n3 c3 A4 n4 c4,.int .i64 a] w (Zg (StoQ (Qp S a) (qw S (ZY S.now a.toNat 1)) w.heap.size) w):=by
 have HA:=zH (fun W (hx:Ext w W)=>qcd A1 n1 c1 A2 n2 c2 A3 n3 c3 A4 n4 c4 S a W (h.ext hx));have HU:=zH (fun W (hx:Ext w W)=>up_any A3 n3 c3 S.now a W (h.ext hx).now);replace h:=zH h;go_enter func103,ntmps103;go_wp2_with fail;generalize aA:(World.alloc (World.alloc w _) _)=w1;have x1:Ext w w1:=by rw[<-aA];exact(zN _ _).trans (zN _ _)
 have rs1:w1.heap[w.heap.size]?=some (.cells #[.slice A1 n1 c1,.slice A2 n2 c2,.slice A3 n3 c3,.slice A4 n4 c4] 28 (0,0)):=by rw[<-aA];exact(zK _ _ _ zA2).trans (zI _ _ _ rfl)
 have ro1:w1.heap[w.heap.size+1]?=some (.cells #[.slice none 0 0,.slice none 0 0,.slice none 0 0,.slice none 0 0] 28 (0,0)):=by rw[<-aA];exact zI _ _ _ zA2
 clear aA;refine(HA.out w1 x1).mono ?_;clear HA;rintro e w2 ⟨rfl,hB⟩;have x2:Ext w w2:=x1.trans hB;have rs2:=qb rs1 hB;have ro2:=qb ro1 hB;clear hB rs1 ro1 x1;by_cases h0:JH S a=0
 ·obtain⟨hS,m,rfl,uC,dn,lH⟩:=kR h0;have hE:Qp S (m:Int)=if Zo S m=255 then 70 else 0:=by unfold Qp;rw[if_neg (by simpa using h0),Int.toNat_natCast]
  have hT:YM S.now (m:Int) 255=if Zo S m=255 then 70 else 0:=qhe (qiK hS) uC dn 255
  have dw:=zH (QV hS);rw[h0];have ks2:=qa rs2;replace h0:=zH h0;replace hS:=zH hS;rw[<-hE] at hT;replace hE:=zH hE;clear lH;go_wp2_with fail;refine(HU.out w2 x2).mono ?_;clear HU;rintro e w3 ⟨u,rfl,hu,hB⟩;have x3:Ext w w3:=x2.trans hB;have rs3:=qb rs2 hB;have ro3:=qb ro2 hB;have ks3:=qa rs3;have z23:=hB.size;clear hB rs2 ro2 ks2;unfold qfl at hu;rw[hT] at hu;rcases hu with ⟨h1,rfl⟩|⟨h1,A',c',rfl,aB⟩
  ·generalize Qp S (m:Int)=er at *;have he:(er != 0)=true:=by rw[bne_iff_ne];exact h1
   have hq:=zH h1;have ko3:=qa ro3;have fo3:=qe ro3;clear h1 hT;go_wp2_with fail;exact GS (b:=w.heap.size+1) rfl rfl rfl (VC ro3 _ _ _ _) ⟨_,rfl,.inl ⟨hq.out,rfl⟩,Zl x3 zO _ _ _ _⟩
  ·have aS:=Bys.of_own aB;have HTW:=qdU A1 n1 c1 A2 n2 c2 A' 256 c' A4 n4 c4 (qw S (ZY S.now m 1)) ⟨dw.out.bs,dw.out.ws,dw.out.be,dw.out.we,by rw[qiO];exact dw.out.now,dw.out.last⟩ w3 ⟨(h.out.ext x3).bs,(h.out.ext x3).ws,aS,(h.out.ext x3).last⟩;replace aS:=zH aS;replace aB:=zH aB;replace h1:=zH h1;go_wp2_with fail;refine HTW.mono ?_;clear HTW;rintro e w4 ⟨u,rfl,hu,hB⟩;have x4:Ext w w4:=x3.trans hB;have ro4:=qb ro3 hB;have ko4:=qa ro4;have fo4:=qe ro4;have zo3:w.heap.size+1<w3.heap.size:=(zG.1 ro3).1;obtain⟨BB,WW,g,B3,d3,B4,d4,rfl,hD,hN,hL⟩:=hu;have hK:=fun (x0 x1 x2 x3':Value)=>QM.keep (lo':=w.heap.size) (⟨BB,WW,g,B3,d3,B4,d4,rfl,hD,hN,hL⟩:QM w3.heap.size (qw S (ZY S.now m 1)) _ w4) (W2:=(((w4.setCell ⟨w.heap.size+1,0,none⟩ x0).setCell ⟨w.heap.size+1,1,none⟩ x1).setCell ⟨w.heap.size+1,2,none⟩ x2).setCell ⟨w.heap.size+1,3,none⟩ x3') zO zA2 (fun b hb _=>(zJ _ _ _ _ zA1).trans ((zJ _ _ _ _ zA1).trans ((zJ _ _ _ _ zA1).trans (zJ _ _ _ _ zA1))));replace hK:=zH hK;clear hB hD hN hL ks3 rs3 ro3;go_wp2_with fail;exact GS (b:=w.heap.size+1) rfl rfl rfl (VC ro4 _ _ _ _) ⟨_,rfl,.inr ⟨h1.out,_,rfl,hK.out _ _ _ _⟩,Zl x4 zO _ _ _ _⟩
 ·have hE:Qp S a=JH S a:=by unfold Qp;rw[if_pos h0]
  generalize JH S a=er at *;have he:(er != 0)=true:=by rw[bne_iff_ne];exact h0
  have hq:=zH h0;have ko2:=qa ro2;have fo2:=qe ro2;replace hE:=zH hE;clear h0;go_wp2_with fail;exact GS (b:=w.heap.size+1) rfl rfl rfl (VC ro2 _ _ _ _) ⟨_,rfl,.inl ⟨by rw[hE.out];exact hq.out,by rw[hE.out];rfl⟩,Zl x2 zO _ _ _ _⟩
def vd (t:List UInt8) (a:Nat):List UInt8:=t.set a (UInt8.ofNat (qN t a-1))
theorem qjW {n:Nat} (h:0<n) (h2:n<256):IntKind.u8.wrap ((n:Int)-1)=(((UInt8.ofNat (n-1)).toNat:Nat):Int):=by rw[<-qeX];congr 1;omega
theorem qbp {R:Ending->World->Prop} {a:Act} {W:World} {v:Value} (h4:a.tmps[4]?.getD undef=v) (hd:a.defers=[]) (hR:R (.returned v) W):bodyPost prog Tryz.f141 R .ret a W:=by refine bodyPost_ret (v:=v) ?_ hd hR;simp[results,results141,go_sem,h4]
theorem qdl {R:Ending->World->Prop} {a:Act} {W:World} {b:Nat} {x0 x1 x2 x3 v:Value} (h4:a.tmps[4]?.getD undef=.pointer (some ⟨b,0,none⟩)) (h5:a.tmps[5]?.getD undef=v) (hd:a.defers=[]) (aF:W.heap[b]?=some (.cells #[x0,x1,x2,x3] 28 (0,0))) (hR:R (.returned (.tuple #[.agg #[x0,x1,x2,x3],v])) W):bodyPost prog Tryz.f139 R .ret a W:=by
 refine bodyPost_ret (v:=.tuple #[.agg #[x0,x1,x2,x3],v]) ?_ hd hR;have k:=qa aF;simp[results,results139,go_sem,h4,h5,k]
theorem QM.set4 {lo lo' b:Nat} {S:Sto} {u:Value} {W:World} (h:QM lo S u W) (hl:lo'<=lo) (hb:b<lo) (x0 x1 x2 x3:Value):QM lo' S u ((((W.setCell ⟨b,0,none⟩ x0).setCell ⟨b,1,none⟩ x1).setCell ⟨b,2,none⟩ x2).setCell ⟨b,3,none⟩ x3):=
 h.keep hl zA2 fun b' yt _=>(zJ _ _ _ _ zA1).trans ((zJ _ _ _ _ zA1).trans ((zJ _ _ _ _ zA1).trans (zJ _ _ _ _ zA1)))
def Ql (X:Nat->Prop) (w C:World):Prop:=∀ (q:Addr) (v:Value),¬X q.block->w.cell? q=some v->C.cell? q=some v
section
variable {X Y:Nat->Prop} {w W C:World}
theorem Ql.refl (X:Nat->Prop) (w:World):Ql X w w:=fun _ _ _ h=>h
theorem Ql.of_ext (h:Ext w C):Ql X w C:=fun _ _ _ hv=>Ext.cell h hv
theorem Ql.trans (h:Ql X w W) (h':Ql Y W C) (hY:∀ k,k<w.heap.size->Y k->X k):Ql X w C:=fun q v hX hv=>h' q v (fun hy=>hX (hY _ (World.block_lt_of_cell? w q hv) hy)) (h q v hX hv)
theorem Ql.mono (h:Ql X w C) (hX:∀ k,k<w.heap.size->X k->Y k):Ql Y w C:=fun q v hY hv=>h q v (fun hx=>hY (hX _ (World.block_lt_of_cell? w q hv) hx)) hv
theorem Ql.of_heap (h:∀ k,k<w.heap.size->¬X k->C.heap[k]?=w.heap[k]?):Ql X w C:=fun q v hX hv=>(World.cell?_of_block (h _ (World.block_lt_of_cell? w q hv) hX)).trans hv
theorem Rd.keepX {B size n:Nat} {A:OA} {xs:List Value} (h:Rd w B size A n xs) (hs:0<size) (hk:Ql X w C) (hX:∀ k,k<B->¬X k):Rd C C.heap.size size A n xs:=⟨h.1,fun hn=>by
 obtain⟨b,off,e,hb,hc⟩:=h.2 hn;refine⟨b,off,e,?_,fun j u hu=>hk _ _ (hX b hb) (hc j u hu)⟩;have hl:0<xs.length:=by rw[h.1];exact Nat.mul_pos hn hs
 exact World.block_lt_of_cell? C ⟨b,off+0,none⟩ (hk _ _ (hX b hb) (hc 0 _ (zL hl)))⟩
theorem Bys.keepX {B:Nat} {v:Value} {l:List UInt8} (h:Bys w B v l) (hk:Ql X w C) (hX:∀ k,k<B->¬X k):Bys C C.heap.size v l:=by obtain⟨A,c,e,hc,hm,hr⟩:=h;exact⟨A,c,e,hc,hm,hr.keepX zO hk hX⟩
end
def kM (X:Nat->Prop) (w:World) (v:Value) (xs:List It):Prop:=∀ C,Ql X w C->Its C C.heap.size v xs
theorem kM.now {X:Nat->Prop} {w:World} {v:Value} {xs:List It} (h:kM X w v xs):Its w w.heap.size v xs:=h w (Ql.refl _ _)
theorem kM.trans {X Y:Nat->Prop} {w W:World} {v:Value} {xs:List It} (h:kM X w v xs) (hk:Ql X w W) (hY:∀ k,k<w.heap.size->Y k->X k):kM Y W v xs:=fun C hC=>h C (hk.trans hC hY)
theorem Zx {w w':World} {base size n:Nat} {e:TypeId} {v:Value} {xs:List Value} (h:w.ownsRow base e size v n xs) (hk:∀ q,v.ownBlock=some q->w'.heap[q]?=w.heap[q]?):w'.ownsRow base e size v n xs:=
 ⟨h.1,h.2.imp id fun ⟨g,cap,cur,e1,h3,h4,h5⟩=>⟨g,cap,cur,e1,h3,(hk g (by rw[e1];rfl)).trans h4,h5⟩⟩
theorem jh {w:World} {base size n:Nat} {e:TypeId} {v:Value} {xs:List Value} (h:w.ownsRow base e size v n xs) {q:Nat} (hq:v.ownBlock=some q):∃ cur,w.heap[q]?=some (.cells cur e (0,0)):=by
 rcases h.2 with ⟨e1,_⟩|⟨g,cap,cur,e1,_,hg,_⟩
 ·rw[e1] at hq;cases hq
 ·rw[e1] at hq;cases hq;exact⟨cur,hg⟩
def B3 (b g:Nat) (k:Option Nat) (q:Nat):Prop:=q=b\/q=g\/k=some q
def Tu (B:Nat) (D:Nat->Prop) (q:Nat):Prop:=B<=q/\¬D q
theorem Tu.keep {B:Nat} {D:Nat->Prop} {w W:World} (h:∀ q,q<w.heap.size->q<B\/D q->W.heap[q]?=w.heap[q]?):Ql (Tu B D) w W:=Ql.of_heap fun q hq hX=>h q hq (by
 by_cases hB:q<B
 ·exact .inl hB
 ·right;by_cases hD:D q
  ·exact hD
  ·exact absurd ⟨zO,hD⟩ hX)
def YO (n:Nat) (D D':Nat->Prop):Prop:=∀ q,D' q->D q\/n<=q
theorem YO.refl (n:Nat) (D:Nat->Prop):YO n D D:=fun _ h=>.inl h
theorem YO.mono {n n':Nat} {D D':Nat->Prop} (h:YO n D D') (hn:n'<=n):YO n' D D':=fun q hq=>(h q hq).imp id fun h=>zO
theorem YO.trans {n n':Nat} {D D' D'':Nat->Prop} (h:YO n D D') (h':YO n' D' D'') (hn:n<=n'):YO n D D'':=fun q hq=>(h' q hq).elim (fun h1=>h q h1) fun h1=>.inr zO
structure Qg (lo b g:Nat) (k:Option Nat) (w W:World):Prop where
 below:Below lo w W
 rows:∀ q,q<w.heap.size->¬B3 b g k q->W.heap[q]?=w.heap[q]?
def ZD (n:Nat) (k k':Option Nat):Prop:=∀ q,k'=some q->k=some q\/n<=q
theorem ZD.refl (n:Nat) (k:Option Nat):ZD n k k:=fun _ h=>.inl h
theorem ZD.mono {n n':Nat} {k k':Option Nat} (h:ZD n k k') (hn:n'<=n):ZD n' k k':=fun q hq=>(h q hq).imp id fun h=>zO
theorem ZD.trans {n n':Nat} {k k' k'':Option Nat} (h:ZD n k k') (h':ZD n' k' k'') (hn:n<=n'):ZD n k k'':=fun q hq=>(h' q hq).elim (fun h1=>h q h1) fun h1=>.inr zO
section
variable {lo b g:Nat} {k k':Option Nat} {w W C:World}
theorem Qg.refl (lo b g:Nat) (k:Option Nat) (w:World):Qg lo b g k w w:=⟨Below.refl _ _,fun _ _ _=>rfl⟩
theorem Qg.of_ext (h:Ext w W) (hl:lo<=w.heap.size):Qg lo b g k w W:=⟨Below.mono h hl,fun q hq _=>Below.block h q hq⟩
theorem Qg.trans (h:Qg lo b g k w W) (h':Qg lo b g k' W C) (hk:ZD w.heap.size k k'):Qg lo b g k w C:=⟨h.below.trans h'.below,fun q hq hn=>(h'.rows q (by have:=h.below.size;omega) fun hx=>hn (by
 rcases hx with e|e|e
 ·exact .inl e
 ·exact .inr (.inl e)
 ·exact(hk q e).elim (fun h=>.inr (.inr h)) fun h=>zO)).trans (h.rows q hq hn)⟩
theorem Qg.keepX (h:Qg lo b g k w W):Ql (B3 b g k) w W:=Ql.of_heap fun q hq hX=>h.rows q hq hX
theorem Qg.own (h:Qg lo b g k w W) {base n size:Nat} {e:TypeId} {v:Value} {xs:List Value} (ho:w.ownsRow base e size v n xs) (hn:∀ q,v.ownBlock=some q->¬B3 b g k q):W.ownsRow base e size v n xs:=Zx ho fun q hq=>h.rows q (QP ho q hq).2 (hn q hq)
theorem Qg.row (h:Qg lo b g k w W) {q:Nat} {o:Obj} (hr:w.heap[q]?=some o) (hn:¬B3 b g k q):W.heap[q]?=some o:=(h.rows q (zG.1 hr).1 hn).trans hr
theorem B3.of_new (hk:ZD w.heap.size k k'):∀ q,q<w.heap.size->B3 b g k' q->B3 b g k q:=fun q hq hx=>by
 rcases hx with e|e|e
 ·exact .inl e
 ·exact .inr (.inl e)
 ·exact(hk q e).elim (fun h=>.inr (.inr h)) fun h=>zO
end
def WsB (D:Nat->Prop) (B lo b g:Nat) (k:Option Nat) (v:Value) (ws:List (Int×List UInt8)) (w:World):Prop:=∃ ps:List ((Int×List UInt8)×Value),ps.map (·.1)=ws /\
 ((k=none/\ws.length<=maxLen/\∃ A,v=.slice A ws.length ws.length/\Rd w B 2 A ws.length (jd ps))\/(∃ q,k=some q/\v.ownBlock=some q/\w.ownsRow lo 142 2 v ws.length (jd ps))) /\
 ∀ p∈ps,(∃ A c,p.2=.slice A p.1.2.length c)/\∀ C,Ql (Tu B D) w C->Bys C C.heap.size p.2 p.1.2
theorem WsB.ext {D:Nat->Prop} {B lo b g:Nat} {k:Option Nat} {v:Value} {ws:List (Int×List UInt8)} {w W:World} (h:WsB D B lo b g k v ws w) (hx:Ext w W) (hB:B<=w.heap.size):WsB D B lo b g k v ws W:=by
 obtain⟨ps,e,hw,hp⟩:=h;refine⟨ps,e,?_,fun p af=>⟨(hp p af).1,fun C hC=>(hp p af).2 C ((Ql.of_ext hx).trans hC fun _ _ h=>h)⟩⟩;rcases hw with ⟨e,hm,A,e2,hr⟩|⟨q,e,e2,how⟩
 ·exact .inl ⟨e,hm,A,e2,hr.below (Below.mono hx hB)⟩
 ·exact .inr ⟨q,e,e2,Zx how fun q' lJ=>Below.block hx q' (QP how q' lJ).2⟩
theorem WsB.mono {D D':Nat->Prop} {B lo b g:Nat} {k:Option Nat} {v:Value} {ws:List (Int×List UInt8)} {w:World} (h:WsB D B lo b g k v ws w) (hD:∀ q,D q->D' q):WsB D' B lo b g k v ws w:=by obtain⟨ps,e,hw,hp⟩:=h;exact⟨ps,e,hw,fun p af=>⟨(hp p af).1,fun C hC=>(hp p af).2 C (hC.mono fun q _ hx=>⟨hx.1,fun h=>hx.2 (hD q h)⟩)⟩⟩
structure Bch (D:Nat->Prop) (B lo b g:Nat) (k:Option Nat) (S:Sto) (w:World):Prop where
 lob:lo<=b
 blo:B<=lo
 dB:∀ q,D q->lo<=q/\q<w.heap.size/\¬B3 b g k q
 ex:∃ A1 n1 c1 v2 c3 A4 c4,w.heap[b]?=some (.cells #[.slice A1 n1 c1,v2,.slice (some ⟨g,0,none⟩) 256 c3,.slice A4 256 c4] 223 (0,0))/\w.ownsRow lo 5 1 (.slice (some ⟨g,0,none⟩) 256 c3) 256 (S.now.map bv) /\
  WsB D B lo b g k v2 S.ws w/\Bls w B (.slice A1 n1 c1) S.bs/\Bys w B (.slice A4 256 c4) S.last
section
variable {D:Nat->Prop} {B lo b g:Nat} {k:Option Nat} {S:Sto} {w W:World}
theorem Bch.size (h:Bch D B lo b g k S w):lo<=b/\b<w.heap.size/\lo<=g/\g<w.heap.size/\g≠b/\lo<=w.heap.size/\∀ q,k=some q->lo<=q/\q<w.heap.size/\q≠b/\q≠g:=by
 have h1:=h.lob;obtain⟨A1,n1,c1,v2,c3,A4,c4,hr,ho,⟨ps,_,hw,_⟩,_,_⟩:=h.ex;have hb:=(zG.1 hr).1;obtain⟨_,_,xP,hzg⟩:=ZB ho;obtain⟨cur,hg⟩:=jh ho (q:=g) rfl;refine⟨h1,hb,xP,hzg,qU hg hr zD,zO,fun q hq=>?_⟩;rcases hw with ⟨e,_⟩|⟨q',e,e2,how⟩
 ·rw[e] at hq;cases hq
 ·rw[e] at hq;cases hq;obtain⟨cur2,nY⟩:=jh how e2;have:=QP how _ e2;exact⟨this.1,this.2,qU nY hr zD,qU nY hg zD⟩
theorem Bch.b3 (h:Bch D B lo b g k S w):∀ q,B3 b g k q->lo<=q/\q<w.heap.size:=fun q hq=>by
 obtain⟨h1,h2,h3,h4,_,_,h5⟩:=h.size;rcases hq with rfl|rfl|e
 ·exact⟨h1,h2⟩
 ·exact⟨h3,h4⟩
 ·exact⟨(h5 q e).1,(h5 q e).2.1⟩
theorem Bch.off (h:Bch D B lo b g k S w):∀ q,q<B->¬B3 b g k q:=fun q hq hx=>by have h1:=h.blo;have:=(h.b3 q hx).1;omega
theorem Bch.offk (h:Bch D B lo b g k S w):∀ q,B3 b g k q->¬(q<B\/D q):=fun q hx hq=>hq.elim (fun h1=>h.off q h1 hx) fun h1=>(h.dB q h1).2.2 hx
theorem Bch.keep (h:Bch D B lo b g k S w) (hB:Below B w W) (hr:∀ q,B3 b g k q\/D q->W.heap[q]?=w.heap[q]?):Bch D B lo b g k S W:=by
 have hs:=hB.size;have hx:Ql (Tu B D) w W:=Tu.keep fun q hq h1=>h1.elim (fun h1=>hB.block q h1) fun h1=>hr q (.inr h1);obtain⟨A1,n1,c1,v2,c3,A4,c4,uo,ho,⟨ps,e,hw,hp⟩,h1,h4⟩:=h.ex;refine⟨h.lob,h.blo,fun q hq=>⟨(h.dB q hq).1,by have:=(h.dB q hq).2.1;omega,(h.dB q hq).2.2⟩,A1,n1,c1,v2,c3,A4,c4,(hr _ (.inl (.inl rfl))).trans uo,Zx ho (fun q hq=>by cases hq;exact hr _ (.inl (.inr (.inl rfl)))),⟨ps,e,?_,fun p af=>⟨(hp p af).1,fun C hC=>(hp p af).2 C (hx.trans hC fun _ _ h=>h)⟩⟩,h1.below hB,h4.below hB⟩;rcases hw with ⟨e,hm,A,e2,hr⟩|⟨q,e,e2,how⟩
 ·exact .inl ⟨e,hm,A,e2,hr.below hB⟩
 ·exact .inr ⟨q,e,e2,Zx how fun q' lJ=>by rw[e2] at lJ;cases lJ;exact hr q (.inl (.inr (.inr e)))⟩
theorem Bch.ext (h:Bch D B lo b g k S w) (hx:Ext w W):Bch D B lo b g k S W:=by have h6:=h.size.2.2.2.2.2.1;have h1:=h.blo;exact h.keep (Below.mono hx zO) fun q hq=>Below.block hx q (hq.elim (fun h2=>(h.b3 q h2).2) fun h2=>(h.dB q h2).2.1)
theorem Bch.keepX {X:Nat->Prop} (h:Bch D B lo b g k S w) (hB:Below B w W) (hr:∀ q,q<w.heap.size->¬X q->W.heap[q]?=w.heap[q]?) (hX:∀ q,B3 b g k q\/D q->¬X q):Bch D B lo b g k S W:=
 h.keep hB fun q hq=>hr q (hq.elim (fun h2=>(h.b3 q h2).2) fun h2=>(h.dB q h2).2.1) (hX q hq)
theorem Bch.mono {D':Nat->Prop} (h:Bch D B lo b g k S w) (hD:∀ q,D q->D' q) (hB:∀ q,D' q->lo<=q/\q<w.heap.size/\¬B3 b g k q):Bch D' B lo b g k S w:=by obtain⟨A1,n1,c1,v2,c3,A4,c4,uo,ho,hw,h1,h4⟩:=h.ex;exact⟨h.lob,h.blo,hB,A1,n1,c1,v2,c3,A4,c4,uo,ho,hw.mono hD,h1,h4⟩
theorem Bch.count (h:Bch D B lo b g k S w) {a:Nat} (ha:a<256) (x:UInt8):Bch D B lo b g k (qw S (S.now.set a x)) (w.setCell ⟨g,a,none⟩ (bv x))/\Qg lo b g k w (w.setCell ⟨g,a,none⟩ (bv x)):=by
 obtain⟨lV,_,xP,_,yG,_,h5⟩:=h.size;have cZ:=h.blo;have hkd:=h.offk;obtain⟨A1,n1,c1,v2,c3,A4,c4,hr,ho,⟨ps,e,hw,hp⟩,h1,h4⟩:=h.ex;have hK:Qg lo b g k w (w.setCell ⟨g,a,none⟩ (bv x)):=⟨Below.setCell (Below.refl _ _) (p:=⟨g,a,none⟩) xP _,fun q _ hn=>zJ _ _ _ _ fun e=>hn (.inr (.inl e))⟩
 have hX:Ql (Tu B D) w (w.setCell ⟨g,a,none⟩ (bv x)):=Tu.keep fun q _ hq=>zJ _ _ _ _ fun e=>hkd g (.inr (.inl rfl)) (by have e':q=g:=e;exact e' ▸ hq);have hB:Below B w (w.setCell ⟨g,a,none⟩ (bv x)):=Below.setCell (Below.refl _ _) (p:=⟨g,a,none⟩) (by show B<=g;omega) _;refine⟨⟨lV,cZ,fun q hq=>by simpa using h.dB q hq,A1,n1,c1,v2,c3,A4,c4,(zJ _ _ _ _ fun e=>yG e.symm).trans hr,qbf ho ha x,⟨ps,e,?_,fun p af=>⟨(hp p af).1,fun C hC=>(hp p af).2 C (hX.trans hC fun _ _ h=>h)⟩⟩,h1.below hB,h4.below hB⟩,hK⟩;rcases hw with ⟨e,hm,A,e2,hr⟩|⟨q,e,e2,how⟩
 ·exact .inl ⟨e,hm,A,e2,hr.below hB⟩
 ·exact .inr ⟨q,e,e2,Zx how fun q' lJ=>by rw[e2] at lJ;cases lJ;exact zJ _ _ _ _ (h5 q e).2.2.2⟩
theorem qfF (ps:List ((Int×List UInt8)×Value)) (p:(Int×List UInt8)×Value):jd (ps++[p])=jd ps++[.int .i64 p.1.1,p.2]:=by
 induction ps with
 |nil=>rfl
 |cons a r ih=>simp[jd,ih]
theorem Bch.sto (h:Bch D B lo b g k S w):∃ A1 n1 c1 A2 n2 c2 c3 A4 c4,w.heap[b]?=some (.cells #[.slice A1 n1 c1,.slice A2 n2 c2,.slice (some ⟨g,0,none⟩) 256 c3,.slice A4 256 c4] 223 (0,0))/\qV w w.heap.size (.slice A1 n1 c1) (.slice A2 n2 c2) (.slice (some ⟨g,0,none⟩) 256 c3) (.slice A4 256 c4) S:=by
 have h6:=h.size.2.2.2.2.2.1;have cZ:=h.blo;obtain⟨A1,n1,c1,v2,c3,A4,c4,hr,ho,⟨ps,e,hw,hp⟩,h1,h4⟩:=h.ex;have hv:∃ A2 n2 c2,v2=.slice A2 n2 c2/\Wrs w w.heap.size (.slice A2 n2 c2) S.ws:=by
  rcases hw with ⟨_,hm,A,rfl,pM⟩|⟨q,_,_,how⟩
  ·exact⟨A,_,_,rfl,ps,e,⟨A,_,rfl,zM _,hm,pM.more zO⟩,fun p af=>⟨(hp p af).1,(hp p af).2 w (Ql.refl _ _)⟩⟩
  ·obtain⟨A,c,rfl,dE,bG⟩:=qE how;exact⟨A,_,_,rfl,ps,e,⟨A,c,rfl,dE,bG,Rd.of_own how⟩,fun p af=>⟨(hp p af).1,(hp p af).2 w (Ql.refl _ _)⟩⟩
 obtain⟨A2,n2,c2,rfl,hW⟩:=hv;exact⟨A1,n1,c1,A2,n2,c2,c3,A4,c4,hr,h1.more zO,hW,Bys.of_own ho,h4.more zO⟩
end
structure qfo (F:Fence):Prop where
 fn:∀ f,F.fn f
 depth:¬F.depth.isSome=true
 call:∀ {n:Nat} {P:Program} {f:FuncId} {args:Array Value} {w:World} {R:Ending->World->Prop},Calls P f args w R->CallsIn F n P f args w R
theorem wideF:qfo Fence.wide:=⟨fun _=>trivial,fun h=>(by cases h),fun h=>callsIn_wide.2 h⟩
theorem Vj (l:Nat):qfo (Fence.wide.inRound l):=⟨fun _=>trivial,fun h=>(by cases h),fun h=>CallsIn.inRound l (callsIn_wide.2 h)⟩
def qbb (ops:Array Oper):Bool:=ops.toList.all fun o=>match o.op with | .defer _=>false|_=>true
theorem UI {ops:Array Oper} (h:qbb ops=true) {i:Nat} {o:Oper} (ho:ops[i]?=some o):∀ c,o.op≠.defer c:=by intro c hc;have h1:=List.all_eq_true.1 h o (by have:=Array.mem_of_getElem? ho;simpa using this);rw[hc] at h1;cases h1
section
variable {F:Fence} {P:Program} {ops:Array Oper} {n:Nat}
theorem qaN {Q':Exit->Act->World->Prop}:∀ (l:List Oper) (k:Nat) (listed:Array Bool) (a:Act) (W:World),(∀ j,j<l.length->l[j]?=ops[k+j]?)->GR ops l.length k listed=true->wpListIn F n P ops Q' l a W->wpAnyIn F n P .any ops Q' l.length listed a W
 | [],_,_,_,_,_,hB,h=>⟨by simpa [GR] using hB,h⟩
 |o :: l,k,listed,a,W,hl,hB,h=>by
  simp only[List.length_cons,GR,Bool.and_eq_true] at hB;obtain⟨hr,iR⟩:=hB;have mZ:Region.ready .any ops listed=[k]:=by simpa using hr
  have h0:ops[k]?=some o:=by simpa using (hl 0 zA2).symm
  refine⟨fun e=>(by rw[mZ] at e;cases e),fun i hi=>?_⟩;rw[mZ] at hi;obtain rfl:i=k:=by simpa using hi
  have uZ:∀ j,j<l.length->l[j]?=ops[i+1+j]?:=fun j hj=>by have:=hl (j+1) (by simpa using hj);simpa [Nat.add_assoc,Nat.add_comm 1 j] using this
  refine wpOpIn_mono (fun a w hw=>qaN l (i+1) _ a w uZ iR hw) ?_;unfold wpOpIn;simp only[h0];exact h
end
section
variable {F0:Fence} {R:Rel} {P:Program} {ops:Array Oper} {w0:World} {n:Nat}
theorem qaU (HF:qfo F0) (HN:qbb ops=true) {H:Nat->Option Qd} {i:Nat} {o:Oper} {a:Act} {F:qT} {K:Act->qT->Prop} {K':Act->World->Prop} {Q':Exit->Act->World->Prop} {W:World} (hi:ops[i]?=some o) (hH:∀ i h,H i=some h->∀ p,qL R (h.φ p)) (aH:∀ k,qL R (F k)) (hW:R.r w0 W) (hF:∀ k,F k W) (hK:∀ a' F' W',K a' F'->(∀ k,qL R (F' k))->R.r w0 W'->(∀ k,F' k W')->K' a' W') (h:FOpG R P ops w0 H i o K a F):wpOpIn F0 n P ops Q' i K' a W:=by
 obtain⟨hh,hok,hn⟩:=h;have go:∀ p W',R.r W W'->hh.φ p W'->K' (a.put o.dst (hh.f p)) W':=fun p W' he hφ=>by
  have lh:∀ k,upd F i o (hh.φ p) k W':=fun k=>by
   unfold upd;split
   ·exact⟨hφ,fun j _=>aH j _ _ he (hF j)⟩
   ·exact aH k _ _ he (hF k)
  exact hK _ _ W' (hn p ⟨W',R.trans hW he,lh⟩) (ZV aH i o (hok.stable hH p)) (R.trans hW he) lh
 unfold wpOpIn;simp only[hi];rcases hok with ⟨x1,rfl⟩|⟨x1,x2,v,rfl,x3⟩|⟨x1,x2,x3⟩
 ·simp only[x1,Bool.false_eq_true,if_false];exact⟨fun f _=>HF.fn f,go () W (R.refl W) trivial⟩
 ·simp only[x1,if_true];obtain⟨w',hr,he⟩:=x3 W hW fun k _=>hF k;refine⟨fun f _=>HF.fn f,?_⟩;rw[Oper.semAt_eq _ _ _ (UI HN hi),hr];exact go () w' he trivial
 ·simp only[x1,if_true];have h3:=x3 W hW fun k _=>hF k;unfold QO at h3;refine⟨fun f _=>HF.fn f,?_⟩;rw[Oper.semAt_eq _ _ _ (UI HN hi)];generalize (execOp a.eval o).run P W=r at *;cases r with
  |ok m w' =>
   cases m <;> simp only[jf] at h3 <;> simp only[Oper.uponIn]
   case value u =>obtain⟨p,rfl,hp,he⟩:=h3;exact go p w' he hp
   case skip =>
    obtain⟨p,e,hp,he⟩:=h3;have:=go p w' he hp
    rwa [<-e] at this
   case enter f args =>obtain⟨he,ah⟩:=h3;refine⟨fun h=>absurd h HF.depth,HF.call (ah.mono fun e w'' ⟨p,he1,hp,fG⟩=>?_)⟩;subst he1;exact go p w'' (R.trans he fG) hp
  |halt x w'=>simp only[jf] at h3
theorem KX (HF:qfo F0) (HN:qbb ops=true) {H:Nat->Option Qd} (hH:∀ i h,H i=some h->∀ p,qL R (h.φ p)) {L:Array Bool} {t:Nat} {Q:Act->qT->Prop} {Q':Exit->Act->World->Prop} (hQ:∀ a F W,Q a F->R.r w0 W->(∀ k,F k W)->wpAnyIn F0 n P .any ops Q' t L a W) : ∀ (fuel:Nat) (listed:Array Bool) (a:Act) (F:qT) (W:World),(∀ k,qL R (F k))->R.r w0 W->(∀ k,F k W)->VG R P ops w0 H L Q fuel listed a F->wpAnyIn F0 n P .any ops Q' (fuel+t) listed a W
 |0,listed,a,F,W,_,hW,hF,h=>by rw[h.1,Nat.zero_add];exact hQ a F W h.2 hW hF
 |fuel+1,listed,a,F,W,aH,hW,hF,h=>by rw[show fuel+1+t=fuel+t+1 by omega];refine⟨fun h0=>absurd h0 h.1,fun i hi=>?_⟩;obtain⟨_,o,ho,_⟩:=mem_ready.1 hi;exact qaU HF HN ho hH aH hW hF (fun a' F' W' hk lK au lh=>KX HF HN hH hQ fuel _ a' F' W' lK au lh hk) (h.2 i hi o ho)
theorem zY {id:Nat} {l:List Oper} {Q:Exit->Act->World->Prop} {a:Act} {w:World} (R:Rel) (H:Nat->Option Qd) (M:List Bool) (t:Nat) (HF:qfo F0) (HN:qbb l.toArray=true) (hm:P.follows .mixedOrders=true) (hs:Region.noSelect l.toArray=true) (ht:qhc l.toArray (za l.length (l.length-t)) ((qu 0 l M).map (·.1))=true) (dQ:XG l.toArray (Array.replicate l.length false)=true) (hB:ZQ l.toArray (za l.length (l.length-t)) ((qu 0 l M).map (·.1)) (Array.replicate l.length false)=true) (mf:GR l.toArray t (l.length-t) (za l.length (l.length-t))=true) (hfu:l.length=(qu 0 l M).length+t) (mi:(l.drop (l.length-t)).length=t) (hH:∀ i h,H i=some h->∀ p,qL R (h.φ p)) (hW:R.r w w.drew) (h:∀ K:Act->qT->Prop,(∀ a' F',(∀ W,R.r w W->(∀ k,F' k W)->wpListIn F0 n P l.toArray Q (l.drop (l.length-t)) a' W)->K a' F')->jc R P l.toArray w H K (qu 0 l M) a (fun _ _=>True)):(Code.region id l.toArray true).wpIn F0 n P Q a w:=by
 have h:=h _ (fun a' F' hh=>hh);refine wpIn_region_any hm ?_;have key:=XC (w0:=w) hH hs (fun _ _ h=>h.step) (TZ ht) (qu 0 l M) (Array.replicate l.length false) a (fun _ _=>True) (Vv dQ) (fun x hx=>by obtain⟨j,h1,h2⟩:=Vz l M 0 x hx;refine⟨?_,List.mem_map.2 ⟨x,hx,rfl⟩⟩;rw[h1,Nat.zero_add];simpa using h2) hB (fun _ _ _ _ _=>trivial) ⟨w.drew,hW,fun _=>trivial⟩ (fun _ _ _=>trivial) h;have:=KX (n:=n) (w0:=w) HF HN hH (t:=t) (Q':=Q) (fun a F W hq hW hF=>by
  have:=qaN (F:=F0) (n:=n) (l.drop (l.length-t)) (l.length-t) _ a W (fun j _=>by rw[List.getElem?_drop];simp) (by rw[mi];exact mf) (hq W hW hF)
  rwa [mi] at this) _ _ _ _ w.drew (fun _ _ _ _ _=>trivial) hW (fun _=>trivial) key
 rw[<-hfu] at this;simpa using this
end
end Go.Proofs.YtmeadnlmepcmbaaGreat
namespace Go.Proofs.YtmeadnlmepcmbaaGreat
open Go.RowKit Go.Shelf
attribute [local go_sem] Oper.semAt_some
def KH (S:Sto) (a:Nat):Nat:=(S.last[a]?.getD 0).toNat
def ZZ (S:Sto) (a:Nat):Bool:=decide (8<=a) && (decide (Zo S a=0) && decide (KH S a=0))
def Js (S:Sto) (k:Nat):List Nat:=(List.range k).filter (ZZ S)
def Zh (S:Sto):List Nat:=Js S 256
theorem Xe (S:Sto) (k:Nat):Js S (k+1)=if ZZ S k=true then Js S k++[k] else Js S k:=by
 unfold Js;rw[List.range_succ,List.filter_append];by_cases h:ZZ S k=true
 ·rw[if_pos h];simp[h]
 ·rw[if_neg h];simp[h]
theorem qhO (S:Sto) (k:Nat):(Js S k).length<=k:=Nat.le_trans (List.length_filter_le _ _) zA2
theorem freeTo_8 (S:Sto):Js S 8=[]:=by
 unfold Js;rw[List.filter_eq_nil_iff];intro a ha;have:a<8:=by simpa using ha
 unfold ZZ;simp[show ¬8<=a by omega]
theorem qbz (S:Sto) {k m:Nat} (h:k<=m):Js S k <+: Js S m:=by
 induction m with
 |zero =>
  obtain rfl:k=0:=zO;exact List.prefix_refl _
 |succ m ih =>
  rcases Nat.lt_or_ge m k with h1|h1
  ·obtain rfl:k=m+1:=zO;exact List.prefix_refl _
  ·refine(ih h1).trans ?_;rw[Xe];split
   ·exact List.prefix_append _ _
   ·exact List.prefix_refl _
theorem qjw (S:Sto) (a:Nat):Zo S a<256:=UInt8.toNat_lt _
theorem qgj (S:Sto) (a:Nat):KH S a<256:=UInt8.toNat_lt _
theorem qjA (a b:Nat) (ha:a<256) (hb:b<256):(bits .or .u8 (a:Int) (b:Int) == 0)=(decide (a=0) && decide (b=0)):=by
 have e:bits .or .u8 (a:Int) (b:Int)=((a ||| b:Nat):Int):=by
  have e:∀ n:Nat,n<256->(BitVec.ofInt 8 (n:Int)).toNat=n:=fun n hn=>by simp[BitVec.ofInt_natCast];omega
  have hx:a ||| b<2 ^ 8:=Nat.or_lt_two_pow zO zO
  show IntKind.u8.wrap (((BitVec.ofInt 8 (a:Int) ||| BitVec.ofInt 8 (b:Int)).toNat:Nat):Int)=_;rw[BitVec.toNat_or,e a ha,e b hb];simp[IntKind.wrap,IntKind.bits,IntKind.signed];omega
 rw[e];by_cases h:a=0/\b=0
 ·obtain⟨rfl,rfl⟩:=h;rfl
 ·have h2:a ||| b≠0:=by
   intro h3;have h4:a<=a ||| b:=Nat.left_le_or
   have h5:b<=a ||| b:=Nat.right_le_or
   exact h ⟨zO,zO⟩
  have h6:(decide (a=0) && decide (b=0))=false:=by
   rcases Nat.eq_zero_or_pos a with h7|h7
   ·have:b≠0:=fun h8=>h ⟨h7,h8⟩;simp[this]
   ·simp[show a≠0 by omega]
  rw[h6];simpa using fun h9:((a ||| b:Nat):Int)=0=>h2 zO
theorem last_at {S:Sto} (hS:ql S=true) {w:World} {B:Nat} {v:Value} (h:Bys w B v S.last):∃ b o c,v=.slice (some ⟨b,o,none⟩) 256 c/\b<B/\∀ a,a<256->w.cell? ⟨b,o+a,none⟩=some (.int .u8 (KH S a:Int)):=by obtain⟨-,-,-,hl⟩:=Qc hS;obtain⟨A,c,e,hc,hm,hr⟩:=h;obtain⟨b,o,rfl,hb,aC⟩:=hr.2 zO;rw[hl] at e;exact⟨b,o,c,e,hb,fun a ha=>aC a _ (by rw[List.getElem?_map,zL zO];unfold KH;rw[zL zO];rfl)⟩
set_option maxRecDepth 100000 in
theorem free_in (n:Nat) (hn:1<=n) (l bs n₀:Nat) (v1 v2 v3 v4:Value) (S:Sto) (hS:ql S=true) (J Jx:List Nat->World->Prop) (hY:∀ pre x W,J pre W->pre.length<256->YieldAt Fence.wide (n-1) prog l #[.int .i64 ((x:Nat):Int)] W fun e W'=>(e=.returned (.bool true)/\J (pre++[x]) W'/\Below n₀ W W')\/(e=.returned (.bool false)/\Jx (pre++[x]) W')) (hJ:∀ pre W W',J pre W->Ext W W'->J pre W') (W:World) (rV:bs<n₀) (hn₀:n₀<=W.heap.size) (aF:W.heap[bs]?=some (.cells #[v1,v2,v3,v4] 28 (0,0))) (aH:qV W n₀ v1 v2 v3 v4 S) (h0:J [] W):CallsIn Fence.wide n prog 187 #[.func (.yield l) #[] #[],.pointer (some ⟨bs,0,none⟩)] W fun e W'=>(∃ v,e=.returned v)/\((∃ ys,ys=Zh S/\J ys W')\/(∃ pre,pre <+: Zh S/\Jx pre W')):=by
 obtain⟨b3,o3,c3,rfl,dJ,tu⟩:=GE hS aH.now;obtain⟨b4,o4,c4,rfl,oP,yD⟩:=last_at hS aH.last;replace aH:=zH aH;refine callsIn_of_wp func187 rfl trivial ?_ rfl;simp only[ntmps187,List.size_toArray,List.length_cons,List.length_nil,Nat.reduceAdd,Nat.reduceSub,Array.replicate_succ,Array.replicate_zero,List.push_toArray,List.append_toArray,List.nil_append,List.cons_append]
 gi_wp2_with fail
 gi_loopw [3] (fun i wr=>∃ k:Nat,8<=k/\k<=256/\i=.int .i64 (k:Int)/\J (Js S k) wr/\Below n₀ W wr) (fun i _=>256-(intOf i).toNat)
 case atStart=>exact⟨8,zO,zO,rfl,by rw[freeTo_8];exact h0,Below.refl _ _⟩
 case round =>
  obtain⟨k,hk8,hk,rfl,iO,hB⟩:=hrel;have uo:=(hB.block bs rV).trans aF;by_cases hlt:k<256
  ·have uB:=(World.cell?_of_block (a:=⟨b3,o3+k,none⟩) (hB.block b3 dJ)).trans (tu k hlt);have hcy:=(World.cell?_of_block (a:=⟨b4,o4+k,none⟩) (hB.block b4 oP)).trans (yD k hlt);have gS:∀ W',qj.r wr W'->∀ i,W'.cell? ⟨bs,i,none⟩=#[v1,v2,.slice (some ⟨b3,o3,none⟩) 256 c3,.slice (some ⟨b4,o4,none⟩) 256 c4][i]?:=fun W' h=>qa (qb uo h);have gX:∀ W',qj.r wr W'->W'.cell? ⟨b3,o3+k,none⟩=some (.int .u8 (Zo S k:Int)):=fun W' h=>Ext.cell h uB;have gY:∀ W',qj.r wr W'->W'.cell? ⟨b4,o4+k,none⟩=some (.int .u8 (KH S k:Int)):=fun W' h=>Ext.cell h hcy;have lX:=zH (Xe S k);have ry:ZZ S k=(decide (Zo S k=0) && decide (KH S k=0)):=by unfold ZZ;simp[hk8]
   have hbz:(bits .or .u8 ((Zo S k:Nat):Int) ((KH S k:Nat):Int) == 0)=ZZ S k:=qjA _ _ (qjw S k) (qgj S k) ▸ ry.symm;generalize Zo S k=nw at *;generalize KH S k=lw at *;replace ry:=zH ry;replace tu:=zH tu;replace yD:=zH yD;replace uo:=zH uo;have hln:=zH (qhO S k);clear uB hcy;rcases Bool.eq_false_or_eq_true (ZZ S k) with hfr|hfr
   ·rw[hfr] at hbz;replace lX:=zH ((if_pos hfr) ▸ lX.out);replace hfr:=zH hfr
    gi_upto_region 3 with fail
    refine zY qj (qH []) (List.replicate 15 true) 3 wideF zQ zQ zQ zQ zQ zQ zQ zQ zQ ?st (Rel.drew _ _) ?walk
    case st=>intro i h hx;simp[qH] at hx
    case walk =>
     intro K hK;dsimp only[qu,List.replicate];refine zB6 ?_
     first
      |(refine qd (.pointer (some ⟨b3,o3+k,none⟩)) zA0 zA0 (fun W hW _=>⟨W,?_,Rel.refl _ W⟩) ?_
        ·go_simp;rw[IntWalk.i64_in (k:Int) zO,if_pos zO];simp
        simp only[Act.put,qm,qf,qc,qg,zA,zB,zC])
      |skip
     refine zB6 ?_
     first
      |(refine qd (.pointer (some ⟨b4,o4+k,none⟩)) zA0 zA0 (fun W hW _=>⟨W,?_,Rel.refl _ W⟩) ?_
        ·go_simp;rw[IntWalk.i64_in (k:Int) zO,if_pos zO];simp
        simp only[Act.put,qm,qf,qc,qg,zA,zB,zC])
      |skip
     refine zB6 ?_;refine qv (hK _ _ fun W2 hW hF=>?_);clear hF hK;refine zB5 ?_;obtain⟨fn,tm,asg,bdy,hy,hR⟩:=hY (Js S k) k W2 (hJ _ _ _ iO hW) (by have:=hln.out;omega)
     gi_wp2_with fail
     refine hR.mono ?_;rintro e W3 (⟨rfl,yX,nH⟩|⟨rfl,lm⟩)
     ·gi_wp2_with fail
      go_roundw
      case rel=>exact⟨k+1,zO,zO,by go_num,by rw[lX.out];exact yX,hB.trans ((Below.mono hW (Nat.le_trans hn₀ hB.size)).trans nH)⟩
      case measure=>simp[intOf];omega
     ·gi_wp2_with fail
      refine bodyPost_ret (results_none rfl _ _ _) rfl ?_;exact⟨⟨_,rfl⟩,.inr ⟨_,lX.out ▸ qbz S zO,lm⟩⟩
   ·rw[hfr] at hbz;replace lX:=zH ((if_neg (show ¬ZZ S k=true by rw[hfr];decide)) ▸ lX.out);replace hfr:=zH hfr
    gi_upto_region 3 with fail
    refine zY qj (qH []) (List.replicate 15 true) 3 wideF zQ zQ zQ zQ zQ zQ zQ zQ zQ ?st (Rel.drew _ _) ?walk
    case st=>intro i h hx;simp[qH] at hx
    case walk =>
     intro K hK;dsimp only[qu,List.replicate];refine zB6 ?_
     first
      |(refine qd (.pointer (some ⟨b3,o3+k,none⟩)) zA0 zA0 (fun W hW _=>⟨W,?_,Rel.refl _ W⟩) ?_
        ·go_simp;rw[IntWalk.i64_in (k:Int) zO,if_pos zO];simp
        simp only[Act.put,qm,qf,qc,qg,zA,zB,zC])
      |skip
     refine zB6 ?_
     first
      |(refine qd (.pointer (some ⟨b4,o4+k,none⟩)) zA0 zA0 (fun W hW _=>⟨W,?_,Rel.refl _ W⟩) ?_
        ·go_simp;rw[IntWalk.i64_in (k:Int) zO,if_pos zO];simp
        simp only[Act.put,qm,qf,qc,qg,zA,zB,zC])
      |skip
     refine zB6 ?_;refine qv (hK _ _ fun W2 hW hF=>?_);clear hF hK;refine zB5 ?_;refine⟨fun _ h=>(by cases h),?_⟩
     gi_wp2_with fail
     go_roundw
     case rel=>exact⟨k+1,zO,zO,by go_num,by rw[lX.out];exact hJ _ _ _ iO hW,hB.trans (Below.mono hW (Nat.le_trans hn₀ hB.size))⟩
     case measure=>simp[intOf];omega
  ·gi_wp2_with fail
   obtain rfl:k=256:=zO;go_end0;exact⟨⟨_,rfl⟩,.inl ⟨_,rfl,iO⟩⟩
end Go.Proofs.YtmeadnlmepcmbaaGreat
namespace Go.Proofs.YtmeadnlmepcmbaaGreat
open Go.RowKit
theorem Kx {F:Fence} {n:Nat} {P:Program} {ops:Array Oper} {l:List Oper} {a:Act} {w:World} {Q:Exit->Act->World->Prop} (h:QF (wpListIn F n P ops Q l a w)):wpListIn F n P ops Q l a w:=h
theorem Kw {F:Fence} {nf:Nat} {P:Program} (w:World) {ops:Array Oper} {rest:List Oper} {o:Oper} {a:Act} {Q:Exit->Act->World->Prop} (fK:o.guard=none) (s x:Operand) (t:TypeId) (ho:o.op=.call { callee:=.builtin .append,args:=#[s,x],argTypes:=#[t,t] }) (base:Nat) (e:TypeId) (i:TypeInfo) (z:Value) (size bytes:Nat) (ht:P.underlying t=some (.slice e)) (hi:P.info? e=some i) (hz:i.zero=some z) (eF:i.size=size) (aS:i.bytes=bytes) (tZ:z.cells.size=size) (hsz:0<size) (v:Value) (n:Nat) (xs:List Value) (hs:a.eval s=v) (aB:w.ownsRow base e size v n xs) (cs:Array Value) (hx:a.eval x=.slice (some ⟨w.heap.size,0,none⟩) 1 1) (hl:cs.size=size) (h1:∀ u∈cs.toList,u.oneCell'=true) (hn:n<1073741824) (dW:bytes<=65536) (mD:base<=w.heap.size) (h:∀ v' w',w'.ownsRow base e size v' (n+1) (xs++cs.toList)->w.grownBy w' v.ownBlock->(v'.ownBlock=v.ownBlock\/∃ g,v'.ownBlock=some g/\w.heap.size<=g)->wpListIn F nf P ops Q rest (a.put o.dst v') w'):wpListIn F nf P ops Q (o :: rest) a (w.alloc (.cells cs e)):=by
 refine wpListIn_plain fK fun K hK=>?_;have hb:(n+1)*bytes<=140737488355328:=Nat.le_trans (Nat.mul_le_mul_left _ dW) zO;have hm:n+1<=maxLen:=zA6;obtain⟨v',w',az,h2,h3,_,h5⟩:=run_append_own_at (P:=P) (w.alloc (.cells cs e)) base t o.type e i z size bytes ht hi hz eF aS tZ hsz v n xs (aB.alloc _) ⟨w.heap.size,0,none⟩ 1 1 cs.toList
  (by rw[Array.length_toList];omega) (YZ w cs e) h1 hm hb zA1
 have hg:w.grownBy w' v.ownBlock:=⟨h3.os,h3.tape,h3.output,Nat.le_trans zA2 h3.size,fun k hk aG=>(h3.block k zA1 aG).trans (zK w _ k hk)⟩
 unfold Oper.wpIn;refine⟨?_,?_⟩
 ·simp[Oper.about,ho,resolve,Target.leads,Sem.run_pure]
 ·rw[Oper.semAt_plain F _ _ (by rw[ho];intro c rY;cases rY)];simp only[execOp,ho,resolve,invoke,builtin,Sem.run_bind,Sem.run_pure,Result.andThen_ok,List.map_toArray,List.map_cons,List.map_nil,hs,hx,az];exact hK _ _ (h v' w' h2 hg (h5.imp id fun e=>⟨_,e,zA2⟩))
def RefsQ (S:Sto) (root next:Int) (dead:List Int) (w:World) (e:Ending) (w':World):Prop:=Below w.heap.size w w' /\
 ((e=.returned (.tuple #[.slice none 0 0,.int .i64 8])/\∀ vs,Qb S root next dead vs->∃ refs nodes,qR S (Qk root dead vs) refs nodes/\¬Qw S refs) \/
  ∃ vs refs nodes cb ca vv lo,e=.returned (.tuple #[.slice (some ⟨cb,6,none⟩) 256 256,.int .i64 0])/\w.heap.size<=lo/\Taken S root next dead vs refs nodes lo cb ca vv w')
theorem qgP {R:Ending->World->Prop} {a:Act} {W:World} {u v:Value} (h2:a.tmps[2]?.getD undef=u) (h3:a.tmps[3]?.getD undef=v) (hd:a.defers=[]) (hR:R (.returned (.tuple #[u,v])) W):bodyPost prog Tryz.f73 R .ret a W:=by refine bodyPost_ret (v:=.tuple #[u,v]) ?_ hd hR;simp[results,results73,go_sem,h2,h3]
set_option maxRecDepth 100000 in
theorem refs_any (A1 n1 c1 A2 n2 c2 A3 n3 c3 A4 n4 c4) (gen root next:Int) (A5 c5) (S:Sto) (dead:List Int) (w:World) (h:qV w w.heap.size (.slice A1 n1 c1) (.slice A2 n2 c2) (.slice A3 n3 c3) (.slice A4 n4 c4) S) (hd:Zv w w.heap.size (.slice A5 dead.length c5) dead):Calls prog 73 #[.agg (qF (.slice A1 n1 c1) (.slice A2 n2 c2) (.slice A3 n3 c3) (.slice A4 n4 c4) gen root next (.slice A5 dead.length c5))] w (RefsQ S root next dead w):=by
 have HT:=zH (fun W (hx:Ext w W)=>KR A1 n1 c1 A2 n2 c2 A3 n3 c3 A4 n4 c4 gen root next A5 c5 S dead W (h.ext hx) (by obtain⟨A,c,e,q1,q2,q3⟩:=hd;exact⟨A,c,e,q1,q2,(q3.below hx).more hx.size⟩));clear h hd;go_enter func73,ntmps73;go_wp2_with fail;generalize aA:World.alloc w _=w1;have x1:Ext w w1:=by rw[<-aA];exact zN _ _
 clear aA;refine(HT.out w1 x1).mono ?_;rintro e w2 ⟨hB,hQ⟩;have x2:Below w.heap.size w w2:=Ext.trans x1 hB;rcases hQ with ⟨rfl,aX⟩|⟨vs,refs,nodes,cb,ca,vv,rfl,hT⟩
 ·have HB:RefsQ S root next dead w (.returned (.tuple #[.slice none 0 0,.int .i64 8])) w2:=⟨x2,.inl ⟨rfl,aX⟩⟩
  replace HB:=zH HB;clear aX hB;go_wp2_with fail;exact qgP rfl rfl rfl HB.out
 ·have HB:RefsQ S root next dead w (.returned (.tuple #[.slice (some ⟨cb,6,none⟩) 256 256,.int .i64 0])) w2:=⟨x2,.inr ⟨vs,refs,nodes,cb,ca,vv,_,rfl,x1.size,hT⟩⟩
  replace HB:=zH HB;clear hT hB;go_wp2_with fail;exact qgP rfl rfl rfl HB.out
def VX (nodes:Nat->Nat) (k:Nat):List Nat:=(List.range k).filter fun a=>decide (0<nodes a)
theorem qio (nodes:Nat->Nat) (k:Nat):VX nodes (k+1)=if 0<nodes k then VX nodes k++[k] else VX nodes k:=by
 unfold VX;rw[List.range_succ,List.filter_append];by_cases h:0<nodes k
 ·rw[if_pos h];simp[h]
 ·rw[if_neg h];simp[h]
theorem qdC (nodes:Nat->Nat) (k:Nat):(VX nodes k).length<=k:=by unfold VX;exact Nat.le_trans (List.length_filter_le _ _) zA2
def qhu (S:Sto) (root next:Int) (dead:List Int) (w:World) (e:Ending) (w':World):Prop:=Below w.heap.size w w' /\
 ((e=.returned (.tuple #[.slice none 0 0,.int .i64 8])/\∀ vs,Qb S root next dead vs->∃ refs nodes,qR S (Qk root dead vs) refs nodes/\¬Qw S refs) \/
  ∃ vs refs nodes v lo,e=.returned (.tuple #[v,.int .i64 0])/\w.heap.size<=lo/\Qb S root next dead vs/\qR S (Qk root dead vs) refs nodes/\Qw S refs/\w'.ownsRow lo 3 1 v (VX nodes 256).length (Jo (VX nodes 256)))
structure N1 (nodes:Nat->Nat) (w2:World) (v i:Value) (wr:World):Prop where
 ex:∃ k:Nat,k<=256/\i=.int .i64 (k:Int)/\wr.ownsRow w2.heap.size 3 1 v (VX nodes k).length (Jo (VX nodes k))/\Ext w2 wr
theorem qdE {R:Ending->World->Prop} {a:Act} {W:World} {u v:Value} (h2:a.tmps[2]?.getD undef=u) (h3:a.tmps[3]?.getD undef=v) (hd:a.defers=[]) (hR:R (.returned (.tuple #[u,v])) W):bodyPost prog Tryz.f74 R .ret a W:=by refine bodyPost_ret (v:=.tuple #[u,v]) ?_ hd hR;simp[results,results74,go_sem,h2,h3]
set_option maxRecDepth 100000 in
theorem qkG (A1 n1 c1 A2 n2 c2 A3 n3 c3 A4 n4 c4) (gen root next:Int) (A5 c5) (S:Sto) (dead:List Int) (w:World) (h:qV w w.heap.size (.slice A1 n1 c1) (.slice A2 n2 c2) (.slice A3 n3 c3) (.slice A4 n4 c4) S) (hd:Zv w w.heap.size (.slice A5 dead.length c5) dead):Calls prog 74 #[.agg (qF (.slice A1 n1 c1) (.slice A2 n2 c2) (.slice A3 n3 c3) (.slice A4 n4 c4) gen root next (.slice A5 dead.length c5))] w (qhu S root next dead w):=by
 have HT:=zH (fun W (hx:Ext w W)=>KR A1 n1 c1 A2 n2 c2 A3 n3 c3 A4 n4 c4 gen root next A5 c5 S dead W (h.ext hx) (by obtain⟨A,c,e,q1,q2,q3⟩:=hd;exact⟨A,c,e,q1,q2,(q3.below hx).more hx.size⟩));clear h hd;go_enter func74,ntmps74;go_wp2_with fail;generalize aA:World.alloc w _=w1;have x1:Ext w w1:=by rw[<-aA];exact zN _ _
 clear aA;refine(HT.out w1 x1).mono ?_;rintro e w2 ⟨hB,hQ⟩;have x2:Below w.heap.size w w2:=Ext.trans x1 hB;rcases hQ with ⟨rfl,aX⟩|⟨vs,refs,nodes,cb,ca,vv,rfl,hT⟩
 ·have HB:qhu S root next dead w (.returned (.tuple #[.slice none 0 0,.int .i64 8])) w2:=⟨x2,.inl ⟨rfl,aX⟩⟩
  replace HB:=zH HB;clear aX hB;go_wp2_with fail;exact qdE rfl rfl rfl HB.out
 ·have hcc:∀ j v,(Xa nodes)[j]?=some v->w2.cell? ⟨cb,262+j,none⟩=some v:=fun j v hj=>by obtain⟨h1,rfl⟩:=qje hj;rw[qa hT.row];exact hT.ar.node j h1
  replace hT:=zH hT;clear hB;go_wp2_with (refine KZ rfl 94 (.tmp 17) rfl cb 262 rfl (Xa nodes) _ hcc underlying94 rfl (by rw[show (Xa nodes).length=256 by simp[Xa]];kernel_rfl) ?_);clear hcc;go_loopw [2,19] (fun v i wq=>N1 nodes w2 v i wq) (fun _ i _=>256-(intOf i).toNat)
  case atStart=>exact⟨0,zO,rfl,World.ownsRow_nil _ _ _ _,Ext.refl _⟩
  case round =>
   obtain⟨k,hk,rfl,own,xr⟩:=hrel.ex;clear hrel;by_cases hlt:k<256
   ·have hix:=Tn (cs:=(Xa nodes).toArray) hlt (v:=.int .i64 (nodes k)) (by rw[List.getElem?_toArray];exact qbm nodes hlt);have pF:=qdC nodes k;generalize (Xa nodes).toArray=arr at *;obtain⟨AR,cR,rfl,yx,yz⟩:=qE own;clear yx yz;replace own:=zH own;replace xr:=zH xr;have lX:=zH (qio nodes k);rcases Nat.eq_zero_or_pos (nodes k) with h0|h0
    ·have dE:decide ((nodes k:Int)>0)=false:=decide_eq_false zO;have bG:decide (0<nodes k)=false:=decide_eq_false zO;have IR:N1 nodes w2 (.slice AR (VX nodes k).length cR) (.int .i64 ((k:Int)+1)) wr:=⟨k+1,hlt,rfl,by rw[lX.out,if_neg zO];exact own.out,xr.out⟩
     replace IR:=zH IR;replace h0:=zH h0;go_wp2_with fail;refine⟨IR.out,?_⟩;simp[intOf];omega
    ·have dE:decide ((nodes k:Int)>0)=true:=decide_eq_true zO;have bG:decide (0<nodes k)=true:=decide_eq_true h0;obtain⟨i0,hi,ag,aV,aW⟩:=info_parts Tryz.info_int;replace pF:=zH pF;replace h0:=zH h0;go_wp2_with (at_builtin;refine Qh ?_);refine QF.go (js _ rfl (.tmp 25) (.tmp 27) 30 rfl w2.heap.size 3 i0 (.int .i64 0) 1 8 underlying30 hi ag aV aW rfl zD _ _ _ rfl own.out #[.int .i64 (k:Int)] rfl rfl zA7 (by have:=pF.out;omega) zD xr.out.size ?_);intro v8 w8 own8 _ yT _;have IR:N1 nodes w2 v8 (.int .i64 ((k:Int)+1)) w8:=⟨k+1,hlt,rfl,by rw[lX.out,if_pos h0.out,Ym,List.length_append,List.length_singleton];exact own8,Below.trans xr.out yT⟩
     replace IR:=zH IR;clear own8 yT hi ag aV aW;go_wp2_with fail;refine⟨IR.out,?_⟩;simp[intOf];omega
   ·obtain rfl:k=256:=zO;have HB:qhu S root next dead w (.returned (.tuple #[_,.int .i64 0])) wr:=⟨x2.trans (Below.mono xr x2.size),.inr ⟨vs,refs,nodes,_,w2.heap.size,rfl,x2.size,hT.out.pool,hT.out.cnt,hT.out.enough,own⟩⟩
    replace HB:=zH HB;replace own:=zH own;replace xr:=zH xr;go_wp2_with fail;exact qdE rfl rfl rfl HB.out
end Go.Proofs.YtmeadnlmepcmbaaGreat
namespace Go.Proofs.YtmeadnlmepcmbaaGreat
open Go.RowKit Go.Shelf
attribute [local go_sem] Oper.semAt_some
theorem qhP (n:Nat) (hn:1<=n) (bs n₀:Nat) (v1 v2 v3 v4:Value) (S:Sto) (hS:ql S=true) (w:World) (rV:bs<n₀) (hn₀:n₀<=w.heap.size) (aF:w.heap[bs]?=some (.cells #[v1,v2,v3,v4] 28 (0,0))) (aH:qV w n₀ v1 v2 v3 v4 S):SeqStopsK Fence.wide n prog 187 #[.pointer (some ⟨bs,0,none⟩)] (fun x:Nat=>#[.int .i64 (x:Int)]) (Below n₀) (fun ys=>ys=Zh S) (fun pre=>pre <+: Zh S) 256 w:=fun l J Jx W hW hJ _ hY h0 =>
 free_in n hn l bs n₀ v1 v2 v3 v4 S hS J Jx hY (fun pre W1 W2 h hx=>hJ pre W1 W2 none h ⟨hx.os,hx.tape,hx.output,hx.size,fun k hk _=>hx.block k hk⟩ (fun _ e=>by cases e)) W rV (Nat.le_trans hn₀ hW.size) ((hW.block bs (Nat.lt_of_lt_of_le rV hn₀)).trans aF) (aH.below (Below.mono hW hn₀)) h0
theorem US {w:World} {B:Nat} {e:TypeId} {size:Nat} {v:Value} {n:Nat} {xs:List Value} (h:w.ownsRow B e size v n xs):∀ g,v.ownBlock=some g->∃ c fz,w.heap[g]?=some (.cells c e fz):=by
 intro g hg;rcases h.2 with ⟨rfl,_⟩|⟨b,cap,cur,rfl,_,h2,_⟩
 ·simp[Value.ownBlock] at hg
 ·simp[Value.ownBlock] at hg;subst hg;exact⟨cur,(0,0),h2⟩
theorem own_down {w:World} {B B':Nat} {e:TypeId} {size:Nat} {v:Value} {n:Nat} {xs:List Value} (h:w.ownsRow B e size v n xs) (hb:B'<=B):w.ownsRow B' e size v n xs:=by
 rcases h with ⟨h1,h2|⟨g,cap,cur,e1,h3,h4⟩⟩
 ·exact⟨h1,.inl h2⟩
 ·exact⟨h1,.inr ⟨g,cap,cur,e1,zO,h4⟩⟩
theorem qeM {w:World} {B:Nat} {e:TypeId} {size:Nat} {v:Value} {n:Nat} {xs:List Value} (h:w.ownsRow B e size v n xs) {D:Nat} {o:Obj} (hD:w.heap[D]?=some o) (ho:o.isCells=false):v.ownBlock=none\/v.ownBlock≠some D:=by refine .inr fun hv=>?_;obtain⟨c,fz,h3⟩:=US h D hv;rw[hD] at h3;cases h3;cases ho
theorem qaa {B:Nat} {W W':World} {row:Option Nat} (hg:W.grownBy W' row) (hr:∀ g,row=some g->B<=g) (hB:B<=W.heap.size:=by omega):Below B W W':=(Below.refl _ _).grown hg hB (fun k e=>hr k e)
theorem qao {w w':World} {B:Nat} {e:TypeId} {size:Nat} {v:Value} {n:Nat} {xs:List Value} (h:w.ownsRow B e size v n xs) (hg:w.grownBy w' v.ownBlock):KeepsOthers w w':=⟨hg.size,fun k o hk ho=>(hg.block k (zG.1 hk).1 (fun e1=>by obtain⟨c,fz,h3⟩:=US h k e1.symm;rw[hk] at h3;cases h3;cases ho)).trans hk⟩
theorem qeK {B:Nat} (b base:Nat) (ty ety:TypeId):OwnFrom B (fun (pre:List Nat) W=>∃ v,W.heap[b]?=some (.cells #[v] ty (0,0))/\W.ownsRow base ety 1 v pre.length (Jo pre)):=fun s A C row ⟨v,h1,h2⟩ hg hr =>
 ⟨v,QC (β:=Unit) _ _ _ _ () A C row h1 hg hr,h2.kept hg (by
  rcases hv:v.ownBlock with _|g
  ·exact .inl rfl
  ·refine .inr fun e=>?_;obtain⟨_,o,ho,hc⟩:=hr g e.symm;rcases US h2 g hv with ⟨c,fz,h3⟩;rw[ho] at h3;cases h3;cases hc)⟩
set_option maxRecDepth 100000 in
theorem qed (n:Nat) (h3:3<=n) (bs:Nat) (v1 v2 v3 v4:Value) (S:Sto) (hS:ql S=true) (w:World) (rV:bs<w.heap.size) (aF:w.heap[bs]?=some (.cells #[v1,v2,v3,v4] 28 (0,0))) (aH:qV w w.heap.size v1 v2 v3 v4 S):CallsIn Fence.wide n prog 190 #[.slice none 0 0,.func (.func 187) #[] #[.pointer (some ⟨bs,0,none⟩)]] w fun e W'=>∃ v,e=.returned v/\Below w.heap.size w W'/\W'.ownsRow (w.heap.size+1) 3 1 v (Zh S).length (Jo (Zh S)):=by
 have h1:1<=n:=zO;refine callsIn_of_wp_marks func190 rfl trivial ?_ rfl;simp only[ntmps190,List.size_toArray,List.length_cons,List.length_nil,Nat.reduceAdd,Nat.reduceSub,Array.replicate_succ,Array.replicate_zero,List.push_toArray,List.append_toArray,List.nil_append,List.cons_append]
 gi_wp2_with fail
 have x1:Ext w (w.alloc (.cells #[.slice none 0 0] 30)):=zN _ _;obtain⟨i0,hi,ag,aV,aW⟩:=info_parts Tryz.info_int;refine wpIn_rangeFunc_ownH rfl h1 (gf:=187) (lb:=#[.pointer (some ⟨bs,0,none⟩)]) rfl trivial (enters_of func187 zQ rfl)
  (qhP (n-1) zO bs w.heap.size v1 v2 v3 v4 S hS _ rV zA2 (qb aF x1) (aH.below x1)) Below.trans (belowK_b zA2) (Below.refl _ _) (fun _=>rfl)
  (fun pre W=>(∃ v,W.heap[w.heap.size]?=some (.cells #[v] 30 (0,0))/\W.ownsRow (w.heap.size+1) 3 1 v pre.length (Jo pre))/\Below w.heap.size w W)
  (fun _ _ _=>False)
  (OwnFrom.and (qeK _ _ _ _) (ownFrom_below (zM _) zA2))
  (fun _ _ _ _ _ hs _ _=>hs)
  ⟨⟨.slice none 0 0,zI _ _ _ rfl,World.ownsRow_nil _ _ _ _⟩,x1⟩
  (fun x a' _=>a'={ tmps:=#[.slice none 0 0,.func (.func 187) #[] #[.pointer (some ⟨bs,0,none⟩)],.pointer (some ⟨w.heap.size,0,none⟩),undef,.slice none 0 0,.int .i64 (x:Int),.func (.func 187) #[] #[.pointer (some ⟨bs,0,none⟩)],.int .i64 (x:Int),undef,undef,undef,undef,undef],defers:=[] })
  (fun x a'=>Yz _ _) ?assign ?body ?done ?stop
 case assign =>
  rintro l pre x W K hI hK
  gi_wp2_with fail
  exact hK _ _ (KeepsFrom.refl _ _) (Below.refl _ _) hI rfl
 case body =>
  rintro l pre x a' W hl - ⟨⟨v,hr,aB⟩,hB⟩ rfl bM;have kr:=qa hr;have zb:w.heap.size<W.heap.size:=(zG.1 hr).1;have aG:v.ownBlock≠some w.heap.size:=fun e=>by have:=(QP aB _ e).1;omega
  obtain⟨Av,cv,rfl,-,-⟩:=qE aB
  gi_wp2_with (gi_at_builtin;refine Kx ?_)
  refine QF.go (Kw W rfl (.tmp 8) (.tmp 10) 30 rfl (w.heap.size+1) 3 i0 _ 1 8 underlying30 hi ag aV aW rfl zD (.slice Av pre.length cv) pre.length _ zE aB #[.int .i64 (x:Int)] zE rfl zA7 zO zD zO ?_);intro v' W3 dH hg fE;have hg0:∀ g,(Value.slice Av pre.length cv).ownBlock=some g->w.heap.size+1<=g:=fun g e=>(QP aB _ e).1;have rH:W3.heap[w.heap.size]?=_:=(hg.block _ zb (fun e=>aG e.symm)).trans hr;have kr3:=qa rH;have fr3:=qe rH;have tq:Below w.heap.size W W3:=qaa hg fun g e=>by have:=hg0 g e;omega
  have hg3:∀ g,v'.ownBlock=some g->w.heap.size+1<=g:=fun g e=>(QP dH _ e).1;have mP:KeepsOthers W W3:=qao aB hg;replace hg:=zH hg;replace aB:=zH aB;replace fE:=zH fE;obtain⟨Av',cv',rfl,-,-⟩:=qE dH;replace dH:=zH dH
  gi_wp2_with fail
  refine⟨(mP.trans (KeepsOthers.setCell _ _ _)).from _,tq.setCell (p:=⟨w.heap.size,0,none⟩) (zM _) _,⟨_,qi rH 0 _,?_⟩,hB.trans (tq.setCell (p:=⟨w.heap.size,0,none⟩) (zM _) _)⟩;rw[List.length_append,List.length_singleton,Ym];exact dH.out.kept (grownBy_setCell' _ _ _) (.inr fun e=>by have:=hg3 _ e;omega)
 case done =>
  rintro D ys W hD rfl ⟨⟨v,hr,aB⟩,hB⟩ hK;have kr:=qa hr
  gi_wp2_with fail
  refine⟨zA2,.inl ⟨_,_,rfl,run_takeDeferred hK,?_⟩⟩;exact⟨_,results_tmp rfl _ _ _,v,rfl,hB.trans (belowK_b (w:=w) (zM _) W D _ _ (by simp at hD;omega) hK rfl rfl),aB.kept (grownBy_putObj' W D _) (qeM aB hK rfl)⟩
 case stop =>rintro D c pre W _ _ h _;exact h.elim
def RFreeQ (S:Sto) (w:World) (e:Ending) (w':World):Prop:=Below w.heap.size w w' /\
 ((ql S=false/\e=.returned (.tuple #[.slice none 0 0,.int .i64 8]))\/(ql S=true/\∃ v,e=.returned (.tuple #[v,.int .i64 0])/\w'.ownsRow w.heap.size 3 1 v (Zh S).length (Jo (Zh S))))
set_option maxRecDepth 100000 in
theorem qfO (bs:Nat) (v1 v2 v3 v4:Value) (S:Sto) (hS:ql S=true) (w:World) (rV:bs<w.heap.size) (aF:w.heap[bs]?=some (.cells #[v1,v2,v3,v4] 28 (0,0))) (aH:qV w w.heap.size v1 v2 v3 v4 S):Calls prog 154 #[.func (.func 187) #[] #[.pointer (some ⟨bs,0,none⟩)]] w fun e W'=>∃ v,e=.returned v/\Below w.heap.size w W'/\W'.ownsRow (w.heap.size+1) 3 1 v (Zh S).length (Jo (Zh S)):=by
 go_enter func154,ntmps154;go_wp2_with fail;refine((callsIn_wide (n:=3)).1 (qed 3 zO bs v1 v2 v3 v4 S hS w rV aF aH)).mono ?_;rintro e w2 ⟨v,rfl,hB,aB⟩;obtain⟨A,c,rfl,-,-⟩:=qE aB;replace aB:=zH aB;go_wp2_with fail;go_ret;exact⟨_,rfl,hB,aB.out⟩
theorem qhN (A1 n1 c1 A2 n2 c2 A3 n3 c3 A4 n4 c4) (w:World):Calls prog 147 #[Qe A1 n1 c1 A2 n2 c2 A3 n3 c3 A4 n4 c4] w (fun e w'=>e=.returned (.func (.func 187) #[] #[.pointer (some ⟨w.heap.size,0,none⟩)])/\w'=w.alloc (.cells #[.slice A1 n1 c1,.slice A2 n2 c2,.slice A3 n3 c3,.slice A4 n4 c4] 28)):=by
 go_enter func147,ntmps147;go_wp2;go_ret;exact⟨rfl,rfl⟩
theorem qdR {R:Ending->World->Prop} {a:Act} {W:World} {u v:Value} (h2:a.tmps[2]?.getD undef=u) (h3:a.tmps[3]?.getD undef=v) (hd:a.defers=[]) (hR:R (.returned (.tuple #[u,v])) W):bodyPost prog Tryz.f100 R .ret a W:=by refine bodyPost_ret (v:=.tuple #[u,v]) ?_ hd hR;simp[results,results100,go_sem,h2,h3]
set_option maxRecDepth 100000 in
theorem GL (A1 n1 c1 A2 n2 c2 A3 n3 c3 A4 n4 c4) (S:Sto) (w:World) (h:qV w w.heap.size (.slice A1 n1 c1) (.slice A2 n2 c2) (.slice A3 n3 c3) (.slice A4 n4 c4) S):Calls prog 100 #[Qe A1 n1 c1 A2 n2 c2 A3 n3 c3 A4 n4 c4] w (RFreeQ S w):=by
 have HC:=zH (fun W (hx:Ext w W)=>JN A1 n1 c1 A2 n2 c2 A3 n3 c3 A4 n4 c4 S W (h.ext hx));replace h:=zH h;go_enter func100,ntmps100;go_wp2_with fail;generalize aA:(World.alloc w _)=w1;have x1:Ext w w1:=by rw[<-aA];exact zN _ _
 have r1:w1.heap[w.heap.size]?=some (.cells #[.slice A1 n1 c1,.slice A2 n2 c2,.slice A3 n3 c3,.slice A4 n4 c4] 28 (0,0)):=by rw[<-aA];exact zI _ _ _ rfl
 clear aA;refine(HC.out w1 x1).mono ?_;clear HC;rintro e w2 ⟨rfl,hB⟩;have x2:Ext w w2:=x1.trans hB;have r2:=qb r1 hB;have k2:=qa r2;clear hB r1 x1;rcases hS:ql S with _|_
 ·rw[JE rfl];replace hS:=zH hS;go_wp2_with fail;exact qdR rfl rfl rfl ⟨x2,.inl ⟨hS.out,rfl⟩⟩
 ·rw[vj rfl];go_wp2_with fail;refine(qhN A1 n1 c1 A2 n2 c2 A3 n3 c3 A4 n4 c4 w2).mono ?_;rintro e w3 ⟨rfl,rfl⟩;have x3:Ext w2 (w2.alloc (.cells #[.slice A1 n1 c1,.slice A2 n2 c2,.slice A3 n3 c3,.slice A4 n4 c4] 28)):=zN _ _;have r3:(w2.alloc (.cells #[.slice A1 n1 c1,.slice A2 n2 c2,.slice A3 n3 c3,.slice A4 n4 c4] 28)).heap[w2.heap.size]?=_:=zI _ _ _ rfl;have h3:=h.out.ext (x2.trans x3);generalize aO:w2.alloc _=w3 at *;have s3:w2.heap.size<w3.heap.size:=(zG.1 r3).1;go_wp2_with fail;refine(qfO w2.heap.size _ _ _ _ S hS w3 s3 r3 h3).mono ?_;rintro e w4 ⟨v,rfl,bT,aB⟩;obtain⟨A,c,rfl,-,-⟩:=qE aB;have HR:RFreeQ S w (.returned (.tuple #[.slice A (Zh S).length c,.int .i64 0])) w4:=⟨Ext.trans (x2.trans x3) bT,.inr ⟨hS,_,rfl,own_down aB (by have:=(x2.trans x3).size;omega)⟩⟩
  replace HR:=zH HR;replace aB:=zH aB;replace hS:=zH hS;clear aO r3 r2 k2;go_wp2_with fail;exact qdR rfl rfl rfl HR.out
end Go.Proofs.YtmeadnlmepcmbaaGreat
namespace Go.Proofs.YtmeadnlmepcmbaaGreat
open Go.RowKit
section
variable {F0:Fence} {P:Program} {ops:Array Oper} {n:Nat}
end


end Go.Proofs.YtmeadnlmepcmbaaGreat
namespace Go.Proofs.YtmeadnlmepcmbaaGreat
open Go.RowKit Go.Shelf
attribute [local go_sem] Oper.semAt_some
def zp (S:Sto):Nat:=(Zh S).headD 0
def JV (S:Sto) (a:Nat) (data:List UInt8):Sto:=⟨S.bs,S.ws++[((a:Int),data)],S.now.set a 1,S.last⟩
theorem KeepsOthers.of_ext {W W':World} (h:Ext W W'):KeepsOthers W W':=⟨h.size,fun k _ hk _=>(h.block k (zG.1 hk).1).trans hk⟩
theorem qce {w W:World} {x0 x1 x2 x3 y z:Value} {ty1 ty2 ty3:TypeId} {u0 u1 u2 u3 u5 u6:Value} (r4:W.heap[w.heap.size+2]?=some (.cells #[u0,u1,u2,u3] ty1 (0,0))) (r5:W.heap[w.heap.size+3]?=some (.cells #[u5] ty2 (0,0))) (r6:W.heap[w.heap.size+4]?=some (.cells #[u6] ty3 (0,0))) {C:World} (hC:C=((((((W.setCell ⟨w.heap.size+1+1,0,none⟩ x0).setCell ⟨w.heap.size+1+1,1,none⟩ x1).setCell ⟨w.heap.size+1+1,2,none⟩ x2).setCell ⟨w.heap.size+1+1,3,none⟩ x3).setCell ⟨w.heap.size+1+1+1,0,none⟩ y).setCell ⟨w.heap.size+1+1+1+1,0,none⟩ z)):C.heap[w.heap.size+2]?=some (.cells #[x0,x1,x2,x3] ty1 (0,0))/\C.heap[w.heap.size+3]?=some (.cells #[y] ty2 (0,0))/\C.heap[w.heap.size+4]?=some (.cells #[z] ty3 (0,0))/\(∀ {B:Nat} {w0:World},B<=w.heap.size+2->Below B w0 W->Below B w0 C)/\C.heap.size=W.heap.size/\(∀ k,w.heap.size+5<=k->C.heap[k]?=W.heap[k]?)/\KeepsOthers W C:=by
 subst hC;have hs:=fun (A:World) (b j:Nat) (v:Value) (k:Nat) (hk:k≠b)=>zJ A ⟨b,j,none⟩ v k hk;refine⟨?_,?_,?_,fun hB h=>?_,zA2,fun k hk=>?_,?_⟩
 ·rw[hs _ _ _ _ _ zO,hs _ _ _ _ _ zO];exact VC r4 x0 x1 x2 x3
 ·rw[hs _ _ _ _ _ zO];refine qi (t:=ty2) (cs:=#[u5]) ?_ 0 y;rw[hs _ _ _ _ _ zO,hs _ _ _ _ _ zO,hs _ _ _ _ _ zO,hs _ _ _ _ _ zO];exact r5
 ·refine qi (t:=ty3) (cs:=#[u6]) ?_ 0 z;rw[hs _ _ _ _ _ zO,hs _ _ _ _ _ zO,hs _ _ _ _ _ zO,hs _ _ _ _ _ zO,hs _ _ _ _ _ zO];exact r6
 ·exact Below.setCell (Below.setCell (Zl h (b:=w.heap.size+1+1) zO x0 x1 x2 x3) (p:=⟨w.heap.size+1+1+1,0,none⟩) zA1 _) (p:=⟨w.heap.size+1+1+1+1,0,none⟩) zA1 _
 ·rw[hs _ _ _ _ _ zO,hs _ _ _ _ _ zO,hs _ _ _ _ _ zO,hs _ _ _ _ _ zO,hs _ _ _ _ _ zO,hs _ _ _ _ _ zO]
 ·exact(((((KeepsOthers.setCell _ _ _).trans (KeepsOthers.setCell _ _ _)).trans (KeepsOthers.setCell _ _ _)).trans (KeepsOthers.setCell _ _ _)).trans (KeepsOthers.setCell _ _ _)).trans (KeepsOthers.setCell _ _ _)
end Go.Proofs.YtmeadnlmepcmbaaGreat
