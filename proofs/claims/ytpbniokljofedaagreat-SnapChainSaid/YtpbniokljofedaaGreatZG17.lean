/- Texts ShareR, LooseR, Bch, FreeI, FreeIt, PushI, Refs, Nodes, joined. -/
import Derived.OrdersIn
import Derived.TacticsIn
import Derived.CallsIn
import Derived.RangeFuncKeeps
import Derived.RangeFuncBound
import Derived.RangeFuncLeaves
import Derived.Shelf.Abstract
import Derived.OwnWalkIn
import Derived.TacticsInMore
import Derived.Sort.CutIn
import Derived.Test.YtpbniokljofedaaGreatZG01
import Derived.Test.YtpbniokljofedaaGreatZG06
import Derived.Test.YtpbniokljofedaaGreatZG10
import Derived.Test.YtpbniokljofedaaGreatZG13
import Derived.Test.YtpbniokljofedaaGreatZG16
set_option linter.unusedSimpArgs false
set_option linter.unusedVariables false
set_option maxHeartbeats 8000000
open Go.Proofs.Tryz
namespace Go.Proofs.YtpbniokljofedaaGreat
open Go.RowKit
set_option maxRecDepth 100000 in
theorem up_any (A:Option Addr) (n c:Nat) (t:List UInt8) (a:Int) (w:World) (h:Bys w w.heap.size (.slice A n c) t):Calls prog 159 #[.slice A n c,.int .i64 a] w (Za (qeI t a 1 255 w.heap.size) w):=by
 have HT:=zH (turn_any A n c t a 1 255 w h);clear h;go_enter func159,ntmps159;go_wp2_with fail;refine HT.out.mono ?_;clear HT;rintro e w2 ⟨u,rfl,hu,hB⟩;rcases hu with ⟨h1,rfl⟩|⟨h1,A',c',rfl,aB⟩
 ·have iW:Ext w w2:=hB;have hQ:=zH (⟨_,rfl,.inl ⟨h1,rfl⟩,iW⟩:Za (qeI t a 1 255 w.heap.size) w (.returned (.tuple #[.slice none 0 0,.int .i64 (Yw t a 255)])) w2);generalize Yw t a 255=er at *;replace h1:=zH h1;go_wp2_with fail;refine bodyPost_ret (v:=.tuple #[.slice none 0 0,.int .i64 er]) ?_ rfl hQ.out;simp[results,results159,go_sem]
 ·have iW:Ext w w2:=hB;have hQ:=zH (⟨_,rfl,.inr ⟨h1,A',c',rfl,aB⟩,iW⟩:Za (qeI t a 1 255 w.heap.size) w (.returned (.tuple #[.slice A' 256 c',.int .i64 0])) w2);replace h1:=zH h1;go_wp2_with fail;refine bodyPost_ret (v:=.tuple #[.slice A' 256 c',.int .i64 0]) ?_ rfl hQ.out;simp[results,results159,go_sem]
abbrev qy (S:Sto) (t:List UInt8):Sto:=⟨S.bs,S.ws,t,S.last⟩
abbrev sto0:Value:=Qd none 0 0 none 0 0 none 0 0 none 0 0
def QO (S:Sto) (a:Int):Int:=if JJ S a≠0 then JJ S a else if Zj S a.toNat=255 then 70 else 0
def StoQ (e:Int) (S:Sto) (lo:Nat) (u:Value) (W:World):Prop:=(e≠0/\u=.tuple #[sto0,.int .i64 e])\/(e=0/\∃ v,u=.tuple #[v,.int .i64 0]/\QP lo S v W)
theorem zu {S:Sto} (h:qm S=true):Gu S:=by
 obtain⟨h1,h2,h3,h4⟩:=Qc h;have hd:jD S.bs S.ws=true:=by unfold qm at h;simp at h;exact h.1
 obtain⟨d1,d2,d3,d4⟩:=qcb hd;exact⟨d1,d2,d3,d4,zO,zO⟩
theorem qih {S:Sto} (h:qm S=true):Qn S.now=true:=by unfold qm at h;simp at h;exact h.2.1
theorem Gn {R:Ending->World->Prop} {a:Act} {W:World} {b:Nat} {x0 x1 x2 x3 v:Value} (h4:a.tmps[4]?.getD undef=.pointer (some ⟨b,0,none⟩)) (h5:a.tmps[5]?.getD undef=v) (hd:a.defers=[]) (aF:W.heap[b]?=some (.cells #[x0,x1,x2,x3] 28 (0,0))) (hR:R (.returned (.tuple #[.agg #[x0,x1,x2,x3],v])) W):bodyPost prog Tryz.f117 R .ret a W:=by
 refine bodyPost_ret (v:=.tuple #[.agg #[x0,x1,x2,x3],v]) ?_ hd hR;have k:=qa aF;simp[results,results117,go_sem,h4,h5,k]
set_option maxRecDepth 100000 in
theorem qbC (A1:Option Addr) (n1 c1:Nat) (A2:Option Addr) (n2 c2:Nat) (A3:Option Addr) (n3 c3:Nat) (A4:Option Addr) (n4 c4:Nat) (S:Sto) (a:Int) (w:World) (h:qU w w.heap.size (.slice A1 n1 c1) (.slice A2 n2 c2) (.slice A3 n3 c3) (.slice A4 n4 c4) S):Calls prog 117 #[Qd A1 n1 c1 A2 n2 c2 A3 n3 c3 A4 n4 c4,.int .i64 a] w (Za (StoQ (QO S a) (qy S (jo S.now a.toNat 1)) w.heap.size) w):=by
 have HA:=zH (fun W (hx:Ext w W)=>qbw A1 n1 c1 A2 n2 c2 A3 n3 c3 A4 n4 c4 S a W (h.ext hx));have HU:=zH (fun W (hx:Ext w W)=>up_any A3 n3 c3 S.now a W (h.ext hx).now);replace h:=zH h;go_enter func117,ntmps117;go_wp2_with fail;generalize aA:(World.alloc (World.alloc w _) _)=w1;have x1:Ext w w1:=by rw[<-aA];exact(zN _ _).trans (zN _ _)
 have tX:w1.heap[w.heap.size]?=some (.cells #[.slice A1 n1 c1,.slice A2 n2 c2,.slice A3 n3 c3,.slice A4 n4 c4] 28 (0,0)):=by rw[<-aA];exact(zK _ _ _ zA2).trans (zI _ _ _ rfl)
 have iP:w1.heap[w.heap.size+1]?=some (.cells #[.slice none 0 0,.slice none 0 0,.slice none 0 0,.slice none 0 0] 28 (0,0)):=by rw[<-aA];exact zI _ _ _ zA2
 clear aA;refine(HA.out w1 x1).mono ?_;clear HA;rintro e w2 ⟨rfl,hB⟩;have x2:Ext w w2:=x1.trans hB;have xh:=qb tX hB;have dA:=qb iP hB;clear hB tX iP x1;by_cases h0:JJ S a=0
 ·obtain⟨hS,m,rfl,wJ,dw,lV⟩:=Xp h0;have hE:QO S (m:Int)=if Zj S m=255 then 70 else 0:=by unfold QO;rw[if_neg (by simpa using h0),Int.toNat_natCast]
  have hT:Yw S.now (m:Int) 255=if Zj S m=255 then 70 else 0:=qgt (qih hS) wJ dw 255
  have fK:=zH (zu hS);rw[h0];have ks2:=qa xh;replace h0:=zH h0;replace hS:=zH hS;rw[<-hE] at hT;replace hE:=zH hE;clear lV;go_wp2_with fail;refine(HU.out w2 x2).mono ?_;clear HU;rintro e w3 ⟨u,rfl,hu,hB⟩;have x3:Ext w w3:=x2.trans hB;have rs3:=qb xh hB;have dY:=qb dA hB;have ks3:=qa rs3;have z23:=hB.size;clear hB xh dA ks2;unfold qeI at hu;rw[hT] at hu;rcases hu with ⟨h1,rfl⟩|⟨h1,A',c',rfl,aB⟩
  ·generalize QO S (m:Int)=er at *;have he:(er != 0)=true:=by rw[bne_iff_ne];exact h1
   have hq:=zH h1;have ko3:=qa dY;have fo3:=qe dY;clear h1 hT;go_wp2_with fail;exact Gn (b:=w.heap.size+1) rfl rfl rfl (Vm dY _ _ _ _) ⟨_,rfl,.inl ⟨hq.out,rfl⟩,Zf x3 zO _ _ _ _⟩
  ·have aQ:=Bys.of_own aB;have HTW:=qdn A1 n1 c1 A2 n2 c2 A' 256 c' A4 n4 c4 (qy S (jo S.now m 1)) ⟨fK.out.bs,fK.out.ws,fK.out.be,fK.out.we,by rw[qil];exact fK.out.now,fK.out.last⟩ w3 ⟨(h.out.ext x3).bs,(h.out.ext x3).ws,aQ,(h.out.ext x3).last⟩;replace aQ:=zH aQ;replace aB:=zH aB;replace h1:=zH h1;go_wp2_with fail;refine HTW.mono ?_;clear HTW;rintro e w4 ⟨u,rfl,hu,hB⟩;have x4:Ext w w4:=x3.trans hB;have fE:=qb dY hB;have ko4:=qa fE;have fo4:=qe fE;have zo3:w.heap.size+1<w3.heap.size:=(zG.1 dY).1;obtain⟨BB,WW,g,B3,d3,B4,d4,rfl,hD,hN,hL⟩:=hu;have hK:=fun (x0 x1 x2 x3':Value)=>QP.keep (lo':=w.heap.size) (⟨BB,WW,g,B3,d3,B4,d4,rfl,hD,hN,hL⟩:QP w3.heap.size (qy S (jo S.now m 1)) _ w4) (W2:=(((w4.setCell ⟨w.heap.size+1,0,none⟩ x0).setCell ⟨w.heap.size+1,1,none⟩ x1).setCell ⟨w.heap.size+1,2,none⟩ x2).setCell ⟨w.heap.size+1,3,none⟩ x3') zO zA2 (fun b hb _=>(zJ _ _ _ _ zA1).trans ((zJ _ _ _ _ zA1).trans ((zJ _ _ _ _ zA1).trans (zJ _ _ _ _ zA1))));replace hK:=zH hK;clear hB hD hN hL ks3 rs3 dY;go_wp2_with fail;exact Gn (b:=w.heap.size+1) rfl rfl rfl (Vm fE _ _ _ _) ⟨_,rfl,.inr ⟨h1.out,_,rfl,hK.out _ _ _ _⟩,Zf x4 zO _ _ _ _⟩
 ·have hE:QO S a=JJ S a:=by unfold QO;rw[if_pos h0]
  generalize JJ S a=er at *;have he:(er != 0)=true:=by rw[bne_iff_ne];exact h0
  have hq:=zH h0;have ko2:=qa dA;have fo2:=qe dA;replace hE:=zH hE;clear h0;go_wp2_with fail;exact Gn (b:=w.heap.size+1) rfl rfl rfl (Vm dA _ _ _ _) ⟨_,rfl,.inl ⟨by rw[hE.out];exact hq.out,by rw[hE.out];rfl⟩,Zf x2 zO _ _ _ _⟩
def kZ (t:List UInt8) (a:Nat):List UInt8:=t.set a (UInt8.ofNat (qZ t a-1))
theorem qjs {n:Nat} (h:0<n) (h2:n<256):IntKind.u8.wrap ((n:Int)-1)=(((UInt8.ofNat (n-1)).toNat:Nat):Int):=by rw[<-qer];congr 1;omega
theorem qaM {R:Ending->World->Prop} {a:Act} {W:World} {v:Value} (h4:a.tmps[4]?.getD undef=v) (hd:a.defers=[]) (hR:R (.returned v) W):bodyPost prog Tryz.f133 R .ret a W:=by refine bodyPost_ret (v:=v) ?_ hd hR;simp[results,results133,go_sem,h4]
theorem qcJ {R:Ending->World->Prop} {a:Act} {W:World} {b:Nat} {x0 x1 x2 x3 v:Value} (h4:a.tmps[4]?.getD undef=.pointer (some ⟨b,0,none⟩)) (h5:a.tmps[5]?.getD undef=v) (hd:a.defers=[]) (aF:W.heap[b]?=some (.cells #[x0,x1,x2,x3] 28 (0,0))) (hR:R (.returned (.tuple #[.agg #[x0,x1,x2,x3],v])) W):bodyPost prog Tryz.f130 R .ret a W:=by
 refine bodyPost_ret (v:=.tuple #[.agg #[x0,x1,x2,x3],v]) ?_ hd hR;have k:=qa aF;simp[results,results130,go_sem,h4,h5,k]
theorem QP.set4 {lo lo' b:Nat} {S:Sto} {u:Value} {W:World} (h:QP lo S u W) (hl:lo'<=lo) (hb:b<lo) (x0 x1 x2 x3:Value):QP lo' S u ((((W.setCell ⟨b,0,none⟩ x0).setCell ⟨b,1,none⟩ x1).setCell ⟨b,2,none⟩ x2).setCell ⟨b,3,none⟩ x3):=
 h.keep hl zA2 fun b' hb' _=>(zJ _ _ _ _ zA1).trans ((zJ _ _ _ _ zA1).trans ((zJ _ _ _ _ zA1).trans (zJ _ _ _ _ zA1)))
def Qh (X:Nat->Prop) (w C:World):Prop:=∀ (q:Addr) (v:Value),¬X q.block->w.cell? q=some v->C.cell? q=some v
section
variable {X Y:Nat->Prop} {w W C:World}
theorem Qh.refl (X:Nat->Prop) (w:World):Qh X w w:=fun _ _ _ h=>h
theorem Qh.of_ext (h:Ext w C):Qh X w C:=fun _ _ _ hv=>Ext.cell h hv
theorem Qh.trans (h:Qh X w W) (h':Qh Y W C) (hY:∀ k,k<w.heap.size->Y k->X k):Qh X w C:=fun q v hX hv=>h' q v (fun hy=>hX (hY _ (World.block_lt_of_cell? w q hv) hy)) (h q v hX hv)
theorem Qh.mono (h:Qh X w C) (hX:∀ k,k<w.heap.size->X k->Y k):Qh Y w C:=fun q v hY hv=>h q v (fun hx=>hY (hX _ (World.block_lt_of_cell? w q hv) hx)) hv
theorem Qh.of_heap (h:∀ k,k<w.heap.size->¬X k->C.heap[k]?=w.heap[k]?):Qh X w C:=fun q v hX hv=>(World.cell?_of_block (h _ (World.block_lt_of_cell? w q hv) hX)).trans hv
theorem Rd.keepX {B size n:Nat} {A:Option Addr} {xs:List Value} (h:Rd w B size A n xs) (hs:0<size) (hk:Qh X w C) (hX:∀ k,k<B->¬X k):Rd C C.heap.size size A n xs:=⟨h.1,fun hn=>by
 obtain⟨b,off,e,hb,hc⟩:=h.2 hn;refine⟨b,off,e,?_,fun j u hu=>hk _ _ (hX b hb) (hc j u hu)⟩;have hl:0<xs.length:=by rw[h.1];exact Nat.mul_pos hn hs
 exact World.block_lt_of_cell? C ⟨b,off+0,none⟩ (hk _ _ (hX b hb) (hc 0 _ (zL hl)))⟩
theorem Bys.keepX {B:Nat} {v:Value} {l:List UInt8} (h:Bys w B v l) (hk:Qh X w C) (hX:∀ k,k<B->¬X k):Bys C C.heap.size v l:=by obtain⟨A,c,e,hc,hm,hr⟩:=h;exact⟨A,c,e,hc,hm,hr.keepX zO hk hX⟩
end
def kh (X:Nat->Prop) (w:World) (v:Value) (xs:List It):Prop:=∀ C,Qh X w C->Its C C.heap.size v xs
theorem kh.now {X:Nat->Prop} {w:World} {v:Value} {xs:List It} (h:kh X w v xs):Its w w.heap.size v xs:=h w (Qh.refl _ _)
theorem kh.trans {X Y:Nat->Prop} {w W:World} {v:Value} {xs:List It} (h:kh X w v xs) (hk:Qh X w W) (hY:∀ k,k<w.heap.size->Y k->X k):kh Y W v xs:=fun C hC=>h C (hk.trans hC hY)
theorem Zr {w w':World} {base size n:Nat} {e:TypeId} {v:Value} {xs:List Value} (h:w.ownsRow base e size v n xs) (hk:∀ q,v.ownBlock=some q->w'.heap[q]?=w.heap[q]?):w'.ownsRow base e size v n xs:=
 ⟨h.1,h.2.imp id fun ⟨g,cap,cur,e1,h3,h4,h5⟩=>⟨g,cap,cur,e1,h3,(hk g (by rw[e1];rfl)).trans h4,h5⟩⟩
theorem ja {w:World} {base size n:Nat} {e:TypeId} {v:Value} {xs:List Value} (h:w.ownsRow base e size v n xs) {q:Nat} (hq:v.ownBlock=some q):∃ cur,w.heap[q]?=some (.cells cur e (0,0)):=by
 rcases h.2 with ⟨e1,_⟩|⟨g,cap,cur,e1,_,hg,_⟩
 ·rw[e1] at hq;cases hq
 ·rw[e1] at hq;cases hq;exact⟨cur,hg⟩
def B3 (b g:Nat) (k:Option Nat) (q:Nat):Prop:=q=b\/q=g\/k=some q
def XY (B:Nat) (D:Nat->Prop) (q:Nat):Prop:=B<=q/\¬D q
theorem XY.keep {B:Nat} {D:Nat->Prop} {w W:World} (h:∀ q,q<w.heap.size->q<B\/D q->W.heap[q]?=w.heap[q]?):Qh (XY B D) w W:=Qh.of_heap fun q hq hX=>h q hq (by
 by_cases hB:q<B
 ·exact .inl hB
 ·right;by_cases hD:D q
  ·exact hD
  ·exact absurd ⟨zO,hD⟩ hX)
def Yx (n:Nat) (D D':Nat->Prop):Prop:=∀ q,D' q->D q\/n<=q
theorem Yx.refl (n:Nat) (D:Nat->Prop):Yx n D D:=fun _ h=>.inl h
theorem Yx.mono {n n':Nat} {D D':Nat->Prop} (h:Yx n D D') (hn:n'<=n):Yx n' D D':=fun q hq=>(h q hq).imp id fun h=>zO
theorem Yx.trans {n n':Nat} {D D' D'':Nat->Prop} (h:Yx n D D') (h':Yx n' D' D'') (hn:n<=n'):Yx n D D'':=fun q hq=>(h' q hq).elim (fun h1=>h q h1) fun h1=>.inr zO
structure Qe (lo b g:Nat) (k:Option Nat) (w W:World):Prop where
 below:Below lo w W
 rows:∀ q,q<w.heap.size->¬B3 b g k q->W.heap[q]?=w.heap[q]?
def Zx (n:Nat) (k k':Option Nat):Prop:=∀ q,k'=some q->k=some q\/n<=q
theorem Zx.refl (n:Nat) (k:Option Nat):Zx n k k:=fun _ h=>.inl h
theorem Zx.mono {n n':Nat} {k k':Option Nat} (h:Zx n k k') (hn:n'<=n):Zx n' k k':=fun q hq=>(h q hq).imp id fun h=>zO
theorem Zx.trans {n n':Nat} {k k' k'':Option Nat} (h:Zx n k k') (h':Zx n' k' k'') (hn:n<=n'):Zx n k k'':=fun q hq=>(h' q hq).elim (fun h1=>h q h1) fun h1=>.inr zO
section
variable {lo b g:Nat} {k k':Option Nat} {w W C:World}
theorem Qe.refl (lo b g:Nat) (k:Option Nat) (w:World):Qe lo b g k w w:=⟨Below.refl _ _,fun _ _ _=>rfl⟩
theorem Qe.of_ext (h:Ext w W) (hl:lo<=w.heap.size):Qe lo b g k w W:=⟨Below.mono h hl,fun q hq _=>Below.block h q hq⟩
theorem Qe.trans (h:Qe lo b g k w W) (h':Qe lo b g k' W C) (hk:Zx w.heap.size k k'):Qe lo b g k w C:=⟨h.below.trans h'.below,fun q hq hn=>(h'.rows q (by have:=h.below.size;omega) fun hx=>hn (by
 rcases hx with e|e|e
 ·exact .inl e
 ·exact .inr (.inl e)
 ·exact(hk q e).elim (fun h=>.inr (.inr h)) fun h=>zO)).trans (h.rows q hq hn)⟩
theorem Qe.keepX (h:Qe lo b g k w W):Qh (B3 b g k) w W:=Qh.of_heap fun q hq hX=>h.rows q hq hX
theorem Qe.own (h:Qe lo b g k w W) {base n size:Nat} {e:TypeId} {v:Value} {xs:List Value} (ho:w.ownsRow base e size v n xs) (hn:∀ q,v.ownBlock=some q->¬B3 b g k q):W.ownsRow base e size v n xs:=Zr ho fun q hq=>h.rows q (QM ho q hq).2 (hn q hq)
theorem Qe.row (h:Qe lo b g k w W) {q:Nat} {o:Obj} (hr:w.heap[q]?=some o) (hn:¬B3 b g k q):W.heap[q]?=some o:=(h.rows q (zG.1 hr).1 hn).trans hr
theorem B3.of_new (hk:Zx w.heap.size k k'):∀ q,q<w.heap.size->B3 b g k' q->B3 b g k q:=fun q hq hx=>by
 rcases hx with e|e|e
 ·exact .inl e
 ·exact .inr (.inl e)
 ·exact(hk q e).elim (fun h=>.inr (.inr h)) fun h=>zO
end
def WsB (D:Nat->Prop) (B lo b g:Nat) (k:Option Nat) (v:Value) (ws:List (Int×List UInt8)) (w:World):Prop:=∃ ps:List ((Int×List UInt8)×Value),ps.map (·.1)=ws /\
 ((k=none/\ws.length<=maxLen/\∃ A,v=.slice A ws.length ws.length/\Rd w B 2 A ws.length (ZT ps))\/(∃ q,k=some q/\v.ownBlock=some q/\w.ownsRow lo 130 2 v ws.length (ZT ps))) /\
 ∀ p∈ps,(∃ A c,p.2=.slice A p.1.2.length c)/\∀ C,Qh (XY B D) w C->Bys C C.heap.size p.2 p.1.2
theorem WsB.ext {D:Nat->Prop} {B lo b g:Nat} {k:Option Nat} {v:Value} {ws:List (Int×List UInt8)} {w W:World} (h:WsB D B lo b g k v ws w) (hx:Ext w W) (hB:B<=w.heap.size):WsB D B lo b g k v ws W:=by
 obtain⟨ps,e,hw,hp⟩:=h;refine⟨ps,e,?_,fun p af=>⟨(hp p af).1,fun C hC=>(hp p af).2 C ((Qh.of_ext hx).trans hC fun _ _ h=>h)⟩⟩;rcases hw with ⟨e,hm,A,e2,hr⟩|⟨q,e,e2,how⟩
 ·exact .inl ⟨e,hm,A,e2,hr.below (Below.mono hx hB)⟩
 ·exact .inr ⟨q,e,e2,Zr how fun q' lX=>Below.block hx q' (QM how q' lX).2⟩
theorem WsB.mono {D D':Nat->Prop} {B lo b g:Nat} {k:Option Nat} {v:Value} {ws:List (Int×List UInt8)} {w:World} (h:WsB D B lo b g k v ws w) (hD:∀ q,D q->D' q):WsB D' B lo b g k v ws w:=by obtain⟨ps,e,hw,hp⟩:=h;exact⟨ps,e,hw,fun p af=>⟨(hp p af).1,fun C hC=>(hp p af).2 C (hC.mono fun q _ hx=>⟨hx.1,fun h=>hx.2 (hD q h)⟩)⟩⟩
structure Bch (D:Nat->Prop) (B lo b g:Nat) (k:Option Nat) (S:Sto) (w:World):Prop where
 lob:lo<=b
 blo:B<=lo
 dB:∀ q,D q->lo<=q/\q<w.heap.size/\¬B3 b g k q
 ex:∃ A1 n1 c1 v2 c3 A4 c4,w.heap[b]?=some (.cells #[.slice A1 n1 c1,v2,.slice (some ⟨g,0,none⟩) 256 c3,.slice A4 256 c4] 191 (0,0))/\w.ownsRow lo 5 1 (.slice (some ⟨g,0,none⟩) 256 c3) 256 (S.now.map bv) /\
  WsB D B lo b g k v2 S.ws w/\Bls w B (.slice A1 n1 c1) S.bs/\Bys w B (.slice A4 256 c4) S.last
section
variable {D:Nat->Prop} {B lo b g:Nat} {k:Option Nat} {S:Sto} {w W:World}
theorem Bch.size (h:Bch D B lo b g k S w):lo<=b/\b<w.heap.size/\lo<=g/\g<w.heap.size/\g≠b/\lo<=w.heap.size/\∀ q,k=some q->lo<=q/\q<w.heap.size/\q≠b/\q≠g:=by
 have h1:=h.lob;obtain⟨A1,n1,c1,v2,c3,A4,c4,hr,ho,⟨ps,_,hw,_⟩,_,_⟩:=h.ex;have hb:=(zG.1 hr).1;obtain⟨_,_,yj,hzg⟩:=Zu ho;obtain⟨cur,hg⟩:=ja ho (q:=g) rfl;refine⟨h1,hb,yj,hzg,qR hg hr zD,zO,fun q hq=>?_⟩;rcases hw with ⟨e,_⟩|⟨q',e,e2,how⟩
 ·rw[e] at hq;cases hq
 ·rw[e] at hq;cases hq;obtain⟨cur2,og⟩:=ja how e2;have:=QM how _ e2;exact⟨this.1,this.2,qR og hr zD,qR og hg zD⟩
theorem Bch.b3 (h:Bch D B lo b g k S w):∀ q,B3 b g k q->lo<=q/\q<w.heap.size:=fun q hq=>by
 obtain⟨h1,h2,h3,h4,_,_,h5⟩:=h.size;rcases hq with rfl|rfl|e
 ·exact⟨h1,h2⟩
 ·exact⟨h3,h4⟩
 ·exact⟨(h5 q e).1,(h5 q e).2.1⟩
theorem Bch.off (h:Bch D B lo b g k S w):∀ q,q<B->¬B3 b g k q:=fun q hq hx=>by have h1:=h.blo;have:=(h.b3 q hx).1;omega
theorem Bch.offk (h:Bch D B lo b g k S w):∀ q,B3 b g k q->¬(q<B\/D q):=fun q hx hq=>hq.elim (fun h1=>h.off q h1 hx) fun h1=>(h.dB q h1).2.2 hx
theorem Bch.keep (h:Bch D B lo b g k S w) (hB:Below B w W) (hr:∀ q,B3 b g k q\/D q->W.heap[q]?=w.heap[q]?):Bch D B lo b g k S W:=by
 have hs:=hB.size;have hx:Qh (XY B D) w W:=XY.keep fun q hq h1=>h1.elim (fun h1=>hB.block q h1) fun h1=>hr q (.inr h1);obtain⟨A1,n1,c1,v2,c3,A4,c4,xO,ho,⟨ps,e,hw,hp⟩,h1,h4⟩:=h.ex;refine⟨h.lob,h.blo,fun q hq=>⟨(h.dB q hq).1,by have:=(h.dB q hq).2.1;omega,(h.dB q hq).2.2⟩,A1,n1,c1,v2,c3,A4,c4,(hr _ (.inl (.inl rfl))).trans xO,Zr ho (fun q hq=>by cases hq;exact hr _ (.inl (.inr (.inl rfl)))),⟨ps,e,?_,fun p af=>⟨(hp p af).1,fun C hC=>(hp p af).2 C (hx.trans hC fun _ _ h=>h)⟩⟩,h1.below hB,h4.below hB⟩;rcases hw with ⟨e,hm,A,e2,hr⟩|⟨q,e,e2,how⟩
 ·exact .inl ⟨e,hm,A,e2,hr.below hB⟩
 ·exact .inr ⟨q,e,e2,Zr how fun q' lX=>by rw[e2] at lX;cases lX;exact hr q (.inl (.inr (.inr e)))⟩
theorem Bch.ext (h:Bch D B lo b g k S w) (hx:Ext w W):Bch D B lo b g k S W:=by have h6:=h.size.2.2.2.2.2.1;have h1:=h.blo;exact h.keep (Below.mono hx zO) fun q hq=>Below.block hx q (hq.elim (fun h2=>(h.b3 q h2).2) fun h2=>(h.dB q h2).2.1)
theorem Bch.keepX {X:Nat->Prop} (h:Bch D B lo b g k S w) (hB:Below B w W) (hr:∀ q,q<w.heap.size->¬X q->W.heap[q]?=w.heap[q]?) (hX:∀ q,B3 b g k q\/D q->¬X q):Bch D B lo b g k S W:=
 h.keep hB fun q hq=>hr q (hq.elim (fun h2=>(h.b3 q h2).2) fun h2=>(h.dB q h2).2.1) (hX q hq)
theorem Bch.mono {D':Nat->Prop} (h:Bch D B lo b g k S w) (hD:∀ q,D q->D' q) (hB:∀ q,D' q->lo<=q/\q<w.heap.size/\¬B3 b g k q):Bch D' B lo b g k S w:=by obtain⟨A1,n1,c1,v2,c3,A4,c4,xO,ho,hw,h1,h4⟩:=h.ex;exact⟨h.lob,h.blo,hB,A1,n1,c1,v2,c3,A4,c4,xO,ho,hw.mono hD,h1,h4⟩
theorem Bch.count (h:Bch D B lo b g k S w) {a:Nat} (ha:a<256) (x:UInt8):Bch D B lo b g k (qy S (S.now.set a x)) (w.setCell ⟨g,a,none⟩ (bv x))/\Qe lo b g k w (w.setCell ⟨g,a,none⟩ (bv x)):=by
 obtain⟨mF,_,yj,_,hgb,_,h5⟩:=h.size;have dJ:=h.blo;have hkd:=h.offk;obtain⟨A1,n1,c1,v2,c3,A4,c4,hr,ho,⟨ps,e,hw,hp⟩,h1,h4⟩:=h.ex;have hK:Qe lo b g k w (w.setCell ⟨g,a,none⟩ (bv x)):=⟨Below.setCell (Below.refl _ _) (p:=⟨g,a,none⟩) yj _,fun q _ hn=>zJ _ _ _ _ fun e=>hn (.inr (.inl e))⟩
 have hX:Qh (XY B D) w (w.setCell ⟨g,a,none⟩ (bv x)):=XY.keep fun q _ hq=>zJ _ _ _ _ fun e=>hkd g (.inr (.inl rfl)) (by have e':q=g:=e;exact e' ▸ hq);have hB:Below B w (w.setCell ⟨g,a,none⟩ (bv x)):=Below.setCell (Below.refl _ _) (p:=⟨g,a,none⟩) (by show B<=g;omega) _;refine⟨⟨mF,dJ,fun q hq=>by simpa using h.dB q hq,A1,n1,c1,v2,c3,A4,c4,(zJ _ _ _ _ fun e=>hgb e.symm).trans hr,qaB ho ha x,⟨ps,e,?_,fun p af=>⟨(hp p af).1,fun C hC=>(hp p af).2 C (hX.trans hC fun _ _ h=>h)⟩⟩,h1.below hB,h4.below hB⟩,hK⟩;rcases hw with ⟨e,hm,A,e2,hr⟩|⟨q,e,e2,how⟩
 ·exact .inl ⟨e,hm,A,e2,hr.below hB⟩
 ·exact .inr ⟨q,e,e2,Zr how fun q' lX=>by rw[e2] at lX;cases lX;exact zJ _ _ _ _ (h5 q e).2.2.2⟩
theorem qfb (ps:List ((Int×List UInt8)×Value)) (p:(Int×List UInt8)×Value):ZT (ps++[p])=ZT ps++[.int .i64 p.1.1,p.2]:=by
 induction ps with
 |nil=>rfl
 |cons a r ih=>simp[ZT,ih]
theorem Bch.sto (h:Bch D B lo b g k S w):∃ A1 n1 c1 A2 n2 c2 c3 A4 c4,w.heap[b]?=some (.cells #[.slice A1 n1 c1,.slice A2 n2 c2,.slice (some ⟨g,0,none⟩) 256 c3,.slice A4 256 c4] 191 (0,0))/\qU w w.heap.size (.slice A1 n1 c1) (.slice A2 n2 c2) (.slice (some ⟨g,0,none⟩) 256 c3) (.slice A4 256 c4) S:=by
 have h6:=h.size.2.2.2.2.2.1;have dJ:=h.blo;obtain⟨A1,n1,c1,v2,c3,A4,c4,hr,ho,⟨ps,e,hw,hp⟩,h1,h4⟩:=h.ex;have hv:∃ A2 n2 c2,v2=.slice A2 n2 c2/\Wrs w w.heap.size (.slice A2 n2 c2) S.ws:=by
  rcases hw with ⟨_,hm,A,rfl,oh⟩|⟨q,_,_,how⟩
  ·exact⟨A,_,_,rfl,ps,e,⟨A,_,rfl,zM _,hm,oh.more zO⟩,fun p af=>⟨(hp p af).1,(hp p af).2 w (Qh.refl _ _)⟩⟩
  ·obtain⟨A,c,rfl,dV,bP⟩:=qz how;exact⟨A,_,_,rfl,ps,e,⟨A,c,rfl,dV,bP,Rd.of_own how⟩,fun p af=>⟨(hp p af).1,(hp p af).2 w (Qh.refl _ _)⟩⟩
 obtain⟨A2,n2,c2,rfl,hW⟩:=hv;exact⟨A1,n1,c1,A2,n2,c2,c3,A4,c4,hr,h1.more zO,hW,Bys.of_own ho,h4.more zO⟩
end
structure qeK (F:Fence):Prop where
 fn:∀ f,F.fn f
 depth:¬F.depth.isSome=true
 call:∀ {n:Nat} {P:Program} {f:FuncId} {args:Array Value} {w:World} {R:Ending->World->Prop},Calls P f args w R->CallsIn F n P f args w R
theorem wideF:qeK Fence.wide:=⟨fun _=>trivial,fun h=>(by cases h),fun h=>callsIn_wide.2 h⟩
theorem vW (l:Nat):qeK (Fence.wide.inRound l):=⟨fun _=>trivial,fun h=>(by cases h),fun h=>CallsIn.inRound l (callsIn_wide.2 h)⟩
def qax (ops:Array Oper):Bool:=ops.toList.all fun o=>match o.op with | .defer _=>false|_=>true
theorem Ug {ops:Array Oper} (h:qax ops=true) {i:Nat} {o:Oper} (ho:ops[i]?=some o):∀ c,o.op≠.defer c:=by intro c hc;have h1:=List.all_eq_true.1 h o (by have:=Array.mem_of_getElem? ho;simpa using this);rw[hc] at h1;cases h1
section
variable {F:Fence} {P:Program} {ops:Array Oper} {n:Nat}
theorem qai {Q':Exit->Act->World->Prop}:∀ (l:List Oper) (k:Nat) (listed:Array Bool) (a:Act) (W:World),(∀ j,j<l.length->l[j]?=ops[k+j]?)->Gm ops l.length k listed=true->wpListIn F n P ops Q' l a W->wpAnyIn F n P .any ops Q' l.length listed a W
 | [],_,_,_,_,_,hB,h=>⟨by simpa [Gm] using hB,h⟩
 |o :: l,k,listed,a,W,hl,hB,h=>by
  simp only[List.length_cons,Gm,Bool.and_eq_true] at hB;obtain⟨hr,iW⟩:=hB;have nM:Region.ready .any ops listed=[k]:=by simpa using hr
  have h0:ops[k]?=some o:=by simpa using (hl 0 zA2).symm
  refine⟨fun e=>(by rw[nM] at e;cases e),fun i hi=>?_⟩;rw[nM] at hi;obtain rfl:i=k:=by simpa using hi
  have hl':∀ j,j<l.length->l[j]?=ops[i+1+j]?:=fun j hj=>by have:=hl (j+1) (by simpa using hj);simpa [Nat.add_assoc,Nat.add_comm 1 j] using this
  refine wpOpIn_mono (fun a w hw=>qai l (i+1) _ a w hl' iW hw) ?_;unfold wpOpIn;simp only[h0];exact h
end
section
variable {F0:Fence} {R:Rel} {P:Program} {ops:Array Oper} {w0:World} {n:Nat}
theorem qar (HF:qeK F0) (HN:qax ops=true) {H:Nat->Option Qa} {i:Nat} {o:Oper} {a:Act} {F:qP} {K:Act->qP->Prop} {K':Act->World->Prop} {Q':Exit->Act->World->Prop} {W:World} (hi:ops[i]?=some o) (hH:∀ i h,H i=some h->∀ p,qJ R (h.φ p)) (aI:∀ k,qJ R (F k)) (hW:R.r w0 W) (hF:∀ k,F k W) (hK:∀ a' F' W',K a' F'->(∀ k,qJ R (F' k))->R.r w0 W'->(∀ k,F' k W')->K' a' W') (h:FOpG R P ops w0 H i o K a F):wpOpIn F0 n P ops Q' i K' a W:=by
 obtain⟨hh,hok,hn⟩:=h;have go:∀ p W',R.r W W'->hh.φ p W'->K' (a.put o.dst (hh.f p)) W':=fun p W' he hφ=>by
  have mQ:∀ k,upd F i o (hh.φ p) k W':=fun k=>by
   unfold upd;split
   ·exact⟨hφ,fun j _=>aI j _ _ he (hF j)⟩
   ·exact aI k _ _ he (hF k)
  exact hK _ _ W' (hn p ⟨W',R.trans hW he,mQ⟩) (ZN aI i o (hok.stable hH p)) (R.trans hW he) mQ
 unfold wpOpIn;simp only[hi];rcases hok with ⟨x1,rfl⟩|⟨x1,x2,v,rfl,x3⟩|⟨x1,x2,x3⟩
 ·simp only[x1,Bool.false_eq_true,if_false];exact⟨fun f _=>HF.fn f,go () W (R.refl W) trivial⟩
 ·simp only[x1,if_true];obtain⟨w',hr,he⟩:=x3 W hW fun k _=>hF k;refine⟨fun f _=>HF.fn f,?_⟩;rw[Oper.semAt_eq _ _ _ (Ug HN hi),hr];exact go () w' he trivial
 ·simp only[x1,if_true];have h3:=x3 W hW fun k _=>hF k;unfold QK at h3;refine⟨fun f _=>HF.fn f,?_⟩;rw[Oper.semAt_eq _ _ _ (Ug HN hi)];generalize (execOp a.eval o).run P W=r at *;cases r with
  |ok m w' =>
   cases m <;> simp only[ZW] at h3 <;> simp only[Oper.uponIn]
   case value u =>obtain⟨p,rfl,hp,he⟩:=h3;exact go p w' he hp
   case skip =>
    obtain⟨p,e,hp,he⟩:=h3;have:=go p w' he hp
    rwa [<-e] at this
   case enter f args =>obtain⟨he,ai⟩:=h3;refine⟨fun h=>absurd h HF.depth,HF.call (ai.mono fun e w'' ⟨p,he1,hp,fJ⟩=>?_)⟩;subst he1;exact go p w'' (R.trans he fJ) hp
  |halt x w'=>simp only[ZW] at h3
theorem KF (HF:qeK F0) (HN:qax ops=true) {H:Nat->Option Qa} (hH:∀ i h,H i=some h->∀ p,qJ R (h.φ p)) {L:Array Bool} {t:Nat} {Q:Act->qP->Prop} {Q':Exit->Act->World->Prop} (hQ:∀ a F W,Q a F->R.r w0 W->(∀ k,F k W)->wpAnyIn F0 n P .any ops Q' t L a W) : ∀ (fuel:Nat) (listed:Array Bool) (a:Act) (F:qP) (W:World),(∀ k,qJ R (F k))->R.r w0 W->(∀ k,F k W)->Vp R P ops w0 H L Q fuel listed a F->wpAnyIn F0 n P .any ops Q' (fuel+t) listed a W
 |0,listed,a,F,W,_,hW,hF,h=>by rw[h.1,Nat.zero_add];exact hQ a F W h.2 hW hF
 |fuel+1,listed,a,F,W,aI,hW,hF,h=>by rw[show fuel+1+t=fuel+t+1 by omega];refine⟨fun h0=>absurd h0 h.1,fun i hi=>?_⟩;obtain⟨_,o,ho,_⟩:=mem_ready.1 hi;exact qar HF HN ho hH aI hW hF (fun a' F' W' hk lY ak mQ=>KF HF HN hH hQ fuel _ a' F' W' lY ak mQ hk) (h.2 i hi o ho)
theorem zy {id:Nat} {l:List Oper} {Q:Exit->Act->World->Prop} {a:Act} {w:World} (R:Rel) (H:Nat->Option Qa) (M:List Bool) (t:Nat) (HF:qeK F0) (HN:qax l.toArray=true) (hm:P.follows .mixedOrders=true) (hs:Region.noSelect l.toArray=true) (ht:qgr l.toArray (QX l.length (l.length-t)) ((qt 0 l M).map (·.1))=true) (dU:Xr l.toArray (Array.replicate l.length false)=true) (hB:ZJ l.toArray (QX l.length (l.length-t)) ((qt 0 l M).map (·.1)) (Array.replicate l.length false)=true) (nN:Gm l.toArray t (l.length-t) (QX l.length (l.length-t))=true) (hfu:l.length=(qt 0 l M).length+t) (nO:(l.drop (l.length-t)).length=t) (hH:∀ i h,H i=some h->∀ p,qJ R (h.φ p)) (hW:R.r w w.drew) (h:∀ K:Act->qP->Prop,(∀ a' F',(∀ W,R.r w W->(∀ k,F' k W)->wpListIn F0 n P l.toArray Q (l.drop (l.length-t)) a' W)->K a' F')->ZS R P l.toArray w H K (qt 0 l M) a (fun _ _=>True)):(Code.region id l.toArray true).wpIn F0 n P Q a w:=by
 have h:=h _ (fun a' F' hh=>hh);refine wpIn_region_any hm ?_;have key:=Xn (w0:=w) hH hs (fun _ _ h=>h.step) (TA ht) (qt 0 l M) (Array.replicate l.length false) a (fun _ _=>True) (Vg dU) (fun x hx=>by obtain⟨j,h1,h2⟩:=Vj l M 0 x hx;refine⟨?_,List.mem_map.2 ⟨x,hx,rfl⟩⟩;rw[h1,Nat.zero_add];simpa using h2) hB (fun _ _ _ _ _=>trivial) ⟨w.drew,hW,fun _=>trivial⟩ (fun _ _ _=>trivial) h;have:=KF (n:=n) (w0:=w) HF HN hH (t:=t) (Q':=Q) (fun a F W hq hW hF=>by
  have:=qai (F:=F0) (n:=n) (l.drop (l.length-t)) (l.length-t) _ a W (fun j _=>by rw[List.getElem?_drop];simp) (by rw[nO];exact nN) (hq W hW hF)
  rwa [nO] at this) _ _ _ _ w.drew (fun _ _ _ _ _=>trivial) hW (fun _=>trivial) key
 rw[<-hfu] at this;simpa using this
end
end Go.Proofs.YtpbniokljofedaaGreat
namespace Go.Proofs.YtpbniokljofedaaGreat
open Go.RowKit Go.Shelf
attribute [local go_sem] Oper.semAt_some
def Ks (S:Sto) (a:Nat):Nat:=(S.last[a]?.getD 0).toNat
def ZV (S:Sto) (a:Nat):Bool:=decide (8<=a) && (decide (Zj S a=0) && decide (Ks S a=0))
def Jc (S:Sto) (k:Nat):List Nat:=(List.range k).filter (ZV S)
def Zb (S:Sto):List Nat:=Jc S 256
theorem YQ (S:Sto) (k:Nat):Jc S (k+1)=if ZV S k=true then Jc S k++[k] else Jc S k:=by
 unfold Jc;rw[List.range_succ,List.filter_append];by_cases h:ZV S k=true
 ·rw[if_pos h];simp[h]
 ·rw[if_neg h];simp[h]
theorem qhf (S:Sto) (k:Nat):(Jc S k).length<=k:=Nat.le_trans (List.length_filter_le _ _) zA2
theorem freeTo_8 (S:Sto):Jc S 8=[]:=by
 unfold Jc;rw[List.filter_eq_nil_iff];intro a ha;have:a<8:=by simpa using ha
 unfold ZV;simp[show ¬8<=a by omega]
theorem qaV (S:Sto) {k m:Nat} (h:k<=m):Jc S k <+: Jc S m:=by
 induction m with
 |zero =>
  obtain rfl:k=0:=zO;exact List.prefix_refl _
 |succ m ih =>
  rcases Nat.lt_or_ge m k with h1|h1
  ·obtain rfl:k=m+1:=zO;exact List.prefix_refl _
  ·refine(ih h1).trans ?_;rw[YQ];split
   ·exact List.prefix_append _ _
   ·exact List.prefix_refl _
theorem qiT (S:Sto) (a:Nat):Zj S a<256:=UInt8.toNat_lt _
theorem qfD (S:Sto) (a:Nat):Ks S a<256:=UInt8.toNat_lt _
theorem qiX (a b:Nat) (ha:a<256) (hb:b<256):(bits .or .u8 (a:Int) (b:Int) == 0)=(decide (a=0) && decide (b=0)):=by
 have e:bits .or .u8 (a:Int) (b:Int)=((a ||| b:Nat):Int):=by
  have e:∀ n:Nat,n<256->(BitVec.ofInt 8 (n:Int)).toNat=n:=fun n hn=>by simp[BitVec.ofInt_natCast];omega
  have hx:a ||| b<2 ^ 8:=Nat.or_lt_two_pow zO zO
  show IntKind.u8.wrap (((BitVec.ofInt 8 (a:Int) ||| BitVec.ofInt 8 (b:Int)).toNat:Nat):Int)=_;rw[BitVec.toNat_or,e a ha,e b hb];simp[IntKind.wrap,IntKind.bits,IntKind.signed];omega
 rw[e];by_cases h:a=0/\b=0
 ·obtain⟨rfl,rfl⟩:=h;rfl
 ·have h2:a ||| b≠0:=by
   intro h3;have h4:a<=a ||| b:=Nat.left_le_or
   have h5:b<=a ||| b:=Nat.right_le_or
   exact h ⟨zO,zO⟩
  have h6:(decide (a=0) && decide (b=0))=false:=by
   rcases Nat.eq_zero_or_pos a with h7|h7
   ·have:b≠0:=fun h8=>h ⟨h7,h8⟩;simp[this]
   ·simp[show a≠0 by omega]
  rw[h6];simpa using fun h9:((a ||| b:Nat):Int)=0=>h2 zO
theorem last_at {S:Sto} (hS:qm S=true) {w:World} {B:Nat} {v:Value} (h:Bys w B v S.last):∃ b o c,v=.slice (some ⟨b,o,none⟩) 256 c/\b<B/\∀ a,a<256->w.cell? ⟨b,o+a,none⟩=some (.int .u8 (Ks S a:Int)):=by obtain⟨-,-,-,hl⟩:=Qc hS;obtain⟨A,c,e,hc,hm,hr⟩:=h;obtain⟨b,o,rfl,hb,aC⟩:=hr.2 zO;rw[hl] at e;exact⟨b,o,c,e,hb,fun a ha=>aC a _ (by rw[List.getElem?_map,zL zO];unfold Ks;rw[zL zO];rfl)⟩
set_option maxRecDepth 100000 in
theorem free_in (n:Nat) (hn:1<=n) (l bs n₀:Nat) (v1 v2 v3 v4:Value) (S:Sto) (hS:qm S=true) (J Jx:List Nat->World->Prop) (hY:∀ pre x W,J pre W->pre.length<256->YieldAt Fence.wide (n-1) prog l #[.int .i64 ((x:Nat):Int)] W fun e W'=>(e=.returned (.bool true)/\J (pre++[x]) W'/\Below n₀ W W')\/(e=.returned (.bool false)/\Jx (pre++[x]) W')) (hJ:∀ pre W W',J pre W->Ext W W'->J pre W') (W:World) (uD:bs<n₀) (hn₀:n₀<=W.heap.size) (aF:W.heap[bs]?=some (.cells #[v1,v2,v3,v4] 28 (0,0))) (aI:qU W n₀ v1 v2 v3 v4 S) (h0:J [] W):CallsIn Fence.wide n prog 175 #[.func (.yield l) #[] #[],.pointer (some ⟨bs,0,none⟩)] W fun e W'=>(∃ v,e=.returned v)/\((∃ ys,ys=Zb S/\J ys W')\/(∃ pre,pre <+: Zb S/\Jx pre W')):=by
 obtain⟨b3,o3,c3,rfl,dK,wG⟩:=Gc hS aI.now;obtain⟨b4,o4,c4,rfl,rO,hc4⟩:=last_at hS aI.last;replace aI:=zH aI;refine callsIn_of_wp func175 rfl trivial ?_ rfl;simp only[ntmps175,List.size_toArray,List.length_cons,List.length_nil,Nat.reduceAdd,Nat.reduceSub,Array.replicate_succ,Array.replicate_zero,List.push_toArray,List.append_toArray,List.nil_append,List.cons_append]
 gi_wp2_with fail
 gi_loopw [3] (fun i wr=>∃ k:Nat,8<=k/\k<=256/\i=.int .i64 (k:Int)/\J (Jc S k) wr/\Below n₀ W wr) (fun i _=>256-(intOf i).toNat)
 case atStart=>exact⟨8,zO,zO,rfl,by rw[freeTo_8];exact h0,Below.refl _ _⟩
 case round =>
  obtain⟨k,hk8,hk,rfl,iQ,hB⟩:=hrel;have xO:=(hB.block bs uD).trans aF;by_cases hlt:k<256
  ·have wI:=(World.cell?_of_block (a:=⟨b3,o3+k,none⟩) (hB.block b3 dK)).trans (wG k hlt);have hcy:=(World.cell?_of_block (a:=⟨b4,o4+k,none⟩) (hB.block b4 rO)).trans (hc4 k hlt);have gS:∀ W',qj.r wr W'->∀ i,W'.cell? ⟨bs,i,none⟩=#[v1,v2,.slice (some ⟨b3,o3,none⟩) 256 c3,.slice (some ⟨b4,o4,none⟩) 256 c4][i]?:=fun W' h=>qa (qb xO h);have gX:∀ W',qj.r wr W'->W'.cell? ⟨b3,o3+k,none⟩=some (.int .u8 (Zj S k:Int)):=fun W' h=>Ext.cell h wI;have gY:∀ W',qj.r wr W'->W'.cell? ⟨b4,o4+k,none⟩=some (.int .u8 (Ks S k:Int)):=fun W' h=>Ext.cell h hcy;have mG:=zH (YQ S k);have y9:ZV S k=(decide (Zj S k=0) && decide (Ks S k=0)):=by unfold ZV;simp[hk8]
   have hbz:(bits .or .u8 ((Zj S k:Nat):Int) ((Ks S k:Nat):Int) == 0)=ZV S k:=qiX _ _ (qiT S k) (qfD S k) ▸ y9.symm;generalize Zj S k=nw at *;generalize Ks S k=lw at *;replace y9:=zH y9;replace wG:=zH wG;replace hc4:=zH hc4;replace xO:=zH xO;have hln:=zH (qhf S k);clear wI hcy;rcases Bool.eq_false_or_eq_true (ZV S k) with hfr|hfr
   ·rw[hfr] at hbz;replace mG:=zH ((if_pos hfr) ▸ mG.out);replace hfr:=zH hfr
    gi_upto_region 3 with fail
    refine zy qj (qH []) (List.replicate 15 true) 3 wideF zQ zQ zQ zQ zQ zQ zQ zQ zQ ?st (Rel.drew _ _) ?walk
    case st=>intro i h hx;simp[qH] at hx
    case walk =>
     intro K hK;dsimp only[qt,List.replicate];repeat ((first|(refine qd ?_ zA0 zA0 (fun W hW _=>⟨W,?_,Rel.refl _ W⟩) ?_;rotate_left;(go_simp<;>with_reducible rfl))|(refine qh zA0 ?_));try simp only[Act.put,ql,qg,qc,qf,zA,zB,zC])
     first
      |(refine qd (.pointer (some ⟨b3,o3+k,none⟩)) zA0 zA0 (fun W hW _=>⟨W,?_,Rel.refl _ W⟩) ?_
        ·go_simp;rw[IntWalk.i64_in (k:Int) zO,if_pos zO];simp
        simp only[Act.put,ql,qg,qc,qf,zA,zB,zC])
      |skip
     repeat ((first|(refine qd ?_ zA0 zA0 (fun W hW _=>⟨W,?_,Rel.refl _ W⟩) ?_;rotate_left;(go_simp<;>with_reducible rfl))|(refine qh zA0 ?_));try simp only[Act.put,ql,qg,qc,qf,zA,zB,zC])
     first
      |(refine qd (.pointer (some ⟨b4,o4+k,none⟩)) zA0 zA0 (fun W hW _=>⟨W,?_,Rel.refl _ W⟩) ?_
        ·go_simp;rw[IntWalk.i64_in (k:Int) zO,if_pos zO];simp
        simp only[Act.put,ql,qg,qc,qf,zA,zB,zC])
      |skip
     repeat ((first|(refine qd ?_ zA0 zA0 (fun W hW _=>⟨W,?_,Rel.refl _ W⟩) ?_;rotate_left;(go_simp<;>with_reducible rfl))|(refine qh zA0 ?_));try simp only[Act.put,ql,qg,qc,qf,zA,zB,zC])
     refine qv (hK _ _ fun W2 hW hF=>?_);clear hF hK;refine zB5 ?_;obtain⟨fn,tm,asg,bdy,hy,hR⟩:=hY (Jc S k) k W2 (hJ _ _ _ iQ hW) (by have:=hln.out;omega)
     gi_wp2_with fail
     refine hR.mono ?_;rintro e W3 (⟨rfl,hJ3,oC⟩|⟨rfl,mV⟩)
     ·gi_wp2_with fail
      go_roundw
      case rel=>exact⟨k+1,zO,zO,by go_num,by rw[mG.out];exact hJ3,hB.trans ((Below.mono hW (Nat.le_trans hn₀ hB.size)).trans oC)⟩
      case measure=>simp[intOf];omega
     ·gi_wp2_with fail
      refine bodyPost_ret (results_none rfl _ _ _) rfl ?_;exact⟨⟨_,rfl⟩,.inr ⟨_,mG.out ▸ qaV S zO,mV⟩⟩
   ·rw[hfr] at hbz;replace mG:=zH ((if_neg (show ¬ZV S k=true by rw[hfr];decide)) ▸ mG.out);replace hfr:=zH hfr
    gi_upto_region 3 with fail
    refine zy qj (qH []) (List.replicate 15 true) 3 wideF zQ zQ zQ zQ zQ zQ zQ zQ zQ ?st (Rel.drew _ _) ?walk
    case st=>intro i h hx;simp[qH] at hx
    case walk =>
     intro K hK;dsimp only[qt,List.replicate];repeat ((first|(refine qd ?_ zA0 zA0 (fun W hW _=>⟨W,?_,Rel.refl _ W⟩) ?_;rotate_left;(go_simp<;>with_reducible rfl))|(refine qh zA0 ?_));try simp only[Act.put,ql,qg,qc,qf,zA,zB,zC])
     first
      |(refine qd (.pointer (some ⟨b3,o3+k,none⟩)) zA0 zA0 (fun W hW _=>⟨W,?_,Rel.refl _ W⟩) ?_
        ·go_simp;rw[IntWalk.i64_in (k:Int) zO,if_pos zO];simp
        simp only[Act.put,ql,qg,qc,qf,zA,zB,zC])
      |skip
     repeat ((first|(refine qd ?_ zA0 zA0 (fun W hW _=>⟨W,?_,Rel.refl _ W⟩) ?_;rotate_left;(go_simp<;>with_reducible rfl))|(refine qh zA0 ?_));try simp only[Act.put,ql,qg,qc,qf,zA,zB,zC])
     first
      |(refine qd (.pointer (some ⟨b4,o4+k,none⟩)) zA0 zA0 (fun W hW _=>⟨W,?_,Rel.refl _ W⟩) ?_
        ·go_simp;rw[IntWalk.i64_in (k:Int) zO,if_pos zO];simp
        simp only[Act.put,ql,qg,qc,qf,zA,zB,zC])
      |skip
     repeat ((first|(refine qd ?_ zA0 zA0 (fun W hW _=>⟨W,?_,Rel.refl _ W⟩) ?_;rotate_left;(go_simp<;>with_reducible rfl))|(refine qh zA0 ?_));try simp only[Act.put,ql,qg,qc,qf,zA,zB,zC])
     refine qv (hK _ _ fun W2 hW hF=>?_);clear hF hK;refine zB5 ?_;refine⟨fun _ h=>(by cases h),?_⟩
     gi_wp2_with fail
     go_roundw
     case rel=>exact⟨k+1,zO,zO,by go_num,by rw[mG.out];exact hJ _ _ _ iQ hW,hB.trans (Below.mono hW (Nat.le_trans hn₀ hB.size))⟩
     case measure=>simp[intOf];omega
  ·gi_wp2_with fail
   obtain rfl:k=256:=zO;go_end0;exact⟨⟨_,rfl⟩,.inl ⟨_,rfl,iQ⟩⟩
end Go.Proofs.YtpbniokljofedaaGreat
namespace Go.Proofs.YtpbniokljofedaaGreat
open Go.RowKit
theorem Kk {F:Fence} {n:Nat} {P:Program} {ops:Array Oper} {l:List Oper} {a:Act} {w:World} {Q:Exit->Act->World->Prop} (h:QC (wpListIn F n P ops Q l a w)):wpListIn F n P ops Q l a w:=h
theorem Kj {F:Fence} {nf:Nat} {P:Program} (w:World) {ops:Array Oper} {rest:List Oper} {o:Oper} {a:Act} {Q:Exit->Act->World->Prop} (fP:o.guard=none) (s x:Operand) (t:TypeId) (ho:o.op=.call { callee:=.builtin .append,args:=#[s,x],argTypes:=#[t,t] }) (base:Nat) (e:TypeId) (i:TypeInfo) (z:Value) (size bytes:Nat) (ht:P.underlying t=some (.slice e)) (hi:P.info? e=some i) (hz:i.zero=some z) (eF:i.size=size) (aQ:i.bytes=bytes) (xU:z.cells.size=size) (hsz:0<size) (v:Value) (n:Nat) (xs:List Value) (hs:a.eval s=v) (aB:w.ownsRow base e size v n xs) (cs:Array Value) (hx:a.eval x=.slice (some ⟨w.heap.size,0,none⟩) 1 1) (hl:cs.size=size) (h1:∀ u∈cs.toList,u.oneCell'=true) (hn:n<1073741824) (dZ:bytes<=65536) (mX:base<=w.heap.size) (h:∀ v' w',w'.ownsRow base e size v' (n+1) (xs++cs.toList)->w.grownBy w' v.ownBlock->(v'.ownBlock=v.ownBlock\/∃ g,v'.ownBlock=some g/\w.heap.size<=g)->wpListIn F nf P ops Q rest (a.put o.dst v') w'):wpListIn F nf P ops Q (o :: rest) a (w.alloc (.cells cs e)):=by
 refine wpListIn_plain fP fun K hK=>?_;have hb:(n+1)*bytes<=140737488355328:=Nat.le_trans (Nat.mul_le_mul_left _ dZ) zO;have hm:n+1<=maxLen:=zA6;obtain⟨v',w',ay,h2,h3,_,h5⟩:=run_append_own_at (P:=P) (w.alloc (.cells cs e)) base t o.type e i z size bytes ht hi hz eF aQ xU hsz v n xs (aB.alloc _) ⟨w.heap.size,0,none⟩ 1 1 cs.toList
  (by rw[Array.length_toList];omega) (YK w cs e) h1 hm hb zA1
 have hg:w.grownBy w' v.ownBlock:=⟨h3.os,h3.tape,h3.output,Nat.le_trans zA2 h3.size,fun k hk aG=>(h3.block k zA1 aG).trans (zK w _ k hk)⟩
 unfold Oper.wpIn;refine⟨?_,?_⟩
 ·simp[Oper.about,ho,resolve,Target.leads,Sem.run_pure]
 ·rw[Oper.semAt_plain F _ _ (by rw[ho];intro c uF;cases uF)];simp only[execOp,ho,resolve,invoke,builtin,Sem.run_bind,Sem.run_pure,Result.andThen_ok,List.map_toArray,List.map_cons,List.map_nil,hs,hx,ay];exact hK _ _ (h v' w' h2 hg (h5.imp id fun e=>⟨_,e,zA2⟩))
def RefsQ (S:Sto) (root next:Int) (dead:List Int) (w:World) (e:Ending) (w':World):Prop:=Below w.heap.size w w' /\
 ((e=.returned (.tuple #[.slice none 0 0,.int .i64 8])/\∀ vs,Qg S root next dead vs->∃ refs nodes,qX S (Qs root dead vs) refs nodes/\¬QF S refs) \/
  ∃ vs refs nodes cb ca vv lo,e=.returned (.tuple #[.slice (some ⟨cb,6,none⟩) 256 256,.int .i64 0])/\w.heap.size<=lo/\Taken S root next dead vs refs nodes lo cb ca vv w')
theorem qgh {R:Ending->World->Prop} {a:Act} {W:World} {u v:Value} (h2:a.tmps[2]?.getD undef=u) (h3:a.tmps[3]?.getD undef=v) (hd:a.defers=[]) (hR:R (.returned (.tuple #[u,v])) W):bodyPost prog Tryz.f19 R .ret a W:=by refine bodyPost_ret (v:=.tuple #[u,v]) ?_ hd hR;simp[results,results19,go_sem,h2,h3]
set_option maxRecDepth 100000 in
theorem refs_any (A1:Option Addr) (n1 c1:Nat) (A2:Option Addr) (n2 c2:Nat) (A3:Option Addr) (n3 c3:Nat) (A4:Option Addr) (n4 c4:Nat) (gen root next:Int) (A5:Option Addr) (c5:Nat) (S:Sto) (dead:List Int) (w:World) (h:qU w w.heap.size (.slice A1 n1 c1) (.slice A2 n2 c2) (.slice A3 n3 c3) (.slice A4 n4 c4) S) (hd:Zw w w.heap.size (.slice A5 dead.length c5) dead):Calls prog 19 #[.agg (qF (.slice A1 n1 c1) (.slice A2 n2 c2) (.slice A3 n3 c3) (.slice A4 n4 c4) gen root next (.slice A5 dead.length c5))] w (RefsQ S root next dead w):=by
 have HT:=zH (fun W (hx:Ext w W)=>KB A1 n1 c1 A2 n2 c2 A3 n3 c3 A4 n4 c4 gen root next A5 c5 S dead W (h.ext hx) (by obtain⟨A,c,e,q1,q2,q3⟩:=hd;exact⟨A,c,e,q1,q2,(q3.below hx).more hx.size⟩));clear h hd;go_enter func19,ntmps19;go_wp2_with fail;generalize aA:World.alloc w _=w1;have x1:Ext w w1:=by rw[<-aA];exact zN _ _
 clear aA;refine(HT.out w1 x1).mono ?_;rintro e w2 ⟨hB,hQ⟩;have x2:Below w.heap.size w w2:=Ext.trans x1 hB;rcases hQ with ⟨rfl,aX⟩|⟨vs,refs,nodes,cb,ca,vv,rfl,hT⟩
 ·have HB:RefsQ S root next dead w (.returned (.tuple #[.slice none 0 0,.int .i64 8])) w2:=⟨x2,.inl ⟨rfl,aX⟩⟩
  replace HB:=zH HB;clear aX hB;go_wp2_with fail;exact qgh rfl rfl rfl HB.out
 ·have HB:RefsQ S root next dead w (.returned (.tuple #[.slice (some ⟨cb,6,none⟩) 256 256,.int .i64 0])) w2:=⟨x2,.inr ⟨vs,refs,nodes,cb,ca,vv,_,rfl,x1.size,hT⟩⟩
  replace HB:=zH HB;clear hT hB;go_wp2_with fail;exact qgh rfl rfl rfl HB.out
def VG (nodes:Nat->Nat) (k:Nat):List Nat:=(List.range k).filter fun a=>decide (0<nodes a)
theorem qhE (nodes:Nat->Nat) (k:Nat):VG nodes (k+1)=if 0<nodes k then VG nodes k++[k] else VG nodes k:=by
 unfold VG;rw[List.range_succ,List.filter_append];by_cases h:0<nodes k
 ·rw[if_pos h];simp[h]
 ·rw[if_neg h];simp[h]
theorem qcX (nodes:Nat->Nat) (k:Nat):(VG nodes k).length<=k:=by unfold VG;exact Nat.le_trans (List.length_filter_le _ _) zA2
def qgK (S:Sto) (root next:Int) (dead:List Int) (w:World) (e:Ending) (w':World):Prop:=Below w.heap.size w w' /\
 ((e=.returned (.tuple #[.slice none 0 0,.int .i64 8])/\∀ vs,Qg S root next dead vs->∃ refs nodes,qX S (Qs root dead vs) refs nodes/\¬QF S refs) \/
  ∃ vs refs nodes v lo,e=.returned (.tuple #[v,.int .i64 0])/\w.heap.size<=lo/\Qg S root next dead vs/\qX S (Qs root dead vs) refs nodes/\QF S refs/\w'.ownsRow lo 3 1 v (VG nodes 256).length (Ja (VG nodes 256)))
structure N1 (nodes:Nat->Nat) (w2:World) (v i:Value) (wr:World):Prop where
 ex:∃ k:Nat,k<=256/\i=.int .i64 (k:Int)/\wr.ownsRow w2.heap.size 3 1 v (VG nodes k).length (Ja (VG nodes k))/\Ext w2 wr
theorem qcZ {R:Ending->World->Prop} {a:Act} {W:World} {u v:Value} (h2:a.tmps[2]?.getD undef=u) (h3:a.tmps[3]?.getD undef=v) (hd:a.defers=[]) (hR:R (.returned (.tuple #[u,v])) W):bodyPost prog Tryz.f21 R .ret a W:=by refine bodyPost_ret (v:=.tuple #[u,v]) ?_ hd hR;simp[results,results21,go_sem,h2,h3]
set_option maxRecDepth 100000 in
theorem qkg (A1:Option Addr) (n1 c1:Nat) (A2:Option Addr) (n2 c2:Nat) (A3:Option Addr) (n3 c3:Nat) (A4:Option Addr) (n4 c4:Nat) (gen root next:Int) (A5:Option Addr) (c5:Nat) (S:Sto) (dead:List Int) (w:World) (h:qU w w.heap.size (.slice A1 n1 c1) (.slice A2 n2 c2) (.slice A3 n3 c3) (.slice A4 n4 c4) S) (hd:Zw w w.heap.size (.slice A5 dead.length c5) dead):Calls prog 21 #[.agg (qF (.slice A1 n1 c1) (.slice A2 n2 c2) (.slice A3 n3 c3) (.slice A4 n4 c4) gen root next (.slice A5 dead.length c5))] w (qgK S root next dead w):=by
 have HT:=zH (fun W (hx:Ext w W)=>KB A1 n1 c1 A2 n2 c2 A3 n3 c3 A4 n4 c4 gen root next A5 c5 S dead W (h.ext hx) (by obtain⟨A,c,e,q1,q2,q3⟩:=hd;exact⟨A,c,e,q1,q2,(q3.below hx).more hx.size⟩));clear h hd;go_enter func21,ntmps21;go_wp2_with fail;generalize aA:World.alloc w _=w1;have x1:Ext w w1:=by rw[<-aA];exact zN _ _
 clear aA;refine(HT.out w1 x1).mono ?_;rintro e w2 ⟨hB,hQ⟩;have x2:Below w.heap.size w w2:=Ext.trans x1 hB;rcases hQ with ⟨rfl,aX⟩|⟨vs,refs,nodes,cb,ca,vv,rfl,hT⟩
 ·have HB:qgK S root next dead w (.returned (.tuple #[.slice none 0 0,.int .i64 8])) w2:=⟨x2,.inl ⟨rfl,aX⟩⟩
  replace HB:=zH HB;clear aX hB;go_wp2_with fail;exact qcZ rfl rfl rfl HB.out
 ·have hcc:∀ j v,(YL nodes)[j]?=some v->w2.cell? ⟨cb,262+j,none⟩=some v:=fun j v hj=>by obtain⟨h1,rfl⟩:=qiB hj;rw[qa hT.row];exact hT.ar.node j h1
  replace hT:=zH hT;clear hB;go_wp2_with (refine KH rfl 82 (.tmp 17) rfl cb 262 rfl (YL nodes) _ hcc underlying82 rfl (by rw[show (YL nodes).length=256 by simp[YL]];kernel_rfl) ?_);clear hcc;go_loopw [2,19] (fun v i wq=>N1 nodes w2 v i wq) (fun _ i _=>256-(intOf i).toNat)
  case atStart=>exact⟨0,zO,rfl,World.ownsRow_nil _ _ _ _,Ext.refl _⟩
  case round =>
   obtain⟨k,hk,rfl,own,xr⟩:=hrel.ex;clear hrel;by_cases hlt:k<256
   ·have hix:=XS (cs:=(YL nodes).toArray) hlt (v:=.int .i64 (nodes k)) (by rw[List.getElem?_toArray];exact qaJ nodes hlt);have rZ:=qcX nodes k;generalize (YL nodes).toArray=arr at *;obtain⟨AR,cR,rfl,hCN,hCO⟩:=qz own;clear hCN hCO;replace own:=zH own;replace xr:=zH xr;have mG:=zH (qhE nodes k);rcases Nat.eq_zero_or_pos (nodes k) with h0|h0
    ·have dV:decide ((nodes k:Int)>0)=false:=decide_eq_false zO;have bP:decide (0<nodes k)=false:=decide_eq_false zO;have IR:N1 nodes w2 (.slice AR (VG nodes k).length cR) (.int .i64 ((k:Int)+1)) wr:=⟨k+1,hlt,rfl,by rw[mG.out,if_neg zO];exact own.out,xr.out⟩
     replace IR:=zH IR;replace h0:=zH h0;go_wp2_with fail;refine⟨IR.out,?_⟩;simp[intOf];omega
    ·have dV:decide ((nodes k:Int)>0)=true:=decide_eq_true zO;have bP:decide (0<nodes k)=true:=decide_eq_true h0;obtain⟨i0,hi,ag,aU,aW⟩:=info_parts Tryz.info_int;replace rZ:=zH rZ;replace h0:=zH h0;go_wp2_with (at_builtin;refine Qf ?_);refine QC.go (jh _ rfl (.tmp 25) (.tmp 27) 30 rfl w2.heap.size 3 i0 (.int .i64 0) 1 8 underlying30 hi ag aU aW rfl zD _ _ _ rfl own.out #[.int .i64 (k:Int)] rfl rfl zA7 (by have:=rZ.out;omega) zD xr.out.size ?_);intro v8 w8 lh _ hB8 _;have IR:N1 nodes w2 v8 (.int .i64 ((k:Int)+1)) w8:=⟨k+1,hlt,rfl,by rw[mG.out,if_pos h0.out,KV,List.length_append,List.length_singleton];exact lh,Below.trans xr.out hB8⟩
     replace IR:=zH IR;clear lh hB8 hi ag aU aW;go_wp2_with fail;refine⟨IR.out,?_⟩;simp[intOf];omega
   ·obtain rfl:k=256:=zO;have HB:qgK S root next dead w (.returned (.tuple #[_,.int .i64 0])) wr:=⟨x2.trans (Below.mono xr x2.size),.inr ⟨vs,refs,nodes,_,w2.heap.size,rfl,x2.size,hT.out.pool,hT.out.cnt,hT.out.enough,own⟩⟩
    replace HB:=zH HB;replace own:=zH own;replace xr:=zH xr;go_wp2_with fail;exact qcZ rfl rfl rfl HB.out
end Go.Proofs.YtpbniokljofedaaGreat
