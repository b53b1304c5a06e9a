/- Texts Bch, FreeI, FreeIt, PushI, Refs, Nodes, FreeL, FreeP, Twin3, Twin8, RTake, BMake, PushR, joined. -/
import Derived.OrdersIn
import Derived.TacticsIn
import Derived.CallsIn
import Derived.RangeFuncKeeps
import Derived.RangeFuncBound
import Derived.RangeFuncLeaves
import Derived.Shelf.Abstract
import Derived.OwnWalkIn
import Derived.TacticsInMore
import Derived.Sort.CutIn
import Derived.RangeFuncNested
import Derived.Test.YtpbniokljofedaaGreatZA01
import Derived.Test.YtpbniokljofedaaGreatZA04
import Derived.Test.YtpbniokljofedaaGreatZA07
import Derived.Test.YtpbniokljofedaaGreatZA08
import Derived.Test.YtpbniokljofedaaGreatZA10
import Derived.Test.YtpbniokljofedaaGreatZA17
set_option linter.unusedSimpArgs false
set_option linter.unusedVariables false
namespace Go.Proofs.YtpbniokljofedaaGreat
open Go.RowKit
def qP (X:Nat→Prop) (w C:World):Prop:=∀ (q:Addr) (v:Value),¬X q.block→w.cell? q=some v→C.cell? q=some v
section
variable {X Y:Nat→Prop} {w W C:World}
theorem qP.refl (X:Nat→Prop) (w:World):qP X w w:=fun _ _ _ h=>h
theorem qP.of_ext (h:Ext w C):qP X w C:=fun _ _ _ hv=>Ext.cell h hv
theorem qP.trans (h:qP X w W) (h':qP Y W C) (hY:∀ k,k<w.heap.size→Y k→X k):qP X w C:=fun q v hX hv=>h' q v (fun hy=>hX (hY _ (World.block_lt_of_cell? w q hv) hy)) (h q v hX hv)
theorem qP.mono (h:qP X w C) (hX:∀ k,k<w.heap.size→X k→Y k):qP Y w C:=fun q v hY hv=>h q v (fun hx=>hY (hX _ (World.block_lt_of_cell? w q hv) hx)) hv
theorem qP.set {p:Addr} (hp:X p.block) (u:Value):qP X w (w.setCell p u):=fun q v hX hv=>(World.cell?_setCell_other w p q u (fun e=>by subst e;exact hX hp)).trans hv
theorem qP.of_heap (h:∀ k,k<w.heap.size→¬X k→C.heap[k]?=w.heap[k]?):qP X w C:=fun q v hX hv=>(World.cell?_of_block (h _ (World.block_lt_of_cell? w q hv) hX)).trans hv
theorem Rd.keepX {B size n:Nat} {A:Option Addr} {xs:List Value} (h:Rd w B size A n xs) (hs:0<size) (hk:qP X w C) (hX:∀ k,k<B→¬X k):Rd C C.heap.size size A n xs:=⟨h.1,fun hn=>by
 obtain⟨b,off,e,hb,hc⟩:=h.2 hn
 refine⟨b,off,e,?_,fun j u hu=>hk _ _ (hX b hb) (hc j u hu)⟩
 have hl:0<xs.length:=by rw[h.1];exact Nat.mul_pos hn hs
 exact World.block_lt_of_cell? C ⟨b,off+0,none⟩ (hk _ _ (hX b hb) (hc 0 _ (List.getElem?_eq_getElem hl)))⟩
theorem Bys.keepX {B:Nat} {v:Value} {l:List UInt8} (h:Bys w B v l) (hk:qP X w C) (hX:∀ k,k<B→¬X k):Bys C C.heap.size v l:=by
 obtain⟨A,c,e,hc,hm,hr⟩:=h
 exact⟨A,c,e,hc,hm,hr.keepX (by omega) hk hX⟩
theorem Its.keepX {B:Nat} {v:Value} {xs:List It} (h:Its w B v xs) (hk:qP X w C) (hX:∀ k,k<B→¬X k):Its C C.heap.size v xs:=by
 obtain⟨ps,e,⟨A,c,e1,e2,e3,hr⟩,hp⟩:=h
 exact⟨ps,e,⟨A,c,e1,e2,e3,hr.keepX (by omega) hk hX⟩,fun p h=>⟨(hp p h).1,(hp p h).2.keepX hk hX⟩⟩
end
def vk (X:Nat→Prop) (w:World) (v:Value) (xs:List It):Prop:=∀ C,qP X w C→Its C C.heap.size v xs
theorem vk.now {X:Nat→Prop} {w:World} {v:Value} {xs:List It} (h:vk X w v xs):Its w w.heap.size v xs:=h w (qP.refl _ _)
theorem vk.trans {X Y:Nat→Prop} {w W:World} {v:Value} {xs:List It} (h:vk X w v xs) (hk:qP X w W) (hY:∀ k,k<w.heap.size→Y k→X k):vk Y W v xs:=fun C hC=>h C (hk.trans hC hY)
theorem Zl {w w':World} {base size n:Nat} {e:TypeId} {v:Value} {xs:List Value} (h:w.ownsRow base e size v n xs) (hk:∀ q,v.ownBlock=some q→w'.heap[q]?=w.heap[q]?):w'.ownsRow base e size v n xs:=
 ⟨h.1,h.2.imp id fun ⟨g,cap,cur,e1,h3,h4,h5⟩=>⟨g,cap,cur,e1,h3,(hk g (by rw[e1];rfl)).trans h4,h5⟩⟩
theorem jf {w:World} {base size n:Nat} {e:TypeId} {v:Value} {xs:List Value} (h:w.ownsRow base e size v n xs) {q:Nat} (hq:v.ownBlock=some q):∃ cur,w.heap[q]?=some (.cells cur e (0,0)):=by
 rcases h.2 with ⟨e1,_⟩|⟨g,cap,cur,e1,_,hg,_⟩
 ·rw[e1] at hq;cases hq
 ·rw[e1] at hq
  cases hq
  exact⟨cur,hg⟩
def B3 (b g:Nat) (k:Option Nat) (q:Nat):Prop:=q=b∨q=g∨k=some q
def KT (B:Nat) (D:Nat→Prop) (q:Nat):Prop:=B≤q∧¬D q
theorem KT.keep {B:Nat} {D:Nat→Prop} {w W:World} (h:∀ q,q<w.heap.size→q<B∨D q→W.heap[q]?=w.heap[q]?):qP (KT B D) w W:=qP.of_heap fun q hq hX=>h q hq (by
 by_cases hB:q<B
 ·exact .inl hB
 ·right
  by_cases hD:D q
  ·exact hD
  ·exact absurd ⟨by omega,hD⟩ hX)
def VI (n:Nat) (D D':Nat→Prop):Prop:=∀ q,D' q→D q∨n≤q
theorem VI.refl (n:Nat) (D:Nat→Prop):VI n D D:=fun _ h=>.inl h
theorem VI.mono {n n':Nat} {D D':Nat→Prop} (h:VI n D D') (hn:n'≤n):VI n' D D':=fun q hq=>(h q hq).imp id fun h=>by omega
theorem VI.trans {n n':Nat} {D D' D'':Nat→Prop} (h:VI n D D') (h':VI n' D' D'') (hn:n≤n'):VI n D D'':=fun q hq=>(h' q hq).elim (fun h1=>h q h1) fun h1=>.inr (by omega)
structure qS (lo b g:Nat) (k:Option Nat) (w W:World):Prop where
 below:Below lo w W
 rows:∀ q,q<w.heap.size→¬B3 b g k q→W.heap[q]?=w.heap[q]?
def QV (n:Nat) (k k':Option Nat):Prop:=∀ q,k'=some q→k=some q∨n≤q
theorem QV.refl (n:Nat) (k:Option Nat):QV n k k:=fun _ h=>.inl h
theorem QV.mono {n n':Nat} {k k':Option Nat} (h:QV n k k') (hn:n'≤n):QV n' k k':=fun q hq=>(h q hq).imp id fun h=>by omega
theorem QV.trans {n n':Nat} {k k' k'':Option Nat} (h:QV n k k') (h':QV n' k' k'') (hn:n≤n'):QV n k k'':=fun q hq=>(h' q hq).elim (fun h1=>h q h1) fun h1=>.inr (by omega)
section
variable {lo b g:Nat} {k k':Option Nat} {w W C:World}
theorem qS.refl (lo b g:Nat) (k:Option Nat) (w:World):qS lo b g k w w:=⟨Below.refl _ _,fun _ _ _=>rfl⟩
theorem qS.of_ext (h:Ext w W) (hl:lo≤w.heap.size):qS lo b g k w W:=⟨Below.mono h hl,fun q hq _=>Below.block h q hq⟩
theorem qS.trans (h:qS lo b g k w W) (h':qS lo b g k' W C) (hk:QV w.heap.size k k'):qS lo b g k w C:=⟨h.below.trans h'.below,fun q hq hn=>(h'.rows q (by have:=h.below.size;omega) fun hx=>hn (by
 rcases hx with e|e|e
 ·exact .inl e
 ·exact .inr (.inl e)
 ·exact(hk q e).elim (fun h=>.inr (.inr h)) fun h=>by omega)).trans (h.rows q hq hn)⟩
theorem qS.keepX (h:qS lo b g k w W):qP (B3 b g k) w W:=qP.of_heap fun q hq hX=>h.rows q hq hX
theorem qS.own (h:qS lo b g k w W) {base n size:Nat} {e:TypeId} {v:Value} {xs:List Value} (ho:w.ownsRow base e size v n xs) (hn:∀ q,v.ownBlock=some q→¬B3 b g k q):W.ownsRow base e size v n xs:=Zl ho fun q hq=>h.rows q (QM ho q hq).2 (hn q hq)
theorem qS.row (h:qS lo b g k w W) {q:Nat} {o:Obj} (hr:w.heap[q]?=some o) (hn:¬B3 b g k q):W.heap[q]?=some o:=(h.rows q (zG.1 hr).1 hn).trans hr
theorem B3.of_new (hk:QV w.heap.size k k'):∀ q,q<w.heap.size→B3 b g k' q→B3 b g k q:=fun q hq hx=>by
 rcases hx with e|e|e
 ·exact .inl e
 ·exact .inr (.inl e)
 ·exact(hk q e).elim (fun h=>.inr (.inr h)) fun h=>by omega
end
def WsB (D:Nat→Prop) (B lo b g:Nat) (k:Option Nat) (v:Value) (ws:List (Int×List UInt8)) (w:World):Prop:=∃ ps:List ((Int×List UInt8)×Value),ps.map (·.1)=ws ∧
 ((k=none∧ws.length≤maxLen∧∃ A,v=.slice A ws.length ws.length∧Rd w B 2 A ws.length (QO ps))∨(∃ q,k=some q∧v.ownBlock=some q∧w.ownsRow lo 130 2 v ws.length (QO ps))) ∧
 ∀ p∈ps,(∃ A c,p.2=.slice A p.1.2.length c)∧∀ C,qP (KT B D) w C→Bys C C.heap.size p.2 p.1.2
theorem WsB.ext {D:Nat→Prop} {B lo b g:Nat} {k:Option Nat} {v:Value} {ws:List (Int×List UInt8)} {w W:World} (h:WsB D B lo b g k v ws w) (hx:Ext w W) (hB:B≤w.heap.size):WsB D B lo b g k v ws W:=by
 obtain⟨ps,e,hw,hp⟩:=h
 refine⟨ps,e,?_,fun p hpm=>⟨(hp p hpm).1,fun C hC=>(hp p hpm).2 C ((qP.of_ext hx).trans hC fun _ _ h=>h)⟩⟩
 rcases hw with ⟨e,hm,A,e2,hr⟩|⟨q,e,e2,how⟩
 ·exact .inl ⟨e,hm,A,e2,hr.below (Below.mono hx hB)⟩
 ·exact .inr ⟨q,e,e2,Zl how fun q' hq'=>Below.block hx q' (QM how q' hq').2⟩
theorem WsB.mono {D D':Nat→Prop} {B lo b g:Nat} {k:Option Nat} {v:Value} {ws:List (Int×List UInt8)} {w:World} (h:WsB D B lo b g k v ws w) (hD:∀ q,D q→D' q):WsB D' B lo b g k v ws w:=by
 obtain⟨ps,e,hw,hp⟩:=h
 exact⟨ps,e,hw,fun p hpm=>⟨(hp p hpm).1,fun C hC=>(hp p hpm).2 C (hC.mono fun q _ hx=>⟨hx.1,fun h=>hx.2 (hD q h)⟩)⟩⟩
structure Bch (D:Nat→Prop) (B lo b g:Nat) (k:Option Nat) (S:Sto) (w:World):Prop where
 lob:lo≤b
 blo:B≤lo
 dB:∀ q,D q→lo≤q∧q<w.heap.size∧¬B3 b g k q
 ex:∃ A1 n1 c1 v2 c3 A4 c4,w.heap[b]?=some (.cells #[.slice A1 n1 c1,v2,.slice (some ⟨g,0,none⟩) 256 c3,.slice A4 256 c4] 191 (0,0))∧w.ownsRow lo 5 1 (.slice (some ⟨g,0,none⟩) 256 c3) 256 (S.now.map bv) ∧
  WsB D B lo b g k v2 S.ws w∧Bls w B (.slice A1 n1 c1) S.bs∧Bys w B (.slice A4 256 c4) S.last
section
variable {D:Nat→Prop} {B lo b g:Nat} {k:Option Nat} {S:Sto} {w W:World}
theorem Bch.size (h:Bch D B lo b g k S w):lo≤b∧b<w.heap.size∧lo≤g∧g<w.heap.size∧g≠b∧lo≤w.heap.size∧∀ q,k=some q→lo≤q∧q<w.heap.size∧q≠b∧q≠g:=by
 have h1:=h.lob
 obtain⟨A1,n1,c1,v2,c3,A4,c4,hr,ho,⟨ps,_,hw,_⟩,_,_⟩:=h.ex
 have hb:=(zG.1 hr).1
 obtain⟨_,_,hlg,hzg⟩:=Zc ho
 obtain⟨cur,hg⟩:=jf ho (q:=g) rfl
 refine⟨h1,hb,hlg,hzg,qH hg hr (by decide),by omega,fun q hq=>?_⟩
 rcases hw with ⟨e,_⟩|⟨q',e,e2,how⟩
 ·rw[e] at hq;cases hq
 ·rw[e] at hq
  cases hq
  obtain⟨cur2,hq2⟩:=jf how e2
  have:=QM how _ e2
  exact⟨this.1,this.2,qH hq2 hr (by decide),qH hq2 hg (by decide)⟩
theorem Bch.b3 (h:Bch D B lo b g k S w):∀ q,B3 b g k q→lo≤q∧q<w.heap.size:=fun q hq=>by
 obtain⟨h1,h2,h3,h4,_,_,h5⟩:=h.size
 rcases hq with rfl|rfl|e
 ·exact⟨h1,h2⟩
 ·exact⟨h3,h4⟩
 ·exact⟨(h5 q e).1,(h5 q e).2.1⟩
theorem Bch.off (h:Bch D B lo b g k S w):∀ q,q<B→¬B3 b g k q:=fun q hq hx=>by
 have h1:=h.blo
 have:=(h.b3 q hx).1
 omega
theorem Bch.offk (h:Bch D B lo b g k S w):∀ q,B3 b g k q→¬(q<B∨D q):=fun q hx hq=>hq.elim (fun h1=>h.off q h1 hx) fun h1=>(h.dB q h1).2.2 hx
theorem Bch.keep (h:Bch D B lo b g k S w) (hB:Below B w W) (hr:∀ q,B3 b g k q∨D q→W.heap[q]?=w.heap[q]?):Bch D B lo b g k S W:=by
 have hs:=hB.size
 have hx:qP (KT B D) w W:=KT.keep fun q hq h1=>h1.elim (fun h1=>hB.block q h1) fun h1=>hr q (.inr h1)
 obtain⟨A1,n1,c1,v2,c3,A4,c4,hro,ho,⟨ps,e,hw,hp⟩,h1,h4⟩:=h.ex
 refine⟨h.lob,h.blo,fun q hq=>⟨(h.dB q hq).1,by have:=(h.dB q hq).2.1;omega,(h.dB q hq).2.2⟩,A1,n1,c1,v2,c3,A4,c4,(hr _ (.inl (.inl rfl))).trans hro,Zl ho (fun q hq=>by cases hq;exact hr _ (.inl (.inr (.inl rfl)))),⟨ps,e,?_,fun p hpm=>⟨(hp p hpm).1,fun C hC=>(hp p hpm).2 C (hx.trans hC fun _ _ h=>h)⟩⟩,h1.below hB,h4.below hB⟩
 rcases hw with ⟨e,hm,A,e2,hr⟩|⟨q,e,e2,how⟩
 ·exact .inl ⟨e,hm,A,e2,hr.below hB⟩
 ·exact .inr ⟨q,e,e2,Zl how fun q' hq'=>by
   rw[e2] at hq'
   cases hq'
   exact hr q (.inl (.inr (.inr e)))⟩
theorem Bch.ext (h:Bch D B lo b g k S w) (hx:Ext w W):Bch D B lo b g k S W:=by
 have h6:=h.size.2.2.2.2.2.1
 have h1:=h.blo
 exact h.keep (Below.mono hx (by omega)) fun q hq=>Below.block hx q (hq.elim (fun h2=>(h.b3 q h2).2) fun h2=>(h.dB q h2).2.1)
theorem Bch.keepX {X:Nat→Prop} (h:Bch D B lo b g k S w) (hB:Below B w W) (hr:∀ q,q<w.heap.size→¬X q→W.heap[q]?=w.heap[q]?) (hX:∀ q,B3 b g k q∨D q→¬X q):Bch D B lo b g k S W:=
 h.keep hB fun q hq=>hr q (hq.elim (fun h2=>(h.b3 q h2).2) fun h2=>(h.dB q h2).2.1) (hX q hq)
theorem Bch.mono {D':Nat→Prop} (h:Bch D B lo b g k S w) (hD:∀ q,D q→D' q) (hB:∀ q,D' q→lo≤q∧q<w.heap.size∧¬B3 b g k q):Bch D' B lo b g k S w:=by
 obtain⟨A1,n1,c1,v2,c3,A4,c4,hro,ho,hw,h1,h4⟩:=h.ex
 exact⟨h.lob,h.blo,hB,A1,n1,c1,v2,c3,A4,c4,hro,ho,hw.mono hD,h1,h4⟩
theorem Bch.count (h:Bch D B lo b g k S w) {a:Nat} (ha:a<256) (x:UInt8):Bch D B lo b g k (qF S (S.now.set a x)) (w.setCell ⟨g,a,none⟩ (bv x))∧qS lo b g k w (w.setCell ⟨g,a,none⟩ (bv x)):=by
 obtain⟨hlb,_,hlg,_,hgb,_,h5⟩:=h.size
 have hbl:=h.blo
 have hkd:=h.offk
 obtain⟨A1,n1,c1,v2,c3,A4,c4,hr,ho,⟨ps,e,hw,hp⟩,h1,h4⟩:=h.ex
 have hK:qS lo b g k w (w.setCell ⟨g,a,none⟩ (bv x)):=⟨Below.setCell (Below.refl _ _) (p:=⟨g,a,none⟩) hlg _,fun q _ hn=>Below.heap_setCell _ _ _ _ fun e=>hn (.inr (.inl e))⟩
 have hX:qP (KT B D) w (w.setCell ⟨g,a,none⟩ (bv x)):=KT.keep fun q _ hq=>Below.heap_setCell _ _ _ _ fun e=>hkd g (.inr (.inl rfl)) (by have e':q=g:=e;exact e' ▸ hq)
 have hB:Below B w (w.setCell ⟨g,a,none⟩ (bv x)):=Below.setCell (Below.refl _ _) (p:=⟨g,a,none⟩) (by show B≤g;omega) _
 refine⟨⟨hlb,hbl,fun q hq=>by simpa using h.dB q hq,A1,n1,c1,v2,c3,A4,c4,(Below.heap_setCell _ _ _ _ fun e=>hgb e.symm).trans hr,Gm ho ha x,⟨ps,e,?_,fun p hpm=>⟨(hp p hpm).1,fun C hC=>(hp p hpm).2 C (hX.trans hC fun _ _ h=>h)⟩⟩,h1.below hB,h4.below hB⟩,hK⟩
 rcases hw with ⟨e,hm,A,e2,hr⟩|⟨q,e,e2,how⟩
 ·exact .inl ⟨e,hm,A,e2,hr.below hB⟩
 ·exact .inr ⟨q,e,e2,Zl how fun q' hq'=>by
   rw[e2] at hq'
   cases hq'
   exact Below.heap_setCell _ _ _ _ (h5 q e).2.2.2⟩
theorem qaF (ps:List ((Int×List UInt8)×Value)) (p:(Int×List UInt8)×Value):QO (ps++[p])=QO ps++[.int .i64 p.1.1,p.2]:=by
 induction ps with
 |nil=>rfl
 |cons a r ih=>simp[QO,ih]
theorem Bch.sto (h:Bch D B lo b g k S w):∃ A1 n1 c1 A2 n2 c2 c3 A4 c4,w.heap[b]?=some (.cells #[.slice A1 n1 c1,.slice A2 n2 c2,.slice (some ⟨g,0,none⟩) 256 c3,.slice A4 256 c4] 191 (0,0))∧Qc w w.heap.size (.slice A1 n1 c1) (.slice A2 n2 c2) (.slice (some ⟨g,0,none⟩) 256 c3) (.slice A4 256 c4) S:=by
 have h6:=h.size.2.2.2.2.2.1
 have hbl:=h.blo
 obtain⟨A1,n1,c1,v2,c3,A4,c4,hr,ho,⟨ps,e,hw,hp⟩,h1,h4⟩:=h.ex
 have hv:∃ A2 n2 c2,v2=.slice A2 n2 c2∧Wrs w w.heap.size (.slice A2 n2 c2) S.ws:=by
  rcases hw with ⟨_,hm,A,rfl,hrd⟩|⟨q,_,_,how⟩
  ·exact⟨A,_,_,rfl,ps,e,⟨A,_,rfl,Nat.le_refl _,hm,hrd.more (by omega)⟩,fun p hpm=>⟨(hp p hpm).1,(hp p hpm).2 w (qP.refl _ _)⟩⟩
  ·obtain⟨A,c,rfl,hc1,hc2⟩:=qJ how
   exact⟨A,_,_,rfl,ps,e,⟨A,c,rfl,hc1,hc2,Rd.of_own how⟩,fun p hpm=>⟨(hp p hpm).1,(hp p hpm).2 w (qP.refl _ _)⟩⟩
 obtain⟨A2,n2,c2,rfl,hW⟩:=hv
 exact⟨A1,n1,c1,A2,n2,c2,c3,A4,c4,hr,h1.more (by omega),hW,Bys.of_own ho,h4.more (by omega)⟩
end
structure WideF (F:Fence):Prop where
 fn:∀ f,F.fn f
 depth:¬F.depth.isSome=true
 call:∀ {n:Nat} {P:Program} {f:FuncId} {args:Array Value} {w:World} {R:Ending→World→Prop},Calls P f args w R→CallsIn F n P f args w R
theorem Jc (l:Nat):WideF (Fence.wide.inRound l):=⟨fun _=>trivial,fun h=>(by cases h),fun h=>CallsIn.inRound l (callsIn_wide.2 h)⟩
def XU (ops:Array Oper):Bool:=ops.toList.all fun o=>match o.op with | .defer _=>false|_=>true
theorem Yy {ops:Array Oper} (h:XU ops=true) {i:Nat} {o:Oper} (ho:ops[i]?=some o):∀ c,o.op≠.defer c:=by
 intro c hc
 have h1:=List.all_eq_true.1 h o (by
  have:=Array.mem_of_getElem? ho
  simpa using this)
 rw[hc] at h1
 cases h1
section
variable {F:Fence} {P:Program} {ops:Array Oper} {n:Nat}
theorem Xd {Q':Exit→Act→World→Prop}:∀ (l:List Oper) (k:Nat) (listed:Array Bool) (a:Act) (W:World),(∀ j,j<l.length→l[j]?=ops[k+j]?)→XH ops l.length k listed=true→wpListIn F n P ops Q' l a W→wpAnyIn F n P .any ops Q' l.length listed a W
 | [],_,_,_,_,_,hB,h=>⟨by simpa [XH] using hB,h⟩
 |o :: l,k,listed,a,W,hl,hB,h=>by
  simp only[List.length_cons,XH,Bool.and_eq_true] at hB
  obtain⟨hr,hB'⟩:=hB
  have hr':Region.ready .any ops listed=[k]:=by simpa using hr
  have h0:ops[k]?=some o:=by simpa using (hl 0 (by simp)).symm
  refine⟨fun e=>(by rw[hr'] at e;cases e),fun i hi=>?_⟩
  rw[hr'] at hi
  obtain rfl:i=k:=by simpa using hi
  have hl':∀ j,j<l.length→l[j]?=ops[i+1+j]?:=fun j hj=>by have:=hl (j+1) (by simpa using hj);simpa [Nat.add_assoc,Nat.add_comm 1 j] using this
  refine wpOpIn_mono (fun a w hw=>Xd l (i+1) _ a w hl' hB' hw) ?_
  unfold wpOpIn
  simp only[h0]
  exact h
end
section
variable {F0:Fence} {R:Rel} {P:Program} {ops:Array Oper} {w0:World} {n:Nat}
theorem XK (HF:WideF F0) (HN:XU ops=true) {H:Nat→Option qO} {i:Nat} {o:Oper} {a:Act} {F:qE} {K:Act→qE→Prop} {K':Act→World→Prop} {Q':Exit→Act→World→Prop} {W:World} (hi:ops[i]?=some o)
  (hH:∀ i h,H i=some h→∀ p,qA R (h.φ p)) (hst:∀ k,qA R (F k)) (hW:R.r w0 W) (hF:∀ k,F k W)
  (hK:∀ a' F' W',K a' F'→(∀ k,qA R (F' k))→R.r w0 W'→(∀ k,F' k W')→K' a' W') (h:FOpG R P ops w0 H i o K a F):wpOpIn F0 n P ops Q' i K' a W:=by
 obtain⟨hh,hok,hn⟩:=h
 have go:∀ p W',R.r W W'→hh.φ p W'→K' (a.put o.dst (hh.f p)) W':=fun p W' he hφ=>by
  have hF':∀ k,upd F i o (hh.φ p) k W':=fun k=>by
   unfold upd
   split
   ·exact⟨hφ,fun j _=>hst j _ _ he (hF j)⟩
   ·exact hst k _ _ he (hF k)
  exact hK _ _ W' (hn p ⟨W',R.trans hW he,hF'⟩) (zF hst i o (hok.stable hH p)) (R.trans hW he) hF'
 unfold wpOpIn
 simp only[hi]
 rcases hok with ⟨x1,rfl⟩|⟨x1,x2,v,rfl,x3⟩|⟨x1,x2,x3⟩
 ·simp only[x1,Bool.false_eq_true,if_false]
  exact⟨fun f _=>HF.fn f,go () W (R.refl W) trivial⟩
 ·simp only[x1,if_true]
  obtain⟨w',hr,he⟩:=x3 W hW fun k _=>hF k
  refine⟨fun f _=>HF.fn f,?_⟩
  rw[Oper.semAt_eq _ _ _ (Yy HN hi),hr]
  exact go () w' he trivial
 ·simp only[x1,if_true]
  have h3:=x3 W hW fun k _=>hF k
  unfold Qs at h3
  refine⟨fun f _=>HF.fn f,?_⟩
  rw[Oper.semAt_eq _ _ _ (Yy HN hi)]
  generalize (execOp a.eval o).run P W=r at *
  cases r with
  |ok m w' =>
   cases m <;> simp only[zZ] at h3 <;> simp only[Oper.uponIn]
   case value u =>
    obtain⟨p,rfl,hp,he⟩:=h3
    exact go p w' he hp
   case skip =>
    obtain⟨p,e,hp,he⟩:=h3
    have:=go p w' he hp
    rwa [←e] at this
   case enter f args =>
    obtain⟨he,hcl⟩:=h3
    refine⟨fun h=>absurd h HF.depth,HF.call (hcl.mono fun e w'' ⟨p,he1,hp,he2⟩=>?_)⟩
    subst he1
    exact go p w'' (R.trans he he2) hp
  |halt x w'=>simp only[zZ] at h3
theorem Vb (HF:WideF F0) (HN:XU ops=true) {H:Nat→Option qO} (hH:∀ i h,H i=some h→∀ p,qA R (h.φ p)) {L:Array Bool} {t:Nat} {Q:Act→qE→Prop} {Q':Exit→Act→World→Prop}
  (hQ:∀ a F W,Q a F→R.r w0 W→(∀ k,F k W)→wpAnyIn F0 n P .any ops Q' t L a W) :
  ∀ (fuel:Nat) (listed:Array Bool) (a:Act) (F:qE) (W:World),(∀ k,qA R (F k))→R.r w0 W→(∀ k,F k W)→Jr R P ops w0 H L Q fuel listed a F→wpAnyIn F0 n P .any ops Q' (fuel+t) listed a W
 |0,listed,a,F,W,_,hW,hF,h=>by
  rw[h.1,Nat.zero_add]
  exact hQ a F W h.2 hW hF
 |fuel+1,listed,a,F,W,hst,hW,hF,h=>by
  rw[show fuel+1+t=fuel+t+1 by omega]
  refine⟨fun h0=>absurd h0 h.1,fun i hi=>?_⟩
  obtain⟨_,o,ho,_⟩:=mem_ready.1 hi
  exact XK HF HN ho hH hst hW hF (fun a' F' W' hk hst' hW' hF'=>Vb HF HN hH hQ fuel _ a' F' W' hst' hW' hF' hk) (h.2 i hi o ho)
theorem zE {id:Nat} {l:List Oper} {Q:Exit→Act→World→Prop} {a:Act} {w:World} (R:Rel) (H:Nat→Option qO) (M:List Bool) (t:Nat) (HF:WideF F0) (HN:XU l.toArray=true) (hm:P.follows .mixedOrders=true)
  (hs:Region.noSelect l.toArray=true) (ht:tailT l.toArray (QU l.length (l.length-t)) ((qp 0 l M).map (·.1))=true) (hc0:Yz l.toArray (Array.replicate l.length false)=true) (hB:Zy l.toArray (QU l.length (l.length-t)) ((qp 0 l M).map (·.1)) (Array.replicate l.length false)=true)
  (hseq:XH l.toArray t (l.length-t) (QU l.length (l.length-t))=true) (hfu:l.length=(qp 0 l M).length+t) (htl:(l.drop (l.length-t)).length=t)
  (hH:∀ i h,H i=some h→∀ p,qA R (h.φ p)) (hW:R.r w w.drew)
  (h:∀ K:Act→qE→Prop,(∀ a' F',(∀ W,R.r w W→(∀ k,F' k W)→wpListIn F0 n P l.toArray Q (l.drop (l.length-t)) a' W)→K a' F')→ZN R P l.toArray w H K (qp 0 l M) a (fun _ _=>True)):(Code.region id l.toArray true).wpIn F0 n P Q a w:=by
 have h:=h _ (fun a' F' hh=>hh)
 refine wpIn_region_any hm ?_
 have key:=kH (w0:=w) hH hs (fun _ _ h=>h.step) (Kw ht) (qp 0 l M) (Array.replicate l.length false) a (fun _ _=>True) (Jo hc0) (fun x hx=>by
  obtain⟨j,h1,h2⟩:=Jn l M 0 x hx
  refine⟨?_,List.mem_map.2 ⟨x,hx,rfl⟩⟩
  rw[h1,Nat.zero_add]
  simpa using h2) hB (fun _ _ _ _ _=>trivial) ⟨w.drew,hW,fun _=>trivial⟩ (fun _ _ _=>trivial) h
 have:=Vb (n:=n) (w0:=w) HF HN hH (t:=t) (Q':=Q) (fun a F W hq hW hF=>by
  have:=Xd (F:=F0) (n:=n) (l.drop (l.length-t)) (l.length-t) _ a W (fun j _=>by rw[List.getElem?_drop];simp) (by rw[htl];exact hseq) (hq W hW hF)
  rwa [htl] at this) _ _ _ _ w.drew (fun _ _ _ _ _=>trivial) hW (fun _=>trivial) key
 rw[←hfu] at this
 simpa using this
end
end Go.Proofs.YtpbniokljofedaaGreat
namespace Go.Proofs.YtpbniokljofedaaGreat
open Go.RowKit Go.Shelf
attribute [local go_sem] Oper.semAt_some
def TL (S:Sto) (a:Nat):Nat:=(S.last[a]?.getD 0).toNat
def ji (S:Sto) (a:Nat):Bool:=decide (8≤a) && (decide (Zx S a=0) && decide (TL S a=0))
def JT (S:Sto) (k:Nat):List Nat:=(List.range k).filter (ji S)
def JZ (S:Sto):List Nat:=JT S 256
theorem Xk (S:Sto) (k:Nat):JT S (k+1)=if ji S k=true then JT S k++[k] else JT S k:=by
 unfold JT
 rw[List.range_succ,List.filter_append]
 by_cases h:ji S k=true
 ·rw[if_pos h];simp[h]
 ·rw[if_neg h];simp[h]
theorem qcL (S:Sto) {k m:Nat} (h:k≤m):JT S k <+: JT S m:=by
 induction m with
 |zero =>
  obtain rfl:k=0:=by omega
  exact List.prefix_refl _
 |succ m ih =>
  rcases Nat.lt_or_ge m k with h1|h1
  ·obtain rfl:k=m+1:=by omega
   exact List.prefix_refl _
  ·refine(ih h1).trans ?_
   rw[Xk]
   split
   ·exact List.prefix_append _ _
   ·exact List.prefix_refl _
theorem nowN_lt (S:Sto) (a:Nat):Zx S a<256:=UInt8.toNat_lt _
theorem lastN_lt (S:Sto) (a:Nat):TL S a<256:=UInt8.toNat_lt _
theorem or_zero (a b:Nat) (ha:a<256) (hb:b<256):(bits .or .u8 (a:Int) (b:Int) == 0)=(decide (a=0) && decide (b=0)):=by
 have e:bits .or .u8 (a:Int) (b:Int)=((a ||| b:Nat):Int):=by
  have e:∀ n:Nat,n<256→(BitVec.ofInt 8 (n:Int)).toNat=n:=fun n hn=>by simp[BitVec.ofInt_natCast];omega
  have hx:a ||| b<2 ^ 8:=Nat.or_lt_two_pow (by omega) (by omega)
  show IntKind.u8.wrap (((BitVec.ofInt 8 (a:Int) ||| BitVec.ofInt 8 (b:Int)).toNat:Nat):Int)=_
  rw[BitVec.toNat_or,e a ha,e b hb]
  simp[IntKind.wrap,IntKind.bits,IntKind.signed]
  omega
 rw[e]
 by_cases h:a=0∧b=0
 ·obtain⟨rfl,rfl⟩:=h;rfl
 ·have h2:a ||| b≠0:=by
   intro h3
   have h4:a≤a ||| b:=Nat.left_le_or
   have h5:b≤a ||| b:=Nat.right_le_or
   exact h ⟨by omega,by omega⟩
  have h6:(decide (a=0) && decide (b=0))=false:=by
   rcases Nat.eq_zero_or_pos a with h7|h7
   ·have:b≠0:=fun h8=>h ⟨h7,h8⟩
    simp[this]
   ·simp[show a≠0 by omega]
  rw[h6]
  simpa using fun h9:((a ||| b:Nat):Int)=0=>h2 (by omega)
end Go.Proofs.YtpbniokljofedaaGreat
namespace Go.Proofs.YtpbniokljofedaaGreat
open Go.RowKit

def RefsQ (S:Sto) (root next:Int) (dead:List Int) (w:World) (e:Ending) (w':World):Prop:=Below w.heap.size w w' ∧
 ((e=.returned (.tuple #[.slice none 0 0,.int .i64 8])∧∀ vs,QT S root next dead vs→∃ refs nodes,qU S (QI root dead vs) refs nodes∧¬zQ S refs) ∨
  ∃ vs refs nodes cb ca vv lo,e=.returned (.tuple #[.slice (some ⟨cb,6,none⟩) 256 256,.int .i64 0])∧w.heap.size≤lo∧Taken S root next dead vs refs nodes lo cb ca vv w')
theorem qaN {R:Ending→World→Prop} {a:Act} {W:World} {u v:Value} (h2:a.tmps[2]?.getD undef=u) (h3:a.tmps[3]?.getD undef=v) (hd:a.defers=[]) (hR:R (.returned (.tuple #[u,v])) W):bodyPost Tryz.prog Tryz.f19 R .ret a W:=by
 refine bodyPost_ret (v:=.tuple #[u,v]) ?_ hd hR
 simp[results,Tryz.results19,go_sem,h2,h3]
set_option maxHeartbeats 2000000 in
set_option maxRecDepth 100000 in
theorem refs_any (A1:Option Addr) (n1 c1:Nat) (A2:Option Addr) (n2 c2:Nat) (A3:Option Addr) (n3 c3:Nat) (A4:Option Addr) (n4 c4:Nat) (gen root next:Int) (A5:Option Addr) (c5:Nat) (S:Sto) (dead:List Int) (w:World)
  (h:Qc w w.heap.size (.slice A1 n1 c1) (.slice A2 n2 c2) (.slice A3 n3 c3) (.slice A4 n4 c4) S) (hd:Zu w w.heap.size (.slice A5 dead.length c5) dead) :
  Calls Tryz.prog 19 #[.agg (Qo (.slice A1 n1 c1) (.slice A2 n2 c2) (.slice A3 n3 c3) (.slice A4 n4 c4) gen root next (.slice A5 dead.length c5))] w (RefsQ S root next dead w):=by
 have HT:=zH (fun W (hx:Ext w W)=>vV A1 n1 c1 A2 n2 c2 A3 n3 c3 A4 n4 c4 gen root next A5 c5 S dead W (h.ext hx) (by
  obtain⟨A,c,e,q1,q2,q3⟩:=hd
  exact⟨A,c,e,q1,q2,(q3.below hx).more hx.size⟩))
 clear h hd
 go_enter Tryz.func19,Tryz.ntmps19
 go_wp2_with fail
 generalize hw1:World.alloc w _=w1
 have x1:Ext w w1:=by rw[←hw1];exact Ext.alloc _ _
 clear hw1
 refine(HT.out w1 x1).mono ?_
 rintro e w2 ⟨hB,hQ⟩
 have x2:Below w.heap.size w w2:=Ext.trans x1 hB
 rcases hQ with ⟨rfl,hno⟩|⟨vs,refs,nodes,cb,ca,vv,rfl,hT⟩
 ·have HB:RefsQ S root next dead w (.returned (.tuple #[.slice none 0 0,.int .i64 8])) w2:=⟨x2,.inl ⟨rfl,hno⟩⟩
  replace HB:=zH HB
  clear hno hB
  go_wp2_with fail
  exact qaN rfl rfl rfl HB.out
 ·have HB:RefsQ S root next dead w (.returned (.tuple #[.slice (some ⟨cb,6,none⟩) 256 256,.int .i64 0])) w2:=⟨x2,.inr ⟨vs,refs,nodes,cb,ca,vv,_,rfl,x1.size,hT⟩⟩
  replace HB:=zH HB
  clear hT hB
  go_wp2_with fail
  exact qaN rfl rfl rfl HB.out
def JR (nodes:Nat→Nat) (k:Nat):List Nat:=(List.range k).filter fun a=>decide (0<nodes a)
theorem qcI (nodes:Nat→Nat) (k:Nat):JR nodes (k+1)=if 0<nodes k then JR nodes k++[k] else JR nodes k:=by
 unfold JR
 rw[List.range_succ,List.filter_append]
 by_cases h:0<nodes k
 ·rw[if_pos h];simp[h]
 ·rw[if_neg h];simp[h]
theorem qeL (nodes:Nat→Nat) (k:Nat):(JR nodes k).length≤k:=by
 unfold JR
 exact Nat.le_trans (List.length_filter_le _ _) (by simp)
def qcy (S:Sto) (root next:Int) (dead:List Int) (w:World) (e:Ending) (w':World):Prop:=Below w.heap.size w w' ∧
 ((e=.returned (.tuple #[.slice none 0 0,.int .i64 8])∧∀ vs,QT S root next dead vs→∃ refs nodes,qU S (QI root dead vs) refs nodes∧¬zQ S refs) ∨
  ∃ vs refs nodes v lo,e=.returned (.tuple #[v,.int .i64 0])∧w.heap.size≤lo∧QT S root next dead vs∧qU S (QI root dead vs) refs nodes∧zQ S refs∧w'.ownsRow lo 3 1 v (JR nodes 256).length (Vi (JR nodes 256)))
structure N1 (nodes:Nat→Nat) (w2:World) (v i:Value) (wr:World):Prop where
 ex:∃ k:Nat,k≤256∧i=.int .i64 (k:Int)∧wr.ownsRow w2.heap.size 3 1 v (JR nodes k).length (Vi (JR nodes k))∧Ext w2 wr
theorem UL {R:Ending→World→Prop} {a:Act} {W:World} {u v:Value} (h2:a.tmps[2]?.getD undef=u) (h3:a.tmps[3]?.getD undef=v) (hd:a.defers=[]) (hR:R (.returned (.tuple #[u,v])) W):bodyPost Tryz.prog Tryz.f21 R .ret a W:=by
 refine bodyPost_ret (v:=.tuple #[u,v]) ?_ hd hR
 simp[results,Tryz.results21,go_sem,h2,h3]
set_option maxHeartbeats 2000000 in
set_option maxRecDepth 100000 in
theorem nodes_any (A1:Option Addr) (n1 c1:Nat) (A2:Option Addr) (n2 c2:Nat) (A3:Option Addr) (n3 c3:Nat) (A4:Option Addr) (n4 c4:Nat) (gen root next:Int) (A5:Option Addr) (c5:Nat) (S:Sto) (dead:List Int) (w:World)
  (h:Qc w w.heap.size (.slice A1 n1 c1) (.slice A2 n2 c2) (.slice A3 n3 c3) (.slice A4 n4 c4) S) (hd:Zu w w.heap.size (.slice A5 dead.length c5) dead) :
  Calls Tryz.prog 21 #[.agg (Qo (.slice A1 n1 c1) (.slice A2 n2 c2) (.slice A3 n3 c3) (.slice A4 n4 c4) gen root next (.slice A5 dead.length c5))] w (qcy S root next dead w):=by
 have HT:=zH (fun W (hx:Ext w W)=>vV A1 n1 c1 A2 n2 c2 A3 n3 c3 A4 n4 c4 gen root next A5 c5 S dead W (h.ext hx) (by
  obtain⟨A,c,e,q1,q2,q3⟩:=hd
  exact⟨A,c,e,q1,q2,(q3.below hx).more hx.size⟩))
 clear h hd
 go_enter Tryz.func21,Tryz.ntmps21
 go_wp2_with fail
 generalize hw1:World.alloc w _=w1
 have x1:Ext w w1:=by rw[←hw1];exact Ext.alloc _ _
 clear hw1
 refine(HT.out w1 x1).mono ?_
 rintro e w2 ⟨hB,hQ⟩
 have x2:Below w.heap.size w w2:=Ext.trans x1 hB
 rcases hQ with ⟨rfl,hno⟩|⟨vs,refs,nodes,cb,ca,vv,rfl,hT⟩
 ·have HB:qcy S root next dead w (.returned (.tuple #[.slice none 0 0,.int .i64 8])) w2:=⟨x2,.inl ⟨rfl,hno⟩⟩
  replace HB:=zH HB
  clear hno hB
  go_wp2_with fail
  exact UL rfl rfl rfl HB.out
 ·have hcc:∀ j v,(VY nodes)[j]?=some v→w2.cell? ⟨cb,262+j,none⟩=some v:=fun j v hj=>by
   obtain⟨h1,rfl⟩:=qdm hj
   rw[qa hT.row]
   exact hT.ar.node j h1
  replace hT:=zH hT
  clear hB
  go_wp2_with (refine Va rfl 82 (.tmp 17) rfl cb 262 rfl (VY nodes) _ hcc Tryz.underlying82 rfl (by rw[show (VY nodes).length=256 by simp[VY]];kernel_rfl) ?_)
  clear hcc
  go_loopw [2,19] (fun v i wq=>N1 nodes w2 v i wq) (fun _ i _=>256-(intOf i).toNat)
  case atStart=>exact⟨0,by omega,rfl,World.ownsRow_nil _ _ _ _,Ext.refl _⟩
  case round =>
   obtain⟨k,hk,rfl,own,xr⟩:=hrel.ex
   clear hrel
   by_cases hlt:k<256
   ·have hix:=Ks (cs:=(VY nodes).toArray) hlt (v:=.int .i64 (nodes k)) (by rw[List.getElem?_toArray];exact TP nodes hlt)
    have hml:=qeL nodes k
    generalize (VY nodes).toArray=arr at *
    obtain⟨AR,cR,rfl,hcr1,hcr2⟩:=qJ own
    clear hcr1 hcr2
    replace own:=zH own
    replace xr:=zH xr
    have hsu:=zH (qcI nodes k)
    rcases Nat.eq_zero_or_pos (nodes k) with h0|h0
    ·have hc1:decide ((nodes k:Int)>0)=false:=decide_eq_false (by omega)
     have hc2:decide (0<nodes k)=false:=decide_eq_false (by omega)
     have IR:N1 nodes w2 (.slice AR (JR nodes k).length cR) (.int .i64 ((k:Int)+1)) wr:=⟨k+1,hlt,rfl,by rw[hsu.out,if_neg (by omega)];exact own.out,xr.out⟩
     replace IR:=zH IR
     replace h0:=zH h0
     go_wp2_with fail
     refine⟨IR.out,?_⟩
     simp[intOf]
     omega
    ·have hc1:decide ((nodes k:Int)>0)=true:=decide_eq_true (by omega)
     have hc2:decide (0<nodes k)=true:=decide_eq_true h0
     obtain⟨i0,hi,hz0,hz1,hz2⟩:=info_parts Tryz.info_int
     replace hml:=zH hml
     replace h0:=zH h0
     go_wp2_with (at_builtin;refine qQ ?_)
     refine Qt.go (Zh _ rfl (.tmp 25) (.tmp 27) 30 rfl w2.heap.size 3 i0 (.int .i64 0) 1 8 Tryz.underlying30 hi hz0 hz1 hz2 rfl (by decide) _ _ _ rfl own.out #[.int .i64 (k:Int)] rfl rfl (by simp[Value.oneCell']) (by have:=hml.out;omega) (by decide) xr.out.size ?_)
     intro v8 w8 own8 _ hB8 _
     have IR:N1 nodes w2 v8 (.int .i64 ((k:Int)+1)) w8:=⟨k+1,hlt,rfl,by
      rw[hsu.out,if_pos h0.out,KD,List.length_append,List.length_singleton]
      exact own8,Below.trans xr.out hB8⟩
     replace IR:=zH IR
     clear own8 hB8 hi hz0 hz1 hz2
     go_wp2_with fail
     refine⟨IR.out,?_⟩
     simp[intOf]
     omega
   ·obtain rfl:k=256:=by omega
    have HB:qcy S root next dead w (.returned (.tuple #[_,.int .i64 0])) wr:=⟨x2.trans (Below.mono xr x2.size),.inr ⟨vs,refs,nodes,_,w2.heap.size,rfl,x2.size,hT.out.pool,hT.out.cnt,hT.out.enough,own⟩⟩
    replace HB:=zH HB
    replace own:=zH own
    replace xr:=zH xr
    go_wp2_with fail
    exact UL rfl rfl rfl HB.out
end Go.Proofs.YtpbniokljofedaaGreat
namespace Go.Proofs.YtpbniokljofedaaGreat
open Go.RowKit Go.Shelf
attribute [local go_sem] Oper.semAt_some

end Go.Proofs.YtpbniokljofedaaGreat
namespace Go.Proofs.YtpbniokljofedaaGreat
open Go.RowKit
section
variable {F0:Fence} {P:Program} {ops:Array Oper} {n:Nat}
end


end Go.Proofs.YtpbniokljofedaaGreat
namespace Go.Proofs.YtpbniokljofedaaGreat
open Go.RowKit Go.Shelf
attribute [local go_sem] Oper.semAt_some
def QA (S:Sto):Nat:=(JZ S).headD 0
def Th (S:Sto) (a:Nat) (data:List UInt8):Sto:=⟨S.bs,S.ws++[((a:Int),data)],S.now.set a 1,S.last⟩
theorem KeepsOthers.of_ext {W W':World} (h:Ext W W'):KeepsOthers W W':=⟨h.size,fun k _ hk _=>(h.block k (zG.1 hk).1).trans hk⟩
theorem TR {w W:World} {x0 x1 x2 x3 y z:Value} {ty1 ty2 ty3:TypeId} {u0 u1 u2 u3 u5 u6:Value} (r4:W.heap[w.heap.size+2]?=some (.cells #[u0,u1,u2,u3] ty1 (0,0))) (r5:W.heap[w.heap.size+3]?=some (.cells #[u5] ty2 (0,0))) (r6:W.heap[w.heap.size+4]?=some (.cells #[u6] ty3 (0,0))) {C:World}
  (hC:C=((((((W.setCell ⟨w.heap.size+1+1,0,none⟩ x0).setCell ⟨w.heap.size+1+1,1,none⟩ x1).setCell ⟨w.heap.size+1+1,2,none⟩ x2).setCell ⟨w.heap.size+1+1,3,none⟩ x3).setCell ⟨w.heap.size+1+1+1,0,none⟩ y).setCell ⟨w.heap.size+1+1+1+1,0,none⟩ z)) :
  C.heap[w.heap.size+2]?=some (.cells #[x0,x1,x2,x3] ty1 (0,0))∧C.heap[w.heap.size+3]?=some (.cells #[y] ty2 (0,0))∧C.heap[w.heap.size+4]?=some (.cells #[z] ty3 (0,0))∧(∀ {B:Nat} {w0:World},B≤w.heap.size+2→Below B w0 W→Below B w0 C)∧C.heap.size=W.heap.size∧(∀ k,w.heap.size+5≤k→C.heap[k]?=W.heap[k]?)∧KeepsOthers W C:=by
 subst hC
 have hs:=fun (A:World) (b j:Nat) (v:Value) (k:Nat) (hk:k≠b)=>Below.heap_setCell A ⟨b,j,none⟩ v k hk
 refine⟨?_,?_,?_,fun hB h=>?_,by simp,fun k hk=>?_,?_⟩
 ·rw[hs _ _ _ _ _ (by omega),hs _ _ _ _ _ (by omega)]
  exact Uc r4 x0 x1 x2 x3
 ·rw[hs _ _ _ _ _ (by omega)]
  refine qj (t:=ty2) (cs:=#[u5]) ?_ 0 y
  rw[hs _ _ _ _ _ (by omega),hs _ _ _ _ _ (by omega),hs _ _ _ _ _ (by omega),hs _ _ _ _ _ (by omega)]
  exact r5
 ·refine qj (t:=ty3) (cs:=#[u6]) ?_ 0 z
  rw[hs _ _ _ _ _ (by omega),hs _ _ _ _ _ (by omega),hs _ _ _ _ _ (by omega),hs _ _ _ _ _ (by omega),hs _ _ _ _ _ (by omega)]
  exact r6
 ·exact Below.setCell (Below.setCell (jD h (b:=w.heap.size+1+1) (by omega) x0 x1 x2 x3) (p:=⟨w.heap.size+1+1+1,0,none⟩) (by simp;omega) _) (p:=⟨w.heap.size+1+1+1+1,0,none⟩) (by simp;omega) _
 ·rw[hs _ _ _ _ _ (by omega),hs _ _ _ _ _ (by omega),hs _ _ _ _ _ (by omega),hs _ _ _ _ _ (by omega),hs _ _ _ _ _ (by omega),hs _ _ _ _ _ (by omega)]
 ·exact(((((KeepsOthers.setCell _ _ _).trans (KeepsOthers.setCell _ _ _)).trans (KeepsOthers.setCell _ _ _)).trans (KeepsOthers.setCell _ _ _)).trans (KeepsOthers.setCell _ _ _)).trans (KeepsOthers.setCell _ _ _)
end Go.Proofs.YtpbniokljofedaaGreat
namespace Go.Proofs.YtpbniokljofedaaGreat
open Go.RowKit
def jH (t:List UInt8) (a:Nat):Except Int (List UInt8):=if a=0 then .ok t else if zL t a=0 then .error 6 else if zL t a=255 then .error 70 else .ok (KH t a 1)
def Zg:List Nat→List UInt8→Except Int (List UInt8)
 | [],t=>.ok t
 |a :: r,t=>match jH t a with
  | .error e=>.error e
  | .ok t'=>Zg r t'
theorem jN:∀ (l r:List Nat) (t:List UInt8),Zg (l++r) t=match Zg l t with
  | .error e=>.error e
  | .ok t'=>Zg r t'
 | [],_,_=>rfl
 |a :: l,r,t=>by
  simp only[List.cons_append,Zg]
  cases jH t a with
  |error e=>rfl
  |ok t'=>exact jN l r t'
theorem TF (a:Nat) (t:List UInt8):Zg [a] t=jH t a:=by
 simp only[Zg]
 cases jH t a <;> rfl
def Qb (its:List It):List Nat:=its.map fun x=>x.r.toNat
theorem vG {its:List It} {k:Nat} (hk:k<its.length):Qb (its.take (k+1))=Qb (its.take k)++[(its[k].r).toNat]:=by
 unfold Qb
 rw[List.take_succ_eq_append_getElem hk,List.map_append]
 rfl
theorem qcT {its:List It} (k:Nat):Qb its=Qb (its.take k)++Qb (its.drop k):=by
 unfold Qb
 rw[←List.map_append,List.take_append_drop]
theorem qdb {its:List It} {k:Nat} (hk:k<its.length) {t t':List UInt8} {e:Int} (h:Zg (Qb (its.take k)) t=.ok t') (h1:jH t' (its[k].r).toNat=.error e):Zg (Qb its) t=.error e:=by
 rw[qcT (its:=its) (k+1),jN,vG hk,jN,h]
 simp only[TF,h1]
theorem qbL {its:List It} {k:Nat} (hk:k<its.length) {t t' t'':List UInt8} (h:Zg (Qb (its.take k)) t=.ok t') (h1:jH t' (its[k].r).toNat=.ok t''):Zg (Qb (its.take (k+1))) t=.ok t'':=by
 rw[vG hk,jN,h]
 simp only[TF,h1]
def zu (S:Sto) (lvl:Int) (its:List It):Except Int (Nat×Sto):=
 if qX lvl its=true then
  match Zg (Qb its) S.now with
  | .error e=>.error e
  | .ok t=>if JZ (qF S t)=[]∨S.ws.length=4096 then .error 9 else .ok (QA (qF S t),Th (qF S t) (QA (qF S t)) (ZF (zo lvl its)))
 else .error 8
section
variable {D:Nat→Prop} {B lo b g:Nat} {k:Option Nat} {S:Sto} {w W:World}
theorem Bch.lens (h:Bch D B lo b g k S w):S.now.length=256∧S.last.length=256:=by
 obtain⟨A1,n1,c1,v2,c3,A4,c4,hr,ho,-,-,h4⟩:=h.ex
 have:=ho.1
 have h5:=h4.at_.1
 exact⟨by simpa using this,h5.symm⟩
theorem Bch.cells (h:Bch D B lo b g k S w):∃ A1 n1 c1 v2 c3 A4 c4,(∀ i,w.cell? ⟨b,i,none⟩=#[.slice A1 n1 c1,v2,.slice (some ⟨g,0,none⟩) 256 c3,.slice A4 256 c4][i]?)∧(∀ a,a<256→w.cell? ⟨g,a,none⟩=some (.int .u8 (Zx S a:Int)))∧(∀ a,w.frozen? ⟨g,a,none⟩=false):=by
 obtain⟨A1,n1,c1,v2,c3,A4,c4,hr,ho,-,-,-⟩:=h.ex
 obtain⟨h1,h2,-,-⟩:=Zc ho
 exact⟨A1,n1,c1,v2,c3,A4,c4,qa hr,h1,h2⟩
end
theorem KK {R:Ending→World→Prop} {a:Act} {W:World} {v:Value} (h4:a.tmps[4]?.getD undef=v) (hd:a.defers=[]) (hR:R (.returned v) W):bodyPost Tryz.prog Tryz.f156 R .ret a W:=by
 refine bodyPost_ret (v:=v) ?_ hd hR
 simp[results,Tryz.results156,go_sem,h4]
set_option maxHeartbeats 2000000 in
set_option maxRecDepth 100000 in
theorem qcv (D:Nat→Prop) (B lo b g:Nat) (k:Option Nat) (S:Sto) (a:Nat) (ha:a<256) (w:World) (h:Bch D B lo b g k S w) :
  Calls Tryz.prog 156 #[.pointer (some ⟨b,0,none⟩),.int .i64 (a:Int)] w fun e W=>qS lo b g k w W ∧
   ((zL S.now a=0∧e=.returned (.int .i64 6))∨(zL S.now a=255∧e=.returned (.int .i64 70))∨(zL S.now a≠0∧zL S.now a≠255∧e=.returned (.int .i64 0)∧Bch D B lo b g k (qF S (KH S.now a 1)) W)):=by
 obtain⟨A1,n1,c1,v2,c3,A4,c4,kr,hk,hf⟩:=h.cells
 have hka:=hk a ha
 have hfa:=hf a
 have hT:Hid (KH S.now a 1=S.now.set a (UInt8.ofNat (zL S.now a+1))):=rfl
 have hset:=zH (h.count ha (UInt8.ofNat (zL S.now a+1)))
 have hcn:Zx S a=zL S.now a:=rfl
 have hc2:=(S.now[a]?.getD 0).toNat_lt
 have hc:zL S.now a=(S.now[a]?.getD 0).toNat:=rfl
 rw[hcn] at hka
 rw[←hc] at hc2
 have hwv:=qdL (zL S.now a+1)
 generalize zL S.now a=nv at *
 clear hk hf hc hcn h
 by_cases h0:nv=0
 ·subst h0
  clear hset hT hwv
  go_enter Tryz.func156,Tryz.ntmps156
  go_wp2_with fail
  exact KK rfl rfl ⟨qS.refl _ _ _ _ _,.inl ⟨by trivial,rfl⟩⟩
 ·have hz1:((nv:Int) == 0)=false:=by rw[beq_eq_false_iff_ne];omega
  have hz2:decide (nv=0)=false:=decide_eq_false (by omega)
  by_cases h1:nv=255
  ·subst h1
   clear hset hT hwv
   go_enter Tryz.func156,Tryz.ntmps156
   go_wp2_with fail
   exact KK rfl rfl ⟨qS.refl _ _ _ _ _,.inr (.inl ⟨by trivial,rfl⟩)⟩
  ·have hz3:((nv:Int) == 255)=false:=by rw[beq_eq_false_iff_ne];omega
   have hz4:decide (nv=255)=false:=decide_eq_false (by omega)
   replace h0:=zH h0
   replace h1:=zH h1
   rw[show ((nv+1:Nat):Int)=(nv:Int)+1 from rfl] at hwv
   go_enter Tryz.func156,Tryz.ntmps156
   go_wp2_with fail
   refine KK rfl rfl ⟨hset.out.2,.inr (.inr ⟨h0.out,h1.out,rfl,?_⟩)⟩
   rw[hT.out]
   exact hset.out.1
set_option maxHeartbeats 2000000 in
set_option maxRecDepth 100000 in
theorem XB (D:Nat→Prop) (B lo b g:Nat) (k:Option Nat) (S:Sto) (a:Nat) (ha:a<256) (w:World) (h:Bch D B lo b g k S w) :
  Calls Tryz.prog 133 #[.pointer (some ⟨b,0,none⟩),.int .i64 (a:Int)] w fun e W=>qS lo b g k w W ∧
   ((zL S.now a=0∧e=.returned (.int .i64 6))∨(zL S.now a≠0∧e=.returned (.int .i64 0)∧Bch D B lo b g k (qF S (YR S.now a)) W)):=by
 obtain⟨A1,n1,c1,v2,c3,A4,c4,kr,hk,hf⟩:=h.cells
 have hka:=hk a ha
 have hfa:=hf a
 have hT:Hid (YR S.now a=S.now.set a (UInt8.ofNat (zL S.now a-1))):=rfl
 have hset:=zH (h.count ha (UInt8.ofNat (zL S.now a-1)))
 have hcn:Zx S a=zL S.now a:=rfl
 have hc2:=(S.now[a]?.getD 0).toNat_lt
 have hc:zL S.now a=(S.now[a]?.getD 0).toNat:=rfl
 rw[hcn] at hka
 rw[←hc] at hc2
 generalize zL S.now a=nv at *
 clear hk hf hc hcn h
 by_cases h0:nv=0
 ·subst h0
  clear hset hT
  go_enter Tryz.func133,Tryz.ntmps133
  go_wp2_with fail
  exact Ub rfl rfl ⟨qS.refl _ _ _ _ _,.inl ⟨by trivial,rfl⟩⟩
 ·have hz1:((nv:Int) == 0)=false:=by rw[beq_eq_false_iff_ne];omega
  have hz2:decide (nv=0)=false:=decide_eq_false (by omega)
  have hwv:=qdv (n:=nv) (by omega) hc2
  replace h0:=zH h0
  go_enter Tryz.func133,Tryz.ntmps133
  go_wp2_with fail
  refine Ub rfl rfl ⟨hset.out.2,.inr ⟨h0.out,rfl,?_⟩⟩
  rw[hT.out]
  exact hset.out.1
theorem UD {P:Program} (w:World) (t ty:TypeId) (e:TypeId) (i:TypeInfo) (z:Value) (size bytes:Nat) (ht:P.underlying t=some (.slice e)) (hi:P.info? e=some i) (hz:i.zero=some z)
  (hsize:i.size=size) (hby:i.bytes=bytes) (hzs:z.cells.size=size) (hsz:0<size)
  (B:Nat) (A:Option Addr) (n:Nat) (xs:List Value) (hr:Rd w B size A n xs) (cs:Array Value) (hl:cs.size=size) (h1:∀ u∈cs.toList,u.oneCell'=true)
  (hn:n<1073741824) (hbytes:bytes≤65536) :
  ∃ v' w',(Builtin.append_ #[t,t] ty #[.slice A n n,.slice (some ⟨w.heap.size,0,none⟩) 1 1]).run P (w.alloc (.cells cs e))=.ok v' w'∧w'.ownsRow (w.heap.size+1) e size v' (n+1) (xs++cs.toList)∧Ext w w'∧v'.ownBlock=some (w.heap.size+1):=by
 have hb:(n+1)*bytes≤140737488355328:=Nat.le_trans (Nat.mul_le_mul_left _ hbytes) (by omega)
 have hm:n+1≤maxLen:=by unfold maxLen;omega
 have hm2:((n+1:Nat):Int)≤9223372036854775807:=by omega
 rcases A with _|ad
 ·have hn0:n=0:=by
   rcases Nat.eq_zero_or_pos n with h0|h0
   ·exact h0
   ·obtain⟨b,off,h,_⟩:=hr.2 h0
    cases h
  subst hn0
  have hx:xs=[]:=List.eq_nil_of_length_eq_zero (by simpa using hr.1)
  subst hx
  obtain⟨v',w',hrun,h2,h3,h4,h5⟩:=run_append_own_at (P:=P) (w.alloc (.cells cs e)) (w.heap.size+1) t ty e i z size bytes ht hi hz hsize hby hzs hsz (.slice none 0 0) 0 [] (World.ownsRow_nil _ _ _ _) ⟨w.heap.size,0,none⟩ 1 1 cs.toList
   (by rw[Array.length_toList];omega) (Yr w cs e) h1 hm hb (by simp)
  refine⟨v',w',hrun,h2,Ext.trans (Ext.alloc w (.cells cs e)) ((Below.refl _ _).grown h3 (Nat.le_refl _) (fun k hk=>by cases hk)),?_⟩
  rcases h5 with h5|h5
  ·exfalso
   rcases h2.2 with ⟨e0,_⟩|⟨g,cap,cur,e0,_⟩
   ·have:=(h4.1 e0).2
    omega
   ·rw[e0] at h5
    cases h5
  ·rw[h5];simp
 ·have hcells:∀ j u,xs[j]?=some u→w.cell? (ad.add j)=some u:=by
   intro j u hu
   rcases Nat.eq_zero_or_pos n with h0|h0
   ·subst h0
    have hx:xs=[]:=List.eq_nil_of_length_eq_zero (by simpa using hr.1)
    subst hx
    simp at hu
   ·obtain⟨b,off,h,_⟩:=hr.2 h0
    injection h with h
    subst h
    exact hr.adds h0 j u hu
  subst hsize
  subst hby
  have hr':=run_append_grow (P:=P) (w.alloc (.cells cs e)) t ty e i z ht hi hz ad n n xs hr.1 (fun j u hu=>Ext.cell (Ext.alloc w _) (hcells j u hu)) ⟨w.heap.size,0,none⟩ 1 1 cs.toList (by rw[Array.length_toList];omega) (Yr w cs e) (by omega) hm2 (growslice_fits (by omega) hb)
  refine⟨_,_,hr',?_,(Ext.alloc w _).trans ((Ext.drew _).trans (Ext.alloc _ _)),by simp[Value.ownBlock]⟩
  have hge:=grownCap_ge (w.alloc (.cells cs e)) (n+1) n e
  have hcm:grownCap (w.alloc (.cells cs e)) (n+1) n e≤maxLen:=grownCap_le_maxLen _ (n+1) n e hm
  have hlen:(xs++cs.toList).length=(n+1)*i.size:=by rw[List.length_append,hr.1,Array.length_toList,hl,Nat.add_mul,Nat.one_mul]
  refine⟨hlen,.inr ⟨_,_,_,rfl,by simp,heap_alloc_new (w.alloc (.cells cs e)).drew _,hge,hcm,?_,?_⟩⟩
  ·simp only[Array.size_append,List.size_toArray,size_zeroCells,hzs,hr.1,Array.length_toList,hl]
   rw[←Nat.succ_mul,←Nat.add_mul]
   congr 1
   omega
  ·simp only[Array.toList_append,List.append_assoc]
   rw[←List.append_assoc,←hlen]
   exact List.take_left
theorem WsB.push {D:Nat→Prop} {B lo b g:Nat} {k:Option Nat} {v:Value} {ws:List (Int×List UInt8)} {w:World} (h:WsB D B lo b g k v ws w) (hlo:lo≤w.heap.size) (hk:∀ q,k=some q→¬(q<B∨D q)) (hws:ws.length<1073741824) (at_:Int) (A0:Option Addr) (c0:Nat) (l:List UInt8) (hd:∀ C,qP (KT B D) w C→Bys C C.heap.size (.slice A0 l.length c0) l) (ty:TypeId) :
  ∃ v' w' k',(Builtin.append_ #[23,23] ty #[v,.slice (some ⟨w.heap.size,0,none⟩) 1 1]).run Tryz.prog (w.alloc (.cells #[.int .i64 at_,.slice A0 l.length c0] 130))=.ok v' w'∧WsB D B lo b g k' v' (ws++[(at_,l)]) w'∧qS lo b g k w w'∧QV w.heap.size k k' ∧
   (∀ q,q<w.heap.size→k≠some q→w'.heap[q]?=w.heap[q]?):=by
 obtain⟨i0,hi,hz0,hz1,hz2⟩:=info_parts Tryz.info_write
 obtain⟨ps,rfl,hw,hp⟩:=h
 have h1:∀ u∈(#[.int .i64 at_,.slice A0 l.length c0]:Array Value).toList,u.oneCell'=true:=by simp[Value.oneCell']
 rw[List.length_map] at hws hw
 have fin:∀ (v':Value) (w':World) (k':Option Nat),w'.ownsRow lo 130 2 v' (ps.length+1) (QO ps++[.int .i64 at_,.slice A0 l.length c0])→(∃ q,v'.ownBlock=some q∧k'=some q)→(∀ q,q<w.heap.size→k≠some q→w'.heap[q]?=w.heap[q]?)→WsB D B lo b g k' v' (ps.map (·.1)++[(at_,l)]) w':=fun v' w' k' ho ⟨q,hq1,hq2⟩ hR=>by
  have hX:qP (KT B D) w w':=KT.keep fun q hq h1=>hR q hq fun e=>hk q e h1
  refine⟨ps++[((at_,l),.slice A0 l.length c0)],by simp,.inr ⟨q,hq2,hq1,by rw[qaF];simpa using ho⟩,fun p hpm=>?_⟩
  rcases List.mem_append.1 hpm with hpm|hpm
  ·exact⟨(hp p hpm).1,fun C hC=>(hp p hpm).2 C (hX.trans hC fun _ _ h=>h)⟩
  ·obtain rfl:p=((at_,l),.slice A0 l.length c0):=by simpa using hpm
   exact⟨⟨A0,c0,rfl⟩,fun C hC=>hd C (hX.trans hC fun _ _ h=>h)⟩
 rcases hw with ⟨rfl,hm,A,rfl,hr⟩|⟨q,rfl,hq,ho⟩
 ·obtain⟨v',w',hrun,h2,hx,hb⟩:=UD (P:=Tryz.prog) w 23 ty 130 i0 (.agg #[.int .i64 0,.slice none 0 0]) 2 32 Tryz.underlying23 hi hz0 hz1 hz2 rfl (by decide) B A ps.length (QO ps) hr #[.int .i64 at_,.slice A0 l.length c0] rfl h1 hws (by decide)
  have hN:QV w.heap.size none (some (w.heap.size+1)):=fun q hq=>.inr (by cases hq;omega)
  have hB:qS lo b g none w w':=qS.of_ext hx hlo
  exact⟨v',w',some (w.heap.size+1),hrun,fin v' w' _ (Qu h2 (by omega)) ⟨_,hb,rfl⟩ (fun q hq _=>Below.block hx q hq),hB,hN,fun q hq _=>Below.block hx q hq⟩
 ·obtain⟨v',w',hrun,h2,h3,_,h5⟩:=run_append_own_at (P:=Tryz.prog) (w.alloc (.cells #[.int .i64 at_,.slice A0 l.length c0] 130)) lo 23 ty 130 i0 (.agg #[.int .i64 0,.slice none 0 0]) 2 32 Tryz.underlying23 hi hz0 hz1 hz2 rfl (by decide) v ps.length (QO ps) (ho.alloc _) ⟨w.heap.size,0,none⟩ 1 1 [.int .i64 at_,.slice A0 l.length c0]
   rfl (Yr w #[.int .i64 at_,.slice A0 l.length c0] 130) h1 (by unfold maxLen;omega) (by omega) (by simp;omega)
  have hlq:=(QM ho q hq).1
  rw[hq] at h3 h5
  have hB:Below lo w w':=Below.trans (Below.mono (Ext.alloc w _) hlo) ((Below.refl lo _).grown h3 (by simp;omega) (fun k hk=>by cases hk;exact hlq))
  have hrow:∀ q',q'<w.heap.size→(some q≠some q')→w'.heap[q']?=w.heap[q']?:=fun q' h1 hne=>(h3.block q' (by simp;omega) (fun e=>hne e.symm)).trans (Below.heap_alloc w _ q' h1)
  have hK:qS lo b g (some q) w w':=⟨hB,fun q' h1 hn=>hrow q' h1 fun e=>hn (.inr (.inr e))⟩
  rcases h5 with h5|h5
  ·exact⟨v',w',some q,hrun,fin v' w' _ h2 ⟨q,h5,rfl⟩ hrow,hK,QV.refl _ _,hrow⟩
  ·have hN:QV w.heap.size (some q) (some (w.heap.size+1)):=fun q' hq'=>.inr (by cases hq';omega)
   exact⟨v',w',some (w.heap.size+1),hrun,fin v' w' _ h2 ⟨_,by rw[h5];simp,rfl⟩ hrow,hK,hN,hrow⟩
theorem GB {ops:Array Oper} {rest:List Oper} {o:Oper} {a:Act} {Q:Exit→Act→World→Prop} (hgd:o.guard=none) (s x:Operand) (ho:o.op=.call { callee:=.builtin .append,args:=#[s,x],argTypes:=#[23,23] })
  {D:Nat→Prop} {B lo b g:Nat} {k:Option Nat} {v:Value} {ws:List (Int×List UInt8)} {w:World} (hs:a.eval s=v) (hx:a.eval x=.slice (some ⟨w.heap.size,0,none⟩) 1 1) (h:WsB D B lo b g k v ws w) (hlo:lo≤w.heap.size) (hk:∀ q,k=some q→¬(q<B∨D q)) (hws:ws.length<1073741824)
  (at_:Int) (A0:Option Addr) (n0 c0:Nat) (l:List UInt8) (hn0:n0=l.length) (hd:∀ C,qP (KT B D) w C→Bys C C.heap.size (.slice A0 n0 c0) l)
  (hK:∀ v' w' k',WsB D B lo b g k' v' (ws++[(at_,l)]) w'→qS lo b g k w w'→QV w.heap.size k k'→(∀ q,q<w.heap.size→k≠some q→w'.heap[q]?=w.heap[q]?)→wpList Tryz.prog ops Q rest (a.put o.dst v') w') :
  wpList Tryz.prog ops Q (o :: rest) a (w.alloc (.cells #[.int .i64 at_,.slice A0 n0 c0] 130)):=by
 subst hn0
 refine wpList_plain hgd fun K hKK=>?_
 obtain⟨v',w',k',hrun,h1,h2,h3,h4⟩:=h.push hlo hk hws at_ A0 c0 l hd o.type
 unfold Oper.wp execOp
 simp only[ho,resolve,invoke,builtin,Sem.run_bind,Sem.run_pure,Result.andThen_ok,List.map_toArray,List.map_cons,List.map_nil,hs,hx,hrun]
 exact hKK _ _ (hK v' w' k' h1 h2 h3 h4)
theorem Bch.put {D:Nat→Prop} {B lo b g:Nat} {k k':Option Nat} {S:Sto} {w W:World} (h:Bch D B lo b g k S w) {A1:Option Addr} {n1 c1 c3 c4:Nat} {A4:Option Addr} {v2 v':Value} (hr:w.heap[b]?=some (.cells #[.slice A1 n1 c1,v2,.slice (some ⟨g,0,none⟩) 256 c3,.slice A4 256 c4] 191 (0,0))) (ho:w.ownsRow lo 5 1 (.slice (some ⟨g,0,none⟩) 256 c3) 256 (S.now.map bv))
  (hb:Bls w B (.slice A1 n1 c1) S.bs) (hl:Bys w B (.slice A4 256 c4) S.last) {f:Nat} {l:List UInt8} (hf:f<256) (hw:WsB D B lo b g k' v' (S.ws++[((f:Int),l)]) W) (hB:qS lo b g k w W) (hN:QV w.heap.size k k') (hrows:∀ q,q<w.heap.size→k≠some q→W.heap[q]?=w.heap[q]?) :
  Bch D B lo b g k' ⟨S.bs,S.ws++[((f:Int),l)],S.now.set f 1,S.last⟩ ((W.setCell ⟨b,1,none⟩ v').setCell ⟨g,f,none⟩ (.int .u8 1))∧qS lo b g k w ((W.setCell ⟨b,1,none⟩ v').setCell ⟨g,f,none⟩ (.int .u8 1)):=by
 obtain⟨hlb,hzb,hlg,hzg,hgb,hlw,hkq⟩:=h.size
 have hbl:=h.blo
 have hkd:=h.offk
 have hzW:=hB.below.size
 have hrb:=(hrows b hzb fun e=>(hkq b e).2.2.1 rfl).trans hr
 have hkq':∀ q,k'=some q→q≠b∧q≠g:=fun q hq=>(hN q hq).elim (fun e=>(hkq q e).2.2) fun e=>by omega
 have st:∀ q,q≠b→q≠g→((W.setCell ⟨b,1,none⟩ v').setCell ⟨g,f,none⟩ (.int .u8 1)).heap[q]?=W.heap[q]?:=fun q h1 h2=>(Below.heap_setCell _ _ _ _ h2).trans (Below.heap_setCell _ _ _ _ h1)
 have hB1:Below lo W ((W.setCell ⟨b,1,none⟩ v').setCell ⟨g,f,none⟩ (.int .u8 1)):=Below.setCell (Below.setCell (Below.refl _ _) (p:=⟨b,1,none⟩) hlb _) (p:=⟨g,f,none⟩) hlg _
 have hB2:Below lo w ((W.setCell ⟨b,1,none⟩ v').setCell ⟨g,f,none⟩ (.int .u8 1)):=hB.below.trans hB1
 have hX:qP (KT B D) W ((W.setCell ⟨b,1,none⟩ v').setCell ⟨g,f,none⟩ (.int .u8 1)):=KT.keep fun q _ hq=>st q (fun e=>hkd b (.inl rfl) (e ▸ hq)) (fun e=>hkd g (.inr (.inl rfl)) (e ▸ hq))
 have ho1:=Zl ho (w':=W) fun q hq=>by cases hq;exact hrows g hzg fun e=>(hkq g e).2.2.2 rfl
 have ho2:=Gm (qaR (k:=1) (v:=v') ho1 hgb) (k:=f) hf 1
 refine⟨⟨hlb,hbl,fun q hq=>⟨(h.dB q hq).1,by have:=(h.dB q hq).2.1;simp;omega,fun hx=>?_⟩,A1,n1,c1,v',c3,A4,c4,(Below.heap_setCell _ _ _ _ fun e=>hgb e.symm).trans (qj hrb 1 v'),ho2,?_,hb.below (Below.mono hB2 hbl),hl.below (Below.mono hB2 hbl)⟩,⟨hB2,fun q hq hn=>(st q (fun e=>hn (.inl e)) (fun e=>hn (.inr (.inl e)))).trans (hB.rows q hq hn)⟩⟩
 ·exact(h.dB q hq).2.2 (B3.of_new hN q (h.dB q hq).2.1 hx)
 ·obtain⟨ps,e,hc,hp⟩:=hw
  refine⟨ps,e,?_,fun p hpm=>⟨(hp p hpm).1,fun C hC=>(hp p hpm).2 C (hX.trans hC fun _ _ h=>h)⟩⟩
  rcases hc with ⟨e1,hm,A,e2,hrd⟩|⟨q,e1,e2,how⟩
  ·exact .inl ⟨e1,hm,A,e2,hrd.below (Below.mono hB1 hbl)⟩
  ·exact .inr ⟨q,e1,e2,Zl how fun q' hq'=>by
    rw[e2] at hq'
    cases hq'
    exact st q (hkq' q e1).1 (hkq' q e1).2⟩
end Go.Proofs.YtpbniokljofedaaGreat
