/- Texts DTwinW, DTwin, SetAll, joined. -/
import Derived.Deep.Slices
import Derived.Laws.MakeOwn
import Derived.Test.YtpbniokljofedaaGreatZH12
set_option linter.unusedSimpArgs false
set_option linter.unusedVariables false
set_option maxHeartbeats 8000000
open Go.Proofs.Tryz
namespace Go.Proofs.YtpbniokljofedaaGreat
open Go.RowKit Go.Deep
def InG (w:World) (g F:Nat) (v:Value) (l:List UInt8):Prop:=∃ o,v=.slice (some ⟨g,o,none⟩) l.length l.length/\o+l.length<=F/\∀ j u,(l.map bv)[j]?=some u->w.cell? ⟨g,o+j,none⟩=some u
section
variable {w w':World} {g F:Nat} {v:Value} {l:List UInt8}
theorem InG.keep (h:InG w g F v l) (hk:w'.heap[g]?=w.heap[g]?):InG w' g F v l:=by obtain⟨o,e,h1,h2⟩:=h;exact⟨o,e,h1,fun j u hu=>(World.cell?_of_block hk).trans (h2 j u hu)⟩
theorem InG.step {cur:Array Value} {t:TypeId} {l':List UInt8} {o:Nat} (h:InG w g F v l) (hr:w.heap[g]?=some (.cells cur t (0,0))) (lK:w'.heap[g]?=some (.cells (ZC cur o l') t (0,0))) (fV:o+l'.length<=cur.size) (ho:o=F\/l'.length=0):InG w' g (F+l'.length) v l:=by
 obtain⟨o1,e,h1,h2⟩:=h;refine⟨o1,e,zO,fun j u hu=>?_⟩;have hj:j<l.length:=by have:=(List.getElem?_eq_some_iff.1 hu).1;simpa using this
 have:=h2 j u hu;rw[qa hr] at this;rw[qa lK,qeU fV (by rcases ho with ho|ho <;> omega)];exact this
theorem InG.new {cur:Array Value} {t:TypeId} {o:Nat} (hr:w'.heap[g]?=some (.cells (ZC cur o l) t (0,0))) (fV:o+l.length<=cur.size) (ho:o<=F):InG w' g (F+l.length) (.slice (some ⟨g,o,none⟩) l.length l.length) l:=
 ⟨o,rfl,zO,fun j u hu=>by rw[qa hr];exact qeT fV hu⟩
theorem InG.bys {B:Nat} (h:InG w g F v l) (hg:g<B) (hl:l.length<=maxLen):Bys w B v l:=by obtain⟨o,e,h1,h2⟩:=h;exact⟨_,_,e,zM _,hl,zA3,fun _=>⟨g,o,rfl,hg,h2⟩⟩
theorem InG.cells {W2:World} (h:InG w g F v l) (hk:∀ j,W2.cell? ⟨g,j,none⟩=w.cell? ⟨g,j,none⟩):InG W2 g F v l:=by obtain⟨o,e,h1,h2⟩:=h;exact⟨o,e,h1,fun j u hu=>(hk _).trans (h2 j u hu)⟩
end
def Jd (ls:List (List UInt8)):Nat:=(ls.map List.length).sum
theorem Ym {ls:List (List UInt8)} {k:Nat} (h:k<ls.length):Jd (ls.take (k+1))=Jd (ls.take k)+ls[k].length:=by unfold Jd;rw[List.take_succ_eq_append_getElem h,List.map_append,List.sum_append];simp
theorem qfB (ls:List (List UInt8)) (k:Nat):Jd (ls.take k)+Jd (ls.drop k)=Jd ls:=by unfold Jd;rw[<-List.sum_append,<-List.map_append,List.take_append_drop]
theorem qgr {ls:List (List UInt8)} (h:∀ l∈ls,l.length<1000000):Jd ls<=ls.length*1000000:=by
 induction ls with
 |nil=>simp[Jd]
 |cons l r ih =>
  have h1:=ih fun x hx=>h x (List.mem_cons_of_mem _ hx);have h2:=h l List.mem_cons_self;simp only[Jd,List.map_cons,List.sum_cons,List.length_cons] at h1 ⊢;omega
theorem vj (ls:List (List UInt8)) (k:Nat):Jd (ls.take k)<=Jd ls:=by have:=qfB ls k;omega
def YR (hb g:Nat):Rel where
 rel W W':=W'.os=W.os/\W'.tape=W.tape/\W'.output=W.output/\W.heap.size<=W'.heap.size/\∀ b,b<W.heap.size->b≠hb->b≠g->W'.heap[b]?=W.heap[b]?
 refl' w:=⟨rfl,rfl,rfl,zM _,fun _ _ _ _=>rfl⟩
 trans' h k:=⟨k.1.trans h.1,k.2.1.trans h.2.1,k.2.2.1.trans h.2.2.1,Nat.le_trans h.2.2.2.1 k.2.2.2.1,fun b hb h1 h2=>(k.2.2.2.2 b (Nat.lt_of_lt_of_le hb h.2.2.2.1) h1 h2).trans (h.2.2.2.2 b hb h1 h2)⟩
 drew' w:=⟨rfl,rfl,rfl,zM _,fun _ _ _ _=>rfl⟩
theorem qfN {hb g:Nat}:∀ a b,qk.r a b->(YR hb g).r a b:=fun a b h=>by have h:Ext a b:=h;exact⟨h.os,h.tape,h.output,h.size,fun k hk _ _=>h.block k hk⟩
theorem vV {hb g b:Nat} {a W:World} {o:Obj} (h:(YR hb g).r a W) (h1:b≠hb) (h2:b≠g) (hc:a.heap[b]?=some o):W.heap[b]?=some o:=
 (h.2.2.2.2 b (zG.1 hc).1 h1 h2).trans hc
theorem qM {w:World} {a b:Nat} {c d:Array Value} {t u:TypeId} (h:w.heap[a]?=some (.cells c t (0,0))) (k:w.heap[b]?=some (.cells d u (0,0))) (hn:t≠u):a≠b:=fun e=>by subst e;rw[h] at k;cases k;exact hn rfl
structure TwS (bs:List (List UInt8)) (ws:List (Int×List UInt8)) (T lo:Nat) (w5:World) (hb g BB WW ob kb kw F:Nat) (wr:World):Prop where
 below:Below lo w5 wr
 los:lo<=hb/\lo<=g/\lo<=BB/\lo<=WW/\lo<=ob
 out:wr.heap[ob]?=some (.cells #[.slice (some ⟨BB,0,none⟩) bs.length bs.length,.slice (some ⟨WW,0,none⟩) ws.length (ws.length+1)] 25 (0,0))
 heap:∃ o n cur,qaD hb g o n cur wr/\o<=F/\(0<n->o=F)/\F+n=T/\cur.size=T
 bb:∃ cs,wr.heap[BB]?=some (.cells cs 26 (0,0))/\cs.size=bs.length/\∀ i l,bs[i]?=some l->i<kb->∃ v,cs[i]?=some v/\InG wr g F v l
 ww:∃ cs,wr.heap[WW]?=some (.cells cs 130 (0,0))/\cs.size=(ws.length+1)*2/\∀ i p,ws[i]?=some p->i<kw->∃ v,cs[i*2]?=some (.int .i64 p.1)/\cs[i*2+1]?=some v/\InG wr g F v p.2
section
variable {bs:List (List UInt8)} {ws:List (Int×List UInt8)} {T lo:Nat} {w5:World} {hb g BB WW ob kb kw F:Nat} {wr W:World}
theorem TwS.ext (h:TwS bs ws T lo w5 hb g BB WW ob kb kw F wr) (hx:Ext wr W) (hl:lo<=wr.heap.size):TwS bs ws T lo w5 hb g BB WW ob kb kw F W:=by
 obtain⟨o,n,cur,⟨H1,H2,H3,H4,H5⟩,h2⟩:=h.heap;obtain⟨cb,bG,bI,dF⟩:=h.bb;obtain⟨cw,aA,cZ,aK⟩:=h.ww;have hg:W.heap[g]?=wr.heap[g]?:=hx.block g (zG.1 H2).1;exact⟨h.below.trans (Below.mono hx hl),h.los,qb h.out hx,⟨o,n,cur,⟨qb H1 hx,qb H2 hx,H3,H4,H5⟩,h2⟩,
  ⟨cb,qb bG hx,bI,fun i l hi hk=>(dF i l hi hk).imp fun v hv=>⟨hv.1,hv.2.keep hg⟩⟩,⟨cw,qb aA hx,cZ,fun i p hi hk=>(aK i p hi hk).imp fun v hv=>⟨hv.1,hv.2.1,hv.2.2.keep hg⟩⟩⟩
theorem TwS.clone (h:TwS bs ws T lo w5 hb g BB WW ob kb kw F wr) {o n o':Nat} {cur:Array Value} {l:List UInt8} (hH:qaD hb g o n cur wr) (hl:l.length<=n) (hr:(YR hb g).r wr W) (h1:0<n-l.length->o'=o+l.length) (h2:n-l.length=0->o'=o) (hH':qaD hb g o' (n-l.length) (ZC cur o l) W):TwS bs ws T lo w5 hb g BB WW ob kb kw (F+l.length) W/\InG W g (F+l.length) (.slice (some ⟨g,o,none⟩) l.length l.length) l:=by
 obtain⟨o2,n2,cur2,H2,k1,k2,k3,k4⟩:=h.heap;have e1:=H2.box;rw[hH.box] at e1;simp only[Option.some.injEq,Obj.cells.injEq,Array.mk.injEq,List.cons.injEq,Value.slice.injEq,Addr.mk.injEq,and_true,true_and] at e1;obtain⟨rfl,rfl,_⟩:=e1;have e2:=H2.row;rw[hH.row] at e2;simp only[Option.some.injEq,Obj.cells.injEq,and_true] at e2;subst e2;have fV:o+l.length<=cur.size:=by have:=hH.fit;omega
 have ho:o=F\/l.length=0:=by
  rcases Nat.eq_zero_or_pos n with h0|h0
  ·exact .inr zO
  ·exact .inl (k2 h0)
 have hr0:=hH.row;have lm:=hH'.row;obtain⟨cb,bG,bI,dF⟩:=h.bb;obtain⟨cw,aA,cZ,aK⟩:=h.ww;have n1:BB≠hb:=qM bG hH.box zA1;have n2:BB≠g:=qM bG hr0 zA1;have n3:WW≠hb:=qM aA hH.box zA1;have n4:WW≠g:=qM aA hr0 zA1;have n5:ob≠hb:=qM h.out hH.box zA1;have n6:ob≠g:=qM h.out hr0 zA1;obtain⟨l1,l2,l3,l4,l5⟩:=h.los;have hlt:=(zG.1 hr0).1;refine⟨⟨⟨hr.1.trans h.below.os,hr.2.1.trans h.below.tape,hr.2.2.1.trans h.below.output,Nat.le_trans h.below.size hr.2.2.2.1,fun b hb=>(hr.2.2.2.2 b zO zO zO).trans (h.below.block b hb)⟩,h.los,vV hr n5 n6 h.out,⟨o',n-l.length,_,hH',?_,?_,zO,?_⟩,
  ⟨cb,vV hr n1 n2 bG,bI,fun i l' hi hk=>(dF i l' hi hk).imp fun v hv=>⟨hv.1,hv.2.step hr0 lm fV ho⟩⟩,⟨cw,vV hr n3 n4 aA,cZ,fun i p hi hk=>(aK i p hi hk).imp fun v hv=>⟨hv.1,hv.2.1,hv.2.2.step hr0 lm fV ho⟩⟩⟩,InG.new lm fV k1⟩
 ·rcases Nat.eq_zero_or_pos (n-l.length) with h0|h0
  ·rw[h2 h0];omega
  ·rw[h1 h0];omega
 ·intro h0;rw[h1 h0,k2 zO]
 ·rw[TP fV];exact k4
theorem TwS.setB (h:TwS bs ws T lo w5 hb g BB WW ob kb kw F wr) {v:Value} {l:List UInt8} (hk:bs[kb]?=some l) (hv:InG wr g F v l):TwS bs ws T lo w5 hb g BB WW ob (kb+1) kw F (wr.setCell ⟨BB,kb,none⟩ v):=by
 obtain⟨o,n,cur,⟨H1,H2,H3,H4,H5⟩,h2⟩:=h.heap;obtain⟨cb,bG,bI,dF⟩:=h.bb;obtain⟨cw,aA,cZ,aK⟩:=h.ww;have n1:hb≠BB:=qM H1 bG zA1;have n2:g≠BB:=qM H2 bG zA1;have n3:WW≠BB:=qM aA bG zA1;have n5:ob≠BB:=qM h.out bG zA1;have hg:=zJ wr ⟨BB,kb,none⟩ v g n2;have hlt:=(List.getElem?_eq_some_iff.1 hk).1;refine⟨Below.setCell h.below (p:=⟨BB,kb,none⟩) h.los.2.2.1 _,h.los,(zJ _ _ _ _ n5).trans h.out,⟨o,n,cur,⟨(zJ _ _ _ _ n1).trans H1,(zJ _ _ _ _ n2).trans H2,H3,H4,H5⟩,h2⟩,
  ⟨_,qi bG kb v,by simpa using bI,fun i l' hi eF=>?_⟩,⟨cw,(zJ _ _ _ _ n3).trans aA,cZ,fun i p hi hk=>(aK i p hi hk).imp fun v hv=>⟨hv.1,hv.2.1,hv.2.2.keep hg⟩⟩⟩
 rw[Array.getElem?_setIfInBounds];by_cases e:kb=i
 ·subst e;rw[hk] at hi;cases hi;rw[if_pos rfl,if_pos zO];exact⟨v,rfl,hv.keep hg⟩
 ·rw[if_neg e];exact(dF i l' hi zO).imp fun u hu=>⟨hu.1,hu.2.keep hg⟩
theorem TwS.setW (h:TwS bs ws T lo w5 hb g BB WW ob kb kw F wr) {v:Value} {p:Int×List UInt8} (hk:ws[kw]?=some p) (hv:InG wr g F v p.2):TwS bs ws T lo w5 hb g BB WW ob kb (kw+1) F ((wr.setCell ⟨WW,kw*2,none⟩ (.int .i64 p.1)).setCell ⟨WW,kw*2+1,none⟩ v):=by
 obtain⟨o,n,cur,⟨H1,H2,H3,H4,H5⟩,h2⟩:=h.heap;obtain⟨cb,bG,bI,dF⟩:=h.bb;obtain⟨cw,aA,cZ,aK⟩:=h.ww;have n1:hb≠WW:=qM H1 aA zA1;have n2:g≠WW:=qM H2 aA zA1;have n3:BB≠WW:=qM bG aA zA1;have n5:ob≠WW:=qM h.out aA zA1;have st:∀ b,b≠WW->((wr.setCell ⟨WW,kw*2,none⟩ (.int .i64 p.1)).setCell ⟨WW,kw*2+1,none⟩ v).heap[b]?=wr.heap[b]?:=fun b hb=>(zJ _ _ _ _ hb).trans (zJ _ _ _ _ hb);have hlt:=(List.getElem?_eq_some_iff.1 hk).1;refine⟨Below.setCell (Below.setCell h.below (p:=⟨WW,kw*2,none⟩) h.los.2.2.2.1 _) (p:=⟨WW,kw*2+1,none⟩) h.los.2.2.2.1 _,h.los,(st _ n5).trans h.out,⟨o,n,cur,⟨(st _ n1).trans H1,(st _ n2).trans H2,H3,H4,H5⟩,h2⟩,
  ⟨cb,(st _ n3).trans bG,bI,fun i l' hi eF=>(dF i l' hi eF).imp fun u hu=>⟨hu.1,hu.2.keep (st _ n2)⟩⟩,⟨_,qi (qi aA (kw*2) _) (kw*2+1) _,by simpa using cZ,fun i q hi eF=>?_⟩⟩
 by_cases e:kw=i
 ·subst e;rw[hk] at hi;cases hi;refine⟨v,?_,?_,hv.keep (st _ n2)⟩
  ·rw[Array.getElem?_setIfInBounds,if_neg zO,Array.getElem?_setIfInBounds,if_pos rfl,if_pos zO]
  ·rw[Array.getElem?_setIfInBounds,if_pos rfl,if_pos zA2]
 ·refine(aK i q hi zO).imp fun u hu=>⟨?_,?_,hu.2.2.keep (st _ n2)⟩
  ·rw[Array.getElem?_setIfInBounds,if_neg zO,Array.getElem?_setIfInBounds,if_neg zO];exact hu.1
  ·rw[Array.getElem?_setIfInBounds,if_neg zO,Array.getElem?_setIfInBounds,if_neg zO];exact hu.2.1
end
structure jQ (lo:Nat) (bs:List (List UInt8)) (ws:List (Int×List UInt8)) (BB WW g:Nat) (W:World):Prop where
 los:lo<=BB/\lo<=WW/\lo<=g/\g<W.heap.size/\BB≠WW/\BB≠g/\WW≠g
 bb:∃ cs,W.heap[BB]?=some (.cells cs 26 (0,0))/\cs.size=bs.length/\∀ (i:Nat) (l:List UInt8),bs[i]?=some l->∃ v F,cs[i]?=some v/\InG W g F v l
 ww:∃ cs,W.heap[WW]?=some (.cells cs 130 (0,0))/\cs.size=(ws.length+1)*2/\∀ (i:Nat) (p:Int×List UInt8),ws[i]?=some p->∃ v F,cs[i*2]?=some (.int .i64 p.1)/\cs[i*2+1]?=some v/\InG W g F v p.2
 gg:∃ cs,W.heap[g]?=some (.cells cs 5 (0,0))
theorem TwS.done {bs:List (List UInt8)} {ws:List (Int×List UInt8)} {T lo:Nat} {w5:World} {hb g BB WW ob F:Nat} {wr:World} (h:TwS bs ws T lo w5 hb g BB WW ob bs.length ws.length F wr):jQ lo bs ws BB WW g wr:=by
 obtain⟨o,n,cur,⟨H1,H2,H3,H4,H5⟩,h2⟩:=h.heap;obtain⟨cb,bG,bI,dF⟩:=h.bb;obtain⟨cw,aA,cZ,aK⟩:=h.ww;refine⟨⟨h.los.2.2.1,h.los.2.2.2.1,h.los.2.1,(zG.1 H2).1,qM bG aA zA1,qM bG H2 zA1,qM aA H2 zA1⟩,⟨cb,bG,bI,fun i l hi=>?_⟩,⟨cw,aA,cZ,fun i p hi=>?_⟩,⟨_,H2⟩⟩
 ·obtain⟨v,h1,h2⟩:=dF i l hi (List.getElem?_eq_some_iff.1 hi).1;exact⟨v,F,h1,h2⟩
 ·obtain⟨v,h1,h2⟩:=aK i p hi (List.getElem?_eq_some_iff.1 hi).1;exact⟨v,F,h1,h2⟩
theorem jQ.keep {lo lo':Nat} {bs:List (List UInt8)} {ws:List (Int×List UInt8)} {BB WW g:Nat} {W W2:World} (h:jQ lo bs ws BB WW g W) (hl:lo'<=lo) (hs:W.heap.size<=W2.heap.size) (hk:∀ b,lo<=b->b<W.heap.size->W2.heap[b]?=W.heap[b]?):jQ lo' bs ws BB WW g W2:=by
 obtain⟨cb,bG,bI,dF⟩:=h.bb;obtain⟨cw,aA,cZ,aK⟩:=h.ww;obtain⟨l1,l2,l3,l4,l5⟩:=h.los;have hg:=hk g l3 l4;exact⟨⟨zO,zO,zO,zO,l5⟩,⟨cb,(hk BB l1 (zG.1 bG).1).trans bG,bI,fun i l hi=>by
  obtain⟨v,F,h1,h2⟩:=dF i l hi;exact⟨v,F,h1,h2.keep hg⟩⟩,⟨cw,(hk WW l2 (zG.1 aA).1).trans aA,cZ,fun i p hi=>by
  obtain⟨v,F,h1,h2,h3⟩:=aK i p hi;exact⟨v,F,h1,h2,h3.keep hg⟩⟩,h.gg.imp fun cs h=>hg.trans h⟩
theorem jQ.keepT {lo lo':Nat} {bs:List (List UInt8)} {ws:List (Int×List UInt8)} {BB WW g:Nat} {W W2:World} (h:jQ lo bs ws BB WW g W) (hl:lo'<=lo) (hs:W.heap.size<=W2.heap.size) {b1:Nat} {c1:Array Value} {t1:TypeId} (h1:W.heap[b1]?=some (.cells c1 t1 (0,0))) (ht:t1≠26/\t1≠130/\t1≠5) (hk:∀ b,lo<=b->b<W.heap.size->b≠b1->W2.heap[b]?=W.heap[b]?):jQ lo' bs ws BB WW g W2:=by
 obtain⟨cb,bG,bI,dF⟩:=h.bb;obtain⟨cw,aA,cZ,aK⟩:=h.ww;obtain⟨cg,hg1⟩:=h.gg;obtain⟨l1,l2,l3,l4,l5⟩:=h.los;have hg:=hk g l3 l4 (qM hg1 h1 fun e=>ht.2.2 e.symm);exact⟨⟨zO,zO,zO,zO,l5⟩,⟨cb,(hk BB l1 (zG.1 bG).1 (qM bG h1 fun e=>ht.1 e.symm)).trans bG,bI,fun i l hi=>by
  obtain⟨v,F,h1,h2⟩:=dF i l hi;exact⟨v,F,h1,h2.keep hg⟩⟩,⟨cw,(hk WW l2 (zG.1 aA).1 (qM aA h1 fun e=>ht.2.1 e.symm)).trans aA,cZ,fun i p hi=>by
  obtain⟨v,F,h1,h2,h3⟩:=aK i p hi;exact⟨v,F,h1,h2,h3.keep hg⟩⟩,cg,hg.trans hg1⟩
theorem jQ.readsB {lo:Nat} {bs:List (List UInt8)} {ws:List (Int×List UInt8)} {BB WW g:Nat} {W:World} (h:jQ lo bs ws BB WW g W) (h1:bs.length<1000000) (h2:ws.length<1000000) (h3:∀ l∈bs,l.length<1000000) (h4:∀ p∈ws,p.2.length<1000000) (W2:World) (hB:∀ j,W2.cell? ⟨BB,j,none⟩=W.cell? ⟨BB,j,none⟩) (hWW:∀ j,W2.cell? ⟨WW,j,none⟩=W.cell? ⟨WW,j,none⟩) (hg:∀ j,W2.cell? ⟨g,j,none⟩=W.cell? ⟨g,j,none⟩):Bls W2 W.heap.size (.slice (some ⟨BB,0,none⟩) bs.length bs.length) bs/\Wrs W2 W.heap.size (.slice (some ⟨WW,0,none⟩) ws.length (ws.length+1)) ws:=by
 obtain⟨cb,bG,bI,dF⟩:=h.bb;obtain⟨cw,aA,cZ,aK⟩:=h.ww;obtain⟨l1,l2,l3,l4,l5⟩:=h.los;have z1:=(zG.1 bG).1;have z2:=(zG.1 aA).1;have hm:∀ n,n<1000001->n<=maxLen:=fun n hn=>zA7;refine⟨⟨cb.toList,_,_,rfl,zM _,hm _ zO,⟨by simp[bI],fun _=>⟨BB,0,rfl,z1,fun j u hu=>?_⟩⟩,fun i u l hu hl=>?_⟩,?_⟩
 ·rw[Nat.zero_add,hB j,qa bG];simpa using hu
 ·obtain⟨v,F,e1,e2⟩:=dF i l hl;have:cb.toList[i]?=cb[i]?:=zA3;rw[this,e1] at hu;cases hu;exact(e2.cells hg).bys l4 (hm _ (by have:=h3 l (List.mem_of_getElem? hl);omega))
 ·have hq:∀ i,i<ws.length->∃ q:(Int×List UInt8)×Value,ws[i]?=some q.1/\(∃ A c,q.2=.slice A q.1.2.length c)/\Bys W2 W.heap.size q.2 q.1.2/\cw[i*2]?=some (.int .i64 q.1.1)/\cw[i*2+1]?=some q.2:=fun i hi=>by obtain⟨v,F,e1,e2,e3⟩:=aK i ws[i] (zL hi);have hb:=(e3.cells hg).bys l4 (hm _ (by have:=h4 ws[i] (List.getElem_mem hi);omega));obtain⟨o,ev,_⟩:=e3;exact⟨(ws[i],v),zL hi,⟨_,_,ev⟩,hb,e1,e2⟩
  obtain⟨Q,hQ⟩:=choose_lt (α:=(Int×List UInt8)×Value) (p:=fun i q=>ws[i]?=some q.1/\(∃ A c,q.2=.slice A q.1.2.length c)/\Bys W2 W.heap.size q.2 q.1.2/\cw[i*2]?=some (.int .i64 q.1.1)/\cw[i*2+1]?=some q.2) hq;refine⟨(List.range ws.length).map Q,?_,⟨some ⟨WW,0,none⟩,ws.length+1,rfl,zO,hm _ zO,⟨by rw[UM];simp,fun _=>⟨WW,0,rfl,z2,fun j u hu=>?_⟩⟩⟩,fun q oH=>?_⟩
  ·apply List.ext_getElem?;intro i;rw[List.map_map,List.getElem?_map];rcases Nat.lt_or_ge i ws.length with hi|hi
   ·rw[List.getElem?_range hi,(hQ i hi).1];rfl
   ·rw[List.getElem?_eq_none (by simpa using hi),List.getElem?_eq_none hi];rfl
  ·rw[Nat.zero_add,hWW j,qa aA];have hj:j<ws.length*2:=by have:=(List.getElem?_eq_some_iff.1 hu).1;rw[UM] at this;simpa using this
   obtain⟨c0,c1⟩:=KU ((List.range ws.length).map Q) (j / 2) zA2;obtain⟨_,_,_,q0,q1⟩:=hQ (j / 2) zO;rcases(show j=j / 2*2\/j=j / 2*2+1 by omega) with e|e
   ·have hu':some u=some _:=(hu.symm.trans (congrArg (fun t=>(ZX ((List.range ws.length).map Q))[t]?) e)).trans c0;cases hu';rw[show cw[j]?=cw[j / 2*2]? from congrArg (fun t=>cw[t]?) e,q0];simp
   ·have hu':some u=some _:=(hu.symm.trans (congrArg (fun t=>(ZX ((List.range ws.length).map Q))[t]?) e)).trans c1;cases hu';rw[show cw[j]?=cw[j / 2*2+1]? from congrArg (fun t=>cw[t]?) e,q1];simp
  ·obtain⟨i,hi,rfl⟩:=List.mem_map.1 oH;obtain⟨_,q1,q2,_⟩:=hQ i (List.mem_range.1 hi);exact⟨q1,q2⟩
theorem jQ.reads {lo:Nat} {bs:List (List UInt8)} {ws:List (Int×List UInt8)} {BB WW g:Nat} {W:World} (h:jQ lo bs ws BB WW g W) (h1:bs.length<1000000) (h2:ws.length<1000000) (h3:∀ l∈bs,l.length<1000000) (h4:∀ p∈ws,p.2.length<1000000) (W2:World) (hk:∀ q:Addr,lo<=q.block->q.block<W.heap.size->W2.cell? q=W.cell? q):Bls W2 W.heap.size (.slice (some ⟨BB,0,none⟩) bs.length bs.length) bs/\Wrs W2 W.heap.size (.slice (some ⟨WW,0,none⟩) ws.length (ws.length+1)) ws:=by
 obtain⟨cb,bG,-⟩:=h.bb;obtain⟨cw,aA,-⟩:=h.ww;obtain⟨l1,l2,l3,l4,-⟩:=h.los;exact h.readsB h1 h2 h3 h4 W2 (fun j=>hk ⟨BB,j,none⟩ l1 (zG.1 bG).1) (fun j=>hk ⟨WW,j,none⟩ l2 (zG.1 aA).1) fun j=>hk ⟨g,j,none⟩ l3 l4
theorem jQ.readsT {lo:Nat} {bs:List (List UInt8)} {ws:List (Int×List UInt8)} {BB WW g:Nat} {W:World} (h:jQ lo bs ws BB WW g W) (h1:bs.length<1000000) (h2:ws.length<1000000) (h3:∀ l∈bs,l.length<1000000) (h4:∀ p∈ws,p.2.length<1000000) (W2:World) (hk:∀ q:Addr,lo<=q.block->q.block<W.heap.size->W2.cell? q=(thaw W).cell? q):Bls W2 W.heap.size (.slice (some ⟨BB,0,none⟩) bs.length bs.length) bs/\Wrs W2 W.heap.size (.slice (some ⟨WW,0,none⟩) ws.length (ws.length+1)) ws:=by
 obtain⟨cb,bG,-⟩:=h.bb;obtain⟨cw,aA,-⟩:=h.ww;obtain⟨cg,hg1⟩:=h.gg;obtain⟨l1,l2,l3,l4,-⟩:=h.los;exact h.readsB h1 h2 h3 h4 W2 (fun j=>(hk ⟨BB,j,none⟩ l1 (zG.1 bG).1).trans (VR bG j)) (fun j=>(hk ⟨WW,j,none⟩ l2 (zG.1 aA).1).trans (VR aA j)) fun j=>(hk ⟨g,j,none⟩ l3 l4).trans (VR hg1 j)
end Go.Proofs.YtpbniokljofedaaGreat
namespace Go.Proofs.YtpbniokljofedaaGreat
open Go.RowKit
def TX (lo n c:Nat) (ty:TypeId) (cs:Array Value):qS:=⟨Nat,fun b=>.slice (some ⟨b,0,none⟩) n c,fun b W=>W.heap[b]?=some (.cells cs ty (0,0))/\lo<=b⟩
theorem QS (lo n c:Nat) (ty:TypeId) (cs:Array Value) (b:Nat):(TX lo n c ty cs).f b=.slice (some ⟨b,0,none⟩) n c:=rfl
theorem kI (lo n c:Nat) (ty:TypeId) (cs:Array Value):∀ p,qB qk ((TX lo n c ty cs).φ p):=fun p W W' he h=>⟨qb h.1 he,h.2⟩
def TV (hb g o n:Nat) (cur:Array Value) (l:List UInt8):qS:=⟨Nat,fun _=>.slice (some ⟨g,o,none⟩) l.length l.length,fun o' W=>(0<n-l.length->o'=o+l.length)/\(n-l.length=0->o'=o)/\qaD hb g o' (n-l.length) (ZC cur o l) W⟩
theorem Zq (hb g o n:Nat) (cur:Array Value) (l:List UInt8) (p:Nat):(TV hb g o n cur l).f p=.slice (some ⟨g,o,none⟩) l.length l.length:=rfl
theorem XI (hb g o n:Nat) (cur:Array Value) (l:List UInt8):∀ p,qB qk ((TV hb g o n cur l).φ p):=fun p W W' he ⟨h1,h2,h3⟩=>⟨h1,h2,⟨qb h3.box he,qb h3.row he,h3.ne,h3.fit,h3.few⟩⟩
theorem qft {T:Nat} (hT:T<=281474976710656) (w:World):(Instr.makeSlice 257 (.int .i64 (T:Int)) (.int .i64 (T:Int))).run prog w=.ok (.slice (some ⟨w.heap.size,0,none⟩) T T) (w.alloc (.cells (madeCells #[.int .u8 0] T) 5)):=by obtain⟨i0,hi,aX,aU,aV⟩:=info_parts Tryz.info_u8;have h:=run_make (P:=prog) w 257 5 i0 _ underlying257 hi aX .i64 .i64 (T:Int) (T:Int) zO zO (by rw[aV];omega) zO;rw[aU,Int.toNat_natCast,Nat.mul_one] at h;exact h
theorem XR {n:Nat} (hn:n<1000000) (w:World):(Instr.makeSlice 22 (.int .i64 (n:Int)) (.int .i64 (n:Int))).run prog w=.ok (.slice (some ⟨w.heap.size,0,none⟩) n n) (w.alloc (.cells (madeCells #[.slice none 0 0] n) 26)):=by obtain⟨i0,hi,aX,aU,aV⟩:=info_parts Tryz.info_bytes;have h:=run_make (P:=prog) w 22 26 i0 _ underlying22 hi aX .i64 .i64 (n:Int) (n:Int) zO zO (by rw[aV];omega) zO;rw[aU,Int.toNat_natCast,Nat.mul_one] at h;exact h
theorem qcc {n:Nat} (hn:n<1000000) (w:World):(Instr.makeSlice 23 (.int .i64 (n:Int)) (.int .i64 ((n:Int)+1))).run prog w=.ok (.slice (some ⟨w.heap.size,0,none⟩) n (n+1)) (w.alloc (.cells (madeCells #[.int .i64 0,.slice none 0 0] ((n+1)*2)) 130)):=by obtain⟨i0,hi,aX,aU,aV⟩:=info_parts Tryz.info_write;have h:=run_make (P:=prog) w 23 130 i0 _ underlying23 hi aX .i64 .i64 (n:Int) ((n:Int)+1) zO zO (by rw[aV];omega) zO;rw[aU,Int.toNat_natCast,show ((n:Int)+1).toNat=n+1 by omega] at h;exact h
structure TwI (bs:List (List UInt8)) (ws:List (Int×List UInt8)) (T lo:Nat) (w5:World) (hb g BB WW ob:Nat) (i:Value) (wr:World):Prop where
 ex:∃ k:Nat,k<=bs.length/\i=.int .i64 (k:Int)/\TwS bs ws T lo w5 hb g BB WW ob k 0 (Jd (bs.take k)) wr
structure TwJ (bs:List (List UInt8)) (ws:List (Int×List UInt8)) (T lo:Nat) (w5:World) (hb g BB WW ob:Nat) (i:Value) (wr:World):Prop where
 ex:∃ k:Nat,k<=ws.length/\i=.int .i64 (k:Int)/\TwS bs ws T lo w5 hb g BB WW ob bs.length k (Jd bs+Jd ((ws.take k).map (·.2))) wr
theorem one_at {c:Nat} {hh:qS}:∀ i h,qD [(c,hh)] i=some h->i=c:=by
 intro i h e;simp only[qD] at e;split at e
 ·assumption
 ·cases e
set_option maxRecDepth 100000 in
theorem qgG (A1:Option Addr) (n1 c1:Nat) (A2:Option Addr) (n2 c2:Nat) (bs:List (List UInt8)) (ws:List (Int×List UInt8)) (dO:bs.length<1000000) (hwl:ws.length<1000000) (hbe:∀ l∈bs,l.length<1000000) (hwe:∀ p∈ws,p.2.length<1000000) (w:World) (hb:Bls w w.heap.size (.slice A1 n1 c1) bs) (hw:Wrs w w.heap.size (.slice A2 n2 c2) ws):Calls prog 171 #[Yv A1 n1 c1 A2 n2 c2] w (fun e W=>∃ BB WW g,e=.returned (Yv (some ⟨BB,0,none⟩) bs.length bs.length (some ⟨WW,0,none⟩) ws.length (ws.length+1))/\jQ w.heap.size bs ws BB WW g W/\Below w.heap.size w W):=by
 obtain⟨e1,dS,hm1,hA1⟩:=hb.at_;obtain⟨e2,bJ,iP,hA2⟩:=hw.at_;subst e1;subst e2;have HB:=zH hb;have HW:=zH hw;have hTb:Jd bs<=1000000000000:=Nat.le_trans (qgr hbe) zO;have yZ:Jd (ws.map (·.2))<=1000000000000:=Nat.le_trans (qgr (fun l hl=>by obtain⟨p,hp,rfl⟩:=List.mem_map.1 hl;exact hwe p hp)) (by rw[List.length_map];omega);clear hb hw hm1 iP;go_enter func171,ntmps171;go_wp2_with fail;generalize aA:(World.alloc (World.alloc _ _) _)=w1;have x1:Ext w w1:=by rw[<-aA];exact(zN _ _).trans (zN _ _)
 have r1:w1.heap[w.heap.size]?=some (.cells #[.slice A1 bs.length c1,.slice A2 ws.length c2] 25 (0,0)):=by rw[<-aA];exact(zK _ _ _ zA3).trans (zI _ _ _ rfl)
 have q1:w1.heap[w.heap.size+1]?=some (.cells #[.slice none 0 0,.slice none 0 0] 25 (0,0)):=by rw[<-aA];exact zI _ _ _ zA3
 clear aA;go_wp2_with fail;go_loopw [3,17] (fun all i wr=>∃ k:Nat,k<=bs.length/\i=.int .i64 (k:Int)/\all=.int .i64 ((Jd (bs.take k):Nat):Int)/\Ext w1 wr) (fun _ i _=>bs.length-(intOf i).toNat)
 case atStart=>exact⟨0,Nat.zero_le _,rfl,rfl,Ext.refl _⟩
 case round =>
  obtain⟨k,hk,rfl,rfl,hE⟩:=hrel;have xw:Below w.heap.size w wr:=Ext.trans x1 hE;have rr:=qb r1 hE;have kr:=qa rr;by_cases hlt:k<bs.length
  ·obtain⟨b1,o1,rfl,bG⟩:=hA1 zO;obtain⟨A',c',hc,_⟩:=(HB.out.below xw).get k hlt;have iD:=Ym hlt;have hle:=vj bs (k+1);generalize bs[k].length=m at *;generalize Jd (bs.take k)=q at *;go_wp2_with fail;refine⟨⟨k+1,zO,by push_cast;rfl,by rw[iD];push_cast;rfl,hE⟩,?_⟩;simp[intOf];omega
  ·obtain rfl:k=bs.length:=zO;rw[List.take_length];generalize hwm:wr=wm at *;clear hwm kr rr;have r2:=qb r1 hE;have q2:=qb q1 hE;have k2:=qa r2;obtain⟨tb,htb⟩:∃ tb,tb=Jd bs:=⟨_,rfl⟩
   obtain⟨tw,htw⟩:∃ tw,tw=Jd (ws.map (·.2)):=⟨_,rfl⟩
   rw[<-htb] at hTb ⊢;rw[<-htw] at yZ;replace htb:=zH htb;replace htw:=zH htw;go_wp2_with fail;go_loopw [3,29] (fun all i wr=>∃ k:Nat,k<=ws.length/\i=.int .i64 (k:Int)/\all=.int .i64 ((tb+Jd ((ws.take k).map (·.2)):Nat):Int)/\Ext wm wr) (fun _ i _=>ws.length-(intOf i).toNat)
   case atStart=>exact⟨0,Nat.zero_le _,rfl,rfl,Ext.refl _⟩
   case round =>
    obtain⟨k,hk,rfl,rfl,nY⟩:=hrel;have xw2:Below w.heap.size w wr:=Ext.trans xw nY;have rr:=qb r2 nY;have kr:=qa rr;clear k2;by_cases hlt:k<ws.length
    ·obtain⟨b2,o2,rfl,bI⟩:=hA2 zO;obtain⟨A',c',ha,hc,_⟩:=(HW.out.below xw2).get k hlt;have iD:Jd ((ws.take (k+1)).map (·.2))=Jd ((ws.take k).map (·.2))+ws[k].2.length:=by rw[List.map_take,List.map_take,Ym (by rw[List.length_map];exact hlt),List.getElem_map]
     have hle:Jd ((ws.take (k+1)).map (·.2))<=tw:=by rw[htw.out,List.map_take];exact vj _ _
     generalize ws[k].2.length=m at *;generalize ws[k].1=pn at *;generalize Jd ((ws.take k).map (·.2))=q at *;go_wp2_with fail;refine⟨⟨k+1,zO,by push_cast;rfl,by rw[iD];push_cast;rw[Int.add_assoc],nY.trans (zN _ _)⟩,?_⟩;simp[intOf];omega
    ·obtain rfl:k=ws.length:=zO;rw[List.take_length,<-htw.out];have hmk:=qft (T:=tb+tw) zO;obtain⟨T,hT⟩:∃ T,T=tb+tw:=⟨_,rfl⟩
     rw[<-hT] at hmk ⊢;have hT2:T<=2000000000000:=zO;replace hT:=zH hT;go_wp2_with fail;generalize hwn:World.alloc (World.alloc _ _) _=wn;have x3:Ext wr wn:=by rw[<-hwn];exact(zN _ _).trans (zN _ _)
     have g3:wn.heap[wr.heap.size]?=some (.cells (madeCells #[.int .u8 0] T) 5 (0,0)):=by rw[<-hwn];exact(zK _ _ _ zA3).trans (zI _ _ _ rfl)
     have b3:wn.heap[wr.heap.size+1]?=some (.cells #[.slice (some ⟨wr.heap.size,0,none⟩) T T] 257 (0,0)):=by rw[<-hwn];exact zI _ _ _ zA3
     have zn0:wn.heap.size=wr.heap.size+2:=by rw[<-hwn];simp
     clear hwn hmk;have r3:=qb rr x3;have q3:=qb (qb q2 nY) x3;have xw3:Ext w wn:=Ext.trans xw2 x3;have k3:=qa r3;have zr:=(zG.1 q2).1;have zr2:=nY.size;have zn:wn.heap.size=wr.heap.size+2:=zn0;clear kr rr r2 q2 r1 q1 x1 hE nY xw xw2;generalize wr.heap.size=s0 at g3 b3 zn zr2 ⊢;have zs0:w.heap.size+1<s0:=zO;clear zr zr2 zn0;have g1:∀ W,qk.r wn W->∀ i,W.cell? ⟨w.heap.size,i,none⟩=#[.slice A1 bs.length c1,.slice A2 ws.length c2][i]?:=fun W h=>qa (qb r3 h);have hmkB:=XR dO;have hmkW:=qcc hwl;have yE:=zH (IntWalk.i64_in ((ws.length:Int)+1) zO);have hwm1:wrap64 ((ws.length:Int)+1)=(ws.length:Int)+1:=IntWalk.wrap64_in _ zO;go_wp2_with fail;refine qo zQ ?_;refine qP (w:=wn) qk (qD [(3,TX wn.heap.size bs.length bs.length 26 (madeCells #[.slice none 0 0] bs.length)),(11,TX wn.heap.size ws.length (ws.length+1) 130 (madeCells #[.int .i64 0,.slice none 0 0] ((ws.length+1)*2))),(13,jM wn.heap.size 25 #[.slice none 0 0,.slice none 0 0])])
      [true,true,true,true,true,true,true,true,true,true,true,true,true,true] 1 zQ zQ zQ zQ zQ zQ zQ ?st (Rel.drew _ _) ?walk
     case st=>exact qj (by simp only[List.forall_mem_cons];exact⟨kI _ _ _ _ _,kI _ _ _ _ _,fun p=>QI (ZV _ _ _ p),fun _ h=>by cases h⟩)
     case walk =>
      intro K hK;dsimp only[qp];repeat ((first|(refine qd ?_ zA0 zA0 (fun W hW _=>⟨W,?_,Rel.refl _ W⟩) ?_;rotate_left;(go_simp<;>with_reducible rfl))|(refine qh zA0 ?_));try simp only[Act.put,ql,qf,qc,qg,QS,Zq,qc,zA,zB,zC])
      refine qw (TX wn.heap.size bs.length bs.length 26 (madeCells #[.slice none 0 0] bs.length)) zA0 zA0 (fun W hW _=>?_) (fun (BB:Nat)=>?_)
      ·have hW:Ext wn W:=hW;refine ZU (u:=.slice (some ⟨W.heap.size,0,none⟩) bs.length bs.length) (w':=W.alloc (.cells (madeCells #[.slice none 0 0] bs.length) 26)) ?_ ⟨W.heap.size,rfl,⟨zI _ _ _ rfl,hW.size⟩,zN _ _⟩;go_simp
      simp only[Act.put,qf,qc,qg,QS,Zq,qc,zA,zB,zC];repeat ((first|(refine qd ?_ zA0 zA0 (fun W hW _=>⟨W,?_,Rel.refl _ W⟩) ?_;rotate_left;(go_simp<;>with_reducible rfl))|(refine qh zA0 ?_));try simp only[Act.put,ql,qf,qc,qg,QS,Zq,qc,zA,zB,zC])
      refine qw (TX wn.heap.size ws.length (ws.length+1) 130 (madeCells #[.int .i64 0,.slice none 0 0] ((ws.length+1)*2))) zA0 zA0 (fun W hW _=>?_) (fun (WW:Nat)=>?_)
      ·have hW:Ext wn W:=hW;refine ZU (u:=.slice (some ⟨W.heap.size,0,none⟩) ws.length (ws.length+1)) (w':=W.alloc (.cells (madeCells #[.int .i64 0,.slice none 0 0] ((ws.length+1)*2)) 130)) ?_ ⟨W.heap.size,rfl,⟨zI _ _ _ rfl,hW.size⟩,zN _ _⟩;go_simp;rw[yE.out,hmkW];rfl
      simp only[Act.put,qf,qc,qg,QS,Zq,qc,zA,zB,zC];repeat ((first|(refine qd ?_ zA0 zA0 (fun W hW _=>⟨W,?_,Rel.refl _ W⟩) ?_;rotate_left;(go_simp<;>with_reducible rfl))|(refine qh zA0 ?_));try simp only[Act.put,ql,qf,qc,qg,QS,Zq,qc,zA,zB,zC])
      refine qw (jM wn.heap.size 25 #[.slice none 0 0,.slice none 0 0]) zA0 zA0 (fun W hW _=>?_) (fun (ob:Nat)=>?_)
      ·have hW:Ext wn W:=hW;refine jR ?_ hW.size;go_simp
      simp only[Act.put,qf,qc,qg,QS,Zq,qc,zA,zB,zC];repeat ((first|(refine qd ?_ zA0 zA0 (fun W hW _=>⟨W,?_,Rel.refl _ W⟩) ?_;rotate_left;(go_simp<;>with_reducible rfl))|(refine qh zA0 ?_));try simp only[Act.put,ql,qf,qc,qg,QS,Zq,qc,zA,zB,zC])
      refine qu (hK _ _ fun W hW hF=>?_);have hBB:W.heap[BB]?=some (.cells (madeCells #[.slice none 0 0] bs.length) 26 (0,0))/\wn.heap.size<=BB:=(hF 3).1;have hWW:W.heap[WW]?=some (.cells (madeCells #[.int .i64 0,.slice none 0 0] ((ws.length+1)*2)) 130 (0,0))/\wn.heap.size<=WW:=(hF 11).1;have hob:W.heap[ob]?=some (.cells #[.slice none 0 0,.slice none 0 0] 25 (0,0))/\wn.heap.size<=ob:=(hF 13).1;have hW:Ext wn W:=hW;have ko:=qa hob.1;have fo:=qe hob.1;clear hF hK g1 hmkB hmkW hwm1 k3;refine zB5 ?_;go_wp2;refine Qo ?_;have rob:=qi (qi hob.1 0 (.slice (some ⟨BB,0,none⟩) bs.length bs.length)) 1 (.slice (some ⟨WW,0,none⟩) ws.length (ws.length+1));have st:∀ b,b≠ob->((W.setCell ⟨ob,0,none⟩ (.slice (some ⟨BB,0,none⟩) bs.length bs.length)).setCell ⟨ob,1,none⟩ (.slice (some ⟨WW,0,none⟩) ws.length (ws.length+1))).heap[b]?=W.heap[b]?:=fun b hb=>(zJ _ _ _ _ hb).trans (zJ _ _ _ _ hb);have n1:BB≠ob:=qM hBB.1 hob.1 zA1;have n2:WW≠ob:=qM hWW.1 hob.1 zA1;have hob2:=hob.2;have B5:Below s0 wn ((W.setCell ⟨ob,0,none⟩ (.slice (some ⟨BB,0,none⟩) bs.length bs.length)).setCell ⟨ob,1,none⟩ (.slice (some ⟨WW,0,none⟩) ws.length (ws.length+1))):=Below.setCell (Below.setCell (Below.mono hW zO) (p:=⟨ob,0,none⟩) (by show s0<=ob;omega) _) (p:=⟨ob,1,none⟩) (by show s0<=ob;omega) _;have T0:TwS bs ws T s0 wn (s0+1) s0 BB WW ob 0 0 0 ((W.setCell ⟨ob,0,none⟩ (.slice (some ⟨BB,0,none⟩) bs.length bs.length)).setCell ⟨ob,1,none⟩ (.slice (some ⟨WW,0,none⟩) ws.length (ws.length+1))):=
       ⟨B5,⟨zO,zO,zO,zO,zO⟩,rob,⟨0,T,_,⟨(st _ zO).trans (qb b3 hW),(st _ zO).trans (qb g3 hW),zO,by rw[size_madeCells];omega,zO⟩,zM _,fun _=>rfl,zO,size_madeCells _ _⟩,
        ⟨_,(st _ n1).trans hBB.1,size_madeCells _ _,fun _ _ _ h=>zO⟩,⟨_,(st _ n2).trans hWW.1,size_madeCells _ _,fun _ _ _ h=>zO⟩⟩
      generalize World.setCell (World.setCell W _ _) _ _=w6 at *;clear n1 n2 hob2 rob st hob hWW hBB hW g3 b3 ko fo;have r6:=(B5.block w.heap.size zO).trans r3;have k6:=qa r6;have I0:TwI bs ws T s0 wn (s0+1) s0 BB WW ob (.int .i64 0) w6:=⟨0,Nat.zero_le _,rfl,T0⟩
      replace I0:=zH I0;have r3':=zH r3;have q3':=zH q3;clear B5 T0 r3 q3 x3 r6;go_wp2_with fail;go_loopw [57] (fun i wr=>TwI bs ws T s0 wn (s0+1) s0 BB WW ob i wr) (fun i _=>bs.length-(intOf i).toNat)
      case atStart=>exact I0.out
      case round =>
       obtain⟨k,hk,rfl,iW⟩:=hrel.ex;clear hrel I0 k6;have mr:Below w.heap.size w wr:=Below.trans xw3 (Below.mono iW.below zO);have rr:=(iW.below.block w.heap.size zO).trans r3'.out;have kr:=qa rr;by_cases hlt:k<bs.length
       ·have aJ:=hlt;obtain⟨b1,o1,rfl,bG⟩:=hA1 zO;obtain⟨A',c',hc,ai⟩:=(HB.out.below mr).get k hlt;have iD:=Ym hlt;have hle:=vj bs (k+1);have hgk:=zL hlt;generalize bs[k]=l at *;obtain⟨o,n,cur,hH,q1,q2,q3,q4⟩:=iW.heap;have hln:l.length<=n:=by have:=hT.out;have:=htb.out;omega
        have hII:Bys wr wr.heap.size (.slice A' l.length c') l:=ai.more mr.size;have uZ:=iW.out;obtain⟨cb,rb,sb,_⟩:=iW.bb;have n1:ob≠s0+1:=qM uZ hH.box zA1;have n2:ob≠s0:=qM uZ hH.row zA1;have n3:BB≠s0+1:=qM rb hH.box zA1;have n4:BB≠s0:=qM rb hH.row zA1;have sG:∀ a b,qk.r a b->(YR (s0+1) s0).r a b:=qfN;obtain⟨RR,ah⟩:∃ RR:Rel,RR=YR (s0+1) s0:=⟨_,rfl⟩
        rw[<-ah] at sG;have hle:=sG;have g1:∀ W,RR.r wr W->∀ i,W.cell? ⟨ob,i,none⟩=#[.slice (some ⟨BB,0,none⟩) bs.length bs.length,.slice (some ⟨WW,0,none⟩) ws.length (ws.length+1)][i]?:=fun W h=>qa (vV (ah ▸ h) n1 n2 uZ);replace ah:=zH ah;replace iW:=zH iW;replace iD:=zH iD;replace hgk:=zH hgk;replace hH:=zH hH;replace rb:=zH rb;clear q1 q2 q3 q4 sG hA2;go_wp2_with fail;refine qo zQ ?_;refine qaF (w:=wr) qk RR 4 hle (qD [(4,TV (s0+1) s0 o n cur l)]) [true,true,true,true,true,true] 1 zQ zQ zQ zQ zQ zQ zQ ?st one_at (Rel.drew _ _) ?walk
        case st=>exact qj (by simp only[List.forall_mem_cons];exact⟨XI _ _ _ _ _ _,fun _ h=>by cases h⟩)
        case walk =>
         intro K hK;dsimp only[qp];repeat ((first|(refine jj hle ?_ zA0 zA0 (fun W hW _=>?_) ?_;rotate_left;(go_simp<;>with_reducible rfl))|(refine Jl zA0 ?_));try simp only[Act.put,ql,qf,qc,qg,QS,Zq,qc,zA,zB,zC])
         refine UW (TV (s0+1) s0 o n cur l) zA0 zA0 (fun W hW _=>?_) (fun (p:Nat)=>?_)
         ·have hW:Ext wr W:=hW;refine Qa ?_ ((Ga (s0+1) s0 o n cur A' c' l hln W ⟨qb hH.out.box hW,qb hH.out.row hW,hH.out.ne,hH.out.fit,hH.out.few⟩ (hII.below hW |>.more hW.size)).mono fun e w' h=>?_)
          ·go_simp
          obtain⟨o',rfl,h1,h2,h3,e1,e2,e3,e4,e5⟩:=h;refine⟨o',rfl,⟨h1,h2,h3⟩,?_⟩;rw[ah.out];exact⟨e2,e3,e4,Nat.le_of_eq e1.symm,fun b _ h1 h2=>e5 b h1 h2⟩
         simp only[Act.put,qf,qc,qg,QS,Zq,qc,zA,zB,zC];repeat ((first|(refine jj hle ?_ zA0 zA0 (fun W hW _=>?_) ?_;rotate_left;(go_simp<;>with_reducible rfl))|(refine Jl zA0 ?_));try simp only[Act.put,ql,qf,qc,qg,QS,Zq,qc,zA,zB,zC])
         first
          |(refine jj hle (.pointer (some ⟨BB,0+k,none⟩)) zA0 zA0 (fun W hW _=>?_) ?_
            ·go_simp;rw[IntWalk.i64_in (k:Int) zO,if_pos zO];simp
            simp only[Act.put,ql,qf,qc,qg,QS,Zq,qc,zA,zB,zC])
          |skip
         repeat ((first|(refine jj hle ?_ zA0 zA0 (fun W hW _=>?_) ?_;rotate_left;(go_simp<;>with_reducible rfl))|(refine Jl zA0 ?_));try simp only[Act.put,ql,qf,qc,qg,QS,Zq,qc,zA,zB,zC])
         refine qaK (hK _ _ fun W hW hF=>?_);obtain⟨h1,h2,hH'⟩:(TV (s0+1) s0 o n cur l).φ p W:=(hF 4).1;clear hF hK g1;rw[ah.out] at hW;refine zB5 ?_;obtain⟨T1,hin⟩:=iW.out.clone hH.out hln hW h1 h2 hH';have rB:=vV hW n3 n4 rb.out;have kB:=qa rB k;have fB:=qe rB k;rw[Array.getElem?_eq_getElem zO] at kB;generalize cb[k]=u0 at *;have T2:=T1.setB hgk.out hin;rw[<-iD.out] at T2;have IR:TwI bs ws T s0 wn (s0+1) s0 BB WW ob (.int .i64 ((k:Int)+1)) (W.setCell ⟨BB,k,none⟩ (.slice (some ⟨s0,o,none⟩) l.length l.length)):=⟨k+1,zO,rfl,T2⟩
         replace IR:=zH IR;have uB:=zH (IntWalk.wrap64_in ((k:Int)+1) zO);clear T1 T2 hin hW h1 h2 hH' rB rb iW hH iD hgk;go_wp2;refine Qo ?_;go_wp2_with fail;try rw[uB.out]
         refine⟨IR.out,?_⟩;simp[intOf];omega
       ·obtain rfl:k=bs.length:=zO;rw[List.take_length] at iW;have J0:TwJ bs ws T s0 wn (s0+1) s0 BB WW ob (.int .i64 0) wr:=⟨0,Nat.zero_le _,rfl,iW⟩
        replace J0:=zH J0;generalize uB:wr=wk at *;clear uB iW mr;go_wp2_with fail;go_loopw [72] (fun i wr=>TwJ bs ws T s0 wn (s0+1) s0 BB WW ob i wr) (fun i _=>ws.length-(intOf i).toNat)
        case atStart=>exact J0.out
        case round =>
         obtain⟨k,hk,rfl,iW⟩:=hrel.ex;clear hrel J0 kr rr;have mr:Below w.heap.size w wr:=Below.trans xw3 (Below.mono iW.below zO);have rr:=(iW.below.block w.heap.size zO).trans r3'.out;have kr:=qa rr;by_cases hlt:k<ws.length
         ·have aJ:=hlt;obtain⟨b2,o2,rfl,bI⟩:=hA2 zO;obtain⟨A',c',ha,hc,ai⟩:=(HW.out.below mr).get k hlt;have iD:Jd ((ws.take (k+1)).map (·.2))=Jd ((ws.take k).map (·.2))+ws[k].2.length:=by rw[List.map_take,List.map_take,Ym (by rw[List.length_map];exact hlt),List.getElem_map]
          have hle:Jd ((ws.take (k+1)).map (·.2))<=tw:=by rw[htw.out,List.map_take];exact vj _ _
          have hgk:=zL hlt;generalize ws[k]=pl at *;obtain⟨pn,l⟩:=pl;simp only at ha hc ai iD;go_upto_region 22 with fail;generalize hwp:World.alloc wr _=wp;have xp:Ext wr wp:=by rw[<-hwp];exact zN _ _
          have tp:wp.heap[wr.heap.size]?=some (.cells #[.int .i64 pn,.slice A' l.length c'] 130 (0,0)):=by rw[<-hwp];exact zI _ _ _ rfl
          clear hwp;have hls:s0<=wr.heap.size:=Nat.le_trans (Nat.le_trans zO iW.below.size) (zM _);have hTP:=iW.ext xp hls;obtain⟨o,n,cur,hH,q1,q2,q3,q4⟩:=hTP.heap;have hln:l.length<=n:=by have:=hT.out;have:=htb.out;omega
          have hII:Bys wp wp.heap.size (.slice A' l.length c') l:=(ai.below (Below.mono xp mr.size)).more (by have:=xp.size;have:=mr.size;omega);have uZ:=hTP.out;obtain⟨cw,rw_,sw,_⟩:=hTP.ww;have zhb:=(zG.1 ((iW.heap).choose_spec.choose_spec.choose_spec.1.box)).1;have zg:=(zG.1 ((iW.heap).choose_spec.choose_spec.choose_spec.1.row)).1;have zw:=(zG.1 (iW.ww.choose_spec.1)).1;have n1:ob≠s0+1:=qM uZ hH.box zA1;have n2:ob≠s0:=qM uZ hH.row zA1;have n3:WW≠s0+1:=qM rw_ hH.box zA1;have n4:WW≠s0:=qM rw_ hH.row zA1;have sG:∀ a b,qk.r a b->(YR (s0+1) s0).r a b:=qfN;obtain⟨RR,ah⟩:∃ RR:Rel,RR=YR (s0+1) s0:=⟨_,rfl⟩
          rw[<-ah] at sG;have hle:=sG;generalize wr.heap.size=tt at tp hls zhb zg zw ⊢;have g1:∀ W,RR.r wp W->∀ i,W.cell? ⟨ob,i,none⟩=#[.slice (some ⟨BB,0,none⟩) bs.length bs.length,.slice (some ⟨WW,0,none⟩) ws.length (ws.length+1)][i]?:=fun W h=>qa (vV (ah ▸ h) n1 n2 uZ);have g2:∀ W,RR.r wp W->∀ i,W.cell? ⟨tt,i,none⟩=#[.int .i64 pn,.slice A' l.length c'][i]?:=fun W h=>qa (vV (ah ▸ h) zO zO tp);replace ah:=zH ah;replace hTP:=zH hTP;replace iD:=zH iD;replace hgk:=zH hgk;replace hH:=zH hH;replace rw_:=zH rw_;clear q1 q2 q3 q4 sG iW ai ha hc hA1 tp xp rr kr;refine qo zQ ?_;refine qaF (w:=wp) qk RR 7 hle (qD [(7,TV (s0+1) s0 o n cur l)]) [true,true,true,true,true,true,true,true,true,true] 1 zQ zQ zQ zQ zQ zQ zQ ?st one_at (Rel.drew _ _) ?walk
          case st=>exact qj (by simp only[List.forall_mem_cons];exact⟨XI _ _ _ _ _ _,fun _ h=>by cases h⟩)
          case walk =>
           intro K hK;dsimp only[qp];repeat ((first|(refine jj hle ?_ zA0 zA0 (fun W hW _=>?_) ?_;rotate_left;(go_simp<;>with_reducible rfl))|(refine Jl zA0 ?_));try simp only[Act.put,ql,qf,qc,qg,QS,Zq,qc,zA,zB,zC])
           refine UW (TV (s0+1) s0 o n cur l) zA0 zA0 (fun W hW _=>?_) (fun (p:Nat)=>?_)
           ·have hW:Ext wp W:=hW;refine Qa ?_ ((Ga (s0+1) s0 o n cur A' c' l hln W ⟨qb hH.out.box hW,qb hH.out.row hW,hH.out.ne,hH.out.fit,hH.out.few⟩ (hII.below hW |>.more hW.size)).mono fun e w' h=>?_)
            ·go_simp
            obtain⟨o',rfl,h1,h2,h3,e1,e2,e3,e4,e5⟩:=h;refine⟨o',rfl,⟨h1,h2,h3⟩,?_⟩;rw[ah.out];exact⟨e2,e3,e4,Nat.le_of_eq e1.symm,fun b _ h1 h2=>e5 b h1 h2⟩
           simp only[Act.put,qf,qc,qg,QS,Zq,qc,zA,zB,zC];repeat ((first|(refine jj hle ?_ zA0 zA0 (fun W hW _=>?_) ?_;rotate_left;(go_simp<;>with_reducible rfl))|(refine Jl zA0 ?_));try simp only[Act.put,ql,qf,qc,qg,QS,Zq,qc,zA,zB,zC])
           first
            |(refine jj hle (.pointer (some ⟨WW,0+k*2,none⟩)) zA0 zA0 (fun W hW _=>?_) ?_
              ·go_simp;rw[IntWalk.i64_in (k:Int) zO,if_pos zO];simp
              simp only[Act.put,ql,qf,qc,qg,QS,Zq,qc,zA,zB,zC])
            |skip
           repeat ((first|(refine jj hle ?_ zA0 zA0 (fun W hW _=>?_) ?_;rotate_left;(go_simp<;>with_reducible rfl))|(refine Jl zA0 ?_));try simp only[Act.put,ql,qf,qc,qg,QS,Zq,qc,zA,zB,zC])
           refine qaK (hK _ _ fun W hW hF=>?_);obtain⟨h1,h2,hH'⟩:(TV (s0+1) s0 o n cur l).φ p W:=(hF 7).1;clear hF hK g1 g2;rw[ah.out] at hW;refine zB5 ?_;obtain⟨T1,hin⟩:=hTP.out.clone hH.out hln hW h1 h2 hH';have rB:=vV hW n3 n4 rw_.out;have kB:=qa rB (k*2);have kC:=qa rB (k*2+1);have fB:=qe rB;rw[Array.getElem?_eq_getElem zO] at kB kC;generalize cw[k*2]=u0 at *;generalize cw[k*2+1]=u1 at *;have T2:=T1.setW hgk.out hin;rw[Nat.add_assoc,<-iD.out] at T2;have IR:TwJ bs ws T s0 wn (s0+1) s0 BB WW ob (.int .i64 ((k:Int)+1)) ((W.setCell ⟨WW,k*2,none⟩ (.int .i64 pn)).setCell ⟨WW,k*2+1,none⟩ (.slice (some ⟨s0,o,none⟩) l.length l.length)):=⟨k+1,zO,rfl,T2⟩
           replace IR:=zH IR;have uB:=zH (IntWalk.wrap64_in ((k:Int)+1) zO);clear T1 T2 hin hW h1 h2 hH' rB rw_ hTP hH iD hgk;go_wp2;refine Qo ?_;go_wp2_with fail;try rw[uB.out]
           refine⟨IR.out,?_⟩;simp[intOf];omega
         ·obtain rfl:k=ws.length:=zO;have DT:=iW.done;have qq:=(iW.below.block (w.heap.size+1) zO).trans q3'.out;have kq:=qa qq;have fq:=qe qq;have ko:=qa iW.out;have rf:=qi (qi qq 0 (.slice (some ⟨BB,0,none⟩) bs.length bs.length)) 1 (.slice (some ⟨WW,0,none⟩) ws.length (ws.length+1));have kf:=qa rf;have bf:Below w.heap.size w ((wr.setCell ⟨w.heap.size+1,0,none⟩ (.slice (some ⟨BB,0,none⟩) bs.length bs.length)).setCell ⟨w.heap.size+1,1,none⟩ (.slice (some ⟨WW,0,none⟩) ws.length (ws.length+1))):=Below.setCell (Below.setCell mr (p:=⟨w.heap.size+1,0,none⟩) (Nat.le_succ _) _) (p:=⟨w.heap.size+1,1,none⟩) (Nat.le_succ _) _;have DF:jQ w.heap.size bs ws BB WW s0 ((wr.setCell ⟨w.heap.size+1,0,none⟩ (.slice (some ⟨BB,0,none⟩) bs.length bs.length)).setCell ⟨w.heap.size+1,1,none⟩ (.slice (some ⟨WW,0,none⟩) ws.length (ws.length+1))):=
           DT.keep zO zA3 (fun b h1 _=>(zJ _ _ _ _ (by show b≠w.heap.size+1;omega)).trans (zJ _ _ _ _ (by show b≠w.heap.size+1;omega)))
          replace kf:=zH kf;replace bf:=zH bf;replace DF:=zH DF;clear rf DT iW;go_wp2;have kf:=kf.out;exact bodyPost_ret (v:=Yv (some ⟨BB,0,none⟩) bs.length bs.length (some ⟨WW,0,none⟩) ws.length (ws.length+1)) (by simp[results,results171,go_sem,kf]) rfl ⟨BB,WW,s0,rfl,DF.out,bf.out⟩
def vL (w:World) (b:Nat):Nat->List Value->World
 |_,[]=>w
 |k,v :: r=>vL (w.setCell ⟨b,k,none⟩ v) b (k+1) r
def KM (cs:Array Value):Nat->List Value->Array Value
 |_,[]=>cs
 |k,v :: r=>KM (cs.setIfInBounds k v) (k+1) r
theorem ZM {b g:Nat} (h:g≠b):∀ (vs:List Value) (w:World) (k:Nat),(vL w b k vs).heap[g]?=w.heap[g]?
 | [],_,_=>rfl
 |_ :: r,w,k=>(ZM h r _ _).trans (zJ _ _ _ _ h)
theorem jp {b:Nat}:∀ (vs:List Value) (w:World) (k:Nat),(vL w b k vs).heap.size=w.heap.size
 | [],_,_=>rfl
 |_ :: r,w,k=>(jp r _ _).trans zA3
theorem ZL {B b:Nat} {w0:World} (hB:B<=b):∀ (vs:List Value) (w:World) (k:Nat),Below B w0 w->Below B w0 (vL w b k vs)
 | [],_,_,h=>h
 |v :: r,w,k,h=>ZL hB r _ _ (Below.setCell h (p:=⟨b,k,none⟩) hB v)
theorem jO {b:Nat} {t:TypeId}:∀ (vs:List Value) (w:World) (k:Nat) (cs:Array Value),w.heap[b]?=some (.cells cs t (0,0))->(vL w b k vs).heap[b]?=some (.cells (KM cs k vs) t (0,0))
 | [],_,_,_,h=>h
 |v :: r,w,k,cs,h=>jO r _ _ _ (qi h k v)
end Go.Proofs.YtpbniokljofedaaGreat
