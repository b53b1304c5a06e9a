/- Texts DTwinW, DTwin, SetAll, joined. -/
import Derived.Deep.Slices
import Derived.Laws.MakeOwn
import Derived.Test.YtpbniokljofedaaGreatZE03
import Derived.Test.YtpbniokljofedaaGreatZE06
import Derived.Test.YtpbniokljofedaaGreatZE15
set_option linter.unusedSimpArgs false
set_option linter.unusedVariables false
set_option maxHeartbeats 8000000
set_option maxRecDepth 100000
namespace Go.Proofs.YtpbniokljofedaaGreat
open Go.RowKit Go.Deep
def InG (w:World) (g F:Nat) (v:Value) (l:List UInt8):Prop:=∃ o,v=.slice (some ⟨g,o,none⟩) l.length l.length∧o+l.length≤F∧∀ j u,(l.map bv)[j]?=some u→w.cell? ⟨g,o+j,none⟩=some u
section
variable {w w':World} {g F:Nat} {v:Value} {l:List UInt8}
theorem InG.keep (h:InG w g F v l) (hk:w'.heap[g]?=w.heap[g]?):InG w' g F v l:=by
 obtain⟨o,e,h1,h2⟩:=h
 exact⟨o,e,h1,fun j u hu=>(World.cell?_of_block hk).trans (h2 j u hu)⟩
theorem InG.step {cur:Array Value} {t:TypeId} {l':List UInt8} {o:Nat} (h:InG w g F v l) (hr:w.heap[g]?=some (.cells cur t (0,0))) (hr':w'.heap[g]?=some (.cells (ZJ cur o l') t (0,0))) (hfit:o+l'.length≤cur.size) (ho:o=F∨l'.length=0):InG w' g (F+l'.length) v l:=by
 obtain⟨o1,e,h1,h2⟩:=h
 refine⟨o1,e,by omega,fun j u hu=>?_⟩
 have hj:j<l.length:=by
  have:=(List.getElem?_eq_some_iff.1 hu).1
  simpa using this
 have:=h2 j u hu
 rw[qa hr] at this
 rw[qa hr',qgq hfit (by rcases ho with ho|ho <;> omega)]
 exact this
theorem InG.new {cur:Array Value} {t:TypeId} {o:Nat} (hr:w'.heap[g]?=some (.cells (ZJ cur o l) t (0,0))) (hfit:o+l.length≤cur.size) (ho:o≤F):InG w' g (F+l.length) (.slice (some ⟨g,o,none⟩) l.length l.length) l:=
 ⟨o,rfl,by omega,fun j u hu=>by rw[qa hr];exact qgi hfit hu⟩
theorem InG.bys {B:Nat} (h:InG w g F v l) (hg:g<B) (hl:l.length≤maxLen):Bys w B v l:=by
 obtain⟨o,e,h1,h2⟩:=h
 exact⟨_,_,e,zM _,hl,by simp,fun _=>⟨g,o,rfl,hg,h2⟩⟩
theorem InG.cells {W2:World} (h:InG w g F v l) (hk:∀ j,W2.cell? ⟨g,j,none⟩=w.cell? ⟨g,j,none⟩):InG W2 g F v l:=by
 obtain⟨o,e,h1,h2⟩:=h
 exact⟨o,e,h1,fun j u hu=>(hk _).trans (h2 j u hu)⟩
end
def Jl (ls:List (List UInt8)):Nat:=(ls.map List.length).sum
theorem Yx {ls:List (List UInt8)} {k:Nat} (h:k<ls.length):Jl (ls.take (k+1))=Jl (ls.take k)+ls[k].length:=by
 unfold Jl
 rw[List.take_succ_eq_append_getElem h,List.map_append,List.sum_append]
 simp
theorem qfP (ls:List (List UInt8)) (k:Nat):Jl (ls.take k)+Jl (ls.drop k)=Jl ls:=by
 unfold Jl
 rw[←List.sum_append,←List.map_append,List.take_append_drop]
theorem qgS {ls:List (List UInt8)} (h:∀ l∈ls,l.length<1000000):Jl ls≤ls.length*1000000:=by
 induction ls with
 |nil=>simp[Jl]
 |cons l r ih =>
  have h1:=ih fun x hx=>h x (List.mem_cons_of_mem _ hx)
  have h2:=h l List.mem_cons_self
  simp only[Jl,List.map_cons,List.sum_cons,List.length_cons] at h1 ⊢
  omega
theorem vD (ls:List (List UInt8)) (k:Nat):Jl (ls.take k)≤Jl ls:=by have:=qfP ls k;omega
def Xg (hb g:Nat):Rel where
 rel W W':=W'.os=W.os∧W'.tape=W.tape∧W'.output=W.output∧W.heap.size≤W'.heap.size∧∀ b,b<W.heap.size→b≠hb→b≠g→W'.heap[b]?=W.heap[b]?
 refl' w:=⟨rfl,rfl,rfl,zM _,fun _ _ _ _=>rfl⟩
 trans' h k:=⟨k.1.trans h.1,k.2.1.trans h.2.1,k.2.2.1.trans h.2.2.1,Nat.le_trans h.2.2.2.1 k.2.2.2.1,fun b hb h1 h2=>(k.2.2.2.2 b (Nat.lt_of_lt_of_le hb h.2.2.2.1) h1 h2).trans (h.2.2.2.2 b hb h1 h2)⟩
 drew' w:=⟨rfl,rfl,rfl,zM _,fun _ _ _ _=>rfl⟩
theorem qgP {hb g:Nat}:∀ a b,ql.r a b→(Xg hb g).r a b:=fun a b h=>by
 have h:Ext a b:=h
 exact⟨h.os,h.tape,h.output,h.size,fun k hk _ _=>h.block k hk⟩
theorem Vo {hb g b:Nat} {a W:World} {o:Obj} (h:(Xg hb g).r a W) (h1:b≠hb) (h2:b≠g) (hc:a.heap[b]?=some o):W.heap[b]?=some o:=
 (h.2.2.2.2 b (zG.1 hc).1 h1 h2).trans hc
theorem qI {w:World} {a b:Nat} {c d:Array Value} {t u:TypeId} (h:w.heap[a]?=some (.cells c t (0,0))) (k:w.heap[b]?=some (.cells d u (0,0))) (hn:t≠u):a≠b:=fun e=>by
 subst e
 rw[h] at k
 cases k
 exact hn rfl
structure TwS (bs:List (List UInt8)) (ws:List (Int×List UInt8)) (T lo:Nat) (w5:World) (hb g BB WW ob kb kw F:Nat) (wr:World):Prop where
 below:Below lo w5 wr
 los:lo≤hb∧lo≤g∧lo≤BB∧lo≤WW∧lo≤ob
 out:wr.heap[ob]?=some (.cells #[.slice (some ⟨BB,0,none⟩) bs.length bs.length,.slice (some ⟨WW,0,none⟩) ws.length (ws.length+1)] 25 (0,0))
 heap:∃ o n cur,qbj hb g o n cur wr∧o≤F∧(0<n→o=F)∧F+n=T∧cur.size=T
 bb:∃ cs,wr.heap[BB]?=some (.cells cs 26 (0,0))∧cs.size=bs.length∧∀ i l,bs[i]?=some l→i<kb→∃ v,cs[i]?=some v∧InG wr g F v l
 ww:∃ cs,wr.heap[WW]?=some (.cells cs 130 (0,0))∧cs.size=(ws.length+1)*2∧∀ i p,ws[i]?=some p→i<kw→∃ v,cs[i*2]?=some (.int .i64 p.1)∧cs[i*2+1]?=some v∧InG wr g F v p.2
section
variable {bs:List (List UInt8)} {ws:List (Int×List UInt8)} {T lo:Nat} {w5:World} {hb g BB WW ob kb kw F:Nat} {wr W:World}
theorem TwS.ext (h:TwS bs ws T lo w5 hb g BB WW ob kb kw F wr) (hx:Ext wr W) (hl:lo≤wr.heap.size):TwS bs ws T lo w5 hb g BB WW ob kb kw F W:=by
 obtain⟨o,n,cur,⟨H1,H2,H3,H4,H5⟩,h2⟩:=h.heap
 obtain⟨cb,hb1,hb2,hb3⟩:=h.bb
 obtain⟨cw,hw1,hw2,hw3⟩:=h.ww
 have hg:W.heap[g]?=wr.heap[g]?:=hx.block g (zG.1 H2).1
 exact⟨h.below.trans (Below.mono hx hl),h.los,qb h.out hx,⟨o,n,cur,⟨qb H1 hx,qb H2 hx,H3,H4,H5⟩,h2⟩,
  ⟨cb,qb hb1 hx,hb2,fun i l hi hk=>(hb3 i l hi hk).imp fun v hv=>⟨hv.1,hv.2.keep hg⟩⟩,⟨cw,qb hw1 hx,hw2,fun i p hi hk=>(hw3 i p hi hk).imp fun v hv=>⟨hv.1,hv.2.1,hv.2.2.keep hg⟩⟩⟩
theorem TwS.clone (h:TwS bs ws T lo w5 hb g BB WW ob kb kw F wr) {o n o':Nat} {cur:Array Value} {l:List UInt8} (hH:qbj hb g o n cur wr) (hl:l.length≤n) (hr:(Xg hb g).r wr W)
  (h1:0<n-l.length→o'=o+l.length) (h2:n-l.length=0→o'=o) (hH':qbj hb g o' (n-l.length) (ZJ cur o l) W) :
  TwS bs ws T lo w5 hb g BB WW ob kb kw (F+l.length) W∧InG W g (F+l.length) (.slice (some ⟨g,o,none⟩) l.length l.length) l:=by
 obtain⟨o2,n2,cur2,H2,k1,k2,k3,k4⟩:=h.heap
 have e1:=H2.box
 rw[hH.box] at e1
 simp only[Option.some.injEq,Obj.cells.injEq,Array.mk.injEq,List.cons.injEq,Value.slice.injEq,Addr.mk.injEq,and_true,true_and] at e1
 obtain⟨rfl,rfl,_⟩:=e1
 have e2:=H2.row
 rw[hH.row] at e2
 simp only[Option.some.injEq,Obj.cells.injEq,and_true] at e2
 subst e2
 have hfit:o+l.length≤cur.size:=by have:=hH.fit;omega
 have ho:o=F∨l.length=0:=by
  rcases Nat.eq_zero_or_pos n with h0|h0
  ·exact .inr (by omega)
  ·exact .inl (k2 h0)
 have hr0:=hH.row
 have hr1:=hH'.row
 obtain⟨cb,hb1,hb2,hb3⟩:=h.bb
 obtain⟨cw,hw1,hw2,hw3⟩:=h.ww
 have n1:BB≠hb:=qI hb1 hH.box (by decide)
 have n2:BB≠g:=qI hb1 hr0 (by decide)
 have n3:WW≠hb:=qI hw1 hH.box (by decide)
 have n4:WW≠g:=qI hw1 hr0 (by decide)
 have n5:ob≠hb:=qI h.out hH.box (by decide)
 have n6:ob≠g:=qI h.out hr0 (by decide)
 obtain⟨l1,l2,l3,l4,l5⟩:=h.los
 have hlt:=(zG.1 hr0).1
 refine⟨⟨⟨hr.1.trans h.below.os,hr.2.1.trans h.below.tape,hr.2.2.1.trans h.below.output,Nat.le_trans h.below.size hr.2.2.2.1,fun b hb=>(hr.2.2.2.2 b (by omega) (by omega) (by omega)).trans (h.below.block b hb)⟩,h.los,Vo hr n5 n6 h.out,⟨o',n-l.length,_,hH',?_,?_,by omega,?_⟩,
  ⟨cb,Vo hr n1 n2 hb1,hb2,fun i l' hi hk=>(hb3 i l' hi hk).imp fun v hv=>⟨hv.1,hv.2.step hr0 hr1 hfit ho⟩⟩,⟨cw,Vo hr n3 n4 hw1,hw2,fun i p hi hk=>(hw3 i p hi hk).imp fun v hv=>⟨hv.1,hv.2.1,hv.2.2.step hr0 hr1 hfit ho⟩⟩⟩,InG.new hr1 hfit k1⟩
 ·rcases Nat.eq_zero_or_pos (n-l.length) with h0|h0
  ·rw[h2 h0];omega
  ·rw[h1 h0];omega
 ·intro h0
  rw[h1 h0,k2 (by omega)]
 ·rw[UG hfit];exact k4
theorem TwS.setB (h:TwS bs ws T lo w5 hb g BB WW ob kb kw F wr) {v:Value} {l:List UInt8} (hk:bs[kb]?=some l) (hv:InG wr g F v l):TwS bs ws T lo w5 hb g BB WW ob (kb+1) kw F (wr.setCell ⟨BB,kb,none⟩ v):=by
 obtain⟨o,n,cur,⟨H1,H2,H3,H4,H5⟩,h2⟩:=h.heap
 obtain⟨cb,hb1,hb2,hb3⟩:=h.bb
 obtain⟨cw,hw1,hw2,hw3⟩:=h.ww
 have n1:hb≠BB:=qI H1 hb1 (by decide)
 have n2:g≠BB:=qI H2 hb1 (by decide)
 have n3:WW≠BB:=qI hw1 hb1 (by decide)
 have n5:ob≠BB:=qI h.out hb1 (by decide)
 have hg:=zJ wr ⟨BB,kb,none⟩ v g n2
 have hlt:=(List.getElem?_eq_some_iff.1 hk).1
 refine⟨Below.setCell h.below (p:=⟨BB,kb,none⟩) h.los.2.2.1 _,h.los,(zJ _ _ _ _ n5).trans h.out,⟨o,n,cur,⟨(zJ _ _ _ _ n1).trans H1,(zJ _ _ _ _ n2).trans H2,H3,H4,H5⟩,h2⟩,
  ⟨_,qi hb1 kb v,by simpa using hb2,fun i l' hi hki=>?_⟩,⟨cw,(zJ _ _ _ _ n3).trans hw1,hw2,fun i p hi hk=>(hw3 i p hi hk).imp fun v hv=>⟨hv.1,hv.2.1,hv.2.2.keep hg⟩⟩⟩
 rw[Array.getElem?_setIfInBounds]
 by_cases e:kb=i
 ·subst e
  rw[hk] at hi
  cases hi
  rw[if_pos rfl,if_pos (by omega)]
  exact⟨v,rfl,hv.keep hg⟩
 ·rw[if_neg e]
  exact(hb3 i l' hi (by omega)).imp fun u hu=>⟨hu.1,hu.2.keep hg⟩
theorem TwS.setW (h:TwS bs ws T lo w5 hb g BB WW ob kb kw F wr) {v:Value} {p:Int×List UInt8} (hk:ws[kw]?=some p) (hv:InG wr g F v p.2):TwS bs ws T lo w5 hb g BB WW ob kb (kw+1) F ((wr.setCell ⟨WW,kw*2,none⟩ (.int .i64 p.1)).setCell ⟨WW,kw*2+1,none⟩ v):=by
 obtain⟨o,n,cur,⟨H1,H2,H3,H4,H5⟩,h2⟩:=h.heap
 obtain⟨cb,hb1,hb2,hb3⟩:=h.bb
 obtain⟨cw,hw1,hw2,hw3⟩:=h.ww
 have n1:hb≠WW:=qI H1 hw1 (by decide)
 have n2:g≠WW:=qI H2 hw1 (by decide)
 have n3:BB≠WW:=qI hb1 hw1 (by decide)
 have n5:ob≠WW:=qI h.out hw1 (by decide)
 have st:∀ b,b≠WW→((wr.setCell ⟨WW,kw*2,none⟩ (.int .i64 p.1)).setCell ⟨WW,kw*2+1,none⟩ v).heap[b]?=wr.heap[b]?:=fun b hb=>(zJ _ _ _ _ hb).trans (zJ _ _ _ _ hb)
 have hlt:=(List.getElem?_eq_some_iff.1 hk).1
 refine⟨Below.setCell (Below.setCell h.below (p:=⟨WW,kw*2,none⟩) h.los.2.2.2.1 _) (p:=⟨WW,kw*2+1,none⟩) h.los.2.2.2.1 _,h.los,(st _ n5).trans h.out,⟨o,n,cur,⟨(st _ n1).trans H1,(st _ n2).trans H2,H3,H4,H5⟩,h2⟩,
  ⟨cb,(st _ n3).trans hb1,hb2,fun i l' hi hki=>(hb3 i l' hi hki).imp fun u hu=>⟨hu.1,hu.2.keep (st _ n2)⟩⟩,⟨_,qi (qi hw1 (kw*2) _) (kw*2+1) _,by simpa using hw2,fun i q hi hki=>?_⟩⟩
 by_cases e:kw=i
 ·subst e
  rw[hk] at hi
  cases hi
  refine⟨v,?_,?_,hv.keep (st _ n2)⟩
  ·rw[Array.getElem?_setIfInBounds,if_neg (by omega),Array.getElem?_setIfInBounds,if_pos rfl,if_pos (by omega)]
  ·rw[Array.getElem?_setIfInBounds,if_pos rfl,if_pos (by simp;omega)]
 ·refine(hw3 i q hi (by omega)).imp fun u hu=>⟨?_,?_,hu.2.2.keep (st _ n2)⟩
  ·rw[Array.getElem?_setIfInBounds,if_neg (by omega),Array.getElem?_setIfInBounds,if_neg (by omega)]
   exact hu.1
  ·rw[Array.getElem?_setIfInBounds,if_neg (by omega),Array.getElem?_setIfInBounds,if_neg (by omega)]
   exact hu.2.1
end
structure Jh (lo:Nat) (bs:List (List UInt8)) (ws:List (Int×List UInt8)) (BB WW g:Nat) (W:World):Prop where
 los:lo≤BB∧lo≤WW∧lo≤g∧g<W.heap.size∧BB≠WW∧BB≠g∧WW≠g
 bb:∃ cs,W.heap[BB]?=some (.cells cs 26 (0,0))∧cs.size=bs.length∧∀ (i:Nat) (l:List UInt8),bs[i]?=some l→∃ v F,cs[i]?=some v∧InG W g F v l
 ww:∃ cs,W.heap[WW]?=some (.cells cs 130 (0,0))∧cs.size=(ws.length+1)*2∧∀ (i:Nat) (p:Int×List UInt8),ws[i]?=some p→∃ v F,cs[i*2]?=some (.int .i64 p.1)∧cs[i*2+1]?=some v∧InG W g F v p.2
 gg:∃ cs,W.heap[g]?=some (.cells cs 5 (0,0))
theorem TwS.done {bs:List (List UInt8)} {ws:List (Int×List UInt8)} {T lo:Nat} {w5:World} {hb g BB WW ob F:Nat} {wr:World} (h:TwS bs ws T lo w5 hb g BB WW ob bs.length ws.length F wr):Jh lo bs ws BB WW g wr:=by
 obtain⟨o,n,cur,⟨H1,H2,H3,H4,H5⟩,h2⟩:=h.heap
 obtain⟨cb,hb1,hb2,hb3⟩:=h.bb
 obtain⟨cw,hw1,hw2,hw3⟩:=h.ww
 refine⟨⟨h.los.2.2.1,h.los.2.2.2.1,h.los.2.1,(zG.1 H2).1,qI hb1 hw1 (by decide),qI hb1 H2 (by decide),qI hw1 H2 (by decide)⟩,⟨cb,hb1,hb2,fun i l hi=>?_⟩,⟨cw,hw1,hw2,fun i p hi=>?_⟩,⟨_,H2⟩⟩
 ·obtain⟨v,h1,h2⟩:=hb3 i l hi (List.getElem?_eq_some_iff.1 hi).1
  exact⟨v,F,h1,h2⟩
 ·obtain⟨v,h1,h2⟩:=hw3 i p hi (List.getElem?_eq_some_iff.1 hi).1
  exact⟨v,F,h1,h2⟩
theorem Jh.keep {lo lo':Nat} {bs:List (List UInt8)} {ws:List (Int×List UInt8)} {BB WW g:Nat} {W W2:World} (h:Jh lo bs ws BB WW g W) (hl:lo'≤lo) (hs:W.heap.size≤W2.heap.size) (hk:∀ b,lo≤b→b<W.heap.size→W2.heap[b]?=W.heap[b]?):Jh lo' bs ws BB WW g W2:=by
 obtain⟨cb,hb1,hb2,hb3⟩:=h.bb
 obtain⟨cw,hw1,hw2,hw3⟩:=h.ww
 obtain⟨l1,l2,l3,l4,l5⟩:=h.los
 have hg:=hk g l3 l4
 exact⟨⟨by omega,by omega,by omega,by omega,l5⟩,⟨cb,(hk BB l1 (zG.1 hb1).1).trans hb1,hb2,fun i l hi=>by
  obtain⟨v,F,h1,h2⟩:=hb3 i l hi
  exact⟨v,F,h1,h2.keep hg⟩⟩,⟨cw,(hk WW l2 (zG.1 hw1).1).trans hw1,hw2,fun i p hi=>by
  obtain⟨v,F,h1,h2,h3⟩:=hw3 i p hi
  exact⟨v,F,h1,h2,h3.keep hg⟩⟩,h.gg.imp fun cs h=>hg.trans h⟩
theorem Jh.keepT {lo lo':Nat} {bs:List (List UInt8)} {ws:List (Int×List UInt8)} {BB WW g:Nat} {W W2:World} (h:Jh lo bs ws BB WW g W) (hl:lo'≤lo) (hs:W.heap.size≤W2.heap.size) {b1:Nat} {c1:Array Value} {t1:TypeId} (h1:W.heap[b1]?=some (.cells c1 t1 (0,0))) (ht:t1≠26∧t1≠130∧t1≠5) (hk:∀ b,lo≤b→b<W.heap.size→b≠b1→W2.heap[b]?=W.heap[b]?):Jh lo' bs ws BB WW g W2:=by
 obtain⟨cb,hb1,hb2,hb3⟩:=h.bb
 obtain⟨cw,hw1,hw2,hw3⟩:=h.ww
 obtain⟨cg,hg1⟩:=h.gg
 obtain⟨l1,l2,l3,l4,l5⟩:=h.los
 have hg:=hk g l3 l4 (qI hg1 h1 fun e=>ht.2.2 e.symm)
 exact⟨⟨by omega,by omega,by omega,by omega,l5⟩,⟨cb,(hk BB l1 (zG.1 hb1).1 (qI hb1 h1 fun e=>ht.1 e.symm)).trans hb1,hb2,fun i l hi=>by
  obtain⟨v,F,h1,h2⟩:=hb3 i l hi
  exact⟨v,F,h1,h2.keep hg⟩⟩,⟨cw,(hk WW l2 (zG.1 hw1).1 (qI hw1 h1 fun e=>ht.2.1 e.symm)).trans hw1,hw2,fun i p hi=>by
  obtain⟨v,F,h1,h2,h3⟩:=hw3 i p hi
  exact⟨v,F,h1,h2,h3.keep hg⟩⟩,cg,hg.trans hg1⟩
theorem Jh.readsB {lo:Nat} {bs:List (List UInt8)} {ws:List (Int×List UInt8)} {BB WW g:Nat} {W:World} (h:Jh lo bs ws BB WW g W) (h1:bs.length<1000000) (h2:ws.length<1000000) (h3:∀ l∈bs,l.length<1000000) (h4:∀ p∈ws,p.2.length<1000000)
  (W2:World) (hB:∀ j,W2.cell? ⟨BB,j,none⟩=W.cell? ⟨BB,j,none⟩) (hWW:∀ j,W2.cell? ⟨WW,j,none⟩=W.cell? ⟨WW,j,none⟩) (hg:∀ j,W2.cell? ⟨g,j,none⟩=W.cell? ⟨g,j,none⟩):Bls W2 W.heap.size (.slice (some ⟨BB,0,none⟩) bs.length bs.length) bs∧Wrs W2 W.heap.size (.slice (some ⟨WW,0,none⟩) ws.length (ws.length+1)) ws:=by
 obtain⟨cb,hb1,hb2,hb3⟩:=h.bb
 obtain⟨cw,hw1,hw2,hw3⟩:=h.ww
 obtain⟨l1,l2,l3,l4,l5⟩:=h.los
 have z1:=(zG.1 hb1).1
 have z2:=(zG.1 hw1).1
 have hm:∀ n,n<1000001→n≤maxLen:=fun n hn=>by unfold maxLen;omega
 refine⟨⟨cb.toList,_,_,rfl,zM _,hm _ (by omega),⟨by simp[hb2],fun _=>⟨BB,0,rfl,z1,fun j u hu=>?_⟩⟩,fun i u l hu hl=>?_⟩,?_⟩
 ·rw[Nat.zero_add,hB j,qa hb1]
  simpa using hu
 ·obtain⟨v,F,e1,e2⟩:=hb3 i l hl
  have:cb.toList[i]?=cb[i]?:=by simp
  rw[this,e1] at hu
  cases hu
  exact(e2.cells hg).bys l4 (hm _ (by have:=h3 l (List.mem_of_getElem? hl);omega))
 ·have hq:∀ i,i<ws.length→∃ q:(Int×List UInt8)×Value,ws[i]?=some q.1∧(∃ A c,q.2=.slice A q.1.2.length c)∧Bys W2 W.heap.size q.2 q.1.2∧cw[i*2]?=some (.int .i64 q.1.1)∧cw[i*2+1]?=some q.2:=fun i hi=>by
   obtain⟨v,F,e1,e2,e3⟩:=hw3 i ws[i] (zL hi)
   have hb:=(e3.cells hg).bys l4 (hm _ (by have:=h4 ws[i] (List.getElem_mem hi);omega))
   obtain⟨o,ev,_⟩:=e3
   exact⟨(ws[i],v),zL hi,⟨_,_,ev⟩,hb,e1,e2⟩
  obtain⟨Q,hQ⟩:=choose_lt (α:=(Int×List UInt8)×Value) (p:=fun i q=>ws[i]?=some q.1∧(∃ A c,q.2=.slice A q.1.2.length c)∧Bys W2 W.heap.size q.2 q.1.2∧cw[i*2]?=some (.int .i64 q.1.1)∧cw[i*2+1]?=some q.2) hq
  refine⟨(List.range ws.length).map Q,?_,⟨some ⟨WW,0,none⟩,ws.length+1,rfl,by omega,hm _ (by omega),⟨by rw[qak];simp,fun _=>⟨WW,0,rfl,z2,fun j u hu=>?_⟩⟩⟩,fun q hq'=>?_⟩
  ·apply List.ext_getElem?
   intro i
   rw[List.map_map,List.getElem?_map]
   rcases Nat.lt_or_ge i ws.length with hi|hi
   ·rw[List.getElem?_range hi,(hQ i hi).1];rfl
   ·rw[List.getElem?_eq_none (by simpa using hi),List.getElem?_eq_none hi];rfl
  ·rw[Nat.zero_add,hWW j,qa hw1]
   have hj:j<ws.length*2:=by
    have:=(List.getElem?_eq_some_iff.1 hu).1
    rw[qak] at this
    simpa using this
   obtain⟨c0,c1⟩:=YB ((List.range ws.length).map Q) (j / 2) (by simp;omega)
   obtain⟨_,_,_,q0,q1⟩:=hQ (j / 2) (by omega)
   rcases(show j=j / 2*2∨j=j / 2*2+1 by omega) with e|e
   ·have hu':some u=some _:=(hu.symm.trans (congrArg (fun t=>(jj ((List.range ws.length).map Q))[t]?) e)).trans c0
    cases hu'
    rw[show cw[j]?=cw[j / 2*2]? from congrArg (fun t=>cw[t]?) e,q0]
    simp
   ·have hu':some u=some _:=(hu.symm.trans (congrArg (fun t=>(jj ((List.range ws.length).map Q))[t]?) e)).trans c1
    cases hu'
    rw[show cw[j]?=cw[j / 2*2+1]? from congrArg (fun t=>cw[t]?) e,q1]
    simp
  ·obtain⟨i,hi,rfl⟩:=List.mem_map.1 hq'
   obtain⟨_,q1,q2,_⟩:=hQ i (List.mem_range.1 hi)
   exact⟨q1,q2⟩
theorem Jh.reads {lo:Nat} {bs:List (List UInt8)} {ws:List (Int×List UInt8)} {BB WW g:Nat} {W:World} (h:Jh lo bs ws BB WW g W) (h1:bs.length<1000000) (h2:ws.length<1000000) (h3:∀ l∈bs,l.length<1000000) (h4:∀ p∈ws,p.2.length<1000000)
  (W2:World) (hk:∀ q:Addr,lo≤q.block→q.block<W.heap.size→W2.cell? q=W.cell? q):Bls W2 W.heap.size (.slice (some ⟨BB,0,none⟩) bs.length bs.length) bs∧Wrs W2 W.heap.size (.slice (some ⟨WW,0,none⟩) ws.length (ws.length+1)) ws:=by
 obtain⟨cb,hb1,-⟩:=h.bb
 obtain⟨cw,hw1,-⟩:=h.ww
 obtain⟨l1,l2,l3,l4,-⟩:=h.los
 exact h.readsB h1 h2 h3 h4 W2 (fun j=>hk ⟨BB,j,none⟩ l1 (zG.1 hb1).1) (fun j=>hk ⟨WW,j,none⟩ l2 (zG.1 hw1).1) fun j=>hk ⟨g,j,none⟩ l3 l4
theorem Jh.readsT {lo:Nat} {bs:List (List UInt8)} {ws:List (Int×List UInt8)} {BB WW g:Nat} {W:World} (h:Jh lo bs ws BB WW g W) (h1:bs.length<1000000) (h2:ws.length<1000000) (h3:∀ l∈bs,l.length<1000000) (h4:∀ p∈ws,p.2.length<1000000)
  (W2:World) (hk:∀ q:Addr,lo≤q.block→q.block<W.heap.size→W2.cell? q=(thaw W).cell? q):Bls W2 W.heap.size (.slice (some ⟨BB,0,none⟩) bs.length bs.length) bs∧Wrs W2 W.heap.size (.slice (some ⟨WW,0,none⟩) ws.length (ws.length+1)) ws:=by
 obtain⟨cb,hb1,-⟩:=h.bb
 obtain⟨cw,hw1,-⟩:=h.ww
 obtain⟨cg,hg1⟩:=h.gg
 obtain⟨l1,l2,l3,l4,-⟩:=h.los
 exact h.readsB h1 h2 h3 h4 W2 (fun j=>(hk ⟨BB,j,none⟩ l1 (zG.1 hb1).1).trans (kF hb1 j)) (fun j=>(hk ⟨WW,j,none⟩ l2 (zG.1 hw1).1).trans (kF hw1 j)) fun j=>(hk ⟨g,j,none⟩ l3 l4).trans (kF hg1 j)
end Go.Proofs.YtpbniokljofedaaGreat
namespace Go.Proofs.YtpbniokljofedaaGreat
open Go.RowKit
def Up (lo n c:Nat) (ty:TypeId) (cs:Array Value):qS:=⟨Nat,fun b=>.slice (some ⟨b,0,none⟩) n c,fun b W=>W.heap[b]?=some (.cells cs ty (0,0))∧lo≤b⟩
theorem zj (lo n c:Nat) (ty:TypeId) (cs:Array Value) (b:Nat):(Up lo n c ty cs).f b=.slice (some ⟨b,0,none⟩) n c:=rfl
theorem kK (lo n c:Nat) (ty:TypeId) (cs:Array Value):∀ p,qD ql ((Up lo n c ty cs).φ p):=fun p W W' he h=>⟨qb h.1 he,h.2⟩
def UE (hb g o n:Nat) (cur:Array Value) (l:List UInt8):qS:=⟨Nat,fun _=>.slice (some ⟨g,o,none⟩) l.length l.length,fun o' W=>(0<n-l.length→o'=o+l.length)∧(n-l.length=0→o'=o)∧qbj hb g o' (n-l.length) (ZJ cur o l) W⟩
theorem Zs (hb g o n:Nat) (cur:Array Value) (l:List UInt8) (p:Nat):(UE hb g o n cur l).f p=.slice (some ⟨g,o,none⟩) l.length l.length:=rfl
theorem Td (hb g o n:Nat) (cur:Array Value) (l:List UInt8):∀ p,qD ql ((UE hb g o n cur l).φ p):=fun p W W' he ⟨h1,h2,h3⟩=>⟨h1,h2,⟨qb h3.box he,qb h3.row he,h3.ne,h3.fit,h3.few⟩⟩
theorem qeZ {T:Nat} (hT:T≤281474976710656) (w:World):(Instr.makeSlice 257 (.int .i64 (T:Int)) (.int .i64 (T:Int))).run Tryz.prog w=.ok (.slice (some ⟨w.heap.size,0,none⟩) T T) (w.alloc (.cells (madeCells #[.int .u8 0] T) 5)):=by
 obtain⟨i0,hi,hz0,hz1,hz2⟩:=info_parts Tryz.info_u8
 have h:=run_make (P:=Tryz.prog) w 257 5 i0 _ Tryz.underlying257 hi hz0 .i64 .i64 (T:Int) (T:Int) (by omega) (by omega) (by rw[hz2];omega) (by omega)
 rw[hz1,Int.toNat_natCast,Nat.mul_one] at h
 exact h
theorem Tn {n:Nat} (hn:n<1000000) (w:World):(Instr.makeSlice 22 (.int .i64 (n:Int)) (.int .i64 (n:Int))).run Tryz.prog w=.ok (.slice (some ⟨w.heap.size,0,none⟩) n n) (w.alloc (.cells (madeCells #[.slice none 0 0] n) 26)):=by
 obtain⟨i0,hi,hz0,hz1,hz2⟩:=info_parts Tryz.info_bytes
 have h:=run_make (P:=Tryz.prog) w 22 26 i0 _ Tryz.underlying22 hi hz0 .i64 .i64 (n:Int) (n:Int) (by omega) (by omega) (by rw[hz2];omega) (by omega)
 rw[hz1,Int.toNat_natCast,Nat.mul_one] at h
 exact h
theorem qcb {n:Nat} (hn:n<1000000) (w:World):(Instr.makeSlice 23 (.int .i64 (n:Int)) (.int .i64 ((n:Int)+1))).run Tryz.prog w=.ok (.slice (some ⟨w.heap.size,0,none⟩) n (n+1)) (w.alloc (.cells (madeCells #[.int .i64 0,.slice none 0 0] ((n+1)*2)) 130)):=by
 obtain⟨i0,hi,hz0,hz1,hz2⟩:=info_parts Tryz.info_write
 have h:=run_make (P:=Tryz.prog) w 23 130 i0 _ Tryz.underlying23 hi hz0 .i64 .i64 (n:Int) ((n:Int)+1) (by omega) (by omega) (by rw[hz2];omega) (by omega)
 rw[hz1,Int.toNat_natCast,show ((n:Int)+1).toNat=n+1 by omega] at h
 exact h
structure TwI (bs:List (List UInt8)) (ws:List (Int×List UInt8)) (T lo:Nat) (w5:World) (hb g BB WW ob:Nat) (i:Value) (wr:World):Prop where
 ex:∃ k:Nat,k≤bs.length∧i=.int .i64 (k:Int)∧TwS bs ws T lo w5 hb g BB WW ob k 0 (Jl (bs.take k)) wr
structure TwJ (bs:List (List UInt8)) (ws:List (Int×List UInt8)) (T lo:Nat) (w5:World) (hb g BB WW ob:Nat) (i:Value) (wr:World):Prop where
 ex:∃ k:Nat,k≤ws.length∧i=.int .i64 (k:Int)∧TwS bs ws T lo w5 hb g BB WW ob bs.length k (Jl bs+Jl ((ws.take k).map (·.2))) wr
theorem one_at {c:Nat} {hh:qS}:∀ i h,qE [(c,hh)] i=some h→i=c:=by
 intro i h e
 simp only[qE] at e
 split at e
 ·assumption
 ·cases e
theorem qhA (A1:Option Addr) (n1 c1:Nat) (A2:Option Addr) (n2 c2:Nat) (bs:List (List UInt8)) (ws:List (Int×List UInt8)) (hbl:bs.length<1000000) (hwl:ws.length<1000000) (hbe:∀ l∈bs,l.length<1000000) (hwe:∀ p∈ws,p.2.length<1000000) (w:World)
  (hb:Bls w w.heap.size (.slice A1 n1 c1) bs) (hw:Wrs w w.heap.size (.slice A2 n2 c2) ws) :
  Calls Tryz.prog 171 #[YS A1 n1 c1 A2 n2 c2] w (fun e W=>∃ BB WW g,e=.returned (YS (some ⟨BB,0,none⟩) bs.length bs.length (some ⟨WW,0,none⟩) ws.length (ws.length+1))∧Jh w.heap.size bs ws BB WW g W∧Below w.heap.size w W):=by
 obtain⟨e1,hc1,hm1,hA1⟩:=hb.at_
 obtain⟨e2,hc2,hm2,hA2⟩:=hw.at_
 subst e1
 subst e2
 have HB:=zH hb
 have HW:=zH hw
 have hTb:Jl bs≤1000000000000:=Nat.le_trans (qgS hbe) (by omega)
 have hTw:Jl (ws.map (·.2))≤1000000000000:=Nat.le_trans (qgS (fun l hl=>by obtain⟨p,hp,rfl⟩:=List.mem_map.1 hl;exact hwe p hp)) (by rw[List.length_map];omega)
 clear hb hw hm1 hm2
 go_enter Tryz.func171,Tryz.ntmps171
 go_wp2_with fail
 generalize hw1:(World.alloc (World.alloc _ _) _)=w1
 have x1:Ext w w1:=by rw[←hw1];exact(zN _ _).trans (zN _ _)
 have r1:w1.heap[w.heap.size]?=some (.cells #[.slice A1 bs.length c1,.slice A2 ws.length c2] 25 (0,0)):=by rw[←hw1];exact(zK _ _ _ (by simp)).trans (zI _ _ _ rfl)
 have q1:w1.heap[w.heap.size+1]?=some (.cells #[.slice none 0 0,.slice none 0 0] 25 (0,0)):=by rw[←hw1];exact zI _ _ _ (by simp)
 have z1:w1.heap.size=w.heap.size+2:=by rw[←hw1];simp
 clear hw1
 go_wp2_with fail
 go_loopw [3,17] (fun all i wr=>∃ k:Nat,k≤bs.length∧i=.int .i64 (k:Int)∧all=.int .i64 ((Jl (bs.take k):Nat):Int)∧Ext w1 wr) (fun _ i _=>bs.length-(intOf i).toNat)
 case atStart=>exact⟨0,Nat.zero_le _,rfl,rfl,Ext.refl _⟩
 case round =>
  obtain⟨k,hk,rfl,rfl,hE⟩:=hrel
  have xw:Below w.heap.size w wr:=Ext.trans x1 hE
  have rr:=qb r1 hE
  have kr:=qa rr
  by_cases hlt:k<bs.length
  ·obtain⟨b1,o1,rfl,hb1⟩:=hA1 (by omega)
   obtain⟨A',c',hc,_⟩:=(HB.out.below xw).get k hlt
   have hsn:=Yx hlt
   have hle:=vD bs (k+1)
   generalize bs[k].length=m at *
   generalize Jl (bs.take k)=q at *
   have hwq:=zH (IntWalk.wrap64_in ((q:Int)+(m:Int)) (by omega))
   have hwk:=zH (IntWalk.wrap64_in ((k:Int)+1) (by omega))
   go_wp2_with fail
   refine⟨⟨k+1,by omega,by push_cast;rfl,by rw[hsn];push_cast;rfl,hE⟩,?_⟩
   simp[intOf]
   omega
  ·obtain rfl:k=bs.length:=by omega
   rw[List.take_length]
   generalize hwm:wr=wm at *
   clear hwm kr rr
   have r2:=qb r1 hE
   have q2:=qb q1 hE
   have k2:=qa r2
   obtain⟨tb,htb⟩:∃ tb,tb=Jl bs:=⟨_,rfl⟩
   obtain⟨tw,htw⟩:∃ tw,tw=Jl (ws.map (·.2)):=⟨_,rfl⟩
   rw[←htb] at hTb ⊢
   rw[←htw] at hTw
   replace htb:=zH htb
   replace htw:=zH htw
   go_wp2_with fail
   go_loopw [3,29] (fun all i wr=>∃ k:Nat,k≤ws.length∧i=.int .i64 (k:Int)∧all=.int .i64 ((tb+Jl ((ws.take k).map (·.2)):Nat):Int)∧Ext wm wr) (fun _ i _=>ws.length-(intOf i).toNat)
   case atStart=>exact⟨0,Nat.zero_le _,rfl,rfl,Ext.refl _⟩
   case round =>
    obtain⟨k,hk,rfl,rfl,hE2⟩:=hrel
    have xw2:Below w.heap.size w wr:=Ext.trans xw hE2
    have rr:=qb r2 hE2
    have kr:=qa rr
    clear k2
    by_cases hlt:k<ws.length
    ·obtain⟨b2,o2,rfl,hb2⟩:=hA2 (by omega)
     obtain⟨A',c',ha,hc,_⟩:=(HW.out.below xw2).get k hlt
     have hsn:Jl ((ws.take (k+1)).map (·.2))=Jl ((ws.take k).map (·.2))+ws[k].2.length:=by
      rw[List.map_take,List.map_take,Yx (by rw[List.length_map];exact hlt),List.getElem_map]
     have hle:Jl ((ws.take (k+1)).map (·.2))≤tw:=by rw[htw.out,List.map_take];exact vD _ _
     generalize ws[k].2.length=m at *
     generalize ws[k].1=pn at *
     generalize Jl ((ws.take k).map (·.2))=q at *
     have hwq:=zH (IntWalk.wrap64_in (((tb+q:Nat):Int)+(m:Int)) (by omega))
     have hwk:=zH (IntWalk.wrap64_in ((k:Int)+1) (by omega))
     go_wp2_with fail
     refine⟨⟨k+1,by omega,by push_cast;rfl,by rw[hsn];push_cast;rw[Int.add_assoc],hE2.trans (zN _ _)⟩,?_⟩
     simp[intOf]
     omega
    ·obtain rfl:k=ws.length:=by omega
     rw[List.take_length,←htw.out]
     have hmk:=qeZ (T:=tb+tw) (by omega)
     obtain⟨T,hT⟩:∃ T,T=tb+tw:=⟨_,rfl⟩
     rw[←hT] at hmk ⊢
     have hT2:T≤2000000000000:=by omega
     replace hT:=zH hT
     go_wp2_with fail
     generalize hwn:World.alloc (World.alloc _ _) _=wn
     have x3:Ext wr wn:=by rw[←hwn];exact(zN _ _).trans (zN _ _)
     have g3:wn.heap[wr.heap.size]?=some (.cells (madeCells #[.int .u8 0] T) 5 (0,0)):=by rw[←hwn];exact(zK _ _ _ (by simp)).trans (zI _ _ _ rfl)
     have b3:wn.heap[wr.heap.size+1]?=some (.cells #[.slice (some ⟨wr.heap.size,0,none⟩) T T] 257 (0,0)):=by rw[←hwn];exact zI _ _ _ (by simp)
     have zn0:wn.heap.size=wr.heap.size+2:=by rw[←hwn];simp
     clear hwn hmk
     have r3:=qb rr x3
     have q3:=qb (qb q2 hE2) x3
     have xw3:Ext w wn:=Ext.trans xw2 x3
     have k3:=qa r3
     have zr:=(zG.1 q2).1
     have zr2:=hE2.size
     have zn:wn.heap.size=wr.heap.size+2:=zn0
     clear kr rr r2 q2 r1 q1 x1 hE hE2 xw xw2
     generalize wr.heap.size=s0 at g3 b3 zn zr2 ⊢
     have zs0:w.heap.size+1<s0:=by omega
     clear zr zr2 zn0
     have g1:∀ W,ql.r wn W→∀ i,W.cell? ⟨w.heap.size,i,none⟩=#[.slice A1 bs.length c1,.slice A2 ws.length c2][i]?:=fun W h=>qa (qb r3 h)
     have hmkB:=Tn hbl
     have hmkW:=qcb hwl
     have hi1:=zH (IntWalk.i64_in ((ws.length:Int)+1) (by omega))
     have hwm1:wrap64 ((ws.length:Int)+1)=(ws.length:Int)+1:=IntWalk.wrap64_in _ (by omega)
     go_wp2_with fail
     refine qm (by kernel_rfl) ?_
     refine qO (w:=wn) ql (qE [(3,Up wn.heap.size bs.length bs.length 26 (madeCells #[.slice none 0 0] bs.length)),(11,Up wn.heap.size ws.length (ws.length+1) 130 (madeCells #[.int .i64 0,.slice none 0 0] ((ws.length+1)*2))),(13,jZ wn.heap.size 25 #[.slice none 0 0,.slice none 0 0])])
      [true,true,true,true,true,true,true,true,true,true,true,true,true,true] 1 (by kernel_rfl) (by kernel_rfl) (by kernel_rfl) (by kernel_rfl) (by kernel_rfl) (by kernel_rfl) (by kernel_rfl) ?st (Rel.drew _ _) ?walk
     case st=>exact qk (by simp only[List.forall_mem_cons];exact⟨kK _ _ _ _ _,kK _ _ _ _ _,fun p=>QM (je _ _ _ p),fun _ h=>by cases h⟩)
     case walk =>
      intro K hK
      dsimp only[qp]
      repeat ((first|(refine qe ?_ (by rfl) (by rfl) (fun W hW _=>⟨W,?_,Rel.refl _ W⟩) ?_;rotate_left;(first|(go_simp;with_reducible rfl)|(go_simp;done)))|(refine qh (by rfl) ?_));try simp only[Act.put,qj,qf,qc,qg,zj,Zs,qc,zA,zB,zC])
      refine qv (Up wn.heap.size bs.length bs.length 26 (madeCells #[.slice none 0 0] bs.length)) (by rfl) (by rfl) (fun W hW _=>?_) (fun (BB:Nat)=>?_)
      ·have hW:Ext wn W:=hW
       refine jf (u:=.slice (some ⟨W.heap.size,0,none⟩) bs.length bs.length) (w':=W.alloc (.cells (madeCells #[.slice none 0 0] bs.length) 26)) ?_ ⟨W.heap.size,rfl,⟨zI _ _ _ rfl,hW.size⟩,zN _ _⟩
       go_simp
      simp only[Act.put,qj,qf,qc,qg,zj,Zs,qc,zA,zB,zC]
      repeat ((first|(refine qe ?_ (by rfl) (by rfl) (fun W hW _=>⟨W,?_,Rel.refl _ W⟩) ?_;rotate_left;(first|(go_simp;with_reducible rfl)|(go_simp;done)))|(refine qh (by rfl) ?_));try simp only[Act.put,qj,qf,qc,qg,zj,Zs,qc,zA,zB,zC])
      refine qv (Up wn.heap.size ws.length (ws.length+1) 130 (madeCells #[.int .i64 0,.slice none 0 0] ((ws.length+1)*2))) (by rfl) (by rfl) (fun W hW _=>?_) (fun (WW:Nat)=>?_)
      ·have hW:Ext wn W:=hW
       refine jf (u:=.slice (some ⟨W.heap.size,0,none⟩) ws.length (ws.length+1)) (w':=W.alloc (.cells (madeCells #[.int .i64 0,.slice none 0 0] ((ws.length+1)*2)) 130)) ?_ ⟨W.heap.size,rfl,⟨zI _ _ _ rfl,hW.size⟩,zN _ _⟩
       go_simp
       rw[hi1.out,hmkW]
       rfl
      simp only[Act.put,qj,qf,qc,qg,zj,Zs,qc,zA,zB,zC]
      repeat ((first|(refine qe ?_ (by rfl) (by rfl) (fun W hW _=>⟨W,?_,Rel.refl _ W⟩) ?_;rotate_left;(first|(go_simp;with_reducible rfl)|(go_simp;done)))|(refine qh (by rfl) ?_));try simp only[Act.put,qj,qf,qc,qg,zj,Zs,qc,zA,zB,zC])
      refine qv (jZ wn.heap.size 25 #[.slice none 0 0,.slice none 0 0]) (by rfl) (by rfl) (fun W hW _=>?_) (fun (ob:Nat)=>?_)
      ·have hW:Ext wn W:=hW
       refine Jg ?_ hW.size
       go_simp
      simp only[Act.put,qj,qf,qc,qg,zj,Zs,qc,zA,zB,zC]
      repeat ((first|(refine qe ?_ (by rfl) (by rfl) (fun W hW _=>⟨W,?_,Rel.refl _ W⟩) ?_;rotate_left;(first|(go_simp;with_reducible rfl)|(go_simp;done)))|(refine qh (by rfl) ?_));try simp only[Act.put,qj,qf,qc,qg,zj,Zs,qc,zA,zB,zC])
      refine qt (hK _ _ fun W hW hF=>?_)
      have hBB:W.heap[BB]?=some (.cells (madeCells #[.slice none 0 0] bs.length) 26 (0,0))∧wn.heap.size≤BB:=(hF 3).1
      have hWW:W.heap[WW]?=some (.cells (madeCells #[.int .i64 0,.slice none 0 0] ((ws.length+1)*2)) 130 (0,0))∧wn.heap.size≤WW:=(hF 11).1
      have hob:W.heap[ob]?=some (.cells #[.slice none 0 0,.slice none 0 0] 25 (0,0))∧wn.heap.size≤ob:=(hF 13).1
      have hW:Ext wn W:=hW
      have ko:=qa hob.1
      have fo:=qd hob.1
      clear hF hK g1 hmkB hmkW hwm1 k3
      dsimp only[List.drop,List.length_cons,List.length_nil]
      go_wp2
      refine Qo ?_
      have rob:=qi (qi hob.1 0 (.slice (some ⟨BB,0,none⟩) bs.length bs.length)) 1 (.slice (some ⟨WW,0,none⟩) ws.length (ws.length+1))
      have st:∀ b,b≠ob→((W.setCell ⟨ob,0,none⟩ (.slice (some ⟨BB,0,none⟩) bs.length bs.length)).setCell ⟨ob,1,none⟩ (.slice (some ⟨WW,0,none⟩) ws.length (ws.length+1))).heap[b]?=W.heap[b]?:=fun b hb=>(zJ _ _ _ _ hb).trans (zJ _ _ _ _ hb)
      have n1:BB≠ob:=qI hBB.1 hob.1 (by decide)
      have n2:WW≠ob:=qI hWW.1 hob.1 (by decide)
      have hob2:=hob.2
      have B5:Below s0 wn ((W.setCell ⟨ob,0,none⟩ (.slice (some ⟨BB,0,none⟩) bs.length bs.length)).setCell ⟨ob,1,none⟩ (.slice (some ⟨WW,0,none⟩) ws.length (ws.length+1))):=Below.setCell (Below.setCell (Below.mono hW (by omega)) (p:=⟨ob,0,none⟩) (by show s0≤ob;omega) _) (p:=⟨ob,1,none⟩) (by show s0≤ob;omega) _
      have T0:TwS bs ws T s0 wn (s0+1) s0 BB WW ob 0 0 0 ((W.setCell ⟨ob,0,none⟩ (.slice (some ⟨BB,0,none⟩) bs.length bs.length)).setCell ⟨ob,1,none⟩ (.slice (some ⟨WW,0,none⟩) ws.length (ws.length+1))):=
       ⟨B5,⟨by omega,by omega,by omega,by omega,by omega⟩,rob,⟨0,T,_,⟨(st _ (by omega)).trans (qb b3 hW),(st _ (by omega)).trans (qb g3 hW),by omega,by rw[size_madeCells];omega,by omega⟩,zM _,fun _=>rfl,by omega,size_madeCells _ _⟩,
        ⟨_,(st _ n1).trans hBB.1,size_madeCells _ _,fun _ _ _ h=>by omega⟩,⟨_,(st _ n2).trans hWW.1,size_madeCells _ _,fun _ _ _ h=>by omega⟩⟩
      generalize World.setCell (World.setCell W _ _) _ _=w6 at *
      clear n1 n2 hob2 rob st hob hWW hBB hW g3 b3 ko fo
      have r6:=(B5.block w.heap.size (by omega)).trans r3
      have q6:=(B5.block (w.heap.size+1) (by omega)).trans q3
      have xw6:Below w.heap.size w w6:=Below.trans xw3 (Below.mono B5 (by omega))
      have k6:=qa r6
      have I0:TwI bs ws T s0 wn (s0+1) s0 BB WW ob (.int .i64 0) w6:=⟨0,Nat.zero_le _,rfl,T0⟩
      replace I0:=zH I0
      have r3':=zH r3
      have q3':=zH q3
      clear B5 T0 r3 q3 x3 r6
      go_wp2_with fail
      go_loopw [57] (fun i wr=>TwI bs ws T s0 wn (s0+1) s0 BB WW ob i wr) (fun i _=>bs.length-(intOf i).toNat)
      case atStart=>exact I0.out
      case round =>
       obtain⟨k,hk,rfl,hTS⟩:=hrel.ex
       clear hrel I0 k6
       have xwr:Below w.heap.size w wr:=Below.trans xw3 (Below.mono hTS.below (by omega))
       have rr:=(hTS.below.block w.heap.size (by omega)).trans r3'.out
       have kr:=qa rr
       by_cases hlt:k<bs.length
       ·have hlt':=hlt
        obtain⟨b1,o1,rfl,hb1⟩:=hA1 (by omega)
        obtain⟨A',c',hc,hby⟩:=(HB.out.below xwr).get k hlt
        have hsn:=Yx hlt
        have hle:=vD bs (k+1)
        have hgk:=zL hlt
        generalize bs[k]=l at *
        obtain⟨o,n,cur,hH,q1,q2,q3,q4⟩:=hTS.heap
        have hln:l.length≤n:=by have:=hT.out;have:=htb.out;omega
        have hby':Bys wr wr.heap.size (.slice A' l.length c') l:=hby.more xwr.size
        have hout:=hTS.out
        have zob:=(zG.1 hout).1
        obtain⟨cb,rb,sb,_⟩:=hTS.bb
        have n1:ob≠s0+1:=qI hout hH.box (by decide)
        have n2:ob≠s0:=qI hout hH.row (by decide)
        have n3:BB≠s0+1:=qI rb hH.box (by decide)
        have n4:BB≠s0:=qI rb hH.row (by decide)
        have hle2:∀ a b,ql.r a b→(Xg (s0+1) s0).r a b:=qgP
        obtain⟨RR,hRR⟩:∃ RR:Rel,RR=Xg (s0+1) s0:=⟨_,rfl⟩
        rw[←hRR] at hle2
        have hle:=hle2
        have g1:∀ W,RR.r wr W→∀ i,W.cell? ⟨ob,i,none⟩=#[.slice (some ⟨BB,0,none⟩) bs.length bs.length,.slice (some ⟨WW,0,none⟩) ws.length (ws.length+1)][i]?:=fun W h=>qa (Vo (hRR ▸ h) n1 n2 hout)
        replace hRR:=zH hRR
        replace hTS:=zH hTS
        replace hsn:=zH hsn
        replace hgk:=zH hgk
        replace hH:=zH hH
        replace rb:=zH rb
        clear q1 q2 q3 q4 hle2 hA2
        go_wp2_with fail
        refine qm (by kernel_rfl) ?_
        refine qbt (w:=wr) ql RR 4 hle (qE [(4,UE (s0+1) s0 o n cur l)]) [true,true,true,true,true,true] 1 (by kernel_rfl) (by kernel_rfl) (by kernel_rfl) (by kernel_rfl) (by kernel_rfl) (by kernel_rfl) (by kernel_rfl) ?st one_at (Rel.drew _ _) ?walk
        case st=>exact qk (by simp only[List.forall_mem_cons];exact⟨Td _ _ _ _ _ _,fun _ h=>by cases h⟩)
        case walk =>
         intro K hK
         dsimp only[qp]
         repeat ((first|(refine jw hle ?_ (by rfl) (by rfl) (fun W hW _=>?_) ?_;rotate_left;(first|(go_simp;with_reducible rfl)|(go_simp;done)))|(refine JH (by rfl) ?_));try simp only[Act.put,qj,qf,qc,qg,zj,Zs,qc,zA,zB,zC])
         refine Gs (UE (s0+1) s0 o n cur l) (by rfl) (by rfl) (fun W hW _=>?_) (fun (p:Nat)=>?_)
         ·have hW:Ext wr W:=hW
          refine Qc ?_ ((GJ (s0+1) s0 o n cur A' c' l hln W ⟨qb hH.out.box hW,qb hH.out.row hW,hH.out.ne,hH.out.fit,hH.out.few⟩ (hby'.below hW |>.more hW.size)).mono fun e w' h=>?_)
          ·go_simp
          obtain⟨o',rfl,h1,h2,h3,e1,e2,e3,e4,e5⟩:=h
          refine⟨o',rfl,⟨h1,h2,h3⟩,?_⟩
          rw[hRR.out]
          exact⟨e2,e3,e4,Nat.le_of_eq e1.symm,fun b _ h1 h2=>e5 b h1 h2⟩
         simp only[Act.put,qj,qf,qc,qg,zj,Zs,qc,zA,zB,zC]
         repeat ((first|(refine jw hle ?_ (by rfl) (by rfl) (fun W hW _=>?_) ?_;rotate_left;(first|(go_simp;with_reducible rfl)|(go_simp;done)))|(refine JH (by rfl) ?_));try simp only[Act.put,qj,qf,qc,qg,zj,Zs,qc,zA,zB,zC])
         first
          |(refine jw hle (.pointer (some ⟨BB,0+k,none⟩)) (by rfl) (by rfl) (fun W hW _=>?_) ?_
            ·go_simp
             rw[IntWalk.i64_in (k:Int) (by omega),if_pos (by omega)]
             simp
            simp only[Act.put,qj,qf,qc,qg,zj,Zs,qc,zA,zB,zC])
          |skip
         repeat ((first|(refine jw hle ?_ (by rfl) (by rfl) (fun W hW _=>?_) ?_;rotate_left;(first|(go_simp;with_reducible rfl)|(go_simp;done)))|(refine JH (by rfl) ?_));try simp only[Act.put,qj,qf,qc,qg,zj,Zs,qc,zA,zB,zC])
         refine qbs (hK _ _ fun W hW hF=>?_)
         obtain⟨h1,h2,hH'⟩:(UE (s0+1) s0 o n cur l).φ p W:=(hF 4).1
         clear hF hK g1
         rw[hRR.out] at hW
         dsimp only[List.drop,List.length_cons,List.length_nil]
         obtain⟨T1,hin⟩:=hTS.out.clone hH.out hln hW h1 h2 hH'
         have rB:=Vo hW n3 n4 rb.out
         have kB:=qa rB k
         have fB:=qd rB k
         rw[Array.getElem?_eq_getElem (by omega)] at kB
         generalize cb[k]=u0 at *
         have T2:=T1.setB hgk.out hin
         rw[←hsn.out] at T2
         have IR:TwI bs ws T s0 wn (s0+1) s0 BB WW ob (.int .i64 ((k:Int)+1)) (W.setCell ⟨BB,k,none⟩ (.slice (some ⟨s0,o,none⟩) l.length l.length)):=⟨k+1,by omega,rfl,T2⟩
         replace IR:=zH IR
         have hwk:=zH (IntWalk.wrap64_in ((k:Int)+1) (by omega))
         clear T1 T2 hin hW h1 h2 hH' rB rb hTS hH hsn hgk
         go_wp2
         refine Qo ?_
         go_wp2_with fail
         try rw[hwk.out]
         refine⟨IR.out,?_⟩
         simp[intOf]
         omega
       ·obtain rfl:k=bs.length:=by omega
        rw[List.take_length] at hTS
        have J0:TwJ bs ws T s0 wn (s0+1) s0 BB WW ob (.int .i64 0) wr:=⟨0,Nat.zero_le _,rfl,hTS⟩
        replace J0:=zH J0
        generalize hwk:wr=wk at *
        clear hwk hTS xwr
        go_wp2_with fail
        go_loopw [72] (fun i wr=>TwJ bs ws T s0 wn (s0+1) s0 BB WW ob i wr) (fun i _=>ws.length-(intOf i).toNat)
        case atStart=>exact J0.out
        case round =>
         obtain⟨k,hk,rfl,hTS⟩:=hrel.ex
         clear hrel J0 kr rr
         have xwr:Below w.heap.size w wr:=Below.trans xw3 (Below.mono hTS.below (by omega))
         have rr:=(hTS.below.block w.heap.size (by omega)).trans r3'.out
         have kr:=qa rr
         by_cases hlt:k<ws.length
         ·have hlt':=hlt
          obtain⟨b2,o2,rfl,hb2⟩:=hA2 (by omega)
          obtain⟨A',c',ha,hc,hby⟩:=(HW.out.below xwr).get k hlt
          have hsn:Jl ((ws.take (k+1)).map (·.2))=Jl ((ws.take k).map (·.2))+ws[k].2.length:=by
           rw[List.map_take,List.map_take,Yx (by rw[List.length_map];exact hlt),List.getElem_map]
          have hle:Jl ((ws.take (k+1)).map (·.2))≤tw:=by rw[htw.out,List.map_take];exact vD _ _
          have hgk:=zL hlt
          generalize ws[k]=pl at *
          obtain⟨pn,l⟩:=pl
          simp only at ha hc hby hsn
          go_upto_region 22 with fail
          generalize hwp:World.alloc wr _=wp
          have xp:Ext wr wp:=by rw[←hwp];exact zN _ _
          have tp:wp.heap[wr.heap.size]?=some (.cells #[.int .i64 pn,.slice A' l.length c'] 130 (0,0)):=by rw[←hwp];exact zI _ _ _ rfl
          clear hwp
          have hls:s0≤wr.heap.size:=Nat.le_trans (Nat.le_trans (by omega) hTS.below.size) (zM _)
          have hTP:=hTS.ext xp hls
          obtain⟨o,n,cur,hH,q1,q2,q3,q4⟩:=hTP.heap
          have hln:l.length≤n:=by have:=hT.out;have:=htb.out;omega
          have hby':Bys wp wp.heap.size (.slice A' l.length c') l:=(hby.below (Below.mono xp xwr.size)).more (by have:=xp.size;have:=xwr.size;omega)
          have hout:=hTP.out
          obtain⟨cw,rw_,sw,_⟩:=hTP.ww
          have zhb:=(zG.1 ((hTS.heap).choose_spec.choose_spec.choose_spec.1.box)).1
          have zg:=(zG.1 ((hTS.heap).choose_spec.choose_spec.choose_spec.1.row)).1
          have zw:=(zG.1 (hTS.ww.choose_spec.1)).1
          have n1:ob≠s0+1:=qI hout hH.box (by decide)
          have n2:ob≠s0:=qI hout hH.row (by decide)
          have n3:WW≠s0+1:=qI rw_ hH.box (by decide)
          have n4:WW≠s0:=qI rw_ hH.row (by decide)
          have hle2:∀ a b,ql.r a b→(Xg (s0+1) s0).r a b:=qgP
          obtain⟨RR,hRR⟩:∃ RR:Rel,RR=Xg (s0+1) s0:=⟨_,rfl⟩
          rw[←hRR] at hle2
          have hle:=hle2
          generalize wr.heap.size=tt at tp hls zhb zg zw ⊢
          have g1:∀ W,RR.r wp W→∀ i,W.cell? ⟨ob,i,none⟩=#[.slice (some ⟨BB,0,none⟩) bs.length bs.length,.slice (some ⟨WW,0,none⟩) ws.length (ws.length+1)][i]?:=fun W h=>qa (Vo (hRR ▸ h) n1 n2 hout)
          have g2:∀ W,RR.r wp W→∀ i,W.cell? ⟨tt,i,none⟩=#[.int .i64 pn,.slice A' l.length c'][i]?:=fun W h=>qa (Vo (hRR ▸ h) (by omega) (by omega) tp)
          replace hRR:=zH hRR
          replace hTP:=zH hTP
          replace hsn:=zH hsn
          replace hgk:=zH hgk
          replace hH:=zH hH
          replace rw_:=zH rw_
          clear q1 q2 q3 q4 hle2 hTS hby ha hc hA1 tp xp rr kr
          refine qm (by kernel_rfl) ?_
          refine qbt (w:=wp) ql RR 7 hle (qE [(7,UE (s0+1) s0 o n cur l)]) [true,true,true,true,true,true,true,true,true,true] 1 (by kernel_rfl) (by kernel_rfl) (by kernel_rfl) (by kernel_rfl) (by kernel_rfl) (by kernel_rfl) (by kernel_rfl) ?st one_at (Rel.drew _ _) ?walk
          case st=>exact qk (by simp only[List.forall_mem_cons];exact⟨Td _ _ _ _ _ _,fun _ h=>by cases h⟩)
          case walk =>
           intro K hK
           dsimp only[qp]
           repeat ((first|(refine jw hle ?_ (by rfl) (by rfl) (fun W hW _=>?_) ?_;rotate_left;(first|(go_simp;with_reducible rfl)|(go_simp;done)))|(refine JH (by rfl) ?_));try simp only[Act.put,qj,qf,qc,qg,zj,Zs,qc,zA,zB,zC])
           refine Gs (UE (s0+1) s0 o n cur l) (by rfl) (by rfl) (fun W hW _=>?_) (fun (p:Nat)=>?_)
           ·have hW:Ext wp W:=hW
            refine Qc ?_ ((GJ (s0+1) s0 o n cur A' c' l hln W ⟨qb hH.out.box hW,qb hH.out.row hW,hH.out.ne,hH.out.fit,hH.out.few⟩ (hby'.below hW |>.more hW.size)).mono fun e w' h=>?_)
            ·go_simp
            obtain⟨o',rfl,h1,h2,h3,e1,e2,e3,e4,e5⟩:=h
            refine⟨o',rfl,⟨h1,h2,h3⟩,?_⟩
            rw[hRR.out]
            exact⟨e2,e3,e4,Nat.le_of_eq e1.symm,fun b _ h1 h2=>e5 b h1 h2⟩
           simp only[Act.put,qj,qf,qc,qg,zj,Zs,qc,zA,zB,zC]
           repeat ((first|(refine jw hle ?_ (by rfl) (by rfl) (fun W hW _=>?_) ?_;rotate_left;(first|(go_simp;with_reducible rfl)|(go_simp;done)))|(refine JH (by rfl) ?_));try simp only[Act.put,qj,qf,qc,qg,zj,Zs,qc,zA,zB,zC])
           first
            |(refine jw hle (.pointer (some ⟨WW,0+k*2,none⟩)) (by rfl) (by rfl) (fun W hW _=>?_) ?_
              ·go_simp
               rw[IntWalk.i64_in (k:Int) (by omega),if_pos (by omega)]
               simp
              simp only[Act.put,qj,qf,qc,qg,zj,Zs,qc,zA,zB,zC])
            |skip
           repeat ((first|(refine jw hle ?_ (by rfl) (by rfl) (fun W hW _=>?_) ?_;rotate_left;(first|(go_simp;with_reducible rfl)|(go_simp;done)))|(refine JH (by rfl) ?_));try simp only[Act.put,qj,qf,qc,qg,zj,Zs,qc,zA,zB,zC])
           refine qbs (hK _ _ fun W hW hF=>?_)
           obtain⟨h1,h2,hH'⟩:(UE (s0+1) s0 o n cur l).φ p W:=(hF 7).1
           clear hF hK g1 g2
           rw[hRR.out] at hW
           dsimp only[List.drop,List.length_cons,List.length_nil]
           obtain⟨T1,hin⟩:=hTP.out.clone hH.out hln hW h1 h2 hH'
           have rB:=Vo hW n3 n4 rw_.out
           have kB:=qa rB (k*2)
           have kC:=qa rB (k*2+1)
           have fB:=qd rB
           rw[Array.getElem?_eq_getElem (by omega)] at kB kC
           generalize cw[k*2]=u0 at *
           generalize cw[k*2+1]=u1 at *
           have T2:=T1.setW hgk.out hin
           rw[Nat.add_assoc,←hsn.out] at T2
           have IR:TwJ bs ws T s0 wn (s0+1) s0 BB WW ob (.int .i64 ((k:Int)+1)) ((W.setCell ⟨WW,k*2,none⟩ (.int .i64 pn)).setCell ⟨WW,k*2+1,none⟩ (.slice (some ⟨s0,o,none⟩) l.length l.length)):=⟨k+1,by omega,rfl,T2⟩
           replace IR:=zH IR
           have hwk:=zH (IntWalk.wrap64_in ((k:Int)+1) (by omega))
           clear T1 T2 hin hW h1 h2 hH' rB rw_ hTP hH hsn hgk
           go_wp2
           refine Qo ?_
           go_wp2_with fail
           try rw[hwk.out]
           refine⟨IR.out,?_⟩
           simp[intOf]
           omega
         ·obtain rfl:k=ws.length:=by omega
          have DT:=hTS.done
          have qq:=(hTS.below.block (w.heap.size+1) (by omega)).trans q3'.out
          have kq:=qa qq
          have fq:=qd qq
          have ko:=qa hTS.out
          have zq:=(zG.1 qq).1
          have rf:=qi (qi qq 0 (.slice (some ⟨BB,0,none⟩) bs.length bs.length)) 1 (.slice (some ⟨WW,0,none⟩) ws.length (ws.length+1))
          have kf:=qa rf
          have bf:Below w.heap.size w ((wr.setCell ⟨w.heap.size+1,0,none⟩ (.slice (some ⟨BB,0,none⟩) bs.length bs.length)).setCell ⟨w.heap.size+1,1,none⟩ (.slice (some ⟨WW,0,none⟩) ws.length (ws.length+1))):=Below.setCell (Below.setCell xwr (p:=⟨w.heap.size+1,0,none⟩) (Nat.le_succ _) _) (p:=⟨w.heap.size+1,1,none⟩) (Nat.le_succ _) _
          have DF:Jh w.heap.size bs ws BB WW s0 ((wr.setCell ⟨w.heap.size+1,0,none⟩ (.slice (some ⟨BB,0,none⟩) bs.length bs.length)).setCell ⟨w.heap.size+1,1,none⟩ (.slice (some ⟨WW,0,none⟩) ws.length (ws.length+1))):=
           DT.keep (by omega) (by simp) (fun b h1 _=>(zJ _ _ _ _ (by show b≠w.heap.size+1;omega)).trans (zJ _ _ _ _ (by show b≠w.heap.size+1;omega)))
          replace kf:=zH kf
          replace bf:=zH bf
          replace DF:=zH DF
          clear rf DT hTS
          go_wp2
          have kf:=kf.out
          exact bodyPost_ret (v:=YS (some ⟨BB,0,none⟩) bs.length bs.length (some ⟨WW,0,none⟩) ws.length (ws.length+1)) (by simp[results,Tryz.results171,go_sem,kf]) rfl ⟨BB,WW,s0,rfl,DF.out,bf.out⟩
def vW (w:World) (b:Nat):Nat→List Value→World
 |_,[]=>w
 |k,v :: r=>vW (w.setCell ⟨b,k,none⟩ v) b (k+1) r
def KK (cs:Array Value):Nat→List Value→Array Value
 |_,[]=>cs
 |k,v :: r=>KK (cs.setIfInBounds k v) (k+1) r
theorem ZV {b g:Nat} (h:g≠b):∀ (vs:List Value) (w:World) (k:Nat),(vW w b k vs).heap[g]?=w.heap[g]?
 | [],_,_=>rfl
 |_ :: r,w,k=>(ZV h r _ _).trans (zJ _ _ _ _ h)
theorem jz {b:Nat}:∀ (vs:List Value) (w:World) (k:Nat),(vW w b k vs).heap.size=w.heap.size
 | [],_,_=>rfl
 |_ :: r,w,k=>(jz r _ _).trans (by simp)
theorem ZU {B b:Nat} {w0:World} (hB:B≤b):∀ (vs:List Value) (w:World) (k:Nat),Below B w0 w→Below B w0 (vW w b k vs)
 | [],_,_,h=>h
 |v :: r,w,k,h=>ZU hB r _ _ (Below.setCell h (p:=⟨b,k,none⟩) hB v)
theorem Jb {b:Nat} {t:TypeId}:∀ (vs:List Value) (w:World) (k:Nat) (cs:Array Value),w.heap[b]?=some (.cells cs t (0,0))→(vW w b k vs).heap[b]?=some (.cells (KK cs k vs) t (0,0))
 | [],_,_,_,h=>h
 |v :: r,w,k,cs,h=>Jb r _ _ _ (qi h k v)
end Go.Proofs.YtpbniokljofedaaGreat
