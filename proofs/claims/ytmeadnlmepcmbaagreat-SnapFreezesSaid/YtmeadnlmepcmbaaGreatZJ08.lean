/- Lemmas of the proof. -/
import Derived.Deep.Slices
import Derived.Laws.MakeOwn
import Derived.Test.YtmeadnlmepcmbaaGreatZJ07
set_option linter.all false
set_option maxHeartbeats 8000000
open Go.Proofs.Tryz
namespace Go.Proofs.YtmeadnlmepcmbaaGreat
open Go.RowKit
def thawO:Obj->Obj
 | .cells c t f=>if f=(0,0) then .cells c t f else .coro none
 |o=>o
def thaw (W:World):World:={ W with heap:=W.heap.map thawO }
theorem KU (W:World):(thaw W).heap.size=W.heap.size:=by simp[thaw]
theorem VO (W:World) (k:Nat):(thaw W).heap[k]?=(W.heap[k]?).map thawO:=by simp[thaw]
theorem thaw_row {W:World} {b:Nat} {cs:Array Value} {t:TypeId} (h:W.heap[b]?=some (.cells cs t (0,0))):(thaw W).heap[b]?=some (.cells cs t (0,0)):=by rw[VO,h];rfl
theorem ZX {w w':World} {q:Addr} (h:w'.heap[q.block]?=w.heap[q.block]?):(thaw w').cell? q=(thaw w).cell? q:=
 World.cell?_of_block (by rw[VO,VO,h])
theorem GT {W:World} {q:Addr} {v:Value} (h:(thaw W).cell? q=some v):W.cell? q=some v/\W.frozen? q=false:=by
 unfold World.cell? at h;rw[VO] at h;unfold World.cell? World.frozen?;cases hb:W.heap[q.block]? with
 |none=>rw[hb] at h;cases h
 |some o =>
  rw[hb] at h;cases o with
  |cells c e f =>
   simp only[Option.map_some,thawO] at h;by_cases hf:f=(0,0)
   ·subst hf;rw[if_pos rfl] at h;exact⟨h,zA2⟩
   ·rw[if_neg hf] at h;cases h
  |_=>simp only[Option.map_some,thawO] at h;cases h
theorem KS {W:World} {b:Nat} {cs:Array Value} {t:TypeId} (h:W.heap[b]?=some (.cells cs t (0,0))) (j:Nat):(thaw W).cell? ⟨b,j,none⟩=W.cell? ⟨b,j,none⟩:=by rw[qa h,qa (thaw_row h)]
def Thaw (W:World) (v:Value):Prop:=∀ a n c,v=.slice (some a) n c->0<n->∃ cs t,W.heap[a.block]?=some (.cells cs t (0,0))
theorem Thaw.of_own {w:World} {base n size:Nat} {e:TypeId} {v:Value} {xs:List Value} (h:w.ownsRow base e size v n xs):Thaw w v:=by
 intro a n' c ev hn;rcases h.2 with ⟨rfl,rfl⟩|⟨g,cap,cur,rfl,_,hg,_⟩
 ·cases ev
 ·cases ev;exact⟨_,_,hg⟩
def NewB (lo:Nat) (v:Value) (l:List UInt8) (W:World):Prop:=Bys W W.heap.size v l/\Zu lo v/\Thaw W v
theorem NewB.of_own {w:World} {base n:Nat} {e:TypeId} {v:Value} {l:List UInt8} (h:w.ownsRow base e 1 v n (l.map bv)):NewB base v l w:=⟨Bys.of_own h,Zu.of_own h,Thaw.of_own h⟩
theorem NewB.thaw {lo:Nat} {v:Value} {l:List UInt8} {W:World} (h:NewB lo v l W):Bys (thaw W) W.heap.size v l:=by obtain⟨⟨A,c,e,hc,hm,hr⟩,_,ht⟩:=h;refine⟨A,c,e,hc,hm,hr.1,fun hn=>?_⟩;obtain⟨b,off,e2,hb,dA⟩:=hr.2 hn;obtain⟨cs,t,aF⟩:=ht ⟨b,off,none⟩ l.length c (by rw[e,e2]) hn;exact⟨b,off,e2,hb,fun j u hu=>(KS aF _).trans (dA j u hu)⟩
theorem NewB.from {lo:Nat} {v:Value} {l:List UInt8} {W:World} (h:NewB lo v l W):Zu lo v:=h.2.1
section
variable {base:Nat} {e:TypeId} {size lo:Nat} {v:Value} {n:Nat} {xs:List Value} {f:Value->List Value} {l:List UInt8}
end
section
variable {α:Type} {base lo:Nat} {e:TypeId} {size:Nat} {g:α->Value->List Value} {by_:α->List UInt8}
end
theorem Tryz.info_bytes:(Tryz.prog.info? 26).map (fun i=>(i.zero,i.size,i.bytes))=some (some (.slice none 0 0),1,24):=zQ
theorem Tryz.info_write:(Tryz.prog.info? 142).map (fun i=>(i.zero,i.size,i.bytes))=some (some (.agg #[.int .i64 0,.slice none 0 0]),2,32):=zQ
abbrev gB (_:List UInt8) (u:Value):List Value:=[u]
abbrev gW (p:Int×List UInt8) (u:Value):List Value:=[.int .i64 p.1,u]
theorem Rd.keepN {w W:World} {B size lo n c:Nat} {A:OA} {xs:List Value} (h:Rd w B size A n xs) (hf:Zu lo (.slice A n c)) (hk:∀ q:Addr,lo<=q.block->q.block<B->W.cell? q=w.cell? q):Rd W B size A n xs:=
 ⟨h.1,fun hn=>by obtain⟨b,off,e,hb,hc⟩:=h.2 hn;subst e;exact⟨b,off,rfl,hb,fun j u hu=>(hk ⟨b,off+j,none⟩ (hf ⟨b,off,none⟩ n c rfl) hb).trans (hc j u hu)⟩⟩
theorem Bys.keepN {w W:World} {B lo:Nat} {v:Value} {l:List UInt8} (h:Bys w B v l) (hf:Zu lo v) (hk:∀ q:Addr,lo<=q.block->q.block<B->W.cell? q=w.cell? q):Bys W B v l:=by obtain⟨A,c,e,hc,hm,hr⟩:=h;subst e;exact⟨A,c,rfl,hc,hm,hr.keepN hf hk⟩
structure GZ (S:Sto):Prop where
 bs:S.bs.length<1000000
 ws:S.ws.length<1000000
 be:∀ l∈S.bs,l.length<1000000
 we:∀ p∈S.ws,p.2.length<1000000
 now:S.now.length<1000000
 last:S.last.length<1000000
end Go.Proofs.YtmeadnlmepcmbaaGreat
namespace Go.Proofs.YtmeadnlmepcmbaaGreat
open Go.RowKit Go.Deep
def InG (w:World) (g F:Nat) (v:Value) (l:List UInt8):Prop:=∃ o,v=.slice (some ⟨g,o,none⟩) l.length l.length/\o+l.length<=F/\∀ j u,(l.map bv)[j]?=some u->w.cell? ⟨g,o+j,none⟩=some u
section
variable {w w':World} {g F:Nat} {v:Value} {l:List UInt8}
theorem InG.keep (h:InG w g F v l) (hk:w'.heap[g]?=w.heap[g]?):InG w' g F v l:=by obtain⟨o,e,h1,h2⟩:=h;exact⟨o,e,h1,fun j u hu=>(World.cell?_of_block hk).trans (h2 j u hu)⟩
theorem InG.step {cur:Array Value} {t:TypeId} {l':List UInt8} {o:Nat} (h:InG w g F v l) (hr:w.heap[g]?=some (.cells cur t (0,0))) (mZ:w'.heap[g]?=some (.cells (jg cur o l') t (0,0))) (iC:o+l'.length<=cur.size) (ho:o=F\/l'.length=0):InG w' g (F+l'.length) v l:=by
 obtain⟨o1,e,h1,h2⟩:=h;refine⟨o1,e,zO,fun j u hu=>?_⟩;have hj:j<l.length:=by have:=(List.getElem?_eq_some_iff.1 hu).1;simpa using this
 have:=h2 j u hu;rw[qa hr] at this;rw[qa mZ,qig iC (by rcases ho with ho|ho <;> omega)];exact this
theorem InG.new {cur:Array Value} {t:TypeId} {o:Nat} (hr:w'.heap[g]?=some (.cells (jg cur o l) t (0,0))) (iC:o+l.length<=cur.size) (ho:o<=F):InG w' g (F+l.length) (.slice (some ⟨g,o,none⟩) l.length l.length) l:=
 ⟨o,rfl,zO,fun j u hu=>by rw[qa hr];exact qif iC hu⟩
theorem InG.bys {B:Nat} (h:InG w g F v l) (hg:g<B) (hl:l.length<=maxLen):Bys w B v l:=by obtain⟨o,e,h1,h2⟩:=h;exact⟨_,_,e,zM _,hl,zA2,fun _=>⟨g,o,rfl,hg,h2⟩⟩
theorem InG.cells {W2:World} (h:InG w g F v l) (hk:∀ j,W2.cell? ⟨g,j,none⟩=w.cell? ⟨g,j,none⟩):InG W2 g F v l:=by obtain⟨o,e,h1,h2⟩:=h;exact⟨o,e,h1,fun j u hu=>(hk _).trans (h2 j u hu)⟩
end
def vx (ls:List (List UInt8)):Nat:=(ls.map List.length).sum
theorem XW {ls:List (List UInt8)} {k:Nat} (h:k<ls.length):vx (ls.take (k+1))=vx (ls.take k)+ls[k].length:=by unfold vx;rw[List.take_succ_eq_append_getElem h,List.map_append,List.sum_append];simp
theorem qiN (ls:List (List UInt8)) (k:Nat):vx (ls.take k)+vx (ls.drop k)=vx ls:=by unfold vx;rw[<-List.sum_append,<-List.map_append,List.take_append_drop]
theorem qjV {ls:List (List UInt8)} (h:∀ l∈ls,l.length<1000000):vx ls<=ls.length*1000000:=by
 induction ls with
 |nil=>simp[vx]
 |cons l r ih =>
  have h1:=ih fun x hx=>h x (List.mem_cons_of_mem _ hx);have h2:=h l List.mem_cons_self;simp only[vx,List.map_cons,List.sum_cons,List.length_cons] at h1 ⊢;omega
theorem VD (ls:List (List UInt8)) (k:Nat):vx (ls.take k)<=vx ls:=by have:=qiN ls k;omega
def TJ (hb g:Nat):Rel where
 rel W W':=W'.os=W.os/\W'.tape=W.tape/\W'.output=W.output/\W.heap.size<=W'.heap.size/\∀ b,b<W.heap.size->b≠hb->b≠g->W'.heap[b]?=W.heap[b]?
 refl' w:=⟨rfl,rfl,rfl,zM _,fun _ _ _ _=>rfl⟩
 trans' h k:=⟨k.1.trans h.1,k.2.1.trans h.2.1,k.2.2.1.trans h.2.2.1,Nat.le_trans h.2.2.2.1 k.2.2.2.1,fun b hb h1 h2=>(k.2.2.2.2 b (Nat.lt_of_lt_of_le hb h.2.2.2.1) h1 h2).trans (h.2.2.2.2 b hb h1 h2)⟩
 drew' w:=⟨rfl,rfl,rfl,zM _,fun _ _ _ _=>rfl⟩
theorem qjg {hb g:Nat}:∀ a b,qj.r a b->(TJ hb g).r a b:=fun a b h=>by have h:Ext a b:=h;exact⟨h.os,h.tape,h.output,h.size,fun k hk _ _=>h.block k hk⟩
theorem kX {hb g b:Nat} {a W:World} {o:Obj} (h:(TJ hb g).r a W) (h1:b≠hb) (h2:b≠g) (hc:a.heap[b]?=some o):W.heap[b]?=some o:=
 (h.2.2.2.2 b (zG.1 hc).1 h1 h2).trans hc
theorem qU {w:World} {a b:Nat} {c d:Array Value} {t u:TypeId} (h:w.heap[a]?=some (.cells c t (0,0))) (k:w.heap[b]?=some (.cells d u (0,0))) (hn:t≠u):a≠b:=fun e=>by subst e;rw[h] at k;cases k;exact hn rfl
structure TwS (bs:List (List UInt8)) (ws:List (Int×List UInt8)) (T lo:Nat) (w5:World) (hb g BB WW ob kb kw F:Nat) (wr:World):Prop where
 below:Below lo w5 wr
 los:lo<=hb/\lo<=g/\lo<=BB/\lo<=WW/\lo<=ob
 out:wr.heap[ob]?=some (.cells #[.slice (some ⟨BB,0,none⟩) bs.length bs.length,.slice (some ⟨WW,0,none⟩) ws.length (ws.length+1)] 25 (0,0))
 heap:∃ o n cur,qdc hb g o n cur wr/\o<=F/\(0<n->o=F)/\F+n=T/\cur.size=T
 bb:∃ cs,wr.heap[BB]?=some (.cells cs 26 (0,0))/\cs.size=bs.length/\∀ i l,bs[i]?=some l->i<kb->∃ v,cs[i]?=some v/\InG wr g F v l
 ww:∃ cs,wr.heap[WW]?=some (.cells cs 142 (0,0))/\cs.size=(ws.length+1)*2/\∀ i p,ws[i]?=some p->i<kw->∃ v,cs[i*2]?=some (.int .i64 p.1)/\cs[i*2+1]?=some v/\InG wr g F v p.2
section
variable {bs:List (List UInt8)} {ws:List (Int×List UInt8)} {T lo:Nat} {w5:World} {hb g BB WW ob kb kw F:Nat} {wr W:World}
theorem TwS.ext (h:TwS bs ws T lo w5 hb g BB WW ob kb kw F wr) (hx:Ext wr W) (hl:lo<=wr.heap.size):TwS bs ws T lo w5 hb g BB WW ob kb kw F W:=by
 obtain⟨o,n,cur,⟨H1,H2,H3,H4,H5⟩,h2⟩:=h.heap;obtain⟨cb,bQ,bU,dJ⟩:=h.bb;obtain⟨cw,aA,bP,aO⟩:=h.ww;have hg:W.heap[g]?=wr.heap[g]?:=hx.block g (zG.1 H2).1;exact⟨h.below.trans (Below.mono hx hl),h.los,qb h.out hx,⟨o,n,cur,⟨qb H1 hx,qb H2 hx,H3,H4,H5⟩,h2⟩,
  ⟨cb,qb bQ hx,bU,fun i l hi hk=>(dJ i l hi hk).imp fun v hv=>⟨hv.1,hv.2.keep hg⟩⟩,⟨cw,qb aA hx,bP,fun i p hi hk=>(aO i p hi hk).imp fun v hv=>⟨hv.1,hv.2.1,hv.2.2.keep hg⟩⟩⟩
theorem TwS.clone (h:TwS bs ws T lo w5 hb g BB WW ob kb kw F wr) {o n o':Nat} {cur:Array Value} {l:List UInt8} (hH:qdc hb g o n cur wr) (hl:l.length<=n) (hr:(TJ hb g).r wr W) (h1:0<n-l.length->o'=o+l.length) (h2:n-l.length=0->o'=o) (hH':qdc hb g o' (n-l.length) (jg cur o l) W):TwS bs ws T lo w5 hb g BB WW ob kb kw (F+l.length) W/\InG W g (F+l.length) (.slice (some ⟨g,o,none⟩) l.length l.length) l:=by
 obtain⟨o2,n2,cur2,H2,k1,k2,k3,k4⟩:=h.heap;have e1:=H2.box;rw[hH.box] at e1;simp only[Option.some.injEq,Obj.cells.injEq,Array.mk.injEq,List.cons.injEq,Value.slice.injEq,Addr.mk.injEq,and_true,true_and] at e1;obtain⟨rfl,rfl,_⟩:=e1;have e2:=H2.row;rw[hH.row] at e2;simp only[Option.some.injEq,Obj.cells.injEq,and_true] at e2;subst e2;have iC:o+l.length<=cur.size:=by have:=hH.fit;omega
 have ho:o=F\/l.length=0:=by
  rcases Nat.eq_zero_or_pos n with h0|h0
  ·exact .inr zO
  ·exact .inl (k2 h0)
 have hr0:=hH.row;have nK:=hH'.row;obtain⟨cb,bQ,bU,dJ⟩:=h.bb;obtain⟨cw,aA,bP,aO⟩:=h.ww;have n1:BB≠hb:=qU bQ hH.box zD;have n2:BB≠g:=qU bQ hr0 zD;have n3:WW≠hb:=qU aA hH.box zD;have n4:WW≠g:=qU aA hr0 zD;have n5:ob≠hb:=qU h.out hH.box zD;have n6:ob≠g:=qU h.out hr0 zD;obtain⟨l1,l2,l3,l4,l5⟩:=h.los;have hlt:=(zG.1 hr0).1;refine⟨⟨⟨hr.1.trans h.below.os,hr.2.1.trans h.below.tape,hr.2.2.1.trans h.below.output,Nat.le_trans h.below.size hr.2.2.2.1,fun b hb=>(hr.2.2.2.2 b zO zO zO).trans (h.below.block b hb)⟩,h.los,kX hr n5 n6 h.out,⟨o',n-l.length,_,hH',?_,?_,zO,?_⟩,
  ⟨cb,kX hr n1 n2 bQ,bU,fun i l' hi hk=>(dJ i l' hi hk).imp fun v hv=>⟨hv.1,hv.2.step hr0 nK iC ho⟩⟩,⟨cw,kX hr n3 n4 aA,bP,fun i p hi hk=>(aO i p hi hk).imp fun v hv=>⟨hv.1,hv.2.1,hv.2.2.step hr0 nK iC ho⟩⟩⟩,InG.new nK iC k1⟩
 ·rcases Nat.eq_zero_or_pos (n-l.length) with h0|h0
  ·rw[h2 h0];omega
  ·rw[h1 h0];omega
 ·intro h0;rw[h1 h0,k2 zO]
 ·rw[qap iC];exact k4
theorem TwS.setB (h:TwS bs ws T lo w5 hb g BB WW ob kb kw F wr) {v:Value} {l:List UInt8} (hk:bs[kb]?=some l) (hv:InG wr g F v l):TwS bs ws T lo w5 hb g BB WW ob (kb+1) kw F (wr.setCell ⟨BB,kb,none⟩ v):=by
 obtain⟨o,n,cur,⟨H1,H2,H3,H4,H5⟩,h2⟩:=h.heap;obtain⟨cb,bQ,bU,dJ⟩:=h.bb;obtain⟨cw,aA,bP,aO⟩:=h.ww;have n1:hb≠BB:=qU H1 bQ zD;have n2:g≠BB:=qU H2 bQ zD;have n3:WW≠BB:=qU aA bQ zD;have n5:ob≠BB:=qU h.out bQ zD;have hg:=zJ wr ⟨BB,kb,none⟩ v g n2;have hlt:=(List.getElem?_eq_some_iff.1 hk).1;refine⟨Below.setCell h.below (p:=⟨BB,kb,none⟩) h.los.2.2.1 _,h.los,(zJ _ _ _ _ n5).trans h.out,⟨o,n,cur,⟨(zJ _ _ _ _ n1).trans H1,(zJ _ _ _ _ n2).trans H2,H3,H4,H5⟩,h2⟩,
  ⟨_,qi bQ kb v,by simpa using bU,fun i l' hi eP=>?_⟩,⟨cw,(zJ _ _ _ _ n3).trans aA,bP,fun i p hi hk=>(aO i p hi hk).imp fun v hv=>⟨hv.1,hv.2.1,hv.2.2.keep hg⟩⟩⟩
 rw[Array.getElem?_setIfInBounds];by_cases e:kb=i
 ·subst e;rw[hk] at hi;cases hi;rw[if_pos rfl,if_pos zO];exact⟨v,rfl,hv.keep hg⟩
 ·rw[if_neg e];exact(dJ i l' hi zO).imp fun u hu=>⟨hu.1,hu.2.keep hg⟩
theorem TwS.setW (h:TwS bs ws T lo w5 hb g BB WW ob kb kw F wr) {v:Value} {p:Int×List UInt8} (hk:ws[kw]?=some p) (hv:InG wr g F v p.2):TwS bs ws T lo w5 hb g BB WW ob kb (kw+1) F ((wr.setCell ⟨WW,kw*2,none⟩ (.int .i64 p.1)).setCell ⟨WW,kw*2+1,none⟩ v):=by
 obtain⟨o,n,cur,⟨H1,H2,H3,H4,H5⟩,h2⟩:=h.heap;obtain⟨cb,bQ,bU,dJ⟩:=h.bb;obtain⟨cw,aA,bP,aO⟩:=h.ww;have n1:hb≠WW:=qU H1 aA zD;have n2:g≠WW:=qU H2 aA zD;have n3:BB≠WW:=qU bQ aA zD;have n5:ob≠WW:=qU h.out aA zD;have st:∀ b,b≠WW->((wr.setCell ⟨WW,kw*2,none⟩ (.int .i64 p.1)).setCell ⟨WW,kw*2+1,none⟩ v).heap[b]?=wr.heap[b]?:=fun b hb=>(zJ _ _ _ _ hb).trans (zJ _ _ _ _ hb);have hlt:=(List.getElem?_eq_some_iff.1 hk).1;refine⟨Below.setCell (Below.setCell h.below (p:=⟨WW,kw*2,none⟩) h.los.2.2.2.1 _) (p:=⟨WW,kw*2+1,none⟩) h.los.2.2.2.1 _,h.los,(st _ n5).trans h.out,⟨o,n,cur,⟨(st _ n1).trans H1,(st _ n2).trans H2,H3,H4,H5⟩,h2⟩,
  ⟨cb,(st _ n3).trans bQ,bU,fun i l' hi eP=>(dJ i l' hi eP).imp fun u hu=>⟨hu.1,hu.2.keep (st _ n2)⟩⟩,⟨_,qi (qi aA (kw*2) _) (kw*2+1) _,by simpa using bP,fun i q hi eP=>?_⟩⟩
 by_cases e:kw=i
 ·subst e;rw[hk] at hi;cases hi;refine⟨v,?_,?_,hv.keep (st _ n2)⟩
  ·rw[Array.getElem?_setIfInBounds,if_neg zO,Array.getElem?_setIfInBounds,if_pos rfl,if_pos zO]
  ·rw[Array.getElem?_setIfInBounds,if_pos rfl,if_pos zA1]
 ·refine(aO i q hi zO).imp fun u hu=>⟨?_,?_,hu.2.2.keep (st _ n2)⟩
  ·rw[Array.getElem?_setIfInBounds,if_neg zO,Array.getElem?_setIfInBounds,if_neg zO];exact hu.1
  ·rw[Array.getElem?_setIfInBounds,if_neg zO,Array.getElem?_setIfInBounds,if_neg zO];exact hu.2.1
end
structure JP (lo:Nat) (bs:List (List UInt8)) (ws:List (Int×List UInt8)) (BB WW g:Nat) (W:World):Prop where
 los:lo<=BB/\lo<=WW/\lo<=g/\g<W.heap.size/\BB≠WW/\BB≠g/\WW≠g
 bb:∃ cs,W.heap[BB]?=some (.cells cs 26 (0,0))/\cs.size=bs.length/\∀ (i:Nat) (l:List UInt8),bs[i]?=some l->∃ v F,cs[i]?=some v/\InG W g F v l
 ww:∃ cs,W.heap[WW]?=some (.cells cs 142 (0,0))/\cs.size=(ws.length+1)*2/\∀ (i:Nat) (p:Int×List UInt8),ws[i]?=some p->∃ v F,cs[i*2]?=some (.int .i64 p.1)/\cs[i*2+1]?=some v/\InG W g F v p.2
 gg:∃ cs,W.heap[g]?=some (.cells cs 5 (0,0))
theorem TwS.done {bs:List (List UInt8)} {ws:List (Int×List UInt8)} {T lo:Nat} {w5:World} {hb g BB WW ob F:Nat} {wr:World} (h:TwS bs ws T lo w5 hb g BB WW ob bs.length ws.length F wr):JP lo bs ws BB WW g wr:=by
 obtain⟨o,n,cur,⟨H1,H2,H3,H4,H5⟩,h2⟩:=h.heap;obtain⟨cb,bQ,bU,dJ⟩:=h.bb;obtain⟨cw,aA,bP,aO⟩:=h.ww;refine⟨⟨h.los.2.2.1,h.los.2.2.2.1,h.los.2.1,(zG.1 H2).1,qU bQ aA zD,qU bQ H2 zD,qU aA H2 zD⟩,⟨cb,bQ,bU,fun i l hi=>?_⟩,⟨cw,aA,bP,fun i p hi=>?_⟩,⟨_,H2⟩⟩
 ·obtain⟨v,h1,h2⟩:=dJ i l hi (List.getElem?_eq_some_iff.1 hi).1;exact⟨v,F,h1,h2⟩
 ·obtain⟨v,h1,h2⟩:=aO i p hi (List.getElem?_eq_some_iff.1 hi).1;exact⟨v,F,h1,h2⟩
theorem JP.keep {lo lo':Nat} {bs:List (List UInt8)} {ws:List (Int×List UInt8)} {BB WW g:Nat} {W W2:World} (h:JP lo bs ws BB WW g W) (hl:lo'<=lo) (hs:W.heap.size<=W2.heap.size) (hk:∀ b,lo<=b->b<W.heap.size->W2.heap[b]?=W.heap[b]?):JP lo' bs ws BB WW g W2:=by
 obtain⟨cb,bQ,bU,dJ⟩:=h.bb;obtain⟨cw,aA,bP,aO⟩:=h.ww;obtain⟨l1,l2,l3,l4,l5⟩:=h.los;have hg:=hk g l3 l4;exact⟨⟨zO,zO,zO,zO,l5⟩,⟨cb,(hk BB l1 (zG.1 bQ).1).trans bQ,bU,fun i l hi=>by
  obtain⟨v,F,h1,h2⟩:=dJ i l hi;exact⟨v,F,h1,h2.keep hg⟩⟩,⟨cw,(hk WW l2 (zG.1 aA).1).trans aA,bP,fun i p hi=>by
  obtain⟨v,F,h1,h2,h3⟩:=aO i p hi;exact⟨v,F,h1,h2,h3.keep hg⟩⟩,h.gg.imp fun cs h=>hg.trans h⟩
theorem JP.keepT {lo lo':Nat} {bs:List (List UInt8)} {ws:List (Int×List UInt8)} {BB WW g:Nat} {W W2:World} (h:JP lo bs ws BB WW g W) (hl:lo'<=lo) (hs:W.heap.size<=W2.heap.size) {b1:Nat} {c1:Array Value} {t1:TypeId} (h1:W.heap[b1]?=some (.cells c1 t1 (0,0))) (ht:t1≠26/\t1≠142/\t1≠5) (hk:∀ b,lo<=b->b<W.heap.size->b≠b1->W2.heap[b]?=W.heap[b]?):JP lo' bs ws BB WW g W2:=by
 obtain⟨cb,bQ,bU,dJ⟩:=h.bb;obtain⟨cw,aA,bP,aO⟩:=h.ww;obtain⟨cg,hg1⟩:=h.gg;obtain⟨l1,l2,l3,l4,l5⟩:=h.los;have hg:=hk g l3 l4 (qU hg1 h1 fun e=>ht.2.2 e.symm);exact⟨⟨zO,zO,zO,zO,l5⟩,⟨cb,(hk BB l1 (zG.1 bQ).1 (qU bQ h1 fun e=>ht.1 e.symm)).trans bQ,bU,fun i l hi=>by
  obtain⟨v,F,h1,h2⟩:=dJ i l hi;exact⟨v,F,h1,h2.keep hg⟩⟩,⟨cw,(hk WW l2 (zG.1 aA).1 (qU aA h1 fun e=>ht.2.1 e.symm)).trans aA,bP,fun i p hi=>by
  obtain⟨v,F,h1,h2,h3⟩:=aO i p hi;exact⟨v,F,h1,h2,h3.keep hg⟩⟩,cg,hg.trans hg1⟩
theorem JP.readsB {lo:Nat} {bs:List (List UInt8)} {ws:List (Int×List UInt8)} {BB WW g:Nat} {W:World} (h:JP lo bs ws BB WW g W) (h1:bs.length<1000000) (h2:ws.length<1000000) (h3:∀ l∈bs,l.length<1000000) (h4:∀ p∈ws,p.2.length<1000000) (W2:World) (hB:∀ j,W2.cell? ⟨BB,j,none⟩=W.cell? ⟨BB,j,none⟩) (hWW:∀ j,W2.cell? ⟨WW,j,none⟩=W.cell? ⟨WW,j,none⟩) (hg:∀ j,W2.cell? ⟨g,j,none⟩=W.cell? ⟨g,j,none⟩):Bls W2 W.heap.size (.slice (some ⟨BB,0,none⟩) bs.length bs.length) bs/\Wrs W2 W.heap.size (.slice (some ⟨WW,0,none⟩) ws.length (ws.length+1)) ws:=by
 obtain⟨cb,bQ,bU,dJ⟩:=h.bb;obtain⟨cw,aA,bP,aO⟩:=h.ww;obtain⟨l1,l2,l3,l4,l5⟩:=h.los;have z1:=(zG.1 bQ).1;have z2:=(zG.1 aA).1;have hm:∀ n,n<1000001->n<=maxLen:=fun n hn=>zA6;refine⟨⟨cb.toList,_,_,rfl,zM _,hm _ zO,⟨by simp[bU],fun _=>⟨BB,0,rfl,z1,fun j u hu=>?_⟩⟩,fun i u l hu hl=>?_⟩,?_⟩
 ·rw[Nat.zero_add,hB j,qa bQ];simpa using hu
 ·obtain⟨v,F,e1,e2⟩:=dJ i l hl;have:cb.toList[i]?=cb[i]?:=zA2;rw[this,e1] at hu;cases hu;exact(e2.cells hg).bys l4 (hm _ (by have:=h3 l (List.mem_of_getElem? hl);omega))
 ·have hq:∀ i,i<ws.length->∃ q:(Int×List UInt8)×Value,ws[i]?=some q.1/\(∃ A c,q.2=.slice A q.1.2.length c)/\Bys W2 W.heap.size q.2 q.1.2/\cw[i*2]?=some (.int .i64 q.1.1)/\cw[i*2+1]?=some q.2:=fun i hi=>by obtain⟨v,F,e1,e2,e3⟩:=aO i ws[i] (zL hi);have hb:=(e3.cells hg).bys l4 (hm _ (by have:=h4 ws[i] (List.getElem_mem hi);omega));obtain⟨o,ev,_⟩:=e3;exact⟨(ws[i],v),zL hi,⟨_,_,ev⟩,hb,e1,e2⟩
  obtain⟨Q,hQ⟩:=choose_lt (α:=(Int×List UInt8)×Value) (p:=fun i q=>ws[i]?=some q.1/\(∃ A c,q.2=.slice A q.1.2.length c)/\Bys W2 W.heap.size q.2 q.1.2/\cw[i*2]?=some (.int .i64 q.1.1)/\cw[i*2+1]?=some q.2) hq;refine⟨(List.range ws.length).map Q,?_,⟨some ⟨WW,0,none⟩,ws.length+1,rfl,zO,hm _ zO,⟨by rw[Yg];simp,fun _=>⟨WW,0,rfl,z2,fun j u hu=>?_⟩⟩⟩,fun q lJ=>?_⟩
  ·apply List.ext_getElem?;intro i;rw[List.map_map,List.getElem?_map];rcases Nat.lt_or_ge i ws.length with hi|hi
   ·rw[List.getElem?_range hi,(hQ i hi).1];rfl
   ·rw[List.getElem?_eq_none (by simpa using hi),List.getElem?_eq_none hi];rfl
  ·rw[Nat.zero_add,hWW j,qa aA];have hj:j<ws.length*2:=by have:=(List.getElem?_eq_some_iff.1 hu).1;rw[Yg] at this;simpa using this
   obtain⟨c0,c1⟩:=KB ((List.range ws.length).map Q) (j / 2) zA1;obtain⟨_,_,_,q0,q1⟩:=hQ (j / 2) zO;rcases(show j=j / 2*2\/j=j / 2*2+1 by omega) with e|e
   ·have hu':some u=some _:=(hu.symm.trans (congrArg (fun t=>(jd ((List.range ws.length).map Q))[t]?) e)).trans c0;cases hu';rw[show cw[j]?=cw[j / 2*2]? from congrArg (fun t=>cw[t]?) e,q0];simp
   ·have hu':some u=some _:=(hu.symm.trans (congrArg (fun t=>(jd ((List.range ws.length).map Q))[t]?) e)).trans c1;cases hu';rw[show cw[j]?=cw[j / 2*2+1]? from congrArg (fun t=>cw[t]?) e,q1];simp
  ·obtain⟨i,hi,rfl⟩:=List.mem_map.1 lJ;obtain⟨_,q1,q2,_⟩:=hQ i (List.mem_range.1 hi);exact⟨q1,q2⟩
theorem JP.reads {lo:Nat} {bs:List (List UInt8)} {ws:List (Int×List UInt8)} {BB WW g:Nat} {W:World} (h:JP lo bs ws BB WW g W) (h1:bs.length<1000000) (h2:ws.length<1000000) (h3:∀ l∈bs,l.length<1000000) (h4:∀ p∈ws,p.2.length<1000000) (W2:World) (hk:∀ q:Addr,lo<=q.block->q.block<W.heap.size->W2.cell? q=W.cell? q):Bls W2 W.heap.size (.slice (some ⟨BB,0,none⟩) bs.length bs.length) bs/\Wrs W2 W.heap.size (.slice (some ⟨WW,0,none⟩) ws.length (ws.length+1)) ws:=by
 obtain⟨cb,bQ,-⟩:=h.bb;obtain⟨cw,aA,-⟩:=h.ww;obtain⟨l1,l2,l3,l4,-⟩:=h.los;exact h.readsB h1 h2 h3 h4 W2 (fun j=>hk ⟨BB,j,none⟩ l1 (zG.1 bQ).1) (fun j=>hk ⟨WW,j,none⟩ l2 (zG.1 aA).1) fun j=>hk ⟨g,j,none⟩ l3 l4
theorem JP.readsT {lo:Nat} {bs:List (List UInt8)} {ws:List (Int×List UInt8)} {BB WW g:Nat} {W:World} (h:JP lo bs ws BB WW g W) (h1:bs.length<1000000) (h2:ws.length<1000000) (h3:∀ l∈bs,l.length<1000000) (h4:∀ p∈ws,p.2.length<1000000) (W2:World) (hk:∀ q:Addr,lo<=q.block->q.block<W.heap.size->W2.cell? q=(thaw W).cell? q):Bls W2 W.heap.size (.slice (some ⟨BB,0,none⟩) bs.length bs.length) bs/\Wrs W2 W.heap.size (.slice (some ⟨WW,0,none⟩) ws.length (ws.length+1)) ws:=by
 obtain⟨cb,bQ,-⟩:=h.bb;obtain⟨cw,aA,-⟩:=h.ww;obtain⟨cg,hg1⟩:=h.gg;obtain⟨l1,l2,l3,l4,-⟩:=h.los;exact h.readsB h1 h2 h3 h4 W2 (fun j=>(hk ⟨BB,j,none⟩ l1 (zG.1 bQ).1).trans (KS bQ j)) (fun j=>(hk ⟨WW,j,none⟩ l2 (zG.1 aA).1).trans (KS aA j)) fun j=>(hk ⟨g,j,none⟩ l3 l4).trans (KS hg1 j)
end Go.Proofs.YtmeadnlmepcmbaaGreat
namespace Go.Proofs.YtmeadnlmepcmbaaGreat
open Go.RowKit
def qaz (lo n c:Nat) (ty:TypeId) (cs:Array Value):Qd:=⟨Nat,fun b=>.slice (some ⟨b,0,none⟩) n c,fun b W=>W.heap[b]?=some (.cells cs ty (0,0))/\lo<=b⟩
theorem zX (lo n c:Nat) (ty:TypeId) (cs:Array Value) (b:Nat):(qaz lo n c ty cs).f b=.slice (some ⟨b,0,none⟩) n c:=rfl
theorem Yx (lo n c:Nat) (ty:TypeId) (cs:Array Value):∀ p,qL qj ((qaz lo n c ty cs).φ p):=fun p W W' he h=>⟨qb h.1 he,h.2⟩
def qay (hb g o n:Nat) (cur:Array Value) (l:List UInt8):Qd:=⟨Nat,fun _=>.slice (some ⟨g,o,none⟩) l.length l.length,fun o' W=>(0<n-l.length->o'=o+l.length)/\(n-l.length=0->o'=o)/\qdc hb g o' (n-l.length) (jg cur o l) W⟩
theorem ZS (hb g o n:Nat) (cur:Array Value) (l:List UInt8) (p:Nat):(qay hb g o n cur l).f p=.slice (some ⟨g,o,none⟩) l.length l.length:=rfl
theorem UO (hb g o n:Nat) (cur:Array Value) (l:List UInt8):∀ p,qL qj ((qay hb g o n cur l).φ p):=fun p W W' he ⟨h1,h2,h3⟩=>⟨h1,h2,⟨qb h3.box he,qb h3.row he,h3.ne,h3.fit,h3.few⟩⟩
theorem qiE {T:Nat} (hT:T<=281474976710656) (w:World):(Instr.makeSlice 273 (.int .i64 (T:Int)) (.int .i64 (T:Int))).run prog w=.ok (.slice (some ⟨w.heap.size,0,none⟩) T T) (w.alloc (.cells (madeCells #[.int .u8 0] T) 5)):=by obtain⟨i0,hi,ag,aV,aW⟩:=info_parts Tryz.info_u8;have h:=run_make (P:=prog) w 273 5 i0 _ underlying273 hi ag .i64 .i64 (T:Int) (T:Int) zO zO (by rw[aW];omega) zO;rw[aV,Int.toNat_natCast,Nat.mul_one] at h;exact h
theorem UW {n:Nat} (hn:n<1000000) (w:World):(Instr.makeSlice 22 (.int .i64 (n:Int)) (.int .i64 (n:Int))).run prog w=.ok (.slice (some ⟨w.heap.size,0,none⟩) n n) (w.alloc (.cells (madeCells #[.slice none 0 0] n) 26)):=by obtain⟨i0,hi,ag,aV,aW⟩:=info_parts Tryz.info_bytes;have h:=run_make (P:=prog) w 22 26 i0 _ underlying22 hi ag .i64 .i64 (n:Int) (n:Int) zO zO (by rw[aW];omega) zO;rw[aV,Int.toNat_natCast,Nat.mul_one] at h;exact h
theorem qeT {n:Nat} (hn:n<1000000) (w:World):(Instr.makeSlice 23 (.int .i64 (n:Int)) (.int .i64 ((n:Int)+1))).run prog w=.ok (.slice (some ⟨w.heap.size,0,none⟩) n (n+1)) (w.alloc (.cells (madeCells #[.int .i64 0,.slice none 0 0] ((n+1)*2)) 142)):=by obtain⟨i0,hi,ag,aV,aW⟩:=info_parts Tryz.info_write;have h:=run_make (P:=prog) w 23 142 i0 _ underlying23 hi ag .i64 .i64 (n:Int) ((n:Int)+1) zO zO (by rw[aW];omega) zO;rw[aV,Int.toNat_natCast,show ((n:Int)+1).toNat=n+1 by omega] at h;exact h
structure TwI (bs:List (List UInt8)) (ws:List (Int×List UInt8)) (T lo:Nat) (w5:World) (hb g BB WW ob:Nat) (i:Value) (wr:World):Prop where
 ex:∃ k:Nat,k<=bs.length/\i=.int .i64 (k:Int)/\TwS bs ws T lo w5 hb g BB WW ob k 0 (vx (bs.take k)) wr
structure TwJ (bs:List (List UInt8)) (ws:List (Int×List UInt8)) (T lo:Nat) (w5:World) (hb g BB WW ob:Nat) (i:Value) (wr:World):Prop where
 ex:∃ k:Nat,k<=ws.length/\i=.int .i64 (k:Int)/\TwS bs ws T lo w5 hb g BB WW ob bs.length k (vx bs+vx ((ws.take k).map (·.2))) wr
theorem one_at {c:Nat} {hh:Qd}:∀ i h,qH [(c,hh)] i=some h->i=c:=by
 intro i h e;simp only[qH] at e;split at e
 ·assumption
 ·cases e
set_option maxRecDepth 100000 in
theorem qkj (A1 n1 c1 A2 n2 c2) (bs:List (List UInt8)) (ws:List (Int×List UInt8)) (cZ:bs.length<1000000) (wS:ws.length<1000000) (hbe:∀ l∈bs,l.length<1000000) (hwe:∀ p∈ws,p.2.length<1000000) (w:World) (hb:Bls w w.heap.size (.slice A1 n1 c1) bs) (hw:Wrs w w.heap.size (.slice A2 n2 c2) ws):Calls prog 188 #[Xb A1 n1 c1 A2 n2 c2] w (fun e W=>∃ BB WW g,e=.returned (Xb (some ⟨BB,0,none⟩) bs.length bs.length (some ⟨WW,0,none⟩) ws.length (ws.length+1))/\JP w.heap.size bs ws BB WW g W/\Below w.heap.size w W):=by
 obtain⟨e1,dE,hm1,hA1⟩:=hb.at_;obtain⟨e2,bG,iw,wW⟩:=hw.at_;subst e1;subst e2;have HB:=zH hb;have HW:=zH hw;have hTb:vx bs<=1000000000000:=Nat.le_trans (qjV hbe) zO;have uP:vx (ws.map (·.2))<=1000000000000:=Nat.le_trans (qjV (fun l hl=>by obtain⟨p,hp,rfl⟩:=List.mem_map.1 hl;exact hwe p hp)) (by rw[List.length_map];omega);clear hb hw hm1 iw;go_enter func188,ntmps188;go_wp2_with fail;generalize aA:(World.alloc (World.alloc _ _) _)=w1;have x1:Ext w w1:=by rw[<-aA];exact(zN _ _).trans (zN _ _)
 have r1:w1.heap[w.heap.size]?=some (.cells #[.slice A1 bs.length c1,.slice A2 ws.length c2] 25 (0,0)):=by rw[<-aA];exact(zK _ _ _ zA2).trans (zI _ _ _ rfl)
 have q1:w1.heap[w.heap.size+1]?=some (.cells #[.slice none 0 0,.slice none 0 0] 25 (0,0)):=by rw[<-aA];exact zI _ _ _ zA2
 clear aA;go_wp2_with fail;go_loopw [3,17] (fun all i wr=>∃ k:Nat,k<=bs.length/\i=.int .i64 (k:Int)/\all=.int .i64 ((vx (bs.take k):Nat):Int)/\Ext w1 wr) (fun _ i _=>bs.length-(intOf i).toNat)
 case atStart=>exact⟨0,Nat.zero_le _,rfl,rfl,Ext.refl _⟩
 case round =>
  obtain⟨k,hk,rfl,rfl,hE⟩:=hrel;have xw:Below w.heap.size w wr:=Ext.trans x1 hE;have rr:=qb r1 hE;have kr:=qa rr;by_cases hlt:k<bs.length
  ·obtain⟨b1,o1,rfl,bQ⟩:=hA1 zO;obtain⟨A',c',hc,_⟩:=(HB.out.below xw).get k hlt;have uH:=XW hlt;have hle:=VD bs (k+1);generalize bs[k].length=m at *;generalize vx (bs.take k)=q at *;go_wp2_with fail;refine⟨⟨k+1,zO,by push_cast;rfl,by rw[uH];push_cast;rfl,hE⟩,?_⟩;simp[intOf];omega
  ·obtain rfl:k=bs.length:=zO;rw[List.take_length];generalize hwm:wr=wm at *;clear hwm kr rr;have r2:=qb r1 hE;have q2:=qb q1 hE;have k2:=qa r2;obtain⟨tb,htb⟩:∃ tb,tb=vx bs:=⟨_,rfl⟩
   obtain⟨tw,htw⟩:∃ tw,tw=vx (ws.map (·.2)):=⟨_,rfl⟩
   rw[<-htb] at hTb ⊢;rw[<-htw] at uP;replace htb:=zH htb;replace htw:=zH htw;go_wp2_with fail;go_loopw [3,29] (fun all i wr=>∃ k:Nat,k<=ws.length/\i=.int .i64 (k:Int)/\all=.int .i64 ((tb+vx ((ws.take k).map (·.2)):Nat):Int)/\Ext wm wr) (fun _ i _=>ws.length-(intOf i).toNat)
   case atStart=>exact⟨0,Nat.zero_le _,rfl,rfl,Ext.refl _⟩
   case round =>
    obtain⟨k,hk,rfl,rfl,fZ⟩:=hrel;have xw2:Below w.heap.size w wr:=Ext.trans xw fZ;have rr:=qb r2 fZ;have kr:=qa rr;clear k2;by_cases hlt:k<ws.length
    ·obtain⟨b2,o2,rfl,bU⟩:=wW zO;obtain⟨A',c',ha,hc,_⟩:=(HW.out.below xw2).get k hlt;have uH:vx ((ws.take (k+1)).map (·.2))=vx ((ws.take k).map (·.2))+ws[k].2.length:=by rw[List.map_take,List.map_take,XW (by rw[List.length_map];exact hlt),List.getElem_map]
     have hle:vx ((ws.take (k+1)).map (·.2))<=tw:=by rw[htw.out,List.map_take];exact VD _ _
     generalize ws[k].2.length=m at *;generalize ws[k].1=pn at *;generalize vx ((ws.take k).map (·.2))=q at *;go_wp2_with fail;refine⟨⟨k+1,zO,by push_cast;rfl,by rw[uH];push_cast;rw[Int.add_assoc],fZ.trans (zN _ _)⟩,?_⟩;simp[intOf];omega
    ·obtain rfl:k=ws.length:=zO;rw[List.take_length,<-htw.out];have hmk:=qiE (T:=tb+tw) zO;obtain⟨T,hT⟩:∃ T,T=tb+tw:=⟨_,rfl⟩
     rw[<-hT] at hmk ⊢;have wC:T<=2000000000000:=zO;replace hT:=zH hT;go_wp2_with fail;generalize wU:World.alloc (World.alloc _ _) _=wn;have x3:Ext wr wn:=by rw[<-wU];exact(zN _ _).trans (zN _ _)
     have g3:wn.heap[wr.heap.size]?=some (.cells (madeCells #[.int .u8 0] T) 5 (0,0)):=by rw[<-wU];exact(zK _ _ _ zA2).trans (zI _ _ _ rfl)
     have b3:wn.heap[wr.heap.size+1]?=some (.cells #[.slice (some ⟨wr.heap.size,0,none⟩) T T] 273 (0,0)):=by rw[<-wU];exact zI _ _ _ zA2
     have zn0:wn.heap.size=wr.heap.size+2:=by rw[<-wU];simp
     clear wU hmk;have r3:=qb rr x3;have q3:=qb (qb q2 fZ) x3;have xw3:Ext w wn:=Ext.trans xw2 x3;have k3:=qa r3;have zr:=(zG.1 q2).1;have zr2:=fZ.size;have zn:wn.heap.size=wr.heap.size+2:=zn0;clear kr rr r2 q2 r1 q1 x1 hE fZ xw xw2;generalize wr.heap.size=s0 at g3 b3 zn zr2 ⊢;have zs0:w.heap.size+1<s0:=zO;clear zr zr2 zn0;have g1:∀ W,qj.r wn W->∀ i,W.cell? ⟨w.heap.size,i,none⟩=#[.slice A1 bs.length c1,.slice A2 ws.length c2][i]?:=fun W h=>qa (qb r3 h);have hmkB:=UW cZ;have hmkW:=qeT wS;have ng:=zH (IntWalk.i64_in ((ws.length:Int)+1) zO);have hwm1:wrap64 ((ws.length:Int)+1)=(ws.length:Int)+1:=IntWalk.wrap64_in _ zO;go_wp2_with fail;refine qp zQ ?_;refine qQ (w:=wn) qj (qH [(3,qaz wn.heap.size bs.length bs.length 26 (madeCells #[.slice none 0 0] bs.length)),(11,qaz wn.heap.size ws.length (ws.length+1) 142 (madeCells #[.int .i64 0,.slice none 0 0] ((ws.length+1)*2))),(13,JM wn.heap.size 25 #[.slice none 0 0,.slice none 0 0])])
      [true,true,true,true,true,true,true,true,true,true,true,true,true,true] 1 zQ zQ zQ zQ zQ zQ zQ ?st (Rel.drew _ _) ?walk
     case st=>exact qk (by simp only[List.forall_mem_cons];exact⟨Yx _ _ _ _ _,Yx _ _ _ _ _,fun p=>QS (jG _ _ _ p),fun _ h=>by cases h⟩)
     case walk =>
      intro K hK;dsimp only[qu];refine zB7 ?_;refine qy (qaz wn.heap.size bs.length bs.length 26 (madeCells #[.slice none 0 0] bs.length)) zA0 zA0 (fun W hW _=>?_) (fun (BB:Nat)=>?_)
      ·have hW:Ext wn W:=hW;refine jE (u:=.slice (some ⟨W.heap.size,0,none⟩) bs.length bs.length) (w':=W.alloc (.cells (madeCells #[.slice none 0 0] bs.length) 26)) ?_ ⟨W.heap.size,rfl,⟨zI _ _ _ rfl,hW.size⟩,zN _ _⟩;go_simp
      refine zB7 ?_;refine qy (qaz wn.heap.size ws.length (ws.length+1) 142 (madeCells #[.int .i64 0,.slice none 0 0] ((ws.length+1)*2))) zA0 zA0 (fun W hW _=>?_) (fun (WW:Nat)=>?_)
      ·have hW:Ext wn W:=hW;refine jE (u:=.slice (some ⟨W.heap.size,0,none⟩) ws.length (ws.length+1)) (w':=W.alloc (.cells (madeCells #[.int .i64 0,.slice none 0 0] ((ws.length+1)*2)) 142)) ?_ ⟨W.heap.size,rfl,⟨zI _ _ _ rfl,hW.size⟩,zN _ _⟩;go_simp;rw[ng.out,hmkW];rfl
      refine zB7 ?_;refine qy (JM wn.heap.size 25 #[.slice none 0 0,.slice none 0 0]) zA0 zA0 (fun W hW _=>?_) (fun (ob:Nat)=>?_)
      ·have hW:Ext wn W:=hW;refine JR ?_ hW.size;go_simp
      refine zB7 ?_;refine qv (hK _ _ fun W hW hF=>?_);have hBB:W.heap[BB]?=some (.cells (madeCells #[.slice none 0 0] bs.length) 26 (0,0))/\wn.heap.size<=BB:=(hF 3).1;have hWW:W.heap[WW]?=some (.cells (madeCells #[.int .i64 0,.slice none 0 0] ((ws.length+1)*2)) 142 (0,0))/\wn.heap.size<=WW:=(hF 11).1;have hob:W.heap[ob]?=some (.cells #[.slice none 0 0,.slice none 0 0] 25 (0,0))/\wn.heap.size<=ob:=(hF 13).1;have hW:Ext wn W:=hW;have ko:=qa hob.1;have fo:=qe hob.1;clear hF hK g1 hmkB hmkW hwm1 k3;refine zB5 ?_;go_wp2;refine Qr ?_;have rob:=qi (qi hob.1 0 (.slice (some ⟨BB,0,none⟩) bs.length bs.length)) 1 (.slice (some ⟨WW,0,none⟩) ws.length (ws.length+1));have st:∀ b,b≠ob->((W.setCell ⟨ob,0,none⟩ (.slice (some ⟨BB,0,none⟩) bs.length bs.length)).setCell ⟨ob,1,none⟩ (.slice (some ⟨WW,0,none⟩) ws.length (ws.length+1))).heap[b]?=W.heap[b]?:=fun b hb=>(zJ _ _ _ _ hb).trans (zJ _ _ _ _ hb);have n1:BB≠ob:=qU hBB.1 hob.1 zD;have n2:WW≠ob:=qU hWW.1 hob.1 zD;have hob2:=hob.2;have B5:Below s0 wn ((W.setCell ⟨ob,0,none⟩ (.slice (some ⟨BB,0,none⟩) bs.length bs.length)).setCell ⟨ob,1,none⟩ (.slice (some ⟨WW,0,none⟩) ws.length (ws.length+1))):=Below.setCell (Below.setCell (Below.mono hW zO) (p:=⟨ob,0,none⟩) (by show s0<=ob;omega) _) (p:=⟨ob,1,none⟩) (by show s0<=ob;omega) _;have T0:TwS bs ws T s0 wn (s0+1) s0 BB WW ob 0 0 0 ((W.setCell ⟨ob,0,none⟩ (.slice (some ⟨BB,0,none⟩) bs.length bs.length)).setCell ⟨ob,1,none⟩ (.slice (some ⟨WW,0,none⟩) ws.length (ws.length+1))):=
       ⟨B5,⟨zO,zO,zO,zO,zO⟩,rob,⟨0,T,_,⟨(st _ zO).trans (qb b3 hW),(st _ zO).trans (qb g3 hW),zO,by rw[size_madeCells];omega,zO⟩,zM _,fun _=>rfl,zO,size_madeCells _ _⟩,
        ⟨_,(st _ n1).trans hBB.1,size_madeCells _ _,fun _ _ _ h=>zO⟩,⟨_,(st _ n2).trans hWW.1,size_madeCells _ _,fun _ _ _ h=>zO⟩⟩
      generalize World.setCell (World.setCell W _ _) _ _=w6 at *;clear n1 n2 hob2 rob st hob hWW hBB hW g3 b3 ko fo;have r6:=(B5.block w.heap.size zO).trans r3;have k6:=qa r6;have I0:TwI bs ws T s0 wn (s0+1) s0 BB WW ob (.int .i64 0) w6:=⟨0,Nat.zero_le _,rfl,T0⟩
      replace I0:=zH I0;have r3':=zH r3;have q3':=zH q3;clear B5 T0 r3 q3 x3 r6;go_wp2_with fail;go_loopw [57] (fun i wr=>TwI bs ws T s0 wn (s0+1) s0 BB WW ob i wr) (fun i _=>bs.length-(intOf i).toNat)
      case atStart=>exact I0.out
      case round =>
       obtain⟨k,hk,rfl,lD⟩:=hrel.ex;clear hrel I0 k6;have xwr:Below w.heap.size w wr:=Below.trans xw3 (Below.mono lD.below zO);have rr:=(lD.below.block w.heap.size zO).trans r3'.out;have kr:=qa rr;by_cases hlt:k<bs.length
       ·have aI:=hlt;obtain⟨b1,o1,rfl,bQ⟩:=hA1 zO;obtain⟨A',c',hc,aS⟩:=(HB.out.below xwr).get k hlt;have uH:=XW hlt;have hle:=VD bs (k+1);have yH:=zL hlt;generalize bs[k]=l at *;obtain⟨o,n,cur,hH,q1,q2,q3,q4⟩:=lD.heap;have hln:l.length<=n:=by have:=hT.out;have:=htb.out;omega
        have xA:Bys wr wr.heap.size (.slice A' l.length c') l:=aS.more xwr.size;have uj:=lD.out;obtain⟨cb,rb,sb,_⟩:=lD.bb;have n1:ob≠s0+1:=qU uj hH.box zD;have n2:ob≠s0:=qU uj hH.row zD;have n3:BB≠s0+1:=qU rb hH.box zD;have n4:BB≠s0:=qU rb hH.row zD;have sK:∀ a b,qj.r a b->(TJ (s0+1) s0).r a b:=qjg;obtain⟨RR,bJ⟩:∃ RR:Rel,RR=TJ (s0+1) s0:=⟨_,rfl⟩
        rw[<-bJ] at sK;have hle:=sK;have g1:∀ W,RR.r wr W->∀ i,W.cell? ⟨ob,i,none⟩=#[.slice (some ⟨BB,0,none⟩) bs.length bs.length,.slice (some ⟨WW,0,none⟩) ws.length (ws.length+1)][i]?:=fun W h=>qa (kX (bJ ▸ h) n1 n2 uj);replace bJ:=zH bJ;replace lD:=zH lD;replace uH:=zH uH;replace yH:=zH yH;replace hH:=zH hH;replace rb:=zH rb;clear q1 q2 q3 q4 sK wW;go_wp2_with fail;refine qp zQ ?_;refine qdf (w:=wr) qj RR 4 hle (qH [(4,qay (s0+1) s0 o n cur l)]) [true,true,true,true,true,true] 1 zQ zQ zQ zQ zQ zQ zQ ?st one_at (Rel.drew _ _) ?walk
        case st=>exact qk (by simp only[List.forall_mem_cons];exact⟨UO _ _ _ _ _ _,fun _ h=>by cases h⟩)
        case walk =>
         intro K hK;dsimp only[qu];refine zB8 ?_;refine qbA (qay (s0+1) s0 o n cur l) zA0 zA0 (fun W hW _=>?_) (fun (p:Nat)=>?_)
         ·have hW:Ext wr W:=hW;refine Qi ?_ ((qbE (s0+1) s0 o n cur A' c' l hln W ⟨qb hH.out.box hW,qb hH.out.row hW,hH.out.ne,hH.out.fit,hH.out.few⟩ (xA.below hW |>.more hW.size)).mono fun e w' h=>?_)
          ·go_simp
          obtain⟨o',rfl,h1,h2,h3,e1,e2,e3,e4,e5⟩:=h;refine⟨o',rfl,⟨h1,h2,h3⟩,?_⟩;rw[bJ.out];exact⟨e2,e3,e4,Nat.le_of_eq e1.symm,fun b _ h1 h2=>e5 b h1 h2⟩
         refine zB8 ?_
         first
          |(refine jZ hle (.pointer (some ⟨BB,0+k,none⟩)) zA0 zA0 (fun W hW _=>?_) ?_
            ·go_simp;rw[IntWalk.i64_in (k:Int) zO,if_pos zO];simp
            simp only[Act.put,qm,qf,qc,qg,zX,ZS,zA,zB,zC])
          |skip
         refine zB8 ?_;refine qdn (hK _ _ fun W hW hF=>?_);obtain⟨h1,h2,hH'⟩:(qay (s0+1) s0 o n cur l).φ p W:=(hF 4).1;clear hF hK g1;rw[bJ.out] at hW;refine zB5 ?_;obtain⟨T1,hin⟩:=lD.out.clone hH.out hln hW h1 h2 hH';have rB:=kX hW n3 n4 rb.out;have kB:=qa rB k;have fB:=qe rB k;rw[Array.getElem?_eq_getElem zO] at kB;generalize cb[k]=u0 at *;have T2:=T1.setB yH.out hin;rw[<-uH.out] at T2;have IR:TwI bs ws T s0 wn (s0+1) s0 BB WW ob (.int .i64 ((k:Int)+1)) (W.setCell ⟨BB,k,none⟩ (.slice (some ⟨s0,o,none⟩) l.length l.length)):=⟨k+1,zO,rfl,T2⟩
         replace IR:=zH IR;have uJ:=zH (IntWalk.wrap64_in ((k:Int)+1) zO);clear T1 T2 hin hW h1 h2 hH' rB rb lD hH uH yH;go_wp2;refine Qr ?_;go_wp2_with fail;try rw[uJ.out]
         refine⟨IR.out,?_⟩;simp[intOf];omega
       ·obtain rfl:k=bs.length:=zO;rw[List.take_length] at lD;have J0:TwJ bs ws T s0 wn (s0+1) s0 BB WW ob (.int .i64 0) wr:=⟨0,Nat.zero_le _,rfl,lD⟩
        replace J0:=zH J0;generalize uJ:wr=wk at *;clear uJ lD xwr;go_wp2_with fail;go_loopw [72] (fun i wr=>TwJ bs ws T s0 wn (s0+1) s0 BB WW ob i wr) (fun i _=>ws.length-(intOf i).toNat)
        case atStart=>exact J0.out
        case round =>
         obtain⟨k,hk,rfl,lD⟩:=hrel.ex;clear hrel J0 kr rr;have xwr:Below w.heap.size w wr:=Below.trans xw3 (Below.mono lD.below zO);have rr:=(lD.below.block w.heap.size zO).trans r3'.out;have kr:=qa rr;by_cases hlt:k<ws.length
         ·have aI:=hlt;obtain⟨b2,o2,rfl,bU⟩:=wW zO;obtain⟨A',c',ha,hc,aS⟩:=(HW.out.below xwr).get k hlt;have uH:vx ((ws.take (k+1)).map (·.2))=vx ((ws.take k).map (·.2))+ws[k].2.length:=by rw[List.map_take,List.map_take,XW (by rw[List.length_map];exact hlt),List.getElem_map]
          have hle:vx ((ws.take (k+1)).map (·.2))<=tw:=by rw[htw.out,List.map_take];exact VD _ _
          have yH:=zL hlt;generalize ws[k]=pl at *;obtain⟨pn,l⟩:=pl;simp only at ha hc aS uH;go_upto_region 22 with fail;generalize hwp:World.alloc wr _=wp;have xp:Ext wr wp:=by rw[<-hwp];exact zN _ _
          have tp:wp.heap[wr.heap.size]?=some (.cells #[.int .i64 pn,.slice A' l.length c'] 142 (0,0)):=by rw[<-hwp];exact zI _ _ _ rfl
          clear hwp;have hls:s0<=wr.heap.size:=Nat.le_trans (Nat.le_trans zO lD.below.size) (zM _);have hTP:=lD.ext xp hls;obtain⟨o,n,cur,hH,q1,q2,q3,q4⟩:=hTP.heap;have hln:l.length<=n:=by have:=hT.out;have:=htb.out;omega
          have xA:Bys wp wp.heap.size (.slice A' l.length c') l:=(aS.below (Below.mono xp xwr.size)).more (by have:=xp.size;have:=xwr.size;omega);have uj:=hTP.out;obtain⟨cw,rw_,sw,_⟩:=hTP.ww;have zhb:=(zG.1 ((lD.heap).choose_spec.choose_spec.choose_spec.1.box)).1;have zg:=(zG.1 ((lD.heap).choose_spec.choose_spec.choose_spec.1.row)).1;have zw:=(zG.1 (lD.ww.choose_spec.1)).1;have n1:ob≠s0+1:=qU uj hH.box zD;have n2:ob≠s0:=qU uj hH.row zD;have n3:WW≠s0+1:=qU rw_ hH.box zD;have n4:WW≠s0:=qU rw_ hH.row zD;have sK:∀ a b,qj.r a b->(TJ (s0+1) s0).r a b:=qjg;obtain⟨RR,bJ⟩:∃ RR:Rel,RR=TJ (s0+1) s0:=⟨_,rfl⟩
          rw[<-bJ] at sK;have hle:=sK;generalize wr.heap.size=tt at tp hls zhb zg zw ⊢;have g1:∀ W,RR.r wp W->∀ i,W.cell? ⟨ob,i,none⟩=#[.slice (some ⟨BB,0,none⟩) bs.length bs.length,.slice (some ⟨WW,0,none⟩) ws.length (ws.length+1)][i]?:=fun W h=>qa (kX (bJ ▸ h) n1 n2 uj);have g2:∀ W,RR.r wp W->∀ i,W.cell? ⟨tt,i,none⟩=#[.int .i64 pn,.slice A' l.length c'][i]?:=fun W h=>qa (kX (bJ ▸ h) zO zO tp);replace bJ:=zH bJ;replace hTP:=zH hTP;replace uH:=zH uH;replace yH:=zH yH;replace hH:=zH hH;replace rw_:=zH rw_;clear q1 q2 q3 q4 sK lD aS ha hc hA1 tp xp rr kr;refine qp zQ ?_;refine qdf (w:=wp) qj RR 7 hle (qH [(7,qay (s0+1) s0 o n cur l)]) [true,true,true,true,true,true,true,true,true,true] 1 zQ zQ zQ zQ zQ zQ zQ ?st one_at (Rel.drew _ _) ?walk
          case st=>exact qk (by simp only[List.forall_mem_cons];exact⟨UO _ _ _ _ _ _,fun _ h=>by cases h⟩)
          case walk =>
           intro K hK;dsimp only[qu];refine zB8 ?_;refine qbA (qay (s0+1) s0 o n cur l) zA0 zA0 (fun W hW _=>?_) (fun (p:Nat)=>?_)
           ·have hW:Ext wp W:=hW;refine Qi ?_ ((qbE (s0+1) s0 o n cur A' c' l hln W ⟨qb hH.out.box hW,qb hH.out.row hW,hH.out.ne,hH.out.fit,hH.out.few⟩ (xA.below hW |>.more hW.size)).mono fun e w' h=>?_)
            ·go_simp
            obtain⟨o',rfl,h1,h2,h3,e1,e2,e3,e4,e5⟩:=h;refine⟨o',rfl,⟨h1,h2,h3⟩,?_⟩;rw[bJ.out];exact⟨e2,e3,e4,Nat.le_of_eq e1.symm,fun b _ h1 h2=>e5 b h1 h2⟩
           refine zB8 ?_
           first
            |(refine jZ hle (.pointer (some ⟨WW,0+k*2,none⟩)) zA0 zA0 (fun W hW _=>?_) ?_
              ·go_simp;rw[IntWalk.i64_in (k:Int) zO,if_pos zO];simp
              simp only[Act.put,qm,qf,qc,qg,zX,ZS,zA,zB,zC])
            |skip
           refine zB8 ?_;refine qdn (hK _ _ fun W hW hF=>?_);obtain⟨h1,h2,hH'⟩:(qay (s0+1) s0 o n cur l).φ p W:=(hF 7).1;clear hF hK g1 g2;rw[bJ.out] at hW;refine zB5 ?_;obtain⟨T1,hin⟩:=hTP.out.clone hH.out hln hW h1 h2 hH';have rB:=kX hW n3 n4 rw_.out;have kB:=qa rB (k*2);have kC:=qa rB (k*2+1);have fB:=qe rB;rw[Array.getElem?_eq_getElem zO] at kB kC;generalize cw[k*2]=u0 at *;generalize cw[k*2+1]=u1 at *;have T2:=T1.setW yH.out hin;rw[Nat.add_assoc,<-uH.out] at T2;have IR:TwJ bs ws T s0 wn (s0+1) s0 BB WW ob (.int .i64 ((k:Int)+1)) ((W.setCell ⟨WW,k*2,none⟩ (.int .i64 pn)).setCell ⟨WW,k*2+1,none⟩ (.slice (some ⟨s0,o,none⟩) l.length l.length)):=⟨k+1,zO,rfl,T2⟩
           replace IR:=zH IR;have uJ:=zH (IntWalk.wrap64_in ((k:Int)+1) zO);clear T1 T2 hin hW h1 h2 hH' rB rw_ hTP hH uH yH;go_wp2;refine Qr ?_;go_wp2_with fail;try rw[uJ.out]
           refine⟨IR.out,?_⟩;simp[intOf];omega
         ·obtain rfl:k=ws.length:=zO;have DT:=lD.done;have qq:=(lD.below.block (w.heap.size+1) zO).trans q3'.out;have kq:=qa qq;have fq:=qe qq;have ko:=qa lD.out;have rf:=qi (qi qq 0 (.slice (some ⟨BB,0,none⟩) bs.length bs.length)) 1 (.slice (some ⟨WW,0,none⟩) ws.length (ws.length+1));have kf:=qa rf;have bf:Below w.heap.size w ((wr.setCell ⟨w.heap.size+1,0,none⟩ (.slice (some ⟨BB,0,none⟩) bs.length bs.length)).setCell ⟨w.heap.size+1,1,none⟩ (.slice (some ⟨WW,0,none⟩) ws.length (ws.length+1))):=Below.setCell (Below.setCell xwr (p:=⟨w.heap.size+1,0,none⟩) (Nat.le_succ _) _) (p:=⟨w.heap.size+1,1,none⟩) (Nat.le_succ _) _;have DF:JP w.heap.size bs ws BB WW s0 ((wr.setCell ⟨w.heap.size+1,0,none⟩ (.slice (some ⟨BB,0,none⟩) bs.length bs.length)).setCell ⟨w.heap.size+1,1,none⟩ (.slice (some ⟨WW,0,none⟩) ws.length (ws.length+1))):=
           DT.keep zO zA2 (fun b h1 _=>(zJ _ _ _ _ (by show b≠w.heap.size+1;omega)).trans (zJ _ _ _ _ (by show b≠w.heap.size+1;omega)))
          replace kf:=zH kf;replace bf:=zH bf;replace DF:=zH DF;clear rf DT lD;go_wp2;have kf:=kf.out;exact bodyPost_ret (v:=Xb (some ⟨BB,0,none⟩) bs.length bs.length (some ⟨WW,0,none⟩) ws.length (ws.length+1)) (by simp[results,results188,go_sem,kf]) rfl ⟨BB,WW,s0,rfl,DF.out,bf.out⟩
def km (w:World) (b:Nat):Nat->List Value->World
 |_,[]=>w
 |k,v :: r=>km (w.setCell ⟨b,k,none⟩ v) b (k+1) r
def Xz (cs:Array Value):Nat->List Value->Array Value
 |_,[]=>cs
 |k,v :: r=>Xz (cs.setIfInBounds k v) (k+1) r
theorem jy {b g:Nat} (h:g≠b):∀ (vs:List Value) (w:World) (k:Nat),(km w b k vs).heap[g]?=w.heap[g]?
 | [],_,_=>rfl
 |_ :: r,w,k=>(jy h r _ _).trans (zJ _ _ _ _ h)
theorem Jj {b:Nat}:∀ (vs:List Value) (w:World) (k:Nat),(km w b k vs).heap.size=w.heap.size
 | [],_,_=>rfl
 |_ :: r,w,k=>(Jj r _ _).trans zA2
theorem jx {B b:Nat} {w0:World} (hB:B<=b):∀ (vs:List Value) (w:World) (k:Nat),Below B w0 w->Below B w0 (km w b k vs)
 | [],_,_,h=>h
 |v :: r,w,k,h=>jx hB r _ _ (Below.setCell h (p:=⟨b,k,none⟩) hB v)
theorem JO {b:Nat} {t:TypeId}:∀ (vs:List Value) (w:World) (k:Nat) (cs:Array Value),w.heap[b]?=some (.cells cs t (0,0))->(km w b k vs).heap[b]?=some (.cells (Xz cs k vs) t (0,0))
 | [],_,_,_,h=>h
 |v :: r,w,k,cs,h=>JO r _ _ _ (qi h k v)
def outDT (lo:Nat) (bs:List (List UInt8)) (ws:List (Int×List UInt8)):Qd:=⟨Nat×Nat×Nat,fun p=>Xb (some ⟨p.1,0,none⟩) bs.length bs.length (some ⟨p.2.1,0,none⟩) ws.length (ws.length+1),fun p W=>JP lo bs ws p.1 p.2.1 p.2.2 W⟩
theorem Yw (lo:Nat) (bs:List (List UInt8)) (ws:List (Int×List UInt8)) (b c g:Nat):(outDT lo bs ws).f (b,c,g)=Xb (some ⟨b,0,none⟩) bs.length bs.length (some ⟨c,0,none⟩) ws.length (ws.length+1):=rfl
theorem qeD (lo:Nat) (bs:List (List UInt8)) (ws:List (Int×List UInt8)):∀ p,qL qj ((outDT lo bs ws).φ p):=fun p W W' he h=>by have he:Ext W W':=he;exact JP.keep h (zM _) he.size fun b _ hb=>he.block b hb
def GG (lo:Nat) (l:List UInt8):Qd:=⟨OA×Nat,fun p=>.slice p.1 l.length p.2,fun p W=>W.ownsRow lo 5 1 (.slice p.1 l.length p.2) l.length (l.map bv)⟩
theorem kh (lo:Nat) (l:List UInt8) (A c):(GG lo l).f (A,c)=.slice A l.length c:=rfl
theorem Tl (lo:Nat) (l:List UInt8):∀ p,qL qj ((GG lo l).φ p):=fun p W W' he h=>zm h he
theorem ZH {w w':World} {lo:Nat} {e:TypeId} {size:Nat} {v:Value} {n:Nat} {xs:List Value} (h:w.ownsRow lo e size v n xs) (hk:∀ b,lo<=b->b<w.heap.size->w'.heap[b]?=w.heap[b]?):w'.ownsRow lo e size v n xs:=
 ⟨h.1,h.2.imp id fun ⟨g,cap,cur,h1,h2,h3,h4⟩=>⟨g,cap,cur,h1,h2,(hk g h2 (zG.1 h3).1).trans h3,h4⟩⟩
def QM (lo:Nat) (S:Sto) (u:Value) (W:World):Prop:=∃ BB WW g A3 c3 A4 c4,u=Qe (some ⟨BB,0,none⟩) S.bs.length S.bs.length (some ⟨WW,0,none⟩) S.ws.length (S.ws.length+1) A3 S.now.length c3 A4 S.last.length c4/\JP lo S.bs S.ws BB WW g W /\
 W.ownsRow lo 5 1 (.slice A3 S.now.length c3) S.now.length (S.now.map bv)/\W.ownsRow lo 5 1 (.slice A4 S.last.length c4) S.last.length (S.last.map bv)
theorem QM.keep {lo lo':Nat} {S:Sto} {u:Value} {W W2:World} (h:QM lo S u W) (hl:lo'<=lo) (hs:W.heap.size<=W2.heap.size) (hk:∀ b,lo<=b->b<W.heap.size->W2.heap[b]?=W.heap[b]?):QM lo' S u W2:=by obtain⟨BB,WW,g,A3,c3,A4,c4,e,h1,h2,h3⟩:=h;exact⟨BB,WW,g,A3,c3,A4,c4,e,h1.keep hl hs hk,QJ (ZH h2 hk) hl,QJ (ZH h3 hk) hl⟩
theorem qdK {w w':World} {lo:Nat} {e:TypeId} {size:Nat} {v:Value} {n:Nat} {xs:List Value} (h:w.ownsRow lo e size v n xs) {b1:Nat} {c1:Array Value} {t1:TypeId} (h1:w.heap[b1]?=some (.cells c1 t1 (0,0))) (ht:t1≠e) (hk:∀ b,lo<=b->b<w.heap.size->b≠b1->w'.heap[b]?=w.heap[b]?):w'.ownsRow lo e size v n xs:=
 ⟨h.1,h.2.imp id fun ⟨g,cap,cur,g1,g2,h3,h4⟩=>⟨g,cap,cur,g1,g2,(hk g g2 (zG.1 h3).1 (qU h3 h1 fun e=>ht e.symm)).trans h3,h4⟩⟩
theorem QM.keepT {lo lo':Nat} {S:Sto} {u:Value} {W W2:World} (h:QM lo S u W) (hl:lo'<=lo) (hs:W.heap.size<=W2.heap.size) {b1:Nat} {c1:Array Value} {t1:TypeId} (hr:W.heap[b1]?=some (.cells c1 t1 (0,0))) (ht:t1≠26/\t1≠142/\t1≠5) (hk:∀ b,lo<=b->b<W.heap.size->b≠b1->W2.heap[b]?=W.heap[b]?):QM lo' S u W2:=by obtain⟨BB,WW,g,A3,c3,A4,c4,e,h1,h2,h3⟩:=h;exact⟨BB,WW,g,A3,c3,A4,c4,e,h1.keepT hl hs hr ht hk,QJ (qdK h2 hr ht.2.2 hk) hl,QJ (qdK h3 hr ht.2.2 hk) hl⟩
set_option maxRecDepth 100000 in
theorem qdU (A1 n1 c1 A2 n2 c2 A3 n3 c3 A4 n4 c4) (S:Sto) (hS:GZ S) (w:World) (h:qV w w.heap.size (.slice A1 n1 c1) (.slice A2 n2 c2) (.slice A3 n3 c3) (.slice A4 n4 c4) S):Calls prog 157 #[Qe A1 n1 c1 A2 n2 c2 A3 n3 c3 A4 n4 c4] w (Zg (QM w.heap.size S) w):=by
 have HD:=zH (fun W (hW:Ext w W)=>qkj A1 n1 c1 A2 n2 c2 S.bs S.ws hS.bs hS.ws hS.be hS.we W (h.ext hW).bs (h.ext hW).ws);have HN:=zH (fun W (hW:Ext w W)=>VR _ S.now (by have:=hS.now;omega) W (h.ext hW).now);have HL:=zH (fun W (hW:Ext w W)=>VR _ S.last (by have:=hS.last;omega) W (h.ext hW).last);clear h hS;go_enter func157,ntmps157;go_wp2_with fail;generalize aA:(World.alloc (World.alloc _ _) _)=w1;have x1:Ext w w1:=by rw[<-aA];exact(zN _ _).trans (zN _ _)
 have r1:w1.heap[w.heap.size]?=some (.cells #[.slice A1 n1 c1,.slice A2 n2 c2,.slice A3 n3 c3,.slice A4 n4 c4] 28 (0,0)):=by rw[<-aA];exact(zK _ _ _ zA2).trans (zI _ _ _ rfl)
 have q1:w1.heap[w.heap.size+1]?=some (.cells #[.slice none 0 0,.slice none 0 0,.slice none 0 0,.slice none 0 0] 28 (0,0)):=by rw[<-aA];exact zI _ _ _ zA2
 clear aA;have g1:∀ W,qj.r w1 W->∀ i,W.cell? ⟨w.heap.size,i,none⟩=#[.slice A1 n1 c1,.slice A2 n2 c2,.slice A3 n3 c3,.slice A4 n4 c4][i]?:=fun W h=>qa (qb r1 h);refine qp zQ ?_;refine qQ (w:=w1) qj (qH [(2,outDT w1.heap.size S.bs S.ws),(5,GG w1.heap.size S.now),(8,GG w1.heap.size S.last)])
  [true,true,true,true,true,true,true,true,true,true] 1 zQ zQ zQ zQ zQ zQ zQ ?st (Rel.drew _ _) ?walk
 case st=>exact qk (by simp only[List.forall_mem_cons];exact⟨qeD _ _ _,Tl _ _,Tl _ _,fun _ h=>by cases h⟩)
 case walk =>
  intro K hK;dsimp only[qu];refine zB9 ?_;refine qy (outDT w1.heap.size S.bs S.ws) zA0 zA0 (fun W hW _=>?_) (fun p=>?_)
  ·refine Qi ?_ ((HD.out W (Ext.trans x1 hW)).mono fun e w' h=>?_)
   ·go_simp
   have hW:Ext w1 W:=hW;obtain⟨b,c,g,rfl,h1,hB⟩:=h;exact⟨(b,c,g),rfl,h1.keep hW.size (zM _) (fun _ _ _=>rfl),hB⟩
  obtain⟨bb,cc,gg⟩:=p;refine zB9 ?_;refine qy (GG w1.heap.size S.now) zA0 zA0 (fun W hW _=>?_) (fun p=>?_)
  ·refine Qi ?_ ((HN.out W (Ext.trans x1 hW)).mono fun e w' h=>?_)
   ·go_simp
   have hW:Ext w1 W:=hW;obtain⟨u,rfl,hu,hB⟩:=h;obtain⟨A,c,rfl,_,_⟩:=qE hu;exact⟨(A,c),rfl,QJ hu hW.size,hB⟩
  obtain⟨B3,d3⟩:=p;refine zB9 ?_;refine qy (GG w1.heap.size S.last) zA0 zA0 (fun W hW _=>?_) (fun p=>?_)
  ·refine Qi ?_ ((HL.out W (Ext.trans x1 hW)).mono fun e w' h=>?_)
   ·go_simp
   have hW:Ext w1 W:=hW;obtain⟨u,rfl,hu,hB⟩:=h;obtain⟨A,c,rfl,_,_⟩:=qE hu;exact⟨(A,c),rfl,QJ hu hW.size,hB⟩
  obtain⟨B4,d4⟩:=p;refine zB9 ?_;refine qv (hK _ _ fun W hW hF=>?_);have hD:JP w1.heap.size S.bs S.ws bb cc gg W:=(hF 2).1;have hN:W.ownsRow w1.heap.size 5 1 (.slice B3 S.now.length d3) S.now.length (S.now.map bv):=(hF 5).1;have hL:W.ownsRow w1.heap.size 5 1 (.slice B4 S.last.length d4) S.last.length (S.last.map bv):=(hF 8).1;have hW:Ext w1 W:=hW;clear hF hK g1;refine zB5 ?_;have qW:=qb q1 hW;have kW:=qa qW;have fW:=qe qW;have hz:w.heap.size+1<w1.heap.size:=(zG.1 q1).1;have P5:∀ wx:World,wx=km W (w.heap.size+1) 0 [.slice (some ⟨bb,0,none⟩) S.bs.length S.bs.length,.slice (some ⟨cc,0,none⟩) S.ws.length (S.ws.length+1),.slice B3 S.now.length d3,.slice B4 S.last.length d4] ->
    wx.heap[w.heap.size+1]?=some (.cells #[.slice (some ⟨bb,0,none⟩) S.bs.length S.bs.length,.slice (some ⟨cc,0,none⟩) S.ws.length (S.ws.length+1),.slice B3 S.now.length d3,.slice B4 S.last.length d4] 28 (0,0))/\Below w.heap.size w wx /\
     QM w.heap.size S (Qe (some ⟨bb,0,none⟩) S.bs.length S.bs.length (some ⟨cc,0,none⟩) S.ws.length (S.ws.length+1) B3 S.now.length d3 B4 S.last.length d4) wx:=fun wx e=>by
   have hk:∀ b,w1.heap.size<=b->b<W.heap.size->wx.heap[b]?=W.heap[b]?:=fun b h1 _=>by rw[e];exact jy zO _ _ _
   have hs:W.heap.size<=wx.heap.size:=by rw[e,Jj];exact zM _
   refine⟨by rw[e];refine(JO _ _ _ _ qW).trans ?_;simp[Xz],by rw[e];exact jx (Nat.le_succ _) _ _ _ (Ext.trans x1 hW),bb,cc,gg,B3,d3,B4,d4,rfl,hD.keep zO hs hk,QJ (ZH hN hk) zO,QJ (ZH hL hk) zO⟩
  replace P5:=zH P5;clear hD hN hL qW hW;go_wp2;refine Qr ?_;go_wp2_with fail;have P5:=P5.out;generalize aT:World.setCell (World.setCell (World.setCell (World.setCell W _ _) _ _) _ _) _ _=w5;obtain⟨r5,x5,h5⟩:=P5 w5 aT.symm;clear P5 aT;have k5:=qa r5;exact bodyPost_ret (v:=Qe (some ⟨bb,0,none⟩) S.bs.length S.bs.length (some ⟨cc,0,none⟩) S.ws.length (S.ws.length+1) B3 S.now.length d3 B4 S.last.length d4) (by simp[results,results157,go_sem,k5]) rfl ⟨_,rfl,h5,x5⟩
set_option maxRecDepth 100000 in
theorem Yc (b:Nat) (A1:OA) (n1 c1:Nat) (A2:OA) (n2 c2:Nat) (A3:OA) (n3 c3:Nat) (A4:OA) (n4 c4:Nat) (S:Sto) (hS:GZ S) (w:World) (hr:w.heap[b]?=some (.cells #[.slice A1 n1 c1,.slice A2 n2 c2,.slice A3 n3 c3,.slice A4 n4 c4] 223 (0,0))) (h:qV w w.heap.size (.slice A1 n1 c1) (.slice A2 n2 c2) (.slice A3 n3 c3) (.slice A4 n4 c4) S):Calls prog 122 #[.pointer (some ⟨b,0,none⟩)] w (Zg (QM w.heap.size S) w):=by
 have HT:=zH (fun W (hW:Ext w W)=>qdU A1 n1 c1 A2 n2 c2 A3 n3 c3 A4 n4 c4 S hS W (h.ext hW));clear h hS;have k0:=qa hr;have zb:b<w.heap.size:=(zG.1 hr).1;go_enter func122,ntmps122;go_wp2_with fail;generalize aA:World.alloc _ _=w1;have x1:Ext w w1:=by rw[<-aA];exact zN _ _
 have q1:w1.heap[w.heap.size]?=some (.cells #[.slice none 0 0,.slice none 0 0,.slice none 0 0,.slice none 0 0] 28 (0,0)):=by rw[<-aA];exact zI _ _ _ zA2
 clear aA k0;refine(HT.out w1 x1).mono ?_;rintro e w2 ⟨u,rfl,hT,hB⟩;have hB:Ext w1 w2:=hB;have q2:=qb q1 hB;have kq:=qa q2;have fq:=qe q2;have z1:w.heap.size<w1.heap.size:=(zG.1 q1).1;obtain⟨BB,WW,g,B3,d3,B4,d4,rfl,hD,hN,hL⟩:=hT;have P5:∀ wx:World,wx=km w2 w.heap.size 0 [.slice (some ⟨BB,0,none⟩) S.bs.length S.bs.length,.slice (some ⟨WW,0,none⟩) S.ws.length (S.ws.length+1),.slice B3 S.now.length d3,.slice B4 S.last.length d4] ->
   wx.heap[w.heap.size]?=some (.cells #[.slice (some ⟨BB,0,none⟩) S.bs.length S.bs.length,.slice (some ⟨WW,0,none⟩) S.ws.length (S.ws.length+1),.slice B3 S.now.length d3,.slice B4 S.last.length d4] 28 (0,0))/\Below w.heap.size w wx /\
    QM w.heap.size S (Qe (some ⟨BB,0,none⟩) S.bs.length S.bs.length (some ⟨WW,0,none⟩) S.ws.length (S.ws.length+1) B3 S.now.length d3 B4 S.last.length d4) wx:=fun wx e=>by
  have hk:∀ b,w1.heap.size<=b->b<w2.heap.size->wx.heap[b]?=w2.heap[b]?:=fun b h1 _=>by rw[e];exact jy zO _ _ _
  have hs:w2.heap.size<=wx.heap.size:=by rw[e,Jj];exact zM _
  refine⟨by rw[e];refine(JO _ _ _ _ q2).trans ?_;simp[Xz],by rw[e];exact jx (zM _) _ _ _ (x1.trans hB),BB,WW,g,B3,d3,B4,d4,rfl,hD.keep zO hs hk,QJ (ZH hN hk) zO,QJ (ZH hL hk) zO⟩
 replace P5:=zH P5;clear hD hN hL q2 hB q1;go_wp2_with fail;have P5:=P5.out;generalize aT:World.setCell (World.setCell (World.setCell (World.setCell w2 _ _) _ _) _ _) _ _=w5;obtain⟨r5,x5,h5⟩:=P5 w5 aT.symm;clear P5 aT;have k5:=qa r5;exact bodyPost_ret (v:=Qe (some ⟨BB,0,none⟩) S.bs.length S.bs.length (some ⟨WW,0,none⟩) S.ws.length (S.ws.length+1) B3 S.now.length d3 B4 S.last.length d4) (by simp[results,results122,go_sem,k5]) rfl ⟨_,rfl,h5,x5⟩
theorem qbf {w:World} {lo g n c k:Nat} {l:List UInt8} (h:w.ownsRow lo 5 1 (.slice (some ⟨g,0,none⟩) n c) n (l.map bv)) (hk:k<n) (x:UInt8):(w.setCell ⟨g,k,none⟩ (bv x)).ownsRow lo 5 1 (.slice (some ⟨g,0,none⟩) n c) n ((l.set k x).map bv):=by
 obtain⟨h1,h2⟩:=h;rcases h2 with ⟨e,_⟩|⟨g',cap,cur,e,hg,hr,hc,hm,hs,ht⟩
 ·cases e
 ·cases e;have hk2:k<cur.size:=zO;refine⟨by simpa using h1,.inr ⟨g,c,_,rfl,hg,qi hr k _,hc,hm,by simpa using hs,?_⟩⟩;apply List.ext_getElem?;intro i;rw[List.map_set,<-ht,List.getElem?_take,List.getElem?_set,List.getElem?_take];simp only[Nat.mul_one,Array.getElem?_toList,Array.getElem?_setIfInBounds,List.length_take,Array.length_toList];by_cases hi:i<n
  ·rw[if_pos hi,if_pos hi];by_cases e:k=i
   ·subst e;rw[if_pos rfl,if_pos rfl,if_pos hk2,if_pos zO]
   ·rw[if_neg e,if_neg e]
  ·rw[if_neg hi,if_neg hi,if_neg zO]
theorem qgE {w:World} {lo g n c b k:Nat} {l:List UInt8} {v:Value} (h:w.ownsRow lo 5 1 (.slice (some ⟨g,0,none⟩) n c) n (l.map bv)) (hg:g≠b):(w.setCell ⟨b,k,none⟩ v).ownsRow lo 5 1 (.slice (some ⟨g,0,none⟩) n c) n (l.map bv):=by obtain⟨h1,h2⟩:=h;refine⟨h1,h2.imp id fun ⟨g',cap,cur,e,h3,h4,h5⟩=>?_⟩;cases e;exact⟨g,c,cur,rfl,h3,(zJ _ _ _ _ hg).trans h4,h5⟩
theorem ZB {w:World} {lo g n c:Nat} {l:List UInt8} (h:w.ownsRow lo 5 1 (.slice (some ⟨g,0,none⟩) n c) n (l.map bv)):(∀ k,k<n->w.cell? ⟨g,k,none⟩=some (.int .u8 ((l[k]?.getD 0).toNat:Int)))/\(∀ k,w.frozen? ⟨g,k,none⟩=false)/\lo<=g/\g<w.heap.size:=by
 have h1:=h.1;obtain⟨h0,h2⟩:=h;rcases h2 with ⟨e,_⟩|⟨g',cap,cur,e,hg,hr,hc,hm,hs,ht⟩
 ·cases e
 ·cases e;refine⟨fun k hk=>?_,qe hr,hg,(zG.1 hr).1⟩;have hl:l.length=n:=by simpa using h1
  have hkl:k<l.length:=zO;have e2:(l.map bv)[k]?=some (bv l[k]):=by rw[List.getElem?_map,zL hkl];rfl
  rw[<-ht,List.getElem?_take,if_pos zO] at e2;have e3:cur[k]?=cur.toList[k]?:=zA2;rw[qa hr,e3,e2,zL hkl];rfl
set_option maxRecDepth 100000 in
theorem qeB (A1 n1 c1 A2 n2 c2 A3 n3 c3 A4 n4 c4) (S:Sto) (hl:S.now.length<1073741824) (w:World) (h:qV w w.heap.size (.slice A1 n1 c1) (.slice A2 n2 c2) (.slice A3 n3 c3) (.slice A4 n4 c4) S):Calls prog 109 #[Qe A1 n1 c1 A2 n2 c2 A3 n3 c3 A4 n4 c4] w (Zg (fun u W=>∃ b A3' c3',u=.pointer (some ⟨b,0,none⟩)/\w.heap.size<=b/\W.heap[b]?=some (.cells #[.slice A1 n1 c1,.slice A2 n2 n2,.slice A3' n3 c3',.slice A4 n4 c4] 223 (0,0))/\W.ownsRow w.heap.size 5 1 (.slice A3' n3 c3') n3 (S.now.map bv)) w):=by
 have hn3:Hid (n3=S.now.length):=zH h.now.at_.1;obtain⟨-,h2a,h2b,-⟩:=h.ws.at_;have HC:=zH (fun W (hW:Ext w W)=>VR (.slice A3 n3 c3) S.now hl W (h.ext hW).now);clear h;go_enter func109,ntmps109;go_wp2_with fail;generalize aA:(World.alloc _ _)=w1;have x1:Ext w w1:=by rw[<-aA];exact zN _ _
 have r1:w1.heap[w.heap.size]?=some (.cells #[.slice A1 n1 c1,.slice A2 n2 c2,.slice A3 n3 c3,.slice A4 n4 c4] 28 (0,0)):=by rw[<-aA];exact zI _ _ _ rfl
 clear aA;refine(HC.out _ x1).mono ?_;rintro e w2 ⟨u,rfl,hu,hB⟩;have x2:=x1.trans hB;have r2:=qb r1 hB;have s1:w.heap.size<w1.heap.size:=(zG.1 r1).1;obtain⟨A3',c3',rfl,_,_⟩:=qE hu;have k2:=qa r2;have f2:=qe r2;clear hB r1 HC;rw[<-hn3.out] at hu ⊢;go_wp2_with fail;have hu3:=ZH (w':=w2.setCell ⟨w.heap.size,2,none⟩ (.slice A3' n3 c3')) hu (fun b hb _=>zJ _ _ _ _ (by show b≠w.heap.size;omega));generalize aO:(World.setCell _ _ _)=w3 at *;have x3:Ext w w3:=by rw[<-aO];exact Below.setCell x2 (p:=⟨w.heap.size,2,none⟩) (zM _) _
 have r3:w3.heap[w.heap.size]?=some (.cells #[.slice A1 n1 c1,.slice A2 n2 c2,.slice A3' n3 c3',.slice A4 n4 c4] 28 (0,0)):=by rw[<-aO];exact qi r2 2 _
 clear aO k2 f2 r2 x2 hu;refine(qfM A2 n2 c2 h2a h2b _).mono ?_;rintro e w4 ⟨rfl,hB⟩;have x4:=x3.trans hB;have r4:=qb r3 hB;have hu4:=zm hu3 hB;have k4:=qa r4;have f4:=qe r4;have s4:w.heap.size<w4.heap.size:=(zG.1 r4).1;clear hB r3 x3 hu3;replace hu4:=zH hu4;go_wp2;have hu5:=ZH (w':=w4.setCell ⟨w.heap.size,1,none⟩ (.slice A2 n2 n2)) hu4.out (fun b hb _=>zJ _ _ _ _ (by show b≠w.heap.size;omega));have bf:Below w.heap.size w ((w4.setCell ⟨w.heap.size,1,none⟩ (.slice A2 n2 n2)).alloc (.cells #[.slice A1 n1 c1,.slice A2 n2 n2,.slice A3' n3 c3',.slice A4 n4 c4] 223)):=by have x4':Below w.heap.size w w4:=x4;exact(by repeat' (first|with_reducible exact Below.refl _ _|with_reducible assumption|with_reducible apply Below.drew|with_reducible apply qI|with_reducible refine Below.alloc ?_ ?_ _|with_reducible refine Below.setCell ?_ ?_ _|(simp;done)|(simp;omega)|omega))
 go_ret;exact⟨_,rfl,⟨w4.heap.size,A3',c3',rfl,zO,zI _ _ _ zA2,QJ (zm hu5 (zN _ _)) zO⟩,bf⟩
set_option maxRecDepth 100000 in
theorem qie (x:It) (hx:zu x) (hb:itB x.r x.val.length=true) (A c) (w:World) (h:Bys w w.heap.size (.slice A x.val.length c) x.val):Calls prog 203 #[Ke x.k x.i x.o x.r A x.val.length c] w (Zg (IsB0 w.heap.size (12+x.val.length) (Zw x)) w):=by
 have HC:=zH (fun W=>JI x.k x.i x.o x.r A x.val.length c W);rw[hb,show JQ true=0 from rfl] at HC;obtain⟨kk,ki,ko,kr,l⟩:=x;obtain⟨⟨hk1,hk2⟩,⟨ng,hi2⟩,⟨ho1,ho2⟩,⟨nK,hr2⟩,hl⟩:=hx;dsimp only at *;clear hb;obtain⟨k,rfl⟩:=Int.eq_ofNat_of_zero_le hk1;obtain⟨i,rfl⟩:=Int.eq_ofNat_of_zero_le ng;obtain⟨o,rfl⟩:=Int.eq_ofNat_of_zero_le ho1;obtain⟨r,rfl⟩:=Int.eq_ofNat_of_zero_le nK;have HB:Hid (Zw ⟨k,i,o,r,l⟩=[[UInt8.ofNat k],qB i 4,qB o 4,qB r 2,[UInt8.ofNat l.length],l].flatten):=by refine zH ?_;simp[Zw]
 have dU:bv (UInt8.ofNat k)=.int .u8 (k:Int):=by simp[bv];omega
 have lV:bv (UInt8.ofNat l.length)=.int .u8 ((l.length:Nat):Int):=by simp[bv];omega
 have HL:Hid ([[UInt8.ofNat k],qB i 4,qB o 4,qB r 2,[UInt8.ofNat l.length],l].flatten.length=12+l.length):=by refine zH ?_;simp[QB];omega
 have hcv:IntKind.u8.wrap ((l.length:Nat):Int)=((l.length:Nat):Int):=by simp[IntKind.wrap,IntKind.bits,IntKind.signed];omega
 replace dU:=zH dU;replace lV:=zH lV;replace h:=zH h;rw[HB.out];clear HB;generalize hFL:[[UInt8.ofNat k],qB i 4,qB o 4,qB r 2,[UInt8.ofNat l.length],l]=FL at *;go_enter func203,ntmps203;go_wp2_with fail;generalize aA:World.alloc w _=w1;have x1:Ext w w1:=by rw[<-aA];exact zN _ _
 have r1:w1.heap[w.heap.size]?=some (.cells #[.int .u8 k,.int .u32 i,.int .u32 o,.int .i64 r,.slice A l.length c] 51 (0,0)):=by rw[<-aA];exact zI _ _ _ rfl
 clear aA;refine(HC.out w1).mono ?_;rintro e w2 ⟨rfl,hB⟩;have x2:Ext w w2:=Ext.trans x1 hB;have r2:=qb r1 hB;have k2:=qa r2;clear hB r1 x1 HC;go_wp2_with fail;refine(qeW r zO _).mono ?_;rintro e w3 ⟨u,rfl,⟨u2,rfl,A2,c2,rfl,bU,hf2⟩,hB⟩;have x3:Ext w w3:=Ext.trans x2 hB;have r3:=qb r2 hB;clear hB k2 r2 x2;go_wp2_with fail;have hE:∀ W,Ext w3 W->∀ j,W.cell? ⟨w.heap.size,j,none⟩=#[.int .u8 k,.int .u32 i,.int .u32 o,.int .i64 r,.slice A l.length c][j]?:=fun W h=>qa (qb r3 h);refine zl (qH [(3,Jf w3.heap.size 1 5 #[.int .u8 k]),(7,YQ w3.heap.size 4 (qB i 4)),(11,YQ w3.heap.size 4 (qB o 4)),(17,Jf w3.heap.size 1 5 #[.int .u8 (l.length:Nat)]),(20,VB w3.heap.size 6 26 (vR FL)),(21,YQ w3.heap.size (12+l.length) FL.flatten)]) 22 zQ zQ zQ zD zQ zQ ?st ?walk
 case st=>exact zt (by simp only[List.forall_mem_cons];exact⟨vN _ _ _ _,Je _ _ _,Je _ _ _,vN _ _ _ _,VZ (vR.stable _),Je _ _ _,fun _ h=>by cases h⟩)
 case walk =>
  intro K hK;dsimp only[List.take];refine zC0 ?_;refine QD (Jf w3.heap.size 1 5 #[.int .u8 k]) zA0 zA0 (fun W hW _=>?_) (fun (p3:Nat)=>?_)
  ·refine Yl ?_ hW.size;go_simp
  refine zC0 ?_;refine QD (YQ w3.heap.size 4 (qB i 4)) zA0 zA0 (fun W hW _=>?_) (fun p7=>?_)
  ·refine QX ?_ ((Xd i zO W).mono fun e w' h=>?_)
   ·go_simp
   obtain⟨u,rfl,⟨A,c,rfl,h1,h2⟩,h3⟩:=h;exact⟨(A,c),rfl,⟨h1,h2.mono hW.size⟩,h3⟩
  obtain⟨A7,c7⟩:=p7;refine zC0 ?_;refine QD (YQ w3.heap.size 4 (qB o 4)) zA0 zA0 (fun W hW _=>?_) (fun p11=>?_)
  ·refine QX ?_ ((Xd o zO W).mono fun e w' h=>?_)
   ·go_simp
   obtain⟨u,rfl,⟨A,c,rfl,h1,h2⟩,h3⟩:=h;exact⟨(A,c),rfl,⟨h1,h2.mono hW.size⟩,h3⟩
  obtain⟨A11,c11⟩:=p11;refine zC0 ?_;refine QD (Jf w3.heap.size 1 5 #[.int .u8 (l.length:Nat)]) zA0 zA0 (fun W hW _=>?_) (fun (p17:Nat)=>?_)
  ·refine Yl ?_ hW.size;go_simp
  refine zC0 ?_;refine QD (VB w3.heap.size 6 26 (vR FL)) zA0 zA0 (fun W hW hp=>?_) (fun (p20:Nat)=>?_)
  ·obtain⟨f3,_⟩:W.heap[p3]?=some (.cells #[.int .u8 k] 5 (0,0))/\w3.heap.size<=p3:=(hp 3 zD).1;obtain⟨f7,_⟩:Bys W W.heap.size (.slice A7 4 c7) (qB i 4)/\_:=(hp 7 zD).1;obtain⟨f11,_⟩:Bys W W.heap.size (.slice A11 4 c11) (qB o 4)/\_:=(hp 11 zD).1;obtain⟨f17,_⟩:W.heap[p17]?=some (.cells #[.int .u8 (l.length:Nat)] 5 (0,0))/\w3.heap.size<=p17:=(hp 17 zD).1;have hR:vR FL [.slice (some ⟨p3,0,none⟩) 1 1,.slice A7 4 c7,.slice A11 4 c11,.slice A2 2 c2,.slice (some ⟨p17,0,none⟩) 1 1,.slice A l.length c] W:=by
    subst hFL;rw[<-dU.out] at f3;rw[<-lV.out] at f17;refine⟨rfl,fun j v m hv hl=>?_⟩;rcases j with _|_|_|_|_|_|j
    ·cases hv;cases hl;exact Bys.lit (l:=[UInt8.ofNat k]) f3 (by simp[maxLen])
    ·cases hv;cases hl;exact f7
    ·cases hv;cases hl;exact f11
    ·cases hv;cases hl;exact(bU.below hW).more hW.size
    ·cases hv;cases hl;exact Bys.lit (l:=[UInt8.ofNat l.length]) f17 (by simp[maxLen])
    ·cases hv;cases hl;exact(h.out.below (Ext.trans x3 hW)).more (Ext.trans x3 hW).size
    ·simp at hv
   refine Xh (cs:=#[.slice (some ⟨p3,0,none⟩) 1 1,.slice A7 4 c7,.slice A11 4 c11,.slice A2 2 c2,.slice (some ⟨p17,0,none⟩) 1 1,.slice A l.length c]) ?_ hW.size rfl ?_
   ·go_simp
   ·exact vR.stable _ _ _ _ (zN _ _) hR
  simp only[Act.put,qf,qc,qg,qX,Qq,zA,zB,zC];refine QD (YQ w3.heap.size (12+l.length) FL.flatten) zA0 zA0 (fun W hW hp=>?_) (fun p21=>?_)
  ·obtain⟨_,cs,dA,aF,hR⟩:=(hp 20 zD).1;have hFn:FL.length=6:=by rw[<-hFL];rfl
   refine QX ?_ ((kZ (some ⟨p20,0,none⟩) 6 6 cs.toList FL (by simpa using dA) hFn W (Rd.row aF 6 dA) (fun i v l h1 h2=>hR.2 i v l h1 h2) zO (by rw[HL.out];omega)).mono fun e w' h=>?_)
   ·go_simp
   rw[HL.out] at h;exact Xr h hW.size
  obtain⟨A21,c21⟩:=p21;refine zC0 ?_;refine Zm (hK _ _ fun W hW hF=>?_);obtain⟨f21,g21⟩:Bys W W.heap.size (.slice A21 (12+l.length) c21) FL.flatten/\Zu w3.heap.size (.slice A21 (12+l.length) c21):=(hF 21).1;clear hF hK hE;have x4:Ext w W:=x3.trans hW;dsimp only[List.drop];go_wp2;refine bodyPost_ret (v:=.tuple #[.slice A21 (12+l.length) c21,.int .i64 0]) (by simp[results,results203,go_sem]) rfl ⟨_,rfl,⟨_,rfl,A21,c21,rfl,f21,g21.mono (by have:=x3.size;omega)⟩,x4⟩
def Ks (n:Nat) (b:List UInt8):List UInt8:=b++List.replicate (n-b.length) 0
theorem KO {n:Nat} {b:List UInt8} (h:b.length<=n):(Ks n b).length=n:=by simp[Ks];omega
theorem pad_row (n:Nat) (b:List UInt8):List.take 0 (List.map bv (List.replicate n 0)).toArray.toList++List.map bv b++List.drop (0+b.length) (List.map bv (List.replicate n 0)).toArray.toList=(Ks n b).map bv:=by simp[Ks,List.map_replicate,List.drop_replicate]
end Go.Proofs.YtmeadnlmepcmbaaGreat
