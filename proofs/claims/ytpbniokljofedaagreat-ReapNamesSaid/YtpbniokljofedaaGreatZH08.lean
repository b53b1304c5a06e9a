/- Texts Span, Reach, Kids, CenW, Learn, joined. -/
import Derived.Maps.OwnOps
import Derived.Test.YtpbniokljofedaaGreatZH07
set_option linter.unusedSimpArgs false
set_option linter.unusedVariables false
set_option maxHeartbeats 8000000
open Go.Proofs.Tryz
namespace Go.Proofs.YtpbniokljofedaaGreat
open Go.RowKit
abbrev K3:Type:=Int×Int×Int
def qC (x:It):K3:=(x.k,x.i,x.o)
def QH (a b:K3):Bool:=VI a.1 a.2.1 a.2.2 b.1 b.2.1 b.2.2
def KP (one:It->Option (K3×K3)) (acc:Option (Option (K3×K3))) (y:It):Option (Option (K3×K3)):=
 match acc with
 |none=>none
 |some a=>match one y with
  |none=>none
  |some (f,l)=>if f=qC y then (match a with
    |none=>some (some (f,l))
    |some (f0,l0)=>if QH l0 f=true then some (some (f0,l)) else none) else none
def Vt (S:Sto):Nat->It->Option (K3×K3)
 |0,y=>if y.r=0\/0<(S.now[y.r.toNat]?.getD 0).toNat then some (qC y,qC y) else none
 |h+1,y=>if 8<=y.r/\y.r<256 then
   match qv S y.r.toNat with
   |none=>none
   |some (lvl,xs)=>if lvl=(h:Int) then (xs.foldl (KP (Vt S h)) (some none)).getD none else none
  else none
def Qg (S:Sto) (h:Nat) (xs:List It):Option (Option (K3×K3)):=xs.foldl (KP (Vt S h)) (some none)
def Vq (S:Sto) (h:Nat) (r:Int):Option (K3×K3):=if 8<=r/\r<256 then
   match qv S r.toNat with
   |none=>none
   |some (lvl,xs)=>if lvl=(h:Int) then (Qg S h xs).getD none else none
  else none
theorem Yf (S:Sto) (h:Nat) (y:It):Vt S (h+1) y=Vq S h y.r:=rfl
theorem vM {S:Sto} {h:Nat} {xs:List It} {k:Nat} (hk:k<xs.length):Qg S h (xs.take (k+1))=KP (Vt S h) (Qg S h (xs.take k)) xs[k]:=by unfold Qg;rw[List.take_succ_eq_append_getElem hk,List.foldl_append];rfl
theorem qeG (one:It->Option (K3×K3)) (xs:List It):xs.foldl (KP one) none=none:=by
 induction xs with
 |nil=>rfl
 |cons x r ih=>exact ih
theorem qbf {S:Sto} {h:Nat} {xs:List It} {k:Nat} (hb:Qg S h (xs.take k)=none):Qg S h xs=none:=by unfold Qg at *;rw[<-List.take_append_drop k xs,List.foldl_append,hb,qeG]
theorem qfy {S:Sto} {h:Nat}:∀ {xs:List It},(∃ p,Qg S h xs=some (some p))->xs≠[]:=by rintro xs ⟨p,hp⟩ rfl;cases hp
theorem Zw {S:Sto} {h:Nat} {xs:List It} {k:Nat} (hk:0<k) (hl:k<=xs.length):Qg S h (xs.take k)≠some none:=by
 obtain⟨j,rfl⟩:∃ j,k=j+1:=⟨k-1,zO⟩
 rw[vM zO];unfold KP;intro h;split at h
 ·cases h
 ·split at h
  ·cases h
  ·split at h
   ·split at h
    ·cases h
    ·split at h <;> cases h
   ·cases h
abbrev jA (lvl:Int) (A:Option Addr) (n c:Nat) (f l:K3) (b:Bool):Array Value:=#[.int .i64 lvl,.slice A n c,.int .u8 f.1,.int .u32 f.2.1,.int .u32 f.2.2,.int .u8 l.1,.int .u32 l.2.1,.int .u32 l.2.2,.bool b]
abbrev ZT (lvl:Int) (A:Option Addr) (n c:Nat) (f l:K3) (b:Bool):Value:=.agg (jA lvl A n c f l b)
def JQ (S:Sto) (h:Nat) (xs:List It) (f l:K3) (b:Bool):Prop:=b=(Qg S h xs).isSome/\∀ p,Qg S h xs=some (some p)->(f,l)=p
def YH (S:Sto) (lo:Nat) (w:World) (f:Int->Option Value) (a:Int) (v:Value):Prop:=
 ∃ (n:Nat) (lvl:Nat) (xs:List It) (A:Option Addr) (c:Nat) (fk lk:K3) (b:Bool),a=(n:Int)/\8<=n/\n<256/\qv S n=some ((lvl:Int),xs)/\v=ZT lvl A xs.length c fk lk b /\
  Zt lo w (.slice A xs.length c) xs/\JQ S lvl xs fk lk b/\(b=true->0<lvl->∀ y∈xs,(f y.r).isSome=true)
def qaE (S:Sto) (lo:Nat) (w:World) (f:Int->Option Value):Prop:=∀ a v,f a=some v->YH S lo w f a v
theorem YH.keep {S:Sto} {lo lo':Nat} {w w':World} {f g:Int->Option Value} {a:Int} {v:Value} (h:YH S lo w f a v) (hl:lo'<=lo) (hs:w.heap.size<=w'.heap.size) (hk:∀ q:Addr,lo<=q.block->q.block<w.heap.size->w'.cell? q=w.cell? q) (hf:∀ r,(f r).isSome=true->(g r).isSome=true):YH S lo' w' g a v:=by
 obtain⟨n,lvl,xs,A,c,fk,lk,b,h1,h2,h3,h4,h5,h6,h7,h8⟩:=h;exact⟨n,lvl,xs,A,c,fk,lk,b,h1,h2,h3,h4,h5,(h6.keep hs hk).mono hl,h7,fun x y z t=>hf _ (h8 x y z t)⟩
def Je (f g:Int->Option Value):Prop:=∀ a v,f a=some v->g a=some v
theorem Je.refl (f:Int->Option Value):Je f f:=fun _ _ h=>h
theorem Je.trans {f g h:Int->Option Value} (x:Je f g) (y:Je g h):Je f h:=fun a v e=>y a v (x a v e)
structure CP where
 S:Sto
 sb:Nat
 lo:Nat
 cb:Nat
 bb:Nat
 mb:Nat
 ca:Array Value
 v1:Value
 v2:Value
 v3:Value
 v4:Value
 u1:Value
 u2:Value
 u3:Value
 u4:Value
structure Cen (p:CP) (w:World) (f:Int->Option Value):Prop where
 row:w.heap[p.cb]?=some (.cells p.ca 84 (0,0))
 c0:p.ca[0]?=some p.v1
 c1:p.ca[1]?=some p.v2
 c2:p.ca[2]?=some p.v3
 c3:p.ca[3]?=some p.v4
 c4:p.ca[4]?=some (.pointer (some ⟨p.bb,0,none⟩))
 c5:p.ca[5]?=some (.map (some p.mb))
 map:QU w p.mb f
 known:qaE p.S p.lo w f
 sto:qX w p.sb p.v1 p.v2 p.v3 p.v4 p.S
 on:w.heap[p.bb]?=some (.cells #[p.u1,p.u2,p.u3,p.u4] 191 (0,0))
 onb:Bls w p.sb p.u1 p.S.bs
 onw:Wrs w p.sb p.u2 p.S.ws
 onl:Bys w p.sb p.u4 p.S.last
 onn:Bys w w.heap.size p.u3 p.S.now
 onf:∀ A n c,p.u3=.slice (some A) n c->A.block≠p.cb
 low:p.cb<p.lo/\p.bb<p.lo/\p.mb<p.lo/\p.cb≠p.mb/\p.bb≠p.mb/\p.lo<=w.heap.size/\p.sb<=p.cb/\p.sb<=p.bb/\p.sb<=p.mb/\p.cb≠p.bb
 may:qm p.S=true
theorem Cen.onB {p:CP} {w:World} {f:Int->Option Value} (h:Cen p w f):OnB 0 p.bb p.u1 p.u2 p.u3 p.u4 p.S w:=by have hl:=h.low;exact⟨Nat.zero_le _,h.on,h.onb.more zO,h.onw.more zO,h.onn,h.onl.more zO⟩
theorem Bls.keep {w w':World} {B:Nat} {v:Value} {bs:List (List UInt8)} (h:Bls w B v bs) (hk:∀ q:Addr,q.block<B->w'.cell? q=w.cell? q):Bls w' B v bs:=by obtain⟨vs,A,c,e,h1,h2,h3,h4⟩:=h;exact⟨vs,A,c,e,h1,h2,h3.keep hk,fun i u l hu hl=>(h4 i u l hu hl).keep hk⟩
theorem Wrs.keep {w w':World} {B:Nat} {v:Value} {ws:List (Int×List UInt8)} (h:Wrs w B v ws) (hk:∀ q:Addr,q.block<B->w'.cell? q=w.cell? q):Wrs w' B v ws:=by obtain⟨ps,e,⟨A,c,e1,e2,e3,hr⟩,hp⟩:=h;exact⟨ps,e,⟨A,c,e1,e2,e3,hr.keep hk⟩,fun p h=>⟨(hp p h).1,(hp p h).2.keep hk⟩⟩
theorem qX.keep {w w':World} {B:Nat} {v1 v2 v3 v4:Value} {S:Sto} (h:qX w B v1 v2 v3 v4 S) (hk:∀ q:Addr,q.block<B->w'.cell? q=w.cell? q):qX w' B v1 v2 v3 v4 S:=⟨h.bs.keep hk,h.ws.keep hk,h.now.keep hk,h.last.keep hk⟩
theorem js {w w':World} {mb:Nat} {f g:Int->Option Value} (h:QU w mb f) (h':QU w' mb g) (hg:w.grownBy w' (some mb)):∀ q:Addr,q.block<w.heap.size->w'.cell? q=w.cell? q:=by
 intro q hq;by_cases hm:q.block=mb
 ·obtain⟨es,c,e1,_⟩:=h;obtain⟨es',c',e2,_⟩:=h';simp[World.cell?,hm,e1,e2]
 ·exact World.cell?_of_block (hg.block q.block hq (fun e=>hm (by simpa using e)))
theorem qaE.keep {S:Sto} {lo:Nat} {w w':World} {f:Int->Option Value} (h:qaE S lo w f) (hs:w.heap.size<=w'.heap.size) (hk:∀ q:Addr,q.block<w.heap.size->w'.cell? q=w.cell? q):qaE S lo w' f:=
 fun a v hv=>(h a v hv).keep (zM _) hs (fun q _ hq=>hk q hq) (fun _ h=>h)
theorem Je.some_ {f g:Int->Option Value} (h:Je f g) (r:Int) (hr:(f r).isSome=true):(g r).isSome=true:=by obtain⟨v,hv⟩:=Option.isSome_iff_exists.1 hr;rw[h r v hv];rfl
theorem Cen.ext {p:CP} {w w':World} {f:Int->Option Value} (h:Cen p w f) (hx:Ext w w'):Cen p w' f where
 row:=qb h.row hx
 c0:=h.c0
 c1:=h.c1
 c2:=h.c2
 c3:=h.c3
 c4:=h.c4
 c5:=h.c5
 map:=h.map.of_heap (hx.block _ (by have:=h.low;omega))
 known:=h.known.keep hx.size fun q hq=>Below.cell hx hq
 sto:=h.sto.keep fun q hq=>Below.cell hx (by have:=h.low;omega)
 on:=qb h.on hx
 onb:=h.onb.keep fun q hq=>Below.cell hx (by have:=h.low;omega)
 onw:=h.onw.keep fun q hq=>Below.cell hx (by have:=h.low;omega)
 onl:=h.onl.keep fun q hq=>Below.cell hx (by have:=h.low;omega)
 onn:=(h.onn.below hx).more hx.size
 onf:=h.onf
 low:=by have:=h.low;have:=hx.size;omega
 may:=h.may
def GZ (S:Sto) (w:World) (f g:Int->Option Value) (w':World):Prop:=∀ a v,g a=some v->f a=none->YH S w.heap.size w' g a v
theorem Cen.after {p:CP} {w w':World} {f g:Int->Option Value} (h:Cen p w f) (bV:Je f g) (hm:QU w' p.mb g) (hg:w.grownBy w' (some p.mb)) (hn:GZ p.S w f g w'):Cen p w' g where
 row:=(hg.block _ (by have:=h.low;omega) (fun e=>by have:=h.low;simp at e;omega)).trans h.row
 c0:=h.c0
 c1:=h.c1
 c2:=h.c2
 c3:=h.c3
 c4:=h.c4
 c5:=h.c5
 map:=hm
 known:=by
  intro a v hv;rcases hf:f a with _|u
  ·exact(hn a v hv hf).keep (by have:=h.low;omega) (zM _) (fun _ _ _=>rfl) (fun _ h=>h)
  ·have:=bV a u hf;rw[hv] at this;cases this;exact(h.known a v hf).keep (zM _) hg.size (fun q _ hq=>js h.map hm hg q hq) bV.some_
 sto:=h.sto.keep fun q hq=>js h.map hm hg q (by have:=h.low;omega)
 on:=(hg.block _ (by have:=h.low;omega) (fun e=>by have:=h.low;simp at e;omega)).trans h.on
 onb:=h.onb.keep fun q hq=>js h.map hm hg q (by have:=h.low;omega)
 onw:=h.onw.keep fun q hq=>js h.map hm hg q (by have:=h.low;omega)
 onl:=h.onl.keep fun q hq=>js h.map hm hg q (by have:=h.low;omega)
 onn:=(h.onn.keep (js h.map hm hg)).more hg.size
 onf:=h.onf
 low:=by have:=h.low;have:=hg.size;omega
 may:=h.may
def okL (S:Sto) (L r:Int):Bool:=
 if 8<=r/\r<256 then
  match qv S r.toNat with
  |none=>false
  |some (lvl,xs)=>(Qg S lvl.toNat xs).isSome && (decide (L<0) || (decide (lvl=L) && decide (xs.length≠0)))
 else false
def UG (p:CP) (L r:Int) (v:Value) (f:Int->Option Value):Prop:=∃ (lvl:Int) (A:Option Addr) (n c:Nat) (fk lk:K3),v=ZT lvl A n c fk lk (okL p.S L r)/\(okL p.S L r=true->f r=some v)
def qcq (p:CP) (h:Nat) (A:Option Addr) (c:Nat) (xs:List It) (v:Value) (f:Int->Option Value):Prop:=∃ (fk lk:K3) (b:Bool),v=ZT h A xs.length c fk lk b/\JQ p.S h xs fk lk b/\(b=true->0<h->∀ y∈xs,(f y.r).isSome=true)
def YJ (p:CP) (f:Int->Option Value) (φ:Value->(Int->Option Value)->Prop) (w:World) (e:Ending) (w':World):Prop:=∃ v g,e=.returned v/\φ v g/\Je f g/\QU w' p.mb g/\w.grownBy w' (some p.mb)/\GZ p.S w f g w'
def ReadC (p:CP) (h:Nat):Prop:=∀ (xs:List It) (A:Option Addr) (c:Nat) (w:World) (f:Int->Option Value),Qc h xs=true->(∀ x∈xs,jq x/\itB x.r x.val.length=true)->Zt p.lo w (.slice A xs.length c) xs->Cen p w f ->
 Calls prog 134 #[.pointer (some ⟨p.cb,0,none⟩),jd h A xs.length c] w (YJ p f (qcq p h A c xs) w)
def qel (p:CP) (L:Int):Prop:=∀ (r:Int) (w:World) (f:Int->Option Value),Cen p w f ->
 Calls prog 84 #[.pointer (some ⟨p.cb,0,none⟩),.int .i64 r,.int .i64 L] w (YJ p f (UG p L r) w)
section
variable {P:Program} (w:World) {ops:Array Oper} {rest:List Oper} {o:Oper} {a:Act} {Q:Exit->Act->World->Prop}
theorem Vl (hg:o.guard=none) (m x:Operand) (t:TypeId) (dY:o.op=Op.lookup t m x true) {k e:TypeId} {z:Value} (ht:P.underlying t=some (.map k e)) (hk:P.underlying k=some (.int .i64)) (hz:(zeroValue e).run P w=.ok z w) {mb:Nat} {f:Int->Option Value} {r:Int} (hm:a.eval m=.map (some mb)) (hx:a.eval x=.int .i64 r) (h:QU w mb f) (hK:wpList P ops Q rest (a.put o.dst (.tuple #[(f r).getD z,.bool (f r).isSome])) w):wpList P ops Q (o :: rest) a w:=by
 refine wpList_plain hg fun K' hK'=>?_;unfold Oper.wp;simp[execOp,dY,hm,hx,qav h t k e z ht hk hz r,Result.andThen];exact hK' _ _ hK
theorem jf (hg:o.guard=none) (m x y:Operand) (t:TypeId) (dY:o.op=Op.mapUpdate t m x y) {k e:TypeId} (ht:P.underlying t=some (.map k e)) (hk:P.underlying k=some (.int .i64)) {mb:Nat} {f:Int->Option Value} {r:Int} {v:Value} (hm:a.eval m=.map (some mb)) (hx:a.eval x=.int .i64 r) (hy:a.eval y=v) (h:QU w mb f) (hK:∀ w',QU w' mb (fun b=>if b=r then some v else f b)->w.grownBy w' (some mb)->wpList P ops Q rest (a.put o.dst undef) w'):wpList P ops Q (o :: rest) a w:=by
 refine wpList_plain hg fun K' hK'=>?_;obtain⟨w',aj,h1,h2⟩:=Tr h t k e ht hk r v;unfold Oper.wp;simp[execOp,dY,hm,hx,hy,aj,Result.andThen];exact hK' _ _ (hK w' h1 h2)
end
theorem GZ.refl (S:Sto) (w:World) (f:Int->Option Value) (w':World):GZ S w f f w':=fun a v h1 h2=>by rw[h1] at h2;cases h2
theorem YJ.same {p:CP} {f:Int->Option Value} {φ:Value->(Int->Option Value)->Prop} {w w':World} {v:Value} (h:Cen p w f) (hx:Ext w w') (hφ:φ v f):YJ p f φ w (.returned v) w':=
 ⟨v,f,rfl,hφ,Je.refl _,(h.ext hx).map,zv hx _,GZ.refl _ _ _ _⟩
theorem qgS {p:CP} {f g:Int->Option Value} {φ:Value->(Int->Option Value)->Prop} {w w5 w6 W:World} {a:Nat} {lvl:Nat} {xs:List It} {A:Option Addr} {c:Nat} {fk lk:K3} {b:Bool} {u:Value} (hfa:f a=none) (h5:Ext w w5) (hlt:w.heap.size<w5.heap.size) (bV:Je f g) (hg6:w5.grownBy w6 (some p.mb)) (hn:GZ p.S w5 f g w6) (hm:QU W p.mb (fun r=>if r=(a:Int) then some (ZT lvl A xs.length c fk lk b) else g r)) (hgW:w.grownBy W (some p.mb)) (hsW:w6.heap.size<=W.heap.size) (hk:∀ q:Addr,w.heap.size<q.block->q.block<w6.heap.size->W.cell? q=w6.cell? q) (ha:8<=a) (bK:a<256) (hnode:qv p.S a=some ((lvl:Int),xs)) (aG:Zt (w.heap.size+1) w6 (.slice A xs.length c) xs) (aW:JQ p.S lvl xs fk lk b) (bH:b=true->0<lvl->∀ y∈xs,(g y.r).isSome=true) (hφ:φ u (fun r=>if r=(a:Int) then some (ZT lvl A xs.length c fk lk b) else g r)):YJ p f φ w (.returned u) W:=by
 have hs:∀ r:Int,(g r).isSome=true->((fun r=>if r=(a:Int) then some (ZT lvl A xs.length c fk lk b) else g r) r).isSome=true:=by
  intro r hr;show (if r=(a:Int) then some (ZT lvl A xs.length c fk lk b) else g r).isSome=true;split
  ·rfl
  ·exact hr
 refine⟨u,_,rfl,hφ,fun r v hr=>?_,hm,hgW,fun r v hv hr=>?_⟩
 ·show (if r=(a:Int) then some (ZT lvl A xs.length c fk lk b) else g r)=some v;rw[if_neg (fun e=>by rw[e,hfa] at hr;cases hr)];exact bV r v hr
 ·have hv':(if r=(a:Int) then some (ZT lvl A xs.length c fk lk b) else g r)=some v:=hv;by_cases hra:r=(a:Int)
  ·rw[if_pos hra] at hv';cases hv';exact⟨a,lvl,xs,A,c,fk,lk,b,hra,ha,bK,hnode,rfl,(aG.keep hsW (fun q h1 h2=>hk q zO h2)).mono zO,aW,fun x y z t=>hs _ (bH x y z t)⟩
  ·rw[if_neg hra] at hv';exact(hn r v hv' hr).keep (Nat.le_of_lt hlt) hsW (fun q h1 h2=>hk q zO h2) hs
theorem Qb {S:Sto} {a:Nat} {lvl:Int} {xs:List It} (h:qv S a=some (lvl,xs)):Qc lvl xs=true/\(∀ x∈xs,jq x/\itB x.r x.val.length=true)/\0<=lvl:=by
 unfold qv at h;split at h
 ·cases h
 ·unfold QD at h;split at h
  ·split at h
   ·cases h
   ·rename_i xs' r hr;split at h
    ·rename_i hm;simp only[Option.some.injEq,Prod.mk.injEq] at h;obtain⟨rfl,rfl⟩:=h;exact⟨hm.1,(Xs hr).2,zO⟩
    ·cases h
  ·cases h
end Go.Proofs.YtpbniokljofedaaGreat
namespace Go.Proofs.YtpbniokljofedaaGreat

inductive Rch (ks:Nat->List Nat) (R:Nat->Prop):Nat->Prop
 |base {a:Nat}:R a->Rch ks R a
 |step {a b:Nat}:Rch ks R a->b∈ks a->Rch ks R b
theorem Rch.mono {ks:Nat->List Nat} {R R':Nat->Prop} (h:∀ a,R a->R' a) {a:Nat} (x:Rch ks R a):Rch ks R' a:=by
 induction x with
 |base r=>exact .base (h _ r)
 |step _ hb ih=>exact .step ih hb
theorem Rch.closed {ks:Nat->List Nat} {R M:Nat->Prop} (h:∀ a,R a->M a) (hc:∀ a,M a->∀ b∈ks a,M b) {a:Nat} (x:Rch ks R a):M a:=by
 induction x with
 |base r=>exact h _ r
 |step _ hb ih=>exact hc _ ih _ hb
def Kz (M:Nat->Bool) (a:Nat):Nat->Bool:=fun b=>if b=a then true else M b
def Tq (rs:Nat->List Nat) (M:Nat->Bool) (b:Nat):Nat->Nat
 |0=>0
 |n+1=>Tq rs M b n+if M n=true then (rs n).count b else 0
def JL (M:Nat->Bool):Nat->Nat
 |0=>0
 |n+1=>JL M n+if M n=true then 0 else 1
theorem Uf {M M':Nat->Bool}:∀ n,(∀ a,a<n->M a=M' a)->JL M n=JL M' n
 |0,_=>rfl
 |n+1,h=>by unfold JL;rw[Uf n fun a ha=>h a zO,h n zO]
theorem qbe {rs:Nat->List Nat} {M:Nat->Bool} {a b:Nat} (h:M a=false):∀ n,Tq rs (Kz M a) b n=Tq rs M b n+if a<n then (rs a).count b else 0
 |0=>rfl
 |n+1=>by
  unfold Tq;rw[qbe h n];by_cases hn:n=a
  ·subst hn;simp[Kz,h]
  ·simp only[Kz,if_neg hn];by_cases ha:a<n
   ·rw[if_pos ha,if_pos (show a<n+1 by omega)];omega
   ·rw[if_neg ha,if_neg (show ¬a<n+1 by omega)];omega
theorem Xf {M:Nat->Bool} {a:Nat} (h:M a=false):∀ n,JL (Kz M a) n+(if a<n then 1 else 0)=JL M n
 |0=>rfl
 |n+1=>by
  have hi:=Xf h n;show JL (Kz M a) n+(if (if n=a then true else M n)=true then 0 else 1)+(if a<n+1 then 1 else 0)=JL M n+if M n=true then 0 else 1
  by_cases hn:n=a
  ·rw[<-hn] at h hi ⊢;rw[if_neg (Nat.lt_irrefl _)] at hi;rw[if_pos rfl,if_pos rfl,if_pos (Nat.lt_succ_self n),h,if_neg zA1];omega
  ·rw[if_neg hn];by_cases ha:a<n
   ·rw[if_pos ha] at hi;rw[if_pos (show a<n+1 by omega)];omega
   ·rw[if_neg ha] at hi;rw[if_neg (show ¬a<n+1 by omega)];omega
theorem qgi {rs:Nat->List Nat} {M:Nat->Bool} {b k:Nat}:∀ n,(∀ a,a<n->M a=true->(rs a).length<=k)->Tq rs M b n+k*JL M n<=k*n
 |0,_=>by simp[Tq,JL]
 |n+1,h=>by
  unfold Tq JL;have:=qgi (b:=b) n fun a ha=>h a zO;rw[Nat.mul_add,Nat.mul_add];split
  ·rename_i hm;have h1:=h n zO hm;have h2:=List.count_le_length (a:=b) (l:=rs n);omega
  ·omega
theorem GR (M:Nat->Bool):∀ n,JL M n<=n
 |0=>zM _
 |n+1=>by unfold JL;have:=GR M n;split <;> omega
structure JC (ks rs:Nat->List Nat) (R:List Nat) (M:Nat->Bool) (refs:Nat->Nat) (stack:List Nat):Prop where
 reach:∀ a,M a=true->Rch ks (· ∈ R) a
 stk:∀ a∈stack,Rch ks (· ∈ R) a
 root:∀ a∈R,M a=true\/a∈stack
 kids:∀ a,M a=true->∀ b∈ks a,M b=true\/b∈stack
 sum:∀ b,refs b=R.count b+Tq rs M b 256
theorem JC.nil {ks rs:Nat->List Nat} {M:Nat->Bool} {refs:Nat->Nat} (hM:∀ a,M a=false) (hr:∀ b,refs b=0):JC ks rs [] M refs []:=by
 have h0:∀ b n,Tq rs M b n=0:=fun b n=>by
  induction n with
  |zero=>rfl
  |succ n ih=>unfold Tq;rw[ih,hM];rfl
 have bQ:∀ a,M a=true->False:=fun a h=>by have:=hM a;rw[h] at this;cases this
 exact { reach:=fun a h=>(bQ a h).elim,stk:=fun a h=>(List.not_mem_nil h).elim,root:=fun a h=>(List.not_mem_nil h).elim,kids:=fun a h=>(bQ a h).elim,sum:=fun b=>by rw[hr,h0];rfl }
theorem JC.add {ks rs:Nat->List Nat} {R:List Nat} {M:Nat->Bool} {refs refs':Nat->Nat} (h:JC ks rs R M refs []) (r:Nat) (hr:∀ b,refs' b=refs b+if b=r then 1 else 0):JC ks rs (R++[r]) M refs' [r]:=by
 refine⟨fun a ha=>(h.reach a ha).mono fun _ x=>List.mem_append_left _ x,fun a ha=>.base (List.mem_append_right _ ha),fun a ha=>?_,fun a ha b hb=>.inl ((h.kids a ha b hb).elim id fun x=>(List.not_mem_nil x).elim),fun b=>?_⟩
 ·rcases List.mem_append.1 ha with ha|ha
  ·exact .inl ((h.root a ha).elim id fun x=>(List.not_mem_nil x).elim)
  ·exact .inr ha
 ·rw[hr,h.sum,List.count_append];have:[r].count b=if b=r then 1 else 0:=by
   rw[List.count_singleton];by_cases hb:b=r
   ·subst hb;simp
   ·rw[if_neg hb,if_neg zA2]
  omega
theorem JC.again {ks rs:Nat->List Nat} {R:List Nat} {M:Nat->Bool} {refs:Nat->Nat} {s:List Nat} {a:Nat} (h:JC ks rs R M refs (s++[a])) (ha:M a=true):JC ks rs R M refs s:=by
 have key:∀ b,M b=true\/b∈s++[a]->M b=true\/b∈s:=by
  rintro b (hb|hb)
  ·exact .inl hb
  ·rcases List.mem_append.1 hb with hb|hb
   ·exact .inr hb
   ·rw[List.mem_singleton.1 hb];exact .inl ha
 exact⟨h.reach,fun b hb=>h.stk b (List.mem_append_left _ hb),fun b hb=>key b (h.root b hb),fun c hc b hb=>key b (h.kids c hc b hb),h.sum⟩
theorem JC.new {ks rs:Nat->List Nat} {R:List Nat} {M:Nat->Bool} {refs refs':Nat->Nat} {s:List Nat} {a:Nat} (h:JC ks rs R M refs (s++[a])) (ha:M a=false) (hl:a<256) (hr:∀ b,refs' b=refs b+(rs a).count b):JC ks rs R (Kz M a) refs' (s++ks a):=by
 have hm:∀ b,M b=true->Kz M a b=true:=by
  intro b hb;unfold Kz;split
  ·rfl
  ·exact hb
 have hma:Kz M a a=true:=by simp[Kz]
 have hra:=h.stk a (List.mem_append_right _ (List.mem_singleton.2 rfl));have key:∀ b,M b=true\/b∈s++[a]->Kz M a b=true\/b∈s++ks a:=by
  rintro b (hb|hb)
  ·exact .inl (hm b hb)
  ·rcases List.mem_append.1 hb with hb|hb
   ·exact .inr (List.mem_append_left _ hb)
   ·rw[List.mem_singleton.1 hb];exact .inl hma
 refine⟨fun b hb=>?_,fun b hb=>?_,fun b hb=>key b (h.root b hb),fun c hc b hb=>?_,fun b=>?_⟩
 ·unfold Kz at hb;split at hb
  ·rename_i e;rw[e];exact hra
  ·exact h.reach b hb
 ·rcases List.mem_append.1 hb with hb|hb
  ·exact h.stk b (List.mem_append_left _ hb)
  ·exact .step hra hb
 ·unfold Kz at hc;split at hc
  ·rename_i e;rw[e] at hb;exact .inr (List.mem_append_right _ hb)
  ·exact key b (h.kids c hc b hb)
 ·rw[hr,h.sum,qbe ha,if_pos hl];omega
theorem JC.done {ks rs:Nat->List Nat} {R:List Nat} {M:Nat->Bool} {refs:Nat->Nat} (h:JC ks rs R M refs []) (a:Nat):M a=true↔Rch ks (· ∈ R) a:=
 ⟨h.reach a,fun x=>x.closed (fun a ha=>(h.root a ha).elim id fun x=>(List.not_mem_nil x).elim) fun a ha b hb=>(h.kids a ha b hb).elim id fun x=>(List.not_mem_nil x).elim⟩
structure jH (ks rs:Nat->List Nat) (R:List Nat) (M:Nat->Bool) (refs:Nat->Nat):Prop where
 reach:∀ a,M a=true->Rch ks (· ∈ R) a
 root:∀ a∈R,M a=true
 kids:∀ a,M a=true->∀ b∈ks a,M b=true
 sum:∀ b,refs b=R.count b+Tq rs M b 256
theorem jH.walk {ks rs:Nat->List Nat} {R:List Nat} {M:Nat->Bool} {refs:Nat->Nat}:jH ks rs R M refs↔JC ks rs R M refs []:=
 ⟨fun h=>⟨h.reach,fun _ ha=>(List.not_mem_nil ha).elim,fun a ha=>.inl (h.root a ha),fun a ha b hb=>.inl (h.kids a ha b hb),h.sum⟩,
  fun h=>⟨h.reach,fun a ha=>(h.root a ha).elim id fun x=>(List.not_mem_nil x).elim,fun a ha b hb=>(h.kids a ha b hb).elim id fun x=>(List.not_mem_nil x).elim,h.sum⟩⟩
theorem jH.same {ks rs:Nat->List Nat} {R:List Nat} {M M':Nat->Bool} {r r':Nat->Nat} (h:jH ks rs R M r) (h':jH ks rs R M' r'):M=M'/\r=r':=by
 have e:M=M':=by funext a;have h1:=(jH.walk.1 h).done a;have h2:=(jH.walk.1 h').done a;exact Bool.eq_iff_iff.2 (h1.trans h2.symm)
 refine⟨e,?_⟩;funext b;rw[h.sum,h'.sum,e]
end Go.Proofs.YtpbniokljofedaaGreat
namespace Go.Proofs.YtpbniokljofedaaGreat
open Go.RowKit
def vJ (S:Sto) (a:Nat):List Nat:=match qv S a with
 |none=>[]
 |some (_,xs)=>(xs.map fun y=>y.r.toNat).filter fun r=>r != 0
def vE (S:Sto) (a:Nat):List Nat:=match qv S a with
 |none=>[]
 |some (lvl,_)=>if 0<lvl then vJ S a else []
def kV (S:Sto) (a:Nat):Prop:=8<=a/\a<256/\∃ (lvl:Nat) (xs:List It),qv S a=some ((lvl:Int),xs)/\(Qg S lvl xs).isSome=true
theorem KC {S:Sto} {r:Int} (h:okL S (-1) r=true):∃ a:Nat,r=(a:Int)/\kV S a:=by
 unfold okL at h;split at h
 ·rename_i hr;obtain⟨a,rfl⟩:=Int.eq_ofNat_of_zero_le (show 0<=r by omega);refine⟨a,rfl,zO,zO,?_⟩;rw[Int.toNat_natCast] at h;rcases hn:qv S a with _|⟨lvl,xs⟩
  ·rw[hn] at h;cases h
  ·rw[hn] at h;obtain⟨-,-,h0⟩:=Qb hn;obtain⟨l,rfl⟩:=Int.eq_ofNat_of_zero_le h0;simp only[Int.toNat_natCast,Bool.and_eq_true] at h;exact⟨l,xs,rfl,h.1⟩
 ·cases h
theorem qaJ (one:It->Option (K3×K3)):∀ (xs:List It) (a:Option (Option (K3×K3))),(xs.foldl (KP one) a).isSome=true->a.isSome=true/\∀ y∈xs,(one y).isSome=true
 | [],a,h=>⟨h,fun _ hy=>(List.not_mem_nil hy).elim⟩
 |x :: r,a,h=>by
  obtain⟨h1,h2⟩:=qaJ one r _ h;unfold KP at h1;rcases a with _|a
  ·cases h1
  ·rcases hx:one x with _|q
   ·rw[hx] at h1;cases h1
   ·refine⟨rfl,fun y hy=>?_⟩;rcases List.mem_cons.1 hy with rfl|hy
    ·rw[hx];rfl
    ·exact h2 y hy
theorem JK {S:Sto} {h:Nat} {xs:List It} (hs:(Qg S h xs).isSome=true):∀ y∈xs,(Vt S h y).isSome=true:=(qaJ _ xs _ hs).2
theorem Ja {S:Sto} {h:Nat} {y:It} (hy:(Vt S (h+1) y).isSome=true):∃ b:Nat,y.r=(b:Int)/\8<=b/\b<256/\∃ xs,qv S b=some ((h:Int),xs)/\(Qg S h xs).isSome=true:=by
 rw[Yf] at hy;unfold Vq at hy;split at hy
 ·rename_i hr;obtain⟨b,hb⟩:=Int.eq_ofNat_of_zero_le (show 0<=y.r by omega);rw[hb,Int.toNat_natCast] at hy;refine⟨b,hb,zO,zO,?_⟩;rcases hn:qv S b with _|⟨lvl,xs⟩
  ·rw[hn] at hy;cases hy
  ·rw[hn] at hy;simp only at hy;split at hy
   ·rename_i hl;refine⟨xs,by rw[hl],?_⟩;rcases hs:Qg S h xs with _|q
    ·rw[hs] at hy;cases hy
    ·rfl
   ·cases hy
 ·cases hy
theorem qdl {S:Sto} {a b lvl:Nat} {xs:List It} (hn:qv S a=some ((lvl:Int),xs)) (hb:b∈vE S a):0<lvl/\∃ y∈xs,b=y.r.toNat/\b≠0:=by
 unfold vE at hb;rw[hn] at hb;simp only at hb;split at hb
 ·unfold vJ at hb;rw[hn] at hb;simp only[List.mem_filter,List.mem_map,bne_iff_ne,ne_eq] at hb;obtain⟨⟨y,hy,rfl⟩,h0⟩:=hb;exact⟨zO,y,hy,rfl,h0⟩
 ·cases hb
theorem qgQ {S:Sto} {a b:Nat} (h:kV S a) (hb:b∈vE S a):kV S b:=by
 obtain⟨h1,h2,lvl,xs,h3,h4⟩:=h;obtain⟨h5,y,hy,rfl,-⟩:=qdl h3 hb;obtain⟨l,rfl⟩:∃ l,lvl=l+1:=⟨lvl-1,zO⟩
 obtain⟨b,e,h6,h7,ys,h8,h9⟩:=Ja (JK h4 y hy);rw[e,Int.toNat_natCast];exact⟨h6,h7,l,ys,h8,h9⟩
theorem qdL {S:Sto} {a:Nat}:(vJ S a).length<=5:=by
 unfold vJ;rcases hn:qv S a with _|⟨lvl,xs⟩
 ·simp
 ·have h:=(Qb hn).1;unfold Qc jv at h;simp at h;simp only;refine Nat.le_trans (List.length_filter_le _ _) ?_;rw[List.length_map];omega
theorem qgR {S:Sto} {lo:Nat} {w:World} {f:Int->Option Value} (hk:qaE S lo w f) {a b:Nat} (h:kV S a) (hf:(f (a:Int)).isSome=true) (hb:b∈vE S a):(f (b:Int)).isSome=true:=by
 obtain⟨h1,h2,lvl,xs,h3,h4⟩:=h;obtain⟨v,hv⟩:=Option.isSome_iff_exists.1 hf;obtain⟨n,lvl',xs',A,c,fk,lk,b',e,-,-,h5,-,-,h6,h7⟩:=hk _ _ hv;obtain rfl:a=n:=zO;rw[h3,Option.some.injEq,Prod.mk.injEq] at h5;obtain⟨e1,rfl⟩:=h5;obtain rfl:lvl=lvl':=zO;obtain⟨h0,y,hy,rfl,hz⟩:=qdl h3 hb;have:=h7 (by rw[h6.1,h4]) h0 y hy
 rwa [show ((y.r.toNat:Nat):Int)=y.r by omega]
theorem Bys.keepF {w w':World} {B:Nat} {v:Value} {l:List UInt8} (h:Bys w B v l) (hk:∀ q:Addr,q.block<B->(∃ A n c,v=.slice (some A) n c/\q.block=A.block)->w'.cell? q=w.cell? q):Bys w' B v l:=by obtain⟨A,c,e,hc,hm,hr⟩:=h;refine⟨A,c,e,hc,hm,hr.1,fun hn=>?_⟩;obtain⟨b,off,hA,hb,aF⟩:=hr.2 hn;exact⟨b,off,hA,hb,fun j u hu=>(hk ⟨b,off+j,none⟩ hb ⟨⟨b,off,none⟩,_,c,by rw[e,hA],rfl⟩).trans (aF j u hu)⟩
structure Off (B cb:Nat) (w w':World):Prop where
 os:w'.os=w.os
 tape:w'.tape=w.tape
 output:w'.output=w.output
 size:B<=w'.heap.size
 block:∀ k,k<B->k≠cb->w'.heap[k]?=w.heap[k]?
theorem Off.refl {B cb:Nat} {w:World} (h:B<=w.heap.size):Off B cb w w:=⟨rfl,rfl,rfl,h,fun _ _ _=>rfl⟩
theorem Off.cell {B cb:Nat} {w w':World} (h:Off B cb w w') {q:Addr} (hq:q.block<B) (hc:q.block≠cb):w'.cell? q=w.cell? q:=World.cell?_of_block (h.block _ hq hc)
theorem Off.setCell {B cb:Nat} {w w':World} (h:Off B cb w w') {p:Addr} (hp:p.block=cb\/B<=p.block) (u:Value):Off B cb w (w'.setCell p u):=
 ⟨h.os,h.tape,h.output,by simpa using h.size,fun k hk hc=>(zJ _ _ _ _ (fun e=>zO)).trans (h.block k hk hc)⟩
theorem Off.grown {B cb:Nat} {w w' w'':World} {row:Option Nat} (h:Off B cb w w') (hg:w'.grownBy w'' row) (hr:∀ g,row=some g->g=cb\/B<=g):Off B cb w w'':=
 ⟨hg.os.trans h.os,hg.tape.trans h.tape,hg.output.trans h.output,Nat.le_trans h.size hg.size,fun k hk hc=>(hg.block k (Nat.lt_of_lt_of_le hk h.size) (fun e=>by rcases hr k e.symm with e|e <;> omega)).trans (h.block k hk hc)⟩
abbrev CP.put (p:CP) (ca:Array Value):CP:={ p with ca:=ca }
theorem Cen.put {p:CP} {w w':World} {f:Int->Option Value} (h:Cen p w f) {B:Nat} (hB:w.heap.size=B) (hO:Off B p.cb w w') {ca:Array Value} (hr:w'.heap[p.cb]?=some (.cells ca 84 (0,0))) (hc:∀ i,i<6->ca[i]?=p.ca[i]?):Cen (p.put ca) w' f:=by
 subst hB;have hl:=h.low;have hk:∀ q:Addr,q.block<p.sb->w'.cell? q=w.cell? q:=fun q hq=>hO.cell zO zO;exact {
  row:=hr
  c0:=(hc 0 zO).trans h.c0
  c1:=(hc 1 zO).trans h.c1
  c2:=(hc 2 zO).trans h.c2
  c3:=(hc 3 zO).trans h.c3
  c4:=(hc 4 zO).trans h.c4
  c5:=(hc 5 zO).trans h.c5
  map:=h.map.of_heap (hO.block p.mb zO zO)
  known:=fun a v hv=>(h.known a v hv).keep (zM _) hO.size (fun q h1 h2=>hO.cell h2 (show q.block≠p.cb by omega)) (fun _ h=>h)
  sto:=h.sto.keep hk
  on:=(hO.block p.bb zO zO).trans h.on
  onb:=h.onb.keep hk
  onw:=h.onw.keep hk
  onl:=h.onl.keep hk
  onn:=(h.onn.keepF fun q hq ⟨A,n,c,e,e'⟩=>hO.cell hq (by rw[e'];exact h.onf A n c e)).more hO.size
  onf:=h.onf
  low:=⟨hl.1,hl.2.1,hl.2.2.1,hl.2.2.2.1,hl.2.2.2.2.1,Nat.le_trans hl.2.2.2.2.2.1 hO.size,hl.2.2.2.2.2.2⟩
  may:=h.may }
theorem Tryz.info_span:(Tryz.prog.info? 135).map (fun i=>(i.zero,i.size,i.bytes))=some (some (ZT 0 none 0 0 (0,0,0) (0,0,0) false),9,64):=zQ
theorem qhw (w:World):(zeroValue 135).run prog w=.ok (ZT 0 none 0 0 (0,0,0) (0,0,0) false) w:=by obtain⟨i0,hi,aX,_,_⟩:=info_parts Tryz.info_span;simp[zeroValue,typeInfo,hi,aX]
theorem set9 {cs:Array Value} (hs:cs.size=9) (x0 x1 x2 x3 x4 x5 x6 x7 x8:Value) : ((((((((cs.setIfInBounds 0 x0).setIfInBounds 1 x1).setIfInBounds 2 x2).setIfInBounds 3 x3).setIfInBounds 4 x4).setIfInBounds 5 x5).setIfInBounds 6 x6).setIfInBounds 7 x7).setIfInBounds 8 x8=#[x0,x1,x2,x3,x4,x5,x6,x7,x8]:=by
 apply Array.ext_getElem?;intro j;by_cases hj:j<9
 ·have:j=0\/j=1\/j=2\/j=3\/j=4\/j=5\/j=6\/j=7\/j=8:=zO;rcases this with rfl|rfl|rfl|rfl|rfl|rfl|rfl|rfl|rfl <;> simp[hs]
 ·rw[Array.getElem?_eq_none zA2,Array.getElem?_eq_none zA2]
theorem vK {w:World} {b:Nat} {ty:TypeId} {cs:Array Value} (h:w.heap[b]?=some (.cells cs ty (0,0))) (hs:cs.size=9) (x0 x1 x2 x3 x4 x5 x6 x7 x8:Value) : (((((((((w.setCell ⟨b,0,none⟩ x0).setCell ⟨b,1,none⟩ x1).setCell ⟨b,2,none⟩ x2).setCell ⟨b,3,none⟩ x3).setCell ⟨b,4,none⟩ x4).setCell ⟨b,5,none⟩ x5).setCell ⟨b,6,none⟩ x6).setCell ⟨b,7,none⟩ x7).setCell ⟨b,8,none⟩ x8).heap[b]?=some (.cells #[x0,x1,x2,x3,x4,x5,x6,x7,x8] ty (0,0)):=by
 have:=qi (qi (qi (qi (qi (qi (qi (qi (qi h 0 x0) 1 x1) 2 x2) 3 x3) 4 x4) 5 x5) 6 x6) 7 x7) 8 x8;rw[this,set9 hs]
theorem JR {w0 w:World} {B b:Nat} (h:Below B w0 w) (hb:B<=b) (x0 x1 x2 x3 x4 x5 x6 x7 x8:Value):Below B w0 (((((((((w.setCell ⟨b,0,none⟩ x0).setCell ⟨b,1,none⟩ x1).setCell ⟨b,2,none⟩ x2).setCell ⟨b,3,none⟩ x3).setCell ⟨b,4,none⟩ x4).setCell ⟨b,5,none⟩ x5).setCell ⟨b,6,none⟩ x6).setCell ⟨b,7,none⟩ x7).setCell ⟨b,8,none⟩ x8):=
 Below.setCell (Below.setCell (Below.setCell (Below.setCell (Below.setCell (Below.setCell (Below.setCell (Below.setCell (Below.setCell h (p:=⟨b,0,none⟩) hb _) (p:=⟨b,1,none⟩) hb _) (p:=⟨b,2,none⟩) hb _) (p:=⟨b,3,none⟩) hb _) (p:=⟨b,4,none⟩) hb _) (p:=⟨b,5,none⟩) hb _) (p:=⟨b,6,none⟩) hb _) (p:=⟨b,7,none⟩) hb _) (p:=⟨b,8,none⟩) hb _
theorem Vp {w:World} {b:Nat} (x0 x1 x2 x3 x4 x5 x6 x7 x8:Value):w.grownBy (((((((((w.setCell ⟨b,0,none⟩ x0).setCell ⟨b,1,none⟩ x1).setCell ⟨b,2,none⟩ x2).setCell ⟨b,3,none⟩ x3).setCell ⟨b,4,none⟩ x4).setCell ⟨b,5,none⟩ x5).setCell ⟨b,6,none⟩ x6).setCell ⟨b,7,none⟩ x7).setCell ⟨b,8,none⟩ x8) (some b):=
 Qu.trans (Qu.trans (Qu.trans (Qu.trans (Qu.trans (Qu.trans (Qu.trans (Qu.trans Qu)))))))
theorem Tj {p:CP} {f g:Int->Option Value} {φ:Value->(Int->Option Value)->Prop} {w w5 w6 w7 w7' w8 W:World} {a:Nat} {lvl:Nat} {xs:List It} {A:Option Addr} {c:Nat} {fk lk:K3} {b:Bool} {u:Value} (hfa:f a=none) (hC:Cen p w f) (h5:Ext w w5) (hlt:w.heap.size<w5.heap.size) (bV:Je f g) (oC:QU w6 p.mb g) (hg6:w5.grownBy w6 (some p.mb)) (hn:GZ p.S w5 f g w6) (pq:w6.grownBy w7 (some w.heap.size)) (h7:Ext w7 w7') (hm7:QU w7' p.mb g) (h78:w7'.grownBy w8 (some p.mb)) (hm8:QU w8 p.mb (fun r=>if r=(a:Int) then some (ZT lvl A xs.length c fk lk b) else g r)) (h8W:w8.grownBy W (some w.heap.size)) (ha:8<=a) (bK:a<256) (hnode:qv p.S a=some ((lvl:Int),xs)) (aG:Zt (w.heap.size+1) w5 (.slice A xs.length c) xs) (aW:JQ p.S lvl xs fk lk b) (bH:b=true->0<lvl->∀ y∈xs,(g y.r).isSome=true) (hφ:φ u (fun r=>if r=(a:Int) then some (ZT lvl A xs.length c fk lk b) else g r)):YJ p f φ w (.returned u) W:=by
 have hmb:p.mb<w.heap.size:=by have:=hC.low;omega
 have hC5:=hC.ext h5;have z6:=hg6.size;have z7:=pq.size;have z7':=h7.size;have z8:=h78.size;have zW:=h8W.size;have yF:QU W p.mb _:=hm8.of_heap (h8W.block _ zO zA2);refine qgS (w5:=w5) (w6:=w6) hfa h5 hlt bV hg6 hn yF ?_ zO (fun q h1 h2=>?_) ha bK hnode ?_ aW bH hφ
 ·refine World.grownBy.andThen (World.grownBy.andThen (World.grownBy.andThen (World.grownBy.andThen (World.grownBy.andThen (zv h5 (some p.mb)) hg6 (fun j e=>.inr (by rw[<-e]))) pq (fun j e=>.inl (by cases e;omega))) (zv h7 none) (fun j e=>by cases e)) h78 (fun j e=>.inr (by rw[<-e]))) h8W (fun j e=>.inl (by cases e;omega))
 ·have aN:some q.block≠some w.heap.size:=zA2;rw[World.cell?_of_block (h8W.block q.block zO aN),js hm7 hm8 h78 q zO,Below.cell h7 (p:=q) zO,World.cell?_of_block (pq.block q.block zO aN)]
 ·exact aG.keep hg6.size (fun q _ h2=>js hC5.map oC hg6 q h2)
abbrev qbO:Value:=ZT 0 none 0 0 (0,0,0) (0,0,0) false
theorem jr {R:Ending->World->Prop} {a:Act} {W:World} {b:Nat} {lvl:Int} {A:Option Addr} {n c:Nat} {f l:K3} {bo:Bool} (h6:a.tmps[6]?.getD undef=.pointer (some ⟨b,0,none⟩)) (hd:a.defers=[]) (aC:W.heap[b]?=some (.cells (jA lvl A n c f l bo) 135 (0,0))) (hR:R (.returned (ZT lvl A n c f l bo)) W):bodyPost prog Tryz.f84 R .ret a W:=by
 refine bodyPost_ret (v:=ZT lvl A n c f l bo) ?_ hd hR;have k:=qa aC;simp[results,results84,go_sem,h6,k]
theorem cen_node {p:CP} {W:World} {g:Int->Option Value} {a:Nat} (hC:Cen p W g) (ha:8<=a) (bK:a<256):Calls prog 67 #[.pointer (some ⟨p.bb,0,none⟩),.int .i64 (a:Int)] W (QV (UH W.heap.size (qv p.S a)) W):=by
 obtain⟨_,A1,c1,e1,_⟩:=hC.onB.2.2.bs;obtain⟨_,_,⟨A2,c2,e2,_⟩,_⟩:=hC.onB.2.2.ws;obtain⟨A3,c3,e3,_⟩:=hC.onB.2.2.now;obtain⟨A4,c4,e4,_⟩:=hC.onB.2.2.last;have h:=hC.onB;rw[e1,e2,e3,e4] at h;exact vq 0 p.bb _ _ _ _ _ _ _ _ _ _ _ _ p.S hC.may a ha bK W h
set_option maxRecDepth 100000 in
theorem qaO (p:CP) (L:Int) (hL:L=-1\/(0<=L/\L<=5)) (HR:∀ h:Nat,h<=5->(0<=L->(h:Int)=L)->ReadC p h):qel p L:=by
 intro r w f hC;by_cases hr:r<8\/256<=r
 ·have ho:okL p.S L r=false:=by unfold okL;rw[if_neg zO]
  have HP:UG p L r qbO f:=⟨0,none,0,0,_,_,by rw[ho],fun h=>by rw[ho] at h;cases h⟩
  replace HP:=zH HP;replace hC:=zH hC;clear ho HR;go_enter func84,ntmps84;go_wp2;all_goals first|(exfalso;omega)|skip
  all_goals
   generalize aZ:(World.alloc _ _)=wf;have rf:wf.heap[w.heap.size]?=some (.cells (jA 0 none 0 0 (0,0,0) (0,0,0) false) 135 (0,0)):=by rw[<-aZ];exact zI _ _ _ rfl
   have xf:Ext w wf:=by rw[<-aZ];exact zN _ _
   have kf:=qa rf;exact bodyPost_ret (v:=qbO) (by simp[results,results84,go_sem,kf]) rfl (YJ.same hC.out xf HP.out)
 ·obtain⟨a,rfl⟩:∃ a:Nat,r=(a:Int):=⟨r.toNat,zO⟩
  have ha:8<=a:=zO;have bK:a<256:=zO;have hd1:decide ((a:Int)<8)=false:=decide_eq_false zO;have hd2:decide ((a:Int)≥256)=false:=decide_eq_false zO;have HOK:Hid (okL p.S L a=match qv p.S a with|none=>false|some (lvl,xs)=>(Qg p.S lvl.toNat xs).isSome && (decide (L<0) || (decide (lvl=L) && decide (xs.length≠0)))):=by refine zH ?_;unfold okL;rw[if_pos zO,Int.toNat_natCast];all_goals rfl
  have k0:∀ W,Ext w W->W.cell? ⟨p.cb,5,none⟩=some (.map (some p.mb)):=fun W h=>by rw[qa (qb hC.row h),hC.c5]
  have k1:∀ W,Ext w W->W.cell? ⟨p.cb,4,none⟩=some (.pointer (some ⟨p.bb,0,none⟩)):=fun W h=>by rw[qa (qb hC.row h),hC.c4]
  have uK:p.cb<w.heap.size:=(zG.1 hC.row).1;have hk5:w.cell? ⟨p.cb,5,none⟩=some (.map (some p.mb)):=k0 w (Ext.refl _);replace hC:=zH hC;clear hr;go_enter func84,ntmps84;go_wp2_with (at_lookup;refine qI ?_);generalize aA:(World.alloc _ _)=w1;have x1:Ext w w1:=by rw[<-aA];exact zN _ _
  have q1:w1.heap[w.heap.size]?=some (.cells (jA 0 none 0 0 (0,0,0) (0,0,0) false) 135 (0,0)):=by rw[<-aA];exact zI _ _ _ rfl
  clear aA;have hC1:=hC.out.ext x1;refine Qh.go (Vl _ rfl (.tmp 21) (.tmp 22) 81 rfl underlying81 underlying3 (qhw _) rfl rfl hC1.map ?_);rcases hfr:f (a:Int) with _|v
  ·have kq:=qa q1;have fq:=qe q1;go_wp2_with fail;have q2:=vK q1 rfl (.int .i64 0) (.slice none 0 0) (.int .u8 0) (.int .u32 0) (.int .u32 0) (.int .u8 0) (.int .u32 0) (.int .u32 0) (.bool false);have x2:Ext w _:=JR x1 (zM w.heap.size) (.int .i64 0) (.slice none 0 0) (.int .u8 0) (.int .u32 0) (.int .u32 0) (.int .u8 0) (.int .u32 0) (.int .u32 0) (.bool false);generalize cZ:(World.setCell (World.setCell (World.setCell (World.setCell (World.setCell (World.setCell (World.setCell (World.setCell (World.setCell w1 _ _) _ _) _ _) _ _) _ _) _ _) _ _) _ _) _ _)=w2 at *;clear cZ kq fq q1 x1 hC1;refine(cen_node (hC.out.ext x2) ha bK).mono ?_;rintro e w3 ⟨u,rfl,hu,hB⟩;have x3:Ext w w3:=x2.trans hB;have q3:=qb q2 hB;have s3:w.heap.size<w3.heap.size:=(zG.1 q3).1;have s2:w.heap.size<w2.heap.size:=(zG.1 q2).1;have k3:=qa q3;have f3:=qe q3;have HP0:okL p.S L a=false->UG p L a qbO f:=fun h=>⟨0,none,0,0,_,_,by rw[h],fun h'=>by rw[h] at h';cases h'⟩
   rcases hnode:qv p.S a with _|⟨lvl',xs⟩
   ·rw[hnode] at hu HOK;obtain⟨er,aN,rfl⟩:=hu;have hv:=HP0 HOK.out;have pG:(er != 0)=true:=by rw[bne_iff_ne];exact aN
    replace hv:=zH hv;clear HP0 HOK HR hnode k0 k1 hk5;go_wp2;exact jr (b:=w.heap.size) rfl rfl ((zK _ _ _ (by simpa using s3)).trans (vK q3 rfl _ _ _ _ _ _ _ _ _)) (YJ.same hC.out (Below.alloc (JR x3 (zM _) _ _ _ _ _ _ _ _ _) zA2 _) hv.out)
   ·rw[hnode] at hu HOK;obtain⟨A,c,rfl,aG⟩:=hu;obtain⟨hmay,oN,hlv⟩:=Qb hnode;obtain⟨lvl,rfl⟩:=Int.eq_ofNat_of_zero_le hlv;replace HOK:Hid (okL p.S L a=((Qg p.S lvl xs).isSome && (decide (L<0) || (decide ((lvl:Int)=L) && decide (xs.length≠0))))):=HOK;have hl5:lvl<=5:=by unfold Qc jv at hmay;simp at hmay;omega
    by_cases hmm:0<=L/\(lvl:Int)≠L
    ·have hv:=HP0 (by rw[HOK.out];simp only[decide_eq_false (show ¬L<0 by omega),decide_eq_false hmm.2];simp);have dU:decide (L≥0)=true:=decide_eq_true hmm.1;have xg:((lvl:Int) != L)=true:=by rw[bne_iff_ne];exact hmm.2
     replace hv:=zH hv;clear HP0 HOK HR hnode k0 k1 hk5 hmm;go_wp2;exact jr (b:=w.heap.size) rfl rfl ((zK _ _ _ (by simpa using s3)).trans (vK q3 rfl _ _ _ _ _ _ _ _ _)) (YJ.same hC.out (Below.alloc (JR x3 (zM _) _ _ _ _ _ _ _ _ _) zA2 _) hv.out)
    ·have hLc:L<0\/(0<=L/\(lvl:Int)=L):=by
      rcases hL with h|h
      ·exact .inl zO
      ·exact .inr ⟨h.1,Classical.byContradiction fun h'=>hmm ⟨h.1,h'⟩⟩
     have HRD:=zH (HR lvl hl5 (fun h=>zO));clear HR;rcases hLc with hL0|⟨hL0,hLl⟩
     ·skip
      have dU:decide (L≥0)=false:=decide_eq_false zO;have lC:okL p.S L a=(Qg p.S lvl xs).isSome:=by rw[HOK.out,decide_eq_true hL0,Bool.true_or,Bool.and_true]
      replace lC:=zH lC;clear HOK HP0;go_wp2_with fail;generalize aQ:(World.alloc _ _)=w5;have x35:Ext w3 w5:=by rw[<-aQ];exact zN _ _
      clear aQ k3 f3;have x5:Ext w w5:=x3.trans x35;have q5:=qb q3 x35;have iw:=hC.out.low;have s5:w.heap.size<w5.heap.size:=(zG.1 q5).1;have dh:Zt (w.heap.size+1) w5 (.slice A xs.length c) xs:=(aG.ext x35).mono zO;refine(HRD.out xs A c w5 f hmay oN (dh.mono zO) (hC.out.ext x5)).mono ?_;rintro e w6 ⟨v,g,rfl,⟨fk,lk,b,rfl,aW,bH⟩,bV,oC,hg6,hn6⟩;have hC6:=(hC.out.ext x5).after bV oC hg6 hn6;have q6:w6.heap[w.heap.size]?=_:=(hg6.block _ s5 zA2).trans q5;have k6:=qa q6;have f6:=qe q6;go_wp2_with fail;have q7:=vK q6 rfl (.int .i64 lvl) (.slice A xs.length c) (.int .u8 fk.1) (.int .u32 fk.2.1) (.int .u32 fk.2.2) (.int .u8 lk.1) (.int .u32 lk.2.1) (.int .u32 lk.2.2) (.bool b);have pq:=Vp (w:=w6) (b:=w.heap.size) (.int .i64 lvl) (.slice A xs.length c) (.int .u8 fk.1) (.int .u32 fk.2.1) (.int .u32 fk.2.2) (.int .u8 lk.1) (.int .u32 lk.2.1) (.int .u32 lk.2.2) (.bool b);generalize fF:(World.setCell (World.setCell (World.setCell (World.setCell (World.setCell (World.setCell (World.setCell (World.setCell (World.setCell w6 _ _) _ _) _ _) _ _) _ _) _ _) _ _) _ _) _ _)=w7 at *;have z56:=hg6.size;have sW:w7.heap[p.cb]?=_:=(pq.block _ zO zA2).trans hC6.row;have hm7:QU w7 p.mb g:=oC.of_heap (pq.block _ zO zA2);have hc5:=hC6.c5;clear fF k6 f6 q6;have g5:∀ W,qk.r w7 W->W.cell? ⟨p.cb,5,none⟩=some (.map (some p.mb)):=fun W h=>by rw[qa (qb sW h),hc5]
      have gq:∀ W,qk.r w7 W->∀ i,W.cell? ⟨w.heap.size,i,none⟩=(jA lvl A xs.length c fk lk b)[i]?:=fun W h=>qa (qb q7 h);refine qo zQ ?_;refine Zn (w:=w7) qk (qD []) [true,true,true,true,true,true] 1 zQ zQ zQ zQ zQ zQ ?st (Rel.drew _ _) ?walk
      case st=>exact qj (fun _ h=>by cases h)
      case walk =>
       intro K hK;dsimp only[qp];repeat ((first|(refine qd ?_ zA0 zA0 (fun W hW _=>⟨W,?_,Rel.refl _ W⟩) ?_;rotate_left;(go_simp<;>with_reducible rfl))|(refine qh zA0 ?_));try simp only[Act.put,ql,qf,qc,qg,zA,zB,zC])
       refine qu (hK _ _ fun W hW hF=>?_);clear hF hK g5 gq;have ax:Ext w7 W:=hW;have z7:=pq.size;have q7':=qb q7 ax;have yF:QU W p.mb g:=hm7.of_heap (ax.block _ zO);refine zB5 ?_;refine jf _ rfl (.tmp 56) (.tmp 57) (.tmp 58) 81 rfl underlying81 underlying3 rfl rfl rfl yF ?_;intro w8 hm8 hg8;have z7W:=ax.size;have q8:w8.heap[w.heap.size]?=_:=(hg8.block _ zO zA2).trans q7';have k8:=qa q8;have f8:=qe q8;replace bH:=zH bH;replace aW:=zH aW;replace hnode:=zH hnode;replace hfr:=zH hfr;go_wp2;refine Qo ?_;go_wp2;exact jr (b:=w.heap.size) rfl rfl (vK q8 rfl _ _ _ _ _ _ _ _ _) (Tj hfr.out hC.out x5 s5 bV oC hg6 hn6 pq ax yF hg8 hm8 (Vp _ _ _ _ _ _ _ _ _) ha bK hnode.out dh aW.out bH.out ⟨lvl,A,_,c,fk,lk,by rw[lC.out,<-aW.out.1],fun _=>if_pos rfl⟩)
     ·by_cases hm0:xs.length=0
      case neg =>
       have xg:((lvl:Int) != L)=false:=by rw[bne_eq_false_iff_eq];exact hLl
       have lC:okL p.S L a=(Qg p.S lvl xs).isSome:=by rw[HOK.out,decide_eq_true hLl,decide_eq_true hm0];simp
       have pG:((xs.length:Int) == 0)=false:=by rw[beq_eq_false_iff_ne];omega
       replace lC:=zH lC;replace hLl:=zH hLl;replace hm0:=zH hm0;clear HOK HP0;go_wp2_with fail;generalize aQ:(World.alloc _ _)=w5;have x35:Ext w3 w5:=by rw[<-aQ];exact zN _ _
       clear aQ k3 f3;have x5:Ext w w5:=x3.trans x35;have q5:=qb q3 x35;have iw:=hC.out.low;have s5:w.heap.size<w5.heap.size:=(zG.1 q5).1;have dh:Zt (w.heap.size+1) w5 (.slice A xs.length c) xs:=(aG.ext x35).mono zO;refine(HRD.out xs A c w5 f hmay oN (dh.mono zO) (hC.out.ext x5)).mono ?_;rintro e w6 ⟨v,g,rfl,⟨fk,lk,b,rfl,aW,bH⟩,bV,oC,hg6,hn6⟩;have hC6:=(hC.out.ext x5).after bV oC hg6 hn6;have q6:w6.heap[w.heap.size]?=_:=(hg6.block _ s5 zA2).trans q5;have k6:=qa q6;have f6:=qe q6;go_wp2_with fail;have q7:=vK q6 rfl (.int .i64 lvl) (.slice A xs.length c) (.int .u8 fk.1) (.int .u32 fk.2.1) (.int .u32 fk.2.2) (.int .u8 lk.1) (.int .u32 lk.2.1) (.int .u32 lk.2.2) (.bool b);have pq:=Vp (w:=w6) (b:=w.heap.size) (.int .i64 lvl) (.slice A xs.length c) (.int .u8 fk.1) (.int .u32 fk.2.1) (.int .u32 fk.2.2) (.int .u8 lk.1) (.int .u32 lk.2.1) (.int .u32 lk.2.2) (.bool b);generalize fF:(World.setCell (World.setCell (World.setCell (World.setCell (World.setCell (World.setCell (World.setCell (World.setCell (World.setCell w6 _ _) _ _) _ _) _ _) _ _) _ _) _ _) _ _) _ _)=w7 at *;have z56:=hg6.size;have sW:w7.heap[p.cb]?=_:=(pq.block _ zO zA2).trans hC6.row;have hm7:QU w7 p.mb g:=oC.of_heap (pq.block _ zO zA2);have hc5:=hC6.c5;clear fF k6 f6 q6;have g5:∀ W,qk.r w7 W->W.cell? ⟨p.cb,5,none⟩=some (.map (some p.mb)):=fun W h=>by rw[qa (qb sW h),hc5]
       have gq:∀ W,qk.r w7 W->∀ i,W.cell? ⟨w.heap.size,i,none⟩=(jA lvl A xs.length c fk lk b)[i]?:=fun W h=>qa (qb q7 h);refine qo zQ ?_;refine Zn (w:=w7) qk (qD []) [true,true,true,true,true,true] 1 zQ zQ zQ zQ zQ zQ ?st (Rel.drew _ _) ?walk
       case st=>exact qj (fun _ h=>by cases h)
       case walk =>
        intro K hK;dsimp only[qp];repeat ((first|(refine qd ?_ zA0 zA0 (fun W hW _=>⟨W,?_,Rel.refl _ W⟩) ?_;rotate_left;(go_simp<;>with_reducible rfl))|(refine qh zA0 ?_));try simp only[Act.put,ql,qf,qc,qg,zA,zB,zC])
        refine qu (hK _ _ fun W hW hF=>?_);clear hF hK g5 gq;have ax:Ext w7 W:=hW;have z7:=pq.size;have q7':=qb q7 ax;have yF:QU W p.mb g:=hm7.of_heap (ax.block _ zO);refine zB5 ?_;refine jf _ rfl (.tmp 56) (.tmp 57) (.tmp 58) 81 rfl underlying81 underlying3 rfl rfl rfl yF ?_;intro w8 hm8 hg8;have z7W:=ax.size;have q8:w8.heap[w.heap.size]?=_:=(hg8.block _ zO zA2).trans q7';have k8:=qa q8;have f8:=qe q8;replace bH:=zH bH;replace aW:=zH aW;replace hnode:=zH hnode;replace hfr:=zH hfr;go_wp2;refine Qo ?_;go_wp2;exact jr (b:=w.heap.size) rfl rfl (vK q8 rfl _ _ _ _ _ _ _ _ _) (Tj hfr.out hC.out x5 s5 bV oC hg6 hn6 pq ax yF hg8 hm8 (Vp _ _ _ _ _ _ _ _ _) ha bK hnode.out dh aW.out bH.out ⟨lvl,A,_,c,fk,lk,by rw[lC.out,<-aW.out.1],fun _=>if_pos rfl⟩)
      case pos =>
       have xg:((lvl:Int) != L)=false:=by rw[bne_eq_false_iff_eq];exact hLl
       have lC:okL p.S L a=false:=by rw[HOK.out];simp[hm0,show ¬L<0 by omega]
       have pG:((xs.length:Int) == 0)=true:=by rw[beq_iff_eq];omega
       replace lC:=zH lC;replace hLl:=zH hLl;replace hm0:=zH hm0;clear HOK HP0;go_wp2_with fail;generalize aQ:(World.alloc _ _)=w5;have x35:Ext w3 w5:=by rw[<-aQ];exact zN _ _
       clear aQ k3 f3;have x5:Ext w w5:=x3.trans x35;have q5:=qb q3 x35;have iw:=hC.out.low;have s5:w.heap.size<w5.heap.size:=(zG.1 q5).1;have dh:Zt (w.heap.size+1) w5 (.slice A xs.length c) xs:=(aG.ext x35).mono zO;refine(HRD.out xs A c w5 f hmay oN (dh.mono zO) (hC.out.ext x5)).mono ?_;rintro e w6 ⟨v,g,rfl,⟨fk,lk,b,rfl,aW,bH⟩,bV,oC,hg6,hn6⟩;have hC6:=(hC.out.ext x5).after bV oC hg6 hn6;have q6:w6.heap[w.heap.size]?=_:=(hg6.block _ s5 zA2).trans q5;have k6:=qa q6;have f6:=qe q6;go_wp2_with fail;have q7:=vK q6 rfl (.int .i64 lvl) (.slice A xs.length c) (.int .u8 fk.1) (.int .u32 fk.2.1) (.int .u32 fk.2.2) (.int .u8 lk.1) (.int .u32 lk.2.1) (.int .u32 lk.2.2) (.bool b);have pq:=Vp (w:=w6) (b:=w.heap.size) (.int .i64 lvl) (.slice A xs.length c) (.int .u8 fk.1) (.int .u32 fk.2.1) (.int .u32 fk.2.2) (.int .u8 lk.1) (.int .u32 lk.2.1) (.int .u32 lk.2.2) (.bool b);generalize fF:(World.setCell (World.setCell (World.setCell (World.setCell (World.setCell (World.setCell (World.setCell (World.setCell (World.setCell w6 _ _) _ _) _ _) _ _) _ _) _ _) _ _) _ _) _ _)=w7 at *;have z56:=hg6.size;have sW:w7.heap[p.cb]?=_:=(pq.block _ zO zA2).trans hC6.row;have hm7:QU w7 p.mb g:=oC.of_heap (pq.block _ zO zA2);have hc5:=hC6.c5;clear fF k6 f6 q6;have g5:∀ W,qk.r w7 W->W.cell? ⟨p.cb,5,none⟩=some (.map (some p.mb)):=fun W h=>by rw[qa (qb sW h),hc5]
       have gq:∀ W,qk.r w7 W->∀ i,W.cell? ⟨w.heap.size,i,none⟩=(jA lvl A xs.length c fk lk b)[i]?:=fun W h=>qa (qb q7 h);refine qo zQ ?_;refine Zn (w:=w7) qk (qD []) [true,true,true,true,true,true] 1 zQ zQ zQ zQ zQ zQ ?st (Rel.drew _ _) ?walk
       case st=>exact qj (fun _ h=>by cases h)
       case walk =>
        intro K hK;dsimp only[qp];repeat ((first|(refine qd ?_ zA0 zA0 (fun W hW _=>⟨W,?_,Rel.refl _ W⟩) ?_;rotate_left;(go_simp<;>with_reducible rfl))|(refine qh zA0 ?_));try simp only[Act.put,ql,qf,qc,qg,zA,zB,zC])
        refine qu (hK _ _ fun W hW hF=>?_);clear hF hK g5 gq;have ax:Ext w7 W:=hW;have z7:=pq.size;have q7':=qb q7 ax;have yF:QU W p.mb g:=hm7.of_heap (ax.block _ zO);refine zB5 ?_;refine jf _ rfl (.tmp 56) (.tmp 57) (.tmp 58) 81 rfl underlying81 underlying3 rfl rfl rfl yF ?_;intro w8 hm8 hg8;have z7W:=ax.size;have q8:w8.heap[w.heap.size]?=_:=(hg8.block _ zO zA2).trans q7';have k8:=qa q8;have f8:=qe q8;replace bH:=zH bH;replace aW:=zH aW;replace hnode:=zH hnode;replace hfr:=zH hfr;go_wp2;refine Qo ?_;go_wp2;exact jr (b:=w.heap.size) (f:=(0,0,0)) (l:=(0,0,0)) rfl rfl (vK q8 rfl _ _ _ _ _ _ _ _ _) (Tj hfr.out hC.out x5 s5 bV oC hg6 hn6 pq ax yF hg8 hm8 (Vp _ _ _ _ _ _ _ _ _) ha bK hnode.out dh aW.out bH.out ⟨0,none,0,0,_,_,by rw[lC.out],fun h=>by rw[lC.out] at h;cases h⟩)
  ·obtain⟨n,lvl,xs,A,c,fk,lk,b,hn,_,_,hnode,rfl,aG,hGZ,hclo⟩:=hC1.known _ _ hfr;obtain rfl:a=n:=zO;have hok:okL p.S L a=(b && (decide (L<0) || (decide ((lvl:Int)=L) && decide (xs.length≠0)))):=by rw[HOK.out,hnode,hGZ.1];rfl
   have HPv:okL p.S L a=b->UG p L a (ZT lvl A xs.length c fk lk b) f:=fun h=>⟨_,A,_,c,fk,lk,by rw[h],fun _=>hfr⟩
   have HP0:okL p.S L a=false->UG p L a qbO f:=fun h=>⟨0,none,0,0,_,_,by rw[h],fun h'=>by rw[h] at h';cases h'⟩
   replace HPv:=zH HPv;replace HP0:=zH HP0;replace hC1:=zH hC1;replace hok:=zH hok;clear hfr hclo hGZ aG hnode HOK HR hn k0 k1 hk5;have kq:=qa q1;have fq:=qe q1;generalize mg:xs.length=m at *;clear mg;by_cases hL0:L<0
   ·have hv:=HPv.out (by rw[hok.out,decide_eq_true hL0,Bool.true_or,Bool.and_true]);have dU:decide (L≥0)=false:=decide_eq_false zO;replace hv:=zH hv;clear HPv HP0 hok;go_wp2;exact jr (b:=w.heap.size) rfl rfl (vK (vK q1 rfl _ _ _ _ _ _ _ _ _) rfl _ _ _ _ _ _ _ _ _) (YJ.same hC.out (JR (JR x1 (zM _) _ _ _ _ _ _ _ _ _) (zM _) _ _ _ _ _ _ _ _ _) hv.out)
   ·have dU:decide (L≥0)=true:=decide_eq_true zO;by_cases hll:(lvl:Int)=L/\m≠0
    ·have hv:=HPv.out (by rw[hok.out,decide_eq_false hL0,decide_eq_true hll.1,decide_eq_true hll.2];simp);have xg:((lvl:Int) != L)=false:=by rw[bne_eq_false_iff_eq];exact hll.1
     have pG:((m:Int) == 0)=false:=by rw[beq_eq_false_iff_ne];omega
     replace hv:=zH hv;clear HPv HP0 hok hll;go_wp2;exact jr (b:=w.heap.size) rfl rfl (vK (vK q1 rfl _ _ _ _ _ _ _ _ _) rfl _ _ _ _ _ _ _ _ _) (YJ.same hC.out (JR (JR x1 (zM _) _ _ _ _ _ _ _ _ _) (zM _) _ _ _ _ _ _ _ _ _) hv.out)
    ·have hv:=HP0.out (by
      rw[hok.out,decide_eq_false hL0];by_cases h1:(lvl:Int)=L
      ·have h2:m=0:=Classical.byContradiction fun h=>hll ⟨h1,h⟩;simp[h2]
      ·simp[h1])
     replace hv:=zH hv;clear HPv HP0 hok;by_cases h1:(lvl:Int)=L
     ·have h2:m=0:=Classical.byContradiction fun h=>hll ⟨h1,h⟩;have xg:((lvl:Int) != L)=false:=by rw[bne_eq_false_iff_eq];exact h1
      clear hll h1;subst h2;go_wp2;exact jr (b:=w.heap.size) rfl rfl (vK (vK q1 rfl _ _ _ _ _ _ _ _ _) rfl _ _ _ _ _ _ _ _ _) (YJ.same hC.out (JR (JR x1 (zM _) _ _ _ _ _ _ _ _ _) (zM _) _ _ _ _ _ _ _ _ _) hv.out)
     ·have xg:((lvl:Int) != L)=true:=by rw[bne_iff_ne];exact h1
      clear hll h1;go_wp2;exact jr (b:=w.heap.size) rfl rfl (vK (vK q1 rfl _ _ _ _ _ _ _ _ _) rfl _ _ _ _ _ _ _ _ _) (YJ.same hC.out (JR (JR x1 (zM _) _ _ _ _ _ _ _ _ _) (zM _) _ _ _ _ _ _ _ _ _) hv.out)
end Go.Proofs.YtpbniokljofedaaGreat
