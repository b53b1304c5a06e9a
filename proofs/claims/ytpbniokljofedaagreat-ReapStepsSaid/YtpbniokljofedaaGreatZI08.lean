/- Texts Span, Reach, Kids, CenW, joined. -/
import Derived.Maps.OwnOps
import Derived.Test.YtpbniokljofedaaGreatZI07
set_option linter.unusedSimpArgs false
set_option linter.unusedVariables false
set_option maxHeartbeats 8000000
open Go.Proofs.Tryz
namespace Go.Proofs.YtpbniokljofedaaGreat
open Go.RowKit
abbrev K3:Type:=Int×Int×Int
def qE (x:It):K3:=(x.k,x.i,x.o)
def QH (a b:K3):Bool:=VO a.1 a.2.1 a.2.2 b.1 b.2.1 b.2.2
def Yd (one:It->Option (K3×K3)) (acc:Option (Option (K3×K3))) (y:It):Option (Option (K3×K3)):=
 match acc with
 |none=>none
 |some a=>match one y with
  |none=>none
  |some (f,l)=>if f=qE y then (match a with
    |none=>some (some (f,l))
    |some (f0,l0)=>if QH l0 f=true then some (some (f0,l)) else none) else none
def Vx (S:Sto):Nat->It->Option (K3×K3)
 |0,y=>if y.r=0\/0<(S.now[y.r.toNat]?.getD 0).toNat then some (qE y,qE y) else none
 |h+1,y=>if 8<=y.r/\y.r<256 then
   match qv S y.r.toNat with
   |none=>none
   |some (lvl,xs)=>if lvl=(h:Int) then (xs.foldl (Yd (Vx S h)) (some none)).getD none else none
  else none
def Qg (S:Sto) (h:Nat) (xs:List It):Option (Option (K3×K3)):=xs.foldl (Yd (Vx S h)) (some none)
def Vu (S:Sto) (h:Nat) (r:Int):Option (K3×K3):=if 8<=r/\r<256 then
   match qv S r.toNat with
   |none=>none
   |some (lvl,xs)=>if lvl=(h:Int) then (Qg S h xs).getD none else none
  else none
theorem Yq (S:Sto) (h:Nat) (y:It):Vx S (h+1) y=Vu S h y.r:=rfl
theorem vS {S:Sto} {h:Nat} {xs:List It} {k:Nat} (hk:k<xs.length):Qg S h (xs.take (k+1))=Yd (Vx S h) (Qg S h (xs.take k)) xs[k]:=by unfold Qg;rw[List.take_succ_eq_append_getElem hk,List.foldl_append];rfl
theorem qeX (one:It->Option (K3×K3)) (xs:List It):xs.foldl (Yd one) none=none:=by
 induction xs with
 |nil=>rfl
 |cons x r ih=>exact ih
theorem qbs {S:Sto} {h:Nat} {xs:List It} {k:Nat} (hb:Qg S h (xs.take k)=none):Qg S h xs=none:=by unfold Qg at *;rw[<-List.take_append_drop k xs,List.foldl_append,hb,qeX]
theorem qfO {S:Sto} {h:Nat}:∀ {xs:List It},(∃ p,Qg S h xs=some (some p))->xs≠[]:=by rintro xs ⟨p,hp⟩ rfl;cases hp
theorem Zy {S:Sto} {h:Nat} {xs:List It} {k:Nat} (hk:0<k) (hl:k<=xs.length):Qg S h (xs.take k)≠some none:=by
 obtain⟨j,rfl⟩:∃ j,k=j+1:=⟨k-1,zO⟩
 rw[vS zO];unfold Yd;intro h;split at h
 ·cases h
 ·split at h
  ·cases h
  ·split at h
   ·split at h
    ·cases h
    ·split at h <;> cases h
   ·cases h
abbrev jC (lvl:Int) (A:Option Addr) (n c:Nat) (f l:K3) (b:Bool):Array Value:=#[.int .i64 lvl,.slice A n c,.int .u8 f.1,.int .u32 f.2.1,.int .u32 f.2.2,.int .u8 l.1,.int .u32 l.2.1,.int .u32 l.2.2,.bool b]
abbrev ZV (lvl:Int) (A:Option Addr) (n c:Nat) (f l:K3) (b:Bool):Value:=.agg (jC lvl A n c f l b)
def JT (S:Sto) (h:Nat) (xs:List It) (f l:K3) (b:Bool):Prop:=b=(Qg S h xs).isSome/\∀ p,Qg S h xs=some (some p)->(f,l)=p
def YR (S:Sto) (lo:Nat) (w:World) (f:Int->Option Value) (a:Int) (v:Value):Prop:=
 ∃ (n:Nat) (lvl:Nat) (xs:List It) (A:Option Addr) (c:Nat) (fk lk:K3) (b:Bool),a=(n:Int)/\8<=n/\n<256/\qv S n=some ((lvl:Int),xs)/\v=ZV lvl A xs.length c fk lk b /\
  Zv lo w (.slice A xs.length c) xs/\JT S lvl xs fk lk b/\(b=true->0<lvl->∀ y∈xs,(f y.r).isSome=true)
def qaR (S:Sto) (lo:Nat) (w:World) (f:Int->Option Value):Prop:=∀ a v,f a=some v->YR S lo w f a v
theorem YR.keep {S:Sto} {lo lo':Nat} {w w':World} {f g:Int->Option Value} {a:Int} {v:Value} (h:YR S lo w f a v) (hl:lo'<=lo) (hs:w.heap.size<=w'.heap.size) (hk:∀ q:Addr,lo<=q.block->q.block<w.heap.size->w'.cell? q=w.cell? q) (hf:∀ r,(f r).isSome=true->(g r).isSome=true):YR S lo' w' g a v:=by
 obtain⟨n,lvl,xs,A,c,fk,lk,b,h1,h2,h3,h4,h5,h6,h7,h8⟩:=h;exact⟨n,lvl,xs,A,c,fk,lk,b,h1,h2,h3,h4,h5,(h6.keep hs hk).mono hl,h7,fun x y z t=>hf _ (h8 x y z t)⟩
def Jf (f g:Int->Option Value):Prop:=∀ a v,f a=some v->g a=some v
theorem Jf.refl (f:Int->Option Value):Jf f f:=fun _ _ h=>h
theorem Jf.trans {f g h:Int->Option Value} (x:Jf f g) (y:Jf g h):Jf f h:=fun a v e=>y a v (x a v e)
structure CP where
 S:Sto
 sb:Nat
 lo:Nat
 cb:Nat
 bb:Nat
 mb:Nat
 ca:Array Value
 v1:Value
 v2:Value
 v3:Value
 v4:Value
 u1:Value
 u2:Value
 u3:Value
 u4:Value
structure Cen (p:CP) (w:World) (f:Int->Option Value):Prop where
 row:w.heap[p.cb]?=some (.cells p.ca 84 (0,0))
 c0:p.ca[0]?=some p.v1
 c1:p.ca[1]?=some p.v2
 c2:p.ca[2]?=some p.v3
 c3:p.ca[3]?=some p.v4
 c4:p.ca[4]?=some (.pointer (some ⟨p.bb,0,none⟩))
 c5:p.ca[5]?=some (.map (some p.mb))
 map:QU w p.mb f
 known:qaR p.S p.lo w f
 sto:qU w p.sb p.v1 p.v2 p.v3 p.v4 p.S
 on:w.heap[p.bb]?=some (.cells #[p.u1,p.u2,p.u3,p.u4] 191 (0,0))
 onb:Bls w p.sb p.u1 p.S.bs
 onw:Wrs w p.sb p.u2 p.S.ws
 onl:Bys w p.sb p.u4 p.S.last
 onn:Bys w w.heap.size p.u3 p.S.now
 onf:∀ A n c,p.u3=.slice (some A) n c->A.block≠p.cb
 low:p.cb<p.lo/\p.bb<p.lo/\p.mb<p.lo/\p.cb≠p.mb/\p.bb≠p.mb/\p.lo<=w.heap.size/\p.sb<=p.cb/\p.sb<=p.bb/\p.sb<=p.mb/\p.cb≠p.bb
 may:qo p.S=true
theorem Cen.onB {p:CP} {w:World} {f:Int->Option Value} (h:Cen p w f):OnB 0 p.bb p.u1 p.u2 p.u3 p.u4 p.S w:=by have hl:=h.low;exact⟨Nat.zero_le _,h.on,h.onb.more zO,h.onw.more zO,h.onn,h.onl.more zO⟩
theorem Bls.keep {w w':World} {B:Nat} {v:Value} {bs:List (List UInt8)} (h:Bls w B v bs) (hk:∀ q:Addr,q.block<B->w'.cell? q=w.cell? q):Bls w' B v bs:=by obtain⟨vs,A,c,e,h1,h2,h3,h4⟩:=h;exact⟨vs,A,c,e,h1,h2,h3.keep hk,fun i u l hu hl=>(h4 i u l hu hl).keep hk⟩
theorem Wrs.keep {w w':World} {B:Nat} {v:Value} {ws:List (Int×List UInt8)} (h:Wrs w B v ws) (hk:∀ q:Addr,q.block<B->w'.cell? q=w.cell? q):Wrs w' B v ws:=by obtain⟨ps,e,⟨A,c,e1,e2,e3,hr⟩,hp⟩:=h;exact⟨ps,e,⟨A,c,e1,e2,e3,hr.keep hk⟩,fun p h=>⟨(hp p h).1,(hp p h).2.keep hk⟩⟩
theorem qU.keep {w w':World} {B:Nat} {v1 v2 v3 v4:Value} {S:Sto} (h:qU w B v1 v2 v3 v4 S) (hk:∀ q:Addr,q.block<B->w'.cell? q=w.cell? q):qU w' B v1 v2 v3 v4 S:=⟨h.bs.keep hk,h.ws.keep hk,h.now.keep hk,h.last.keep hk⟩
theorem js {w w':World} {mb:Nat} {f g:Int->Option Value} (h:QU w mb f) (h':QU w' mb g) (hg:w.grownBy w' (some mb)):∀ q:Addr,q.block<w.heap.size->w'.cell? q=w.cell? q:=by
 intro q hq;by_cases hm:q.block=mb
 ·obtain⟨es,c,e1,_⟩:=h;obtain⟨es',c',e2,_⟩:=h';simp[World.cell?,hm,e1,e2]
 ·exact World.cell?_of_block (hg.block q.block hq (fun e=>hm (by simpa using e)))
theorem qaR.keep {S:Sto} {lo:Nat} {w w':World} {f:Int->Option Value} (h:qaR S lo w f) (hs:w.heap.size<=w'.heap.size) (hk:∀ q:Addr,q.block<w.heap.size->w'.cell? q=w.cell? q):qaR S lo w' f:=
 fun a v hv=>(h a v hv).keep (zM _) hs (fun q _ hq=>hk q hq) (fun _ h=>h)
theorem Jf.some_ {f g:Int->Option Value} (h:Jf f g) (r:Int) (hr:(f r).isSome=true):(g r).isSome=true:=by obtain⟨v,hv⟩:=Option.isSome_iff_exists.1 hr;rw[h r v hv];rfl
theorem Cen.ext {p:CP} {w w':World} {f:Int->Option Value} (h:Cen p w f) (hx:Ext w w'):Cen p w' f where
 row:=qb h.row hx
 c0:=h.c0
 c1:=h.c1
 c2:=h.c2
 c3:=h.c3
 c4:=h.c4
 c5:=h.c5
 map:=h.map.of_heap (hx.block _ (by have:=h.low;omega))
 known:=h.known.keep hx.size fun q hq=>Below.cell hx hq
 sto:=h.sto.keep fun q hq=>Below.cell hx (by have:=h.low;omega)
 on:=qb h.on hx
 onb:=h.onb.keep fun q hq=>Below.cell hx (by have:=h.low;omega)
 onw:=h.onw.keep fun q hq=>Below.cell hx (by have:=h.low;omega)
 onl:=h.onl.keep fun q hq=>Below.cell hx (by have:=h.low;omega)
 onn:=(h.onn.below hx).more hx.size
 onf:=h.onf
 low:=by have:=h.low;have:=hx.size;omega
 may:=h.may
def News (S:Sto) (w:World) (f g:Int->Option Value) (w':World):Prop:=∀ a v,g a=some v->f a=none->YR S w.heap.size w' g a v
theorem Cen.after {p:CP} {w w':World} {f g:Int->Option Value} (h:Cen p w f) (bP:Jf f g) (hm:QU w' p.mb g) (hg:w.grownBy w' (some p.mb)) (hn:News p.S w f g w'):Cen p w' g where
 row:=(hg.block _ (by have:=h.low;omega) (fun e=>by have:=h.low;simp at e;omega)).trans h.row
 c0:=h.c0
 c1:=h.c1
 c2:=h.c2
 c3:=h.c3
 c4:=h.c4
 c5:=h.c5
 map:=hm
 known:=by
  intro a v hv;rcases hf:f a with _|u
  ·exact(hn a v hv hf).keep (by have:=h.low;omega) (zM _) (fun _ _ _=>rfl) (fun _ h=>h)
  ·have:=bP a u hf;rw[hv] at this;cases this;exact(h.known a v hf).keep (zM _) hg.size (fun q _ hq=>js h.map hm hg q hq) bP.some_
 sto:=h.sto.keep fun q hq=>js h.map hm hg q (by have:=h.low;omega)
 on:=(hg.block _ (by have:=h.low;omega) (fun e=>by have:=h.low;simp at e;omega)).trans h.on
 onb:=h.onb.keep fun q hq=>js h.map hm hg q (by have:=h.low;omega)
 onw:=h.onw.keep fun q hq=>js h.map hm hg q (by have:=h.low;omega)
 onl:=h.onl.keep fun q hq=>js h.map hm hg q (by have:=h.low;omega)
 onn:=(h.onn.keep (js h.map hm hg)).more hg.size
 onf:=h.onf
 low:=by have:=h.low;have:=hg.size;omega
 may:=h.may
def okL (S:Sto) (L r:Int):Bool:=
 if 8<=r/\r<256 then
  match qv S r.toNat with
  |none=>false
  |some (lvl,xs)=>(Qg S lvl.toNat xs).isSome && (decide (L<0) || (decide (lvl=L) && decide (xs.length≠0)))
 else false
def UU (p:CP) (L r:Int) (v:Value) (f:Int->Option Value):Prop:=∃ (lvl:Int) (A:Option Addr) (n c:Nat) (fk lk:K3),v=ZV lvl A n c fk lk (okL p.S L r)/\(okL p.S L r=true->f r=some v)
def qcE (p:CP) (h:Nat) (A:Option Addr) (c:Nat) (xs:List It) (v:Value) (f:Int->Option Value):Prop:=∃ (fk lk:K3) (b:Bool),v=ZV h A xs.length c fk lk b/\JT p.S h xs fk lk b/\(b=true->0<h->∀ y∈xs,(f y.r).isSome=true)
def YT (p:CP) (f:Int->Option Value) (φ:Value->(Int->Option Value)->Prop) (w:World) (e:Ending) (w':World):Prop:=∃ v g,e=.returned v/\φ v g/\Jf f g/\QU w' p.mb g/\w.grownBy w' (some p.mb)/\News p.S w f g w'
def ReadC (p:CP) (h:Nat):Prop:=∀ (xs:List It) (A:Option Addr) (c:Nat) (w:World) (f:Int->Option Value),Qe h xs=true->(∀ x∈xs,jq x/\itB x.r x.val.length=true)->Zv p.lo w (.slice A xs.length c) xs->Cen p w f ->
 Calls prog 134 #[.pointer (some ⟨p.cb,0,none⟩),je h A xs.length c] w (YT p f (qcE p h A c xs) w)
def qeD (p:CP) (L:Int):Prop:=∀ (r:Int) (w:World) (f:Int->Option Value),Cen p w f ->
 Calls prog 84 #[.pointer (some ⟨p.cb,0,none⟩),.int .i64 r,.int .i64 L] w (YT p f (UU p L r) w)
section
variable {P:Program} (w:World) {ops:Array Oper} {rest:List Oper} {o:Oper} {a:Act} {Q:Exit->Act->World->Prop}
theorem Vo (hg:o.guard=none) (m x:Operand) (t:TypeId) (dZ:o.op=Op.lookup t m x true) {k e:TypeId} {z:Value} (ht:P.underlying t=some (.map k e)) (hk:P.underlying k=some (.int .i64)) (hz:(zeroValue e).run P w=.ok z w) {mb:Nat} {f:Int->Option Value} {r:Int} (hm:a.eval m=.map (some mb)) (hx:a.eval x=.int .i64 r) (h:QU w mb f) (hK:wpList P ops Q rest (a.put o.dst (.tuple #[(f r).getD z,.bool (f r).isSome])) w):wpList P ops Q (o :: rest) a w:=by
 refine wpList_plain hg fun K' hK'=>?_;unfold Oper.wp;simp[execOp,dZ,hm,hx,qaI h t k e z ht hk hz r,Result.andThen];exact hK' _ _ hK
theorem jg (hg:o.guard=none) (m x y:Operand) (t:TypeId) (dZ:o.op=Op.mapUpdate t m x y) {k e:TypeId} (ht:P.underlying t=some (.map k e)) (hk:P.underlying k=some (.int .i64)) {mb:Nat} {f:Int->Option Value} {r:Int} {v:Value} (hm:a.eval m=.map (some mb)) (hx:a.eval x=.int .i64 r) (hy:a.eval y=v) (h:QU w mb f) (hK:∀ w',QU w' mb (fun b=>if b=r then some v else f b)->w.grownBy w' (some mb)->wpList P ops Q rest (a.put o.dst undef) w'):wpList P ops Q (o :: rest) a w:=by
 refine wpList_plain hg fun K' hK'=>?_;obtain⟨w',au,h1,h2⟩:=TH h t k e ht hk r v;unfold Oper.wp;simp[execOp,dZ,hm,hx,hy,au,Result.andThen];exact hK' _ _ (hK w' h1 h2)
end
theorem News.refl (S:Sto) (w:World) (f:Int->Option Value) (w':World):News S w f f w':=fun a v h1 h2=>by rw[h1] at h2;cases h2
theorem YT.same {p:CP} {f:Int->Option Value} {φ:Value->(Int->Option Value)->Prop} {w w':World} {v:Value} (h:Cen p w f) (hx:Ext w w') (hφ:φ v f):YT p f φ w (.returned v) w':=
 ⟨v,f,rfl,hφ,Jf.refl _,(h.ext hx).map,zy hx _,News.refl _ _ _ _⟩
theorem qhg {p:CP} {f g:Int->Option Value} {φ:Value->(Int->Option Value)->Prop} {w w5 w6 W:World} {a:Nat} {lvl:Nat} {xs:List It} {A:Option Addr} {c:Nat} {fk lk:K3} {b:Bool} {u:Value} (hfa:f a=none) (h5:Ext w w5) (hlt:w.heap.size<w5.heap.size) (bP:Jf f g) (hg6:w5.grownBy w6 (some p.mb)) (hn:News p.S w5 f g w6) (hm:QU W p.mb (fun r=>if r=(a:Int) then some (ZV lvl A xs.length c fk lk b) else g r)) (hgW:w.grownBy W (some p.mb)) (hsW:w6.heap.size<=W.heap.size) (hk:∀ q:Addr,w.heap.size<q.block->q.block<w6.heap.size->W.cell? q=w6.cell? q) (ha:8<=a) (bK:a<256) (hnode:qv p.S a=some ((lvl:Int),xs)) (aG:Zv (w.heap.size+1) w6 (.slice A xs.length c) xs) (aU:JT p.S lvl xs fk lk b) (bJ:b=true->0<lvl->∀ y∈xs,(g y.r).isSome=true) (hφ:φ u (fun r=>if r=(a:Int) then some (ZV lvl A xs.length c fk lk b) else g r)):YT p f φ w (.returned u) W:=by
 have hs:∀ r:Int,(g r).isSome=true->((fun r=>if r=(a:Int) then some (ZV lvl A xs.length c fk lk b) else g r) r).isSome=true:=by
  intro r hr;show (if r=(a:Int) then some (ZV lvl A xs.length c fk lk b) else g r).isSome=true;split
  ·rfl
  ·exact hr
 refine⟨u,_,rfl,hφ,fun r v hr=>?_,hm,hgW,fun r v hv hr=>?_⟩
 ·show (if r=(a:Int) then some (ZV lvl A xs.length c fk lk b) else g r)=some v;rw[if_neg (fun e=>by rw[e,hfa] at hr;cases hr)];exact bP r v hr
 ·have yL:(if r=(a:Int) then some (ZV lvl A xs.length c fk lk b) else g r)=some v:=hv;by_cases hra:r=(a:Int)
  ·rw[if_pos hra] at yL;cases yL;exact⟨a,lvl,xs,A,c,fk,lk,b,hra,ha,bK,hnode,rfl,(aG.keep hsW (fun q h1 h2=>hk q zO h2)).mono zO,aU,fun x y z t=>hs _ (bJ x y z t)⟩
  ·rw[if_neg hra] at yL;exact(hn r v yL hr).keep (Nat.le_of_lt hlt) hsW (fun q h1 h2=>hk q zO h2) hs
theorem Qc {S:Sto} {a:Nat} {lvl:Int} {xs:List It} (h:qv S a=some (lvl,xs)):Qe lvl xs=true/\(∀ x∈xs,jq x/\itB x.r x.val.length=true)/\0<=lvl:=by
 unfold qv at h;split at h
 ·cases h
 ·unfold QD at h;split at h
  ·split at h
   ·cases h
   ·rename_i xs' r hr;split at h
    ·rename_i hm;simp only[Option.some.injEq,Prod.mk.injEq] at h;obtain⟨rfl,rfl⟩:=h;exact⟨hm.1,(XD hr).2,zO⟩
    ·cases h
  ·cases h
end Go.Proofs.YtpbniokljofedaaGreat
namespace Go.Proofs.YtpbniokljofedaaGreat

inductive Rch (ks:Nat->List Nat) (R:Nat->Prop):Nat->Prop
 |base {a:Nat}:R a->Rch ks R a
 |step {a b:Nat}:Rch ks R a->b∈ks a->Rch ks R b
theorem Rch.mono {ks:Nat->List Nat} {R R':Nat->Prop} (h:∀ a,R a->R' a) {a:Nat} (x:Rch ks R a):Rch ks R' a:=by
 induction x with
 |base r=>exact .base (h _ r)
 |step _ hb ih=>exact .step ih hb
theorem Rch.closed {ks:Nat->List Nat} {R M:Nat->Prop} (h:∀ a,R a->M a) (hc:∀ a,M a->∀ b∈ks a,M b) {a:Nat} (x:Rch ks R a):M a:=by
 induction x with
 |base r=>exact h _ r
 |step _ hb ih=>exact hc _ ih _ hb
def KO (M:Nat->Bool) (a:Nat):Nat->Bool:=fun b=>if b=a then true else M b
def TG (rs:Nat->List Nat) (M:Nat->Bool) (b:Nat):Nat->Nat
 |0=>0
 |n+1=>TG rs M b n+if M n=true then (rs n).count b else 0
def JP (M:Nat->Bool):Nat->Nat
 |0=>0
 |n+1=>JP M n+if M n=true then 0 else 1
theorem Uu {M M':Nat->Bool}:∀ n,(∀ a,a<n->M a=M' a)->JP M n=JP M' n
 |0,_=>rfl
 |n+1,h=>by unfold JP;rw[Uu n fun a ha=>h a zO,h n zO]
theorem qbr {rs:Nat->List Nat} {M:Nat->Bool} {a b:Nat} (h:M a=false):∀ n,TG rs (KO M a) b n=TG rs M b n+if a<n then (rs a).count b else 0
 |0=>rfl
 |n+1=>by
  unfold TG;rw[qbr h n];by_cases hn:n=a
  ·subst hn;simp[KO,h]
  ·simp only[KO,if_neg hn];by_cases ha:a<n
   ·rw[if_pos ha,if_pos (show a<n+1 by omega)];omega
   ·rw[if_neg ha,if_neg (show ¬a<n+1 by omega)];omega
theorem Xp {M:Nat->Bool} {a:Nat} (h:M a=false):∀ n,JP (KO M a) n+(if a<n then 1 else 0)=JP M n
 |0=>rfl
 |n+1=>by
  have hi:=Xp h n;show JP (KO M a) n+(if (if n=a then true else M n)=true then 0 else 1)+(if a<n+1 then 1 else 0)=JP M n+if M n=true then 0 else 1
  by_cases hn:n=a
  ·rw[<-hn] at h hi ⊢;rw[if_neg (Nat.lt_irrefl _)] at hi;rw[if_pos rfl,if_pos rfl,if_pos (Nat.lt_succ_self n),h,if_neg zA1];omega
  ·rw[if_neg hn];by_cases ha:a<n
   ·rw[if_pos ha] at hi;rw[if_pos (show a<n+1 by omega)];omega
   ·rw[if_neg ha] at hi;rw[if_neg (show ¬a<n+1 by omega)];omega
theorem qgx {rs:Nat->List Nat} {M:Nat->Bool} {b k:Nat}:∀ n,(∀ a,a<n->M a=true->(rs a).length<=k)->TG rs M b n+k*JP M n<=k*n
 |0,_=>by simp[TG,JP]
 |n+1,h=>by
  unfold TG JP;have:=qgx (b:=b) n fun a ha=>h a zO;rw[Nat.mul_add,Nat.mul_add];split
  ·rename_i hm;have h1:=h n zO hm;have h2:=List.count_le_length (a:=b) (l:=rs n);omega
  ·omega
theorem qad (M:Nat->Bool):∀ n,JP M n<=n
 |0=>zM _
 |n+1=>by unfold JP;have:=qad M n;split <;> omega
structure JD (ks rs:Nat->List Nat) (R:List Nat) (M:Nat->Bool) (refs:Nat->Nat) (stack:List Nat):Prop where
 reach:∀ a,M a=true->Rch ks (· ∈ R) a
 stk:∀ a∈stack,Rch ks (· ∈ R) a
 root:∀ a∈R,M a=true\/a∈stack
 kids:∀ a,M a=true->∀ b∈ks a,M b=true\/b∈stack
 sum:∀ b,refs b=R.count b+TG rs M b 256
theorem JD.nil {ks rs:Nat->List Nat} {M:Nat->Bool} {refs:Nat->Nat} (hM:∀ a,M a=false) (hr:∀ b,refs b=0):JD ks rs [] M refs []:=by
 have h0:∀ b n,TG rs M b n=0:=fun b n=>by
  induction n with
  |zero=>rfl
  |succ n ih=>unfold TG;rw[ih,hM];rfl
 have bT:∀ a,M a=true->False:=fun a h=>by have:=hM a;rw[h] at this;cases this
 exact { reach:=fun a h=>(bT a h).elim,stk:=fun a h=>(List.not_mem_nil h).elim,root:=fun a h=>(List.not_mem_nil h).elim,kids:=fun a h=>(bT a h).elim,sum:=fun b=>by rw[hr,h0];rfl }
theorem JD.add {ks rs:Nat->List Nat} {R:List Nat} {M:Nat->Bool} {refs refs':Nat->Nat} (h:JD ks rs R M refs []) (r:Nat) (hr:∀ b,refs' b=refs b+if b=r then 1 else 0):JD ks rs (R++[r]) M refs' [r]:=by
 refine⟨fun a ha=>(h.reach a ha).mono fun _ x=>List.mem_append_left _ x,fun a ha=>.base (List.mem_append_right _ ha),fun a ha=>?_,fun a ha b hb=>.inl ((h.kids a ha b hb).elim id fun x=>(List.not_mem_nil x).elim),fun b=>?_⟩
 ·rcases List.mem_append.1 ha with ha|ha
  ·exact .inl ((h.root a ha).elim id fun x=>(List.not_mem_nil x).elim)
  ·exact .inr ha
 ·rw[hr,h.sum,List.count_append];have:[r].count b=if b=r then 1 else 0:=by
   rw[List.count_singleton];by_cases hb:b=r
   ·subst hb;simp
   ·rw[if_neg hb,if_neg zA2]
  omega
theorem JD.again {ks rs:Nat->List Nat} {R:List Nat} {M:Nat->Bool} {refs:Nat->Nat} {s:List Nat} {a:Nat} (h:JD ks rs R M refs (s++[a])) (ha:M a=true):JD ks rs R M refs s:=by
 have key:∀ b,M b=true\/b∈s++[a]->M b=true\/b∈s:=by
  rintro b (hb|hb)
  ·exact .inl hb
  ·rcases List.mem_append.1 hb with hb|hb
   ·exact .inr hb
   ·rw[List.mem_singleton.1 hb];exact .inl ha
 exact⟨h.reach,fun b hb=>h.stk b (List.mem_append_left _ hb),fun b hb=>key b (h.root b hb),fun c hc b hb=>key b (h.kids c hc b hb),h.sum⟩
theorem JD.new {ks rs:Nat->List Nat} {R:List Nat} {M:Nat->Bool} {refs refs':Nat->Nat} {s:List Nat} {a:Nat} (h:JD ks rs R M refs (s++[a])) (ha:M a=false) (hl:a<256) (hr:∀ b,refs' b=refs b+(rs a).count b):JD ks rs R (KO M a) refs' (s++ks a):=by
 have hm:∀ b,M b=true->KO M a b=true:=by
  intro b hb;unfold KO;split
  ·rfl
  ·exact hb
 have hma:KO M a a=true:=by simp[KO]
 have hra:=h.stk a (List.mem_append_right _ (List.mem_singleton.2 rfl));have key:∀ b,M b=true\/b∈s++[a]->KO M a b=true\/b∈s++ks a:=by
  rintro b (hb|hb)
  ·exact .inl (hm b hb)
  ·rcases List.mem_append.1 hb with hb|hb
   ·exact .inr (List.mem_append_left _ hb)
   ·rw[List.mem_singleton.1 hb];exact .inl hma
 refine⟨fun b hb=>?_,fun b hb=>?_,fun b hb=>key b (h.root b hb),fun c hc b hb=>?_,fun b=>?_⟩
 ·unfold KO at hb;split at hb
  ·rename_i e;rw[e];exact hra
  ·exact h.reach b hb
 ·rcases List.mem_append.1 hb with hb|hb
  ·exact h.stk b (List.mem_append_left _ hb)
  ·exact .step hra hb
 ·unfold KO at hc;split at hc
  ·rename_i e;rw[e] at hb;exact .inr (List.mem_append_right _ hb)
  ·exact key b (h.kids c hc b hb)
 ·rw[hr,h.sum,qbr ha,if_pos hl];omega
theorem JD.done {ks rs:Nat->List Nat} {R:List Nat} {M:Nat->Bool} {refs:Nat->Nat} (h:JD ks rs R M refs []) (a:Nat):M a=true↔Rch ks (· ∈ R) a:=
 ⟨h.reach a,fun x=>x.closed (fun a ha=>(h.root a ha).elim id fun x=>(List.not_mem_nil x).elim) fun a ha b hb=>(h.kids a ha b hb).elim id fun x=>(List.not_mem_nil x).elim⟩
structure jy (ks rs:Nat->List Nat) (R:List Nat) (M:Nat->Bool) (refs:Nat->Nat):Prop where
 reach:∀ a,M a=true->Rch ks (· ∈ R) a
 root:∀ a∈R,M a=true
 kids:∀ a,M a=true->∀ b∈ks a,M b=true
 sum:∀ b,refs b=R.count b+TG rs M b 256
theorem jy.walk {ks rs:Nat->List Nat} {R:List Nat} {M:Nat->Bool} {refs:Nat->Nat}:jy ks rs R M refs↔JD ks rs R M refs []:=
 ⟨fun h=>⟨h.reach,fun _ ha=>(List.not_mem_nil ha).elim,fun a ha=>.inl (h.root a ha),fun a ha b hb=>.inl (h.kids a ha b hb),h.sum⟩,
  fun h=>⟨h.reach,fun a ha=>(h.root a ha).elim id fun x=>(List.not_mem_nil x).elim,fun a ha b hb=>(h.kids a ha b hb).elim id fun x=>(List.not_mem_nil x).elim,h.sum⟩⟩
theorem jy.same {ks rs:Nat->List Nat} {R:List Nat} {M M':Nat->Bool} {r r':Nat->Nat} (h:jy ks rs R M r) (h':jy ks rs R M' r'):M=M'/\r=r':=by
 have e:M=M':=by funext a;have h1:=(jy.walk.1 h).done a;have h2:=(jy.walk.1 h').done a;exact Bool.eq_iff_iff.2 (h1.trans h2.symm)
 refine⟨e,?_⟩;funext b;rw[h.sum,h'.sum,e]
end Go.Proofs.YtpbniokljofedaaGreat
namespace Go.Proofs.YtpbniokljofedaaGreat
open Go.RowKit
def vO (S:Sto) (a:Nat):List Nat:=match qv S a with
 |none=>[]
 |some (_,xs)=>(xs.map fun y=>y.r.toNat).filter fun r=>r != 0
def vI (S:Sto) (a:Nat):List Nat:=match qv S a with
 |none=>[]
 |some (lvl,_)=>if 0<lvl then vO S a else []
def Kj (S:Sto) (a:Nat):Prop:=8<=a/\a<256/\∃ (lvl:Nat) (xs:List It),qv S a=some ((lvl:Int),xs)/\(Qg S lvl xs).isSome=true
theorem VU {S:Sto} {r:Int} (h:okL S (-1) r=true):∃ a:Nat,r=(a:Int)/\Kj S a:=by
 unfold okL at h;split at h
 ·rename_i hr;obtain⟨a,rfl⟩:=Int.eq_ofNat_of_zero_le (show 0<=r by omega);refine⟨a,rfl,zO,zO,?_⟩;rw[Int.toNat_natCast] at h;rcases hn:qv S a with _|⟨lvl,xs⟩
  ·rw[hn] at h;cases h
  ·rw[hn] at h;obtain⟨-,-,h0⟩:=Qc hn;obtain⟨l,rfl⟩:=Int.eq_ofNat_of_zero_le h0;simp only[Int.toNat_natCast,Bool.and_eq_true] at h;exact⟨l,xs,rfl,h.1⟩
 ·cases h
theorem qaX (one:It->Option (K3×K3)):∀ (xs:List It) (a:Option (Option (K3×K3))),(xs.foldl (Yd one) a).isSome=true->a.isSome=true/\∀ y∈xs,(one y).isSome=true
 | [],a,h=>⟨h,fun _ hy=>(List.not_mem_nil hy).elim⟩
 |x :: r,a,h=>by
  obtain⟨h1,h2⟩:=qaX one r _ h;unfold Yd at h1;rcases a with _|a
  ·cases h1
  ·rcases hx:one x with _|q
   ·rw[hx] at h1;cases h1
   ·refine⟨rfl,fun y hy=>?_⟩;rcases List.mem_cons.1 hy with rfl|hy
    ·rw[hx];rfl
    ·exact h2 y hy
theorem JO {S:Sto} {h:Nat} {xs:List It} (hs:(Qg S h xs).isSome=true):∀ y∈xs,(Vx S h y).isSome=true:=(qaX _ xs _ hs).2
theorem Jb {S:Sto} {h:Nat} {y:It} (hy:(Vx S (h+1) y).isSome=true):∃ b:Nat,y.r=(b:Int)/\8<=b/\b<256/\∃ xs,qv S b=some ((h:Int),xs)/\(Qg S h xs).isSome=true:=by
 rw[Yq] at hy;unfold Vu at hy;split at hy
 ·rename_i hr;obtain⟨b,hb⟩:=Int.eq_ofNat_of_zero_le (show 0<=y.r by omega);rw[hb,Int.toNat_natCast] at hy;refine⟨b,hb,zO,zO,?_⟩;rcases hn:qv S b with _|⟨lvl,xs⟩
  ·rw[hn] at hy;cases hy
  ·rw[hn] at hy;simp only at hy;split at hy
   ·rename_i hl;refine⟨xs,by rw[hl],?_⟩;rcases hs:Qg S h xs with _|q
    ·rw[hs] at hy;cases hy
    ·rfl
   ·cases hy
 ·cases hy
theorem qdD {S:Sto} {a b lvl:Nat} {xs:List It} (hn:qv S a=some ((lvl:Int),xs)) (hb:b∈vI S a):0<lvl/\∃ y∈xs,b=y.r.toNat/\b≠0:=by
 unfold vI at hb;rw[hn] at hb;simp only at hb;split at hb
 ·unfold vO at hb;rw[hn] at hb;simp only[List.mem_filter,List.mem_map,bne_iff_ne,ne_eq] at hb;obtain⟨⟨y,hy,rfl⟩,h0⟩:=hb;exact⟨zO,y,hy,rfl,h0⟩
 ·cases hb
theorem qhe {S:Sto} {a b:Nat} (h:Kj S a) (hb:b∈vI S a):Kj S b:=by
 obtain⟨h1,h2,lvl,xs,h3,h4⟩:=h;obtain⟨h5,y,hy,rfl,-⟩:=qdD h3 hb;obtain⟨l,rfl⟩:∃ l,lvl=l+1:=⟨lvl-1,zO⟩
 obtain⟨b,e,h6,h7,ys,h8,h9⟩:=Jb (JO h4 y hy);rw[e,Int.toNat_natCast];exact⟨h6,h7,l,ys,h8,h9⟩
theorem qed {S:Sto} {a:Nat}:(vO S a).length<=5:=by
 unfold vO;rcases hn:qv S a with _|⟨lvl,xs⟩
 ·simp
 ·have h:=(Qc hn).1;unfold Qe jv at h;simp at h;simp only;refine Nat.le_trans (List.length_filter_le _ _) ?_;rw[List.length_map];omega
theorem qhf {S:Sto} {lo:Nat} {w:World} {f:Int->Option Value} (hk:qaR S lo w f) {a b:Nat} (h:Kj S a) (hf:(f (a:Int)).isSome=true) (hb:b∈vI S a):(f (b:Int)).isSome=true:=by
 obtain⟨h1,h2,lvl,xs,h3,h4⟩:=h;obtain⟨v,hv⟩:=Option.isSome_iff_exists.1 hf;obtain⟨n,lvl',xs',A,c,fk,lk,b',e,-,-,h5,-,-,h6,h7⟩:=hk _ _ hv;obtain rfl:a=n:=zO;rw[h3,Option.some.injEq,Prod.mk.injEq] at h5;obtain⟨e1,rfl⟩:=h5;obtain rfl:lvl=lvl':=zO;obtain⟨h0,y,hy,rfl,hz⟩:=qdD h3 hb;have:=h7 (by rw[h6.1,h4]) h0 y hy
 rwa [show ((y.r.toNat:Nat):Int)=y.r by omega]
theorem Bys.keepF {w w':World} {B:Nat} {v:Value} {l:List UInt8} (h:Bys w B v l) (hk:∀ q:Addr,q.block<B->(∃ A n c,v=.slice (some A) n c/\q.block=A.block)->w'.cell? q=w.cell? q):Bys w' B v l:=by obtain⟨A,c,e,hc,hm,hr⟩:=h;refine⟨A,c,e,hc,hm,hr.1,fun hn=>?_⟩;obtain⟨b,off,hA,hb,aF⟩:=hr.2 hn;exact⟨b,off,hA,hb,fun j u hu=>(hk ⟨b,off+j,none⟩ hb ⟨⟨b,off,none⟩,_,c,by rw[e,hA],rfl⟩).trans (aF j u hu)⟩
structure Off (B cb:Nat) (w w':World):Prop where
 os:w'.os=w.os
 tape:w'.tape=w.tape
 output:w'.output=w.output
 size:B<=w'.heap.size
 block:∀ k,k<B->k≠cb->w'.heap[k]?=w.heap[k]?
theorem Off.refl {B cb:Nat} {w:World} (h:B<=w.heap.size):Off B cb w w:=⟨rfl,rfl,rfl,h,fun _ _ _=>rfl⟩
theorem Off.cell {B cb:Nat} {w w':World} (h:Off B cb w w') {q:Addr} (hq:q.block<B) (hc:q.block≠cb):w'.cell? q=w.cell? q:=World.cell?_of_block (h.block _ hq hc)
theorem Off.setCell {B cb:Nat} {w w':World} (h:Off B cb w w') {p:Addr} (hp:p.block=cb\/B<=p.block) (u:Value):Off B cb w (w'.setCell p u):=
 ⟨h.os,h.tape,h.output,by simpa using h.size,fun k hk hc=>(zJ _ _ _ _ (fun e=>zO)).trans (h.block k hk hc)⟩
theorem Off.grown {B cb:Nat} {w w' w'':World} {row:Option Nat} (h:Off B cb w w') (hg:w'.grownBy w'' row) (hr:∀ g,row=some g->g=cb\/B<=g):Off B cb w w'':=
 ⟨hg.os.trans h.os,hg.tape.trans h.tape,hg.output.trans h.output,Nat.le_trans h.size hg.size,fun k hk hc=>(hg.block k (Nat.lt_of_lt_of_le hk h.size) (fun e=>by rcases hr k e.symm with e|e <;> omega)).trans (h.block k hk hc)⟩
abbrev CP.put (p:CP) (ca:Array Value):CP:={ p with ca:=ca }
theorem Cen.put {p:CP} {w w':World} {f:Int->Option Value} (h:Cen p w f) {B:Nat} (hB:w.heap.size=B) (hO:Off B p.cb w w') {ca:Array Value} (hr:w'.heap[p.cb]?=some (.cells ca 84 (0,0))) (hc:∀ i,i<6->ca[i]?=p.ca[i]?):Cen (p.put ca) w' f:=by
 subst hB;have hl:=h.low;have hk:∀ q:Addr,q.block<p.sb->w'.cell? q=w.cell? q:=fun q hq=>hO.cell zO zO;exact {
  row:=hr
  c0:=(hc 0 zO).trans h.c0
  c1:=(hc 1 zO).trans h.c1
  c2:=(hc 2 zO).trans h.c2
  c3:=(hc 3 zO).trans h.c3
  c4:=(hc 4 zO).trans h.c4
  c5:=(hc 5 zO).trans h.c5
  map:=h.map.of_heap (hO.block p.mb zO zO)
  known:=fun a v hv=>(h.known a v hv).keep (zM _) hO.size (fun q h1 h2=>hO.cell h2 (show q.block≠p.cb by omega)) (fun _ h=>h)
  sto:=h.sto.keep hk
  on:=(hO.block p.bb zO zO).trans h.on
  onb:=h.onb.keep hk
  onw:=h.onw.keep hk
  onl:=h.onl.keep hk
  onn:=(h.onn.keepF fun q hq ⟨A,n,c,e,e'⟩=>hO.cell hq (by rw[e'];exact h.onf A n c e)).more hO.size
  onf:=h.onf
  low:=⟨hl.1,hl.2.1,hl.2.2.1,hl.2.2.2.1,hl.2.2.2.2.1,Nat.le_trans hl.2.2.2.2.2.1 hO.size,hl.2.2.2.2.2.2⟩
  may:=h.may }
end Go.Proofs.YtpbniokljofedaaGreat
