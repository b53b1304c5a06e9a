/- Texts Done, NRead, Told3, Told4, NReadR, Concat, joined. -/
import Derived.Lib.AppendZerosOnto
import Derived.Lib.Walk
import Derived.Test.YtpbniokljofedaaGreatZH04
set_option linter.unusedSimpArgs false
set_option linter.unusedVariables false
set_option maxHeartbeats 8000000
open Go.Proofs.Tryz
namespace Go.Proofs.YtpbniokljofedaaGreat
open Go.RowKit
def Done (base:Nat) (e:TypeId) (size lo:Nat) (v:Value) (m:Nat) (ys:List Value) (v':Value) (W:World):Prop:=
 W.ownsRow base e size v' m ys/\(v'.ownBlock=v.ownBlock\/∃ g,v'.ownBlock=some g/\lo<=g)
def Vo (base:Nat) (e:TypeId) (size lo:Nat) (v:Value) (n:Nat) (xs:List Value) (m:Nat) (ys:List Value):Rel where
 rel W W':=W.grownBy W' v.ownBlock/\(W.ownsRow base e size v n xs->W'.ownsRow base e size v n xs)/\∀ v',Done base e size lo v m ys v' W->Done base e size lo v m ys v' W'
 refl' W:=⟨World.grownBy.refl _ _,id,fun _=>id⟩
 trans' h k:=⟨h.1.trans k.1,fun x=>k.2.1 (h.2.1 x),fun v' x=>k.2.2 v' (h.2.2 v' x)⟩
 drew' W:=⟨⟨rfl,rfl,rfl,zM _,fun _ _ _=>rfl⟩,fun h=>h.drew,fun v' h=>⟨h.1.drew,h.2⟩⟩
section
variable {base:Nat} {e:TypeId} {size lo:Nat} {v:Value} {n:Nat} {xs:List Value} {m:Nat} {ys:List Value}
theorem zv {W W':World} (h:Ext W W') (row:Option Nat):W.grownBy W' row:=⟨h.os,h.tape,h.output,h.size,fun k hk _=>h.block k hk⟩
theorem YL {W W':World} (h:Ext W W'):(Vo base e size lo v n xs m ys).r W W':=
 ⟨zv h _,fun x=>QM x h,fun _ x=>⟨QM x.1 h,x.2⟩⟩
theorem jh {W W':World} (h:(Vo base e size lo v n xs m ys).r W W') {p:Addr} {u:Value} (hp:v.ownBlock≠some p.block) (hc:W.cell? p=some u):W'.cell? p=some u:=
 World.grownBy.cell h.1 hc (fun x=>hp x.symm)
theorem vB {W W':World} (h:(Vo base e size lo v n xs m ys).r W W') {b:Nat} {o:Obj} (hp:v.ownBlock≠some b) (hc:W.heap[b]?=some o):W'.heap[b]?=some o:=
 (h.1.block b (zG.1 hc).1 (fun x=>hp x.symm)).trans hc
theorem Xb {w:World} {g cap m:Nat} {news:List Value} (h:w.ownsRow base e size (.slice (some ⟨g,0,none⟩) (n+m) cap) (n+m) (xs++news)) (hx:xs.length=n*size):w.ownsRow base e size (.slice (some ⟨g,0,none⟩) n cap) n xs:=by
 refine⟨hx,?_⟩;rcases h.2 with ⟨h0,_⟩|⟨g',cap',cur,hv,hb,hg,fO,dw,bU,mZ⟩
 ·simp at h0
 ·simp only[Value.slice.injEq,Option.some.injEq,Addr.mk.injEq,and_true,true_and] at hv;obtain⟨rfl,rfl⟩:=hv;refine .inr ⟨g,cap,cur,rfl,hb,hg,zO,dw,bU,?_⟩;have:cur.toList.take (n*size)=(cur.toList.take ((n+m)*size)).take (n*size):=by rw[List.take_take,Nat.min_eq_left (Nat.mul_le_mul_right _ (Nat.le_add_right _ _))]
  rw[this,mZ,<-hx,List.take_left]
theorem Kc {P:Program} (W:World) (t ty:TypeId) (i:TypeInfo) (z:Value) (bytes:Nat) (ht:P.underlying t=some (.slice e)) (hi:P.info? e=some i) (hz:i.zero=some z) (dm:i.size=size) (ai:i.bytes=bytes) (hzs:z.cells.size=size) (hsz:0<size) (aB:W.ownsRow base e size v n xs) (a:Addr) (k c:Nat) (news:List Value) (hl:news.length=k*size) (hAK:∀ j u,news[j]?=some u->W.cell? (a.add j)=some u) (h1:∀ u∈news,u.oneCell'=true) (hn:n+k<1073741824) (dX:bytes<=65536) (lS:base<=W.heap.size) (aO:lo<=W.heap.size) : ∃ v' w',(Builtin.append_ #[t,t] ty #[v,.slice (some a) k c]).run P W=.ok v' w'/\Done base e size lo v (n+k) (xs++news) v' w'/\(Vo base e size lo v n xs (n+k) (xs++news)).r W w':=by
 have hb:(n+k)*bytes<=140737488355328:=Nat.le_trans (Nat.mul_le_mul_left _ dX) zO;have hm:n+k<=maxLen:=zA7;obtain⟨v',w',hr,h2,h3,_,h5⟩:=run_append_own_at (P:=P) W base t ty e i z size bytes ht hi hz dm ai hzs hsz v n xs aB a k c news hl hAK h1 hm hb lS;have hD:Done base e size lo v (n+k) (xs++news) v' w':=⟨h2,h5.imp id fun e=>⟨_,e,aO⟩⟩
 rcases aB.2 with ⟨rfl,rfl⟩|⟨g,cap,cur,rfl,yh,hg,fO,dw,bU,mZ⟩
 ·exact⟨v',w',hr,hD,YL ⟨h3.os,h3.tape,h3.output,h3.size,fun k hk=>h3.block k hk (by simp[Value.ownBlock])⟩⟩
 ·by_cases hroom:n+k<=cap
  ·obtain⟨w2,hr2,g2,g3⟩:=run_append_fits (P:=P) W base t ty e i size ht hi dm g n cap xs aB a k c news hl hAK h1 hroom;refine⟨_,w2,hr2,⟨g2,.inl rfl⟩,g3,fun _=>Xb g2 aB.1,fun u hu=>⟨?_,hu.2⟩⟩;rcases hu.1.2 with h0|⟨g',cap',cur',rfl,hbg',hg',hnc',hcm',hcs',htk'⟩
   ·exact⟨hu.1.1,.inl h0⟩
   ·by_cases hgg:g'=g
    ·subst hgg;rw[hg] at hg';simp only[Option.some.injEq,Obj.cells.injEq] at hg';obtain⟨rfl,_⟩:=hg';obtain rfl:cap'=cap:=by
      have:cap'*size=cap*size:=by rw[<-hcs',<-bU]
      exact Nat.eq_of_mul_eq_mul_right hsz this
     exact g2
    ·exact⟨hu.1.1,.inr ⟨g',cap',cur',rfl,hbg',(g3.block g' (zG.1 hg').1 (by simpa using hgg)).trans hg',hnc',hcm',hcs',htk'⟩⟩
  ·have holds:∀ j u,xs[j]?=some u->W.cell? ((⟨g,0,none⟩:Addr).add j)=some u:=aB.cells (g:=g) rfl;subst dm;subst ai;have lK:=run_append_grow (P:=P) W t ty e i z ht hi hz ⟨g,0,none⟩ n cap xs aB.1 holds a k c news hl hAK zO (by unfold maxLen at hm;omega) (growslice_fits zO hb);rw[hr] at lK;cases lK;exact⟨_,_,hr,hD,YL ((Ext.drew W).trans (zN _ _))⟩
def XG (base:Nat) (e:TypeId) (size lo:Nat) (v:Value) (m:Nat) (ys:List Value):qS:=⟨Value,fun u=>u,fun u W=>Done base e size lo v m ys u W⟩
theorem Qy (base:Nat) (e:TypeId) (size lo:Nat) (v:Value) (m:Nat) (ys:List Value) (u:Value):(XG base e size lo v m ys).f u=u:=rfl
theorem Gw:∀ p,qB (Vo base e size lo v n xs m ys) ((XG base e size lo v m ys).φ p):=fun p _ _ he h=>he.2.2 p h
def jm (lo n:Nat) (ty:TypeId) (cs:Array Value):qS:=⟨Nat,fun b=>.slice (some ⟨b,0,none⟩) n n,fun b W=>W.heap[b]?=some (.cells cs ty (0,0))/\lo<=b⟩
theorem qN (lo n:Nat) (ty:TypeId) (cs:Array Value) (b:Nat):(jm lo n ty cs).f b=.slice (some ⟨b,0,none⟩) n n:=rfl
theorem Jw (lo n:Nat) (ty:TypeId) (cs:Array Value):∀ p,QJ ((jm lo n ty cs).φ p):=fun p W W' he h =>
 ⟨(Below.block he p (zG.1 h.1).1).trans h.1,h.2⟩
theorem KE {lo' n':Nat} {ty:TypeId} {cs:Array Value} (aO:∀ g,v.ownBlock=some g->g<lo'):∀ p,qB (Vo base e size lo v n xs m ys) ((jm lo' n' ty cs).φ p):=fun p _ _ he h =>
 ⟨vB he (fun x=>by have:=aO p x;have:=h.2;omega) h.1,h.2⟩
theorem kz {P:Program} {o:Oper} {a:Act} {W:World} {lo' n':Nat} {ty:TypeId} {cs:Array Value} (hr:(execOp a.eval o).run P W=.ok (.value (.slice (some ⟨W.heap.size,0,none⟩) n' n')) (W.alloc (.cells cs ty))) (aO:lo'<=W.heap.size):jX P o a W (jm lo' n' ty cs):=by
 unfold jX;rw[hr];exact⟨W.heap.size,rfl,⟨zI _ _ _ rfl,aO⟩,zN _ _⟩
theorem TH {P:Program} {o:Oper} {a:Act} {W:World} {lo' n':Nat} {ty:TypeId} {cs:Array Value} (hr:(execOp a.eval o).run P W=.ok (.value (.slice (some ⟨W.heap.size,0,none⟩) n' n')) (W.alloc (.cells cs ty))) (aO:lo'<=W.heap.size):QC (Vo base e size lo v n xs m ys) P o a W (jm lo' n' ty cs):=by
 unfold QC;rw[hr];exact⟨W.heap.size,rfl,⟨zI _ _ _ rfl,aO⟩,YL (zN _ _)⟩
theorem qdP {W:World} {b:Nat} {cs:Array Value} {t:TypeId} (h:W.heap[b]?=some (.cells cs t (0,0))):∀ j u,cs.toList[j]?=some u->W.cell? ((⟨b,0,none⟩:Addr).add j)=some u:=by
 intro j u hj;have h2:W.cell? ⟨b,0+j,none⟩=some u:=by rw[qa h];simpa using hj
 rw[<-h2];unfold Addr.add;split
 ·subst_vars;rfl
 ·rfl
theorem Ve {w:World} {base n size:Nat} {e:TypeId} {v:Value} {xs:List Value} (h:w.ownsRow base e size v n xs) {p:Addr} (hp:p.block<base) (u:Value):(w.setCell p u).ownsRow base e size v n xs:=by
 refine⟨h.1,?_⟩;rcases h.2 with h0|⟨g,cap,cur,hv,hb,hg,rest⟩
 ·exact .inl h0
 ·exact .inr ⟨g,cap,cur,hv,hb,(zJ _ _ _ _ zO).trans hg,rest⟩
end
def Yp (v u:Value):Prop:=∀ a n c,u=.slice (some a) n c->0<n->v.ownBlock≠some a.block
theorem Bys.grown {w w':World} {u:Value} {l:List UInt8} {row:Option Nat} (h:Bys w w.heap.size u l) (hg:w.grownBy w' row) (ha:∀ a n c,u=.slice (some a) n c->0<n->row≠some a.block):Bys w' w'.heap.size u l:=by obtain⟨A,c,e,hc,hm,hr⟩:=h;refine⟨A,c,e,hc,hm,hr.1,fun hn=>?_⟩;obtain⟨b,off,rfl,hb,aF⟩:=hr.2 hn;refine⟨b,off,rfl,Nat.lt_of_lt_of_le hb hg.size,fun j x hx=>?_⟩;exact World.grownBy.cell hg (aF j x hx) (fun x=>ha _ _ _ e hn x.symm)
theorem Yp.of_from {v u:Value} {lo:Nat} (hf:Zb lo u) (hv:∀ g,v.ownBlock=some g->g<lo):Yp v u:=by intro a n c e _ hx;have:=hv _ hx;have:=hf a n c e;omega
theorem Ql {w:World} {base n size:Nat} {e:TypeId} {v:Value} {xs:List Value} (h:w.ownsRow base e size v n xs):∀ g,v.ownBlock=some g->base<=g/\g<w.heap.size:=by
 intro g hg;rcases h.2 with ⟨rfl,_⟩|⟨g',cap,cur,rfl,hb,hg',_⟩
 ·simp[Value.ownBlock] at hg
 ·simp only[Value.ownBlock,Option.some.injEq] at hg;subst hg;exact⟨hb,(zG.1 hg').1⟩
theorem qy {w:World} {base n size:Nat} {e:TypeId} {v:Value} {xs:List Value} (h:w.ownsRow base e size v n xs):∃ A c,v=.slice A n c/\n<=c/\c<=maxLen:=by
 rcases h.2 with ⟨rfl,h0⟩|⟨g,cap,cur,rfl,_,_,fO,dw,_⟩
 ·exact⟨none,0,by rw[h0],zO,by simp[maxLen]⟩
 ·exact⟨_,cap,rfl,fO,dw⟩
def Zt (lo:Nat) (w:World) (v:Value) (xs:List It):Prop:=
 ∃ ps:List (It×Value),ps.map (·.1)=xs/\(∃ A c,v=.slice A xs.length c/\xs.length<=c/\c<=maxLen/\Rd w w.heap.size 5 A xs.length (qO ps))/\(∀ p∈ps,(∃ A c,p.2=.slice A p.1.val.length c)/\Bys w w.heap.size p.2 p.1.val)/\Zb lo v/\∀ p∈ps,Zb lo p.2
theorem Zt.its {lo:Nat} {w:World} {v:Value} {xs:List It} (h:Zt lo w v xs):Its w w.heap.size v xs:=by obtain⟨ps,h1,h2,h3,_⟩:=h;exact⟨ps,h1,h2,h3⟩
theorem Zt.mono {lo lo':Nat} {w:World} {v:Value} {xs:List It} (h:Zt lo w v xs) (hl:lo'<=lo):Zt lo' w v xs:=by obtain⟨ps,h1,h2,h3,h4,h5⟩:=h;exact⟨ps,h1,h2,h3,h4.mono hl,fun p hp=>(h5 p hp).mono hl⟩
theorem Zt.keep {lo:Nat} {w w':World} {v:Value} {xs:List It} (h:Zt lo w v xs) (hs:w.heap.size<=w'.heap.size) (hk:∀ p:Addr,lo<=p.block->p.block<w.heap.size->w'.cell? p=w.cell? p):Zt lo w' v xs:=by
 have key:∀ {size n:Nat} {A:Option Addr} {us:List Value} {c:Nat},Rd w w.heap.size size A n us->Zb lo (.slice A n c)->Rd w' w'.heap.size size A n us:=by intro size n A us c hr hf;refine⟨hr.1,fun hn=>?_⟩;obtain⟨b,off,rfl,hb,aF⟩:=hr.2 hn;exact⟨b,off,rfl,Nat.lt_of_lt_of_le hb hs,fun j x hx=>(hk ⟨b,off+j,none⟩ (hf ⟨b,off,none⟩ _ _ rfl) hb).trans (aF j x hx)⟩
 obtain⟨ps,h1,⟨A,c,e,h2,h3,h4⟩,h5,h6,h7⟩:=h;refine⟨ps,h1,⟨A,c,e,h2,h3,key h4 (by rw[<-e];exact h6)⟩,fun p hp=>⟨(h5 p hp).1,?_⟩,h6,h7⟩;obtain⟨_,A',c',e',g2,g3,g4⟩:=h5 p hp;exact⟨A',c',e',g2,g3,key g4 (by rw[<-e'];exact h7 p hp)⟩
theorem Zt.ext {lo:Nat} {w w':World} {v:Value} {xs:List It} (h:Zt lo w v xs) (hx:Ext w w'):Zt lo w' v xs:=h.keep hx.size fun _ _ hp=>Below.cell hx hp
abbrev Gc (x:It) (u:Value):List Value:=[.int .u8 x.k,.int .u32 x.i,.int .u32 x.o,.int .i64 x.r,u]
theorem qcO (ps:List (It×Value)) (x:It) (u:Value):qO (ps++[(x,u)])=qO ps++Gc x u:=by rw[Ju];rfl
def Kh (base lo:Nat) (w:World) (v:Value) (ps:List (It×Value)):Prop:=
 w.ownsRow base 68 5 v ps.length (qO ps)/\∀ p∈ps,((∃ A c,p.2=.slice A p.1.val.length c)/\Zb lo p.2)/\Bys w w.heap.size p.2 p.1.val/\Yp v p.2
theorem Kh.nil (base lo:Nat) (w:World):Kh base lo w (.slice none 0 0) []:=⟨World.ownsRow_nil _ _ _ _,fun _ h=>by cases h⟩
theorem Kh.ext {base lo:Nat} {w w':World} {v:Value} {ps:List (It×Value)} (h:Kh base lo w v ps) (hx:Ext w w'):Kh base lo w' v ps:=
 ⟨QM h.1 hx,fun p hp=>⟨(h.2 p hp).1,((h.2 p hp).2.1.below hx).more hx.size,(h.2 p hp).2.2⟩⟩
theorem Kh.push {base lo lo2:Nat} {w W:World} {v v':Value} {ps:List (It×Value)} (h:Kh base lo w v ps) (x:It) (A:Option Addr) (c:Nat) (hb:Bys w w.heap.size (.slice A x.val.length c) x.val) (hf:Zb lo (.slice A x.val.length c)) (ha:Yp v (.slice A x.val.length c)) (hl:lo2=w.heap.size) (hD:Done base 68 5 lo2 v (ps.length+1) (qO ps++Gc x (.slice A x.val.length c)) v' W) (hg:w.grownBy W v.ownBlock):Kh base lo W v' (ps++[(x,.slice A x.val.length c)]):=by
 subst hl;refine⟨by rw[qcO,List.length_append];exact hD.1,?_⟩;have key:∀ u l,Bys w w.heap.size u l->Yp v u->Bys W W.heap.size u l/\Yp v' u:=by
  intro u l hu hau;refine⟨hu.grown hg hau,fun a n c e hn=>?_⟩;rcases hD.2 with h1|⟨g,h1,h2⟩
  ·rw[h1];exact hau a n c e hn
  ·rw[h1];intro hx;simp only[Option.some.injEq] at hx;obtain⟨A',c',e',_,_,hr⟩:=hu;rw[e] at e';simp only[Value.slice.injEq] at e';obtain⟨e1,e2,_⟩:=e';obtain⟨b,off,e3,hbb,_⟩:=hr.2 zO;rw[<-e1] at e3;simp only[Option.some.injEq] at e3;rw[e3] at hx;simp at hx;omega
 intro p hp;rcases List.mem_append.1 hp with hp|hp
 ·have:=h.2 p hp;exact⟨this.1,key _ _ this.2.1 this.2.2⟩
 ·obtain rfl:p=(x,.slice A x.val.length c):=by simpa using hp
  exact⟨⟨⟨_,_,rfl⟩,hf⟩,key _ _ hb ha⟩
theorem Kh.setCell {base lo:Nat} {w:World} {v:Value} {ps:List (It×Value)} (h:Kh base lo w v ps) {p:Addr} (hp:p.block<base) (hl:p.block<lo) (u:Value):Kh base lo (w.setCell p u) v ps:=
 ⟨Ve h.1 hp u,fun q hq=>⟨(h.2 q hq).1,by simpa using (h.2 q hq).2.1.setCell (h.2 q hq).1.2 hl u,(h.2 q hq).2.2⟩⟩
theorem Kh.its {base lo:Nat} {w:World} {v:Value} {ps:List (It×Value)} (h:Kh base lo w v ps) (hl:lo<=base):Zt lo w v (ps.map (·.1))/\∃ A c,v=.slice A ps.length c:=by
 have hf:Zb base v:=Zb.of_own h.1;obtain⟨A,c,e,h1,h2⟩:∃ A c,v=.slice A ps.length c/\ps.length<=c/\c<=maxLen:=by
  rcases h.1.2 with ⟨rfl,h0⟩|⟨g,cap,cur,rfl,_,_,fO,dw,_⟩
  ·exact⟨none,0,by rw[h0],zO,by simp[maxLen]⟩
  ·exact⟨_,cap,rfl,fO,dw⟩
 refine⟨⟨ps,rfl,⟨A,c,by rw[List.length_map];exact e,by rw[List.length_map];exact h1,h2,?_⟩,fun p hp=>⟨(h.2 p hp).1.1,(h.2 p hp).2.1⟩,hf.mono hl,fun p hp=>(h.2 p hp).1.2⟩,A,c,e⟩;rw[List.length_map];have:=h.1;rw[e] at this;exact Rd.of_own this
theorem Xu {w:World} {lo:Nat} {xs:List It} {A:Option Addr} {n' c':Nat} (h:Zt lo w (.slice A n' c') xs) (b off n c:Nat) (j:Nat) (e:(Value.slice A n' c')=.slice (some ⟨b,off,none⟩) n c) (hn:0<n):lo<=(⟨b,j,none⟩:Addr).block:=by obtain⟨ps,h1,h2,h3,h4,h5⟩:=h;exact h4 ⟨b,off,none⟩ _ _ e
theorem qbH {l:List UInt8} {k:Nat} (h:QQ l k=none):∀ m,k<=m->QQ l m=none:=by
 intro m hm;induction m with
 |zero =>
  obtain rfl:k=0:=zO;exact h
 |succ m ih =>
  rcases Nat.lt_or_ge k (m+1) with h'|h'
  ·unfold QQ;rw[ih zO]
  ·obtain rfl:k=m+1:=zO;exact h
theorem Xt {l r:List UInt8} {k:Nat} {xs:List It} (h:QQ l k=some (xs,r)):QQ l (k+1)=match Ze r with|none=>none|some (x,n)=>some (xs++[x],r.drop n):=by
 conv=>lhs;unfold QQ
 rw[h] <;> rfl
theorem qdk {l r:List UInt8} {k:Nat} {xs:List It} (h:QQ l k=some (xs,r)) (hr:Ze r=none):∀ m,k<m->QQ l m=none:=by
 intro m hm;have:QQ l (k+1)=none:=by rw[Xt h,hr]
 exact qbH this m zO
theorem qbG {l r:List UInt8} {k n:Nat} {xs:List It} {x:It} (h:QQ l k=some (xs,r)) (hr:Ze r=some (x,n)):QQ l (k+1)=some (xs++[x],r.drop n):=by rw[Xt h,hr]
def kG (p0 p1 p2:Nat) (l7:List UInt8):Option (Int×List It):=
 if p0=78/\p2<=5 then
  match QQ l7 p2 with
  |none=>none
  |some (xs,r)=>if Qc p1 xs=true/\VX r=true then some ((p1:Int),xs) else none
 else none
theorem qdy {l:List UInt8} (hl:l.length=128) (hs:qbg l=true):QD l=kG (l[4]?.getD 0).toNat (l[5]?.getD 0).toNat (l[6]?.getD 0).toNat (l.drop 7):=by
 unfold QD kG;have:(l[4]?.getD 0)=78↔(l[4]?.getD 0).toNat=78:=by
  constructor
  ·intro h;rw[h];rfl
  ·intro h;exact UInt8.toNat.inj h
 simp only[hl,hs,this,true_and] <;> rfl
theorem qdv {p0 p1 p2:Nat} {l7:List UInt8} (h:¬(p0=78/\p2<=5)):kG p0 p1 p2 l7=none:=by unfold kG;rw[if_neg h]
theorem qdw {p1 p2:Nat} {l7:List UInt8} (h:QQ l7 p2=none):kG 78 p1 p2 l7=none:=by
 unfold kG;split
 ·rw[h]
 ·rfl
theorem qdx {p1 p2:Nat} {l7 r:List UInt8} {xs:List It} (h2:p2<=5) (h:QQ l7 p2=some (xs,r)):kG 78 p1 p2 l7=if Qc p1 xs=true/\VX r=true then some ((p1:Int),xs) else none:=by unfold kG;rw[if_pos ⟨rfl,h2⟩,h]
theorem kA {l r:List UInt8} {k:Nat} {xs:List It} (h:QQ l k=some (xs,r)) (hk:k<=5) (hl:l.length=121):0<r.length/\r.length<=121:=by
 obtain⟨e,hx⟩:=Xs h;have h1:=Xr xs fun x hx'=>(hx x hx').1;have h2:=TN h;have h3:l.length=(ZP xs).length+r.length:=by rw[e,List.length_append]
 omega
def UH (lo:Nat) (q:Option (Int×List It)) (u:Value) (W:World):Prop:=
 match q with
 |none=>∃ e:Int,e≠0/\u=.tuple #[jd 0 none 0 0,.int .i64 e]
 |some (lvl,xs)=>∃ A c,u=.tuple #[jd lvl A xs.length c,.int .i64 0]/\Zt lo W (.slice A xs.length c) xs
def NzI (W:World) (v:Value):Prop:=∀ b off n c i u,v=.slice (some ⟨b,off,none⟩) n c->i<n->W.cell? ⟨b,off+i*5+4,none⟩=some u->Nz W u
theorem NzI.keep {W W':World} {v:Value} (h:NzI W v) (hc:∀ b off n c,v=.slice (some ⟨b,off,none⟩) n c->0<n->∀ j,W'.cell? ⟨b,j,none⟩=W.cell? ⟨b,j,none⟩) (hn:∀ u,Nz W u->Nz W' u):NzI W' v:=fun b off n c i u e hi hu =>
 hn u (h b off n c i u e hi (by rw[<-hc b off n c e zO];exact hu))
theorem NzI.ext {W W':World} {v:Value} (h:NzI W v) (hx:Ext W W') (hb:∀ b off n c,v=.slice (some ⟨b,off,none⟩) n c->0<n->b<W.heap.size):NzI W' v:=
 h.keep (fun b off n c e hn j=>Below.cell hx (p:=⟨b,j,none⟩) (hb b off n c e hn)) fun u hu=>hu.ext hx
theorem Kh.nzi {base lo:Nat} {w:World} {v:Value} {ps:List (It×Value)} (h:Kh base lo w v ps) (hz:∀ p∈ps,Nz w p.2):NzI w v:=fun b off n c i u e hi hu=>by subst e;obtain⟨A,c',e',-⟩:=qy h.1;simp only[Value.slice.injEq] at e';obtain⟨rfl,rfl,rfl⟩:=e';have h1:=(Rd.of_own h.1).2 zO;obtain⟨b',off',e,-,aF⟩:=h1;simp only[Option.some.injEq,Addr.mk.injEq,and_true] at e;obtain⟨rfl,rfl⟩:=e;have h2:=aF (i*5+4) _ (vt ps i hi).2.2.2.2;rw[<-Nat.add_assoc,hu] at h2;rw[Option.some.inj h2];exact hz _ (List.getElem_mem hi)
theorem nz_push {w W:World} {v:Value} {ps:List (It×Value)} {base lo:Nat} (h:Kh base lo w v ps) (hz:∀ p∈ps,Nz w p.2) {x:It} {u:Value} (hu:Nz w u) (ha:Yp v u) (hg:w.grownBy W v.ownBlock) (q:Addr) (t:Value):∀ p∈ps++[(x,u)],Nz (W.setCell q t) p.2:=by
 have key:∀ u,Nz w u->Yp v u->Nz (W.setCell q t) u:=fun u hu hau=>Nz.setCell (fun a n c e hn=>by obtain⟨cs,ty,hr⟩:=hu a n c e hn;exact⟨cs,ty,(hg.block a.block (zG.1 hr).1 (fun x=>hau a n c e hn x.symm)).trans hr⟩) q t;intro p hp;rcases List.mem_append.1 hp with hp|hp
 ·exact key _ (hz p hp) (h.2 p hp).2.2
 ·obtain rfl:p=(x,u):=by simpa using hp
  exact key _ hu ha
def Tw (lo:Nat) (q:Option (Int×List It)) (u:Value) (W:World):Prop:=
 match q with
 |none=>∃ e:Int,e≠0/\u=.tuple #[jd 0 none 0 0,.int .i64 e]
 |some (lvl,xs)=>∃ A c,u=.tuple #[jd lvl A xs.length c,.int .i64 0]/\Zt lo W (.slice A xs.length c) xs/\NzI W (.slice A xs.length c)
theorem Tw.nodeP {lo:Nat} {q:Option (Int×List It)} {u:Value} {W:World} (h:Tw lo q u W):UH lo q u W:=by
 rcases q with _|⟨lvl,xs⟩
 ·exact h
 ·obtain⟨A,c,h1,h2,-⟩:=h;exact⟨A,c,h1,h2⟩
theorem vG (lvl:Int) (A:Option Addr) (n c:Nat) (xs:List It) (w:World) (hx:Its w w.heap.size (.slice A n c) xs):Calls prog 89 #[jd lvl A n c] w (Ret (.int .i64 (Jg (Qc lvl xs))) w):=by
 by_cases h:jv lvl n=true
 ·exact qeZ lvl A n c xs w hx h
 ·have hn:n=xs.length:=hx.at_.1;have h':jv lvl n=false:=by simpa using h
  have:Qc lvl xs=false:=by unfold Qc;rw[<-hn,h'];rfl
  rw[this];exact qdu lvl A n c h' w
theorem Tryz.info_item:(Tryz.prog.info? 68).map (fun i=>(i.zero,i.size,i.bytes))=some (some (.agg #[.int .u8 0,.int .u32 0,.int .u32 0,.int .i64 0,.slice none 0 0]),5,48):=zQ
abbrev JW (e:Int):Value:=.tuple #[jd 0 none 0 0,.int .i64 e]
set_option maxRecDepth 100000 in
theorem Gq (v:Value) (l:List UInt8) (w:World) (h:Bys w w.heap.size v l):Calls prog 49 #[v] w (QV (Tw w.heap.size (QD l)) w):=by
 by_cases hl:l.length=128
 case neg =>
  have hq:QD l=none:=by unfold QD;rw[if_neg (fun x=>hl x.1)]
  rw[hq];have HO:=zH (fun W hW=>open_len v l hl W hW);go_enter func49,ntmps49;go_wp2_with fail;generalize aA:(World.alloc _ _)=w1;have b1:Ext w w1:=by rw[<-aA];exact zN _ _
  have r1:w1.heap[w.heap.size]?=some (.cells #[.int .i64 0,.slice none 0 0] 49 (0,0)):=by rw[<-aA];exact zI _ _ _ rfl
  clear aA;refine(HO.out _ ((h.below b1).more b1.size)).mono ?_;rintro e w2 ⟨rfl,hB⟩;have b2:Below w.heap.size w w2:=Ext.trans b1 hB;have r2:=qb r1 hB;have k2:=qa r2;have f2:=qe r2;go_wp2;refine bodyPost_ret (v:=JW 3) (by simp[results,results49,go_sem,k2]) rfl ⟨_,rfl,⟨3,zA1,rfl⟩,zA5⟩
 case pos =>
  have HO:=zH (fun W hW=>open_any v l hl W hW);generalize hR:QD l=R;replace hR:=zH hR.symm;go_enter func49,ntmps49;go_wp2_with fail;generalize aA:(World.alloc _ _)=w1;have b1:Ext w w1:=by rw[<-aA];exact zN _ _
  have r1:w1.heap[w.heap.size]?=some (.cells #[.int .i64 0,.slice none 0 0] 49 (0,0)):=by rw[<-aA];exact zI _ _ _ rfl
  clear aA;refine(HO.out _ ((h.below b1).more b1.size)).mono ?_;clear HO h;rintro e w2 ⟨u,rfl,hu,hB⟩;have b2:Ext w w2:=Ext.trans b1 hB;have r2:=qb r1 hB;have s1:w.heap.size<w1.heap.size:=(zG.1 r1).1;by_cases hs:qbg l=true
  case neg =>
   have hs':qbg l=false:=by simpa using hs
   obtain rfl:R=none:=by rw[hR.out];unfold QD;rw[if_neg (fun x=>hs x.2.1)]
   rw[hs'] at hu;simp only[Bool.false_eq_true,if_false] at hu;subst hu;clear b1 r1 hB hR hs hs';have b2':Below w.heap.size w w2:=b2;have k2:=qa r2;have f2:=qe r2;go_wp2;refine bodyPost_ret (v:=JW 8) (by simp[results,results49,go_sem,k2]) rfl ⟨_,rfl,⟨8,zA1,rfl⟩,zA5⟩
  case pos =>
   rw[hs,if_pos rfl] at hu;obtain⟨u',rfl,A,c,rfl,hb,hf⟩:=hu;have dF:(l.drop 4).length=124:=zA2;obtain⟨_,hc,hm,hA⟩:=hb.at_;obtain⟨b,off,rfl,dO⟩:=hA zO;have aF:∀ j,j<124->w2.cell? ⟨b,off+j,none⟩=some (.int .u8 ((l[4+j]?.getD 0).toNat:Int)):=by intro j hj;obtain⟨A,c',e,_,_,hr⟩:=hb;simp only[Value.slice.injEq] at e;obtain⟨rfl,_,rfl⟩:=e;obtain⟨b',off',e,_,aF⟩:=hr.2 zO;simp only[Option.some.injEq,Addr.mk.injEq,and_true] at e;obtain⟨rfl,rfl⟩:=e;refine aF j _ ?_;rw[List.getElem?_map,List.getElem?_drop,zL zO];rfl
   have c0:=aF 0 zO;have c1:=aF 1 zO;have c2:=aF 2 zO;have hGV:Bys w2 w2.heap.size (.slice (some ⟨b,off+3,none⟩) 121 (c-3)) (l.drop 7):=by
    have:=hb.sub (a:=3) (k:=121) zO
    rwa [List.drop_drop,List.take_of_length_le zA2] at this
   have hN:R=kG (l[4]?.getD 0).toNat (l[5]?.getD 0).toNat (l[6]?.getD 0).toNat (l.drop 7):=by rw[hR.out];exact qdy hl hs
   have hl7:(l.drop 7).length=121:=zA2;have u1:=(l[5]?.getD 0).toNat_lt;have u2:=(l[6]?.getD 0).toNat_lt;clear aF hb hA hB r1 b1 hf dF;rw[Nat.add_zero] at c0;clear hR;replace hN:=zH hN;generalize (l[4]?.getD 0).toNat=p0 at *;generalize (l[5]?.getD 0).toNat=p1 at *;generalize (l[6]?.getD 0).toNat=p2 at *;generalize l.drop 7=l7 at *;unfold maxLen at hm;have s2:w.heap.size<w2.heap.size:=(zG.1 r2).1;have k2:=qa r2;have f2:=qe r2;have b2':Below w.heap.size w w2:=b2;by_cases hhd:p0=78/\p2<=5
   case neg =>
    obtain rfl:R=none:=by rw[hN.out,qdv hhd]
    clear hN;go_wp2;all_goals try simp only[beq_iff_eq,beq_eq_false_iff_ne,ne_eq] at *
    all_goals first|(exfalso;omega)|skip
    all_goals
     generalize aZ:(World.alloc _ _)=wf;have rf:wf.heap[w.heap.size]?=some (.cells #[.int .i64 0,.slice none 0 0] 49 (0,0)):=by rw[<-aZ];exact(zK _ _ _ (by simpa using s2)).trans (qi (qi r2 0 _) 1 _)
     have bf:Below w.heap.size w wf:=by rw[<-aZ];exact(by repeat' (first|with_reducible exact Below.refl _ _|with_reducible assumption|with_reducible apply Below.drew|with_reducible apply qA|with_reducible refine Below.alloc ?_ ?_ _|with_reducible refine Below.setCell ?_ ?_ _|(simp;done)|(simp;omega)|omega))
     have kf:=qa rf;exact bodyPost_ret (v:=JW 8) (by simp[results,results49,go_sem,kf]) rfl ⟨_,rfl,⟨8,zA1,rfl⟩,bf⟩
   case pos =>
    obtain⟨rfl,nP⟩:=hhd;have wz:=zH (fun h=>hN.out.trans (@qdw p1 p2 l7 h));have hN3:=zH (fun r xs h=>hN.out.trans (@qdx p1 p2 l7 r xs nP h));clear hN;go_wp2;generalize aK:(World.alloc _ _)=w3;have b3:Ext w2 w3:=by rw[<-aK];exact zN _ _
    have r3:w3.heap[w2.heap.size]?=some (.cells #[.int .i64 p1,.slice none 0 0] 49 (0,0)):=by rw[<-aK];exact zI _ _ _ rfl
    have hre:Bys w3 w2.heap.size (.slice (some ⟨b,off+3,none⟩) 121 (c-3)) l7:=hGV.below b3;have rr3:=qb r2 b3;have b23:Below w2.heap.size w2 w3:=b3;clear aK hGV k2 f2 r2 c0 c1 dO;generalize rJ:w2.heap.size=nb at *;go_loopw [7,42] (fun rs i wr=>∃ (k:Nat) (xs:List It) (r:List UInt8) (o cc:Nat) (v:Value) (ps:List (It×Value)),k<=p2/\i=.int .u8 (k:Int)/\QQ l7 k=some (xs,r)/\rs=.slice (some ⟨b,o,none⟩) r.length cc/\Bys w3 nb rs r /\
      wr.heap[nb]?=some (.cells #[.int .i64 p1,v] 49 (0,0))/\Kh (nb+1) (nb+1) wr v ps/\ps.map (·.1)=xs/\Below nb w3 wr/\∀ p∈ps,Nz wr p.2) (fun _ i _=>p2-(intOf i).toNat)
    case atStart=>exact⟨0,[],l7,off+3,c-3,.slice none 0 0,[],zO,rfl,rfl,by rw[hl7],hre,r3,Kh.nil _ _ _,rfl,Below.refl _ _,fun _ h=>by cases h⟩
    case round =>
     obtain⟨k,xs,r,o,cc,v1,ps,hk,rfl,aG,rfl,wF,rn,aC,cO,hB,nO⟩:=hrel;replace nO:=zH nO;by_cases hlt:k<p2
     ·have aJ:=hlt;have iD:nb<wr.heap.size:=(zG.1 rn).1;have hrl:=kA aG zO hl7;have yl:Bys wr wr.heap.size (.slice (some ⟨b,o,none⟩) r.length cc) r:=(wF.below hB).more zO;have dW:=wF.at_;have HR:=zH (qeN _ r zO wr yl);have HBAD:=zH (fun h=>wz.out (qdk aG h p2 aJ));have HNX:=zH (fun x n h=>@qbG _ _ _ n _ x aG h);have HSM:=zH (fun x n=>@Yx r x n);have HSUB:=zH (fun n (h:n+(r.length-n)<=r.length)=>wF.sub h);have nJ:=TN aG;have bT:ps.length=k:=by rw[<-nJ,<-cO,List.length_map]
      generalize hq:Ze r=q at *;clear wF yl;have rr:=qbd rr3 s2 hB;go_wp2_with fail;refine HR.out.mono ?_;rintro e w4 ⟨u,rfl,hu,dG⟩;have rr4:=qb rr dG;rcases q with _|⟨x,n⟩
      ·obtain rfl:u=noIt:=hu;obtain rfl:R=none:=HBAD.out rfl;clear HR HBAD HNX HSM HSUB wz hN3 rr;have kk4:=qa rr4;have ff4:=qe rr4;have s4:w.heap.size<w4.heap.size:=(zG.1 rr4).1;have bw4:Below w.heap.size w w4:=Below.trans b2' (Below.trans (Below.mono b23 zO) (Below.trans (Below.mono hB zO) (Below.mono dG zO)));go_wp2;generalize aZ:(World.alloc _ _)=wf;have rf:wf.heap[w.heap.size]?=some (.cells #[.int .i64 0,.slice none 0 0] 49 (0,0)):=by rw[<-aZ];exact(zK _ _ _ (by simpa using s4)).trans (qi (qi rr4 0 _) 1 _)
       have bf:Below w.heap.size w wf:=by rw[<-aZ];exact(by repeat' (first|with_reducible exact Below.refl _ _|with_reducible assumption|with_reducible apply Below.drew|with_reducible apply qA|with_reducible refine Below.alloc ?_ ?_ _|with_reducible refine Below.setCell ?_ ?_ _|(simp;done)|(simp;omega)|omega))
       have kf:=qa rf;exact bodyPost_ret (v:=JW 8) (by simp[results,results49,go_sem,kf]) rfl ⟨_,rfl,⟨8,zA1,rfl⟩,bf⟩
      ·obtain⟨i,rfl,A',c',rfl,⟨ai,hfr⟩,dP⟩:=hu;replace dP:=zH dP;obtain⟨g1,g2,g3,g4,g5⟩:=HSM.out x n rfl;have nS:=kA (HNX.out x n rfl) zO hl7;rw[List.length_drop] at nS;have hsb:=HSUB.out n zO;rw[List.take_of_length_le zA3] at hsb;clear HR HSM HSUB HBAD g1 g3 g4 g5;have hAZ:=aC.ext dG;have bz:=Ql aC.1;have s4:=dG.size;go_wp2_with fail;generalize aQ:(World.alloc _ _)=w5;have b5:Ext w4 w5:=by rw[<-aQ];exact zN _ _
       have r5:w5.heap[w4.heap.size]?=some (.cells #[.int .u8 x.k,.int .u32 x.i,.int .u32 x.o,.int .i64 x.r,.slice A' x.val.length c'] 68 (0,0)):=by rw[<-aQ];exact zI _ _ _ rfl
       clear aQ;have oK:=hAZ.ext b5;have uG:=qb (qb rn dG) b5;have hIK:=(ai.below b5).more b5.size;have s5:w4.heap.size<w5.heap.size:=(zG.1 r5).1;have rC:Below nb w3 w5:=Below.trans hB (Below.trans (Below.mono dG zO) (Below.mono b5 zO));have hvn:v1.ownBlock≠some nb:=fun h=>by have:=bz _ h;omega
       have hv4:v1.ownBlock≠some w4.heap.size:=fun h=>by have:=bz _ h;omega
       obtain⟨RR,ah⟩:∃ RR:Rel,RR=Vo (nb+1) 68 5 w5.heap.size v1 ps.length (qO ps) (ps.length+1) (qO ps++Gc x (.slice A' x.val.length c')) :=⟨_,rfl⟩
       replace ah:=zH ah;have n1:∀ W,RR.r w5 W->W.cell? ⟨nb,1,none⟩=some v1:=fun W h=>jh (ah.out ▸ h) hvn (by rw[qa uG];rfl);have i0:∀ W,RR.r w5 W->W.cell? ⟨w4.heap.size,0,none⟩=some (.int .u8 x.k):=fun W h=>jh (ah.out ▸ h) hv4 (by rw[qa r5];rfl);have i1:∀ W,RR.r w5 W->W.cell? ⟨w4.heap.size,1,none⟩=some (.int .u32 x.i):=fun W h=>jh (ah.out ▸ h) hv4 (by rw[qa r5];rfl);have i2:∀ W,RR.r w5 W->W.cell? ⟨w4.heap.size,2,none⟩=some (.int .u32 x.o):=fun W h=>jh (ah.out ▸ h) hv4 (by rw[qa r5];rfl);have i3:∀ W,RR.r w5 W->W.cell? ⟨w4.heap.size,3,none⟩=some (.int .i64 x.r):=fun W h=>jh (ah.out ▸ h) hv4 (by rw[qa r5];rfl);have i4:∀ W,RR.r w5 W->W.cell? ⟨w4.heap.size,4,none⟩=some (.slice A' x.val.length c'):=fun W h=>jh (ah.out ▸ h) hv4 (by rw[qa r5];rfl);refine qo zQ ?_;refine zu 5 10 (.slice (some ⟨b,o,none⟩) r.length cc) zQ zA6 zQ zQ zQ zA0 (fun W=>?_) ?_
       ·go_simp
       simp only[Act.put,qf,qc,qg,qN,Qy,zA,zB,zC];refine zu 6 9 (.int .i64 (n:Int)) zQ zA6 zQ zQ zQ zA0 (fun W=>?_) ?_
       ·go_simp
       simp only[Act.put,qf,qc,qg,qN,Qy,zA,zB,zC];refine zu 7 8 (.slice (some ⟨b,o+n,none⟩) (r.length-n) (cc-n)) zQ zA6 zQ zQ zQ zA0 (fun W=>?_) ?_
       ·go_simp;have:=dW.2.1;omega
       simp only[Act.put,qf,qc,qg,qN,Qy,zA,zB,zC];refine Zn (w:=w5) RR (qD [(3,jm w5.heap.size 1 68 #[.int .u8 x.k,.int .u32 x.i,.int .u32 x.o,.int .i64 x.r,.slice A' x.val.length c']),(4,XG (nb+1) 68 5 w5.heap.size v1 (ps.length+1) (qO ps++Gc x (.slice A' x.val.length c')))])
        [true,true,true,true,true,false,false,false,true] 2 zQ zQ zQ zQ zQ zQ ?st (Rel.drew _ _) ?walk
       case st=>rw[ah.out];exact qj (by simp only[List.forall_mem_cons];exact⟨KE (fun g hg=>by have:=bz g hg;omega),Gw,fun _ h=>by cases h⟩)
       case walk =>
        intro K hK;dsimp only[qp];repeat ((first|(refine qd ?_ zA0 zA0 (fun W hW _=>⟨W,?_,Rel.refl _ W⟩) ?_;rotate_left;(go_simp<;>with_reducible rfl))|(refine qh zA0 ?_));try simp only[Act.put,ql,qf,qc,qg,qN,Qy,zA,zB,zC])
        refine qw (jm w5.heap.size 1 68 #[.int .u8 x.k,.int .u32 x.i,.int .u32 x.o,.int .i64 x.r,.slice A' x.val.length c']) zA0 zA0 (fun W hW _=>?_) (fun p=>?_)
        ·rw[ah.out] at hW ⊢;refine TH ?_ hW.1.size;go_simp
        simp only[Act.put,qf,qc,qg,qN,Qy,zA,zB,zC];refine qw (XG (nb+1) 68 5 w5.heap.size v1 (ps.length+1) (qO ps++Gc x (.slice A' x.val.length c'))) zA0 zA0 (fun W hW hp=>?_) (fun v2=>?_)
        ·rw[ah.out] at hW ⊢;obtain⟨i0,hi,aX,aU,aV⟩:=info_parts Tryz.info_item;obtain⟨dL,_⟩:=(hp 3 zA1).1;obtain⟨v',w',aj,hD,hR'⟩:=Kc (P:=prog) (lo:=w5.heap.size) W 47 47 i0 _ 48 underlying47 hi aX aU aV rfl zA1 (hW.2.1 oK.1) ⟨p,0,none⟩ 1 1 (Gc x (.slice A' x.val.length c')) rfl (qdP dL) (by simp[Gc,Value.oneCell']) zO zA1 (by have:=hW.1.size;omega) hW.1.size;refine ZU (u:=v') (w':=w') ?_ ⟨v',rfl,hD,hR'⟩;exact TG (s:=.tmp 55) (x:=.tmp 57) rfl rfl rfl aj
        simp only[Act.put,qf,qc,qg,qN,Qy,zA,zB,zC];repeat ((first|(refine qd ?_ zA0 zA0 (fun W hW _=>⟨W,?_,Rel.refl _ W⟩) ?_;rotate_left;(go_simp<;>with_reducible rfl))|(refine qh zA0 ?_));try simp only[Act.put,ql,qf,qc,qg,qN,Qy,zA,zB,zC])
        refine qu (hK _ _ fun W hW hF=>?_);have hD:=(hF 4).1;clear hF hK n1 i0 i1 i2 i3 i4;rw[ah.out] at hW;dsimp only[List.drop,List.length_cons,List.length_nil,XG] at *;change Done _ _ _ _ _ _ _ v2 W at hD;have rnW:=vB hW hvn uG;have kW:=qa rnW;have fW:=qe rnW;have hnW:=zH (fun q t=>nz_push (x:=x) oK (fun p hp=>((nO.out p hp).ext dG).ext b5) (dP.out.ext b5) (Yp.of_from hfr (fun g hg=>(bz g hg).2)) hW.1 q t);have hrW:=oK.push x A' c' hIK (hfr.mono zO) (Yp.of_from hfr (fun g hg=>(bz g hg).2)) rfl hD hW.1;have wZ:Below nb w5 W:=(Below.refl _ _).grown hW.1 zO (fun g hg=>by have:=bz g hg;omega);obtain⟨A2,c2',rfl,_,_⟩:=qy hD.1;go_wp2;refine Qo ?_;go_wp2;go_roundw
        case rel =>
         refine⟨k+1,xs++[x],r.drop n,o+n,cc-n,_,ps++[(x,.slice A' x.val.length c')],zO,by go_num,HNX.out x n rfl,by rw[List.length_drop],hsb,qi rnW 1 _,?_,by simp[cO],?_,hnW.out _ _⟩
         ·rw[bT] at hrW;exact hrW.setCell (p:=⟨nb,1,none⟩) (Nat.lt_succ_self _) (Nat.lt_succ_self _) _
         ·exact Below.setCell (Below.trans rC wZ) (p:=⟨nb,1,none⟩) (zM _) _
        case measure=>simp[intOf];omega
     ·obtain rfl:k=p2:=zO;have iD:nb<wr.heap.size:=(zG.1 rn).1;have hrl:=kA aG nP hl7;have hR:=hN3.out r xs aG;have yl:Bys wr wr.heap.size (.slice (some ⟨b,o,none⟩) r.length cc) r:=(wF.below hB).more zO;have hzi:=zH (aC.nzi nO.out);obtain⟨ni,A2,c2',rfl⟩:=aC.its (zM _);rw[cO] at ni;have mg:ps.length=xs.length:=by rw[<-cO,List.length_map]
      rw[mg] at ni rn;have rr:=qbd rr3 s2 hB;have bw:Below w.heap.size w wr:=Below.trans b2' (Below.trans (Below.mono b23 zO) (Below.mono hB zO));have HC:=zH (fun W (hW:Ext wr W)=>vG p1 A2 xs.length c2' xs W (ni.its.ext hW));have HM:=zH (fun W (hW:Ext wr W)=>qdV _ r hrl.1 zO W ((yl.below hW).more hW.size));have hmz:=Gl r;have uX:=qbL r;replace hR:=zH hR;clear wz hN3 wF yl aC aG;have kn:=qa rn;go_wp2_with fail;refine(HC.out _ (Ext.refl _)).mono ?_;rintro e w4 ⟨rfl,dG⟩;have rr4:=qb rr dG;have bw4:Below w.heap.size w w4:=Below.trans bw (Below.mono dG zO);have s4:w.heap.size<w4.heap.size:=(zG.1 rr4).1;have rn4:=qb rn dG;clear HC kn rr;by_cases hmay:Qc (p1:Int) xs=true
      case neg =>
       obtain rfl:R=none:=by rw[hR.out,if_neg (fun h=>hmay h.1)]
       have iQ:Qc (p1:Int) xs=false:=by simpa using hmay
       rw[jW iQ];clear hR HM hmay iQ hmz uX;have k4:=qa rr4;have f4:=qe rr4;go_wp2;generalize aZ:(World.setCell _ _ _)=wf;have rf:wf.heap[w.heap.size]?=some (.cells #[.int .i64 0,.slice none 0 0] 49 (0,0)):=by rw[<-aZ];exact qi (qi rr4 0 _) 1 _
       have bf:Below w.heap.size w wf:=by rw[<-aZ];exact Below.setCell (Below.setCell bw4 (p:=⟨w.heap.size,0,none⟩) (zM _) _) (p:=⟨w.heap.size,1,none⟩) (zM _) _
       have kf:=qa rf;exact bodyPost_ret (v:=JW 8) (by simp[results,results49,go_sem,kf]) rfl ⟨_,rfl,⟨8,zA1,rfl⟩,bf⟩
      case pos =>
       rw[Jv hmay];go_wp2_with fail;refine(HM.out _ dG).mono ?_;rintro e w5 ⟨rfl,rC⟩;have rr5:=qb rr4 rC;have bw5:Below w.heap.size w w5:=Below.trans bw4 (Below.mono rC zO);have s5:w.heap.size<w5.heap.size:=(zG.1 rr5).1;have uG:=qb rn4 rC;have hx5:Ext wr w5:=Ext.trans dG rC;have k5:=qa rr5;have f5:=qe rr5;have kn5:=qa uG;have fn5:=qe uG;clear HM;by_cases hz:VX r=true
       case neg =>
        obtain rfl:R=none:=by rw[hR.out,if_neg (fun h=>hz h.2)]
        have hz':VX r=false:=by simpa using hz
        rw[hz'] at hmz;have hm0:0<Ky r:=by simpa using hmz
        clear hR hz hz' hmz;generalize Ky r=mm at *;go_wp2;generalize aZ:(World.setCell _ _ _)=wf;have rf:wf.heap[w.heap.size]?=some (.cells #[.int .i64 0,.slice none 0 0] 49 (0,0)):=by rw[<-aZ];exact qi (qi rr5 0 _) 1 _
        have bf:Below w.heap.size w wf:=by rw[<-aZ];exact Below.setCell (Below.setCell bw5 (p:=⟨w.heap.size,0,none⟩) (zM _) _) (p:=⟨w.heap.size,1,none⟩) (zM _) _
        have kf:=qa rf;exact bodyPost_ret (v:=JW 8) (by simp[results,results49,go_sem,kf]) rfl ⟨_,rfl,⟨8,zA1,rfl⟩,bf⟩
       case pos =>
        obtain rfl:R=some ((p1:Int),xs):=by rw[hR.out,if_pos ⟨hmay,hz⟩]
        rw[hz] at hmz;have hm0:Ky r=0:=by simpa using hmz
        clear hR hz hmz;rw[hm0];go_wp2;generalize aZ:(World.setCell _ _ _)=wf;have rf:wf.heap[w.heap.size]?=some (.cells #[.int .i64 p1,.slice A2 xs.length c2'] 49 (0,0)):=by rw[<-aZ];exact qi (qi rr5 0 _) 1 _
        have bf:Below w.heap.size w wf:=by rw[<-aZ];exact Below.setCell (Below.setCell bw5 (p:=⟨w.heap.size,0,none⟩) (zM _) _) (p:=⟨w.heap.size,1,none⟩) (zM _) _
        have kf:=qa rf;have hfi:Zt (nb+1) wf (.slice A2 xs.length c2') xs:=by refine(ni.ext hx5).keep (by rw[<-aZ];simp) (fun p h1 h2=>?_);rw[<-aZ,World.cell?_setCell_other _ _ _ _ (fun e=>by subst e;simp at h1;omega),World.cell?_setCell_other _ _ _ _ (fun e=>by subst e;simp at h1;omega)]
        have hzf:NzI wf (.slice A2 xs.length c2'):=by
         have hzi':=hzi.out;rw[mg] at hzi';have iw:∀ b off n c,Value.slice A2 xs.length c2'=.slice (some ⟨b,off,none⟩) n c->0<n->w.heap.size<b/\b<wr.heap.size:=fun b off n c e hn=>by obtain⟨-,-,-,h4⟩:=ni.its.at_;have h5:nb+1<=(⟨b,0,none⟩:Addr).block:=Xu ni b off n c 0 e hn;simp only[Value.slice.injEq] at e;obtain⟨b6,o6,e6,e7⟩:=h4 zO;rw[e.1] at e6;simp only[Option.some.injEq,Addr.mk.injEq] at e6;simp only at h5;omega
         refine(hzi'.ext hx5 (fun b off n c e hn=>(iw b off n c e hn).2)).keep (fun b off n c e hn j=>?_) (fun u hu=>?_)
         case refine_2=>rw[<-aZ];exact(hu.setCell _ _).setCell _ _
         have:=(iw b off n c e hn).1;rw[<-aZ,World.cell?_setCell_other _ _ _ _ (fun e=>by simp only[Addr.mk.injEq] at e;omega),World.cell?_setCell_other _ _ _ _ (fun e=>by simp only[Addr.mk.injEq] at e;omega)]
        exact bodyPost_ret (v:=.tuple #[jd p1 A2 xs.length c2',.int .i64 0]) (by simp[results,results49,go_sem,kf]) rfl ⟨_,rfl,⟨A2,c2',rfl,hfi.mono zO,hzf⟩,bf⟩
theorem qgZ (v:Value) (l:List UInt8) (w:World) (h:Bys w w.heap.size v l):Calls prog 49 #[v] w (QV (UH w.heap.size (QD l)) w):=
 (Gq v l w h).mono fun _ _ ⟨u,he,hu,hB⟩=>⟨u,he,hu.nodeP,hB⟩



set_option maxRecDepth 100000 in
theorem qgN (n:Nat) (hn:n<1073741824) (w:World):Calls prog 153 #[.slice none 0 0,.int .i64 (n:Int)] w (QV (fun v w'=>w'.ownsRow w.heap.size 5 1 v 0 []) w):=by
 obtain⟨i0,hi,aX,aU,aV⟩:=info_parts Tryz.info_u8;by_cases h0:n=0
 ·subst h0;go_enter func153,ntmps153;go_wp2;go_ret;exact⟨_,rfl,World.ownsRow_nil _ _ _ _,Below.refl _ _⟩
 ·have hG:=grownCap_ge w n 0 5;have hGm:=grownCap_le_maxLen w n 0 5 zA7;have hrz:∀ ty,(Builtin.append_ #[26,3] ty #[.slice none 0 0,.int .i64 (n:Int)]).run prog w =
    .ok (.slice (some ⟨w.heap.size,0,none⟩) n (grownCap w n 0 5)) (w.drew.alloc (.cells (([]:List Value).toArray++Builtin.zeroCells (Value.int .u8 0).cells n++Builtin.zeroCells (Value.int .u8 0).cells (grownCap w n 0 5-n)) 5)):=fun ty=>by
   have h:=Lib.run_append_grow_zeros (P:=prog) w 26 3 ty 5 i0 (.int .u8 0) .i64 .i64 underlying26 underlying3 hi aX none 0 0 [] (run_firstCells_none w.drew i0.size 0 0 0) n zO zO zO zO (by rw[aV];omega) (growslice_fits zO (by rw[aV];omega));simpa using h
  obtain⟨G,hGe⟩:∃ G,grownCap w n 0 5=G:=⟨_,rfl⟩
  rw[hGe] at hG hGm hrz;unfold maxLen at hGm;have fA:0<n:=zO;clear hGe;go_enter func153,ntmps153;go_wp2_with (at_builtin;refine Lib.wpList_append_run _ rfl _ _ _ _ rfl _ _ rfl rfl _ _ (hrz _) ?_);go_ret;refine⟨_,rfl,?_,zA5⟩;refine(World.ownsRow_made w _ G (zM _) zA7 ?_).drew;simp only[Array.size_append,size_zeroCells,List.size_toArray,List.length_cons,List.length_nil];omega
def VE (ls:List (List UInt8)) (k:Nat):List UInt8:=(ls.take k).flatten
set_option maxRecDepth 100000 in
theorem vW (A:Option Addr) (c m:Nat) (vs:List Value) (ls:List (List UInt8)) (hv:vs.length=m) (hl:ls.length=m) (w:World) (hr:Rd w w.heap.size 1 A m vs) (hb:∀ (i:Nat) (v:Value) (l:List UInt8),vs[i]?=some v->ls[i]?=some l->Bys w w.heap.size v l) (hn:m<1024) (hs:ls.flatten.length<1048576):Calls prog 107 #[.slice A m c] w (QV (fun v w'=>w'.ownsRow w.heap.size 5 1 v ls.flatten.length (ls.flatten.map bv)) w):=by
 obtain⟨i0,hi,aX,aU,aV⟩:=info_parts Tryz.info_u8;have dK:∀ k,k<m->∃ A c l,vs[k]?=some (.slice A l.length c)/\ls[k]?=some l/\Rd w w.heap.size 1 A l.length (l.map bv):=fun k hk=>by
  obtain⟨v,hv⟩:∃ v,vs[k]?=some v:=⟨_,zL zO⟩
  obtain⟨l,hl'⟩:∃ l,ls[k]?=some l:=⟨_,zL zO⟩
  obtain⟨A,c,rfl,_,_,h⟩:=hb k v l hv hl';exact⟨A,c,l,hv,hl',h⟩
 have xx:∀ k,(VE ls k).length<=ls.flatten.length:=fun k=>by
  unfold VE;conv=>rhs;rw[<-List.take_append_drop k ls]
  rw[List.flatten_append,List.length_append];omega
 have mZ:∀ (k:Nat) (l:List UInt8),ls[k]?=some l->VE ls (k+1)=VE ls k++l:=fun k l h=>by unfold VE;rw[List.take_add_one,h];simp
 have HT:=zH mZ;clear mZ;have ay:ls.flatten=VE ls m:=by unfold VE;rw[List.take_of_length_le zO]
 have h00:Hid ([]=VE ls 0):=by unfold VE;exact rfl
 rw[ay] at hs xx ⊢;clear ay hl hv hb;go_enter func107,ntmps107;go_wp2;go_loop [3,11] (fun t i=>∃ k:Nat,k<=m/\i=.int .i64 (k:Int)/\t=.int .i64 ((VE ls k).length:Int))
  (fun _ i=>m-(intOf i).toNat)
 case atStart=>exact⟨0,Nat.zero_le _,rfl,by rw[<-h00.out];rfl⟩
 case round =>
  obtain⟨k,hk,rfl,rfl⟩:=hrel;have h1:=xx k;by_cases hlt:k<m
  ·obtain⟨A',c',l,hv,hl,hrl⟩:=dK k hlt;obtain⟨b,off,rfl,dO,hc⟩:=hr.2 zO;have h2:=xx (k+1);rw[HT.out k l hl,List.length_append] at h2;go_wp2;go_round
   case rel=>exact⟨k+1,zO,by go_num,by rw[HT.out k l hl,List.length_append];go_num⟩
   case measure=>simp[intOf];omega
  ·obtain rfl:k=m:=zO;clear h1;go_wp2_with fail;refine(qgN (VE ls k).length zO _).mono ?_;rintro e w1 ⟨v,rfl,aB,hB⟩;go_wp2;go_loopw [6,27] (fun v i wr=>∃ j:Nat,j<=k/\i=.int .i64 (j:Int)/\wr.ownsRow w.heap.size 5 1 v (VE ls j).length ((VE ls j).map bv)/\Below w.heap.size w wr)
    (fun _ i _=>k-(intOf i).toNat)
   case atStart=>exact⟨0,Nat.zero_le _,rfl,by rw[<-h00.out];exact aB,hB⟩
   case round =>
    clear aB hB;obtain⟨j,hj,rfl,aB,hB⟩:=hrel;by_cases hlt:j<k
    ·obtain⟨A',c',l,hv,hl,hrl⟩:=dK j hlt;obtain⟨b,off,rfl,dO,hc⟩:=hr.2 zO;have aF:=(hB.cell (p:=⟨b,off+j,none⟩) dO).trans (hc j _ hv);have h2:=xx (j+1);rw[HT.out j l hl,List.length_append] at h2;have HE:=zH (HT.out j l hl);go_wp2_with (at_builtin;refine qI ?_);refine Qh.go (Qq _ rfl (.tmp 31) (.tmp 32) 26 rfl w.heap.size 5 i0 (.int .u8 0) 1 1 underlying26 hi aX aU aV rfl zA1 _ _ _ rfl aB w.heap.size A' l.length c' (l.map bv) rfl (hrl.below hB) (Xk l) zO zA1 hB.size ?_);intro v' w2 hQK _ bG _;go_wp2;go_roundw
     case rel=>exact⟨j+1,zO,by go_num,by rw[HE.out,List.length_append,List.map_append];exact hQK,hB.trans bG⟩
     case measure=>simp[intOf];omega
    ·obtain rfl:j=k:=zO;go_wp2;go_ret;exact⟨_,rfl,aB,hB⟩
end Go.Proofs.YtpbniokljofedaaGreat
