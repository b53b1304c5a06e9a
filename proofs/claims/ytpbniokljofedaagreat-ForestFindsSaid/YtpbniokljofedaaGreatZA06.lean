/- Texts Done, NRead, Told3, Told4, NReadR, Concat, joined. -/
import Derived.Lib.AppendZerosOnto
import Derived.Lib.Walk
import Derived.Test.YtpbniokljofedaaGreatZA02
import Derived.Test.YtpbniokljofedaaGreatZA04
import Derived.Test.YtpbniokljofedaaGreatZA05
set_option linter.unusedSimpArgs false
set_option linter.unusedVariables false
namespace Go.Proofs.YtpbniokljofedaaGreat
open Go.RowKit
def Uw (base:Nat) (e:TypeId) (size lo:Nat) (v:Value) (m:Nat) (ys:List Value) (v':Value) (W:World):Prop:=
 W.ownsRow base e size v' m ys∧(v'.ownBlock=v.ownBlock∨∃ g,v'.ownBlock=some g∧lo≤g)
def vI (base:Nat) (e:TypeId) (size lo:Nat) (v:Value) (n:Nat) (xs:List Value) (m:Nat) (ys:List Value):Rel where
 rel W W':=W.grownBy W' v.ownBlock∧(W.ownsRow base e size v n xs→W'.ownsRow base e size v n xs)∧∀ v',Uw base e size lo v m ys v' W→Uw base e size lo v m ys v' W'
 refl' W:=⟨World.grownBy.refl _ _,id,fun _=>id⟩
 trans' h k:=⟨h.1.trans k.1,fun x=>k.2.1 (h.2.1 x),fun v' x=>k.2.2 v' (h.2.2 v' x)⟩
 drew' W:=⟨⟨rfl,rfl,rfl,Nat.le_refl _,fun _ _ _=>rfl⟩,fun h=>h.drew,fun v' h=>⟨h.1.drew,h.2⟩⟩
section
variable {base:Nat} {e:TypeId} {size lo:Nat} {v:Value} {n:Nat} {xs:List Value} {m:Nat} {ys:List Value}
theorem QX {W W':World} (h:Ext W W') (row:Option Nat):W.grownBy W' row:=⟨h.os,h.tape,h.output,h.size,fun k hk _=>h.block k hk⟩
theorem KO {W W':World} (h:Ext W W'):(vI base e size lo v n xs m ys).r W W':=
 ⟨QX h _,fun x=>QJ x h,fun _ x=>⟨QJ x.1 h,x.2⟩⟩
theorem ZG {W W':World} (h:(vI base e size lo v n xs m ys).r W W') {p:Addr} {u:Value} (hp:v.ownBlock≠some p.block) (hc:W.cell? p=some u):W'.cell? p=some u:=
 World.grownBy.cell h.1 hc (fun x=>hp x.symm)
theorem JG {W W':World} (h:(vI base e size lo v n xs m ys).r W W') {b:Nat} {o:Obj} (hp:v.ownBlock≠some b) (hc:W.heap[b]?=some o):W'.heap[b]?=some o:=
 (h.1.block b (zG.1 hc).1 (fun x=>hp x.symm)).trans hc
theorem Ue {w:World} {g cap m:Nat} {news:List Value} (h:w.ownsRow base e size (.slice (some ⟨g,0,none⟩) (n+m) cap) (n+m) (xs++news)) (hx:xs.length=n*size):w.ownsRow base e size (.slice (some ⟨g,0,none⟩) n cap) n xs:=by
 refine⟨hx,?_⟩
 rcases h.2 with ⟨h0,_⟩|⟨g',cap',cur,hv,hb,hg,hnc,hcm,hcs,htk⟩
 ·simp at h0
 ·simp only[Value.slice.injEq,Option.some.injEq,Addr.mk.injEq,and_true,true_and] at hv
  obtain⟨rfl,rfl⟩:=hv
  refine .inr ⟨g,cap,cur,rfl,hb,hg,by omega,hcm,hcs,?_⟩
  have:cur.toList.take (n*size)=(cur.toList.take ((n+m)*size)).take (n*size):=by
   rw[List.take_take,Nat.min_eq_left (Nat.mul_le_mul_right _ (Nat.le_add_right _ _))]
  rw[this,htk,←hx,List.take_left]
theorem VF {P:Program} (W:World) (t ty:TypeId) (i:TypeInfo) (z:Value) (bytes:Nat) (ht:P.underlying t=some (.slice e)) (hi:P.info? e=some i) (hz:i.zero=some z)
  (hsize:i.size=size) (hby:i.bytes=bytes) (hzs:z.cells.size=size) (hsz:0<size) (hown:W.ownsRow base e size v n xs)
  (a:Addr) (k c:Nat) (news:List Value) (hl:news.length=k*size) (hnews:∀ j u,news[j]?=some u→W.cell? (a.add j)=some u) (h1:∀ u∈news,u.oneCell'=true)
  (hn:n+k<1073741824) (hbytes:bytes≤65536) (hbase:base≤W.heap.size) (hlo:lo≤W.heap.size) :
  ∃ v' w',(Builtin.append_ #[t,t] ty #[v,.slice (some a) k c]).run P W=.ok v' w'∧Uw base e size lo v (n+k) (xs++news) v' w'∧(vI base e size lo v n xs (n+k) (xs++news)).r W w':=by
 have hb:(n+k)*bytes≤140737488355328:=Nat.le_trans (Nat.mul_le_mul_left _ hbytes) (by omega)
 have hm:n+k≤maxLen:=by unfold maxLen;omega
 obtain⟨v',w',hr,h2,h3,_,h5⟩:=run_append_own_at (P:=P) W base t ty e i z size bytes ht hi hz hsize hby hzs hsz v n xs hown a k c news hl hnews h1 hm hb hbase
 have hD:Uw base e size lo v (n+k) (xs++news) v' w':=⟨h2,h5.imp id fun e=>⟨_,e,hlo⟩⟩
 rcases hown.2 with ⟨rfl,rfl⟩|⟨g,cap,cur,rfl,hbg,hg,hnc,hcm,hcs,htk⟩
 ·exact⟨v',w',hr,hD,KO ⟨h3.os,h3.tape,h3.output,h3.size,fun k hk=>h3.block k hk (by simp[Value.ownBlock])⟩⟩
 ·by_cases hroom:n+k≤cap
  ·obtain⟨w2,hr2,g2,g3⟩:=run_append_fits (P:=P) W base t ty e i size ht hi hsize g n cap xs hown a k c news hl hnews h1 hroom
   refine⟨_,w2,hr2,⟨g2,.inl rfl⟩,g3,fun _=>Ue g2 hown.1,fun u hu=>⟨?_,hu.2⟩⟩
   rcases hu.1.2 with h0|⟨g',cap',cur',rfl,hbg',hg',hnc',hcm',hcs',htk'⟩
   ·exact⟨hu.1.1,.inl h0⟩
   ·by_cases hgg:g'=g
    ·subst hgg
     rw[hg] at hg'
     simp only[Option.some.injEq,Obj.cells.injEq] at hg'
     obtain⟨rfl,_⟩:=hg'
     obtain rfl:cap'=cap:=by
      have:cap'*size=cap*size:=by rw[←hcs',←hcs]
      exact Nat.eq_of_mul_eq_mul_right hsz this
     exact g2
    ·exact⟨hu.1.1,.inr ⟨g',cap',cur',rfl,hbg',(g3.block g' (zG.1 hg').1 (by simpa using hgg)).trans hg',hnc',hcm',hcs',htk'⟩⟩
  ·have holds:∀ j u,xs[j]?=some u→W.cell? ((⟨g,0,none⟩:Addr).add j)=some u:=hown.cells (g:=g) rfl
   subst hsize
   subst hby
   have hr':=run_append_grow (P:=P) W t ty e i z ht hi hz ⟨g,0,none⟩ n cap xs hown.1 holds a k c news hl hnews (by omega) (by unfold maxLen at hm;omega) (growslice_fits (by omega) hb)
   rw[hr] at hr'
   cases hr'
   exact⟨_,_,hr,hD,KO ((Ext.drew W).trans (Ext.alloc _ _))⟩
def KY (base:Nat) (e:TypeId) (size lo:Nat) (v:Value) (m:Nat) (ys:List Value):qO:=⟨Value,fun u=>u,fun u W=>Uw base e size lo v m ys u W⟩
theorem Ql (base:Nat) (e:TypeId) (size lo:Nat) (v:Value) (m:Nat) (ys:List Value) (u:Value):(KY base e size lo v m ys).f u=u:=rfl
theorem Uf:∀ p,qA (vI base e size lo v n xs m ys) ((KY base e size lo v m ys).φ p):=fun p _ _ he h=>he.2.2 p h
def ZK (lo n:Nat) (ty:TypeId) (cs:Array Value):qO:=⟨Nat,fun b=>.slice (some ⟨b,0,none⟩) n n,fun b W=>W.heap[b]?=some (.cells cs ty (0,0))∧lo≤b⟩
theorem qC (lo n:Nat) (ty:TypeId) (cs:Array Value) (b:Nat):(ZK lo n ty cs).f b=.slice (some ⟨b,0,none⟩) n n:=rfl
theorem jR (lo n:Nat) (ty:TypeId) (cs:Array Value):∀ p,Qx ((ZK lo n ty cs).φ p):=fun p W W' he h =>
 ⟨(Below.block he p (zG.1 h.1).1).trans h.1,h.2⟩
theorem VO {lo' n':Nat} {ty:TypeId} {cs:Array Value} (hlo:∀ g,v.ownBlock=some g→g<lo'):∀ p,qA (vI base e size lo v n xs m ys) ((ZK lo' n' ty cs).φ p):=fun p _ _ he h =>
 ⟨JG he (fun x=>by have:=hlo p x;have:=h.2;omega) h.1,h.2⟩
theorem Vq {P:Program} {o:Oper} {a:Act} {W:World} {lo' n':Nat} {ty:TypeId} {cs:Array Value} (hr:(execOp a.eval o).run P W=.ok (.value (.slice (some ⟨W.heap.size,0,none⟩) n' n')) (W.alloc (.cells cs ty)))
  (hlo:lo'≤W.heap.size):jo P o a W (ZK lo' n' ty cs):=by
 unfold jo;rw[hr];exact⟨W.heap.size,rfl,⟨World.alloc_heap_at _ _ _ rfl,hlo⟩,Ext.alloc _ _⟩
theorem Xv {P:Program} {o:Oper} {a:Act} {W:World} {lo' n':Nat} {ty:TypeId} {cs:Array Value} (hr:(execOp a.eval o).run P W=.ok (.value (.slice (some ⟨W.heap.size,0,none⟩) n' n')) (W.alloc (.cells cs ty)))
  (hlo:lo'≤W.heap.size):Qs (vI base e size lo v n xs m ys) P o a W (ZK lo' n' ty cs):=by
 unfold Qs;rw[hr];exact⟨W.heap.size,rfl,⟨World.alloc_heap_at _ _ _ rfl,hlo⟩,KO (Ext.alloc _ _)⟩
theorem qas {W:World} {b:Nat} {cs:Array Value} {t:TypeId} (h:W.heap[b]?=some (.cells cs t (0,0))):∀ j u,cs.toList[j]?=some u→W.cell? ((⟨b,0,none⟩:Addr).add j)=some u:=by
 intro j u hj
 have h2:W.cell? ⟨b,0+j,none⟩=some u:=by rw[qa h];simpa using hj
 rw[←h2]
 unfold Addr.add
 split
 ·subst_vars;rfl
 ·rfl
theorem jS {w:World} {base n size:Nat} {e:TypeId} {v:Value} {xs:List Value} (h:w.ownsRow base e size v n xs) {p:Addr} (hp:p.block<base) (u:Value):(w.setCell p u).ownsRow base e size v n xs:=by
 refine⟨h.1,?_⟩
 rcases h.2 with h0|⟨g,cap,cur,hv,hb,hg,rest⟩
 ·exact .inl h0
 ·exact .inr ⟨g,cap,cur,hv,hb,(Below.heap_setCell _ _ _ _ (by omega)).trans hg,rest⟩
end
def VG (v u:Value):Prop:=∀ a n c,u=.slice (some a) n c→0<n→v.ownBlock≠some a.block
theorem Bys.grown {w w':World} {u:Value} {l:List UInt8} {row:Option Nat} (h:Bys w w.heap.size u l) (hg:w.grownBy w' row) (ha:∀ a n c,u=.slice (some a) n c→0<n→row≠some a.block):Bys w' w'.heap.size u l:=by
 obtain⟨A,c,e,hc,hm,hr⟩:=h
 refine⟨A,c,e,hc,hm,hr.1,fun hn=>?_⟩
 obtain⟨b,off,rfl,hb,hcell⟩:=hr.2 hn
 refine⟨b,off,rfl,Nat.lt_of_lt_of_le hb hg.size,fun j x hx=>?_⟩
 exact World.grownBy.cell hg (hcell j x hx) (fun x=>ha _ _ _ e hn x.symm)
theorem VG.of_from {v u:Value} {lo:Nat} (hf:zm lo u) (hv:∀ g,v.ownBlock=some g→g<lo):VG v u:=by
 intro a n c e _ hx
 have:=hv _ hx
 have:=hf a n c e
 omega
theorem QM {w:World} {base n size:Nat} {e:TypeId} {v:Value} {xs:List Value} (h:w.ownsRow base e size v n xs):∀ g,v.ownBlock=some g→base≤g∧g<w.heap.size:=by
 intro g hg
 rcases h.2 with ⟨rfl,_⟩|⟨g',cap,cur,rfl,hb,hg',_⟩
 ·simp[Value.ownBlock] at hg
 ·simp only[Value.ownBlock,Option.some.injEq] at hg
  subst hg
  exact⟨hb,(zG.1 hg').1⟩
theorem qJ {w:World} {base n size:Nat} {e:TypeId} {v:Value} {xs:List Value} (h:w.ownsRow base e size v n xs):∃ A c,v=.slice A n c∧n≤c∧c≤maxLen:=by
 rcases h.2 with ⟨rfl,h0⟩|⟨g,cap,cur,rfl,_,_,hnc,hcm,_⟩
 ·exact⟨none,0,by rw[h0],by omega,by simp[maxLen]⟩
 ·exact⟨_,cap,rfl,hnc,hcm⟩
def Zp (lo:Nat) (w:World) (v:Value) (xs:List It):Prop:=
 ∃ ps:List (It×Value),ps.map (·.1)=xs∧(∃ A c,v=.slice A xs.length c∧xs.length≤c∧c≤maxLen∧Rd w w.heap.size 5 A xs.length (qI ps))∧(∀ p∈ps,(∃ A c,p.2=.slice A p.1.val.length c)∧Bys w w.heap.size p.2 p.1.val)∧zm lo v∧∀ p∈ps,zm lo p.2
theorem Zp.its {lo:Nat} {w:World} {v:Value} {xs:List It} (h:Zp lo w v xs):Its w w.heap.size v xs:=by
 obtain⟨ps,h1,h2,h3,_⟩:=h
 exact⟨ps,h1,h2,h3⟩
theorem Zp.mono {lo lo':Nat} {w:World} {v:Value} {xs:List It} (h:Zp lo w v xs) (hl:lo'≤lo):Zp lo' w v xs:=by
 obtain⟨ps,h1,h2,h3,h4,h5⟩:=h
 exact⟨ps,h1,h2,h3,h4.mono hl,fun p hp=>(h5 p hp).mono hl⟩
theorem Zp.keep {lo:Nat} {w w':World} {v:Value} {xs:List It} (h:Zp lo w v xs) (hs:w.heap.size≤w'.heap.size) (hk:∀ p:Addr,lo≤p.block→p.block<w.heap.size→w'.cell? p=w.cell? p):Zp lo w' v xs:=by
 have key:∀ {size n:Nat} {A:Option Addr} {us:List Value} {c:Nat},Rd w w.heap.size size A n us→zm lo (.slice A n c)→Rd w' w'.heap.size size A n us:=by
  intro size n A us c hr hf
  refine⟨hr.1,fun hn=>?_⟩
  obtain⟨b,off,rfl,hb,hcell⟩:=hr.2 hn
  exact⟨b,off,rfl,Nat.lt_of_lt_of_le hb hs,fun j x hx=>(hk ⟨b,off+j,none⟩ (hf ⟨b,off,none⟩ _ _ rfl) hb).trans (hcell j x hx)⟩
 obtain⟨ps,h1,⟨A,c,e,h2,h3,h4⟩,h5,h6,h7⟩:=h
 refine⟨ps,h1,⟨A,c,e,h2,h3,key h4 (by rw[←e];exact h6)⟩,fun p hp=>⟨(h5 p hp).1,?_⟩,h6,h7⟩
 obtain⟨_,A',c',e',g2,g3,g4⟩:=h5 p hp
 exact⟨A',c',e',g2,g3,key g4 (by rw[←e'];exact h7 p hp)⟩
theorem Zp.ext {lo:Nat} {w w':World} {v:Value} {xs:List It} (h:Zp lo w v xs) (hx:Ext w w'):Zp lo w' v xs:=h.keep hx.size fun _ _ hp=>Below.cell hx hp
abbrev TZ (x:It) (u:Value):List Value:=[.int .u8 x.k,.int .u32 x.i,.int .u32 x.o,.int .i64 x.r,u]
theorem qbr (ps:List (It×Value)) (x:It) (u:Value):qI (ps++[(x,u)])=qI ps++TZ x u:=by rw[jM];rfl
def VJ (base lo:Nat) (w:World) (v:Value) (ps:List (It×Value)):Prop:=
 w.ownsRow base 68 5 v ps.length (qI ps)∧∀ p∈ps,((∃ A c,p.2=.slice A p.1.val.length c)∧zm lo p.2)∧Bys w w.heap.size p.2 p.1.val∧VG v p.2
theorem VJ.nil (base lo:Nat) (w:World):VJ base lo w (.slice none 0 0) []:=⟨World.ownsRow_nil _ _ _ _,fun _ h=>by cases h⟩
theorem VJ.ext {base lo:Nat} {w w':World} {v:Value} {ps:List (It×Value)} (h:VJ base lo w v ps) (hx:Ext w w'):VJ base lo w' v ps:=
 ⟨QJ h.1 hx,fun p hp=>⟨(h.2 p hp).1,((h.2 p hp).2.1.below hx).more hx.size,(h.2 p hp).2.2⟩⟩
theorem VJ.push {base lo lo2:Nat} {w W:World} {v v':Value} {ps:List (It×Value)} (h:VJ base lo w v ps) (x:It) (A:Option Addr) (c:Nat) (hb:Bys w w.heap.size (.slice A x.val.length c) x.val) (hf:zm lo (.slice A x.val.length c)) (ha:VG v (.slice A x.val.length c))
  (hl:lo2=w.heap.size) (hD:Uw base 68 5 lo2 v (ps.length+1) (qI ps++TZ x (.slice A x.val.length c)) v' W) (hg:w.grownBy W v.ownBlock):VJ base lo W v' (ps++[(x,.slice A x.val.length c)]):=by
 subst hl
 refine⟨by rw[qbr,List.length_append];exact hD.1,?_⟩
 have key:∀ u l,Bys w w.heap.size u l→VG v u→Bys W W.heap.size u l∧VG v' u:=by
  intro u l hu hau
  refine⟨hu.grown hg hau,fun a n c e hn=>?_⟩
  rcases hD.2 with h1|⟨g,h1,h2⟩
  ·rw[h1];exact hau a n c e hn
  ·rw[h1]
   intro hx
   simp only[Option.some.injEq] at hx
   obtain⟨A',c',e',_,_,hr⟩:=hu
   rw[e] at e'
   simp only[Value.slice.injEq] at e'
   obtain⟨e1,e2,_⟩:=e'
   obtain⟨b,off,e3,hbb,_⟩:=hr.2 (by omega)
   rw[←e1] at e3
   simp only[Option.some.injEq] at e3
   rw[e3] at hx
   simp at hx
   omega
 intro p hp
 rcases List.mem_append.1 hp with hp|hp
 ·have:=h.2 p hp
  exact⟨this.1,key _ _ this.2.1 this.2.2⟩
 ·obtain rfl:p=(x,.slice A x.val.length c):=by simpa using hp
  exact⟨⟨⟨_,_,rfl⟩,hf⟩,key _ _ hb ha⟩
theorem VJ.setCell {base lo:Nat} {w:World} {v:Value} {ps:List (It×Value)} (h:VJ base lo w v ps) {p:Addr} (hp:p.block<base) (hl:p.block<lo) (u:Value):VJ base lo (w.setCell p u) v ps:=
 ⟨jS h.1 hp u,fun q hq=>⟨(h.2 q hq).1,by simpa using (h.2 q hq).2.1.setCell (h.2 q hq).1.2 hl u,(h.2 q hq).2.2⟩⟩
theorem VJ.its {base lo:Nat} {w:World} {v:Value} {ps:List (It×Value)} (h:VJ base lo w v ps) (hl:lo≤base):Zp lo w v (ps.map (·.1))∧∃ A c,v=.slice A ps.length c:=by
 have hf:zm base v:=zm.of_own h.1
 obtain⟨A,c,e,h1,h2⟩:∃ A c,v=.slice A ps.length c∧ps.length≤c∧c≤maxLen:=by
  rcases h.1.2 with ⟨rfl,h0⟩|⟨g,cap,cur,rfl,_,_,hnc,hcm,_⟩
  ·exact⟨none,0,by rw[h0],by omega,by simp[maxLen]⟩
  ·exact⟨_,cap,rfl,hnc,hcm⟩
 refine⟨⟨ps,rfl,⟨A,c,by rw[List.length_map];exact e,by rw[List.length_map];exact h1,h2,?_⟩,fun p hp=>⟨(h.2 p hp).1.1,(h.2 p hp).2.1⟩,hf.mono hl,fun p hp=>(h.2 p hp).1.2⟩,A,c,e⟩
 rw[List.length_map]
 have:=h.1
 rw[e] at this
 exact Rd.of_own this
theorem Tf {w:World} {lo:Nat} {xs:List It} {A:Option Addr} {n' c':Nat} (h:Zp lo w (.slice A n' c') xs) (b off n c:Nat) (j:Nat) (e:(Value.slice A n' c')=.slice (some ⟨b,off,none⟩) n c) (hn:0<n):lo≤(⟨b,j,none⟩:Addr).block:=by
 obtain⟨ps,h1,h2,h3,h4,h5⟩:=h
 exact h4 ⟨b,off,none⟩ _ _ e
theorem GA {l:List UInt8} {k:Nat} (h:QC l k=none):∀ m,k≤m→QC l m=none:=by
 intro m hm
 induction m with
 |zero =>
  obtain rfl:k=0:=by omega
  exact h
 |succ m ih =>
  rcases Nat.lt_or_ge k (m+1) with h'|h'
  ·unfold QC;rw[ih (by omega)]
  ·obtain rfl:k=m+1:=by omega
   exact h
theorem Yk {l r:List UInt8} {k:Nat} {xs:List It} (h:QC l k=some (xs,r)):QC l (k+1)=match zj r with|none=>none|some (x,n)=>some (xs++[x],r.drop n):=by
 conv=>lhs;unfold QC
 rw[h] <;> rfl
theorem qbK {l r:List UInt8} {k:Nat} {xs:List It} (h:QC l k=some (xs,r)) (hr:zj r=none):∀ m,k<m→QC l m=none:=by
 intro m hm
 have:QC l (k+1)=none:=by rw[Yk h,hr]
 exact GA this m (by omega)
theorem Gw {l r:List UInt8} {k n:Nat} {xs:List It} {x:It} (h:QC l k=some (xs,r)) (hr:zj r=some (x,n)):QC l (k+1)=some (xs++[x],r.drop n):=by rw[Yk h,hr]
def Vn (p0 p1 p2:Nat) (l7:List UInt8):Option (Int×List It):=
 if p0=78∧p2≤5 then
  match QC l7 p2 with
  |none=>none
  |some (xs,r)=>if qX p1 xs=true∧Vd r=true then some ((p1:Int),xs) else none
 else none
theorem qaB {l:List UInt8} (hl:l.length=128) (hs:Gg l=true):QE l=Vn (l[4]?.getD 0).toNat (l[5]?.getD 0).toNat (l[6]?.getD 0).toNat (l.drop 7):=by
 unfold QE Vn
 have:(l[4]?.getD 0)=78↔(l[4]?.getD 0).toNat=78:=by
  constructor
  ·intro h;rw[h];rfl
  ·intro h;exact UInt8.toNat.inj h
 simp only[hl,hs,this,true_and] <;> rfl
theorem qbF {p0 p1 p2:Nat} {l7:List UInt8} (h:¬(p0=78∧p2≤5)):Vn p0 p1 p2 l7=none:=by unfold Vn;rw[if_neg h]
theorem qao {p1 p2:Nat} {l7:List UInt8} (h:QC l7 p2=none):Vn 78 p1 p2 l7=none:=by
 unfold Vn
 split
 ·rw[h]
 ·rfl
theorem qal {p1 p2:Nat} {l7 r:List UInt8} {xs:List It} (h2:p2≤5) (h:QC l7 p2=some (xs,r)):Vn 78 p1 p2 l7=if qX p1 xs=true∧Vd r=true then some ((p1:Int),xs) else none:=by
 unfold Vn
 rw[if_pos ⟨rfl,h2⟩,h]
theorem VA {l r:List UInt8} {k:Nat} {xs:List It} (h:QC l k=some (xs,r)) (hk:k≤5) (hl:l.length=121):0<r.length∧r.length≤121:=by
 obtain⟨e,hx⟩:=KW h
 have h1:=Yp xs fun x hx'=>(hx x hx').1
 have h2:=Xc h
 have h3:l.length=(Zq xs).length+r.length:=by rw[e,List.length_append]
 omega
def UT (lo:Nat) (q:Option (Int×List It)) (u:Value) (W:World):Prop:=
 match q with
 |none=>∃ e:Int,e≠0∧u=.tuple #[ZA 0 none 0 0,.int .i64 e]
 |some (lvl,xs)=>∃ A c,u=.tuple #[ZA lvl A xs.length c,.int .i64 0]∧Zp lo W (.slice A xs.length c) xs
def NzI (W:World) (v:Value):Prop:=∀ b off n c i u,v=.slice (some ⟨b,off,none⟩) n c→i<n→W.cell? ⟨b,off+i*5+4,none⟩=some u→Nz W u
theorem NzI.keep {W W':World} {v:Value} (h:NzI W v) (hc:∀ b off n c,v=.slice (some ⟨b,off,none⟩) n c→0<n→∀ j,W'.cell? ⟨b,j,none⟩=W.cell? ⟨b,j,none⟩) (hn:∀ u,Nz W u→Nz W' u):NzI W' v:=fun b off n c i u e hi hu =>
 hn u (h b off n c i u e hi (by rw[←hc b off n c e (by omega)];exact hu))
theorem NzI.ext {W W':World} {v:Value} (h:NzI W v) (hx:Ext W W') (hb:∀ b off n c,v=.slice (some ⟨b,off,none⟩) n c→0<n→b<W.heap.size):NzI W' v:=
 h.keep (fun b off n c e hn j=>Below.cell hx (p:=⟨b,j,none⟩) (hb b off n c e hn)) fun u hu=>hu.ext hx
theorem VJ.nzi {base lo:Nat} {w:World} {v:Value} {ps:List (It×Value)} (h:VJ base lo w v ps) (hz:∀ p∈ps,Nz w p.2):NzI w v:=fun b off n c i u e hi hu=>by
 subst e
 obtain⟨A,c',e',-⟩:=qJ h.1
 simp only[Value.slice.injEq] at e'
 obtain⟨rfl,rfl,rfl⟩:=e'
 have h1:=(Rd.of_own h.1).2 (by omega)
 obtain⟨b',off',e,-,hcell⟩:=h1
 simp only[Option.some.injEq,Addr.mk.injEq,and_true] at e
 obtain⟨rfl,rfl⟩:=e
 have h2:=hcell (i*5+4) _ (kZ ps i hi).2.2.2.2
 rw[←Nat.add_assoc,hu] at h2
 rw[Option.some.inj h2]
 exact hz _ (List.getElem_mem hi)
theorem nz_push {w W:World} {v:Value} {ps:List (It×Value)} {base lo:Nat} (h:VJ base lo w v ps) (hz:∀ p∈ps,Nz w p.2) {x:It} {u:Value} (hu:Nz w u) (ha:VG v u) (hg:w.grownBy W v.ownBlock) (q:Addr) (t:Value):∀ p∈ps++[(x,u)],Nz (W.setCell q t) p.2:=by
 have key:∀ u,Nz w u→VG v u→Nz (W.setCell q t) u:=fun u hu hau=>Nz.setCell (fun a n c e hn=>by
  obtain⟨cs,ty,hr⟩:=hu a n c e hn
  exact⟨cs,ty,(hg.block a.block (zG.1 hr).1 (fun x=>hau a n c e hn x.symm)).trans hr⟩) q t
 intro p hp
 rcases List.mem_append.1 hp with hp|hp
 ·exact key _ (hz p hp) (h.2 p hp).2.2
 ·obtain rfl:p=(x,u):=by simpa using hp
  exact key _ hu ha
def Xl (lo:Nat) (q:Option (Int×List It)) (u:Value) (W:World):Prop:=
 match q with
 |none=>∃ e:Int,e≠0∧u=.tuple #[ZA 0 none 0 0,.int .i64 e]
 |some (lvl,xs)=>∃ A c,u=.tuple #[ZA lvl A xs.length c,.int .i64 0]∧Zp lo W (.slice A xs.length c) xs∧NzI W (.slice A xs.length c)
theorem Xl.nodeP {lo:Nat} {q:Option (Int×List It)} {u:Value} {W:World} (h:Xl lo q u W):UT lo q u W:=by
 rcases q with _|⟨lvl,xs⟩
 ·exact h
 ·obtain⟨A,c,h1,h2,-⟩:=h
  exact⟨A,c,h1,h2⟩
theorem JW (lvl:Int) (A:Option Addr) (n c:Nat) (xs:List It) (w:World) (hx:Its w w.heap.size (.slice A n c) xs) :
  Calls Tryz.prog 89 #[ZA lvl A n c] w (Ret (.int .i64 (jy (qX lvl xs))) w):=by
 by_cases h:jj lvl n=true
 ·exact qcd lvl A n c xs w hx h
 ·have hn:n=xs.length:=hx.at_.1
  have h':jj lvl n=false:=by simpa using h
  have:qX lvl xs=false:=by unfold qX;rw[←hn,h'];rfl
  rw[this]
  exact qbf lvl A n c h' w
theorem Tryz.info_item:(Tryz.prog.info? 68).map (fun i=>(i.zero,i.size,i.bytes))=some (some (.agg #[.int .u8 0,.int .u32 0,.int .u32 0,.int .i64 0,.slice none 0 0]),5,48):=by kernel_rfl
abbrev Jy (e:Int):Value:=.tuple #[ZA 0 none 0 0,.int .i64 e]
set_option maxHeartbeats 4000000 in
set_option maxRecDepth 100000 in
theorem Ty (v:Value) (l:List UInt8) (w:World) (h:Bys w w.heap.size v l) :
  Calls Tryz.prog 49 #[v] w (zD (Xl w.heap.size (QE l)) w):=by
 by_cases hl:l.length=128
 case neg =>
  have hq:QE l=none:=by unfold QE;rw[if_neg (fun x=>hl x.1)]
  rw[hq]
  have HO:=zH (fun W hW=>open_len v l hl W hW)
  go_enter Tryz.func49,Tryz.ntmps49
  go_wp2_with fail
  generalize hw1:(World.alloc _ _)=w1
  have b1:Ext w w1:=by rw[←hw1];exact Ext.alloc _ _
  have r1:w1.heap[w.heap.size]?=some (.cells #[.int .i64 0,.slice none 0 0] 49 (0,0)):=by rw[←hw1];exact World.alloc_heap_at _ _ _ rfl
  clear hw1
  refine(HO.out _ ((h.below b1).more b1.size)).mono ?_
  rintro e w2 ⟨rfl,hB⟩
  have b2:Below w.heap.size w w2:=Ext.trans b1 hB
  have r2:=qc r1 hB
  have k2:=qa r2
  have f2:=qg r2
  go_wp2
  refine bodyPost_ret (v:=Jy 3) (by simp[results,Tryz.results49,go_sem,k2]) rfl ⟨_,rfl,⟨3,by decide,rfl⟩,(by repeat' (first|with_reducible exact Below.refl _ _|with_reducible assumption|with_reducible apply Below.drew|with_reducible apply qv|with_reducible refine Below.alloc ?_ ?_ _|with_reducible refine Below.setCell ?_ ?_ _|(simp;done)|(simp;omega)|omega))⟩
 case pos =>
  have HO:=zH (fun W hW=>open_any v l hl W hW)
  generalize hR:QE l=R
  replace hR:=zH hR.symm
  go_enter Tryz.func49,Tryz.ntmps49
  go_wp2_with fail
  generalize hw1:(World.alloc _ _)=w1
  have b1:Ext w w1:=by rw[←hw1];exact Ext.alloc _ _
  have r1:w1.heap[w.heap.size]?=some (.cells #[.int .i64 0,.slice none 0 0] 49 (0,0)):=by rw[←hw1];exact World.alloc_heap_at _ _ _ rfl
  clear hw1
  refine(HO.out _ ((h.below b1).more b1.size)).mono ?_
  clear HO h
  rintro e w2 ⟨u,rfl,hu,hB⟩
  have b2:Ext w w2:=Ext.trans b1 hB
  have r2:=qc r1 hB
  have s1:w.heap.size<w1.heap.size:=(zG.1 r1).1
  by_cases hs:Gg l=true
  case neg =>
   have hs':Gg l=false:=by simpa using hs
   obtain rfl:R=none:=by rw[hR.out];unfold QE;rw[if_neg (fun x=>hs x.2.1)]
   rw[hs'] at hu
   simp only[Bool.false_eq_true,if_false] at hu
   subst hu
   clear b1 r1 hB hR hs hs'
   have b2':Below w.heap.size w w2:=b2
   have k2:=qa r2
   have f2:=qg r2
   go_wp2
   refine bodyPost_ret (v:=Jy 8) (by simp[results,Tryz.results49,go_sem,k2]) rfl ⟨_,rfl,⟨8,by decide,rfl⟩,(by repeat' (first|with_reducible exact Below.refl _ _|with_reducible assumption|with_reducible apply Below.drew|with_reducible apply qv|with_reducible refine Below.alloc ?_ ?_ _|with_reducible refine Below.setCell ?_ ?_ _|(simp;done)|(simp;omega)|omega))⟩
  case pos =>
   rw[hs,if_pos rfl] at hu
   obtain⟨u',rfl,A,c,rfl,hb,hf⟩:=hu
   have hb3:(l.drop 4).length=124:=by simp;omega
   obtain⟨_,hc,hm,hA⟩:=hb.at_
   obtain⟨b,off,rfl,hbl⟩:=hA (by omega)
   have hbw:w.heap.size<b:=Nat.lt_of_lt_of_le s1 (hf _ _ _ rfl)
   have hcell:∀ j,j<124→w2.cell? ⟨b,off+j,none⟩=some (.int .u8 ((l[4+j]?.getD 0).toNat:Int)):=by
    intro j hj
    obtain⟨A,c',e,_,_,hr⟩:=hb
    simp only[Value.slice.injEq] at e
    obtain⟨rfl,_,rfl⟩:=e
    obtain⟨b',off',e,_,hcell⟩:=hr.2 (by omega)
    simp only[Option.some.injEq,Addr.mk.injEq,and_true] at e
    obtain⟨rfl,rfl⟩:=e
    refine hcell j _ ?_
    rw[List.getElem?_map,List.getElem?_drop,List.getElem?_eq_getElem (by omega)]
    rfl
   have c0:=hcell 0 (by omega)
   have c1:=hcell 1 (by omega)
   have c2:=hcell 2 (by omega)
   have hrest:Bys w2 w2.heap.size (.slice (some ⟨b,off+3,none⟩) 121 (c-3)) (l.drop 7):=by
    have:=hb.sub (a:=3) (k:=121) (by omega)
    rwa [List.drop_drop,List.take_of_length_le (by simp;omega)] at this
   have hN:R=Vn (l[4]?.getD 0).toNat (l[5]?.getD 0).toNat (l[6]?.getD 0).toNat (l.drop 7):=by rw[hR.out];exact qaB hl hs
   have hl7:(l.drop 7).length=121:=by simp;omega
   have u1:=(l[5]?.getD 0).toNat_lt
   have u2:=(l[6]?.getD 0).toNat_lt
   clear hcell hb hA hB r1 b1 hf hb3
   rw[Nat.add_zero] at c0
   clear hR
   replace hN:=zH hN
   generalize (l[4]?.getD 0).toNat=p0 at *
   generalize (l[5]?.getD 0).toNat=p1 at *
   generalize (l[6]?.getD 0).toNat=p2 at *
   generalize l.drop 7=l7 at *
   unfold maxLen at hm
   have s2:w.heap.size<w2.heap.size:=(zG.1 r2).1
   have k2:=qa r2
   have f2:=qg r2
   have b2':Below w.heap.size w w2:=b2
   by_cases hhd:p0=78∧p2≤5
   case neg =>
    obtain rfl:R=none:=by rw[hN.out,qbF hhd]
    clear hN
    go_wp2
    all_goals try simp only[beq_iff_eq,beq_eq_false_iff_ne,ne_eq] at *
    all_goals first|(exfalso;omega)|skip
    all_goals
     generalize hwf:(World.alloc _ _)=wf
     have rf:wf.heap[w.heap.size]?=some (.cells #[.int .i64 0,.slice none 0 0] 49 (0,0)):=by rw[←hwf];exact(Below.heap_alloc _ _ _ (by simpa using s2)).trans (qj (qj r2 0 _) 1 _)
     have bf:Below w.heap.size w wf:=by rw[←hwf];exact(by repeat' (first|with_reducible exact Below.refl _ _|with_reducible assumption|with_reducible apply Below.drew|with_reducible apply qv|with_reducible refine Below.alloc ?_ ?_ _|with_reducible refine Below.setCell ?_ ?_ _|(simp;done)|(simp;omega)|omega))
     have kf:=qa rf
     exact bodyPost_ret (v:=Jy 8) (by simp[results,Tryz.results49,go_sem,kf]) rfl ⟨_,rfl,⟨8,by decide,rfl⟩,bf⟩
   case pos =>
    obtain⟨rfl,hp2⟩:=hhd
    have hN2:=zH (fun h=>hN.out.trans (@qao p1 p2 l7 h))
    have hN3:=zH (fun r xs h=>hN.out.trans (@qal p1 p2 l7 r xs hp2 h))
    clear hN
    go_wp2
    generalize hw3:(World.alloc _ _)=w3
    have b3:Ext w2 w3:=by rw[←hw3];exact Ext.alloc _ _
    have r3:w3.heap[w2.heap.size]?=some (.cells #[.int .i64 p1,.slice none 0 0] 49 (0,0)):=by rw[←hw3];exact World.alloc_heap_at _ _ _ rfl
    have hre:Bys w3 w2.heap.size (.slice (some ⟨b,off+3,none⟩) 121 (c-3)) l7:=hrest.below b3
    have rr3:=qc r2 b3
    have b23:Below w2.heap.size w2 w3:=b3
    clear hw3 hrest k2 f2 r2 c0 c1 hbl
    generalize hnb:w2.heap.size=nb at *
    go_loopw [7,42] (fun rs i wr=>∃ (k:Nat) (xs:List It) (r:List UInt8) (o cc:Nat) (v:Value) (ps:List (It×Value)),k≤p2∧i=.int .u8 (k:Int)∧QC l7 k=some (xs,r)∧rs=.slice (some ⟨b,o,none⟩) r.length cc∧Bys w3 nb rs r ∧
      wr.heap[nb]?=some (.cells #[.int .i64 p1,v] 49 (0,0))∧VJ (nb+1) (nb+1) wr v ps∧ps.map (·.1)=xs∧Below nb w3 wr∧∀ p∈ps,Nz wr p.2) (fun _ i _=>p2-(intOf i).toNat)
    case atStart=>exact⟨0,[],l7,off+3,c-3,.slice none 0 0,[],by omega,rfl,rfl,by rw[hl7],hre,r3,VJ.nil _ _ _,rfl,Below.refl _ _,fun _ h=>by cases h⟩
    case round =>
     obtain⟨k,xs,r,o,cc,v1,ps,hk,rfl,hits,rfl,hbr,rn,hrow,hps,hB,hnz⟩:=hrel
     replace hnz:=zH hnz
     by_cases hlt:k<p2
     ·have hlt':=hlt
      have hsn:nb<wr.heap.size:=(zG.1 rn).1
      have hrl:=VA hits (by omega) hl7
      have hbr':Bys wr wr.heap.size (.slice (some ⟨b,o,none⟩) r.length cc) r:=(hbr.below hB).more (by omega)
      have hat:=hbr.at_
      have HR:=zH (qcB _ r (by omega) wr hbr')
      have HBAD:=zH (fun h=>hN2.out (qbK hits h p2 hlt'))
      have HNX:=zH (fun x n h=>@Gw _ _ _ n _ x hits h)
      have HSM:=zH (fun x n=>@Kj r x n)
      have HSUB:=zH (fun n (h:n+(r.length-n)≤r.length)=>hbr.sub h)
      have hkn:=Xc hits
      have hpl:ps.length=k:=by rw[←hkn,←hps,List.length_map]
      generalize hq:zj r=q at *
      clear hbr hbr'
      have rr:=Ge rr3 s2 hB
      go_wp2_with fail
      refine HR.out.mono ?_
      rintro e w4 ⟨u,rfl,hu,hB4⟩
      have rr4:=qc rr hB4
      rcases q with _|⟨x,n⟩
      ·obtain rfl:u=noIt:=hu
       obtain rfl:R=none:=HBAD.out rfl
       clear HR HBAD HNX HSM HSUB hN2 hN3 rr
       have kk4:=qa rr4
       have ff4:=qg rr4
       have s4:w.heap.size<w4.heap.size:=(zG.1 rr4).1
       have bw4:Below w.heap.size w w4:=Below.trans b2' (Below.trans (Below.mono b23 (by omega)) (Below.trans (Below.mono hB (by omega)) (Below.mono hB4 (by omega))))
       go_wp2
       generalize hwf:(World.alloc _ _)=wf
       have rf:wf.heap[w.heap.size]?=some (.cells #[.int .i64 0,.slice none 0 0] 49 (0,0)):=by rw[←hwf];exact(Below.heap_alloc _ _ _ (by simpa using s4)).trans (qj (qj rr4 0 _) 1 _)
       have bf:Below w.heap.size w wf:=by rw[←hwf];exact(by repeat' (first|with_reducible exact Below.refl _ _|with_reducible assumption|with_reducible apply Below.drew|with_reducible apply qv|with_reducible refine Below.alloc ?_ ?_ _|with_reducible refine Below.setCell ?_ ?_ _|(simp;done)|(simp;omega)|omega))
       have kf:=qa rf
       exact bodyPost_ret (v:=Jy 8) (by simp[results,Tryz.results49,go_sem,kf]) rfl ⟨_,rfl,⟨8,by decide,rfl⟩,bf⟩
      ·obtain⟨i,rfl,A',c',rfl,⟨hby,hfr⟩,hnx⟩:=hu
       replace hnx:=zH hnx
       obtain⟨g1,g2,g3,g4,g5⟩:=HSM.out x n rfl
       have htl:=VA (HNX.out x n rfl) (by omega) hl7
       rw[List.length_drop] at htl
       have hsb:=HSUB.out n (by omega)
       rw[List.take_of_length_le (by simp)] at hsb
       clear HR HSM HSUB HBAD g1 g3 g4 g5
       have hrow4:=hrow.ext hB4
       have hvl:=QM hrow.1
       have s4:=hB4.size
       go_wp2_with fail
       generalize hw5:(World.alloc _ _)=w5
       have b5:Ext w4 w5:=by rw[←hw5];exact Ext.alloc _ _
       have r5:w5.heap[w4.heap.size]?=some (.cells #[.int .u8 x.k,.int .u32 x.i,.int .u32 x.o,.int .i64 x.r,.slice A' x.val.length c'] 68 (0,0)):=by rw[←hw5];exact World.alloc_heap_at _ _ _ rfl
       clear hw5
       have hrow5:=hrow4.ext b5
       have rn5:=qc (qc rn hB4) b5
       have hby5:=(hby.below b5).more b5.size
       have s5:w4.heap.size<w5.heap.size:=(zG.1 r5).1
       have hB5:Below nb w3 w5:=Below.trans hB (Below.trans (Below.mono hB4 (by omega)) (Below.mono b5 (by omega)))
       have hvn:v1.ownBlock≠some nb:=fun h=>by have:=hvl _ h;omega
       have hv4:v1.ownBlock≠some w4.heap.size:=fun h=>by have:=hvl _ h;omega
       obtain⟨RR,hRR⟩:∃ RR:Rel,RR=vI (nb+1) 68 5 w5.heap.size v1 ps.length (qI ps) (ps.length+1) (qI ps++TZ x (.slice A' x.val.length c')) :=⟨_,rfl⟩
       replace hRR:=zH hRR
       have n1:∀ W,RR.r w5 W→W.cell? ⟨nb,1,none⟩=some v1:=fun W h=>ZG (hRR.out ▸ h) hvn (by rw[qa rn5];rfl)
       have i0:∀ W,RR.r w5 W→W.cell? ⟨w4.heap.size,0,none⟩=some (.int .u8 x.k):=fun W h=>ZG (hRR.out ▸ h) hv4 (by rw[qa r5];rfl)
       have i1:∀ W,RR.r w5 W→W.cell? ⟨w4.heap.size,1,none⟩=some (.int .u32 x.i):=fun W h=>ZG (hRR.out ▸ h) hv4 (by rw[qa r5];rfl)
       have i2:∀ W,RR.r w5 W→W.cell? ⟨w4.heap.size,2,none⟩=some (.int .u32 x.o):=fun W h=>ZG (hRR.out ▸ h) hv4 (by rw[qa r5];rfl)
       have i3:∀ W,RR.r w5 W→W.cell? ⟨w4.heap.size,3,none⟩=some (.int .i64 x.r):=fun W h=>ZG (hRR.out ▸ h) hv4 (by rw[qa r5];rfl)
       have i4:∀ W,RR.r w5 W→W.cell? ⟨w4.heap.size,4,none⟩=some (.slice A' x.val.length c'):=fun W h=>ZG (hRR.out ▸ h) hv4 (by rw[qa r5];rfl)
       refine qm (by kernel_rfl) ?_
       refine zh 5 10 (.slice (some ⟨b,o,none⟩) r.length cc) (by kernel_rfl) (by simp only[List.getElem?_toArray,List.getElem?_cons_succ,List.getElem?_cons_zero];exact rfl) (by kernel_rfl) (by kernel_rfl) (by kernel_rfl) (by rfl) (fun W=>?_) ?_
       ·go_simp
       simp only[Act.put,qi,qe,qb,qf,qC,Ql,zA,zB,zC]
       refine zh 6 9 (.int .i64 (n:Int)) (by kernel_rfl) (by simp only[List.getElem?_toArray,List.getElem?_cons_succ,List.getElem?_cons_zero];exact rfl) (by kernel_rfl) (by kernel_rfl) (by kernel_rfl) (by rfl) (fun W=>?_) ?_
       ·go_simp
       simp only[Act.put,qi,qe,qb,qf,qC,Ql,zA,zB,zC]
       refine zh 7 8 (.slice (some ⟨b,o+n,none⟩) (r.length-n) (cc-n)) (by kernel_rfl) (by simp only[List.getElem?_toArray,List.getElem?_cons_succ,List.getElem?_cons_zero];exact rfl) (by kernel_rfl) (by kernel_rfl) (by kernel_rfl) (by rfl) (fun W=>?_) ?_
       ·go_simp
        have:=hat.2.1
        omega
       simp only[Act.put,qi,qe,qb,qf,qC,Ql,zA,zB,zC]
       refine zI (w:=w5) RR (qG [(3,ZK w5.heap.size 1 68 #[.int .u8 x.k,.int .u32 x.i,.int .u32 x.o,.int .i64 x.r,.slice A' x.val.length c']),(4,KY (nb+1) 68 5 w5.heap.size v1 (ps.length+1) (qI ps++TZ x (.slice A' x.val.length c')))])
        [true,true,true,true,true,false,false,false,true] 2 (by kernel_rfl) (by kernel_rfl) (by kernel_rfl) (by kernel_rfl) (by kernel_rfl) (by kernel_rfl) ?st (Rel.drew _ _) ?walk
       case st=>rw[hRR.out];exact qk (by simp only[List.forall_mem_cons];exact⟨VO (fun g hg=>by have:=hvl g hg;omega),Uf,fun _ h=>by cases h⟩)
       case walk =>
        intro K hK
        dsimp only[qp]
        repeat ((first|(refine qd ?_ (by rfl) (by rfl) (fun W hW _=>⟨W,?_,Rel.refl _ W⟩) ?_;rotate_left;(first|(go_simp;with_reducible rfl)|(go_simp;done)))|(refine qh (by rfl) ?_));try simp only[Act.put,qi,qe,qb,qf,qC,Ql,zA,zB,zC])
        refine qy (ZK w5.heap.size 1 68 #[.int .u8 x.k,.int .u32 x.i,.int .u32 x.o,.int .i64 x.r,.slice A' x.val.length c']) (by rfl) (by rfl) (fun W hW _=>?_) (fun p=>?_)
        ·rw[hRR.out] at hW ⊢
         refine Xv ?_ hW.1.size
         go_simp
        simp only[Act.put,qi,qe,qb,qf,qC,Ql,zA,zB,zC]
        refine qy (KY (nb+1) 68 5 w5.heap.size v1 (ps.length+1) (qI ps++TZ x (.slice A' x.val.length c'))) (by rfl) (by rfl) (fun W hW hp=>?_) (fun v2=>?_)
        ·rw[hRR.out] at hW ⊢
         obtain⟨i0,hi,hz0,hz1,hz2⟩:=info_parts Tryz.info_item
         obtain⟨hcells,_⟩:=(hp 3 (by decide)).1
         obtain⟨v',w',hrun,hD,hR'⟩:=VF (P:=Tryz.prog) (lo:=w5.heap.size) W 47 47 i0 _ 48 Tryz.underlying47 hi hz0 hz1 hz2 rfl (by decide) (hW.2.1 hrow5.1) ⟨p,0,none⟩ 1 1 (TZ x (.slice A' x.val.length c')) rfl (qas hcells) (by simp[TZ,Value.oneCell']) (by omega) (by decide) (by have:=hW.1.size;omega) hW.1.size
         refine Zs (u:=v') (w':=w') ?_ ⟨v',rfl,hD,hR'⟩
         exact Xy (s:=.tmp 55) (x:=.tmp 57) rfl rfl rfl hrun
        simp only[Act.put,qi,qe,qb,qf,qC,Ql,zA,zB,zC]
        repeat ((first|(refine qd ?_ (by rfl) (by rfl) (fun W hW _=>⟨W,?_,Rel.refl _ W⟩) ?_;rotate_left;(first|(go_simp;with_reducible rfl)|(go_simp;done)))|(refine qh (by rfl) ?_));try simp only[Act.put,qi,qe,qb,qf,qC,Ql,zA,zB,zC])
        refine qt (hK _ _ fun W hW hF=>?_)
        have hD:=(hF 4).1
        clear hF hK n1 i0 i1 i2 i3 i4
        rw[hRR.out] at hW
        dsimp only[List.drop,List.length_cons,List.length_nil,KY] at *
        change Uw _ _ _ _ _ _ _ v2 W at hD
        have rnW:=JG hW hvn rn5
        have kW:=qa rnW
        have fW:=qg rnW
        have hnW:=zH (fun q t=>nz_push (x:=x) hrow5 (fun p hp=>((hnz.out p hp).ext hB4).ext b5) (hnx.out.ext b5) (VG.of_from hfr (fun g hg=>(hvl g hg).2)) hW.1 q t)
        have hrW:=hrow5.push x A' c' hby5 (hfr.mono (by omega)) (VG.of_from hfr (fun g hg=>(hvl g hg).2)) rfl hD hW.1
        have hBW:Below nb w5 W:=(Below.refl _ _).grown hW.1 (by omega) (fun g hg=>by have:=hvl g hg;omega)
        obtain⟨A2,c2',rfl,_,_⟩:=qJ hD.1
        go_wp2
        refine Qn ?_
        go_wp2
        go_roundw
        case rel =>
         refine⟨k+1,xs++[x],r.drop n,o+n,cc-n,_,ps++[(x,.slice A' x.val.length c')],by omega,by go_num,HNX.out x n rfl,by rw[List.length_drop],hsb,qj rnW 1 _,?_,by simp[hps],?_,hnW.out _ _⟩
         ·rw[hpl] at hrW
          exact hrW.setCell (p:=⟨nb,1,none⟩) (Nat.lt_succ_self _) (Nat.lt_succ_self _) _
         ·exact Below.setCell (Below.trans hB5 hBW) (p:=⟨nb,1,none⟩) (Nat.le_refl _) _
        case measure=>simp[intOf];omega
     ·obtain rfl:k=p2:=by omega
      have hsn:nb<wr.heap.size:=(zG.1 rn).1
      have hrl:=VA hits hp2 hl7
      have hR:=hN3.out r xs hits
      have hbr':Bys wr wr.heap.size (.slice (some ⟨b,o,none⟩) r.length cc) r:=(hbr.below hB).more (by omega)
      have hzi:=zH (hrow.nzi hnz.out)
      obtain⟨hits',A2,c2',rfl⟩:=hrow.its (Nat.le_refl _)
      rw[hps] at hits'
      have hxl:ps.length=xs.length:=by rw[←hps,List.length_map]
      rw[hxl] at hits' rn
      have rr:=Ge rr3 s2 hB
      have bw:Below w.heap.size w wr:=Below.trans b2' (Below.trans (Below.mono b23 (by omega)) (Below.mono hB (by omega)))
      have HC:=zH (fun W (hW:Ext wr W)=>JW p1 A2 xs.length c2' xs W (hits'.its.ext hW))
      have HM:=zH (fun W (hW:Ext wr W)=>qby _ r hrl.1 (by omega) W ((hbr'.below hW).more hW.size))
      have hmz:=Tx r
      have hml:=GT r
      replace hR:=zH hR
      clear hN2 hN3 hbr hbr' hrow hits
      have kn:=qa rn
      go_wp2_with fail
      refine(HC.out _ (Ext.refl _)).mono ?_
      rintro e w4 ⟨rfl,hB4⟩
      have rr4:=qc rr hB4
      have bw4:Below w.heap.size w w4:=Below.trans bw (Below.mono hB4 (by omega))
      have s4:w.heap.size<w4.heap.size:=(zG.1 rr4).1
      have rn4:=qc rn hB4
      clear HC kn rr
      by_cases hmay:qX (p1:Int) xs=true
      case neg =>
       obtain rfl:R=none:=by rw[hR.out,if_neg (fun h=>hmay h.1)]
       have hmay':qX (p1:Int) xs=false:=by simpa using hmay
       rw[Jp hmay']
       clear hR HM hmay hmay' hmz hml
       have k4:=qa rr4
       have f4:=qg rr4
       go_wp2
       generalize hwf:(World.setCell _ _ _)=wf
       have rf:wf.heap[w.heap.size]?=some (.cells #[.int .i64 0,.slice none 0 0] 49 (0,0)):=by rw[←hwf];exact qj (qj rr4 0 _) 1 _
       have bf:Below w.heap.size w wf:=by rw[←hwf];exact Below.setCell (Below.setCell bw4 (p:=⟨w.heap.size,0,none⟩) (Nat.le_refl _) _) (p:=⟨w.heap.size,1,none⟩) (Nat.le_refl _) _
       have kf:=qa rf
       exact bodyPost_ret (v:=Jy 8) (by simp[results,Tryz.results49,go_sem,kf]) rfl ⟨_,rfl,⟨8,by decide,rfl⟩,bf⟩
      case pos =>
       rw[vD hmay]
       go_wp2_with fail
       refine(HM.out _ hB4).mono ?_
       rintro e w5 ⟨rfl,hB5⟩
       have rr5:=qc rr4 hB5
       have bw5:Below w.heap.size w w5:=Below.trans bw4 (Below.mono hB5 (by omega))
       have s5:w.heap.size<w5.heap.size:=(zG.1 rr5).1
       have rn5:=qc rn4 hB5
       have hx5:Ext wr w5:=Ext.trans hB4 hB5
       have k5:=qa rr5
       have f5:=qg rr5
       have kn5:=qa rn5
       have fn5:=qg rn5
       clear HM
       by_cases hz:Vd r=true
       case neg =>
        obtain rfl:R=none:=by rw[hR.out,if_neg (fun h=>hz h.2)]
        have hz':Vd r=false:=by simpa using hz
        rw[hz'] at hmz
        have hm0:0<kh r:=by simpa using hmz
        clear hR hz hz' hmz
        generalize kh r=mm at *
        go_wp2
        generalize hwf:(World.setCell _ _ _)=wf
        have rf:wf.heap[w.heap.size]?=some (.cells #[.int .i64 0,.slice none 0 0] 49 (0,0)):=by rw[←hwf];exact qj (qj rr5 0 _) 1 _
        have bf:Below w.heap.size w wf:=by rw[←hwf];exact Below.setCell (Below.setCell bw5 (p:=⟨w.heap.size,0,none⟩) (Nat.le_refl _) _) (p:=⟨w.heap.size,1,none⟩) (Nat.le_refl _) _
        have kf:=qa rf
        exact bodyPost_ret (v:=Jy 8) (by simp[results,Tryz.results49,go_sem,kf]) rfl ⟨_,rfl,⟨8,by decide,rfl⟩,bf⟩
       case pos =>
        obtain rfl:R=some ((p1:Int),xs):=by rw[hR.out,if_pos ⟨hmay,hz⟩]
        rw[hz] at hmz
        have hm0:kh r=0:=by simpa using hmz
        clear hR hz hmz
        rw[hm0]
        go_wp2
        generalize hwf:(World.setCell _ _ _)=wf
        have rf:wf.heap[w.heap.size]?=some (.cells #[.int .i64 p1,.slice A2 xs.length c2'] 49 (0,0)):=by rw[←hwf];exact qj (qj rr5 0 _) 1 _
        have bf:Below w.heap.size w wf:=by rw[←hwf];exact Below.setCell (Below.setCell bw5 (p:=⟨w.heap.size,0,none⟩) (Nat.le_refl _) _) (p:=⟨w.heap.size,1,none⟩) (Nat.le_refl _) _
        have kf:=qa rf
        have hfi:Zp (nb+1) wf (.slice A2 xs.length c2') xs:=by
         refine(hits'.ext hx5).keep (by rw[←hwf];simp) (fun p h1 h2=>?_)
         rw[←hwf,World.cell?_setCell_other _ _ _ _ (fun e=>by subst e;simp at h1;omega),World.cell?_setCell_other _ _ _ _ (fun e=>by subst e;simp at h1;omega)]
        have hzf:NzI wf (.slice A2 xs.length c2'):=by
         have hzi':=hzi.out
         rw[hxl] at hzi'
         have hlow:∀ b off n c,Value.slice A2 xs.length c2'=.slice (some ⟨b,off,none⟩) n c→0<n→w.heap.size<b∧b<wr.heap.size:=fun b off n c e hn=>by
          obtain⟨-,-,-,h4⟩:=hits'.its.at_
          have h5:nb+1≤(⟨b,0,none⟩:Addr).block:=Tf hits' b off n c 0 e hn
          simp only[Value.slice.injEq] at e
          obtain⟨b6,o6,e6,e7⟩:=h4 (by omega)
          rw[e.1] at e6
          simp only[Option.some.injEq,Addr.mk.injEq] at e6
          simp only at h5
          omega
         refine(hzi'.ext hx5 (fun b off n c e hn=>(hlow b off n c e hn).2)).keep (fun b off n c e hn j=>?_) (fun u hu=>?_)
         case refine_2=>rw[←hwf];exact(hu.setCell _ _).setCell _ _
         have:=(hlow b off n c e hn).1
         rw[←hwf,World.cell?_setCell_other _ _ _ _ (fun e=>by simp only[Addr.mk.injEq] at e;omega),World.cell?_setCell_other _ _ _ _ (fun e=>by simp only[Addr.mk.injEq] at e;omega)]
        exact bodyPost_ret (v:=.tuple #[ZA p1 A2 xs.length c2',.int .i64 0]) (by simp[results,Tryz.results49,go_sem,kf]) rfl ⟨_,rfl,⟨A2,c2',rfl,hfi.mono (by omega),hzf⟩,bf⟩
theorem qeI (v:Value) (l:List UInt8) (w:World) (h:Bys w w.heap.size v l) :
  Calls Tryz.prog 49 #[v] w (zD (UT w.heap.size (QE l)) w):=
 (Ty v l w h).mono fun _ _ ⟨u,he,hu,hB⟩=>⟨u,he,hu.nodeP,hB⟩



set_option maxRecDepth 100000 in
set_option maxHeartbeats 1000000 in
theorem qdZ (n:Nat) (hn:n<1073741824) (w:World) :
  Calls Tryz.prog 153 #[.slice none 0 0,.int .i64 (n:Int)] w (zD (fun v w'=>w'.ownsRow w.heap.size 5 1 v 0 []) w):=by
 obtain⟨i0,hi,hz0,hz1,hz2⟩:=info_parts Tryz.info_u8
 by_cases h0:n=0
 ·subst h0
  go_enter Tryz.func153,Tryz.ntmps153
  go_wp2
  go_ret
  exact⟨_,rfl,World.ownsRow_nil _ _ _ _,Below.refl _ _⟩
 ·have hG:=grownCap_ge w n 0 5
  have hGm:=grownCap_le_maxLen w n 0 5 (by unfold maxLen;omega)
  have hrz:∀ ty,(Builtin.append_ #[26,3] ty #[.slice none 0 0,.int .i64 (n:Int)]).run Tryz.prog w =
    .ok (.slice (some ⟨w.heap.size,0,none⟩) n (grownCap w n 0 5)) (w.drew.alloc (.cells (([]:List Value).toArray++Builtin.zeroCells (Value.int .u8 0).cells n++Builtin.zeroCells (Value.int .u8 0).cells (grownCap w n 0 5-n)) 5)):=fun ty=>by
   have h:=Lib.run_append_grow_zeros (P:=Tryz.prog) w 26 3 ty 5 i0 (.int .u8 0) .i64 .i64 Tryz.underlying26 Tryz.underlying3 hi hz0 none 0 0 [] (run_firstCells_none w.drew i0.size 0 0 0) n (by omega) (by omega) (by omega) (by omega) (by rw[hz2];omega) (growslice_fits (by omega) (by rw[hz2];omega))
   simpa using h
  obtain⟨G,hGe⟩:∃ G,grownCap w n 0 5=G:=⟨_,rfl⟩
  rw[hGe] at hG hGm hrz
  unfold maxLen at hGm
  have hpos:0<n:=by omega
  clear hGe
  go_enter Tryz.func153,Tryz.ntmps153
  go_wp2_with (at_builtin;refine Lib.wpList_append_run _ rfl _ _ _ _ rfl _ _ rfl rfl _ _ (hrz _) ?_)
  go_ret
  refine⟨_,rfl,?_,(by repeat' (first|with_reducible exact Below.refl _ _|with_reducible assumption|with_reducible apply Below.drew|with_reducible apply qv|with_reducible refine Below.alloc ?_ ?_ _|with_reducible refine Below.setCell ?_ ?_ _|(simp;done)|(simp;omega)|omega))⟩
  refine(World.ownsRow_made w _ G (Nat.le_refl _) (by unfold maxLen;omega) ?_).drew
  simp only[Array.size_append,size_zeroCells,List.size_toArray,List.length_cons,List.length_nil]
  omega
def vZ (ls:List (List UInt8)) (k:Nat):List UInt8:=(ls.take k).flatten
set_option maxRecDepth 100000 in
set_option maxHeartbeats 1000000 in
theorem vw (A:Option Addr) (c m:Nat) (vs:List Value) (ls:List (List UInt8)) (hv:vs.length=m) (hl:ls.length=m) (w:World) (hr:Rd w w.heap.size 1 A m vs)
  (hb:∀ (i:Nat) (v:Value) (l:List UInt8),vs[i]?=some v→ls[i]?=some l→Bys w w.heap.size v l) (hn:m<1024) (hs:ls.flatten.length<1048576) :
  Calls Tryz.prog 107 #[.slice A m c] w (zD (fun v w'=>w'.ownsRow w.heap.size 5 1 v ls.flatten.length (ls.flatten.map bv)) w):=by
 obtain⟨i0,hi,hz0,hz1,hz2⟩:=info_parts Tryz.info_u8
 have hstep:∀ k,k<m→∃ A c l,vs[k]?=some (.slice A l.length c)∧ls[k]?=some l∧Rd w w.heap.size 1 A l.length (l.map bv):=fun k hk=>by
  obtain⟨v,hv⟩:∃ v,vs[k]?=some v:=⟨_,List.getElem?_eq_getElem (by omega)⟩
  obtain⟨l,hl'⟩:∃ l,ls[k]?=some l:=⟨_,List.getElem?_eq_getElem (by omega)⟩
  obtain⟨A,c,rfl,_,_,h⟩:=hb k v l hv hl'
  exact⟨A,c,l,hv,hl',h⟩
 have hsum:∀ k,(vZ ls k).length≤ls.flatten.length:=fun k=>by
  unfold vZ;conv=>rhs;rw[←List.take_append_drop k ls]
  rw[List.flatten_append,List.length_append];omega
 have htk:∀ (k:Nat) (l:List UInt8),ls[k]?=some l→vZ ls (k+1)=vZ ls k++l:=fun k l h=>by
  unfold vZ;rw[List.take_add_one,h];simp
 have HT:=zH htk
 clear htk
 have hall:ls.flatten=vZ ls m:=by unfold vZ;rw[List.take_of_length_le (by omega)]
 have h00:Hid ([]=vZ ls 0):=by unfold vZ;exact rfl
 rw[hall] at hs hsum ⊢
 clear hall hl hv hb
 go_enter Tryz.func107,Tryz.ntmps107
 go_wp2
 go_loop [3,11] (fun t i=>∃ k:Nat,k≤m∧i=.int .i64 (k:Int)∧t=.int .i64 ((vZ ls k).length:Int))
  (fun _ i=>m-(intOf i).toNat)
 case atStart=>exact⟨0,Nat.zero_le _,rfl,by rw[←h00.out];rfl⟩
 case round =>
  obtain⟨k,hk,rfl,rfl⟩:=hrel
  have h1:=hsum k
  by_cases hlt:k<m
  ·obtain⟨A',c',l,hv,hl,hrl⟩:=hstep k hlt
   obtain⟨b,off,rfl,hbl,hc⟩:=hr.2 (by omega)
   have hcell:=hc k _ hv
   have h2:=hsum (k+1)
   rw[HT.out k l hl,List.length_append] at h2
   go_wp2
   go_round
   case rel=>exact⟨k+1,by omega,by go_num,by rw[HT.out k l hl,List.length_append];go_num⟩
   case measure=>simp[intOf];omega
  ·obtain rfl:k=m:=by omega
   clear h1
   go_wp2_with fail
   refine(qdZ (vZ ls k).length (by omega) _).mono ?_
   rintro e w1 ⟨v,rfl,hown,hB⟩
   go_wp2
   go_loopw [6,27] (fun v i wr=>∃ j:Nat,j≤k∧i=.int .i64 (j:Int)∧wr.ownsRow w.heap.size 5 1 v (vZ ls j).length ((vZ ls j).map bv)∧Below w.heap.size w wr)
    (fun _ i _=>k-(intOf i).toNat)
   case atStart=>exact⟨0,Nat.zero_le _,rfl,by rw[←h00.out];exact hown,hB⟩
   case round =>
    clear hown hB
    obtain⟨j,hj,rfl,hown,hB⟩:=hrel
    by_cases hlt:j<k
    ·obtain⟨A',c',l,hv,hl,hrl⟩:=hstep j hlt
     obtain⟨b,off,rfl,hbl,hc⟩:=hr.2 (by omega)
     have hcell:=(hB.cell (p:=⟨b,off+j,none⟩) hbl).trans (hc j _ hv)
     have h1:=hsum j
     have h2:=hsum (j+1)
     rw[HT.out j l hl,List.length_append] at h2
     have HE:=zH (HT.out j l hl)
     go_wp2_with (at_builtin;refine qQ ?_)
     refine Qt.go (Qi _ rfl (.tmp 31) (.tmp 32) 26 rfl w.heap.size 5 i0 (.int .u8 0) 1 1 Tryz.underlying26 hi hz0 hz1 hz2 rfl (by decide) _ _ _ rfl hown w.heap.size A' l.length c' (l.map bv) rfl (hrl.below hB) (Yw l) (by omega) (by decide) hB.size ?_)
     intro v' w2 hown1 _ hb1 _
     go_wp2
     go_roundw
     case rel=>exact⟨j+1,by omega,by go_num,by rw[HE.out,List.length_append,List.map_append];exact hown1,hB.trans hb1⟩
     case measure=>simp[intOf];omega
    ·obtain rfl:j=k:=by omega
     go_wp2
     go_ret
     exact⟨_,rfl,hown,hB⟩
end Go.Proofs.YtpbniokljofedaaGreat
