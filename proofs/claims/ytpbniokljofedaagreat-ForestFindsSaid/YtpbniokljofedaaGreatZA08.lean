/- Texts DoneX, TwinW, DiskR, Room, Short, DTwinW, joined. -/
import Derived.Deep.Slices
import Derived.Test.YtpbniokljofedaaGreatZA03
import Derived.Test.YtpbniokljofedaaGreatZA05
import Derived.Test.YtpbniokljofedaaGreatZA07
set_option linter.unusedSimpArgs false
set_option linter.unusedVariables false
namespace Go.Proofs.YtpbniokljofedaaGreat
open Go.RowKit
def qay:Obj→Obj
 | .cells c t f=>if f=(0,0) then .cells c t f else .coro none
 |o=>o
def thaw (W:World):World:={ W with heap:=W.heap.map qay }
theorem Vc (W:World):(thaw W).heap.size=W.heap.size:=by simp[thaw]
theorem jI (W:World) (k:Nat):(thaw W).heap[k]?=(W.heap[k]?).map qay:=by simp[thaw]
theorem thaw_row {W:World} {b:Nat} {cs:Array Value} {t:TypeId} (h:W.heap[b]?=some (.cells cs t (0,0))):(thaw W).heap[b]?=some (.cells cs t (0,0)):=by
 rw[jI,h]
 rfl
theorem jP {w w':World} {q:Addr} (h:w'.heap[q.block]?=w.heap[q.block]?):(thaw w').cell? q=(thaw w).cell? q:=
 World.cell?_of_block (by rw[jI,jI,h])
theorem Below.thaw {B:Nat} {w w':World} (h:Below B w w') {q:Addr} (hq:q.block<B):(thaw w').cell? q=(Go.Proofs.YtpbniokljofedaaGreat.thaw w).cell? q:=jP (h.block q.block hq)
theorem YM {W:World} {q:Addr} {v:Value} (h:(thaw W).cell? q=some v):W.cell? q=some v∧W.frozen? q=false:=by
 unfold World.cell? at h
 rw[jI] at h
 unfold World.cell? World.frozen?
 cases hb:W.heap[q.block]? with
 |none=>rw[hb] at h;cases h
 |some o =>
  rw[hb] at h
  cases o with
  |cells c e f =>
   simp only[Option.map_some,qay] at h
   by_cases hf:f=(0,0)
   ·subst hf
    rw[if_pos rfl] at h
    exact⟨h,by simp⟩
   ·rw[if_neg hf] at h
    cases h
  |_=>simp only[Option.map_some,qay] at h;cases h
theorem Vg {W:World} {b:Nat} {cs:Array Value} {t:TypeId} (h:W.heap[b]?=some (.cells cs t (0,0))) (j:Nat):(thaw W).cell? ⟨b,j,none⟩=W.cell? ⟨b,j,none⟩:=by
 rw[qa h,qa (thaw_row h)]
def Thaw (W:World) (v:Value):Prop:=∀ a n c,v=.slice (some a) n c→0<n→∃ cs t,W.heap[a.block]?=some (.cells cs t (0,0))
theorem Thaw.of_own {w:World} {base n size:Nat} {e:TypeId} {v:Value} {xs:List Value} (h:w.ownsRow base e size v n xs):Thaw w v:=by
 intro a n' c ev hn
 rcases h.2 with ⟨rfl,rfl⟩|⟨g,cap,cur,rfl,_,hg,_⟩
 ·cases ev
 ·cases ev
  exact⟨_,_,hg⟩
def kA (lo:Nat) (v:Value) (l:List UInt8) (W:World):Prop:=Bys W W.heap.size v l∧zm lo v∧Thaw W v
theorem kA.of_own {w:World} {base n:Nat} {e:TypeId} {v:Value} {l:List UInt8} (h:w.ownsRow base e 1 v n (l.map bv)):kA base v l w:=⟨Bys.of_own h,zm.of_own h,Thaw.of_own h⟩
theorem kA.mono {lo lo':Nat} {v:Value} {l:List UInt8} {W:World} (h:kA lo v l W) (hl:lo'≤lo):kA lo' v l W:=⟨h.1,h.2.1.mono hl,h.2.2⟩
theorem kA.grown {lo:Nat} {v:Value} {l:List UInt8} {W W':World} {row:Option Nat} (h:kA lo v l W) (hg:W.grownBy W' row) (ha:∀ a n c,v=.slice (some a) n c→0<n→row≠some a.block):kA lo v l W':=by
 refine⟨h.1.grown hg ha,h.2.1,fun a n c e hn=>?_⟩
 obtain⟨A',c',e',_,_,hr⟩:=h.1
 have e2:=e'
 rw[e] at e'
 simp only[Value.slice.injEq] at e'
 obtain⟨e1,e3,_⟩:=e'
 obtain⟨b,off,e4,hbb,_⟩:=hr.2 (by omega)
 rw[←e1] at e4
 simp only[Option.some.injEq] at e4
 have:=ha a n c e hn
 rw[hg.block a.block (by rw[e4];exact hbb) (fun x=>this x.symm)]
 exact h.2.2 a n c e hn
theorem kA.ext {lo:Nat} {v:Value} {l:List UInt8} {W W':World} (h:kA lo v l W) (hx:Ext W W'):kA lo v l W':=h.grown (QX hx none) fun _ _ _ _ _ x=>by cases x
theorem kA.thaw {lo:Nat} {v:Value} {l:List UInt8} {W:World} (h:kA lo v l W):Bys (thaw W) W.heap.size v l:=by
 obtain⟨⟨A,c,e,hc,hm,hr⟩,_,ht⟩:=h
 refine⟨A,c,e,hc,hm,hr.1,fun hn=>?_⟩
 obtain⟨b,off,e2,hb,hcs⟩:=hr.2 hn
 obtain⟨cs,t,hrow⟩:=ht ⟨b,off,none⟩ l.length c (by rw[e,e2]) hn
 exact⟨b,off,e2,hb,fun j u hu=>(Vg hrow _).trans (hcs j u hu)⟩
theorem kA.from {lo:Nat} {v:Value} {l:List UInt8} {W:World} (h:kA lo v l W):zm lo v:=h.2.1
def DoneX (base:Nat) (e:TypeId) (size lo:Nat) (v:Value) (n:Nat) (xs:List Value) (f:Value→List Value) (l:List UInt8) (v':Value) (W:World):Prop:=
 ∃ A c,Uw base e size lo v (n+1) (xs++f (.slice A l.length c)) v' W∧kA lo (.slice A l.length c) l W∧VG v' (.slice A l.length c)
theorem DoneX.ext {base:Nat} {e:TypeId} {size lo:Nat} {v:Value} {n:Nat} {xs:List Value} {f:Value→List Value} {l:List UInt8} {v':Value} {W W':World} (h:DoneX base e size lo v n xs f l v' W) (hx:Ext W W'):DoneX base e size lo v n xs f l v' W':=by
 obtain⟨A,c,h1,h2,h3⟩:=h
 exact⟨A,c,⟨QJ h1.1 hx,h1.2⟩,h2.ext hx,h3⟩
section
variable {base:Nat} {e:TypeId} {size lo:Nat} {v:Value} {n:Nat} {xs:List Value} {f:Value→List Value} {l:List UInt8}
end
def Kg {α:Type} (base lo:Nat) (e:TypeId) (size:Nat) (g:α→Value→List Value) (by_:α→List UInt8) (w:World) (v:Value) (ps:List (α×Value)):Prop:=
 w.ownsRow base e size v ps.length (ps.flatMap fun p=>g p.1 p.2)∧∀ p∈ps,((∃ A c,p.2=.slice A (by_ p.1).length c)∧zm lo p.2)∧Bys w w.heap.size p.2 (by_ p.1)∧VG v p.2
section
variable {α:Type} {base lo:Nat} {e:TypeId} {size:Nat} {g:α→Value→List Value} {by_:α→List UInt8}
theorem Kg.nil (w:World):Kg base lo e size g by_ w (.slice none 0 0) []:=⟨World.ownsRow_nil _ _ _ _,fun _ h=>by cases h⟩
theorem Kg.ext {w w':World} {v:Value} {ps:List (α×Value)} (h:Kg base lo e size g by_ w v ps) (hx:Ext w w'):Kg base lo e size g by_ w' v ps:=
 ⟨QJ h.1 hx,fun p hp=>⟨(h.2 p hp).1,((h.2 p hp).2.1.below hx).more hx.size,(h.2 p hp).2.2⟩⟩
theorem Kg.setCell {w:World} {v:Value} {ps:List (α×Value)} (h:Kg base lo e size g by_ w v ps) {p:Addr} (hp:p.block<base) (hl:p.block<lo) (u:Value):Kg base lo e size g by_ (w.setCell p u) v ps:=
 ⟨jS h.1 hp u,fun q hq=>⟨(h.2 q hq).1,by simpa using (h.2 q hq).2.1.setCell (h.2 q hq).1.2 hl u,(h.2 q hq).2.2⟩⟩
theorem Kg.push {lo2:Nat} {w W:World} {v v':Value} {ps:List (α×Value)} (h:Kg base lo e size g by_ w v ps) (x:α) (hll:lo≤lo2) (hl:lo2=w.heap.size)
  (hD:DoneX base e size lo2 v ps.length (ps.flatMap fun p=>g p.1 p.2) (g x) (by_ x) v' W) (hg:w.grownBy W v.ownBlock):∃ u,Kg base lo e size g by_ W v' (ps++[(x,u)]):=by
 subst hl
 obtain⟨A,c,hD,⟨hB,hF,-⟩,hA⟩:=hD
 refine⟨.slice A (by_ x).length c,by rw[List.length_append,List.flatMap_append];simpa using hD.1,?_⟩
 intro p hp
 rcases List.mem_append.1 hp with hp|hp
 ·obtain⟨h1,h2,h3⟩:=h.2 p hp
  refine⟨h1,h2.grown hg h3,fun a n c e hn=>?_⟩
  rcases hD.2 with h4|⟨k,h4,h5⟩
  ·rw[h4];exact h3 a n c e hn
  ·rw[h4]
   intro hx
   simp only[Option.some.injEq] at hx
   obtain⟨A',c',e',_,_,hr⟩:=h2
   rw[e] at e'
   simp only[Value.slice.injEq] at e'
   obtain⟨e1,e2,_⟩:=e'
   obtain⟨b,off,e3,hbb,_⟩:=hr.2 (by omega)
   rw[←e1] at e3
   simp only[Option.some.injEq] at e3
   rw[e3] at hx
   simp at hx
   omega
 ·obtain rfl:p=(x,.slice A (by_ x).length c):=by simpa using hp
  exact⟨⟨⟨_,_,rfl⟩,hF.mono hll⟩,hB,hA⟩
end
theorem Tryz.info_bytes:(Tryz.prog.info? 26).map (fun i=>(i.zero,i.size,i.bytes))=some (some (.slice none 0 0),1,24):=by kernel_rfl
theorem Tryz.info_write:(Tryz.prog.info? 130).map (fun i=>(i.zero,i.size,i.bytes))=some (some (.agg #[.int .i64 0,.slice none 0 0]),2,32):=by kernel_rfl
abbrev gB (_:List UInt8) (u:Value):List Value:=[u]
theorem Rd.keepN {w W:World} {B size lo n c:Nat} {A:Option Addr} {xs:List Value} (h:Rd w B size A n xs) (hf:zm lo (.slice A n c)) (hk:∀ q:Addr,lo≤q.block→q.block<B→W.cell? q=w.cell? q):Rd W B size A n xs:=
 ⟨h.1,fun hn=>by
  obtain⟨b,off,e,hb,hc⟩:=h.2 hn
  subst e
  exact⟨b,off,rfl,hb,fun j u hu=>(hk ⟨b,off+j,none⟩ (hf ⟨b,off,none⟩ n c rfl) hb).trans (hc j u hu)⟩⟩
theorem Bys.keepN {w W:World} {B lo:Nat} {v:Value} {l:List UInt8} (h:Bys w B v l) (hf:zm lo v) (hk:∀ q:Addr,lo≤q.block→q.block<B→W.cell? q=w.cell? q):Bys W B v l:=by
 obtain⟨A,c,e,hc,hm,hr⟩:=h
 subst e
 exact⟨A,c,rfl,hc,hm,hr.keepN hf hk⟩
theorem Kg.other {α:Type} {base lo:Nat} {e:TypeId} {size:Nat} {g:α→Value→List Value} {by_:α→List UInt8} {w W:World} {v:Value} {ps:List (α×Value)} {row:Option Nat} (h:Kg base lo e size g by_ w v ps) (hg:w.grownBy W row) (h1:∀ k,v.ownBlock=some k→row≠some k) (h2:∀ p∈ps,∀ a n c,p.2=.slice (some a) n c→0<n→row≠some a.block):Kg base lo e size g by_ W v ps:=by
 refine⟨⟨h.1.1,?_⟩,fun p hp=>⟨(h.2 p hp).1,(h.2 p hp).2.1.grown hg (h2 p hp),(h.2 p hp).2.2⟩⟩
 rcases h.1.2 with h0|⟨g',cap',cur',rfl,hbg',hg',hnc',hcm',hcs',htk'⟩
 ·exact .inl h0
 ·exact .inr ⟨g',cap',cur',rfl,hbg',(hg.block g' (zG.1 hg').1 (fun x=>h1 g' rfl x.symm)).trans hg',hnc',hcm',hcs',htk'⟩
theorem Kg.low {α:Type} {base lo:Nat} {e:TypeId} {size:Nat} {g:α→Value→List Value} {by_:α→List UInt8} {w:World} {v:Value} {ps:List (α×Value)} (h:Kg base lo e size g by_ w v ps):∀ p∈ps,∀ a n c,p.2=.slice (some a) n c→0<n→a.block<w.heap.size:=by
 intro p hp a n c e hn
 obtain⟨A',c',e',_,_,hr⟩:=(h.2 p hp).2.1
 rw[e] at e'
 simp only[Value.slice.injEq] at e'
 obtain⟨e1,e2,_⟩:=e'
 obtain⟨b,off,e3,hbb,_⟩:=hr.2 (by omega)
 rw[←e1] at e3
 simp only[Option.some.injEq] at e3
 rw[e3]
 exact hbb
def Qp (t:List UInt8):Bool:=decide (t.length=256) && Vd (t.take 8)
theorem Bys.take {w:World} {B:Nat} {A:Option Addr} {m c:Nat} {l:List UInt8} (h:Bys w B (.slice A m c) l) {k:Nat} (hk:k≤l.length):Bys w B (.slice A k c) (l.take k):=by
 obtain⟨A',c',e,hc,hm,hr⟩:=h
 cases e
 have hl:(l.take k).length=k:=by simp;omega
 refine⟨_,_,by rw[hl],by rw[hl];omega,hm,?_⟩
 rw[hl]
 have:=hr.take hk
 rwa [Nat.mul_one,←List.map_take] at this
set_option maxHeartbeats 1000000 in
theorem TA (v:Value) (t:List UInt8) (w:World) (h:Bys w w.heap.size v t) :
  Calls Tryz.prog 120 #[v] w (Ret (.int .i64 (jy (Qp t))) w):=by
 obtain⟨A,m,c,rfl⟩:∃ A m c,v=.slice A m c:=by obtain⟨A,c,e,_⟩:=h;exact⟨_,_,_,e⟩
 obtain⟨e1,hc,hm,hA⟩:=h.at_
 subst e1
 by_cases h256:t.length=256
 ·have hT:Qp t=Vd (t.take 8):=by unfold Qp;rw[decide_eq_true h256,Bool.true_and]
  rw[hT]
  have HM:=zH (fun W (hW:Ext w W)=>qby (.slice A 8 c) (t.take 8) (by simp;omega) (by simp;omega) W (((h.take (k:=8) (by omega)).below hW).more hW.size))
  have hz:=Tx (t.take 8)
  have hml:=GT (t.take 8)
  generalize kh (t.take 8)=mx at *
  generalize Vd (t.take 8)=z at *
  clear hT h
  have hc8:(8:Int)≤(c:Int):=by omega
  have hd1:((t.length:Int) != 256)=false:=by rw[bne_eq_false_iff_eq];omega
  clear h256
  go_enter Tryz.func120,Tryz.ntmps120
  go_wp2_with fail
  refine(HM.out _ (Ext.refl _)).mono ?_
  rintro e w2 ⟨rfl,hB⟩
  clear HM
  cases z
  ·have hm0:0<mx:=by simpa using hz
   go_wp2
   go_ret
   exact⟨rfl,hB⟩
  ·obtain rfl:mx=0:=by simpa using hz
   go_wp2
   go_ret
   exact⟨rfl,hB⟩
 ·have hT:Qp t=false:=by unfold Qp;rw[decide_eq_false h256];rfl
  rw[hT]
  have hn1:((t.length:Int) != 256)=true:=by rw[bne_iff_ne];omega
  go_enter Tryz.func120,Tryz.ntmps120
  go_wp2
  go_ret
  exact⟨rfl,Below.refl _ _⟩
structure Sto where
 bs:List (List UInt8)
 ws:List (Int×List UInt8)
 now:List UInt8
 last:List UInt8
def qo (S:Sto):Bool:=Zz S.bs S.ws && (Qp S.now && Qp S.last)
abbrev Qd (A1:Option Addr) (n1 c1:Nat) (A2:Option Addr) (n2 c2:Nat) (A3:Option Addr) (n3 c3:Nat) (A4:Option Addr) (n4 c4:Nat):Value:=.agg #[.slice A1 n1 c1,.slice A2 n2 c2,.slice A3 n3 c3,.slice A4 n4 c4]
structure Qc (w:World) (B:Nat) (v1 v2 v3 v4:Value) (S:Sto):Prop where
 bs:Bls w B v1 S.bs
 ws:Wrs w B v2 S.ws
 now:Bys w B v3 S.now
 last:Bys w B v4 S.last
theorem Qc.below {w w':World} {B:Nat} {v1 v2 v3 v4:Value} {S:Sto} (h:Qc w B v1 v2 v3 v4 S) (hb:Below B w w'):Qc w' B v1 v2 v3 v4 S:=⟨h.bs.below hb,h.ws.below hb,h.now.below hb,h.last.below hb⟩
theorem Qc.more {w:World} {B B':Nat} {v1 v2 v3 v4:Value} {S:Sto} (h:Qc w B v1 v2 v3 v4 S) (hb:B≤B'):Qc w B' v1 v2 v3 v4 S:=⟨h.bs.more hb,h.ws.more hb,h.now.more hb,h.last.more hb⟩
theorem Qc.ext {w w':World} {v1 v2 v3 v4:Value} {S:Sto} (h:Qc w w.heap.size v1 v2 v3 v4 S) (hx:Ext w w'):Qc w' w'.heap.size v1 v2 v3 v4 S:=(h.below hx).more hx.size
set_option maxHeartbeats 2000000 in
theorem vc (A1:Option Addr) (n1 c1:Nat) (A2:Option Addr) (n2 c2:Nat) (A3:Option Addr) (n3 c3:Nat) (A4:Option Addr) (n4 c4:Nat) (S:Sto) (w:World) (h:Qc w w.heap.size (.slice A1 n1 c1) (.slice A2 n2 c2) (.slice A3 n3 c3) (.slice A4 n4 c4) S) :
  Calls Tryz.prog 65 #[Qd A1 n1 c1 A2 n2 c2 A3 n3 c3 A4 n4 c4] w (Ret (.int .i64 (jy (qo S))) w):=by
 have HD:=zH (fun W (hW:Ext w W)=>qbR A1 n1 c1 A2 n2 c2 S.bs S.ws W (h.ext hW).bs (h.ext hW).ws)
 have HN:=zH (fun W (hW:Ext w W)=>TA (.slice A3 n3 c3) S.now W (h.ext hW).now)
 have HL:=zH (fun W (hW:Ext w W)=>TA (.slice A4 n4 c4) S.last W (h.ext hW).last)
 have hS:qo S=(Zz S.bs S.ws && (Qp S.now && Qp S.last)):=rfl
 rw[hS]
 clear hS h
 generalize Zz S.bs S.ws=d at *
 generalize Qp S.now=n at *
 generalize Qp S.last=l at *
 go_enter Tryz.func65,Tryz.ntmps65
 go_wp2_with fail
 generalize hw1:(World.alloc _ _)=w1
 have x1:Ext w w1:=by rw[←hw1];exact Ext.alloc _ _
 have r1:w1.heap[w.heap.size]?=some (.cells #[.slice A1 n1 c1,.slice A2 n2 c2,.slice A3 n3 c3,.slice A4 n4 c4] 28 (0,0)):=by rw[←hw1];exact World.alloc_heap_at _ _ _ rfl
 clear hw1
 refine(HD.out _ x1).mono ?_
 rintro e w2 ⟨rfl,hB⟩
 have x2:=x1.trans hB
 have r2:=qc r1 hB
 have k2:=qa r2
 clear hB r1 x1 HD
 cases d
 ·go_wp2
  go_ret
  exact⟨rfl,x2⟩
 ·go_wp2_with fail
  refine(HN.out _ x2).mono ?_
  rintro e w3 ⟨rfl,hB⟩
  have x3:=x2.trans hB
  have r3:=qc r2 hB
  have k3:=qa r3
  clear hB r2 x2 k2 HN
  cases n
  ·go_wp2
   go_ret
   exact⟨rfl,x3⟩
  ·go_wp2_with fail
   refine(HL.out _ x3).mono ?_
   rintro e w4 ⟨rfl,hB⟩
   have x4:=x3.trans hB
   clear hB r3 x3 k3 HL
   cases l
   all_goals
    go_wp2
    go_ret
    exact⟨rfl,x4⟩
def jk (ws:List (Int×List UInt8)) (a:Int):Option (List UInt8):=(ws.reverse.find? fun p=>p.1 == a).map (·.2)
def JK (S:Sto) (a:Nat):List UInt8:=match jk S.ws a with|some l=>l|none=>S.bs[a]?.getD []
theorem vC {ws:List (Int×List UInt8)} {a:Int} {k:Nat} (h:k<ws.length):jk (ws.take (k+1)) a=if ws[k].1=a then some ws[k].2 else jk (ws.take k) a:=by
 unfold jk
 rw[List.take_succ_eq_append_getElem h,List.reverse_append,List.reverse_singleton,List.singleton_append,List.find?_cons]
 by_cases h1:ws[k].1=a
 ·rw[if_pos h1];simp[h1]
 ·rw[if_neg h1]
  have:(ws[k].1 == a)=false:=by simpa using h1
  rw[this]
structure Xz (S:Sto):Prop where
 bs:S.bs.length<1000000
 ws:S.ws.length<1000000
 be:∀ l∈S.bs,l.length<1000000
 we:∀ p∈S.ws,p.2.length<1000000
 now:S.now.length<1000000
 last:S.last.length<1000000
def TwinS (lo:Nat) (S:Sto) (u:Value) (W:World):Prop:=∃ A1 c1 A2 c2 A3 c3 A4 c4,u=Qd A1 S.bs.length c1 A2 S.ws.length c2 A3 S.now.length c3 A4 S.last.length c4∧∀ W2:World,(∀ q:Addr,lo≤q.block→q.block<W.heap.size→W2.cell? q=W.cell? q)→Qc W2 W.heap.size (.slice A1 S.bs.length c1) (.slice A2 S.ws.length c2) (.slice A3 S.now.length c3) (.slice A4 S.last.length c4) S
end Go.Proofs.YtpbniokljofedaaGreat
namespace Go.Proofs.YtpbniokljofedaaGreat
open Go.RowKit Go.Deep
def InG (w:World) (g F:Nat) (v:Value) (l:List UInt8):Prop:=∃ o,v=.slice (some ⟨g,o,none⟩) l.length l.length∧o+l.length≤F∧∀ j u,(l.map bv)[j]?=some u→w.cell? ⟨g,o+j,none⟩=some u
section
variable {w w':World} {g F:Nat} {v:Value} {l:List UInt8}
theorem InG.keep (h:InG w g F v l) (hk:w'.heap[g]?=w.heap[g]?):InG w' g F v l:=by
 obtain⟨o,e,h1,h2⟩:=h
 exact⟨o,e,h1,fun j u hu=>(World.cell?_of_block hk).trans (h2 j u hu)⟩
theorem InG.step {cur:Array Value} {t:TypeId} {l':List UInt8} {o:Nat} (h:InG w g F v l) (hr:w.heap[g]?=some (.cells cur t (0,0))) (hr':w'.heap[g]?=some (.cells (Zb cur o l') t (0,0))) (hfit:o+l'.length≤cur.size) (ho:o=F∨l'.length=0):InG w' g (F+l'.length) v l:=by
 obtain⟨o1,e,h1,h2⟩:=h
 refine⟨o1,e,by omega,fun j u hu=>?_⟩
 have hj:j<l.length:=by
  have:=(List.getElem?_eq_some_iff.1 hu).1
  simpa using this
 have:=h2 j u hu
 rw[qa hr] at this
 rw[qa hr',qbU hfit (by rcases ho with ho|ho <;> omega)]
 exact this
theorem InG.new {cur:Array Value} {t:TypeId} {o:Nat} (hr:w'.heap[g]?=some (.cells (Zb cur o l) t (0,0))) (hfit:o+l.length≤cur.size) (ho:o≤F):InG w' g (F+l.length) (.slice (some ⟨g,o,none⟩) l.length l.length) l:=
 ⟨o,rfl,by omega,fun j u hu=>by rw[qa hr];exact qcS hfit hu⟩
theorem InG.bys {B:Nat} (h:InG w g F v l) (hg:g<B) (hl:l.length≤maxLen):Bys w B v l:=by
 obtain⟨o,e,h1,h2⟩:=h
 exact⟨_,_,e,Nat.le_refl _,hl,by simp,fun _=>⟨g,o,rfl,hg,h2⟩⟩
theorem InG.cells {W2:World} (h:InG w g F v l) (hk:∀ j,W2.cell? ⟨g,j,none⟩=w.cell? ⟨g,j,none⟩):InG W2 g F v l:=by
 obtain⟨o,e,h1,h2⟩:=h
 exact⟨o,e,h1,fun j u hu=>(hk _).trans (h2 j u hu)⟩
end
def jm (ls:List (List UInt8)):Nat:=(ls.map List.length).sum
theorem kS {ls:List (List UInt8)} {k:Nat} (h:k<ls.length):jm (ls.take (k+1))=jm (ls.take k)+ls[k].length:=by
 unfold jm
 rw[List.take_succ_eq_append_getElem h,List.map_append,List.sum_append]
 simp
theorem qcn (ls:List (List UInt8)) (k:Nat):jm (ls.take k)+jm (ls.drop k)=jm ls:=by
 unfold jm
 rw[←List.sum_append,←List.map_append,List.take_append_drop]
theorem qdo {ls:List (List UInt8)} (h:∀ l∈ls,l.length<1000000):jm ls≤ls.length*1000000:=by
 induction ls with
 |nil=>simp[jm]
 |cons l r ih =>
  have h1:=ih fun x hx=>h x (List.mem_cons_of_mem _ hx)
  have h2:=h l List.mem_cons_self
  simp only[jm,List.map_cons,List.sum_cons,List.length_cons] at h1 ⊢
  omega
theorem Js (ls:List (List UInt8)) (k:Nat):jm (ls.take k)≤jm ls:=by have:=qcn ls k;omega
def KG (hb g:Nat):Rel where
 rel W W':=W'.os=W.os∧W'.tape=W.tape∧W'.output=W.output∧W.heap.size≤W'.heap.size∧∀ b,b<W.heap.size→b≠hb→b≠g→W'.heap[b]?=W.heap[b]?
 refl' w:=⟨rfl,rfl,rfl,Nat.le_refl _,fun _ _ _ _=>rfl⟩
 trans' h k:=⟨k.1.trans h.1,k.2.1.trans h.2.1,k.2.2.1.trans h.2.2.1,Nat.le_trans h.2.2.2.1 k.2.2.2.1,fun b hb h1 h2=>(k.2.2.2.2 b (Nat.lt_of_lt_of_le hb h.2.2.2.1) h1 h2).trans (h.2.2.2.2 b hb h1 h2)⟩
 drew' w:=⟨rfl,rfl,rfl,Nat.le_refl _,fun _ _ _ _=>rfl⟩
theorem qdA {hb g:Nat}:∀ a b,ql.r a b→(KG hb g).r a b:=fun a b h=>by
 have h:Ext a b:=h
 exact⟨h.os,h.tape,h.output,h.size,fun k hk _ _=>h.block k hk⟩
theorem vx {hb g b:Nat} {a W:World} {o:Obj} (h:(KG hb g).r a W) (h1:b≠hb) (h2:b≠g) (hc:a.heap[b]?=some o):W.heap[b]?=some o:=
 (h.2.2.2.2 b (zG.1 hc).1 h1 h2).trans hc
theorem qH {w:World} {a b:Nat} {c d:Array Value} {t u:TypeId} (h:w.heap[a]?=some (.cells c t (0,0))) (k:w.heap[b]?=some (.cells d u (0,0))) (hn:t≠u):a≠b:=fun e=>by
 subst e
 rw[h] at k
 cases k
 exact hn rfl
structure TwS (bs:List (List UInt8)) (ws:List (Int×List UInt8)) (T lo:Nat) (w5:World) (hb g BB WW ob kb kw F:Nat) (wr:World):Prop where
 below:Below lo w5 wr
 los:lo≤hb∧lo≤g∧lo≤BB∧lo≤WW∧lo≤ob
 out:wr.heap[ob]?=some (.cells #[.slice (some ⟨BB,0,none⟩) bs.length bs.length,.slice (some ⟨WW,0,none⟩) ws.length (ws.length+1)] 25 (0,0))
 heap:∃ o n cur,UW hb g o n cur wr∧o≤F∧(0<n→o=F)∧F+n=T∧cur.size=T
 bb:∃ cs,wr.heap[BB]?=some (.cells cs 26 (0,0))∧cs.size=bs.length∧∀ i l,bs[i]?=some l→i<kb→∃ v,cs[i]?=some v∧InG wr g F v l
 ww:∃ cs,wr.heap[WW]?=some (.cells cs 130 (0,0))∧cs.size=(ws.length+1)*2∧∀ i p,ws[i]?=some p→i<kw→∃ v,cs[i*2]?=some (.int .i64 p.1)∧cs[i*2+1]?=some v∧InG wr g F v p.2
section
variable {bs:List (List UInt8)} {ws:List (Int×List UInt8)} {T lo:Nat} {w5:World} {hb g BB WW ob kb kw F:Nat} {wr W:World}
theorem TwS.ext (h:TwS bs ws T lo w5 hb g BB WW ob kb kw F wr) (hx:Ext wr W) (hl:lo≤wr.heap.size):TwS bs ws T lo w5 hb g BB WW ob kb kw F W:=by
 obtain⟨o,n,cur,⟨H1,H2,H3,H4,H5⟩,h2⟩:=h.heap
 obtain⟨cb,hb1,hb2,hb3⟩:=h.bb
 obtain⟨cw,hw1,hw2,hw3⟩:=h.ww
 have hg:W.heap[g]?=wr.heap[g]?:=hx.block g (zG.1 H2).1
 exact⟨h.below.trans (Below.mono hx hl),h.los,qc h.out hx,⟨o,n,cur,⟨qc H1 hx,qc H2 hx,H3,H4,H5⟩,h2⟩,
  ⟨cb,qc hb1 hx,hb2,fun i l hi hk=>(hb3 i l hi hk).imp fun v hv=>⟨hv.1,hv.2.keep hg⟩⟩,⟨cw,qc hw1 hx,hw2,fun i p hi hk=>(hw3 i p hi hk).imp fun v hv=>⟨hv.1,hv.2.1,hv.2.2.keep hg⟩⟩⟩
theorem TwS.clone (h:TwS bs ws T lo w5 hb g BB WW ob kb kw F wr) {o n o':Nat} {cur:Array Value} {l:List UInt8} (hH:UW hb g o n cur wr) (hl:l.length≤n) (hr:(KG hb g).r wr W)
  (h1:0<n-l.length→o'=o+l.length) (h2:n-l.length=0→o'=o) (hH':UW hb g o' (n-l.length) (Zb cur o l) W) :
  TwS bs ws T lo w5 hb g BB WW ob kb kw (F+l.length) W∧InG W g (F+l.length) (.slice (some ⟨g,o,none⟩) l.length l.length) l:=by
 obtain⟨o2,n2,cur2,H2,k1,k2,k3,k4⟩:=h.heap
 have e1:=H2.box
 rw[hH.box] at e1
 simp only[Option.some.injEq,Obj.cells.injEq,Array.mk.injEq,List.cons.injEq,Value.slice.injEq,Addr.mk.injEq,and_true,true_and] at e1
 obtain⟨rfl,rfl,_⟩:=e1
 have e2:=H2.row
 rw[hH.row] at e2
 simp only[Option.some.injEq,Obj.cells.injEq,and_true] at e2
 subst e2
 have hfit:o+l.length≤cur.size:=by have:=hH.fit;omega
 have ho:o=F∨l.length=0:=by
  rcases Nat.eq_zero_or_pos n with h0|h0
  ·exact .inr (by omega)
  ·exact .inl (k2 h0)
 have hr0:=hH.row
 have hr1:=hH'.row
 obtain⟨cb,hb1,hb2,hb3⟩:=h.bb
 obtain⟨cw,hw1,hw2,hw3⟩:=h.ww
 have n1:BB≠hb:=qH hb1 hH.box (by decide)
 have n2:BB≠g:=qH hb1 hr0 (by decide)
 have n3:WW≠hb:=qH hw1 hH.box (by decide)
 have n4:WW≠g:=qH hw1 hr0 (by decide)
 have n5:ob≠hb:=qH h.out hH.box (by decide)
 have n6:ob≠g:=qH h.out hr0 (by decide)
 obtain⟨l1,l2,l3,l4,l5⟩:=h.los
 have hlt:=(zG.1 hr0).1
 refine⟨⟨⟨hr.1.trans h.below.os,hr.2.1.trans h.below.tape,hr.2.2.1.trans h.below.output,Nat.le_trans h.below.size hr.2.2.2.1,fun b hb=>(hr.2.2.2.2 b (by omega) (by omega) (by omega)).trans (h.below.block b hb)⟩,h.los,vx hr n5 n6 h.out,⟨o',n-l.length,_,hH',?_,?_,by omega,?_⟩,
  ⟨cb,vx hr n1 n2 hb1,hb2,fun i l' hi hk=>(hb3 i l' hi hk).imp fun v hv=>⟨hv.1,hv.2.step hr0 hr1 hfit ho⟩⟩,⟨cw,vx hr n3 n4 hw1,hw2,fun i p hi hk=>(hw3 i p hi hk).imp fun v hv=>⟨hv.1,hv.2.1,hv.2.2.step hr0 hr1 hfit ho⟩⟩⟩,InG.new hr1 hfit k1⟩
 ·rcases Nat.eq_zero_or_pos (n-l.length) with h0|h0
  ·rw[h2 h0];omega
  ·rw[h1 h0];omega
 ·intro h0
  rw[h1 h0,k2 (by omega)]
 ·rw[Xx hfit];exact k4
theorem TwS.setB (h:TwS bs ws T lo w5 hb g BB WW ob kb kw F wr) {v:Value} {l:List UInt8} (hk:bs[kb]?=some l) (hv:InG wr g F v l):TwS bs ws T lo w5 hb g BB WW ob (kb+1) kw F (wr.setCell ⟨BB,kb,none⟩ v):=by
 obtain⟨o,n,cur,⟨H1,H2,H3,H4,H5⟩,h2⟩:=h.heap
 obtain⟨cb,hb1,hb2,hb3⟩:=h.bb
 obtain⟨cw,hw1,hw2,hw3⟩:=h.ww
 have n1:hb≠BB:=qH H1 hb1 (by decide)
 have n2:g≠BB:=qH H2 hb1 (by decide)
 have n3:WW≠BB:=qH hw1 hb1 (by decide)
 have n5:ob≠BB:=qH h.out hb1 (by decide)
 have hg:=Below.heap_setCell wr ⟨BB,kb,none⟩ v g n2
 have hlt:=(List.getElem?_eq_some_iff.1 hk).1
 refine⟨Below.setCell h.below (p:=⟨BB,kb,none⟩) h.los.2.2.1 _,h.los,(Below.heap_setCell _ _ _ _ n5).trans h.out,⟨o,n,cur,⟨(Below.heap_setCell _ _ _ _ n1).trans H1,(Below.heap_setCell _ _ _ _ n2).trans H2,H3,H4,H5⟩,h2⟩,
  ⟨_,qj hb1 kb v,by simpa using hb2,fun i l' hi hki=>?_⟩,⟨cw,(Below.heap_setCell _ _ _ _ n3).trans hw1,hw2,fun i p hi hk=>(hw3 i p hi hk).imp fun v hv=>⟨hv.1,hv.2.1,hv.2.2.keep hg⟩⟩⟩
 rw[Array.getElem?_setIfInBounds]
 by_cases e:kb=i
 ·subst e
  rw[hk] at hi
  cases hi
  rw[if_pos rfl,if_pos (by omega)]
  exact⟨v,rfl,hv.keep hg⟩
 ·rw[if_neg e]
  exact(hb3 i l' hi (by omega)).imp fun u hu=>⟨hu.1,hu.2.keep hg⟩
theorem TwS.setW (h:TwS bs ws T lo w5 hb g BB WW ob kb kw F wr) {v:Value} {p:Int×List UInt8} (hk:ws[kw]?=some p) (hv:InG wr g F v p.2):TwS bs ws T lo w5 hb g BB WW ob kb (kw+1) F ((wr.setCell ⟨WW,kw*2,none⟩ (.int .i64 p.1)).setCell ⟨WW,kw*2+1,none⟩ v):=by
 obtain⟨o,n,cur,⟨H1,H2,H3,H4,H5⟩,h2⟩:=h.heap
 obtain⟨cb,hb1,hb2,hb3⟩:=h.bb
 obtain⟨cw,hw1,hw2,hw3⟩:=h.ww
 have n1:hb≠WW:=qH H1 hw1 (by decide)
 have n2:g≠WW:=qH H2 hw1 (by decide)
 have n3:BB≠WW:=qH hb1 hw1 (by decide)
 have n5:ob≠WW:=qH h.out hw1 (by decide)
 have st:∀ b,b≠WW→((wr.setCell ⟨WW,kw*2,none⟩ (.int .i64 p.1)).setCell ⟨WW,kw*2+1,none⟩ v).heap[b]?=wr.heap[b]?:=fun b hb=>(Below.heap_setCell _ _ _ _ hb).trans (Below.heap_setCell _ _ _ _ hb)
 have hlt:=(List.getElem?_eq_some_iff.1 hk).1
 refine⟨Below.setCell (Below.setCell h.below (p:=⟨WW,kw*2,none⟩) h.los.2.2.2.1 _) (p:=⟨WW,kw*2+1,none⟩) h.los.2.2.2.1 _,h.los,(st _ n5).trans h.out,⟨o,n,cur,⟨(st _ n1).trans H1,(st _ n2).trans H2,H3,H4,H5⟩,h2⟩,
  ⟨cb,(st _ n3).trans hb1,hb2,fun i l' hi hki=>(hb3 i l' hi hki).imp fun u hu=>⟨hu.1,hu.2.keep (st _ n2)⟩⟩,⟨_,qj (qj hw1 (kw*2) _) (kw*2+1) _,by simpa using hw2,fun i q hi hki=>?_⟩⟩
 by_cases e:kw=i
 ·subst e
  rw[hk] at hi
  cases hi
  refine⟨v,?_,?_,hv.keep (st _ n2)⟩
  ·rw[Array.getElem?_setIfInBounds,if_neg (by omega),Array.getElem?_setIfInBounds,if_pos rfl,if_pos (by omega)]
  ·rw[Array.getElem?_setIfInBounds,if_pos rfl,if_pos (by simp;omega)]
 ·refine(hw3 i q hi (by omega)).imp fun u hu=>⟨?_,?_,hu.2.2.keep (st _ n2)⟩
  ·rw[Array.getElem?_setIfInBounds,if_neg (by omega),Array.getElem?_setIfInBounds,if_neg (by omega)]
   exact hu.1
  ·rw[Array.getElem?_setIfInBounds,if_neg (by omega),Array.getElem?_setIfInBounds,if_neg (by omega)]
   exact hu.2.1
end
structure ZB (lo:Nat) (bs:List (List UInt8)) (ws:List (Int×List UInt8)) (BB WW g:Nat) (W:World):Prop where
 los:lo≤BB∧lo≤WW∧lo≤g∧g<W.heap.size∧BB≠WW∧BB≠g∧WW≠g
 bb:∃ cs,W.heap[BB]?=some (.cells cs 26 (0,0))∧cs.size=bs.length∧∀ (i:Nat) (l:List UInt8),bs[i]?=some l→∃ v F,cs[i]?=some v∧InG W g F v l
 ww:∃ cs,W.heap[WW]?=some (.cells cs 130 (0,0))∧cs.size=(ws.length+1)*2∧∀ (i:Nat) (p:Int×List UInt8),ws[i]?=some p→∃ v F,cs[i*2]?=some (.int .i64 p.1)∧cs[i*2+1]?=some v∧InG W g F v p.2
 gg:∃ cs,W.heap[g]?=some (.cells cs 5 (0,0))
theorem TwS.done {bs:List (List UInt8)} {ws:List (Int×List UInt8)} {T lo:Nat} {w5:World} {hb g BB WW ob F:Nat} {wr:World} (h:TwS bs ws T lo w5 hb g BB WW ob bs.length ws.length F wr):ZB lo bs ws BB WW g wr:=by
 obtain⟨o,n,cur,⟨H1,H2,H3,H4,H5⟩,h2⟩:=h.heap
 obtain⟨cb,hb1,hb2,hb3⟩:=h.bb
 obtain⟨cw,hw1,hw2,hw3⟩:=h.ww
 refine⟨⟨h.los.2.2.1,h.los.2.2.2.1,h.los.2.1,(zG.1 H2).1,qH hb1 hw1 (by decide),qH hb1 H2 (by decide),qH hw1 H2 (by decide)⟩,⟨cb,hb1,hb2,fun i l hi=>?_⟩,⟨cw,hw1,hw2,fun i p hi=>?_⟩,⟨_,H2⟩⟩
 ·obtain⟨v,h1,h2⟩:=hb3 i l hi (List.getElem?_eq_some_iff.1 hi).1
  exact⟨v,F,h1,h2⟩
 ·obtain⟨v,h1,h2⟩:=hw3 i p hi (List.getElem?_eq_some_iff.1 hi).1
  exact⟨v,F,h1,h2⟩
theorem ZB.keep {lo lo':Nat} {bs:List (List UInt8)} {ws:List (Int×List UInt8)} {BB WW g:Nat} {W W2:World} (h:ZB lo bs ws BB WW g W) (hl:lo'≤lo) (hs:W.heap.size≤W2.heap.size) (hk:∀ b,lo≤b→b<W.heap.size→W2.heap[b]?=W.heap[b]?):ZB lo' bs ws BB WW g W2:=by
 obtain⟨cb,hb1,hb2,hb3⟩:=h.bb
 obtain⟨cw,hw1,hw2,hw3⟩:=h.ww
 obtain⟨l1,l2,l3,l4,l5⟩:=h.los
 have hg:=hk g l3 l4
 exact⟨⟨by omega,by omega,by omega,by omega,l5⟩,⟨cb,(hk BB l1 (zG.1 hb1).1).trans hb1,hb2,fun i l hi=>by
  obtain⟨v,F,h1,h2⟩:=hb3 i l hi
  exact⟨v,F,h1,h2.keep hg⟩⟩,⟨cw,(hk WW l2 (zG.1 hw1).1).trans hw1,hw2,fun i p hi=>by
  obtain⟨v,F,h1,h2,h3⟩:=hw3 i p hi
  exact⟨v,F,h1,h2,h3.keep hg⟩⟩,h.gg.imp fun cs h=>hg.trans h⟩
theorem ZB.keepT {lo lo':Nat} {bs:List (List UInt8)} {ws:List (Int×List UInt8)} {BB WW g:Nat} {W W2:World} (h:ZB lo bs ws BB WW g W) (hl:lo'≤lo) (hs:W.heap.size≤W2.heap.size) {b1:Nat} {c1:Array Value} {t1:TypeId} (h1:W.heap[b1]?=some (.cells c1 t1 (0,0))) (ht:t1≠26∧t1≠130∧t1≠5) (hk:∀ b,lo≤b→b<W.heap.size→b≠b1→W2.heap[b]?=W.heap[b]?):ZB lo' bs ws BB WW g W2:=by
 obtain⟨cb,hb1,hb2,hb3⟩:=h.bb
 obtain⟨cw,hw1,hw2,hw3⟩:=h.ww
 obtain⟨cg,hg1⟩:=h.gg
 obtain⟨l1,l2,l3,l4,l5⟩:=h.los
 have hg:=hk g l3 l4 (qH hg1 h1 fun e=>ht.2.2 e.symm)
 exact⟨⟨by omega,by omega,by omega,by omega,l5⟩,⟨cb,(hk BB l1 (zG.1 hb1).1 (qH hb1 h1 fun e=>ht.1 e.symm)).trans hb1,hb2,fun i l hi=>by
  obtain⟨v,F,h1,h2⟩:=hb3 i l hi
  exact⟨v,F,h1,h2.keep hg⟩⟩,⟨cw,(hk WW l2 (zG.1 hw1).1 (qH hw1 h1 fun e=>ht.2.1 e.symm)).trans hw1,hw2,fun i p hi=>by
  obtain⟨v,F,h1,h2,h3⟩:=hw3 i p hi
  exact⟨v,F,h1,h2,h3.keep hg⟩⟩,cg,hg.trans hg1⟩
theorem ZB.readsB {lo:Nat} {bs:List (List UInt8)} {ws:List (Int×List UInt8)} {BB WW g:Nat} {W:World} (h:ZB lo bs ws BB WW g W) (h1:bs.length<1000000) (h2:ws.length<1000000) (h3:∀ l∈bs,l.length<1000000) (h4:∀ p∈ws,p.2.length<1000000)
  (W2:World) (hB:∀ j,W2.cell? ⟨BB,j,none⟩=W.cell? ⟨BB,j,none⟩) (hWW:∀ j,W2.cell? ⟨WW,j,none⟩=W.cell? ⟨WW,j,none⟩) (hg:∀ j,W2.cell? ⟨g,j,none⟩=W.cell? ⟨g,j,none⟩):Bls W2 W.heap.size (.slice (some ⟨BB,0,none⟩) bs.length bs.length) bs∧Wrs W2 W.heap.size (.slice (some ⟨WW,0,none⟩) ws.length (ws.length+1)) ws:=by
 obtain⟨cb,hb1,hb2,hb3⟩:=h.bb
 obtain⟨cw,hw1,hw2,hw3⟩:=h.ww
 obtain⟨l1,l2,l3,l4,l5⟩:=h.los
 have z1:=(zG.1 hb1).1
 have z2:=(zG.1 hw1).1
 have hm:∀ n,n<1000001→n≤maxLen:=fun n hn=>by unfold maxLen;omega
 refine⟨⟨cb.toList,_,_,rfl,Nat.le_refl _,hm _ (by omega),⟨by simp[hb2],fun _=>⟨BB,0,rfl,z1,fun j u hu=>?_⟩⟩,fun i u l hu hl=>?_⟩,?_⟩
 ·rw[Nat.zero_add,hB j,qa hb1]
  simpa using hu
 ·obtain⟨v,F,e1,e2⟩:=hb3 i l hl
  have:cb.toList[i]?=cb[i]?:=by simp
  rw[this,e1] at hu
  cases hu
  exact(e2.cells hg).bys l4 (hm _ (by have:=h3 l (List.mem_of_getElem? hl);omega))
 ·have hq:∀ i,i<ws.length→∃ q:(Int×List UInt8)×Value,ws[i]?=some q.1∧(∃ A c,q.2=.slice A q.1.2.length c)∧Bys W2 W.heap.size q.2 q.1.2∧cw[i*2]?=some (.int .i64 q.1.1)∧cw[i*2+1]?=some q.2:=fun i hi=>by
   obtain⟨v,F,e1,e2,e3⟩:=hw3 i ws[i] (List.getElem?_eq_getElem hi)
   have hb:=(e3.cells hg).bys l4 (hm _ (by have:=h4 ws[i] (List.getElem_mem hi);omega))
   obtain⟨o,ev,_⟩:=e3
   exact⟨(ws[i],v),List.getElem?_eq_getElem hi,⟨_,_,ev⟩,hb,e1,e2⟩
  obtain⟨Q,hQ⟩:=choose_lt (α:=(Int×List UInt8)×Value) (p:=fun i q=>ws[i]?=some q.1∧(∃ A c,q.2=.slice A q.1.2.length c)∧Bys W2 W.heap.size q.2 q.1.2∧cw[i*2]?=some (.int .i64 q.1.1)∧cw[i*2+1]?=some q.2) hq
  refine⟨(List.range ws.length).map Q,?_,⟨some ⟨WW,0,none⟩,ws.length+1,rfl,by omega,hm _ (by omega),⟨by rw[jE];simp,fun _=>⟨WW,0,rfl,z2,fun j u hu=>?_⟩⟩⟩,fun q hq'=>?_⟩
  ·apply List.ext_getElem?
   intro i
   rw[List.map_map,List.getElem?_map]
   rcases Nat.lt_or_ge i ws.length with hi|hi
   ·rw[List.getElem?_range hi,(hQ i hi).1];rfl
   ·rw[List.getElem?_eq_none (by simpa using hi),List.getElem?_eq_none hi];rfl
  ·rw[Nat.zero_add,hWW j,qa hw1]
   have hj:j<ws.length*2:=by
    have:=(List.getElem?_eq_some_iff.1 hu).1
    rw[jE] at this
    simpa using this
   obtain⟨c0,c1⟩:=JE ((List.range ws.length).map Q) (j / 2) (by simp;omega)
   obtain⟨_,_,_,q0,q1⟩:=hQ (j / 2) (by omega)
   rcases(show j=j / 2*2∨j=j / 2*2+1 by omega) with e|e
   ·have hu':some u=some _:=(hu.symm.trans (congrArg (fun t=>(QO ((List.range ws.length).map Q))[t]?) e)).trans c0
    cases hu'
    rw[show cw[j]?=cw[j / 2*2]? from congrArg (fun t=>cw[t]?) e,q0]
    simp
   ·have hu':some u=some _:=(hu.symm.trans (congrArg (fun t=>(QO ((List.range ws.length).map Q))[t]?) e)).trans c1
    cases hu'
    rw[show cw[j]?=cw[j / 2*2+1]? from congrArg (fun t=>cw[t]?) e,q1]
    simp
  ·obtain⟨i,hi,rfl⟩:=List.mem_map.1 hq'
   obtain⟨_,q1,q2,_⟩:=hQ i (List.mem_range.1 hi)
   exact⟨q1,q2⟩
theorem ZB.reads {lo:Nat} {bs:List (List UInt8)} {ws:List (Int×List UInt8)} {BB WW g:Nat} {W:World} (h:ZB lo bs ws BB WW g W) (h1:bs.length<1000000) (h2:ws.length<1000000) (h3:∀ l∈bs,l.length<1000000) (h4:∀ p∈ws,p.2.length<1000000)
  (W2:World) (hk:∀ q:Addr,lo≤q.block→q.block<W.heap.size→W2.cell? q=W.cell? q):Bls W2 W.heap.size (.slice (some ⟨BB,0,none⟩) bs.length bs.length) bs∧Wrs W2 W.heap.size (.slice (some ⟨WW,0,none⟩) ws.length (ws.length+1)) ws:=by
 obtain⟨cb,hb1,-⟩:=h.bb
 obtain⟨cw,hw1,-⟩:=h.ww
 obtain⟨l1,l2,l3,l4,-⟩:=h.los
 exact h.readsB h1 h2 h3 h4 W2 (fun j=>hk ⟨BB,j,none⟩ l1 (zG.1 hb1).1) (fun j=>hk ⟨WW,j,none⟩ l2 (zG.1 hw1).1) fun j=>hk ⟨g,j,none⟩ l3 l4
theorem ZB.readsT {lo:Nat} {bs:List (List UInt8)} {ws:List (Int×List UInt8)} {BB WW g:Nat} {W:World} (h:ZB lo bs ws BB WW g W) (h1:bs.length<1000000) (h2:ws.length<1000000) (h3:∀ l∈bs,l.length<1000000) (h4:∀ p∈ws,p.2.length<1000000)
  (W2:World) (hk:∀ q:Addr,lo≤q.block→q.block<W.heap.size→W2.cell? q=(thaw W).cell? q):Bls W2 W.heap.size (.slice (some ⟨BB,0,none⟩) bs.length bs.length) bs∧Wrs W2 W.heap.size (.slice (some ⟨WW,0,none⟩) ws.length (ws.length+1)) ws:=by
 obtain⟨cb,hb1,-⟩:=h.bb
 obtain⟨cw,hw1,-⟩:=h.ww
 obtain⟨cg,hg1⟩:=h.gg
 obtain⟨l1,l2,l3,l4,-⟩:=h.los
 exact h.readsB h1 h2 h3 h4 W2 (fun j=>(hk ⟨BB,j,none⟩ l1 (zG.1 hb1).1).trans (Vg hb1 j)) (fun j=>(hk ⟨WW,j,none⟩ l2 (zG.1 hw1).1).trans (Vg hw1 j)) fun j=>(hk ⟨g,j,none⟩ l3 l4).trans (Vg hg1 j)
end Go.Proofs.YtpbniokljofedaaGreat
