/- Texts PutM, Late, FSet, Make0, joined. -/
import Derived.Test.YtpbniokljofedaaGreatZF10
import Derived.Test.YtpbniokljofedaaGreatZF15
import Derived.Test.YtpbniokljofedaaGreatZF17
import Derived.Test.YtpbniokljofedaaGreatZF18
import Derived.Test.YtpbniokljofedaaGreatZF21
import Derived.Test.YtpbniokljofedaaGreatZF23
import Derived.Test.YtpbniokljofedaaGreatZF27
set_option linter.unusedSimpArgs false
set_option linter.unusedVariables false
set_option maxHeartbeats 8000000
namespace Go.Proofs.YtpbniokljofedaaGreat
open Go.RowKit
def UpOk (y:It):Prop:=ZY y∧(y.r=0∨8≤y.r)∧y.r<256
theorem replL_ok {ys up:List It} {p m:Nat} (h1:∀ y∈ys,ZY y) (h2:∀ y∈up,ZY y):∀ y∈Kq ys p m up,ZY y:=fun y hy=>by
 unfold Kq at hy
 rcases List.mem_append.1 hy with hy|hy
 ·rcases List.mem_append.1 hy with hy|hy
  ·exact h1 y (List.mem_of_mem_take hy)
  ·exact h2 y hy
 ·exact h1 y (List.mem_of_mem_drop hy)
theorem qbn {k:K3}:∀ {ps:List Stp} {up up':List It} {S S':Sto},(∀ s∈ps,qdb k s)→(∀ y∈up,UpOk y)→qm S=true→ZR k ps up S=.ok (up',S')→qm S'=true∧(∀ y∈up',UpOk y)∧(ps≠[]→0<up'.length∧up'.length≤2∧∀ y∈up',8≤y.r∧y.val=[])
 | [],up,up',S,S',_,hu,hS,e=>by
  cases e
  exact⟨hS,hu,fun h=>absurd rfl h⟩
 |(lvl,xs,p) :: ps,up,up',S,S',hw,hu,hS,e=>by
  have hw0:=hw _ List.mem_cons_self
  simp only[ZR] at e
  split at e
  ·cases e
  ·rename_i up1 S1 e1
   obtain⟨h1,h2,h3⟩:=kI (replL_ok (fun y hy=>(hw0.its y hy).1) fun y hy=>(hu y hy).1) (fun y hy=>(hu y hy).2) hS e1
   have hu1:∀ y∈up1,UpOk y:=fun y hy=>⟨(h3 y hy).1,.inr (h3 y hy).2.1.1,(h3 y hy).2.1.2⟩
   obtain⟨g1,g2,g3⟩:=qbn (fun s hs=>hw s (List.mem_cons_of_mem _ hs)) hu1 h1 e
   refine⟨g1,g2,fun _=>?_⟩
   by_cases hp:ps=[]
   ·subst hp
    cases e
    exact⟨h2.1,h2.2,fun y hy=>⟨(h3 y hy).2.1.1,(h3 y hy).2.2⟩⟩
   ·exact g3 hp
theorem askP_up {S:Sto} {x:It} (hx:ZY x) (h:Tx S x=0):UpOk x:=by
 unfold Tx at h
 split at h
 ·rename_i h1
  unfold itB at h1
  simp only[decide_eq_true_eq] at h1
  have:=hx.2.2.2.1
  exact⟨hx,by omega,by omega⟩
 ·cases h
theorem preX_may {S S2:Sto} {lvl a:Nat} {xs up:List It} {x:It} (hS:qm S=true) (hn:qu S a=some ((lvl:Int),xs)) (hsp:(Qd S lvl xs).isSome=true) (hx:UpOk x) (e:TK S lvl xs x=.ok (up,S2)):qm S2=true∧0<up.length∧∀ y∈up,UpOk y∧8≤y.r:=by
 have hwl:=qcP (k:=qE x) lvl (Qa hn).1 hsp
 unfold TK at e
 split at e
 ·cases e
 ·split at e
  ·cases e
  ·rename_i up1 S1 e1
   obtain⟨h1,h2,h3⟩:=qbn (fun s hs=>qgv lvl hn hsp s (List.mem_reverse.1 hs)) (fun y hy=>by rw[List.mem_singleton.1 hy];exact hx) hS e1
   obtain⟨h4,h5,h6⟩:=h3 (fun e=>by have:=congrArg List.length e;simp[hwl] at this)
   split at e
   ·obtain⟨k1,k2,k3⟩:=kI (fun y hy=>(h2 y hy).1) (fun y hy=>(h2 y hy).2) h1 e
    exact⟨k1,k2.1,fun y hy=>⟨⟨(k3 y hy).1,.inr (k3 y hy).2.1.1,(k3 y hy).2.1.2⟩,(k3 y hy).2.1.1⟩⟩
   ·cases e
    exact⟨h1,h4,fun y hy=>⟨h2 y hy,(h6 y hy).1⟩⟩
theorem qes {S S':Sto} {lvl a r:Nat} {xs:List It} {x:It} (hS:qm S=true) (ha:8≤a) (hn:qu S a=some ((lvl:Int),xs)) (hsp:(Qd S lvl xs).isSome=true) (hx:ZY x) (e:Xr S lvl xs a x=.ok (r,S')):qm S'=true∧8≤r∧r<256:=by
 unfold Xr at e
 split at e
 ·rename_i h0
  rw[qcH] at e
  split at e
  ·cases e
  ·rename_i up S2 e2
   obtain⟨h1,h2,h3⟩:=preX_may hS hn hsp (askP_up hx h0) e2
   split at e
   ·cases e
   ·rename_i t ht
    simp only[Except.ok.injEq,Prod.mk.injEq] at e
    obtain⟨rfl,rfl⟩:=e
    obtain⟨y,ys,rfl⟩:∃ y ys,up=y :: ys:=by
     cases up with
     |nil=>simp at h2
     |cons y ys=>exact⟨y,ys,rfl⟩
    obtain⟨h4,h5⟩:=h3 y List.mem_cons_self
    have h6:=h4.2.2
    exact⟨UT h1 (kZ ha (qz.1 h1).2.1 ht),by simp only[Kh];omega,by simp only[Kh];omega⟩
 ·cases e
theorem qbm {k:K3}:∀ {ps:List Stp} {up:List It} {S:Sto} {e:Int},ZR k ps up S=.error e→e≠0
 | [],up,S,e,h=>by cases h
 |(lvl,xs,p) :: ps,up,S,e,h=>by
  simp only[ZR] at h
  split at h
  ·rename_i e1 h1
   cases h
   exact kH h1
  ·exact qbm h
theorem preX_err {S:Sto} {lvl:Nat} {xs:List It} {x:It} {e:Int} (h:TK S lvl xs x=.error e):e≠0:=by
 unfold TK at h
 split at h
 ·cases h;decide
 ·split at h
  ·rename_i e1 h1
   cases h
   exact qbm h1
  ·split at h
   ·exact kH h
   ·cases h
theorem qer {S:Sto} {lvl a:Nat} {xs:List It} {x:It} {e:Int} (h:Xr S lvl xs a x=.error e):e≠0:=by
 unfold Xr at h
 split at h
 ·rw[qcH] at h
  split at h
  ·rename_i e1 h1
   cases h
   exact preX_err h1
  ·split at h
   ·cases h;decide
   ·cases h
 ·rename_i h0
  cases h
  exact h0
def jf:List Oper→Nat→Nat→List Oper
 | [],_,_=>[]
 |o :: l,0,z=>{ o with after:=o.after.push { on:=z,ground:=.data } } :: l
 |o :: l,j+1,z=>o :: jf l j z
theorem vH:∀ (l:List Oper) (j z i:Nat),(jf l j z)[i]?=if i=j then (l[i]?).map (fun o=>{ o with after:=o.after.push { on:=z,ground:=.data } }) else l[i]?
 | [],j,z,i=>by simp[jf]
 |o :: l,0,z,i=>by
  cases i with
  |zero=>simp[jf]
  |succ i=>simp[jf]
 |o :: l,j+1,z,i=>by
  cases i with
  |zero=>simp[jf]
  |succ i =>
   simp only[jf,List.getElem?_cons_succ]
   rw[vH l j z i]
   by_cases h:i=j
   ·subst h;simp
   ·rw[if_neg h,if_neg (by omega)]
theorem XP {l:List Oper} {j z i:Nat} (h:i≠j):(jf l j z).toArray[i]?=l.toArray[i]?:=by
 simp only[List.getElem?_toArray]
 rw[vH,if_neg h]
theorem qdT {l:List Oper} {j z:Nat} {o:Oper} (h:l.toArray[j]?=some o):(jf l j z).toArray[j]?=some { o with after:=o.after.push { on:=z,ground:=.data } }:=by
 simp only[List.getElem?_toArray] at h ⊢
 rw[vH,if_pos rfl,h]
 rfl
theorem jr {l:List Oper} {j z i:Nat} {listed:Array Bool}:i∈Region.ready .any (jf l j z).toArray listed↔i∈Region.ready .any l.toArray listed∧(i=j→listed.getD z false=true):=by
 rw[mem_ready,mem_ready]
 by_cases h:i=j
 ·subst h
  constructor
  ·rintro ⟨h0,o,ho,ha⟩
   obtain⟨o',ho',rfl⟩:∃ o',l.toArray[i]?=some o'∧o={ o' with after:=o'.after.push { on:=z,ground:=.data } }:=by
    simp only[List.getElem?_toArray] at ho ⊢
    rw[vH,if_pos rfl] at ho
    rcases hq:l[i]? with _|o'
    ·rw[hq] at ho;cases ho
    ·rw[hq] at ho;cases ho;exact⟨o',rfl,rfl⟩
   refine⟨⟨h0,o',ho',fun e he hb=>ha e ?_ hb⟩,fun _=>ha { on:=z,ground:=.data } ?_ rfl⟩
   ·show e∈o'.after.push _
    exact Array.mem_push_of_mem _ he
   ·show _∈o'.after.push _
    exact Array.mem_push_self
  ·rintro ⟨⟨h0,o,ho,ha⟩,hz⟩
   refine⟨h0,_,qdT ho,fun e he hb=>?_⟩
   have he:e∈o.after.push { on:=z,ground:=.data }:=he
   rcases Array.mem_push.1 he with he|rfl
   ·exact ha e he hb
   ·exact hz rfl
 ·rw[XP h]
  exact⟨fun ⟨h0,o,ho,ha⟩=>⟨⟨h0,o,ho,ha⟩,fun e=>absurd e h⟩,fun ⟨h0,_⟩=>h0⟩
theorem Ts (l:List Oper) (j z:Nat) (t:Array Value):yielded (jf l j z).toArray t=yielded l.toArray t:=by
 funext i
 unfold yielded
 by_cases h:i=j
 ·subst h
  simp only[List.getElem?_toArray]
  rw[vH,if_pos rfl]
  cases l[i]? <;> rfl
 ·rw[XP h]
theorem qcf {oz:Oper} {src:Operand} {k:Nat} (hop:oz.op=.extract src k) (ev:Operand→Value) (P:Program):(∃ v,∀ W,(execOp ev oz).run P W=.ok (.value v) W)∨(∀ W,∃ s,(execOp ev oz).run P W=.halt (.stuck s) W):=by
 unfold execOp
 rw[hop]
 simp only[Instr.extract]
 split
 ·split
  ·rename_i v _
   exact .inl ⟨v,fun W=>rfl⟩
  ·exact .inr fun W=>⟨_,rfl⟩
 ·exact .inr fun W=>⟨_,rfl⟩
def lateB (ops:Array Oper) (j z:Nat):Bool:=match ops[z]? with
 |none=>false
 |some oz=>(qG oz).all (fun k=>UC ops 9 j k) && (List.range ops.size).all fun i=>i == z || UC ops 9 z i || match ops[i]? with
  |some oi=>oi.after.any (fun e=>Region.binds .any e && e.on == z) || oz.apart ops oi
  |none=>true
section
variable {P:Program} {l:List Oper} {Q:Exit→Act→World→Prop}
theorem qiA {j z i:Nat} {K K':Act→World→Prop} {a:Act} {W:World} (hK:∀ a w,K a w→K' a w) (h:wpOp P (jf l j z).toArray (QN Q) i K a W):wpOp P l.toArray (QN Q) i K' a W:=by
 refine wpOp_mono hK ?_
 unfold wpOp at h ⊢
 rw[Ts] at h
 by_cases hi:i=j
 ·subst hi
  rcases ho:l.toArray[i]? with _|o
  ·have:(jf l i z).toArray[i]?=none:=by
    simp only[List.getElem?_toArray] at ho ⊢
    rw[vH,if_pos rfl,ho];rfl
   rw[this] at h
   exact h
  ·rw[qdT ho] at h
   exact h
 ·rw[XP hi] at h
  exact h
theorem qfK {ops:Array Oper} {j z:Nat} {oz:Oper} (hz:ops[z]?=some oz) (h:lateB ops j z=true):(∀ k∈qG oz,UC ops 9 j k=true)∧∀ (i:Nat) (oi:Oper),ops[i]?=some oi→i≠z→UC ops 9 z i=true∨(∃ e∈oi.after,Region.binds .any e=true∧e.on=z)∨oz.apart ops oi=true:=by
 unfold lateB at h
 rw[hz] at h
 simp only[Bool.and_eq_true] at h
 refine⟨fun k hk=>List.all_eq_true.1 h.1 k hk,fun i oi hi hiz=>?_⟩
 have h1:=List.all_eq_true.1 h.2 i (List.mem_range.2 (zG.1 hi).1)
 rw[hi] at h1
 simp only[Bool.or_eq_true,beq_iff_eq,hiz,false_or] at h1
 rcases h1 with h1|h1|h1
 ·exact .inl h1
 ·rw[←Array.any_toList] at h1
  obtain⟨e,he,h2⟩:=List.any_eq_true.1 h1
  replace he:e∈oi.after:=by simpa using he
  simp only[Bool.and_eq_true,beq_iff_eq] at h2
  exact .inr (.inl ⟨e,he,h2⟩)
 ·exact .inr (.inr h1)
theorem qgy {j z:Nat} {oz:Oper} {src:Operand} {k:Nat} (hz:l.toArray[z]?=some oz) (hjz:j≠z) (hop:oz.op=.extract src k) (hg:oz.guard=none) (hs:Region.noSelect l.toArray=true) (hB:lateB l.toArray j z=true) :
  ∀ (fuel:Nat) (listed:Array Bool) (a:Act) (W:World),KB l.toArray listed→listed.size=l.length→wpAny P .any (jf l j z).toArray (QN Q) fuel listed a W→wpAny P .any l.toArray (QN Q) fuel listed a W:=by
 obtain⟨hB1,hB2⟩:=qfK hz hB
 have hzl:z<l.length:=by simpa using (zG.1 hz).1
 have zr:∀ listed:Array Bool,KB l.toArray listed→listed.size=l.length→j∈Region.ready .any l.toArray listed→¬listed.getD z false=true→z∈Region.ready .any l.toArray listed:=fun listed hc hsz hj hzu=>by
  refine mem_ready.2 ⟨?_,oz,hz,fun e he hb=>?_⟩
  ·have hlt:z<listed.size:=by omega
   simp only[Array.getD_eq_getD_getElem?,Array.getElem?_eq_getElem hlt,Option.getD_some] at hzu ⊢
   simpa using hzu
  ·have hk:e.on∈qG oz:=List.mem_map.2 ⟨e,by rw[List.mem_filter];exact⟨by simpa using he,hb⟩,rfl⟩
   exact vC hc 9 j e.on (fun o ho=>Vw hj ho) (hB1 _ hk)
 intro fuel
 induction fuel with
 |zero =>
  intro listed a W hc hsz h
  refine⟨?_,h.2⟩
  refine Classical.byContradiction fun hne=>?_
  obtain⟨i,hi⟩:=List.exists_mem_of_ne_nil _ hne
  have hno:∀ i,i∉Region.ready .any (jf l j z).toArray listed:=fun i hi=>by rw[h.1] at hi;cases hi
  by_cases hij:i=j
  ·subst hij
   by_cases hzu:listed.getD z false=true
   ·exact hno i (jr.2 ⟨hi,fun _=>hzu⟩)
   ·exact hno z (jr.2 ⟨zr listed hc hsz hi hzu,fun e=>absurd e.symm hjz⟩)
  ·exact hno i (jr.2 ⟨hi,fun e=>absurd e hij⟩)
 |succ fuel ih =>
  intro listed a W hc hsz h
  refine⟨fun h0=>h.1 ?_,fun i hi=>?_⟩
  ·refine List.eq_nil_iff_forall_not_mem.2 fun i hi=>?_
   have:=(jr.1 hi).1
   rw[h0] at this
   cases this
  ·have key:∀ i,i∈Region.ready .any (jf l j z).toArray listed→wpOp P l.toArray (QN Q) i (wpAny P .any l.toArray (QN Q) fuel (listed.setIfInBounds i true)) a W:=fun i hi =>
    qiA (fun a w hw=>ih _ a w (hc.step (jr.1 hi).1) (by simpa using hsz) hw) (h.2 i hi)
   by_cases hlate:i=j∧¬listed.getD z false=true
   ·obtain⟨rfl,hzu⟩:=hlate
    have hzr:=zr listed hc hsz hi hzu
    have h1:=h.2 z (jr.2 ⟨hzr,fun e=>absurd e.symm hjz⟩)
    have hw:∀ t,Region.wanted oz (yielded l.toArray t)=true:=fun t=>by unfold Region.wanted;rw[hg]
    unfold wpOp at h1
    rw[XP (fun e=>hjz e.symm),hz] at h1
    simp only[Ts,hw,if_true] at h1
    rcases h1 with h1|⟨_,h1⟩
    ·unfold Oper.wp at h1
     rcases qcf hop a.eval P with ⟨v,hv⟩|hst
     ·rw[hv] at h1
      have h2:=ih _ _ W (hc.step hzr) (by simpa using hsz) h1
      have h3:=qat (Q:=Q) (v:=v) hz (Region.noSelect_spec hs) fuel listed a W (fun j' oj' hoj' hjz' hun hno=>by
       rcases hB2 j' oj' hoj' hjz' with hwt|⟨e,he,hb,heq⟩|hap
       ·exfalso
        have:=vC hc 9 z j' (fun o ho=>Vw hzr ho) hwt
        rcases Nat.lt_or_ge j' listed.size with h'|h'
        ·simp[h'] at hun this
         rw[hun] at this;cases this
        ·simp[Array.getElem?_eq_none h'] at this
       ·exact absurd heq (hno e he hb)
       ·exact hap) hzr (hw _) hv h2
      exact h3.2 i hi
     ·obtain⟨s,hs2⟩:=hst W
      rw[hs2] at h1
      exact False.elim h1
    ·exact absurd h1 JL
   ·exact key i (jr.2 ⟨hi,fun e=>Classical.byContradiction fun hn=>hlate ⟨e,hn⟩⟩)
theorem vN {listed:Array Bool} {a:Act} {W:World} {fuel:Nat} (j z:Nat) {oz:Oper} {src:Operand} {k:Nat} (hz:l.toArray[z]?=some oz) (hjz:(j == z)=false) (hop:oz.op=.extract src k) (hg:oz.guard=none) (hs:Region.noSelect l.toArray=true) (hB:lateB l.toArray j z=true)
  (hc:Yl l.toArray listed=true) (hsz:(listed.size == l.length)=true) (h:wpAny P .any (jf l j z).toArray (QN Q) fuel listed a W):wpAny P .any l.toArray (QN Q) fuel listed a W:=
 qgy hz (by simpa using hjz) hop hg hs hB fuel listed a W (vp hc) (by simpa using hsz) h
end
def qbO (v:Vol):It:=⟨1,v.id,0,0,Qx v⟩
theorem volIt_ok {v:Vol} (h:VM v):ZY (qbO v):=by
 have:=vB v
 exact⟨⟨(by decide:(0:Int)≤1),(by decide:(1:Int)<256)⟩,h.1,⟨(by decide:(0:Int)≤0),(by decide:(0:Int)<4294967296)⟩,⟨(by decide:(0:Int)≤0),(by decide:(0:Int)<256)⟩,by show (Qx v).length≤12;omega⟩
def setE (S:Sto) (root:Int) (v:Vol):Except Int (Nat×Sto):=match qu S root.toNat with
 |none=>.error 8
 |some (lvl,xs)=>Xr S lvl.toNat xs root.toNat (qbO v)
def SetQ (S:Sto) (gen root next:Int) (dead:List Int) (v:Vol) (w:World) (e:Ending) (w':World):Prop:=Below w.heap.size w w' ∧
 ((e=.returned (.tuple #[Jb,.int .i64 8])∧zF S root next dead)∨∃ vs refs nodes,Ql S root next dead vs∧qR S (Qw root dead vs) refs nodes∧QD S refs ∧
  ((∃ er,er≠0∧e=.returned (.tuple #[Jb,.int .i64 er])∧(ZK S next v vs refs=er∨(ZK S next v vs refs=0∧(setE S root v=.error er∨(er=8∧∃ r S',setE S root v=.ok (r,S')∧zF S' (r:Int) next dead))))) ∨
   ∃ r S' vs' u,ZK S next v vs refs=0∧setE S root v=.ok (r,S')∧Ge S' (r:Int) next dead vs'∧e=.returned (.tuple #[u,.int .i64 0])∧jE w.heap.size S' gen (r:Int) next dead u w'))
def qcB (lo:Nat) (S:Sto) (r:Nat):qS:=⟨(Nat×Nat)×(Option Addr×Nat)×(Option Addr×Nat),fun p=>.tuple #[qX (some ⟨p.1.1,0,none⟩) S.bs.length S.bs.length (some ⟨p.1.2,0,none⟩) S.ws.length (S.ws.length+1) p.2.1.1 S.now.length p.2.1.2 p.2.2.1 S.last.length p.2.2.2,.int .i64 (r:Int),.int .i64 0],
 fun p W=>QC lo S (qX (some ⟨p.1.1,0,none⟩) S.bs.length S.bs.length (some ⟨p.1.2,0,none⟩) S.ws.length (S.ws.length+1) p.2.1.1 S.now.length p.2.1.2 p.2.2.1 S.last.length p.2.2.2) W⟩
theorem zl (lo:Nat) (S:Sto) (r b c:Nat) (A3:Option Addr) (c3:Nat) (A4:Option Addr) (c4:Nat):(qcB lo S r).f ((b,c),(A3,c3),(A4,c4))=.tuple #[qX (some ⟨b,0,none⟩) S.bs.length S.bs.length (some ⟨c,0,none⟩) S.ws.length (S.ws.length+1) A3 S.now.length c3 A4 S.last.length c4,.int .i64 (r:Int),.int .i64 0]:=rfl
theorem qaK (lo:Nat) (S:Sto) (r:Nat):∀ p,qD ql ((qcB lo S r).φ p):=fun p W W' he h=>by
 have he:Ext W W':=he
 exact QC.keep h (zM _) he.size fun b _ hb=>he.block b hb
def qcv (e:Int):qS:=⟨Unit,fun _=>.tuple #[qX none 0 0 none 0 0 none 0 0 none 0 0,.int .i64 0,.int .i64 e],fun _ _=>True⟩
theorem zj (e:Int) (u:Unit):(qcv e).f u=.tuple #[qX none 0 0 none 0 0 none 0 0 none 0 0,.int .i64 0,.int .i64 e]:=rfl
theorem qaG (e:Int):∀ p,qD ql ((qcv e).φ p):=fun _ _ _ _ _=>trivial
theorem qeB {W C:World} {b:Nat} {ty:TypeId} {u0 u1 u2 u3 x0 x1 x2 x3:Value} (h:W.heap[b]?=some (.cells #[u0,u1,u2,u3] ty (0,0))) (hC:C=(((W.setCell ⟨b,0,none⟩ x0).setCell ⟨b,1,none⟩ x1).setCell ⟨b,2,none⟩ x2).setCell ⟨b,3,none⟩ x3) :
  C.heap[b]?=some (.cells #[x0,x1,x2,x3] ty (0,0))∧(∀ k,k≠b→C.heap[k]?=W.heap[k]?)∧C.heap.size=W.heap.size∧∀ {B:Nat} {w0:World},B≤b→Below B w0 W→Below B w0 C:=by
 subst hC
 exact⟨vz h _ _ _ _,fun k hk=>(zJ _ _ _ _ hk).trans ((zJ _ _ _ _ hk).trans ((zJ _ _ _ _ hk).trans (zJ _ _ _ _ hk))),by simp,fun hb h0=>zy h0 hb _ _ _ _⟩
theorem set_pool {W C:World} {b:Nat} {ty:TypeId} {u0 u1 u2 u3 u4 u5 u6 u7 x0 x1 x2 x3 x5 x7:Value} (h:W.heap[b]?=some (.cells #[u0,u1,u2,u3,u4,u5,u6,u7] ty (0,0))) (hC:C=(((((W.setCell ⟨b,0,none⟩ x0).setCell ⟨b,1,none⟩ x1).setCell ⟨b,2,none⟩ x2).setCell ⟨b,3,none⟩ x3).setCell ⟨b,5,none⟩ x5).setCell ⟨b,7,none⟩ x7) :
  C.heap[b]?=some (.cells #[x0,x1,x2,x3,u4,x5,u6,x7] ty (0,0))∧(∀ k,k≠b→C.heap[k]?=W.heap[k]?)∧C.heap.size=W.heap.size∧∀ {B:Nat} {w0:World},B≤b→Below B w0 W→Below B w0 C:=by
 subst hC
 refine⟨?_,fun k hk=>?_,by simp,fun hb h0=>Below.setCell (Below.setCell (zy h0 hb _ _ _ _) (p:=⟨b,5,none⟩) hb _) (p:=⟨b,7,none⟩) hb _⟩
 ·exact qi (qi (qi (qi (qi (qi h 0 x0) 1 x1) 2 x2) 3 x3) 5 x5) 7 x7
 ·rw[zJ _ _ _ _ hk,zJ _ _ _ _ hk,zJ _ _ _ _ hk,zJ _ _ _ _ hk,zJ _ _ _ _ hk,zJ _ _ _ _ hk]
theorem vI {lo:Nat} {S:Sto} {A1:Option Addr} {n1 c1:Nat} {A2:Option Addr} {n2 c2:Nat} {A3:Option Addr} {n3 c3:Nat} {A4:Option Addr} {n4 c4:Nat} {W:World} (h:NewSto lo S (qX A1 n1 c1 A2 n2 c2 A3 n3 c3 A4 n4 c4) W):∀ C:World,PosZ lo W C→qP C W.heap.size (.slice A1 n1 c1) (.slice A2 n2 c2) (.slice A3 n3 c3) (.slice A4 n4 c4) S:=by
 obtain⟨B1,d1,B2,d2,B3,d3,B4,d4,e,hc⟩:=h
 simp only[Value.agg.injEq,Array.mk.injEq,List.cons.injEq,Value.slice.injEq,and_true] at e
 obtain⟨⟨rfl,rfl,rfl⟩,⟨rfl,rfl,rfl⟩,⟨rfl,rfl,rfl⟩,⟨rfl,rfl,rfl⟩⟩:=e
 exact hc
theorem size8 {w:World} {b:Nat} {x0 x1 x2 x3 x4 x5 x6 x7:Value}:((((((((w.setCell ⟨b,0,none⟩ x0).setCell ⟨b,1,none⟩ x1).setCell ⟨b,2,none⟩ x2).setCell ⟨b,3,none⟩ x3).setCell ⟨b,4,none⟩ x4).setCell ⟨b,5,none⟩ x5).setCell ⟨b,6,none⟩ x6).setCell ⟨b,7,none⟩ x7).heap.size=w.heap.size:=by simp
theorem outIFs {lo:Nat} {k i o r:Int} {n:Nat} {l:List UInt8}:∀ p,QL ((qbz lo k i o r n l).φ p):=fun p W W' he h=>⟨(h.1.below he).more he.size,h.2⟩
theorem KO {R:Ending→World→Prop} {a:Act} {W:World} {b:Nat} {x0 x1 x2 x3 x4 x5 x6 x7 v:Value} (h4:a.tmps[4]?.getD undef=.pointer (some ⟨b,0,none⟩)) (h5:a.tmps[5]?.getD undef=v) (hd:a.defers=[])
  (hrow:W.heap[b]?=some (.cells #[x0,x1,x2,x3,x4,x5,x6,x7] 32 (0,0))) (hR:R (.returned (.tuple #[.agg #[x0,x1,x2,x3,x4,x5,x6,x7],v])) W):bodyPost Tryz.prog Tryz.f24 R .ret a W:=by
 refine bodyPost_ret (v:=.tuple #[.agg #[x0,x1,x2,x3,x4,x5,x6,x7],v]) ?_ hd hR
 have k:=qa hrow
 simp[results,Tryz.results24,go_sem,h4,h5,k]
set_option maxRecDepth 100000 in
theorem Gs (A1:Option Addr) (n1 c1:Nat) (A2:Option Addr) (n2 c2:Nat) (A3:Option Addr) (n3 c3:Nat) (A4:Option Addr) (n4 c4:Nat) (gen root next:Int) (A5:Option Addr) (c5:Nat) (S:Sto) (dead:List Int) (v:Vol) (hv:VM v)
  (hT:8≤v.root→v.root<256→zE S v.root.toNat≠0→okL S (-1) v.root=true) (w:World)
  (h:qP w w.heap.size (.slice A1 n1 c1) (.slice A2 n2 c2) (.slice A3 n3 c3) (.slice A4 n4 c4) S) (hd:Zn w w.heap.size (.slice A5 dead.length c5) dead) :
  Calls Tryz.prog 24 #[.agg (qC (.slice A1 n1 c1) (.slice A2 n2 c2) (.slice A3 n3 c3) (.slice A4 n4 c4) gen root next (.slice A5 dead.length c5)),jK v] w (SetQ S gen root next dead v w):=by
 have HA:=zH (fun W (hx:Ext w W)=>qfr A1 n1 c1 A2 n2 c2 A3 n3 c3 A4 n4 c4 gen root next A5 c5 S dead v hT W (h.ext hx) (hd.ext_ hx))
 have HO:=zH (fun W=>qgW v hv W)
 have hvi:=volIt_ok hv
 have HP:=zH (fun (hS:qm S=true) (a lvl:Nat) xs ha ha2 hn hsp A c W (hx:Ext w W) hb=>qhe A1 n1 c1 A2 n2 c2 A3 n3 c3 A4 n4 c4 S hS a lvl xs ha ha2 hn hsp (qbO v) hvi A c W (h.ext hx) hb)
 replace h:=zH h
 replace hT:=zH hT
 replace hd:=zH hd
 replace hvi:=zH hvi
 go_enter Tryz.func24,Tryz.ntmps24
 go_wp2_with fail
 generalize hw1:(World.alloc (World.alloc (World.alloc w _) _) _)=w1
 have x1:Ext w w1:=by rw[←hw1];exact((zN _ _).trans (zN _ _)).trans (zN _ _)
 have rp1:w1.heap[w.heap.size]?=some (.cells (qC (.slice A1 n1 c1) (.slice A2 n2 c2) (.slice A3 n3 c3) (.slice A4 n4 c4) gen root next (.slice A5 dead.length c5)) 32 (0,0)):=by rw[←hw1];exact(zK _ _ _ (by simp;omega)).trans ((zK _ _ _ (by simp)).trans (zI _ _ _ rfl))
 have rv1:w1.heap[w.heap.size+1]?=some (.cells #[.int .u32 v.id,.int .i64 v.root,.bool v.fz,.int .u32 v.frm] 40 (0,0)):=by rw[←hw1];exact(zK _ _ _ (by simp)).trans (zI _ _ _ (by simp))
 have ro1:w1.heap[w.heap.size+2]?=some (.cells (qC (.slice none 0 0) (.slice none 0 0) (.slice none 0 0) (.slice none 0 0) 0 0 0 (.slice none 0 0)) 32 (0,0)):=by rw[←hw1];exact zI _ _ _ (by simp)
 clear hw1
 refine(HA.out w1 x1).mono ?_
 clear HA
 rintro e w2 ⟨hB,hQ⟩
 have x2:Ext w w2:=Ext.trans x1 hB
 have rp2:=qb rp1 hB
 have rv2:=qb rv1 hB
 have ro2:=qb ro1 hB
 have zo2:w.heap.size+2<w2.heap.size:=(zG.1 ro2).1
 have zo2':w.heap.size+1+1<w2.heap.size:=zo2
 clear hB rp1 rv1 ro1 x1
 have ko2:=qa ro2
 have fo2:=qd ro2
 rcases hQ with ⟨rfl,hno⟩|⟨vs,refs,nodes,hp,hcn,hen,rfl⟩
 ·replace hno:=zH hno
  go_wp2_with fail
  exact KO (b:=w.heap.size+2) rfl rfl rfl (jj ro2 _ _ _ _ _ _ _ _) ⟨QV x2 (by omega) _ _ _ _ _ _ _ _,.inl ⟨rfl,hno.out⟩⟩
 ·have hfin:=zH (fun e W (hb:Below w.heap.size w W) hx=>(⟨hb,.inr ⟨vs,refs,nodes,hp,hcn,hen,hx⟩⟩:SetQ S gen root next dead v w e W))
  by_cases h0:ZK S next v vs refs=0
  case neg =>
   obtain⟨er,her⟩:∃ er,ZK S next v vs refs=er:=⟨_,rfl⟩
   rw[her] at h0 ⊢
   have hne:(er != 0)=true:=by rw[bne_iff_ne];exact h0
   replace h0:=zH h0
   replace her:=zH her
   replace hp:=zH hp
   replace hcn:=zH hcn
   replace hen:=zH hen
   go_wp2_with fail
   exact KO (b:=w.heap.size+2) rfl rfl rfl (jj ro2 _ _ _ _ _ _ _ _) (hfin.out _ _ (QV x2 (by omega) _ _ _ _ _ _ _ _) (.inl ⟨er,h0.out,rfl,.inl her.out⟩))
  case pos =>
   rw[h0]
   obtain⟨a,ha,h8,h256,lvl,xs,hn,hsp⟩:=JN hp.top
   have hse:setE S root v=Xr S lvl xs a (qbO v):=by
    unfold setE
    rw[ha,Int.toNat_natCast,hn]
    rfl
   have HP2:=zH (HP.out hp.may a lvl xs h8 h256 hn hsp)
   have hpm:=zH (fun r S' (he:Xr S lvl xs a (qbO v)=.ok (r,S'))=>qes hp.may h8 hn hsp hvi.out he)
   have hpe:=zH (fun er (he:Xr S lvl xs a (qbO v)=.error er)=>qer he)
   rw[←hse] at HP2 hpm hpe
   rw[←ha] at HP2
   have hdl:=zH hp.few
   replace h0:=zH h0
   replace hp:=zH hp
   replace hcn:=zH hcn
   replace hen:=zH hen
   clear hse HP hn hsp hT ha
   go_upto_region 4 with fail
   rcases hq:setE S root v with er|⟨r,S'⟩
   ·have gP:∀ W,ql.r w2 W→∀ i,W.cell? ⟨w.heap.size,i,none⟩=(qC (.slice A1 n1 c1) (.slice A2 n2 c2) (.slice A3 n3 c3) (.slice A4 n4 c4) gen root next (.slice A5 dead.length c5))[i]?:=fun W h=>qa (qb rp2 h)
    have gV:∀ W,ql.r w2 W→∀ i,W.cell? ⟨w.heap.size+1,i,none⟩=#[.int .u32 v.id,.int .i64 v.root,.bool v.fz,.int .u32 v.frm][i]?:=fun W h=>qa (qb rv2 h)
    clear ko2 fo2
    refine qo (by kernel_rfl) ?_
    refine vN 12 9 (by exact rfl) (by kernel_rfl) rfl rfl (by kernel_rfl) (by kernel_rfl) (by kernel_rfl) (by kernel_rfl) ?_
    dsimp only[jf,Array.push,List.push_toArray,List.concat_eq_append]
    refine vN 12 10 (by exact rfl) (by kernel_rfl) rfl rfl (by kernel_rfl) (by kernel_rfl) (by kernel_rfl) (by kernel_rfl) ?_
    dsimp only[jf,Array.push,List.push_toArray,List.concat_eq_append]
    refine qO (w:=w2) ql (qF [(5,qbz w2.heap.size 1 v.id 0 0 (Qx v).length (Qx v)),(6,qcv er),(11,jT w2.heap.size 28 #[.slice none 0 0,.slice none 0 0,.slice none 0 0,.slice none 0 0])]) (List.replicate 12 true) 3 (by kernel_rfl) (by kernel_rfl) (by kernel_rfl) (by kernel_rfl) (by kernel_rfl) (by kernel_rfl) (by kernel_rfl) ?st (Rel.drew _ _) ?walk
    case st=>exact qk (by simp only[List.forall_mem_cons];exact⟨fun p=>QK (outIFs p),qaG _,fun p=>QK (ZX _ _ _ p),fun _ h=>by cases h⟩)
    case walk =>
     intro K hK
     dsimp only[qp,List.replicate]
     repeat ((first|(refine qe ?_ (by rfl) (by rfl) (fun W hW _=>⟨W,?_,Rel.refl _ W⟩) ?_;rotate_left;(go_simp<;>with_reducible rfl))|(refine qh (by rfl) ?_));try simp only[Act.put,qj,qf,qc,qg,Zk,zl,zj,jb,qc,zA,zB,zC])
     refine qy (qbz w2.heap.size 1 v.id 0 0 (Qx v).length (Qx v)) (by rfl) (by rfl) (fun W hW _=>?_) (fun p5=>?_)
     ·have hW:Ext w2 W:=hW
      refine Qg ?_ ((HO.out W).mono fun e w' h=>?_)
      ·go_simp
      obtain⟨u,rfl,⟨A,c,rfl,hb,hf⟩,hB⟩:=h
      exact⟨(A,c),rfl,⟨hb,hf.mono hW.size⟩,hB⟩
     obtain⟨A8,c8⟩:=p5
     simp only[Act.put,qj,qf,qc,qg,Zk,zl,zj,jb,qc,zA,zB,zC]
     repeat ((first|(refine qe ?_ (by rfl) (by rfl) (fun W hW _=>⟨W,?_,Rel.refl _ W⟩) ?_;rotate_left;(go_simp<;>with_reducible rfl))|(refine qh (by rfl) ?_));try simp only[Act.put,qj,qf,qc,qg,Zk,zl,zj,jb,qc,zA,zB,zC])
     refine qy (qcv er) (by rfl) (by rfl) (fun W hW hp=>?_) (fun (p:Unit)=>?_)
     ·have hW:Ext w2 W:=hW
      have hb:Bys W W.heap.size (.slice A8 (Qx v).length c8) (Qx v):=(hp 5 (by decide)).1.1
      refine Qg ?_ ((HP2.out A8 c8 W (x2.trans hW) hb).mono fun e w' h=>?_)
      ·go_simp
       exact⟨rfl,rfl,rfl,rfl,rfl⟩
      obtain⟨u,rfl,hu,hB⟩:=h
      rw[hq] at hu
      obtain rfl:u=_:=hu
      exact⟨(),rfl,trivial,hB⟩
     simp only[Act.put,qj,qf,qc,qg,Zk,zl,zj,jb,qc,zA,zB,zC]
     repeat ((first|(refine qe ?_ (by rfl) (by rfl) (fun W hW _=>⟨W,?_,Rel.refl _ W⟩) ?_;rotate_left;(go_simp<;>with_reducible rfl))|(refine qh (by rfl) ?_));try simp only[Act.put,qj,qf,qc,qg,Zk,zl,zj,jb,qc,zA,zB,zC])
     refine qy (jT w2.heap.size 28 #[.slice none 0 0,.slice none 0 0,.slice none 0 0,.slice none 0 0]) (by rfl) (by rfl) (fun W hW _=>?_) (fun (p11:Nat)=>?_)
     ·refine jY ?_ (Below.size hW)
      go_simp
     simp only[Act.put,qj,qf,qc,qg,Zk,zl,zj,jb,qc,zA,zB,zC]
     repeat ((first|(refine qe ?_ (by rfl) (by rfl) (fun W hW _=>⟨W,?_,Rel.refl _ W⟩) ?_;rotate_left;(go_simp<;>with_reducible rfl))|(refine qh (by rfl) ?_));try simp only[Act.put,qj,qf,qc,qg,Zk,zl,zj,jb,qc,zA,zB,zC])
     refine qt (hK _ _ fun W hW hF=>?_)
     obtain⟨f11,hlo⟩:W.heap[p11]?=some (.cells #[.slice none 0 0,.slice none 0 0,.slice none 0 0,.slice none 0 0] 28 (0,0))∧w2.heap.size≤p11:=(hF 11).1
     clear hF hK gP gV
     have hW:Ext w2 W:=hW
     dsimp only[List.drop,List.length_cons,List.length_nil,Nat.reduceAdd,Nat.reduceSub]
     have k11:=qa f11
     have h11:=qd f11
     have z11:=(zG.1 f11).1
     have rq2:=qb rp2 hW
     have rz2:=qb ro2 hW
     go_wp2
     refine Qm ?_
     generalize hw3:World.setCell (World.setCell (World.setCell (World.setCell W _ _) _ _) _ _) _ _=w3
     obtain⟨r3,o3,z3,b3⟩:=qeB f11 hw3.symm
     clear hw3 k11 h11 f11
     have rp3:=(o3 w.heap.size (by omega)).trans rq2
     have ro3:=(o3 (w.heap.size+2) (by omega)).trans rz2
     have x3:Below w.heap.size w w3:=b3 (by omega) (x2.trans hW)
     have ko3:=qa ro3
     have fo3:=qd ro3
     have zo3:w.heap.size+1+1<w3.heap.size:=(zG.1 ro3).1
     clear rq2 rz2
     have hne:=hpe.out er hq
     have hnb:(er != 0)=true:=by rw[bne_iff_ne];exact hne
     replace hne:=zH hne
     replace hq:=zH hq
     go_wp2_with fail
     exact KO (b:=w.heap.size+2) rfl rfl rfl (jj ro3 _ _ _ _ _ _ _ _) (hfin.out _ _ (QV x3 (by omega) _ _ _ _ _ _ _ _) (.inl ⟨er,hne.out,rfl,.inr ⟨h0.out,.inl hq.out⟩⟩))
   ·have gP:∀ W,ql.r w2 W→∀ i,W.cell? ⟨w.heap.size,i,none⟩=(qC (.slice A1 n1 c1) (.slice A2 n2 c2) (.slice A3 n3 c3) (.slice A4 n4 c4) gen root next (.slice A5 dead.length c5))[i]?:=fun W h=>qa (qb rp2 h)
    have gV:∀ W,ql.r w2 W→∀ i,W.cell? ⟨w.heap.size+1,i,none⟩=#[.int .u32 v.id,.int .i64 v.root,.bool v.fz,.int .u32 v.frm][i]?:=fun W h=>qa (qb rv2 h)
    clear ko2 fo2
    refine qo (by kernel_rfl) ?_
    refine vN 12 9 (by exact rfl) (by kernel_rfl) rfl rfl (by kernel_rfl) (by kernel_rfl) (by kernel_rfl) (by kernel_rfl) ?_
    dsimp only[jf,Array.push,List.push_toArray,List.concat_eq_append]
    refine vN 12 10 (by exact rfl) (by kernel_rfl) rfl rfl (by kernel_rfl) (by kernel_rfl) (by kernel_rfl) (by kernel_rfl) ?_
    dsimp only[jf,Array.push,List.push_toArray,List.concat_eq_append]
    refine qO (w:=w2) ql (qF [(5,qbz w2.heap.size 1 v.id 0 0 (Qx v).length (Qx v)),(6,qcB w2.heap.size S' r),(11,jT w2.heap.size 28 #[.slice none 0 0,.slice none 0 0,.slice none 0 0,.slice none 0 0])]) (List.replicate 12 true) 3 (by kernel_rfl) (by kernel_rfl) (by kernel_rfl) (by kernel_rfl) (by kernel_rfl) (by kernel_rfl) (by kernel_rfl) ?st (Rel.drew _ _) ?walk
    case st=>exact qk (by simp only[List.forall_mem_cons];exact⟨fun p=>QK (outIFs p),qaK _ _ _,fun p=>QK (ZX _ _ _ p),fun _ h=>by cases h⟩)
    case walk =>
     intro K hK
     dsimp only[qp,List.replicate]
     repeat ((first|(refine qe ?_ (by rfl) (by rfl) (fun W hW _=>⟨W,?_,Rel.refl _ W⟩) ?_;rotate_left;(go_simp<;>with_reducible rfl))|(refine qh (by rfl) ?_));try simp only[Act.put,qj,qf,qc,qg,Zk,zl,zj,jb,qc,zA,zB,zC])
     refine qy (qbz w2.heap.size 1 v.id 0 0 (Qx v).length (Qx v)) (by rfl) (by rfl) (fun W hW _=>?_) (fun p5=>?_)
     ·have hW:Ext w2 W:=hW
      refine Qg ?_ ((HO.out W).mono fun e w' h=>?_)
      ·go_simp
      obtain⟨u,rfl,⟨A,c,rfl,hb,hf⟩,hB⟩:=h
      exact⟨(A,c),rfl,⟨hb,hf.mono hW.size⟩,hB⟩
     obtain⟨A8,c8⟩:=p5
     simp only[Act.put,qj,qf,qc,qg,Zk,zl,zj,jb,qc,zA,zB,zC]
     repeat ((first|(refine qe ?_ (by rfl) (by rfl) (fun W hW _=>⟨W,?_,Rel.refl _ W⟩) ?_;rotate_left;(go_simp<;>with_reducible rfl))|(refine qh (by rfl) ?_));try simp only[Act.put,qj,qf,qc,qg,Zk,zl,zj,jb,qc,zA,zB,zC])
     refine qy (qcB w2.heap.size S' r) (by rfl) (by rfl) (fun W hW hp=>?_) (fun p=>?_)
     ·have hW:Ext w2 W:=hW
      have hb:Bys W W.heap.size (.slice A8 (Qx v).length c8) (Qx v):=(hp 5 (by decide)).1.1
      refine Qg ?_ ((HP2.out A8 c8 W (x2.trans hW) hb).mono fun e w' h=>?_)
      ·go_simp
       exact⟨rfl,rfl,rfl,rfl,rfl⟩
      obtain⟨u,rfl,hu,hB⟩:=h
      rw[hq] at hu
      obtain⟨v',rfl,hT⟩:=hu
      obtain⟨BB,WW,gg,A3',c3',A4',c4',rfl,-⟩:=id hT
      exact⟨((BB,WW),(A3',c3'),(A4',c4')),rfl,QC.keep hT hW.size (zM _) (fun _ _ _=>rfl),hB⟩
     obtain⟨⟨BB,WW⟩,⟨A3',c3'⟩,⟨A4',c4'⟩⟩:=p
     simp only[Act.put,qj,qf,qc,qg,Zk,zl,zj,jb,qc,zA,zB,zC]
     repeat ((first|(refine qe ?_ (by rfl) (by rfl) (fun W hW _=>⟨W,?_,Rel.refl _ W⟩) ?_;rotate_left;(go_simp<;>with_reducible rfl))|(refine qh (by rfl) ?_));try simp only[Act.put,qj,qf,qc,qg,Zk,zl,zj,jb,qc,zA,zB,zC])
     refine qy (jT w2.heap.size 28 #[.slice none 0 0,.slice none 0 0,.slice none 0 0,.slice none 0 0]) (by rfl) (by rfl) (fun W hW _=>?_) (fun (p11:Nat)=>?_)
     ·refine jY ?_ (Below.size hW)
      go_simp
     simp only[Act.put,qj,qf,qc,qg,Zk,zl,zj,jb,qc,zA,zB,zC]
     repeat ((first|(refine qe ?_ (by rfl) (by rfl) (fun W hW _=>⟨W,?_,Rel.refl _ W⟩) ?_;rotate_left;(go_simp<;>with_reducible rfl))|(refine qh (by rfl) ?_));try simp only[Act.put,qj,qf,qc,qg,Zk,zl,zj,jb,qc,zA,zB,zC])
     refine qt (hK _ _ fun W hW hF=>?_)
     obtain⟨f11,hlo⟩:W.heap[p11]?=some (.cells #[.slice none 0 0,.slice none 0 0,.slice none 0 0,.slice none 0 0] 28 (0,0))∧w2.heap.size≤p11:=(hF 11).1
     have hTw:QC w2.heap.size S' (qX (some ⟨BB,0,none⟩) S'.bs.length S'.bs.length (some ⟨WW,0,none⟩) S'.ws.length (S'.ws.length+1) A3' S'.now.length c3' A4' S'.last.length c4') W:=(hF 6).1
     clear hF hK gP gV
     have hW:Ext w2 W:=hW
     dsimp only[List.drop,List.length_cons,List.length_nil,Nat.reduceAdd,Nat.reduceSub]
     have k11:=qa f11
     have h11:=qd f11
     have z11:=(zG.1 f11).1
     have rq2:=qb rp2 hW
     have rz2:=qb ro2 hW
     go_wp2
     refine Qm ?_
     generalize hw3:World.setCell (World.setCell (World.setCell (World.setCell W _ _) _ _) _ _) _ _=w3
     obtain⟨r3,o3,z3,b3⟩:=qeB f11 hw3.symm
     have hTw3:=QC.keepT (lo':=w2.heap.size) hTw (zM _) (by omega) f11 (by decide) (fun b _ _ hne=>o3 b hne)
     clear hw3 k11 h11 f11
     have rp3:=(o3 w.heap.size (by omega)).trans rq2
     have ro3:=(o3 (w.heap.size+2) (by omega)).trans rz2
     have x3:Below w.heap.size w w3:=b3 (by omega) (x2.trans hW)
     have ko3:=qa ro3
     have fo3:=qd ro3
     have zo3:w.heap.size+1+1<w3.heap.size:=(zG.1 ro3).1
     clear rq2 rz2
     have hmay:=hpm.out r S' hq
     have hns:=vI (hTw3.newSto (QY hmay.1))
     replace hq:=zH hq
     replace hns:=zH hns
     replace hmay:=zH hmay
     have hz3:w2.heap.size≤w3.heap.size:=by have:=hW.size;omega
     clear hTw3 hpm hpe HP2
     go_upto_region 7 with fail
     have HI:=zH (fun W (hW:Ext w3 W)=>qfz (.slice A5 dead.length c5) dead (by have:=hdl.out;omega) W (hd.out.ext_ (x3.trans (Below.mono hW x3.size))))
     have gP:∀ W,ql.r w3 W→∀ i,W.cell? ⟨w.heap.size,i,none⟩=(qC (.slice A1 n1 c1) (.slice A2 n2 c2) (.slice A3 n3 c3) (.slice A4 n4 c4) gen root next (.slice A5 dead.length c5))[i]?:=fun W h=>qa (qb rp3 h)
     obtain⟨nb,hnb⟩:∃ nb,S'.bs.length=nb:=⟨_,rfl⟩
     obtain⟨nw,hnw⟩:∃ nw,S'.ws.length=nw:=⟨_,rfl⟩
     obtain⟨nn,hnn⟩:∃ nn,S'.now.length=nn:=⟨_,rfl⟩
     obtain⟨nl,hnl⟩:∃ nl,S'.last.length=nl:=⟨_,rfl⟩
     rw[hnb,hnw,hnn,hnl] at hns r3 ⊢
     have hlens:=zH (And.intro hnb (And.intro hnw (And.intro hnn hnl)))
     clear hnb hnw hnn hnl
     have gS:∀ W,ql.r w3 W→∀ i,W.cell? ⟨p11,i,none⟩=#[.slice (some ⟨BB,0,none⟩) nb nb,.slice (some ⟨WW,0,none⟩) nw (nw+1),.slice A3' nn c3',.slice A4' nl c4'][i]?:=fun W h=>qa (qb r3 h)
     clear ko3 fo3
     refine qo (by kernel_rfl) ?_
     refine zh 1 10 (.int .i64 (r:Int)) (by kernel_rfl) (by simp only[List.getElem?_toArray,List.getElem?_cons_succ,List.getElem?_cons_zero];exact rfl) (by kernel_rfl) (by kernel_rfl) (by kernel_rfl) (by rfl) (fun W=>?_) ?_
     ·go_simp
     simp only[Act.put,qj,qf,qc,qg,Zk,zl,zj,jb,qc,zA,zB,zC]
     refine qO (w:=w3) ql (qF [(4,outN w3.heap.size dead.length dead)]) [true,false,true,true,true,true] 5 (by kernel_rfl) (by kernel_rfl) (by kernel_rfl) (by kernel_rfl) (by kernel_rfl) (by kernel_rfl) (by kernel_rfl) ?st (Rel.drew _ _) ?walk
     case st=>exact qk (by simp only[List.forall_mem_cons];exact⟨fun p=>QK (qek _ _ _ p),fun _ h=>by cases h⟩)
     case walk =>
      intro K hK
      dsimp only[qp,List.replicate]
      repeat ((first|(refine qe ?_ (by rfl) (by rfl) (fun W hW _=>⟨W,?_,Rel.refl _ W⟩) ?_;rotate_left;(go_simp<;>with_reducible rfl))|(refine qh (by rfl) ?_));try simp only[Act.put,qj,qf,qc,qg,Zk,zl,zj,jb,qc,zA,zB,zC])
      refine qy (outN w3.heap.size dead.length dead) (by rfl) (by rfl) (fun W hW _=>?_) (fun p=>?_)
      ·have hW:Ext w3 W:=hW
       refine Qg ?_ ((HI.out W hW).mono fun e w' h=>?_)
       ·go_simp
       obtain⟨u,rfl,hu,hB⟩:=h
       obtain⟨A',c',rfl,_,_⟩:=qv hu
       exact⟨(A',c'),rfl,⟨Zn.of_ownT hu,(Zm.of_own hu).mono hW.size⟩,hB⟩
      obtain⟨B5,d5⟩:=p
      simp only[Act.put,qj,qf,qc,qg,Zk,zl,zj,jb,qc,zA,zB,zC]
      repeat ((first|(refine qe ?_ (by rfl) (by rfl) (fun W hW _=>⟨W,?_,Rel.refl _ W⟩) ?_;rotate_left;(go_simp<;>with_reducible rfl))|(refine qh (by rfl) ?_));try simp only[Act.put,qj,qf,qc,qg,Zk,zl,zj,jb,qc,zA,zB,zC])
      refine qt (hK _ _ fun V hV hF=>?_)
      have hI:Zn (thaw V) V.heap.size (.slice B5 dead.length d5) dead∧Zm w3.heap.size (.slice B5 dead.length d5):=(hF 4).1
      clear hF hK gP gS HI
      have hV:Ext w3 V:=hV
      dsimp only[List.drop,List.length_cons,List.length_nil,Nat.reduceAdd,Nat.reduceSub]
      have rp4:=qb rp3 hV
      have ro4:=qb ro3 hV
      have kp4:=qa rp4
      have fp4:=qd rp4
      have zp4:w.heap.size<V.heap.size:=(zG.1 rp4).1
      replace hI:=zH hI
      clear rp3 ro3
      go_wp2
      refine Qm ?_
      generalize hw5:World.setCell (World.setCell (World.setCell (World.setCell (World.setCell (World.setCell V _ _) _ _) _ _) _ _) _ _) _ _=w5
      obtain⟨rp5,o5,z5,b5⟩:=set_pool rp4 hw5.symm
      clear hw5 kp4 fp4
      have ro5:=(o5 (w.heap.size+2) (by omega)).trans ro4
      have x5:Below w.heap.size w w5:=b5 (zM _) (x3.trans (Below.mono hV x3.size))
      have hzV:=hV.size
      have hk35:∀ k,w.heap.size<k→k<w3.heap.size→w5.heap[k]?=w3.heap[k]?:=fun k h1 h2=>(o5 k (by omega)).trans (hV.block k h2)
      have hst5:=(hns.out w5 (Jc fun k h1 h2=>hk35 k (by omega) h2)).more (show w3.heap.size≤w5.heap.size by omega)
      have hin5:Zn w5 w5.heap.size (.slice B5 dead.length d5) dead:=by
       rw[z5]
       exact hI.out.1.pos hI.out.2 fun q u h1 h2 h3=>(World.cell?_of_block (o5 q.block (by omega))).trans (TS h3).1
      have HCk:=zH (qga (some ⟨BB,0,none⟩) nb nb (some ⟨WW,0,none⟩) nw (nw+1) A3' nn c3' A4' nl c4' gen (r:Int) next B5 d5 S' dead w5 hst5 hin5)
      have kp5:=qa rp5
      replace hk35:=zH hk35
      clear hst5 hin5
      go_wp2_with fail
      refine HCk.out.mono ?_
      clear HCk
      rintro e w6 ⟨hB6,hQ6⟩
      have x6:Below w.heap.size w w6:=x5.trans (Below.mono hB6 x5.size)
      have rp6:=qb rp5 hB6
      have ro6:=qb ro5 hB6
      have ko6:=qa ro6
      have fo6:=qd ro6
      have zo6:w.heap.size+1+1<w6.heap.size:=(zG.1 ro6).1
      have h56:=zH (fun k (hk:k<w5.heap.size)=>Below.block hB6 k hk)
      have z56:=hB6.size
      clear hB6 rp4 ro4 kp5
      rcases hQ6 with ⟨rfl,hbad⟩|⟨rfl,vs',refs',nodes',hp',hc',he'⟩
      ·replace hbad:=zH hbad
       go_wp2_with fail
       exact KO (b:=w.heap.size+2) rfl rfl rfl (jj ro6 _ _ _ _ _ _ _ _) (hfin.out _ _ (QV x6 (by omega) _ _ _ _ _ _ _ _) (.inl ⟨8,by decide,rfl,.inr ⟨h0.out,.inr ⟨rfl,r,S',hq.out,hbad.out⟩⟩⟩))
      ·have hok:=zH (⟨refs',nodes',hp',hc',he'⟩:Ge S' (r:Int) next dead vs')
       have kp6:=qa rp6
       clear hp' hc' he'
       go_wp2_with fail
       refine KO (b:=w.heap.size+2) rfl rfl rfl (jj ro6 _ _ _ _ _ _ _ _) (hfin.out _ _ (QV x6 (by omega) _ _ _ _ _ _ _ _) (.inr ⟨r,S',vs',_,h0.out,hq.out,hok.out,rfl,?_⟩))
       refine⟨some ⟨BB,0,none⟩,nb,some ⟨WW,0,none⟩,nw+1,A3',c3',A4',c4',B5,d5,?_,fun C hC=>?_⟩
       ·rw[hlens.out.1,hlens.out.2.1,hlens.out.2.2.1,hlens.out.2.2.2]
       ·rw[hlens.out.1,hlens.out.2.1,hlens.out.2.2.1,hlens.out.2.2.2]
        rw[size8]
        have hs:=fun (k:Nat) (hk:k≠w.heap.size+2)=>ja (w:=w6) hk (.slice (some ⟨BB,0,none⟩) nb nb) (.slice (some ⟨WW,0,none⟩) nw (nw+1)) (.slice A3' nn c3') (.slice A4' nl c4') (.int .u32 gen) (.int .i64 (r:Int)) (.int .u32 next) (.slice B5 dead.length d5)
        have q1:=hns.out C fun q u h1 h2 h3=>hC q u (by omega) (by rw[size8];omega) ((jJ ((hs q.block (by omega)).trans ((h56.out q.block (by omega)).trans (hk35.out q.block (by omega) h2)))).trans h3)
        have q2:=hI.out.1.pos hI.out.2 (C:=C) fun q u h1 h2 h3=>hC q u (by omega) (by rw[size8];omega) ((jJ ((hs q.block (by omega)).trans ((h56.out q.block (by omega)).trans (o5 q.block (by omega))))).trans h3)
        exact⟨q1.more (by omega),q2.more (by omega)⟩
set_option maxRecDepth 100000 in
theorem qff (b lo:Nat) (A1:Option Addr) (n1 c1:Nat) (g c3:Nat) (A4:Option Addr) (c4:Nat) (bs:List (List UInt8)) (now last:List UInt8) (hn:now.length=256) (hl:last.length=256) (hn8:now[8]?=some 0) (hl8:last[8]?=some 0) (w:World) (hlo:lo≤b)
  (hr:w.heap[b]?=some (.cells #[.slice A1 n1 c1,.slice none 0 0,.slice (some ⟨g,0,none⟩) 256 c3,.slice A4 256 c4] 191 (0,0))) (ho:w.ownsRow lo 5 1 (.slice (some ⟨g,0,none⟩) 256 c3) 256 (now.map bv)) (hb:Bls w lo (.slice A1 n1 c1) bs) (ha:Bys w lo (.slice A4 256 c4) last) :
  Calls Tryz.prog 142 #[.pointer (some ⟨b,0,none⟩),jg 0 none 0 0] w (fun e W=>e=.returned (.tuple #[.int .i64 8,.int .i64 0])∧Below lo w W∧∃ A2 c2,W.heap[b]?=some (.cells #[.slice A1 n1 c1,.slice A2 1 c2,.slice (some ⟨g,0,none⟩) 256 c3,.slice A4 256 c4] 191 (0,0)) ∧
   qP W W.heap.size (.slice A1 n1 c1) (.slice A2 1 c2) (.slice (some ⟨g,0,none⟩) 256 c3) (.slice A4 256 c4) ⟨bs,[(8,jh (zP 0 []))],now.set 8 1,last⟩):=by
 have hkn:=(Zc ho).1 8 (by omega)
 rw[hn8] at hkn
 replace hkn:w.cell? ⟨g,8,none⟩=some (.int .u8 0):=hkn
 obtain⟨_,hfn,hlg,hzg⟩:=Zc ho
 obtain⟨A,c,e,hac,_,har⟩:=ha
 rw[hl] at e hac har
 simp only[Value.slice.injEq,true_and] at e
 obtain⟨rfl,rfl⟩:=e
 obtain⟨b4,o4,rfl,hb4,hc4⟩:=har.2 (by omega)
 have hk4:w.cell? ⟨b4,o4+8,none⟩=some (.int .u8 0):=hc4 8 (bv 0) (by rw[List.getElem?_map,hl8];rfl)
 have zb:b<w.heap.size:=(zG.1 hr).1
 have hW:=zH (fun W=>GK 0 none 0 0 [] W (Its.nil W W.heap.size) (by decide) (fun x hx=>by cases hx))
 go_enter Tryz.func142,Tryz.ntmps142
 go_wp2_with fail
 generalize hw1:World.alloc _ _=w1
 have x1:Ext w w1:=by rw[←hw1];exact zN _ _
 have p1:w1.heap[w.heap.size]?=some (.cells #[.int .i64 0,.slice none 0 0] 49 (0,0)):=by rw[←hw1];exact zI _ _ _ rfl
 clear hw1
 refine(hW.out w1).mono ?_
 rintro e w2 ⟨u,rfl,⟨u,rfl,⟨A0,c0,rfl,hu,hf⟩⟩,hB⟩
 have hB:Ext w1 w2:=hB
 have x2:Ext w w2:=x1.trans hB
 have p2:=qb p1 hB
 have r2:=qb hr x2
 have o2:=QP ho x2
 have kp:=qa p2
 have kr:=qa r2
 have fr:=qd r2
 have kn:w2.cell? ⟨g,8,none⟩=some (.int .u8 0):=Ext.cell x2 hkn
 have z2:=x2.size
 have z1:w.heap.size<w1.heap.size:=(zG.1 p1).1
 have z4:b4<w.heap.size:=by have:=World.block_lt_of_cell? w _ hk4;exact this
 have kl:w2.cell? ⟨b4,o4+8,none⟩=some (.int .u8 0):=Ext.cell x2 hk4
 clear hB x1 p1 hkn hk4 hc4 hW
 go_wp2_with fail
 go_loopw [21] (fun i wr=>i=.int .i64 0∧wr=w2) (fun _ _=>0)
 case atStart=>exact⟨rfl,rfl⟩
 case round =>
  obtain⟨rfl,hw⟩:=hrel
  replace hw:=hw.symm
  subst hw
  go_wp2_with fail
  go_loopw [4] (fun i W=>i=.int .i64 8∧Ext w2 W) (fun _ _=>0)
  case atStart=>exact⟨rfl,Ext.refl _⟩
  case round =>
   obtain⟨rfl,hE⟩:=hrel
   have g1:∀ W,ql.r wr W→∀ i,W.cell? ⟨b,i,none⟩=#[.slice A1 n1 c1,.slice none 0 0,.slice (some ⟨g,0,none⟩) 256 c3,.slice (some ⟨b4,o4,none⟩) 256 c4][i]?:=fun W h=>qa (qb (qb r2 hE) h)
   have g2:∀ W,ql.r wr W→W.cell? ⟨g,8,none⟩=some (.int .u8 0):=fun W h=>Ext.cell (hE.trans h) kn
   have g3:∀ W,ql.r wr W→W.cell? ⟨b4,o4+8,none⟩=some (.int .u8 0):=fun W h=>Ext.cell (hE.trans h) kl
   clear kp kr fr kn kl
   go_wp2_with fail
   refine qo (by kernel_rfl) ?_
   refine qO (w:=wr) ql (qF []) [true,true,true,true,true,true,true,true,true,true,true,true,true,true,true,true,true,true,true,true,true,true] 0 (by kernel_rfl) (by kernel_rfl) (by kernel_rfl) (by kernel_rfl) (by kernel_rfl) (by kernel_rfl) (by kernel_rfl) ?st (Rel.drew _ _) ?walk
   case st=>exact qk (fun _ h=>by cases h)
   case walk =>
    intro K hK
    dsimp only[qp]
    repeat ((first|(refine qe ?_ (by rfl) (by rfl) (fun W hW _=>⟨W,?_,Rel.refl _ W⟩) ?_;rotate_left;(go_simp<;>with_reducible rfl))|(refine qh (by rfl) ?_));try simp only[Act.put,qj,qf,qc,qg,QX,zA,zB,zC])
    refine qt (hK _ _ fun W hW hF=>?_)
    have hW:Ext wr W:=hW
    have x3:Ext w2 W:=hE.trans hW
    clear hF hK g1 g2 g3 hE hW
    dsimp only[List.drop,List.length_cons,List.length_nil]
    have r3:=qb r2 x3
    have o3:=QP o2 x3
    have kr:=qa r3
    have fr:=qd r3
    obtain⟨i0,hi,hz0,hz1,hz2⟩:=info_parts Tryz.info_write
    have z3:=x3.size
    have hu3:=(hu.below x3).more x3.size
    have xw3:Ext w W:=x2.trans x3
    have x2z:=x2.size
    clear r2 o2 x2 x3 hu p2
    replace o3:=zH o3
    replace hu3:=zH hu3
    go_wp2
    refine Qm ?_
    go_wp2_with (at_builtin;refine qZ ?_)
    refine Qy.go (ZM _ rfl (.tmp 78) (.tmp 82) 23 rfl W.heap.size 130 i0 (.agg #[.int .i64 0,.slice none 0 0]) 2 32 Tryz.underlying23 hi hz0 hz1 hz2 rfl (by decide) _ 0 [] rfl (World.ownsRow_nil _ _ _ _) #[.int .i64 8,.slice A0 128 c0] rfl rfl (by simp[Value.oneCell']) (by omega) (by decide) (zM _) ?_)
    intro v4 w4 own4 _ hB4 _
    have hB4:Ext W w4:=hB4
    simp only[Nat.zero_add,List.nil_append] at own4
    obtain⟨A2,c2,rfl,hc21,hc22⟩:=qv own4
    have r4:=qb r3 hB4
    have kr4:=qa r4
    have fr4:=qd r4
    have o4':=QP o3.out hB4
    have z5:=hB4.size
    have kg:=(Zc o4').1 8 (by omega)
    have fg:=(Zc o4').2.1 8
    have hlt:=QR own4
    have hbg:g≠b:=by
     intro e
     subst e
     obtain⟨_,h2⟩:=o4'
     rcases h2 with ⟨e,_⟩|⟨g',cap,cur,e,_,hr',_⟩
     ·cases e
     ·cases e
      exact qJ hr' r4 (by decide) rfl
    have z6:b<w2.heap.size:=by have:=x2z;omega
    replace own4:=zH own4
    replace o4':=zH o4'
    have hf1:=hf.mono (lo':=w.heap.size) (by omega)
    clear r3 kr fr hc21 hc22
    go_wp2_with fail
    have st:∀ q,q≠b→q≠g→((w4.setCell ⟨b,1,none⟩ (.slice A2 1 c2)).setCell ⟨g,8,none⟩ (.int .u8 1)).heap[q]?=w4.heap[q]?:=fun q h1 h2=>(zJ _ _ _ _ h2).trans (zJ _ _ _ _ h1)
    have xw4:Ext w w4:=xw3.trans hB4
    have hB:Below lo w ((w4.setCell ⟨b,1,none⟩ (.slice A2 1 c2)).setCell ⟨g,8,none⟩ (.int .u8 1)):=Below.setCell (Below.setCell (Below.mono xw4 (by omega)) (p:=⟨b,1,none⟩) hlo _) (p:=⟨g,8,none⟩) hlg _
    have rf:=qi r4 1 (.slice A2 1 c2)
    have rf2:=(zJ (w4.setCell ⟨b,1,none⟩ (.slice A2 1 c2)) ⟨g,8,none⟩ (.int .u8 1) b (fun e=>hbg e.symm)).trans rf
    have of4:=UY (qel (k:=1) (v:=.slice A2 1 c2) o4'.out hbg) (k:=8) (by omega) 1
    have hz:((w4.setCell ⟨b,1,none⟩ (.slice A2 1 c2)).setCell ⟨g,8,none⟩ (.int .u8 1)).heap.size=w4.heap.size:=by simp
    have hlt2:=hlt
    have ow:=Zi (w':=(w4.setCell ⟨b,1,none⟩ (.slice A2 1 c2)).setCell ⟨g,8,none⟩ (.int .u8 1)) own4.out (fun q h1 _=>st q (by omega) (by omega))
    have hu4:Bys ((w4.setCell ⟨b,1,none⟩ (.slice A2 1 c2)).setCell ⟨g,8,none⟩ (.int .u8 1)) w4.heap.size (.slice A0 128 c0) (jh (zP 0 [])):=(((hu3.out.below hB4).more hB4.size).setCell hf1 (p:=⟨b,1,none⟩) zb _).setCell hf1 (p:=⟨g,8,none⟩) hzg _
    have hsl:(jh (zP 0 [])).length=128:=vK (by decide)
    refine bodyPost_ret (v:=.tuple #[.int .i64 8,.int .i64 0]) (by simp[results,Tryz.results142,go_sem]) rfl ⟨rfl,hB,A2,c2,rf2,⟨?_,?_,?_,?_⟩⟩
    ·exact(hb.below hB).more (by omega)
    ·rw[hz]
     refine⟨[((8,jh (zP 0 [])),.slice A0 128 c0)],rfl,?_,?_⟩
     ·obtain⟨A',c',e,q1,q2⟩:=qv ow
      cases e
      exact⟨A2,c2,rfl,q1,q2,by have:=Rd.of_own ow;rw[hz] at this;exact this⟩
     ·intro p hp
      simp only[List.mem_singleton] at hp
      subst hp
      exact⟨⟨A0,c0,by rw[hsl]⟩,hu4⟩
    ·exact Bys.of_own of4
    ·have e1:Bys w lo (.slice (some ⟨b4,o4,none⟩) 256 c4) last:=⟨_,c4,by rw[hl],by omega,by assumption,by rw[hl];exact har⟩
     exact(e1.below hB).more (by omega)
end Go.Proofs.YtpbniokljofedaaGreat
