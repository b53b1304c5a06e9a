/- Texts PutM, Late, FSet, PoolC, Alive14W, joined. -/
import Derived.Test.YtpbniokljofedaaGreatZA04
import Derived.Test.YtpbniokljofedaaGreatZA16
import Derived.Test.YtpbniokljofedaaGreatZA20
import Derived.Test.YtpbniokljofedaaGreatZA23
import Derived.Test.YtpbniokljofedaaGreatZA26
set_option linter.unusedSimpArgs false
set_option linter.unusedVariables false
namespace Go.Proofs.YtpbniokljofedaaGreat
open Go.RowKit
def UpOk (y:It):Prop:=ZL y∧(y.r=0∨8≤y.r)∧y.r<256
theorem replL_ok {ys up:List It} {p m:Nat} (h1:∀ y∈ys,ZL y) (h2:∀ y∈up,ZL y):∀ y∈VH ys p m up,ZL y:=fun y hy=>by
 unfold VH at hy
 rcases List.mem_append.1 hy with hy|hy
 ·rcases List.mem_append.1 hy with hy|hy
  ·exact h1 y (List.mem_of_mem_take hy)
  ·exact h2 y hy
 ·exact h1 y (List.mem_of_mem_drop hy)
theorem Gh {k:K3}:∀ {ps:List Stp} {up up':List It} {S S':Sto},(∀ s∈ps,qax k s)→(∀ y∈up,UpOk y)→qo S=true→ZQ k ps up S=.ok (up',S')→qo S'=true∧(∀ y∈up',UpOk y)∧(ps≠[]→0<up'.length∧up'.length≤2∧∀ y∈up',8≤y.r∧y.val=[])
 | [],up,up',S,S',_,hu,hS,e=>by
  cases e
  exact⟨hS,hu,fun h=>absurd rfl h⟩
 |(lvl,xs,p) :: ps,up,up',S,S',hw,hu,hS,e=>by
  have hw0:=hw _ List.mem_cons_self
  simp only[ZQ] at e
  split at e
  ·cases e
  ·rename_i up1 S1 e1
   obtain⟨h1,h2,h3⟩:=Vp (replL_ok (fun y hy=>(hw0.its y hy).1) fun y hy=>(hu y hy).1) (fun y hy=>(hu y hy).2) hS e1
   have hu1:∀ y∈up1,UpOk y:=fun y hy=>⟨(h3 y hy).1,.inr (h3 y hy).2.1.1,(h3 y hy).2.1.2⟩
   obtain⟨g1,g2,g3⟩:=Gh (fun s hs=>hw s (List.mem_cons_of_mem _ hs)) hu1 h1 e
   refine⟨g1,g2,fun _=>?_⟩
   by_cases hp:ps=[]
   ·subst hp
    cases e
    exact⟨h2.1,h2.2,fun y hy=>⟨(h3 y hy).2.1.1,(h3 y hy).2.2⟩⟩
   ·exact g3 hp
theorem askP_up {S:Sto} {x:It} (hx:ZL x) (h:YK S x=0):UpOk x:=by
 unfold YK at h
 split at h
 ·rename_i h1
  unfold itB at h1
  simp only[decide_eq_true_eq] at h1
  have:=hx.2.2.2.1
  exact⟨hx,by omega,by omega⟩
 ·cases h
theorem preX_may {S S2:Sto} {lvl a:Nat} {xs up:List It} {x:It} (hS:qo S=true) (hn:qu S a=some ((lvl:Int),xs)) (hsp:(qT S lvl xs).isSome=true) (hx:UpOk x) (e:Vl S lvl xs x=.ok (up,S2)):qo S2=true∧0<up.length∧∀ y∈up,UpOk y∧8≤y.r:=by
 have hwl:=GM (k:=qM x) lvl (Qa hn).1 hsp
 unfold Vl at e
 split at e
 ·cases e
 ·split at e
  ·cases e
  ·rename_i up1 S1 e1
   obtain⟨h1,h2,h3⟩:=Gh (fun s hs=>qcr lvl hn hsp s (List.mem_reverse.1 hs)) (fun y hy=>by rw[List.mem_singleton.1 hy];exact hx) hS e1
   obtain⟨h4,h5,h6⟩:=h3 (fun e=>by have:=congrArg List.length e;simp[hwl] at this)
   split at e
   ·obtain⟨k1,k2,k3⟩:=Vp (fun y hy=>(h2 y hy).1) (fun y hy=>(h2 y hy).2) h1 e
    exact⟨k1,k2.1,fun y hy=>⟨⟨(k3 y hy).1,.inr (k3 y hy).2.1.1,(k3 y hy).2.1.2⟩,(k3 y hy).2.1.1⟩⟩
   ·cases e
    exact⟨h1,h4,fun y hy=>⟨h2 y hy,(h6 y hy).1⟩⟩
theorem putY_may {S S':Sto} {lvl a r:Nat} {xs:List It} {x:It} (hS:qo S=true) (ha:8≤a) (hn:qu S a=some ((lvl:Int),xs)) (hsp:(qT S lvl xs).isSome=true) (hx:ZL x) (e:XI S lvl xs a x=.ok (r,S')):qo S'=true∧8≤r∧r<256:=by
 unfold XI at e
 split at e
 ·rename_i h0
  rw[GE] at e
  split at e
  ·cases e
  ·rename_i up S2 e2
   obtain⟨h1,h2,h3⟩:=preX_may hS hn hsp (askP_up hx h0) e2
   split at e
   ·cases e
   ·rename_i t ht
    simp only[Except.ok.injEq,Prod.mk.injEq] at e
    obtain⟨rfl,rfl⟩:=e
    obtain⟨y,ys,rfl⟩:∃ y ys,up=y :: ys:=by
     cases up with
     |nil=>simp at h2
     |cons y ys=>exact⟨y,ys,rfl⟩
    obtain⟨h4,h5⟩:=h3 y List.mem_cons_self
    have h6:=h4.2.2
    exact⟨XX h1 (Tk ha (Qr.1 h1).2.1 ht),by simp only[Vt];omega,by simp only[Vt];omega⟩
 ·cases e
theorem UU {k:K3}:∀ {ps:List Stp} {up:List It} {S:Sto} {e:Int},ZQ k ps up S=.error e→e≠0
 | [],up,S,e,h=>by cases h
 |(lvl,xs,p) :: ps,up,S,e,h=>by
  simp only[ZQ] at h
  split at h
  ·rename_i e1 h1
   cases h
   exact Vv h1
  ·exact UU h
theorem preX_err {S:Sto} {lvl:Nat} {xs:List It} {x:It} {e:Int} (h:Vl S lvl xs x=.error e):e≠0:=by
 unfold Vl at h
 split at h
 ·cases h;decide
 ·split at h
  ·rename_i e1 h1
   cases h
   exact UU h1
  ·split at h
   ·exact Vv h
   ·cases h
theorem putY_err {S:Sto} {lvl a:Nat} {xs:List It} {x:It} {e:Int} (h:XI S lvl xs a x=.error e):e≠0:=by
 unfold XI at h
 split at h
 ·rw[GE] at h
  split at h
  ·rename_i e1 h1
   cases h
   exact preX_err h1
  ·split at h
   ·cases h;decide
   ·cases h
 ·rename_i h0
  cases h
  exact h0
def ZY:List Oper→Nat→Nat→List Oper
 | [],_,_=>[]
 |o :: l,0,z=>{ o with after:=o.after.push { on:=z,ground:=.data } } :: l
 |o :: l,j+1,z=>o :: ZY l j z
theorem JD:∀ (l:List Oper) (j z i:Nat),(ZY l j z)[i]?=if i=j then (l[i]?).map (fun o=>{ o with after:=o.after.push { on:=z,ground:=.data } }) else l[i]?
 | [],j,z,i=>by simp[ZY]
 |o :: l,0,z,i=>by
  cases i with
  |zero=>simp[ZY]
  |succ i=>simp[ZY]
 |o :: l,j+1,z,i=>by
  cases i with
  |zero=>simp[ZY]
  |succ i =>
   simp only[ZY,List.getElem?_cons_succ]
   rw[JD l j z i]
   by_cases h:i=j
   ·subst h;simp
   ·rw[if_neg h,if_neg (by omega)]
theorem Yt {l:List Oper} {j z i:Nat} (h:i≠j):(ZY l j z).toArray[i]?=l.toArray[i]?:=by
 simp only[List.getElem?_toArray]
 rw[JD,if_neg h]
theorem qaG {l:List Oper} {j z:Nat} {o:Oper} (h:l.toArray[j]?=some o):(ZY l j z).toArray[j]?=some { o with after:=o.after.push { on:=z,ground:=.data } }:=by
 simp only[List.getElem?_toArray] at h ⊢
 rw[JD,if_pos rfl,h]
 rfl
theorem ZH {l:List Oper} {j z i:Nat} {listed:Array Bool}:i∈Region.ready .any (ZY l j z).toArray listed↔i∈Region.ready .any l.toArray listed∧(i=j→listed.getD z false=true):=by
 rw[mem_ready,mem_ready]
 by_cases h:i=j
 ·subst h
  constructor
  ·rintro ⟨h0,o,ho,ha⟩
   obtain⟨o',ho',rfl⟩:∃ o',l.toArray[i]?=some o'∧o={ o' with after:=o'.after.push { on:=z,ground:=.data } }:=by
    simp only[List.getElem?_toArray] at ho ⊢
    rw[JD,if_pos rfl] at ho
    rcases hq:l[i]? with _|o'
    ·rw[hq] at ho;cases ho
    ·rw[hq] at ho;cases ho;exact⟨o',rfl,rfl⟩
   refine⟨⟨h0,o',ho',fun e he hb=>ha e ?_ hb⟩,fun _=>ha { on:=z,ground:=.data } ?_ rfl⟩
   ·show e∈o'.after.push _
    exact Array.mem_push_of_mem _ he
   ·show _∈o'.after.push _
    exact Array.mem_push_self
  ·rintro ⟨⟨h0,o,ho,ha⟩,hz⟩
   refine⟨h0,_,qaG ho,fun e he hb=>?_⟩
   have he:e∈o.after.push { on:=z,ground:=.data }:=he
   rcases Array.mem_push.1 he with he|rfl
   ·exact ha e he hb
   ·exact hz rfl
 ·rw[Yt h]
  exact⟨fun ⟨h0,o,ho,ha⟩=>⟨⟨h0,o,ho,ha⟩,fun e=>absurd e h⟩,fun ⟨h0,_⟩=>h0⟩
theorem KX (l:List Oper) (j z:Nat) (t:Array Value):yielded (ZY l j z).toArray t=yielded l.toArray t:=by
 funext i
 unfold yielded
 by_cases h:i=j
 ·subst h
  simp only[List.getElem?_toArray]
  rw[JD,if_pos rfl]
  cases l[i]? <;> rfl
 ·rw[Yt h]
theorem Gp {oz:Oper} {src:Operand} {k:Nat} (hop:oz.op=.extract src k) (ev:Operand→Value) (P:Program):(∃ v,∀ W,(execOp ev oz).run P W=.ok (.value v) W)∨(∀ W,∃ s,(execOp ev oz).run P W=.halt (.stuck s) W):=by
 unfold execOp
 rw[hop]
 simp only[Instr.extract]
 split
 ·split
  ·rename_i v _
   exact .inl ⟨v,fun W=>rfl⟩
  ·exact .inr fun W=>⟨_,rfl⟩
 ·exact .inr fun W=>⟨_,rfl⟩
def lateB (ops:Array Oper) (j z:Nat):Bool:=match ops[z]? with
 |none=>false
 |some oz=>(qz oz).all (fun k=>waits ops 9 j k) && (List.range ops.size).all fun i=>i == z || waits ops 9 z i || match ops[i]? with
  |some oi=>oi.after.any (fun e=>Region.binds .any e && e.on == z) || oz.apart ops oi
  |none=>true
section
variable {P:Program} {l:List Oper} {Q:Exit→Act→World→Prop}
theorem qec {j z i:Nat} {K K':Act→World→Prop} {a:Act} {W:World} (hK:∀ a w,K a w→K' a w) (h:wpOp P (ZY l j z).toArray (QN Q) i K a W):wpOp P l.toArray (QN Q) i K' a W:=by
 refine wpOp_mono hK ?_
 unfold wpOp at h ⊢
 rw[KX] at h
 by_cases hi:i=j
 ·subst hi
  rcases ho:l.toArray[i]? with _|o
  ·have:(ZY l i z).toArray[i]?=none:=by
    simp only[List.getElem?_toArray] at ho ⊢
    rw[JD,if_pos rfl,ho];rfl
   rw[this] at h
   exact h
  ·rw[qaG ho] at h
   exact h
 ·rw[Yt hi] at h
  exact h
theorem qbZ {ops:Array Oper} {j z:Nat} {oz:Oper} (hz:ops[z]?=some oz) (h:lateB ops j z=true):(∀ k∈qz oz,waits ops 9 j k=true)∧∀ (i:Nat) (oi:Oper),ops[i]?=some oi→i≠z→waits ops 9 z i=true∨(∃ e∈oi.after,Region.binds .any e=true∧e.on=z)∨oz.apart ops oi=true:=by
 unfold lateB at h
 rw[hz] at h
 simp only[Bool.and_eq_true] at h
 refine⟨fun k hk=>List.all_eq_true.1 h.1 k hk,fun i oi hi hiz=>?_⟩
 have h1:=List.all_eq_true.1 h.2 i (List.mem_range.2 (zG.1 hi).1)
 rw[hi] at h1
 simp only[Bool.or_eq_true,beq_iff_eq,hiz,false_or] at h1
 rcases h1 with h1|h1|h1
 ·exact .inl h1
 ·rw[←Array.any_toList] at h1
  obtain⟨e,he,h2⟩:=List.any_eq_true.1 h1
  replace he:e∈oi.after:=by simpa using he
  simp only[Bool.and_eq_true,beq_iff_eq] at h2
  exact .inr (.inl ⟨e,he,h2⟩)
 ·exact .inr (.inr h1)
theorem qcM {j z:Nat} {oz:Oper} {src:Operand} {k:Nat} (hz:l.toArray[z]?=some oz) (hjz:j≠z) (hop:oz.op=.extract src k) (hg:oz.guard=none) (hs:Region.noSelect l.toArray=true) (hB:lateB l.toArray j z=true) :
  ∀ (fuel:Nat) (listed:Array Bool) (a:Act) (W:World),VU l.toArray listed→listed.size=l.length→wpAny P .any (ZY l j z).toArray (QN Q) fuel listed a W→wpAny P .any l.toArray (QN Q) fuel listed a W:=by
 obtain⟨hB1,hB2⟩:=qbZ hz hB
 have hzl:z<l.length:=by simpa using (zG.1 hz).1
 have zr:∀ listed:Array Bool,VU l.toArray listed→listed.size=l.length→j∈Region.ready .any l.toArray listed→¬listed.getD z false=true→z∈Region.ready .any l.toArray listed:=fun listed hc hsz hj hzu=>by
  refine mem_ready.2 ⟨?_,oz,hz,fun e he hb=>?_⟩
  ·have hlt:z<listed.size:=by omega
   simp only[Array.getD_eq_getD_getElem?,Array.getElem?_eq_getElem hlt,Option.getD_some] at hzu ⊢
   simpa using hzu
  ·have hk:e.on∈qz oz:=List.mem_map.2 ⟨e,by rw[List.mem_filter];exact⟨by simpa using he,hb⟩,rfl⟩
   exact Jw hc 9 j e.on (fun o ho=>vF hj ho) (hB1 _ hk)
 intro fuel
 induction fuel with
 |zero =>
  intro listed a W hc hsz h
  refine⟨?_,h.2⟩
  refine Classical.byContradiction fun hne=>?_
  obtain⟨i,hi⟩:=List.exists_mem_of_ne_nil _ hne
  have hno:∀ i,i∉Region.ready .any (ZY l j z).toArray listed:=fun i hi=>by rw[h.1] at hi;cases hi
  by_cases hij:i=j
  ·subst hij
   by_cases hzu:listed.getD z false=true
   ·exact hno i (ZH.2 ⟨hi,fun _=>hzu⟩)
   ·exact hno z (ZH.2 ⟨zr listed hc hsz hi hzu,fun e=>absurd e.symm hjz⟩)
  ·exact hno i (ZH.2 ⟨hi,fun e=>absurd e hij⟩)
 |succ fuel ih =>
  intro listed a W hc hsz h
  refine⟨fun h0=>h.1 ?_,fun i hi=>?_⟩
  ·refine List.eq_nil_iff_forall_not_mem.2 fun i hi=>?_
   have:=(ZH.1 hi).1
   rw[h0] at this
   cases this
  ·have key:∀ i,i∈Region.ready .any (ZY l j z).toArray listed→wpOp P l.toArray (QN Q) i (wpAny P .any l.toArray (QN Q) fuel (listed.setIfInBounds i true)) a W:=fun i hi =>
    qec (fun a w hw=>ih _ a w (hc.step (ZH.1 hi).1) (by simpa using hsz) hw) (h.2 i hi)
   by_cases hlate:i=j∧¬listed.getD z false=true
   ·obtain⟨rfl,hzu⟩:=hlate
    have hzr:=zr listed hc hsz hi hzu
    have h1:=h.2 z (ZH.2 ⟨hzr,fun e=>absurd e.symm hjz⟩)
    have hw:∀ t,Region.wanted oz (yielded l.toArray t)=true:=fun t=>by unfold Region.wanted;rw[hg]
    unfold wpOp at h1
    rw[Yt (fun e=>hjz e.symm),hz] at h1
    simp only[KX,hw,if_true] at h1
    rcases h1 with h1|⟨_,h1⟩
    ·unfold Oper.wp at h1
     rcases Gp hop a.eval P with ⟨v,hv⟩|hst
     ·rw[hv] at h1
      have h2:=ih _ _ W (hc.step hzr) (by simpa using hsz) h1
      have h3:=Tn (Q:=Q) (v:=v) hz (Region.noSelect_spec hs) fuel listed a W (fun j' oj' hoj' hjz' hun hno=>by
       rcases hB2 j' oj' hoj' hjz' with hwt|⟨e,he,hb,heq⟩|hap
       ·exfalso
        have:=Jw hc 9 z j' (fun o ho=>vF hzr ho) hwt
        rcases Nat.lt_or_ge j' listed.size with h'|h'
        ·simp[h'] at hun this
         rw[hun] at this;cases this
        ·simp[Array.getElem?_eq_none h'] at this
       ·exact absurd heq (hno e he hb)
       ·exact hap) hzr (hw _) hv h2
      exact h3.2 i hi
     ·obtain⟨s,hs2⟩:=hst W
      rw[hs2] at h1
      exact False.elim h1
    ·exact absurd h1 jV
   ·exact key i (ZH.2 ⟨hi,fun e=>Classical.byContradiction fun hn=>hlate ⟨e,hn⟩⟩)
theorem Yg {listed:Array Bool} {a:Act} {W:World} {fuel:Nat} (j z:Nat) {oz:Oper} {src:Operand} {k:Nat} (hz:l.toArray[z]?=some oz) (hjz:(j == z)=false) (hop:oz.op=.extract src k) (hg:oz.guard=none) (hs:Region.noSelect l.toArray=true) (hB:lateB l.toArray j z=true)
  (hc:Yz l.toArray listed=true) (hsz:(listed.size == l.length)=true) (h:wpAny P .any (ZY l j z).toArray (QN Q) fuel listed a W):wpAny P .any l.toArray (QN Q) fuel listed a W:=
 qcM hz (by simpa using hjz) hop hg hs hB fuel listed a W (Jo hc) (by simpa using hsz) h
end
def Ki (v:Vol):It:=⟨1,v.id,0,0,Qk v⟩
theorem volIt_ok {v:Vol} (h:qaZ v):ZL (Ki v):=by
 have:=Jt v
 exact⟨⟨(by decide:(0:Int)≤1),(by decide:(1:Int)<256)⟩,h.1,⟨(by decide:(0:Int)≤0),(by decide:(0:Int)<4294967296)⟩,⟨(by decide:(0:Int)≤0),(by decide:(0:Int)<256)⟩,by show (Qk v).length≤12;omega⟩
def setE (S:Sto) (root:Int) (v:Vol):Except Int (Nat×Sto):=match qu S root.toNat with
 |none=>.error 8
 |some (lvl,xs)=>XI S lvl.toNat xs root.toNat (Ki v)
def SetQ (S:Sto) (gen root next:Int) (dead:List Int) (v:Vol) (w:World) (e:Ending) (w':World):Prop:=Below w.heap.size w w' ∧
 ((e=.returned (.tuple #[pool0,.int .i64 8])∧vH S root next dead)∨∃ vs refs nodes,QT S root next dead vs∧qU S (QI root dead vs) refs nodes∧zQ S refs ∧
  ((∃ er,er≠0∧e=.returned (.tuple #[pool0,.int .i64 er])∧(ZS S next v vs refs=er∨(ZS S next v vs refs=0∧(setE S root v=.error er∨(er=8∧∃ r S',setE S root v=.ok (r,S')∧vH S' (r:Int) next dead))))) ∨
   ∃ r S' vs' u,ZS S next v vs refs=0∧setE S root v=.ok (r,S')∧PoolOk S' (r:Int) next dead vs'∧e=.returned (.tuple #[u,.int .i64 0])∧Ym w.heap.size S' gen (r:Int) next dead u w'))
def qai (lo:Nat) (S:Sto) (r:Nat):qO:=⟨(Nat×Nat)×(Option Addr×Nat)×(Option Addr×Nat),fun p=>.tuple #[Qd (some ⟨p.1.1,0,none⟩) S.bs.length S.bs.length (some ⟨p.1.2,0,none⟩) S.ws.length (S.ws.length+1) p.2.1.1 S.now.length p.2.1.2 p.2.2.1 S.last.length p.2.2.2,.int .i64 (r:Int),.int .i64 0],
 fun p W=>QH lo S (Qd (some ⟨p.1.1,0,none⟩) S.bs.length S.bs.length (some ⟨p.1.2,0,none⟩) S.ws.length (S.ws.length+1) p.2.1.1 S.now.length p.2.1.2 p.2.2.1 S.last.length p.2.2.2) W⟩
theorem QK (lo:Nat) (S:Sto) (r b c:Nat) (A3:Option Addr) (c3:Nat) (A4:Option Addr) (c4:Nat):(qai lo S r).f ((b,c),(A3,c3),(A4,c4))=.tuple #[Qd (some ⟨b,0,none⟩) S.bs.length S.bs.length (some ⟨c,0,none⟩) S.ws.length (S.ws.length+1) A3 S.now.length c3 A4 S.last.length c4,.int .i64 (r:Int),.int .i64 0]:=rfl
theorem UH (lo:Nat) (S:Sto) (r:Nat):∀ p,qA ql ((qai lo S r).φ p):=fun p W W' he h=>by
 have he:Ext W W':=he
 exact QH.keep h (Nat.le_refl _) he.size fun b _ hb=>he.block b hb
def Gr (e:Int):qO:=⟨Unit,fun _=>.tuple #[Qd none 0 0 none 0 0 none 0 0 none 0 0,.int .i64 0,.int .i64 e],fun _ _=>True⟩
theorem QL (e:Int) (u:Unit):(Gr e).f u=.tuple #[Qd none 0 0 none 0 0 none 0 0 none 0 0,.int .i64 0,.int .i64 e]:=rfl
theorem UF (e:Int):∀ p,qA ql ((Gr e).φ p):=fun _ _ _ _ _=>trivial
theorem qat {W C:World} {b:Nat} {ty:TypeId} {u0 u1 u2 u3 x0 x1 x2 x3:Value} (h:W.heap[b]?=some (.cells #[u0,u1,u2,u3] ty (0,0))) (hC:C=(((W.setCell ⟨b,0,none⟩ x0).setCell ⟨b,1,none⟩ x1).setCell ⟨b,2,none⟩ x2).setCell ⟨b,3,none⟩ x3) :
  C.heap[b]?=some (.cells #[x0,x1,x2,x3] ty (0,0))∧(∀ k,k≠b→C.heap[k]?=W.heap[k]?)∧C.heap.size=W.heap.size∧∀ {B:Nat} {w0:World},B≤b→Below B w0 W→Below B w0 C:=by
 subst hC
 exact⟨Uc h _ _ _ _,fun k hk=>(Below.heap_setCell _ _ _ _ hk).trans ((Below.heap_setCell _ _ _ _ hk).trans ((Below.heap_setCell _ _ _ _ hk).trans (Below.heap_setCell _ _ _ _ hk))),by simp,fun hb h0=>jD h0 hb _ _ _ _⟩
theorem set_pool {W C:World} {b:Nat} {ty:TypeId} {u0 u1 u2 u3 u4 u5 u6 u7 x0 x1 x2 x3 x5 x7:Value} (h:W.heap[b]?=some (.cells #[u0,u1,u2,u3,u4,u5,u6,u7] ty (0,0))) (hC:C=(((((W.setCell ⟨b,0,none⟩ x0).setCell ⟨b,1,none⟩ x1).setCell ⟨b,2,none⟩ x2).setCell ⟨b,3,none⟩ x3).setCell ⟨b,5,none⟩ x5).setCell ⟨b,7,none⟩ x7) :
  C.heap[b]?=some (.cells #[x0,x1,x2,x3,u4,x5,u6,x7] ty (0,0))∧(∀ k,k≠b→C.heap[k]?=W.heap[k]?)∧C.heap.size=W.heap.size∧∀ {B:Nat} {w0:World},B≤b→Below B w0 W→Below B w0 C:=by
 subst hC
 refine⟨?_,fun k hk=>?_,by simp,fun hb h0=>Below.setCell (Below.setCell (jD h0 hb _ _ _ _) (p:=⟨b,5,none⟩) hb _) (p:=⟨b,7,none⟩) hb _⟩
 ·exact qj (qj (qj (qj (qj (qj h 0 x0) 1 x1) 2 x2) 3 x3) 5 x5) 7 x7
 ·rw[Below.heap_setCell _ _ _ _ hk,Below.heap_setCell _ _ _ _ hk,Below.heap_setCell _ _ _ _ hk,Below.heap_setCell _ _ _ _ hk,Below.heap_setCell _ _ _ _ hk,Below.heap_setCell _ _ _ _ hk]
theorem UJ {lo:Nat} {S:Sto} {A1:Option Addr} {n1 c1:Nat} {A2:Option Addr} {n2 c2:Nat} {A3:Option Addr} {n3 c3:Nat} {A4:Option Addr} {n4 c4:Nat} {W:World} (h:TV lo S (Qd A1 n1 c1 A2 n2 c2 A3 n3 c3 A4 n4 c4) W):∀ C:World,PosZ lo W C→Qc C W.heap.size (.slice A1 n1 c1) (.slice A2 n2 c2) (.slice A3 n3 c3) (.slice A4 n4 c4) S:=by
 obtain⟨B1,d1,B2,d2,B3,d3,B4,d4,e,hc⟩:=h
 simp only[Value.agg.injEq,Array.mk.injEq,List.cons.injEq,Value.slice.injEq,and_true] at e
 obtain⟨⟨rfl,rfl,rfl⟩,⟨rfl,rfl,rfl⟩,⟨rfl,rfl,rfl⟩,⟨rfl,rfl,rfl⟩⟩:=e
 exact hc
theorem size8 {w:World} {b:Nat} {x0 x1 x2 x3 x4 x5 x6 x7:Value}:((((((((w.setCell ⟨b,0,none⟩ x0).setCell ⟨b,1,none⟩ x1).setCell ⟨b,2,none⟩ x2).setCell ⟨b,3,none⟩ x3).setCell ⟨b,4,none⟩ x4).setCell ⟨b,5,none⟩ x5).setCell ⟨b,6,none⟩ x6).setCell ⟨b,7,none⟩ x7).heap.size=w.heap.size:=by simp
theorem outIFs {lo:Nat} {k i o r:Int} {n:Nat} {l:List UInt8}:∀ p,Qx ((UQ lo k i o r n l).φ p):=fun p W W' he h=>⟨(h.1.below he).more he.size,h.2⟩
theorem VX {R:Ending→World→Prop} {a:Act} {W:World} {b:Nat} {x0 x1 x2 x3 x4 x5 x6 x7 v:Value} (h4:a.tmps[4]?.getD undef=.pointer (some ⟨b,0,none⟩)) (h5:a.tmps[5]?.getD undef=v) (hd:a.defers=[])
  (hrow:W.heap[b]?=some (.cells #[x0,x1,x2,x3,x4,x5,x6,x7] 32 (0,0))) (hR:R (.returned (.tuple #[.agg #[x0,x1,x2,x3,x4,x5,x6,x7],v])) W):bodyPost Tryz.prog Tryz.f24 R .ret a W:=by
 refine bodyPost_ret (v:=.tuple #[.agg #[x0,x1,x2,x3,x4,x5,x6,x7],v]) ?_ hd hR
 have k:=qa hrow
 simp[results,Tryz.results24,go_sem,h4,h5,k]
set_option maxHeartbeats 8000000 in
set_option maxRecDepth 100000 in
theorem fset_any (A1:Option Addr) (n1 c1:Nat) (A2:Option Addr) (n2 c2:Nat) (A3:Option Addr) (n3 c3:Nat) (A4:Option Addr) (n4 c4:Nat) (gen root next:Int) (A5:Option Addr) (c5:Nat) (S:Sto) (dead:List Int) (v:Vol) (hv:qaZ v)
  (hT:8≤v.root→v.root<256→Zx S v.root.toNat≠0→okL S (-1) v.root=true)
  (hLv:∀ lvl xs,qu S root.toNat=some (lvl,xs)→∀ up S2,Vl S lvl.toNat xs (Ki v)=.ok (up,S2)→∀ l ys,qu S2 root.toNat=some (l,ys)→l=0) (w:World)
  (h:Qc w w.heap.size (.slice A1 n1 c1) (.slice A2 n2 c2) (.slice A3 n3 c3) (.slice A4 n4 c4) S) (hd:Zu w w.heap.size (.slice A5 dead.length c5) dead) :
  Calls Tryz.prog 24 #[.agg (Qo (.slice A1 n1 c1) (.slice A2 n2 c2) (.slice A3 n3 c3) (.slice A4 n4 c4) gen root next (.slice A5 dead.length c5)),Kh v] w (SetQ S gen root next dead v w):=by
 have HA:=zH (fun W (hx:Ext w W)=>qcs A1 n1 c1 A2 n2 c2 A3 n3 c3 A4 n4 c4 gen root next A5 c5 S dead v hT W (h.ext hx) (hd.ext_ hx))
 have HO:=zH (fun W=>qdf v hv W)
 have hvi:=volIt_ok hv
 have HP:=zH (fun (hS:qo S=true) (a lvl:Nat) xs ha ha2 hn hsp hL A c W (hx:Ext w W) hb=>put_any A1 n1 c1 A2 n2 c2 A3 n3 c3 A4 n4 c4 S hS a lvl xs ha ha2 hn hsp (Ki v) hvi A c W (h.ext hx) hb hL)
 replace h:=zH h
 replace hT:=zH hT
 replace hLv:=zH hLv
 replace hd:=zH hd
 replace hvi:=zH hvi
 go_enter Tryz.func24,Tryz.ntmps24
 go_wp2_with fail
 generalize hw1:(World.alloc (World.alloc (World.alloc w _) _) _)=w1
 have x1:Ext w w1:=by rw[←hw1];exact((Ext.alloc _ _).trans (Ext.alloc _ _)).trans (Ext.alloc _ _)
 have rp1:w1.heap[w.heap.size]?=some (.cells (Qo (.slice A1 n1 c1) (.slice A2 n2 c2) (.slice A3 n3 c3) (.slice A4 n4 c4) gen root next (.slice A5 dead.length c5)) 32 (0,0)):=by rw[←hw1];exact(Below.heap_alloc _ _ _ (by simp;omega)).trans ((Below.heap_alloc _ _ _ (by simp)).trans (World.alloc_heap_at _ _ _ rfl))
 have rv1:w1.heap[w.heap.size+1]?=some (.cells #[.int .u32 v.id,.int .i64 v.root,.bool v.fz,.int .u32 v.frm] 40 (0,0)):=by rw[←hw1];exact(Below.heap_alloc _ _ _ (by simp)).trans (World.alloc_heap_at _ _ _ (by simp))
 have ro1:w1.heap[w.heap.size+2]?=some (.cells (Qo (.slice none 0 0) (.slice none 0 0) (.slice none 0 0) (.slice none 0 0) 0 0 0 (.slice none 0 0)) 32 (0,0)):=by rw[←hw1];exact World.alloc_heap_at _ _ _ (by simp)
 clear hw1
 refine(HA.out w1 x1).mono ?_
 clear HA
 rintro e w2 ⟨hB,hQ⟩
 have x2:Ext w w2:=Ext.trans x1 hB
 have rp2:=qc rp1 hB
 have rv2:=qc rv1 hB
 have ro2:=qc ro1 hB
 have zo2:w.heap.size+2<w2.heap.size:=(zG.1 ro2).1
 have zo2':w.heap.size+1+1<w2.heap.size:=zo2
 clear hB rp1 rv1 ro1 x1
 have ko2:=qa ro2
 have fo2:=qg ro2
 rcases hQ with ⟨rfl,hno⟩|⟨vs,refs,nodes,hp,hcn,hen,rfl⟩
 ·replace hno:=zH hno
  go_wp2_with fail
  exact VX (b:=w.heap.size+2) rfl rfl rfl (row8 ro2 _ _ _ _ _ _ _ _) ⟨YO x2 (by omega) _ _ _ _ _ _ _ _,.inl ⟨rfl,hno.out⟩⟩
 ·have hfin:=zH (fun e W (hb:Below w.heap.size w W) hx=>(⟨hb,.inr ⟨vs,refs,nodes,hp,hcn,hen,hx⟩⟩:SetQ S gen root next dead v w e W))
  by_cases h0:ZS S next v vs refs=0
  case neg =>
   obtain⟨er,her⟩:∃ er,ZS S next v vs refs=er:=⟨_,rfl⟩
   rw[her] at h0 ⊢
   have hne:(er != 0)=true:=by rw[bne_iff_ne];exact h0
   replace h0:=zH h0
   replace her:=zH her
   replace hp:=zH hp
   replace hcn:=zH hcn
   replace hen:=zH hen
   go_wp2_with fail
   exact VX (b:=w.heap.size+2) rfl rfl rfl (row8 ro2 _ _ _ _ _ _ _ _) (hfin.out _ _ (YO x2 (by omega) _ _ _ _ _ _ _ _) (.inl ⟨er,h0.out,rfl,.inl her.out⟩))
  case pos =>
   rw[h0]
   obtain⟨a,ha,h8,h256,lvl,xs,hn,hsp⟩:=Jb hp.top
   have hse:setE S root v=XI S lvl xs a (Ki v):=by
    unfold setE
    rw[ha,Int.toNat_natCast,hn]
    rfl
   have hLv2:∀ up S2,Vl S lvl xs (Ki v)=.ok (up,S2)→∀ l ys,qu S2 a=some (l,ys)→l=0:=fun up S2 hx l ys hy=>hLv.out (lvl:Int) xs (by rw[ha,Int.toNat_natCast];exact hn) up S2 (by rw[Int.toNat_natCast];exact hx) l ys (by rw[ha,Int.toNat_natCast];exact hy)
   have HP2:=zH (HP.out hp.may a lvl xs h8 h256 hn hsp hLv2)
   have hpm:=zH (fun r S' (he:XI S lvl xs a (Ki v)=.ok (r,S'))=>putY_may hp.may h8 hn hsp hvi.out he)
   have hpe:=zH (fun er (he:XI S lvl xs a (Ki v)=.error er)=>putY_err he)
   rw[←hse] at HP2 hpm hpe
   rw[←ha] at HP2
   have hdl:=zH hp.few
   replace h0:=zH h0
   replace hp:=zH hp
   replace hcn:=zH hcn
   replace hen:=zH hen
   clear hse hLv2 hLv HP hn hsp hT ha
   go_upto_region 4 with fail
   rcases hq:setE S root v with er|⟨r,S'⟩
   ·have gP:∀ W,ql.r w2 W→∀ i,W.cell? ⟨w.heap.size,i,none⟩=(Qo (.slice A1 n1 c1) (.slice A2 n2 c2) (.slice A3 n3 c3) (.slice A4 n4 c4) gen root next (.slice A5 dead.length c5))[i]?:=fun W h=>qa (qc rp2 h)
    have gV:∀ W,ql.r w2 W→∀ i,W.cell? ⟨w.heap.size+1,i,none⟩=#[.int .u32 v.id,.int .i64 v.root,.bool v.fz,.int .u32 v.frm][i]?:=fun W h=>qa (qc rv2 h)
    clear ko2 fo2
    refine qm (by kernel_rfl) ?_
    refine Yg 12 9 (by exact rfl) (by kernel_rfl) rfl rfl (by kernel_rfl) (by kernel_rfl) (by kernel_rfl) (by kernel_rfl) ?_
    dsimp only[ZY,Array.push,List.push_toArray,List.concat_eq_append]
    refine Yg 12 10 (by exact rfl) (by kernel_rfl) rfl rfl (by kernel_rfl) (by kernel_rfl) (by kernel_rfl) (by kernel_rfl) ?_
    dsimp only[ZY,Array.push,List.push_toArray,List.concat_eq_append]
    refine qR (w:=w2) ql (qG [(5,UQ w2.heap.size 1 v.id 0 0 (Qk v).length (Qk v)),(6,Gr er),(11,jg w2.heap.size 28 #[.slice none 0 0,.slice none 0 0,.slice none 0 0,.slice none 0 0])]) (List.replicate 12 true) 3 (by kernel_rfl) (by kernel_rfl) (by kernel_rfl) (by kernel_rfl) (by kernel_rfl) (by kernel_rfl) (by kernel_rfl) ?st (Rel.drew _ _) ?walk
    case st=>exact qk (by simp only[List.forall_mem_cons];exact⟨fun p=>Qw (outIFs p),UF _,fun p=>Qw (Zt _ _ _ p),fun _ h=>by cases h⟩)
    case walk =>
     intro K hK
     dsimp only[qp,List.replicate]
     repeat ((first|(refine qd ?_ (by rfl) (by rfl) (fun W hW _=>⟨W,?_,Rel.refl _ W⟩) ?_;rotate_left;(first|(go_simp;with_reducible rfl)|(go_simp;done)))|(refine qh (by rfl) ?_));try simp only[Act.put,qi,qe,qb,qf,zt,QK,QL,Zw,qb,zA,zB,zC])
     refine qy (UQ w2.heap.size 1 v.id 0 0 (Qk v).length (Qk v)) (by rfl) (by rfl) (fun W hW _=>?_) (fun p5=>?_)
     ·have hW:Ext w2 W:=hW
      refine Qe ?_ ((HO.out W).mono fun e w' h=>?_)
      ·go_simp
      obtain⟨u,rfl,⟨A,c,rfl,hb,hf⟩,hB⟩:=h
      exact⟨(A,c),rfl,⟨hb,hf.mono hW.size⟩,hB⟩
     obtain⟨A8,c8⟩:=p5
     simp only[Act.put,qi,qe,qb,qf,zt,QK,QL,Zw,qb,zA,zB,zC]
     repeat ((first|(refine qd ?_ (by rfl) (by rfl) (fun W hW _=>⟨W,?_,Rel.refl _ W⟩) ?_;rotate_left;(first|(go_simp;with_reducible rfl)|(go_simp;done)))|(refine qh (by rfl) ?_));try simp only[Act.put,qi,qe,qb,qf,zt,QK,QL,Zw,qb,zA,zB,zC])
     refine qy (Gr er) (by rfl) (by rfl) (fun W hW hp=>?_) (fun (p:Unit)=>?_)
     ·have hW:Ext w2 W:=hW
      have hb:Bys W W.heap.size (.slice A8 (Qk v).length c8) (Qk v):=(hp 5 (by decide)).1.1
      refine Qe ?_ ((HP2.out A8 c8 W (x2.trans hW) hb).mono fun e w' h=>?_)
      ·go_simp
       exact⟨rfl,rfl,rfl,rfl,rfl⟩
      obtain⟨u,rfl,hu,hB⟩:=h
      rw[hq] at hu
      obtain rfl:u=_:=hu
      exact⟨(),rfl,trivial,hB⟩
     simp only[Act.put,qi,qe,qb,qf,zt,QK,QL,Zw,qb,zA,zB,zC]
     repeat ((first|(refine qd ?_ (by rfl) (by rfl) (fun W hW _=>⟨W,?_,Rel.refl _ W⟩) ?_;rotate_left;(first|(go_simp;with_reducible rfl)|(go_simp;done)))|(refine qh (by rfl) ?_));try simp only[Act.put,qi,qe,qb,qf,zt,QK,QL,Zw,qb,zA,zB,zC])
     refine qy (jg w2.heap.size 28 #[.slice none 0 0,.slice none 0 0,.slice none 0 0,.slice none 0 0]) (by rfl) (by rfl) (fun W hW _=>?_) (fun (p11:Nat)=>?_)
     ·refine jh ?_ (Below.size hW)
      go_simp
     simp only[Act.put,qi,qe,qb,qf,zt,QK,QL,Zw,qb,zA,zB,zC]
     repeat ((first|(refine qd ?_ (by rfl) (by rfl) (fun W hW _=>⟨W,?_,Rel.refl _ W⟩) ?_;rotate_left;(first|(go_simp;with_reducible rfl)|(go_simp;done)))|(refine qh (by rfl) ?_));try simp only[Act.put,qi,qe,qb,qf,zt,QK,QL,Zw,qb,zA,zB,zC])
     refine qt (hK _ _ fun W hW hF=>?_)
     obtain⟨f11,hlo⟩:W.heap[p11]?=some (.cells #[.slice none 0 0,.slice none 0 0,.slice none 0 0,.slice none 0 0] 28 (0,0))∧w2.heap.size≤p11:=(hF 11).1
     clear hF hK gP gV
     have hW:Ext w2 W:=hW
     dsimp only[List.drop,List.length_cons,List.length_nil,Nat.reduceAdd,Nat.reduceSub]
     have k11:=qa f11
     have h11:=qg f11
     have z11:=(zG.1 f11).1
     have rq2:=qc rp2 hW
     have rz2:=qc ro2 hW
     go_wp2
     refine Qn ?_
     generalize hw3:World.setCell (World.setCell (World.setCell (World.setCell W _ _) _ _) _ _) _ _=w3
     obtain⟨r3,o3,z3,b3⟩:=qat f11 hw3.symm
     clear hw3 k11 h11 f11
     have rp3:=(o3 w.heap.size (by omega)).trans rq2
     have ro3:=(o3 (w.heap.size+2) (by omega)).trans rz2
     have x3:Below w.heap.size w w3:=b3 (by omega) (x2.trans hW)
     have ko3:=qa ro3
     have fo3:=qg ro3
     have zo3:w.heap.size+1+1<w3.heap.size:=(zG.1 ro3).1
     clear rq2 rz2
     have hne:=hpe.out er hq
     have hnb:(er != 0)=true:=by rw[bne_iff_ne];exact hne
     replace hne:=zH hne
     replace hq:=zH hq
     go_wp2_with fail
     exact VX (b:=w.heap.size+2) rfl rfl rfl (row8 ro3 _ _ _ _ _ _ _ _) (hfin.out _ _ (YO x3 (by omega) _ _ _ _ _ _ _ _) (.inl ⟨er,hne.out,rfl,.inr ⟨h0.out,.inl hq.out⟩⟩))
   ·have gP:∀ W,ql.r w2 W→∀ i,W.cell? ⟨w.heap.size,i,none⟩=(Qo (.slice A1 n1 c1) (.slice A2 n2 c2) (.slice A3 n3 c3) (.slice A4 n4 c4) gen root next (.slice A5 dead.length c5))[i]?:=fun W h=>qa (qc rp2 h)
    have gV:∀ W,ql.r w2 W→∀ i,W.cell? ⟨w.heap.size+1,i,none⟩=#[.int .u32 v.id,.int .i64 v.root,.bool v.fz,.int .u32 v.frm][i]?:=fun W h=>qa (qc rv2 h)
    clear ko2 fo2
    refine qm (by kernel_rfl) ?_
    refine Yg 12 9 (by exact rfl) (by kernel_rfl) rfl rfl (by kernel_rfl) (by kernel_rfl) (by kernel_rfl) (by kernel_rfl) ?_
    dsimp only[ZY,Array.push,List.push_toArray,List.concat_eq_append]
    refine Yg 12 10 (by exact rfl) (by kernel_rfl) rfl rfl (by kernel_rfl) (by kernel_rfl) (by kernel_rfl) (by kernel_rfl) ?_
    dsimp only[ZY,Array.push,List.push_toArray,List.concat_eq_append]
    refine qR (w:=w2) ql (qG [(5,UQ w2.heap.size 1 v.id 0 0 (Qk v).length (Qk v)),(6,qai w2.heap.size S' r),(11,jg w2.heap.size 28 #[.slice none 0 0,.slice none 0 0,.slice none 0 0,.slice none 0 0])]) (List.replicate 12 true) 3 (by kernel_rfl) (by kernel_rfl) (by kernel_rfl) (by kernel_rfl) (by kernel_rfl) (by kernel_rfl) (by kernel_rfl) ?st (Rel.drew _ _) ?walk
    case st=>exact qk (by simp only[List.forall_mem_cons];exact⟨fun p=>Qw (outIFs p),UH _ _ _,fun p=>Qw (Zt _ _ _ p),fun _ h=>by cases h⟩)
    case walk =>
     intro K hK
     dsimp only[qp,List.replicate]
     repeat ((first|(refine qd ?_ (by rfl) (by rfl) (fun W hW _=>⟨W,?_,Rel.refl _ W⟩) ?_;rotate_left;(first|(go_simp;with_reducible rfl)|(go_simp;done)))|(refine qh (by rfl) ?_));try simp only[Act.put,qi,qe,qb,qf,zt,QK,QL,Zw,qb,zA,zB,zC])
     refine qy (UQ w2.heap.size 1 v.id 0 0 (Qk v).length (Qk v)) (by rfl) (by rfl) (fun W hW _=>?_) (fun p5=>?_)
     ·have hW:Ext w2 W:=hW
      refine Qe ?_ ((HO.out W).mono fun e w' h=>?_)
      ·go_simp
      obtain⟨u,rfl,⟨A,c,rfl,hb,hf⟩,hB⟩:=h
      exact⟨(A,c),rfl,⟨hb,hf.mono hW.size⟩,hB⟩
     obtain⟨A8,c8⟩:=p5
     simp only[Act.put,qi,qe,qb,qf,zt,QK,QL,Zw,qb,zA,zB,zC]
     repeat ((first|(refine qd ?_ (by rfl) (by rfl) (fun W hW _=>⟨W,?_,Rel.refl _ W⟩) ?_;rotate_left;(first|(go_simp;with_reducible rfl)|(go_simp;done)))|(refine qh (by rfl) ?_));try simp only[Act.put,qi,qe,qb,qf,zt,QK,QL,Zw,qb,zA,zB,zC])
     refine qy (qai w2.heap.size S' r) (by rfl) (by rfl) (fun W hW hp=>?_) (fun p=>?_)
     ·have hW:Ext w2 W:=hW
      have hb:Bys W W.heap.size (.slice A8 (Qk v).length c8) (Qk v):=(hp 5 (by decide)).1.1
      refine Qe ?_ ((HP2.out A8 c8 W (x2.trans hW) hb).mono fun e w' h=>?_)
      ·go_simp
       exact⟨rfl,rfl,rfl,rfl,rfl⟩
      obtain⟨u,rfl,hu,hB⟩:=h
      rw[hq] at hu
      obtain⟨v',rfl,hT⟩:=hu
      obtain⟨BB,WW,gg,A3',c3',A4',c4',rfl,-⟩:=id hT
      exact⟨((BB,WW),(A3',c3'),(A4',c4')),rfl,QH.keep hT hW.size (Nat.le_refl _) (fun _ _ _=>rfl),hB⟩
     obtain⟨⟨BB,WW⟩,⟨A3',c3'⟩,⟨A4',c4'⟩⟩:=p
     simp only[Act.put,qi,qe,qb,qf,zt,QK,QL,Zw,qb,zA,zB,zC]
     repeat ((first|(refine qd ?_ (by rfl) (by rfl) (fun W hW _=>⟨W,?_,Rel.refl _ W⟩) ?_;rotate_left;(first|(go_simp;with_reducible rfl)|(go_simp;done)))|(refine qh (by rfl) ?_));try simp only[Act.put,qi,qe,qb,qf,zt,QK,QL,Zw,qb,zA,zB,zC])
     refine qy (jg w2.heap.size 28 #[.slice none 0 0,.slice none 0 0,.slice none 0 0,.slice none 0 0]) (by rfl) (by rfl) (fun W hW _=>?_) (fun (p11:Nat)=>?_)
     ·refine jh ?_ (Below.size hW)
      go_simp
     simp only[Act.put,qi,qe,qb,qf,zt,QK,QL,Zw,qb,zA,zB,zC]
     repeat ((first|(refine qd ?_ (by rfl) (by rfl) (fun W hW _=>⟨W,?_,Rel.refl _ W⟩) ?_;rotate_left;(first|(go_simp;with_reducible rfl)|(go_simp;done)))|(refine qh (by rfl) ?_));try simp only[Act.put,qi,qe,qb,qf,zt,QK,QL,Zw,qb,zA,zB,zC])
     refine qt (hK _ _ fun W hW hF=>?_)
     obtain⟨f11,hlo⟩:W.heap[p11]?=some (.cells #[.slice none 0 0,.slice none 0 0,.slice none 0 0,.slice none 0 0] 28 (0,0))∧w2.heap.size≤p11:=(hF 11).1
     have hTw:QH w2.heap.size S' (Qd (some ⟨BB,0,none⟩) S'.bs.length S'.bs.length (some ⟨WW,0,none⟩) S'.ws.length (S'.ws.length+1) A3' S'.now.length c3' A4' S'.last.length c4') W:=(hF 6).1
     clear hF hK gP gV
     have hW:Ext w2 W:=hW
     dsimp only[List.drop,List.length_cons,List.length_nil,Nat.reduceAdd,Nat.reduceSub]
     have k11:=qa f11
     have h11:=qg f11
     have z11:=(zG.1 f11).1
     have rq2:=qc rp2 hW
     have rz2:=qc ro2 hW
     go_wp2
     refine Qn ?_
     generalize hw3:World.setCell (World.setCell (World.setCell (World.setCell W _ _) _ _) _ _) _ _=w3
     obtain⟨r3,o3,z3,b3⟩:=qat f11 hw3.symm
     have hTw3:=QH.keepT (lo':=w2.heap.size) hTw (Nat.le_refl _) (by omega) f11 (by decide) (fun b _ _ hne=>o3 b hne)
     clear hw3 k11 h11 f11
     have rp3:=(o3 w.heap.size (by omega)).trans rq2
     have ro3:=(o3 (w.heap.size+2) (by omega)).trans rz2
     have x3:Below w.heap.size w w3:=b3 (by omega) (x2.trans hW)
     have ko3:=qa ro3
     have fo3:=qg ro3
     have zo3:w.heap.size+1+1<w3.heap.size:=(zG.1 ro3).1
     clear rq2 rz2
     have hmay:=hpm.out r S' hq
     have hns:=UJ (hTw3.newSto (ju hmay.1))
     replace hq:=zH hq
     replace hns:=zH hns
     replace hmay:=zH hmay
     have hz3:w2.heap.size≤w3.heap.size:=by have:=hW.size;omega
     clear hTw3 hpm hpe HP2
     go_upto_region 7 with fail
     have HI:=zH (fun W (hW:Ext w3 W)=>qcp (.slice A5 dead.length c5) dead (by have:=hdl.out;omega) W (hd.out.ext_ (x3.trans (Below.mono hW x3.size))))
     have gP:∀ W,ql.r w3 W→∀ i,W.cell? ⟨w.heap.size,i,none⟩=(Qo (.slice A1 n1 c1) (.slice A2 n2 c2) (.slice A3 n3 c3) (.slice A4 n4 c4) gen root next (.slice A5 dead.length c5))[i]?:=fun W h=>qa (qc rp3 h)
     obtain⟨nb,hnb⟩:∃ nb,S'.bs.length=nb:=⟨_,rfl⟩
     obtain⟨nw,hnw⟩:∃ nw,S'.ws.length=nw:=⟨_,rfl⟩
     obtain⟨nn,hnn⟩:∃ nn,S'.now.length=nn:=⟨_,rfl⟩
     obtain⟨nl,hnl⟩:∃ nl,S'.last.length=nl:=⟨_,rfl⟩
     rw[hnb,hnw,hnn,hnl] at hns r3 ⊢
     have hlens:=zH (And.intro hnb (And.intro hnw (And.intro hnn hnl)))
     clear hnb hnw hnn hnl
     have gS:∀ W,ql.r w3 W→∀ i,W.cell? ⟨p11,i,none⟩=#[.slice (some ⟨BB,0,none⟩) nb nb,.slice (some ⟨WW,0,none⟩) nw (nw+1),.slice A3' nn c3',.slice A4' nl c4'][i]?:=fun W h=>qa (qc r3 h)
     clear ko3 fo3
     refine qm (by kernel_rfl) ?_
     refine zh 1 10 (.int .i64 (r:Int)) (by kernel_rfl) (by simp only[List.getElem?_toArray,List.getElem?_cons_succ,List.getElem?_cons_zero];exact rfl) (by kernel_rfl) (by kernel_rfl) (by kernel_rfl) (by rfl) (fun W=>?_) ?_
     ·go_simp
     simp only[Act.put,qi,qe,qb,qf,zt,QK,QL,Zw,qb,zA,zB,zC]
     refine qR (w:=w3) ql (qG [(4,outN w3.heap.size dead.length dead)]) [true,false,true,true,true,true] 5 (by kernel_rfl) (by kernel_rfl) (by kernel_rfl) (by kernel_rfl) (by kernel_rfl) (by kernel_rfl) (by kernel_rfl) ?st (Rel.drew _ _) ?walk
     case st=>exact qk (by simp only[List.forall_mem_cons];exact⟨fun p=>Qw (qaQ _ _ _ p),fun _ h=>by cases h⟩)
     case walk =>
      intro K hK
      dsimp only[qp,List.replicate]
      repeat ((first|(refine qd ?_ (by rfl) (by rfl) (fun W hW _=>⟨W,?_,Rel.refl _ W⟩) ?_;rotate_left;(first|(go_simp;with_reducible rfl)|(go_simp;done)))|(refine qh (by rfl) ?_));try simp only[Act.put,qi,qe,qb,qf,zt,QK,QL,Zw,qb,zA,zB,zC])
      refine qy (outN w3.heap.size dead.length dead) (by rfl) (by rfl) (fun W hW _=>?_) (fun p=>?_)
      ·have hW:Ext w3 W:=hW
       refine Qe ?_ ((HI.out W hW).mono fun e w' h=>?_)
       ·go_simp
       obtain⟨u,rfl,hu,hB⟩:=h
       obtain⟨A',c',rfl,_,_⟩:=qJ hu
       exact⟨(A',c'),rfl,⟨Zu.of_ownT hu,(zm.of_own hu).mono hW.size⟩,hB⟩
      obtain⟨B5,d5⟩:=p
      simp only[Act.put,qi,qe,qb,qf,zt,QK,QL,Zw,qb,zA,zB,zC]
      repeat ((first|(refine qd ?_ (by rfl) (by rfl) (fun W hW _=>⟨W,?_,Rel.refl _ W⟩) ?_;rotate_left;(first|(go_simp;with_reducible rfl)|(go_simp;done)))|(refine qh (by rfl) ?_));try simp only[Act.put,qi,qe,qb,qf,zt,QK,QL,Zw,qb,zA,zB,zC])
      refine qt (hK _ _ fun V hV hF=>?_)
      have hI:Zu (thaw V) V.heap.size (.slice B5 dead.length d5) dead∧zm w3.heap.size (.slice B5 dead.length d5):=(hF 4).1
      clear hF hK gP gS HI
      have hV:Ext w3 V:=hV
      dsimp only[List.drop,List.length_cons,List.length_nil,Nat.reduceAdd,Nat.reduceSub]
      have rp4:=qc rp3 hV
      have ro4:=qc ro3 hV
      have kp4:=qa rp4
      have fp4:=qg rp4
      have zp4:w.heap.size<V.heap.size:=(zG.1 rp4).1
      replace hI:=zH hI
      clear rp3 ro3
      go_wp2
      refine Qn ?_
      generalize hw5:World.setCell (World.setCell (World.setCell (World.setCell (World.setCell (World.setCell V _ _) _ _) _ _) _ _) _ _) _ _=w5
      obtain⟨rp5,o5,z5,b5⟩:=set_pool rp4 hw5.symm
      clear hw5 kp4 fp4
      have ro5:=(o5 (w.heap.size+2) (by omega)).trans ro4
      have x5:Below w.heap.size w w5:=b5 (Nat.le_refl _) (x3.trans (Below.mono hV x3.size))
      have hzV:=hV.size
      have hk35:∀ k,w.heap.size<k→k<w3.heap.size→w5.heap[k]?=w3.heap[k]?:=fun k h1 h2=>(o5 k (by omega)).trans (hV.block k h2)
      have hst5:=(hns.out w5 (XF fun k h1 h2=>hk35 k (by omega) h2)).more (show w3.heap.size≤w5.heap.size by omega)
      have hin5:Zu w5 w5.heap.size (.slice B5 dead.length d5) dead:=by
       rw[z5]
       exact hI.out.1.pos hI.out.2 fun q u h1 h2 h3=>(World.cell?_of_block (o5 q.block (by omega))).trans (YM h3).1
      have HCk:=zH (qcq (some ⟨BB,0,none⟩) nb nb (some ⟨WW,0,none⟩) nw (nw+1) A3' nn c3' A4' nl c4' gen (r:Int) next B5 d5 S' dead w5 hst5 hin5)
      have kp5:=qa rp5
      replace hk35:=zH hk35
      clear hst5 hin5
      go_wp2_with fail
      refine HCk.out.mono ?_
      clear HCk
      rintro e w6 ⟨hB6,hQ6⟩
      have x6:Below w.heap.size w w6:=x5.trans (Below.mono hB6 x5.size)
      have rp6:=qc rp5 hB6
      have ro6:=qc ro5 hB6
      have ko6:=qa ro6
      have fo6:=qg ro6
      have zo6:w.heap.size+1+1<w6.heap.size:=(zG.1 ro6).1
      have h56:=zH (fun k (hk:k<w5.heap.size)=>Below.block hB6 k hk)
      have z56:=hB6.size
      clear hB6 rp4 ro4 kp5
      rcases hQ6 with ⟨rfl,hbad⟩|⟨rfl,vs',refs',nodes',hp',hc',he'⟩
      ·replace hbad:=zH hbad
       go_wp2_with fail
       exact VX (b:=w.heap.size+2) rfl rfl rfl (row8 ro6 _ _ _ _ _ _ _ _) (hfin.out _ _ (YO x6 (by omega) _ _ _ _ _ _ _ _) (.inl ⟨8,by decide,rfl,.inr ⟨h0.out,.inr ⟨rfl,r,S',hq.out,hbad.out⟩⟩⟩))
      ·have hok:=zH (⟨refs',nodes',hp',hc',he'⟩:PoolOk S' (r:Int) next dead vs')
       have kp6:=qa rp6
       clear hp' hc' he'
       go_wp2_with fail
       refine VX (b:=w.heap.size+2) rfl rfl rfl (row8 ro6 _ _ _ _ _ _ _ _) (hfin.out _ _ (YO x6 (by omega) _ _ _ _ _ _ _ _) (.inr ⟨r,S',vs',_,h0.out,hq.out,hok.out,rfl,?_⟩))
       refine⟨some ⟨BB,0,none⟩,nb,some ⟨WW,0,none⟩,nw+1,A3',c3',A4',c4',B5,d5,?_,fun C hC=>?_⟩
       ·rw[hlens.out.1,hlens.out.2.1,hlens.out.2.2.1,hlens.out.2.2.2]
       ·rw[hlens.out.1,hlens.out.2.1,hlens.out.2.2.1,hlens.out.2.2.2]
        rw[size8]
        have hs:=fun (k:Nat) (hk:k≠w.heap.size+2)=>other8 (w:=w6) hk (.slice (some ⟨BB,0,none⟩) nb nb) (.slice (some ⟨WW,0,none⟩) nw (nw+1)) (.slice A3' nn c3') (.slice A4' nl c4') (.int .u32 gen) (.int .i64 (r:Int)) (.int .u32 next) (.slice B5 dead.length d5)
        have q1:=hns.out C fun q u h1 h2 h3=>hC q u (by omega) (by rw[size8];omega) ((jP ((hs q.block (by omega)).trans ((h56.out q.block (by omega)).trans (hk35.out q.block (by omega) h2)))).trans h3)
        have q2:=hI.out.1.pos hI.out.2 (C:=C) fun q u h1 h2 h3=>hC q u (by omega) (by rw[size8];omega) ((jP ((hs q.block (by omega)).trans ((h56.out q.block (by omega)).trans (o5 q.block (by omega))))).trans h3)
        exact⟨q1.more (by omega),q2.more (by omega)⟩
theorem jC.stack {ks rs:Nat→List Nat} {R:List Nat} {M:Nat→Bool} {refs:Nat→Nat} {s s':List Nat} (h:jC ks rs R M refs s) (hs:∀ x,x∈s↔x∈s'):jC ks rs R M refs s':=
 ⟨h.reach,fun a ha=>h.stk a ((hs a).2 ha),fun a ha=>(h.root a ha).imp id (hs a).1,fun a ha b hb=>(h.kids a ha b hb).imp id (hs b).1,h.sum⟩
def Xj (S:Sto):Nat→List Nat→List Nat→List Nat→Option (List Nat×List Nat)
 |_,[],met,refs=>some (met,refs)
 |0,_ :: _,_,_=>none
 |f+1,a :: s,met,refs=>if met.contains a then Xj S f s met refs else if a<256 then Xj S f (ZC S a++s) (a :: met) (ZV S a++refs) else none
def Tv (met:List Nat):Nat→Bool:=fun a=>met.contains a
theorem qeF (a:Nat) (met:List Nat):Tv (a :: met)=JU (Tv met) a:=by
 funext b
 unfold Tv JU
 by_cases h:b=a
 ·subst h;simp
 ·rw[if_neg h];simp[List.contains_cons,h]
theorem Tt {S:Sto} {R:List Nat}:∀ (f:Nat) (s met refs:List Nat) {met' refs':List Nat},jC (ZC S) (ZV S) R (Tv met) (fun b=>refs.count b) s→Xj S f s met refs=some (met',refs')→jC (ZC S) (ZV S) R (Tv met') (fun b=>refs'.count b) []
 |0,[],met,refs,met',refs',h,e=>by simp only[Xj,Option.some.injEq,Prod.mk.injEq] at e;obtain⟨rfl,rfl⟩:=e;exact h
 |f+1,[],met,refs,met',refs',h,e=>by simp only[Xj,Option.some.injEq,Prod.mk.injEq] at e;obtain⟨rfl,rfl⟩:=e;exact h
 |0,_ :: _,met,refs,met',refs',h,e=>by cases e
 |f+1,a :: s,met,refs,met',refs',h,e=>by
  have h1:jC (ZC S) (ZV S) R (Tv met) (fun b=>refs.count b) (s++[a]):=h.stack fun x=>by simp[or_comm]
  simp only[Xj] at e
  split at e
  ·rename_i hm
   exact Tt f s met refs (h1.again hm) e
  ·rename_i hm
   split at e
   ·rename_i hl
    have h2:=h1.new (refs':=fun b=>(ZV S a++refs).count b) (by unfold Tv;simpa using hm) hl (fun b=>by simp only[List.count_append];omega)
    rw[←qeF] at h2
    exact Tt f _ _ _ (h2.stack fun x=>by simp[or_comm]) e
   ·cases e
theorem jC.start (ks rs:Nat→List Nat) (R:List Nat):jC ks rs R (Tv []) (fun b=>R.count b) R:=by
 have h0:∀ b n,vY rs (Tv []) b n=0:=fun b n=>by
  induction n with
  |zero=>rfl
  |succ n ih=>unfold vY;rw[ih];rfl
 exact { reach:=fun a h=>(by cases h),stk:=fun a ha=>.base ha,root:=fun a ha=>.inr ha,kids:=fun a h=>(by cases h),sum:=fun b=>by rw[h0];rfl }
def KJ (met:List Nat):Nat→Nat:=fun a=>if met.contains a then 1 else 0
theorem qcV (met:List Nat):Jv (KJ met)=Tv met:=by
 funext a
 unfold Jv KJ Tv
 cases met.contains a <;> rfl
theorem qcF {S:Sto} {R met refs:List Nat} {f:Nat} (hR:R≠[]) (h:Xj S f R [] R=some (met,refs)):qU S R (fun b=>refs.count b) (KJ met):=by
 have h1:=Tt f R [] R (jC.start _ _ R) h
 refine⟨Ze.walk.2 (by rw[qcV];exact h1),fun a=>?_⟩
 have h2:=TX (Jv (KJ met)) 256
 have h3:KJ met a≤1:=by unfold KJ;split <;> omega
 have h4:0<R.length:=List.length_pos_iff.2 hR
 omega
def qbI (S:Sto) (root next:Int) (dead:List Int):Option (List Vol×List Nat×List Nat):=
 if qo S && decide (dead.length≤40) && okL S (-1) root then match JL S root next with
  |none=>none
  |some vs=>if (zY root dead vs).all (fun r=>okL S (-1) r) then match Xj S 2000 (QI root dead vs) [] (QI root dead vs) with
   |none=>none
   |some (met,refs)=>if qag S (fun b=>refs.count b) then some (vs,met,refs) else none
   else none
 else none
theorem TD {S:Sto} {root next:Int} {dead:List Int} {vs:List Vol} {met refs:List Nat} (h:qbI S root next dead=some (vs,met,refs)):QT S root next dead vs∧qU S (QI root dead vs) (fun b=>refs.count b) (KJ met)∧zQ S (fun b=>refs.count b):=by
 unfold qbI at h
 split at h
 ·rename_i h1
  simp only[Bool.and_eq_true,decide_eq_true_eq] at h1
  split at h
  ·cases h
  ·rename_i vs' hv
   split at h
   ·rename_i h2
    split at h
    ·cases h
    ·rename_i met' refs' hw
     split at h
     ·rename_i h3
      simp only[Option.some.injEq,Prod.mk.injEq] at h
      obtain⟨rfl,rfl,rfl⟩:=h
      exact⟨⟨h1.1.1,h1.1.2,h1.2,hv,fun r hr=>List.all_eq_true.1 h2 r hr⟩,qcF (by unfold QI zY;simp) hw,(qbs _ _).1 h3⟩
     ·cases h
   ·cases h
 ·cases h
theorem QT.unique {S:Sto} {root next:Int} {dead:List Int} {vs vs':List Vol} {refs nodes refs' nodes':Nat→Nat} (h:QT S root next dead vs) (hc:qU S (QI root dead vs) refs nodes) (h':QT S root next dead vs') (hc':qU S (QI root dead vs') refs' nodes'):vs'=vs∧refs'=refs∧Jv nodes'=Jv nodes:=by
 obtain rfl:=QT.same h h'
 obtain⟨e1,e2⟩:=Ze.same hc'.mkd hc.mkd
 exact⟨rfl,e2,e1⟩
def okOf {α:Type} (q:Except Int (Nat×α)) (d:α):α:=match q with
 | .ok (_,x)=>x
 | .error _=>d
def isAt_ {α:Type} (q:Except Int (Nat×α)) (r:Nat):Bool:=match q with
 | .ok (n,_)=>decide (n=r)
 | .error _=>false
theorem qdr {α:Type} {q:Except Int (Nat×α)} {r:Nat} (d:α) (h:isAt_ q r=true):q=.ok (r,okOf q d):=by
 rcases q with e|⟨n,x⟩
 ·cases h
 ·simp only[isAt_,decide_eq_true_eq] at h
  subst h
  rfl
def st1:Sto:=okOf (TU qD) qD
theorem qdG:TU qD=.ok (9,st1):=qdr _ (by decide +kernel)
def GI:Vol:=⟨1,9,false,0⟩
def st2:Sto:=okOf (setE st1 8 GI) st1
theorem Gy:setE st1 8 GI=.ok (10,st2):=qdr _ (by decide +kernel)
theorem qaW:qbI st1 8 2 []=some ([],[8],[8]):=by decide +kernel
theorem Td:qbI st2 10 2 []=some ([GI],[9,10],[10,9]):=by decide +kernel
theorem st1_ok:okL st1 (-1) 9=true:=by decide +kernel
theorem st1_fask:ZS st1 2 GI [] (fun b=>[8].count b)=0:=by decide +kernel
theorem st1_node:qu st1 8=some (0,[]):=by decide +kernel
def leafB (S:Sto) (a:Nat):Bool:=match qu S a with
 |none=>true
 |some (l,_)=>decide (l=0)
def GD (S:Sto) (lvl:Nat) (xs:List It) (x:It) (a:Nat):Bool:=match Vl S lvl xs x with
 | .error _=>true
 | .ok (_,S2)=>leafB S2 a
theorem qcP {S:Sto} {lvl:Nat} {xs:List It} {x:It} {a:Nat} (h:GD S lvl xs x a=true):∀ up S2,Vl S lvl xs x=.ok (up,S2)→∀ l ys,qu S2 a=some (l,ys)→l=0:=fun up S2 e l ys hn=>by
 unfold GD at h
 rw[e] at h
 simp only[leafB,hn,decide_eq_true_eq] at h
 exact h
theorem st1_leaf:GD st1 0 [] (Ki GI) 8=true:=by decide +kernel
theorem st1_hLv:∀ lvl xs,qu st1 (8:Int).toNat=some (lvl,xs)→∀ up S2,Vl st1 lvl.toNat xs (Ki GI)=.ok (up,S2)→∀ l ys,qu S2 (8:Int).toNat=some (l,ys)→l=0:=fun lvl xs hn=>by
 rw[show (8:Int).toNat=8 from rfl,st1_node] at hn
 simp only[Option.some.injEq,Prod.mk.injEq] at hn
 obtain⟨rfl,rfl⟩:=hn
 exact qcP st1_leaf
end Go.Proofs.YtpbniokljofedaaGreat
