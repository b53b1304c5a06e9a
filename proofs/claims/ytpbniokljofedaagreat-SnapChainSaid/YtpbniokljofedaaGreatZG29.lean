/- Texts Late, FSet, FVols, DLeave, SetX, joined. -/
import Derived.Test.YtpbniokljofedaaGreatZG10
import Derived.Test.YtpbniokljofedaaGreatZG16
import Derived.Test.YtpbniokljofedaaGreatZG20
import Derived.Test.YtpbniokljofedaaGreatZG22
import Derived.Test.YtpbniokljofedaaGreatZG24
import Derived.Test.YtpbniokljofedaaGreatZG26
import Derived.Test.YtpbniokljofedaaGreatZG28
set_option linter.unusedSimpArgs false
set_option linter.unusedVariables false
set_option maxHeartbeats 8000000
open Go.Proofs.Tryz
namespace Go.Proofs.YtpbniokljofedaaGreat
open Go.RowKit
def jq:List Oper->Nat->Nat->List Oper
 | [],_,_=>[]
 |o :: l,0,z=>{ o with after:=o.after.push { on:=z,ground:=.data } } :: l
 |o :: l,j+1,z=>o :: jq l j z
theorem Vs:∀ (l:List Oper) (j z i:Nat),(jq l j z)[i]?=if i=j then (l[i]?).map (fun o=>{ o with after:=o.after.push { on:=z,ground:=.data } }) else l[i]?
 | [],j,z,i=>by simp[jq]
 |o :: l,0,z,i=>by
  cases i with
  |zero=>simp[jq]
  |succ i=>simp[jq]
 |o :: l,j+1,z,i=>by
  cases i with
  |zero=>simp[jq]
  |succ i =>
   simp only[jq,List.getElem?_cons_succ];rw[Vs l j z i];by_cases h:i=j
   ·subst h;simp
   ·rw[if_neg h,if_neg zO]
theorem TX {l:List Oper} {j z i:Nat} (h:i≠j):(jq l j z).toArray[i]?=l.toArray[i]?:=by simp only[List.getElem?_toArray];rw[Vs,if_neg h]
theorem qfF {l:List Oper} {j z:Nat} {o:Oper} (h:l.toArray[j]?=some o):(jq l j z).toArray[j]?=some { o with after:=o.after.push { on:=z,ground:=.data } }:=by simp only[List.getElem?_toArray] at h ⊢;rw[Vs,if_pos rfl,h];rfl
theorem jP {l:List Oper} {j z i:Nat} {listed:Array Bool}:i∈Region.ready .any (jq l j z).toArray listed↔i∈Region.ready .any l.toArray listed/\(i=j->listed.getD z false=true):=by
 rw[mem_ready,mem_ready];by_cases h:i=j
 ·subst h;constructor
  ·rintro ⟨h0,o,ho,ha⟩;obtain⟨o',wK,rfl⟩:∃ o',l.toArray[i]?=some o'/\o={ o' with after:=o'.after.push { on:=z,ground:=.data } }:=by
    simp only[List.getElem?_toArray] at ho ⊢;rw[Vs,if_pos rfl] at ho;rcases hq:l[i]? with _|o'
    ·rw[hq] at ho;cases ho
    ·rw[hq] at ho;cases ho;exact⟨o',rfl,rfl⟩
   refine⟨⟨h0,o',wK,fun e he hb=>ha e ?_ hb⟩,fun _=>ha { on:=z,ground:=.data } ?_ rfl⟩
   ·show e∈o'.after.push _;exact Array.mem_push_of_mem _ he
   ·show _∈o'.after.push _;exact Array.mem_push_self
  ·rintro ⟨⟨h0,o,ho,ha⟩,hz⟩;refine⟨h0,_,qfF ho,fun e he hb=>?_⟩;have he:e∈o.after.push { on:=z,ground:=.data }:=he;rcases Array.mem_push.1 he with he|rfl
   ·exact ha e he hb
   ·exact hz rfl
 ·rw[TX h];exact⟨fun ⟨h0,o,ho,ha⟩=>⟨⟨h0,o,ho,ha⟩,fun e=>absurd e h⟩,fun ⟨h0,_⟩=>h0⟩
theorem UL (l:List Oper) (j z:Nat) (t:Array Value):yielded (jq l j z).toArray t=yielded l.toArray t:=by
 funext i;unfold yielded;by_cases h:i=j
 ·subst h;simp only[List.getElem?_toArray];rw[Vs,if_pos rfl];cases l[i]? <;> rfl
 ·rw[TX h]
theorem qdK {oz:Oper} {src:Operand} {k:Nat} (dh:oz.op=.extract src k) (ev:Operand->Value) (P:Program):(∃ v,∀ W,(execOp ev oz).run P W=.ok (.value v) W)\/(∀ W,∃ s,(execOp ev oz).run P W=.halt (.stuck s) W):=by
 unfold execOp;rw[dh];simp only[Instr.extract];split
 ·split
  ·rename_i v _;exact .inl ⟨v,fun W=>rfl⟩
  ·exact .inr fun W=>⟨_,rfl⟩
 ·exact .inr fun W=>⟨_,rfl⟩
def lateB (ops:Array Oper) (j z:Nat):Bool:=match ops[z]? with
 |none=>false
 |some oz=>(qL oz).all (fun k=>qae ops 9 j k) && (List.range ops.size).all fun i=>i == z || qae ops 9 z i || match ops[i]? with
  |some oi=>oi.after.any (fun e=>Region.binds .any e && e.on == z) || oz.apart ops oi
  |none=>true
section
variable {P:Program} {l:List Oper} {Q:Exit->Act->World->Prop}
theorem qkK {j z i:Nat} {K K':Act->World->Prop} {a:Act} {W:World} (hK:∀ a w,K a w->K' a w) (h:wpOp P (jq l j z).toArray (QN Q) i K a W):wpOp P l.toArray (QN Q) i K' a W:=by
 refine wpOp_mono hK ?_;unfold wpOp at h ⊢;rw[UL] at h;by_cases hi:i=j
 ·subst hi;rcases ho:l.toArray[i]? with _|o
  ·have:(jq l i z).toArray[i]?=none:=by simp only[List.getElem?_toArray] at ho ⊢;rw[Vs,if_pos rfl,ho];rfl
   rw[this] at h;exact h
  ·rw[qfF ho] at h;exact h
 ·rw[TX hi] at h;exact h
theorem qhy {ops:Array Oper} {j z:Nat} {oz:Oper} (hz:ops[z]?=some oz) (h:lateB ops j z=true):(∀ k∈qL oz,qae ops 9 j k=true)/\∀ (i:Nat) (oi:Oper),ops[i]?=some oi->i≠z->qae ops 9 z i=true\/(∃ e∈oi.after,Region.binds .any e=true/\e.on=z)\/oz.apart ops oi=true:=by
 unfold lateB at h;rw[hz] at h;simp only[Bool.and_eq_true] at h;refine⟨fun k hk=>List.all_eq_true.1 h.1 k hk,fun i oi hi hiz=>?_⟩;have h1:=List.all_eq_true.1 h.2 i (List.mem_range.2 (zG.1 hi).1);rw[hi] at h1;simp only[Bool.or_eq_true,beq_iff_eq,hiz,false_or] at h1;rcases h1 with h1|h1|h1
 ·exact .inl h1
 ·rw[<-Array.any_toList] at h1;obtain⟨e,he,h2⟩:=List.any_eq_true.1 h1;replace he:e∈oi.after:=by simpa using he
  simp only[Bool.and_eq_true,beq_iff_eq] at h2;exact .inr (.inl ⟨e,he,h2⟩)
 ·exact .inr (.inr h1)
theorem qiu {j z:Nat} {oz:Oper} {src:Operand} {k:Nat} (hz:l.toArray[z]?=some oz) (hjz:j≠z) (dh:oz.op=.extract src k) (hg:oz.guard=none) (hs:Region.noSelect l.toArray=true) (hB:lateB l.toArray j z=true) : ∀ (fuel:Nat) (listed:Array Bool) (a:Act) (W:World),YF l.toArray listed->listed.size=l.length->wpAny P .any (jq l j z).toArray (QN Q) fuel listed a W->wpAny P .any l.toArray (QN Q) fuel listed a W:=by
 obtain⟨xq,dI⟩:=qhy hz hB;have hzl:z<l.length:=by simpa using (zG.1 hz).1
 have zr:∀ listed:Array Bool,YF l.toArray listed->listed.size=l.length->j∈Region.ready .any l.toArray listed->¬listed.getD z false=true->z∈Region.ready .any l.toArray listed:=fun listed hc hsz hj hzu=>by
  refine mem_ready.2 ⟨?_,oz,hz,fun e he hb=>?_⟩
  ·have hlt:z<listed.size:=zO;simp only[Array.getD_eq_getD_getElem?,Array.getElem?_eq_getElem hlt,Option.getD_some] at hzu ⊢;simpa using hzu
  ·have hk:e.on∈qL oz:=List.mem_map.2 ⟨e,by rw[List.mem_filter];exact⟨by simpa using he,hb⟩,rfl⟩;exact Vo hc 9 j e.on (fun o ho=>kL hj ho) (xq _ hk)
 intro fuel;induction fuel with
 |zero =>
  intro listed a W hc hsz h;refine⟨?_,h.2⟩;refine Classical.byContradiction fun aG=>?_;obtain⟨i,hi⟩:=List.exists_mem_of_ne_nil _ aG;have aX:∀ i,i∉Region.ready .any (jq l j z).toArray listed:=fun i hi=>by rw[h.1] at hi;cases hi
  by_cases hij:i=j
  ·subst hij;by_cases hzu:listed.getD z false=true
   ·exact aX i (jP.2 ⟨hi,fun _=>hzu⟩)
   ·exact aX z (jP.2 ⟨zr listed hc hsz hi hzu,fun e=>absurd e.symm hjz⟩)
  ·exact aX i (jP.2 ⟨hi,fun e=>absurd e hij⟩)
 |succ fuel ih =>
  intro listed a W hc hsz h;refine⟨fun h0=>h.1 ?_,fun i hi=>?_⟩
  ·refine List.eq_nil_iff_forall_not_mem.2 fun i hi=>?_;have:=(jP.1 hi).1;rw[h0] at this;cases this
  ·have key:∀ i,i∈Region.ready .any (jq l j z).toArray listed->wpOp P l.toArray (QN Q) i (wpAny P .any l.toArray (QN Q) fuel (listed.setIfInBounds i true)) a W:=fun i hi =>
    qkK (fun a w hw=>ih _ a w (hc.step (jP.1 hi).1) (by simpa using hsz) hw) (h.2 i hi)
   by_cases hlate:i=j/\¬listed.getD z false=true
   ·obtain⟨rfl,hzu⟩:=hlate;have hzr:=zr listed hc hsz hi hzu;have h1:=h.2 z (jP.2 ⟨hzr,fun e=>absurd e.symm hjz⟩);have hw:∀ t,Region.wanted oz (yielded l.toArray t)=true:=fun t=>by unfold Region.wanted;rw[hg]
    unfold wpOp at h1;rw[TX (fun e=>hjz e.symm),hz] at h1;simp only[UL,hw,if_true] at h1;rcases h1 with h1|⟨_,h1⟩
    ·unfold Oper.wp at h1;rcases qdK dh a.eval P with ⟨v,hv⟩|aI
     ·rw[hv] at h1;have h2:=ih _ _ W (hc.step hzr) (by simpa using hsz) h1;have h3:=qbU (Q:=Q) (v:=v) hz (Region.noSelect_spec hs) fuel listed a W (fun j' oj' iZ hjz' lM aX=>by
       rcases dI j' oj' iZ hjz' with hwt|⟨e,he,hb,oQ⟩|dm
       ·exfalso;have:=Vo hc 9 z j' (fun o ho=>kL hzr ho) hwt;rcases Nat.lt_or_ge j' listed.size with h'|h'
        ·simp[h'] at lM this;rw[lM] at this;cases this
        ·simp[Array.getElem?_eq_none h'] at this
       ·exact absurd oQ (aX e he hb)
       ·exact dm) hzr (hw _) hv h2
      exact h3.2 i hi
     ·obtain⟨s,hs2⟩:=aI W;rw[hs2] at h1;exact False.elim h1
    ·exact absurd h1 vL
   ·exact key i (jP.2 ⟨hi,fun e=>Classical.byContradiction fun hn=>hlate ⟨e,hn⟩⟩)
theorem vF {listed:Array Bool} {a:Act} {W:World} {fuel:Nat} (j z:Nat) {oz:Oper} {src:Operand} {k:Nat} (hz:l.toArray[z]?=some oz) (hjz:(j == z)=false) (dh:oz.op=.extract src k) (hg:oz.guard=none) (hs:Region.noSelect l.toArray=true) (hB:lateB l.toArray j z=true) (hc:Xr l.toArray listed=true) (hsz:(listed.size == l.length)=true) (h:wpAny P .any (jq l j z).toArray (QN Q) fuel listed a W):wpAny P .any l.toArray (QN Q) fuel listed a W:=
 qiu hz (by simpa using hjz) dh hg hs hB fuel listed a W (Vg hc) (by simpa using hsz) h
end
def Xm (v:Vol):It:=⟨1,v.id,0,0,Qk v⟩
theorem qgy {v:Vol} (h:vD v):Zm (Xm v):=by have:=JV v;exact⟨⟨(by decide:(0:Int)<=1),(by decide:(1:Int)<256)⟩,h.1,⟨(by decide:(0:Int)<=0),(by decide:(0:Int)<4294967296)⟩,⟨(by decide:(0:Int)<=0),(by decide:(0:Int)<256)⟩,by show (Qk v).length<=12;omega⟩
def setE (S:Sto) (root:Int) (v:Vol):Except Int (Nat×Sto):=match qu S root.toNat with
 |none=>.error 8
 |some (lvl,xs)=>Tx S lvl.toNat xs root.toNat (Xm v)
def SetQ (S:Sto) (gen root next:Int) (dead:List Int) (v:Vol) (w:World) (e:Ending) (w':World):Prop:=Below w.heap.size w w' /\
 ((e=.returned (.tuple #[JG,.int .i64 8])/\zj S root next dead)\/∃ vs refs nodes,Qg S root next dead vs/\qX S (Qs root dead vs) refs nodes/\QF S refs /\
  ((∃ er,er≠0/\e=.returned (.tuple #[JG,.int .i64 er])/\(je S next v vs refs=er\/(je S next v vs refs=0/\(setE S root v=.error er\/(er=8/\∃ r S',setE S root v=.ok (r,S')/\zj S' (r:Int) next dead))))) \/
   ∃ r S' vs' u,je S next v vs refs=0/\setE S root v=.ok (r,S')/\JK S' (r:Int) next dead vs'/\e=.returned (.tuple #[u,.int .i64 0])/\Jf w.heap.size S' gen (r:Int) next dead u w'))
def qee (lo:Nat) (S:Sto) (r:Nat):Qa:=⟨(Nat×Nat)×(Option Addr×Nat)×(Option Addr×Nat),fun p=>.tuple #[Qd (some ⟨p.1.1,0,none⟩) S.bs.length S.bs.length (some ⟨p.1.2,0,none⟩) S.ws.length (S.ws.length+1) p.2.1.1 S.now.length p.2.1.2 p.2.2.1 S.last.length p.2.2.2,.int .i64 (r:Int),.int .i64 0],
 fun p W=>QP lo S (Qd (some ⟨p.1.1,0,none⟩) S.bs.length S.bs.length (some ⟨p.1.2,0,none⟩) S.ws.length (S.ws.length+1) p.2.1.1 S.now.length p.2.1.2 p.2.2.1 S.last.length p.2.2.2) W⟩
theorem zZ (lo:Nat) (S:Sto) (r b c:Nat) (A3:Option Addr) (c3:Nat) (A4:Option Addr) (c4:Nat):(qee lo S r).f ((b,c),(A3,c3),(A4,c4))=.tuple #[Qd (some ⟨b,0,none⟩) S.bs.length S.bs.length (some ⟨c,0,none⟩) S.ws.length (S.ws.length+1) A3 S.now.length c3 A4 S.last.length c4,.int .i64 (r:Int),.int .i64 0]:=rfl
theorem qcl (lo:Nat) (S:Sto) (r:Nat):∀ p,qJ qj ((qee lo S r).φ p):=fun p W W' he h=>by have he:Ext W W':=he;exact QP.keep h (zM _) he.size fun b _ hb=>he.block b hb
def qdY (e:Int):Qa:=⟨Unit,fun _=>.tuple #[Qd none 0 0 none 0 0 none 0 0 none 0 0,.int .i64 0,.int .i64 e],fun _ _=>True⟩
theorem zY (e:Int) (u:Unit):(qdY e).f u=.tuple #[Qd none 0 0 none 0 0 none 0 0 none 0 0,.int .i64 0,.int .i64 e]:=rfl
theorem qch (e:Int):∀ p,qJ qj ((qdY e).φ p):=fun _ _ _ _ _=>trivial
theorem qbG {W C:World} {b:Nat} {ty:TypeId} {u0 u1 u2 u3 x0 x1 x2 x3:Value} (h:W.heap[b]?=some (.cells #[u0,u1,u2,u3] ty (0,0))) (hC:C=(((W.setCell ⟨b,0,none⟩ x0).setCell ⟨b,1,none⟩ x1).setCell ⟨b,2,none⟩ x2).setCell ⟨b,3,none⟩ x3):C.heap[b]?=some (.cells #[x0,x1,x2,x3] ty (0,0))/\(∀ k,k≠b->C.heap[k]?=W.heap[k]?)/\C.heap.size=W.heap.size/\∀ {B:Nat} {w0:World},B<=b->Below B w0 W->Below B w0 C:=by
 subst hC;exact⟨Vm h _ _ _ _,fun k hk=>(zJ _ _ _ _ hk).trans ((zJ _ _ _ _ hk).trans ((zJ _ _ _ _ hk).trans (zJ _ _ _ _ hk))),zA2,fun hb h0=>Zf h0 hb _ _ _ _⟩
theorem set_pool {W C:World} {b:Nat} {ty:TypeId} {u0 u1 u2 u3 u4 u5 u6 u7 x0 x1 x2 x3 x5 x7:Value} (h:W.heap[b]?=some (.cells #[u0,u1,u2,u3,u4,u5,u6,u7] ty (0,0))) (hC:C=(((((W.setCell ⟨b,0,none⟩ x0).setCell ⟨b,1,none⟩ x1).setCell ⟨b,2,none⟩ x2).setCell ⟨b,3,none⟩ x3).setCell ⟨b,5,none⟩ x5).setCell ⟨b,7,none⟩ x7):C.heap[b]?=some (.cells #[x0,x1,x2,x3,u4,x5,u6,x7] ty (0,0))/\(∀ k,k≠b->C.heap[k]?=W.heap[k]?)/\C.heap.size=W.heap.size/\∀ {B:Nat} {w0:World},B<=b->Below B w0 W->Below B w0 C:=by
 subst hC;refine⟨?_,fun k hk=>?_,zA2,fun hb h0=>Below.setCell (Below.setCell (Zf h0 hb _ _ _ _) (p:=⟨b,5,none⟩) hb _) (p:=⟨b,7,none⟩) hb _⟩
 ·exact qi (qi (qi (qi (qi (qi h 0 x0) 1 x1) 2 x2) 3 x3) 5 x5) 7 x7
 ·rw[zJ _ _ _ _ hk,zJ _ _ _ _ hk,zJ _ _ _ _ hk,zJ _ _ _ _ hk,zJ _ _ _ _ hk,zJ _ _ _ _ hk]
theorem Vu {lo:Nat} {S:Sto} {A1:Option Addr} {n1 c1:Nat} {A2:Option Addr} {n2 c2:Nat} {A3:Option Addr} {n3 c3:Nat} {A4:Option Addr} {n4 c4:Nat} {W:World} (h:NewSto lo S (Qd A1 n1 c1 A2 n2 c2 A3 n3 c3 A4 n4 c4) W):∀ C:World,PosZ lo W C->qU C W.heap.size (.slice A1 n1 c1) (.slice A2 n2 c2) (.slice A3 n3 c3) (.slice A4 n4 c4) S:=by obtain⟨B1,d1,B2,d2,B3,d3,B4,d4,e,hc⟩:=h;simp only[Value.agg.injEq,Array.mk.injEq,List.cons.injEq,Value.slice.injEq,and_true] at e;obtain⟨⟨rfl,rfl,rfl⟩,⟨rfl,rfl,rfl⟩,⟨rfl,rfl,rfl⟩,⟨rfl,rfl,rfl⟩⟩:=e;exact hc
theorem size8 {w:World} {b:Nat} {x0 x1 x2 x3 x4 x5 x6 x7:Value}:((((((((w.setCell ⟨b,0,none⟩ x0).setCell ⟨b,1,none⟩ x1).setCell ⟨b,2,none⟩ x2).setCell ⟨b,3,none⟩ x3).setCell ⟨b,4,none⟩ x4).setCell ⟨b,5,none⟩ x5).setCell ⟨b,6,none⟩ x6).setCell ⟨b,7,none⟩ x7).heap.size=w.heap.size:=zA2
theorem outIFs {lo:Nat} {k i o r:Int} {n:Nat} {l:List UInt8}:∀ p,QV ((qdc lo k i o r n l).φ p):=fun p W W' he h=>⟨(h.1.below he).more he.size,h.2⟩
theorem YR {R:Ending->World->Prop} {a:Act} {W:World} {b:Nat} {x0 x1 x2 x3 x4 x5 x6 x7 v:Value} (h4:a.tmps[4]?.getD undef=.pointer (some ⟨b,0,none⟩)) (h5:a.tmps[5]?.getD undef=v) (hd:a.defers=[]) (aF:W.heap[b]?=some (.cells #[x0,x1,x2,x3,x4,x5,x6,x7] 32 (0,0))) (hR:R (.returned (.tuple #[.agg #[x0,x1,x2,x3,x4,x5,x6,x7],v])) W):bodyPost prog Tryz.f24 R .ret a W:=by
 refine bodyPost_ret (v:=.tuple #[.agg #[x0,x1,x2,x3,x4,x5,x6,x7],v]) ?_ hd hR;have k:=qa aF;simp[results,results24,go_sem,h4,h5,k]
set_option maxRecDepth 100000 in
theorem qaX (A1:Option Addr) (n1 c1:Nat) (A2:Option Addr) (n2 c2:Nat) (A3:Option Addr) (n3 c3:Nat) (A4:Option Addr) (n4 c4:Nat) (gen root next:Int) (A5:Option Addr) (c5:Nat) (S:Sto) (dead:List Int) (v:Vol) (hv:vD v) (hT:8<=v.root->v.root<256->Zj S v.root.toNat≠0->okL S (-1) v.root=true) (w:World) (h:qU w w.heap.size (.slice A1 n1 c1) (.slice A2 n2 c2) (.slice A3 n3 c3) (.slice A4 n4 c4) S) (hd:Zw w w.heap.size (.slice A5 dead.length c5) dead):Calls prog 24 #[.agg (qF (.slice A1 n1 c1) (.slice A2 n2 c2) (.slice A3 n3 c3) (.slice A4 n4 c4) gen root next (.slice A5 dead.length c5)),jB v] w (SetQ S gen root next dead v w):=by
 have HA:=zH (fun W (hx:Ext w W)=>qhc A1 n1 c1 A2 n2 c2 A3 n3 c3 A4 n4 c4 gen root next A5 c5 S dead v hT W (h.ext hx) (hd.ext_ hx));have HO:=zH (fun W=>qiW v hv W);have hvi:=qgy hv;have HP:=zH (fun (hS:qm S=true) (a lvl:Nat) xs ha aj hn aN A c W (hx:Ext w W) hb=>qje A1 n1 c1 A2 n2 c2 A3 n3 c3 A4 n4 c4 S hS a lvl xs ha aj hn aN (Xm v) hvi A c W (h.ext hx) hb);replace h:=zH h;replace hT:=zH hT;replace hd:=zH hd;replace hvi:=zH hvi;go_enter func24,ntmps24;go_wp2_with fail;generalize aA:(World.alloc (World.alloc (World.alloc w _) _) _)=w1;have x1:Ext w w1:=by rw[<-aA];exact((zN _ _).trans (zN _ _)).trans (zN _ _)
 have lQ:w1.heap[w.heap.size]?=some (.cells (qF (.slice A1 n1 c1) (.slice A2 n2 c2) (.slice A3 n3 c3) (.slice A4 n4 c4) gen root next (.slice A5 dead.length c5)) 32 (0,0)):=by rw[<-aA];exact(zK _ _ _ zA1).trans ((zK _ _ _ zA2).trans (zI _ _ _ rfl))
 have wX:w1.heap[w.heap.size+1]?=some (.cells #[.int .u32 v.id,.int .i64 v.root,.bool v.fz,.int .u32 v.frm] 40 (0,0)):=by rw[<-aA];exact(zK _ _ _ zA2).trans (zI _ _ _ zA2)
 have iP:w1.heap[w.heap.size+2]?=some (.cells (qF (.slice none 0 0) (.slice none 0 0) (.slice none 0 0) (.slice none 0 0) 0 0 0 (.slice none 0 0)) 32 (0,0)):=by rw[<-aA];exact zI _ _ _ zA2
 clear aA;refine(HA.out w1 x1).mono ?_;clear HA;rintro e w2 ⟨hB,hQ⟩;have x2:Ext w w2:=Ext.trans x1 hB;have eP:=qb lQ hB;have pI:=qb wX hB;have dA:=qb iP hB;have zo2:w.heap.size+2<w2.heap.size:=(zG.1 dA).1;clear hB lQ wX iP x1;have ko2:=qa dA;have fo2:=qe dA;rcases hQ with ⟨rfl,aX⟩|⟨vs,refs,nodes,hp,lD,xB,rfl⟩
 ·replace aX:=zH aX;go_wp2_with fail;exact YR (b:=w.heap.size+2) rfl rfl rfl (jG dA _ _ _ _ _ _ _ _) ⟨zl x2 zO _ _ _ _ _ _ _ _,.inl ⟨rfl,aX.out⟩⟩
 ·have aK:=zH (fun e W (hb:Below w.heap.size w W) hx=>(⟨hb,.inr ⟨vs,refs,nodes,hp,lD,xB,hx⟩⟩:SetQ S gen root next dead v w e W));by_cases h0:je S next v vs refs=0
  case neg =>
   obtain⟨er,lu⟩:∃ er,je S next v vs refs=er:=⟨_,rfl⟩
   rw[lu] at h0 ⊢;have aG:(er != 0)=true:=by rw[bne_iff_ne];exact h0
   replace h0:=zH h0;replace lu:=zH lu;replace hp:=zH hp;replace lD:=zH lD;replace xB:=zH xB;go_wp2_with fail;exact YR (b:=w.heap.size+2) rfl rfl rfl (jG dA _ _ _ _ _ _ _ _) (aK.out _ _ (zl x2 zO _ _ _ _ _ _ _ _) (.inl ⟨er,h0.out,rfl,.inl lu.out⟩))
  case pos =>
   rw[h0];obtain⟨a,ha,h8,h256,lvl,xs,hn,aN⟩:=ZY hp.top;have hse:setE S root v=Tx S lvl xs a (Xm v):=by unfold setE;rw[ha,Int.toNat_natCast,hn];rfl
   have HP2:=zH (HP.out hp.may a lvl xs h8 h256 hn aN);have af:=zH (fun r S' (he:Tx S lvl xs a (Xm v)=.ok (r,S'))=>qgd hp.may h8 hn aN hvi.out he);have wO:=zH (fun er (he:Tx S lvl xs a (Xm v)=.error er)=>qgc he);rw[<-hse] at HP2 af wO;rw[<-ha] at HP2;have gW:=zH hp.few;replace h0:=zH h0;replace hp:=zH hp;replace lD:=zH lD;replace xB:=zH xB;clear hse HP hn aN hT ha;go_upto_region 4 with fail;rcases hq:setE S root v with er|⟨r,S'⟩
   ·have gP:∀ W,qj.r w2 W->∀ i,W.cell? ⟨w.heap.size,i,none⟩=(qF (.slice A1 n1 c1) (.slice A2 n2 c2) (.slice A3 n3 c3) (.slice A4 n4 c4) gen root next (.slice A5 dead.length c5))[i]?:=fun W h=>qa (qb eP h);have gV:∀ W,qj.r w2 W->∀ i,W.cell? ⟨w.heap.size+1,i,none⟩=#[.int .u32 v.id,.int .i64 v.root,.bool v.fz,.int .u32 v.frm][i]?:=fun W h=>qa (qb pI h);clear ko2 fo2;refine qp zQ ?_;refine vF 12 9 zE zQ rfl rfl zQ zQ zQ zQ ?_;dsimp only[jq,Array.push,List.push_toArray,List.concat_eq_append];refine vF 12 10 zE zQ rfl rfl zQ zQ zQ zQ ?_;dsimp only[jq,Array.push,List.push_toArray,List.concat_eq_append];refine qQ (w:=w2) qj (qH [(5,qdc w2.heap.size 1 v.id 0 0 (Qk v).length (Qk v)),(6,qdY er),(11,jS w2.heap.size 28 #[.slice none 0 0,.slice none 0 0,.slice none 0 0,.slice none 0 0])]) (List.replicate 12 true) 3 zQ zQ zQ zQ zQ zQ zQ ?st (Rel.drew _ _) ?walk
    case st=>exact qk (by simp only[List.forall_mem_cons];exact⟨fun p=>QI (outIFs p),qch _,fun p=>QI (ZP _ _ _ p),fun _ h=>by cases h⟩)
    case walk =>
     intro K hK;dsimp only[qt,List.replicate];repeat ((first|(refine qd ?_ zA0 zA0 (fun W hW _=>⟨W,?_,Rel.refl _ W⟩) ?_;rotate_left;(go_simp<;>with_reducible rfl))|(refine qh zA0 ?_));try simp only[Act.put,ql,qg,qc,qf,ZD,zZ,zY,jA,qc,zA,zB,zC])
     refine qw (qdc w2.heap.size 1 v.id 0 0 (Qk v).length (Qk v)) zA0 zA0 (fun W hW _=>?_) (fun p5=>?_)
     ·have hW:Ext w2 W:=hW;refine Qi ?_ ((HO.out W).mono fun e w' h=>?_)
      ·go_simp
      obtain⟨u,rfl,⟨A,c,rfl,hb,hf⟩,hB⟩:=h;exact⟨(A,c),rfl,⟨hb,hf.mono hW.size⟩,hB⟩
     obtain⟨A8,c8⟩:=p5;simp only[Act.put,qg,qc,qf,ZD,zZ,zY,jA,qc,zA,zB,zC];repeat ((first|(refine qd ?_ zA0 zA0 (fun W hW _=>⟨W,?_,Rel.refl _ W⟩) ?_;rotate_left;(go_simp<;>with_reducible rfl))|(refine qh zA0 ?_));try simp only[Act.put,ql,qg,qc,qf,ZD,zZ,zY,jA,qc,zA,zB,zC])
     refine qw (qdY er) zA0 zA0 (fun W hW hp=>?_) (fun (p:Unit)=>?_)
     ·have hW:Ext w2 W:=hW;have hb:Bys W W.heap.size (.slice A8 (Qk v).length c8) (Qk v):=(hp 5 zD).1.1;refine Qi ?_ ((HP2.out A8 c8 W (x2.trans hW) hb).mono fun e w' h=>?_)
      ·go_simp;exact⟨rfl,rfl,rfl,rfl,rfl⟩
      obtain⟨u,rfl,hu,hB⟩:=h;rw[hq] at hu;obtain rfl:u=_:=hu;exact⟨(),rfl,trivial,hB⟩
     simp only[Act.put,qg,qc,qf,ZD,zZ,zY,jA,qc,zA,zB,zC];repeat ((first|(refine qd ?_ zA0 zA0 (fun W hW _=>⟨W,?_,Rel.refl _ W⟩) ?_;rotate_left;(go_simp<;>with_reducible rfl))|(refine qh zA0 ?_));try simp only[Act.put,ql,qg,qc,qf,ZD,zZ,zY,jA,qc,zA,zB,zC])
     refine qw (jS w2.heap.size 28 #[.slice none 0 0,.slice none 0 0,.slice none 0 0,.slice none 0 0]) zA0 zA0 (fun W hW _=>?_) (fun (p11:Nat)=>?_)
     ·refine jN ?_ (Below.size hW);go_simp
     simp only[Act.put,qg,qc,qf,ZD,zZ,zY,jA,qc,zA,zB,zC];repeat ((first|(refine qd ?_ zA0 zA0 (fun W hW _=>⟨W,?_,Rel.refl _ W⟩) ?_;rotate_left;(go_simp<;>with_reducible rfl))|(refine qh zA0 ?_));try simp only[Act.put,ql,qg,qc,qf,ZD,zZ,zY,jA,qc,zA,zB,zC])
     refine qv (hK _ _ fun W hW hF=>?_);obtain⟨f11,aP⟩:W.heap[p11]?=some (.cells #[.slice none 0 0,.slice none 0 0,.slice none 0 0,.slice none 0 0] 28 (0,0))/\w2.heap.size<=p11:=(hF 11).1;clear hF hK gP gV;have hW:Ext w2 W:=hW;refine zC4 ?_;have k11:=qa f11;have h11:=qe f11;have rq2:=qb eP hW;have rz2:=qb dA hW;go_wp2;refine Qo ?_;generalize aO:World.setCell (World.setCell (World.setCell (World.setCell W _ _) _ _) _ _) _ _=w3;obtain⟨r3,o3,z3,b3⟩:=qbG f11 aO.symm;clear aO k11 h11 f11;have dY:=(o3 (w.heap.size+2) zO).trans rz2;have x3:Below w.heap.size w w3:=b3 zO (x2.trans hW);have ko3:=qa dY;have fo3:=qe dY;clear rq2 rz2;have aG:=wO.out er hq;have lL:(er != 0)=true:=by rw[bne_iff_ne];exact aG
     replace aG:=zH aG;replace hq:=zH hq;go_wp2_with fail;exact YR (b:=w.heap.size+2) rfl rfl rfl (jG dY _ _ _ _ _ _ _ _) (aK.out _ _ (zl x3 zO _ _ _ _ _ _ _ _) (.inl ⟨er,aG.out,rfl,.inr ⟨h0.out,.inl hq.out⟩⟩))
   ·have gP:∀ W,qj.r w2 W->∀ i,W.cell? ⟨w.heap.size,i,none⟩=(qF (.slice A1 n1 c1) (.slice A2 n2 c2) (.slice A3 n3 c3) (.slice A4 n4 c4) gen root next (.slice A5 dead.length c5))[i]?:=fun W h=>qa (qb eP h);have gV:∀ W,qj.r w2 W->∀ i,W.cell? ⟨w.heap.size+1,i,none⟩=#[.int .u32 v.id,.int .i64 v.root,.bool v.fz,.int .u32 v.frm][i]?:=fun W h=>qa (qb pI h);clear ko2 fo2;refine qp zQ ?_;refine vF 12 9 zE zQ rfl rfl zQ zQ zQ zQ ?_;dsimp only[jq,Array.push,List.push_toArray,List.concat_eq_append];refine vF 12 10 zE zQ rfl rfl zQ zQ zQ zQ ?_;dsimp only[jq,Array.push,List.push_toArray,List.concat_eq_append];refine qQ (w:=w2) qj (qH [(5,qdc w2.heap.size 1 v.id 0 0 (Qk v).length (Qk v)),(6,qee w2.heap.size S' r),(11,jS w2.heap.size 28 #[.slice none 0 0,.slice none 0 0,.slice none 0 0,.slice none 0 0])]) (List.replicate 12 true) 3 zQ zQ zQ zQ zQ zQ zQ ?st (Rel.drew _ _) ?walk
    case st=>exact qk (by simp only[List.forall_mem_cons];exact⟨fun p=>QI (outIFs p),qcl _ _ _,fun p=>QI (ZP _ _ _ p),fun _ h=>by cases h⟩)
    case walk =>
     intro K hK;dsimp only[qt,List.replicate];repeat ((first|(refine qd ?_ zA0 zA0 (fun W hW _=>⟨W,?_,Rel.refl _ W⟩) ?_;rotate_left;(go_simp<;>with_reducible rfl))|(refine qh zA0 ?_));try simp only[Act.put,ql,qg,qc,qf,ZD,zZ,zY,jA,qc,zA,zB,zC])
     refine qw (qdc w2.heap.size 1 v.id 0 0 (Qk v).length (Qk v)) zA0 zA0 (fun W hW _=>?_) (fun p5=>?_)
     ·have hW:Ext w2 W:=hW;refine Qi ?_ ((HO.out W).mono fun e w' h=>?_)
      ·go_simp
      obtain⟨u,rfl,⟨A,c,rfl,hb,hf⟩,hB⟩:=h;exact⟨(A,c),rfl,⟨hb,hf.mono hW.size⟩,hB⟩
     obtain⟨A8,c8⟩:=p5;simp only[Act.put,qg,qc,qf,ZD,zZ,zY,jA,qc,zA,zB,zC];repeat ((first|(refine qd ?_ zA0 zA0 (fun W hW _=>⟨W,?_,Rel.refl _ W⟩) ?_;rotate_left;(go_simp<;>with_reducible rfl))|(refine qh zA0 ?_));try simp only[Act.put,ql,qg,qc,qf,ZD,zZ,zY,jA,qc,zA,zB,zC])
     refine qw (qee w2.heap.size S' r) zA0 zA0 (fun W hW hp=>?_) (fun p=>?_)
     ·have hW:Ext w2 W:=hW;have hb:Bys W W.heap.size (.slice A8 (Qk v).length c8) (Qk v):=(hp 5 zD).1.1;refine Qi ?_ ((HP2.out A8 c8 W (x2.trans hW) hb).mono fun e w' h=>?_)
      ·go_simp;exact⟨rfl,rfl,rfl,rfl,rfl⟩
      obtain⟨u,rfl,hu,hB⟩:=h;rw[hq] at hu;obtain⟨v',rfl,hT⟩:=hu;obtain⟨BB,WW,gg,A3',c3',A4',gy,rfl,-⟩:=id hT;exact⟨((BB,WW),(A3',c3'),(A4',gy)),rfl,QP.keep hT hW.size (zM _) (fun _ _ _=>rfl),hB⟩
     obtain⟨⟨BB,WW⟩,⟨A3',c3'⟩,⟨A4',gy⟩⟩:=p;simp only[Act.put,qg,qc,qf,ZD,zZ,zY,jA,qc,zA,zB,zC];repeat ((first|(refine qd ?_ zA0 zA0 (fun W hW _=>⟨W,?_,Rel.refl _ W⟩) ?_;rotate_left;(go_simp<;>with_reducible rfl))|(refine qh zA0 ?_));try simp only[Act.put,ql,qg,qc,qf,ZD,zZ,zY,jA,qc,zA,zB,zC])
     refine qw (jS w2.heap.size 28 #[.slice none 0 0,.slice none 0 0,.slice none 0 0,.slice none 0 0]) zA0 zA0 (fun W hW _=>?_) (fun (p11:Nat)=>?_)
     ·refine jN ?_ (Below.size hW);go_simp
     simp only[Act.put,qg,qc,qf,ZD,zZ,zY,jA,qc,zA,zB,zC];repeat ((first|(refine qd ?_ zA0 zA0 (fun W hW _=>⟨W,?_,Rel.refl _ W⟩) ?_;rotate_left;(go_simp<;>with_reducible rfl))|(refine qh zA0 ?_));try simp only[Act.put,ql,qg,qc,qf,ZD,zZ,zY,jA,qc,zA,zB,zC])
     refine qv (hK _ _ fun W hW hF=>?_);obtain⟨f11,aP⟩:W.heap[p11]?=some (.cells #[.slice none 0 0,.slice none 0 0,.slice none 0 0,.slice none 0 0] 28 (0,0))/\w2.heap.size<=p11:=(hF 11).1;have hTw:QP w2.heap.size S' (Qd (some ⟨BB,0,none⟩) S'.bs.length S'.bs.length (some ⟨WW,0,none⟩) S'.ws.length (S'.ws.length+1) A3' S'.now.length c3' A4' S'.last.length gy) W:=(hF 6).1;clear hF hK gP gV;have hW:Ext w2 W:=hW;refine zC4 ?_;have k11:=qa f11;have h11:=qe f11;have z11:=(zG.1 f11).1;have rq2:=qb eP hW;have rz2:=qb dA hW;go_wp2;refine Qo ?_;generalize aO:World.setCell (World.setCell (World.setCell (World.setCell W _ _) _ _) _ _) _ _=w3;obtain⟨r3,o3,z3,b3⟩:=qbG f11 aO.symm;have hTw3:=QP.keepT (lo':=w2.heap.size) hTw (zM _) zO f11 zD (fun b _ _ aG=>o3 b aG);clear aO k11 h11 f11;have nX:=(o3 w.heap.size zO).trans rq2;have dY:=(o3 (w.heap.size+2) zO).trans rz2;have x3:Below w.heap.size w w3:=b3 zO (x2.trans hW);have ko3:=qa dY;have fo3:=qe dY;have zo3:w.heap.size+1+1<w3.heap.size:=(zG.1 dY).1;clear rq2 rz2;have hmay:=af.out r S' hq;have pX:=Vu (hTw3.newSto (zu hmay.1));replace hq:=zH hq;replace pX:=zH pX;replace hmay:=zH hmay;clear hTw3 af wO HP2;go_upto_region 7 with fail;have HI:=zH (fun W (hW:Ext w3 W)=>qhm (.slice A5 dead.length c5) dead (by have:=gW.out;omega) W (hd.out.ext_ (x3.trans (Below.mono hW x3.size))));have gP:∀ W,qj.r w3 W->∀ i,W.cell? ⟨w.heap.size,i,none⟩=(qF (.slice A1 n1 c1) (.slice A2 n2 c2) (.slice A3 n3 c3) (.slice A4 n4 c4) gen root next (.slice A5 dead.length c5))[i]?:=fun W h=>qa (qb nX h);obtain⟨nb,lL⟩:∃ nb,S'.bs.length=nb:=⟨_,rfl⟩
     obtain⟨nw,hnw⟩:∃ nw,S'.ws.length=nw:=⟨_,rfl⟩
     obtain⟨nn,yt⟩:∃ nn,S'.now.length=nn:=⟨_,rfl⟩
     obtain⟨nl,hnl⟩:∃ nl,S'.last.length=nl:=⟨_,rfl⟩
     rw[lL,hnw,yt,hnl] at pX r3 ⊢;have lI:=zH (And.intro lL (And.intro hnw (And.intro yt hnl)));clear lL hnw yt hnl;have gS:∀ W,qj.r w3 W->∀ i,W.cell? ⟨p11,i,none⟩=#[.slice (some ⟨BB,0,none⟩) nb nb,.slice (some ⟨WW,0,none⟩) nw (nw+1),.slice A3' nn c3',.slice A4' nl gy][i]?:=fun W h=>qa (qb r3 h);clear ko3 fo3;refine qp zQ ?_;refine zF 1 10 (.int .i64 (r:Int)) zQ zA5 zQ zQ zQ zA0 (fun W=>?_) ?_
     ·go_simp
     simp only[Act.put,qg,qc,qf,ZD,zZ,zY,jA,qc,zA,zB,zC];refine qQ (w:=w3) qj (qH [(4,outN w3.heap.size dead.length dead)]) [true,false,true,true,true,true] 5 zQ zQ zQ zQ zQ zQ zQ ?st (Rel.drew _ _) ?walk
     case st=>exact qk (by simp only[List.forall_mem_cons];exact⟨fun p=>QI (qfW _ _ _ p),fun _ h=>by cases h⟩)
     case walk =>
      intro K hK;dsimp only[qt,List.replicate];repeat ((first|(refine qd ?_ zA0 zA0 (fun W hW _=>⟨W,?_,Rel.refl _ W⟩) ?_;rotate_left;(go_simp<;>with_reducible rfl))|(refine qh zA0 ?_));try simp only[Act.put,ql,qg,qc,qf,ZD,zZ,zY,jA,qc,zA,zB,zC])
      refine qw (outN w3.heap.size dead.length dead) zA0 zA0 (fun W hW _=>?_) (fun p=>?_)
      ·have hW:Ext w3 W:=hW;refine Qi ?_ ((HI.out W hW).mono fun e w' h=>?_)
       ·go_simp
       obtain⟨u,rfl,hu,hB⟩:=h;obtain⟨A',c',rfl,_,_⟩:=qz hu;exact⟨(A',c'),rfl,⟨Zw.of_ownT hu,(Zo.of_own hu).mono hW.size⟩,hB⟩
      obtain⟨B5,d5⟩:=p;simp only[Act.put,qg,qc,qf,ZD,zZ,zY,jA,qc,zA,zB,zC];repeat ((first|(refine qd ?_ zA0 zA0 (fun W hW _=>⟨W,?_,Rel.refl _ W⟩) ?_;rotate_left;(go_simp<;>with_reducible rfl))|(refine qh zA0 ?_));try simp only[Act.put,ql,qg,qc,qf,ZD,zZ,zY,jA,qc,zA,zB,zC])
      refine qv (hK _ _ fun V hV hF=>?_);have hI:Zw (thaw V) V.heap.size (.slice B5 dead.length d5) dead/\Zo w3.heap.size (.slice B5 dead.length d5):=(hF 4).1;clear hF hK gP gS HI;have hV:Ext w3 V:=hV;refine zC4 ?_;have nY:=qb nX hV;have fE:=qb dY hV;have kp4:=qa nY;have fp4:=qe nY;replace hI:=zH hI;clear nX dY;go_wp2;refine Qo ?_;generalize aV:World.setCell (World.setCell (World.setCell (World.setCell (World.setCell (World.setCell V _ _) _ _) _ _) _ _) _ _) _ _=w5;obtain⟨sS,o5,z5,b5⟩:=set_pool nY aV.symm;clear aV kp4 fp4;have xg:=(o5 (w.heap.size+2) zO).trans fE;have x5:Below w.heap.size w w5:=b5 (zM _) (x3.trans (Below.mono hV x3.size));have hzV:=hV.size;have hGW:∀ k,w.heap.size<k->k<w3.heap.size->w5.heap[k]?=w3.heap[k]?:=fun k h1 h2=>(o5 k zO).trans (hV.block k h2);have uk:=(pX.out w5 (JH fun k h1 h2=>hGW k zO h2)).more (show w3.heap.size<=w5.heap.size by omega);have hin5:Zw w5 w5.heap.size (.slice B5 dead.length d5) dead:=by rw[z5];exact hI.out.1.pos hI.out.2 fun q u h1 h2 h3=>(World.cell?_of_block (o5 q.block zO)).trans (Gq h3).1
      have HCk:=zH (qhP (some ⟨BB,0,none⟩) nb nb (some ⟨WW,0,none⟩) nw (nw+1) A3' nn c3' A4' nl gy gen (r:Int) next B5 d5 S' dead w5 uk hin5);have kp5:=qa sS;replace hGW:=zH hGW;clear uk hin5;go_wp2_with fail;refine HCk.out.mono ?_;clear HCk;rintro e w6 ⟨dC,hQ6⟩;have x6:Below w.heap.size w w6:=x5.trans (Below.mono dC x5.size);have rp6:=qb sS dC;have gJ:=qb xg dC;have ko6:=qa gJ;have fo6:=qe gJ;have h56:=zH (fun k (hk:k<w5.heap.size)=>Below.block dC k hk);have z56:=dC.size;clear dC nY fE kp5;rcases hQ6 with ⟨rfl,ae⟩|⟨rfl,vs',refs',nodes',gm,uF,he'⟩
      ·replace ae:=zH ae;go_wp2_with fail;exact YR (b:=w.heap.size+2) rfl rfl rfl (jG gJ _ _ _ _ _ _ _ _) (aK.out _ _ (zl x6 zO _ _ _ _ _ _ _ _) (.inl ⟨8,zD,rfl,.inr ⟨h0.out,.inr ⟨rfl,r,S',hq.out,ae.out⟩⟩⟩))
      ·have hok:=zH (⟨refs',nodes',gm,uF,he'⟩:JK S' (r:Int) next dead vs');have kp6:=qa rp6;clear gm uF he';go_wp2_with fail;refine YR (b:=w.heap.size+2) rfl rfl rfl (jG gJ _ _ _ _ _ _ _ _) (aK.out _ _ (zl x6 zO _ _ _ _ _ _ _ _) (.inr ⟨r,S',vs',_,h0.out,hq.out,hok.out,rfl,?_⟩));refine⟨some ⟨BB,0,none⟩,nb,some ⟨WW,0,none⟩,nw+1,A3',c3',A4',gy,B5,d5,?_,fun C hC=>?_⟩
       ·rw[lI.out.1,lI.out.2.1,lI.out.2.2.1,lI.out.2.2.2]
       ·rw[lI.out.1,lI.out.2.1,lI.out.2.2.1,lI.out.2.2.2];rw[size8];have hs:=fun (k:Nat) (hk:k≠w.heap.size+2)=>jz (w:=w6) hk (.slice (some ⟨BB,0,none⟩) nb nb) (.slice (some ⟨WW,0,none⟩) nw (nw+1)) (.slice A3' nn c3') (.slice A4' nl gy) (.int .u32 gen) (.int .i64 (r:Int)) (.int .u32 next) (.slice B5 dead.length d5);have q1:=pX.out C fun q u h1 h2 h3=>hC q u zO (by rw[size8];omega) ((Jn ((hs q.block zO).trans ((h56.out q.block zO).trans (hGW.out q.block zO h2)))).trans h3);have q2:=hI.out.1.pos hI.out.2 (C:=C) fun q u h1 h2 h3=>hC q u zO (by rw[size8];omega) ((Jn ((hs q.block zO).trans ((h56.out q.block zO).trans (o5 q.block zO)))).trans h3);exact⟨q1.more zO,q2.more zO⟩
def qgH (S:Sto) (root next:Int) (dead:List Int) (w:World) (e:Ending) (w':World):Prop:=Below w.heap.size w w' /\
 ((e=.returned (.tuple #[.slice none 0 0,.int .i64 8])/\∀ vs,Qg S root next dead vs->∃ refs nodes,qX S (Qs root dead vs) refs nodes/\¬QF S refs) \/
  ∃ vs refs nodes cb ca vv lo,e=.returned (.tuple #[vv,.int .i64 0])/\w.heap.size<=lo/\Taken S root next dead vs refs nodes lo cb ca vv w')
theorem qcM {R:Ending->World->Prop} {a:Act} {W:World} {u v:Value} (h2:a.tmps[2]?.getD undef=u) (h3:a.tmps[3]?.getD undef=v) (hd:a.defers=[]) (hR:R (.returned (.tuple #[u,v])) W):bodyPost prog Tryz.f17 R .ret a W:=by refine bodyPost_ret (v:=.tuple #[u,v]) ?_ hd hR;simp[results,results17,go_sem,h2,h3]
set_option maxRecDepth 100000 in
theorem UV (A1:Option Addr) (n1 c1:Nat) (A2:Option Addr) (n2 c2:Nat) (A3:Option Addr) (n3 c3:Nat) (A4:Option Addr) (n4 c4:Nat) (gen root next:Int) (A5:Option Addr) (c5:Nat) (S:Sto) (dead:List Int) (w:World) (h:qU w w.heap.size (.slice A1 n1 c1) (.slice A2 n2 c2) (.slice A3 n3 c3) (.slice A4 n4 c4) S) (hd:Zw w w.heap.size (.slice A5 dead.length c5) dead):Calls prog 17 #[.agg (qF (.slice A1 n1 c1) (.slice A2 n2 c2) (.slice A3 n3 c3) (.slice A4 n4 c4) gen root next (.slice A5 dead.length c5))] w (qgH S root next dead w):=by
 have HT:=zH (fun W (hx:Ext w W)=>KB A1 n1 c1 A2 n2 c2 A3 n3 c3 A4 n4 c4 gen root next A5 c5 S dead W (h.ext hx) (by obtain⟨A,c,e,q1,q2,q3⟩:=hd;exact⟨A,c,e,q1,q2,(q3.below hx).more hx.size⟩));clear h hd;go_enter func17,ntmps17;go_wp2_with fail;generalize aA:World.alloc w _=w1;have x1:Ext w w1:=by rw[<-aA];exact zN _ _
 clear aA;refine(HT.out w1 x1).mono ?_;rintro e w2 ⟨hB,hQ⟩;have x2:Below w.heap.size w w2:=Ext.trans x1 hB;rcases hQ with ⟨rfl,aX⟩|⟨vs,refs,nodes,cb,ca,vv,rfl,hT⟩
 ·have HB:qgH S root next dead w (.returned (.tuple #[.slice none 0 0,.int .i64 8])) w2:=⟨x2,.inl ⟨rfl,aX⟩⟩
  replace HB:=zH HB;clear aX hB;go_wp2_with fail;exact qcM rfl rfl rfl HB.out
 ·have kc:w2.cell? ⟨cb,518,none⟩=some vv:=by rw[qa hT.row];exact hT.ar.vol
  obtain⟨AV,cV,rfl,-,-⟩:=qz hT.own;have HB:qgH S root next dead w (.returned (.tuple #[.slice AV vs.length cV,.int .i64 0])) w2:=⟨x2,.inr ⟨vs,refs,nodes,cb,ca,_,_,rfl,x1.size,hT⟩⟩
  replace HB:=zH HB;clear hT hB;go_wp2_with fail;exact qcM rfl rfl rfl HB.out
def VE (S:Sto) (a:Nat):Except Int Sto:=match QQ S (-1) S.now a with
 |none=>.error 8
 |some t=>.ok (qy S t)
def Jd (S:Sto) (a:Int):Except Int Sto:=if JJ S a=0 then VE S a.toNat else .error (JJ S a)
theorem qfG {S:Sto} {a:Nat} (h:QQ S (-1) S.now a=none):VE S a=.error 8:=by unfold VE;rw[h]
theorem qfH {S:Sto} {a:Nat} {t:List UInt8} (h:QQ S (-1) S.now a=some t):VE S a=.ok (qy S t):=by unfold VE;rw[h]
def StoE (q:Except Int Sto) (lo:Nat) (u:Value) (W:World):Prop:=match q with
 | .error e=>u=.tuple #[Qd none 0 0 none 0 0 none 0 0 none 0 0,.int .i64 e]
 | .ok S'=>∃ v,u=.tuple #[v,.int .i64 0]/\QP lo S' v W
theorem qhz {S:Sto} {a:Int} (h:JJ S a≠0):Jd S a=.error (JJ S a):=by unfold Jd;rw[if_neg h]
theorem qjZ {S:Sto} {a:Nat} (h:JJ S a=0):Jd S a=VE S a:=by unfold Jd;rw[if_pos h,Int.toNat_natCast]
theorem Tn {R:Ending->World->Prop} {a:Act} {W:World} {b:Nat} {x0 x1 x2 x3 v:Value} (h4:a.tmps[4]?.getD undef=.pointer (some ⟨b,0,none⟩)) (h5:a.tmps[5]?.getD undef=v) (hd:a.defers=[]) (aF:W.heap[b]?=some (.cells #[x0,x1,x2,x3] 28 (0,0))) (hR:R (.returned (.tuple #[.agg #[x0,x1,x2,x3],v])) W):bodyPost prog Tryz.f75 R .ret a W:=by
 refine bodyPost_ret (v:=.tuple #[.agg #[x0,x1,x2,x3],v]) ?_ hd hR;have k:=qa aF;simp[results,results75,go_sem,h4,h5,k]
set_option maxRecDepth 100000 in
theorem qfn (D:Nat->Prop) (B lo b g:Nat) (k:Option Nat) (S:Sto) (hS:qm S=true) (a:Nat) (ha:8<=a) (aj:a<256) (bat:Nat) (w:World) (fG:w.heap[bat]?=some (.cells #[.int .i64 (a:Int)] 3 (0,0))) (h:Bch D B lo b g k S w):Calls prog 131 #[.pointer (some ⟨b,0,none⟩),.pointer (some ⟨bat,0,none⟩)] w (jH D B lo b g k S a w):=by
 have HB:=zH (qaL D B lo b g k S hS a ha aj w h);have ka:=qa fG;clear h;go_enter func131,ntmps131;go_wp2_with fail;refine HB.out.mono ?_;clear HB;intro e W hQ;obtain⟨er,rfl⟩:∃ er,e=.returned (.int .i64 er):=by
  obtain⟨_,hc⟩:=hQ;split at hc
  ·exact⟨_,hc⟩
  ·exact⟨_,hc.1⟩
 replace hQ:=zH hQ;go_wp2_with fail;go_ret;exact hQ.out
set_option maxRecDepth 100000 in
theorem qgY (A1:Option Addr) (n1 c1:Nat) (A2:Option Addr) (n2 c2:Nat) (A3:Option Addr) (n3 c3:Nat) (A4:Option Addr) (n4 c4:Nat) (S:Sto) (hS:qm S=true) (a:Nat) (ha:8<=a) (aj:a<256) (bat:Nat) (w:World) (fG:w.heap[bat]?=some (.cells #[.int .i64 (a:Int)] 3 (0,0))) (h:qU w w.heap.size (.slice A1 n1 c1) (.slice A2 n2 c2) (.slice A3 n3 c3) (.slice A4 n4 c4) S):Calls prog 130 #[Qd A1 n1 c1 A2 n2 c2 A3 n3 c3 A4 n4 c4,.func (.func 131) #[] #[.pointer (some ⟨bat,0,none⟩)]] w (Za (StoE (VE S a) w.heap.size) w):=by
 obtain⟨q,hq⟩:∃ q,VE S a=q:=⟨_,rfl⟩
 rw[hq];replace hq:=zH hq;have HON:=zH (fun W (hx:Ext w W)=>qdV A1 n1 c1 A2 n2 c2 A3 n3 c3 A4 n4 c4 S (by have:=(Qc hS).2.2.1;omega) W (h.ext hx));replace h:=zH h;replace hS:=zH hS;go_enter func130,ntmps130;go_wp2_with fail;generalize aA:(World.alloc (World.alloc w _) _)=w1;have x1:Ext w w1:=by rw[<-aA];exact(zN _ _).trans (zN _ _)
 have iP:w1.heap[w.heap.size+1]?=some (.cells #[.slice none 0 0,.slice none 0 0,.slice none 0 0,.slice none 0 0] 28 (0,0)):=by rw[<-aA];exact zI _ _ _ zA2
 clear aA;refine(HON.out w1 x1).mono ?_;clear HON;rintro e w2 ⟨u,rfl,⟨b,P3,d3,rfl,aP,aF,aB⟩,hB⟩;have x12:Ext w1 w2:=hB;have x2:Ext w w2:=x1.trans x12;have dA:=qb iP x12;obtain⟨g,iC⟩:=Bch.of_on (B:=w.heap.size) x1.size hS.out (h.out.below x2) aP aF aB;have HL:=zH (qfn (fun _=>False) w.heap.size w1.heap.size b g none S hS.out a ha aj bat w2 (qb fG x2) iC);have nB:¬B3 b g none (w.heap.size+1):=iC.notB3 dA zD zD zD;replace iC:=zH iC;clear hB iP aF aB;go_wp2_with fail;refine HL.out.mono ?_;clear HL;rintro e w3 ⟨hK,hQ⟩;have dY:=hK.row dA nB;have x3:Below w.heap.size w w3:=Below.trans x2 (Below.mono hK.below x1.size);have zo3:=(zG.1 dY).1;have ko3:=qa dY;have fo3:=qe dY;clear hK nB dA iC;rcases hl:QQ S (-1) S.now a with _|t
 ·rw[hl] at hQ;obtain rfl:=hQ;obtain rfl:q=.error 8:=by rw[<-hq.out,qfG hl]
  clear hl hq;go_wp2_with fail;exact qcJ (b:=w.heap.size+1) rfl rfl rfl (Vm dY _ _ _ _) ⟨_,rfl,rfl,Zf x3 zO _ _ _ _⟩
 ·rw[hl] at hQ;obtain⟨rfl,dK⟩:=hQ;have og:=zH (show q=.ok (qy S t) by rw[<-hq.out,qfH hl]);obtain⟨E1,m1,e1,E2,m2,e2,e3,E4,e4,hrb,hsb⟩:=dK.sto;have fK:Gu (qy S t):=zu (qE.2 ⟨(qE.1 hS.out).1,Ya ha (qE.1 hS.out).2.1 hl,(qE.1 hS.out).2.2⟩);have HT:=zH (KJ b E1 m1 e1 E2 m2 e2 (some ⟨g,0,none⟩) 256 e3 E4 256 e4 (qy S t) fK w3 hrb hsb);replace hl:=zH hl;clear dK hrb hsb fK ko3 fo3;go_wp2_with fail;refine HT.out.mono ?_;clear HT;rintro e w4 ⟨u,rfl,hu,hB⟩;have bV:Ext w3 w4:=hB;have x4:Below w.heap.size w w4:=x3.trans (Below.mono bV x3.size);have fE:=qb dY bV;have ko4:=qa fE;have fo4:=qe fE;have hK:=fun x0 x1 x2 x3'=>hu.set4 (b:=w.heap.size+1) (show w.heap.size<=w3.heap.size by omega) zo3 x0 x1 x2 x3';obtain⟨BB,WW,gg,B3,d3,B4,d4,rfl,-⟩:=id hu;replace hK:=zH hK;replace hu:=zH hu;clear hB dY x3;go_wp2_with fail;exact qcJ (b:=w.heap.size+1) rfl rfl rfl (Vm fE _ _ _ _) ⟨_,rfl,by rw[og.out];exact⟨_,rfl,hK.out _ _ _ _⟩,Zf x4 zO _ _ _ _⟩
set_option maxRecDepth 100000 in
theorem qgZ (A1:Option Addr) (n1 c1:Nat) (A2:Option Addr) (n2 c2:Nat) (A3:Option Addr) (n3 c3:Nat) (A4:Option Addr) (n4 c4:Nat) (S:Sto) (a:Int) (w:World) (h:qU w w.heap.size (.slice A1 n1 c1) (.slice A2 n2 c2) (.slice A3 n3 c3) (.slice A4 n4 c4) S):Calls prog 75 #[Qd A1 n1 c1 A2 n2 c2 A3 n3 c3 A4 n4 c4,.int .i64 a] w (Za (StoE (Jd S a) w.heap.size) w):=by
 have HA:=zH (fun W (hx:Ext w W)=>qfr A1 n1 c1 A2 n2 c2 A3 n3 c3 A4 n4 c4 S a W (h.ext hx));obtain⟨q,hq⟩:∃ q,Jd S a=q:=⟨_,rfl⟩
 rw[hq];replace hq:=zH hq;replace h:=zH h;go_enter func75,ntmps75;go_wp2_with fail;generalize aA:(World.alloc (World.alloc (World.alloc w _) _) _)=w1;have x1:Ext w w1:=by rw[<-aA];exact((zN _ _).trans (zN _ _)).trans (zN _ _)
 have tX:w1.heap[w.heap.size]?=some (.cells #[.slice A1 n1 c1,.slice A2 n2 c2,.slice A3 n3 c3,.slice A4 n4 c4] 28 (0,0)):=by rw[<-aA];exact(zK _ _ _ (by simp;try omega)).trans ((zK _ _ _ zA2).trans (zI _ _ _ rfl))
 have ra1:w1.heap[w.heap.size+1]?=some (.cells #[.int .i64 a] 3 (0,0)):=by rw[<-aA];exact(zK _ _ _ zA2).trans (zI _ _ _ zA2)
 have iP:w1.heap[w.heap.size+2]?=some (.cells #[.slice none 0 0,.slice none 0 0,.slice none 0 0,.slice none 0 0] 28 (0,0)):=by rw[<-aA];exact zI _ _ _ zA2
 have kk1:=qa ra1;have ks1:=qa tX;clear aA;go_wp2_with fail;refine(HA.out w1 x1).mono ?_;clear HA;rintro e w2 ⟨rfl,hB⟩;have x2:Ext w w2:=x1.trans hB;have xh:=qb tX hB;have ra2:=qb ra1 hB;have dA:=qb iP hB;clear hB tX iP x1 ks1 kk1 ra1;by_cases h0:JJ S a=0
 ·obtain⟨hS,m,rfl,wJ,dw,lV⟩:=Xp h0;have HD:=qgY A1 n1 c1 A2 n2 c2 A3 n3 c3 A4 n4 c4 S hS m wJ dw (w.heap.size+1) w2 ra2 (h.out.ext x2);have ks2:=qa xh;rw[(show VE S m=q by rw[<-hq.out,qjZ h0])] at HD;rw[h0];replace hS:=zH hS;clear lV h0 hq;go_wp2_with fail;refine HD.mono ?_;clear HD;rintro e w3 ⟨u,rfl,hT,hB⟩;have x3:Ext w w3:=x2.trans hB;have dY:=qb dA hB;have zo2:w.heap.size+2<w2.heap.size:=(zG.1 dA).1;have ko3:=qa dY;have fo3:=qe dY;clear hB ks2 xh ra2 dA x2;rcases q with er|S'
  ·obtain rfl:=hT;go_wp2_with fail;exact Tn (b:=w.heap.size+2) rfl rfl rfl (Vm dY _ _ _ _) ⟨_,rfl,rfl,Zf x3 zO _ _ _ _⟩
  ·obtain⟨v,rfl,hT⟩:=hT;have hK:=fun x0 x1 x2 x3'=>hT.set4 (b:=w.heap.size+2) (show w.heap.size<=w2.heap.size by omega) zo2 x0 x1 x2 x3';obtain⟨BB,WW,gg,B3,d3,B4,d4,rfl,hD,hN,hL⟩:=hT;replace hK:=zH hK;clear hD hN hL;go_wp2_with fail;exact Tn (b:=w.heap.size+2) rfl rfl rfl (Vm dY _ _ _ _) ⟨_,rfl,⟨_,rfl,hK.out _ _ _ _⟩,Zf x3 zO _ _ _ _⟩
 ·obtain⟨er,lu⟩:∃ er,JJ S a=er:=⟨_,rfl⟩
  obtain rfl:q=.error er:=by rw[<-hq.out,qhz h0,lu]
  rw[lu] at h0 ⊢;have he:(er != 0)=true:=by rw[bne_iff_ne];exact h0
  have ko2:=qa dA;have fo2:=qe dA;clear lu hq h0;go_wp2_with fail;exact Tn (b:=w.heap.size+2) rfl rfl rfl (Vm dA _ _ _ _) ⟨_,rfl,rfl,Zf x2 zO _ _ _ _⟩
def YJ (S:Sto) (root next:Int) (dead:List Int) (v:Vol) (er:Int):Prop:=(er=8/\zj S root next dead)\/∃ vs refs nodes,Qg S root next dead vs/\qX S (Qs root dead vs) refs nodes/\QF S refs /\
 (je S next v vs refs=er\/(je S next v vs refs=0/\(setE S root v=.error er\/(er=8/\∃ r S',setE S root v=.ok (r,S')/\zj S' (r:Int) next dead))))
def kz (S:Sto) (root next:Int) (dead:List Int) (v:Vol) (r:Nat) (S':Sto) (vs':List Vol):Prop:=∃ vs refs nodes,Qg S root next dead vs/\qX S (Qs root dead vs) refs nodes/\QF S refs /\
 je S next v vs refs=0/\setE S root v=.ok (r,S')/\JK S' (r:Int) next dead vs'
theorem SetQ.split {S:Sto} {gen root next:Int} {dead:List Int} {v:Vol} {w w':World} {e:Ending} (h:SetQ S gen root next dead v w e w'):Below w.heap.size w w' /\ ((∃ er,er≠0/\e=.returned (.tuple #[JG,.int .i64 er])/\YJ S root next dead v er) \/
   ∃ r S' vs' u,kz S root next dead v r S' vs'/\e=.returned (.tuple #[u,.int .i64 0])/\Jf w.heap.size S' gen (r:Int) next dead u w'):=by
 obtain⟨hB,h⟩:=h;refine⟨hB,?_⟩;rcases h with ⟨rfl,hb⟩|⟨vs,refs,nodes,hp,hc,he,h⟩
 ·exact .inl ⟨8,zD,rfl,.inl ⟨rfl,hb⟩⟩
 ·rcases h with ⟨er,h0,e1,h⟩|⟨r,S',vs',u,h1,h2,h3,h4,h5⟩
  ·exact .inl ⟨er,h0,e1,.inr ⟨vs,refs,nodes,hp,hc,he,h⟩⟩
  ·exact .inr ⟨r,S',vs',u,⟨vs,refs,nodes,hp,hc,he,h1,h2,h3⟩,h4,h5⟩
theorem Jf.sto {lo:Nat} {S:Sto} {gen root next:Int} {dead:List Int} {u:Value} {W:World} (h:Jf lo S gen root next dead u W):∃ A1 c1 A2 c2 A3 c3 A4 c4 A5 c5,u=.agg (qF (.slice A1 S.bs.length c1) (.slice A2 S.ws.length c2) (.slice A3 S.now.length c3) (.slice A4 S.last.length c4) gen root next (.slice A5 dead.length c5)) /\
  qU W W.heap.size (.slice A1 S.bs.length c1) (.slice A2 S.ws.length c2) (.slice A3 S.now.length c3) (.slice A4 S.last.length c4) S/\Zw W W.heap.size (.slice A5 dead.length c5) dead:=by
 obtain⟨A1,c1,A2,c2,A3,c3,A4,c4,A5,c5,e,h⟩:=h;exact⟨A1,c1,A2,c2,A3,c3,A4,c4,A5,c5,e,h W fun q v h1 h2 h3=>(Gq h3).1⟩
theorem Jf.keep {lo lo':Nat} {S:Sto} {gen root next:Int} {dead:List Int} {u:Value} {W W':World} (h:Jf lo S gen root next dead u W) (hl:lo'<=lo) (hs:W.heap.size<=W'.heap.size) (hk:∀ k,lo<=k->k<W.heap.size->W'.heap[k]?=W.heap[k]?):Jf lo' S gen root next dead u W':=by obtain⟨A1,c1,A2,c2,A3,c3,A4,c4,A5,c5,e,h⟩:=h;refine⟨A1,c1,A2,c2,A3,c3,A4,c4,A5,c5,e,fun C hC=>?_⟩;obtain⟨h1,h2⟩:=h C fun q v h1 h2 h3=>hC q v zO zO ((Jn (hk q.block h1 h2)).trans h3);exact⟨h1.more hs,h2.more hs⟩
theorem same8 {w:World} {b:Nat} {x0 x1 x2 x3 x4 x5 x6 x7:Value} {ty:TypeId} (h:w.heap[b]?=some (.cells #[x0,x1,x2,x3,x4,x5,x6,x7] ty (0,0))):Ext w ((((((((w.setCell ⟨b,0,none⟩ x0).setCell ⟨b,1,none⟩ x1).setCell ⟨b,2,none⟩ x2).setCell ⟨b,3,none⟩ x3).setCell ⟨b,4,none⟩ x4).setCell ⟨b,5,none⟩ x5).setCell ⟨b,6,none⟩ x6).setCell ⟨b,7,none⟩ x7):=by have e0:=Qp (j:=0) (v:=x0) h rfl;have h0:=qb h e0;have e1:=Qp (j:=1) (v:=x1) h0 rfl;have h1:=qb h0 e1;have e2:=Qp (j:=2) (v:=x2) h1 rfl;have h2:=qb h1 e2;have e3:=Qp (j:=3) (v:=x3) h2 rfl;have h3:=qb h2 e3;have e4:=Qp (j:=4) (v:=x4) h3 rfl;have h4:=qb h3 e4;have e5:=Qp (j:=5) (v:=x5) h4 rfl;have h5:=qb h4 e5;have e6:=Qp (j:=6) (v:=x6) h5 rfl;have h6:=qb h5 e6;exact((((((e0.trans e1).trans e2).trans e3).trans e4).trans e5).trans e6).trans (Qp (j:=7) (v:=x7) h6 rfl)
structure Sets (X:Nat->Prop) (W C:World):Prop where
 os:C.os=W.os
 tape:C.tape=W.tape
 output:C.output=W.output
 size:C.heap.size=W.heap.size
 same:∀ k,¬X k->C.heap[k]?=W.heap[k]?
theorem Sets.refl (X:Nat->Prop) (W:World):Sets X W W:=⟨rfl,rfl,rfl,rfl,fun _ _=>rfl⟩
theorem Sets.set {X:Nat->Prop} {W C:World} (h:Sets X W C) {b:Nat} (j:Nat) (hb:X b) (v:Value):Sets X W (C.setCell ⟨b,j,none⟩ v):=⟨h.os,h.tape,h.output,by simpa using h.size,fun k hk=>(zJ _ _ _ _ fun e=>hk (by have e':k=b:=e;rw[e'];exact hb)).trans (h.same k hk)⟩
theorem Sets.row {X:Nat->Prop} {W C:World} (h:Sets X W C) {b:Nat} {o:Obj} (hr:W.heap[b]?=some o) (hb:¬X b):C.heap[b]?=some o:=(h.same b hb).trans hr
theorem Sets.below {X:Nat->Prop} {W C w:World} {B:Nat} (h:Sets X W C) (hB:Below B w W) (hX:∀ k,X k->B<=k):Below B w C:=hB.trans ⟨h.os,h.tape,h.output,by rw[h.size];exact zM _,fun k hk=>h.same k fun hx=>by have:=hX k hx;omega⟩
end Go.Proofs.YtpbniokljofedaaGreat
