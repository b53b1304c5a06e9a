/- Texts Late, FSet, Make0, joined. -/
import Derived.Test.YtpbniokljofedaaGreatZI28
set_option linter.unusedSimpArgs false
set_option linter.unusedVariables false
set_option maxHeartbeats 8000000
open Go.Proofs.Tryz
namespace Go.Proofs.YtpbniokljofedaaGreat
open Go.RowKit
def jE:List Oper->Nat->Nat->List Oper
 | [],_,_=>[]
 |o :: l,0,z=>{ o with after:=o.after.push { on:=z,ground:=.data } } :: l
 |o :: l,j+1,z=>o :: jE l j z
theorem vA:∀ (l:List Oper) (j z i:Nat),(jE l j z)[i]?=if i=j then (l[i]?).map (fun o=>{ o with after:=o.after.push { on:=z,ground:=.data } }) else l[i]?
 | [],j,z,i=>by simp[jE]
 |o :: l,0,z,i=>by
  cases i with
  |zero=>simp[jE]
  |succ i=>simp[jE]
 |o :: l,j+1,z,i=>by
  cases i with
  |zero=>simp[jE]
  |succ i =>
   simp only[jE,List.getElem?_cons_succ];rw[vA l j z i];by_cases h:i=j
   ·subst h;simp
   ·rw[if_neg h,if_neg zO]
theorem XH {l:List Oper} {j z i:Nat} (h:i≠j):(jE l j z).toArray[i]?=l.toArray[i]?:=by simp only[List.getElem?_toArray];rw[vA,if_neg h]
theorem qdF {l:List Oper} {j z:Nat} {o:Oper} (h:l.toArray[j]?=some o):(jE l j z).toArray[j]?=some { o with after:=o.after.push { on:=z,ground:=.data } }:=by simp only[List.getElem?_toArray] at h ⊢;rw[vA,if_pos rfl,h];rfl
theorem jk {l:List Oper} {j z i:Nat} {listed:Array Bool}:i∈Region.ready .any (jE l j z).toArray listed↔i∈Region.ready .any l.toArray listed/\(i=j->listed.getD z false=true):=by
 rw[mem_ready,mem_ready];by_cases h:i=j
 ·subst h;constructor
  ·rintro ⟨h0,o,ho,ha⟩;obtain⟨o',uO,rfl⟩:∃ o',l.toArray[i]?=some o'/\o={ o' with after:=o'.after.push { on:=z,ground:=.data } }:=by
    simp only[List.getElem?_toArray] at ho ⊢;rw[vA,if_pos rfl] at ho;rcases hq:l[i]? with _|o'
    ·rw[hq] at ho;cases ho
    ·rw[hq] at ho;cases ho;exact⟨o',rfl,rfl⟩
   refine⟨⟨h0,o',uO,fun e he hb=>ha e ?_ hb⟩,fun _=>ha { on:=z,ground:=.data } ?_ rfl⟩
   ·show e∈o'.after.push _;exact Array.mem_push_of_mem _ he
   ·show _∈o'.after.push _;exact Array.mem_push_self
  ·rintro ⟨⟨h0,o,ho,ha⟩,hz⟩;refine⟨h0,_,qdF ho,fun e he hb=>?_⟩;have he:e∈o.after.push { on:=z,ground:=.data }:=he;rcases Array.mem_push.1 he with he|rfl
   ·exact ha e he hb
   ·exact hz rfl
 ·rw[XH h];exact⟨fun ⟨h0,o,ho,ha⟩=>⟨⟨h0,o,ho,ha⟩,fun e=>absurd e h⟩,fun ⟨h0,_⟩=>h0⟩
theorem Tk (l:List Oper) (j z:Nat) (t:Array Value):yielded (jE l j z).toArray t=yielded l.toArray t:=by
 funext i;unfold yielded;by_cases h:i=j
 ·subst h;simp only[List.getElem?_toArray];rw[vA,if_pos rfl];cases l[i]? <;> rfl
 ·rw[XH h]
theorem qbQ {oz:Oper} {src:Operand} {k:Nat} (dZ:oz.op=.extract src k) (ev:Operand->Value) (P:Program):(∃ v,∀ W,(execOp ev oz).run P W=.ok (.value v) W)\/(∀ W,∃ s,(execOp ev oz).run P W=.halt (.stuck s) W):=by
 unfold execOp;rw[dZ];simp only[Instr.extract];split
 ·split
  ·rename_i v _;exact .inl ⟨v,fun W=>rfl⟩
  ·exact .inr fun W=>⟨_,rfl⟩
 ·exact .inr fun W=>⟨_,rfl⟩
def lateB (ops:Array Oper) (j z:Nat):Bool:=match ops[z]? with
 |none=>false
 |some oz=>(qF oz).all (fun k=>Th ops 9 j k) && (List.range ops.size).all fun i=>i == z || Th ops 9 z i || match ops[i]? with
  |some oi=>oi.after.any (fun e=>Region.binds .any e && e.on == z) || oz.apart ops oi
  |none=>true
section
variable {P:Program} {l:List Oper} {Q:Exit->Act->World->Prop}
theorem qhO {j z i:Nat} {K K':Act->World->Prop} {a:Act} {W:World} (hK:∀ a w,K a w->K' a w) (h:wpOp P (jE l j z).toArray (QN Q) i K a W):wpOp P l.toArray (QN Q) i K' a W:=by
 refine wpOp_mono hK ?_;unfold wpOp at h ⊢;rw[Tk] at h;by_cases hi:i=j
 ·subst hi;rcases ho:l.toArray[i]? with _|o
  ·have:(jE l i z).toArray[i]?=none:=by simp only[List.getElem?_toArray] at ho ⊢;rw[vA,if_pos rfl,ho];rfl
   rw[this] at h;exact h
  ·rw[qdF ho] at h;exact h
 ·rw[XH hi] at h;exact h
theorem qfp {ops:Array Oper} {j z:Nat} {oz:Oper} (hz:ops[z]?=some oz) (h:lateB ops j z=true):(∀ k∈qF oz,Th ops 9 j k=true)/\∀ (i:Nat) (oi:Oper),ops[i]?=some oi->i≠z->Th ops 9 z i=true\/(∃ e∈oi.after,Region.binds .any e=true/\e.on=z)\/oz.apart ops oi=true:=by
 unfold lateB at h;rw[hz] at h;simp only[Bool.and_eq_true] at h;refine⟨fun k hk=>List.all_eq_true.1 h.1 k hk,fun i oi hi hiz=>?_⟩;have h1:=List.all_eq_true.1 h.2 i (List.mem_range.2 (zG.1 hi).1);rw[hi] at h1;simp only[Bool.or_eq_true,beq_iff_eq,hiz,false_or] at h1;rcases h1 with h1|h1|h1
 ·exact .inl h1
 ·rw[<-Array.any_toList] at h1;obtain⟨e,he,h2⟩:=List.any_eq_true.1 h1;replace he:e∈oi.after:=by simpa using he
  simp only[Bool.and_eq_true,beq_iff_eq] at h2;exact .inr (.inl ⟨e,he,h2⟩)
 ·exact .inr (.inr h1)
theorem qfW {j z:Nat} {oz:Oper} {src:Operand} {k:Nat} (hz:l.toArray[z]?=some oz) (hjz:j≠z) (dZ:oz.op=.extract src k) (hg:oz.guard=none) (hs:Region.noSelect l.toArray=true) (hB:lateB l.toArray j z=true) : ∀ (fuel:Nat) (listed:Array Bool) (a:Act) (W:World),Kz l.toArray listed->listed.size=l.length->wpAny P .any (jE l j z).toArray (QN Q) fuel listed a W->wpAny P .any l.toArray (QN Q) fuel listed a W:=by
 obtain⟨wS,lF⟩:=qfp hz hB;have hzl:z<l.length:=by simpa using (zG.1 hz).1
 have zr:∀ listed:Array Bool,Kz l.toArray listed->listed.size=l.length->j∈Region.ready .any l.toArray listed->¬listed.getD z false=true->z∈Region.ready .any l.toArray listed:=fun listed hc hsz hj hzu=>by
  refine mem_ready.2 ⟨?_,oz,hz,fun e he hb=>?_⟩
  ·have hlt:z<listed.size:=zO;simp only[Array.getD_eq_getD_getElem?,Array.getElem?_eq_getElem hlt,Option.getD_some] at hzu ⊢;simpa using hzu
  ·have hk:e.on∈qF oz:=List.mem_map.2 ⟨e,by rw[List.mem_filter];exact⟨by simpa using he,hb⟩,rfl⟩;exact vt hc 9 j e.on (fun o ho=>Vj hj ho) (wS _ hk)
 intro fuel;induction fuel with
 |zero =>
  intro listed a W hc hsz h;refine⟨?_,h.2⟩;refine Classical.byContradiction fun aN=>?_;obtain⟨i,hi⟩:=List.exists_mem_of_ne_nil _ aN;have bT:∀ i,i∉Region.ready .any (jE l j z).toArray listed:=fun i hi=>by rw[h.1] at hi;cases hi
  by_cases hij:i=j
  ·subst hij;by_cases hzu:listed.getD z false=true
   ·exact bT i (jk.2 ⟨hi,fun _=>hzu⟩)
   ·exact bT z (jk.2 ⟨zr listed hc hsz hi hzu,fun e=>absurd e.symm hjz⟩)
  ·exact bT i (jk.2 ⟨hi,fun e=>absurd e hij⟩)
 |succ fuel ih =>
  intro listed a W hc hsz h;refine⟨fun h0=>h.1 ?_,fun i hi=>?_⟩
  ·refine List.eq_nil_iff_forall_not_mem.2 fun i hi=>?_;have:=(jk.1 hi).1;rw[h0] at this;cases this
  ·have key:∀ i,i∈Region.ready .any (jE l j z).toArray listed->wpOp P l.toArray (QN Q) i (wpAny P .any l.toArray (QN Q) fuel (listed.setIfInBounds i true)) a W:=fun i hi =>
    qhO (fun a w hw=>ih _ a w (hc.step (jk.1 hi).1) (by simpa using hsz) hw) (h.2 i hi)
   by_cases hlate:i=j/\¬listed.getD z false=true
   ·obtain⟨rfl,hzu⟩:=hlate;have hzr:=zr listed hc hsz hi hzu;have h1:=h.2 z (jk.2 ⟨hzr,fun e=>absurd e.symm hjz⟩);have hw:∀ t,Region.wanted oz (yielded l.toArray t)=true:=fun t=>by unfold Region.wanted;rw[hg]
    unfold wpOp at h1;rw[XH (fun e=>hjz e.symm),hz] at h1;simp only[Tk,hw,if_true] at h1;rcases h1 with h1|⟨_,h1⟩
    ·unfold Oper.wp at h1;rcases qbQ dZ a.eval P with ⟨v,hv⟩|aH
     ·rw[hv] at h1;have h2:=ih _ _ W (hc.step hzr) (by simpa using hsz) h1;have h3:=qaj (Q:=Q) (v:=v) hz (Region.noSelect_spec hs) fuel listed a W (fun j' oj' iM hjz' lC bT=>by
       rcases lF j' oj' iM hjz' with hwt|⟨e,he,hb,nY⟩|eX
       ·exfalso;have:=vt hc 9 z j' (fun o ho=>Vj hzr ho) hwt;rcases Nat.lt_or_ge j' listed.size with h'|h'
        ·simp[h'] at lC this;rw[lC] at this;cases this
        ·simp[Array.getElem?_eq_none h'] at this
       ·exact absurd nY (bT e he hb)
       ·exact eX) hzr (hw _) hv h2
      exact h3.2 i hi
     ·obtain⟨s,hs2⟩:=aH W;rw[hs2] at h1;exact False.elim h1
    ·exact absurd h1 JG
   ·exact key i (jk.2 ⟨hi,fun e=>Classical.byContradiction fun hn=>hlate ⟨e,hn⟩⟩)
theorem Xt {listed:Array Bool} {a:Act} {W:World} {fuel:Nat} (j z:Nat) {oz:Oper} {src:Operand} {k:Nat} (hz:l.toArray[z]?=some oz) (hjz:(j == z)=false) (dZ:oz.op=.extract src k) (hg:oz.guard=none) (hs:Region.noSelect l.toArray=true) (hB:lateB l.toArray j z=true) (hc:Yj l.toArray listed=true) (hsz:(listed.size == l.length)=true) (h:wpAny P .any (jE l j z).toArray (QN Q) fuel listed a W):wpAny P .any l.toArray (QN Q) fuel listed a W:=
 qfW hz (by simpa using hjz) dZ hg hs hB fuel listed a W (ve hc) (by simpa using hsz) h
end
def qbx (v:Vol):It:=⟨1,v.id,0,0,Qu v⟩
theorem volIt_ok {v:Vol} (h:qcG v):jq (qbx v):=by have:=vq v;exact⟨⟨(by decide:(0:Int)<=1),(by decide:(1:Int)<256)⟩,h.1,⟨(by decide:(0:Int)<=0),(by decide:(0:Int)<4294967296)⟩,⟨(by decide:(0:Int)<=0),(by decide:(0:Int)<256)⟩,by show (Qu v).length<=12;omega⟩
def setE (S:Sto) (root:Int) (v:Vol):Except Int (Nat×Sto):=match qv S root.toNat with
 |none=>.error 8
 |some (lvl,xs)=>TD S lvl.toNat xs root.toNat (qbx v)
def SetQ (S:Sto) (gen root next:Int) (dead:List Int) (v:Vol) (w:World) (e:Ending) (w':World):Prop:=Below w.heap.size w w' /\
 ((e=.returned (.tuple #[vN,.int .i64 8])/\zv S root next dead)\/∃ vs refs nodes,zY S root next dead vs/\Qr S (zF root dead vs) refs nodes/\Zu S refs /\
  ((∃ er,er≠0/\e=.returned (.tuple #[vN,.int .i64 er])/\(ZJ S next v vs refs=er\/(ZJ S next v vs refs=0/\(setE S root v=.error er\/(er=8/\∃ r S',setE S root v=.ok (r,S')/\zv S' (r:Int) next dead))))) \/
   ∃ r S' vs' u,ZJ S next v vs refs=0/\setE S root v=.ok (r,S')/\qeF S' (r:Int) next dead vs'/\e=.returned (.tuple #[u,.int .i64 0])/\Jg w.heap.size S' gen (r:Int) next dead u w'))
def qcj (lo:Nat) (S:Sto) (r:Nat):qS:=⟨(Nat×Nat)×(Option Addr×Nat)×(Option Addr×Nat),fun p=>.tuple #[Qd (some ⟨p.1.1,0,none⟩) S.bs.length S.bs.length (some ⟨p.1.2,0,none⟩) S.ws.length (S.ws.length+1) p.2.1.1 S.now.length p.2.1.2 p.2.2.1 S.last.length p.2.2.2,.int .i64 (r:Int),.int .i64 0],
 fun p W=>QF lo S (Qd (some ⟨p.1.1,0,none⟩) S.bs.length S.bs.length (some ⟨p.1.2,0,none⟩) S.ws.length (S.ws.length+1) p.2.1.1 S.now.length p.2.1.2 p.2.2.1 S.last.length p.2.2.2) W⟩
theorem QY (lo:Nat) (S:Sto) (r b c:Nat) (A3:Option Addr) (c3:Nat) (A4:Option Addr) (c4:Nat):(qcj lo S r).f ((b,c),(A3,c3),(A4,c4))=.tuple #[Qd (some ⟨b,0,none⟩) S.bs.length S.bs.length (some ⟨c,0,none⟩) S.ws.length (S.ws.length+1) A3 S.now.length c3 A4 S.last.length c4,.int .i64 (r:Int),.int .i64 0]:=rfl
theorem qaD (lo:Nat) (S:Sto) (r:Nat):∀ p,qC qk ((qcj lo S r).φ p):=fun p W W' he h=>by have he:Ext W W':=he;exact QF.keep h (zM _) he.size fun b _ hb=>he.block b hb
def qcf (e:Int):qS:=⟨Unit,fun _=>.tuple #[Qd none 0 0 none 0 0 none 0 0 none 0 0,.int .i64 0,.int .i64 e],fun _ _=>True⟩
theorem QX (e:Int) (u:Unit):(qcf e).f u=.tuple #[Qd none 0 0 none 0 0 none 0 0 none 0 0,.int .i64 0,.int .i64 e]:=rfl
theorem qaA (e:Int):∀ p,qC qk ((qcf e).φ p):=fun _ _ _ _ _=>trivial
theorem qek {W C:World} {b:Nat} {ty:TypeId} {u0 u1 u2 u3 x0 x1 x2 x3:Value} (h:W.heap[b]?=some (.cells #[u0,u1,u2,u3] ty (0,0))) (hC:C=(((W.setCell ⟨b,0,none⟩ x0).setCell ⟨b,1,none⟩ x1).setCell ⟨b,2,none⟩ x2).setCell ⟨b,3,none⟩ x3):C.heap[b]?=some (.cells #[x0,x1,x2,x3] ty (0,0))/\(∀ k,k≠b->C.heap[k]?=W.heap[k]?)/\C.heap.size=W.heap.size/\∀ {B:Nat} {w0:World},B<=b->Below B w0 W->Below B w0 C:=by
 subst hC;exact⟨Xn h _ _ _ _,fun k hk=>(zJ _ _ _ _ hk).trans ((zJ _ _ _ _ hk).trans ((zJ _ _ _ _ hk).trans (zJ _ _ _ _ hk))),zA3,fun hb h0=>ZY h0 hb _ _ _ _⟩
theorem qel {W C:World} {b:Nat} {ty:TypeId} {u0 u1 u2 u3 u4 u5 u6 u7 x0 x1 x2 x3 x5 x7:Value} (h:W.heap[b]?=some (.cells #[u0,u1,u2,u3,u4,u5,u6,u7] ty (0,0))) (hC:C=(((((W.setCell ⟨b,0,none⟩ x0).setCell ⟨b,1,none⟩ x1).setCell ⟨b,2,none⟩ x2).setCell ⟨b,3,none⟩ x3).setCell ⟨b,5,none⟩ x5).setCell ⟨b,7,none⟩ x7):C.heap[b]?=some (.cells #[x0,x1,x2,x3,u4,x5,u6,x7] ty (0,0))/\(∀ k,k≠b->C.heap[k]?=W.heap[k]?)/\C.heap.size=W.heap.size/\∀ {B:Nat} {w0:World},B<=b->Below B w0 W->Below B w0 C:=by
 subst hC;refine⟨?_,fun k hk=>?_,zA3,fun hb h0=>Below.setCell (Below.setCell (ZY h0 hb _ _ _ _) (p:=⟨b,5,none⟩) hb _) (p:=⟨b,7,none⟩) hb _⟩
 ·exact qi (qi (qi (qi (qi (qi h 0 x0) 1 x1) 2 x2) 3 x3) 5 x5) 7 x7
 ·rw[zJ _ _ _ _ hk,zJ _ _ _ _ hk,zJ _ _ _ _ hk,zJ _ _ _ _ hk,zJ _ _ _ _ hk,zJ _ _ _ _ hk]
theorem VT {lo:Nat} {S:Sto} {A1:Option Addr} {n1 c1:Nat} {A2:Option Addr} {n2 c2:Nat} {A3:Option Addr} {n3 c3:Nat} {A4:Option Addr} {n4 c4:Nat} {W:World} (h:NewSto lo S (Qd A1 n1 c1 A2 n2 c2 A3 n3 c3 A4 n4 c4) W):∀ C:World,PosZ lo W C->qU C W.heap.size (.slice A1 n1 c1) (.slice A2 n2 c2) (.slice A3 n3 c3) (.slice A4 n4 c4) S:=by obtain⟨B1,d1,B2,d2,B3,d3,B4,d4,e,hc⟩:=h;simp only[Value.agg.injEq,Array.mk.injEq,List.cons.injEq,Value.slice.injEq,and_true] at e;obtain⟨⟨rfl,rfl,rfl⟩,⟨rfl,rfl,rfl⟩,⟨rfl,rfl,rfl⟩,⟨rfl,rfl,rfl⟩⟩:=e;exact hc
theorem Kq {w:World} {b:Nat} {x0 x1 x2 x3 x4 x5 x6 x7:Value}:((((((((w.setCell ⟨b,0,none⟩ x0).setCell ⟨b,1,none⟩ x1).setCell ⟨b,2,none⟩ x2).setCell ⟨b,3,none⟩ x3).setCell ⟨b,4,none⟩ x4).setCell ⟨b,5,none⟩ x5).setCell ⟨b,6,none⟩ x6).setCell ⟨b,7,none⟩ x7).heap.size=w.heap.size:=zA3
theorem outIFs {lo:Nat} {k i o r:Int} {n:Nat} {l:List UInt8}:∀ p,QJ ((qbj lo k i o r n l).φ p):=fun p W W' he h=>⟨(h.1.below he).more he.size,h.2⟩
theorem KG {R:Ending->World->Prop} {a:Act} {W:World} {b:Nat} {x0 x1 x2 x3 x4 x5 x6 x7 v:Value} (h4:a.tmps[4]?.getD undef=.pointer (some ⟨b,0,none⟩)) (h5:a.tmps[5]?.getD undef=v) (hd:a.defers=[]) (aC:W.heap[b]?=some (.cells #[x0,x1,x2,x3,x4,x5,x6,x7] 32 (0,0))) (hR:R (.returned (.tuple #[.agg #[x0,x1,x2,x3,x4,x5,x6,x7],v])) W):bodyPost prog Tryz.f24 R .ret a W:=by
 refine bodyPost_ret (v:=.tuple #[.agg #[x0,x1,x2,x3,x4,x5,x6,x7],v]) ?_ hd hR;have k:=qa aC;simp[results,results24,go_sem,h4,h5,k]
set_option maxRecDepth 100000 in
theorem fset_any (A1:Option Addr) (n1 c1:Nat) (A2:Option Addr) (n2 c2:Nat) (A3:Option Addr) (n3 c3:Nat) (A4:Option Addr) (n4 c4:Nat) (gen root next:Int) (A5:Option Addr) (c5:Nat) (S:Sto) (dead:List Int) (v:Vol) (hv:qcG v) (hT:8<=v.root->v.root<256->ZE S v.root.toNat≠0->okL S (-1) v.root=true) (w:World) (h:qU w w.heap.size (.slice A1 n1 c1) (.slice A2 n2 c2) (.slice A3 n3 c3) (.slice A4 n4 c4) S) (hd:Zk w w.heap.size (.slice A5 dead.length c5) dead):Calls prog 24 #[.agg (qB (.slice A1 n1 c1) (.slice A2 n2 c2) (.slice A3 n3 c3) (.slice A4 n4 c4) gen root next (.slice A5 dead.length c5)),VC v] w (SetQ S gen root next dead v w):=by
 have HA:=zH (fun W (hx:Ext w W)=>qeW A1 n1 c1 A2 n2 c2 A3 n3 c3 A4 n4 c4 gen root next A5 c5 S dead v hT W (h.ext hx) (hd.ext_ hx));have HO:=zH (fun W=>qgq v hv W);have hvi:=volIt_ok hv;have HP:=zH (fun (hS:qo S=true) (a lvl:Nat) xs ha bK hn aU A c W (hx:Ext w W) hb=>put_any A1 n1 c1 A2 n2 c2 A3 n3 c3 A4 n4 c4 S hS a lvl xs ha bK hn aU (qbx v) hvi A c W (h.ext hx) hb);replace h:=zH h;replace hT:=zH hT;replace hd:=zH hd;replace hvi:=zH hvi;go_enter func24,ntmps24;go_wp2_with fail;generalize aA:(World.alloc (World.alloc (World.alloc w _) _) _)=w1;have x1:Ext w w1:=by rw[<-aA];exact((zN _ _).trans (zN _ _)).trans (zN _ _)
 have nR:w1.heap[w.heap.size]?=some (.cells (qB (.slice A1 n1 c1) (.slice A2 n2 c2) (.slice A3 n3 c3) (.slice A4 n4 c4) gen root next (.slice A5 dead.length c5)) 32 (0,0)):=by rw[<-aA];exact(zK _ _ _ zA2).trans ((zK _ _ _ zA3).trans (zI _ _ _ rfl))
 have rv1:w1.heap[w.heap.size+1]?=some (.cells #[.int .u32 v.id,.int .i64 v.root,.bool v.fz,.int .u32 v.frm] 40 (0,0)):=by rw[<-aA];exact(zK _ _ _ zA3).trans (zI _ _ _ zA3)
 have yj:w1.heap[w.heap.size+2]?=some (.cells (qB (.slice none 0 0) (.slice none 0 0) (.slice none 0 0) (.slice none 0 0) 0 0 0 (.slice none 0 0)) 32 (0,0)):=by rw[<-aA];exact zI _ _ _ zA3
 clear aA;refine(HA.out w1 x1).mono ?_;clear HA;rintro e w2 ⟨hB,hQ⟩;have x2:Ext w w2:=Ext.trans x1 hB;have lU:=qb nR hB;have uY:=qb rv1 hB;have lT:=qb yj hB;have zo2:w.heap.size+2<w2.heap.size:=(zG.1 lT).1;clear hB nR rv1 yj x1;have ko2:=qa lT;have fo2:=qe lT;rcases hQ with ⟨rfl,bT⟩|⟨vs,refs,nodes,hp,lW,sU,rfl⟩
 ·replace bT:=zH bT;go_wp2_with fail;exact KG (b:=w.heap.size+2) rfl rfl rfl (Kf lT _ _ _ _ _ _ _ _) ⟨jz x2 zO _ _ _ _ _ _ _ _,.inl ⟨rfl,bT.out⟩⟩
 ·have aI:=zH (fun e W (hb:Below w.heap.size w W) hx=>(⟨hb,.inr ⟨vs,refs,nodes,hp,lW,sU,hx⟩⟩:SetQ S gen root next dead v w e W));by_cases h0:ZJ S next v vs refs=0
  case neg =>
   obtain⟨er,yR⟩:∃ er,ZJ S next v vs refs=er:=⟨_,rfl⟩
   rw[yR] at h0 ⊢;have aN:(er != 0)=true:=by rw[bne_iff_ne];exact h0
   replace h0:=zH h0;replace yR:=zH yR;replace hp:=zH hp;replace lW:=zH lW;replace sU:=zH sU;go_wp2_with fail;exact KG (b:=w.heap.size+2) rfl rfl rfl (Kf lT _ _ _ _ _ _ _ _) (aI.out _ _ (jz x2 zO _ _ _ _ _ _ _ _) (.inl ⟨er,h0.out,rfl,.inl yR.out⟩))
  case pos =>
   rw[h0];obtain⟨a,ha,h8,h256,lvl,xs,hn,aU⟩:=VU hp.top;have hse:setE S root v=TD S lvl xs a (qbx v):=by unfold setE;rw[ha,Int.toNat_natCast,hn];rfl
   have HP2:=zH (HP.out hp.may a lvl xs h8 h256 hn aU);have ai:=zH (fun r S' (he:TD S lvl xs a (qbx v)=.ok (r,S'))=>putY_may hp.may h8 hn aU hvi.out he);have wz:=zH (fun er (he:TD S lvl xs a (qbx v)=.error er)=>putY_err he);rw[<-hse] at HP2 ai wz;rw[<-ha] at HP2;have dK:=zH hp.few;replace h0:=zH h0;replace hp:=zH hp;replace lW:=zH lW;replace sU:=zH sU;clear hse HP hn aU hT ha;go_upto_region 4 with fail;rcases hq:setE S root v with er|⟨r,S'⟩
   ·have gP:∀ W,qk.r w2 W->∀ i,W.cell? ⟨w.heap.size,i,none⟩=(qB (.slice A1 n1 c1) (.slice A2 n2 c2) (.slice A3 n3 c3) (.slice A4 n4 c4) gen root next (.slice A5 dead.length c5))[i]?:=fun W h=>qa (qb lU h);have gV:∀ W,qk.r w2 W->∀ i,W.cell? ⟨w.heap.size+1,i,none⟩=#[.int .u32 v.id,.int .i64 v.root,.bool v.fz,.int .u32 v.frm][i]?:=fun W h=>qa (qb uY h);clear ko2 fo2;refine qm zQ ?_;refine Xt 12 9 zE zQ rfl rfl zQ zQ zQ zQ ?_;dsimp only[jE,Array.push,List.push_toArray,List.concat_eq_append];refine Xt 12 10 zE zQ rfl rfl zQ zQ zQ zQ ?_;dsimp only[jE,Array.push,List.push_toArray,List.concat_eq_append];refine qL (w:=w2) qk (qD [(5,qbj w2.heap.size 1 v.id 0 0 (Qu v).length (Qu v)),(6,qcf er),(11,jO w2.heap.size 28 #[.slice none 0 0,.slice none 0 0,.slice none 0 0,.slice none 0 0])]) (List.replicate 12 true) 3 zQ zQ zQ zQ zQ zQ zQ ?st (Rel.drew _ _) ?walk
    case st=>exact qj (by simp only[List.forall_mem_cons];exact⟨fun p=>QI (outIFs p),qaA _,fun p=>QI (ZX _ _ _ p),fun _ h=>by cases h⟩)
    case walk =>
     intro K hK;dsimp only[qp,List.replicate];repeat ((first|(refine qd ?_ zA0 zA0 (fun W hW _=>⟨W,?_,Rel.refl _ W⟩) ?_;rotate_left;(go_simp<;>with_reducible rfl))|(refine qh zA0 ?_));try simp only[Act.put,ql,qf,qc,qg,Zi,QY,QX,jb,qc,zA,zB,zC])
     refine qw (qbj w2.heap.size 1 v.id 0 0 (Qu v).length (Qu v)) zA0 zA0 (fun W hW _=>?_) (fun p5=>?_)
     ·have hW:Ext w2 W:=hW;refine Qb ?_ ((HO.out W).mono fun e w' h=>?_)
      ·go_simp
      obtain⟨u,rfl,⟨A,c,rfl,hb,hf⟩,hB⟩:=h;exact⟨(A,c),rfl,⟨hb,hf.mono hW.size⟩,hB⟩
     obtain⟨A8,c8⟩:=p5;simp only[Act.put,qf,qc,qg,Zi,QY,QX,jb,qc,zA,zB,zC];repeat ((first|(refine qd ?_ zA0 zA0 (fun W hW _=>⟨W,?_,Rel.refl _ W⟩) ?_;rotate_left;(go_simp<;>with_reducible rfl))|(refine qh zA0 ?_));try simp only[Act.put,ql,qf,qc,qg,Zi,QY,QX,jb,qc,zA,zB,zC])
     refine qw (qcf er) zA0 zA0 (fun W hW hp=>?_) (fun (p:Unit)=>?_)
     ·have hW:Ext w2 W:=hW;have hb:Bys W W.heap.size (.slice A8 (Qu v).length c8) (Qu v):=(hp 5 zA1).1.1;refine Qb ?_ ((HP2.out A8 c8 W (x2.trans hW) hb).mono fun e w' h=>?_)
      ·go_simp;exact⟨rfl,rfl,rfl,rfl,rfl⟩
      obtain⟨u,rfl,hu,hB⟩:=h;rw[hq] at hu;obtain rfl:u=_:=hu;exact⟨(),rfl,trivial,hB⟩
     simp only[Act.put,qf,qc,qg,Zi,QY,QX,jb,qc,zA,zB,zC];repeat ((first|(refine qd ?_ zA0 zA0 (fun W hW _=>⟨W,?_,Rel.refl _ W⟩) ?_;rotate_left;(go_simp<;>with_reducible rfl))|(refine qh zA0 ?_));try simp only[Act.put,ql,qf,qc,qg,Zi,QY,QX,jb,qc,zA,zB,zC])
     refine qw (jO w2.heap.size 28 #[.slice none 0 0,.slice none 0 0,.slice none 0 0,.slice none 0 0]) zA0 zA0 (fun W hW _=>?_) (fun (p11:Nat)=>?_)
     ·refine jT ?_ (Below.size hW);go_simp
     simp only[Act.put,qf,qc,qg,Zi,QY,QX,jb,qc,zA,zB,zC];repeat ((first|(refine qd ?_ zA0 zA0 (fun W hW _=>⟨W,?_,Rel.refl _ W⟩) ?_;rotate_left;(go_simp<;>with_reducible rfl))|(refine qh zA0 ?_));try simp only[Act.put,ql,qf,qc,qg,Zi,QY,QX,jb,qc,zA,zB,zC])
     refine qt (hK _ _ fun W hW hF=>?_);obtain⟨f11,aP⟩:W.heap[p11]?=some (.cells #[.slice none 0 0,.slice none 0 0,.slice none 0 0,.slice none 0 0] 28 (0,0))/\w2.heap.size<=p11:=(hF 11).1;clear hF hK gP gV;have hW:Ext w2 W:=hW;refine zC3 ?_;have k11:=qa f11;have h11:=qe f11;have rq2:=qb lU hW;have rz2:=qb lT hW;go_wp2;refine Qm ?_;generalize aO:World.setCell (World.setCell (World.setCell (World.setCell W _ _) _ _) _ _) _ _=w3;obtain⟨r3,o3,z3,b3⟩:=qek f11 aO.symm;clear aO k11 h11 f11;have pI:=(o3 (w.heap.size+2) zO).trans rz2;have x3:Below w.heap.size w w3:=b3 zO (x2.trans hW);have ko3:=qa pI;have fo3:=qe pI;clear rq2 rz2;have aN:=wz.out er hq;have ru:(er != 0)=true:=by rw[bne_iff_ne];exact aN
     replace aN:=zH aN;replace hq:=zH hq;go_wp2_with fail;exact KG (b:=w.heap.size+2) rfl rfl rfl (Kf pI _ _ _ _ _ _ _ _) (aI.out _ _ (jz x3 zO _ _ _ _ _ _ _ _) (.inl ⟨er,aN.out,rfl,.inr ⟨h0.out,.inl hq.out⟩⟩))
   ·have gP:∀ W,qk.r w2 W->∀ i,W.cell? ⟨w.heap.size,i,none⟩=(qB (.slice A1 n1 c1) (.slice A2 n2 c2) (.slice A3 n3 c3) (.slice A4 n4 c4) gen root next (.slice A5 dead.length c5))[i]?:=fun W h=>qa (qb lU h);have gV:∀ W,qk.r w2 W->∀ i,W.cell? ⟨w.heap.size+1,i,none⟩=#[.int .u32 v.id,.int .i64 v.root,.bool v.fz,.int .u32 v.frm][i]?:=fun W h=>qa (qb uY h);clear ko2 fo2;refine qm zQ ?_;refine Xt 12 9 zE zQ rfl rfl zQ zQ zQ zQ ?_;dsimp only[jE,Array.push,List.push_toArray,List.concat_eq_append];refine Xt 12 10 zE zQ rfl rfl zQ zQ zQ zQ ?_;dsimp only[jE,Array.push,List.push_toArray,List.concat_eq_append];refine qL (w:=w2) qk (qD [(5,qbj w2.heap.size 1 v.id 0 0 (Qu v).length (Qu v)),(6,qcj w2.heap.size S' r),(11,jO w2.heap.size 28 #[.slice none 0 0,.slice none 0 0,.slice none 0 0,.slice none 0 0])]) (List.replicate 12 true) 3 zQ zQ zQ zQ zQ zQ zQ ?st (Rel.drew _ _) ?walk
    case st=>exact qj (by simp only[List.forall_mem_cons];exact⟨fun p=>QI (outIFs p),qaD _ _ _,fun p=>QI (ZX _ _ _ p),fun _ h=>by cases h⟩)
    case walk =>
     intro K hK;dsimp only[qp,List.replicate];repeat ((first|(refine qd ?_ zA0 zA0 (fun W hW _=>⟨W,?_,Rel.refl _ W⟩) ?_;rotate_left;(go_simp<;>with_reducible rfl))|(refine qh zA0 ?_));try simp only[Act.put,ql,qf,qc,qg,Zi,QY,QX,jb,qc,zA,zB,zC])
     refine qw (qbj w2.heap.size 1 v.id 0 0 (Qu v).length (Qu v)) zA0 zA0 (fun W hW _=>?_) (fun p5=>?_)
     ·have hW:Ext w2 W:=hW;refine Qb ?_ ((HO.out W).mono fun e w' h=>?_)
      ·go_simp
      obtain⟨u,rfl,⟨A,c,rfl,hb,hf⟩,hB⟩:=h;exact⟨(A,c),rfl,⟨hb,hf.mono hW.size⟩,hB⟩
     obtain⟨A8,c8⟩:=p5;simp only[Act.put,qf,qc,qg,Zi,QY,QX,jb,qc,zA,zB,zC];repeat ((first|(refine qd ?_ zA0 zA0 (fun W hW _=>⟨W,?_,Rel.refl _ W⟩) ?_;rotate_left;(go_simp<;>with_reducible rfl))|(refine qh zA0 ?_));try simp only[Act.put,ql,qf,qc,qg,Zi,QY,QX,jb,qc,zA,zB,zC])
     refine qw (qcj w2.heap.size S' r) zA0 zA0 (fun W hW hp=>?_) (fun p=>?_)
     ·have hW:Ext w2 W:=hW;have hb:Bys W W.heap.size (.slice A8 (Qu v).length c8) (Qu v):=(hp 5 zA1).1.1;refine Qb ?_ ((HP2.out A8 c8 W (x2.trans hW) hb).mono fun e w' h=>?_)
      ·go_simp;exact⟨rfl,rfl,rfl,rfl,rfl⟩
      obtain⟨u,rfl,hu,hB⟩:=h;rw[hq] at hu;obtain⟨v',rfl,hT⟩:=hu;obtain⟨BB,WW,gg,A3',c3',A4',eP,rfl,-⟩:=id hT;exact⟨((BB,WW),(A3',c3'),(A4',eP)),rfl,QF.keep hT hW.size (zM _) (fun _ _ _=>rfl),hB⟩
     obtain⟨⟨BB,WW⟩,⟨A3',c3'⟩,⟨A4',eP⟩⟩:=p;simp only[Act.put,qf,qc,qg,Zi,QY,QX,jb,qc,zA,zB,zC];repeat ((first|(refine qd ?_ zA0 zA0 (fun W hW _=>⟨W,?_,Rel.refl _ W⟩) ?_;rotate_left;(go_simp<;>with_reducible rfl))|(refine qh zA0 ?_));try simp only[Act.put,ql,qf,qc,qg,Zi,QY,QX,jb,qc,zA,zB,zC])
     refine qw (jO w2.heap.size 28 #[.slice none 0 0,.slice none 0 0,.slice none 0 0,.slice none 0 0]) zA0 zA0 (fun W hW _=>?_) (fun (p11:Nat)=>?_)
     ·refine jT ?_ (Below.size hW);go_simp
     simp only[Act.put,qf,qc,qg,Zi,QY,QX,jb,qc,zA,zB,zC];repeat ((first|(refine qd ?_ zA0 zA0 (fun W hW _=>⟨W,?_,Rel.refl _ W⟩) ?_;rotate_left;(go_simp<;>with_reducible rfl))|(refine qh zA0 ?_));try simp only[Act.put,ql,qf,qc,qg,Zi,QY,QX,jb,qc,zA,zB,zC])
     refine qt (hK _ _ fun W hW hF=>?_);obtain⟨f11,aP⟩:W.heap[p11]?=some (.cells #[.slice none 0 0,.slice none 0 0,.slice none 0 0,.slice none 0 0] 28 (0,0))/\w2.heap.size<=p11:=(hF 11).1;have hTw:QF w2.heap.size S' (Qd (some ⟨BB,0,none⟩) S'.bs.length S'.bs.length (some ⟨WW,0,none⟩) S'.ws.length (S'.ws.length+1) A3' S'.now.length c3' A4' S'.last.length eP) W:=(hF 6).1;clear hF hK gP gV;have hW:Ext w2 W:=hW;refine zC3 ?_;have k11:=qa f11;have h11:=qe f11;have z11:=(zG.1 f11).1;have rq2:=qb lU hW;have rz2:=qb lT hW;go_wp2;refine Qm ?_;generalize aO:World.setCell (World.setCell (World.setCell (World.setCell W _ _) _ _) _ _) _ _=w3;obtain⟨r3,o3,z3,b3⟩:=qek f11 aO.symm;have hTw3:=QF.keepT (lo':=w2.heap.size) hTw (zM _) zO f11 zA1 (fun b _ _ aN=>o3 b aN);clear aO k11 h11 f11;have gy:=(o3 w.heap.size zO).trans rq2;have pI:=(o3 (w.heap.size+2) zO).trans rz2;have x3:Below w.heap.size w w3:=b3 zO (x2.trans hW);have ko3:=qa pI;have fo3:=qe pI;have zo3:w.heap.size+1+1<w3.heap.size:=(zG.1 pI).1;clear rq2 rz2;have hmay:=ai.out r S' hq;have lN:=VT (hTw3.newSto (za hmay.1));replace hq:=zH hq;replace lN:=zH lN;replace hmay:=zH hmay;clear hTw3 ai wz HP2;go_upto_region 7 with fail;have HI:=zH (fun W (hW:Ext w3 W)=>Gl (.slice A5 dead.length c5) dead (by have:=dK.out;omega) W (hd.out.ext_ (x3.trans (Below.mono hW x3.size))));have gP:∀ W,qk.r w3 W->∀ i,W.cell? ⟨w.heap.size,i,none⟩=(qB (.slice A1 n1 c1) (.slice A2 n2 c2) (.slice A3 n3 c3) (.slice A4 n4 c4) gen root next (.slice A5 dead.length c5))[i]?:=fun W h=>qa (qb gy h);obtain⟨nb,ru⟩:∃ nb,S'.bs.length=nb:=⟨_,rfl⟩
     obtain⟨nw,hnw⟩:∃ nw,S'.ws.length=nw:=⟨_,rfl⟩
     obtain⟨nn,ny⟩:∃ nn,S'.now.length=nn:=⟨_,rfl⟩
     obtain⟨nl,yD⟩:∃ nl,S'.last.length=nl:=⟨_,rfl⟩
     rw[ru,hnw,ny,yD] at lN r3 ⊢;have bn:=zH (And.intro ru (And.intro hnw (And.intro ny yD)));clear ru hnw ny yD;have gS:∀ W,qk.r w3 W->∀ i,W.cell? ⟨p11,i,none⟩=#[.slice (some ⟨BB,0,none⟩) nb nb,.slice (some ⟨WW,0,none⟩) nw (nw+1),.slice A3' nn c3',.slice A4' nl eP][i]?:=fun W h=>qa (qb r3 h);clear ko3 fo3;refine qm zQ ?_;refine zu 1 10 (.int .i64 (r:Int)) zQ zA6 zQ zQ zQ zA0 (fun W=>?_) ?_
     ·go_simp
     simp only[Act.put,qf,qc,qg,Zi,QY,QX,jb,qc,zA,zB,zC];refine qL (w:=w3) qk (qD [(4,outN w3.heap.size dead.length dead)]) [true,false,true,true,true,true] 5 zQ zQ zQ zQ zQ zQ zQ ?st (Rel.drew _ _) ?walk
     case st=>exact qj (by simp only[List.forall_mem_cons];exact⟨fun p=>QI (qdV _ _ _ p),fun _ h=>by cases h⟩)
     case walk =>
      intro K hK;dsimp only[qp,List.replicate];repeat ((first|(refine qd ?_ zA0 zA0 (fun W hW _=>⟨W,?_,Rel.refl _ W⟩) ?_;rotate_left;(go_simp<;>with_reducible rfl))|(refine qh zA0 ?_));try simp only[Act.put,ql,qf,qc,qg,Zi,QY,QX,jb,qc,zA,zB,zC])
      refine qw (outN w3.heap.size dead.length dead) zA0 zA0 (fun W hW _=>?_) (fun p=>?_)
      ·have hW:Ext w3 W:=hW;refine Qb ?_ ((HI.out W hW).mono fun e w' h=>?_)
       ·go_simp
       obtain⟨u,rfl,hu,hB⟩:=h;obtain⟨A',c',rfl,_,_⟩:=qy hu;exact⟨(A',c'),rfl,⟨Zk.of_ownT hu,(Ze.of_own hu).mono hW.size⟩,hB⟩
      obtain⟨B5,d5⟩:=p;simp only[Act.put,qf,qc,qg,Zi,QY,QX,jb,qc,zA,zB,zC];repeat ((first|(refine qd ?_ zA0 zA0 (fun W hW _=>⟨W,?_,Rel.refl _ W⟩) ?_;rotate_left;(go_simp<;>with_reducible rfl))|(refine qh zA0 ?_));try simp only[Act.put,ql,qf,qc,qg,Zi,QY,QX,jb,qc,zA,zB,zC])
      refine qt (hK _ _ fun V hV hF=>?_);have hI:Zk (thaw V) V.heap.size (.slice B5 dead.length d5) dead/\Ze w3.heap.size (.slice B5 dead.length d5):=(hF 4).1;clear hF hK gP gS HI;have hV:Ext w3 V:=hV;refine zC3 ?_;have lD:=qb gy hV;have ro4:=qb pI hV;have kp4:=qa lD;have fp4:=qe lD;replace hI:=zH hI;clear gy pI;go_wp2;refine Qm ?_;generalize aK:World.setCell (World.setCell (World.setCell (World.setCell (World.setCell (World.setCell V _ _) _ _) _ _) _ _) _ _) _ _=w5;obtain⟨lm,o5,z5,b5⟩:=qel lD aK.symm;clear aK kp4 fp4;have ro5:=(o5 (w.heap.size+2) zO).trans ro4;have x5:Below w.heap.size w w5:=b5 (zM _) (x3.trans (Below.mono hV x3.size));have hzV:=hV.size;have hEL:∀ k,w.heap.size<k->k<w3.heap.size->w5.heap[k]?=w3.heap[k]?:=fun k h1 h2=>(o5 k zO).trans (hV.block k h2);have hBZ:=(lN.out w5 (KW fun k h1 h2=>hEL k zO h2)).more (show w3.heap.size<=w5.heap.size by omega);have hin5:Zk w5 w5.heap.size (.slice B5 dead.length d5) dead:=by rw[z5];exact hI.out.1.pos hI.out.2 fun q u h1 h2 h3=>(World.cell?_of_block (o5 q.block zO)).trans (Yw h3).1
      have HCk:=zH (Kc (some ⟨BB,0,none⟩) nb nb (some ⟨WW,0,none⟩) nw (nw+1) A3' nn c3' A4' nl eP gen (r:Int) next B5 d5 S' dead w5 hBZ hin5);have kp5:=qa lm;replace hEL:=zH hEL;clear hBZ hin5;go_wp2_with fail;refine HCk.out.mono ?_;clear HCk;rintro e w6 ⟨eQ,hQ6⟩;have x6:Below w.heap.size w w6:=x5.trans (Below.mono eQ x5.size);have rP:=qb lm eQ;have ro6:=qb ro5 eQ;have ko6:=qa ro6;have fo6:=qe ro6;have h56:=zH (fun k (hk:k<w5.heap.size)=>Below.block eQ k hk);have z56:=eQ.size;clear eQ lD ro4 kp5;rcases hQ6 with ⟨rfl,ah⟩|⟨rfl,vs',refs',nodes',hp',hc',he'⟩
      ·replace ah:=zH ah;go_wp2_with fail;exact KG (b:=w.heap.size+2) rfl rfl rfl (Kf ro6 _ _ _ _ _ _ _ _) (aI.out _ _ (jz x6 zO _ _ _ _ _ _ _ _) (.inl ⟨8,zA1,rfl,.inr ⟨h0.out,.inr ⟨rfl,r,S',hq.out,ah.out⟩⟩⟩))
      ·have hok:=zH (⟨refs',nodes',hp',hc',he'⟩:qeF S' (r:Int) next dead vs');have kp6:=qa rP;clear hp' hc' he';go_wp2_with fail;refine KG (b:=w.heap.size+2) rfl rfl rfl (Kf ro6 _ _ _ _ _ _ _ _) (aI.out _ _ (jz x6 zO _ _ _ _ _ _ _ _) (.inr ⟨r,S',vs',_,h0.out,hq.out,hok.out,rfl,?_⟩));refine⟨some ⟨BB,0,none⟩,nb,some ⟨WW,0,none⟩,nw+1,A3',c3',A4',eP,B5,d5,?_,fun C hC=>?_⟩
       ·rw[bn.out.1,bn.out.2.1,bn.out.2.2.1,bn.out.2.2.2]
       ·rw[bn.out.1,bn.out.2.1,bn.out.2.2.1,bn.out.2.2.2];rw[Kq];have hs:=fun (k:Nat) (hk:k≠w.heap.size+2)=>jM (w:=w6) hk (.slice (some ⟨BB,0,none⟩) nb nb) (.slice (some ⟨WW,0,none⟩) nw (nw+1)) (.slice A3' nn c3') (.slice A4' nl eP) (.int .u32 gen) (.int .i64 (r:Int)) (.int .u32 next) (.slice B5 dead.length d5);have q1:=lN.out C fun q u h1 h2 h3=>hC q u zO (by rw[Kq];omega) ((QR ((hs q.block zO).trans ((h56.out q.block zO).trans (hEL.out q.block zO h2)))).trans h3);have q2:=hI.out.1.pos hI.out.2 (C:=C) fun q u h1 h2 h3=>hC q u zO (by rw[Kq];omega) ((QR ((hs q.block zO).trans ((h56.out q.block zO).trans (o5 q.block zO)))).trans h3);exact⟨q1.more zO,q2.more zO⟩
set_option maxRecDepth 100000 in
theorem qeM (b lo:Nat) (A1:Option Addr) (n1 c1:Nat) (g c3:Nat) (A4:Option Addr) (c4:Nat) (bs:List (List UInt8)) (now last:List UInt8) (hn:now.length=256) (hl:last.length=256) (hn8:now[8]?=some 0) (hl8:last[8]?=some 0) (w:World) (aP:lo<=b) (hr:w.heap[b]?=some (.cells #[.slice A1 n1 c1,.slice none 0 0,.slice (some ⟨g,0,none⟩) 256 c3,.slice A4 256 c4] 191 (0,0))) (ho:w.ownsRow lo 5 1 (.slice (some ⟨g,0,none⟩) 256 c3) 256 (now.map bv)) (hb:Bls w lo (.slice A1 n1 c1) bs) (ha:Bys w lo (.slice A4 256 c4) last):Calls prog 142 #[.pointer (some ⟨b,0,none⟩),je 0 none 0 0] w (fun e W=>e=.returned (.tuple #[.int .i64 8,.int .i64 0])/\Below lo w W/\∃ A2 c2,W.heap[b]?=some (.cells #[.slice A1 n1 c1,.slice A2 1 c2,.slice (some ⟨g,0,none⟩) 256 c3,.slice A4 256 c4] 191 (0,0)) /\
   qU W W.heap.size (.slice A1 n1 c1) (.slice A2 1 c2) (.slice (some ⟨g,0,none⟩) 256 c3) (.slice A4 256 c4) ⟨bs,[(8,jf (zX 0 []))],now.set 8 1,last⟩):=by
 have nZ:=(zm ho).1 8 zO;rw[hn8] at nZ;replace nZ:w.cell? ⟨g,8,none⟩=some (.int .u8 0):=nZ;obtain⟨_,ui,uo,hzg⟩:=zm ho;obtain⟨A,c,e,hac,_,har⟩:=ha;rw[hl] at e hac har;simp only[Value.slice.injEq,true_and] at e;obtain⟨rfl,rfl⟩:=e;obtain⟨b4,o4,rfl,iI,hc4⟩:=har.2 zO;have sZ:w.cell? ⟨b4,o4+8,none⟩=some (.int .u8 0):=hc4 8 (bv 0) (by rw[List.getElem?_map,hl8];rfl);have zb:b<w.heap.size:=(zG.1 hr).1;have hW:=zH (fun W=>GC 0 none 0 0 [] W (Its.nil W W.heap.size) zA1 (fun x hx=>by cases hx));go_enter func142,ntmps142;go_wp2_with fail;generalize aA:World.alloc _ _=w1;have x1:Ext w w1:=by rw[<-aA];exact zN _ _
 have p1:w1.heap[w.heap.size]?=some (.cells #[.int .i64 0,.slice none 0 0] 49 (0,0)):=by rw[<-aA];exact zI _ _ _ rfl
 clear aA;refine(hW.out w1).mono ?_;rintro e w2 ⟨u,rfl,⟨u,rfl,⟨A0,c0,rfl,hu,hf⟩⟩,hB⟩;have hB:Ext w1 w2:=hB;have x2:Ext w w2:=x1.trans hB;have p2:=qb p1 hB;have r2:=qb hr x2;have o2:=QM ho x2;have kp:=qa p2;have kr:=qa r2;have fr:=qe r2;have kn:w2.cell? ⟨g,8,none⟩=some (.int .u8 0):=Ext.cell x2 nZ;have z2:=x2.size;have z1:w.heap.size<w1.heap.size:=(zG.1 p1).1;have kl:w2.cell? ⟨b4,o4+8,none⟩=some (.int .u8 0):=Ext.cell x2 sZ;clear hB x1 p1 nZ sZ hc4 hW;go_wp2_with fail;go_loopw [21] (fun i wr=>i=.int .i64 0/\wr=w2) (fun _ _=>0)
 case atStart=>exact⟨rfl,rfl⟩
 case round =>
  obtain⟨rfl,hw⟩:=hrel;replace hw:=hw.symm;subst hw;go_wp2_with fail;go_loopw [4] (fun i W=>i=.int .i64 8/\Ext w2 W) (fun _ _=>0)
  case atStart=>exact⟨rfl,Ext.refl _⟩
  case round =>
   obtain⟨rfl,hE⟩:=hrel;have g1:∀ W,qk.r wr W->∀ i,W.cell? ⟨b,i,none⟩=#[.slice A1 n1 c1,.slice none 0 0,.slice (some ⟨g,0,none⟩) 256 c3,.slice (some ⟨b4,o4,none⟩) 256 c4][i]?:=fun W h=>qa (qb (qb r2 hE) h);have g2:∀ W,qk.r wr W->W.cell? ⟨g,8,none⟩=some (.int .u8 0):=fun W h=>Ext.cell (hE.trans h) kn;have g3:∀ W,qk.r wr W->W.cell? ⟨b4,o4+8,none⟩=some (.int .u8 0):=fun W h=>Ext.cell (hE.trans h) kl;clear kp kr fr kn kl;go_wp2_with fail;refine qm zQ ?_;refine qL (w:=wr) qk (qD []) [true,true,true,true,true,true,true,true,true,true,true,true,true,true,true,true,true,true,true,true,true,true] 0 zQ zQ zQ zQ zQ zQ zQ ?st (Rel.drew _ _) ?walk
   case st=>exact qj (fun _ h=>by cases h)
   case walk =>
    intro K hK;dsimp only[qp];repeat ((first|(refine qd ?_ zA0 zA0 (fun W hW _=>⟨W,?_,Rel.refl _ W⟩) ?_;rotate_left;(go_simp<;>with_reducible rfl))|(refine qh zA0 ?_));try simp only[Act.put,ql,qf,qc,qg,QS,zA,zB,zC])
    refine qt (hK _ _ fun W hW hF=>?_);have hW:Ext wr W:=hW;have x3:Ext w2 W:=hE.trans hW;clear hF hK g1 g2 g3 hE hW;refine zB5 ?_;have r3:=qb r2 x3;have o3:=QM o2 x3;have kr:=qa r3;have fr:=qe r3;obtain⟨i0,hi,aY,aV,aX⟩:=info_parts Tryz.info_write;have z3:=x3.size;have hu3:=(hu.below x3).more x3.size;have xw3:Ext w W:=x2.trans x3;have x2z:=x2.size;clear r2 o2 x2 x3 hu p2;replace o3:=zH o3;replace hu3:=zH hu3;go_wp2;refine Qm ?_;go_wp2_with (at_builtin;refine qI ?_);refine Qh.go (Zc _ rfl (.tmp 78) (.tmp 82) 23 rfl W.heap.size 130 i0 (.agg #[.int .i64 0,.slice none 0 0]) 2 32 underlying23 hi aY aV aX rfl zA1 _ 0 [] rfl (World.ownsRow_nil _ _ _ _) #[.int .i64 8,.slice A0 128 c0] rfl rfl zA8 zO zA1 (zM _) ?_);intro v4 w4 own4 _ dG _;have dG:Ext W w4:=dG;simp only[Nat.zero_add,List.nil_append] at own4;obtain⟨A2,c2,rfl,hc21,hc22⟩:=qy own4;have r4:=qb r3 dG;have kr4:=qa r4;have fr4:=qe r4;have o4':=QM o3.out dG;have z5:=dG.size;have kg:=(zm o4').1 8 zO;have fg:=(zm o4').2.1 8;have hlt:=Ql own4;have hbg:g≠b:=by
     intro e;subst e;obtain⟨_,h2⟩:=o4';rcases h2 with ⟨e,_⟩|⟨g',cap,cur,e,_,lY,_⟩
     ·cases e
     ·cases e;exact qN lY r4 zA1 rfl
    have z6:b<w2.heap.size:=by have:=x2z;omega
    replace own4:=zH own4;replace o4':=zH o4';have hf1:=hf.mono (lo':=w.heap.size) zO;clear r3 kr fr hc21 hc22;go_wp2_with fail;have st:∀ q,q≠b->q≠g->((w4.setCell ⟨b,1,none⟩ (.slice A2 1 c2)).setCell ⟨g,8,none⟩ (.int .u8 1)).heap[q]?=w4.heap[q]?:=fun q h1 h2=>(zJ _ _ _ _ h2).trans (zJ _ _ _ _ h1);have xw4:Ext w w4:=xw3.trans dG;have hB:Below lo w ((w4.setCell ⟨b,1,none⟩ (.slice A2 1 c2)).setCell ⟨g,8,none⟩ (.int .u8 1)):=Below.setCell (Below.setCell (Below.mono xw4 zO) (p:=⟨b,1,none⟩) aP _) (p:=⟨g,8,none⟩) uo _;have rf:=qi r4 1 (.slice A2 1 c2);have rf2:=(zJ (w4.setCell ⟨b,1,none⟩ (.slice A2 1 c2)) ⟨g,8,none⟩ (.int .u8 1) b (fun e=>hbg e.symm)).trans rf;have of4:=UP (qdW (k:=1) (v:=.slice A2 1 c2) o4'.out hbg) (k:=8) zO 1;have hz:((w4.setCell ⟨b,1,none⟩ (.slice A2 1 c2)).setCell ⟨g,8,none⟩ (.int .u8 1)).heap.size=w4.heap.size:=zA3;have ow:=Zh (w':=(w4.setCell ⟨b,1,none⟩ (.slice A2 1 c2)).setCell ⟨g,8,none⟩ (.int .u8 1)) own4.out (fun q h1 _=>st q zO zO);have hu4:Bys ((w4.setCell ⟨b,1,none⟩ (.slice A2 1 c2)).setCell ⟨g,8,none⟩ (.int .u8 1)) w4.heap.size (.slice A0 128 c0) (jf (zX 0 [])):=(((hu3.out.below dG).more dG.size).setCell hf1 (p:=⟨b,1,none⟩) zb _).setCell hf1 (p:=⟨g,8,none⟩) hzg _;have hsl:(jf (zX 0 [])).length=128:=vD zA1;refine bodyPost_ret (v:=.tuple #[.int .i64 8,.int .i64 0]) (by simp[results,results142,go_sem]) rfl ⟨rfl,hB,A2,c2,rf2,⟨?_,?_,?_,?_⟩⟩
    ·exact(hb.below hB).more zO
    ·rw[hz];refine⟨[((8,jf (zX 0 [])),.slice A0 128 c0)],rfl,?_,?_⟩
     ·obtain⟨A',c',e,q1,q2⟩:=qy ow;cases e;exact⟨A2,c2,rfl,q1,q2,by have:=Rd.of_own ow;rw[hz] at this;exact this⟩
     ·intro p hp;simp only[List.mem_singleton] at hp;subst hp;exact⟨⟨A0,c0,by rw[hsl]⟩,hu4⟩
    ·exact Bys.of_own of4
    ·have e1:Bys w lo (.slice (some ⟨b4,o4,none⟩) 256 c4) last:=⟨_,c4,by rw[hl],zO,by assumption,by rw[hl];exact har⟩
     exact(e1.below hB).more zO
end Go.Proofs.YtpbniokljofedaaGreat
