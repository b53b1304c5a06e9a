/- Texts Roomy, Lay1, Lay, PutS, MayE, Build, Leave0, PAsk, PutW, joined. -/
import Derived.Defers
import Derived.Test.YtpbniokljofedaaGreatZE10
import Derived.Test.YtpbniokljofedaaGreatZE13
import Derived.Test.YtpbniokljofedaaGreatZE14
import Derived.Test.YtpbniokljofedaaGreatZE15
import Derived.Test.YtpbniokljofedaaGreatZE17
import Derived.Test.YtpbniokljofedaaGreatZE18
import Derived.Test.YtpbniokljofedaaGreatZE19
import Derived.Test.YtpbniokljofedaaGreatZE20
set_option linter.unusedSimpArgs false
set_option linter.unusedVariables false
set_option maxHeartbeats 8000000
namespace Go.Proofs.YtpbniokljofedaaGreat
open Go.RowKit
def QP (S:Sto):Int:=if qo S=true∧16≤(QU S).length then 0 else 9
structure Two (bp be:Nat) (W W':World):Prop where
 os:W'.os=W.os
 tape:W'.tape=W.tape
 output:W'.output=W.output
 size:W.heap.size≤W'.heap.size
 same:∀ k,k<W.heap.size→k≠bp→k≠be→W'.heap[k]?=W.heap[k]?
theorem Two.of_ext {bp be:Nat} {W W':World} (h:Ext W W'):Two bp be W W':=⟨h.os,h.tape,h.output,h.size,fun k hk _ _=>h.block k hk⟩
theorem Two.below {bp be B:Nat} {w0 W W':World} (h:Two bp be W W') (hb:Below B w0 W) (h1:B≤bp) (h2:B≤be) (hB:B≤W.heap.size):Below B w0 W':=hb.trans ⟨h.os,h.tape,h.output,h.size,fun k hk=>h.same k (by omega) (by omega) (by omega)⟩
abbrev vU:Array Value:=qB (.slice none 0 0) (.slice none 0 0) (.slice none 0 0) (.slice none 0 0) 0 0 0 (.slice none 0 0)
theorem Two.trans {bp be:Nat} {A B C:World} (h:Two bp be A B) (k:Two bp be B C):Two bp be A C:=⟨k.os.trans h.os,k.tape.trans h.tape,k.output.trans h.output,Nat.le_trans h.size k.size,fun i hi h1 h2=>(k.same i (Nat.lt_of_lt_of_le hi h.size) h1 h2).trans (h.same i hi h1 h2)⟩
theorem Two.setP {bp be:Nat} (A:World) (j:Nat) (v:Value):Two bp be A (A.setCell ⟨bp,j,none⟩ v):=⟨rfl,rfl,rfl,by simp,fun k _ hk _=>zJ _ _ _ _ hk⟩
theorem Two.setE {bp be:Nat} (A:World) (j:Nat) (v:Value):Two bp be A (A.setCell ⟨be,j,none⟩ v):=⟨rfl,rfl,rfl,by simp,fun k _ _ hk=>zJ _ _ _ _ hk⟩
theorem Two.set8 {bp be:Nat} (w:World) (x0 x1 x2 x3 x4 x5 x6 x7:Value):Two bp be w ((((((((w.setCell ⟨bp,0,none⟩ x0).setCell ⟨bp,1,none⟩ x1).setCell ⟨bp,2,none⟩ x2).setCell ⟨bp,3,none⟩ x3).setCell ⟨bp,4,none⟩ x4).setCell ⟨bp,5,none⟩ x5).setCell ⟨bp,6,none⟩ x6).setCell ⟨bp,7,none⟩ x7):=
 (Two.setP _ _ _).trans ((Two.setP _ _ _).trans ((Two.setP _ _ _).trans ((Two.setP _ _ _).trans ((Two.setP _ _ _).trans ((Two.setP _ _ _).trans ((Two.setP _ _ _).trans (Two.setP _ _ _)))))))
def RoomyQ (bp be:Nat) (cs:Array Value) (e:Int) (S:Sto) (W W':World):Prop:=Two bp be W W' ∧
 ((e=0∧QP S=0∧W'.heap[bp]?=some (.cells cs 32 (0,0))∧W'.heap[be]?=some (.cells #[.int .i64 0] 36 (0,0))) ∨
  ∃ e',e'≠0∧((e=0∧e'=QP S)∨(e≠0∧e'=e))∧W'.heap[bp]?=some (.cells vU 32 (0,0))∧W'.heap[be]?=some (.cells #[.int .i64 e'] 36 (0,0)))
set_option maxRecDepth 100000 in
theorem qio (bp be:Nat) (hne:bp≠be) (A1:Option Addr) (n1 c1:Nat) (A2:Option Addr) (n2 c2:Nat) (A3:Option Addr) (n3 c3:Nat) (A4:Option Addr) (n4 c4:Nat) (gen root next:Int) (v5:Value) (e:Int) (S:Sto) (w:World)
  (hp:w.heap[bp]?=some (.cells (qB (.slice A1 n1 c1) (.slice A2 n2 c2) (.slice A3 n3 c3) (.slice A4 n4 c4) gen root next v5) 32 (0,0))) (he:w.heap[be]?=some (.cells #[.int .i64 e] 36 (0,0)))
  (h:e=0→qT w w.heap.size (.slice A1 n1 c1) (.slice A2 n2 c2) (.slice A3 n3 c3) (.slice A4 n4 c4) S) :
  Calls Tryz.prog 127 #[.pointer (some ⟨bp,0,none⟩),.pointer (some ⟨be,0,none⟩)] w (fun x w'=>x=.returned (.tuple #[])∧RoomyQ bp be (qB (.slice A1 n1 c1) (.slice A2 n2 c2) (.slice A3 n3 c3) (.slice A4 n4 c4) gen root next v5) e S w w'):=by
 have kp:=qa hp
 have ke:=qa he
 have fp:=qd hp
 have fe:=qd he
 have zp:bp<w.heap.size:=(zG.1 hp).1
 have ze:be<w.heap.size:=(zG.1 he).1
 by_cases h0:e=0
 ·subst h0
  have HF:=Tz A1 n1 c1 A2 n2 c2 A3 n3 c3 A4 n4 c4 S w (h rfl)
  clear h
  go_enter Tryz.func127,Tryz.ntmps127
  go_wp2_with fail
  refine HF.mono ?_
  rintro x w2 ⟨hB,hQ⟩
  have x2:Ext w w2:=hB
  have hp2:=qb hp x2
  have he2:=qb he x2
  have kp2:=qa hp2
  have ke2:=qa he2
  have fp2:=qd hp2
  have fe2:=qd he2
  clear kp ke fp fe hB HF hp he
  rcases hQ with ⟨hm,rfl⟩|⟨hm,v,rfl,hown⟩
  ·have hE:QP S=9:=by unfold QP;rw[hm];rfl
   replace hE:=zH hE
   replace hm:=zH hm
   have hne':¬be=bp:=fun e=>hne e.symm
   go_wp2_with fail
   go_end0
   exact⟨rfl,(Two.of_ext x2).trans ((Two.setE _ _ _).trans (Two.set8 _ _ _ _ _ _ _ _ _)),.inr ⟨9,by decide,.inl ⟨rfl,hE.out.symm⟩,ZH ((zJ _ _ _ _ hne).trans hp2) _ _ _ _ _ _ _ _,(jh hne' _ _ _ _ _ _ _ _).trans (qi he2 0 _)⟩⟩
  ·obtain⟨A,c,rfl,-,-⟩:=qw hown
   clear hown
   by_cases hl:(QU S).length<16
   ·have hE:QP S=9:=by unfold QP;rw[if_neg (by omega)]
    replace hE:=zH hE
    have d1:decide (((QU S).length:Int)<16)=true:=decide_eq_true (by omega)
    have d2:decide ((QU S).length<16)=true:=decide_eq_true hl
    replace hl:=zH hl
    replace hm:=zH hm
    have hne':¬be=bp:=fun e=>hne e.symm
    go_wp2_with fail
    go_end0
    exact⟨rfl,(Two.of_ext x2).trans ((Two.setE _ _ _).trans (Two.set8 _ _ _ _ _ _ _ _ _)),.inr ⟨9,by decide,.inl ⟨rfl,hE.out.symm⟩,ZH ((zJ _ _ _ _ hne).trans hp2) _ _ _ _ _ _ _ _,(jh hne' _ _ _ _ _ _ _ _).trans (qi he2 0 _)⟩⟩
   ·have hE:QP S=0:=by unfold QP;rw[if_pos ⟨hm,by omega⟩]
    replace hE:=zH hE
    have d1:decide (((QU S).length:Int)<16)=false:=decide_eq_false (by omega)
    have d2:decide ((QU S).length<16)=false:=decide_eq_false hl
    replace hl:=zH hl
    replace hm:=zH hm
    have hne':¬be=bp:=fun e=>hne e.symm
    go_wp2_with fail
    go_end0
    exact⟨rfl,Two.of_ext x2,.inl ⟨rfl,hE.out,hp2,he2⟩⟩
 ·have b0:(e == 0)=false:=by rw[beq_eq_false_iff_ne];exact h0
  have b1:(e != 0)=true:=by rw[bne_iff_ne];exact h0
  have b2:decide (e=0)=false:=decide_eq_false h0
  replace h0:=zH h0
  replace hne:=zH hne
  clear h
  go_enter Tryz.func127,Tryz.ntmps127
  go_wp2_with fail
  go_end0
  exact⟨rfl,Two.set8 _ _ _ _ _ _ _ _ _,.inr ⟨e,h0.out,.inr ⟨h0.out,rfl⟩,ZH hp _ _ _ _ _ _ _ _,(jh (fun x=>hne.out x.symm) _ _ _ _ _ _ _ _).trans he⟩⟩
structure Kq (bp be ba:Nat) (W W':World):Prop where
 os:W'.os=W.os
 tape:W'.tape=W.tape
 output:W'.output=W.output
 size:W.heap.size≤W'.heap.size
 same:∀ k,k<W.heap.size→k≠bp→k≠be→k≠ba→W'.heap[k]?=W.heap[k]?
theorem Kq.of_two {bp be ba:Nat} {W W':World} (h:Two bp be W W'):Kq bp be ba W W':=⟨h.os,h.tape,h.output,h.size,fun k hk h1 h2 _=>h.same k hk h1 h2⟩
theorem Kq.set {bp be ba:Nat} {W W':World} (h:Kq bp be ba W W') (v:Value):Kq bp be ba W (W'.setCell ⟨ba,0,none⟩ v):=⟨h.os,h.tape,h.output,by simpa using h.size,fun k hk h1 h2 h3=>(zJ _ _ _ _ h3).trans (h.same k hk h1 h2 h3)⟩
theorem Kq.below {bp be ba B:Nat} {w0 W W':World} (h:Kq bp be ba W W') (hb:Below B w0 W) (h1:B≤bp) (h2:B≤be) (h3:B≤ba) (hB:B≤W.heap.size):Below B w0 W':=hb.trans ⟨h.os,h.tape,h.output,h.size,fun k hk=>h.same k (by omega) (by omega) (by omega) (by omega)⟩
theorem Tp {W:World} {b:Nat} {x0 x1 x2 x3 x4 x5 x6 x7 y z u0 u1 u2 u3 u4 u5 u6 u7 p q:Value} {ty1 ty2 ty3:TypeId} (r4:W.heap[b+1]?=some (.cells #[u0,u1,u2,u3,u4,u5,u6,u7] ty1 (0,0))) (r5:W.heap[b+2]?=some (.cells #[p] ty2 (0,0))) (r6:W.heap[b+3]?=some (.cells #[q] ty3 (0,0))) {C:World}
  (hC:C=((((((((((W.setCell ⟨b+1,0,none⟩ x0).setCell ⟨b+1,1,none⟩ x1).setCell ⟨b+1,2,none⟩ x2).setCell ⟨b+1,3,none⟩ x3).setCell ⟨b+1,4,none⟩ x4).setCell ⟨b+1,5,none⟩ x5).setCell ⟨b+1,6,none⟩ x6).setCell ⟨b+1,7,none⟩ x7).setCell ⟨b+1+1,0,none⟩ y).setCell ⟨b+1+1+1,0,none⟩ z)) :
  C.heap[b+1]?=some (.cells #[x0,x1,x2,x3,x4,x5,x6,x7] ty1 (0,0))∧C.heap[b+2]?=some (.cells #[y] ty2 (0,0))∧C.heap[b+3]?=some (.cells #[z] ty3 (0,0))∧(∀ {B:Nat} {w0:World},B≤b+1→Below B w0 W→Below B w0 C)∧C.heap.size=W.heap.size∧(∀ k,k≠b+1→k≠b+2→k≠b+3→C.heap[k]?=W.heap[k]?):=by
 subst hC
 have hs:=fun (A:World) (b j:Nat) (v:Value) (k:Nat) (hk:k≠b)=>zJ A ⟨b,j,none⟩ v k hk
 refine⟨?_,?_,?_,fun hB h=>?_,by simp,fun k h1 h2 h3=>?_⟩
 ·rw[hs _ _ _ _ _ (by omega),hs _ _ _ _ _ (by omega)]
  exact ZH r4 x0 x1 x2 x3 x4 x5 x6 x7
 ·rw[hs _ _ _ _ _ (by omega)]
  refine qi (t:=ty2) (cs:=#[p]) ?_ 0 y
  rw[jh (by omega)]
  exact r5
 ·refine qi (t:=ty3) (cs:=#[q]) ?_ 0 z
  rw[hs _ _ _ _ _ (by omega),jh (by omega)]
  exact r6
 ·exact Below.setCell (Below.setCell (QG h (b:=b+1) (by omega) x0 x1 x2 x3 x4 x5 x6 x7) (p:=⟨b+1+1,0,none⟩) (by simp;omega) _) (p:=⟨b+1+1+1,0,none⟩) (by simp;omega) _
 ·rw[hs _ _ _ _ _ (by omega),hs _ _ _ _ _ (by omega),jh (by omega)]
theorem two_rows {W:World} {b:Nat} {p q p0 q0:Value} {ty2 ty3:TypeId} (r5:W.heap[b+2]?=some (.cells #[p0] ty2 (0,0))) (r6:W.heap[b+3]?=some (.cells #[q0] ty3 (0,0))) {C:World} (hC:(W.setCell ⟨b+1+1,0,none⟩ p).setCell ⟨b+1+1+1,0,none⟩ q=C) :
  C.heap[b+2]?=some (.cells #[p] ty2 (0,0))∧C.heap[b+3]?=some (.cells #[q] ty3 (0,0))∧(∀ {B:Nat} {w0:World},B≤b+1→Below B w0 W→Below B w0 C)∧C.heap.size=W.heap.size∧(∀ k,k≠b+2→k≠b+3→C.heap[k]?=W.heap[k]?):=by
 subst hC
 have hs:=fun (A:World) (b j:Nat) (v:Value) (k:Nat) (hk:k≠b)=>zJ A ⟨b,j,none⟩ v k hk
 refine⟨?_,?_,fun hB h=>?_,by simp,fun k h2 h3=>?_⟩
 ·rw[hs _ _ _ _ _ (by omega)]
  exact qi (t:=ty2) (cs:=#[p0]) r5 0 p
 ·refine qi (t:=ty3) (cs:=#[q0]) ?_ 0 q
  rw[hs _ _ _ _ _ (by omega)]
  exact r6
 ·exact Below.setCell (Below.setCell h (p:=⟨b+1+1,0,none⟩) (by simp;omega) _) (p:=⟨b+1+1+1,0,none⟩) (by simp;omega) _
 ·rw[hs _ _ _ _ _ (by omega),hs _ _ _ _ _ (by omega)]
theorem sm_now {S:Sto} {t:List UInt8} (h:∀ r:Nat,0<(S.now[r]?.getD 0).toNat→0<(t[r]?.getD 0).toNat):SM S (qy S t) where
 node r nd e:=by
  unfold qu at e ⊢
  split at e
  ·cases e
  ·rename_i h1
   rw[if_neg (by have:=h r (by omega);simp only;omega)]
   exact e
 pos:=h
theorem ZB {t:List UInt8} {a:Nat} (h:Ql t=true) (ha:8≤a) (v:UInt8):Ql (t.set a v)=true:=by
 unfold Ql at *
 simp only[Bool.and_eq_true,decide_eq_true_eq] at *
 refine⟨by rw[List.length_set];exact h.1,?_⟩
 rw[List.take_set_of_le ha]
 exact h.2
theorem qz {S:Sto}:qo S=true↔jp S.bs S.ws=true∧Ql S.now=true∧Ql S.last=true:=by unfold qo;simp[Bool.and_eq_true]
theorem may_put {S:Sto} (h:qo S=true) {a:Nat} (ha:8≤a) (ha2:a<256) {l:List UInt8} (hl:l.length=128) (hw:S.ws.length≠4096):qo (Ye S a l)=true:=by
 obtain⟨h1,h2,h3⟩:=qz.1 h
 refine qz.2 ⟨?_,ZB h2 ha 1,h3⟩
 unfold jp headD at *
 simp only[Bool.and_eq_true,decide_eq_true_eq,Ye,List.length_append,List.length_singleton,List.all_append,List.all_cons,List.all_nil,Bool.and_true] at *
 obtain⟨⟨g1,g2⟩,g3,g4⟩:=h1
 refine⟨⟨g1,by omega⟩,g3,g4,?_⟩
 unfold wrOk
 exact decide_eq_true ⟨by simp,by simp;omega,hl⟩
theorem qaD {S:Sto} (h:¬QU S=[]):QY S<256:=by
 have hmem:QY S∈jN S 256:=by
  show QY S∈QU S
  unfold QY
  rcases hf:QU S with _|⟨x,r⟩
  ·exact absurd hf h
  ·simp
 simpa using (List.mem_filter.1 hmem).1
theorem GM {t:List UInt8} (h:Ql t=true):t.length=256:=by
 unfold Ql at h
 simp only[Bool.and_eq_true,decide_eq_true_eq] at h
 exact h.1
theorem qdu {t:List UInt8} (h:Ql t=true):Qj t 0=0:=by
 have hl:=GM h
 unfold Ql at h
 simp only[Bool.and_eq_true] at h
 rcases t with _|⟨x,r⟩
 ·simp at hl
 ·have:=h.2
  simp[VU] at this
  simp[Qj,this.1]
theorem qeY {t t':List UInt8} {a:Nat} (ha:a=0∨8≤a) (h:Ql t=true) (e:JB t a=.ok t'):Ql t'=true:=by
 unfold JB at e
 split at e
 ·cases e;exact h
 ·split at e
  ·cases e
  ·split at e
   ·cases e
   ·cases e
    exact ZB h (by omega) _
theorem qag:∀ {l:List Nat} {t t':List UInt8},(∀ a∈l,a=0∨8≤a)→Ql t=true→ZL l t=.ok t'→Ql t'=true
 | [],t,t',_,h,e=>by cases e;exact h
 |a :: l,t,t',hl,h,e=>by
  simp only[ZL] at e
  split at e
  ·cases e
  ·rename_i t1 e1
   exact qag (fun b hb=>hl b (List.mem_cons_of_mem _ hb)) (qeY (hl a List.mem_cons_self) h e1) e
theorem JG:∀ {l:List Nat} {t t':List UInt8},(∀ a∈l,a=0∨8≤a)→Ql t=true→QH l t=.ok t'→Ql t'=true
 | [],t,t',_,h,e=>by cases e;exact h
 |a :: l,t,t',hl,h,e=>by
  by_cases ha:a=0
  ·subst ha
   rw[Jf] at e
   exact JG (fun b hb=>hl b (List.mem_cons_of_mem _ hb)) h e
  ·by_cases h0:Qj t a=0
   ·rw[JC ha h0] at e;cases e
   ·rw[Je ha h0] at e
    exact JG (fun b hb=>hl b (List.mem_cons_of_mem _ hb)) (ZB h (by have:=hl a List.mem_cons_self;omega) _) e
theorem qgT {its:List It} (h:∀ x∈its,itB x.r x.val.length=true):∀ a∈qX its,(a=0∨8≤a)∧a<256:=fun a ha=>by
 obtain⟨x,hx,rfl⟩:=List.mem_map.1 ha
 have:=h x hx
 unfold itB at this
 simp only[decide_eq_true_eq] at this
 omega
theorem YA {S:Sto} {a:Nat} {lvl:Int} {xs:List It} (h:qu S a=some (lvl,xs)):∀ r∈qX xs,(r=0∨8≤r)∧r<256:=qgT fun x hx=>((Qb h).2.1 x hx).2
theorem qeE {S S':Sto} {lvl:Int} {its:List It} {f:Nat} (hS:qo S=true) (h:Zq S lvl its=.ok (f,S')):∃ t,Qg lvl its=true∧ZL (qX its) S.now=.ok t∧S.ws.length≠4096∧8≤f∧f<256∧ZS (qy S t) f=true∧S'=Ye (qy S t) f (jo (Za lvl its))∧Ql t=true:=by
 unfold Zq at h
 split at h
 ·rename_i hm
  split at h
  ·cases h
  ·rename_i t ht
   split at h
   ·cases h
   ·rename_i hn
    cases h
    have h1:QU (qy S t)≠[]:=fun e=>hn (.inl e)
    have hmem:QY (qy S t)∈QU (qy S t):=by
     unfold QY
     cases e:QU (qy S t) with
     |nil=>exact absurd e h1
     |cons a l=>exact List.mem_cons_self
    have hfb:ZS (qy S t) (QY (qy S t))=true:=by
     have:=List.mem_filter.1 (show QY (qy S t)∈(List.range 256).filter (ZS (qy S t)) from hmem)
     exact this.2
    have h8:8≤QY (qy S t):=by
     unfold ZS at hfb
     simp only[Bool.and_eq_true,decide_eq_true_eq] at hfb
     exact hfb.1
    exact⟨t,hm,ht,fun e=>hn (.inr e),h8,qaD h1,hfb,rfl,qag (fun a ha=>(qgT (jR hm).2.2.2 a ha).1) (qz.1 hS).2.1 ht⟩
 ·cases h
theorem YC {S S':Sto} {lvl:Int} {its:List It} {f:Nat} (hio:∀ x∈its,jd x) (hS:qo S=true) (h:Zq S lvl its=.ok (f,S')):qo S'=true∧8≤f∧f<256∧S'.ws.length≤4096:=by
 obtain⟨t,hm,ht,hw,h8,hf,hfb,rfl,htm⟩:=qeE hS h
 have hl:(jo (Za lvl its)).length=128:=vK (by
  have:=kM lvl its.length its.length hio (jR hm).2.2.1
  rw[Ki] at this
  omega)
 have h1:=may_put (S:=qy S t) (qz.2 ⟨(qz.1 hS).1,htm,(qz.1 hS).2.2⟩) h8 hf hl hw
 exact⟨h1,h8,hf,(qV h1).2.1⟩
theorem Gb {S:Sto} (hS:qo S=true) {t:List UInt8} (ht:Ql t=true):qo (qy S t)=true:=qz.2 ⟨(qz.1 hS).1,ht,(qz.1 hS).2.2⟩
theorem qas {S:Sto}:∀ (h:Nat) {lvl:Int} {t t':List UInt8} {a:Nat},(8≤a∨Qj t a=0)→Ql t=true→vZ S h lvl t a=some t'→Ql t'=true
 |0,lvl,t,t',a,_,_,e=>by cases e
 |h+1,lvl,t,t',a,ha,ht,e=>by
  rw[Vu] at e
  split at e
  ·cases e
  ·rename_i h0
   have ha8:8≤a:=by omega
   split at e
   ·cases e
    exact ZB ht ha8 _
   ·split at e
    ·cases e
    ·rename_i l xs hn
     have hr:=YA hn
     have ht0:=ZB ht ha8 0
     split at e
     ·cases e
     ·split at e
      ·have key:∀ (rs:List Nat),(∀ r∈rs,(r=0∨8≤r)∧r<256)→∀ (o:Option (List UInt8)),(∀ u,o=some u→Ql u=true)→rs.foldl (fun acc r=>acc.bind fun t=>vZ S h (l-1) t r) o=some t'→Ql t'=true:=by
        intro rs
        induction rs with
        |nil=>intro _ o ho e;exact ho _ e
        |cons r rs ih =>
         intro hrs o ho e
         rw[List.foldl_cons] at e
         refine ih (fun q hq=>hrs q (List.mem_cons_of_mem _ hq)) _ (fun u hu=>?_) e
         cases o with
         |none=>cases hu
         |some t1 =>
          have h1:=ho t1 rfl
          refine qas h (a:=r) ?_ h1 hu
          rcases(hrs r List.mem_cons_self).1 with rfl|h8
          ·right
           exact qdu h1
          ·exact .inl h8
       exact key _ hr _ (fun u hu=>by cases hu;exact ht0) e
      ·split at e
       ·cases e
       ·rename_i t1 e1
        cases e
        exact JG (fun a ha=>(hr a ha).1) ht0 e1
theorem Kc {S:Sto} {lvl:Int} {t t':List UInt8} {a:Nat} (ha:8≤a) (ht:Ql t=true) (e:QI S lvl t a=some t'):Ql t'=true:=qas 7 (.inl ha) ht e
theorem qbN {lvl:Int}:∀ {ps:List (List It)} {S S':Sto} {up:List It},(∀ p∈ps,∀ x∈p,jd x)→qo S=true→jJ lvl ps S=.ok (up,S')→qo S'=true∧up.length=ps.length∧∀ y∈up,(∃ f:Nat,y.r=(f:Int)∧8≤f∧f<256)∧y.val=[]∧∃ p∈ps,qF y=TM p
 | [],S,S',up,_,hS,e=>by
  cases e
  exact⟨hS,rfl,fun y hy=>by cases hy⟩
 |p :: ps,S,S',up,hp,hS,e=>by
  simp only[jJ] at e
  split at e
  ·cases e
  ·rename_i f S1 e1
   obtain⟨h1,h8,hf,_⟩:=YC (hp p List.mem_cons_self) hS e1
   split at e
   ·cases e
   ·rename_i up1 S2 e2
    cases e
    obtain⟨g1,g2,g3⟩:=qbN (fun q hq=>hp q (List.mem_cons_of_mem _ hq)) h1 e2
    refine⟨g1,by simp[g2],fun y hy=>?_⟩
    rcases List.mem_cons.1 hy with rfl|hy
    ·exact⟨⟨f,rfl,h8,hf⟩,rfl,p,List.mem_cons_self,rfl⟩
    ·obtain⟨k1,k2,q,hq,k3⟩:=g3 y hy
     exact⟨k1,k2,q,List.mem_cons_of_mem _ hq,k3⟩
theorem qdR {l:List It} (h:∀ x∈l,jd x):∀ p∈Vz l,∀ x∈p,jd x:=fun p hp x hx=>by
 unfold Vz at hp
 split at hp
 ·simp only[List.mem_cons,List.not_mem_nil,or_false] at hp
  rcases hp with rfl|rfl
  ·exact h x (List.mem_of_mem_take hx)
  ·exact h x (List.mem_of_mem_drop hx)
 ·simp only[List.mem_cons,List.not_mem_nil,or_false] at hp
  subst hp
  exact h x hx
theorem key0_ok {p:List It} (h:∀ x∈p,jd x):(0≤(TM p).1∧(TM p).1<256)∧(0≤(TM p).2.1∧(TM p).2.1<4294967296)∧(0≤(TM p).2.2∧(TM p).2.2<4294967296):=by
 cases p with
 |nil=>exact⟨⟨by decide,by decide⟩,⟨by decide,by decide⟩,by decide,by decide⟩
 |cons x r =>
  obtain⟨h1,h2,h3,_⟩:=h x List.mem_cons_self
  exact⟨h1,h2,h3⟩
def KD (D:Nat→Prop) (B lo b g:Nat) (k:Option Nat) (S:Sto) (lvl:Int) (l held:List It) (w:World) (e:Ending) (W:World):Prop:=qY lo b g k w W ∧
 match zo S lvl l held with
 | .error er=>e=.returned (.tuple #[.slice none 0 0,.int .i64 er])
 | .ok (up,S')=>∃ k' D' A c,e=.returned (.tuple #[.slice A up.length c,.int .i64 0])∧Zl w.heap.size k k'∧Ks w.heap.size D D'∧Bch D' B lo b g k' S' W∧qo S'=true∧W.ownsRow w.heap.size 68 5 (.slice A up.length c) up.length (qR (upV up))∧∀ q,(Value.slice A up.length c).ownBlock=some q→¬D' q
theorem KD.bad {D:Nat→Prop} {B lo b g:Nat} {k:Option Nat} {S:Sto} {lvl:Int} {l held:List It} {w W:World} {er:Int} (h:zo S lvl l held=.error er) (hB:qY lo b g k w W):KD D B lo b g k S lvl l held w (.returned (.tuple #[.slice none 0 0,.int .i64 er])) W:=by
 refine⟨hB,?_⟩
 rw[h]
structure BdI (D:Nat→Prop) (B lo b g:Nat) (k:Option Nat) (S:Sto) (lvl:Int) (ps:List (List It)) (P:Nat) (pv:List Value) (w:World) (v i:Value) (wr:World):Prop where
 ex:∃ (j:Nat) (ups:List It) (S':Sto) (k':Option Nat) (D':Nat→Prop) (Av:Option Addr) (cv:Nat),j≤ps.length∧i=.int .i64 (j:Int)∧v=.slice Av j cv∧ups.length=j∧jJ lvl (ps.take j) S=.ok (ups,S')∧qo S'=true∧Zl w.heap.size k k'∧Ks w.heap.size D D'∧Bch D' B lo b g k' S' wr∧qY lo b g k w wr ∧
  wr.ownsRow w.heap.size 68 5 (.slice Av j cv) j (qR (upV ups))∧(∀ q,(Value.slice Av j cv).ownBlock=some q→¬D' q∧P<q)∧wr.heap[P]?=some (.cells pv.toArray 47 (0,0))∧P<wr.heap.size
structure HdI (D:Nat→Prop) (B lo b g:Nat) (k:Option Nat) (S:Sto) (held:List It) (vu:Value) (wm:World) (v i:Value) (wr:World):Prop where
 ex:∃ (j:Nat) (t:List UInt8),v=vu∧j≤held.length∧i=.int .i64 (j:Int)∧QH (qX (held.take j)) S.now=.ok t∧Bch D B lo b g k (qy S t) wr∧qY lo b g k wm wr
theorem TD {R:Ending→World→Prop} {a:Act} {W:World} {u v:Value} (h8:a.tmps[8]?.getD undef=u) (h9:a.tmps[9]?.getD undef=v) (hd:a.defers=[]) (hR:R (.returned (.tuple #[u,v])) W):bodyPost Tryz.prog Tryz.f103 R .ret a W:=by
 refine bodyPost_ret (v:=.tuple #[u,v]) ?_ hd hR
 simp[results,Tryz.results103,go_sem,h8,h9]
set_option maxRecDepth 100000 in
theorem qbx (D:Nat→Prop) (B lo b g:Nat) (k:Option Nat) (S:Sto) (hS:qo S=true) (lvl:Int) (A:Option Addr) (n c:Nat) (its:List It) (hio:∀ x∈its,jd x) (hn0:0<its.length) (hn1:its.length≤100) (loh:Nat) (vh:Value) (hps:List (It×Value)) (held:List It) (hhm:hps.map (·.1)=held) (hh1:∀ p∈hps,∃ A c,p.2=.slice A p.1.val.length c) (hhr:∀ x∈held,(x.r=0∨8≤x.r)∧x.r<256) (hhl:held.length≤100) (w:World) (h:Bch D B lo b g k S w) (hx:Vl (B3 b g k) w (.slice A n c) its)
  (hho:w.ownsRow loh 68 5 vh held.length (qR hps)) :
  Calls Tryz.prog 103 #[.pointer (some ⟨b,0,none⟩),.int .i64 lvl,.slice A n c,vh] w (KD D B lo b g k S lvl its held w):=by
 obtain⟨hlb,hzb,hlg,hzg,hgb,hlw,hkq⟩:=h.size
 obtain⟨hnn,hnc,hcm,hA⟩:=hx.now.at_
 subst hnn
 obtain⟨bi,off,rfl,hbi⟩:=hA (by omega)
 obtain⟨Ah,ch,rfl,hcc1,hcc2⟩:=qw hho
 clear hA hkq
 replace h:=zH h
 replace hx:=zH hx
 replace hio:=zH hio
 replace hcm:=zH hcm
 replace hcc2:=zH hcc2
 replace hho:=zH hho
 rcases Nat.lt_or_ge 5 its.length with h5|h5
 case' inl =>
  have hpo:=zH (show Vz its=[its.take 3,its.drop 3] by unfold Vz;exact if_pos h5)
  have e5:decide ((5:Int)<(its.length:Int))=true:=decide_eq_true (by omega)
  go_enter Tryz.func103,Tryz.ntmps103
  go_upto_region 3 with fail
  generalize hw0:World.alloc _ _=w0
  have x0:Ext w w0:=by rw[←hw0];exact zN _ _
  have z0:w.heap.size<w0.heap.size:=by rw[←hw0];simp
  clear hw0
  refine qm (by kernel_rfl) ?_
  refine qO (w:=w0) ql (qE []) (List.replicate 4 true) 2 (by kernel_rfl) (by kernel_rfl) (by kernel_rfl) (by kernel_rfl) (by kernel_rfl) (by kernel_rfl) (by kernel_rfl) ?st (Rel.drew _ _) ?walk
  case' st=>exact qk (fun _ h=>by cases h)
  case' walk =>
   intro K hK
   dsimp only[qp,List.replicate]
   repeat ((first|(refine qe ?_ (by rfl) (by rfl) (fun W hW _=>⟨W,?_,Rel.refl _ W⟩) ?_;rotate_left;(first|(go_simp;with_reducible rfl)|(go_simp;done)))|(refine qh (by rfl) ?_));try simp only[Act.put,qj,qf,qc,qg,qc,qM,zA,zB,zC])
   refine qe (.slice (some ⟨bi,off,none⟩) 3 c) (by rfl) (by rfl) (fun W hW _=>⟨W,?_,Rel.refl _ W⟩) ?_
   ·go_simp
    intro hc3
    exfalso
    omega
   simp only[Act.put,qj,qf,qc,qg,qc,qM,zA,zB,zC]
   repeat ((first|(refine qe ?_ (by rfl) (by rfl) (fun W hW _=>⟨W,?_,Rel.refl _ W⟩) ?_;rotate_left;(first|(go_simp;with_reducible rfl)|(go_simp;done)))|(refine qh (by rfl) ?_));try simp only[Act.put,qj,qf,qc,qg,qc,qM,zA,zB,zC])
   refine qe (.slice (some ⟨bi,off+3*5,none⟩) (its.length-3) (c-3)) (by rfl) (by rfl) (fun W hW _=>⟨W,?_,Rel.refl _ W⟩) ?_
   ·go_simp
    rw[if_pos (by omega),if_neg (by omega)]
   simp only[Act.put,qj,qf,qc,qg,qc,qM,zA,zB,zC]
   repeat ((first|(refine qe ?_ (by rfl) (by rfl) (fun W hW _=>⟨W,?_,Rel.refl _ W⟩) ?_;rotate_left;(first|(go_simp;with_reducible rfl)|(go_simp;done)))|(refine qh (by rfl) ?_));try simp only[Act.put,qj,qf,qc,qg,qc,qM,zA,zB,zC])
   refine qt (hK _ _ fun W hW hF=>?_)
   clear hF hK
   have hW:Ext w0 W:=hW
   dsimp only[List.drop,List.length_cons,List.length_nil,Nat.reduceAdd,Nat.reduceSub]
   go_wp2
   refine Qo ?_
   go_wp2_with fail
   have x1:Ext w (W.alloc (.cells #[.slice (some ⟨bi,off,none⟩) 3 c,.slice (some ⟨bi,off+15,none⟩) (its.length-3) (c-3)] 47)):=(x0.trans hW).trans (zN _ _)
   have zP0:w.heap.size≤W.heap.size:=(x0.trans hW).size
   obtain⟨ps,hpe⟩:∃ ps,ps=[its.take 3,its.drop 3]:=⟨_,rfl⟩
   obtain⟨pv,hpv⟩:∃ pv:List Value,pv=[.slice (some ⟨bi,off,none⟩) 3 c,.slice (some ⟨bi,off+15,none⟩) (its.length-3) (c-3)]:=⟨_,rfl⟩
   have hpl:ps.length=2:=by rw[hpe];rfl
   have hel:Hid (∀ j (hj:j<ps.length),∃ bj oj cj,pv[j]?=some (.slice (some ⟨bj,oj,none⟩) ps[j].length cj)∧Vl (B3 b g k) w (.slice (some ⟨bj,oj,none⟩) ps[j].length cj) ps[j]∧0<ps[j].length∧∀ x∈ps[j],jd x):=zH fun j hj=>by
    have e3:(its.take 3).length=3:=by rw[List.length_take];omega
    rcases j with _|_|j
    ·subst hpe hpv
     refine⟨bi,off,c,?_,?_,?_,fun x hxm=>hio.out x (List.mem_of_mem_take hxm)⟩
     ·simp only[List.getElem_cons_zero,e3];rfl
     ·simp only[List.getElem_cons_zero,e3];exact hx.out.take (by omega)
     ·simp only[List.getElem_cons_zero,e3];omega
    ·subst hpe hpv
     refine⟨bi,off+15,c-3,?_,?_,?_,fun x hxm=>hio.out x (List.mem_of_mem_drop hxm)⟩
     ·simp only[List.getElem_cons_succ,List.getElem_cons_zero,List.length_drop];rfl
     ·simp only[List.getElem_cons_succ,List.getElem_cons_zero,List.length_drop];exact hx.out.drop (k:=3) (by omega)
     ·simp only[List.getElem_cons_succ,List.getElem_cons_zero,List.length_drop];omega
    ·omega
   have hPr:(W.alloc (.cells #[.slice (some ⟨bi,off,none⟩) 3 c,.slice (some ⟨bi,off+15,none⟩) (its.length-3) (c-3)] 47)).heap[W.heap.size]?=some (.cells pv.toArray 47 (0,0)):=by rw[hpv];exact zI _ _ _ rfl
   have hpsE:=zH (hpo.out.trans hpe.symm)
   clear hpe hpv hpo h5 e5 x0 z0 hW
   generalize World.alloc W _=w1 at *
   generalize W.heap.size=P at *
   generalize Value.slice (some ⟨bi,off+15,none⟩) (its.length-3) (c-3)=v26
   generalize Value.slice (some ⟨bi,off,none⟩) 3 c=v24
   generalize Value.slice (some ⟨w.heap.size,0,none⟩) 1 1=v19
 case' inr =>
  have hpo:=zH (show Vz its=[its] by unfold Vz;exact if_neg (by omega))
  have e5:decide ((5:Int)<(its.length:Int))=false:=decide_eq_false (by omega)
  go_enter Tryz.func103,Tryz.ntmps103
  go_wp2_with fail
  have x1:Ext w (w.alloc (.cells #[.slice (some ⟨bi,off,none⟩) its.length c] 47)):=zN _ _
  have zP0:w.heap.size≤w.heap.size:=zM _
  obtain⟨ps,hpe⟩:∃ ps,ps=[its]:=⟨_,rfl⟩
  obtain⟨pv,hpv⟩:∃ pv:List Value,pv=[.slice (some ⟨bi,off,none⟩) its.length c]:=⟨_,rfl⟩
  have hpl:ps.length=1:=by rw[hpe];rfl
  have hel:Hid (∀ j (hj:j<ps.length),∃ bj oj cj,pv[j]?=some (.slice (some ⟨bj,oj,none⟩) ps[j].length cj)∧Vl (B3 b g k) w (.slice (some ⟨bj,oj,none⟩) ps[j].length cj) ps[j]∧0<ps[j].length∧∀ x∈ps[j],jd x):=zH fun j hj=>by
   rcases j with _|j
   ·subst hpe hpv
    exact⟨bi,off,c,rfl,hx.out,hn0,hio.out⟩
   ·omega
  have hPr:(w.alloc (.cells #[.slice (some ⟨bi,off,none⟩) its.length c] 47)).heap[w.heap.size]?=some (.cells pv.toArray 47 (0,0)):=by rw[hpv];exact zI _ _ _ rfl
  have hpsE:=zH (hpo.out.trans hpe.symm)
  obtain⟨P,hPP⟩:∃ P,P=w.heap.size:=⟨_,rfl⟩
  rw[←hPP] at hPr
  clear hpe hpv hpo h5 e5
  generalize World.alloc w _=w1 at *
  have zP0:w.heap.size≤P:=by omega
  simp only[←hPP]
  clear hPP
 all_goals
  clear hx hio hbi hnc hcm
  go_loopw [8,30] (fun v i wr=>BdI D B lo b g k S lvl ps P pv w v i wr) (fun _ i _=>ps.length-(intOf i).toNat)
  case atStart=>exact⟨0,[],S,k,D,none,0,Nat.zero_le _,rfl,rfl,rfl,rfl,hS,Zl.refl _ _,Ks.refl _ _,h.out.ext x1,qY.of_ext x1 hlw,World.ownsRow_nil _ _ _ _,(fun q hq=>by cases hq),hPr,(zG.1 hPr).1⟩
  case round =>
   obtain⟨j,ups,S',k',D',Av,cv,hj,rfl,rfl,hul,hml,hS',hNk,hND,hbc,hbk,hown,hoD,hPw,hPz⟩:=hrel.ex
   clear hrel hPr
   have hws:=(qV hS').2.1
   by_cases hlt:j<ps.length
   ·obtain⟨bj,oj,cj,hpvj,hxj,hpos,hioj⟩:=hel.out j hlt
    have kP:wr.cell? ⟨P,j,none⟩=some (.slice (some ⟨bj,oj,none⟩) ps[j].length cj):=by rw[qa hPw];simpa using hpvj
    have hxr:=hxj.trans hbk.keepX (B3.of_new hNk)
    have HM:=zH (qbA D' B lo b g k' S' lvl (some ⟨bj,oj,none⟩) ps[j].length cj ps[j] hioj hws wr hbc hxr)
    have hbad:=zH (fun e h1=>qin hlt (e:=e) hml h1)
    have hmore:=zH (fun f S'' h1=>qfF hlt (f:=f) (S'':=S'') hml h1)
    have hmay:=zH (fun f S'' (h1:Zq S' lvl ps[j]=.ok (f,S''))=>(YC hioj hS' h1).1)
    have hxr:=zH hxr
    have d1:∀ M:Int,M=(ps.length:Int)→decide ((j:Int)<M)=true:=fun M hM=>decide_eq_true (by omega)
    have d3:∀ M:Nat,M=ps.length→j<M:=fun M hM=>by omega
    first
     |(have d2:=d1 2 (by rw[hpl];rfl);have hjn:=d3 2 hpl.symm)
     |(have d2:=d1 1 (by rw[hpl];rfl);have hjn:=d3 1 hpl.symm)
    have hj1:=zH (IntWalk.wrap64_in ((j:Int)+1) (by omega))
    replace hpl:=zH hpl
    generalize ps[j]=p at *
    generalize hnj:p.length=nj at *
    replace hnj:=zH hnj
    clear hpvj hioj hxj d1 d3 hml hS' hws
    go_wp2_with fail
    refine HM.out.mono ?_
    clear HM
    rintro e wM ⟨hkM,hcase⟩
    have zwr:=hbk.below.size
    have zM:=hkM.below.size
    have nB:∀ {q cs ty fr},wr.heap[q]?=some (.cells cs ty fr)→ty≠191→ty≠5→ty≠130→¬B3 b g k' q:=fun hr h1 h2 h3=>hbc.notB3 hr h1 h2 h3
    have hownM:=hkM.own hown (fun q hq=>by
     obtain⟨cur,hc⟩:=ZK hown hq
     exact nB hc (by decide) (by decide) (by decide))
    have hPM:=hkM.row hPw (nB hPw (by decide) (by decide) (by decide))
    have hkAll:=hbk.trans hkM hNk
    rcases hmx:Zq S' lvl p with er|⟨f,S''⟩
    ·rw[hmx] at hcase
     have hq:=zH (show zo S lvl its held=.error er by unfold zo;rw[hpsE.out,hbad.out er hmx])
     have hne:(er != 0)=true:=by rw[bne_iff_ne];exact Ys hmx
     have hcase:e=.returned (.tuple #[.int .i64 0,.int .i64 er]):=hcase
     subst hcase
     clear hmore hmay hbad hmx hownM hPM hown hPw hoD nB hbc hkM hel kP
     replace hkAll:=zH hkAll
     go_wp2_with fail
     exact TD rfl rfl rfl (KD.bad hq.out hkAll.out)
    ·rw[hmx] at hcase
     obtain⟨rfl,k'',D'',hN2,hD2,hb2⟩:e=.returned (.tuple #[.int .i64 (f:Int),.int .i64 0])∧∃ k'' D'',Zl wr.heap.size k' k''∧Ks wr.heap.size D' D''∧Bch D'' B lo b g k'' S'' wM:=hcase
     have hml2:=hmore.out f S'' hmx
     have hS2:=hmay.out f S'' hmx
     obtain⟨A',c',g0,g1,g2,-,-,-⟩:=((hxr.out.trans hkM.keepX (B3.of_new hN2)).now).item 0 (by rw[hnj.out];exact hpos)
     have hk0:TM p=((p[0]'(by rw[hnj.out];exact hpos)).k,(p[0]'(by rw[hnj.out];exact hpos)).i,(p[0]'(by rw[hnj.out];exact hpos)).o):=by
      have h0:0<p.length:=by rw[hnj.out];exact hpos
      rcases p with _|⟨y,r⟩
      ·simp at h0
      ·rfl
     generalize p[0]'(by rw[hnj.out];exact hpos)=y at *
     simp only[Nat.zero_mul,Nat.add_zero] at g0 g1 g2
     have hN':Zl w.heap.size k k'':=hNk.trans hN2 (by omega)
     have hDn':Ks w.heap.size D D'':=hND.trans hD2 (by omega)
     have hoq:∀ q,(Value.slice Av j cv).ownBlock=some q→w.heap.size≤q∧q<wr.heap.size:=fun q hq=>QV hown q hq
     have hfin:∀ (v':Value) (W:World),W.ownsRow w.heap.size 68 5 v' (j+1) (qR (upV ups)++[.int .u8 y.k,.int .u32 y.i,.int .u32 y.o,.int .i64 (f:Int),.slice none 0 0])→wM.grownBy W (Value.slice Av j cv).ownBlock→Below w.heap.size wM W→(v'.ownBlock=(Value.slice Av j cv).ownBlock∨∃ g,v'.ownBlock=some g∧wM.heap.size≤g) →
       BdI D B lo b g k S lvl ps P pv w v' (.int .i64 ((j:Int)+1)) W:=fun v' W hown' hg hB hat=>by
      obtain⟨A7,c7,rfl,-,-⟩:=qw hown'
      have hrow:∀ q,q<wM.heap.size→¬OwnX (.slice Av j cv) q→W.heap[q]?=wM.heap[q]?:=fun q hq hX=>hg.block q hq fun e=>hX e.symm
      have hbl:=hb2.blo
      have hzW:=hg.size
      have hDq:∀ q,(Value.slice Av j cv).ownBlock=some q→¬D'' q:=fun q hq hd=>(hD2 q hd).elim (fun h1=>(hoD q hq).1 h1) fun h1=>by have:=(hoq q hq).2;omega
      refine⟨j+1,ups++[mkIt (TM p) f],S'',k'',D'',A7,c7,by omega,rfl,rfl,by simp[hul],hml2,hS2,hN',hDn',?_,?_,?_,?_,?_,by omega⟩
      ·refine hb2.keepX (X:=OwnX (.slice Av j cv)) (Below.mono hB (by omega)) hrow (fun q hq hX=>?_)
       rcases hq with hq|hq
       ·obtain⟨cur,hc⟩:=ZK hownM (show _=some q from hX)
        exact hb2.notB3 hc (by decide) (by decide) (by decide) hq
       ·exact hDq q hX hq
      ·refine⟨hkAll.below.trans (Below.mono hB hlw),fun q hq hn=>(hrow q (by omega) fun hX=>?_).trans (hkAll.rows q hq hn)⟩
       have:=(hoq q hX).1
       omega
      ·rw[upV_item]
       have:mkIt (TM p) f=⟨y.k,y.i,y.o,(f:Int),[]⟩:=by rw[hk0];rfl
       rw[this]
       exact hown'
      ·intro q hq
       rcases hat with e1|⟨g',e1,e2⟩
       ·rw[e1] at hq
        exact⟨hDq q hq,(hoD q hq).2⟩
       ·rw[e1] at hq
        obtain rfl:g'=q:=by simpa using hq
        exact⟨fun hd=>by have:=(hb2.dB g' hd).2.1;omega,by omega⟩
      ·refine(hrow P (by omega) fun hX=>?_).trans hPM
       have:=(hoD P hX).2
       omega
     replace hfin:=zH hfin
     obtain⟨i0,hi,hz0,hz1,hz2⟩:=info_parts Tryz.info_item
     have hzz:w.heap.size≤wM.heap.size:=by omega
     clear hmore hmay hbad hmx hPM hown hPw hoD nB hbc hkM hel kP hoq hb2 hN2 hD2 hml2 hS2 hkAll hN' hDn' hk0
     go_wp2_with (at_builtin;refine qZ ?_)
     refine QA.go (ZP wM rfl (.tmp 45) (.tmp 52) 47 rfl w.heap.size 68 i0 _ 5 48 Tryz.underlying47 hi hz0 hz1 hz2 rfl (by decide) (.slice Av j cv) j (qR (upV ups)) (by exact rfl) hownM #[.int .u8 y.k,.int .u32 y.i,.int .u32 y.o,.int .i64 (f:Int),.slice none 0 0] (by exact rfl) rfl (by simp[Value.oneCell']) (by omega) (by decide) hzz ?_)
     intro v' W hown' hg hB hat
     have hF:=zH (hfin.out v' W hown' hg hB hat)
     clear hfin hown' hg hB hat hownM hi
     go_wp2_with fail
     try rw[hj1.out]
     refine⟨hF.out,?_⟩
     simp[intOf]
     omega
   ·obtain rfl:j=ps.length:=by omega
    rw[List.take_length] at hml
    have d1:∀ M:Int,M=(ps.length:Int)→decide (((ps.length:Nat):Int)<M)=false:=fun M hM=>decide_eq_false (by omega)
    first
     |have d2:=d1 2 (by rw[hpl];rfl)
     |have d2:=d1 1 (by rw[hpl];rfl)
    replace hpl:=zH hpl
    have hbX:Hid (zo S lvl its held=match QH (qX held) S'.now with
     | .error e=>.error e
     | .ok t=>.ok (ups,qy S' t)):=zH (by unfold zo;simp only[hpsE.out,hml] <;> rfl)
    have hhm':=hho.out
    have hhr1:=hbk.own hho.out (fun q hq=>by
     obtain⟨cur,hc⟩:=ZK hho.out hq
     exact h.out.notB3 hc (by decide) (by decide) (by decide))
    clear hPw hPz hel hml d1 hhm'
    replace hbk:=zH hbk
    replace hown:=zH hown
    replace hoD:=zH hoD
    replace hbc:=zH hbc
    generalize hwm:wr=wm at *
    clear hwm
    go_wp2_with fail
    go_loopw [8,57] (fun v i wr=>HdI D' B lo b g k' S' held (.slice Av ps.length cv) wm v i wr) (fun _ i _=>held.length-(intOf i).toNat)
    case atStart=>exact⟨0,S'.now,rfl,Nat.zero_le _,rfl,rfl,hbc.out,qY.refl _ _ _ _ _⟩
    case round =>
     obtain⟨j,t,rfl,hj,rfl,hlo,hbt,hbm⟩:=hrel.ex
     clear hrel
     have hkA:=zH (hbk.out.trans hbm hNk)
     by_cases hlt:j<held.length
     ·have hlp:j<hps.length:=by rw[←hhm,List.length_map] at hlt;exact hlt
      have hor:=hbm.own hhr1 (fun q hq=>by
       obtain⟨cur,hc⟩:=ZK hhr1 hq
       exact hbc.out.notB3 hc (by decide) (by decide) (by decide))
      obtain⟨bh,offh,rfl,hbh,hch⟩:=(Rd.of_own hor).2 (by omega)
      obtain⟨g0,g1,g2,g3,g4⟩:=vG hps j hlp
      replace g0:=hch _ _ g0
      replace g1:=hch _ _ g1
      replace g2:=hch _ _ g2
      replace g3:=hch _ _ g3
      replace g4:=hch _ _ g4
      rw[←Nat.add_assoc] at g1 g2 g3 g4
      obtain⟨Ax,cx,hx2⟩:=hh1 hps[j] (List.getElem_mem hlp)
      have hxe:hps[j].1=held[j]:=by simp only[←hhm,List.getElem_map]
      rw[hx2] at g4
      rw[hxe] at g0 g1 g2 g3 g4
      have hrr:=hhr held[j] (List.getElem_mem hlt)
      have hbad:=zH (fun h0 h1=>GW hlt hlo h0 h1)
      have hmore:=zH (fun h0 h1=>Ux hlt hlo h0 h1)
      have hskip:=zH (fun h0=>Uu hlt hlo h0)
      generalize held[j]=x at *
      have hj1:=zH (IntWalk.wrap64_in ((j:Int)+1) (by omega))
      obtain⟨a,hra⟩:∃ a:Nat,x.r=(a:Int):=⟨x.r.toNat,by omega⟩
      have ha9:a<256:=by omega
      have hsa:(x.r).toNat=a:=by omega
      rw[hra] at g3
      rw[hsa] at hbad hmore hskip
      have hz:=hbt.size.2.2.2.2.2.1
      have HL:=zH (fun W (hW:Ext wr W)=>Ur D' B lo b g k' (qy S' t) a ha9 W (hbt.ext hW))
      replace hbt:=zH hbt
      replace hbm:=zH hbm
      clear hch hx2 hxe hor hra hsa hrr hlo hhr1 hlp
      rcases Nat.eq_zero_or_pos a with ha0|ha0
      ·subst ha0
       have hF:HdI D' B lo b g k' S' held (.slice Av ps.length cv) wm (.slice Av ps.length cv) (.int .i64 ((j:Int)+1)) (wr.alloc (.cells #[.int .u8 x.k,.int .u32 x.i,.int .u32 x.o,.int .i64 0,.slice Ax x.val.length cx] 68)):=⟨j+1,t,rfl,by omega,rfl,hskip.out rfl,hbt.out.ext (zN _ _),hbm.out.trans (qY.of_ext (zN _ _) hz) (Zl.refl _ _)⟩
       replace hF:=zH hF
       clear hbad hmore hskip HL
       go_wp2_with fail
       try rw[hj1.out]
       refine⟨hF.out,?_⟩
       simp[intOf]
       omega
      ·have hza:((a:Int) == 0)=false:=by rw[beq_eq_false_iff_ne];omega
       have hzb:decide (a=0)=false:=decide_eq_false (by omega)
       replace ha0:=zH ha0
       go_wp2_with fail
       generalize hwa:World.alloc _ _=wa
       have xa:Ext wr wa:=by rw[←hwa];exact zN _ _
       clear hwa g0 g1 g2 g3 g4
       refine(HL.out wa xa).mono ?_
       clear HL
       rintro e wl ⟨hkl,hcase⟩
       have hkl2:=hbm.out.trans ((qY.of_ext xa hz).trans hkl (Zl.refl _ _)) (Zl.refl _ _)
       rcases hcase with ⟨hc0,rfl⟩|⟨hc0,rfl,hbl⟩
       ·have hq:=zH (show zo S lvl its held=.error 6 by rw[hbX.out,hbad.out (by have:=ha0.out;omega) hc0])
        have hkB:=zH (hbk.out.trans hkl2 hNk)
        clear hbX hbad hmore hskip hkl hkl2 hc0 hkA
        go_wp2_with fail
        exact TD rfl rfl rfl (KD.bad hq.out hkB.out)
       ·have hF:HdI D' B lo b g k' S' held (.slice Av ps.length cv) wm (.slice Av ps.length cv) (.int .i64 ((j:Int)+1)) wl:=⟨j+1,_,rfl,by omega,rfl,hmore.out (by have:=ha0.out;omega) hc0,hbl,hkl2⟩
        replace hF:=zH hF
        clear hbX hbad hmore hskip hkl hkl2 hc0 hbl hkA
        go_wp2_with fail
        try rw[hj1.out]
        refine⟨hF.out,?_⟩
        simp[intOf]
        omega
     ·obtain rfl:j=held.length:=by omega
      rw[List.take_length] at hlo
      have hq:zo S lvl its held=.ok (ups,qy S' t):=by rw[hbX.out,hlo]
      have hmayt:=Gb hS' (JG (fun a ha=>by
       obtain⟨x,hxm,rfl⟩:=List.mem_map.1 ha
       have:=hhr x hxm
       omega) (qz.1 hS').2.1 hlo)
      have hor:=hbm.own hown.out (fun q hq=>by
       obtain⟨cur,hc⟩:=ZK hown.out hq
       exact hbc.out.notB3 hc (by decide) (by decide) (by decide))
      have hR:KD D B lo b g k S lvl its held w (.returned (.tuple #[.slice Av ps.length cv,.int .i64 0])) wr:=by
       refine⟨hkA.out,?_⟩
       rw[hq]
       refine⟨k',D',Av,cv,by rw[hul],hNk,hND,hbt,hmayt,?_,?_⟩
       ·rw[hul];exact hor
       ·rw[hul];exact fun q hq=>(hoD.out q hq).1
      replace hR:=zH hR
      clear hor hmayt hq hbt hbm hlo hbX hkA hhr1
      go_wp2_with fail
      exact TD rfl rfl rfl hR.out
def jy (D:Nat→Prop) (B lo b g:Nat) (k:Option Nat) (S:Sto) (a:Nat) (w:World) (e:Ending) (W:World):Prop:=qY lo b g k w W ∧
 match QI S (-1) S.now a with
 |none=>e=.returned (.int .i64 8)
 |some t=>e=.returned (.int .i64 0)∧Bch D B lo b g k (qy S t) W
theorem jy.bad {D:Nat→Prop} {B lo b g:Nat} {k:Option Nat} {S:Sto} {a:Nat} {w W:World} (h:QI S (-1) S.now a=none) (hB:qY lo b g k w W):jy D B lo b g k S a w (.returned (.int .i64 8)) W:=by
 refine⟨hB,?_⟩
 rw[h]
theorem jy.good {D:Nat→Prop} {B lo b g:Nat} {k:Option Nat} {S:Sto} {a:Nat} {t:List UInt8} {w W:World} (h:QI S (-1) S.now a=some t) (hB:qY lo b g k w W) (hb:Bch D B lo b g k (qy S t) W):jy D B lo b g k S a w (.returned (.int .i64 0)) W:=by
 refine⟨hB,?_⟩
 rw[h]
 exact⟨rfl,hb⟩
structure L0I (D:Nat→Prop) (B lo b g:Nat) (k:Option Nat) (S:Sto) (t0:List UInt8) (xs:List It) (wB:World) (v i:Value) (wr:World):Prop where
 ex:∃ (j:Nat) (t:List UInt8),v=.int .i64 0∧j≤xs.length∧i=.int .i64 (j:Int)∧QH (qX (xs.take j)) t0=.ok t∧Bch D B lo b g k (qy S t) wr∧qY lo b g k wB wr
theorem Bch.fresh {D:Nat→Prop} {B lo b g:Nat} {k:Option Nat} {S:Sto} {w0 w W:World} (h0:Bch D B lo b g k S w0) {S':Sto} (h:Bch D B lo b g k S' w) (hx:Below w0.heap.size w W):Bch D B lo b g k S' W:=by
 have h6:=h0.size.2.2.2.2.2.1
 have h1:=h0.blo
 exact h.keep (Below.mono hx (by omega)) fun q hq=>hx.block q (hq.elim (fun h2=>(h0.b3 q h2).2) fun h2=>(h0.dB q h2).2.1)
def TG (S:Sto) (x:It):Int:=if itB x.r x.val.length=true then (if x.r≠0∧zO S x.r.toNat=0 then 6 else 0) else 8
abbrev itV (x:It) (A:Option Addr) (c:Nat):Value:=.agg #[.int .u8 x.k,.int .u32 x.i,.int .u32 x.o,.int .i64 x.r,.slice A x.val.length c]
set_option maxRecDepth 100000 in
theorem qfN (A1:Option Addr) (n1 c1:Nat) (A2:Option Addr) (n2 c2:Nat) (A3:Option Addr) (n3 c3:Nat) (A4:Option Addr) (n4 c4:Nat) (S:Sto) (hS:qo S=true) (a lvl:Nat) (xs:List It) (ha:8≤a) (ha2:a<256) (hn:qu S a=some ((lvl:Int),xs)) (hsp:(Qe S lvl xs).isSome=true) (x:It) (Ax:Option Addr) (cx:Nat) (w:World)
  (hst:qT w w.heap.size (.slice A1 n1 c1) (.slice A2 n2 c2) (.slice A3 n3 c3) (.slice A4 n4 c4) S) :
  Calls Tryz.prog 97 #[Qa A1 n1 c1 A2 n2 c2 A3 n3 c3 A4 n4 c4,.int .i64 (a:Int),itV x Ax cx] w (Ret (.int .i64 (TG S x)) w):=by
 have HCK:=zH (fun W (hx:Ext w W)=>Xq A1 n1 c1 A2 n2 c2 A3 n3 c3 A4 n4 c4 S hS a ⟨ha,ha2,lvl,xs,hn,hsp⟩ W (hst.ext hx))
 have HIC:=zH (fun W=>Ja x.k x.i x.o x.r Ax x.val.length cx W)
 have hnow:=TE hS hst.now
 obtain⟨b3,o3,cc3,e3,hb3,hk3⟩:=hnow
 simp only[Value.slice.injEq] at e3
 obtain⟨rfl,rfl,rfl⟩:=e3
 have hk3:=zH hk3
 obtain⟨q,hq⟩:∃ q,TG S x=q:=⟨_,rfl⟩
 rw[hq]
 replace hq:=zH hq
 clear hst hn hsp ha ha2
 go_enter Tryz.func97,Tryz.ntmps97
 go_wp2_with fail
 generalize hw1:(World.alloc (World.alloc w _) _)=w1
 have x1:Ext w w1:=by rw[←hw1];exact(zN _ _).trans (zN _ _)
 have rs1:w1.heap[w.heap.size]?=some (.cells #[.slice A1 n1 c1,.slice A2 n2 c2,.slice (some ⟨b3,o3,none⟩) 256 c3,.slice A4 n4 c4] 28 (0,0)):=by rw[←hw1];exact(zK _ _ _ (by simp)).trans (zI _ _ _ rfl)
 have ri1:w1.heap[w.heap.size+1]?=some (.cells #[.int .u8 x.k,.int .u32 x.i,.int .u32 x.o,.int .i64 x.r,.slice Ax x.val.length cx] 68 (0,0)):=by rw[←hw1];exact zI _ _ _ (by simp)
 clear hw1
 refine(HCK.out w1 x1).mono ?_
 clear HCK
 rintro e w2 ⟨u,rfl,⟨m,rfl⟩,hB⟩
 have x2:Ext w w2:=Ext.trans x1 hB
 have rs2:=qb rs1 hB
 have ri2:=qb ri1 hB
 have ki2:=qa ri2
 clear rs1 ri1 hB x1
 go_wp2_with fail
 refine(HIC.out w2).mono ?_
 clear HIC
 rintro e w3 ⟨rfl,hB⟩
 have x3:Ext w w3:=Ext.trans x2 hB
 have rs3:=qb rs2 hB
 have ri3:=qb ri2 hB
 have ki3:=qa ri3
 have ks3:=qa rs3
 clear rs2 ri2 hB x2 ki2
 cases hit:itB x.r x.val.length
 ·have hqq:q=8:=by rw[←hq.out];unfold TG;rw[hit];rfl
  subst hqq
  rw[jU rfl]
  go_wp2_with fail
  go_ret
  exact⟨rfl,x3⟩
 ·have hrr:x.r=0∨(8≤x.r∧x.r<256):=by unfold itB at hit;simp at hit;exact hit.1
  have hqq:Hid (q=if x.r≠0∧zO S x.r.toNat=0 then 6 else 0):=zH (by rw[←hq.out];unfold TG;rw[if_pos hit])
  rw[show Jc true=0 from rfl]
  replace hit:=zH hit
  clear hq
  rcases hrr with hr0|hr1
  ·have hq0:=zH (show q=0 by rw[hqq.out,if_neg (fun h=>h.1 hr0)])
   rw[hr0] at ki3
   clear hqq rs3 ri3
   go_wp2_with fail
   go_ret
   exact⟨by rw[hq0.out];rfl,x3⟩
  ·obtain⟨r,hra⟩:∃ r:Nat,x.r=(r:Int):=⟨x.r.toNat,by omega⟩
   have hr256:r<256:=by omega
   have hr8:8≤r:=by omega
   have hkr:=Ext.cell x3 (hk3.out r hr256)
   rw[hra] at ki3
   rw[hra,Int.toNat_natCast] at hqq
   have hz1:((r:Int) == 0)=false:=by rw[beq_eq_false_iff_ne];omega
   have hz2:((r:Int) != 0)=true:=by rw[bne_iff_ne];omega
   have hz3:decide (r=0)=false:=decide_eq_false (by omega)
   generalize zO S r=nv at *
   clear hra hr1 rs3 ri3
   by_cases h0:nv=0
   ·have hq0:=zH (show q=6 by rw[hqq.out,if_pos ⟨by omega,h0⟩])
    subst h0
    clear hqq
    go_wp2_with fail
    go_ret
    exact⟨by rw[hq0.out];rfl,x3⟩
   ·have hq0:=zH (show q=0 by rw[hqq.out,if_neg (fun h=>h0 h.2)])
    have hy1:((nv:Int) == 0)=false:=by rw[beq_eq_false_iff_ne];omega
    have hy2:decide (nv=0)=false:=decide_eq_false h0
    replace h0:=zH h0
    clear hqq
    go_wp2_with fail
    go_ret
    exact⟨by rw[hq0.out];rfl,x3⟩
theorem kJ (k:K3):∀ (ps qs:List Stp) (up:List It) (S:Sto),jH k (ps++qs) up S=match jH k ps up S with
  | .error e=>.error e
  | .ok (up',S')=>jH k qs up' S'
 | [],qs,up,S=>rfl
 |(lvl,xs,p) :: ps,qs,up,S=>by
  simp only[List.cons_append,jH]
  rcases zo S (lvl:Int) (Ko xs p (VZ k lvl xs) up) up with e|⟨up',S'⟩
  ·rfl
  ·exact kJ k ps qs up' S'
theorem qhG (k:K3) (s:Stp) (up:List It) (S:Sto):jH k [s] up S=zo S (s.1:Int) (Ko s.2.1 s.2.2 (VZ k s.1 s.2.1) up) up:=by
 obtain⟨lvl,xs,p⟩:=s
 simp only[jH]
 rcases zo S (lvl:Int) (Ko xs p (VZ k lvl xs) up) up with e|⟨up',S'⟩ <;> rfl
theorem YX:∀ {l:List Nat} {t:List UInt8} {e:Int},QH l t=.error e→e≠0
 | [],t,e,h=>by cases h
 |a :: l,t,e,h=>by
  by_cases ha:a=0
  ·subst ha;rw[Jf] at h;exact YX h
  ·by_cases h0:Qj t a=0
   ·rw[JC ha h0] at h;cases h;decide
   ·rw[Je ha h0] at h;exact YX h
theorem qbP {lvl:Int}:∀ {ps:List (List It)} {S:Sto} {e:Int},jJ lvl ps S=.error e→e≠0
 | [],S,e,h=>by cases h
 |p :: ps,S,e,h=>by
  simp only[jJ] at h
  split at h
  ·rename_i e' h'
   cases h
   exact Ys h'
  ·split at h
   ·rename_i e' h'
    cases h
    exact qbP h'
   ·cases h
theorem kR {S:Sto} {lvl:Int} {l held:List It} {e:Int} (h:zo S lvl l held=.error e):e≠0:=by
 unfold zo at h
 split at h
 ·rename_i e' h'
  cases h
  exact qbP h'
 ·split at h
  ·rename_i e' h'
   cases h
   exact YX h'
  ·cases h
structure qcZ (k:K3) (s:Stp):Prop where
 may:Qg (s.1:Int) s.2.1=true
 its:∀ x∈s.2.1,jd x∧itB x.r x.val.length=true
 len:s.2.1.length≤5
 le:s.2.2≤s.2.1.length
 lt:0<s.1→s.2.2<s.2.1.length
 zero:s.1=0→s.2.2=qL s.2.1 k
theorem qfc {S:Sto} {k:K3}:∀ (h:Nat) {a:Nat} {xs:List It},qu S a=some ((h:Int),xs)→(Qe S h xs).isSome=true→∀ s∈VD S k h xs,qcZ k s
 |0,a,xs,hn,hs,s,hm=>by
  rw[qeM] at hm
  obtain rfl:s=(0,xs,qL xs k):=by simpa using hm
  obtain⟨m1,m2,_⟩:=Qb hn
  exact⟨m1,m2,(ZW hn).2.2,JO xs k,fun h=>absurd h (Nat.lt_irrefl 0),fun _=>rfl⟩
 |h+1,a,xs,hn,hs,s,hm=>by
  obtain⟨m1,m2,_⟩:=Qb hn
  have hx:=qcs m1 (by omega)
  obtain⟨b,e1,-,-,zs,e4,e5⟩:=Js (vc hs _ (List.getElem_mem (JD (k:=k) hx)))
  rw[qax (zL (JD hx)) (by rw[e1,Int.toNat_natCast];exact e4)] at hm
  rcases List.mem_cons.1 hm with rfl|hm
  ·exact⟨m1,m2,(ZW hn).2.2,Nat.le_of_lt (JD hx),fun _=>JD hx,fun h=>by cases h⟩
  ·exact qfc h e4 e5 s hm
theorem many_ok {k:K3} {s:Stp} (h:qcZ k s):(VZ k s.1 s.2.1=0∨VZ k s.1 s.2.1=1)∧s.2.2+VZ k s.1 s.2.1≤s.2.1.length:=by
 have hle:=h.le
 unfold VZ
 split
 ·exact⟨.inl rfl,by omega⟩
 ·rename_i hc
  refine⟨.inr rfl,?_⟩
  rcases Nat.eq_zero_or_pos s.1 with h0|h0
  ·rw[h.zero h0] at hle ⊢
   by_cases hl:qL s.2.1 k<s.2.1.length
   ·omega
   ·exact absurd ⟨h0,Tl hl⟩ hc
  ·have:=h.lt h0
   omega
theorem Bch.of_on {B lo b:Nat} {A1:Option Addr} {n1 c1:Nat} {A2:Option Addr} {n2 c2:Nat} {A3:Option Addr} {n3 c3:Nat} {A4:Option Addr} {n4 c4:Nat} {A3':Option Addr} {c3':Nat} {S:Sto} {W:World} (hB:B≤lo) (hS:qo S=true) (hst:qT W B (.slice A1 n1 c1) (.slice A2 n2 c2) (.slice A3 n3 c3) (.slice A4 n4 c4) S) (hlo:lo≤b)
  (hr:W.heap[b]?=some (.cells #[.slice A1 n1 c1,.slice A2 n2 n2,.slice A3' n3 c3',.slice A4 n4 c4] 191 (0,0))) (ho:W.ownsRow lo 5 1 (.slice A3' n3 c3') n3 (S.now.map bv)):∃ g,Bch (fun _=>False) B lo b g none S W:=by
 obtain⟨hl1,hl2,hl3,hl4⟩:=qV hS
 have e3:=hst.now.at_.1
 have e4:=hst.last.at_.1
 obtain rfl:n3=256:=by omega
 obtain rfl:n4=256:=by omega
 obtain⟨g,rfl⟩:∃ g,A3'=some ⟨g,0,none⟩:=by
  rcases ho.2 with ⟨_,h0⟩|⟨g,_,_,e,_⟩
  ·cases h0
  ·cases e;exact⟨g,rfl⟩
 refine⟨g,hlo,hB,fun q h=>h.elim,A1,n1,c1,.slice A2 n2 n2,c3',A4,c4,hr,ho,?_,hst.bs,hst.last⟩
 obtain⟨ps,e,⟨A,c,e2,h1,h2,hrd⟩,hp⟩:=hst.ws
 simp only[Value.slice.injEq] at e2
 obtain⟨rfl,rfl,rfl⟩:=e2
 refine⟨ps,e,.inl ⟨rfl,by omega,A2,rfl,hrd⟩,fun p hpm=>⟨(hp p hpm).1,fun C hC=>(hp p hpm).2.keepX hC fun q hq hx=>by have:=hx.1;omega⟩⟩
def TX (S:Sto) (L:Nat) (xs:List It) (x:It):Except Int (List It×Sto):=
 if Ug (qF x) (VD S (qF x) L xs)=true then .error 120 else
 match jH (qF x) (VD S (qF x) L xs).reverse [x] S with
 | .error e=>.error e
 | .ok (up,S1)=>if 1<up.length then zo S1 ((VD S (qF x) L xs).length:Int) up up else .ok (up,S1)
def Ke (up:List It):Nat:=match up with
 | []=>0
 |y :: _=>y.r.toNat
theorem qcI (S:Sto) (L:Nat) (xs:List It) (root:Nat) (x:It):putX S L xs root x=match TX S L xs x with
  | .error e=>.error e
  | .ok (up,S2)=>match QI S2 (-1) S2.now root with
   |none=>.error 8
   |some t=>.ok (Ke up,qy S2 t):=by
 unfold putX TX
 by_cases ht:Ug (qF x) (VD S (qF x) L xs)=true
 ·rw[if_pos ht,if_pos ht]
 ·rw[if_neg ht,if_neg ht]
  rcases jH (qF x) (VD S (qF x) L xs).reverse [x] S with e|⟨up,S1⟩
  ·rfl
  ·simp only
   generalize (if 1<up.length then zo S1 ((VD S (qF x) L xs).length:Int) up up else Except.ok (up,S1))=r
   rcases r with e|⟨up',S2⟩
   ·rfl
   ·simp only
    rcases QI S2 (-1) S2.now root with _|t <;> rfl
def Tm (S:Sto) (L:Nat) (xs:List It) (root:Nat) (x:It):Except Int (Nat×Sto):=if TG S x=0 then putX S L xs root x else .error (TG S x)
def PutQ (lo:Nat) (q:Except Int (Nat×Sto)) (u:Value) (W:World):Prop:=match q with
 | .error e=>u=.tuple #[Qa none 0 0 none 0 0 none 0 0 none 0 0,.int .i64 0,.int .i64 e]
 | .ok (r,S')=>∃ v,u=.tuple #[v,.int .i64 (r:Int),.int .i64 0]∧QD lo S' v W
end Go.Proofs.YtpbniokljofedaaGreat
