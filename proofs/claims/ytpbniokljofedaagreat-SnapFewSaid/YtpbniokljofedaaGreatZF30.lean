/- Texts SetX, RoomyD, Chg, VOpen, ForW, ForW2, PoolC, joined. -/
import Derived.Test.YtpbniokljofedaaGreatZF06
import Derived.Test.YtpbniokljofedaaGreatZF12
import Derived.Test.YtpbniokljofedaaGreatZF13
import Derived.Test.YtpbniokljofedaaGreatZF14
import Derived.Test.YtpbniokljofedaaGreatZF21
import Derived.Test.YtpbniokljofedaaGreatZF28
import Derived.Test.YtpbniokljofedaaGreatZF29
set_option linter.unusedSimpArgs false
set_option linter.unusedVariables false
set_option maxHeartbeats 8000000
namespace Go.Proofs.YtpbniokljofedaaGreat
open Go.RowKit
def KF (S:Sto) (root next:Int) (dead:List Int) (v:Vol) (er:Int):Prop:=(er=8∧zF S root next dead)∨∃ vs refs nodes,Ql S root next dead vs∧qR S (Qw root dead vs) refs nodes∧QD S refs ∧
 (ZK S next v vs refs=er∨(ZK S next v vs refs=0∧(setE S root v=.error er∨(er=8∧∃ r S',setE S root v=.ok (r,S')∧zF S' (r:Int) next dead))))
def Kk (S:Sto) (root next:Int) (dead:List Int) (v:Vol) (r:Nat) (S':Sto) (vs':List Vol):Prop:=∃ vs refs nodes,Ql S root next dead vs∧qR S (Qw root dead vs) refs nodes∧QD S refs ∧
 ZK S next v vs refs=0∧setE S root v=.ok (r,S')∧Ge S' (r:Int) next dead vs'
theorem SetQ.split {S:Sto} {gen root next:Int} {dead:List Int} {v:Vol} {w w':World} {e:Ending} (h:SetQ S gen root next dead v w e w'):Below w.heap.size w w' ∧
  ((∃ er,er≠0∧e=.returned (.tuple #[Jb,.int .i64 er])∧KF S root next dead v er) ∨
   ∃ r S' vs' u,Kk S root next dead v r S' vs'∧e=.returned (.tuple #[u,.int .i64 0])∧jE w.heap.size S' gen (r:Int) next dead u w'):=by
 obtain⟨hB,h⟩:=h
 refine⟨hB,?_⟩
 rcases h with ⟨rfl,hb⟩|⟨vs,refs,nodes,hp,hc,he,h⟩
 ·exact .inl ⟨8,by decide,rfl,.inl ⟨rfl,hb⟩⟩
 ·rcases h with ⟨er,h0,e1,h⟩|⟨r,S',vs',u,h1,h2,h3,h4,h5⟩
  ·exact .inl ⟨er,h0,e1,.inr ⟨vs,refs,nodes,hp,hc,he,h⟩⟩
  ·exact .inr ⟨r,S',vs',u,⟨vs,refs,nodes,hp,hc,he,h1,h2,h3⟩,h4,h5⟩
theorem jE.sto {lo:Nat} {S:Sto} {gen root next:Int} {dead:List Int} {u:Value} {W:World} (h:jE lo S gen root next dead u W):∃ A1 c1 A2 c2 A3 c3 A4 c4 A5 c5,u=.agg (qC (.slice A1 S.bs.length c1) (.slice A2 S.ws.length c2) (.slice A3 S.now.length c3) (.slice A4 S.last.length c4) gen root next (.slice A5 dead.length c5)) ∧
  qP W W.heap.size (.slice A1 S.bs.length c1) (.slice A2 S.ws.length c2) (.slice A3 S.now.length c3) (.slice A4 S.last.length c4) S∧Zn W W.heap.size (.slice A5 dead.length c5) dead:=by
 obtain⟨A1,c1,A2,c2,A3,c3,A4,c4,A5,c5,e,h⟩:=h
 exact⟨A1,c1,A2,c2,A3,c3,A4,c4,A5,c5,e,h W fun q v h1 h2 h3=>(TS h3).1⟩
theorem jE.keep {lo lo':Nat} {S:Sto} {gen root next:Int} {dead:List Int} {u:Value} {W W':World} (h:jE lo S gen root next dead u W) (hl:lo'≤lo) (hs:W.heap.size≤W'.heap.size) (hk:∀ k,lo≤k→k<W.heap.size→W'.heap[k]?=W.heap[k]?):jE lo' S gen root next dead u W':=by
 obtain⟨A1,c1,A2,c2,A3,c3,A4,c4,A5,c5,e,h⟩:=h
 refine⟨A1,c1,A2,c2,A3,c3,A4,c4,A5,c5,e,fun C hC=>?_⟩
 obtain⟨h1,h2⟩:=h C fun q v h1 h2 h3=>hC q v (by omega) (by omega) ((jJ (hk q.block h1 h2)).trans h3)
 exact⟨h1.more hs,h2.more hs⟩
theorem same8 {w:World} {b:Nat} {x0 x1 x2 x3 x4 x5 x6 x7:Value} {ty:TypeId} (h:w.heap[b]?=some (.cells #[x0,x1,x2,x3,x4,x5,x6,x7] ty (0,0))):Ext w ((((((((w.setCell ⟨b,0,none⟩ x0).setCell ⟨b,1,none⟩ x1).setCell ⟨b,2,none⟩ x2).setCell ⟨b,3,none⟩ x3).setCell ⟨b,4,none⟩ x4).setCell ⟨b,5,none⟩ x5).setCell ⟨b,6,none⟩ x6).setCell ⟨b,7,none⟩ x7):=by
 have e0:=Qk (j:=0) (v:=x0) h rfl
 have h0:=qb h e0
 have e1:=Qk (j:=1) (v:=x1) h0 rfl
 have h1:=qb h0 e1
 have e2:=Qk (j:=2) (v:=x2) h1 rfl
 have h2:=qb h1 e2
 have e3:=Qk (j:=3) (v:=x3) h2 rfl
 have h3:=qb h2 e3
 have e4:=Qk (j:=4) (v:=x4) h3 rfl
 have h4:=qb h3 e4
 have e5:=Qk (j:=5) (v:=x5) h4 rfl
 have h5:=qb h4 e5
 have e6:=Qk (j:=6) (v:=x6) h5 rfl
 have h6:=qb h5 e6
 exact((((((e0.trans e1).trans e2).trans e3).trans e4).trans e5).trans e6).trans (Qk (j:=7) (v:=x7) h6 rfl)
structure Sets (X:Nat→Prop) (W C:World):Prop where
 os:C.os=W.os
 tape:C.tape=W.tape
 output:C.output=W.output
 size:C.heap.size=W.heap.size
 same:∀ k,¬X k→C.heap[k]?=W.heap[k]?
theorem Sets.refl (X:Nat→Prop) (W:World):Sets X W W:=⟨rfl,rfl,rfl,rfl,fun _ _=>rfl⟩
theorem Sets.set {X:Nat→Prop} {W C:World} (h:Sets X W C) {b:Nat} (j:Nat) (hb:X b) (v:Value):Sets X W (C.setCell ⟨b,j,none⟩ v):=⟨h.os,h.tape,h.output,by simpa using h.size,fun k hk=>(zJ _ _ _ _ fun e=>hk (by have e':k=b:=e;rw[e'];exact hb)).trans (h.same k hk)⟩
theorem Sets.row {X:Nat→Prop} {W C:World} (h:Sets X W C) {b:Nat} {o:Obj} (hr:W.heap[b]?=some o) (hb:¬X b):C.heap[b]?=some o:=(h.same b hb).trans hr
theorem Sets.below {X:Nat→Prop} {W C w:World} {B:Nat} (h:Sets X W C) (hB:Below B w W) (hX:∀ k,X k→B≤k):Below B w C:=hB.trans ⟨h.os,h.tape,h.output,by rw[h.size];exact zM _,fun k hk=>h.same k fun hx=>by have:=hX k hx;omega⟩
set_option maxRecDepth 100000 in
theorem qge (bp be:Nat) (hne:bp≠be) (A1:Option Addr) (n1 c1:Nat) (A2:Option Addr) (n2 c2:Nat) (A3:Option Addr) (n3 c3:Nat) (A4:Option Addr) (n4 c4:Nat) (gen root next:Int) (v5:Value) (e:Int) (S:Sto) (u:FrameMode) (w:World)
  (hp:w.heap[bp]?=some (.cells (qC (.slice A1 n1 c1) (.slice A2 n2 c2) (.slice A3 n3 c3) (.slice A4 n4 c4) gen root next v5) 32 (0,0))) (he:w.heap[be]?=some (.cells #[.int .i64 e] 36 (0,0)))
  (h:e=0→qP w w.heap.size (.slice A1 n1 c1) (.slice A2 n2 c2) (.slice A3 n3 c3) (.slice A4 n4 c4) S) :
  CallsD Tryz.prog 127 #[.pointer (some ⟨bp,0,none⟩),.pointer (some ⟨be,0,none⟩)] u w (fun x u' w'=>u'=u∧x=.returned (.tuple #[])∧RoomyQ bp be (qC (.slice A1 n1 c1) (.slice A2 n2 c2) (.slice A3 n3 c3) (.slice A4 n4 c4) gen root next v5) e S w w'):=by
 have kp:=qa hp
 have ke:=qa he
 have fp:=qd hp
 have fe:=qd he
 have zp:bp<w.heap.size:=(zG.1 hp).1
 have ze:be<w.heap.size:=(zG.1 he).1
 by_cases h0:e=0
 ·subst h0
  have HF:=TL A1 n1 c1 A2 n2 c2 A3 n3 c3 A4 n4 c4 S w (h rfl)
  clear h
  go_enter_d Tryz.func127,Tryz.ntmps127
  go_wp2_with fail
  refine HF.mono ?_
  rintro x w2 ⟨hB,hQ⟩
  have x2:Ext w w2:=hB
  have hp2:=qb hp x2
  have he2:=qb he x2
  have kp2:=qa hp2
  have ke2:=qa he2
  have fp2:=qd hp2
  have fe2:=qd he2
  clear kp ke fp fe hB HF hp he
  rcases hQ with ⟨hm,rfl⟩|⟨hm,v,rfl,hown⟩
  ·have hE:za S=9:=by unfold za;rw[hm];rfl
   replace hE:=zH hE
   replace hm:=zH hm
   have hne':¬be=bp:=fun e=>hne e.symm
   go_wp2_with fail
   go_end0
   exact⟨rfl,(Two.of_ext x2).trans ((Two.setE _ _ _).trans (Two.set8 _ _ _ _ _ _ _ _ _)),.inr ⟨9,by decide,.inl ⟨rfl,hE.out.symm⟩,jj ((zJ _ _ _ _ hne).trans hp2) _ _ _ _ _ _ _ _,(ja hne' _ _ _ _ _ _ _ _).trans (qi he2 0 _)⟩⟩
  ·obtain⟨A,c,rfl,-,-⟩:=qv hown
   clear hown
   by_cases hl:(QQ S).length<16
   ·have hE:za S=9:=by unfold za;rw[if_neg (by omega)]
    replace hE:=zH hE
    have d1:decide (((QQ S).length:Int)<16)=true:=decide_eq_true (by omega)
    have d2:decide ((QQ S).length<16)=true:=decide_eq_true hl
    replace hl:=zH hl
    replace hm:=zH hm
    have hne':¬be=bp:=fun e=>hne e.symm
    go_wp2_with fail
    go_end0
    exact⟨rfl,(Two.of_ext x2).trans ((Two.setE _ _ _).trans (Two.set8 _ _ _ _ _ _ _ _ _)),.inr ⟨9,by decide,.inl ⟨rfl,hE.out.symm⟩,jj ((zJ _ _ _ _ hne).trans hp2) _ _ _ _ _ _ _ _,(ja hne' _ _ _ _ _ _ _ _).trans (qi he2 0 _)⟩⟩
   ·have hE:za S=0:=by unfold za;rw[if_pos ⟨hm,by omega⟩]
    replace hE:=zH hE
    have d1:decide (((QQ S).length:Int)<16)=false:=decide_eq_false (by omega)
    have d2:decide ((QQ S).length<16)=false:=decide_eq_false hl
    replace hl:=zH hl
    replace hm:=zH hm
    have hne':¬be=bp:=fun e=>hne e.symm
    go_wp2_with fail
    go_end0
    exact⟨rfl,Two.of_ext x2,.inl ⟨rfl,hE.out,hp2,he2⟩⟩
 ·have b0:(e == 0)=false:=by rw[beq_eq_false_iff_ne];exact h0
  have b1:(e != 0)=true:=by rw[bne_iff_ne];exact h0
  have b2:decide (e=0)=false:=decide_eq_false h0
  replace h0:=zH h0
  replace hne:=zH hne
  clear h
  go_enter_d Tryz.func127,Tryz.ntmps127
  go_wp2_with fail
  go_end0
  exact⟨rfl,Two.set8 _ _ _ _ _ _ _ _ _,.inr ⟨e,h0.out,.inr ⟨h0.out,rfl⟩,jj hp _ _ _ _ _ _ _ _,(ja (fun x=>hne.out x.symm) _ _ _ _ _ _ _ _).trans he⟩⟩
def UL (S:Sto) (a:Nat) (x:It):Except Int (Nat×Sto):=match qu S a with
 |none=>.error 8
 |some (lvl,xs)=>Xr S lvl.toNat xs a x
def Qv (S:Sto) (a:Int):Sto:=qw S (jc S.now a.toNat 1)
def Uv (v:Vol) (r:Nat):Vol:=⟨v.id,(r:Int),v.fz,v.frm⟩
def KA (S:Sto) (root next:Int) (dead:List Int) (v:Vol) (P:Except Int (Nat×Sto)) (er:Int):Prop:=QB S v.root=er∨(QB S v.root=0∧(P=.error er∨∃ r2 S2,P=.ok (r2,S2) ∧
 (KF S2 root next dead (Uv v r2) er∨∃ r3 S3 vs3,Kk S2 root next dead (Uv v r2) r3 S3 vs3∧(jQ S3 v.root=.error er∨∃ S4,jQ S3 v.root=.ok S4∧za S4=er))))
def ChgQ (S:Sto) (gen root next:Int) (dead:List Int) (v:Vol) (P:Except Int (Nat×Sto)) (w:World) (e:Ending) (w':World):Prop:=Below w.heap.size w w' ∧
 ((∃ er,er≠0∧e=.returned (.tuple #[Jb,.int .i64 er])∧KA S root next dead v P er) ∨
  ∃ r2 S2 r3 S3 vs3 S4 u,QB S v.root=0∧P=.ok (r2,S2)∧Kk S2 root next dead (Uv v r2) r3 S3 vs3∧jQ S3 v.root=.ok S4∧za S4=0 ∧
   e=.returned (.tuple #[u,.int .i64 0])∧jE w.heap.size S4 gen (r3:Int) next dead u w')
theorem qgH {R:Ending→World→Prop} {tmps:Array Value} {W:World} {b:Nat} {x0 x1 x2 x3 x4 x5 x6 x7 z:Value} (h4:tmps[8]?.getD undef=.pointer (some ⟨b+1+1+1,0,none⟩)) (h5:tmps[9]?.getD undef=.pointer (some ⟨b+1+1+1+1,0,none⟩))
  (r4:W.heap[b+3]?=some (.cells #[x0,x1,x2,x3,x4,x5,x6,x7] 32 (0,0))) (r6:W.heap[b+4]?=some (.cells #[z] 36 (0,0))) (hR:R (.returned (.tuple #[.agg #[x0,x1,x2,x3,x4,x5,x6,x7],z])) W) :
  Leaves Tryz.prog Tryz.f74 tmps R [] .returning W:=by
 have k4:=qa r4
 have k6:=qa r6
 refine⟨.tuple #[.agg #[x0,x1,x2,x3,x4,x5,x6,x7],z],?_,hR⟩
 simp[results,Tryz.results74,go_sem,h4,h5,k4,k6]
theorem qdw {R:Ending→World→Prop} {tmps:Array Value} {W:World} {b:Nat} (A1:Option Addr) (n1 c1:Nat) (A2:Option Addr) (n2 c2:Nat) (A3:Option Addr) (n3 c3:Nat) (A4:Option Addr) (n4 c4:Nat) (gen root next:Int) (v5:Value) (e:Int) (S:Sto)
  (h4:tmps[8]?.getD undef=.pointer (some ⟨b+1+1+1,0,none⟩)) (h5:tmps[9]?.getD undef=.pointer (some ⟨b+1+1+1+1,0,none⟩))
  (r4:W.heap[b+3]?=some (.cells (qC (.slice A1 n1 c1) (.slice A2 n2 c2) (.slice A3 n3 c3) (.slice A4 n4 c4) gen root next v5) 32 (0,0))) (r6:W.heap[b+4]?=some (.cells #[.int .i64 e] 36 (0,0)))
  (h:e=0→qP W W.heap.size (.slice A1 n1 c1) (.slice A2 n2 c2) (.slice A3 n3 c3) (.slice A4 n4 c4) S)
  (hR1:e=0→za S=0→∀ W',Two (b+3) (b+4) W W'→R (.returned (.tuple #[.agg (qC (.slice A1 n1 c1) (.slice A2 n2 c2) (.slice A3 n3 c3) (.slice A4 n4 c4) gen root next v5),.int .i64 0])) W')
  (hR2:∀ e' W',e'≠0→((e=0∧e'=za S)∨(e≠0∧e'=e))→Two (b+3) (b+4) W W'→R (.returned (.tuple #[Jb,.int .i64 e'])) W') :
  bodyPostD Tryz.prog Tryz.f74 R .ret { tmps:=tmps,defers:=[{ target:=.fn (.func 127) #[],args:=#[.pointer (some ⟨b+1+1+1,0,none⟩),.pointer (some ⟨b+1+1+1+1,0,none⟩)] }] } W:=by
 refine leaves_cons (f:=127) (args:=#[.pointer (some ⟨b+1+1+1,0,none⟩),.pointer (some ⟨b+1+1+1+1,0,none⟩)]) (by simp) (by simp[go_sem]) ?_
 refine(qge (b+3) (b+4) (by omega) A1 n1 c1 A2 n2 c2 A3 n3 c3 A4 n4 c4 gen root next v5 e S .returning W r4 r6 h).mono ?_
 rintro x u' w' ⟨rfl,rfl,hT,⟨h0,hE,g4,g6⟩|⟨e',h0,hE,g4,g6⟩⟩
 ·exact qgH h4 h5 g4 g6 (hR1 h0 hE w' hT)
 ·exact qgH h4 h5 g4 g6 (hR2 e' w' h0 hE hT)
theorem UP {tmps:Array Value} {w W:World} {S:Sto} {gen root next:Int} {dead:List Int} {v:Vol} {P:Except Int (Nat×Sto)} {er:Int} {E1 E2 E3 E4:Option Addr} {m1 e1 m2 e2 m3 e3 m4 e4:Nat} {g9 t9 n9:Int} {v5:Value} (hne:er≠0) (hc:KA S root next dead v P er)
  (h4:tmps[8]?.getD undef=.pointer (some ⟨w.heap.size+1+1+1,0,none⟩)) (h5:tmps[9]?.getD undef=.pointer (some ⟨w.heap.size+1+1+1+1,0,none⟩))
  (r4:W.heap[w.heap.size+3]?=some (.cells (qC (.slice E1 m1 e1) (.slice E2 m2 e2) (.slice E3 m3 e3) (.slice E4 m4 e4) g9 t9 n9 v5) 32 (0,0))) (r6:W.heap[w.heap.size+4]?=some (.cells #[.int .i64 er] 36 (0,0))) (hB:Ext w W) :
  bodyPostD Tryz.prog Tryz.f74 (ChgQ S gen root next dead v P w) .ret { tmps:=tmps,defers:=[{ target:=.fn (.func 127) #[],args:=#[.pointer (some ⟨w.heap.size+1+1+1,0,none⟩),.pointer (some ⟨w.heap.size+1+1+1+1,0,none⟩)] }] } W:=by
 refine qdw E1 m1 e1 E2 m2 e2 E3 m3 e3 E4 m4 e4 g9 t9 n9 v5 er S h4 h5 r4 r6 (fun h=>absurd h hne) (fun h=>absurd h hne) (fun e' W' h0 hE hT=>?_)
 obtain rfl:e'=er:=by
  rcases hE with ⟨h,_⟩|⟨_,h⟩
  ·exact absurd h hne
  ·exact h
 have z:=(zG.1 r4).1
 exact⟨hT.below hB (by omega) (by omega) (by omega),.inl ⟨e',hne,rfl,hc⟩⟩
section
variable {W C:World} {b:Nat} {u0 u1 u2 u3 u4 u5 u6 u7 x0 x1 x2 x3 x4 x5 x6 x7 y0 y1 y2 y3 z ev q0:Value} {tyP tyV ty2 ty3:TypeId} {cs ds:Array Value}
theorem st5 (rp:W.heap[b]?=some (.cells #[u0,u1,u2,u3,u4,u5,u6,u7] tyP (0,0))) (re:W.heap[b+4]?=some (.cells #[q0] ty3 (0,0)))
  (hC:((((W.setCell ⟨b,0,none⟩ x0).setCell ⟨b,1,none⟩ x1).setCell ⟨b,2,none⟩ x2).setCell ⟨b,3,none⟩ x3).setCell ⟨b+1+1+1+1,0,none⟩ ev=C) :
  C.heap[b]?=some (.cells #[x0,x1,x2,x3,u4,u5,u6,u7] tyP (0,0))∧C.heap[b+4]?=some (.cells #[ev] ty3 (0,0))∧C.heap.size=W.heap.size∧(∀ {w0:World},w0.heap.size≤b→Ext w0 W→Ext w0 C)∧∀ k,k≠b→k≠b+4→C.heap[k]?=W.heap[k]?:=by
 subst hC
 have hs:=fun (A:World) (b j:Nat) (v:Value) (k:Nat) (hk:k≠b)=>zJ A ⟨b,j,none⟩ v k hk
 have r1:=qi (qi (qi (qi rp 0 x0) 1 x1) 2 x2) 3 x3
 have o1:∀ k,k≠b→((((W.setCell ⟨b,0,none⟩ x0).setCell ⟨b,1,none⟩ x1).setCell ⟨b,2,none⟩ x2).setCell ⟨b,3,none⟩ x3).heap[k]?=W.heap[k]?:=fun k hk=>by rw[hs _ _ _ _ _ hk,hs _ _ _ _ _ hk,hs _ _ _ _ _ hk,hs _ _ _ _ _ hk]
 refine⟨?_,qi (t:=ty3) (cs:=#[q0]) ((o1 _ (by omega)).trans re) 0 ev,by simp,fun hb hx=>?_,fun k h1 h2=>by rw[hs _ _ _ _ _ (by omega),o1 k h1]⟩
 ·rw[hs _ _ _ _ _ (by omega)];exact r1
 ·exact Below.setCell (zy hx (b:=b) hb _ _ _ _) (p:=⟨b+1+1+1+1,0,none⟩) (by simp;omega) _
theorem st6 (rp:W.heap[b]?=some (.cells #[u0,u1,u2,u3,u4,u5,u6,u7] tyP (0,0))) (rv:W.heap[b+1]?=some (.cells #[y0,y1,y2,y3] tyV (0,0))) (re:W.heap[b+4]?=some (.cells #[q0] ty3 (0,0)))
  (hC:(((((W.setCell ⟨b,0,none⟩ x0).setCell ⟨b,1,none⟩ x1).setCell ⟨b,2,none⟩ x2).setCell ⟨b,3,none⟩ x3).setCell ⟨b+1,1,none⟩ z).setCell ⟨b+1+1+1+1,0,none⟩ ev=C) :
  C.heap[b]?=some (.cells #[x0,x1,x2,x3,u4,u5,u6,u7] tyP (0,0))∧C.heap[b+1]?=some (.cells #[y0,z,y2,y3] tyV (0,0))∧C.heap[b+4]?=some (.cells #[ev] ty3 (0,0))∧C.heap.size=W.heap.size∧(∀ {w0:World},w0.heap.size≤b→Ext w0 W→Ext w0 C)∧∀ k,k≠b→k≠b+1→k≠b+4→C.heap[k]?=W.heap[k]?:=by
 subst hC
 have hs:=fun (A:World) (b j:Nat) (v:Value) (k:Nat) (hk:k≠b)=>zJ A ⟨b,j,none⟩ v k hk
 have r1:=qi (qi (qi (qi rp 0 x0) 1 x1) 2 x2) 3 x3
 have o1:∀ k,k≠b→((((W.setCell ⟨b,0,none⟩ x0).setCell ⟨b,1,none⟩ x1).setCell ⟨b,2,none⟩ x2).setCell ⟨b,3,none⟩ x3).heap[k]?=W.heap[k]?:=fun k hk=>by rw[hs _ _ _ _ _ hk,hs _ _ _ _ _ hk,hs _ _ _ _ _ hk,hs _ _ _ _ _ hk]
 refine⟨?_,?_,?_,by simp,fun hb hx=>?_,fun k h1 h2 h3=>by rw[hs _ _ _ _ _ (by omega),hs _ _ _ _ _ h2,o1 k h1]⟩
 ·rw[hs _ _ _ _ _ (by omega),hs _ _ _ _ _ (by omega)];exact r1
 ·rw[hs _ _ _ _ _ (by omega)];exact qi (t:=tyV) (cs:=#[y0,y1,y2,y3]) ((o1 _ (by omega)).trans rv) 1 z
 ·exact qi (t:=ty3) (cs:=#[q0]) (by rw[hs _ _ _ _ _ (by omega)];exact(o1 _ (by omega)).trans re) 0 ev
 ·exact Below.setCell (Below.setCell (zy hx (b:=b) hb _ _ _ _) (p:=⟨b+1,1,none⟩) (by simp;omega) _) (p:=⟨b+1+1+1+1,0,none⟩) (by simp;omega) _
theorem st9 {p:Nat} (hp4:p≠b+4) (hbp:b≤p) (rp:W.heap[p]?=some (.cells #[u0,u1,u2,u3,u4,u5,u6,u7] tyP (0,0))) (re:W.heap[b+4]?=some (.cells #[q0] ty3 (0,0)))
  (hC:((((((((W.setCell ⟨p,0,none⟩ x0).setCell ⟨p,1,none⟩ x1).setCell ⟨p,2,none⟩ x2).setCell ⟨p,3,none⟩ x3).setCell ⟨p,4,none⟩ x4).setCell ⟨p,5,none⟩ x5).setCell ⟨p,6,none⟩ x6).setCell ⟨p,7,none⟩ x7).setCell ⟨b+1+1+1+1,0,none⟩ ev=C) :
  C.heap[p]?=some (.cells #[x0,x1,x2,x3,x4,x5,x6,x7] tyP (0,0))∧C.heap[b+4]?=some (.cells #[ev] ty3 (0,0))∧C.heap.size=W.heap.size∧(∀ {w0:World},w0.heap.size≤b→Ext w0 W→Ext w0 C)∧∀ k,k≠p→k≠b+4→C.heap[k]?=W.heap[k]?:=by
 subst hC
 have hs:=fun (A:World) (b j:Nat) (v:Value) (k:Nat) (hk:k≠b)=>zJ A ⟨b,j,none⟩ v k hk
 refine⟨?_,?_,by simp,fun hb hx=>?_,fun k h1 h2=>by rw[hs _ _ _ _ _ (by omega),ja h1]⟩
 ·rw[hs _ _ _ _ _ (by omega)];exact jj rp _ _ _ _ _ _ _ _
 ·exact qi (t:=ty3) (cs:=#[q0]) (by rw[ja (by omega)];exact re) 0 ev
 ·exact Below.setCell (QV hx (b:=p) (by omega) _ _ _ _ _ _ _ _) (p:=⟨b+1+1+1+1,0,none⟩) (by simp;omega) _
end
theorem qfM {S S':Sto} {a:Int} (hS:qm S=true) (h:jQ S a=.ok S'):qm S'=true:=by
 unfold jQ at h
 split at h
 ·rename_i h0
  obtain⟨_,m,rfl,h8,h256,-⟩:=Yi h0
  rw[Int.toNat_natCast] at h
  unfold vT at h
  split at h
  ·cases h
  ·rename_i t ht
   cases h
   exact qz.2 ⟨(qz.1 hS).1,kZ h8 (qz.1 hS).2.1 ht,(qz.1 hS).2.2⟩
 ·cases h
set_option maxRecDepth 100000 in
theorem qeK (A1:Option Addr) (n1 c1:Nat) (A2:Option Addr) (n2 c2:Nat) (A3:Option Addr) (n3 c3:Nat) (A4:Option Addr) (n4 c4:Nat) (gen root next:Int) (A5:Option Addr) (c5:Nat) (S:Sto) (dead:List Int) (v:Vol) (hvo:VM v) (x:It) (hxo:ZY x) (Ax:Option Addr) (cx:Nat)
  (htr:QB S v.root=0→JB (Qv S v.root) v.root.toNat) (hT2:QB S v.root=0→∀ r2 S2,UL (Qv S v.root) v.root.toNat x=.ok (r2,S2)→okL S2 (-1) (r2:Int)=true) (w:World)
  (h:qP w w.heap.size (.slice A1 n1 c1) (.slice A2 n2 c2) (.slice A3 n3 c3) (.slice A4 n4 c4) S) (hd:Zn w w.heap.size (.slice A5 dead.length c5) dead) (hxv:Bys w w.heap.size (.slice Ax x.val.length cx) x.val) :
  Calls Tryz.prog 74 #[.agg (qC (.slice A1 n1 c1) (.slice A2 n2 c2) (.slice A3 n3 c3) (.slice A4 n4 c4) gen root next (.slice A5 dead.length c5)),jK v,.func (.func 54) #[] #[],itV x Ax cx] w (ChgQ S gen root next dead v (UL (Qv S v.root) v.root.toNat x) w):=by
 have HS:=zH (fun W (hx:Ext w W)=>qaa A1 n1 c1 A2 n2 c2 A3 n3 c3 A4 n4 c4 S v.root W (h.ext hx))
 obtain⟨P,hP⟩:∃ P,UL (Qv S v.root) v.root.toNat x=P:=⟨_,rfl⟩
 rw[hP] at hT2 ⊢
 replace hP:=zH hP
 replace h:=zH h
 replace hd:=zH hd
 replace hxv:=zH hxv
 replace htr:=zH htr
 replace hT2:=zH hT2
 replace hxo:=zH hxo
 replace hvo:=zH hvo
 go_enter_defers Tryz.func74,Tryz.ntmps74
 go_wp2_with fail
 generalize hw1:World.alloc _ _=w1
 have x1:Ext w w1:=by rw[←hw1];exact((((zN _ _).trans (zN _ _)).trans (zN _ _)).trans (zN _ _)).trans (zN _ _)
 have rp1:w1.heap[w.heap.size]?=some (.cells (qC (.slice A1 n1 c1) (.slice A2 n2 c2) (.slice A3 n3 c3) (.slice A4 n4 c4) gen root next (.slice A5 dead.length c5)) 32 (0,0)):=by rw[←hw1];exact(zK _ _ _ (by simp <;> omega)).trans ((zK _ _ _ (by simp <;> omega)).trans ((zK _ _ _ (by simp <;> omega)).trans ((zK _ _ _ (by simp <;> omega)).trans (zI _ _ _ rfl))))
 have rv1:w1.heap[w.heap.size+1]?=some (.cells #[.int .u32 v.id,.int .i64 v.root,.bool v.fz,.int .u32 v.frm] 40 (0,0)):=by rw[←hw1];exact(zK _ _ _ (by simp <;> omega)).trans ((zK _ _ _ (by simp <;> omega)).trans ((zK _ _ _ (by simp <;> omega)).trans (zI _ _ _ (by simp))))
 have rx1:w1.heap[w.heap.size+2]?=some (.cells #[.int .u8 x.k,.int .u32 x.i,.int .u32 x.o,.int .i64 x.r,.slice Ax x.val.length cx] 68 (0,0)):=by rw[←hw1];exact(zK _ _ _ (by simp <;> omega)).trans ((zK _ _ _ (by simp <;> omega)).trans (zI _ _ _ (by simp)))
 have ro1:w1.heap[w.heap.size+3]?=some (.cells VK 32 (0,0)):=by rw[←hw1];exact(zK _ _ _ (by simp <;> omega)).trans (zI _ _ _ (by simp))
 have re1:w1.heap[w.heap.size+4]?=some (.cells #[.int .i64 0] 36 (0,0)):=by rw[←hw1];exact zI _ _ _ (by simp)
 have s1:w1.heap.size=w.heap.size+5:=by rw[←hw1];simp
 clear hw1
 refine(HS.out w1 x1).mono ?_
 clear HS
 rintro e w2 ⟨u,rfl,hQ,hB⟩
 have x12:Ext w1 w2:=hB
 have x2:Ext w w2:=x1.trans hB
 have rp2:=qb rp1 hB
 have rv2:=qb rv1 hB
 have rx2:=qb rx1 hB
 have ro2:=qb ro1 hB
 have re2:=qb re1 hB
 have z12:=hB.size
 have kp2:=qa rp2
 have kv2:=qa rv2
 have kx2:=qa rx2
 have ko2:=qa ro2
 have ke2:=qa re2
 have fp2:=qd rp2
 have fv2:=qd rv2
 have fo2:=qd ro2
 have fe2:=qd re2
 have q0:w.heap.size<w2.heap.size:=by omega
 have q1:w.heap.size+1<w2.heap.size:=by omega
 have q2:w.heap.size+1+1<w2.heap.size:=by omega
 have q3:w.heap.size+1+1+1<w2.heap.size:=by omega
 have q4:w.heap.size+1+1+1+1<w2.heap.size:=by omega
 clear hB rp1 rv1 rx1 ro1 re1 x1
 rcases hQ with ⟨hne,rfl⟩|⟨h0,vv,rfl,hT⟩
 ·obtain⟨er,her⟩:∃ er,QB S v.root=er:=⟨_,rfl⟩
  rw[her] at hne ⊢
  have hnb:(er != 0)=true:=by rw[bne_iff_ne];exact hne
  replace hne:=zH hne
  replace her:=zH her
  go_wp2_with fail
  obtain⟨rp3,re3,z3,xe3,o3⟩:=st5 (b:=w.heap.size) (x0:=.slice none 0 0) (x1:=.slice none 0 0) (x2:=.slice none 0 0) (x3:=.slice none 0 0) (ev:=.int .i64 er) rp2 re2 rfl
  obtain⟨ro4,re4,z4,xe4,o4⟩:=st9 (b:=w.heap.size) (p:=w.heap.size+3) (by omega) (by omega) ((o3 _ (by omega) (by omega)).trans ro2) re3 rfl
  exact UP hne.out (.inl her.out) rfl rfl ro4 re4 (xe4 (zM _) (xe3 (zM _) x2))
 ·obtain⟨a,lvl,xs,hra,ha8,ha256,hn,hsp⟩:∃ (a lvl:Nat) (xs:List It),v.root=(a:Int)∧8≤a∧a<256∧qu (Qv S v.root) a=some ((lvl:Int),xs)∧(Qd (Qv S v.root) lvl xs).isSome=true:=by
   obtain⟨h8,h256,lvl,xs,h1,h2⟩:=htr.out h0
   exact⟨v.root.toNat,lvl,xs,by omega,h8,h256,h1,h2⟩
  have hS1m:qm (Qv S v.root)=true:=by
   obtain⟨hS,m,hm,h8,h256,-⟩:=Yi (show Jd S v.root=0 by
    unfold QB at h0
    split at h0
    ·rename_i hh;exact absurd h0 hh
    ·rename_i hh;exact Classical.not_not.1 hh)
   exact qz.2 ⟨(qz.1 hS).1,(show Qj (jc S.now v.root.toNat 1)=true by rw[hm,Int.toNat_natCast];exact ZA (qz.1 hS).2.1 h8 _),(qz.1 hS).2.2⟩
  change QC w1.heap.size (Qv S v.root) vv w2 at hT
  obtain⟨S1,hS1⟩:∃ S1,Qv S v.root=S1:=⟨_,rfl⟩
  have hP1:=hP.out
  rw[hS1] at hT hn hsp hS1m hP1
  replace hS1:=zH hS1
  have hPe:P=Xr S1 lvl xs a x:=by
   rw[←hP1]
   unfold UL
   rw[hra,Int.toNat_natCast,hn]
   rfl
  obtain⟨BB,WW,gg,B3,d3,B4,d4,rfl,-⟩:=id hT
  have hns:=zH (vI (hT.newSto (QY hS1m)))
  have HPx:=zH (fun W hst hb=>qhe (some ⟨BB,0,none⟩) S1.bs.length S1.bs.length (some ⟨WW,0,none⟩) S1.ws.length (S1.ws.length+1) B3 S1.now.length d3 B4 S1.last.length d4 S1 hS1m a lvl xs ha8 ha256 hn hsp x hxo.out Ax cx W hst hb)
  rw[←hPe] at HPx
  have hpm:=zH (fun r S' (he:P=.ok (r,S'))=>qes hS1m ha8 hn hsp hxo.out (hPe ▸ he))
  have hpe:=zH (fun er (he:P=.error er)=>qer (hPe ▸ he))
  have h0':=zH h0
  have hraH:=zH hra
  rw[←hra] at HPx
  clear hT h0 hn hsp hPe hS1m hP1 hra
  go_wp2_with fail
  generalize hw3:World.setCell (World.setCell (World.setCell (World.setCell (World.setCell w2 _ _) _ _) _ _) _ _) _ _=w3
  obtain⟨rp3,re3,z3,xe3,o3⟩:=st5 (b:=w.heap.size) rp2 re2 hw3
  have x3:=xe3 (zM _) x2
  have rv3:=(o3 (w.heap.size+1) (by omega) (by omega)).trans rv2
  have ro3:=(o3 (w.heap.size+3) (by omega) (by omega)).trans ro2
  have hst3:=(hns.out w3 (Jc fun k h1 h2=>o3 k (by omega) (by omega))).more (show w2.heap.size≤w3.heap.size by omega)
  have HP2:=HPx.out w3 hst3 ((hxv.out.below x3).more x3.size)
  clear hw3 rp2 rv2 rx2 ro2 re2 kp2 kv2 kx2 ko2 ke2 fp2 fv2 fo2 fe2 xe3 hst3 hns HPx o3
  refine HP2.mono ?_
  clear HP2
  rintro e w4 ⟨u,rfl,hM,hB⟩
  have x34:Ext w3 w4:=hB
  have x4:Ext w w4:=x3.trans hB
  have rp4:=qb rp3 hB
  have rv4:=qb rv3 hB
  have ro4:=qb ro3 hB
  have re4:=qb re3 hB
  have z34:=hB.size
  have kp4:=qa rp4
  have kv4:=qa rv4
  have ko4:=qa ro4
  have ke4:=qa re4
  have fp4:=qd rp4
  have fv4:=qd rv4
  have fo4:=qd ro4
  have fe4:=qd re4
  replace q0:w.heap.size<w4.heap.size:=by omega
  replace q1:w.heap.size+1<w4.heap.size:=by omega
  replace q3:w.heap.size+1+1+1<w4.heap.size:=by omega
  replace q4:w.heap.size+1+1+1+1<w4.heap.size:=by omega
  clear hB rp3 rv3 ro3 re3
  rcases hq:P with er|⟨r2,S2⟩
  ·rw[hq] at hM
   obtain rfl:=hM
   have hne:=hpe.out er hq
   have hnb:(er != 0)=true:=by rw[bne_iff_ne];exact hne
   have hce:Hid (KA S root next dead v P er):=zH (.inr ⟨h0'.out,.inl hq⟩)
   replace hne:=zH hne
   replace hq:=zH hq
   go_wp2_with fail
   obtain⟨rp5,rv5,re5,z5,xe5,o5⟩:=st6 (b:=w.heap.size) (x0:=.slice none 0 0) (x1:=.slice none 0 0) (x2:=.slice none 0 0) (x3:=.slice none 0 0) (z:=.int .i64 0) (ev:=.int .i64 er) rp4 rv4 re4 rfl
   obtain⟨ro6,re6,z6,xe6,o6⟩:=st9 (b:=w.heap.size) (p:=w.heap.size+3) (by omega) (by omega) ((o5 _ (by omega) (by omega) (by omega)).trans ro4) re5 rfl
   exact UP hne.out hce.out rfl rfl ro6 re6 (xe6 (zM _) (xe5 (zM _) x4))
  ·rw[hq] at hM
   obtain⟨vv,rfl,hT⟩:=hM
   obtain⟨BB2,WW2,gg2,C3,g3,C4,g4,rfl,-⟩:=id hT
   have hns:=zH (vI (hT.newSto (QY (hpm.out r2 S2 hq).1)))
   have htree:=zH (hT2.out h0'.out r2 S2 hq)
   have hr8:=(hpm.out r2 S2 hq).2
   have hq':=zH hq
   clear hT hq
   go_wp2_with fail
   generalize hw5:World.setCell (World.setCell (World.setCell (World.setCell (World.setCell (World.setCell w4 _ _) _ _) _ _) _ _) _ _) _ _=w5
   obtain⟨rp5,rv5,re5,z5,xe5,o5⟩:=st6 (b:=w.heap.size) rp4 rv4 re4 hw5
   have x5:=xe5 (zM _) x4
   have ro5:=(o5 (w.heap.size+3) (by omega) (by omega) (by omega)).trans ro4
   have hst5:=(hns.out w5 (Jc fun k h1 h2=>o5 k (by omega) (by omega) (by omega))).more (show w4.heap.size≤w5.heap.size by omega)
   have hvok:VM (Uv v r2):=⟨hvo.out.1,by simp only[Uv];omega,hvo.out.2.2⟩
   have HS:=Gs (some ⟨BB2,0,none⟩) S2.bs.length S2.bs.length (some ⟨WW2,0,none⟩) S2.ws.length (S2.ws.length+1) C3 S2.now.length g3 C4 S2.last.length g4 gen root next A5 c5 S2 dead (Uv v r2) hvok (fun _ _ _=>htree.out) w5 hst5 (hd.out.ext_ x5)
   clear hw5 rp4 rv4 ro4 re4 kp4 kv4 ko4 ke4 fp4 fv4 fo4 fe4 xe5 hst5 hns htree hvok o5
   refine HS.mono ?_
   clear HS
   intro e w6 hQS
   obtain⟨hB6,hS6⟩:=hQS.split
   have x6:Ext w w6:=x5.trans hB6
   have rp6:=qb rp5 hB6
   have ro6:=qb ro5 hB6
   have re6:=qb re5 hB6
   have z56:=hB6.size
   have kp6:=qa rp6
   have ko6:=qa ro6
   have ke6:=qa re6
   have fp6:=qd rp6
   have fo6:=qd ro6
   have fe6:=qd re6
   replace q0:w.heap.size<w6.heap.size:=by omega
   replace q3:w.heap.size+1+1+1<w6.heap.size:=by omega
   replace q4:w.heap.size+1+1+1+1<w6.heap.size:=by omega
   clear hQS hB6 rp5 rv5 ro5 re5 q1
   rcases hS6 with ⟨er,hne,rfl,hE⟩|⟨r3,S3,vs3,u,hO,rfl,hN⟩
   ·have hnb:(er != 0)=true:=by rw[bne_iff_ne];exact hne
    have hce:Hid (KA S root next dead v P er):=zH (.inr ⟨h0'.out,.inr ⟨r2,S2,hq'.out,.inl hE⟩⟩)
    replace hne:=zH hne
    clear hE
    go_wp2_with fail
    obtain⟨rp7,re7,z7,xe7,o7⟩:=st9 (b:=w.heap.size) (p:=w.heap.size) (x0:=.slice none 0 0) (x1:=.slice none 0 0) (x2:=.slice none 0 0) (x3:=.slice none 0 0) (x4:=.int .u32 0) (x5:=.int .i64 0) (x6:=.int .u32 0) (x7:=.slice none 0 0) (ev:=.int .i64 er) (by omega) (by omega) rp6 re6 rfl
    obtain⟨ro8,re8,z8,xe8,o8⟩:=st9 (b:=w.heap.size) (p:=w.heap.size+3) (by omega) (by omega) ((o7 _ (by omega) (by omega)).trans ro6) re7 rfl
    exact UP hne.out hce.out rfl rfl ro8 re8 (xe8 (zM _) (xe7 (zM _) x6))
   ·obtain⟨E1,e1,E2,e2,E3,e3,E4,e4,E5,e5,rfl,hcl⟩:=id hN
    go_wp2_with fail
    generalize hw7:World.setCell (World.setCell (World.setCell (World.setCell (World.setCell (World.setCell (World.setCell (World.setCell (World.setCell w6 _ _) _ _) _ _) _ _) _ _) _ _) _ _) _ _) _ _=w7
    obtain⟨rp7,re7,z7,xe7,o7⟩:=st9 (b:=w.heap.size) (p:=w.heap.size) (by omega) (by omega) rp6 re6 hw7
    have x7:=xe7 (zM _) x6
    have ro7:=(o7 (w.heap.size+3) (by omega) (by omega)).trans ro6
    obtain⟨hst7,hin7⟩:=hcl w7 (Jc fun k h1 h2=>o7 k (by omega) (by omega))
    have HLv:=qfo E1 _ e1 E2 _ e2 E3 _ e3 E4 _ e4 S3 v.root w7 (hst7.more (by omega))
    have hclH:=zH hcl
    have o7H:=zH o7
    clear hw7 rp6 ro6 re6 kp6 ko6 ke6 fp6 fo6 fe6 xe7 o7 hst7 hin7 hcl
    replace hN:=zH hN
    replace hO:=zH hO
    refine HLv.mono ?_
    clear HLv
    rintro e w8 ⟨u,rfl,hL,hB⟩
    have x78:Ext w7 w8:=hB
    have x8:Ext w w8:=x7.trans hB
    have rp8:=qb rp7 hB
    have ro8:=qb ro7 hB
    have re8:=qb re7 hB
    have z78:=hB.size
    have kp8:=qa rp8
    have ko8:=qa ro8
    have ke8:=qa re8
    have fp8:=qd rp8
    have fo8:=qd ro8
    have fe8:=qd re8
    replace q0:w.heap.size<w8.heap.size:=by omega
    replace q3:w.heap.size+1+1+1<w8.heap.size:=by omega
    replace q4:w.heap.size+1+1+1+1<w8.heap.size:=by omega
    clear hB rp7 ro7 re7
    rcases hl:jQ S3 v.root with er|S4
    ·rw[hl] at hL
     obtain rfl:=hL
     have hne:er≠0:=by
      unfold jQ at hl
      split at hl
      ·unfold vT at hl
       split at hl
       ·cases hl;decide
       ·cases hl
      ·rename_i hh
       cases hl
       exact hh
     have hce:Hid (KA S root next dead v P er):=zH (.inr ⟨h0'.out,.inr ⟨r2,S2,hq'.out,.inr ⟨r3,S3,vs3,hO.out,.inl hl⟩⟩⟩)
     replace hne:=zH hne
     replace hl:=zH hl
     go_wp2_with fail
     obtain⟨rp9,re9,z9,xe9,o9⟩:=st5 (b:=w.heap.size) (x0:=.slice none 0 0) (x1:=.slice none 0 0) (x2:=.slice none 0 0) (x3:=.slice none 0 0) (ev:=.int .i64 er) rp8 re8 rfl
     obtain⟨roA,reA,zA,xeA,oA⟩:=st9 (b:=w.heap.size) (p:=w.heap.size+3) (by omega) (by omega) ((o9 _ (by omega) (by omega)).trans ro8) re9 rfl
     exact UP hne.out hce.out rfl rfl roA reA (xeA (zM _) (xe9 (zM _) x8))
    ·rw[hl] at hL
     obtain⟨vv,rfl,hT⟩:=hL
     obtain⟨BB4,WW4,gg4,G3,h3,G4,h4,rfl,-⟩:=id hT
     have hmay4:qm S4=true:=by
      obtain⟨_,_,_,_,_,_,_,_,refs9,nodes9,hp9,_⟩:=hO.out
      exact qfM hp9.may hl
     have hns4:=zH (vI (hT.newSto (QY hmay4)))
     replace hl:=zH hl
     clear hT hmay4
     go_wp2_with fail
     obtain⟨rp9,re9,z9,xe9,o9⟩:=st5 (b:=w.heap.size) (x0:=.slice (some ⟨BB4,0,none⟩) S4.bs.length S4.bs.length) (x1:=.slice (some ⟨WW4,0,none⟩) S4.ws.length (S4.ws.length+1)) (x2:=.slice G3 S4.now.length h3) (x3:=.slice G4 S4.last.length h4) (ev:=.int .i64 0) rp8 re8 rfl
     have roP:=(o9 (w.heap.size+3) (by omega) (by omega)).trans ro8
     generalize hw9:World.setCell (World.setCell (World.setCell (World.setCell (World.setCell w8 _ _) _ _) _ _) _ _) _ _=w9 at *
     generalize hwf:World.setCell (World.setCell (World.setCell (World.setCell (World.setCell (World.setCell (World.setCell (World.setCell (World.setCell w9 _ _) _ _) _ _) _ _) _ _) _ _) _ _) _ _) _ _=Wf
     obtain⟨roA,reA,zA,xeA,oA⟩:=st9 (b:=w.heap.size) (p:=w.heap.size+3) (by omega) (by omega) roP re9 hwf
     have yf:=xeA (zM _) (xe9 (zM _) x8)
     clear hwf hw9
     have hk8:∀ k,w7.heap.size≤k→k<w8.heap.size→Wf.heap[k]?=w8.heap[k]?:=fun k h1 h2=>(oA k (by omega) (by omega)).trans (o9 k (by omega) (by omega))
     have hk6:∀ k,w5.heap.size≤k→k<w6.heap.size→Wf.heap[k]?=w6.heap[k]?:=fun k h1 h2=>(oA k (by omega) (by omega)).trans ((o9 k (by omega) (by omega)).trans ((Below.block x78 k (by omega)).trans (o7H.out k (by omega) (by omega))))
     have x5s:=x5.size
     have hN4:jE w5.heap.size S4 gen (r3:Int) next dead (.agg (qC (.slice (some ⟨BB4,0,none⟩) S4.bs.length S4.bs.length) (.slice (some ⟨WW4,0,none⟩) S4.ws.length (S4.ws.length+1)) (.slice G3 S4.now.length h3) (.slice G4 S4.last.length h4) gen (r3:Int) next (.slice E5 dead.length e5))) Wf:=
      ⟨_,_,_,_,_,_,_,_,_,_,rfl,fun C hC=>⟨(hns4.out C fun q v h1 h2 h3=>hC q v (by omega) (by omega) ((jJ (hk8 q.block h1 h2)).trans h3)).more (by omega),((hclH.out C fun q v h1 h2 h3=>hC q v (by omega) (by omega) ((jJ (hk6 q.block h1 h2)).trans h3)).2.more (by omega))⟩⟩
     refine qdw _ _ _ _ _ _ _ _ _ _ _ _ gen (r3:Int) next (.slice E5 dead.length e5) 0 S4 rfl rfl roA reA (fun _=>?_) (fun _ hE W' hT=>?_) (fun e' W' h0 hE hT=>?_)
     ·obtain⟨F1,f1,F2,f2,F3,f3,F4,f4,F5,f5,ee,hst,hin⟩:=hN4.sto
      simp only[qC,Value.agg.injEq,Array.mk.injEq,List.cons.injEq,Value.slice.injEq,true_and,and_true] at ee
      obtain⟨⟨rfl,rfl⟩,⟨rfl,rfl⟩,⟨rfl,rfl⟩,⟨rfl,rfl⟩,rfl,rfl⟩:=ee
      exact hst
     ·exact⟨hT.below yf (by omega) (by omega) (by omega),.inr ⟨r2,S2,r3,S3,vs3,S4,_,h0'.out,hq'.out,hO.out,hl.out,hE,rfl,hN4.keep x5s hT.size fun k h1 h2=>hT.same k h2 (by omega) (by omega)⟩⟩
     ·refine⟨hT.below yf (by omega) (by omega) (by omega),.inl ⟨e',h0,rfl,.inr ⟨h0'.out,.inr ⟨r2,S2,hq'.out,.inr ⟨r3,S3,vs3,hO.out,.inr ⟨S4,hl.out,?_⟩⟩⟩⟩⟩⟩
      rcases hE with ⟨_,h⟩|⟨h,_⟩
      ·exact h.symm
      ·exact absurd rfl h
def openV:Option Vol→Value
 |none=>.tuple #[jK YB,.int .i64 6]
 |some v=>.tuple #[jK v,.int .i64 (if v.fz=true then 170 else 0)]
def OpenQ (S:Sto) (root next:Int) (dead:List Int) (id:Int) (w:World) (e:Ending) (w':World):Prop:=Below w.heap.size w w' ∧
 ((e=.returned (.tuple #[jK YB,.int .i64 8])∧zF S root next dead) ∨
  ∃ vs refs nodes,Ql S root next dead vs∧qR S (Qw root dead vs) refs nodes∧QD S refs∧e=.returned (openV (zm vs id)))
theorem GM {R:Ending→World→Prop} {a:Act} {W:World} {b:Nat} {x0 x1 x2 x3 v:Value} (h4:a.tmps[4]?.getD undef=.pointer (some ⟨b,0,none⟩)) (h5:a.tmps[5]?.getD undef=v) (hd:a.defers=[])
  (hrow:W.heap[b]?=some (.cells #[x0,x1,x2,x3] 40 (0,0))) (hR:R (.returned (.tuple #[.agg #[x0,x1,x2,x3],v])) W):bodyPost Tryz.prog Tryz.f71 R .ret a W:=by
 refine bodyPost_ret (v:=.tuple #[.agg #[x0,x1,x2,x3],v]) ?_ hd hR
 have k:=qa hrow
 simp[results,Tryz.results71,go_sem,h4,h5,k]
set_option maxRecDepth 100000 in
theorem qiz (A1:Option Addr) (n1 c1:Nat) (A2:Option Addr) (n2 c2:Nat) (A3:Option Addr) (n3 c3:Nat) (A4:Option Addr) (n4 c4:Nat) (gen root next:Int) (A5:Option Addr) (c5:Nat) (S:Sto) (dead:List Int) (id:Int) (w:World)
  (h:qP w w.heap.size (.slice A1 n1 c1) (.slice A2 n2 c2) (.slice A3 n3 c3) (.slice A4 n4 c4) S) (hd:Zn w w.heap.size (.slice A5 dead.length c5) dead) :
  Calls Tryz.prog 71 #[.agg (qC (.slice A1 n1 c1) (.slice A2 n2 c2) (.slice A3 n3 c3) (.slice A4 n4 c4) gen root next (.slice A5 dead.length c5)),.int .u32 id] w (OpenQ S root next dead id w):=by
 have HV:=zH (fun W (hx:Ext w W)=>Gt A1 n1 c1 A2 n2 c2 A3 n3 c3 A4 n4 c4 gen root next A5 c5 S dead id W (h.ext hx) (hd.ext_ hx))
 clear h hd
 go_enter Tryz.func71,Tryz.ntmps71
 go_wp2_with fail
 generalize hw1:World.alloc (World.alloc w _) _=w1
 have x1:Ext w w1:=by rw[←hw1];exact(zN _ _).trans (zN _ _)
 have r1:w1.heap[w.heap.size+1]?=some (.cells #[.int .u32 0,.int .i64 0,.bool false,.int .u32 0] 40 (0,0)):=by rw[←hw1];exact zI _ _ _ (by simp)
 clear hw1
 refine(HV.out w1 x1).mono ?_
 clear HV
 rintro e w2 ⟨hB,hQ⟩
 have x2:Ext w w2:=x1.trans hB
 have r2:=qb r1 hB
 have k2:=qa r2
 have f2:=qd r2
 have z2:=(zG.1 r2).1
 clear hB r1
 obtain⟨u,er,rfl,hu⟩:∃ (u:Vol) (er:Int),e=.returned (.tuple #[jK u,.int .i64 er])∧((er=8∧u=YB∧zF S root next dead)∨∃ vs refs nodes,Ql S root next dead vs∧qR S (Qw root dead vs) refs nodes∧QD S refs∧((er=6∧u=YB∧zm vs id=none)∨(er=0∧zm vs id=some u))):=by
  rcases hQ with ⟨rfl,hb⟩|⟨vs,refs,nodes,hp,hc,he,rfl⟩
  ·exact⟨YB,8,rfl,.inl ⟨rfl,rfl,hb⟩⟩
  ·rcases hv:zm vs id with _|u
   ·exact⟨YB,6,rfl,.inr ⟨vs,refs,nodes,hp,hc,he,.inl ⟨rfl,rfl,hv⟩⟩⟩
   ·exact⟨u,0,rfl,.inr ⟨vs,refs,nodes,hp,hc,he,.inr ⟨rfl,hv⟩⟩⟩
 clear hQ
 obtain⟨ui,ur,uf,um⟩:=u
 unfold jK
 by_cases h0:er=0
 ·subst h0
  obtain⟨vs,refs,nodes,hp,hc,he,hv⟩:∃ vs refs nodes,Ql S root next dead vs∧qR S (Qw root dead vs) refs nodes∧QD S refs∧zm vs id=some ⟨ui,ur,uf,um⟩:=by
   rcases hu with ⟨h,_⟩|⟨vs,refs,nodes,hp,hc,he,⟨h,_⟩|⟨_,hv⟩⟩
   ·cases h
   ·cases h
   ·exact⟨vs,refs,nodes,hp,hc,he,hv⟩
  replace hp:=zH hp
  replace hc:=zH hc
  replace he:=zH he
  replace hv:=zH hv
  clear hu
  cases uf
  ·go_wp2_with fail
   exact GM (b:=w.heap.size+1) rfl rfl rfl (qb (vz r2 _ _ _ _) (zN _ _)) ⟨Below.alloc (zy x2 (by omega) _ _ _ _) (by have:=x2.size;simpa using this) _,.inr ⟨vs,refs,nodes,hp.out,hc.out,he.out,by rw[hv.out];rfl⟩⟩
  ·go_wp2_with fail
   exact GM (b:=w.heap.size+1) rfl rfl rfl (qb (vz r2 _ _ _ _) (zN _ _)) ⟨Below.alloc (zy x2 (by omega) _ _ _ _) (by have:=x2.size;simpa using this) _,.inr ⟨vs,refs,nodes,hp.out,hc.out,he.out,by rw[hv.out];rfl⟩⟩
 ·have hb:(er == 0)=false:=by rw[beq_eq_false_iff_ne];exact h0
  have hb2:decide (er=0)=false:=decide_eq_false h0
  replace h0:=zH h0
  replace hu:=zH hu
  go_wp2_with fail
  refine GM (b:=w.heap.size+1) rfl rfl rfl (qb (vz r2 _ _ _ _) (zN _ _)) ⟨Below.alloc (zy x2 (by omega) _ _ _ _) (by have:=x2.size;simpa using this) _,?_⟩
  rcases hu.out with ⟨rfl,he,hb⟩|⟨vs,refs,nodes,hp,hc,he,⟨rfl,hu,hv⟩|⟨h,_⟩⟩
  ·cases he
   exact .inl ⟨rfl,hb⟩
  ·cases hu
   exact .inr ⟨vs,refs,nodes,hp,hc,he,by rw[hv];rfl⟩
  ·exact absurd h h0.out

theorem qbp {S:Sto}:∀ (h:Nat) (xs:List It),(∀ x∈xs,ZY x)→∀ y∈Qn S h xs,ZY y
 |0,xs,hx,y,hy=>hx y hy
 |h+1,xs,_,y,hy=>by
  rw[Zx] at hy
  obtain⟨z,hz,hy⟩:=List.mem_flatMap.1 hy
  rcases hn:qu S z.r.toNat with _|⟨lvl,ys⟩
  ·rw[hn] at hy;cases hy
  ·rw[hn] at hy
   exact qbp h ys (fun x hx=>((Qa hn).2.1 x hx).1) y hy
theorem qeQ {S:Sto} {root next:Int} {dead:List Int} {vs:List Vol} (h:Ql S root next dead vs):∀ v∈vs,VM v:=fun v hv=>by
 obtain⟨a,rfl,h8,h256,lvl,xs,hn,hs⟩:=JN h.top
 have hvs:=h.vols
 unfold Xw at hvs
 rw[show ((a:Nat):Int).toNat=a from rfl,hn] at hvs
 simp only[Int.toNat_natCast] at hvs
 rw[qao _ _ _ (by simp)] at hvs
 split at hvs
 ·rename_i hc
  simp only[Option.some.injEq,List.nil_append] at hvs
  rw[←hvs] at hv
  obtain⟨x,hx,rfl⟩:=List.mem_map.1 hv
  have h1:=qbp (S:=S) lvl xs (fun y hy=>((Qa hn).2.1 y hy).1) x hx
  have h2:=List.all_eq_true.1 hc.1 x hx
  unfold jM XI at h2
  simp only[Bool.and_eq_true,decide_eq_true_eq] at h2
  exact qeM h1 (by omega)
 ·cases hvs
theorem zF.no {S:Sto} {root next:Int} {dead:List Int} {vs:List Vol} {refs nodes:Nat→Nat} (h:zF S root next dead) (hp:Ql S root next dead vs) (hc:qR S (Qw root dead vs) refs nodes) (he:QD S refs):False:=by
 obtain⟨r,n,h1,h2⟩:=h vs hp
 obtain⟨_,e⟩:=jl.same h1.mkd hc.mkd
 subst e
 exact h2 he
theorem JI.stack {ks rs:Nat→List Nat} {R:List Nat} {M:Nat→Bool} {refs:Nat→Nat} {s s':List Nat} (h:JI ks rs R M refs s) (hs:∀ x,x∈s↔x∈s'):JI ks rs R M refs s':=
 ⟨h.reach,fun a ha=>h.stk a ((hs a).2 ha),fun a ha=>(h.root a ha).imp id (hs a).1,fun a ha b hb=>(h.kids a ha b hb).imp id (hs b).1,h.sum⟩
def UD (S:Sto):Nat→List Nat→List Nat→List Nat→Option (List Nat×List Nat)
 |_,[],met,refs=>some (met,refs)
 |0,_ :: _,_,_=>none
 |f+1,a :: s,met,refs=>if met.contains a then UD S f s met refs else if a<256 then UD S f (vQ S a++s) (a :: met) (vZ S a++refs) else none
def GG (met:List Nat):Nat→Bool:=fun a=>met.contains a
theorem qhY (a:Nat) (met:List Nat):GG (a :: met)=KV (GG met) a:=by
 funext b
 unfold GG KV
 by_cases h:b=a
 ·subst h;simp
 ·rw[if_neg h];simp[List.contains_cons,h]
theorem qap {S:Sto} {R:List Nat}:∀ (f:Nat) (s met refs:List Nat) {met' refs':List Nat},JI (vQ S) (vZ S) R (GG met) (fun b=>refs.count b) s→UD S f s met refs=some (met',refs')→JI (vQ S) (vZ S) R (GG met') (fun b=>refs'.count b) []
 |0,[],met,refs,met',refs',h,e=>by simp only[UD,Option.some.injEq,Prod.mk.injEq] at e;obtain⟨rfl,rfl⟩:=e;exact h
 |f+1,[],met,refs,met',refs',h,e=>by simp only[UD,Option.some.injEq,Prod.mk.injEq] at e;obtain⟨rfl,rfl⟩:=e;exact h
 |0,_ :: _,met,refs,met',refs',h,e=>by cases e
 |f+1,a :: s,met,refs,met',refs',h,e=>by
  have h1:JI (vQ S) (vZ S) R (GG met) (fun b=>refs.count b) (s++[a]):=h.stack fun x=>by simp[or_comm]
  simp only[UD] at e
  split at e
  ·rename_i hm
   exact qap f s met refs (h1.again hm) e
  ·rename_i hm
   split at e
   ·rename_i hl
    have h2:=h1.new (refs':=fun b=>(vZ S a++refs).count b) (by unfold GG;simpa using hm) hl (fun b=>by simp only[List.count_append];omega)
    rw[←qhY] at h2
    exact qap f _ _ _ (h2.stack fun x=>by simp[or_comm]) e
   ·cases e
theorem JI.start (ks rs:Nat→List Nat) (R:List Nat):JI ks rs R (GG []) (fun b=>R.count b) R:=by
 have h0:∀ b n,TO rs (GG []) b n=0:=fun b n=>by
  induction n with
  |zero=>rfl
  |succ n ih=>unfold TO;rw[ih];rfl
 exact { reach:=fun a h=>(by cases h),stk:=fun a ha=>.base ha,root:=fun a ha=>.inr ha,kids:=fun a h=>(by cases h),sum:=fun b=>by rw[h0];rfl }
def Xn (met:List Nat):Nat→Nat:=fun a=>if met.contains a then 1 else 0
theorem qfV (met:List Nat):vU (Xn met)=GG met:=by
 funext a
 unfold vU Xn GG
 cases met.contains a <;> rfl
theorem qfj {S:Sto} {R met refs:List Nat} {f:Nat} (hR:R≠[]) (h:UD S f R [] R=some (met,refs)):qR S R (fun b=>refs.count b) (Xn met):=by
 have h1:=qap f R [] R (JI.start _ _ R) h
 refine⟨jl.walk.2 (by rw[qfV];exact h1),fun a=>?_⟩
 have h2:=qam (vU (Xn met)) 256
 have h3:Xn met a≤1:=by unfold Xn;split <;> omega
 have h4:0<R.length:=List.length_pos_iff.2 hR
 omega
def Ko (S:Sto) (root next:Int) (dead:List Int):Option (List Vol×List Nat×List Nat):=
 if qm S && decide (dead.length≤40) && okL S (-1) root then match Xw S root next with
  |none=>none
  |some vs=>if (Zl root dead vs).all (fun r=>okL S (-1) r) then match UD S 2000 (Qw root dead vs) [] (Qw root dead vs) with
   |none=>none
   |some (met,refs)=>if qce S (fun b=>refs.count b) then some (vs,met,refs) else none
   else none
 else none
theorem JT {S:Sto} {root next:Int} {dead:List Int} {vs:List Vol} {met refs:List Nat} (h:Ko S root next dead=some (vs,met,refs)):Ql S root next dead vs∧qR S (Qw root dead vs) (fun b=>refs.count b) (Xn met)∧QD S (fun b=>refs.count b):=by
 unfold Ko at h
 split at h
 ·rename_i h1
  simp only[Bool.and_eq_true,decide_eq_true_eq] at h1
  split at h
  ·cases h
  ·rename_i vs' hv
   split at h
   ·rename_i h2
    split at h
    ·cases h
    ·rename_i met' refs' hw
     split at h
     ·rename_i h3
      simp only[Option.some.injEq,Prod.mk.injEq] at h
      obtain⟨rfl,rfl,rfl⟩:=h
      exact⟨⟨h1.1.1,h1.1.2,h1.2,hv,fun r hr=>List.all_eq_true.1 h2 r hr⟩,qfj (by unfold Qw Zl;simp) hw,(qdG _ _).1 h3⟩
     ·cases h
   ·cases h
 ·cases h
theorem Ql.unique {S:Sto} {root next:Int} {dead:List Int} {vs vs':List Vol} {refs nodes refs' nodes':Nat→Nat} (h:Ql S root next dead vs) (hc:qR S (Qw root dead vs) refs nodes) (h':Ql S root next dead vs') (hc':qR S (Qw root dead vs') refs' nodes'):vs'=vs∧refs'=refs∧vU nodes'=vU nodes:=by
 obtain rfl:=Ql.same h h'
 obtain⟨e1,e2⟩:=jl.same hc'.mkd hc.mkd
 exact⟨rfl,e2,e1⟩
end Go.Proofs.YtpbniokljofedaaGreat
