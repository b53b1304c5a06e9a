/- Texts Create, Alive14W, Alive14, OutC, Alive18W, Alive18, Big, Big2, joined. -/
import Derived.Test.YtpbniokljofedaaGreatZF07
import Derived.Test.YtpbniokljofedaaGreatZF13
import Derived.Test.YtpbniokljofedaaGreatZF14
import Derived.Test.YtpbniokljofedaaGreatZF28
import Derived.Test.YtpbniokljofedaaGreatZF29
import Derived.Test.YtpbniokljofedaaGreatZF30
import Derived.Test.YtpbniokljofedaaGreatZF32
set_option linter.unusedSimpArgs false
set_option linter.unusedVariables false
set_option maxHeartbeats 8000000
namespace Go.Proofs.YtpbniokljofedaaGreat
open Go.RowKit
def newV (next:Int) (r:Nat):Vol:=⟨next,(r:Int),false,0⟩
def Tu (S:Sto) (root next:Int) (dead:List Int) (er:Int):Prop:=(er=8∧zF S root next dead)∨∃ vs refs nodes,Ql S root next dead vs∧qR S (Qw root dead vs) refs nodes∧QD S refs ∧
 ((er=9∧(16≤vs.length∨next=4294967295))∨Kb S=.error er∨∃ ra S1,Kb S=.ok (ra,S1)∧(KF S1 root (next+1) dead (newV next ra) er∨∃ r S2 vs',Kk S1 root (next+1) dead (newV next ra) r S2 vs'∧za S2=er))
def CreQ (S:Sto) (gen root next:Int) (dead:List Int) (w:World) (e:Ending) (w':World):Prop:=Below w.heap.size w w' ∧
 ((∃ er,er≠0∧e=.returned (.tuple #[Jb,.int .u32 0,.int .i64 er])∧Tu S root next dead er) ∨
  ∃ vs refs nodes ra S1 r S2 vs' u,Ql S root next dead vs∧qR S (Qw root dead vs) refs nodes∧QD S refs∧vs.length<16∧next<4294967295∧Kb S=.ok (ra,S1)∧Kk S1 root (next+1) dead (newV next ra) r S2 vs'∧za S2=0 ∧
   e=.returned (.tuple #[u,.int .u32 next,.int .i64 0])∧jE w.heap.size S2 gen (r:Int) (next+1) dead u w')
theorem qgM {R:Ending→World→Prop} {tmps:Array Value} {W:World} {b:Nat} {x0 x1 x2 x3 x4 x5 x6 x7 y z:Value} (h4:tmps[2]?.getD undef=.pointer (some ⟨b+1,0,none⟩)) (h5:tmps[3]?.getD undef=.pointer (some ⟨b+1+1,0,none⟩)) (h6:tmps[4]?.getD undef=.pointer (some ⟨b+1+1+1,0,none⟩))
  (r4:W.heap[b+1]?=some (.cells #[x0,x1,x2,x3,x4,x5,x6,x7] 32 (0,0))) (r5:W.heap[b+2]?=some (.cells #[y] 29 (0,0))) (r6:W.heap[b+3]?=some (.cells #[z] 36 (0,0))) (hR:R (.returned (.tuple #[.agg #[x0,x1,x2,x3,x4,x5,x6,x7],y,z])) W) :
  Leaves Tryz.prog Tryz.f70 tmps R [] .returning W:=by
 have k4:=qa r4
 have k5:=qa r5
 have k6:=qa r6
 refine⟨.tuple #[.agg #[x0,x1,x2,x3,x4,x5,x6,x7],y,z],?_,hR⟩
 simp[results,Tryz.results70,go_sem,h4,h5,h6,k4,k5,k6]
theorem qdC {R:Ending→World→Prop} {tmps:Array Value} {W:World} {b:Nat} (A1:Option Addr) (n1 c1:Nat) (A2:Option Addr) (n2 c2:Nat) (A3:Option Addr) (n3 c3:Nat) (A4:Option Addr) (n4 c4:Nat) (gen root next:Int) (v5:Value) (y e:Int) (S:Sto)
  (h4:tmps[2]?.getD undef=.pointer (some ⟨b+1,0,none⟩)) (h5:tmps[3]?.getD undef=.pointer (some ⟨b+1+1,0,none⟩)) (h6:tmps[4]?.getD undef=.pointer (some ⟨b+1+1+1,0,none⟩))
  (r4:W.heap[b+1]?=some (.cells (qC (.slice A1 n1 c1) (.slice A2 n2 c2) (.slice A3 n3 c3) (.slice A4 n4 c4) gen root next v5) 32 (0,0))) (r5:W.heap[b+2]?=some (.cells #[.int .u32 y] 29 (0,0))) (r6:W.heap[b+3]?=some (.cells #[.int .i64 e] 36 (0,0)))
  (h:e=0→qP W W.heap.size (.slice A1 n1 c1) (.slice A2 n2 c2) (.slice A3 n3 c3) (.slice A4 n4 c4) S)
  (hR1:e=0→za S=0→∀ W',Kl (b+1) (b+3) (b+2) W W'→R (.returned (.tuple #[.agg (qC (.slice A1 n1 c1) (.slice A2 n2 c2) (.slice A3 n3 c3) (.slice A4 n4 c4) gen root next v5),.int .u32 y,.int .i64 0])) W')
  (hR2:∀ e' W',e'≠0→((e=0∧e'=za S)∨(e≠0∧e'=e))→Kl (b+1) (b+3) (b+2) W W'→R (.returned (.tuple #[Jb,.int .u32 0,.int .i64 e'])) W') :
  bodyPostD Tryz.prog Tryz.f70 R .ret { tmps:=tmps,defers:=[{ target:=.fn (.func 126) #[.pointer (some ⟨b+1,0,none⟩),.pointer (some ⟨b+1+1+1,0,none⟩),.pointer (some ⟨b+1+1,0,none⟩)],args:=#[] }] } W:=by
 refine leaves_cons (f:=126) (args:=#[.pointer (some ⟨b+1,0,none⟩),.pointer (some ⟨b+1+1+1,0,none⟩),.pointer (some ⟨b+1+1,0,none⟩)]) (by simp) (by simp[go_sem]) ?_
 refine(cre1_any (b+1) (b+3) (b+2) (by omega) (by omega) (by omega) A1 n1 c1 A2 n2 c2 A3 n3 c3 A4 n4 c4 gen root next v5 y e S .returning W r4 r6 r5 h).mono ?_
 rintro x u' w' ⟨rfl,rfl,hT,⟨h0,hE,g4,g6,g5⟩|⟨e',h0,hE,g4,g6,g5⟩⟩
 ·exact qgM h4 h5 h6 g4 g5 g6 (hR1 h0 hE w' hT)
 ·exact qgM h4 h5 h6 g4 g5 g6 (hR2 e' w' h0 hE hT)
theorem XC {tmps:Array Value} {w W:World} {S:Sto} {gen root next:Int} {dead:List Int} {er:Int} {z0:Int} (hne:er≠0) (hc:Tu S root next dead er)
  (h4:tmps[2]?.getD undef=.pointer (some ⟨w.heap.size+1,0,none⟩)) (h5:tmps[3]?.getD undef=.pointer (some ⟨w.heap.size+1+1,0,none⟩)) (h6:tmps[4]?.getD undef=.pointer (some ⟨w.heap.size+1+1+1,0,none⟩))
  (r4:W.heap[w.heap.size+1]?=some (.cells VK 32 (0,0))) (r5:W.heap[w.heap.size+2]?=some (.cells #[.int .u32 z0] 29 (0,0))) (r6:W.heap[w.heap.size+3]?=some (.cells #[.int .i64 er] 36 (0,0))) (hB:Ext w W) :
  bodyPostD Tryz.prog Tryz.f70 (CreQ S gen root next dead w) .ret { tmps:=tmps,defers:=[{ target:=.fn (.func 126) #[.pointer (some ⟨w.heap.size+1,0,none⟩),.pointer (some ⟨w.heap.size+1+1+1,0,none⟩),.pointer (some ⟨w.heap.size+1+1,0,none⟩)],args:=#[] }] } W:=by
 refine qdC none 0 0 none 0 0 none 0 0 none 0 0 0 0 0 (.slice none 0 0) z0 er S h4 h5 h6 r4 r5 r6 (fun h=>absurd h hne) (fun h=>absurd h hne) (fun e' W' h0 hE hT=>?_)
 obtain rfl:e'=er:=by
  rcases hE with ⟨h,_⟩|⟨_,h⟩
  ·exact absurd h hne
  ·exact h
 have z:=(zG.1 r4).1
 exact⟨hT.below hB (by omega) (by omega) (by omega) (by omega),.inl ⟨e',hne,rfl,hc⟩⟩
theorem Gm {W:World} {b:Nat} {v p q0:Value} {ty1 ty2 ty3:TypeId} {cs:Array Value} (r4:W.heap[b+1]?=some (.cells cs ty1 (0,0))) (r5:W.heap[b+2]?=some (.cells #[p] ty2 (0,0))) (r6:W.heap[b+3]?=some (.cells #[q0] ty3 (0,0))) {C:World} (hC:W.setCell ⟨b+1+1+1,0,none⟩ v=C) :
  C.heap[b+1]?=some (.cells cs ty1 (0,0))∧C.heap[b+2]?=some (.cells #[p] ty2 (0,0))∧C.heap[b+3]?=some (.cells #[v] ty3 (0,0))∧(∀ {w0:World},w0.heap.size≤b→Ext w0 W→Ext w0 C)∧C.heap.size=W.heap.size∧∀ k,k≠b+3→C.heap[k]?=W.heap[k]?:=by
 subst hC
 have hs:=fun (k:Nat) (hk:k≠b+3)=>zJ W ⟨b+1+1+1,0,none⟩ v k hk
 exact⟨(hs _ (by omega)).trans r4,(hs _ (by omega)).trans r5,qi r6 0 v,fun hb hx=>Below.setCell hx (p:=⟨b+1+1+1,0,none⟩) (by simp;omega) _,by simp,hs⟩
theorem newE_err {S:Sto} {er:Int} (h:Kb S=.error er):er≠0:=by
 unfold Kb at h
 split at h
 ·exact Yp h
 ·cases h;decide
theorem cre_mid {W:World} {b vb:Nat} {u0 u1 u2 u3 u4 u5 u6 u7 y0 y1 y2 y3 p q0 x0 x1 x2 x3 z ev nx:Value} {tyP tyV ty1 ty2 ty3:TypeId} {cs:Array Value} (ra:W.heap[b]?=some (.cells #[u0,u1,u2,u3,u4,u5,u6,u7] tyP (0,0))) (rv:W.heap[vb]?=some (.cells #[y0,y1,y2,y3] tyV (0,0)))
  (r4:W.heap[b+1]?=some (.cells cs ty1 (0,0))) (r5:W.heap[b+2]?=some (.cells #[p] ty2 (0,0))) (r6:W.heap[b+3]?=some (.cells #[q0] ty3 (0,0))) (hvb:b+3<vb) {C:World}
  (hC:((((((W.setCell ⟨b,0,none⟩ x0).setCell ⟨b,1,none⟩ x1).setCell ⟨b,2,none⟩ x2).setCell ⟨b,3,none⟩ x3).setCell ⟨vb,1,none⟩ z).setCell ⟨b+1+1+1,0,none⟩ ev).setCell ⟨b,6,none⟩ nx=C) :
  C.heap[b]?=some (.cells #[x0,x1,x2,x3,u4,u5,nx,u7] tyP (0,0))∧C.heap[vb]?=some (.cells #[y0,z,y2,y3] tyV (0,0))∧C.heap[b+1]?=some (.cells cs ty1 (0,0))∧C.heap[b+2]?=some (.cells #[p] ty2 (0,0))∧C.heap[b+3]?=some (.cells #[ev] ty3 (0,0)) ∧
   C.heap.size=W.heap.size∧(∀ {w0:World},w0.heap.size≤b→Ext w0 W→Ext w0 C)∧∀ k,k≠b→k≠vb→k≠b+3→C.heap[k]?=W.heap[k]?:=by
 subst hC
 have hs:=fun (A:World) (b j:Nat) (v:Value) (k:Nat) (hk:k≠b)=>zJ A ⟨b,j,none⟩ v k hk
 have r1:=qi (qi (qi (qi ra 0 x0) 1 x1) 2 x2) 3 x3
 have o1:∀ k,k≠b→((((W.setCell ⟨b,0,none⟩ x0).setCell ⟨b,1,none⟩ x1).setCell ⟨b,2,none⟩ x2).setCell ⟨b,3,none⟩ x3).heap[k]?=W.heap[k]?:=fun k hk=>by rw[hs _ _ _ _ _ hk,hs _ _ _ _ _ hk,hs _ _ _ _ _ hk,hs _ _ _ _ _ hk]
 have hall:∀ k,k≠b→k≠vb→k≠b+3→(((((((W.setCell ⟨b,0,none⟩ x0).setCell ⟨b,1,none⟩ x1).setCell ⟨b,2,none⟩ x2).setCell ⟨b,3,none⟩ x3).setCell ⟨vb,1,none⟩ z).setCell ⟨b+1+1+1,0,none⟩ ev).setCell ⟨b,6,none⟩ nx).heap[k]?=W.heap[k]?:=fun k h1 h2 h3=>by
  rw[hs _ _ _ _ _ h1,hs _ _ _ _ _ (by omega),hs _ _ _ _ _ h2,o1 k h1]
 refine⟨?_,?_,(hall _ (by omega) (by omega) (by omega)).trans r4,(hall _ (by omega) (by omega) (by omega)).trans r5,?_,by simp,fun hb hx=>?_,hall⟩
 ·exact qi (t:=tyP) (cs:=#[x0,x1,x2,x3,u4,u5,u6,u7]) (by rw[hs _ _ _ _ _ (by omega),hs _ _ _ _ _ (by omega)];exact r1) 6 nx
 ·rw[hs _ _ _ _ _ (by omega),hs _ _ _ _ _ (by omega)]
  exact qi (t:=tyV) (cs:=#[y0,y1,y2,y3]) ((o1 vb (by omega)).trans rv) 1 z
 ·rw[hs _ _ _ _ _ (by omega)]
  exact qi (t:=ty3) (cs:=#[q0]) (by rw[hs _ _ _ _ _ (by omega),o1 _ (by omega)];exact r6) 0 ev
 ·exact Below.setCell (Below.setCell (Below.setCell (zy hx (b:=b) hb _ _ _ _) (p:=⟨vb,1,none⟩) (by simp;omega) _) (p:=⟨b+1+1+1,0,none⟩) (by simp;omega) _) (p:=⟨b,6,none⟩) hb _
set_option maxRecDepth 100000 in
theorem qeL (A1:Option Addr) (n1 c1:Nat) (A2:Option Addr) (n2 c2:Nat) (A3:Option Addr) (n3 c3:Nat) (A4:Option Addr) (n4 c4:Nat) (gen root next:Int) (A5:Option Addr) (c5:Nat) (S:Sto) (dead:List Int) (hn0:0≤next) (hn1:next<4294967296) (w:World)
  (h:qP w w.heap.size (.slice A1 n1 c1) (.slice A2 n2 c2) (.slice A3 n3 c3) (.slice A4 n4 c4) S) (hd:Zn w w.heap.size (.slice A5 dead.length c5) dead) :
  Calls Tryz.prog 70 #[.agg (qC (.slice A1 n1 c1) (.slice A2 n2 c2) (.slice A3 n3 c3) (.slice A4 n4 c4) gen root next (.slice A5 dead.length c5))] w (CreQ S gen root next dead w):=by
 have hmf:∀ (fn:Fn) (first cap:Array Value) (w:World),(Instr.makeFunc fn first cap).run Tryz.prog w=.ok (.func fn first cap) w:=fun _ _ _ _=>rfl
 have HV:=zH (fun W (hx:Ext w W)=>qbk A1 n1 c1 A2 n2 c2 A3 n3 c3 A4 n4 c4 gen root next A5 c5 S dead W (h.ext hx) (hd.ext_ hx))
 have HN:=zH (fun W (hx:Ext w W)=>pnew_any A1 n1 c1 A2 n2 c2 A3 n3 c3 A4 n4 c4 S W (h.ext hx))
 have hwn0:Hid (next<4294967295→IntKind.u32.wrap (next+1)=next+1):=zH fun h1=>by
  simp only[IntKind.wrap,IntKind.bits,IntKind.signed,Bool.false_and,Bool.false_eq_true,if_false]
  omega
 have hvok:Hid (∀ ra:Nat,8≤ra→ra<256→VM (newV next ra)):=zH fun ra h1 h2=>by
  refine⟨⟨?_,?_⟩,⟨?_,?_⟩,⟨?_,?_⟩⟩ <;> simp only[newV] <;> omega
 replace h:=zH h
 replace hd:=zH hd
 go_enter_defers Tryz.func70,Tryz.ntmps70
 go_wp2_with fail
 generalize hw1:(World.alloc (World.alloc _ _) _)=w1
 have x1:Ext w w1:=by rw[←hw1];exact(((zN _ _).trans (zN _ _)).trans (zN _ _)).trans (zN _ _)
 have s1:w1.heap.size=w.heap.size+4:=by rw[←hw1];simp
 have ra1:w1.heap[w.heap.size]?=some (.cells (qC (.slice A1 n1 c1) (.slice A2 n2 c2) (.slice A3 n3 c3) (.slice A4 n4 c4) gen root next (.slice A5 dead.length c5)) 32 (0,0)):=by rw[←hw1];exact(zK _ _ _ (by simp <;> omega)).trans ((zK _ _ _ (by simp <;> omega)).trans ((zK _ _ _ (by simp <;> omega)).trans (zI _ _ _ rfl)))
 have rb1:w1.heap[w.heap.size+1]?=some (.cells VK 32 (0,0)):=by rw[←hw1];exact(zK _ _ _ (by simp <;> omega)).trans ((zK _ _ _ (by simp <;> omega)).trans (zI _ _ _ (by simp)))
 have rc1:w1.heap[w.heap.size+2]?=some (.cells #[.int .u32 0] 29 (0,0)):=by rw[←hw1];exact(zK _ _ _ (by simp <;> omega)).trans (zI _ _ _ (by simp))
 have rd1:w1.heap[w.heap.size+3]?=some (.cells #[.int .i64 0] 36 (0,0)):=by rw[←hw1];exact zI _ _ _ (by simp)
 clear hw1
 refine(HV.out w1 x1).mono ?_
 clear HV
 rintro e w2 ⟨hB,hQ⟩
 have x2:Ext w w2:=Ext.trans x1 hB
 have z2:w.heap.size+3<w2.heap.size:=by have:=Below.size hB;omega
 have ra2:=qb ra1 hB
 have rb2:=qb rb1 hB
 have rc2:=qb rc1 hB
 have rd2:=qb rd1 hB
 clear hB ra1 rb1 rc1 rd1 x1
 have ka2:=qa ra2
 have kb2:=qa rb2
 have kc2:=qa rc2
 have kd2:=qa rd2
 have fb2:=qd rb2
 have fc2:=qd rc2
 have fd2:=qd rd2
 have zd2:w.heap.size+1+1+1<w2.heap.size:=by omega
 have zd0:w.heap.size<w2.heap.size:=by omega
 have zd1:w.heap.size+1<w2.heap.size:=by omega
 have zd3:w.heap.size+1+1<w2.heap.size:=by omega
 rcases hQ with ⟨rfl,hno⟩|⟨vs,refs,nodes,cb,ca,vv,lo,rfl,hlo,hT⟩
 ·have hce:Hid (Tu S root next dead 8):=zH (.inl ⟨rfl,hno⟩)
  clear hno HN
  go_wp2_with fail
  obtain⟨rb3,rc3,rd3,xe,-,-⟩:=Gm (b:=w.heap.size) (v:=.int .i64 8) rb2 rc2 rd2 rfl
  obtain⟨g4,g5,g6,hbl,-,-⟩:=XQ (b:=w.heap.size) rb3 rc3 rd3 rfl
  exact XC (by decide) hce.out rfl rfl rfl g4 g5 g6 (hbl (B:=w.heap.size) (by omega) (xe (zM _) x2))
 ·have hp:=zH hT.pool
  have hc:=zH hT.cnt
  have he:=zH hT.enough
  obtain⟨AV,cV,rfl,-,-⟩:=qv hT.own
  clear hT hlo
  by_cases hl:16≤vs.length
  ·have hce:Hid (Tu S root next dead 9):=zH (.inr ⟨vs,refs,nodes,hp.out,hc.out,he.out,.inl ⟨rfl,.inl hl⟩⟩)
   have d1:decide ((vs.length:Int)≥16)=true:=decide_eq_true (by omega)
   have d2:decide (16≤vs.length)=true:=decide_eq_true hl
   replace hl:=zH hl
   clear HN
   go_wp2_with fail
   obtain⟨rb3,rc3,rd3,xe,-,-⟩:=Gm (b:=w.heap.size) (v:=.int .i64 0) rb2 rc2 rd2 rfl
   obtain⟨g4,g5,g6,hbl,-,-⟩:=XQ (b:=w.heap.size) rb3 rc3 rd3 rfl
   exact XC (by decide) hce.out rfl rfl rfl g4 g5 g6 (hbl (B:=w.heap.size) (by omega) (xe (zM _) x2))
  ·have d1:decide ((vs.length:Int)≥16)=false:=decide_eq_false (by omega)
   have d2:decide (16≤vs.length)=false:=decide_eq_false hl
   replace hl:=zH hl
   by_cases hm:next=4294967295
   ·have hce:Hid (Tu S root next dead 9):=zH (.inr ⟨vs,refs,nodes,hp.out,hc.out,he.out,.inl ⟨rfl,.inr hm⟩⟩)
    have d3:(next == 4294967295)=true:=by rw[beq_iff_eq];exact hm
    have d4:decide (next=4294967295)=true:=decide_eq_true hm
    replace hm:=zH hm
    clear HN
    go_wp2_with fail
    obtain⟨rb3,rc3,rd3,xe,-,-⟩:=Gm (b:=w.heap.size) (v:=.int .i64 0) rb2 rc2 rd2 rfl
    obtain⟨g4,g5,g6,hbl,-,-⟩:=XQ (b:=w.heap.size) rb3 rc3 rd3 rfl
    exact XC (by decide) hce.out rfl rfl rfl g4 g5 g6 (hbl (B:=w.heap.size) (by omega) (xe (zM _) x2))
   ·have d3:(next == 4294967295)=false:=by rw[beq_eq_false_iff_ne];exact hm
    have d4:decide (next=4294967295)=false:=decide_eq_false hm
    replace hm:=zH hm
    have hl16:vs.length<16:=by have:=hl.out;omega
    have hnx:next<4294967295:=by have:=hm.out;omega
    replace hl16:=zH hl16
    replace hnx:=zH hnx
    go_wp2_with fail
    generalize hw3:World.alloc (World.setCell w2 _ _) _=w3
    have rv3:w3.heap[w2.heap.size]?=some (.cells #[.int .u32 next,.int .i64 0,.bool false,.int .u32 0] 40 (0,0)):=by rw[←hw3];exact zI _ _ _ (by simp)
    obtain⟨rb3,rc3,rd3,xe,ze,oe⟩:=Gm (b:=w.heap.size) (v:=.int .i64 0) rb2 rc2 rd2 rfl
    have x3:Ext w w3:=by rw[←hw3];exact(xe (zM _) x2).trans (zN _ _)
    have ha3:=zN (w2.setCell ⟨w.heap.size+1+1+1,0,none⟩ (.int .i64 0)) (.cells #[.int .u32 next,.int .i64 0,.bool false,.int .u32 0] 40)
    rw[hw3] at ha3
    replace rb3:=qb rb3 ha3
    replace rc3:=qb rc3 ha3
    replace rd3:=qb rd3 ha3
    have ra3:=qb ((oe w.heap.size (by omega)).trans ra2) ha3
    clear hw3 xe ze oe ha3 rb2 rc2 rd2 ra2 ka2 kb2 kc2 kd2 fb2 fc2 fd2
    refine(HN.out w3 x3).mono ?_
    clear HN
    rintro e w4 ⟨u,rfl,hM,hB⟩
    have x4:Ext w w4:=x3.trans hB
    have x34:Ext w3 w4:=hB
    have ra4:=qb ra3 hB
    have rb4:=qb rb3 hB
    have rc4:=qb rc3 hB
    have rd4:=qb rd3 hB
    have rv4:=qb rv3 hB
    have ka4:=qa ra4
    have kb4:=qa rb4
    have kc4:=qa rc4
    have kd4:=qa rd4
    have kv4:=qa rv4
    have fa4:=qd ra4
    have fb4:=qd rb4
    have fc4:=qd rc4
    have fd4:=qd rd4
    have fv4:=qd rv4
    have zv3:=(zG.1 rv3).1
    have zv4:=(zG.1 rv4).1
    clear hB ra3 rb3 rc3 rd3 rv3
    rcases hq:Kb S with er|⟨ra,S1⟩
    ·rw[hq] at hM
     obtain rfl:=hM
     have hne:=newE_err hq
     have hce:Hid (Tu S root next dead er):=zH (.inr ⟨vs,refs,nodes,hp.out,hc.out,he.out,.inr (.inl hq)⟩)
     have hnb:(er != 0)=true:=by rw[bne_iff_ne];exact hne
     replace hne:=zH hne
     replace hq:=zH hq
     go_wp2_with fail
     have hs5:=(((((Sets.refl (fun k=>k=w.heap.size∨k=w2.heap.size) w4).set (b:=w.heap.size) 0 (.inl rfl) (.slice none 0 0)).set (b:=w.heap.size) 1 (.inl rfl) (.slice none 0 0)).set (b:=w.heap.size) 2 (.inl rfl) (.slice none 0 0)).set (b:=w.heap.size) 3 (.inl rfl) (.slice none 0 0)).set (b:=w2.heap.size) 1 (.inr rfl) (.int .i64 0)
     obtain⟨rb5,rc5,rd5,xe,-,-⟩:=Gm (b:=w.heap.size) (v:=.int .i64 er) (hs5.row rb4 (by omega)) (hs5.row rc4 (by omega)) (hs5.row rd4 (by omega)) rfl
     obtain⟨g4,g5,g6,hbl,-,-⟩:=XQ (b:=w.heap.size) rb5 rc5 rd5 rfl
     exact XC hne.out hce.out rfl rfl rfl g4 g5 g6 (hbl (B:=w.heap.size) (by omega) (xe (zM _) (hs5.below x4 (by omega))))
    ·rw[hq] at hM
     obtain⟨v,rfl,hT⟩:=hM
     obtain⟨BB,WW,gg,B3,d3,B4,d4,rfl,-⟩:=id hT
     have hns:=zH (vI (hT.newSto (QY (XV hq).2.2.1)))
     have hwn:=hwn0.out hnx.out
     have htr:=zH (new_tree hq)
     have hr8:=(XV hq).2.2.2
     have hq':=zH hq
     clear hT hq
     go_wp2_with fail
     generalize hw5:World.setCell (World.setCell (World.setCell (World.setCell (World.setCell (World.setCell (World.setCell w4 _ _) _ _) _ _) _ _) _ _) _ _) _ _=w5
     obtain⟨ra5,rv5,rb5,rc5,rd5,z5,xe5,o5⟩:=cre_mid (b:=w.heap.size) (vb:=w2.heap.size) ra4 rv4 rb4 rc4 rd4 (by omega) hw5
     have x5:=xe5 (zM _) x4
     have hst5:=(hns.out w5 (Jc fun k h1 h2=>o5 k (by omega) (by omega) (by omega))).more (show w4.heap.size≤w5.heap.size by omega)
     have HS:=zH (Gs (some ⟨BB,0,none⟩) S1.bs.length S1.bs.length (some ⟨WW,0,none⟩) S1.ws.length (S1.ws.length+1) B3 S1.now.length d3 B4 S1.last.length d4 gen root (next+1) A5 c5 S1 dead (newV next ra) (hvok.out ra hr8.1 hr8.2) (fun _ _ _=>htr.out) w5 hst5 (hd.out.ext_ x5))
     clear hw5 xe5 ra4 rb4 rc4 rd4 rv4 ka4 kb4 kc4 kd4 kv4 fa4 fb4 fc4 fd4 fv4 hst5 hns htr
     refine HS.out.mono ?_
     clear HS
     intro e w6 hQS
     obtain⟨hB6,hS6⟩:=hQS.split
     have x6:Ext w w6:=x5.trans hB6
     have rb6:=qb rb5 hB6
     have rc6:=qb rc5 hB6
     have rd6:=qb rd5 hB6
     have rv6:=qb rv5 hB6
     have z56:=hB6.size
     obtain⟨E1,m1,e1,E2,m2,e2,E3,m3,e3,E4,m4,e4,g9,t9,n9,E5,m5,e5,er,rfl,hS7⟩:∃ E1 m1 e1 E2 m2 e2 E3 m3 e3 E4 m4 e4 g9 t9 n9 E5 m5 e5 er,e=.returned (.tuple #[.agg (qC (.slice E1 m1 e1) (.slice E2 m2 e2) (.slice E3 m3 e3) (.slice E4 m4 e4) g9 t9 n9 (.slice E5 m5 e5)),.int .i64 er]) ∧
       ((er≠0∧qC (.slice E1 m1 e1) (.slice E2 m2 e2) (.slice E3 m3 e3) (.slice E4 m4 e4) g9 t9 n9 (.slice E5 m5 e5)=VK∧KF S1 root (next+1) dead (newV next ra) er)∨(er=0∧∃ r S2 vs',Kk S1 root (next+1) dead (newV next ra) r S2 vs'∧jE w5.heap.size S2 gen (r:Int) (next+1) dead (.agg (qC (.slice E1 m1 e1) (.slice E2 m2 e2) (.slice E3 m3 e3) (.slice E4 m4 e4) g9 t9 n9 (.slice E5 m5 e5))) w6)):=by
      rcases hS6 with ⟨er,h0,rfl,hE⟩|⟨r,S2,vs',u,hO,rfl,hN⟩
      ·exact⟨none,0,0,none,0,0,none,0,0,none,0,0,0,0,0,none,0,0,er,rfl,.inl ⟨h0,rfl,hE⟩⟩
      ·obtain⟨E1,e1,E2,e2,E3,e3,E4,e4,E5,e5,rfl,-⟩:=id hN
       exact⟨E1,_,e1,E2,_,e2,E3,_,e3,E4,_,e4,gen,r,next+1,E5,_,e5,0,rfl,.inr ⟨rfl,r,S2,vs',hO,hN⟩⟩
     replace hS7:=zH hS7
     have kb6:=qa rb6
     have fb6:=qd rb6
     have zb6:=(zG.1 rb6).1
     have kd6:=qa rd6
     have fd6:=qd rd6
     have zd6:w.heap.size+1+1+1<w6.heap.size:=(zG.1 rd6).1
     clear hQS hS6 ra5 rb5 rc5 rd5 rv5
     go_upto_region 13 with fail
     generalize hw7:World.setCell (World.setCell (World.setCell (World.setCell (World.setCell (World.setCell (World.setCell (World.setCell (World.setCell w6 _ _) _ _) _ _) _ _) _ _) _ _) _ _) _ _) _ _=w7
     have x7:Ext w w7:=by rw[←hw7];exact Below.setCell (QV x6 (b:=w.heap.size+1) (by omega) _ _ _ _ _ _ _ _) (p:=⟨w.heap.size+1+1+1,0,none⟩) (by simp;omega) _
     have z7:w7.heap.size=w6.heap.size:=by rw[←hw7];simp
     have hs:=fun (A:World) (b j:Nat) (v:Value) (k:Nat) (hk:k≠b)=>zJ A ⟨b,j,none⟩ v k hk
     have rb7:w7.heap[w.heap.size+1]?=some (.cells (qC (.slice E1 m1 e1) (.slice E2 m2 e2) (.slice E3 m3 e3) (.slice E4 m4 e4) g9 t9 n9 (.slice E5 m5 e5)) 32 (0,0)):=by rw[←hw7,hs _ _ _ _ _ (by omega)];exact jj rb6 _ _ _ _ _ _ _ _
     have o7:∀ k,k≠w.heap.size+1→k≠w.heap.size+3→w7.heap[k]?=w6.heap[k]?:=fun k h1 h2=>by rw[←hw7,hs _ _ _ _ _ (by omega),ja h1]
     have rc7:=(o7 (w.heap.size+2) (by omega) (by omega)).trans rc6
     have rv7:=(o7 w2.heap.size (by omega) (by omega)).trans rv6
     have rd7:w7.heap[w.heap.size+3]?=some (.cells #[.int .i64 er] 36 (0,0)):=by rw[←hw7];exact qi (t:=36) (cs:=#[.int .i64 0]) (by rw[ja (by omega)];exact rd6) 0 _
     clear hw7 kb6 fb6 kd6 fd6 rb6 rc6 rd6 rv6 hs
     have gO:∀ W,ql.r w7 W→∀ i,W.cell? ⟨w.heap.size+1,i,none⟩=(qC (.slice E1 m1 e1) (.slice E2 m2 e2) (.slice E3 m3 e3) (.slice E4 m4 e4) g9 t9 n9 (.slice E5 m5 e5))[i]?:=fun W h=>qa (qb rb7 h)
     have gV:∀ W,ql.r w7 W→∀ i,W.cell? ⟨w2.heap.size,i,none⟩=#[.int .u32 next,.int .i64 (ra:Int),.bool false,.int .u32 0][i]?:=fun W h=>qa (qb rv7 h)
     have gE:∀ W,ql.r w7 W→∀ i,W.cell? ⟨w.heap.size+1+1+1,i,none⟩=#[.int .i64 er][i]?:=fun W h=>qa (qb rd7 h)
     refine qo (by kernel_rfl) ?_
     refine qhx (w:=w7) ql (qF [(4,Zu)]) (List.replicate 5 true) 2 (by kernel_rfl) (by kernel_rfl) (by kernel_rfl) (by kernel_rfl) (by kernel_rfl) (by kernel_rfl) (by kernel_rfl) ?st (Rel.drew _ _) ?walk
     case st=>exact qk (by simp only[List.forall_mem_cons];exact⟨Zh,fun _ h=>by cases h⟩)
     case walk =>
      intro K hK
      dsimp only[qp,List.replicate]
      repeat ((first|(refine qe ?_ (by rfl) (by rfl) (fun W hW _=>⟨W,?_,Rel.refl _ W⟩) ?_;rotate_left;(go_simp<;>with_reducible rfl))|(refine qh (by rfl) ?_));try simp only[Act.put,qj,qf,qc,qg,Qc,zA,zB,zC])
      refine qy Zu (by rfl) (by rfl) (fun W hW _=>?_) (fun (p:Unit)=>?_)
      ·have hW:Ext w7 W:=hW
       have r8:=qb rb7 hW
       have k8:=qa r8
       have f8:=qd r8
       have z8:=(zG.1 r8).1
       refine jq ?_ (same8 r8)
       clear gO gV gE
       go_simp
      simp only[Act.put,qj,qf,qc,qg,Qc,zA,zB,zC]
      repeat ((first|(refine qe ?_ (by rfl) (by rfl) (fun W hW _=>⟨W,?_,Rel.refl _ W⟩) ?_;rotate_left;(go_simp<;>with_reducible rfl))|(refine qh (by rfl) ?_));try simp only[Act.put,qj,qf,qc,qg,Qc,zA,zB,zC])
      refine qt (hK _ _ fun W hW hF=>?_)
      clear hF hK gO gV gE
      have hW:Ext w7 W:=hW
      dsimp only[List.drop,List.length_cons,List.length_nil,Nat.reduceAdd,Nat.reduceSub]
      have x8:Ext w W:=x7.trans hW
      have z78:=hW.size
      have rb8:=qb rb7 hW
      have rc8:=qb rc7 hW
      have rd8:=qb rd7 hW
      have kc8:=qa rc8
      have fc8:=qd rc8
      have kd8:=qa rd8
      have fd8:=qd rd8
      have zc8:w.heap.size+1+1<W.heap.size:=(zG.1 rc8).1
      have zd8:w.heap.size+1+1+1<W.heap.size:=(zG.1 rd8).1
      have o8:∀ k,k<w6.heap.size→k≠w.heap.size+1→k≠w.heap.size+3→W.heap[k]?=w6.heap[k]?:=fun k h0 h1 h2=>(Below.block hW k (by omega)).trans (o7 k h1 h2)
      replace o8:=zH o8
      clear hW o7 rb7 rc7 rd7 rv7
      go_wp2
      refine Qm ?_
      go_wp2_with fail
      generalize hwf:World.setCell (World.setCell W _ _) _ _=Wf
      obtain⟨rcf,rdf,hbf,zf,hof⟩:=two_rows (b:=w.heap.size) rc8 rd8 hwf
      have rbf:=(hof (w.heap.size+1) (by omega) (by omega)).trans rb8
      have yf:=hbf (B:=w.heap.size) (by omega) x8
      clear hwf
      have hk6:∀ k,w5.heap.size≤k→k<w6.heap.size→Wf.heap[k]?=w6.heap[k]?:=fun k h1 h2=>(hof k (by omega) (by omega)).trans (o8.out k h2 (by omega) (by omega))
      have zWf:Wf.heap.size=W.heap.size:=zf
      rcases hS7.out with ⟨h0,hz,hE⟩|⟨rfl,r,S2,vs',hO,hN⟩
      ·rw[hz] at rbf
       exact XC h0 (.inr ⟨vs,refs,nodes,hp.out,hc.out,he.out,.inr (.inr ⟨ra,S1,hq'.out,.inl hE⟩)⟩) rfl rfl rfl rbf rcf rdf yf
      ·have hN2:jE w.heap.size S2 gen (r:Int) (next+1) dead (.agg (qC (.slice E1 m1 e1) (.slice E2 m2 e2) (.slice E3 m3 e3) (.slice E4 m4 e4) g9 t9 n9 (.slice E5 m5 e5))) Wf:=hN.keep x5.size (by omega) hk6
       obtain⟨F1,f1,F2,f2,F3,f3,F4,f4,F5,f5,ee,hst,hin⟩:=hN2.sto
       simp only[qC,Value.agg.injEq,Array.mk.injEq,List.cons.injEq,Value.slice.injEq,Value.int.injEq,true_and,and_true] at ee
       obtain⟨⟨rfl,rfl,rfl⟩,⟨rfl,rfl,rfl⟩,⟨rfl,rfl,rfl⟩,⟨rfl,rfl,rfl⟩,rfl,rfl,rfl,rfl,rfl,rfl⟩:=ee
       refine qdC _ _ _ _ _ _ _ _ _ _ _ _ _ _ _ _ _ 0 S2 rfl rfl rfl rbf rcf rdf (fun _=>hst) (fun _ hE W' hT=>?_) (fun e' W' h0 hE hT=>?_)
       ·exact⟨hT.below yf (by omega) (by omega) (by omega) (by omega),.inr ⟨vs,refs,nodes,ra,S1,r,S2,vs',_,hp.out,hc.out,he.out,hl16.out,hnx.out,hq'.out,hO,hE,rfl,hN.keep x5.size (by have:=hT.size;omega) fun k h1 h2=>(hT.same k (by omega) (by omega) (by omega) (by omega)).trans (hk6 k h1 h2)⟩⟩
       ·refine⟨hT.below yf (by omega) (by omega) (by omega) (by omega),.inl ⟨e',h0,rfl,.inr ⟨vs,refs,nodes,hp.out,hc.out,he.out,.inr (.inr ⟨ra,S1,hq'.out,.inr ⟨r,S2,vs',hO,?_⟩⟩)⟩⟩⟩
        rcases hE with ⟨_,h⟩|⟨h,_⟩
        ·exact h.symm
        ·exact absurd rfl h
def okOf {α:Type} (q:Except Int (Nat×α)) (d:α):α:=match q with
 | .ok (_,x)=>x
 | .error _=>d
def st1:Sto:=okOf (Kb qH) qH
def vol1:Vol:=⟨1,9,false,0⟩
def st2:Sto:=okOf (setE st1 8 vol1) st1
theorem zF.not {S:Sto} {root next:Int} {dead:List Int} {vs:List Vol} {met refs:List Nat} (hb:zF S root next dead) (h:Ko S root next dead=some (vs,met,refs)):False:=by
 obtain⟨h1,h2,h3⟩:=JT h
 obtain⟨refs',nodes',hc,hn⟩:=hb vs h1
 obtain⟨_,e⟩:=jl.same hc.mkd h2.mkd
 subst e
 exact hn h3
theorem Zn.nil_ (w:World) (B:Nat):Zn w B (.slice none 0 0) []:=⟨none,0,rfl,zM _,by simp[maxLen],Rd.none_⟩
section
variable {S:Sto} {gen root next:Int} {dead:List Int}
def setC (S:Sto) (root next:Int) (dead:List Int) (v:Vol):Option (Nat×Sto×List Vol):=match Ko S root next dead with
 |none=>none
 |some (vs,_,refs)=>if ZK S next v vs (fun b=>refs.count b)=0 then match setE S root v with
   | .error _=>none
   | .ok (r,S')=>match Ko S' (r:Int) next dead with
    |none=>none
    |some (vs',_,_)=>some (r,S',vs')
  else none
theorem qhk {v:Vol} {r:Nat} {S':Sto} {vs':List Vol} (h:setC S root next dead v=some (r,S',vs')):∃ vs met refs met' refs',Ko S root next dead=some (vs,met,refs)∧ZK S next v vs (fun b=>refs.count b)=0∧setE S root v=.ok (r,S')∧Ko S' (r:Int) next dead=some (vs',met',refs'):=by
 unfold setC at h
 split at h
 ·cases h
 ·rename_i vs met refs hp
  split at h
  ·rename_i hf
   split at h
   ·cases h
   ·rename_i r1 S1 he
    split at h
    ·cases h
    ·rename_i vs1 met1 refs1 hp1
     cases h
     exact⟨vs,met,refs,met1,refs1,hp,hf,he,hp1⟩
  ·cases h
theorem qab {v:Vol} {r:Nat} {S':Sto} {vs':List Vol} (h:setC S root next dead v=some (r,S',vs')) {er:Int} (hne:er≠0) (hE:KF S root next dead v er):False:=by
 obtain⟨vs,met,refs,met',refs',hp,hf,he,hp'⟩:=qhk h
 obtain⟨h1,h2,h3⟩:=JT hp
 rcases hE with ⟨_,hb⟩|⟨vs1,refs1,nodes1,k1,k2,k3,hE⟩
 ·exact hb.not hp
 ·obtain⟨rfl,rfl,-⟩:=Ql.unique h1 h2 k1 k2
  rcases hE with e|⟨_,e|⟨_,r2,S2,e,hb⟩⟩
  ·rw[hf] at e;exact hne e.symm
  ·rw[he] at e;cases e
  ·rw[he] at e
   cases e
   exact hb.not hp'
theorem Yv {v:Vol} {r r1:Nat} {S' S1:Sto} {vs' vs1:List Vol} (h:setC S root next dead v=some (r,S',vs')) (hO:Kk S root next dead v r1 S1 vs1):r1=r∧S1=S'∧vs1=vs':=by
 obtain⟨vs,met,refs,met',refs',hp,hf,he,hp'⟩:=qhk h
 obtain⟨_,_,_,_,_,_,_,e,refs9,nodes9,k1,k2,_⟩:=hO
 rw[he] at e
 cases e
 obtain⟨h1,h2,h3⟩:=JT hp'
 obtain⟨rfl,_,_⟩:=Ql.unique h1 h2 k1 k2
 exact⟨rfl,rfl,rfl⟩
def UR (S:Sto) (root next:Int) (dead:List Int):Option (Nat×Sto):=match Ko S root next dead with
 |none=>none
 |some (vs,_,_)=>if vs.length<16∧next<4294967295 then match Kb S with
   | .error _=>none
   | .ok (ra,S1)=>match setC S1 root (next+1) dead (newV next ra) with
    |none=>none
    |some (r,S2,_)=>if za S2=0 then some (r,S2) else none
  else none
theorem qfl {r:Nat} {S2:Sto} (h:UR S root next dead=some (r,S2)) {w w':World} {e:Ending} (hQ:CreQ S gen root next dead w e w'):Below w.heap.size w w'∧∃ u,e=.returned (.tuple #[u,.int .u32 next,.int .i64 0])∧jE w.heap.size S2 gen (r:Int) (next+1) dead u w':=by
 unfold UR at h
 split at h
 ·cases h
 ·rename_i vs met refs hp
  split at h
  ·rename_i hl
   split at h
   ·cases h
   ·rename_i ra S1 hn
    split at h
    ·cases h
    ·rename_i r1 S3 vs3 hs
     split at h
     ·rename_i hr
      cases h
      obtain⟨h1,h2,h3⟩:=JT hp
      refine⟨hQ.1,?_⟩
      rcases hQ.2 with ⟨er,hne,_,hE⟩|⟨vs1,refs1,nodes1,ra1,T1,r9,T2,vs9,u,k1,k2,k3,k4,k5,k6,k7,k8,rfl,k9⟩
      ·exfalso
       rcases hE with ⟨_,hb⟩|⟨vs1,refs1,nodes1,k1,k2,k3,hE⟩
       ·exact hb.not hp
       ·obtain⟨rfl,rfl,-⟩:=Ql.unique h1 h2 k1 k2
        rcases hE with ⟨_,e|e⟩|e|⟨ra1,T1,e,hE⟩
        ·omega
        ·omega
        ·rw[hn] at e;cases e
        ·rw[hn] at e
         cases e
         rcases hE with hE|⟨r9,T2,vs9,hO,e⟩
         ·exact qab hs hne hE
         ·obtain⟨rfl,rfl,rfl⟩:=Yv hs hO
          exact hne (e.symm.trans hr)
      ·rw[hn] at k6
       cases k6
       obtain⟨rfl,rfl,rfl⟩:=Yv hs k7
       exact⟨u,rfl,k9⟩
     ·cases h
  ·cases h
def qhd (S:Sto) (id:Int) (x:It) (vs:List Vol):Bool:=match zm vs id with
 |none=>true
 |some v=>match UL (Qv S v.root) v.root.toNat x with
  | .error _=>true
  | .ok (r2,S2)=>okL S2 (-1) (r2:Int)
def GT (S:Sto) (root next:Int) (dead:List Int) (id:Int) (x:It):Bool:=match Ko S root next dead with
 |none=>false
 |some (vs,_,_)=>qhd S id x vs
theorem qeq {id:Int} {x:It} (h:GT S root next dead id x=true):∀ vs v,Ql S root next dead vs→zm vs id=some v→QB S v.root=0→∀ r2 S2,UL (Qv S v.root) v.root.toNat x=.ok (r2,S2)→okL S2 (-1) (r2:Int)=true:=fun vs v hp hv _ r2 S2 hq=>by
 unfold GT at h
 split at h
 ·cases h
 ·rename_i vs1 met refs hp1
  obtain⟨h1,_,_⟩:=JT hp1
  obtain rfl:=Ql.same h1 hp
  unfold qhd at h
  rw[hv] at h
  simp only[hq] at h
  exact h
def vputC (S:Sto) (root next:Int) (dead:List Int) (id:Int) (x:It):Option (Nat×Sto):=match Ko S root next dead with
 |none=>none
 |some (vs,_,_)=>match zm vs id with
  |none=>none
  |some v=>if v.fz=false∧itB x.r x.val.length=true∧x.r=0∧QB S v.root=0 then match UL (Qv S v.root) v.root.toNat x with
    | .error _=>none
    | .ok (r2,S2)=>match setC S2 root next dead (Uv v r2) with
     |none=>none
     |some (r3,S3,_)=>match jQ S3 v.root with
      | .error _=>none
      | .ok S4=>if za S4=0 then some (r3,S4) else none
   else none
theorem vputC_ok {id:Int} {x:It} {r:Nat} {S4:Sto} (h:vputC S root next dead id x=some (r,S4)) {w w':World} {e:Ending} (hQ:VPutQ S gen root next dead id x w e w'):Below w.heap.size w w'∧∃ u,e=.returned (.tuple #[u,.int .i64 0])∧jE w.heap.size S4 gen (r:Int) next dead u w':=by
 unfold vputC at h
 split at h
 ·cases h
 ·rename_i vs met refs hp
  split at h
  ·cases h
  ·rename_i v hv
   split at h
   ·rename_i hc
    obtain⟨c1,c2,c3,c4⟩:=hc
    split at h
    ·cases h
    ·rename_i r2 S2 hq
     split at h
     ·cases h
     ·rename_i r3 S3 vs3 hs
      split at h
      ·cases h
      ·rename_i S5 hl
       split at h
       ·rename_i hr
        cases h
        obtain⟨h1,h2,h3⟩:=JT hp
        refine⟨hQ.1,?_⟩
        rcases hQ.2 with ⟨er,hne,_,hE⟩|⟨r9,T4,u,⟨vs1,refs1,nodes1,v1,k1,k2,k3,k4,k5,k6,k7,q2,T2,T3,vs9,k8,k9,k10,k11,k12⟩,rfl,k13⟩
        ·exfalso
         rcases hE with ⟨_,hb⟩|⟨vs1,refs1,nodes1,k1,k2,k3,hE⟩
         ·exact hb.not hp
         ·obtain⟨rfl,rfl,-⟩:=Ql.unique h1 h2 k1 k2
          rcases hE with ⟨_,e⟩|⟨v1,e,hE⟩
          ·rw[hv] at e;cases e
          ·rw[hv] at e
           cases e
           rcases hE with ⟨_,e⟩|⟨_,hE⟩
           ·rw[c1] at e;cases e
           ·rcases hE with ⟨_,e⟩|⟨_,hE⟩
            ·rw[c2] at e;cases e
            ·rcases hE with ⟨_,e,_⟩|⟨_,hE⟩
             ·exact e c3
             ·rcases hE with e|⟨_,e|⟨q2,T2,e,hE⟩⟩
              ·exact hne (e.symm.trans c4)
              ·rw[hq] at e;cases e
              ·rw[hq] at e
               cases e
               rcases hE with hE|⟨r9,T3,vs9,hO,hE⟩
               ·exact qab hs hne hE
               ·obtain⟨rfl,rfl,rfl⟩:=Yv hs hO
                rcases hE with e|⟨T4,e,e2⟩
                ·rw[hl] at e;cases e
                ·rw[hl] at e
                 cases e
                 exact hne (e2.symm.trans hr)
        ·obtain⟨rfl,rfl,-⟩:=Ql.unique h1 h2 k1 k2
         rw[hv] at k4
         cases k4
         rw[hq] at k9
         cases k9
         obtain⟨rfl,rfl,rfl⟩:=Yv hs k10
         rw[hl] at k11
         cases k11
         exact⟨u,rfl,k13⟩
       ·cases h
   ·cases h
def snapC (S:Sto) (root next:Int) (dead:List Int) (id:Int) (fz:Bool):Option (Nat×Sto):=match Ko S root next dead with
 |none=>none
 |some (vs,_,_)=>match zm vs id with
  |none=>none
  |some v=>if vs.length<16∧next<4294967295∧QB S v.root=0 then match setC (Qv S v.root) root (next+1) dead (qeE next v fz id) with
    |none=>none
    |some (r,S',_)=>if za S'=0 then some (r,S') else none
   else none
theorem snapC_ok {id:Int} {fz:Bool} {r:Nat} {S':Sto} (h:snapC S root next dead id fz=some (r,S')) {w w':World} {e:Ending} (hQ:SnapQ S gen root next dead id fz w e w'):Below w.heap.size w w'∧∃ u,e=.returned (.tuple #[u,.int .u32 next,.int .i64 0])∧jE w.heap.size S' gen (r:Int) (next+1) dead u w':=by
 unfold snapC at h
 split at h
 ·cases h
 ·rename_i vs met refs hp
  split at h
  ·cases h
  ·rename_i v hv
   split at h
   ·rename_i hc
    obtain⟨c1,c2,c3⟩:=hc
    split at h
    ·cases h
    ·rename_i r1 S1 vs1 hs
     split at h
     ·rename_i hr
      cases h
      obtain⟨h1,h2,h3⟩:=JT hp
      refine⟨hQ.1,?_⟩
      rcases hQ.2 with ⟨er,hne,_,hE⟩|⟨r9,T,u,⟨vs1,refs1,nodes1,v1,vs9,k1,k2,k3,k4,k5,k6,k7,k8,k9⟩,rfl,k10⟩
      ·exfalso
       rcases hE with ⟨_,hb⟩|⟨vs1,refs1,nodes1,k1,k2,k3,hE⟩
       ·exact hb.not hp
       ·obtain⟨rfl,rfl,-⟩:=Ql.unique h1 h2 k1 k2
        rcases hE with ⟨_,e⟩|⟨v1,e,hE⟩
        ·rw[hv] at e;cases e
        ·rw[hv] at e
         cases e
         rcases hE with ⟨_,e|e⟩|e|⟨_,hE|⟨r9,T,vs9,hO,_,e⟩⟩
         ·omega
         ·omega
         ·exact hne (e.symm.trans c3)
         ·exact qab hs hne hE
         ·obtain⟨rfl,rfl,rfl⟩:=Yv hs hO
          exact e hr
      ·obtain⟨rfl,rfl,-⟩:=Ql.unique h1 h2 k1 k2
       rw[hv] at k4
       cases k4
       obtain⟨rfl,rfl,rfl⟩:=Yv hs k8
       exact⟨u,rfl,k10⟩
     ·cases h
   ·cases h
end
def cS (o:Option (Nat×Sto)):Sto:=match o with
 |some (_,S)=>S
 |none=>qH
def cIs (o:Option (Nat×Sto)) (r:Nat):Bool:=match o with
 |some (n,_)=>decide (n=r)
 |none=>false
theorem Gi {o:Option (Nat×Sto)} {r:Nat} (h:cIs o r=true):o=some (r,cS o):=by
 rcases o with _|⟨n,S⟩
 ·cases h
 ·simp only[cIs,decide_eq_true_eq] at h
  subst h
  rfl
def x7:It:=⟨2,0,0,0,[7]⟩
def t1:Sto:=cS (UR qH 8 1 [])
theorem t1_cre:UR qH 8 1 []=some (10,t1):=Gi (by decide +kernel)
def t2:Sto:=cS (vputC t1 10 2 [] 1 x7)
theorem t2_put:vputC t1 10 2 [] 1 x7=some (11,t2):=Gi (by decide +kernel)
theorem t2_tree:GT t1 10 2 [] 1 x7=true:=by decide +kernel
def t3:Sto:=cS (snapC t2 11 2 [] 1 true)
theorem t3_snap:snapC t2 11 2 [] 1 true=some (9,t3):=Gi (by decide +kernel)
def va:Vol:=⟨1,8,false,0⟩
def vb:Vol:=⟨2,8,true,1⟩
theorem qho:Ko t3 9 3 []=some ([va,vb],[8,9],[9,8,8]):=by decide +kernel
theorem t3_find:qbi t3 8 (2,0,0)=some x7:=by decide +kernel
theorem t3_item {w w':World} {e:Ending} (h:VFindQ t3 9 3 [] 2 (2,0,0) w e w'):∃ u,e=.returned u∧qcW w.heap.size (some x7) u w':=by
 obtain⟨h1,h2,h3⟩:=JT qho
 have hv:zm [va,vb] 2=some vb:=rfl
 rcases h.2 with ⟨_,hb⟩|⟨vs,u,⟨refs,nodes,hp,hc,_⟩,rfl,hm⟩
 ·exact(zF.not hb qho).elim
 ·obtain⟨rfl,-,-⟩:=Ql.unique h1 h2 hp hc
  rw[hv] at hm
  simp only at hm
  have e8:vb.root=8:=rfl
  rw[e8,t3_find] at hm
  exact⟨u,rfl,hm⟩
theorem qgx {R:Ending→World→Prop} {a:Act} {W:World} {b:Nat} {x0 x1 x2 x3 x4 x5 x6 x7 v:Value} (h4:a.tmps[0]?.getD undef=.pointer (some ⟨b,0,none⟩)) (h5:a.tmps[1]?.getD undef=v) (hd:a.defers=[])
  (hrow:W.heap[b]?=some (.cells #[x0,x1,x2,x3,x4,x5,x6,x7] 32 (0,0))) (hR:R (.returned (.tuple #[.agg #[x0,x1,x2,x3,x4,x5,x6,x7],v])) W):bodyPost Tryz.prog Tryz.f30 R .ret a W:=by
 refine bodyPost_ret (v:=.tuple #[.agg #[x0,x1,x2,x3,x4,x5,x6,x7],v]) ?_ hd hR
 have k:=qa hrow
 simp[results,Tryz.results30,go_sem,h4,h5,k]
set_option maxRecDepth 100000 in
theorem qgw (w:World):Calls Tryz.prog 30 #[] w (zo (fun u W=>∃ v,u=.tuple #[v,.bool true]∧jE w.heap.size t2 0 11 2 [] v W) w):=by
 go_enter Tryz.func30,Tryz.ntmps30
 go_wp2_with fail
 generalize hw1:World.alloc _ _=w1
 have x1:Ext w w1:=by rw[←hw1];exact zN _ _
 have q1:w1.heap[w.heap.size]?=some (.cells (qC (.slice none 0 0) (.slice none 0 0) (.slice none 0 0) (.slice none 0 0) 0 0 0 (.slice none 0 0)) 32 (0,0)):=by rw[←hw1];exact zI _ _ _ (by simp)
 clear hw1
 refine(fnew_any w1).mono ?_
 rintro e w2 ⟨u,rfl,hp,hB⟩
 have x12:Ext w1 w2:=hB
 have x2:Ext w w2:=x1.trans x12
 have q2:=qb q1 x12
 obtain⟨A1,c1,A2,c2,A3,c3,A4,c4,rfl,hS⟩:=hp.sto
 obtain⟨l1,l2,l3,l4⟩:=KK
 have HC:=zH (fun W (hx:Ext w2 W)=>qeL A1 256 c1 A2 1 c2 A3 256 c3 A4 256 c4 0 8 1 none 0 qH [] (by decide) (by decide) W (hS.ext hx) (Zn.nil_ _ _))
 clear hS hp l1 l2 l3 l4 hB x1 q1 x12
 go_wp2_with fail
 refine(HC.out w2 (Ext.refl _)).mono ?_
 clear HC
 intro e w3 hq
 obtain⟨hB,u,rfl,hN⟩:=qfl t1_cre hq
 have x23:Ext w2 w3:=hB
 have x3:Ext w w3:=x2.trans x23
 have q3:=qb q2 x23
 obtain⟨A1',c1',A2',c2',A3',c3',A4',c4',A5,c5,rfl,hS,hI⟩:=hN.sto
 clear hN hq hB q2 x2 x23
 go_wp2_with fail
 generalize hw4:World.alloc w3 _=w4
 have x34:Ext w3 w4:=by rw[←hw4];exact zN _ _
 have p4:w4.heap[w3.heap.size]?=some (.cells (qC (.slice A1' t1.bs.length c1') (.slice A2' t1.ws.length c2') (.slice A3' t1.now.length c3') (.slice A4' t1.last.length c4') 0 10 2 (.slice A5 0 c5)) 32 (0,0)):=by rw[←hw4];exact zI _ _ _ (by simp)
 have q4:=qb q3 x34
 have k4:=qa p4
 have z4:w4.heap.size=w3.heap.size+1:=by rw[←hw4];simp
 clear hw4 q3
 go_wp2_with fail
 generalize hw5:World.alloc w4 _=w5
 have x45:Ext w4 w5:=by rw[←hw5];exact zN _ _
 have x35:Ext w3 w5:=x34.trans x45
 have hby:Bys w5 w5.heap.size (.slice (some ⟨w3.heap.size+1,0,none⟩) 1 1) x7.val:=by
  rw[←hw5,←z4];exact Bys.new w4 5 [7]
 clear hw5 x34 z4 k4
 have HP:=vput_any A1' _ c1' A2' _ c2' A3' _ c3' A4' _ c4' 0 10 2 A5 c5 t1 [] 1 x7 (by refine⟨⟨?_,?_⟩,⟨?_,?_⟩,⟨?_,?_⟩,⟨?_,?_⟩,?_⟩ <;> decide) (some ⟨w3.heap.size+1,0,none⟩) 1 (qeq t2_tree) w5 (hS.ext x35) (hI.ext_ x35) hby
 refine HP.mono ?_
 clear HP
 intro e w6 hq
 obtain⟨hB,u,rfl,hN⟩:=vputC_ok t2_put hq
 have q5:=qb q4 x45
 have q6:=qb q5 hB
 have x5:Ext w w5:=x3.trans x35
 have x6:Ext w w6:=x5.trans hB
 obtain⟨E1,m1,E2,m2,E3,m3,E4,m4,E5,m5,rfl,-⟩:=id hN
 have kq:=qa q6
 have fq:=qd q6
 have zq:=(zG.1 q6).1
 have z56:=hB.size
 have z05:=x5.size
 have z15:=(zG.1 q5).1
 replace hN:=zH hN
 clear hq hB q5 q4 p4 hS hI hby x3 x35 x45
 go_wp2_with fail
 refine qgx (b:=w.heap.size) rfl rfl rfl (qb (jj q6 _ _ _ _ _ _ _ _) (zN _ _)) ⟨_,rfl,⟨_,rfl,jE.keep hN.out z05 (by simp) fun k h1 h2=>?_⟩,Below.alloc (QV x6 (zM _) _ _ _ _ _ _ _ _) (by have:=x6.size;simpa using this) _⟩
 exact(zK _ _ _ (by simpa using h2)).trans (ja (by omega) _ _ _ _ _ _ _ _)
theorem qdf {R:Ending→World→Prop} {a:Act} {W:World} {v:Value} (h0:a.tmps[0]?.getD undef=v) (hd:a.defers=[]) (hR:R (.returned v) W):bodyPost Tryz.prog Tryz.f27 R .ret a W:=by
 refine bodyPost_ret (v:=v) ?_ hd hR
 simp[results,Tryz.results27,go_sem,h0]
set_option maxRecDepth 100000 in
theorem qde (w:World):Calls Tryz.prog 27 #[] w (Ret (.bool true) w):=by
 go_enter Tryz.func27,Tryz.ntmps27
 go_wp2_with fail
 refine(qgw w).mono ?_
 rintro e w1 ⟨u,rfl,⟨v,rfl,hN⟩,hB⟩
 have x1:Ext w w1:=hB
 obtain⟨A1,c1,A2,c2,A3,c3,A4,c4,A5,c5,rfl,hS,hI⟩:=hN.sto
 have HS:=zH (fun W (hx:Ext w1 W)=>qbL A1 _ c1 A2 _ c2 A3 _ c3 A4 _ c4 0 11 2 A5 c5 t2 [] 1 true (by decide) (by decide) W (hS.ext hx) (hI.ext_ hx))
 clear hS hI hN hB
 go_wp2_with fail
 generalize hw2:World.alloc w1 _=w2
 have x12:Ext w1 w2:=by rw[←hw2];exact zN _ _
 clear hw2
 refine(HS.out w2 x12).mono ?_
 clear HS
 intro e w3 hq
 obtain⟨hB,u,rfl,hN⟩:=snapC_ok t3_snap hq
 have x3:Ext w w3:=(x1.trans x12).trans hB
 obtain⟨B1,d1,B2,d2,B3,d3,B4,d4,B5,d5,rfl,hS,hI⟩:=hN.sto
 have HF:=zH (fun W (hx:Ext w3 W)=>qix B1 _ d1 B2 _ d2 B3 _ d3 B4 _ d4 0 9 3 B5 d5 t3 [] 2 2 0 0 W (hS.ext hx) (hI.ext_ hx))
 clear hS hI hN hB hq x1 x12
 go_wp2_with fail
 generalize hw4:World.alloc w3 _=w4
 have x34:Ext w3 w4:=by rw[←hw4];exact zN _ _
 clear hw4
 refine(HF.out w4 x34).mono ?_
 clear HF
 intro e w5 hq
 have x5:Ext w w5:=(x3.trans x34).trans hq.1
 obtain⟨u,rfl,A,c,rfl,hby,-⟩:=t3_item hq
 clear hq x3 x34
 have hbs:bstr x7.val=⟨#[7]⟩:=rfl
 have hv:∀ o,(convert 26 9 (.slice A 1 c)).run Tryz.prog (w5.alloc o)=.ok (.string ⟨#[7]⟩) (w5.alloc o):=fun o=>by
  have h0:=vj (P:=Tryz.prog) (hby.below (zN w5 o)) 26 9 5 Tryz.underlying26 Tryz.underlying5 Tryz.underlying9
  rw[hbs] at h0
  exact h0
 have hi:qfD x7 A c=#[.int .u8 2,.int .u32 0,.int .u32 0,.int .i64 0,.slice A 1 c]:=rfl
 rw[hi]
 clear hby hi hbs
 go_wp2_with fail
 exact qdf rfl rfl ⟨rfl,x5.trans (zN _ _)⟩
def Jm (ls:List (List UInt8)):Nat:=(ls.map fun l=>min l.length 1000000).sum
theorem qai {ls:List (List UInt8)} {k:Nat} (h:k<ls.length):Jm (ls.take (k+1))=Jm (ls.take k)+min ls[k].length 1000000:=by
 unfold Jm
 rw[List.take_succ_eq_append_getElem h,List.map_append,List.sum_append]
 simp
theorem sizeL_le (ls:List (List UInt8)):Jm ls≤ls.length*1000000:=by
 induction ls with
 |nil=>simp[Jm]
 |cons l r ih=>simp only[Jm,List.map_cons,List.sum_cons,List.length_cons] at ih ⊢;omega
theorem YN {ls:List (List UInt8)} {n:Nat} (h:ls.length≤n) (k:Nat):Jm (ls.take k)≤n*1000000:=by
 have h1:=sizeL_le (ls.take k)
 have h2:(ls.take k).length≤n:=by rw[List.length_take];omega
 have h3:(ls.take k).length*1000000≤n*1000000:=Nat.mul_le_mul_right _ h2
 exact Nat.le_trans h1 h3
theorem qbJ {ls:List (List UInt8)} (h:Jm ls≤800000):∀ l∈ls,l.length≤800000:=by
 induction ls with
 |nil=>intro l hl;cases hl
 |cons x r ih =>
  intro l hl
  simp only[Jm,List.map_cons,List.sum_cons] at h ih
  rcases List.mem_cons.1 hl with rfl|hl
  ·omega
  ·exact ih (by omega) l hl
def qbo (n m:Nat):Bool:=decide (300<n∨5000<m∨(600<m∧m<4096))
def kO (bs:List (List UInt8)) (ws:List (Int×List UInt8)):Bool:=qbo bs.length ws.length || decide (800000<Jm bs+Jm (ws.map (·.2)))
set_option maxRecDepth 100000 in
theorem qfw (A1:Option Addr) (n1 c1:Nat) (A2:Option Addr) (n2 c2:Nat) (bs:List (List UInt8)) (ws:List (Int×List UInt8)) (w:World) (hb:Bls w w.heap.size (.slice A1 n1 c1) bs) (hw:Wrs w w.heap.size (.slice A2 n2 c2) ws) :
  Calls Tryz.prog 83 #[KJ A1 n1 c1 A2 n2 c2] w (Ret (.bool (kO bs ws)) w):=by
 obtain⟨e1,hc1,hm1,hA1⟩:=hb.at_
 obtain⟨e2,hc2,hm2,hA2⟩:=hw.at_
 subst e1
 subst e2
 by_cases hh:qbo bs.length ws.length=true
 case pos =>
  have hM:kO bs ws=true:=by unfold kO;rw[hh];rfl
  rw[hM]
  have hh':300<bs.length∨5000<ws.length∨(600<ws.length∧ws.length<4096):=by simpa [qbo] using hh
  clear hM hb hw hA1 hA2 hh
  generalize bs.length=n1 at *
  generalize ws.length=n2 at *
  go_enter Tryz.func83,Tryz.ntmps83
  go_wp2
  all_goals try simp only[beq_iff_eq,beq_eq_false_iff_ne,ne_eq,bne_iff_ne,bne_eq_false_iff_eq] at *
  all_goals first|(exfalso;omega)|skip
  all_goals go_ret
  all_goals exact⟨rfl,(by repeat' (first|with_reducible exact Below.refl _ _|with_reducible assumption|with_reducible apply Below.drew|with_reducible apply qA|with_reducible refine Below.alloc ?_ ?_ _|with_reducible refine Below.setCell ?_ ?_ _|(simp;done)|(simp;omega)|omega))⟩
 case neg =>
  have hM:kO bs ws=decide (800000<Jm bs+Jm (ws.map (·.2))):=by unfold kO;rw[show qbo bs.length ws.length=false by simpa using hh];rfl
  have hh':¬(300<bs.length∨5000<ws.length∨(600<ws.length∧ws.length<4096)):=by simpa [qbo] using hh
  have hn1:bs.length≤300:=by omega
  have hn2:ws.length≤5000:=by omega
  have hn3:¬(600<ws.length∧ws.length<4096):=fun h=>hh' (.inr (.inr h))
  rw[hM]
  clear hM hh hh'
  have HB:=zH hb
  have HW:=zH hw
  have HTB:=zH (fun k h=>@qai bs k h)
  have HTW:=zH (fun k (h:k<(ws.map (·.2)).length)=>@qai (ws.map (·.2)) k h)
  have HLB:=zH (fun k=>YN hn1 k)
  have HLW:=zH (fun k=>YN (ls:=ws.map (·.2)) (n:=5000) (by rw[List.length_map];exact hn2) k)
  have HE1:Hid (bs.take bs.length=bs):=zH (List.take_length)
  have HE2:Hid ((ws.map (·.2)).take ws.length=ws.map (·.2)):=zH (by rw[←List.length_map (f:=(·.2))];exact List.take_length)
  clear hb hw
  have hd1:decide ((bs.length:Int)>300)=false:=decide_eq_false (by omega)
  have hd2:decide ((ws.length:Int)>5000)=false:=decide_eq_false (by omega)
  go_enter Tryz.func83,Tryz.ntmps83
  go_wp2
  all_goals first|(exfalso;omega)|skip
  all_goals
   generalize hw1:(World.alloc _ _)=w1
   have x1:Ext w w1:=by rw[←hw1];exact zN _ _
   have r1:w1.heap[w.heap.size]?=some (.cells #[.slice A1 bs.length c1,.slice A2 ws.length c2] 25 (0,0)):=by rw[←hw1];exact zI _ _ _ rfl
   clear hw1
   go_loopw [3,4] (fun t i wr=>∃ k:Nat,k≤bs.length∧i=.int .i64 (k:Int)∧t=.int .i64 (Jm (bs.take k):Int)∧Ext w1 wr) (fun _ i _=>bs.length-(intOf i).toNat)
   case atStart=>exact⟨0,by omega,rfl,rfl,Ext.refl _⟩
   case round =>
    obtain⟨k,hk,rfl,rfl,hE⟩:=hrel
    have hEw:=x1.trans hE
    have rr:=qb r1 hE
    have kr:=qa rr
    have hlb:=HLB.out k
    by_cases hlt:k<bs.length
    ·have hlt':=hlt
     obtain⟨b1,o1,rfl,hb1⟩:=hA1 (by omega)
     obtain⟨A',c',hc,hby⟩:=((HB.out.below hEw).more hEw.size).get k hlt
     have hm64:=hby.at_.2.1
     have hm65:=hby.at_.2.2.1
     have ht:=HTB.out k hlt
     replace ht:=zH ht
     clear hby
     unfold maxLen at hm65
     generalize bs[k].length=m at *
     generalize Jm (bs.take k)=q at *
     go_wp2
     go_roundw
     case rel=>exact⟨k+1,by omega,by go_num,by rw[ht.out];go_num,hE⟩
     case measure=>simp[intOf];omega
    ·obtain rfl:k=bs.length:=by omega
     rw[HE1.out] at hlb ⊢
     clear HB HTB HLB r1 hd1 hd2
     go_wp2
     clear kr
     go_loopw [3,5] (fun t i wq=>∃ j:Nat,j≤ws.length∧i=.int .i64 (j:Int)∧t=.int .i64 ((Jm bs+Jm ((ws.map (·.2)).take j):Nat):Int)∧Ext wr wq) (fun _ i _=>ws.length-(intOf i).toNat)
     case atStart=>exact⟨0,by omega,rfl,rfl,Ext.refl _⟩
     case round =>
      obtain⟨j,hj,rfl,rfl,hE2⟩:=hrel
      have hEq:=hEw.trans hE2
      have kr:=qa (qb rr hE2)
      have hlw:=HLW.out j
      by_cases hlt2:j<ws.length
      ·have hlt2':=hlt2
       obtain⟨b2,o2,rfl,hb2⟩:=hA2 (by omega)
       obtain⟨A',c',hca,hcb,hby⟩:=((HW.out.below hEq).more hEq.size).get j hlt2
       have hm64:=hby.at_.2.1
       have hm65:=hby.at_.2.2.1
       have ht:=HTW.out j (by rw[List.length_map];exact hlt2)
       rw[List.getElem_map] at ht
       replace ht:=zH ht
       clear hby
       unfold maxLen at hm65
       generalize ws[j].2.length=m at *
       generalize ws[j].1=a at *
       generalize Jm ((ws.map (·.2)).take j)=q at *
       generalize Jm bs=s0 at *
       go_wp2
       go_roundw
       case rel=>exact⟨j+1,by omega,by go_num,by rw[ht.out];go_num,hE2⟩
       case measure=>simp[intOf];omega
      ·obtain rfl:j=ws.length:=by omega
       rw[HE2.out] at hlw ⊢
       go_wp2
       go_ret
       refine⟨JU ?_,hEq⟩
       rw[Bool.eq_iff_iff]
       simp
       omega
def Xj (S:Sto):Bool:=kO S.bs S.ws || (decide (10000<S.now.length) || decide (10000<S.last.length))
abbrev poolV (A1:Option Addr) (n1 c1:Nat) (A2:Option Addr) (n2 c2:Nat) (A3:Option Addr) (n3 c3:Nat) (A4:Option Addr) (n4 c4:Nat) (g r x:Int) (A5:Option Addr) (n5 c5:Nat):Value:=
 .agg #[.slice A1 n1 c1,.slice A2 n2 c2,.slice A3 n3 c3,.slice A4 n4 c4,.int .u32 g,.int .i64 r,.int .u32 x,.slice A5 n5 c5]
set_option maxRecDepth 100000 in
theorem qfx (A1:Option Addr) (n1 c1:Nat) (A2:Option Addr) (n2 c2:Nat) (A3:Option Addr) (n3 c3:Nat) (A4:Option Addr) (n4 c4:Nat) (S:Sto) (w:World) (h:qP w w.heap.size (.slice A1 n1 c1) (.slice A2 n2 c2) (.slice A3 n3 c3) (.slice A4 n4 c4) S) :
  Calls Tryz.prog 44 #[qX A1 n1 c1 A2 n2 c2 A3 n3 c3 A4 n4 c4] w (Ret (.bool (Xj S)) w):=by
 have HD:=zH (fun W (hW:Ext w W)=>qfw A1 n1 c1 A2 n2 c2 S.bs S.ws W (h.ext hW).bs (h.ext hW).ws)
 have e3:S.now.length=n3:=h.now.at_.1.symm
 have e4:S.last.length=n4:=h.last.at_.1.symm
 have hS:Xj S=(kO S.bs S.ws || (decide (10000<n3) || decide (10000<n4))):=by unfold Xj;rw[e3,e4]
 rw[hS]
 clear hS h e3 e4
 generalize kO S.bs S.ws=d at *
 go_enter Tryz.func44,Tryz.ntmps44
 go_wp2_with fail
 generalize hw1:(World.alloc _ _)=w1
 have x1:Ext w w1:=by rw[←hw1];exact zN _ _
 have r1:w1.heap[w.heap.size]?=some (.cells #[.slice A1 n1 c1,.slice A2 n2 c2,.slice A3 n3 c3,.slice A4 n4 c4] 28 (0,0)):=by rw[←hw1];exact zI _ _ _ rfl
 clear hw1
 refine(HD.out _ x1).mono ?_
 rintro e w2 ⟨rfl,hB⟩
 have x2:=x1.trans hB
 have r2:=qb r1 hB
 have k2:=qa r2
 clear hB r1 x1 HD
 cases d
 all_goals
  go_wp2
  all_goals
   go_ret
   refine⟨JU ?_,x2⟩
   rw[Bool.eq_iff_iff]
   simp
   try omega
def Gw (S:Sto) (dead:Nat):Bool:=Xj S || decide (1000<dead)
set_option maxRecDepth 100000 in
theorem qdI (A1:Option Addr) (n1 c1:Nat) (A2:Option Addr) (n2 c2:Nat) (A3:Option Addr) (n3 c3:Nat) (A4:Option Addr) (n4 c4:Nat) (g r x:Int) (A5:Option Addr) (n5 c5:Nat) (S:Sto) (w:World) (h:qP w w.heap.size (.slice A1 n1 c1) (.slice A2 n2 c2) (.slice A3 n3 c3) (.slice A4 n4 c4) S) :
  Calls Tryz.prog 16 #[poolV A1 n1 c1 A2 n2 c2 A3 n3 c3 A4 n4 c4 g r x A5 n5 c5] w (Ret (.bool (Gw S n5)) w):=by
 have HD:=zH (fun W (hW:Ext w W)=>qfx A1 n1 c1 A2 n2 c2 A3 n3 c3 A4 n4 c4 S W (h.ext hW))
 have hS:Gw S n5=(Xj S || decide (1000<n5)):=rfl
 rw[hS]
 clear hS h
 generalize Xj S=d at *
 go_enter Tryz.func16,Tryz.ntmps16
 go_wp2_with fail
 generalize hw1:(World.alloc _ _)=w1
 have x1:Ext w w1:=by rw[←hw1];exact zN _ _
 have r1:w1.heap[w.heap.size]?=some (.cells #[.slice A1 n1 c1,.slice A2 n2 c2,.slice A3 n3 c3,.slice A4 n4 c4,.int .u32 g,.int .i64 r,.int .u32 x,.slice A5 n5 c5] 32 (0,0)):=by rw[←hw1];exact zI _ _ _ rfl
 clear hw1
 refine(HD.out _ x1).mono ?_
 rintro e w2 ⟨rfl,hB⟩
 have x2:=x1.trans hB
 have r2:=qb r1 hB
 have k2:=qa r2
 clear hB r1 x1 HD
 cases d
 all_goals
  go_wp2
  all_goals
   go_ret
   refine⟨JU ?_,x2⟩
   rw[Bool.eq_iff_iff]
   simp
   try omega
end Go.Proofs.YtpbniokljofedaaGreat
