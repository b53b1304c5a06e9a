/- Texts Lay, PutS, DFree8, DWith3, joined. -/
import Derived.Test.YtckhnchnbeoogaaGreatV15
import Derived.Test.YtckhnchnbeoogaaGreatV17
import Derived.Test.YtckhnchnbeoogaaGreatV19
import Derived.Test.YtckhnchnbeoogaaGreatV20
import Derived.Test.YtckhnchnbeoogaaGreatV21
import Derived.Test.YtckhnchnbeoogaaGreatV22
set_option linter.unusedSimpArgs false
set_option linter.unusedVariables false
namespace Go.Proofs.YtckhnchnbeoogaaGreat
open Go.RowKit
def GQ (S:Sto) (data:List UInt8):Int:=if 128<data.length then 3 else if jV S (ZS 128 data)≠0 then jV S (ZS 128 data) else Jv (ZR S (qO S) (ZS 128 data))
def VLayQ (S:Sto) (gen root next:Int) (dead:List Int) (data:List UInt8) (w:World) (e:Ending) (w':World):Prop:=Below w.heap.size w w' ∧
 ((e=.returned (.tuple #[ku,.int .i64 0,.int .i64 8])∧∀ vs,QM S root next dead vs→∃ refs nodes,Qj S (zl root dead vs) refs nodes∧¬QY S refs) ∨
  ∃ vs refs nodes,QM S root next dead vs∧Qj S (zl root dead vs) refs nodes∧QY S refs∧((GQ S data≠0∧e=.returned (.tuple #[ku,.int .i64 0,.int .i64 (GQ S data)])) ∨
   (GQ S data=0∧∃ v,e=.returned (.tuple #[v,.int .i64 (qO S:Int),.int .i64 0])∧NewPl w.heap.size (ZR S (qO S) (ZS 128 data)) gen root next dead v w')))
theorem qdv {R:Ending→World→Prop} {tmps:Array Value} {W:World} {b:Nat} {x0 x1 x2 x3 x4 x5 x6 x7 y z:Value} (h4:tmps[4]?.getD undef=.pointer (some ⟨b+1,0,none⟩)) (h5:tmps[5]?.getD undef=.pointer (some ⟨b+1+1,0,none⟩)) (h6:tmps[6]?.getD undef=.pointer (some ⟨b+1+1+1,0,none⟩))
  (r4:W.heap[b+1]?=some (.cells #[x0,x1,x2,x3,x4,x5,x6,x7] 32 (0,0))) (r5:W.heap[b+2]?=some (.cells #[y] 3 (0,0))) (r6:W.heap[b+3]?=some (.cells #[z] 39 (0,0))) (hR:R (.returned (.tuple #[.agg #[x0,x1,x2,x3,x4,x5,x6,x7],y,z])) W) :
  Leaves Tryz.prog Tryz.f14 tmps R [] .returning W:=by
 have k4:=qa r4
 have k5:=qa r5
 have k6:=qa r6
 refine⟨.tuple #[.agg #[x0,x1,x2,x3,x4,x5,x6,x7],y,z],?_,hR⟩
 simp[results,Tryz.results14,go_sem,h4,h5,h6,k4,k5,k6]
set_option maxHeartbeats 2000000 in
theorem Ym {R:Ending→World→Prop} {tmps:Array Value} {W:World} {b:Nat} (A1:Option Addr) (n1 c1:Nat) (A2:Option Addr) (n2 c2:Nat) (A3:Option Addr) (n3 c3:Nat) (A4:Option Addr) (n4 c4:Nat) (gen root next:Int) (v5:Value) (y e:Int) (S:Sto)
  (h4:tmps[4]?.getD undef=.pointer (some ⟨b+1,0,none⟩)) (h5:tmps[5]?.getD undef=.pointer (some ⟨b+1+1,0,none⟩)) (h6:tmps[6]?.getD undef=.pointer (some ⟨b+1+1+1,0,none⟩))
  (r4:W.heap[b+1]?=some (.cells (qC (.slice A1 n1 c1) (.slice A2 n2 c2) (.slice A3 n3 c3) (.slice A4 n4 c4) gen root next v5) 32 (0,0))) (r5:W.heap[b+2]?=some (.cells #[.int .i64 y] 3 (0,0))) (r6:W.heap[b+3]?=some (.cells #[.int .i64 e] 39 (0,0)))
  (h:e=0→qH W W.heap.size (.slice A1 n1 c1) (.slice A2 n2 c2) (.slice A3 n3 c3) (.slice A4 n4 c4) S)
  (hR1:e=0→Jv S=0→∀ W',VJ (b+1) (b+3) (b+2) W W'→R (.returned (.tuple #[.agg (qC (.slice A1 n1 c1) (.slice A2 n2 c2) (.slice A3 n3 c3) (.slice A4 n4 c4) gen root next v5),.int .i64 y,.int .i64 0])) W')
  (hR2:∀ e' W',e'≠0→((e=0∧e'=Jv S)∨(e≠0∧e'=e))→VJ (b+1) (b+3) (b+2) W W'→R (.returned (.tuple #[ku,.int .i64 0,.int .i64 e'])) W') :
  bodyPostD Tryz.prog Tryz.f14 R .ret { tmps:=tmps,defers:=[{ target:=.fn (.func 33) #[.pointer (some ⟨b+1,0,none⟩),.pointer (some ⟨b+1+1+1,0,none⟩),.pointer (some ⟨b+1+1,0,none⟩)],args:=#[] }] } W:=by
 refine leaves_cons (f:=33) (args:=#[.pointer (some ⟨b+1,0,none⟩),.pointer (some ⟨b+1+1+1,0,none⟩),.pointer (some ⟨b+1+1,0,none⟩)]) (by simp) (by simp[go_sem]) ?_
 refine(lay1_any (b+1) (b+3) (b+2) (by omega) (by omega) (by omega) A1 n1 c1 A2 n2 c2 A3 n3 c3 A4 n4 c4 gen root next v5 y e S .returning W r4 r6 r5 h).mono ?_
 rintro x u' w' ⟨rfl,rfl,hT,⟨h0,hE,g4,g6,g5⟩|⟨e',h0,hE,g4,g6,g5⟩⟩
 ·exact qdv h4 h5 h6 g4 g5 g6 (hR1 h0 hE w' hT)
 ·exact qdv h4 h5 h6 g4 g5 g6 (hR2 e' w' h0 hE hT)
theorem Un {W:World} {b:Nat} {x0 x1 x2 x3 x4 x5 x6 x7 y z u0 u1 u2 u3 u4 u5 u6 u7 p q:Value} {ty1 ty2 ty3:TypeId} (r4:W.heap[b+1]?=some (.cells #[u0,u1,u2,u3,u4,u5,u6,u7] ty1 (0,0))) (r5:W.heap[b+2]?=some (.cells #[p] ty2 (0,0))) (r6:W.heap[b+3]?=some (.cells #[q] ty3 (0,0))) {C:World}
  (hC:C=((((((((((W.setCell ⟨b+1,0,none⟩ x0).setCell ⟨b+1,1,none⟩ x1).setCell ⟨b+1,2,none⟩ x2).setCell ⟨b+1,3,none⟩ x3).setCell ⟨b+1,4,none⟩ x4).setCell ⟨b+1,5,none⟩ x5).setCell ⟨b+1,6,none⟩ x6).setCell ⟨b+1,7,none⟩ x7).setCell ⟨b+1+1,0,none⟩ y).setCell ⟨b+1+1+1,0,none⟩ z)) :
  C.heap[b+1]?=some (.cells #[x0,x1,x2,x3,x4,x5,x6,x7] ty1 (0,0))∧C.heap[b+2]?=some (.cells #[y] ty2 (0,0))∧C.heap[b+3]?=some (.cells #[z] ty3 (0,0))∧(∀ {B:Nat} {w0:World},B≤b+1→Below B w0 W→Below B w0 C)∧C.heap.size=W.heap.size∧(∀ k,k≠b+1→k≠b+2→k≠b+3→C.heap[k]?=W.heap[k]?):=by
 subst hC
 have hs:=fun (A:World) (b j:Nat) (v:Value) (k:Nat) (hk:k≠b)=>Below.heap_setCell A ⟨b,j,none⟩ v k hk
 refine⟨?_,?_,?_,fun hB h=>?_,by simp,fun k h1 h2 h3=>?_⟩
 ·rw[hs _ _ _ _ _ (by omega),hs _ _ _ _ _ (by omega)]
  exact jM r4 x0 x1 x2 x3 x4 x5 x6 x7
 ·rw[hs _ _ _ _ _ (by omega)]
  refine qh (t:=ty2) (cs:=#[p]) ?_ 0 y
  rw[Jl (by omega)]
  exact r5
 ·refine qh (t:=ty3) (cs:=#[q]) ?_ 0 z
  rw[hs _ _ _ _ _ (by omega),Jl (by omega)]
  exact r6
 ·exact Below.setCell (Below.setCell (zJ h (b:=b+1) (by omega) x0 x1 x2 x3 x4 x5 x6 x7) (p:=⟨b+1+1,0,none⟩) (by simp;omega) _) (p:=⟨b+1+1+1,0,none⟩) (by simp;omega) _
 ·rw[hs _ _ _ _ _ (by omega),hs _ _ _ _ _ (by omega),Jl (by omega)]
theorem TV {W:World} {b:Nat} {p q p0 q0:Value} {ty2 ty3:TypeId} (r5:W.heap[b+2]?=some (.cells #[p0] ty2 (0,0))) (r6:W.heap[b+3]?=some (.cells #[q0] ty3 (0,0))) {C:World} (hC:(W.setCell ⟨b+1+1,0,none⟩ p).setCell ⟨b+1+1+1,0,none⟩ q=C) :
  C.heap[b+2]?=some (.cells #[p] ty2 (0,0))∧C.heap[b+3]?=some (.cells #[q] ty3 (0,0))∧(∀ {B:Nat} {w0:World},B≤b+1→Below B w0 W→Below B w0 C)∧C.heap.size=W.heap.size∧(∀ k,k≠b+2→k≠b+3→C.heap[k]?=W.heap[k]?):=by
 subst hC
 have hs:=fun (A:World) (b j:Nat) (v:Value) (k:Nat) (hk:k≠b)=>Below.heap_setCell A ⟨b,j,none⟩ v k hk
 refine⟨?_,?_,fun hB h=>?_,by simp,fun k h2 h3=>?_⟩
 ·rw[hs _ _ _ _ _ (by omega)]
  exact qh (t:=ty2) (cs:=#[p0]) r5 0 p
 ·refine qh (t:=ty3) (cs:=#[q0]) ?_ 0 q
  rw[hs _ _ _ _ _ (by omega)]
  exact r6
 ·exact Below.setCell (Below.setCell h (p:=⟨b+1+1,0,none⟩) (by simp;omega) _) (p:=⟨b+1+1+1,0,none⟩) (by simp;omega) _
 ·rw[hs _ _ _ _ _ (by omega),hs _ _ _ _ _ (by omega)]
theorem Xu {P:Program} {o:Oper} {a:Act} {W:World} {B:Nat} {ty:TypeId} {y0 y1 y2 y3 y4 y5 y6 y7 x0 x1 x2 x3 x4 x5 x6 x7:Value} (h:W.heap[B]?=some (.cells #[y0,y1,y2,y3,y4,y5,y6,y7] ty (0,0)))
  (hr:(execOp a.eval o).run P W=.ok .skip ((((((((W.setCell ⟨B,0,none⟩ x0).setCell ⟨B,1,none⟩ x1).setCell ⟨B,2,none⟩ x2).setCell ⟨B,3,none⟩ x3).setCell ⟨B,4,none⟩ x4).setCell ⟨B,5,none⟩ x5).setCell ⟨B,6,none⟩ x6).setCell ⟨B,7,none⟩ x7)):Qp (ja B ty #[x0,x1,x2,x3,x4,x5,x6,x7]) P o a W (jA B ty #[x0,x1,x2,x3,x4,x5,x6,x7]):=
 kL hr (qk.trans (qk.trans (qk.trans (qk.trans (qk.trans (qk.trans (qk.trans qk))))))) (jM h _ _ _ _ _ _ _ _)
set_option maxHeartbeats 8000000 in
set_option maxRecDepth 100000 in
theorem vlay_any (A1:Option Addr) (n1 c1:Nat) (A2:Option Addr) (n2 c2:Nat) (A3:Option Addr) (n3 c3:Nat) (A4:Option Addr) (n4 c4:Nat) (gen root next:Int) (A5:Option Addr) (c5:Nat) (S:Sto) (dead:List Int) (A:Option Addr) (c:Nat) (data:List UInt8) (w:World)
  (h:qH w w.heap.size (.slice A1 n1 c1) (.slice A2 n2 c2) (.slice A3 n3 c3) (.slice A4 n4 c4) S) (hd:QF w w.heap.size (.slice A5 dead.length c5) dead) (hb:Bys w w.heap.size (.slice A data.length c) data) :
  Calls Tryz.prog 14 #[.agg (qC (.slice A1 n1 c1) (.slice A2 n2 c2) (.slice A3 n3 c3) (.slice A4 n4 c4) gen root next (.slice A5 dead.length c5)),.slice A data.length c] w (VLayQ S gen root next dead data w):=by
 have hmk:∀ w,(Instr.makeSlice 26 (.int .i64 128) (.int .i64 128)).run Tryz.prog w=.ok (.slice (some ⟨w.heap.size,0,none⟩) 128 128) (w.alloc (.cells ((List.replicate 128 (0:UInt8)).map bv).toArray 5)):=fun _=>by kernel_rfl
 have hmf:∀ (fn:Fn) (first cap:Array Value) (w:World),(Instr.makeFunc fn first cap).run Tryz.prog w=.ok (.func fn first cap) w:=fun _ _ _ _=>rfl
 have hsz:(Tryz.prog.info? 5).map (·.size)=some 1:=by kernel_rfl
 have HC:=zH (fun W (hx:Ext w W)=>qcE A1 n1 c1 A2 n2 c2 A3 n3 c3 A4 n4 c4 gen root next A5 c5 S dead W (h.ext hx) (hd.ext_ hx))
 replace h:=zH h
 replace hd:=zH hd
 replace hb:=zH hb
 go_enter_defers Tryz.func14,Tryz.ntmps14
 go_wp2_with fail
 generalize hw1:(World.alloc (World.alloc _ _) _)=w1
 have x1:Ext w w1:=by rw[←hw1];exact(((Ext.alloc _ _).trans (Ext.alloc _ _)).trans (Ext.alloc _ _)).trans (Ext.alloc _ _)
 have s1:w1.heap.size=w.heap.size+4:=by rw[←hw1];simp
 have ra1:w1.heap[w.heap.size]?=some (.cells (qC (.slice A1 n1 c1) (.slice A2 n2 c2) (.slice A3 n3 c3) (.slice A4 n4 c4) gen root next (.slice A5 dead.length c5)) 32 (0,0)):=by rw[←hw1];exact(Below.heap_alloc _ _ _ (by simp <;> omega)).trans ((Below.heap_alloc _ _ _ (by simp <;> omega)).trans ((Below.heap_alloc _ _ _ (by simp <;> omega)).trans (World.alloc_heap_at _ _ _ rfl)))
 have rb1:w1.heap[w.heap.size+1]?=some (.cells qcW 32 (0,0)):=by rw[←hw1];exact(Below.heap_alloc _ _ _ (by simp <;> omega)).trans ((Below.heap_alloc _ _ _ (by simp <;> omega)).trans (World.alloc_heap_at _ _ _ (by simp)))
 have rc1:w1.heap[w.heap.size+2]?=some (.cells #[.int .i64 0] 3 (0,0)):=by rw[←hw1];exact(Below.heap_alloc _ _ _ (by simp <;> omega)).trans (World.alloc_heap_at _ _ _ (by simp))
 have rd1:w1.heap[w.heap.size+3]?=some (.cells #[.int .i64 0] 39 (0,0)):=by rw[←hw1];exact World.alloc_heap_at _ _ _ (by simp)
 clear hw1
 refine(HC.out w1 x1).mono ?_
 clear HC
 rintro e w2 ⟨hB,hQ⟩
 have x2:Ext w w2:=Ext.trans x1 hB
 have z2:w.heap.size+3<w2.heap.size:=by have:=Below.size hB;omega
 have ra2:=qc ra1 hB
 have rb2:=qc rb1 hB
 have rc2:=qc rc1 hB
 have rd2:=qc rd1 hB
 clear hB ra1 rb1 rc1 rd1 x1
 have ka2:=qa ra2
 have kb2:=qa rb2
 have kc2:=qa rc2
 have kd2:=qa rd2
 have fb2:=qd rb2
 have fc2:=qd rc2
 have fd2:=qd rd2
 rcases hQ with ⟨rfl,hno⟩|⟨rfl,vs,refs,nodes,hpool,hcnt,hen⟩
 ·replace hno:=zH hno
  go_wp2_with fail
  obtain⟨g4,g5,g6,hbl,hz,-⟩:=Un (b:=w.heap.size) rb2 rc2 rd2 rfl
  refine Ym none 0 0 none 0 0 none 0 0 none 0 0 0 0 0 (.slice none 0 0) 0 8 S rfl rfl rfl g4 g5 g6 (fun h=>by cases h) (fun h=>by cases h) (fun e' W' h0 hE' hT=>?_)
  obtain rfl:e'=8:=by
   rcases hE' with ⟨h,_⟩|⟨_,h⟩
   ·cases h
   ·exact h
  have hBW:=hT.below (hbl (B:=w.heap.size) (by omega) x2) (by omega) (by omega) (by omega) (by rw[hz];omega)
  exact⟨hBW,.inl ⟨rfl,hno.out⟩⟩
 ·replace hpool:=zH hpool
  replace hcnt:=zH hcnt
  replace hen:=zH hen
  by_cases hl:128<data.length
  ·have hE:GQ S data=3:=by unfold GQ;rw[if_pos hl]
   have d1:decide ((data.length:Int)>128)=true:=decide_eq_true (by omega)
   have d2:decide (128<data.length)=true:=decide_eq_true hl
   replace hE:=zH hE
   replace hl:=zH hl
   go_wp2_with fail
   obtain⟨g4,g5,g6,hbl,hz,-⟩:=Un (b:=w.heap.size) rb2 rc2 rd2 rfl
   refine Ym none 0 0 none 0 0 none 0 0 none 0 0 0 0 0 (.slice none 0 0) 0 3 S rfl rfl rfl g4 g5 g6 (fun h=>by cases h) (fun h=>by cases h) (fun e' W' h0 hE' hT=>?_)
   obtain rfl:e'=3:=by
    rcases hE' with ⟨h,_⟩|⟨_,h⟩
    ·cases h
    ·exact h
   have hBW:=hT.below (hbl (B:=w.heap.size) (by omega) x2) (by omega) (by omega) (by omega) (by rw[hz];omega)
   exact⟨hBW,.inr ⟨vs,refs,nodes,hpool.out,hcnt.out,hen.out,.inl ⟨by rw[hE.out];decide,by rw[hE.out]⟩⟩⟩
  ·have d1:decide ((data.length:Int)>128)=false:=decide_eq_false (by omega)
   have d2:decide (128<data.length)=false:=decide_eq_false hl
   have hl128:data.length≤128:=by omega
   replace hl:=zH hl
   replace hl128:=zH hl128
   go_wp2_with fail
   have xa:Ext w2 (w2.alloc (.cells ((List.replicate 128 (0:UInt8)).map bv).toArray 5)):=Ext.alloc _ _
   have r3:(w2.alloc (.cells ((List.replicate 128 (0:UInt8)).map bv).toArray 5)).heap[w2.heap.size]?=some (.cells ((List.replicate 128 (0:UInt8)).map bv).toArray 5 (0,0)):=World.alloc_heap_at _ _ _ rfl
   change Oper.upon _ _ _ _ _ (Result.andThen (Sem.run _ _ (w2.alloc (.cells ((List.replicate 128 (0:UInt8)).map bv).toArray 5))) _)
   generalize hw3:w2.alloc _=w3 at *
   clear hw3 hmk
   have hcp:=Yj (P:=Tryz.prog) w3 26 26 3 5 w2.heap.size 0 128 128 A c data _ _ Tryz.underlying26 hsz r3 (hb.out.below (x2.trans xa)) hl128.out (by simp;exact hl128.out)
   rw[hcp]
   clear hcp
   have r4:=setRow_heap w3 w2.heap.size _ (List.take 0 (List.map bv (List.replicate 128 0)).toArray.toList++List.map bv data++List.drop (0+data.length) (List.map bv (List.replicate 128 0)).toArray.toList).toArray _ _ r3
   have x4:Below w2.heap.size w2 (w3.setRow w2.heap.size (List.take 0 (List.map bv (List.replicate 128 0)).toArray.toList++List.map bv data++List.drop (0+data.length) (List.map bv (List.replicate 128 0)).toArray.toList).toArray):=
    Below.grown xa (qaC _ _ _) xa.size (fun g e=>by cases e;exact Nat.le_refl _)
   generalize hw4:w3.setRow w2.heap.size (List.take 0 (List.map bv (List.replicate 128 0)).toArray.toList++List.map bv data++List.drop (0+data.length) (List.map bv (List.replicate 128 0)).toArray.toList).toArray=w4 at *
   rw[pad_row] at r4
   have x24:Ext w2 w4:=x4
   have y4:Ext w w4:=x2.trans x24
   have hpl:(ZS 128 data).length=128:=TY hl128.out
   have hpb:Bys w4 w4.heap.size (.slice (some ⟨w2.heap.size,0,none⟩) 128 128) (ZS 128 data):=by
    refine⟨_,128,by rw[hpl],Nat.le_of_eq hpl,by unfold maxLen;omega,by rw[hpl];simp[hpl],fun _=>⟨w2.heap.size,0,rfl,(zG.1 r4).1,fun j u hu=>?_⟩⟩
    rw[Nat.zero_add,qa r4]
    simpa using hu
   have HT:=qet A1 n1 c1 A2 n2 c2 A3 n3 c3 A4 n4 c4 S (some ⟨w2.heap.size,0,none⟩) 128 (ZS 128 data) w4 (h.out.ext y4) (by rw[hpl];exact hpb)
   rw[hpl] at HT
   clear hw4 r3 r4 xa hpb x4 ka2 kb2 kc2 kd2 fb2 fc2 fd2
   have ra4:=qc ra2 x24
   have rb4:=qc rb2 x24
   have rc4:=qc rc2 x24
   have rd4:=qc rd2 x24
   have ka4:=qa ra4
   replace hpl:=zH hpl
   go_wp2_with fail
   refine HT.mono ?_
   clear HT
   rintro e w5 ⟨u,rfl,hu,hB⟩
   have x45:Ext w4 w5:=hB
   have y5:Ext w w5:=y4.trans hB
   have z45:=x45.size
   have z24:=x24.size
   have ra5:=qc ra4 hB
   have rb5:=qc rb4 hB
   have rc5:=qc rc4 hB
   have rd5:=qc rd4 hB
   clear hB ra4 rb4 rc4 rd4 ra2 rb2 rc2 rd2 ka4
   have ka5:=qa ra5
   have kb5:=qa rb5
   have kc5:=qa rc5
   have kd5:=qa rd5
   have fa5:=qd ra5
   have fb5:=qd rb5
   have fc5:=qd rc5
   have fd5:=qd rd5
   have za5:w.heap.size<w5.heap.size:=by omega
   have zb5:w.heap.size+1<w5.heap.size:=by omega
   have zc5:w.heap.size+1+1<w5.heap.size:=by omega
   have zd5:w.heap.size+1+1+1<w5.heap.size:=by omega
   have hLE:GQ S data=if jV S (ZS 128 data)≠0 then jV S (ZS 128 data) else Jv (ZR S (qO S) (ZS 128 data)):=by unfold GQ;rw[if_neg hl.out]
   replace hLE:=zH hLE
   rcases hu with ⟨h1,rfl⟩|⟨h1,v,rfl,hns⟩
   ·have hLE':=zH (hLE.out.trans (if_pos h1))
    clear hLE
    generalize jV S (ZS 128 data)=er at *
    have b1:(er != 0)=true:=by rw[bne_iff_ne];exact h1
    replace h1:=zH h1
    go_wp2_with fail
    generalize hw6:(w5.setCell _ _).setCell ⟨w.heap.size+1+1+1,0,none⟩ _=w6
    obtain⟨rc6,rd6,hb6,z6,ho6⟩:=TV rc5 rd5 hw6
    have rb6:w6.heap[w.heap.size+1]?=_:=(ho6 _ (by omega) (by omega)).trans rb5
    clear hw6
    obtain⟨g4,g5,g6,hbl,hz,-⟩:=Un (b:=w.heap.size) rb6 rc6 rd6 rfl
    refine Ym none 0 0 none 0 0 none 0 0 none 0 0 0 0 0 (.slice none 0 0) 0 er S rfl rfl rfl (qc g4 (Ext.alloc _ _)) (qc g5 (Ext.alloc _ _)) (qc g6 (Ext.alloc _ _)) (fun h=>absurd h h1.out) (fun h=>absurd h h1.out) (fun e' W' h0 hE' hT=>?_)
    obtain rfl:e'=er:=by
     rcases hE' with ⟨h,_⟩|⟨_,h⟩
     ·exact absurd h h1.out
     ·exact h
    have hBW:=hT.below (Below.alloc (hbl (B:=w.heap.size) (by omega) (hb6 (by omega) y5)) (by rw[hz,z6];omega) _) (by omega) (by omega) (by omega) (by simp[hz,z6];omega)
    exact⟨hBW,.inr ⟨vs,refs,nodes,hpool.out,hcnt.out,hen.out,.inl ⟨by rw[hLE'.out];exact h1.out,by rw[hLE'.out]⟩⟩⟩
   ·have hLE':=zH (hLE.out.trans (if_neg (by simpa using h1)))
    obtain⟨B1,d1,B2,d2,B3,d3,B4,d4,rfl,hns2⟩:=hns
    replace h1:=zH h1
    replace hns2:=zH hns2
    clear hLE
    generalize hff:qO S=ff at *
    generalize hS':ZR S ff (ZS 128 data)=S' at *
    go_upto_region 12 with fail
    generalize hw6:(w5.setCell _ _).setCell ⟨w.heap.size+1+1+1,0,none⟩ _=w6
    obtain⟨rc6,rd6,hb6,z6,ho6⟩:=TV rc5 rd5 hw6
    have rb6:w6.heap[w.heap.size+1]?=_:=(ho6 _ (by omega) (by omega)).trans rb5
    have ra6:w6.heap[w.heap.size]?=_:=(ho6 _ (by omega) (by omega)).trans ra5
    have y6:Below w.heap.size w w6:=hb6 (by omega) y5
    clear hw6
    have x67:Ext w6 (w6.alloc (.cells #[.slice B1 S'.bs.length d1,.slice B2 S'.ws.length d2,.slice B3 S'.now.length d3,.slice B4 S'.last.length d4] 28)):=Ext.alloc _ _
    have rt7:(w6.alloc (.cells #[.slice B1 S'.bs.length d1,.slice B2 S'.ws.length d2,.slice B3 S'.now.length d3,.slice B4 S'.last.length d4] 28)).heap[w5.heap.size]?=_:=World.alloc_heap_at _ _ _ z6.symm
    have z7:(w6.alloc (.cells #[.slice B1 S'.bs.length d1,.slice B2 S'.ws.length d2,.slice B3 S'.now.length d3,.slice B4 S'.last.length d4] 28)).heap.size=w5.heap.size+1:=by simp[z6]
    generalize hw7:w6.alloc _=w7 at *
    clear hw7 ka5 kb5 kc5 kd5 fa5 fb5 fc5 fd5
    have ra7:=qc ra6 x67
    have rb7:=qc rb6 x67
    have rc7:=qc rc6 x67
    have rd7:=qc rd6 x67
    have y7:Ext w w7:=Ext.trans y6 x67
    have h57:∀ k,k<w5.heap.size→k≠w.heap.size+2→k≠w.heap.size+3→w7.heap[k]?=w5.heap[k]?:=fun k h1 h2 h3=>(x67.block k (by omega)).trans (ho6 k h2 h3)
    have gP:∀ W,Ext w7 W→∀ i,W.cell? ⟨w.heap.size,i,none⟩=(qC (.slice A1 n1 c1) (.slice A2 n2 c2) (.slice A3 n3 c3) (.slice A4 n4 c4) gen root next (.slice A5 dead.length c5))[i]?:=fun W h=>qa (qc ra7 h)
    have gS:∀ W,Ext w7 W→∀ i,W.cell? ⟨w5.heap.size,i,none⟩=#[.slice B1 S'.bs.length d1,.slice B2 S'.ws.length d2,.slice B3 S'.now.length d3,.slice B4 S'.last.length d4][i]?:=fun W h=>qa (qc rt7 h)
    have HI:=zH (fun W (hW:Ext w7 W)=>KZ (.slice A5 dead.length c5) dead (by have:=hpool.out.few;omega) W (hd.out.ext_ (y7.trans hW)))
    replace ho6:=zH ho6
    replace h57:=zH h57
    clear ra5 rb5 rc5 rd5 ra6 rb6 rc6 rd6 x67 hb6
    refine qG (qE [(3,outN w7.heap.size dead.length dead)]) 5 (by kernel_rfl) (by kernel_rfl) (by kernel_rfl) (by decide) (by kernel_rfl) (by kernel_rfl) ?st ?walk
    case st=>exact qJ (by simp only[List.forall_mem_cons];exact⟨VM _ _ _,fun _ h=>by cases h⟩)
    case walk =>
     intro K hK
     dsimp only[List.take]
     repeat ((first|(refine ql ?_ (by rfl) (by rfl) (fun W hW _=>⟨W,?_,Ext.refl W⟩) ?_;rotate_left;(first|(go_simp;with_reducible rfl)|(go_simp;done)))|(refine qt (by rfl) ?_));try simp only[Act.put,qi,qe,qb,qg,Jn,Qm,zA,zB,zC])
     refine qZ (outN w7.heap.size dead.length dead) (by rfl) (by rfl) (fun W hW _=>?_) (fun p=>?_)
     ·refine Qb ?_ ((HI.out W hW).mono fun e w' h=>?_)
      ·go_simp
      obtain⟨u,rfl,hu,hB⟩:=h
      obtain⟨A',c',rfl,_,_⟩:=qw hu
      exact⟨(A',c'),rfl,⟨QF.of_ownT hu,(QD.of_own hu).mono hW.size⟩,hB⟩
     obtain⟨B5,d5⟩:=p
     simp only[Act.put,qi,qe,qb,qg,Jn,Qm,zA,zB,zC]
     repeat ((first|(refine ql ?_ (by rfl) (by rfl) (fun W hW _=>⟨W,?_,Ext.refl W⟩) ?_;rotate_left;(first|(go_simp;with_reducible rfl)|(go_simp;done)))|(refine qt (by rfl) ?_));try simp only[Act.put,qi,qe,qb,qg,Jn,Qm,zA,zB,zC])
     refine qP (hK _ _ fun W hW hF=>?_)
     have hI:QF (thaw W) W.heap.size (.slice B5 dead.length d5) dead∧QD w7.heap.size (.slice B5 dead.length d5):=(hF 3).1
     clear hF hK gP gS
     dsimp only[List.drop]
     have ra8:=qc ra7 hW
     have rb8:=qc rb7 hW
     have rc8:=qc rc7 hW
     have rd8:=qc rd7 hW
     have ka8:=qa ra8
     have fa8:=qd ra8
     have za8:w.heap.size<W.heap.size:=(zG.1 ra8).1
     have zd8:w.heap.size+3<W.heap.size:=(zG.1 rd8).1
     replace hI:=zH hI
     clear HI ra7 rb7 rc7 rd7 rt7
     go_upto_region 13 with fail
     generalize hWp:(((((W.setCell ⟨w.heap.size,0,none⟩ _).setCell ⟨w.heap.size,1,none⟩ _).setCell ⟨w.heap.size,2,none⟩ _).setCell ⟨w.heap.size,3,none⟩ _).setCell ⟨w.heap.size,7,none⟩ _)=Wp
     have hop:∀ k,k≠w.heap.size→Wp.heap[k]?=W.heap[k]?:=fun k hk=>by rw[←hWp,Below.heap_setCell _ _ _ _ hk,Below.heap_setCell _ _ _ _ hk,Below.heap_setCell _ _ _ _ hk,Below.heap_setCell _ _ _ _ hk,Below.heap_setCell _ _ _ _ hk]
     have rap:Wp.heap[w.heap.size]?=some (.cells (qC (.slice B1 S'.bs.length d1) (.slice B2 S'.ws.length d2) (.slice B3 S'.now.length d3) (.slice B4 S'.last.length d4) gen root next (.slice B5 dead.length d5)) 32 (0,0)):=by rw[←hWp];exact qh (qh (qh (qh (qh ra8 0 _) 1 _) 2 _) 3 _) 7 _
     have zp:Wp.heap.size=W.heap.size:=by rw[←hWp];simp
     have xp:Below w.heap.size w Wp:=by rw[←hWp];exact Below.setCell (ZO (y7.trans hW) (b:=w.heap.size) (Nat.le_refl _) _ _ _ _) (p:=⟨w.heap.size,7,none⟩) (Nat.le_refl _) _
     clear hWp
     have rbp:Wp.heap[w.heap.size+1]?=_:=(hop _ (by omega)).trans rb8
     have rcp:Wp.heap[w.heap.size+2]?=_:=(hop _ (by omega)).trans rc8
     have rdp:Wp.heap[w.heap.size+3]?=_:=(hop _ (by omega)).trans rd8
     have z7W:=Below.size hW
     have hWb:∀ k,k<w7.heap.size→W.heap[k]?=w7.heap[k]?:=fun k hk=>Below.block hW k hk
     replace hWb:=zH hWb
     replace hop:=zH hop
     clear ra8 rb8 rc8 rd8 ka8 fa8 hW
     obtain⟨csP,hcs⟩:∃ csP,csP=qC (.slice B1 S'.bs.length d1) (.slice B2 S'.ws.length d2) (.slice B3 S'.now.length d3) (.slice B4 S'.last.length d4) gen root next (.slice B5 dead.length d5):=⟨_,rfl⟩
     replace hcs:=zH hcs
     obtain⟨RR,hRR⟩:∃ RR:Rel,RR=ja (w.heap.size+1) 32 csP:=⟨_,rfl⟩
     replace hRR:=zH hRR
     have gA:∀ W,RR.r Wp W→∀ i,W.cell? ⟨w.heap.size,i,none⟩=(qC (.slice B1 S'.bs.length d1) (.slice B2 S'.ws.length d2) (.slice B3 S'.now.length d3) (.slice B4 S'.last.length d4) gen root next (.slice B5 dead.length d5))[i]?:=fun W h=>qa (ZZ (hRR.out ▸ h) (by omega) rap)
     have gC:∀ W,RR.r Wp W→∀ i,W.cell? ⟨w.heap.size+1+1,i,none⟩=#[.int .i64 (ff:Int)][i]?:=fun W h=>qa (ZZ (hRR.out ▸ h) (by omega) rcp)
     refine qv (by kernel_rfl) ?_
     refine Qu (w:=Wp) RR (qE [(2,jA (w.heap.size+1) 32 csP)]) [true,true,true] 2 (by kernel_rfl) (by kernel_rfl) (by kernel_rfl) (by kernel_rfl) (by kernel_rfl) (by kernel_rfl) (by kernel_rfl) ?st (Rel.drew _ _) ?walk
     case st=>rw[hRR.out];exact qm (by simp only[List.forall_mem_cons];exact⟨JT,fun _ h=>by cases h⟩)
     case walk =>
      intro K hK
      dsimp only[qz]
      repeat ((first|(refine qf ?_ (by rfl) (by rfl) (fun W hW _=>⟨W,?_,Rel.refl _ W⟩) ?_;rotate_left;(first|(go_simp;with_reducible rfl)|(go_simp;done)))|(refine qj (by rfl) ?_));try simp only[Act.put,qi,qe,qb,qg,Jn,Qm,zA,zB,zC])
      refine qA (jA (w.heap.size+1) 32 csP) (by rfl) (by rfl) (fun W hW hp=>?_) (fun p=>?_)
      ·rw[hRR.out] at hW ⊢
       rw[hcs.out]
       have zo:w.heap.size+1<W.heap.size:=by have:=hW.1.size;omega
       rcases Vx hW rbp with h8|h8
       ·have k8:=qa h8
        have f8:=qd h8
        refine Xu h8 ?_
        go_simp
       ·rw[hcs.out] at h8
        have k8:=qa h8
        have f8:=qd h8
        refine Xu h8 ?_
        go_simp
      simp only[Act.put,qi,qe,qb,qg,Jn,Qm,zA,zB,zC]
      repeat ((first|(refine qf ?_ (by rfl) (by rfl) (fun W hW _=>⟨W,?_,Rel.refl _ W⟩) ?_;rotate_left;(first|(go_simp;with_reducible rfl)|(go_simp;done)))|(refine qj (by rfl) ?_));try simp only[Act.put,qi,qe,qb,qg,Jn,Qm,zA,zB,zC])
      refine qD (hK _ _ fun W9 hW9 hF=>?_)
      have rb9:W9.heap[w.heap.size+1]?=some (.cells csP 32 (0,0)):=(hF 2).1
      clear hF hK gA gC
      rw[hRR.out] at hW9
      have h9:∀ k,k<Wp.heap.size→k≠w.heap.size+1→W9.heap[k]?=Wp.heap[k]?:=fun k h1 h2=>hW9.1.block k h1 (fun e=>h2 (by simpa using e))
      have y9:Below w.heap.size w W9:=xp.trans (Vw hW9 (by omega) (by omega))
      have z9:=hW9.1.size
      have rc9:=ZZ hW9 (by omega) rcp
      have rd9:=ZZ hW9 (by omega) rdp
      rw[hcs.out] at rb9
      replace h9:=zH h9
      clear rap rbp rcp rdp hW9 hRR
      dsimp only[List.drop,List.length_cons,List.length_nil]
      have kc9:=qa rc9
      have kd9:=qa rd9
      have fc9:=qd rc9
      have fd9:=qd rd9
      go_wp2_with fail
      refine Qw ?_
      go_wp2_with fail
      generalize hWf:(W9.setCell _ _).setCell ⟨w.heap.size+1+1+1,0,none⟩ _=Wf
      obtain⟨rcf,rdf,hbf,zf,hof⟩:=TV rc9 rd9 hWf
      have rbf:Wf.heap[w.heap.size+1]?=_:=(hof _ (by omega) (by omega)).trans rb9
      clear hWf kc9 kd9 fc9 fd9
      have hsame:∀ k,w.heap.size+3<k→k<W.heap.size→Wf.heap[k]?=W.heap[k]?:=fun k h1 h2=>(hof k (by omega) (by omega)).trans ((h9.out k (by omega) (by omega)).trans (hop.out k (by omega)))
      have hsam5:∀ k,w.heap.size+3<k→k<w5.heap.size→Wf.heap[k]?=w5.heap[k]?:=fun k h1 h2=>(hsame k h1 (by omega)).trans ((hWb.out k (by omega)).trans (h57.out k h2 (by omega) (by omega)))
      refine Ym B1 S'.bs.length d1 B2 S'.ws.length d2 B3 S'.now.length d3 B4 S'.last.length d4 gen root next (.slice B5 dead.length d5) (ff:Int) 0 S' rfl rfl rfl rbf rcf rdf (fun _=>?_) (fun _ hE W' hT=>?_) (fun e' W' h0 hE hT=>?_)
      ·exact(hns2.out Wf fun q v h1 h2 h3=>(World.cell?_of_block (hsam5 q.block (by omega) h2)).trans (Qd h3).1).more (by omega)
      ·have hBW:=hT.below (hbf (B:=w.heap.size) (by omega) y9) (by omega) (by omega) (by omega) (by omega)
       refine⟨hBW,.inr ⟨vs,refs,nodes,hpool.out,hcnt.out,hen.out,.inr ⟨by rw[hLE'.out];exact hE,_,by rw[hff],?_⟩⟩⟩
       rw[hff,hS']
       have hzT:=hT.size
       refine⟨B1,d1,B2,d2,B3,d3,B4,d4,B5,d5,rfl,fun C hC=>⟨(hns2.out C fun q v h1 h2 h3=>?_).more (by omega),(hI.out.1.pos hI.out.2 fun q v h1 h2 h3=>?_).more (by omega)⟩⟩
       ·exact hC q v (by omega) (by omega) ((Qi ((hT.same q.block (by omega) (by omega) (by omega) (by omega)).trans (hsam5 q.block (by omega) h2))).trans h3)
       ·exact hC q v (by omega) (by omega) ((Qi ((hT.same q.block (by omega) (by omega) (by omega) (by omega)).trans (hsame q.block (by omega) h2))).trans h3)
      ·have hBW:=hT.below (hbf (B:=w.heap.size) (by omega) y9) (by omega) (by omega) (by omega) (by omega)
       obtain rfl:e'=Jv S':=by
        rcases hE with ⟨_,h⟩|⟨h,_⟩
        ·exact h
        ·exact absurd rfl h
       exact⟨hBW,.inr ⟨vs,refs,nodes,hpool.out,hcnt.out,hen.out,.inl ⟨by rw[hLE'.out];exact h0,by rw[hLE'.out]⟩⟩⟩
theorem qci {t:List UInt8} {a:Nat} (h:QJ t=true) (ha:8≤a) (v:UInt8):QJ (t.set a v)=true:=by
 unfold QJ at *
 simp only[Bool.and_eq_true,decide_eq_true_eq] at *
 refine⟨by rw[List.length_set];exact h.1,?_⟩
 rw[List.take_set_of_le ha]
 exact h.2
theorem YM {S:Sto}:qB S=true↔Qe S.bs S.ws=true∧QJ S.now=true∧QJ S.last=true:=by unfold qB;simp[Bool.and_eq_true]
theorem qds {S:Sto} (h:qB S=true) {a:Nat} (ha:8≤a) (ha2:a<256) {l:List UInt8} (hl:l.length=128) (hw:S.ws.length≠4096):qB (ZR S a l)=true:=by
 obtain⟨h1,h2,h3⟩:=YM.1 h
 refine YM.2 ⟨?_,qci h2 ha 1,h3⟩
 unfold Qe headD at *
 simp only[Bool.and_eq_true,decide_eq_true_eq,ZR,List.length_append,List.length_singleton,List.all_append,List.all_cons,List.all_nil,Bool.and_true] at *
 obtain⟨⟨g1,g2⟩,g3,g4⟩:=h1
 refine⟨⟨g1,by omega⟩,g3,g4,?_⟩
 unfold KK
 exact decide_eq_true ⟨by simp,by simp;omega,hl⟩
set_option maxHeartbeats 2000000 in
set_option maxRecDepth 100000 in
theorem KQ (A:Option Addr) (c:Nat) (l:List UInt8) (hl:l.length<1000000) (a:Nat) (ha:a<l.length) (x:UInt8) (w:World) (h:Bys w w.heap.size (.slice A l.length c) l) :
  Calls Tryz.prog 44 #[.slice A l.length c,.int .i64 (a:Int),.int .u8 (x.toNat:Int)] w (zE (fun u w'=>w'.ownsRow w.heap.size 5 1 u l.length ((l.set a x).map bv)) w):=by
 obtain⟨i0,hi,hz0,hz1,hz2⟩:=info_parts Tryz.info_u8
 obtain⟨A',c',e,hc,hm,hr⟩:=h
 simp only[Value.slice.injEq,true_and] at e
 obtain⟨rfl,rfl⟩:=e
 replace hm:=zH hm
 go_enter Tryz.func44,Tryz.ntmps44
 go_wp2_with (at_builtin;refine qI ?_)
 refine Qc.go (qM w rfl (.const (.slice none 0 0)) (.tmp 8) 26 rfl w.heap.size 5 i0 (.int .u8 0) 1 1 Tryz.underlying26 hi hz0 hz1 hz2 rfl (by decide) (.slice none 0 0) 0 [] (by exact rfl) (World.ownsRow_nil _ _ _ _) w.heap.size A l.length c (l.map bv) (by exact rfl) hr (zT l) (by omega) (by decide) (Nat.le_refl _) ?_)
 intro v w2 own _ hB _
 simp only[Nat.zero_add,List.nil_append] at own
 have x2:Ext w w2:=hB
 obtain⟨g,c2,rfl⟩:∃ g c2,v=.slice (some ⟨g,0,none⟩) l.length c2:=by
  rcases own.2 with ⟨_,h0⟩|⟨g,cap,cur,e,_⟩
  ·omega
  ·exact⟨g,cap,e⟩
 obtain⟨hcg,hfg,hlg,hgz⟩:=vW own
 have hcx:=hcg a ha
 have hfx:=hfg a
 have hset:=zH (Ti own ha x)
 have da:decide (a<l.length)=true:=decide_eq_true ha
 clear hcg hfg own hB
 go_wp2_with fail
 go_ret
 exact⟨_,rfl,hset.out,Below.setCell x2 (p:=⟨g,a,none⟩) hlg _⟩
structure A8 (S:Sto) (w1:World) (v i:Value) (wr:World):Prop where
 ex:∃ k:Nat,8≤k∧k≤256∧i=.int .i64 (k:Int)∧wr.ownsRow w1.heap.size 3 1 v (zP S k).length (ZD (zP S k))∧Ext w1 wr
set_option maxHeartbeats 4000000 in
set_option maxRecDepth 100000 in
theorem GB (A1:Option Addr) (n1 c1:Nat) (A2:Option Addr) (n2 c2:Nat) (A3:Option Addr) (n3 c3:Nat) (A4:Option Addr) (n4 c4:Nat) (S:Sto) (hS:qB S=true) (w:World) (h:qH w w.heap.size (.slice A1 n1 c1) (.slice A2 n2 c2) (.slice A3 n3 c3) (.slice A4 n4 c4) S) :
  Calls Tryz.prog 72 #[Qy A1 n1 c1 A2 n2 c2 A3 n3 c3 A4 n4 c4] w (zE (fun u w'=>w'.ownsRow w.heap.size 3 1 u (Qh S).length (ZD (Qh S))) w):=by
 obtain⟨i0,hi,hz0,hz1,hz2⟩:=info_parts Tryz.info_int
 obtain⟨b3,o3,c3',e3,hb3,hc3⟩:=kG hS h.now
 obtain⟨b4,o4,c4',e4,hb4,hc4⟩:=qdE hS h.last
 cases e3
 cases e4
 clear h
 go_enter Tryz.func72,Tryz.ntmps72
 go_wp2_with fail
 generalize hw1:(World.alloc w _)=w1
 have x1:Ext w w1:=by rw[←hw1];exact Ext.alloc _ _
 have r1:w1.heap[w.heap.size]?=some (.cells #[.slice A1 n1 c1,.slice A2 n2 c2,.slice (some ⟨b3,o3,none⟩) 256 c3,.slice (some ⟨b4,o4,none⟩) 256 c4] 28 (0,0)):=by rw[←hw1];exact World.alloc_heap_at _ _ _ rfl
 clear hw1
 go_loopw [3,4] (fun v i wr=>A8 S w1 v i wr) (fun _ i _=>256-(intOf i).toNat)
 case atStart=>exact⟨8,by omega,by omega,rfl,by rw[qbT];exact World.ownsRow_nil _ _ _ _,Ext.refl _⟩
 case round =>
  obtain⟨k,hk8,hk,rfl,own,xr⟩:=hrel.ex
  clear hrel
  by_cases hlt:k<256
  ·have hcx:=Ext.cell (x1.trans xr) (hc3 k hlt)
   have hcy:=Ext.cell (x1.trans xr) (hc4 k hlt)
   have kr:=qa (qc r1 xr)
   have hml:=Tn S k
   obtain⟨AR,cR,rfl,-,-⟩:=qw own
   have hsu:=zH (VP S k)
   have hfb:Je S k=(decide (zZ S k=0) && decide (Kn S k=0)):=by unfold Je;simp[hk8]
   generalize zZ S k=nw at *
   generalize Kn S k=lw at *
   replace own:=zH own
   replace xr:=zH xr
   replace hml:=zH hml
   replace hc3:=zH hc3
   replace hc4:=zH hc4
   rcases Nat.eq_zero_or_pos nw with h0|h0
   ·rcases Nat.eq_zero_or_pos lw with h1|h1
    ·have d1:((nw:Int) == 0)=true:=by rw[beq_iff_eq];omega
     have d2:((lw:Int) == 0)=true:=by rw[beq_iff_eq];omega
     have hfr:Je S k=true:=by rw[hfb];simp[h0,h1]
     have d3:decide (nw=0)=true:=decide_eq_true h0
     have d4:decide (lw=0)=true:=decide_eq_true h1
     replace h0:=zH h0
     replace h1:=zH h1
     replace hfb:=zH hfb
     replace hfr:=zH hfr
     go_wp2_with (at_builtin;refine qI ?_)
     refine Qc.go (QP _ rfl (.tmp 23) (.tmp 25) 30 rfl w1.heap.size 3 i0 (.int .i64 0) 1 8 Tryz.underlying30 hi hz0 hz1 hz2 rfl (by decide) _ _ _ rfl own.out #[.int .i64 (k:Int)] rfl rfl (by simp[Value.oneCell']) (by have:=hml.out;omega) (by decide) xr.out.size ?_)
     intro v8 w8 own8 _ hB8 _
     have IR:A8 S w1 v8 (.int .i64 ((k:Int)+1)) w8:=⟨k+1,by omega,hlt,rfl,by
      rw[hsu.out,if_pos hfr.out,ve,List.length_append,List.length_singleton]
      exact own8,Below.trans xr.out hB8⟩
     replace IR:=zH IR
     clear own8 hB8 kr hcx hcy
     go_wp2_with fail
     refine⟨IR.out,?_⟩
     simp[intOf]
     omega
    ·have d1:((nw:Int) == 0)=true:=by rw[beq_iff_eq];omega
     have d2:((lw:Int) == 0)=false:=by rw[beq_eq_false_iff_ne];omega
     have hfr:¬Je S k=true:=by rw[hfb];simp;omega
     have d3:decide (nw=0)=true:=decide_eq_true h0
     have d4:decide (lw=0)=false:=decide_eq_false (by omega)
     have IR:A8 S w1 (.slice AR (zP S k).length cR) (.int .i64 ((k:Int)+1)) wr:=⟨k+1,by omega,hlt,rfl,by rw[hsu.out,if_neg hfr];exact own.out,xr.out⟩
     replace IR:=zH IR
     replace h0:=zH h0
     replace h1:=zH h1
     replace hfb:=zH hfb
     replace hfr:=zH hfr
     go_wp2_with fail
     refine⟨IR.out,?_⟩
     simp[intOf]
     omega
   ·have d1:((nw:Int) == 0)=false:=by rw[beq_eq_false_iff_ne];omega
    have hfr:¬Je S k=true:=by rw[hfb];simp;omega
    have d3:decide (nw=0)=false:=decide_eq_false (by omega)
    have IR:A8 S w1 (.slice AR (zP S k).length cR) (.int .i64 ((k:Int)+1)) wr:=⟨k+1,by omega,hlt,rfl,by rw[hsu.out,if_neg hfr];exact own.out,xr.out⟩
    replace IR:=zH IR
    replace h0:=zH h0
    replace hfb:=zH hfb
    replace hfr:=zH hfr
    go_wp2_with fail
    refine⟨IR.out,?_⟩
    simp[intOf]
    omega
  ·obtain rfl:k=256:=by omega
   have HB:=zH (qaK (B':=w.heap.size) own x1.size)
   have xB:=zH (x1.trans xr)
   replace own:=zH own
   replace xr:=zH xr
   go_wp2_with fail
   go_ret
   exact⟨_,rfl,HB.out,xB.out⟩
theorem Tv:∀ {ps:List ((Int×List UInt8)×Value)} {Φ:(Int×List UInt8)×Value→Prop},(∀ p∈ps,(∃ A c,p.2=.slice A p.1.2.length c)∧Φ p)→∀ u∈QE ps,u.oneCell'=true
 | [],_,_,u,hu=>(List.not_mem_nil hu).elim
 |p :: r,_,h,u,hu=>by
  rcases List.mem_cons.1 hu with rfl|hu
  ·rfl
  ·rcases List.mem_cons.1 hu with rfl|hu
   ·obtain⟨⟨A,c,e⟩,_⟩:=h p List.mem_cons_self
    rw[e];rfl
   ·exact Tv (fun q hq=>h q (List.mem_cons_of_mem _ hq)) u hu
def XV (B D T:Nat) (w C:World):Prop:=∀ q:Addr,(q.block<B∨(D≤q.block∧q.block<T))→C.cell? q=w.cell? q
theorem XV.back {B D T:Nat} {w W C:World} (h:XV B D T w C) (hx:Ext w W) (hB:B≤w.heap.size) (hT:T≤w.heap.size):XV B D T W C:=fun q hq=>(h q hq).trans (Below.cell hx (by omega)).symm
theorem XV.fwd {B D T:Nat} {w W C:World} (h:XV B D T W C) (hx:Ext w W) (hB:B≤w.heap.size) (hT:T≤w.heap.size):XV B D T w C:=fun q hq=>(h q hq).trans (Below.cell hx (by omega))
theorem qeN {R:Ending→World→Prop} {a:Act} {W:World} {b:Nat} {x0 x1:Value} (h6:a.tmps[6]?.getD undef=.pointer (some ⟨b,0,none⟩)) (hd:a.defers=[])
  (hrow:W.heap[b]?=some (.cells #[x0,x1] 25 (0,0))) (hR:R (.returned (.agg #[x0,x1])) W):bodyPost Tryz.prog Tryz.f73 R .ret a W:=by
 refine bodyPost_ret (v:=.agg #[x0,x1]) ?_ hd hR
 have k:=qa hrow
 simp[results,Tryz.results73,go_sem,h6,k]
set_option maxHeartbeats 4000000 in
set_option maxRecDepth 100000 in
theorem qcm (A1:Option Addr) (n1 c1:Nat) (A2:Option Addr) (n2 c2:Nat) (ws:List (Int×List UInt8)) (hl:ws.length<1000000) (a:Int) (A:Option Addr) (c:Nat) (data:List UInt8) (w:World) (B D T:Nat) (hB:B≤w.heap.size) (hw:Wrs w B (.slice A2 n2 c2) ws) (hd:∀ C:World,XV B D T w C→Bys C w.heap.size (.slice A data.length c) data) :
  Calls Tryz.prog 73 #[Zw A1 n1 c1 A2 n2 c2,.int .i64 a,.slice A data.length c] w (zE (fun u W=>∃ A' c',u=Zw A1 n1 c1 A' (ws.length+1) c'∧∀ C:World,XV B D T w C→PosOn w.heap.size W C→Wrs C W.heap.size (.slice A' (ws.length+1) c') (ws++[(a,data)])) w):=by
 obtain⟨i0,hi,hz0,hz1,hz2⟩:=info_parts Tryz.info_write
 obtain⟨ps,hps,⟨A',c',e,q1,q2,q3⟩,hp⟩:=hw
 simp only[Value.slice.injEq] at e
 obtain⟨rfl,rfl,rfl⟩:=e
 have hpl:ps.length=ws.length:=by rw[←hps];simp
 have h1:∀ u∈QE ps,u.oneCell'=true:=Tv hp
 have q3':=zH (fun W (hW:Ext w W)=>(show Rd W W.heap.size 2 A2 ws.length (QE ps) from (q3.below (Below.mono hW hB)).more (Nat.le_trans hB hW.size)))
 replace q1:=zH q1
 replace q2:=zH q2
 replace hps:=zH hps
 clear q3
 go_enter Tryz.func73,Tryz.ntmps73
 go_wp2_with (at_builtin;refine qI ?_)
 generalize hw3:World.alloc (World.alloc _ _) _=w3
 have x3:Ext w w3:=by rw[←hw3];exact((Ext.alloc _ _).trans (Ext.alloc _ _)).trans (Ext.alloc _ _)
 have ro3:w3.heap[w.heap.size+1]?=some (.cells #[.slice none 0 0,.slice none 0 0] 25 (0,0)):=by rw[←hw3];exact(Below.heap_alloc _ _ _ (by simp)).trans (World.alloc_heap_at _ _ _ (by simp))
 have rd3:w3.heap[w.heap.size+2]?=some (.cells #[.slice A1 n1 c1,.slice none 0 0] 25 (0,0)):=by rw[←hw3];exact World.alloc_heap_at _ _ _ (by simp)
 have z3:w3.heap.size=w.heap.size+3:=by rw[←hw3];simp
 clear hw3
 refine Qc.go (qM w3 rfl (.tmp 12) (.tmp 14) 23 rfl w3.heap.size 100 i0 _ 2 32 Tryz.underlying23 hi hz0 hz1 hz2 rfl (by decide) (.slice none 0 0) 0 [] (by exact rfl) (World.ownsRow_nil _ _ _ _) w3.heap.size A2 ws.length c2 (QE ps) (by exact rfl) (q3'.out w3 x3) h1 (by omega) (by decide) (Nat.le_refl _) ?_)
 intro v4 w4 own4 _ hB4 _
 simp only[Nat.zero_add,List.nil_append] at own4
 have x34:Ext w3 w4:=hB4
 obtain⟨A4,c4,rfl,-,-⟩:=qw own4
 have ro4:=qc ro3 x34
 have rd4:=qc rd3 x34
 have kd4:=qa rd4
 have fd4:=qd rd4
 have z4:=x34.size
 have x4:=x3.trans x34
 replace own4:=zH own4
 clear hB4 ro3 rd3
 go_wp2_with (at_builtin;refine qI ?_)
 generalize hw5:World.setCell w4 ⟨w.heap.size+1+1,1,none⟩ _=w5
 have ro5:w5.heap[w.heap.size+1]?=some (.cells #[.slice none 0 0,.slice none 0 0] 25 (0,0)):=by rw[←hw5];exact(Below.heap_setCell _ _ _ _ (by simp)).trans ro4
 have rd5:w5.heap[w.heap.size+2]?=some (.cells #[.slice A1 n1 c1,.slice A4 ws.length c4] 25 (0,0)):=by rw[←hw5];exact qh rd4 1 _
 have own5:w5.ownsRow w3.heap.size 100 2 (.slice A4 ws.length c4) ws.length (QE ps):=by rw[←hw5];exact QR own4.out (p:=⟨w.heap.size+1+1,1,none⟩) (by simp;omega) _
 have x5:Below w.heap.size w w5:=by rw[←hw5];exact Below.setCell x4 (p:=⟨w.heap.size+1+1,1,none⟩) (by simp;omega) _
 have z5:w5.heap.size=w4.heap.size:=by rw[←hw5];simp
 clear hw5 kd4 fd4 rd4 ro4
 rw[←z5]
 refine Qc.go (QP w5 rfl (.tmp 18) (.tmp 22) 23 rfl w3.heap.size 100 i0 _ 2 32 Tryz.underlying23 hi hz0 hz1 hz2 rfl (by decide) (.slice A4 ws.length c4) ws.length (QE ps) (by exact rfl) own5 #[.int .i64 a,.slice A data.length c] (by exact rfl) rfl (by simp[Value.oneCell']) (by omega) (by decide) (by omega) ?_)
 intro v6 w6 own6 hg6 hB6 _
 obtain⟨A6,c6,rfl,g1,g2⟩:=qw own6
 have hlow:∀ g,(Value.slice A4 ws.length c4).ownBlock=some g→w3.heap.size≤g:=fun g e=>(zY own5 g e).1
 have ro6:w6.heap[w.heap.size+1]?=some (.cells #[.slice none 0 0,.slice none 0 0] 25 (0,0)):=(hg6.block _ (zG.1 ro5).1 (fun e=>by have:=hlow _ e.symm;omega)).trans ro5
 have rd6:w6.heap[w.heap.size+2]?=some (.cells #[.slice A1 n1 c1,.slice A4 ws.length c4] 25 (0,0)):=(hg6.block _ (zG.1 rd5).1 (fun e=>by have:=hlow _ e.symm;omega)).trans rd5
 have x6:Below w.heap.size w w6:=x5.trans (Below.mono hB6 (by omega))
 have kd6:=qa rd6
 have fd6:=qd rd6
 have ko6:=qa ro6
 have fo6:=qd ro6
 replace own6:=zH own6
 replace g1:=zH g1
 replace g2:=zH g2
 clear own4 own5 hg6 hB6 hlow
 go_wp2_with fail
 have rof:=qh (qh ((Below.heap_setCell w6 ⟨w.heap.size+1+1,1,none⟩ (.slice A6 (ws.length+1) c6) (w.heap.size+1) (by simp)).trans ro6) 0 (.slice A1 n1 c1)) 1 (.slice A6 (ws.length+1) c6)
 have xf:Below w.heap.size w (((w6.setCell ⟨w.heap.size+1+1,1,none⟩ (.slice A6 (ws.length+1) c6)).setCell ⟨w.heap.size+1,0,none⟩ (.slice A1 n1 c1)).setCell ⟨w.heap.size+1,1,none⟩ (.slice A6 (ws.length+1) c6)):=Below.setCell (Below.setCell (Below.setCell x6 (p:=⟨w.heap.size+1+1,1,none⟩) (by simp;omega) _) (p:=⟨w.heap.size+1,0,none⟩) (by simp) _) (p:=⟨w.heap.size+1,1,none⟩) (by simp) _
 have ownf:=QR (QR (QR own6.out (p:=⟨w.heap.size+1+1,1,none⟩) (by simp;omega) (.slice A6 (ws.length+1) c6)) (p:=⟨w.heap.size+1,0,none⟩) (by simp;omega) (.slice A1 n1 c1)) (p:=⟨w.heap.size+1,1,none⟩) (by simp;omega) (.slice A6 (ws.length+1) c6)
 generalize hwf:World.setCell (World.setCell (World.setCell w6 _ _) _ _) _ _=wf at *
 have zf:=xf.size
 refine qeN rfl rfl rof ⟨_,rfl,⟨A6,c6,rfl,fun C hC1 hC2=>⟨ps++[((a,data),.slice A data.length c)],by rw[List.map_append,hps.out];rfl,⟨A6,c6,by rw[List.length_append];rfl,by rw[List.length_append];exact g1.out,g2.out,?_⟩,fun p hpm=>?_⟩⟩,xf⟩
 ·rw[vN,List.length_append]
  exact Rd.pos (Rd.of_own ownf) (QD.of_own ownf) fun q v h1 h2 h3=>hC2 q v (by omega) h2 h3
 ·rcases List.mem_append.1 hpm with h|h
  ·exact⟨(hp p h).1,((hp p h).2.keep fun q hq=>hC1 q (.inl hq)).more (Nat.le_trans hB zf)⟩
  ·rw[List.mem_singleton.1 h]
   exact⟨⟨A,c,rfl⟩,(hd C hC1).more zf⟩
end Go.Proofs.YtckhnchnbeoogaaGreat
