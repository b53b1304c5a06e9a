/- Texts Lay1, Pad, Lay, PutS, CountsW, joined. -/
import Derived.Test.YtlgbjpihmkeopaaU01
import Derived.Test.YtlgbjpihmkeopaaU13
import Derived.Test.YtlgbjpihmkeopaaU15
import Derived.Test.YtlgbjpihmkeopaaU16
import Derived.Test.YtlgbjpihmkeopaaU19
import Derived.Test.YtlgbjpihmkeopaaU20
/- Contracts: the deferred closure of 'Lay'. -/
namespace Go.Proofs.Ytlgbjpihmkeopaa
set_option linter.unusedSimpArgs false
set_option linter.unusedVariables false
open Go.RowKit

structure Three (bp be ba : Nat) (W W' : World) : Prop where
  os : W'.os = W.os
  tape : W'.tape = W.tape
  output : W'.output = W.output
  size : W.heap.size ≤ W'.heap.size
  same : ∀ k, k < W.heap.size → k ≠ bp → k ≠ be → k ≠ ba → W'.heap[k]? = W.heap[k]?
theorem Three.of_two {bp be ba : Nat} {W W' : World} (h : Two bp be W W') : Three bp be ba W W' := ⟨h.os, h.tape, h.output, h.size, fun k hk h1 h2 _ => h.same k hk h1 h2⟩
theorem Three.set {bp be ba : Nat} {W W' : World} (h : Three bp be ba W W') (v : Value) : Three bp be ba W (W'.setCell ⟨ba, 0, none⟩ v) := ⟨h.os, h.tape, h.output, by simpa using h.size, fun k hk h1 h2 h3 => (Below.heap_setCell _ _ _ _ h3).trans (h.same k hk h1 h2 h3)⟩
theorem Three.below {bp be ba B : Nat} {w0 W W' : World} (h : Three bp be ba W W') (hb : Below B w0 W) (h1 : B ≤ bp) (h2 : B ≤ be) (h3 : B ≤ ba) (hB : B ≤ W.heap.size) : Below B w0 W' := hb.trans ⟨h.os, h.tape, h.output, h.size, fun k hk => h.same k (by omega) (by omega) (by omega) (by omega)⟩
def LayEnd (bp be ba : Nat) (cs : Array Value) (a e : Int) (S : Sto) (W W' : World) : Prop := Three bp be ba W W' ∧
  ((e = 0 ∧ roomE S = 0 ∧ W'.heap[bp]? = some (.cells cs 32 (0, 0)) ∧ W'.heap[be]? = some (.cells #[.int .i64 0] 35 (0, 0)) ∧ W'.heap[ba]? = some (.cells #[.int .i64 a] 3 (0, 0))) ∨
    ∃ e', e' ≠ 0 ∧ ((e = 0 ∧ e' = roomE S) ∨ (e ≠ 0 ∧ e' = e)) ∧ W'.heap[bp]? = some (.cells zeroCs 32 (0, 0)) ∧ W'.heap[be]? = some (.cells #[.int .i64 e'] 35 (0, 0)) ∧ W'.heap[ba]? = some (.cells #[.int .i64 0] 3 (0, 0)))

set_option maxHeartbeats 4000000 in
set_option maxRecDepth 100000 in
theorem lay1_any (bp be ba : Nat) (h12 : bp ≠ be) (h13 : bp ≠ ba) (h23 : be ≠ ba) (A1 : Option Addr) (n1 c1 : Nat) (A2 : Option Addr) (n2 c2 : Nat) (A3 : Option Addr) (n3 c3 : Nat) (A4 : Option Addr) (n4 c4 : Nat) (gen root next : Int) (v5 : Value) (a e : Int) (S : Sto) (u : FrameMode) (w : World)
    (hp : w.heap[bp]? = some (.cells (poolCs (.slice A1 n1 c1) (.slice A2 n2 c2) (.slice A3 n3 c3) (.slice A4 n4 c4) gen root next v5) 32 (0, 0))) (he : w.heap[be]? = some (.cells #[.int .i64 e] 35 (0, 0))) (ha : w.heap[ba]? = some (.cells #[.int .i64 a] 3 (0, 0)))
    (h : e = 0 → StoAt w w.heap.size (.slice A1 n1 c1) (.slice A2 n2 c2) (.slice A3 n3 c3) (.slice A4 n4 c4) S) :
    CallsD Try.prog 38 #[.pointer (some ⟨bp, 0, none⟩), .pointer (some ⟨be, 0, none⟩), .pointer (some ⟨ba, 0, none⟩)] u w (fun x u' w' => u' = u ∧ x = .returned (.tuple #[]) ∧ LayEnd bp be ba (poolCs (.slice A1 n1 c1) (.slice A2 n2 c2) (.slice A3 n3 c3) (.slice A4 n4 c4) gen root next v5) a e S w w') := by
  have HR := roomy_any bp be h12 A1 n1 c1 A2 n2 c2 A3 n3 c3 A4 n4 c4 gen root next v5 e S w hp he h
  clear h hp he
  go_enter_d Try.func38, Try.ntmps38
  go_wp2_with fail
  refine HR.mono ?_
  rintro x w2 ⟨rfl, hT, ⟨h0, hE, hp2, he2⟩ | ⟨e', h0, hE, hp2, he2⟩⟩
  · have ha2 := (hT.same ba (Array.getElem?_eq_some_iff.1 ha).1 (Ne.symm h13) (Ne.symm h23)).trans ha
    have ke2 := cells_row he2
    have hz := Lib.hid h0
    clear h0
    go_wp2_with fail
    go_end0
    exact ⟨rfl, Three.of_two hT, .inl ⟨hz.out, hE, hp2, he2, ha2⟩⟩
  · have ha2 := (hT.same ba (Array.getElem?_eq_some_iff.1 ha).1 (Ne.symm h13) (Ne.symm h23)).trans ha
    have ke2 := cells_row he2
    have ka2 := cells_row ha2
    have fa2 := frozen_row ha2
    have b1 : (e' != 0) = true := by rw [bne_iff_ne]; exact h0
    replace h0 := Lib.hid h0
    replace hE := Lib.hid hE
    go_wp2_with fail
    go_end0
    exact ⟨rfl, (Three.of_two hT).set _, .inr ⟨e', h0.out, hE.out, (Below.heap_setCell _ _ _ _ h13).trans hp2, (Below.heap_setCell _ _ _ _ h23).trans he2, row_set ha2 0 _⟩⟩
end Go.Proofs.Ytlgbjpihmkeopaa
/- Bytes, filled up. -/
namespace Go.Proofs.Ytlgbjpihmkeopaa
set_option linter.unusedSimpArgs false
set_option linter.unusedVariables false
open Go.RowKit
def padB (n : Nat) (b : List UInt8) : List UInt8 := b ++ List.replicate (n - b.length) 0
theorem padB_len {n : Nat} {b : List UInt8} (h : b.length ≤ n) : (padB n b).length = n := by simp [padB]; omega
theorem pad_row (n : Nat) (b : List UInt8) : List.take 0 (List.map bv (List.replicate n 0)).toArray.toList ++ List.map bv b ++ List.drop (0 + b.length) (List.map bv (List.replicate n 0)).toArray.toList = (padB n b).map bv := by
  simp [padB, List.map_replicate, List.drop_replicate]
end Go.Proofs.Ytlgbjpihmkeopaa
/- Contracts: a block laid. -/
namespace Go.Proofs.Ytlgbjpihmkeopaa
set_option linter.unusedSimpArgs false
set_option linter.unusedVariables false
open Go.RowKit

def layE (S : Sto) (data : List UInt8) : Int := if 128 < data.length then 3 else if takeE S (padB 128 data) ≠ 0 then takeE S (padB 128 data) else roomE (putAt S (firstFree S) (padB 128 data))
def VLayQ (S : Sto) (gen root next : Int) (dead : List Int) (data : List UInt8) (w : World) (e : Ending) (w' : World) : Prop := Below w.heap.size w w' ∧
  ((e = .returned (.tuple #[pool0, .int .i64 0, .int .i64 8]) ∧ ∀ vs, PoolB S root next dead vs → ∃ refs nodes, Counted S (rootsN root dead vs) refs nodes ∧ ¬ Enough S refs) ∨
    ∃ vs refs nodes, PoolB S root next dead vs ∧ Counted S (rootsN root dead vs) refs nodes ∧ Enough S refs ∧ ((layE S data ≠ 0 ∧ e = .returned (.tuple #[pool0, .int .i64 0, .int .i64 (layE S data)])) ∨
      (layE S data = 0 ∧ ∃ v, e = .returned (.tuple #[v, .int .i64 (firstFree S : Int), .int .i64 0]) ∧ NewPl w.heap.size (putAt S (firstFree S) (padB 128 data)) gen root next dead v w')))

theorem lay_ret {R : Ending → World → Prop} {tmps : Array Value} {W : World} {b : Nat} {x0 x1 x2 x3 x4 x5 x6 x7 y z : Value} (h4 : tmps[4]?.getD undef = .pointer (some ⟨b + 1, 0, none⟩)) (h5 : tmps[5]?.getD undef = .pointer (some ⟨b + 1 + 1, 0, none⟩)) (h6 : tmps[6]?.getD undef = .pointer (some ⟨b + 1 + 1 + 1, 0, none⟩))
    (r4 : W.heap[b + 1]? = some (.cells #[x0, x1, x2, x3, x4, x5, x6, x7] 32 (0, 0))) (r5 : W.heap[b + 2]? = some (.cells #[y] 3 (0, 0))) (r6 : W.heap[b + 3]? = some (.cells #[z] 35 (0, 0))) (hR : R (.returned (.tuple #[.agg #[x0, x1, x2, x3, x4, x5, x6, x7], y, z])) W) :
    Leaves Try.prog Try.f16 tmps R [] .returning W := by
  have k4 := cells_row r4
  have k5 := cells_row r5
  have k6 := cells_row r6
  refine ⟨.tuple #[.agg #[x0, x1, x2, x3, x4, x5, x6, x7], y, z], ?_, hR⟩
  simp [results, Try.results16, go_sem, h4, h5, h6, k4, k5, k6]

set_option maxHeartbeats 2000000 in
theorem lay_door {R : Ending → World → Prop} {tmps : Array Value} {W : World} {b : Nat} (A1 : Option Addr) (n1 c1 : Nat) (A2 : Option Addr) (n2 c2 : Nat) (A3 : Option Addr) (n3 c3 : Nat) (A4 : Option Addr) (n4 c4 : Nat) (gen root next : Int) (v5 : Value) (y e : Int) (S : Sto)
    (h4 : tmps[4]?.getD undef = .pointer (some ⟨b + 1, 0, none⟩)) (h5 : tmps[5]?.getD undef = .pointer (some ⟨b + 1 + 1, 0, none⟩)) (h6 : tmps[6]?.getD undef = .pointer (some ⟨b + 1 + 1 + 1, 0, none⟩))
    (r4 : W.heap[b + 1]? = some (.cells (poolCs (.slice A1 n1 c1) (.slice A2 n2 c2) (.slice A3 n3 c3) (.slice A4 n4 c4) gen root next v5) 32 (0, 0))) (r5 : W.heap[b + 2]? = some (.cells #[.int .i64 y] 3 (0, 0))) (r6 : W.heap[b + 3]? = some (.cells #[.int .i64 e] 35 (0, 0)))
    (h : e = 0 → StoAt W W.heap.size (.slice A1 n1 c1) (.slice A2 n2 c2) (.slice A3 n3 c3) (.slice A4 n4 c4) S)
    (hR1 : e = 0 → roomE S = 0 → ∀ W', Three (b + 1) (b + 3) (b + 2) W W' → R (.returned (.tuple #[.agg (poolCs (.slice A1 n1 c1) (.slice A2 n2 c2) (.slice A3 n3 c3) (.slice A4 n4 c4) gen root next v5), .int .i64 y, .int .i64 0])) W')
    (hR2 : ∀ e' W', e' ≠ 0 → ((e = 0 ∧ e' = roomE S) ∨ (e ≠ 0 ∧ e' = e)) → Three (b + 1) (b + 3) (b + 2) W W' → R (.returned (.tuple #[pool0, .int .i64 0, .int .i64 e'])) W') :
    bodyPostD Try.prog Try.f16 R .ret { tmps := tmps, defers := [{ target := .fn (.func 38) #[.pointer (some ⟨b + 1, 0, none⟩), .pointer (some ⟨b + 1 + 1 + 1, 0, none⟩), .pointer (some ⟨b + 1 + 1, 0, none⟩)], args := #[] }] } W := by
  refine leaves_cons (f := 38) (args := #[.pointer (some ⟨b + 1, 0, none⟩), .pointer (some ⟨b + 1 + 1 + 1, 0, none⟩), .pointer (some ⟨b + 1 + 1, 0, none⟩)]) (by simp) (by simp [go_sem]) ?_
  refine (lay1_any (b + 1) (b + 3) (b + 2) (by omega) (by omega) (by omega) A1 n1 c1 A2 n2 c2 A3 n3 c3 A4 n4 c4 gen root next v5 y e S .returning W r4 r6 r5 h).mono ?_
  rintro x u' w' ⟨rfl, rfl, hT, ⟨h0, hE, g4, g6, g5⟩ | ⟨e', h0, hE, g4, g6, g5⟩⟩
  · exact lay_ret h4 h5 h6 g4 g5 g6 (hR1 h0 hE w' hT)
  · exact lay_ret h4 h5 h6 g4 g5 g6 (hR2 e' w' h0 hE hT)

theorem lay_rows {W : World} {b : Nat} {x0 x1 x2 x3 x4 x5 x6 x7 y z u0 u1 u2 u3 u4 u5 u6 u7 p q : Value} {ty1 ty2 ty3 : TypeId} (r4 : W.heap[b + 1]? = some (.cells #[u0, u1, u2, u3, u4, u5, u6, u7] ty1 (0, 0))) (r5 : W.heap[b + 2]? = some (.cells #[p] ty2 (0, 0))) (r6 : W.heap[b + 3]? = some (.cells #[q] ty3 (0, 0))) {C : World}
    (hC : C = ((((((((((W.setCell ⟨b + 1, 0, none⟩ x0).setCell ⟨b + 1, 1, none⟩ x1).setCell ⟨b + 1, 2, none⟩ x2).setCell ⟨b + 1, 3, none⟩ x3).setCell ⟨b + 1, 4, none⟩ x4).setCell ⟨b + 1, 5, none⟩ x5).setCell ⟨b + 1, 6, none⟩ x6).setCell ⟨b + 1, 7, none⟩ x7).setCell ⟨b + 1 + 1, 0, none⟩ y).setCell ⟨b + 1 + 1 + 1, 0, none⟩ z)) :
    C.heap[b + 1]? = some (.cells #[x0, x1, x2, x3, x4, x5, x6, x7] ty1 (0, 0)) ∧ C.heap[b + 2]? = some (.cells #[y] ty2 (0, 0)) ∧ C.heap[b + 3]? = some (.cells #[z] ty3 (0, 0)) ∧ (∀ {B : Nat} {w0 : World}, B ≤ b + 1 → Below B w0 W → Below B w0 C) ∧ C.heap.size = W.heap.size ∧ (∀ k, k ≠ b + 1 → k ≠ b + 2 → k ≠ b + 3 → C.heap[k]? = W.heap[k]?) := by
  subst hC
  have hs := fun (A : World) (b j : Nat) (v : Value) (k : Nat) (hk : k ≠ b) => Below.heap_setCell A ⟨b, j, none⟩ v k hk
  refine ⟨?_, ?_, ?_, fun hB h => ?_, by simp, fun k h1 h2 h3 => ?_⟩
  · rw [hs _ _ _ _ _ (by omega), hs _ _ _ _ _ (by omega)]
    exact row8 r4 x0 x1 x2 x3 x4 x5 x6 x7
  · rw [hs _ _ _ _ _ (by omega)]
    refine row_set (t := ty2) (cs := #[p]) ?_ 0 y
    rw [other8 (by omega)]
    exact r5
  · refine row_set (t := ty3) (cs := #[q]) ?_ 0 z
    rw [hs _ _ _ _ _ (by omega), other8 (by omega)]
    exact r6
  · exact Below.setCell (Below.setCell (below8 h (b := b + 1) (by omega) x0 x1 x2 x3 x4 x5 x6 x7) (p := ⟨b + 1 + 1, 0, none⟩) (by simp; omega) _) (p := ⟨b + 1 + 1 + 1, 0, none⟩) (by simp; omega) _
  · rw [hs _ _ _ _ _ (by omega), hs _ _ _ _ _ (by omega), other8 (by omega)]
theorem two_rows {W : World} {b : Nat} {p q p0 q0 : Value} {ty2 ty3 : TypeId} (r5 : W.heap[b + 2]? = some (.cells #[p0] ty2 (0, 0))) (r6 : W.heap[b + 3]? = some (.cells #[q0] ty3 (0, 0))) {C : World} (hC : (W.setCell ⟨b + 1 + 1, 0, none⟩ p).setCell ⟨b + 1 + 1 + 1, 0, none⟩ q = C) :
    C.heap[b + 2]? = some (.cells #[p] ty2 (0, 0)) ∧ C.heap[b + 3]? = some (.cells #[q] ty3 (0, 0)) ∧ (∀ {B : Nat} {w0 : World}, B ≤ b + 1 → Below B w0 W → Below B w0 C) ∧ C.heap.size = W.heap.size ∧ (∀ k, k ≠ b + 2 → k ≠ b + 3 → C.heap[k]? = W.heap[k]?) := by
  subst hC
  have hs := fun (A : World) (b j : Nat) (v : Value) (k : Nat) (hk : k ≠ b) => Below.heap_setCell A ⟨b, j, none⟩ v k hk
  refine ⟨?_, ?_, fun hB h => ?_, by simp, fun k h2 h3 => ?_⟩
  · rw [hs _ _ _ _ _ (by omega)]
    exact row_set (t := ty2) (cs := #[p0]) r5 0 p
  · refine row_set (t := ty3) (cs := #[q0]) ?_ 0 q
    rw [hs _ _ _ _ _ (by omega)]
    exact r6
  · exact Below.setCell (Below.setCell h (p := ⟨b + 1 + 1, 0, none⟩) (by simp; omega) _) (p := ⟨b + 1 + 1 + 1, 0, none⟩) (by simp; omega) _
  · rw [hs _ _ _ _ _ (by omega), hs _ _ _ _ _ (by omega)]
theorem hardAt_row8 {P : Program} {o : Oper} {a : Act} {W : World} {B : Nat} {ty : TypeId} {y0 y1 y2 y3 y4 y5 y6 y7 x0 x1 x2 x3 x4 x5 x6 x7 : Value} (h : W.heap[B]? = some (.cells #[y0, y1, y2, y3, y4, y5, y6, y7] ty (0, 0)))
    (hr : (execOp a.eval o).run P W = .ok .skip ((((((((W.setCell ⟨B, 0, none⟩ x0).setCell ⟨B, 1, none⟩ x1).setCell ⟨B, 2, none⟩ x2).setCell ⟨B, 3, none⟩ x3).setCell ⟨B, 4, none⟩ x4).setCell ⟨B, 5, none⟩ x5).setCell ⟨B, 6, none⟩ x6).setCell ⟨B, 7, none⟩ x7)) : hardAtG (rowRel B ty #[x0, x1, x2, x3, x4, x5, x6, x7]) P o a W (outRowB B ty #[x0, x1, x2, x3, x4, x5, x6, x7]) :=
  hardAt_rowB hr (grown_set.trans (grown_set.trans (grown_set.trans (grown_set.trans (grown_set.trans (grown_set.trans (grown_set.trans grown_set))))))) (row8 h _ _ _ _ _ _ _ _)
set_option maxHeartbeats 8000000 in
set_option maxRecDepth 100000 in
theorem vlay_any (A1 : Option Addr) (n1 c1 : Nat) (A2 : Option Addr) (n2 c2 : Nat) (A3 : Option Addr) (n3 c3 : Nat) (A4 : Option Addr) (n4 c4 : Nat) (gen root next : Int) (A5 : Option Addr) (c5 : Nat) (S : Sto) (dead : List Int) (A : Option Addr) (c : Nat) (data : List UInt8) (w : World)
    (h : StoAt w w.heap.size (.slice A1 n1 c1) (.slice A2 n2 c2) (.slice A3 n3 c3) (.slice A4 n4 c4) S) (hd : Ints w w.heap.size (.slice A5 dead.length c5) dead) (hb : Bys w w.heap.size (.slice A data.length c) data) :
    Calls Try.prog 16 #[.agg (poolCs (.slice A1 n1 c1) (.slice A2 n2 c2) (.slice A3 n3 c3) (.slice A4 n4 c4) gen root next (.slice A5 dead.length c5)), .slice A data.length c] w (VLayQ S gen root next dead data w) := by
  have hmk : ∀ w, (Instr.makeSlice 26 (.int .i64 128) (.int .i64 128)).run Try.prog w = .ok (.slice (some ⟨w.heap.size, 0, none⟩) 128 128) (w.alloc (.cells ((List.replicate 128 (0 : UInt8)).map bv).toArray 5)) := fun _ => by kernel_rfl
  have hmf : ∀ (fn : Fn) (first cap : Array Value) (w : World), (Instr.makeFunc fn first cap).run Try.prog w = .ok (.func fn first cap) w := fun _ _ _ _ => rfl
  have hsz : (Try.prog.info? 5).map (·.size) = some 1 := by kernel_rfl
  have HC := Lib.hid (fun W (hx : Ext w W) => pcheck_any A1 n1 c1 A2 n2 c2 A3 n3 c3 A4 n4 c4 gen root next A5 c5 S dead W (h.ext hx) (hd.ext_ hx))
  replace h := Lib.hid h
  replace hd := Lib.hid hd
  replace hb := Lib.hid hb
  go_enter_defers Try.func16, Try.ntmps16
  go_wp2_with fail
  generalize hw1 : (World.alloc (World.alloc _ _) _) = w1
  have x1 : Ext w w1 := by rw [← hw1]; exact (((Ext.alloc _ _).trans (Ext.alloc _ _)).trans (Ext.alloc _ _)).trans (Ext.alloc _ _)
  have s1 : w1.heap.size = w.heap.size + 4 := by rw [← hw1]; simp
  have ra1 : w1.heap[w.heap.size]? = some (.cells (poolCs (.slice A1 n1 c1) (.slice A2 n2 c2) (.slice A3 n3 c3) (.slice A4 n4 c4) gen root next (.slice A5 dead.length c5)) 32 (0, 0)) := by rw [← hw1]; exact (Below.heap_alloc _ _ _ (by simp <;> omega)).trans ((Below.heap_alloc _ _ _ (by simp <;> omega)).trans ((Below.heap_alloc _ _ _ (by simp <;> omega)).trans (World.alloc_heap_at _ _ _ rfl)))
  have rb1 : w1.heap[w.heap.size + 1]? = some (.cells zeroCs 32 (0, 0)) := by rw [← hw1]; exact (Below.heap_alloc _ _ _ (by simp <;> omega)).trans ((Below.heap_alloc _ _ _ (by simp <;> omega)).trans (World.alloc_heap_at _ _ _ (by simp)))
  have rc1 : w1.heap[w.heap.size + 2]? = some (.cells #[.int .i64 0] 3 (0, 0)) := by rw [← hw1]; exact (Below.heap_alloc _ _ _ (by simp <;> omega)).trans (World.alloc_heap_at _ _ _ (by simp))
  have rd1 : w1.heap[w.heap.size + 3]? = some (.cells #[.int .i64 0] 35 (0, 0)) := by rw [← hw1]; exact World.alloc_heap_at _ _ _ (by simp)
  clear hw1
  refine (HC.out w1 x1).mono ?_
  clear HC
  rintro e w2 ⟨hB, hQ⟩
  have x2 : Ext w w2 := Ext.trans x1 hB
  have z2 : w.heap.size + 3 < w2.heap.size := by have := Below.size hB; omega
  have ra2 := row_ext ra1 hB
  have rb2 := row_ext rb1 hB
  have rc2 := row_ext rc1 hB
  have rd2 := row_ext rd1 hB
  clear hB ra1 rb1 rc1 rd1 x1
  have ka2 := cells_row ra2
  have kb2 := cells_row rb2
  have kc2 := cells_row rc2
  have kd2 := cells_row rd2
  have fb2 := frozen_row rb2
  have fc2 := frozen_row rc2
  have fd2 := frozen_row rd2
  rcases hQ with ⟨rfl, hno⟩ | ⟨rfl, vs, refs, nodes, hpool, hcnt, hen⟩
  · replace hno := Lib.hid hno
    go_wp2_with fail
    obtain ⟨g4, g5, g6, hbl, hz, -⟩ := lay_rows (b := w.heap.size) rb2 rc2 rd2 rfl
    refine lay_door none 0 0 none 0 0 none 0 0 none 0 0 0 0 0 (.slice none 0 0) 0 8 S rfl rfl rfl g4 g5 g6 (fun h => by cases h) (fun h => by cases h) (fun e' W' h0 hE' hT => ?_)
    obtain rfl : e' = 8 := by
      rcases hE' with ⟨h, _⟩ | ⟨_, h⟩
      · cases h
      · exact h
    have hBW := hT.below (hbl (B := w.heap.size) (by omega) x2) (by omega) (by omega) (by omega) (by rw [hz]; omega)
    exact ⟨hBW, .inl ⟨rfl, hno.out⟩⟩
  · replace hpool := Lib.hid hpool
    replace hcnt := Lib.hid hcnt
    replace hen := Lib.hid hen
    by_cases hl : 128 < data.length
    · have hE : layE S data = 3 := by unfold layE; rw [if_pos hl]
      have d1 : decide ((data.length : Int) > 128) = true := decide_eq_true (by omega)
      have d2 : decide (128 < data.length) = true := decide_eq_true hl
      replace hE := Lib.hid hE
      replace hl := Lib.hid hl
      go_wp2_with fail
      obtain ⟨g4, g5, g6, hbl, hz, -⟩ := lay_rows (b := w.heap.size) rb2 rc2 rd2 rfl
      refine lay_door none 0 0 none 0 0 none 0 0 none 0 0 0 0 0 (.slice none 0 0) 0 3 S rfl rfl rfl g4 g5 g6 (fun h => by cases h) (fun h => by cases h) (fun e' W' h0 hE' hT => ?_)
      obtain rfl : e' = 3 := by
        rcases hE' with ⟨h, _⟩ | ⟨_, h⟩
        · cases h
        · exact h
      have hBW := hT.below (hbl (B := w.heap.size) (by omega) x2) (by omega) (by omega) (by omega) (by rw [hz]; omega)
      exact ⟨hBW, .inr ⟨vs, refs, nodes, hpool.out, hcnt.out, hen.out, .inl ⟨by rw [hE.out]; decide, by rw [hE.out]⟩⟩⟩
    · have d1 : decide ((data.length : Int) > 128) = false := decide_eq_false (by omega)
      have d2 : decide (128 < data.length) = false := decide_eq_false hl
      have hl128 : data.length ≤ 128 := by omega
      replace hl := Lib.hid hl
      replace hl128 := Lib.hid hl128
      go_wp2_with fail
      have xa : Ext w2 (w2.alloc (.cells ((List.replicate 128 (0 : UInt8)).map bv).toArray 5)) := Ext.alloc _ _
      have r3 : (w2.alloc (.cells ((List.replicate 128 (0 : UInt8)).map bv).toArray 5)).heap[w2.heap.size]? = some (.cells ((List.replicate 128 (0 : UInt8)).map bv).toArray 5 (0, 0)) := World.alloc_heap_at _ _ _ rfl
      change Oper.upon _ _ _ _ _ (Result.andThen (Sem.run _ _ (w2.alloc (.cells ((List.replicate 128 (0 : UInt8)).map bv).toArray 5))) _)
      generalize hw3 : w2.alloc _ = w3 at *
      clear hw3 hmk
      have hcp := run_copy_bys (P := Try.prog) w3 26 26 3 5 w2.heap.size 0 128 128 A c data _ _ Try.underlying26 hsz r3 (hb.out.below (x2.trans xa)) hl128.out (by simp; exact hl128.out)
      rw [hcp]
      clear hcp
      have r4 := setRow_heap w3 w2.heap.size _ (List.take 0 (List.map bv (List.replicate 128 0)).toArray.toList ++ List.map bv data ++ List.drop (0 + data.length) (List.map bv (List.replicate 128 0)).toArray.toList).toArray _ _ r3
      have x4 : Below w2.heap.size w2 (w3.setRow w2.heap.size (List.take 0 (List.map bv (List.replicate 128 0)).toArray.toList ++ List.map bv data ++ List.drop (0 + data.length) (List.map bv (List.replicate 128 0)).toArray.toList).toArray) :=
        Below.grown xa (setRow_grown _ _ _) xa.size (fun g e => by cases e; exact Nat.le_refl _)
      generalize hw4 : w3.setRow w2.heap.size (List.take 0 (List.map bv (List.replicate 128 0)).toArray.toList ++ List.map bv data ++ List.drop (0 + data.length) (List.map bv (List.replicate 128 0)).toArray.toList).toArray = w4 at *
      rw [pad_row] at r4
      have x24 : Ext w2 w4 := x4
      have y4 : Ext w w4 := x2.trans x24
      have hpl : (padB 128 data).length = 128 := padB_len hl128.out
      have hpb : Bys w4 w4.heap.size (.slice (some ⟨w2.heap.size, 0, none⟩) 128 128) (padB 128 data) := by
        refine ⟨_, 128, by rw [hpl], Nat.le_of_eq hpl, by unfold maxLen; omega, by rw [hpl]; simp [hpl], fun _ => ⟨w2.heap.size, 0, rfl, (Array.getElem?_eq_some_iff.1 r4).1, fun j u hu => ?_⟩⟩
        rw [Nat.zero_add, cells_row r4]
        simpa using hu
      have HT := rtake_any A1 n1 c1 A2 n2 c2 A3 n3 c3 A4 n4 c4 S (some ⟨w2.heap.size, 0, none⟩) 128 (padB 128 data) w4 (h.out.ext y4) (by rw [hpl]; exact hpb)
      rw [hpl] at HT
      clear hw4 r3 r4 xa hpb x4 ka2 kb2 kc2 kd2 fb2 fc2 fd2
      have ra4 := row_ext ra2 x24
      have rb4 := row_ext rb2 x24
      have rc4 := row_ext rc2 x24
      have rd4 := row_ext rd2 x24
      have ka4 := cells_row ra4
      replace hpl := Lib.hid hpl
      go_wp2_with fail
      refine HT.mono ?_
      clear HT
      rintro e w5 ⟨u, rfl, hu, hB⟩
      have x45 : Ext w4 w5 := hB
      have y5 : Ext w w5 := y4.trans hB
      have z45 := x45.size
      have z24 := x24.size
      have ra5 := row_ext ra4 hB
      have rb5 := row_ext rb4 hB
      have rc5 := row_ext rc4 hB
      have rd5 := row_ext rd4 hB
      clear hB ra4 rb4 rc4 rd4 ra2 rb2 rc2 rd2 ka4
      have ka5 := cells_row ra5
      have kb5 := cells_row rb5
      have kc5 := cells_row rc5
      have kd5 := cells_row rd5
      have fa5 := frozen_row ra5
      have fb5 := frozen_row rb5
      have fc5 := frozen_row rc5
      have fd5 := frozen_row rd5
      have za5 : w.heap.size < w5.heap.size := by omega
      have zb5 : w.heap.size + 1 < w5.heap.size := by omega
      have zc5 : w.heap.size + 1 + 1 < w5.heap.size := by omega
      have zd5 : w.heap.size + 1 + 1 + 1 < w5.heap.size := by omega
      have hLE : layE S data = if takeE S (padB 128 data) ≠ 0 then takeE S (padB 128 data) else roomE (putAt S (firstFree S) (padB 128 data)) := by unfold layE; rw [if_neg hl.out]
      replace hLE := Lib.hid hLE
      rcases hu with ⟨h1, rfl⟩ | ⟨h1, v, rfl, hns⟩
      · have hLE' := Lib.hid (hLE.out.trans (if_pos h1))
        clear hLE
        generalize takeE S (padB 128 data) = er at *
        have b1 : (er != 0) = true := by rw [bne_iff_ne]; exact h1
        replace h1 := Lib.hid h1
        go_wp2_with fail
        generalize hw6 : (w5.setCell _ _).setCell ⟨w.heap.size + 1 + 1 + 1, 0, none⟩ _ = w6
        obtain ⟨rc6, rd6, hb6, z6, ho6⟩ := two_rows rc5 rd5 hw6
        have rb6 : w6.heap[w.heap.size + 1]? = _ := (ho6 _ (by omega) (by omega)).trans rb5
        clear hw6
        obtain ⟨g4, g5, g6, hbl, hz, -⟩ := lay_rows (b := w.heap.size) rb6 rc6 rd6 rfl
        refine lay_door none 0 0 none 0 0 none 0 0 none 0 0 0 0 0 (.slice none 0 0) 0 er S rfl rfl rfl (row_ext g4 (Ext.alloc _ _)) (row_ext g5 (Ext.alloc _ _)) (row_ext g6 (Ext.alloc _ _)) (fun h => absurd h h1.out) (fun h => absurd h h1.out) (fun e' W' h0 hE' hT => ?_)
        obtain rfl : e' = er := by
          rcases hE' with ⟨h, _⟩ | ⟨_, h⟩
          · exact absurd h h1.out
          · exact h
        have hBW := hT.below (Below.alloc (hbl (B := w.heap.size) (by omega) (hb6 (by omega) y5)) (by rw [hz, z6]; omega) _) (by omega) (by omega) (by omega) (by simp [hz, z6]; omega)
        exact ⟨hBW, .inr ⟨vs, refs, nodes, hpool.out, hcnt.out, hen.out, .inl ⟨by rw [hLE'.out]; exact h1.out, by rw [hLE'.out]⟩⟩⟩
      · have hLE' := Lib.hid (hLE.out.trans (if_neg (by simpa using h1)))
        obtain ⟨B1, d1, B2, d2, B3, d3, B4, d4, rfl, hns2⟩ := hns
        replace h1 := Lib.hid h1
        replace hns2 := Lib.hid hns2
        clear hLE
        generalize hff : firstFree S = ff at *
        generalize hS' : putAt S ff (padB 128 data) = S' at *
        go_upto_region 12 with fail
        generalize hw6 : (w5.setCell _ _).setCell ⟨w.heap.size + 1 + 1 + 1, 0, none⟩ _ = w6
        obtain ⟨rc6, rd6, hb6, z6, ho6⟩ := two_rows rc5 rd5 hw6
        have rb6 : w6.heap[w.heap.size + 1]? = _ := (ho6 _ (by omega) (by omega)).trans rb5
        have ra6 : w6.heap[w.heap.size]? = _ := (ho6 _ (by omega) (by omega)).trans ra5
        have y6 : Below w.heap.size w w6 := hb6 (by omega) y5
        clear hw6
        have x67 : Ext w6 (w6.alloc (.cells #[.slice B1 S'.bs.length d1, .slice B2 S'.ws.length d2, .slice B3 S'.now.length d3, .slice B4 S'.last.length d4] 28)) := Ext.alloc _ _
        have rt7 : (w6.alloc (.cells #[.slice B1 S'.bs.length d1, .slice B2 S'.ws.length d2, .slice B3 S'.now.length d3, .slice B4 S'.last.length d4] 28)).heap[w5.heap.size]? = _ := World.alloc_heap_at _ _ _ z6.symm
        have z7 : (w6.alloc (.cells #[.slice B1 S'.bs.length d1, .slice B2 S'.ws.length d2, .slice B3 S'.now.length d3, .slice B4 S'.last.length d4] 28)).heap.size = w5.heap.size + 1 := by simp [z6]
        generalize hw7 : w6.alloc _ = w7 at *
        clear hw7 ka5 kb5 kc5 kd5 fa5 fb5 fc5 fd5
        have ra7 := row_ext ra6 x67
        have rb7 := row_ext rb6 x67
        have rc7 := row_ext rc6 x67
        have rd7 := row_ext rd6 x67
        have y7 : Ext w w7 := Ext.trans y6 x67
        have h57 : ∀ k, k < w5.heap.size → k ≠ w.heap.size + 2 → k ≠ w.heap.size + 3 → w7.heap[k]? = w5.heap[k]? := fun k h1 h2 h3 => (x67.block k (by omega)).trans (ho6 k h2 h3)
        have gP : ∀ W, Ext w7 W → ∀ i, W.cell? ⟨w.heap.size, i, none⟩ = (poolCs (.slice A1 n1 c1) (.slice A2 n2 c2) (.slice A3 n3 c3) (.slice A4 n4 c4) gen root next (.slice A5 dead.length c5))[i]? := fun W h => cells_row (row_ext ra7 h)
        have gS : ∀ W, Ext w7 W → ∀ i, W.cell? ⟨w5.heap.size, i, none⟩ = #[.slice B1 S'.bs.length d1, .slice B2 S'.ws.length d2, .slice B3 S'.now.length d3, .slice B4 S'.last.length d4][i]? := fun W h => cells_row (row_ext rt7 h)
        have HI := Lib.hid (fun W (hW : Ext w7 W) => iclone_any (.slice A5 dead.length c5) dead (by have := hpool.out.few; omega) W (hd.out.ext_ (y7.trans hW)))
        replace ho6 := Lib.hid ho6
        replace h57 := Lib.hid h57
        clear ra5 rb5 rc5 rd5 ra6 rb6 rc6 rd6 x67 hb6
        refine wp_region_free (outsAt [(3, outN w7.heap.size dead.length dead)]) 5 (by kernel_rfl) (by kernel_rfl) (by kernel_rfl) (by decide) (by kernel_rfl) (by kernel_rfl) ?st ?walk
        case st => exact outsAt_stable (by simp only [List.forall_mem_cons]; exact ⟨outN_stable _ _ _, fun _ h => by cases h⟩)
        case walk =>
          intro K hK
          dsimp only [List.take]
          repeat ((first | (refine free_plain ?_ (by rfl) (by rfl) (fun W hW _ => ⟨W, ?_, Ext.refl W⟩) ?_; rotate_left; (first | (go_simp; with_reducible rfl) | (go_simp; done))) | (refine free_skip (by rfl) ?_)); try simp only [Act.put, one_f, outB_f, outNew_f, outI_f, outN_f, outRowB_f, List.setIfInBounds_toArray, List.set_cons_zero, List.set_cons_succ])
          refine free_hard (outN w7.heap.size dead.length dead) (by rfl) (by rfl) (fun W hW _ => ?_) (fun p => ?_)
          · refine hardAt_call ?_ ((HI.out W hW).mono fun e w' h => ?_)
            · go_simp
            obtain ⟨u, rfl, hu, hB⟩ := h
            obtain ⟨A', c', rfl, _, _⟩ := own_slice hu
            exact ⟨(A', c'), rfl, ⟨Ints.of_own hu, (From.of_own hu).mono hW.size⟩, hB⟩
          obtain ⟨B5, d5⟩ := p
          simp only [Act.put, one_f, outB_f, outNew_f, outI_f, outN_f, outRowB_f, List.setIfInBounds_toArray, List.set_cons_zero, List.set_cons_succ]
          repeat ((first | (refine free_plain ?_ (by rfl) (by rfl) (fun W hW _ => ⟨W, ?_, Ext.refl W⟩) ?_; rotate_left; (first | (go_simp; with_reducible rfl) | (go_simp; done))) | (refine free_skip (by rfl) ?_)); try simp only [Act.put, one_f, outB_f, outNew_f, outI_f, outN_f, outRowB_f, List.setIfInBounds_toArray, List.set_cons_zero, List.set_cons_succ])
          refine free_nil (hK _ _ fun W hW hF => ?_)
          have hI : Ints W W.heap.size (.slice B5 dead.length d5) dead ∧ From w7.heap.size (.slice B5 dead.length d5) := (hF 3).1
          clear hF hK gP gS
          dsimp only [List.drop]
          have ra8 := row_ext ra7 hW
          have rb8 := row_ext rb7 hW
          have rc8 := row_ext rc7 hW
          have rd8 := row_ext rd7 hW
          have ka8 := cells_row ra8
          have fa8 := frozen_row ra8
          have za8 : w.heap.size < W.heap.size := (Array.getElem?_eq_some_iff.1 ra8).1
          have zd8 : w.heap.size + 3 < W.heap.size := (Array.getElem?_eq_some_iff.1 rd8).1
          replace hI := Lib.hid hI
          clear HI ra7 rb7 rc7 rd7 rt7
          go_upto_region 13 with fail
          generalize hWp : (((((W.setCell ⟨w.heap.size, 0, none⟩ _).setCell ⟨w.heap.size, 1, none⟩ _).setCell ⟨w.heap.size, 2, none⟩ _).setCell ⟨w.heap.size, 3, none⟩ _).setCell ⟨w.heap.size, 7, none⟩ _) = Wp
          have hop : ∀ k, k ≠ w.heap.size → Wp.heap[k]? = W.heap[k]? := fun k hk => by rw [← hWp, Below.heap_setCell _ _ _ _ hk, Below.heap_setCell _ _ _ _ hk, Below.heap_setCell _ _ _ _ hk, Below.heap_setCell _ _ _ _ hk, Below.heap_setCell _ _ _ _ hk]
          have rap : Wp.heap[w.heap.size]? = some (.cells (poolCs (.slice B1 S'.bs.length d1) (.slice B2 S'.ws.length d2) (.slice B3 S'.now.length d3) (.slice B4 S'.last.length d4) gen root next (.slice B5 dead.length d5)) 32 (0, 0)) := by rw [← hWp]; exact row_set (row_set (row_set (row_set (row_set ra8 0 _) 1 _) 2 _) 3 _) 7 _
          have zp : Wp.heap.size = W.heap.size := by rw [← hWp]; simp
          have xp : Below w.heap.size w Wp := by rw [← hWp]; exact Below.setCell (below4 (y7.trans hW) (b := w.heap.size) (Nat.le_refl _) _ _ _ _) (p := ⟨w.heap.size, 7, none⟩) (Nat.le_refl _) _
          clear hWp
          have rbp : Wp.heap[w.heap.size + 1]? = _ := (hop _ (by omega)).trans rb8
          have rcp : Wp.heap[w.heap.size + 2]? = _ := (hop _ (by omega)).trans rc8
          have rdp : Wp.heap[w.heap.size + 3]? = _ := (hop _ (by omega)).trans rd8
          have z7W := Below.size hW
          have hWb : ∀ k, k < w7.heap.size → W.heap[k]? = w7.heap[k]? := fun k hk => Below.block hW k hk
          replace hWb := Lib.hid hWb
          replace hop := Lib.hid hop
          clear ra8 rb8 rc8 rd8 ka8 fa8 hW
          obtain ⟨csP, hcs⟩ : ∃ csP, csP = poolCs (.slice B1 S'.bs.length d1) (.slice B2 S'.ws.length d2) (.slice B3 S'.now.length d3) (.slice B4 S'.last.length d4) gen root next (.slice B5 dead.length d5) := ⟨_, rfl⟩
          replace hcs := Lib.hid hcs
          obtain ⟨RR, hRR⟩ : ∃ RR : Rel, RR = rowRel (w.heap.size + 1) 32 csP := ⟨_, rfl⟩
          replace hRR := Lib.hid hRR
          have gA : ∀ W, RR.r Wp W → ∀ i, W.cell? ⟨w.heap.size, i, none⟩ = (poolCs (.slice B1 S'.bs.length d1) (.slice B2 S'.ws.length d2) (.slice B3 S'.now.length d3) (.slice B4 S'.last.length d4) gen root next (.slice B5 dead.length d5))[i]? := fun W h => cells_row (rowRel_row (hRR.out ▸ h) (by omega) rap)
          have gC : ∀ W, RR.r Wp W → ∀ i, W.cell? ⟨w.heap.size + 1 + 1, i, none⟩ = #[.int .i64 (ff : Int)][i]? := fun W h => cells_row (rowRel_row (hRR.out ▸ h) (by omega) rcp)
          refine region_start (by kernel_rfl) ?_
          refine any_freeT (w := Wp) RR (outsAt [(2, outRowB (w.heap.size + 1) 32 csP)]) [true, true, true] 2 (by kernel_rfl) (by kernel_rfl) (by kernel_rfl) (by kernel_rfl) (by kernel_rfl) (by kernel_rfl) (by kernel_rfl) ?st (Rel.drew _ _) ?walk
          case st => rw [hRR.out]; exact outsAt_stableG (by simp only [List.forall_mem_cons]; exact ⟨outRowB_stable, fun _ h => by cases h⟩)
          case walk =>
            intro K hK
            dsimp only [maskOps]
            repeat ((first | (refine free_plainM ?_ (by rfl) (by rfl) (fun W hW _ => ⟨W, ?_, Rel.refl _ W⟩) ?_; rotate_left; (first | (go_simp; with_reducible rfl) | (go_simp; done))) | (refine free_skipM (by rfl) ?_)); try simp only [Act.put, one_f, outB_f, outNew_f, outI_f, outN_f, outRowB_f, List.setIfInBounds_toArray, List.set_cons_zero, List.set_cons_succ])
            refine free_hardM (outRowB (w.heap.size + 1) 32 csP) (by rfl) (by rfl) (fun W hW hp => ?_) (fun p => ?_)
            · rw [hRR.out] at hW ⊢
              rw [hcs.out]
              have zo : w.heap.size + 1 < W.heap.size := by have := hW.1.size; omega
              rcases rowRel_own hW rbp with h8 | h8
              · have k8 := cells_row h8
                have f8 := frozen_row h8
                refine hardAt_row8 h8 ?_
                go_simp
              · rw [hcs.out] at h8
                have k8 := cells_row h8
                have f8 := frozen_row h8
                refine hardAt_row8 h8 ?_
                go_simp
            simp only [Act.put, one_f, outB_f, outNew_f, outI_f, outN_f, outRowB_f, List.setIfInBounds_toArray, List.set_cons_zero, List.set_cons_succ]
            repeat ((first | (refine free_plainM ?_ (by rfl) (by rfl) (fun W hW _ => ⟨W, ?_, Rel.refl _ W⟩) ?_; rotate_left; (first | (go_simp; with_reducible rfl) | (go_simp; done))) | (refine free_skipM (by rfl) ?_)); try simp only [Act.put, one_f, outB_f, outNew_f, outI_f, outN_f, outRowB_f, List.setIfInBounds_toArray, List.set_cons_zero, List.set_cons_succ])
            refine free_nilM (hK _ _ fun W9 hW9 hF => ?_)
            have rb9 : W9.heap[w.heap.size + 1]? = some (.cells csP 32 (0, 0)) := (hF 2).1
            clear hF hK gA gC
            rw [hRR.out] at hW9
            have h9 : ∀ k, k < Wp.heap.size → k ≠ w.heap.size + 1 → W9.heap[k]? = Wp.heap[k]? := fun k h1 h2 => hW9.1.block k h1 (fun e => h2 (by simpa using e))
            have y9 : Below w.heap.size w W9 := xp.trans (rowRel_below hW9 (by omega) (by omega))
            have z9 := hW9.1.size
            have rc9 := rowRel_row hW9 (by omega) rcp
            have rd9 := rowRel_row hW9 (by omega) rdp
            rw [hcs.out] at rb9
            replace h9 := Lib.hid h9
            clear rap rbp rcp rdp hW9 hRR
            dsimp only [List.drop, List.length_cons, List.length_nil]
            have kc9 := cells_row rc9
            have kd9 := cells_row rd9
            have fc9 := frozen_row rc9
            have fd9 := frozen_row rd9
            go_wp2_with fail
            refine QN_in ?_
            go_wp2_with fail
            generalize hWf : (W9.setCell _ _).setCell ⟨w.heap.size + 1 + 1 + 1, 0, none⟩ _ = Wf
            obtain ⟨rcf, rdf, hbf, zf, hof⟩ := two_rows rc9 rd9 hWf
            have rbf : Wf.heap[w.heap.size + 1]? = _ := (hof _ (by omega) (by omega)).trans rb9
            clear hWf kc9 kd9 fc9 fd9
            have hsame : ∀ k, w.heap.size + 3 < k → k < W.heap.size → Wf.heap[k]? = W.heap[k]? := fun k h1 h2 => (hof k (by omega) (by omega)).trans ((h9.out k (by omega) (by omega)).trans (hop.out k (by omega)))
            have hsam5 : ∀ k, w.heap.size + 3 < k → k < w5.heap.size → Wf.heap[k]? = w5.heap[k]? := fun k h1 h2 => (hsame k h1 (by omega)).trans ((hWb.out k (by omega)).trans (h57.out k h2 (by omega) (by omega)))
            refine lay_door B1 S'.bs.length d1 B2 S'.ws.length d2 B3 S'.now.length d3 B4 S'.last.length d4 gen root next (.slice B5 dead.length d5) (ff : Int) 0 S' rfl rfl rfl rbf rcf rdf (fun _ => ?_) (fun _ hE W' hT => ?_) (fun e' W' h0 hE hT => ?_)
            · exact (hns2.out Wf fun q v h1 h2 h3 => (World.cell?_of_block (hsam5 q.block (by omega) h2)).trans h3).more (by omega)
            · have hBW := hT.below (hbf (B := w.heap.size) (by omega) y9) (by omega) (by omega) (by omega) (by omega)
              refine ⟨hBW, .inr ⟨vs, refs, nodes, hpool.out, hcnt.out, hen.out, .inr ⟨by rw [hLE'.out]; exact hE, _, by rw [hff], ?_⟩⟩⟩
              rw [hff, hS']
              have hzT := hT.size
              refine ⟨B1, d1, B2, d2, B3, d3, B4, d4, B5, d5, rfl, fun C hC => ⟨(hns2.out C fun q v h1 h2 h3 => ?_).more (by omega), (hI.out.1.pos hI.out.2 fun q v h1 h2 h3 => ?_).more (by omega)⟩⟩
              · exact hC q v (by omega) (by omega) ((World.cell?_of_block ((hT.same q.block (by omega) (by omega) (by omega) (by omega)).trans (hsam5 q.block (by omega) h2))).trans h3)
              · exact hC q v (by omega) (by omega) ((World.cell?_of_block ((hT.same q.block (by omega) (by omega) (by omega) (by omega)).trans (hsame q.block (by omega) h2))).trans h3)
            · have hBW := hT.below (hbf (B := w.heap.size) (by omega) y9) (by omega) (by omega) (by omega) (by omega)
              obtain rfl : e' = roomE S' := by
                rcases hE with ⟨_, h⟩ | ⟨h, _⟩
                · exact h
                · exact absurd rfl h
              exact ⟨hBW, .inr ⟨vs, refs, nodes, hpool.out, hcnt.out, hen.out, .inl ⟨by rw [hLE'.out]; exact h0, by rw [hLE'.out]⟩⟩⟩
end Go.Proofs.Ytlgbjpihmkeopaa
/- A block laid, shared, let go: what stays of a store's nodes. -/
namespace Go.Proofs.Ytlgbjpihmkeopaa
set_option linter.unusedSimpArgs false
set_option linter.unusedVariables false
open Go.RowKit

theorem lastTo_snoc (ws : List (Int × List UInt8)) (a r : Int) (l : List UInt8) (h : a ≠ r) : lastTo (ws ++ [(a, l)]) r = lastTo ws r := by
  unfold lastTo
  rw [List.reverse_append, List.reverse_singleton, List.singleton_append, List.find?_cons]
  have : (a == r) = false := by rw [beq_eq_false_iff_ne]; exact h
  simp only [this]
theorem seen_put (S : Sto) {a r : Nat} (l : List UInt8) (h : r ≠ a) : seenB (putAt S a l) r = seenB S r := by
  unfold seenB putAt
  simp only
  rw [lastTo_snoc _ _ _ _ (show (a : Int) ≠ (r : Int) by omega)]
theorem now_set (t : List UInt8) {a r : Nat} (v : UInt8) (h : r ≠ a) : (t.set a v)[r]?.getD 0 = t[r]?.getD 0 := by rw [List.getElem?_set_ne (Ne.symm h)]
theorem now_set_at (t : List UInt8) {a : Nat} (v : UInt8) (h : a < t.length) : (t.set a v)[a]?.getD 0 = v := by rw [List.getElem?_set_self h]; rfl
theorem sm_put {S : Sto} {a : Nat} (l : List UInt8) (h0 : nowN S a = 0) (hl : a < S.now.length) : SM S (putAt S a l) where
  node r nd e := by
    by_cases hr : r = a
    · subst hr
      unfold nodeAt at e
      rw [if_pos (show (S.now[r]?.getD 0).toNat = 0 from h0)] at e
      cases e
    · unfold nodeAt at e ⊢
      rw [seen_put S l hr, show (putAt S a l).now[r]?.getD 0 = S.now[r]?.getD 0 from now_set _ _ hr]
      exact e
  pos r h := by
    by_cases hr : r = a
    · subst hr
      rw [show (putAt S r l).now[r]?.getD 0 = 1 from now_set_at _ _ hl]
      decide
    · rw [show (putAt S a l).now[r]?.getD 0 = S.now[r]?.getD 0 from now_set _ _ hr]
      exact h
theorem sm_now {S : Sto} {t : List UInt8} (h : ∀ r : Nat, 0 < (S.now[r]?.getD 0).toNat → 0 < (t[r]?.getD 0).toNat) : SM S (withNow S t) where
  node r nd e := by
    unfold nodeAt at e ⊢
    split at e
    · cases e
    · rename_i h1
      rw [if_neg (by have := h r (by omega); simp only; omega)]
      exact e
  pos := h
theorem sm_back {S : Sto} {a : Nat} (l : List UInt8) {t : List UInt8} (h0 : nowN S a = 0) (ht : ∀ r : Nat, t[r]?.getD 0 = S.now[r]?.getD 0) : SM S (withNow (putAt S a l) t) where
  node r nd e := by
    by_cases hr : r = a
    · subst hr
      unfold nodeAt at e
      rw [if_pos (show (S.now[r]?.getD 0).toNat = 0 from h0)] at e
      cases e
    · unfold nodeAt at e ⊢
      rw [show seenB (withNow (putAt S a l) t) r = seenB S r from seen_put S l hr, show (withNow (putAt S a l) t).now[r]?.getD 0 = S.now[r]?.getD 0 from ht r]
      exact e
  pos r h := by
    rw [show (withNow (putAt S a l) t).now[r]?.getD 0 = S.now[r]?.getD 0 from ht r]
    exact h
theorem tabMay_set {t : List UInt8} {a : Nat} (h : tabMay t = true) (ha : 8 ≤ a) (v : UInt8) : tabMay (t.set a v) = true := by
  unfold tabMay at *
  simp only [Bool.and_eq_true, decide_eq_true_eq] at *
  refine ⟨by rw [List.length_set]; exact h.1, ?_⟩
  rw [List.take_set_of_le ha]
  exact h.2
theorem storeMay_iff {S : Sto} : storeMay S = true ↔ diskMay S.bs S.ws = true ∧ tabMay S.now = true ∧ tabMay S.last = true := by unfold storeMay; simp [Bool.and_eq_true]
theorem may_now {S : Sto} (h : storeMay S = true) {a : Nat} (ha : 8 ≤ a) (v : UInt8) : storeMay (withNow S (S.now.set a v)) = true := by
  obtain ⟨h1, h2, h3⟩ := storeMay_iff.1 h
  exact storeMay_iff.2 ⟨h1, tabMay_set h2 ha v, h3⟩
theorem may_put {S : Sto} (h : storeMay S = true) {a : Nat} (ha : 8 ≤ a) (ha2 : a < 256) {l : List UInt8} (hl : l.length = 128) (hw : S.ws.length ≠ 4096) : storeMay (putAt S a l) = true := by
  obtain ⟨h1, h2, h3⟩ := storeMay_iff.1 h
  refine storeMay_iff.2 ⟨?_, tabMay_set h2 ha 1, h3⟩
  unfold diskMay headD at *
  simp only [Bool.and_eq_true, decide_eq_true_eq, putAt, List.length_append, List.length_singleton, List.all_append, List.all_cons, List.all_nil, Bool.and_true] at *
  obtain ⟨⟨g1, g2⟩, g3, g4⟩ := h1
  refine ⟨⟨g1, by omega⟩, g3, g4, ?_⟩
  unfold wrOk
  exact decide_eq_true ⟨by simp, by simp; omega, hl⟩
theorem layE_ok {S : Sto} {data : List UInt8} (h : layE S data = 0) : storeMay S = true ∧ S.ws.length ≠ 4096 ∧ (padB 128 data).length = 128 ∧ 8 ≤ firstFree S ∧ firstFree S < 256 ∧ nowN S (firstFree S) = 0 ∧ lastN S (firstFree S) = 0 := by
  unfold layE at h
  split at h
  · cases h
  · rename_i hl
    split at h
    · rename_i ht; exact absurd h ht
    · rename_i ht
      have ht : takeE S (padB 128 data) = 0 := by simpa using ht
      unfold takeE at ht
      split at ht
      · rename_i hS
        split at ht
        · rename_i h128
          split at ht
          · cases ht
          · rename_i hno
            have hne : freeS S ≠ [] := fun e => hno (.inl e)
            have hmem : firstFree S ∈ freeTo S 256 := by
              show firstFree S ∈ freeS S
              unfold firstFree
              rcases hf : freeS S with _ | ⟨x, r⟩
              · exact absurd hf hne
              · simp
            obtain ⟨h1, h2⟩ := List.mem_filter.1 hmem
            unfold freeB at h2
            simp only [Bool.and_eq_true, decide_eq_true_eq] at h2
            exact ⟨hS, fun e => hno (.inr e), h128, h2.1, by simpa using h1, h2.2.1, h2.2.2⟩
        · cases ht
      · cases ht
end Go.Proofs.Ytlgbjpihmkeopaa
/- Each block counted: plain words. -/
namespace Go.Proofs.Ytlgbjpihmkeopaa
set_option linter.unusedSimpArgs false
set_option linter.unusedVariables false
open Go.RowKit

def heldOk (held : List Int) : Bool := held.all fun a => decide (8 ≤ a ∧ a < 256)
def countsB (S : Sto) (refs : Nat → Nat) (held : List Int) : Bool := (List.range 256).all fun a => decide (a < 8) || decide (refs a + held.count (a : Int) = (S.now[a]?.getD 0).toNat)
def countsV (S : Sto) (refs : Nat → Nat) (held : List Int) : Bool × Int := if 1024 < held.length then (false, 4) else if heldOk held = true then (countsB S refs held, 0) else (false, 2)
def heldTo (refs : Nat → Nat) (held : List Int) (k : Nat) : Nat → Nat := fun a => refs a + (held.take k).count (a : Int)
theorem heldTo_succ (refs : Nat → Nat) (held : List Int) {k : Nat} (hk : k < held.length) {a : Nat} (ha : held[k] = (a : Int)) : heldTo refs held (k + 1) = bump (heldTo refs held k) a := by
  funext b
  show refs b + (held.take (k + 1)).count (b : Int) = (refs b + (held.take k).count (b : Int)) + if b = a then 1 else 0
  rw [List.take_succ_eq_append_getElem hk, List.count_append, ha, List.count_singleton]
  by_cases e : b = a
  · rw [if_pos e, if_pos (by simp [e])]; omega
  · rw [if_neg e, if_neg (by simp; omega)]
    rfl
theorem heldOk_bad {held : List Int} {k : Nat} (hk : k < held.length) (h : ¬ (8 ≤ held[k] ∧ held[k] < 256)) : heldOk held = false := all_bad hk (decide_eq_false h)
theorem tab_at {w : World} {B : Nat} {v : Value} {l : List UInt8} (h : Bys w B v l) (hl : l.length = 256) : ∃ b o c, v = .slice (some ⟨b, o, none⟩) 256 c ∧ b < B ∧ ∀ k : Nat, k < 256 → w.cell? ⟨b, o + k, none⟩ = some (.int .u8 ((l[k]?.getD 0).toNat : Int)) := by
  obtain ⟨A, c, rfl, _, _, hr⟩ := h
  obtain ⟨b, o, rfl, hb, hc⟩ := hr.2 (by omega)
  exact ⟨b, o, c, by rw [hl], hb, fun k hk => hc k _ (by rw [List.getElem?_map, List.getElem?_eq_getElem (by omega)]; rfl)⟩
end Go.Proofs.Ytlgbjpihmkeopaa
