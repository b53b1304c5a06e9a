/- Texts Copy, HeapC, FreeC, DoneX, TwinW, Short, joined. -/
import Derived.Laws.CopyRow
import Derived.Laws.IdiomCopy
import Derived.Lib.Walk
import Derived.Test.YtlgbjpihmkeopaaU01
import Derived.Test.YtlgbjpihmkeopaaU03
import Derived.Test.YtlgbjpihmkeopaaU06
import Derived.Test.YtlgbjpihmkeopaaU07
import Derived.Test.YtlgbjpihmkeopaaU11
/- The builtin copy, onto a row of the call's own. -/
namespace Go.Proofs.Ytlgbjpihmkeopaa
set_option linter.unusedSimpArgs false
set_option linter.unusedVariables false
open Go.RowKit

theorem setRow_grown (w : World) (g : Nat) (cs : Array Value) : w.grownBy (w.setRow g cs) (some g) :=
  ⟨rfl, rfl, rfl, by simp, fun k _ hk => setRow_other w g k _ (fun e => hk (by simp [e]))⟩
theorem run_copy_bys {P : Program} (W : World) {B : Nat} (dT sT ty elem : TypeId) (g o dLen dCap : Nat) (A : Option Addr) (c : Nat) (l : List UInt8) (cur : Array Value) (t : TypeId)
    (hu : P.underlying dT = some (.slice elem)) (hs : (P.info? elem).map (·.size) = some 1) (hg : W.heap[g]? = some (.cells cur t (0, 0))) (h : Bys W B (.slice A l.length c) l) (hd : l.length ≤ dLen) (hfit : o + l.length ≤ cur.size) :
    (Builtin.copy_ #[dT, sT] ty #[.slice (some ⟨g, o, none⟩) dLen dCap, .slice A l.length c]).run P W = .ok (.int .i64 (l.length : Int)) (W.setRow g (cur.toList.take o ++ l.map bv ++ cur.toList.drop (o + l.length)).toArray) := by
  obtain ⟨A', c', e, hc, hm, hr⟩ := h
  simp only [Value.slice.injEq, true_and] at e
  obtain ⟨rfl, rfl⟩ := e
  rcases A with _ | ad
  · have h0 : l.length = 0 := by
      rcases Nat.eq_zero_or_pos l.length with h0 | h0
      · exact h0
      · obtain ⟨b, off, h, _⟩ := hr.2 h0
        cases h
    obtain rfl : l = [] := List.eq_nil_of_length_eq_zero h0
    cases hq : P.info? elem with
    | none => simp [hq] at hs
    | some i =>
      simp [Builtin.copy_, run_underlying hu, Builtin.lenOf, Builtin.firstCells, sizeOf, typeInfo, hq, storeCells]
      rw [setRow_self W g cur t (0, 0) hg]
      exact ⟨rfl, rfl⟩
  · have hsrc : ∀ j v, (l.map bv)[j]? = some v → W.cell? (ad.add j) = some v := by
      intro j v hv
      rcases Nat.eq_zero_or_pos l.length with h0 | h0
      · obtain rfl : l = [] := List.eq_nil_of_length_eq_zero h0
        simp at hv
      · obtain ⟨b, off, h, _⟩ := hr.2 h0
        cases h
        exact hr.adds h0 j v hv
    have := run_copy_row P W dT sT ty elem g o dLen dCap ad l.length c cur t (l.map bv) hu hs hg (by simp [Nat.min_eq_left hd]) hsrc (by simpa using hfit) (bvs_one l)
    rw [List.length_map] at this
    exact this
end Go.Proofs.Ytlgbjpihmkeopaa
/- Contracts: a piece cut out of new memory. -/
namespace Go.Proofs.Ytlgbjpihmkeopaa
set_option linter.unusedSimpArgs false
set_option linter.unusedVariables false
open Go.RowKit

def laidAt (cur : Array Value) (o : Nat) (l : List UInt8) : Array Value := (cur.toList.take o ++ l.map bv ++ cur.toList.drop (o + l.length)).toArray
theorem laidAt_size {cur : Array Value} {o : Nat} {l : List UInt8} (h : o + l.length ≤ cur.size) : (laidAt cur o l).size = cur.size := by
  simp [laidAt]
  omega
theorem laidAt_old {cur : Array Value} {o : Nat} {l : List UInt8} {j : Nat} (h : o + l.length ≤ cur.size) (hj : j < o ∨ o + l.length ≤ j) : (laidAt cur o l)[j]? = cur[j]? := by
  unfold laidAt
  rw [List.getElem?_toArray]
  have hcl : cur.toList.length = cur.size := by simp
  rcases hj with hj | hj
  · rw [List.append_assoc, List.getElem?_append_left (by rw [List.length_take]; omega), List.getElem?_take, if_pos hj]
    simp
  · rw [List.getElem?_append_right (by rw [List.length_append, List.length_take, List.length_map]; omega), List.getElem?_drop, List.length_append, List.length_take, List.length_map, hcl]
    rw [show o + l.length + (j - (min o cur.size + l.length)) = j by omega]
    simp
theorem laidAt_new {cur : Array Value} {o : Nat} {l : List UInt8} {j : Nat} {u : Value} (h : o + l.length ≤ cur.size) (hu : (l.map bv)[j]? = some u) : (laidAt cur o l)[o + j]? = some u := by
  have hj : j < l.length := by
    have := (List.getElem?_eq_some_iff.1 hu).1
    simpa using this
  have hcl : cur.toList.length = cur.size := by simp
  unfold laidAt
  rw [List.getElem?_toArray, List.append_assoc, List.getElem?_append_right (by rw [List.length_take]; omega), List.length_take, hcl, show o + j - min o cur.size = j by omega, List.getElem?_append_left (by rw [List.length_map]; exact hj)]
  exact hu

structure HeapB (hb g o n : Nat) (cur : Array Value) (w : World) : Prop where
  box : w.heap[hb]? = some (.cells #[.slice (some ⟨g, o, none⟩) n n] 195 (0, 0))
  row : w.heap[g]? = some (.cells cur 5 (0, 0))
  ne : hb ≠ g
  fit : o + n ≤ cur.size
  few : n < 1000000000000000

def CloneQ (hb g o n : Nat) (cur : Array Value) (l : List UInt8) (w : World) (e : Ending) (w' : World) : Prop := ∃ o', e = .returned (.slice (some ⟨g, o, none⟩) l.length l.length) ∧ (0 < n - l.length → o' = o + l.length) ∧ (n - l.length = 0 → o' = o) ∧ HeapB hb g o' (n - l.length) (laidAt cur o l) w' ∧
  (w'.heap.size = w.heap.size ∧ w'.os = w.os ∧ w'.tape = w.tape ∧ w'.output = w.output ∧ ∀ b, b ≠ hb → b ≠ g → w'.heap[b]? = w.heap[b]?)

set_option maxHeartbeats 2000000 in
set_option maxRecDepth 100000 in
theorem hclone_any (hb g o n : Nat) (cur : Array Value) (A : Option Addr) (c : Nat) (l : List UInt8) (hl : l.length ≤ n) (w : World) (H : HeapB hb g o n cur w) (h : Bys w w.heap.size (.slice A l.length c) l) :
    Calls Try.prog 121 #[.pointer (some ⟨hb, 0, none⟩), .slice A l.length c] w (CloneQ hb g o n cur l w) := by
  have hsz : (Try.prog.info? 5).map (·.size) = some 1 := by kernel_rfl
  obtain ⟨r1, r2, hne, hfit, hfew⟩ := H
  have hcp := run_copy_bys (P := Try.prog) w 195 26 3 5 g o n n A c l _ _ Try.underlying195 hsz r2 h hl (by omega)
  have e1 : (List.take o cur.toList ++ List.map bv l ++ List.drop (o + l.length) cur.toList).toArray = laidAt cur o l := rfl
  rw [e1] at hcp
  have r3 : (w.setRow g (laidAt cur o l)).heap[hb]? = some (.cells #[.slice (some ⟨g, o, none⟩) n n] 195 (0, 0)) := (setRow_other w g hb _ hne).trans r1
  have r4 := setRow_heap w g _ (laidAt cur o l) _ _ r2
  have h3 : ∀ b, b ≠ g → (w.setRow g (laidAt cur o l)).heap[b]? = w.heap[b]? := fun b hb => setRow_other w g b _ hb
  have s3 : (w.setRow g (laidAt cur o l)).heap.size = w.heap.size := by simp
  have o3 : (w.setRow g (laidAt cur o l)).os = w.os ∧ (w.setRow g (laidAt cur o l)).tape = w.tape ∧ (w.setRow g (laidAt cur o l)).output = w.output := ⟨rfl, rfl, rfl⟩
  generalize w.setRow g (laidAt cur o l) = w3 at *
  have k1 := cells_row r1
  have k3 := cells_row r3
  have f3 := frozen_row r3
  have f1 := frozen_row r1
  clear h r1 r2 hsz e1
  replace h3 := Lib.hid h3
  replace r4 := Lib.hid r4
  replace o3 := Lib.hid o3
  have hll := Lib.hid hl
  have hc1 : (l.length : Int) ≤ (n : Int) := by omega
  have fin : Hid (∀ o' n', n' = n - l.length → (0 < n' → o' = o + l.length) → (n' = 0 → o' = o) → CloneQ hb g o n cur l w (.returned (.slice (some ⟨g, o, none⟩) l.length l.length)) (w3.setCell ⟨hb, 0, none⟩ (.slice (some ⟨g, o', none⟩) n' n'))) := Lib.hid fun o' n' e h1 h2 => by
    subst e
    refine ⟨o', rfl, h1, h2, ⟨row_set r3 0 _, (Below.heap_setCell _ _ _ _ (fun e => hne e.symm)).trans r4.out, hne, ?_, by omega⟩, by simpa using s3, o3.out.1, o3.out.2.1, o3.out.2.2, fun b hb hbg => (Below.heap_setCell _ _ _ _ hb).trans (h3.out b hbg)⟩
    rw [laidAt_size (by omega)]
    rcases Nat.eq_zero_or_pos (n - l.length) with h0 | h0
    · have := h2 h0; omega
    · have := h1 h0; omega
  clear r3 r4 h3 o3 hfit
  go_enter Try.func121, Try.ntmps121
  go_wp2_with fail
  · subst h
    go_ret
    exact fin.out o 0 (by omega) (fun h => by omega) (fun _ => rfl)
  · go_ret
    exact fin.out (o + l.length) (n - l.length) rfl (fun _ => rfl) (fun h => by omega)
end Go.Proofs.Ytlgbjpihmkeopaa
/- A region that draws its order, told by one walk: one operation (number c) may do to memory what R allows, all others only what R0 allows; c is carried out in a world that R0 alone has led to. -/
namespace Go.Proofs.Ytlgbjpihmkeopaa
set_option linter.unusedSimpArgs false
set_option linter.unusedVariables false
open Go.RowKit

section
variable {R0 R : Rel} {c : Nat}
def preC (R0 R : Rel) (c i : Nat) : Rel := if i = c then R0 else R
def stpC (R0 R : Rel) (c i : Nat) : Rel := if i = c then R else R0
section
variable {P : Program} {ops : Array Oper} {w0 : World}
def OkayC (R0 R : Rel) (c : Nat) (P : Program) (ops : Array Oper) (w0 : World) (H : Nat → Option Outs) (i : Nat) (o : Oper) (a : Act) (F : Facts) (h : Outs) : Prop :=
  (Region.wanted o (yielded ops a.tmps) = false ∧ h = one undef) ∨
  (Region.wanted o (yielded ops a.tmps) = true ∧ H i = none ∧ ∃ v, h = one v ∧ ∀ W, (preC R0 R c i).r w0 W → (∀ k ∈ predsOf o, F k W) → plainAtG (stpC R0 R c i) P o a W v) ∨
  (Region.wanted o (yielded ops a.tmps) = true ∧ H i = some h ∧ ∀ W, (preC R0 R c i).r w0 W → (∀ k ∈ predsOf o, F k W) → hardAtG (stpC R0 R c i) P o a W h)
def ConsC (R0 R : Rel) (c : Nat) (w0 : World) (listed : Array Bool) (F : Facts) : Prop := ∃ W, R.r w0 W ∧ (listed.getD c true = false → R0.r w0 W) ∧ ∀ k, F k W
def FOpC (R0 R : Rel) (c : Nat) (P : Program) (ops : Array Oper) (w0 : World) (H : Nat → Option Outs) (listed : Array Bool) (i : Nat) (o : Oper) (K : Act → Facts → Prop) (a : Act) (F : Facts) : Prop :=
  ∃ h, OkayC R0 R c P ops w0 H i o a F h ∧ ∀ p, ConsC R0 R c w0 (listed.setIfInBounds i true) (upd F i o (h.φ p)) → K (a.put o.dst (h.f p)) (upd F i o (h.φ p))
def wpFreeC (R0 R : Rel) (c : Nat) (P : Program) (ops : Array Oper) (w0 : World) (H : Nat → Option Outs) (Q : Act → Facts → Prop) : List (Nat × Oper) → Array Bool → Act → Facts → Prop
  | [], _, a, F => Q a F
  | (k, o) :: rest, listed, a, F => FOpC R0 R c P ops w0 H listed k o (fun a' F' => wpFreeC R0 R c P ops w0 H Q rest (listed.setIfInBounds k true) a' F') a F
def wpAnyFC (R0 R : Rel) (c : Nat) (P : Program) (ops : Array Oper) (w0 : World) (H : Nat → Option Outs) (L : Array Bool) (Q : Act → Facts → Prop) : Nat → Array Bool → Act → Facts → Prop
  | 0, listed, a, F => listed = L ∧ Q a F
  | fuel + 1, listed, a, F => Region.ready .any ops listed ≠ [] ∧ ∀ i ∈ Region.ready .any ops listed, ∀ o, ops[i]? = some o → FOpC R0 R c P ops w0 H listed i o (wpAnyFC R0 R c P ops w0 H L Q fuel (listed.setIfInBounds i true)) a F

theorem preC_of {listed : Array Bool} {i : Nat} {W : World} (hi : listed.getD i true = false) (h : R.r w0 W) (h0 : listed.getD c true = false → R0.r w0 W) : (preC R0 R c i).r w0 W := by
  unfold preC
  split
  · rename_i e; subst e; exact h0 hi
  · exact h
theorem stpC_le (hle : ∀ a b, R0.r a b → R.r a b) {i : Nat} {W W' : World} (h : (stpC R0 R c i).r W W') : R.r W W' := by
  unfold stpC at h
  split at h
  · exact h
  · exact hle _ _ h
theorem stpC_0 {listed : Array Bool} {i : Nat} {W W' : World} (hi : listed.getD i true = false) (h : (stpC R0 R c i).r W W') (hc : (listed.setIfInBounds i true).getD c true = false) : R0.r W W' := by
  unfold stpC at h
  split at h
  · rename_i e
    subst e
    exfalso
    rcases Nat.lt_or_ge i listed.size with h' | h'
    · simp [h'] at hc
    · simp [Array.getElem?_eq_none h'] at hi
  · exact h
theorem unset {listed : Array Bool} {i c : Nat} (hc : (listed.setIfInBounds i true).getD c true = false) : listed.getD c true = false := by
  by_cases e : i = c
  · subst e
    rcases Nat.lt_or_ge i listed.size with h' | h'
    · simp [h'] at hc
    · simp [Array.getElem?_eq_none h'] at hc
  · rwa [getD_set_ne true e] at hc

def Void (c : Nat) (listed : Array Bool) (F : Facts) : Prop := listed.getD c true = false → ∀ k W, F k W
theorem keepC {listed : Array Bool} {F : Facts} {i : Nat} {W W' : World} (hi : listed.getD i true = false) (hst : ∀ k, StableG R0 (F k)) (hv : Void c listed F) (h : (stpC R0 R c i).r W W') (k : Nat) (hF : F k W) : F k W' := by
  unfold stpC at h
  split at h
  · rename_i e; subst e; exact hv hi k W'
  · exact hst k _ _ h hF
theorem OkayC.unique {H : Nat → Option Outs} {listed : Array Bool} {i : Nat} {o : Oper} {a : Act} {F : Facts} {h h' : Outs} (hc : ConsC R0 R c w0 listed F) (hi : listed.getD i true = false) (x : OkayC R0 R c P ops w0 H i o a F h) (y : OkayC R0 R c P ops w0 H i o a F h') : h = h' := by
  obtain ⟨W, hW, hW0, hF⟩ := hc
  have hW := preC_of hi hW hW0
  rcases x with ⟨x1, rfl⟩ | ⟨x1, x2, v, rfl, x3⟩ | ⟨x1, x2, x3⟩ <;> rcases y with ⟨y1, rfl⟩ | ⟨y1, y2, u, rfl, y3⟩ | ⟨y1, y2, y3⟩
  · rfl
  · rw [x1] at y1; cases y1
  · rw [x1] at y1; cases y1
  · rw [x1] at y1; cases y1
  · obtain ⟨w1, e1, _⟩ := x3 W hW fun k _ => hF k
    obtain ⟨w2, e2, _⟩ := y3 W hW fun k _ => hF k
    rw [e1] at e2
    cases e2
    rfl
  · rw [x2] at y2; cases y2
  · rw [x1] at y1; cases y1
  · rw [x2] at y2; cases y2
  · rw [x2] at y2; cases y2; rfl

theorem OkayC.some_ (hle : ∀ a b, R0.r a b → R.r a b) {H : Nat → Option Outs} {listed : Array Bool} {i : Nat} {o : Oper} {a : Act} {F : Facts} {h : Outs} (hc : ConsC R0 R c w0 listed F) (hi : listed.getD i true = false) (hst : ∀ k, StableG R0 (F k)) (hv : Void c listed F) (x : OkayC R0 R c P ops w0 H i o a F h) : ∃ p, ConsC R0 R c w0 (listed.setIfInBounds i true) (upd F i o (h.φ p)) := by
  obtain ⟨W, hW, hW0, hF⟩ := hc
  have triv : ∀ (φ : World → Prop) W', (stpC R0 R c i).r W W' → φ W' → ConsC R0 R c w0 (listed.setIfInBounds i true) (upd F i o φ) := fun φ W' he hφ => ⟨W', R.trans hW (stpC_le hle he), fun h => R0.trans (hW0 (unset h)) (stpC_0 hi he h), fun k => by
    unfold upd
    split
    · exact ⟨hφ, fun j _ => keepC hi hst hv he j (hF j)⟩
    · exact keepC hi hst hv he k (hF k)⟩
  have hW := preC_of hi hW hW0
  rcases x with ⟨x1, rfl⟩ | ⟨x1, x2, v, rfl, x3⟩ | ⟨x1, x2, x3⟩
  · exact ⟨(), triv _ W (Rel.refl _ W) trivial⟩
  · obtain ⟨w', _, he⟩ := x3 W hW fun k _ => hF k
    exact ⟨(), triv _ w' he trivial⟩
  · have h3 := x3 W hW fun k _ => hF k
    unfold hardAtG at h3
    generalize (execOp a.eval o).run P W = r at h3
    cases r with
    | ok n w' =>
      cases n <;> simp only [hardUponG] at h3
      case value u => obtain ⟨p, _, hp, he⟩ := h3; exact ⟨p, triv _ w' he hp⟩
      case skip => obtain ⟨p, _, hp, he⟩ := h3; exact ⟨p, triv _ w' he hp⟩
      case enter f args =>
        obtain ⟨he, hcl⟩ := h3
        obtain ⟨e, w'', fr, ⟨p, _, hp, he2⟩, _⟩ := hcl []
        exact ⟨p, triv _ w'' (Rel.trans _ he he2) hp⟩
    | halt x w' => simp only [hardUponG] at h3

theorem OkayC.move {H : Nat → Option Outs} {i j : Nat} {oi oj : Oper} {a : Act} {F : Facts} {h : Outs} {v : Value} {φ : World → Prop} (hap : oi.apart ops oj = true) (hsj : ∀ cs b, oj.op ≠ .select cs b) (hn : i ∉ predsOf oj) :
    OkayC R0 R c P ops w0 H j oj (a.put oi.dst v) (upd F i oi φ) h ↔ OkayC R0 R c P ops w0 H j oj a F h := by
  obtain ⟨h1, _, _⟩ := Oper.apart_spec hap
  have hF : ∀ W, (∀ k ∈ predsOf oj, upd F i oi φ k W) ↔ ∀ k ∈ predsOf oj, F k W := fun W => by
    constructor <;> intro hh k hk
    · have := hh k hk; unfold upd at this; rwa [if_neg (fun e => hn (by rw [← e]; exact hk))] at this
    · unfold upd; rw [if_neg (fun e => hn (by rw [← e]; exact hk))]; exact hh k hk
  unfold OkayC plainAtG hardAtG
  rw [wanted_put oj a oi.dst v h1, execOp_put oj hsj a oi.dst v h1]
  simp only [hF]

theorem OkayC.move' {H : Nat → Option Outs} {i j : Nat} {oi oj : Oper} {a : Act} {F : Facts} {h : Outs} {v : Value} {φ : World → Prop} (hap : oi.apart ops oj = true) (hsi : ∀ cs b, oi.op ≠ .select cs b) (hn : j ∉ predsOf oi) :
    OkayC R0 R c P ops w0 H i oi (a.put oj.dst v) (upd F j oj φ) h ↔ OkayC R0 R c P ops w0 H i oi a F h := by
  obtain ⟨_, _, h3⟩ := Oper.apart_spec hap
  have hF : ∀ W, (∀ k ∈ predsOf oi, upd F j oj φ k W) ↔ ∀ k ∈ predsOf oi, F k W := fun W => by
    constructor <;> intro hh k hk
    · have := hh k hk; unfold upd at this; rwa [if_neg (fun e => hn (by rw [← e]; exact hk))] at this
    · unfold upd; rw [if_neg (fun e => hn (by rw [← e]; exact hk))]; exact hh k hk
  unfold OkayC plainAtG hardAtG
  rw [wanted_put oi a oj.dst v h3, execOp_put oi hsi a oj.dst v h3]
  simp only [hF]


theorem OkayC.stable {H : Nat → Option Outs} (hH : ∀ i h, H i = some h → ∀ p, StableG R0 (h.φ p)) {i : Nat} {o : Oper} {a : Act} {F : Facts} {h : Outs} (x : OkayC R0 R c P ops w0 H i o a F h) : ∀ p, StableG R0 (h.φ p) := by
  rcases x with ⟨_, rfl⟩ | ⟨_, _, v, rfl, _⟩ | ⟨_, x2, _⟩
  · exact fun _ _ _ _ _ => trivial
  · exact fun _ _ _ _ _ => trivial
  · exact hH i h x2


theorem OkayC.void {H : Nat → Option Outs} (hone : ∀ i h, H i = some h → i = c) {listed : Array Bool} {i : Nat} {o : Oper} {a : Act} {F : Facts} {h : Outs} (hv : Void c listed F) (x : OkayC R0 R c P ops w0 H i o a F h) (p : h.α) : Void c (listed.setIfInBounds i true) (upd F i o (h.φ p)) := by
  intro hc k W
  have hcl := hv (unset hc)
  unfold upd
  split
  · refine ⟨?_, fun j _ => hcl j W⟩
    rcases x with ⟨_, rfl⟩ | ⟨_, _, v, rfl, _⟩ | ⟨_, x2, _⟩
    · trivial
    · trivial
    · exfalso
      have e := hone i h x2
      subst e
      rcases Nat.lt_or_ge i listed.size with h' | h'
      · simp [h'] at hc
      · simp [Array.getElem?_eq_none h'] at hc
  · exact hcl k W
theorem wpAnyF_firstC (hle : ∀ a b, R0.r a b → R.r a b) {H : Nat → Option Outs} (hone : ∀ i h, H i = some h → i = c) (hH : ∀ i h, H i = some h → ∀ p, StableG R0 (h.φ p)) {A : Nat → Prop} {Cl : Array Bool → Prop} {L : Array Bool} {Q : Act → Facts → Prop} {i : Nat} {oi : Oper} (hi : ops[i]? = some oi) (him : A i)
    (hsel : ∀ (j : Nat) (o : Oper) cs b, ops[j]? = some o → o.op ≠ .select cs b) (hcl : ∀ listed j, Cl listed → j ∈ Region.ready .any ops listed → Cl (listed.setIfInBounds j true)) (htail : ∀ (listed : Array Bool) (j : Nat), Cl listed → j ∈ Region.ready .any ops listed → L.getD j true = false → ∀ k, A k → listed.getD k false = true) :
    ∀ (fuel : Nat) (listed : Array Bool) (a : Act) (F : Facts), Cl listed →
      (∀ j oj, ops[j]? = some oj → j ≠ i → listed.getD j true = false → (∀ e ∈ oj.after, Region.binds .any e = true → e.on ≠ i) → oi.apart ops oj = true) →
      i ∈ Region.ready .any ops listed → (∀ k, StableG R0 (F k)) → ConsC R0 R c w0 listed F → Void c listed F → (∀ k, listed.getD k true = false → ∀ W, F k W) →
      FOpC R0 R c P ops w0 H listed i oi (wpAnyFC R0 R c P ops w0 H L Q fuel (listed.setIfInBounds i true)) a F → wpAnyFC R0 R c P ops w0 H L Q (fuel + 1) listed a F := by
  intro fuel
  induction fuel with
  | zero =>
    intro listed a F hCl _ hr hst hc hvd _ hop
    refine ⟨fun h => (by rw [h] at hr; cases hr), fun j hj oj hoj => ?_⟩
    by_cases hji : j = i
    · subst hji
      rw [hi] at hoj; cases hoj
      exact hop
    · exfalso
      obtain ⟨h, hok, hK⟩ := hop
      obtain ⟨p, hcp⟩ := hok.some_ hle hc (mem_ready.1 hr).1 hst hvd
      have hmj : L.getD j true = false := by rw [← (hK p hcp).1]; exact (mem_ready.1 (ready_mono hj hji)).1
      have h1 := htail listed j hCl hj hmj i him
      have h0 := (mem_ready.1 hr).1
      rcases Nat.lt_or_ge i listed.size with h' | h'
      · simp [h'] at h0 h1; rw [h0] at h1; cases h1
      · simp [Array.getElem?_eq_none h'] at h1
  | succ fuel ih =>
    intro listed a F hCl hfree hr hst hc hvd hun hop
    refine ⟨fun h => (by rw [h] at hr; cases hr), fun j hj oj hoj => ?_⟩
    by_cases hji : j = i
    · subst hji
      rw [hi] at hoj; cases hoj
      exact hop
    · obtain ⟨hjun, oj', hoj', hall⟩ := mem_ready.1 hj
      rw [hoj] at hoj'; cases hoj'
      obtain ⟨hiun, oi', hoi', halli⟩ := mem_ready.1 hr
      rw [hi] at hoi'; cases hoi'
      have bad : ∀ k, listed.getD k true = false → listed.getD k false = true → False := fun k h0 h1 => by
        rcases Nat.lt_or_ge k listed.size with h' | h'
        · simp [h'] at h0 h1; rw [h0] at h1; cases h1
        · simp [Array.getElem?_eq_none h'] at h1
      have hnot : ∀ e ∈ oj.after, Region.binds .any e = true → e.on ≠ i := fun e he hb heq => bad i hiun (heq ▸ hall e he hb)
      have hnot' : ∀ e ∈ oi.after, Region.binds .any e = true → e.on ≠ j := fun e he hb heq => bad j hjun (heq ▸ halli e he hb)
      have hpi : i ∉ predsOf oj := fun hin => by
        obtain ⟨e, he, hei⟩ := List.mem_map.1 hin
        rw [List.mem_filter] at he
        exact hnot e (by simpa using he.1) he.2 hei
      have hpj : j ∉ predsOf oi := fun hin => by
        obtain ⟨e, he, hei⟩ := List.mem_map.1 hin
        rw [List.mem_filter] at he
        exact hnot' e (by simpa using he.1) he.2 hei
      have hap := hfree j oj hoj hji hjun hnot
      have hsi : ∀ cs b, oi.op ≠ .select cs b := fun cs b => hsel i oi cs b hi
      have hsj : ∀ cs b, oj.op ≠ .select cs b := fun cs b => hsel j oj cs b hoj
      obtain ⟨h2, _⟩ := (Oper.apart_spec hap).2
      obtain ⟨hI, okI, hKI⟩ := hop
      obtain ⟨p0, hcp0⟩ := okI.some_ hle hc hiun hst hvd
      obtain ⟨hJ, okJ0, _⟩ := (hKI p0 hcp0).2 j (ready_mono hj hji) oj hoj
      have okJ : OkayC R0 R c P ops w0 H j oj a F hJ := (OkayC.move hap hsj hpi).1 okJ0
      refine ⟨hJ, okJ, fun q hcq => ?_⟩
      have stJ := okJ.stable hH q
      have hfree' : ∀ k ok, ops[k]? = some ok → k ≠ i → (listed.setIfInBounds j true).getD k true = false →
          (∀ e ∈ ok.after, Region.binds .any e = true → e.on ≠ i) → oi.apart ops ok = true := fun k ok hk hki hunk hno => by
        refine hfree k ok hk hki ?_ hno
        by_cases hjk : j = k
        · subst hjk; exact hjun
        · rw [getD_set_ne true hjk] at hunk; exact hunk
      refine ih (listed.setIfInBounds j true) _ _ (hcl _ _ hCl hj) hfree' (ready_mono hr (Ne.symm hji)) (upd_stableG hst j oj stJ) hcq (okJ.void hone hvd q) ?_ ?_
      · intro k hk W
        by_cases hjk : j = k
        · subst hjk
          exfalso
          have hlt : j < listed.size := by
            rcases Nat.lt_or_ge j listed.size with h' | h'
            · exact h'
            · simp [Array.getElem?_eq_none h'] at hjun
          simp [hlt] at hk
        · rw [getD_set_ne true hjk] at hk
          have := hun k hk W
          unfold upd; rw [if_neg (fun e => hjk e.symm)]; exact this
      · refine ⟨hI, (OkayC.move' hap hsi hpj).2 okI, fun p hcp => ?_⟩
        have hcp' : ConsC R0 R c w0 (listed.setIfInBounds i true) (upd F i oi (hI.φ p)) := by
          by_cases hjc : j = c
          · have hIone : ∃ v, hI = one v := by
              rcases okI with ⟨_, e⟩ | ⟨_, _, v, e, _⟩ | ⟨_, e, _⟩
              · exact ⟨_, e⟩
              · exact ⟨_, e⟩
              · exact absurd ((hone _ _ e).trans hjc.symm) (Ne.symm hji)
            obtain ⟨v, rfl⟩ := hIone
            exact hcp0
          · obtain ⟨W, hW, hW0, hF⟩ := hcp
            refine ⟨W, hW, fun h => hW0 ?_, fun k => ?_⟩
            · rw [Array.setIfInBounds_comm _ _ hji, getD_set_ne true hjc]
              exact h
            have hk := hF k
            by_cases hki : k = i
            · subst hki
              unfold upd at hk ⊢
              rw [if_pos rfl] at hk ⊢
              refine ⟨hk.1, fun l hl => ?_⟩
              have := hk.2 l hl
              rwa [if_neg (fun e => hpj (by rw [← e]; exact hl))] at this
            · by_cases hkj : k = j
              · subst hkj
                unfold upd; rw [if_neg hki]; exact hun k hjun W
              · unfold upd at hk ⊢
                rw [if_neg hki, if_neg hkj] at hk
                rw [if_neg hki]; exact hk
        obtain ⟨hJ', okJ', hKJ'⟩ := (hKI p hcp').2 j (ready_mono hj hji) oj hoj
        have okJ'' : OkayC R0 R c P ops w0 H j oj a F hJ' := (OkayC.move hap hsj hpi).1 okJ'
        have e := okJ''.unique hc hjun okJ
        subst e
        have hq := hKJ' q (by rw [upd_comm F _ _ (Ne.symm hji) hpi hpj, Array.setIfInBounds_comm _ _ (fun e => hji e.symm)]; exact hcp)
        rw [Array.setIfInBounds_comm _ _ (fun e => hji e.symm), Act.put_comm a (hI.f p) (hJ'.f q) h2, upd_comm F _ _ (Ne.symm hji) hpi hpj] at hq
        exact hq


theorem wpAnyF_lexC (hle : ∀ a b, R0.r a b → R.r a b) {H : Nat → Option Outs} (hone : ∀ i h, H i = some h → i = c) (hH : ∀ i h, H i = some h → ∀ p, StableG R0 (h.φ p)) {Cl : Array Bool → Prop} {L : Array Bool} {ks : List Nat} {Q : Act → Facts → Prop} (hs : Region.noSelect ops = true)
    (hcl : ∀ listed j, Cl listed → j ∈ Region.ready .any ops listed → Cl (listed.setIfInBounds j true)) (htail : ∀ (listed : Array Bool) (j : Nat), Cl listed → j ∈ Region.ready .any ops listed → L.getD j true = false → ∀ k, k ∈ ks → listed.getD k false = true) : ∀ (l : List (Nat × Oper)) (listed : Array Bool) (a : Act) (F : Facts), Cl listed → (∀ x ∈ l, ops[x.1]? = some x.2 ∧ x.1 ∈ ks) →
    lexMask ops L (l.map (·.1)) listed = true → (∀ k, StableG R0 (F k)) → ConsC R0 R c w0 listed F → Void c listed F → (∀ j, listed.getD j true = false → ∀ W, F j W) → wpFreeC R0 R c P ops w0 H Q l listed a F → wpAnyFC R0 R c P ops w0 H L Q l.length listed a F
  | [], listed, a, F, _, _, hB, _, _, _, _, h => ⟨by simpa [lexMask] using hB, h⟩
  | (k, o) :: l, listed, a, F, hCl, hl, hB, hst, hc, hvd, hun, h => by
    obtain ⟨h0, hks⟩ := hl (k, o) (List.mem_cons_self)
    simp only [List.map_cons, lexMask, Bool.and_eq_true] at hB
    obtain ⟨⟨hr, hf⟩, hB'⟩ := hB
    have hrk : k ∈ Region.ready .any ops listed := by simpa using hr
    have hkun := (mem_ready.1 hrk).1
    refine wpAnyF_firstC hle hone (A := fun k => k ∈ ks) hH h0 hks (Region.noSelect_spec hs) hcl htail l.length listed a F hCl (Region.free_spec h0 hf) hrk hst hc hvd hun ?_
    obtain ⟨hh, hok, hK⟩ := h
    refine ⟨hh, hok, fun p hcp => ?_⟩
    refine wpAnyF_lexC hle hone hH hs hcl htail l _ _ _ (hcl _ _ hCl hrk) (fun x hx => hl x (List.mem_cons_of_mem _ hx)) hB' (upd_stableG hst k o (hok.stable hH p)) hcp (hok.void hone hvd p) (fun j hj W => ?_) (hK p hcp)
    by_cases hjk : k = j
    · subst hjk
      have hlt : k < listed.size := by
        rcases Nat.lt_or_ge k listed.size with h' | h'
        · exact h'
        · simp [Array.getElem?_eq_none h'] at hkun
      simp [hlt] at hj
    · rw [getD_set_ne true hjk] at hj
      have := hun j hj W
      unfold upd
      rw [if_neg (fun e => hjk e.symm)]
      exact this


theorem wpOp_of_okayC (hle : ∀ a b, R0.r a b → R.r a b) {H : Nat → Option Outs} {i : Nat} {o : Oper} {a : Act} {F : Facts} {K : Act → Facts → Prop} {K' : Act → World → Prop} {Q' : Exit → Act → World → Prop} {W : World} {listed : Array Bool} (hli : listed.getD i true = false) (hi : ops[i]? = some o)
    (hone : ∀ i h, H i = some h → i = c) (hH : ∀ i h, H i = some h → ∀ p, StableG R0 (h.φ p)) (hst : ∀ k, StableG R0 (F k)) (hvd : Void c listed F) (hW : R.r w0 W) (hW0 : listed.getD c true = false → R0.r w0 W) (hF : ∀ k, F k W)
    (hK : ∀ a' F' W', K a' F' → (∀ k, StableG R0 (F' k)) → Void c (listed.setIfInBounds i true) F' → R.r w0 W' → ((listed.setIfInBounds i true).getD c true = false → R0.r w0 W') → (∀ k, F' k W') → K' a' W') (h : FOpC R0 R c P ops w0 H listed i o K a F) : wpOp P ops Q' i K' a W := by
  obtain ⟨hh, hok, hn⟩ := h
  have go : ∀ p W', (stpC R0 R c i).r W W' → hh.φ p W' → K' (a.put o.dst (hh.f p)) W' := fun p W' he0 hφ => by
    have he := stpC_le hle he0
    have h0 : (listed.setIfInBounds i true).getD c true = false → R0.r w0 W' := fun h => R0.trans (hW0 (unset h)) (stpC_0 hli he0 h)
    have hF' : ∀ k, upd F i o (hh.φ p) k W' := fun k => by
      unfold upd
      split
      · exact ⟨hφ, fun j _ => keepC hli hst hvd he0 j (hF j)⟩
      · exact keepC hli hst hvd he0 k (hF k)
    exact hK _ _ W' (hn p ⟨W', R.trans hW he, h0, hF'⟩) (upd_stableG hst i o (hok.stable hH p)) (hok.void hone hvd p) (R.trans hW he) h0 hF'
  have hWp := preC_of (c := c) hli hW hW0
  unfold wpOp
  simp only [hi]
  rcases hok with ⟨x1, rfl⟩ | ⟨x1, x2, v, rfl, x3⟩ | ⟨x1, x2, x3⟩
  · simp only [x1, Bool.false_eq_true, if_false]
    exact go () W (Rel.refl _ W) trivial
  · simp only [x1, if_true]
    obtain ⟨w', hr, he⟩ := x3 W hWp fun k _ => hF k
    refine .inl ?_
    unfold Oper.wp
    rw [hr]
    exact go () w' he trivial
  · simp only [x1, if_true]
    have h3 := x3 W hWp fun k _ => hF k
    refine .inl ?_
    unfold hardAtG at h3
    unfold Oper.wp
    generalize (execOp a.eval o).run P W = r at *
    cases r with
    | ok n w' =>
      cases n <;> simp only [hardUponG] at h3 <;> simp only [Oper.upon]
      case value u =>
        obtain ⟨p, rfl, hp, he⟩ := h3
        exact go p w' he hp
      case skip =>
        obtain ⟨p, hu, hp, he⟩ := h3
        rw [hu]
        exact go p w' he hp
      case enter f args =>
        obtain ⟨he, hcl⟩ := h3
        refine hcl.mono fun e w'' ⟨p, he1, hp, he2⟩ => ?_
        subst he1
        exact go p w'' (Rel.trans _ he he2) hp
    | halt x w' => simp only [hardUponG] at h3

theorem wpAny_of_freeC (hle : ∀ a b, R0.r a b → R.r a b) {H : Nat → Option Outs} (hone : ∀ i h, H i = some h → i = c) (hH : ∀ i h, H i = some h → ∀ p, StableG R0 (h.φ p)) {L : Array Bool} {t : Nat} {Q : Act → Facts → Prop} {Q' : Exit → Act → World → Prop}
    (hQ : ∀ a F W, Q a F → R.r w0 W → (∀ k, F k W) → wpAny P .any ops Q' t L a W) :
    ∀ (fuel : Nat) (listed : Array Bool) (a : Act) (F : Facts) (W : World), (∀ k, StableG R0 (F k)) → Void c listed F → R.r w0 W → (listed.getD c true = false → R0.r w0 W) → (∀ k, F k W) → wpAnyFC R0 R c P ops w0 H L Q fuel listed a F → wpAny P .any ops Q' (fuel + t) listed a W
  | 0, listed, a, F, W, _, _, hW, _, hF, h => by
    rw [h.1, Nat.zero_add]
    exact hQ a F W h.2 hW hF
  | fuel + 1, listed, a, F, W, hst, hvd, hW, hW0, hF, h => by
    rw [show fuel + 1 + t = fuel + t + 1 by omega]
    refine ⟨fun h0 => absurd h0 h.1, fun i hi => ?_⟩
    obtain ⟨hli, o, ho, _⟩ := mem_ready.1 hi
    exact wpOp_of_okayC hle hli ho hone hH hst hvd hW hW0 hF (fun a' F' W' hk hst' hvd' hW' hW0' hF' => wpAny_of_freeC hle hone hH hQ fuel _ a' F' W' hst' hvd' hW' hW0' hF' hk) (h.2 i hi o ho)


theorem any_freeC {l : List Oper} {Q : Exit → Act → World → Prop} {fuel : Nat} {listed : Array Bool} {a : Act} {w W : World} (R0 R : Rel) (c : Nat) (hle : ∀ a b, R0.r a b → R.r a b) (H : Nat → Option Outs) (M : List Bool) (t : Nat)
    (hs : Region.noSelect l.toArray = true) (ht : tailT l.toArray (listedTo l.length (l.length - t)) ((maskOps 0 l M).map (·.1)) = true) (hc0 : closedB l.toArray listed = true) (hB : lexMask l.toArray (listedTo l.length (l.length - t)) ((maskOps 0 l M).map (·.1)) listed = true)
    (hseq : seqB l.toArray t (l.length - t) (listedTo l.length (l.length - t)) = true) (hfu : fuel = (maskOps 0 l M).length + t) (htl : (l.drop (l.length - t)).length = t)
    (hH : ∀ i h, H i = some h → ∀ p, StableG R0 (h.φ p)) (hone : ∀ i h, H i = some h → i = c) (hW : R0.r w W)
    (h : ∀ K : Act → Facts → Prop, (∀ a' F', (∀ W, R.r w W → (∀ k, F' k W) → wpList P l.toArray Q (l.drop (l.length - t)) a' W) → K a' F') → wpFreeC R0 R c P l.toArray w H K (maskOps 0 l M) listed a (fun _ _ => True)) : wpAny P .any l.toArray Q fuel listed a W := by
  have h := h _ (fun a' F' hh => hh)
  subst hfu
  have key := wpAnyF_lexC hle hone (w0 := w) hH hs (fun _ _ h => h.step) (tailT_spec ht) (maskOps 0 l M) listed a (fun _ _ => True) (closedB_spec hc0) (fun x hx => by
    obtain ⟨j, h1, h2⟩ := maskOps_spec l M 0 x hx
    refine ⟨?_, List.mem_map.2 ⟨x, hx, rfl⟩⟩
    rw [h1, Nat.zero_add]
    simpa using h2) hB (fun _ _ _ _ _ => trivial) ⟨W, hle _ _ hW, fun _ => hW, fun _ => trivial⟩ (fun _ _ _ => trivial) (fun _ _ _ => trivial) h
  refine wpAny_of_freeC hle hone (w0 := w) hH (t := t) (Q' := Q) (fun a F W hq hW hF => ?_) _ _ _ _ W (fun _ _ _ _ _ => trivial) (fun _ _ _ => trivial) (hle _ _ hW) (fun _ => hW) (fun _ => trivial) key
  have := wpAny_seq (l.drop (l.length - t)) (l.length - t) _ a W (fun j _ => by rw [List.getElem?_drop]; simp) (by rw [htl]; exact hseq) (hq W hW hF)
  rwa [htl] at this

/-! ### the steps of the walk -/
section
variable {H : Nat → Option Outs} {Q : Act → Facts → Prop} {k : Nat} {o : Oper} {rest : List (Nat × Oper)} {a : Act} {F : Facts} {listed : Array Bool}
theorem free_nilC (h : Q a F) : wpFreeC R0 R c P ops w0 H Q [] listed a F := h
theorem free_plainC (v : Value) (hw : Region.wanted o (yielded ops a.tmps) = true) (hH : H k = none) (hv : ∀ W, (preC R0 R c k).r w0 W → (∀ j ∈ predsOf o, F j W) → plainAtG (stpC R0 R c k) P o a W v)
    (h : wpFreeC R0 R c P ops w0 H Q rest (listed.setIfInBounds k true) (a.put o.dst v) (upd F k o fun _ => True)) : wpFreeC R0 R c P ops w0 H Q ((k, o) :: rest) listed a F :=
  ⟨one v, .inr (.inl ⟨hw, hH, v, rfl, hv⟩), fun _ _ => h⟩
theorem free_readC (hle : ∀ a b, R0.r a b → R.r a b) (v : Value) (hw : Region.wanted o (yielded ops a.tmps) = true) (hH : H k = none) (hv : ∀ W, R.r w0 W → (∀ j ∈ predsOf o, F j W) → (execOp a.eval o).run P W = .ok (.value v) W)
    (h : wpFreeC R0 R c P ops w0 H Q rest (listed.setIfInBounds k true) (a.put o.dst v) (upd F k o fun _ => True)) : wpFreeC R0 R c P ops w0 H Q ((k, o) :: rest) listed a F :=
  free_plainC v hw hH (fun W hW hF => ⟨W, hv W (by unfold preC at hW; split at hW; exact hle _ _ hW; exact hW) hF, Rel.refl _ W⟩) h
theorem free_skipC (hw : Region.wanted o (yielded ops a.tmps) = false) (h : wpFreeC R0 R c P ops w0 H Q rest (listed.setIfInBounds k true) (a.put o.dst undef) (upd F k o fun _ => True)) : wpFreeC R0 R c P ops w0 H Q ((k, o) :: rest) listed a F :=
  ⟨one undef, .inl ⟨hw, rfl⟩, fun _ _ => h⟩
theorem free_hardC (hh : Outs) (hw : Region.wanted o (yielded ops a.tmps) = true) (hH : H c = some hh) (hv : ∀ W, R0.r w0 W → (∀ j ∈ predsOf o, F j W) → hardAtG R P o a W hh)
    (h : ∀ p, wpFreeC R0 R c P ops w0 H Q rest (listed.setIfInBounds c true) (a.put o.dst (hh.f p)) (upd F c o (hh.φ p))) : wpFreeC R0 R c P ops w0 H Q ((c, o) :: rest) listed a F :=
  ⟨hh, .inr (.inr ⟨hw, hH, fun W hW hF => by unfold preC at hW; unfold stpC; rw [if_pos rfl] at hW ⊢; exact hv W hW hF⟩), fun p _ => h p⟩
end
end
end
end Go.Proofs.Ytlgbjpihmkeopaa
/- Appends of cells that hold a slice just made: the row grows, in place or not. -/
namespace Go.Proofs.Ytlgbjpihmkeopaa
set_option linter.unusedSimpArgs false
set_option linter.unusedVariables false
open Go.RowKit

def DoneX (base : Nat) (e : TypeId) (size lo : Nat) (v : Value) (n : Nat) (xs : List Value) (f : Value → List Value) (l : List UInt8) (v' : Value) (W : World) : Prop :=
  ∃ A c, Done base e size lo v (n + 1) (xs ++ f (.slice A l.length c)) v' W ∧ Bys W W.heap.size (.slice A l.length c) l ∧ From lo (.slice A l.length c) ∧ Apart v' (.slice A l.length c)
theorem DoneX.ext {base : Nat} {e : TypeId} {size lo : Nat} {v : Value} {n : Nat} {xs : List Value} {f : Value → List Value} {l : List UInt8} {v' : Value} {W W' : World} (h : DoneX base e size lo v n xs f l v' W) (hx : Ext W W') : DoneX base e size lo v n xs f l v' W' := by
  obtain ⟨A, c, h1, h2, h3⟩ := h
  exact ⟨A, c, ⟨own_ext h1.1 hx, h1.2⟩, (h2.below hx).more hx.size, h3⟩
def appX (base : Nat) (e : TypeId) (size lo : Nat) (v : Value) (n : Nat) (xs : List Value) (f : Value → List Value) (l : List UInt8) : Rel where
  rel W W' := W.grownBy W' v.ownBlock ∧ (W.ownsRow base e size v n xs → W'.ownsRow base e size v n xs) ∧ ∀ v', DoneX base e size lo v n xs f l v' W → DoneX base e size lo v n xs f l v' W'
  refl' W := ⟨World.grownBy.refl _ _, id, fun _ => id⟩
  trans' h k := ⟨h.1.trans k.1, fun x => k.2.1 (h.2.1 x), fun v' x => k.2.2 v' (h.2.2 v' x)⟩
  drew' W := ⟨⟨rfl, rfl, rfl, Nat.le_refl _, fun _ _ _ => rfl⟩, fun h => h.drew, fun v' h => h.ext (Ext.drew W)⟩

section
variable {base : Nat} {e : TypeId} {size lo : Nat} {v : Value} {n : Nat} {xs : List Value} {f : Value → List Value} {l : List UInt8}
theorem appX_ext {W W' : World} (h : Ext W W') : (appX base e size lo v n xs f l).r W W' :=
  ⟨grown_of_ext h _, fun x => own_ext x h, fun _ x => x.ext h⟩
theorem appX_row {W W' : World} (h : (appX base e size lo v n xs f l).r W W') {b : Nat} {o : Obj} (hp : v.ownBlock ≠ some b) (hc : W.heap[b]? = some o) : W'.heap[b]? = some o :=
  (h.1.block b (Array.getElem?_eq_some_iff.1 hc).1 (fun x => hp x.symm)).trans hc
theorem run_append_X {P : Program} (W : World) (t ty : TypeId) (i : TypeInfo) (z : Value) (bytes : Nat) (ht : P.underlying t = some (.slice e)) (hi : P.info? e = some i) (hz : i.zero = some z)
    (hsize : i.size = size) (hby : i.bytes = bytes) (hzs : z.cells.size = size) (hsz : 0 < size) (hown : W.ownsRow base e size v n xs)
    (a : Addr) (A : Option Addr) (c : Nat) (hl : (f (.slice A l.length c)).length = size) (hnews : ∀ j u, (f (.slice A l.length c))[j]? = some u → W.cell? (a.add j) = some u) (h1 : ∀ u ∈ f (.slice A l.length c), u.oneCell' = true)
    (hbs : Bys W W.heap.size (.slice A l.length c) l) (hf : From lo (.slice A l.length c)) (hvl : ∀ g, v.ownBlock = some g → g < lo)
    (hn : n + 1 < 1073741824) (hbytes : bytes ≤ 65536) (hbase : base ≤ W.heap.size) (hlo : lo ≤ W.heap.size) :
    ∃ v' w', (Builtin.append_ #[t, t] ty #[v, .slice (some a) 1 1]).run P W = .ok v' w' ∧ DoneX base e size lo v n xs f l v' w' ∧ (appX base e size lo v n xs f l).r W w' := by
  have hb : (n + 1) * bytes ≤ 140737488355328 := Nat.le_trans (Nat.mul_le_mul_left _ hbytes) (by omega)
  have hm : n + 1 ≤ maxLen := by unfold maxLen; omega
  have hl' : (f (.slice A l.length c)).length = 1 * size := by rw [hl, Nat.one_mul]
  obtain ⟨v', w', hr, h2, h3, _, h5⟩ := run_append_own_at (P := P) W base t ty e i z size bytes ht hi hz hsize hby hzs hsz v n xs hown a 1 1 _ hl' hnews h1 hm hb hbase
  have hap : Apart v (.slice A l.length c) := Apart.of_from hf hvl
  have hap' : Apart v' (.slice A l.length c) := by
    intro a n c e hn
    rcases h5 with h4 | h4
    · rw [h4]; exact hap a n c e hn
    · rw [h4]
      intro hx
      simp only [Option.some.injEq] at hx
      obtain ⟨A', c', e', _, _, hr⟩ := hbs
      rw [e] at e'
      simp only [Value.slice.injEq] at e'
      obtain ⟨e1, e2, _⟩ := e'
      obtain ⟨b, off, e3, hbb, _⟩ := hr.2 (by omega)
      rw [← e1] at e3
      simp only [Option.some.injEq] at e3
      rw [e3] at hx
      simp at hx
      omega
  have hD : DoneX base e size lo v n xs f l v' w' := ⟨A, c, ⟨h2, h5.imp id fun e => ⟨_, e, hlo⟩⟩, hbs.grown h3 hap, hf, hap'⟩
  rcases hown.2 with ⟨rfl, rfl⟩ | ⟨g, cap, cur, rfl, hbg, hg, hnc, hcm, hcs, htk⟩
  · exact ⟨v', w', hr, hD, appX_ext ⟨h3.os, h3.tape, h3.output, h3.size, fun k hk => h3.block k hk (by simp [Value.ownBlock])⟩⟩
  · by_cases hroom : n + 1 ≤ cap
    · obtain ⟨w2, hr2, g2, g3⟩ := run_append_fits (P := P) W base t ty e i size ht hi hsize g n cap xs hown a 1 1 _ hl' hnews h1 hroom
      refine ⟨_, w2, hr2, ⟨A, c, ⟨g2, .inl rfl⟩, hbs.grown g3 hap, hf, hap⟩, g3, fun _ => own_shrink g2 hown.1, fun u hu => ?_⟩
      obtain ⟨A0, c0, hu, k2, k3, k4⟩ := hu
      have k2' := k2.grown g3 (Apart.of_from k3 hvl)
      rcases hu.1.2 with h0 | ⟨g', cap', cur', rfl, hbg', hg', hnc', hcm', hcs', htk'⟩
      · exact ⟨A0, c0, ⟨⟨hu.1.1, .inl h0⟩, hu.2⟩, k2', k3, k4⟩
      · by_cases hgg : g' = g
        · subst hgg
          rw [hg] at hg'
          simp only [Option.some.injEq, Obj.cells.injEq] at hg'
          obtain ⟨rfl, _⟩ := hg'
          obtain rfl : cap' = cap := by
            have : cap' * size = cap * size := by rw [← hcs', ← hcs]
            exact Nat.eq_of_mul_eq_mul_right hsz this
          exact ⟨A, c, ⟨g2, .inl rfl⟩, hbs.grown g3 hap, hf, hap⟩
        · exact ⟨A0, c0, ⟨⟨hu.1.1, .inr ⟨g', cap', cur', rfl, hbg', (g3.block g' (Array.getElem?_eq_some_iff.1 hg').1 (by simpa using hgg)).trans hg', hnc', hcm', hcs', htk'⟩⟩, hu.2⟩, k2', k3, k4⟩
    · have holds : ∀ j u, xs[j]? = some u → W.cell? ((⟨g, 0, none⟩ : Addr).add j) = some u := hown.cells (g := g) rfl
      subst hsize
      subst hby
      have hr' := run_append_grow (P := P) W t ty e i z ht hi hz ⟨g, 0, none⟩ n cap xs hown.1 holds a 1 1 _ hl' hnews (by omega) (by unfold maxLen at hm; omega) (growslice_fits (by omega) hb)
      rw [hr] at hr'
      cases hr'
      exact ⟨_, _, hr, hD, appX_ext ((Ext.drew W).trans (Ext.alloc _ _))⟩
def outX (base : Nat) (e : TypeId) (size lo : Nat) (v : Value) (n : Nat) (xs : List Value) (f : Value → List Value) (l : List UInt8) : Outs := ⟨Option Addr × Nat, fun p => .slice p.1 (n + 1) p.2, fun p W => DoneX base e size lo v n xs f l (.slice p.1 (n + 1) p.2) W⟩
theorem outX_f (A : Option Addr) (c : Nat) : (outX base e size lo v n xs f l).f (A, c) = .slice A (n + 1) c := rfl
theorem outX_stable : ∀ p, StableG (appX base e size lo v n xs f l) ((outX base e size lo v n xs f l).φ p) := fun p _ _ he h => he.2.2 _ h
def outLitX (lo : Nat) (ty : TypeId) (f : Value → List Value) (l : List UInt8) : Outs := ⟨Nat, fun b => .slice (some ⟨b, 0, none⟩) 1 1, fun b W => lo ≤ b ∧ ∃ A c, W.heap[b]? = some (.cells (f (.slice A l.length c)).toArray ty (0, 0)) ∧ Bys W W.heap.size (.slice A l.length c) l ∧ From lo (.slice A l.length c)⟩
theorem outLitX_f (lo : Nat) (ty : TypeId) (b : Nat) : (outLitX lo ty f l).f b = .slice (some ⟨b, 0, none⟩) 1 1 := rfl
theorem outLitX_stable {lo' : Nat} {ty : TypeId} (hlo : ∀ g, v.ownBlock = some g → g < lo') : ∀ p, StableG (appX base e size lo v n xs f l) ((outLitX lo' ty f l).φ p) := fun p _ _ he ⟨h1, A, c, h2, h3, h4⟩ =>
  ⟨h1, A, c, appX_row he (fun x => by have := hlo p x; omega) h2, h3.grown he.1 (Apart.of_from h4 hlo), h4⟩
theorem outB_stableX {lo' n' : Nat} {l' : List UInt8} (hlo : ∀ g, v.ownBlock = some g → g < lo') : ∀ p, StableG (appX base e size lo v n xs f l) ((outB lo' n' l').φ p) := fun p _ _ he h =>
  ⟨h.1.grown he.1 (Apart.of_from h.2 hlo), h.2⟩
end
def RowX {α : Type} (base lo : Nat) (e : TypeId) (size : Nat) (g : α → Value → List Value) (by_ : α → List UInt8) (w : World) (v : Value) (ps : List (α × Value)) : Prop :=
  w.ownsRow base e size v ps.length (ps.flatMap fun p => g p.1 p.2) ∧ ∀ p ∈ ps, ((∃ A c, p.2 = .slice A (by_ p.1).length c) ∧ From lo p.2) ∧ Bys w w.heap.size p.2 (by_ p.1) ∧ Apart v p.2
section
variable {α : Type} {base lo : Nat} {e : TypeId} {size : Nat} {g : α → Value → List Value} {by_ : α → List UInt8}
theorem RowX.nil (w : World) : RowX base lo e size g by_ w (.slice none 0 0) [] := ⟨World.ownsRow_nil _ _ _ _, fun _ h => by cases h⟩
theorem RowX.ext {w w' : World} {v : Value} {ps : List (α × Value)} (h : RowX base lo e size g by_ w v ps) (hx : Ext w w') : RowX base lo e size g by_ w' v ps :=
  ⟨own_ext h.1 hx, fun p hp => ⟨(h.2 p hp).1, ((h.2 p hp).2.1.below hx).more hx.size, (h.2 p hp).2.2⟩⟩
theorem RowX.setCell {w : World} {v : Value} {ps : List (α × Value)} (h : RowX base lo e size g by_ w v ps) {p : Addr} (hp : p.block < base) (hl : p.block < lo) (u : Value) : RowX base lo e size g by_ (w.setCell p u) v ps :=
  ⟨own_setCell h.1 hp u, fun q hq => ⟨(h.2 q hq).1, by simpa using (h.2 q hq).2.1.setCell (h.2 q hq).1.2 hl u, (h.2 q hq).2.2⟩⟩
theorem RowX.push {lo2 : Nat} {w W : World} {v v' : Value} {ps : List (α × Value)} (h : RowX base lo e size g by_ w v ps) (x : α) (hll : lo ≤ lo2) (hl : lo2 = w.heap.size)
    (hD : DoneX base e size lo2 v ps.length (ps.flatMap fun p => g p.1 p.2) (g x) (by_ x) v' W) (hg : w.grownBy W v.ownBlock) : ∃ u, RowX base lo e size g by_ W v' (ps ++ [(x, u)]) := by
  subst hl
  obtain ⟨A, c, hD, hB, hF, hA⟩ := hD
  refine ⟨.slice A (by_ x).length c, by rw [List.length_append, List.flatMap_append]; simpa using hD.1, ?_⟩
  intro p hp
  rcases List.mem_append.1 hp with hp | hp
  · obtain ⟨h1, h2, h3⟩ := h.2 p hp
    refine ⟨h1, h2.grown hg h3, fun a n c e hn => ?_⟩
    rcases hD.2 with h4 | ⟨k, h4, h5⟩
    · rw [h4]; exact h3 a n c e hn
    · rw [h4]
      intro hx
      simp only [Option.some.injEq] at hx
      obtain ⟨A', c', e', _, _, hr⟩ := h2
      rw [e] at e'
      simp only [Value.slice.injEq] at e'
      obtain ⟨e1, e2, _⟩ := e'
      obtain ⟨b, off, e3, hbb, _⟩ := hr.2 (by omega)
      rw [← e1] at e3
      simp only [Option.some.injEq] at e3
      rw [e3] at hx
      simp at hx
      omega
  · obtain rfl : p = (x, .slice A (by_ x).length c) := by simpa using hp
    exact ⟨⟨⟨_, _, rfl⟩, hF.mono hll⟩, hB, hA⟩
end
end Go.Proofs.Ytlgbjpihmkeopaa
/- Twins of disks: plain words. -/
namespace Go.Proofs.Ytlgbjpihmkeopaa
set_option linter.unusedSimpArgs false
set_option linter.unusedVariables false
open Go.RowKit

theorem Try.info_bytes : (Try.prog.info? 26).map (fun i => (i.zero, i.size, i.bytes)) = some (some (.slice none 0 0), 1, 24) := by kernel_rfl
theorem Try.info_write : (Try.prog.info? 137).map (fun i => (i.zero, i.size, i.bytes)) = some (some (.agg #[.int .i64 0, .slice none 0 0]), 2, 32) := by kernel_rfl
abbrev gB (_ : List UInt8) (u : Value) : List Value := [u]
abbrev gW (p : Int × List UInt8) (u : Value) : List Value := [.int .i64 p.1, u]
theorem Rd.keepN {w W : World} {B size lo n c : Nat} {A : Option Addr} {xs : List Value} (h : Rd w B size A n xs) (hf : From lo (.slice A n c)) (hk : ∀ q : Addr, lo ≤ q.block → q.block < B → W.cell? q = w.cell? q) : Rd W B size A n xs :=
  ⟨h.1, fun hn => by
    obtain ⟨b, off, e, hb, hc⟩ := h.2 hn
    subst e
    exact ⟨b, off, rfl, hb, fun j u hu => (hk ⟨b, off + j, none⟩ (hf ⟨b, off, none⟩ n c rfl) hb).trans (hc j u hu)⟩⟩
theorem Bys.keepN {w W : World} {B lo : Nat} {v : Value} {l : List UInt8} (h : Bys w B v l) (hf : From lo v) (hk : ∀ q : Addr, lo ≤ q.block → q.block < B → W.cell? q = w.cell? q) : Bys W B v l := by
  obtain ⟨A, c, e, hc, hm, hr⟩ := h
  subst e
  exact ⟨A, c, rfl, hc, hm, hr.keepN hf hk⟩
def outW (lo : Nat) (n : Int) (l : List UInt8) : Outs := ⟨Option Addr × Nat, fun p => .agg #[.int .i64 n, .slice p.1 l.length p.2], fun p W => Bys W W.heap.size (.slice p.1 l.length p.2) l ∧ From lo (.slice p.1 l.length p.2)⟩
theorem outW_f (lo : Nat) (n : Int) (l : List UInt8) (A : Option Addr) (c : Nat) : (outW lo n l).f (A, c) = .agg #[.int .i64 n, .slice A l.length c] := rfl
theorem outW_stableX {base : Nat} {e : TypeId} {size lo : Nat} {v : Value} {n : Nat} {xs : List Value} {f : Value → List Value} {l : List UInt8} {lo' : Nat} {m : Int} {l' : List UInt8} (hlo : ∀ g, v.ownBlock = some g → g < lo') : ∀ p, StableG (appX base e size lo v n xs f l) ((outW lo' m l').φ p) := fun p _ _ he h =>
  ⟨h.1.grown he.1 (Apart.of_from h.2 hlo), h.2⟩
theorem RowX.other {α : Type} {base lo : Nat} {e : TypeId} {size : Nat} {g : α → Value → List Value} {by_ : α → List UInt8} {w W : World} {v : Value} {ps : List (α × Value)} {row : Option Nat} (h : RowX base lo e size g by_ w v ps) (hg : w.grownBy W row) (h1 : ∀ k, v.ownBlock = some k → row ≠ some k) (h2 : ∀ p ∈ ps, ∀ a n c, p.2 = .slice (some a) n c → 0 < n → row ≠ some a.block) : RowX base lo e size g by_ W v ps := by
  refine ⟨⟨h.1.1, ?_⟩, fun p hp => ⟨(h.2 p hp).1, (h.2 p hp).2.1.grown hg (h2 p hp), (h.2 p hp).2.2⟩⟩
  rcases h.1.2 with h0 | ⟨g', cap', cur', rfl, hbg', hg', hnc', hcm', hcs', htk'⟩
  · exact .inl h0
  · exact .inr ⟨g', cap', cur', rfl, hbg', (hg.block g' (Array.getElem?_eq_some_iff.1 hg').1 (fun x => h1 g' rfl x.symm)).trans hg', hnc', hcm', hcs', htk'⟩
theorem RowX.low {α : Type} {base lo : Nat} {e : TypeId} {size : Nat} {g : α → Value → List Value} {by_ : α → List UInt8} {w : World} {v : Value} {ps : List (α × Value)} (h : RowX base lo e size g by_ w v ps) : ∀ p ∈ ps, ∀ a n c, p.2 = .slice (some a) n c → 0 < n → a.block < w.heap.size := by
  intro p hp a n c e hn
  obtain ⟨A', c', e', _, _, hr⟩ := (h.2 p hp).2.1
  rw [e] at e'
  simp only [Value.slice.injEq] at e'
  obtain ⟨e1, e2, _⟩ := e'
  obtain ⟨b, off, e3, hbb, _⟩ := hr.2 (by omega)
  rw [← e1] at e3
  simp only [Option.some.injEq] at e3
  rw [e3]
  exact hbb
theorem hardAt_litX {P : Program} {base : Nat} {e : TypeId} {size lo : Nat} {v : Value} {n : Nat} {xs : List Value} {f : Value → List Value} {l : List UInt8} {o : Oper} {a : Act} {W : World} {lo' : Nat} {ty : TypeId} {A : Option Addr} {c : Nat}
    (hr : (execOp a.eval o).run P W = .ok (.value (.slice (some ⟨W.heap.size, 0, none⟩) 1 1)) (W.alloc (.cells (f (.slice A l.length c)).toArray ty))) (hlo : lo' ≤ W.heap.size) (hb : Bys W W.heap.size (.slice A l.length c) l) (hf : From lo' (.slice A l.length c)) :
    hardAtG (appX base e size lo v n xs f l) P o a W (outLitX lo' ty f l) := by
  unfold hardAtG
  rw [hr]
  exact ⟨W.heap.size, rfl, ⟨hlo, A, c, World.alloc_heap_at _ _ _ rfl, (hb.below (Ext.alloc _ _)).more (Ext.alloc _ _).size, hf⟩, appX_ext (Ext.alloc _ _)⟩
end Go.Proofs.Ytlgbjpihmkeopaa
/- Stores without slices too long to be copied; a store in new memory. -/
namespace Go.Proofs.Ytlgbjpihmkeopaa
set_option linter.unusedSimpArgs false
set_option linter.unusedVariables false
open Go.RowKit

structure Short (S : Sto) : Prop where
  bs : S.bs.length < 1000000
  ws : S.ws.length < 1000000
  be : ∀ l ∈ S.bs, l.length < 1000000
  we : ∀ p ∈ S.ws, p.2.length < 1000000
  now : S.now.length < 1000000
  last : S.last.length < 1000000
def TwinS (lo : Nat) (S : Sto) (u : Value) (W : World) : Prop := ∃ A1 c1 A2 c2 A3 c3 A4 c4, u = storeV A1 S.bs.length c1 A2 S.ws.length c2 A3 S.now.length c3 A4 S.last.length c4 ∧ ∀ W2 : World, (∀ q : Addr, lo ≤ q.block → q.block < W.heap.size → W2.cell? q = W.cell? q) → StoAt W2 W.heap.size (.slice A1 S.bs.length c1) (.slice A2 S.ws.length c2) (.slice A3 S.now.length c3) (.slice A4 S.last.length c4) S

end Go.Proofs.Ytlgbjpihmkeopaa
