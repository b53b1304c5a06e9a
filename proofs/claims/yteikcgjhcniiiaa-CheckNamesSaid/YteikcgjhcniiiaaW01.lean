/- scionrylaw31.CheckNames is true; it has no arguments and no condition. -/
import Derived.Test.YteikcgjhcniiiaaU23
/- scionrylaw31.CheckNames: the walk. -/
namespace Go.Proofs.Yteikcgjhcniiiaa
set_option linter.unusedSimpArgs false
set_option linter.unusedVariables false
open Go.RowKit

/-- a new pool -/
def outNP (lo : Nat) : Outs := ⟨(Nat × Nat × Nat) × (Option Addr × Nat) × (Option Addr × Nat), fun p => .agg (poolCs (.slice (some ⟨p.1.1, 0, none⟩) 256 256) (.slice (some ⟨p.1.2.1, 0, none⟩) 1 2) (.slice p.2.1.1 256 p.2.1.2) (.slice p.2.2.1 256 p.2.2.2) 0 8 1 (.slice none 0 0)), fun p W => DiskT lo emptyS.bs emptyS.ws p.1.1 p.1.2.1 p.1.2.2 W ∧
  W.ownsRow lo 5 1 (.slice p.2.1.1 256 p.2.1.2) 256 (emptyS.now.map bv) ∧ W.ownsRow lo 5 1 (.slice p.2.2.1 256 p.2.2.2) 256 (emptyS.last.map bv)⟩
theorem outNP_f (lo b c g : Nat) (A3 : Option Addr) (c3 : Nat) (A4 : Option Addr) (c4 : Nat) : (outNP lo).f ((b, c, g), (A3, c3), (A4, c4)) = .agg (poolCs (.slice (some ⟨b, 0, none⟩) 256 256) (.slice (some ⟨c, 0, none⟩) 1 2) (.slice A3 256 c3) (.slice A4 256 c4) 0 8 1 (.slice none 0 0)) := rfl
theorem outNP_stable (lo : Nat) : ∀ p, StableG extRel ((outNP lo).φ p) := fun p W W' he h => by
  have he : Ext W W' := he
  exact ⟨DiskT.keep h.1 (Nat.le_refl _) he.size fun b _ hb => he.block b hb, own_ext h.2.1 he, own_ext h.2.2 he⟩
theorem run_mkInts {n : Nat} (hn : n < 1000000) (w : World) : (Instr.makeSlice 30 (.int .i64 (n : Int)) (.int .i64 (n : Int))).run Try.prog w = .ok (.slice (some ⟨w.heap.size, 0, none⟩) n n) (w.alloc (.cells (madeCells #[.int .i64 0] n) 3)) := by
  obtain ⟨i0, hi, hz0, hz1, hz2⟩ := info_parts Try.info_int
  have h := run_make (P := Try.prog) w 30 3 i0 _ Try.underlying30 hi hz0 .i64 .i64 (n : Int) (n : Int) (by omega) (by omega) (by rw [hz2]; omega) (by omega)
  rw [hz1, Int.toNat_natCast, Nat.mul_one] at h
  exact h
theorem made_ints {W : World} {b n : Nat} (h : W.heap[b]? = some (.cells (madeCells #[.int .i64 0] n) 3 (0, 0))) (hn : n < 1000000) : Ints W W.heap.size (.slice (some ⟨b, 0, none⟩) n n) (List.replicate n 0) := by
  refine ⟨some ⟨b, 0, none⟩, n, by simp, by simp, by unfold maxLen; omega, ⟨by simp, fun _ => ⟨b, 0, rfl, (Array.getElem?_eq_some_iff.1 h).1, fun j u hu => ?_⟩⟩⟩
  rw [Nat.zero_add, cells_row h, ← hu]
  unfold madeCells
  rw [Array.getElem?_map, Array.getElem?_range, List.getElem?_map, List.getElem?_replicate]
  by_cases hj : j < n
  · rw [if_pos hj, if_pos hj]
    simp [Nat.mod_one]
  · rw [if_neg hj, if_neg hj]
    rfl
theorem lit_ints {W : World} {b : Nat} {a : Int} (h : W.heap[b]? = some (.cells #[.int .i64 a] 3 (0, 0))) : Ints W W.heap.size (.slice (some ⟨b, 0, none⟩) 1 1) [a] :=
  ⟨some ⟨b, 0, none⟩, 1, rfl, Nat.le_refl _, by unfold maxLen; omega, ⟨rfl, fun _ => ⟨b, 0, rfl, (Array.getElem?_eq_some_iff.1 h).1, fun j u hu => by rw [Nat.zero_add, cells_row h, ← hu]; simp⟩⟩⟩
theorem no_store (w : World) (B : Nat) : StoAt w B (.slice none 0 0) (.slice none 0 0) (.slice none 0 0) (.slice none 0 0) ⟨[], [], [], []⟩ :=
  ⟨⟨[], none, 0, rfl, Nat.le_refl _, by simp [maxLen], Rd.none_, fun i u l hu => by simp at hu⟩, Wrs.nil _ _, Bys.nil _ _, Bys.nil _ _⟩
theorem empty_counts_many {l : List Int} (h : 1024 < l.length) : countsV emptyS refs0 l = (false, 4) := by unfold countsV; rw [if_pos h]

set_option maxHeartbeats 2000000 in
set_option maxRecDepth 100000 in
theorem cnames_any (w : World) : Calls Try.prog 4 #[] w (Ret (.bool true) w) := by
  go_enter Try.func4, Try.ntmps4
  go_wp2_with fail
  refine (fnew_any w).mono ?_
  rintro e w1 ⟨u, rfl, hp, hB⟩
  have x1 : Ext w w1 := hB
  obtain ⟨A1, c1, A2, c2, A3, c3, A4, c4, rfl, hS⟩ := hp.sto
  replace hS := Lib.hid hS
  clear hp hB
  go_wp2_with fail
  generalize hw2 : World.alloc _ _ = w2
  have x12 : Ext w1 w2 := by rw [← hw2]; exact Ext.alloc _ _
  have r2 : w2.heap[w1.heap.size]? = some (.cells #[.int .i64 8] 3 (0, 0)) := by rw [← hw2]; exact World.alloc_heap_at _ _ _ rfl
  clear hw2
  refine (counts_any A1 256 c1 A2 1 c2 A3 256 c3 A4 256 c4 0 8 1 none 0 emptyS [] _ _ [8] w2 (hS.out.ext x12) (Ints.nil _ _) (lit_ints r2)).mono ?_
  intro e w3 hC
  have x3 : Ext w w3 := (x1.trans x12).trans hC.1
  have e1 := hC.empty
  rw [empty_counts8] at e1
  subst e1
  clear hC x1 x12 r2 hS
  go_wp2_with fail
  refine (fnew_any w3).mono ?_
  rintro e w4 ⟨u, rfl, hp, hB⟩
  have x4 : Ext w w4 := x3.trans hB
  obtain ⟨A1, c1, A2, c2, A3, c3, A4, c4, rfl, hS⟩ := hp.sto
  replace hS := Lib.hid hS
  clear hp hB x3
  go_wp2_with fail
  generalize hw5 : World.alloc _ _ = w5
  have x45 : Ext w4 w5 := by rw [← hw5]; exact Ext.alloc _ _
  have r5 : w5.heap[w4.heap.size]? = some (.cells #[.int .i64 7] 3 (0, 0)) := by rw [← hw5]; exact World.alloc_heap_at _ _ _ rfl
  clear hw5
  refine (counts_any A1 256 c1 A2 1 c2 A3 256 c3 A4 256 c4 0 8 1 none 0 emptyS [] _ _ [7] w5 (hS.out.ext x45) (Ints.nil _ _) (lit_ints r5)).mono ?_
  intro e w6 hC
  have x6 : Ext w w6 := (x4.trans x45).trans hC.1
  have e1 := hC.empty
  rw [empty_counts7] at e1
  subst e1
  clear hC x4 x45 r5 hS
  go_wp2_with fail
  refine (counts_any none 0 0 none 0 0 none 0 0 none 0 0 0 0 0 none 0 ⟨[], [], [], []⟩ [] none 0 [] w6 (no_store _ _) (Ints.nil _ _) (Ints.nil _ _)).mono ?_
  intro e w7 hC
  have x7 : Ext w w7 := x6.trans hC.1
  have e1 := hC.none rfl
  subst e1
  clear hC x6
  have hmk := run_mkInts (n := 1025) (by omega)
  have hmk' : ∀ w, (Instr.makeSlice 30 (.int .i64 1025) (.int .i64 1025)).run Try.prog w = .ok (.slice (some ⟨w.heap.size, 0, none⟩) 1025 1025) (w.alloc (.cells (madeCells #[.int .i64 0] 1025) 3)) := hmk
  clear hmk
  go_wp2_with fail
  refine region_start (by kernel_rfl) ?_
  refine any_freeT (w := w7) extRel (outsAt [(0, outNP w7.heap.size), (1, outMk w7.heap.size 1025 1025 3 (madeCells #[.int .i64 0] 1025)), (2, one (.tuple #[.bool false, .int .i64 4]))]) [true, true, true, true, true, true, true, true] 0 (by kernel_rfl) (by kernel_rfl) (by kernel_rfl) (by kernel_rfl) (by kernel_rfl) (by kernel_rfl) (by kernel_rfl) ?st (Rel.drew _ _) ?walk
  case st => exact outsAt_stableG (by simp only [List.forall_mem_cons]; exact ⟨outNP_stable _, outMk_stable _ _ _ _ _, one_stableG _, fun _ h => by cases h⟩)
  case walk =>
    intro K hK
    dsimp only [maskOps]
    refine free_hardM (outNP w7.heap.size) (by rfl) (by rfl) (fun W hW _ => ?_) (fun p => ?_)
    · have hW : Ext w7 W := hW
      refine hardAt_callG ?_ ((fnew_any W).mono fun e w' h => ?_)
      · go_simp
      obtain ⟨u, rfl, ⟨b, c, g, A3, c3, A4, c4, rfl, h1, h2, h3⟩, hB⟩ := h
      exact ⟨((b, c, g), (A3, c3), (A4, c4)), rfl, ⟨h1.keep hW.size (Nat.le_refl _) (fun _ _ _ => rfl), own_mono h2 hW.size, own_mono h3 hW.size⟩, hB⟩
    obtain ⟨⟨b, c, g⟩, ⟨A3, c3⟩, ⟨A4, c4⟩⟩ := p
    simp only [Act.put, one_f, outB_f, outNew_f, outI_f, outMk_f, outNP_f, List.setIfInBounds_toArray, List.set_cons_zero, List.set_cons_succ]
    repeat (first | (refine free_plainM ?_ (by rfl) (by rfl) (fun W hW _ => ⟨W, ?_, Rel.refl _ W⟩) ?_; rotate_left; (first | (go_simp; with_reducible rfl) | (go_simp; done)); try simp only [Act.put, one_f, outB_f, outNew_f, outI_f, outMk_f, outNP_f, List.setIfInBounds_toArray, List.set_cons_zero, List.set_cons_succ]) | (refine free_skipM (by rfl) ?_; simp only [Act.put, one_f, outB_f, outNew_f, outI_f, outMk_f, outNP_f, List.setIfInBounds_toArray, List.set_cons_zero, List.set_cons_succ]))
    refine free_hardM (outMk w7.heap.size 1025 1025 3 (madeCells #[.int .i64 0] 1025)) (by rfl) (by rfl) (fun W hW _ => ?_) (fun (m : Nat) => ?_)
    · have hW : Ext w7 W := hW
      refine hardAt_valueG (u := .slice (some ⟨W.heap.size, 0, none⟩) 1025 1025) (w' := W.alloc (.cells (madeCells #[.int .i64 0] 1025) 3)) ?_ ⟨W.heap.size, rfl, ⟨World.alloc_heap_at _ _ _ rfl, hW.size⟩, Ext.alloc _ _⟩
      go_simp
    simp only [Act.put, one_f, outB_f, outNew_f, outI_f, outMk_f, outNP_f, List.setIfInBounds_toArray, List.set_cons_zero, List.set_cons_succ]
    repeat (first | (refine free_plainM ?_ (by rfl) (by rfl) (fun W hW _ => ⟨W, ?_, Rel.refl _ W⟩) ?_; rotate_left; (first | (go_simp; with_reducible rfl) | (go_simp; done)); try simp only [Act.put, one_f, outB_f, outNew_f, outI_f, outMk_f, outNP_f, List.setIfInBounds_toArray, List.set_cons_zero, List.set_cons_succ]) | (refine free_skipM (by rfl) ?_; simp only [Act.put, one_f, outB_f, outNew_f, outI_f, outMk_f, outNP_f, List.setIfInBounds_toArray, List.set_cons_zero, List.set_cons_succ]))
    refine free_hardM (one (.tuple #[.bool false, .int .i64 4])) (by rfl) (by rfl) (fun W hW hp => ?_) (fun (p : Unit) => ?_)
    · have h0 : DiskT w7.heap.size emptyS.bs emptyS.ws b c g W ∧ W.ownsRow w7.heap.size 5 1 (.slice A3 256 c3) 256 (emptyS.now.map bv) ∧ W.ownsRow w7.heap.size 5 1 (.slice A4 256 c4) 256 (emptyS.last.map bv) := (hp 0 (by decide)).1
      have h1 : W.heap[m]? = some (.cells (madeCells #[.int .i64 0] 1025) 3 (0, 0)) ∧ w7.heap.size ≤ m := (hp 1 (by decide)).1
      obtain ⟨B1, d1, B2, d2, B3, d3, B4, d4, e, hS⟩ := NewPool.sto ⟨b, c, g, A3, c3, A4, c4, rfl, h0⟩
      simp only [poolCs, Value.agg.injEq, Array.mk.injEq, List.cons.injEq, Value.slice.injEq, true_and, and_true] at e
      obtain ⟨⟨rfl, rfl⟩, ⟨rfl, rfl⟩, ⟨rfl, rfl⟩, ⟨rfl, rfl⟩⟩ := e
      have hl : (List.replicate 1025 (0 : Int)).length = 1025 := List.length_replicate
      have HC := counts_any _ _ _ _ _ _ _ _ _ _ _ _ 0 8 1 none 0 emptyS [] (some ⟨m, 0, none⟩) 1025 (List.replicate 1025 0) W hS (Ints.nil _ _) (by rw [hl]; exact made_ints h1.1 (by omega))
      rw [hl] at HC
      refine hardAt_callG ?_ (HC.mono fun e w' hC => ?_)
      · go_simp
      have e1 := hC.empty
      rw [empty_counts_many (by rw [hl]; omega)] at e1
      exact ⟨(), e1, trivial, hC.1⟩
    simp only [Act.put, one_f, outB_f, outNew_f, outI_f, outMk_f, outNP_f, List.setIfInBounds_toArray, List.set_cons_zero, List.set_cons_succ]
    repeat (first | (refine free_plainM ?_ (by rfl) (by rfl) (fun W hW _ => ⟨W, ?_, Rel.refl _ W⟩) ?_; rotate_left; (first | (go_simp; with_reducible rfl) | (go_simp; done)); try simp only [Act.put, one_f, outB_f, outNew_f, outI_f, outMk_f, outNP_f, List.setIfInBounds_toArray, List.set_cons_zero, List.set_cons_succ]) | (refine free_skipM (by rfl) ?_; simp only [Act.put, one_f, outB_f, outNew_f, outI_f, outMk_f, outNP_f, List.setIfInBounds_toArray, List.set_cons_zero, List.set_cons_succ]))
    refine free_nilM (hK _ _ fun W hW hF => ?_)
    have hW : Ext w7 W := hW
    have x8 := x7.trans hW
    clear hF hK hW x7 hmk'
    dsimp only [List.drop, List.length_cons, List.length_nil]
    go_wp2
    refine QN_in ?_
    go_wp2_with fail
    refine (alive_any W).mono ?_
    rintro e w9 ⟨rfl, hB⟩
    have x9 : Ext w w9 := x8.trans hB
    go_wp2
    go_ret
    exact ⟨rfl, x9⟩
end Go.Proofs.Yteikcgjhcniiiaa
namespace Go.Proofs.Yteikcgjhcniiiaa.checkNames
set_option linter.unusedSimpArgs false
set_option linter.unusedVariables false
open Go.ChangeShapes Go.WideShapes Go.ChangeAt Go.RowKit

theorem own : ownKnob Try.prog.godebug = none := by kernel_rfl
theorem laidOut : laidOutB Try.prog = true := by kernel_rfl

set_option maxHeartbeats 1000000 in
set_option maxRecDepth 100000 in
theorem lifted (os : Os) (started : os.Started) (H : Type) (enc : TypeId × Value → H) :
    ReturnsInHanded {} Try.checked os 4 .any (Rows.checkNamesSpec.pre6 enc Try.prog Try.f4 Rows.checkNamesRow.domain false) (Rows.checkNamesSpec.post enc Try.prog Try.f4 false true false false) := by
  refine returnsInHanded_of_change (C := Try.checked) own started (by kernel_rfl) Try.func4
    (ChangeSpec.witness6 (enc := enc) (C := Try.checked) false ⟨#[], #[], []⟩ 8 (by kernel_rfl) (by kernel_rfl) (by kernel_rfl) (by kernel_rfl)) ?_
  intro W base args ds gs before hval0 hW hcnd _
  have hval : ∀ (j : Nat) t v, Try.f4.params[j]? = some t → args[j]? = some v → Value.okWide Try.prog W .any base t v := hval0
  have hW' := hW
  have hlt : ∀ x ∈ before, x.block < W.heap.size := fun x hx => hW.lt x hx
  obtain ⟨p, q, hA0, hV, rfl, hfz, hnd⟩ := hW
  have hA : DataW.TrodAll enc Try.prog W 0 (fun _ => true) true Try.f4.params.toList args.toList ds p := hA0
  rw [Try.params4] at hA hval
  obtain ⟨hargs, rfl, rfl⟩ := trodAll_nil hA
  obtain rfl : args = #[] := by cases args; simp_all
  obtain ⟨rfl, rfl⟩ := trodVars_none hV
  have walk : Calls Try.prog 4 #[] W (Ret (.bool true) W) := cnames_any W
  refine walk.mono fun e W' ⟨he, hB⟩ => ?_
  subst he
  exact ⟨_, rfl, law_post rfl laidOut rfl Try.underlying4 (by
    intro t ht
    rw [Try.params4] at ht
    simp at ht) hW' rfl hB⟩

theorem over : Rows.checkNamesRow.holds Try.pinned (OpenSpec.ofChange Rows.checkNamesSpec) :=
  OpenClaim.holds_of_wide 4 Try.f4 rfl rfl rfl rfl rfl rfl rfl ⟨rfl, rfl, rfl, rfl, rfl⟩ rfl rfl rfl rfl rfl (by kernel_rfl) Try.func4 (by kernel_rfl)
    (of_decide_eq_true (by kernel_rfl)) (by unfold Func.isWrapper; first | (rw [if_pos (by decide +kernel)]; kernel_rfl) | (rw [if_neg (by decide +kernel)]; exact ⟨rfl, rfl⟩))
    (fun os started H enc _ => lifted os started H enc)

/-- THE STATEMENT -/
theorem proved : Rows.CheckNamesSaid := over
end Go.Proofs.Yteikcgjhcniiiaa.checkNames
