/- scionryref24.Of. -/
import Derived.Test.YtaapiojpkkhmgaaOf
namespace Go.Proofs.Ytaapiojpkkhmgaa
set_option linter.unusedSimpArgs false
set_option linter.unusedVariables false
open Go.RowKit

theorem bytesOf_numOf : ∀ (l : List UInt8), bytesOf (numOf l) l.length = l
  | [] => rfl
  | b :: r => by
    have hb := b.toNat_lt
    show UInt8.ofNat (b.toNat + 256 * numOf r) :: bytesOf ((b.toNat + 256 * numOf r) / 256) r.length = b :: r
    have e1 : (b.toNat + 256 * numOf r) / 256 = numOf r := by omega
    rw [e1, bytesOf_numOf r]
    congr 1
    apply UInt8.toNat_inj.1
    simp

/-- what an item of seven bytes is, against what is made of it -/
theorem same_head (k i o r : Int) (b0 b1 b2 b3 b4 b5 b6 : UInt8) :
    decide ((2 : Int) = k ∧ i = i ∧ (0 : Int) = o ∧ (0 : Int) = r ∧ inoBytes ((b0.toNat : Int) == 1) (numOf [b1, b2]) (numOf [b3, b4, b5, b6]) = [b0, b1, b2, b3, b4, b5, b6]) = !headBad k o r b0 := by
  have e : inoBytes ((b0.toNat : Int) == 1) (numOf [b1, b2]) (numOf [b3, b4, b5, b6]) = (if ((b0.toNat : Int) == 1) then 1 else 0) :: [b1, b2, b3, b4, b5, b6] := by
    have e1 := bytesOf_numOf [b1, b2]
    have e2 := bytesOf_numOf [b3, b4, b5, b6]
    simp only [List.length_cons, List.length_nil, Nat.zero_add, Nat.reduceAdd] at e1 e2
    rw [inoBytes, e1, e2]
    rfl
  have e3 : ((if ((b0.toNat : Int) == 1) then (1 : UInt8) else 0) = b0) ↔ ¬ 1 < b0.toNat := by
    have h1 : ((b0.toNat : Int) == 1) = decide (b0.toNat = 1) := by rw [Bool.eq_iff_iff]; simp; omega
    rw [h1]
    by_cases hb : b0.toNat = 1
    · simp [hb]; apply UInt8.toNat_inj.1; simp [hb]
    · simp [hb]
      constructor
      · rintro rfl; simp
      · intro h; apply UInt8.toNat_inj.1; simp; omega
  rw [e, Bool.eq_iff_iff]
  simp only [List.cons.injEq, and_true, true_and, decide_eq_true_eq, e3, headBad]
  simp
  constructor
  · rintro ⟨rfl, rfl, rfl, h⟩; exact ⟨by omega, rfl, rfl, rfl⟩
  · rintro ⟨h1, rfl, rfl, rfl⟩; exact ⟨rfl, rfl, rfl, by omega⟩

set_option maxHeartbeats 1000000 in
/-- not of seven bytes -/
theorem rof_len (k i o r : Int) (A : Option Addr) (n c : Nat) (hn : n ≠ 7) (w : World) :
    Calls Try.prog 7 #[itemV k i o r A n c] w (Ret noIno w) := by
  have hn1 : ((n : Int) != 7) = true := by rw [bne_iff_ne]; omega
  go_enter Try.func7, Try.ntmps7
  go_wp2
  exact bodyPost_ret (v := noIno) (by simp [results, Try.results7, go_sem]) rfl ⟨rfl, (by repeat' (first | with_reducible exact Below.refl _ _ | with_reducible assumption | with_reducible apply Below.drew | with_reducible apply below_drewN | with_reducible refine Below.alloc ?_ ?_ _ | with_reducible refine Below.setCell ?_ ?_ _ | (simp; done) | (simp; omega) | omega))⟩

theorem wrapI (x : Int) (h : -9223372036854775808 ≤ x ∧ x ≤ 9223372036854775807) : IntKind.i64.wrap x = x := IntWalk.i64_in x h
theorem wrapL (b1 b2 : UInt8) : IntKind.i64.wrap (IntKind.i64.wrap (b1.toNat : Int) + IntKind.i64.wrap (256 * IntKind.i64.wrap (b2.toNat : Int))) = ((numOf [b1, b2] : Nat) : Int) := by
  have q1 := b1.toNat_lt
  have q2 := b2.toNat_lt
  rw [wrapI (b1.toNat : Int) (by omega), wrapI (b2.toNat : Int) (by omega), wrapI (256 * (b2.toNat : Int)) (by omega), wrapI _ (by omega)]
  simp [numOf]
theorem addL (b1 b2 : UInt8) : (b1.toNat : Int) + 256 * (b2.toNat : Int) = ((numOf [b1, b2] : Nat) : Int) := by
  simp [numOf]
theorem addS (b3 b4 b5 b6 : UInt8) : (b3.toNat : Int) + 256 * (b4.toNat : Int) + 65536 * (b5.toNat : Int) + 16777216 * (b6.toNat : Int) = ((numOf [b3, b4, b5, b6] : Nat) : Int) := by
  simp [numOf]
  omega
theorem wrapS (b3 b4 b5 b6 : UInt8) : IntKind.i64.wrap (IntKind.i64.wrap (IntKind.i64.wrap (IntKind.i64.wrap (b3.toNat : Int) + IntKind.i64.wrap (256 * IntKind.i64.wrap (b4.toNat : Int))) + IntKind.i64.wrap (65536 * IntKind.i64.wrap (b5.toNat : Int))) + IntKind.i64.wrap (16777216 * IntKind.i64.wrap (b6.toNat : Int))) = ((numOf [b3, b4, b5, b6] : Nat) : Int) := by
  have q3 := b3.toNat_lt
  have q4 := b4.toNat_lt
  have q5 := b5.toNat_lt
  have q6 := b6.toNat_lt
  rw [wrapI (b3.toNat : Int) (by omega), wrapI (b4.toNat : Int) (by omega), wrapI (b5.toNat : Int) (by omega), wrapI (b6.toNat : Int) (by omega), wrapI (256 * (b4.toNat : Int)) (by omega), wrapI (65536 * (b5.toNat : Int)) (by omega), wrapI (16777216 * (b6.toNat : Int)) (by omega), wrapI ((b3.toNat : Int) + 256 * (b4.toNat : Int)) (by omega), wrapI ((b3.toNat : Int) + 256 * (b4.toNat : Int) + 65536 * (b5.toNat : Int)) (by omega), wrapI _ (by omega)]
  simp [numOf]
  omega

set_option maxHeartbeats 2000000 in
theorem rof_seven (k i o r : Int) (b off c : Nat) (h7 : 7 ≤ c) (hcm : c ≤ maxLen) (b0 b1 b2 b3 b4 b5 b6 : UInt8) (w : World) (hbw : b < w.heap.size) (hc : ∀ (j : Nat) (u : Value), ([b0, b1, b2, b3, b4, b5, b6].map bv)[j]? = some u → w.cell? ⟨b, off + j, none⟩ = some u) :
    Calls Try.prog 7 #[itemV k i o r (some ⟨b, off, none⟩) 7 c] w (Ret (ofV i k o r b0 (numOf [b1, b2]) (numOf [b3, b4, b5, b6])) w) := by
  have q0 := b0.toNat_lt
  have q1 := b1.toNat_lt
  have q2 := b2.toNat_lt
  have q3 := b3.toNat_lt
  have q4 := b4.toNat_lt
  have q5 := b5.toNat_lt
  have q6 := b6.toNat_lt
  go_enter Try.func7, Try.ntmps7
  go_wp2
  generalize hw1 : (World.alloc (World.alloc _ _) _) = w1
  have hb1 : Below w.heap.size w w1 := by rw [← hw1]; exact (by repeat' (first | with_reducible exact Below.refl _ _ | with_reducible assumption | with_reducible apply Below.drew | with_reducible apply below_drewN | with_reducible refine Below.alloc ?_ ?_ _ | with_reducible refine Below.setCell ?_ ?_ _ | (simp; done) | (simp; omega) | omega))
  have k1 : w1.heap[w.heap.size]? = some (.cells #[.int .u8 k, .int .u32 i, .int .u32 o, .int .i64 r, .slice (some ⟨b, off, none⟩) 7 c] 29 (0, 0)) := by rw [← hw1]; exact (Below.heap_alloc _ _ _ (by simp)).trans (World.alloc_heap_at _ _ _ rfl)
  have k2 : w1.heap[w.heap.size + 1]? = some (.cells #[.int .u32 0, .bool false, .int .i64 0, .int .i64 0] 24 (0, 0)) := by rw [← hw1]; exact World.alloc_heap_at _ _ _ (by simp)
  have hz : w1.heap.size = w.heap.size + 2 := by rw [← hw1]; simp
  clear hw1
  have hE : ∀ W, Ext w1 W → ∀ j, W.cell? ⟨w.heap.size, j, none⟩ = #[.int .u8 k, .int .u32 i, .int .u32 o, .int .i64 r, .slice (some ⟨b, off, none⟩) 7 c][j]? := fun W h => cells_row ((h.block _ (by omega)).trans k1)
  have hcs : ∀ W, Ext w1 W → ∀ (j : Nat) (u : Value), ([b0, b1, b2, b3, b4, b5, b6].map bv)[j]? = some u → W.cell? ⟨b, off + j, none⟩ = some u := fun W h j u hu => (Below.cell (Below.trans hb1 (Below.mono h (by omega))) hbw).trans (hc j u hu)
  have hc0 : ∀ W, Ext w1 W → W.cell? ⟨b, off, none⟩ = some (bv b0) := fun W h => hcs W h 0 _ rfl
  have hc1 : ∀ W, Ext w1 W → W.cell? ⟨b, off + 1, none⟩ = some (bv b1) := fun W h => hcs W h 1 _ rfl
  have hc2 : ∀ W, Ext w1 W → W.cell? ⟨b, off + 2, none⟩ = some (bv b2) := fun W h => hcs W h 2 _ rfl
  have hc3 : ∀ W, Ext w1 W → W.cell? ⟨b, off + 3, none⟩ = some (bv b3) := fun W h => hcs W h 3 _ rfl
  have hc4 : ∀ W, Ext w1 W → W.cell? ⟨b, off + 4, none⟩ = some (bv b4) := fun W h => hcs W h 4 _ rfl
  have hc5 : ∀ W, Ext w1 W → W.cell? ⟨b, off + 5, none⟩ = some (bv b5) := fun W h => hcs W h 5 _ rfl
  have hc6 : ∀ W, Ext w1 W → W.cell? ⟨b, off + 6, none⟩ = some (bv b6) := fun W h => hcs W h 6 _ rfl
  refine wp_region_free (outsAt [(21, outNew (w.heap.size + 2) 24 #[.int .u32 0, .bool false, .int .i64 0, .int .i64 0])]) 22 (by kernel_rfl) (by kernel_rfl) (by kernel_rfl) (by decide) (by kernel_rfl) (by kernel_rfl) ?st ?walk
  case st => exact outsAt_stable (by simp only [List.forall_mem_cons]; exact ⟨outNew_stable _ _ _, fun _ h => by cases h⟩)
  case walk =>
    intro K hK
    dsimp only [List.take]
    repeat (first | (refine free_plain ?_ (by rfl) (by rfl) (fun W hW _ => ⟨W, ?_, Ext.refl W⟩) ?_; rotate_left; (first | (go_simp; with_reducible rfl) | (go_simp; done)); try simp only [Act.put, one_f, outB_f, outNew_f, outI_f, List.setIfInBounds_toArray, List.set_cons_zero, List.set_cons_succ]) | (refine free_skip (by rfl) ?_; simp only [Act.put, one_f, outB_f, outNew_f, outI_f, List.setIfInBounds_toArray, List.set_cons_zero, List.set_cons_succ]))
    refine free_hard (outNew (w.heap.size + 2) 24 #[.int .u32 0, .bool false, .int .i64 0, .int .i64 0]) (by rfl) (by rfl) (fun W hW _ => ?_) (fun (p : Nat) => ?_)
    · refine hardAt_new ?_ (by have := hW.size; omega)
      go_simp
    simp only [Act.put, one_f, outB_f, outNew_f, outI_f, List.setIfInBounds_toArray, List.set_cons_zero, List.set_cons_succ]
    refine free_nil (hK _ _ fun W hW2 hF => ?_)
    obtain ⟨e4, hlp⟩ : W.heap[p]? = some (.cells #[.int .u32 0, .bool false, .int .i64 0, .int .i64 0] 24 (0, 0)) ∧ w.heap.size + 2 ≤ p := (hF 21).1
    clear hF hK
    dsimp only [List.drop]
    have kc4 := cells_row e4
    have kf4 := frozen_row e4
    go_wp2
    rw [wrapL b1 b2, addL b1 b2]
    have HA := Lib.hid (addS b3 b4 b5 b6)
    have HS := Lib.hid (wrapS b3 b4 b5 b6)
    have HH := Lib.hid (same_head k i o r b0 b1 b2 b3 b4 b5 b6)
    have hV : ofV i k o r b0 (numOf [b1, b2]) (numOf [b3, b4, b5, b6]) = if headBad k o r b0 then noIno else if mayB i ((b0.toNat : Int) == 1) (numOf [b1, b2]) (numOf [b3, b4, b5, b6]) then .tuple #[ino i ((b0.toNat : Int) == 1) (numOf [b1, b2]) (numOf [b3, b4, b5, b6]), .int .i64 0] else noIno := rfl
    have HV := Lib.hid hV
    clear hV
    generalize numOf [b1, b2] = L at *
    generalize hS : numOf [b3, b4, b5, b6] = S at *
    generalize ((b0.toNat : Int) == 1) = D at *
    have hzW := hW2.size
    have r4 : ((((W.setCell ⟨p, 0, none⟩ (.int .u32 i)).setCell ⟨p, 1, none⟩ (.bool D)).setCell ⟨p, 2, none⟩ (.int .i64 L)).setCell ⟨p, 3, none⟩ (.int .i64 0)).heap[p]? = some (.cells #[.int .u32 i, .bool D, .int .i64 L, .int .i64 0] 24 (0, 0)) := by
      simp [World.setCell, Array.getElem?_modify, e4]
    have r5 : ∀ q, q < w.heap.size + 2 → ((((W.setCell ⟨p, 0, none⟩ (.int .u32 i)).setCell ⟨p, 1, none⟩ (.bool D)).setCell ⟨p, 2, none⟩ (.int .i64 L)).setCell ⟨p, 3, none⟩ (.int .i64 0)).heap[q]? = w1.heap[q]? := fun q hq => by
      have hne : q ≠ p := by omega
      rw [Below.heap_setCell _ _ _ _ hne, Below.heap_setCell _ _ _ _ hne, Below.heap_setCell _ _ _ _ hne, Below.heap_setCell _ _ _ _ hne]
      exact hW2.block _ (by omega)
    generalize hw4 : (World.setCell (World.setCell (World.setCell (World.setCell W _ _) _ _) _ _) _ _) = w4 at *
    have hz4 : w4.heap.size = W.heap.size := by rw [← hw4]; simp
    have hB4 : Below w.heap.size w w4 := by
      have : Below w.heap.size w W := Below.trans hb1 (Below.mono hW2 (by omega))
      rw [← hw4]; exact (by repeat' (first | with_reducible exact Below.refl _ _ | with_reducible assumption | with_reducible apply Below.drew | with_reducible apply below_drewN | with_reducible refine Below.alloc ?_ ?_ _ | with_reducible refine Below.setCell ?_ ?_ _ | (simp; done) | (simp; omega) | omega))
    have hp4 : p < w4.heap.size := (Array.getElem?_eq_some_iff.1 r4).1
    have g1 := (r5 w.heap.size (by omega)).trans k1
    have g2 := (r5 (w.heap.size + 1) (by omega)).trans k2
    have hcr : ∀ (j : Nat) (u : Value), ([b0, b1, b2, b3, b4, b5, b6].map bv)[j]? = some u → w4.cell? ⟨b, off + j, none⟩ = some u := fun j u hu => (Below.cell hB4 hbw).trans (hc j u hu)
    clear hw4 r5 k1 k2 kc4 kf4 e4 hE hcs hc0 hc1 hc2 hc3 hc4 hc5 hc6 hc
    have hE : ∀ W, Ext w4 W → ∀ j, W.cell? ⟨w.heap.size, j, none⟩ = #[.int .u8 k, .int .u32 i, .int .u32 o, .int .i64 r, .slice (some ⟨b, off, none⟩) 7 c][j]? := fun W h => cells_row ((h.block _ (by omega)).trans g1)
    have hc3 : ∀ W, Ext w4 W → W.cell? ⟨b, off + 3, none⟩ = some (bv b3) := fun W h => (Below.cell h (show b < w4.heap.size by omega)).trans (hcr 3 _ rfl)
    have hc4 : ∀ W, Ext w4 W → W.cell? ⟨b, off + 4, none⟩ = some (bv b4) := fun W h => (Below.cell h (show b < w4.heap.size by omega)).trans (hcr 4 _ rfl)
    have hc5 : ∀ W, Ext w4 W → W.cell? ⟨b, off + 5, none⟩ = some (bv b5) := fun W h => (Below.cell h (show b < w4.heap.size by omega)).trans (hcr 5 _ rfl)
    have hc6 : ∀ W, Ext w4 W → W.cell? ⟨b, off + 6, none⟩ = some (bv b6) := fun W h => (Below.cell h (show b < w4.heap.size by omega)).trans (hcr 6 _ rfl)
    refine wp_region_free (outsAt []) 27 (by kernel_rfl) (by kernel_rfl) (by kernel_rfl) (by decide) (by kernel_rfl) (by kernel_rfl) ?st ?walk
    case st => exact outsAt_stable (fun _ h => by cases h)
    case walk =>
      intro K hK
      dsimp only [List.take]
      repeat (first | (refine free_plain ?_ (by rfl) (by rfl) (fun W hW _ => ⟨W, ?_, Ext.refl W⟩) ?_; rotate_left; (first | (go_simp; with_reducible rfl) | (go_simp; done)); try simp only [Act.put, one_f, outB_f, outNew_f, outI_f, List.setIfInBounds_toArray, List.set_cons_zero, List.set_cons_succ]) | (refine free_skip (by rfl) ?_; simp only [Act.put, one_f, outB_f, outNew_f, outI_f, List.setIfInBounds_toArray, List.set_cons_zero, List.set_cons_succ]))
      refine free_nil (hK _ _ fun W5 hW5 _ => ?_)
      clear hK
      have e5 := (hW5.block p (by omega)).trans r4
      have kc5 := cells_row e5
      have kf5 := frozen_row e5
      dsimp only [List.drop]
      rw [HS.out]
      clear hS
      go_wp2_with fail
      have r6 : (W5.setCell ⟨p, 3, none⟩ (.int .i64 S)).heap[p]? = some (.cells #[.int .u32 i, .bool D, .int .i64 L, .int .i64 S] 24 (0, 0)) := by
        simp [World.setCell, Array.getElem?_modify, e5]
      have r7 : ∀ q, q < w.heap.size + 2 → (W5.setCell ⟨p, 3, none⟩ (.int .i64 S)).heap[q]? = w4.heap[q]? := fun q hq => by
        rw [Below.heap_setCell _ _ _ _ (show q ≠ p by omega)]
        exact hW5.block _ (by omega)
      have hB6 : Below w.heap.size w (W5.setCell ⟨p, 3, none⟩ (.int .i64 S)) := by
        have : Below w.heap.size w W5 := Below.trans hB4 (Below.mono hW5 (by omega))
        exact (by repeat' (first | with_reducible exact Below.refl _ _ | with_reducible assumption | with_reducible apply Below.drew | with_reducible apply below_drewN | with_reducible refine Below.alloc ?_ ?_ _ | with_reducible refine Below.setCell ?_ ?_ _ | (simp; done) | (simp; omega) | omega))
      have hz5 := hW5.size
      generalize hw6 : World.setCell W5 _ _ = w6 at *
      have hz6 : w6.heap.size = W5.heap.size := by rw [← hw6]; simp
      clear hw6
      have g3 := (r7 w.heap.size (by omega)).trans g1
      have g4 := (r7 (w.heap.size + 1) (by omega)).trans g2
      have hp6 : p < w6.heap.size := by omega
      clear r7 g1 g2 r4 kc5 kf5 e5 hE hc3 hc4 hc5 hc6
      have hEi : ∀ W, Ext w6 W → ∀ j, W.cell? ⟨w.heap.size, j, none⟩ = #[.int .u8 k, .int .u32 i, .int .u32 o, .int .i64 r, .slice (some ⟨b, off, none⟩) 7 c][j]? := fun W h => cells_row ((h.block _ (by omega)).trans g3)
      have hEp : ∀ W, Ext w6 W → ∀ j, W.cell? ⟨p, j, none⟩ = #[.int .u32 i, .bool D, .int .i64 L, .int .i64 S][j]? := fun W h => cells_row ((h.block _ hp6).trans r6)
      have hby : ∀ W, Ext w6 W → Bys W W.heap.size (.slice (some ⟨b, off, none⟩) 7 c) [b0, b1, b2, b3, b4, b5, b6] := fun W h => ⟨_, c, rfl, h7, hcm, rfl, fun _ => ⟨b, off, rfl, by have := h.size; omega, fun j u hu => (Below.cell h (show b < w6.heap.size by omega)).trans ((Below.cell hB6 hbw).trans ((Below.cell hB4 hbw).symm.trans (hcr j u hu)))⟩⟩
      have HM := Lib.hid (fun W => may_any i D L S W)
      cases hm : mayB i D L S
      case false =>
        rw [hm] at HM
        have hV2 : Ending.returned noIno = .returned (ofV i k o r b0 L S) := by rw [HV.out, hm]; simp
        have HV2 := Lib.hid hV2
        clear hV2 hm
        refine wp_region_free (outsAt [(1, one (.bool false))]) 10 (by kernel_rfl) (by kernel_rfl) (by kernel_rfl) (by decide) (by kernel_rfl) (by kernel_rfl) ?st ?walk
        case st => exact outsAt_stable (by simp only [List.forall_mem_cons]; exact ⟨one_stable _, fun _ h => by cases h⟩)
        case walk =>
          intro K hK
          dsimp only [List.take]
          repeat (first | (refine free_plain ?_ (by rfl) (by rfl) (fun W hW _ => ⟨W, ?_, Ext.refl W⟩) ?_; rotate_left; (first | (go_simp; with_reducible rfl) | (go_simp; done)); try simp only [Act.put, one_f, outB_f, outNew_f, outI_f, List.setIfInBounds_toArray, List.set_cons_zero, List.set_cons_succ]) | (refine free_skip (by rfl) ?_; simp only [Act.put, one_f, outB_f, outNew_f, outI_f, List.setIfInBounds_toArray, List.set_cons_zero, List.set_cons_succ]))
          refine free_hard (one (.bool false)) (by rfl) (by rfl) (fun W hW _ => ?_) (fun q => ?_)
          · refine hardAt_call ?_ ((HM.out W).mono fun e w' h => ⟨(), h.1, trivial, h.2⟩)
            go_simp
          cases q
          simp only [Act.put, one_f, outB_f, outNew_f, outI_f, List.setIfInBounds_toArray, List.set_cons_zero, List.set_cons_succ]
          repeat (first | (refine free_plain ?_ (by rfl) (by rfl) (fun W hW _ => ⟨W, ?_, Ext.refl W⟩) ?_; rotate_left; (first | (go_simp; with_reducible rfl) | (go_simp; done)); try simp only [Act.put, one_f, outB_f, outNew_f, outI_f, List.setIfInBounds_toArray, List.set_cons_zero, List.set_cons_succ]) | (refine free_skip (by rfl) ?_; simp only [Act.put, one_f, outB_f, outNew_f, outI_f, List.setIfInBounds_toArray, List.set_cons_zero, List.set_cons_succ]))
          refine free_nil (hK _ _ fun W7 hW7 _ => ?_)
          clear hK hEp hby hEi
          have hz7 := hW7.size
          have hB7 : Below w.heap.size w W7 := Below.trans hB6 (Below.mono hW7 (by omega))
          have e7 := (hW7.block (w.heap.size + 1) (by omega)).trans g4
          have kc := cells_row e7
          have kf := frozen_row e7
          clear e7 g3 g4 r6
          dsimp only [List.drop]
          go_wp2
          exact bodyPost_ret (v := noIno) (by simp [results, Try.results7, go_sem, kc]) rfl ⟨HV2.out, (by repeat' (first | with_reducible exact Below.refl _ _ | with_reducible assumption | with_reducible apply Below.drew | with_reducible apply below_drewN | with_reducible refine Below.alloc ?_ ?_ _ | with_reducible refine Below.setCell ?_ ?_ _ | (simp; done) | (simp; omega) | omega))⟩
      case true =>
        rw [hm] at HM
        have hV2 : ofV i k o r b0 L S = if headBad k o r b0 then noIno else .tuple #[ino i D L S, .int .i64 0] := by rw [HV.out, hm]; simp
        have HV2 := Lib.hid hV2
        obtain ⟨L', S', hL', hS', hll, hss⟩ := mayB_nat hm
        have e1 : L = L' := by omega
        have e2 : S = S' := by omega
        subst e1; subst e2
        clear hV2 hm hL' hS'
        refine wp_region_free (outsAt [(1, one (.bool true)), (5, outI 2 i 0 0 7 (inoBytes D L S)), (7, one (.bool (!headBad k o r b0)))]) 10 (by kernel_rfl) (by kernel_rfl) (by kernel_rfl) (by decide) (by kernel_rfl) (by kernel_rfl) ?st ?walk
        case st => exact outsAt_stable (by simp only [List.forall_mem_cons]; exact ⟨one_stable _, outI_stable _ _ _ _ _ _, one_stable _, fun _ h => by cases h⟩)
        case walk =>
          intro K hK
          dsimp only [List.take]
          repeat (first | (refine free_plain ?_ (by rfl) (by rfl) (fun W hW _ => ⟨W, ?_, Ext.refl W⟩) ?_; rotate_left; (first | (go_simp; with_reducible rfl) | (go_simp; done)); try simp only [Act.put, one_f, outB_f, outNew_f, outI_f, List.setIfInBounds_toArray, List.set_cons_zero, List.set_cons_succ]) | (refine free_skip (by rfl) ?_; simp only [Act.put, one_f, outB_f, outNew_f, outI_f, List.setIfInBounds_toArray, List.set_cons_zero, List.set_cons_succ]))
          refine free_hard (one (.bool true)) (by rfl) (by rfl) (fun W hW _ => ?_) (fun q => ?_)
          · refine hardAt_call ?_ ((HM.out W).mono fun e w' h => ⟨(), h.1, trivial, h.2⟩)
            go_simp
          cases q
          simp only [Act.put, one_f, outB_f, outNew_f, outI_f, List.setIfInBounds_toArray, List.set_cons_zero, List.set_cons_succ]
          repeat (first | (refine free_plain ?_ (by rfl) (by rfl) (fun W hW _ => ⟨W, ?_, Ext.refl W⟩) ?_; rotate_left; (first | (go_simp; with_reducible rfl) | (go_simp; done)); try simp only [Act.put, one_f, outB_f, outNew_f, outI_f, List.setIfInBounds_toArray, List.set_cons_zero, List.set_cons_succ]) | (refine free_skip (by rfl) ?_; simp only [Act.put, one_f, outB_f, outNew_f, outI_f, List.setIfInBounds_toArray, List.set_cons_zero, List.set_cons_succ]))
          refine free_hard (outI 2 i 0 0 7 (inoBytes D L S)) (by rfl) (by rfl) (fun W hW _ => ?_) (fun q => ?_)
          · refine hardAt_call ?_ ((made_any i D L S hll hss W).mono ?_)
            · go_simp
            · rintro e w' ⟨v, rfl, ⟨A, c', rfl, h1, h2⟩, hB⟩
              exact ⟨(A, c'), rfl, h1, hB⟩
          obtain ⟨A', c'⟩ := q
          simp only [Act.put, one_f, outB_f, outNew_f, outI_f, List.setIfInBounds_toArray, List.set_cons_zero, List.set_cons_succ]
          repeat (first | (refine free_plain ?_ (by rfl) (by rfl) (fun W hW _ => ⟨W, ?_, Ext.refl W⟩) ?_; rotate_left; (first | (go_simp; with_reducible rfl) | (go_simp; done)); try simp only [Act.put, one_f, outB_f, outNew_f, outI_f, List.setIfInBounds_toArray, List.set_cons_zero, List.set_cons_succ]) | (refine free_skip (by rfl) ?_; simp only [Act.put, one_f, outB_f, outNew_f, outI_f, List.setIfInBounds_toArray, List.set_cons_zero, List.set_cons_succ]))
          refine free_hard (one (.bool (!headBad k o r b0))) (by rfl) (by rfl) (fun W hW hp => ?_) (fun q => ?_)
          · have h5 : Bys W W.heap.size (.slice A' 7 c') (inoBytes D L S) := (hp 5 (by decide)).1
            clear hp
            have h6 := sameitem_any 2 i 0 0 k i o r A' (some ⟨b, off, none⟩) 7 c' 7 c _ _ W h5 (hby W hW)
            have eH : decide ((2 : Int) = k ∧ i = i ∧ (0 : Int) = o ∧ (0 : Int) = r ∧ inoBytes D L S = [b0, b1, b2, b3, b4, b5, b6]) = !headBad k o r b0 := by
              rw [← HH.out]
              congr 1
              simp
            rw [eH] at h6
            refine hardAt_call ?_ (h6.mono fun e w' h => ⟨(), h.1, trivial, h.2⟩)
            go_simp
          cases q
          simp only [Act.put, one_f, outB_f, outNew_f, outI_f, List.setIfInBounds_toArray, List.set_cons_zero, List.set_cons_succ]
          repeat (first | (refine free_plain ?_ (by rfl) (by rfl) (fun W hW _ => ⟨W, ?_, Ext.refl W⟩) ?_; rotate_left; (first | (go_simp; with_reducible rfl) | (go_simp; done)); try simp only [Act.put, one_f, outB_f, outNew_f, outI_f, List.setIfInBounds_toArray, List.set_cons_zero, List.set_cons_succ]) | (refine free_skip (by rfl) ?_; simp only [Act.put, one_f, outB_f, outNew_f, outI_f, List.setIfInBounds_toArray, List.set_cons_zero, List.set_cons_succ]))
          refine free_nil (hK _ _ fun W7 hW7 _ => ?_)
          have hz7 := hW7.size
          have hB7 : Below w.heap.size w W7 := Below.trans hB6 (Below.mono hW7 (by omega))
          have e7 := (hW7.block (w.heap.size + 1) (by omega)).trans g4
          have kc := cells_row e7
          have kf := frozen_row e7
          have kp := cells_row ((hW7.block p hp6).trans r6)
          clear e7 g3 g4 r6 hK hEp hby hEi
          dsimp only [List.drop]
          cases hh : headBad k o r b0
          case true =>
            have hV3 : Ending.returned noIno = .returned (ofV i k o r b0 L S) := by rw [HV2.out, hh]; simp
            have HV3 := Lib.hid hV3
            clear hV3 hh
            go_wp2
            exact bodyPost_ret (v := noIno) (by simp [results, Try.results7, go_sem, kc]) rfl ⟨HV3.out, (by repeat' (first | with_reducible exact Below.refl _ _ | with_reducible assumption | with_reducible apply Below.drew | with_reducible apply below_drewN | with_reducible refine Below.alloc ?_ ?_ _ | with_reducible refine Below.setCell ?_ ?_ _ | (simp; done) | (simp; omega) | omega))⟩
          case false =>
            have hV3 : Ending.returned (.tuple #[ino i D L S, .int .i64 0]) = .returned (ofV i k o r b0 L S) := by rw [HV2.out, hh]; simp
            have HV3 := Lib.hid hV3
            clear hV3 hh
            go_wp2
            exact bodyPost_ret (v := .tuple #[ino i D L S, .int .i64 0]) (by simp [results, Try.results7, go_sem, kc]) rfl ⟨HV3.out, (by repeat' (first | with_reducible exact Below.refl _ _ | with_reducible assumption | with_reducible apply Below.drew | with_reducible apply below_drewN | with_reducible refine Below.alloc ?_ ?_ _ | with_reducible refine Below.setCell ?_ ?_ _ | (simp; done) | (simp; omega) | omega))⟩
end Go.Proofs.Ytaapiojpkkhmgaa
