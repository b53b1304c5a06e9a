/- inode.Of. -/
import Derived.Test.YtaapiojpkkhmgaaSame
import Derived.Test.YtaapiojpkkhmgaaNumber
namespace Go.Proofs.Ytaapiojpkkhmgaa
set_option linter.unusedSimpArgs false
set_option linter.unusedVariables false
open Go.RowKit

/-- the refusal -/
abbrev noIno : Value := .tuple #[ino 0 false 0 0, .int .i64 8]

set_option maxHeartbeats 1000000 in
/-- not of seven bytes -/
theorem iof_len (k i o r : Int) (A : Option Addr) (n c : Nat) (hn : n ≠ 7) (w : World) :
    Calls Try.prog 6 #[itemV k i o r A n c] w (Ret noIno w) := by
  have hn1 : ((n : Int) != 7) = true := by rw [bne_iff_ne]; omega
  go_enter Try.func6, Try.ntmps6
  go_wp2
  generalize hw1 : (World.alloc (World.alloc _ _) _) = w1
  have b1 : Below w.heap.size w w1 := by rw [← hw1]; exact (by repeat' (first | with_reducible exact Below.refl _ _ | with_reducible assumption | with_reducible apply Below.drew | with_reducible apply below_drewN | with_reducible refine Below.alloc ?_ ?_ _ | with_reducible refine Below.setCell ?_ ?_ _ | (simp; done) | (simp; omega) | omega))
  have k1 : w1.heap[w.heap.size]? = some (.cells #[.int .u8 k, .int .u32 i, .int .u32 o, .int .i64 r, .slice A n c] 29 (0, 0)) := by rw [← hw1]; exact (Below.heap_alloc _ _ _ (by simp)).trans (World.alloc_heap_at _ _ _ rfl)
  have k2 : w1.heap[w.heap.size + 1]? = some (.cells #[.int .u32 0, .bool false, .int .i64 0, .int .i64 0] 24 (0, 0)) := by rw [← hw1]; exact World.alloc_heap_at _ _ _ (by simp)
  have hz : w1.heap.size = w.heap.size + 2 := by rw [← hw1]; simp
  clear hw1
  have hE : ∀ W, Ext w1 W → ∀ j, W.cell? ⟨w.heap.size, j, none⟩ = #[.int .u8 k, .int .u32 i, .int .u32 o, .int .i64 r, .slice A n c][j]? := fun W h => cells_row ((h.block _ (by omega)).trans k1)
  refine wp_region_free (outsAt []) 25 (by kernel_rfl) (by kernel_rfl) (by kernel_rfl) (by decide) (by kernel_rfl) (by kernel_rfl) ?st ?walk
  case st => exact outsAt_stable (fun _ h => by cases h)
  case walk =>
    intro K hK
    dsimp only [List.take]
    repeat (first | (refine free_plain ?_ (by rfl) (by rfl) (fun W hW _ => ⟨W, ?_, Ext.refl W⟩) ?_; rotate_left; (first | (go_simp; with_reducible rfl) | (go_simp; done)); try simp only [Act.put, one_f, outB_f, outNew_f, outI_f, List.setIfInBounds_toArray, List.set_cons_zero, List.set_cons_succ]) | (refine free_skip (by rfl) ?_; simp only [Act.put, one_f, outB_f, outNew_f, outI_f, List.setIfInBounds_toArray, List.set_cons_zero, List.set_cons_succ]))
    refine free_nil (hK _ _ fun W hW _ => ?_)
    have hzW := hW.size
    have hB : Below w.heap.size w W := Below.trans b1 (Below.mono hW (by omega))
    have e2 := (hW.block (w.heap.size + 1) (by omega)).trans k2
    have kc := cells_row e2
    have kf := frozen_row e2
    clear k1 k2 e2 hE hK
    dsimp only [List.drop]
    go_wp2
    refine bodyPost_ret (v := noIno) (by simp [results, Try.results6, go_sem, kc]) rfl ⟨rfl, (by repeat' (first | with_reducible exact Below.refl _ _ | with_reducible assumption | with_reducible apply Below.drew | with_reducible apply below_drewN | with_reducible refine Below.alloc ?_ ?_ _ | with_reducible refine Below.setCell ?_ ?_ _ | (simp; done) | (simp; omega) | omega))⟩

/-- the tests of an item's head -/
def headBad (k o r : Int) (b0 : UInt8) : Bool := decide (1 < b0.toNat) || (decide (r ≠ 0) || decide (k ≠ 2 ∨ o ≠ 0))

def ofV (i k o r : Int) (b0 : UInt8) (l s : Nat) : Value := if headBad k o r b0 then noIno else if mayB i ((b0.toNat : Int) == 1) l s then .tuple #[ino i ((b0.toNat : Int) == 1) l s, .int .i64 0] else noIno

set_option maxHeartbeats 2000000 in
theorem iof_seven (k i o r : Int) (b off c : Nat) (h7 : 7 ≤ c) (b0 b1 b2 b3 b4 b5 b6 : UInt8) (w : World) (hbw : b < w.heap.size) (hc : ∀ (j : Nat) (u : Value), ([b0, b1, b2, b3, b4, b5, b6].map bv)[j]? = some u → w.cell? ⟨b, off + j, none⟩ = some u) :
    Calls Try.prog 6 #[itemV k i o r (some ⟨b, off, none⟩) 7 c] w (Ret (ofV i k o r b0 (numOf [b1, b2]) (numOf [b3, b4, b5, b6])) w) := by
  go_enter Try.func6, Try.ntmps6
  go_upto_region 1 with fail
  generalize hw1 : (World.alloc (World.alloc _ _) _) = w1
  have hb1 : Below w.heap.size w w1 := by rw [← hw1]; exact (by repeat' (first | with_reducible exact Below.refl _ _ | with_reducible assumption | with_reducible apply Below.drew | with_reducible apply below_drewN | with_reducible refine Below.alloc ?_ ?_ _ | with_reducible refine Below.setCell ?_ ?_ _ | (simp; done) | (simp; omega) | omega))
  have k1 : w1.heap[w.heap.size]? = some (.cells #[.int .u8 k, .int .u32 i, .int .u32 o, .int .i64 r, .slice (some ⟨b, off, none⟩) 7 c] 29 (0, 0)) := by rw [← hw1]; exact (Below.heap_alloc _ _ _ (by simp)).trans (World.alloc_heap_at _ _ _ rfl)
  have k2 : w1.heap[w.heap.size + 1]? = some (.cells #[.int .u32 0, .bool false, .int .i64 0, .int .i64 0] 24 (0, 0)) := by rw [← hw1]; exact World.alloc_heap_at _ _ _ (by simp)
  have hz : w1.heap.size = w.heap.size + 2 := by rw [← hw1]; simp
  clear hw1
  have hE : ∀ W, Ext w1 W → ∀ j, W.cell? ⟨w.heap.size, j, none⟩ = #[.int .u8 k, .int .u32 i, .int .u32 o, .int .i64 r, .slice (some ⟨b, off, none⟩) 7 c][j]? := fun W h => cells_row ((h.block _ (by omega)).trans k1)
  have hc0 : ∀ W, Ext w1 W → W.cell? ⟨b, off, none⟩ = some (bv b0) := fun W h => (Below.cell (Below.trans hb1 (Below.mono h (by omega))) hbw).trans (hc 0 _ rfl)
  go_cut [30] (fun s wx => Ext w1 wx ∧ s = .bool (headBad k o r b0))
  case first =>
    refine wp_region_free (outsAt [(22, one (.agg #[.int .u8 2, .int .u32 i, .int .u32 0]))]) 25 (by kernel_rfl) (by kernel_rfl) (by kernel_rfl) (by decide) (by kernel_rfl) (by kernel_rfl) ?st ?walk
    case st => exact outsAt_stable (by simp only [List.forall_mem_cons]; exact ⟨one_stable _, fun _ h => by cases h⟩)
    case walk =>
      intro K hK
      dsimp only [List.take]
      repeat (first | (refine free_plain ?_ (by rfl) (by rfl) (fun W hW _ => ⟨W, ?_, Ext.refl W⟩) ?_; rotate_left; (first | (go_simp; with_reducible rfl) | (go_simp; done)); try simp only [Act.put, one_f, outB_f, outNew_f, outI_f, List.setIfInBounds_toArray, List.set_cons_zero, List.set_cons_succ]) | (refine free_skip (by rfl) ?_; simp only [Act.put, one_f, outB_f, outNew_f, outI_f, List.setIfInBounds_toArray, List.set_cons_zero, List.set_cons_succ]))
      by_cases g1 : (1 : Int) < b0.toNat
      · have e1 : decide ((1 : Int) < b0.toNat) = true := decide_eq_true g1
        simp only [e1]
        repeat (first | (refine free_plain ?_ (by rfl) (by rfl) (fun W hW _ => ⟨W, ?_, Ext.refl W⟩) ?_; rotate_left; (first | (go_simp; with_reducible rfl) | (go_simp; done)); try simp only [Act.put, one_f, outB_f, outNew_f, outI_f, List.setIfInBounds_toArray, List.set_cons_zero, List.set_cons_succ]) | (refine free_skip (by rfl) ?_; simp only [Act.put, one_f, outB_f, outNew_f, outI_f, List.setIfInBounds_toArray, List.set_cons_zero, List.set_cons_succ]))
        refine free_nil (hK _ _ fun W hW _ => ?_)
        dsimp only [List.drop]
        go_wp2_with fail
        go_meet
        exact ⟨hW, by have : 1 < b0.toNat := by omega
                      simp [headBad, this]⟩
      have e1 : decide ((1 : Int) < b0.toNat) = false := decide_eq_false g1
      simp only [e1]
      repeat (first | (refine free_plain ?_ (by rfl) (by rfl) (fun W hW _ => ⟨W, ?_, Ext.refl W⟩) ?_; rotate_left; (first | (go_simp; with_reducible rfl) | (go_simp; done)); try simp only [Act.put, one_f, outB_f, outNew_f, outI_f, List.setIfInBounds_toArray, List.set_cons_zero, List.set_cons_succ]) | (refine free_skip (by rfl) ?_; simp only [Act.put, one_f, outB_f, outNew_f, outI_f, List.setIfInBounds_toArray, List.set_cons_zero, List.set_cons_succ]))
      by_cases g2 : r = 0
      case neg =>
        have e2 : (r != 0) = true := by rw [bne_iff_ne]; exact g2
        simp only [e2]
        repeat (first | (refine free_plain ?_ (by rfl) (by rfl) (fun W hW _ => ⟨W, ?_, Ext.refl W⟩) ?_; rotate_left; (first | (go_simp; with_reducible rfl) | (go_simp; done)); try simp only [Act.put, one_f, outB_f, outNew_f, outI_f, List.setIfInBounds_toArray, List.set_cons_zero, List.set_cons_succ]) | (refine free_skip (by rfl) ?_; simp only [Act.put, one_f, outB_f, outNew_f, outI_f, List.setIfInBounds_toArray, List.set_cons_zero, List.set_cons_succ]))
        refine free_nil (hK _ _ fun W hW _ => ?_)
        dsimp only [List.drop]
        go_wp2_with fail
        go_meet
        exact ⟨hW, by simp [headBad, g2]⟩
      subst g2
      have e2 : ((0 : Int) != 0) = false := by simp
      simp only [e2]
      repeat (first | (refine free_plain ?_ (by rfl) (by rfl) (fun W hW _ => ⟨W, ?_, Ext.refl W⟩) ?_; rotate_left; (first | (go_simp; with_reducible rfl) | (go_simp; done)); try simp only [Act.put, one_f, outB_f, outNew_f, outI_f, List.setIfInBounds_toArray, List.set_cons_zero, List.set_cons_succ]) | (refine free_skip (by rfl) ?_; simp only [Act.put, one_f, outB_f, outNew_f, outI_f, List.setIfInBounds_toArray, List.set_cons_zero, List.set_cons_succ]))
      refine free_hard (one (.agg #[.int .u8 2, .int .u32 i, .int .u32 0])) (by rfl) (by rfl) (fun W hW _ => ?_) (fun p => ?_)
      · refine hardAt_call ?_ ((key_any i W).mono fun e w' h => ⟨(), h.1, trivial, h.2⟩)
        go_simp
      cases p
      simp only [Act.put, one_f, outB_f, outNew_f, outI_f, List.setIfInBounds_toArray, List.set_cons_zero, List.set_cons_succ]
      by_cases g3 : k = 2
      case neg =>
        have e3 : (k == 2) = false := beq_eq_false_iff_ne.2 g3
        repeat (first | (refine free_plain ?_ (by rfl) (by rfl) (fun W hW _ => ⟨W, ?_, Ext.refl W⟩) ?_; rotate_left; (first | (go_simp; with_reducible rfl) | (go_simp; done)); try simp only [Act.put, one_f, outB_f, outNew_f, outI_f, List.setIfInBounds_toArray, List.set_cons_zero, List.set_cons_succ]) | (refine free_skip (by rfl) ?_; simp only [Act.put, one_f, outB_f, outNew_f, outI_f, List.setIfInBounds_toArray, List.set_cons_zero, List.set_cons_succ]))
        refine free_nil (hK _ _ fun W hW _ => ?_)
        dsimp only [List.drop]
        go_wp2_with fail
        go_meet
        exact ⟨hW, by simp [headBad, g3]⟩
      subst g3
      by_cases g4 : o = 0
      case neg =>
        have e4 : (o == 0) = false := beq_eq_false_iff_ne.2 g4
        repeat (first | (refine free_plain ?_ (by rfl) (by rfl) (fun W hW _ => ⟨W, ?_, Ext.refl W⟩) ?_; rotate_left; (first | (go_simp; with_reducible rfl) | (go_simp; done)); try simp only [Act.put, one_f, outB_f, outNew_f, outI_f, List.setIfInBounds_toArray, List.set_cons_zero, List.set_cons_succ]) | (refine free_skip (by rfl) ?_; simp only [Act.put, one_f, outB_f, outNew_f, outI_f, List.setIfInBounds_toArray, List.set_cons_zero, List.set_cons_succ]))
        refine free_nil (hK _ _ fun W hW _ => ?_)
        dsimp only [List.drop]
        go_wp2_with fail
        go_meet
        exact ⟨hW, by simp [headBad, g4]⟩
      subst g4
      repeat (first | (refine free_plain ?_ (by rfl) (by rfl) (fun W hW _ => ⟨W, ?_, Ext.refl W⟩) ?_; rotate_left; (first | (go_simp; with_reducible rfl) | (go_simp; done)); try simp only [Act.put, one_f, outB_f, outNew_f, outI_f, List.setIfInBounds_toArray, List.set_cons_zero, List.set_cons_succ]) | (refine free_skip (by rfl) ?_; simp only [Act.put, one_f, outB_f, outNew_f, outI_f, List.setIfInBounds_toArray, List.set_cons_zero, List.set_cons_succ]))
      refine free_nil (hK _ _ fun W hW _ => ?_)
      dsimp only [List.drop]
      go_wp2_with fail
      go_meet
      exact ⟨hW, by have : ¬ 1 < b0.toNat := by omega
                    simp [headBad, this]⟩
  case rest =>
    obtain ⟨hW, rfl⟩ := hcut
    have hzW := hW.size
    have hB : Below w.heap.size w wc := Below.trans hb1 (Below.mono hW (by omega))
    have e2 := (hW.block (w.heap.size + 1) (by omega)).trans k2
    have kc := cells_row e2
    have kf := frozen_row e2
    have hE2 : ∀ W, Ext wc W → ∀ j, W.cell? ⟨w.heap.size, j, none⟩ = #[.int .u8 k, .int .u32 i, .int .u32 o, .int .i64 r, .slice (some ⟨b, off, none⟩) 7 c][j]? := fun W h => hE W (hW.trans h)
    have hcs : ∀ W, Ext wc W → ∀ (j : Nat) (u : Value), ([b0, b1, b2, b3, b4, b5, b6].map bv)[j]? = some u → W.cell? ⟨b, off + j, none⟩ = some u := fun W h j u hu => (Below.cell (Below.trans hB (Below.mono h (by omega))) hbw).trans (hc j u hu)
    have hc0' : ∀ W, Ext wc W → W.cell? ⟨b, off, none⟩ = some (bv b0) := fun W h => hcs W h 0 _ rfl
    have hbx : b < wc.heap.size := by omega
    have HE2 := Lib.hid e2
    clear k1 k2 e2 hE hc0 hc
    cases hh : headBad k o r b0
    case true =>
      have hv : ofV i k o r b0 (numOf [b1, b2]) (numOf [b3, b4, b5, b6]) = noIno := by unfold ofV; rw [if_pos hh]
      have HV := Lib.hid hv
      clear hh hv hE2 hcs hc0'
      go_wp2
      refine bodyPost_ret (v := noIno) (by simp [results, Try.results6, go_sem, kc]) rfl ⟨by rw [HV.out], (by repeat' (first | with_reducible exact Below.refl _ _ | with_reducible assumption | with_reducible apply Below.drew | with_reducible apply below_drewN | with_reducible refine Below.alloc ?_ ?_ _ | with_reducible refine Below.setCell ?_ ?_ _ | (simp; done) | (simp; omega) | omega))⟩
    case false =>
      have hv : ofV i k o r b0 (numOf [b1, b2]) (numOf [b3, b4, b5, b6]) = if mayB i ((b0.toNat : Int) == 1) (numOf [b1, b2]) (numOf [b3, b4, b5, b6]) then .tuple #[ino i ((b0.toNat : Int) == 1) (numOf [b1, b2]) (numOf [b3, b4, b5, b6]), .int .i64 0] else noIno := by unfold ofV; rw [if_neg (by simp [hh])]
      have HV := Lib.hid hv
      clear hh hv
      go_wp2
      obtain ⟨lo, hlo⟩ : ∃ lo, lo = wc.heap.size := ⟨_, rfl⟩
      have hlow : ∀ W, Ext wc W → lo ≤ W.heap.size := fun W h => by rw [hlo]; exact h.size
      have HL : w.heap.size + 2 ≤ lo := by omega
      clear hlo
      have q1 : ¬ c = 1 := by omega
      have q3 : ¬ c = 3 := by omega
      have q4 : (3 : Int) ≤ (c : Int) := by omega
      have q5 : (7 : Int) ≤ (c : Int) := by omega
      refine wp_region_free (outsAt [(11, one (.int .i64 (numOf [b1, b2] : Nat))), (15, one (.int .i64 (numOf [b3, b4, b5, b6] : Nat))), (17, outNew lo 24 #[.int .u32 0, .bool false, .int .i64 0, .int .i64 0])]) 18 (by kernel_rfl) (by kernel_rfl) (by kernel_rfl) (by decide) (by kernel_rfl) (by kernel_rfl) ?st ?walk
      case st => exact outsAt_stable (by simp only [List.forall_mem_cons]; exact ⟨one_stable _, one_stable _, outNew_stable _ _ _, fun _ h => by cases h⟩)
      case walk =>
        intro K hK
        dsimp only [List.take]
        repeat (first | (refine free_plain ?_ (by rfl) (by rfl) (fun W hW _ => ⟨W, ?_, Ext.refl W⟩) ?_; rotate_left; (first | (go_simp; with_reducible rfl) | (go_simp; done)); try simp only [Act.put, one_f, outB_f, outNew_f, outI_f, List.setIfInBounds_toArray, List.set_cons_zero, List.set_cons_succ]) | (refine free_skip (by rfl) ?_; simp only [Act.put, one_f, outB_f, outNew_f, outI_f, List.setIfInBounds_toArray, List.set_cons_zero, List.set_cons_succ]))
        refine free_hard (one (.int .i64 (numOf [b1, b2] : Nat))) (by rfl) (by rfl) (fun W hW _ => ?_) (fun p => ?_)
        · have hrd : Rd W W.heap.size 1 (some ⟨b, off + 1, none⟩) 2 ([b1, b2].map bv) := ⟨rfl, fun _ => ⟨b, off + 1, rfl, by have := hW.size; omega, fun j u hu => by
            have := hcs W hW (1 + j) u (by rcases j with _ | _ | _ | _ | j <;> first | exact hu | (simp at hu; done))
            rw [Nat.add_assoc]; exact this⟩⟩
          refine hardAt_call ?_ ((number_any _ 2 (c - 1) [b1, b2] W hrd (by omega)).mono fun e w' h => ⟨(), ?_, trivial, h.2⟩)
          · go_simp
          · rw [h.1, numB_backs [b1, b2] (by simp) _ (Nat.le_refl _)]
            simp [one]
        cases p
        simp only [Act.put, one_f, outB_f, outNew_f, outI_f, List.setIfInBounds_toArray, List.set_cons_zero, List.set_cons_succ]
        repeat (first | (refine free_plain ?_ (by rfl) (by rfl) (fun W hW _ => ⟨W, ?_, Ext.refl W⟩) ?_; rotate_left; (first | (go_simp; with_reducible rfl) | (go_simp; done)); try simp only [Act.put, one_f, outB_f, outNew_f, outI_f, List.setIfInBounds_toArray, List.set_cons_zero, List.set_cons_succ]) | (refine free_skip (by rfl) ?_; simp only [Act.put, one_f, outB_f, outNew_f, outI_f, List.setIfInBounds_toArray, List.set_cons_zero, List.set_cons_succ]))
        refine free_hard (one (.int .i64 (numOf [b3, b4, b5, b6] : Nat))) (by rfl) (by rfl) (fun W hW _ => ?_) (fun p => ?_)
        · have hrd : Rd W W.heap.size 1 (some ⟨b, off + 3, none⟩) 4 ([b3, b4, b5, b6].map bv) := ⟨rfl, fun _ => ⟨b, off + 3, rfl, by have := hW.size; omega, fun j u hu => by
            have := hcs W hW (3 + j) u (by rcases j with _ | _ | _ | _ | j <;> first | exact hu | (simp at hu; done))
            rw [Nat.add_assoc]; exact this⟩⟩
          refine hardAt_call ?_ ((number_any _ 4 (c - 3) [b3, b4, b5, b6] W hrd (by omega)).mono fun e w' h => ⟨(), ?_, trivial, h.2⟩)
          · go_simp
          · rw [h.1, numB_backs [b3, b4, b5, b6] (by simp) _ (Nat.le_refl _)]
            simp [one]
        cases p
        simp only [Act.put, one_f, outB_f, outNew_f, outI_f, List.setIfInBounds_toArray, List.set_cons_zero, List.set_cons_succ]
        repeat (first | (refine free_plain ?_ (by rfl) (by rfl) (fun W hW _ => ⟨W, ?_, Ext.refl W⟩) ?_; rotate_left; (first | (go_simp; with_reducible rfl) | (go_simp; done)); try simp only [Act.put, one_f, outB_f, outNew_f, outI_f, List.setIfInBounds_toArray, List.set_cons_zero, List.set_cons_succ]) | (refine free_skip (by rfl) ?_; simp only [Act.put, one_f, outB_f, outNew_f, outI_f, List.setIfInBounds_toArray, List.set_cons_zero, List.set_cons_succ]))
        refine free_hard (outNew lo 24 #[.int .u32 0, .bool false, .int .i64 0, .int .i64 0]) (by rfl) (by rfl) (fun W hW _ => ?_) (fun (p : Nat) => ?_)
        · refine hardAt_new ?_ (hlow W hW)
          go_simp
        simp only [Act.put, one_f, outB_f, outNew_f, outI_f, List.setIfInBounds_toArray, List.set_cons_zero, List.set_cons_succ]
        refine free_nil (hK _ _ fun W hW2 hF => ?_)
        obtain ⟨e4, hlp⟩ : W.heap[p]? = some (.cells #[.int .u32 0, .bool false, .int .i64 0, .int .i64 0] 24 (0, 0)) ∧ lo ≤ p := (hF 17).1
        clear hF hK
        have hzW2 := hW2.size
        have hB2 : Below w.heap.size w W := Below.trans hB (Below.mono hW2 (by omega))
        dsimp only [List.drop]
        have kc4 := cells_row e4
        have kf4 := frozen_row e4
        go_wp2_with fail
        generalize hL : numOf [b1, b2] = L at *
        generalize hS : numOf [b3, b4, b5, b6] = S at *
        generalize hD : ((b0.toNat : Int) == 1) = D at *
        have r4 : ((((W.setCell ⟨p, 0, none⟩ (.int .u32 i)).setCell ⟨p, 1, none⟩ (.bool D)).setCell ⟨p, 2, none⟩ (.int .i64 L)).setCell ⟨p, 3, none⟩ (.int .i64 S)).heap[p]? = some (.cells #[.int .u32 i, .bool D, .int .i64 L, .int .i64 S] 24 (0, 0)) := by
          simp [World.setCell, Array.getElem?_modify, e4]
        have r5 : ((((W.setCell ⟨p, 0, none⟩ (.int .u32 i)).setCell ⟨p, 1, none⟩ (.bool D)).setCell ⟨p, 2, none⟩ (.int .i64 L)).setCell ⟨p, 3, none⟩ (.int .i64 S)).heap[w.heap.size + 1]? = some (.cells #[.int .u32 0, .bool false, .int .i64 0, .int .i64 0] 24 (0, 0)) := by
          have hne : w.heap.size + 1 ≠ p := by omega
          rw [Below.heap_setCell _ _ _ _ hne, Below.heap_setCell _ _ _ _ hne, Below.heap_setCell _ _ _ _ hne, Below.heap_setCell _ _ _ _ hne]
          exact (hW2.block _ (by omega)).trans HE2.out
        generalize hw4 : (World.setCell (World.setCell (World.setCell (World.setCell W _ _) _ _) _ _) _ _) = w4 at *
        have hB4 : Below w.heap.size w w4 := by rw [← hw4]; exact (by repeat' (first | with_reducible exact Below.refl _ _ | with_reducible assumption | with_reducible apply Below.drew | with_reducible apply below_drewN | with_reducible refine Below.alloc ?_ ?_ _ | with_reducible refine Below.setCell ?_ ?_ _ | (simp; done) | (simp; omega) | omega))
        have hz4 : w4.heap.size = W.heap.size := by rw [← hw4]; simp
        clear hw4 hE2 hcs hc0' e4 kc kf kc4 kf4 HE2 hL hS hD
        have HC : ∀ W, _ := fun W => check_any i D L S W
        have hp4 : p < w4.heap.size := (Array.getElem?_eq_some_iff.1 r4).1
        cases hm : mayB i D L S
        case false =>
          rw [hm] at HC
          have HV2 : ofV i k o r b0 L S = noIno := by rw [HV.out, if_neg (by simp [hm])]
          have HV3 := Lib.hid HV2
          clear HV2 hm
          refine (HC w4).mono ?_
          rintro e w5 ⟨rfl, hB5⟩
          have e0 : errOf false = 8 := rfl
          have kc4 := cells_row ((hB5.block p hp4).trans r4)
          have kc5 := cells_row ((hB5.block (w.heap.size + 1) (by omega)).trans r5)
          have kf5 := frozen_row ((hB5.block (w.heap.size + 1) (by omega)).trans r5)
          have hB6 : Below w.heap.size w w5 := Below.trans hB4 (Below.mono hB5 (by omega))
          clear r4 r5 hB5 HC
          go_wp2
          exact bodyPost_ret (v := noIno) (by simp [results, Try.results6, go_sem, kc5]) rfl ⟨by rw [HV3.out], (by repeat' (first | with_reducible exact Below.refl _ _ | with_reducible assumption | with_reducible apply Below.drew | with_reducible apply below_drewN | with_reducible refine Below.alloc ?_ ?_ _ | with_reducible refine Below.setCell ?_ ?_ _ | (simp; done) | (simp; omega) | omega))⟩
        case true =>
          rw [hm] at HC
          have HV2 : ofV i k o r b0 L S = .tuple #[ino i D L S, .int .i64 0] := by rw [HV.out, if_pos hm]
          have HV3 := Lib.hid HV2
          clear HV2 hm
          refine (HC w4).mono ?_
          rintro e w5 ⟨rfl, hB5⟩
          have e0 : errOf true = 0 := rfl
          have kc4 := cells_row ((hB5.block p hp4).trans r4)
          have kc5 := cells_row ((hB5.block (w.heap.size + 1) (by omega)).trans r5)
          have kf5 := frozen_row ((hB5.block (w.heap.size + 1) (by omega)).trans r5)
          have hB6 : Below w.heap.size w w5 := Below.trans hB4 (Below.mono hB5 (by omega))
          clear r4 r5 hB5 HC
          go_wp2
          exact bodyPost_ret (v := .tuple #[ino i D L S, .int .i64 0]) (by simp [results, Try.results6, go_sem, kc5]) rfl ⟨by rw [HV3.out], (by repeat' (first | with_reducible exact Below.refl _ _ | with_reducible assumption | with_reducible apply Below.drew | with_reducible apply below_drewN | with_reducible refine Below.alloc ?_ ?_ _ | with_reducible refine Below.setCell ?_ ?_ _ | (simp; done) | (simp; omega) | omega))⟩
end Go.Proofs.Ytaapiojpkkhmgaa
