/- Texts NMay, NMod, Told, Told2, joined. -/
import Derived.Test.YtckhnchnbeoogaaGreatT05
/- Contracts: may a node be (the document's). -/
namespace Go.Proofs.YtckhnchnbeoogaaGreat
set_option linter.unusedSimpArgs false
set_option linter.unusedVariables false
open Go.RowKit

set_option maxHeartbeats 1000000 in
theorem nmay_head (lvl : Int) (A : Option Addr) (n c : Nat) (h : headB lvl n = false) (w : World) :
    Calls Tryz.prog 124 #[nodeV lvl A n c] w (Ret (.bool false) w) := by
  have h' : ¬(0 ≤ lvl ∧ lvl < 6 ∧ n ≤ 5 ∧ (0 < lvl → n ≠ 0)) := by simpa [headB] using h
  clear h
  go_enter Tryz.func124, Tryz.ntmps124
  go_wp2
  all_goals simp only [beq_iff_eq, beq_eq_false_iff_ne, ne_eq] at *
  all_goals first | (exfalso; omega) | skip
  all_goals go_ret
  all_goals exact ⟨rfl, (by repeat' (first | with_reducible exact Below.refl _ _ | with_reducible assumption | with_reducible apply Below.drew | with_reducible apply below_drewN | with_reducible refine Below.alloc ?_ ?_ _ | with_reducible refine Below.setCell ?_ ?_ _ | (simp; done) | (simp; omega) | omega))⟩

set_option maxHeartbeats 4000000 in
set_option maxRecDepth 100000 in
theorem nmay_any (lvl : Int) (A : Option Addr) (n c : Nat) (xs : List It) (w : World) (hx : Its w w.heap.size (.slice A n c) xs) (h : headB lvl n = true) :
    Calls Tryz.prog 124 #[nodeV lvl A n c] w (Ret (.bool (nodeMay lvl xs)) w) := by
  obtain ⟨hn, hnc, hcm, hA⟩ := hx.at_
  have h' : 0 ≤ lvl ∧ lvl < 6 ∧ n ≤ 5 ∧ (0 < lvl → n ≠ 0) := by unfold headB at h; exact of_decide_eq_true h
  have hM : nodeMay lvl xs = chkAll (decide (0 < lvl)) xs xs.length := by unfold nodeMay; rw [← hn, h]; rfl
  rw [hM]
  clear hM h
  subst hn
  have HX := Lib.hid hx
  clear hx
  obtain ⟨h1, h2, h3, h4⟩ := h'
  by_cases hab : 0 < lvl
  · rw [decide_eq_true hab]
    go_enter Tryz.func124, Tryz.ntmps124
    go_wp2
    all_goals simp only [beq_iff_eq, beq_eq_false_iff_ne, ne_eq] at *
    all_goals first | (exfalso; omega) | skip
    generalize hw1 : (World.alloc _ _) = w1
    have b1 : Ext w w1 := by rw [← hw1]; exact Ext.alloc _ _
    have r1 : w1.heap[w.heap.size]? = some (.cells #[.int .i64 lvl, .slice A xs.length c] 118 (0, 0)) := by rw [← hw1]; exact World.alloc_heap_at _ _ _ rfl
    clear hw1
    go_loopw [3] (fun i wr => ∃ k : Nat, k ≤ xs.length ∧ i = .int .i64 (k : Int) ∧ chkAll true xs k = true ∧ Ext w1 wr) (fun i _ => xs.length - (intOf i).toNat)
    case atStart => exact ⟨0, by omega, rfl, rfl, Ext.refl _⟩
    case round =>
      obtain ⟨k, hk, rfl, hck, hE⟩ := hrel
      by_cases hlt : k < xs.length
      · have hlt' := hlt
        obtain ⟨b, off, rfl, hb⟩ := hA (by omega)
        have b2 : Ext w wr := b1.trans hE
        obtain ⟨A', c', c0, c1, c2, c3, c4, hby⟩ := (HX.out.ext b2).item k hlt'
        have HCK := Lib.hid (chkAt_some (above := true) hlt')
        have HBAD := Lib.hid (chkAll_bad (above := true) hlt')
        have HBI := Lib.hid (chkAt_it (above := true) hlt')
        have HSU := Lib.hid (chkAll_succ true xs k)
        generalize hx : xs[k] = x at *
        have rn0 := row_ext r1 hE
        have kn := cells_row rn0
        go_wp2
        generalize hw4 : (World.alloc _ _) = w4
        have b4 : Ext wr w4 := by rw [← hw4]; exact Ext.alloc _ _
        have r4 : w4.heap[wr.heap.size]? = some (.cells #[.int .u8 x.k, .int .u32 x.i, .int .u32 x.o, .int .i64 x.r, .slice A' x.val.length c'] 38 (0, 0)) := by rw [← hw4]; exact World.alloc_heap_at _ _ _ rfl
        clear hw4 kn
        have rn := row_ext rn0 b4
        have n0 : ∀ W, Ext w4 W → W.cell? ⟨w.heap.size, 0, none⟩ = some (.int .i64 lvl) := fun W h => by rw [cells_row (row_ext rn h)]; rfl
        have n1 : ∀ W, Ext w4 W → W.cell? ⟨w.heap.size, 1, none⟩ = some (.slice (some ⟨b, off, none⟩) xs.length c) := fun W h => by rw [cells_row (row_ext rn h)]; rfl
        have i0 : ∀ W, Ext w4 W → W.cell? ⟨wr.heap.size, 0, none⟩ = some (.int .u8 x.k) := fun W h => by rw [cells_row (row_ext r4 h)]; rfl
        have i1 : ∀ W, Ext w4 W → W.cell? ⟨wr.heap.size, 1, none⟩ = some (.int .u32 x.i) := fun W h => by rw [cells_row (row_ext r4 h)]; rfl
        have i2 : ∀ W, Ext w4 W → W.cell? ⟨wr.heap.size, 2, none⟩ = some (.int .u32 x.o) := fun W h => by rw [cells_row (row_ext r4 h)]; rfl
        have i3 : ∀ W, Ext w4 W → W.cell? ⟨wr.heap.size, 3, none⟩ = some (.int .i64 x.r) := fun W h => by rw [cells_row (row_ext r4 h)]; rfl
        have i4 : ∀ W, Ext w4 W → W.cell? ⟨wr.heap.size, 4, none⟩ = some (.slice A' x.val.length c') := fun W h => by rw [cells_row (row_ext r4 h)]; rfl
        have HM := Lib.hid (fun W => imay_any x.k x.i x.o x.r A' x.val.length c' W)
        have hdec : decide (0 < lvl) = true := by simp [hab]
        generalize hMM : itB x.r x.val.length = M at *
        rcases k with _ | j
        · refine wp_region_free (outsAt [(1, one (.bool M)), (16, one (.bool true))]) 36 (by kernel_rfl) (by kernel_rfl) (by kernel_rfl) (by decide) (by kernel_rfl) (by kernel_rfl) ?st ?walk
          case st => exact outsAt_stable (by simp only [List.forall_mem_cons]; exact ⟨one_stable _, one_stable _, fun _ h => by cases h⟩)
          case walk =>
            intro K hK
            dsimp only [List.take]
            repeat ((first | (refine free_plain ?_ (by rfl) (by rfl) (fun W hW _ => ⟨W, ?_, Ext.refl W⟩) ?_; rotate_left; (first | (go_simp; with_reducible rfl) | (go_simp; done))) | (refine free_skip (by rfl) ?_)); try simp only [Act.put, one_f, outB_f, outNew_f, outI_f, List.setIfInBounds_toArray, List.set_cons_zero, List.set_cons_succ])
            refine free_hard (one (.bool M)) (by rfl) (by rfl) (fun W hW _ => ?_) (fun p => ?_)
            · refine hardAt_call ?_ ((HM.out W).mono fun e w' h => ⟨(), h.1, trivial, h.2⟩)
              go_simp
            cases p
            simp only [Act.put, one_f, outB_f, outNew_f, outI_f, List.setIfInBounds_toArray, List.set_cons_zero, List.set_cons_succ]
            clear HM
            cases M
            · repeat ((first | (refine free_plain ?_ (by rfl) (by rfl) (fun W hW _ => ⟨W, ?_, Ext.refl W⟩) ?_; rotate_left; (first | (go_simp; with_reducible rfl) | (go_simp; done))) | (refine free_skip (by rfl) ?_)); try simp only [Act.put, one_f, outB_f, outNew_f, outI_f, List.setIfInBounds_toArray, List.set_cons_zero, List.set_cons_succ])
              refine free_nil (hK _ _ fun W hW hF => ?_)
              clear hF hK
              have b7 : Ext wr W := b4.trans hW
              dsimp only [List.drop]
              go_wp2
              all_goals first
                | (go_ret
                   exact ⟨by rw [HBAD.out (by rw [HCK.out, Bool.false_and]; simp [*])]; rfl, Ext.trans b2 b7⟩)
                | (go_roundw
                   case rel => exact ⟨0 + 1, by omega, by go_num, by rw [HSU.out, hck, HCK.out, Bool.false_and]; simp [*], hE.trans b7⟩
                   case measure => simp [intOf]; omega)
            · by_cases hr0 : x.r = 0
              · have hr1 : (x.r == 0) = true := by simpa using hr0
                have hr2 : decide (x.r = 0) = true := by simpa using hr0
                repeat ((first | (refine free_plain ?_ (by rfl) (by rfl) (fun W hW _ => ⟨W, ?_, Ext.refl W⟩) ?_; rotate_left; (first | (go_simp; with_reducible rfl) | (go_simp; done))) | (refine free_skip (by rfl) ?_)); try simp only [Act.put, one_f, outB_f, outNew_f, outI_f, List.setIfInBounds_toArray, List.set_cons_zero, List.set_cons_succ])
                refine free_nil (hK _ _ fun W hW hF => ?_)
                clear hF hK
                have b7 : Ext wr W := b4.trans hW
                dsimp only [List.drop]
                go_wp2
                all_goals first
                  | (go_ret
                     exact ⟨by rw [HBAD.out (by rw [HCK.out, Bool.true_and]; simp [*])]; rfl, Ext.trans b2 b7⟩)
                  | (go_roundw
                     case rel => exact ⟨0 + 1, by omega, by go_num, by rw [HSU.out, hck, HCK.out, Bool.true_and]; simp [*], hE.trans b7⟩
                     case measure => simp [intOf]; omega)
              · have hr1 : (x.r == 0) = false := by simpa using hr0
                have hr2 : decide (x.r = 0) = false := by simpa using hr0
                repeat ((first | (refine free_plain ?_ (by rfl) (by rfl) (fun W hW _ => ⟨W, ?_, Ext.refl W⟩) ?_; rotate_left; (first | (go_simp; with_reducible rfl) | (go_simp; done))) | (refine free_skip (by rfl) ?_)); try simp only [Act.put, one_f, outB_f, outNew_f, outI_f, List.setIfInBounds_toArray, List.set_cons_zero, List.set_cons_succ])
                refine free_nil (hK _ _ fun W hW hF => ?_)
                clear hF hK
                have b7 : Ext wr W := b4.trans hW
                dsimp only [List.drop]
                go_wp2
                all_goals first
                  | (go_ret
                     exact ⟨by rw [HBAD.out (by rw [HCK.out, Bool.true_and]; simp [*])]; rfl, Ext.trans b2 b7⟩)
                  | (go_roundw
                     case rel => exact ⟨0 + 1, by omega, by go_num, by rw [HSU.out, hck, HCK.out, Bool.true_and]; simp [*], hE.trans b7⟩
                     case measure => simp [intOf]; omega)
        · have hjl : j < xs.length := by omega
          obtain ⟨A2, c2', d0, d1, d2, d3, d4, _⟩ := (HX.out.ext (b2.trans b4)).item j hjl
          have hprev : xs[j + 1 - 1]? = some xs[j] := by rw [Nat.add_sub_cancel, List.getElem?_eq_getElem hjl]
          have HP := Lib.hid hprev
          clear hprev
          generalize xs[j] = y at *
          have p0 : ∀ W, Ext w4 W → W.cell? ⟨b, off + j * 5, none⟩ = some (.int .u8 y.k) := fun W h => Ext.cell h d0
          have p1 : ∀ W, Ext w4 W → W.cell? ⟨b, off + j * 5 + 1, none⟩ = some (.int .u32 y.i) := fun W h => Ext.cell h d1
          have p2 : ∀ W, Ext w4 W → W.cell? ⟨b, off + j * 5 + 2, none⟩ = some (.int .u32 y.o) := fun W h => Ext.cell h d2
          clear d0 d1 d2 d3 d4
          have HL := Lib.hid (fun W => rless_any y.k y.i y.o x.k x.i x.o W)
          have HLE : Hid (lessIt y x = lessB y.k y.i y.o x.k x.i x.o) := rfl
          generalize lessB y.k y.i y.o x.k x.i x.o = L at *
          refine wp_region_free (outsAt [(1, one (.bool M)), (16, one (.bool L))]) 36 (by kernel_rfl) (by kernel_rfl) (by kernel_rfl) (by decide) (by kernel_rfl) (by kernel_rfl) ?st ?walk
          case st => exact outsAt_stable (by simp only [List.forall_mem_cons]; exact ⟨one_stable _, one_stable _, fun _ h => by cases h⟩)
          case walk =>
            intro K hK
            dsimp only [List.take]
            repeat ((first | (refine free_plain ?_ (by rfl) (by rfl) (fun W hW _ => ⟨W, ?_, Ext.refl W⟩) ?_; rotate_left; (first | (go_simp; with_reducible rfl) | (go_simp; done))) | (refine free_skip (by rfl) ?_)); try simp only [Act.put, one_f, outB_f, outNew_f, outI_f, List.setIfInBounds_toArray, List.set_cons_zero, List.set_cons_succ])
            refine free_hard (one (.bool M)) (by rfl) (by rfl) (fun W hW _ => ?_) (fun p => ?_)
            · refine hardAt_call ?_ ((HM.out W).mono fun e w' h => ⟨(), h.1, trivial, h.2⟩)
              go_simp
            cases p
            simp only [Act.put, one_f, outB_f, outNew_f, outI_f, List.setIfInBounds_toArray, List.set_cons_zero, List.set_cons_succ]
            clear HM
            cases M
            · repeat ((first | (refine free_plain ?_ (by rfl) (by rfl) (fun W hW _ => ⟨W, ?_, Ext.refl W⟩) ?_; rotate_left; (first | (go_simp; with_reducible rfl) | (go_simp; done))) | (refine free_skip (by rfl) ?_)); try simp only [Act.put, one_f, outB_f, outNew_f, outI_f, List.setIfInBounds_toArray, List.set_cons_zero, List.set_cons_succ])
              refine free_nil (hK _ _ fun W hW hF => ?_)
              clear hF hK
              have b7 : Ext wr W := b4.trans hW
              dsimp only [List.drop]
              go_wp2
              all_goals first
                | (go_ret
                   exact ⟨by rw [HBAD.out (by rw [HCK.out, Bool.false_and]; simp [*])]; rfl, Ext.trans b2 b7⟩)
                | (go_roundw
                   case rel => exact ⟨j + 1 + 1, by omega, by go_num, by rw [HSU.out, hck, HCK.out, Bool.false_and]; simp [*], hE.trans b7⟩
                   case measure => simp [intOf]; omega)
            · repeat ((first | (refine free_plain ?_ (by rfl) (by rfl) (fun W hW _ => ⟨W, ?_, Ext.refl W⟩) ?_; rotate_left; (first | (go_simp; with_reducible rfl) | (go_simp; done))) | (refine free_skip (by rfl) ?_)); try simp only [Act.put, one_f, outB_f, outNew_f, outI_f, List.setIfInBounds_toArray, List.set_cons_zero, List.set_cons_succ])
              refine free_plain (.pointer (some ⟨b, off + j * 5, none⟩)) (by rfl) (by rfl) (fun W hW _ => ⟨W, ?_, Ext.refl W⟩) ?_
              · go_simp
                rw [IntWalk.i64_in (j : Int) (by omega), if_pos (by omega)]
                simp
              simp only [Act.put, one_f, outB_f, outNew_f, outI_f, List.setIfInBounds_toArray, List.set_cons_zero, List.set_cons_succ]
              repeat ((first | (refine free_plain ?_ (by rfl) (by rfl) (fun W hW _ => ⟨W, ?_, Ext.refl W⟩) ?_; rotate_left; (first | (go_simp; with_reducible rfl) | (go_simp; done))) | (refine free_skip (by rfl) ?_)); try simp only [Act.put, one_f, outB_f, outNew_f, outI_f, List.setIfInBounds_toArray, List.set_cons_zero, List.set_cons_succ])
              refine free_hard (one (.bool L)) (by rfl) (by rfl) (fun W hW _ => ?_) (fun p => ?_)
              · refine hardAt_call ?_ ((HL.out W).mono fun e w' h => ⟨(), h.1, trivial, h.2⟩)
                go_simp
              cases p
              simp only [Act.put, one_f, outB_f, outNew_f, outI_f, List.setIfInBounds_toArray, List.set_cons_zero, List.set_cons_succ]
              clear HL
              cases L
              · repeat ((first | (refine free_plain ?_ (by rfl) (by rfl) (fun W hW _ => ⟨W, ?_, Ext.refl W⟩) ?_; rotate_left; (first | (go_simp; with_reducible rfl) | (go_simp; done))) | (refine free_skip (by rfl) ?_)); try simp only [Act.put, one_f, outB_f, outNew_f, outI_f, List.setIfInBounds_toArray, List.set_cons_zero, List.set_cons_succ])
                refine free_nil (hK _ _ fun W hW hF => ?_)
                clear hF hK
                have b7 : Ext wr W := b4.trans hW
                dsimp only [List.drop]
                go_wp2
                all_goals first
                  | (go_ret
                     exact ⟨by rw [HBAD.out (by rw [HCK.out, Bool.true_and, HP.out]; simp [HLE.out, *])]; rfl, Ext.trans b2 b7⟩)
                  | (go_roundw
                     case rel => exact ⟨j + 1 + 1, by omega, by go_num, by rw [HSU.out, hck, HCK.out, Bool.true_and, HP.out]; simp [HLE.out, *], hE.trans b7⟩
                     case measure => simp [intOf]; omega)
              · by_cases hr0 : x.r = 0
                · have hr1 : (x.r == 0) = true := by simpa using hr0
                  have hr2 : decide (x.r = 0) = true := by simpa using hr0
                  repeat ((first | (refine free_plain ?_ (by rfl) (by rfl) (fun W hW _ => ⟨W, ?_, Ext.refl W⟩) ?_; rotate_left; (first | (go_simp; with_reducible rfl) | (go_simp; done))) | (refine free_skip (by rfl) ?_)); try simp only [Act.put, one_f, outB_f, outNew_f, outI_f, List.setIfInBounds_toArray, List.set_cons_zero, List.set_cons_succ])
                  refine free_nil (hK _ _ fun W hW hF => ?_)
                  clear hF hK
                  have b7 : Ext wr W := b4.trans hW
                  dsimp only [List.drop]
                  go_wp2
                  all_goals first
                    | (go_ret
                       exact ⟨by rw [HBAD.out (by rw [HCK.out, Bool.true_and, HP.out]; simp [HLE.out, *])]; rfl, Ext.trans b2 b7⟩)
                    | (go_roundw
                       case rel => exact ⟨j + 1 + 1, by omega, by go_num, by rw [HSU.out, hck, HCK.out, Bool.true_and, HP.out]; simp [HLE.out, *], hE.trans b7⟩
                       case measure => simp [intOf]; omega)
                · have hr1 : (x.r == 0) = false := by simpa using hr0
                  have hr2 : decide (x.r = 0) = false := by simpa using hr0
                  repeat ((first | (refine free_plain ?_ (by rfl) (by rfl) (fun W hW _ => ⟨W, ?_, Ext.refl W⟩) ?_; rotate_left; (first | (go_simp; with_reducible rfl) | (go_simp; done))) | (refine free_skip (by rfl) ?_)); try simp only [Act.put, one_f, outB_f, outNew_f, outI_f, List.setIfInBounds_toArray, List.set_cons_zero, List.set_cons_succ])
                  refine free_nil (hK _ _ fun W hW hF => ?_)
                  clear hF hK
                  have b7 : Ext wr W := b4.trans hW
                  dsimp only [List.drop]
                  go_wp2
                  all_goals first
                    | (go_ret
                       exact ⟨by rw [HBAD.out (by rw [HCK.out, Bool.true_and, HP.out]; simp [HLE.out, *])]; rfl, Ext.trans b2 b7⟩)
                    | (go_roundw
                       case rel => exact ⟨j + 1 + 1, by omega, by go_num, by rw [HSU.out, hck, HCK.out, Bool.true_and, HP.out]; simp [HLE.out, *], hE.trans b7⟩
                       case measure => simp [intOf]; omega)
      · obtain rfl : k = xs.length := by omega
        have rn0 := row_ext r1 hE
        have kn := cells_row rn0
        go_wp2
        go_ret
        exact ⟨by rw [hck]; rfl, b1.trans hE⟩
  · rw [decide_eq_false hab]
    go_enter Tryz.func124, Tryz.ntmps124
    go_wp2
    all_goals simp only [beq_iff_eq, beq_eq_false_iff_ne, ne_eq] at *
    all_goals first | (exfalso; omega) | skip
    generalize hw1 : (World.alloc _ _) = w1
    have b1 : Ext w w1 := by rw [← hw1]; exact Ext.alloc _ _
    have r1 : w1.heap[w.heap.size]? = some (.cells #[.int .i64 lvl, .slice A xs.length c] 118 (0, 0)) := by rw [← hw1]; exact World.alloc_heap_at _ _ _ rfl
    clear hw1
    go_loopw [3] (fun i wr => ∃ k : Nat, k ≤ xs.length ∧ i = .int .i64 (k : Int) ∧ chkAll false xs k = true ∧ Ext w1 wr) (fun i _ => xs.length - (intOf i).toNat)
    case atStart => exact ⟨0, by omega, rfl, rfl, Ext.refl _⟩
    case round =>
      obtain ⟨k, hk, rfl, hck, hE⟩ := hrel
      by_cases hlt : k < xs.length
      · have hlt' := hlt
        obtain ⟨b, off, rfl, hb⟩ := hA (by omega)
        have b2 : Ext w wr := b1.trans hE
        obtain ⟨A', c', c0, c1, c2, c3, c4, hby⟩ := (HX.out.ext b2).item k hlt'
        have HCK := Lib.hid (chkAt_some (above := false) hlt')
        have HBAD := Lib.hid (chkAll_bad (above := false) hlt')
        have HBI := Lib.hid (chkAt_it (above := false) hlt')
        have HSU := Lib.hid (chkAll_succ false xs k)
        generalize hx : xs[k] = x at *
        have rn0 := row_ext r1 hE
        have kn := cells_row rn0
        go_wp2
        generalize hw4 : (World.alloc _ _) = w4
        have b4 : Ext wr w4 := by rw [← hw4]; exact Ext.alloc _ _
        have r4 : w4.heap[wr.heap.size]? = some (.cells #[.int .u8 x.k, .int .u32 x.i, .int .u32 x.o, .int .i64 x.r, .slice A' x.val.length c'] 38 (0, 0)) := by rw [← hw4]; exact World.alloc_heap_at _ _ _ rfl
        clear hw4 kn
        have rn := row_ext rn0 b4
        have n0 : ∀ W, Ext w4 W → W.cell? ⟨w.heap.size, 0, none⟩ = some (.int .i64 lvl) := fun W h => by rw [cells_row (row_ext rn h)]; rfl
        have n1 : ∀ W, Ext w4 W → W.cell? ⟨w.heap.size, 1, none⟩ = some (.slice (some ⟨b, off, none⟩) xs.length c) := fun W h => by rw [cells_row (row_ext rn h)]; rfl
        have i0 : ∀ W, Ext w4 W → W.cell? ⟨wr.heap.size, 0, none⟩ = some (.int .u8 x.k) := fun W h => by rw [cells_row (row_ext r4 h)]; rfl
        have i1 : ∀ W, Ext w4 W → W.cell? ⟨wr.heap.size, 1, none⟩ = some (.int .u32 x.i) := fun W h => by rw [cells_row (row_ext r4 h)]; rfl
        have i2 : ∀ W, Ext w4 W → W.cell? ⟨wr.heap.size, 2, none⟩ = some (.int .u32 x.o) := fun W h => by rw [cells_row (row_ext r4 h)]; rfl
        have i3 : ∀ W, Ext w4 W → W.cell? ⟨wr.heap.size, 3, none⟩ = some (.int .i64 x.r) := fun W h => by rw [cells_row (row_ext r4 h)]; rfl
        have i4 : ∀ W, Ext w4 W → W.cell? ⟨wr.heap.size, 4, none⟩ = some (.slice A' x.val.length c') := fun W h => by rw [cells_row (row_ext r4 h)]; rfl
        have HM := Lib.hid (fun W => imay_any x.k x.i x.o x.r A' x.val.length c' W)
        have hdec : decide (0 < lvl) = false := by simp [hab]
        generalize hMM : itB x.r x.val.length = M at *
        rcases k with _ | j
        · refine wp_region_free (outsAt [(1, one (.bool M)), (16, one (.bool true))]) 36 (by kernel_rfl) (by kernel_rfl) (by kernel_rfl) (by decide) (by kernel_rfl) (by kernel_rfl) ?st ?walk
          case st => exact outsAt_stable (by simp only [List.forall_mem_cons]; exact ⟨one_stable _, one_stable _, fun _ h => by cases h⟩)
          case walk =>
            intro K hK
            dsimp only [List.take]
            repeat ((first | (refine free_plain ?_ (by rfl) (by rfl) (fun W hW _ => ⟨W, ?_, Ext.refl W⟩) ?_; rotate_left; (first | (go_simp; with_reducible rfl) | (go_simp; done))) | (refine free_skip (by rfl) ?_)); try simp only [Act.put, one_f, outB_f, outNew_f, outI_f, List.setIfInBounds_toArray, List.set_cons_zero, List.set_cons_succ])
            refine free_hard (one (.bool M)) (by rfl) (by rfl) (fun W hW _ => ?_) (fun p => ?_)
            · refine hardAt_call ?_ ((HM.out W).mono fun e w' h => ⟨(), h.1, trivial, h.2⟩)
              go_simp
            cases p
            simp only [Act.put, one_f, outB_f, outNew_f, outI_f, List.setIfInBounds_toArray, List.set_cons_zero, List.set_cons_succ]
            clear HM
            cases M
            · repeat ((first | (refine free_plain ?_ (by rfl) (by rfl) (fun W hW _ => ⟨W, ?_, Ext.refl W⟩) ?_; rotate_left; (first | (go_simp; with_reducible rfl) | (go_simp; done))) | (refine free_skip (by rfl) ?_)); try simp only [Act.put, one_f, outB_f, outNew_f, outI_f, List.setIfInBounds_toArray, List.set_cons_zero, List.set_cons_succ])
              refine free_nil (hK _ _ fun W hW hF => ?_)
              clear hF hK
              have b7 : Ext wr W := b4.trans hW
              dsimp only [List.drop]
              go_wp2
              all_goals first
                | (go_ret
                   exact ⟨by rw [HBAD.out (by rw [HCK.out, Bool.false_and]; simp [*])]; rfl, Ext.trans b2 b7⟩)
                | (go_roundw
                   case rel => exact ⟨0 + 1, by omega, by go_num, by rw [HSU.out, hck, HCK.out, Bool.false_and]; simp [*], hE.trans b7⟩
                   case measure => simp [intOf]; omega)
            · by_cases hr0 : x.r = 0
              · have hr1 : (x.r == 0) = true := by simpa using hr0
                have hr2 : decide (x.r = 0) = true := by simpa using hr0
                repeat ((first | (refine free_plain ?_ (by rfl) (by rfl) (fun W hW _ => ⟨W, ?_, Ext.refl W⟩) ?_; rotate_left; (first | (go_simp; with_reducible rfl) | (go_simp; done))) | (refine free_skip (by rfl) ?_)); try simp only [Act.put, one_f, outB_f, outNew_f, outI_f, List.setIfInBounds_toArray, List.set_cons_zero, List.set_cons_succ])
                refine free_nil (hK _ _ fun W hW hF => ?_)
                clear hF hK
                have b7 : Ext wr W := b4.trans hW
                dsimp only [List.drop]
                go_wp2
                all_goals first
                  | (go_ret
                     exact ⟨by rw [HBAD.out (by rw [HCK.out, Bool.true_and]; simp [*])]; rfl, Ext.trans b2 b7⟩)
                  | (go_roundw
                     case rel => exact ⟨0 + 1, by omega, by go_num, by rw [HSU.out, hck, HCK.out, Bool.true_and]; simp [*], hE.trans b7⟩
                     case measure => simp [intOf]; omega)
              · have hr1 : (x.r == 0) = false := by simpa using hr0
                have hr2 : decide (x.r = 0) = false := by simpa using hr0
                repeat ((first | (refine free_plain ?_ (by rfl) (by rfl) (fun W hW _ => ⟨W, ?_, Ext.refl W⟩) ?_; rotate_left; (first | (go_simp; with_reducible rfl) | (go_simp; done))) | (refine free_skip (by rfl) ?_)); try simp only [Act.put, one_f, outB_f, outNew_f, outI_f, List.setIfInBounds_toArray, List.set_cons_zero, List.set_cons_succ])
                refine free_nil (hK _ _ fun W hW hF => ?_)
                clear hF hK
                have b7 : Ext wr W := b4.trans hW
                dsimp only [List.drop]
                go_wp2
                all_goals first
                  | (go_ret
                     exact ⟨by rw [HBAD.out (by rw [HCK.out, Bool.true_and]; simp [*])]; rfl, Ext.trans b2 b7⟩)
                  | (go_roundw
                     case rel => exact ⟨0 + 1, by omega, by go_num, by rw [HSU.out, hck, HCK.out, Bool.true_and]; simp [*], hE.trans b7⟩
                     case measure => simp [intOf]; omega)
        · have hjl : j < xs.length := by omega
          obtain ⟨A2, c2', d0, d1, d2, d3, d4, _⟩ := (HX.out.ext (b2.trans b4)).item j hjl
          have hprev : xs[j + 1 - 1]? = some xs[j] := by rw [Nat.add_sub_cancel, List.getElem?_eq_getElem hjl]
          have HP := Lib.hid hprev
          clear hprev
          generalize xs[j] = y at *
          have p0 : ∀ W, Ext w4 W → W.cell? ⟨b, off + j * 5, none⟩ = some (.int .u8 y.k) := fun W h => Ext.cell h d0
          have p1 : ∀ W, Ext w4 W → W.cell? ⟨b, off + j * 5 + 1, none⟩ = some (.int .u32 y.i) := fun W h => Ext.cell h d1
          have p2 : ∀ W, Ext w4 W → W.cell? ⟨b, off + j * 5 + 2, none⟩ = some (.int .u32 y.o) := fun W h => Ext.cell h d2
          clear d0 d1 d2 d3 d4
          have HL := Lib.hid (fun W => rless_any y.k y.i y.o x.k x.i x.o W)
          have HLE : Hid (lessIt y x = lessB y.k y.i y.o x.k x.i x.o) := rfl
          generalize lessB y.k y.i y.o x.k x.i x.o = L at *
          refine wp_region_free (outsAt [(1, one (.bool M)), (16, one (.bool L))]) 36 (by kernel_rfl) (by kernel_rfl) (by kernel_rfl) (by decide) (by kernel_rfl) (by kernel_rfl) ?st ?walk
          case st => exact outsAt_stable (by simp only [List.forall_mem_cons]; exact ⟨one_stable _, one_stable _, fun _ h => by cases h⟩)
          case walk =>
            intro K hK
            dsimp only [List.take]
            repeat ((first | (refine free_plain ?_ (by rfl) (by rfl) (fun W hW _ => ⟨W, ?_, Ext.refl W⟩) ?_; rotate_left; (first | (go_simp; with_reducible rfl) | (go_simp; done))) | (refine free_skip (by rfl) ?_)); try simp only [Act.put, one_f, outB_f, outNew_f, outI_f, List.setIfInBounds_toArray, List.set_cons_zero, List.set_cons_succ])
            refine free_hard (one (.bool M)) (by rfl) (by rfl) (fun W hW _ => ?_) (fun p => ?_)
            · refine hardAt_call ?_ ((HM.out W).mono fun e w' h => ⟨(), h.1, trivial, h.2⟩)
              go_simp
            cases p
            simp only [Act.put, one_f, outB_f, outNew_f, outI_f, List.setIfInBounds_toArray, List.set_cons_zero, List.set_cons_succ]
            clear HM
            cases M
            · repeat ((first | (refine free_plain ?_ (by rfl) (by rfl) (fun W hW _ => ⟨W, ?_, Ext.refl W⟩) ?_; rotate_left; (first | (go_simp; with_reducible rfl) | (go_simp; done))) | (refine free_skip (by rfl) ?_)); try simp only [Act.put, one_f, outB_f, outNew_f, outI_f, List.setIfInBounds_toArray, List.set_cons_zero, List.set_cons_succ])
              refine free_nil (hK _ _ fun W hW hF => ?_)
              clear hF hK
              have b7 : Ext wr W := b4.trans hW
              dsimp only [List.drop]
              go_wp2
              all_goals first
                | (go_ret
                   exact ⟨by rw [HBAD.out (by rw [HCK.out, Bool.false_and]; simp [*])]; rfl, Ext.trans b2 b7⟩)
                | (go_roundw
                   case rel => exact ⟨j + 1 + 1, by omega, by go_num, by rw [HSU.out, hck, HCK.out, Bool.false_and]; simp [*], hE.trans b7⟩
                   case measure => simp [intOf]; omega)
            · repeat ((first | (refine free_plain ?_ (by rfl) (by rfl) (fun W hW _ => ⟨W, ?_, Ext.refl W⟩) ?_; rotate_left; (first | (go_simp; with_reducible rfl) | (go_simp; done))) | (refine free_skip (by rfl) ?_)); try simp only [Act.put, one_f, outB_f, outNew_f, outI_f, List.setIfInBounds_toArray, List.set_cons_zero, List.set_cons_succ])
              refine free_plain (.pointer (some ⟨b, off + j * 5, none⟩)) (by rfl) (by rfl) (fun W hW _ => ⟨W, ?_, Ext.refl W⟩) ?_
              · go_simp
                rw [IntWalk.i64_in (j : Int) (by omega), if_pos (by omega)]
                simp
              simp only [Act.put, one_f, outB_f, outNew_f, outI_f, List.setIfInBounds_toArray, List.set_cons_zero, List.set_cons_succ]
              repeat ((first | (refine free_plain ?_ (by rfl) (by rfl) (fun W hW _ => ⟨W, ?_, Ext.refl W⟩) ?_; rotate_left; (first | (go_simp; with_reducible rfl) | (go_simp; done))) | (refine free_skip (by rfl) ?_)); try simp only [Act.put, one_f, outB_f, outNew_f, outI_f, List.setIfInBounds_toArray, List.set_cons_zero, List.set_cons_succ])
              refine free_hard (one (.bool L)) (by rfl) (by rfl) (fun W hW _ => ?_) (fun p => ?_)
              · refine hardAt_call ?_ ((HL.out W).mono fun e w' h => ⟨(), h.1, trivial, h.2⟩)
                go_simp
              cases p
              simp only [Act.put, one_f, outB_f, outNew_f, outI_f, List.setIfInBounds_toArray, List.set_cons_zero, List.set_cons_succ]
              clear HL
              cases L
              · repeat ((first | (refine free_plain ?_ (by rfl) (by rfl) (fun W hW _ => ⟨W, ?_, Ext.refl W⟩) ?_; rotate_left; (first | (go_simp; with_reducible rfl) | (go_simp; done))) | (refine free_skip (by rfl) ?_)); try simp only [Act.put, one_f, outB_f, outNew_f, outI_f, List.setIfInBounds_toArray, List.set_cons_zero, List.set_cons_succ])
                refine free_nil (hK _ _ fun W hW hF => ?_)
                clear hF hK
                have b7 : Ext wr W := b4.trans hW
                dsimp only [List.drop]
                go_wp2
                all_goals first
                  | (go_ret
                     exact ⟨by rw [HBAD.out (by rw [HCK.out, Bool.true_and, HP.out]; simp [HLE.out, *])]; rfl, Ext.trans b2 b7⟩)
                  | (go_roundw
                     case rel => exact ⟨j + 1 + 1, by omega, by go_num, by rw [HSU.out, hck, HCK.out, Bool.true_and, HP.out]; simp [HLE.out, *], hE.trans b7⟩
                     case measure => simp [intOf]; omega)
              · by_cases hr0 : x.r = 0
                · have hr1 : (x.r == 0) = true := by simpa using hr0
                  have hr2 : decide (x.r = 0) = true := by simpa using hr0
                  repeat ((first | (refine free_plain ?_ (by rfl) (by rfl) (fun W hW _ => ⟨W, ?_, Ext.refl W⟩) ?_; rotate_left; (first | (go_simp; with_reducible rfl) | (go_simp; done))) | (refine free_skip (by rfl) ?_)); try simp only [Act.put, one_f, outB_f, outNew_f, outI_f, List.setIfInBounds_toArray, List.set_cons_zero, List.set_cons_succ])
                  refine free_nil (hK _ _ fun W hW hF => ?_)
                  clear hF hK
                  have b7 : Ext wr W := b4.trans hW
                  dsimp only [List.drop]
                  go_wp2
                  all_goals first
                    | (go_ret
                       exact ⟨by rw [HBAD.out (by rw [HCK.out, Bool.true_and, HP.out]; simp [HLE.out, *])]; rfl, Ext.trans b2 b7⟩)
                    | (go_roundw
                       case rel => exact ⟨j + 1 + 1, by omega, by go_num, by rw [HSU.out, hck, HCK.out, Bool.true_and, HP.out]; simp [HLE.out, *], hE.trans b7⟩
                       case measure => simp [intOf]; omega)
                · have hr1 : (x.r == 0) = false := by simpa using hr0
                  have hr2 : decide (x.r = 0) = false := by simpa using hr0
                  repeat ((first | (refine free_plain ?_ (by rfl) (by rfl) (fun W hW _ => ⟨W, ?_, Ext.refl W⟩) ?_; rotate_left; (first | (go_simp; with_reducible rfl) | (go_simp; done))) | (refine free_skip (by rfl) ?_)); try simp only [Act.put, one_f, outB_f, outNew_f, outI_f, List.setIfInBounds_toArray, List.set_cons_zero, List.set_cons_succ])
                  refine free_nil (hK _ _ fun W hW hF => ?_)
                  clear hF hK
                  have b7 : Ext wr W := b4.trans hW
                  dsimp only [List.drop]
                  go_wp2
                  all_goals first
                    | (go_ret
                       exact ⟨by rw [HBAD.out (by rw [HCK.out, Bool.true_and, HP.out]; simp [HLE.out, *])]; rfl, Ext.trans b2 b7⟩)
                    | (go_roundw
                       case rel => exact ⟨j + 1 + 1, by omega, by go_num, by rw [HSU.out, hck, HCK.out, Bool.true_and, HP.out]; simp [HLE.out, *], hE.trans b7⟩
                       case measure => simp [intOf]; omega)
      · obtain rfl : k = xs.length := by omega
        have rn0 := row_ext r1 hE
        have kn := cells_row rn0
        go_wp2
        go_ret
        exact ⟨by rw [hck]; rfl, b1.trans hE⟩
end Go.Proofs.YtckhnchnbeoogaaGreat
/- Nodes read from blocks: plain words. -/
namespace Go.Proofs.YtckhnchnbeoogaaGreat
set_option linter.unusedSimpArgs false
set_option linter.unusedVariables false
open Go.RowKit

def itsRead (l : List UInt8) : Nat → Option (List It × List UInt8)
  | 0 => some ([], l)
  | k + 1 => match itsRead l k with
    | none => none
    | some (xs, r) => match itemRead r with
      | none => none
      | some (x, n) => some (xs ++ [x], r.drop n)
def nodeRead (l : List UInt8) : Option (Int × List It) :=
  if l.length = 128 ∧ sumOk l = true ∧ (l[4]?.getD 0) = 78 ∧ (l[6]?.getD 0).toNat ≤ 5 then
    match itsRead (l.drop 7) (l[6]?.getD 0).toNat with
    | none => none
    | some (xs, r) => if nodeMay (l[5]?.getD 0).toNat xs = true ∧ zeros r = true then some (((l[5]?.getD 0).toNat : Int), xs) else none
  else none
theorem itsRead_len {l : List UInt8} : ∀ {k : Nat} {xs : List It} {r : List UInt8}, itsRead l k = some (xs, r) → xs.length = k := by
  intro k
  induction k with
  | zero => intro xs r h; simp [itsRead] at h; simp [← h.1]
  | succ k ih =>
    intro xs r h
    unfold itsRead at h
    split at h
    · cases h
    · rename_i ys q hq
      split at h
      · cases h
      · simp at h
        rw [← h.1]
        simp [ih hq]
end Go.Proofs.YtckhnchnbeoogaaGreat
/- Contracts: the document's bytes of items and nodes. -/
namespace Go.Proofs.YtckhnchnbeoogaaGreat
set_option linter.unusedSimpArgs false
set_option linter.unusedVariables false
open Go.RowKit

def ItOk (x : It) : Prop := (0 ≤ x.k ∧ x.k < 256) ∧ (0 ≤ x.i ∧ x.i < 4294967296) ∧ (0 ≤ x.o ∧ x.o < 4294967296) ∧ (0 ≤ x.r ∧ x.r < 256) ∧ x.val.length ≤ 12
def itBytes (x : It) : List UInt8 := UInt8.ofNat x.k.toNat :: (bytesOf x.i.toNat 4 ++ (bytesOf x.o.toNat 4 ++ (bytesOf x.r.toNat 2 ++ (UInt8.ofNat x.val.length :: x.val))))
theorem itBytes_len (x : It) : (itBytes x).length = 12 + x.val.length := by simp [itBytes, bytesOf_len]; omega
theorem numAt_bytes {l : List UInt8} {a k : Nat} (h : a + k ≤ l.length) : bytesOf (numAt l a k).toNat k = (l.drop a).take k := by
  unfold numAt
  rw [if_pos h]
  have hl : ((l.drop a).take k).length = k := by simp; omega
  have := bytesOf_numOf ((l.drop a).take k)
  rw [hl] at this
  simpa using this
theorem numAt_range {l : List UInt8} {a k : Nat} (h : a + k ≤ l.length) : 0 ≤ numAt l a k ∧ numAt l a k < 256 ^ k := by
  unfold numAt
  rw [if_pos h]
  have := numOf_lt ((l.drop a).take k)
  have hl : ((l.drop a).take k).length = k := by simp; omega
  rw [hl] at this
  refine ⟨Int.natCast_nonneg _, ?_⟩
  have h2 : ((numOf ((l.drop a).take k) : Nat) : Int) < ((256 ^ k : Nat) : Int) := Int.ofNat_lt.2 this
  rw [Int.natCast_pow] at h2
  exact h2
theorem take_split (l : List UInt8) (a b : Nat) : l.take (a + b) = l.take a ++ (l.drop a).take b := by rw [List.take_add]
theorem itemRead_some {l : List UInt8} {x : It} {n : Nat} (h : itemRead l = some (x, n)) : itBytes x = l.take n ∧ n ≤ l.length ∧ n = 12 + x.val.length ∧ ItOk x ∧ itB x.r x.val.length = true := by
  unfold itemRead at h
  split at h
  · cases h
  · rename_i hl
    split at h
    · rename_i hb
      simp only [Option.some.injEq, Prod.mk.injEq] at h
      obtain ⟨rfl, rfl⟩ := h
      have hs : szOf l = 12 + (l[11]?.getD 0).toNat := rfl
      have hv : (itAt l).val.length = szOf l - 12 := by simp [itAt]; omega
      have u0 := (l[0]?.getD 0).toNat_lt
      have u11 := (l[11]?.getD 0).toNat_lt
      have r1 := numAt_range (l := l) (a := 1) (k := 4) (by omega)
      have r5 := numAt_range (l := l) (a := 5) (k := 4) (by omega)
      have r9 := numAt_range (l := l) (a := 9) (k := 2) (by omega)
      have hb' := hb
      simp only [itB, decide_eq_true_eq] at hb'
      refine ⟨?_, by omega, by rw [hv]; omega, ⟨⟨by simp [itAt], by simp [itAt]; omega⟩, ⟨r1.1, r1.2⟩, ⟨r5.1, r5.2⟩, ⟨?_, ?_⟩, by rw [hv]; omega⟩, by rw [hv]; exact hb⟩
      · have e1 : l.take 1 = [l[0]?.getD 0] := by
          rcases l with _ | ⟨a, l⟩
          · simp at hl
          · simp
        have e11 : (l.drop 11).take 1 = [l[11]?.getD 0] := by
          rw [List.drop_eq_getElem_cons (by omega), List.getElem?_eq_getElem (by omega)]
          rfl
        have : l.take (szOf l) = l.take 1 ++ ((l.drop 1).take 4 ++ ((l.drop 5).take 4 ++ ((l.drop 9).take 2 ++ ((l.drop 11).take 1 ++ (l.drop 12).take (szOf l - 12))))) := by
          conv => lhs; rw [show szOf l = 1 + (4 + (4 + (2 + (1 + (szOf l - 12))))) by omega]
          rw [take_split l 1, take_split (l.drop 1) 4, List.drop_drop, take_split (l.drop (1 + 4)) 4, List.drop_drop, take_split (l.drop (1 + 4 + 4)) 2, List.drop_drop, take_split (l.drop (1 + 4 + 4 + 2)) 1, List.drop_drop]
        rw [this, e1, e11]
        unfold itBytes
        rw [hv]
        simp only [itAt]
        rw [numAt_bytes (by omega), numAt_bytes (by omega), numAt_bytes (by omega)]
        rw [hs, Nat.add_sub_cancel_left]
        simp
      · exact r9.1
      · rcases hb'.1 with h0 | h0 <;> omega
    · cases h

def itsBytes (xs : List It) : List UInt8 := xs.flatMap itBytes
theorem itsBytes_snoc (xs : List It) (x : It) : itsBytes (xs ++ [x]) = itsBytes xs ++ itBytes x := by simp [itsBytes]
theorem itsRead_some {l : List UInt8} : ∀ {k : Nat} {xs : List It} {r : List UInt8}, itsRead l k = some (xs, r) → l = itsBytes xs ++ r ∧ ∀ x ∈ xs, ItOk x ∧ itB x.r x.val.length = true := by
  intro k
  induction k with
  | zero => intro xs r h; simp only [itsRead, Option.some.injEq, Prod.mk.injEq] at h; obtain ⟨rfl, rfl⟩ := h; exact ⟨rfl, fun _ h => by cases h⟩
  | succ k ih =>
    intro xs r h
    unfold itsRead at h
    split at h
    · cases h
    · rename_i ys q hq
      split at h
      · cases h
      · rename_i x n hx
        simp only [Option.some.injEq, Prod.mk.injEq] at h
        obtain ⟨rfl, rfl⟩ := h
        obtain ⟨h1, h2⟩ := ih hq
        obtain ⟨g1, g2, g3, g4, g5⟩ := itemRead_some hx
        refine ⟨?_, ?_⟩
        · rw [itsBytes_snoc, g1, List.append_assoc, List.take_append_drop]; exact h1
        · intro y hy
          rcases List.mem_append.1 hy with hy | hy
          · exact h2 y hy
          · obtain rfl : y = x := by simpa using hy
            exact ⟨g4, g5⟩
theorem itsBytes_len (xs : List It) (h : ∀ x ∈ xs, ItOk x) : (itsBytes xs).length ≤ 24 * xs.length := by
  induction xs with
  | nil => simp [itsBytes]
  | cons x r ih =>
    have h1 := ih fun y hy => h y (by simp [hy])
    have h2 := itBytes_len x
    have h3 := (h x (by simp)).2.2.2.2
    simp only [itsBytes, List.flatMap_cons, List.length_append, List.length_cons] at h1 ⊢
    omega
def toldOf (lvl : Int) (xs : List It) : List UInt8 := 78 :: UInt8.ofNat lvl.toNat :: UInt8.ofNat xs.length :: itsBytes xs
def sameTo (b t : List UInt8) (k : Nat) : Bool := (List.range k).all fun i => if i < t.length then b[i]? == t[i]? else b[i]? == some 0
def sameAll (b t : List UInt8) : Bool := sameTo b t b.length && decide (t.length ≤ b.length)
theorem sameTo_succ (b t : List UInt8) (k : Nat) : sameTo b t (k + 1) = (sameTo b t k && (if k < t.length then b[k]? == t[k]? else b[k]? == some 0)) := by simp [sameTo, List.range_succ]
theorem sameTo_bad {b t : List UInt8} {k : Nat} (hk : k < b.length) (h : (if k < t.length then b[k]? == t[k]? else b[k]? == some 0) = false) : sameAll b t = false := by
  have : sameTo b t b.length = false := by
    unfold sameTo
    rw [List.all_eq_false]
    exact ⟨k, List.mem_range.2 hk, by simp only [h]; simp⟩
  simp [sameAll, this]
theorem sameAll_iff (b t : List UInt8) : sameAll b t = true ↔ ∃ r, b = t ++ r ∧ zeros r = true := by
  unfold sameAll sameTo
  rw [Bool.and_eq_true, List.all_eq_true, decide_eq_true_eq]
  constructor
  · rintro ⟨h1, h2⟩
    refine ⟨b.drop t.length, ?_, ?_⟩
    · conv => lhs; rw [← List.take_append_drop t.length b]
      congr 1
      apply List.ext_getElem?
      intro i
      rw [List.getElem?_take]
      split
      · rename_i hi
        have := h1 i (List.mem_range.2 (by omega))
        rw [if_pos hi] at this
        exact eq_of_beq this
      · rename_i hi
        rw [List.getElem?_eq_none (by omega)]
    · unfold zeros
      rw [List.all_eq_true]
      intro x hx
      obtain ⟨i, hi, rfl⟩ := List.getElem_of_mem hx
      rw [List.length_drop] at hi
      have := h1 (t.length + i) (List.mem_range.2 (by omega))
      rw [if_neg (by omega)] at this
      rw [List.getElem_drop]
      have := eq_of_beq this
      rw [List.getElem?_eq_getElem (by omega)] at this
      simp only [Option.some.injEq] at this
      simp [this]
  · rintro ⟨r, rfl, hr⟩
    refine ⟨fun i hi => ?_, by simp⟩
    split
    · rename_i h; rw [List.getElem?_append_left h]; simp
    · rename_i h
      have hi' : i < t.length + r.length := by simpa using hi
      rw [List.getElem?_append_right (by omega), List.getElem?_eq_getElem (by omega)]
      have := List.all_eq_true.1 hr _ (List.getElem_mem (l := r) (n := i - t.length) (by omega))
      simp only [beq_iff_eq] at this
      simp [this]
end Go.Proofs.YtckhnchnbeoogaaGreat
/- Contracts: the document's bytes of an item, of a node. -/
namespace Go.Proofs.YtckhnchnbeoogaaGreat
set_option linter.unusedSimpArgs false
set_option linter.unusedVariables false
open Go.RowKit

theorem own_ext {w w' : World} {base n size : Nat} {e : TypeId} {v : Value} {xs : List Value} (h : w.ownsRow base e size v n xs) (hx : Ext w w') : w'.ownsRow base e size v n xs := by
  refine ⟨h.1, ?_⟩
  rcases h.2 with h0 | ⟨g, cap, cur, hv, hb, hg, rest⟩
  · exact .inl h0
  · exact .inr ⟨g, cap, cur, hv, hb, row_ext hg hx, rest⟩
theorem own_mono {w : World} {base base' n size : Nat} {e : TypeId} {v : Value} {xs : List Value} (h : w.ownsRow base e size v n xs) (hb : base' ≤ base) : w.ownsRow base' e size v n xs := by
  refine ⟨h.1, ?_⟩
  rcases h.2 with h0 | ⟨g, cap, cur, hv, hb', rest⟩
  · exact .inl h0
  · exact .inr ⟨g, cap, cur, hv, Nat.le_trans hb hb', rest⟩
theorem row_below {w w' : World} {B b : Nat} {o : Obj} (h : w.heap[b]? = some o) (hb : b < B) (hx : Below B w w') : w'.heap[b]? = some o := (hx.block b hb).trans h
theorem own_rd {w : World} {base n : Nat} {e : TypeId} {v : Value} {l : List UInt8} (h : w.ownsRow base e 1 v n (l.map bv)) : ∃ A c, v = .slice A n c ∧ Rd w w.heap.size 1 A n (l.map bv) := by
  have hn : l.length = n := by have := h.1; simpa using this
  obtain ⟨A, c, e, _, _, hr⟩ := Bys.of_own h
  rw [hn] at e hr
  exact ⟨A, c, e, hr⟩

set_option maxHeartbeats 2000000 in
theorem bytes05_any (x : It) (hx : ItOk x) (A : Option Addr) (c : Nat) (w : World) (h : Bys w w.heap.size (.slice A x.val.length c) x.val) :
    Calls Tryz.prog 148 #[itemV x.k x.i x.o x.r A x.val.length c] w (RetS (fun v w' => w'.ownsRow w.heap.size 5 1 v (12 + x.val.length) ((itBytes x).map bv)) w) := by
  obtain ⟨i0, hi, hz0, hz1, hz2⟩ := info_parts Tryz.info_u8
  obtain ⟨kk, ki, ko, kr, l⟩ := x
  obtain ⟨⟨hk1, hk2⟩, ⟨hi1, hi2⟩, ⟨ho1, ho2⟩, ⟨hr1, hr2⟩, hl⟩ := hx
  dsimp only at *
  obtain ⟨k, rfl⟩ := Int.eq_ofNat_of_zero_le hk1
  obtain ⟨i, rfl⟩ := Int.eq_ofNat_of_zero_le hi1
  obtain ⟨o, rfl⟩ := Int.eq_ofNat_of_zero_le ho1
  obtain ⟨r, rfl⟩ := Int.eq_ofNat_of_zero_le hr1
  have HB : Hid (itBytes ⟨k, i, o, r, l⟩ = [UInt8.ofNat k] ++ bytesOf i 4 ++ bytesOf o 4 ++ bytesOf r 2 ++ [UInt8.ofNat l.length] ++ l) := by
    refine Lib.hid ?_
    simp [itBytes]
  have hkb : bv (UInt8.ofNat k) = .int .u8 (k : Int) := by simp [bv]; omega
  have hlb : bv (UInt8.ofNat l.length) = .int .u8 ((l.length : Nat) : Int) := by simp [bv]; omega
  obtain ⟨A', c', e, hcc, hmm, hrd⟩ := h
  simp only [Value.slice.injEq] at e
  obtain ⟨rfl, _, rfl⟩ := e
  have HL := Lib.hid hlb
  have HR := Lib.hid hrd
  have H1 := Lib.hid (bvs_one l)
  clear hrd hlb
  generalize hm : l.map bv = vs at *
  have HM := Lib.hid hm
  clear hm
  generalize hn : l.length = n at *
  go_enter Tryz.func148, Tryz.ntmps148
  go_wp2_with fail
  generalize hw1 : (World.alloc (World.alloc _ _) _) = w1
  have b1 : Ext w w1 := by rw [← hw1]; exact (Ext.alloc _ _).trans (Ext.alloc _ _)
  have r1 : w1.heap[w.heap.size]? = some (.cells #[.int .u8 k, .int .u32 i, .int .u32 o, .int .i64 r, .slice A n c] 38 (0, 0)) := by rw [← hw1]; exact (Below.heap_alloc _ _ _ (by simp)).trans (World.alloc_heap_at _ _ _ rfl)
  have o1 : w1.ownsRow (w.heap.size + 1) 5 1 (.slice (some ⟨w.heap.size + 1, 0, none⟩) 1 1) 1 ([UInt8.ofNat k].map bv) := by
    rw [← hw1, List.map_singleton, hkb]
    have := World.ownsRow_lit (base := w.heap.size + 1) (e := 5) (size := 1) (World.alloc w (Obj.cells #[.int .u8 k, .int .u32 i, .int .u32 o, .int .i64 r, .slice A n c] 38)) #[.int .u8 (k : Int)] 1 (by simp) (by unfold maxLen; omega) (by simp)
    simpa using this
  clear hw1
  clear hi1 ho1 hr1 hk1
  refine (rfour_any i (by omega) _).mono ?_
  rintro e w2 ⟨u, rfl, hu, hB⟩
  obtain ⟨A2, c2, rfl, hr2⟩ := own_rd hu
  have o2 := own_ext o1 hB
  have r2 := row_ext r1 hB
  have b2 := Ext.trans b1 hB
  have s2 : w.heap.size + 1 ≤ w2.heap.size := (Array.getElem?_eq_some_iff.1 r2).1
  clear o1 r1 b1 hu hB
  go_wp2_with (at_builtin; refine wpList_stop ?_)
  refine Stopped.go (wpList_append_rd _ rfl (.tmp 8) (.tmp 12) 26 rfl (w.heap.size + 1) 5 i0 (.int .u8 0) 1 1 Tryz.underlying26 hi hz0 hz1 hz2 rfl (by decide) _ _ _ rfl o2 w2.heap.size A2 4 c2 _ rfl hr2 (bvs_one _) (by omega) (by decide) s2 ?_)
  intro v3 w3 o3 _hg hb _hx; clear _hg _hx
  rw [← List.map_append] at o3
  have r3 := row_below r2 (Nat.lt_succ_self _) hb
  have b3 : Ext w w3 := Below.trans b2 (Below.mono hb (Nat.le_succ _))
  clear hb o2 r2 b2 hr2 s2
  have k3 := cells_row r3
  have f3 := frozen_row r3
  go_wp2_with fail
  clear k3 f3
  refine (rfour_any o (by omega) _).mono ?_
  rintro e w4 ⟨u, rfl, hu, hB⟩
  obtain ⟨A4, c4, rfl, hr4⟩ := own_rd hu
  have o4 := own_ext o3 hB
  have r4 := row_ext r3 hB
  have b4 := Ext.trans b3 hB
  have s4 : w.heap.size + 1 ≤ w4.heap.size := (Array.getElem?_eq_some_iff.1 r4).1
  clear o3 r3 b3 hu hB
  go_wp2_with (at_builtin; refine wpList_stop ?_)
  refine Stopped.go (wpList_append_rd _ rfl (.tmp 14) (.tmp 18) 26 rfl (w.heap.size + 1) 5 i0 (.int .u8 0) 1 1 Tryz.underlying26 hi hz0 hz1 hz2 rfl (by decide) _ _ _ rfl o4 w4.heap.size A4 4 c4 _ rfl hr4 (bvs_one _) (by omega) (by decide) s4 ?_)
  intro v5 w5 o5 _hg hb _hx; clear _hg _hx
  rw [← List.map_append] at o5
  have r5 := row_below r4 (Nat.lt_succ_self _) hb
  have b5 : Ext w w5 := Below.trans b4 (Below.mono hb (Nat.le_succ _))
  clear hb o4 r4 b4 hr4 s4
  have k5 := cells_row r5
  have f5 := frozen_row r5
  go_wp2_with fail
  clear k5 f5
  refine (bytes_any r 2 (by omega) (by omega) _).mono ?_
  rintro e w6 ⟨u, rfl, hu, hB⟩
  obtain ⟨A6, c6, rfl, hr6⟩ := own_rd hu
  have o6 := own_ext o5 hB
  have r6 := row_ext r5 hB
  have b6 := Ext.trans b5 hB
  have s6 : w.heap.size + 1 ≤ w6.heap.size := (Array.getElem?_eq_some_iff.1 r6).1
  clear o5 r5 b5 hu hB
  go_wp2_with (at_builtin; refine wpList_stop ?_)
  refine Stopped.go (wpList_append_rd _ rfl (.tmp 20) (.tmp 23) 26 rfl (w.heap.size + 1) 5 i0 (.int .u8 0) 1 1 Tryz.underlying26 hi hz0 hz1 hz2 rfl (by decide) _ _ _ rfl o6 w6.heap.size A6 2 c6 _ rfl hr6 (bvs_one _) (by omega) (by decide) s6 ?_)
  intro v7 w7 o7 _hg hb _hx; clear _hg _hx
  rw [← List.map_append] at o7
  have r7 := row_below r6 (Nat.lt_succ_self _) hb
  have b7 : Ext w w7 := Below.trans b6 (Below.mono hb (Nat.le_succ _))
  clear hb o6 r6 b6 hr6 s6
  have k7 := cells_row r7
  have f7 := frozen_row r7
  have s7 : w.heap.size + 1 ≤ w7.heap.size := (Array.getElem?_eq_some_iff.1 r7).1
  go_wp2_with (at_builtin; refine wpList_stop ?_)
  refine Stopped.go (wpList_push _ rfl (.tmp 25) (.tmp 30) 26 rfl (w.heap.size + 1) 5 i0 (.int .u8 0) 1 1 Tryz.underlying26 hi hz0 hz1 hz2 rfl (by decide) _ _ _ rfl o7 #[.int .u8 (n : Int)] rfl rfl (by simp [Value.oneCell']) (by omega) (by decide) s7 ?_)
  intro v8 w8 o8 _hg hb _hx; clear _hg _hx
  have o8' : w8.ownsRow (w.heap.size + 1) 5 1 v8 12 (([UInt8.ofNat k] ++ bytesOf i 4 ++ bytesOf o 4 ++ bytesOf r 2 ++ [UInt8.ofNat n]).map bv) := by
    rw [List.map_append, List.map_singleton, HL.out]
    exact o8
  have r8 := row_below r7 (Nat.lt_succ_self _) hb
  have b8 : Ext w w8 := Below.trans b7 (Below.mono hb (Nat.le_succ _))
  have s8 : w.heap.size + 1 ≤ w8.heap.size := (Array.getElem?_eq_some_iff.1 r8).1
  clear hb o7 r7 b7 s7 k7 f7 o8
  have k8 := cells_row r8
  go_wp2_with (at_builtin; refine wpList_stop ?_)
  refine Stopped.go (wpList_append_rd _ rfl (.tmp 32) (.tmp 34) 26 rfl (w.heap.size + 1) 5 i0 (.int .u8 0) 1 1 Tryz.underlying26 hi hz0 hz1 hz2 rfl (by decide) _ _ _ rfl o8' w.heap.size A n c _ rfl (HR.out.below b8) H1.out (by omega) (by decide) s8 ?_)
  intro v9 w9 o9 _hg hb _hx; clear _hg _hx
  rw [← HM.out, ← List.map_append, ← HB.out] at o9
  have b9 : Ext w w9 := Below.trans b8 (Below.mono hb (Nat.le_succ _))
  go_wp2
  go_ret
  exact ⟨_, rfl, own_mono o9 (Nat.le_succ _), b9⟩
end Go.Proofs.YtckhnchnbeoogaaGreat
