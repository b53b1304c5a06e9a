/- Contracts: may a node be (node.Check). -/
import Derived.Test.YteikcgjhcniiiaaT04
namespace Go.Proofs.Yteikcgjhcniiiaa
set_option linter.unusedSimpArgs false
set_option linter.unusedVariables false
open Go.RowKit

theorem chkAt_some {above : Bool} {xs : List It} {i : Nat} (hi : i < xs.length) : chkAt above xs i = (itB xs[i].r xs[i].val.length && (decide (i = 0) || (match xs[i - 1]? with | some y => lessIt y xs[i] | none => true)) && !(above && (decide (xs[i].r = 0) || decide (0 < xs[i].val.length)))) := by
  unfold chkAt
  rw [List.getElem?_eq_getElem hi]
  rfl
theorem chkAt_it {above : Bool} {xs : List It} {i : Nat} (hi : i < xs.length) (h : itB xs[i].r xs[i].val.length = false) : chkAt above xs i = false := by
  rw [chkAt_some hi, h]; rfl

set_option maxHeartbeats 4000000 in
set_option maxRecDepth 100000 in
theorem ncheck_any (lvl : Int) (A : Option Addr) (n c : Nat) (xs : List It) (w : World) (hx : Its w w.heap.size (.slice A n c) xs) (h : headB lvl n = true) :
    Calls Try.prog 91 #[nodeV lvl A n c] w (Ret (.int .i64 (errOf (nodeMay lvl xs))) w) := by
  obtain ⟨hn, hnc, hcm, hA⟩ := hx.at_
  have h' : 0 ≤ lvl ∧ lvl < 6 ∧ n ≤ 5 ∧ (0 < lvl → n ≠ 0) := by unfold headB at h; exact of_decide_eq_true h
  have hM : nodeMay lvl xs = chkAll (decide (0 < lvl)) xs xs.length := by unfold nodeMay; rw [← hn, h]; rfl
  rw [hM]
  clear hM h
  subst hn
  have HX := Lib.hid hx
  clear hx
  obtain ⟨h1, h2, h3, h4⟩ := h'
  by_cases hab : 0 < lvl
  · rw [decide_eq_true hab]
    go_enter Try.func91, Try.ntmps91
    go_wp2
    all_goals simp only [beq_iff_eq, beq_eq_false_iff_ne, ne_eq] at *
    all_goals first | (exfalso; omega) | skip
    generalize hw1 : (World.alloc _ _) = w1
    have b1 : Ext w w1 := by rw [← hw1]; exact Ext.alloc _ _
    have r1 : w1.heap[w.heap.size]? = some (.cells #[.int .i64 lvl, .slice A xs.length c] 107 (0, 0)) := by rw [← hw1]; exact World.alloc_heap_at _ _ _ rfl
    clear hw1
    go_loopw [36] (fun i wr => ∃ k : Nat, k ≤ xs.length ∧ i = .int .i64 (k : Int) ∧ chkAll true xs k = true ∧ Ext w1 wr) (fun i _ => xs.length - (intOf i).toNat)
    case atStart => exact ⟨0, by omega, rfl, rfl, Ext.refl _⟩
    case round =>
      obtain ⟨k, hk, rfl, hck, hE⟩ := hrel
      by_cases hlt : k < xs.length
      · have hlt' := hlt
        obtain ⟨b, off, rfl, hb⟩ := hA (by omega)
        have b2 : Ext w wr := b1.trans hE
        obtain ⟨A', c', c0, c1, c2, c3, c4, hby⟩ := (HX.out.ext b2).item k hlt'
        have HCK := Lib.hid (chkAt_some (above := true) hlt')
        have HBAD := Lib.hid (chkAll_bad (above := true) hlt')
        have HBI := Lib.hid (chkAt_it (above := true) hlt')
        have HSU := Lib.hid (chkAll_succ true xs k)
        generalize hx : xs[k] = x at *
        go_wp2_with fail
        generalize hw3 : (World.alloc _ _) = w3
        have b3 : Ext wr w3 := by rw [← hw3]; exact Ext.alloc _ _
        have r3 : w3.heap[wr.heap.size]? = some (.cells #[.int .u8 x.k, .int .u32 x.i, .int .u32 x.o, .int .i64 x.r, .slice A' x.val.length c'] 155 (0, 0)) := by rw [← hw3]; exact World.alloc_heap_at _ _ _ rfl
        clear hw3
        refine (icheck_any x.k x.i x.o x.r A' x.val.length c' _).mono ?_
        rintro e w4 ⟨rfl, hB⟩
        have b4 : Ext wr w4 := b3.trans hB
        have r4 := row_ext r3 hB
        clear hB r3 b3
        by_cases hok : itB x.r x.val.length = true
        · rw [errOf_t hok]
          go_wp2
          have b5 : Ext w1 w4 := hE.trans b4
          have rn := row_ext r1 b5
          have n1 : ∀ W, Ext w4 W → W.cell? ⟨w.heap.size, 1, none⟩ = some (.slice (some ⟨b, off, none⟩) xs.length c) := fun W h => by rw [cells_row (row_ext rn h)]; rfl
          have i0 : ∀ W, Ext w4 W → W.cell? ⟨wr.heap.size, 0, none⟩ = some (.int .u8 x.k) := fun W h => by rw [cells_row (row_ext r4 h)]; rfl
          have i1 : ∀ W, Ext w4 W → W.cell? ⟨wr.heap.size, 1, none⟩ = some (.int .u32 x.i) := fun W h => by rw [cells_row (row_ext r4 h)]; rfl
          have i2 : ∀ W, Ext w4 W → W.cell? ⟨wr.heap.size, 2, none⟩ = some (.int .u32 x.o) := fun W h => by rw [cells_row (row_ext r4 h)]; rfl
          have i3 : ∀ W, Ext w4 W → W.cell? ⟨wr.heap.size, 3, none⟩ = some (.int .i64 x.r) := fun W h => by rw [cells_row (row_ext r4 h)]; rfl
          have i4 : ∀ W, Ext w4 W → W.cell? ⟨wr.heap.size, 4, none⟩ = some (.slice A' x.val.length c') := fun W h => by rw [cells_row (row_ext r4 h)]; rfl
          rcases k with _ | j
          · refine wp_region_free (outsAt [(12, one (.bool true))]) 29 (by kernel_rfl) (by kernel_rfl) (by kernel_rfl) (by decide) (by kernel_rfl) (by kernel_rfl) ?st ?walk
            case st => exact outsAt_stable (by simp only [List.forall_mem_cons]; exact ⟨one_stable _, fun _ h => by cases h⟩)
            case walk =>
              intro K hK
              dsimp only [List.take]
              by_cases hr0 : x.r = 0
              · have hr1 : (x.r == 0) = true := by simpa using hr0
                have hr2 : decide (x.r = 0) = true := by simpa using hr0
                repeat (first | (refine free_plain ?_ (by rfl) (by rfl) (fun W hW _ => ⟨W, ?_, Ext.refl W⟩) ?_; rotate_left; (first | (go_simp; with_reducible rfl) | (go_simp; done)); try simp only [Act.put, one_f, outB_f, outNew_f, outI_f, List.setIfInBounds_toArray, List.set_cons_zero, List.set_cons_succ]) | (refine free_skip (by rfl) ?_; simp only [Act.put, one_f, outB_f, outNew_f, outI_f, List.setIfInBounds_toArray, List.set_cons_zero, List.set_cons_succ]))
                refine free_nil (hK _ _ fun W hW hF => ?_)
                clear hF hK
                have b7 : Ext wr W := b4.trans hW
                dsimp only [List.drop]
                go_wp2
                all_goals first
                  | (go_ret
                     exact ⟨by rw [HBAD.out (by rw [HCK.out, hok]; simp [*])]; rfl, Ext.trans b2 b7⟩)
                  | (go_roundw
                     case rel => exact ⟨0 + 1, by omega, by go_num, by rw [HSU.out, hck, HCK.out, hok]; simp [*], hE.trans b7⟩
                     case measure => simp [intOf]; omega)
              · have hr1 : (x.r == 0) = false := by simpa using hr0
                have hr2 : decide (x.r = 0) = false := by simpa using hr0
                repeat (first | (refine free_plain ?_ (by rfl) (by rfl) (fun W hW _ => ⟨W, ?_, Ext.refl W⟩) ?_; rotate_left; (first | (go_simp; with_reducible rfl) | (go_simp; done)); try simp only [Act.put, one_f, outB_f, outNew_f, outI_f, List.setIfInBounds_toArray, List.set_cons_zero, List.set_cons_succ]) | (refine free_skip (by rfl) ?_; simp only [Act.put, one_f, outB_f, outNew_f, outI_f, List.setIfInBounds_toArray, List.set_cons_zero, List.set_cons_succ]))
                refine free_nil (hK _ _ fun W hW hF => ?_)
                clear hF hK
                have b7 : Ext wr W := b4.trans hW
                dsimp only [List.drop]
                go_wp2
                all_goals first
                  | (go_ret
                     exact ⟨by rw [HBAD.out (by rw [HCK.out, hok]; simp [*])]; rfl, Ext.trans b2 b7⟩)
                  | (go_roundw
                     case rel => exact ⟨0 + 1, by omega, by go_num, by rw [HSU.out, hck, HCK.out, hok]; simp [*], hE.trans b7⟩
                     case measure => simp [intOf]; omega)
          · have hjl : j < xs.length := by omega
            obtain ⟨A2, c2', d0, d1, d2, d3, d4, _⟩ := (HX.out.ext (b2.trans b4)).item j hjl
            have hprev : xs[j + 1 - 1]? = some xs[j] := by rw [Nat.add_sub_cancel, List.getElem?_eq_getElem hjl]
            have HP := Lib.hid hprev
            clear hprev
            generalize xs[j] = y at *
            have p0 : ∀ W, Ext w4 W → W.cell? ⟨b, off + j * 5, none⟩ = some (.int .u8 y.k) := fun W h => Ext.cell h d0
            have p1 : ∀ W, Ext w4 W → W.cell? ⟨b, off + j * 5 + 1, none⟩ = some (.int .u32 y.i) := fun W h => Ext.cell h d1
            have p2 : ∀ W, Ext w4 W → W.cell? ⟨b, off + j * 5 + 2, none⟩ = some (.int .u32 y.o) := fun W h => Ext.cell h d2
            clear d0 d1 d2 d3 d4
            have HL := Lib.hid (fun W => less_any y.k y.i y.o x.k x.i x.o W)
            have HLE : Hid (lessIt y x = lessB y.k y.i y.o x.k x.i x.o) := rfl
            generalize lessB y.k y.i y.o x.k x.i x.o = L at *
            have hj1 : ((j + 1 : Nat) : Int) - 1 = (j : Int) := by omega
            refine wp_region_free (outsAt [(12, one (.bool L))]) 29 (by kernel_rfl) (by kernel_rfl) (by kernel_rfl) (by decide) (by kernel_rfl) (by kernel_rfl) ?st ?walk
            case st => exact outsAt_stable (by simp only [List.forall_mem_cons]; exact ⟨one_stable _, fun _ h => by cases h⟩)
            case walk =>
              intro K hK
              dsimp only [List.take]
              repeat (first | (refine free_plain ?_ (by rfl) (by rfl) (fun W hW _ => ⟨W, ?_, Ext.refl W⟩) ?_; rotate_left; (first | (go_simp; with_reducible rfl) | (go_simp; done)); try simp only [Act.put, one_f, outB_f, outNew_f, outI_f, List.setIfInBounds_toArray, List.set_cons_zero, List.set_cons_succ]) | (refine free_skip (by rfl) ?_; simp only [Act.put, one_f, outB_f, outNew_f, outI_f, List.setIfInBounds_toArray, List.set_cons_zero, List.set_cons_succ]))
              refine free_plain (.pointer (some ⟨b, off + j * 5, none⟩)) (by rfl) (by rfl) (fun W hW _ => ⟨W, ?_, Ext.refl W⟩) ?_
              · go_simp
                rw [IntWalk.i64_in (j : Int) (by omega), if_pos (by omega)]
                simp
              simp only [Act.put, one_f, outB_f, outNew_f, outI_f, List.setIfInBounds_toArray, List.set_cons_zero, List.set_cons_succ]
              repeat (first | (refine free_plain ?_ (by rfl) (by rfl) (fun W hW _ => ⟨W, ?_, Ext.refl W⟩) ?_; rotate_left; (first | (go_simp; with_reducible rfl) | (go_simp; done)); try simp only [Act.put, one_f, outB_f, outNew_f, outI_f, List.setIfInBounds_toArray, List.set_cons_zero, List.set_cons_succ]) | (refine free_skip (by rfl) ?_; simp only [Act.put, one_f, outB_f, outNew_f, outI_f, List.setIfInBounds_toArray, List.set_cons_zero, List.set_cons_succ]))
              refine free_hard (one (.bool L)) (by rfl) (by rfl) (fun W hW _ => ?_) (fun p => ?_)
              · refine hardAt_call ?_ ((HL.out W).mono fun e w' h => ⟨(), h.1, trivial, h.2⟩)
                go_simp
              cases p
              simp only [Act.put, one_f, outB_f, outNew_f, outI_f, List.setIfInBounds_toArray, List.set_cons_zero, List.set_cons_succ]
              cases L
              · repeat (first | (refine free_plain ?_ (by rfl) (by rfl) (fun W hW _ => ⟨W, ?_, Ext.refl W⟩) ?_; rotate_left; (first | (go_simp; with_reducible rfl) | (go_simp; done)); try simp only [Act.put, one_f, outB_f, outNew_f, outI_f, List.setIfInBounds_toArray, List.set_cons_zero, List.set_cons_succ]) | (refine free_skip (by rfl) ?_; simp only [Act.put, one_f, outB_f, outNew_f, outI_f, List.setIfInBounds_toArray, List.set_cons_zero, List.set_cons_succ]))
                refine free_nil (hK _ _ fun W hW hF => ?_)
                clear hF hK HL
                have b7 : Ext wr W := b4.trans hW
                dsimp only [List.drop]
                go_wp2
                all_goals first
                  | (go_ret
                     exact ⟨by rw [HBAD.out (by rw [HCK.out, hok, HP.out]; simp [HLE.out, *])]; rfl, Ext.trans b2 b7⟩)
                  | (go_roundw
                     case rel => exact ⟨j + 1 + 1, by omega, by go_num, by rw [HSU.out, hck, HCK.out, hok, HP.out]; simp [HLE.out, *], hE.trans b7⟩
                     case measure => simp [intOf]; omega)
              · by_cases hr0 : x.r = 0
                · have hr1 : (x.r == 0) = true := by simpa using hr0
                  have hr2 : decide (x.r = 0) = true := by simpa using hr0
                  repeat (first | (refine free_plain ?_ (by rfl) (by rfl) (fun W hW _ => ⟨W, ?_, Ext.refl W⟩) ?_; rotate_left; (first | (go_simp; with_reducible rfl) | (go_simp; done)); try simp only [Act.put, one_f, outB_f, outNew_f, outI_f, List.setIfInBounds_toArray, List.set_cons_zero, List.set_cons_succ]) | (refine free_skip (by rfl) ?_; simp only [Act.put, one_f, outB_f, outNew_f, outI_f, List.setIfInBounds_toArray, List.set_cons_zero, List.set_cons_succ]))
                  refine free_nil (hK _ _ fun W hW hF => ?_)
                  clear hF hK HL
                  have b7 : Ext wr W := b4.trans hW
                  dsimp only [List.drop]
                  go_wp2
                  all_goals first
                    | (go_ret
                       exact ⟨by rw [HBAD.out (by rw [HCK.out, hok, HP.out]; simp [HLE.out, *])]; rfl, Ext.trans b2 b7⟩)
                    | (go_roundw
                       case rel => exact ⟨j + 1 + 1, by omega, by go_num, by rw [HSU.out, hck, HCK.out, hok, HP.out]; simp [HLE.out, *], hE.trans b7⟩
                       case measure => simp [intOf]; omega)
                · have hr1 : (x.r == 0) = false := by simpa using hr0
                  have hr2 : decide (x.r = 0) = false := by simpa using hr0
                  repeat (first | (refine free_plain ?_ (by rfl) (by rfl) (fun W hW _ => ⟨W, ?_, Ext.refl W⟩) ?_; rotate_left; (first | (go_simp; with_reducible rfl) | (go_simp; done)); try simp only [Act.put, one_f, outB_f, outNew_f, outI_f, List.setIfInBounds_toArray, List.set_cons_zero, List.set_cons_succ]) | (refine free_skip (by rfl) ?_; simp only [Act.put, one_f, outB_f, outNew_f, outI_f, List.setIfInBounds_toArray, List.set_cons_zero, List.set_cons_succ]))
                  refine free_nil (hK _ _ fun W hW hF => ?_)
                  clear hF hK HL
                  have b7 : Ext wr W := b4.trans hW
                  dsimp only [List.drop]
                  go_wp2
                  all_goals first
                    | (go_ret
                       exact ⟨by rw [HBAD.out (by rw [HCK.out, hok, HP.out]; simp [HLE.out, *])]; rfl, Ext.trans b2 b7⟩)
                    | (go_roundw
                       case rel => exact ⟨j + 1 + 1, by omega, by go_num, by rw [HSU.out, hck, HCK.out, hok, HP.out]; simp [HLE.out, *], hE.trans b7⟩
                       case measure => simp [intOf]; omega)
        · have hok' : itB x.r x.val.length = false := by simpa using hok
          have hfin := HBAD.out (HBI.out hok')
          rw [errOf_f hok']
          clear HCK HBAD HBI HSU
          go_wp2
          go_ret
          exact ⟨by rw [hfin]; rfl, Ext.trans b2 b4⟩
      · obtain rfl : k = xs.length := by omega
        go_wp2
        go_ret
        exact ⟨by rw [hck]; rfl, b1.trans hE⟩
  · rw [decide_eq_false hab]
    go_enter Try.func91, Try.ntmps91
    go_wp2
    all_goals simp only [beq_iff_eq, beq_eq_false_iff_ne, ne_eq] at *
    all_goals first | (exfalso; omega) | skip
    generalize hw1 : (World.alloc _ _) = w1
    have b1 : Ext w w1 := by rw [← hw1]; exact Ext.alloc _ _
    have r1 : w1.heap[w.heap.size]? = some (.cells #[.int .i64 lvl, .slice A xs.length c] 107 (0, 0)) := by rw [← hw1]; exact World.alloc_heap_at _ _ _ rfl
    clear hw1
    go_loopw [36] (fun i wr => ∃ k : Nat, k ≤ xs.length ∧ i = .int .i64 (k : Int) ∧ chkAll false xs k = true ∧ Ext w1 wr) (fun i _ => xs.length - (intOf i).toNat)
    case atStart => exact ⟨0, by omega, rfl, rfl, Ext.refl _⟩
    case round =>
      obtain ⟨k, hk, rfl, hck, hE⟩ := hrel
      by_cases hlt : k < xs.length
      · have hlt' := hlt
        obtain ⟨b, off, rfl, hb⟩ := hA (by omega)
        have b2 : Ext w wr := b1.trans hE
        obtain ⟨A', c', c0, c1, c2, c3, c4, hby⟩ := (HX.out.ext b2).item k hlt'
        have HCK := Lib.hid (chkAt_some (above := false) hlt')
        have HBAD := Lib.hid (chkAll_bad (above := false) hlt')
        have HBI := Lib.hid (chkAt_it (above := false) hlt')
        have HSU := Lib.hid (chkAll_succ false xs k)
        generalize hx : xs[k] = x at *
        go_wp2_with fail
        generalize hw3 : (World.alloc _ _) = w3
        have b3 : Ext wr w3 := by rw [← hw3]; exact Ext.alloc _ _
        have r3 : w3.heap[wr.heap.size]? = some (.cells #[.int .u8 x.k, .int .u32 x.i, .int .u32 x.o, .int .i64 x.r, .slice A' x.val.length c'] 155 (0, 0)) := by rw [← hw3]; exact World.alloc_heap_at _ _ _ rfl
        clear hw3
        refine (icheck_any x.k x.i x.o x.r A' x.val.length c' _).mono ?_
        rintro e w4 ⟨rfl, hB⟩
        have b4 : Ext wr w4 := b3.trans hB
        have r4 := row_ext r3 hB
        clear hB r3 b3
        by_cases hok : itB x.r x.val.length = true
        · rw [errOf_t hok]
          go_wp2
          have b5 : Ext w1 w4 := hE.trans b4
          have rn := row_ext r1 b5
          have n1 : ∀ W, Ext w4 W → W.cell? ⟨w.heap.size, 1, none⟩ = some (.slice (some ⟨b, off, none⟩) xs.length c) := fun W h => by rw [cells_row (row_ext rn h)]; rfl
          have i0 : ∀ W, Ext w4 W → W.cell? ⟨wr.heap.size, 0, none⟩ = some (.int .u8 x.k) := fun W h => by rw [cells_row (row_ext r4 h)]; rfl
          have i1 : ∀ W, Ext w4 W → W.cell? ⟨wr.heap.size, 1, none⟩ = some (.int .u32 x.i) := fun W h => by rw [cells_row (row_ext r4 h)]; rfl
          have i2 : ∀ W, Ext w4 W → W.cell? ⟨wr.heap.size, 2, none⟩ = some (.int .u32 x.o) := fun W h => by rw [cells_row (row_ext r4 h)]; rfl
          have i3 : ∀ W, Ext w4 W → W.cell? ⟨wr.heap.size, 3, none⟩ = some (.int .i64 x.r) := fun W h => by rw [cells_row (row_ext r4 h)]; rfl
          have i4 : ∀ W, Ext w4 W → W.cell? ⟨wr.heap.size, 4, none⟩ = some (.slice A' x.val.length c') := fun W h => by rw [cells_row (row_ext r4 h)]; rfl
          rcases k with _ | j
          · refine wp_region_free (outsAt [(12, one (.bool true))]) 29 (by kernel_rfl) (by kernel_rfl) (by kernel_rfl) (by decide) (by kernel_rfl) (by kernel_rfl) ?st ?walk
            case st => exact outsAt_stable (by simp only [List.forall_mem_cons]; exact ⟨one_stable _, fun _ h => by cases h⟩)
            case walk =>
              intro K hK
              dsimp only [List.take]
              by_cases hr0 : x.r = 0
              · have hr1 : (x.r == 0) = true := by simpa using hr0
                have hr2 : decide (x.r = 0) = true := by simpa using hr0
                repeat (first | (refine free_plain ?_ (by rfl) (by rfl) (fun W hW _ => ⟨W, ?_, Ext.refl W⟩) ?_; rotate_left; (first | (go_simp; with_reducible rfl) | (go_simp; done)); try simp only [Act.put, one_f, outB_f, outNew_f, outI_f, List.setIfInBounds_toArray, List.set_cons_zero, List.set_cons_succ]) | (refine free_skip (by rfl) ?_; simp only [Act.put, one_f, outB_f, outNew_f, outI_f, List.setIfInBounds_toArray, List.set_cons_zero, List.set_cons_succ]))
                refine free_nil (hK _ _ fun W hW hF => ?_)
                clear hF hK
                have b7 : Ext wr W := b4.trans hW
                dsimp only [List.drop]
                go_wp2
                all_goals first
                  | (go_ret
                     exact ⟨by rw [HBAD.out (by rw [HCK.out, hok]; simp [*])]; rfl, Ext.trans b2 b7⟩)
                  | (go_roundw
                     case rel => exact ⟨0 + 1, by omega, by go_num, by rw [HSU.out, hck, HCK.out, hok]; simp [*], hE.trans b7⟩
                     case measure => simp [intOf]; omega)
              · have hr1 : (x.r == 0) = false := by simpa using hr0
                have hr2 : decide (x.r = 0) = false := by simpa using hr0
                repeat (first | (refine free_plain ?_ (by rfl) (by rfl) (fun W hW _ => ⟨W, ?_, Ext.refl W⟩) ?_; rotate_left; (first | (go_simp; with_reducible rfl) | (go_simp; done)); try simp only [Act.put, one_f, outB_f, outNew_f, outI_f, List.setIfInBounds_toArray, List.set_cons_zero, List.set_cons_succ]) | (refine free_skip (by rfl) ?_; simp only [Act.put, one_f, outB_f, outNew_f, outI_f, List.setIfInBounds_toArray, List.set_cons_zero, List.set_cons_succ]))
                refine free_nil (hK _ _ fun W hW hF => ?_)
                clear hF hK
                have b7 : Ext wr W := b4.trans hW
                dsimp only [List.drop]
                go_wp2
                all_goals first
                  | (go_ret
                     exact ⟨by rw [HBAD.out (by rw [HCK.out, hok]; simp [*])]; rfl, Ext.trans b2 b7⟩)
                  | (go_roundw
                     case rel => exact ⟨0 + 1, by omega, by go_num, by rw [HSU.out, hck, HCK.out, hok]; simp [*], hE.trans b7⟩
                     case measure => simp [intOf]; omega)
          · have hjl : j < xs.length := by omega
            obtain ⟨A2, c2', d0, d1, d2, d3, d4, _⟩ := (HX.out.ext (b2.trans b4)).item j hjl
            have hprev : xs[j + 1 - 1]? = some xs[j] := by rw [Nat.add_sub_cancel, List.getElem?_eq_getElem hjl]
            have HP := Lib.hid hprev
            clear hprev
            generalize xs[j] = y at *
            have p0 : ∀ W, Ext w4 W → W.cell? ⟨b, off + j * 5, none⟩ = some (.int .u8 y.k) := fun W h => Ext.cell h d0
            have p1 : ∀ W, Ext w4 W → W.cell? ⟨b, off + j * 5 + 1, none⟩ = some (.int .u32 y.i) := fun W h => Ext.cell h d1
            have p2 : ∀ W, Ext w4 W → W.cell? ⟨b, off + j * 5 + 2, none⟩ = some (.int .u32 y.o) := fun W h => Ext.cell h d2
            clear d0 d1 d2 d3 d4
            have HL := Lib.hid (fun W => less_any y.k y.i y.o x.k x.i x.o W)
            have HLE : Hid (lessIt y x = lessB y.k y.i y.o x.k x.i x.o) := rfl
            generalize lessB y.k y.i y.o x.k x.i x.o = L at *
            have hj1 : ((j + 1 : Nat) : Int) - 1 = (j : Int) := by omega
            refine wp_region_free (outsAt [(12, one (.bool L))]) 29 (by kernel_rfl) (by kernel_rfl) (by kernel_rfl) (by decide) (by kernel_rfl) (by kernel_rfl) ?st ?walk
            case st => exact outsAt_stable (by simp only [List.forall_mem_cons]; exact ⟨one_stable _, fun _ h => by cases h⟩)
            case walk =>
              intro K hK
              dsimp only [List.take]
              repeat (first | (refine free_plain ?_ (by rfl) (by rfl) (fun W hW _ => ⟨W, ?_, Ext.refl W⟩) ?_; rotate_left; (first | (go_simp; with_reducible rfl) | (go_simp; done)); try simp only [Act.put, one_f, outB_f, outNew_f, outI_f, List.setIfInBounds_toArray, List.set_cons_zero, List.set_cons_succ]) | (refine free_skip (by rfl) ?_; simp only [Act.put, one_f, outB_f, outNew_f, outI_f, List.setIfInBounds_toArray, List.set_cons_zero, List.set_cons_succ]))
              refine free_plain (.pointer (some ⟨b, off + j * 5, none⟩)) (by rfl) (by rfl) (fun W hW _ => ⟨W, ?_, Ext.refl W⟩) ?_
              · go_simp
                rw [IntWalk.i64_in (j : Int) (by omega), if_pos (by omega)]
                simp
              simp only [Act.put, one_f, outB_f, outNew_f, outI_f, List.setIfInBounds_toArray, List.set_cons_zero, List.set_cons_succ]
              repeat (first | (refine free_plain ?_ (by rfl) (by rfl) (fun W hW _ => ⟨W, ?_, Ext.refl W⟩) ?_; rotate_left; (first | (go_simp; with_reducible rfl) | (go_simp; done)); try simp only [Act.put, one_f, outB_f, outNew_f, outI_f, List.setIfInBounds_toArray, List.set_cons_zero, List.set_cons_succ]) | (refine free_skip (by rfl) ?_; simp only [Act.put, one_f, outB_f, outNew_f, outI_f, List.setIfInBounds_toArray, List.set_cons_zero, List.set_cons_succ]))
              refine free_hard (one (.bool L)) (by rfl) (by rfl) (fun W hW _ => ?_) (fun p => ?_)
              · refine hardAt_call ?_ ((HL.out W).mono fun e w' h => ⟨(), h.1, trivial, h.2⟩)
                go_simp
              cases p
              simp only [Act.put, one_f, outB_f, outNew_f, outI_f, List.setIfInBounds_toArray, List.set_cons_zero, List.set_cons_succ]
              cases L
              · repeat (first | (refine free_plain ?_ (by rfl) (by rfl) (fun W hW _ => ⟨W, ?_, Ext.refl W⟩) ?_; rotate_left; (first | (go_simp; with_reducible rfl) | (go_simp; done)); try simp only [Act.put, one_f, outB_f, outNew_f, outI_f, List.setIfInBounds_toArray, List.set_cons_zero, List.set_cons_succ]) | (refine free_skip (by rfl) ?_; simp only [Act.put, one_f, outB_f, outNew_f, outI_f, List.setIfInBounds_toArray, List.set_cons_zero, List.set_cons_succ]))
                refine free_nil (hK _ _ fun W hW hF => ?_)
                clear hF hK HL
                have b7 : Ext wr W := b4.trans hW
                dsimp only [List.drop]
                go_wp2
                all_goals first
                  | (go_ret
                     exact ⟨by rw [HBAD.out (by rw [HCK.out, hok, HP.out]; simp [HLE.out, *])]; rfl, Ext.trans b2 b7⟩)
                  | (go_roundw
                     case rel => exact ⟨j + 1 + 1, by omega, by go_num, by rw [HSU.out, hck, HCK.out, hok, HP.out]; simp [HLE.out, *], hE.trans b7⟩
                     case measure => simp [intOf]; omega)
              · by_cases hr0 : x.r = 0
                · have hr1 : (x.r == 0) = true := by simpa using hr0
                  have hr2 : decide (x.r = 0) = true := by simpa using hr0
                  repeat (first | (refine free_plain ?_ (by rfl) (by rfl) (fun W hW _ => ⟨W, ?_, Ext.refl W⟩) ?_; rotate_left; (first | (go_simp; with_reducible rfl) | (go_simp; done)); try simp only [Act.put, one_f, outB_f, outNew_f, outI_f, List.setIfInBounds_toArray, List.set_cons_zero, List.set_cons_succ]) | (refine free_skip (by rfl) ?_; simp only [Act.put, one_f, outB_f, outNew_f, outI_f, List.setIfInBounds_toArray, List.set_cons_zero, List.set_cons_succ]))
                  refine free_nil (hK _ _ fun W hW hF => ?_)
                  clear hF hK HL
                  have b7 : Ext wr W := b4.trans hW
                  dsimp only [List.drop]
                  go_wp2
                  all_goals first
                    | (go_ret
                       exact ⟨by rw [HBAD.out (by rw [HCK.out, hok, HP.out]; simp [HLE.out, *])]; rfl, Ext.trans b2 b7⟩)
                    | (go_roundw
                       case rel => exact ⟨j + 1 + 1, by omega, by go_num, by rw [HSU.out, hck, HCK.out, hok, HP.out]; simp [HLE.out, *], hE.trans b7⟩
                       case measure => simp [intOf]; omega)
                · have hr1 : (x.r == 0) = false := by simpa using hr0
                  have hr2 : decide (x.r = 0) = false := by simpa using hr0
                  repeat (first | (refine free_plain ?_ (by rfl) (by rfl) (fun W hW _ => ⟨W, ?_, Ext.refl W⟩) ?_; rotate_left; (first | (go_simp; with_reducible rfl) | (go_simp; done)); try simp only [Act.put, one_f, outB_f, outNew_f, outI_f, List.setIfInBounds_toArray, List.set_cons_zero, List.set_cons_succ]) | (refine free_skip (by rfl) ?_; simp only [Act.put, one_f, outB_f, outNew_f, outI_f, List.setIfInBounds_toArray, List.set_cons_zero, List.set_cons_succ]))
                  refine free_nil (hK _ _ fun W hW hF => ?_)
                  clear hF hK HL
                  have b7 : Ext wr W := b4.trans hW
                  dsimp only [List.drop]
                  go_wp2
                  all_goals first
                    | (go_ret
                       exact ⟨by rw [HBAD.out (by rw [HCK.out, hok, HP.out]; simp [HLE.out, *])]; rfl, Ext.trans b2 b7⟩)
                    | (go_roundw
                       case rel => exact ⟨j + 1 + 1, by omega, by go_num, by rw [HSU.out, hck, HCK.out, hok, HP.out]; simp [HLE.out, *], hE.trans b7⟩
                       case measure => simp [intOf]; omega)
        · have hok' : itB x.r x.val.length = false := by simpa using hok
          have hfin := HBAD.out (HBI.out hok')
          rw [errOf_f hok']
          clear HCK HBAD HBI HSU
          go_wp2
          go_ret
          exact ⟨by rw [hfin]; rfl, Ext.trans b2 b4⟩
      · obtain rfl : k = xs.length := by omega
        go_wp2
        go_ret
        exact ⟨by rw [hck]; rfl, b1.trans hE⟩
end Go.Proofs.Yteikcgjhcniiiaa
