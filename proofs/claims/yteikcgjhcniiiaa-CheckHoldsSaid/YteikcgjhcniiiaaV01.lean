/- scionrylaw31.CheckHolds is true of every pool, every list of blocks and every number, and leaves its arguments as they were; no condition. -/
import Derived.Test.YteikcgjhcniiiaaU23
/- scionrylaw31.CheckHolds: the walk. -/
namespace Go.Proofs.Yteikcgjhcniiiaa
set_option linter.unusedSimpArgs false
set_option linter.unusedVariables false
open Go.RowKit

theorem own_ints {w : World} {lo n : Nat} {v : Value} {l : List Int} (h : w.ownsRow lo 3 1 v n (l.map fun (a : Int) => Value.int .i64 a)) : Ints w w.heap.size v l := by
  have hn : l.length = n := by have := h.1; simpa using this
  obtain ⟨A, c, rfl, h1, h2⟩ := own_slice h
  subst hn
  exact ⟨A, c, rfl, h1, h2, Rd.of_own h⟩
theorem Ints.ext {w W : World} {v : Value} {l : List Int} (h : Ints w w.heap.size v l) (hx : Below w.heap.size w W) : Ints W W.heap.size v l := by
  obtain ⟨A, c, e, q1, q2, q3⟩ := h
  exact ⟨A, c, e, q1, q2, (q3.below hx).more hx.size⟩
theorem counts_not {S : Sto} {refs : Nat → Nat} {held : List Int} (h : countsV S refs held ≠ (true, 0)) : (countsV S refs held).1 = false := by
  unfold countsV at *
  split
  · rfl
  · rename_i h1
    rw [if_neg h1] at h
    split
    · rename_i h2
      rw [if_pos h2] at h
      cases hb : countsB S refs held
      · rfl
      · rw [hb] at h; exact absurd rfl h
    · rfl

set_option maxHeartbeats 4000000 in
set_option maxRecDepth 100000 in
theorem cholds_any (A1 : Option Addr) (c1 : Nat) (A2 : Option Addr) (c2 : Nat) (A3 : Option Addr) (c3 : Nat) (A4 : Option Addr) (c4 : Nat) (gen root next : Int) (A5 : Option Addr) (c5 : Nat) (S : Sto) (dead : List Int) (A6 : Option Addr) (c6 : Nat) (held : List Int) (more : Int) (w : World)
    (h : StoAt w w.heap.size (.slice A1 S.bs.length c1) (.slice A2 S.ws.length c2) (.slice A3 S.now.length c3) (.slice A4 S.last.length c4) S) (hd : Ints w w.heap.size (.slice A5 dead.length c5) dead) (hh : Ints w w.heap.size (.slice A6 held.length c6) held) :
    Calls Try.prog 5 #[.agg (poolCs (.slice A1 S.bs.length c1) (.slice A2 S.ws.length c2) (.slice A3 S.now.length c3) (.slice A4 S.last.length c4) gen root next (.slice A5 dead.length c5)), .slice A6 held.length c6, .int .i64 more] w (Ret (.bool true) w) := by
  have hp : Hid (∀ W, Below w.heap.size w W → StoAt W W.heap.size (.slice A1 S.bs.length c1) (.slice A2 S.ws.length c2) (.slice A3 S.now.length c3) (.slice A4 S.last.length c4) S) := Lib.hid fun W hW => (h.below hW).more hW.size
  have hpd := Lib.hid (fun W (hW : Below w.heap.size w W) => hd.ext hW)
  have hph := Lib.hid (fun W (hW : Below w.heap.size w W) => hh.ext hW)
  have hq' := hp
  clear h hd hh
  go_enter Try.func5, Try.ntmps5
  go_wp2_with fail
  generalize hw1 : (World.alloc _ _) = w1
  have x1 : Ext w w1 := by rw [← hw1]; exact Ext.alloc _ _
  have r1 : w1.heap[w.heap.size]? = some (.cells (poolCs (.slice A1 S.bs.length c1) (.slice A2 S.ws.length c2) (.slice A3 S.now.length c3) (.slice A4 S.last.length c4) gen root next (.slice A5 dead.length c5)) 32 (0, 0)) := by rw [← hw1]; exact World.alloc_heap_at _ _ _ rfl
  clear hw1
  refine (alive_any w1).mono ?_
  rintro e w2 ⟨rfl, hB⟩
  have x2 : Ext w w2 := x1.trans hB
  have r2 := row_ext r1 hB
  have k2 := cells_row r2
  clear hB r1 x1
  go_wp2_with fail
  refine (great14_any _ _ _ _ _ _ _ _ _ _ _ _ _ _ _ _ _ _ S w2 (hp.out w2 x2)).mono ?_
  rintro e w3 ⟨rfl, hB⟩
  have x3 : Ext w w3 := x2.trans hB
  have r3 := row_ext r2 hB
  have k3 := cells_row r3
  clear hB r2 x2 k2
  cases hgr : greatP S dead.length
  case true =>
    go_wp2
    go_ret
    exact ⟨rfl, x3⟩
  case false =>
    clear hgr
    by_cases hh2 : 1000 < held.length
    · have d2 : decide ((held.length : Int) > 1000) = true := decide_eq_true (by omega)
      go_wp2
      go_ret
      exact ⟨rfl, x3⟩
    · have d2 : decide ((held.length : Int) > 1000) = false := decide_eq_false (by omega)
      go_wp2_with fail
      refine (counts_any _ _ _ _ _ _ _ _ _ _ _ _ gen root next _ _ S dead _ _ held w3 (hp.out w3 x3) (hpd.out w3 x3) (hph.out w3 x3)).mono ?_
      intro e w4 hC
      have xB : Ext w3 w4 := hC.1
      have x4 : Ext w w4 := x3.trans xB
      have r4 := row_ext r3 xB
      have k4 := cells_row r4
      clear xB r3 k3 x3
      rcases hC.2 with ⟨rfl, _⟩ | ⟨vs, refs, nodes, hP, hCn, hE, rfl⟩
      · clear hC
        go_wp2
        go_ret
        exact ⟨rfl, x4⟩
      · clear hC
        by_cases hok : countsV S refs held = (true, 0)
        · have hle : held.length ≤ 1000 := by omega
          have hKn := Lib.hid (fun (l : List Int) (W W' : World) (e : Ending) (hq : CountsQ S root next dead l W e W') => hq.known hP hCn hE)
          rw [hok]
          clear hP hCn hE
          obtain ⟨nm, hnm, hm⟩ : ∃ nm : Int, (nm = 0 ∨ nm = 2) ∧ countsV S refs (held ++ [more]) = (false, nm) := by
            rcases counts_more hok hle more with h | h
            · exact ⟨0, .inl rfl, h⟩
            · exact ⟨2, .inr rfl, h⟩
          replace hm := Lib.hid hm
          replace hnm := Lib.hid hnm
          replace hok := Lib.hid hok
          obtain ⟨xs, hxs⟩ : ∃ xs, xs = held.map fun (a : Int) => Value.int .i64 a := ⟨_, rfl⟩
          have hR : Hid (∀ W, Below w.heap.size w W → Rd W W.heap.size 1 A6 held.length xs) := Lib.hid fun W hW => by
            obtain ⟨A, c, e, _, _, q⟩ := hph.out W hW
            simp only [Value.slice.injEq, true_and] at e
            obtain ⟨rfl, rfl⟩ := e
            rw [hxs]
            exact q
          have hx1 : ∀ u ∈ xs, u.oneCell' = true := fun u hu => by
            rw [hxs] at hu
            obtain ⟨a, _, rfl⟩ := List.mem_map.1 hu
            rfl
          replace hx1 := Lib.hid hx1
          replace hxs := Lib.hid hxs
          obtain ⟨i0, hi, hz0, hz1, hz2⟩ := info_parts Try.info_int
          have zz : w.heap.size < w4.heap.size := (Array.getElem?_eq_some_iff.1 r4).1
          obtain ⟨RR, hRR⟩ : ∃ RR : Rel, RR = apI w4.heap.size 3 held.length xs (.int .i64 more) := ⟨_, rfl⟩
          have g1 : ∀ W, RR.r w4 W → ∀ i, W.cell? ⟨w.heap.size, i, none⟩ = (poolCs (.slice A1 S.bs.length c1) (.slice A2 S.ws.length c2) (.slice A3 S.now.length c3) (.slice A4 S.last.length c4) gen root next (.slice A5 dead.length c5))[i]? := fun W h => cells_row (apI_row (hRR ▸ h) zz r4)
          replace hRR := Lib.hid hRR
          go_wp2_with fail
          refine region_start (by kernel_rfl) ?_
          refine any_freeT (w := w4) RR (outsAt [(2, outOwnR w4.heap.size 3 held.length xs), (4, outLit w4.heap.size 1 3 #[.int .i64 more]), (5, outOwnR w4.heap.size 3 (held.length + 1) (xs ++ [.int .i64 more])), (6, one (.tuple #[.bool false, .int .i64 nm]))])
            [true, true, true, true, true, true, true, true, true, true, true, true] 0 (by kernel_rfl) (by kernel_rfl) (by kernel_rfl) (by kernel_rfl) (by kernel_rfl) (by kernel_rfl) (by kernel_rfl) ?st (Rel.drew _ _) ?walk
          case st => rw [hRR.out]; exact outsAt_stableG (by simp only [List.forall_mem_cons]; exact ⟨outOwnR_stable1 _ _ _ _ _, outLit_stableI _ _ _ _ _ _, outOwnR_stable2 _ _ _ _ _, one_stableG _, fun _ h => by cases h⟩)
          case walk =>
            intro K hK
            dsimp only [maskOps]
            repeat (first | (refine free_plainM ?_ (by rfl) (by rfl) (fun W hW _ => ⟨W, ?_, Rel.refl _ W⟩) ?_; rotate_left; (first | (go_simp; with_reducible rfl) | (go_simp; done)); try simp only [Act.put, one_f, outB_f, outNew_f, outI_f, outOwnR_f, outLit_f, List.setIfInBounds_toArray, List.set_cons_zero, List.set_cons_succ]) | (refine free_skipM (by rfl) ?_; simp only [Act.put, one_f, outB_f, outNew_f, outI_f, outOwnR_f, outLit_f, List.setIfInBounds_toArray, List.set_cons_zero, List.set_cons_succ]))
            refine free_hardM (outOwnR w4.heap.size 3 held.length xs) (by rfl) (by rfl) (fun W hW _ => ?_) (fun p => ?_)
            · rw [hRR.out] at hW ⊢
              have hxW : Below w.heap.size w W := Below.trans x4 (Below.mono (apI_below hW (Nat.le_refl _)) x4.size)
              obtain ⟨v', w', hrun, hown, hg, hB, _⟩ := run_append_rd (P := Try.prog) W W.heap.size 30 30 3 i0 (.int .i64 0) 1 8 Try.underlying30 hi hz0 hz1 hz2 rfl (by decide) (.slice none 0 0) 0 [] (World.ownsRow_nil _ _ _ _) W.heap.size A6 held.length c6 xs (hR.out W hxW) hx1.out (by omega) (by decide) (Nat.le_refl _)
              simp only [Nat.zero_add, List.nil_append] at hown
              obtain ⟨A', c', rfl, _, _⟩ := own_slice hown
              refine hardAt_valueG (u := .slice A' held.length c') (w' := w') ?_ ⟨(A', c'), rfl, own_mono hown hW.1.2.2.2.1, apI_ext hB⟩
              exact exec_append (s := .const (.slice none 0 0)) (x := .tmp 46) rfl rfl rfl hrun
            obtain ⟨A7, c7⟩ := p
            simp only [Act.put, one_f, outB_f, outNew_f, outI_f, outOwnR_f, outLit_f, List.setIfInBounds_toArray, List.set_cons_zero, List.set_cons_succ]
            repeat (first | (refine free_plainM ?_ (by rfl) (by rfl) (fun W hW _ => ⟨W, ?_, Rel.refl _ W⟩) ?_; rotate_left; (first | (go_simp; with_reducible rfl) | (go_simp; done)); try simp only [Act.put, one_f, outB_f, outNew_f, outI_f, outOwnR_f, outLit_f, List.setIfInBounds_toArray, List.set_cons_zero, List.set_cons_succ]) | (refine free_skipM (by rfl) ?_; simp only [Act.put, one_f, outB_f, outNew_f, outI_f, outOwnR_f, outLit_f, List.setIfInBounds_toArray, List.set_cons_zero, List.set_cons_succ]))
            refine free_hardM (outLit w4.heap.size 1 3 #[.int .i64 more]) (by rfl) (by rfl) (fun W hW _ => ?_) (fun (q : Nat) => ?_)
            · rw [hRR.out] at hW ⊢
              refine hardAt_valueG (u := .slice (some ⟨W.heap.size, 0, none⟩) 1 1) (w' := W.alloc (.cells #[.int .i64 more] 3)) ?_ ⟨W.heap.size, rfl, ⟨World.alloc_heap_at _ _ _ rfl, hW.1.2.2.2.1⟩, apI_ext (Ext.alloc _ _)⟩
              go_simp
            simp only [Act.put, one_f, outB_f, outNew_f, outI_f, outOwnR_f, outLit_f, List.setIfInBounds_toArray, List.set_cons_zero, List.set_cons_succ]
            repeat (first | (refine free_plainM ?_ (by rfl) (by rfl) (fun W hW _ => ⟨W, ?_, Rel.refl _ W⟩) ?_; rotate_left; (first | (go_simp; with_reducible rfl) | (go_simp; done)); try simp only [Act.put, one_f, outB_f, outNew_f, outI_f, outOwnR_f, outLit_f, List.setIfInBounds_toArray, List.set_cons_zero, List.set_cons_succ]) | (refine free_skipM (by rfl) ?_; simp only [Act.put, one_f, outB_f, outNew_f, outI_f, outOwnR_f, outLit_f, List.setIfInBounds_toArray, List.set_cons_zero, List.set_cons_succ]))
            refine free_hardM (outOwnR w4.heap.size 3 (held.length + 1) (xs ++ [.int .i64 more])) (by rfl) (by rfl) (fun W hW hp => ?_) (fun p => ?_)
            · rw [hRR.out] at hW ⊢
              have f2 : W.ownsRow w4.heap.size 3 1 (.slice A7 held.length c7) held.length xs := (hp 2 (by decide)).1
              have f4 : W.heap[q]? = some (.cells #[.int .i64 more] 3 (0, 0)) ∧ w4.heap.size ≤ q := (hp 4 (by decide)).1
              obtain ⟨v', w', hrun, hown, hr'⟩ := run_append_apI (P := Try.prog) W 30 30 i0 (.int .i64 0) 8 Try.underlying30 hi hz0 hz1 hz2 rfl f2 q f4.1 rfl (by omega) (by decide) hW.1.2.2.2.1
              obtain ⟨A', c', rfl, _, _⟩ := own_slice hown
              refine hardAt_valueG (u := .slice A' (held.length + 1) c') (w' := w') ?_ ⟨(A', c'), rfl, hown, hr'⟩
              exact exec_append (s := .tmp 47) (x := .tmp 49) rfl rfl rfl hrun
            obtain ⟨A8, c8⟩ := p
            simp only [Act.put, one_f, outB_f, outNew_f, outI_f, outOwnR_f, outLit_f, List.setIfInBounds_toArray, List.set_cons_zero, List.set_cons_succ]
            repeat (first | (refine free_plainM ?_ (by rfl) (by rfl) (fun W hW _ => ⟨W, ?_, Rel.refl _ W⟩) ?_; rotate_left; (first | (go_simp; with_reducible rfl) | (go_simp; done)); try simp only [Act.put, one_f, outB_f, outNew_f, outI_f, outOwnR_f, outLit_f, List.setIfInBounds_toArray, List.set_cons_zero, List.set_cons_succ]) | (refine free_skipM (by rfl) ?_; simp only [Act.put, one_f, outB_f, outNew_f, outI_f, outOwnR_f, outLit_f, List.setIfInBounds_toArray, List.set_cons_zero, List.set_cons_succ]))
            refine free_hardM (one (.tuple #[.bool false, .int .i64 nm])) (by rfl) (by rfl) (fun W hW hp => ?_) (fun (p : Unit) => ?_)
            · rw [hRR.out] at hW ⊢
              have f5 : W.ownsRow w4.heap.size 3 1 (.slice A8 (held.length + 1) c8) (held.length + 1) (xs ++ [.int .i64 more]) := (hp 5 (by decide)).1
              have hxW : Below w.heap.size w W := Below.trans x4 (Below.mono (apI_below hW (Nat.le_refl _)) x4.size)
              have hI : Ints W W.heap.size (.slice A8 (held ++ [more]).length c8) (held ++ [more]) := by
                rw [List.length_append, List.length_singleton]
                refine own_ints (lo := w4.heap.size) (n := held.length + 1) ?_
                rw [List.map_append, ← hxs.out]
                exact f5
              have HC := counts_any _ _ _ _ _ _ _ _ _ _ _ _ gen root next _ _ S dead A8 c8 (held ++ [more]) W (hq'.out W hxW) (hpd.out W hxW) hI
              rw [List.length_append, List.length_singleton] at HC
              refine hardAt_callG ?_ (HC.mono fun e w' hC => ?_)
              · go_simp
              exact ⟨(), by have := hKn.out _ _ _ _ hC; rw [hm.out] at this; exact this, trivial, apI_ext hC.1⟩
            simp only [Act.put, one_f, outB_f, outNew_f, outI_f, outOwnR_f, outLit_f, List.setIfInBounds_toArray, List.set_cons_zero, List.set_cons_succ]
            repeat (first | (refine free_plainM ?_ (by rfl) (by rfl) (fun W hW _ => ⟨W, ?_, Rel.refl _ W⟩) ?_; rotate_left; (first | (go_simp; with_reducible rfl) | (go_simp; done)); try simp only [Act.put, one_f, outB_f, outNew_f, outI_f, outOwnR_f, outLit_f, List.setIfInBounds_toArray, List.set_cons_zero, List.set_cons_succ]) | (refine free_skipM (by rfl) ?_; simp only [Act.put, one_f, outB_f, outNew_f, outI_f, outOwnR_f, outLit_f, List.setIfInBounds_toArray, List.set_cons_zero, List.set_cons_succ]))
            refine free_nilM (hK _ _ fun W hW hF => ?_)
            clear hF hK g1
            rw [hRR.out] at hW
            have x5 : Below w.heap.size w W := Below.trans x4 (Below.mono (apI_below hW (Nat.le_refl _)) x4.size)
            have r5 := apI_row hW zz r4
            clear hW r4 x4 hm hRR
            have k5 := cells_row r5
            generalize W = w5 at *
            have HE : Hid (∀ (a : Int) (r : List Int), held = a :: r → countsV S refs r = (false, 0) ∧ countsV S refs (r ++ [a]) = (true, 0)) := Lib.hid fun a r e => by
              have h1 := hok.out
              rw [e] at h1
              exact ⟨counts_less h1, counts_turned h1⟩
            dsimp only [List.drop, List.length_cons, List.length_nil]
            rcases hnm.out with rfl | rfl
            all_goals
              go_wp2
              refine QN_in ?_
              by_cases h0 : held.length = 0
              · have d0 : ((held.length : Int) == 0) = true := by rw [h0]; rfl
                go_wp2
                go_ret
                exact ⟨rfl, x5⟩
              · have d0 : ((held.length : Int) == 0) = false := by rw [beq_eq_false_iff_ne]; omega
                obtain ⟨a, r, hcons⟩ : ∃ a r, held = a :: r := by
                  rcases held with _ | ⟨a, r⟩
                  · exact absurd rfl h0
                  · exact ⟨a, r, rfl⟩
                obtain ⟨e1, e2⟩ := HE.out a r hcons
                obtain ⟨b6, o6, rfl, hb6, hc6⟩ := (hR.out w5 x5).2 (by omega)
                have hcap : held.length ≤ c6 := by
                  obtain ⟨A, c, e, q1, _⟩ := hph.out w5 x5
                  simp only [Value.slice.injEq, true_and] at e
                  rw [e.2]
                  exact q1
                have hcm : Hid (c6 ≤ maxLen) := Lib.hid (by
                  obtain ⟨A, c, e, _, q1, _⟩ := hph.out w5 x5
                  simp only [Value.slice.injEq, true_and] at e
                  rw [e.2]
                  exact q1)
                obtain ⟨Y, hY⟩ : ∃ Y : Option Addr, Y = (if c6 = 1 then some ⟨b6, o6, none⟩ else some ⟨b6, o6 + 1, none⟩) := ⟨_, rfl⟩
                obtain ⟨ys, hys⟩ : ∃ ys, ys = r.map fun (a : Int) => Value.int .i64 a := ⟨_, rfl⟩
                have hR2 : Hid (∀ W, Below w.heap.size w W → Rd W W.heap.size 1 Y (held.length - 1) ys) := Lib.hid fun W hW => by
                  have := (hR.out W hW).cut (k := 1) (cap := c6) (by omega) hcap
                  rw [hY, hys]
                  rw [hxs.out, hcons] at this
                  rw [hcons]
                  simpa [Addr.add] using this
                have hx2 : Hid (∀ u ∈ ys, u.oneCell' = true) := Lib.hid fun u hu => hx1.out u (by rw [hxs.out, hcons, List.map_cons, ← hys]; exact List.mem_cons_of_mem _ hu)
                have hc0 : Hid (∀ W, Below w.heap.size w W → W.cell? ⟨b6, o6, none⟩ = some (.int .i64 a)) := Lib.hid fun W hW => by
                  obtain ⟨b', o', e, _, q⟩ := (hR.out W hW).2 (by omega)
                  cases e
                  exact q 0 _ (by rw [hxs.out, hcons]; rfl)
                have hlr : held.length = r.length + 1 := by rw [hcons]; rfl
                have hys2 : Hid (ys = r.map fun (a : Int) => Value.int .i64 a) := Lib.hid hys
                replace e1 := Lib.hid e1
                replace e2 := Lib.hid e2
                replace hY := Lib.hid hY
                replace hlr := Lib.hid hlr
                clear hcons hys hc6
                have g1 : ∀ W, extRel.r w5 W → ∀ i, W.cell? ⟨w.heap.size, i, none⟩ = (poolCs (.slice A1 S.bs.length c1) (.slice A2 S.ws.length c2) (.slice A3 S.now.length c3) (.slice A4 S.last.length c4) gen root next (.slice A5 dead.length c5))[i]? := fun W h => cells_row (row_ext r5 h)
                go_wp2_with fail
                refine region_start (by kernel_rfl) ?_
                refine any_freeT (w := w5) extRel (outsAt [(3, one (.tuple #[.bool false, .int .i64 0]))]) [true, true, true, true, true, true, true, true, true] 0 (by kernel_rfl) (by kernel_rfl) (by kernel_rfl) (by kernel_rfl) (by kernel_rfl) (by kernel_rfl) (by kernel_rfl) ?st (Rel.drew _ _) ?walk
                case st => exact outsAt_stableG (by simp only [List.forall_mem_cons]; exact ⟨one_stableG _, fun _ h => by cases h⟩)
                case walk =>
                  intro K hK
                  dsimp only [maskOps]
                  repeat (first | (refine free_plainM ?_ (by rfl) (by rfl) (fun W hW _ => ⟨W, ?_, Rel.refl _ W⟩) ?_; rotate_left; (first | (go_simp; with_reducible rfl) | (go_simp; done)); try simp only [Act.put, one_f, outB_f, outNew_f, outI_f, outOwnR_f, outLit_f, List.setIfInBounds_toArray, List.set_cons_zero, List.set_cons_succ]) | (refine free_skipM (by rfl) ?_; simp only [Act.put, one_f, outB_f, outNew_f, outI_f, outOwnR_f, outLit_f, List.setIfInBounds_toArray, List.set_cons_zero, List.set_cons_succ]))
                  refine free_plainM (.slice Y (held.length - 1) (c6 - 1)) (by rfl) (by rfl) (fun W hW _ => ⟨W, ?_, Rel.refl _ W⟩) ?_
                  · go_simp
                    rw [if_pos (by omega), ← hY.out]
                  simp only [Act.put, one_f, outB_f, outNew_f, outI_f, outOwnR_f, outLit_f, List.setIfInBounds_toArray, List.set_cons_zero, List.set_cons_succ]
                  refine free_hardM (one (.tuple #[.bool false, .int .i64 0])) (by rfl) (by rfl) (fun W hW hp => ?_) (fun (p : Unit) => ?_)
                  · have hW : Ext w5 W := hW
                    have hxW : Below w.heap.size w W := Below.trans x5 (Below.mono hW x5.size)
                    have hI : Ints W W.heap.size (.slice Y r.length (c6 - 1)) r := by
                      have h2 := hR2.out W hxW
                      rw [hys2.out, hlr.out, Nat.add_sub_cancel] at h2
                      exact ⟨Y, c6 - 1, rfl, by have := hlr.out; omega, by have := hcm.out; omega, h2⟩
                    have HC := counts_any _ _ _ _ _ _ _ _ _ _ _ _ gen root next _ _ S dead Y (c6 - 1) r W (hq'.out W hxW) (hpd.out W hxW) hI
                    rw [show r.length = held.length - 1 by have := hlr.out; omega] at HC
                    refine hardAt_callG ?_ (HC.mono fun e w' hC => ?_)
                    · go_simp
                    exact ⟨(), by have := hKn.out _ _ _ _ hC; rw [e1.out] at this; exact this, trivial, hC.1⟩
                  simp only [Act.put, one_f, outB_f, outNew_f, outI_f, outOwnR_f, outLit_f, List.setIfInBounds_toArray, List.set_cons_zero, List.set_cons_succ]
                  repeat (first | (refine free_plainM ?_ (by rfl) (by rfl) (fun W hW _ => ⟨W, ?_, Rel.refl _ W⟩) ?_; rotate_left; (first | (go_simp; with_reducible rfl) | (go_simp; done)); try simp only [Act.put, one_f, outB_f, outNew_f, outI_f, outOwnR_f, outLit_f, List.setIfInBounds_toArray, List.set_cons_zero, List.set_cons_succ]) | (refine free_skipM (by rfl) ?_; simp only [Act.put, one_f, outB_f, outNew_f, outI_f, outOwnR_f, outLit_f, List.setIfInBounds_toArray, List.set_cons_zero, List.set_cons_succ]))
                  refine free_nilM (hK _ _ fun W hW hF => ?_)
                  have hW : Ext w5 W := hW
                  have x6 : Below w.heap.size w W := Below.trans x5 (Below.mono hW x5.size)
                  have r6 := row_ext r5 hW
                  have z56 := hW.size
                  clear hF hK g1 hW r5 x5 k5
                  generalize W = w6 at *
                  dsimp only [List.drop, List.length_cons, List.length_nil]
                  have zz6 : w.heap.size < w6.heap.size := (Array.getElem?_eq_some_iff.1 r6).1
                  have zs6 := x6.size
                  obtain ⟨RR, hRR⟩ : ∃ RR : Rel, RR = apI w6.heap.size 3 (held.length - 1) ys (.int .i64 a) := ⟨_, rfl⟩
                  have g1 : ∀ W, RR.r w6 W → ∀ i, W.cell? ⟨w.heap.size, i, none⟩ = (poolCs (.slice A1 S.bs.length c1) (.slice A2 S.ws.length c2) (.slice A3 S.now.length c3) (.slice A4 S.last.length c4) gen root next (.slice A5 dead.length c5))[i]? := fun W h => cells_row (apI_row (hRR ▸ h) zz6 r6)
                  have g2 : ∀ W, RR.r w6 W → W.cell? ⟨b6, o6, none⟩ = some (.int .i64 a) := fun W h => apI_cell (hRR ▸ h) (by show b6 < _; omega) (hc0.out w6 x6)
                  replace hRR := Lib.hid hRR
                  have hpos : (0 : Int) < (held.length : Int) := by omega
                  go_wp2
                  refine QN_in ?_
                  go_wp2_with fail
                  refine region_start (by kernel_rfl) ?_
                  refine any_freeT (w := w6) RR (outsAt [(3, outOwnR w6.heap.size 3 (held.length - 1) ys), (7, outLit w6.heap.size 1 3 #[.int .i64 a]), (8, outOwnR w6.heap.size 3 (held.length - 1 + 1) (ys ++ [.int .i64 a])), (9, one (.tuple #[.bool true, .int .i64 0]))])
                    [true, true, true, true, true, true, true, true, true, true, true, true, true, true, true] 0 (by kernel_rfl) (by kernel_rfl) (by kernel_rfl) (by kernel_rfl) (by kernel_rfl) (by kernel_rfl) (by kernel_rfl) ?st (Rel.drew _ _) ?walk
                  case st => rw [hRR.out]; exact outsAt_stableG (by simp only [List.forall_mem_cons]; exact ⟨outOwnR_stable1 _ _ _ _ _, outLit_stableI _ _ _ _ _ _, outOwnR_stable2 _ _ _ _ _, one_stableG _, fun _ h => by cases h⟩)
                  case walk =>
                    intro K hK
                    dsimp only [maskOps]
                    repeat (first | (refine free_plainM ?_ (by rfl) (by rfl) (fun W hW _ => ⟨W, ?_, Rel.refl _ W⟩) ?_; rotate_left; (first | (go_simp; with_reducible rfl) | (go_simp; done)); try simp only [Act.put, one_f, outB_f, outNew_f, outI_f, outOwnR_f, outLit_f, List.setIfInBounds_toArray, List.set_cons_zero, List.set_cons_succ]) | (refine free_skipM (by rfl) ?_; simp only [Act.put, one_f, outB_f, outNew_f, outI_f, outOwnR_f, outLit_f, List.setIfInBounds_toArray, List.set_cons_zero, List.set_cons_succ]))
                    refine free_plainM (.slice Y (held.length - 1) (c6 - 1)) (by rfl) (by rfl) (fun W hW _ => ⟨W, ?_, Rel.refl _ W⟩) ?_
                    · go_simp
                      rw [if_pos (by omega), ← hY.out]
                    simp only [Act.put, one_f, outB_f, outNew_f, outI_f, outOwnR_f, outLit_f, List.setIfInBounds_toArray, List.set_cons_zero, List.set_cons_succ]
                    refine free_hardM (outOwnR w6.heap.size 3 (held.length - 1) ys) (by rfl) (by rfl) (fun W hW _ => ?_) (fun p => ?_)
                    · rw [hRR.out] at hW ⊢
                      have hxW : Below w.heap.size w W := Below.trans x6 (Below.mono (apI_below hW (Nat.le_refl _)) x6.size)
                      obtain ⟨v', w', hrun, hown, hg, hB, _⟩ := run_append_rd (P := Try.prog) W W.heap.size 30 30 3 i0 (.int .i64 0) 1 8 Try.underlying30 hi hz0 hz1 hz2 rfl (by decide) (.slice none 0 0) 0 [] (World.ownsRow_nil _ _ _ _) W.heap.size Y (held.length - 1) (c6 - 1) ys (hR2.out W hxW) hx2.out (by omega) (by decide) (Nat.le_refl _)
                      simp only [Nat.zero_add, List.nil_append] at hown
                      obtain ⟨A', c', rfl, _, _⟩ := own_slice hown
                      refine hardAt_valueG (u := .slice A' (held.length - 1) c') (w' := w') ?_ ⟨(A', c'), rfl, own_mono hown hW.1.2.2.2.1, apI_ext hB⟩
                      exact exec_append (s := .const (.slice none 0 0)) (x := .tmp 77) rfl rfl rfl hrun
                    obtain ⟨A7, c7⟩ := p
                    simp only [Act.put, one_f, outB_f, outNew_f, outI_f, outOwnR_f, outLit_f, List.setIfInBounds_toArray, List.set_cons_zero, List.set_cons_succ]
                    repeat (first | (refine free_plainM ?_ (by rfl) (by rfl) (fun W hW _ => ⟨W, ?_, Rel.refl _ W⟩) ?_; rotate_left; (first | (go_simp; with_reducible rfl) | (go_simp; done)); try simp only [Act.put, one_f, outB_f, outNew_f, outI_f, outOwnR_f, outLit_f, List.setIfInBounds_toArray, List.set_cons_zero, List.set_cons_succ]) | (refine free_skipM (by rfl) ?_; simp only [Act.put, one_f, outB_f, outNew_f, outI_f, outOwnR_f, outLit_f, List.setIfInBounds_toArray, List.set_cons_zero, List.set_cons_succ]))
                    refine free_plainM (.pointer (some ⟨b6, o6, none⟩)) (by rfl) (by rfl) (fun W hW _ => ⟨W, ?_, Rel.refl _ W⟩) ?_
                    · go_simp
                    simp only [Act.put, one_f, outB_f, outNew_f, outI_f, outOwnR_f, outLit_f, List.setIfInBounds_toArray, List.set_cons_zero, List.set_cons_succ]
                    repeat (first | (refine free_plainM ?_ (by rfl) (by rfl) (fun W hW _ => ⟨W, ?_, Rel.refl _ W⟩) ?_; rotate_left; (first | (go_simp; with_reducible rfl) | (go_simp; done)); try simp only [Act.put, one_f, outB_f, outNew_f, outI_f, outOwnR_f, outLit_f, List.setIfInBounds_toArray, List.set_cons_zero, List.set_cons_succ]) | (refine free_skipM (by rfl) ?_; simp only [Act.put, one_f, outB_f, outNew_f, outI_f, outOwnR_f, outLit_f, List.setIfInBounds_toArray, List.set_cons_zero, List.set_cons_succ]))
                    refine free_hardM (outLit w6.heap.size 1 3 #[.int .i64 a]) (by rfl) (by rfl) (fun W hW _ => ?_) (fun (q : Nat) => ?_)
                    · rw [hRR.out] at hW ⊢
                      refine hardAt_valueG (u := .slice (some ⟨W.heap.size, 0, none⟩) 1 1) (w' := W.alloc (.cells #[.int .i64 a] 3)) ?_ ⟨W.heap.size, rfl, ⟨World.alloc_heap_at _ _ _ rfl, hW.1.2.2.2.1⟩, apI_ext (Ext.alloc _ _)⟩
                      go_simp
                    simp only [Act.put, one_f, outB_f, outNew_f, outI_f, outOwnR_f, outLit_f, List.setIfInBounds_toArray, List.set_cons_zero, List.set_cons_succ]
                    repeat (first | (refine free_plainM ?_ (by rfl) (by rfl) (fun W hW _ => ⟨W, ?_, Rel.refl _ W⟩) ?_; rotate_left; (first | (go_simp; with_reducible rfl) | (go_simp; done)); try simp only [Act.put, one_f, outB_f, outNew_f, outI_f, outOwnR_f, outLit_f, List.setIfInBounds_toArray, List.set_cons_zero, List.set_cons_succ]) | (refine free_skipM (by rfl) ?_; simp only [Act.put, one_f, outB_f, outNew_f, outI_f, outOwnR_f, outLit_f, List.setIfInBounds_toArray, List.set_cons_zero, List.set_cons_succ]))
                    refine free_hardM (outOwnR w6.heap.size 3 (held.length - 1 + 1) (ys ++ [.int .i64 a])) (by rfl) (by rfl) (fun W hW hp => ?_) (fun p => ?_)
                    · rw [hRR.out] at hW ⊢
                      have f2 : W.ownsRow w6.heap.size 3 1 (.slice A7 (held.length - 1) c7) (held.length - 1) ys := (hp 3 (by decide)).1
                      have f4 : W.heap[q]? = some (.cells #[.int .i64 a] 3 (0, 0)) ∧ w6.heap.size ≤ q := (hp 7 (by decide)).1
                      obtain ⟨v', w', hrun, hown, hr'⟩ := run_append_apI (P := Try.prog) W 30 30 i0 (.int .i64 0) 8 Try.underlying30 hi hz0 hz1 hz2 rfl f2 q f4.1 rfl (by omega) (by decide) hW.1.2.2.2.1
                      obtain ⟨A', c', rfl, _, _⟩ := own_slice hown
                      refine hardAt_valueG (u := .slice A' (held.length - 1 + 1) c') (w' := w') ?_ ⟨(A', c'), rfl, hown, hr'⟩
                      exact exec_append (s := .tmp 78) (x := .tmp 82) rfl rfl rfl hrun
                    obtain ⟨A8, c8⟩ := p
                    simp only [Act.put, one_f, outB_f, outNew_f, outI_f, outOwnR_f, outLit_f, List.setIfInBounds_toArray, List.set_cons_zero, List.set_cons_succ]
                    repeat (first | (refine free_plainM ?_ (by rfl) (by rfl) (fun W hW _ => ⟨W, ?_, Rel.refl _ W⟩) ?_; rotate_left; (first | (go_simp; with_reducible rfl) | (go_simp; done)); try simp only [Act.put, one_f, outB_f, outNew_f, outI_f, outOwnR_f, outLit_f, List.setIfInBounds_toArray, List.set_cons_zero, List.set_cons_succ]) | (refine free_skipM (by rfl) ?_; simp only [Act.put, one_f, outB_f, outNew_f, outI_f, outOwnR_f, outLit_f, List.setIfInBounds_toArray, List.set_cons_zero, List.set_cons_succ]))
                    refine free_hardM (one (.tuple #[.bool true, .int .i64 0])) (by rfl) (by rfl) (fun W hW hp => ?_) (fun (p : Unit) => ?_)
                    · rw [hRR.out] at hW ⊢
                      have f5 : W.ownsRow w6.heap.size 3 1 (.slice A8 (held.length - 1 + 1) c8) (held.length - 1 + 1) (ys ++ [.int .i64 a]) := (hp 8 (by decide)).1
                      have hxW : Below w.heap.size w W := Below.trans x6 (Below.mono (apI_below hW (Nat.le_refl _)) x6.size)
                      have hl2 : (r ++ [a]).length = held.length - 1 + 1 := by have := hlr.out; simp; omega
                      have hI : Ints W W.heap.size (.slice A8 (r ++ [a]).length c8) (r ++ [a]) := by
                        rw [hl2]
                        refine own_ints (lo := w6.heap.size) (n := held.length - 1 + 1) ?_
                        rw [List.map_append, ← hys2.out]
                        exact f5
                      have HC := counts_any _ _ _ _ _ _ _ _ _ _ _ _ gen root next _ _ S dead A8 c8 (r ++ [a]) W (hq'.out W hxW) (hpd.out W hxW) hI
                      rw [hl2] at HC
                      refine hardAt_callG ?_ (HC.mono fun e w' hC => ?_)
                      · go_simp
                      exact ⟨(), by have := hKn.out _ _ _ _ hC; rw [e2.out] at this; exact this, trivial, apI_ext hC.1⟩
                    simp only [Act.put, one_f, outB_f, outNew_f, outI_f, outOwnR_f, outLit_f, List.setIfInBounds_toArray, List.set_cons_zero, List.set_cons_succ]
                    repeat (first | (refine free_plainM ?_ (by rfl) (by rfl) (fun W hW _ => ⟨W, ?_, Rel.refl _ W⟩) ?_; rotate_left; (first | (go_simp; with_reducible rfl) | (go_simp; done)); try simp only [Act.put, one_f, outB_f, outNew_f, outI_f, outOwnR_f, outLit_f, List.setIfInBounds_toArray, List.set_cons_zero, List.set_cons_succ]) | (refine free_skipM (by rfl) ?_; simp only [Act.put, one_f, outB_f, outNew_f, outI_f, outOwnR_f, outLit_f, List.setIfInBounds_toArray, List.set_cons_zero, List.set_cons_succ]))
                    refine free_nilM (hK _ _ fun W hW hF => ?_)
                    rw [hRR.out] at hW
                    have x7 : Below w.heap.size w W := Below.trans x6 (Below.mono (apI_below hW (Nat.le_refl _)) x6.size)
                    clear hF hK g1 g2 hW r6 x6
                    dsimp only [List.drop, List.length_cons, List.length_nil]
                    go_wp2
                    refine QN_in ?_
                    go_wp2
                    go_ret
                    exact ⟨rfl, x7⟩
        · have hb := counts_not hok
          rw [hb]
          generalize (countsV S refs held).2 = nn at *
          clear hok hP hCn hE
          go_wp2
          all_goals
            go_ret
            exact ⟨rfl, x4⟩
end Go.Proofs.Yteikcgjhcniiiaa
namespace Go.Proofs.Yteikcgjhcniiiaa.checkHolds
set_option linter.unusedSimpArgs false
set_option linter.unusedVariables false
open Go.ChangeShapes Go.WideShapes Go.ChangeAt Go.RowKit

theorem own : ownKnob Try.prog.godebug = none := by kernel_rfl
theorem laidOut : laidOutB Try.prog = true := by kernel_rfl

set_option maxHeartbeats 1000000 in
set_option maxRecDepth 100000 in
theorem lifted (os : Os) (started : os.Started) (H : Type) (enc : TypeId × Value → H) :
    ReturnsInHanded {} Try.checked os 5 .any (Rows.checkHoldsSpec.pre6 enc Try.prog Try.f5 Rows.checkHoldsRow.domain false) (Rows.checkHoldsSpec.post enc Try.prog Try.f5 false true false false) := by
  refine returnsInHanded_of_change (C := Try.checked) own started (by kernel_rfl) Try.func5
    (ChangeSpec.witness6 (enc := enc) (C := Try.checked) false ⟨#[], #[.agg (poolCs (.slice none 0 0) (.slice none 0 0) (.slice none 0 0) (.slice none 0 0) 0 0 0 (.slice none 0 0)), .slice none 0 0, .int .i64 0], []⟩ 8 (by kernel_rfl) (by kernel_rfl) (by kernel_rfl) (by kernel_rfl)) ?_
  intro W base args ds gs before hval0 hW hcnd _
  have hval : ∀ (j : Nat) t v, Try.f5.params[j]? = some t → args[j]? = some v → Value.okWide Try.prog W .any base t v := hval0
  have hW' := hW
  have hlt : ∀ x ∈ before, x.block < W.heap.size := fun x hx => hW.lt x hx
  obtain ⟨p, q, hA0, hV, rfl, hfz, hnd⟩ := hW
  have hA : DataW.TrodAll enc Try.prog W 0 (fun _ => true) true Try.f5.params.toList args.toList ds p := hA0
  rw [Try.params5] at hA hval
  obtain ⟨v0, vs0, d0, ds0, p0, q0, hargs, rfl, rfl, h0, r0⟩ := trodAll_cons hA
  obtain ⟨v1, vs1, d1, ds1, p1, q1, rfl, rfl, rfl, h1, r1⟩ := trodAll_cons r0
  obtain ⟨v2, vs2, d2, ds2, p2, q2, rfl, rfl, rfl, h2, r2⟩ := trodAll_cons r1
  obtain ⟨rfl, rfl, rfl⟩ := trodAll_nil r2
  obtain rfl : args = #[v0, v1, v2] := by cases args; simp_all
  obtain ⟨rfl, rfl⟩ := trodVars_none hV
  obtain ⟨cs0, rfl, _⟩ := okWide_struct Try.underlying32 (hval 0 32 v0 rfl rfl)
  obtain ⟨a1, l1, k1, rfl⟩ := okWide_slice Try.underlying30 (hval 1 30 v1 rfl rfl)
  obtain ⟨more, rfl⟩ := okWide_int Try.underlying3 (hval 2 3 v2 rfl rfl)
  obtain ⟨n0, h0⟩ := h0
  obtain ⟨n1, h1⟩ := h1
  obtain ⟨A1, c1, A2, c2, A3, c3, A4, c4, gen, root, next, A5, c5, S, dead, e0, hS, hd, _, _, _, _⟩ := rd_pool h0 (fun x hx => hlt x (by simp [hx]))
  obtain ⟨A6, c6, held, e1, hh, _⟩ := rd_ints h1 (fun x hx => hlt x (by simp [hx]))
  have e0' : cs0 = poolCs (.slice A1 S.bs.length c1) (.slice A2 S.ws.length c2) (.slice A3 S.now.length c3) (.slice A4 S.last.length c4) gen root next (.slice A5 dead.length c5) := by
    obtain ⟨cs0⟩ := cs0
    have : cs0 = _ := e0
    rw [this]
  have e1' : Value.slice a1 l1 k1 = .slice A6 held.length c6 := by
    have : [Value.slice a1 l1 k1] = _ := e1
    exact (List.cons.inj this).1
  subst e0'
  cases e1'
  have walk : Calls Try.prog 5 #[.agg (poolCs (.slice A1 S.bs.length c1) (.slice A2 S.ws.length c2) (.slice A3 S.now.length c3) (.slice A4 S.last.length c4) gen root next (.slice A5 dead.length c5)), .slice a1 held.length k1, .int .i64 more] W (Ret (.bool true) W) := cholds_any A1 c1 A2 c2 A3 c3 A4 c4 gen root next A5 c5 S dead a1 k1 held more W hS hd hh
  refine walk.mono fun e W' ⟨he, hB⟩ => ?_
  subst he
  exact ⟨_, rfl, law_post rfl laidOut rfl Try.underlying4 (by
    intro t ht
    have : t = 32 ∨ t = 30 ∨ t = 3 := by rw [Try.params5] at ht; simpa using ht
    rcases this with rfl | rfl | rfl
    · exact ⟨by kernel_rfl, of_decide_eq_true (by kernel_rfl)⟩
    · exact ⟨by kernel_rfl, of_decide_eq_true (by kernel_rfl)⟩
    · exact ⟨by kernel_rfl, of_decide_eq_true (by kernel_rfl)⟩) hW' rfl hB⟩

theorem over : Rows.checkHoldsRow.holds Try.pinned (OpenSpec.ofChange Rows.checkHoldsSpec) :=
  OpenClaim.holds_of_wide 5 Try.f5 rfl rfl rfl rfl rfl rfl rfl ⟨rfl, rfl, rfl, rfl, rfl⟩ rfl rfl rfl rfl rfl (by kernel_rfl) Try.func5 (by kernel_rfl)
    (of_decide_eq_true (by kernel_rfl)) (by unfold Func.isWrapper; first | (rw [if_pos (by decide +kernel)]; kernel_rfl) | (rw [if_neg (by decide +kernel)]; exact ⟨rfl, rfl⟩))
    (fun os started H enc _ => lifted os started H enc)

/-- THE STATEMENT -/
theorem proved : Rows.CheckHoldsSaid := over
end Go.Proofs.Yteikcgjhcniiiaa.checkHolds
