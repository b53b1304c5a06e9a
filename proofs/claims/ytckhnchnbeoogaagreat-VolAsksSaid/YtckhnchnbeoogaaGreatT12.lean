/- Texts Twin3, Short, Twin8, GreatS, Read8, Bench, BackW, joined. -/
import Derived.Test.YtckhnchnbeoogaaGreatT11
/- Contracts: the twin of a disk. -/
namespace Go.Proofs.YtckhnchnbeoogaaGreat
set_option linter.unusedSimpArgs false
set_option linter.unusedVariables false
open Go.RowKit

set_option maxHeartbeats 2000000 in
set_option maxRecDepth 100000 in
theorem twin3_any (A1 : Option Addr) (n1 c1 : Nat) (A2 : Option Addr) (n2 c2 : Nat) (bs : List (List UInt8)) (ws : List (Int × List UInt8)) (hbl : bs.length < 1000000) (hwl : ws.length < 1000000) (hbe : ∀ l ∈ bs, l.length < 1000000) (hwe : ∀ p ∈ ws, p.2.length < 1000000) (w : World)
    (hb : Bls w w.heap.size (.slice A1 n1 c1) bs) (hw : Wrs w w.heap.size (.slice A2 n2 c2) ws) :
    Calls Tryz.prog 50 #[diskV A1 n1 c1 A2 n2 c2] w (RetS (fun u W => ∃ A1 c1 A2 c2, u = diskV A1 bs.length c1 A2 ws.length c2 ∧ ∀ W2 : World, (∀ q : Addr, w.heap.size ≤ q.block → q.block < W.heap.size → W2.cell? q = W.cell? q) → Bls W2 W.heap.size (.slice A1 bs.length c1) bs ∧ Wrs W2 W.heap.size (.slice A2 ws.length c2) ws) w) := by
  obtain ⟨e1, hc1, hm1, hA1⟩ := hb.at_
  obtain ⟨e2, hc2, hm2, hA2⟩ := hw.at_
  subst e1
  subst e2
  have HB := Lib.hid hb
  have HW := Lib.hid hw
  clear hb hw
  go_enter Tryz.func50, Tryz.ntmps50
  go_wp2_with fail
  generalize hw1 : (World.alloc (World.alloc (World.alloc _ _) _) _) = w1
  have x1 : Ext w w1 := by rw [← hw1]; exact ((Ext.alloc _ _).trans (Ext.alloc _ _)).trans (Ext.alloc _ _)
  have r1 : w1.heap[w.heap.size]? = some (.cells #[.slice A1 bs.length c1, .slice A2 ws.length c2] 25 (0, 0)) := by rw [← hw1]; exact (Below.heap_alloc _ _ _ (by simp; omega)).trans ((Below.heap_alloc _ _ _ (by simp)).trans (World.alloc_heap_at _ _ _ rfl))
  have q1 : w1.heap[w.heap.size + 1]? = some (.cells #[.slice none 0 0, .slice none 0 0] 25 (0, 0)) := by rw [← hw1]; exact (Below.heap_alloc _ _ _ (by simp)).trans (World.alloc_heap_at _ _ _ (by simp))
  have t1 : w1.heap[w.heap.size + 1 + 1]? = some (.cells #[.slice none 0 0, .slice none 0 0] 25 (0, 0)) := by rw [← hw1]; exact World.alloc_heap_at _ _ _ (by simp)
  clear hw1
  have I0 : TwB bs w1 (w.heap.size + 1 + 1) (.int .i64 0) w1 := ⟨0, [], none, 0, by omega, rfl, rfl, t1, RowX.nil _, Below.refl _ _⟩
  replace I0 := Lib.hid I0
  go_wp2_with fail
  go_loopw [4] (fun i wr => TwB bs w1 (w.heap.size + 1 + 1) i wr) (fun i _ => bs.length - (intOf i).toNat)
  case atStart => exact I0.out
  case round =>
    obtain ⟨k, ps, A, c, hk, rfl, hps, ht, hrow, hE⟩ := hrel.ex
    clear hrel I0
    have xw : Below w.heap.size w wr := Below.trans x1 (Below.mono hE (by omega))
    have rr := (hE.block w.heap.size (by omega)).trans r1
    have kr := cells_row rr
    by_cases hlt : k < bs.length
    · have hlt' := hlt
      have hpl : ps.length = k := by
        have := congrArg List.length hps
        rw [List.length_map, List.length_take] at this
        omega
      obtain ⟨b1, o1, rfl, hb1⟩ := hA1 (by omega)
      obtain ⟨A', c', hc, hby⟩ := (HB.out.below xw).get k hlt
      have hll := hbe bs[k] (List.getElem_mem hlt)
      have hsn : bs.take (k + 1) = bs.take k ++ [bs[k]] := List.take_succ_eq_append_getElem hlt
      generalize bs[k] = l at *
      have hvl := own_lt hrow.1
      have hap : Apart (.slice A k c) (.slice A' l.length c') := Apart.of_bys hby (fun g hg => by have := hvl g hg; omega)
      have hby' : Bys wr wr.heap.size (.slice A' l.length c') l := hby.more xw.size
      have hvd : (Value.slice A k c).ownBlock ≠ some w.heap.size := fun h => by have := hvl _ h; omega
      have hvt : (Value.slice A k c).ownBlock ≠ some (w.heap.size + 1 + 1) := fun h => by have := hvl _ h; omega
      have hvb : (Value.slice A k c).ownBlock ≠ some b1 := fun h => by have := hvl _ h; omega
      have zz : w.heap.size + 1 + 1 < wr.heap.size := (Array.getElem?_eq_some_iff.1 ht).1
      obtain ⟨RR, hRR⟩ : ∃ RR : Rel, RR = appX (w.heap.size + 1 + 1 + 1) 26 1 wr.heap.size (.slice A k c) ps.length (ps.flatMap fun p => gB p.1 p.2) (gB l) l := ⟨_, rfl⟩
      replace hRR := Lib.hid hRR
      have g1 : ∀ W, RR.r wr W → ∀ i, W.cell? ⟨w.heap.size, i, none⟩ = #[.slice (some ⟨b1, o1, none⟩) bs.length c1, .slice A2 ws.length c2][i]? := fun W h => cells_row (appX_row (hRR.out ▸ h) hvd rr)
      have g2 : ∀ W, RR.r wr W → ∀ i, W.cell? ⟨w.heap.size + 1 + 1, i, none⟩ = #[.slice A k c, .slice none 0 0][i]? := fun W h => cells_row (appX_row (hRR.out ▸ h) hvt ht)
      have g3 : ∀ W, RR.r wr W → W.cell? ⟨b1, o1 + k, none⟩ = some (.slice A' l.length c') := fun W h => appX_cell (hRR.out ▸ h) hvb hc
      have i1 : decide (k < bs.length) = true := decide_eq_true hlt
      replace hE := Lib.hid hE
      replace hsn := Lib.hid hsn
      replace hps := Lib.hid hps
      replace hpl := Lib.hid hpl
      clear hc
      go_wp2_with fail
      refine region_start (by kernel_rfl) ?_
      refine any_freeT (w := wr) RR (outsAt [(7, outB wr.heap.size l.length l), (8, outLitX wr.heap.size 26 (gB l) l), (9, outX (w.heap.size + 1 + 1 + 1) 26 1 wr.heap.size (.slice A k c) ps.length (ps.flatMap fun p => gB p.1 p.2) (gB l) l)])
        [true, true, true, true, true, true, true, true, true, true] 2 (by kernel_rfl) (by kernel_rfl) (by kernel_rfl) (by kernel_rfl) (by kernel_rfl) (by kernel_rfl) (by kernel_rfl) ?st (Rel.drew _ _) ?walk
      case st => rw [hRR.out]; exact outsAt_stableG (by simp only [List.forall_mem_cons]; exact ⟨outB_stableX (fun g hg => (hvl g hg).2), outLitX_stable (fun g hg => (hvl g hg).2), outX_stable, fun _ h => by cases h⟩)
      case walk =>
        intro K hK
        dsimp only [maskOps]
        repeat ((first | (refine free_plainM ?_ (by rfl) (by rfl) (fun W hW _ => ⟨W, ?_, Rel.refl _ W⟩) ?_; rotate_left; (first | (go_simp; with_reducible rfl) | (go_simp; done))) | (refine free_skipM (by rfl) ?_)); try simp only [Act.put, one_f, outB_f, outNew_f, outI_f, outNew_f, outLitX_f, outX_f, outB_f, outW_f, List.setIfInBounds_toArray, List.set_cons_zero, List.set_cons_succ])
        first
          | (refine free_plainM (.pointer (some ⟨b1, o1 + k, none⟩)) (by rfl) (by rfl) (fun W hW _ => ⟨W, ?_, Rel.refl _ W⟩) ?_
             · go_simp
               rw [IntWalk.i64_in (k : Int) (by omega), if_pos (by omega)]
               simp
             simp only [Act.put, one_f, outB_f, outNew_f, outI_f, outNew_f, outLitX_f, outX_f, outB_f, outW_f, List.setIfInBounds_toArray, List.set_cons_zero, List.set_cons_succ])
          | skip
        repeat ((first | (refine free_plainM ?_ (by rfl) (by rfl) (fun W hW _ => ⟨W, ?_, Rel.refl _ W⟩) ?_; rotate_left; (first | (go_simp; with_reducible rfl) | (go_simp; done))) | (refine free_skipM (by rfl) ?_)); try simp only [Act.put, one_f, outB_f, outNew_f, outI_f, outNew_f, outLitX_f, outX_f, outB_f, outW_f, List.setIfInBounds_toArray, List.set_cons_zero, List.set_cons_succ])
        refine free_hardM (outB wr.heap.size l.length l) (by rfl) (by rfl) (fun W hW _ => ?_) (fun p7 => ?_)
        · rw [hRR.out] at hW ⊢
          obtain ⟨p, w', hrun, h1, h2⟩ := run_twin (hby'.grown hW.1 hap) hll
          refine hardAt_valueG (u := .slice p.1 l.length p.2) (w' := w') ?_ ⟨p, rfl, ⟨h1.1, h1.2.mono hW.1.size⟩, appX_ext h2⟩
          exact exec_append (s := .const (.slice none 0 0)) (x := .tmp 19) rfl rfl rfl hrun
        obtain ⟨A7, c7⟩ := p7
        simp only [Act.put, one_f, outB_f, outNew_f, outI_f, outNew_f, outLitX_f, outX_f, outB_f, outW_f, List.setIfInBounds_toArray, List.set_cons_zero, List.set_cons_succ]
        refine free_hardM (outLitX wr.heap.size 26 (gB l) l) (by rfl) (by rfl) (fun W hW hp => ?_) (fun p8 => ?_)
        · rw [hRR.out] at hW ⊢
          have f7 := (hp 7 (by decide)).1
          refine hardAt_litX (A := A7) (c := c7) ?_ hW.1.size f7.1 f7.2
          go_simp
        simp only [Act.put, one_f, outB_f, outNew_f, outI_f, outNew_f, outLitX_f, outX_f, outB_f, outW_f, List.setIfInBounds_toArray, List.set_cons_zero, List.set_cons_succ]
        refine free_hardM (outX (w.heap.size + 1 + 1 + 1) 26 1 wr.heap.size (.slice A k c) ps.length (ps.flatMap fun p => gB p.1 p.2) (gB l) l) (by rfl) (by rfl) (fun W hW hp => ?_) (fun p9 => ?_)
        · rw [hRR.out] at hW ⊢
          obtain ⟨_, A8, c8, hcells, hB8, hF8⟩ := (hp 8 (by decide)).1
          obtain ⟨i0, hi, hz0, hz1, hz2⟩ := info_parts Tryz.info_bytes
          obtain ⟨v', w', hrun, hD, hR'⟩ := run_append_X (P := Tryz.prog) (lo := wr.heap.size) (f := gB l) (l := l) W 22 22 i0 _ 24 Tryz.underlying22 hi hz0 hz1 hz2 rfl (by decide) (hW.2.1 hrow.1) ⟨p8, 0, none⟩ A8 c8 rfl (row_adds hcells) (by simp [gB, Value.oneCell']) hB8 hF8 (fun g hg => (hvl g hg).2) (by have := hpl.out; omega) (by decide) (by have := hW.1.size; omega) hW.1.size
          have hsl := hD
          obtain ⟨_, _, hDD, _⟩ := hsl
          obtain ⟨A', c', rfl, _, _⟩ := own_slice hDD.1
          refine hardAt_valueG (u := .slice A' (ps.length + 1) c') (w' := w') ?_ ⟨(A', c'), rfl, hD, hR'⟩
          exact exec_append (s := .tmp 14) (x := .tmp 21) rfl rfl rfl hrun
        obtain ⟨A9, c9⟩ := p9
        simp only [Act.put, one_f, outB_f, outNew_f, outI_f, outNew_f, outLitX_f, outX_f, outB_f, outW_f, List.setIfInBounds_toArray, List.set_cons_zero, List.set_cons_succ]
        repeat ((first | (refine free_plainM ?_ (by rfl) (by rfl) (fun W hW _ => ⟨W, ?_, Rel.refl _ W⟩) ?_; rotate_left; (first | (go_simp; with_reducible rfl) | (go_simp; done))) | (refine free_skipM (by rfl) ?_)); try simp only [Act.put, one_f, outB_f, outNew_f, outI_f, outNew_f, outLitX_f, outX_f, outB_f, outW_f, List.setIfInBounds_toArray, List.set_cons_zero, List.set_cons_succ])
        refine free_nilM (hK _ _ fun W hW hF => ?_)
        have hD : DoneX _ _ _ _ _ _ _ _ _ (.slice A9 (ps.length + 1) c9) W := (hF 9).1
        clear hF hK g1 g2 g3
        rw [hRR.out] at hW
        dsimp only [List.drop, List.length_cons, List.length_nil]
        have tW := appX_row hW hvt ht
        have kW := cells_row tW
        have fW := frozen_row tW
        obtain ⟨u, hrW⟩ := hrow.push l (by omega) rfl hD hW.1
        have hBW : Below (w.heap.size + 1 + 1) wr W := (Below.refl _ _).grown hW.1 (by omega) (fun g hg => by have := hvl g hg; omega)
        have hwk := Lib.hid (IntWalk.wrap64_in ((k : Int) + 1) (by omega))
        have IR : TwB bs w1 (w.heap.size + 1 + 1) (.int .i64 ((k : Int) + 1)) (W.setCell ⟨w.heap.size + 1 + 1, 0, none⟩ (.slice A9 (ps.length + 1) c9)) := by
          have hpl := hpl.out
          subst hpl
          exact ⟨ps.length + 1, ps ++ [(l, u)], A9, c9, by omega, rfl, by rw [List.map_append, hps.out, hsn.out]; rfl, row_set tW 0 _, hrW.setCell (p := ⟨w.heap.size + 1 + 1, 0, none⟩) (Nat.lt_succ_self _) (Nat.lt_succ_self _) _, Below.setCell (Below.trans hE.out hBW) (p := ⟨w.heap.size + 1 + 1, 0, none⟩) (Nat.le_refl _) _⟩
        replace IR := Lib.hid IR
        clear hrW hD hW hBW
        go_wp2
        refine QN_in ?_
        go_wp2_with fail
        try rw [hwk.out]
        refine ⟨IR.out, ?_⟩
        simp [intOf]
        omega
    · obtain rfl : k = bs.length := by omega
      rw [List.take_length] at hps
      have zz : w.heap.size + 1 + 1 < wr.heap.size := (Array.getElem?_eq_some_iff.1 ht).1
      have hv0 := own_lt hrow.1
      have hq0 := hrow.low
      have J0 : TwW bs ws w1 (w.heap.size + 1 + 1) (.int .i64 0) wr := ⟨0, ps, [], A, c, none, 0, wr.heap.size, by omega, rfl, hps, rfl, ht, hrow, RowX.nil _, ⟨zz, Nat.le_refl _⟩, fun g hg => (hv0 g hg).2, hq0, hE⟩
      generalize hwm : wr = wm at *
      clear hwm
      replace J0 := Lib.hid J0
      clear hrow hps ht hE hv0 hq0 hk zz hlt
      go_wp2_with fail
      go_loopw [5] (fun i wr => TwW bs ws w1 (w.heap.size + 1 + 1) i wr) (fun i _ => ws.length - (intOf i).toNat)
      case atStart => exact J0.out
      case round =>
        clear kr rr xw
        obtain ⟨k, qs, ps, A1', c1', A, c, base, hk, rfl, hqs, hps, ht, hqr, hrow, ⟨hbase, hbz⟩, hob, hqb, hE⟩ := hrel.ex
        clear hrel J0
        have xw : Below w.heap.size w wr := Below.trans x1 (Below.mono hE (by omega))
        have rr := (hE.block w.heap.size (by omega)).trans r1
        have kr := cells_row rr
        by_cases hlt : k < ws.length
        · have hlt' := hlt
          have hpl : ps.length = k := by
            have := congrArg List.length hps
            rw [List.length_map, List.length_take] at this
            omega
          obtain ⟨b2, o2, rfl, hb2⟩ := hA2 (by omega)
          obtain ⟨A', c', ha, hc, hby⟩ := (HW.out.below xw).get k hlt
          have hll := hwe ws[k] (List.getElem_mem hlt)
          have hsn : ws.take (k + 1) = ws.take k ++ [(ws[k].1, ws[k].2)] := List.take_succ_eq_append_getElem hlt
          generalize ws[k].1 = n at *
          generalize ws[k].2 = l at *
          have hvl := own_lt hrow.1
          have zz : w.heap.size + 1 + 1 < wr.heap.size := (Array.getElem?_eq_some_iff.1 ht).1
          have hap : Apart (.slice A k c) (.slice A' l.length c') := Apart.of_bys hby (fun g hg => by have := hvl g hg; omega)
          have hby' : Bys wr wr.heap.size (.slice A' l.length c') l := hby.more xw.size
          have hvd : (Value.slice A k c).ownBlock ≠ some w.heap.size := fun h => by have := hvl _ h; omega
          have hvt : (Value.slice A k c).ownBlock ≠ some (w.heap.size + 1 + 1) := fun h => by have := hvl _ h; omega
          have hvb : (Value.slice A k c).ownBlock ≠ some b2 := fun h => by have := hvl _ h; omega
          obtain ⟨RR, hRR⟩ : ∃ RR : Rel, RR = appX base 100 2 wr.heap.size (.slice A k c) ps.length (ps.flatMap fun p => gW p.1 p.2) (gW (n, l)) l := ⟨_, rfl⟩
          replace hRR := Lib.hid hRR
          have g1 : ∀ W, RR.r wr W → ∀ i, W.cell? ⟨w.heap.size, i, none⟩ = #[.slice A1 bs.length c1, .slice (some ⟨b2, o2, none⟩) ws.length c2][i]? := fun W h => cells_row (appX_row (hRR.out ▸ h) hvd rr)
          have g2 : ∀ W, RR.r wr W → ∀ i, W.cell? ⟨w.heap.size + 1 + 1, i, none⟩ = #[.slice A1' bs.length c1', .slice A k c][i]? := fun W h => cells_row (appX_row (hRR.out ▸ h) hvt ht)
          have g3 : ∀ W, RR.r wr W → W.cell? ⟨b2, o2 + k * 2, none⟩ = some (.int .i64 n) := fun W h => appX_cell (hRR.out ▸ h) hvb ha
          have g4 : ∀ W, RR.r wr W → W.cell? ⟨b2, o2 + k * 2 + 1, none⟩ = some (.slice A' l.length c') := fun W h => appX_cell (hRR.out ▸ h) hvb hc
          have i1 : decide (k < ws.length) = true := decide_eq_true hlt
          replace hE := Lib.hid hE
          replace hsn := Lib.hid hsn
          replace hps := Lib.hid hps
          replace hqs := Lib.hid hqs
          replace hpl := Lib.hid hpl
          replace hqr := Lib.hid hqr
          replace hqb := Lib.hid hqb
          replace hob := Lib.hid hob
          clear hc ha
          go_wp2_with fail
          refine region_start (by kernel_rfl) ?_
          refine any_freeT (w := wr) RR (outsAt [(14, outB wr.heap.size l.length l), (15, outW wr.heap.size n l), (16, outLitX wr.heap.size 100 (gW (n, l)) l), (17, outX base 100 2 wr.heap.size (.slice A k c) ps.length (ps.flatMap fun p => gW p.1 p.2) (gW (n, l)) l)])
            [true, true, true, true, true, true, true, true, true, true, true, true, true, true, true, true, true, true] 2 (by kernel_rfl) (by kernel_rfl) (by kernel_rfl) (by kernel_rfl) (by kernel_rfl) (by kernel_rfl) (by kernel_rfl) ?st (Rel.drew _ _) ?walk
          case st => rw [hRR.out]; exact outsAt_stableG (by simp only [List.forall_mem_cons]; exact ⟨outB_stableX (fun g hg => (hvl g hg).2), outW_stableX (fun g hg => (hvl g hg).2), outLitX_stable (fun g hg => (hvl g hg).2), outX_stable, fun _ h => by cases h⟩)
          case walk =>
            intro K hK
            dsimp only [maskOps]
            repeat ((first | (refine free_plainM ?_ (by rfl) (by rfl) (fun W hW _ => ⟨W, ?_, Rel.refl _ W⟩) ?_; rotate_left; (first | (go_simp; with_reducible rfl) | (go_simp; done))) | (refine free_skipM (by rfl) ?_)); try simp only [Act.put, one_f, outB_f, outNew_f, outI_f, outNew_f, outLitX_f, outX_f, outB_f, outW_f, List.setIfInBounds_toArray, List.set_cons_zero, List.set_cons_succ])
            first
              | (refine free_plainM (.pointer (some ⟨b2, o2 + k * 2, none⟩)) (by rfl) (by rfl) (fun W hW _ => ⟨W, ?_, Rel.refl _ W⟩) ?_
                 · go_simp
                   rw [IntWalk.i64_in (k : Int) (by omega), if_pos (by omega)]
                   simp
                 simp only [Act.put, one_f, outB_f, outNew_f, outI_f, outNew_f, outLitX_f, outX_f, outB_f, outW_f, List.setIfInBounds_toArray, List.set_cons_zero, List.set_cons_succ])
              | skip
            repeat ((first | (refine free_plainM ?_ (by rfl) (by rfl) (fun W hW _ => ⟨W, ?_, Rel.refl _ W⟩) ?_; rotate_left; (first | (go_simp; with_reducible rfl) | (go_simp; done))) | (refine free_skipM (by rfl) ?_)); try simp only [Act.put, one_f, outB_f, outNew_f, outI_f, outNew_f, outLitX_f, outX_f, outB_f, outW_f, List.setIfInBounds_toArray, List.set_cons_zero, List.set_cons_succ])
            first
              | (refine free_plainM (.pointer (some ⟨b2, o2 + k * 2, none⟩)) (by rfl) (by rfl) (fun W hW _ => ⟨W, ?_, Rel.refl _ W⟩) ?_
                 · go_simp
                   rw [IntWalk.i64_in (k : Int) (by omega), if_pos (by omega)]
                   simp
                 simp only [Act.put, one_f, outB_f, outNew_f, outI_f, outNew_f, outLitX_f, outX_f, outB_f, outW_f, List.setIfInBounds_toArray, List.set_cons_zero, List.set_cons_succ])
              | skip
            repeat ((first | (refine free_plainM ?_ (by rfl) (by rfl) (fun W hW _ => ⟨W, ?_, Rel.refl _ W⟩) ?_; rotate_left; (first | (go_simp; with_reducible rfl) | (go_simp; done))) | (refine free_skipM (by rfl) ?_)); try simp only [Act.put, one_f, outB_f, outNew_f, outI_f, outNew_f, outLitX_f, outX_f, outB_f, outW_f, List.setIfInBounds_toArray, List.set_cons_zero, List.set_cons_succ])
            refine free_hardM (outB wr.heap.size l.length l) (by rfl) (by rfl) (fun W hW _ => ?_) (fun p7 => ?_)
            · rw [hRR.out] at hW ⊢
              obtain ⟨p, w', hrun, h1, h2⟩ := run_twin (hby'.grown hW.1 hap) hll
              refine hardAt_valueG (u := .slice p.1 l.length p.2) (w' := w') ?_ ⟨p, rfl, ⟨h1.1, h1.2.mono hW.1.size⟩, appX_ext h2⟩
              exact exec_append (s := .const (.slice none 0 0)) (x := .tmp 44) rfl rfl rfl hrun
            obtain ⟨A7, c7⟩ := p7
            simp only [Act.put, one_f, outB_f, outNew_f, outI_f, outNew_f, outLitX_f, outX_f, outB_f, outW_f, List.setIfInBounds_toArray, List.set_cons_zero, List.set_cons_succ]
            refine free_hardM (outW wr.heap.size n l) (by rfl) (by rfl) (fun W hW hp => ?_) (fun p7 => ?_)
            · rw [hRR.out] at hW ⊢
              have f7 := (hp 14 (by decide)).1
              refine hardAt_valueG (u := .agg #[.int .i64 n, .slice A7 l.length c7]) (w' := W) ?_ ⟨(A7, c7), rfl, f7, Rel.refl _ W⟩
              go_simp
            obtain ⟨A7, c7⟩ := p7
            simp only [Act.put, one_f, outB_f, outNew_f, outI_f, outNew_f, outLitX_f, outX_f, outB_f, outW_f, List.setIfInBounds_toArray, List.set_cons_zero, List.set_cons_succ]
            refine free_hardM (outLitX wr.heap.size 100 (gW (n, l)) l) (by rfl) (by rfl) (fun W hW hp => ?_) (fun p8 => ?_)
            · rw [hRR.out] at hW ⊢
              have f7 := (hp 15 (by decide)).1
              refine hardAt_litX (A := A7) (c := c7) ?_ hW.1.size f7.1 f7.2
              go_simp
            simp only [Act.put, one_f, outB_f, outNew_f, outI_f, outNew_f, outLitX_f, outX_f, outB_f, outW_f, List.setIfInBounds_toArray, List.set_cons_zero, List.set_cons_succ]
            refine free_hardM (outX base 100 2 wr.heap.size (.slice A k c) ps.length (ps.flatMap fun p => gW p.1 p.2) (gW (n, l)) l) (by rfl) (by rfl) (fun W hW hp => ?_) (fun p9 => ?_)
            · rw [hRR.out] at hW ⊢
              obtain ⟨_, A8, c8, hcells, hB8, hF8⟩ := (hp 16 (by decide)).1
              obtain ⟨i0, hi, hz0, hz1, hz2⟩ := info_parts Tryz.info_write
              obtain ⟨v', w', hrun, hD, hR'⟩ := run_append_X (P := Tryz.prog) (lo := wr.heap.size) (f := gW (n, l)) (l := l) W 23 23 i0 _ 32 Tryz.underlying23 hi hz0 hz1 hz2 rfl (by decide) (hW.2.1 hrow.1) ⟨p8, 0, none⟩ A8 c8 rfl (row_adds hcells) (by simp [gW, Value.oneCell']) hB8 hF8 (fun g hg => (hvl g hg).2) (by have := hpl.out; omega) (by decide) (by have := hW.1.size; omega) hW.1.size
              have hsl := hD
              obtain ⟨_, _, hDD, _⟩ := hsl
              obtain ⟨A', c', rfl, _, _⟩ := own_slice hDD.1
              refine hardAt_valueG (u := .slice A' (ps.length + 1) c') (w' := w') ?_ ⟨(A', c'), rfl, hD, hR'⟩
              exact exec_append (s := .tmp 32) (x := .tmp 47) rfl rfl rfl hrun
            obtain ⟨A9, c9⟩ := p9
            simp only [Act.put, one_f, outB_f, outNew_f, outI_f, outNew_f, outLitX_f, outX_f, outB_f, outW_f, List.setIfInBounds_toArray, List.set_cons_zero, List.set_cons_succ]
            repeat ((first | (refine free_plainM ?_ (by rfl) (by rfl) (fun W hW _ => ⟨W, ?_, Rel.refl _ W⟩) ?_; rotate_left; (first | (go_simp; with_reducible rfl) | (go_simp; done))) | (refine free_skipM (by rfl) ?_)); try simp only [Act.put, one_f, outB_f, outNew_f, outI_f, outNew_f, outLitX_f, outX_f, outB_f, outW_f, List.setIfInBounds_toArray, List.set_cons_zero, List.set_cons_succ])
            refine free_nilM (hK _ _ fun W hW hF => ?_)
            have hD : DoneX _ _ _ _ _ _ _ _ _ (.slice A9 (ps.length + 1) c9) W := (hF 17).1
            clear hF hK g1 g2 g3 g4
            rw [hRR.out] at hW
            dsimp only [List.drop, List.length_cons, List.length_nil]
            have tW := appX_row hW hvt ht
            have kW := cells_row tW
            have fW := frozen_row tW
            obtain ⟨u, hrW⟩ := hrow.push (n, l) hbz rfl hD hW.1
            have hqW := hqr.out.other hW.1 (fun g hg h => by have := hvl g h; have := hob.out g hg; omega) (fun q hq a n c e hn h => by have := hvl _ h; have := hqb.out q hq a n c e hn; omega)
            have hBW : Below (w.heap.size + 1 + 1) wr W := (Below.refl _ _).grown hW.1 (by omega) (fun g hg => by have := hvl g hg; omega)
            have hwk := Lib.hid (IntWalk.wrap64_in ((k : Int) + 1) (by omega))
            have IR : TwW bs ws w1 (w.heap.size + 1 + 1) (.int .i64 ((k : Int) + 1)) (W.setCell ⟨w.heap.size + 1 + 1, 1, none⟩ (.slice A9 (ps.length + 1) c9)) := by
              have hpl := hpl.out
              subst hpl
              exact ⟨ps.length + 1, qs, ps ++ [((n, l), u)], A1', c1', A9, c9, base, by omega, rfl, hqs.out, by rw [List.map_append, hps.out, hsn.out]; rfl, row_set tW 1 _, hqW.setCell (p := ⟨w.heap.size + 1 + 1, 1, none⟩) (Nat.lt_succ_self _) (Nat.lt_succ_self _) _, hrW.setCell (p := ⟨w.heap.size + 1 + 1, 1, none⟩) hbase hbase _, ⟨hbase, by have := hW.1.size; simp; omega⟩, hob.out, hqb.out, Below.setCell (Below.trans hE.out hBW) (p := ⟨w.heap.size + 1 + 1, 1, none⟩) (Nat.le_refl _) _⟩
            replace IR := Lib.hid IR
            clear hrW hD hW hBW hqW
            go_wp2
            refine QN_in ?_
            go_wp2_with fail
            try rw [hwk.out]
            refine ⟨IR.out, ?_⟩
            simp [intOf]
            omega
        · obtain rfl : k = ws.length := by omega
          rw [List.take_length] at hps
          have zz : w.heap.size + 1 + 1 < wr.heap.size := (Array.getElem?_eq_some_iff.1 ht).1
          have q2 := (hE.block (w.heap.size + 1) (by omega)).trans q1
          have kt := cells_row ht
          have kq := cells_row q2
          have fq := frozen_row q2
          have hB1 := ((hqr.setCell (p := ⟨w.heap.size + 1, 0, none⟩) (by show w.heap.size + 1 < _; omega) (by show w.heap.size + 1 < _; omega) (.slice A1' bs.length c1')).setCell (p := ⟨w.heap.size + 1, 1, none⟩) (by show w.heap.size + 1 < _; omega) (by show w.heap.size + 1 < _; omega) (.slice A ws.length c))
          have hB2 := ((hrow.setCell (p := ⟨w.heap.size + 1, 0, none⟩) (by show w.heap.size + 1 < _; omega) (by show w.heap.size + 1 < _; omega) (.slice A1' bs.length c1')).setCell (p := ⟨w.heap.size + 1, 1, none⟩) (by show w.heap.size + 1 < _; omega) (by show w.heap.size + 1 < _; omega) (.slice A ws.length c))
          have rf := row_set (row_set q2 0 (.slice A1' bs.length c1')) 1 (.slice A ws.length c)
          have kf := cells_row rf
          have bf : Below w.heap.size w ((wr.setCell ⟨w.heap.size + 1, 0, none⟩ (.slice A1' bs.length c1')).setCell ⟨w.heap.size + 1, 1, none⟩ (.slice A ws.length c)) := Below.setCell (Below.setCell xw (p := ⟨w.heap.size + 1, 0, none⟩) (by show _ ≤ w.heap.size + 1; omega) _) (p := ⟨w.heap.size + 1, 1, none⟩) (by show _ ≤ w.heap.size + 1; omega) _
          replace hqr := Lib.hid hqr
          replace hrow := Lib.hid hrow
          replace hB1 := Lib.hid hB1
          replace hB2 := Lib.hid hB2
          replace hE := Lib.hid hE
          replace bf := Lib.hid bf
          replace kf := Lib.hid kf
          clear rf
          go_wp2
          have kf := kf.out
          exact bodyPost_ret (v := diskV A1' bs.length c1' A ws.length c) (by simp [results, Tryz.results50, go_sem, kf]) rfl ⟨_, rfl, ⟨A1', c1', A, c, rfl, fun W2 hk => ⟨hqs ▸ hB1.out.blsN (Nat.le_refl _) (fun q hq hz => hk q (by omega) hz), hps ▸ hB2.out.wrsN (Nat.le_refl _) (fun q hq hz => hk q (by omega) hz)⟩⟩, bf.out⟩
end Go.Proofs.YtckhnchnbeoogaaGreat
/- Stores without slices too long to be copied; a store in new memory. -/
namespace Go.Proofs.YtckhnchnbeoogaaGreat
set_option linter.unusedSimpArgs false
set_option linter.unusedVariables false
open Go.RowKit

structure Short (S : Sto) : Prop where
  bs : S.bs.length < 1000000
  ws : S.ws.length < 1000000
  be : ∀ l ∈ S.bs, l.length < 1000000
  we : ∀ p ∈ S.ws, p.2.length < 1000000
  now : S.now.length < 1000000
  last : S.last.length < 1000000
def TwinS (lo : Nat) (S : Sto) (u : Value) (W : World) : Prop := ∃ A1 c1 A2 c2 A3 c3 A4 c4, u = storeV A1 S.bs.length c1 A2 S.ws.length c2 A3 S.now.length c3 A4 S.last.length c4 ∧ ∀ W2 : World, (∀ q : Addr, lo ≤ q.block → q.block < W.heap.size → W2.cell? q = W.cell? q) → StoAt W2 W.heap.size (.slice A1 S.bs.length c1) (.slice A2 S.ws.length c2) (.slice A3 S.now.length c3) (.slice A4 S.last.length c4) S

end Go.Proofs.YtckhnchnbeoogaaGreat
/- Contracts: the twin of a store. -/
namespace Go.Proofs.YtckhnchnbeoogaaGreat
set_option linter.unusedSimpArgs false
set_option linter.unusedVariables false
open Go.RowKit

def outD (lo : Nat) (bs : List (List UInt8)) (ws : List (Int × List UInt8)) : Outs := ⟨(Option Addr × Nat) × (Option Addr × Nat), fun p => diskV p.1.1 bs.length p.1.2 p.2.1 ws.length p.2.2, fun p W => ∀ W2 : World, (∀ q : Addr, lo ≤ q.block → q.block < W.heap.size → W2.cell? q = W.cell? q) → Bls W2 W.heap.size (.slice p.1.1 bs.length p.1.2) bs ∧ Wrs W2 W.heap.size (.slice p.2.1 ws.length p.2.2) ws⟩
theorem outD_f (lo : Nat) (bs : List (List UInt8)) (ws : List (Int × List UInt8)) (A : Option Addr) (c : Nat) (B : Option Addr) (d : Nat) : (outD lo bs ws).f ((A, c), (B, d)) = diskV A bs.length c B ws.length d := rfl
theorem outD_stable (lo : Nat) (bs : List (List UInt8)) (ws : List (Int × List UInt8)) : ∀ p, StableG extRel ((outD lo bs ws).φ p) := fun p W W' he h W2 hk => by
  have he : Ext W W' := he
  have := h W2 (fun q h1 h2 => (hk q h1 (Nat.lt_of_lt_of_le h2 he.size)).trans (World.cell?_of_block (he.block q.block h2)))
  exact ⟨this.1.more he.size, this.2.more he.size⟩
theorem outB_stableE (lo n : Nat) (l : List UInt8) : ∀ p, StableG extRel ((outB lo n l).φ p) := fun p W W' he h => by
  have he : Ext W W' := he
  exact ⟨(h.1.below he).more he.size, h.2⟩
set_option maxHeartbeats 2000000 in
set_option maxRecDepth 100000 in
theorem twin8_any (A1 : Option Addr) (n1 c1 : Nat) (A2 : Option Addr) (n2 c2 : Nat) (A3 : Option Addr) (c3 : Nat) (A4 : Option Addr) (c4 : Nat) (S : Sto) (hS : Short S) (w : World) (h : StoAt w w.heap.size (.slice A1 n1 c1) (.slice A2 n2 c2) (.slice A3 S.now.length c3) (.slice A4 S.last.length c4) S) :
    Calls Tryz.prog 24 #[storeV A1 n1 c1 A2 n2 c2 A3 S.now.length c3 A4 S.last.length c4] w (RetS (TwinS w.heap.size S) w) := by
  have HD := Lib.hid (fun W (hW : Ext w W) => twin3_any A1 n1 c1 A2 n2 c2 S.bs S.ws hS.bs hS.ws hS.be hS.we W (h.ext hW).bs (h.ext hW).ws)
  have HN := Lib.hid (fun W (hW : Ext w W) => run_twin (h.ext hW).now hS.now)
  have HL := Lib.hid (fun W (hW : Ext w W) => run_twin (h.ext hW).last hS.last)
  clear h hS
  go_enter Tryz.func24, Tryz.ntmps24
  go_wp2_with fail
  generalize hw1 : (World.alloc (World.alloc _ _) _) = w1
  have x1 : Ext w w1 := by rw [← hw1]; exact (Ext.alloc _ _).trans (Ext.alloc _ _)
  have r1 : w1.heap[w.heap.size]? = some (.cells #[.slice A1 n1 c1, .slice A2 n2 c2, .slice A3 S.now.length c3, .slice A4 S.last.length c4] 28 (0, 0)) := by rw [← hw1]; exact (Below.heap_alloc _ _ _ (by simp)).trans (World.alloc_heap_at _ _ _ rfl)
  have q1 : w1.heap[w.heap.size + 1]? = some (.cells #[.slice none 0 0, .slice none 0 0, .slice none 0 0, .slice none 0 0] 28 (0, 0)) := by rw [← hw1]; exact World.alloc_heap_at _ _ _ (by simp)
  clear hw1
  have g1 : ∀ W, extRel.r w1 W → ∀ i, W.cell? ⟨w.heap.size, i, none⟩ = #[.slice A1 n1 c1, .slice A2 n2 c2, .slice A3 S.now.length c3, .slice A4 S.last.length c4][i]? := fun W h => cells_row (row_ext r1 h)
  refine region_start (by kernel_rfl) ?_
  refine any_freeT (w := w1) extRel (outsAt [(2, outD w1.heap.size S.bs S.ws), (5, outB w1.heap.size S.now.length S.now), (8, outB w1.heap.size S.last.length S.last)])
    [true, true, true, true, true, true, true, true, true] 2 (by kernel_rfl) (by kernel_rfl) (by kernel_rfl) (by kernel_rfl) (by kernel_rfl) (by kernel_rfl) (by kernel_rfl) ?st (Rel.drew _ _) ?walk
  case st => exact outsAt_stableG (by simp only [List.forall_mem_cons]; exact ⟨outD_stable _ _ _, outB_stableE _ _ _, outB_stableE _ _ _, fun _ h => by cases h⟩)
  case walk =>
    intro K hK
    dsimp only [maskOps]
    repeat ((first | (refine free_plainM ?_ (by rfl) (by rfl) (fun W hW _ => ⟨W, ?_, Rel.refl _ W⟩) ?_; rotate_left; (first | (go_simp; with_reducible rfl) | (go_simp; done))) | (refine free_skipM (by rfl) ?_)); try simp only [Act.put, one_f, outB_f, outNew_f, outI_f, outD_f, outB_f, List.setIfInBounds_toArray, List.set_cons_zero, List.set_cons_succ])
    refine free_hardM (outD w1.heap.size S.bs S.ws) (by rfl) (by rfl) (fun W hW _ => ?_) (fun p => ?_)
    · refine hardAt_callG ?_ ((HD.out W (Ext.trans x1 hW)).mono fun e w' h => ?_)
      · go_simp
      have hW : Ext w1 W := hW
      obtain ⟨u, rfl, ⟨B1, d1, B2, d2, rfl, h1⟩, hB⟩ := h
      exact ⟨((B1, d1), (B2, d2)), rfl, fun W2 hk => h1 W2 (fun q hq hz => hk q (Nat.le_trans hW.size hq) hz), hB⟩
    obtain ⟨⟨B1, d1⟩, ⟨B2, d2⟩⟩ := p
    simp only [Act.put, one_f, outB_f, outNew_f, outI_f, outD_f, outB_f, List.setIfInBounds_toArray, List.set_cons_zero, List.set_cons_succ]
    repeat ((first | (refine free_plainM ?_ (by rfl) (by rfl) (fun W hW _ => ⟨W, ?_, Rel.refl _ W⟩) ?_; rotate_left; (first | (go_simp; with_reducible rfl) | (go_simp; done))) | (refine free_skipM (by rfl) ?_)); try simp only [Act.put, one_f, outB_f, outNew_f, outI_f, outD_f, outB_f, List.setIfInBounds_toArray, List.set_cons_zero, List.set_cons_succ])
    refine free_hardM (outB w1.heap.size S.now.length S.now) (by rfl) (by rfl) (fun W hW _ => ?_) (fun p => ?_)
    · have hW : Ext w1 W := hW
      obtain ⟨p, w', hrun, h1, h2⟩ := HN.out W (Ext.trans x1 hW)
      refine hardAt_valueG (u := .slice p.1 S.now.length p.2) (w' := w') ?_ ⟨p, rfl, ⟨h1.1, h1.2.mono hW.size⟩, h2⟩
      exact exec_append (s := .const (.slice none 0 0)) (x := .tmp 7) rfl rfl rfl hrun
    obtain ⟨B3, d3⟩ := p
    simp only [Act.put, one_f, outB_f, outNew_f, outI_f, outD_f, outB_f, List.setIfInBounds_toArray, List.set_cons_zero, List.set_cons_succ]
    repeat ((first | (refine free_plainM ?_ (by rfl) (by rfl) (fun W hW _ => ⟨W, ?_, Rel.refl _ W⟩) ?_; rotate_left; (first | (go_simp; with_reducible rfl) | (go_simp; done))) | (refine free_skipM (by rfl) ?_)); try simp only [Act.put, one_f, outB_f, outNew_f, outI_f, outD_f, outB_f, List.setIfInBounds_toArray, List.set_cons_zero, List.set_cons_succ])
    refine free_hardM (outB w1.heap.size S.last.length S.last) (by rfl) (by rfl) (fun W hW _ => ?_) (fun p => ?_)
    · have hW : Ext w1 W := hW
      obtain ⟨p, w', hrun, h1, h2⟩ := HL.out W (Ext.trans x1 hW)
      refine hardAt_valueG (u := .slice p.1 S.last.length p.2) (w' := w') ?_ ⟨p, rfl, ⟨h1.1, h1.2.mono hW.size⟩, h2⟩
      exact exec_append (s := .const (.slice none 0 0)) (x := .tmp 10) rfl rfl rfl hrun
    obtain ⟨B4, d4⟩ := p
    simp only [Act.put, one_f, outB_f, outNew_f, outI_f, outD_f, outB_f, List.setIfInBounds_toArray, List.set_cons_zero, List.set_cons_succ]
    refine free_nilM (hK _ _ fun W hW hF => ?_)
    have hD := (hF 2).1
    have hN : Bys W W.heap.size (.slice B3 S.now.length d3) S.now ∧ From w1.heap.size (.slice B3 S.now.length d3) := (hF 5).1
    have hL : Bys W W.heap.size (.slice B4 S.last.length d4) S.last ∧ From w1.heap.size (.slice B4 S.last.length d4) := (hF 8).1
    clear hF hK g1
    have hW' : Ext w1 W := hW
    dsimp only [List.drop, List.length_cons, List.length_nil]
    have qW := row_ext q1 hW'
    have kW := cells_row qW
    have fW := frozen_row qW
    have hz : w.heap.size + 1 < w1.heap.size := (Array.getElem?_eq_some_iff.1 q1).1
    have rf := row_set (row_set (row_set (row_set qW 0 (.slice B1 S.bs.length d1)) 1 (.slice B2 S.ws.length d2)) 2 (.slice B3 S.now.length d3)) 3 (.slice B4 S.last.length d4)
    have bf : Below w.heap.size w ((((W.setCell ⟨w.heap.size + 1, 0, none⟩ (.slice B1 S.bs.length d1)).setCell ⟨w.heap.size + 1, 1, none⟩ (.slice B2 S.ws.length d2)).setCell ⟨w.heap.size + 1, 2, none⟩ (.slice B3 S.now.length d3)).setCell ⟨w.heap.size + 1, 3, none⟩ (.slice B4 S.last.length d4)) := by
      have xW : Below w.heap.size w W := Ext.trans x1 hW'
      exact Below.setCell (Below.setCell (Below.setCell (Below.setCell xW (p := ⟨w.heap.size + 1, 0, none⟩) (Nat.le_succ _) _) (p := ⟨w.heap.size + 1, 1, none⟩) (Nat.le_succ _) _) (p := ⟨w.heap.size + 1, 2, none⟩) (Nat.le_succ _) _) (p := ⟨w.heap.size + 1, 3, none⟩) (Nat.le_succ _) _
    have hsz : ((((W.setCell ⟨w.heap.size + 1, 0, none⟩ (.slice B1 S.bs.length d1)).setCell ⟨w.heap.size + 1, 1, none⟩ (.slice B2 S.ws.length d2)).setCell ⟨w.heap.size + 1, 2, none⟩ (.slice B3 S.now.length d3)).setCell ⟨w.heap.size + 1, 3, none⟩ (.slice B4 S.last.length d4)).heap.size = W.heap.size := by simp
    have hA : TwinS w.heap.size S (storeV B1 S.bs.length d1 B2 S.ws.length d2 B3 S.now.length d3 B4 S.last.length d4) ((((W.setCell ⟨w.heap.size + 1, 0, none⟩ (.slice B1 S.bs.length d1)).setCell ⟨w.heap.size + 1, 1, none⟩ (.slice B2 S.ws.length d2)).setCell ⟨w.heap.size + 1, 2, none⟩ (.slice B3 S.now.length d3)).setCell ⟨w.heap.size + 1, 3, none⟩ (.slice B4 S.last.length d4)) := by
      refine ⟨B1, d1, B2, d2, B3, d3, B4, d4, rfl, fun W2 hk => ?_⟩
      rw [hsz] at hk ⊢
      have hk' : ∀ q : Addr, w1.heap.size ≤ q.block → q.block < W.heap.size → W2.cell? q = W.cell? q := fun q hq hl => (hk q (by omega) hl).trans (World.cell?_of_block ((Below.heap_setCell _ _ _ _ (by show q.block ≠ w.heap.size + 1; omega)).trans ((Below.heap_setCell _ _ _ _ (by show q.block ≠ w.heap.size + 1; omega)).trans ((Below.heap_setCell _ _ _ _ (by show q.block ≠ w.heap.size + 1; omega)).trans (Below.heap_setCell _ _ _ _ (by show q.block ≠ w.heap.size + 1; omega))))))
      exact ⟨(hD W2 hk').1, (hD W2 hk').2, hN.1.keepN hN.2 hk', hL.1.keepN hL.2 hk'⟩
    have kf := Lib.hid (cells_row rf)
    replace hA := Lib.hid hA
    replace bf := Lib.hid bf
    clear rf hD hsz hN hL
    go_wp2
    refine QN_in ?_
    go_wp2
    have kf := kf.out
    exact bodyPost_ret (v := storeV B1 S.bs.length d1 B2 S.ws.length d2 B3 S.now.length d3 B4 S.last.length d4) (by simp [results, Tryz.results24, go_sem, kf]) rfl ⟨_, rfl, hA.out, bf.out⟩
end Go.Proofs.YtckhnchnbeoogaaGreat
/- A pool that is not great. -/
namespace Go.Proofs.YtckhnchnbeoogaaGreat
set_option linter.unusedSimpArgs false
set_option linter.unusedVariables false
open Go.RowKit

theorem short_of_great {S : Sto} {n : Nat} (h : greatP S n = false) : Short S ∧ n < 1000000 := by
  unfold greatP greatS greatD headG at h
  simp only [Bool.or_eq_false_iff, decide_eq_false_iff_not] at h
  obtain ⟨⟨⟨h1, h2⟩, h3, h4⟩, h5⟩ := h
  have hb := sizeL_mem (ls := S.bs) (by omega)
  have hw := sizeL_mem (ls := S.ws.map (·.2)) (by omega)
  exact ⟨⟨by omega, by omega, fun l hl => by have := hb l hl; omega, fun p hp => by have := hw p.2 (List.mem_map.2 ⟨p, hp, rfl⟩); omega, by omega, by omega⟩, by omega⟩
end Go.Proofs.YtckhnchnbeoogaaGreat
/- Contracts: the document's node at a block of a store. -/
namespace Go.Proofs.YtckhnchnbeoogaaGreat
set_option linter.unusedSimpArgs false
set_option linter.unusedVariables false
open Go.RowKit

def nodeAt (S : Sto) (a : Nat) : Option (Int × List It) := if (S.now[a]?.getD 0).toNat = 0 then none else nodeRead (seenB S a)
theorem storeMay_len {S : Sto} (h : storeMay S = true) : S.bs.length = 256 ∧ S.ws.length ≤ 4096 ∧ S.now.length = 256 ∧ S.last.length = 256 := by
  unfold storeMay diskMay headD tabMay at h
  simp at h
  omega
def Node8P (lo : Nat) (q : Option (Int × List It)) (u : Value) (W : World) : Prop :=
  match q with
  | none => u = .tuple #[nodeV 0 none 0 0, .bool false]
  | some (lvl, xs) => ∃ A c, u = .tuple #[nodeV lvl A xs.length c, .bool true] ∧ ItsF lo W (.slice A xs.length c) xs

abbrev noNode8 : Value := .tuple #[nodeV 0 none 0 0, .bool false]

set_option maxHeartbeats 4000000 in
theorem read8_any (A1 : Option Addr) (n1 c1 : Nat) (A2 : Option Addr) (n2 c2 : Nat) (A3 : Option Addr) (n3 c3 : Nat) (A4 : Option Addr) (n4 c4 : Nat) (S : Sto) (hS : storeMay S = true) (a : Nat) (ha : 8 ≤ a) (ha2 : a < 256) (w : World) (h : StoAt w w.heap.size (.slice A1 n1 c1) (.slice A2 n2 c2) (.slice A3 n3 c3) (.slice A4 n4 c4) S) :
    Calls Tryz.prog 59 #[storeV A1 n1 c1 A2 n2 c2 A3 n3 c3 A4 n4 c4, .int .i64 (a : Int)] w (RetS (Node8P w.heap.size (nodeAt S a)) w) := by
  obtain ⟨hl1, hl2, hl3, hl4⟩ := storeMay_len hS
  obtain ⟨hn3, hc3, hm3, hA3⟩ := h.now.at_
  obtain ⟨b3, o3, rfl, hb3⟩ := hA3 (by omega)
  have hcell : w.cell? ⟨b3, o3 + a, none⟩ = some (.int .u8 ((S.now[a]?.getD 0).toNat : Int)) := by
    obtain ⟨A', c', e, _, _, hr⟩ := h.now
    cases e
    obtain ⟨b', off', e, _, hc⟩ := hr.2 (by omega)
    cases e
    exact hc a _ (by rw [List.getElem?_map, List.getElem?_eq_getElem (by omega)]; rfl)
  have hN : nodeAt S a = if (S.now[a]?.getD 0).toNat = 0 then none else nodeRead (seenB S a) := rfl
  rw [hN]
  have HS := Lib.hid (fun W (hW : Ext w W) => seen_any A1 n1 c1 A2 n2 c2 S a (by omega) hl2 W (h.ext hW).bs (h.ext hW).ws)
  have HR := Lib.hid (fun v W (hv : Bys W W.heap.size v (seenB S a)) => nreadr_any v (seenB S a) W hv)
  generalize seenB S a = l at *
  generalize (S.now[a]?.getD 0).toNat = nw at *
  generalize nodeRead l = R at *
  have hn : n3 = 256 := by rw [hn3, hl3]
  have hbw : b3 ≠ w.heap.size := by omega
  clear hN h hn3 hS hl1 hl2 hl3 hl4 hA3
  subst hn
  have hd1 : decide ((a : Int) < 8) = false := decide_eq_false (by omega)
  have hd2 : decide ((a : Int) ≥ 256) = false := decide_eq_false (by omega)
  by_cases h0 : nw = 0
  · subst h0
    rw [if_pos rfl]
    clear HS HR
    go_enter Tryz.func59, Tryz.ntmps59
    go_wp2
    generalize hwf : (World.alloc _ _) = wf
    have rf : wf.heap[w.heap.size + 1]? = some (.cells #[.int .i64 0, .slice none 0 0] 118 (0, 0)) := by rw [← hwf]; exact World.alloc_heap_at _ _ _ (by simp)
    have bf : Below w.heap.size w wf := by rw [← hwf]; exact (by repeat' (first | with_reducible exact Below.refl _ _ | with_reducible assumption | with_reducible apply Below.drew | with_reducible apply below_drewN | with_reducible refine Below.alloc ?_ ?_ _ | with_reducible refine Below.setCell ?_ ?_ _ | (simp; done) | (simp; omega) | omega))
    have kf := cells_row rf
    exact bodyPost_ret (v := noNode8) (by simp [results, Tryz.results59, go_sem, kf]) rfl ⟨_, rfl, rfl, bf⟩
  · rw [if_neg h0]
    have hne : ((nw : Int) == 0) = false := by rw [beq_eq_false_iff_ne]; omega
    clear h0
    go_enter Tryz.func59, Tryz.ntmps59
    go_wp2_with fail
    generalize hw1 : (World.alloc (World.alloc _ _) _) = w1
    have x1 : Ext w w1 := by rw [← hw1]; exact (Ext.alloc _ _).trans (Ext.alloc _ _)
    have q1 : w1.heap[w.heap.size + 1]? = some (.cells #[.int .i64 0, .slice none 0 0] 118 (0, 0)) := by rw [← hw1]; exact World.alloc_heap_at _ _ _ (by simp)
    clear hw1
    refine (HS.out _ x1).mono ?_
    rintro e w2 ⟨u, rfl, hu, hB⟩
    have x2 := x1.trans hB
    have q2 := row_ext q1 hB
    clear hB q1 HS
    go_wp2_with fail
    refine (HR.out _ _ hu).mono ?_
    clear HR hu
    rintro e w3 ⟨u3, rfl, hu3, hB⟩
    have x3 := x2.trans hB
    have q3 := row_ext q2 hB
    have s3 : w.heap.size + 1 < w3.heap.size := (Array.getElem?_eq_some_iff.1 q3).1
    have s2 : w.heap.size + 1 < w2.heap.size := (Array.getElem?_eq_some_iff.1 q2).1
    have k3 := cells_row q3
    have f3 := frozen_row q3
    have x3' : Below w.heap.size w w3 := x3
    clear hB q2
    rcases R with _ | ⟨lvl, xs⟩
    · obtain ⟨er, hne2, rfl⟩ := hu3
      have hne3 : (er == 0) = false := by rw [beq_eq_false_iff_ne]; exact hne2
      go_wp2
      generalize hwf : (World.alloc _ _) = wf
      have rf : wf.heap[w.heap.size + 1]? = some (.cells #[.int .i64 0, .slice none 0 0] 118 (0, 0)) := by rw [← hwf]; exact (Below.heap_alloc _ _ _ (by simpa using s3)).trans (row_set (row_set q3 0 _) 1 _)
      have bf : Below w.heap.size w wf := by rw [← hwf]; exact (by repeat' (first | with_reducible exact Below.refl _ _ | with_reducible assumption | with_reducible apply Below.drew | with_reducible apply below_drewN | with_reducible refine Below.alloc ?_ ?_ _ | with_reducible refine Below.setCell ?_ ?_ _ | (simp; done) | (simp; omega) | omega))
      have kf := cells_row rf
      exact bodyPost_ret (v := noNode8) (by simp [results, Tryz.results59, go_sem, kf, hne3]) rfl ⟨_, rfl, rfl, bf⟩
    · obtain ⟨A, c, rfl, hi⟩ := hu3
      go_wp2
      generalize hwf : (World.alloc _ _) = wf
      have rf : wf.heap[w.heap.size + 1]? = some (.cells #[.int .i64 lvl, .slice A xs.length c] 118 (0, 0)) := by rw [← hwf]; exact (Below.heap_alloc _ _ _ (by simpa using s3)).trans (row_set (row_set q3 0 _) 1 _)
      have bf : Below w.heap.size w wf := by rw [← hwf]; exact (by repeat' (first | with_reducible exact Below.refl _ _ | with_reducible assumption | with_reducible apply Below.drew | with_reducible apply below_drewN | with_reducible refine Below.alloc ?_ ?_ _ | with_reducible refine Below.setCell ?_ ?_ _ | (simp; done) | (simp; omega) | omega))
      have hfi : ItsF w2.heap.size wf (.slice A xs.length c) xs := by
        refine hi.keep (by rw [← hwf]; simp) (fun p h1 h2 => ?_)
        rw [← hwf, World.cell?_alloc_lt _ _ _ (by simpa using h2), World.cell?_setCell_other _ _ _ _ (fun e => by subst e; simp at h1; omega), World.cell?_setCell_other _ _ _ _ (fun e => by subst e; simp at h1; omega)]
      have kf := cells_row rf
      exact bodyPost_ret (v := .tuple #[nodeV lvl A xs.length c, .bool true]) (by simp [results, Tryz.results59, go_sem, kf]) rfl ⟨_, rfl, ⟨A, c, rfl, hfi.mono (by omega)⟩, bf⟩
end Go.Proofs.YtckhnchnbeoogaaGreat
/- Contracts: a store on a bench. -/
namespace Go.Proofs.YtckhnchnbeoogaaGreat
set_option linter.unusedSimpArgs false
set_option linter.unusedVariables false
open Go.RowKit

set_option maxHeartbeats 1000000 in
theorem clip_any (A : Option Addr) (n c : Nat) (hn : n ≤ c) (hc : c ≤ maxLen) (w : World) :
    Calls Tryz.prog 91 #[.slice A n c] w (Ret (.slice A n n) w) := by
  unfold maxLen at hc
  go_enter Tryz.func91, Tryz.ntmps91
  have h1 : (n : Int) ≤ (c : Int) := by omega
  have h2 : (0 : Int) ≤ (n : Int) := by omega
  go_wp2
  go_ret
  exact ⟨rfl, Below.refl _ _⟩

def OnB (lo b : Nat) (v1 v2 v3 v4 : Value) (S : Sto) (W : World) : Prop := lo ≤ b ∧ W.heap[b]? = some (.cells #[v1, v2, v3, v4] 167 (0, 0)) ∧ StoAt W W.heap.size v1 v2 v3 v4 S
theorem Wrs.clip {w : World} {B : Nat} {A : Option Addr} {n c : Nat} {ws : List (Int × List UInt8)} (h : Wrs w B (.slice A n c) ws) : Wrs w B (.slice A n n) ws := by
  obtain ⟨ps, e, ⟨A', c', e1, e2, e3, hr⟩, hp⟩ := h
  cases e1
  exact ⟨ps, e, ⟨_, _, rfl, Nat.le_refl _, by omega, hr⟩, hp⟩

set_option maxHeartbeats 2000000 in
set_option maxRecDepth 100000 in
theorem on_any (A1 : Option Addr) (n1 c1 : Nat) (A2 : Option Addr) (n2 c2 : Nat) (A3 : Option Addr) (n3 c3 : Nat) (A4 : Option Addr) (n4 c4 : Nat) (S : Sto) (hl : S.now.length < 1073741824) (w : World) (h : StoAt w w.heap.size (.slice A1 n1 c1) (.slice A2 n2 c2) (.slice A3 n3 c3) (.slice A4 n4 c4) S) :
    Calls Tryz.prog 55 #[storeV A1 n1 c1 A2 n2 c2 A3 n3 c3 A4 n4 c4] w (RetS (fun u W => ∃ b A3' c3', u = .pointer (some ⟨b, 0, none⟩) ∧ OnB w.heap.size b (.slice A1 n1 c1) (.slice A2 n2 n2) (.slice A3' n3 c3') (.slice A4 n4 c4) S W ∧ From w.heap.size (.slice A3' n3 c3')) w) := by
  have hn3 : Hid (n3 = S.now.length) := Lib.hid h.now.at_.1
  obtain ⟨-, h2a, h2b, -⟩ := h.ws.at_
  have HC := Lib.hid (fun W (hW : Ext w W) => bclone_any (.slice A3 n3 c3) S.now hl W (h.ext hW).now)
  replace h := Lib.hid h
  go_enter Tryz.func55, Tryz.ntmps55
  go_wp2_with fail
  generalize hw1 : (World.alloc _ _) = w1
  have x1 : Ext w w1 := by rw [← hw1]; exact Ext.alloc _ _
  have r1 : w1.heap[w.heap.size]? = some (.cells #[.slice A1 n1 c1, .slice A2 n2 c2, .slice A3 n3 c3, .slice A4 n4 c4] 28 (0, 0)) := by rw [← hw1]; exact World.alloc_heap_at _ _ _ rfl
  clear hw1
  refine (HC.out _ x1).mono ?_
  rintro e w2 ⟨u, rfl, hu, hB⟩
  have x2 := x1.trans hB
  have r2 := row_ext r1 hB
  have hby := Bys.of_own hu
  have hfr := From.of_own hu
  have s1 : w.heap.size < w1.heap.size := (Array.getElem?_eq_some_iff.1 r1).1
  obtain ⟨A3', c3', rfl, _, _⟩ := own_slice hu
  have k2 := cells_row r2
  have f2 := frozen_row r2
  clear hB r1 HC hu
  rw [← hn3.out] at hby hfr ⊢
  go_wp2_with fail
  have hby3 := hby.setCell hfr (p := ⟨w.heap.size, 2, none⟩) s1 (.slice A3' n3 c3')
  generalize hw3 : (World.setCell _ _ _) = w3 at *
  have x3 : Ext w w3 := by rw [← hw3]; exact Below.setCell x2 (p := ⟨w.heap.size, 2, none⟩) (Nat.le_refl _) _
  have r3 : w3.heap[w.heap.size]? = some (.cells #[.slice A1 n1 c1, .slice A2 n2 c2, .slice A3' n3 c3', .slice A4 n4 c4] 28 (0, 0)) := by rw [← hw3]; exact row_set r2 2 _
  have hz3 : w3.heap.size = w2.heap.size := by rw [← hw3]; simp
  rw [← hz3] at hby3
  clear hw3 k2 f2 r2 x2 hby
  refine (clip_any A2 n2 c2 h2a h2b _).mono ?_
  rintro e w4 ⟨rfl, hB⟩
  have x4 := x3.trans hB
  have r4 := row_ext r3 hB
  have hby4 := (hby3.below hB).more hB.size
  have k4 := cells_row r4
  have f4 := frozen_row r4
  have s4 : w.heap.size < w4.heap.size := (Array.getElem?_eq_some_iff.1 r4).1
  clear hB r3 x3 hby3
  go_wp2
  have hfrw : From w.heap.size (.slice A3' n3 c3') := hfr.mono (by omega)
  have hby5 := hby4.setCell hfr (p := ⟨w.heap.size, 1, none⟩) s1 (.slice A2 n2 n2)
  have bf : Below w.heap.size w ((w4.setCell ⟨w.heap.size, 1, none⟩ (.slice A2 n2 n2)).alloc (.cells #[.slice A1 n1 c1, .slice A2 n2 n2, .slice A3' n3 c3', .slice A4 n4 c4] 167)) := by
    have x4' : Below w.heap.size w w4 := x4
    exact (by repeat' (first | with_reducible exact Below.refl _ _ | with_reducible assumption | with_reducible apply Below.drew | with_reducible apply below_drewN | with_reducible refine Below.alloc ?_ ?_ _ | with_reducible refine Below.setCell ?_ ?_ _ | (simp; done) | (simp; omega) | omega))
  go_ret
  refine ⟨_, rfl, ⟨w4.heap.size, A3', c3', rfl, ⟨by omega, World.alloc_heap_at _ _ _ (by simp), ?_⟩, hfrw⟩, bf⟩
  have h0 := (h.out.below bf).more bf.size
  refine ⟨h0.bs, h0.ws.clip, ?_, h0.last⟩
  exact (hby5.below (Below.alloc (Below.refl _ _) (by simp) _)).more (by simp)
end Go.Proofs.YtckhnchnbeoogaaGreat
/- slices.Backward over writes: what its iterator hands to a loop's body. -/
namespace Go.Proofs.YtckhnchnbeoogaaGreat
set_option linter.unusedSimpArgs false
set_option linter.unusedVariables false
open Go.RowKit Go.Shelf

attribute [local go_sem] Oper.semAt_some

abbrev Sl : Type := Option Addr × Nat × Nat
abbrev sv (s : Sl) : Value := .slice s.1 s.2.1 s.2.2
abbrev W2 : Type := Int × Sl
abbrev w2z : W2 := (0, none, 0, 0)

set_option maxRecDepth 100000 in
set_option maxHeartbeats 1000000 in
theorem backW_in (n : Nat) (hn : 1 ≤ n) (l Bs b off len cap : Nat) (us : List W2) (hreach : len < 1099511627776) (J Jx : List (Nat × W2) → World → Prop)
    (hY : ∀ pre x W, J pre W → pre.length < len → YieldAt Fence.wide (n - 1) Tryz.prog l #[.int .i64 (x.1 : Int), .agg #[.int .i64 x.2.1, sv x.2.2]] W fun e W' =>
      (e = .returned (.bool true) ∧ J (pre ++ [x]) W' ∧ Keep2 Bs b W W') ∨ (e = .returned (.bool false) ∧ Jx (pre ++ [x]) W'))
    (W : World) (hBs : W.cell? ⟨Bs, 0, none⟩ = some (.slice (some ⟨b, off, none⟩) len cap)) (hc : ∀ i, i < len → W.cell? ⟨b, off + i * 2, none⟩ = some (.int .i64 (us[i]?.getD w2z).1) ∧ W.cell? ⟨b, off + i * 2 + 1, none⟩ = some (sv (us[i]?.getD w2z).2)) (h0 : J [] W) :
    CallsIn Fence.wide n Tryz.prog 112 #[.func (.yield l) #[] #[], .pointer (some ⟨Bs, 0, none⟩)] W fun e W' => (∃ v, e = .returned v) ∧
      ((∃ ys, ys = upto (fun j => (len - 1 - j, us[len - 1 - j]?.getD w2z)) len ∧ J ys W') ∨ (∃ pre, (∃ k, k ≤ len ∧ pre = upto (fun j => (len - 1 - j, us[len - 1 - j]?.getD w2z)) k) ∧ Jx pre W')) := by
  refine callsIn_of_wp Tryz.func112 rfl trivial ?_ rfl
  simp only [Tryz.ntmps112, List.size_toArray, List.length_cons, List.length_nil, Nat.reduceAdd, Nat.reduceSub, Array.replicate_succ, Array.replicate_zero, List.push_toArray, List.append_toArray, List.nil_append, List.cons_append]
  gi_wp2
  gi_loopw [3] (fun i wr => ∃ k : Nat, k ≤ len ∧ i = .int .i64 ((len : Int) - 1 - k) ∧ J (upto (fun j => (len - 1 - j, us[len - 1 - j]?.getD w2z)) k) wr ∧ Keep2 Bs b W wr)
    (fun i _ => (intOf i + 1).toNat)
  case atStart => exact ⟨0, Nat.zero_le _, by simp, h0, Keep2.refl _ _ _⟩
  case round =>
    obtain ⟨k, hk, rfl, hJs, hnx⟩ := hrel
    have hBr : wr.cell? ⟨Bs, 0, none⟩ = some (.slice (some ⟨b, off, none⟩) len cap) := (World.cell?_of_block (w := W) hnx.1).trans hBs
    by_cases hlt : k < len
    · have hcx := (World.cell?_of_block (w := W) (a := ⟨b, off + (len - 1 - k) * 2, none⟩) hnx.2).trans (hc (len - 1 - k) (by omega)).1
      have hcy := (World.cell?_of_block (w := W) (a := ⟨b, off + (len - 1 - k) * 2 + 1, none⟩) hnx.2).trans (hc (len - 1 - k) (by omega)).2
      obtain ⟨fn, tmps, assign, body, hy, hR⟩ := hY _ (len - 1 - k, us[len - 1 - k]?.getD w2z) wr hJs (by rw [upto_length]; exact hlt)
      dsimp only at hy
      obtain ⟨i, hi⟩ : ∃ i : Nat, len - 1 - k = i := ⟨_, rfl⟩
      have hi2 : (len : Int) - 1 - k = (i : Int) := by omega
      have hil : i < len := by omega
      have hik : k + i + 1 ≤ len ∧ len ≤ k + i + 1 := by omega
      have HU := Lib.hid (upto_succ (fun j => (len - 1 - j, us[len - 1 - j]?.getD w2z)) k)
      obtain ⟨u, hu⟩ : ∃ u, us[i]?.getD w2z = u := ⟨_, rfl⟩
      rw [hi] at hcx hcy hy hR
      rw [hu] at hcx hcy hy hR
      rw [hi2]
      clear hi2
      have HE := Lib.hid hu
      clear hu
      have HI := Lib.hid hi
      clear hi
      gi_wp2
      refine hR.mono ?_
      rintro e W3 (⟨rfl, hJ3, hk3⟩ | ⟨rfl, hJx3⟩)
      · gi_wp2
        go_roundw
        case rel => exact ⟨k + 1, by omega, by go_num, by rw [HU.out, HI.out, HE.out]; exact hJ3, hnx.t hk3⟩
        case measure => simp [intOf]
      · gi_wp2
        refine bodyPost_ret (results_none rfl _ _ _) rfl ?_
        exact ⟨⟨_, rfl⟩, .inr ⟨_, ⟨k + 1, by omega, by rw [HU.out, HI.out, HE.out]⟩, hJx3⟩⟩
    · obtain rfl : k = len := by omega
      gi_wp2
      go_end0
      exact ⟨⟨_, rfl⟩, .inl ⟨_, rfl, hJs⟩⟩

set_option maxRecDepth 100000 in
set_option maxHeartbeats 1000000 in
theorem backW_nil_in (n l Bs c : Nat) (A : Option Addr) (J : List (Nat × W2) → World → Prop) (W : World) (hBs : W.cell? ⟨Bs, 0, none⟩ = some (.slice A 0 c)) (h0 : J [] W) :
    CallsIn Fence.wide n Tryz.prog 112 #[.func (.yield l) #[] #[], .pointer (some ⟨Bs, 0, none⟩)] W fun e W' => (∃ v, e = .returned v) ∧ J [] W' := by
  refine callsIn_of_wp Tryz.func112 rfl trivial ?_ rfl
  simp only [Tryz.ntmps112, List.size_toArray, List.length_cons, List.length_nil, Nat.reduceAdd, Nat.reduceSub, Array.replicate_succ, Array.replicate_zero, List.push_toArray, List.append_toArray, List.nil_append, List.cons_append]
  gi_wp2
  gi_loopw [3] (fun i wr => i = .int .i64 (-1) ∧ J [] wr) (fun _ _ => 0)
  case atStart => exact ⟨rfl, h0⟩
  case round =>
    obtain ⟨rfl, hJs⟩ := hrel
    gi_wp2
    go_end0
    exact ⟨⟨_, rfl⟩, hJs⟩

def backsW (us : List W2) (k : Nat) : List (Nat × W2) := upto (fun j => (us.length - 1 - j, us[us.length - 1 - j]?.getD w2z)) k
def SW (W : World) (Bs b : Nat) (v : Value) (us : List W2) : Prop :=
  W.cell? ⟨Bs, 0, none⟩ = some v ∧ ((us = [] ∧ ∃ A c, v = .slice A 0 c) ∨ ∃ off cap, v = .slice (some ⟨b, off, none⟩) us.length cap ∧ ∀ i, i < us.length → W.cell? ⟨b, off + i * 2, none⟩ = some (.int .i64 (us[i]?.getD w2z).1) ∧ W.cell? ⟨b, off + i * 2 + 1, none⟩ = some (sv (us[i]?.getD w2z).2))
theorem SW.keep {W W' : World} {Bs b : Nat} {v : Value} {us : List W2} (h : SW W Bs b v us) (hk : Keep2 Bs b W W') : SW W' Bs b v us := by
  refine ⟨(World.cell?_of_block (w := W) hk.1).trans h.1, ?_⟩
  rcases h.2 with h | ⟨off, cap, e, hc⟩
  · exact .inl h
  · exact .inr ⟨off, cap, e, fun i hi => ⟨(World.cell?_of_block (w := W) hk.2).trans (hc i hi).1, (World.cell?_of_block (w := W) hk.2).trans (hc i hi).2⟩⟩

theorem backW_stops (n : Nat) (hn : 1 ≤ n) (Bs b : Nat) (v : Value) (us : List W2) (hreach : us.length < 1099511627776) (w : World) (hBs : Bs < w.heap.size) (hb : b < w.heap.size) (hS : SW w Bs b v us) :
    SeqStopsK Fence.wide n Tryz.prog 112 #[.pointer (some ⟨Bs, 0, none⟩)] (fun x : Nat × W2 => #[.int .i64 (x.1 : Int), .agg #[.int .i64 x.2.1, sv x.2.2]]) (Keep2 Bs b) (fun ys => ys = backsW us us.length)
      (fun pre => ∃ k, k ≤ us.length ∧ pre = backsW us k) us.length w := fun l J Jx W hW _ _ hY h0 => by
  obtain ⟨hc, h⟩ := hS.keep (Keep2.below hW hBs hb)
  rcases h with ⟨rfl, A, c, rfl⟩ | ⟨off, cap, rfl, hcs⟩
  · exact (backW_nil_in n l Bs c A J W hc h0).mono fun e W' ⟨he, hj⟩ => ⟨he, .inl ⟨_, rfl, hj⟩⟩
  · exact backW_in n hn l Bs b off us.length cap us hreach J Jx hY W hc hcs h0

set_option maxHeartbeats 1000000 in
theorem backwardW_any (A : Option Addr) (m c : Nat) (w : World) :
    Calls Tryz.prog 86 #[.slice A m c] w (fun e w' => e = .returned (.func (.func 112) #[] #[.pointer (some ⟨w.heap.size, 0, none⟩)]) ∧ w' = w.alloc (.cells #[.slice A m c] 23)) := by
  go_enter Tryz.func86, Tryz.ntmps86
  go_wp2
  go_ret
  exact ⟨rfl, rfl⟩
end Go.Proofs.YtckhnchnbeoogaaGreat
