/- Texts SameD, SameN, Same8, Same14, SameIts, joined. -/
import Derived.Test.YtckhnchnbeoogaaGreatT11
import Derived.Test.YtckhnchnbeoogaaGreatT18
import Derived.Test.YtckhnchnbeoogaaGreatT21
/- Contracts: are two disks the same? -/
namespace Go.Proofs.YtckhnchnbeoogaaGreat
set_option linter.unusedSimpArgs false
set_option linter.unusedVariables false
open Go.RowKit

theorem take_eq_succ {α : Type} {l m : List α} {k : Nat} (h : l.take k = m.take k) (hl : k < l.length) (hm : k < m.length) (hx : l[k] = m[k]) : l.take (k + 1) = m.take (k + 1) := by
  rw [List.take_succ_eq_append_getElem hl, List.take_succ_eq_append_getElem hm, h, hx]
theorem ne_of_getElem {α : Type} {l m : List α} {k : Nat} (hl : k < l.length) (hm : k < m.length) (hx : l[k] ≠ m[k]) : l ≠ m := fun e => by subst e; exact hx rfl

set_option maxHeartbeats 4000000 in
set_option maxRecDepth 100000 in
theorem same3_any (A1 : Option Addr) (n1 c1 : Nat) (A2 : Option Addr) (n2 c2 : Nat) (B1 : Option Addr) (m1 d1 : Nat) (B2 : Option Addr) (m2 d2 : Nat) (bs bs' : List (List UInt8)) (ws ws' : List (Int × List UInt8)) (hbl : bs.length < 1000000) (hwl : ws.length < 1000000) (w : World)
    (hb : Bls w w.heap.size (.slice A1 n1 c1) bs) (hw : Wrs w w.heap.size (.slice A2 n2 c2) ws) (hb' : Bls w w.heap.size (.slice B1 m1 d1) bs') (hw' : Wrs w w.heap.size (.slice B2 m2 d2) ws') :
    Calls Tryz.prog 64 #[diskV A1 n1 c1 A2 n2 c2, diskV B1 m1 d1 B2 m2 d2] w (Ret (.bool (decide (bs = bs' ∧ ws = ws'))) w) := by
  obtain ⟨e1, hc1, hm1, hA1⟩ := hb.at_
  obtain ⟨e2, hc2, hm2, hA2⟩ := hw.at_
  obtain ⟨e3, hc3, hm3, hA3⟩ := hb'.at_
  obtain ⟨e4, hc4, hm4, hA4⟩ := hw'.at_
  subst e1
  subst e2
  subst e3
  subst e4
  by_cases hh : bs.length = bs'.length ∧ ws.length = ws'.length
  case neg =>
    have hM : decide (bs = bs' ∧ ws = ws') = false := decide_eq_false (fun h => hh ⟨by rw [h.1], by rw [h.2]⟩)
    rw [hM]
    clear hM hb hw hb' hw' hA1 hA2 hA3 hA4
    generalize bs.length = n1 at *
    generalize ws.length = n2 at *
    generalize bs'.length = n3 at *
    generalize ws'.length = n4 at *
    go_enter Tryz.func64, Tryz.ntmps64
    go_wp2
    all_goals try simp only [beq_iff_eq, beq_eq_false_iff_ne, ne_eq, bne_iff_ne, bne_eq_false_iff_eq] at *
    all_goals first | (exfalso; omega) | skip
    all_goals go_ret
    all_goals exact ⟨rfl, (by repeat' (first | with_reducible exact Below.refl _ _ | with_reducible assumption | with_reducible apply Below.drew | with_reducible apply below_drewN | with_reducible refine Below.alloc ?_ ?_ _ | with_reducible refine Below.setCell ?_ ?_ _ | (simp; done) | (simp; omega) | omega))⟩
  case pos =>
    obtain ⟨hl1, hl2⟩ := hh
    have HB := Lib.hid hb
    have HW := Lib.hid hw
    have HB' := Lib.hid hb'
    have HW' := Lib.hid hw'
    clear hb hw hb' hw'
    have hd1 : ((bs.length : Int) != (bs'.length : Int)) = false := by rw [bne_eq_false_iff_eq]; omega
    have hd2 : ((ws.length : Int) != (ws'.length : Int)) = false := by rw [bne_eq_false_iff_eq]; omega
    have hd3 : decide (bs.length = bs'.length) = true := decide_eq_true hl1
    replace hl1 := Lib.hid hl1
    replace hl2 := Lib.hid hl2
    go_enter Tryz.func64, Tryz.ntmps64
    go_wp2
    generalize hw1 : (World.alloc (World.alloc _ _) _) = w1
    have x1 : Ext w w1 := by rw [← hw1]; exact (Ext.alloc _ _).trans (Ext.alloc _ _)
    have r1 : w1.heap[w.heap.size]? = some (.cells #[.slice A1 bs.length c1, .slice A2 ws.length c2] 25 (0, 0)) := by rw [← hw1]; exact (Below.heap_alloc _ _ _ (by simp)).trans (World.alloc_heap_at _ _ _ rfl)
    have q1 : w1.heap[w.heap.size + 1]? = some (.cells #[.slice B1 bs'.length d1, .slice B2 ws'.length d2] 25 (0, 0)) := by rw [← hw1]; exact World.alloc_heap_at _ _ _ (by simp)
    clear hw1
    go_loopw [5] (fun i wr => ∃ k : Nat, k ≤ bs.length ∧ i = .int .i64 (k : Int) ∧ bs.take k = bs'.take k ∧ Ext w1 wr) (fun i _ => bs.length - (intOf i).toNat)
    case atStart => exact ⟨0, by omega, rfl, rfl, Ext.refl _⟩
    case round =>
      obtain ⟨k, hk, rfl, hok, hE⟩ := hrel
      have hEw := x1.trans hE
      have rr := row_ext r1 hE
      have qr := row_ext q1 hE
      have kr := cells_row rr
      replace hok := Lib.hid hok
      by_cases hlt : k < bs.length
      · have hlt' := hlt
        have hlt3 : k < bs'.length := by rw [← hl1.out]; exact hlt
        obtain ⟨b1, o1, rfl, hb1⟩ := hA1 (by omega)
        obtain ⟨b3, o3, rfl, hb3⟩ := hA3 (by omega)
        obtain ⟨A', c', hc, hby⟩ := ((HB.out.below hEw).more hEw.size).get k hlt
        obtain ⟨B', d', hd, hby'⟩ := ((HB'.out.below hEw).more hEw.size).get k hlt3
        have HT := Lib.hid (fun h => take_eq_succ hok.out hlt hlt3 h)
        have HN := Lib.hid (fun h => @ne_of_getElem _ _ _ k hlt hlt3 h)
        generalize bs[k] = l at *
        generalize bs'[k] = l' at *
        have g1 : ∀ W, extRel.r wr W → ∀ i, W.cell? ⟨w.heap.size, i, none⟩ = #[.slice (some ⟨b1, o1, none⟩) bs.length c1, .slice A2 ws.length c2][i]? := fun W h => cells_row (row_ext rr h)
        have g2 : ∀ W, extRel.r wr W → ∀ i, W.cell? ⟨w.heap.size + 1, i, none⟩ = #[.slice (some ⟨b3, o3, none⟩) bs'.length d1, .slice B2 ws'.length d2][i]? := fun W h => cells_row (row_ext qr h)
        have g3 : ∀ W, extRel.r wr W → W.cell? ⟨b1, o1 + k, none⟩ = some (.slice A' l.length c') := fun W h => Ext.cell h hc
        have g4 : ∀ W, extRel.r wr W → W.cell? ⟨b3, o3 + k, none⟩ = some (.slice B' l'.length d') := fun W h => Ext.cell h hd
        have v1 : ∀ W, extRel.r wr W → (convert 26 9 (.slice A' l.length c')).run Tryz.prog W = .ok (.string (bstr l)) W := fun W h => run_convert_bys (hby.below h) _ _ _ Tryz.underlying26 Tryz.underlying5 Tryz.underlying9
        have v2 : ∀ W, extRel.r wr W → (convert 26 9 (.slice B' l'.length d')).run Tryz.prog W = .ok (.string (bstr l')) W := fun W h => run_convert_bys (hby'.below h) _ _ _ Tryz.underlying26 Tryz.underlying5 Tryz.underlying9
        have i1 : decide (k < bs.length) = true := decide_eq_true hlt
        have i2 : decide (k < bs'.length) = true := decide_eq_true hlt3
        go_wp2_with fail
        clear kr hc hd hby hby'
        by_cases hxy : l = l'
        · have he := HT.out hxy
          subst hxy
          replace he := Lib.hid he
          refine region_start (by kernel_rfl) ?_
          refine any_free (w := wr) extRel (outsAt []) [true, true, true, true, true, true, true, true, true, true, true, true, true] 0 (by kernel_rfl) (by kernel_rfl) (by kernel_rfl) (by kernel_rfl) (by kernel_rfl) (by kernel_rfl) ?st (Rel.drew _ _) ?walk
          case st => exact outsAt_stableG (fun _ h => by cases h)
          case walk =>
            intro K hK
            dsimp only [maskOps]
            repeat ((first | (refine free_plainM ?_ (by rfl) (by rfl) (fun W hW _ => ⟨W, ?_, Rel.refl _ W⟩) ?_; rotate_left; (first | (go_simp; with_reducible rfl) | (go_simp; done))) | (refine free_skipM (by rfl) ?_)); try simp only [Act.put, one_f, outB_f, outNew_f, outI_f, List.setIfInBounds_toArray, List.set_cons_zero, List.set_cons_succ])
            first
              | (refine free_plainM (.pointer (some ⟨b1, o1 + k, none⟩)) (by rfl) (by rfl) (fun W hW _ => ⟨W, ?_, Rel.refl _ W⟩) ?_
                 · go_simp
                   rw [IntWalk.i64_in (k : Int) (by omega), if_pos (by omega)]
                   simp
                 simp only [Act.put, one_f, outB_f, outNew_f, outI_f, List.setIfInBounds_toArray, List.set_cons_zero, List.set_cons_succ])
              | skip
            repeat ((first | (refine free_plainM ?_ (by rfl) (by rfl) (fun W hW _ => ⟨W, ?_, Rel.refl _ W⟩) ?_; rotate_left; (first | (go_simp; with_reducible rfl) | (go_simp; done))) | (refine free_skipM (by rfl) ?_)); try simp only [Act.put, one_f, outB_f, outNew_f, outI_f, List.setIfInBounds_toArray, List.set_cons_zero, List.set_cons_succ])
            first
              | (refine free_plainM (.pointer (some ⟨b3, o3 + k, none⟩)) (by rfl) (by rfl) (fun W hW _ => ⟨W, ?_, Rel.refl _ W⟩) ?_
                 · go_simp
                   rw [IntWalk.i64_in (k : Int) (by omega), if_pos (by omega)]
                   simp
                 simp only [Act.put, one_f, outB_f, outNew_f, outI_f, List.setIfInBounds_toArray, List.set_cons_zero, List.set_cons_succ])
              | skip
            repeat ((first | (refine free_plainM ?_ (by rfl) (by rfl) (fun W hW _ => ⟨W, ?_, Rel.refl _ W⟩) ?_; rotate_left; (first | (go_simp; with_reducible rfl) | (go_simp; done))) | (refine free_skipM (by rfl) ?_)); try simp only [Act.put, one_f, outB_f, outNew_f, outI_f, List.setIfInBounds_toArray, List.set_cons_zero, List.set_cons_succ])
            refine free_nilM (hK _ _ fun W hW hF => ?_)
            clear hF hK g1 g2 g3 g4 v1 v2
            have hW' : Ext wr W := hW
            dsimp only [List.drop, List.length_cons, List.length_nil]
            go_wp2
            refine QN_in ?_
            go_wp2
            go_roundw
            case rel => exact ⟨k + 1, by omega, by go_num, he.out, hE.trans hW'⟩
            case measure => simp [intOf]; omega
        · have hs : bstr l ≠ bstr l' := fun h => hxy (bstr_inj h)
          have hr1 : (!((bstr l).toList == (bstr l').toList)) = true := by rw [bstr_toList, bstr_toList, Bool.not_eq_true', beq_eq_false_iff_ne]; exact hxy
          have hf : decide (bs = bs' ∧ ws = ws') = false := decide_eq_false (fun h => HN.out hxy h.1)
          replace hf := Lib.hid hf
          refine region_start (by kernel_rfl) ?_
          refine any_free (w := wr) extRel (outsAt []) [true, true, true, true, true, true, true, true, true, true, true, true, true] 0 (by kernel_rfl) (by kernel_rfl) (by kernel_rfl) (by kernel_rfl) (by kernel_rfl) (by kernel_rfl) ?st (Rel.drew _ _) ?walk
          case st => exact outsAt_stableG (fun _ h => by cases h)
          case walk =>
            intro K hK
            dsimp only [maskOps]
            repeat ((first | (refine free_plainM ?_ (by rfl) (by rfl) (fun W hW _ => ⟨W, ?_, Rel.refl _ W⟩) ?_; rotate_left; (first | (go_simp; with_reducible rfl) | (go_simp; done))) | (refine free_skipM (by rfl) ?_)); try simp only [Act.put, one_f, outB_f, outNew_f, outI_f, List.setIfInBounds_toArray, List.set_cons_zero, List.set_cons_succ])
            first
              | (refine free_plainM (.pointer (some ⟨b1, o1 + k, none⟩)) (by rfl) (by rfl) (fun W hW _ => ⟨W, ?_, Rel.refl _ W⟩) ?_
                 · go_simp
                   rw [IntWalk.i64_in (k : Int) (by omega), if_pos (by omega)]
                   simp
                 simp only [Act.put, one_f, outB_f, outNew_f, outI_f, List.setIfInBounds_toArray, List.set_cons_zero, List.set_cons_succ])
              | skip
            repeat ((first | (refine free_plainM ?_ (by rfl) (by rfl) (fun W hW _ => ⟨W, ?_, Rel.refl _ W⟩) ?_; rotate_left; (first | (go_simp; with_reducible rfl) | (go_simp; done))) | (refine free_skipM (by rfl) ?_)); try simp only [Act.put, one_f, outB_f, outNew_f, outI_f, List.setIfInBounds_toArray, List.set_cons_zero, List.set_cons_succ])
            first
              | (refine free_plainM (.pointer (some ⟨b3, o3 + k, none⟩)) (by rfl) (by rfl) (fun W hW _ => ⟨W, ?_, Rel.refl _ W⟩) ?_
                 · go_simp
                   rw [IntWalk.i64_in (k : Int) (by omega), if_pos (by omega)]
                   simp
                 simp only [Act.put, one_f, outB_f, outNew_f, outI_f, List.setIfInBounds_toArray, List.set_cons_zero, List.set_cons_succ])
              | skip
            repeat ((first | (refine free_plainM ?_ (by rfl) (by rfl) (fun W hW _ => ⟨W, ?_, Rel.refl _ W⟩) ?_; rotate_left; (first | (go_simp; with_reducible rfl) | (go_simp; done))) | (refine free_skipM (by rfl) ?_)); try simp only [Act.put, one_f, outB_f, outNew_f, outI_f, List.setIfInBounds_toArray, List.set_cons_zero, List.set_cons_succ])
            refine free_nilM (hK _ _ fun W hW hF => ?_)
            clear hF hK g1 g2 g3 g4 v1 v2
            have hW' : Ext wr W := hW
            dsimp only [List.drop, List.length_cons, List.length_nil]
            go_wp2
            refine QN_in ?_
            go_wp2
            go_ret
            exact ⟨by rw [hf.out]; rfl, hEw.trans hW'⟩
      · obtain rfl : k = bs.length := by omega
        have hbb : bs = bs' := by
          have h := hok.out
          rw [List.take_length, List.take_of_length_le (by rw [hl1.out]; exact Nat.le_refl _)] at h
          exact h
        replace hbb := Lib.hid hbb
        clear HB HB' hok hd1 hd3
        go_wp2
        clear kr
        go_loopw [6] (fun i wq => ∃ k : Nat, k ≤ ws.length ∧ i = .int .i64 (k : Int) ∧ ws.take k = ws'.take k ∧ Ext wr wq) (fun i _ => ws.length - (intOf i).toNat)
        case atStart => exact ⟨0, by omega, rfl, rfl, Ext.refl _⟩
        case round =>
          obtain ⟨j, hj, rfl, hok2, hE2⟩ := hrel
          have hEq := hEw.trans hE2
          have rq := row_ext rr hE2
          have qq := row_ext qr hE2
          have kr := cells_row rq
          replace hok2 := Lib.hid hok2
          by_cases hlt2 : j < ws.length
          · have hlt2' := hlt2
            have hlt4 : j < ws'.length := by rw [← hl2.out]; exact hlt2
            obtain ⟨b2, o2, rfl, hb2⟩ := hA2 (by omega)
            obtain ⟨b4, o4, rfl, hb4⟩ := hA4 (by omega)
            obtain ⟨A', c', ha, hc, hby⟩ := ((HW.out.below hEq).more hEq.size).get j hlt2
            obtain ⟨B', d', hp, hd, hby'⟩ := ((HW'.out.below hEq).more hEq.size).get j hlt4
            have HT := Lib.hid (fun h1 h2 => take_eq_succ hok2.out hlt2 hlt4 (Prod.ext h1 h2))
            have HN := Lib.hid (fun (h : ¬(ws[j].1 = ws'[j].1 ∧ ws[j].2 = ws'[j].2)) => @ne_of_getElem _ _ _ j hlt2 hlt4 (fun e => h ⟨by rw [e], by rw [e]⟩))
            generalize ws[j].1 = a at *
            generalize ws'[j].1 = a' at *
            generalize ws[j].2 = l at *
            generalize ws'[j].2 = l' at *
            have g1 : ∀ W, extRel.r wr W → ∀ i, W.cell? ⟨w.heap.size, i, none⟩ = #[.slice A1 bs.length c1, .slice (some ⟨b2, o2, none⟩) ws.length c2][i]? := fun W h => cells_row (row_ext rq h)
            have g2 : ∀ W, extRel.r wr W → ∀ i, W.cell? ⟨w.heap.size + 1, i, none⟩ = #[.slice B1 bs'.length d1, .slice (some ⟨b4, o4, none⟩) ws'.length d2][i]? := fun W h => cells_row (row_ext qq h)
            have g3 : ∀ W, extRel.r wr W → W.cell? ⟨b2, o2 + j * 2, none⟩ = some (.int .i64 a) := fun W h => Ext.cell h ha
            have g4 : ∀ W, extRel.r wr W → W.cell? ⟨b2, o2 + j * 2 + 1, none⟩ = some (.slice A' l.length c') := fun W h => Ext.cell h hc
            have g5 : ∀ W, extRel.r wr W → W.cell? ⟨b4, o4 + j * 2, none⟩ = some (.int .i64 a') := fun W h => Ext.cell h hp
            have g6 : ∀ W, extRel.r wr W → W.cell? ⟨b4, o4 + j * 2 + 1, none⟩ = some (.slice B' l'.length d') := fun W h => Ext.cell h hd
            have v1 : ∀ W, extRel.r wr W → (convert 26 9 (.slice A' l.length c')).run Tryz.prog W = .ok (.string (bstr l)) W := fun W h => run_convert_bys (hby.below h) _ _ _ Tryz.underlying26 Tryz.underlying5 Tryz.underlying9
            have v2 : ∀ W, extRel.r wr W → (convert 26 9 (.slice B' l'.length d')).run Tryz.prog W = .ok (.string (bstr l')) W := fun W h => run_convert_bys (hby'.below h) _ _ _ Tryz.underlying26 Tryz.underlying5 Tryz.underlying9
            have i1 : decide (j < ws.length) = true := decide_eq_true hlt2
            have i2 : decide (j < ws'.length) = true := decide_eq_true hlt4
            go_wp2_with fail
            clear kr ha hc hp hd hby hby'
            by_cases haa : a = a'
            case neg =>
              have hr1 : (a != a') = true := by rw [bne_iff_ne]; exact haa
              have hr2 : (a == a') = false := by rw [beq_eq_false_iff_ne]; exact haa
              have hr3 : decide (a = a') = false := decide_eq_false haa
              have hf : decide (bs = bs' ∧ ws = ws') = false := decide_eq_false (fun h => HN.out (fun e => haa e.1) h.2)
              replace hf := Lib.hid hf
              refine region_start (by kernel_rfl) ?_
              refine any_free (w := wr) extRel (outsAt []) [true, true, true, true, true, true, true, true, true, true, true, true, true, true, true, true, true, true, true, true, true, true, true, true, true, true, true, true, true, true] 0 (by kernel_rfl) (by kernel_rfl) (by kernel_rfl) (by kernel_rfl) (by kernel_rfl) (by kernel_rfl) ?st (Rel.drew _ _) ?walk
              case st => exact outsAt_stableG (fun _ h => by cases h)
              case walk =>
                intro K hK
                dsimp only [maskOps]
                repeat ((first | (refine free_plainM ?_ (by rfl) (by rfl) (fun W hW _ => ⟨W, ?_, Rel.refl _ W⟩) ?_; rotate_left; (first | (go_simp; with_reducible rfl) | (go_simp; done))) | (refine free_skipM (by rfl) ?_)); try simp only [Act.put, one_f, outB_f, outNew_f, outI_f, List.setIfInBounds_toArray, List.set_cons_zero, List.set_cons_succ])
                first
                  | (refine free_plainM (.pointer (some ⟨b2, o2 + j * 2, none⟩)) (by rfl) (by rfl) (fun W hW _ => ⟨W, ?_, Rel.refl _ W⟩) ?_
                     · go_simp
                       rw [IntWalk.i64_in (j : Int) (by omega), if_pos (by omega)]
                       simp
                     simp only [Act.put, one_f, outB_f, outNew_f, outI_f, List.setIfInBounds_toArray, List.set_cons_zero, List.set_cons_succ])
                  | skip
                repeat ((first | (refine free_plainM ?_ (by rfl) (by rfl) (fun W hW _ => ⟨W, ?_, Rel.refl _ W⟩) ?_; rotate_left; (first | (go_simp; with_reducible rfl) | (go_simp; done))) | (refine free_skipM (by rfl) ?_)); try simp only [Act.put, one_f, outB_f, outNew_f, outI_f, List.setIfInBounds_toArray, List.set_cons_zero, List.set_cons_succ])
                first
                  | (refine free_plainM (.pointer (some ⟨b4, o4 + j * 2, none⟩)) (by rfl) (by rfl) (fun W hW _ => ⟨W, ?_, Rel.refl _ W⟩) ?_
                     · go_simp
                       rw [IntWalk.i64_in (j : Int) (by omega), if_pos (by omega)]
                       simp
                     simp only [Act.put, one_f, outB_f, outNew_f, outI_f, List.setIfInBounds_toArray, List.set_cons_zero, List.set_cons_succ])
                  | skip
                repeat ((first | (refine free_plainM ?_ (by rfl) (by rfl) (fun W hW _ => ⟨W, ?_, Rel.refl _ W⟩) ?_; rotate_left; (first | (go_simp; with_reducible rfl) | (go_simp; done))) | (refine free_skipM (by rfl) ?_)); try simp only [Act.put, one_f, outB_f, outNew_f, outI_f, List.setIfInBounds_toArray, List.set_cons_zero, List.set_cons_succ])
                first
                  | (refine free_plainM (.pointer (some ⟨b2, o2 + j * 2, none⟩)) (by rfl) (by rfl) (fun W hW _ => ⟨W, ?_, Rel.refl _ W⟩) ?_
                     · go_simp
                       rw [IntWalk.i64_in (j : Int) (by omega), if_pos (by omega)]
                       simp
                     simp only [Act.put, one_f, outB_f, outNew_f, outI_f, List.setIfInBounds_toArray, List.set_cons_zero, List.set_cons_succ])
                  | skip
                repeat ((first | (refine free_plainM ?_ (by rfl) (by rfl) (fun W hW _ => ⟨W, ?_, Rel.refl _ W⟩) ?_; rotate_left; (first | (go_simp; with_reducible rfl) | (go_simp; done))) | (refine free_skipM (by rfl) ?_)); try simp only [Act.put, one_f, outB_f, outNew_f, outI_f, List.setIfInBounds_toArray, List.set_cons_zero, List.set_cons_succ])
                first
                  | (refine free_plainM (.pointer (some ⟨b4, o4 + j * 2, none⟩)) (by rfl) (by rfl) (fun W hW _ => ⟨W, ?_, Rel.refl _ W⟩) ?_
                     · go_simp
                       rw [IntWalk.i64_in (j : Int) (by omega), if_pos (by omega)]
                       simp
                     simp only [Act.put, one_f, outB_f, outNew_f, outI_f, List.setIfInBounds_toArray, List.set_cons_zero, List.set_cons_succ])
                  | skip
                repeat ((first | (refine free_plainM ?_ (by rfl) (by rfl) (fun W hW _ => ⟨W, ?_, Rel.refl _ W⟩) ?_; rotate_left; (first | (go_simp; with_reducible rfl) | (go_simp; done))) | (refine free_skipM (by rfl) ?_)); try simp only [Act.put, one_f, outB_f, outNew_f, outI_f, List.setIfInBounds_toArray, List.set_cons_zero, List.set_cons_succ])
                refine free_nilM (hK _ _ fun W hW hF => ?_)
                clear hF hK g1 g2 g3 g4 g5 g6 v1 v2
                have hW' : Ext wr W := hW
                dsimp only [List.drop, List.length_cons, List.length_nil]
                go_wp2
                refine QN_in ?_
                go_wp2
                go_ret
                exact ⟨by rw [hf.out]; rfl, hEq.trans hW'⟩
            case pos =>
              by_cases hxy : l = l'
              case pos =>
                have he := HT.out haa hxy
                subst haa
                subst hxy
                replace he := Lib.hid he
                refine region_start (by kernel_rfl) ?_
                refine any_free (w := wr) extRel (outsAt []) [true, true, true, true, true, true, true, true, true, true, true, true, true, true, true, true, true, true, true, true, true, true, true, true, true, true, true, true, true, true] 0 (by kernel_rfl) (by kernel_rfl) (by kernel_rfl) (by kernel_rfl) (by kernel_rfl) (by kernel_rfl) ?st (Rel.drew _ _) ?walk
                case st => exact outsAt_stableG (fun _ h => by cases h)
                case walk =>
                  intro K hK
                  dsimp only [maskOps]
                  repeat ((first | (refine free_plainM ?_ (by rfl) (by rfl) (fun W hW _ => ⟨W, ?_, Rel.refl _ W⟩) ?_; rotate_left; (first | (go_simp; with_reducible rfl) | (go_simp; done))) | (refine free_skipM (by rfl) ?_)); try simp only [Act.put, one_f, outB_f, outNew_f, outI_f, List.setIfInBounds_toArray, List.set_cons_zero, List.set_cons_succ])
                  first
                    | (refine free_plainM (.pointer (some ⟨b2, o2 + j * 2, none⟩)) (by rfl) (by rfl) (fun W hW _ => ⟨W, ?_, Rel.refl _ W⟩) ?_
                       · go_simp
                         rw [IntWalk.i64_in (j : Int) (by omega), if_pos (by omega)]
                         simp
                       simp only [Act.put, one_f, outB_f, outNew_f, outI_f, List.setIfInBounds_toArray, List.set_cons_zero, List.set_cons_succ])
                    | skip
                  repeat ((first | (refine free_plainM ?_ (by rfl) (by rfl) (fun W hW _ => ⟨W, ?_, Rel.refl _ W⟩) ?_; rotate_left; (first | (go_simp; with_reducible rfl) | (go_simp; done))) | (refine free_skipM (by rfl) ?_)); try simp only [Act.put, one_f, outB_f, outNew_f, outI_f, List.setIfInBounds_toArray, List.set_cons_zero, List.set_cons_succ])
                  first
                    | (refine free_plainM (.pointer (some ⟨b4, o4 + j * 2, none⟩)) (by rfl) (by rfl) (fun W hW _ => ⟨W, ?_, Rel.refl _ W⟩) ?_
                       · go_simp
                         rw [IntWalk.i64_in (j : Int) (by omega), if_pos (by omega)]
                         simp
                       simp only [Act.put, one_f, outB_f, outNew_f, outI_f, List.setIfInBounds_toArray, List.set_cons_zero, List.set_cons_succ])
                    | skip
                  repeat ((first | (refine free_plainM ?_ (by rfl) (by rfl) (fun W hW _ => ⟨W, ?_, Rel.refl _ W⟩) ?_; rotate_left; (first | (go_simp; with_reducible rfl) | (go_simp; done))) | (refine free_skipM (by rfl) ?_)); try simp only [Act.put, one_f, outB_f, outNew_f, outI_f, List.setIfInBounds_toArray, List.set_cons_zero, List.set_cons_succ])
                  first
                    | (refine free_plainM (.pointer (some ⟨b2, o2 + j * 2, none⟩)) (by rfl) (by rfl) (fun W hW _ => ⟨W, ?_, Rel.refl _ W⟩) ?_
                       · go_simp
                         rw [IntWalk.i64_in (j : Int) (by omega), if_pos (by omega)]
                         simp
                       simp only [Act.put, one_f, outB_f, outNew_f, outI_f, List.setIfInBounds_toArray, List.set_cons_zero, List.set_cons_succ])
                    | skip
                  repeat ((first | (refine free_plainM ?_ (by rfl) (by rfl) (fun W hW _ => ⟨W, ?_, Rel.refl _ W⟩) ?_; rotate_left; (first | (go_simp; with_reducible rfl) | (go_simp; done))) | (refine free_skipM (by rfl) ?_)); try simp only [Act.put, one_f, outB_f, outNew_f, outI_f, List.setIfInBounds_toArray, List.set_cons_zero, List.set_cons_succ])
                  first
                    | (refine free_plainM (.pointer (some ⟨b4, o4 + j * 2, none⟩)) (by rfl) (by rfl) (fun W hW _ => ⟨W, ?_, Rel.refl _ W⟩) ?_
                       · go_simp
                         rw [IntWalk.i64_in (j : Int) (by omega), if_pos (by omega)]
                         simp
                       simp only [Act.put, one_f, outB_f, outNew_f, outI_f, List.setIfInBounds_toArray, List.set_cons_zero, List.set_cons_succ])
                    | skip
                  repeat ((first | (refine free_plainM ?_ (by rfl) (by rfl) (fun W hW _ => ⟨W, ?_, Rel.refl _ W⟩) ?_; rotate_left; (first | (go_simp; with_reducible rfl) | (go_simp; done))) | (refine free_skipM (by rfl) ?_)); try simp only [Act.put, one_f, outB_f, outNew_f, outI_f, List.setIfInBounds_toArray, List.set_cons_zero, List.set_cons_succ])
                  refine free_nilM (hK _ _ fun W hW hF => ?_)
                  clear hF hK g1 g2 g3 g4 g5 g6 v1 v2
                  have hW' : Ext wr W := hW
                  dsimp only [List.drop, List.length_cons, List.length_nil]
                  go_wp2
                  refine QN_in ?_
                  go_wp2
                  go_roundw
                  case rel => exact ⟨j + 1, by omega, by go_num, he.out, hE2.trans hW'⟩
                  case measure => simp [intOf]; omega
              case neg =>
                have hf : decide (bs = bs' ∧ ws = ws') = false := decide_eq_false (fun h => HN.out (fun e => hxy e.2) h.2)
                have hr1 : (!((bstr l).toList == (bstr l').toList)) = true := by rw [bstr_toList, bstr_toList, Bool.not_eq_true', beq_eq_false_iff_ne]; exact hxy
                subst haa
                replace hf := Lib.hid hf
                refine region_start (by kernel_rfl) ?_
                refine any_free (w := wr) extRel (outsAt []) [true, true, true, true, true, true, true, true, true, true, true, true, true, true, true, true, true, true, true, true, true, true, true, true, true, true, true, true, true, true] 0 (by kernel_rfl) (by kernel_rfl) (by kernel_rfl) (by kernel_rfl) (by kernel_rfl) (by kernel_rfl) ?st (Rel.drew _ _) ?walk
                case st => exact outsAt_stableG (fun _ h => by cases h)
                case walk =>
                  intro K hK
                  dsimp only [maskOps]
                  repeat ((first | (refine free_plainM ?_ (by rfl) (by rfl) (fun W hW _ => ⟨W, ?_, Rel.refl _ W⟩) ?_; rotate_left; (first | (go_simp; with_reducible rfl) | (go_simp; done))) | (refine free_skipM (by rfl) ?_)); try simp only [Act.put, one_f, outB_f, outNew_f, outI_f, List.setIfInBounds_toArray, List.set_cons_zero, List.set_cons_succ])
                  first
                    | (refine free_plainM (.pointer (some ⟨b2, o2 + j * 2, none⟩)) (by rfl) (by rfl) (fun W hW _ => ⟨W, ?_, Rel.refl _ W⟩) ?_
                       · go_simp
                         rw [IntWalk.i64_in (j : Int) (by omega), if_pos (by omega)]
                         simp
                       simp only [Act.put, one_f, outB_f, outNew_f, outI_f, List.setIfInBounds_toArray, List.set_cons_zero, List.set_cons_succ])
                    | skip
                  repeat ((first | (refine free_plainM ?_ (by rfl) (by rfl) (fun W hW _ => ⟨W, ?_, Rel.refl _ W⟩) ?_; rotate_left; (first | (go_simp; with_reducible rfl) | (go_simp; done))) | (refine free_skipM (by rfl) ?_)); try simp only [Act.put, one_f, outB_f, outNew_f, outI_f, List.setIfInBounds_toArray, List.set_cons_zero, List.set_cons_succ])
                  first
                    | (refine free_plainM (.pointer (some ⟨b4, o4 + j * 2, none⟩)) (by rfl) (by rfl) (fun W hW _ => ⟨W, ?_, Rel.refl _ W⟩) ?_
                       · go_simp
                         rw [IntWalk.i64_in (j : Int) (by omega), if_pos (by omega)]
                         simp
                       simp only [Act.put, one_f, outB_f, outNew_f, outI_f, List.setIfInBounds_toArray, List.set_cons_zero, List.set_cons_succ])
                    | skip
                  repeat ((first | (refine free_plainM ?_ (by rfl) (by rfl) (fun W hW _ => ⟨W, ?_, Rel.refl _ W⟩) ?_; rotate_left; (first | (go_simp; with_reducible rfl) | (go_simp; done))) | (refine free_skipM (by rfl) ?_)); try simp only [Act.put, one_f, outB_f, outNew_f, outI_f, List.setIfInBounds_toArray, List.set_cons_zero, List.set_cons_succ])
                  first
                    | (refine free_plainM (.pointer (some ⟨b2, o2 + j * 2, none⟩)) (by rfl) (by rfl) (fun W hW _ => ⟨W, ?_, Rel.refl _ W⟩) ?_
                       · go_simp
                         rw [IntWalk.i64_in (j : Int) (by omega), if_pos (by omega)]
                         simp
                       simp only [Act.put, one_f, outB_f, outNew_f, outI_f, List.setIfInBounds_toArray, List.set_cons_zero, List.set_cons_succ])
                    | skip
                  repeat ((first | (refine free_plainM ?_ (by rfl) (by rfl) (fun W hW _ => ⟨W, ?_, Rel.refl _ W⟩) ?_; rotate_left; (first | (go_simp; with_reducible rfl) | (go_simp; done))) | (refine free_skipM (by rfl) ?_)); try simp only [Act.put, one_f, outB_f, outNew_f, outI_f, List.setIfInBounds_toArray, List.set_cons_zero, List.set_cons_succ])
                  first
                    | (refine free_plainM (.pointer (some ⟨b4, o4 + j * 2, none⟩)) (by rfl) (by rfl) (fun W hW _ => ⟨W, ?_, Rel.refl _ W⟩) ?_
                       · go_simp
                         rw [IntWalk.i64_in (j : Int) (by omega), if_pos (by omega)]
                         simp
                       simp only [Act.put, one_f, outB_f, outNew_f, outI_f, List.setIfInBounds_toArray, List.set_cons_zero, List.set_cons_succ])
                    | skip
                  repeat ((first | (refine free_plainM ?_ (by rfl) (by rfl) (fun W hW _ => ⟨W, ?_, Rel.refl _ W⟩) ?_; rotate_left; (first | (go_simp; with_reducible rfl) | (go_simp; done))) | (refine free_skipM (by rfl) ?_)); try simp only [Act.put, one_f, outB_f, outNew_f, outI_f, List.setIfInBounds_toArray, List.set_cons_zero, List.set_cons_succ])
                  refine free_nilM (hK _ _ fun W hW hF => ?_)
                  clear hF hK g1 g2 g3 g4 g5 g6 v1 v2
                  have hW' : Ext wr W := hW
                  dsimp only [List.drop, List.length_cons, List.length_nil]
                  go_wp2
                  refine QN_in ?_
                  go_wp2
                  go_ret
                  exact ⟨by rw [hf.out]; rfl, hEq.trans hW'⟩
          · obtain rfl : j = ws.length := by omega
            have hww : ws = ws' := by
              have h := hok2.out
              rw [List.take_length, List.take_of_length_le (by rw [hl2.out]; exact Nat.le_refl _)] at h
              exact h
            have ht : decide (bs = bs' ∧ ws = ws') = true := decide_eq_true ⟨hbb.out, hww⟩
            replace ht := Lib.hid ht
            clear hww
            go_wp2
            go_ret
            exact ⟨by rw [ht.out]; rfl, hEq⟩
end Go.Proofs.YtckhnchnbeoogaaGreat
/- Contracts: are two pools the same? (the way of those that are) -/
namespace Go.Proofs.YtckhnchnbeoogaaGreat
set_option linter.unusedSimpArgs false
set_option linter.unusedVariables false
open Go.RowKit

set_option maxHeartbeats 2000000 in
set_option maxRecDepth 100000 in
theorem sameN_any (A : Option Addr) (c : Nat) (B : Option Addr) (d : Nat) (l : List Int) (hl : l.length < 1000000) (w : World)
    (ha : Ints w w.heap.size (.slice A l.length c) l) (hb : Ints w w.heap.size (.slice B l.length d) l) :
    Calls Tryz.prog 32 #[.slice A l.length c, .slice B l.length d] w (Ret (.bool true) w) := by
  have HA := Lib.hid ha
  have HB := Lib.hid hb
  clear ha hb
  have hd1 : ((l.length : Int) != (l.length : Int)) = false := by rw [bne_eq_false_iff_eq]
  go_enter Tryz.func32, Tryz.ntmps32
  go_wp2_with fail
  go_loopw [5] (fun i wr => ∃ k : Nat, k ≤ l.length ∧ i = .int .i64 (k : Int) ∧ Ext w wr) (fun i _ => l.length - (intOf i).toNat)
  case atStart => exact ⟨0, by omega, rfl, Ext.refl _⟩
  case round =>
    obtain ⟨k, hk, rfl, hE⟩ := hrel
    by_cases hlt : k < l.length
    · have hlt' := hlt
      obtain ⟨A', c', e1, _, _, hra⟩ := HA.out
      obtain ⟨B', d', e2, _, _, hrb⟩ := HB.out
      simp only [Value.slice.injEq, true_and] at e1 e2
      obtain ⟨rfl, rfl⟩ := e1
      obtain ⟨rfl, rfl⟩ := e2
      obtain ⟨ba, oa, rfl, _, hca⟩ := (hra.below hE).2 (by omega)
      obtain ⟨bb, ob, rfl, _, hcb⟩ := (hrb.below hE).2 (by omega)
      have da := hca k _ (by rw [List.getElem?_map, List.getElem?_eq_getElem hlt]; rfl)
      have db := hcb k _ (by rw [List.getElem?_map, List.getElem?_eq_getElem hlt]; rfl)
      generalize l[k] = r at *
      clear hca hcb hra hrb
      have hne : (r != r) = false := by rw [bne_eq_false_iff_eq]
      have g1 : ∀ W, extRel.r wr W → W.cell? ⟨ba, oa + k, none⟩ = some (.int .i64 r) := fun W h => Ext.cell h da
      have g2 : ∀ W, extRel.r wr W → W.cell? ⟨bb, ob + k, none⟩ = some (.int .i64 r) := fun W h => Ext.cell h db
      have hwk := Lib.hid (IntWalk.wrap64_in ((k : Int) + 1) (by omega))
      go_wp2_with fail
      refine region_start (by kernel_rfl) ?_
      refine any_freeT (w := wr) extRel (outsAt []) [true, true, true, true, true, true, true, true] 1 (by kernel_rfl) (by kernel_rfl) (by kernel_rfl) (by kernel_rfl) (by kernel_rfl) (by kernel_rfl) (by kernel_rfl) ?st (Rel.drew _ _) ?walk
      case st => exact outsAt_stableG (fun _ h => by cases h)
      case walk =>
        intro K hK
        dsimp only [maskOps]
        repeat ((first | (refine free_plainM ?_ (by rfl) (by rfl) (fun W hW _ => ⟨W, ?_, Rel.refl _ W⟩) ?_; rotate_left; (first | (go_simp; with_reducible rfl) | (go_simp; done))) | (refine free_skipM (by rfl) ?_)); try simp only [Act.put, one_f, outB_f, outNew_f, outI_f, outNew_f, List.setIfInBounds_toArray, List.set_cons_zero, List.set_cons_succ])
        first
          | (refine free_plainM (.pointer (some ⟨ba, oa + k, none⟩)) (by rfl) (by rfl) (fun W hW _ => ⟨W, ?_, Rel.refl _ W⟩) ?_
             · go_simp
               rw [IntWalk.i64_in (k : Int) (by omega), if_pos (by omega)]
               simp
             simp only [Act.put, one_f, outB_f, outNew_f, outI_f, outNew_f, List.setIfInBounds_toArray, List.set_cons_zero, List.set_cons_succ])
          | skip
        repeat ((first | (refine free_plainM ?_ (by rfl) (by rfl) (fun W hW _ => ⟨W, ?_, Rel.refl _ W⟩) ?_; rotate_left; (first | (go_simp; with_reducible rfl) | (go_simp; done))) | (refine free_skipM (by rfl) ?_)); try simp only [Act.put, one_f, outB_f, outNew_f, outI_f, outNew_f, List.setIfInBounds_toArray, List.set_cons_zero, List.set_cons_succ])
        first
          | (refine free_plainM (.pointer (some ⟨bb, ob + k, none⟩)) (by rfl) (by rfl) (fun W hW _ => ⟨W, ?_, Rel.refl _ W⟩) ?_
             · go_simp
               rw [IntWalk.i64_in (k : Int) (by omega), if_pos (by omega)]
               simp
             simp only [Act.put, one_f, outB_f, outNew_f, outI_f, outNew_f, List.setIfInBounds_toArray, List.set_cons_zero, List.set_cons_succ])
          | skip
        repeat ((first | (refine free_plainM ?_ (by rfl) (by rfl) (fun W hW _ => ⟨W, ?_, Rel.refl _ W⟩) ?_; rotate_left; (first | (go_simp; with_reducible rfl) | (go_simp; done))) | (refine free_skipM (by rfl) ?_)); try simp only [Act.put, one_f, outB_f, outNew_f, outI_f, outNew_f, List.setIfInBounds_toArray, List.set_cons_zero, List.set_cons_succ])
        refine free_nilM (hK _ _ fun W hW hF => ?_)
        clear hF hK g1 g2
        have hW' : Ext wr W := hW
        dsimp only [List.drop, List.length_cons, List.length_nil]
        go_wp2
        refine QN_in ?_
        go_wp2_with fail
        try rw [hwk.out]
        refine ⟨⟨k + 1, by omega, rfl, hE.trans hW'⟩, ?_⟩
        simp [intOf]
        omega
    · obtain rfl : k = l.length := by omega
      go_wp2_with fail
      go_ret
      exact ⟨rfl, hE⟩
end Go.Proofs.YtckhnchnbeoogaaGreat
/- Contracts: are two stores the same? (the way of those that are) -/
namespace Go.Proofs.YtckhnchnbeoogaaGreat
set_option linter.unusedSimpArgs false
set_option linter.unusedVariables false
open Go.RowKit

set_option maxHeartbeats 1000000 in
set_option maxRecDepth 100000 in
theorem same8_any (A1 : Option Addr) (n1 c1 : Nat) (A2 : Option Addr) (n2 c2 : Nat) (A3 : Option Addr) (n3 c3 : Nat) (A4 : Option Addr) (n4 c4 : Nat) (B1 : Option Addr) (m1 d1 : Nat) (B2 : Option Addr) (m2 d2 : Nat) (B3 : Option Addr) (m3 d3 : Nat) (B4 : Option Addr) (m4 d4 : Nat) (S : Sto) (hbl : S.bs.length < 1000000) (hwl : S.ws.length < 1000000) (w : World)
    (h : StoAt w w.heap.size (.slice A1 n1 c1) (.slice A2 n2 c2) (.slice A3 n3 c3) (.slice A4 n4 c4) S) (h' : StoAt w w.heap.size (.slice B1 m1 d1) (.slice B2 m2 d2) (.slice B3 m3 d3) (.slice B4 m4 d4) S) :
    Calls Tryz.prog 31 #[storeV A1 n1 c1 A2 n2 c2 A3 n3 c3 A4 n4 c4, storeV B1 m1 d1 B2 m2 d2 B3 m3 d3 B4 m4 d4] w (Ret (.bool true) w) := by
  have HD := Lib.hid (fun W (hW : Ext w W) => by
    have := same3_any A1 n1 c1 A2 n2 c2 B1 m1 d1 B2 m2 d2 S.bs S.bs S.ws S.ws hbl hwl W (h.ext hW).bs (h.ext hW).ws (h'.ext hW).bs (h'.ext hW).ws
    rw [show decide (S.bs = S.bs ∧ S.ws = S.ws) = true from decide_eq_true ⟨rfl, rfl⟩] at this
    exact this)
  have v3 : Hid (∀ W, Ext w W → (convert 26 9 (.slice A3 n3 c3)).run Tryz.prog W = .ok (.string (bstr S.now)) W) := Lib.hid fun W h1 => run_convert_bys (h.ext h1).now _ _ _ Tryz.underlying26 Tryz.underlying5 Tryz.underlying9
  have v4 : Hid (∀ W, Ext w W → (convert 26 9 (.slice A4 n4 c4)).run Tryz.prog W = .ok (.string (bstr S.last)) W) := Lib.hid fun W h1 => run_convert_bys (h.ext h1).last _ _ _ Tryz.underlying26 Tryz.underlying5 Tryz.underlying9
  have u3 : Hid (∀ W, Ext w W → (convert 26 9 (.slice B3 m3 d3)).run Tryz.prog W = .ok (.string (bstr S.now)) W) := Lib.hid fun W h1 => run_convert_bys (h'.ext h1).now _ _ _ Tryz.underlying26 Tryz.underlying5 Tryz.underlying9
  have u4 : Hid (∀ W, Ext w W → (convert 26 9 (.slice B4 m4 d4)).run Tryz.prog W = .ok (.string (bstr S.last)) W) := Lib.hid fun W h1 => run_convert_bys (h'.ext h1).last _ _ _ Tryz.underlying26 Tryz.underlying5 Tryz.underlying9
  clear h h' hbl hwl
  go_enter Tryz.func31, Tryz.ntmps31
  go_wp2_with fail
  generalize hw1 : (World.alloc (World.alloc _ _) _) = w1
  have x1 : Ext w w1 := by rw [← hw1]; exact (Ext.alloc _ _).trans (Ext.alloc _ _)
  have r1 : w1.heap[w.heap.size]? = some (.cells #[.slice A1 n1 c1, .slice A2 n2 c2, .slice A3 n3 c3, .slice A4 n4 c4] 28 (0, 0)) := by rw [← hw1]; exact (Below.heap_alloc _ _ _ (by simp)).trans (World.alloc_heap_at _ _ _ rfl)
  have q1 : w1.heap[w.heap.size + 1]? = some (.cells #[.slice B1 m1 d1, .slice B2 m2 d2, .slice B3 m3 d3, .slice B4 m4 d4] 28 (0, 0)) := by rw [← hw1]; exact World.alloc_heap_at _ _ _ (by simp)
  clear hw1
  refine (HD.out _ x1).mono ?_
  rintro e w2 ⟨rfl, hB⟩
  have x2 := x1.trans hB
  have k2 := cells_row (row_ext r1 hB)
  have j2 := cells_row (row_ext q1 hB)
  have a3 := v3.out _ x2
  have a4 := v4.out _ x2
  have b3 := u3.out _ x2
  have b4 := u4.out _ x2
  clear hB r1 q1 x1 HD v3 v4 u3 u4
  generalize bstr S.now = s3 at *
  generalize bstr S.last = s4 at *
  go_wp2
  go_ret
  exact ⟨ret_bool (by simp), x2⟩
end Go.Proofs.YtckhnchnbeoogaaGreat
/- Contracts: are two pools the same? (the way of those that are) -/
namespace Go.Proofs.YtckhnchnbeoogaaGreat
set_option linter.unusedSimpArgs false
set_option linter.unusedVariables false
open Go.RowKit

set_option maxHeartbeats 1000000 in
set_option maxRecDepth 100000 in
theorem same14_any (A1 : Option Addr) (n1 c1 : Nat) (A2 : Option Addr) (n2 c2 : Nat) (A3 : Option Addr) (n3 c3 : Nat) (A4 : Option Addr) (n4 c4 : Nat) (B1 : Option Addr) (m1 d1 : Nat) (B2 : Option Addr) (m2 d2 : Nat) (B3 : Option Addr) (m3 d3 : Nat) (B4 : Option Addr) (m4 d4 : Nat) (gen root next : Int) (A5 : Option Addr) (c5 : Nat) (B5 : Option Addr) (d5 : Nat) (S : Sto) (dead : List Int) (hbl : S.bs.length < 1000000) (hwl : S.ws.length < 1000000) (hdl : dead.length < 1000000) (w : World)
    (h : StoAt w w.heap.size (.slice A1 n1 c1) (.slice A2 n2 c2) (.slice A3 n3 c3) (.slice A4 n4 c4) S) (h' : StoAt w w.heap.size (.slice B1 m1 d1) (.slice B2 m2 d2) (.slice B3 m3 d3) (.slice B4 m4 d4) S)
    (hd : Ints w w.heap.size (.slice A5 dead.length c5) dead) (hd' : Ints w w.heap.size (.slice B5 dead.length d5) dead) :
    Calls Tryz.prog 13 #[.agg (poolCs (.slice A1 n1 c1) (.slice A2 n2 c2) (.slice A3 n3 c3) (.slice A4 n4 c4) gen root next (.slice A5 dead.length c5)), .agg (poolCs (.slice B1 m1 d1) (.slice B2 m2 d2) (.slice B3 m3 d3) (.slice B4 m4 d4) gen root next (.slice B5 dead.length d5))] w (Ret (.bool true) w) := by
  have HD := Lib.hid (fun W (hW : Ext w W) => same8_any A1 n1 c1 A2 n2 c2 A3 n3 c3 A4 n4 c4 B1 m1 d1 B2 m2 d2 B3 m3 d3 B4 m4 d4 S hbl hwl W (h.ext hW) (h'.ext hW))
  have HN := Lib.hid (fun W (hW : Ext w W) => sameN_any A5 c5 B5 d5 dead hdl W (by
    obtain ⟨A, c, e, q1, q2, q3⟩ := hd
    exact ⟨A, c, e, q1, q2, (q3.below hW).more hW.size⟩) (by
    obtain ⟨A, c, e, q1, q2, q3⟩ := hd'
    exact ⟨A, c, e, q1, q2, (q3.below hW).more hW.size⟩))
  clear h h' hbl hwl hd hd' hdl
  generalize dead.length = n5 at *
  have e1 : (gen == gen) = true := beq_self_eq_true _
  have e2 : (root == root) = true := beq_self_eq_true _
  have e3 : (next == next) = true := beq_self_eq_true _
  go_enter Tryz.func13, Tryz.ntmps13
  go_wp2_with fail
  generalize hw1 : (World.alloc (World.alloc _ _) _) = w1
  have x1 : Ext w w1 := by rw [← hw1]; exact (Ext.alloc _ _).trans (Ext.alloc _ _)
  have r1 : w1.heap[w.heap.size]? = some (.cells #[.slice A1 n1 c1, .slice A2 n2 c2, .slice A3 n3 c3, .slice A4 n4 c4, .int .u32 gen, .int .i64 root, .int .u32 next, .slice A5 n5 c5] 32 (0, 0)) := by rw [← hw1]; exact (Below.heap_alloc _ _ _ (by simp)).trans (World.alloc_heap_at _ _ _ rfl)
  have q1 : w1.heap[w.heap.size + 1]? = some (.cells #[.slice B1 m1 d1, .slice B2 m2 d2, .slice B3 m3 d3, .slice B4 m4 d4, .int .u32 gen, .int .i64 root, .int .u32 next, .slice B5 n5 d5] 32 (0, 0)) := by rw [← hw1]; exact World.alloc_heap_at _ _ _ (by simp)
  clear hw1
  refine (HD.out _ x1).mono ?_
  rintro e w2 ⟨rfl, hB⟩
  have x2 := x1.trans hB
  have k2 := cells_row (row_ext r1 hB)
  have j2 := cells_row (row_ext q1 hB)
  clear hB r1 q1 x1 HD
  go_wp2_with fail
  refine (HN.out _ x2).mono ?_
  rintro e w3 ⟨rfl, hB⟩
  have x3 := x2.trans hB
  clear hB k2 j2 HN x2
  go_wp2
  go_ret
  exact ⟨rfl, x3⟩
end Go.Proofs.YtckhnchnbeoogaaGreat
/- Contracts: two lists of the same items are the same (the document). -/
namespace Go.Proofs.YtckhnchnbeoogaaGreat
set_option linter.unusedSimpArgs false
set_option linter.unusedVariables false
open Go.RowKit

theorem sameB_self (k i o r : Int) (l : List UInt8) : sameB k i o r k i o r l l = true := by simp [sameB]
set_option maxHeartbeats 4000000 in
set_option maxRecDepth 100000 in
theorem sameits_any (A A' : Option Addr) (c c' : Nat) (xs : List It) (hl : xs.length < 1073741824) (w : World) (h : Its w w.heap.size (.slice A xs.length c) xs) (h' : Its w w.heap.size (.slice A' xs.length c') xs) :
    Calls Tryz.prog 12 #[.slice A xs.length c, .slice A' xs.length c'] w (Ret (.bool true) w) := by
  have hA := h.at_.2.2.2
  have hA' := h'.at_.2.2.2
  replace h := Lib.hid h
  replace h' := Lib.hid h'
  go_enter Tryz.func12, Tryz.ntmps12
  go_wp2_with fail
  go_loopw [5] (fun v wr => ∃ n : Nat, n ≤ xs.length ∧ v = .int .i64 (n : Int) ∧ Ext w wr) (fun v _ => xs.length - (intOf v).toNat)
  case atStart => exact ⟨0, Nat.zero_le _, rfl, Ext.refl _⟩
  case round =>
    obtain ⟨n, hn, rfl, xr⟩ := hrel
    by_cases hlt : n < xs.length
    · obtain ⟨b, off, rfl, hb⟩ := hA (by omega)
      obtain ⟨b', off', rfl, hb'⟩ := hA' (by omega)
      obtain ⟨A1, c1, d0, d1, d2, d3, d4, hby⟩ := (h.out.ext xr).item n hlt
      obtain ⟨A2, c2, e0, e1, e2, e3, e4, hby'⟩ := (h'.out.ext xr).item n hlt
      generalize xs[n] = x at *
      have hw1 := Lib.hid (IntWalk.wrap64_in ((n : Int) + 1) (by omega))
      have HC := Lib.hid (fun W (hx : Ext wr W) => rsame_any x.k x.i x.o x.r x.k x.i x.o x.r A1 A2 x.val.length c1 x.val.length c2 x.val x.val W ((hby.below hx).more hx.size) ((hby'.below hx).more hx.size))
      go_wp2_with fail
      have g0 : ∀ W, extRel.r wr W → W.cell? ⟨b, off + n * 5, none⟩ = some (.int .u8 x.k) := fun W h => Ext.cell h d0
      have g1 : ∀ W, extRel.r wr W → W.cell? ⟨b, off + n * 5 + 1, none⟩ = some (.int .u32 x.i) := fun W h => Ext.cell h d1
      have g2 : ∀ W, extRel.r wr W → W.cell? ⟨b, off + n * 5 + 2, none⟩ = some (.int .u32 x.o) := fun W h => Ext.cell h d2
      have g3 : ∀ W, extRel.r wr W → W.cell? ⟨b, off + n * 5 + 3, none⟩ = some (.int .i64 x.r) := fun W h => Ext.cell h d3
      have g4 : ∀ W, extRel.r wr W → W.cell? ⟨b, off + n * 5 + 4, none⟩ = some (.slice A1 x.val.length c1) := fun W h => Ext.cell h d4
      have k0 : ∀ W, extRel.r wr W → W.cell? ⟨b', off' + n * 5, none⟩ = some (.int .u8 x.k) := fun W h => Ext.cell h e0
      have k1 : ∀ W, extRel.r wr W → W.cell? ⟨b', off' + n * 5 + 1, none⟩ = some (.int .u32 x.i) := fun W h => Ext.cell h e1
      have k2 : ∀ W, extRel.r wr W → W.cell? ⟨b', off' + n * 5 + 2, none⟩ = some (.int .u32 x.o) := fun W h => Ext.cell h e2
      have k3 : ∀ W, extRel.r wr W → W.cell? ⟨b', off' + n * 5 + 3, none⟩ = some (.int .i64 x.r) := fun W h => Ext.cell h e3
      have k4 : ∀ W, extRel.r wr W → W.cell? ⟨b', off' + n * 5 + 4, none⟩ = some (.slice A2 x.val.length c2) := fun W h => Ext.cell h e4
      clear d0 d1 d2 d3 d4 e0 e1 e2 e3 e4 hby hby'
      refine region_start (by kernel_rfl) ?_
      refine any_freeT (w := wr) extRel (outsAt [(8, one (.bool true))]) [true, true, true, true, true, true, true, true, true, true] 0 (by kernel_rfl) (by kernel_rfl) (by kernel_rfl) (by kernel_rfl) (by kernel_rfl) (by kernel_rfl) (by kernel_rfl) ?st (Rel.drew _ _) ?walk
      case st => exact outsAt_stableG (by simp only [List.forall_mem_cons]; exact ⟨fun p => stableG_ext (one_stable _ p), fun _ h => by cases h⟩)
      case walk =>
        intro K hK
        dsimp only [maskOps]
        repeat ((first | (refine free_plainM ?_ (by rfl) (by rfl) (fun W hW _ => ⟨W, ?_, Rel.refl _ W⟩) ?_; rotate_left; (first | (go_simp; with_reducible rfl) | (go_simp; done))) | (refine free_skipM (by rfl) ?_)); try simp only [Act.put, one_f, outB_f, outNew_f, outI_f, List.setIfInBounds_toArray, List.set_cons_zero, List.set_cons_succ])
        refine free_hardM (one (.bool true)) (by rfl) (by rfl) (fun W hW _ => ?_) (fun (p : Unit) => ?_)
        · refine hardAt_callE ?_ ((HC.out W hW).mono fun e w' h => ⟨(), by rw [h.1, sameB_self]; rfl, trivial, h.2⟩)
          go_simp
        simp only [Act.put, one_f, outB_f, outNew_f, outI_f, List.setIfInBounds_toArray, List.set_cons_zero, List.set_cons_succ]
        repeat ((first | (refine free_plainM ?_ (by rfl) (by rfl) (fun W hW _ => ⟨W, ?_, Rel.refl _ W⟩) ?_; rotate_left; (first | (go_simp; with_reducible rfl) | (go_simp; done))) | (refine free_skipM (by rfl) ?_)); try simp only [Act.put, one_f, outB_f, outNew_f, outI_f, List.setIfInBounds_toArray, List.set_cons_zero, List.set_cons_succ])
        refine free_nilM (hK _ _ fun W hW hF => ?_)
        clear hF hK g0 g1 g2 g3 g4 k0 k1 k2 k3 k4
        have xW : Hid (Ext w W) := Lib.hid (xr.trans hW)
        have hw2 := hw1.out
        dsimp only [List.drop, List.length_cons, List.length_nil]
        go_wp2
        refine QN_in ?_
        go_wp2_with fail
        refine ⟨⟨n + 1, hlt, rfl, xW.out⟩, ?_⟩
        simp [intOf]
        omega
    · obtain rfl : n = xs.length := by omega
      go_wp2_with fail
      refine bodyPost_ret (v := .bool true) ?_ rfl ⟨rfl, xr⟩
      simp [results, Tryz.results12, go_sem]
end Go.Proofs.YtckhnchnbeoogaaGreat
