/- Texts SameD, SameN, Same8, Same14, Tells31, joined. -/
import Derived.Test.YteikcgjhcniiiaaT12
import Derived.Test.YteikcgjhcniiiaaT13
import Derived.Test.YteikcgjhcniiiaaT19
import Derived.Test.YteikcgjhcniiiaaT26
/- Contracts: are two disks the same? -/
namespace Go.Proofs.Yteikcgjhcniiiaa
set_option linter.unusedSimpArgs false
set_option linter.unusedVariables false
open Go.RowKit

theorem take_eq_succ {α : Type} {l m : List α} {k : Nat} (h : l.take k = m.take k) (hl : k < l.length) (hm : k < m.length) (hx : l[k] = m[k]) : l.take (k + 1) = m.take (k + 1) := by
  rw [List.take_succ_eq_append_getElem hl, List.take_succ_eq_append_getElem hm, h, hx]
theorem ne_of_getElem {α : Type} {l m : List α} {k : Nat} (hl : k < l.length) (hm : k < m.length) (hx : l[k] ≠ m[k]) : l ≠ m := fun e => by subst e; exact hx rfl

set_option maxHeartbeats 4000000 in
set_option maxRecDepth 100000 in
theorem same3_any (A1 : Option Addr) (n1 c1 : Nat) (A2 : Option Addr) (n2 c2 : Nat) (B1 : Option Addr) (m1 d1 : Nat) (B2 : Option Addr) (m2 d2 : Nat) (bs bs' : List (List UInt8)) (ws ws' : List (Int × List UInt8)) (hbl : bs.length < 1000000) (hwl : ws.length < 1000000) (w : World)
    (hb : Bls w w.heap.size (.slice A1 n1 c1) bs) (hw : Wrs w w.heap.size (.slice A2 n2 c2) ws) (hb' : Bls w w.heap.size (.slice B1 m1 d1) bs') (hw' : Wrs w w.heap.size (.slice B2 m2 d2) ws') :
    Calls Try.prog 57 #[diskV A1 n1 c1 A2 n2 c2, diskV B1 m1 d1 B2 m2 d2] w (Ret (.bool (decide (bs = bs' ∧ ws = ws'))) w) := by
  obtain ⟨e1, hc1, hm1, hA1⟩ := hb.at_
  obtain ⟨e2, hc2, hm2, hA2⟩ := hw.at_
  obtain ⟨e3, hc3, hm3, hA3⟩ := hb'.at_
  obtain ⟨e4, hc4, hm4, hA4⟩ := hw'.at_
  subst e1
  subst e2
  subst e3
  subst e4
  by_cases hh : bs.length = bs'.length ∧ ws.length = ws'.length
  case neg =>
    have hM : decide (bs = bs' ∧ ws = ws') = false := decide_eq_false (fun h => hh ⟨by rw [h.1], by rw [h.2]⟩)
    rw [hM]
    clear hM hb hw hb' hw' hA1 hA2 hA3 hA4
    generalize bs.length = n1 at *
    generalize ws.length = n2 at *
    generalize bs'.length = n3 at *
    generalize ws'.length = n4 at *
    go_enter Try.func57, Try.ntmps57
    go_wp2
    all_goals try simp only [beq_iff_eq, beq_eq_false_iff_ne, ne_eq, bne_iff_ne, bne_eq_false_iff_eq] at *
    all_goals first | (exfalso; omega) | skip
    all_goals go_ret
    all_goals exact ⟨rfl, (by repeat' (first | with_reducible exact Below.refl _ _ | with_reducible assumption | with_reducible apply Below.drew | with_reducible apply below_drewN | with_reducible refine Below.alloc ?_ ?_ _ | with_reducible refine Below.setCell ?_ ?_ _ | (simp; done) | (simp; omega) | omega))⟩
  case pos =>
    obtain ⟨hl1, hl2⟩ := hh
    have HB := Lib.hid hb
    have HW := Lib.hid hw
    have HB' := Lib.hid hb'
    have HW' := Lib.hid hw'
    clear hb hw hb' hw'
    have hd1 : ((bs.length : Int) != (bs'.length : Int)) = false := by rw [bne_eq_false_iff_eq]; omega
    have hd2 : ((ws.length : Int) != (ws'.length : Int)) = false := by rw [bne_eq_false_iff_eq]; omega
    have hd3 : decide (bs.length = bs'.length) = true := decide_eq_true hl1
    replace hl1 := Lib.hid hl1
    replace hl2 := Lib.hid hl2
    go_enter Try.func57, Try.ntmps57
    go_wp2
    generalize hw1 : (World.alloc (World.alloc _ _) _) = w1
    have x1 : Ext w w1 := by rw [← hw1]; exact (Ext.alloc _ _).trans (Ext.alloc _ _)
    have r1 : w1.heap[w.heap.size]? = some (.cells #[.slice A1 bs.length c1, .slice A2 ws.length c2] 25 (0, 0)) := by rw [← hw1]; exact (Below.heap_alloc _ _ _ (by simp)).trans (World.alloc_heap_at _ _ _ rfl)
    have q1 : w1.heap[w.heap.size + 1]? = some (.cells #[.slice B1 bs'.length d1, .slice B2 ws'.length d2] 25 (0, 0)) := by rw [← hw1]; exact World.alloc_heap_at _ _ _ (by simp)
    clear hw1
    go_loopw [5] (fun i wr => ∃ k : Nat, k ≤ bs.length ∧ i = .int .i64 (k : Int) ∧ bs.take k = bs'.take k ∧ Ext w1 wr) (fun i _ => bs.length - (intOf i).toNat)
    case atStart => exact ⟨0, by omega, rfl, rfl, Ext.refl _⟩
    case round =>
      obtain ⟨k, hk, rfl, hok, hE⟩ := hrel
      have hEw := x1.trans hE
      have rr := row_ext r1 hE
      have qr := row_ext q1 hE
      have kr := cells_row rr
      replace hok := Lib.hid hok
      by_cases hlt : k < bs.length
      · have hlt' := hlt
        have hlt3 : k < bs'.length := by rw [← hl1.out]; exact hlt
        obtain ⟨b1, o1, rfl, hb1⟩ := hA1 (by omega)
        obtain ⟨b3, o3, rfl, hb3⟩ := hA3 (by omega)
        obtain ⟨A', c', hc, hby⟩ := ((HB.out.below hEw).more hEw.size).get k hlt
        obtain ⟨B', d', hd, hby'⟩ := ((HB'.out.below hEw).more hEw.size).get k hlt3
        have HT := Lib.hid (fun h => take_eq_succ hok.out hlt hlt3 h)
        have HN := Lib.hid (fun h => @ne_of_getElem _ _ _ k hlt hlt3 h)
        generalize bs[k] = l at *
        generalize bs'[k] = l' at *
        have g1 : ∀ W, extRel.r wr W → ∀ i, W.cell? ⟨w.heap.size, i, none⟩ = #[.slice (some ⟨b1, o1, none⟩) bs.length c1, .slice A2 ws.length c2][i]? := fun W h => cells_row (row_ext rr h)
        have g2 : ∀ W, extRel.r wr W → ∀ i, W.cell? ⟨w.heap.size + 1, i, none⟩ = #[.slice (some ⟨b3, o3, none⟩) bs'.length d1, .slice B2 ws'.length d2][i]? := fun W h => cells_row (row_ext qr h)
        have g3 : ∀ W, extRel.r wr W → W.cell? ⟨b1, o1 + k, none⟩ = some (.slice A' l.length c') := fun W h => Ext.cell h hc
        have g4 : ∀ W, extRel.r wr W → W.cell? ⟨b3, o3 + k, none⟩ = some (.slice B' l'.length d') := fun W h => Ext.cell h hd
        have v1 : ∀ W, extRel.r wr W → (convert 26 9 (.slice A' l.length c')).run Try.prog W = .ok (.string (bstr l)) W := fun W h => run_convert_bys (hby.below h) _ _ _ Try.underlying26 Try.underlying5 Try.underlying9
        have v2 : ∀ W, extRel.r wr W → (convert 26 9 (.slice B' l'.length d')).run Try.prog W = .ok (.string (bstr l')) W := fun W h => run_convert_bys (hby'.below h) _ _ _ Try.underlying26 Try.underlying5 Try.underlying9
        have i1 : decide (k < bs.length) = true := decide_eq_true hlt
        have i2 : decide (k < bs'.length) = true := decide_eq_true hlt3
        go_wp2_with fail
        clear kr hc hd hby hby'
        by_cases hxy : l = l'
        · have he := HT.out hxy
          subst hxy
          replace he := Lib.hid he
          refine region_start (by kernel_rfl) ?_
          refine any_free (w := wr) extRel (outsAt []) [true, true, true, true, true, true, true, true, true, true, true, true, true] 0 (by kernel_rfl) (by kernel_rfl) (by kernel_rfl) (by kernel_rfl) (by kernel_rfl) (by kernel_rfl) ?st (Rel.drew _ _) ?walk
          case st => exact outsAt_stableG (fun _ h => by cases h)
          case walk =>
            intro K hK
            dsimp only [maskOps]
            repeat (first | (refine free_plainM ?_ (by rfl) (by rfl) (fun W hW _ => ⟨W, ?_, Rel.refl _ W⟩) ?_; rotate_left; (first | (go_simp; with_reducible rfl) | (go_simp; done)); try simp only [Act.put, one_f, outB_f, outNew_f, outI_f, List.setIfInBounds_toArray, List.set_cons_zero, List.set_cons_succ]) | (refine free_skipM (by rfl) ?_; simp only [Act.put, one_f, outB_f, outNew_f, outI_f, List.setIfInBounds_toArray, List.set_cons_zero, List.set_cons_succ]))
            first
              | (refine free_plainM (.pointer (some ⟨b1, o1 + k, none⟩)) (by rfl) (by rfl) (fun W hW _ => ⟨W, ?_, Rel.refl _ W⟩) ?_
                 · go_simp
                   rw [IntWalk.i64_in (k : Int) (by omega), if_pos (by omega)]
                   simp
                 simp only [Act.put, one_f, outB_f, outNew_f, outI_f, List.setIfInBounds_toArray, List.set_cons_zero, List.set_cons_succ])
              | skip
            repeat (first | (refine free_plainM ?_ (by rfl) (by rfl) (fun W hW _ => ⟨W, ?_, Rel.refl _ W⟩) ?_; rotate_left; (first | (go_simp; with_reducible rfl) | (go_simp; done)); try simp only [Act.put, one_f, outB_f, outNew_f, outI_f, List.setIfInBounds_toArray, List.set_cons_zero, List.set_cons_succ]) | (refine free_skipM (by rfl) ?_; simp only [Act.put, one_f, outB_f, outNew_f, outI_f, List.setIfInBounds_toArray, List.set_cons_zero, List.set_cons_succ]))
            first
              | (refine free_plainM (.pointer (some ⟨b3, o3 + k, none⟩)) (by rfl) (by rfl) (fun W hW _ => ⟨W, ?_, Rel.refl _ W⟩) ?_
                 · go_simp
                   rw [IntWalk.i64_in (k : Int) (by omega), if_pos (by omega)]
                   simp
                 simp only [Act.put, one_f, outB_f, outNew_f, outI_f, List.setIfInBounds_toArray, List.set_cons_zero, List.set_cons_succ])
              | skip
            repeat (first | (refine free_plainM ?_ (by rfl) (by rfl) (fun W hW _ => ⟨W, ?_, Rel.refl _ W⟩) ?_; rotate_left; (first | (go_simp; with_reducible rfl) | (go_simp; done)); try simp only [Act.put, one_f, outB_f, outNew_f, outI_f, List.setIfInBounds_toArray, List.set_cons_zero, List.set_cons_succ]) | (refine free_skipM (by rfl) ?_; simp only [Act.put, one_f, outB_f, outNew_f, outI_f, List.setIfInBounds_toArray, List.set_cons_zero, List.set_cons_succ]))
            refine free_nilM (hK _ _ fun W hW hF => ?_)
            clear hF hK g1 g2 g3 g4 v1 v2
            have hW' : Ext wr W := hW
            dsimp only [List.drop, List.length_cons, List.length_nil]
            go_wp2
            refine QN_in ?_
            go_wp2
            go_roundw
            case rel => exact ⟨k + 1, by omega, by go_num, he.out, hE.trans hW'⟩
            case measure => simp [intOf]; omega
        · have hs : bstr l ≠ bstr l' := fun h => hxy (bstr_inj h)
          have hr1 : (!((bstr l).toList == (bstr l').toList)) = true := by rw [bstr_toList, bstr_toList, Bool.not_eq_true', beq_eq_false_iff_ne]; exact hxy
          have hf : decide (bs = bs' ∧ ws = ws') = false := decide_eq_false (fun h => HN.out hxy h.1)
          replace hf := Lib.hid hf
          refine region_start (by kernel_rfl) ?_
          refine any_free (w := wr) extRel (outsAt []) [true, true, true, true, true, true, true, true, true, true, true, true, true] 0 (by kernel_rfl) (by kernel_rfl) (by kernel_rfl) (by kernel_rfl) (by kernel_rfl) (by kernel_rfl) ?st (Rel.drew _ _) ?walk
          case st => exact outsAt_stableG (fun _ h => by cases h)
          case walk =>
            intro K hK
            dsimp only [maskOps]
            repeat (first | (refine free_plainM ?_ (by rfl) (by rfl) (fun W hW _ => ⟨W, ?_, Rel.refl _ W⟩) ?_; rotate_left; (first | (go_simp; with_reducible rfl) | (go_simp; done)); try simp only [Act.put, one_f, outB_f, outNew_f, outI_f, List.setIfInBounds_toArray, List.set_cons_zero, List.set_cons_succ]) | (refine free_skipM (by rfl) ?_; simp only [Act.put, one_f, outB_f, outNew_f, outI_f, List.setIfInBounds_toArray, List.set_cons_zero, List.set_cons_succ]))
            first
              | (refine free_plainM (.pointer (some ⟨b1, o1 + k, none⟩)) (by rfl) (by rfl) (fun W hW _ => ⟨W, ?_, Rel.refl _ W⟩) ?_
                 · go_simp
                   rw [IntWalk.i64_in (k : Int) (by omega), if_pos (by omega)]
                   simp
                 simp only [Act.put, one_f, outB_f, outNew_f, outI_f, List.setIfInBounds_toArray, List.set_cons_zero, List.set_cons_succ])
              | skip
            repeat (first | (refine free_plainM ?_ (by rfl) (by rfl) (fun W hW _ => ⟨W, ?_, Rel.refl _ W⟩) ?_; rotate_left; (first | (go_simp; with_reducible rfl) | (go_simp; done)); try simp only [Act.put, one_f, outB_f, outNew_f, outI_f, List.setIfInBounds_toArray, List.set_cons_zero, List.set_cons_succ]) | (refine free_skipM (by rfl) ?_; simp only [Act.put, one_f, outB_f, outNew_f, outI_f, List.setIfInBounds_toArray, List.set_cons_zero, List.set_cons_succ]))
            first
              | (refine free_plainM (.pointer (some ⟨b3, o3 + k, none⟩)) (by rfl) (by rfl) (fun W hW _ => ⟨W, ?_, Rel.refl _ W⟩) ?_
                 · go_simp
                   rw [IntWalk.i64_in (k : Int) (by omega), if_pos (by omega)]
                   simp
                 simp only [Act.put, one_f, outB_f, outNew_f, outI_f, List.setIfInBounds_toArray, List.set_cons_zero, List.set_cons_succ])
              | skip
            repeat (first | (refine free_plainM ?_ (by rfl) (by rfl) (fun W hW _ => ⟨W, ?_, Rel.refl _ W⟩) ?_; rotate_left; (first | (go_simp; with_reducible rfl) | (go_simp; done)); try simp only [Act.put, one_f, outB_f, outNew_f, outI_f, List.setIfInBounds_toArray, List.set_cons_zero, List.set_cons_succ]) | (refine free_skipM (by rfl) ?_; simp only [Act.put, one_f, outB_f, outNew_f, outI_f, List.setIfInBounds_toArray, List.set_cons_zero, List.set_cons_succ]))
            refine free_nilM (hK _ _ fun W hW hF => ?_)
            clear hF hK g1 g2 g3 g4 v1 v2
            have hW' : Ext wr W := hW
            dsimp only [List.drop, List.length_cons, List.length_nil]
            go_wp2
            refine QN_in ?_
            go_wp2
            go_ret
            exact ⟨by rw [hf.out]; rfl, hEw.trans hW'⟩
      · obtain rfl : k = bs.length := by omega
        have hbb : bs = bs' := by
          have h := hok.out
          rw [List.take_length, List.take_of_length_le (by rw [hl1.out]; exact Nat.le_refl _)] at h
          exact h
        replace hbb := Lib.hid hbb
        clear HB HB' hok hd1 hd3
        go_wp2
        clear kr
        go_loopw [6] (fun i wq => ∃ k : Nat, k ≤ ws.length ∧ i = .int .i64 (k : Int) ∧ ws.take k = ws'.take k ∧ Ext wr wq) (fun i _ => ws.length - (intOf i).toNat)
        case atStart => exact ⟨0, by omega, rfl, rfl, Ext.refl _⟩
        case round =>
          obtain ⟨j, hj, rfl, hok2, hE2⟩ := hrel
          have hEq := hEw.trans hE2
          have rq := row_ext rr hE2
          have qq := row_ext qr hE2
          have kr := cells_row rq
          replace hok2 := Lib.hid hok2
          by_cases hlt2 : j < ws.length
          · have hlt2' := hlt2
            have hlt4 : j < ws'.length := by rw [← hl2.out]; exact hlt2
            obtain ⟨b2, o2, rfl, hb2⟩ := hA2 (by omega)
            obtain ⟨b4, o4, rfl, hb4⟩ := hA4 (by omega)
            obtain ⟨A', c', ha, hc, hby⟩ := ((HW.out.below hEq).more hEq.size).get j hlt2
            obtain ⟨B', d', hp, hd, hby'⟩ := ((HW'.out.below hEq).more hEq.size).get j hlt4
            have HT := Lib.hid (fun h1 h2 => take_eq_succ hok2.out hlt2 hlt4 (Prod.ext h1 h2))
            have HN := Lib.hid (fun (h : ¬(ws[j].1 = ws'[j].1 ∧ ws[j].2 = ws'[j].2)) => @ne_of_getElem _ _ _ j hlt2 hlt4 (fun e => h ⟨by rw [e], by rw [e]⟩))
            generalize ws[j].1 = a at *
            generalize ws'[j].1 = a' at *
            generalize ws[j].2 = l at *
            generalize ws'[j].2 = l' at *
            have g1 : ∀ W, extRel.r wr W → ∀ i, W.cell? ⟨w.heap.size, i, none⟩ = #[.slice A1 bs.length c1, .slice (some ⟨b2, o2, none⟩) ws.length c2][i]? := fun W h => cells_row (row_ext rq h)
            have g2 : ∀ W, extRel.r wr W → ∀ i, W.cell? ⟨w.heap.size + 1, i, none⟩ = #[.slice B1 bs'.length d1, .slice (some ⟨b4, o4, none⟩) ws'.length d2][i]? := fun W h => cells_row (row_ext qq h)
            have g3 : ∀ W, extRel.r wr W → W.cell? ⟨b2, o2 + j * 2, none⟩ = some (.int .i64 a) := fun W h => Ext.cell h ha
            have g4 : ∀ W, extRel.r wr W → W.cell? ⟨b2, o2 + j * 2 + 1, none⟩ = some (.slice A' l.length c') := fun W h => Ext.cell h hc
            have g5 : ∀ W, extRel.r wr W → W.cell? ⟨b4, o4 + j * 2, none⟩ = some (.int .i64 a') := fun W h => Ext.cell h hp
            have g6 : ∀ W, extRel.r wr W → W.cell? ⟨b4, o4 + j * 2 + 1, none⟩ = some (.slice B' l'.length d') := fun W h => Ext.cell h hd
            have v1 : ∀ W, extRel.r wr W → (convert 26 9 (.slice A' l.length c')).run Try.prog W = .ok (.string (bstr l)) W := fun W h => run_convert_bys (hby.below h) _ _ _ Try.underlying26 Try.underlying5 Try.underlying9
            have v2 : ∀ W, extRel.r wr W → (convert 26 9 (.slice B' l'.length d')).run Try.prog W = .ok (.string (bstr l')) W := fun W h => run_convert_bys (hby'.below h) _ _ _ Try.underlying26 Try.underlying5 Try.underlying9
            have i1 : decide (j < ws.length) = true := decide_eq_true hlt2
            have i2 : decide (j < ws'.length) = true := decide_eq_true hlt4
            go_wp2_with fail
            clear kr ha hc hp hd hby hby'
            by_cases haa : a = a'
            case neg =>
              have hr1 : (a != a') = true := by rw [bne_iff_ne]; exact haa
              have hr2 : (a == a') = false := by rw [beq_eq_false_iff_ne]; exact haa
              have hr3 : decide (a = a') = false := decide_eq_false haa
              have hf : decide (bs = bs' ∧ ws = ws') = false := decide_eq_false (fun h => HN.out (fun e => haa e.1) h.2)
              replace hf := Lib.hid hf
              refine region_start (by kernel_rfl) ?_
              refine any_free (w := wr) extRel (outsAt []) [true, true, true, true, true, true, true, true, true, true, true, true, true, true, true, true, true, true, true, true, true, true, true, true, true, true, true, true, true, true] 0 (by kernel_rfl) (by kernel_rfl) (by kernel_rfl) (by kernel_rfl) (by kernel_rfl) (by kernel_rfl) ?st (Rel.drew _ _) ?walk
              case st => exact outsAt_stableG (fun _ h => by cases h)
              case walk =>
                intro K hK
                dsimp only [maskOps]
                repeat (first | (refine free_plainM ?_ (by rfl) (by rfl) (fun W hW _ => ⟨W, ?_, Rel.refl _ W⟩) ?_; rotate_left; (first | (go_simp; with_reducible rfl) | (go_simp; done)); try simp only [Act.put, one_f, outB_f, outNew_f, outI_f, List.setIfInBounds_toArray, List.set_cons_zero, List.set_cons_succ]) | (refine free_skipM (by rfl) ?_; simp only [Act.put, one_f, outB_f, outNew_f, outI_f, List.setIfInBounds_toArray, List.set_cons_zero, List.set_cons_succ]))
                first
                  | (refine free_plainM (.pointer (some ⟨b2, o2 + j * 2, none⟩)) (by rfl) (by rfl) (fun W hW _ => ⟨W, ?_, Rel.refl _ W⟩) ?_
                     · go_simp
                       rw [IntWalk.i64_in (j : Int) (by omega), if_pos (by omega)]
                       simp
                     simp only [Act.put, one_f, outB_f, outNew_f, outI_f, List.setIfInBounds_toArray, List.set_cons_zero, List.set_cons_succ])
                  | skip
                repeat (first | (refine free_plainM ?_ (by rfl) (by rfl) (fun W hW _ => ⟨W, ?_, Rel.refl _ W⟩) ?_; rotate_left; (first | (go_simp; with_reducible rfl) | (go_simp; done)); try simp only [Act.put, one_f, outB_f, outNew_f, outI_f, List.setIfInBounds_toArray, List.set_cons_zero, List.set_cons_succ]) | (refine free_skipM (by rfl) ?_; simp only [Act.put, one_f, outB_f, outNew_f, outI_f, List.setIfInBounds_toArray, List.set_cons_zero, List.set_cons_succ]))
                first
                  | (refine free_plainM (.pointer (some ⟨b4, o4 + j * 2, none⟩)) (by rfl) (by rfl) (fun W hW _ => ⟨W, ?_, Rel.refl _ W⟩) ?_
                     · go_simp
                       rw [IntWalk.i64_in (j : Int) (by omega), if_pos (by omega)]
                       simp
                     simp only [Act.put, one_f, outB_f, outNew_f, outI_f, List.setIfInBounds_toArray, List.set_cons_zero, List.set_cons_succ])
                  | skip
                repeat (first | (refine free_plainM ?_ (by rfl) (by rfl) (fun W hW _ => ⟨W, ?_, Rel.refl _ W⟩) ?_; rotate_left; (first | (go_simp; with_reducible rfl) | (go_simp; done)); try simp only [Act.put, one_f, outB_f, outNew_f, outI_f, List.setIfInBounds_toArray, List.set_cons_zero, List.set_cons_succ]) | (refine free_skipM (by rfl) ?_; simp only [Act.put, one_f, outB_f, outNew_f, outI_f, List.setIfInBounds_toArray, List.set_cons_zero, List.set_cons_succ]))
                first
                  | (refine free_plainM (.pointer (some ⟨b2, o2 + j * 2, none⟩)) (by rfl) (by rfl) (fun W hW _ => ⟨W, ?_, Rel.refl _ W⟩) ?_
                     · go_simp
                       rw [IntWalk.i64_in (j : Int) (by omega), if_pos (by omega)]
                       simp
                     simp only [Act.put, one_f, outB_f, outNew_f, outI_f, List.setIfInBounds_toArray, List.set_cons_zero, List.set_cons_succ])
                  | skip
                repeat (first | (refine free_plainM ?_ (by rfl) (by rfl) (fun W hW _ => ⟨W, ?_, Rel.refl _ W⟩) ?_; rotate_left; (first | (go_simp; with_reducible rfl) | (go_simp; done)); try simp only [Act.put, one_f, outB_f, outNew_f, outI_f, List.setIfInBounds_toArray, List.set_cons_zero, List.set_cons_succ]) | (refine free_skipM (by rfl) ?_; simp only [Act.put, one_f, outB_f, outNew_f, outI_f, List.setIfInBounds_toArray, List.set_cons_zero, List.set_cons_succ]))
                first
                  | (refine free_plainM (.pointer (some ⟨b4, o4 + j * 2, none⟩)) (by rfl) (by rfl) (fun W hW _ => ⟨W, ?_, Rel.refl _ W⟩) ?_
                     · go_simp
                       rw [IntWalk.i64_in (j : Int) (by omega), if_pos (by omega)]
                       simp
                     simp only [Act.put, one_f, outB_f, outNew_f, outI_f, List.setIfInBounds_toArray, List.set_cons_zero, List.set_cons_succ])
                  | skip
                repeat (first | (refine free_plainM ?_ (by rfl) (by rfl) (fun W hW _ => ⟨W, ?_, Rel.refl _ W⟩) ?_; rotate_left; (first | (go_simp; with_reducible rfl) | (go_simp; done)); try simp only [Act.put, one_f, outB_f, outNew_f, outI_f, List.setIfInBounds_toArray, List.set_cons_zero, List.set_cons_succ]) | (refine free_skipM (by rfl) ?_; simp only [Act.put, one_f, outB_f, outNew_f, outI_f, List.setIfInBounds_toArray, List.set_cons_zero, List.set_cons_succ]))
                refine free_nilM (hK _ _ fun W hW hF => ?_)
                clear hF hK g1 g2 g3 g4 g5 g6 v1 v2
                have hW' : Ext wr W := hW
                dsimp only [List.drop, List.length_cons, List.length_nil]
                go_wp2
                refine QN_in ?_
                go_wp2
                go_ret
                exact ⟨by rw [hf.out]; rfl, hEq.trans hW'⟩
            case pos =>
              by_cases hxy : l = l'
              case pos =>
                have he := HT.out haa hxy
                subst haa
                subst hxy
                replace he := Lib.hid he
                refine region_start (by kernel_rfl) ?_
                refine any_free (w := wr) extRel (outsAt []) [true, true, true, true, true, true, true, true, true, true, true, true, true, true, true, true, true, true, true, true, true, true, true, true, true, true, true, true, true, true] 0 (by kernel_rfl) (by kernel_rfl) (by kernel_rfl) (by kernel_rfl) (by kernel_rfl) (by kernel_rfl) ?st (Rel.drew _ _) ?walk
                case st => exact outsAt_stableG (fun _ h => by cases h)
                case walk =>
                  intro K hK
                  dsimp only [maskOps]
                  repeat (first | (refine free_plainM ?_ (by rfl) (by rfl) (fun W hW _ => ⟨W, ?_, Rel.refl _ W⟩) ?_; rotate_left; (first | (go_simp; with_reducible rfl) | (go_simp; done)); try simp only [Act.put, one_f, outB_f, outNew_f, outI_f, List.setIfInBounds_toArray, List.set_cons_zero, List.set_cons_succ]) | (refine free_skipM (by rfl) ?_; simp only [Act.put, one_f, outB_f, outNew_f, outI_f, List.setIfInBounds_toArray, List.set_cons_zero, List.set_cons_succ]))
                  first
                    | (refine free_plainM (.pointer (some ⟨b2, o2 + j * 2, none⟩)) (by rfl) (by rfl) (fun W hW _ => ⟨W, ?_, Rel.refl _ W⟩) ?_
                       · go_simp
                         rw [IntWalk.i64_in (j : Int) (by omega), if_pos (by omega)]
                         simp
                       simp only [Act.put, one_f, outB_f, outNew_f, outI_f, List.setIfInBounds_toArray, List.set_cons_zero, List.set_cons_succ])
                    | skip
                  repeat (first | (refine free_plainM ?_ (by rfl) (by rfl) (fun W hW _ => ⟨W, ?_, Rel.refl _ W⟩) ?_; rotate_left; (first | (go_simp; with_reducible rfl) | (go_simp; done)); try simp only [Act.put, one_f, outB_f, outNew_f, outI_f, List.setIfInBounds_toArray, List.set_cons_zero, List.set_cons_succ]) | (refine free_skipM (by rfl) ?_; simp only [Act.put, one_f, outB_f, outNew_f, outI_f, List.setIfInBounds_toArray, List.set_cons_zero, List.set_cons_succ]))
                  first
                    | (refine free_plainM (.pointer (some ⟨b4, o4 + j * 2, none⟩)) (by rfl) (by rfl) (fun W hW _ => ⟨W, ?_, Rel.refl _ W⟩) ?_
                       · go_simp
                         rw [IntWalk.i64_in (j : Int) (by omega), if_pos (by omega)]
                         simp
                       simp only [Act.put, one_f, outB_f, outNew_f, outI_f, List.setIfInBounds_toArray, List.set_cons_zero, List.set_cons_succ])
                    | skip
                  repeat (first | (refine free_plainM ?_ (by rfl) (by rfl) (fun W hW _ => ⟨W, ?_, Rel.refl _ W⟩) ?_; rotate_left; (first | (go_simp; with_reducible rfl) | (go_simp; done)); try simp only [Act.put, one_f, outB_f, outNew_f, outI_f, List.setIfInBounds_toArray, List.set_cons_zero, List.set_cons_succ]) | (refine free_skipM (by rfl) ?_; simp only [Act.put, one_f, outB_f, outNew_f, outI_f, List.setIfInBounds_toArray, List.set_cons_zero, List.set_cons_succ]))
                  first
                    | (refine free_plainM (.pointer (some ⟨b2, o2 + j * 2, none⟩)) (by rfl) (by rfl) (fun W hW _ => ⟨W, ?_, Rel.refl _ W⟩) ?_
                       · go_simp
                         rw [IntWalk.i64_in (j : Int) (by omega), if_pos (by omega)]
                         simp
                       simp only [Act.put, one_f, outB_f, outNew_f, outI_f, List.setIfInBounds_toArray, List.set_cons_zero, List.set_cons_succ])
                    | skip
                  repeat (first | (refine free_plainM ?_ (by rfl) (by rfl) (fun W hW _ => ⟨W, ?_, Rel.refl _ W⟩) ?_; rotate_left; (first | (go_simp; with_reducible rfl) | (go_simp; done)); try simp only [Act.put, one_f, outB_f, outNew_f, outI_f, List.setIfInBounds_toArray, List.set_cons_zero, List.set_cons_succ]) | (refine free_skipM (by rfl) ?_; simp only [Act.put, one_f, outB_f, outNew_f, outI_f, List.setIfInBounds_toArray, List.set_cons_zero, List.set_cons_succ]))
                  first
                    | (refine free_plainM (.pointer (some ⟨b4, o4 + j * 2, none⟩)) (by rfl) (by rfl) (fun W hW _ => ⟨W, ?_, Rel.refl _ W⟩) ?_
                       · go_simp
                         rw [IntWalk.i64_in (j : Int) (by omega), if_pos (by omega)]
                         simp
                       simp only [Act.put, one_f, outB_f, outNew_f, outI_f, List.setIfInBounds_toArray, List.set_cons_zero, List.set_cons_succ])
                    | skip
                  repeat (first | (refine free_plainM ?_ (by rfl) (by rfl) (fun W hW _ => ⟨W, ?_, Rel.refl _ W⟩) ?_; rotate_left; (first | (go_simp; with_reducible rfl) | (go_simp; done)); try simp only [Act.put, one_f, outB_f, outNew_f, outI_f, List.setIfInBounds_toArray, List.set_cons_zero, List.set_cons_succ]) | (refine free_skipM (by rfl) ?_; simp only [Act.put, one_f, outB_f, outNew_f, outI_f, List.setIfInBounds_toArray, List.set_cons_zero, List.set_cons_succ]))
                  refine free_nilM (hK _ _ fun W hW hF => ?_)
                  clear hF hK g1 g2 g3 g4 g5 g6 v1 v2
                  have hW' : Ext wr W := hW
                  dsimp only [List.drop, List.length_cons, List.length_nil]
                  go_wp2
                  refine QN_in ?_
                  go_wp2
                  go_roundw
                  case rel => exact ⟨j + 1, by omega, by go_num, he.out, hE2.trans hW'⟩
                  case measure => simp [intOf]; omega
              case neg =>
                have hf : decide (bs = bs' ∧ ws = ws') = false := decide_eq_false (fun h => HN.out (fun e => hxy e.2) h.2)
                have hr1 : (!((bstr l).toList == (bstr l').toList)) = true := by rw [bstr_toList, bstr_toList, Bool.not_eq_true', beq_eq_false_iff_ne]; exact hxy
                subst haa
                replace hf := Lib.hid hf
                refine region_start (by kernel_rfl) ?_
                refine any_free (w := wr) extRel (outsAt []) [true, true, true, true, true, true, true, true, true, true, true, true, true, true, true, true, true, true, true, true, true, true, true, true, true, true, true, true, true, true] 0 (by kernel_rfl) (by kernel_rfl) (by kernel_rfl) (by kernel_rfl) (by kernel_rfl) (by kernel_rfl) ?st (Rel.drew _ _) ?walk
                case st => exact outsAt_stableG (fun _ h => by cases h)
                case walk =>
                  intro K hK
                  dsimp only [maskOps]
                  repeat (first | (refine free_plainM ?_ (by rfl) (by rfl) (fun W hW _ => ⟨W, ?_, Rel.refl _ W⟩) ?_; rotate_left; (first | (go_simp; with_reducible rfl) | (go_simp; done)); try simp only [Act.put, one_f, outB_f, outNew_f, outI_f, List.setIfInBounds_toArray, List.set_cons_zero, List.set_cons_succ]) | (refine free_skipM (by rfl) ?_; simp only [Act.put, one_f, outB_f, outNew_f, outI_f, List.setIfInBounds_toArray, List.set_cons_zero, List.set_cons_succ]))
                  first
                    | (refine free_plainM (.pointer (some ⟨b2, o2 + j * 2, none⟩)) (by rfl) (by rfl) (fun W hW _ => ⟨W, ?_, Rel.refl _ W⟩) ?_
                       · go_simp
                         rw [IntWalk.i64_in (j : Int) (by omega), if_pos (by omega)]
                         simp
                       simp only [Act.put, one_f, outB_f, outNew_f, outI_f, List.setIfInBounds_toArray, List.set_cons_zero, List.set_cons_succ])
                    | skip
                  repeat (first | (refine free_plainM ?_ (by rfl) (by rfl) (fun W hW _ => ⟨W, ?_, Rel.refl _ W⟩) ?_; rotate_left; (first | (go_simp; with_reducible rfl) | (go_simp; done)); try simp only [Act.put, one_f, outB_f, outNew_f, outI_f, List.setIfInBounds_toArray, List.set_cons_zero, List.set_cons_succ]) | (refine free_skipM (by rfl) ?_; simp only [Act.put, one_f, outB_f, outNew_f, outI_f, List.setIfInBounds_toArray, List.set_cons_zero, List.set_cons_succ]))
                  first
                    | (refine free_plainM (.pointer (some ⟨b4, o4 + j * 2, none⟩)) (by rfl) (by rfl) (fun W hW _ => ⟨W, ?_, Rel.refl _ W⟩) ?_
                       · go_simp
                         rw [IntWalk.i64_in (j : Int) (by omega), if_pos (by omega)]
                         simp
                       simp only [Act.put, one_f, outB_f, outNew_f, outI_f, List.setIfInBounds_toArray, List.set_cons_zero, List.set_cons_succ])
                    | skip
                  repeat (first | (refine free_plainM ?_ (by rfl) (by rfl) (fun W hW _ => ⟨W, ?_, Rel.refl _ W⟩) ?_; rotate_left; (first | (go_simp; with_reducible rfl) | (go_simp; done)); try simp only [Act.put, one_f, outB_f, outNew_f, outI_f, List.setIfInBounds_toArray, List.set_cons_zero, List.set_cons_succ]) | (refine free_skipM (by rfl) ?_; simp only [Act.put, one_f, outB_f, outNew_f, outI_f, List.setIfInBounds_toArray, List.set_cons_zero, List.set_cons_succ]))
                  first
                    | (refine free_plainM (.pointer (some ⟨b2, o2 + j * 2, none⟩)) (by rfl) (by rfl) (fun W hW _ => ⟨W, ?_, Rel.refl _ W⟩) ?_
                       · go_simp
                         rw [IntWalk.i64_in (j : Int) (by omega), if_pos (by omega)]
                         simp
                       simp only [Act.put, one_f, outB_f, outNew_f, outI_f, List.setIfInBounds_toArray, List.set_cons_zero, List.set_cons_succ])
                    | skip
                  repeat (first | (refine free_plainM ?_ (by rfl) (by rfl) (fun W hW _ => ⟨W, ?_, Rel.refl _ W⟩) ?_; rotate_left; (first | (go_simp; with_reducible rfl) | (go_simp; done)); try simp only [Act.put, one_f, outB_f, outNew_f, outI_f, List.setIfInBounds_toArray, List.set_cons_zero, List.set_cons_succ]) | (refine free_skipM (by rfl) ?_; simp only [Act.put, one_f, outB_f, outNew_f, outI_f, List.setIfInBounds_toArray, List.set_cons_zero, List.set_cons_succ]))
                  first
                    | (refine free_plainM (.pointer (some ⟨b4, o4 + j * 2, none⟩)) (by rfl) (by rfl) (fun W hW _ => ⟨W, ?_, Rel.refl _ W⟩) ?_
                       · go_simp
                         rw [IntWalk.i64_in (j : Int) (by omega), if_pos (by omega)]
                         simp
                       simp only [Act.put, one_f, outB_f, outNew_f, outI_f, List.setIfInBounds_toArray, List.set_cons_zero, List.set_cons_succ])
                    | skip
                  repeat (first | (refine free_plainM ?_ (by rfl) (by rfl) (fun W hW _ => ⟨W, ?_, Rel.refl _ W⟩) ?_; rotate_left; (first | (go_simp; with_reducible rfl) | (go_simp; done)); try simp only [Act.put, one_f, outB_f, outNew_f, outI_f, List.setIfInBounds_toArray, List.set_cons_zero, List.set_cons_succ]) | (refine free_skipM (by rfl) ?_; simp only [Act.put, one_f, outB_f, outNew_f, outI_f, List.setIfInBounds_toArray, List.set_cons_zero, List.set_cons_succ]))
                  refine free_nilM (hK _ _ fun W hW hF => ?_)
                  clear hF hK g1 g2 g3 g4 g5 g6 v1 v2
                  have hW' : Ext wr W := hW
                  dsimp only [List.drop, List.length_cons, List.length_nil]
                  go_wp2
                  refine QN_in ?_
                  go_wp2
                  go_ret
                  exact ⟨by rw [hf.out]; rfl, hEq.trans hW'⟩
          · obtain rfl : j = ws.length := by omega
            have hww : ws = ws' := by
              have h := hok2.out
              rw [List.take_length, List.take_of_length_le (by rw [hl2.out]; exact Nat.le_refl _)] at h
              exact h
            have ht : decide (bs = bs' ∧ ws = ws') = true := decide_eq_true ⟨hbb.out, hww⟩
            replace ht := Lib.hid ht
            clear hww
            go_wp2
            go_ret
            exact ⟨by rw [ht.out]; rfl, hEq⟩
end Go.Proofs.Yteikcgjhcniiiaa
/- Contracts: are two pools the same? (the way of those that are) -/
namespace Go.Proofs.Yteikcgjhcniiiaa
set_option linter.unusedSimpArgs false
set_option linter.unusedVariables false
open Go.RowKit

set_option maxHeartbeats 2000000 in
set_option maxRecDepth 100000 in
theorem sameN_any (A : Option Addr) (c : Nat) (B : Option Addr) (d : Nat) (l : List Int) (hl : l.length < 1000000) (w : World)
    (ha : Ints w w.heap.size (.slice A l.length c) l) (hb : Ints w w.heap.size (.slice B l.length d) l) :
    Calls Try.prog 30 #[.slice A l.length c, .slice B l.length d] w (Ret (.bool true) w) := by
  have HA := Lib.hid ha
  have HB := Lib.hid hb
  clear ha hb
  have hd1 : ((l.length : Int) != (l.length : Int)) = false := by rw [bne_eq_false_iff_eq]
  go_enter Try.func30, Try.ntmps30
  go_wp2_with fail
  go_loopw [5] (fun i wr => ∃ k : Nat, k ≤ l.length ∧ i = .int .i64 (k : Int) ∧ Ext w wr) (fun i _ => l.length - (intOf i).toNat)
  case atStart => exact ⟨0, by omega, rfl, Ext.refl _⟩
  case round =>
    obtain ⟨k, hk, rfl, hE⟩ := hrel
    by_cases hlt : k < l.length
    · have hlt' := hlt
      obtain ⟨A', c', e1, _, _, hra⟩ := HA.out
      obtain ⟨B', d', e2, _, _, hrb⟩ := HB.out
      simp only [Value.slice.injEq, true_and] at e1 e2
      obtain ⟨rfl, rfl⟩ := e1
      obtain ⟨rfl, rfl⟩ := e2
      obtain ⟨ba, oa, rfl, _, hca⟩ := (hra.below hE).2 (by omega)
      obtain ⟨bb, ob, rfl, _, hcb⟩ := (hrb.below hE).2 (by omega)
      have da := hca k _ (by rw [List.getElem?_map, List.getElem?_eq_getElem hlt]; rfl)
      have db := hcb k _ (by rw [List.getElem?_map, List.getElem?_eq_getElem hlt]; rfl)
      generalize l[k] = r at *
      clear hca hcb hra hrb
      have hne : (r != r) = false := by rw [bne_eq_false_iff_eq]
      have g1 : ∀ W, extRel.r wr W → W.cell? ⟨ba, oa + k, none⟩ = some (.int .i64 r) := fun W h => Ext.cell h da
      have g2 : ∀ W, extRel.r wr W → W.cell? ⟨bb, ob + k, none⟩ = some (.int .i64 r) := fun W h => Ext.cell h db
      have hwk := Lib.hid (IntWalk.wrap64_in ((k : Int) + 1) (by omega))
      go_wp2_with fail
      refine region_start (by kernel_rfl) ?_
      refine any_freeT (w := wr) extRel (outsAt []) [true, true, true, true, true, true, true, true] 1 (by kernel_rfl) (by kernel_rfl) (by kernel_rfl) (by kernel_rfl) (by kernel_rfl) (by kernel_rfl) (by kernel_rfl) ?st (Rel.drew _ _) ?walk
      case st => exact outsAt_stableG (fun _ h => by cases h)
      case walk =>
        intro K hK
        dsimp only [maskOps]
        repeat (first | (refine free_plainM ?_ (by rfl) (by rfl) (fun W hW _ => ⟨W, ?_, Rel.refl _ W⟩) ?_; rotate_left; (first | (go_simp; with_reducible rfl) | (go_simp; done)); try simp only [Act.put, one_f, outB_f, outNew_f, outI_f, outNew_f, List.setIfInBounds_toArray, List.set_cons_zero, List.set_cons_succ]) | (refine free_skipM (by rfl) ?_; simp only [Act.put, one_f, outB_f, outNew_f, outI_f, outNew_f, List.setIfInBounds_toArray, List.set_cons_zero, List.set_cons_succ]))
        first
          | (refine free_plainM (.pointer (some ⟨ba, oa + k, none⟩)) (by rfl) (by rfl) (fun W hW _ => ⟨W, ?_, Rel.refl _ W⟩) ?_
             · go_simp
               rw [IntWalk.i64_in (k : Int) (by omega), if_pos (by omega)]
               simp
             simp only [Act.put, one_f, outB_f, outNew_f, outI_f, outNew_f, List.setIfInBounds_toArray, List.set_cons_zero, List.set_cons_succ])
          | skip
        repeat (first | (refine free_plainM ?_ (by rfl) (by rfl) (fun W hW _ => ⟨W, ?_, Rel.refl _ W⟩) ?_; rotate_left; (first | (go_simp; with_reducible rfl) | (go_simp; done)); try simp only [Act.put, one_f, outB_f, outNew_f, outI_f, outNew_f, List.setIfInBounds_toArray, List.set_cons_zero, List.set_cons_succ]) | (refine free_skipM (by rfl) ?_; simp only [Act.put, one_f, outB_f, outNew_f, outI_f, outNew_f, List.setIfInBounds_toArray, List.set_cons_zero, List.set_cons_succ]))
        first
          | (refine free_plainM (.pointer (some ⟨bb, ob + k, none⟩)) (by rfl) (by rfl) (fun W hW _ => ⟨W, ?_, Rel.refl _ W⟩) ?_
             · go_simp
               rw [IntWalk.i64_in (k : Int) (by omega), if_pos (by omega)]
               simp
             simp only [Act.put, one_f, outB_f, outNew_f, outI_f, outNew_f, List.setIfInBounds_toArray, List.set_cons_zero, List.set_cons_succ])
          | skip
        repeat (first | (refine free_plainM ?_ (by rfl) (by rfl) (fun W hW _ => ⟨W, ?_, Rel.refl _ W⟩) ?_; rotate_left; (first | (go_simp; with_reducible rfl) | (go_simp; done)); try simp only [Act.put, one_f, outB_f, outNew_f, outI_f, outNew_f, List.setIfInBounds_toArray, List.set_cons_zero, List.set_cons_succ]) | (refine free_skipM (by rfl) ?_; simp only [Act.put, one_f, outB_f, outNew_f, outI_f, outNew_f, List.setIfInBounds_toArray, List.set_cons_zero, List.set_cons_succ]))
        refine free_nilM (hK _ _ fun W hW hF => ?_)
        clear hF hK g1 g2
        have hW' : Ext wr W := hW
        dsimp only [List.drop, List.length_cons, List.length_nil]
        go_wp2
        refine QN_in ?_
        go_wp2_with fail
        try rw [hwk.out]
        refine ⟨⟨k + 1, by omega, rfl, hE.trans hW'⟩, ?_⟩
        simp [intOf]
        omega
    · obtain rfl : k = l.length := by omega
      go_wp2_with fail
      go_ret
      exact ⟨rfl, hE⟩
end Go.Proofs.Yteikcgjhcniiiaa
/- Contracts: are two stores the same? (the way of those that are) -/
namespace Go.Proofs.Yteikcgjhcniiiaa
set_option linter.unusedSimpArgs false
set_option linter.unusedVariables false
open Go.RowKit

set_option maxHeartbeats 1000000 in
set_option maxRecDepth 100000 in
theorem same8_any (A1 : Option Addr) (n1 c1 : Nat) (A2 : Option Addr) (n2 c2 : Nat) (A3 : Option Addr) (n3 c3 : Nat) (A4 : Option Addr) (n4 c4 : Nat) (B1 : Option Addr) (m1 d1 : Nat) (B2 : Option Addr) (m2 d2 : Nat) (B3 : Option Addr) (m3 d3 : Nat) (B4 : Option Addr) (m4 d4 : Nat) (S : Sto) (hbl : S.bs.length < 1000000) (hwl : S.ws.length < 1000000) (w : World)
    (h : StoAt w w.heap.size (.slice A1 n1 c1) (.slice A2 n2 c2) (.slice A3 n3 c3) (.slice A4 n4 c4) S) (h' : StoAt w w.heap.size (.slice B1 m1 d1) (.slice B2 m2 d2) (.slice B3 m3 d3) (.slice B4 m4 d4) S) :
    Calls Try.prog 29 #[storeV A1 n1 c1 A2 n2 c2 A3 n3 c3 A4 n4 c4, storeV B1 m1 d1 B2 m2 d2 B3 m3 d3 B4 m4 d4] w (Ret (.bool true) w) := by
  have HD := Lib.hid (fun W (hW : Ext w W) => by
    have := same3_any A1 n1 c1 A2 n2 c2 B1 m1 d1 B2 m2 d2 S.bs S.bs S.ws S.ws hbl hwl W (h.ext hW).bs (h.ext hW).ws (h'.ext hW).bs (h'.ext hW).ws
    rw [show decide (S.bs = S.bs ∧ S.ws = S.ws) = true from decide_eq_true ⟨rfl, rfl⟩] at this
    exact this)
  have v3 : Hid (∀ W, Ext w W → (convert 26 9 (.slice A3 n3 c3)).run Try.prog W = .ok (.string (bstr S.now)) W) := Lib.hid fun W h1 => run_convert_bys (h.ext h1).now _ _ _ Try.underlying26 Try.underlying5 Try.underlying9
  have v4 : Hid (∀ W, Ext w W → (convert 26 9 (.slice A4 n4 c4)).run Try.prog W = .ok (.string (bstr S.last)) W) := Lib.hid fun W h1 => run_convert_bys (h.ext h1).last _ _ _ Try.underlying26 Try.underlying5 Try.underlying9
  have u3 : Hid (∀ W, Ext w W → (convert 26 9 (.slice B3 m3 d3)).run Try.prog W = .ok (.string (bstr S.now)) W) := Lib.hid fun W h1 => run_convert_bys (h'.ext h1).now _ _ _ Try.underlying26 Try.underlying5 Try.underlying9
  have u4 : Hid (∀ W, Ext w W → (convert 26 9 (.slice B4 m4 d4)).run Try.prog W = .ok (.string (bstr S.last)) W) := Lib.hid fun W h1 => run_convert_bys (h'.ext h1).last _ _ _ Try.underlying26 Try.underlying5 Try.underlying9
  clear h h' hbl hwl
  go_enter Try.func29, Try.ntmps29
  go_wp2_with fail
  generalize hw1 : (World.alloc (World.alloc _ _) _) = w1
  have x1 : Ext w w1 := by rw [← hw1]; exact (Ext.alloc _ _).trans (Ext.alloc _ _)
  have r1 : w1.heap[w.heap.size]? = some (.cells #[.slice A1 n1 c1, .slice A2 n2 c2, .slice A3 n3 c3, .slice A4 n4 c4] 28 (0, 0)) := by rw [← hw1]; exact (Below.heap_alloc _ _ _ (by simp)).trans (World.alloc_heap_at _ _ _ rfl)
  have q1 : w1.heap[w.heap.size + 1]? = some (.cells #[.slice B1 m1 d1, .slice B2 m2 d2, .slice B3 m3 d3, .slice B4 m4 d4] 28 (0, 0)) := by rw [← hw1]; exact World.alloc_heap_at _ _ _ (by simp)
  clear hw1
  refine (HD.out _ x1).mono ?_
  rintro e w2 ⟨rfl, hB⟩
  have x2 := x1.trans hB
  have k2 := cells_row (row_ext r1 hB)
  have j2 := cells_row (row_ext q1 hB)
  have a3 := v3.out _ x2
  have a4 := v4.out _ x2
  have b3 := u3.out _ x2
  have b4 := u4.out _ x2
  clear hB r1 q1 x1 HD v3 v4 u3 u4
  generalize bstr S.now = s3 at *
  generalize bstr S.last = s4 at *
  go_wp2
  go_ret
  exact ⟨ret_bool (by simp), x2⟩
end Go.Proofs.Yteikcgjhcniiiaa
/- Contracts: are two pools the same? (the way of those that are) -/
namespace Go.Proofs.Yteikcgjhcniiiaa
set_option linter.unusedSimpArgs false
set_option linter.unusedVariables false
open Go.RowKit

set_option maxHeartbeats 1000000 in
set_option maxRecDepth 100000 in
theorem same14_any (A1 : Option Addr) (n1 c1 : Nat) (A2 : Option Addr) (n2 c2 : Nat) (A3 : Option Addr) (n3 c3 : Nat) (A4 : Option Addr) (n4 c4 : Nat) (B1 : Option Addr) (m1 d1 : Nat) (B2 : Option Addr) (m2 d2 : Nat) (B3 : Option Addr) (m3 d3 : Nat) (B4 : Option Addr) (m4 d4 : Nat) (gen root next : Int) (A5 : Option Addr) (c5 : Nat) (B5 : Option Addr) (d5 : Nat) (S : Sto) (dead : List Int) (hbl : S.bs.length < 1000000) (hwl : S.ws.length < 1000000) (hdl : dead.length < 1000000) (w : World)
    (h : StoAt w w.heap.size (.slice A1 n1 c1) (.slice A2 n2 c2) (.slice A3 n3 c3) (.slice A4 n4 c4) S) (h' : StoAt w w.heap.size (.slice B1 m1 d1) (.slice B2 m2 d2) (.slice B3 m3 d3) (.slice B4 m4 d4) S)
    (hd : Ints w w.heap.size (.slice A5 dead.length c5) dead) (hd' : Ints w w.heap.size (.slice B5 dead.length d5) dead) :
    Calls Try.prog 14 #[.agg (poolCs (.slice A1 n1 c1) (.slice A2 n2 c2) (.slice A3 n3 c3) (.slice A4 n4 c4) gen root next (.slice A5 dead.length c5)), .agg (poolCs (.slice B1 m1 d1) (.slice B2 m2 d2) (.slice B3 m3 d3) (.slice B4 m4 d4) gen root next (.slice B5 dead.length d5))] w (Ret (.bool true) w) := by
  have HD := Lib.hid (fun W (hW : Ext w W) => same8_any A1 n1 c1 A2 n2 c2 A3 n3 c3 A4 n4 c4 B1 m1 d1 B2 m2 d2 B3 m3 d3 B4 m4 d4 S hbl hwl W (h.ext hW) (h'.ext hW))
  have HN := Lib.hid (fun W (hW : Ext w W) => sameN_any A5 c5 B5 d5 dead hdl W (by
    obtain ⟨A, c, e, q1, q2, q3⟩ := hd
    exact ⟨A, c, e, q1, q2, (q3.below hW).more hW.size⟩) (by
    obtain ⟨A, c, e, q1, q2, q3⟩ := hd'
    exact ⟨A, c, e, q1, q2, (q3.below hW).more hW.size⟩))
  clear h h' hbl hwl hd hd' hdl
  generalize dead.length = n5 at *
  have e1 : (gen == gen) = true := beq_self_eq_true _
  have e2 : (root == root) = true := beq_self_eq_true _
  have e3 : (next == next) = true := beq_self_eq_true _
  go_enter Try.func14, Try.ntmps14
  go_wp2_with fail
  generalize hw1 : (World.alloc (World.alloc _ _) _) = w1
  have x1 : Ext w w1 := by rw [← hw1]; exact (Ext.alloc _ _).trans (Ext.alloc _ _)
  have r1 : w1.heap[w.heap.size]? = some (.cells #[.slice A1 n1 c1, .slice A2 n2 c2, .slice A3 n3 c3, .slice A4 n4 c4, .int .u32 gen, .int .i64 root, .int .u32 next, .slice A5 n5 c5] 32 (0, 0)) := by rw [← hw1]; exact (Below.heap_alloc _ _ _ (by simp)).trans (World.alloc_heap_at _ _ _ rfl)
  have q1 : w1.heap[w.heap.size + 1]? = some (.cells #[.slice B1 m1 d1, .slice B2 m2 d2, .slice B3 m3 d3, .slice B4 m4 d4, .int .u32 gen, .int .i64 root, .int .u32 next, .slice B5 n5 d5] 32 (0, 0)) := by rw [← hw1]; exact World.alloc_heap_at _ _ _ (by simp)
  clear hw1
  refine (HD.out _ x1).mono ?_
  rintro e w2 ⟨rfl, hB⟩
  have x2 := x1.trans hB
  have k2 := cells_row (row_ext r1 hB)
  have j2 := cells_row (row_ext q1 hB)
  clear hB r1 q1 x1 HD
  go_wp2_with fail
  refine (HN.out _ x2).mono ?_
  rintro e w3 ⟨rfl, hB⟩
  have x3 := x2.trans hB
  clear hB k2 j2 HN x2
  go_wp2
  go_ret
  exact ⟨rfl, x3⟩
end Go.Proofs.Yteikcgjhcniiiaa
/- scionrylaw31.CheckTells: the walk. -/
namespace Go.Proofs.Yteikcgjhcniiiaa
set_option linter.unusedSimpArgs false
set_option linter.unusedVariables false
open Go.RowKit

set_option maxHeartbeats 4000000 in
set_option maxRecDepth 100000 in
theorem ctells_any (A1 : Option Addr) (c1 : Nat) (A2 : Option Addr) (c2 : Nat) (A3 : Option Addr) (c3 : Nat) (A4 : Option Addr) (c4 : Nat) (gen root next : Int) (A5 : Option Addr) (c5 : Nat) (S : Sto) (dead : List Int) (A6 : Option Addr) (c6 : Nat) (held : List Int) (w : World)
    (h : StoAt w w.heap.size (.slice A1 S.bs.length c1) (.slice A2 S.ws.length c2) (.slice A3 S.now.length c3) (.slice A4 S.last.length c4) S) (hd : Ints w w.heap.size (.slice A5 dead.length c5) dead) (hh : Ints w w.heap.size (.slice A6 held.length c6) held) :
    Calls Try.prog 3 #[.agg (poolCs (.slice A1 S.bs.length c1) (.slice A2 S.ws.length c2) (.slice A3 S.now.length c3) (.slice A4 S.last.length c4) gen root next (.slice A5 dead.length c5)), .slice A6 held.length c6] w (Ret (.bool true) w) := by
  have hp : Hid (∀ W, Below w.heap.size w W → StoAt W W.heap.size (.slice A1 S.bs.length c1) (.slice A2 S.ws.length c2) (.slice A3 S.now.length c3) (.slice A4 S.last.length c4) S) := Lib.hid fun W hW => (h.below hW).more hW.size
  have HI : ∀ {A : Option Addr} {c : Nat} {l : List Int}, Ints w w.heap.size (.slice A l.length c) l → ∀ W, Below w.heap.size w W → Ints W W.heap.size (.slice A l.length c) l := fun hi W hW => by
    obtain ⟨A, c, e, q1, q2, q3⟩ := hi
    exact ⟨A, c, e, q1, q2, (q3.below hW).more hW.size⟩
  have hpd := Lib.hid (HI hd)
  have hph := Lib.hid (HI hh)
  clear h hd hh HI
  go_enter Try.func3, Try.ntmps3
  go_wp2_with fail
  generalize hw1 : (World.alloc _ _) = w1
  have x1 : Ext w w1 := by rw [← hw1]; exact Ext.alloc _ _
  have r1 : w1.heap[w.heap.size]? = some (.cells (poolCs (.slice A1 S.bs.length c1) (.slice A2 S.ws.length c2) (.slice A3 S.now.length c3) (.slice A4 S.last.length c4) gen root next (.slice A5 dead.length c5)) 32 (0, 0)) := by rw [← hw1]; exact World.alloc_heap_at _ _ _ rfl
  clear hw1
  refine (great14_any _ _ _ _ _ _ _ _ _ _ _ _ _ _ _ _ _ _ S w1 (hp.out w1 x1)).mono ?_
  rintro e w2 ⟨rfl, hB⟩
  have x2 : Ext w w2 := x1.trans hB
  have r2 := row_ext r1 hB
  have k2 := cells_row r2
  clear hB r1 x1
  cases hgr : greatP S dead.length
  case true =>
    go_wp2
    go_ret
    exact ⟨rfl, x2⟩
  case false =>
    obtain ⟨hS, hdl⟩ := short_of_great hgr
    clear hgr
    by_cases hh2 : 2000 < held.length
    · have d2 : decide ((held.length : Int) > 2000) = true := decide_eq_true (by omega)
      clear hS
      go_wp2
      go_ret
      exact ⟨rfl, x2⟩
    · have d2 : decide ((held.length : Int) > 2000) = false := decide_eq_false (by omega)
      have hSh := Lib.hid hS
      clear hS
      go_wp2_with fail
      refine (twin14_any _ _ _ _ _ _ _ _ _ _ _ _ _ _ _ S dead hSh.out hdl w2 (hp.out w2 x2) (hpd.out w2 x2)).mono ?_
      rintro e w3 ⟨u, rfl, ⟨B1, d1, B2, d2, B3, d3, B4, d4, B5, d5, rfl, hT⟩, hB⟩
      have x23 : Ext w2 w3 := hB
      have x3 : Ext w w3 := x2.trans x23
      have r3 := row_ext r2 x23
      have ho : Hid (∀ W, Below w3.heap.size w3 W → StoAt W W.heap.size (.slice B1 S.bs.length d1) (.slice B2 S.ws.length d2) (.slice B3 S.now.length d3) (.slice B4 S.last.length d4) S) := Lib.hid fun W hW => ((hT W fun q _ hq => hW.cell hq).1).more hW.size
      have hod : Hid (∀ W, Below w3.heap.size w3 W → Ints W W.heap.size (.slice B5 dead.length d5) dead) := Lib.hid fun W hW => by
        obtain ⟨A, c, e, q1, q2, q3⟩ := (hT W fun q _ hq => hW.cell hq).2
        exact ⟨A, c, e, q1, q2, q3.more hW.size⟩
      clear hT hB x23 r2 k2
      go_wp2_with fail
      generalize hw4 : World.alloc w3 _ = w4
      have x34 : Ext w3 w4 := by rw [← hw4]; exact Ext.alloc _ _
      have q4 : w4.heap[w3.heap.size]? = some (.cells (poolCs (.slice B1 S.bs.length d1) (.slice B2 S.ws.length d2) (.slice B3 S.now.length d3) (.slice B4 S.last.length d4) gen root next (.slice B5 dead.length d5)) 32 (0, 0)) := by rw [← hw4]; exact World.alloc_heap_at _ _ _ rfl
      clear hw4
      have x4 : Ext w w4 := x3.trans x34
      have r4 := row_ext r3 x34
      have kq4 := cells_row q4
      clear r3
      refine (counts_any _ _ _ _ _ _ _ _ _ _ _ _ gen root next _ _ S dead _ _ held w4 (ho.out w4 x34) (hod.out w4 x34) (hph.out w4 x4)).mono ?_
      intro e w5 hC
      have xB : Ext w4 w5 := hC.1
      obtain ⟨b, n, rfl⟩ := hC.form
      have x35 : Ext w3 w5 := x34.trans xB
      have x5 : Ext w w5 := x4.trans xB
      have r5 := row_ext r4 xB
      have q5 := row_ext q4 xB
      have kr5 := cells_row r5
      replace hC := Lib.hid hC
      clear r4 q4 kq4 xB x34 x4
      go_wp2_with fail
      refine (countsD_any _ _ _ _ _ _ _ _ _ _ _ _ gen root next _ _ S dead _ _ held w5 (hp.out w5 x5) (hpd.out w5 x5) (hph.out w5 x5)).mono ?_
      intro e w6 hD
      have xB : Ext w5 w6 := hD.1
      obtain ⟨b', n', e1, rfl⟩ := counts_agree hC.out hD
      simp only [Ending.returned.injEq, Value.tuple.injEq, Array.mk.injEq, List.cons.injEq, Value.bool.injEq, Value.int.injEq, true_and, and_true] at e1
      obtain ⟨rfl, rfl⟩ := e1
      have x36 : Ext w3 w6 := x35.trans xB
      have x6 : Ext w w6 := x5.trans xB
      have r6 := row_ext r5 xB
      have q6 := row_ext q5 xB
      have kq6 := cells_row q6
      clear hC hD r5 q5 kr5 xB x35 x5
      go_wp2_with fail
      refine (uses_any _ _ _ _ _ _ _ _ _ _ _ _ gen root next _ _ S dead w6 (ho.out w6 x36) (hod.out w6 x36)).mono ?_
      intro e w7 hC
      have xB : Ext w6 w7 := hC.1
      obtain ⟨u, m, rfl⟩ := hC.form
      have x37 : Ext w3 w7 := x36.trans xB
      have x7 : Ext w w7 := x6.trans xB
      have r7 := row_ext r6 xB
      have q7 := row_ext q6 xB
      have kr7 := cells_row r7
      replace hC := Lib.hid hC
      have x6z : w3.heap.size < w6.heap.size := (Array.getElem?_eq_some_iff.1 q6).1
      have x3z := x3.size
      clear r6 q6 kq6 xB x6
      go_wp2_with fail
      refine (usesD_any _ _ _ _ _ _ _ _ _ _ _ _ gen root next _ _ S dead w7 (hp.out w7 x7) (hpd.out w7 x7)).mono ?_
      intro e w8 hD
      have xB : Ext w7 w8 := hD.1
      have x38 : Ext w3 w8 := x37.trans xB
      have x8 : Ext w w8 := x7.trans xB
      have r8 := row_ext r7 xB
      have q8 := row_ext q7 xB
      have kq8 := cells_row q8
      have kr8 := cells_row r8
      have hbb : (b != b) = false := bne_self_eq_false _
      have hnn : (n != n) = false := bne_self_eq_false _
      rcases uses_agree hC.out hD with ⟨e1, rfl⟩ | ⟨f, ob, ob2, hf, e1, rfl, hob, hob2, hr1, hr2⟩
      · simp only [Ending.returned.injEq, Value.tuple.injEq, Array.mk.injEq, List.cons.injEq, Value.int.injEq, true_and, and_true] at e1
        obtain ⟨rfl, rfl⟩ := e1
        clear hC hD xB x37 x7 kr7 r7 q7
        have v1 := run_convert_bys (P := Try.prog) (Bys.nil w8 w8.heap.size) 26 9 5 Try.underlying26 Try.underlying5 Try.underlying9
        replace hp := hp
        have hs8 := x8.size
        go_wp2_with fail
        go_loopw [14] (fun i wr => i = .int .i64 0 ∧ wr = w8) (fun _ _ => 0)
        case atStart => exact ⟨rfl, rfl⟩
        case round =>
          obtain ⟨rfl, rfl⟩ := hrel
          go_wp2_with fail
          refine (same14_any _ _ _ _ _ _ _ _ _ _ _ _ _ _ _ _ _ _ _ _ _ _ _ _ gen root next _ _ _ _ S dead hSh.out.bs hSh.out.ws hdl wr (ho.out wr x38) (hp.out wr x8) (hod.out wr x38) (hpd.out wr x8)).mono ?_
          rintro e w9 ⟨rfl, hB9⟩
          have x9 : Ext w w9 := x8.trans hB9
          go_wp2_with fail
          go_ret
          exact ⟨rfl, x9⟩
      · simp only [Ending.returned.injEq, Value.tuple.injEq, Array.mk.injEq, List.cons.injEq, Value.int.injEq, true_and, and_true] at e1
        obtain ⟨rfl, rfl⟩ := e1
        have hr1' := row_ext hr1 xB
        have v1 := run_convert_bys (P := Try.prog) (Bys.arrB hf hr1') 26 9 5 Try.underlying26 Try.underlying5 Try.underlying9
        have v2 := run_convert_bys (P := Try.prog) (Bys.arrB hf hr2) 26 9 5 Try.underlying26 Try.underlying5 Try.underlying9
        generalize bstr (bytesB f) = str at *
        have hs3 : w3.heap.size < ob := by omega
        have hs0 : w.heap.size < ob := by omega
        have L0 : TL ob w8 (.int .i64 0) w8 := ⟨0, (arrB f).toArray, by omega, rfl, hr1', by simp [arrB_len], fun a ha => ⟨_, by rw [List.getElem?_toArray]; exact arrB_get f ha⟩, Below.refl _ _⟩
        replace L0 := Lib.hid L0
        clear hC hD x37 x7 kr7 r7 q7 hr1 hr1' hr2 hf xB
        go_wp2_with fail
        go_loopw [14] (fun i wr => TL ob w8 i wr) (fun i _ => 256 - (intOf i).toNat)
        case atStart => exact L0.out
        case round =>
          obtain ⟨k, cs, hk, rfl, hrow, hsz, hcs, hE⟩ := hrel.ex
          clear hrel L0
          by_cases hlt : k < 256
          · obtain ⟨m8, hm8⟩ := hcs k hlt
            have kc := (cells_row hrow k).trans hm8
            have fc := frozen_row hrow k
            clear hm8
            have hwk := Lib.hid (IntWalk.wrap64_in ((k : Int) + 1) (by omega))
            have NL : Hid (∀ v : Int, TL ob w8 (.int .i64 ((k : Int) + 1)) (wr.setCell ⟨ob, k, none⟩ (.int .u8 v))) := Lib.hid fun v => ⟨k + 1, cs.setIfInBounds k (.int .u8 v), by omega, rfl, row_set hrow k _, by simp [hsz], fun a ha => by
              rw [Array.getElem?_setIfInBounds]
              split
              · rename_i e
                subst e
                rw [if_pos (by omega)]
                exact ⟨_, rfl⟩
              · exact hcs a ha, Below.setCell hE (p := ⟨ob, k, none⟩) (Nat.le_refl _) _⟩
            replace hcs := Lib.hid hcs
            replace hE := Lib.hid hE
            go_wp2_with fail
            try rw [hwk.out]
            refine ⟨NL.out _, ?_⟩
            simp [intOf]
            omega
          · obtain rfl : k = 256 := by omega
            have xp : Below w.heap.size w wr := Below.trans x8 (Below.mono hE (by omega))
            have xo : Below w3.heap.size w3 wr := Below.trans x38 (Below.mono hE (by omega))
            have r9 := (hE.block w.heap.size (by omega)).trans r8
            have q9 := (hE.block w3.heap.size (by omega)).trans q8
            have kr9 := cells_row r9
            have kq9 := cells_row q9
            clear hrow hcs hE
            go_wp2_with fail
            refine (same14_any _ _ _ _ _ _ _ _ _ _ _ _ _ _ _ _ _ _ _ _ _ _ _ _ gen root next _ _ _ _ S dead hSh.out.bs hSh.out.ws hdl wr (ho.out wr xo) (hp.out wr xp) (hod.out wr xo) (hpd.out wr xp)).mono ?_
            rintro e w9 ⟨rfl, hB9⟩
            have x9 : Below w.heap.size w w9 := Below.trans xp (Below.mono hB9 xp.size)
            go_wp2_with fail
            go_ret
            exact ⟨rfl, x9⟩
end Go.Proofs.Yteikcgjhcniiiaa
