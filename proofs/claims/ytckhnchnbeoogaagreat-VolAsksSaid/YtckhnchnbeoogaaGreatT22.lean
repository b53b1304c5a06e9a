/- Texts KGone, KLevels, KMarksW, joined. -/
import Derived.Test.YtckhnchnbeoogaaGreatT20
import Derived.Test.YtckhnchnbeoogaaGreatT21
/- Contracts: the document's census goes through a node. -/
namespace Go.Proofs.YtckhnchnbeoogaaGreat
set_option linter.unusedSimpArgs false
set_option linter.unusedVariables false
open Go.RowKit

set_option maxHeartbeats 8000000 in
set_option maxRecDepth 100000 in
theorem gone_any (p : KP) (h : Nat) (HL : ∀ h' : Nat, h = h' + 1 → LearnDC p (h' : Int) false) : GoneC p h := by
  intro xs A c w f hmay hxs hits hC
  have hIts := hits.its
  obtain ⟨-, hc1, hc2, hA⟩ := hIts.at_
  have hlen : xs.length ≤ 5 := by unfold nodeMay headB at hmay; simp at hmay; omega
  have hle5 : h ≤ 5 := by unfold nodeMay headB at hmay; simp at hmay; omega
  have hlow := hC.low
  have HI := Lib.hid hits
  have HXS := Lib.hid hxs
  have HC := Lib.hid hC
  clear hits hIts hmay hxs hC
  go_enter Tryz.func133, Tryz.ntmps133
  go_wp2_with fail
  generalize hw1 : World.alloc (World.alloc (World.alloc _ _) _) _ = w1
  have x1 : Ext w w1 := by rw [← hw1]; exact ((Ext.alloc _ _).trans (Ext.alloc _ _)).trans (Ext.alloc _ _)
  have B1 : GoB p h xs A c w f w1 f := by
    refine ⟨?_, ?_, Grows.refl _, (HC.out.ext x1).arr, grown_of_ext x1 _, by rw [← hw1]; simp, fun a v h1 h0 => by rw [h1] at h0; cases h0⟩
    · rw [← hw1]; exact (Below.heap_alloc _ _ _ (by simp; omega)).trans ((Below.heap_alloc _ _ _ (by simp)).trans (World.alloc_heap_at _ _ _ rfl))
    · rw [← hw1]; exact (Below.heap_alloc _ _ _ (by simp)).trans (World.alloc_heap_at _ _ _ (by simp))
  have q1 : w1.heap[w.heap.size + 2]? = some (.cells (dspanCs h A xs.length c (0, 0, 0) (0, 0, 0) true true) 185 (0, 0)) := by rw [← hw1]; exact World.alloc_heap_at _ _ _ (by simp)
  have I0 : GoI p h xs A c w f (.int .i64 0) w1 := ⟨0, f, (0, 0, 0), (0, 0, 0), true, Nat.zero_le _, rfl, B1, q1, .inl ⟨rfl, rfl, fun p hp => by cases hp⟩, fun _ _ y hy => by simp at hy⟩
  replace I0 := Lib.hid I0
  clear hw1 B1 q1 x1
  go_loopw [6] (fun i wr => GoI p h xs A c w f i wr) (fun i _ => xs.length - (intOf i).toNat)
  case atStart => exact I0.out
  case round =>
    obtain ⟨k, g, fk, lk, b, hk, rfl, HB, rx, hsp, hcl⟩ := hrel.ex
    clear hrel I0
    have rn := HB.rn
    have rr := HB.rr
    have kn := cells_row rn
    have kx := cells_row rx
    have fx := frozen_row rx
    have hsz := HB.sz
    have hEND : (b = false ∨ k = xs.length) → GoneP p h A c xs (dspanV h A xs.length c fk lk true b) g := fun hh => by
      rcases hsp with ⟨rfl, hs⟩ | ⟨rfl, hs⟩
      · have hkl : k = xs.length := hh.elim (fun h1 => by cases h1) id
        subst hkl
        rw [List.take_length] at hs hcl
        exact ⟨fk, lk, true, rfl, hs, hcl⟩
      · exact ⟨fk, lk, false, rfl, ⟨by rw [hs]; rfl, fun q hq => by rw [hs] at hq; cases hq⟩, fun h => by cases h⟩
    replace hEND := Lib.hid hEND
    replace hsp := Lib.hid hsp
    replace hcl := Lib.hid hcl
    replace HB := Lib.hid HB
    by_cases hgo : b = true ∧ k < xs.length
    · obtain ⟨rfl, hlt⟩ := hgo
      have hlt' := hlt
      have hs0 : SpanOk p.S h (xs.take k) fk lk true := by
        rcases hsp.out with ⟨_, x⟩ | ⟨x, _⟩
        · exact x
        · cases x
      have HKr := HB.out.ken HC.out
      obtain ⟨b0, off, rfl, hb0⟩ := hA (by omega)
      obtain ⟨A', c', d0, d1, d2, d3, d4, -⟩ := (HI.out.keep HB.out.gw.size (fun q h1 h2 => World.cell?_of_block (HB.out.gw.block q.block h2 (by simp; omega)))).its.item k hlt'
      have hxr := HXS.out xs[k] (List.getElem_mem hlt')
      obtain ⟨b3, o3, c3, e3, hfN⟩ := ken_now HKr
      have HSTEP := Lib.hid (fun f l b => @round_bad p.S h xs k f l fk lk b hlt')
      have HSTOK := Lib.hid (fun f l => @round_ok p.S h xs k f l fk lk hlt')
      have HTK := Lib.hid (List.take_succ_eq_append_getElem hlt')
      have HXE : Hid (xs[k] = xs[k]) := Lib.hid rfl
      generalize hxk : xs[k] = x at HXE ⊢ d0 d1 d2 d3 d4 hxr HSTEP HSTOK HTK
      replace HXE : Hid (xs[k] = x) := Lib.hid hxk
      clear hxk
      obtain ⟨⟨-, -, -, hr0, -⟩, -⟩ := hxr
      obtain ⟨hr01, hr02⟩ := hr0
      obtain ⟨r, hr⟩ := Int.eq_ofNat_of_zero_le hr01
      rw [hr] at d3 hr02
      have hr2 : r < 256 := by omega
      replace hr := Lib.hid hr
      have hnow := hfN r hr2
      generalize hnv : (p.S.now[r]?.getD 0).toNat = nv at *
      replace hnv := Lib.hid hnv
      have hc9 : decide (k < xs.length) = true := decide_eq_true hlt
      clear hr01 hr02 hfN hEND rr
      replace hs0 := Lib.hid hs0
      go_upto_region 7 with fail
      generalize hwa : World.alloc (World.alloc _ _) _ = wa
      have xa : Ext wr wa := by rw [← hwa]; exact (Ext.alloc _ _).trans (Ext.alloc _ _)
      have ra : wa.heap[wr.heap.size]? = some (.cells #[.int .u8 x.k, .int .u32 x.i, .int .u32 x.o, .int .i64 r, .slice A' x.val.length c'] 38 (0, 0)) := by rw [← hwa]; exact (Below.heap_alloc _ _ _ (by simp)).trans (World.alloc_heap_at _ _ _ rfl)
      have rb : wa.heap[wr.heap.size + 1]? = some (.cells #[.int .u8 x.k, .int .u32 x.i, .int .u32 x.o] 34 (0, 0)) := by rw [← hwa]; exact World.alloc_heap_at _ _ _ (by simp)
      have rna := row_ext rn xa
      have rxa := row_ext rx xa
      have za : wr.heap.size + 1 < wa.heap.size := (Array.getElem?_eq_some_iff.1 rb).1
      have HKa := HKr.ext xa
      have hnowa := Ext.cell xa hnow
      clear hwa d0 d1 d2 d3 d4 kn kx fx hnow
      have kn := cells_row rna
      have ka := cells_row ra
      rcases Nat.eq_zero_or_pos h with hz | hz
      · have hd : decide ((h : Int) > 0) = false := decide_eq_false (by omega)
        have hd2 : decide (0 < h) = false := decide_eq_false (by omega)
        go_upto_region 11 with fail
        obtain ⟨is0, hi0⟩ : ∃ is0 : Bool, is0 = decide (x.r = 0 ∨ 0 < nv) := ⟨_, rfl⟩
        replace hi0 := Lib.hid hi0
        have hr0 : (((r : Int) == 0) = true ∧ decide (r = 0) = true ∧ is0 = true) ∨ (((r : Int) == 0) = false ∧ decide (r = 0) = false ∧ is0 = decide (0 < nv)) := by
          rw [hi0.out, hr.out]
          rcases Nat.eq_zero_or_pos r with h0 | h0
          · subst h0
            exact .inl ⟨by decide, by decide, by simp⟩
          · exact .inr ⟨by rw [beq_eq_false_iff_ne]; omega, decide_eq_false (by omega), by rw [decide_eq_decide]; omega⟩
        have HO : Hid (OneOk p.S h x (keyIt x) (keyIt x) is0) := by
          refine Lib.hid ?_
          rw [hz]
          unfold OneOk oneS
          rw [hi0.out, hr.out, Int.toNat_natCast, hnv.out]
          split
          · rename_i hh
            split at hh
            · cases hh
            · rename_i hn
              exact decide_eq_false hn
          · rename_i hh
            split at hh
            · rename_i hn
              cases hh
              exact ⟨decide_eq_true hn, rfl⟩
            · cases hh
        have hkr := HKa.row
        rw [e3] at hkr
        have gK : ∀ W, extRel.r wa W → ∀ i, W.cell? ⟨p.kb, i, none⟩ = #[p.v1, p.v2, .slice (some ⟨b3, o3, none⟩) 256 c3, p.v4, .slice (some ⟨p.sb, 0, none⟩) 256 256][i]? := fun W h => cells_row (row_ext hkr h)
        have gN : ∀ W, extRel.r wa W → W.cell? ⟨b3, o3 + r, none⟩ = some (.int .u8 (nv : Int)) := fun W h => Ext.cell h hnowa
        have gA : ∀ W, extRel.r wa W → ∀ i, W.cell? ⟨wr.heap.size, i, none⟩ = #[.int .u8 x.k, .int .u32 x.i, .int .u32 x.o, .int .i64 r, .slice A' x.val.length c'][i]? := fun W h => cells_row (row_ext ra h)
        replace HKa := Lib.hid HKa
        replace HKr := Lib.hid HKr
        replace hkr := Lib.hid hkr
        replace hz := Lib.hid hz
        refine region_start (by kernel_rfl) ?_
        refine any_freeT (w := wa) extRel (outsAt []) [true, true, true, true, true, true, true, true, true, true, true, true, true, true, true, true] 1 (by kernel_rfl) (by kernel_rfl) (by kernel_rfl) (by kernel_rfl) (by kernel_rfl) (by kernel_rfl) (by kernel_rfl) ?st (Rel.drew _ _) ?walk
        case st => exact outsAt_stableG (fun _ h => by cases h)
        case walk =>
          intro K hK
          dsimp only [maskOps]
          rcases hr0 with ⟨hq1, hq2, hq3⟩ | ⟨hq1, hq2, hq3⟩
          all_goals
            replace hq3 := Lib.hid hq3
            repeat ((first | (refine free_plainM ?_ (by rfl) (by rfl) (fun W hW _ => ⟨W, ?_, Rel.refl _ W⟩) ?_; rotate_left; (first | (go_simp; with_reducible rfl) | (go_simp; done))) | (refine free_skipM (by rfl) ?_)); try simp only [Act.put, one_f, outB_f, outNew_f, outI_f, outNew_f, List.setIfInBounds_toArray, List.set_cons_zero, List.set_cons_succ])
            try (
              refine free_plainM (.pointer (some ⟨b3, o3 + r, none⟩)) (by rfl) (by rfl) (fun W hW _ => ⟨W, ?_, Rel.refl _ W⟩) ?_
              · go_simp
                intro hge
                exfalso
                omega
              simp only [Act.put, one_f, outB_f, outNew_f, outI_f, outNew_f, List.setIfInBounds_toArray, List.set_cons_zero, List.set_cons_succ])
            repeat ((first | (refine free_plainM ?_ (by rfl) (by rfl) (fun W hW _ => ⟨W, ?_, Rel.refl _ W⟩) ?_; rotate_left; (first | (go_simp; with_reducible rfl) | (go_simp; done))) | (refine free_skipM (by rfl) ?_)); try simp only [Act.put, one_f, outB_f, outNew_f, outI_f, outNew_f, List.setIfInBounds_toArray, List.set_cons_zero, List.set_cons_succ])
            refine free_nilM (hK _ _ fun W hW hF => ?_)
            clear hF hK gK gN gA
            have hW' : Ext wa W := hW
            dsimp only [List.drop, List.length_cons, List.length_nil]
            have rxW := row_ext rxa hW'
            have kx := cells_row rxW
            have fx := frozen_row rxW
            have HM := GoM.of0 HB.out HC.out xa hW' za rxa ra rb HO.out hz.out
            rw [hq3.out] at HM
            go_wp2
            refine QN_in ?_
            generalize hw7 : World.setCell W _ _ = w7 at *
            rw [← hq3.out] at HM
            generalize keyIt x = L1 at HM
            clear hw7 rxW kx fx kn ka ra rb rna rxa hq1 hq2 hq3 HO hi0
            have ra7 := HM.ra
            have rb7 := HM.rb
            have rx7 := HM.rx
            have ka := cells_row ra7
            have kb := cells_row rb7
            have kx := cells_row rx7
            have fx := frozen_row rx7
            replace HM := Lib.hid HM
            have HCK := Lib.hid (fun h0 => hcl.out (by trivial) h0)
            clear ra7 rb7
            rcases Nat.eq_zero_or_pos k with hk0 | hk0
            · have hk1 : decide ((k : Int) > 0) = false := decide_eq_false (by omega)
              have hk2 : ((k : Int) == 0) = true := by rw [beq_iff_eq]; omega
              have hk3 : decide (k = 0) = true := decide_eq_true hk0
              have hk4 : decide (0 < k) = false := decide_eq_false (by omega)
              have hwk := Lib.hid (IntWalk.wrap64_in ((k : Int) + 1) (by omega))
              have HN := HM.out.next HC.out hlt' HXE.out hs0.out HCK.out (grown_set.trans (grown_set.trans (grown_set.trans (grown_set.trans (grown_set.trans grown_set))))) (row_set (row_set (row_set (row_set (row_set (row_set rx7 2 (.int .u8 x.k)) 3 (.int .u32 x.i)) 4 (.int .u32 x.o)) 5 (.int .u8 L1.1)) 6 (.int .u32 L1.2.1)) 7 (.int .u32 L1.2.2)) (by rw [if_pos hk0]) (.inl ⟨hk0, rfl⟩)
              replace HN := Lib.hid HN
              replace hk0 := Lib.hid hk0
              clear rx7
              go_wp2_with fail
              try rw [hwk.out]
              refine ⟨HN.out, ?_⟩
              simp [intOf]
              omega
            · have hk1 : decide ((k : Int) > 0) = true := decide_eq_true (by omega)
              have hk2 : ((k : Int) == 0) = false := by rw [beq_eq_false_iff_ne]; omega
              have hk3 : decide (k = 0) = false := decide_eq_false (by omega)
              have hk4 : decide (0 < k) = true := decide_eq_true hk0
              have hkz := Lib.hid hk0
              have hwk := Lib.hid (IntWalk.wrap64_in ((k : Int) + 1) (by omega))
              clear hk0 rx7
              go_wp2_with fail
              refine (rless_any lk.1 lk.2.1 lk.2.2 x.k x.i x.o _).mono ?_
              rintro e wl ⟨rfl, hBl⟩
              have HM8 := HM.out.ext HC.out hBl
              have ra7 := HM8.ra
              have rb7 := HM8.rb
              have rx7 := HM8.rx
              clear ka kb kx fx hBl HM
              have ka := cells_row ra7
              have kb := cells_row rb7
              have kx := cells_row rx7
              have fx := frozen_row rx7
              rcases hls : lessB lk.1 lk.2.1 lk.2.2 x.k x.i x.o with _ | _
              · have HN := HM8.next HC.out hlt' HXE.out hs0.out HCK.out (grown_set.trans (grown_set.trans (grown_set.trans grown_set))) (row_set (row_set (row_set (row_set rx7 9 (.bool false)) 5 (.int .u8 L1.1)) 6 (.int .u32 L1.2.1)) 7 (.int .u32 L1.2.2)) (by rw [if_neg (by have := hkz.out; omega)]) (.inr ⟨hkz.out, .inr ⟨hls, rfl⟩⟩)
                replace HN := Lib.hid HN
                clear rx7 ra7 rb7 HM8
                go_wp2_with fail
                try rw [hwk.out]
                refine ⟨HN.out, ?_⟩
                simp [intOf]
                omega
              · have HN := HM8.next HC.out hlt' HXE.out hs0.out HCK.out (grown_set.trans (grown_set.trans grown_set)) (row_set (row_set (row_set rx7 5 (.int .u8 L1.1)) 6 (.int .u32 L1.2.1)) 7 (.int .u32 L1.2.2)) (by rw [if_neg (by have := hkz.out; omega)]) (.inr ⟨hkz.out, .inl ⟨hls, rfl⟩⟩)
                replace HN := Lib.hid HN
                clear rx7 ra7 rb7 HM8
                go_wp2_with fail
                try rw [hwk.out]
                refine ⟨HN.out, ?_⟩
                simp [intOf]
                omega
      · obtain ⟨h', hh⟩ : ∃ h', h = h' + 1 := ⟨h - 1, by omega⟩
        have HLc := HL h' hh
        rw [show (h' : Int) = (h : Int) - 1 by omega] at HLc
        have hd : decide ((h : Int) > 0) = true := decide_eq_true (by omega)
        have hd2 : decide (0 < h) = true := decide_eq_true hz
        have hw64 : wrap64 ((h : Int) - 1) = (h : Int) - 1 := IntWalk.wrap64_in _ (by omega)
        replace hh := Lib.hid hh
        replace HLc := Lib.hid (HLc r wa g HKa)
        go_wp2_with fail
        refine HLc.out.mono ?_
        clear HLc
        rintro e w6 ⟨v, g', rfl, ⟨lvl, A9, n9, c9, F1, L1, d9, rfl, hknown⟩, hgr, hm, hg, hn⟩
        have C6 := HKa.after hgr hm hg hn
        have HO : Hid (OneOk p.S h x F1 L1 (okL p.S (h - 1) r)) := by
          refine Lib.hid ?_
          rw [show (h : Int) - 1 = (h' : Int) by have := hh.out; omega] at hknown ⊢
          have hcl : okL p.S (h' : Int) r = true → learnS p.S h' r = some (F1, L1) := fun hok => clause_keys (C6.known _ _ (hknown hok).2) hok
          have hol := okL_learn p.S h' r
          unfold OneOk
          rw [hh.out, oneS_succ, hr.out]
          rcases hls : learnS p.S h' r with _ | q
          · rw [hls] at hol; exact hol
          · rw [hls] at hol
            have h1 := hcl hol
            rw [hls] at h1
            cases h1
            exact ⟨hol, rfl⟩
        have HCL : Hid (okL p.S (h - 1) r = true → 0 < h → (g' x.r).isSome = true) := Lib.hid fun hok _ => by rw [hr.out, (hknown hok).2]; rfl
        clear hknown
        generalize okL p.S ((h : Int) - 1) r = B at *
        have ra6 := (hg.block wr.heap.size (by omega) (by simp; omega)).trans ra
        have rb6 := (hg.block (wr.heap.size + 1) (by omega) (by simp; omega)).trans rb
        have rn6 := (hg.block w.heap.size (by omega) (by simp; omega)).trans rna
        have rx6 := (hg.block (w.heap.size + 2) (by omega) (by simp; omega)).trans rxa
        have z6 := hg.size
        clear kn ka
        have ka := cells_row ra6
        have kb := cells_row rb6
        have fb := frozen_row rb6
        have kx := cells_row rx6
        have fx := frozen_row rx6
        replace hz := Lib.hid hz
        replace C6 := Lib.hid C6
        go_upto_region 9 with fail
        generalize hw8 : World.alloc w6 _ = w8
        have x8 : Ext w6 w8 := by rw [← hw8]; exact Ext.alloc _ _
        have r98 : w8.heap[w6.heap.size]? = some (.cells (dspanCs lvl A9 n9 c9 F1 L1 d9 B) 185 (0, 0)) := by rw [← hw8]; exact World.alloc_heap_at _ _ _ rfl
        have ra8 := row_ext ra6 x8
        have rb8 := row_ext rb6 x8
        have rn8 := row_ext rn6 x8
        have rx8 := row_ext rx6 x8
        have z8 : w6.heap.size < w8.heap.size := (Array.getElem?_eq_some_iff.1 r98).1
        clear hw8 ka kb fb kx fx ra6 rb6 rn6 rx6 ra rb rna rxa
        have ka := cells_row ra8
        have kb := cells_row rb8
        have fb := frozen_row rb8
        have kx := cells_row rx8
        have fx := frozen_row rx8
        have k9 := cells_row r98
        have g69 := Chg.ext (Chg.refl wr.heap.size wa.heap.size (w.heap.size + 2) w6) x8
        rcases hB : B with _ | _
        · rw [hB] at k9
          have HM := GoM.of8 (is' := false) (L1 := L1) HB.out HC.out xa hgr hm hg hn g69 za rx8 ra8 rb8 (fun h => by cases h) (fun _ => ⟨_, _, _, HO.out, .inl hB⟩) (fun h => by cases h)
          go_upto_region 12 with fail
          generalize hw7 : World.setCell (World.setCell (World.setCell (World.setCell w8 _ _) _ _) _ _) _ _ = w7 at *
          clear hw7 kx fx ka kb fb k9 ra8 rb8 rn8 rx8 r98 HO HCL hB
          have ra7 := HM.ra
          have rb7 := HM.rb
          have rx7 := HM.rx
          have ka := cells_row ra7
          have kb := cells_row rb7
          have kx := cells_row rx7
          have fx := frozen_row rx7
          replace HM := Lib.hid HM
          have HCK := Lib.hid (fun h0 y hy => hgr.some_ _ (hcl.out (by trivial) h0 y hy))
          clear ra7 rb7
          rcases Nat.eq_zero_or_pos k with hk0 | hk0
          · have hk1 : decide ((k : Int) > 0) = false := decide_eq_false (by omega)
            have hk2 : ((k : Int) == 0) = true := by rw [beq_iff_eq]; omega
            have hk3 : decide (k = 0) = true := decide_eq_true hk0
            have hk4 : decide (0 < k) = false := decide_eq_false (by omega)
            have hwk := Lib.hid (IntWalk.wrap64_in ((k : Int) + 1) (by omega))
            have HN := HM.out.next HC.out hlt' HXE.out hs0.out HCK.out (grown_set.trans (grown_set.trans (grown_set.trans (grown_set.trans (grown_set.trans grown_set))))) (row_set (row_set (row_set (row_set (row_set (row_set rx7 2 (.int .u8 x.k)) 3 (.int .u32 x.i)) 4 (.int .u32 x.o)) 5 (.int .u8 L1.1)) 6 (.int .u32 L1.2.1)) 7 (.int .u32 L1.2.2)) (by rw [if_pos hk0]) (.inl ⟨hk0, rfl⟩)
            replace HN := Lib.hid HN
            replace hk0 := Lib.hid hk0
            clear rx7
            go_wp2_with fail
            try rw [hwk.out]
            refine ⟨HN.out, ?_⟩
            simp [intOf]
            omega
          · have hk1 : decide ((k : Int) > 0) = true := decide_eq_true (by omega)
            have hk2 : ((k : Int) == 0) = false := by rw [beq_eq_false_iff_ne]; omega
            have hk3 : decide (k = 0) = false := decide_eq_false (by omega)
            have hk4 : decide (0 < k) = true := decide_eq_true hk0
            have hkz := Lib.hid hk0
            have hwk := Lib.hid (IntWalk.wrap64_in ((k : Int) + 1) (by omega))
            clear hk0 rx7
            go_wp2_with fail
            refine (rless_any lk.1 lk.2.1 lk.2.2 x.k x.i x.o _).mono ?_
            rintro e wl ⟨rfl, hBl⟩
            have HM8 := HM.out.ext HC.out hBl
            have ra7 := HM8.ra
            have rb7 := HM8.rb
            have rx7 := HM8.rx
            clear ka kb kx fx hBl HM
            have ka := cells_row ra7
            have kb := cells_row rb7
            have kx := cells_row rx7
            have fx := frozen_row rx7
            rcases hls : lessB lk.1 lk.2.1 lk.2.2 x.k x.i x.o with _ | _
            · have HN := HM8.next HC.out hlt' HXE.out hs0.out HCK.out (grown_set.trans (grown_set.trans (grown_set.trans grown_set))) (row_set (row_set (row_set (row_set rx7 9 (.bool false)) 5 (.int .u8 L1.1)) 6 (.int .u32 L1.2.1)) 7 (.int .u32 L1.2.2)) (by rw [if_neg (by have := hkz.out; omega)]) (.inr ⟨hkz.out, .inr ⟨hls, rfl⟩⟩)
              replace HN := Lib.hid HN
              clear rx7 ra7 rb7 HM8
              go_wp2_with fail
              try rw [hwk.out]
              refine ⟨HN.out, ?_⟩
              simp [intOf]
              omega
            · have HN := HM8.next HC.out hlt' HXE.out hs0.out HCK.out (grown_set.trans (grown_set.trans grown_set)) (row_set (row_set (row_set rx7 5 (.int .u8 L1.1)) 6 (.int .u32 L1.2.1)) 7 (.int .u32 L1.2.2)) (by rw [if_neg (by have := hkz.out; omega)]) (.inr ⟨hkz.out, .inl ⟨hls, rfl⟩⟩)
              replace HN := Lib.hid HN
              clear rx7 ra7 rb7 HM8
              go_wp2_with fail
              try rw [hwk.out]
              refine ⟨HN.out, ?_⟩
              simp [intOf]
              omega
        · rw [hB] at k9
          by_cases hF : F1 = keyIt x
          · subst hF
            have HM := GoM.of8 (is' := true) (L1 := L1) HB.out HC.out xa hgr hm hg hn g69 za rx8 ra8 rb8 (fun _ => by rw [← hB]; exact HO.out) (fun h => by cases h) (fun _ => HCL.out hB)
            go_upto_region 12 with fail
            generalize hw7 : World.setCell (World.setCell (World.setCell (World.setCell w8 _ _) _ _) _ _) _ _ = w7 at *
            clear hw7 kx fx ka kb fb k9 ra8 rb8 rn8 rx8 r98 HO HCL hB
            have ra7 := HM.ra
            have rb7 := HM.rb
            have rx7 := HM.rx
            have ka := cells_row ra7
            have kb := cells_row rb7
            have kx := cells_row rx7
            have fx := frozen_row rx7
            replace HM := Lib.hid HM
            have HCK := Lib.hid (fun h0 y hy => hgr.some_ _ (hcl.out (by trivial) h0 y hy))
            clear ra7 rb7
            rcases Nat.eq_zero_or_pos k with hk0 | hk0
            · have hk1 : decide ((k : Int) > 0) = false := decide_eq_false (by omega)
              have hk2 : ((k : Int) == 0) = true := by rw [beq_iff_eq]; omega
              have hk3 : decide (k = 0) = true := decide_eq_true hk0
              have hk4 : decide (0 < k) = false := decide_eq_false (by omega)
              have hwk := Lib.hid (IntWalk.wrap64_in ((k : Int) + 1) (by omega))
              have HN := HM.out.next HC.out hlt' HXE.out hs0.out HCK.out (grown_set.trans (grown_set.trans (grown_set.trans (grown_set.trans (grown_set.trans grown_set))))) (row_set (row_set (row_set (row_set (row_set (row_set rx7 2 (.int .u8 x.k)) 3 (.int .u32 x.i)) 4 (.int .u32 x.o)) 5 (.int .u8 L1.1)) 6 (.int .u32 L1.2.1)) 7 (.int .u32 L1.2.2)) (by rw [if_pos hk0]) (.inl ⟨hk0, rfl⟩)
              replace HN := Lib.hid HN
              replace hk0 := Lib.hid hk0
              clear rx7
              go_wp2_with fail
              try rw [hwk.out]
              refine ⟨HN.out, ?_⟩
              simp [intOf]
              omega
            · have hk1 : decide ((k : Int) > 0) = true := decide_eq_true (by omega)
              have hk2 : ((k : Int) == 0) = false := by rw [beq_eq_false_iff_ne]; omega
              have hk3 : decide (k = 0) = false := decide_eq_false (by omega)
              have hk4 : decide (0 < k) = true := decide_eq_true hk0
              have hkz := Lib.hid hk0
              have hwk := Lib.hid (IntWalk.wrap64_in ((k : Int) + 1) (by omega))
              clear hk0 rx7
              go_wp2_with fail
              refine (rless_any lk.1 lk.2.1 lk.2.2 x.k x.i x.o _).mono ?_
              rintro e wl ⟨rfl, hBl⟩
              have HM8 := HM.out.ext HC.out hBl
              have ra7 := HM8.ra
              have rb7 := HM8.rb
              have rx7 := HM8.rx
              clear ka kb kx fx hBl HM
              have ka := cells_row ra7
              have kb := cells_row rb7
              have kx := cells_row rx7
              have fx := frozen_row rx7
              rcases hls : lessB lk.1 lk.2.1 lk.2.2 x.k x.i x.o with _ | _
              · have HN := HM8.next HC.out hlt' HXE.out hs0.out HCK.out (grown_set.trans (grown_set.trans (grown_set.trans grown_set))) (row_set (row_set (row_set (row_set rx7 9 (.bool false)) 5 (.int .u8 L1.1)) 6 (.int .u32 L1.2.1)) 7 (.int .u32 L1.2.2)) (by rw [if_neg (by have := hkz.out; omega)]) (.inr ⟨hkz.out, .inr ⟨hls, rfl⟩⟩)
                replace HN := Lib.hid HN
                clear rx7 ra7 rb7 HM8
                go_wp2_with fail
                try rw [hwk.out]
                refine ⟨HN.out, ?_⟩
                simp [intOf]
                omega
              · have HN := HM8.next HC.out hlt' HXE.out hs0.out HCK.out (grown_set.trans (grown_set.trans grown_set)) (row_set (row_set (row_set rx7 5 (.int .u8 L1.1)) 6 (.int .u32 L1.2.1)) 7 (.int .u32 L1.2.2)) (by rw [if_neg (by have := hkz.out; omega)]) (.inr ⟨hkz.out, .inl ⟨hls, rfl⟩⟩)
                replace HN := Lib.hid HN
                clear rx7 ra7 rb7 HM8
                go_wp2_with fail
                try rw [hwk.out]
                refine ⟨HN.out, ?_⟩
                simp [intOf]
                omega
          · have HM := GoM.of8 (is' := false) (L1 := L1) HB.out HC.out xa hgr hm hg hn g69 za rx8 ra8 rb8 (fun h => by cases h) (fun _ => ⟨_, _, _, HO.out, .inr hF⟩) (fun h => by cases h)
            replace hF := Lib.hid hF
            go_upto_region 12 with fail
            all_goals first
              | exact absurd (Prod.ext ‹F1.1 = x.k› (Prod.ext ‹F1.2.1 = x.i› ‹F1.2.2 = x.o›)) hF.out
              | (generalize hw7 : World.setCell (World.setCell (World.setCell (World.setCell w8 _ _) _ _) _ _) _ _ = w7 at *
                 clear hw7 kx fx ka kb fb k9 ra8 rb8 rn8 rx8 r98 HO HCL hB)
            all_goals
              have ra7 := HM.ra
              have rb7 := HM.rb
              have rx7 := HM.rx
              have ka := cells_row ra7
              have kb := cells_row rb7
              have kx := cells_row rx7
              have fx := frozen_row rx7
              replace HM := Lib.hid HM
              have HCK := Lib.hid (fun h0 y hy => hgr.some_ _ (hcl.out (by trivial) h0 y hy))
              clear ra7 rb7
              rcases Nat.eq_zero_or_pos k with hk0 | hk0
              · have hk1 : decide ((k : Int) > 0) = false := decide_eq_false (by omega)
                have hk2 : ((k : Int) == 0) = true := by rw [beq_iff_eq]; omega
                have hk3 : decide (k = 0) = true := decide_eq_true hk0
                have hk4 : decide (0 < k) = false := decide_eq_false (by omega)
                have hwk := Lib.hid (IntWalk.wrap64_in ((k : Int) + 1) (by omega))
                have HN := HM.out.next HC.out hlt' HXE.out hs0.out HCK.out (grown_set.trans (grown_set.trans (grown_set.trans (grown_set.trans (grown_set.trans grown_set))))) (row_set (row_set (row_set (row_set (row_set (row_set rx7 2 (.int .u8 x.k)) 3 (.int .u32 x.i)) 4 (.int .u32 x.o)) 5 (.int .u8 L1.1)) 6 (.int .u32 L1.2.1)) 7 (.int .u32 L1.2.2)) (by rw [if_pos hk0]) (.inl ⟨hk0, rfl⟩)
                replace HN := Lib.hid HN
                replace hk0 := Lib.hid hk0
                clear rx7
                go_wp2_with fail
                try rw [hwk.out]
                refine ⟨HN.out, ?_⟩
                simp [intOf]
                omega
              · have hk1 : decide ((k : Int) > 0) = true := decide_eq_true (by omega)
                have hk2 : ((k : Int) == 0) = false := by rw [beq_eq_false_iff_ne]; omega
                have hk3 : decide (k = 0) = false := decide_eq_false (by omega)
                have hk4 : decide (0 < k) = true := decide_eq_true hk0
                have hkz := Lib.hid hk0
                have hwk := Lib.hid (IntWalk.wrap64_in ((k : Int) + 1) (by omega))
                clear hk0 rx7
                go_wp2_with fail
                refine (rless_any lk.1 lk.2.1 lk.2.2 x.k x.i x.o _).mono ?_
                rintro e wl ⟨rfl, hBl⟩
                have HM8 := HM.out.ext HC.out hBl
                have ra7 := HM8.ra
                have rb7 := HM8.rb
                have rx7 := HM8.rx
                clear ka kb kx fx hBl HM
                have ka := cells_row ra7
                have kb := cells_row rb7
                have kx := cells_row rx7
                have fx := frozen_row rx7
                rcases hls : lessB lk.1 lk.2.1 lk.2.2 x.k x.i x.o with _ | _
                · have HN := HM8.next HC.out hlt' HXE.out hs0.out HCK.out (grown_set.trans (grown_set.trans (grown_set.trans grown_set))) (row_set (row_set (row_set (row_set rx7 9 (.bool false)) 5 (.int .u8 L1.1)) 6 (.int .u32 L1.2.1)) 7 (.int .u32 L1.2.2)) (by rw [if_neg (by have := hkz.out; omega)]) (.inr ⟨hkz.out, .inr ⟨hls, rfl⟩⟩)
                  replace HN := Lib.hid HN
                  clear rx7 ra7 rb7 HM8
                  go_wp2_with fail
                  try rw [hwk.out]
                  refine ⟨HN.out, ?_⟩
                  simp [intOf]
                  omega
                · have HN := HM8.next HC.out hlt' HXE.out hs0.out HCK.out (grown_set.trans (grown_set.trans grown_set)) (row_set (row_set (row_set rx7 5 (.int .u8 L1.1)) 6 (.int .u32 L1.2.1)) 7 (.int .u32 L1.2.2)) (by rw [if_neg (by have := hkz.out; omega)]) (.inr ⟨hkz.out, .inl ⟨hls, rfl⟩⟩)
                  replace HN := Lib.hid HN
                  clear rx7 ra7 rb7 HM8
                  go_wp2_with fail
                  try rw [hwk.out]
                  refine ⟨HN.out, ?_⟩
                  simp [intOf]
                  omega
    · have hv := hEND.out (by
        by_cases hb : b = true
        · exact .inr (Nat.le_antisymm hk (Nat.not_lt.1 fun h => hgo ⟨hb, h⟩))
        · exact .inl (by simpa using hb))
      have hcs : decide (k < xs.length) = false ∨ (decide (k < xs.length) = true ∧ b = false) := by
        by_cases hlt : k < xs.length
        · exact .inr ⟨decide_eq_true hlt, by by_cases hb : b = true; exact absurd ⟨hb, hlt⟩ hgo; simpa using hb⟩
        · exact .inl (decide_eq_false hlt)
      have hR := HB.out.ret HC.out (grown10' (w := wr) (b := w.heap.size + 1) (.int .i64 h) (.slice A xs.length c) (.int .u8 fk.1) (.int .u32 fk.2.1) (.int .u32 fk.2.2) (.int .u8 lk.1) (.int .u32 lk.2.1) (.int .u32 lk.2.2) (.bool true) (.bool b)) hv
      have rr' := row10 rr rfl (.int .i64 h) (.slice A xs.length c) (.int .u8 fk.1) (.int .u32 fk.2.1) (.int .u32 fk.2.2) (.int .u8 lk.1) (.int .u32 lk.2.1) (.int .u32 lk.2.2) (.bool true) (.bool b)
      replace hR := Lib.hid hR
      replace rr' := Lib.hid rr'
      have kr := cells_row rr
      have fr := frozen_row rr
      clear hEND hv hgo hsz
      rcases hcs with c1 | ⟨c1, rfl⟩
      all_goals
        go_wp2
        exact goneD_ret (b := w.heap.size + 1) rfl rfl rr'.out hR.out
end Go.Proofs.YtckhnchnbeoogaaGreat
/- The document's census learns a node, of any level. -/
namespace Go.Proofs.YtckhnchnbeoogaaGreat
set_option linter.unusedSimpArgs false
set_option linter.unusedVariables false
open Go.RowKit

theorem gone_all (p : KP) : ∀ h : Nat, h ≤ 5 → GoneC p h
  | 0, _ => gone_any p 0 fun _ e => by omega
  | h + 1, hh => gone_any p (h + 1) fun h' e => by
    have e' : h = h' := by omega
    subst e'
    exact learnd_any p (h : Int) false (.inr ⟨by omega, by omega, rfl⟩) fun n hn hL => by
      have e' : n = h := by have := hL (by omega); omega
      subst e'
      exact gone_all p n (by omega)
theorem learnd_root (p : KP) : LearnDC p (-1) true := learnd_any p (-1) true (.inl ⟨rfl, rfl⟩) fun h hh _ => gone_all p h hh
end Go.Proofs.YtckhnchnbeoogaaGreat
/- The document's census of a pool: its words. -/
namespace Go.Proofs.YtckhnchnbeoogaaGreat
set_option linter.unusedSimpArgs false
set_option linter.unusedVariables false
open Go.RowKit

theorem Tryz.info_dspan : (Tryz.prog.info? 185).map (fun i => (i.zero, i.size, i.bytes)) = some (some (dspanV 0 none 0 0 (0, 0, 0) (0, 0, 0) false false), 10, 64) := by kernel_rfl
theorem field_isD (lvl : Int) (A : Option Addr) (n c : Nat) (f l : K3) (d b : Bool) (w : World) : (Instr.field 185 (dspanV lvl A n c f l d b) 4).run Tryz.prog w = .ok (.bool b) w := by kernel_rfl
def zeroSpans : Array Value := madeCells (dspanCs 0 none 0 0 (0, 0, 0) (0, 0, 0) false false) 2560
theorem run_mkD (w : World) : (Instr.makeSlice 181 (.int .i64 256) (.int .i64 256)).run Tryz.prog w = .ok (.slice (some ⟨w.heap.size, 0, none⟩) 256 256) (w.alloc (.cells zeroSpans 185)) := by
  obtain ⟨i0, hi, hz0, hz1, hz2⟩ := info_parts Tryz.info_dspan
  have h := run_make (P := Tryz.prog) w 181 185 i0 _ Tryz.underlying181 hi hz0 .i64 .i64 256 256 (by omega) (by omega) (by rw [hz2]; omega) (by omega)
  rw [hz1] at h
  exact h
theorem run_mkI (w : World) : (Instr.makeSlice 30 (.int .i64 256) (.int .i64 256)).run Tryz.prog w = .ok (.slice (some ⟨w.heap.size, 0, none⟩) 256 256) (w.alloc (.cells (arrI fun _ => 0).toArray 3)) := by kernel_rfl
theorem zeroSpans_arr {w : World} {sb : Nat} (h : w.heap[sb]? = some (.cells zeroSpans 185 (0, 0))) : ArrD w sb fun _ => none := by
  refine ⟨_, h, size_madeCells _ _, fun a j ha hj => ?_⟩
  have hm : (a * 10 + j) % 10 = j := by omega
  unfold zeroSpans madeCells
  rw [Array.getElem?_map, Array.getElem?_range, if_pos (by omega)]
  show some ((dspanCs 0 none 0 0 (0, 0, 0) (0, 0, 0) false false)[(a * 10 + j) % 10]!) = _
  rw [hm]
  show _ = (dspanCs 0 none 0 0 (0, 0, 0) (0, 0, 0) false false)[j]?
  have : j = 0 ∨ j = 1 ∨ j = 2 ∨ j = 3 ∨ j = 4 ∨ j = 5 ∨ j = 6 ∨ j = 7 ∨ j = 8 ∨ j = 9 := by omega
  rcases this with rfl | rfl | rfl | rfl | rfl | rfl | rfl | rfl | rfl | rfl <;> rfl
def MarksQ (S : Sto) (root next : Int) (dead : List Int) (w : World) (e : Ending) (w' : World) : Prop := Below w.heap.size w w' ∧
  ((e = .returned (.tuple #[.slice none 0 0, .slice none 0 0, .bool false]) ∧ ∀ vs, ¬ PoolB S root next dead vs) ∨
    ∃ vs refs met rb mb, e = .returned (.tuple #[.slice (some ⟨rb, 0, none⟩) 256 256, .slice (some ⟨mb, 0, none⟩) 256 256, .bool true]) ∧ PoolB S root next dead vs ∧ Marked (kidsS S) (refsS S) (rootsN root dead vs) (metB met) refs ∧
      w'.heap[rb]? = some (.cells (arrI refs).toArray 3 (0, 0)) ∧ w'.heap[mb]? = some (.cells (arrI met).toArray 3 (0, 0)) ∧ w.heap.size ≤ rb ∧ w.heap.size ≤ mb ∧ rb ≠ mb)
theorem MarksQ.bad {S : Sto} {root next : Int} {dead : List Int} {w w' : World} (hB : Below w.heap.size w w') (h : ∀ vs, ¬ PoolB S root next dead vs) : MarksQ S root next dead w (.returned (.tuple #[.slice none 0 0, .slice none 0 0, .bool false])) w' := ⟨hB, .inl ⟨rfl, h⟩⟩
theorem marks_ret {R : Ending → World → Prop} {a : Act} {W : World} {u v t : Value} (h2 : a.tmps[2]?.getD undef = u) (h3 : a.tmps[3]?.getD undef = v) (h4 : a.tmps[4]?.getD undef = t) (hd : a.defers = []) (hR : R (.returned (.tuple #[u, v, t])) W) : bodyPost Tryz.prog Tryz.f70 R .ret a W := by
  refine bodyPost_ret (v := .tuple #[u, v, t]) ?_ hd hR
  simp [results, Tryz.results70, go_sem, h2, h3, h4]
theorem vols_of {S : Sto} {a h : Nat} {next : Int} {xs : List It} (hn : nodeAt S a = some ((h : Int), xs)) : volsOf S (a : Int) next = if (itemsS S h xs).all (volGood next) = true ∧ (itemsS S h xs).length ≤ 16 then some ((itemsS S h xs).map volAt) else none := by
  unfold volsOf
  rw [Int.toNat_natCast, hn]
  simp only [Int.toNat_natCast]
  rw [volsGo_all next _ [] (by simp)]
  simp
theorem bad_all {S : Sto} {a h : Nat} {next : Int} {xs : List It} {dead : List Int} (hn : nodeAt S a = some ((h : Int), xs)) (hb : (itemsS S h xs).all (volGood next) = false ∨ 16 < (itemsS S h xs).length) : ∀ vs, ¬ PoolB S (a : Int) next dead vs := by
  intro vs hp
  have h1 := hp.vols
  rw [vols_of hn] at h1
  split at h1
  · rename_i hh
    rcases hb with hb | hb
    · rw [hb] at hh; cases hh.1
    · omega
  · cases h1
theorem volGood_isVol {next : Int} {l : List It} (h : l.all isVol = false) : l.all (volGood next) = false := by
  rw [List.all_eq_false] at h ⊢
  obtain ⟨x, hx, hh⟩ := h
  exact ⟨x, hx, fun e => hh (by unfold volGood at e; simp only [Bool.and_eq_true] at e; exact e.1)⟩
structure KR (root : Int) (dead : List Int) (next : Int) (l : List It) (w6 : World) (v i : Value) (wr : World) : Prop where
  ex : ∃ k : Nat, k ≤ l.length ∧ i = .int .i64 (k : Int) ∧ (l.take k).all (volGood next) = true ∧ wr.ownsRow w6.heap.size 3 1 v (1 + dead.length + k) (rowI (rootsTo root dead (l.map volAt) k)) ∧ Ext w6 wr
structure KM (p : KP) (roots : List Int) (w8 : World) (rb mb : Nat) (i : Value) (wr : World) : Prop where
  ex : ∃ (k : Nat) (g : Int → Option Value) (refs met : Nat → Nat), k ≤ roots.length ∧ i = .int .i64 (k : Int) ∧ Ken p wr g ∧ (∀ r ∈ roots.take k, okL p.S (-1) r = true) ∧ Marked (kidsS p.S) (refsS p.S) ((roots.take k).map Int.toNat) (metB met) refs ∧
    wr.heap[rb]? = some (.cells (arrI refs).toArray 3 (0, 0)) ∧ wr.heap[mb]? = some (.cells (arrI met).toArray 3 (0, 0)) ∧ w8.heap.size ≤ wr.heap.size ∧ wr.os = w8.os ∧ wr.tape = w8.tape ∧ wr.output = w8.output ∧ ∀ b, b < w8.heap.size → b ≠ rb → b ≠ mb → b ≠ p.sb → wr.heap[b]? = w8.heap[b]?
theorem few_marked {S : Sto} {R : List Nat} {refs met : Nat → Nat} (h : Marked (kidsS S) (refsS S) R (metB met) refs) (hl : R.length ≤ 57) (a : Nat) : Few S 100 (bump refs a) met := by
  intro b
  have h1 := h.sum b
  have h2 := List.count_le_length (a := b) (l := R)
  unfold bump
  split <;> omega
theorem marked_le {S : Sto} {R : List Nat} {refs met : Nat → Nat} (h : Marked (kidsS S) (refsS S) R (metB met) refs) (hl : R.length ≤ 57) (a : Nat) : refs a ≤ 1337 := by
  have h1 := h.sum a
  have h2 := List.count_le_length (a := a) (l := R)
  have h3 := rsum_all S (metB met) a
  omega
theorem KM.below {p : KP} {roots : List Int} {w w8 wr : World} {rb mb B : Nat} {i : Value} (h : KM p roots w8 rb mb i wr) (hx : Below B w w8) (hB : B ≤ w8.heap.size) (h1 : B ≤ rb) (h2 : B ≤ mb) (h3 : B ≤ p.sb) : Below B w wr := by
  obtain ⟨k, g, refs, met, _, _, _, _, _, _, _, z, e1, e2, e3, hb⟩ := h.ex
  exact ⟨e1.trans hx.os, e2.trans hx.tape, e3.trans hx.output, Nat.le_trans hx.size z, fun b hb9 => (hb b (by omega) (by omega) (by omega) (by omega)).trans (hx.block b hb9)⟩
end Go.Proofs.YtckhnchnbeoogaaGreat
