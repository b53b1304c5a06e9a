/- Texts CRead2, CLevels, TreeW, VolsW, joined. -/
import Derived.Test.YtckhnchnbeoogaaGreatT09
import Derived.Test.YtckhnchnbeoogaaGreatT11
import Derived.Test.YtckhnchnbeoogaaGreatT14
import Derived.Test.YtckhnchnbeoogaaGreatT15
/- Contracts: the census reads a node. -/
namespace Go.Proofs.YtckhnchnbeoogaaGreat
set_option linter.unusedSimpArgs false
set_option linter.unusedVariables false
open Go.RowKit

theorem cen_now {p : CP} {W : World} {g : Int → Option Value} (hC : Cen p W g) : ∃ b3 o3 c3, p.v3 = .slice (some ⟨b3, o3, none⟩) 256 c3 ∧ 256 ≤ c3 ∧ c3 ≤ maxLen := by
  obtain ⟨_, _, hl3, _⟩ := storeMay_len hC.may
  have hn := hC.sto.now
  obtain ⟨A3, c3, e3, _⟩ := hC.sto.now
  rw [e3] at hn
  obtain ⟨_, hc3, hm3, hA3⟩ := hn.at_
  obtain ⟨b3, o3, rfl, _⟩ := hA3 (by omega)
  rw [hl3] at e3 hc3
  exact ⟨b3, o3, c3, e3, hc3, hm3⟩
theorem cen_now_cell {p : CP} {W : World} {g : Int → Option Value} (hC : Cen p W g) {b3 o3 c3 : Nat} (h3 : p.v3 = .slice (some ⟨b3, o3, none⟩) 256 c3) {a : Nat} (ha : a < 256) : W.cell? ⟨b3, o3 + a, none⟩ = some (.int .u8 ((p.S.now[a]?.getD 0).toNat : Int)) := by
  obtain ⟨_, _, hl3, _⟩ := storeMay_len hC.may
  obtain ⟨A', c', e, _, _, hr⟩ := hC.sto.now
  rw [h3, Value.slice.injEq] at e
  obtain ⟨rfl, _, rfl⟩ := e
  obtain ⟨b', off', e, _, hc⟩ := hr.2 (by omega)
  simp only [Option.some.injEq, Addr.mk.injEq, and_true] at e
  obtain ⟨rfl, rfl⟩ := e
  exact hc a _ (by rw [List.getElem?_map, List.getElem?_eq_getElem (by omega)]; rfl)

theorem read_ret {R : Ending → World → Prop} {a : Act} {W : World} {b : Nat} {lvl : Int} {A : Option Addr} {n c : Nat} {f l : K3} {bo : Bool} (h4 : a.tmps[4]?.getD undef = .pointer (some ⟨b, 0, none⟩)) (hd : a.defers = [])
    (hrow : W.heap[b]? = some (.cells (spanCs lvl A n c f l bo) 159 (0, 0))) (hR : R (.returned (spanV lvl A n c f l bo)) W) : bodyPost Tryz.prog Tryz.f113 R .ret a W := by
  refine bodyPost_ret (v := spanV lvl A n c f l bo) ?_ hd hR
  have k := cells_row hrow
  simp [results, Tryz.results113, go_sem, h4, k]
theorem RdI.bad {p : CP} {h : Nat} {xs : List It} {A : Option Addr} {c : Nat} {w wr : World} {f g : Int → Option Value} {k : Nat} {fk lk : K3} (H : RdI p h xs A c w f wr g k fk lk) (hC : Cen p w f) (hb : spanS p.S h xs = none) :
    RetC p f (ReadQ p h A c xs) w (.returned (spanV h A xs.length c (0, 0, 0) (0, 0, 0) false)) (((((((((wr.setCell ⟨w.heap.size + 1, 0, none⟩ (.int .i64 h)).setCell ⟨w.heap.size + 1, 1, none⟩ (.slice A xs.length c)).setCell ⟨w.heap.size + 1, 2, none⟩ (.int .u8 0)).setCell ⟨w.heap.size + 1, 3, none⟩ (.int .u32 0)).setCell ⟨w.heap.size + 1, 4, none⟩ (.int .u32 0)).setCell ⟨w.heap.size + 1, 5, none⟩ (.int .u8 0)).setCell ⟨w.heap.size + 1, 6, none⟩ (.int .u32 0)).setCell ⟨w.heap.size + 1, 7, none⟩ (.int .u32 0)).setCell ⟨w.heap.size + 1, 8, none⟩ (.bool false)) :=
  H.ret hC (grown9 _ _ _ _ _ _ _ _ _) ⟨(0, 0, 0), (0, 0, 0), false, rfl, ⟨by rw [hb]; rfl, fun q hq => by rw [hb] at hq; cases hq⟩, fun h => by cases h⟩

set_option maxHeartbeats 8000000 in
set_option maxRecDepth 100000 in
theorem cread_any (p : CP) (h : Nat) (HL : ∀ h' : Nat, h = h' + 1 → LearnC p (h' : Int)) : ReadC p h := by
  intro xs A c w f hmay hxs hits hC
  have hIts := hits.its
  obtain ⟨-, hc1, hc2, hA⟩ := hIts.at_
  have hlen : xs.length ≤ 5 := by unfold nodeMay headB at hmay; simp at hmay; omega
  have hle5 : h ≤ 5 := by unfold nodeMay headB at hmay; simp at hmay; omega
  replace hle5 := Lib.hid hle5
  have hlow := hC.low
  have HI := Lib.hid hIts
  have HXS := Lib.hid hxs
  have HC := Lib.hid hC
  have HLow := Lib.hid hlow
  clear hits hIts hmay hxs hC hlow
  go_enter Tryz.func113, Tryz.ntmps113
  go_wp2
  generalize hw1 : (World.alloc (World.alloc _ _) _) = w1
  have x1 : Ext w w1 := by rw [← hw1]; exact ((Ext.alloc _ _).trans (Ext.alloc _ _)).trans (Ext.alloc _ _)
  have H1 : RdI p h xs A c w f w1 f 0 (0, 0, 0) (0, 0, 0) := by
    refine ⟨?_, ?_, ?_, ⟨rfl, fun p hp => by cases hp⟩, fun _ y hy => by simp at hy, Grows.refl _, (HC.out.ext x1).map, grown_of_ext x1 _, fun a v h1 h0 => by rw [h1] at h0; cases h0⟩
    · rw [← hw1]; exact (Below.heap_alloc _ _ _ (by simp; omega)).trans ((Below.heap_alloc _ _ _ (by simp)).trans (World.alloc_heap_at _ _ _ rfl))
    · rw [← hw1]; exact (Below.heap_alloc _ _ _ (by simp)).trans (World.alloc_heap_at _ _ _ (by simp))
    · rw [← hw1]; exact World.alloc_heap_at _ _ _ (by simp)
  clear hw1
  replace H1 := Lib.hid H1
  go_loopw [14] (fun i wr => ∃ (k : Nat) (g : Int → Option Value) (fk lk : K3), k ≤ xs.length ∧ i = .int .i64 (k : Int) ∧ RdI p h xs A c w f wr g k fk lk) (fun i _ => xs.length - (intOf i).toNat)
  case atStart => exact ⟨0, f, _, _, by omega, rfl, H1.out⟩
  case round =>
    obtain ⟨k, g, fk, lk, hk, rfl, HR⟩ := hrel
    clear H1 x1
    have zr := HR.gw.size
    have HCr := HR.cen HC.out
    have hkeep := map_cells HC.out.map HR.mp HR.gw
    have rnr := HR.rn
    have rxr := HR.rx
    have rrr := HR.rr
    have z2 : w.heap.size + 2 < wr.heap.size := (Array.getElem?_eq_some_iff.1 rxr).1
    by_cases hlt : k < xs.length
    · have hlt' := hlt
      obtain ⟨b, off, rfl, hb⟩ := hA (by omega)
      obtain ⟨A', c', d0, d1, d2, d3, d4, -⟩ := HI.out.item k hlt'
      rw [← hkeep _ (by simpa using hb)] at d0 d1 d2 d3 d4
      clear hkeep
      have hxr := HXS.out xs[k] (List.getElem_mem hlt')
      obtain ⟨b3, o3, c3, e3, hc3, hm3⟩ := cen_now HCr
      have HSTEP := Lib.hid (fun f l b => @round_bad p.S h xs k f l fk lk b hlt')
      have HSTOK := Lib.hid (fun f l => @round_ok p.S h xs k f l fk lk hlt')
      have HMEM := Lib.hid (List.getElem_mem hlt')
      have HTK := Lib.hid (List.take_succ_eq_append_getElem hlt')
      generalize xs[k] = x at *
      obtain ⟨⟨-, -, -, hr0, -⟩, -⟩ := hxr
      obtain ⟨hr01, hr02⟩ := hr0
      obtain ⟨r, hr⟩ := Int.eq_ofNat_of_zero_le hr01
      rw [hr] at d3 hr02
      have hr2 : r < 256 := by omega
      replace hr := Lib.hid hr
      have knr := cells_row rnr
      have kxr := cells_row rxr
      have hfN := fun W (hx : Ext wr W) => cen_now_cell (HCr.ext hx) e3 hr2
      generalize hnv : (p.S.now[r]?.getD 0).toNat = nv at *
      replace hnv := Lib.hid hnv
      unfold maxLen at hm3
      clear hr01 hr02
      have hfN0 := hfN wr (Ext.refl _)
      replace hfN := Lib.hid hfN
      go_wp2_with fail
      generalize hwa : (World.alloc _ _) = wa
      have xa : Ext wr wa := by rw [← hwa]; exact Ext.alloc _ _
      have ra : wa.heap[wr.heap.size]? = some (.cells #[.int .u8 x.k, .int .u32 x.i, .int .u32 x.o, .int .i64 r, .slice A' x.val.length c'] 38 (0, 0)) := by rw [← hwa]; exact World.alloc_heap_at _ _ _ rfl
      clear hwa d0 d1 d2 d3 d4 hfN0
      have HCa := HCr.ext xa
      have hcb := HCa.c2
      rw [e3] at hcb
      have gC : ∀ W, extRel.r wa W → W.cell? ⟨p.cb, 2, none⟩ = some (.slice (some ⟨b3, o3, none⟩) 256 c3) := fun W h => by rw [cells_row (row_ext HCa.row h)]; exact hcb
      have gN : ∀ W, extRel.r wa W → W.cell? ⟨b3, o3 + r, none⟩ = some (.int .u8 (nv : Int)) := fun W h => hfN.out W (xa.trans h)
      have gI : ∀ W, extRel.r wa W → ∀ i, W.cell? ⟨wr.heap.size, i, none⟩ = #[.int .u8 x.k, .int .u32 x.i, .int .u32 x.o, .int .i64 r, .slice A' x.val.length c'][i]? := fun W h => cells_row (row_ext ra h)
      clear hcb knr kxr hfN
      obtain ⟨is0, hi0⟩ : ∃ is0 : Bool, is0 = decide (x.r = 0 ∨ 0 < nv) := ⟨_, rfl⟩
      replace hi0 := Lib.hid hi0
      have hr0 : (((r : Int) == 0) = true ∧ decide (r = 0) = true ∧ is0 = true) ∨ (((r : Int) == 0) = false ∧ decide (r = 0) = false ∧ is0 = decide (0 < nv)) := by
        rw [hi0.out, hr.out]
        rcases Nat.eq_zero_or_pos r with h0 | h0
        · subst h0
          exact .inl ⟨by decide, by decide, by simp⟩
        · exact .inr ⟨by rw [beq_eq_false_iff_ne]; omega, decide_eq_false (by omega), by rw [decide_eq_decide]; omega⟩
      refine region_start (by kernel_rfl) ?_
      refine any_free (w := wa) extRel (outsAt [(20, outNew wa.heap.size 159 (spanCs 0 none 0 0 (0, 0, 0) (0, 0, 0) false))]) [true, true, true, true, true, true, true, true, true, true, true, true, true, true, true, true, true, true, true, true, true] 1 (by kernel_rfl) (by kernel_rfl) (by kernel_rfl) (by kernel_rfl) (by kernel_rfl) (by kernel_rfl) ?st (Rel.drew _ _) ?walk
      case st => exact outsAt_stableG (by simp only [List.forall_mem_cons]; exact ⟨fun p => stableG_ext (outNew_stable _ _ _ p), fun _ h => by cases h⟩)
      case walk =>
        intro K hK
        dsimp only [maskOps]
        rcases hr0 with ⟨hq1, hq2, hq3⟩ | ⟨hq1, hq2, hq3⟩
        all_goals
          replace hq3 := Lib.hid hq3
          repeat ((first | (refine free_plainM ?_ (by rfl) (by rfl) (fun W hW _ => ⟨W, ?_, Rel.refl _ W⟩) ?_; rotate_left; (first | (go_simp; with_reducible rfl) | (go_simp; done))) | (refine free_skipM (by rfl) ?_)); try simp only [Act.put, one_f, outB_f, outNew_f, outI_f, outNew_f, List.setIfInBounds_toArray, List.set_cons_zero, List.set_cons_succ])
          try (
            refine free_plainM (.pointer (some ⟨b3, o3 + r, none⟩)) (by rfl) (by rfl) (fun W hW _ => ⟨W, ?_, Rel.refl _ W⟩) ?_
            · go_simp
              intro hge
              exfalso
              omega
            simp only [Act.put, one_f, outB_f, outNew_f, outI_f, outNew_f, List.setIfInBounds_toArray, List.set_cons_zero, List.set_cons_succ])
          repeat ((first | (refine free_plainM ?_ (by rfl) (by rfl) (fun W hW _ => ⟨W, ?_, Rel.refl _ W⟩) ?_; rotate_left; (first | (go_simp; with_reducible rfl) | (go_simp; done))) | (refine free_skipM (by rfl) ?_)); try simp only [Act.put, one_f, outB_f, outNew_f, outI_f, outNew_f, List.setIfInBounds_toArray, List.set_cons_zero, List.set_cons_succ])
          refine free_hardM (outNew wa.heap.size 159 (spanCs 0 none 0 0 (0, 0, 0) (0, 0, 0) false)) (by rfl) (by rfl) (fun W hW _ => ?_) (fun (p8 : Nat) => ?_)
          · refine hardAt_newE ?_ (Below.size hW)
            go_simp
          simp only [Act.put, one_f, outB_f, outNew_f, outI_f, outNew_f, List.setIfInBounds_toArray, List.set_cons_zero, List.set_cons_succ]
          refine free_nilM (hK _ _ fun W hW hF => ?_)
          obtain ⟨f8, hlo⟩ : W.heap[p8]? = some (.cells (spanCs 0 none 0 0 (0, 0, 0) (0, 0, 0) false) 159 (0, 0)) ∧ wa.heap.size ≤ p8 := (hF 20).1
          clear hF hK gC gN gI
          have hW' : Ext wa W := hW
          dsimp only [List.drop, List.length_cons, List.length_nil]
          have k8 := cells_row f8
          have h8 := frozen_row f8
          go_wp2
          refine QN_in ?_
          have x5 : Ext wa _ := below9 hW' hlo (.int .i64 0) (.slice none 0 0) (.int .u8 x.k) (.int .u32 x.i) (.int .u32 x.o) (.int .u8 x.k) (.int .u32 x.i) (.int .u32 x.o) (.bool is0)
          have r8 := row9 f8 rfl (.int .i64 0) (.slice none 0 0) (.int .u8 x.k) (.int .u32 x.i) (.int .u32 x.o) (.int .u8 x.k) (.int .u32 x.i) (.int .u32 x.o) (.bool is0)
          rw [hq3.out] at x5 r8
          generalize hw5 : (World.setCell (World.setCell (World.setCell (World.setCell (World.setCell (World.setCell (World.setCell (World.setCell (World.setCell W _ _) _ _) _ _) _ _) _ _) _ _) _ _) _ _) _ _) = w5 at *
          rw [← hq3.out] at r8
          clear hw5 k8 h8 f8 hW hW' hq1 hq2
          have H5 := HR.ext HC.out (xa.trans x5)
          have r5 := row_ext ra x5
          have z8 : wr.heap.size < p8 := Nat.lt_of_lt_of_le (Array.getElem?_eq_some_iff.1 ra).1 hlo
          have z8' : p8 < w5.heap.size := (Array.getElem?_eq_some_iff.1 r8).1
          have kn5 := cells_row H5.rn
          rcases Nat.eq_zero_or_pos h with hz | hz
          case' inl =>
            have HO : OneOk p.S h x (keyIt x) (keyIt x) is0 := by
              rw [hz]
              unfold OneOk oneS
              rw [hi0.out, hr.out, Int.toNat_natCast, hnv.out]
              split
              · rename_i hh
                split at hh
                · cases hh
                · rename_i hn
                  exact decide_eq_false hn
              · rename_i hh
                split at hh
                · rename_i hn
                  cases hh
                  exact ⟨decide_eq_true hn, rfl⟩
                · cases hh
            have hd : decide ((h : Int) > 0) = false := decide_eq_false (by omega)
            have hd2 : decide (0 < h) = false := decide_eq_false (by omega)
            have hd3 : ¬ 0 < h := by omega
            obtain ⟨g', H7, HCL⟩ : ∃ g', RdI p h xs (some ⟨b, off, none⟩) c w f w5 g' k fk lk ∧ Hid (is0 = true → 0 < h → (g' x.r).isSome = true) := ⟨g, H5, Lib.hid fun _ h0 => absurd h0 hd3⟩
            replace r8 : w5.heap[p8]? = some (.cells (spanCs 0 none 0 0 (keyIt x) (keyIt x) is0) 159 (0, 0)) := r8
            generalize hF1 : keyIt x = F1 at r8 HO
            obtain ⟨L1, hL1⟩ : ∃ L1, L1 = F1 := ⟨_, rfl⟩
            replace HO : Hid (OneOk p.S h x F1 L1 is0) := Lib.hid (by rw [hL1]; exact HO)
            replace r8 : w5.heap[p8]? = some (.cells (spanCs 0 none 0 0 F1 L1 is0) 159 (0, 0)) := by rw [hL1]; exact r8
            replace hz := Lib.hid hz
            replace H5 := Lib.hid H5
            replace H7 := Lib.hid H7
            generalize is0 = B at r8 HO HCL
            clear hi0 hq3 hF1 hL1
            go_upto_region 8 with fail
          case' inr =>
            obtain ⟨h', hh⟩ : ∃ h', h = h' + 1 := ⟨h - 1, by omega⟩
            have HLc := HL h' hh
            rw [show (h' : Int) = (h : Int) - 1 by omega] at HLc
            have hd : decide ((h : Int) > 0) = true := decide_eq_true (by omega)
            have hd2 : decide (0 < h) = true := decide_eq_true hz
            have hw64 : wrap64 ((h : Int) - 1) = (h : Int) - 1 := IntWalk.wrap64_in _ (by have := hle5.out; omega)
            replace hh := Lib.hid hh
            have ki5 := cells_row r5
            go_wp2_with fail
            refine (HLc r w5 g (H5.cen HC.out)).mono ?_
            rintro e w6 ⟨v, g', rfl, ⟨lvl, A9, n9, c9, F1, L1, rfl, hknown⟩, hgr, hm, hg, hn⟩
            have hlowO := HLow.out
            have C6 := (H5.cen HC.out).after hgr hm hg hn
            have HO : Hid (OneOk p.S h x F1 L1 (okL p.S (h - 1) r)) := by
              refine Lib.hid ?_
              rw [show (h : Int) - 1 = (h' : Int) by have := hh.out; omega] at hknown ⊢
              have hcl : okL p.S (h' : Int) r = true → learnS p.S h' r = some (F1, L1) := fun hok => clause_keys (C6.known _ _ (hknown hok)) hok
              have hol := okL_learn p.S h' r
              unfold OneOk
              rw [hh.out, oneS_succ, hr.out]
              rcases hls : learnS p.S h' r with _ | q
              · rw [hls] at hol; exact hol
              · rw [hls] at hol
                have h1 := hcl hol
                rw [hls] at h1
                cases h1
                exact ⟨hol, rfl⟩
            have HCL : Hid (okL p.S (h - 1) r = true → 0 < h → (g' x.r).isSome = true) := Lib.hid fun hok _ => by rw [hr.out, hknown hok]; rfl
            generalize okL p.S ((h : Int) - 1) r = B at *
            have b8 := (hg.block p8 z8' (by simp; omega)).trans r8
            have H7 := HR.call8 HC.out (xa.trans x5) hgr hm hg hn (b := p8) (by omega) z8' (grown9 (.int .i64 lvl) (.slice A9 n9 c9) (.int .u8 F1.1) (.int .u32 F1.2.1) (.int .u32 F1.2.2) (.int .u8 L1.1) (.int .u32 L1.2.1) (.int .u32 L1.2.2) (.bool B))
            have r9 := row9 b8 rfl (.int .i64 lvl) (.slice A9 n9 c9) (.int .u8 F1.1) (.int .u32 F1.2.1) (.int .u32 F1.2.2) (.int .u8 L1.1) (.int .u32 L1.2.1) (.int .u32 L1.2.2) (.bool B)
            have g9 := grown9 (w := w6) (b := p8) (.int .i64 lvl) (.slice A9 n9 c9) (.int .u8 F1.1) (.int .u32 F1.2.1) (.int .u32 F1.2.2) (.int .u8 L1.1) (.int .u32 L1.2.1) (.int .u32 L1.2.2) (.bool B)
            have r59 := (g9.block wr.heap.size (by have := hg.size; omega) (by simp; omega)).trans ((hg.block wr.heap.size (by omega) (by simp; omega)).trans r5)
            have z9 : p8 < (World.setCell (World.setCell (World.setCell (World.setCell (World.setCell (World.setCell (World.setCell (World.setCell (World.setCell w6 _ _) _ _) _ _) _ _) _ _) _ _) _ _) _ _) _ _).heap.size := (Array.getElem?_eq_some_iff.1 r9).1
            have f8 := frozen_row b8
            have kb8 := cells_row b8
            clear r8 r5 hknown HLc ki5
            replace hz := Lib.hid hz
            replace H5 := Lib.hid H5
            replace H7 := Lib.hid H7
            replace C6 := Lib.hid C6
            replace HLow := Lib.hid HLow
            clear hq3 hi0
            go_upto_region 8 with fail
            generalize hw7 : (World.setCell (World.setCell (World.setCell (World.setCell (World.setCell (World.setCell (World.setCell (World.setCell (World.setCell w6 _ _) _ _) _ _) _ _) _ _) _ _) _ _) _ _) _ _) = w7 at *
            clear hw7 b8 f8 kb8 hgr hm hg hn g9 z8' hlowO
            have r8 := r9
            have r5 := r59
            have z8' := z9
            clear r9 r59 z9
          all_goals
            replace HR := Lib.hid HR
            replace HCr := Lib.hid HCr
            replace HCa := Lib.hid HCa
            replace e3 := Lib.hid e3
            replace hnv := Lib.hid hnv
            clear rxr rrr rnr hb hA hlt hk hc3 hm3 hr2 zr xa ra x5 hlo kn5
            have HBD := Lib.hid (fun hb => H7.out.bad HC.out (HSTEP.out _ _ _ HO.out H7.out.sp hb))
            have kn7 := cells_row H7.out.rn
            have kx7 := cells_row H7.out.rx
            have fx7 := frozen_row H7.out.rx
            have kr7 := cells_row H7.out.rr
            have fr7 := frozen_row H7.out.rr
            have k8 := cells_row r8
            have k5 := cells_row r5
            have hp1 : p8 ≠ w.heap.size + 2 := by omega
            have hp2 : w.heap.size + 2 ≠ p8 := by omega
            have hp3 : p8 ≠ w.heap.size + 1 + 1 := by omega
            have hp4 : w.heap.size + 1 + 1 ≠ p8 := by omega
            rcases hb0 : B with _ | _
            · rw [hb0] at k8
              have HB := HBD.out (.inl hb0)
              replace HB := Lib.hid HB
              clear HBD
              go_wp2
              exact read_ret (b := w.heap.size + 1) rfl rfl (row9 H7.out.rr rfl _ _ _ _ _ _ _ _ _) HB.out
            · rw [hb0] at k8
              have HO1 : OneOk p.S h x F1 L1 true := by rw [← hb0]; exact HO.out
              by_cases hF : F1 = keyIt x
              · subst hF
                have HN0 := Lib.hid (HSTOK.out _ _ HO1 H7.out.sp rfl)
                have hcl : 0 < h → ∀ y ∈ xs.take (k + 1), (g' y.r).isSome = true := fun h0 y hy => by
                  rw [HTK.out, List.mem_append, List.mem_singleton] at hy
                  rcases hy with hy | rfl
                  · exact H7.out.cl h0 y hy
                  · exact HCL.out hb0 h0
                replace hcl := Lib.hid hcl
                replace HO1 := Lib.hid HO1
                replace hb0 := Lib.hid hb0
                rcases Nat.eq_zero_or_pos k with hk0 | hk0
                · have hk1 : decide ((k : Int) > 0) = false := decide_eq_false (by omega)
                  have hk2 : ((k : Int) == 0) = true := by rw [beq_iff_eq]; omega
                  have hk3 : decide (k = 0) = true := decide_eq_true hk0
                  have hk4 : decide (0 < k) = false := decide_eq_false (by omega)
                  have HN := HN0.out (fun h => by omega)
                  rw [if_pos hk0] at HN
                  replace HN := Lib.hid HN
                  replace hk0 := Lib.hid hk0
                  clear HBD HN0
                  have HR9 := H7.out.set6 HC.out HN.out hcl.out
                  dsimp only [keyIt] at HR9
                  replace HR9 := Lib.hid HR9
                  go_wp2_with fail
                  refine ⟨⟨k + 1, g', (x.k, x.i, x.o), L1, hlt', rfl, HR9.out⟩, ?_⟩
                  simp [intOf]
                  omega
                · have hk1 : decide ((k : Int) > 0) = true := decide_eq_true (by omega)
                  have hk2 : ((k : Int) == 0) = false := by rw [beq_eq_false_iff_ne]; omega
                  have hk3 : decide (k = 0) = false := decide_eq_false (by omega)
                  have hk4 : decide (0 < k) = true := decide_eq_true hk0
                  have hkn : ¬ k = 0 := by omega
                  have hkz := Lib.hid hk0
                  clear hk0 hkn
                  go_wp2_with fail
                  refine (less_any lk.1 lk.2.1 lk.2.2 x.k x.i x.o _).mono ?_
                  rintro e wl ⟨rfl, hB⟩
                  have H8 := H7.out.ext HC.out hB
                  have HS8 := Lib.hid (HSTEP.out _ _ _ HO1.out H8.sp)
                  have kn8 := cells_row H8.rn
                  have kx8 := cells_row H8.rx
                  have fx8 := frozen_row H8.rx
                  have kr8 := cells_row H8.rr
                  have fr8 := frozen_row H8.rr
                  have r88 := row_ext r8 hB
                  rw [hb0.out] at r88
                  have k88 := cells_row r88
                  clear kn7 kx7 fx7 kr7 fr7 k8 k5 hB r8 r5 HBD
                  replace H8 := Lib.hid H8
                  rcases hls : lessB lk.1 lk.2.1 lk.2.2 x.k x.i x.o with _ | _
                  · have HB := Lib.hid (H8.out.bad HC.out (HS8.out (.inr (.inr ⟨hkz.out, hls⟩))))
                    go_wp2
                    exact read_ret (b := w.heap.size + 1) rfl rfl (row9 H8.out.rr rfl _ _ _ _ _ _ _ _ _) HB.out
                  · have HN := HN0.out (fun _ => hls)
                    rw [if_neg (by have := hkz.out; omega)] at HN
                    replace HN := Lib.hid HN
                    clear HN0
                    have HR9 := Lib.hid (H8.out.set3 HC.out HN.out hcl.out)
                    go_wp2_with fail
                    refine ⟨⟨k + 1, g', fk, L1, hlt', rfl, HR9.out⟩, ?_⟩
                    simp [intOf]
                    omega
              · have HB := HBD.out (.inr (.inl hF))
                replace HB := Lib.hid HB
                clear HBD
                replace hb0 := Lib.hid hb0
                go_wp2_with fail
                all_goals first
                  | exact absurd (Prod.ext ‹F1.1 = x.k› (Prod.ext ‹F1.2.1 = x.i› ‹F1.2.2 = x.o›)) hF
                  | exact read_ret (b := w.heap.size + 1) rfl rfl (row9 H7.out.rr rfl _ _ _ _ _ _ _ _ _) HB.out
    · have hke : k = xs.length := by omega
      have HQ : ReadQ p h A c xs (spanV h A xs.length c fk lk true) g := by
        refine ⟨fk, lk, true, rfl, ?_, fun _ h0 y hy => HR.cl h0 y (by rw [hke, List.take_length]; exact hy)⟩
        have := HR.sp
        rwa [hke, List.take_length] at this
      have HB := Lib.hid (HR.ret HC.out (grown9 (.int .i64 h) (.slice A xs.length c) (.int .u8 fk.1) (.int .u32 fk.2.1) (.int .u32 fk.2.2) (.int .u8 lk.1) (.int .u32 lk.2.1) (.int .u32 lk.2.2) (.bool true)) HQ)
      have kx := cells_row rxr
      have kr := cells_row rrr
      have fr := frozen_row rrr
      have kn := cells_row rnr
      have rr := Lib.hid rrr
      replace HCr := Lib.hid HCr
      replace HR := Lib.hid HR
      replace HQ := Lib.hid HQ
      replace hke := Lib.hid hke
      clear hkeep rxr rnr rrr zr
      go_wp2
      exact read_ret (b := w.heap.size + 1) rfl rfl (row9 rr.out rfl _ _ _ _ _ _ _ _ _) HB.out
end Go.Proofs.YtckhnchnbeoogaaGreat
/- The census learns a node, and reads one, of any level. -/
namespace Go.Proofs.YtckhnchnbeoogaaGreat
set_option linter.unusedSimpArgs false
set_option linter.unusedVariables false
open Go.RowKit

theorem cread_all (p : CP) : ∀ h : Nat, h ≤ 5 → ReadC p h
  | 0, _ => cread_any p 0 fun _ e => by omega
  | h + 1, hh => cread_any p (h + 1) fun h' e => by
    have e' : h = h' := by omega
    subst e'
    exact learn_any p (h : Int) (.inr (by omega)) fun n hn hL => by
      have e' : n = h := by have := hL (by omega); omega
      subst e'
      exact cread_all p n (by omega)
theorem learn_root (p : CP) : LearnC p (-1) := learn_any p (-1) (.inl rfl) fun h hh _ => cread_all p h hh
end Go.Proofs.YtckhnchnbeoogaaGreat
/- A census counts: its words. -/
namespace Go.Proofs.YtckhnchnbeoogaaGreat
set_option linter.unusedSimpArgs false
set_option linter.unusedVariables false
open Go.RowKit

theorem field_is (lvl : Int) (A : Option Addr) (n c : Nat) (f l : K3) (b : Bool) (w : World) : (Instr.field 159 (spanV lvl A n c f l b) 3).run Tryz.prog w = .ok (.bool b) w := by kernel_rfl
theorem field_n (lvl : Int) (A : Option Addr) (n c : Nat) (f l : K3) (b : Bool) (w : World) : (Instr.field 159 (spanV lvl A n c f l b) 0).run Tryz.prog w = .ok (nodeV lvl A n c) w := by kernel_rfl

structure Ar (ca : Array Value) (refs nodes : Nat → Nat) (vv : Value) : Prop where
  size : ca.size = 519
  ref : ∀ a, a < 256 → ca[6 + a]? = some (.int .i64 (refs a : Int))
  node : ∀ a, a < 256 → ca[262 + a]? = some (.int .i64 (nodes a : Int))
  vol : ca[518]? = some vv
def bump (f : Nat → Nat) (a : Nat) : Nat → Nat := fun b => f b + if b = a then 1 else 0
theorem Ar.addRef {ca : Array Value} {refs nodes : Nat → Nat} {vv : Value} (h : Ar ca refs nodes vv) {a : Nat} (ha : a < 256) : Ar (ca.setIfInBounds (6 + a) (.int .i64 ((refs a : Int) + 1))) (bump refs a) nodes vv := by
  have hs := h.size
  refine ⟨by simp [hs], fun b hb => ?_, fun b hb => ?_, ?_⟩
  · rw [Array.getElem?_setIfInBounds]
    unfold bump
    by_cases e : b = a
    · subst e
      rw [if_pos rfl, if_pos (by omega), if_pos rfl]
      simp
    · rw [if_neg (by omega), if_neg e, h.ref b hb]
      simp
  · rw [Array.getElem?_setIfInBounds, if_neg (by omega), h.node b hb]
  · rw [Array.getElem?_setIfInBounds, if_neg (by omega), h.vol]
theorem Ar.addNode {ca : Array Value} {refs nodes : Nat → Nat} {vv : Value} (h : Ar ca refs nodes vv) {a : Nat} (ha : a < 256) : Ar (ca.setIfInBounds (262 + a) (.int .i64 ((nodes a : Int) + 1))) refs (bump nodes a) vv := by
  have hs := h.size
  refine ⟨by simp [hs], fun b hb => ?_, fun b hb => ?_, ?_⟩
  · rw [Array.getElem?_setIfInBounds, if_neg (by omega), h.ref b hb]
  · rw [Array.getElem?_setIfInBounds]
    unfold bump
    by_cases e : b = a
    · subst e
      rw [if_pos rfl, if_pos (by omega), if_pos rfl]
      simp
    · rw [if_neg (by omega), if_neg e, h.node b hb]
      simp
  · rw [Array.getElem?_setIfInBounds, if_neg (by omega), h.vol]
theorem set_low {ca : Array Value} {k i : Nat} {v : Value} (hk : 6 ≤ k) (hi : i < 6) : (ca.setIfInBounds k v)[i]? = ca[i]? := by
  rw [Array.getElem?_setIfInBounds, if_neg (by omega)]
def metB (nodes : Nat → Nat) : Nat → Bool := fun a => decide (0 < nodes a)
theorem metB_bump_new {nodes : Nat → Nat} {a : Nat} : metB (bump nodes a) = meet (metB nodes) a := by
  funext b
  unfold metB bump meet
  by_cases e : b = a
  · rw [if_pos e, if_pos e]; simp
  · rw [if_neg e, if_neg e]; rfl
theorem metB_bump_old {nodes : Nat → Nat} {a : Nat} (h : 0 < nodes a) : metB (bump nodes a) = metB nodes := by
  funext b
  unfold metB bump
  by_cases e : b = a
  · subst e; rw [if_pos rfl, decide_eq_true h, decide_eq_true (by omega)]
  · rw [if_neg e]; rfl
def Rooted (S : Sto) (f : Int → Option Value) (R : List Nat) : Prop := ∀ a ∈ R, treeOk S a ∧ (f (a : Int)).isSome = true
structure Counted (S : Sto) (R : List Nat) (refs nodes : Nat → Nat) : Prop where
  mkd : Marked (kidsS S) (refsS S) R (metB nodes) refs
  few : ∀ a, nodes a + 6 * unmet (metB nodes) 256 ≤ 1536 + R.length
theorem Rooted.reach {S : Sto} {lo : Nat} {w : World} {f : Int → Option Value} {R : List Nat} (hR : Rooted S f R) (hk : Known S lo w f) {a : Nat} (h : Rch (kidsS S) (· ∈ R) a) : treeOk S a ∧ (f (a : Int)).isSome = true :=
  h.closed (M := fun a => treeOk S a ∧ (f (a : Int)).isSome = true) (fun a ha => hR a ha) fun a ha b hb => ⟨kids_tree ha.1 hb, known_kid hk ha.1 ha.2 hb⟩
theorem refs_few {S : Sto} {R : List Nat} {M : Nat → Bool} {refs : Nat → Nat} {s : List Nat} (h : Walk (kidsS S) (refsS S) R M refs s) (b : Nat) : refs b ≤ R.length + 1280 := by
  rw [h.sum]
  have h1 := List.count_le_length (a := b) (l := R)
  have h2 := rsum_le (rs := refsS S) (M := M) (b := b) (k := 5) 256 fun a _ _ => refs_len
  omega
structure Wk (S : Sto) (R : List Nat) (refs nodes : Nat → Nat) (s : List Nat) : Prop where
  wk : Walk (kidsS S) (refsS S) R (metB nodes) refs s
  few : ∀ a, nodes a + 6 * unmet (metB nodes) 256 + s.length ≤ 1536 + R.length
theorem Counted.start {S : Sto} {R : List Nat} {refs nodes : Nat → Nat} (h : Counted S R refs nodes) (a : Nat) : Wk S (R ++ [a]) (bump refs a) nodes [a] :=
  ⟨(Marked.walk.1 h.mkd).add a fun _ => rfl, fun b => by have := h.few b; simp; omega⟩
theorem Wk.done {S : Sto} {R : List Nat} {refs nodes : Nat → Nat} (h : Wk S R refs nodes []) : Counted S R refs nodes :=
  ⟨Marked.walk.2 h.wk, fun a => by have := h.few a; simpa using this⟩
theorem Wk.again {S : Sto} {R : List Nat} {refs nodes : Nat → Nat} {s : List Nat} {a : Nat} (h : Wk S R refs nodes (s ++ [a])) (ha : 0 < nodes a) : Wk S R refs (bump nodes a) s := by
  refine ⟨?_, fun b => ?_⟩
  · rw [metB_bump_old ha]
    exact h.wk.again (decide_eq_true ha)
  · rw [metB_bump_old ha]
    have := h.few b
    rw [List.length_append, List.length_singleton] at this
    unfold bump
    split <;> omega
def rsTo (xs : List It) (k : Nat) : List Nat := ((xs.take k).map fun y => y.r.toNat).filter fun r => r != 0
theorem rsTo_all {S : Sto} {a : Nat} {lvl : Int} {xs : List It} (h : nodeAt S a = some (lvl, xs)) : rsTo xs xs.length = refsS S a := by
  unfold rsTo refsS
  rw [List.take_length, h]
theorem rsTo_step {xs : List It} {k : Nat} (hk : k < xs.length) : rsTo xs (k + 1) = if xs[k].r.toNat = 0 then rsTo xs k else rsTo xs k ++ [xs[k].r.toNat] := by
  unfold rsTo
  rw [List.take_succ_eq_append_getElem hk, List.map_append, List.filter_append]
  by_cases h : xs[k].r.toNat = 0
  · rw [if_pos h]; simp [h]
  · rw [if_neg h]; simp [h]
theorem rsTo_len {xs : List It} {k : Nat} : (rsTo xs k).length ≤ k := by
  unfold rsTo
  refine Nat.le_trans (List.length_filter_le _ _) ?_
  rw [List.length_map, List.length_take]
  omega
theorem Wk.new {S : Sto} {R : List Nat} {refs nodes refs' : Nat → Nat} {s : List Nat} {a lvl : Nat} {xs : List It} (h : Wk S R refs nodes (s ++ [a])) (ha : nodes a = 0) (hl : a < 256) (hn : nodeAt S a = some ((lvl : Int), xs)) (hr : ∀ b, refs' b = refs b + (rsTo xs xs.length).count b) :
    Wk S R refs' (bump nodes a) (s ++ if 0 < lvl then rsTo xs xs.length else []) := by
  have hm : metB nodes a = false := decide_eq_false (by omega)
  have hk : kidsS S a = if 0 < lvl then rsTo xs xs.length else [] := by
    unfold kidsS
    rw [hn, rsTo_all hn]
    simp only
    by_cases h0 : 0 < lvl
    · rw [if_pos h0, if_pos (by omega)]
    · rw [if_neg h0, if_neg (by omega)]
  rw [← hk]
  refine ⟨?_, fun b => ?_⟩
  · rw [metB_bump_new]
    exact h.wk.new hm hl fun b => by rw [hr, rsTo_all hn]
  · rw [metB_bump_new]
    have h1 := h.few b
    have h2 := unmet_meet hm 256
    rw [if_pos hl] at h2
    rw [List.length_append, List.length_singleton] at h1
    have h3 : (kidsS S a).length ≤ 5 := by
      rw [hk]
      split
      · rw [rsTo_all hn]; exact refs_len
      · simp
    rw [List.length_append]
    unfold bump
    split <;> omega
def leftW (w : World) (cb : Nat) : Nat := unmet (fun a => match w.cell? ⟨cb, 262 + a, none⟩ with | some (.int _ n) => decide (0 < n) | _ => false) 256
theorem leftW_eq {w : World} {cb : Nat} {ca : Array Value} {ty : TypeId} {refs nodes : Nat → Nat} {vv : Value} (hr : w.heap[cb]? = some (.cells ca ty (0, 0))) (h : Ar ca refs nodes vv) : leftW w cb = unmet (metB nodes) 256 := by
  unfold leftW
  refine unmet_congr _ fun a ha => ?_
  rw [cells_row hr, h.node a ha]
  unfold metB
  simp
def lenV : Value → Nat
  | .slice _ n _ => n
  | _ => 0
structure TrI (p : CP) (B : Nat) (w1 wr : World) (vv : Value) (ca : Array Value) (refs nodes : Nat → Nat) : Prop where
  off : Off B p.cb w1 wr
  row : wr.heap[p.cb]? = some (.cells ca 112 (0, 0))
  ar : Ar ca refs nodes vv
  low : ∀ i, i < 6 → ca[i]? = p.ca[i]?
  lt : p.cb < B
theorem TrI.grown {p : CP} {B : Nat} {w1 wr W : World} {vv : Value} {ca : Array Value} {refs nodes : Nat → Nat} (h : TrI p B w1 wr vv ca refs nodes) {row : Option Nat} (hg : wr.grownBy W row) (hr : ∀ g, row = some g → B ≤ g) : TrI p B w1 W vv ca refs nodes :=
  ⟨h.off.grown hg fun g e => .inr (hr g e), (hg.block _ (Nat.lt_of_lt_of_le h.lt h.off.size) fun e => by have := hr _ e.symm; have := h.lt; omega).trans h.row, h.ar, h.low, h.lt⟩
theorem TrI.ext {p : CP} {B : Nat} {w1 wr W : World} {vv : Value} {ca : Array Value} {refs nodes : Nat → Nat} (h : TrI p B w1 wr vv ca refs nodes) (hx : Ext wr W) : TrI p B w1 W vv ca refs nodes := h.grown (grown_of_ext hx none) fun g e => by cases e
theorem TrI.addRef {p : CP} {B : Nat} {w1 wr : World} {vv : Value} {ca : Array Value} {refs nodes : Nat → Nat} (h : TrI p B w1 wr vv ca refs nodes) {a : Nat} (ha : a < 256) : TrI p B w1 (wr.setCell ⟨p.cb, 6 + a, none⟩ (.int .i64 ((refs a : Int) + 1))) vv (ca.setIfInBounds (6 + a) (.int .i64 ((refs a : Int) + 1))) (bump refs a) nodes :=
  ⟨h.off.setCell (p := ⟨p.cb, 6 + a, none⟩) (.inl rfl) _, row_set h.row _ _, h.ar.addRef ha, fun i hi => (set_low (by omega) hi).trans (h.low i hi), h.lt⟩
theorem TrI.addNode {p : CP} {B : Nat} {w1 wr : World} {vv : Value} {ca : Array Value} {refs nodes : Nat → Nat} (h : TrI p B w1 wr vv ca refs nodes) {a : Nat} (ha : a < 256) : TrI p B w1 (wr.setCell ⟨p.cb, 262 + a, none⟩ (.int .i64 ((nodes a : Int) + 1))) vv (ca.setIfInBounds (262 + a) (.int .i64 ((nodes a : Int) + 1))) refs (bump nodes a) :=
  ⟨h.off.setCell (p := ⟨p.cb, 262 + a, none⟩) (.inl rfl) _, row_set h.row _ _, h.ar.addNode ha, fun i hi => (set_low (by omega) hi).trans (h.low i hi), h.lt⟩
theorem TrI.cen {p : CP} {w1 wr : World} {vv : Value} {ca : Array Value} {refs nodes : Nat → Nat} {g : Int → Option Value} (h : TrI p w1.heap.size w1 wr vv ca refs nodes) (hC : Cen p w1 g) : Cen (p.put ca) wr g := hC.put rfl h.off h.row h.low
theorem TrI.its {p : CP} {w1 wr : World} {vv v : Value} {ca : Array Value} {refs nodes : Nat → Nat} {g : Int → Option Value} {xs : List It} (h : TrI p w1.heap.size w1 wr vv ca refs nodes) (hC : Cen p w1 g) (hi : ItsF p.lo w1 v xs) : ItsF p.lo wr v xs :=
  hi.keep h.off.size fun q h1 h2 => h.off.cell h2 (by have := hC.low; omega)
def pushTo (lvl : Nat) (xs : List It) (k : Nat) : List Nat := if 0 < lvl then rsTo xs k else []
theorem pushTo_zero (lvl : Nat) (xs : List It) : pushTo lvl xs 0 = [] := by unfold pushTo rsTo; simp
theorem pushTo_skip {lvl : Nat} {xs : List It} {k : Nat} (hk : k < xs.length) (h : xs[k].r.toNat = 0 ∨ lvl = 0) : pushTo lvl xs (k + 1) = pushTo lvl xs k := by
  unfold pushTo
  by_cases h0 : 0 < lvl
  · rw [if_pos h0, if_pos h0, rsTo_step hk, if_pos (by omega)]
  · rw [if_neg h0, if_neg h0]
theorem pushTo_push {lvl : Nat} {xs : List It} {k : Nat} (hk : k < xs.length) (h : ¬ xs[k].r.toNat = 0) (hl : 0 < lvl) : pushTo lvl xs (k + 1) = pushTo lvl xs k ++ [xs[k].r.toNat] := by
  unfold pushTo
  rw [if_pos hl, if_pos hl, rsTo_step hk, if_neg h]
theorem rsTo_skip {xs : List It} {k : Nat} {rf rf' : Nat → Nat} (hk : k < xs.length) (h : xs[k].r.toNat = 0) (hr : ∀ b, rf' b = rf b + (rsTo xs k).count b) : ∀ b, rf' b = rf b + (rsTo xs (k + 1)).count b := by
  intro b
  rw [hr, rsTo_step hk, if_pos h]
theorem rsTo_bump {xs : List It} {k : Nat} {rf rf' : Nat → Nat} (hk : k < xs.length) (h : ¬ xs[k].r.toNat = 0) (hr : ∀ b, rf' b = rf b + (rsTo xs k).count b) : ∀ b, bump rf' xs[k].r.toNat b = rf b + (rsTo xs (k + 1)).count b := by
  intro b
  rw [rsTo_step hk, if_neg h, List.count_append, ← Nat.add_assoc, ← hr]
  unfold bump
  rw [List.count_singleton]
  by_cases e : b = xs[k].r.toNat
  · rw [if_pos e, if_pos (by simp [e])]
  · rw [if_neg e, if_neg (by simp; omega)]
theorem rsTo_zero (xs : List It) : rsTo xs 0 = [] := by unfold rsTo; simp
def intsV (s : List Nat) : List Value := s.map fun (a : Nat) => Value.int .i64 (a : Int)
theorem intsV_len (s : List Nat) : (intsV s).length = s.length := by simp [intsV]
theorem intsV_snoc (s : List Nat) (a : Nat) : intsV (s ++ [a]) = intsV s ++ [Value.int .i64 (a : Int)] := by simp [intsV]
section
variable {P : Program} (w : World) {ops : Array Oper} {rest : List Oper} {o : Oper} {a : Act} {Q : Exit → Act → World → Prop}
theorem run_lookup_one {mb : Nat} {f : Int → Option Value} (h : MapAt w mb f) (t k e : TypeId) (ht : P.underlying t = some (.map k e)) (hk : P.underlying k = some (.int .i64)) {a : Int} {v : Value} (hf : f a = some v) :
    (Instr.lookup t (.map (some mb)) (.int .i64 a) false).run P w = .ok v w := by
  obtain ⟨es, clock, hb, hks, hfa⟩ := h
  have h0 := hfa a
  rw [hf] at h0
  rcases findNow_int a es.toList 0 hks with ⟨h1, h2⟩ | ⟨j, e2, h1, h2, h3, h4, _⟩
  · unfold lookE at h0
    rw [h2] at h0
    cases h0
  · unfold lookE at h0
    rw [h3] at h0
    simp only [Option.map_some, Option.some.injEq] at h0
    simp [Instr.lookup, run_underlying ht, MapKept.run_getObj_map hb, run_check_int hk, run_find_int hk h2, h0, Result.andThen]
theorem wpList_lookup_one (hg : o.guard = none) (m x : Operand) (t : TypeId) (hop : o.op = Op.lookup t m x false) {k e : TypeId} (ht : P.underlying t = some (.map k e)) (hk : P.underlying k = some (.int .i64))
    {mb : Nat} {f : Int → Option Value} {r : Int} {v : Value} (hm : a.eval m = .map (some mb)) (hx : a.eval x = .int .i64 r) (h : MapAt w mb f) (hf : f r = some v)
    (hK : wpList P ops Q rest (a.put o.dst v) w) : wpList P ops Q (o :: rest) a w := by
  refine wpList_plain hg fun K' hK' => ?_
  unfold Oper.wp
  simp [execOp, hop, hm, hx, run_lookup_one w h t k e ht hk hf, Result.andThen]
  exact hK' _ _ hK
end
end Go.Proofs.YtckhnchnbeoogaaGreat
/- The volumes of a forest: plain words. -/
namespace Go.Proofs.YtckhnchnbeoogaaGreat
set_option linter.unusedSimpArgs false
set_option linter.unusedVariables false
open Go.RowKit

def itemsS (S : Sto) : Nat → List It → List It
  | 0, xs => xs
  | h + 1, xs => xs.flatMap fun y => match nodeAt S y.r.toNat with
    | none => []
    | some (_, ys) => itemsS S h ys
def volGood (next : Int) (y : It) : Bool := isVol y && (decide (y.i ≠ 0) && decide (y.i < next))
def volsGo (next : Int) : List Vol → List It → Option (List Vol)
  | vs, [] => some vs
  | vs, y :: r => if volGood next y = true ∧ vs.length ≠ 16 then volsGo next (vs ++ [volAt y]) r else none
theorem volsGo_cons (next : Int) (vs : List Vol) (y : It) (r : List It) : volsGo next vs (y :: r) = if volGood next y = true ∧ vs.length ≠ 16 then volsGo next (vs ++ [volAt y]) r else none := rfl
theorem items_succ (S : Sto) (h : Nat) (xs : List It) : itemsS S (h + 1) xs = xs.flatMap fun y => match nodeAt S y.r.toNat with | none => [] | some (_, ys) => itemsS S h ys := rfl
theorem volsGo_append (next : Int) : ∀ (l m : List It) (vs : List Vol), volsGo next vs (l ++ m) = (volsGo next vs l).bind fun vs' => volsGo next vs' m
  | [], m, vs => rfl
  | y :: r, m, vs => by
    rw [List.cons_append, volsGo_cons, volsGo_cons]
    split
    · exact volsGo_append next r m _
    · rfl
theorem volsGo_len (next : Int) : ∀ (l : List It) (vs vs' : List Vol), vs.length ≤ 16 → volsGo next vs l = some vs' → vs'.length ≤ 16
  | [], vs, vs', h, e => by cases e; exact h
  | y :: r, vs, vs', h, e => by
    unfold volsGo at e
    split at e
    · rename_i hc
      exact volsGo_len next r _ vs' (by rw [List.length_append, List.length_singleton]; have := hc.2; omega) e
    · cases e
theorem volsGo_all (next : Int) : ∀ (l : List It) (vs : List Vol), vs.length ≤ 16 → volsGo next vs l = if l.all (volGood next) = true ∧ vs.length + l.length ≤ 16 then some (vs ++ l.map volAt) else none
  | [], vs, h => by
    unfold volsGo
    rw [if_pos ⟨rfl, by simpa using h⟩]
    simp
  | y :: r, vs, h => by
    unfold volsGo
    by_cases hg : volGood next y = true
    · by_cases hl : vs.length = 16
      · rw [if_neg (fun x => x.2 hl), if_neg (fun x => by have := x.2; simp at this; omega)]
      · rw [if_pos ⟨hg, hl⟩, volsGo_all next r _ (by rw [List.length_append, List.length_singleton]; omega)]
        simp only [List.all_cons, hg, Bool.true_and, List.length_append, List.length_cons, List.length_nil, List.append_assoc, List.map_cons, List.cons_append, List.nil_append]
        by_cases h1 : r.all (volGood next) = true ∧ vs.length + (0 + 1) + r.length ≤ 16
        · rw [if_pos h1, if_pos ⟨h1.1, by omega⟩]
        · rw [if_neg h1, if_neg (fun x => h1 ⟨x.1, by omega⟩)]
    · rw [if_neg (fun x => hg x.1), if_neg (fun x => by have := x.1; simp only [List.all_cons, Bool.and_eq_true] at this; exact hg this.1)]
theorem items_leaf {S : Sto} {xs : List It} {k : Nat} (hk : k < xs.length) : itemsS S 0 (xs.take (k + 1)) = itemsS S 0 (xs.take k) ++ [xs[k]] := List.take_succ_eq_append_getElem hk
theorem items_node {S : Sto} {h : Nat} {xs ys : List It} {lvl : Int} {k : Nat} (hk : k < xs.length) (hn : nodeAt S xs[k].r.toNat = some (lvl, ys)) : itemsS S (h + 1) (xs.take (k + 1)) = itemsS S (h + 1) (xs.take k) ++ itemsS S h ys := by
  rw [List.take_succ_eq_append_getElem hk, items_succ, items_succ, List.flatMap_append]
  simp [hn]
theorem items_nil {S : Sto} (h : Nat) : itemsS S h [] = [] := by
  cases h <;> rfl
theorem itemsS_take {S : Sto} {h : Nat} {xs : List It} {k : Nat} (hk : k ≤ xs.length) : ∃ r, itemsS S h xs = itemsS S h (xs.take k) ++ r := by
  cases h with
  | zero => exact ⟨xs.drop k, (List.take_append_drop k xs).symm⟩
  | succ h =>
    refine ⟨itemsS S (h + 1) (xs.drop k), ?_⟩
    have := (List.take_append_drop k xs).symm
    conv => lhs; rw [this]
    rw [items_succ, items_succ, items_succ, List.flatMap_append]
theorem volsGo_bad {S : Sto} {h : Nat} {xs : List It} {k : Nat} {next : Int} {vs : List Vol} (hk : k ≤ xs.length) (hb : volsGo next vs (itemsS S h (xs.take k)) = none) : volsGo next vs (itemsS S h xs) = none := by
  obtain ⟨r, hr⟩ := itemsS_take (S := S) (h := h) hk
  rw [hr, volsGo_append, hb]
  rfl
def cellsV (vs : List Vol) : List Value := vs.flatMap fun v => [.int .u32 v.id, .int .i64 v.root, .bool v.fz, .int .u32 v.frm]
theorem cellsV_snoc (vs : List Vol) (v : Vol) : cellsV (vs ++ [v]) = cellsV vs ++ [.int .u32 v.id, .int .i64 v.root, .bool v.fz, .int .u32 v.frm] := by simp [cellsV]
structure VolI (p : CP) (w1 w : World) (vs : List Vol) (vv : Value) (ca : Array Value) (refs nodes : Nat → Nat) : Prop where
  t : TrI p w1.heap.size w1 w vv ca refs nodes
  own : w.ownsRow w1.heap.size 70 4 vv vs.length (cellsV vs)
structure VolF (p : CP) (vv : Value) (w w' : World) : Prop where
  os : w'.os = w.os
  tape : w'.tape = w.tape
  output : w'.output = w.output
  size : w.heap.size ≤ w'.heap.size
  block : ∀ k, k < w.heap.size → k ≠ p.cb → vv.ownBlock ≠ some k → w'.heap[k]? = w.heap[k]?
def Newer (vv : Value) (n : Nat) (vv' : Value) : Prop := vv'.ownBlock = vv.ownBlock ∨ ∃ g, vv'.ownBlock = some g ∧ n ≤ g
def VolsQ (p : CP) (w1 : World) (refs nodes : Nat → Nat) (next : Int) (vs : List Vol) (l : List It) (vv : Value) (w : World) (e : Ending) (w' : World) : Prop :=
  VolF p vv w w' ∧ match volsGo next vs l with
    | none => e = .returned (.int .i64 8)
    | some vs' => e = .returned (.int .i64 0) ∧ ∃ vv' ca', VolI p w1 w' vs' vv' ca' refs nodes ∧ Newer vv w.heap.size vv'
theorem VolF.refl (p : CP) (vv : Value) (w : World) : VolF p vv w w := ⟨rfl, rfl, rfl, Nat.le_refl _, fun _ _ _ _ => rfl⟩
theorem VolF.ext {p : CP} {vv : Value} {w w' w'' : World} (h : VolF p vv w w') (hx : Ext w' w'') : VolF p vv w w'' :=
  ⟨hx.os.trans h.os, hx.tape.trans h.tape, hx.output.trans h.output, Nat.le_trans h.size hx.size, fun k h1 h2 h3 => (hx.block k (Nat.lt_of_lt_of_le h1 h.size)).trans (h.block k h1 h2 h3)⟩
theorem VolF.trans {p : CP} {vv vv' : Value} {w w' w'' : World} (h : VolF p vv w w') (h' : VolF p vv' w' w'') (hn : Newer vv w.heap.size vv') : VolF p vv w w'' :=
  ⟨h'.os.trans h.os, h'.tape.trans h.tape, h'.output.trans h.output, Nat.le_trans h.size h'.size, fun k h1 h2 h3 => (h'.block k (Nat.lt_of_lt_of_le h1 h.size) h2 (fun e => by
    rcases hn with x | ⟨g, x, y⟩
    · exact h3 (x ▸ e)
    · rw [x] at e; cases e; omega)).trans (h.block k h1 h2 h3)⟩
theorem Newer.refl (vv : Value) (n : Nat) : Newer vv n vv := .inl rfl
theorem Newer.trans {vv vv' vv'' : Value} {n n' : Nat} (h : Newer vv n vv') (h' : Newer vv' n' vv'') (hn : n ≤ n') : Newer vv n vv'' := by
  rcases h' with x | ⟨g, x, y⟩
  · rcases h with z | ⟨g, z, y⟩
    · exact .inl (x.trans z)
    · exact .inr ⟨g, x.trans z, y⟩
  · exact .inr ⟨g, x, by omega⟩
theorem VolI.ext {p : CP} {w1 w w' : World} {vs : List Vol} {vv : Value} {ca : Array Value} {refs nodes : Nat → Nat} (h : VolI p w1 w vs vv ca refs nodes) (hx : Ext w w') : VolI p w1 w' vs vv ca refs nodes := ⟨h.t.ext hx, own_ext h.own hx⟩
theorem TrI.setVol {p : CP} {B : Nat} {w1 wr : World} {vv : Value} {ca : Array Value} {refs nodes : Nat → Nat} (h : TrI p B w1 wr vv ca refs nodes) (vv' : Value) : TrI p B w1 (wr.setCell ⟨p.cb, 518, none⟩ vv') vv' (ca.setIfInBounds 518 vv') refs nodes := by
  have hs := h.ar.size
  refine ⟨h.off.setCell (p := ⟨p.cb, 518, none⟩) (.inl rfl) _, row_set h.row _ _, ⟨by simp [hs], fun a ha => ?_, fun a ha => ?_, ?_⟩, fun i hi => (set_low (by omega) hi).trans (h.low i hi), h.lt⟩
  · rw [Array.getElem?_setIfInBounds, if_neg (by omega), h.ar.ref a ha]
  · rw [Array.getElem?_setIfInBounds, if_neg (by omega), h.ar.node a ha]
  · rw [Array.getElem?_setIfInBounds, if_pos rfl, if_pos (by omega)]
theorem VolF.grown {p : CP} {vv0 vv : Value} {w w' w'' : World} (h : VolF p vv0 w w') (hn : Newer vv0 w.heap.size vv) (hg : w'.grownBy w'' vv.ownBlock) : VolF p vv0 w w'' :=
  ⟨hg.os.trans h.os, hg.tape.trans h.tape, hg.output.trans h.output, Nat.le_trans h.size hg.size, fun k h1 h2 h3 => (hg.block k (Nat.lt_of_lt_of_le h1 h.size) (fun e => by
    rcases hn with x | ⟨g, x, y⟩
    · exact h3 (x ▸ e.symm)
    · rw [x] at e; cases e; omega)).trans (h.block k h1 h2 h3)⟩
theorem VolF.setC {p : CP} {vv0 u : Value} {w w' : World} {i : Nat} (h : VolF p vv0 w w') : VolF p vv0 w (w'.setCell ⟨p.cb, i, none⟩ u) :=
  ⟨h.os, h.tape, h.output, by simpa using h.size, fun k h1 h2 h3 => (Below.heap_setCell _ _ _ _ (fun e => h2 e)).trans (h.block k h1 h2 h3)⟩
abbrev poolCs (s1 s2 s3 s4 : Value) (gen root next : Int) (dead : Value) : Array Value := #[s1, s2, s3, s4, .int .u32 gen, .int .i64 root, .int .u32 next, dead]
def VolsC (p : CP) (w1 : World) (f : Int → Option Value) (refs nodes : Nat → Nat) (s1 s2 s3 s4 : Value) (gen root next : Int) (dead : Value) (h : Nat) : Prop :=
  ∀ (xs : List It) (A : Option Addr) (c : Nat) (vs : List Vol) (vv : Value) (ca : Array Value) (w : World), VolI p w1 w vs vv ca refs nodes → vs.length ≤ 16 → (∀ x ∈ xs, ItOk x) → xs.length ≤ 5 → ItsF p.lo w1 (.slice A xs.length c) xs →
    (spanS p.S h xs).isSome = true → (0 < h → ∀ y ∈ xs, (f y.r).isSome = true) →
    Calls Tryz.prog 88 #[.pointer (some ⟨p.cb, 0, none⟩), .agg (poolCs s1 s2 s3 s4 gen root next dead), nodeV h A xs.length c] w (VolsQ p w1 refs nodes next vs (itemsS p.S h xs) vv w)
end Go.Proofs.YtckhnchnbeoogaaGreat
