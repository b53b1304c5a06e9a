/- Texts Tree, CenB, TakeW, joined. -/
import Derived.Test.YtlgbjpihmkeopaaP07
import Derived.Test.YtlgbjpihmkeopaaP11
import Derived.Test.YtlgbjpihmkeopaaP12
/- Contracts: the census counts a tree. -/
namespace Go.Proofs.Ytlgbjpihmkeopaa
set_option linter.unusedSimpArgs false
set_option linter.unusedVariables false
open Go.RowKit

def TreeQ (p : CP) (R : List Nat) (r : Int) (vv : Value) (w : World) (f : Int → Option Value) (e : Ending) (w' : World) : Prop :=
  e = .returned (.int .i64 (if okL p.S (-1) r = true then 0 else 8)) ∧ w'.os = w.os ∧ w'.tape = w.tape ∧ w'.output = w.output ∧ w.heap.size ≤ w'.heap.size ∧ (∀ k, k < w.heap.size → k ≠ p.cb → k ≠ p.mb → w'.heap[k]? = w.heap[k]?) ∧
    (okL p.S (-1) r = true → ∃ ca g refs nodes, Cen (p.put ca) w' g ∧ Grows f g ∧ Ar ca refs nodes vv ∧ Counted p.S (R ++ [r.toNat]) refs nodes ∧ Rooted p.S g (R ++ [r.toNat]))

theorem Try.info_int : (Try.prog.info? 3).map (fun i => (i.zero, i.size, i.bytes)) = some (some (.int .i64 0), 1, 8) := by kernel_rfl
structure TRel (p : CP) (w1 : World) (vv : Value) (R : List Nat) (v : Value) (wr : World) : Prop where
  ex : ∃ (s : List Nat) (rf nd : Nat → Nat) (ca : Array Value), lenV v = s.length ∧ wr.ownsRow w1.heap.size 3 1 v s.length (intsV s) ∧ TrI p w1.heap.size w1 wr vv ca rf nd ∧ Wk p.S R rf nd s
structure IRel (p : CP) (w1 : World) (vv : Value) (s' : List Nat) (lv9 : Nat) (xs : List It) (rf nd' : Nat → Nat) (nb : Nat) (A9 : Option Addr) (c9 : Nat) (v i : Value) (wq : World) : Prop where
  ex : ∃ (k : Nat) (rf' : Nat → Nat) (ca' : Array Value), k ≤ xs.length ∧ i = .int .i64 (k : Int) ∧ (∀ x, rf' x = rf x + (rsTo xs k).count x) ∧ lenV v = (s' ++ pushTo lv9 xs k).length ∧
    wq.ownsRow w1.heap.size 3 1 v (s' ++ pushTo lv9 xs k).length (intsV (s' ++ pushTo lv9 xs k)) ∧ (∀ q, v.ownBlock = some q → q ≠ nb) ∧ TrI p w1.heap.size w1 wq vv ca' rf' nd' ∧
    wq.heap[nb]? = some (.cells #[.int .i64 lv9, .slice A9 xs.length c9] 104 (0, 0))
set_option maxHeartbeats 4000000 in
set_option maxRecDepth 100000 in
theorem tree_any (p : CP) (R : List Nat) (hRl : R.length ≤ 100) (r : Int) (w : World) (f : Int → Option Value) (refs nodes : Nat → Nat) (vv : Value) (hC : Cen p w f) (hA : Ar p.ca refs nodes vv) (hN : Counted p.S R refs nodes) (hR : Rooted p.S f R) :
    Calls Try.prog 79 #[.pointer (some ⟨p.cb, 0, none⟩), .int .i64 r] w (TreeQ p R r vv w f) := by
  replace hC := Lib.hid hC
  replace hA := Lib.hid hA
  replace hN := Lib.hid hN
  replace hR := Lib.hid hR
  have hfi := field_is
  have hfn := field_n
  go_enter Try.func79, Try.ntmps79
  go_wp2_with fail
  refine (learn_root p r w f hC.out).mono ?_
  rintro e w1 ⟨v, g, rfl, ⟨lvl, A, n, c, fk, lk, rfl, hknown⟩, hgr, hm, hg, hn⟩
  have C1 := hC.out.after hgr hm hg hn
  rcases hok : okL p.S (-1) r with _ | _
  · have HQ : TreeQ p R r vv w f (.returned (.int .i64 8)) w1 := ⟨by rw [hok]; rfl, hg.os, hg.tape, hg.output, hg.size, fun k h1 _ h2 => hg.block k h1 (by simp; omega), fun h => by rw [hok] at h; cases h⟩
    replace HQ := Lib.hid HQ
    replace C1 := Lib.hid C1
    clear hknown hgr hm hg hn
    go_wp2
    go_ret
    exact HQ.out
  · obtain ⟨a, rfl, htree⟩ := okL_root hok
    have hga := hknown hok
    have ha2 : a < 256 := htree.2.1
    have kc := cells_row C1.row
    have fc := frozen_row C1.row
    have kr := hA.out.ref a ha2
    replace C1 := Lib.hid C1
    replace htree := Lib.hid htree
    replace hga := Lib.hid hga
    clear hknown
    have hw1 : wrap64 ((refs a : Int) + 1) = (refs a : Int) + 1 := IntWalk.wrap64_in _ (by have := refs_few (Marked.walk.1 hN.out.mkd) a; omega)
    have T1 : TrI p w1.heap.size w1 w1 vv p.ca refs nodes := ⟨Off.refl (Nat.le_refl _), C1.out.row, hA.out, fun _ _ => rfl, (Array.getElem?_eq_some_iff.1 C1.out.row).1⟩
    have Rk : Rooted p.S g (R ++ [a]) := fun b hb => by
      rcases List.mem_append.1 hb with hb | hb
      · exact ⟨(hR.out b hb).1, hgr.some_ _ (hR.out b hb).2⟩
      · rw [List.mem_singleton.1 hb]
        exact ⟨htree.out, by rw [hga.out]; rfl⟩
    replace Rk := Lib.hid Rk
    go_wp2_with fail
    have gR : ∀ W, extRel.r w1 W → W.cell? ⟨p.cb, 6 + a, none⟩ = some (.int .i64 (refs a : Int)) := fun W h => by rw [cells_row (row_ext C1.out.row h)]; exact kr
    refine region_start (by kernel_rfl) ?_
    refine any_pure 0 10 (.pointer (some ⟨p.cb, 0, none⟩)) (by kernel_rfl) (by simp only [List.getElem?_toArray, List.getElem?_cons_succ, List.getElem?_cons_zero]; exact rfl) (by kernel_rfl) (by kernel_rfl) (by kernel_rfl) (by rfl) (fun W => ?_) ?_
    · go_simp
    simp only [Act.put, one_f, outB_f, outNew_f, outI_f, outNew_f, List.setIfInBounds_toArray, List.set_cons_zero, List.set_cons_succ]
    refine any_pure 7 9 (.pointer (some ⟨p.cb, 0, none⟩)) (by kernel_rfl) (by simp only [List.getElem?_toArray, List.getElem?_cons_succ, List.getElem?_cons_zero]; exact rfl) (by kernel_rfl) (by kernel_rfl) (by kernel_rfl) (by rfl) (fun W => ?_) ?_
    · go_simp
    simp only [Act.put, one_f, outB_f, outNew_f, outI_f, outNew_f, List.setIfInBounds_toArray, List.set_cons_zero, List.set_cons_succ]
    refine any_pure 8 8 (.pointer (some ⟨p.cb, 6, none⟩)) (by kernel_rfl) (by simp only [List.getElem?_toArray, List.getElem?_cons_succ, List.getElem?_cons_zero]; exact rfl) (by kernel_rfl) (by kernel_rfl) (by kernel_rfl) (by rfl) (fun W => ?_) ?_
    · go_simp
    simp only [Act.put, one_f, outB_f, outNew_f, outI_f, outNew_f, List.setIfInBounds_toArray, List.set_cons_zero, List.set_cons_succ]
    refine any_free (w := w1) extRel (outsAt []) [false, true, true, true, true, true, true, false, false, true] 1 (by kernel_rfl) (by kernel_rfl) (by kernel_rfl) (by kernel_rfl) (by kernel_rfl) (by kernel_rfl) ?st (Rel.drew _ _) ?walk
    case st => exact outsAt_stableG (fun _ h => by cases h)
    case walk =>
      intro K hK
      dsimp only [maskOps]
      repeat ((first | (refine free_plainM ?_ (by rfl) (by rfl) (fun W hW _ => ⟨W, ?_, Rel.refl _ W⟩) ?_; rotate_left; (first | (go_simp; with_reducible rfl) | (go_simp; done))) | (refine free_skipM (by rfl) ?_)); try simp only [Act.put, one_f, outB_f, outNew_f, outI_f, outNew_f, List.setIfInBounds_toArray, List.set_cons_zero, List.set_cons_succ])
      refine free_plainM (.pointer (some ⟨p.cb, 6 + a, none⟩)) (by rfl) (by rfl) (fun W hW _ => ⟨W, ?_, Rel.refl _ W⟩) ?_
      · go_simp
        intro hge
        exfalso
        omega
      simp only [Act.put, one_f, outB_f, outNew_f, outI_f, outNew_f, List.setIfInBounds_toArray, List.set_cons_zero, List.set_cons_succ]
      repeat ((first | (refine free_plainM ?_ (by rfl) (by rfl) (fun W hW _ => ⟨W, ?_, Rel.refl _ W⟩) ?_; rotate_left; (first | (go_simp; with_reducible rfl) | (go_simp; done))) | (refine free_skipM (by rfl) ?_)); try simp only [Act.put, one_f, outB_f, outNew_f, outI_f, outNew_f, List.setIfInBounds_toArray, List.set_cons_zero, List.set_cons_succ])
      refine free_plainM (.pointer (some ⟨p.cb, 6 + a, none⟩)) (by rfl) (by rfl) (fun W hW _ => ⟨W, ?_, Rel.refl _ W⟩) ?_
      · go_simp
        intro hge
        exfalso
        omega
      simp only [Act.put, one_f, outB_f, outNew_f, outI_f, outNew_f, List.setIfInBounds_toArray, List.set_cons_zero, List.set_cons_succ]
      repeat ((first | (refine free_plainM ?_ (by rfl) (by rfl) (fun W hW _ => ⟨W, ?_, Rel.refl _ W⟩) ?_; rotate_left; (first | (go_simp; with_reducible rfl) | (go_simp; done))) | (refine free_skipM (by rfl) ?_)); try simp only [Act.put, one_f, outB_f, outNew_f, outI_f, outNew_f, List.setIfInBounds_toArray, List.set_cons_zero, List.set_cons_succ])
      refine free_nilM (hK _ _ fun W hW hF => ?_)
      have hW' : Ext w1 W := hW
      clear hF hK gR kc fc kr
      dsimp only [List.drop, List.length_cons, List.length_nil]
      have T2 := (T1.ext hW').addRef ha2
      have rc := row_ext C1.out.row hW'
      have kc := cells_row rc
      have fc := frozen_row rc
      have kr := hA.out.ref a ha2
      go_wp2
      refine QN_in ?_
      go_wp2_with fail
      generalize hw3 : World.alloc _ _ = w3
      have T3 : TrI p w1.heap.size w1 w3 vv _ (bump refs a) nodes := T2.ext (by rw [← hw3]; exact Ext.alloc _ _)
      have o3 : w3.ownsRow w1.heap.size 3 1 (.slice (some ⟨W.heap.size, 0, none⟩) 1 1) 1 (intsV [a]) := by
        have h := World.ownsRow_lit (base := w1.heap.size) (e := 3) (size := 1) (W.setCell ⟨p.cb, 6 + a, none⟩ (.int .i64 ((refs a : Int) + 1))) #[.int .i64 (a : Int)] 1 (by simpa using hW'.size) (by unfold maxLen; omega) rfl
        rw [← hw3]
        have hz : (W.setCell ⟨p.cb, 6 + a, none⟩ (.int .i64 ((refs a : Int) + 1))).heap.size = W.heap.size := by simp
        rw [hz] at h
        exact h
      have K3 := hN.out.start a
      generalize (p.ca.setIfInBounds (6 + a) _) = ca3 at T3
      clear hw3 kc fc kr rc T2 hW' T1 hN hA hw1
      generalize W.heap.size = g3 at *
      replace T3 := Lib.hid T3
      replace o3 := Lib.hid o3
      replace K3 := Lib.hid K3
      go_loopw [5] (fun v wr => TRel p w1 vv (R ++ [a]) v wr) (fun v wr => 6 * leftW wr p.cb + lenV v)
      case atStart => exact ⟨[a], _, _, _, rfl, o3.out, T3.out, K3.out⟩
      case round =>
        obtain ⟨s, rf, nd, ca, hsl, hown, T, K⟩ := hrel.ex
        clear T3 o3 K3
        rcases List.eq_nil_or_concat s with rfl | ⟨s', b, rfl⟩
        · obtain ⟨A, c', rfl, -, -⟩ := own_slice hown
          have hd : Counted p.S (R ++ [a]) rf nd := K.done
          have HQ : TreeQ p R (a : Int) vv w f (.returned (.int .i64 0)) wr := by
            refine ⟨by rw [hok]; rfl, ?_, ?_, ?_, ?_, ?_, fun _ => ⟨ca, g, rf, nd, T.cen C1.out, hgr, T.ar, ?_, ?_⟩⟩
            · exact T.off.os.trans hg.os
            · exact T.off.tape.trans hg.tape
            · exact T.off.output.trans hg.output
            · exact Nat.le_trans hg.size T.off.size
            · intro k h1 h2 h3
              exact (T.off.block k (Nat.lt_of_lt_of_le h1 hg.size) h2).trans (hg.block k h1 (by simp; omega))
            · simpa using hd
            · simpa using Rk.out
          replace HQ := Lib.hid HQ
          replace T := Lib.hid T
          replace K := Lib.hid K
          replace hd := Lib.hid hd
          clear hown hsl hgr hm hg hn
          go_wp2
          go_ret
          exact HQ.out
        · rw [List.concat_eq_append] at *
          obtain ⟨m, hm0⟩ : ∃ m, m = s'.length := ⟨_, rfl⟩
          rw [List.length_append, List.length_singleton, ← hm0] at hown
          rw [intsV_snoc] at hown
          rcases hown.2 with ⟨h0, -⟩ | ⟨gb, cap, cur, rfl, hgb, hrow, hnc, hcm, hcs, htk⟩
          · exfalso
            have := hown.1
            simp [intsV_len] at this
            rw [h0] at hsl
            simp [lenV] at hsl
          · obtain ⟨gb', off', e0, hgb', hcel⟩ := (Rd.of_own hown).2 (by omega)
            simp only [Option.some.injEq, Addr.mk.injEq, and_true] at e0
            obtain ⟨rfl, rfl⟩ := e0
            have kb := hcel m (.int .i64 (b : Int)) (by rw [List.getElem?_append_right (by rw [intsV_len]; omega), intsV_len, ← hm0]; simp)
            rw [Nat.zero_add] at kb
            clear hcel
            have hown2 := own_shrink (xs := intsV s') (news := [.int .i64 (b : Int)]) (n := m) (m := 1) hown (by rw [intsV_len, hm0]; omega)
            obtain ⟨hbt, hbk⟩ := Rk.out.reach C1.out.known (K.wk.stk b (List.mem_append_right _ (List.mem_singleton.2 rfl)))
            have hb2 := hbt.2.1
            have hw2 : wrap64 ((m : Int) + 1 - 1) = (m : Int) := by rw [IntWalk.wrap64_in _ (by unfold maxLen at hcm; omega)]; omega
            have hw22 : wrap64 (m : Int) = (m : Int) := IntWalk.wrap64_in _ (by unfold maxLen at hcm; omega)
            replace hown := Lib.hid hown
            replace hown2 := Lib.hid hown2
            replace T := Lib.hid T
            replace K := Lib.hid K
            replace hbt := Lib.hid hbt
            replace hbk := Lib.hid hbk
            replace hm0 := Lib.hid hm0
            replace hsl := Lib.hid hsl
            have hmc : m ≤ cap := Nat.le_of_succ_le hnc
            have hcap : ¬ cap = 0 := fun e => by rw [e] at hnc; exact absurd hnc (Nat.not_succ_le_zero _)
            clear hrow
            clear htk hcs hgr hm hg hn hgb hcm hnc
            have kn0 := T.out.ar.node b hb2
            have hw3 : wrap64 ((nd b : Int) + 1) = (nd b : Int) + 1 := IntWalk.wrap64_in _ (by have := K.out.few b; simp at this; omega)
            go_wp2_with fail
            have gN : ∀ W, extRel.r wr W → W.cell? ⟨p.cb, 262 + b, none⟩ = some (.int .i64 (nd b : Int)) := fun W h => by rw [cells_row (row_ext T.out.row h)]; exact kn0
            refine region_start (by kernel_rfl) ?_
            refine any_pure 0 10 (.pointer (some ⟨p.cb, 0, none⟩)) (by kernel_rfl) (by simp only [List.getElem?_toArray, List.getElem?_cons_succ, List.getElem?_cons_zero]; exact rfl) (by kernel_rfl) (by kernel_rfl) (by kernel_rfl) (by rfl) (fun W => ?_) ?_
            · go_simp
            simp only [Act.put, one_f, outB_f, outNew_f, outI_f, outNew_f, List.setIfInBounds_toArray, List.set_cons_zero, List.set_cons_succ]
            refine any_pure 2 9 (.pointer (some ⟨p.cb, 0, none⟩)) (by kernel_rfl) (by simp only [List.getElem?_toArray, List.getElem?_cons_succ, List.getElem?_cons_zero]; exact rfl) (by kernel_rfl) (by kernel_rfl) (by kernel_rfl) (by rfl) (fun W => ?_) ?_
            · go_simp
            simp only [Act.put, one_f, outB_f, outNew_f, outI_f, outNew_f, List.setIfInBounds_toArray, List.set_cons_zero, List.set_cons_succ]
            refine any_pure 7 8 (.pointer (some ⟨p.cb, 0, none⟩)) (by kernel_rfl) (by simp only [List.getElem?_toArray, List.getElem?_cons_succ, List.getElem?_cons_zero]; exact rfl) (by kernel_rfl) (by kernel_rfl) (by kernel_rfl) (by rfl) (fun W => ?_) ?_
            · go_simp
            simp only [Act.put, one_f, outB_f, outNew_f, outI_f, outNew_f, List.setIfInBounds_toArray, List.set_cons_zero, List.set_cons_succ]
            refine any_pure 8 7 (.pointer (some ⟨p.cb, 262, none⟩)) (by kernel_rfl) (by simp only [List.getElem?_toArray, List.getElem?_cons_succ, List.getElem?_cons_zero]; exact rfl) (by kernel_rfl) (by kernel_rfl) (by kernel_rfl) (by rfl) (fun W => ?_) ?_
            · go_simp
            simp only [Act.put, one_f, outB_f, outNew_f, outI_f, outNew_f, List.setIfInBounds_toArray, List.set_cons_zero, List.set_cons_succ]
            refine any_free (w := wr) extRel (outsAt []) [false, true, false, true, true, true, true, false, false, true] 1 (by kernel_rfl) (by kernel_rfl) (by kernel_rfl) (by kernel_rfl) (by kernel_rfl) (by kernel_rfl) ?st (Rel.drew _ _) ?walk
            case st => exact outsAt_stableG (fun _ h => by cases h)
            case walk =>
              intro K' hK'
              dsimp only [maskOps]
              repeat ((first | (refine free_plainM ?_ (by rfl) (by rfl) (fun W hW _ => ⟨W, ?_, Rel.refl _ W⟩) ?_; rotate_left; (first | (go_simp; with_reducible rfl) | (go_simp; done))) | (refine free_skipM (by rfl) ?_)); try simp only [Act.put, one_f, outB_f, outNew_f, outI_f, outNew_f, List.setIfInBounds_toArray, List.set_cons_zero, List.set_cons_succ])
              refine free_plainM (.pointer (some ⟨p.cb, 262 + b, none⟩)) (by rfl) (by rfl) (fun W hW _ => ⟨W, ?_, Rel.refl _ W⟩) ?_
              · go_simp
                intro hge
                exfalso
                omega
              simp only [Act.put, one_f, outB_f, outNew_f, outI_f, outNew_f, List.setIfInBounds_toArray, List.set_cons_zero, List.set_cons_succ]
              repeat ((first | (refine free_plainM ?_ (by rfl) (by rfl) (fun W hW _ => ⟨W, ?_, Rel.refl _ W⟩) ?_; rotate_left; (first | (go_simp; with_reducible rfl) | (go_simp; done))) | (refine free_skipM (by rfl) ?_)); try simp only [Act.put, one_f, outB_f, outNew_f, outI_f, outNew_f, List.setIfInBounds_toArray, List.set_cons_zero, List.set_cons_succ])
              refine free_plainM (.pointer (some ⟨p.cb, 262 + b, none⟩)) (by rfl) (by rfl) (fun W hW _ => ⟨W, ?_, Rel.refl _ W⟩) ?_
              · go_simp
                intro hge
                exfalso
                omega
              simp only [Act.put, one_f, outB_f, outNew_f, outI_f, outNew_f, List.setIfInBounds_toArray, List.set_cons_zero, List.set_cons_succ]
              repeat ((first | (refine free_plainM ?_ (by rfl) (by rfl) (fun W hW _ => ⟨W, ?_, Rel.refl _ W⟩) ?_; rotate_left; (first | (go_simp; with_reducible rfl) | (go_simp; done))) | (refine free_skipM (by rfl) ?_)); try simp only [Act.put, one_f, outB_f, outNew_f, outI_f, outNew_f, List.setIfInBounds_toArray, List.set_cons_zero, List.set_cons_succ])
              refine free_nilM (hK' _ _ fun W hW hF => ?_)
              have hWx : Ext wr W := hW
              clear hF hK' gN
              dsimp only [List.drop, List.length_cons, List.length_nil]
              have T2 := (T.out.ext hWx).addNode hb2
              have rc := row_ext T.out.row hWx
              have kc := cells_row rc
              have fc := frozen_row rc
              have o2 : (W.setCell ⟨p.cb, 262 + b, none⟩ (.int .i64 ((nd b : Int) + 1))).ownsRow w1.heap.size 3 1 (.slice (some ⟨gb, 0, none⟩) m cap) m (intsV s') := own_setCell (own_ext hown2.out hWx) (p := ⟨p.cb, 262 + b, none⟩) T.out.lt _
              generalize (ca.setIfInBounds (262 + b) _) = ca4 at T2
              replace rc := Lib.hid rc
              go_wp2
              refine QN_in ?_
              rw [hw3]
              generalize hw4 : W.setCell ⟨p.cb, 262 + b, none⟩ (.int .i64 ((nd b : Int) + 1)) = w4 at *
              clear hw4 kc fc rc hWx
              replace T2 := Lib.hid T2
              replace o2 := Lib.hid o2
              have kc := cells_row T2.out.row
              have kn2 := T2.out.ar.node b hb2
              have hbb : bump nd b b = nd b + 1 := by unfold bump; rw [if_pos rfl]
              rw [hbb] at kn2
              have kq : w4.cell? ⟨p.cb, 262 + b, none⟩ = some (.int .i64 ((nd b : Int) + 1)) := (kc _).trans kn2
              have kq5 : w4.cell? ⟨p.cb, 5, none⟩ = some (.map (some p.mb)) := (kc _).trans ((T2.out.low 5 (by omega)).trans C1.out.c5)
              clear kc kn2
              rcases Nat.eq_zero_or_pos (nd b) with hz | hz
              · have hc1 : decide (((nd b + 1 : Nat) : Int) > 1) = false := decide_eq_false (by omega)
                have hc2 : decide ((nd b : Int) + 1 > 1) = false := decide_eq_false (by omega)
                replace hz := Lib.hid hz
                go_wp2_with (at_lookup; refine wpList_stop ?_)
                obtain ⟨v9, hv9⟩ := Option.isSome_iff_exists.1 hbk.out
                obtain ⟨n9, lv9, xs, A9, c9, f9, l9, b9, e9, -, -, hnode, rfl, hits, -, -⟩ := C1.out.known _ _ hv9
                obtain rfl : b = n9 := by omega
                have hMap := (T2.out.cen C1.out).map
                refine Stopped.go (wpList_lookup_one _ rfl (.tmp 61) (.tmp 62) 93 rfl Try.underlying93 Try.underlying3 rfl rfl hMap hv9 ?_)
                have hmay := (nodeAt_may hnode).1
                have hxs := (nodeAt_may hnode).2.1
                have hlen : xs.length ≤ 5 := by unfold nodeMay headB at hmay; simp at hmay; omega
                clear hMap hv9 hmay kq kq5
                replace hnode := Lib.hid hnode
                replace hits := Lib.hid hits
                replace hxs := Lib.hid hxs
                go_wp2_with fail
                generalize hw5 : World.alloc w4 _ = w5
                have T5 := T2.out.ext (by rw [← hw5]; exact Ext.alloc _ _ : Ext w4 w5)
                have o5 := own_ext o2.out (by rw [← hw5]; exact Ext.alloc _ _ : Ext w4 w5)
                have n5 : w5.heap[w4.heap.size]? = some (.cells #[.int .i64 lv9, .slice A9 xs.length c9] 104 (0, 0)) := by rw [← hw5]; exact World.alloc_heap_at _ _ _ rfl
                have z5 : gb < w4.heap.size := (own_lt o2.out gb rfl).2
                clear hw5
                have hlt9 := T2.out.lt
                have hB4 := T2.out.off.size
                generalize w4.heap.size = nb at *
                have I0 : IRel p w1 vv s' lv9 xs rf (bump nd b) nb A9 c9 (.slice (some ⟨gb, 0, none⟩) m cap) (.int .i64 0) w5 := by
                  refine ⟨0, rf, ca4, Nat.zero_le _, rfl, fun x => by rw [rsTo_zero]; rfl, ?_, ?_, fun q hq => ?_, T5, n5⟩
                  · rw [pushTo_zero, List.append_nil]; exact hm0.out
                  · rw [pushTo_zero, List.append_nil, ← hm0.out]; exact o5
                  · simp [Value.ownBlock] at hq
                    omega
                replace I0 := Lib.hid I0
                clear o5 T5 n5
                go_loopw [5, 68] (fun v i wq => IRel p w1 vv s' lv9 xs rf (bump nd b) nb A9 c9 v i wq) (fun _ i _ => xs.length - (intOf i).toNat)
                case atStart => exact I0.out
                case round =>
                  obtain ⟨k, rf', ca', hk, rfl, hrf, hvl, hown', hnb, TI, nI⟩ := hrel.ex
                  clear I0
                  by_cases hlt : k < xs.length
                  · have hlt' := hlt
                    obtain ⟨b9', off9, rfl, hb9⟩ := hits.out.its.at_.2.2.2 (by omega)
                    obtain ⟨A', c', d0, d1, d2, d3, d4, -⟩ := (TI.its C1.out hits.out).its.item k hlt'
                    obtain ⟨⟨-, -, -, ⟨hr1, hr2⟩, -⟩, -⟩ := hxs.out xs[k] (List.getElem_mem hlt')
                    have HSK := Lib.hid (fun h => pushTo_skip (lvl := lv9) hlt' h)
                    have HPU := Lib.hid (fun h h' => pushTo_push (lvl := lv9) hlt' h h')
                    have HRS := Lib.hid (fun h => rsTo_skip hlt' h hrf)
                    have HRB := Lib.hid (fun h => rsTo_bump hlt' h hrf)
                    generalize xs[k] = x at *
                    obtain ⟨r, hr⟩ := Int.eq_ofNat_of_zero_le hr1
                    rw [hr] at d3 hr2
                    have hr3 : r < 256 := by omega
                    rw [hr, Int.toNat_natCast] at HSK HPU HRS HRB
                    clear hr1 hr2
                    replace hr := Lib.hid hr
                    replace hrf := Lib.hid hrf
                    replace TI := Lib.hid TI
                    replace hown' := Lib.hid hown'
                    replace hvl := Lib.hid hvl
                    replace hnb := Lib.hid hnb
                    rcases Nat.eq_zero_or_pos r with hr0 | hr0
                    · have hq1 : ((r : Int) == 0) = true := by rw [beq_iff_eq]; omega
                      have hq2 : decide (r = 0) = true := decide_eq_true hr0
                      have hrf1 := HRS.out hr0
                      have hpt := HSK.out (.inl hr0)
                      replace hr0 := Lib.hid hr0
                      replace hrf1 := Lib.hid hrf1
                      replace hpt := Lib.hid hpt
                      go_wp2_with fail
                      refine ⟨⟨k + 1, rf', ca', hlt', rfl, hrf1.out, ?_, ?_, hnb.out, TI.out.ext (Ext.alloc _ _), row_ext nI (Ext.alloc _ _)⟩, by simp [intOf]; omega⟩
                      · rw [hpt.out]; exact hvl.out
                      · rw [hpt.out]; exact own_ext hown'.out (Ext.alloc _ _)
                    · have hq1 : ((r : Int) == 0) = false := by rw [beq_eq_false_iff_ne]; omega
                      have hq2 : decide (r = 0) = false := decide_eq_false (by omega)
                      have hr00 : ¬ r = 0 := by omega
                      have hrf1 := HRB.out hr00
                      replace hrf1 := Lib.hid hrf1
                      replace hr00 := Lib.hid hr00
                      clear hr0
                      go_wp2_with fail
                      generalize hw6 : World.alloc wr _ = w6
                      have x6 : Ext wr w6 := by rw [← hw6]; exact Ext.alloc _ _
                      have r6 : w6.heap[wr.heap.size]? = some (.cells #[.int .u8 x.k, .int .u32 x.i, .int .u32 x.o, .int .i64 r, .slice A' x.val.length c'] 151 (0, 0)) := by rw [← hw6]; exact World.alloc_heap_at _ _ _ rfl
                      clear hw6 d0 d1 d2 d3 d4
                      have T6 := TI.out.ext x6
                      have o6 := own_ext hown'.out x6
                      have n6 := row_ext nI x6
                      have kr0 := T6.ar.ref r hr3
                      have hw6 : wrap64 ((rf' r : Int) + 1) = (rf' r : Int) + 1 := IntWalk.wrap64_in _ (by
                        have h1 := hrf.out r
                        have h2 := List.count_le_length (a := r) (l := rsTo xs k)
                        have h3 := rsTo_len (xs := xs) (k := k)
                        have h4 := refs_few K.out.wk r
                        simp at h4
                        omega)
                      have gR : ∀ W, extRel.r w6 W → W.cell? ⟨p.cb, 6 + r, none⟩ = some (.int .i64 (rf' r : Int)) := fun W h => by rw [cells_row (row_ext T6.row h)]; exact kr0
                      have gI : ∀ W, extRel.r w6 W → ∀ i, W.cell? ⟨wr.heap.size, i, none⟩ = #[.int .u8 x.k, .int .u32 x.i, .int .u32 x.o, .int .i64 r, .slice A' x.val.length c'][i]? := fun W h => cells_row (row_ext r6 h)
                      refine region_start (by kernel_rfl) ?_
                      refine any_pure 0 11 (.pointer (some ⟨p.cb, 0, none⟩)) (by kernel_rfl) (by simp only [List.getElem?_toArray, List.getElem?_cons_succ, List.getElem?_cons_zero]; exact rfl) (by kernel_rfl) (by kernel_rfl) (by kernel_rfl) (by rfl) (fun W => ?_) ?_
                      · go_simp
                      simp only [Act.put, one_f, outB_f, outNew_f, outI_f, outNew_f, List.setIfInBounds_toArray, List.set_cons_zero, List.set_cons_succ]
                      refine any_pure 3 10 (.pointer (some ⟨p.cb, 0, none⟩)) (by kernel_rfl) (by simp only [List.getElem?_toArray, List.getElem?_cons_succ, List.getElem?_cons_zero]; exact rfl) (by kernel_rfl) (by kernel_rfl) (by kernel_rfl) (by rfl) (fun W => ?_) ?_
                      · go_simp
                      simp only [Act.put, one_f, outB_f, outNew_f, outI_f, outNew_f, List.setIfInBounds_toArray, List.set_cons_zero, List.set_cons_succ]
                      refine any_pure 8 9 (.pointer (some ⟨p.cb, 0, none⟩)) (by kernel_rfl) (by simp only [List.getElem?_toArray, List.getElem?_cons_succ, List.getElem?_cons_zero]; exact rfl) (by kernel_rfl) (by kernel_rfl) (by kernel_rfl) (by rfl) (fun W => ?_) ?_
                      · go_simp
                      simp only [Act.put, one_f, outB_f, outNew_f, outI_f, outNew_f, List.setIfInBounds_toArray, List.set_cons_zero, List.set_cons_succ]
                      refine any_pure 9 8 (.pointer (some ⟨p.cb, 6, none⟩)) (by kernel_rfl) (by simp only [List.getElem?_toArray, List.getElem?_cons_succ, List.getElem?_cons_zero]; exact rfl) (by kernel_rfl) (by kernel_rfl) (by kernel_rfl) (by rfl) (fun W => ?_) ?_
                      · go_simp
                      simp only [Act.put, one_f, outB_f, outNew_f, outI_f, outNew_f, List.setIfInBounds_toArray, List.set_cons_zero, List.set_cons_succ]
                      refine any_free (w := w6) extRel (outsAt []) [false, true, true, false, true, true, true, true, false, false, true] 1 (by kernel_rfl) (by kernel_rfl) (by kernel_rfl) (by kernel_rfl) (by kernel_rfl) (by kernel_rfl) ?st (Rel.drew _ _) ?walk
                      case st => exact outsAt_stableG (fun _ h => by cases h)
                      case walk =>
                        intro K2 hK2
                        dsimp only [maskOps]
                        repeat ((first | (refine free_plainM ?_ (by rfl) (by rfl) (fun W hW _ => ⟨W, ?_, Rel.refl _ W⟩) ?_; rotate_left; (first | (go_simp; with_reducible rfl) | (go_simp; done))) | (refine free_skipM (by rfl) ?_)); try simp only [Act.put, one_f, outB_f, outNew_f, outI_f, outNew_f, List.setIfInBounds_toArray, List.set_cons_zero, List.set_cons_succ])
                        refine free_plainM (.pointer (some ⟨p.cb, 6 + r, none⟩)) (by rfl) (by rfl) (fun W hW _ => ⟨W, ?_, Rel.refl _ W⟩) ?_
                        · go_simp
                          intro hge
                          exfalso
                          omega
                        simp only [Act.put, one_f, outB_f, outNew_f, outI_f, outNew_f, List.setIfInBounds_toArray, List.set_cons_zero, List.set_cons_succ]
                        repeat ((first | (refine free_plainM ?_ (by rfl) (by rfl) (fun W hW _ => ⟨W, ?_, Rel.refl _ W⟩) ?_; rotate_left; (first | (go_simp; with_reducible rfl) | (go_simp; done))) | (refine free_skipM (by rfl) ?_)); try simp only [Act.put, one_f, outB_f, outNew_f, outI_f, outNew_f, List.setIfInBounds_toArray, List.set_cons_zero, List.set_cons_succ])
                        refine free_plainM (.pointer (some ⟨p.cb, 6 + r, none⟩)) (by rfl) (by rfl) (fun W hW _ => ⟨W, ?_, Rel.refl _ W⟩) ?_
                        · go_simp
                          intro hge
                          exfalso
                          omega
                        simp only [Act.put, one_f, outB_f, outNew_f, outI_f, outNew_f, List.setIfInBounds_toArray, List.set_cons_zero, List.set_cons_succ]
                        repeat ((first | (refine free_plainM ?_ (by rfl) (by rfl) (fun W hW _ => ⟨W, ?_, Rel.refl _ W⟩) ?_; rotate_left; (first | (go_simp; with_reducible rfl) | (go_simp; done))) | (refine free_skipM (by rfl) ?_)); try simp only [Act.put, one_f, outB_f, outNew_f, outI_f, outNew_f, List.setIfInBounds_toArray, List.set_cons_zero, List.set_cons_succ])
                        refine free_nilM (hK2 _ _ fun W hW hF => ?_)
                        have hWx : Ext w6 W := hW
                        clear hF hK2 gR gI
                        dsimp only [List.drop, List.length_cons, List.length_nil]
                        have T7 := (T6.ext hWx).addRef hr3
                        have rc := row_ext T6.row hWx
                        have kc := cells_row rc
                        have fc := frozen_row rc
                        have hlp := T6.lt
                        have o7 : (W.setCell ⟨p.cb, 6 + r, none⟩ (.int .i64 ((rf' r : Int) + 1))).ownsRow w1.heap.size 3 1 _ _ _ := own_setCell (own_ext o6 hWx) (p := ⟨p.cb, 6 + r, none⟩) hlp _
                        have n7 : (W.setCell ⟨p.cb, 6 + r, none⟩ (.int .i64 ((rf' r : Int) + 1))).heap[nb]? = _ := (Below.heap_setCell _ _ _ _ (by show nb ≠ p.cb; omega)).trans (row_ext n6 hWx)
                        have r7 : (W.setCell ⟨p.cb, 6 + r, none⟩ (.int .i64 ((rf' r : Int) + 1))).heap[wr.heap.size]? = _ := (Below.heap_setCell _ _ _ _ (by show wr.heap.size ≠ p.cb; have := TI.out.off.size; omega)).trans (row_ext r6 hWx)
                        generalize (ca'.setIfInBounds (6 + r) _) = ca7 at T7
                        replace rc := Lib.hid rc
                        go_wp2
                        refine QN_in ?_
                        rw [hw6]
                        generalize hw7 : W.setCell ⟨p.cb, 6 + r, none⟩ (.int .i64 ((rf' r : Int) + 1)) = w7 at *
                        clear hw7 kc fc rc hWx T6 o6 n6 x6 r6 kr0 hw6
                        have kn7 := cells_row n7
                        have kr7 := cells_row r7
                        replace T7 := Lib.hid T7
                        replace o7 := Lib.hid o7
                        rcases Nat.eq_zero_or_pos lv9 with hv0 | hv0
                        · have hq3 : decide ((lv9 : Int) > 0) = false := decide_eq_false (by omega)
                          have hq4 : decide (0 < lv9) = false := decide_eq_false (by omega)
                          have hpt := HSK.out (.inr hv0)
                          replace hpt := Lib.hid hpt
                          replace hv0 := Lib.hid hv0
                          go_wp2_with fail
                          refine ⟨⟨k + 1, bump rf' r, ca7, hlt', rfl, hrf1.out, ?_, ?_, hnb.out, T7.out, n7⟩, by simp [intOf]; omega⟩
                          · rw [hpt.out]; exact hvl.out
                          · rw [hpt.out]; exact o7.out
                        · have hq3 : decide ((lv9 : Int) > 0) = true := decide_eq_true (by omega)
                          have hq4 : decide (0 < lv9) = true := decide_eq_true hv0
                          have hpt := HPU.out hr00.out hv0
                          replace hpt := Lib.hid hpt
                          replace hv0 := Lib.hid hv0
                          have hlv7 := hvl.out
                          have hnb7 := hnb.out
                          have hz7 : nb < w7.heap.size := (Array.getElem?_eq_some_iff.1 n7).1
                          have hfew : (s' ++ pushTo lv9 xs k).length < 1073741824 := by
                            have h1 := K.out.few b
                            have h2 : (pushTo lv9 xs k).length ≤ k := by
                              unfold pushTo
                              split
                              · exact rsTo_len
                              · simp
                            simp at h1
                            rw [List.length_append]
                            omega
                          replace hlv7 := Lib.hid hlv7
                          replace hnb7 := Lib.hid hnb7
                          replace hfew := Lib.hid hfew
                          obtain ⟨i0, hi, hz0, hz1, hz2⟩ := info_parts Try.info_int
                          go_wp2_with (at_builtin; refine wpList_stop ?_)
                          refine Stopped.go (wpList_push _ rfl (.tmp 89) (.tmp 92) 30 rfl w1.heap.size 3 i0 (.int .i64 0) 1 8 Try.underlying30 hi hz0 hz1 hz2 rfl (by decide) _ _ _ rfl o7.out #[.int .i64 (r : Int)] rfl rfl (by simp [Value.oneCell']) hfew.out (by decide) T7.out.off.size ?_)
                          intro v8 w8 own8 g8 _ hown8
                          have T8 := T7.out.grown g8 fun q hq => (own_lt o7.out q hq).1
                          have n8 := (g8.block nb hz7 (fun e => hnb7.out nb e.symm rfl)).trans n7
                          have hnb8 : ∀ q, v8.ownBlock = some q → q ≠ nb := by
                            intro q hq
                            rcases hown8 with e | ⟨q', e, e2⟩
                            · exact hnb7.out q (e.symm.trans hq)
                            · rw [e] at hq
                              cases hq
                              omega
                          obtain ⟨A8, c8, hv8, -, -⟩ := own_slice own8
                          have hlen8 : lenV v8 = (s' ++ pushTo lv9 xs (k + 1)).length := by
                            rw [hv8, hpt.out]
                            simp only [lenV, List.length_append, List.length_cons, List.length_nil]
                            omega
                          have own9 : w8.ownsRow w1.heap.size 3 1 v8 (s' ++ pushTo lv9 xs (k + 1)).length (intsV (s' ++ pushTo lv9 xs (k + 1))) := by
                            have hcat : (s' ++ pushTo lv9 xs (k + 1)).length = (s' ++ pushTo lv9 xs k).length + 1 := by rw [hpt.out, ← List.append_assoc, List.length_append, List.length_singleton]
                            rw [hcat, hpt.out, ← List.append_assoc, intsV_snoc]
                            exact own8
                          have IR : IRel p w1 vv s' lv9 xs rf (bump nd b) nb (some ⟨b9', off9, none⟩) c9 v8 (.int .i64 ((k : Int) + 1)) w8 := ⟨k + 1, bump rf' r, ca7, hlt', rfl, hrf1.out, hlen8, own9, hnb8, T8, n8⟩
                          replace IR := Lib.hid IR
                          clear own8 g8 hown8 hv8 hlen8 own9 hnb8 T8 n8 hi hz0 hz1 hz2
                          go_wp2_with fail
                          refine ⟨IR.out, ?_⟩
                          simp [intOf]
                          omega
                  · have hke : k = xs.length := by omega
                    subst hke
                    have KN := K.out.new hz.out hb2 hnode.out hrf
                    have hlen2 : lenV _ = _ := hvl
                    have e1 := leftW_eq T.out.row T.out.ar
                    have e2 := leftW_eq TI.row TI.ar
                    have e3 := unmet_meet (M := metB nd) (a := b) (decide_eq_false (by have := hz.out; omega)) 256
                    rw [← metB_bump_new, if_pos hb2] at e3
                    have hpl : (pushTo lv9 xs xs.length).length ≤ 5 := by
                      unfold pushTo
                      split
                      · exact Nat.le_trans rsTo_len hlen
                      · simp
                    replace e3 := Lib.hid e3
                    clear hw2 hw22 hw3
                    go_wp2_with fail
                    go_roundw
                    case rel =>
                      exact ⟨s' ++ pushTo lv9 xs xs.length, rf', bump nd b, ca', hvl, hown', TI, KN⟩
                    case measure =>
                      rw [e1, e2, hvl, List.length_append, ← hm0.out]
                      have e3' := e3.out
                      simp only [lenV]
                      omega
              · have hc1 : decide (((nd b + 1 : Nat) : Int) > 1) = true := decide_eq_true (by omega)
                have hc2 : decide ((nd b : Int) + 1 > 1) = true := decide_eq_true (by omega)
                replace hz := Lib.hid hz
                go_wp2_with fail
                go_roundw
                case rel =>
                  exact ⟨s', rf, bump nd b, ca4, hm0.out, by rw [← hm0.out]; exact o2.out, T2.out, K.out.again hz.out⟩
                case measure =>
                  have e1 := leftW_eq T.out.row T.out.ar
                  have e2 := leftW_eq T2.out.row T2.out.ar
                  rw [metB_bump_old hz.out] at e2
                  rw [e1, e2]
                  simp [lenV]
end Go.Proofs.Ytlgbjpihmkeopaa
/- A new census, built. -/
namespace Go.Proofs.Ytlgbjpihmkeopaa
set_option linter.unusedSimpArgs false
set_option linter.unusedVariables false
open Go.RowKit

def ca0 (s1 s2 s3 s4 : Value) (bb mb : Nat) : Array Value := (#[s1, s2, s3, s4, .pointer (some ⟨bb, 0, none⟩), .map (some mb)] ++ Array.replicate 512 (.int .i64 0)) ++ #[.slice none 0 0]
theorem ca_eq (s1 s2 s3 s4 : Value) (bb mb : Nat) : (((((Try.zeroCells97.setIfInBounds 0 s1).setIfInBounds 1 s2).setIfInBounds 2 s3).setIfInBounds 3 s4).setIfInBounds 4 (.pointer (some ⟨bb, 0, none⟩))).setIfInBounds 5 (.map (some mb)) = ca0 s1 s2 s3 s4 bb mb := by kernel_rfl
end Go.Proofs.Ytlgbjpihmkeopaa
/- A pool's census: its words. -/
namespace Go.Proofs.Ytlgbjpihmkeopaa
set_option linter.unusedSimpArgs false
set_option linter.unusedVariables false
open Go.RowKit

theorem vols_all (p : CP) (w1 : World) (f : Int → Option Value) (refs nodes : Nat → Nat) (s1 s2 s3 s4 : Value) (gen root next : Int) (dead : Value) (hC : Cen p w1 f) : ∀ h : Nat, VolsC p w1 f refs nodes s1 s2 s3 s4 gen root next dead h
  | 0 => vols_any p w1 f refs nodes s1 s2 s3 s4 gen root next dead hC 0 fun _ e => by omega
  | h + 1 => vols_any p w1 f refs nodes s1 s2 s3 s4 gen root next dead hC (h + 1) fun h' e => by
    obtain rfl : h = h' := by omega
    exact vols_all p w1 f refs nodes s1 s2 s3 s4 gen root next dead hC h
theorem ca0_ar (s1 s2 s3 s4 : Value) (bb mb : Nat) : Ar (ca0 s1 s2 s3 s4 bb mb) (fun _ => 0) (fun _ => 0) (.slice none 0 0) := by
  unfold ca0
  refine ⟨by simp, fun a ha => ?_, fun a ha => ?_, ?_⟩
  · rw [Array.getElem?_append_left (by simp; omega), Array.getElem?_append_right (by simp)]
    simp [Array.getElem?_replicate]
    omega
  · rw [Array.getElem?_append_left (by simp; omega), Array.getElem?_append_right (by simp; omega)]
    simp [Array.getElem?_replicate]
    omega
  · rw [Array.getElem?_append_right (by simp)]
    simp
theorem ca0_low (s1 s2 s3 s4 : Value) (bb mb : Nat) {i : Nat} (hi : i < 6) : (ca0 s1 s2 s3 s4 bb mb)[i]? = (#[s1, s2, s3, s4, .pointer (some ⟨bb, 0, none⟩), .map (some mb)] : Array Value)[i]? := by
  unfold ca0
  rw [Array.getElem?_append_left (by simp; omega), Array.getElem?_append_left (by simp; omega)]
theorem MapAt.empty (w : World) : MapAt (w.alloc (.map #[] 0)) w.heap.size fun _ => none := ⟨#[], 0, World.alloc_heap_at _ _ _ rfl, fun _ h => absurd h (List.not_mem_nil), fun _ => rfl⟩
def volsOf (S : Sto) (root next : Int) : Option (List Vol) := match nodeAt S root.toNat with
  | none => none
  | some (lvl, xs) => volsGo next [] (itemsS S lvl.toNat xs)
def rootsOf (root : Int) (dead : List Int) (vs : List Vol) : List Int := (root :: dead) ++ vs.map (·.root)
structure PoolB (S : Sto) (root next : Int) (dead : List Int) (vs : List Vol) : Prop where
  may : storeMay S = true
  few : dead.length ≤ 40
  top : okL S (-1) root = true
  vols : volsOf S root next = some vs
  ok : ∀ r ∈ rootsOf root dead vs, okL S (-1) r = true
def Enough (S : Sto) (refs : Nat → Nat) : Prop := ∀ a, a < 256 → refs a ≤ (S.now[a]?.getD 0).toNat
def Ints (w : World) (B : Nat) (v : Value) (l : List Int) : Prop := ∃ A c, v = .slice A l.length c ∧ l.length ≤ c ∧ c ≤ maxLen ∧ Rd w B 1 A l.length (l.map fun (a : Int) => Value.int .i64 a)
def rootsN (root : Int) (dead : List Int) (vs : List Vol) : List Nat := (rootsOf root dead vs).map Int.toNat
structure Taken (S : Sto) (root next : Int) (dead : List Int) (vs : List Vol) (refs nodes : Nat → Nat) (lo cb : Nat) (ca : Array Value) (vv : Value) (w : World) : Prop where
  pool : PoolB S root next dead vs
  cnt : Counted S (rootsN root dead vs) refs nodes
  enough : Enough S refs
  low : lo ≤ cb
  row : w.heap[cb]? = some (.cells ca 97 (0, 0))
  ar : Ar ca refs nodes vv
  own : w.ownsRow lo 113 4 vv vs.length (cellsV vs)
def TakeQ (S : Sto) (root next : Int) (dead : List Int) (w : World) (e : Ending) (w' : World) : Prop := Below w.heap.size w w' ∧
  ((e = .returned (.tuple #[.pointer none, .int .i64 8]) ∧ ∀ vs, PoolB S root next dead vs → ∃ refs nodes, Counted S (rootsN root dead vs) refs nodes ∧ ¬ Enough S refs) ∨
    ∃ vs refs nodes cb ca vv, e = .returned (.tuple #[.pointer (some ⟨cb, 0, none⟩), .int .i64 0]) ∧ Taken S root next dead vs refs nodes w.heap.size cb ca vv w')
theorem TakeQ.bad {S : Sto} {root next : Int} {dead : List Int} {w w' : World} (hB : Below w.heap.size w w') (h : ∀ vs, ¬ PoolB S root next dead vs) : TakeQ S root next dead w (.returned (.tuple #[.pointer none, .int .i64 8])) w' :=
  ⟨hB, .inl ⟨rfl, fun vs hp => absurd hp (h vs)⟩⟩
def rowI (l : List Int) : List Value := l.map fun (a : Int) => Value.int .i64 a
theorem rowI_snoc (l : List Int) (a : Int) : rowI (l ++ [a]) = rowI l ++ [Value.int .i64 a] := by simp [rowI]
theorem rowI_get (l : List Int) (k : Nat) (h : k < l.length) : (rowI l)[k]? = some (.int .i64 l[k]) := by unfold rowI; rw [List.getElem?_map, List.getElem?_eq_getElem h]; rfl
def rootsTo (root : Int) (dead : List Int) (vs : List Vol) (k : Nat) : List Int := (root :: dead) ++ (vs.take k).map (·.root)
theorem rootsTo_len (root : Int) (dead : List Int) (vs : List Vol) {k : Nat} (h : k ≤ vs.length) : (rootsTo root dead vs k).length = 1 + dead.length + k := by unfold rootsTo; simp; omega
theorem rootsTo_succ (root : Int) (dead : List Int) (vs : List Vol) {k : Nat} (h : k < vs.length) : rootsTo root dead vs (k + 1) = rootsTo root dead vs k ++ [vs[k].root] := by
  unfold rootsTo
  rw [List.take_succ_eq_append_getElem h, List.map_append, ← List.append_assoc]
  rfl
theorem rootsTo_all (root : Int) (dead : List Int) (vs : List Vol) : rootsTo root dead vs vs.length = rootsOf root dead vs := by unfold rootsTo rootsOf; rw [List.take_length]
theorem cellsV_at (vs : List Vol) : ∀ k (h : k < vs.length), (cellsV vs)[k * 4]? = some (.int .u32 vs[k].id) ∧ (cellsV vs)[k * 4 + 1]? = some (.int .i64 vs[k].root) ∧ (cellsV vs)[k * 4 + 2]? = some (.bool vs[k].fz) ∧ (cellsV vs)[k * 4 + 3]? = some (.int .u32 vs[k].frm) := by
  induction vs with
  | nil => intro k h; exact absurd h (Nat.not_lt_zero _)
  | cons v r ih =>
    intro k h
    cases k with
    | zero => exact ⟨rfl, rfl, rfl, rfl⟩
    | succ k =>
      have := ih k (by simpa using h)
      have e : cellsV (v :: r) = [.int .u32 v.id, .int .i64 v.root, .bool v.fz, .int .u32 v.frm] ++ cellsV r := rfl
      rw [e]
      have hg : ∀ j, ([.int .u32 v.id, .int .i64 v.root, .bool v.fz, .int .u32 v.frm] ++ cellsV r : List Value)[(k + 1) * 4 + j]? = (cellsV r)[k * 4 + j]? := fun j => by
        rw [List.getElem?_append_right (by simp only [List.length_cons, List.length_nil]; omega)]
        congr 1
        simp only [List.length_cons, List.length_nil]
        omega
      exact ⟨(hg 0).trans this.1, (hg 1).trans this.2.1, (hg 2).trans this.2.2.1, (hg 3).trans this.2.2.2⟩
theorem Counted.zero (S : Sto) : Counted S [] (fun _ => 0) (fun _ => 0) :=
  ⟨Marked.walk.2 (Walk.nil (fun _ => rfl) fun _ => rfl), fun a => by have := unmet_le (metB fun _ => 0) 256; simp only [List.length_nil]; omega⟩
structure Kept (cb mb : Nat) (w w' : World) : Prop where
  os : w'.os = w.os
  tape : w'.tape = w.tape
  output : w'.output = w.output
  size : w.heap.size ≤ w'.heap.size
  block : ∀ k, k < w.heap.size → k ≠ cb → k ≠ mb → w'.heap[k]? = w.heap[k]?
theorem Kept.refl (cb mb : Nat) (w : World) : Kept cb mb w w := ⟨rfl, rfl, rfl, Nat.le_refl _, fun _ _ _ _ => rfl⟩
theorem Kept.trans {cb mb : Nat} {w w' w'' : World} (h : Kept cb mb w w') (h' : Kept cb mb w' w'') : Kept cb mb w w'' :=
  ⟨h'.os.trans h.os, h'.tape.trans h.tape, h'.output.trans h.output, Nat.le_trans h.size h'.size, fun k h1 h2 h3 => (h'.block k (Nat.lt_of_lt_of_le h1 h.size) h2 h3).trans (h.block k h1 h2 h3)⟩
theorem Kept.below {cb mb B : Nat} {w0 w w' : World} (h : Kept cb mb w w') (hb : Below B w0 w) (hB : B ≤ w.heap.size) (h1 : B ≤ cb) (h2 : B ≤ mb) : Below B w0 w' :=
  ⟨h.os.trans hb.os, h.tape.trans hb.tape, h.output.trans hb.output, Nat.le_trans hb.size h.size, fun k hk => (h.block k (by omega) (by omega) (by omega)).trans (hb.block k hk)⟩
structure R2 (p : CP) (w8 : World) (vv : Value) (roots : List Int) (i : Value) (wr : World) : Prop where
  ex : ∃ (k : Nat) (g : Int → Option Value) (ca : Array Value) (refs nodes : Nat → Nat), k ≤ roots.length ∧ i = .int .i64 (k : Int) ∧ Cen (p.put ca) wr g ∧ Ar ca refs nodes vv ∧ Counted p.S ((roots.take k).map Int.toNat) refs nodes ∧ Rooted p.S g ((roots.take k).map Int.toNat) ∧
    (∀ r ∈ roots.take k, okL p.S (-1) r = true) ∧ Kept p.cb p.mb w8 wr
section
variable {P : Program} {ops : Array Oper} {rest : List Oper} {o : Oper} {a : Act} {w : World} {Q : Exit → Act → World → Prop}
theorem run_load_part (g off : Nat) (ty : TypeId) (cs : List Value) (d : TypeDesc) (hc : ∀ j v, cs[j]? = some v → w.cell? ⟨g, off + j, none⟩ = some v)
    (hu : P.underlying ty = some d) (hd : (match d with | .struct _ | .array _ _ => true | _ => false) = true) (hi : (P.info? ty).map (·.size) = some cs.length) :
    (loadVar ty ⟨g, off, none⟩).run P w = .ok (.agg cs.toArray) w := by
  have hl : (loadCells ⟨g, off, none⟩ cs.length).run P w = .ok cs.toArray w :=
    run_loadCells_list (P := P) w ⟨g, off, none⟩ cs (fun j v hv => by
      have hadd : (⟨g, off, none⟩ : Addr).add j = ⟨g, off + j, none⟩ := by unfold Addr.add; split <;> simp_all
      rw [hadd]
      exact hc j v hv)
  cases hq : P.info? ty with
  | none => simp [hq] at hi
  | some i =>
    have hs : i.size = cs.length := by simpa [hq] using hi
    have hagg : (isAgg ty).run P w = .ok true w := by
      unfold isAgg
      rw [Sem.run_bind, run_underlying hu w]
      cases d <;> simp_all
    simp [loadVar, Sem.run_bind, hagg, sizeOf, typeInfo, hq, hs, hl]
theorem wpList_load_part (hgd : o.guard = none) (ty : TypeId) (x : Operand) (ho : o.op = .load ty x) (g off : Nat) (hx : a.eval x = .pointer (some ⟨g, off, none⟩)) (cs : List Value) (d : TypeDesc) (hc : ∀ j v, cs[j]? = some v → w.cell? ⟨g, off + j, none⟩ = some v)
    (hu : P.underlying ty = some d) (hd : (match d with | .struct _ | .array _ _ => true | _ => false) = true) (hi : (P.info? ty).map (·.size) = some cs.length)
    (h : wpList P ops Q rest (a.put o.dst (.agg cs.toArray)) w) : wpList P ops Q (o :: rest) a w := by
  refine wpList_plain hgd fun K hK => ?_
  unfold Oper.wp execOp
  simp only [ho, hx, Instr.loadAt, Instr.sureAddr, Sem.run_bind, Sem.run_pure, Result.andThen_ok, run_load_part g off ty cs d hc hu hd hi]
  exact hK _ _ h
end
def arrI (f : Nat → Nat) : List Value := (List.range 256).map fun a => Value.int .i64 ((f a : Nat) : Int)
theorem arrI_get (f : Nat → Nat) {k : Nat} (h : k < 256) : (arrI f)[k]? = some (.int .i64 ((f k : Nat) : Int)) := by
  unfold arrI
  rw [List.getElem?_map, List.getElem?_range h]
  rfl
theorem arrI_lt {f : Nat → Nat} {j : Nat} {v : Value} (h : (arrI f)[j]? = some v) : j < 256 ∧ v = .int .i64 ((f j : Nat) : Int) := by
  have hj : j < 256 := by
    have := (List.getElem?_eq_some_iff.1 h).1
    simpa [arrI] using this
  rw [arrI_get f hj] at h
  cases h
  exact ⟨hj, rfl⟩
structure R3 (S : Sto) (refs : Nat → Nat) (w9 : World) (i : Value) (wr : World) : Prop where
  ex : ∃ k : Nat, k ≤ 256 ∧ i = .int .i64 (k : Int) ∧ (∀ a, a < k → refs a ≤ (S.now[a]?.getD 0).toNat) ∧ wr = w9
theorem own_kept {cb mb : Nat} {w w' : World} {base n size : Nat} {e : TypeId} {v : Value} {xs : List Value} (h : w.ownsRow base e size v n xs) (hk : Kept cb mb w w') (h1 : cb < base) (h2 : mb < base) : w'.ownsRow base e size v n xs := by
  refine ⟨h.1, ?_⟩
  rcases h.2 with h0 | ⟨g, cap, cur, hv, hb, hg, hr⟩
  · exact .inl h0
  · exact .inr ⟨g, cap, cur, hv, hb, (hk.block g (Array.getElem?_eq_some_iff.1 hg).1 (by omega) (by omega)).trans hg, hr⟩
structure R1 (w6 : World) (root : Int) (dead : List Int) (vs : List Vol) (v i : Value) (wr : World) : Prop where
  ex : ∃ k : Nat, k ≤ vs.length ∧ i = .int .i64 (k : Int) ∧ wr.ownsRow w6.heap.size 3 1 v (1 + dead.length + k) (rowI (rootsTo root dead vs k)) ∧ Ext w6 wr
end Go.Proofs.Ytlgbjpihmkeopaa
