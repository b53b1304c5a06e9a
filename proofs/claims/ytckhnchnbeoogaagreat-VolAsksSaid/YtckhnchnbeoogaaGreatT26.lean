/- Texts One10, VolF, VolF2, DOne, VFind, joined. -/
import Derived.Test.YtckhnchnbeoogaaGreatT10
import Derived.Test.YtckhnchnbeoogaaGreatT20
import Derived.Test.YtckhnchnbeoogaaGreatT21
import Derived.Test.YtckhnchnbeoogaaGreatT25
/- Contracts: the item of a key, in a tree that may be (the document). -/
namespace Go.Proofs.YtckhnchnbeoogaaGreat
set_option linter.unusedSimpArgs false
set_option linter.unusedVariables false
open Go.RowKit

def OneQ (lo : Nat) (q : Option It) (u : Value) (W : World) : Prop := match q with
  | none => u = .tuple #[.agg item0, .bool false]
  | some x => ∃ A c, u = .tuple #[.agg (itemCs x A c), .bool true] ∧ Bys W W.heap.size (.slice A x.val.length c) x.val ∧ From lo (.slice A x.val.length c)
def OneC (S : Sto) (h : Nat) : Prop := ∀ (a : Nat) (xs : List It) (k i o : Int) (A1 : Option Addr) (n1 c1 : Nat) (A2 : Option Addr) (n2 c2 : Nat) (A3 : Option Addr) (n3 c3 : Nat) (A4 : Option Addr) (n4 c4 : Nat) (w : World), storeMay S = true → StoAt w w.heap.size (.slice A1 n1 c1) (.slice A2 n2 c2) (.slice A3 n3 c3) (.slice A4 n4 c4) S → 8 ≤ a → a < 256 → nodeAt S a = some ((h : Int), xs) → (spanS S h xs).isSome = true →
  Calls Tryz.prog 28 #[storeV A1 n1 c1 A2 n2 c2 A3 n3 c3 A4 n4 c4, .int .i64 (a : Int), keyV k i o] w (RetS (OneQ w.heap.size (oneT S (k, i, o) h xs)) w)
theorem one_ret {R : Ending → World → Prop} {a : Act} {W : World} {b : Nat} {cs : Array Value} {v : Value} (h6 : a.tmps[6]?.getD undef = .pointer (some ⟨b, 0, none⟩)) (h7 : a.tmps[7]?.getD undef = v) (hd : a.defers = [])
    (hrow : W.heap[b]? = some (.cells cs 38 (0, 0))) (hs : ∃ x0 x1 x2 x3 x4, cs = #[x0, x1, x2, x3, x4]) (hR : R (.returned (.tuple #[.agg cs, v])) W) : bodyPost Tryz.prog Tryz.f28 R .ret a W := by
  refine bodyPost_ret (v := .tuple #[.agg cs, v]) ?_ hd hR
  have k := cells_row hrow
  obtain ⟨x0, x1, x2, x3, x4, rfl⟩ := hs
  simp [results, Tryz.results28, go_sem, h6, h7, k]
def outOne (lo : Nat) (x : It) : Outs := ⟨Option Addr × Nat, fun p => .tuple #[.agg (itemCs x p.1 p.2), .bool true], fun p V => Bys V V.heap.size (.slice p.1 x.val.length p.2) x.val ∧ From lo (.slice p.1 x.val.length p.2)⟩
theorem outOne_f (lo : Nat) (x : It) (A : Option Addr) (c : Nat) : (outOne lo x).f (A, c) = .tuple #[.agg (itemCs x A c), .bool true] := rfl
theorem outOne_stable (lo : Nat) (x : It) : ∀ p, Stable ((outOne lo x).φ p) := fun _ _ _ he h => ⟨(h.1.below he).more he.size, h.2⟩
structure OnI (p : It → Bool) (xs : List It) (w3 : World) (v : Value) (wr : World) : Prop where
  ex : ∃ n : Nat, n ≤ xs.length ∧ v = .int .i64 ((n : Int) - 1) ∧ (∀ j (hj : j < xs.length), n ≤ j → p xs[j] = false) ∧ Ext w3 wr

set_option maxHeartbeats 8000000 in
set_option maxRecDepth 100000 in
theorem one10_any (S : Sto) (h : Nat) (HI : ∀ h' : Nat, h = h' + 1 → OneC S h') : OneC S h := by
  intro a xs k i o A1 n1 c1 A2 n2 c2 A3 n3 c3 A4 n4 c4 w hS hst ha ha2 hn hsp
  have hmay := (nodeAt_may hn).1
  have hlen : xs.length ≤ 5 := by unfold nodeMay headB at hmay; simp at hmay; omega
  have HR := Lib.hid (fun W (hx : Ext w W) => read8_any A1 n1 c1 A2 n2 c2 A3 n3 c3 A4 n4 c4 S hS a ha ha2 W (hst.ext hx))
  rw [hn] at HR
  have HST := Lib.hid hst
  have HSM := Lib.hid hS
  replace hsp := Lib.hid hsp
  clear hst hS hmay hn
  go_enter Tryz.func28, Tryz.ntmps28
  go_wp2_with fail
  generalize hw1 : (World.alloc (World.alloc (World.alloc w _) _) _) = w1
  have x1 : Ext w w1 := by rw [← hw1]; exact ((Ext.alloc _ _).trans (Ext.alloc _ _)).trans (Ext.alloc _ _)
  have rs1 : w1.heap[w.heap.size]? = some (.cells #[.slice A1 n1 c1, .slice A2 n2 c2, .slice A3 n3 c3, .slice A4 n4 c4] 28 (0, 0)) := by rw [← hw1]; exact (Below.heap_alloc _ _ _ (by simp; omega)).trans ((Below.heap_alloc _ _ _ (by simp)).trans (World.alloc_heap_at _ _ _ rfl))
  have rk1 : w1.heap[w.heap.size + 1]? = some (.cells #[.int .u8 k, .int .u32 i, .int .u32 o] 34 (0, 0)) := by rw [← hw1]; exact (Below.heap_alloc _ _ _ (by simp)).trans (World.alloc_heap_at _ _ _ (by simp))
  have ri1 : w1.heap[w.heap.size + 2]? = some (.cells item0 38 (0, 0)) := by rw [← hw1]; exact World.alloc_heap_at _ _ _ (by simp)
  clear hw1
  have z1 : w.heap.size + 2 < w1.heap.size := (Array.getElem?_eq_some_iff.1 ri1).1
  refine (HR.out w1 x1).mono ?_
  clear HR
  rintro e w2 ⟨u, rfl, hu, hB⟩
  obtain ⟨A, c, rfl, hits⟩ := hu
  have x2 : Ext w w2 := x1.trans hB
  have rs2 := row_ext rs1 hB
  have rk2 := row_ext rk1 hB
  have ri2 := row_ext ri1 hB
  replace hits := Lib.hid hits
  have hw64 := Lib.hid (IntWalk.wrap64_in ((xs.length : Int) - 1) (by omega))
  clear hB x1 rs1 rk1 ri1
  have hw' := hw64.out
  go_wp2_with fail
  generalize hw3 : (World.alloc w2 _) = w3
  have x23 : Ext w2 w3 := by rw [← hw3]; exact Ext.alloc _ _
  have rn3 : w3.heap[w2.heap.size]? = some (.cells #[.int .i64 h, .slice A xs.length c] 118 (0, 0)) := by rw [← hw3]; exact World.alloc_heap_at _ _ _ rfl
  have rs3 := row_ext rs2 x23
  have rk3 := row_ext rk2 x23
  have ri3 := row_ext ri2 x23
  have z3 : w.heap.size + 2 < w3.heap.size := (Array.getElem?_eq_some_iff.1 ri3).1
  have x3 : Ext w w3 := x2.trans x23
  replace hits := Lib.hid (hits.out.ext x23)
  clear hw3 x23 rs2 rk2 ri2 x2 hw'
  have hA := hits.out.its.at_.2.2.2
  rcases Nat.eq_zero_or_pos h with h0 | h0
  · have hg1 : decide ((h : Int) > 0) = false := decide_eq_false (by omega)
    have hg2 : decide (0 < h) = false := decide_eq_false (by omega)
    have hh1 : ((h : Int) == 0) = true := by rw [beq_iff_eq]; omega
    have hh2 : decide (h = 0) = true := decide_eq_true h0
    obtain ⟨q, hq⟩ : ∃ q, oneT S (k, i, o) h xs = q := ⟨_, rfl⟩
    have hq0 := Lib.hid hq
    rw [h0, one_zero] at hq
    replace h0 := Lib.hid h0
    replace hq := Lib.hid hq
    have I0 : OnI (fun x => decide (keyIt x = (k, i, o))) xs w3 (.int .i64 ((xs.length : Int) - 1)) w3 := ⟨xs.length, Nat.le_refl _, rfl, fun j hj hl => by omega, Ext.refl _⟩
    replace I0 := Lib.hid I0
    go_loopw [10] (fun v wr => OnI (fun x => decide (keyIt x = (k, i, o))) xs w3 v wr) (fun v _ => (intOf v + 1).toNat)
    case atStart => exact I0.out
    case round =>
      obtain ⟨n, hn, rfl, hno, xr⟩ := hrel.ex
      clear I0 hrel
      have xwr := x3.trans xr
      have kn := cells_row (row_ext rn3 xr)
      have rkr := row_ext rk3 xr
      have rir := row_ext ri3 xr
      have kk := cells_row rkr
      rcases Nat.eq_zero_or_pos n with hn0 | hn0
      · have hz : q = none := by rw [← hq.out]; exact rev_none fun j hj => hno j hj (by omega)
        subst hn0
        rw [show (((0 : Nat) : Int) - 1) = -1 from rfl]
        have ki := cells_row rir
        have fi := frozen_row rir
        replace hno := Lib.hid hno
        clear hn
        go_wp2_with fail
        exact one_ret (b := w.heap.size + 2) (cs := item0) rfl rfl rfl (row5 rir _ _ _ _ _) ⟨_, _, _, _, _, rfl⟩ ⟨_, rfl, by rw [hq0.out, hz]; rfl, below5 xwr (by omega) _ _ _ _ _⟩
      · obtain ⟨j, rfl⟩ : ∃ j, n = j + 1 := ⟨n - 1, by omega⟩
        rw [show (((j + 1 : Nat) : Int) - 1) = (j : Int) by omega]
        have hj : j < xs.length := by omega
        have hge : decide ((j : Int) ≥ 0) = true := decide_eq_true (by omega)
        have hjw := Lib.hid (IntWalk.wrap64_in ((j : Int) - 1) (by omega))
        obtain ⟨b, off, rfl, hb⟩ := hA (by omega)
        obtain ⟨A', c', ⟨d0, d1, d2, d3, d4, hby⟩, hfr⟩ := its_item_from (hits.out.ext xr) j hj
        have hTRUE := Lib.hid (fun (he : decide (keyIt xs[j] = (k, i, o)) = true) => rev_find (p := fun x => decide (keyIt x = (k, i, o))) hj he fun j' hj' hl => hno j' hj' (by omega))
        have hNEXT := Lib.hid (fun (he : decide (keyIt xs[j] = (k, i, o)) = false) j' (hj' : j' < xs.length) (hl : j ≤ j') => by
          rcases Nat.lt_or_ge j j' with h1 | h1
          · exact hno j' hj' (by omega)
          · obtain rfl : j = j' := by omega
            exact he)
        replace hby := Lib.hid hby
        replace hfr := Lib.hid hfr
        generalize xs[j] = x at *
        replace hno := Lib.hid hno
        clear hn hn0
        go_wp2_with fail
        have gN : ∀ W, extRel.r wr W → ∀ i, W.cell? ⟨w2.heap.size, i, none⟩ = #[.int .i64 h, .slice (some ⟨b, off, none⟩) xs.length c][i]? := fun W h => cells_row (row_ext (row_ext rn3 xr) h)
        refine region_start (by kernel_rfl) ?_
        refine any_freeT (w := wr) extRel (outsAt []) [true, true, true, true, true, true, true, true, true, true, true, true, true, true] 0 (by kernel_rfl) (by kernel_rfl) (by kernel_rfl) (by kernel_rfl) (by kernel_rfl) (by kernel_rfl) (by kernel_rfl) ?st (Rel.drew _ _) ?walk
        case st => exact outsAt_stableG (fun _ h => by cases h)
        case walk =>
          intro K hK
          dsimp only [maskOps]
          repeat ((first | (refine free_plainM ?_ (by rfl) (by rfl) (fun W hW _ => ⟨W, ?_, Rel.refl _ W⟩) ?_; rotate_left; (first | (go_simp; with_reducible rfl) | (go_simp; done))) | (refine free_skipM (by rfl) ?_)); try simp only [Act.put, one_f, outB_f, outNew_f, outI_f, outOne_f, List.setIfInBounds_toArray, List.set_cons_zero, List.set_cons_succ])
          refine free_nilM (hK _ _ fun W hW hF => ?_)
          clear hF hK gN
          have hW' : Ext wr W := hW
          have x4 := xwr.trans hW'
          have xr4 := xr.trans hW'
          have rn4 := row_ext (row_ext rn3 xr) hW'
          have rk4 := row_ext rkr hW'
          have ri4 := row_ext rir hW'
          replace d0 := Ext.cell hW' d0
          replace d1 := Ext.cell hW' d1
          replace d2 := Ext.cell hW' d2
          replace d3 := Ext.cell hW' d3
          replace d4 := Ext.cell hW' d4
          have hW0 := Lib.hid hW'
          clear hW hW' kn kk rkr rir
          dsimp only [List.drop, List.length_cons, List.length_nil]
          go_wp2
          refine QN_in ?_
          go_wp2_with fail
          have gN : ∀ V, extRel.r W V → ∀ i, V.cell? ⟨w2.heap.size, i, none⟩ = #[.int .i64 h, .slice (some ⟨b, off, none⟩) xs.length c][i]? := fun V h => cells_row (row_ext rn4 h)
          have gK : ∀ V, extRel.r W V → ∀ j, V.cell? ⟨w.heap.size + 1, j, none⟩ = #[.int .u8 k, .int .u32 i, .int .u32 o][j]? := fun V h => cells_row (row_ext rk4 h)
          have gD0 : ∀ V, extRel.r W V → V.cell? ⟨b, off + j * 5, none⟩ = some (.int .u8 x.k) := fun V h => Ext.cell h d0
          have gD1 : ∀ V, extRel.r W V → V.cell? ⟨b, off + j * 5 + 1, none⟩ = some (.int .u32 x.i) := fun V h => Ext.cell h d1
          have gD2 : ∀ V, extRel.r W V → V.cell? ⟨b, off + j * 5 + 2, none⟩ = some (.int .u32 x.o) := fun V h => Ext.cell h d2
          have hkx := Lib.hid (key_if x k i o)
          generalize decide (keyIt x = (k, i, o)) = ie at *
          refine region_start (by kernel_rfl) ?_
          refine any_freeT (w := W) extRel (outsAt []) [true, true, true, true, true, true, true, true, true, true, true, true, true] 0 (by kernel_rfl) (by kernel_rfl) (by kernel_rfl) (by kernel_rfl) (by kernel_rfl) (by kernel_rfl) (by kernel_rfl) ?st2 (Rel.drew _ _) ?walk2
          case st2 => exact outsAt_stableG (fun _ h => by cases h)
          case walk2 =>
            intro K hK
            dsimp only [maskOps]
            repeat ((first | (refine free_plainM ?_ (by rfl) (by rfl) (fun W hW _ => ⟨W, ?_, Rel.refl _ W⟩) ?_; rotate_left; (first | (go_simp; with_reducible rfl) | (go_simp; done))) | (refine free_skipM (by rfl) ?_)); try simp only [Act.put, one_f, outB_f, outNew_f, outI_f, outOne_f, List.setIfInBounds_toArray, List.set_cons_zero, List.set_cons_succ])
            refine free_plainM (.bool ie) (by rfl) (by rfl) (fun V hV _ => ⟨V, ?_, Rel.refl _ V⟩) ?_
            · go_simp
              exact hkx.out V
            simp only [Act.put, one_f, outB_f, outNew_f, outI_f, outOne_f, List.setIfInBounds_toArray, List.set_cons_zero, List.set_cons_succ]
            repeat ((first | (refine free_plainM ?_ (by rfl) (by rfl) (fun W hW _ => ⟨W, ?_, Rel.refl _ W⟩) ?_; rotate_left; (first | (go_simp; with_reducible rfl) | (go_simp; done))) | (refine free_skipM (by rfl) ?_)); try simp only [Act.put, one_f, outB_f, outNew_f, outI_f, outOne_f, List.setIfInBounds_toArray, List.set_cons_zero, List.set_cons_succ])
            refine free_nilM (hK _ _ fun V hV hF => ?_)
            clear hF hK gN gK gD0 gD1 gD2
            have hV' : Ext W V := hV
            have x5 := x4.trans hV'
            have xr5 := xr4.trans hV'
            have kn5 := cells_row (row_ext rn4 hV')
            have ri5 := row_ext ri4 hV'
            have ki5 := cells_row ri5
            have fi5 := frozen_row ri5
            replace d0 := Ext.cell hV' d0
            replace d1 := Ext.cell hV' d1
            replace d2 := Ext.cell hV' d2
            replace d3 := Ext.cell hV' d3
            replace d4 := Ext.cell hV' d4
            have HV := Lib.hid hV'
            replace x5 := Lib.hid x5
            replace xr5 := Lib.hid xr5
            clear hV hV' rn4 rk4 ri4 x4 xr4
            dsimp only [List.drop, List.length_cons, List.length_nil]
            go_wp2
            refine QN_in ?_
            cases ie
            · have hN := hNEXT.out rfl
              replace hN := Lib.hid hN
              have hjw' := hjw.out
              clear ki5 fi5 d0 d1 d2 d3 d4
              go_wp2_with fail
              refine ⟨⟨j, by omega, rfl, hN.out, xr5.out⟩, ?_⟩
              simp [intOf]
            · have hz := hTRUE.out rfl
              replace hz := Lib.hid hz
              have hb5 : Bys V V.heap.size (.slice A' x.val.length c') x.val := (((hby.out.below hW0.out).more hW0.out.size).below HV.out).more HV.out.size
              replace hb5 := Lib.hid hb5
              go_wp2_with fail
              exact one_ret (b := w.heap.size + 2) (cs := itemCs x A' c') rfl rfl rfl (row5 ri5 _ _ _ _ _) ⟨_, _, _, _, _, rfl⟩ ⟨_, rfl, by rw [hq0.out, ← hq.out, show leafS xs (k, i, o) = some x from hz.out]; exact ⟨A', c', rfl, bys_set5 hb5.out hfr.out z1 _ _ _ _ _, hfr.out.mono (by omega)⟩, below5 x5.out (by omega) _ _ _ _ _⟩
  · have hg1 : decide ((h : Int) > 0) = true := decide_eq_true (by omega)
    have hg2 : decide (0 < h) = true := decide_eq_true h0
    have hh1 : ((h : Int) == 0) = false := by rw [beq_eq_false_iff_ne]; omega
    have hh2 : decide (h = 0) = false := decide_eq_false (by omega)
    obtain ⟨h', hh⟩ : ∃ h', h = h' + 1 := ⟨h - 1, by omega⟩
    have HIh := Lib.hid (HI h' hh)
    replace hh := Lib.hid hh
    replace h0 := Lib.hid h0
    obtain ⟨q, hq⟩ : ∃ q, oneT S (k, i, o) h xs = q := ⟨_, rfl⟩
    rw [hq]
    replace hq := Lib.hid hq
    have I0 : OnI (fun x => !lessK (k, i, o) (keyIt x)) xs w3 (.int .i64 ((xs.length : Int) - 1)) w3 := ⟨xs.length, Nat.le_refl _, rfl, fun j hj hl => by omega, Ext.refl _⟩
    replace I0 := Lib.hid I0
    go_loopw [10] (fun v wr => OnI (fun x => !lessK (k, i, o) (keyIt x)) xs w3 v wr) (fun v _ => (intOf v + 1).toNat)
    case atStart => exact I0.out
    case round =>
      obtain ⟨n, hn, rfl, hno, xr⟩ := hrel.ex
      clear I0 hrel
      have xwr := x3.trans xr
      have kn := cells_row (row_ext rn3 xr)
      have rkr := row_ext rk3 xr
      have rir := row_ext ri3 xr
      have rsr := row_ext rs3 xr
      have kk := cells_row rkr
      rcases Nat.eq_zero_or_pos n with hn0 | hn0
      · have hz : downS xs (k, i, o) = none := rev_none fun j hj => hno j hj (by omega)
        subst hn0
        rw [show (((0 : Nat) : Int) - 1) = -1 from rfl]
        have ki := cells_row rir
        have fi := frozen_row rir
        replace hno := Lib.hid hno
        replace hz := Lib.hid hz
        clear hn
        go_wp2_with fail
        exact one_ret (b := w.heap.size + 2) (cs := item0) rfl rfl rfl (row5 rir _ _ _ _ _) ⟨_, _, _, _, _, rfl⟩ ⟨_, rfl, by rw [hh.out, one_none hz.out]; rfl, below5 xwr (by omega) _ _ _ _ _⟩
      · obtain ⟨j, rfl⟩ : ∃ j, n = j + 1 := ⟨n - 1, by omega⟩
        rw [show (((j + 1 : Nat) : Int) - 1) = (j : Int) by omega]
        have hj : j < xs.length := by omega
        have hge : decide ((j : Int) ≥ 0) = true := decide_eq_true (by omega)
        have hjw := Lib.hid (IntWalk.wrap64_in ((j : Int) - 1) (by omega))
        obtain ⟨b, off, rfl, hb⟩ := hA (by omega)
        obtain ⟨A', c', d0, d1, d2, d3, -, -⟩ := (hits.out.ext xr).its.item j hj
        have hTRUE := Lib.hid (fun (he : lessB k i o xs[j].k xs[j].i xs[j].o = false) => rev_find (p := fun x => !lessK (k, i, o) (keyIt x)) hj (by show (!lessB k i o xs[j].k xs[j].i xs[j].o) = true; rw [he]; rfl) fun j' hj' hl => hno j' hj' (by omega))
        have hNEXT := Lib.hid (fun (he : lessB k i o xs[j].k xs[j].i xs[j].o = true) j' (hj' : j' < xs.length) (hl : j ≤ j') => by
          rcases Nat.lt_or_ge j j' with h1 | h1
          · exact hno j' hj' (by omega)
          · obtain rfl : j = j' := by omega
            show (!lessB k i o xs[j].k xs[j].i xs[j].o) = false
            rw [he]; rfl)
        have hMEM := Lib.hid (List.getElem_mem hj)
        generalize xs[j] = x at *
        have HL := Lib.hid (fun W => rless_any k i o x.k x.i x.o W)
        generalize lessB k i o x.k x.i x.o = L at *
        replace hno := Lib.hid hno
        clear hn hn0
        go_wp2_with fail
        have gN : ∀ W, extRel.r wr W → ∀ i, W.cell? ⟨w2.heap.size, i, none⟩ = #[.int .i64 h, .slice (some ⟨b, off, none⟩) xs.length c][i]? := fun W h => cells_row (row_ext (row_ext rn3 xr) h)
        have gK : ∀ V, extRel.r wr V → ∀ j, V.cell? ⟨w.heap.size + 1, j, none⟩ = #[.int .u8 k, .int .u32 i, .int .u32 o][j]? := fun V h => cells_row (row_ext rkr h)
        have gD0 : ∀ V, extRel.r wr V → V.cell? ⟨b, off + j * 5, none⟩ = some (.int .u8 x.k) := fun V h => Ext.cell h d0
        have gD1 : ∀ V, extRel.r wr V → V.cell? ⟨b, off + j * 5 + 1, none⟩ = some (.int .u32 x.i) := fun V h => Ext.cell h d1
        have gD2 : ∀ V, extRel.r wr V → V.cell? ⟨b, off + j * 5 + 2, none⟩ = some (.int .u32 x.o) := fun V h => Ext.cell h d2
        refine region_start (by kernel_rfl) ?_
        refine any_freeT (w := wr) extRel (outsAt [(11, one (.bool L))]) [true, true, true, true, true, true, true, true, true, true, true, true, true, true] 0 (by kernel_rfl) (by kernel_rfl) (by kernel_rfl) (by kernel_rfl) (by kernel_rfl) (by kernel_rfl) (by kernel_rfl) ?st (Rel.drew _ _) ?walk
        case st => exact outsAt_stableG (by simp only [List.forall_mem_cons]; exact ⟨fun p => stableG_ext (one_stable _ p), fun _ h => by cases h⟩)
        case walk =>
          intro K hK
          dsimp only [maskOps]
          repeat ((first | (refine free_plainM ?_ (by rfl) (by rfl) (fun W hW _ => ⟨W, ?_, Rel.refl _ W⟩) ?_; rotate_left; (first | (go_simp; with_reducible rfl) | (go_simp; done))) | (refine free_skipM (by rfl) ?_)); try simp only [Act.put, one_f, outB_f, outNew_f, outI_f, outOne_f, List.setIfInBounds_toArray, List.set_cons_zero, List.set_cons_succ])
          refine free_hardM (one (.bool L)) (by rfl) (by rfl) (fun W hW _ => ?_) (fun (p : Unit) => ?_)
          · refine hardAt_callE ?_ ((HL.out W).mono fun e w' h => ⟨(), h.1, trivial, h.2⟩)
            go_simp
          simp only [Act.put, one_f, outB_f, outNew_f, outI_f, outOne_f, List.setIfInBounds_toArray, List.set_cons_zero, List.set_cons_succ]
          repeat ((first | (refine free_plainM ?_ (by rfl) (by rfl) (fun W hW _ => ⟨W, ?_, Rel.refl _ W⟩) ?_; rotate_left; (first | (go_simp; with_reducible rfl) | (go_simp; done))) | (refine free_skipM (by rfl) ?_)); try simp only [Act.put, one_f, outB_f, outNew_f, outI_f, outOne_f, List.setIfInBounds_toArray, List.set_cons_zero, List.set_cons_succ])
          refine free_nilM (hK _ _ fun W hW hF => ?_)
          clear hF hK gN gK gD0 gD1 gD2
          have hW' : Ext wr W := hW
          have x4 := xwr.trans hW'
          have xr4 := xr.trans hW'
          have rn4 := row_ext (row_ext rn3 xr) hW'
          have rk4 := row_ext rkr hW'
          have ri4 := row_ext rir hW'
          have rs4 := row_ext rsr hW'
          replace d3 := Ext.cell hW' d3
          clear hW hW' kn kk rkr rir rsr d0 d1 d2
          dsimp only [List.drop, List.length_cons, List.length_nil]
          go_wp2
          refine QN_in ?_
          cases L
          · skip
            have hd : downS xs (k, i, o) = some x := hTRUE.out rfl
            have hs1 := span_one hsp.out x hMEM.out
            rw [hh.out] at hs1
            obtain ⟨r, e1, e2, e3, ys, e4, e5⟩ := one_tree hs1
            have e6 : nodeAt S x.r.toNat = some ((h' : Int), ys) := by rw [e1, Int.toNat_natCast]; exact e4
            have hqq : oneT S (k, i, o) h xs = oneT S (k, i, o) h' ys := by rw [hh.out, one_down hd e6]
            rw [e1] at d3
            have hCall := Lib.hid (fun V (hx : Ext W V) => HIh.out r ys k i o A1 n1 c1 A2 n2 c2 A3 n3 c3 A4 n4 c4 V HSM.out (HST.out.ext (x4.trans hx)) e2 e3 e4 e5)
            clear e6 hd hs1 e1 e4 e5
            replace hqq := Lib.hid hqq
            go_wp2_with fail
            have gS : ∀ V, extRel.r W V → ∀ i, V.cell? ⟨w.heap.size, i, none⟩ = #[.slice A1 n1 c1, .slice A2 n2 c2, .slice A3 n3 c3, .slice A4 n4 c4][i]? := fun V h => cells_row (row_ext rs4 h)
            have gN : ∀ V, extRel.r W V → ∀ i, V.cell? ⟨w2.heap.size, i, none⟩ = #[.int .i64 h, .slice (some ⟨b, off, none⟩) xs.length c][i]? := fun V h => cells_row (row_ext rn4 h)
            have gK : ∀ V, extRel.r W V → ∀ j, V.cell? ⟨w.heap.size + 1, j, none⟩ = #[.int .u8 k, .int .u32 i, .int .u32 o][j]? := fun V h => cells_row (row_ext rk4 h)
            have gD : ∀ V, extRel.r W V → V.cell? ⟨b, off + j * 5 + 3, none⟩ = some (.int .i64 (r : Int)) := fun V h => Ext.cell h d3
            rcases hq' : oneT S (k, i, o) h' ys with _ | x'
            · rw [hq'] at hCall
              replace hq' := Lib.hid hq'
              refine region_start (by kernel_rfl) ?_
              refine any_freeT (w := W) extRel (outsAt [(8, one (.tuple #[.agg item0, .bool false]))]) [true, true, true, true, true, true, true, true, true, true, true] 2 (by kernel_rfl) (by kernel_rfl) (by kernel_rfl) (by kernel_rfl) (by kernel_rfl) (by kernel_rfl) (by kernel_rfl) ?st2 (Rel.drew _ _) ?walk2
              case st2 => exact outsAt_stableG (by simp only [List.forall_mem_cons]; exact ⟨fun p => stableG_ext (one_stable _ p), fun _ h => by cases h⟩)
              case walk2 =>
                intro K hK
                dsimp only [maskOps]
                repeat ((first | (refine free_plainM ?_ (by rfl) (by rfl) (fun W hW _ => ⟨W, ?_, Rel.refl _ W⟩) ?_; rotate_left; (first | (go_simp; with_reducible rfl) | (go_simp; done))) | (refine free_skipM (by rfl) ?_)); try simp only [Act.put, one_f, outB_f, outNew_f, outI_f, outOne_f, List.setIfInBounds_toArray, List.set_cons_zero, List.set_cons_succ])
                refine free_hardM (one (.tuple #[.agg item0, .bool false])) (by rfl) (by rfl) (fun V hV _ => ?_) (fun (p : Unit) => ?_)
                · refine hardAt_callE ?_ ((hCall.out V hV).mono fun e w' hh => ?_)
                  · go_simp
                  obtain ⟨v, rfl, hv, hx8⟩ := hh
                  exact ⟨(), by rw [show v = .tuple #[.agg item0, .bool false] from hv]; rfl, trivial, hx8⟩
                simp only [Act.put, one_f, outB_f, outNew_f, outI_f, outOne_f, List.setIfInBounds_toArray, List.set_cons_zero, List.set_cons_succ]
                repeat ((first | (refine free_plainM ?_ (by rfl) (by rfl) (fun W hW _ => ⟨W, ?_, Rel.refl _ W⟩) ?_; rotate_left; (first | (go_simp; with_reducible rfl) | (go_simp; done))) | (refine free_skipM (by rfl) ?_)); try simp only [Act.put, one_f, outB_f, outNew_f, outI_f, outOne_f, List.setIfInBounds_toArray, List.set_cons_zero, List.set_cons_succ])
                refine free_nilM (hK _ _ fun V hV hF => ?_)
                clear hF hK gN gK gD gS
                have hV' : Ext W V := hV
                have x5 := x4.trans hV'
                have ri5 := row_ext ri4 hV'
                have ki5 := cells_row ri5
                have fi5 := frozen_row ri5
                replace x5 := Lib.hid x5
                clear hV hV' rn4 rk4 ri4 rs4 x4 xr4 d3
                dsimp only [List.drop, List.length_cons, List.length_nil]
                go_wp2
                refine QN_in ?_
                go_wp2_with fail
                exact one_ret (b := w.heap.size + 2) (cs := item0) rfl rfl rfl (row5 ri5 _ _ _ _ _) ⟨_, _, _, _, _, rfl⟩ ⟨_, rfl, by rw [← hq.out, hqq.out, hq'.out]; rfl, below5 x5.out (by omega) _ _ _ _ _⟩
            · rw [hq'] at hCall
              replace hq' := Lib.hid hq'
              have hsz := x4.size
              refine region_start (by kernel_rfl) ?_
              refine any_freeT (w := W) extRel (outsAt [(8, outOne W.heap.size x')]) [true, true, true, true, true, true, true, true, true, true, true] 2 (by kernel_rfl) (by kernel_rfl) (by kernel_rfl) (by kernel_rfl) (by kernel_rfl) (by kernel_rfl) (by kernel_rfl) ?st2 (Rel.drew _ _) ?walk2
              case st2 => exact outsAt_stableG (by simp only [List.forall_mem_cons]; exact ⟨fun p => stableG_ext (outOne_stable _ _ p), fun _ h => by cases h⟩)
              case walk2 =>
                intro K hK
                dsimp only [maskOps]
                repeat ((first | (refine free_plainM ?_ (by rfl) (by rfl) (fun W hW _ => ⟨W, ?_, Rel.refl _ W⟩) ?_; rotate_left; (first | (go_simp; with_reducible rfl) | (go_simp; done))) | (refine free_skipM (by rfl) ?_)); try simp only [Act.put, one_f, outB_f, outNew_f, outI_f, outOne_f, List.setIfInBounds_toArray, List.set_cons_zero, List.set_cons_succ])
                refine free_hardM (outOne W.heap.size x') (by rfl) (by rfl) (fun V hV _ => ?_) (fun p8 => ?_)
                · refine hardAt_callE ?_ ((hCall.out V hV).mono fun e w' hh => ?_)
                  · go_simp
                  obtain ⟨v, rfl, ⟨A8, c8, rfl, h8, h9⟩, hx8⟩ := hh
                  exact ⟨(A8, c8), rfl, ⟨h8, h9.mono (Below.size hV)⟩, hx8⟩
                obtain ⟨A8, c8⟩ := p8
                simp only [Act.put, one_f, outB_f, outNew_f, outI_f, outOne_f, List.setIfInBounds_toArray, List.set_cons_zero, List.set_cons_succ]
                repeat ((first | (refine free_plainM ?_ (by rfl) (by rfl) (fun W hW _ => ⟨W, ?_, Rel.refl _ W⟩) ?_; rotate_left; (first | (go_simp; with_reducible rfl) | (go_simp; done))) | (refine free_skipM (by rfl) ?_)); try simp only [Act.put, one_f, outB_f, outNew_f, outI_f, outOne_f, List.setIfInBounds_toArray, List.set_cons_zero, List.set_cons_succ])
                refine free_nilM (hK _ _ fun V hV hF => ?_)
                have h8 : Bys V V.heap.size (.slice A8 x'.val.length c8) x'.val ∧ From W.heap.size (.slice A8 x'.val.length c8) := (hF 8).1
                clear hF hK gN gK gD gS
                have hV' : Ext W V := hV
                have x5 := x4.trans hV'
                have zi : w.heap.size + 2 < W.heap.size := (Array.getElem?_eq_some_iff.1 ri4).1
                have ri5 := row_ext ri4 hV'
                have ki5 := cells_row ri5
                have fi5 := frozen_row ri5
                replace x5 := Lib.hid x5
                replace h8 := Lib.hid h8
                clear hV hV' rn4 rk4 ri4 rs4 x4 xr4 d3
                dsimp only [List.drop, List.length_cons, List.length_nil]
                go_wp2
                refine QN_in ?_
                go_wp2_with fail
                exact one_ret (b := w.heap.size + 2) (cs := itemCs x' A8 c8) rfl rfl rfl (row5 ri5 _ _ _ _ _) ⟨_, _, _, _, _, rfl⟩ ⟨_, rfl, by rw [← hq.out, hqq.out, hq'.out]; exact ⟨A8, c8, rfl, bys_set5 h8.out.1 h8.out.2 zi _ _ _ _ _, h8.out.2.mono hsz⟩, below5 x5.out (by omega) _ _ _ _ _⟩
          · have hN := hNEXT.out rfl
            replace hN := Lib.hid hN
            have hjw' := hjw.out
            go_wp2_with fail
            have gN : ∀ V, extRel.r W V → ∀ i, V.cell? ⟨w2.heap.size, i, none⟩ = #[.int .i64 h, .slice (some ⟨b, off, none⟩) xs.length c][i]? := fun V h => cells_row (row_ext rn4 h)
            refine region_start (by kernel_rfl) ?_
            refine any_freeT (w := W) extRel (outsAt []) [true, true, true, true, true, true, true, true, true, true, true, true, true] 0 (by kernel_rfl) (by kernel_rfl) (by kernel_rfl) (by kernel_rfl) (by kernel_rfl) (by kernel_rfl) (by kernel_rfl) ?st2 (Rel.drew _ _) ?walk2
            case st2 => exact outsAt_stableG (fun _ h => by cases h)
            case walk2 =>
              intro K hK
              dsimp only [maskOps]
              repeat ((first | (refine free_plainM ?_ (by rfl) (by rfl) (fun W hW _ => ⟨W, ?_, Rel.refl _ W⟩) ?_; rotate_left; (first | (go_simp; with_reducible rfl) | (go_simp; done))) | (refine free_skipM (by rfl) ?_)); try simp only [Act.put, one_f, outB_f, outNew_f, outI_f, outOne_f, List.setIfInBounds_toArray, List.set_cons_zero, List.set_cons_succ])
              refine free_nilM (hK _ _ fun V hV hF => ?_)
              clear hF hK gN
              have hV' : Ext W V := hV
              have xr5 := Lib.hid (xr4.trans hV')
              clear hV hV' rn4 rk4 ri4 rs4 x4 xr4
              dsimp only [List.drop, List.length_cons, List.length_nil]
              go_wp2
              refine QN_in ?_
              go_wp2_with fail
              refine ⟨⟨j, by omega, rfl, hN.out, xr5.out⟩, ?_⟩
              simp [intOf]
theorem one10_all (S : Sto) : ∀ h : Nat, OneC S h
  | 0 => one10_any S 0 fun _ e => by omega
  | h + 1 => one10_any S (h + 1) fun h' e => by
    obtain rfl : h = h' := by omega
    exact one10_all S h
end Go.Proofs.YtckhnchnbeoogaaGreat
/- Contracts: the volume of a number. -/
namespace Go.Proofs.YtckhnchnbeoogaaGreat
set_option linter.unusedSimpArgs false
set_option linter.unusedVariables false
open Go.RowKit

def volOf (vs : List Vol) (id : Int) : Option Vol := vs.find? fun v => decide (v.id = id)
abbrev vol0 : Vol := ⟨0, 0, false, 0⟩
def volQ : Option Vol → Value
  | none => .tuple #[volV vol0, .int .i64 6]
  | some v => .tuple #[volV v, .int .i64 0]
def VolIx (vs : List Vol) (id : Int) (u : Value) : Prop := (∃ (j : Nat) (hj : j < vs.length), u = .int .i64 (j : Int) ∧ volOf vs id = some vs[j]) ∨ (u = .int .i64 (-1) ∧ volOf vs id = none)
theorem volIx_at {vs : List Vol} {id : Int} {j : Nat} (hj : j < vs.length) (he : vs[j].id = id) (hn : ∀ i (hi : i < vs.length), i < j → vs[i].id ≠ id) : VolIx vs id (.int .i64 (j : Int)) := by
  refine .inl ⟨j, hj, rfl, ?_⟩
  unfold volOf
  rw [List.find?_eq_some_iff_getElem]
  exact ⟨by simp [he], j, hj, rfl, fun i hi => by simp [hn i (by omega) hi]⟩
theorem volIx_none {vs : List Vol} {id : Int} (hn : ∀ i (hi : i < vs.length), vs[i].id ≠ id) : VolIx vs id (.int .i64 (-1)) := by
  refine .inr ⟨rfl, ?_⟩
  unfold volOf
  rw [List.find?_eq_none]
  intro v hv
  obtain ⟨i, hi, rfl⟩ := List.mem_iff_getElem.1 hv
  simp [hn i hi]
set_option maxHeartbeats 1000000 in
set_option maxRecDepth 100000 in
theorem vol1_any (v : Vol) (bi : Nat) (id : Int) (w : World) (h : w.heap[bi]? = some (.cells #[.int .u32 id] 29 (0, 0))) :
    Calls Tryz.prog 53 #[volV v, .pointer (some ⟨bi, 0, none⟩)] w (Ret (.bool (decide (v.id = id))) w) := by
  have ki := cells_row h
  have zi : bi < w.heap.size := (Array.getElem?_eq_some_iff.1 h).1
  clear h
  go_enter Tryz.func53, Tryz.ntmps53
  by_cases he : v.id = id
  · have h1 : (v.id == id) = true := by rw [beq_iff_eq]; exact he
    rw [decide_eq_true he]
    replace he := Lib.hid he
    go_wp2
    go_ret
    exact ⟨rfl, Ext.alloc _ _⟩
  · have h1 : (v.id == id) = false := by rw [beq_eq_false_iff_ne]; exact he
    rw [decide_eq_false he]
    replace he := Lib.hid he
    go_wp2
    go_ret
    exact ⟨rfl, Ext.alloc _ _⟩
set_option maxHeartbeats 4000000 in
set_option maxRecDepth 100000 in
theorem vidx_any (A : Option Addr) (c : Nat) (vs : List Vol) (hl : vs.length ≤ 16) (bi : Nat) (id : Int) (w : World) (h : w.heap[bi]? = some (.cells #[.int .u32 id] 29 (0, 0))) (hr : Rd w w.heap.size 4 A vs.length (cellsV vs)) :
    Calls Tryz.prog 52 #[.slice A vs.length c, .func (.func 53) #[] #[.pointer (some ⟨bi, 0, none⟩)]] w (RetS (fun u _ => VolIx vs id u) w) := by
  replace hr := Lib.hid hr
  go_enter Tryz.func52, Tryz.ntmps52
  go_wp2_with fail
  go_loopw [8] (fun i wr => ∃ k : Nat, k ≤ vs.length ∧ i = .int .i64 (k : Int) ∧ Ext w wr ∧ ∀ j (hj : j < vs.length), j < k → vs[j].id ≠ id) (fun i _ => vs.length - (intOf i).toNat)
  case atStart => exact ⟨0, Nat.zero_le _, rfl, Ext.refl _, fun j _ hj => absurd hj (Nat.not_lt_zero _)⟩
  case round =>
    obtain ⟨k, hk, rfl, xr, hno⟩ := hrel
    replace hno := Lib.hid hno
    by_cases hlt : k < vs.length
    · obtain ⟨bv, offv, rfl, hbv, hcel⟩ := hr.out.2 (by omega)
      obtain ⟨d0, d1, d2, d3⟩ := cellsV_at vs k hlt
      replace d0 := Ext.cell xr (hcel _ _ d0)
      replace d1 := Ext.cell xr (hcel _ _ d1)
      replace d2 := Ext.cell xr (hcel _ _ d2)
      replace d3 := Ext.cell xr (hcel _ _ d3)
      have HAT := Lib.hid (fun he => volIx_at (id := id) hlt he fun i hi hik => hno.out i hi hik)
      have HNO := Lib.hid (fun (he : vs[k].id ≠ id) j (hj : j < vs.length) (hjk : j < k + 1) => by
        rcases Nat.lt_or_ge j k with h1 | h1
        · exact hno.out j hj h1
        · obtain rfl : j = k := by omega
          exact he)
      generalize vs[k] = u at *
      rw [← Nat.add_assoc] at d1 d2 d3
      clear hcel
      have hw64 := Lib.hid (IntWalk.wrap64_in ((k : Int) + 1) (by omega))
      have hV := vol1_any u bi id wr (row_ext h xr)
      go_wp2_with fail
      refine hV.mono ?_
      rintro e w2 ⟨rfl, hB⟩
      clear d0 d1 d2 d3 hV
      by_cases he : u.id = id
      · rw [decide_eq_true he]
        have HQ := Lib.hid (HAT.out he)
        clear HAT HNO
        replace he := Lib.hid he
        go_wp2_with fail
        refine bodyPost_ret (v := .int .i64 (k : Int)) ?_ rfl ⟨_, rfl, HQ.out, Ext.trans xr hB⟩
        simp [results, Tryz.results52, go_sem]
      · rw [decide_eq_false he]
        have HQ := Lib.hid (HNO.out he)
        clear HAT HNO
        replace he := Lib.hid he
        have hw1 := hw64.out
        go_wp2_with fail
        refine ⟨⟨k + 1, hlt, rfl, Ext.trans xr hB, fun j hj hjk => HQ.out j hj hjk⟩, ?_⟩
        simp [intOf]
        omega
    · obtain rfl : k = vs.length := by omega
      have HQ := Lib.hid (volIx_none (id := id) fun i hi => hno.out i hi hi)
      go_wp2_with fail
      refine bodyPost_ret (v := .int .i64 (-1)) ?_ rfl ⟨_, rfl, HQ.out, xr⟩
      simp [results, Tryz.results52, go_sem]
end Go.Proofs.YtckhnchnbeoogaaGreat
/- Contracts: one volume of a pool. -/
namespace Go.Proofs.YtckhnchnbeoogaaGreat
set_option linter.unusedSimpArgs false
set_option linter.unusedVariables false
open Go.RowKit

def VolFQ (S : Sto) (root next : Int) (dead : List Int) (id : Int) (w : World) (e : Ending) (w' : World) : Prop := Below w.heap.size w w' ∧
  ((e = .returned (.tuple #[volV vol0, .int .i64 8]) ∧ ∀ vs, PoolB S root next dead vs → ∃ refs nodes, Counted S (rootsN root dead vs) refs nodes ∧ ¬ Enough S refs) ∨
    ∃ vs refs nodes, PoolB S root next dead vs ∧ Counted S (rootsN root dead vs) refs nodes ∧ Enough S refs ∧ e = .returned (volQ (volOf vs id)))
theorem fvol_ret {R : Ending → World → Prop} {a : Act} {W : World} {b : Nat} {u : Vol} {v : Value} (h4 : a.tmps[4]?.getD undef = .pointer (some ⟨b, 0, none⟩)) (h5 : a.tmps[5]?.getD undef = v) (hd : a.defers = [])
    (hrow : W.heap[b]? = some (.cells #[.int .u32 u.id, .int .i64 u.root, .bool u.fz, .int .u32 u.frm] 70 (0, 0))) (hR : R (.returned (.tuple #[volV u, v])) W) : bodyPost Tryz.prog Tryz.f25 R .ret a W := by
  refine bodyPost_ret (v := .tuple #[volV u, v]) ?_ hd hR
  have k := cells_row hrow
  simp [results, Tryz.results25, go_sem, h4, h5, k]
theorem below4 {w0 w : World} {B b : Nat} (h : Below B w0 w) (hb : B ≤ b) (x0 x1 x2 x3 : Value) : Below B w0 ((((w.setCell ⟨b, 0, none⟩ x0).setCell ⟨b, 1, none⟩ x1).setCell ⟨b, 2, none⟩ x2).setCell ⟨b, 3, none⟩ x3) :=
  Below.setCell (Below.setCell (Below.setCell (Below.setCell h (p := ⟨b, 0, none⟩) hb _) (p := ⟨b, 1, none⟩) hb _) (p := ⟨b, 2, none⟩) hb _) (p := ⟨b, 3, none⟩) hb _
theorem row4 {w : World} {b : Nat} {ty : TypeId} {y0 y1 y2 y3 : Value} (h : w.heap[b]? = some (.cells #[y0, y1, y2, y3] ty (0, 0))) (x0 x1 x2 x3 : Value) :
    ((((w.setCell ⟨b, 0, none⟩ x0).setCell ⟨b, 1, none⟩ x1).setCell ⟨b, 2, none⟩ x2).setCell ⟨b, 3, none⟩ x3).heap[b]? = some (.cells #[x0, x1, x2, x3] ty (0, 0)) := row_set (row_set (row_set (row_set h 0 x0) 1 x1) 2 x2) 3 x3

set_option maxHeartbeats 4000000 in
set_option maxRecDepth 100000 in
theorem fvol_any (A1 : Option Addr) (n1 c1 : Nat) (A2 : Option Addr) (n2 c2 : Nat) (A3 : Option Addr) (n3 c3 : Nat) (A4 : Option Addr) (n4 c4 : Nat) (gen root next : Int) (A5 : Option Addr) (c5 : Nat) (S : Sto) (dead : List Int) (id : Int) (w : World)
    (h : StoAt w w.heap.size (.slice A1 n1 c1) (.slice A2 n2 c2) (.slice A3 n3 c3) (.slice A4 n4 c4) S) (hd : Ints w w.heap.size (.slice A5 dead.length c5) dead) :
    Calls Tryz.prog 25 #[.agg (poolCs (.slice A1 n1 c1) (.slice A2 n2 c2) (.slice A3 n3 c3) (.slice A4 n4 c4) gen root next (.slice A5 dead.length c5)), .int .u32 id] w (VolFQ S root next dead id w) := by
  have HT := Lib.hid (fun W (hx : Ext w W) => take_any A1 n1 c1 A2 n2 c2 A3 n3 c3 A4 n4 c4 gen root next A5 c5 S dead W (h.ext hx) (by
    obtain ⟨A, c, e, q1, q2, q3⟩ := hd
    exact ⟨A, c, e, q1, q2, (q3.below hx).more hx.size⟩))
  clear h hd
  go_enter Tryz.func25, Tryz.ntmps25
  go_wp2_with fail
  generalize hw1 : (World.alloc (World.alloc (World.alloc w _) _) _) = w1
  have x1 : Ext w w1 := by rw [← hw1]; exact ((Ext.alloc _ _).trans (Ext.alloc _ _)).trans (Ext.alloc _ _)
  have ri1 : w1.heap[w.heap.size + 1]? = some (.cells #[.int .u32 id] 29 (0, 0)) := by rw [← hw1]; exact (Below.heap_alloc _ _ _ (by simp)).trans (World.alloc_heap_at _ _ _ (by simp))
  have rv1 : w1.heap[w.heap.size + 2]? = some (.cells #[.int .u32 0, .int .i64 0, .bool false, .int .u32 0] 70 (0, 0)) := by rw [← hw1]; exact World.alloc_heap_at _ _ _ (by simp)
  clear hw1
  refine (HT.out w1 x1).mono ?_
  clear HT
  rintro e w2 ⟨hB, hQ⟩
  have x2 : Ext w w2 := Ext.trans x1 hB
  have ri2 := row_ext ri1 hB
  have rv2 := row_ext rv1 hB
  have z2 : w.heap.size + 2 < w2.heap.size := (Array.getElem?_eq_some_iff.1 rv2).1
  have kv2 := cells_row rv2
  have fv2 := frozen_row rv2
  rcases hQ with ⟨rfl, hno⟩ | ⟨vs, refs, nodes, cb, ca, vv, rfl, hT⟩
  · replace hno := Lib.hid hno
    clear hB x1 ri1 rv1
    go_wp2_with fail
    exact fvol_ret (b := w.heap.size + 2) (u := vol0) rfl rfl rfl (row4 rv2 _ _ _ _) ⟨below4 x2 (by omega) _ _ _ _, .inl ⟨rfl, hno.out⟩⟩
  · have hvs : vs.length ≤ 16 := by
      have hv := hT.pool.vols
      unfold volsOf at hv
      split at hv
      · cases hv
      · exact volsGo_len _ _ _ _ (by simp) hv
    obtain ⟨AV, cV, rfl, hcv1, hcv2⟩ := own_slice hT.own
    have hrd := Rd.of_own hT.own
    have kc : w2.cell? ⟨cb, 518, none⟩ = some (.slice AV vs.length cV) := by rw [cells_row hT.row]; exact hT.ar.vol
    have HIX := Lib.hid (vidx_any AV cV vs hvs (w.heap.size + 1) id w2 ri2 hrd)
    have HR := Lib.hid hrd
    replace hT := Lib.hid hT
    clear hB x1 ri1 rv1 hrd
    go_wp2_with fail
    refine HIX.out.mono ?_
    clear HIX
    rintro e w3 ⟨u, rfl, hu, hB⟩
    have x3 : Ext w w3 := Ext.trans x2 hB
    have rv3 := row_ext rv2 hB
    have kv3 := cells_row rv3
    have fv3 := frozen_row rv3
    have kc3 := Ext.cell hB kc
    have z3 : w.heap.size + 2 < w3.heap.size := (Array.getElem?_eq_some_iff.1 rv3).1
    rcases hu with ⟨j, hj, rfl, hv⟩ | ⟨rfl, hv⟩
    · obtain ⟨bv, offv, rfl, hbv, hcel⟩ := HR.out.2 (by omega)
      obtain ⟨d0, d1, d2, d3⟩ := cellsV_at vs j hj
      replace d0 := Ext.cell hB (hcel _ _ d0)
      replace d1 := Ext.cell hB (hcel _ _ d1)
      replace d2 := Ext.cell hB (hcel _ _ d2)
      replace d3 := Ext.cell hB (hcel _ _ d3)
      generalize vs[j] = u at *
      rw [← Nat.add_assoc] at d1 d2 d3
      have hj1 : decide ((j : Int) < 0) = false := decide_eq_false (by omega)
      replace hv := Lib.hid hv
      replace x3 := Lib.hid x3
      clear hcel kv2 fv2 rv2 ri2 kc x2 hB z2
      go_wp2_with fail
      exact fvol_ret (b := w.heap.size + 2) (u := u) rfl rfl rfl (row4 rv3 _ _ _ _) ⟨below4 x3.out (by omega) _ _ _ _, .inr ⟨vs, refs, nodes, hT.out.pool, hT.out.cnt, hT.out.enough, by rw [hv.out]; rfl⟩⟩
    · replace hv := Lib.hid hv
      replace x3 := Lib.hid x3
      clear kv2 fv2 rv2 ri2 kc x2 hB z2
      go_wp2_with fail
      exact fvol_ret (b := w.heap.size + 2) (u := vol0) rfl rfl rfl (row4 rv3 _ _ _ _) ⟨below4 x3.out (by omega) _ _ _ _, .inr ⟨vs, refs, nodes, hT.out.pool, hT.out.cnt, hT.out.enough, by rw [hv.out]; rfl⟩⟩
end Go.Proofs.YtckhnchnbeoogaaGreat
/- Contracts: the volume of a number (the document). -/
namespace Go.Proofs.YtckhnchnbeoogaaGreat
set_option linter.unusedSimpArgs false
set_option linter.unusedVariables false
open Go.RowKit

theorem isVol_key {y : It} (h : isVol y = true) : keyIt y = (1, y.i, 0) := by
  unfold isVol sameB at h
  simp at h
  unfold keyIt
  simp only [Prod.mk.injEq, true_and]
  omega
theorem find_vol {l : List It} (hl : ∀ y ∈ l, isVol y = true) (id : Int) : volOf (l.map volAt) id = (l.find? fun y => decide (keyIt y = (1, id, 0))).map volAt := by
  unfold volOf
  induction l with
  | nil => rfl
  | cons y r ih =>
    have hk := isVol_key (hl y (List.mem_cons_self))
    have ih := ih fun z hz => hl z (List.mem_cons_of_mem _ hz)
    by_cases hy : y.i = id
    · have h1 : decide ((volAt y).id = id) = true := decide_eq_true hy
      have h2 : decide (keyIt y = (1, id, 0)) = true := by rw [hk, hy]; simp
      rw [List.map_cons, List.find?_cons, List.find?_cons, h1, h2]
      rfl
    · have h1 : decide ((volAt y).id = id) = false := decide_eq_false hy
      have h2 : decide (keyIt y = (1, id, 0)) = false := by rw [hk]; simp [hy]
      rw [List.map_cons, List.find?_cons, List.find?_cons, h1, h2]
      exact ih
def DOneQ (q : Option Vol) (u : Value) : Prop := match q with
  | none => u = .tuple #[volV vol0, .bool false]
  | some v => u = .tuple #[volV v, .bool true]
theorem done_ret {R : Ending → World → Prop} {a : Act} {W : World} {b : Nat} {u : Vol} {v : Value} (h4 : a.tmps[4]?.getD undef = .pointer (some ⟨b, 0, none⟩)) (h5 : a.tmps[5]?.getD undef = v) (hd : a.defers = [])
    (hrow : W.heap[b]? = some (.cells #[.int .u32 u.id, .int .i64 u.root, .bool u.fz, .int .u32 u.frm] 70 (0, 0))) (hR : R (.returned (.tuple #[volV u, v])) W) : bodyPost Tryz.prog Tryz.f58 R .ret a W := by
  refine bodyPost_ret (v := .tuple #[volV u, v]) ?_ hd hR
  have k := cells_row hrow
  simp [results, Tryz.results58, go_sem, h4, h5, k]

set_option maxHeartbeats 4000000 in
set_option maxRecDepth 100000 in
theorem done_any (A1 : Option Addr) (n1 c1 : Nat) (A2 : Option Addr) (n2 c2 : Nat) (A3 : Option Addr) (n3 c3 : Nat) (A4 : Option Addr) (n4 c4 : Nat) (gen next : Int) (A5 : Option Addr) (n5 c5 : Nat) (S : Sto) (hS : storeMay S = true) (a lvl : Nat) (xs : List It) (ha : 8 ≤ a) (ha2 : a < 256) (hn : nodeAt S a = some ((lvl : Int), xs)) (hsp : (spanS S lvl xs).isSome = true)
    (hall : ∀ y ∈ itemsS S lvl xs, isVol y = true ∧ ItOk y) (id : Int) (w : World) (h : StoAt w w.heap.size (.slice A1 n1 c1) (.slice A2 n2 c2) (.slice A3 n3 c3) (.slice A4 n4 c4) S) :
    Calls Tryz.prog 58 #[.agg (poolCs (.slice A1 n1 c1) (.slice A2 n2 c2) (.slice A3 n3 c3) (.slice A4 n4 c4) gen (a : Int) next (.slice A5 n5 c5)), .int .u32 id] w (RetS (fun u _ => DOneQ (volOf ((itemsS S lvl xs).map volAt) id) u) w) := by
  have HT := Lib.hid (fun W (hx : Ext w W) => one10_all S lvl a xs 1 id 0 A1 n1 c1 A2 n2 c2 A3 n3 c3 A4 n4 c4 W hS (h.ext hx) ha ha2 hn hsp)
  rw [find_vol (fun y hy => (hall y hy).1), ← one_items hsp]
  have hq := Lib.hid (one_items (k := ((1 : Int), id, (0 : Int))) hsp)
  replace hall := Lib.hid hall
  clear h hn hsp
  go_enter Tryz.func58, Tryz.ntmps58
  go_wp2_with fail
  generalize hw1 : (World.alloc (World.alloc w _) _) = w1
  have x1 : Ext w w1 := by rw [← hw1]; exact (Ext.alloc _ _).trans (Ext.alloc _ _)
  have rp1 : w1.heap[w.heap.size]? = some (.cells (poolCs (.slice A1 n1 c1) (.slice A2 n2 c2) (.slice A3 n3 c3) (.slice A4 n4 c4) gen (a : Int) next (.slice A5 n5 c5)) 32 (0, 0)) := by rw [← hw1]; exact (Below.heap_alloc _ _ _ (by simp)).trans (World.alloc_heap_at _ _ _ rfl)
  have rv1 : w1.heap[w.heap.size + 1]? = some (.cells #[.int .u32 0, .int .i64 0, .bool false, .int .u32 0] 70 (0, 0)) := by rw [← hw1]; exact World.alloc_heap_at _ _ _ (by simp)
  have kp1 := cells_row rp1
  clear hw1
  go_wp2_with fail
  refine (HT.out w1 x1).mono ?_
  clear HT
  rintro e w2 ⟨u, rfl, hu, hB⟩
  have x2 : Ext w w2 := Ext.trans x1 hB
  have rv2 := row_ext rv1 hB
  have z2 : w.heap.size + 1 < w2.heap.size := (Array.getElem?_eq_some_iff.1 rv2).1
  clear kp1 rp1 rv1 x1 hB
  rcases hz : oneT S (1, id, 0) lvl xs with _ | x
  · rw [hz] at hu
    obtain rfl : u = .tuple #[.agg item0, .bool false] := hu
    replace hz := Lib.hid hz
    have kv2 := cells_row rv2
    have fv2 := frozen_row rv2
    go_wp2_with fail
    exact done_ret (b := w.heap.size + 1) (u := vol0) rfl rfl rfl ((Below.heap_alloc _ _ _ (by simp; omega)).trans (row4 rv2 _ _ _ _)) ⟨_, rfl, (by dsimp only; rw [hz.out]; rfl), Below.alloc (below4 x2 (by omega) _ _ _ _) (by simp; omega) _⟩
  · rw [hz] at hu
    obtain ⟨A, c, rfl, hby, hfr⟩ := hu
    have hm : x ∈ itemsS S lvl xs := List.mem_of_find?_eq_some (hq.out.symm.trans hz)
    obtain ⟨hv, hok⟩ := hall.out x hm
    have HV := Lib.hid (fun W (hx : Ext w2 W) => volumer_any x hok A c W ((hby.below hx).more hx.size))
    replace hz := Lib.hid hz
    replace hby := Lib.hid hby
    replace hfr := Lib.hid hfr
    replace hok := Lib.hid hok
    replace hm := Lib.hid hm
    go_wp2_with fail
    generalize hw3 : (World.alloc w2 _) = w3
    have x23 : Ext w2 w3 := by rw [← hw3]; exact Ext.alloc _ _
    clear hw3
    refine (HV.out w3 x23).mono ?_
    clear HV
    rintro e w4 ⟨u, rfl, ⟨v', rfl, hv'⟩, hB⟩
    have x4 : Ext w w4 := (x2.trans x23).trans hB
    have rv4 := row_ext (row_ext rv2 x23) hB
    have z4 : w.heap.size + 1 < w4.heap.size := (Array.getElem?_eq_some_iff.1 rv4).1
    rw [hv]
    obtain rfl := hv' hv
    have kv4 := cells_row rv4
    have fv4 := frozen_row rv4
    clear hv' hv hB x23 x2 rv2 z2
    go_wp2_with fail
    exact done_ret (b := w.heap.size + 1) (u := volAt x) rfl rfl rfl (row4 rv4 _ _ _ _) ⟨_, rfl, (by dsimp only; rw [hz.out]; rfl), below4 x4 (by omega) _ _ _ _⟩
end Go.Proofs.YtckhnchnbeoogaaGreat
/- Contracts: an item of a volume. -/
namespace Go.Proofs.YtckhnchnbeoogaaGreat
set_option linter.unusedSimpArgs false
set_option linter.unusedVariables false
open Go.RowKit

def findS (S : Sto) (root : Int) (K : K3) : Option It := match nodeAt S root.toNat with
  | none => none
  | some (lvl, xs) => oneT S K lvl.toNat xs
def PoolOk (S : Sto) (root next : Int) (dead : List Int) (vs : List Vol) : Prop := ∃ refs nodes, PoolB S root next dead vs ∧ Counted S (rootsN root dead vs) refs nodes ∧ Enough S refs
def PoolBad (S : Sto) (root next : Int) (dead : List Int) : Prop := ∀ vs, PoolB S root next dead vs → ∃ refs nodes, Counted S (rootsN root dead vs) refs nodes ∧ ¬ Enough S refs
theorem volOf_mem {vs : List Vol} {id : Int} {v : Vol} (h : volOf vs id = some v) : v ∈ vs := List.mem_of_find?_eq_some h
theorem root_tree {S : Sto} {root next : Int} {dead : List Int} {vs : List Vol} (h : PoolB S root next dead vs) {v : Vol} (hv : v ∈ vs) : ∃ a : Nat, v.root = (a : Int) ∧ treeOk S a :=
  okL_root (h.ok v.root (by unfold rootsOf; exact List.mem_append_right _ (List.mem_map.2 ⟨v, hv, rfl⟩)))
def VFindQ (S : Sto) (root next : Int) (dead : List Int) (id : Int) (K : K3) (w : World) (e : Ending) (w' : World) : Prop := Below w.heap.size w w' ∧
  ((e = .returned (.tuple #[.agg item0, .int .i64 8]) ∧ PoolBad S root next dead) ∨
    ∃ vs u, PoolOk S root next dead vs ∧ e = .returned u ∧ match volOf vs id with
      | none => u = .tuple #[.agg item0, .int .i64 6]
      | some v => FindQ w.heap.size (findS S v.root K) u w')
theorem vfind_ret {R : Ending → World → Prop} {a : Act} {W : World} {b : Nat} {cs : Array Value} {v : Value} (h6 : a.tmps[6]?.getD undef = .pointer (some ⟨b, 0, none⟩)) (h7 : a.tmps[7]?.getD undef = v) (hd : a.defers = [])
    (hrow : W.heap[b]? = some (.cells cs 38 (0, 0))) (hs : ∃ x0 x1 x2 x3 x4, cs = #[x0, x1, x2, x3, x4]) (hR : R (.returned (.tuple #[.agg cs, v])) W) : bodyPost Tryz.prog Tryz.f7 R .ret a W := by
  refine bodyPost_ret (v := .tuple #[.agg cs, v]) ?_ hd hR
  have k := cells_row hrow
  obtain ⟨x0, x1, x2, x3, x4, rfl⟩ := hs
  simp [results, Tryz.results7, go_sem, h6, h7, k]
set_option maxHeartbeats 4000000 in
set_option maxRecDepth 100000 in
theorem vfind_any (A1 : Option Addr) (n1 c1 : Nat) (A2 : Option Addr) (n2 c2 : Nat) (A3 : Option Addr) (n3 c3 : Nat) (A4 : Option Addr) (n4 c4 : Nat) (gen root next : Int) (A5 : Option Addr) (c5 : Nat) (S : Sto) (dead : List Int) (id k i o : Int) (w : World)
    (h : StoAt w w.heap.size (.slice A1 n1 c1) (.slice A2 n2 c2) (.slice A3 n3 c3) (.slice A4 n4 c4) S) (hd : Ints w w.heap.size (.slice A5 dead.length c5) dead) :
    Calls Tryz.prog 7 #[.agg (poolCs (.slice A1 n1 c1) (.slice A2 n2 c2) (.slice A3 n3 c3) (.slice A4 n4 c4) gen root next (.slice A5 dead.length c5)), .int .u32 id, keyV k i o] w (VFindQ S root next dead id (k, i, o) w) := by
  have HT := Lib.hid (fun W (hx : Ext w W) => fvol_any A1 n1 c1 A2 n2 c2 A3 n3 c3 A4 n4 c4 gen root next A5 c5 S dead id W (h.ext hx) (by
    obtain ⟨A, c, e, q1, q2, q3⟩ := hd
    exact ⟨A, c, e, q1, q2, (q3.below hx).more hx.size⟩))
  have HF := Lib.hid (fun W (hx : Ext w W) (hS : storeMay S = true) a lvl xs ha ha2 hn hsp => ffind_any A1 n1 c1 A2 n2 c2 A3 n3 c3 A4 n4 c4 S hS a lvl xs ha ha2 hn hsp k i o W (h.ext hx))
  clear h hd
  go_enter Tryz.func7, Tryz.ntmps7
  go_wp2_with fail
  generalize hw1 : (World.alloc (World.alloc (World.alloc w _) _) _) = w1
  have x1 : Ext w w1 := by rw [← hw1]; exact ((Ext.alloc _ _).trans (Ext.alloc _ _)).trans (Ext.alloc _ _)
  have rp1 : w1.heap[w.heap.size]? = some (.cells (poolCs (.slice A1 n1 c1) (.slice A2 n2 c2) (.slice A3 n3 c3) (.slice A4 n4 c4) gen root next (.slice A5 dead.length c5)) 32 (0, 0)) := by rw [← hw1]; exact (Below.heap_alloc _ _ _ (by simp; omega)).trans ((Below.heap_alloc _ _ _ (by simp)).trans (World.alloc_heap_at _ _ _ rfl))
  have rk1 : w1.heap[w.heap.size + 1]? = some (.cells #[.int .u8 k, .int .u32 i, .int .u32 o] 34 (0, 0)) := by rw [← hw1]; exact (Below.heap_alloc _ _ _ (by simp)).trans (World.alloc_heap_at _ _ _ (by simp))
  have ri1 : w1.heap[w.heap.size + 2]? = some (.cells item0 38 (0, 0)) := by rw [← hw1]; exact World.alloc_heap_at _ _ _ (by simp)
  clear hw1
  refine (HT.out w1 x1).mono ?_
  clear HT
  rintro e w2 ⟨hB, hQ⟩
  have x2 : Ext w w2 := Ext.trans x1 hB
  have rp2 := row_ext rp1 hB
  have rk2 := row_ext rk1 hB
  have ri2 := row_ext ri1 hB
  have z2 : w.heap.size + 2 < w2.heap.size := (Array.getElem?_eq_some_iff.1 ri2).1
  have z20 : w.heap.size < w2.heap.size := by omega
  have z21 : w.heap.size + 1 < w2.heap.size := by omega
  clear hB x1 rp1 rk1 ri1
  rcases hQ with ⟨rfl, hno⟩ | ⟨vs, refs, nodes, hp, hcn, hen, rfl⟩
  · replace hno := Lib.hid hno
    have ki2 := cells_row ri2
    have fi2 := frozen_row ri2
    go_wp2_with fail
    exact vfind_ret (b := w.heap.size + 2) (cs := item0) rfl rfl rfl ((Below.heap_alloc _ _ _ (by simp; omega)).trans (row5 ri2 _ _ _ _ _)) ⟨_, _, _, _, _, rfl⟩ ⟨Below.alloc (below5 x2 (by omega) _ _ _ _ _) (by simp; omega) _, .inl ⟨rfl, hno.out⟩⟩
  · have hok := Lib.hid (⟨refs, nodes, hp, hcn, hen⟩ : PoolOk S root next dead vs)
    replace hp := Lib.hid hp
    clear hcn hen
    rcases hv : volOf vs id with _ | v
    · unfold volQ
      replace hv := Lib.hid hv
      have ki2 := cells_row ri2
      have fi2 := frozen_row ri2
      go_wp2_with fail
      exact vfind_ret (b := w.heap.size + 2) (cs := item0) rfl rfl rfl ((Below.heap_alloc _ _ _ (by simp; omega)).trans (row5 ri2 _ _ _ _ _)) ⟨_, _, _, _, _, rfl⟩ ⟨Below.alloc (below5 x2 (by omega) _ _ _ _ _) (by simp; omega) _, .inr ⟨vs, _, hok.out, rfl, by rw [hv.out]; rfl⟩⟩
    · unfold volQ
      obtain ⟨a, ha, ht⟩ := root_tree hp.out (volOf_mem hv)
      obtain ⟨h8, h256, lvl, xs, hn, hsp⟩ := ht
      have hfs : findS S v.root (k, i, o) = oneT S (k, i, o) lvl xs := by
        unfold findS
        rw [ha, Int.toNat_natCast, hn]
        simp
      have HFF := Lib.hid (fun W hx => HF.out W hx hp.out.may a lvl xs h8 h256 hn hsp)
      have kp2 := cells_row rp2
      have kk2 := cells_row rk2
      replace hv := Lib.hid hv
      replace hfs := Lib.hid hfs
      replace ha := Lib.hid ha
      clear hn hsp HF
      go_wp2_with fail
      generalize hw3 : (World.alloc w2 _) = w3
      have x23 : Ext w2 w3 := by rw [← hw3]; exact Ext.alloc _ _
      clear hw3
      have hCall := HFF.out w3 (x2.trans x23)
      rw [← ha.out] at hCall
      refine hCall.mono ?_
      clear hCall HFF
      rintro e w4 ⟨u, rfl, hu, hB⟩
      have x4 : Ext w w4 := (x2.trans x23).trans hB
      have ri4 := row_ext (row_ext ri2 x23) hB
      have ki4 := cells_row ri4
      have fi4 := frozen_row ri4
      have z3 : w.heap.size + 2 < w3.heap.size := (Array.getElem?_eq_some_iff.1 (row_ext ri2 x23)).1
      have z4 : w.heap.size + 2 < w4.heap.size := (Array.getElem?_eq_some_iff.1 ri4).1
      replace x4 := Lib.hid x4
      clear kp2 kk2 rp2 rk2 ri2 hB x23 x2 z2 z20 z21
      rcases hq : oneT S (k, i, o) lvl xs with _ | x
      · rw [hq] at hu hfs
        obtain rfl : u = .tuple #[.agg item0, .int .i64 6] := hu
        replace hq := Lib.hid hq
        go_wp2_with fail
        exact vfind_ret (b := w.heap.size + 2) (cs := item0) rfl rfl rfl (row5 ri4 _ _ _ _ _) ⟨_, _, _, _, _, rfl⟩ ⟨below5 x4.out (by omega) _ _ _ _ _, .inr ⟨vs, _, hok.out, rfl, by rw [hv.out]; show FindQ _ (findS S v.root (k, i, o)) _ _; rw [hfs.out]; rfl⟩⟩
      · rw [hq] at hu hfs
        obtain ⟨A, c, rfl, hby, hfr⟩ := hu
        replace hq := Lib.hid hq
        replace hby := Lib.hid hby
        replace hfr := Lib.hid hfr
        go_wp2_with fail
        exact vfind_ret (b := w.heap.size + 2) (cs := itemCs x A c) rfl rfl rfl (row5 ri4 _ _ _ _ _) ⟨_, _, _, _, _, rfl⟩ ⟨below5 x4.out (by omega) _ _ _ _ _, .inr ⟨vs, _, hok.out, rfl, by rw [hv.out]; show FindQ _ (findS S v.root (k, i, o)) _ _; rw [hfs.out]; exact ⟨A, c, rfl, bys_set5 hby.out hfr.out z3 _ _ _ _ _, hfr.out.mono (by omega)⟩⟩⟩
end Go.Proofs.YtckhnchnbeoogaaGreat
