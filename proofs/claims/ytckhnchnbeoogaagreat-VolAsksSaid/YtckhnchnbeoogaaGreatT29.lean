/- Texts Range, VRange, DRange, AsksW, SetAll, Twin14, joined. -/
import Derived.Test.YtckhnchnbeoogaaGreatT04
import Derived.Test.YtckhnchnbeoogaaGreatT11
import Derived.Test.YtckhnchnbeoogaaGreatT12
import Derived.Test.YtckhnchnbeoogaaGreatT20
import Derived.Test.YtckhnchnbeoogaaGreatT21
import Derived.Test.YtckhnchnbeoogaaGreatT23
import Derived.Test.YtckhnchnbeoogaaGreatT26
import Derived.Test.YtckhnchnbeoogaaGreatT27
import Derived.Test.YtckhnchnbeoogaaGreatT28
/- Contracts: the items of a tree between two keys. -/
namespace Go.Proofs.YtckhnchnbeoogaaGreat
set_option linter.unusedSimpArgs false
set_option linter.unusedVariables false
open Go.RowKit

attribute [local go_sem] Oper.semAt_some

set_option maxRecDepth 100000 in
theorem witems_any (A1 : Option Addr) (n1 c1 : Nat) (A2 : Option Addr) (n2 c2 : Nat) (A3 : Option Addr) (n3 c3 : Nat) (A4 : Option Addr) (n4 c4 : Nat) (a : Nat) (k i o : Int) (w : World) :
    Calls Tryz.prog 61 #[storeV A1 n1 c1 A2 n2 c2 A3 n3 c3 A4 n4 c4, .int .i64 (a : Int), keyV k i o] w fun e W => e = .returned (.func (.func 95) #[] #[.pointer (some ⟨w.heap.size, 0, none⟩), .pointer (some ⟨w.heap.size + 2, 0, none⟩), .pointer (some ⟨w.heap.size + 1, 0, none⟩)]) ∧
      W = ((w.alloc (.cells #[.slice A1 n1 c1, .slice A2 n2 c2, .slice A3 n3 c3, .slice A4 n4 c4] 28)).alloc (.cells #[.int .i64 (a : Int)] 3)).alloc (.cells #[.int .u8 k, .int .u32 i, .int .u32 o] 34) := by
  go_enter Tryz.func61, Tryz.ntmps61
  go_wp2_with fail
  go_ret
  exact ⟨rfl, rfl⟩

set_option maxHeartbeats 8000000 in
set_option maxRecDepth 100000 in
theorem range_any (A1 : Option Addr) (n1 c1 : Nat) (A2 : Option Addr) (n2 c2 : Nat) (A3 : Option Addr) (n3 c3 : Nat) (A4 : Option Addr) (n4 c4 : Nat) (S : Sto) (hS : storeMay S = true) (a lvl : Nat) (xs : List It) (ha : 8 ≤ a) (ha2 : a < 256) (hn : nodeAt S a = some ((lvl : Int), xs)) (hsp : (spanS S lvl xs).isSome = true) (k i o k2 i2 o2 : Int) (w : World)
    (hst : StoAt w w.heap.size (.slice A1 n1 c1) (.slice A2 n2 c2) (.slice A3 n3 c3) (.slice A4 n4 c4) S) :
    Calls Tryz.prog 29 #[storeV A1 n1 c1 A2 n2 c2 A3 n3 c3 A4 n4 c4, .int .i64 (a : Int), keyV k i o, keyV k2 i2 o2] w (RetS (fun u W => ∃ (ps : List (It × Value)) (v : Value), u = .tuple #[v, .int .i64 0] ∧ ps.map (·.1) = betweenS S lvl (k, i, o) (k2, i2, o2) xs ∧ Row5 w.heap.size w.heap.size W v ps ∧ ∀ p ∈ ps, Nz W p.2) w) := by
  have HCK := Lib.hid (fun W (hx : Ext w W) => fcheck_any A1 n1 c1 A2 n2 c2 A3 n3 c3 A4 n4 c4 S hS a ⟨ha, ha2, lvl, xs, hn, hsp⟩ W (hst.ext hx))
  replace hst := Lib.hid hst
  replace hn := Lib.hid hn
  replace hsp := Lib.hid hsp
  replace hS := Lib.hid hS
  refine (callsIn_wide (n := 3)).1 ?_
  refine callsIn_of_wp_marks Tryz.func29 rfl trivial ?_ rfl
  simp only [Tryz.ntmps29, List.size_toArray, List.length_cons, List.length_nil, Nat.reduceAdd, Nat.reduceSub, Array.replicate_succ, Array.replicate_zero, List.push_toArray, List.append_toArray, List.nil_append, List.cons_append]
  refine wpIn_wide.2 ?_
  go_wp2_with fail
  generalize hw1 : (World.alloc (World.alloc (World.alloc (World.alloc w _) _) _) _) = w1
  have x1 : Ext w w1 := by rw [← hw1]; exact (((Ext.alloc _ _).trans (Ext.alloc _ _)).trans (Ext.alloc _ _)).trans (Ext.alloc _ _)
  have rs1 : w1.heap[w.heap.size]? = some (.cells #[.slice A1 n1 c1, .slice A2 n2 c2, .slice A3 n3 c3, .slice A4 n4 c4] 28 (0, 0)) := by rw [← hw1]; exact (Below.heap_alloc _ _ _ (by simp; omega)).trans ((Below.heap_alloc _ _ _ (by simp; try omega)).trans ((Below.heap_alloc _ _ _ (by simp)).trans (World.alloc_heap_at _ _ _ rfl)))
  have rf1 : w1.heap[w.heap.size + 1]? = some (.cells #[.int .u8 k, .int .u32 i, .int .u32 o] 34 (0, 0)) := by rw [← hw1]; exact (Below.heap_alloc _ _ _ (by simp; try omega)).trans ((Below.heap_alloc _ _ _ (by simp)).trans (World.alloc_heap_at _ _ _ (by simp)))
  have rt1 : w1.heap[w.heap.size + 2]? = some (.cells #[.int .u8 k2, .int .u32 i2, .int .u32 o2] 34 (0, 0)) := by rw [← hw1]; exact (Below.heap_alloc _ _ _ (by simp)).trans (World.alloc_heap_at _ _ _ (by simp))
  have ro1 : w1.heap[w.heap.size + 3]? = some (.cells #[.slice none 0 0] 44 (0, 0)) := by rw [← hw1]; exact World.alloc_heap_at _ _ _ (by simp)
  clear hw1
  refine (HCK.out w1 x1).mono ?_
  clear HCK
  rintro e w2 ⟨u, rfl, ⟨m, rfl⟩, hB⟩
  have x2 : Ext w w2 := Ext.trans x1 hB
  have rs2 := row_ext rs1 hB
  have rf2 := row_ext rf1 hB
  have rt2 := row_ext rt1 hB
  have ro2 := row_ext ro1 hB
  have z2 : w.heap.size + 3 < w2.heap.size := (Array.getElem?_eq_some_iff.1 ro2).1
  clear rs1 rf1 rt1 ro1 hB x1
  have ks2 := cells_row rs2
  have kf2 := cells_row rf2
  go_wp2_with fail
  refine (witems_any A1 n1 c1 A2 n2 c2 A3 n3 c3 A4 n4 c4 a k i o w2).mono ?_
  rintro e w3 ⟨rfl, hw3⟩
  have x23 : Ext w2 w3 := by rw [hw3]; exact ((Ext.alloc _ _).trans (Ext.alloc _ _)).trans (Ext.alloc _ _)
  have gs3 : w3.heap[w2.heap.size]? = some (.cells #[.slice A1 n1 c1, .slice A2 n2 c2, .slice A3 n3 c3, .slice A4 n4 c4] 28 (0, 0)) := by rw [hw3]; exact (Below.heap_alloc _ _ _ (by simp; omega)).trans ((Below.heap_alloc _ _ _ (by simp)).trans (World.alloc_heap_at _ _ _ rfl))
  have gr3 : w3.heap[w2.heap.size + 1]? = some (.cells #[.int .i64 (a : Int)] 3 (0, 0)) := by rw [hw3]; exact (Below.heap_alloc _ _ _ (by simp)).trans (World.alloc_heap_at _ _ _ (by simp))
  have gf3 : w3.heap[w2.heap.size + 2]? = some (.cells #[.int .u8 k, .int .u32 i, .int .u32 o] 34 (0, 0)) := by rw [hw3]; exact World.alloc_heap_at _ _ _ (by simp)
  have rt3 := row_ext rt2 x23
  have ro3 := row_ext ro2 x23
  have x3 : Ext w w3 := x2.trans x23
  have z3 : w2.heap.size + 2 < w3.heap.size := (Array.getElem?_eq_some_iff.1 gf3).1
  clear hw3 ks2 kf2 rs2 rf2 rt2 ro2 x2 x23
  go_wp2_with fail
  have I0 : RgI w.heap.size w3.heap.size (k2, i2, o2) w [] (.slice none 0 0) w3 := ⟨ro3, rt3, Row5.nil _ _ _, (fun _ h => by cases h), (fun _ h => by cases h), (fun _ h => by cases h), x3⟩
  have hBz : w.heap.size + 3 < w3.heap.size := by omega
  have hlen : (fromS S lvl (k, i, o) xs).length ≤ 15625 := by
    have hmay := (nodeAt_may hn.out).1
    have h1 : xs.length ≤ 5 := by unfold nodeMay headB at hmay; simp at hmay; omega
    have h2 : lvl ≤ 5 := by unfold nodeMay headB at hmay; simp at hmay; omega
    exact Nat.le_trans (List.length_filter_le _ _) (Nat.le_trans (items_len (S := S) lvl xs h1) (show 5 ^ (lvl + 1) ≤ 5 ^ 6 from Nat.pow_le_pow_right (by omega) (by omega)))
  obtain ⟨i0, hi, hz0, hz1, hz2⟩ := info_parts Tryz.info_item
  refine (wpIn_wide (n := 3)).1 ?_
  refine range_items (n := 3) (by decide) (gf := 95) (lb := #[.pointer (some ⟨w2.heap.size, 0, none⟩), .pointer (some ⟨w2.heap.size + 2, 0, none⟩), .pointer (some ⟨w2.heap.size + 1, 0, none⟩)]) rfl (enters_of Tryz.func95 (by kernel_rfl) rfl)
    w.heap.size (fromS S lvl (k, i, o) xs).length (M0 w.heap.size) (fun pre W => ∃ v, RgI w.heap.size w3.heap.size (k2, i2, o2) w pre v W)
    (fun pre W => ∃ pre' x v, pre = pre' ++ [x] ∧ lessK (k2, i2, o2) (keyIt x.1) = true ∧ RgI w.heap.size w3.heap.size (k2, i2, o2) w pre' v W) (fromS S lvl (k, i, o) xs) x3.size (fun W b hb => ?_)
    (fun pre W W' ⟨v, h⟩ ht => ⟨⟨v, (h.tw hBz ht).1⟩, (h.tw hBz ht).2⟩) (fun pre W W' ⟨pre', x, v, h1, h2, h⟩ ht => ⟨pre', x, v, h1, h2, (h.tw hBz ht).1⟩) (fun pre W b ⟨v, h⟩ hb => h.lt hb) ⟨_, I0⟩ (fun J Jx W xW HC hJ => ?_)
    (fun bx x => { tmps := #[storeV A1 n1 c1 A2 n2 c2 A3 n3 c3 A4 n4 c4, .int .i64 a, keyV k i o, keyV k2 i2 o2, .pointer (some ⟨w.heap.size, 0, none⟩), undef, .pointer (some ⟨w.heap.size + 1, 0, none⟩), .pointer (some ⟨w.heap.size + 1 + 1, 0, none⟩), .pointer (some ⟨w.heap.size + 1 + 1 + 1, 0, none⟩), .int .i64 0,
      .int .i64 m, .int .i64 0, .pointer (some ⟨bx, 0, none⟩), .tuple #[.int .i64 m, .int .i64 0], .agg #[.slice A1 n1 c1, .slice A2 n2 c2, .slice A3 n3 c3, .slice A4 n4 c4], .int .i64 a, .tuple #[.int .i64 m, .int .i64 0], .int .i64 m, .int .i64 0, .int .i64 0, .bool false, undef,
      .agg #[.slice A1 n1 c1, .slice A2 n2 c2, .slice A3 n3 c3, .slice A4 n4 c4], .int .i64 a, .agg #[.int .u8 k, .int .u32 i, .int .u32 o], .func (.func 95) #[] #[.pointer (some ⟨w2.heap.size, 0, none⟩), .pointer (some ⟨w2.heap.size + 2, 0, none⟩), .pointer (some ⟨w2.heap.size + 1, 0, none⟩)],
      encX x, undef, undef, undef, undef, undef, undef, undef, undef, undef], defers := [] }) 38 ?assign ?body ?done ?stop
  · rcases hb with rfl | ⟨v, -, -, h⟩
    · omega
    · exact h
  · have hst2 := hst.out.below (x3.trans xW)
    refine (callsIn_wide (n := 3 - 1)).2 (items1_any S hS.out k i o w.heap.size (w3.heap.size + 1) _ _ J Jx A1 n1 c1 A2 n2 c2 A3 n3 c3 A4 n4 c4 HC w2.heap.size (w2.heap.size + 2) (w2.heap.size + 1) W (by have := x3.size; have := xW.size; omega) hst2 (row_ext gs3 xW) (row_ext gf3 xW) a lvl xs (row_ext gr3 xW) ?_ ha ha2 hn.out hsp.out (Nat.le_refl _) hJ)
    rintro (h | h | h | ⟨v, h1, h2, -⟩)
    · omega
    · omega
    · omega
    · rw [cells_row (row_ext ro3 xW)] at h1
      cases h1
      cases h2
  case assign =>
    intro m' x W K hK
    gi_wp2_with fail
    exact hK
  case body =>
    rintro m' pre x bx W hbx hrow hnm ⟨v, hI⟩ hF hN
    have HL := Lib.hid (fun W => less_any k2 i2 o2 x.1.k x.1.i x.1.o W)
    have hkx : lessK (k2, i2, o2) (keyIt x.1) = lessB k2 i2 o2 x.1.k x.1.i x.1.o := rfl
    have kx := cells_row hrow
    have kt := cells_row hI.rt
    have zB : w3.heap.size + 1 < W.heap.size := Nat.lt_of_lt_of_le hbx (Nat.le_of_lt (Array.getElem?_eq_some_iff.1 hrow).1)
    generalize lessB k2 i2 o2 x.1.k x.1.i x.1.o = L at *
    replace hI := Lib.hid hI
    replace hF := Lib.hid hF
    replace I0 := Lib.hid I0
    cases L
    · gi_wp2_with fail
      refine ⟨trivial, fun h => (by cases h), (CallsIn.inRound _ (callsIn_wide.2 (HL.out _))).mono ?_⟩
      rintro e W2 ⟨rfl, hB2⟩
      have I2 := (hI.out.tw hBz (Tw.of_ext hB2)).1
      have M2 := (hI.out.tw hBz (Tw.of_ext hB2)).2
      have hF2 := hF.out.kept (W' := W2) ⟨hB2.os, hB2.tape, hB2.output, hB2.size, fun b hb hm => ⟨hB2.block b hb, fun h => hm (h.imp id fun h => h.imp id (M2 b))⟩⟩
      have kx2 := cells_row (row_ext hrow hB2)
      have ko2 := cells_row I2.ro
      have hps : (pre.map fun x : X3 => (x.1, xVal x)).length = pre.length := List.length_map _
      have hown := I2.row.1
      rw [hps] at hown
      obtain ⟨Av, cv, rfl, -, -⟩ := own_slice hown
      have zo2 : w.heap.size + 3 < W2.heap.size := (Array.getElem?_eq_some_iff.1 I2.ro).1
      have zB2 : w3.heap.size + 1 < W2.heap.size := Nat.lt_of_lt_of_le zB hB2.size
      replace I2 := Lib.hid I2
      replace hF2 := Lib.hid hF2
      replace hkx := Lib.hid hkx
      replace M2 := Lib.hid M2
      clear kx kt
      gi_wp2_with (gi_at_builtin; refine wpListIn_stop ?_)
      refine Stopped.go (wpListIn_push W2 rfl (.tmp 31) (.tmp 33) 44 rfl (w3.heap.size + 2) 38 i0 _ 5 48 Tryz.underlying44 hi hz0 hz1 hz2 rfl (by decide) (.slice Av pre.length cv) pre.length _ (by exact rfl) hown (itemCs x.1 x.2.1 x.2.2) (by exact rfl) rfl (by simp [Value.oneCell']) (by omega) (by decide) (by omega) ?_)
      intro v' W3 hown3 hg hat
      have hP := I2.out.push (x := x) hBz zB2 hF2.out hkx.out ⟨hown3, hat⟩ hg
      have hvl := own_lt hown
      have ro3' : W3.heap[w.heap.size + 3]? = _ := (hg.block _ zo2 (fun e => by have := (hvl _ e.symm).1; omega)).trans I2.out.ro
      obtain ⟨Av', cv', rfl, -, -⟩ := own_slice hown3
      have ko3 := cells_row ro3'
      have fo3 := frozen_row ro3'
      replace hP := Lib.hid hP
      clear hown hown3 hg hat hvl ro3' kx2 ko2 hi hz0 hz1 hz2
      gi_wp2_with fail
      refine ⟨⟨KeptX.trans ⟨hB2.os, hB2.tape, hB2.output, hB2.size, fun b hb hm => ⟨hB2.block b hb, fun h => hm (h.imp id fun h => h.imp id (M2.out b))⟩⟩ hP.out.2.1, hP.out.2.2.1.trans (hB2.block _ (by omega)), hP.out.2.2.2.trans (hB2.block _ zB)⟩, _, hP.out.1⟩
    · gi_wp2_with fail
      refine ⟨trivial, fun h => (by cases h), (CallsIn.inRound _ (callsIn_wide.2 (HL.out _))).mono ?_⟩
      rintro e W2 ⟨rfl, hB2⟩
      have I2 := (hI.out.tw hBz (Tw.of_ext hB2)).1
      replace I2 := Lib.hid I2
      replace hkx := Lib.hid hkx
      clear kx kt
      gi_wp2_with fail
      exact ⟨⟨hB2.block _ (by omega), hB2.block _ zB⟩, rfl, pre, x, v, rfl, hkx.out, I2.out⟩
  case done =>
    rintro ys W hys ⟨v, hI⟩ hD
    have hps : (ys.map fun x : X3 => (x.1, xVal x)).length = ys.length := List.length_map _
    have hown := hI.row.1
    rw [hps] at hown
    obtain ⟨Av, cv, rfl, -, -⟩ := own_slice hown
    have ko := cells_row hI.ro
    have fo := frozen_row hI.ro
    have zo : w.heap.size + 3 < W.heap.size := (Array.getElem?_eq_some_iff.1 hI.ro).1
    have zD : w3.heap.size < W.heap.size := (Array.getElem?_eq_some_iff.1 hD).1
    replace I0 := Lib.hid I0
    replace hI := Lib.hid hI
    replace hD := Lib.hid hD
    clear hown hi hz0 hz1 hz2
    replace hys := Lib.hid hys
    go_wp2_with fail
    have hfin := range_end hI.out hBz hD.out (.slice Av ys.length cv)
    have rf := row_set hI.out.ro 0 (.slice Av ys.length cv)
    have df := (Below.heap_setCell W ⟨w.heap.size + 3, 0, none⟩ (.slice Av ys.length cv) w3.heap.size (by simp; omega)).trans hD.out
    generalize hwf : (World.setCell W _ _) = wf at *
    have rf2 : (wf.putObj w3.heap.size (.deferred none)).heap[w.heap.size + 3]? = _ := (World.putObj_heap_other (by omega)).trans rf
    have kf := cells_row rf2
    refine ⟨by simp, .inl ⟨_, _, rfl, run_takeDeferred df, .tuple #[.slice Av ys.length cv, .int .i64 0], ?_, _, rfl, ⟨_, _, rfl, ?_, hfin.1, hfin.2.1⟩, hfin.2.2⟩⟩
    · simp [results, Tryz.results29, go_sem, kf]
    · rw [List.map_map, between_all fun y hy => ?_, ← hys.out]
      · rfl
      · rw [← hys.out] at hy
        obtain ⟨x, hx, rfl⟩ := List.mem_map.1 hy
        exact hI.out.le x hx
  case stop =>
    rintro ys rest W hys ⟨pre', x, v, rfl, hlt, hI⟩ hD
    have hps : (pre'.map fun x : X3 => (x.1, xVal x)).length = pre'.length := List.length_map _
    have hown := hI.row.1
    rw [hps] at hown
    obtain ⟨Av, cv, rfl, -, -⟩ := own_slice hown
    have ko := cells_row hI.ro
    have fo := frozen_row hI.ro
    have zo : w.heap.size + 3 < W.heap.size := (Array.getElem?_eq_some_iff.1 hI.ro).1
    have zD : w3.heap.size < W.heap.size := (Array.getElem?_eq_some_iff.1 hD).1
    replace I0 := Lib.hid I0
    replace hI := Lib.hid hI
    replace hD := Lib.hid hD
    clear hown hi hz0 hz1 hz2
    replace hys := Lib.hid hys
    replace hlt := Lib.hid hlt
    gi_wp2
    go_wp2_with fail
    have hfin := range_end hI.out hBz hD.out (.slice Av pre'.length cv)
    have rf := row_set hI.out.ro 0 (.slice Av pre'.length cv)
    have df := (Below.heap_setCell W ⟨w.heap.size + 3, 0, none⟩ (.slice Av pre'.length cv) w3.heap.size (by simp; omega)).trans hD.out
    generalize hwf : (World.setCell W _ _) = wf at *
    have rf2 : (wf.putObj w3.heap.size (.deferred none)).heap[w.heap.size + 3]? = _ := (World.putObj_heap_other (by omega)).trans rf
    have kf := cells_row rf2
    refine ⟨by simp, .inl ⟨_, _, rfl, run_takeDeferred df, .tuple #[.slice Av pre'.length cv, .int .i64 0], ?_, _, rfl, ⟨_, _, rfl, ?_, hfin.1, hfin.2.1⟩, hfin.2.2⟩⟩
    · simp [results, Tryz.results29, go_sem, kf]
    · have hys' := hys.out
      rw [List.map_append, List.append_assoc] at hys'
      rw [List.map_map, between_stop (pre := pre'.map (·.1)) (rest := rest) (x := x.1) hsp.out hys'.symm (fun y hy => ?_) hlt.out]
      · rfl
      · obtain ⟨z, hz, rfl⟩ := List.mem_map.1 hy
        exact hI.out.le z hz
end Go.Proofs.YtckhnchnbeoogaaGreat
/- Contracts: the items of a volume between two keys. -/
namespace Go.Proofs.YtckhnchnbeoogaaGreat
set_option linter.unusedSimpArgs false
set_option linter.unusedVariables false
open Go.RowKit

def rangeS (S : Sto) (root : Int) (K K2 : K3) : List It := match nodeAt S root.toNat with
  | none => []
  | some (lvl, xs) => betweenS S lvl.toNat K K2 xs
theorem Row5.mono {base base' lo lo' : Nat} {w : World} {v : Value} {ps : List (It × Value)} (h : Row5 base lo w v ps) (hb : base' ≤ base) (hl : lo' ≤ lo) : Row5 base' lo' w v ps :=
  ⟨own_mono h.1 hb, fun p hp => ⟨⟨(h.2 p hp).1.1, (h.2 p hp).1.2.mono hl⟩, (h.2 p hp).2⟩⟩
def RangeQ (lo : Nat) (zs : List It) (u : Value) (W : World) : Prop := ∃ (ps : List (It × Value)) (v : Value), u = .tuple #[v, .int .i64 0] ∧ ps.map (·.1) = zs ∧ Row5 lo lo W v ps ∧ ∀ p ∈ ps, Nz W p.2
def VRangeQ (S : Sto) (root next : Int) (dead : List Int) (id : Int) (K K2 : K3) (w : World) (e : Ending) (w' : World) : Prop := Below w.heap.size w w' ∧
  ((e = .returned (.tuple #[.slice none 0 0, .int .i64 8]) ∧ PoolBad S root next dead) ∨
    ∃ vs u, PoolOk S root next dead vs ∧ e = .returned u ∧ match volOf vs id with
      | none => u = .tuple #[.slice none 0 0, .int .i64 6]
      | some v => RangeQ w.heap.size (rangeS S v.root K K2) u w')
theorem vrange_ret {R : Ending → World → Prop} {a : Act} {W : World} {u v : Value} (h8 : a.tmps[8]?.getD undef = u) (h9 : a.tmps[9]?.getD undef = v) (hd : a.defers = []) (hR : R (.returned (.tuple #[u, v])) W) : bodyPost Tryz.prog Tryz.f9 R .ret a W := by
  refine bodyPost_ret (v := .tuple #[u, v]) ?_ hd hR
  simp [results, Tryz.results9, go_sem, h8, h9]
set_option maxHeartbeats 4000000 in
set_option maxRecDepth 100000 in
theorem vrange_any (A1 : Option Addr) (n1 c1 : Nat) (A2 : Option Addr) (n2 c2 : Nat) (A3 : Option Addr) (n3 c3 : Nat) (A4 : Option Addr) (n4 c4 : Nat) (gen root next : Int) (A5 : Option Addr) (c5 : Nat) (S : Sto) (dead : List Int) (id k i o k2 i2 o2 : Int) (w : World)
    (h : StoAt w w.heap.size (.slice A1 n1 c1) (.slice A2 n2 c2) (.slice A3 n3 c3) (.slice A4 n4 c4) S) (hd : Ints w w.heap.size (.slice A5 dead.length c5) dead) :
    Calls Tryz.prog 9 #[.agg (poolCs (.slice A1 n1 c1) (.slice A2 n2 c2) (.slice A3 n3 c3) (.slice A4 n4 c4) gen root next (.slice A5 dead.length c5)), .int .u32 id, keyV k i o, keyV k2 i2 o2] w (VRangeQ S root next dead id (k, i, o) (k2, i2, o2) w) := by
  have HT := Lib.hid (fun W (hx : Ext w W) => fvol_any A1 n1 c1 A2 n2 c2 A3 n3 c3 A4 n4 c4 gen root next A5 c5 S dead id W (h.ext hx) (by
    obtain ⟨A, c, e, q1, q2, q3⟩ := hd
    exact ⟨A, c, e, q1, q2, (q3.below hx).more hx.size⟩))
  have HF := Lib.hid (fun W (hx : Ext w W) (hS : storeMay S = true) a lvl xs ha ha2 hn hsp => range_any A1 n1 c1 A2 n2 c2 A3 n3 c3 A4 n4 c4 S hS a lvl xs ha ha2 hn hsp k i o k2 i2 o2 W (h.ext hx))
  clear h hd
  go_enter Tryz.func9, Tryz.ntmps9
  go_wp2_with fail
  generalize hw1 : (World.alloc (World.alloc (World.alloc w _) _) _) = w1
  have x1 : Ext w w1 := by rw [← hw1]; exact ((Ext.alloc _ _).trans (Ext.alloc _ _)).trans (Ext.alloc _ _)
  have rp1 : w1.heap[w.heap.size]? = some (.cells (poolCs (.slice A1 n1 c1) (.slice A2 n2 c2) (.slice A3 n3 c3) (.slice A4 n4 c4) gen root next (.slice A5 dead.length c5)) 32 (0, 0)) := by rw [← hw1]; exact (Below.heap_alloc _ _ _ (by simp; omega)).trans ((Below.heap_alloc _ _ _ (by simp)).trans (World.alloc_heap_at _ _ _ rfl))
  have rk1 : w1.heap[w.heap.size + 1]? = some (.cells #[.int .u8 k, .int .u32 i, .int .u32 o] 34 (0, 0)) := by rw [← hw1]; exact (Below.heap_alloc _ _ _ (by simp)).trans (World.alloc_heap_at _ _ _ (by simp))
  have rt1 : w1.heap[w.heap.size + 2]? = some (.cells #[.int .u8 k2, .int .u32 i2, .int .u32 o2] 34 (0, 0)) := by rw [← hw1]; exact World.alloc_heap_at _ _ _ (by simp)
  clear hw1
  refine (HT.out w1 x1).mono ?_
  clear HT
  rintro e w2 ⟨hB, hQ⟩
  have x2 : Ext w w2 := Ext.trans x1 hB
  have rp2 := row_ext rp1 hB
  have rk2 := row_ext rk1 hB
  have rt2 := row_ext rt1 hB
  have z2 : w.heap.size + 2 < w2.heap.size := (Array.getElem?_eq_some_iff.1 rt2).1
  have z20 : w.heap.size < w2.heap.size := by omega
  have z21 : w.heap.size + 1 < w2.heap.size := by omega
  clear hB x1 rp1 rk1 rt1
  rcases hQ with ⟨rfl, hno⟩ | ⟨vs, refs, nodes, hp, hcn, hen, rfl⟩
  · replace hno := Lib.hid hno
    replace x2 := Lib.hid x2
    go_wp2_with fail
    exact vrange_ret rfl rfl rfl ⟨x2.out.trans (Ext.alloc _ _), .inl ⟨rfl, hno.out⟩⟩
  · have hok := Lib.hid (⟨refs, nodes, hp, hcn, hen⟩ : PoolOk S root next dead vs)
    replace hp := Lib.hid hp
    clear hcn hen
    rcases hv : volOf vs id with _ | v
    · unfold volQ
      replace hv := Lib.hid hv
      replace x2 := Lib.hid x2
      go_wp2_with fail
      exact vrange_ret rfl rfl rfl ⟨x2.out.trans (Ext.alloc _ _), .inr ⟨vs, _, hok.out, rfl, by rw [hv.out]; rfl⟩⟩
    · unfold volQ
      obtain ⟨a, ha, ht⟩ := root_tree hp.out (volOf_mem hv)
      obtain ⟨h8, h256, lvl, xs, hn, hsp⟩ := ht
      have hfs : rangeS S v.root (k, i, o) (k2, i2, o2) = betweenS S lvl (k, i, o) (k2, i2, o2) xs := by
        unfold rangeS
        rw [ha, Int.toNat_natCast, hn]
        simp
      have HFF := Lib.hid (fun W hx => HF.out W hx hp.out.may a lvl xs h8 h256 hn hsp)
      have kp2 := cells_row rp2
      have kk2 := cells_row rk2
      have kt2 := cells_row rt2
      replace hv := Lib.hid hv
      replace hfs := Lib.hid hfs
      replace ha := Lib.hid ha
      clear hn hsp HF
      go_wp2_with fail
      generalize hw3 : (World.alloc w2 _) = w3
      have x23 : Ext w2 w3 := by rw [← hw3]; exact Ext.alloc _ _
      clear hw3
      have hCall := HFF.out w3 (x2.trans x23)
      rw [← ha.out] at hCall
      refine hCall.mono ?_
      clear hCall HFF
      rintro e w4 ⟨u, rfl, ⟨ps, q, rfl, hps, hR, hz⟩, hB⟩
      have x4 : Ext w w4 := (x2.trans x23).trans hB
      have hQ : RangeQ w.heap.size (rangeS S v.root (k, i, o) (k2, i2, o2)) (.tuple #[q, .int .i64 0]) w4 := ⟨ps, q, rfl, by rw [hfs.out]; exact hps, hR.mono (x2.trans x23).size (x2.trans x23).size, hz⟩
      replace hQ := Lib.hid hQ
      replace x4 := Lib.hid x4
      clear kp2 kk2 kt2 rp2 rk2 rt2 hB x23 x2 z2 z20 z21 hR hz hps
      go_wp2_with fail
      exact vrange_ret rfl rfl rfl ⟨x4.out, .inr ⟨vs, _, hok.out, rfl, by rw [hv.out]; exact hQ.out⟩⟩
end Go.Proofs.YtckhnchnbeoogaaGreat
/- Contracts: the items of a volume between two keys (the document). -/
namespace Go.Proofs.YtckhnchnbeoogaaGreat
set_option linter.unusedSimpArgs false
set_option linter.unusedVariables false
open Go.RowKit

def RangeDQ (lo : Nat) (zs : List It) (u : Value) (W : World) : Prop := ∃ A c, u = .tuple #[.slice A zs.length c, .int .i64 0] ∧ ItsF lo W (.slice A zs.length c) zs
def DRangeQ (S : Sto) (root next : Int) (dead : List Int) (id : Int) (K K2 : K3) (w : World) (e : Ending) (w' : World) : Prop := Below w.heap.size w w' ∧
  ((e = .returned (.tuple #[.slice none 0 0, .int .i64 8]) ∧ PoolBadD S root next dead) ∨
    ∃ vs u, PoolOkD S root next dead vs ∧ e = .returned u ∧ match volOf vs id with
      | none => u = .tuple #[.slice none 0 0, .int .i64 6]
      | some v => RangeDQ w.heap.size (rangeS S v.root K K2) u w')
theorem drange_ret {R : Ending → World → Prop} {a : Act} {W : World} {u v : Value} (h8 : a.tmps[8]?.getD undef = u) (h9 : a.tmps[9]?.getD undef = v) (hd : a.defers = []) (hR : R (.returned (.tuple #[u, v])) W) : bodyPost Tryz.prog Tryz.f10 R .ret a W := by
  refine bodyPost_ret (v := .tuple #[u, v]) ?_ hd hR
  simp [results, Tryz.results10, go_sem, h8, h9]
set_option maxHeartbeats 4000000 in
set_option maxRecDepth 100000 in
theorem drange_any (A1 : Option Addr) (n1 c1 : Nat) (A2 : Option Addr) (n2 c2 : Nat) (A3 : Option Addr) (n3 c3 : Nat) (A4 : Option Addr) (n4 c4 : Nat) (gen root next : Int) (A5 : Option Addr) (c5 : Nat) (S : Sto) (dead : List Int) (id k i o k2 i2 o2 : Int) (w : World)
    (h : StoAt w w.heap.size (.slice A1 n1 c1) (.slice A2 n2 c2) (.slice A3 n3 c3) (.slice A4 n4 c4) S) (hd : Ints w w.heap.size (.slice A5 dead.length c5) dead) :
    Calls Tryz.prog 10 #[.agg (poolCs (.slice A1 n1 c1) (.slice A2 n2 c2) (.slice A3 n3 c3) (.slice A4 n4 c4) gen root next (.slice A5 dead.length c5)), .int .u32 id, keyV k i o, keyV k2 i2 o2] w (DRangeQ S root next dead id (k, i, o) (k2, i2, o2) w) := by
  have HT := Lib.hid (fun W (hx : Ext w W) => dvol_any A1 n1 c1 A2 n2 c2 A3 n3 c3 A4 n4 c4 gen root next A5 c5 S dead id W (h.ext hx) (by
    obtain ⟨A, c, e, q1, q2, q3⟩ := hd
    exact ⟨A, c, e, q1, q2, (q3.below hx).more hx.size⟩))
  have HF := Lib.hid (fun W (hx : Ext w W) (hS : storeMay S = true) a lvl xs ha ha2 hn hsp => between_any S lvl a xs k i o k2 i2 o2 A1 n1 c1 A2 n2 c2 A3 n3 c3 A4 n4 c4 W hS (h.ext hx) ha ha2 hn hsp)
  clear h hd
  go_enter Tryz.func10, Tryz.ntmps10
  go_wp2_with fail
  generalize hw1 : (World.alloc (World.alloc (World.alloc w _) _) _) = w1
  have x1 : Ext w w1 := by rw [← hw1]; exact ((Ext.alloc _ _).trans (Ext.alloc _ _)).trans (Ext.alloc _ _)
  have rp1 : w1.heap[w.heap.size]? = some (.cells (poolCs (.slice A1 n1 c1) (.slice A2 n2 c2) (.slice A3 n3 c3) (.slice A4 n4 c4) gen root next (.slice A5 dead.length c5)) 32 (0, 0)) := by rw [← hw1]; exact (Below.heap_alloc _ _ _ (by simp; omega)).trans ((Below.heap_alloc _ _ _ (by simp)).trans (World.alloc_heap_at _ _ _ rfl))
  have rk1 : w1.heap[w.heap.size + 1]? = some (.cells #[.int .u8 k, .int .u32 i, .int .u32 o] 34 (0, 0)) := by rw [← hw1]; exact (Below.heap_alloc _ _ _ (by simp)).trans (World.alloc_heap_at _ _ _ (by simp))
  have rt1 : w1.heap[w.heap.size + 2]? = some (.cells #[.int .u8 k2, .int .u32 i2, .int .u32 o2] 34 (0, 0)) := by rw [← hw1]; exact World.alloc_heap_at _ _ _ (by simp)
  clear hw1
  refine (HT.out w1 x1).mono ?_
  clear HT
  rintro e w2 ⟨hB, hQ⟩
  have x2 : Ext w w2 := Ext.trans x1 hB
  have rp2 := row_ext rp1 hB
  have rk2 := row_ext rk1 hB
  have rt2 := row_ext rt1 hB
  have z2 : w.heap.size + 2 < w2.heap.size := (Array.getElem?_eq_some_iff.1 rt2).1
  have z20 : w.heap.size < w2.heap.size := by omega
  have z21 : w.heap.size + 1 < w2.heap.size := by omega
  clear hB x1 rp1 rk1 rt1
  rcases hQ with ⟨rfl, hno⟩ | ⟨vs, refs, met, hp, hcn, hen, rfl⟩
  · replace hno := Lib.hid hno
    replace x2 := Lib.hid x2
    go_wp2_with fail
    exact drange_ret rfl rfl rfl ⟨x2.out.trans (Ext.alloc _ _), .inl ⟨rfl, hno.out⟩⟩
  · have hok := Lib.hid (⟨refs, met, hp, hcn, hen⟩ : PoolOkD S root next dead vs)
    replace hp := Lib.hid hp
    clear hcn hen
    rcases hv : volOf vs id with _ | v
    · unfold volQ
      replace hv := Lib.hid hv
      replace x2 := Lib.hid x2
      go_wp2_with fail
      exact drange_ret rfl rfl rfl ⟨x2.out.trans (Ext.alloc _ _), .inr ⟨vs, _, hok.out, rfl, by rw [hv.out]; rfl⟩⟩
    · unfold volQ
      obtain ⟨a, ha, ht⟩ := root_tree hp.out (volOf_mem hv)
      obtain ⟨h8, h256, lvl, xs, hn, hsp⟩ := ht
      have hfs : rangeS S v.root (k, i, o) (k2, i2, o2) = betweenS S lvl (k, i, o) (k2, i2, o2) xs := by
        unfold rangeS
        rw [ha, Int.toNat_natCast, hn]
        simp
      have HFF := Lib.hid (fun W hx => HF.out W hx hp.out.may a lvl xs h8 h256 hn hsp)
      have kp2 := cells_row rp2
      have kk2 := cells_row rk2
      have kt2 := cells_row rt2
      replace hv := Lib.hid hv
      replace hfs := Lib.hid hfs
      replace ha := Lib.hid ha
      clear hn hsp HF
      go_wp2_with fail
      generalize hw3 : (World.alloc w2 _) = w3
      have x23 : Ext w2 w3 := by rw [← hw3]; exact Ext.alloc _ _
      clear hw3
      have hCall := HFF.out w3 (x2.trans x23)
      rw [← ha.out] at hCall
      refine hCall.mono ?_
      clear hCall HFF
      rintro e w4 ⟨u, rfl, ⟨A, c, rfl, hR⟩, hB⟩
      have x4 : Ext w w4 := (x2.trans x23).trans hB
      have hQ : RangeDQ w.heap.size (rangeS S v.root (k, i, o) (k2, i2, o2)) (.tuple #[.slice A (betweenS S lvl (k, i, o) (k2, i2, o2) xs).length c, .int .i64 0]) w4 := ⟨A, c, by rw [hfs.out], by rw [hfs.out]; exact hR.mono (x2.trans x23).size⟩
      replace hQ := Lib.hid hQ
      replace x4 := Lib.hid x4
      clear kp2 kk2 kt2 rp2 rk2 rt2 hB x23 x2 z2 z20 z21 hR
      go_wp2_with fail
      exact drange_ret rfl rfl rfl ⟨x4.out, .inr ⟨vs, _, hok.out, rfl, by rw [hv.out]; exact hQ.out⟩⟩
end Go.Proofs.YtckhnchnbeoogaaGreat
/- VolAsks: the program and the document tell the same; what is told may be turned. -/
namespace Go.Proofs.YtckhnchnbeoogaaGreat
set_option linter.unusedSimpArgs false
set_option linter.unusedVariables false
open Go.RowKit

theorem ok_bad {S : Sto} {root next : Int} {dead : List Int} {vs : List Vol} (h : PoolOk S root next dead vs) (h' : PoolBadD S root next dead) : False := by
  obtain ⟨refs, nodes, hp, hc, he⟩ := h
  obtain ⟨refs', met, hm, hn⟩ := h' vs hp
  obtain ⟨_, e⟩ := Marked.same hc.mkd hm
  subst e
  exact hn he
theorem bad_ok {S : Sto} {root next : Int} {dead : List Int} {vs : List Vol} (h : PoolBad S root next dead) (h' : PoolOkD S root next dead vs) : False := by
  obtain ⟨refs, met, hp, hm, he⟩ := h'
  obtain ⟨refs', nodes, hc, hn⟩ := h vs hp
  obtain ⟨_, e⟩ := Marked.same hc.mkd hm
  subst e
  exact hn he
theorem ok_same {S : Sto} {root next : Int} {dead : List Int} {vs vs' : List Vol} (h : PoolOk S root next dead vs) (h' : PoolOkD S root next dead vs') : vs = vs' := by
  obtain ⟨_, _, hp, _⟩ := h
  obtain ⟨_, _, hp', _⟩ := h'
  exact PoolB.same hp hp'
abbrev It0 : It := ⟨0, 0, 0, 0, []⟩
theorem find_agree {S : Sto} {root next id : Int} {dead : List Int} {K : K3} {w w' v v' : World} {e e2 : Ending} (h : VFindQ S root next dead id K w e w') (h2 : DFindQ S root next dead id K v e2 v') :
    ∃ (x : It) (A : Option Addr) (c : Nat) (A' : Option Addr) (c' : Nat) (n : Int), e = .returned (.tuple #[.agg (itemCs x A c), .int .i64 n]) ∧ e2 = .returned (.tuple #[.agg (itemCs x A' c'), .int .i64 n]) ∧ Bys w' w'.heap.size (.slice A x.val.length c) x.val ∧ Bys v' v'.heap.size (.slice A' x.val.length c') x.val := by
  have key : ∀ n : Int, ∃ (x : It) (A : Option Addr) (c : Nat) (A' : Option Addr) (c' : Nat) (n' : Int), Ending.returned (.tuple #[.agg item0, .int .i64 n]) = .returned (.tuple #[.agg (itemCs x A c), .int .i64 n']) ∧ Ending.returned (.tuple #[.agg item0, .int .i64 n]) = .returned (.tuple #[.agg (itemCs x A' c'), .int .i64 n']) ∧ Bys w' w'.heap.size (.slice A x.val.length c) x.val ∧ Bys v' v'.heap.size (.slice A' x.val.length c') x.val := fun n =>
    ⟨It0, none, 0, none, 0, n, rfl, rfl, Bys.nil _ _, Bys.nil _ _⟩
  rcases h.2 with ⟨rfl, hb⟩ | ⟨vs, u, ho, rfl, hu⟩
  · rcases h2.2 with ⟨rfl, _⟩ | ⟨vs, u, ho, _⟩
    · exact key 8
    · exact (bad_ok hb ho).elim
  · rcases h2.2 with ⟨rfl, hb⟩ | ⟨vs', u', ho', rfl, hu'⟩
    · exact (ok_bad ho hb).elim
    · obtain rfl := ok_same ho ho'
      rcases hv : volOf vs id with _ | q
      · rw [hv] at hu hu'
        simp only at hu hu'
        subst hu
        subst hu'
        exact key 6
      · rw [hv] at hu hu'
        simp only at hu hu'
        rcases hf : findS S q.root K with _ | x
        · rw [hf] at hu hu'
          cases hu
          cases hu'
          exact key 6
        · rw [hf] at hu hu'
          obtain ⟨A, c, rfl, hb, -⟩ := hu
          obtain ⟨A', c', rfl, hb', -⟩ := hu'
          exact ⟨x, A, c, A', c', 0, rfl, rfl, hb, hb'⟩
theorem VFindQ.form {S : Sto} {root next id : Int} {dead : List Int} {K : K3} {w w' : World} {e : Ending} (h : VFindQ S root next dead id K w e w') : ∃ (a b c d : Int) (A : Option Addr) (m k : Nat) (n : Int), e = .returned (.tuple #[.agg #[.int .u8 a, .int .u32 b, .int .u32 c, .int .i64 d, .slice A m k], .int .i64 n]) := by
  rcases h.2 with ⟨rfl, _⟩ | ⟨vs, u, _, rfl, hu⟩
  · exact ⟨_, _, _, _, _, _, _, _, rfl⟩
  · rcases hv : volOf vs id with _ | q
    · rw [hv] at hu
      simp only at hu
      subst hu
      exact ⟨_, _, _, _, _, _, _, _, rfl⟩
    · rw [hv] at hu
      simp only at hu
      rcases hf : findS S q.root K with _ | x
      · rw [hf] at hu
        cases hu
        exact ⟨_, _, _, _, _, _, _, _, rfl⟩
      · rw [hf] at hu
        obtain ⟨A, c, rfl, _⟩ := hu
        exact ⟨_, _, _, _, _, _, _, _, rfl⟩
theorem VRangeQ.form {S : Sto} {root next id : Int} {dead : List Int} {K K2 : K3} {w w' : World} {e : Ending} (h : VRangeQ S root next dead id K K2 w e w') : ∃ q n, e = .returned (.tuple #[q, .int .i64 n]) := by
  rcases h.2 with ⟨rfl, _⟩ | ⟨vs, u, _, rfl, hu⟩
  · exact ⟨_, _, rfl⟩
  · rcases hv : volOf vs id with _ | q
    · rw [hv] at hu
      simp only at hu
      subst hu
      exact ⟨_, _, rfl⟩
    · rw [hv] at hu
      simp only at hu
      obtain ⟨ps, q', rfl, _⟩ := hu
      exact ⟨_, _, rfl⟩
theorem range_len (S : Sto) (root : Int) (K K2 : K3) : (rangeS S root K K2).length ≤ 15625 := by
  unfold rangeS
  rcases hn : nodeAt S root.toNat with _ | ⟨lvl, xs⟩
  · simp
  · simp only
    have hmay := (nodeAt_may hn).1
    have h1 : xs.length ≤ 5 := by unfold nodeMay headB at hmay; simp at hmay; omega
    have h2 : lvl.toNat ≤ 5 := by unfold nodeMay headB at hmay; simp at hmay; omega
    exact Nat.le_trans (List.length_filter_le _ _) (Nat.le_trans (items_len (S := S) lvl.toNat xs h1) (show 5 ^ (lvl.toNat + 1) ≤ 5 ^ 6 from Nat.pow_le_pow_right (by omega) (by omega)))
theorem range_agree {S : Sto} {root next id : Int} {dead : List Int} {K K2 : K3} {w w' v v' : World} {e e2 : Ending} (h : VRangeQ S root next dead id K K2 w e w') (h2 : DRangeQ S root next dead id K K2 v e2 v') :
    ∃ (ps : List (It × Value)) (q : Value) (A' : Option Addr) (c' : Nat) (n : Int), e = .returned (.tuple #[q, .int .i64 n]) ∧ e2 = .returned (.tuple #[.slice A' (ps.map (·.1)).length c', .int .i64 n]) ∧ ps.length ≤ 15625 ∧ Row5 w.heap.size w.heap.size w' q ps ∧ (∀ p ∈ ps, Nz w' p.2) ∧ Its v' v'.heap.size (.slice A' (ps.map (·.1)).length c') (ps.map (·.1)) := by
  have key : ∀ n : Int, ∃ (ps : List (It × Value)) (q : Value) (A' : Option Addr) (c' : Nat) (n' : Int), Ending.returned (.tuple #[.slice none 0 0, .int .i64 n]) = .returned (.tuple #[q, .int .i64 n']) ∧ Ending.returned (.tuple #[.slice none 0 0, .int .i64 n]) = .returned (.tuple #[.slice A' (ps.map (·.1)).length c', .int .i64 n']) ∧ ps.length ≤ 15625 ∧ Row5 w.heap.size w.heap.size w' q ps ∧ (∀ p ∈ ps, Nz w' p.2) ∧ Its v' v'.heap.size (.slice A' (ps.map (·.1)).length c') (ps.map (·.1)) := fun n =>
    ⟨[], .slice none 0 0, none, 0, n, rfl, rfl, by simp, Row5.nil _ _ _, (fun _ h => by cases h), [], rfl, ⟨none, 0, rfl, Nat.le_refl _, by simp [maxLen], Rd.none_⟩, (fun _ h => by cases h)⟩
  rcases h.2 with ⟨rfl, hb⟩ | ⟨vs, u, ho, rfl, hu⟩
  · rcases h2.2 with ⟨rfl, _⟩ | ⟨vs, u, ho, _⟩
    · exact key 8
    · exact (bad_ok hb ho).elim
  · rcases h2.2 with ⟨rfl, hb⟩ | ⟨vs', u', ho', rfl, hu'⟩
    · exact (ok_bad ho hb).elim
    · obtain rfl := ok_same ho ho'
      rcases hv : volOf vs id with _ | q
      · rw [hv] at hu hu'
        simp only at hu hu'
        subst hu
        subst hu'
        exact key 6
      · rw [hv] at hu hu'
        simp only at hu hu'
        obtain ⟨ps, q', rfl, hps, hR, hz⟩ := hu
        obtain ⟨A', c', rfl, hits⟩ := hu'
        have hl := range_len S q.root K K2
        rw [← hps] at hits hl
        exact ⟨ps, q', A', c', 0, rfl, by rw [hps], by simpa using hl, hR, hz, hits.its⟩
structure LwI (lo : Nat) (q : Value) (ps : List (It × Value)) (W wr : World) : Prop where
  blw : Below lo W wr
  row : ∀ g, q.ownBlock = some g → wr.heap[g]? = W.heap[g]?
  val : ∀ p ∈ ps, ∀ b o n c, p.2 = .slice (some ⟨b, o, none⟩) n c → 0 < n → ∃ cs ty, wr.heap[b]? = some (.cells cs ty (0, 0)) ∧ ∀ j, j < n → ∃ m : Int, cs[o + j]? = some (.int .u8 m)
theorem LwI.start {lo : Nat} {q : Value} {ps : List (It × Value)} {W : World} (h : Row5 lo lo W q ps) (hz : ∀ p ∈ ps, Nz W p.2) : LwI lo q ps W W :=
  ⟨Below.refl _ _, fun _ _ => rfl, fun p hp b o n c e hn => by
    obtain ⟨cs, ty, hr⟩ := hz p hp ⟨b, o, none⟩ n c e hn
    refine ⟨cs, ty, hr, fun j hj => ?_⟩
    obtain ⟨A, c', e1, -, -, h4⟩ := (h.2 p hp).2.1
    rw [e] at e1
    simp only [Value.slice.injEq] at e1
    obtain ⟨b', o', e4, -, h5⟩ := h4.2 (by omega)
    rw [← e1.1] at e4
    simp only [Option.some.injEq, Addr.mk.injEq, and_true] at e4
    obtain ⟨rfl, rfl⟩ := e4
    have h6 := h5 j _ (by rw [List.getElem?_map, List.getElem?_eq_getElem (by omega)]; rfl)
    rw [cells_row hr] at h6
    exact ⟨_, h6⟩⟩
theorem LwI.ext {lo : Nat} {q : Value} {ps : List (It × Value)} {W wr wr' : World} (h : LwI lo q ps W wr) (hR : Row5 lo lo W q ps) (hlo : lo ≤ W.heap.size) (hx : Ext wr wr') : LwI lo q ps W wr' := by
  have hs := h.blw.size
  refine ⟨h.blw.trans (Below.mono hx (by omega)), fun g hg => ?_, fun p hp b o n c e hn => ?_⟩
  · have := own_lt hR.1 g hg
    exact (hx.block g (by omega)).trans (h.row g hg)
  · obtain ⟨cs, ty, hr, hc⟩ := h.val p hp b o n c e hn
    exact ⟨cs, ty, row_ext hr hx, hc⟩
theorem LwI.set {lo : Nat} {q : Value} {ps : List (It × Value)} {W wr : World} (h : LwI lo q ps W wr) (hR : Row5 lo lo W q ps) {p : It × Value} (hp : p ∈ ps) {b o n c k : Nat} (e : p.2 = .slice (some ⟨b, o, none⟩) n c) (hk : k < n) (m : Int) : LwI lo q ps W (wr.setCell ⟨b, o + k, none⟩ (.int .u8 m)) := by
  have hf := (hR.2 p hp).1.2 ⟨b, o, none⟩ n c e
  have ha := (hR.2 p hp).2.2 ⟨b, o, none⟩ n c e (by omega)
  refine ⟨Below.setCell h.blw (p := ⟨b, o + k, none⟩) hf _, fun g hg => (Below.heap_setCell _ _ _ _ (fun x => ha (by rw [hg, x]))).trans (h.row g hg), fun p' hp' b' o' n' c' e' hn' => ?_⟩
  obtain ⟨cs, ty, hr, hc⟩ := h.val p' hp' b' o' n' c' e' hn'
  by_cases hb : b' = b
  · subst hb
    refine ⟨_, ty, row_set hr (o + k) _, fun j hj => ?_⟩
    rw [Array.getElem?_setIfInBounds]
    split
    · rename_i hx
      obtain ⟨m', hm'⟩ := hc j hj
      have := (Array.getElem?_eq_some_iff.1 hm').1
      split
      · exact ⟨_, rfl⟩
      · omega
    · exact hc j hj
  · exact ⟨cs, ty, (Below.heap_setCell _ _ _ _ hb).trans hr, hc⟩
end Go.Proofs.YtckhnchnbeoogaaGreat
/- Several cells of a block, stored one behind the other. -/
namespace Go.Proofs.YtckhnchnbeoogaaGreat
set_option linter.unusedSimpArgs false
set_option linter.unusedVariables false
open Go.RowKit

def setAll (w : World) (b : Nat) : Nat → List Value → World
  | _, [] => w
  | k, v :: r => setAll (w.setCell ⟨b, k, none⟩ v) b (k + 1) r
def setIfs (cs : Array Value) : Nat → List Value → Array Value
  | _, [] => cs
  | k, v :: r => setIfs (cs.setIfInBounds k v) (k + 1) r
theorem setAll_other {b g : Nat} (h : g ≠ b) : ∀ (vs : List Value) (w : World) (k : Nat), (setAll w b k vs).heap[g]? = w.heap[g]?
  | [], _, _ => rfl
  | _ :: r, w, k => (setAll_other h r _ _).trans (Below.heap_setCell _ _ _ _ h)
theorem setAll_size {b : Nat} : ∀ (vs : List Value) (w : World) (k : Nat), (setAll w b k vs).heap.size = w.heap.size
  | [], _, _ => rfl
  | _ :: r, w, k => (setAll_size r _ _).trans (by simp)
theorem setAll_below {B b : Nat} {w0 : World} (hB : B ≤ b) : ∀ (vs : List Value) (w : World) (k : Nat), Below B w0 w → Below B w0 (setAll w b k vs)
  | [], _, _, h => h
  | v :: r, w, k, h => setAll_below hB r _ _ (Below.setCell h (p := ⟨b, k, none⟩) hB v)
theorem setAll_row {b : Nat} {t : TypeId} : ∀ (vs : List Value) (w : World) (k : Nat) (cs : Array Value), w.heap[b]? = some (.cells cs t (0, 0)) → (setAll w b k vs).heap[b]? = some (.cells (setIfs cs k vs) t (0, 0))
  | [], _, _, _, h => h
  | v :: r, w, k, cs, h => setAll_row r _ _ _ (row_set h k v)
end Go.Proofs.YtckhnchnbeoogaaGreat
/- Contracts: the twin of a pool. -/
namespace Go.Proofs.YtckhnchnbeoogaaGreat
set_option linter.unusedSimpArgs false
set_option linter.unusedVariables false
open Go.RowKit

def TwinP (lo : Nat) (S : Sto) (gen root next : Int) (dead : List Int) (u : Value) (W : World) : Prop := ∃ A1 c1 A2 c2 A3 c3 A4 c4 A5 c5, u = .agg (poolCs (.slice A1 S.bs.length c1) (.slice A2 S.ws.length c2) (.slice A3 S.now.length c3) (.slice A4 S.last.length c4) gen root next (.slice A5 dead.length c5)) ∧
  ∀ W2 : World, (∀ q : Addr, lo ≤ q.block → q.block < W.heap.size → W2.cell? q = W.cell? q) → StoAt W2 W.heap.size (.slice A1 S.bs.length c1) (.slice A2 S.ws.length c2) (.slice A3 S.now.length c3) (.slice A4 S.last.length c4) S ∧ Ints W2 W.heap.size (.slice A5 dead.length c5) dead

set_option maxHeartbeats 2000000 in
set_option maxRecDepth 100000 in
theorem twin14_any (A1 : Option Addr) (n1 c1 : Nat) (A2 : Option Addr) (n2 c2 : Nat) (A3 : Option Addr) (c3 : Nat) (A4 : Option Addr) (c4 : Nat) (gen root next : Int) (A5 : Option Addr) (c5 : Nat) (S : Sto) (dead : List Int) (hS : Short S) (hdl : dead.length < 1000000) (w : World)
    (h : StoAt w w.heap.size (.slice A1 n1 c1) (.slice A2 n2 c2) (.slice A3 S.now.length c3) (.slice A4 S.last.length c4) S) (hd : Ints w w.heap.size (.slice A5 dead.length c5) dead) :
    Calls Tryz.prog 6 #[.agg (poolCs (.slice A1 n1 c1) (.slice A2 n2 c2) (.slice A3 S.now.length c3) (.slice A4 S.last.length c4) gen root next (.slice A5 dead.length c5))] w (RetS (TwinP w.heap.size S gen root next dead) w) := by
  have HT := Lib.hid (fun W (hW : Ext w W) => twin8_any A1 n1 c1 A2 n2 c2 A3 c3 A4 c4 S hS W (h.ext hW))
  obtain ⟨A, c, e, _, _, hr⟩ := hd
  simp only [Value.slice.injEq, true_and] at e
  obtain ⟨rfl, rfl⟩ := e
  have HR := Lib.hid (fun W (hW : Below w.heap.size w W) => hr.below hW)
  clear h hS hr
  obtain ⟨i0, hi, hz0, hz1, hz2⟩ := info_parts Tryz.info_int
  go_enter Tryz.func6, Tryz.ntmps6
  go_wp2_with fail
  generalize hw1 : (World.alloc (World.alloc _ _) _) = w1
  have x1 : Ext w w1 := by rw [← hw1]; exact (Ext.alloc _ _).trans (Ext.alloc _ _)
  have r1 : w1.heap[w.heap.size]? = some (.cells (poolCs (.slice A1 n1 c1) (.slice A2 n2 c2) (.slice A3 S.now.length c3) (.slice A4 S.last.length c4) gen root next (.slice A5 dead.length c5)) 32 (0, 0)) := by rw [← hw1]; exact (Below.heap_alloc _ _ _ (by simp)).trans (World.alloc_heap_at _ _ _ rfl)
  have q1 : w1.heap[w.heap.size + 1]? = some (.cells (poolCs (.slice none 0 0) (.slice none 0 0) (.slice none 0 0) (.slice none 0 0) 0 0 0 (.slice none 0 0)) 32 (0, 0)) := by rw [← hw1]; exact World.alloc_heap_at _ _ _ (by simp)
  have z1 : w1.heap.size = w.heap.size + 2 := by rw [← hw1]; simp
  clear hw1
  refine (HT.out _ x1).mono ?_
  rintro e w2 ⟨u, rfl, ⟨B1, d1, B2, d2, B3, d3, B4, d4, rfl, hT⟩, hB⟩
  have hB : Ext w1 w2 := hB
  have r2 := row_ext r1 hB
  have q2 := row_ext q1 hB
  have k2 := cells_row r2
  have f2 := frozen_row r2
  have z2 : w1.heap.size ≤ w2.heap.size := hB.size
  have zz : w.heap.size < w2.heap.size := by omega
  replace hT := Lib.hid hT
  go_wp2_with (at_builtin; refine wpList_stop ?_)
  have P3 : ∀ wx : World, wx = (((w2.setCell ⟨w.heap.size, 0, none⟩ (.slice B1 S.bs.length d1)).setCell ⟨w.heap.size, 1, none⟩ (.slice B2 S.ws.length d2)).setCell ⟨w.heap.size, 2, none⟩ (.slice B3 S.now.length d3)).setCell ⟨w.heap.size, 3, none⟩ (.slice B4 S.last.length d4) →
      wx.heap[w.heap.size]? = some (.cells (poolCs (.slice B1 S.bs.length d1) (.slice B2 S.ws.length d2) (.slice B3 S.now.length d3) (.slice B4 S.last.length d4) gen root next (.slice A5 dead.length c5)) 32 (0, 0)) ∧ wx.heap.size = w2.heap.size ∧ Below w.heap.size w wx ∧ (∀ b, b ≠ w.heap.size → wx.heap[b]? = w2.heap[b]?) := fun wx e => by
    subst e
    refine ⟨row_set (row_set (row_set (row_set r2 0 _) 1 _) 2 _) 3 _, by simp, ?_, fun b hb => ?_⟩
    · exact Below.setCell (Below.setCell (Below.setCell (Below.setCell (x1.trans hB) (p := ⟨w.heap.size, 0, none⟩) (Nat.le_refl _) _) (p := ⟨w.heap.size, 1, none⟩) (Nat.le_refl _) _) (p := ⟨w.heap.size, 2, none⟩) (Nat.le_refl _) _) (p := ⟨w.heap.size, 3, none⟩) (Nat.le_refl _) _
    · exact (Below.heap_setCell _ _ _ _ hb).trans ((Below.heap_setCell _ _ _ _ hb).trans ((Below.heap_setCell _ _ _ _ hb).trans (Below.heap_setCell _ _ _ _ hb)))
  generalize hw3 : World.setCell (World.setCell (World.setCell (World.setCell w2 _ _) _ _) _ _) _ _ = w3
  obtain ⟨r3, z3, x3, b3⟩ := P3 w3 hw3.symm
  have q3 := (b3 (w.heap.size + 1) (by omega)).trans q2
  clear P3 hw3 k2 f2 r2 q2 r1 q1 hB
  refine Stopped.go (wpList_append_rd _ rfl (.const (.slice none 0 0)) (.tmp 8) 30 rfl w3.heap.size 3 i0 (.int .i64 0) 1 8 Tryz.underlying30 hi hz0 hz1 hz2 rfl (by decide) _ 0 [] rfl (World.ownsRow_nil _ _ _ _) w3.heap.size A5 dead.length c5 (dead.map fun (a : Int) => Value.int .i64 a) rfl ((HR.out w3 x3).more (by omega)) (by
    intro u hu
    obtain ⟨a, _, rfl⟩ := List.mem_map.1 hu
    rfl) (by omega) (by decide) (Nat.le_refl _) ?_)
  intro v4 w4 own4 _ hB4 _
  have hB4 : Ext w3 w4 := hB4
  have r4 := row_ext r3 hB4
  have q4 := row_ext q3 hB4
  have k4 := cells_row r4
  have f4 := frozen_row r4
  have kq4 := cells_row q4
  have fq4 := frozen_row q4
  have z4 := hB4.size
  simp only [Nat.zero_add, List.nil_append] at own4
  obtain ⟨A6, c6, rfl, _, _⟩ := own_slice own4
  clear r3 q3
  replace own4 := Lib.hid own4
  go_wp2_with fail
  have P5 : ∀ wx : World, wx = setAll (w4.setCell ⟨w.heap.size, 7, none⟩ (.slice A6 dead.length c6)) (w.heap.size + 1) 0 [.slice B1 S.bs.length d1, .slice B2 S.ws.length d2, .slice B3 S.now.length d3, .slice B4 S.last.length d4, .int .u32 gen, .int .i64 root, .int .u32 next, .slice A6 dead.length c6] →
      wx.heap[w.heap.size + 1]? = some (.cells (poolCs (.slice B1 S.bs.length d1) (.slice B2 S.ws.length d2) (.slice B3 S.now.length d3) (.slice B4 S.last.length d4) gen root next (.slice A6 dead.length c6)) 32 (0, 0)) ∧ wx.heap.size = w4.heap.size ∧ Below w.heap.size w wx ∧ (∀ b, b ≠ w.heap.size → b ≠ w.heap.size + 1 → wx.heap[b]? = w4.heap[b]?) := fun wx e => by
    subst e
    refine ⟨?_, (setAll_size _ _ _).trans (by simp), setAll_below (Nat.le_succ _) _ _ _ (Below.setCell (Below.trans x3 (Below.mono hB4 (by omega))) (p := ⟨w.heap.size, 7, none⟩) (Nat.le_refl _) _), fun b h1 h2 => (setAll_other h2 _ _ _).trans (Below.heap_setCell _ _ _ _ h1)⟩
    refine (setAll_row _ _ _ _ ((Below.heap_setCell _ _ _ _ (by show _ ≠ w.heap.size; omega)).trans q4)).trans ?_
    simp [setIfs, poolCs]
  generalize hw5 : World.setCell (World.setCell (World.setCell (World.setCell (World.setCell (World.setCell (World.setCell (World.setCell (World.setCell w4 _ _) _ _) _ _) _ _) _ _) _ _) _ _) _ _) _ _ = w5
  obtain ⟨r5, z5, x5, b5⟩ := P5 w5 hw5.symm
  clear P5 hw5
  have k5 := cells_row r5
  refine bodyPost_ret (v := .agg (poolCs (.slice B1 S.bs.length d1) (.slice B2 S.ws.length d2) (.slice B3 S.now.length d3) (.slice B4 S.last.length d4) gen root next (.slice A6 dead.length c6))) (by simp [results, Tryz.results6, go_sem, k5]) rfl ⟨_, rfl, ⟨B1, d1, B2, d2, B3, d3, B4, d4, A6, c6, rfl, fun W2 hk => ⟨?_, ?_⟩⟩, x5⟩
  · rw [z5] at hk ⊢
    refine ((hT.out W2 fun q h1 h2 => (hk q (by omega) (by omega)).trans ?_).more (by omega))
    refine (World.cell?_of_block (b5 q.block (by omega) (by omega))).trans ((World.cell?_of_block (hB4.block q.block (by omega))).trans (World.cell?_of_block (b3 q.block (by omega))))
  · rw [z5] at hk ⊢
    have hR := (Rd.of_own own4.out).keepN ((From.of_own own4.out).mono (lo' := w3.heap.size) (Nat.le_refl _)) (W := W2) (fun q h1 h2 => (hk q (by omega) (by omega)).trans (World.cell?_of_block (b5 q.block (by omega) (by omega))))
    obtain ⟨A, c, e, q1, q2⟩ := own_slice own4.out
    cases e
    exact ⟨A6, c6, rfl, q1, q2, hR⟩
end Go.Proofs.YtckhnchnbeoogaaGreat
