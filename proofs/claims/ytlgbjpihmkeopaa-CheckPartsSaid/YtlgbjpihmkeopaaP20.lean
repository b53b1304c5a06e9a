/- Texts CWrite, PCheck, Ring, Pad, Seal, joined. -/
import Derived.WalkMore
import Derived.Test.YtlgbjpihmkeopaaP01
import Derived.Test.YtlgbjpihmkeopaaP03
import Derived.Test.YtlgbjpihmkeopaaP06
import Derived.Test.YtlgbjpihmkeopaaP07
import Derived.Test.YtlgbjpihmkeopaaP14
import Derived.Test.YtlgbjpihmkeopaaP15
import Derived.Test.YtlgbjpihmkeopaaP16
import Derived.Test.YtlgbjpihmkeopaaP18
import Derived.Test.YtlgbjpihmkeopaaP19
/- Contracts: a table of counts written to a disk. -/
namespace Go.Proofs.Ytlgbjpihmkeopaa
set_option linter.unusedSimpArgs false
set_option linter.unusedVariables false
open Go.RowKit Go.Shelf
attribute [local go_sem] Oper.semAt_some

set_option maxHeartbeats 2000000 in
set_option maxRecDepth 100000 in
theorem place_in (A1 : Option Addr) (c1 : Nat) (A2 : Option Addr) (c2 : Nat) (bs : List (List UInt8)) (ws : List (Int × List UInt8)) (hmay : diskMay bs ws = true) (side : Nat) (hs : side < 2) (w : World)
    (hb : Bls w w.heap.size (.slice A1 bs.length c1) bs) (hw : Wrs w w.heap.size (.slice A2 ws.length c2) ws) :
    Calls Try.prog 90 #[diskV A1 bs.length c1 A2 ws.length c2, .int .i64 (side : Int)] w (Ret (.tuple #[.int .i64 ((4 + side * 2 : Nat) : Int), .int .i64 0]) w) := by
  have HC := Lib.hid (fun W (hx : Ext w W) => dcheck_any A1 _ c1 A2 _ c2 bs ws W ((hb.below hx).more hx.size) ((hw.below hx).more hx.size))
  rw [hmay, show errOf true = 0 from rfl] at HC
  clear hb hw hmay
  go_enter Try.func90, Try.ntmps90
  go_wp2_with fail
  generalize hw1 : World.alloc w _ = w1
  have x1 : Ext w w1 := by rw [← hw1]; exact Ext.alloc _ _
  clear hw1
  refine (HC.out w1 x1).mono ?_
  clear HC
  rintro e w2 ⟨rfl, hB⟩
  have x2 : Ext w w2 := x1.trans hB
  clear hB
  obtain rfl | rfl : side = 0 ∨ side = 1 := by omega
  · go_wp2_with fail
    exact bodyPost_ret (v := .tuple #[.int .i64 4, .int .i64 0]) (by simp [results, Try.results90, go_sem]) rfl ⟨rfl, x2⟩
  · go_wp2_with fail
    exact bodyPost_ret (v := .tuple #[.int .i64 6, .int .i64 0]) (by simp [results, Try.results90, go_sem]) rfl ⟨rfl, x2⟩
def halfL (t : List UInt8) (j : Nat) : List UInt8 := if j = 0 then t.take 128 else t.drop 128
theorem chk_bys {W : World} {b off c : Nat} {t : List UInt8} (ht : t.length = 256) (h : Bys W W.heap.size (.slice (some ⟨b, off, none⟩) 256 c) t) (j : Nat) : ∃ A, chk b off j = .slice A (halfL t j).length 128 ∧ (halfL t j).length = 128 ∧ Bys W W.heap.size (.slice A (halfL t j).length 128) (halfL t j) := by
  obtain ⟨_, _, e, _, _, hr⟩ := h
  simp only [Value.slice.injEq] at e
  obtain ⟨rfl, -, rfl⟩ := e
  obtain ⟨b', off', e, hb, hc⟩ := hr.2 (by omega)
  cases e
  unfold chk halfL
  by_cases hj : j = 0
  · rw [if_pos hj, if_pos hj]
    have hl : (t.take 128).length = 128 := by simp [ht]
    refine ⟨_, by rw [hl], hl, ⟨_, 128, rfl, by omega, by simp [maxLen], by simp, fun _ => ⟨b, off, rfl, hb, fun i u hu => ?_⟩⟩⟩
    refine hc i u ?_
    rw [List.map_take, List.getElem?_take] at hu
    split at hu
    · exact hu
    · cases hu
  · rw [if_neg hj, if_neg hj]
    have hl : (t.drop 128).length = 128 := by simp [ht]
    refine ⟨_, by rw [hl], hl, ⟨_, 128, rfl, by omega, by simp [maxLen], by simp, fun _ => ⟨b, off + 128, rfl, hb, fun i u hu => ?_⟩⟩⟩
    rw [List.map_drop, List.getElem?_drop] at hu
    rw [Nat.add_assoc]
    exact hc (128 + i) u hu
def CwD (w : World) (lo : Nat) (pre : List Nat) (bs : List (List UInt8)) (ws : List (Int × List UInt8)) (W : World) : Prop := ∃ A1 c1 A2 c2 bs' ws' Wb, Wb.heap[w.heap.size]? = some (.cells #[.slice A1 bs'.length c1, .slice A2 ws'.length c2] 25 (0, 0)) ∧ DskAt (diskV A1 bs'.length c1 A2 ws'.length c2) bs' ws' Wb ∧ GoodD bs ws bs' ws' ∧ CellsKept Wb W ∧ (pre ≠ [] → DskZ lo (diskV A1 bs'.length c1 A2 ws'.length c2) bs' ws' Wb)
theorem cw_retD {n b D : Nat} {R : Ending → World → Prop} {a : Act} {W : World} {x0 x1 z : Value} (h4 : a.tmps[6]?.getD undef = .pointer (some ⟨b + 1, 0, none⟩)) (h5 : a.tmps[7]?.getD undef = .pointer (some ⟨b + 1 + 1, 0, none⟩)) (hd : a.defers = [{ target := .collected D, args := #[] }])
    (hK : W.heap[D]? = some (.deferred (some []))) (hD : b + 2 < D)
    (r4 : W.heap[b + 1]? = some (.cells #[x0, x1] 25 (0, 0))) (r5 : W.heap[b + 2]? = some (.cells #[z] 35 (0, 0))) (hR : R (.returned (.tuple #[.agg #[x0, x1], z])) (W.putObj D (.deferred none))) :
    bodyPostM Fence.wide n Try.prog Try.f62 R .ret a W := by
  have k4 := cells_row ((World.putObj_heap_other (o := .deferred none) (show b + 1 ≠ D by omega)).trans r4)
  have k5 := cells_row ((World.putObj_heap_other (o := .deferred none) (show b + 2 ≠ D by omega)).trans r5)
  change LeavesInM Fence.wide n Try.prog Try.f62 a.tmps R a.defers .returning W
  rw [hd]
  refine ⟨by simp, .inl ⟨_, _, rfl, run_takeDeferred hK, .tuple #[.agg #[x0, x1], z], ?_, hR⟩⟩
  simp [results, Try.results62, go_sem, h4, h5, k4, k5]
set_option maxHeartbeats 4000000 in
set_option maxRecDepth 100000 in
theorem cwrite_any (A1 : Option Addr) (c1 : Nat) (A2 : Option Addr) (c2 : Nat) (bs : List (List UInt8)) (ws : List (Int × List UInt8)) (hmay : diskMay bs ws = true) (side : Nat) (hs : side < 2) (A3 : Option Addr) (c3 : Nat) (t : List UInt8) (ht : tabMay t = true) (w : World)
    (hb : Bls w w.heap.size (.slice A1 bs.length c1) bs) (hw : Wrs w w.heap.size (.slice A2 ws.length c2) ws) (h : Bys w w.heap.size (.slice A3 t.length c3) t) :
    Calls Try.prog 62 #[diskV A1 bs.length c1 A2 ws.length c2, .int .i64 (side : Int), .slice A3 t.length c3] w (RetS (StepR bs ws w.heap.size) w) := by
  have HP := Lib.hid (fun W (hx : Ext w W) => place_in A1 c1 A2 c2 bs ws hmay side hs W ((hb.below hx).more hx.size) ((hw.below hx).more hx.size))
  have HC := Lib.hid (fun W (hx : Ext w W) => ccheck_any (.slice A3 t.length c3) t W ((h.below hx).more hx.size))
  rw [ht, show errOf true = 0 from rfl] at HC
  have htl : t.length = 256 := by unfold tabMay at ht; simp only [Bool.and_eq_true, decide_eq_true_eq] at ht; exact ht.1
  have HD0 := Lib.hid (show DskAt (diskV A1 bs.length c1 A2 ws.length c2) bs ws w from ⟨A1, c1, A2, c2, rfl, hb, hw⟩)
  rw [htl] at h HC ⊢
  have h0 := h
  obtain ⟨_, _, e, hc1, hc2, hr⟩ := h
  simp only [Value.slice.injEq] at e
  obtain ⟨rfl, -, rfl⟩ := e
  obtain ⟨b3, o3, rfl, hb3, -⟩ := hr.2 (by omega)
  rw [htl] at hc1
  have HY := Lib.hid (fun W (hx : Ext w W) j => chk_bys htl ((h0.below hx).more hx.size) j)
  replace hmay := Lib.hid hmay
  clear hb hw h0 hr
  refine (callsIn_wide (n := 3)).1 ?_
  refine callsIn_of_wp_marks Try.func62 rfl trivial ?_ rfl
  simp only [Try.ntmps62, List.size_toArray, List.length_cons, List.length_nil, Nat.reduceAdd, Nat.reduceSub, Array.replicate_succ, Array.replicate_zero, List.push_toArray, List.append_toArray, List.nil_append, List.cons_append]
  refine wpIn_wide.2 ?_
  go_wp2_with fail
  generalize hw1 : (World.alloc (World.alloc _ _) _) = w1
  have x1 : Ext w w1 := by rw [← hw1]; exact ((Ext.alloc _ _).trans (Ext.alloc _ _)).trans (Ext.alloc _ _)
  have s1 : w1.heap.size = w.heap.size + 3 := by rw [← hw1]; simp
  have ra1 : w1.heap[w.heap.size]? = some (.cells #[.slice A1 bs.length c1, .slice A2 ws.length c2] 25 (0, 0)) := by rw [← hw1]; exact (Below.heap_alloc _ _ _ (by simp <;> omega)).trans ((Below.heap_alloc _ _ _ (by simp <;> omega)).trans (World.alloc_heap_at _ _ _ rfl))
  have rb1 : w1.heap[w.heap.size + 1]? = some (.cells #[.slice none 0 0, .slice none 0 0] 25 (0, 0)) := by rw [← hw1]; exact (Below.heap_alloc _ _ _ (by simp <;> omega)).trans (World.alloc_heap_at _ _ _ (by simp))
  have rc1 : w1.heap[w.heap.size + 2]? = some (.cells #[.int .i64 0] 35 (0, 0)) := by rw [← hw1]; exact World.alloc_heap_at _ _ _ (by simp)
  clear hw1
  refine (HP.out w1 x1).mono ?_
  clear HP
  rintro e w2 ⟨rfl, hB⟩
  have x2 : Ext w w2 := x1.trans hB
  have s2 := hB.size
  have ra2 := row_ext ra1 hB
  have rb2 := row_ext rb1 hB
  have rc2 := row_ext rc1 hB
  clear hB ra1 rb1 rc1 x1
  go_wp2_with fail
  generalize hw3 : (World.alloc (World.alloc w2 _) _) = w3
  have x23 : Ext w2 w3 := by rw [← hw3]; exact (Ext.alloc _ _).trans (Ext.alloc _ _)
  have s3 : w3.heap.size = w2.heap.size + 2 := by rw [← hw3]; simp
  have rd3 : w3.heap[w2.heap.size]? = some (.cells #[.int .i64 ((4 + side * 2 : Nat) : Int)] 3 (0, 0)) := by rw [← hw3]; exact (Below.heap_alloc _ _ _ (by simp)).trans (World.alloc_heap_at _ _ _ rfl)
  have re3 : w3.heap[w2.heap.size + 1]? = some (.cells #[.int .i64 0] 35 (0, 0)) := by rw [← hw3]; exact World.alloc_heap_at _ _ _ (by simp)
  clear hw3
  have ra3 := row_ext ra2 x23
  have rb3 := row_ext rb2 x23
  have rc3 := row_ext rc2 x23
  have x3 : Ext w w3 := x2.trans x23
  clear ra2 rb2 rc2
  refine (HC.out w3 x3).mono ?_
  clear HC
  rintro e w4 ⟨rfl, hB⟩
  have x4 : Ext w w4 := x3.trans hB
  have s4 := hB.size
  have ra4 := row_ext ra3 hB
  have rb4 := row_ext rb3 hB
  have rc4 := row_ext rc3 hB
  have rd4 := row_ext rd3 hB
  have re4 := row_ext re3 hB
  clear hB ra3 rb3 rc3 rd3 re3 x3 x23
  go_wp2_with fail
  refine (chunk_any (some ⟨b3, o3, none⟩) 256 c3 w4).mono ?_
  rintro e w5 ⟨rfl, hw5⟩
  have x45 : Ext w4 w5 := by rw [hw5]; exact (Ext.alloc _ _).trans (Ext.alloc _ _)
  have s5 : w5.heap.size = w4.heap.size + 2 := by rw [hw5]; simp
  have rf5 : w5.heap[w4.heap.size]? = some (.cells #[.slice (some ⟨b3, o3, none⟩) 256 c3] 26 (0, 0)) := by rw [hw5]; exact (Below.heap_alloc _ _ _ (by simp)).trans (World.alloc_heap_at _ _ _ rfl)
  have rg5 : w5.heap[w4.heap.size + 1]? = some (.cells #[.int .i64 128] 3 (0, 0)) := by rw [hw5]; exact World.alloc_heap_at _ _ _ (by simp)
  clear hw5
  have ra5 := row_ext ra4 x45
  have rb5 := row_ext rb4 x45
  have rc5 := row_ext rc4 x45
  have rd5 := row_ext rd4 x45
  have re5 := row_ext re4 x45
  have x5 : Ext w w5 := x4.trans x45
  clear ra4 rb4 rc4 rd4 re4 x4 x45
  go_wp2_with fail
  have hbx1 : w5.cell? ⟨w4.heap.size, 0, none⟩ = some (.slice (some ⟨b3, o3, none⟩) 256 c3) := cells_row rf5 0
  have hbx2 : w5.cell? ⟨w4.heap.size + 1, 0, none⟩ = some (.int .i64 128) := cells_row rg5 0
  have hD5 : CwD w w5.heap.size [] bs ws w5 := ⟨A1, c1, A2, c2, bs, ws, w5, ra5, HD0.out.ext x5, GoodD.refl hmay.out, CellsKept.refl _, fun h => absurd rfl h⟩
  refine (wpIn_wide (n := 3)).1 ?_
  refine wpIn_rangeFunc_ownH rfl (by omega) (gf := 114) (lb := #[.pointer (some ⟨w4.heap.size, 0, none⟩), .pointer (some ⟨w4.heap.size + 1, 0, none⟩)]) rfl trivial (enters_of Try.func114 (by kernel_rfl) rfl)
    (chunk_stops (3 - 1) (by omega) w4.heap.size (w4.heap.size + 1) b3 o3 c3 hc1 hc2 w5 (by omega) (by omega) hbx1 hbx2) Keep2.t (Keep2.b (by omega) (by omega)) (Below.refl _ _) (fun _ => rfl)
    (fun pre W' => (((CwD w w5.heap.size pre bs ws W' ∧ (W'.heap[w.heap.size + 1]? = some (.cells #[.slice none 0 0, .slice none 0 0] 25 (0, 0)) ∧ W'.heap[w.heap.size + 2]? = some (.cells #[.int .i64 0] 35 (0, 0)))) ∧ (W'.heap[w2.heap.size]? = some (.cells #[.int .i64 ((4 + side * 2 + pre.length : Nat) : Int)] 3 (0, 0)) ∧ W'.heap[w2.heap.size + 1]? = some (.cells #[.int .i64 0] 35 (0, 0)))) ∧ (W'.heap[w4.heap.size]? = some (.cells #[.slice (some ⟨b3, o3, none⟩) 256 c3] 26 (0, 0)) ∧ W'.heap[w4.heap.size + 1]? = some (.cells #[.int .i64 128] 3 (0, 0)))) ∧ Below w.heap.size w W')
    (fun c pre W' => (∃ (er : Int) (Wb : World), c = .ret ∧ er ≠ 0 ∧ Wb.heap[w.heap.size + 1]? = some (.cells #[.slice none 0 0, .slice none 0 0] 25 (0, 0)) ∧ Wb.heap[w.heap.size + 2]? = some (.cells #[.int .i64 er] 35 (0, 0)) ∧ CellsKept Wb W') ∧ Below w.heap.size w W')
    (OwnFrom.and (OwnFrom.and (OwnFrom.and (OwnFrom.and (fun s A C row hs hg hr => by
      obtain ⟨A1, c1, A2, c2, bs', ws', Wb, h1, h2, h3, h4, h5⟩ := hs
      exact ⟨A1, c1, A2, c2, bs', ws', Wb, h1, h2, h3, h4.grown hg fun r e => (hr r e).2, h5⟩) (OwnFrom.and (ownFrom_row _ _ _ _) (ownFrom_row _ _ _ _))) (OwnFrom.and (fun s A C row hs hg hr => ownFrom_row (β := Unit) _ _ _ _ () A C row hs hg hr) (ownFrom_row _ _ _ _))) (OwnFrom.and (ownFrom_row _ _ _ _) (ownFrom_row _ _ _ _))) (ownFrom_below (Nat.le_refl _) (by omega)))
    (fun c => OwnFrom.and (fun s A C row hs hg hr => by
      obtain ⟨er, Wb, h1, h2, h3, h4, h5⟩ := hs
      exact ⟨er, Wb, h1, h2, h3, h4, h5.grown hg fun r e => (hr r e).2⟩) (ownFrom_below (Nat.le_refl _) (by omega)))
    ⟨⟨⟨⟨hD5, rb5, rc5⟩, rd5, re5⟩, rf5, rg5⟩, x5⟩
    (fun x a' _ => a' = { tmps := #[diskV A1 bs.length c1 A2 ws.length c2, .int .i64 (side : Int), .slice (some ⟨b3, o3, none⟩) 256 c3, .pointer (some ⟨w.heap.size, 0, none⟩), undef, undef, .pointer (some ⟨w.heap.size + 1, 0, none⟩), .pointer (some ⟨w.heap.size + 1 + 1, 0, none⟩), .pointer (some ⟨w2.heap.size, 0, none⟩), .pointer (some ⟨w2.heap.size + 1, 0, none⟩), .int .i64 0, chk b3 o3 x,
        .tuple #[.int .i64 (4 + (side : Int) * 2), .int .i64 0], .agg #[.slice A1 bs.length c1, .slice A2 ws.length c2], .int .i64 (side : Int), .tuple #[.int .i64 (4 + (side : Int) * 2), .int .i64 0], .int .i64 (4 + (side : Int) * 2), .int .i64 0, .int .i64 0, .bool false, undef, undef, .slice (some ⟨b3, o3, none⟩) 256 c3, .int .i64 0, .int .i64 0, .bool false, undef, undef, .slice (some ⟨b3, o3, none⟩) 256 c3,
        .func (.func 114) #[] #[.pointer (some ⟨w4.heap.size, 0, none⟩), .pointer (some ⟨w4.heap.size + 1, 0, none⟩)], chk b3 o3 x, undef, undef, undef, undef, undef, undef, undef, undef, undef, undef, undef, undef, undef, undef], defers := [] })
    (fun x a' => ownFrom_pure _ _) ?assign ?body ?done ?stop
  case assign =>
    rintro l' pre x W' K hI hK
    gi_wp2_with fail
    exact hK _ _ (KeepsFrom.refl _ _) (Keep2.refl _ _ _) hI rfl
  case body =>
    rintro l' pre x a' W' hl' ⟨rr, hrr⟩ ⟨⟨⟨⟨hD, ib, ic⟩, id, ie⟩, iff, ig⟩, hB⟩ rfl hpl
    obtain ⟨D1, m1, D2, m2, bs', ws', Wb, hrow, hat, hgood, hck, -⟩ := hD
    have ia := hck.row hrow
    have hat' := hat.kept hck
    obtain ⟨A9, hchk, hl128, hby⟩ := HY.out W' hB x
    have ha8 : (((4 + side * 2 + pre.length : Nat) : Int)) < 8 := by omega
    obtain ⟨_, _, _, _, e9, hbl, hwr⟩ := hat'
    simp only [Value.agg.injEq, Array.mk.injEq, List.cons.injEq, Value.slice.injEq, and_true, true_and] at e9
    obtain ⟨⟨rfl, rfl⟩, rfl, rfl⟩ := e9
    have HW := dwrite_any D1 _ m1 D2 _ m2 bs' ws' ((4 + side * 2 + pre.length : Nat) : Int) A9 128 (halfL t x) W' hbl hwr hby
    rw [hchk]
    rw [hl128] at HW ⊢
    have ig0 := And.intro iff ig
    have ka := cells_row ia
    have kd := cells_row id
    obtain ⟨at9, hat9⟩ : ∃ at9, 4 + side * 2 + pre.length = at9 := ⟨_, rfl⟩
    rw [hat9] at HW kd ha8 id
    have hw9 := Lib.hid (IntWalk.wrap64_in ((at9 : Int) + 1) (by omega))
    have ha8' := Lib.hid ha8
    have zW : w5.heap.size ≤ W'.heap.size := by have := (Array.getElem?_eq_some_iff.1 hrr).1; omega
    have hgood' := Lib.hid hgood
    have hat9' := Lib.hid hat9
    clear hat hck hrow hbl hwr hby hchk hl128 hat9 ha8 hgood HY HD0
    gi_wp2_with fail
    refine ⟨trivial, (CallsIn.inRound _ (callsIn_wide.2 HW)).mono ?_⟩
    clear HW
    rintro e W4 ⟨u, rfl, hu, hB4⟩
    have hst := step_write ha8'.out hu
    have x4 : Ext w W4 := hB.trans (Below.mono hB4 hB.size)
    have z4 := hB4.size
    have ia4 := row_ext ia hB4
    have ib4 := row_ext ib hB4
    have ic4 := row_ext ic hB4
    have id4 := row_ext id hB4
    have ie4 := row_ext ie hB4
    have if4 := row_ext iff hB4
    have ig4 := row_ext ig hB4
    have hk4 : KeepsOthers W' W4 := KeepsOthers.of_ext hB4
    clear hu ka kd ia ib ic id ie iff ig hB4
    have ka := cells_row ia4
    have fa := frozen_row ia4
    have kd := cells_row id4
    have fd := frozen_row id4
    have ke := cells_row ie4
    have fe := frozen_row ie4
    rcases hst with ⟨er, her, rfl⟩ | ⟨v, bs2, ws2, rfl, ⟨E1, e1, E2, e2, rfl, hz⟩, hg2⟩
    · have heb : (er != 0) = true := by rw [bne_iff_ne]; exact her
      replace her := Lib.hid her
      gi_upto_region 11 with fail
      have hs7 := fun (k : Nat) (h1 : k ≠ w.heap.size) (h2 : k ≠ w2.heap.size + 1) => (Below.heap_setCell ((W4.setCell ⟨w.heap.size, 0, none⟩ (.slice none 0 0)).setCell ⟨w.heap.size, 1, none⟩ (.slice none 0 0)) ⟨w2.heap.size + 1, 0, none⟩ (.int .i64 er) k h2).trans ((Below.heap_setCell _ ⟨w.heap.size, 1, none⟩ _ k h1).trans (Below.heap_setCell W4 ⟨w.heap.size, 0, none⟩ (.slice none 0 0) k h1))
      have ie7 := row_set ((Below.heap_setCell _ ⟨w.heap.size, 1, none⟩ (.slice none 0 0) (w2.heap.size + 1) (by show w2.heap.size + 1 ≠ w.heap.size; omega)).trans ((Below.heap_setCell W4 ⟨w.heap.size, 0, none⟩ (.slice none 0 0) (w2.heap.size + 1) (by show w2.heap.size + 1 ≠ w.heap.size; omega)).trans ie4)) 0 (.int .i64 er)
      have ib7 := (hs7 (w.heap.size + 1) (by omega) (by omega)).trans ib4
      have ic7 := (hs7 (w.heap.size + 2) (by omega) (by omega)).trans ic4
      have x7 : Ext w (((W4.setCell ⟨w.heap.size, 0, none⟩ (.slice none 0 0)).setCell ⟨w.heap.size, 1, none⟩ (.slice none 0 0)).setCell ⟨w2.heap.size + 1, 0, none⟩ (.int .i64 er)) := Below.setCell (Below.setCell (Below.setCell x4 (p := ⟨w.heap.size, 0, none⟩) (Nat.le_refl _) _) (p := ⟨w.heap.size, 1, none⟩) (Nat.le_refl _) _) (p := ⟨w2.heap.size + 1, 0, none⟩) (by show w.heap.size ≤ w2.heap.size + 1; omega) _
      have hk7 : KeepsOthers W' (((W4.setCell ⟨w.heap.size, 0, none⟩ (.slice none 0 0)).setCell ⟨w.heap.size, 1, none⟩ (.slice none 0 0)).setCell ⟨w2.heap.size + 1, 0, none⟩ (.int .i64 er)) := ((hk4.trans (KeepsOthers.setCell _ _ _)).trans (KeepsOthers.setCell _ _ _)).trans (KeepsOthers.setCell _ _ _)
      generalize ((W4.setCell ⟨w.heap.size, 0, none⟩ (.slice none 0 0)).setCell ⟨w.heap.size, 1, none⟩ (.slice none 0 0)).setCell ⟨w2.heap.size + 1, 0, none⟩ (.int .i64 er) = w7 at *
      clear hs7 ka kd ke fa fd fe ia4 ib4 ic4 id4 ie4 if4 ig4
      obtain ⟨RR, hRR⟩ : ∃ RR : Rel, RR = rowRel (w.heap.size + 1) 25 #[.slice none 0 0, .slice none 0 0] := ⟨_, rfl⟩
      replace hRR := Lib.hid hRR
      have hne9 := Lib.hid (show w2.heap.size + 1 ≠ w.heap.size + 1 by omega)
      have gE : ∀ W, RR.r w7 W → ∀ i, W.cell? ⟨w2.heap.size + 1, i, none⟩ = #[.int .i64 er][i]? := fun W h => cells_row (rowRel_row (hRR.out ▸ h) hne9.out ie7)
      refine regionIn_start (by kernel_rfl) ?_
      refine anyIn_freeT (w := w7) (wideF_round l') (by kernel_rfl) RR (outsAt [(2, outRowB (w.heap.size + 1) 25 #[.slice none 0 0, .slice none 0 0])]) [true, true, true] 1 (by kernel_rfl) (by kernel_rfl) (by kernel_rfl) (by kernel_rfl) (by kernel_rfl) (by kernel_rfl) (by kernel_rfl) ?st (Rel.drew _ _) ?walk
      case st => rw [hRR.out]; exact outsAt_stableG (by simp only [List.forall_mem_cons]; exact ⟨outRowB_stable, fun _ h => by cases h⟩)
      case walk =>
        intro K hK
        dsimp only [maskOps, List.replicate]
        repeat ((first | (refine free_plainM ?_ (by rfl) (by rfl) (fun W hW _ => ⟨W, ?_, Rel.refl _ W⟩) ?_; rotate_left; (first | (go_simp; with_reducible rfl) | (go_simp; done))) | (refine free_skipM (by rfl) ?_)); try simp only [Act.put, one_f, outB_f, outNew_f, outI_f, outRowB_f, List.setIfInBounds_toArray, List.set_cons_zero, List.set_cons_succ])
        refine free_hardM (outRowB (w.heap.size + 1) 25 #[.slice none 0 0, .slice none 0 0]) (by rfl) (by rfl) (fun W hW hp => ?_) (fun p => ?_)
        · rw [hRR.out] at hW ⊢
          have h8 : W.heap[w.heap.size + 1]? = some (.cells #[.slice none 0 0, .slice none 0 0] 25 (0, 0)) := by
            rcases rowRel_own hW ib7 with h8 | h8 <;> exact h8
          have k8 := cells_row h8
          have f8 := frozen_row h8
          have zo := (Array.getElem?_eq_some_iff.1 h8).1
          refine hardAt_rowB (w' := (W.setCell ⟨w.heap.size + 1, 0, none⟩ (.slice none 0 0)).setCell ⟨w.heap.size + 1, 1, none⟩ (.slice none 0 0)) ?_ (grown_set.trans grown_set) (row_set (row_set h8 0 _) 1 _)
          go_simp
        simp only [Act.put, one_f, outB_f, outNew_f, outI_f, outRowB_f, List.setIfInBounds_toArray, List.set_cons_zero, List.set_cons_succ]
        repeat ((first | (refine free_plainM ?_ (by rfl) (by rfl) (fun W hW _ => ⟨W, ?_, Rel.refl _ W⟩) ?_; rotate_left; (first | (go_simp; with_reducible rfl) | (go_simp; done))) | (refine free_skipM (by rfl) ?_)); try simp only [Act.put, one_f, outB_f, outNew_f, outI_f, outRowB_f, List.setIfInBounds_toArray, List.set_cons_zero, List.set_cons_succ])
        refine free_nilM (hK _ _ fun W8 hW hF => ?_)
        have ib8 : W8.heap[w.heap.size + 1]? = some (.cells #[.slice none 0 0, .slice none 0 0] 25 (0, 0)) := (hF 2).1
        clear hF hK gE
        rw [hRR.out] at hW
        have z8 := hW.1.size
        have hkW : KeepsOthers w7 W8 := ⟨z8, fun k o hk ho => by
          by_cases hb : k = w.heap.size + 1
          · subst hb
            rw [ib7] at hk
            cases hk
            cases ho
          · exact (hW.1.block k (Array.getElem?_eq_some_iff.1 hk).1 (fun e => hb (by simpa using e))).trans hk⟩
        have xW : Below w.heap.size w W8 := Below.trans (B := w.heap.size) x7 (rowRel_below (B0 := w.heap.size) hW (by omega) x7.size)
        have ic8 := rowRel_row hW (by omega) ic7
        have kc := cells_row ic8
        have fc := frozen_row ic8
        dsimp only [List.drop, List.length_cons, List.length_nil]
        gi_wp2_with fail
        refine QN_in ?_
        gi_wp2_with fail
        exact ⟨((hk7.trans hkW).trans (KeepsOthers.setCell _ _ _)).from _, ⟨er, _, rfl, her.out, (Below.heap_setCell _ _ _ _ (by show w.heap.size + 1 ≠ w.heap.size + 1 + 1; omega)).trans ib8, row_set ic8 0 _, CellsKept.refl _⟩, Below.setCell xW (p := ⟨w.heap.size + 1 + 1, 0, none⟩) (by show w.heap.size ≤ w.heap.size + 1 + 1; omega) _⟩
    · have hz' : Hid (DskZ W'.heap.size (diskV E1 bs2.length e1 E2 ws2.length e2) bs2 ws2 W4) := Lib.hid ⟨E1, e1, E2, e2, rfl, hz⟩
      clear hz
      replace hg2 := Lib.hid hg2
      gi_wp2_with fail
      try rw [hw9.out]
      have hs7 := fun (k : Nat) (h1 : k ≠ w.heap.size) (h2 : k ≠ w2.heap.size + 1) (h3 : k ≠ w2.heap.size) => (Below.heap_setCell (((W4.setCell ⟨w.heap.size, 0, none⟩ (.slice E1 bs2.length e1)).setCell ⟨w.heap.size, 1, none⟩ (.slice E2 ws2.length e2)).setCell ⟨w2.heap.size + 1, 0, none⟩ (.int .i64 0)) ⟨w2.heap.size, 0, none⟩ (.int .i64 ((at9 : Int) + 1)) k h3).trans ((Below.heap_setCell _ ⟨w2.heap.size + 1, 0, none⟩ _ k h2).trans ((Below.heap_setCell _ ⟨w.heap.size, 1, none⟩ _ k h1).trans (Below.heap_setCell W4 ⟨w.heap.size, 0, none⟩ (.slice E1 bs2.length e1) k h1)))
      have hne1 : w.heap.size ≠ w2.heap.size := by omega
      have hne2 : w.heap.size ≠ w2.heap.size + 1 := by omega
      have ia7 := (Below.heap_setCell _ ⟨w2.heap.size, 0, none⟩ (.int .i64 ((at9 : Int) + 1)) w.heap.size hne1).trans ((Below.heap_setCell _ ⟨w2.heap.size + 1, 0, none⟩ (.int .i64 0) w.heap.size hne2).trans (row_set (row_set ia4 0 (.slice E1 bs2.length e1)) 1 (.slice E2 ws2.length e2)))
      have id7 := row_set ((Below.heap_setCell _ ⟨w2.heap.size + 1, 0, none⟩ (.int .i64 0) w2.heap.size (by show w2.heap.size ≠ w2.heap.size + 1; omega)).trans ((Below.heap_setCell _ ⟨w.heap.size, 1, none⟩ (.slice E2 ws2.length e2) w2.heap.size hne1.symm).trans ((Below.heap_setCell W4 ⟨w.heap.size, 0, none⟩ (.slice E1 bs2.length e1) w2.heap.size hne1.symm).trans id4))) 0 (.int .i64 ((at9 : Int) + 1))
      have ie7 := (Below.heap_setCell _ ⟨w2.heap.size, 0, none⟩ (.int .i64 ((at9 : Int) + 1)) (w2.heap.size + 1) (by show w2.heap.size + 1 ≠ w2.heap.size; omega)).trans (row_set ((Below.heap_setCell _ ⟨w.heap.size, 1, none⟩ (.slice E2 ws2.length e2) (w2.heap.size + 1) hne2.symm).trans ((Below.heap_setCell W4 ⟨w.heap.size, 0, none⟩ (.slice E1 bs2.length e1) (w2.heap.size + 1) hne2.symm).trans ie4)) 0 (.int .i64 0))
      have ib7 := (hs7 (w.heap.size + 1) (by omega) (by omega) (by omega)).trans ib4
      have ic7 := (hs7 (w.heap.size + 2) (by omega) (by omega) (by omega)).trans ic4
      have if7 := (hs7 w4.heap.size (by omega) (by omega) (by omega)).trans if4
      have ig7 := (hs7 (w4.heap.size + 1) (by omega) (by omega) (by omega)).trans ig4
      have hz7 := (hz'.out.keep (lo' := w5.heap.size) (W' := (((W4.setCell ⟨w.heap.size, 0, none⟩ (.slice E1 bs2.length e1)).setCell ⟨w.heap.size, 1, none⟩ (.slice E2 ws2.length e2)).setCell ⟨w2.heap.size + 1, 0, none⟩ (.int .i64 0)).setCell ⟨w2.heap.size, 0, none⟩ (.int .i64 ((at9 : Int) + 1))) zW (by simp) fun k h1 h2 => hs7 k (by omega) (by omega) (by omega))
      have x7 : Ext w ((((W4.setCell ⟨w.heap.size, 0, none⟩ (.slice E1 bs2.length e1)).setCell ⟨w.heap.size, 1, none⟩ (.slice E2 ws2.length e2)).setCell ⟨w2.heap.size + 1, 0, none⟩ (.int .i64 0)).setCell ⟨w2.heap.size, 0, none⟩ (.int .i64 ((at9 : Int) + 1))) := Below.setCell (Below.setCell (Below.setCell (Below.setCell x4 (p := ⟨w.heap.size, 0, none⟩) (Nat.le_refl _) _) (p := ⟨w.heap.size, 1, none⟩) (Nat.le_refl _) _) (p := ⟨w2.heap.size + 1, 0, none⟩) (by show w.heap.size ≤ w2.heap.size + 1; omega) _) (p := ⟨w2.heap.size, 0, none⟩) (by show w.heap.size ≤ w2.heap.size; omega) _
      have hk7 := (((hk4.trans (KeepsOthers.setCell W4 ⟨w.heap.size, 0, none⟩ (.slice E1 bs2.length e1))).trans (KeepsOthers.setCell _ ⟨w.heap.size, 1, none⟩ (.slice E2 ws2.length e2))).trans (KeepsOthers.setCell _ ⟨w2.heap.size + 1, 0, none⟩ (.int .i64 0))).trans (KeepsOthers.setCell _ ⟨w2.heap.size, 0, none⟩ (.int .i64 ((at9 : Int) + 1)))
      exact ⟨hk7.from _, ⟨(if7.trans ig0.1.symm), (ig7.trans ig0.2.symm)⟩, ⟨⟨⟨⟨⟨E1, e1, E2, e2, bs2, ws2, _, ia7, hz7.at, hgood'.out.trans hg2.out, CellsKept.refl _, fun _ => hz7⟩, ib7, ic7⟩, by rw [List.length_append, List.length_singleton, ← Nat.add_assoc, hat9'.out]; exact id7, ie7⟩, if7, ig7⟩, x7⟩⟩
  case done =>
    rintro D ys W' hD rfl ⟨⟨⟨⟨hCD, ib, ic⟩, id, ie⟩, iff, ig⟩, hB⟩ hK
    obtain ⟨D1, m1, D2, m2, bs', ws', Wb, hrow, hat, hgood, hck, hzz⟩ := hCD
    have hz := (hzz (by simp)).kept hck
    have ia := hck.row hrow
    have ka := cells_row ia
    have kb := cells_row ib
    have fb := frozen_row ib
    have kc := cells_row ic
    have fc := frozen_row ic
    have hz' := Lib.hid hz
    have hgood' := Lib.hid hgood
    clear hzz hat hck hrow hz hgood HY HD0
    go_wp2_with fail
    have zb := (Array.getElem?_eq_some_iff.1 ib).1
    have hDw : w.heap.size + 2 < D := by omega
    have q6 := (Below.heap_setCell _ ⟨w.heap.size + 1 + 1, 0, none⟩ (.int .i64 0) (w.heap.size + 1) (by show w.heap.size + 1 ≠ w.heap.size + 1 + 1; omega)).trans (row_set (row_set ib 0 (.slice D1 bs'.length m1)) 1 (.slice D2 ws'.length m2))
    have hs9 := fun (k : Nat) (h1 : k ≠ w.heap.size + 1) (h2 : k ≠ w.heap.size + 1 + 1) => (Below.heap_setCell _ ⟨w.heap.size + 1 + 1, 0, none⟩ (.int .i64 0) k h2).trans ((Below.heap_setCell _ ⟨w.heap.size + 1, 1, none⟩ (.slice D2 ws'.length m2) k h1).trans (Below.heap_setCell W' ⟨w.heap.size + 1, 0, none⟩ (.slice D1 bs'.length m1) k h1))
    have q7 := row_set ((Below.heap_setCell _ ⟨w.heap.size + 1, 1, none⟩ (.slice D2 ws'.length m2) (w.heap.size + 2) (by show w.heap.size + 2 ≠ w.heap.size + 1; omega)).trans ((Below.heap_setCell W' ⟨w.heap.size + 1, 0, none⟩ (.slice D1 bs'.length m1) (w.heap.size + 2) (by show w.heap.size + 2 ≠ w.heap.size + 1; omega)).trans ic)) 0 (.int .i64 0)
    have qD := (hs9 D (by omega) (by omega)).trans hK
    have x9 : Below w.heap.size w (((W'.setCell ⟨w.heap.size + 1, 0, none⟩ (.slice D1 bs'.length m1)).setCell ⟨w.heap.size + 1, 1, none⟩ (.slice D2 ws'.length m2)).setCell ⟨w.heap.size + 1 + 1, 0, none⟩ (.int .i64 0)) := Below.setCell (Below.setCell (Below.setCell hB (p := ⟨w.heap.size + 1, 0, none⟩) (Nat.le_succ _) _) (p := ⟨w.heap.size + 1, 1, none⟩) (Nat.le_succ _) _) (p := ⟨w.heap.size + 1 + 1, 0, none⟩) (by show w.heap.size ≤ w.heap.size + 1 + 1; omega) _
    have hz9 := hz'.out.keep (lo' := w.heap.size) (W' := ((W'.setCell ⟨w.heap.size + 1, 0, none⟩ (.slice D1 bs'.length m1)).setCell ⟨w.heap.size + 1, 1, none⟩ (.slice D2 ws'.length m2)).setCell ⟨w.heap.size + 1 + 1, 0, none⟩ (.int .i64 0)) (by omega) (by simp) fun k h1 h2 => hs9 k (by omega) (by omega)
    exact cw_retD (b := w.heap.size) rfl rfl rfl qD hDw q6 q7 ⟨_, rfl, .inr ⟨_, bs', ws', rfl, hz9.kept ((CellsKept.refl _).put _ qD rfl), hgood'.out⟩, x9.trans (belowK_b (w := w) (Nat.le_refl _) _ D _ _ (by omega) qD rfl rfl)⟩
  case stop =>
    rintro D c pre W' hD hpre ⟨⟨er, Wb, rfl, her, h1, h2, hck⟩, hB⟩ hK
    gi_wp2_with fail
    exact cw_retD (b := w.heap.size) rfl rfl rfl hK (by omega) (hck.row h1) (hck.row h2) ⟨_, rfl, .inl ⟨er, her, rfl⟩, hB.trans (belowK_b (w := w) (Nat.le_refl _) W' D _ _ (by omega) hK rfl rfl)⟩
end Go.Proofs.Ytlgbjpihmkeopaa
/- Contracts: whether a pool may be; a slice of numbers cloned. -/
namespace Go.Proofs.Ytlgbjpihmkeopaa
set_option linter.unusedSimpArgs false
set_option linter.unusedVariables false
open Go.RowKit

def PCheckQ (S : Sto) (root next : Int) (dead : List Int) (w : World) (e : Ending) (w' : World) : Prop := Below w.heap.size w w' ∧
  ((e = .returned (.int .i64 8) ∧ ∀ vs, PoolB S root next dead vs → ∃ refs nodes, Counted S (rootsN root dead vs) refs nodes ∧ ¬ Enough S refs) ∨
    (e = .returned (.int .i64 0) ∧ ∃ vs refs nodes, PoolB S root next dead vs ∧ Counted S (rootsN root dead vs) refs nodes ∧ Enough S refs))
theorem pcheck_ret {R : Ending → World → Prop} {a : Act} {W : World} {u : Value} (h2 : a.tmps[2]?.getD undef = u) (hd : a.defers = []) (hR : R (.returned u) W) : bodyPost Try.prog Try.f40 R .ret a W := by
  refine bodyPost_ret (v := u) ?_ hd hR
  simp [results, Try.results40, go_sem, h2]
set_option maxHeartbeats 2000000 in
set_option maxRecDepth 100000 in
theorem pcheck_any (A1 : Option Addr) (n1 c1 : Nat) (A2 : Option Addr) (n2 c2 : Nat) (A3 : Option Addr) (n3 c3 : Nat) (A4 : Option Addr) (n4 c4 : Nat) (gen root next : Int) (A5 : Option Addr) (c5 : Nat) (S : Sto) (dead : List Int) (w : World)
    (h : StoAt w w.heap.size (.slice A1 n1 c1) (.slice A2 n2 c2) (.slice A3 n3 c3) (.slice A4 n4 c4) S) (hd : Ints w w.heap.size (.slice A5 dead.length c5) dead) :
    Calls Try.prog 40 #[.agg (poolCs (.slice A1 n1 c1) (.slice A2 n2 c2) (.slice A3 n3 c3) (.slice A4 n4 c4) gen root next (.slice A5 dead.length c5))] w (PCheckQ S root next dead w) := by
  have HT := Lib.hid (fun W (hx : Ext w W) => take_any A1 n1 c1 A2 n2 c2 A3 n3 c3 A4 n4 c4 gen root next A5 c5 S dead W (h.ext hx) (by
    obtain ⟨A, c, e, q1, q2, q3⟩ := hd
    exact ⟨A, c, e, q1, q2, (q3.below hx).more hx.size⟩))
  clear h hd
  go_enter Try.func40, Try.ntmps40
  go_wp2_with fail
  generalize hw1 : World.alloc w _ = w1
  have x1 : Ext w w1 := by rw [← hw1]; exact Ext.alloc _ _
  clear hw1
  refine (HT.out w1 x1).mono ?_
  rintro e w2 ⟨hB, hQ⟩
  have x2 : Below w.heap.size w w2 := Ext.trans x1 hB
  rcases hQ with ⟨rfl, hno⟩ | ⟨vs, refs, nodes, cb, ca, vv, rfl, hT⟩
  · have HB : PCheckQ S root next dead w (.returned (.int .i64 8)) w2 := ⟨x2, .inl ⟨rfl, hno⟩⟩
    replace HB := Lib.hid HB
    clear hno hB
    go_wp2_with fail
    exact pcheck_ret rfl rfl HB.out
  · have HB : PCheckQ S root next dead w (.returned (.int .i64 0)) w2 := ⟨x2, .inr ⟨rfl, vs, refs, nodes, hT.pool, hT.cnt, hT.enough⟩⟩
    replace HB := Lib.hid HB
    clear hT hB
    go_wp2_with fail
    exact pcheck_ret rfl rfl HB.out
theorem rowI_one (l : List Int) : ∀ u ∈ rowI l, u.oneCell' = true := by
  intro u hu
  obtain ⟨a, _, rfl⟩ := List.mem_map.1 hu
  rfl
theorem Ints.of_own {w : World} {base : Nat} {v : Value} {l : List Int} (h : w.ownsRow base 3 1 v l.length (rowI l)) : Ints w w.heap.size v l := by
  obtain ⟨A, c, rfl, hc, hm⟩ := own_slice h
  refine ⟨A, c, rfl, hc, hm, by simp, fun hn => ?_⟩
  rcases h.2 with ⟨_, h0⟩ | ⟨g, cap, cur, e, _, hr, _⟩
  · omega
  · simp only [Value.slice.injEq] at e
    obtain ⟨rfl, -, rfl⟩ := e
    exact ⟨g, 0, rfl, (Array.getElem?_eq_some_iff.1 hr).1, fun j u hu => by have h5 := h.cells (g := g) rfl j u hu; rw [Nat.zero_add]; unfold Addr.add at h5; split at h5 <;> simp_all⟩
theorem Ints.keepN {w W : World} {B lo : Nat} {v : Value} {l : List Int} (h : Ints w B v l) (hf : From lo v) (hk : ∀ q : Addr, lo ≤ q.block → q.block < B → W.cell? q = w.cell? q) : Ints W B v l := by
  obtain ⟨A, c, e, hc, hm, hr⟩ := h
  subst e
  exact ⟨A, c, rfl, hc, hm, Rd.keepN hr hf hk⟩
theorem Ints.more {w : World} {B B' : Nat} {v : Value} {l : List Int} (h : Ints w B v l) (hb : B ≤ B') : Ints w B' v l := by
  obtain ⟨A, c, e, hc, hm, hr⟩ := h
  exact ⟨A, c, e, hc, hm, hr.more hb⟩
theorem Ints.ext_ {w W : World} {v : Value} {l : List Int} (h : Ints w w.heap.size v l) (hx : Ext w W) : Ints W W.heap.size v l := by
  obtain ⟨A, c, e, hc, hm, hr⟩ := h
  exact ⟨A, c, e, hc, hm, (hr.below hx).more hx.size⟩
set_option maxHeartbeats 1000000 in
set_option maxRecDepth 100000 in
theorem iclone_any (v : Value) (l : List Int) (hl : l.length < 1073741824) (w : World) (h : Ints w w.heap.size v l) :
    Calls Try.prog 42 #[v] w (RetS (fun u w' => w'.ownsRow w.heap.size 3 1 u l.length (rowI l)) w) := by
  obtain ⟨i0, hi, hz0, hz1, hz2⟩ := info_parts Try.info_int
  obtain ⟨A, c, rfl, hc, hm, hr⟩ := h
  have qn : ∀ (w : World) (a : Option Addr) (n c n' c' : Nat), (binOp .eql 30 (.slice a n c) (.slice none n' c')).run Try.prog w = .ok (.bool a.isNone) w := fun w a n c n' c' => Lib.run_eql_slice_nil w _ _ a n c n' c' Try.underlying30
  rcases A with _ | ⟨b, off, p⟩
  · have h0 : l = [] := by
      rcases l with _ | ⟨x, r⟩
      · rfl
      · obtain ⟨b, off, h, _⟩ := hr.2 (by simp)
        cases h
    subst h0
    go_enter Try.func42, Try.ntmps42
    go_wp2
    go_ret
    exact ⟨_, rfl, World.ownsRow_nil _ _ _ _, Below.refl _ _⟩
  · go_enter Try.func42, Try.ntmps42
    go_wp2_with (at_builtin; refine wpList_stop ?_)
    refine Stopped.go (wpList_append_rd _ rfl (.tmp 5) (.tmp 6) 30 rfl w.heap.size 3 i0 (.int .i64 0) 1 8 Try.underlying30 hi hz0 hz1 hz2 rfl (by decide) _ 0 [] rfl ?_ w.heap.size _ l.length c (rowI l) (by exact rfl) ?_ (rowI_one l) (by omega) (by decide) (by simp) ?_)
    · exact World.ownsRow_lit w #[] 0 (Nat.le_refl _) (by simp [maxLen]) rfl
    · exact hr.keep fun p hp => World.cell?_alloc_lt w _ p hp
    · intro v' w' hown _ hb _
      simp only [Nat.zero_add, List.nil_append] at hown
      go_wp2
      go_ret
      exact ⟨_, rfl, hown, Below.trans ((Below.refl _ _).alloc (Nat.le_refl _) _) hb⟩
end Go.Proofs.Ytlgbjpihmkeopaa
/- Contracts: may a superblock be? -/
namespace Go.Proofs.Ytlgbjpihmkeopaa
set_option linter.unusedSimpArgs false
set_option linter.unusedVariables false
open Go.RowKit

abbrev superCs (g root next table : Int) (A : Option Addr) (n c : Nat) : Array Value := #[.int .u32 g, .int .i64 root, .int .u32 next, .int .u32 table, .slice A n c]
set_option maxHeartbeats 1000000 in
theorem taken_in (a : Int) (h8 : 8 ≤ a) (h256 : a < 256) (w : World) : Calls Try.prog 144 #[.int .i64 a] w (Ret (.bool true) w) := by
  have d1 : decide (a ≥ 8) = true := decide_eq_true h8
  have d2 : decide (8 ≤ a) = true := decide_eq_true h8
  have d3 : decide (a < 256) = true := decide_eq_true h256
  go_enter Try.func144, Try.ntmps144
  go_wp2
  go_ret
  exact ⟨rfl, Below.refl _ _⟩
set_option maxHeartbeats 1000000 in
theorem rck1_in (a : Int) (h8 : 8 ≤ a) (h256 : a < 256) (w : World) : Calls Try.prog 143 #[.int .i64 a] w (Ret (.bool false) w) := by
  have HT := taken_in a h8 h256 w
  go_enter Try.func143, Try.ntmps143
  go_wp2_with fail
  refine HT.mono ?_
  rintro e w2 ⟨rfl, hB⟩
  go_wp2
  go_ret
  exact ⟨rfl, hB⟩
theorem idxf_ret {R : Ending → World → Prop} {a : Act} {W : World} {u : Value} (h4 : a.tmps[4]?.getD undef = u) (hd : a.defers = []) (hR : R (.returned u) W) : bodyPost Try.prog Try.f158 R .ret a W := by
  refine bodyPost_ret (v := u) ?_ hd hR
  simp [results, Try.results158, go_sem, h4]
set_option maxHeartbeats 2000000 in
set_option maxRecDepth 100000 in
theorem idxf_any (A : Option Addr) (c : Nat) (l : List Int) (hl : l.length < 1000000) (hall : ∀ x ∈ l, 8 ≤ x ∧ x < 256) (w : World) (h : Ints w w.heap.size (.slice A l.length c) l) :
    Calls Try.prog 158 #[.slice A l.length c, .func (.func 143) #[] #[]] w (Ret (.int .i64 (-1)) w) := by
  obtain ⟨_, _, e, hc, hm, hr⟩ := h
  cases e
  go_enter Try.func158, Try.ntmps158
  go_wp2_with fail
  go_loopw [8] (fun i wr => ∃ k : Nat, k ≤ l.length ∧ i = .int .i64 (k : Int) ∧ Ext w wr) (fun i _ => l.length - (intOf i).toNat)
  case atStart => exact ⟨0, Nat.zero_le _, rfl, Ext.refl _⟩
  case round =>
    obtain ⟨k, hk, rfl, hx⟩ := hrel
    by_cases hlt : k < l.length
    · obtain ⟨b, o, rfl, hb, hcell⟩ := hr.2 (by omega)
      have hcl := Ext.cell hx (hcell k (.int .i64 l[k]) (by rw [List.getElem?_map, List.getElem?_eq_getElem hlt]; rfl))
      have hin := hall l[k] (List.getElem_mem hlt)
      have HT := Lib.hid (rck1_in l[k] hin.1 hin.2 wr)
      have hw := Lib.hid (IntWalk.wrap64_in ((k : Int) + 1) (by omega))
      have hd1 : decide (k < l.length) = true := decide_eq_true hlt
      generalize l[k] = y at *
      clear hcell hin
      replace hx := Lib.hid hx
      go_wp2_with fail
      refine HT.out.mono ?_
      clear HT
      rintro e w2 ⟨rfl, hB⟩
      have x2 := Lib.hid (hx.out.trans hB)
      clear hB hcl hx
      go_wp2_with fail
      try rw [hw.out]
      refine ⟨⟨k + 1, hlt, rfl, x2.out⟩, ?_⟩
      simp [intOf]
      omega
    · obtain rfl : k = l.length := by omega
      have hd1 : decide (l.length < l.length) = false := decide_eq_false hlt
      go_wp2_with fail
      exact idxf_ret rfl rfl ⟨rfl, hx⟩
set_option maxHeartbeats 1000000 in
theorem cfn_any (A : Option Addr) (c : Nat) (l : List Int) (hl : l.length < 1000000) (hall : ∀ x ∈ l, 8 ≤ x ∧ x < 256) (w : World) (h : Ints w w.heap.size (.slice A l.length c) l) :
    Calls Try.prog 142 #[.slice A l.length c, .func (.func 143) #[] #[]] w (Ret (.bool false) w) := by
  have HI := idxf_any A c l hl hall w h
  clear h
  go_enter Try.func142, Try.ntmps142
  go_wp2_with fail
  refine HI.mono ?_
  rintro e w2 ⟨rfl, hB⟩
  go_wp2
  go_ret
  exact ⟨rfl, hB⟩
set_option maxHeartbeats 2000000 in
set_option maxRecDepth 100000 in
theorem rgcheck_in (g root next table : Int) (A : Option Addr) (c : Nat) (l : List Int) (hl : l.length ≤ 40) (hall : ∀ x ∈ l, 8 ≤ x ∧ x < 256) (hr8 : 8 ≤ root) (hr256 : root < 256) (w : World) (h : Ints w w.heap.size (.slice A l.length c) l) :
    Calls Try.prog 116 #[.agg (superCs g root next table A l.length c)] w (Ret (.int .i64 0) w) := by
  have HC := Lib.hid (fun W (hx : Ext w W) => cfn_any A c l (by omega) hall W (h.ext_ hx))
  have HT := Lib.hid (fun W => taken_in root hr8 hr256 W)
  have d1 : decide ((l.length : Int) > 40) = false := decide_eq_false (by omega)
  have d2 : decide (40 < l.length) = false := decide_eq_false (by omega)
  clear h
  go_enter Try.func116, Try.ntmps116
  go_wp2_with fail
  generalize hw1 : World.alloc w _ = w1
  have x1 : Ext w w1 := by rw [← hw1]; exact Ext.alloc _ _
  have r1 : w1.heap[w.heap.size]? = some (.cells (superCs g root next table A l.length c) 128 (0, 0)) := by rw [← hw1]; exact World.alloc_heap_at _ _ _ rfl
  clear hw1
  refine (HC.out w1 x1).mono ?_
  clear HC
  rintro e w2 ⟨rfl, hB⟩
  have x2 : Ext w w2 := Ext.trans x1 hB
  have r2 := row_ext r1 hB
  have k2 := cells_row r2
  clear hB r1 x1
  go_wp2_with fail
  refine (HT.out w2).mono ?_
  clear HT
  rintro e w3 ⟨rfl, hB⟩
  have x3 : Ext w w3 := Ext.trans x2 hB
  have r3 := row_ext r2 hB
  have k3 := cells_row r3
  clear hB r2 k2 x2
  go_wp2_with fail
  go_ret
  exact ⟨rfl, x3⟩
set_option maxHeartbeats 1000000 in
theorem slot_any (g : Nat) (hg : g < 4294967296) (w : World) : Calls Try.prog 94 #[.int .u32 (g : Int)] w (Ret (.int .i64 ((g % 4 : Nat) : Int)) w) := by
  go_enter Try.func94, Try.ntmps94
  go_wp2
  rw [show ((g : Int) % 4) = ((g % 4 : Nat) : Int) by omega]
  go_ret
  exact ⟨rfl, Below.refl _ _⟩
end Go.Proofs.Ytlgbjpihmkeopaa
/- Bytes, filled up. -/
namespace Go.Proofs.Ytlgbjpihmkeopaa
set_option linter.unusedSimpArgs false
set_option linter.unusedVariables false
open Go.RowKit
def padB (n : Nat) (b : List UInt8) : List UInt8 := b ++ List.replicate (n - b.length) 0
theorem padB_len {n : Nat} {b : List UInt8} (h : b.length ≤ n) : (padB n b).length = n := by simp [padB]; omega
theorem pad_row (n : Nat) (b : List UInt8) : List.take 0 (List.map bv (List.replicate n 0)).toArray.toList ++ List.map bv b ++ List.drop (0 + b.length) (List.map bv (List.replicate n 0)).toArray.toList = (padB n b).map bv := by
  simp [padB, List.map_replicate, List.drop_replicate]
end Go.Proofs.Ytlgbjpihmkeopaa
/- Contracts: a block sealed. -/
namespace Go.Proofs.Ytlgbjpihmkeopaa
set_option linter.unusedSimpArgs false
set_option linter.unusedVariables false
open Go.RowKit

def sealB (b : List UInt8) : List UInt8 := bytesOf (crc (padB 124 b)) 4 ++ padB 124 b
theorem sealB_len {b : List UInt8} (h : b.length ≤ 124) : (sealB b).length = 128 := by unfold sealB; rw [List.length_append, bytesOf_len, padB_len h]

set_option maxHeartbeats 2000000 in
set_option maxRecDepth 100000 in
theorem seal_any (A : Option Addr) (c : Nat) (b : List UInt8) (hl : b.length ≤ 124) (w : World) (h : Bys w w.heap.size (.slice A b.length c) b) :
    Calls Try.prog 120 #[.slice A b.length c] w (RetS (IsB0 w.heap.size 128 (sealB b)) w) := by
  have hmk : ∀ w, (Instr.makeSlice 26 (.int .i64 124) (.int .i64 124)).run Try.prog w = .ok (.slice (some ⟨w.heap.size, 0, none⟩) 124 124) (w.alloc (.cells ((List.replicate 124 (0 : UInt8)).map bv).toArray 5)) := fun _ => by kernel_rfl
  have hsz : (Try.prog.info? 5).map (·.size) = some 1 := by kernel_rfl
  have hcr : crc (padB 124 b) < 4294967296 := crc_lt _
  have hd : decide ((b.length : Int) > 124) = false := decide_eq_false (by omega)
  replace h := Lib.hid h
  go_enter Try.func120, Try.ntmps120
  go_wp2_with fail
  generalize hw1 : World.alloc w _ = w1
  have x1 : Ext w w1 := by rw [← hw1]; exact Ext.alloc _ _
  have r1 : w1.heap[w.heap.size]? = some (.cells ((List.replicate 124 (0 : UInt8)).map bv).toArray 5 (0, 0)) := by rw [← hw1]; exact World.alloc_heap_at _ _ _ rfl
  clear hw1 hmk
  have hcp := run_copy_bys (P := Try.prog) w1 26 26 3 5 w.heap.size 0 124 124 A c b _ _ Try.underlying26 hsz r1 (h.out.below x1) hl (by simp; omega)
  rw [hcp]
  clear hcp
  have r2 := setRow_heap w1 w.heap.size _ (List.take 0 (List.map bv (List.replicate 124 0)).toArray.toList ++ List.map bv b ++ List.drop (0 + b.length) (List.map bv (List.replicate 124 0)).toArray.toList).toArray _ _ r1
  have x2 : Below w.heap.size w (w1.setRow w.heap.size (List.take 0 (List.map bv (List.replicate 124 0)).toArray.toList ++ List.map bv b ++ List.drop (0 + b.length) (List.map bv (List.replicate 124 0)).toArray.toList).toArray) :=
    Below.grown x1 (setRow_grown _ _ _) x1.size (fun g e => by cases e; exact Nat.le_refl _)
  generalize hw2 : w1.setRow w.heap.size (List.take 0 (List.map bv (List.replicate 124 0)).toArray.toList ++ List.map bv b ++ List.drop (0 + b.length) (List.map bv (List.replicate 124 0)).toArray.toList).toArray = w2 at *
  rw [pad_row] at r2
  have hp : ∀ W, Ext w2 W → Bys W W.heap.size (.slice (some ⟨w.heap.size, 0, none⟩) 124 124) (padB 124 b) := fun W hW => by
    refine ⟨_, 124, by rw [padB_len hl], Nat.le_of_eq (padB_len hl), by unfold maxLen; omega, by rw [padB_len hl]; simp [padB_len hl], fun _ => ⟨w.heap.size, 0, rfl, ?_, fun j u hu => ?_⟩⟩
    · have := (Array.getElem?_eq_some_iff.1 (row_ext r2 hW)).1
      omega
    · rw [Nat.zero_add, cells_row (row_ext r2 hW)]
      simpa using hu
  clear hw2 r1 x1
  have HO := Lib.hid (fun W (hW : Ext w2 W) => sumof_any _ (padB 124 b) W (hp W hW) (by rw [padB_len hl]; omega))
  replace hp := Lib.hid hp
  replace r2 := Lib.hid r2
  have hcn : ((crc (padB 124 b) : Nat) : Int) < 4294967296 := by omega
  go_wp2_with fail
  refine (HO.out _ (Ext.refl _)).mono ?_
  rintro e w3 ⟨rfl, hB3⟩
  have x3 : Ext w2 w3 := hB3
  clear hB3
  have HF := Lib.hid (four_any (crc (padB 124 b)) hcr w3)
  go_wp2_with fail
  refine HF.out.mono ?_
  rintro e w4 ⟨u4, rfl, ⟨A4, c4, rfl, hu4, hf4⟩, hB4⟩
  have x4 : Ext w2 w4 := x3.trans hB4
  clear HF hB4
  go_wp2_with fail
  generalize hw5 : World.alloc w4 _ = w5
  have x45 : Ext w4 w5 := by rw [← hw5]; exact Ext.alloc _ _
  have r5 : w5.heap[w4.heap.size]? = some (.cells #[.slice A4 4 c4, .slice (some ⟨w.heap.size, 0, none⟩) 124 124] 26 (0, 0)) := by rw [← hw5]; exact World.alloc_heap_at _ _ _ rfl
  clear hw5
  have x5 := x4.trans x45
  have hfl : [bytesOf (crc (padB 124 b)) 4, padB 124 b].flatten = sealB b := by simp [sealB]
  have HC := concat8_any (some ⟨w4.heap.size, 0, none⟩) 2 2 [.slice A4 4 c4, .slice (some ⟨w.heap.size, 0, none⟩) 124 124] [bytesOf (crc (padB 124 b)) 4, padB 124 b] rfl rfl w5 ⟨rfl, fun _ => ⟨w4.heap.size, 0, rfl, (Array.getElem?_eq_some_iff.1 r5).1, fun j u hu => by rw [Nat.zero_add, cells_row r5]; simpa using hu⟩⟩
    (fun i v l hv hl' => by
      rcases i with _ | _ | i
      · cases hv; cases hl'; exact (hu4.below x45).more x45.size
      · cases hv; cases hl'; exact hp.out w5 x5
      · simp at hv) (by omega) (by rw [hfl, sealB_len hl]; omega)
  rw [hfl, sealB_len hl] at HC
  replace HC := Lib.hid HC
  replace hu4 := Lib.hid hu4
  go_wp2_with fail
  refine HC.out.mono ?_
  rintro e w6 ⟨u6, rfl, hown, hB6⟩
  have x6 : Below w.heap.size w w6 := x2.trans (Below.mono (Ext.trans x5 hB6) x2.size)
  have HI := Lib.hid ((IsB.of_own hown))
  go_wp2_with fail
  refine bodyPost_ret (v := .tuple #[u6, .int .i64 0]) (by simp [results, Try.results120, go_sem]) rfl ⟨_, rfl, ⟨u6, rfl, ?_⟩, x6⟩
  obtain ⟨A', c', h1, h2, h3⟩ := HI.out
  exact ⟨A', c', h1, h2, h3.mono (by have := x2.size; have := x5.size; omega)⟩
end Go.Proofs.Ytlgbjpihmkeopaa
