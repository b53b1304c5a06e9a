/- Texts Ahead, Has, Data, LooseR, VolS, PTwin, FreeE, DskN, joined. -/
import Derived.WalkMore
import Derived.Test.YtlgbjpihmkeopaaP11
import Derived.Test.YtlgbjpihmkeopaaP14
import Derived.Test.YtlgbjpihmkeopaaP18
import Derived.Test.YtlgbjpihmkeopaaP19
import Derived.Test.YtlgbjpihmkeopaaP20
import Derived.Test.YtlgbjpihmkeopaaP21
/- Contracts: a commit's steps, one behind the other. -/
namespace Go.Proofs.Ytlgbjpihmkeopaa
set_option linter.unusedSimpArgs false
set_option linter.unusedVariables false
open Go.RowKit

abbrev stepsCs (pb : Nat) : Array Value := #[.func (.func 60) #[] #[], .func (.func 61) #[] #[.pointer (some ⟨pb, 0, none⟩)], .func (.func 63) #[] #[.pointer (some ⟨pb, 0, none⟩)]]
set_option maxHeartbeats 1000000 in
theorem steps_any (P1 P2 P3 P4 P5 : Value) (gen root next : Int) (A1 A2 A3 A4 A5 : Option Addr) (n1 c1 n2 c2 n3 c3 n4 c4 n5 c5 : Nat) (h1 : P1 = .slice A1 n1 c1) (h2 : P2 = .slice A2 n2 c2) (h3 : P3 = .slice A3 n3 c3) (h4 : P4 = .slice A4 n4 c4) (h5 : P5 = .slice A5 n5 c5) (w : World) :
    Calls Try.prog 34 #[.agg (poolCs P1 P2 P3 P4 gen root next P5)] w (fun e W => ∃ sb, e = .returned (.slice (some ⟨sb, 0, none⟩) 3 3) ∧ W.heap[sb]? = some (.cells (stepsCs w.heap.size) 122 (0, 0)) ∧ W.heap[w.heap.size]? = some (.cells (poolCs P1 P2 P3 P4 gen root next P5) 32 (0, 0)) ∧ Below w.heap.size w W) := by
  subst h1 h2 h3 h4 h5
  have hmf : ∀ (fn : Fn) (first cap : Array Value) (w : World), (Instr.makeFunc fn first cap).run Try.prog w = .ok (.func fn first cap) w := fun _ _ _ _ => rfl
  go_enter Try.func34, Try.ntmps34
  go_wp2
  go_ret
  exact ⟨w.heap.size + 1, rfl, World.alloc_heap_at _ _ _ (by simp), (Below.heap_alloc _ _ _ (by simp)).trans (World.alloc_heap_at _ _ _ rfl), (Ext.alloc _ _).trans (Ext.alloc _ _)⟩
structure AhR (w : World) (w1 : Nat) (A1 : Option Addr) (c1 : Nat) (A2 : Option Addr) (c2 : Nat) (bs : List (List UInt8)) (ws : List (Int × List UInt8)) (k : Nat) (wr : World) : Prop where
  ex : ∃ D1 m1 D2 m2 bs' ws', wr.heap[w.heap.size + 1]? = some (.cells #[.slice D1 bs'.length m1, .slice D2 ws'.length m2] 25 (0, 0)) ∧ GoodD bs ws bs' ws' ∧ ((k ≤ 1 ∧ D1 = A1 ∧ m1 = c1 ∧ D2 = A2 ∧ m2 = c2 ∧ bs' = bs ∧ ws' = ws) ∨ (1 < k ∧ DskZ w1 (diskV D1 bs'.length m1 D2 ws'.length m2) bs' ws' wr)) ∧ w1 ≤ wr.heap.size ∧ Below w.heap.size w wr
theorem ahead_ret {R : Ending → World → Prop} {a : Act} {W : World} {b : Nat} {x0 x1 v : Value} (h4 : a.tmps[4]?.getD undef = .pointer (some ⟨b, 0, none⟩)) (h5 : a.tmps[5]?.getD undef = v) (hd : a.defers = [])
    (hrow : W.heap[b]? = some (.cells #[x0, x1] 25 (0, 0))) (hR : R (.returned (.tuple #[.agg #[x0, x1], v])) W) : bodyPost Try.prog Try.f33 R .ret a W := by
  refine bodyPost_ret (v := .tuple #[.agg #[x0, x1], v]) ?_ hd hR
  have k := cells_row hrow
  simp [results, Try.results33, go_sem, h4, h5, k]
theorem below2 {w0 w : World} {B b : Nat} (h : Below B w0 w) (hb : B ≤ b) (x0 x1 : Value) : Below B w0 ((w.setCell ⟨b, 0, none⟩ x0).setCell ⟨b, 1, none⟩ x1) := Below.setCell (Below.setCell h (p := ⟨b, 0, none⟩) hb _) (p := ⟨b, 1, none⟩) hb _
theorem other2 {w : World} {b k : Nat} (hk : k ≠ b) (x0 x1 : Value) : ((w.setCell ⟨b, 0, none⟩ x0).setCell ⟨b, 1, none⟩ x1).heap[k]? = w.heap[k]? := (Below.heap_setCell _ _ _ _ hk).trans (Below.heap_setCell _ _ _ _ hk)
set_option maxHeartbeats 8000000 in
set_option maxRecDepth 100000 in
theorem ahead_any (pb sb : Nat) (A1 : Option Addr) (c1 : Nat) (A2 : Option Addr) (c2 : Nat) (A3 : Option Addr) (c3 : Nat) (A4 : Option Addr) (n4 c4 : Nat) (bs : List (List UInt8)) (ws : List (Int × List UInt8)) (hmay : diskMay bs ws = true) (t : List UInt8) (ht : tabMay t = true) (gen : Nat) (hg : gen + 1 < 4294967296) (root next : Nat) (hn : next < 4294967296) (hr8 : 8 ≤ root) (hr256 : root < 256) (A5 : Option Addr) (c5 : Nat) (dead : List Int) (hl : dead.length ≤ 40) (hall : ∀ x ∈ dead, 8 ≤ x ∧ x < 256) (w : World)
    (hsb : w.heap[sb]? = some (.cells (stepsCs pb) 122 (0, 0)))
    (hp : w.heap[pb]? = some (.cells (poolCs (.slice A1 bs.length c1) (.slice A2 ws.length c2) (.slice A3 t.length c3) (.slice A4 n4 c4) gen root next (.slice A5 dead.length c5)) 32 (0, 0)))
    (hb : Bls w w.heap.size (.slice A1 bs.length c1) bs) (hw : Wrs w w.heap.size (.slice A2 ws.length c2) ws) (h : Bys w w.heap.size (.slice A3 t.length c3) t) (hd : Ints w w.heap.size (.slice A5 dead.length c5) dead) :
    Calls Try.prog 33 #[.agg (poolCs (.slice A1 bs.length c1) (.slice A2 ws.length c2) (.slice A3 t.length c3) (.slice A4 n4 c4) gen root next (.slice A5 dead.length c5)), .slice (some ⟨sb, 0, none⟩) 3 3] w (RetS (StepR bs ws w.heap.size) w) := by
  have HB := Lib.hid (fun D1 m1 D2 m2 bs' ws' (hm : diskMay bs' ws' = true) W (hx : Bls W W.heap.size (.slice D1 bs'.length m1) bs') (hy : Wrs W W.heap.size (.slice D2 ws'.length m2) ws') => barrier_any D1 m1 D2 m2 bs' ws' hm W hx hy)
  have H2 := Lib.hid (fun D1 m1 D2 m2 bs' ws' (hm : diskMay bs' ws' = true) W (hx : Bls W W.heap.size (.slice D1 bs'.length m1) bs') (hy : Wrs W W.heap.size (.slice D2 ws'.length m2) ws') (he : Ext w W) => s2_any pb D1 m1 D2 m2 bs' ws' hm _ _ _ _ A3 c3 t ht gen hg root next W (row_ext hp he) hx hy ((h.below he).more he.size))
  have H3 := Lib.hid (fun D1 m1 D2 m2 bs' ws' (hm : diskMay bs' ws' = true) W (hx : Bls W W.heap.size (.slice D1 bs'.length m1) bs') (hy : Wrs W W.heap.size (.slice D2 ws'.length m2) ws') (he : Ext w W) => s3_any pb D1 m1 D2 m2 bs' ws' hm _ _ _ A3 c3 t ht gen hg root next hn hr8 hr256 A5 c5 dead hl hall W (row_ext hp he) hx hy ((h.below he).more he.size) (hd.ext_ he))
  have H1 := Lib.hid (fun W => s1_any A1 bs.length c1 A2 ws.length c2 W)
  have HD0 := Lib.hid (fun W (he : Ext w W) => (⟨(hb.below he).more he.size, (hw.below he).more he.size⟩ : Bls W W.heap.size (.slice A1 bs.length c1) bs ∧ Wrs W W.heap.size (.slice A2 ws.length c2) ws))
  have HSB := Lib.hid (fun W (he : Ext w W) => row_ext hsb he)
  have hm0 := Lib.hid hmay
  have zs := (Array.getElem?_eq_some_iff.1 hsb).1
  clear hb hw h hd hmay ht hall hp hsb
  go_enter Try.func33, Try.ntmps33
  go_wp2_with fail
  generalize hw1 : (World.alloc (World.alloc _ _) _) = w1
  have x1 : Ext w w1 := by rw [← hw1]; exact (Ext.alloc _ _).trans (Ext.alloc _ _)
  have s1 : w1.heap.size = w.heap.size + 2 := by rw [← hw1]; simp
  have r1 : w1.heap[w.heap.size + 1]? = some (.cells #[.slice A1 bs.length c1, .slice A2 ws.length c2] 25 (0, 0)) := by rw [← hw1]; exact World.alloc_heap_at _ _ _ (by simp)
  clear hw1
  have J0 : AhR w w1.heap.size A1 c1 A2 c2 bs ws 0 w1 := ⟨A1, c1, A2, c2, bs, ws, r1, GoodD.refl hm0.out, .inl ⟨by omega, rfl, rfl, rfl, rfl, rfl, rfl⟩, Nat.le_refl _, x1⟩
  replace J0 := Lib.hid J0
  have hz1 := Lib.hid (show w.heap.size + 1 < w1.heap.size by omega)
  clear r1 s1
  go_wp2_with fail
  go_loopw [5, 13] (fun e i wr => ∃ k : Nat, k ≤ 3 ∧ i = .int .i64 (k : Int) ∧ AhR w w1.heap.size A1 c1 A2 c2 bs ws k wr) (fun _ i _ => 3 - (intOf i).toNat)
  case atStart => exact ⟨0, by omega, rfl, J0.out⟩
  case round =>
    clear J0
    obtain ⟨k, hk, hi, hR⟩ := hrel
    obtain ⟨D1, m1, D2, m2, bs', ws', hrow, hgood, hcase, hsz, hx⟩ := hR.ex
    have hsr := HSB.out wr hx
    have ksb := cells_row hsr
    have kd := cells_row hrow
    have fd := frozen_row hrow
    have zd := (Array.getElem?_eq_some_iff.1 hrow).1
    clear hR
    obtain rfl | rfl | rfl | rfl : k = 0 ∨ k = 1 ∨ k = 2 ∨ k = 3 := by omega
    · have hi2 : _ = Value.int .i64 0 := hi
      subst hi2
      obtain ⟨-, rfl, rfl, rfl, rfl, rfl, rfl⟩ : (0 ≤ 1 ∧ D1 = A1 ∧ m1 = c1 ∧ D2 = A2 ∧ m2 = c2 ∧ bs' = bs ∧ ws' = ws) := by
        rcases hcase with h | h
        · exact h
        · omega
      replace hgood := Lib.hid hgood
      replace hx := Lib.hid hx
      replace hsz := Lib.hid hsz
      clear hsr hcase
      go_wp2_with fail
      refine (H1.out wr).mono ?_
      rintro e w2 ⟨rfl, hB⟩
      have hx2 : Below w.heap.size w w2 := hx.out.trans (Below.mono hB hx.out.size)
      have hr2 := row_ext hrow hB
      have k2 := cells_row hr2
      have f2 := frozen_row hr2
      have z2 := (Array.getElem?_eq_some_iff.1 hr2).1
      have hs2 := Below.size hB
      have J1 : AhR w w1.heap.size D1 m1 D2 m2 bs' ws' 1 ((w2.setCell ⟨w.heap.size + 1, 0, none⟩ (.slice D1 bs'.length m1)).setCell ⟨w.heap.size + 1, 1, none⟩ (.slice D2 ws'.length m2)) := ⟨D1, m1, D2, m2, bs', ws', row_set (row_set hr2 0 _) 1 _, hgood.out, .inl ⟨by omega, rfl, rfl, rfl, rfl, rfl, rfl⟩, by simp; have := hsz.out; omega, below2 hx2 (Nat.le_succ _) _ _⟩
      replace J1 := Lib.hid J1
      clear hB kd fd zd hrow hx2 hr2
      go_wp2_with fail
      refine ⟨⟨1, by omega, rfl, J1.out⟩, ?_⟩
      simp [intOf]
    · have hi2 : _ = Value.int .i64 1 := hi
      subst hi2
      obtain ⟨-, rfl, rfl, rfl, rfl, rfl, rfl⟩ : (1 ≤ 1 ∧ D1 = A1 ∧ m1 = c1 ∧ D2 = A2 ∧ m2 = c2 ∧ bs' = bs ∧ ws' = ws) := by
        rcases hcase with h | h
        · exact h
        · omega
      have hrd := HD0.out wr hx
      have HBR := Lib.hid (HB.out D1 m1 D2 m2 bs' ws' hgood.1 wr hrd.1 hrd.2)
      have hg1 := Lib.hid (hgood.trans (GoodD.settle hgood.1))
      have hsm := Lib.hid (settle_may hgood.1)
      replace hx := Lib.hid hx
      replace hsz := Lib.hid hsz
      clear hsr hcase hrd hgood
      go_wp2_with fail
      refine HBR.out.mono ?_
      clear HBR
      rintro e w2 ⟨u, rfl, ⟨v, rfl, ⟨E1, e1, E2, e2, rfl, hzc⟩⟩, hB⟩
      have hx2 : Below w.heap.size w w2 := hx.out.trans (Below.mono hB hx.out.size)
      have hr2 := row_ext hrow hB
      have k2 := cells_row hr2
      have f2 := frozen_row hr2
      have z2 := (Array.getElem?_eq_some_iff.1 hr2).1
      have hs2 := Below.size hB
      have hz2 : DskZ wr.heap.size (diskV E1 (settleL bs' ws').length e1 E2 0 e2) (settleL bs' ws') [] w2 := ⟨E1, e1, E2, e2, rfl, hzc⟩
      clear hzc hB kd fd zd hrow
      generalize hsl : settleL bs' ws' = sl at *
      clear hsl
      obtain ⟨w3, hw3⟩ : ∃ w3, w3 = (w2.setCell ⟨w.heap.size + 1, 0, none⟩ (.slice E1 sl.length e1)).setCell ⟨w.heap.size + 1, 1, none⟩ (.slice E2 0 e2) := ⟨_, rfl⟩
      have hr3 : w3.heap[w.heap.size + 1]? = some (.cells #[.slice E1 sl.length e1, .slice E2 0 e2] 25 (0, 0)) := by rw [hw3]; exact row_set (row_set hr2 0 (.slice E1 sl.length e1)) 1 (.slice E2 0 e2)
      have hx3 : Below w.heap.size w w3 := by rw [hw3]; exact below2 hx2 (Nat.le_succ w.heap.size) (.slice E1 sl.length e1) (.slice E2 0 e2)
      have hz3 : DskZ wr.heap.size (diskV E1 sl.length e1 E2 0 e2) sl [] w3 := by rw [hw3]; exact hz2.keep (Nat.le_refl _) (by simp) fun k h1 h2 => other2 (show k ≠ w.heap.size + 1 by have := hsz.out; have := hz1.out; omega) _ _
      have hs3 : w3.heap.size = w2.heap.size := by rw [hw3]; simp
      have hrd3 : Bls w3 w3.heap.size (.slice E1 sl.length e1) sl ∧ Wrs w3 w3.heap.size (.slice E2 ([] : List (Int × List UInt8)).length e2) [] := by
        obtain ⟨_, _, _, _, e, h1, h2⟩ := hz3.at
        simp only [Value.agg.injEq, Array.mk.injEq, List.cons.injEq, Value.slice.injEq, and_true, true_and, List.length_nil] at e
        obtain ⟨⟨rfl, rfl⟩, rfl, rfl⟩ := e
        exact ⟨h1, h2⟩
      have HCL := Lib.hid (H2.out E1 e1 E2 e2 sl [] hsm.out w3 hrd3.1 hrd3.2 hx3)
      replace hw3 := Lib.hid hw3
      replace hr3 := Lib.hid hr3
      replace hx3 := Lib.hid hx3
      clear hrd3 hz3 hz2
      go_wp2_with fail
      rw [← hw3.out]
      clear hw3
      refine HCL.out.mono ?_
      clear HCL
      rintro e w4 ⟨u, rfl, hu, hB⟩
      have hx4 : Below w.heap.size w w4 := hx3.out.trans (Below.mono hB hx3.out.size)
      have hr4 := row_ext hr3.out hB
      have k4 := cells_row hr4
      have f4 := frozen_row hr4
      have z4 := (Array.getElem?_eq_some_iff.1 hr4).1
      have hs4 := Below.size hB
      have hu' := hu.from_ hg1.out
      clear hB hu k2 f2 z2 hr2 hr3 hx3 hx2
      rcases hu' with ⟨er, her, rfl⟩ | ⟨v, bs2, ws2, rfl, ⟨F1, f1, F2, f2, rfl, hz⟩, hg2⟩
      · have heb : (er != 0) = true := by rw [bne_iff_ne]; exact her
        replace her := Lib.hid her
        go_wp2_with fail
        exact ahead_ret (b := w.heap.size + 1) rfl rfl rfl (row_set (row_set (row_set (row_set hr4 0 _) 1 _) 0 _) 1 _) ⟨_, rfl, .inl ⟨er, her.out, rfl⟩, below2 (below2 hx4 (Nat.le_succ _) _ _) (Nat.le_succ _) _ _⟩
      · have hz4 : DskZ w3.heap.size (diskV F1 bs2.length f1 F2 ws2.length f2) bs2 ws2 w4 := ⟨F1, f1, F2, f2, rfl, hz⟩
        have J1 : AhR w w1.heap.size D1 m1 D2 m2 bs' ws' 2 ((w4.setCell ⟨w.heap.size + 1, 0, none⟩ (.slice F1 bs2.length f1)).setCell ⟨w.heap.size + 1, 1, none⟩ (.slice F2 ws2.length f2)) := ⟨F1, f1, F2, f2, bs2, ws2, row_set (row_set hr4 0 _) 1 _, hg2, .inr ⟨by omega, hz4.keep (by have := hsz.out; omega) (by simp) fun k h1 h2 => other2 (show k ≠ w.heap.size + 1 by have := hsz.out; have := hz1.out; omega) _ _⟩, by simp; have := hsz.out; omega, below2 hx4 (Nat.le_succ _) _ _⟩
        replace J1 := Lib.hid J1
        clear hz hz4 hr4 hx4
        go_wp2_with fail
        refine ⟨⟨2, by omega, rfl, J1.out⟩, ?_⟩
        simp [intOf]
    · have hi2 : _ = Value.int .i64 2 := hi
      subst hi2
      have hz : DskZ w1.heap.size (diskV D1 bs'.length m1 D2 ws'.length m2) bs' ws' wr := by
        rcases hcase with h | h
        · omega
        · exact h.2
      have hrd : Bls wr wr.heap.size (.slice D1 bs'.length m1) bs' ∧ Wrs wr wr.heap.size (.slice D2 ws'.length m2) ws' := by
        obtain ⟨_, _, _, _, e, h1, h2⟩ := hz.at
        simp only [Value.agg.injEq, Array.mk.injEq, List.cons.injEq, Value.slice.injEq, and_true, true_and] at e
        obtain ⟨⟨rfl, rfl⟩, rfl, rfl⟩ := e
        exact ⟨h1, h2⟩
      clear hz
      have HBR := Lib.hid (HB.out D1 m1 D2 m2 bs' ws' hgood.1 wr hrd.1 hrd.2)
      have hg1 := Lib.hid (hgood.trans (GoodD.settle hgood.1))
      have hsm := Lib.hid (settle_may hgood.1)
      replace hx := Lib.hid hx
      replace hsz := Lib.hid hsz
      clear hsr hcase hrd hgood
      go_wp2_with fail
      refine HBR.out.mono ?_
      clear HBR
      rintro e w2 ⟨u, rfl, ⟨v, rfl, ⟨E1, e1, E2, e2, rfl, hzc⟩⟩, hB⟩
      have hx2 : Below w.heap.size w w2 := hx.out.trans (Below.mono hB hx.out.size)
      have hr2 := row_ext hrow hB
      have k2 := cells_row hr2
      have f2 := frozen_row hr2
      have z2 := (Array.getElem?_eq_some_iff.1 hr2).1
      have hs2 := Below.size hB
      have hz2 : DskZ wr.heap.size (diskV E1 (settleL bs' ws').length e1 E2 0 e2) (settleL bs' ws') [] w2 := ⟨E1, e1, E2, e2, rfl, hzc⟩
      clear hzc hB kd fd zd hrow
      generalize hsl : settleL bs' ws' = sl at *
      clear hsl
      obtain ⟨w3, hw3⟩ : ∃ w3, w3 = (w2.setCell ⟨w.heap.size + 1, 0, none⟩ (.slice E1 sl.length e1)).setCell ⟨w.heap.size + 1, 1, none⟩ (.slice E2 0 e2) := ⟨_, rfl⟩
      have hr3 : w3.heap[w.heap.size + 1]? = some (.cells #[.slice E1 sl.length e1, .slice E2 0 e2] 25 (0, 0)) := by rw [hw3]; exact row_set (row_set hr2 0 (.slice E1 sl.length e1)) 1 (.slice E2 0 e2)
      have hx3 : Below w.heap.size w w3 := by rw [hw3]; exact below2 hx2 (Nat.le_succ w.heap.size) (.slice E1 sl.length e1) (.slice E2 0 e2)
      have hz3 : DskZ wr.heap.size (diskV E1 sl.length e1 E2 0 e2) sl [] w3 := by rw [hw3]; exact hz2.keep (Nat.le_refl _) (by simp) fun k h1 h2 => other2 (show k ≠ w.heap.size + 1 by have := hsz.out; have := hz1.out; omega) _ _
      have hs3 : w3.heap.size = w2.heap.size := by rw [hw3]; simp
      have hrd3 : Bls w3 w3.heap.size (.slice E1 sl.length e1) sl ∧ Wrs w3 w3.heap.size (.slice E2 ([] : List (Int × List UInt8)).length e2) [] := by
        obtain ⟨_, _, _, _, e, h1, h2⟩ := hz3.at
        simp only [Value.agg.injEq, Array.mk.injEq, List.cons.injEq, Value.slice.injEq, and_true, true_and, List.length_nil] at e
        obtain ⟨⟨rfl, rfl⟩, rfl, rfl⟩ := e
        exact ⟨h1, h2⟩
      have HCL := Lib.hid (H3.out E1 e1 E2 e2 sl [] hsm.out w3 hrd3.1 hrd3.2 hx3)
      replace hw3 := Lib.hid hw3
      replace hr3 := Lib.hid hr3
      replace hx3 := Lib.hid hx3
      clear hrd3 hz3 hz2
      go_wp2_with fail
      rw [← hw3.out]
      clear hw3
      refine HCL.out.mono ?_
      clear HCL
      rintro e w4 ⟨u, rfl, hu, hB⟩
      have hx4 : Below w.heap.size w w4 := hx3.out.trans (Below.mono hB hx3.out.size)
      have hr4 := row_ext hr3.out hB
      have k4 := cells_row hr4
      have f4 := frozen_row hr4
      have z4 := (Array.getElem?_eq_some_iff.1 hr4).1
      have hs4 := Below.size hB
      have hu' := hu.from_ hg1.out
      clear hB hu k2 f2 z2 hr2 hr3 hx3 hx2
      rcases hu' with ⟨er, her, rfl⟩ | ⟨v, bs2, ws2, rfl, ⟨F1, f1, F2, f2, rfl, hz⟩, hg2⟩
      · have heb : (er != 0) = true := by rw [bne_iff_ne]; exact her
        replace her := Lib.hid her
        go_wp2_with fail
        exact ahead_ret (b := w.heap.size + 1) rfl rfl rfl (row_set (row_set (row_set (row_set hr4 0 _) 1 _) 0 _) 1 _) ⟨_, rfl, .inl ⟨er, her.out, rfl⟩, below2 (below2 hx4 (Nat.le_succ _) _ _) (Nat.le_succ _) _ _⟩
      · have hz4 : DskZ w3.heap.size (diskV F1 bs2.length f1 F2 ws2.length f2) bs2 ws2 w4 := ⟨F1, f1, F2, f2, rfl, hz⟩
        have J1 : AhR w w1.heap.size A1 c1 A2 c2 bs ws 3 ((w4.setCell ⟨w.heap.size + 1, 0, none⟩ (.slice F1 bs2.length f1)).setCell ⟨w.heap.size + 1, 1, none⟩ (.slice F2 ws2.length f2)) := ⟨F1, f1, F2, f2, bs2, ws2, row_set (row_set hr4 0 _) 1 _, hg2, .inr ⟨by omega, hz4.keep (by have := hsz.out; omega) (by simp) fun k h1 h2 => other2 (show k ≠ w.heap.size + 1 by have := hsz.out; have := hz1.out; omega) _ _⟩, by simp; have := hsz.out; omega, below2 hx4 (Nat.le_succ _) _ _⟩
        replace J1 := Lib.hid J1
        clear hz hz4 hr4 hx4
        go_wp2_with fail
        refine ⟨⟨3, by omega, rfl, J1.out⟩, ?_⟩
        simp [intOf]
    · have hi2 : _ = Value.int .i64 3 := hi
      subst hi2
      have hz : DskZ w1.heap.size (diskV D1 bs'.length m1 D2 ws'.length m2) bs' ws' wr := by
        rcases hcase with h | h
        · omega
        · exact h.2
      replace hz := Lib.hid hz
      replace hgood := Lib.hid hgood
      replace hx := Lib.hid hx
      clear hsr hcase
      go_wp2_with fail
      have hk := fun (k : Nat) (h1 : w1.heap.size ≤ k) => other2 (w := wr) (b := w.heap.size + 1) (show k ≠ w.heap.size + 1 by have := hz1.out; omega) (.slice D1 bs'.length m1) (.slice D2 ws'.length m2)
      exact ahead_ret (b := w.heap.size + 1) rfl rfl rfl (row_set (row_set hrow 0 _) 1 _) ⟨_, rfl, .inr ⟨_, bs', ws', rfl, hz.out.keep (by have := hz1.out; omega) (by simp) fun k h1 h2 => hk k h1, hgood.out⟩, below2 hx.out (Nat.le_succ _) _ _⟩
end Go.Proofs.Ytlgbjpihmkeopaa
/- Contracts: is a number among numbers? -/
namespace Go.Proofs.Ytlgbjpihmkeopaa
set_option linter.unusedSimpArgs false
set_option linter.unusedVariables false
open Go.RowKit

end Go.Proofs.Ytlgbjpihmkeopaa
/- Contracts: what is wrong with a block that has to be a data block. -/
namespace Go.Proofs.Ytlgbjpihmkeopaa
set_option linter.unusedSimpArgs false
set_option linter.unusedVariables false
open Go.RowKit

end Go.Proofs.Ytlgbjpihmkeopaa
/- Contracts: a block that is referred to once less. -/
namespace Go.Proofs.Ytlgbjpihmkeopaa
set_option linter.unusedSimpArgs false
set_option linter.unusedVariables false
open Go.RowKit

end Go.Proofs.Ytlgbjpihmkeopaa
/- Contracts: a pool's block that is referred to once more, or once less. -/
namespace Go.Proofs.Ytlgbjpihmkeopaa
set_option linter.unusedSimpArgs false
set_option linter.unusedVariables false
open Go.RowKit

abbrev pool0 : Value := .agg (poolCs (.slice none 0 0) (.slice none 0 0) (.slice none 0 0) (.slice none 0 0) 0 0 0 (.slice none 0 0))
def NewPl (lo : Nat) (S : Sto) (gen root next : Int) (dead : List Int) (u : Value) (W : World) : Prop := ∃ A1 c1 A2 c2 A3 c3 A4 c4 A5 c5, u = .agg (poolCs (.slice A1 S.bs.length c1) (.slice A2 S.ws.length c2) (.slice A3 S.now.length c3) (.slice A4 S.last.length c4) gen root next (.slice A5 dead.length c5)) ∧
  ∀ C : World, PosZ lo W C → StoAt C W.heap.size (.slice A1 S.bs.length c1) (.slice A2 S.ws.length c2) (.slice A3 S.now.length c3) (.slice A4 S.last.length c4) S ∧ Ints C W.heap.size (.slice A5 dead.length c5) dead
theorem Rd.pos {w C : World} {B size lo n c : Nat} {A : Option Addr} {xs : List Value} (h : Rd w B size A n xs) (hf : From lo (.slice A n c)) (hk : ∀ (q : Addr) (v : Value), lo ≤ q.block → q.block < B → w.cell? q = some v → C.cell? q = some v) : Rd C B size A n xs :=
  ⟨h.1, fun hn => by
    obtain ⟨b, off, rfl, hb, hc⟩ := h.2 hn
    exact ⟨b, off, rfl, hb, fun j u hu => hk _ _ (hf ⟨b, off, none⟩ n c rfl) hb (hc j u hu)⟩⟩
theorem Ints.pos {w C : World} {B lo : Nat} {v : Value} {l : List Int} (h : Ints w B v l) (hf : From lo v) (hk : ∀ (q : Addr) (v : Value), lo ≤ q.block → q.block < B → w.cell? q = some v → C.cell? q = some v) : Ints C B v l := by
  obtain ⟨A, c, e, hc, hm, hr⟩ := h
  subst e
  exact ⟨A, c, rfl, hc, hm, Rd.pos hr hf hk⟩
theorem TwinT.newSto {lo : Nat} {S : Sto} {u : Value} {W : World} (h : TwinT lo S u W) (hS : Short S) : NewSto lo S u W := by
  obtain ⟨BB, WW, g, A3, c3, A4, c4, e, h1, h2, h3⟩ := h
  refine ⟨_, _, _, _, A3, c3, A4, c4, e, pos_of_eq (W := thaw W) (Φ := fun C => StoAt C W.heap.size _ _ _ _ S) (fun A C hAC hA => hA.some_ hAC) fun W2 hk => ?_⟩
  obtain ⟨k1, k2⟩ := h1.readsT hS.bs hS.ws hS.be hS.we W2 hk
  exact ⟨k1, k2, (Bys.of_ownT h2).keepN (From.of_own h2) hk, (Bys.of_ownT h3).keepN (From.of_own h3) hk⟩
theorem Ints.of_ownT {w : World} {base : Nat} {v : Value} {l : List Int} (h : w.ownsRow base 3 1 v l.length (rowI l)) : Ints (thaw w) w.heap.size v l := by
  obtain ⟨A, c, e, hc, hm, hr⟩ := Ints.of_own h
  refine ⟨A, c, e, hc, hm, hr.1, fun hn => ?_⟩
  obtain ⟨b, off, e2, hb, hcs⟩ := hr.2 hn
  obtain ⟨cs, t, hrow⟩ := Thaw.of_own h ⟨b, off, none⟩ l.length c (by rw [e, e2]) hn
  exact ⟨b, off, e2, hb, fun j u hu => (thaw_cell hrow _).trans (hcs j u hu)⟩
def outN (lo n : Nat) (l : List Int) : Outs := ⟨Option Addr × Nat, fun p => .slice p.1 n p.2, fun p W => Ints (thaw W) W.heap.size (.slice p.1 n p.2) l ∧ From lo (.slice p.1 n p.2)⟩
theorem outN_f (lo n : Nat) (l : List Int) (A : Option Addr) (c : Nat) : (outN lo n l).f (A, c) = .slice A n c := rfl
theorem outN_stable (lo n : Nat) (l : List Int) : ∀ p, Stable ((outN lo n l).φ p) := fun p W W' he h => ⟨by
  have h1 := h.1
  rw [← thaw_size W] at h1
  have h2 := h1.ext_ (Ext.thaw he)
  rw [thaw_size] at h2
  exact h2, h.2⟩
end Go.Proofs.Ytlgbjpihmkeopaa
/- Contracts: a pool's twin, in new memory. -/
namespace Go.Proofs.Ytlgbjpihmkeopaa
set_option linter.unusedSimpArgs false
set_option linter.unusedVariables false
open Go.RowKit

def outNS (lo : Nat) (S : Sto) : Outs := ⟨Option Addr × Nat × Option Addr × Nat × Option Addr × Nat × Option Addr × Nat, fun p => storeV p.1 S.bs.length p.2.1 p.2.2.1 S.ws.length p.2.2.2.1 p.2.2.2.2.1 S.now.length p.2.2.2.2.2.1 p.2.2.2.2.2.2.1 S.last.length p.2.2.2.2.2.2.2, fun p W => ∀ C : World, PosZ lo W C → StoAt C W.heap.size (.slice p.1 S.bs.length p.2.1) (.slice p.2.2.1 S.ws.length p.2.2.2.1) (.slice p.2.2.2.2.1 S.now.length p.2.2.2.2.2.1) (.slice p.2.2.2.2.2.2.1 S.last.length p.2.2.2.2.2.2.2) S⟩
theorem outNS_f (lo : Nat) (S : Sto) (A : Option Addr) (a : Nat) (B : Option Addr) (b : Nat) (C : Option Addr) (c : Nat) (D : Option Addr) (d : Nat) : (outNS lo S).f (A, a, B, b, C, c, D, d) = storeV A S.bs.length a B S.ws.length b C S.now.length c D S.last.length d := rfl
theorem outNS_stable (lo : Nat) (S : Sto) : ∀ p, Stable ((outNS lo S).φ p) := fun p W W' he h C hC => (h C fun q v h1 h2 h3 => hC q v h1 (Nat.lt_of_lt_of_le h2 he.size) ((Below.thaw he h2).trans h3)).more he.size
theorem ptwin_ret {R : Ending → World → Prop} {a : Act} {W : World} {b : Nat} {x0 x1 x2 x3 x4 x5 x6 x7 : Value} (h4 : a.tmps[2]?.getD undef = .pointer (some ⟨b, 0, none⟩)) (hd : a.defers = [])
    (hrow : W.heap[b]? = some (.cells #[x0, x1, x2, x3, x4, x5, x6, x7] 32 (0, 0))) (hR : R (.returned (.agg #[x0, x1, x2, x3, x4, x5, x6, x7])) W) : bodyPost Try.prog Try.f36 R .ret a W := by
  refine bodyPost_ret (v := .agg #[x0, x1, x2, x3, x4, x5, x6, x7]) ?_ hd hR
  have k := cells_row hrow
  simp [results, Try.results36, go_sem, h4, k]
set_option maxHeartbeats 4000000 in
set_option maxRecDepth 100000 in
theorem ptwin_any (A1 : Option Addr) (n1 c1 : Nat) (A2 : Option Addr) (n2 c2 : Nat) (A3 : Option Addr) (n3 c3 : Nat) (A4 : Option Addr) (n4 c4 : Nat) (gen root next : Int) (A5 : Option Addr) (c5 : Nat) (S : Sto) (dead : List Int) (hS : Short S) (hdl : dead.length < 1000000) (w : World)
    (h : StoAt w w.heap.size (.slice A1 n1 c1) (.slice A2 n2 c2) (.slice A3 n3 c3) (.slice A4 n4 c4) S) (hd : Ints w w.heap.size (.slice A5 dead.length c5) dead) :
    Calls Try.prog 36 #[.agg (poolCs (.slice A1 n1 c1) (.slice A2 n2 c2) (.slice A3 n3 c3) (.slice A4 n4 c4) gen root next (.slice A5 dead.length c5))] w (RetS (NewPl w.heap.size S gen root next dead) w) := by
  have HT := Lib.hid (fun W (hx : Ext w W) => rtwin_any A1 n1 c1 A2 n2 c2 A3 n3 c3 A4 n4 c4 S hS W (h.ext hx))
  have HI := Lib.hid (fun W (hx : Ext w W) => iclone_any (.slice A5 dead.length c5) dead (by omega) W (hd.ext_ hx))
  clear h hd
  go_enter Try.func36, Try.ntmps36
  go_wp2_with fail
  generalize hw1 : (World.alloc (World.alloc _ _) _) = w1
  have x1 : Ext w w1 := by rw [← hw1]; exact (Ext.alloc _ _).trans (Ext.alloc _ _)
  have s1 : w1.heap.size = w.heap.size + 2 := by rw [← hw1]; simp
  have rp1 : w1.heap[w.heap.size]? = some (.cells (poolCs (.slice A1 n1 c1) (.slice A2 n2 c2) (.slice A3 n3 c3) (.slice A4 n4 c4) gen root next (.slice A5 dead.length c5)) 32 (0, 0)) := by rw [← hw1]; exact (Below.heap_alloc _ _ _ (by simp)).trans (World.alloc_heap_at _ _ _ rfl)
  have ro1 : w1.heap[w.heap.size + 1]? = some (.cells (poolCs (.slice none 0 0) (.slice none 0 0) (.slice none 0 0) (.slice none 0 0) 0 0 0 (.slice none 0 0)) 32 (0, 0)) := by rw [← hw1]; exact World.alloc_heap_at _ _ _ (by simp)
  clear hw1
  have gP : ∀ W, Ext w1 W → ∀ i, W.cell? ⟨w.heap.size, i, none⟩ = (poolCs (.slice A1 n1 c1) (.slice A2 n2 c2) (.slice A3 n3 c3) (.slice A4 n4 c4) gen root next (.slice A5 dead.length c5))[i]? := fun W h => cells_row (row_ext rp1 h)
  have hsh := Lib.hid hS
  clear hS
  refine wp_region_free (outsAt [(2, outNS w1.heap.size S), (5, outN w1.heap.size dead.length dead)]) 7 (by kernel_rfl) (by kernel_rfl) (by kernel_rfl) (by decide) (by kernel_rfl) (by kernel_rfl) ?st ?walk
  case st => exact outsAt_stable (by simp only [List.forall_mem_cons]; exact ⟨outNS_stable _ _, outN_stable _ _ _, fun _ h => by cases h⟩)
  case walk =>
    intro K hK
    dsimp only [List.take]
    repeat ((first | (refine free_plain ?_ (by rfl) (by rfl) (fun W hW _ => ⟨W, ?_, Ext.refl W⟩) ?_; rotate_left; (first | (go_simp; with_reducible rfl) | (go_simp; done))) | (refine free_skip (by rfl) ?_)); try simp only [Act.put, one_f, outB_f, outNew_f, outI_f, outN_f, outNS_f, List.setIfInBounds_toArray, List.set_cons_zero, List.set_cons_succ])
    refine free_hard (outNS w1.heap.size S) (by rfl) (by rfl) (fun W hW _ => ?_) (fun p => ?_)
    · refine hardAt_call ?_ ((HT.out W (x1.trans hW)).mono fun e w' h => ?_)
      · go_simp
      obtain ⟨u, rfl, hu, hB⟩ := h
      obtain ⟨B1, d1, B2, d2, B3, d3, B4, d4, rfl, hc⟩ := hu.newSto hsh.out
      refine ⟨(B1, d1, B2, d2, B3, d3, B4, d4), rfl, fun C hC => hc C fun q v h1 h2 h3 => hC q v (Nat.le_trans hW.size h1) h2 h3, hB⟩
    obtain ⟨B1, d1, B2, d2, B3, d3, B4, d4⟩ := p
    simp only [Act.put, one_f, outB_f, outNew_f, outI_f, outN_f, outNS_f, List.setIfInBounds_toArray, List.set_cons_zero, List.set_cons_succ]
    repeat ((first | (refine free_plain ?_ (by rfl) (by rfl) (fun W hW _ => ⟨W, ?_, Ext.refl W⟩) ?_; rotate_left; (first | (go_simp; with_reducible rfl) | (go_simp; done))) | (refine free_skip (by rfl) ?_)); try simp only [Act.put, one_f, outB_f, outNew_f, outI_f, outN_f, outNS_f, List.setIfInBounds_toArray, List.set_cons_zero, List.set_cons_succ])
    refine free_hard (outN w1.heap.size dead.length dead) (by rfl) (by rfl) (fun W hW _ => ?_) (fun p => ?_)
    · refine hardAt_call ?_ ((HI.out W (x1.trans hW)).mono fun e w' h => ?_)
      · go_simp
      obtain ⟨u, rfl, hu, hB⟩ := h
      obtain ⟨A', c', rfl, _, _⟩ := own_slice hu
      exact ⟨(A', c'), rfl, ⟨Ints.of_ownT hu, (From.of_own hu).mono hW.size⟩, hB⟩
    obtain ⟨B5, d5⟩ := p
    simp only [Act.put, one_f, outB_f, outNew_f, outI_f, outN_f, outNS_f, List.setIfInBounds_toArray, List.set_cons_zero, List.set_cons_succ]
    repeat ((first | (refine free_plain ?_ (by rfl) (by rfl) (fun W hW _ => ⟨W, ?_, Ext.refl W⟩) ?_; rotate_left; (first | (go_simp; with_reducible rfl) | (go_simp; done))) | (refine free_skip (by rfl) ?_)); try simp only [Act.put, one_f, outB_f, outNew_f, outI_f, outN_f, outNS_f, List.setIfInBounds_toArray, List.set_cons_zero, List.set_cons_succ])
    refine free_nil (hK _ _ fun W hW hF => ?_)
    have hs : ∀ C : World, PosZ w1.heap.size W C → StoAt C W.heap.size (.slice B1 S.bs.length d1) (.slice B2 S.ws.length d2) (.slice B3 S.now.length d3) (.slice B4 S.last.length d4) S := (hF 2).1
    have hI : Ints (thaw W) W.heap.size (.slice B5 dead.length d5) dead ∧ From w1.heap.size (.slice B5 dead.length d5) := (hF 5).1
    clear hF hK gP
    dsimp only [List.drop]
    have rp := row_ext rp1 hW
    have ro := row_ext ro1 hW
    have kp := cells_row rp
    have fp := frozen_row rp
    have ko := cells_row ro
    have fo := frozen_row ro
    have zW := Below.size hW
    have zo : w.heap.size + 1 < W.heap.size := (Array.getElem?_eq_some_iff.1 ro).1
    have zp : w.heap.size < W.heap.size := by omega
    have xW : Ext w W := x1.trans hW
    replace hs := Lib.hid hs
    replace hI := Lib.hid hI
    clear hW HT HI
    go_wp2_with fail
    generalize hWp : (((((W.setCell ⟨w.heap.size, 0, none⟩ _).setCell ⟨w.heap.size, 1, none⟩ _).setCell ⟨w.heap.size, 2, none⟩ _).setCell ⟨w.heap.size, 3, none⟩ _).setCell ⟨w.heap.size, 7, none⟩ _) = Wp
    have hop : ∀ k, k ≠ w.heap.size → Wp.heap[k]? = W.heap[k]? := fun k hk => by rw [← hWp, Below.heap_setCell _ _ _ _ hk, Below.heap_setCell _ _ _ _ hk, Below.heap_setCell _ _ _ _ hk, Below.heap_setCell _ _ _ _ hk, Below.heap_setCell _ _ _ _ hk]
    have zp2 : Wp.heap.size = W.heap.size := by rw [← hWp]; simp
    have xp : Below w.heap.size w Wp := by rw [← hWp]; exact Below.setCell (below4 xW (b := w.heap.size) (Nat.le_refl _) _ _ _ _) (p := ⟨w.heap.size, 7, none⟩) (Nat.le_refl _) _
    clear hWp
    have rop : Wp.heap[w.heap.size + 1]? = _ := (hop _ (by omega)).trans ro
    refine ptwin_ret (b := w.heap.size + 1) rfl rfl (row8 rop _ _ _ _ _ _ _ _) ⟨_, rfl, ⟨B1, d1, B2, d2, B3, d3, B4, d4, B5, d5, rfl, fun C hC => ?_⟩, below8 xp (by omega) _ _ _ _ _ _ _ _⟩
    have hsz : ((((((((Wp.setCell ⟨w.heap.size + 1, 0, none⟩ (.slice B1 S.bs.length d1)).setCell ⟨w.heap.size + 1, 1, none⟩ (.slice B2 S.ws.length d2)).setCell ⟨w.heap.size + 1, 2, none⟩ (.slice B3 S.now.length d3)).setCell ⟨w.heap.size + 1, 3, none⟩ (.slice B4 S.last.length d4)).setCell ⟨w.heap.size + 1, 4, none⟩ (.int .u32 gen)).setCell ⟨w.heap.size + 1, 5, none⟩ (.int .i64 root)).setCell ⟨w.heap.size + 1, 6, none⟩ (.int .u32 next)).setCell ⟨w.heap.size + 1, 7, none⟩ (.slice B5 dead.length d5)).heap.size = W.heap.size := by simp [zp2]
    rw [hsz]
    have hsame := fun (k : Nat) (hk : w.heap.size + 1 < k) => (other8 (w := Wp) (show k ≠ w.heap.size + 1 by omega) (.slice B1 S.bs.length d1) (.slice B2 S.ws.length d2) (.slice B3 S.now.length d3) (.slice B4 S.last.length d4) (.int .u32 gen) (.int .i64 root) (.int .u32 next) (.slice B5 dead.length d5)).trans (hop k (by omega))
    exact ⟨hs.out C fun q v h1 h2 h3 => hC q v (by omega) (by rw [hsz]; omega) ((thaw_of_block (hsame q.block (by omega))).trans h3), hI.out.1.pos hI.out.2 (C := C) fun q v h1 h2 h3 => hC q v (by omega) (by rw [hsz]; omega) ((thaw_of_block (hsame q.block (by omega))).trans h3)⟩
end Go.Proofs.Ytlgbjpihmkeopaa
/- A region that draws its order: an operation that reads no memory is done ahead of another that needn't wait for it. -/
namespace Go.Proofs.Ytlgbjpihmkeopaa
set_option linter.unusedSimpArgs false
set_option linter.unusedVariables false
open Go.RowKit

def addE (z : Nat) : Nat → List Oper → List Oper
  | _, [] => []
  | 0, o :: l => { o with after := o.after.push ⟨z, .data⟩ } :: l
  | y + 1, o :: l => o :: addE z y l
theorem addE_get (z : Nat) : ∀ (y : Nat) (l : List Oper) (i : Nat), (addE z y l)[i]? = (l[i]?).map fun o => if i = y then { o with after := o.after.push ⟨z, .data⟩ } else o
  | y, [], i => by cases y <;> simp [addE]
  | 0, o :: l, i => by
    cases i with
    | zero => simp [addE]
    | succ i => simp [addE]
  | y + 1, o :: l, i => by
    cases i with
    | zero => simp [addE]
    | succ i => simp [addE, addE_get z y l i]
section
variable {P : Program} {l : List Oper} {z y : Nat}
theorem addE_yielded (tmps : Array Value) : yielded (addE z y l).toArray tmps = yielded l.toArray tmps := by
  funext j
  unfold yielded
  have : (((addE z y l).toArray[j]?).bind (·.dst)) = ((l.toArray[j]?).bind (·.dst)) := by
    simp only [List.getElem?_toArray, addE_get]
    cases l[j]? with
    | none => rfl
    | some o => simp only [Option.map_some, Option.bind_some]; split <;> rfl
  rw [this]
theorem wpOp_addE {Q : Exit → Act → World → Prop} {i : Nat} {K : Act → World → Prop} {a : Act} {w : World} (h : wpOp P (addE z y l).toArray Q i K a w) : wpOp P l.toArray Q i K a w := by
  unfold wpOp at *
  rw [addE_yielded] at h
  simp only [List.getElem?_toArray, addE_get] at h ⊢
  cases ho : l[i]? with
  | none => rw [ho] at h; exact h
  | some o =>
    rw [ho] at h
    simp only [Option.map_some] at h ⊢
    split at h
    · exact h
    · exact h
theorem ready_addE {listed : Array Bool} {i : Nat} (h : i ∈ Region.ready .any l.toArray listed) (hi : i ≠ y ∨ listed.getD z false = true) : i ∈ Region.ready .any (addE z y l).toArray listed := by
  obtain ⟨h1, o, ho, ha⟩ := mem_ready.1 h
  simp only [List.getElem?_toArray] at ho
  refine mem_ready.2 ⟨h1, if i = y then { o with after := o.after.push ⟨z, .data⟩ } else o, by simp [addE_get, ho], fun e he hb => ?_⟩
  split at he
  · rename_i hy
    rcases Array.mem_push.1 he with he | he
    · exact ha e he hb
    · rcases hi with hi | hi
      · exact absurd hy hi
      · rw [he]; exact hi
  · exact ha e he hb
theorem ready_of_addE {listed : Array Bool} {i : Nat} (h : i ∈ Region.ready .any (addE z y l).toArray listed) : i ∈ Region.ready .any l.toArray listed := by
  obtain ⟨h1, o', ho, ha⟩ := mem_ready.1 h
  simp only [List.getElem?_toArray, addE_get, Option.map_eq_some_iff] at ho
  obtain ⟨o, ho, rfl⟩ := ho
  refine mem_ready.2 ⟨h1, o, by simpa using ho, fun e he hb => ha e ?_ hb⟩
  split
  · exact Array.mem_push.2 (.inl he)
  · exact he
def underB (oz oy : Oper) : Bool := oz.after.toList.all fun e => !Region.binds .any e || oy.after.toList.any fun e' => Region.binds .any e' && e'.on == e.on
def listedOf (oz : Oper) (n : Nat) : Array Bool := ((List.range n).map fun j => oz.after.toList.any fun e => Region.binds .any e && e.on == j).toArray
def Pure (P : Program) (oz : Oper) : Prop := ∀ a : Act, (∃ v, ∀ W, (execOp a.eval oz).run P W = .ok (.value v) W) ∨ (∀ W, ∃ x w', (execOp a.eval oz).run P W = .halt x w')
theorem any_edge_aux {Q : Exit → Act → World → Prop} {oz oy : Oper} (hzy : z ≠ y) (hz : l.toArray[z]? = some oz) (hy : l.toArray[y]? = some oy) (hs : ∀ (j : Nat) (o : Oper) cs b, l.toArray[j]? = some o → o.op ≠ .select cs b)
    (hg : oz.guard = none) (hf : ∀ j oj, l.toArray[j]? = some oj → j ≠ z → (∀ e ∈ oz.after, Region.binds .any e = true → e.on ≠ j) → (∀ e ∈ oj.after, Region.binds .any e = true → e.on ≠ z) → oz.apart l.toArray oj = true) (hu : underB oz oy = true) (hp : Pure P oz) :
    ∀ (fuel : Nat) (listed : Array Bool) (a : Act) (W : World), listed.size = l.length → wpAny P .any (addE z y l).toArray (QN Q) fuel listed a W → wpAny P .any l.toArray (QN Q) fuel listed a W := by
  have zready : ∀ listed : Array Bool, listed.size = l.length → y ∈ Region.ready .any l.toArray listed → listed.getD z false = false → z ∈ Region.ready .any l.toArray listed := by
    intro listed hsz hr h0
    obtain ⟨_, o, ho, ha⟩ := mem_ready.1 hr
    rw [hy] at ho
    cases ho
    have hzl : z < l.length := by
      simp only [List.getElem?_toArray] at hz
      exact (List.getElem?_eq_some_iff.1 hz).1
    refine mem_ready.2 ⟨?_, oz, hz, fun e he hb => ?_⟩
    · have hzl' : z < listed.size := by omega
      simp [hzl'] at h0 ⊢
      exact h0
    · have := List.all_eq_true.1 hu e (by simpa using he)
      rw [hb] at this
      simp only [Bool.not_true, Bool.false_or, List.any_eq_true, Bool.and_eq_true, beq_iff_eq] at this
      obtain ⟨e', he', hb', heq⟩ := this
      rw [← heq]
      exact ha e' (by simpa using he') hb'
  have bad : ∀ (listed : Array Bool) (k : Nat), listed.getD k true = false → listed.getD k false = true → False := fun listed k h0 h1 => by
    rcases Nat.lt_or_ge k listed.size with h' | h'
    · simp [h'] at h0 h1; rw [h0] at h1; cases h1
    · simp [Array.getElem?_eq_none h'] at h1
  intro fuel
  induction fuel with
  | zero =>
    intro listed a W hsz h
    refine ⟨?_, h.2⟩
    rw [List.eq_nil_iff_forall_not_mem]
    intro i hi
    by_cases hiy : i = y
    · subst hiy
      by_cases h0 : listed.getD z false = true
      · have := ready_addE (y := i) hi (.inr h0)
        rw [h.1] at this; cases this
      · have := ready_addE (z := z) (y := i) (zready listed hsz hi (by simpa using h0)) (.inl hzy)
        rw [h.1] at this; cases this
    · have := ready_addE (z := z) (y := y) hi (.inl hiy)
      rw [h.1] at this; cases this
  | succ fuel ih =>
    intro listed a W hsz h
    have sz2 : ∀ i, (listed.setIfInBounds i true).size = l.length := fun i => by simpa using hsz
    by_cases hzr : z ∈ Region.ready .any l.toArray listed
    · have hi2 := wpOp_addE (h.2 z (ready_addE hzr (.inl hzy)))
      have hw : Region.wanted oz (yielded l.toArray a.tmps) = true := by unfold Region.wanted; rw [hg]
      unfold wpOp at hi2
      simp only [hz, hw, if_true] at hi2
      rcases hi2 with hi2 | ⟨_, hi2⟩
      · unfold Oper.wp at hi2
        rcases hp a with ⟨v, hv⟩ | hv
        · rw [hv] at hi2
          obtain ⟨_, o', ho', hall⟩ := mem_ready.1 hzr
          rw [hz] at ho'
          cases ho'
          exact wpAny_pure hz hs fuel listed a W (fun j oj hj hjz hju hno => hf j oj hj hjz (fun e he hb heq => bad listed j hju (heq ▸ hall e he hb)) hno) hzr hw hv (ih _ _ _ (sz2 z) hi2)
        · obtain ⟨x, w', he⟩ := hv W
          rw [he] at hi2
          cases x <;> simp only [Oper.upon] at hi2 <;> exact False.elim hi2
      · exact absurd hi2 not_letsOut
    · refine ⟨fun h0 => h.1 ?_, fun i hi => ?_⟩
      · rw [List.eq_nil_iff_forall_not_mem]
        intro i hi
        have := ready_of_addE hi
        rw [h0] at this; cases this
      · have hi' : i ∈ Region.ready .any (addE z y l).toArray listed := by
          refine ready_addE hi ?_
          by_cases hiy : i = y
          · subst hiy
            refine .inr ?_
            by_cases h0 : listed.getD z false = true
            · exact h0
            · exact absurd (zready listed hsz hi (by simpa using h0)) hzr
          · exact .inl hiy
        exact wpOp_mono (fun a' w' hh => ih _ a' w' (sz2 i) hh) (wpOp_addE (h.2 i hi'))
theorem any_edge {Q : Exit → Act → World → Prop} {a : Act} {W : World} (z y : Nat) {oz oy : Oper} (hzy : z ≠ y) (hz : l.toArray[z]? = some oz) (hy : l.toArray[y]? = some oy) (hs : Region.noSelect l.toArray = true)
    (hg : oz.guard = none) (hf : Region.free .any l.toArray (listedOf oz l.length) z = true) (hu : underB oz oy = true) (hp : Pure P oz)
    (h : wpAny P .any (addE z y l).toArray (QN Q) l.length (Array.replicate l.length false) a W) : wpAny P .any l.toArray (QN Q) l.length (Array.replicate l.length false) a W := by
  refine any_edge_aux hzy hz hy (Region.noSelect_spec hs) hg (fun j oj hj hjz hoz hno => Region.free_spec hz hf j oj hj hjz ?_ hno) hu hp _ _ _ _ (by simp) h
  simp only [List.getElem?_toArray] at hj
  have hjl := (List.getElem?_eq_some_iff.1 hj).1
  have : (listedOf oz l.length).getD j true = (oz.after.toList.any fun e => Region.binds .any e && e.on == j) := by simp [listedOf, hjl]
  rw [this, List.any_eq_false]
  intro e he
  cases hb : Region.binds .any e with
  | false => simp
  | true => simpa using hoz e (by simpa using he) hb
end
theorem pure_extract {P : Program} {oz : Oper} {t : Operand} {k : Nat} (h : oz.op = .extract t k) : Pure P oz := by
  intro a
  cases oz
  simp only at h
  subst h
  generalize a.eval = ρ
  have e : ∀ W, (execOp ρ { dst := ‹_›, op := .extract t k, type := ‹_›, pos := ‹_›, after := ‹_›, guard := ‹_› }).run P W = (do let x ← Instr.extract (ρ t) k; pure (Next.value x) : Sem Next).run P W := fun W => rfl
  simp only [e]
  unfold Instr.extract
  split
  · split
    · exact .inl ⟨_, fun W => rfl⟩
    · exact .inr fun W => ⟨_, _, rfl⟩
  · exact .inr fun W => ⟨_, _, rfl⟩
end Go.Proofs.Ytlgbjpihmkeopaa
/- A disk's reading looks at no cell that holds a slice of nothing: plain words. -/
namespace Go.Proofs.Ytlgbjpihmkeopaa
set_option linter.unusedSimpArgs false
set_option linter.unusedVariables false
open Go.RowKit

theorem Rd.nn {w w' : World} {B size n : Nat} {A : Option Addr} {xs : List Value} (h : Rd w B size A n xs) (hx : ∀ x ∈ xs, x ≠ .slice none 0 0) (hk : ∀ p v, w.cell? p = some v → v ≠ .slice none 0 0 → w'.cell? p = some v) : Rd w' B size A n xs :=
  ⟨h.1, fun hn => by
    obtain ⟨b, off, e, hb, hc⟩ := h.2 hn
    exact ⟨b, off, e, hb, fun j u hu => hk _ _ (hc j u hu) (hx u (List.mem_of_getElem? hu))⟩⟩
theorem Bys.nn {w w' : World} {B : Nat} {v : Value} {l : List UInt8} (h : Bys w B v l) (hk : ∀ p v, w.cell? p = some v → v ≠ .slice none 0 0 → w'.cell? p = some v) : Bys w' B v l := by
  obtain ⟨A, c, e, hc, hm, hr⟩ := h
  refine ⟨A, c, e, hc, hm, hr.nn (fun x hx => ?_) hk⟩
  obtain ⟨b, _, rfl⟩ := List.mem_map.1 hx
  unfold bv
  exact fun h => by cases h
theorem cells2_mem : ∀ (ps : List ((Int × List UInt8) × Value)) (x : Value), x ∈ cells2 ps → ∃ p ∈ ps, x = .int .i64 p.1.1 ∨ x = p.2
  | [], x, h => by cases h
  | p :: r, x, h => by
    simp only [cells2, List.mem_cons] at h
    rcases h with h | h | h
    · exact ⟨p, List.mem_cons_self, .inl h⟩
    · exact ⟨p, List.mem_cons_self, .inr h⟩
    · obtain ⟨q, hq, e⟩ := cells2_mem r x h
      exact ⟨q, List.mem_cons_of_mem _ hq, e⟩
theorem disk_nn {w w' : World} {B : Nat} {v1 v2 : Value} {bs : List (List UInt8)} {ws : List (Int × List UInt8)} (hmay : diskMay bs ws = true) (h1 : Bls w B v1 bs) (h2 : Wrs w B v2 ws) (hk : ∀ p v, w.cell? p = some v → v ≠ .slice none 0 0 → w'.cell? p = some v) : Bls w' B v1 bs ∧ Wrs w' B v2 ws := by
  unfold diskMay at hmay
  simp only [Bool.and_eq_true, List.all_eq_true] at hmay
  obtain ⟨_, hb, hw⟩ := hmay
  have hby : ∀ (u : Value) (l : List UInt8), l.length = 128 → Bys w B u l → u ≠ .slice none 0 0 := fun u l hl h => by
    obtain ⟨A, c, rfl, _⟩ := h
    rw [hl]
    exact fun h => by cases h
  constructor
  · obtain ⟨vs, A, c, e, g1, g2, g3, g4⟩ := h1
    refine ⟨vs, A, c, e, g1, g2, g3.nn (fun x hx => ?_) hk, fun i u l hu hl => (g4 i u l hu hl).nn hk⟩
    obtain ⟨i, hi⟩ := List.mem_iff_getElem?.1 hx
    have hlen := g3.len1
    have hib : i < bs.length := by have := (List.getElem?_eq_some_iff.1 hi).1; omega
    have := hb bs[i] (List.getElem_mem hib)
    exact hby x bs[i] (by simpa [blkOk] using this) (g4 i x bs[i] hi (List.getElem?_eq_getElem hib))
  · obtain ⟨ps, e', ⟨A', c', e1, e2, e3, hr⟩, hp⟩ := h2
    refine ⟨ps, e', ⟨A', c', e1, e2, e3, hr.nn (fun x hx => ?_) hk⟩, fun p h => ⟨(hp p h).1, (hp p h).2.nn hk⟩⟩
    obtain ⟨p, hpm, e | e⟩ := cells2_mem ps x hx
    · rw [e]
      exact fun h => by cases h
    · have := hw p.1 (by rw [← e']; exact List.mem_map_of_mem hpm)
      rw [e]
      refine hby p.2 p.1.2 ?_ (hp p hpm).2
      unfold wrOk at this
      exact (of_decide_eq_true this).2.2
theorem DskZ.nn {lo lo' : Nat} {v : Value} {bs : List (List UInt8)} {ws : List (Int × List UInt8)} {W W' : World} (h : DskZ lo v bs ws W) (hmay : diskMay bs ws = true) (hl : lo' ≤ lo) (hs : W.heap.size ≤ W'.heap.size)
    (hk : ∀ q v, lo ≤ q.block → q.block < W.heap.size → W.cell? q = some v → v ≠ .slice none 0 0 → W'.cell? q = some v) : DskZ lo' v bs ws W' := by
  obtain ⟨A1, c1, A2, c2, e, hc⟩ := h
  refine ⟨A1, c1, A2, c2, e, fun C hC => ?_⟩
  obtain ⟨h1, h2⟩ := hc (mixW lo W.heap.size W C) fun q v h1 h2 h3 => by rw [mix_cell, if_pos ⟨h1, h2⟩]; exact h3
  obtain ⟨k1, k2⟩ := disk_nn hmay h1 h2 (w' := C) fun q v h3 hn => by
    rw [mix_cell] at h3
    split at h3
    · rename_i hq
      exact hC q v (by omega) (by omega) (hk q v hq.1 hq.2 h3 hn)
    · exact h3
  exact ⟨k1.more hs, k2.more hs⟩
theorem nn_box {W : World} {b : Nat} {ty : TypeId} {x0 x1 : Value} (h : W.heap[b]? = some (.cells #[.slice none 0 0, .slice none 0 0] ty (0, 0))) : ∀ q v, W.cell? q = some v → v ≠ .slice none 0 0 → ((W.setCell ⟨b, 0, none⟩ x0).setCell ⟨b, 1, none⟩ x1).cell? q = some v := by
  intro q v hq hv
  by_cases hb : q.block = b
  · exfalso
    unfold World.cell? at hq
    rw [hb, h] at hq
    have hq2 : (if q.spot.isSome = true then none else (#[Value.slice none 0 0, .slice none 0 0] : Array Value)[q.off]?) = some v := hq
    have hq' : (#[Value.slice none 0 0, .slice none 0 0] : Array Value)[q.off]? = some v := by
      split at hq2
      · cases hq2
      · exact hq2
    match hoff : q.off with
    | 0 => rw [hoff] at hq'; exact hv (by simpa using hq'.symm)
    | 1 => rw [hoff] at hq'; exact hv (by simpa using hq'.symm)
    | n + 2 => rw [hoff] at hq'; simp at hq'
  · exact (World.cell?_of_block ((Below.heap_setCell _ _ _ _ hb).trans (Below.heap_setCell _ _ _ _ hb))).trans hq
end Go.Proofs.Ytlgbjpihmkeopaa
