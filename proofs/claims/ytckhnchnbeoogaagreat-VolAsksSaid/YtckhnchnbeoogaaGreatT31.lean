/- scionrylaw17.VolAsks is true of every pool, number and two keys, and leaves its arguments as they were; no condition. -/
import Derived.Deep.Slices
import Derived.Test.YtckhnchnbeoogaaGreatT01
import Derived.Test.YtckhnchnbeoogaaGreatT18
import Derived.Test.YtckhnchnbeoogaaGreatT29
import Derived.Test.YtckhnchnbeoogaaGreatT30
/- scionrylaw17.VolAsks: the walk. -/
namespace Go.Proofs.YtckhnchnbeoogaaGreat
set_option linter.unusedSimpArgs false
set_option linter.unusedVariables false
open Go.RowKit

set_option maxHeartbeats 8000000 in
set_option maxRecDepth 100000 in
theorem asks_any (A1 : Option Addr) (c1 : Nat) (A2 : Option Addr) (c2 : Nat) (A3 : Option Addr) (c3 : Nat) (A4 : Option Addr) (c4 : Nat) (gen root next : Int) (A5 : Option Addr) (c5 : Nat) (S : Sto) (dead : List Int) (id k i o k2 i2 o2 : Int) (w : World)
    (h : StoAt w w.heap.size (.slice A1 S.bs.length c1) (.slice A2 S.ws.length c2) (.slice A3 S.now.length c3) (.slice A4 S.last.length c4) S) (hd : Ints w w.heap.size (.slice A5 dead.length c5) dead) :
    Calls Tryz.prog 3 #[.agg (poolCs (.slice A1 S.bs.length c1) (.slice A2 S.ws.length c2) (.slice A3 S.now.length c3) (.slice A4 S.last.length c4) gen root next (.slice A5 dead.length c5)), .int .u32 id, keyV k i o, keyV k2 i2 o2] w (Ret (.bool true) w) := by
  have hp : Hid (∀ W, Below w.heap.size w W → StoAt W W.heap.size (.slice A1 S.bs.length c1) (.slice A2 S.ws.length c2) (.slice A3 S.now.length c3) (.slice A4 S.last.length c4) S) := Lib.hid fun W hW => (h.below hW).more hW.size
  have hpd : Hid (∀ W, Below w.heap.size w W → Ints W W.heap.size (.slice A5 dead.length c5) dead) := Lib.hid fun W hW => by
    obtain ⟨A, c, e, q1, q2, q3⟩ := hd
    exact ⟨A, c, e, q1, q2, (q3.below hW).more hW.size⟩
  clear h hd
  go_enter Tryz.func3, Tryz.ntmps3
  go_wp2_with fail
  generalize hw1 : (World.alloc (World.alloc (World.alloc w _) _) _) = w1
  have x1 : Ext w w1 := by rw [← hw1]; exact ((Ext.alloc _ _).trans (Ext.alloc _ _)).trans (Ext.alloc _ _)
  have rp1 : w1.heap[w.heap.size]? = some (.cells (poolCs (.slice A1 S.bs.length c1) (.slice A2 S.ws.length c2) (.slice A3 S.now.length c3) (.slice A4 S.last.length c4) gen root next (.slice A5 dead.length c5)) 32 (0, 0)) := by rw [← hw1]; exact (Below.heap_alloc _ _ _ (by simp; try omega)).trans ((Below.heap_alloc _ _ _ (by simp)).trans (World.alloc_heap_at _ _ _ rfl))
  have rk1 : w1.heap[w.heap.size + 1]? = some (.cells #[.int .u8 k, .int .u32 i, .int .u32 o] 34 (0, 0)) := by rw [← hw1]; exact (Below.heap_alloc _ _ _ (by simp)).trans (World.alloc_heap_at _ _ _ (by simp))
  have rt1 : w1.heap[w.heap.size + 2]? = some (.cells #[.int .u8 k2, .int .u32 i2, .int .u32 o2] 34 (0, 0)) := by rw [← hw1]; exact World.alloc_heap_at _ _ _ (by simp)
  clear hw1
  refine (great14_any _ _ _ _ _ _ _ _ _ _ _ _ _ _ _ _ _ _ S w1 (hp.out w1 x1)).mono ?_
  rintro e w2 ⟨rfl, hB⟩
  have x2 : Ext w w2 := x1.trans hB
  have rp2 := row_ext rp1 hB
  have rk2 := row_ext rk1 hB
  have rt2 := row_ext rt1 hB
  have z2 : w.heap.size + 2 < w2.heap.size := (Array.getElem?_eq_some_iff.1 rt2).1
  have kp2 := cells_row rp2
  clear hB rp1 rk1 rt1 x1
  cases hgr : greatP S dead.length
  case true =>
    go_wp2_with fail
    go_ret
    exact ⟨rfl, x2⟩
  case false =>
    obtain ⟨hS, hdl⟩ := short_of_great hgr
    clear hgr
    have hSh := Lib.hid hS
    clear hS
    go_wp2_with fail
    refine (twin14_any _ _ _ _ _ _ _ _ _ _ _ _ _ _ _ S dead hSh.out hdl w2 (hp.out w2 x2) (hpd.out w2 x2)).mono ?_
    rintro e w3 ⟨u, rfl, ⟨B1, d1, B2, d2, B3, d3, B4, d4, B5, d5, rfl, hT⟩, hB⟩
    have x23 : Ext w2 w3 := hB
    have x3 : Ext w w3 := x2.trans x23
    have rp3 := row_ext rp2 x23
    have rk3 := row_ext rk2 x23
    have rt3 := row_ext rt2 x23
    have ho : Hid (∀ W, Below w3.heap.size w3 W → StoAt W W.heap.size (.slice B1 S.bs.length d1) (.slice B2 S.ws.length d2) (.slice B3 S.now.length d3) (.slice B4 S.last.length d4) S) := Lib.hid fun W hW => ((hT W fun q _ hq => hW.cell hq).1).more hW.size
    have hod : Hid (∀ W, Below w3.heap.size w3 W → Ints W W.heap.size (.slice B5 dead.length d5) dead) := Lib.hid fun W hW => by
      obtain ⟨A, c, e, q1, q2, q3⟩ := (hT W fun q _ hq => hW.cell hq).2
      exact ⟨A, c, e, q1, q2, q3.more hW.size⟩
    clear hT hB x23 rp2 rk2 rt2 kp2
    have kk3 := cells_row rk3
    have zk3 : w.heap.size + 1 < w3.heap.size := (Array.getElem?_eq_some_iff.1 rk3).1
    go_wp2_with fail
    generalize hw4 : World.alloc w3 _ = w4
    have x34 : Ext w3 w4 := by rw [← hw4]; exact Ext.alloc _ _
    have q4 : w4.heap[w3.heap.size]? = some (.cells (poolCs (.slice B1 S.bs.length d1) (.slice B2 S.ws.length d2) (.slice B3 S.now.length d3) (.slice B4 S.last.length d4) gen root next (.slice B5 dead.length d5)) 32 (0, 0)) := by rw [← hw4]; exact World.alloc_heap_at _ _ _ rfl
    clear hw4
    have x4 : Ext w w4 := x3.trans x34
    have rp4 := row_ext rp3 x34
    have rk4 := row_ext rk3 x34
    have rt4 := row_ext rt3 x34
    clear rp3 rk3 rt3 kk3
    refine (vfind_any _ _ _ _ _ _ _ _ _ _ _ _ gen root next _ _ S dead id k i o w4 (ho.out w4 x34) (hod.out w4 x34)).mono ?_
    intro e w5 hC
    have xB : Ext w4 w5 := hC.1
    have x35 : Ext w3 w5 := x34.trans xB
    have x5 : Ext w w5 := x4.trans xB
    have rp5 := row_ext rp4 xB
    have rk5 := row_ext rk4 xB
    have rt5 := row_ext rt4 xB
    have q5 := row_ext q4 xB
    obtain ⟨ta, tb, tc, td, A, m, c, n, rfl⟩ := hC.form
    have kp5 := cells_row rp5
    have kk5 := cells_row rk5
    have zp5 : w.heap.size < w5.heap.size := (Array.getElem?_eq_some_iff.1 rp5).1
    have zk5 : w.heap.size + 1 < w5.heap.size := (Array.getElem?_eq_some_iff.1 rk5).1
    replace hC := Lib.hid hC
    clear rp4 rk4 rt4 q4 xB x34 x4
    go_wp2_with fail
    generalize hw6 : World.alloc w5 _ = w6
    have x56 : Ext w5 w6 := by rw [← hw6]; exact Ext.alloc _ _
    have rx6 : w6.heap[w5.heap.size]? = some (.cells #[.int .u8 ta, .int .u32 tb, .int .u32 tc, .int .i64 td, .slice A m c] 38 (0, 0)) := by rw [← hw6]; exact World.alloc_heap_at _ _ _ rfl
    clear hw6
    have x6 : Ext w w6 := x5.trans x56
    have x36 : Ext w3 w6 := x35.trans x56
    have rp6 := row_ext rp5 x56
    have rk6 := row_ext rk5 x56
    have rt6 := row_ext rt5 x56
    have q6 := row_ext q5 x56
    clear rp5 rk5 rt5 q5 kp5 kk5 zp5 zk5
    refine (dfind_any _ _ _ _ _ _ _ _ _ _ _ _ gen root next _ _ S dead id k i o w6 (hp.out w6 x6) (hpd.out w6 x6)).mono ?_
    intro e w7 hD
    have xB : Ext w6 w7 := hD.1
    obtain ⟨x, Ax, cx, A', c', n', e1, rfl, hbx, hby⟩ := find_agree hC.out hD
    simp only [Ending.returned.injEq, Value.tuple.injEq, Array.mk.injEq, List.cons.injEq, Value.agg.injEq, Value.int.injEq, Value.slice.injEq, true_and, and_true] at e1
    obtain ⟨⟨rfl, rfl, rfl, rfl, rfl, rfl, rfl⟩, rfl⟩ := e1
    have x57 : Ext w5 w7 := x56.trans xB
    replace hbx := (hbx.below x57).more x57.size
    have x7 : Ext w w7 := x6.trans xB
    have x37 : Ext w3 w7 := x36.trans xB
    have rp7 := row_ext rp6 xB
    have rk7 := row_ext rk6 xB
    have rt7 := row_ext rt6 xB
    have q7 := row_ext q6 xB
    have rx7 := row_ext rx6 xB
    have kq7 := cells_row q7
    have kk7 := cells_row rk7
    have kt7 := cells_row rt7
    have zq7 : w3.heap.size < w7.heap.size := (Array.getElem?_eq_some_iff.1 q7).1
    have zt7 : w.heap.size + 1 + 1 < w7.heap.size := (Array.getElem?_eq_some_iff.1 rt7).1
    have zk7 : w.heap.size + 1 < w7.heap.size := (Array.getElem?_eq_some_iff.1 rk7).1
    clear hC hD xB x6 x36 rp6 rk6 rt6 q6 rx6 x56 x57 x5 x35
    replace hbx := Lib.hid hbx
    replace hby := Lib.hid hby
    go_wp2_with fail
    generalize hw8 : World.alloc w7 _ = w8
    have x78 : Ext w7 w8 := by rw [← hw8]; exact Ext.alloc _ _
    have ry8 : w8.heap[w7.heap.size]? = some (.cells (itemCs x A' c') 38 (0, 0)) := by rw [← hw8]; exact World.alloc_heap_at _ _ _ rfl
    clear hw8
    have x8 : Ext w w8 := x7.trans x78
    have x38 : Ext w3 w8 := x37.trans x78
    have rp8 := row_ext rp7 x78
    have rk8 := row_ext rk7 x78
    have rt8 := row_ext rt7 x78
    have q8 := row_ext q7 x78
    have rx8 := row_ext rx7 x78
    replace hbx := Lib.hid ((hbx.out.below x78).more x78.size)
    replace hby := Lib.hid ((hby.out.below x78).more x78.size)
    clear rp7 rk7 rt7 q7 rx7 kq7 kk7 kt7 zq7 zt7 zk7 x7 x37 x78
    refine (vrange_any _ _ _ _ _ _ _ _ _ _ _ _ gen root next _ _ S dead id k i o k2 i2 o2 w8 (ho.out w8 x38) (hod.out w8 x38)).mono ?_
    intro e w9 hC
    have xB : Ext w8 w9 := hC.1
    obtain ⟨q, n9, rfl⟩ := hC.form
    have x9 : Ext w w9 := x8.trans xB
    have x39 : Ext w3 w9 := x38.trans xB
    have rp9 := row_ext rp8 xB
    have rk9 := row_ext rk8 xB
    have rt9 := row_ext rt8 xB
    have q9 := row_ext q8 xB
    have rx9 := row_ext rx8 xB
    have ry9 := row_ext ry8 xB
    have kp9 := cells_row rp9
    have kk9 := cells_row rk9
    have kt9 := cells_row rt9
    have zz8 := Lib.hid (x38.size)
    have zlt := Lib.hid ((Array.getElem?_eq_some_iff.1 q8).1)
    have zw8 := Lib.hid (x8.size)
    replace hC := Lib.hid hC
    replace hbx := Lib.hid ((hbx.out.below xB).more xB.size)
    replace hby := Lib.hid ((hby.out.below xB).more xB.size)
    have x89 := Lib.hid xB
    clear rp8 rk8 rt8 q8 rx8 ry8 xB x8 x38
    go_wp2_with fail
    refine (drange_any _ _ _ _ _ _ _ _ _ _ _ _ gen root next _ _ S dead id k i o k2 i2 o2 w9 (hp.out w9 x9) (hpd.out w9 x9)).mono ?_
    intro e wa hD
    have xB : Ext w9 wa := hD.1
    obtain ⟨ps, q', A9, c9, n', e1, rfl, hpl, hR, hz, hits⟩ := range_agree hC.out hD
    simp only [Ending.returned.injEq, Value.tuple.injEq, Array.mk.injEq, List.cons.injEq, Value.int.injEq, true_and, and_true] at e1
    obtain ⟨rfl, rfl⟩ := e1
    have xa : Ext w wa := x9.trans xB
    have x3a : Ext w3 wa := x39.trans xB
    have rpa := row_ext rp9 xB
    have qa := row_ext q9 xB
    have rxa := row_ext rx9 xB
    have rya := row_ext ry9 xB
    have kxa := cells_row rxa
    have kya := cells_row rya
    replace hR := Lib.hid (hR.ext xB)
    replace hz := Lib.hid (fun p hp => (hz p hp).ext xB)
    replace hits := Lib.hid hits
    replace hbx := Lib.hid ((hbx.out.below xB).more xB.size)
    replace hby := Lib.hid ((hby.out.below xB).more xB.size)
    have z8a := Lib.hid (Nat.le_trans x89.out.size xB.size)
    clear hC hD xB x9 x39 rp9 rk9 rt9 q9 rx9 ry9 kp9 kk9 kt9
    obtain ⟨hIts, Aq, cq, rfl⟩ := hR.out.its (Nat.le_refl _)
    have hSI := Lib.hid (fun W (hx : Ext wa W) => sameits_any Aq A9 cq c9 (ps.map (·.1)) (by rw [List.length_map]; omega) W (by
      have h1 := (hIts.ext hx).its
      rw [← List.length_map (f := fun p : It × Value => p.1)] at h1
      exact h1) ((hits.out.below hx).more hx.size))
    clear hIts hits
    go_wp2_with fail
    refine (rsame_any _ _ _ _ _ _ _ _ _ _ _ _ _ _ x.val x.val wa hbx.out hby.out).mono ?_
    rintro e wb ⟨rfl, hB⟩
    rw [show sameB x.k x.i x.o x.r x.k x.i x.o x.r x.val x.val = true by simp [sameB]]
    have xab : Ext wa wb := hB
    have hCall := hSI.out wb xab
    rw [List.length_map] at hCall
    have xb : Ext w wb := xa.trans xab
    have x3b : Ext w3 wb := x3a.trans xab
    have rpb := row_ext rpa xab
    have qb := row_ext qa xab
    replace hR := Lib.hid (hR.out.ext xab)
    replace hz := Lib.hid (fun p hp => (hz.out p hp).ext xab)
    have hnn : (n != n) = false := bne_self_eq_false _
    have hnn9 : (n9 != n9) = false := bne_self_eq_false _
    have zac := Lib.hid xab.size
    clear hB xab xa x3a rpa qa rxa rya kxa kya hbx hby hSI
    go_wp2_with fail
    refine hCall.mono ?_
    clear hCall
    rintro e wc ⟨rfl, hB⟩
    have xbc : Ext wb wc := hB
    have xc : Ext w wc := xb.trans xbc
    have x3c : Ext w3 wc := x3b.trans xbc
    have rpc := row_ext rpb xbc
    have qc := row_ext qb xbc
    replace hR := Lib.hid (hR.out.ext xbc)
    have L0 := Lib.hid (LwI.start hR.out fun p hp => (hz.out p hp).ext xbc)
    have hz8c := Lib.hid (Nat.le_trans z8a.out (Nat.le_trans zac.out xbc.size))
    clear hB xbc xb x3b rpb qb hz
    go_wp2_with fail
    go_loopw [18] (fun iv wr => ∃ I : Nat, I ≤ ps.length ∧ iv = .int .i64 (I : Int) ∧ LwI w8.heap.size (.slice Aq ps.length cq) ps wc wr) (fun iv _ => ps.length - (intOf iv).toNat)
    case atStart => exact ⟨0, Nat.zero_le _, rfl, L0.out⟩
    case round =>
      obtain ⟨I, hI, rfl, hL⟩ := hrel
      clear L0
      by_cases hlt : I < ps.length
      · have hlt' := hlt
        have hpm := List.getElem_mem hlt
        obtain ⟨bq, oq, rfl, hbq, hcq⟩ := (Rd.of_own hR.out.1).2 (by omega)
        have hgq : Value.ownBlock (.slice (some ⟨bq, oq, none⟩) ps.length cq) = some bq := rfl
        have hro := hL.row bq hgq
        have hcv := (World.cell?_of_block (a := ⟨bq, oq + (I * 5 + 4), none⟩) hro).trans (hcq (I * 5 + 4) _ (cells5_at ps I hlt).2.2.2.2)
        obtain ⟨⟨Av, cv, hpv⟩, hfv⟩ := (hR.out.2 _ hpm).1
        have hiw := Lib.hid (IntWalk.wrap64_in ((I : Int) + 1) (by omega))
        have hdl2 : decide (I < ps.length) = true := decide_eq_true hlt
        have hmx : (ps[I]).1.val.length ≤ 9223372036854775807 := by
          obtain ⟨A3, c3, e3, h1, h2, -⟩ := (hR.out.2 _ hpm).2.1
          unfold maxLen at h2
          omega
        rw [hpv] at hcv
        have HV := Lib.hid (fun W (hl : LwI w8.heap.size (.slice (some ⟨bq, oq, none⟩) ps.length cq) ps wc W) b o (e : Av = some ⟨b, o, none⟩) (hn : 0 < (ps[I]).1.val.length) => hl.val _ hpm b o _ cv (by rw [hpv, e]) hn)
        have HS := Lib.hid (fun W (hl : LwI w8.heap.size (.slice (some ⟨bq, oq, none⟩) ps.length cq) ps wc W) b o (e : Av = some ⟨b, o, none⟩) kk (hk : kk < (ps[I]).1.val.length) m => hl.set hR.out hpm (by rw [hpv, e]) hk m)
        have HA := Lib.hid (fun (hn : 0 < (ps[I]).1.val.length) => by
          obtain ⟨A3, c3, e3, -, -, hr3⟩ := (hR.out.2 _ hpm).2.1
          rw [hpv] at e3
          simp only [Value.slice.injEq, true_and] at e3
          obtain ⟨b, o, e4, -⟩ := hr3.2 hn
          exact (⟨b, o, e3.1.trans e4⟩ : ∃ b o, Av = some ⟨b, o, none⟩))
        have HC := Lib.hid (fun W (hl : LwI w8.heap.size (.slice (some ⟨bq, oq, none⟩) ps.length cq) ps wc W) => (World.cell?_of_block (a := ⟨bq, oq + (I * 5 + 4), none⟩) (hl.row bq hgq)).trans (((World.cell?_of_block (a := ⟨bq, oq + (I * 5 + 4), none⟩) hro).symm).trans hcv))
        have HX := Lib.hid (fun W W' (hl : LwI w8.heap.size (.slice (some ⟨bq, oq, none⟩) ps.length cq) ps wc W) (hx : Ext W W') => hl.ext hR.out hz8c.out hx)
        generalize (ps[I]).1.val.length = nv at *
        replace hmx := Lib.hid hmx
        rw [← Nat.add_assoc] at hcv
        clear hcq hgq hro hpm hpv hfv hbq
        replace hL := Lib.hid hL
        go_wp2_with fail
        generalize hwm : wr = wm at *
        clear hwm
        go_loopw [19] (fun kv wr => ∃ kk : Nat, kk ≤ nv ∧ kv = .int .i64 (kk : Int) ∧ LwI w8.heap.size (.slice (some ⟨bq, oq, none⟩) ps.length cq) ps wc wr) (fun kv _ => nv - (intOf kv).toNat)
        case atStart => exact ⟨0, Nat.zero_le _, rfl, hL.out⟩
        case round =>
          obtain ⟨kk, hkk, rfl, hL2⟩ := hrel
          have hcw := HC.out wr hL2
          rw [← Nat.add_assoc] at hcw
          by_cases hk : kk < nv
          · obtain ⟨bv, ov, rfl⟩ := HA.out (by omega)
            obtain ⟨cs, ty, hrv, hmv⟩ := HV.out wr hL2 bv ov rfl (by omega)
            obtain ⟨m, hm⟩ := hmv kk hk
            have hcm := (cells_row hrv (ov + kk)).trans hm
            have hkw := Lib.hid (IntWalk.wrap64_in ((kk : Int) + 1) (by have := hmx.out; omega))
            have hkd : decide (kk < nv) = true := decide_eq_true hk
            have HSk := Lib.hid (fun W (hl : LwI w8.heap.size (.slice (some ⟨bq, oq, none⟩) ps.length cq) ps wc W) m => HS.out W hl bv ov rfl kk hk m)
            clear HV HA HS hmv
            replace hm := Lib.hid hm
            replace hrv := Lib.hid hrv
            replace hL2 := Lib.hid hL2
            go_wp2_with fail
            have gQ : ∀ W, Ext wr W → W.cell? ⟨bq, oq + I * 5 + 4, none⟩ = some (.slice (some ⟨bv, ov, none⟩) nv cv) := fun W h => Ext.cell h hcw
            have gV : ∀ W, Ext wr W → W.cell? ⟨bv, ov + kk, none⟩ = some (.int .u8 m) := fun W h => Ext.cell h hcm
            clear hcw hcm hcv hiw
            refine wp_region_free (outsAt []) 16 (by kernel_rfl) (by kernel_rfl) (by kernel_rfl) (by decide) (by kernel_rfl) (by kernel_rfl) ?st ?walk
            case st => exact outsAt_stable (fun _ h => by cases h)
            case walk =>
              intro K hK
              dsimp only [List.take]
              repeat ((first | (refine free_plain ?_ (by rfl) (by rfl) (fun W hW _ => ⟨W, ?_, Ext.refl W⟩) ?_; rotate_left; (first | (go_simp; with_reducible rfl) | (go_simp; done))) | (refine free_skip (by rfl) ?_)); try simp only [Act.put, one_f, outB_f, outNew_f, outI_f, List.setIfInBounds_toArray, List.set_cons_zero, List.set_cons_succ])
              refine free_nil (hK _ _ fun W hW hF => ?_)
              clear hF hK gQ gV
              dsimp only [List.drop]
              have LW := Lib.hid (HX.out _ _ hL2.out hW)
              have rvW := row_ext hrv.out hW
              have kvW := (cells_row rvW (ov + kk)).trans hm.out
              have fvW := frozen_row rvW
              clear hW rvW HX
              go_wp2_with fail
              rw [hkw.out]
              refine ⟨⟨kk + 1, hk, rfl, HSk.out W LW.out _⟩, ?_⟩
              simp [intOf]
              omega
          · obtain rfl : kk = nv := by omega
            have hkd : decide (kk < kk) = false := decide_eq_false hk
            replace hL2 := Lib.hid hL2
            clear hcv HV HA HS HC
            go_wp2_with fail
            try rw [hiw.out]
            refine ⟨⟨I + 1, hlt', rfl, hL2.out⟩, ?_⟩
            simp [intOf]
            omega
      · obtain rfl : I = ps.length := by omega
        have hdl2 : decide (ps.length < ps.length) = false := decide_eq_false hlt
        have xwr := hL.blw
        have z8 := hz8c.out
        have xr : Below w.heap.size w wr := Below.trans xc (Below.mono xwr (by have := zw8.out; omega))
        have x3r : Below w3.heap.size w3 wr := Below.trans x3c (Below.mono xwr (by have := zz8.out; omega))
        have zq := (Array.getElem?_eq_some_iff.1 qc).1
        have rpr := (xwr.block w.heap.size (by have := zw8.out; have := zlt.out; omega)).trans rpc
        have qr := (xwr.block w3.heap.size (by have := zlt.out; omega)).trans qc
        have kpr := cells_row rpr
        have kqr := cells_row qr
        replace hL := Lib.hid hL
        clear xwr
        go_wp2_with fail
        refine (same14_any _ _ _ _ _ _ _ _ _ _ _ _ _ _ _ _ _ _ _ _ _ _ _ _ gen root next _ _ _ _ S dead hSh.out.bs hSh.out.ws hdl wr (ho.out wr x3r) (hp.out wr xr) (hod.out wr x3r) (hpd.out wr xr)).mono ?_
        rintro e wz ⟨rfl, hB9⟩
        have x9 : Below w.heap.size w wz := Below.trans xr (Below.mono hB9 xr.size)
        go_wp2_with fail
        go_ret
        exact ⟨rfl, x9⟩
end Go.Proofs.YtckhnchnbeoogaaGreat
/- What the arguments' readings say of memory. -/
namespace Go.Proofs.YtckhnchnbeoogaaGreat
set_option linter.unusedSimpArgs false
set_option linter.unusedVariables false
open Go.RowKit Go.ChangeShapes Go.WideShapes Go.ChangeAt

section
variable {H : Type} {enc : TypeId × Value → H} {P : Program} {W : World}

theorem numOfs_bytes (zs : List Int) (h : ∀ n ∈ zs, (Lit.int .u8 n).wf = true) : ∃ l : List UInt8, zs.map (Value.int .u8) = l.map bv := by
  induction zs with
  | nil => exact ⟨[], rfl⟩
  | cons z r ih =>
    obtain ⟨l, hl⟩ := ih (fun n hn => h n (List.mem_cons_of_mem _ hn))
    have hz := h z (List.mem_cons_self)
    have hb : 0 ≤ z ∧ z ≤ 255 := by simpa [Lit.wf, IntKind.min, IntKind.max, IntKind.signed, IntKind.bits] using hz
    refine ⟨UInt8.ofNat z.toNat :: l, ?_⟩
    simp only [List.map_cons, hl]
    congr 1
    simp only [bv]
    congr 1
    have : (UInt8.ofNat z.toNat).toNat = z.toNat % 256 := by simp
    rw [this]
    omega

theorem rd_of_cells {a : Addr} {n c : Nat} {xs : List Value} (hn : n ≤ c) (hlen : xs.length = n) (hb : ∀ x ∈ MemPlace.row a c, x.block < W.heap.size) (hc : ∀ i u, xs[i]? = some u → W.cell? (a.add i) = some u) : Rd W W.heap.size 1 (some a) n xs := by
  refine ⟨by omega, fun h0 => ?_⟩
  obtain ⟨u, hu⟩ : ∃ u, xs[0]? = some u := ⟨_, List.getElem?_eq_getElem (by omega)⟩
  have h1 := hc 0 u hu
  have hsp : a.spot = none := by
    have : (a.add 0) = a := by simp [Addr.add]
    rw [this] at h1
    unfold World.cell? at h1
    split at h1
    · cases hs : a.spot with
      | none => rfl
      | some s => rw [hs] at h1; simp at h1
    · cases h1
  obtain ⟨b, off, sp⟩ := a
  simp only at hsp
  subst hsp
  have hbl : b < W.heap.size := by
    have : W.cell? ((⟨b, off, none⟩ : Addr).add 0) = some u := h1
    have h2 := World.block_lt_of_cell? W _ this
    simpa [Addr.add] using h2
  refine ⟨b, off, rfl, hbl, fun j v hv => ?_⟩
  rw [← hc j v hv]
  unfold Addr.add
  split
  · subst_vars; rfl
  · rfl

theorem rd_bytes {t e : TypeId} {fuel : Nat} {cs : List Value} {d : DataW H} {p : List MemPlace} (ht : P.underlying t = some (.slice e)) (he : P.underlying e = some (.int .u8)) (hc : P.cellsOf e = 1)
    (h : DataW.trod enc P W 0 (fun _ => true) true fuel t cs = some (d, p)) (hlt : ∀ x ∈ p, x.block < W.heap.size) : ∃ A n c, cs = [.slice A n c] ∧ n ≤ c ∧ ∃ l : List UInt8, Bys W W.heap.size (.slice A n c) l ∧ l.length = n := by
  rcases open_ints ht he hc h with ⟨rfl, _⟩ | ⟨a, len, cap, zs, rfl, _, hl, hm, hz, hx, hcell, hwf⟩
  · exact ⟨none, 0, 0, rfl, Nat.le_refl _, [], Bys.nil W _, rfl⟩
  · simp only [if_true] at hz
    obtain ⟨l, hl'⟩ := numOfs_bytes (zs.take len) (fun n hn => hwf n (List.mem_of_mem_take hn))
    have hll : l.length = len := by
      have := congrArg List.length hl'
      simp only [List.length_map, List.length_take] at this
      omega
    refine ⟨some a, len, cap, rfl, hl, l, ⟨some a, cap, by rw [hll], by omega, hm, ?_⟩, hll⟩
    rw [hll]
    refine rd_of_cells (c := cap) hl (by simp [hll]) (fun x hx' => hlt x ?_) (fun i u hu => ?_)
    · have e2 : p = MemPlace.row a zs.length := by injection hx
      rw [e2, hz]; exact hx'
    · rw [← hl'] at hu
      rw [List.getElem?_map, List.getElem?_take] at hu
      split at hu
      · rename_i hi
        rw [hcell i (by omega)]
        rw [← hu]
        simp [List.getElem?_eq_getElem (show i < zs.length by omega)]
      · cases hu

theorem trod_fields {t : TypeId} {fs : Array Field} {fuel : Nat} {cs : List Value} {x : DataW H × List MemPlace} (ht : P.underlying t = some (.struct fs)) (h : DataW.trod enc P W 0 (fun _ => true) true fuel t cs = some x) :
    ∃ (xs : List (DataW H × List MemPlace)) (n : Nat), cs.length = P.cellsOf t ∧ xs.length = fs.size ∧ x.2 = xs.flatMap (·.2) ∧
      ∀ (i : Nat) (T : TypeId) (off m : Nat), (fs[i]?).map (fun f => (f.type, f.offset)) = some (T, off) → P.cellsOf T = m → DataW.trod enc P W 0 (fun _ => true) true n T ((cs.drop off).take m) = xs[i]? := by
  obtain ⟨xs, n, _, hx, hl, hxl, hf⟩ := DataW.trod_struct ht h
  refine ⟨xs, n, hl, hxl, by rw [hx], fun i T off m hi hm => ?_⟩
  obtain ⟨f, hfi, he⟩ := Option.map_eq_some_iff.1 hi
  have := hf i f hfi
  simp only [Prod.mk.injEq] at he
  rw [he.1, he.2, hm] at this
  exact this
end
end Go.Proofs.YtckhnchnbeoogaaGreat
/- From a law's walk to its row: the arguments read behind the call as they did. -/
namespace Go.Proofs.YtckhnchnbeoogaaGreat
set_option linter.unusedSimpArgs false
set_option linter.unusedVariables false
open Go.RowKit Go.ChangeShapes Go.WideShapes Go.ChangeAt

section
variable {H : Type} {enc : TypeId × Value → H} {P : Program}
theorem trodAll_stays (hl : laidOutB P = true) {W W' : World} {sp : Nat → Bool} : ∀ (ts : List TypeId) (vs : List Value) (ds : List (DataW H)) (p : List MemPlace), DataW.TrodAll enc P W 0 (fun _ => true) true ts vs ds p →
    (∀ t ∈ ts, P.readableRec t = true ∧ t < P.types.size) → (∀ x ∈ p, W.sameAt W' x) → (∀ x ∈ p, sp x.block = true) → DataW.TrodAll enc P W' 0 sp true ts vs ds p
  | [], vs, ds, p, h, _, _, _ => by
    obtain ⟨rfl, rfl, rfl⟩ := trodAll_nil h
    exact trodAll_mk0
  | t :: ts, vs, ds, p, h, ht, hs, hsp => by
    obtain ⟨v, vs', d, ds', p0, q0, rfl, rfl, rfl, h0, h1⟩ := trodAll_cons h
    have e := ht t (List.mem_cons_self)
    exact trodAll_cons_mk (WideElems.Trod_stays hl e.1 e.2 h0 (fun x hx => hs x (List.mem_append_left _ hx)) (fun x hx => hsp x (List.mem_append_left _ hx)))
      (trodAll_stays hl ts vs' ds' q0 h1 (fun t' h' => ht t' (List.mem_cons_of_mem _ h')) (fun x hx => hs x (List.mem_append_right _ hx)) (fun x hx => hsp x (List.mem_append_right _ hx)))

theorem law_post {f : Func} {s : ChangeSpec} {W W' : World} {args : Array Value} {ds gs : List (DataW H)} {before : List MemPlace} {b : TypeId} (hv : s.vars = []) (hl : laidOutB P = true)
    (hr : f.resultTypes = #[b]) (hb : P.underlying b = some .bool) (ht : ∀ t ∈ f.params.toList, P.readableRec t = true ∧ t < P.types.size)
    (hW : DataW.Whole enc P f.params.toList s.vars false W args.toList ds gs before) (hs : s.fn H (ds ++ gs) = { results := [.lit (.bool true)], args := ds, vars := [] }) (hB : Below W.heap.size W W') :
    s.post enc P f false true false false W args (.bool true) W' := by
  have hlt : ∀ x ∈ before, x.block < W.heap.size := fun x hx => hW.lt x hx
  have hW0 := hW
  obtain ⟨p, q, hA, hV, rfl, _, _⟩ := hW
  have hq : q = [] := by
    rw [hv] at hV
    cases gs with
    | nil => exact hV
    | cons g gs => cases hV
  subst hq
  refine ⟨ds, gs, p ++ [], [], p, [], hW0, ?_, ?_, ?_, ?_, fun h => by cases h⟩
  · rw [hs, hr]
    exact trodAll_cons_mk (shut_bool hb true) trodAll_mk0
  · rw [hs]
    exact trodAll_stays hl _ _ _ _ hA ht (fun x hx => hB.same (hlt x (by simpa using hx))) (fun x hx => by simpa using hlt x (by simpa using hx))
  · rw [hs, hv]
    exact rfl
  · exact World.keptBut_mono (fun x hx => ⟨by simpa using hx, Or.inr (Or.inl hx)⟩) (hB.frame (· ∈ p))
end
end Go.Proofs.YtckhnchnbeoogaaGreat
/- The readings of pools. -/
namespace Go.Proofs.YtckhnchnbeoogaaGreat
set_option linter.unusedSimpArgs false
set_option linter.unusedVariables false
open Go.RowKit Go.ChangeShapes Go.WideShapes Go.ChangeAt Go.Deep

theorem Tryz.cc_u8 : Tryz.prog.cellsOf 5 = 1 := by kernel_rfl
theorem Tryz.cc_u32 : Tryz.prog.cellsOf 29 = 1 := by kernel_rfl
theorem Tryz.cc_int : Tryz.prog.cellsOf 3 = 1 := by kernel_rfl
theorem Tryz.cc_bytes : Tryz.prog.cellsOf 26 = 1 := by kernel_rfl
theorem Tryz.cc_blocks : Tryz.prog.cellsOf 22 = 1 := by kernel_rfl
theorem Tryz.cc_writes : Tryz.prog.cellsOf 23 = 1 := by kernel_rfl
theorem Tryz.cc_ints : Tryz.prog.cellsOf 30 = 1 := by kernel_rfl
theorem Tryz.cc_write : Tryz.prog.cellsOf 100 = 2 := by kernel_rfl
theorem Tryz.cc_disk : Tryz.prog.cellsOf 25 = 2 := by kernel_rfl
theorem Tryz.cc_store : Tryz.prog.cellsOf 28 = 4 := by kernel_rfl
theorem Tryz.cc_pool : Tryz.prog.cellsOf 32 = 8 := by kernel_rfl

section
variable {H : Type} {enc : TypeId × Value → H} {W : World}
theorem rd_of_cellsN {size : Nat} {a : Addr} {n : Nat} {xs : List Value} (hlen : xs.length = n * size) (hz : 0 < size) (hb : ∀ x ∈ MemPlace.row a (n * size), x.block < W.heap.size) (hc : ∀ i u, xs[i]? = some u → W.cell? (a.add i) = some u) : Rd W W.heap.size size (some a) n xs := by
  refine ⟨hlen, fun h0 => ?_⟩
  have hpos : 0 < xs.length := by rw [hlen]; exact Nat.mul_pos h0 hz
  obtain ⟨u, hu⟩ : ∃ u, xs[0]? = some u := ⟨_, List.getElem?_eq_getElem hpos⟩
  have h1 := hc 0 u hu
  have hsp : a.spot = none := by
    have : (a.add 0) = a := by simp [Addr.add]
    rw [this] at h1
    unfold World.cell? at h1
    split at h1
    · cases hs : a.spot with
      | none => rfl
      | some s => rw [hs] at h1; simp at h1
    · cases h1
  obtain ⟨b, off, sp⟩ := a
  simp only at hsp
  subst hsp
  have hbl : b < W.heap.size := by
    have : W.cell? ((⟨b, off, none⟩ : Addr).add 0) = some u := h1
    have h2 := World.block_lt_of_cell? W _ this
    simpa [Addr.add] using h2
  refine ⟨b, off, rfl, hbl, fun j v hv => ?_⟩
  rw [← hc j v hv]
  unfold Addr.add
  split
  · subst_vars; rfl
  · rfl
theorem rd_blocks {fuel : Nat} {cs : List Value} {d : DataW H} {p : List MemPlace} (h : DataW.trod enc Tryz.prog W 0 (fun _ => true) true fuel 22 cs = some (d, p)) (hlt : ∀ x ∈ p, x.block < W.heap.size) :
    ∃ A c bs, cs = [.slice A bs.length c] ∧ Bls W W.heap.size (.slice A bs.length c) bs := by
  rcases open_slice1 Tryz.underlying22 Tryz.cc_bytes h with ⟨rfl, _⟩ | ⟨a, len, cap, m, n, V, D, Pl, rfl, _, hl, hm, hmm, hx, hel⟩
  · exact ⟨none, 0, [], rfl, [], none, 0, rfl, Nat.le_refl _, by simp [maxLen], Rd.none_, fun i u l hu => by simp at hu⟩
  · simp only [if_true] at hmm
    subst hmm
    have hp : p = MemPlace.row a m ++ (List.range m).flatMap Pl := congrArg Prod.snd hx
    have hb : ∀ i, i < len → ∃ l : List UInt8, Bys W W.heap.size (V i) l := fun i hi => by
      obtain ⟨_, h2⟩ := hel i (by omega)
      obtain ⟨A, n', c', e, _, l, hby, _⟩ := rd_bytes Tryz.underlying26 Tryz.underlying5 Tryz.cc_u8 h2 (fun x hx' => hlt x (by
        rw [hp]
        exact List.mem_append_right _ (List.mem_flatMap.2 ⟨i, List.mem_range.2 (by omega), hx'⟩)))
      simp only [List.cons.injEq, and_true] at e
      exact ⟨l, by rw [e]; exact hby⟩
    obtain ⟨L, hL⟩ := choose_lt (α := List UInt8) (p := fun i l => Bys W W.heap.size (V i) l) hb
    refine ⟨some a, m, (List.range len).map L, by simp, (List.range len).map V, some a, m, by simp, by simpa using hl, hm, ?_, fun i u l hu hll => ?_⟩
    · rw [List.length_map, List.length_range]
      refine rd_of_cells (c := m) hl (by simp) (fun x hx' => hlt x (by rw [hp]; exact List.mem_append_left _ hx')) (fun i u hu => ?_)
      have hi : i < len := by
        have := (List.getElem?_eq_some_iff.1 hu).1
        simpa using this
      rw [List.getElem?_map, List.getElem?_range hi] at hu
      cases hu
      exact (hel i (by omega)).1
    · have hi : i < len := by
        have := (List.getElem?_eq_some_iff.1 hu).1
        simpa using this
      rw [List.getElem?_map, List.getElem?_range hi] at hu hll
      cases hu
      cases hll
      exact hL i hi
theorem rd_write {fuel : Nat} {cs : List Value} {d : DataW H} {p : List MemPlace} (h : DataW.trod enc Tryz.prog W 0 (fun _ => true) true fuel 100 cs = some (d, p)) (hlt : ∀ x ∈ p, x.block < W.heap.size) :
    ∃ a A l c, cs = [.int .i64 a, .slice A l.length c] ∧ Bys W W.heap.size (.slice A l.length c) l ∧ (Lit.int .i64 a).wf = true := by
  obtain ⟨xs, n, hl, hxl, hp, hf⟩ := trod_fields Tryz.underlying100 h
  rw [Tryz.cc_write] at hl
  match cs, hl with
  | [c0, c1], _ =>
    match xs, hxl with
    | [y0, y1], _ =>
      have g0 : _ = some y0 := hf 0 3 0 1 rfl Tryz.cc_int
      have g1 : _ = some y1 := hf 1 26 1 1 rfl Tryz.cc_bytes
      simp only [List.drop, List.take] at g0 g1
      obtain ⟨a, ea, _, wa⟩ := DataW.trod_int Tryz.underlying3 g0
      have hp2 : p = y0.2 ++ (y1.2 ++ []) := hp
      obtain ⟨d1, p1⟩ := y1
      obtain ⟨A, m, c, es, hmc, l, hb, hlen⟩ := rd_bytes Tryz.underlying26 Tryz.underlying5 Tryz.cc_u8 g1 (fun x hx => hlt x (by rw [hp2]; simp [hx]))
      simp only [List.cons.injEq, and_true] at ea es
      subst ea es hlen
      exact ⟨a, A, l, c, rfl, hb, wa⟩
theorem rd_writes {fuel : Nat} {cs : List Value} {d : DataW H} {p : List MemPlace} (h : DataW.trod enc Tryz.prog W 0 (fun _ => true) true fuel 23 cs = some (d, p)) (hlt : ∀ x ∈ p, x.block < W.heap.size) :
    ∃ A c ws, cs = [.slice A ws.length c] ∧ Wrs W W.heap.size (.slice A ws.length c) ws := by
  rcases open_slice Tryz.underlying23 h with ⟨rfl, _⟩ | ⟨a, len, cap, m, n, D, Pl, rfl, _, hl, hm, hmm, hx, hel⟩
  · exact ⟨none, 0, [], rfl, [], rfl, ⟨none, 0, rfl, Nat.le_refl _, by simp [maxLen], Rd.none_⟩, fun p h => by cases h⟩
  · simp only [if_true] at hmm
    subst hmm
    rw [Tryz.cc_write] at hx hel
    have hp : p = MemPlace.row a (m * 2) ++ (List.range m).flatMap Pl := congrArg Prod.snd hx
    have hb : ∀ i, i < len → ∃ q : (Int × List UInt8) × Value, (∃ A c, q.2 = .slice A q.1.2.length c) ∧ Bys W W.heap.size q.2 q.1.2 ∧ W.cell? (a.add (i * 2)) = some (.int .i64 q.1.1) ∧ W.cell? (a.add (i * 2 + 1)) = some q.2 := fun i hi => by
      obtain ⟨cs', h1, h2⟩ := hel i (by omega)
      obtain ⟨_, _, h3⟩ := World.cells?_some h1
      obtain ⟨r, A, l, c, rfl, hby, _⟩ := rd_write h2 (fun x hx' => hlt x (by
        rw [hp]
        exact List.mem_append_right _ (List.mem_flatMap.2 ⟨i, List.mem_range.2 (by omega), hx'⟩)))
      have e0 := h3 0 (by omega)
      have e1 := h3 1 (by omega)
      have ea : ∀ j, (a.add (i * 2)).add j = a.add (i * 2 + j) := fun j => by
        unfold Addr.add
        repeat' split
        all_goals simp_all
        all_goals omega
      rw [ea] at e0 e1
      exact ⟨((r, l), .slice A l.length c), ⟨A, c, rfl⟩, hby, e0, e1⟩
    obtain ⟨Q, hQ⟩ := choose_lt (α := (Int × List UInt8) × Value) (p := fun i q => (∃ A c, q.2 = .slice A q.1.2.length c) ∧ Bys W W.heap.size q.2 q.1.2 ∧ W.cell? (a.add (i * 2)) = some (.int .i64 q.1.1) ∧ W.cell? (a.add (i * 2 + 1)) = some q.2) hb
    refine ⟨some a, m, ((List.range len).map Q).map (·.1), by simp, (List.range len).map Q, rfl, ⟨some a, m, by simp, by simpa using hl, hm, ?_⟩, fun q hq => ?_⟩
    · rw [List.length_map, List.length_map, List.length_range]
      refine rd_of_cellsN (by rw [cells2_len]; simp) (by omega) (fun x hx' => hlt x ?_) (fun j u hu => ?_)
      · rw [hp]
        refine List.mem_append_left _ ?_
        unfold MemPlace.row at hx' ⊢
        rw [List.mem_map] at hx' ⊢
        obtain ⟨k, hk, e⟩ := hx'
        exact ⟨k, List.mem_range.2 (by have := List.mem_range.1 hk; omega), e⟩
      · have hj : j < len * 2 := by
          have := (List.getElem?_eq_some_iff.1 hu).1
          rw [cells2_len] at this
          simpa using this
        obtain ⟨c0, c1⟩ := cells2_at ((List.range len).map Q) (j / 2) (by simp; omega)
        obtain ⟨_, _, q0, q1⟩ := hQ (j / 2) (by omega)
        rcases (show j = j / 2 * 2 ∨ j = j / 2 * 2 + 1 by omega) with e | e
        · have hu' : some u = some _ := (hu.symm.trans (congrArg (fun t => (cells2 ((List.range len).map Q))[t]?) e)).trans c0
          cases hu'
          rw [show a.add j = a.add (j / 2 * 2) from congrArg _ e, q0]
          simp
        · have hu' : some u = some _ := (hu.symm.trans (congrArg (fun t => (cells2 ((List.range len).map Q))[t]?) e)).trans c1
          cases hu'
          rw [show a.add j = a.add (j / 2 * 2 + 1) from congrArg _ e, q1]
          simp
    · obtain ⟨i, hi, rfl⟩ := List.mem_map.1 hq
      obtain ⟨q0, q1, _⟩ := hQ i (List.mem_range.1 hi)
      exact ⟨q0, q1⟩
theorem rd_ints {fuel : Nat} {cs : List Value} {d : DataW H} {p : List MemPlace} (h : DataW.trod enc Tryz.prog W 0 (fun _ => true) true fuel 30 cs = some (d, p)) (hlt : ∀ x ∈ p, x.block < W.heap.size) :
    ∃ A c l, cs = [.slice A l.length c] ∧ Ints W W.heap.size (.slice A l.length c) l ∧ ∀ a ∈ l, (Lit.int .i64 a).wf = true := by
  rcases open_ints Tryz.underlying30 Tryz.underlying3 Tryz.cc_int h with ⟨rfl, _⟩ | ⟨a, len, cap, zs, rfl, _, hl, hm, hz, hx, hcell, hwf⟩
  · exact ⟨none, 0, [], rfl, ⟨none, 0, rfl, Nat.le_refl _, by simp [maxLen], Rd.none_⟩, fun a h => by cases h⟩
  · simp only [if_true] at hz
    have hp : p = MemPlace.row a zs.length := congrArg Prod.snd hx
    have hll : (zs.take len).length = len := by rw [List.length_take]; omega
    refine ⟨some a, cap, zs.take len, by rw [hll], ⟨some a, cap, rfl, by omega, hm, ?_⟩, fun n hn => hwf n (List.mem_of_mem_take hn)⟩
    rw [hll]
    refine rd_of_cells (c := cap) hl (by simp; omega) (fun x hx' => hlt x (by rw [hp, hz]; exact hx')) (fun i u hu => ?_)
    rw [List.getElem?_map, List.getElem?_take] at hu
    split at hu
    · rename_i hi
      rw [hcell i (by omega), ← hu]
      simp [List.getElem?_eq_getElem (show i < zs.length by omega)]
    · cases hu
theorem rd_disk {fuel : Nat} {cs : List Value} {d : DataW H} {p : List MemPlace} (h : DataW.trod enc Tryz.prog W 0 (fun _ => true) true fuel 25 cs = some (d, p)) (hlt : ∀ x ∈ p, x.block < W.heap.size) :
    ∃ A1 c1 A2 c2 bs ws, cs = [.slice A1 (List.length bs) c1, .slice A2 (List.length ws) c2] ∧ Bls W W.heap.size (.slice A1 bs.length c1) bs ∧ Wrs W W.heap.size (.slice A2 ws.length c2) ws := by
  obtain ⟨xs, n, hl, hxl, hp, hf⟩ := trod_fields Tryz.underlying25 h
  rw [Tryz.cc_disk] at hl
  match cs, hl with
  | [c0, c1], _ =>
    match xs, hxl with
    | [(d0, p0), (d1, p1)], _ =>
      have g0 : _ = some (d0, p0) := hf 0 22 0 1 rfl Tryz.cc_blocks
      have g1 : _ = some (d1, p1) := hf 1 23 1 1 rfl Tryz.cc_writes
      simp only [List.drop, List.take] at g0 g1
      have hp2 : p = p0 ++ (p1 ++ []) := hp
      obtain ⟨A1, k1, bs, e1, h1⟩ := rd_blocks g0 (fun x hx => hlt x (by rw [hp2]; simp [hx]))
      obtain ⟨A2, k2, ws, e2, h2⟩ := rd_writes g1 (fun x hx => hlt x (by rw [hp2]; simp [hx]))
      simp only [List.cons.injEq, and_true] at e1 e2
      subst e1 e2
      exact ⟨A1, k1, A2, k2, bs, ws, rfl, h1, h2⟩
theorem rd_store {fuel : Nat} {cs : List Value} {d : DataW H} {p : List MemPlace} (h : DataW.trod enc Tryz.prog W 0 (fun _ => true) true fuel 28 cs = some (d, p)) (hlt : ∀ x ∈ p, x.block < W.heap.size) :
    ∃ A1 c1 A2 c2 A3 c3 A4 c4, ∃ S : Sto, cs = [.slice A1 S.bs.length c1, .slice A2 S.ws.length c2, .slice A3 S.now.length c3, .slice A4 S.last.length c4] ∧ StoAt W W.heap.size (.slice A1 S.bs.length c1) (.slice A2 S.ws.length c2) (.slice A3 S.now.length c3) (.slice A4 S.last.length c4) S := by
  obtain ⟨xs, n, hl, hxl, hp, hf⟩ := trod_fields Tryz.underlying28 h
  rw [Tryz.cc_store] at hl
  match cs, hl with
  | [c0, c1, c2, c3], _ =>
    match xs, hxl with
    | [(d0, p0), (d1, p1), (d2, p2)], _ =>
      have g0 : _ = some (d0, p0) := hf 0 25 0 2 rfl Tryz.cc_disk
      have g1 : _ = some (d1, p1) := hf 1 26 2 1 rfl Tryz.cc_bytes
      have g2 : _ = some (d2, p2) := hf 2 26 3 1 rfl Tryz.cc_bytes
      simp only [List.drop, List.take] at g0 g1 g2
      have hp2 : p = p0 ++ (p1 ++ (p2 ++ [])) := hp
      obtain ⟨A1, k1, A2, k2, bs, ws, e1, h1, h2⟩ := rd_disk g0 (fun x hx => hlt x (by rw [hp2]; simp [hx]))
      obtain ⟨A3, n3, k3, e3, _, l3, h3, q3⟩ := rd_bytes Tryz.underlying26 Tryz.underlying5 Tryz.cc_u8 g1 (fun x hx => hlt x (by rw [hp2]; simp [hx]))
      obtain ⟨A4, n4, k4, e4, _, l4, h4, q4⟩ := rd_bytes Tryz.underlying26 Tryz.underlying5 Tryz.cc_u8 g2 (fun x hx => hlt x (by rw [hp2]; simp [hx]))
      simp only [List.cons.injEq, and_true] at e1 e3 e4
      obtain ⟨rfl, rfl⟩ := e1
      subst e3 e4 q3 q4
      exact ⟨A1, k1, A2, k2, A3, k3, A4, k4, ⟨bs, ws, l3, l4⟩, rfl, h1, h2, h3, h4⟩
theorem rd_pool {fuel : Nat} {cs : List Value} {d : DataW H} {p : List MemPlace} (h : DataW.trod enc Tryz.prog W 0 (fun _ => true) true fuel 32 cs = some (d, p)) (hlt : ∀ x ∈ p, x.block < W.heap.size) :
    ∃ A1 c1 A2 c2 A3 c3 A4 c4 gen root next A5 c5, ∃ (S : Sto) (dead : List Int), cs = (poolCs (.slice A1 S.bs.length c1) (.slice A2 S.ws.length c2) (.slice A3 S.now.length c3) (.slice A4 S.last.length c4) gen root next (.slice A5 dead.length c5)).toList ∧
      StoAt W W.heap.size (.slice A1 S.bs.length c1) (.slice A2 S.ws.length c2) (.slice A3 S.now.length c3) (.slice A4 S.last.length c4) S ∧ Ints W W.heap.size (.slice A5 dead.length c5) dead ∧
      (Lit.int .u32 gen).wf = true ∧ (Lit.int .i64 root).wf = true ∧ (Lit.int .u32 next).wf = true ∧ ∀ a ∈ dead, (Lit.int .i64 a).wf = true := by
  obtain ⟨xs, n, hl, hxl, hp, hf⟩ := trod_fields Tryz.underlying32 h
  rw [Tryz.cc_pool] at hl
  match cs, hl with
  | [c0, c1, c2, c3, c4, c5, c6, c7], _ =>
    match xs, hxl with
    | [(d0, p0), (d1, p1), (d2, p2), (d3, p3), (d4, p4)], _ =>
      have g0 : _ = some (d0, p0) := hf 0 28 0 4 rfl Tryz.cc_store
      have g1 : _ = some (d1, p1) := hf 1 29 4 1 rfl Tryz.cc_u32
      have g2 : _ = some (d2, p2) := hf 2 3 5 1 rfl Tryz.cc_int
      have g3 : _ = some (d3, p3) := hf 3 29 6 1 rfl Tryz.cc_u32
      have g4 : _ = some (d4, p4) := hf 4 30 7 1 rfl Tryz.cc_ints
      simp only [List.drop, List.take] at g0 g1 g2 g3 g4
      have hp2 : p = p0 ++ (p1 ++ (p2 ++ (p3 ++ (p4 ++ [])))) := hp
      obtain ⟨A1, k1, A2, k2, A3, k3, A4, k4, S, e0, hS⟩ := rd_store g0 (fun x hx => hlt x (by rw [hp2]; simp [hx]))
      obtain ⟨gen, e1, _, w1⟩ := DataW.trod_int Tryz.underlying29 g1
      obtain ⟨root, e2, _, w2⟩ := DataW.trod_int Tryz.underlying3 g2
      obtain ⟨next, e3, _, w3⟩ := DataW.trod_int Tryz.underlying29 g3
      obtain ⟨A5, k5, dead, e4, hd, w4⟩ := rd_ints g4 (fun x hx => hlt x (by rw [hp2]; simp [hx]))
      simp only [List.cons.injEq, and_true] at e0 e1 e2 e3 e4
      obtain ⟨rfl, rfl, rfl, rfl⟩ := e0
      subst e1 e2 e3 e4
      exact ⟨A1, k1, A2, k2, A3, k3, A4, k4, gen, root, next, A5, k5, S, dead, rfl, hS, hd, w1, w2, w3, w4⟩
end
end Go.Proofs.YtckhnchnbeoogaaGreat
namespace Go.Proofs.YtckhnchnbeoogaaGreat.volAsks
set_option linter.unusedSimpArgs false
set_option linter.unusedVariables false
open Go.ChangeShapes Go.WideShapes Go.ChangeAt Go.RowKit

theorem own : ownKnob Tryz.prog.godebug = none := by kernel_rfl
theorem laidOut : laidOutB Tryz.prog = true := by kernel_rfl
theorem cc_key : Tryz.prog.cellsOf 34 = 3 := by kernel_rfl
theorem key3 {H : Type} {enc : TypeId × Value → H} {W : World} {fuel : Nat} {cs : List Value} {d : DataW H} {p : List MemPlace} (h : DataW.trod enc Tryz.prog W 0 (fun _ => true) true fuel 34 cs = some (d, p)) : ∃ k i o, cs = [.int .u8 k, .int .u32 i, .int .u32 o] := by
  obtain ⟨xs, n, hl, hxl, hp, hf⟩ := trod_fields Tryz.underlying34 h
  rw [cc_key] at hl
  match cs, hl with
  | [c0, c1, c2], _ =>
    match xs, hxl with
    | [y0, y1, y2], _ =>
      have g0 : _ = some y0 := hf 0 5 0 1 rfl Tryz.cc_u8
      have g1 : _ = some y1 := hf 1 29 1 1 rfl Tryz.cc_u32
      have g2 : _ = some y2 := hf 2 29 2 1 rfl Tryz.cc_u32
      simp only [List.drop, List.take] at g0 g1 g2
      obtain ⟨k, ek, _, _⟩ := DataW.trod_int Tryz.underlying5 g0
      obtain ⟨i, ei, _, _⟩ := DataW.trod_int Tryz.underlying29 g1
      obtain ⟨o, eo, _, _⟩ := DataW.trod_int Tryz.underlying29 g2
      simp only [List.cons.injEq, and_true] at ek ei eo
      subst ek ei eo
      exact ⟨k, i, o, rfl⟩

set_option maxHeartbeats 1000000 in
set_option maxRecDepth 100000 in
theorem lifted (os : Os) (started : os.Started) (H : Type) (enc : TypeId × Value → H) :
    ReturnsInHanded {} Tryz.checked os 3 .any (Rows.volAsksSpec.pre6 enc Tryz.prog Tryz.f3 Rows.volAsksRow.domain false) (Rows.volAsksSpec.post enc Tryz.prog Tryz.f3 false true false false) := by
  refine returnsInHanded_of_change (C := Tryz.checked) own started (by kernel_rfl) Tryz.func3
    (ChangeSpec.witness6 (enc := enc) (C := Tryz.checked) false ⟨#[], #[.agg (poolCs (.slice none 0 0) (.slice none 0 0) (.slice none 0 0) (.slice none 0 0) 0 0 0 (.slice none 0 0)), .int .u32 0, keyV 0 0 0, keyV 0 0 0], []⟩ 8 (by kernel_rfl) (by kernel_rfl) (by kernel_rfl) (by kernel_rfl)) ?_
  intro W base args ds gs before hval0 hW hcnd _
  have hval : ∀ (j : Nat) t v, Tryz.f3.params[j]? = some t → args[j]? = some v → Value.okWide Tryz.prog W .any base t v := hval0
  have hW' := hW
  have hlt : ∀ x ∈ before, x.block < W.heap.size := fun x hx => hW.lt x hx
  obtain ⟨p, q, hA0, hV, rfl, hfz, hnd⟩ := hW
  have hA : DataW.TrodAll enc Tryz.prog W 0 (fun _ => true) true Tryz.f3.params.toList args.toList ds p := hA0
  rw [Tryz.params3] at hA hval
  obtain ⟨v0, vs0, d0, ds0, p0, q0, hargs, rfl, rfl, h0, r0⟩ := trodAll_cons hA
  obtain ⟨v1, vs1, d1, ds1, p1, q1, rfl, rfl, rfl, h1, r1⟩ := trodAll_cons r0
  obtain ⟨v2, vs2, d2, ds2, p2, q2, rfl, rfl, rfl, h2, r2⟩ := trodAll_cons r1
  obtain ⟨v3, vs3, d3, ds3, p3, q3, rfl, rfl, rfl, h3, r3⟩ := trodAll_cons r2
  obtain ⟨rfl, rfl, rfl⟩ := trodAll_nil r3
  obtain rfl : args = #[v0, v1, v2, v3] := by cases args; simp_all
  obtain ⟨rfl, rfl⟩ := trodVars_none hV
  obtain ⟨cs0, rfl, _⟩ := okWide_struct Tryz.underlying32 (hval 0 32 v0 rfl rfl)
  obtain ⟨id, rfl⟩ := okWide_int Tryz.underlying29 (hval 1 29 v1 rfl rfl)
  obtain ⟨cs2, rfl, _⟩ := okWide_struct Tryz.underlying34 (hval 2 34 v2 rfl rfl)
  obtain ⟨cs3, rfl, _⟩ := okWide_struct Tryz.underlying34 (hval 3 34 v3 rfl rfl)
  obtain ⟨n0, h0⟩ := h0
  obtain ⟨n2, h2⟩ := h2
  obtain ⟨n3, h3⟩ := h3
  obtain ⟨A1, c1, A2, c2, A3, c3, A4, c4, gen, root, next, A5, c5, S, dead, e0, hS, hd, _, _, _, _⟩ := rd_pool h0 (fun x hx => hlt x (by simp [hx]))
  obtain ⟨k, i, o, e2⟩ := key3 h2
  obtain ⟨k2, i2, o2, e3⟩ := key3 h3
  have e0' : cs0 = poolCs (.slice A1 S.bs.length c1) (.slice A2 S.ws.length c2) (.slice A3 S.now.length c3) (.slice A4 S.last.length c4) gen root next (.slice A5 dead.length c5) := by
    obtain ⟨cs0⟩ := cs0
    have : cs0 = _ := e0
    rw [this]
  have e2' : cs2 = #[.int .u8 k, .int .u32 i, .int .u32 o] := by
    obtain ⟨cs2⟩ := cs2
    have : cs2 = _ := e2
    rw [this]
  have e3' : cs3 = #[.int .u8 k2, .int .u32 i2, .int .u32 o2] := by
    obtain ⟨cs3⟩ := cs3
    have : cs3 = _ := e3
    rw [this]
  subst e0'
  subst e2'
  subst e3'
  have walk : Calls Tryz.prog 3 #[.agg (poolCs (.slice A1 S.bs.length c1) (.slice A2 S.ws.length c2) (.slice A3 S.now.length c3) (.slice A4 S.last.length c4) gen root next (.slice A5 dead.length c5)), .int .u32 id, keyV k i o, keyV k2 i2 o2] W (Ret (.bool true) W) := asks_any A1 c1 A2 c2 A3 c3 A4 c4 gen root next A5 c5 S dead id k i o k2 i2 o2 W hS hd
  refine walk.mono fun e W' ⟨he, hB⟩ => ?_
  subst he
  exact ⟨_, rfl, law_post rfl laidOut rfl Tryz.underlying4 (by
    intro t ht
    have : t = 32 ∨ t = 29 ∨ t = 34 ∨ t = 34 := by rw [Tryz.params3] at ht; simpa using ht
    rcases this with rfl | rfl | rfl | rfl
    · exact ⟨by kernel_rfl, of_decide_eq_true (by kernel_rfl)⟩
    · exact ⟨by kernel_rfl, of_decide_eq_true (by kernel_rfl)⟩
    · exact ⟨by kernel_rfl, of_decide_eq_true (by kernel_rfl)⟩
    · exact ⟨by kernel_rfl, of_decide_eq_true (by kernel_rfl)⟩) hW' rfl hB⟩

theorem over : Rows.volAsksRow.holds Tryz.pinned (OpenSpec.ofChange Rows.volAsksSpec) :=
  OpenClaim.holds_of_wide 3 Tryz.f3 rfl rfl rfl rfl rfl rfl rfl ⟨rfl, rfl, rfl, rfl, rfl⟩ rfl rfl rfl rfl rfl (by kernel_rfl) Tryz.func3 (by kernel_rfl)
    (of_decide_eq_true (by kernel_rfl)) (by unfold Func.isWrapper; first | (rw [if_pos (by decide +kernel)]; kernel_rfl) | (rw [if_neg (by decide +kernel)]; exact ⟨rfl, rfl⟩))
    (fun os started H enc _ => lifted os started H enc)

theorem proved : Rows.VolAsksSaid := over
end Go.Proofs.YtckhnchnbeoogaaGreat.volAsks
