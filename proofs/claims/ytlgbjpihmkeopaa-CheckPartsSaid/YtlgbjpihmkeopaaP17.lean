/- Contracts: the twin of a disk, of the program. -/
import Derived.Laws.MakeOwn
import Derived.Test.YtlgbjpihmkeopaaP16
namespace Go.Proofs.Ytlgbjpihmkeopaa
set_option linter.unusedSimpArgs false
set_option linter.unusedVariables false
open Go.RowKit

def outMk (lo n c : Nat) (ty : TypeId) (cs : Array Value) : Outs := ⟨Nat, fun b => .slice (some ⟨b, 0, none⟩) n c, fun b W => W.heap[b]? = some (.cells cs ty (0, 0)) ∧ lo ≤ b⟩
theorem outMk_f (lo n c : Nat) (ty : TypeId) (cs : Array Value) (b : Nat) : (outMk lo n c ty cs).f b = .slice (some ⟨b, 0, none⟩) n c := rfl
theorem outMk_stable (lo n c : Nat) (ty : TypeId) (cs : Array Value) : ∀ p, StableG extRel ((outMk lo n c ty cs).φ p) := fun p W W' he h => ⟨row_ext h.1 he, h.2⟩
def outHp (hb g o n : Nat) (cur : Array Value) (l : List UInt8) : Outs := ⟨Nat, fun _ => .slice (some ⟨g, o, none⟩) l.length l.length, fun o' W => (0 < n - l.length → o' = o + l.length) ∧ (n - l.length = 0 → o' = o) ∧ HeapB hb g o' (n - l.length) (laidAt cur o l) W⟩
theorem outHp_f (hb g o n : Nat) (cur : Array Value) (l : List UInt8) (p : Nat) : (outHp hb g o n cur l).f p = .slice (some ⟨g, o, none⟩) l.length l.length := rfl
theorem outHp_stable (hb g o n : Nat) (cur : Array Value) (l : List UInt8) : ∀ p, StableG extRel ((outHp hb g o n cur l).φ p) := fun p W W' he ⟨h1, h2, h3⟩ => ⟨h1, h2, ⟨row_ext h3.box he, row_ext h3.row he, h3.ne, h3.fit, h3.few⟩⟩
theorem run_mkHeap {T : Nat} (hT : T ≤ 281474976710656) (w : World) : (Instr.makeSlice 195 (.int .i64 (T : Int)) (.int .i64 (T : Int))).run Try.prog w = .ok (.slice (some ⟨w.heap.size, 0, none⟩) T T) (w.alloc (.cells (madeCells #[.int .u8 0] T) 5)) := by
  obtain ⟨i0, hi, hz0, hz1, hz2⟩ := info_parts Try.info_u8
  have h := run_make (P := Try.prog) w 195 5 i0 _ Try.underlying195 hi hz0 .i64 .i64 (T : Int) (T : Int) (by omega) (by omega) (by rw [hz2]; omega) (by omega)
  rw [hz1, Int.toNat_natCast, Nat.mul_one] at h
  exact h
theorem run_mkBlocks {n : Nat} (hn : n < 1000000) (w : World) : (Instr.makeSlice 22 (.int .i64 (n : Int)) (.int .i64 (n : Int))).run Try.prog w = .ok (.slice (some ⟨w.heap.size, 0, none⟩) n n) (w.alloc (.cells (madeCells #[.slice none 0 0] n) 26)) := by
  obtain ⟨i0, hi, hz0, hz1, hz2⟩ := info_parts Try.info_bytes
  have h := run_make (P := Try.prog) w 22 26 i0 _ Try.underlying22 hi hz0 .i64 .i64 (n : Int) (n : Int) (by omega) (by omega) (by rw [hz2]; omega) (by omega)
  rw [hz1, Int.toNat_natCast, Nat.mul_one] at h
  exact h
theorem run_mkWrites {n : Nat} (hn : n < 1000000) (w : World) : (Instr.makeSlice 23 (.int .i64 (n : Int)) (.int .i64 ((n : Int) + 1))).run Try.prog w = .ok (.slice (some ⟨w.heap.size, 0, none⟩) n (n + 1)) (w.alloc (.cells (madeCells #[.int .i64 0, .slice none 0 0] ((n + 1) * 2)) 137)) := by
  obtain ⟨i0, hi, hz0, hz1, hz2⟩ := info_parts Try.info_write
  have h := run_make (P := Try.prog) w 23 137 i0 _ Try.underlying23 hi hz0 .i64 .i64 (n : Int) ((n : Int) + 1) (by omega) (by omega) (by rw [hz2]; omega) (by omega)
  rw [hz1, Int.toNat_natCast, show ((n : Int) + 1).toNat = n + 1 by omega] at h
  exact h

structure TwI (bs : List (List UInt8)) (ws : List (Int × List UInt8)) (T lo : Nat) (w5 : World) (hb g BB WW ob : Nat) (i : Value) (wr : World) : Prop where
  ex : ∃ k : Nat, k ≤ bs.length ∧ i = .int .i64 (k : Int) ∧ TwS bs ws T lo w5 hb g BB WW ob k 0 (totL (bs.take k)) wr
structure TwJ (bs : List (List UInt8)) (ws : List (Int × List UInt8)) (T lo : Nat) (w5 : World) (hb g BB WW ob : Nat) (i : Value) (wr : World) : Prop where
  ex : ∃ k : Nat, k ≤ ws.length ∧ i = .int .i64 (k : Int) ∧ TwS bs ws T lo w5 hb g BB WW ob bs.length k (totL bs + totL ((ws.take k).map (·.2))) wr
theorem one_at {c : Nat} {hh : Outs} : ∀ i h, outsAt [(c, hh)] i = some h → i = c := by
  intro i h e
  simp only [outsAt] at e
  split at e
  · assumption
  · cases e

set_option maxHeartbeats 4000000 in
set_option maxRecDepth 100000 in
theorem dtwin_any (A1 : Option Addr) (n1 c1 : Nat) (A2 : Option Addr) (n2 c2 : Nat) (bs : List (List UInt8)) (ws : List (Int × List UInt8)) (hbl : bs.length < 1000000) (hwl : ws.length < 1000000) (hbe : ∀ l ∈ bs, l.length < 1000000) (hwe : ∀ p ∈ ws, p.2.length < 1000000) (w : World)
    (hb : Bls w w.heap.size (.slice A1 n1 c1) bs) (hw : Wrs w w.heap.size (.slice A2 n2 c2) ws) :
    Calls Try.prog 96 #[diskV A1 n1 c1 A2 n2 c2] w (fun e W => ∃ BB WW g, e = .returned (diskV (some ⟨BB, 0, none⟩) bs.length bs.length (some ⟨WW, 0, none⟩) ws.length (ws.length + 1)) ∧ DiskT w.heap.size bs ws BB WW g W ∧ Below w.heap.size w W) := by
  obtain ⟨e1, hc1, hm1, hA1⟩ := hb.at_
  obtain ⟨e2, hc2, hm2, hA2⟩ := hw.at_
  subst e1
  subst e2
  have HB := Lib.hid hb
  have HW := Lib.hid hw
  have hTb : totL bs ≤ 1000000000000 := Nat.le_trans (totL_le hbe) (by omega)
  have hTw : totL (ws.map (·.2)) ≤ 1000000000000 := Nat.le_trans (totL_le (fun l hl => by obtain ⟨p, hp, rfl⟩ := List.mem_map.1 hl; exact hwe p hp)) (by rw [List.length_map]; omega)
  clear hb hw hm1 hm2
  go_enter Try.func96, Try.ntmps96
  go_wp2_with fail
  generalize hw1 : (World.alloc (World.alloc _ _) _) = w1
  have x1 : Ext w w1 := by rw [← hw1]; exact (Ext.alloc _ _).trans (Ext.alloc _ _)
  have r1 : w1.heap[w.heap.size]? = some (.cells #[.slice A1 bs.length c1, .slice A2 ws.length c2] 25 (0, 0)) := by rw [← hw1]; exact (Below.heap_alloc _ _ _ (by simp)).trans (World.alloc_heap_at _ _ _ rfl)
  have q1 : w1.heap[w.heap.size + 1]? = some (.cells #[.slice none 0 0, .slice none 0 0] 25 (0, 0)) := by rw [← hw1]; exact World.alloc_heap_at _ _ _ (by simp)
  have z1 : w1.heap.size = w.heap.size + 2 := by rw [← hw1]; simp
  clear hw1
  go_wp2_with fail
  go_loopw [3, 17] (fun all i wr => ∃ k : Nat, k ≤ bs.length ∧ i = .int .i64 (k : Int) ∧ all = .int .i64 ((totL (bs.take k) : Nat) : Int) ∧ Ext w1 wr) (fun _ i _ => bs.length - (intOf i).toNat)
  case atStart => exact ⟨0, Nat.zero_le _, rfl, rfl, Ext.refl _⟩
  case round =>
    obtain ⟨k, hk, rfl, rfl, hE⟩ := hrel
    have xw : Below w.heap.size w wr := Ext.trans x1 hE
    have rr := row_ext r1 hE
    have kr := cells_row rr
    by_cases hlt : k < bs.length
    · obtain ⟨b1, o1, rfl, hb1⟩ := hA1 (by omega)
      obtain ⟨A', c', hc, _⟩ := (HB.out.below xw).get k hlt
      have hsn := totL_take hlt
      have hle := totL_take_le bs (k + 1)
      generalize bs[k].length = m at *
      generalize totL (bs.take k) = q at *
      have hwq := Lib.hid (IntWalk.wrap64_in ((q : Int) + (m : Int)) (by omega))
      have hwk := Lib.hid (IntWalk.wrap64_in ((k : Int) + 1) (by omega))
      go_wp2_with fail
      refine ⟨⟨k + 1, by omega, by push_cast; rfl, by rw [hsn]; push_cast; rfl, hE⟩, ?_⟩
      simp [intOf]
      omega
    · obtain rfl : k = bs.length := by omega
      rw [List.take_length]
      generalize hwm : wr = wm at *
      clear hwm kr rr
      have r2 := row_ext r1 hE
      have q2 := row_ext q1 hE
      have k2 := cells_row r2
      obtain ⟨tb, htb⟩ : ∃ tb, tb = totL bs := ⟨_, rfl⟩
      obtain ⟨tw, htw⟩ : ∃ tw, tw = totL (ws.map (·.2)) := ⟨_, rfl⟩
      rw [← htb] at hTb ⊢
      rw [← htw] at hTw
      replace htb := Lib.hid htb
      replace htw := Lib.hid htw
      go_wp2_with fail
      go_loopw [3, 29] (fun all i wr => ∃ k : Nat, k ≤ ws.length ∧ i = .int .i64 (k : Int) ∧ all = .int .i64 ((tb + totL ((ws.take k).map (·.2)) : Nat) : Int) ∧ Ext wm wr) (fun _ i _ => ws.length - (intOf i).toNat)
      case atStart => exact ⟨0, Nat.zero_le _, rfl, rfl, Ext.refl _⟩
      case round =>
        obtain ⟨k, hk, rfl, rfl, hE2⟩ := hrel
        have xw2 : Below w.heap.size w wr := Ext.trans xw hE2
        have rr := row_ext r2 hE2
        have kr := cells_row rr
        clear k2
        by_cases hlt : k < ws.length
        · obtain ⟨b2, o2, rfl, hb2⟩ := hA2 (by omega)
          obtain ⟨A', c', ha, hc, _⟩ := (HW.out.below xw2).get k hlt
          have hsn : totL ((ws.take (k + 1)).map (·.2)) = totL ((ws.take k).map (·.2)) + ws[k].2.length := by
            rw [List.map_take, List.map_take, totL_take (by rw [List.length_map]; exact hlt), List.getElem_map]
          have hle : totL ((ws.take (k + 1)).map (·.2)) ≤ tw := by rw [htw.out, List.map_take]; exact totL_take_le _ _
          generalize ws[k].2.length = m at *
          generalize ws[k].1 = pn at *
          generalize totL ((ws.take k).map (·.2)) = q at *
          have hwq := Lib.hid (IntWalk.wrap64_in (((tb + q : Nat) : Int) + (m : Int)) (by omega))
          have hwk := Lib.hid (IntWalk.wrap64_in ((k : Int) + 1) (by omega))
          go_wp2_with fail
          refine ⟨⟨k + 1, by omega, by push_cast; rfl, by rw [hsn]; push_cast; rw [Int.add_assoc], hE2.trans (Ext.alloc _ _)⟩, ?_⟩
          simp [intOf]
          omega
        · obtain rfl : k = ws.length := by omega
          rw [List.take_length, ← htw.out]
          have hmk := run_mkHeap (T := tb + tw) (by omega)
          obtain ⟨T, hT⟩ : ∃ T, T = tb + tw := ⟨_, rfl⟩
          rw [← hT] at hmk ⊢
          have hT2 : T ≤ 2000000000000 := by omega
          replace hT := Lib.hid hT
          go_wp2_with fail
          generalize hwn : World.alloc (World.alloc _ _) _ = wn
          have x3 : Ext wr wn := by rw [← hwn]; exact (Ext.alloc _ _).trans (Ext.alloc _ _)
          have g3 : wn.heap[wr.heap.size]? = some (.cells (madeCells #[.int .u8 0] T) 5 (0, 0)) := by rw [← hwn]; exact (Below.heap_alloc _ _ _ (by simp)).trans (World.alloc_heap_at _ _ _ rfl)
          have b3 : wn.heap[wr.heap.size + 1]? = some (.cells #[.slice (some ⟨wr.heap.size, 0, none⟩) T T] 195 (0, 0)) := by rw [← hwn]; exact World.alloc_heap_at _ _ _ (by simp)
          have zn0 : wn.heap.size = wr.heap.size + 2 := by rw [← hwn]; simp
          clear hwn hmk
          have r3 := row_ext rr x3
          have q3 := row_ext (row_ext q2 hE2) x3
          have xw3 : Ext w wn := Ext.trans xw2 x3
          have k3 := cells_row r3
          have zr := (Array.getElem?_eq_some_iff.1 q2).1
          have zr2 := hE2.size
          have zn : wn.heap.size = wr.heap.size + 2 := zn0
          clear kr rr r2 q2 r1 q1 x1 hE hE2 xw xw2
          generalize wr.heap.size = s0 at g3 b3 zn zr2 ⊢
          have zs0 : w.heap.size + 1 < s0 := by omega
          clear zr zr2 zn0
          have g1 : ∀ W, extRel.r wn W → ∀ i, W.cell? ⟨w.heap.size, i, none⟩ = #[.slice A1 bs.length c1, .slice A2 ws.length c2][i]? := fun W h => cells_row (row_ext r3 h)
          have hmkB := run_mkBlocks hbl
          have hmkW := run_mkWrites hwl
          have hi1 := Lib.hid (IntWalk.i64_in ((ws.length : Int) + 1) (by omega))
          have hwm1 : wrap64 ((ws.length : Int) + 1) = (ws.length : Int) + 1 := IntWalk.wrap64_in _ (by omega)
          go_wp2_with fail
          refine region_start (by kernel_rfl) ?_
          refine any_freeT (w := wn) extRel (outsAt [(3, outMk wn.heap.size bs.length bs.length 26 (madeCells #[.slice none 0 0] bs.length)), (11, outMk wn.heap.size ws.length (ws.length + 1) 137 (madeCells #[.int .i64 0, .slice none 0 0] ((ws.length + 1) * 2))), (13, outNew wn.heap.size 25 #[.slice none 0 0, .slice none 0 0])])
            [true, true, true, true, true, true, true, true, true, true, true, true, true, true] 1 (by kernel_rfl) (by kernel_rfl) (by kernel_rfl) (by kernel_rfl) (by kernel_rfl) (by kernel_rfl) (by kernel_rfl) ?st (Rel.drew _ _) ?walk
          case st => exact outsAt_stableG (by simp only [List.forall_mem_cons]; exact ⟨outMk_stable _ _ _ _ _, outMk_stable _ _ _ _ _, fun p => stableG_ext (outNew_stable _ _ _ p), fun _ h => by cases h⟩)
          case walk =>
            intro K hK
            dsimp only [maskOps]
            repeat ((first | (refine free_plainM ?_ (by rfl) (by rfl) (fun W hW _ => ⟨W, ?_, Rel.refl _ W⟩) ?_; rotate_left; (first | (go_simp; with_reducible rfl) | (go_simp; done))) | (refine free_skipM (by rfl) ?_)); try simp only [Act.put, one_f, outB_f, outNew_f, outI_f, outMk_f, outHp_f, outNew_f, List.setIfInBounds_toArray, List.set_cons_zero, List.set_cons_succ])
            refine free_hardM (outMk wn.heap.size bs.length bs.length 26 (madeCells #[.slice none 0 0] bs.length)) (by rfl) (by rfl) (fun W hW _ => ?_) (fun (BB : Nat) => ?_)
            · have hW : Ext wn W := hW
              refine hardAt_valueG (u := .slice (some ⟨W.heap.size, 0, none⟩) bs.length bs.length) (w' := W.alloc (.cells (madeCells #[.slice none 0 0] bs.length) 26)) ?_ ⟨W.heap.size, rfl, ⟨World.alloc_heap_at _ _ _ rfl, hW.size⟩, Ext.alloc _ _⟩
              go_simp
            simp only [Act.put, one_f, outB_f, outNew_f, outI_f, outMk_f, outHp_f, outNew_f, List.setIfInBounds_toArray, List.set_cons_zero, List.set_cons_succ]
            repeat ((first | (refine free_plainM ?_ (by rfl) (by rfl) (fun W hW _ => ⟨W, ?_, Rel.refl _ W⟩) ?_; rotate_left; (first | (go_simp; with_reducible rfl) | (go_simp; done))) | (refine free_skipM (by rfl) ?_)); try simp only [Act.put, one_f, outB_f, outNew_f, outI_f, outMk_f, outHp_f, outNew_f, List.setIfInBounds_toArray, List.set_cons_zero, List.set_cons_succ])
            refine free_hardM (outMk wn.heap.size ws.length (ws.length + 1) 137 (madeCells #[.int .i64 0, .slice none 0 0] ((ws.length + 1) * 2))) (by rfl) (by rfl) (fun W hW _ => ?_) (fun (WW : Nat) => ?_)
            · have hW : Ext wn W := hW
              refine hardAt_valueG (u := .slice (some ⟨W.heap.size, 0, none⟩) ws.length (ws.length + 1)) (w' := W.alloc (.cells (madeCells #[.int .i64 0, .slice none 0 0] ((ws.length + 1) * 2)) 137)) ?_ ⟨W.heap.size, rfl, ⟨World.alloc_heap_at _ _ _ rfl, hW.size⟩, Ext.alloc _ _⟩
              go_simp
              rw [hi1.out, hmkW]
              rfl
            simp only [Act.put, one_f, outB_f, outNew_f, outI_f, outMk_f, outHp_f, outNew_f, List.setIfInBounds_toArray, List.set_cons_zero, List.set_cons_succ]
            repeat ((first | (refine free_plainM ?_ (by rfl) (by rfl) (fun W hW _ => ⟨W, ?_, Rel.refl _ W⟩) ?_; rotate_left; (first | (go_simp; with_reducible rfl) | (go_simp; done))) | (refine free_skipM (by rfl) ?_)); try simp only [Act.put, one_f, outB_f, outNew_f, outI_f, outMk_f, outHp_f, outNew_f, List.setIfInBounds_toArray, List.set_cons_zero, List.set_cons_succ])
            refine free_hardM (outNew wn.heap.size 25 #[.slice none 0 0, .slice none 0 0]) (by rfl) (by rfl) (fun W hW _ => ?_) (fun (ob : Nat) => ?_)
            · have hW : Ext wn W := hW
              refine hardAt_newE ?_ hW.size
              go_simp
            simp only [Act.put, one_f, outB_f, outNew_f, outI_f, outMk_f, outHp_f, outNew_f, List.setIfInBounds_toArray, List.set_cons_zero, List.set_cons_succ]
            repeat ((first | (refine free_plainM ?_ (by rfl) (by rfl) (fun W hW _ => ⟨W, ?_, Rel.refl _ W⟩) ?_; rotate_left; (first | (go_simp; with_reducible rfl) | (go_simp; done))) | (refine free_skipM (by rfl) ?_)); try simp only [Act.put, one_f, outB_f, outNew_f, outI_f, outMk_f, outHp_f, outNew_f, List.setIfInBounds_toArray, List.set_cons_zero, List.set_cons_succ])
            refine free_nilM (hK _ _ fun W hW hF => ?_)
            have hBB : W.heap[BB]? = some (.cells (madeCells #[.slice none 0 0] bs.length) 26 (0, 0)) ∧ wn.heap.size ≤ BB := (hF 3).1
            have hWW : W.heap[WW]? = some (.cells (madeCells #[.int .i64 0, .slice none 0 0] ((ws.length + 1) * 2)) 137 (0, 0)) ∧ wn.heap.size ≤ WW := (hF 11).1
            have hob : W.heap[ob]? = some (.cells #[.slice none 0 0, .slice none 0 0] 25 (0, 0)) ∧ wn.heap.size ≤ ob := (hF 13).1
            have hW : Ext wn W := hW
            have ko := cells_row hob.1
            have fo := frozen_row hob.1
            clear hF hK g1 hmkB hmkW hwm1 k3
            dsimp only [List.drop, List.length_cons, List.length_nil]
            go_wp2
            refine QN_in ?_
            have rob := row_set (row_set hob.1 0 (.slice (some ⟨BB, 0, none⟩) bs.length bs.length)) 1 (.slice (some ⟨WW, 0, none⟩) ws.length (ws.length + 1))
            have st : ∀ b, b ≠ ob → ((W.setCell ⟨ob, 0, none⟩ (.slice (some ⟨BB, 0, none⟩) bs.length bs.length)).setCell ⟨ob, 1, none⟩ (.slice (some ⟨WW, 0, none⟩) ws.length (ws.length + 1))).heap[b]? = W.heap[b]? := fun b hb => (Below.heap_setCell _ _ _ _ hb).trans (Below.heap_setCell _ _ _ _ hb)
            have n1 : BB ≠ ob := ne_of_row hBB.1 hob.1 (by decide)
            have n2 : WW ≠ ob := ne_of_row hWW.1 hob.1 (by decide)
            have hob2 := hob.2
            have B5 : Below s0 wn ((W.setCell ⟨ob, 0, none⟩ (.slice (some ⟨BB, 0, none⟩) bs.length bs.length)).setCell ⟨ob, 1, none⟩ (.slice (some ⟨WW, 0, none⟩) ws.length (ws.length + 1))) := Below.setCell (Below.setCell (Below.mono hW (by omega)) (p := ⟨ob, 0, none⟩) (by show s0 ≤ ob; omega) _) (p := ⟨ob, 1, none⟩) (by show s0 ≤ ob; omega) _
            have T0 : TwS bs ws T s0 wn (s0 + 1) s0 BB WW ob 0 0 0 ((W.setCell ⟨ob, 0, none⟩ (.slice (some ⟨BB, 0, none⟩) bs.length bs.length)).setCell ⟨ob, 1, none⟩ (.slice (some ⟨WW, 0, none⟩) ws.length (ws.length + 1))) :=
              ⟨B5, ⟨by omega, by omega, by omega, by omega, by omega⟩, rob, ⟨0, T, _, ⟨(st _ (by omega)).trans (row_ext b3 hW), (st _ (by omega)).trans (row_ext g3 hW), by omega, by rw [size_madeCells]; omega, by omega⟩, Nat.le_refl _, fun _ => rfl, by omega, size_madeCells _ _⟩,
                ⟨_, (st _ n1).trans hBB.1, size_madeCells _ _, fun _ _ _ h => by omega⟩, ⟨_, (st _ n2).trans hWW.1, size_madeCells _ _, fun _ _ _ h => by omega⟩⟩
            generalize World.setCell (World.setCell W _ _) _ _ = w6 at *
            clear n1 n2 hob2 rob st hob hWW hBB hW g3 b3 ko fo
            have r6 := (B5.block w.heap.size (by omega)).trans r3
            have q6 := (B5.block (w.heap.size + 1) (by omega)).trans q3
            have xw6 : Below w.heap.size w w6 := Below.trans xw3 (Below.mono B5 (by omega))
            have k6 := cells_row r6
            have I0 : TwI bs ws T s0 wn (s0 + 1) s0 BB WW ob (.int .i64 0) w6 := ⟨0, Nat.zero_le _, rfl, T0⟩
            replace I0 := Lib.hid I0
            have r3' := Lib.hid r3
            have q3' := Lib.hid q3
            clear B5 T0 r3 q3 x3 r6
            go_wp2_with fail
            go_loopw [57] (fun i wr => TwI bs ws T s0 wn (s0 + 1) s0 BB WW ob i wr) (fun i _ => bs.length - (intOf i).toNat)
            case atStart => exact I0.out
            case round =>
              obtain ⟨k, hk, rfl, hTS⟩ := hrel.ex
              clear hrel I0 k6
              have xwr : Below w.heap.size w wr := Below.trans xw3 (Below.mono hTS.below (by omega))
              have rr := (hTS.below.block w.heap.size (by omega)).trans r3'.out
              have kr := cells_row rr
              by_cases hlt : k < bs.length
              · have hlt' := hlt
                obtain ⟨b1, o1, rfl, hb1⟩ := hA1 (by omega)
                obtain ⟨A', c', hc, hby⟩ := (HB.out.below xwr).get k hlt
                have hsn := totL_take hlt
                have hle := totL_take_le bs (k + 1)
                have hgk := List.getElem?_eq_getElem hlt
                generalize bs[k] = l at *
                obtain ⟨o, n, cur, hH, q1, q2, q3, q4⟩ := hTS.heap
                have hln : l.length ≤ n := by have := hT.out; have := htb.out; omega
                have hby' : Bys wr wr.heap.size (.slice A' l.length c') l := hby.more xwr.size
                have hout := hTS.out
                have zob := (Array.getElem?_eq_some_iff.1 hout).1
                obtain ⟨cb, rb, sb, _⟩ := hTS.bb
                have n1 : ob ≠ s0 + 1 := ne_of_row hout hH.box (by decide)
                have n2 : ob ≠ s0 := ne_of_row hout hH.row (by decide)
                have n3 : BB ≠ s0 + 1 := ne_of_row rb hH.box (by decide)
                have n4 : BB ≠ s0 := ne_of_row rb hH.row (by decide)
                have hle2 : ∀ a b, extRel.r a b → (chgRel (s0 + 1) s0).r a b := chg_ext
                obtain ⟨RR, hRR⟩ : ∃ RR : Rel, RR = chgRel (s0 + 1) s0 := ⟨_, rfl⟩
                rw [← hRR] at hle2
                have hle := hle2
                have g1 : ∀ W, RR.r wr W → ∀ i, W.cell? ⟨ob, i, none⟩ = #[.slice (some ⟨BB, 0, none⟩) bs.length bs.length, .slice (some ⟨WW, 0, none⟩) ws.length (ws.length + 1)][i]? := fun W h => cells_row (chg_row (hRR ▸ h) n1 n2 hout)
                replace hRR := Lib.hid hRR
                replace hTS := Lib.hid hTS
                replace hsn := Lib.hid hsn
                replace hgk := Lib.hid hgk
                replace hH := Lib.hid hH
                replace rb := Lib.hid rb
                clear q1 q2 q3 q4 hle2 hA2
                go_wp2_with fail
                refine region_start (by kernel_rfl) ?_
                refine any_freeC (w := wr) extRel RR 4 hle (outsAt [(4, outHp (s0 + 1) s0 o n cur l)]) [true, true, true, true, true, true] 1 (by kernel_rfl) (by kernel_rfl) (by kernel_rfl) (by kernel_rfl) (by kernel_rfl) (by kernel_rfl) (by kernel_rfl) ?st one_at (Rel.drew _ _) ?walk
                case st => exact outsAt_stableG (by simp only [List.forall_mem_cons]; exact ⟨outHp_stable _ _ _ _ _ _, fun _ h => by cases h⟩)
                case walk =>
                  intro K hK
                  dsimp only [maskOps]
                  repeat ((first | (refine free_readC hle ?_ (by rfl) (by rfl) (fun W hW _ => ?_) ?_; rotate_left; (first | (go_simp; with_reducible rfl) | (go_simp; done))) | (refine free_skipC (by rfl) ?_)); try simp only [Act.put, one_f, outB_f, outNew_f, outI_f, outMk_f, outHp_f, outNew_f, List.setIfInBounds_toArray, List.set_cons_zero, List.set_cons_succ])
                  refine free_hardC (outHp (s0 + 1) s0 o n cur l) (by rfl) (by rfl) (fun W hW _ => ?_) (fun (p : Nat) => ?_)
                  · have hW : Ext wr W := hW
                    refine hardAt_callG ?_ ((hclone_any (s0 + 1) s0 o n cur A' c' l hln W ⟨row_ext hH.out.box hW, row_ext hH.out.row hW, hH.out.ne, hH.out.fit, hH.out.few⟩ (hby'.below hW |>.more hW.size)).mono fun e w' h => ?_)
                    · go_simp
                    obtain ⟨o', rfl, h1, h2, h3, e1, e2, e3, e4, e5⟩ := h
                    refine ⟨o', rfl, ⟨h1, h2, h3⟩, ?_⟩
                    rw [hRR.out]
                    exact ⟨e2, e3, e4, Nat.le_of_eq e1.symm, fun b _ h1 h2 => e5 b h1 h2⟩
                  simp only [Act.put, one_f, outB_f, outNew_f, outI_f, outMk_f, outHp_f, outNew_f, List.setIfInBounds_toArray, List.set_cons_zero, List.set_cons_succ]
                  repeat ((first | (refine free_readC hle ?_ (by rfl) (by rfl) (fun W hW _ => ?_) ?_; rotate_left; (first | (go_simp; with_reducible rfl) | (go_simp; done))) | (refine free_skipC (by rfl) ?_)); try simp only [Act.put, one_f, outB_f, outNew_f, outI_f, outMk_f, outHp_f, outNew_f, List.setIfInBounds_toArray, List.set_cons_zero, List.set_cons_succ])
                  first
                    | (refine free_readC hle (.pointer (some ⟨BB, 0 + k, none⟩)) (by rfl) (by rfl) (fun W hW _ => ?_) ?_
                       · go_simp
                         rw [IntWalk.i64_in (k : Int) (by omega), if_pos (by omega)]
                         simp
                       simp only [Act.put, one_f, outB_f, outNew_f, outI_f, outMk_f, outHp_f, outNew_f, List.setIfInBounds_toArray, List.set_cons_zero, List.set_cons_succ])
                    | skip
                  repeat ((first | (refine free_readC hle ?_ (by rfl) (by rfl) (fun W hW _ => ?_) ?_; rotate_left; (first | (go_simp; with_reducible rfl) | (go_simp; done))) | (refine free_skipC (by rfl) ?_)); try simp only [Act.put, one_f, outB_f, outNew_f, outI_f, outMk_f, outHp_f, outNew_f, List.setIfInBounds_toArray, List.set_cons_zero, List.set_cons_succ])
                  refine free_nilC (hK _ _ fun W hW hF => ?_)
                  obtain ⟨h1, h2, hH'⟩ : (outHp (s0 + 1) s0 o n cur l).φ p W := (hF 4).1
                  clear hF hK g1
                  rw [hRR.out] at hW
                  dsimp only [List.drop, List.length_cons, List.length_nil]
                  obtain ⟨T1, hin⟩ := hTS.out.clone hH.out hln hW h1 h2 hH'
                  have rB := chg_row hW n3 n4 rb.out
                  have kB := cells_row rB k
                  have fB := frozen_row rB k
                  rw [Array.getElem?_eq_getElem (by omega)] at kB
                  generalize cb[k] = u0 at *
                  have T2 := T1.setB hgk.out hin
                  rw [← hsn.out] at T2
                  have IR : TwI bs ws T s0 wn (s0 + 1) s0 BB WW ob (.int .i64 ((k : Int) + 1)) (W.setCell ⟨BB, k, none⟩ (.slice (some ⟨s0, o, none⟩) l.length l.length)) := ⟨k + 1, by omega, rfl, T2⟩
                  replace IR := Lib.hid IR
                  have hwk := Lib.hid (IntWalk.wrap64_in ((k : Int) + 1) (by omega))
                  clear T1 T2 hin hW h1 h2 hH' rB rb hTS hH hsn hgk
                  go_wp2
                  refine QN_in ?_
                  go_wp2_with fail
                  try rw [hwk.out]
                  refine ⟨IR.out, ?_⟩
                  simp [intOf]
                  omega
              · obtain rfl : k = bs.length := by omega
                rw [List.take_length] at hTS
                have J0 : TwJ bs ws T s0 wn (s0 + 1) s0 BB WW ob (.int .i64 0) wr := ⟨0, Nat.zero_le _, rfl, hTS⟩
                replace J0 := Lib.hid J0
                generalize hwk : wr = wk at *
                clear hwk hTS xwr
                go_wp2_with fail
                go_loopw [72] (fun i wr => TwJ bs ws T s0 wn (s0 + 1) s0 BB WW ob i wr) (fun i _ => ws.length - (intOf i).toNat)
                case atStart => exact J0.out
                case round =>
                  obtain ⟨k, hk, rfl, hTS⟩ := hrel.ex
                  clear hrel J0 kr rr
                  have xwr : Below w.heap.size w wr := Below.trans xw3 (Below.mono hTS.below (by omega))
                  have rr := (hTS.below.block w.heap.size (by omega)).trans r3'.out
                  have kr := cells_row rr
                  by_cases hlt : k < ws.length
                  · have hlt' := hlt
                    obtain ⟨b2, o2, rfl, hb2⟩ := hA2 (by omega)
                    obtain ⟨A', c', ha, hc, hby⟩ := (HW.out.below xwr).get k hlt
                    have hsn : totL ((ws.take (k + 1)).map (·.2)) = totL ((ws.take k).map (·.2)) + ws[k].2.length := by
                      rw [List.map_take, List.map_take, totL_take (by rw [List.length_map]; exact hlt), List.getElem_map]
                    have hle : totL ((ws.take (k + 1)).map (·.2)) ≤ tw := by rw [htw.out, List.map_take]; exact totL_take_le _ _
                    have hgk := List.getElem?_eq_getElem hlt
                    generalize ws[k] = pl at *
                    obtain ⟨pn, l⟩ := pl
                    simp only at ha hc hby hsn
                    go_upto_region 22 with fail
                    generalize hwp : World.alloc wr _ = wp
                    have xp : Ext wr wp := by rw [← hwp]; exact Ext.alloc _ _
                    have tp : wp.heap[wr.heap.size]? = some (.cells #[.int .i64 pn, .slice A' l.length c'] 137 (0, 0)) := by rw [← hwp]; exact World.alloc_heap_at _ _ _ rfl
                    clear hwp
                    have hls : s0 ≤ wr.heap.size := Nat.le_trans (Nat.le_trans (by omega) hTS.below.size) (Nat.le_refl _)
                    have hTP := hTS.ext xp hls
                    obtain ⟨o, n, cur, hH, q1, q2, q3, q4⟩ := hTP.heap
                    have hln : l.length ≤ n := by have := hT.out; have := htb.out; omega
                    have hby' : Bys wp wp.heap.size (.slice A' l.length c') l := (hby.below (Below.mono xp xwr.size)).more (by have := xp.size; have := xwr.size; omega)
                    have hout := hTP.out
                    obtain ⟨cw, rw_, sw, _⟩ := hTP.ww
                    have zhb := (Array.getElem?_eq_some_iff.1 ((hTS.heap).choose_spec.choose_spec.choose_spec.1.box)).1
                    have zg := (Array.getElem?_eq_some_iff.1 ((hTS.heap).choose_spec.choose_spec.choose_spec.1.row)).1
                    have zw := (Array.getElem?_eq_some_iff.1 (hTS.ww.choose_spec.1)).1
                    have n1 : ob ≠ s0 + 1 := ne_of_row hout hH.box (by decide)
                    have n2 : ob ≠ s0 := ne_of_row hout hH.row (by decide)
                    have n3 : WW ≠ s0 + 1 := ne_of_row rw_ hH.box (by decide)
                    have n4 : WW ≠ s0 := ne_of_row rw_ hH.row (by decide)
                    have hle2 : ∀ a b, extRel.r a b → (chgRel (s0 + 1) s0).r a b := chg_ext
                    obtain ⟨RR, hRR⟩ : ∃ RR : Rel, RR = chgRel (s0 + 1) s0 := ⟨_, rfl⟩
                    rw [← hRR] at hle2
                    have hle := hle2
                    generalize wr.heap.size = tt at tp hls zhb zg zw ⊢
                    have g1 : ∀ W, RR.r wp W → ∀ i, W.cell? ⟨ob, i, none⟩ = #[.slice (some ⟨BB, 0, none⟩) bs.length bs.length, .slice (some ⟨WW, 0, none⟩) ws.length (ws.length + 1)][i]? := fun W h => cells_row (chg_row (hRR ▸ h) n1 n2 hout)
                    have g2 : ∀ W, RR.r wp W → ∀ i, W.cell? ⟨tt, i, none⟩ = #[.int .i64 pn, .slice A' l.length c'][i]? := fun W h => cells_row (chg_row (hRR ▸ h) (by omega) (by omega) tp)
                    replace hRR := Lib.hid hRR
                    replace hTP := Lib.hid hTP
                    replace hsn := Lib.hid hsn
                    replace hgk := Lib.hid hgk
                    replace hH := Lib.hid hH
                    replace rw_ := Lib.hid rw_
                    clear q1 q2 q3 q4 hle2 hTS hby ha hc hA1 tp xp rr kr
                    refine region_start (by kernel_rfl) ?_
                    refine any_freeC (w := wp) extRel RR 7 hle (outsAt [(7, outHp (s0 + 1) s0 o n cur l)]) [true, true, true, true, true, true, true, true, true, true] 1 (by kernel_rfl) (by kernel_rfl) (by kernel_rfl) (by kernel_rfl) (by kernel_rfl) (by kernel_rfl) (by kernel_rfl) ?st one_at (Rel.drew _ _) ?walk
                    case st => exact outsAt_stableG (by simp only [List.forall_mem_cons]; exact ⟨outHp_stable _ _ _ _ _ _, fun _ h => by cases h⟩)
                    case walk =>
                      intro K hK
                      dsimp only [maskOps]
                      repeat ((first | (refine free_readC hle ?_ (by rfl) (by rfl) (fun W hW _ => ?_) ?_; rotate_left; (first | (go_simp; with_reducible rfl) | (go_simp; done))) | (refine free_skipC (by rfl) ?_)); try simp only [Act.put, one_f, outB_f, outNew_f, outI_f, outMk_f, outHp_f, outNew_f, List.setIfInBounds_toArray, List.set_cons_zero, List.set_cons_succ])
                      refine free_hardC (outHp (s0 + 1) s0 o n cur l) (by rfl) (by rfl) (fun W hW _ => ?_) (fun (p : Nat) => ?_)
                      · have hW : Ext wp W := hW
                        refine hardAt_callG ?_ ((hclone_any (s0 + 1) s0 o n cur A' c' l hln W ⟨row_ext hH.out.box hW, row_ext hH.out.row hW, hH.out.ne, hH.out.fit, hH.out.few⟩ (hby'.below hW |>.more hW.size)).mono fun e w' h => ?_)
                        · go_simp
                        obtain ⟨o', rfl, h1, h2, h3, e1, e2, e3, e4, e5⟩ := h
                        refine ⟨o', rfl, ⟨h1, h2, h3⟩, ?_⟩
                        rw [hRR.out]
                        exact ⟨e2, e3, e4, Nat.le_of_eq e1.symm, fun b _ h1 h2 => e5 b h1 h2⟩
                      simp only [Act.put, one_f, outB_f, outNew_f, outI_f, outMk_f, outHp_f, outNew_f, List.setIfInBounds_toArray, List.set_cons_zero, List.set_cons_succ]
                      repeat ((first | (refine free_readC hle ?_ (by rfl) (by rfl) (fun W hW _ => ?_) ?_; rotate_left; (first | (go_simp; with_reducible rfl) | (go_simp; done))) | (refine free_skipC (by rfl) ?_)); try simp only [Act.put, one_f, outB_f, outNew_f, outI_f, outMk_f, outHp_f, outNew_f, List.setIfInBounds_toArray, List.set_cons_zero, List.set_cons_succ])
                      first
                        | (refine free_readC hle (.pointer (some ⟨WW, 0 + k * 2, none⟩)) (by rfl) (by rfl) (fun W hW _ => ?_) ?_
                           · go_simp
                             rw [IntWalk.i64_in (k : Int) (by omega), if_pos (by omega)]
                             simp
                           simp only [Act.put, one_f, outB_f, outNew_f, outI_f, outMk_f, outHp_f, outNew_f, List.setIfInBounds_toArray, List.set_cons_zero, List.set_cons_succ])
                        | skip
                      repeat ((first | (refine free_readC hle ?_ (by rfl) (by rfl) (fun W hW _ => ?_) ?_; rotate_left; (first | (go_simp; with_reducible rfl) | (go_simp; done))) | (refine free_skipC (by rfl) ?_)); try simp only [Act.put, one_f, outB_f, outNew_f, outI_f, outMk_f, outHp_f, outNew_f, List.setIfInBounds_toArray, List.set_cons_zero, List.set_cons_succ])
                      refine free_nilC (hK _ _ fun W hW hF => ?_)
                      obtain ⟨h1, h2, hH'⟩ : (outHp (s0 + 1) s0 o n cur l).φ p W := (hF 7).1
                      clear hF hK g1 g2
                      rw [hRR.out] at hW
                      dsimp only [List.drop, List.length_cons, List.length_nil]
                      obtain ⟨T1, hin⟩ := hTP.out.clone hH.out hln hW h1 h2 hH'
                      have rB := chg_row hW n3 n4 rw_.out
                      have kB := cells_row rB (k * 2)
                      have kC := cells_row rB (k * 2 + 1)
                      have fB := frozen_row rB
                      rw [Array.getElem?_eq_getElem (by omega)] at kB kC
                      generalize cw[k * 2] = u0 at *
                      generalize cw[k * 2 + 1] = u1 at *
                      have T2 := T1.setW hgk.out hin
                      rw [Nat.add_assoc, ← hsn.out] at T2
                      have IR : TwJ bs ws T s0 wn (s0 + 1) s0 BB WW ob (.int .i64 ((k : Int) + 1)) ((W.setCell ⟨WW, k * 2, none⟩ (.int .i64 pn)).setCell ⟨WW, k * 2 + 1, none⟩ (.slice (some ⟨s0, o, none⟩) l.length l.length)) := ⟨k + 1, by omega, rfl, T2⟩
                      replace IR := Lib.hid IR
                      have hwk := Lib.hid (IntWalk.wrap64_in ((k : Int) + 1) (by omega))
                      clear T1 T2 hin hW h1 h2 hH' rB rw_ hTP hH hsn hgk
                      go_wp2
                      refine QN_in ?_
                      go_wp2_with fail
                      try rw [hwk.out]
                      refine ⟨IR.out, ?_⟩
                      simp [intOf]
                      omega
                  · obtain rfl : k = ws.length := by omega
                    have DT := hTS.done
                    have qq := (hTS.below.block (w.heap.size + 1) (by omega)).trans q3'.out
                    have kq := cells_row qq
                    have fq := frozen_row qq
                    have ko := cells_row hTS.out
                    have zq := (Array.getElem?_eq_some_iff.1 qq).1
                    have rf := row_set (row_set qq 0 (.slice (some ⟨BB, 0, none⟩) bs.length bs.length)) 1 (.slice (some ⟨WW, 0, none⟩) ws.length (ws.length + 1))
                    have kf := cells_row rf
                    have bf : Below w.heap.size w ((wr.setCell ⟨w.heap.size + 1, 0, none⟩ (.slice (some ⟨BB, 0, none⟩) bs.length bs.length)).setCell ⟨w.heap.size + 1, 1, none⟩ (.slice (some ⟨WW, 0, none⟩) ws.length (ws.length + 1))) := Below.setCell (Below.setCell xwr (p := ⟨w.heap.size + 1, 0, none⟩) (Nat.le_succ _) _) (p := ⟨w.heap.size + 1, 1, none⟩) (Nat.le_succ _) _
                    have DF : DiskT w.heap.size bs ws BB WW s0 ((wr.setCell ⟨w.heap.size + 1, 0, none⟩ (.slice (some ⟨BB, 0, none⟩) bs.length bs.length)).setCell ⟨w.heap.size + 1, 1, none⟩ (.slice (some ⟨WW, 0, none⟩) ws.length (ws.length + 1))) :=
                      DT.keep (by omega) (by simp) (fun b h1 _ => (Below.heap_setCell _ _ _ _ (by show b ≠ w.heap.size + 1; omega)).trans (Below.heap_setCell _ _ _ _ (by show b ≠ w.heap.size + 1; omega)))
                    replace kf := Lib.hid kf
                    replace bf := Lib.hid bf
                    replace DF := Lib.hid DF
                    clear rf DT hTS
                    go_wp2
                    have kf := kf.out
                    exact bodyPost_ret (v := diskV (some ⟨BB, 0, none⟩) bs.length bs.length (some ⟨WW, 0, none⟩) ws.length (ws.length + 1)) (by simp [results, Try.results96, go_sem, kf]) rfl ⟨BB, WW, s0, rfl, DF.out, bf.out⟩
end Go.Proofs.Ytlgbjpihmkeopaa
