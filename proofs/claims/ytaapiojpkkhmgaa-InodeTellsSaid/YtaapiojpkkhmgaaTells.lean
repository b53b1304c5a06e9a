/- scionrylaw24.InodeTells: the walk. -/
import Derived.Test.YtaapiojpkkhmgaaOfr
import Derived.Test.YtaapiojpkkhmgaaReadIno
namespace Go.Proofs.Ytaapiojpkkhmgaa
set_option linter.unusedSimpArgs false
set_option linter.unusedVariables false
open Go.RowKit

theorem ofV_form (i k o r : Int) (b0 : UInt8) (l s : Nat) : ∃ a b c d e, ofV i k o r b0 l s = .tuple #[ino a b c d, .int .i64 e] := by
  unfold ofV
  split
  · exact ⟨_, _, _, _, _, rfl⟩
  · split <;> exact ⟨_, _, _, _, _, rfl⟩

theorem of_both (k i o r : Int) (l : List UInt8) : ∃ a b c d e, ∀ (A : Option Addr) (n c' : Nat) (w : World), l.length = n → Bys w w.heap.size (.slice A n c') l →
    Calls Try.prog 6 #[itemV k i o r A n c'] w (Ret (.tuple #[ino a b c d, .int .i64 e]) w) ∧ Calls Try.prog 7 #[itemV k i o r A n c'] w (Ret (.tuple #[ino a b c d, .int .i64 e]) w) := by
  by_cases h7 : l.length = 7
  · match l, h7 with
    | [b0, b1, b2, b3, b4, b5, b6], _ =>
      obtain ⟨a, b, c, d, e, hv⟩ := ofV_form i k o r b0 (numOf [b1, b2]) (numOf [b3, b4, b5, b6])
      refine ⟨a, b, c, d, e, fun A n c' w hn hb => ?_⟩
      rw [← hv]
      obtain ⟨A', c2, e1, hc, hm, hr⟩ := hb
      injection e1 with e1 e2 e3
      subst e1; subst e2; subst e3
      obtain ⟨b', off, rfl, hlt, hcell⟩ := hr.2 (by simp)
      exact ⟨iof_seven k i o r b' off c' hc b0 b1 b2 b3 b4 b5 b6 w hlt hcell, rof_seven k i o r b' off c' hc hm b0 b1 b2 b3 b4 b5 b6 w hlt hcell⟩
  · refine ⟨0, false, 0, 0, 8, fun A n c' w hn _ => ?_⟩
    exact ⟨iof_len k i o r A n c' (by omega) w, rof_len k i o r A n c' (by omega) w⟩

def ItemR (ka ia e : Int) (na : Nat) (la : List UInt8) (v : Value) (W : World) : Prop := ∃ A c, v = .tuple #[itemV ka ia 0 0 A na c, .int .i64 e] ∧ Bys W W.heap.size (.slice A na c) la

theorem item_both (id : Int) (dir : Bool) (links size : Int) : ∃ ka ia e na la, ∀ w : World,
    Calls Try.prog 4 #[ino id dir links size] w (RetS (ItemR ka ia e na la) w) ∧ Calls Try.prog 5 #[ino id dir links size] w (RetS (ItemR ka ia e na la) w) := by
  cases hm : mayB id dir links size
  · refine ⟨0, 0, 8, 0, [], fun w => ⟨(iitem_no id dir links size hm w).mono ?_, (ritem_no id dir links size hm w).mono ?_⟩⟩
    all_goals
      rintro e w' ⟨v, rfl, hv, hB⟩
      exact ⟨v, rfl, ⟨none, 0, hv, Bys.nil _ _⟩, hB⟩
  · obtain ⟨l, s, rfl, rfl, hl, hs⟩ := mayB_nat hm
    refine ⟨2, id, 0, 7, inoBytes dir l s, fun w => ⟨(iitem_yes id dir l s hm hl hs w).mono ?_, (ritem_yes id dir l s hm hl hs w).mono ?_⟩⟩
    all_goals
      rintro e w' ⟨v, rfl, ⟨A, c, hv, hb, _⟩, hB⟩
      exact ⟨v, rfl, ⟨A, c, hv, hb⟩, hB⟩

set_option maxHeartbeats 1000000 in
theorem tells_long (id : Int) (dir : Bool) (links size k i o r : Int) (A : Option Addr) (n c : Nat) (hn : 1000 < n) (w : World) :
    Calls Try.prog 3 #[ino id dir links size, itemV k i o r A n c] w (Ret (.bool true) w) := by
  have h1 : (1000 : Int) < (n : Int) := by omega
  go_enter Try.func3, Try.ntmps3
  go_wp2
  go_ret
  exact ⟨rfl, (by repeat' (first | with_reducible exact Below.refl _ _ | with_reducible assumption | with_reducible apply Below.drew | with_reducible apply below_drewN | with_reducible refine Below.alloc ?_ ?_ _ | with_reducible refine Below.setCell ?_ ?_ _ | (simp; done) | (simp; omega) | omega))⟩

set_option maxHeartbeats 2000000 in
theorem tells_any (id : Int) (dir : Bool) (links size k i o r : Int) (A : Option Addr) (n c : Nat) (l : List UInt8) (hl : l.length = n) (hn : n ≤ 1000) (w : World) (hby : Bys w w.heap.size (.slice A n c) l) :
    Calls Try.prog 3 #[ino id dir links size, itemV k i o r A n c] w (Ret (.bool true) w) := by
  have h1 : ¬ (1000 : Int) < (n : Int) := by omega
  obtain ⟨ka, ia, e1, na, la, HI⟩ := item_both id dir links size
  obtain ⟨oa, ob, oc, od, e2, HO⟩ := of_both k i o r l
  have HI := Lib.hid HI
  have HO := Lib.hid HO
  have HL := Lib.hid hl
  clear hl
  go_enter Try.func3, Try.ntmps3
  go_wp2_with fail
  generalize hw0 : (World.alloc (World.alloc _ _) _) = w0
  have B0 : Below w.heap.size w w0 := by rw [← hw0]; exact (by repeat' (first | with_reducible exact Below.refl _ _ | with_reducible assumption | with_reducible apply Below.drew | with_reducible apply below_drewN | with_reducible refine Below.alloc ?_ ?_ _ | with_reducible refine Below.setCell ?_ ?_ _ | (simp; done) | (simp; omega) | omega))
  have X0 : w0.heap[w.heap.size]? = some (.cells #[.int .u32 id, .bool dir, .int .i64 links, .int .i64 size] 24 (0, 0)) := by rw [← hw0]; exact (Below.heap_alloc _ _ _ (by simp)).trans (World.alloc_heap_at _ _ _ rfl)
  have I0 : w0.heap[w.heap.size + 1]? = some (.cells #[.int .u8 k, .int .u32 i, .int .u32 o, .int .i64 r, .slice A n c] 29 (0, 0)) := by rw [← hw0]; exact World.alloc_heap_at _ _ _ (by simp)
  have Z0 : w0.heap.size = w.heap.size + 2 := by rw [← hw0]; simp
  clear hw0
  have X0' := X0
  have I0' := I0
  have B0' := B0
  refine (HI.out w0).1.mono ?_
  rintro e w1 ⟨v1, rfl, ⟨A1, c1, rfl, by1⟩, C1⟩
  have Z1 := C1.size
  have X1 := (C1.block _ (by omega)).trans X0'
  have I1 := (C1.block _ (by omega)).trans I0'
  have B1 : Below w.heap.size w w1 := Below.trans B0' (Below.mono C1 (by omega))
  have xX1 := cells_row X1
  have zX1 : w.heap.size < w1.heap.size := by omega
  have xI1 := cells_row I1
  have zI1 : w.heap.size + 1 < w1.heap.size := by omega
  go_wp2_with fail
  generalize hw : World.alloc w1 _ = w1'
  have X1' := (show w1'.heap[w.heap.size]? = w1.heap[w.heap.size]? by rw [← hw]; exact Below.heap_alloc _ _ _ (by omega)).trans X1
  have I1' := (show w1'.heap[w.heap.size + 1]? = w1.heap[w.heap.size + 1]? by rw [← hw]; exact Below.heap_alloc _ _ _ (by omega)).trans I1
  have P1' : w1'.heap[w1.heap.size]? = some (.cells #[.int .u8 ka, .int .u32 ia, .int .u32 0, .int .i64 0, .slice A1 na c1] 29 (0, 0)) := by rw [← hw]; exact World.alloc_heap_at _ _ _ rfl
  have B1' : Below w.heap.size w w1' := by rw [← hw]; exact (by repeat' (first | with_reducible exact Below.refl _ _ | with_reducible assumption | with_reducible apply Below.drew | with_reducible apply below_drewN | with_reducible refine Below.alloc ?_ ?_ _ | with_reducible refine Below.setCell ?_ ?_ _ | (simp; done) | (simp; omega) | omega))
  have D1 : Ext w1 w1' := by rw [← hw]; exact Ext.alloc _ _
  have Z1' : w1'.heap.size = w1.heap.size + 1 := by rw [← hw]; simp
  clear hw xX1 xI1
  refine (HI.out w1').2.mono ?_
  rintro e w2 ⟨v2, rfl, ⟨A2, c2, rfl, by2⟩, C2⟩
  have Z2 := C2.size
  have X2 := (C2.block _ (by omega)).trans X1'
  have I2 := (C2.block _ (by omega)).trans I1'
  have P2 := (C2.block _ (by omega)).trans P1'
  have B2 : Below w.heap.size w w2 := Below.trans B1' (Below.mono C2 (by omega))
  have xX2 := cells_row X2
  have zX2 : w.heap.size < w2.heap.size := by omega
  have xI2 := cells_row I2
  have zI2 : w.heap.size + 1 < w2.heap.size := by omega
  have xP2 := cells_row P2
  have zP2 : w1.heap.size < w2.heap.size := by omega
  go_wp2_with fail
  generalize hw : World.alloc w2 _ = w2'
  have X2' := (show w2'.heap[w.heap.size]? = w2.heap[w.heap.size]? by rw [← hw]; exact Below.heap_alloc _ _ _ (by omega)).trans X2
  have I2' := (show w2'.heap[w.heap.size + 1]? = w2.heap[w.heap.size + 1]? by rw [← hw]; exact Below.heap_alloc _ _ _ (by omega)).trans I2
  have P2' := (show w2'.heap[w1.heap.size]? = w2.heap[w1.heap.size]? by rw [← hw]; exact Below.heap_alloc _ _ _ (by omega)).trans P2
  have Q2' : w2'.heap[w2.heap.size]? = some (.cells #[.int .u8 ka, .int .u32 ia, .int .u32 0, .int .i64 0, .slice A2 na c2] 29 (0, 0)) := by rw [← hw]; exact World.alloc_heap_at _ _ _ rfl
  have B2' : Below w.heap.size w w2' := by rw [← hw]; exact (by repeat' (first | with_reducible exact Below.refl _ _ | with_reducible assumption | with_reducible apply Below.drew | with_reducible apply below_drewN | with_reducible refine Below.alloc ?_ ?_ _ | with_reducible refine Below.setCell ?_ ?_ _ | (simp; done) | (simp; omega) | omega))
  have D2 : Ext w2 w2' := by rw [← hw]; exact Ext.alloc _ _
  have Z2' : w2'.heap.size = w2.heap.size + 1 := by rw [← hw]; simp
  clear hw xX2 xI2 xP2
  refine (HO.out A n c w2' HL.out ((hby.below B2').more (by omega))).1.mono ?_
  rintro e w3 ⟨rfl, C3⟩
  have Z3 := C3.size
  have X3 := (C3.block _ (by omega)).trans X2'
  have I3 := (C3.block _ (by omega)).trans I2'
  have P3 := (C3.block _ (by omega)).trans P2'
  have Q3 := (C3.block _ (by omega)).trans Q2'
  have B3 : Below w.heap.size w w3 := Below.trans B2' (Below.mono C3 (by omega))
  have xX3 := cells_row X3
  have zX3 : w.heap.size < w3.heap.size := by omega
  have xI3 := cells_row I3
  have zI3 : w.heap.size + 1 < w3.heap.size := by omega
  have xP3 := cells_row P3
  have zP3 : w1.heap.size < w3.heap.size := by omega
  have xQ3 := cells_row Q3
  have zQ3 : w2.heap.size < w3.heap.size := by omega
  go_wp2_with fail
  generalize hw : World.alloc w3 _ = w3'
  have X3' := (show w3'.heap[w.heap.size]? = w3.heap[w.heap.size]? by rw [← hw]; exact Below.heap_alloc _ _ _ (by omega)).trans X3
  have I3' := (show w3'.heap[w.heap.size + 1]? = w3.heap[w.heap.size + 1]? by rw [← hw]; exact Below.heap_alloc _ _ _ (by omega)).trans I3
  have P3' := (show w3'.heap[w1.heap.size]? = w3.heap[w1.heap.size]? by rw [← hw]; exact Below.heap_alloc _ _ _ (by omega)).trans P3
  have Q3' := (show w3'.heap[w2.heap.size]? = w3.heap[w2.heap.size]? by rw [← hw]; exact Below.heap_alloc _ _ _ (by omega)).trans Q3
  have R3' : w3'.heap[w3.heap.size]? = some (.cells #[.int .u32 oa, .bool ob, .int .i64 oc, .int .i64 od] 24 (0, 0)) := by rw [← hw]; exact World.alloc_heap_at _ _ _ rfl
  have B3' : Below w.heap.size w w3' := by rw [← hw]; exact (by repeat' (first | with_reducible exact Below.refl _ _ | with_reducible assumption | with_reducible apply Below.drew | with_reducible apply below_drewN | with_reducible refine Below.alloc ?_ ?_ _ | with_reducible refine Below.setCell ?_ ?_ _ | (simp; done) | (simp; omega) | omega))
  have D3 : Ext w3 w3' := by rw [← hw]; exact Ext.alloc _ _
  have Z3' : w3'.heap.size = w3.heap.size + 1 := by rw [← hw]; simp
  clear hw xX3 xI3 xP3 xQ3
  refine (HO.out A n c w3' HL.out ((hby.below B3').more (by omega))).2.mono ?_
  rintro e w4 ⟨rfl, C4⟩
  have Z4 := C4.size
  have X4 := (C4.block _ (by omega)).trans X3'
  have I4 := (C4.block _ (by omega)).trans I3'
  have P4 := (C4.block _ (by omega)).trans P3'
  have Q4 := (C4.block _ (by omega)).trans Q3'
  have R4 := (C4.block _ (by omega)).trans R3'
  have B4 : Below w.heap.size w w4 := Below.trans B3' (Below.mono C4 (by omega))
  have xX4 := cells_row X4
  have zX4 : w.heap.size < w4.heap.size := by omega
  have xI4 := cells_row I4
  have zI4 : w.heap.size + 1 < w4.heap.size := by omega
  have xP4 := cells_row P4
  have zP4 : w1.heap.size < w4.heap.size := by omega
  have xQ4 := cells_row Q4
  have zQ4 : w2.heap.size < w4.heap.size := by omega
  have xR4 := cells_row R4
  have zR4 : w3.heap.size < w4.heap.size := by omega
  go_wp2_with fail
  generalize hw : World.alloc w4 _ = w4'
  have X4' := (show w4'.heap[w.heap.size]? = w4.heap[w.heap.size]? by rw [← hw]; exact Below.heap_alloc _ _ _ (by omega)).trans X4
  have I4' := (show w4'.heap[w.heap.size + 1]? = w4.heap[w.heap.size + 1]? by rw [← hw]; exact Below.heap_alloc _ _ _ (by omega)).trans I4
  have P4' := (show w4'.heap[w1.heap.size]? = w4.heap[w1.heap.size]? by rw [← hw]; exact Below.heap_alloc _ _ _ (by omega)).trans P4
  have Q4' := (show w4'.heap[w2.heap.size]? = w4.heap[w2.heap.size]? by rw [← hw]; exact Below.heap_alloc _ _ _ (by omega)).trans Q4
  have R4' := (show w4'.heap[w3.heap.size]? = w4.heap[w3.heap.size]? by rw [← hw]; exact Below.heap_alloc _ _ _ (by omega)).trans R4
  have S4' : w4'.heap[w4.heap.size]? = some (.cells #[.int .u32 oa, .bool ob, .int .i64 oc, .int .i64 od] 24 (0, 0)) := by rw [← hw]; exact World.alloc_heap_at _ _ _ rfl
  have B4' : Below w.heap.size w w4' := by rw [← hw]; exact (by repeat' (first | with_reducible exact Below.refl _ _ | with_reducible assumption | with_reducible apply Below.drew | with_reducible apply below_drewN | with_reducible refine Below.alloc ?_ ?_ _ | with_reducible refine Below.setCell ?_ ?_ _ | (simp; done) | (simp; omega) | omega))
  have D4 : Ext w4 w4' := by rw [← hw]; exact Ext.alloc _ _
  have Z4' : w4'.heap.size = w4.heap.size + 1 := by rw [← hw]; simp
  clear hw xX4 xI4 xP4 xQ4 xR4
  have hX : ∀ W, Ext w4' W → ∀ j, W.cell? ⟨w.heap.size, j, none⟩ = (#[.int .u32 id, .bool dir, .int .i64 links, .int .i64 size] : Array Value)[j]? := fun W h => cells_row ((h.block _ (by omega)).trans X4')
  have hP : ∀ W, Ext w4' W → ∀ j, W.cell? ⟨w1.heap.size, j, none⟩ = (#[.int .u8 ka, .int .u32 ia, .int .u32 0, .int .i64 0, .slice A1 na c1] : Array Value)[j]? := fun W h => cells_row ((h.block _ (by omega)).trans P4')
  have hQ : ∀ W, Ext w4' W → ∀ j, W.cell? ⟨w2.heap.size, j, none⟩ = (#[.int .u8 ka, .int .u32 ia, .int .u32 0, .int .i64 0, .slice A2 na c2] : Array Value)[j]? := fun W h => cells_row ((h.block _ (by omega)).trans Q4')
  have hR : ∀ W, Ext w4' W → ∀ j, W.cell? ⟨w3.heap.size, j, none⟩ = (#[.int .u32 oa, .bool ob, .int .i64 oc, .int .i64 od] : Array Value)[j]? := fun W h => cells_row ((h.block _ (by omega)).trans R4')
  have hS : ∀ W, Ext w4' W → ∀ j, W.cell? ⟨w4.heap.size, j, none⟩ = (#[.int .u32 oa, .bool ob, .int .i64 oc, .int .i64 od] : Array Value)[j]? := fun W h => cells_row ((h.block _ (by omega)).trans S4')
  have E2 : Ext w2 w4' := ((D2.trans C3).trans D3).trans (Ext.trans C4 D4)
  have E1 : Ext w1 w4' := (D1.trans C2).trans E2
  have y1 : ∀ W, Ext w4' W → Bys W W.heap.size (.slice A1 na c1) la := fun W h => (by1.below (E1.trans h)).more (E1.trans h).size
  have y2 : ∀ W, Ext w4' W → Bys W W.heap.size (.slice A2 na c2) la := fun W h => (by2.below (E2.trans h)).more (E2.trans h).size
  have hsame : ∀ W, Ext w4' W → Calls Try.prog 8 #[itemV ka ia 0 0 A1 na c1, itemV ka ia 0 0 A2 na c2] W (Ret (.bool true) W) := fun W h => by
    have := sameitem_any ka ia 0 0 ka ia 0 0 A1 A2 na c1 na c2 la la W (y1 W h) (y2 W h)
    simpa using this
  have HS := Lib.hid hsame
  clear hsame y1 y2 E1 E2
  refine wp_region_free (outsAt [(2, one (.bool true)), (20, one (.int .i64 (errOf (mayB id dir links size)))), (22, one (.int .i64 (errOf (mayB id dir links size))))]) 26 (by kernel_rfl) (by kernel_rfl) (by kernel_rfl) (by decide) (by kernel_rfl) (by kernel_rfl) ?st ?walk
  case st => exact outsAt_stable (by simp only [List.forall_mem_cons]; exact ⟨one_stable _, one_stable _, one_stable _, fun _ h => by cases h⟩)
  case walk =>
    intro K hK
    dsimp only [List.take]
    repeat (first | (refine free_plain ?_ (by rfl) (by rfl) (fun W hW _ => ⟨W, ?_, Ext.refl W⟩) ?_; rotate_left; (first | (go_simp; with_reducible rfl) | (go_simp; done)); try simp only [Act.put, one_f, outB_f, outNew_f, outI_f, List.setIfInBounds_toArray, List.set_cons_zero, List.set_cons_succ]) | (refine free_skip (by rfl) ?_; simp only [Act.put, one_f, outB_f, outNew_f, outI_f, List.setIfInBounds_toArray, List.set_cons_zero, List.set_cons_succ]))
    refine free_hard (one (.bool true)) (by rfl) (by rfl) (fun W hW _ => ?_) (fun q => ?_)
    · refine hardAt_call ?_ ((HS.out W hW).mono fun e w' h => ⟨(), h.1, trivial, h.2⟩)
      go_simp
    cases q
    simp only [Act.put, one_f, outB_f, outNew_f, outI_f, List.setIfInBounds_toArray, List.set_cons_zero, List.set_cons_succ]
    repeat (first | (refine free_plain ?_ (by rfl) (by rfl) (fun W hW _ => ⟨W, ?_, Ext.refl W⟩) ?_; rotate_left; (first | (go_simp; with_reducible rfl) | (go_simp; done)); try simp only [Act.put, one_f, outB_f, outNew_f, outI_f, List.setIfInBounds_toArray, List.set_cons_zero, List.set_cons_succ]) | (refine free_skip (by rfl) ?_; simp only [Act.put, one_f, outB_f, outNew_f, outI_f, List.setIfInBounds_toArray, List.set_cons_zero, List.set_cons_succ]))
    refine free_hard (one (.int .i64 (errOf (mayB id dir links size)))) (by rfl) (by rfl) (fun W hW _ => ?_) (fun q => ?_)
    · refine hardAt_call ?_ ((check_any id dir links size W).mono fun e w' h => ⟨(), h.1, trivial, h.2⟩)
      go_simp
    cases q
    simp only [Act.put, one_f, outB_f, outNew_f, outI_f, List.setIfInBounds_toArray, List.set_cons_zero, List.set_cons_succ]
    repeat (first | (refine free_plain ?_ (by rfl) (by rfl) (fun W hW _ => ⟨W, ?_, Ext.refl W⟩) ?_; rotate_left; (first | (go_simp; with_reducible rfl) | (go_simp; done)); try simp only [Act.put, one_f, outB_f, outNew_f, outI_f, List.setIfInBounds_toArray, List.set_cons_zero, List.set_cons_succ]) | (refine free_skip (by rfl) ?_; simp only [Act.put, one_f, outB_f, outNew_f, outI_f, List.setIfInBounds_toArray, List.set_cons_zero, List.set_cons_succ]))
    refine free_hard (one (.int .i64 (errOf (mayB id dir links size)))) (by rfl) (by rfl) (fun W hW _ => ?_) (fun q => ?_)
    · refine hardAt_call ?_ ((rcheck_any id dir links size W).mono fun e w' h => ⟨(), h.1, trivial, h.2⟩)
      go_simp
    cases q
    simp only [Act.put, one_f, outB_f, outNew_f, outI_f, List.setIfInBounds_toArray, List.set_cons_zero, List.set_cons_succ]
    repeat (first | (refine free_plain ?_ (by rfl) (by rfl) (fun W hW _ => ⟨W, ?_, Ext.refl W⟩) ?_; rotate_left; (first | (go_simp; with_reducible rfl) | (go_simp; done)); try simp only [Act.put, one_f, outB_f, outNew_f, outI_f, List.setIfInBounds_toArray, List.set_cons_zero, List.set_cons_succ]) | (refine free_skip (by rfl) ?_; simp only [Act.put, one_f, outB_f, outNew_f, outI_f, List.setIfInBounds_toArray, List.set_cons_zero, List.set_cons_succ]))
    refine free_nil (hK _ _ fun W hW _ => ?_)
    have hzW := hW.size
    have hBW : Below w.heap.size w W := Below.trans B4' (Below.mono hW (by omega))
    clear hK
    dsimp only [List.drop]
    go_wp2
    go_ret
    exact ⟨rfl, hBW⟩
end Go.Proofs.Ytaapiojpkkhmgaa
