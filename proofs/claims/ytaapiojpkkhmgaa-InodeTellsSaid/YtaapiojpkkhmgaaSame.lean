/- scionryref24.SameItem. -/
import Derived.Test.YtaapiojpkkhmgaaFree
import Derived.Test.YtaapiojpkkhmgaaMade
namespace Go.Proofs.Ytaapiojpkkhmgaa
set_option linter.unusedSimpArgs false
set_option linter.unusedVariables false
open Go.RowKit

abbrev itemV (k i o r : Int) (A : Option Addr) (n c : Nat) : Value := .agg #[.int .u8 k, .int .u32 i, .int .u32 o, .int .i64 r, .slice A n c]

set_option maxHeartbeats 1000000 in
theorem sameitem_any (k i o r k' i' o' r' : Int) (A A' : Option Addr) (n c n' c' : Nat) (l l' : List UInt8) (w : World) (h : Bys w w.heap.size (.slice A n c) l) (h' : Bys w w.heap.size (.slice A' n' c') l') :
    Calls Try.prog 8 #[itemV k i o r A n c, itemV k' i' o' r' A' n' c'] w (Ret (.bool (decide (k = k' ∧ i = i' ∧ o = o' ∧ r = r' ∧ l = l'))) w) := by
  have e0 : Try.prog.underlying 27 = some (.slice 5) := Try.underlying27
  have hx : ∀ o1 o2, Ext w ((w.alloc o1).alloc o2) := fun o1 o2 => (Ext.alloc _ _).trans (Ext.alloc _ _)
  have hv : ∀ o1 o2, (convert 27 9 (.slice A n c)).run Try.prog ((w.alloc o1).alloc o2) = .ok (.string (bstr l)) ((w.alloc o1).alloc o2) := fun o1 o2 => run_convert_bys (h.below (hx o1 o2)) _ _ _ Try.underlying27 Try.underlying5 Try.underlying9
  have hv' : ∀ o1 o2, (convert 27 9 (.slice A' n' c')).run Try.prog ((w.alloc o1).alloc o2) = .ok (.string (bstr l')) ((w.alloc o1).alloc o2) := fun o1 o2 => run_convert_bys (h'.below (hx o1 o2)) _ _ _ Try.underlying27 Try.underlying5 Try.underlying9
  clear h h' hx e0
  go_enter Try.func8, Try.ntmps8
  go_wp2
  all_goals go_ret
  all_goals refine ⟨ret_bool ?_, (by repeat' (first | with_reducible exact Below.refl _ _ | with_reducible assumption | with_reducible apply Below.drew | with_reducible apply below_drewN | with_reducible refine Below.alloc ?_ ?_ _ | with_reducible refine Below.setCell ?_ ?_ _ | (simp; done) | (simp; omega) | omega))⟩
  all_goals rw [Bool.eq_iff_iff]
  all_goals simp [bstr_toList, *]

theorem mayB_nat {id : Int} {dir : Bool} {links size : Int} (h : mayB id dir links size = true) : ∃ l s : Nat, links = l ∧ size = s ∧ l < 65536 ∧ s < 4294967296 := by
  simp only [mayB, Bool.and_eq_true, decide_eq_true_eq] at h
  obtain ⟨⟨⟨⟨⟨_, _⟩, h3⟩, h4⟩, h5⟩, h6⟩ := h
  refine ⟨links.toNat, size.toNat, by omega, by omega, ?_, ?_⟩
  · have : links ≤ 65535 := by split at h4 <;> omega
    omega
  · have : size ≤ 4096 := by split at h6 <;> omega
    omega

def IsItem (B : Nat) (id : Int) (dir : Bool) (l s : Nat) (v : Value) (W : World) : Prop := ∃ A c, v = .tuple #[itemV 2 id 0 0 A 7 c, .int .i64 0] ∧ Bys W W.heap.size (.slice A 7 c) (inoBytes dir l s) ∧ From B (.slice A 7 c)
def NoItem (v : Value) (_ : World) : Prop := v = .tuple #[itemV 0 0 0 0 none 0 0, .int .i64 8]

set_option maxHeartbeats 1000000 in
theorem iitem_no (id : Int) (dir : Bool) (links size : Int) (hm : mayB id dir links size = false) (w : World) :
    Calls Try.prog 4 #[ino id dir links size] w (RetS NoItem w) := by
  have HC : ∀ W, _ := fun W => check_any id dir links size W
  rw [hm] at HC
  have HC := Lib.hid HC
  go_enter Try.func4, Try.ntmps4
  go_wp2_with fail
  refine (HC.out _).mono ?_
  rintro e w1 ⟨rfl, hB⟩
  obtain ⟨hc, hf⟩ := bcell hB
  have hz := hB.size
  simp only [World.size_alloc] at hz
  have hbw : Below w.heap.size w w1 := Below.trans ((by repeat' (first | with_reducible exact Below.refl _ _ | with_reducible assumption | with_reducible apply Below.drew | with_reducible apply below_drewN | with_reducible refine Below.alloc ?_ ?_ _ | with_reducible refine Below.setCell ?_ ?_ _ | (simp; done) | (simp; omega) | omega))) (Below.mono hB (by simp <;> omega))
  have e1 : errOf false = 8 := rfl
  go_wp2
  have hz' : w.heap.size + 1 < w1.heap.size := by omega
  refine bodyPost_ret (v := .tuple #[itemV 0 0 0 0 none 0 0, .int .i64 8]) (by simp [results, Try.results4, go_sem, hc, hz']) rfl ⟨_, rfl, rfl, (by repeat' (first | with_reducible exact Below.refl _ _ | with_reducible assumption | with_reducible apply Below.drew | with_reducible apply below_drewN | with_reducible refine Below.alloc ?_ ?_ _ | with_reducible refine Below.setCell ?_ ?_ _ | (simp; done) | (simp; omega) | omega))⟩

set_option maxHeartbeats 1000000 in
theorem iitem_yes (id : Int) (dir : Bool) (l s : Nat) (hm : mayB id dir l s = true) (hl : l < 65536) (hs : s < 4294967296) (w : World) :
    Calls Try.prog 4 #[ino id dir l s] w (RetS (IsItem w.heap.size id dir l s) w) := by
  have HC : ∀ W, _ := fun W => check_any id dir l s W
  rw [hm] at HC
  have HC := Lib.hid HC
  go_enter Try.func4, Try.ntmps4
  go_wp2_with fail
  refine (HC.out _).mono ?_
  rintro e w1 ⟨rfl, hB⟩
  obtain ⟨hc, hf⟩ := bcell hB
  have hz := hB.size
  simp only [World.size_alloc] at hz
  have hbw : Below w.heap.size w w1 := Below.trans ((by repeat' (first | with_reducible exact Below.refl _ _ | with_reducible assumption | with_reducible apply Below.drew | with_reducible apply below_drewN | with_reducible refine Below.alloc ?_ ?_ _ | with_reducible refine Below.setCell ?_ ?_ _ | (simp; done) | (simp; omega) | omega))) (Below.mono hB (by simp <;> omega))
  have e1 : errOf true = 0 := rfl
  go_wp2_with fail
  refine (item_any id dir l s hl hs _).mono ?_
  rintro e w2 ⟨v, rfl, ⟨A, c, rfl, hby, hfr⟩, hB2⟩
  obtain ⟨hc2, hf2⟩ := bcell hB2
  have hz2 := hB2.size
  have hz' : w.heap.size + 1 < w1.heap.size := by omega
  have hz2' : w.heap.size + 1 < w2.heap.size := by omega
  have hbw2 : Below w.heap.size w w2 := Below.trans hbw (Below.mono hB2 (by omega))
  have hfr2 := hfr.mono hz
  clear hB
  go_wp2
  refine bodyPost_ret (v := .tuple #[itemV 2 id 0 0 A 7 c, .int .i64 0]) (by simp [results, Try.results4, go_sem, hc2, hc, hz', hz2']) rfl ⟨_, rfl, ⟨A, c, rfl, ?_, hfr.mono (by omega)⟩, (by repeat' (first | with_reducible exact Below.refl _ _ | with_reducible assumption | with_reducible apply Below.drew | with_reducible apply below_drewN | with_reducible refine Below.alloc ?_ ?_ _ | with_reducible refine Below.setCell ?_ ?_ _ | (simp; done) | (simp; omega) | omega))⟩
  simp only [World.size_setCell]
  exact ((((hby.setCell hfr2 (by simp) _).setCell hfr2 (by simp) _).setCell hfr2 (by simp) _).setCell hfr2 (by simp) _).setCell hfr2 (by simp) _
set_option maxHeartbeats 1000000 in
theorem ritem_no (id : Int) (dir : Bool) (links size : Int) (hm : mayB id dir links size = false) (w : World) :
    Calls Try.prog 5 #[ino id dir links size] w (RetS NoItem w) := by
  have HC : ∀ W, _ := fun W => may_any id dir links size W
  rw [hm] at HC
  have HC := Lib.hid HC
  go_enter Try.func5, Try.ntmps5
  go_wp2_with fail
  refine (HC.out _).mono ?_
  rintro e w1 ⟨rfl, hB⟩
  obtain ⟨hc, hf⟩ := bcell hB
  have hz := hB.size
  simp only [World.size_alloc] at hz
  have hbw : Below w.heap.size w w1 := Below.trans ((by repeat' (first | with_reducible exact Below.refl _ _ | with_reducible assumption | with_reducible apply Below.drew | with_reducible apply below_drewN | with_reducible refine Below.alloc ?_ ?_ _ | with_reducible refine Below.setCell ?_ ?_ _ | (simp; done) | (simp; omega) | omega))) (Below.mono hB (by simp <;> omega))
  have e1 : errOf false = 8 := rfl
  go_wp2
  have hz' : w.heap.size + 1 < w1.heap.size := by omega
  refine bodyPost_ret (v := .tuple #[itemV 0 0 0 0 none 0 0, .int .i64 8]) (by simp [results, Try.results5, go_sem, hc, hz']) rfl ⟨_, rfl, rfl, (by repeat' (first | with_reducible exact Below.refl _ _ | with_reducible assumption | with_reducible apply Below.drew | with_reducible apply below_drewN | with_reducible refine Below.alloc ?_ ?_ _ | with_reducible refine Below.setCell ?_ ?_ _ | (simp; done) | (simp; omega) | omega))⟩

set_option maxHeartbeats 1000000 in
theorem ritem_yes (id : Int) (dir : Bool) (l s : Nat) (hm : mayB id dir l s = true) (hl : l < 65536) (hs : s < 4294967296) (w : World) :
    Calls Try.prog 5 #[ino id dir l s] w (RetS (IsItem w.heap.size id dir l s) w) := by
  have HC : ∀ W, _ := fun W => may_any id dir l s W
  rw [hm] at HC
  have HC := Lib.hid HC
  go_enter Try.func5, Try.ntmps5
  go_wp2_with fail
  refine (HC.out _).mono ?_
  rintro e w1 ⟨rfl, hB⟩
  obtain ⟨hc, hf⟩ := bcell hB
  have hz := hB.size
  simp only [World.size_alloc] at hz
  have hbw : Below w.heap.size w w1 := Below.trans ((by repeat' (first | with_reducible exact Below.refl _ _ | with_reducible assumption | with_reducible apply Below.drew | with_reducible apply below_drewN | with_reducible refine Below.alloc ?_ ?_ _ | with_reducible refine Below.setCell ?_ ?_ _ | (simp; done) | (simp; omega) | omega))) (Below.mono hB (by simp <;> omega))
  have e1 : errOf true = 0 := rfl
  go_wp2_with fail
  refine (made_any id dir l s hl hs _).mono ?_
  rintro e w2 ⟨v, rfl, ⟨A, c, rfl, hby, hfr⟩, hB2⟩
  obtain ⟨hc2, hf2⟩ := bcell hB2
  have hz2 := hB2.size
  have hz' : w.heap.size + 1 < w1.heap.size := by omega
  have hz2' : w.heap.size + 1 < w2.heap.size := by omega
  have hbw2 : Below w.heap.size w w2 := Below.trans hbw (Below.mono hB2 (by omega))
  have hfr2 := hfr.mono hz
  clear hB
  go_wp2
  refine bodyPost_ret (v := .tuple #[itemV 2 id 0 0 A 7 c, .int .i64 0]) (by simp [results, Try.results5, go_sem, hc2, hc, hz', hz2']) rfl ⟨_, rfl, ⟨A, c, rfl, ?_, hfr.mono (by omega)⟩, (by repeat' (first | with_reducible exact Below.refl _ _ | with_reducible assumption | with_reducible apply Below.drew | with_reducible apply below_drewN | with_reducible refine Below.alloc ?_ ?_ _ | with_reducible refine Below.setCell ?_ ?_ _ | (simp; done) | (simp; omega) | omega))⟩
  simp only [World.size_setCell]
  exact ((((hby.setCell hfr2 (by simp) _).setCell hfr2 (by simp) _).setCell hfr2 (by simp) _).setCell hfr2 (by simp) _).setCell hfr2 (by simp) _
end Go.Proofs.Ytaapiojpkkhmgaa
