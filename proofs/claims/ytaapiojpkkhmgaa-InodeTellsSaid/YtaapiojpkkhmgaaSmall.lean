/- Contracts: may an inode be; keys; bytes of a number. -/
import Derived.Test.YtaapiojpkkhmgaaBase
namespace Go.Proofs.Ytaapiojpkkhmgaa
set_option linter.unusedSimpArgs false
set_option linter.unusedVariables false
open Go.RowKit

/-- may an inode be -/
def mayB (id : Int) (dir : Bool) (links size : Int) : Bool :=
  decide (1 ≤ id) && decide (id ≤ 1048576) && decide (1 ≤ links) && decide (links ≤ if dir then 1 else 65535) && decide (0 ≤ size) && decide (size ≤ if dir then 0 else 4096)

def errOf (b : Bool) : Int := if b then 0 else 8
theorem errOf_t {b : Bool} (h : b = true) : errOf b = 0 := by rw [h]; rfl
theorem errOf_f {b : Bool} (h : b = false) : errOf b = 8 := by rw [h]; rfl

abbrev ino (id : Int) (dir : Bool) (links size : Int) : Value := .agg #[.int .u32 id, .bool dir, .int .i64 links, .int .i64 size]

set_option maxHeartbeats 400000 in
theorem check_any (id : Int) (dir : Bool) (links size : Int) (w : World) :
    Calls Try.prog 9 #[ino id dir links size] w (Ret (.int .i64 (errOf (mayB id dir links size))) w) := by
  cases dir
  all_goals
    go_enter Try.func9, Try.ntmps9
    go_wp2
    all_goals go_ret
    all_goals refine ⟨?_, (Below.refl _ _).alloc (Nat.le_refl _) _⟩
    all_goals first | exact ret_int (errOf_t (by simp [mayB]; omega)).symm | exact ret_int (errOf_f (by simp [mayB]; omega)).symm

set_option maxHeartbeats 400000 in
theorem may_any (id : Int) (dir : Bool) (links size : Int) (w : World) :
    Calls Try.prog 12 #[ino id dir links size] w (Ret (.bool (mayB id dir links size)) w) := by
  cases dir
  all_goals
    go_enter Try.func12, Try.ntmps12
    go_wp2
    all_goals go_ret
    all_goals refine ⟨?_, (Below.refl _ _).alloc (Nat.le_refl _) _⟩
    all_goals refine ret_bool ?_
    all_goals go_light
    all_goals rw [Bool.eq_iff_iff]
    all_goals simp [mayB]
    all_goals omega

def ShV (v : Value) (w : World) (e : Ending) (w' : World) : Prop := Ret v w e w'

theorem rcheck_any (id : Int) (dir : Bool) (links size : Int) (w : World) :
    Calls Try.prog 10 #[ino id dir links size] w (Ret (.int .i64 (errOf (mayB id dir links size))) w) := by
  have H : ∀ W, Calls Try.prog 12 #[ino id dir links size] W (Ret (.bool (mayB id dir links size)) W) := may_any id dir links size
  obtain ⟨m, hm⟩ : ∃ m, m = mayB id dir links size := ⟨_, rfl⟩
  rw [← hm] at H ⊢
  clear hm
  have HH := Lib.hid H
  clear H
  cases m
  all_goals
    go_enter Try.func10, Try.ntmps10
    go_wp2_with fail
    refine (HH.out _).mono ?_
    rintro e w1 ⟨rfl, hB⟩
    go_wp2
    go_ret
    exact ⟨rfl, ((Below.refl _ _).alloc (Nat.le_refl _) _).trans (hB.mono (by simp))⟩

theorem key_any (id : Int) (w : World) :
    Calls Try.prog 14 #[.int .u32 id] w (Ret (.agg #[.int .u8 2, .int .u32 id, .int .u32 0]) w) := by
  go_enter Try.func14, Try.ntmps14
  go_wp2
  exact bodyPost_ret (v := .agg #[.int .u8 2, .int .u32 id, .int .u32 0]) (by simp [results, Try.results14, go_sem]) rfl ⟨rfl, (by repeat' (first | with_reducible exact Below.refl _ _ | with_reducible assumption | with_reducible apply Below.drew | with_reducible apply below_drewN | with_reducible refine Below.alloc ?_ ?_ _ | with_reducible refine Below.setCell ?_ ?_ _ | (simp; done) | (simp; omega) | omega))⟩
end Go.Proofs.Ytaapiojpkkhmgaa
