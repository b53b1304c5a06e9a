/- Contracts: bytes of a number. -/
import Derived.Test.YtaapiojpkkhmgaaSmall
namespace Go.Proofs.Ytaapiojpkkhmgaa
set_option linter.unusedSimpArgs false
set_option linter.unusedVariables false
open Go.RowKit

/-- so many bytes of a number, the lowest first -/
def bytesOf : Nat → Nat → List UInt8
  | _, 0 => []
  | n, k + 1 => UInt8.ofNat n :: bytesOf (n / 256) k
theorem bytesOf_len (k : Nat) : ∀ n, (bytesOf n k).length = k := by
  induction k with
  | zero => intro n; rfl
  | succ k ih => intro n; simp [bytesOf, ih]
theorem bytesOf_snoc (k : Nat) : ∀ n, bytesOf n (k + 1) = bytesOf n k ++ [UInt8.ofNat (n / 256 ^ k)] := by
  induction k with
  | zero => intro n; simp [bytesOf]
  | succ k ih =>
    intro n
    show UInt8.ofNat n :: bytesOf (n / 256) (k + 1) = _
    rw [ih (n / 256)]
    simp [bytesOf, Nat.div_div_eq_div_mul, Nat.pow_succ, Nat.mul_comm]

theorem Try.info_u8 : (Try.prog.info? 5).map (fun i => (i.zero, i.size, i.bytes)) = some (some (.int .u8 0), 1, 1) := by kernel_rfl

set_option maxHeartbeats 400000 in
theorem bytes_any (n m : Nat) (hn : n < 9223372036854775808) (hm : m ≤ 8) (w : World) :
    Calls Try.prog 17 #[.int .i64 (n : Int), .int .i64 (m : Int)] w (RetS (fun v w' => w'.ownsRow w.heap.size 5 1 v m ((bytesOf n m).map bv)) w) := by
  obtain ⟨i0, hi, hz0, hz1, hz2⟩ := info_parts Try.info_u8
  go_enter Try.func17, Try.ntmps17
  go_wp2
  go_loopw [0, 5, 7] (fun x v i wr => ∃ k : Nat, k ≤ m ∧ i = .int .i64 (k : Int) ∧ x = .int .i64 ((n / 256 ^ k : Nat) : Int) ∧ wr.ownsRow w.heap.size 5 1 v k ((bytesOf n k).map bv) ∧ Below w.heap.size w wr)
    (fun _ _ i _ => m - (intOf i).toNat)
  case atStart => exact ⟨0, Nat.zero_le _, rfl, by simp, World.ownsRow_nil _ _ _ _, Below.refl _ _⟩
  case round =>
    obtain ⟨k, hk, rfl, rfl, hown, hB⟩ := hrel
    have HB := Lib.hid (bytesOf_snoc k n)
    have hq : n / 256 ^ k < 9223372036854775808 := Nat.lt_of_le_of_lt (Nat.div_le_self _ _) hn
    have HD : Hid (n / 256 ^ k / 256 = n / 256 ^ (k + 1)) := by rw [Nat.pow_succ, Nat.div_div_eq_div_mul]; exact rfl
    generalize n / 256 ^ k = q at *
    by_cases hlt : k < m
    · go_wp2_with (at_builtin; refine wpList_stop ?_)
      refine Stopped.go (wpList_push _ rfl (.tmp 9) (.tmp 12) 27 rfl w.heap.size 5 i0 (.int .u8 0) 1 1 Try.underlying27 hi hz0 hz1 hz2 rfl (by decide) _ _ _ rfl hown #[.int .u8 (↑q % 256)] rfl rfl (by simp [Value.oneCell']) (by omega) (by decide) hB.size ?_)
      intro v' w1 hown1 _ hb1 _
      go_wp2
      go_roundw
      case rel => exact ⟨k + 1, by omega, by go_num, by rw [← HD.out]; go_num, by rw [HB.out, List.map_append]; simpa [bv] using hown1, hB.trans hb1⟩
      case measure => simp [intOf]; omega
    · go_wp2
      obtain rfl : k = m := by omega
      go_ret
      exact ⟨_, rfl, hown, hB⟩
end Go.Proofs.Ytaapiojpkkhmgaa
