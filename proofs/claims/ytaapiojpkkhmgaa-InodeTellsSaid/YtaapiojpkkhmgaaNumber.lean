/- inode.number: the number of bytes. -/
import Derived.Test.YtaapiojpkkhmgaaBack
namespace Go.Proofs.Ytaapiojpkkhmgaa
set_option linter.unusedSimpArgs false
set_option linter.unusedVariables false
open Go.RowKit Go.Shelf
attribute [local go_sem] Oper.semAt_some

def numB : List (Nat × UInt8) → Int := List.foldl (fun s x => bits .or .i64 (wrap64 (s * 256)) (wrap64 (x.2.toNat : Int))) 0
theorem numB_snoc (pre : List (Nat × UInt8)) (x : Nat × UInt8) : numB (pre ++ [x]) = bits .or .i64 (wrap64 (numB pre * 256)) (wrap64 (x.2.toNat : Int)) := by simp [numB]

/-- the number of bytes, the lowest first -/
def numOf : List UInt8 → Nat
  | [] => 0
  | b :: r => b.toNat + 256 * numOf r
theorem numOf_lt (l : List UInt8) : numOf l < 256 ^ l.length := by
  induction l with
  | nil => simp [numOf]
  | cons b r ih => have := b.toNat_lt; simp only [numOf, List.length_cons, Nat.pow_succ]; omega

theorem or_i64 (a b : Nat) (ha : a < 9223372036854775808) (hb : b < 9223372036854775808) : bits .or .i64 (a : Int) (b : Int) = ((a ||| b : Nat) : Int) := by
  have e : ∀ n : Nat, n < 9223372036854775808 → (BitVec.ofInt 64 (n : Int)).toNat = n := fun n hn => by simp [BitVec.ofInt_natCast]; omega
  have hx : a ||| b < 2 ^ 63 := Nat.or_lt_two_pow (by omega) (by omega)
  show IntKind.i64.wrap (((BitVec.ofInt 64 (a : Int) ||| BitVec.ofInt 64 (b : Int)).toNat : Nat) : Int) = _
  rw [BitVec.toNat_or, e a ha, e b hb]
  exact IntWalk.i64_in _ (by omega)

theorem or_byte (a b : Nat) (hb : b < 256) : a * 256 ||| b = b + 256 * a := by
  have h := Nat.two_pow_add_eq_or_of_lt (i := 8) (b := b) (by simpa using hb) a
  rw [Nat.mul_comm a 256, Nat.add_comm b]
  exact h.symm

theorem numB_step (a b : Nat) (ha : a < 36028797018963968) (hb : b < 256) : bits .or .i64 (wrap64 ((a : Int) * 256)) (wrap64 (b : Int)) = ((b + 256 * a : Nat) : Int) := by
  have e1 : wrap64 ((a : Int) * 256) = ((a * 256 : Nat) : Int) := by rw [Int.natCast_mul]; exact IntWalk.wrap64_in _ ⟨by omega, by omega⟩
  have e2 : wrap64 (b : Int) = (b : Int) := IntWalk.wrap64_in _ ⟨by omega, by omega⟩
  rw [e1, e2, or_i64 _ _ (by omega) (by omega), or_byte a b hb]

theorem numB_backs (xs : List UInt8) (h7 : xs.length ≤ 7) : ∀ k, k ≤ xs.length → numB (backs xs k) = (numOf (xs.drop (xs.length - k)) : Int) := by
  intro k
  induction k with
  | zero => intro _; simp [backs, upto, numB, numOf]
  | succ k ih =>
    intro hk
    have hi := ih (by omega)
    have hs : backs xs (k + 1) = backs xs k ++ [(xs.length - 1 - k, xs[xs.length - 1 - k]?.getD 0)] := upto_succ _ k
    rw [hs, numB_snoc, hi]
    have hd : xs.drop (xs.length - (k + 1)) = xs[xs.length - 1 - k]?.getD 0 :: xs.drop (xs.length - k) := by
      have e : xs.length - (k + 1) = xs.length - 1 - k := by omega
      rw [e, List.drop_eq_getElem_cons (by omega), List.getElem?_eq_getElem (by omega)]
      simp only [Option.getD_some]
      congr 2
      omega
    rw [hd]
    have hlt := numOf_lt (xs.drop (xs.length - k))
    have hl : (xs.drop (xs.length - k)).length ≤ 6 := by simp; omega
    have hp : 256 ^ (xs.drop (xs.length - k)).length ≤ 256 ^ 6 := Nat.pow_le_pow_right (by omega) hl
    exact numB_step _ _ (Nat.lt_of_lt_of_le hlt (Nat.le_trans hp (by decide))) (UInt8.toNat_lt _)

set_option maxRecDepth 100000 in
set_option maxHeartbeats 1000000 in
theorem number_in (n : Nat) (h3 : 3 ≤ n) (A : Option Addr) (m c b : Nat) (xs : List UInt8) (hreach : xs.length < 1099511627776) (w : World) (hb : b ≠ w.heap.size ∧ b < w.heap.size + 2)
    (hS : ((xs = [] ∧ ∃ A' c', Value.slice A m c = .slice A' 0 c') ∨ ∃ off cap, b < w.heap.size ∧ Value.slice A m c = .slice (some ⟨b, off, none⟩) xs.length cap ∧ ∀ j u, (xs.map bv)[j]? = some u → w.cell? ⟨b, off + j, none⟩ = some u)) :
    CallsIn Fence.wide n Try.prog 15 #[.slice A m c] w fun e W' => e = .returned (.int .i64 (numB (backs xs xs.length))) ∧ Below w.heap.size w W' := by
  have h1 : 1 ≤ n := by omega
  refine callsIn_of_wp_marks Try.func15 rfl trivial ?_ rfl
  simp only [Try.ntmps15, List.size_toArray, List.length_cons, List.length_nil, Nat.reduceAdd, Nat.reduceSub, Array.replicate_succ, Array.replicate_zero, List.push_toArray, List.append_toArray, List.nil_append, List.cons_append]
  gi_wp2_with (refine ⟨trivial, ?_⟩; gi_at_call 18; refine (backward8_in (n - 1) _ _ _ _).mono ?_; rintro e w' ⟨rfl, rfl⟩)
  have bS := Boxed.new w 3 (.int .i64 0)
  have bN := Boxed.new (w.alloc (.cells #[.int .i64 0] 3)) 27 (.slice A m c)
  rw [World.size_alloc] at bN
  have hB0 : Below w.heap.size w ((w.alloc (.cells #[.int .i64 0] 3)).alloc (.cells #[.slice A m c] 27)) := ((Below.refl _ w).alloc (Nat.le_refl _) _).alloc (by simp) _
  have hS8 : S8 ((w.alloc (.cells #[.int .i64 0] 3)).alloc (.cells #[.slice A m c] 27)) (w.heap.size + 1) b (.slice A m c) xs := by
    refine ⟨bN.cell, ?_⟩
    rcases hS with h | ⟨off, cap, hlt, e, hc⟩
    · exact .inl h
    · exact .inr ⟨off, cap, e, fun j u hu => (hB0.cell (p := ⟨b, off + j, none⟩) hlt).trans (hc j u hu)⟩
  refine wpIn_rangeFunc_ownG rfl h1 (gf := 20) (lb := #[.pointer (some ⟨w.heap.size + 1, 0, none⟩)]) rfl trivial (enters_of Try.func20 (by kernel_rfl) rfl)
    (back8_stops (n - 1) (by omega) (w.heap.size + 1) b _ xs hreach _ (by simp) (by simp; omega) hS8) Keep2.t (Keep2.b (by simp) (by simp; omega)) (Below.refl _ _) (fun _ => rfl)
    (fun pre W => (W.cell? ⟨w.heap.size, 0, none⟩ = some (.int .i64 (numB pre)) ∧ W.frozen? ⟨w.heap.size, 0, none⟩ = false) ∧ Below w.heap.size w W)
    (fun _ _ _ => False)
    (OwnFrom.and (Own.from (fun s A B row hs hg hr => ⟨cell_kept hs.1 hg hr, (frozen_kept hs.1 hg hr).trans hs.2⟩) _) (ownFrom_below (Nat.le_refl _) (by simp; omega)))
    (fun _ _ _ _ _ hs _ _ => hs)
    ⟨⟨(bS.alloc _).cell, (bS.alloc _).frozen⟩, hB0⟩
    (fun x => { tmps := #[.slice A m c, undef, .int .i64 0, .pointer (some ⟨w.heap.size, 0, none⟩), undef, bv x.2, .slice A m c, .func (.func 20) #[] #[.pointer (some ⟨w.heap.size + 1, 0, none⟩)], .int .i64 (x.1 : Int), bv x.2, undef, undef, undef, undef, undef, undef], defers := [] }) ?assign ?body ?done ?stop
  case assign =>
    intro l x W K hK
    gi_wp2
    exact hK
  case body =>
    rintro l pre x W ⟨⟨hc, hf⟩, hB⟩ _
    gi_wp2
    exact ⟨(KeepsOthers.setCell _ _ _).from _, Keep2.set _ _ _ (by simp) (by simp; omega), ⟨by rw [numB_snoc]; exact World.cell?_setCell_same' _ _ _ (by rw [hc]; rfl), by rw [World.frozen?_setCell]; exact hf⟩, hB.setCell (p := ⟨w.heap.size, 0, none⟩) (Nat.le_refl _) _⟩
  case done =>
    rintro D ys W hD rfl ⟨⟨hc, _⟩, hB⟩ hK
    gi_wp2
    refine ⟨by simp, .inl ⟨_, _, rfl, run_takeDeferred hK, ?_⟩⟩
    exact ⟨_, results_tmp rfl _ _ _, rfl, hB.trans (belowK_b (w := w) (Nat.le_refl _) W D _ _ (by simp at hD; omega) hK rfl rfl)⟩
  case stop =>
    rintro D c pre W _ _ h _
    exact h.elim

/-- number(b): whatever the bytes; up to seven of them: their number -/
theorem number_any (A : Option Addr) (m c : Nat) (xs : List UInt8) (w : World) (hr : Rd w w.heap.size 1 A m (xs.map bv)) (hreach : m < 1099511627776) :
    Calls Try.prog 15 #[.slice A m c] w (Ret (.int .i64 (numB (backs xs xs.length))) w) := by
  have hl : xs.length = m := by simpa using hr.len1
  by_cases h0 : m = 0
  · subst h0
    obtain rfl : xs = [] := List.eq_nil_of_length_eq_zero hl
    exact (callsIn_wide (n := 3)).1 ((number_in 3 (by omega) A 0 c (w.heap.size + 1) [] (by simp) w ⟨by omega, by omega⟩ (.inl ⟨rfl, A, c, rfl⟩)).mono fun e w' h => h)
  · obtain ⟨b, off, rfl, hb, hc⟩ := hr.2 (by omega)
    refine (callsIn_wide (n := 3)).1 ?_
    exact (number_in 3 (by omega) _ m c b xs (by omega) w ⟨by omega, by omega⟩ (.inr ⟨off, c, hb, by rw [hl], hc⟩)).mono fun e w' h => h
end Go.Proofs.Ytaapiojpkkhmgaa
