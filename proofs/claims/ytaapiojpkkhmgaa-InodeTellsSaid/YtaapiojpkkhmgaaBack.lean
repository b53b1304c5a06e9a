/- slices.Backward over bytes: what its iterator hands to a loop's body. -/
import Derived.Test.YtaapiojpkkhmgaaBase
import Derived.RangeFuncNested
import Derived.RangeFuncBox
import Derived.RangeFuncBound
import Derived.RangeFuncCalls
import Derived.RangeFuncLeaves
import Derived.Shelf.Abstract
import Derived.Shelf.RegionOpen
import Derived.OwnWalkIn
import Derived.TacticsInMore
import Derived.LoopNIn
import Derived.LoopIn
namespace Go.Proofs.Ytaapiojpkkhmgaa
set_option linter.unusedSimpArgs false
set_option linter.unusedVariables false
open Go.RowKit Go.Shelf

attribute [local go_sem] Oper.semAt_some

/-- what has come when k rounds are over -/
def upto {α : Type} (f : Nat → α) (k : Nat) : List α := (List.range k).map f
theorem upto_succ {α : Type} (f : Nat → α) (k : Nat) : upto f (k + 1) = upto f k ++ [f k] := by simp [upto, List.range_succ]
theorem upto_length {α : Type} (f : Nat → α) (k : Nat) : (upto f k).length = k := by simp [upto]

/-- two blocks lie as they lay -/
def Keep2 (x y : Nat) (A B : World) : Prop := B.heap[x]? = A.heap[x]? ∧ B.heap[y]? = A.heap[y]?
theorem Keep2.t {x y : Nat} {A B C : World} (h : Keep2 x y A B) (k : Keep2 x y B C) : Keep2 x y A C := ⟨k.1.trans h.1, k.2.trans h.2⟩
theorem Keep2.refl (x y : Nat) (A : World) : Keep2 x y A A := ⟨rfl, rfl⟩
theorem Keep2.b {x y : Nat} {w : World} (hx : x < w.heap.size) (hy : y < w.heap.size) (W : World) (l : Nat) (o o' : Obj) (hl : w.heap.size ≤ l) (_ : W.heap[l]? = some o) (_ : o.isCells = false) (_ : o.isWalk = false) : Keep2 x y W (W.putObj l o') :=
  ⟨World.putObj_heap_other (by omega), World.putObj_heap_other (by omega)⟩
theorem Keep2.set {x y : Nat} (A : World) (p : Addr) (v : Value) (hx : x ≠ p.block) (hy : y ≠ p.block) : Keep2 x y A (A.setCell p v) :=
  ⟨Below.heap_setCell A p v x hx, Below.heap_setCell A p v y hy⟩
theorem Keep2.below {x y B : Nat} {A C : World} (h : Below B A C) (hx : x < B) (hy : y < B) : Keep2 x y A C := ⟨h.block x hx, h.block y hy⟩

set_option maxRecDepth 100000 in
set_option maxHeartbeats 1000000 in
theorem back8_in (n : Nat) (hn : 1 ≤ n) (l Bs b off len cap : Nat) (xs : List UInt8) (hreach : len < 1099511627776) (hlen : xs.length = len) (J Jx : List (Nat × UInt8) → World → Prop)
    (hY : ∀ pre x W, J pre W → pre.length < len → YieldAt Fence.wide (n - 1) Try.prog l #[.int .i64 (x.1 : Int), bv x.2] W fun e W' =>
      (e = .returned (.bool true) ∧ J (pre ++ [x]) W' ∧ Keep2 Bs b W W') ∨ (e = .returned (.bool false) ∧ Jx (pre ++ [x]) W'))
    (W : World) (hBs : W.cell? ⟨Bs, 0, none⟩ = some (.slice (some ⟨b, off, none⟩) len cap)) (hc : ∀ j u, (xs.map bv)[j]? = some u → W.cell? ⟨b, off + j, none⟩ = some u) (h0 : J [] W) :
    CallsIn Fence.wide n Try.prog 20 #[.func (.yield l) #[] #[], .pointer (some ⟨Bs, 0, none⟩)] W fun e W' => (∃ v, e = .returned v) ∧
      ((∃ ys, ys = upto (fun j => (len - 1 - j, xs[len - 1 - j]?.getD 0)) len ∧ J ys W') ∨ (∃ pre, (∃ k, k ≤ len ∧ pre = upto (fun j => (len - 1 - j, xs[len - 1 - j]?.getD 0)) k) ∧ Jx pre W')) := by
  refine callsIn_of_wp Try.func20 rfl trivial ?_ rfl
  simp only [Try.ntmps20, List.size_toArray, List.length_cons, List.length_nil, Nat.reduceAdd, Nat.reduceSub, Array.replicate_succ, Array.replicate_zero, List.push_toArray, List.append_toArray, List.nil_append, List.cons_append]
  gi_wp2
  gi_loopw [3] (fun i wr => ∃ k : Nat, k ≤ len ∧ i = .int .i64 ((len : Int) - 1 - k) ∧ J (upto (fun j => (len - 1 - j, xs[len - 1 - j]?.getD 0)) k) wr ∧ Keep2 Bs b W wr)
    (fun i _ => (intOf i + 1).toNat)
  case atStart => exact ⟨0, Nat.zero_le _, by simp, h0, Keep2.refl _ _ _⟩
  case round =>
    obtain ⟨k, hk, rfl, hJs, hnx⟩ := hrel
    have hBr : wr.cell? ⟨Bs, 0, none⟩ = some (.slice (some ⟨b, off, none⟩) len cap) := (World.cell?_of_block (w := W) hnx.1).trans hBs
    by_cases hlt : k < len
    · have hcx : wr.cell? ⟨b, off + (len - 1 - k), none⟩ = some (bv (xs[len - 1 - k]?.getD 0)) := by
        refine (World.cell?_of_block (w := W) hnx.2).trans (hc _ _ ?_)
        rw [List.getElem?_map, List.getElem?_eq_getElem (by omega)]
        simp
      obtain ⟨fn, tmps, assign, body, hy, hR⟩ := hY _ (len - 1 - k, xs[len - 1 - k]?.getD 0) wr hJs (by rw [upto_length]; exact hlt)
      dsimp only at hy
      obtain ⟨i, hi⟩ : ∃ i : Nat, len - 1 - k = i := ⟨_, rfl⟩
      have hi2 : (len : Int) - 1 - k = (i : Int) := by omega
      have hil : i < len := by omega
      have hik : k + i + 1 ≤ len ∧ len ≤ k + i + 1 := by omega
      have HU := Lib.hid (upto_succ (fun j => (len - 1 - j, xs[len - 1 - j]?.getD 0)) k)
      obtain ⟨u, hu⟩ : ∃ u, xs[i]?.getD 0 = u := ⟨_, rfl⟩
      rw [hi] at hcx hy hR
      rw [hu] at hcx hy hR
      rw [hi2]
      clear hi2
      have HE := Lib.hid hu
      clear hu
      have HI := Lib.hid hi
      clear hi
      gi_wp2
      refine hR.mono ?_
      rintro e W3 (⟨rfl, hJ3, hk3⟩ | ⟨rfl, hJx3⟩)
      · gi_wp2
        go_roundw
        case rel => exact ⟨k + 1, by omega, by go_num, by rw [HU.out, HI.out, HE.out]; exact hJ3, hnx.t hk3⟩
        case measure => simp [intOf]
      · gi_wp2
        refine bodyPost_ret (results_none rfl _ _ _) rfl ?_
        exact ⟨⟨_, rfl⟩, .inr ⟨_, ⟨k + 1, by omega, by rw [HU.out, HI.out, HE.out]⟩, hJx3⟩⟩
    · obtain rfl : k = len := by omega
      gi_wp2
      go_end0
      exact ⟨⟨_, rfl⟩, .inl ⟨_, rfl, hJs⟩⟩

/-- the box of s, and where s lies: '.slice A len cap' -/
def S8 (W : World) (Bs b : Nat) (v : Value) (xs : List UInt8) : Prop :=
  W.cell? ⟨Bs, 0, none⟩ = some v ∧ ((xs = [] ∧ ∃ A c, v = .slice A 0 c) ∨ ∃ off cap, v = .slice (some ⟨b, off, none⟩) xs.length cap ∧ ∀ j u, (xs.map bv)[j]? = some u → W.cell? ⟨b, off + j, none⟩ = some u)
theorem S8.keep {W W' : World} {Bs b : Nat} {v : Value} {xs : List UInt8} (h : S8 W Bs b v xs) (hk : Keep2 Bs b W W') : S8 W' Bs b v xs := by
  refine ⟨(World.cell?_of_block (w := W) hk.1).trans h.1, ?_⟩
  rcases h.2 with h | ⟨off, cap, e, hc⟩
  · exact .inl h
  · exact .inr ⟨off, cap, e, fun j u hu => (World.cell?_of_block (w := W) hk.2).trans (hc j u hu)⟩

set_option maxRecDepth 100000 in
set_option maxHeartbeats 1000000 in
theorem back8_nil_in (n l Bs c : Nat) (A : Option Addr) (J : List (Nat × UInt8) → World → Prop) (W : World) (hBs : W.cell? ⟨Bs, 0, none⟩ = some (.slice A 0 c)) (h0 : J [] W) :
    CallsIn Fence.wide n Try.prog 20 #[.func (.yield l) #[] #[], .pointer (some ⟨Bs, 0, none⟩)] W fun e W' => (∃ v, e = .returned v) ∧ J [] W' := by
  refine callsIn_of_wp Try.func20 rfl trivial ?_ rfl
  simp only [Try.ntmps20, List.size_toArray, List.length_cons, List.length_nil, Nat.reduceAdd, Nat.reduceSub, Array.replicate_succ, Array.replicate_zero, List.push_toArray, List.append_toArray, List.nil_append, List.cons_append]
  gi_wp2
  gi_loopw [3] (fun i wr => i = .int .i64 (-1) ∧ J [] wr) (fun _ _ => 0)
  case atStart => exact ⟨rfl, h0⟩
  case round =>
    obtain ⟨rfl, hJs⟩ := hrel
    gi_wp2
    go_end0
    exact ⟨⟨_, rfl⟩, hJs⟩

/-- what slices.Backward hands out of xs: the pairs (index, byte) from behind -/
def backs (xs : List UInt8) (k : Nat) : List (Nat × UInt8) := upto (fun j => (xs.length - 1 - j, xs[xs.length - 1 - j]?.getD 0)) k

/-- THE ITERATOR's CONTRACT -/
theorem back8_stops (n : Nat) (hn : 1 ≤ n) (Bs b : Nat) (v : Value) (xs : List UInt8) (hreach : xs.length < 1099511627776) (w : World) (hBs : Bs < w.heap.size) (hb : b < w.heap.size) (hS : S8 w Bs b v xs) :
    SeqStopsK Fence.wide n Try.prog 20 #[.pointer (some ⟨Bs, 0, none⟩)] (fun x : Nat × UInt8 => #[.int .i64 (x.1 : Int), bv x.2]) (Keep2 Bs b) (fun ys => ys = backs xs xs.length)
      (fun pre => ∃ k, k ≤ xs.length ∧ pre = backs xs k) xs.length w := fun l J Jx W hW _ _ hY h0 => by
  obtain ⟨hc, h⟩ := hS.keep (Keep2.below hW hBs hb)
  rcases h with ⟨rfl, A, c, rfl⟩ | ⟨off, cap, rfl, hcs⟩
  · exact (back8_nil_in n l Bs c A J W hc h0).mono fun e W' ⟨he, hj⟩ => ⟨he, .inl ⟨_, rfl, hj⟩⟩
  · exact back8_in n hn l Bs b off xs.length cap xs hreach rfl J Jx hY W hc hcs h0

set_option maxHeartbeats 1000000 in
theorem backward8_in (n : Nat) (A : Option Addr) (m c : Nat) (w : World) :
    CallsIn Fence.wide n Try.prog 18 #[.slice A m c] w fun e w' => e = .returned (.func (.func 20) #[] #[.pointer (some ⟨w.heap.size, 0, none⟩)]) ∧ w' = w.alloc (.cells #[.slice A m c] 27) := by
  refine callsIn_of_wp Try.func18 rfl trivial ?_ rfl
  simp only [Try.ntmps18, List.size_toArray, List.length_cons, List.length_nil, Nat.reduceAdd, Nat.reduceSub, Array.replicate_succ, Array.replicate_zero, List.push_toArray, List.append_toArray, List.nil_append, List.cons_append]
  gi_wp2
  go_ret
  exact ⟨rfl, rfl⟩
end Go.Proofs.Ytaapiojpkkhmgaa
