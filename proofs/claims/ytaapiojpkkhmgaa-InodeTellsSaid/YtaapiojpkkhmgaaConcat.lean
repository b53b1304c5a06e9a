/- slices.Grow of nil, slices.Concat: at bytes. -/
import Derived.Test.YtaapiojpkkhmgaaSmall2
import Derived.Lib.AppendZerosOnto
import Derived.Lib.Walk
namespace Go.Proofs.Ytaapiojpkkhmgaa
set_option linter.unusedSimpArgs false
set_option linter.unusedVariables false
open Go.RowKit

set_option maxHeartbeats 1000000 in
theorem grow8_any (n : Nat) (hn : n < 1073741824) (w : World) :
    Calls Try.prog 19 #[.slice none 0 0, .int .i64 (n : Int)] w (RetS (fun v w' => w'.ownsRow w.heap.size 5 1 v 0 []) w) := by
  obtain ⟨i0, hi, hz0, hz1, hz2⟩ := info_parts Try.info_u8
  by_cases h0 : n = 0
  · subst h0
    go_enter Try.func19, Try.ntmps19
    go_wp2
    go_ret
    exact ⟨_, rfl, World.ownsRow_nil _ _ _ _, Below.refl _ _⟩
  · have hG := grownCap_ge w n 0 5
    have hGm := grownCap_le_maxLen w n 0 5 (by unfold maxLen; omega)
    have hrz : ∀ ty, (Builtin.append_ #[27, 3] ty #[.slice none 0 0, .int .i64 (n : Int)]).run Try.prog w =
        .ok (.slice (some ⟨w.heap.size, 0, none⟩) n (grownCap w n 0 5)) (w.drew.alloc (.cells (([] : List Value).toArray ++ Builtin.zeroCells (Value.int .u8 0).cells n ++ Builtin.zeroCells (Value.int .u8 0).cells (grownCap w n 0 5 - n)) 5)) := fun ty => by
      have h := Lib.run_append_grow_zeros (P := Try.prog) w 27 3 ty 5 i0 (.int .u8 0) .i64 .i64 Try.underlying27 Try.underlying3 hi hz0 none 0 0 [] (run_firstCells_none w.drew i0.size 0 0 0) n (by omega) (by omega) (by omega) (by omega) (by rw [hz2]; omega) (growslice_fits (by omega) (by rw [hz2]; omega))
      simpa using h
    obtain ⟨G, hGe⟩ : ∃ G, grownCap w n 0 5 = G := ⟨_, rfl⟩
    rw [hGe] at hG hGm hrz
    unfold maxLen at hGm
    have hpos : 0 < n := by omega
    clear hGe
    go_enter Try.func19, Try.ntmps19
    go_wp2_with (at_builtin; refine Lib.wpList_append_run _ rfl _ _ _ _ rfl _ _ rfl rfl _ _ (hrz _) ?_)
    go_ret
    refine ⟨_, rfl, ?_, (by repeat' (first | with_reducible exact Below.refl _ _ | with_reducible assumption | with_reducible apply Below.drew | with_reducible apply below_drewN | with_reducible refine Below.alloc ?_ ?_ _ | with_reducible refine Below.setCell ?_ ?_ _ | (simp; done) | (simp; omega) | omega))⟩
    refine (World.ownsRow_made w _ G (Nat.le_refl _) (by unfold maxLen; omega) ?_).drew
    simp only [Array.size_append, size_zeroCells, List.size_toArray, List.length_cons, List.length_nil]
    omega

/-- the first k lists, one behind the other -/
def catTo (ls : List (List UInt8)) (k : Nat) : List UInt8 := (ls.take k).flatten

set_option maxHeartbeats 1000000 in
/-- slices.Concat of lists of bytes: their bytes, one list behind the other, in new memory -/
theorem concat8_any (A : Option Addr) (c m : Nat) (vs : List Value) (ls : List (List UInt8)) (hv : vs.length = m) (hl : ls.length = m) (w : World) (hr : Rd w w.heap.size 1 A m vs)
    (hb : ∀ (i : Nat) (v : Value) (l : List UInt8), vs[i]? = some v → ls[i]? = some l → Bys w w.heap.size v l) (hn : m < 1024) (hs : ls.flatten.length < 1048576) :
    Calls Try.prog 16 #[.slice A m c] w (RetS (fun v w' => w'.ownsRow w.heap.size 5 1 v ls.flatten.length (ls.flatten.map bv)) w) := by
  obtain ⟨i0, hi, hz0, hz1, hz2⟩ := info_parts Try.info_u8
  have hstep : ∀ k, k < m → ∃ A c l, vs[k]? = some (.slice A l.length c) ∧ ls[k]? = some l ∧ Rd w w.heap.size 1 A l.length (l.map bv) := fun k hk => by
    obtain ⟨v, hv⟩ : ∃ v, vs[k]? = some v := ⟨_, List.getElem?_eq_getElem (by omega)⟩
    obtain ⟨l, hl'⟩ : ∃ l, ls[k]? = some l := ⟨_, List.getElem?_eq_getElem (by omega)⟩
    obtain ⟨A, c, rfl, _, _, h⟩ := hb k v l hv hl'
    exact ⟨A, c, l, hv, hl', h⟩
  have hsum : ∀ k, (catTo ls k).length ≤ ls.flatten.length := fun k => by
    unfold catTo; conv => rhs; rw [← List.take_append_drop k ls]
    rw [List.flatten_append, List.length_append]; omega
  have htk : ∀ (k : Nat) (l : List UInt8), ls[k]? = some l → catTo ls (k + 1) = catTo ls k ++ l := fun k l h => by
    unfold catTo; rw [List.take_add_one, h]; simp
  have HT := Lib.hid htk
  clear htk
  have hall : ls.flatten = catTo ls m := by unfold catTo; rw [List.take_of_length_le (by omega)]
  have h00 : Hid ([] = catTo ls 0) := by unfold catTo; exact rfl
  rw [hall] at hs hsum ⊢
  clear hall hl hv hb
  go_enter Try.func16, Try.ntmps16
  go_wp2
  go_loop [3, 11] (fun t i => ∃ k : Nat, k ≤ m ∧ i = .int .i64 (k : Int) ∧ t = .int .i64 ((catTo ls k).length : Int))
    (fun _ i => m - (intOf i).toNat)
  case atStart => exact ⟨0, Nat.zero_le _, rfl, by rw [← h00.out]; rfl⟩
  case round =>
    obtain ⟨k, hk, rfl, rfl⟩ := hrel
    have h1 := hsum k
    by_cases hlt : k < m
    · obtain ⟨A', c', l, hv, hl, hrl⟩ := hstep k hlt
      obtain ⟨b, off, rfl, hbl, hc⟩ := hr.2 (by omega)
      have hcell := hc k _ hv
      have h2 := hsum (k + 1)
      rw [HT.out k l hl, List.length_append] at h2
      go_wp2
      go_round
      case rel => exact ⟨k + 1, by omega, by go_num, by rw [HT.out k l hl, List.length_append]; go_num⟩
      case measure => simp [intOf]; omega
    · obtain rfl : k = m := by omega
      clear h1
      go_wp2_with fail
      refine (grow8_any (catTo ls k).length (by omega) _).mono ?_
      rintro e w1 ⟨v, rfl, hown, hB⟩
      go_wp2
      go_loopw [6, 27] (fun v i wr => ∃ j : Nat, j ≤ k ∧ i = .int .i64 (j : Int) ∧ wr.ownsRow w.heap.size 5 1 v (catTo ls j).length ((catTo ls j).map bv) ∧ Below w.heap.size w wr)
        (fun _ i _ => k - (intOf i).toNat)
      case atStart => exact ⟨0, Nat.zero_le _, rfl, by rw [← h00.out]; exact hown, hB⟩
      case round =>
        clear hown hB
        obtain ⟨j, hj, rfl, hown, hB⟩ := hrel
        by_cases hlt : j < k
        · obtain ⟨A', c', l, hv, hl, hrl⟩ := hstep j hlt
          obtain ⟨b, off, rfl, hbl, hc⟩ := hr.2 (by omega)
          have hcell := (hB.cell (p := ⟨b, off + j, none⟩) hbl).trans (hc j _ hv)
          have h1 := hsum j
          have h2 := hsum (j + 1)
          rw [HT.out j l hl, List.length_append] at h2
          have HE := Lib.hid (HT.out j l hl)
          go_wp2_with (at_builtin; refine wpList_stop ?_)
          refine Stopped.go (wpList_append_rd _ rfl (.tmp 31) (.tmp 32) 27 rfl w.heap.size 5 i0 (.int .u8 0) 1 1 Try.underlying27 hi hz0 hz1 hz2 rfl (by decide) _ _ _ rfl hown w.heap.size A' l.length c' (l.map bv) rfl (hrl.below hB) (bvs_one l) (by omega) (by decide) hB.size ?_)
          intro v' w2 hown1 _ hb1 _
          go_wp2
          go_roundw
          case rel => exact ⟨j + 1, by omega, by go_num, by rw [HE.out, List.length_append, List.map_append]; exact hown1, hB.trans hb1⟩
          case measure => simp [intOf]; omega
        · obtain rfl : j = k := by omega
          go_wp2
          go_ret
          exact ⟨_, rfl, hown, hB⟩
end Go.Proofs.Ytaapiojpkkhmgaa
