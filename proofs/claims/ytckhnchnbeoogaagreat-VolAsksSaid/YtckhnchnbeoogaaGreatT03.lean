/- Texts Crc, Sum, Clone, Open, OpenR, Itm, joined. -/
import Derived.WalkSpells
import Derived.RangeFuncRecord
import Derived.Test.YtckhnchnbeoogaaGreatT02
/- Sums of bytes: plain laws. -/
namespace Go.Proofs.YtckhnchnbeoogaaGreat
set_option linter.unusedSimpArgs false
set_option linter.unusedVariables false
open Go.RowKit

def hv (s : Nat) : Nat := (s / 2) ^^^ (if s % 2 = 1 then 3988292384 else 0)
def hvs : Nat → Nat → Nat
  | 0, s => s
  | k + 1, s => hv (hvs k s)
def tabN (i : Nat) : Nat := hvs 4 i
def crcStep (s : Nat) (x : UInt8) : Nat :=
  let s1 := s ^^^ x.toNat
  let s2 := (s1 / 16) ^^^ tabN (s1 % 16)
  (s2 / 16) ^^^ tabN (s2 % 16)
def crcN (l : List UInt8) : Nat := l.foldl crcStep 4294967295
def crc (l : List UInt8) : Nat := 4294967295 - crcN l
theorem crcN_snoc (l : List UInt8) (x : UInt8) : crcN (l ++ [x]) = crcStep (crcN l) x := by simp [crcN]

theorem xor_lt32 {a b : Nat} (ha : a < 4294967296) (hb : b < 4294967296) : a ^^^ b < 4294967296 := Nat.xor_lt_two_pow (n := 32) (by omega) (by omega)
theorem hv_lt {s : Nat} (h : s < 4294967296) : hv s < 4294967296 := by
  unfold hv
  refine xor_lt32 (by omega) ?_
  split <;> omega
theorem hvs_lt (k : Nat) {s : Nat} (h : s < 4294967296) : hvs k s < 4294967296 := by
  induction k with
  | zero => exact h
  | succ k ih => exact hv_lt ih
theorem tabN_lt {i : Nat} (h : i < 16) : tabN i < 4294967296 := hvs_lt 4 (by omega)
theorem crcStep_lt {s : Nat} (x : UInt8) (h : s < 4294967296) : crcStep s x < 4294967296 := by
  have hx := x.toNat_lt
  unfold crcStep
  refine xor_lt32 ?_ (tabN_lt (by omega))
  have : (s ^^^ x.toNat) / 16 ^^^ tabN ((s ^^^ x.toNat) % 16) < 4294967296 := xor_lt32 (by have := xor_lt32 h (b := x.toNat) (by omega); omega) (tabN_lt (by omega))
  omega
theorem crcN_lt (l : List UInt8) : crcN l < 4294967296 := by
  suffices h : ∀ (l : List UInt8) s, s < 4294967296 → l.foldl crcStep s < 4294967296 from h l _ (by omega)
  intro l
  induction l with
  | nil => intro s h; exact h
  | cons x r ih => intro s h; exact ih _ (crcStep_lt x h)
theorem crc_lt (l : List UInt8) : crc l < 4294967296 := by unfold crc; omega

theorem toNat32 (n : Nat) (hn : n < 4294967296) : (BitVec.ofInt 32 (n : Int)).toNat = n := by simp [BitVec.ofInt_natCast]; omega
theorem wrap_u32 (n : Nat) (hn : n < 4294967296) : IntKind.u32.wrap (n : Int) = n := by
  simp [IntKind.wrap, IntKind.bits, IntKind.signed]
  omega
theorem xor_u32 (a b : Nat) (ha : a < 4294967296) (hb : b < 4294967296) : bits .xor .u32 (a : Int) (b : Int) = ((a ^^^ b : Nat) : Int) := by
  show IntKind.u32.wrap (((BitVec.ofInt 32 (a : Int) ^^^ BitVec.ofInt 32 (b : Int)).toNat : Nat) : Int) = _
  rw [BitVec.toNat_xor, toNat32 a ha, toNat32 b hb]
  exact wrap_u32 _ (xor_lt32 ha hb)
theorem and_u32 (a b : Nat) (ha : a < 4294967296) (hb : b < 4294967296) : bits .and .u32 (a : Int) (b : Int) = ((a &&& b : Nat) : Int) := by
  show IntKind.u32.wrap (((BitVec.ofInt 32 (a : Int) &&& BitVec.ofInt 32 (b : Int)).toNat : Nat) : Int) = _
  rw [BitVec.toNat_and, toNat32 a ha, toNat32 b hb]
  refine wrap_u32 _ ?_
  have := Nat.and_le_left (n := a) (m := b)
  omega
theorem and_1 (a : Nat) (ha : a < 4294967296) : bits .and .u32 (a : Int) 1 = ((a % 2 : Nat) : Int) := by
  have := and_u32 a 1 ha (by omega)
  rw [Nat.and_one_is_mod] at this
  exact this
theorem and_15 (a : Nat) (ha : a < 4294967296) : bits .and .u32 (a : Int) 15 = ((a % 16 : Nat) : Int) := by
  have := and_u32 a 15 ha (by omega)
  rw [show (15 : Nat) = 2 ^ 4 - 1 from rfl, Nat.and_two_pow_sub_one_eq_mod] at this
  exact this
theorem xor_all (a : Nat) (ha : a < 4294967296) : a ^^^ 4294967295 = 4294967295 - a := by
  have h := congrArg BitVec.toNat (BitVec.xor_allOnes (x := BitVec.ofNat 32 a))
  rw [BitVec.toNat_xor, BitVec.toNat_allOnes, BitVec.toNat_not, BitVec.toNat_ofNat, Nat.mod_eq_of_lt (by omega)] at h
  exact h.trans (by omega)
theorem hv_mul (s : Nat) (hs : s < 4294967296) : bits .xor .u32 (((s / 2 : Nat)) : Int) ((3988292384 * ((s % 2 : Nat) : Int)) % 4294967296) = ((hv s : Nat) : Int) := by
  have h := Nat.mod_two_eq_zero_or_one s
  unfold hv
  rcases h with h | h
  · rw [h]
    exact xor_u32 _ 0 (by omega) (by omega)
  · rw [h]
    exact xor_u32 _ 3988292384 (by omega) (by omega)

def rowT (k : Nat) : Array Value := ((List.range 16).map fun i => Value.int .u32 ((if i < k then tabN i else 0 : Nat) : Int)).toArray
theorem rowT_size (k : Nat) : (rowT k).size = 16 := by simp [rowT]
theorem rowT_at (k i : Nat) (h : i < 16) : (rowT k)[i]? = some (.int .u32 ((if i < k then tabN i else 0 : Nat) : Int)) := by simp [rowT, h]
theorem rowT_set (k : Nat) (h : k < 16) : (rowT k).setIfInBounds k (.int .u32 (tabN k : Int)) = rowT (k + 1) := by
  apply Array.ext_getElem?
  intro i
  by_cases hi : i < 16
  · rw [rowT_at _ _ hi]
    by_cases hk : k = i
    · subst hk
      simp [rowT_size, h]
    · rw [Array.getElem?_setIfInBounds_ne hk, rowT_at _ _ hi]
      congr 3
      split <;> split <;> first | rfl | omega
  · rw [Array.getElem?_eq_none (by simp [rowT_size]; omega), Array.getElem?_eq_none (by simp [rowT_size]; omega)]
end Go.Proofs.YtckhnchnbeoogaaGreat
/- Contracts: sums of bytes. -/
namespace Go.Proofs.YtckhnchnbeoogaaGreat
set_option linter.unusedSimpArgs false
set_option linter.unusedVariables false
open Go.RowKit

theorem Below.setRow {B g : Nat} {w0 w : World} (hb : Below B w0 w) (hBg : B ≤ g) (cs : Array Value) : Below B w0 (w.setRow g cs) :=
  hb.trans ⟨rfl, rfl, rfl, by simp, fun k hk => setRow_other _ _ _ _ (by omega)⟩

set_option maxHeartbeats 1000000 in
set_option maxRecDepth 100000 in
theorem fold_any (w : World) : Calls Tryz.prog 154 #[] w (Ret (.agg (rowT 16)) w) := by
  have hinfo : (Tryz.prog.info? 233).map (·.size) = some (rowT 16).size := by rw [rowT_size]; kernel_rfl
  go_enter Tryz.func154, Tryz.ntmps154
  go_wp2
  generalize hw1 : (World.alloc _ _) = w1
  have r0 : w1.heap[w.heap.size]? = some (.cells (rowT 0) 233 (0, 0)) := by rw [← hw1]; exact World.alloc_heap_at _ _ _ rfl
  have hb1 : Below w.heap.size w w1 := by rw [← hw1]; exact (by repeat' (first | with_reducible exact Below.refl _ _ | with_reducible assumption | with_reducible apply Below.drew | with_reducible apply below_drewN | with_reducible refine Below.alloc ?_ ?_ _ | with_reducible refine Below.setCell ?_ ?_ _ | (simp; done) | (simp; omega) | omega))
  clear hw1
  go_loopw [1, 2, 3] (fun x s i wr => ∃ k : Nat, k ≤ 16 ∧ i = .int .i64 (k : Int) ∧ wr.heap[w.heap.size]? = some (.cells (rowT k) 233 (0, 0)) ∧ Below w.heap.size w wr)
    (fun _ _ i _ => 16 - (intOf i).toNat)
  case atStart => exact ⟨0, by omega, rfl, r0, hb1⟩
  case round =>
    obtain ⟨k, hk, rfl, hrow, hB⟩ := hrel
    by_cases hlt : k < 16
    · go_wp2
      go_loopw [2, 8] (fun s i W => ∃ j : Nat, j ≤ 4 ∧ i = .int .i64 (j : Int) ∧ s = .int .u32 ((hvs j k : Nat) : Int) ∧ W = wr)
        (fun _ i _ => 4 - (intOf i).toNat)
      case atStart => exact ⟨0, by omega, rfl, rfl, rfl⟩
      case round =>
        obtain ⟨j, hj, rfl, rfl, rfl⟩ := hrel
        have hs : hvs j k < 4294967296 := hvs_lt j (by omega)
        have HS : Hid (hvs (j + 1) k = hv (hvs j k)) := rfl
        have HT : Hid (tabN k = hvs 4 k) := rfl
        generalize hq : hvs j k = q at *
        by_cases hj4 : j < 4
        · have H1 := Lib.hid (and_1 q hs)
          have H2 := Lib.hid (hv_mul q hs)
          go_wp2
          go_roundw
          case rel =>
            refine ⟨j + 1, by omega, by go_num, ?_, by first | rfl | trivial⟩
            rw [HS.out, ← H2.out, H1.out]
            simp
          case measure => simp [intOf]; omega
        · obtain rfl : j = 4 := by omega
          have kx : wr.cell? ⟨w.heap.size, k, none⟩ = some (.int .u32 0) := by rw [cells_row hrow, rowT_at _ _ hlt]; simp
          have kf := frozen_row hrow
          have HR := Lib.hid (rowT_set k hlt)
          go_wp2
          go_roundw
          case rel =>
            refine ⟨k + 1, by omega, by go_num, ?_, ?_⟩
            · rw [setCell_eq_setRow _ _ _ _ _ _ _ hrow, setRow_heap _ _ _ _ _ _ hrow, ← HR.out, HT.out, hq]
            · exact hB.setCell (p := ⟨w.heap.size, k, none⟩) (Nat.le_refl _) _
          case measure => simp [intOf]; omega
    · obtain rfl : k = 16 := by omega
      go_wp2_with (first
        | refine wpList_load_row rfl 233 (.tmp 0) rfl w.heap.size rfl _ (rowT 16) (0, 0) _ hrow Tryz.underlying233 rfl hinfo ?_
        | refine wpList_store_row rfl 233 (.tmp 0) (.tmp 21) rfl w.heap.size (rowT 16) rfl rfl _ (rowT 16) hrow hinfo rfl (by decide +kernel) ?_)
      exact bodyPost_ret (results_cell_row rfl _ _ w.heap.size _ (rowT 16) (0, 0) _ (by rfl) (setRow_heap _ _ _ _ _ _ hrow) Tryz.underlying233 rfl hinfo) rfl ⟨rfl, Below.setRow hB (Nat.le_refl _) _⟩
theorem step32 (s x : Nat) (hs : s < 4294967296) (hx : x < 256) : s ^^^ x < 4294967296 := xor_lt32 hs (by omega)

set_option maxHeartbeats 1000000 in
set_option maxRecDepth 100000 in
theorem sumof_any (v : Value) (l : List UInt8) (w : World) (h : Bys w w.heap.size v l) (hl : l.length < 1099511627776) : Calls Tryz.prog 139 #[v] w (Ret (.int .u32 (crc l : Int)) w) := by
  obtain ⟨A, c, rfl, hc, hm, hr⟩ := h
  have hinfo : (Tryz.prog.info? 233).map (·.size) = some (rowT 16).size := by rw [rowT_size]; kernel_rfl
  have hF : ∀ W, _ := fun W => fold_any W
  have HF := Lib.hid hF
  clear hF
  go_enter Tryz.func139, Tryz.ntmps139
  go_wp2_with fail
  refine (HF.out _).mono ?_
  rintro e w1 ⟨rfl, hB⟩
  go_wp2_with (refine wpList_store_row rfl 233 (.tmp 3) (.tmp 7) rfl w1.heap.size (rowT 16) rfl rfl _ _ (World.alloc_heap_at _ _ _ rfl) hinfo (by rw [rowT_size]; rfl) (by decide +kernel) ?_)
  generalize hw2 : (World.setRow _ _ _) = w2
  have r2 : w2.heap[w1.heap.size]? = some (.cells (rowT 16) 233 (0, 0)) := by rw [← hw2]; exact setRow_heap _ _ _ _ _ _ (World.alloc_heap_at _ _ _ rfl)
  have hb2 : Below w.heap.size w w2 := by rw [← hw2]; exact Below.setRow (Below.trans hB ((Below.refl _ _).alloc hB.size _)) hB.size _
  clear hw2
  have hT : ∀ i, i < 16 → w2.cell? ⟨w1.heap.size, i, none⟩ = some (.int .u32 (tabN i : Int)) := fun i hi => by rw [cells_row r2, rowT_at _ _ hi, if_pos hi]
  clear r2 hinfo
  go_loopw [4, 10] (fun s i W => ∃ k : Nat, k ≤ l.length ∧ i = .int .i64 (k : Int) ∧ s = .int .u32 (crcN (l.take k) : Int) ∧ W = w2)
    (fun _ i _ => l.length - (intOf i).toNat)
  case atStart => exact ⟨0, by omega, rfl, by simp [crcN], rfl⟩
  case round =>
    obtain ⟨k, hk, rfl, rfl, rfl⟩ := hrel
    by_cases hlt : k < l.length
    · have HN : Hid (crcN (l.take (k + 1)) = crcStep (crcN (l.take k)) l[k]) := by
        rw [List.take_succ_eq_append_getElem hlt, crcN_snoc]; exact rfl
      obtain ⟨b, off, rfl, hb, hcell⟩ := hr.2 (by omega)
      have hcx : wr.cell? ⟨b, off + k, none⟩ = some (bv l[k]) := (hb2.cell hb).trans (hcell k _ (by rw [List.getElem?_map, List.getElem?_eq_getElem hlt]; rfl))
      have hs := crcN_lt (l.take k)
      generalize crcN (l.take k) = s at *
      have hx := l[k].toNat_lt
      generalize l[k] = x at *
      obtain ⟨n, hn⟩ : ∃ n, n = l.length := ⟨_, rfl⟩
      have H1 := Lib.hid (xor_u32 s x.toNat hs (by omega))
      have h1 : s ^^^ x.toNat < 4294967296 := step32 s x.toNat hs (by omega)
      have e1 : crcStep s x = (((s ^^^ x.toNat) / 16 ^^^ tabN ((s ^^^ x.toNat) % 16)) / 16) ^^^ tabN (((s ^^^ x.toNat) / 16 ^^^ tabN ((s ^^^ x.toNat) % 16)) % 16) := rfl
      generalize s ^^^ x.toNat = s1 at *
      have H2 := Lib.hid (and_15 s1 h1)
      have hi1 : s1 % 16 < 16 := by omega
      have c1 := hT _ hi1
      have t1 := tabN_lt hi1
      have H3 := Lib.hid (xor_u32 (s1 / 16) (tabN (s1 % 16)) (by omega) t1)
      have h2 : s1 / 16 ^^^ tabN (s1 % 16) < 4294967296 := xor_lt32 (by omega) t1
      generalize tabN (s1 % 16) = T1 at *
      generalize s1 / 16 ^^^ T1 = s2 at *
      generalize s1 % 16 = i1 at *
      have H4 := Lib.hid (and_15 s2 h2)
      have hi2 : s2 % 16 < 16 := by omega
      have c2 := hT _ hi2
      have t2 := tabN_lt hi2
      clear hT
      have H5 := Lib.hid (xor_u32 (s2 / 16) (tabN (s2 % 16)) (by omega) t2)
      have h3 : s2 / 16 ^^^ tabN (s2 % 16) < 4294967296 := xor_lt32 (by omega) t2
      generalize tabN (s2 % 16) = T2 at *
      generalize s2 / 16 ^^^ T2 = s3 at *
      generalize s2 % 16 = i2 at *
      have q3 : ((s1 / 16 : Nat) : Int) = (s1 : Int) / 16 := rfl
      have q5 : ((s2 / 16 : Nat) : Int) = (s2 : Int) / 16 := rfl
      rw [q3] at H3
      rw [q5] at H5
      clear q3 q5
      have E1 := Lib.hid e1
      clear e1
      go_wp2_with (first | rw [H1.out] | rw [H2.out] | rw [H3.out] | rw [H4.out] | rw [H5.out])
      go_roundw
      case rel => exact ⟨k + 1, by omega, by go_num, by rw [HN.out, E1.out], by first | rfl | trivial⟩
      case measure => simp [intOf]; omega
    · obtain rfl : k = l.length := by omega
      have hs := crcN_lt (l.take l.length)
      rw [List.take_length] at hs ⊢
      have HS : Hid (bits .xor .u32 IntKind.u32.max (crcN l : Int) = (crc l : Int)) := by
        have h1 := xor_u32 4294967295 (crcN l) (by omega) hs
        rw [Nat.xor_comm, xor_all _ hs] at h1
        exact h1
      clear hT
      go_wp2
      all_goals try (exfalso; revert h; decide)
      go_ret
      exact ⟨ret_int HS.out, hb2⟩
end Go.Proofs.YtckhnchnbeoogaaGreat
/- Contracts: slices of bytes cloned, compared; the greatest byte. -/
namespace Go.Proofs.YtckhnchnbeoogaaGreat
set_option linter.unusedSimpArgs false
set_option linter.unusedVariables false
open Go.RowKit

set_option maxHeartbeats 1000000 in
set_option maxRecDepth 100000 in
theorem sclone_any (v : Value) (l : List UInt8) (hl : l.length < 1073741824) (w : World) (h : Bys w w.heap.size v l) :
    Calls Tryz.prog 134 #[v] w (RetS (fun u w' => w'.ownsRow w.heap.size 5 1 u l.length (l.map bv)) w) := by
  obtain ⟨i0, hi, hz0, hz1, hz2⟩ := info_parts Tryz.info_u8
  obtain ⟨A, c, rfl, hc, hm, hr⟩ := h
  have qn : ∀ (w : World) (a : Option Addr) (n c n' c' : Nat), (binOp .eql 26 (.slice a n c) (.slice none n' c')).run Tryz.prog w = .ok (.bool a.isNone) w := fun w a n c n' c' => Lib.run_eql_slice_nil w _ _ a n c n' c' Tryz.underlying26
  rcases A with _ | ⟨b, off, p⟩
  · have h0 : l = [] := by
      rcases l with _ | ⟨x, r⟩
      · rfl
      · obtain ⟨b, off, h, _⟩ := hr.2 (by simp)
        cases h
    subst h0
    go_enter Tryz.func134, Tryz.ntmps134
    go_wp2
    go_ret
    exact ⟨_, rfl, World.ownsRow_nil _ _ _ _, Below.refl _ _⟩
  · go_enter Tryz.func134, Tryz.ntmps134
    go_wp2_with (at_builtin; refine wpList_stop ?_)
    refine Stopped.go (wpList_append_rd _ rfl (.tmp 5) (.tmp 6) 26 rfl w.heap.size 5 i0 (.int .u8 0) 1 1 Tryz.underlying26 hi hz0 hz1 hz2 rfl (by decide) _ 0 [] rfl ?_ w.heap.size _ l.length c (l.map bv) rfl ?_ (bvs_one l) (by omega) (by decide) ?_ ?_)
    · exact World.ownsRow_lit w #[] 0 (Nat.le_refl _) (by simp [maxLen]) rfl
    · exact hr.keep fun p hp => World.cell?_alloc_lt w _ p hp
    · simp
    · intro v' w' hown _ hb _
      simp only [Nat.zero_add, List.nil_append] at hown
      go_wp2
      go_ret
      exact ⟨_, rfl, hown, Below.trans ((Below.refl _ _).alloc (Nat.le_refl _) _) hb⟩
set_option maxHeartbeats 1000000 in
set_option maxRecDepth 100000 in
theorem bclone_any (v : Value) (l : List UInt8) (hl : l.length < 1073741824) (w : World) (h : Bys w w.heap.size v l) :
    Calls Tryz.prog 69 #[v] w (RetS (fun u w' => w'.ownsRow w.heap.size 5 1 u l.length (l.map bv)) w) := by
  obtain ⟨i0, hi, hz0, hz1, hz2⟩ := info_parts Tryz.info_u8
  obtain ⟨A, c, rfl, hc, hm, hr⟩ := h
  have qn : ∀ (w : World) (a : Option Addr) (n c n' c' : Nat), (binOp .eql 26 (.slice a n c) (.slice none n' c')).run Tryz.prog w = .ok (.bool a.isNone) w := fun w a n c n' c' => Lib.run_eql_slice_nil w _ _ a n c n' c' Tryz.underlying26
  rcases A with _ | ⟨b, off, p⟩
  · have h0 : l = [] := by
      rcases l with _ | ⟨x, r⟩
      · rfl
      · obtain ⟨b, off, h, _⟩ := hr.2 (by simp)
        cases h
    subst h0
    go_enter Tryz.func69, Tryz.ntmps69
    go_wp2
    go_ret
    exact ⟨_, rfl, World.ownsRow_nil _ _ _ _, Below.refl _ _⟩
  · go_enter Tryz.func69, Tryz.ntmps69
    go_wp2_with (at_builtin; refine wpList_stop ?_)
    refine Stopped.go (wpList_append_rd _ rfl (.tmp 5) (.tmp 6) 26 rfl w.heap.size 5 i0 (.int .u8 0) 1 1 Tryz.underlying26 hi hz0 hz1 hz2 rfl (by decide) _ 0 [] rfl ?_ w.heap.size _ l.length c (l.map bv) rfl ?_ (bvs_one l) (by omega) (by decide) ?_ ?_)
    · exact World.ownsRow_lit w #[] 0 (Nat.le_refl _) (by simp [maxLen]) rfl
    · exact hr.keep fun p hp => World.cell?_alloc_lt w _ p hp
    · simp
    · intro v' w' hown _ hb _
      simp only [Nat.zero_add, List.nil_append] at hown
      go_wp2
      go_ret
      exact ⟨_, rfl, hown, Below.trans ((Below.refl _ _).alloc (Nat.le_refl _) _) hb⟩

theorem bequal_any (v v' : Value) (l l' : List UInt8) (w : World) (h : Bys w w.heap.size v l) (h' : Bys w w.heap.size v' l') :
    Calls Tryz.prog 150 #[v, v'] w (Ret (.bool (decide (l = l'))) w) := by
  have hv : (convert 26 9 v).run Tryz.prog w = .ok (.string (bstr l)) w := run_convert_bys h _ _ _ Tryz.underlying26 Tryz.underlying5 Tryz.underlying9
  have hv' : (convert 26 9 v').run Tryz.prog w = .ok (.string (bstr l')) w := run_convert_bys h' _ _ _ Tryz.underlying26 Tryz.underlying5 Tryz.underlying9
  clear h h'
  go_enter Tryz.func150, Tryz.ntmps150
  go_wp2
  go_ret
  refine ⟨ret_bool ?_, (by repeat' (first | with_reducible exact Below.refl _ _ | with_reducible assumption | with_reducible apply Below.drew | with_reducible apply below_drewN | with_reducible refine Below.alloc ?_ ?_ _ | with_reducible refine Below.setCell ?_ ?_ _ | (simp; done) | (simp; omega) | omega))⟩
  rw [Bool.eq_iff_iff]
  simp [bstr_toList, *]

def zeros (l : List UInt8) : Bool := l.all (· == 0)
def maxB (l : List UInt8) : Nat := l.foldl (fun s x => max s x.toNat) 0
theorem maxB_snoc (l : List UInt8) (x : UInt8) : maxB (l ++ [x]) = max (maxB l) x.toNat := by simp [maxB]
theorem maxB_lt (l : List UInt8) : maxB l < 256 := by
  suffices h : ∀ (l : List UInt8) s, s < 256 → l.foldl (fun s x => max s x.toNat) s < 256 from h l 0 (by omega)
  intro l
  induction l with
  | nil => intro s h; exact h
  | cons x r ih => intro s h; have := x.toNat_lt; exact ih _ (by show max s x.toNat < 256; omega)
theorem maxB_zeros (l : List UInt8) : decide ((maxB l : Int) > 0) = !zeros l := by
  suffices h : ∀ (l : List UInt8) s, decide (l.foldl (fun s x => max s x.toNat) s > 0) = (decide (s > 0) || !zeros l) by
    have := h l 0
    simp only [maxB]
    rw [Bool.eq_iff_iff] at this ⊢
    simp at this ⊢
    exact this
  intro l
  induction l with
  | nil => intro s; simp [zeros]
  | cons x r ih =>
    intro s
    rw [List.foldl_cons, ih]
    have hx : (x == 0) = decide (x.toNat = 0) := by
      rw [Bool.eq_iff_iff]
      simp
      constructor
      · rintro rfl; rfl
      · intro h; exact UInt8.toNat.inj h
    simp only [zeros, List.all_cons, hx]
    rw [Bool.eq_iff_iff]
    simp
    by_cases h : x.toNat = 0 <;> simp [h] <;> omega

set_option maxHeartbeats 1000000 in
theorem smax_any (v : Value) (l : List UInt8) (h0 : 0 < l.length) (hl : l.length < 1073741824) (w : World) (h : Bys w w.heap.size v l) :
    Calls Tryz.prog 118 #[v] w (Ret (.int .u8 (maxB l : Int)) w) := by
  obtain ⟨A, c, rfl, hc, hm, hr⟩ := h
  obtain ⟨b, off, rfl, hb, hcell⟩ := hr.2 h0
  have hcx : ∀ k, (hk : k < l.length) → w.cell? ⟨b, off + k, none⟩ = some (.int .u8 (l[k].toNat : Int)) := fun k hk => hcell k _ (by rw [List.getElem?_map, List.getElem?_eq_getElem hk]; rfl)
  have h1 := hcx 0 h0
  have hm1 : maxB (l.take 1) = l[0].toNat := by
    rcases l with _ | ⟨x, r⟩
    · simp at h0
    · simp [maxB]
  rw [Nat.add_zero] at h1
  clear hcell
  go_enter Tryz.func118, Tryz.ntmps118
  go_wp2
  go_loopw [3, 4] (fun x i wr => ∃ k : Nat, 1 ≤ k ∧ k ≤ l.length ∧ i = .int .i64 (k : Int) ∧ x = .int .u8 (maxB (l.take k) : Int) ∧ wr = w)
    (fun _ i _ => l.length - (intOf i).toNat)
  case atStart => exact ⟨1, by omega, by omega, rfl, by rw [hm1], rfl⟩
  case round =>
    obtain ⟨k, hk1, hk, rfl, rfl, rfl⟩ := hrel
    by_cases hlt : k < l.length
    · have HN : Hid (maxB (l.take (k + 1)) = max (maxB (l.take k)) l[k].toNat) := by
        rw [List.take_succ_eq_append_getElem hlt, maxB_snoc]; exact rfl
      have hx := hcx k hlt
      clear hcx h1 hm1
      have hs := maxB_lt (l.take k)
      have hu := l[k].toNat_lt
      generalize maxB (l.take k) = q at *
      generalize l[k].toNat = u at *
      go_wp2
      go_roundw
      case rel => exact ⟨k + 1, by omega, by omega, by go_num, by rw [HN.out]; go_num, by first | rfl | trivial⟩
      case measure => simp [intOf]; omega
    · obtain rfl : k = l.length := by omega
      rw [List.take_length] at *
      go_wp2
      go_ret
      exact ⟨rfl, Below.refl _ _⟩
end Go.Proofs.YtckhnchnbeoogaaGreat
/- Contracts: sealed blocks. -/
namespace Go.Proofs.YtckhnchnbeoogaaGreat
set_option linter.unusedSimpArgs false
set_option linter.unusedVariables false
open Go.RowKit

def sumOk (l : List UInt8) : Bool := decide (numOf (l.take 4) = crc (l.drop 4))
def IsOpen (lo : Nat) (l : List UInt8) (v : Value) (W : World) : Prop := IsB0 lo 124 (l.drop 4) v W

theorem numAt0 (l : List UInt8) (h : l.length = 128) : numAt l 0 4 = (numOf (l.take 4) : Int) := by
  unfold numAt; rw [if_pos (by omega)]; simp
theorem numE0 (l : List UInt8) (h : l.length = 128) : numE l 0 4 = 0 := by unfold numE; rw [if_pos (by omega)]
theorem drop_take_all (l : List UInt8) (h : l.length = 128) : (l.drop 4).take 124 = l.drop 4 := List.take_of_length_le (by simp; omega)

set_option maxHeartbeats 1000000 in
theorem open_len (v : Value) (l : List UInt8) (hl : l.length ≠ 128) (w : World) (h : Bys w w.heap.size v l) :
    Calls Tryz.prog 115 #[v] w (Ret (.tuple #[.slice none 0 0, .int .i64 3]) w) := by
  obtain ⟨A, c, rfl, hc, hm, hr⟩ := h
  have hn1 : ((l.length : Int) != 128) = true := by rw [bne_iff_ne]; omega
  go_enter Tryz.func115, Tryz.ntmps115
  go_wp2
  exact bodyPost_ret (v := .tuple #[.slice none 0 0, .int .i64 3]) (by simp [results, Tryz.results115, go_sem]) rfl ⟨rfl, Below.refl _ _⟩

set_option maxHeartbeats 1000000 in
theorem open_any (v : Value) (l : List UInt8) (hl : l.length = 128) (w : World) (h : Bys w w.heap.size v l) :
    Calls Tryz.prog 115 #[v] w (RetS (fun u w' => if sumOk l then IsOpen w.heap.size l u w' else u = .tuple #[.slice none 0 0, .int .i64 8]) w) := by
  obtain ⟨A, m, c, rfl⟩ : ∃ A m c, v = .slice A m c := by obtain ⟨A, c, e, _⟩ := h; exact ⟨_, _, _, e⟩
  obtain ⟨e1, hc, hm, hA⟩ := h.at_
  rw [hl] at e1
  subst e1
  obtain ⟨b, off, rfl, hb⟩ := hA (by omega)
  have hs : Bys w w.heap.size (.slice (some ⟨b, off + 4, none⟩) 124 (c - 4)) (l.drop 4) := by
    have := h.sub (a := 4) (k := 124) (by omega)
    rwa [drop_take_all l hl] at this
  have hlen : (l.drop 4).length = 124 := by simp; omega
  have HG : ∀ W, Ext w W → _ := fun W hW => getfour_any _ l 0 (by omega) W ((h.below hW).more hW.size)
  rw [numAt0 l hl, numE0 l hl] at HG
  have HO : ∀ W, Ext w W → _ := fun W hW => sumof_any _ _ W ((hs.below hW).more hW.size) (by omega)
  have HC : ∀ W, Ext w W → _ := fun W hW => sclone_any _ (l.drop 4) (by omega) W ((hs.below hW).more hW.size)
  have hx : (numOf (l.take 4) : Int) < 4294967296 := by have := numAt_bound l 0 4 (by omega); rw [numAt0 l hl] at this; exact this.2
  have hy := crc_lt (l.drop 4)
  have hsum : sumOk l = decide (numOf (l.take 4) = crc (l.drop 4)) := rfl
  clear h hs
  unfold maxLen at hm
  generalize numOf (l.take 4) = x at *
  generalize crc (l.drop 4) = y at *
  have HG := Lib.hid HG
  have HO := Lib.hid HO
  have HC := Lib.hid HC
  rw [hsum]
  by_cases hxy : x = y
  · subst hxy
    simp only [decide_true, if_true]
    go_enter Tryz.func115, Tryz.ntmps115
    go_wp2_with fail
    refine (HG.out _ (Ext.refl _)).mono ?_
    rintro e w1 ⟨rfl, hB1⟩
    have hB1 : Ext w w1 := hB1
    go_wp2_with fail
    refine (HO.out _ hB1).mono ?_
    rintro e w2 ⟨rfl, hB2⟩
    have hB2 : Ext w w2 := Ext.trans hB1 hB2
    go_wp2_with fail
    refine (HC.out _ hB2).mono ?_
    rintro e w3 ⟨u, rfl, hown, hB3⟩
    have hB3 : Ext w w3 := Ext.trans hB2 hB3
    rw [hlen] at hown
    go_wp2
    refine bodyPost_ret (v := .tuple #[u, .int .i64 0]) (by simp [results, Tryz.results115, go_sem]) rfl ⟨_, rfl, ?_, hB3⟩
    obtain ⟨A', c', h1, h2, h3⟩ := IsB.of_own hown
    exact ⟨u, rfl, A', c', h1, h2, h3.mono hB2.size⟩
  · have hn1 : ((x : Int) != y) = true := by rw [bne_iff_ne]; omega
    rw [decide_eq_false hxy]
    simp only [Bool.false_eq_true, if_false]
    go_enter Tryz.func115, Tryz.ntmps115
    go_wp2_with fail
    refine (HG.out _ (Ext.refl _)).mono ?_
    rintro e w1 ⟨rfl, hB1⟩
    have hB1 : Ext w w1 := hB1
    go_wp2_with fail
    refine (HO.out _ hB1).mono ?_
    rintro e w2 ⟨rfl, hB2⟩
    have hB2 : Ext w w2 := Ext.trans hB1 hB2
    go_wp2
    exact bodyPost_ret (v := .tuple #[.slice none 0 0, .int .i64 8]) (by simp [results, Tryz.results115, go_sem]) rfl ⟨_, rfl, rfl, hB2⟩
end Go.Proofs.YtckhnchnbeoogaaGreat
/- Contracts: the document's sums of bytes, and sealed blocks. -/
namespace Go.Proofs.YtckhnchnbeoogaaGreat
set_option linter.unusedSimpArgs false
set_option linter.unusedVariables false
open Go.RowKit

theorem hv_even (s : Nat) (h : s % 2 ≠ 1) : hv s = s / 2 := by unfold hv; rw [if_neg h]; simp
theorem hv_odd (s : Nat) (hs : s < 4294967296) (h : s % 2 = 1) : bits .xor .u32 ((s : Int) / 2) 3988292384 = ((hv s : Nat) : Int) := by
  unfold hv
  rw [if_pos h]
  exact xor_u32 (s / 2) 3988292384 (by omega) (by omega)

set_option maxHeartbeats 1000000 in
theorem halved_any (n : Nat) (hn : n < 4294967296) (w : World) : Calls Tryz.prog 155 #[.int .u32 (n : Int), .int .i64 4] w (Ret (.int .u32 ((hvs 4 n : Nat) : Int)) w) := by
  go_enter Tryz.func155, Tryz.ntmps155
  go_wp2
  go_loopw [0, 5] (fun s i W => ∃ j : Nat, j ≤ 4 ∧ i = .int .i64 (j : Int) ∧ s = .int .u32 ((hvs j n : Nat) : Int) ∧ W = w)
    (fun _ i _ => 4 - (intOf i).toNat)
  case atStart => exact ⟨0, by omega, rfl, rfl, rfl⟩
  case round =>
    obtain ⟨j, hj, rfl, rfl, rfl⟩ := hrel
    have hs : hvs j n < 4294967296 := hvs_lt j hn
    have HS : Hid (hvs (j + 1) n = hv (hvs j n)) := rfl
    generalize hq : hvs j n = q at *
    by_cases hj4 : j < 4
    · by_cases hodd : q % 2 = 1
      · have H1 := Lib.hid (hv_odd q hs hodd)
        go_wp2
        go_roundw
        case rel => exact ⟨j + 1, by omega, by go_num, by rw [HS.out, H1.out], by first | rfl | trivial⟩
        case measure => simp [intOf]; omega
      · have H1 := Lib.hid (hv_even q hodd)
        go_wp2
        go_roundw
        case rel => exact ⟨j + 1, by omega, by go_num, by rw [HS.out, H1.out]; rfl, by first | rfl | trivial⟩
        case measure => simp [intOf]; omega
    · obtain rfl : j = 4 := by omega
      go_wp2
      go_ret
      exact ⟨by rw [hq]; rfl, Below.refl _ _⟩

set_option maxHeartbeats 1000000 in
set_option maxRecDepth 100000 in
theorem rsumof_any (v : Value) (l : List UInt8) (w : World) (h : Bys w w.heap.size v l) (hl : l.length < 1099511627776) : Calls Tryz.prog 146 #[v] w (Ret (.int .u32 (crc l : Int)) w) := by
  obtain ⟨A, c, rfl, hc, hm, hr⟩ := h
  go_enter Tryz.func146, Tryz.ntmps146
  go_wp2
  generalize hw1 : (World.alloc _ _) = w1
  have r0 : w1.heap[w.heap.size]? = some (.cells (rowT 0) 233 (0, 0)) := by rw [← hw1]; exact World.alloc_heap_at _ _ _ rfl
  have hb1 : Below w.heap.size w w1 := by rw [← hw1]; exact (by repeat' (first | with_reducible exact Below.refl _ _ | with_reducible assumption | with_reducible apply Below.drew | with_reducible apply below_drewN | with_reducible refine Below.alloc ?_ ?_ _ | with_reducible refine Below.setCell ?_ ?_ _ | (simp; done) | (simp; omega) | omega))
  clear hw1
  go_loopw [4] (fun i wr => ∃ k : Nat, k ≤ 16 ∧ i = .int .i64 (k : Int) ∧ wr.heap[w.heap.size]? = some (.cells (rowT k) 233 (0, 0)) ∧ Below w.heap.size w wr)
    (fun i _ => 16 - (intOf i).toNat)
  case atStart => exact ⟨0, by omega, rfl, r0, hb1⟩
  case round =>
    obtain ⟨k, hk, rfl, hrow, hB⟩ := hrel
    by_cases hlt : k < 16
    · have HH := Lib.hid (halved_any k (by omega) wr)
      have HT : Hid (tabN k = hvs 4 k) := rfl
      go_wp2_with fail
      refine HH.out.mono ?_
      rintro e w3 ⟨rfl, hB3⟩
      have hgr : w.heap.size < wr.heap.size := (Array.getElem?_eq_some_iff.1 hrow).1
      have hrow3 : w3.heap[w.heap.size]? = some (.cells (rowT k) 233 (0, 0)) := (hB3.block _ hgr).trans hrow
      have hBB := Below.trans hB (Below.mono hB3 (by omega))
      have kx : w3.cell? ⟨w.heap.size, k, none⟩ = some (.int .u32 0) := by rw [cells_row hrow3, rowT_at _ _ hlt]; simp
      have kf := frozen_row hrow3
      have HR := Lib.hid (rowT_set k hlt)
      go_wp2
      go_roundw
      case rel =>
        refine ⟨k + 1, by omega, by go_num, ?_, ?_⟩
        · rw [setCell_eq_setRow _ _ _ _ _ _ _ hrow3, setRow_heap _ _ _ _ _ _ hrow3, ← HR.out, HT.out]
        · exact hBB.setCell (p := ⟨w.heap.size, k, none⟩) (Nat.le_refl _) _
      case measure => simp [intOf]; omega
    · obtain rfl : k = 16 := by omega
      have hT : ∀ i, i < 16 → wr.cell? ⟨w.heap.size, i, none⟩ = some (.int .u32 (tabN i : Int)) := fun i hi => by rw [cells_row hrow, rowT_at _ _ hi, if_pos hi]
      clear hrow r0 hb1
      go_wp2
      obtain ⟨w2, hw2⟩ : ∃ w2, w2 = wr := ⟨_, rfl⟩
      rw [← hw2] at hB hT ⊢
      clear hw2
      go_loopw [5, 6] (fun s i W => ∃ k : Nat, k ≤ l.length ∧ i = .int .i64 (k : Int) ∧ s = .int .u32 (crcN (l.take k) : Int) ∧ W = w2)
        (fun _ i _ => l.length - (intOf i).toNat)
      case atStart => exact ⟨0, by omega, rfl, by simp [crcN], rfl⟩
      case round =>
        obtain ⟨k, hk, rfl, rfl, rfl⟩ := hrel
        by_cases hlt : k < l.length
        · have HN : Hid (crcN (l.take (k + 1)) = crcStep (crcN (l.take k)) l[k]) := by
            rw [List.take_succ_eq_append_getElem hlt, crcN_snoc]; exact rfl
          obtain ⟨b, off, rfl, hb, hcell⟩ := hr.2 (by omega)
          have hcx : wr.cell? ⟨b, off + k, none⟩ = some (bv l[k]) := (hB.cell hb).trans (hcell k _ (by rw [List.getElem?_map, List.getElem?_eq_getElem hlt]; rfl))
          have hs := crcN_lt (l.take k)
          generalize crcN (l.take k) = s at *
          have hx := l[k].toNat_lt
          generalize l[k] = x at *
          obtain ⟨n, hn⟩ : ∃ n, n = l.length := ⟨_, rfl⟩
          have H1 := Lib.hid (xor_u32 s x.toNat hs (by omega))
          have h1 : s ^^^ x.toNat < 4294967296 := step32 s x.toNat hs (by omega)
          have e1 : crcStep s x = (((s ^^^ x.toNat) / 16 ^^^ tabN ((s ^^^ x.toNat) % 16)) / 16) ^^^ tabN (((s ^^^ x.toNat) / 16 ^^^ tabN ((s ^^^ x.toNat) % 16)) % 16) := rfl
          generalize s ^^^ x.toNat = s1 at *
          have H2 := Lib.hid (show (s1 : Int) % 16 = ((s1 % 16 : Nat) : Int) from rfl)
          have hi1 : s1 % 16 < 16 := by omega
          have c1 := hT _ hi1
          have t1 := tabN_lt hi1
          have H3 := Lib.hid (xor_u32 (s1 / 16) (tabN (s1 % 16)) (by omega) t1)
          have h2 : s1 / 16 ^^^ tabN (s1 % 16) < 4294967296 := xor_lt32 (by omega) t1
          generalize tabN (s1 % 16) = T1 at *
          generalize s1 / 16 ^^^ T1 = s2 at *
          generalize s1 % 16 = i1 at *
          have H4 := Lib.hid (show (s2 : Int) % 16 = ((s2 % 16 : Nat) : Int) from rfl)
          have hi2 : s2 % 16 < 16 := by omega
          have c2 := hT _ hi2
          have t2 := tabN_lt hi2
          clear hT
          have H5 := Lib.hid (xor_u32 (s2 / 16) (tabN (s2 % 16)) (by omega) t2)
          have h3 : s2 / 16 ^^^ tabN (s2 % 16) < 4294967296 := xor_lt32 (by omega) t2
          generalize tabN (s2 % 16) = T2 at *
          generalize s2 / 16 ^^^ T2 = s3 at *
          generalize s2 % 16 = i2 at *
          have q3 : ((s1 / 16 : Nat) : Int) = (s1 : Int) / 16 := rfl
          have q5 : ((s2 / 16 : Nat) : Int) = (s2 : Int) / 16 := rfl
          rw [q3] at H3
          rw [q5] at H5
          clear q3 q5
          have E1 := Lib.hid e1
          clear e1

          go_wp2_with (first | rw [H1.out] | rw [H2.out] | rw [H3.out] | rw [H4.out] | rw [H5.out])
          go_roundw
          case rel => exact ⟨k + 1, by omega, by go_num, by rw [HN.out, E1.out], by first | rfl | trivial⟩
          case measure => simp [intOf]; omega
        · obtain rfl : k = l.length := by omega
          have hs := crcN_lt (l.take l.length)
          rw [List.take_length] at hs ⊢
          have HS : Hid (bits .xor .u32 (crcN l : Int) 4294967295 = (crc l : Int)) := by
            have h1 := xor_u32 (crcN l) 4294967295 hs (by omega)
            rw [xor_all _ hs] at h1
            exact h1
          clear hT
          go_wp2
          go_ret
          exact ⟨ret_int HS.out, hB⟩
set_option maxHeartbeats 1000000 in
theorem ropen_len (v : Value) (l : List UInt8) (hl : l.length ≠ 128) (w : World) (h : Bys w w.heap.size v l) :
    Calls Tryz.prog 122 #[v] w (Ret (.tuple #[.slice none 0 0, .int .i64 3]) w) := by
  obtain ⟨A, c, rfl, hc, hm, hr⟩ := h
  have hn1 : ((l.length : Int) != 128) = true := by rw [bne_iff_ne]; omega
  go_enter Tryz.func122, Tryz.ntmps122
  go_wp2
  exact bodyPost_ret (v := .tuple #[.slice none 0 0, .int .i64 3]) (by simp [results, Tryz.results122, go_sem]) rfl ⟨rfl, Below.refl _ _⟩

set_option maxHeartbeats 1000000 in
theorem ropen_any (v : Value) (l : List UInt8) (hl : l.length = 128) (w : World) (h : Bys w w.heap.size v l) :
    Calls Tryz.prog 122 #[v] w (RetS (fun u w' => if sumOk l then IsOpen w.heap.size l u w' else u = .tuple #[.slice none 0 0, .int .i64 8]) w) := by
  obtain ⟨A, m, c, rfl⟩ : ∃ A m c, v = .slice A m c := by obtain ⟨A, c, e, _⟩ := h; exact ⟨_, _, _, e⟩
  obtain ⟨e1, hc, hm, hA⟩ := h.at_
  rw [hl] at e1
  subst e1
  obtain ⟨b, off, rfl, hb⟩ := hA (by omega)
  have hs : Bys w w.heap.size (.slice (some ⟨b, off + 4, none⟩) 124 (c - 4)) (l.drop 4) := by
    have := h.sub (a := 4) (k := 124) (by omega)
    rwa [drop_take_all l hl] at this
  have hlen : (l.drop 4).length = 124 := by simp; omega
  have HG : ∀ W, Ext w W → _ := fun W hW => rgetfour_any _ l 0 (by omega) (by omega) W ((h.below hW).more hW.size)
  rw [numAt0 l hl, numE0 l hl] at HG
  have HO : ∀ W, Ext w W → _ := fun W hW => rsumof_any _ _ W ((hs.below hW).more hW.size) (by omega)
  have hrd : ∀ W, Ext w W → Rd W W.heap.size 1 (some ⟨b, off + 4, none⟩) 124 ((l.drop 4).map bv) := fun W hW => by
    obtain ⟨A, c', e, _, _, hr⟩ := hs
    simp only [Value.slice.injEq] at e
    obtain ⟨rfl, e2, rfl⟩ := e
    rw [hlen] at hr
    exact (hr.below hW).more hW.size
  obtain ⟨i0, hi, hz0, hz1, hz2⟩ := info_parts Tryz.info_u8
  have hx : (numOf (l.take 4) : Int) < 4294967296 := by have := numAt_bound l 0 4 (by omega); rw [numAt0 l hl] at this; exact this.2
  have hy := crc_lt (l.drop 4)
  have hsum : sumOk l = decide (numOf (l.take 4) = crc (l.drop 4)) := rfl
  clear h hs
  unfold maxLen at hm
  generalize numOf (l.take 4) = x at *
  generalize crc (l.drop 4) = y at *
  have HG := Lib.hid HG
  have HO := Lib.hid HO
  have HC := Lib.hid hrd
  clear hrd
  rw [hsum]
  by_cases hxy : x = y
  · subst hxy
    simp only [decide_true, if_true]
    go_enter Tryz.func122, Tryz.ntmps122
    go_wp2_with fail
    refine (HG.out _ (Ext.refl _)).mono ?_
    rintro e w1 ⟨rfl, hB1⟩
    have hB1 : Ext w w1 := hB1
    go_wp2_with fail
    refine (HO.out _ hB1).mono ?_
    rintro e w2 ⟨rfl, hB2⟩
    have hB2 : Ext w w2 := Ext.trans hB1 hB2
    go_wp2_with (at_builtin; refine wpList_stop ?_)
    refine Stopped.go (wpList_append_rd _ rfl (.const (.slice none 0 0)) (.tmp 20) 26 rfl w2.heap.size 5 i0 (.int .u8 0) 1 1 Tryz.underlying26 hi hz0 hz1 hz2 rfl (by decide) _ 0 [] rfl (World.ownsRow_nil _ _ _ _) w2.heap.size _ 124 (c - 4) ((l.drop 4).map bv) rfl (HC.out _ hB2) (bvs_one _) (by omega) (by decide) (Nat.le_refl _) ?_)
    intro u w3 hown _ hB3 _
    have hB3 : Ext w w3 := Ext.trans hB2 hB3
    simp only [Nat.zero_add, List.nil_append] at hown
    go_wp2
    refine bodyPost_ret (v := .tuple #[u, .int .i64 0]) (by simp [results, Tryz.results122, go_sem]) rfl ⟨_, rfl, ?_, hB3⟩
    obtain ⟨A', c', h1, h2, h3⟩ := IsB.of_own hown
    exact ⟨u, rfl, A', c', h1, h2, h3.mono hB2.size⟩
  · have hn1 : ((x : Int) != y) = true := by rw [bne_iff_ne]; omega
    rw [decide_eq_false hxy]
    simp only [Bool.false_eq_true, if_false]
    go_enter Tryz.func122, Tryz.ntmps122
    go_wp2_with fail
    refine (HG.out _ (Ext.refl _)).mono ?_
    rintro e w1 ⟨rfl, hB1⟩
    have hB1 : Ext w w1 := hB1
    go_wp2_with fail
    refine (HO.out _ hB1).mono ?_
    rintro e w2 ⟨rfl, hB2⟩
    have hB2 : Ext w w2 := Ext.trans hB1 hB2
    go_wp2
    exact bodyPost_ret (v := .tuple #[.slice none 0 0, .int .i64 8]) (by simp [results, Tryz.results122, go_sem]) rfl ⟨_, rfl, rfl, hB2⟩
end Go.Proofs.YtckhnchnbeoogaaGreat
/- Contracts: items: may one be; new memory; compared. -/
namespace Go.Proofs.YtckhnchnbeoogaaGreat
set_option linter.unusedSimpArgs false
set_option linter.unusedVariables false
open Go.RowKit

abbrev itemV (k i o r : Int) (A : Option Addr) (n c : Nat) : Value := .agg #[.int .u8 k, .int .u32 i, .int .u32 o, .int .i64 r, .slice A n c]
def errOf (b : Bool) : Int := if b then 0 else 8
theorem errOf_t {b : Bool} (h : b = true) : errOf b = 0 := by rw [h]; rfl
theorem errOf_f {b : Bool} (h : b = false) : errOf b = 8 := by rw [h]; rfl
def itB (r : Int) (n : Nat) : Bool := decide ((r = 0 ∨ (8 ≤ r ∧ r < 256)) ∧ n ≤ 12)

set_option maxHeartbeats 1000000 in
theorem icheck_any (k i o r : Int) (A : Option Addr) (n c : Nat) (w : World) :
    Calls Tryz.prog 140 #[itemV k i o r A n c] w (Ret (.int .i64 (errOf (itB r n))) w) := by
  go_enter Tryz.func140, Tryz.ntmps140
  go_wp2
  all_goals go_ret
  all_goals refine ⟨?_, (by repeat' (first | with_reducible exact Below.refl _ _ | with_reducible assumption | with_reducible apply Below.drew | with_reducible apply below_drewN | with_reducible refine Below.alloc ?_ ?_ _ | with_reducible refine Below.setCell ?_ ?_ _ | (simp; done) | (simp; omega) | omega))⟩
  all_goals simp only [bne_iff_ne, ne_eq, bne_eq_false_iff_eq] at *
  all_goals first | exact ret_int (errOf_t (by simp [itB]; omega)).symm | exact ret_int (errOf_f (by simp [itB]; omega)).symm

set_option maxHeartbeats 1000000 in
theorem imay_any (k i o r : Int) (A : Option Addr) (n c : Nat) (w : World) :
    Calls Tryz.prog 147 #[itemV k i o r A n c] w (Ret (.bool (itB r n)) w) := by
  go_enter Tryz.func147, Tryz.ntmps147
  go_wp2
  all_goals go_ret
  all_goals refine ⟨ret_bool ?_, (by repeat' (first | with_reducible exact Below.refl _ _ | with_reducible assumption | with_reducible apply Below.drew | with_reducible apply below_drewN | with_reducible refine Below.alloc ?_ ?_ _ | with_reducible refine Below.setCell ?_ ?_ _ | (simp; done) | (simp; omega) | omega))⟩
  all_goals try simp only [beq_iff_eq, beq_eq_false_iff_ne, ne_eq] at *
  all_goals rw [Bool.eq_iff_iff]
  all_goals simp [itB]
  all_goals omega

def Nz (W : World) (v : Value) : Prop := ∀ a n c, v = .slice (some a) n c → 0 < n → ∃ cs ty, W.heap[a.block]? = some (.cells cs ty (0, 0))
theorem Nz.ext {W W' : World} {v : Value} (h : Nz W v) (hx : Ext W W') : Nz W' v := fun a n c e hn => by
  obtain ⟨cs, ty, hr⟩ := h a n c e hn
  exact ⟨cs, ty, (Below.block hx _ (Array.getElem?_eq_some_iff.1 hr).1).trans hr⟩
theorem Nz.of_own {w : World} {base n size : Nat} {e : TypeId} {v : Value} {xs : List Value} (h : w.ownsRow base e size v n xs) : Nz w v := fun a m c hv hm => by
  rcases h.2 with ⟨rfl, _⟩ | ⟨g, cap, cur, rfl, _, hg, _⟩
  · cases hv
  · cases hv
    exact ⟨_, _, hg⟩
theorem Nz.setCell {W : World} {v : Value} (h : Nz W v) (p : Addr) (u : Value) : Nz (W.setCell p u) v := fun a n c e hn => by
  obtain ⟨cs, ty, hr⟩ := h a n c e hn
  by_cases hp : a.block = p.block
  · obtain ⟨hlt, hr'⟩ := Array.getElem?_eq_some_iff.1 hr
    refine ⟨if p.spot.isSome then cs else cs.setIfInBounds p.off u, ty, ?_⟩
    unfold World.setCell
    simp only
    rw [Array.getElem?_modify, if_pos hp.symm, hr]
    rfl
  · exact ⟨cs, ty, (Below.heap_setCell _ _ _ _ hp).trans hr⟩
theorem Nz.put {W : World} {v : Value} (h : Nz W v) {l : Nat} {o o' : Obj} (hl : W.heap[l]? = some o) (ho : ∀ cs ty, o ≠ .cells cs ty (0, 0)) : Nz (W.putObj l o') v := fun a n c e hn => by
  obtain ⟨cs, ty, hr⟩ := h a n c e hn
  refine ⟨cs, ty, (World.putObj_heap_other (fun x => ?_)).trans hr⟩
  rw [x, hl] at hr
  exact ho cs ty (Option.some.inj hr)
def IsI (lo : Nat) (k i o r : Int) (l : List UInt8) (v : Value) (W : World) : Prop := ∃ A c, v = itemV k i o r A l.length c ∧ Bys W W.heap.size (.slice A l.length c) l ∧ From lo (.slice A l.length c)
def IsIz (lo : Nat) (k i o r : Int) (l : List UInt8) (v : Value) (W : World) : Prop := ∃ A c, v = itemV k i o r A l.length c ∧ (Bys W W.heap.size (.slice A l.length c) l ∧ From lo (.slice A l.length c)) ∧ Nz W (.slice A l.length c)
set_option maxHeartbeats 1000000 in
theorem itwinz_any (k i o r : Int) (A : Option Addr) (n c : Nat) (l : List UInt8) (hl : l.length < 1073741824) (w : World) (h : Bys w w.heap.size (.slice A n c) l) :
    Calls Tryz.prog 141 #[itemV k i o r A n c] w (RetS (IsIz w.heap.size k i o r l) w) := by
  have HC : ∀ W, Ext w W → _ := fun W hW => bclone_any _ l hl W ((h.below hW).more hW.size)
  replace HC := Lib.hid HC
  clear h
  go_enter Tryz.func141, Tryz.ntmps141
  go_wp2_with fail
  generalize hw1 : (World.alloc (World.alloc _ _) _) = w1
  have b1 : Ext w w1 := by rw [← hw1]; exact (Ext.alloc _ _).trans (Ext.alloc _ _)
  have hz : w1.heap.size = w.heap.size + 2 := by rw [← hw1]; simp
  have r0 : w1.heap[w.heap.size]? = some (.cells #[.int .u8 k, .int .u32 i, .int .u32 o, .int .i64 r, .slice A n c] 38 (0, 0)) := by rw [← hw1]; exact (Below.heap_alloc _ _ _ (by simp)).trans (World.alloc_heap_at _ _ _ rfl)
  have r1 : w1.heap[w.heap.size + 1]? = some (.cells #[.int .u8 0, .int .u32 0, .int .u32 0, .int .i64 0, .slice none 0 0] 38 (0, 0)) := by rw [← hw1]; exact (World.alloc_heap_at _ _ _ (by simp))
  clear hw1
  refine (HC.out _ b1).mono ?_
  rintro e w2 ⟨u, rfl, hown, hB⟩
  have hnz := Nz.of_own hown
  obtain ⟨A', c', e1, hby, hfr⟩ := IsB.of_own hown
  subst e1
  have hzz := hB.size
  have e0 := (hB.block _ (by omega)).trans r0
  have e1 := (hB.block _ (by omega)).trans r1
  have hb : Below w.heap.size w w2 := Below.trans b1 (Below.mono hB (by omega))
  replace hnz := Lib.hid hnz
  clear r0 r1 hown HC
  have k0 := cells_row e0
  have f0 := frozen_row e0
  have k1 := cells_row e1
  have f1 := frozen_row e1
  go_wp2
  refine bodyPost_ret (v := itemV k i o r A' l.length c') (by simp [results, Tryz.results141, go_sem, k0, k1]) rfl ⟨_, rfl, ⟨A', c', rfl, ⟨?_, hfr.mono (by omega)⟩, (((((hnz.out.setCell _ _).setCell _ _).setCell _ _).setCell _ _).setCell _ _).setCell _ _⟩, ?_⟩
  · simp only [World.size_setCell]
    rw [hz] at hfr
    exact (((((hby.setCell hfr (by simp) _).setCell hfr (by simp) _).setCell hfr (by simp) _).setCell hfr (by simp) _).setCell hfr (by simp) _).setCell hfr (by simp) _
  · exact (by repeat' (first | with_reducible exact Below.refl _ _ | with_reducible assumption | with_reducible apply Below.drew | with_reducible apply below_drewN | with_reducible refine Below.alloc ?_ ?_ _ | with_reducible refine Below.setCell ?_ ?_ _ | (simp; done) | (simp; omega) | omega))
def sameB (k i o r k' i' o' r' : Int) (l l' : List UInt8) : Bool := decide (k = k' ∧ i = i' ∧ o = o' ∧ r = r' ∧ l = l')

set_option maxHeartbeats 1000000 in
theorem rsame_any (k i o r k' i' o' r' : Int) (A A' : Option Addr) (n c n' c' : Nat) (l l' : List UInt8) (w : World) (h : Bys w w.heap.size (.slice A n c) l) (h' : Bys w w.heap.size (.slice A' n' c') l') :
    Calls Tryz.prog 11 #[itemV k i o r A n c, itemV k' i' o' r' A' n' c'] w (Ret (.bool (sameB k i o r k' i' o' r' l l')) w) := by
  have hx : ∀ o1 o2, Ext w ((w.alloc o1).alloc o2) := fun o1 o2 => (Ext.alloc _ _).trans (Ext.alloc _ _)
  have hv : ∀ o1 o2, (convert 26 9 (.slice A n c)).run Tryz.prog ((w.alloc o1).alloc o2) = .ok (.string (bstr l)) ((w.alloc o1).alloc o2) := fun o1 o2 => run_convert_bys (h.below (hx o1 o2)) _ _ _ Tryz.underlying26 Tryz.underlying5 Tryz.underlying9
  have hv' : ∀ o1 o2, (convert 26 9 (.slice A' n' c')).run Tryz.prog ((w.alloc o1).alloc o2) = .ok (.string (bstr l')) ((w.alloc o1).alloc o2) := fun o1 o2 => run_convert_bys (h'.below (hx o1 o2)) _ _ _ Tryz.underlying26 Tryz.underlying5 Tryz.underlying9
  clear h h' hx
  go_enter Tryz.func11, Tryz.ntmps11
  go_wp2
  all_goals go_ret
  all_goals refine ⟨ret_bool ?_, (by repeat' (first | with_reducible exact Below.refl _ _ | with_reducible assumption | with_reducible apply Below.drew | with_reducible apply below_drewN | with_reducible refine Below.alloc ?_ ?_ _ | with_reducible refine Below.setCell ?_ ?_ _ | (simp; done) | (simp; omega) | omega))⟩
  all_goals rw [Bool.eq_iff_iff]
  all_goals simp [sameB, bstr_toList, *]

set_option maxHeartbeats 1000000 in
theorem isame_any (k i o r k' i' o' r' : Int) (A A' : Option Addr) (n c n' c' : Nat) (l l' : List UInt8) (w : World) (h : Bys w w.heap.size (.slice A n c) l) (h' : Bys w w.heap.size (.slice A' n' c') l') :
    Calls Tryz.prog 137 #[itemV k i o r A n c, itemV k' i' o' r' A' n' c'] w (Ret (.bool (sameB k i o r k' i' o' r' l l')) w) := by
  have HE : ∀ W, Ext w W → _ := fun W hW => bequal_any _ _ _ _ W ((h.below hW).more hW.size) ((h'.below hW).more hW.size)
  replace HE := Lib.hid HE
  have hx : ∀ o1 o2, Ext w ((w.alloc o1).alloc o2) := fun o1 o2 => (Ext.alloc _ _).trans (Ext.alloc _ _)
  clear h h'
  go_enter Tryz.func137, Tryz.ntmps137
  go_wp2_with fail
  · refine (HE.out _ (hx _ _)).mono ?_
    rintro e w2 ⟨rfl, hB⟩
    have hb : Below w.heap.size w w2 := Ext.trans (hx _ _) hB
    go_wp2
    go_ret
    refine ⟨ret_bool ?_, hb⟩
    rw [Bool.eq_iff_iff]
    simp [sameB, *]
  all_goals go_ret
  all_goals refine ⟨ret_bool ?_, (by repeat' (first | with_reducible exact Below.refl _ _ | with_reducible assumption | with_reducible apply Below.drew | with_reducible apply below_drewN | with_reducible refine Below.alloc ?_ ?_ _ | with_reducible refine Below.setCell ?_ ?_ _ | (simp; done) | (simp; omega) | omega))⟩
  all_goals rw [Bool.eq_iff_iff]
  all_goals simp [sameB, *]
end Go.Proofs.YtckhnchnbeoogaaGreat
