/- Texts NewD, BackW, BNode, joined. -/
import Derived.Test.YteikcgjhcniiiaaU13
/- Contracts: a new disk, a new table, a new store. -/
namespace Go.Proofs.Yteikcgjhcniiiaa
set_option linter.unusedSimpArgs false
set_option linter.unusedVariables false
open Go.RowKit

/-- noughts -/
def zeroB (n : Nat) : List UInt8 := List.replicate n 0
theorem zeroB_len (n : Nat) : (zeroB n).length = n := by simp [zeroB]
theorem zeroB_made (n : Nat) : madeCells #[.int .u8 0] n = ((zeroB n).map bv).toArray := by
  apply Array.ext_getElem?
  intro i
  unfold madeCells zeroB
  rw [Array.getElem?_map, Array.getElem?_range, List.getElem?_toArray, List.getElem?_map, List.getElem?_replicate]
  by_cases h : i < n
  · rw [if_pos h, if_pos h]
    simp [Nat.mod_one, bv]
  · rw [if_neg h, if_neg h]
    rfl
theorem run_mkB {n : Nat} (hn : n < 1000000) (w : World) : (Instr.makeSlice 26 (.int .i64 (n : Int)) (.int .i64 (n : Int))).run Try.prog w = .ok (.slice (some ⟨w.heap.size, 0, none⟩) n n) (w.alloc (.cells ((zeroB n).map bv).toArray 5)) := by
  obtain ⟨i0, hi, hz0, hz1, hz2⟩ := info_parts Try.info_u8
  have h := run_make (P := Try.prog) w 26 5 i0 _ Try.underlying26 hi hz0 .i64 .i64 (n : Int) (n : Int) (by omega) (by omega) (by rw [hz2]; omega) (by omega)
  rw [hz1, Int.toNat_natCast, Nat.mul_one] at h
  rw [← zeroB_made]
  exact h
theorem cnew_any (w : World) : Calls Try.prog 60 #[] w (RetS (fun u W => u = .slice (some ⟨w.heap.size, 0, none⟩) 256 256 ∧ W.heap[w.heap.size]? = some (.cells ((zeroB 256).map bv).toArray 5 (0, 0))) w) := by
  have hmk : ∀ w, (Instr.makeSlice 26 (.int .i64 256) (.int .i64 256)).run Try.prog w = .ok (.slice (some ⟨w.heap.size, 0, none⟩) 256 256) (w.alloc (.cells ((zeroB 256).map bv).toArray 5)) := fun w => run_mkB (n := 256) (by omega) w
  go_enter Try.func60, Try.ntmps60
  go_wp2
  go_ret
  exact ⟨_, rfl, ⟨rfl, World.alloc_heap_at _ _ _ rfl⟩, Ext.alloc _ _⟩
/-- blocks of noughts, so many are there -/
structure NewI (w2 : World) (BB : Nat) (i : Value) (wr : World) : Prop where
  ex : ∃ (k : Nat) (cs : Array Value), k ≤ 256 ∧ i = .int .i64 (k : Int) ∧ Below BB w2 wr ∧ BB < wr.heap.size ∧ wr.heap[BB]? = some (.cells cs 26 (0, 0)) ∧ cs.size = 256 ∧
    wr.heap[BB + 1]? = some (.cells #[.slice (some ⟨BB, 0, none⟩) 256 256, .slice none 0 0] 25 (0, 0)) ∧ ∀ i, i < k → ∃ b, cs[i]? = some (.slice (some ⟨b, 0, none⟩) 128 128) ∧ BB < b ∧ wr.heap[b]? = some (.cells ((zeroB 128).map bv).toArray 5 (0, 0))
def newBs : List (List UInt8) := List.replicate 256 (zeroB 128)

set_option maxHeartbeats 2000000 in
set_option maxRecDepth 100000 in
theorem dnew_any (w : World) : Calls Try.prog 59 #[] w (RetS (fun u W => ∃ BB, u = diskV (some ⟨BB, 0, none⟩) 256 256 none 0 0 ∧ ∀ W2 : World, (∀ q : Addr, w.heap.size ≤ q.block → q.block < W.heap.size → W2.cell? q = W.cell? q) → Bls W2 W.heap.size (.slice (some ⟨BB, 0, none⟩) 256 256) newBs) w) := by
  have hmk : ∀ w, (Instr.makeSlice 26 (.int .i64 128) (.int .i64 128)).run Try.prog w = .ok (.slice (some ⟨w.heap.size, 0, none⟩) 128 128) (w.alloc (.cells ((zeroB 128).map bv).toArray 5)) := fun w => run_mkB (n := 128) (by omega) w
  have hmk2 : ∀ w, (Instr.makeSlice 22 (.int .i64 256) (.int .i64 256)).run Try.prog w = .ok (.slice (some ⟨w.heap.size, 0, none⟩) 256 256) (w.alloc (.cells (madeCells #[.slice none 0 0] 256) 26)) := fun w => run_mkBlocks (n := 256) (by omega) w
  go_enter Try.func59, Try.ntmps59
  go_wp2_with fail
  generalize hw2 : (World.alloc (World.alloc (World.alloc _ _) _) _) = w2
  have x2 : Ext w w2 := by rw [← hw2]; exact ((Ext.alloc _ _).trans (Ext.alloc _ _)).trans (Ext.alloc _ _)
  have q2 : w2.heap[w.heap.size]? = some (.cells #[.slice none 0 0, .slice none 0 0] 25 (0, 0)) := by rw [← hw2]; exact (Below.heap_alloc _ _ _ (by simp; omega)).trans ((Below.heap_alloc _ _ _ (by simp)).trans (World.alloc_heap_at _ _ _ rfl))
  have b2 : w2.heap[w.heap.size + 1]? = some (.cells (madeCells #[.slice none 0 0] 256) 26 (0, 0)) := by rw [← hw2]; exact (Below.heap_alloc _ _ _ (by simp)).trans (World.alloc_heap_at _ _ _ (by simp))
  have d2 : w2.heap[w.heap.size + 1 + 1]? = some (.cells #[.slice (some ⟨w.heap.size + 1, 0, none⟩) 256 256, .slice none 0 0] 25 (0, 0)) := by rw [← hw2]; exact World.alloc_heap_at _ _ _ (by simp)
  have I0 : NewI w2 (w.heap.size + 1) (.int .i64 0) w2 := ⟨0, _, by omega, rfl, Below.refl _ _, (Array.getElem?_eq_some_iff.1 b2).1, b2, size_madeCells _ _, d2, fun i hi => by omega⟩
  have kd := cells_row d2
  replace I0 := Lib.hid I0
  clear hw2 hmk2 b2 d2
  go_wp2_with fail
  go_loopw [8] (fun i wr => NewI w2 (w.heap.size + 1) i wr) (fun i _ => 256 - (intOf i).toNat)
  case atStart => exact I0.out
  case round =>
    obtain ⟨k, cs, hk, rfl, hE, hz, hrow, hsz, hd, hcs⟩ := hrel.ex
    clear hrel I0 kd
    have xw : Below w.heap.size w wr := Below.trans x2 (Below.mono hE (by omega))
    by_cases hlt : k < 256
    · have hlt' := hlt
      have g1 : ∀ W, extRel.r wr W → ∀ i, W.cell? ⟨w.heap.size + 1 + 1, i, none⟩ = #[.slice (some ⟨w.heap.size + 1, 0, none⟩) 256 256, .slice none 0 0][i]? := fun W h => cells_row (row_ext hd h)
      have hwk := Lib.hid (IntWalk.wrap64_in ((k : Int) + 1) (by omega))
      have hEh := Lib.hid hE
      have hcsh := Lib.hid hcs
      have hrowh := Lib.hid hrow
      have hdh := Lib.hid hd
      clear hE hcs hrow hd
      go_wp2_with fail
      refine region_start (by kernel_rfl) ?_
      refine any_freeT (w := wr) extRel (outsAt [(3, outMk wr.heap.size 128 128 5 ((zeroB 128).map bv).toArray)]) [true, true, true, true, true] 1 (by kernel_rfl) (by kernel_rfl) (by kernel_rfl) (by kernel_rfl) (by kernel_rfl) (by kernel_rfl) (by kernel_rfl) ?st (Rel.drew _ _) ?walk
      case st => exact outsAt_stableG (by simp only [List.forall_mem_cons]; exact ⟨outMk_stable _ _ _ _ _, fun _ h => by cases h⟩)
      case walk =>
        intro K hK
        dsimp only [maskOps]
        repeat (first | (refine free_plainM ?_ (by rfl) (by rfl) (fun W hW _ => ⟨W, ?_, Rel.refl _ W⟩) ?_; rotate_left; (first | (go_simp; with_reducible rfl) | (go_simp; done)); try simp only [Act.put, one_f, outB_f, outNew_f, outI_f, outMk_f, List.setIfInBounds_toArray, List.set_cons_zero, List.set_cons_succ]) | (refine free_skipM (by rfl) ?_; simp only [Act.put, one_f, outB_f, outNew_f, outI_f, outMk_f, List.setIfInBounds_toArray, List.set_cons_zero, List.set_cons_succ]))
        refine free_hardM (outMk wr.heap.size 128 128 5 ((zeroB 128).map bv).toArray) (by rfl) (by rfl) (fun W hW _ => ?_) (fun (b : Nat) => ?_)
        · have hW : Ext wr W := hW
          refine hardAt_valueG (u := .slice (some ⟨W.heap.size, 0, none⟩) 128 128) (w' := W.alloc (.cells ((zeroB 128).map bv).toArray 5)) ?_ ⟨W.heap.size, rfl, ⟨World.alloc_heap_at _ _ _ rfl, hW.size⟩, Ext.alloc _ _⟩
          go_simp
        simp only [Act.put, one_f, outB_f, outNew_f, outI_f, outMk_f, List.setIfInBounds_toArray, List.set_cons_zero, List.set_cons_succ]
        repeat (first | (refine free_plainM ?_ (by rfl) (by rfl) (fun W hW _ => ⟨W, ?_, Rel.refl _ W⟩) ?_; rotate_left; (first | (go_simp; with_reducible rfl) | (go_simp; done)); try simp only [Act.put, one_f, outB_f, outNew_f, outI_f, outMk_f, List.setIfInBounds_toArray, List.set_cons_zero, List.set_cons_succ]) | (refine free_skipM (by rfl) ?_; simp only [Act.put, one_f, outB_f, outNew_f, outI_f, outMk_f, List.setIfInBounds_toArray, List.set_cons_zero, List.set_cons_succ]))
        first
          | (refine free_plainM (.pointer (some ⟨w.heap.size + 1, 0 + k, none⟩)) (by rfl) (by rfl) (fun W hW _ => ⟨W, ?_, Rel.refl _ W⟩) ?_
             · go_simp
               rw [IntWalk.i64_in (k : Int) (by omega), if_pos (by omega)]
               simp
             simp only [Act.put, one_f, outB_f, outNew_f, outI_f, outMk_f, List.setIfInBounds_toArray, List.set_cons_zero, List.set_cons_succ])
          | skip
        repeat (first | (refine free_plainM ?_ (by rfl) (by rfl) (fun W hW _ => ⟨W, ?_, Rel.refl _ W⟩) ?_; rotate_left; (first | (go_simp; with_reducible rfl) | (go_simp; done)); try simp only [Act.put, one_f, outB_f, outNew_f, outI_f, outMk_f, List.setIfInBounds_toArray, List.set_cons_zero, List.set_cons_succ]) | (refine free_skipM (by rfl) ?_; simp only [Act.put, one_f, outB_f, outNew_f, outI_f, outMk_f, List.setIfInBounds_toArray, List.set_cons_zero, List.set_cons_succ]))
        refine free_nilM (hK _ _ fun W hW hF => ?_)
        have hb : W.heap[b]? = some (.cells ((zeroB 128).map bv).toArray 5 (0, 0)) ∧ wr.heap.size ≤ b := (hF 3).1
        have hW : Ext wr W := hW
        clear hF hK g1 hmk
        dsimp only [List.drop, List.length_cons, List.length_nil]
        have rB := row_ext hrowh.out hW
        have kB := cells_row rB k
        have fB := frozen_row rB k
        rw [Array.getElem?_eq_getElem (by omega)] at kB
        have IR : NewI w2 (w.heap.size + 1) (.int .i64 ((k : Int) + 1)) (W.setCell ⟨w.heap.size + 1, k, none⟩ (.slice (some ⟨b, 0, none⟩) 128 128)) := ⟨k + 1, _, by omega, rfl, Below.setCell (Below.trans hEh.out (Below.mono hW (by omega))) (p := ⟨w.heap.size + 1, k, none⟩) (Nat.le_refl _) _, by have := hW.size; simp; omega, row_set rB k _, by simpa using hsz,
          (Below.heap_setCell _ _ _ _ (by show _ ≠ w.heap.size + 1; omega)).trans (row_ext hdh.out hW), fun i hi => by
            rw [Array.getElem?_setIfInBounds]
            by_cases e : k = i
            · subst e
              rw [if_pos rfl, if_pos (by omega)]
              exact ⟨b, rfl, by omega, (Below.heap_setCell _ _ _ _ (by show _ ≠ w.heap.size + 1; omega)).trans hb.1⟩
            · rw [if_neg e]
              obtain ⟨b', e1, e2, e3⟩ := hcsh.out i (by omega)
              exact ⟨b', e1, e2, (Below.heap_setCell _ _ _ _ (by show _ ≠ w.heap.size + 1; omega)).trans (row_ext e3 hW)⟩⟩
        replace IR := Lib.hid IR
        generalize cs[k] = u0 at *
        clear hb hW rB
        go_wp2
        refine QN_in ?_
        go_wp2_with fail
        try rw [hwk.out]
        refine ⟨IR.out, ?_⟩
        simp [intOf]
        omega
    · obtain rfl : k = 256 := by omega
      have qq := (hE.block w.heap.size (by omega)).trans q2
      have kq := cells_row qq
      have fq := frozen_row qq
      have kd := cells_row hd
      have rf := row_set (row_set qq 0 (.slice (some ⟨w.heap.size + 1, 0, none⟩) 256 256)) 1 (.slice none 0 0)
      have kf := cells_row rf
      have bf : Below w.heap.size w ((wr.setCell ⟨w.heap.size, 0, none⟩ (.slice (some ⟨w.heap.size + 1, 0, none⟩) 256 256)).setCell ⟨w.heap.size, 1, none⟩ (.slice none 0 0)) := Below.setCell (Below.setCell xw (p := ⟨w.heap.size, 0, none⟩) (Nat.le_refl _) _) (p := ⟨w.heap.size, 1, none⟩) (Nat.le_refl _) _
      have DF : ∀ W2 : World, (∀ q : Addr, w.heap.size ≤ q.block → q.block < ((wr.setCell ⟨w.heap.size, 0, none⟩ (.slice (some ⟨w.heap.size + 1, 0, none⟩) 256 256)).setCell ⟨w.heap.size, 1, none⟩ (.slice none 0 0)).heap.size → W2.cell? q = ((wr.setCell ⟨w.heap.size, 0, none⟩ (.slice (some ⟨w.heap.size + 1, 0, none⟩) 256 256)).setCell ⟨w.heap.size, 1, none⟩ (.slice none 0 0)).cell? q) → Bls W2 ((wr.setCell ⟨w.heap.size, 0, none⟩ (.slice (some ⟨w.heap.size + 1, 0, none⟩) 256 256)).setCell ⟨w.heap.size, 1, none⟩ (.slice none 0 0)).heap.size (.slice (some ⟨w.heap.size + 1, 0, none⟩) 256 256) newBs := by
        have st : ∀ b, b ≠ w.heap.size → ((wr.setCell ⟨w.heap.size, 0, none⟩ (.slice (some ⟨w.heap.size + 1, 0, none⟩) 256 256)).setCell ⟨w.heap.size, 1, none⟩ (.slice none 0 0)).heap[b]? = wr.heap[b]? := fun b hb => (Below.heap_setCell _ _ _ _ hb).trans (Below.heap_setCell _ _ _ _ hb)
        generalize World.setCell (World.setCell wr _ _) _ _ = wf at *
        intro W2 hk
        have rB := (st (w.heap.size + 1) (by omega)).trans hrow
        have zB := (Array.getElem?_eq_some_iff.1 rB).1
        refine ⟨cs.toList, some ⟨w.heap.size + 1, 0, none⟩, 256, by simp [newBs], by simp [newBs], by unfold maxLen; omega, ⟨by simp [newBs, hsz], fun _ => ⟨w.heap.size + 1, 0, rfl, zB, fun j u hu => ?_⟩⟩, fun i u l hu hl => ?_⟩
        · rw [hk ⟨w.heap.size + 1, 0 + j, none⟩ (by show w.heap.size ≤ w.heap.size + 1; omega) zB, Nat.zero_add, cells_row rB]
          simpa using hu
        have hi : i < 256 := by
          have := (List.getElem?_eq_some_iff.1 hl).1
          simpa [newBs] using this
        have e0 : cs.toList[i]? = cs[i]? := by simp
        obtain ⟨b, e1, e2, e3⟩ := hcs i hi
        rw [e0, e1] at hu
        cases hu
        have hl2 : l = zeroB 128 := by
          have : newBs[i]? = some (zeroB 128) := by unfold newBs; rw [List.getElem?_replicate, if_pos hi]
          rw [this] at hl
          cases hl
          rfl
        subst hl2
        have e4 := (st b (by omega)).trans e3
        have zb := (Array.getElem?_eq_some_iff.1 e4).1
        refine ⟨_, 128, by rw [zeroB_len], by rw [zeroB_len]; omega, by unfold maxLen; omega, by simp, fun _ => ⟨b, 0, rfl, zb, fun j u hu => ?_⟩⟩
        rw [hk ⟨b, 0 + j, none⟩ (by show w.heap.size ≤ b; omega) zb, Nat.zero_add, cells_row e4]
        simpa using hu
      replace kf := Lib.hid kf
      replace bf := Lib.hid bf
      replace DF := Lib.hid DF
      clear rf hE hrow hcs hd
      go_wp2
      have kf := kf.out
      exact bodyPost_ret (v := diskV (some ⟨w.heap.size + 1, 0, none⟩) 256 256 none 0 0) (by simp [results, Try.results59, go_sem, kf]) rfl ⟨_, rfl, ⟨w.heap.size + 1, rfl, DF.out⟩, bf.out⟩
end Go.Proofs.Yteikcgjhcniiiaa
/- slices.Backward over writes: what its iterator hands to a loop's body. -/
namespace Go.Proofs.Yteikcgjhcniiiaa
set_option linter.unusedSimpArgs false
set_option linter.unusedVariables false
open Go.RowKit Go.Shelf

attribute [local go_sem] Oper.semAt_some

abbrev Sl : Type := Option Addr × Nat × Nat
abbrev sv (s : Sl) : Value := .slice s.1 s.2.1 s.2.2
abbrev W2 : Type := Int × Sl
abbrev w2z : W2 := (0, none, 0, 0)

set_option maxRecDepth 100000 in
set_option maxHeartbeats 1000000 in
theorem backW_in (n : Nat) (hn : 1 ≤ n) (l Bs b off len cap : Nat) (us : List W2) (hreach : len < 1099511627776) (J Jx : List (Nat × W2) → World → Prop)
    (hY : ∀ pre x W, J pre W → pre.length < len → YieldAt Fence.wide (n - 1) Try.prog l #[.int .i64 (x.1 : Int), .agg #[.int .i64 x.2.1, sv x.2.2]] W fun e W' =>
      (e = .returned (.bool true) ∧ J (pre ++ [x]) W' ∧ Keep2 Bs b W W') ∨ (e = .returned (.bool false) ∧ Jx (pre ++ [x]) W'))
    (W : World) (hBs : W.cell? ⟨Bs, 0, none⟩ = some (.slice (some ⟨b, off, none⟩) len cap)) (hc : ∀ i, i < len → W.cell? ⟨b, off + i * 2, none⟩ = some (.int .i64 (us[i]?.getD w2z).1) ∧ W.cell? ⟨b, off + i * 2 + 1, none⟩ = some (sv (us[i]?.getD w2z).2)) (h0 : J [] W) :
    CallsIn Fence.wide n Try.prog 152 #[.func (.yield l) #[] #[], .pointer (some ⟨Bs, 0, none⟩)] W fun e W' => (∃ v, e = .returned v) ∧
      ((∃ ys, ys = upto (fun j => (len - 1 - j, us[len - 1 - j]?.getD w2z)) len ∧ J ys W') ∨ (∃ pre, (∃ k, k ≤ len ∧ pre = upto (fun j => (len - 1 - j, us[len - 1 - j]?.getD w2z)) k) ∧ Jx pre W')) := by
  refine callsIn_of_wp Try.func152 rfl trivial ?_ rfl
  simp only [Try.ntmps152, List.size_toArray, List.length_cons, List.length_nil, Nat.reduceAdd, Nat.reduceSub, Array.replicate_succ, Array.replicate_zero, List.push_toArray, List.append_toArray, List.nil_append, List.cons_append]
  gi_wp2
  gi_loopw [3] (fun i wr => ∃ k : Nat, k ≤ len ∧ i = .int .i64 ((len : Int) - 1 - k) ∧ J (upto (fun j => (len - 1 - j, us[len - 1 - j]?.getD w2z)) k) wr ∧ Keep2 Bs b W wr)
    (fun i _ => (intOf i + 1).toNat)
  case atStart => exact ⟨0, Nat.zero_le _, by simp, h0, Keep2.refl _ _ _⟩
  case round =>
    obtain ⟨k, hk, rfl, hJs, hnx⟩ := hrel
    have hBr : wr.cell? ⟨Bs, 0, none⟩ = some (.slice (some ⟨b, off, none⟩) len cap) := (World.cell?_of_block (w := W) hnx.1).trans hBs
    by_cases hlt : k < len
    · have hcx := (World.cell?_of_block (w := W) (a := ⟨b, off + (len - 1 - k) * 2, none⟩) hnx.2).trans (hc (len - 1 - k) (by omega)).1
      have hcy := (World.cell?_of_block (w := W) (a := ⟨b, off + (len - 1 - k) * 2 + 1, none⟩) hnx.2).trans (hc (len - 1 - k) (by omega)).2
      obtain ⟨fn, tmps, assign, body, hy, hR⟩ := hY _ (len - 1 - k, us[len - 1 - k]?.getD w2z) wr hJs (by rw [upto_length]; exact hlt)
      dsimp only at hy
      obtain ⟨i, hi⟩ : ∃ i : Nat, len - 1 - k = i := ⟨_, rfl⟩
      have hi2 : (len : Int) - 1 - k = (i : Int) := by omega
      have hil : i < len := by omega
      have hik : k + i + 1 ≤ len ∧ len ≤ k + i + 1 := by omega
      have HU := Lib.hid (upto_succ (fun j => (len - 1 - j, us[len - 1 - j]?.getD w2z)) k)
      obtain ⟨u, hu⟩ : ∃ u, us[i]?.getD w2z = u := ⟨_, rfl⟩
      rw [hi] at hcx hcy hy hR
      rw [hu] at hcx hcy hy hR
      rw [hi2]
      clear hi2
      have HE := Lib.hid hu
      clear hu
      have HI := Lib.hid hi
      clear hi
      gi_wp2
      refine hR.mono ?_
      rintro e W3 (⟨rfl, hJ3, hk3⟩ | ⟨rfl, hJx3⟩)
      · gi_wp2
        go_roundw
        case rel => exact ⟨k + 1, by omega, by go_num, by rw [HU.out, HI.out, HE.out]; exact hJ3, hnx.t hk3⟩
        case measure => simp [intOf]
      · gi_wp2
        refine bodyPost_ret (results_none rfl _ _ _) rfl ?_
        exact ⟨⟨_, rfl⟩, .inr ⟨_, ⟨k + 1, by omega, by rw [HU.out, HI.out, HE.out]⟩, hJx3⟩⟩
    · obtain rfl : k = len := by omega
      gi_wp2
      go_end0
      exact ⟨⟨_, rfl⟩, .inl ⟨_, rfl, hJs⟩⟩

set_option maxRecDepth 100000 in
set_option maxHeartbeats 1000000 in
theorem backW_nil_in (n l Bs c : Nat) (A : Option Addr) (J : List (Nat × W2) → World → Prop) (W : World) (hBs : W.cell? ⟨Bs, 0, none⟩ = some (.slice A 0 c)) (h0 : J [] W) :
    CallsIn Fence.wide n Try.prog 152 #[.func (.yield l) #[] #[], .pointer (some ⟨Bs, 0, none⟩)] W fun e W' => (∃ v, e = .returned v) ∧ J [] W' := by
  refine callsIn_of_wp Try.func152 rfl trivial ?_ rfl
  simp only [Try.ntmps152, List.size_toArray, List.length_cons, List.length_nil, Nat.reduceAdd, Nat.reduceSub, Array.replicate_succ, Array.replicate_zero, List.push_toArray, List.append_toArray, List.nil_append, List.cons_append]
  gi_wp2
  gi_loopw [3] (fun i wr => i = .int .i64 (-1) ∧ J [] wr) (fun _ _ => 0)
  case atStart => exact ⟨rfl, h0⟩
  case round =>
    obtain ⟨rfl, hJs⟩ := hrel
    gi_wp2
    go_end0
    exact ⟨⟨_, rfl⟩, hJs⟩

/-- what slices.Backward hands out of writes: the pairs (index, write) from behind -/
def backsW (us : List W2) (k : Nat) : List (Nat × W2) := upto (fun j => (us.length - 1 - j, us[us.length - 1 - j]?.getD w2z)) k
/-- the box of s, and where s lies -/
def SW (W : World) (Bs b : Nat) (v : Value) (us : List W2) : Prop :=
  W.cell? ⟨Bs, 0, none⟩ = some v ∧ ((us = [] ∧ ∃ A c, v = .slice A 0 c) ∨ ∃ off cap, v = .slice (some ⟨b, off, none⟩) us.length cap ∧ ∀ i, i < us.length → W.cell? ⟨b, off + i * 2, none⟩ = some (.int .i64 (us[i]?.getD w2z).1) ∧ W.cell? ⟨b, off + i * 2 + 1, none⟩ = some (sv (us[i]?.getD w2z).2))
theorem SW.keep {W W' : World} {Bs b : Nat} {v : Value} {us : List W2} (h : SW W Bs b v us) (hk : Keep2 Bs b W W') : SW W' Bs b v us := by
  refine ⟨(World.cell?_of_block (w := W) hk.1).trans h.1, ?_⟩
  rcases h.2 with h | ⟨off, cap, e, hc⟩
  · exact .inl h
  · exact .inr ⟨off, cap, e, fun i hi => ⟨(World.cell?_of_block (w := W) hk.2).trans (hc i hi).1, (World.cell?_of_block (w := W) hk.2).trans (hc i hi).2⟩⟩

/-- THE ITERATOR's CONTRACT -/
theorem backW_stops (n : Nat) (hn : 1 ≤ n) (Bs b : Nat) (v : Value) (us : List W2) (hreach : us.length < 1099511627776) (w : World) (hBs : Bs < w.heap.size) (hb : b < w.heap.size) (hS : SW w Bs b v us) :
    SeqStopsK Fence.wide n Try.prog 152 #[.pointer (some ⟨Bs, 0, none⟩)] (fun x : Nat × W2 => #[.int .i64 (x.1 : Int), .agg #[.int .i64 x.2.1, sv x.2.2]]) (Keep2 Bs b) (fun ys => ys = backsW us us.length)
      (fun pre => ∃ k, k ≤ us.length ∧ pre = backsW us k) us.length w := fun l J Jx W hW _ _ hY h0 => by
  obtain ⟨hc, h⟩ := hS.keep (Keep2.below hW hBs hb)
  rcases h with ⟨rfl, A, c, rfl⟩ | ⟨off, cap, rfl, hcs⟩
  · exact (backW_nil_in n l Bs c A J W hc h0).mono fun e W' ⟨he, hj⟩ => ⟨he, .inl ⟨_, rfl, hj⟩⟩
  · exact backW_in n hn l Bs b off us.length cap us hreach J Jx hY W hc hcs h0

set_option maxHeartbeats 1000000 in
theorem backwardW_any (A : Option Addr) (m c : Nat) (w : World) :
    Calls Try.prog 129 #[.slice A m c] w (fun e w' => e = .returned (.func (.func 152) #[] #[.pointer (some ⟨w.heap.size, 0, none⟩)]) ∧ w' = w.alloc (.cells #[.slice A m c] 23)) := by
  go_enter Try.func129, Try.ntmps129
  go_wp2
  go_ret
  exact ⟨rfl, rfl⟩
end Go.Proofs.Yteikcgjhcniiiaa
/- Contracts: the node at a block of a store on a bench. -/
namespace Go.Proofs.Yteikcgjhcniiiaa
set_option linter.unusedSimpArgs false
set_option linter.unusedVariables false
open Go.RowKit Go.Shelf
attribute [local go_sem] Oper.semAt_some

/-- a slice's parts -/
def slOf : Value → Sl
  | .slice A n c => (A, n, c)
  | _ => (none, 0, 0)

theorem lastTo_from {ws : List (Int × List UInt8)} {a : Int} : ∀ (d m : Nat), m + d = ws.length → (∀ i, m ≤ i → (h : i < ws.length) → ws[i].1 ≠ a) → lastTo ws a = lastTo (ws.take m) a := by
  intro d
  induction d with
  | zero => intro m hm _; rw [show m = ws.length by omega, List.take_length]
  | succ d ih =>
    intro m hm h
    rw [ih (m + 1) (by omega) (fun i hi hl => h i (by omega) hl), lastTo_take (by omega), if_neg (h m (Nat.le_refl _) (by omega))]
theorem backsW_get (us : List W2) (k j : Nat) (h : j < k) : (backsW us k)[j]? = some (us.length - 1 - j, us[us.length - 1 - j]?.getD w2z) := by
  unfold backsW upto
  rw [List.getElem?_map, List.getElem?_range h]; rfl
/-- what the loop has found when it stops, or when it is through -/
theorem back_stop {ps : List ((Int × List UInt8) × Value)} {a : Int} {k : Nat} {pre : List (Nat × W2)} {x : Nat × W2} (hk : k ≤ ps.length) (he : pre ++ [x] = backsW (ps.map fun p => (p.1.1, slOf p.2)) k) (hx : x.2.1 = a) (hp : ∀ y ∈ pre, y.2.1 ≠ a) : ∃ p ∈ ps, x.2.2 = slOf p.2 ∧ lastTo (ps.map (·.1)) a = some p.1.2 := by
  have hl : pre.length + 1 = k := by
    have := congrArg List.length he
    simpa [backsW, upto] using this
  have hlen : (ps.map fun p => ((p.1.1, slOf p.2) : W2)).length = ps.length := by simp
  have hxk : some x = some (ps.length - 1 - pre.length, (ps.map fun p => ((p.1.1, slOf p.2) : W2))[ps.length - 1 - pre.length]?.getD w2z) := by
    rw [← hlen, ← backsW_get _ k pre.length (by omega), ← he]
    simp
  have hi : ps.length - 1 - pre.length < ps.length := by omega
  simp only [Option.some.injEq] at hxk
  rw [List.getElem?_map, List.getElem?_eq_getElem hi] at hxk
  refine ⟨ps[ps.length - 1 - pre.length], List.getElem_mem _, by rw [hxk]; rfl, ?_⟩
  have hfrom := lastTo_from (ws := ps.map (·.1)) (a := a) pre.length (ps.length - 1 - pre.length + 1) (by simp; omega) (fun i h1 h2 => by
    have h2' : i < ps.length := by simpa using h2
    have hj : ps.length - 1 - i < pre.length := by omega
    have hy : pre[ps.length - 1 - i]? = some (i, (ps.map fun p => ((p.1.1, slOf p.2) : W2))[i]?.getD w2z) := by
      have h3 := backsW_get (ps.map fun p => ((p.1.1, slOf p.2) : W2)) k (ps.length - 1 - i) (by omega)
      rw [← he, List.getElem?_append_left hj, hlen, show ps.length - 1 - (ps.length - 1 - i) = i by omega] at h3
      exact h3
    have := hp _ (List.mem_of_getElem? hy)
    rw [List.getElem?_map, List.getElem?_eq_getElem h2'] at this
    simpa using this)
  rw [hfrom, lastTo_take (by simp; omega)]
  have hx' : ps[ps.length - 1 - pre.length].1.1 = a := by rw [← hx, hxk]; rfl
  simp [hx']
theorem back_done {ps : List ((Int × List UInt8) × Value)} {a : Int} (hp : ∀ y ∈ backsW (ps.map fun p => ((p.1.1, slOf p.2) : W2)) ps.length, y.2.1 ≠ a) : lastTo (ps.map (·.1)) a = none := by
  have hlen : (ps.map fun p => ((p.1.1, slOf p.2) : W2)).length = ps.length := by simp
  rw [lastTo_from (ws := ps.map (·.1)) (a := a) ps.length 0 (by simp) (fun i _ h2 => by
    have h2' : i < ps.length := by simpa using h2
    have h3 := backsW_get (ps.map fun p => ((p.1.1, slOf p.2) : W2)) ps.length (ps.length - 1 - i) (by omega)
    rw [hlen, show ps.length - 1 - (ps.length - 1 - i) = i by omega] at h3
    have := hp _ (List.mem_of_getElem? h3)
    rw [List.getElem?_map, List.getElem?_eq_getElem h2'] at this
    simpa using this)]
  rfl

theorem ownFrom_row {β : Type} (B b : Nat) (cs : Array Value) (ty : TypeId) : OwnFrom B (fun (_ : β) W => W.heap[b]? = some (.cells cs ty (0, 0))) := fun _ A _ row hs hg hr =>
  (hg.block b (Array.getElem?_eq_some_iff.1 hs).1 (fun e => by
    obtain ⟨_, o, ho, hc⟩ := hr b e.symm
    rw [hs] at ho
    cases ho
    cases hc)).trans hs
theorem ownFrom_pure {β : Type} (B : Nat) (p : β → Prop) : OwnFrom B (fun s _ => p s) := fun _ _ _ _ hs _ _ => hs

set_option maxHeartbeats 4000000 in
set_option maxRecDepth 100000 in
theorem bnode_any (lo bb : Nat) (A1 : Option Addr) (n1 c1 : Nat) (A2 : Option Addr) (n2 c2 : Nat) (A3 : Option Addr) (n3 c3 : Nat) (A4 : Option Addr) (n4 c4 : Nat) (S : Sto) (hS : storeMay S = true) (a : Nat) (ha : 8 ≤ a) (ha2 : a < 256) (w : World)
    (h : OnB lo bb (.slice A1 n1 c1) (.slice A2 n2 c2) (.slice A3 n3 c3) (.slice A4 n4 c4) S w) :
    Calls Try.prog 106 #[.pointer (some ⟨bb, 0, none⟩), .int .i64 (a : Int)] w (RetS (NodeP w.heap.size (nodeAt S a)) w) := by
  obtain ⟨hl1, hl2, hl3, hl4⟩ := storeMay_len hS
  obtain ⟨_, hrow, hst⟩ := h
  obtain ⟨hn3, hc3, hm3, hA3⟩ := hst.now.at_
  obtain ⟨b3, o3, rfl, hb3⟩ := hA3 (by omega)
  have hcell : w.cell? ⟨b3, o3 + a, none⟩ = some (.int .u8 ((S.now[a]?.getD 0).toNat : Int)) := by
    obtain ⟨A', c', e, _, _, hr⟩ := hst.now
    cases e
    obtain ⟨b', off', e, _, hc⟩ := hr.2 (by omega)
    cases e
    exact hc a _ (by rw [List.getElem?_map, List.getElem?_eq_getElem (by omega)]; rfl)
  obtain ⟨hn1, hc1, hm1, hA1⟩ := hst.bs.at_
  obtain ⟨b1, o1, rfl, hb1⟩ := hA1 (by omega)
  obtain ⟨A0, c0, hcb, hbyb⟩ := hst.bs.get a (by omega)
  have hN : nodeAt S a = if (S.now[a]?.getD 0).toNat = 0 then none else nodeRead (seenB S a) := rfl
  rw [hN]
  have HR := Lib.hid (fun v W (hv : Bys W W.heap.size v (seenB S a)) => nread_any v (seenB S a) W hv)
  have hseen : seenB S a = match lastTo S.ws a with | some l => l | none => S.bs[a] := by
    unfold seenB; rw [List.getElem?_eq_getElem (by omega)]; rfl
  have hn3' : n3 = 256 := by rw [hn3, hl3]
  have hn1' : n1 = 256 := by rw [hn1, hl1]
  have hbl : bb < w.heap.size := (Array.getElem?_eq_some_iff.1 hrow).1
  generalize S.bs[a] = l0 at *
  generalize seenB S a = l at *
  generalize (S.now[a]?.getD 0).toNat = nw at *
  replace hseen := Lib.hid hseen
  obtain ⟨ps, hps, ⟨A2', c2', e2, hw1, hw2, hw3⟩, hw4⟩ := hst.ws
  rw [← hps] at hseen e2 hw1 hw3 hl2
  clear hN hn3 hn1 hS hst hl1 hl3 hl4 hA3 hA1 hps
  subst hn3'
  subst hn1'
  simp only [Value.slice.injEq] at e2
  obtain ⟨rfl, hw5, rfl⟩ := e2
  rw [← hw5] at hw1 hw3 hl2
  replace hw5 := Lib.hid hw5
  by_cases h0 : nw = 0
  · rw [if_pos h0]
    have hnw : ((nw : Int) == 0) = true := by rw [beq_iff_eq]; omega
    have hnw2 : decide (nw = 0) = true := decide_eq_true h0
    refine (callsIn_wide (n := 3)).1 ?_
    refine callsIn_of_wp_marks Try.func106 rfl trivial ?_ rfl
    simp only [Try.ntmps106, List.size_toArray, List.length_cons, List.length_nil, Nat.reduceAdd, Nat.reduceSub, Array.replicate_succ, Array.replicate_zero, List.push_toArray, List.append_toArray, List.nil_append, List.cons_append]
    refine wpIn_wide.2 ?_
    go_wp2
    generalize hw1 : (World.alloc (World.alloc _ _) _) = w1
    have x1 : Ext w w1 := by rw [← hw1]; exact (Ext.alloc _ _).trans (Ext.alloc _ _)
    have r1 : w1.heap[w.heap.size]? = some (.cells #[.int .i64 (a : Int)] 3 (0, 0)) := by rw [← hw1]; exact (Below.heap_alloc _ _ _ (by simp)).trans (World.alloc_heap_at _ _ _ rfl)
    have q1 : w1.heap[w.heap.size + 1]? = some (.cells #[.int .i64 0, .slice none 0 0] 107 (0, 0)) := by rw [← hw1]; exact World.alloc_heap_at _ _ _ (by simp)
    clear hw1
    have hrow1 := row_ext hrow x1
    have gB : ∀ W, extRel.r w1 W → ∀ i, W.cell? ⟨bb, i, none⟩ = #[.slice (some ⟨b1, o1, none⟩) 256 c1, .slice A2 n2 c2, .slice (some ⟨b3, o3, none⟩) 256 c3, .slice A4 n4 c4][i]? := fun W h => cells_row (row_ext hrow1 h)
    have gA : ∀ W, extRel.r w1 W → W.cell? ⟨w.heap.size, 0, none⟩ = some (.int .i64 (a : Int)) := fun W h => by rw [cells_row (row_ext r1 h)]; rfl
    have gN : ∀ W, extRel.r w1 W → W.cell? ⟨b3, o3 + a, none⟩ = some (.int .u8 (nw : Int)) := fun W h => Ext.cell (x1.trans h) hcell
    have ia : (a : Int) < 256 := by omega
    have ia2 : decide (a < 256) = true := decide_eq_true ha2
    refine region_start (by kernel_rfl) ?_
    refine any_free (w := w1) extRel (outsAt []) [true, true, true, true, true, true, true, true, true] 0 (by kernel_rfl) (by kernel_rfl) (by kernel_rfl) (by kernel_rfl) (by kernel_rfl) (by kernel_rfl) ?st (Rel.drew _ _) ?walk
    case st => exact outsAt_stableG (fun _ h => by cases h)
    case walk =>
      intro K hK
      dsimp only [maskOps]
      repeat (first | (refine free_plainM ?_ (by rfl) (by rfl) (fun W hW _ => ⟨W, ?_, Rel.refl _ W⟩) ?_; rotate_left; (first | (go_simp; with_reducible rfl) | (go_simp; done)); try simp only [Act.put, one_f, outB_f, outNew_f, outI_f, List.setIfInBounds_toArray, List.set_cons_zero, List.set_cons_succ]) | (refine free_skipM (by rfl) ?_; simp only [Act.put, one_f, outB_f, outNew_f, outI_f, List.setIfInBounds_toArray, List.set_cons_zero, List.set_cons_succ]))
      first
        | (refine free_plainM (.pointer (some ⟨b3, o3 + a, none⟩)) (by rfl) (by rfl) (fun W hW _ => ⟨W, ?_, Rel.refl _ W⟩) ?_
           · go_simp
             rw [IntWalk.i64_in (a : Int) (by omega), if_pos (by omega)]
             simp
           simp only [Act.put, one_f, outB_f, outNew_f, outI_f, List.setIfInBounds_toArray, List.set_cons_zero, List.set_cons_succ])
        | skip
      repeat (first | (refine free_plainM ?_ (by rfl) (by rfl) (fun W hW _ => ⟨W, ?_, Rel.refl _ W⟩) ?_; rotate_left; (first | (go_simp; with_reducible rfl) | (go_simp; done)); try simp only [Act.put, one_f, outB_f, outNew_f, outI_f, List.setIfInBounds_toArray, List.set_cons_zero, List.set_cons_succ]) | (refine free_skipM (by rfl) ?_; simp only [Act.put, one_f, outB_f, outNew_f, outI_f, List.setIfInBounds_toArray, List.set_cons_zero, List.set_cons_succ]))
      refine free_nilM (hK _ _ fun W hW hF => ?_)
      clear hF hK gB gA gN
      have hW' : Ext w1 W := hW
      have x2 : Ext w W := x1.trans hW'
      have r2 := row_ext r1 hW'
      have q2 := row_ext q1 hW'
      have hrow2 := row_ext hrow1 hW'
      have s2 : w.heap.size + 1 < W.heap.size := (Array.getElem?_eq_some_iff.1 q2).1
      dsimp only [List.drop, List.length_cons, List.length_nil]
      clear hW hW' x1 r1 q1 hrow1
      have k2 := cells_row q2
      have f2 := frozen_row q2
      go_wp2
      refine QN_in ?_
      go_wp2
      generalize hwf : (World.setCell (World.setCell _ _ _) _ _) = wf
      have rf : wf.heap[w.heap.size + 1]? = some (.cells #[.int .i64 0, .slice none 0 0] 107 (0, 0)) := by rw [← hwf]; exact row_set (row_set q2 0 _) 1 _
      have bf : Below w.heap.size w wf := by rw [← hwf]; exact Below.setCell (Below.setCell x2 (p := ⟨w.heap.size + 1, 0, none⟩) (by simp) _) (p := ⟨w.heap.size + 1, 1, none⟩) (by simp) _
      have kf := cells_row rf
      refine ⟨badNode 8, ?_, ⟨_, rfl, ⟨8, by decide, rfl⟩, bf⟩⟩
      simp [results, Try.results106, go_sem, kf]
  · rw [if_neg h0]
    have hnw : ((nw : Int) == 0) = false := by rw [beq_eq_false_iff_ne]; omega
    have hnw2 : decide (nw = 0) = false := decide_eq_false h0
    refine (callsIn_wide (n := 3)).1 ?_
    refine callsIn_of_wp_marks Try.func106 rfl trivial ?_ rfl
    simp only [Try.ntmps106, List.size_toArray, List.length_cons, List.length_nil, Nat.reduceAdd, Nat.reduceSub, Array.replicate_succ, Array.replicate_zero, List.push_toArray, List.append_toArray, List.nil_append, List.cons_append]
    refine wpIn_wide.2 ?_
    go_wp2
    generalize hw1 : (World.alloc (World.alloc _ _) _) = w1
    have x1 : Ext w w1 := by rw [← hw1]; exact (Ext.alloc _ _).trans (Ext.alloc _ _)
    have r1 : w1.heap[w.heap.size]? = some (.cells #[.int .i64 (a : Int)] 3 (0, 0)) := by rw [← hw1]; exact (Below.heap_alloc _ _ _ (by simp)).trans (World.alloc_heap_at _ _ _ rfl)
    have q1 : w1.heap[w.heap.size + 1]? = some (.cells #[.int .i64 0, .slice none 0 0] 107 (0, 0)) := by rw [← hw1]; exact World.alloc_heap_at _ _ _ (by simp)
    clear hw1
    have hrow1 := row_ext hrow x1
    have gB : ∀ W, extRel.r w1 W → ∀ i, W.cell? ⟨bb, i, none⟩ = #[.slice (some ⟨b1, o1, none⟩) 256 c1, .slice A2 n2 c2, .slice (some ⟨b3, o3, none⟩) 256 c3, .slice A4 n4 c4][i]? := fun W h => cells_row (row_ext hrow1 h)
    have gA : ∀ W, extRel.r w1 W → W.cell? ⟨w.heap.size, 0, none⟩ = some (.int .i64 (a : Int)) := fun W h => by rw [cells_row (row_ext r1 h)]; rfl
    have gN : ∀ W, extRel.r w1 W → W.cell? ⟨b3, o3 + a, none⟩ = some (.int .u8 (nw : Int)) := fun W h => Ext.cell (x1.trans h) hcell
    have ia : (a : Int) < 256 := by omega
    have ia2 : decide (a < 256) = true := decide_eq_true ha2
    refine region_start (by kernel_rfl) ?_
    refine any_free (w := w1) extRel (outsAt []) [true, true, true, true, true, true, true, true, true] 0 (by kernel_rfl) (by kernel_rfl) (by kernel_rfl) (by kernel_rfl) (by kernel_rfl) (by kernel_rfl) ?st (Rel.drew _ _) ?walk
    case st => exact outsAt_stableG (fun _ h => by cases h)
    case walk =>
      intro K hK
      dsimp only [maskOps]
      repeat (first | (refine free_plainM ?_ (by rfl) (by rfl) (fun W hW _ => ⟨W, ?_, Rel.refl _ W⟩) ?_; rotate_left; (first | (go_simp; with_reducible rfl) | (go_simp; done)); try simp only [Act.put, one_f, outB_f, outNew_f, outI_f, List.setIfInBounds_toArray, List.set_cons_zero, List.set_cons_succ]) | (refine free_skipM (by rfl) ?_; simp only [Act.put, one_f, outB_f, outNew_f, outI_f, List.setIfInBounds_toArray, List.set_cons_zero, List.set_cons_succ]))
      first
        | (refine free_plainM (.pointer (some ⟨b3, o3 + a, none⟩)) (by rfl) (by rfl) (fun W hW _ => ⟨W, ?_, Rel.refl _ W⟩) ?_
           · go_simp
             rw [IntWalk.i64_in (a : Int) (by omega), if_pos (by omega)]
             simp
           simp only [Act.put, one_f, outB_f, outNew_f, outI_f, List.setIfInBounds_toArray, List.set_cons_zero, List.set_cons_succ])
        | skip
      repeat (first | (refine free_plainM ?_ (by rfl) (by rfl) (fun W hW _ => ⟨W, ?_, Rel.refl _ W⟩) ?_; rotate_left; (first | (go_simp; with_reducible rfl) | (go_simp; done)); try simp only [Act.put, one_f, outB_f, outNew_f, outI_f, List.setIfInBounds_toArray, List.set_cons_zero, List.set_cons_succ]) | (refine free_skipM (by rfl) ?_; simp only [Act.put, one_f, outB_f, outNew_f, outI_f, List.setIfInBounds_toArray, List.set_cons_zero, List.set_cons_succ]))
      refine free_nilM (hK _ _ fun W hW hF => ?_)
      clear hF hK gB gA gN
      have hW' : Ext w1 W := hW
      have x2 : Ext w W := x1.trans hW'
      have r2 := row_ext r1 hW'
      have q2 := row_ext q1 hW'
      have hrow2 := row_ext hrow1 hW'
      have s2 : w.heap.size + 1 < W.heap.size := (Array.getElem?_eq_some_iff.1 q2).1
      dsimp only [List.drop, List.length_cons, List.length_nil]
      clear hW hW' x1 r1 q1 hrow1
      go_wp2
      refine QN_in ?_
      go_wp2
      have gB : ∀ W', extRel.r W W' → ∀ i, W'.cell? ⟨bb, i, none⟩ = #[.slice (some ⟨b1, o1, none⟩) 256 c1, .slice A2 n2 c2, .slice (some ⟨b3, o3, none⟩) 256 c3, .slice A4 n4 c4][i]? := fun W' h => cells_row (row_ext hrow2 h)
      have gA : ∀ W', extRel.r W W' → W'.cell? ⟨w.heap.size, 0, none⟩ = some (.int .i64 (a : Int)) := fun W' h => by rw [cells_row (row_ext r2 h)]; rfl
      have gN : ∀ W', extRel.r W W' → W'.cell? ⟨b1, o1 + a, none⟩ = some (.slice A0 l0.length c0) := fun W' h => Ext.cell (x2.trans h) hcb
      refine region_start (by kernel_rfl) ?_
      refine any_free (w := W) extRel (outsAt [(9, outNew W.heap.size 26 #[.slice none 0 0])]) [true, true, true, true, true, true, true, true, true, true] 1 (by kernel_rfl) (by kernel_rfl) (by kernel_rfl) (by kernel_rfl) (by kernel_rfl) (by kernel_rfl) ?st (Rel.drew _ _) ?walk
      case st => exact outsAt_stableG (by simp only [List.forall_mem_cons]; exact ⟨fun p => stableG_ext (outNew_stable _ _ _ p), fun _ h => by cases h⟩)
      case walk =>
        intro K hK
        dsimp only [maskOps]
        repeat (first | (refine free_plainM ?_ (by rfl) (by rfl) (fun W hW _ => ⟨W, ?_, Rel.refl _ W⟩) ?_; rotate_left; (first | (go_simp; with_reducible rfl) | (go_simp; done)); try simp only [Act.put, one_f, outB_f, outNew_f, outI_f, List.setIfInBounds_toArray, List.set_cons_zero, List.set_cons_succ]) | (refine free_skipM (by rfl) ?_; simp only [Act.put, one_f, outB_f, outNew_f, outI_f, List.setIfInBounds_toArray, List.set_cons_zero, List.set_cons_succ]))
        first
          | (refine free_plainM (.pointer (some ⟨b1, o1 + a, none⟩)) (by rfl) (by rfl) (fun W hW _ => ⟨W, ?_, Rel.refl _ W⟩) ?_
             · go_simp
               rw [IntWalk.i64_in (a : Int) (by omega), if_pos (by omega)]
               simp
             simp only [Act.put, one_f, outB_f, outNew_f, outI_f, List.setIfInBounds_toArray, List.set_cons_zero, List.set_cons_succ])
          | skip
        repeat (first | (refine free_plainM ?_ (by rfl) (by rfl) (fun W hW _ => ⟨W, ?_, Rel.refl _ W⟩) ?_; rotate_left; (first | (go_simp; with_reducible rfl) | (go_simp; done)); try simp only [Act.put, one_f, outB_f, outNew_f, outI_f, List.setIfInBounds_toArray, List.set_cons_zero, List.set_cons_succ]) | (refine free_skipM (by rfl) ?_; simp only [Act.put, one_f, outB_f, outNew_f, outI_f, List.setIfInBounds_toArray, List.set_cons_zero, List.set_cons_succ]))
        refine free_hardM (outNew W.heap.size 26 #[.slice none 0 0]) (by rfl) (by rfl) (fun W' hW _ => ?_) (fun (p9 : Nat) => ?_)
        · refine hardAt_newE ?_ (Below.size hW)
          go_simp
        simp only [Act.put, one_f, outB_f, outNew_f, outI_f, List.setIfInBounds_toArray, List.set_cons_zero, List.set_cons_succ]
        refine free_nilM (hK _ _ fun W3 hW hF => ?_)
        obtain ⟨f9, hlo⟩ : W3.heap[p9]? = some (.cells #[.slice none 0 0] 26 (0, 0)) ∧ W.heap.size ≤ p9 := (hF 9).1
        clear hF hK gB gA gN
        have hW' : Ext W W3 := hW
        have r3 := row_ext r2 hW'
        have q3 := row_ext q2 hW'
        have hrow3 := row_ext hrow2 hW'
        have x3 : Ext w W3 := x2.trans hW'
        have k9 := cells_row f9
        have h9 := frozen_row f9
        dsimp only [List.drop, List.length_cons, List.length_nil]
        go_wp2
        refine QN_in ?_
        have x4 : Ext W (W3.setCell ⟨p9, 0, none⟩ (.slice A0 l0.length c0)) := Below.setCell hW' (p := ⟨p9, 0, none⟩) hlo _
        have f4 := row_set f9 0 (.slice A0 l0.length c0)
        generalize hw4 : (World.setCell W3 _ _) = w4 at *
        have r4 := row_ext r2 x4
        have q4 := row_ext q2 x4
        have hrow4 := row_ext hrow2 x4
        have xw4 : Ext w w4 := x2.trans x4
        have k4 := cells_row hrow4
        clear hw4 k9 h9 f9 hW hW' r3 q3 hrow3 x3
        go_wp2_with fail
        refine (backwardW_any A2 n2 c2 w4).mono ?_
        rintro e w5 ⟨rfl, rfl⟩
        go_wp2
        have hsz4 : w.heap.size + 1 < w4.heap.size := (Array.getElem?_eq_some_iff.1 q4).1
        have hp4 : p9 < w4.heap.size := (Array.getElem?_eq_some_iff.1 f4).1
        have x5 : Ext w4 (w4.alloc (.cells #[.slice A2 n2 c2] 23)) := Ext.alloc _ _
        have hul : (ps.map fun p => ((p.1.1, slOf p.2) : W2)).length = n2 := by rw [hw5.out]; simp
        have hpl : ps.length = n2 := by rw [hw5.out]; simp
        obtain ⟨b2, hb2, hSW⟩ : ∃ b2, b2 < w.heap.size ∧ SW (w4.alloc (.cells #[.slice A2 n2 c2] 23)) w4.heap.size b2 (.slice A2 n2 c2) (ps.map fun p => ((p.1.1, slOf p.2) : W2)) := by
          have hbox : (w4.alloc (.cells #[.slice A2 n2 c2] 23)).cell? ⟨w4.heap.size, 0, none⟩ = some (.slice A2 n2 c2) := by rw [cells_row (World.alloc_heap_at _ _ _ rfl)]; rfl
          rcases Nat.eq_zero_or_pos n2 with hz | hz
          · have : ps = [] := List.eq_nil_of_length_eq_zero (by omega)
            exact ⟨bb, hbl, hbox, .inl ⟨by rw [this]; rfl, A2, c2, by rw [hz]⟩⟩
          · obtain ⟨b2, o2, rfl, hlt, hc⟩ := hw3.2 hz
            refine ⟨b2, hlt, hbox, .inr ⟨o2, c2, by rw [hul], fun i hi => ?_⟩⟩
            have hi' : i < ps.length := by simpa using hi
            obtain ⟨g0, g1⟩ := cells2_at ps i hi'
            have hx := xw4.trans x5
            refine ⟨?_, ?_⟩
            · rw [Ext.cell hx (hc _ _ g0), List.getElem?_map, List.getElem?_eq_getElem hi']; rfl
            · obtain ⟨⟨A', c', e'⟩, _⟩ := hw4 ps[i] (List.getElem_mem hi')
              rw [Nat.add_assoc, Ext.cell hx (hc _ _ g1), List.getElem?_map, List.getElem?_eq_getElem hi']
              simp only [Option.map_some, Option.getD_some]
              rw [e']
              rfl
        refine (wpIn_wide (n := 3)).1 ?_
        refine wpIn_rangeFunc_ownH rfl (by omega) (gf := 152) (lb := #[.pointer (some ⟨w4.heap.size, 0, none⟩)]) rfl trivial (enters_of Try.func152 (by kernel_rfl) rfl)
          (backW_stops (3 - 1) (by omega) w4.heap.size b2 _ _ (by rw [hul]; omega) _ (by simp) (by simp; omega) hSW) Keep2.t (Keep2.b (by simp) (by simp; omega)) (Below.refl _ _) (fun _ => rfl)
          (fun pre W' => ((W'.heap[w.heap.size]? = some (.cells #[.int .i64 (a : Int)] 3 (0, 0)) ∧ W'.heap[w.heap.size + 1]? = some (.cells #[.int .i64 0, .slice none 0 0] 107 (0, 0))) ∧ (W'.heap[p9]? = some (.cells #[.slice A0 l0.length c0] 26 (0, 0)) ∧ W'.heap[w4.heap.size]? = some (.cells #[.slice A2 n2 c2] 23 (0, 0)))) ∧ (Below w.heap.size w W' ∧ ∀ y ∈ pre, y.2.1 ≠ (a : Int)))
          (fun c pre W' => ((W'.heap[w.heap.size + 1]? = some (.cells #[.int .i64 0, .slice none 0 0] 107 (0, 0))) ∧ ∃ pre' x, W'.heap[p9]? = some (.cells #[sv x.2.2] 26 (0, 0)) ∧ c = .exit 0 ∧ pre = pre' ++ [x] ∧ x.2.1 = (a : Int) ∧ ∀ y ∈ pre', y.2.1 ≠ (a : Int)) ∧ Below w.heap.size w W')
          (OwnFrom.and (OwnFrom.and (OwnFrom.and (ownFrom_row _ _ _ _) (ownFrom_row _ _ _ _)) (OwnFrom.and (ownFrom_row _ _ _ _) (ownFrom_row _ _ _ _))) (OwnFrom.and (ownFrom_below (Nat.le_refl _) (by simp; omega)) (ownFrom_pure _ _)))
          (fun c => OwnFrom.and (OwnFrom.and (ownFrom_row _ _ _ _) (fun s A C row hs hg hr => by
            obtain ⟨pre', x, h1, h2⟩ := hs
            exact ⟨pre', x, ownFrom_row (β := Unit) _ _ _ _ () A C row h1 hg hr, h2⟩)) (ownFrom_below (Nat.le_refl _) (by simp; omega)))
          ⟨⟨⟨row_ext r4 x5, row_ext q4 x5⟩, row_ext f4 x5, World.alloc_heap_at _ _ _ rfl⟩, xw4.trans x5, fun y hy => by cases hy⟩
          (fun x a' W' => ∃ t8, a' = { tmps := #[.pointer (some ⟨bb, 0, none⟩), .int .i64 (a : Int), undef, .pointer (some ⟨w.heap.size, 0, none⟩), .pointer (some ⟨w.heap.size + 1, 0, none⟩), .int .i64 0, .pointer (some ⟨p9, 0, none⟩), undef, .pointer (some ⟨t8, 0, none⟩), undef, undef,
              .pointer (some ⟨bb, 0, none⟩), .pointer (some ⟨bb, 0, none⟩), .pointer (some ⟨bb, 0, none⟩), .pointer (some ⟨bb, 2, none⟩), .slice (some ⟨b3, o3, none⟩) 256 c3, .int .i64 (a : Int), .pointer (some ⟨b3, o3 + a, none⟩), .int .u8 (nw : Int), .bool false, undef,
              .pointer (some ⟨bb, 0, none⟩), .pointer (some ⟨bb, 0, none⟩), .pointer (some ⟨bb, 0, none⟩), .pointer (some ⟨bb, 0, none⟩), .pointer (some ⟨bb, 0, none⟩), .slice (some ⟨b1, o1, none⟩) 256 c1, .int .i64 (a : Int), .pointer (some ⟨b1, o1 + a, none⟩), .slice A0 l0.length c0,
              .pointer (some ⟨bb, 0, none⟩), .pointer (some ⟨bb, 0, none⟩), .pointer (some ⟨bb, 0, none⟩), .pointer (some ⟨bb, 0, none⟩), .pointer (some ⟨bb, 1, none⟩), .slice A2 n2 c2, .func (.func 152) #[] #[.pointer (some ⟨w4.heap.size, 0, none⟩)],
              .int .i64 (x.1 : Int), .agg #[.int .i64 x.2.1, sv x.2.2], undef, undef, undef, undef, undef, undef, undef, undef, undef, undef, undef, undef, undef, undef, undef], defers := [] } ∧ W'.heap[t8]? = some (.cells #[.int .i64 x.2.1, sv x.2.2] 141 (0, 0)))
          (fun x a' s A C row hs hg hr => by
            obtain ⟨t8, e, h⟩ := hs
            exact ⟨t8, e, ownFrom_row (β := Unit) _ _ _ _ () A C row h hg hr⟩) ?assign ?body ?done ?stop
        case assign =>
          rintro l' pre x W' K ⟨⟨⟨i1, i2⟩, i3, i6⟩, i4, i5⟩ hK
          gi_wp2
          have z1 := (Array.getElem?_eq_some_iff.1 i1).1
          have z2 := (Array.getElem?_eq_some_iff.1 i2).1
          have z3 := (Array.getElem?_eq_some_iff.1 i3).1
          have z6 := (Array.getElem?_eq_some_iff.1 i6).1
          have z4 := i4.size
          refine hK _ _ ((KeepsOthers.alloc _ _).from _) ⟨Below.heap_alloc _ _ _ z6, Below.heap_alloc _ _ _ (by omega)⟩ ⟨⟨⟨(Below.heap_alloc _ _ _ z1).trans i1, (Below.heap_alloc _ _ _ z2).trans i2⟩, (Below.heap_alloc _ _ _ z3).trans i3, (Below.heap_alloc _ _ _ z6).trans i6⟩, Below.alloc i4 z4 _, i5⟩ ⟨W'.heap.size, rfl, World.alloc_heap_at _ _ _ rfl⟩
        case body =>
          rintro l' pre x a' W' hl ⟨rr, hlp⟩ ⟨⟨⟨i1, i2⟩, i3, i6⟩, i4, i5⟩ ⟨t8, rfl, hr8⟩ _
          have k8 := cells_row hr8
          have k1 := cells_row i1
          by_cases hq : x.2.1 = (a : Int)
          · have hqe : (x.2.1 == (a : Int)) = true := by rw [beq_iff_eq]; exact hq
            have k9 := cells_row i3
            have f9 := frozen_row i3
            gi_wp2
            refine ⟨(KeepsOthers.setCell _ _ _).from _, ⟨(Below.heap_setCell _ _ _ _ (by simp; omega)).trans i2, pre, x, row_set i3 0 _, rfl, rfl, hq, i5⟩, Below.setCell i4 (p := ⟨p9, 0, none⟩) (by simp; omega) _⟩
          · have hqe : (x.2.1 == (a : Int)) = false := by rw [beq_eq_false_iff_ne]; exact hq
            gi_wp2
            refine ⟨KeepsFrom.refl _ _, Keep2.refl _ _ _, ⟨⟨i1, i2⟩, i3, i6⟩, i4, fun y hy => ?_⟩
            rcases List.mem_append.1 hy with h | h
            · exact i5 y h
            · obtain rfl : y = x := by simpa using h
              exact hq
        case done =>
          rintro D ys W' hD rfl ⟨⟨⟨i1, it4⟩, ip, _⟩, i4, i5⟩ hK
          have hll : l = l0 := by rw [hseen.out, back_done (by rw [List.length_map] at i5; exact i5)]
          have hby : Bys W' W'.heap.size (.slice A0 l0.length c0) l := by rw [hll]; exact (hbyb.below i4).more i4.size
          clear hll

          have x6 : Below w.heap.size w W' := i4
          have hsz6 := x6.size
          have hD6 : D < W'.heap.size := (Array.getElem?_eq_some_iff.1 hK).1
          have hDw : w.heap.size + 1 < D := by simp at hD; omega
          have kp := cells_row ip
          go_wp2_with fail
          refine (HR.out _ _ hby).mono ?_
          rintro e w7 ⟨u7, rfl, hu7, hB⟩
          have q7 := row_ext it4 hB
          have d7 : w7.heap[D]? = some (.deferred (some [])) := (hB.block D hD6).trans hK
          have x7 : Below w.heap.size w w7 := Below.trans x6 (Below.mono hB hsz6)
          have s7 : w.heap.size + 1 < w7.heap.size := (Array.getElem?_eq_some_iff.1 q7).1
          have sD7 : D < w7.heap.size := (Array.getElem?_eq_some_iff.1 d7).1
          have k7 := cells_row q7
          have f7 := frozen_row q7
          clear kp HR hby hB
          rcases hQ : nodeRead l with _ | ⟨lvl, xs⟩
          · rw [hQ] at hu7
            obtain ⟨er, hne2, rfl⟩ := hu7
            have hne3 : (er != 0) = true := by rw [bne_iff_ne]; exact hne2
            go_wp2
            generalize hwf : (World.alloc _ _) = wf
            have rf : wf.heap[w.heap.size + 1]? = some (.cells #[.int .i64 0, .slice none 0 0] 107 (0, 0)) := by rw [← hwf]; exact (Below.heap_alloc _ _ _ (by simpa using s7)).trans (row_set (row_set q7 0 _) 1 _)
            have df : wf.heap[D]? = some (.deferred (some [])) := by rw [← hwf]; exact (Below.heap_alloc _ _ _ (by simpa using sD7)).trans ((Below.heap_setCell _ _ _ _ (by simp; omega)).trans ((Below.heap_setCell _ _ _ _ (by simp; omega)).trans d7))
            have bf : Below w.heap.size w wf := by rw [← hwf]; exact Below.alloc (Below.setCell (Below.setCell x7 (p := ⟨w.heap.size + 1, 0, none⟩) (by simp) _) (p := ⟨w.heap.size + 1, 1, none⟩) (by simp) _) (by simp; omega) _
            have rf2 : (wf.putObj D (.deferred none)).heap[w.heap.size + 1]? = _ := (World.putObj_heap_other (by omega)).trans rf
            have bf2 : Below w.heap.size w (wf.putObj D (.deferred none)) := bf.trans (belowK_b (w := w) (Nat.le_refl _) wf D _ _ (by omega) df rfl rfl)
            have kf := cells_row rf2
            refine ⟨by simp, .inl ⟨_, _, rfl, run_takeDeferred df, badNode 8, ?_, _, rfl, (show NodeP _ (nodeRead l) _ _ by rw [hQ]; exact ⟨8, by decide, rfl⟩), bf2⟩⟩
            simp [results, Try.results106, go_sem, kf]
          · rw [hQ] at hu7
            obtain ⟨A, c, rfl, hi⟩ := hu7
            go_wp2
            generalize hwf : (World.alloc _ _) = wf
            have rf : wf.heap[w.heap.size + 1]? = some (.cells #[.int .i64 lvl, .slice A xs.length c] 107 (0, 0)) := by rw [← hwf]; exact (Below.heap_alloc _ _ _ (by simpa using s7)).trans (row_set (row_set q7 0 _) 1 _)
            have df : wf.heap[D]? = some (.deferred (some [])) := by rw [← hwf]; exact (Below.heap_alloc _ _ _ (by simpa using sD7)).trans ((Below.heap_setCell _ _ _ _ (by simp; omega)).trans ((Below.heap_setCell _ _ _ _ (by simp; omega)).trans d7))
            have bf : Below w.heap.size w wf := by rw [← hwf]; exact Below.alloc (Below.setCell (Below.setCell x7 (p := ⟨w.heap.size + 1, 0, none⟩) (by simp) _) (p := ⟨w.heap.size + 1, 1, none⟩) (by simp) _) (by simp; omega) _
            have rf2 : (wf.putObj D (.deferred none)).heap[w.heap.size + 1]? = _ := (World.putObj_heap_other (by omega)).trans rf
            have bf2 : Below w.heap.size w (wf.putObj D (.deferred none)) := bf.trans (belowK_b (w := w) (Nat.le_refl _) wf D _ _ (by omega) df rfl rfl)
            have kf := cells_row rf2
            have hfi : ItsF W'.heap.size (wf.putObj D (.deferred none)) (.slice A xs.length c) xs := by
              refine hi.keep (by have := bf2.size; rw [← hwf]; simp [World.putObj]) (fun p h1 h2 => ?_)
              by_cases hpD : p.block = D
              · exfalso; omega
              · rw [World.cell?_of_block (World.putObj_heap_other (by omega)), ← hwf, World.cell?_alloc_lt _ _ _ (by simpa using h2), World.cell?_setCell_other _ _ _ _ (fun e => by subst e; simp at h1; omega), World.cell?_setCell_other _ _ _ _ (fun e => by subst e; simp at h1; omega)]
            refine ⟨by simp, .inl ⟨_, _, rfl, run_takeDeferred df, .tuple #[nodeV lvl A xs.length c, .int .i64 0], ?_, _, rfl, (show NodeP _ (nodeRead l) _ _ by rw [hQ]; exact ⟨A, c, rfl, hfi.mono (by omega)⟩), bf2⟩⟩
            simp [results, Try.results106, go_sem, kf]
        case stop =>
          rintro D c pre W' hD ⟨k, hk, hpre⟩ ⟨⟨it4, pre', x, ip, rfl, rfl, hx, hpp⟩, i4⟩ hK
          rw [hul, ← hpl] at hk
          obtain ⟨xi, xa, A9, n9, c9⟩ := x
          obtain ⟨p, hpm, hp1, hp2⟩ := back_stop hk hpre hx hpp
          have hll : l = p.1.2 := by rw [hseen.out, hp2]
          have hby : Bys W' W'.heap.size (.slice A9 n9 c9) l := by
            obtain ⟨⟨A', c', e'⟩, hb'⟩ := hw4 p hpm
            have h9 : Value.slice A9 n9 c9 = p.2 := by
              have e9 : (A9, n9, c9) = slOf p.2 := hp1
              rw [e'] at e9 ⊢
              simp only [slOf, Prod.mk.injEq] at e9
              rw [e9.1, e9.2.1, e9.2.2]
            rw [h9, hll]
            exact (hb'.below i4).more i4.size
          clear hll hp1 hp2 hpm hx hpp
          replace ip : W'.heap[p9]? = some (.cells #[.slice A9 n9 c9] 26 (0, 0)) := ip

          have x6 : Below w.heap.size w W' := i4
          have hsz6 := x6.size
          have hD6 : D < W'.heap.size := (Array.getElem?_eq_some_iff.1 hK).1
          have hDw : w.heap.size + 1 < D := by simp at hD; omega
          have kp := cells_row ip
          gi_wp2
          go_wp2_with fail
          refine (HR.out _ _ hby).mono ?_
          rintro e w7 ⟨u7, rfl, hu7, hB⟩
          have q7 := row_ext it4 hB
          have d7 : w7.heap[D]? = some (.deferred (some [])) := (hB.block D hD6).trans hK
          have x7 : Below w.heap.size w w7 := Below.trans x6 (Below.mono hB hsz6)
          have s7 : w.heap.size + 1 < w7.heap.size := (Array.getElem?_eq_some_iff.1 q7).1
          have sD7 : D < w7.heap.size := (Array.getElem?_eq_some_iff.1 d7).1
          have k7 := cells_row q7
          have f7 := frozen_row q7
          clear kp HR hby hB
          rcases hQ : nodeRead l with _ | ⟨lvl, xs⟩
          · rw [hQ] at hu7
            obtain ⟨er, hne2, rfl⟩ := hu7
            have hne3 : (er != 0) = true := by rw [bne_iff_ne]; exact hne2
            go_wp2
            generalize hwf : (World.alloc _ _) = wf
            have rf : wf.heap[w.heap.size + 1]? = some (.cells #[.int .i64 0, .slice none 0 0] 107 (0, 0)) := by rw [← hwf]; exact (Below.heap_alloc _ _ _ (by simpa using s7)).trans (row_set (row_set q7 0 _) 1 _)
            have df : wf.heap[D]? = some (.deferred (some [])) := by rw [← hwf]; exact (Below.heap_alloc _ _ _ (by simpa using sD7)).trans ((Below.heap_setCell _ _ _ _ (by simp; omega)).trans ((Below.heap_setCell _ _ _ _ (by simp; omega)).trans d7))
            have bf : Below w.heap.size w wf := by rw [← hwf]; exact Below.alloc (Below.setCell (Below.setCell x7 (p := ⟨w.heap.size + 1, 0, none⟩) (by simp) _) (p := ⟨w.heap.size + 1, 1, none⟩) (by simp) _) (by simp; omega) _
            have rf2 : (wf.putObj D (.deferred none)).heap[w.heap.size + 1]? = _ := (World.putObj_heap_other (by omega)).trans rf
            have bf2 : Below w.heap.size w (wf.putObj D (.deferred none)) := bf.trans (belowK_b (w := w) (Nat.le_refl _) wf D _ _ (by omega) df rfl rfl)
            have kf := cells_row rf2
            refine ⟨by simp, .inl ⟨_, _, rfl, run_takeDeferred df, badNode 8, ?_, _, rfl, (show NodeP _ (nodeRead l) _ _ by rw [hQ]; exact ⟨8, by decide, rfl⟩), bf2⟩⟩
            simp [results, Try.results106, go_sem, kf]
          · rw [hQ] at hu7
            obtain ⟨A, c, rfl, hi⟩ := hu7
            go_wp2
            generalize hwf : (World.alloc _ _) = wf
            have rf : wf.heap[w.heap.size + 1]? = some (.cells #[.int .i64 lvl, .slice A xs.length c] 107 (0, 0)) := by rw [← hwf]; exact (Below.heap_alloc _ _ _ (by simpa using s7)).trans (row_set (row_set q7 0 _) 1 _)
            have df : wf.heap[D]? = some (.deferred (some [])) := by rw [← hwf]; exact (Below.heap_alloc _ _ _ (by simpa using sD7)).trans ((Below.heap_setCell _ _ _ _ (by simp; omega)).trans ((Below.heap_setCell _ _ _ _ (by simp; omega)).trans d7))
            have bf : Below w.heap.size w wf := by rw [← hwf]; exact Below.alloc (Below.setCell (Below.setCell x7 (p := ⟨w.heap.size + 1, 0, none⟩) (by simp) _) (p := ⟨w.heap.size + 1, 1, none⟩) (by simp) _) (by simp; omega) _
            have rf2 : (wf.putObj D (.deferred none)).heap[w.heap.size + 1]? = _ := (World.putObj_heap_other (by omega)).trans rf
            have bf2 : Below w.heap.size w (wf.putObj D (.deferred none)) := bf.trans (belowK_b (w := w) (Nat.le_refl _) wf D _ _ (by omega) df rfl rfl)
            have kf := cells_row rf2
            have hfi : ItsF W'.heap.size (wf.putObj D (.deferred none)) (.slice A xs.length c) xs := by
              refine hi.keep (by have := bf2.size; rw [← hwf]; simp [World.putObj]) (fun p h1 h2 => ?_)
              by_cases hpD : p.block = D
              · exfalso; omega
              · rw [World.cell?_of_block (World.putObj_heap_other (by omega)), ← hwf, World.cell?_alloc_lt _ _ _ (by simpa using h2), World.cell?_setCell_other _ _ _ _ (fun e => by subst e; simp at h1; omega), World.cell?_setCell_other _ _ _ _ (fun e => by subst e; simp at h1; omega)]
            refine ⟨by simp, .inl ⟨_, _, rfl, run_takeDeferred df, .tuple #[nodeV lvl A xs.length c, .int .i64 0], ?_, _, rfl, (show NodeP _ (nodeRead l) _ _ by rw [hQ]; exact ⟨A, c, rfl, hfi.mono (by omega)⟩), bf2⟩⟩
            simp [results, Try.results106, go_sem, kf]
end Go.Proofs.Yteikcgjhcniiiaa
