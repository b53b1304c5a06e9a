/- Texts Make0, NewD, NewP, NewF, CountsW, joined. -/
import Derived.Test.YtlgbjpihmkeopaaP04
import Derived.Test.YtlgbjpihmkeopaaP05
import Derived.Test.YtlgbjpihmkeopaaP13
import Derived.Test.YtlgbjpihmkeopaaP14
import Derived.Test.YtlgbjpihmkeopaaP17
import Derived.Test.YtlgbjpihmkeopaaP19
import Derived.Test.YtlgbjpihmkeopaaP23
/- Contracts: an empty node made on a bench. -/
namespace Go.Proofs.Ytlgbjpihmkeopaa
set_option linter.unusedSimpArgs false
set_option linter.unusedVariables false
open Go.RowKit

set_option maxHeartbeats 4000000 in
set_option maxRecDepth 100000 in
theorem bmake0_any (b lo : Nat) (A1 : Option Addr) (n1 c1 : Nat) (g c3 : Nat) (A4 : Option Addr) (c4 : Nat) (bs : List (List UInt8)) (now last : List UInt8) (hn : now.length = 256) (hl : last.length = 256) (hn8 : now[8]? = some 0) (hl8 : last[8]? = some 0) (w : World) (hlo : lo ≤ b)
    (hr : w.heap[b]? = some (.cells #[.slice A1 n1 c1, .slice none 0 0, .slice (some ⟨g, 0, none⟩) 256 c3, .slice A4 256 c4] 169 (0, 0))) (ho : w.ownsRow lo 5 1 (.slice (some ⟨g, 0, none⟩) 256 c3) 256 (now.map bv)) (hb : Bls w lo (.slice A1 n1 c1) bs) (ha : Bys w lo (.slice A4 256 c4) last) :
    Calls Try.prog 113 #[.pointer (some ⟨b, 0, none⟩), nodeV 0 none 0 0] w (fun e W => e = .returned (.tuple #[.int .i64 8, .int .i64 0]) ∧ Below lo w W ∧ ∃ A2 c2, W.heap[b]? = some (.cells #[.slice A1 n1 c1, .slice A2 1 c2, .slice (some ⟨g, 0, none⟩) 256 c3, .slice A4 256 c4] 169 (0, 0)) ∧
      StoAt W W.heap.size (.slice A1 n1 c1) (.slice A2 1 c2) (.slice (some ⟨g, 0, none⟩) 256 c3) (.slice A4 256 c4) ⟨bs, [(8, sealB (toldOf 0 []))], now.set 8 1, last⟩) := by
  have hkn := (own_cells ho).1 8 (by omega)
  rw [hn8] at hkn
  replace hkn : w.cell? ⟨g, 8, none⟩ = some (.int .u8 0) := hkn
  obtain ⟨_, hfn, hlg, hzg⟩ := own_cells ho
  obtain ⟨A, c, e, hac, _, har⟩ := ha
  rw [hl] at e hac har
  simp only [Value.slice.injEq, true_and] at e
  obtain ⟨rfl, rfl⟩ := e
  obtain ⟨b4, o4, rfl, hb4, hc4⟩ := har.2 (by omega)
  have hk4 : w.cell? ⟨b4, o4 + 8, none⟩ = some (.int .u8 0) := hc4 8 (bv 0) (by rw [List.getElem?_map, hl8]; rfl)
  have zb : b < w.heap.size := (Array.getElem?_eq_some_iff.1 hr).1
  have hW := Lib.hid (fun W => nwrite_any 0 none 0 0 [] W (Its.nil W W.heap.size) (by decide) (fun x hx => by cases hx))
  go_enter Try.func113, Try.ntmps113
  go_wp2_with fail
  generalize hw1 : World.alloc _ _ = w1
  have x1 : Ext w w1 := by rw [← hw1]; exact Ext.alloc _ _
  have p1 : w1.heap[w.heap.size]? = some (.cells #[.int .i64 0, .slice none 0 0] 104 (0, 0)) := by rw [← hw1]; exact World.alloc_heap_at _ _ _ rfl
  clear hw1
  refine (hW.out w1).mono ?_
  rintro e w2 ⟨u, rfl, ⟨u, rfl, ⟨A0, c0, rfl, hu, hf⟩⟩, hB⟩
  have hB : Ext w1 w2 := hB
  have x2 : Ext w w2 := x1.trans hB
  have p2 := row_ext p1 hB
  have r2 := row_ext hr x2
  have o2 := own_ext ho x2
  have kp := cells_row p2
  have kr := cells_row r2
  have fr := frozen_row r2
  have kn : w2.cell? ⟨g, 8, none⟩ = some (.int .u8 0) := Ext.cell x2 hkn
  have z2 := x2.size
  have z1 : w.heap.size < w1.heap.size := (Array.getElem?_eq_some_iff.1 p1).1
  have z4 : b4 < w.heap.size := by have := World.block_lt_of_cell? w _ hk4; exact this
  have kl : w2.cell? ⟨b4, o4 + 8, none⟩ = some (.int .u8 0) := Ext.cell x2 hk4
  clear hB x1 p1 hkn hk4 hc4 hW
  go_wp2_with fail
  go_loopw [21] (fun i wr => i = .int .i64 0 ∧ wr = w2) (fun _ _ => 0)
  case atStart => exact ⟨rfl, rfl⟩
  case round =>
    obtain ⟨rfl, hw⟩ := hrel
    replace hw := hw.symm
    subst hw
    go_wp2_with fail
    go_loopw [4] (fun i W => i = .int .i64 8 ∧ Ext w2 W) (fun _ _ => 0)
    case atStart => exact ⟨rfl, Ext.refl _⟩
    case round =>
      obtain ⟨rfl, hE⟩ := hrel
      have g1 : ∀ W, extRel.r wr W → ∀ i, W.cell? ⟨b, i, none⟩ = #[.slice A1 n1 c1, .slice none 0 0, .slice (some ⟨g, 0, none⟩) 256 c3, .slice (some ⟨b4, o4, none⟩) 256 c4][i]? := fun W h => cells_row (row_ext (row_ext r2 hE) h)
      have g2 : ∀ W, extRel.r wr W → W.cell? ⟨g, 8, none⟩ = some (.int .u8 0) := fun W h => Ext.cell (hE.trans h) kn
      have g3 : ∀ W, extRel.r wr W → W.cell? ⟨b4, o4 + 8, none⟩ = some (.int .u8 0) := fun W h => Ext.cell (hE.trans h) kl
      clear kp kr fr kn kl
      go_wp2_with fail
      refine region_start (by kernel_rfl) ?_
      refine any_freeT (w := wr) extRel (outsAt []) [true, true, true, true, true, true, true, true, true, true, true, true, true, true, true, true, true, true, true, true, true, true] 0 (by kernel_rfl) (by kernel_rfl) (by kernel_rfl) (by kernel_rfl) (by kernel_rfl) (by kernel_rfl) (by kernel_rfl) ?st (Rel.drew _ _) ?walk
      case st => exact outsAt_stableG (fun _ h => by cases h)
      case walk =>
        intro K hK
        dsimp only [maskOps]
        repeat ((first | (refine free_plainM ?_ (by rfl) (by rfl) (fun W hW _ => ⟨W, ?_, Rel.refl _ W⟩) ?_; rotate_left; (first | (go_simp; with_reducible rfl) | (go_simp; done))) | (refine free_skipM (by rfl) ?_)); try simp only [Act.put, one_f, outB_f, outNew_f, outI_f, outMk_f, List.setIfInBounds_toArray, List.set_cons_zero, List.set_cons_succ])
        refine free_nilM (hK _ _ fun W hW hF => ?_)
        have hW : Ext wr W := hW
        have x3 : Ext w2 W := hE.trans hW
        clear hF hK g1 g2 g3 hE hW
        dsimp only [List.drop, List.length_cons, List.length_nil]
        have r3 := row_ext r2 x3
        have o3 := own_ext o2 x3
        have kr := cells_row r3
        have fr := frozen_row r3
        obtain ⟨i0, hi, hz0, hz1, hz2⟩ := info_parts Try.info_write
        have z3 := x3.size
        have hu3 := (hu.below x3).more x3.size
        have xw3 : Ext w W := x2.trans x3
        have x2z := x2.size
        clear r2 o2 x2 x3 hu p2
        replace o3 := Lib.hid o3
        replace hu3 := Lib.hid hu3
        go_wp2
        refine QN_in ?_
        go_wp2_with (at_builtin; refine wpList_stop ?_)
        refine Stopped.go (wpList_push _ rfl (.tmp 78) (.tmp 82) 23 rfl W.heap.size 137 i0 (.agg #[.int .i64 0, .slice none 0 0]) 2 32 Try.underlying23 hi hz0 hz1 hz2 rfl (by decide) _ 0 [] rfl (World.ownsRow_nil _ _ _ _) #[.int .i64 8, .slice A0 128 c0] rfl rfl (by simp [Value.oneCell']) (by omega) (by decide) (Nat.le_refl _) ?_)
        intro v4 w4 own4 _ hB4 _
        have hB4 : Ext W w4 := hB4
        simp only [Nat.zero_add, List.nil_append] at own4
        obtain ⟨A2, c2, rfl, hc21, hc22⟩ := own_slice own4
        have r4 := row_ext r3 hB4
        have kr4 := cells_row r4
        have fr4 := frozen_row r4
        have o4' := own_ext o3.out hB4
        have z5 := hB4.size
        have kg := (own_cells o4').1 8 (by omega)
        have fg := (own_cells o4').2.1 8
        have hlt := own_lt own4
        have hbg : g ≠ b := by
          intro e
          subst e
          obtain ⟨_, h2⟩ := o4'
          rcases h2 with ⟨e, _⟩ | ⟨g', cap, cur, e, _, hr', _⟩
          · cases e
          · cases e
            exact ne_of_row hr' r4 (by decide) rfl
        have z6 : b < w2.heap.size := by have := x2z; omega
        replace own4 := Lib.hid own4
        replace o4' := Lib.hid o4'
        have hf1 := hf.mono (lo' := w.heap.size) (by omega)
        clear r3 kr fr hc21 hc22
        go_wp2_with fail
        have st : ∀ q, q ≠ b → q ≠ g → ((w4.setCell ⟨b, 1, none⟩ (.slice A2 1 c2)).setCell ⟨g, 8, none⟩ (.int .u8 1)).heap[q]? = w4.heap[q]? := fun q h1 h2 => (Below.heap_setCell _ _ _ _ h2).trans (Below.heap_setCell _ _ _ _ h1)
        have xw4 : Ext w w4 := xw3.trans hB4
        have hB : Below lo w ((w4.setCell ⟨b, 1, none⟩ (.slice A2 1 c2)).setCell ⟨g, 8, none⟩ (.int .u8 1)) := Below.setCell (Below.setCell (Below.mono xw4 (by omega)) (p := ⟨b, 1, none⟩) hlo _) (p := ⟨g, 8, none⟩) hlg _
        have rf := row_set r4 1 (.slice A2 1 c2)
        have rf2 := (Below.heap_setCell (w4.setCell ⟨b, 1, none⟩ (.slice A2 1 c2)) ⟨g, 8, none⟩ (.int .u8 1) b (fun e => hbg e.symm)).trans rf
        have of4 := own_set (own_ext' (k := 1) (v := .slice A2 1 c2) o4'.out hbg) (k := 8) (by omega) 1
        have hz : ((w4.setCell ⟨b, 1, none⟩ (.slice A2 1 c2)).setCell ⟨g, 8, none⟩ (.int .u8 1)).heap.size = w4.heap.size := by simp
        have hlt2 := hlt
        have ow := own_keep (w' := (w4.setCell ⟨b, 1, none⟩ (.slice A2 1 c2)).setCell ⟨g, 8, none⟩ (.int .u8 1)) own4.out (fun q h1 _ => st q (by omega) (by omega))
        have hu4 : Bys ((w4.setCell ⟨b, 1, none⟩ (.slice A2 1 c2)).setCell ⟨g, 8, none⟩ (.int .u8 1)) w4.heap.size (.slice A0 128 c0) (sealB (toldOf 0 [])) := (((hu3.out.below hB4).more hB4.size).setCell hf1 (p := ⟨b, 1, none⟩) zb _).setCell hf1 (p := ⟨g, 8, none⟩) hzg _
        have hsl : (sealB (toldOf 0 [])).length = 128 := sealB_len (by decide)
        refine bodyPost_ret (v := .tuple #[.int .i64 8, .int .i64 0]) (by simp [results, Try.results113, go_sem]) rfl ⟨rfl, hB, A2, c2, rf2, ⟨?_, ?_, ?_, ?_⟩⟩
        · exact (hb.below hB).more (by omega)
        · rw [hz]
          refine ⟨[((8, sealB (toldOf 0 [])), .slice A0 128 c0)], rfl, ?_, ?_⟩
          · obtain ⟨A', c', e, q1, q2⟩ := own_slice ow
            cases e
            exact ⟨A2, c2, rfl, q1, q2, by have := Rd.of_own ow; rw [hz] at this; exact this⟩
          · intro p hp
            simp only [List.mem_singleton] at hp
            subst hp
            exact ⟨⟨A0, c0, by rw [hsl]⟩, hu4⟩
        · exact Bys.of_own of4
        · have e1 : Bys w lo (.slice (some ⟨b4, o4, none⟩) 256 c4) last := ⟨_, c4, by rw [hl], by omega, by assumption, by rw [hl]; exact har⟩
          exact (e1.below hB).more (by omega)
end Go.Proofs.Ytlgbjpihmkeopaa
/- Contracts: a new disk, a new table, a new store. -/
namespace Go.Proofs.Ytlgbjpihmkeopaa
set_option linter.unusedSimpArgs false
set_option linter.unusedVariables false
open Go.RowKit

def zeroB (n : Nat) : List UInt8 := List.replicate n 0
theorem zeroB_len (n : Nat) : (zeroB n).length = n := by simp [zeroB]
theorem zeroB_made (n : Nat) : madeCells #[.int .u8 0] n = ((zeroB n).map bv).toArray := by
  apply Array.ext_getElem?
  intro i
  unfold madeCells zeroB
  rw [Array.getElem?_map, Array.getElem?_range, List.getElem?_toArray, List.getElem?_map, List.getElem?_replicate]
  by_cases h : i < n
  · rw [if_pos h, if_pos h]
    simp [Nat.mod_one, bv]
  · rw [if_neg h, if_neg h]
    rfl
theorem run_mkB {n : Nat} (hn : n < 1000000) (w : World) : (Instr.makeSlice 26 (.int .i64 (n : Int)) (.int .i64 (n : Int))).run Try.prog w = .ok (.slice (some ⟨w.heap.size, 0, none⟩) n n) (w.alloc (.cells ((zeroB n).map bv).toArray 5)) := by
  obtain ⟨i0, hi, hz0, hz1, hz2⟩ := info_parts Try.info_u8
  have h := run_make (P := Try.prog) w 26 5 i0 _ Try.underlying26 hi hz0 .i64 .i64 (n : Int) (n : Int) (by omega) (by omega) (by rw [hz2]; omega) (by omega)
  rw [hz1, Int.toNat_natCast, Nat.mul_one] at h
  rw [← zeroB_made]
  exact h
theorem cnew_any (w : World) : Calls Try.prog 88 #[] w (RetS (fun u W => u = .slice (some ⟨w.heap.size, 0, none⟩) 256 256 ∧ W.heap[w.heap.size]? = some (.cells ((zeroB 256).map bv).toArray 5 (0, 0))) w) := by
  have hmk : ∀ w, (Instr.makeSlice 26 (.int .i64 256) (.int .i64 256)).run Try.prog w = .ok (.slice (some ⟨w.heap.size, 0, none⟩) 256 256) (w.alloc (.cells ((zeroB 256).map bv).toArray 5)) := fun w => run_mkB (n := 256) (by omega) w
  go_enter Try.func88, Try.ntmps88
  go_wp2
  go_ret
  exact ⟨_, rfl, ⟨rfl, World.alloc_heap_at _ _ _ rfl⟩, Ext.alloc _ _⟩
structure NewI (w2 : World) (BB : Nat) (i : Value) (wr : World) : Prop where
  ex : ∃ (k : Nat) (cs : Array Value), k ≤ 256 ∧ i = .int .i64 (k : Int) ∧ Below BB w2 wr ∧ BB < wr.heap.size ∧ wr.heap[BB]? = some (.cells cs 26 (0, 0)) ∧ cs.size = 256 ∧
    wr.heap[BB + 1]? = some (.cells #[.slice (some ⟨BB, 0, none⟩) 256 256, .slice none 0 0] 25 (0, 0)) ∧ ∀ i, i < k → ∃ b, cs[i]? = some (.slice (some ⟨b, 0, none⟩) 128 128) ∧ BB < b ∧ wr.heap[b]? = some (.cells ((zeroB 128).map bv).toArray 5 (0, 0))
def newBs : List (List UInt8) := List.replicate 256 (zeroB 128)

set_option maxHeartbeats 2000000 in
set_option maxRecDepth 100000 in
theorem dnew_any (w : World) : Calls Try.prog 87 #[] w (RetS (fun u W => ∃ BB, u = diskV (some ⟨BB, 0, none⟩) 256 256 none 0 0 ∧ ∀ W2 : World, (∀ q : Addr, w.heap.size ≤ q.block → q.block < W.heap.size → W2.cell? q = W.cell? q) → Bls W2 W.heap.size (.slice (some ⟨BB, 0, none⟩) 256 256) newBs) w) := by
  have hmk : ∀ w, (Instr.makeSlice 26 (.int .i64 128) (.int .i64 128)).run Try.prog w = .ok (.slice (some ⟨w.heap.size, 0, none⟩) 128 128) (w.alloc (.cells ((zeroB 128).map bv).toArray 5)) := fun w => run_mkB (n := 128) (by omega) w
  have hmk2 : ∀ w, (Instr.makeSlice 22 (.int .i64 256) (.int .i64 256)).run Try.prog w = .ok (.slice (some ⟨w.heap.size, 0, none⟩) 256 256) (w.alloc (.cells (madeCells #[.slice none 0 0] 256) 26)) := fun w => run_mkBlocks (n := 256) (by omega) w
  go_enter Try.func87, Try.ntmps87
  go_wp2_with fail
  generalize hw2 : (World.alloc (World.alloc (World.alloc _ _) _) _) = w2
  have x2 : Ext w w2 := by rw [← hw2]; exact ((Ext.alloc _ _).trans (Ext.alloc _ _)).trans (Ext.alloc _ _)
  have q2 : w2.heap[w.heap.size]? = some (.cells #[.slice none 0 0, .slice none 0 0] 25 (0, 0)) := by rw [← hw2]; exact (Below.heap_alloc _ _ _ (by simp; omega)).trans ((Below.heap_alloc _ _ _ (by simp)).trans (World.alloc_heap_at _ _ _ rfl))
  have b2 : w2.heap[w.heap.size + 1]? = some (.cells (madeCells #[.slice none 0 0] 256) 26 (0, 0)) := by rw [← hw2]; exact (Below.heap_alloc _ _ _ (by simp)).trans (World.alloc_heap_at _ _ _ (by simp))
  have d2 : w2.heap[w.heap.size + 1 + 1]? = some (.cells #[.slice (some ⟨w.heap.size + 1, 0, none⟩) 256 256, .slice none 0 0] 25 (0, 0)) := by rw [← hw2]; exact World.alloc_heap_at _ _ _ (by simp)
  have I0 : NewI w2 (w.heap.size + 1) (.int .i64 0) w2 := ⟨0, _, by omega, rfl, Below.refl _ _, (Array.getElem?_eq_some_iff.1 b2).1, b2, size_madeCells _ _, d2, fun i hi => by omega⟩
  have kd := cells_row d2
  replace I0 := Lib.hid I0
  clear hw2 hmk2 b2 d2
  go_wp2_with fail
  go_loopw [8] (fun i wr => NewI w2 (w.heap.size + 1) i wr) (fun i _ => 256 - (intOf i).toNat)
  case atStart => exact I0.out
  case round =>
    obtain ⟨k, cs, hk, rfl, hE, hz, hrow, hsz, hd, hcs⟩ := hrel.ex
    clear hrel I0 kd
    have xw : Below w.heap.size w wr := Below.trans x2 (Below.mono hE (by omega))
    by_cases hlt : k < 256
    · have hlt' := hlt
      have g1 : ∀ W, extRel.r wr W → ∀ i, W.cell? ⟨w.heap.size + 1 + 1, i, none⟩ = #[.slice (some ⟨w.heap.size + 1, 0, none⟩) 256 256, .slice none 0 0][i]? := fun W h => cells_row (row_ext hd h)
      have hwk := Lib.hid (IntWalk.wrap64_in ((k : Int) + 1) (by omega))
      have hEh := Lib.hid hE
      have hcsh := Lib.hid hcs
      have hrowh := Lib.hid hrow
      have hdh := Lib.hid hd
      clear hE hcs hrow hd
      go_wp2_with fail
      refine region_start (by kernel_rfl) ?_
      refine any_freeT (w := wr) extRel (outsAt [(3, outMk wr.heap.size 128 128 5 ((zeroB 128).map bv).toArray)]) [true, true, true, true, true] 1 (by kernel_rfl) (by kernel_rfl) (by kernel_rfl) (by kernel_rfl) (by kernel_rfl) (by kernel_rfl) (by kernel_rfl) ?st (Rel.drew _ _) ?walk
      case st => exact outsAt_stableG (by simp only [List.forall_mem_cons]; exact ⟨outMk_stable _ _ _ _ _, fun _ h => by cases h⟩)
      case walk =>
        intro K hK
        dsimp only [maskOps]
        repeat ((first | (refine free_plainM ?_ (by rfl) (by rfl) (fun W hW _ => ⟨W, ?_, Rel.refl _ W⟩) ?_; rotate_left; (first | (go_simp; with_reducible rfl) | (go_simp; done))) | (refine free_skipM (by rfl) ?_)); try simp only [Act.put, one_f, outB_f, outNew_f, outI_f, outMk_f, List.setIfInBounds_toArray, List.set_cons_zero, List.set_cons_succ])
        refine free_hardM (outMk wr.heap.size 128 128 5 ((zeroB 128).map bv).toArray) (by rfl) (by rfl) (fun W hW _ => ?_) (fun (b : Nat) => ?_)
        · have hW : Ext wr W := hW
          refine hardAt_valueG (u := .slice (some ⟨W.heap.size, 0, none⟩) 128 128) (w' := W.alloc (.cells ((zeroB 128).map bv).toArray 5)) ?_ ⟨W.heap.size, rfl, ⟨World.alloc_heap_at _ _ _ rfl, hW.size⟩, Ext.alloc _ _⟩
          go_simp
        simp only [Act.put, one_f, outB_f, outNew_f, outI_f, outMk_f, List.setIfInBounds_toArray, List.set_cons_zero, List.set_cons_succ]
        repeat ((first | (refine free_plainM ?_ (by rfl) (by rfl) (fun W hW _ => ⟨W, ?_, Rel.refl _ W⟩) ?_; rotate_left; (first | (go_simp; with_reducible rfl) | (go_simp; done))) | (refine free_skipM (by rfl) ?_)); try simp only [Act.put, one_f, outB_f, outNew_f, outI_f, outMk_f, List.setIfInBounds_toArray, List.set_cons_zero, List.set_cons_succ])
        first
          | (refine free_plainM (.pointer (some ⟨w.heap.size + 1, 0 + k, none⟩)) (by rfl) (by rfl) (fun W hW _ => ⟨W, ?_, Rel.refl _ W⟩) ?_
             · go_simp
               rw [IntWalk.i64_in (k : Int) (by omega), if_pos (by omega)]
               simp
             simp only [Act.put, one_f, outB_f, outNew_f, outI_f, outMk_f, List.setIfInBounds_toArray, List.set_cons_zero, List.set_cons_succ])
          | skip
        repeat ((first | (refine free_plainM ?_ (by rfl) (by rfl) (fun W hW _ => ⟨W, ?_, Rel.refl _ W⟩) ?_; rotate_left; (first | (go_simp; with_reducible rfl) | (go_simp; done))) | (refine free_skipM (by rfl) ?_)); try simp only [Act.put, one_f, outB_f, outNew_f, outI_f, outMk_f, List.setIfInBounds_toArray, List.set_cons_zero, List.set_cons_succ])
        refine free_nilM (hK _ _ fun W hW hF => ?_)
        have hb : W.heap[b]? = some (.cells ((zeroB 128).map bv).toArray 5 (0, 0)) ∧ wr.heap.size ≤ b := (hF 3).1
        have hW : Ext wr W := hW
        clear hF hK g1 hmk
        dsimp only [List.drop, List.length_cons, List.length_nil]
        have rB := row_ext hrowh.out hW
        have kB := cells_row rB k
        have fB := frozen_row rB k
        rw [Array.getElem?_eq_getElem (by omega)] at kB
        have IR : NewI w2 (w.heap.size + 1) (.int .i64 ((k : Int) + 1)) (W.setCell ⟨w.heap.size + 1, k, none⟩ (.slice (some ⟨b, 0, none⟩) 128 128)) := ⟨k + 1, _, by omega, rfl, Below.setCell (Below.trans hEh.out (Below.mono hW (by omega))) (p := ⟨w.heap.size + 1, k, none⟩) (Nat.le_refl _) _, by have := hW.size; simp; omega, row_set rB k _, by simpa using hsz,
          (Below.heap_setCell _ _ _ _ (by show _ ≠ w.heap.size + 1; omega)).trans (row_ext hdh.out hW), fun i hi => by
            rw [Array.getElem?_setIfInBounds]
            by_cases e : k = i
            · subst e
              rw [if_pos rfl, if_pos (by omega)]
              exact ⟨b, rfl, by omega, (Below.heap_setCell _ _ _ _ (by show _ ≠ w.heap.size + 1; omega)).trans hb.1⟩
            · rw [if_neg e]
              obtain ⟨b', e1, e2, e3⟩ := hcsh.out i (by omega)
              exact ⟨b', e1, e2, (Below.heap_setCell _ _ _ _ (by show _ ≠ w.heap.size + 1; omega)).trans (row_ext e3 hW)⟩⟩
        replace IR := Lib.hid IR
        generalize cs[k] = u0 at *
        clear hb hW rB
        go_wp2
        refine QN_in ?_
        go_wp2_with fail
        try rw [hwk.out]
        refine ⟨IR.out, ?_⟩
        simp [intOf]
        omega
    · obtain rfl : k = 256 := by omega
      have qq := (hE.block w.heap.size (by omega)).trans q2
      have kq := cells_row qq
      have fq := frozen_row qq
      have kd := cells_row hd
      have rf := row_set (row_set qq 0 (.slice (some ⟨w.heap.size + 1, 0, none⟩) 256 256)) 1 (.slice none 0 0)
      have kf := cells_row rf
      have bf : Below w.heap.size w ((wr.setCell ⟨w.heap.size, 0, none⟩ (.slice (some ⟨w.heap.size + 1, 0, none⟩) 256 256)).setCell ⟨w.heap.size, 1, none⟩ (.slice none 0 0)) := Below.setCell (Below.setCell xw (p := ⟨w.heap.size, 0, none⟩) (Nat.le_refl _) _) (p := ⟨w.heap.size, 1, none⟩) (Nat.le_refl _) _
      have DF : ∀ W2 : World, (∀ q : Addr, w.heap.size ≤ q.block → q.block < ((wr.setCell ⟨w.heap.size, 0, none⟩ (.slice (some ⟨w.heap.size + 1, 0, none⟩) 256 256)).setCell ⟨w.heap.size, 1, none⟩ (.slice none 0 0)).heap.size → W2.cell? q = ((wr.setCell ⟨w.heap.size, 0, none⟩ (.slice (some ⟨w.heap.size + 1, 0, none⟩) 256 256)).setCell ⟨w.heap.size, 1, none⟩ (.slice none 0 0)).cell? q) → Bls W2 ((wr.setCell ⟨w.heap.size, 0, none⟩ (.slice (some ⟨w.heap.size + 1, 0, none⟩) 256 256)).setCell ⟨w.heap.size, 1, none⟩ (.slice none 0 0)).heap.size (.slice (some ⟨w.heap.size + 1, 0, none⟩) 256 256) newBs := by
        have st : ∀ b, b ≠ w.heap.size → ((wr.setCell ⟨w.heap.size, 0, none⟩ (.slice (some ⟨w.heap.size + 1, 0, none⟩) 256 256)).setCell ⟨w.heap.size, 1, none⟩ (.slice none 0 0)).heap[b]? = wr.heap[b]? := fun b hb => (Below.heap_setCell _ _ _ _ hb).trans (Below.heap_setCell _ _ _ _ hb)
        generalize World.setCell (World.setCell wr _ _) _ _ = wf at *
        intro W2 hk
        have rB := (st (w.heap.size + 1) (by omega)).trans hrow
        have zB := (Array.getElem?_eq_some_iff.1 rB).1
        refine ⟨cs.toList, some ⟨w.heap.size + 1, 0, none⟩, 256, by simp [newBs], by simp [newBs], by unfold maxLen; omega, ⟨by simp [newBs, hsz], fun _ => ⟨w.heap.size + 1, 0, rfl, zB, fun j u hu => ?_⟩⟩, fun i u l hu hl => ?_⟩
        · rw [hk ⟨w.heap.size + 1, 0 + j, none⟩ (by show w.heap.size ≤ w.heap.size + 1; omega) zB, Nat.zero_add, cells_row rB]
          simpa using hu
        have hi : i < 256 := by
          have := (List.getElem?_eq_some_iff.1 hl).1
          simpa [newBs] using this
        have e0 : cs.toList[i]? = cs[i]? := by simp
        obtain ⟨b, e1, e2, e3⟩ := hcs i hi
        rw [e0, e1] at hu
        cases hu
        have hl2 : l = zeroB 128 := by
          have : newBs[i]? = some (zeroB 128) := by unfold newBs; rw [List.getElem?_replicate, if_pos hi]
          rw [this] at hl
          cases hl
          rfl
        subst hl2
        have e4 := (st b (by omega)).trans e3
        have zb := (Array.getElem?_eq_some_iff.1 e4).1
        refine ⟨_, 128, by rw [zeroB_len], by rw [zeroB_len]; omega, by unfold maxLen; omega, by simp, fun _ => ⟨b, 0, rfl, zb, fun j u hu => ?_⟩⟩
        rw [hk ⟨b, 0 + j, none⟩ (by show w.heap.size ≤ b; omega) zb, Nat.zero_add, cells_row e4]
        simpa using hu
      replace kf := Lib.hid kf
      replace bf := Lib.hid bf
      replace DF := Lib.hid DF
      clear rf hE hrow hcs hd
      go_wp2
      have kf := kf.out
      exact bodyPost_ret (v := diskV (some ⟨w.heap.size + 1, 0, none⟩) 256 256 none 0 0) (by simp [results, Try.results87, go_sem, kf]) rfl ⟨_, rfl, ⟨w.heap.size + 1, rfl, DF.out⟩, bf.out⟩
end Go.Proofs.Ytlgbjpihmkeopaa
/- Contracts: a new store, a new tree, a new pool. -/
namespace Go.Proofs.Ytlgbjpihmkeopaa
set_option linter.unusedSimpArgs false
set_option linter.unusedVariables false
open Go.RowKit

def newS : Sto := ⟨newBs, [], zeroB 256, zeroB 256⟩
def emptyS : Sto := ⟨newBs, [(8, sealB (toldOf 0 []))], (zeroB 256).set 8 1, zeroB 256⟩
theorem newS_may : storeMay newS = true := by decide +kernel
theorem Wrs.nil (w : World) (B : Nat) : Wrs w B (.slice none 0 0) [] := ⟨[], rfl, ⟨none, 0, rfl, Nat.le_refl _, by simp [maxLen], Rd.none_⟩, fun p h => by cases h⟩
set_option maxRecDepth 100000 in
theorem emptyS_short : Short emptyS := by
  have h1 : newBs.length = 256 := by unfold newBs; rw [List.length_replicate]
  have h2 : ∀ l ∈ newBs, l.length < 1000000 := fun l hl => by
    unfold newBs at hl
    rw [List.mem_replicate] at hl
    rw [hl.2, zeroB_len]
    omega
  have h3 : (sealB (toldOf 0 [])).length = 128 := sealB_len (by decide)
  refine ⟨by show newBs.length < _; omega, by show 1 < 1000000; omega, h2, fun p hp => ?_, by show ((zeroB 256).set 8 1).length < _; rw [List.length_set, zeroB_len]; omega, by show (zeroB 256).length < _; rw [zeroB_len]; omega⟩
  have : p = (8, sealB (toldOf 0 [])) := by simpa [emptyS] using hp
  rw [this]
  show (sealB (toldOf 0 [])).length < _
  omega

set_option maxHeartbeats 1000000 in
set_option maxRecDepth 100000 in
theorem rnew_any (w : World) : Calls Try.prog 55 #[] w (RetS (fun u W => ∃ B n1 n2, u = storeV (some ⟨B, 0, none⟩) 256 256 none 0 0 (some ⟨n1, 0, none⟩) 256 256 (some ⟨n2, 0, none⟩) 256 256 ∧ StoAt W W.heap.size (.slice (some ⟨B, 0, none⟩) 256 256) (.slice none 0 0) (.slice (some ⟨n1, 0, none⟩) 256 256) (.slice (some ⟨n2, 0, none⟩) 256 256) newS) w) := by
  go_enter Try.func55, Try.ntmps55
  go_wp2_with fail
  generalize hw1 : World.alloc _ _ = w1
  have x1 : Ext w w1 := by rw [← hw1]; exact Ext.alloc _ _
  have q1 : w1.heap[w.heap.size]? = some (.cells #[.slice none 0 0, .slice none 0 0, .slice none 0 0, .slice none 0 0] 28 (0, 0)) := by rw [← hw1]; exact World.alloc_heap_at _ _ _ (by simp)
  have z0 : w1.heap.size = w.heap.size + 1 := by rw [← hw1]; simp
  clear hw1
  refine (dnew_any w1).mono ?_
  rintro e w2 ⟨u, rfl, ⟨B, rfl, hbs⟩, hB⟩
  have hB : Ext w1 w2 := hB
  have x2 := x1.trans hB
  have q2 := row_ext q1 hB
  have hx12 := hB
  clear q1 hB x1
  go_wp2_with fail
  refine (cnew_any w2).mono ?_
  rintro e w3 ⟨u, rfl, ⟨rfl, hn1⟩, hB⟩
  have hB3 : Ext w2 w3 := hB
  have x3 := x2.trans hB3
  have q3 := row_ext q2 hB3
  clear q2 hB
  go_wp2_with fail
  refine (cnew_any w3).mono ?_
  rintro e w4 ⟨u, rfl, ⟨rfl, hn2⟩, hB⟩
  have hB4 : Ext w3 w4 := hB
  have x4 := x3.trans hB4
  have q4 := row_ext q3 hB4
  have hn14 := row_ext hn1 hB4
  have kq := cells_row q4
  have fq := frozen_row q4
  have zq := (Array.getElem?_eq_some_iff.1 q4).1
  have z2 := x2.size
  have z3 := x3.size
  have z1 : w1.heap.size = w.heap.size + 1 := z0
  have z23 := hB3.size
  have z34 := hB4.size
  have z2' := hx12.size
  have P5 : ∀ wx : World, wx = setAll w4 w.heap.size 0 [.slice (some ⟨B, 0, none⟩) 256 256, .slice none 0 0, .slice (some ⟨w2.heap.size, 0, none⟩) 256 256, .slice (some ⟨w3.heap.size, 0, none⟩) 256 256] →
      wx.heap[w.heap.size]? = some (.cells #[.slice (some ⟨B, 0, none⟩) 256 256, .slice none 0 0, .slice (some ⟨w2.heap.size, 0, none⟩) 256 256, .slice (some ⟨w3.heap.size, 0, none⟩) 256 256] 28 (0, 0)) ∧ Below w.heap.size w wx ∧
        StoAt wx wx.heap.size (.slice (some ⟨B, 0, none⟩) 256 256) (.slice none 0 0) (.slice (some ⟨w2.heap.size, 0, none⟩) 256 256) (.slice (some ⟨w3.heap.size, 0, none⟩) 256 256) newS := fun wx e => by
    have hk : ∀ b, b ≠ w.heap.size → wx.heap[b]? = w4.heap[b]? := fun b h1 => by rw [e]; exact setAll_other h1 _ _ _
    have hs : wx.heap.size = w4.heap.size := by rw [e, setAll_size]
    have h1 := Bys.lit ((hk _ (by omega)).trans hn14) (by rw [zeroB_len]; unfold maxLen; omega)
    have h2 := Bys.lit ((hk _ (by omega)).trans hn2) (by rw [zeroB_len]; unfold maxLen; omega)
    rw [zeroB_len] at h1 h2
    refine ⟨by rw [e]; refine (setAll_row _ _ _ _ q4).trans ?_; simp [setIfs], by rw [e]; exact setAll_below (Nat.le_refl _) _ _ _ x4, ?_, Wrs.nil _ _, h1, h2⟩
    refine (hbs wx fun q h1 h2 => ?_).more (by omega)
    refine (World.cell?_of_block (hk q.block (by omega))).trans ((World.cell?_of_block (hB4.block q.block (by omega))).trans (World.cell?_of_block (hB3.block q.block h2)))
  replace P5 := Lib.hid P5
  clear hbs hn1 hn2 hn14 q4 q3
  go_wp2_with fail
  have P5 := P5.out
  generalize hw5 : World.setCell (World.setCell (World.setCell (World.setCell w4 _ _) _ _) _ _) _ _ = w5
  obtain ⟨r5, x5, h5⟩ := P5 w5 hw5.symm
  clear P5 hw5
  have k5 := cells_row r5
  exact bodyPost_ret (v := storeV (some ⟨B, 0, none⟩) 256 256 none 0 0 (some ⟨w2.heap.size, 0, none⟩) 256 256 (some ⟨w3.heap.size, 0, none⟩) 256 256) (by simp [results, Try.results55, go_sem, k5]) rfl ⟨_, rfl, ⟨B, _, _, rfl, h5⟩, x5⟩
end Go.Proofs.Ytlgbjpihmkeopaa
/- Contracts: a new tree, a new pool. -/
namespace Go.Proofs.Ytlgbjpihmkeopaa
set_option linter.unusedSimpArgs false
set_option linter.unusedVariables false
open Go.RowKit

set_option maxHeartbeats 2000000 in
set_option maxRecDepth 100000 in
theorem dmake0_any (A1 : Option Addr) (c1 : Nat) (A3 : Option Addr) (c3 : Nat) (A4 : Option Addr) (c4 : Nat) (w : World) (h : StoAt w w.heap.size (.slice A1 256 c1) (.slice none 0 0) (.slice A3 256 c3) (.slice A4 256 c4) newS) :
    Calls Try.prog 86 #[storeV A1 256 c1 none 0 0 A3 256 c3 A4 256 c4, nodeV 0 none 0 0] w (RetS (fun u W => ∃ v, u = .tuple #[v, .int .i64 8, .int .i64 0] ∧ TwinT w.heap.size emptyS v W) w) := by
  have HC := Lib.hid (fun W (hW : Ext w W) => rcheck_any A1 256 c1 none 0 0 A3 256 c3 A4 256 c4 newS W (h.ext hW))
  rw [newS_may, show errOf true = 0 from rfl] at HC
  have HN := Lib.hid (fun W => ncheck_all 0 none 0 0 [] W (Its.nil W W.heap.size))
  rw [show nodeMay 0 [] = true from rfl, show errOf true = 0 from rfl] at HN
  have HO := Lib.hid (fun W (hW : Ext w W) => on_own A1 256 c1 none 0 0 A3 256 c3 A4 256 c4 newS (by show (zeroB 256).length < _; rw [zeroB_len]; omega) W (h.ext hW))
  replace h := Lib.hid h
  go_enter Try.func86, Try.ntmps86
  go_wp2_with fail
  generalize hw1 : World.alloc (World.alloc (World.alloc _ _) _) _ = w1
  have x1 : Ext w w1 := by rw [← hw1]; exact ((Ext.alloc _ _).trans (Ext.alloc _ _)).trans (Ext.alloc _ _)
  have r1 : w1.heap[w.heap.size]? = some (.cells #[.slice A1 256 c1, .slice none 0 0, .slice A3 256 c3, .slice A4 256 c4] 28 (0, 0)) := by rw [← hw1]; exact (Below.heap_alloc _ _ _ (by simp; omega)).trans ((Below.heap_alloc _ _ _ (by simp)).trans (World.alloc_heap_at _ _ _ rfl))
  have p1 : w1.heap[w.heap.size + 1]? = some (.cells #[.int .i64 0, .slice none 0 0] 104 (0, 0)) := by rw [← hw1]; exact (Below.heap_alloc _ _ _ (by simp)).trans (World.alloc_heap_at _ _ _ (by simp))
  have q1 : w1.heap[w.heap.size + 1 + 1]? = some (.cells #[.slice none 0 0, .slice none 0 0, .slice none 0 0, .slice none 0 0] 28 (0, 0)) := by rw [← hw1]; exact World.alloc_heap_at _ _ _ (by simp)
  clear hw1
  refine (HC.out w1 x1).mono ?_
  rintro e w2 ⟨rfl, hB⟩
  have x2 : Ext w w2 := x1.trans hB
  have r2 := row_ext r1 hB
  have p2 := row_ext p1 hB
  have q2 := row_ext q1 hB
  have kp := cells_row p2
  clear r1 p1 q1 x1 hB HC
  go_wp2_with fail
  refine (HN.out w2).mono ?_
  rintro e w3 ⟨rfl, hB⟩
  have x3 : Ext w w3 := x2.trans hB
  have r3 := row_ext r2 hB
  have p3 := row_ext p2 hB
  have q3 := row_ext q2 hB
  have kr := cells_row r3
  clear r2 p2 q2 x2 hB HN kp
  go_wp2_with fail
  refine (HO.out w3 x3).mono ?_
  rintro e w4 ⟨u, rfl, ⟨b, B3, d3, rfl, hlo, hrow, hown⟩, hB⟩
  have hB4 : Ext w3 w4 := hB
  have x4 : Ext w w4 := x3.trans hB4
  have p4 := row_ext p3 hB4
  have q4 := row_ext q3 hB4
  have kp := cells_row p4
  have z3 := x3.size
  obtain ⟨g, rfl⟩ : ∃ g, B3 = some ⟨g, 0, none⟩ := by
    obtain ⟨h1, h2⟩ := hown
    rcases h2 with ⟨_, h0⟩ | ⟨g, _, _, e, _⟩
    · cases h0
    · cases e; exact ⟨g, rfl⟩
  have hb4 : Bls w4 w3.heap.size (.slice A1 256 c1) newBs := (h.out.bs.below x4).more z3
  have q3z := q3
  have ha4 : Bys w4 w3.heap.size (.slice A4 256 c4) (zeroB 256) := (h.out.last.below x4).more z3
  have HM := bmake0_any b w3.heap.size A1 256 c1 g d3 A4 c4 newBs (zeroB 256) (zeroB 256) (zeroB_len _) (zeroB_len _) (by decide) (by decide) w4 hlo hrow hown hb4 ha4
  replace HM := Lib.hid HM
  clear r3 p3 q3 hB kr hb4 ha4 hown hrow HO
  go_wp2_with fail
  refine HM.out.mono ?_
  rintro e w5 ⟨rfl, hB5, A2, c2, hrow5, hS5⟩
  have x5 : Below w.heap.size w w5 := Below.trans x4 (Below.mono hB5 z3)
  have z34 := hB4.size
  have zq := (Array.getElem?_eq_some_iff.1 q3z).1
  have q5 := (hB5.block (w.heap.size + 1 + 1) zq).trans q4
  have HT := Lib.hid (bstore_any b A1 256 c1 A2 1 c2 (some ⟨g, 0, none⟩) 256 d3 A4 256 c4 emptyS emptyS_short w5 hrow5 hS5)
  clear HM hrow5 hS5 kp p4 q4
  go_wp2_with fail
  refine HT.out.mono ?_
  rintro e w6 ⟨u, rfl, hT, hB⟩
  have hB6 : Ext w5 w6 := hB
  have x6 : Below w.heap.size w w6 := Below.trans x5 (Below.mono hB6 x5.size)
  have q6 := row_ext q5 hB6
  have kq := cells_row q6
  have fq := frozen_row q6
  have z56 := hB6.size
  have z45 := hB5.size
  obtain ⟨BB, WW, gg, B3, e3, B4, e4, rfl, hD, hN, hL⟩ := hT
  have P5 : ∀ wx : World, wx = setAll w6 (w.heap.size + 1 + 1) 0 [.slice (some ⟨BB, 0, none⟩) emptyS.bs.length emptyS.bs.length, .slice (some ⟨WW, 0, none⟩) emptyS.ws.length (emptyS.ws.length + 1), .slice B3 emptyS.now.length e3, .slice B4 emptyS.last.length e4] →
      wx.heap[w.heap.size + 1 + 1]? = some (.cells #[.slice (some ⟨BB, 0, none⟩) emptyS.bs.length emptyS.bs.length, .slice (some ⟨WW, 0, none⟩) emptyS.ws.length (emptyS.ws.length + 1), .slice B3 emptyS.now.length e3, .slice B4 emptyS.last.length e4] 28 (0, 0)) ∧ Below w.heap.size w wx ∧
        TwinT w.heap.size emptyS (storeV (some ⟨BB, 0, none⟩) emptyS.bs.length emptyS.bs.length (some ⟨WW, 0, none⟩) emptyS.ws.length (emptyS.ws.length + 1) B3 emptyS.now.length e3 B4 emptyS.last.length e4) wx := fun wx e => by
    have hk : ∀ b, w5.heap.size ≤ b → b < w6.heap.size → wx.heap[b]? = w6.heap[b]? := fun b h1 _ => by rw [e]; exact setAll_other (by omega) _ _ _
    have hs : w6.heap.size ≤ wx.heap.size := by rw [e, setAll_size]; exact Nat.le_refl _
    refine ⟨by rw [e]; refine (setAll_row _ _ _ _ q6).trans ?_; simp [setIfs], by rw [e]; exact setAll_below (by omega) _ _ _ x6, BB, WW, gg, B3, e3, B4, e4, rfl, hD.keep x5.size hs hk, own_mono (own_keep hN hk) x5.size, own_mono (own_keep hL hk) x5.size⟩
  replace P5 := Lib.hid P5
  clear hD hN hL q6 hB q5
  go_wp2_with fail
  have P5 := P5.out
  generalize hw5 : World.setCell (World.setCell (World.setCell (World.setCell w6 _ _) _ _) _ _) _ _ = w7
  obtain ⟨r5, x7, h5⟩ := P5 w7 hw5.symm
  clear P5 hw5
  have k5 := cells_row r5
  exact bodyPost_ret (v := .tuple #[storeV (some ⟨BB, 0, none⟩) emptyS.bs.length emptyS.bs.length (some ⟨WW, 0, none⟩) emptyS.ws.length (emptyS.ws.length + 1) B3 emptyS.now.length e3 B4 emptyS.last.length e4, .int .i64 8, .int .i64 0]) (by simp [results, Try.results86, go_sem, k5]) rfl ⟨_, rfl, ⟨_, rfl, h5⟩, x7⟩

def NewPool (lo : Nat) (u : Value) (W : World) : Prop := ∃ BB WW g A3 c3 A4 c4, u = .agg (poolCs (.slice (some ⟨BB, 0, none⟩) 256 256) (.slice (some ⟨WW, 0, none⟩) 1 2) (.slice A3 256 c3) (.slice A4 256 c4) 0 8 1 (.slice none 0 0)) ∧ DiskT lo emptyS.bs emptyS.ws BB WW g W ∧
  W.ownsRow lo 5 1 (.slice A3 256 c3) 256 (emptyS.now.map bv) ∧ W.ownsRow lo 5 1 (.slice A4 256 c4) 256 (emptyS.last.map bv)
theorem emptyS_lens : emptyS.bs.length = 256 ∧ emptyS.ws.length = 1 ∧ emptyS.now.length = 256 ∧ emptyS.last.length = 256 := by
  refine ⟨?_, rfl, ?_, zeroB_len _⟩
  · show newBs.length = 256
    unfold newBs
    rw [List.length_replicate]
  · show ((zeroB 256).set 8 1).length = 256
    rw [List.length_set, zeroB_len]
theorem NewPool.sto {lo : Nat} {u : Value} {W : World} (h : NewPool lo u W) : ∃ A1 c1 A2 c2 A3 c3 A4 c4, u = .agg (poolCs (.slice A1 256 c1) (.slice A2 1 c2) (.slice A3 256 c3) (.slice A4 256 c4) 0 8 1 (.slice none 0 0)) ∧ StoAt W W.heap.size (.slice A1 256 c1) (.slice A2 1 c2) (.slice A3 256 c3) (.slice A4 256 c4) emptyS := by
  obtain ⟨BB, WW, g, A3, c3, A4, c4, e, hD, hN, hL⟩ := h
  obtain ⟨l1, l2, l3, l4⟩ := emptyS_lens
  obtain ⟨k1, k2⟩ := hD.reads emptyS_short.bs emptyS_short.ws emptyS_short.be emptyS_short.we W (fun _ _ _ => rfl)
  rw [l1] at k1
  rw [l2] at k2
  exact ⟨_, _, _, _, A3, c3, A4, c4, e, k1, k2, Bys.of_own hN, Bys.of_own hL⟩

set_option maxHeartbeats 1000000 in
set_option maxRecDepth 100000 in
theorem pnew0_any (A1 : Option Addr) (c1 : Nat) (A3 : Option Addr) (c3 : Nat) (A4 : Option Addr) (c4 : Nat) (w : World) (h : StoAt w w.heap.size (.slice A1 256 c1) (.slice none 0 0) (.slice A3 256 c3) (.slice A4 256 c4) newS) :
    Calls Try.prog 54 #[storeV A1 256 c1 none 0 0 A3 256 c3 A4 256 c4] w (RetS (fun u W => ∃ v, u = .tuple #[v, .int .i64 8, .int .i64 0] ∧ TwinT w.heap.size emptyS v W) w) := by
  have HM := Lib.hid (fun W (hW : Ext w W) => dmake0_any A1 c1 A3 c3 A4 c4 W (h.ext hW))
  clear h
  go_enter Try.func54, Try.ntmps54
  go_wp2_with fail
  generalize hw1 : World.alloc (World.alloc _ _) _ = w1
  have x1 : Ext w w1 := by rw [← hw1]; exact (Ext.alloc _ _).trans (Ext.alloc _ _)
  have q1 : w1.heap[w.heap.size + 1]? = some (.cells #[.slice none 0 0, .slice none 0 0, .slice none 0 0, .slice none 0 0] 28 (0, 0)) := by rw [← hw1]; exact World.alloc_heap_at _ _ _ (by simp)
  clear hw1
  refine (HM.out w1 x1).mono ?_
  rintro e w6 ⟨u, rfl, ⟨v, rfl, hT⟩, hB⟩
  have hB6 : Ext w1 w6 := hB
  have x6 : Below w.heap.size w w6 := x1.trans hB6
  have q6 := row_ext q1 hB6
  have kq := cells_row q6
  have fq := frozen_row q6
  have z1 := (Array.getElem?_eq_some_iff.1 q1).1
  have z16 := hB6.size
  obtain ⟨BB, WW, gg, B3, e3, B4, e4, rfl, hD, hN, hL⟩ := hT
  have P5 : ∀ wx : World, wx = setAll w6 (w.heap.size + 1) 0 [.slice (some ⟨BB, 0, none⟩) emptyS.bs.length emptyS.bs.length, .slice (some ⟨WW, 0, none⟩) emptyS.ws.length (emptyS.ws.length + 1), .slice B3 emptyS.now.length e3, .slice B4 emptyS.last.length e4] →
      wx.heap[w.heap.size + 1]? = some (.cells #[.slice (some ⟨BB, 0, none⟩) emptyS.bs.length emptyS.bs.length, .slice (some ⟨WW, 0, none⟩) emptyS.ws.length (emptyS.ws.length + 1), .slice B3 emptyS.now.length e3, .slice B4 emptyS.last.length e4] 28 (0, 0)) ∧ Below w.heap.size w wx ∧
        TwinT w.heap.size emptyS (storeV (some ⟨BB, 0, none⟩) emptyS.bs.length emptyS.bs.length (some ⟨WW, 0, none⟩) emptyS.ws.length (emptyS.ws.length + 1) B3 emptyS.now.length e3 B4 emptyS.last.length e4) wx := fun wx e => by
    have hk : ∀ b, w1.heap.size ≤ b → b < w6.heap.size → wx.heap[b]? = w6.heap[b]? := fun b h1 _ => by rw [e]; exact setAll_other (by omega) _ _ _
    have hs : w6.heap.size ≤ wx.heap.size := by rw [e, setAll_size]; exact Nat.le_refl _
    refine ⟨by rw [e]; refine (setAll_row _ _ _ _ q6).trans ?_; simp [setIfs], by rw [e]; exact setAll_below (by omega) _ _ _ x6, BB, WW, gg, B3, e3, B4, e4, rfl, hD.keep x1.size hs hk, own_mono (own_keep hN hk) x1.size, own_mono (own_keep hL hk) x1.size⟩
  replace P5 := Lib.hid P5
  clear hD hN hL q6 hB q1
  go_wp2_with fail
  have P5 := P5.out
  generalize hw5 : World.setCell (World.setCell (World.setCell (World.setCell w6 _ _) _ _) _ _) _ _ = w7
  obtain ⟨r5, x7, h5⟩ := P5 w7 hw5.symm
  clear P5 hw5
  have k5 := cells_row r5
  exact bodyPost_ret (v := .tuple #[storeV (some ⟨BB, 0, none⟩) emptyS.bs.length emptyS.bs.length (some ⟨WW, 0, none⟩) emptyS.ws.length (emptyS.ws.length + 1) B3 emptyS.now.length e3 B4 emptyS.last.length e4, .int .i64 8, .int .i64 0]) (by simp [results, Try.results54, go_sem, k5]) rfl ⟨_, rfl, ⟨_, rfl, h5⟩, x7⟩

set_option maxHeartbeats 1000000 in
set_option maxRecDepth 100000 in
theorem fnew_any (w : World) : Calls Try.prog 28 #[] w (RetS (NewPool w.heap.size) w) := by
  obtain ⟨l1, l2, l3, l4⟩ := emptyS_lens
  go_enter Try.func28, Try.ntmps28
  go_wp2_with fail
  generalize hw1 : World.alloc _ _ = w1
  have x1 : Ext w w1 := by rw [← hw1]; exact Ext.alloc _ _
  have q1 : w1.heap[w.heap.size]? = some (.cells (poolCs (.slice none 0 0) (.slice none 0 0) (.slice none 0 0) (.slice none 0 0) 0 0 0 (.slice none 0 0)) 32 (0, 0)) := by rw [← hw1]; exact World.alloc_heap_at _ _ _ (by simp)
  clear hw1
  refine (rnew_any w1).mono ?_
  rintro e w2 ⟨u, rfl, ⟨B, n1, n2, rfl, hS⟩, hB⟩
  have hB2 : Ext w1 w2 := hB
  have x2 : Ext w w2 := x1.trans hB2
  have q2 := row_ext q1 hB2
  have z1 := (Array.getElem?_eq_some_iff.1 q1).1
  have z12 := hB2.size
  clear hB q1
  have HP := Lib.hid (pnew0_any _ _ _ _ _ _ w2 hS)
  clear hS
  go_wp2_with fail
  refine HP.out.mono ?_
  rintro e w6 ⟨u, rfl, ⟨v, rfl, hT⟩, hB⟩
  have hB6 : Ext w2 w6 := hB
  have x6 : Ext w w6 := x2.trans hB6
  have q6 := row_ext q2 hB6
  obtain ⟨BB, WW, gg, B3, e3, B4, e4, rfl, hD, hN, hL⟩ := hT
  rw [l1, l2, l3, l4]
  rw [l3] at hN
  rw [l4] at hL
  clear q2 hB HP
  have kq := cells_row q6
  have fq := frozen_row q6
  have zq := (Array.getElem?_eq_some_iff.1 q6).1
  have z26 := hB6.size
  have P5 : ∀ wx : World, wx = setAll w6 w.heap.size 0 [.slice (some ⟨BB, 0, none⟩) 256 256, .slice (some ⟨WW, 0, none⟩) 1 2, .slice B3 256 e3, .slice B4 256 e4, .int .u32 0, .int .i64 8, .int .u32 1, .slice none 0 0] → ∀ o : Obj,
      (wx.alloc o).heap[w.heap.size]? = some (.cells (poolCs (.slice (some ⟨BB, 0, none⟩) 256 256) (.slice (some ⟨WW, 0, none⟩) 1 2) (.slice B3 256 e3) (.slice B4 256 e4) 0 8 1 (.slice none 0 0)) 32 (0, 0)) ∧ Below w.heap.size w (wx.alloc o) ∧
        NewPool w.heap.size (.agg (poolCs (.slice (some ⟨BB, 0, none⟩) 256 256) (.slice (some ⟨WW, 0, none⟩) 1 2) (.slice B3 256 e3) (.slice B4 256 e4) 0 8 1 (.slice none 0 0))) (wx.alloc o) := fun wx e o => by
    have hs : wx.heap.size = w6.heap.size := by rw [e, setAll_size]
    have hk : ∀ b, w2.heap.size ≤ b → b < w6.heap.size → (wx.alloc o).heap[b]? = w6.heap[b]? := fun b h1 h2 => (Below.heap_alloc _ _ _ (by omega)).trans (by rw [e]; exact setAll_other (by omega) _ _ _)
    have hs2 : w6.heap.size ≤ (wx.alloc o).heap.size := by simp; omega
    refine ⟨(Below.heap_alloc _ _ _ (by omega)).trans (by rw [e]; refine (setAll_row _ _ _ _ q6).trans ?_; simp [setIfs, poolCs]), Below.alloc (by rw [e]; exact setAll_below (Nat.le_refl _) _ _ _ x6) (by omega) _, BB, WW, gg, B3, e3, B4, e4, rfl, hD.keep x2.size hs2 hk, own_mono (own_keep hN hk) x2.size, own_mono (own_keep hL hk) x2.size⟩
  replace P5 := Lib.hid P5
  clear hD hN hL q6
  go_wp2_with fail
  have P5 := P5.out
  generalize hw5 : World.setCell (World.setCell (World.setCell (World.setCell (World.setCell (World.setCell (World.setCell (World.setCell w6 _ _) _ _) _ _) _ _) _ _) _ _) _ _) _ _ = w7
  obtain ⟨r5, x7, h5⟩ := P5 w7 hw5.symm (.cells #[.slice (some ⟨BB, 0, none⟩) 256 256, .slice (some ⟨WW, 0, none⟩) 1 2, .slice B3 256 e3, .slice B4 256 e4] 28)
  clear P5 hw5
  have k5 := cells_row r5
  exact bodyPost_ret (v := .agg (poolCs (.slice (some ⟨BB, 0, none⟩) 256 256) (.slice (some ⟨WW, 0, none⟩) 1 2) (.slice B3 256 e3) (.slice B4 256 e4) 0 8 1 (.slice none 0 0))) (by simp [results, Try.results28, go_sem, k5]) rfl ⟨_, rfl, h5, x7⟩
end Go.Proofs.Ytlgbjpihmkeopaa
/- Each block counted: plain words. -/
namespace Go.Proofs.Ytlgbjpihmkeopaa
set_option linter.unusedSimpArgs false
set_option linter.unusedVariables false
open Go.RowKit

def heldOk (held : List Int) : Bool := held.all fun a => decide (8 ≤ a ∧ a < 256)
def countsB (S : Sto) (refs : Nat → Nat) (held : List Int) : Bool := (List.range 256).all fun a => decide (a < 8) || decide (refs a + held.count (a : Int) = (S.now[a]?.getD 0).toNat)
def countsV (S : Sto) (refs : Nat → Nat) (held : List Int) : Bool × Int := if 1024 < held.length then (false, 4) else if heldOk held = true then (countsB S refs held, 0) else (false, 2)
def heldTo (refs : Nat → Nat) (held : List Int) (k : Nat) : Nat → Nat := fun a => refs a + (held.take k).count (a : Int)
theorem heldTo_succ (refs : Nat → Nat) (held : List Int) {k : Nat} (hk : k < held.length) {a : Nat} (ha : held[k] = (a : Int)) : heldTo refs held (k + 1) = bump (heldTo refs held k) a := by
  funext b
  show refs b + (held.take (k + 1)).count (b : Int) = (refs b + (held.take k).count (b : Int)) + if b = a then 1 else 0
  rw [List.take_succ_eq_append_getElem hk, List.count_append, ha, List.count_singleton]
  by_cases e : b = a
  · rw [if_pos e, if_pos (by simp [e])]; omega
  · rw [if_neg e, if_neg (by simp; omega)]
    rfl
theorem heldOk_bad {held : List Int} {k : Nat} (hk : k < held.length) (h : ¬ (8 ≤ held[k] ∧ held[k] < 256)) : heldOk held = false := all_bad hk (decide_eq_false h)
theorem tab_at {w : World} {B : Nat} {v : Value} {l : List UInt8} (h : Bys w B v l) (hl : l.length = 256) : ∃ b o c, v = .slice (some ⟨b, o, none⟩) 256 c ∧ b < B ∧ ∀ k : Nat, k < 256 → w.cell? ⟨b, o + k, none⟩ = some (.int .u8 ((l[k]?.getD 0).toNat : Int)) := by
  obtain ⟨A, c, rfl, _, _, hr⟩ := h
  obtain ⟨b, o, rfl, hb, hc⟩ := hr.2 (by omega)
  exact ⟨b, o, c, by rw [hl], hb, fun k hk => hc k _ (by rw [List.getElem?_map, List.getElem?_eq_getElem (by omega)]; rfl)⟩
end Go.Proofs.Ytlgbjpihmkeopaa
