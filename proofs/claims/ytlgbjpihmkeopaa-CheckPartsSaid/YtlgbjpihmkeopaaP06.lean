/- Texts Concat, Vol, FreeS, Volm, Volr, Volmr, joined. -/
import Derived.Lib.AppendZerosOnto
import Derived.Lib.Walk
import Derived.Test.YtlgbjpihmkeopaaP02
import Derived.Test.YtlgbjpihmkeopaaP05
/- slices.Grow of nil, slices.Concat: at bytes. -/
namespace Go.Proofs.Ytlgbjpihmkeopaa
set_option linter.unusedSimpArgs false
set_option linter.unusedVariables false
open Go.RowKit

set_option maxRecDepth 100000 in
set_option maxHeartbeats 1000000 in
theorem grow8_any (n : Nat) (hn : n < 1073741824) (w : World) :
    Calls Try.prog 145 #[.slice none 0 0, .int .i64 (n : Int)] w (RetS (fun v w' => w'.ownsRow w.heap.size 5 1 v 0 []) w) := by
  obtain ⟨i0, hi, hz0, hz1, hz2⟩ := info_parts Try.info_u8
  by_cases h0 : n = 0
  · subst h0
    go_enter Try.func145, Try.ntmps145
    go_wp2
    go_ret
    exact ⟨_, rfl, World.ownsRow_nil _ _ _ _, Below.refl _ _⟩
  · have hG := grownCap_ge w n 0 5
    have hGm := grownCap_le_maxLen w n 0 5 (by unfold maxLen; omega)
    have hrz : ∀ ty, (Builtin.append_ #[26, 3] ty #[.slice none 0 0, .int .i64 (n : Int)]).run Try.prog w =
        .ok (.slice (some ⟨w.heap.size, 0, none⟩) n (grownCap w n 0 5)) (w.drew.alloc (.cells (([] : List Value).toArray ++ Builtin.zeroCells (Value.int .u8 0).cells n ++ Builtin.zeroCells (Value.int .u8 0).cells (grownCap w n 0 5 - n)) 5)) := fun ty => by
      have h := Lib.run_append_grow_zeros (P := Try.prog) w 26 3 ty 5 i0 (.int .u8 0) .i64 .i64 Try.underlying26 Try.underlying3 hi hz0 none 0 0 [] (run_firstCells_none w.drew i0.size 0 0 0) n (by omega) (by omega) (by omega) (by omega) (by rw [hz2]; omega) (growslice_fits (by omega) (by rw [hz2]; omega))
      simpa using h
    obtain ⟨G, hGe⟩ : ∃ G, grownCap w n 0 5 = G := ⟨_, rfl⟩
    rw [hGe] at hG hGm hrz
    unfold maxLen at hGm
    have hpos : 0 < n := by omega
    clear hGe
    go_enter Try.func145, Try.ntmps145
    go_wp2_with (at_builtin; refine Lib.wpList_append_run _ rfl _ _ _ _ rfl _ _ rfl rfl _ _ (hrz _) ?_)
    go_ret
    refine ⟨_, rfl, ?_, (by repeat' (first | with_reducible exact Below.refl _ _ | with_reducible assumption | with_reducible apply Below.drew | with_reducible apply below_drewN | with_reducible refine Below.alloc ?_ ?_ _ | with_reducible refine Below.setCell ?_ ?_ _ | (simp; done) | (simp; omega) | omega))⟩
    refine (World.ownsRow_made w _ G (Nat.le_refl _) (by unfold maxLen; omega) ?_).drew
    simp only [Array.size_append, size_zeroCells, List.size_toArray, List.length_cons, List.length_nil]
    omega

def catTo (ls : List (List UInt8)) (k : Nat) : List UInt8 := (ls.take k).flatten

set_option maxRecDepth 100000 in
set_option maxHeartbeats 1000000 in
theorem concat8_any (A : Option Addr) (c m : Nat) (vs : List Value) (ls : List (List UInt8)) (hv : vs.length = m) (hl : ls.length = m) (w : World) (hr : Rd w w.heap.size 1 A m vs)
    (hb : ∀ (i : Nat) (v : Value) (l : List UInt8), vs[i]? = some v → ls[i]? = some l → Bys w w.heap.size v l) (hn : m < 1024) (hs : ls.flatten.length < 1048576) :
    Calls Try.prog 118 #[.slice A m c] w (RetS (fun v w' => w'.ownsRow w.heap.size 5 1 v ls.flatten.length (ls.flatten.map bv)) w) := by
  obtain ⟨i0, hi, hz0, hz1, hz2⟩ := info_parts Try.info_u8
  have hstep : ∀ k, k < m → ∃ A c l, vs[k]? = some (.slice A l.length c) ∧ ls[k]? = some l ∧ Rd w w.heap.size 1 A l.length (l.map bv) := fun k hk => by
    obtain ⟨v, hv⟩ : ∃ v, vs[k]? = some v := ⟨_, List.getElem?_eq_getElem (by omega)⟩
    obtain ⟨l, hl'⟩ : ∃ l, ls[k]? = some l := ⟨_, List.getElem?_eq_getElem (by omega)⟩
    obtain ⟨A, c, rfl, _, _, h⟩ := hb k v l hv hl'
    exact ⟨A, c, l, hv, hl', h⟩
  have hsum : ∀ k, (catTo ls k).length ≤ ls.flatten.length := fun k => by
    unfold catTo; conv => rhs; rw [← List.take_append_drop k ls]
    rw [List.flatten_append, List.length_append]; omega
  have htk : ∀ (k : Nat) (l : List UInt8), ls[k]? = some l → catTo ls (k + 1) = catTo ls k ++ l := fun k l h => by
    unfold catTo; rw [List.take_add_one, h]; simp
  have HT := Lib.hid htk
  clear htk
  have hall : ls.flatten = catTo ls m := by unfold catTo; rw [List.take_of_length_le (by omega)]
  have h00 : Hid ([] = catTo ls 0) := by unfold catTo; exact rfl
  rw [hall] at hs hsum ⊢
  clear hall hl hv hb
  go_enter Try.func118, Try.ntmps118
  go_wp2
  go_loop [3, 11] (fun t i => ∃ k : Nat, k ≤ m ∧ i = .int .i64 (k : Int) ∧ t = .int .i64 ((catTo ls k).length : Int))
    (fun _ i => m - (intOf i).toNat)
  case atStart => exact ⟨0, Nat.zero_le _, rfl, by rw [← h00.out]; rfl⟩
  case round =>
    obtain ⟨k, hk, rfl, rfl⟩ := hrel
    have h1 := hsum k
    by_cases hlt : k < m
    · obtain ⟨A', c', l, hv, hl, hrl⟩ := hstep k hlt
      obtain ⟨b, off, rfl, hbl, hc⟩ := hr.2 (by omega)
      have hcell := hc k _ hv
      have h2 := hsum (k + 1)
      rw [HT.out k l hl, List.length_append] at h2
      go_wp2
      go_round
      case rel => exact ⟨k + 1, by omega, by go_num, by rw [HT.out k l hl, List.length_append]; go_num⟩
      case measure => simp [intOf]; omega
    · obtain rfl : k = m := by omega
      clear h1
      go_wp2_with fail
      refine (grow8_any (catTo ls k).length (by omega) _).mono ?_
      rintro e w1 ⟨v, rfl, hown, hB⟩
      go_wp2
      go_loopw [6, 27] (fun v i wr => ∃ j : Nat, j ≤ k ∧ i = .int .i64 (j : Int) ∧ wr.ownsRow w.heap.size 5 1 v (catTo ls j).length ((catTo ls j).map bv) ∧ Below w.heap.size w wr)
        (fun _ i _ => k - (intOf i).toNat)
      case atStart => exact ⟨0, Nat.zero_le _, rfl, by rw [← h00.out]; exact hown, hB⟩
      case round =>
        clear hown hB
        obtain ⟨j, hj, rfl, hown, hB⟩ := hrel
        by_cases hlt : j < k
        · obtain ⟨A', c', l, hv, hl, hrl⟩ := hstep j hlt
          obtain ⟨b, off, rfl, hbl, hc⟩ := hr.2 (by omega)
          have hcell := (hB.cell (p := ⟨b, off + j, none⟩) hbl).trans (hc j _ hv)
          have h1 := hsum j
          have h2 := hsum (j + 1)
          rw [HT.out j l hl, List.length_append] at h2
          have HE := Lib.hid (HT.out j l hl)
          go_wp2_with (at_builtin; refine wpList_stop ?_)
          refine Stopped.go (wpList_append_rd _ rfl (.tmp 31) (.tmp 32) 26 rfl w.heap.size 5 i0 (.int .u8 0) 1 1 Try.underlying26 hi hz0 hz1 hz2 rfl (by decide) _ _ _ rfl hown w.heap.size A' l.length c' (l.map bv) rfl (hrl.below hB) (bvs_one l) (by omega) (by decide) hB.size ?_)
          intro v' w2 hown1 _ hb1 _
          go_wp2
          go_roundw
          case rel => exact ⟨j + 1, by omega, by go_num, by rw [HE.out, List.length_append, List.map_append]; exact hown1, hB.trans hb1⟩
          case measure => simp [intOf]; omega
        · obtain rfl : j = k := by omega
          go_wp2
          go_ret
          exact ⟨_, rfl, hown, hB⟩
end Go.Proofs.Ytlgbjpihmkeopaa
/- Volumes as items: plain words; the item of a volume, of the program. -/
namespace Go.Proofs.Ytlgbjpihmkeopaa
set_option linter.unusedSimpArgs false
set_option linter.unusedVariables false
open Go.RowKit

structure Vol where
  id : Int
  root : Int
  fz : Bool
  frm : Int
deriving DecidableEq
def volBytes (v : Vol) : List UInt8 := bytesOf v.root.toNat 2 ++ [if v.fz then 1 else 0] ++ bytesOf v.frm.toNat 4
theorem volBytes_len (v : Vol) : (volBytes v).length = 7 := by simp [volBytes, bytesOf_len]
def volAt (x : It) : Vol := ⟨x.i, numAt x.val 0 2, decide ((x.val[2]?.getD 0).toNat = 1), numAt x.val 3 4⟩
def isVol (x : It) : Bool := decide (x.val.length = 7) && sameB 1 x.i 0 0 x.k x.i x.o x.r (volBytes (volAt x)) x.val
abbrev volV (v : Vol) : Value := .agg #[.int .u32 v.id, .int .i64 v.root, .bool v.fz, .int .u32 v.frm]
def VolOk (v : Vol) : Prop := (0 ≤ v.id ∧ v.id < 4294967296) ∧ (0 ≤ v.root ∧ v.root < 65536) ∧ (0 ≤ v.frm ∧ v.frm < 4294967296)

def outLitS (lo n : Nat) (ty : TypeId) (φ : List Value → World → Prop) : Outs := ⟨Nat, fun b => .slice (some ⟨b, 0, none⟩) n n, fun b W => lo ≤ b ∧ ∃ cs : Array Value, cs.size = n ∧ W.heap[b]? = some (.cells cs ty (0, 0)) ∧ φ cs.toList W⟩
theorem outLitS_f (lo n : Nat) (ty : TypeId) (φ : List Value → World → Prop) (b : Nat) : (outLitS lo n ty φ).f b = .slice (some ⟨b, 0, none⟩) n n := rfl
theorem outLitS_stable {lo n : Nat} {ty : TypeId} {φ : List Value → World → Prop} (hφ : ∀ l, Stable (φ l)) : ∀ p, Stable ((outLitS lo n ty φ).φ p) := fun p W W' he ⟨h1, cs, h2, h3, h4⟩ =>
  ⟨h1, cs, h2, (Below.block he p (Array.getElem?_eq_some_iff.1 h3).1).trans h3, hφ _ _ _ he h4⟩
theorem hardAt_litS {P : Program} {o : Oper} {a : Act} {W : World} {lo' n' : Nat} {ty : TypeId} {φ : List Value → World → Prop} {cs : Array Value} (hr : (execOp a.eval o).run P W = .ok (.value (.slice (some ⟨W.heap.size, 0, none⟩) n' n')) (W.alloc (.cells cs ty)))
    (hlo : lo' ≤ W.heap.size) (hn : cs.size = n') (hφ : φ cs.toList (W.alloc (.cells cs ty))) : hardAt P o a W (outLitS lo' n' ty φ) := by
  unfold hardAt; rw [hr]; exact ⟨W.heap.size, rfl, ⟨hlo, cs, hn, World.alloc_heap_at _ _ _ rfl, hφ⟩, Ext.alloc _ _⟩
def Reads (ls : List (List UInt8)) (vs : List Value) (W : World) : Prop := vs.length = ls.length ∧ ∀ (i : Nat) (v : Value) (l : List UInt8), vs[i]? = some v → ls[i]? = some l → Bys W W.heap.size v l
theorem Reads.stable (ls : List (List UInt8)) (vs : List Value) : Stable (Reads ls vs) := fun _ _ he h => ⟨h.1, fun i v l h1 h2 => ((h.2 i v l h1 h2).below he).more he.size⟩
theorem Bys.lit {W : World} {b : Nat} {l : List UInt8} {ty : TypeId} (h : W.heap[b]? = some (.cells (l.map bv).toArray ty (0, 0))) (hl : l.length ≤ maxLen) : Bys W W.heap.size (.slice (some ⟨b, 0, none⟩) l.length l.length) l :=
  ⟨_, _, rfl, Nat.le_refl _, hl, by simp, fun _ => ⟨b, 0, rfl, (Array.getElem?_eq_some_iff.1 h).1, fun j u hu => by rw [cells_row h]; simpa using hu⟩⟩
theorem Rd.row {W : World} {b : Nat} {cs : Array Value} {ty : TypeId} (h : W.heap[b]? = some (.cells cs ty (0, 0))) (n : Nat) (hn : cs.size = n) : Rd W W.heap.size 1 (some ⟨b, 0, none⟩) n cs.toList :=
  ⟨by simp [hn], fun _ => ⟨b, 0, rfl, (Array.getElem?_eq_some_iff.1 h).1, fun j u hu => by rw [cells_row h]; simpa using hu⟩⟩

set_option maxHeartbeats 4000000 in
set_option maxRecDepth 100000 in
theorem one_any (v : Vol) (hv : VolOk v) (w : World) :
    Calls Try.prog 129 #[volV v] w (RetS (IsI w.heap.size 1 v.id 0 0 (volBytes v)) w) := by
  obtain ⟨vi, vr, vf, vm⟩ := v
  obtain ⟨⟨hi1, hi2⟩, ⟨hr1, hr2⟩, ⟨hm1, hm2⟩⟩ := hv
  dsimp only at *
  obtain ⟨r, rfl⟩ := Int.eq_ofNat_of_zero_le hr1
  obtain ⟨m, rfl⟩ := Int.eq_ofNat_of_zero_le hm1
  have HB : Hid (volBytes ⟨vi, r, vf, m⟩ = [bytesOf r 2, [if vf then 1 else 0], bytesOf m 4].flatten) := by
    refine Lib.hid ?_
    simp [volBytes]
  have HL : Hid ((volBytes ⟨vi, r, vf, m⟩).length = 7) := Lib.hid (volBytes_len _)
  have l2 := bytesOf_len 2 r
  have l4 := bytesOf_len 4 m
  replace l2 := Lib.hid l2
  replace l4 := Lib.hid l4
  generalize volBytes ⟨vi, r, vf, m⟩ = vb at *
  cases vf
  · go_enter Try.func129, Try.ntmps129
    go_wp2_with fail
    generalize hw1 : (World.alloc (World.alloc _ _) _) = w1
    have b1 : Ext w w1 := by rw [← hw1]; exact (Ext.alloc _ _).trans (Ext.alloc _ _)
    have r1 : w1.heap[w.heap.size]? = some (.cells #[.int .u32 vi, .int .i64 r, .bool false, .int .u32 m] 113 (0, 0)) := by rw [← hw1]; exact (Below.heap_alloc _ _ _ (by simp)).trans (World.alloc_heap_at _ _ _ rfl)
    have q1 : w1.heap[w.heap.size + 1]? = some (.cells #[.int .u8 0, .int .u32 0, .int .u32 0, .int .i64 0, .slice none 0 0] 151 (0, 0)) := by rw [← hw1]; exact World.alloc_heap_at _ _ _ (by simp)
    clear hw1
    refine (two_any r (by omega) _).mono ?_
    rintro e w2 ⟨u, rfl, ⟨u2, rfl, A2, c2, rfl, hb2, hf2⟩, hB⟩
    have b2 : Ext w w2 := Ext.trans b1 hB
    have r2 := row_ext r1 hB
    have q2 := row_ext q1 hB
    have k2 := cells_row r2
    have s2 : w.heap.size + 1 < w2.heap.size := (Array.getElem?_eq_some_iff.1 q2).1
    clear hB b1 r1 q1
    go_wp2
    have hE : ∀ W, Ext w2 W → ∀ j, W.cell? ⟨w.heap.size, j, none⟩ = #[.int .u32 vi, .int .i64 r, .bool false, .int .u32 m][j]? := fun W h => cells_row (row_ext r2 h)
    clear k2
    refine wp_region_free (outsAt [(5, outLit w2.heap.size 1 5 #[.int .u8 0]), (8, outB w2.heap.size 4 (bytesOf m 4)), (9, outLitS w2.heap.size 3 26 (Reads [bytesOf r 2, [0], bytesOf m 4])), (10, outB w2.heap.size 7 vb)]) 12 (by kernel_rfl) (by kernel_rfl) (by kernel_rfl) (by decide) (by kernel_rfl) (by kernel_rfl) ?st ?walk
    case st => exact outsAt_stable (by simp only [List.forall_mem_cons]; exact ⟨outLit_stable _ _ _ _, outB_stable _ _ _, outLitS_stable (Reads.stable _), outB_stable _ _ _, fun _ h => by cases h⟩)
    case walk =>
      intro K hK
      dsimp only [List.take]
      repeat ((first | (refine free_plain ?_ (by rfl) (by rfl) (fun W hW _ => ⟨W, ?_, Ext.refl W⟩) ?_; rotate_left; (first | (go_simp; with_reducible rfl) | (go_simp; done))) | (refine free_skip (by rfl) ?_)); try simp only [Act.put, one_f, outB_f, outNew_f, outI_f, outLit_f, outLitS_f, outDone_f, List.setIfInBounds_toArray, List.set_cons_zero, List.set_cons_succ])
      refine free_hard (outLit w2.heap.size 1 5 #[.int .u8 0]) (by rfl) (by rfl) (fun W hW _ => ?_) (fun (p5 : Nat) => ?_)
      · refine hardAt_lit ?_ hW.size
        go_simp
      simp only [Act.put, one_f, outB_f, outNew_f, outI_f, outLit_f, outLitS_f, outDone_f, List.setIfInBounds_toArray, List.set_cons_zero, List.set_cons_succ]
      repeat ((first | (refine free_plain ?_ (by rfl) (by rfl) (fun W hW _ => ⟨W, ?_, Ext.refl W⟩) ?_; rotate_left; (first | (go_simp; with_reducible rfl) | (go_simp; done))) | (refine free_skip (by rfl) ?_)); try simp only [Act.put, one_f, outB_f, outNew_f, outI_f, outLit_f, outLitS_f, outDone_f, List.setIfInBounds_toArray, List.set_cons_zero, List.set_cons_succ])
      refine free_hard (outB w2.heap.size 4 (bytesOf m 4)) (by rfl) (by rfl) (fun W hW _ => ?_) (fun p8 => ?_)
      · refine hardAt_call ?_ ((four_any m (by omega) W).mono fun e w' h => ?_)
        · go_simp
        obtain ⟨u, rfl, ⟨A, c, rfl, h1, h2⟩, h3⟩ := h
        exact ⟨(A, c), rfl, ⟨h1, h2.mono hW.size⟩, h3⟩
      obtain ⟨A8, c8⟩ := p8
      simp only [Act.put, one_f, outB_f, outNew_f, outI_f, outLit_f, outLitS_f, outDone_f, List.setIfInBounds_toArray, List.set_cons_zero, List.set_cons_succ]
      refine free_hard (outLitS w2.heap.size 3 26 (Reads [bytesOf r 2, [0], bytesOf m 4])) (by rfl) (by rfl) (fun W hW hp => ?_) (fun (p9 : Nat) => ?_)
      · have f5 := (hp 5 (by decide)).1
        have f8 := (hp 8 (by decide)).1
        obtain ⟨f5, _⟩ : W.heap[p5]? = some (.cells #[.int .u8 0] 5 (0, 0)) ∧ w2.heap.size ≤ p5 := f5
        obtain ⟨f8, _⟩ : Bys W W.heap.size (.slice A8 4 c8) (bytesOf m 4) ∧ _ := f8
        have hR : Reads [bytesOf r 2, [0], bytesOf m 4] [.slice A2 2 c2, .slice (some ⟨p5, 0, none⟩) 1 1, .slice A8 4 c8] W := by
          refine ⟨rfl, fun i v l hv hl => ?_⟩
          have hlit : Bys W W.heap.size (.slice (some ⟨p5, 0, none⟩) 1 1) [(0 : UInt8)] := Bys.lit (l := [(0 : UInt8)]) f5 (by simp [maxLen])
          rcases i with _ | _ | _ | i
          · simp at hv hl; subst hv; subst hl; exact (hb2.below hW).more hW.size
          · simp at hv hl; subst hv; subst hl; exact hlit
          · simp at hv hl; subst hv; subst hl; exact f8
          · simp at hv
        refine hardAt_litS (cs := #[.slice A2 2 c2, .slice (some ⟨p5, 0, none⟩) 1 1, .slice A8 4 c8]) ?_ hW.size rfl ?_
        · go_simp
        · exact Reads.stable _ _ _ _ (Ext.alloc _ _) hR
      simp only [Act.put, one_f, outB_f, outNew_f, outI_f, outLit_f, outLitS_f, outDone_f, List.setIfInBounds_toArray, List.set_cons_zero, List.set_cons_succ]
      refine free_hard (outB w2.heap.size 7 vb) (by rfl) (by rfl) (fun W hW hp => ?_) (fun p10 => ?_)
      · obtain ⟨_, cs, hcs, hrow, hR⟩ := (hp 9 (by decide)).1
        have hlen : [bytesOf r 2, [(0 : UInt8)], bytesOf m 4].flatten.length = 7 := by simp [l2.out, l4.out]
        refine hardAt_call ?_ ((concat8_any (some ⟨p9, 0, none⟩) 3 3 cs.toList [bytesOf r 2, [0], bytesOf m 4] (by simpa using hcs) rfl W (Rd.row hrow 3 hcs) (fun i v l h1 h2 => hR.2 i v l h1 h2) (by omega) (by omega)).mono fun e w' h => ?_)
        · go_simp
        rw [hlen] at h
        obtain ⟨p, h1, h2, h3⟩ := outB_of_own h hW.size
        have HB' := HB.out
        simp only [Bool.false_eq_true, if_false, if_true] at HB'
        rw [← HB'] at h1 h2
        exact ⟨p, h1, h2, h3⟩
      obtain ⟨A10, c10⟩ := p10
      simp only [Act.put, one_f, outB_f, outNew_f, outI_f, outLit_f, outLitS_f, outDone_f, List.setIfInBounds_toArray, List.set_cons_zero, List.set_cons_succ]
      repeat ((first | (refine free_plain ?_ (by rfl) (by rfl) (fun W hW _ => ⟨W, ?_, Ext.refl W⟩) ?_; rotate_left; (first | (go_simp; with_reducible rfl) | (go_simp; done))) | (refine free_skip (by rfl) ?_)); try simp only [Act.put, one_f, outB_f, outNew_f, outI_f, outLit_f, outLitS_f, outDone_f, List.setIfInBounds_toArray, List.set_cons_zero, List.set_cons_succ])
      refine free_nil (hK _ _ fun W hW hF => ?_)
      obtain ⟨f10, g10⟩ : Bys W W.heap.size (.slice A10 7 c10) vb ∧ From w2.heap.size (.slice A10 7 c10) := (hF 10).1
      clear hF hK hE
      have b3 : Ext w W := b2.trans hW
      have q3 := row_ext q2 hW
      have kq := cells_row q3
      have fq := frozen_row q3
      dsimp only [List.drop]
      go_wp2
      have hgt : w.heap.size + 1 < w2.heap.size := s2
      have hby := ((((f10.setCell g10 (p := ⟨w.heap.size + 1, 0, none⟩) hgt (.int .u8 1)).setCell g10 (p := ⟨w.heap.size + 1, 1, none⟩) hgt (.int .u32 vi)).setCell g10 (p := ⟨w.heap.size + 1, 2, none⟩) hgt (.int .u32 0)).setCell g10 (p := ⟨w.heap.size + 1, 3, none⟩) hgt (.int .i64 0)).setCell g10 (p := ⟨w.heap.size + 1, 4, none⟩) hgt (.slice A10 7 c10)
      have rf := row_set (row_set (row_set (row_set (row_set q3 0 (.int .u8 1)) 1 (.int .u32 vi)) 2 (.int .u32 0)) 3 (.int .i64 0)) 4 (.slice A10 7 c10)
      have b3' : Below w.heap.size w W := b3
      have bf : Below w.heap.size w (((((W.setCell ⟨w.heap.size + 1, 0, none⟩ (.int .u8 1)).setCell ⟨w.heap.size + 1, 1, none⟩ (.int .u32 vi)).setCell ⟨w.heap.size + 1, 2, none⟩ (.int .u32 0)).setCell ⟨w.heap.size + 1, 3, none⟩ (.int .i64 0)).setCell ⟨w.heap.size + 1, 4, none⟩ (.slice A10 7 c10)) := (by repeat' (first | with_reducible exact Below.refl _ _ | with_reducible assumption | with_reducible apply Below.drew | with_reducible apply below_drewN | with_reducible refine Below.alloc ?_ ?_ _ | with_reducible refine Below.setCell ?_ ?_ _ | (simp; done) | (simp; omega) | omega))
      have hsz : (((((W.setCell ⟨w.heap.size + 1, 0, none⟩ (.int .u8 1)).setCell ⟨w.heap.size + 1, 1, none⟩ (.int .u32 vi)).setCell ⟨w.heap.size + 1, 2, none⟩ (.int .u32 0)).setCell ⟨w.heap.size + 1, 3, none⟩ (.int .i64 0)).setCell ⟨w.heap.size + 1, 4, none⟩ (.slice A10 7 c10)).heap.size = W.heap.size := by simp
      generalize hwf : (World.setCell (World.setCell (World.setCell (World.setCell (World.setCell W _ _) _ _) _ _) _ _) _ _) = wf at *
      have kf := cells_row rf
      rw [← hsz] at hby
      exact bodyPost_ret (v := itemV 1 vi 0 0 A10 7 c10) (by simp [results, Try.results129, go_sem, kf]) rfl ⟨_, rfl, ⟨A10, c10, by rw [HL.out], by rw [HL.out]; exact hby, by rw [HL.out]; exact g10.mono (by omega)⟩, bf⟩
  · go_enter Try.func129, Try.ntmps129
    go_wp2_with fail
    generalize hw1 : (World.alloc (World.alloc _ _) _) = w1
    have b1 : Ext w w1 := by rw [← hw1]; exact (Ext.alloc _ _).trans (Ext.alloc _ _)
    have r1 : w1.heap[w.heap.size]? = some (.cells #[.int .u32 vi, .int .i64 r, .bool true, .int .u32 m] 113 (0, 0)) := by rw [← hw1]; exact (Below.heap_alloc _ _ _ (by simp)).trans (World.alloc_heap_at _ _ _ rfl)
    have q1 : w1.heap[w.heap.size + 1]? = some (.cells #[.int .u8 0, .int .u32 0, .int .u32 0, .int .i64 0, .slice none 0 0] 151 (0, 0)) := by rw [← hw1]; exact World.alloc_heap_at _ _ _ (by simp)
    clear hw1
    refine (two_any r (by omega) _).mono ?_
    rintro e w2 ⟨u, rfl, ⟨u2, rfl, A2, c2, rfl, hb2, hf2⟩, hB⟩
    have b2 : Ext w w2 := Ext.trans b1 hB
    have r2 := row_ext r1 hB
    have q2 := row_ext q1 hB
    have k2 := cells_row r2
    have s2 : w.heap.size + 1 < w2.heap.size := (Array.getElem?_eq_some_iff.1 q2).1
    clear hB b1 r1 q1
    go_wp2
    have hE : ∀ W, Ext w2 W → ∀ j, W.cell? ⟨w.heap.size, j, none⟩ = #[.int .u32 vi, .int .i64 r, .bool true, .int .u32 m][j]? := fun W h => cells_row (row_ext r2 h)
    clear k2
    refine wp_region_free (outsAt [(5, outLit w2.heap.size 1 5 #[.int .u8 1]), (8, outB w2.heap.size 4 (bytesOf m 4)), (9, outLitS w2.heap.size 3 26 (Reads [bytesOf r 2, [1], bytesOf m 4])), (10, outB w2.heap.size 7 vb)]) 12 (by kernel_rfl) (by kernel_rfl) (by kernel_rfl) (by decide) (by kernel_rfl) (by kernel_rfl) ?st ?walk
    case st => exact outsAt_stable (by simp only [List.forall_mem_cons]; exact ⟨outLit_stable _ _ _ _, outB_stable _ _ _, outLitS_stable (Reads.stable _), outB_stable _ _ _, fun _ h => by cases h⟩)
    case walk =>
      intro K hK
      dsimp only [List.take]
      repeat ((first | (refine free_plain ?_ (by rfl) (by rfl) (fun W hW _ => ⟨W, ?_, Ext.refl W⟩) ?_; rotate_left; (first | (go_simp; with_reducible rfl) | (go_simp; done))) | (refine free_skip (by rfl) ?_)); try simp only [Act.put, one_f, outB_f, outNew_f, outI_f, outLit_f, outLitS_f, outDone_f, List.setIfInBounds_toArray, List.set_cons_zero, List.set_cons_succ])
      refine free_hard (outLit w2.heap.size 1 5 #[.int .u8 1]) (by rfl) (by rfl) (fun W hW _ => ?_) (fun (p5 : Nat) => ?_)
      · refine hardAt_lit ?_ hW.size
        go_simp
      simp only [Act.put, one_f, outB_f, outNew_f, outI_f, outLit_f, outLitS_f, outDone_f, List.setIfInBounds_toArray, List.set_cons_zero, List.set_cons_succ]
      repeat ((first | (refine free_plain ?_ (by rfl) (by rfl) (fun W hW _ => ⟨W, ?_, Ext.refl W⟩) ?_; rotate_left; (first | (go_simp; with_reducible rfl) | (go_simp; done))) | (refine free_skip (by rfl) ?_)); try simp only [Act.put, one_f, outB_f, outNew_f, outI_f, outLit_f, outLitS_f, outDone_f, List.setIfInBounds_toArray, List.set_cons_zero, List.set_cons_succ])
      refine free_hard (outB w2.heap.size 4 (bytesOf m 4)) (by rfl) (by rfl) (fun W hW _ => ?_) (fun p8 => ?_)
      · refine hardAt_call ?_ ((four_any m (by omega) W).mono fun e w' h => ?_)
        · go_simp
        obtain ⟨u, rfl, ⟨A, c, rfl, h1, h2⟩, h3⟩ := h
        exact ⟨(A, c), rfl, ⟨h1, h2.mono hW.size⟩, h3⟩
      obtain ⟨A8, c8⟩ := p8
      simp only [Act.put, one_f, outB_f, outNew_f, outI_f, outLit_f, outLitS_f, outDone_f, List.setIfInBounds_toArray, List.set_cons_zero, List.set_cons_succ]
      refine free_hard (outLitS w2.heap.size 3 26 (Reads [bytesOf r 2, [1], bytesOf m 4])) (by rfl) (by rfl) (fun W hW hp => ?_) (fun (p9 : Nat) => ?_)
      · have f5 := (hp 5 (by decide)).1
        have f8 := (hp 8 (by decide)).1
        obtain ⟨f5, _⟩ : W.heap[p5]? = some (.cells #[.int .u8 1] 5 (0, 0)) ∧ w2.heap.size ≤ p5 := f5
        obtain ⟨f8, _⟩ : Bys W W.heap.size (.slice A8 4 c8) (bytesOf m 4) ∧ _ := f8
        have hR : Reads [bytesOf r 2, [1], bytesOf m 4] [.slice A2 2 c2, .slice (some ⟨p5, 0, none⟩) 1 1, .slice A8 4 c8] W := by
          refine ⟨rfl, fun i v l hv hl => ?_⟩
          have hlit : Bys W W.heap.size (.slice (some ⟨p5, 0, none⟩) 1 1) [(1 : UInt8)] := Bys.lit (l := [(1 : UInt8)]) f5 (by simp [maxLen])
          rcases i with _ | _ | _ | i
          · simp at hv hl; subst hv; subst hl; exact (hb2.below hW).more hW.size
          · simp at hv hl; subst hv; subst hl; exact hlit
          · simp at hv hl; subst hv; subst hl; exact f8
          · simp at hv
        refine hardAt_litS (cs := #[.slice A2 2 c2, .slice (some ⟨p5, 0, none⟩) 1 1, .slice A8 4 c8]) ?_ hW.size rfl ?_
        · go_simp
        · exact Reads.stable _ _ _ _ (Ext.alloc _ _) hR
      simp only [Act.put, one_f, outB_f, outNew_f, outI_f, outLit_f, outLitS_f, outDone_f, List.setIfInBounds_toArray, List.set_cons_zero, List.set_cons_succ]
      refine free_hard (outB w2.heap.size 7 vb) (by rfl) (by rfl) (fun W hW hp => ?_) (fun p10 => ?_)
      · obtain ⟨_, cs, hcs, hrow, hR⟩ := (hp 9 (by decide)).1
        have hlen : [bytesOf r 2, [(1 : UInt8)], bytesOf m 4].flatten.length = 7 := by simp [l2.out, l4.out]
        refine hardAt_call ?_ ((concat8_any (some ⟨p9, 0, none⟩) 3 3 cs.toList [bytesOf r 2, [1], bytesOf m 4] (by simpa using hcs) rfl W (Rd.row hrow 3 hcs) (fun i v l h1 h2 => hR.2 i v l h1 h2) (by omega) (by omega)).mono fun e w' h => ?_)
        · go_simp
        rw [hlen] at h
        obtain ⟨p, h1, h2, h3⟩ := outB_of_own h hW.size
        have HB' := HB.out
        simp only [Bool.false_eq_true, if_false, if_true] at HB'
        rw [← HB'] at h1 h2
        exact ⟨p, h1, h2, h3⟩
      obtain ⟨A10, c10⟩ := p10
      simp only [Act.put, one_f, outB_f, outNew_f, outI_f, outLit_f, outLitS_f, outDone_f, List.setIfInBounds_toArray, List.set_cons_zero, List.set_cons_succ]
      repeat ((first | (refine free_plain ?_ (by rfl) (by rfl) (fun W hW _ => ⟨W, ?_, Ext.refl W⟩) ?_; rotate_left; (first | (go_simp; with_reducible rfl) | (go_simp; done))) | (refine free_skip (by rfl) ?_)); try simp only [Act.put, one_f, outB_f, outNew_f, outI_f, outLit_f, outLitS_f, outDone_f, List.setIfInBounds_toArray, List.set_cons_zero, List.set_cons_succ])
      refine free_nil (hK _ _ fun W hW hF => ?_)
      obtain ⟨f10, g10⟩ : Bys W W.heap.size (.slice A10 7 c10) vb ∧ From w2.heap.size (.slice A10 7 c10) := (hF 10).1
      clear hF hK hE
      have b3 : Ext w W := b2.trans hW
      have q3 := row_ext q2 hW
      have kq := cells_row q3
      have fq := frozen_row q3
      dsimp only [List.drop]
      go_wp2
      have hgt : w.heap.size + 1 < w2.heap.size := s2
      have hby := ((((f10.setCell g10 (p := ⟨w.heap.size + 1, 0, none⟩) hgt (.int .u8 1)).setCell g10 (p := ⟨w.heap.size + 1, 1, none⟩) hgt (.int .u32 vi)).setCell g10 (p := ⟨w.heap.size + 1, 2, none⟩) hgt (.int .u32 0)).setCell g10 (p := ⟨w.heap.size + 1, 3, none⟩) hgt (.int .i64 0)).setCell g10 (p := ⟨w.heap.size + 1, 4, none⟩) hgt (.slice A10 7 c10)
      have rf := row_set (row_set (row_set (row_set (row_set q3 0 (.int .u8 1)) 1 (.int .u32 vi)) 2 (.int .u32 0)) 3 (.int .i64 0)) 4 (.slice A10 7 c10)
      have b3' : Below w.heap.size w W := b3
      have bf : Below w.heap.size w (((((W.setCell ⟨w.heap.size + 1, 0, none⟩ (.int .u8 1)).setCell ⟨w.heap.size + 1, 1, none⟩ (.int .u32 vi)).setCell ⟨w.heap.size + 1, 2, none⟩ (.int .u32 0)).setCell ⟨w.heap.size + 1, 3, none⟩ (.int .i64 0)).setCell ⟨w.heap.size + 1, 4, none⟩ (.slice A10 7 c10)) := (by repeat' (first | with_reducible exact Below.refl _ _ | with_reducible assumption | with_reducible apply Below.drew | with_reducible apply below_drewN | with_reducible refine Below.alloc ?_ ?_ _ | with_reducible refine Below.setCell ?_ ?_ _ | (simp; done) | (simp; omega) | omega))
      have hsz : (((((W.setCell ⟨w.heap.size + 1, 0, none⟩ (.int .u8 1)).setCell ⟨w.heap.size + 1, 1, none⟩ (.int .u32 vi)).setCell ⟨w.heap.size + 1, 2, none⟩ (.int .u32 0)).setCell ⟨w.heap.size + 1, 3, none⟩ (.int .i64 0)).setCell ⟨w.heap.size + 1, 4, none⟩ (.slice A10 7 c10)).heap.size = W.heap.size := by simp
      generalize hwf : (World.setCell (World.setCell (World.setCell (World.setCell (World.setCell W _ _) _ _) _ _) _ _) _ _) = wf at *
      have kf := cells_row rf
      rw [← hsz] at hby
      exact bodyPost_ret (v := itemV 1 vi 0 0 A10 7 c10) (by simp [results, Try.results129, go_sem, kf]) rfl ⟨_, rfl, ⟨A10, c10, by rw [HL.out], by rw [HL.out]; exact hby, by rw [HL.out]; exact g10.mono (by omega)⟩, bf⟩
end Go.Proofs.Ytlgbjpihmkeopaa
/- Stores in regions that draw their order. -/
namespace Go.Proofs.Ytlgbjpihmkeopaa
set_option linter.unusedSimpArgs false
set_option linter.unusedVariables false
open Go.RowKit

def extRel : Rel where
  rel := Ext
  refl' := Ext.refl
  trans' := Ext.trans
  drew' := Ext.drew
theorem stableG_ext {φ : World → Prop} (h : Stable φ) : StableG extRel φ := fun W W' he => h W W' he
theorem hardAt_newE {P : Program} {o : Oper} {a : Act} {W : World} {lo' : Nat} {ty : TypeId} {cs : Array Value} (hr : (execOp a.eval o).run P W = .ok (.value (.pointer (some ⟨W.heap.size, 0, none⟩))) (W.alloc (.cells cs ty)))
    (hlo : lo' ≤ W.heap.size) : hardAtG extRel P o a W (outNew lo' ty cs) := by
  unfold hardAtG; rw [hr]; exact ⟨W.heap.size, rfl, ⟨World.alloc_heap_at _ _ _ rfl, hlo⟩, Ext.alloc _ _⟩
def cellRel (B : Nat) (ty : TypeId) (vs : Nat → Option Value) : Rel where
  rel W W' := W.grownBy W' (some B) ∧ ∀ cs, W.heap[B]? = some (.cells cs ty (0, 0)) → ∃ cs', W'.heap[B]? = some (.cells cs' ty (0, 0)) ∧ cs'.size = cs.size ∧ ∀ j, cs'[j]? = cs[j]? ∨ (vs j ≠ none ∧ cs'[j]? = vs j)
  refl' W := ⟨World.grownBy.refl _ _, fun cs h => ⟨cs, h, rfl, fun _ => .inl rfl⟩⟩
  trans' h k := ⟨h.1.trans k.1, fun cs hc => by
    obtain ⟨c1, h1, h2, h3⟩ := h.2 cs hc
    obtain ⟨c2, k1, k2, k3⟩ := k.2 c1 h1
    refine ⟨c2, k1, k2.trans h2, fun j => ?_⟩
    rcases k3 j with e | e
    · rw [e]; exact h3 j
    · exact .inr e⟩
  drew' W := ⟨⟨rfl, rfl, rfl, Nat.le_refl _, fun _ _ _ => rfl⟩, fun cs h => ⟨cs, h, rfl, fun _ => .inl rfl⟩⟩
section
variable {B : Nat} {ty : TypeId} {vs : Nat → Option Value}
theorem cellRel_cell {W W' : World} (h : (cellRel B ty vs).r W W') {p : Addr} {u : Value} (hp : p.block ≠ B) (hc : W.cell? p = some u) : W'.cell? p = some u :=
  World.grownBy.cell h.1 hc (fun x => hp (by simpa using x))
theorem cellRel_row {W W' : World} (h : (cellRel B ty vs).r W W') {b : Nat} {o : Obj} (hp : b ≠ B) (hc : W.heap[b]? = some o) : W'.heap[b]? = some o :=
  (h.1.block b (Array.getElem?_eq_some_iff.1 hc).1 (fun x => hp (by simpa using x))).trans hc
theorem cellRel_set {W : World} {cs : Array Value} {j : Nat} {v : Value} (h : W.heap[B]? = some (.cells cs ty (0, 0))) (hv : vs j = some v) (hj : j < cs.size) :
    (cellRel B ty vs).r W (W.setCell ⟨B, j, none⟩ v) ∧ (W.setCell ⟨B, j, none⟩ v).cell? ⟨B, j, none⟩ = some v := by
  have hr := row_set h j v
  refine ⟨⟨⟨rfl, rfl, rfl, by simp, fun k _ hk => Below.heap_setCell _ _ _ _ (fun e => hk (by simp at e; rw [e]))⟩, fun cs' hc => ?_⟩, ?_⟩
  · rw [h] at hc
    simp only [Option.some.injEq, Obj.cells.injEq, and_true] at hc
    subst hc
    refine ⟨_, hr, by simp, fun k => ?_⟩
    by_cases hk : j = k
    · subst hk
      exact .inr ⟨by rw [hv]; simp, by rw [hv]; simp [hj]⟩
    · exact .inl (by simp [hk])
  · rw [cells_row hr]
    simp [hj]
end
def outSet (B : Nat) (ty : TypeId) (j : Nat) (v : Value) : Outs := ⟨Unit, fun _ => undef, fun _ W => ∃ cs, W.heap[B]? = some (.cells cs ty (0, 0)) ∧ cs[j]? = some v⟩
theorem outSet_f (B : Nat) (ty : TypeId) (j : Nat) (v : Value) (u : Unit) : (outSet B ty j v).f u = undef := rfl
theorem outSet_stable {B : Nat} {ty : TypeId} {vs : Nat → Option Value} {j : Nat} {v : Value} (hv : vs j = some v) : ∀ p, StableG (cellRel B ty vs) ((outSet B ty j v).φ p) := by
  intro p W W' he ⟨cs, h1, h2⟩
  obtain ⟨c', k1, _, k3⟩ := he.2 cs h1
  refine ⟨c', k1, ?_⟩
  rcases k3 j with e | e
  · rw [e]; exact h2
  · rw [e.2]; exact hv
theorem hardAt_set {P : Program} {o : Oper} {a : Act} {w W : World} {B : Nat} {ty : TypeId} {vs : Nat → Option Value} {j : Nat} {v : Value} {cs : Array Value} (h0 : w.heap[B]? = some (.cells cs ty (0, 0))) (hW : (cellRel B ty vs).r w W) (hv : vs j = some v) (hj : j < cs.size)
    (hr : (∀ i, W.frozen? ⟨B, i, none⟩ = false) → (∃ u, W.cell? ⟨B, j, none⟩ = some u) → (execOp a.eval o).run P W = .ok .skip (W.setCell ⟨B, j, none⟩ v)) : hardAtG (cellRel B ty vs) P o a W (outSet B ty j v) := by
  obtain ⟨c', k1, k2, k3⟩ := hW.2 cs h0
  obtain ⟨g1, g2⟩ := cellRel_set (vs := vs) k1 hv (by omega)
  refine hardAt_skipG (hr (frozen_row k1) ⟨_, by rw [cells_row k1, Array.getElem?_eq_getElem (by omega)]⟩) ⟨(), rfl, ?_, g1⟩
  exact ⟨_, row_set k1 j v, by rw [Array.getElem?_setIfInBounds]; simp [k2, hj]⟩
def rowRel (B : Nat) (ty : TypeId) (cs : Array Value) : Rel where
  rel W W' := W.grownBy W' (some B) ∧ (B < W.heap.size → W'.heap[B]? = W.heap[B]? ∨ W'.heap[B]? = some (.cells cs ty (0, 0)))
  refl' W := ⟨World.grownBy.refl _ _, fun _ => .inl rfl⟩
  trans' h k := ⟨h.1.trans k.1, fun hb => by
    rcases k.2 (Nat.lt_of_lt_of_le hb h.1.size) with e | e
    · rw [e]; exact h.2 hb
    · exact .inr e⟩
  drew' W := ⟨⟨rfl, rfl, rfl, Nat.le_refl _, fun _ _ _ => rfl⟩, fun _ => .inl rfl⟩
section
variable {B : Nat} {ty : TypeId} {cs : Array Value}
theorem rowRel_row {W W' : World} (h : (rowRel B ty cs).r W W') {b : Nat} {o : Obj} (hp : b ≠ B) (hc : W.heap[b]? = some o) : W'.heap[b]? = some o :=
  (h.1.block b (Array.getElem?_eq_some_iff.1 hc).1 (fun x => hp (by simpa using x))).trans hc
theorem rowRel_own {W W' : World} (h : (rowRel B ty cs).r W W') {o : Obj} (hc : W.heap[B]? = some o) : W'.heap[B]? = some o ∨ W'.heap[B]? = some (.cells cs ty (0, 0)) := by
  have := h.2 (Array.getElem?_eq_some_iff.1 hc).1
  rwa [hc] at this
theorem rowRel_below {W W' : World} {B0 : Nat} (h : (rowRel B ty cs).r W W') (h1 : B0 ≤ B) (h2 : B0 ≤ W.heap.size) : Below B0 W W' := (Below.refl _ _).grown h.1 h2 (fun g hg => by simp at hg; omega)
end
def outRowB (B : Nat) (ty : TypeId) (cs : Array Value) : Outs := ⟨Unit, fun _ => undef, fun _ W => W.heap[B]? = some (.cells cs ty (0, 0))⟩
theorem outRowB_f (B : Nat) (ty : TypeId) (cs : Array Value) (u : Unit) : (outRowB B ty cs).f u = undef := rfl
theorem outRowB_stable {B : Nat} {ty : TypeId} {cs : Array Value} : ∀ p, StableG (rowRel B ty cs) ((outRowB B ty cs).φ p) := by
  intro p W W' he h
  rcases rowRel_own he h with e | e <;> exact e
theorem hardAt_rowB {P : Program} {o : Oper} {a : Act} {W w' : World} {B : Nat} {ty : TypeId} {cs : Array Value} (hr : (execOp a.eval o).run P W = .ok .skip w') (hg : W.grownBy w' (some B)) (hw : w'.heap[B]? = some (.cells cs ty (0, 0))) : hardAtG (rowRel B ty cs) P o a W (outRowB B ty cs) :=
  hardAt_skipG hr ⟨(), rfl, hw, hg, fun _ => .inr hw⟩
theorem grown_set {w : World} {b j : Nat} {v : Value} : w.grownBy (w.setCell ⟨b, j, none⟩ v) (some b) := ⟨rfl, rfl, rfl, by simp, fun k _ hk => Below.heap_setCell _ _ _ _ (fun e => hk (by simp at e; rw [e]))⟩
theorem setCell_same {w : World} {b j : Nat} {v : Value} {cs : Array Value} {ty : TypeId} (h : w.heap[b]? = some (.cells cs ty (0, 0))) (hv : cs[j]? = some v) : Ext w (w.setCell ⟨b, j, none⟩ v) := by
  refine ⟨rfl, rfl, rfl, by simp, fun k _ => ?_⟩
  by_cases hk : k = b
  · subst hk
    rw [row_set h j v, h]
    obtain ⟨hj, e⟩ := Array.getElem?_eq_some_iff.1 hv
    have : cs.setIfInBounds j v = cs := by
      apply Array.ext_getElem?
      intro i
      rw [Array.getElem?_setIfInBounds]
      split
      · rename_i hi; rw [← hi]; simp [hj, e]
      · rfl
    rw [this]
  · exact Below.heap_setCell _ _ _ _ hk
end Go.Proofs.Ytlgbjpihmkeopaa
/- Contracts: the volume of an item, of the program. -/
namespace Go.Proofs.Ytlgbjpihmkeopaa
set_option linter.unusedSimpArgs false
set_option linter.unusedVariables false
open Go.RowKit

def VolP (x : It) (u : Value) (_ : World) : Prop := ∃ v', u = .tuple #[volV v', .bool (isVol x)] ∧ (isVol x = true → v' = volAt x)
theorem isVol_short {x : It} (h : x.val.length < 7) : isVol x = false := by unfold isVol; rw [decide_eq_false (by omega)]; rfl
theorem isVol_long {x : It} (h : 7 ≤ x.val.length) : isVol x = sameB 1 x.i 0 0 x.k x.i x.o x.r (volBytes (volAt x)) x.val := by
  unfold isVol
  by_cases h7 : x.val.length = 7
  · rw [decide_eq_true h7, Bool.true_and]
  · rw [decide_eq_false h7, Bool.false_and]
    symm
    unfold sameB
    rw [decide_eq_false]
    rintro ⟨_, _, _, _, e⟩
    have := congrArg List.length e
    rw [volBytes_len] at this
    omega
theorem volAt_ok {x : It} (hx : ItOk x) (h : 7 ≤ x.val.length) : VolOk (volAt x) := by
  have r0 := numAt_range (l := x.val) (a := 0) (k := 2) (by omega)
  have r3 := numAt_range (l := x.val) (a := 3) (k := 4) (by omega)
  exact ⟨hx.2.1, ⟨r0.1, r0.2⟩, ⟨r3.1, r3.2⟩⟩

set_option maxHeartbeats 4000000 in
set_option maxRecDepth 100000 in
theorem volume_any (x : It) (hx : ItOk x) (A : Option Addr) (c : Nat) (w : World) (h : Bys w w.heap.size (.slice A x.val.length c) x.val) :
    Calls Try.prog 104 #[itemV x.k x.i x.o x.r A x.val.length c] w (RetS (VolP x) w) := by
  have H2 : ∀ W, Ext w W → _ := fun W hW => gettwo_any _ x.val 0 (by omega) W ((h.below hW).more hW.size)
  have H4 : ∀ W, Ext w W → _ := fun W hW => getfour_any _ x.val 3 (by omega) W ((h.below hW).more hW.size)
  replace H2 := Lib.hid H2
  replace H4 := Lib.hid H4
  have HV := Lib.hid h
  have hcat := h.at_
  clear h
  have hcell : ∀ j, (hj : j < x.val.length) → ∃ b off, A = some ⟨b, off, none⟩ ∧ w.cell? ⟨b, off + j, none⟩ = some (.int .u8 (x.val[j].toNat : Int)) := by
    intro j hj
    obtain ⟨A', c', e, _, _, hr⟩ := HV.out
    cases e
    obtain ⟨b, off, rfl, hb, hc⟩ := hr.2 (by omega)
    exact ⟨b, off, rfl, hc j _ (by rw [List.getElem?_map, List.getElem?_eq_getElem hj]; rfl)⟩
  replace hcell := Lib.hid hcell
  have HN2 : Hid (numE x.val 0 2 = if 2 ≤ x.val.length then 0 else 8) := Lib.hid (by unfold numE; rw [Nat.zero_add])
  have HN4 : Hid (numE x.val 3 4 = if 7 ≤ x.val.length then 0 else 8) := Lib.hid (by unfold numE; rfl)
  have HVA : Hid (volAt x = ⟨x.i, numAt x.val 0 2, decide ((x.val[2]?.getD 0).toNat = 1), numAt x.val 3 4⟩) := rfl
  have HP0 : Hid (x.val.length < 7 → ∀ W, VolP x (.tuple #[volV ⟨0, 0, false, 0⟩, .bool false]) W) := Lib.hid (fun h W => ⟨_, by rw [isVol_short h], fun h' => by rw [isVol_short h] at h'; cases h'⟩)
  have HP1 : Hid (7 ≤ x.val.length → ∀ W, VolP x (.tuple #[volV (volAt x), .bool (sameB 1 x.i 0 0 x.k x.i x.o x.r (volBytes (volAt x)) x.val)]) W) := Lib.hid (fun h W => ⟨_, by rw [isVol_long h], fun _ => rfl⟩)
  have HON := Lib.hid (fun h => one_any (volAt x) (volAt_ok hx h))
  replace hx := Lib.hid hx
  generalize hva : volAt x = va at *
  replace hva := Lib.hid hva
  generalize numAt x.val 0 2 = n2 at *
  generalize numAt x.val 3 4 = n4 at *
  generalize numE x.val 0 2 = e2 at *
  generalize numE x.val 3 4 = e4 at *
  go_enter Try.func104, Try.ntmps104
  go_wp2_with fail
  generalize hw1 : (World.alloc (World.alloc _ _) _) = w1
  have b1 : Ext w w1 := by rw [← hw1]; exact (Ext.alloc _ _).trans (Ext.alloc _ _)
  have r1 : w1.heap[w.heap.size]? = some (.cells #[.int .u8 x.k, .int .u32 x.i, .int .u32 x.o, .int .i64 x.r, .slice A x.val.length c] 151 (0, 0)) := by rw [← hw1]; exact (Below.heap_alloc _ _ _ (by simp)).trans (World.alloc_heap_at _ _ _ rfl)
  have q1 : w1.heap[w.heap.size + 1]? = some (.cells #[.int .u32 x.i, .int .i64 0, .bool false, .int .u32 0] 113 (0, 0)) := by rw [← hw1]; exact World.alloc_heap_at _ _ _ (by simp)
  clear hw1
  refine (H2.out _ b1).mono ?_
  rintro e w2 ⟨rfl, hB⟩
  have b2 : Ext w w2 := Ext.trans b1 hB
  have r2 := row_ext r1 hB
  have q2 := row_ext q1 hB
  have k2 := cells_row r2
  clear hB b1 r1 q1 H2
  go_wp2_with fail
  clear k2
  refine (H4.out _ b2).mono ?_
  rintro e w3 ⟨rfl, hB⟩
  have b3 : Ext w w3 := Ext.trans b2 hB
  have r3 := row_ext r2 hB
  have q3 := row_ext q2 hB
  have s3 : w.heap.size + 1 < w3.heap.size := (Array.getElem?_eq_some_iff.1 q3).1
  have k3 := cells_row r3
  have kq3 := cells_row q3
  have fq3 := frozen_row q3
  clear hB b2 r2 q2 H4
  by_cases h7 : 7 ≤ x.val.length
  · obtain rfl : e2 = 0 := by rw [HN2.out, if_pos (by omega)]
    obtain rfl : e4 = 0 := by rw [HN4.out, if_pos h7]
    obtain ⟨b, off, rfl, hc2⟩ := hcell.out 2 (by omega)
    have e2' : (x.val[2]?.getD 0).toNat = x.val[2].toNat := by rw [List.getElem?_eq_getElem (by omega)]; rfl
    rw [e2'] at HVA
    clear HN2 HN4 HP0 hcell e2'
    generalize x.val[2].toNat = p2 at *
    have hcat' := hcat.2
    go_wp2
    obtain ⟨RR, hRR⟩ : ∃ RR : Rel, RR = cellRel (w.heap.size + 1) 113 (fun j => if j = 1 then some (.int .i64 n2) else if j = 2 then some (.bool (decide (p2 = 1))) else if j = 3 then some (.int .u32 n4) else none) := ⟨_, rfl⟩
    replace hRR := Lib.hid hRR
    have g1 : ∀ W, RR.r w3 W → W.cell? ⟨w.heap.size, 4, none⟩ = some (.slice (some ⟨b, off, none⟩) x.val.length c) := fun W h => cellRel_cell (hRR.out ▸ h) (by simp) (by rw [k3]; rfl)
    have hbw : b ≠ w.heap.size + 1 := by have := World.block_lt_of_cell? w _ hc2; simp at this; omega
    have g2 : ∀ W, RR.r w3 W → W.cell? ⟨b, off + 2, none⟩ = some (.int .u8 (p2 : Int)) := fun W h => cellRel_cell (hRR.out ▸ h) hbw (Ext.cell b3 hc2)
    have hq1 : ((p2 : Int) == 1) = decide (p2 = 1) := by rw [Bool.eq_iff_iff]; simp; omega
    have i2 : (2 : Int) < (x.val.length : Int) := by omega
    refine region_start (by kernel_rfl) ?_
    refine any_free (w := w3) RR (outsAt [(8, outSet (w.heap.size + 1) 113 1 (.int .i64 n2)), (10, outSet (w.heap.size + 1) 113 2 (.bool (decide (p2 = 1)))), (12, outSet (w.heap.size + 1) 113 3 (.int .u32 n4))])
      [true, true, true, true, true, true, true, true, true, true, true, true, true] 0 (by kernel_rfl) (by kernel_rfl) (by kernel_rfl) (by kernel_rfl) (by kernel_rfl) (by kernel_rfl) ?st (Rel.drew _ _) ?walk
    case st => rw [hRR.out]; exact outsAt_stableG (by simp only [List.forall_mem_cons]; exact ⟨outSet_stable rfl, outSet_stable rfl, outSet_stable rfl, fun _ h => by cases h⟩)
    case walk =>
      intro K hK
      dsimp only [maskOps]
      repeat ((first | (refine free_plainM ?_ (by rfl) (by rfl) (fun W hW _ => ⟨W, ?_, Rel.refl _ W⟩) ?_; rotate_left; (first | (go_simp; with_reducible rfl) | (go_simp; done))) | (refine free_skipM (by rfl) ?_)); try simp only [Act.put, one_f, outB_f, outNew_f, outI_f, outSet_f, List.setIfInBounds_toArray, List.set_cons_zero, List.set_cons_succ])
      refine free_hardM (outSet (w.heap.size + 1) 113 1 (.int .i64 n2)) (by rfl) (by rfl) (fun W hW _ => ?_) (fun p => ?_)
      · rw [hRR.out] at hW ⊢
        refine hardAt_set (j := 1) q3 hW rfl (by simp) (fun hf hu => ?_)
        obtain ⟨u, hu⟩ := hu
        go_simp
      cases p
      simp only [Act.put, one_f, outB_f, outNew_f, outI_f, outSet_f, List.setIfInBounds_toArray, List.set_cons_zero, List.set_cons_succ]
      repeat ((first | (refine free_plainM ?_ (by rfl) (by rfl) (fun W hW _ => ⟨W, ?_, Rel.refl _ W⟩) ?_; rotate_left; (first | (go_simp; with_reducible rfl) | (go_simp; done))) | (refine free_skipM (by rfl) ?_)); try simp only [Act.put, one_f, outB_f, outNew_f, outI_f, outSet_f, List.setIfInBounds_toArray, List.set_cons_zero, List.set_cons_succ])
      refine free_hardM (outSet (w.heap.size + 1) 113 2 (.bool (decide (p2 = 1)))) (by rfl) (by rfl) (fun W hW _ => ?_) (fun p => ?_)
      · rw [hRR.out] at hW ⊢
        refine hardAt_set (j := 2) q3 hW rfl (by simp) (fun hf hu => ?_)
        obtain ⟨u, hu⟩ := hu
        go_simp
      cases p
      simp only [Act.put, one_f, outB_f, outNew_f, outI_f, outSet_f, List.setIfInBounds_toArray, List.set_cons_zero, List.set_cons_succ]
      repeat ((first | (refine free_plainM ?_ (by rfl) (by rfl) (fun W hW _ => ⟨W, ?_, Rel.refl _ W⟩) ?_; rotate_left; (first | (go_simp; with_reducible rfl) | (go_simp; done))) | (refine free_skipM (by rfl) ?_)); try simp only [Act.put, one_f, outB_f, outNew_f, outI_f, outSet_f, List.setIfInBounds_toArray, List.set_cons_zero, List.set_cons_succ])
      refine free_hardM (outSet (w.heap.size + 1) 113 3 (.int .u32 n4)) (by rfl) (by rfl) (fun W hW _ => ?_) (fun p => ?_)
      · rw [hRR.out] at hW ⊢
        refine hardAt_set (j := 3) q3 hW rfl (by simp) (fun hf hu => ?_)
        obtain ⟨u, hu⟩ := hu
        go_simp
      cases p
      simp only [Act.put, one_f, outB_f, outNew_f, outI_f, outSet_f, List.setIfInBounds_toArray, List.set_cons_zero, List.set_cons_succ]
      repeat ((first | (refine free_plainM ?_ (by rfl) (by rfl) (fun W hW _ => ⟨W, ?_, Rel.refl _ W⟩) ?_; rotate_left; (first | (go_simp; with_reducible rfl) | (go_simp; done))) | (refine free_skipM (by rfl) ?_)); try simp only [Act.put, one_f, outB_f, outNew_f, outI_f, outSet_f, List.setIfInBounds_toArray, List.set_cons_zero, List.set_cons_succ])
      refine free_nilM (hK _ _ fun W0 hW hF => ?_)
      have f1 := (hF 8).1
      have f2 := (hF 10).1
      have f3 := (hF 12).1
      clear hF hK g1 g2
      rw [hRR.out] at hW
      have r4 := cellRel_row hW (by simp) r3
      obtain ⟨cs, q4, hcs, hcv⟩ := hW.2 _ q3
      obtain rfl : cs = #[.int .u32 x.i, .int .i64 n2, .bool (decide (p2 = 1)), .int .u32 n4] := by
        have e0 := hcv 0
        simp at e0
        obtain ⟨c1, h1, h1'⟩ := f1
        obtain ⟨c2, h2, h2'⟩ := f2
        obtain ⟨c3, h3, h3'⟩ := f3
        rw [q4] at h1 h2 h3
        simp only [Option.some.injEq, Obj.cells.injEq, and_true] at h1 h2 h3
        subst h1
        subst h2
        apply Array.ext_getElem?
        intro j
        rcases j with _ | _ | _ | _ | j
        · rw [e0]; rfl
        · exact h1'
        · exact h2'
        · rw [← h3] at h3'; exact h3'
        · rw [Array.getElem?_eq_none (by rw [hcs]; simp), Array.getElem?_eq_none (by simp)]
      have bW : Below w.heap.size w W0 := Below.trans b3 ((Below.refl _ _).grown hW.1 (by omega) (fun g hg => by simp at hg; omega))
      dsimp only [List.drop, List.length_cons, List.length_nil]
      go_wp2
      refine QN_in ?_
      go_wp2
      have HO := Lib.hid (HON.out h7)
      have HP := HP1.out h7
      have hvbl := volBytes_len va
      have hvx := (HV.out.below bW).more bW.size
      have ea := HVA.out
      clear HON HP1 HVA hva HV
      subst ea
      dsimp only at HO HP
      generalize volBytes _ = vb at *
      replace HO := Lib.hid HO.out
      have HSM := Lib.hid (fun A c W (hA : Bys W W.heap.size (.slice A 7 c) vb) (hW2 : Ext W0 W) => isame_any 1 x.i 0 0 x.k x.i x.o x.r A (some ⟨b, off, none⟩) 7 c x.val.length _ vb x.val W hA ((hvx.below hW2).more hW2.size))
      generalize sameB 1 x.i 0 0 x.k x.i x.o x.r vb x.val = S at *
      have hr5 : ∀ W', Ext W0 W' → ∀ j, W'.cell? ⟨w.heap.size, j, none⟩ = #[.int .u8 x.k, .int .u32 x.i, .int .u32 x.o, .int .i64 x.r, .slice (some ⟨b, off, none⟩) x.val.length c][j]? := fun W' h => cells_row (row_ext r4 h)
      have hq5 : ∀ W', Ext W0 W' → ∀ j, W'.cell? ⟨w.heap.size + 1, j, none⟩ = #[.int .u32 x.i, .int .i64 n2, .bool (decide (p2 = 1)), .int .u32 n4][j]? := fun W' h => cells_row (row_ext q4 h)
      replace HP := Lib.hid HP
      generalize hdp : decide (p2 = 1) = fz at *
      clear hdp
      refine region_start (by kernel_rfl) ?_
      refine any_free (w := W0) extRel (outsAt [(2, outI 1 x.i 0 0 7 vb), (4, one (.bool S)), (5, one undef)])
        [true, true, true, true, true, true] 1 (by kernel_rfl) (by kernel_rfl) (by kernel_rfl) (by kernel_rfl) (by kernel_rfl) (by kernel_rfl) ?st (Rel.drew _ _) ?walk
      case st => exact outsAt_stableG (by simp only [List.forall_mem_cons]; exact ⟨fun p => stableG_ext (outI_stable _ _ _ _ _ _ p), fun p => stableG_ext (one_stable _ p), fun p => stableG_ext (one_stable _ p), fun _ h => by cases h⟩)
      case walk =>
        intro K hK
        dsimp only [maskOps]
        have hr6 : ∀ W', extRel.r W0 W' → ∀ j, W'.cell? ⟨w.heap.size, j, none⟩ = #[.int .u8 x.k, .int .u32 x.i, .int .u32 x.o, .int .i64 x.r, .slice (some ⟨b, off, none⟩) x.val.length c][j]? := hr5
        have hq6 : ∀ W', extRel.r W0 W' → ∀ j, W'.cell? ⟨w.heap.size + 1, j, none⟩ = #[.int .u32 x.i, .int .i64 n2, .bool fz, .int .u32 n4][j]? := hq5
        repeat ((first | (refine free_plainM ?_ (by rfl) (by rfl) (fun W hW _ => ⟨W, ?_, Rel.refl _ W⟩) ?_; rotate_left; (first | (go_simp; with_reducible rfl) | (go_simp; done))) | (refine free_skipM (by rfl) ?_)); try simp only [Act.put, one_f, outB_f, outNew_f, outI_f, outSet_f, List.setIfInBounds_toArray, List.set_cons_zero, List.set_cons_succ])
        refine free_hardM (outI 1 x.i 0 0 7 vb) (by rfl) (by rfl) (fun W hW _ => ?_) (fun p => ?_)
        · refine hardAt_callG ?_ ((HO.out W).mono fun e w' h => ?_)
          · go_simp
          · obtain ⟨u, rfl, ⟨A, c, rfl, h1, h2⟩, h3⟩ := h
            rw [hvbl] at h1 ⊢
            exact ⟨(A, c), rfl, h1, h3⟩
        obtain ⟨A2, c2⟩ := p
        simp only [Act.put, one_f, outB_f, outNew_f, outI_f, outSet_f, List.setIfInBounds_toArray, List.set_cons_zero, List.set_cons_succ]
        repeat ((first | (refine free_plainM ?_ (by rfl) (by rfl) (fun W hW _ => ⟨W, ?_, Rel.refl _ W⟩) ?_; rotate_left; (first | (go_simp; with_reducible rfl) | (go_simp; done))) | (refine free_skipM (by rfl) ?_)); try simp only [Act.put, one_f, outB_f, outNew_f, outI_f, outSet_f, List.setIfInBounds_toArray, List.set_cons_zero, List.set_cons_succ])
        refine free_hardM (one (.bool S)) (by rfl) (by rfl) (fun W hW hp => ?_) (fun p => ?_)
        · have f2 : Bys W W.heap.size (.slice A2 7 c2) vb := (hp 2 (by decide)).1
          refine hardAt_callG ?_ ((HSM.out A2 c2 W f2 hW).mono fun e w' h => ⟨(), h.1, trivial, h.2⟩)
          go_simp
        cases p
        simp only [Act.put, one_f, outB_f, outNew_f, outI_f, outSet_f, List.setIfInBounds_toArray, List.set_cons_zero, List.set_cons_succ]
        refine free_hardM (one undef) (by rfl) (by rfl) (fun W hW hp => ?_) (fun p => ?_)
        · have q5 := row_ext q4 hW
          have k5 := cells_row q5
          have f5 := frozen_row q5
          have e0 := setCell_same q5 (j := 0) rfl
          have e1 := setCell_same (row_ext q5 e0) (j := 1) rfl
          have e2 := setCell_same (row_ext (row_ext q5 e0) e1) (j := 2) rfl
          have e3 := setCell_same (row_ext (row_ext (row_ext q5 e0) e1) e2) (j := 3) rfl
          refine hardAt_skipG (w' := (((W.setCell ⟨w.heap.size + 1, 0, none⟩ (.int .u32 x.i)).setCell ⟨w.heap.size + 1, 1, none⟩ (.int .i64 n2)).setCell ⟨w.heap.size + 1, 2, none⟩ (.bool fz)).setCell ⟨w.heap.size + 1, 3, none⟩ (.int .u32 n4)) ?_ ⟨(), rfl, trivial, e0.trans (e1.trans (e2.trans e3))⟩
          go_simp
        cases p
        simp only [Act.put, one_f, outB_f, outNew_f, outI_f, outSet_f, List.setIfInBounds_toArray, List.set_cons_zero, List.set_cons_succ]
        refine free_nilM (hK _ _ fun W hW hF => ?_)
        clear hF hK hr6 hq6 hr5 hq5
        have hW' : Ext W0 W := hW
        have q5 := row_ext q4 hW'
        have k5 := cells_row q5
        dsimp only [List.drop, List.length_cons, List.length_nil]
        go_wp2
        refine QN_in ?_
        go_wp2
        exact bodyPost_ret (v := .tuple #[volV ⟨x.i, n2, fz, n4⟩, .bool S]) (by simp [results, Try.results104, go_sem, k5]) rfl ⟨_, rfl, HP.out W, Below.trans bW (Below.mono hW' (by have := bW.size; omega))⟩
  · have h4 : e4 = 8 := by rw [HN4.out, if_neg h7]
    have h2 : e2 = 0 ∨ e2 = 8 := by rw [HN2.out]; split <;> simp
    have hp := HP0.out (by omega)
    replace hp := Lib.hid hp
    subst h4
    clear HN2 HN4 HP0 HP1 HON hcell HVA
    have b3' : Below w.heap.size w w3 := b3
    rcases h2 with rfl | rfl
    · go_wp2
      have rf := row_set (row_set (row_set (row_set q3 0 (.int .u32 0)) 1 (.int .i64 0)) 2 (.bool false)) 3 (.int .u32 0)
      have bf : Below w.heap.size w ((((w3.setCell ⟨w.heap.size + 1, 0, none⟩ (.int .u32 0)).setCell ⟨w.heap.size + 1, 1, none⟩ (.int .i64 0)).setCell ⟨w.heap.size + 1, 2, none⟩ (.bool false)).setCell ⟨w.heap.size + 1, 3, none⟩ (.int .u32 0)) := (by repeat' (first | with_reducible exact Below.refl _ _ | with_reducible assumption | with_reducible apply Below.drew | with_reducible apply below_drewN | with_reducible refine Below.alloc ?_ ?_ _ | with_reducible refine Below.setCell ?_ ?_ _ | (simp; done) | (simp; omega) | omega))
      generalize hwf : (World.setCell (World.setCell (World.setCell (World.setCell w3 _ _) _ _) _ _) _ _) = wf at *
      have kf := cells_row rf
      exact bodyPost_ret (v := .tuple #[volV ⟨0, 0, false, 0⟩, .bool false]) (by simp [results, Try.results104, go_sem, kf]) rfl ⟨_, rfl, hp.out wf, bf⟩
    · go_wp2
      have rf := row_set (row_set (row_set (row_set q3 0 (.int .u32 0)) 1 (.int .i64 0)) 2 (.bool false)) 3 (.int .u32 0)
      have bf : Below w.heap.size w ((((w3.setCell ⟨w.heap.size + 1, 0, none⟩ (.int .u32 0)).setCell ⟨w.heap.size + 1, 1, none⟩ (.int .i64 0)).setCell ⟨w.heap.size + 1, 2, none⟩ (.bool false)).setCell ⟨w.heap.size + 1, 3, none⟩ (.int .u32 0)) := (by repeat' (first | with_reducible exact Below.refl _ _ | with_reducible assumption | with_reducible apply Below.drew | with_reducible apply below_drewN | with_reducible refine Below.alloc ?_ ?_ _ | with_reducible refine Below.setCell ?_ ?_ _ | (simp; done) | (simp; omega) | omega))
      generalize hwf : (World.setCell (World.setCell (World.setCell (World.setCell w3 _ _) _ _) _ _) _ _) = wf at *
      have kf := cells_row rf
      exact bodyPost_ret (v := .tuple #[volV ⟨0, 0, false, 0⟩, .bool false]) (by simp [results, Try.results104, go_sem, kf]) rfl ⟨_, rfl, hp.out wf, bf⟩
end Go.Proofs.Ytlgbjpihmkeopaa
/- Contracts: the item of a volume, of the document. -/
namespace Go.Proofs.Ytlgbjpihmkeopaa
set_option linter.unusedSimpArgs false
set_option linter.unusedVariables false
open Go.RowKit

def outDoneS (base : Nat) (e : TypeId) (size lo : Nat) (v : Value) (m : Nat) (ys : List Value) : Outs := ⟨Option Addr × Nat, fun p => .slice p.1 m p.2, fun p W => Done base e size lo v m ys (.slice p.1 m p.2) W⟩
theorem outDoneS_f (base : Nat) (e : TypeId) (size lo : Nat) (v : Value) (m : Nat) (ys : List Value) (A : Option Addr) (c : Nat) : (outDoneS base e size lo v m ys).f (A, c) = .slice A m c := rfl
theorem outDoneS_stable {base : Nat} {e : TypeId} {size lo : Nat} {v : Value} {n : Nat} {xs : List Value} {m : Nat} {ys : List Value} : ∀ p, StableG (appRel base e size lo v n xs m ys) ((outDoneS base e size lo v m ys).φ p) := fun p _ _ he h => he.2.2 _ h
theorem Bys.adds {w : World} {B : Nat} {A : Option Addr} {n c : Nat} {l : List UInt8} (h : Bys w B (.slice A n c) l) (hn : 0 < n) : ∃ a, A = some a ∧ ∀ j u, (l.map bv)[j]? = some u → w.cell? (a.add j) = some u := by
  obtain ⟨A', c', e, _, _, hr⟩ := h
  cases e
  obtain ⟨b, off, rfl, _, _⟩ := hr.2 hn
  exact ⟨_, rfl, hr.adds hn⟩

end Go.Proofs.Ytlgbjpihmkeopaa
/- Contracts: the volume of an item, of the document. -/
namespace Go.Proofs.Ytlgbjpihmkeopaa
set_option linter.unusedSimpArgs false
set_option linter.unusedVariables false
open Go.RowKit

end Go.Proofs.Ytlgbjpihmkeopaa
