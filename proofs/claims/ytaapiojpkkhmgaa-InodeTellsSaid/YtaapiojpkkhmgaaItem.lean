/- inode.item. -/
import Derived.Test.YtaapiojpkkhmgaaFree
import Derived.Test.YtaapiojpkkhmgaaConcat
namespace Go.Proofs.Ytaapiojpkkhmgaa
set_option linter.unusedSimpArgs false
set_option linter.unusedVariables false
open Go.RowKit

/-- the bytes of a file's or directory's item -/
def inoBytes (dir : Bool) (links size : Nat) : List UInt8 := (if dir then 1 else 0) :: (bytesOf links 2 ++ bytesOf size 4)
theorem inoBytes_cat (dir : Bool) (links size : Nat) : [[if dir then 1 else 0], bytesOf links 2, bytesOf size 4].flatten = inoBytes dir links size := by
  simp [inoBytes]
theorem inoBytes_len (dir : Bool) (links size : Nat) : (inoBytes dir links size).length = 7 := by simp [inoBytes, bytesOf_len]

/-- three slices of bytes in one -/
def out3 (l1 l2 l3 : List UInt8) : Outs := ⟨Nat × Value × Value × Value, fun p => .slice (some ⟨p.1, 0, none⟩) 3 3, fun p W => Rd W W.heap.size 1 (some ⟨p.1, 0, none⟩) 3 [p.2.1, p.2.2.1, p.2.2.2] ∧ Bys W W.heap.size p.2.1 l1 ∧ Bys W W.heap.size p.2.2.1 l2 ∧ Bys W W.heap.size p.2.2.2 l3⟩
theorem out3_f (l1 l2 l3 : List UInt8) (b : Nat) (v1 v2 v3 : Value) : (out3 l1 l2 l3).f (b, v1, v2, v3) = .slice (some ⟨b, 0, none⟩) 3 3 := rfl
theorem out3_stable (l1 l2 l3 : List UInt8) : ∀ p, Stable ((out3 l1 l2 l3).φ p) := fun p W W' he h =>
  ⟨(h.1.below he).more he.size, (h.2.1.below he).more he.size, (h.2.2.1.below he).more he.size, (h.2.2.2.below he).more he.size⟩

set_option maxHeartbeats 1000000 in
theorem item_false (id : Int) (links size : Nat) (hl : links < 65536) (hs : size < 4294967296) (w : World) :
    Calls Try.prog 11 #[ino id false links size] w (RetS (fun v w' => ∃ A c, v = .agg #[.int .u8 2, .int .u32 id, .int .u32 0, .int .i64 0, .slice A 7 c] ∧ Bys w' w'.heap.size (.slice A 7 c) (inoBytes false links size) ∧ From w.heap.size (.slice A 7 c)) w) := by
  go_enter Try.func11, Try.ntmps11
  go_wp2
  generalize hw1 : (World.alloc (World.alloc _ _) _) = w1
  have b1 : Ext w w1 := by rw [← hw1]; exact (Ext.alloc _ _).trans (Ext.alloc _ _)
  have c0 : w1.cell? ⟨w.heap.size, 0, none⟩ = some (.int .u32 id) := by rw [← hw1]; simp [go_sem]
  have c1 : w1.cell? ⟨w.heap.size, 2, none⟩ = some (.int .i64 links) := by rw [← hw1]; simp [go_sem]
  have c2 : w1.cell? ⟨w.heap.size, 3, none⟩ = some (.int .i64 size) := by rw [← hw1]; simp [go_sem]
  have hz : w1.heap.size = w.heap.size + 2 := by rw [← hw1]; simp
  have hE := Ext.cells (w := w1)
  rw [hz] at hE
  have r0 : w1.heap[w.heap.size + 1]? = some (.cells #[.int .u8 0, .int .u32 0, .int .u32 0, .int .i64 0, .slice none 0 0] 29 (0, 0)) := by rw [← hw1]; exact (World.alloc_heap_at _ _ _ (by simp))
  clear hw1
  obtain ⟨lo, hlo⟩ : ∃ lo, lo = w1.heap.size := ⟨_, rfl⟩
  have hlow : ∀ W, Ext w1 W → lo ≤ W.heap.size := fun W h => by rw [hlo]; exact h.size
  have hlo2 : lo = w.heap.size + 2 := by omega
  have HL := Lib.hid hlo2
  clear hlo hlo2
  refine wp_region_free (outsAt [(2, one (.agg #[.int .u8 2, .int .u32 id, .int .u32 0])), (4, outB lo 1 [0]), (7, outB lo 2 (bytesOf links 2)), (10, outB lo 4 (bytesOf size 4)), (11, out3 [0] (bytesOf links 2) (bytesOf size 4)), (12, outB lo 7 (inoBytes false links size))]) 14 (by kernel_rfl) (by kernel_rfl) (by kernel_rfl) (by decide) (by kernel_rfl) (by kernel_rfl) ?st ?walk
  case st => exact outsAt_stable (by simp only [List.forall_mem_cons]; exact ⟨one_stable _, outB_stable _ _ _, outB_stable _ _ _, outB_stable _ _ _, out3_stable _ _ _, outB_stable _ _ _, fun _ h => by cases h⟩)
  case walk =>
    intro K hK
    dsimp only [List.take]
    repeat (first | (refine free_plain ?_ (by rfl) (by rfl) (fun W hW _ => ⟨W, ?_, Ext.refl W⟩) ?_; rotate_left; (first | (go_simp; with_reducible rfl) | (go_simp; done)); try simp only [Act.put, one_f, outB_f, outNew_f, outI_f, out3_f, List.setIfInBounds_toArray, List.set_cons_zero, List.set_cons_succ]) | (refine free_skip (by rfl) ?_; simp only [Act.put, one_f, outB_f, outNew_f, outI_f, out3_f, List.setIfInBounds_toArray, List.set_cons_zero, List.set_cons_succ]))
    refine free_hard (one (.agg #[.int .u8 2, .int .u32 id, .int .u32 0])) (by rfl) (by rfl) (fun W hW _ => ?_) (fun p => ?_)
    · refine hardAt_call ?_ ((key_any id W).mono fun e w' h => ⟨(), h.1, trivial, h.2⟩)
      go_simp
    cases p
    simp only [Act.put, one_f, outB_f, outNew_f, outI_f, out3_f, List.setIfInBounds_toArray, List.set_cons_zero, List.set_cons_succ]
    repeat (first | (refine free_plain ?_ (by rfl) (by rfl) (fun W hW _ => ⟨W, ?_, Ext.refl W⟩) ?_; rotate_left; (first | (go_simp; with_reducible rfl) | (go_simp; done)); try simp only [Act.put, one_f, outB_f, outNew_f, outI_f, out3_f, List.setIfInBounds_toArray, List.set_cons_zero, List.set_cons_succ]) | (refine free_skip (by rfl) ?_; simp only [Act.put, one_f, outB_f, outNew_f, outI_f, out3_f, List.setIfInBounds_toArray, List.set_cons_zero, List.set_cons_succ]))
    refine free_hard (outB lo 1 [0]) (by rfl) (by rfl) (fun W hW _ => ?_) (fun p => ?_)
    · refine hardAt_value (u := .slice (some ⟨W.heap.size, 0, none⟩) 1 1) (w' := W.alloc (.cells #[bv 0] 5)) ?_ ⟨(some ⟨W.heap.size, 0, none⟩, 1), rfl, ⟨Bys.new W 5 [0], fun a n c e => by cases e; exact hlow W hW⟩, Ext.alloc _ _⟩
      go_simp
      rfl
    obtain ⟨A1, d1⟩ := p
    simp only [Act.put, one_f, outB_f, outNew_f, outI_f, out3_f, List.setIfInBounds_toArray, List.set_cons_zero, List.set_cons_succ]
    repeat (first | (refine free_plain ?_ (by rfl) (by rfl) (fun W hW _ => ⟨W, ?_, Ext.refl W⟩) ?_; rotate_left; (first | (go_simp; with_reducible rfl) | (go_simp; done)); try simp only [Act.put, one_f, outB_f, outNew_f, outI_f, out3_f, List.setIfInBounds_toArray, List.set_cons_zero, List.set_cons_succ]) | (refine free_skip (by rfl) ?_; simp only [Act.put, one_f, outB_f, outNew_f, outI_f, out3_f, List.setIfInBounds_toArray, List.set_cons_zero, List.set_cons_succ]))
    refine free_hard (outB lo 2 (bytesOf links 2)) (by rfl) (by rfl) (fun W hW _ => ?_) (fun p => ?_)
    · refine hardAt_call ?_ ((bytes_any links 2 (by omega) (by omega) W).mono fun e w' h => outB_of_own h (hlow W hW))
      go_simp
    obtain ⟨A2, d2⟩ := p
    simp only [Act.put, one_f, outB_f, outNew_f, outI_f, out3_f, List.setIfInBounds_toArray, List.set_cons_zero, List.set_cons_succ]
    repeat (first | (refine free_plain ?_ (by rfl) (by rfl) (fun W hW _ => ⟨W, ?_, Ext.refl W⟩) ?_; rotate_left; (first | (go_simp; with_reducible rfl) | (go_simp; done)); try simp only [Act.put, one_f, outB_f, outNew_f, outI_f, out3_f, List.setIfInBounds_toArray, List.set_cons_zero, List.set_cons_succ]) | (refine free_skip (by rfl) ?_; simp only [Act.put, one_f, outB_f, outNew_f, outI_f, out3_f, List.setIfInBounds_toArray, List.set_cons_zero, List.set_cons_succ]))
    refine free_hard (outB lo 4 (bytesOf size 4)) (by rfl) (by rfl) (fun W hW _ => ?_) (fun p => ?_)
    · refine hardAt_call ?_ ((bytes_any size 4 (by omega) (by omega) W).mono fun e w' h => outB_of_own h (hlow W hW))
      go_simp
    obtain ⟨A3, d3⟩ := p
    simp only [Act.put, one_f, outB_f, outNew_f, outI_f, out3_f, List.setIfInBounds_toArray, List.set_cons_zero, List.set_cons_succ]
    repeat (first | (refine free_plain ?_ (by rfl) (by rfl) (fun W hW _ => ⟨W, ?_, Ext.refl W⟩) ?_; rotate_left; (first | (go_simp; with_reducible rfl) | (go_simp; done)); try simp only [Act.put, one_f, outB_f, outNew_f, outI_f, out3_f, List.setIfInBounds_toArray, List.set_cons_zero, List.set_cons_succ]) | (refine free_skip (by rfl) ?_; simp only [Act.put, one_f, outB_f, outNew_f, outI_f, out3_f, List.setIfInBounds_toArray, List.set_cons_zero, List.set_cons_succ]))
    refine free_hard (out3 [0] (bytesOf links 2) (bytesOf size 4)) (by rfl) (by rfl) (fun W hW hp => ?_) (fun p => ?_)
    · have h1 : Bys W W.heap.size (.slice A1 1 d1) [0] := (hp 4 (by decide)).1.1
      have h2 : Bys W W.heap.size (.slice A2 2 d2) (bytesOf links 2) := (hp 7 (by decide)).1.1
      have h3 : Bys W W.heap.size (.slice A3 4 d3) (bytesOf size 4) := (hp 10 (by decide)).1.1
      clear hp
      have hx := Ext.alloc W (.cells #[.slice A1 1 d1, .slice A2 2 d2, .slice A3 4 d3] 27)
      refine hardAt_value (u := .slice (some ⟨W.heap.size, 0, none⟩) 3 3) (w' := W.alloc (.cells #[.slice A1 1 d1, .slice A2 2 d2, .slice A3 4 d3] 27)) ?_ ⟨(W.heap.size, .slice A1 1 d1, .slice A2 2 d2, .slice A3 4 d3), rfl, ⟨Rd.new W _ _ 3 rfl, (h1.below hx).more hx.size, (h2.below hx).more hx.size, (h3.below hx).more hx.size⟩, hx⟩
      go_simp
    obtain ⟨B4, v1, v2, v3⟩ := p
    simp only [Act.put, one_f, outB_f, outNew_f, outI_f, out3_f, List.setIfInBounds_toArray, List.set_cons_zero, List.set_cons_succ]
    repeat (first | (refine free_plain ?_ (by rfl) (by rfl) (fun W hW _ => ⟨W, ?_, Ext.refl W⟩) ?_; rotate_left; (first | (go_simp; with_reducible rfl) | (go_simp; done)); try simp only [Act.put, one_f, outB_f, outNew_f, outI_f, out3_f, List.setIfInBounds_toArray, List.set_cons_zero, List.set_cons_succ]) | (refine free_skip (by rfl) ?_; simp only [Act.put, one_f, outB_f, outNew_f, outI_f, out3_f, List.setIfInBounds_toArray, List.set_cons_zero, List.set_cons_succ]))
    refine free_hard (outB lo 7 (inoBytes false links size)) (by rfl) (by rfl) (fun W hW hp => ?_) (fun p => ?_)
    · obtain ⟨h0, h1, h2, h3⟩ : (out3 [0] (bytesOf links 2) (bytesOf size 4)).φ (B4, v1, v2, v3) W := (hp 11 (by decide)).1
      clear hp
      have hcat : (inoBytes false links size) = [[0], bytesOf links 2, bytesOf size 4].flatten := (inoBytes_cat false links size).symm
      have hlen : [[0], bytesOf links 2, bytesOf size 4].flatten.length = 7 := by rw [← hcat]; exact inoBytes_len _ _ _
      refine hardAt_call ?_ ((concat8_any (some ⟨B4, 0, none⟩) 3 3 [v1, v2, v3] [[0], bytesOf links 2, bytesOf size 4] rfl rfl W h0 ?_ (by decide) (by rw [hlen]; decide)).mono fun e w' h => ?_)
      · go_simp
      · intro i v l hv hl
        match i, hv, hl with
        | 0, hv, hl => cases hv; cases hl; exact h1
        | 1, hv, hl => cases hv; cases hl; exact h2
        | 2, hv, hl => cases hv; cases hl; exact h3
      · rw [hlen, ← hcat] at h
        exact outB_of_own h (hlow W hW)
    obtain ⟨A5, d5⟩ := p
    simp only [Act.put, one_f, outB_f, outNew_f, outI_f, out3_f, List.setIfInBounds_toArray, List.set_cons_zero, List.set_cons_succ]
    repeat (first | (refine free_plain ?_ (by rfl) (by rfl) (fun W hW _ => ⟨W, ?_, Ext.refl W⟩) ?_; rotate_left; (first | (go_simp; with_reducible rfl) | (go_simp; done)); try simp only [Act.put, one_f, outB_f, outNew_f, outI_f, out3_f, List.setIfInBounds_toArray, List.set_cons_zero, List.set_cons_succ]) | (refine free_skip (by rfl) ?_; simp only [Act.put, one_f, outB_f, outNew_f, outI_f, out3_f, List.setIfInBounds_toArray, List.set_cons_zero, List.set_cons_succ]))
    refine free_nil (hK _ _ fun W hW hF => ?_)
    obtain ⟨h5, h6⟩ : Bys W W.heap.size (.slice A5 7 d5) (inoBytes false links size) ∧ From lo (.slice A5 7 d5) := (hF 12).1
    rw [HL.out] at h6
    clear hF
    have hzW := hW.size
    have e0 : W.heap[w.heap.size + 1]? = some (.cells #[.int .u8 0, .int .u32 0, .int .u32 0, .int .i64 0, .slice none 0 0] 29 (0, 0)) := (hW.block _ (by omega)).trans r0
    have hb : Below w.heap.size w W := Below.trans b1 (Below.mono hW (by omega))
    have k0 := e0
    have kc := cells_row e0
    have kf := frozen_row e0
    clear hE e0 r0 k0
    dsimp only [List.drop]
    go_wp2
    refine bodyPost_ret (v := .agg #[.int .u8 2, .int .u32 id, .int .u32 0, .int .i64 0, .slice A5 7 d5]) (by simp [results, Try.results11, go_sem, kc]) rfl ⟨_, rfl, ⟨A5, d5, rfl, ?_, h6.mono (by omega)⟩, (by repeat' (first | with_reducible exact Below.refl _ _ | with_reducible assumption | with_reducible apply Below.drew | with_reducible apply below_drewN | with_reducible refine Below.alloc ?_ ?_ _ | with_reducible refine Below.setCell ?_ ?_ _ | (simp; done) | (simp; omega) | omega))⟩
    simp only [World.size_setCell]
    exact ((((h5.setCell h6 (by simp) _).setCell h6 (by simp) _).setCell h6 (by simp) _).setCell h6 (by simp) _).setCell h6 (by simp) _

set_option maxHeartbeats 1000000 in
theorem item_true (id : Int) (links size : Nat) (hl : links < 65536) (hs : size < 4294967296) (w : World) :
    Calls Try.prog 11 #[ino id true links size] w (RetS (fun v w' => ∃ A c, v = .agg #[.int .u8 2, .int .u32 id, .int .u32 0, .int .i64 0, .slice A 7 c] ∧ Bys w' w'.heap.size (.slice A 7 c) (inoBytes true links size) ∧ From w.heap.size (.slice A 7 c)) w) := by
  go_enter Try.func11, Try.ntmps11
  go_wp2
  generalize hw1 : (World.alloc (World.alloc _ _) _) = w1
  have b1 : Ext w w1 := by rw [← hw1]; exact (Ext.alloc _ _).trans (Ext.alloc _ _)
  have c0 : w1.cell? ⟨w.heap.size, 0, none⟩ = some (.int .u32 id) := by rw [← hw1]; simp [go_sem]
  have c1 : w1.cell? ⟨w.heap.size, 2, none⟩ = some (.int .i64 links) := by rw [← hw1]; simp [go_sem]
  have c2 : w1.cell? ⟨w.heap.size, 3, none⟩ = some (.int .i64 size) := by rw [← hw1]; simp [go_sem]
  have hz : w1.heap.size = w.heap.size + 2 := by rw [← hw1]; simp
  have hE := Ext.cells (w := w1)
  rw [hz] at hE
  have r0 : w1.heap[w.heap.size + 1]? = some (.cells #[.int .u8 0, .int .u32 0, .int .u32 0, .int .i64 0, .slice none 0 0] 29 (0, 0)) := by rw [← hw1]; exact (World.alloc_heap_at _ _ _ (by simp))
  clear hw1
  obtain ⟨lo, hlo⟩ : ∃ lo, lo = w1.heap.size := ⟨_, rfl⟩
  have hlow : ∀ W, Ext w1 W → lo ≤ W.heap.size := fun W h => by rw [hlo]; exact h.size
  have hlo2 : lo = w.heap.size + 2 := by omega
  have HL := Lib.hid hlo2
  clear hlo hlo2
  refine wp_region_free (outsAt [(2, one (.agg #[.int .u8 2, .int .u32 id, .int .u32 0])), (4, outB lo 1 [1]), (7, outB lo 2 (bytesOf links 2)), (10, outB lo 4 (bytesOf size 4)), (11, out3 [1] (bytesOf links 2) (bytesOf size 4)), (12, outB lo 7 (inoBytes true links size))]) 14 (by kernel_rfl) (by kernel_rfl) (by kernel_rfl) (by decide) (by kernel_rfl) (by kernel_rfl) ?st ?walk
  case st => exact outsAt_stable (by simp only [List.forall_mem_cons]; exact ⟨one_stable _, outB_stable _ _ _, outB_stable _ _ _, outB_stable _ _ _, out3_stable _ _ _, outB_stable _ _ _, fun _ h => by cases h⟩)
  case walk =>
    intro K hK
    dsimp only [List.take]
    repeat (first | (refine free_plain ?_ (by rfl) (by rfl) (fun W hW _ => ⟨W, ?_, Ext.refl W⟩) ?_; rotate_left; (first | (go_simp; with_reducible rfl) | (go_simp; done)); try simp only [Act.put, one_f, outB_f, outNew_f, outI_f, out3_f, List.setIfInBounds_toArray, List.set_cons_zero, List.set_cons_succ]) | (refine free_skip (by rfl) ?_; simp only [Act.put, one_f, outB_f, outNew_f, outI_f, out3_f, List.setIfInBounds_toArray, List.set_cons_zero, List.set_cons_succ]))
    refine free_hard (one (.agg #[.int .u8 2, .int .u32 id, .int .u32 0])) (by rfl) (by rfl) (fun W hW _ => ?_) (fun p => ?_)
    · refine hardAt_call ?_ ((key_any id W).mono fun e w' h => ⟨(), h.1, trivial, h.2⟩)
      go_simp
    cases p
    simp only [Act.put, one_f, outB_f, outNew_f, outI_f, out3_f, List.setIfInBounds_toArray, List.set_cons_zero, List.set_cons_succ]
    repeat (first | (refine free_plain ?_ (by rfl) (by rfl) (fun W hW _ => ⟨W, ?_, Ext.refl W⟩) ?_; rotate_left; (first | (go_simp; with_reducible rfl) | (go_simp; done)); try simp only [Act.put, one_f, outB_f, outNew_f, outI_f, out3_f, List.setIfInBounds_toArray, List.set_cons_zero, List.set_cons_succ]) | (refine free_skip (by rfl) ?_; simp only [Act.put, one_f, outB_f, outNew_f, outI_f, out3_f, List.setIfInBounds_toArray, List.set_cons_zero, List.set_cons_succ]))
    refine free_hard (outB lo 1 [1]) (by rfl) (by rfl) (fun W hW _ => ?_) (fun p => ?_)
    · refine hardAt_value (u := .slice (some ⟨W.heap.size, 0, none⟩) 1 1) (w' := W.alloc (.cells #[bv 1] 5)) ?_ ⟨(some ⟨W.heap.size, 0, none⟩, 1), rfl, ⟨Bys.new W 5 [1], fun a n c e => by cases e; exact hlow W hW⟩, Ext.alloc _ _⟩
      go_simp
      rfl
    obtain ⟨A1, d1⟩ := p
    simp only [Act.put, one_f, outB_f, outNew_f, outI_f, out3_f, List.setIfInBounds_toArray, List.set_cons_zero, List.set_cons_succ]
    repeat (first | (refine free_plain ?_ (by rfl) (by rfl) (fun W hW _ => ⟨W, ?_, Ext.refl W⟩) ?_; rotate_left; (first | (go_simp; with_reducible rfl) | (go_simp; done)); try simp only [Act.put, one_f, outB_f, outNew_f, outI_f, out3_f, List.setIfInBounds_toArray, List.set_cons_zero, List.set_cons_succ]) | (refine free_skip (by rfl) ?_; simp only [Act.put, one_f, outB_f, outNew_f, outI_f, out3_f, List.setIfInBounds_toArray, List.set_cons_zero, List.set_cons_succ]))
    refine free_hard (outB lo 2 (bytesOf links 2)) (by rfl) (by rfl) (fun W hW _ => ?_) (fun p => ?_)
    · refine hardAt_call ?_ ((bytes_any links 2 (by omega) (by omega) W).mono fun e w' h => outB_of_own h (hlow W hW))
      go_simp
    obtain ⟨A2, d2⟩ := p
    simp only [Act.put, one_f, outB_f, outNew_f, outI_f, out3_f, List.setIfInBounds_toArray, List.set_cons_zero, List.set_cons_succ]
    repeat (first | (refine free_plain ?_ (by rfl) (by rfl) (fun W hW _ => ⟨W, ?_, Ext.refl W⟩) ?_; rotate_left; (first | (go_simp; with_reducible rfl) | (go_simp; done)); try simp only [Act.put, one_f, outB_f, outNew_f, outI_f, out3_f, List.setIfInBounds_toArray, List.set_cons_zero, List.set_cons_succ]) | (refine free_skip (by rfl) ?_; simp only [Act.put, one_f, outB_f, outNew_f, outI_f, out3_f, List.setIfInBounds_toArray, List.set_cons_zero, List.set_cons_succ]))
    refine free_hard (outB lo 4 (bytesOf size 4)) (by rfl) (by rfl) (fun W hW _ => ?_) (fun p => ?_)
    · refine hardAt_call ?_ ((bytes_any size 4 (by omega) (by omega) W).mono fun e w' h => outB_of_own h (hlow W hW))
      go_simp
    obtain ⟨A3, d3⟩ := p
    simp only [Act.put, one_f, outB_f, outNew_f, outI_f, out3_f, List.setIfInBounds_toArray, List.set_cons_zero, List.set_cons_succ]
    repeat (first | (refine free_plain ?_ (by rfl) (by rfl) (fun W hW _ => ⟨W, ?_, Ext.refl W⟩) ?_; rotate_left; (first | (go_simp; with_reducible rfl) | (go_simp; done)); try simp only [Act.put, one_f, outB_f, outNew_f, outI_f, out3_f, List.setIfInBounds_toArray, List.set_cons_zero, List.set_cons_succ]) | (refine free_skip (by rfl) ?_; simp only [Act.put, one_f, outB_f, outNew_f, outI_f, out3_f, List.setIfInBounds_toArray, List.set_cons_zero, List.set_cons_succ]))
    refine free_hard (out3 [1] (bytesOf links 2) (bytesOf size 4)) (by rfl) (by rfl) (fun W hW hp => ?_) (fun p => ?_)
    · have h1 : Bys W W.heap.size (.slice A1 1 d1) [1] := (hp 4 (by decide)).1.1
      have h2 : Bys W W.heap.size (.slice A2 2 d2) (bytesOf links 2) := (hp 7 (by decide)).1.1
      have h3 : Bys W W.heap.size (.slice A3 4 d3) (bytesOf size 4) := (hp 10 (by decide)).1.1
      clear hp
      have hx := Ext.alloc W (.cells #[.slice A1 1 d1, .slice A2 2 d2, .slice A3 4 d3] 27)
      refine hardAt_value (u := .slice (some ⟨W.heap.size, 0, none⟩) 3 3) (w' := W.alloc (.cells #[.slice A1 1 d1, .slice A2 2 d2, .slice A3 4 d3] 27)) ?_ ⟨(W.heap.size, .slice A1 1 d1, .slice A2 2 d2, .slice A3 4 d3), rfl, ⟨Rd.new W _ _ 3 rfl, (h1.below hx).more hx.size, (h2.below hx).more hx.size, (h3.below hx).more hx.size⟩, hx⟩
      go_simp
    obtain ⟨B4, v1, v2, v3⟩ := p
    simp only [Act.put, one_f, outB_f, outNew_f, outI_f, out3_f, List.setIfInBounds_toArray, List.set_cons_zero, List.set_cons_succ]
    repeat (first | (refine free_plain ?_ (by rfl) (by rfl) (fun W hW _ => ⟨W, ?_, Ext.refl W⟩) ?_; rotate_left; (first | (go_simp; with_reducible rfl) | (go_simp; done)); try simp only [Act.put, one_f, outB_f, outNew_f, outI_f, out3_f, List.setIfInBounds_toArray, List.set_cons_zero, List.set_cons_succ]) | (refine free_skip (by rfl) ?_; simp only [Act.put, one_f, outB_f, outNew_f, outI_f, out3_f, List.setIfInBounds_toArray, List.set_cons_zero, List.set_cons_succ]))
    refine free_hard (outB lo 7 (inoBytes true links size)) (by rfl) (by rfl) (fun W hW hp => ?_) (fun p => ?_)
    · obtain ⟨h0, h1, h2, h3⟩ : (out3 [1] (bytesOf links 2) (bytesOf size 4)).φ (B4, v1, v2, v3) W := (hp 11 (by decide)).1
      clear hp
      have hcat : (inoBytes true links size) = [[1], bytesOf links 2, bytesOf size 4].flatten := (inoBytes_cat true links size).symm
      have hlen : [[1], bytesOf links 2, bytesOf size 4].flatten.length = 7 := by rw [← hcat]; exact inoBytes_len _ _ _
      refine hardAt_call ?_ ((concat8_any (some ⟨B4, 0, none⟩) 3 3 [v1, v2, v3] [[1], bytesOf links 2, bytesOf size 4] rfl rfl W h0 ?_ (by decide) (by rw [hlen]; decide)).mono fun e w' h => ?_)
      · go_simp
      · intro i v l hv hl
        match i, hv, hl with
        | 0, hv, hl => cases hv; cases hl; exact h1
        | 1, hv, hl => cases hv; cases hl; exact h2
        | 2, hv, hl => cases hv; cases hl; exact h3
      · rw [hlen, ← hcat] at h
        exact outB_of_own h (hlow W hW)
    obtain ⟨A5, d5⟩ := p
    simp only [Act.put, one_f, outB_f, outNew_f, outI_f, out3_f, List.setIfInBounds_toArray, List.set_cons_zero, List.set_cons_succ]
    repeat (first | (refine free_plain ?_ (by rfl) (by rfl) (fun W hW _ => ⟨W, ?_, Ext.refl W⟩) ?_; rotate_left; (first | (go_simp; with_reducible rfl) | (go_simp; done)); try simp only [Act.put, one_f, outB_f, outNew_f, outI_f, out3_f, List.setIfInBounds_toArray, List.set_cons_zero, List.set_cons_succ]) | (refine free_skip (by rfl) ?_; simp only [Act.put, one_f, outB_f, outNew_f, outI_f, out3_f, List.setIfInBounds_toArray, List.set_cons_zero, List.set_cons_succ]))
    refine free_nil (hK _ _ fun W hW hF => ?_)
    obtain ⟨h5, h6⟩ : Bys W W.heap.size (.slice A5 7 d5) (inoBytes true links size) ∧ From lo (.slice A5 7 d5) := (hF 12).1
    rw [HL.out] at h6
    clear hF
    have hzW := hW.size
    have e0 : W.heap[w.heap.size + 1]? = some (.cells #[.int .u8 0, .int .u32 0, .int .u32 0, .int .i64 0, .slice none 0 0] 29 (0, 0)) := (hW.block _ (by omega)).trans r0
    have hb : Below w.heap.size w W := Below.trans b1 (Below.mono hW (by omega))
    have k0 := e0
    have kc := cells_row e0
    have kf := frozen_row e0
    clear hE e0 r0 k0
    dsimp only [List.drop]
    go_wp2
    refine bodyPost_ret (v := .agg #[.int .u8 2, .int .u32 id, .int .u32 0, .int .i64 0, .slice A5 7 d5]) (by simp [results, Try.results11, go_sem, kc]) rfl ⟨_, rfl, ⟨A5, d5, rfl, ?_, h6.mono (by omega)⟩, (by repeat' (first | with_reducible exact Below.refl _ _ | with_reducible assumption | with_reducible apply Below.drew | with_reducible apply below_drewN | with_reducible refine Below.alloc ?_ ?_ _ | with_reducible refine Below.setCell ?_ ?_ _ | (simp; done) | (simp; omega) | omega))⟩
    simp only [World.size_setCell]
    exact ((((h5.setCell h6 (by simp) _).setCell h6 (by simp) _).setCell h6 (by simp) _).setCell h6 (by simp) _).setCell h6 (by simp) _

theorem item_any (id : Int) (dir : Bool) (links size : Nat) (hl : links < 65536) (hs : size < 4294967296) (w : World) :
    Calls Try.prog 11 #[ino id dir links size] w (RetS (fun v w' => ∃ A c, v = .agg #[.int .u8 2, .int .u32 id, .int .u32 0, .int .i64 0, .slice A 7 c] ∧ Bys w' w'.heap.size (.slice A 7 c) (inoBytes dir links size) ∧ From w.heap.size (.slice A 7 c)) w) := by
  cases dir
  · exact item_false id links size hl hs w
  · exact item_true id links size hl hs w
end Go.Proofs.Ytaapiojpkkhmgaa
