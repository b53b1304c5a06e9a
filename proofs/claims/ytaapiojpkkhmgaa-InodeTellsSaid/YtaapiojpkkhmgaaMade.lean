/- scionryref24.Made. -/
import Derived.Test.YtaapiojpkkhmgaaItem
namespace Go.Proofs.Ytaapiojpkkhmgaa
set_option linter.unusedSimpArgs false
set_option linter.unusedVariables false
open Go.RowKit

theorem ino_cells (kb : UInt8) (k : Int) (hk : k = kb.toNat) (links size : Nat) (hl : links < 65536) (hs : size < 4294967296) (dir : Bool) (hd : (if dir then 1 else 0) = kb) :
    #[Value.int .u8 k, .int .u8 ((links : Int) % 256), .int .u8 ((links : Int) / 256), .int .u8 ((size : Int) % 256), .int .u8 ((size : Int) / 256 % 256), .int .u8 ((size : Int) / 256 / 256 % 256), .int .u8 ((size : Int) / 256 / 256 / 256 % 256)] = ((inoBytes dir links size).map bv).toArray := by
  subst hk
  simp [inoBytes, bytesOf, bv, hd]
  omega

set_option maxHeartbeats 1000000 in
theorem made_false (id : Int) (links size : Nat) (hl : links < 65536) (hs : size < 4294967296) (w : World) :
    Calls Try.prog 13 #[ino id false links size] w (RetS (fun v w' => ∃ A c, v = .agg #[.int .u8 2, .int .u32 id, .int .u32 0, .int .i64 0, .slice A 7 c] ∧ Bys w' w'.heap.size (.slice A 7 c) (inoBytes false links size) ∧ From w.heap.size (.slice A 7 c)) w) := by
  have hmk : ∀ w, (Instr.makeSlice 27 (.int .i64 7) (.int .i64 7)).run Try.prog w = .ok (.slice (some ⟨w.heap.size, 0, none⟩) 7 7) (w.alloc (.cells #[.int .u8 0, .int .u8 0, .int .u8 0, .int .u8 0, .int .u8 0, .int .u8 0, .int .u8 0] 5)) := fun _ => by kernel_rfl
  go_enter Try.func13, Try.ntmps13
  go_wp2
  refine wp_loop_rounds 5 ?_
  rw [rounds_succ]
  go_wp2
  rw [rounds_succ]
  go_wp2
  rw [rounds_succ]
  go_wp2
  rw [rounds_succ]
  go_wp2
  rw [rounds_succ]
  go_wp2
  rw [ino_cells 0 0 rfl links size hl hs false rfl]
  refine bodyPost_ret (v := .agg #[.int .u8 2, .int .u32 id, .int .u32 0, .int .i64 0, .slice (some ⟨w.heap.size + 1 + 1, 0, none⟩) 7 7]) (by simp [results, Try.results13, go_sem]) rfl ⟨_, rfl, ⟨_, 7, rfl, ?_, fun a n c e => by cases e; simp; omega⟩, (by repeat' (first | with_reducible exact Below.refl _ _ | with_reducible assumption | with_reducible apply Below.drew | with_reducible apply below_drewN | with_reducible refine Below.alloc ?_ ?_ _ | with_reducible refine Below.setCell ?_ ?_ _ | (simp; done) | (simp; omega) | omega))⟩
  have h := Bys.new ((w.alloc (.cells #[.int .u32 id, .bool false, .int .i64 links, .int .i64 size] 24)).alloc (.cells #[.int .u8 2, .int .u32 id, .int .u32 0, .int .i64 0, .slice (some ⟨w.heap.size + 1 + 1, 0, none⟩) 7 7] 29)) 5 (inoBytes false links size) (by rw [inoBytes_len]; unfold maxLen; omega)
  rw [inoBytes_len] at h
  simpa using h
set_option maxHeartbeats 1000000 in
theorem made_true (id : Int) (links size : Nat) (hl : links < 65536) (hs : size < 4294967296) (w : World) :
    Calls Try.prog 13 #[ino id true links size] w (RetS (fun v w' => ∃ A c, v = .agg #[.int .u8 2, .int .u32 id, .int .u32 0, .int .i64 0, .slice A 7 c] ∧ Bys w' w'.heap.size (.slice A 7 c) (inoBytes true links size) ∧ From w.heap.size (.slice A 7 c)) w) := by
  have hmk : ∀ w, (Instr.makeSlice 27 (.int .i64 7) (.int .i64 7)).run Try.prog w = .ok (.slice (some ⟨w.heap.size, 0, none⟩) 7 7) (w.alloc (.cells #[.int .u8 0, .int .u8 0, .int .u8 0, .int .u8 0, .int .u8 0, .int .u8 0, .int .u8 0] 5)) := fun _ => by kernel_rfl
  go_enter Try.func13, Try.ntmps13
  go_wp2
  refine wp_loop_rounds 5 ?_
  rw [rounds_succ]
  go_wp2
  rw [rounds_succ]
  go_wp2
  rw [rounds_succ]
  go_wp2
  rw [rounds_succ]
  go_wp2
  rw [rounds_succ]
  go_wp2
  rw [ino_cells 1 1 rfl links size hl hs true rfl]
  refine bodyPost_ret (v := .agg #[.int .u8 2, .int .u32 id, .int .u32 0, .int .i64 0, .slice (some ⟨w.heap.size + 1 + 1, 0, none⟩) 7 7]) (by simp [results, Try.results13, go_sem]) rfl ⟨_, rfl, ⟨_, 7, rfl, ?_, fun a n c e => by cases e; simp; omega⟩, (by repeat' (first | with_reducible exact Below.refl _ _ | with_reducible assumption | with_reducible apply Below.drew | with_reducible apply below_drewN | with_reducible refine Below.alloc ?_ ?_ _ | with_reducible refine Below.setCell ?_ ?_ _ | (simp; done) | (simp; omega) | omega))⟩
  have h := Bys.new ((w.alloc (.cells #[.int .u32 id, .bool true, .int .i64 links, .int .i64 size] 24)).alloc (.cells #[.int .u8 2, .int .u32 id, .int .u32 0, .int .i64 0, .slice (some ⟨w.heap.size + 1 + 1, 0, none⟩) 7 7] 29)) 5 (inoBytes true links size) (by rw [inoBytes_len]; unfold maxLen; omega)
  rw [inoBytes_len] at h
  simpa using h
theorem made_any (id : Int) (dir : Bool) (links size : Nat) (hl : links < 65536) (hs : size < 4294967296) (w : World) :
    Calls Try.prog 13 #[ino id dir links size] w (RetS (fun v w' => ∃ A c, v = .agg #[.int .u8 2, .int .u32 id, .int .u32 0, .int .i64 0, .slice A 7 c] ∧ Bys w' w'.heap.size (.slice A 7 c) (inoBytes dir links size) ∧ From w.heap.size (.slice A 7 c)) w) := by
  cases dir
  · exact made_false id links size hl hs w
  · exact made_true id links size hl hs w
end Go.Proofs.Ytaapiojpkkhmgaa
