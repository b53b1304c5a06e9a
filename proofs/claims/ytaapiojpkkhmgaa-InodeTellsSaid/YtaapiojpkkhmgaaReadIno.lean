/- The readings of inodes and items. -/
import Derived.Test.YtaapiojpkkhmgaaRead
namespace Go.Proofs.Ytaapiojpkkhmgaa
set_option linter.unusedSimpArgs false
set_option linter.unusedVariables false
open Go.RowKit Go.ChangeShapes Go.WideShapes Go.ChangeAt

theorem Try.c_u8 : Try.prog.cellsOf 5 = 1 := by kernel_rfl
theorem Try.c_u32 : Try.prog.cellsOf 22 = 1 := by kernel_rfl
theorem Try.c_int : Try.prog.cellsOf 3 = 1 := by kernel_rfl
theorem Try.c_bool : Try.prog.cellsOf 4 = 1 := by kernel_rfl
theorem Try.c_bytes : Try.prog.cellsOf 27 = 1 := by kernel_rfl
theorem Try.c_key : Try.prog.cellsOf 26 = 3 := by kernel_rfl
theorem Try.c_item : Try.prog.cellsOf 29 = 5 := by kernel_rfl
theorem Try.c_inode : Try.prog.cellsOf 24 = 4 := by kernel_rfl

section
variable {H : Type} {enc : TypeId × Value → H} {W : World}

theorem rd_inode {fuel : Nat} {cs : List Value} {x : DataW H × List MemPlace} (h : DataW.trod enc Try.prog W 0 (fun _ => true) true fuel 24 cs = some x) : ∃ a b c d, cs = [.int .u32 a, .bool b, .int .i64 c, .int .i64 d] ∧ (Lit.int .u32 a).wf = true ∧ (Lit.int .i64 c).wf = true ∧ (Lit.int .i64 d).wf = true := by
  obtain ⟨xs, n, hl, hxl, _, hf⟩ := trod_fields Try.underlying24 h
  rw [Try.c_inode] at hl
  match cs, hl with
  | [c0, c1, c2, c3], _ =>
    have hx : ∀ i, i < 4 → ∃ y, xs[i]? = some y := fun i hi => ⟨_, List.getElem?_eq_getElem (by rw [hxl]; exact hi)⟩
    obtain ⟨y0, e0⟩ := hx 0 (by omega)
    obtain ⟨y1, e1⟩ := hx 1 (by omega)
    obtain ⟨y2, e2⟩ := hx 2 (by omega)
    obtain ⟨y3, e3⟩ := hx 3 (by omega)
    have g0 := (hf 0 22 0 1 rfl Try.c_u32).trans e0
    have g1 := (hf 1 4 1 1 rfl Try.c_bool).trans e1
    have g2 := (hf 2 3 2 1 rfl Try.c_int).trans e2
    have g3 := (hf 3 3 3 1 rfl Try.c_int).trans e3
    simp only [List.drop, List.take] at g0 g1 g2 g3
    obtain ⟨a, ea, _, wa⟩ := DataW.trod_int Try.underlying22 g0
    obtain ⟨b, eb, _⟩ := DataW.trod_bool Try.underlying4 g1
    obtain ⟨c, ec, _, wc⟩ := DataW.trod_int Try.underlying3 g2
    obtain ⟨d, ed, _, wd⟩ := DataW.trod_int Try.underlying3 g3
    simp only [List.cons.injEq, and_true] at ea eb ec ed
    subst ea eb ec ed
    exact ⟨a, b, c, d, rfl, wa, wc, wd⟩

theorem rd_key {fuel : Nat} {cs : List Value} {x : DataW H × List MemPlace} (h : DataW.trod enc Try.prog W 0 (fun _ => true) true fuel 26 cs = some x) : ∃ a b c, cs = [.int .u8 a, .int .u32 b, .int .u32 c] ∧ (Lit.int .u8 a).wf = true ∧ (Lit.int .u32 b).wf = true ∧ (Lit.int .u32 c).wf = true := by
  obtain ⟨xs, n, hl, hxl, _, hf⟩ := trod_fields Try.underlying26 h
  rw [Try.c_key] at hl
  match cs, hl with
  | [c0, c1, c2], _ =>
    have hx : ∀ i, i < 3 → ∃ y, xs[i]? = some y := fun i hi => ⟨_, List.getElem?_eq_getElem (by rw [hxl]; exact hi)⟩
    obtain ⟨y0, e0⟩ := hx 0 (by omega)
    obtain ⟨y1, e1⟩ := hx 1 (by omega)
    obtain ⟨y2, e2⟩ := hx 2 (by omega)
    have g0 := (hf 0 5 0 1 rfl Try.c_u8).trans e0
    have g1 := (hf 1 22 1 1 rfl Try.c_u32).trans e1
    have g2 := (hf 2 22 2 1 rfl Try.c_u32).trans e2
    simp only [List.drop, List.take] at g0 g1 g2
    obtain ⟨a, ea, _, wa⟩ := DataW.trod_int Try.underlying5 g0
    obtain ⟨b, eb, _, wb⟩ := DataW.trod_int Try.underlying22 g1
    obtain ⟨c, ec, _, wc⟩ := DataW.trod_int Try.underlying22 g2
    simp only [List.cons.injEq, and_true] at ea eb ec
    subst ea eb ec
    exact ⟨a, b, c, rfl, wa, wb, wc⟩

theorem rd_item {fuel : Nat} {cs : List Value} {d : DataW H} {p : List MemPlace} (h : DataW.trod enc Try.prog W 0 (fun _ => true) true fuel 29 cs = some (d, p)) (hlt : ∀ x ∈ p, x.block < W.heap.size) :
    ∃ k i o r A n c, cs = [.int .u8 k, .int .u32 i, .int .u32 o, .int .i64 r, .slice A n c] ∧ n ≤ c ∧ (∃ l : List UInt8, Bys W W.heap.size (.slice A n c) l ∧ l.length = n) ∧ (Lit.int .u8 k).wf = true ∧ (Lit.int .u32 i).wf = true ∧ (Lit.int .u32 o).wf = true ∧ (Lit.int .i64 r).wf = true := by
  obtain ⟨xs, n, hl, hxl, hp, hf⟩ := trod_fields Try.underlying29 h
  rw [Try.c_item] at hl
  match cs, hl with
  | [c0, c1, c2, c3, c4], _ =>
    match xs, hxl with
    | [y0, y1, y2], _ =>
      have g0 : _ = some y0 := hf 0 26 0 3 rfl Try.c_key
      have g1 : _ = some y1 := hf 1 3 3 1 rfl Try.c_int
      have g2 : _ = some y2 := hf 2 27 4 1 rfl Try.c_bytes
      simp only [List.drop, List.take] at g0 g1 g2
      obtain ⟨k, i, o, ek, w1, w2, w3⟩ := rd_key g0
      obtain ⟨r, er, _, w4⟩ := DataW.trod_int Try.underlying3 g1
      have hp2 : p = y0.2 ++ (y1.2 ++ (y2.2 ++ [])) := hp
      obtain ⟨d2, p2⟩ := y2
      obtain ⟨A, m, c, es, hmc, l, hb, hlen⟩ := rd_bytes Try.underlying27 Try.underlying5 Try.c_u8 g2 (fun x hx => hlt x (by rw [hp2]; simp [hx]))
      simp only [List.cons.injEq, and_true] at ek er es
      obtain ⟨rfl, rfl, rfl⟩ := ek
      subst er es
      exact ⟨k, i, o, r, A, m, c, rfl, hmc, ⟨l, hb, hlen⟩, w1, w2, w3, w4⟩
end
end Go.Proofs.Ytaapiojpkkhmgaa
