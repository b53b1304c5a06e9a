/- scionrylaw24.InodeTells is true of every file or directory and every item, and leaves its arguments as they were; no condition. -/
import Derived.Test.YtaapiojpkkhmgaaTells
import Derived.Test.YtaapiojpkkhmgaaFrame
namespace Go.Proofs.Ytaapiojpkkhmgaa.inodeTells
set_option linter.unusedSimpArgs false
set_option linter.unusedVariables false
open Go.ChangeShapes Go.WideShapes Go.ChangeAt Go.RowKit

theorem own : ownKnob Try.prog.godebug = none := by kernel_rfl
theorem laidOut : laidOutB Try.prog = true := by kernel_rfl

set_option maxRecDepth 100000 in
theorem lifted (os : Os) (started : os.Started) (H : Type) (enc : TypeId × Value → H) :
    ReturnsInHanded {} Try.checked os 3 .any (Rows.inodeTellsSpec.pre6 enc Try.prog Try.f3 Rows.inodeTellsRow.domain false) (Rows.inodeTellsSpec.post enc Try.prog Try.f3 false true false false) := by
  refine returnsInHanded_of_change (C := Try.checked) own started (by kernel_rfl) Try.func3
    (ChangeSpec.witness6 (enc := enc) (C := Try.checked) false ⟨#[], #[ino 0 false 0 0, itemV 0 0 0 0 none 0 0], []⟩ 8 (by kernel_rfl) (by kernel_rfl) (by kernel_rfl) (by kernel_rfl)) ?_
  intro W base args ds gs before hval0 hW hcnd _
  have hval : ∀ (j : Nat) t v, Try.f3.params[j]? = some t → args[j]? = some v → Value.okWide Try.prog W .any base t v := hval0
  have hW' := hW
  have hlt : ∀ x ∈ before, x.block < W.heap.size := fun x hx => hW.lt x hx
  obtain ⟨p, q, hA0, hV, rfl, hfz, hnd⟩ := hW
  have hA : DataW.TrodAll enc Try.prog W 0 (fun _ => true) true Try.f3.params.toList args.toList ds p := hA0
  rw [Try.params3] at hA hval
  obtain ⟨v0, vs0, d0, ds0, p0, q0, hargs, rfl, rfl, h0, r0⟩ := trodAll_cons hA
  obtain ⟨v1, vs1, d1, ds1, p1, q1, rfl, rfl, rfl, h1, r1⟩ := trodAll_cons r0
  obtain ⟨rfl, rfl, rfl⟩ := trodAll_nil r1
  obtain rfl : args = #[v0, v1] := by cases args; simp_all
  obtain ⟨rfl, rfl⟩ := trodVars_none hV
  obtain ⟨cs0, rfl, _⟩ := okWide_struct Try.underlying24 (hval 0 24 v0 rfl rfl)
  obtain ⟨cs1, rfl, _⟩ := okWide_struct Try.underlying29 (hval 1 29 v1 rfl rfl)
  obtain ⟨n0, h0⟩ := h0
  obtain ⟨n1, h1⟩ := h1
  obtain ⟨a, b, c, d, e0, _, _, _⟩ := rd_inode h0
  obtain ⟨k, i, o, r, A, n, c', e1, hnc, ⟨l, hby, hl⟩, _, _, _, _⟩ := rd_item h1 (fun x hx => hlt x (by simp [hx]))
  have e0' : cs0 = #[.int .u32 a, .bool b, .int .i64 c, .int .i64 d] := by
    obtain ⟨cs0⟩ := cs0
    have : cs0 = _ := e0
    rw [this]
  have e1' : cs1 = #[.int .u8 k, .int .u32 i, .int .u32 o, .int .i64 r, .slice A n c'] := by
    obtain ⟨cs1⟩ := cs1
    have : cs1 = _ := e1
    rw [this]
  subst e0' e1'
  have walk : Calls Try.prog 3 #[ino a b c d, itemV k i o r A n c'] W (Ret (.bool true) W) := by
    by_cases hn : n ≤ 1000
    · exact tells_any a b c d k i o r A n c' l hl hn W hby
    · exact tells_long a b c d k i o r A n c' (by omega) W
  refine walk.mono fun e W' ⟨he, hB⟩ => ?_
  subst he
  exact ⟨_, rfl, law_post rfl laidOut rfl Try.underlying4 (by
    intro t ht
    have : t = 24 ∨ t = 29 := by rw [Try.params3] at ht; simpa using ht
    rcases this with rfl | rfl
    · exact ⟨by kernel_rfl, of_decide_eq_true (by kernel_rfl)⟩
    · exact ⟨by kernel_rfl, of_decide_eq_true (by kernel_rfl)⟩) hW' rfl hB⟩

theorem over : Rows.inodeTellsRow.holds Try.pinned (OpenSpec.ofChange Rows.inodeTellsSpec) :=
  OpenClaim.holds_of_wide 3 Try.f3 rfl rfl rfl rfl rfl rfl rfl ⟨rfl, rfl, rfl, rfl, rfl⟩ rfl rfl rfl rfl rfl (by kernel_rfl) Try.func3 (by kernel_rfl)
    (of_decide_eq_true (by kernel_rfl)) (by unfold Func.isWrapper; first | (rw [if_pos (by decide +kernel)]; kernel_rfl) | (rw [if_neg (by decide +kernel)]; exact ⟨rfl, rfl⟩))
    (fun os started H enc _ => lifted os started H enc)

/-- THE STATEMENT -/
theorem proved : Rows.InodeTellsSaid := over
end Go.Proofs.Ytaapiojpkkhmgaa.inodeTells
