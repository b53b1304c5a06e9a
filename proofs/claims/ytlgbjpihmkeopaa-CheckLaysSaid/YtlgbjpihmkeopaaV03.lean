/- scionrylaw31.CheckLays is true of every pool, every list of blocks and all bytes, and leaves its arguments as they were; no condition. -/
import Derived.Test.YtlgbjpihmkeopaaU24
import Derived.Test.YtlgbjpihmkeopaaV02
namespace Go.Proofs.Ytlgbjpihmkeopaa.checkLays
set_option linter.unusedSimpArgs false
set_option linter.unusedVariables false
open Go.ChangeShapes Go.WideShapes Go.ChangeAt Go.RowKit

theorem own : ownKnob Try.prog.godebug = none := by kernel_rfl
theorem laidOut : laidOutB Try.prog = true := by kernel_rfl

set_option maxHeartbeats 1000000 in
set_option maxRecDepth 100000 in
theorem lifted (os : Os) (started : os.Started) (H : Type) (enc : TypeId × Value → H) :
    ReturnsInHanded {} Try.checked os 5 .any (Rows.checkLaysSpec.pre6 enc Try.prog Try.f5 Rows.checkLaysRow.domain false) (Rows.checkLaysSpec.post enc Try.prog Try.f5 false true false false) := by
  refine returnsInHanded_of_change (C := Try.checked) own started (by kernel_rfl) Try.func5
    (ChangeSpec.witness6 (enc := enc) (C := Try.checked) false ⟨#[], #[.agg (poolCs (.slice none 0 0) (.slice none 0 0) (.slice none 0 0) (.slice none 0 0) 0 0 0 (.slice none 0 0)), .slice none 0 0, .slice none 0 0], []⟩ 8 (by kernel_rfl) (by kernel_rfl) (by kernel_rfl) (by kernel_rfl)) ?_
  intro W base args ds gs before hval0 hW hcnd _
  have hval : ∀ (j : Nat) t v, Try.f5.params[j]? = some t → args[j]? = some v → Value.okWide Try.prog W .any base t v := hval0
  have hW' := hW
  have hlt : ∀ x ∈ before, x.block < W.heap.size := fun x hx => hW.lt x hx
  obtain ⟨p, q, hA0, hV, rfl, hfz, hnd⟩ := hW
  have hA : DataW.TrodAll enc Try.prog W 0 (fun _ => true) true Try.f5.params.toList args.toList ds p := hA0
  rw [Try.params5] at hA hval
  obtain ⟨v0, vs0, d0, ds0, p0, q0, hargs, rfl, rfl, h0, r0⟩ := trodAll_cons hA
  obtain ⟨v1, vs1, d1, ds1, p1, q1, rfl, rfl, rfl, h1, r1⟩ := trodAll_cons r0
  obtain ⟨v2, vs2, d2, ds2, p2, q2, rfl, rfl, rfl, h2, r2⟩ := trodAll_cons r1
  obtain ⟨rfl, rfl, rfl⟩ := trodAll_nil r2
  obtain rfl : args = #[v0, v1, v2] := by cases args; simp_all
  obtain ⟨rfl, rfl⟩ := trodVars_none hV
  obtain ⟨cs0, rfl, _⟩ := okWide_struct Try.underlying32 (hval 0 32 v0 rfl rfl)
  obtain ⟨a1, l1, k1, rfl⟩ := okWide_slice Try.underlying30 (hval 1 30 v1 rfl rfl)
  obtain ⟨a2, l2, k2, rfl⟩ := okWide_slice Try.underlying26 (hval 2 26 v2 rfl rfl)
  obtain ⟨n0, h0⟩ := h0
  obtain ⟨n1, h1⟩ := h1
  obtain ⟨n2, h2⟩ := h2
  obtain ⟨A1, c1, A2, c2, A3, c3, A4, c4, gen, root, next, A5, c5, S, dead, e0, hS, hd, _, _, _, _⟩ := rd_pool h0 (fun x hx => hlt x (by simp [hx]))
  obtain ⟨A6, c6, held, e1, hh, _⟩ := rd_ints h1 (fun x hx => hlt x (by simp [hx]))
  obtain ⟨A7, m7, c7, e2, _, data, hb, hm7⟩ := rd_bytes Try.underlying26 Try.underlying5 Try.cc_u8 h2 (fun x hx => hlt x (by simp [hx]))
  subst hm7
  have e0' : cs0 = poolCs (.slice A1 S.bs.length c1) (.slice A2 S.ws.length c2) (.slice A3 S.now.length c3) (.slice A4 S.last.length c4) gen root next (.slice A5 dead.length c5) := by
    obtain ⟨cs0⟩ := cs0
    have : cs0 = _ := e0
    rw [this]
  have e1' : Value.slice a1 l1 k1 = .slice A6 held.length c6 := by
    have : [Value.slice a1 l1 k1] = _ := e1
    exact (List.cons.inj this).1
  have e2' : Value.slice a2 l2 k2 = .slice A7 data.length c7 := by
    have : [Value.slice a2 l2 k2] = _ := e2
    exact (List.cons.inj this).1
  subst e0'
  cases e1'
  cases e2'
  have walk : Calls Try.prog 5 #[.agg (poolCs (.slice A1 S.bs.length c1) (.slice A2 S.ws.length c2) (.slice A3 S.now.length c3) (.slice A4 S.last.length c4) gen root next (.slice A5 dead.length c5)), .slice a1 held.length k1, .slice a2 data.length k2] W (Ret (.bool true) W) := clays_any A1 c1 A2 c2 A3 c3 A4 c4 gen root next A5 c5 S dead a1 k1 held a2 k2 data W hS hd hh hb
  refine walk.mono fun e W' ⟨he, hB⟩ => ?_
  subst he
  exact ⟨_, rfl, law_post rfl laidOut rfl Try.underlying4 (by
    intro t ht
    have : t = 32 ∨ t = 30 ∨ t = 26 := by rw [Try.params5] at ht; simpa using ht
    rcases this with rfl | rfl | rfl
    · exact ⟨by kernel_rfl, of_decide_eq_true (by kernel_rfl)⟩
    · exact ⟨by kernel_rfl, of_decide_eq_true (by kernel_rfl)⟩
    · exact ⟨by kernel_rfl, of_decide_eq_true (by kernel_rfl)⟩) hW' rfl hB⟩

theorem over : Rows.checkLaysRow.holds Try.pinned (OpenSpec.ofChange Rows.checkLaysSpec) :=
  OpenClaim.holds_of_wide 5 Try.f5 rfl rfl rfl rfl rfl rfl rfl ⟨rfl, rfl, rfl, rfl, rfl⟩ rfl rfl rfl rfl rfl (by kernel_rfl) Try.func5 (by kernel_rfl)
    (of_decide_eq_true (by kernel_rfl)) (by unfold Func.isWrapper; first | (rw [if_pos (by decide +kernel)]; kernel_rfl) | (rw [if_neg (by decide +kernel)]; exact ⟨rfl, rfl⟩))
    (fun os started H enc _ => lifted os started H enc)

theorem proved : Rows.CheckLaysSaid := over
end Go.Proofs.Ytlgbjpihmkeopaa.checkLays
