/- CheckLays: plain words. -/
import Derived.Test.YtlgbjpihmkeopaaU21
import Derived.Test.YtlgbjpihmkeopaaU22
import Derived.Test.YtlgbjpihmkeopaaU24
namespace Go.Proofs.Ytlgbjpihmkeopaa
set_option linter.unusedSimpArgs false
set_option linter.unusedVariables false
open Go.RowKit

theorem data_same {S : Sto} {refs nodes nodes' : Nat → Nat} (h : metB nodes = metB nodes') (a : Int) (held : Bool) : dataE S refs nodes a held = dataE S refs nodes' a held := by
  have h1 : ∀ b, (0 < nodes b) = (0 < nodes' b) := fun b => by
    have := congrFun h b
    unfold metB at this
    exact propext (decide_eq_decide.1 this)
  unfold dataE
  simp only [h1]
theorem vshare_same {S : Sto} {refs nodes nodes' : Nat → Nat} (h : metB nodes = metB nodes') (a : Int) : vshareE S a refs nodes' = vshareE S a refs nodes := by unfold vshareE; rw [data_same h]
theorem vloose_same {S : Sto} {refs nodes nodes' : Nat → Nat} (h : metB nodes = metB nodes') (a : Int) : vlooseE S a refs nodes' = vlooseE S a refs nodes := by unfold vlooseE; rw [data_same h]
theorem VolSQ.known {S : Sto} {gen root next : Int} {dead : List Int} {vs : List Vol} {refs nodes : Nat → Nat} {er : (Nat → Nat) → (Nat → Nat) → Int} {S' : Sto} {w w' : World} {e : Ending} (h : VolSQ S gen root next dead er S' w e w') (hp : PoolB S root next dead vs) (hc : Counted S (rootsN root dead vs) refs nodes) (he : Enough S refs)
    (hr : ∀ nodes', metB nodes = metB nodes' → er refs nodes' = er refs nodes) (h0 : er refs nodes = 0) : ∃ v, e = .returned (.tuple #[v, .int .i64 0]) ∧ NewPl w.heap.size S' gen root next dead v w' := by
  rcases h.2 with ⟨_, hb⟩ | ⟨vs', refs', nodes', u, hp', hc', he', rfl, hu⟩
  · obtain ⟨refs', nodes', hc', hn⟩ := hb vs hp
    obtain ⟨_, e⟩ := Marked.same hc'.mkd hc.mkd
    subst e
    exact absurd he hn
  · obtain rfl := PoolB.same hp hp'
    obtain ⟨hm, e⟩ := Marked.same hc'.mkd hc.mkd
    subst e
    rw [hr nodes' hm.symm, h0] at hu
    rcases hu with ⟨h1, _⟩ | ⟨_, v, rfl, hv⟩
    · exact absurd rfl h1
    · exact ⟨v, rfl, hv⟩
theorem UsesQ.known {S : Sto} {root next : Int} {dead : List Int} {vs : List Vol} {refs nodes : Nat → Nat} {w w' : World} {e : Ending} (h : UsesQ S root next dead w e w') (hp : PoolB S root next dead vs) (hc : Counted S (rootsN root dead vs) refs nodes) (he : Enough S refs) :
    ∃ ob, e = .returned (.tuple #[.slice (some ⟨ob, 0, none⟩) 256 256, .int .i64 0]) ∧ w.heap.size ≤ ob ∧ w'.heap[ob]? = some (.cells (arrB (useB S (metB nodes))).toArray 5 (0, 0)) := by
  rcases h.2 with ⟨_, hb⟩ | ⟨vs', refs', nodes', ob, rfl, h1, hp', hc', he', h2⟩
  · obtain ⟨refs', nodes', hc', hn⟩ := hb vs hp
    obtain ⟨_, e⟩ := Marked.same hc'.mkd hc.mkd
    subst e
    exact absurd he hn
  · obtain rfl := PoolB.same hp hp'
    obtain ⟨hm, e⟩ := Marked.same hc'.mkd hc.mkd
    rw [hm] at h2
    exact ⟨ob, rfl, h1, h2⟩
structure Kn (S : Sto) (root next : Int) (dead : List Int) (vs : List Vol) (refs nodes : Nat → Nat) : Prop where
  pool : PoolB S root next dead vs
  cnt : Counted S (rootsN root dead vs) refs nodes
  en : Enough S refs
theorem Kn.sm {S S' : Sto} {root next : Int} {dead : List Int} {vs : List Vol} {refs nodes : Nat → Nat} (h : Kn S root next dead vs refs nodes) (hm : SM S S') (hS : storeMay S' = true) (he : Enough S' refs) : Kn S' root next dead vs refs nodes :=
  ⟨hm.pool hS h.pool, hm.counted h.pool.trees h.cnt, he⟩
theorem count_one (a b : Nat) : [(a : Int)].count (b : Int) = if b = a then 1 else 0 := by
  rw [List.count_singleton]
  by_cases e : b = a
  · subst e; simp
  · rw [if_neg e, if_neg (by simp; omega)]
structure LaysP (S : Sto) (root next : Int) (dead : List Int) (vs : List Vol) (refs nodes : Nat → Nat) (held : List Int) (a : Nat) (l : List UInt8) : Prop where
  k1 : Kn (putAt S a l) root next dead vs refs nodes
  k2 : Kn (withNow (putAt S a l) (turned (putAt S a l).now a 1)) root next dead vs refs nodes
  k3 : Kn (withNow (putAt S a l) (down (putAt S a l).now a)) root next dead vs refs nodes
  c1 : countsV (putAt S a l) refs (held ++ [(a : Int)]) = (true, 0)
  c2 : countsV (withNow (putAt S a l) (turned (putAt S a l).now a 1)) refs (held ++ [(a : Int)] ++ [(a : Int)]) = (true, 0)
  c3 : countsV (withNow (putAt S a l) (down (putAt S a l).now a)) refs held = (true, 0)
  share : vshareE (putAt S a l) (a : Int) refs nodes = 0
  loose : vlooseE (putAt S a l) (a : Int) refs nodes = 0
  use : useB (putAt S a l) (metB nodes) a = 4
theorem lays_plain {S : Sto} {root next : Int} {dead : List Int} {vs : List Vol} {refs nodes : Nat → Nat} {held : List Int} {data : List UInt8} (hK : Kn S root next dead vs refs nodes) (hc : countsV S refs held = (true, 0)) (hl : held.length ≤ 1000) (hL : layE S data = 0) : LaysP S root next dead vs refs nodes held (firstFree S) (padB 128 data) := by
  obtain ⟨hS, hw, hbl, h8, h256, h0, -⟩ := layE_ok hL
  generalize firstFree S = a at *
  generalize padB 128 data = l at *
  obtain ⟨-, -, hnl, -⟩ := storeMay_len hS
  obtain ⟨g1, g2, g3⟩ := counts_true.1 hc
  have hz := g3 a h8 h256
  rw [show (S.now[a]?.getD 0).toNat = 0 from h0] at hz
  have hra : refs a = 0 := by omega
  have hca : held.count (a : Int) = 0 := by omega
  have hal : a < S.now.length := by omega
  have n1 : ∀ b : Nat, b ≠ a → (putAt S a l).now[b]?.getD 0 = S.now[b]?.getD 0 := fun b hb => now_set _ _ hb
  have n1a : (putAt S a l).now[a]?.getD 0 = 1 := now_set_at _ _ hal
  have l1 : a < (putAt S a l).now.length := by show a < (S.now.set a 1).length; rw [List.length_set]; exact hal
  have hcn : cntN (putAt S a l).now a = 1 := by unfold cntN; rw [n1a]; rfl
  have n2 : ∀ b : Nat, b ≠ a → (turned (putAt S a l).now a 1)[b]?.getD 0 = S.now[b]?.getD 0 := fun b hb => (now_set _ _ hb).trans (n1 b hb)
  have n2a : (turned (putAt S a l).now a 1)[a]?.getD 0 = 2 := by unfold turned; rw [hcn]; exact now_set_at _ _ l1
  have n3 : ∀ b : Nat, (down (putAt S a l).now a)[b]?.getD 0 = S.now[b]?.getD 0 := fun b => by
    by_cases hb : b = a
    · subst hb
      have : S.now[b]?.getD 0 = 0 := UInt8.toNat_inj.1 h0
      rw [this]
      unfold down
      rw [hcn]
      exact now_set_at _ _ l1
    · exact (now_set _ _ hb).trans (n1 b hb)
  have m1 : storeMay (putAt S a l) = true := may_put hS h8 h256 hbl hw
  have s1 := sm_put l h0 hal
  have e1 : Enough (putAt S a l) refs := fun b hb => by
    by_cases e : b = a
    · subst e; rw [hra]; exact Nat.zero_le _
    · rw [n1 b e]; exact hK.en b hb
  have s2 : SM (putAt S a l) (withNow (putAt S a l) (turned (putAt S a l).now a 1)) := sm_now fun r hr => by
    by_cases e : r = a
    · subst e; rw [n2a]; decide
    · rw [n2 r e, ← n1 r e]; exact hr
  have e2 : Enough (withNow (putAt S a l) (turned (putAt S a l).now a 1)) refs := fun b hb => by
    by_cases e : b = a
    · subst e; rw [hra]; exact Nat.zero_le _
    · show refs b ≤ ((turned (putAt S a l).now a 1)[b]?.getD 0).toNat
      rw [n2 b e]; exact hK.en b hb
  have s3 : SM S (withNow (putAt S a l) (down (putAt S a l).now a)) := sm_back l h0 n3
  have e3 : Enough (withNow (putAt S a l) (down (putAt S a l).now a)) refs := fun b hb => by
    show refs b ≤ ((down (putAt S a l).now a)[b]?.getD 0).toNat
    rw [n3 b]; exact hK.en b hb
  have k1 := hK.sm s1 m1 e1
  have hnd : ¬ 0 < nodes a := fun h => by
    have := hK.cnt.node hK.pool.trees (a := a) (decide_eq_true h)
    unfold nodeAt at this
    rw [if_pos (show (S.now[a]?.getD 0).toNat = 0 from h0)] at this
    cases this
  have hnw : nowN (putAt S a l) a = 1 := by unfold nowN; rw [n1a]; rfl
  have hask : askR (putAt S a l) (a : Int) = 0 := by rw [askR_in m1 h8 h256, hnw, if_neg (by decide)]
  have hok1 : heldOk (held ++ [(a : Int)]) = true := heldOk_all.2 fun b hb => by
    rcases List.mem_append.1 hb with h | h
    · exact heldOk_all.1 g2 b h
    · rw [List.mem_singleton.1 h]; omega
  refine ⟨k1, k1.sm s2 (may_now m1 h8 _) e2, hK.sm s3 (may_now m1 h8 _) e3, ?_, ?_, ?_, ?_, ?_, ?_⟩
  · refine counts_true.2 ⟨by simp; omega, hok1, fun b hb8 hb => ?_⟩
    rw [List.count_append, count_one]
    by_cases e : b = a
    · subst e; rw [n1a, if_pos rfl, hra, hca]; rfl
    · rw [n1 b e, if_neg e]; exact g3 b hb8 hb
  · refine counts_true.2 ⟨by simp; omega, heldOk_all.2 fun b hb => ?_, fun b hb8 hb => ?_⟩
    · rcases List.mem_append.1 hb with h | h
      · exact heldOk_all.1 hok1 b h
      · rw [List.mem_singleton.1 h]; omega
    · show refs b + _ = ((turned (putAt S a l).now a 1)[b]?.getD 0).toNat
      rw [List.count_append, List.count_append, count_one]
      by_cases e : b = a
      · subst e; rw [n2a, if_pos rfl, hra, hca]; rfl
      · rw [n2 b e, if_neg e]; exact g3 b hb8 hb
  · refine counts_true.2 ⟨g1, g2, fun b hb8 hb => ?_⟩
    show refs b + _ = ((down (putAt S a l).now a)[b]?.getD 0).toNat
    rw [n3 b]; exact g3 b hb8 hb
  · have h1 : dataE (putAt S a l) refs nodes (a : Int) false = 0 := by rw [dataE_in _ _ _ h8 h256, hnw, if_neg (by simp; omega)]
    unfold vshareE shareE
    rw [h1, hask, Int.toNat_natCast, hnw]
    rfl
  · have h1 : dataE (putAt S a l) refs nodes (a : Int) true = 0 := by rw [dataE_in _ _ _ h8 h256, hnw, hra, if_neg (by simp; omega)]
    unfold vlooseE
    rw [h1, hask]
    rfl
  · have h1 : metB nodes a = false := decide_eq_false hnd
    unfold useB useD
    rw [h1, n1a, if_neg (by decide), if_neg (by omega), if_pos (by decide)]
end Go.Proofs.Ytlgbjpihmkeopaa
