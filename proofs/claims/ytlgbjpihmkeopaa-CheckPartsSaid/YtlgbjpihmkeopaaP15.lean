/- Texts FreeIt, Mono, Copy, HeapC, FreeC, joined. -/
import Derived.RangeFuncKeeps
import Derived.RangeFuncBound
import Derived.RangeFuncLeaves
import Derived.Shelf.Abstract
import Derived.OwnWalkIn
import Derived.TacticsInMore
import Derived.Sort.CutIn
import Derived.Laws.CopyRow
import Derived.Laws.IdiomCopy
import Derived.Lib.Walk
import Derived.Test.YtlgbjpihmkeopaaP01
import Derived.Test.YtlgbjpihmkeopaaP03
import Derived.Test.YtlgbjpihmkeopaaP11
import Derived.Test.YtlgbjpihmkeopaaP13
import Derived.Test.YtlgbjpihmkeopaaP14
/- The blocks that may be taken, rising: what the iterator hands out. -/
namespace Go.Proofs.Ytlgbjpihmkeopaa
set_option linter.unusedSimpArgs false
set_option linter.unusedVariables false
open Go.RowKit Go.Shelf

attribute [local go_sem] Oper.semAt_some

def lastN (S : Sto) (a : Nat) : Nat := (S.last[a]?.getD 0).toNat
def freeB (S : Sto) (a : Nat) : Bool := decide (8 ≤ a) && (decide (nowN S a = 0) && decide (lastN S a = 0))
def freeTo (S : Sto) (k : Nat) : List Nat := (List.range k).filter (freeB S)
def freeS (S : Sto) : List Nat := freeTo S 256
theorem freeTo_succ (S : Sto) (k : Nat) : freeTo S (k + 1) = if freeB S k = true then freeTo S k ++ [k] else freeTo S k := by
  unfold freeTo
  rw [List.range_succ, List.filter_append]
  by_cases h : freeB S k = true
  · rw [if_pos h]; simp [h]
  · rw [if_neg h]; simp [h]
theorem freeTo_len (S : Sto) (k : Nat) : (freeTo S k).length ≤ k := Nat.le_trans (List.length_filter_le _ _) (by simp)
theorem freeTo_8 (S : Sto) : freeTo S 8 = [] := by
  unfold freeTo
  rw [List.filter_eq_nil_iff]
  intro a ha
  have : a < 8 := by simpa using ha
  unfold freeB
  simp [show ¬ 8 ≤ a by omega]
theorem freeTo_pre (S : Sto) {k m : Nat} (h : k ≤ m) : freeTo S k <+: freeTo S m := by
  induction m with
  | zero =>
    obtain rfl : k = 0 := by omega
    exact List.prefix_refl _
  | succ m ih =>
    rcases Nat.lt_or_ge m k with h1 | h1
    · obtain rfl : k = m + 1 := by omega
      exact List.prefix_refl _
    · refine (ih h1).trans ?_
      rw [freeTo_succ]
      split
      · exact List.prefix_append _ _
      · exact List.prefix_refl _
theorem nowN_lt (S : Sto) (a : Nat) : nowN S a < 256 := UInt8.toNat_lt _
theorem lastN_lt (S : Sto) (a : Nat) : lastN S a < 256 := UInt8.toNat_lt _
theorem or_zero (a b : Nat) (ha : a < 256) (hb : b < 256) : (bits .or .u8 (a : Int) (b : Int) == 0) = (decide (a = 0) && decide (b = 0)) := by
  have e : bits .or .u8 (a : Int) (b : Int) = ((a ||| b : Nat) : Int) := by
    have e : ∀ n : Nat, n < 256 → (BitVec.ofInt 8 (n : Int)).toNat = n := fun n hn => by simp [BitVec.ofInt_natCast]; omega
    have hx : a ||| b < 2 ^ 8 := Nat.or_lt_two_pow (by omega) (by omega)
    show IntKind.u8.wrap (((BitVec.ofInt 8 (a : Int) ||| BitVec.ofInt 8 (b : Int)).toNat : Nat) : Int) = _
    rw [BitVec.toNat_or, e a ha, e b hb]
    simp [IntKind.wrap, IntKind.bits, IntKind.signed]
    omega
  rw [e]
  by_cases h : a = 0 ∧ b = 0
  · obtain ⟨rfl, rfl⟩ := h; rfl
  · have h2 : a ||| b ≠ 0 := by
      intro h3
      have h4 : a ≤ a ||| b := Nat.left_le_or
      have h5 : b ≤ a ||| b := Nat.right_le_or
      exact h ⟨by omega, by omega⟩
    have h6 : (decide (a = 0) && decide (b = 0)) = false := by
      rcases Nat.eq_zero_or_pos a with h7 | h7
      · have : b ≠ 0 := fun h8 => h ⟨h7, h8⟩
        simp [this]
      · simp [show a ≠ 0 by omega]
    rw [h6]
    simpa using fun h9 : ((a ||| b : Nat) : Int) = 0 => h2 (by omega)
theorem last_at {S : Sto} (hS : storeMay S = true) {w : World} {B : Nat} {v : Value} (h : Bys w B v S.last) : ∃ b o c, v = .slice (some ⟨b, o, none⟩) 256 c ∧ b < B ∧ ∀ a, a < 256 → w.cell? ⟨b, o + a, none⟩ = some (.int .u8 (lastN S a : Int)) := by
  obtain ⟨-, -, -, hl⟩ := storeMay_len hS
  obtain ⟨A, c, e, hc, hm, hr⟩ := h
  obtain ⟨b, o, rfl, hb, hcell⟩ := hr.2 (by omega)
  rw [hl] at e
  exact ⟨b, o, c, e, hb, fun a ha => hcell a _ (by rw [List.getElem?_map, List.getElem?_eq_getElem (by omega)]; unfold lastN; rw [List.getElem?_eq_getElem (by omega)]; rfl)⟩

set_option maxRecDepth 100000 in
set_option maxHeartbeats 4000000 in
theorem free_in (n : Nat) (hn : 1 ≤ n) (l bs n₀ : Nat) (v1 v2 v3 v4 : Value) (S : Sto) (hS : storeMay S = true) (J Jx : List Nat → World → Prop)
    (hY : ∀ pre x W, J pre W → pre.length < 256 → YieldAt Fence.wide (n - 1) Try.prog l #[.int .i64 ((x : Nat) : Int)] W fun e W' => (e = .returned (.bool true) ∧ J (pre ++ [x]) W' ∧ Below n₀ W W') ∨ (e = .returned (.bool false) ∧ Jx (pre ++ [x]) W'))
    (hJ : ∀ pre W W', J pre W → Ext W W' → J pre W')
    (W : World) (hbs : bs < n₀) (hn₀ : n₀ ≤ W.heap.size) (hrow : W.heap[bs]? = some (.cells #[v1, v2, v3, v4] 28 (0, 0))) (hst : StoAt W n₀ v1 v2 v3 v4 S) (h0 : J [] W) :
    CallsIn Fence.wide n Try.prog 59 #[.func (.yield l) #[] #[], .pointer (some ⟨bs, 0, none⟩)] W fun e W' => (∃ v, e = .returned v) ∧ ((∃ ys, ys = freeS S ∧ J ys W') ∨ (∃ pre, pre <+: freeS S ∧ Jx pre W')) := by
  obtain ⟨b3, o3, c3, rfl, hb3, hc3⟩ := now_at hS hst.now
  obtain ⟨b4, o4, c4, rfl, hb4, hc4⟩ := last_at hS hst.last
  replace hst := Lib.hid hst
  refine callsIn_of_wp Try.func59 rfl trivial ?_ rfl
  simp only [Try.ntmps59, List.size_toArray, List.length_cons, List.length_nil, Nat.reduceAdd, Nat.reduceSub, Array.replicate_succ, Array.replicate_zero, List.push_toArray, List.append_toArray, List.nil_append, List.cons_append]
  gi_wp2_with fail
  gi_loopw [3] (fun i wr => ∃ k : Nat, 8 ≤ k ∧ k ≤ 256 ∧ i = .int .i64 (k : Int) ∧ J (freeTo S k) wr ∧ Below n₀ W wr) (fun i _ => 256 - (intOf i).toNat)
  case atStart => exact ⟨8, by omega, by omega, rfl, by rw [freeTo_8]; exact h0, Below.refl _ _⟩
  case round =>
    obtain ⟨k, hk8, hk, rfl, hJs, hB⟩ := hrel
    have hro := (hB.block bs hbs).trans hrow
    by_cases hlt : k < 256
    · have hcx := (World.cell?_of_block (a := ⟨b3, o3 + k, none⟩) (hB.block b3 hb3)).trans (hc3 k hlt)
      have hcy := (World.cell?_of_block (a := ⟨b4, o4 + k, none⟩) (hB.block b4 hb4)).trans (hc4 k hlt)
      have gS : ∀ W', extRel.r wr W' → ∀ i, W'.cell? ⟨bs, i, none⟩ = #[v1, v2, .slice (some ⟨b3, o3, none⟩) 256 c3, .slice (some ⟨b4, o4, none⟩) 256 c4][i]? := fun W' h => cells_row (row_ext hro h)
      have gX : ∀ W', extRel.r wr W' → W'.cell? ⟨b3, o3 + k, none⟩ = some (.int .u8 (nowN S k : Int)) := fun W' h => Ext.cell h hcx
      have gY : ∀ W', extRel.r wr W' → W'.cell? ⟨b4, o4 + k, none⟩ = some (.int .u8 (lastN S k : Int)) := fun W' h => Ext.cell h hcy
      have hsu := Lib.hid (freeTo_succ S k)
      have hfb : freeB S k = (decide (nowN S k = 0) && decide (lastN S k = 0)) := by unfold freeB; simp [hk8]
      have hbz : (bits .or .u8 ((nowN S k : Nat) : Int) ((lastN S k : Nat) : Int) == 0) = freeB S k := or_zero _ _ (nowN_lt S k) (lastN_lt S k) ▸ hfb.symm
      generalize nowN S k = nw at *
      generalize lastN S k = lw at *
      replace hfb := Lib.hid hfb
      replace hc3 := Lib.hid hc3
      replace hc4 := Lib.hid hc4
      replace hro := Lib.hid hro
      have hln := Lib.hid (freeTo_len S k)
      clear hcx hcy
      rcases Bool.eq_false_or_eq_true (freeB S k) with hfr | hfr
      · rw [hfr] at hbz
        replace hsu := Lib.hid ((if_pos hfr) ▸ hsu.out)
        replace hfr := Lib.hid hfr
        gi_upto_region 3 with fail
        refine wpIn_region_freeT extRel (outsAt []) (List.replicate 15 true) 3 wideF (by kernel_rfl) (by kernel_rfl) (by kernel_rfl) (by kernel_rfl) (by kernel_rfl) (by kernel_rfl) (by kernel_rfl) (by kernel_rfl) (by kernel_rfl) ?st (Rel.drew _ _) ?walk
        case st => intro i h hx; simp [outsAt] at hx
        case walk =>
          intro K hK
          dsimp only [maskOps, List.replicate]
          repeat ((first | (refine free_plainM ?_ (by rfl) (by rfl) (fun W hW _ => ⟨W, ?_, Rel.refl _ W⟩) ?_; rotate_left; (first | (go_simp; with_reducible rfl) | (go_simp; done))) | (refine free_skipM (by rfl) ?_)); try simp only [Act.put, one_f, outB_f, outNew_f, outI_f, List.setIfInBounds_toArray, List.set_cons_zero, List.set_cons_succ])
          first
            | (refine free_plainM (.pointer (some ⟨b3, o3 + k, none⟩)) (by rfl) (by rfl) (fun W hW _ => ⟨W, ?_, Rel.refl _ W⟩) ?_
               · go_simp
                 rw [IntWalk.i64_in (k : Int) (by omega), if_pos (by omega)]
                 simp
               simp only [Act.put, one_f, outB_f, outNew_f, outI_f, List.setIfInBounds_toArray, List.set_cons_zero, List.set_cons_succ])
            | skip
          repeat ((first | (refine free_plainM ?_ (by rfl) (by rfl) (fun W hW _ => ⟨W, ?_, Rel.refl _ W⟩) ?_; rotate_left; (first | (go_simp; with_reducible rfl) | (go_simp; done))) | (refine free_skipM (by rfl) ?_)); try simp only [Act.put, one_f, outB_f, outNew_f, outI_f, List.setIfInBounds_toArray, List.set_cons_zero, List.set_cons_succ])
          first
            | (refine free_plainM (.pointer (some ⟨b4, o4 + k, none⟩)) (by rfl) (by rfl) (fun W hW _ => ⟨W, ?_, Rel.refl _ W⟩) ?_
               · go_simp
                 rw [IntWalk.i64_in (k : Int) (by omega), if_pos (by omega)]
                 simp
               simp only [Act.put, one_f, outB_f, outNew_f, outI_f, List.setIfInBounds_toArray, List.set_cons_zero, List.set_cons_succ])
            | skip
          repeat ((first | (refine free_plainM ?_ (by rfl) (by rfl) (fun W hW _ => ⟨W, ?_, Rel.refl _ W⟩) ?_; rotate_left; (first | (go_simp; with_reducible rfl) | (go_simp; done))) | (refine free_skipM (by rfl) ?_)); try simp only [Act.put, one_f, outB_f, outNew_f, outI_f, List.setIfInBounds_toArray, List.set_cons_zero, List.set_cons_succ])
          refine free_nilM (hK _ _ fun W2 hW hF => ?_)
          clear hF hK
          dsimp only [List.drop, List.length_cons, List.length_nil]
          obtain ⟨fn, tm, asg, bdy, hy, hR⟩ := hY (freeTo S k) k W2 (hJ _ _ _ hJs hW) (by have := hln.out; omega)
          gi_wp2_with fail
          refine hR.mono ?_
          rintro e W3 (⟨rfl, hJ3, hk3⟩ | ⟨rfl, hJx3⟩)
          · gi_wp2_with fail
            go_roundw
            case rel => exact ⟨k + 1, by omega, by omega, by go_num, by rw [hsu.out]; exact hJ3, hB.trans ((Below.mono hW (Nat.le_trans hn₀ hB.size)).trans hk3)⟩
            case measure => simp [intOf]; omega
          · gi_wp2_with fail
            refine bodyPost_ret (results_none rfl _ _ _) rfl ?_
            exact ⟨⟨_, rfl⟩, .inr ⟨_, hsu.out ▸ freeTo_pre S (by omega), hJx3⟩⟩
      · rw [hfr] at hbz
        replace hsu := Lib.hid ((if_neg (show ¬ freeB S k = true by rw [hfr]; decide)) ▸ hsu.out)
        replace hfr := Lib.hid hfr
        gi_upto_region 3 with fail
        refine wpIn_region_freeT extRel (outsAt []) (List.replicate 15 true) 3 wideF (by kernel_rfl) (by kernel_rfl) (by kernel_rfl) (by kernel_rfl) (by kernel_rfl) (by kernel_rfl) (by kernel_rfl) (by kernel_rfl) (by kernel_rfl) ?st (Rel.drew _ _) ?walk
        case st => intro i h hx; simp [outsAt] at hx
        case walk =>
          intro K hK
          dsimp only [maskOps, List.replicate]
          repeat ((first | (refine free_plainM ?_ (by rfl) (by rfl) (fun W hW _ => ⟨W, ?_, Rel.refl _ W⟩) ?_; rotate_left; (first | (go_simp; with_reducible rfl) | (go_simp; done))) | (refine free_skipM (by rfl) ?_)); try simp only [Act.put, one_f, outB_f, outNew_f, outI_f, List.setIfInBounds_toArray, List.set_cons_zero, List.set_cons_succ])
          first
            | (refine free_plainM (.pointer (some ⟨b3, o3 + k, none⟩)) (by rfl) (by rfl) (fun W hW _ => ⟨W, ?_, Rel.refl _ W⟩) ?_
               · go_simp
                 rw [IntWalk.i64_in (k : Int) (by omega), if_pos (by omega)]
                 simp
               simp only [Act.put, one_f, outB_f, outNew_f, outI_f, List.setIfInBounds_toArray, List.set_cons_zero, List.set_cons_succ])
            | skip
          repeat ((first | (refine free_plainM ?_ (by rfl) (by rfl) (fun W hW _ => ⟨W, ?_, Rel.refl _ W⟩) ?_; rotate_left; (first | (go_simp; with_reducible rfl) | (go_simp; done))) | (refine free_skipM (by rfl) ?_)); try simp only [Act.put, one_f, outB_f, outNew_f, outI_f, List.setIfInBounds_toArray, List.set_cons_zero, List.set_cons_succ])
          first
            | (refine free_plainM (.pointer (some ⟨b4, o4 + k, none⟩)) (by rfl) (by rfl) (fun W hW _ => ⟨W, ?_, Rel.refl _ W⟩) ?_
               · go_simp
                 rw [IntWalk.i64_in (k : Int) (by omega), if_pos (by omega)]
                 simp
               simp only [Act.put, one_f, outB_f, outNew_f, outI_f, List.setIfInBounds_toArray, List.set_cons_zero, List.set_cons_succ])
            | skip
          repeat ((first | (refine free_plainM ?_ (by rfl) (by rfl) (fun W hW _ => ⟨W, ?_, Rel.refl _ W⟩) ?_; rotate_left; (first | (go_simp; with_reducible rfl) | (go_simp; done))) | (refine free_skipM (by rfl) ?_)); try simp only [Act.put, one_f, outB_f, outNew_f, outI_f, List.setIfInBounds_toArray, List.set_cons_zero, List.set_cons_succ])
          refine free_nilM (hK _ _ fun W2 hW hF => ?_)
          clear hF hK
          dsimp only [List.drop, List.length_cons, List.length_nil]
          refine ⟨fun _ h => (by cases h), ?_⟩
          gi_wp2_with fail
          go_roundw
          case rel => exact ⟨k + 1, by omega, by omega, by go_num, by rw [hsu.out]; exact hJ _ _ _ hJs hW, hB.trans (Below.mono hW (Nat.le_trans hn₀ hB.size))⟩
          case measure => simp [intOf]; omega
    · gi_wp2_with fail
      obtain rfl : k = 256 := by omega
      go_end0
      exact ⟨⟨_, rfl⟩, .inl ⟨_, rfl, hJs⟩⟩
end Go.Proofs.Ytlgbjpihmkeopaa
/- What one store has, another has too: nodes, spans, volumes, counts. -/
namespace Go.Proofs.Ytlgbjpihmkeopaa
set_option linter.unusedSimpArgs false
set_option linter.unusedVariables false
open Go.RowKit

structure SM (S S' : Sto) : Prop where
  node : ∀ r nd, nodeAt S r = some nd → nodeAt S' r = some nd
  pos : ∀ r : Nat, 0 < (S.now[r]?.getD 0).toNat → 0 < (S'.now[r]?.getD 0).toNat
theorem foldl_mono {one one' : It → Option (K3 × K3)} (h : ∀ y p, one y = some p → one' y = some p) : ∀ (xs : List It) (a : Option (Option (K3 × K3))) (q : Option (K3 × K3)), xs.foldl (stepS one) a = some q → xs.foldl (stepS one') a = some q
  | [], _, _, e => e
  | x :: r, a, q, e => by
    simp only [List.foldl_cons] at e ⊢
    have hs := (foldl_one one r (stepS one a x) (by rw [e]; rfl)).1
    have e2 : stepS one' a x = stepS one a x := by
      unfold stepS at hs ⊢
      rcases a with _ | a
      · rfl
      · rcases hx : one x with _ | p
        · rw [hx] at hs; cases hs
        · rw [h x p hx]
    rw [e2]
    exact foldl_mono h r _ q e
section
variable {S S' : Sto}
theorem SM.one (hm : SM S S') : ∀ (h : Nat) (y : It) (p : K3 × K3), oneS S h y = some p → oneS S' h y = some p
  | 0, y, p, e => by
    unfold oneS at e ⊢
    split at e
    · rename_i hc
      rw [if_pos (hc.imp id (hm.pos _))]
      exact e
    · cases e
  | h + 1, y, p, e => by
    rw [oneS_succ] at e ⊢
    unfold learnS at e ⊢
    split at e
    · rename_i hr
      rw [if_pos hr]
      rcases hn : nodeAt S y.r.toNat with _ | ⟨lvl, xs⟩
      · rw [hn] at e; cases e
      · rw [hn] at e
        rw [hm.node _ _ hn]
        simp only at e ⊢
        split at e
        · rename_i hl
          rw [if_pos hl]
          rcases hs : spanS S h xs with _ | q
          · rw [hs] at e; cases e
          · rw [hs] at e
            have h2 : spanS S' h xs = some q := foldl_mono (SM.one hm h) xs _ q hs
            rw [h2]
            exact e
        · cases e
    · cases e
theorem SM.span (hm : SM S S') {h : Nat} {xs : List It} {q : Option (K3 × K3)} (e : spanS S h xs = some q) : spanS S' h xs = some q := foldl_mono (hm.one h) xs _ q e
theorem SM.spanOk (hm : SM S S') {h : Nat} {xs : List It} (e : (spanS S h xs).isSome = true) : (spanS S' h xs).isSome = true := by
  obtain ⟨q, hq⟩ := Option.isSome_iff_exists.1 e
  rw [hm.span hq]
  rfl
theorem SM.okL (hm : SM S S') {L r : Int} (e : okL S L r = true) : okL S' L r = true := by
  unfold Go.Proofs.Ytlgbjpihmkeopaa.okL at e ⊢
  split at e
  · rename_i hr
    rw [if_pos hr]
    rcases hn : nodeAt S r.toNat with _ | ⟨lvl, xs⟩
    · rw [hn] at e; cases e
    · rw [hn] at e
      rw [hm.node _ _ hn]
      simp only [Bool.and_eq_true] at e ⊢
      exact ⟨hm.spanOk e.1, e.2⟩
  · cases e
theorem SM.items (hm : SM S S') : ∀ (h : Nat) (xs : List It), (spanS S h xs).isSome = true → itemsS S' h xs = itemsS S h xs
  | 0, _, _ => rfl
  | h + 1, xs, e => by
    unfold itemsS
    rw [List.flatMap_def, List.flatMap_def]
    congr 1
    refine List.map_congr_left fun y hy => ?_
    obtain ⟨b, hb, _, _, ys, hn, hs⟩ := one_tree (span_one e y hy)
    rw [hb, Int.toNat_natCast, hm.node _ _ hn, hn]
    exact SM.items hm h ys hs
theorem SM.vols (hm : SM S S') {root next : Int} {vs : List Vol} (ht : Go.Proofs.Ytlgbjpihmkeopaa.okL S (-1) root = true) (e : volsOf S root next = some vs) : volsOf S' root next = some vs := by
  unfold volsOf at e ⊢
  unfold Go.Proofs.Ytlgbjpihmkeopaa.okL at ht
  split at ht
  · rcases hn : nodeAt S root.toNat with _ | ⟨lvl, xs⟩
    · rw [hn] at e; cases e
    · rw [hn] at e ht
      rw [hm.node _ _ hn]
      simp only [Bool.and_eq_true] at e ht ⊢
      rw [hm.items _ _ ht.1]
      exact e
  · cases ht
theorem SM.pool (hm : SM S S') (hS : storeMay S' = true) {root next : Int} {dead : List Int} {vs : List Vol} (h : PoolB S root next dead vs) : PoolB S' root next dead vs :=
  ⟨hS, h.few, hm.okL h.top, hm.vols h.top h.vols, fun r hr => hm.okL (h.ok r hr)⟩
theorem SM.refs (hm : SM S S') {a : Nat} (h : treeOk S a) : refsS S' a = refsS S a := by
  obtain ⟨-, -, lvl, xs, hn, -⟩ := h
  unfold refsS
  rw [hn, hm.node _ _ hn]
theorem SM.kids (hm : SM S S') {a : Nat} (h : treeOk S a) : kidsS S' a = kidsS S a := by
  have hr := hm.refs h
  obtain ⟨-, -, lvl, xs, hn, -⟩ := h
  unfold kidsS
  rw [hn, hm.node _ _ hn]
  simp only [hr]
theorem SM.rch (hm : SM S S') {R : Nat → Prop} (hR : ∀ a, R a → treeOk S a) {a : Nat} (x : Rch (kidsS S) R a) : Rch (kidsS S') R a := by
  induction x with
  | base r => exact .base r
  | step hx hb ih => exact .step ih (by rw [hm.kids (reach_tree hR hx)]; exact hb)
theorem rsum_rs {rs rs' : Nat → List Nat} {M : Nat → Bool} {b : Nat} : ∀ n, (∀ a, M a = true → rs a = rs' a) → rsum rs M b n = rsum rs' M b n
  | 0, _ => rfl
  | n + 1, h => by
    unfold rsum
    rw [rsum_rs n h]
    by_cases hm : M n = true
    · rw [if_pos hm, if_pos hm, h n hm]
    · rw [if_neg hm, if_neg hm]
theorem SM.counted (hm : SM S S') {R : List Nat} {refs nodes : Nat → Nat} (hR : ∀ a, a ∈ R → treeOk S a) (h : Counted S R refs nodes) : Counted S' R refs nodes := by
  have htr : ∀ a, metB nodes a = true → treeOk S a := fun a ha => reach_tree (R := (· ∈ R)) hR (h.mkd.reach a ha)
  refine ⟨⟨fun a ha => hm.rch hR (h.mkd.reach a ha), h.mkd.root, fun a ha b hb => ?_, fun b => ?_⟩, h.few⟩
  · rw [hm.kids (htr a ha)] at hb
    exact h.mkd.kids a ha b hb
  · rw [h.mkd.sum b, rsum_rs 256 fun a ha => (hm.refs (htr a ha)).symm]
theorem PoolB.trees {root next : Int} {dead : List Int} {vs : List Vol} (h : PoolB S root next dead vs) : ∀ a, a ∈ rootsN root dead vs → treeOk S a := fun a ha => by
  obtain ⟨r, hr, rfl⟩ := List.mem_map.1 ha
  obtain ⟨n, rfl, hn⟩ := okL_root (h.ok r hr)
  exact hn
theorem Counted.node {R : List Nat} {refs nodes : Nat → Nat} (hR : ∀ a, a ∈ R → treeOk S a) (h : Counted S R refs nodes) {a : Nat} (ha : metB nodes a = true) : (nodeAt S a).isSome = true := by
  obtain ⟨-, -, lvl, xs, hn, -⟩ := reach_tree (R := (· ∈ R)) hR (h.mkd.reach a ha)
  rw [hn]
  rfl
end
end Go.Proofs.Ytlgbjpihmkeopaa
/- The builtin copy, onto a row of the call's own. -/
namespace Go.Proofs.Ytlgbjpihmkeopaa
set_option linter.unusedSimpArgs false
set_option linter.unusedVariables false
open Go.RowKit

theorem setRow_grown (w : World) (g : Nat) (cs : Array Value) : w.grownBy (w.setRow g cs) (some g) :=
  ⟨rfl, rfl, rfl, by simp, fun k _ hk => setRow_other w g k _ (fun e => hk (by simp [e]))⟩
theorem run_copy_bys {P : Program} (W : World) {B : Nat} (dT sT ty elem : TypeId) (g o dLen dCap : Nat) (A : Option Addr) (c : Nat) (l : List UInt8) (cur : Array Value) (t : TypeId)
    (hu : P.underlying dT = some (.slice elem)) (hs : (P.info? elem).map (·.size) = some 1) (hg : W.heap[g]? = some (.cells cur t (0, 0))) (h : Bys W B (.slice A l.length c) l) (hd : l.length ≤ dLen) (hfit : o + l.length ≤ cur.size) :
    (Builtin.copy_ #[dT, sT] ty #[.slice (some ⟨g, o, none⟩) dLen dCap, .slice A l.length c]).run P W = .ok (.int .i64 (l.length : Int)) (W.setRow g (cur.toList.take o ++ l.map bv ++ cur.toList.drop (o + l.length)).toArray) := by
  obtain ⟨A', c', e, hc, hm, hr⟩ := h
  simp only [Value.slice.injEq, true_and] at e
  obtain ⟨rfl, rfl⟩ := e
  rcases A with _ | ad
  · have h0 : l.length = 0 := by
      rcases Nat.eq_zero_or_pos l.length with h0 | h0
      · exact h0
      · obtain ⟨b, off, h, _⟩ := hr.2 h0
        cases h
    obtain rfl : l = [] := List.eq_nil_of_length_eq_zero h0
    cases hq : P.info? elem with
    | none => simp [hq] at hs
    | some i =>
      simp [Builtin.copy_, run_underlying hu, Builtin.lenOf, Builtin.firstCells, sizeOf, typeInfo, hq, storeCells]
      rw [setRow_self W g cur t (0, 0) hg]
      exact ⟨rfl, rfl⟩
  · have hsrc : ∀ j v, (l.map bv)[j]? = some v → W.cell? (ad.add j) = some v := by
      intro j v hv
      rcases Nat.eq_zero_or_pos l.length with h0 | h0
      · obtain rfl : l = [] := List.eq_nil_of_length_eq_zero h0
        simp at hv
      · obtain ⟨b, off, h, _⟩ := hr.2 h0
        cases h
        exact hr.adds h0 j v hv
    have := run_copy_row P W dT sT ty elem g o dLen dCap ad l.length c cur t (l.map bv) hu hs hg (by simp [Nat.min_eq_left hd]) hsrc (by simpa using hfit) (bvs_one l)
    rw [List.length_map] at this
    exact this
end Go.Proofs.Ytlgbjpihmkeopaa
/- Contracts: a piece cut out of new memory. -/
namespace Go.Proofs.Ytlgbjpihmkeopaa
set_option linter.unusedSimpArgs false
set_option linter.unusedVariables false
open Go.RowKit

def laidAt (cur : Array Value) (o : Nat) (l : List UInt8) : Array Value := (cur.toList.take o ++ l.map bv ++ cur.toList.drop (o + l.length)).toArray
theorem laidAt_size {cur : Array Value} {o : Nat} {l : List UInt8} (h : o + l.length ≤ cur.size) : (laidAt cur o l).size = cur.size := by
  simp [laidAt]
  omega
theorem laidAt_old {cur : Array Value} {o : Nat} {l : List UInt8} {j : Nat} (h : o + l.length ≤ cur.size) (hj : j < o ∨ o + l.length ≤ j) : (laidAt cur o l)[j]? = cur[j]? := by
  unfold laidAt
  rw [List.getElem?_toArray]
  have hcl : cur.toList.length = cur.size := by simp
  rcases hj with hj | hj
  · rw [List.append_assoc, List.getElem?_append_left (by rw [List.length_take]; omega), List.getElem?_take, if_pos hj]
    simp
  · rw [List.getElem?_append_right (by rw [List.length_append, List.length_take, List.length_map]; omega), List.getElem?_drop, List.length_append, List.length_take, List.length_map, hcl]
    rw [show o + l.length + (j - (min o cur.size + l.length)) = j by omega]
    simp
theorem laidAt_new {cur : Array Value} {o : Nat} {l : List UInt8} {j : Nat} {u : Value} (h : o + l.length ≤ cur.size) (hu : (l.map bv)[j]? = some u) : (laidAt cur o l)[o + j]? = some u := by
  have hj : j < l.length := by
    have := (List.getElem?_eq_some_iff.1 hu).1
    simpa using this
  have hcl : cur.toList.length = cur.size := by simp
  unfold laidAt
  rw [List.getElem?_toArray, List.append_assoc, List.getElem?_append_right (by rw [List.length_take]; omega), List.length_take, hcl, show o + j - min o cur.size = j by omega, List.getElem?_append_left (by rw [List.length_map]; exact hj)]
  exact hu

structure HeapB (hb g o n : Nat) (cur : Array Value) (w : World) : Prop where
  box : w.heap[hb]? = some (.cells #[.slice (some ⟨g, o, none⟩) n n] 195 (0, 0))
  row : w.heap[g]? = some (.cells cur 5 (0, 0))
  ne : hb ≠ g
  fit : o + n ≤ cur.size
  few : n < 1000000000000000

def CloneQ (hb g o n : Nat) (cur : Array Value) (l : List UInt8) (w : World) (e : Ending) (w' : World) : Prop := ∃ o', e = .returned (.slice (some ⟨g, o, none⟩) l.length l.length) ∧ (0 < n - l.length → o' = o + l.length) ∧ (n - l.length = 0 → o' = o) ∧ HeapB hb g o' (n - l.length) (laidAt cur o l) w' ∧
  (w'.heap.size = w.heap.size ∧ w'.os = w.os ∧ w'.tape = w.tape ∧ w'.output = w.output ∧ ∀ b, b ≠ hb → b ≠ g → w'.heap[b]? = w.heap[b]?)

set_option maxHeartbeats 2000000 in
set_option maxRecDepth 100000 in
theorem hclone_any (hb g o n : Nat) (cur : Array Value) (A : Option Addr) (c : Nat) (l : List UInt8) (hl : l.length ≤ n) (w : World) (H : HeapB hb g o n cur w) (h : Bys w w.heap.size (.slice A l.length c) l) :
    Calls Try.prog 121 #[.pointer (some ⟨hb, 0, none⟩), .slice A l.length c] w (CloneQ hb g o n cur l w) := by
  have hsz : (Try.prog.info? 5).map (·.size) = some 1 := by kernel_rfl
  obtain ⟨r1, r2, hne, hfit, hfew⟩ := H
  have hcp := run_copy_bys (P := Try.prog) w 195 26 3 5 g o n n A c l _ _ Try.underlying195 hsz r2 h hl (by omega)
  have e1 : (List.take o cur.toList ++ List.map bv l ++ List.drop (o + l.length) cur.toList).toArray = laidAt cur o l := rfl
  rw [e1] at hcp
  have r3 : (w.setRow g (laidAt cur o l)).heap[hb]? = some (.cells #[.slice (some ⟨g, o, none⟩) n n] 195 (0, 0)) := (setRow_other w g hb _ hne).trans r1
  have r4 := setRow_heap w g _ (laidAt cur o l) _ _ r2
  have h3 : ∀ b, b ≠ g → (w.setRow g (laidAt cur o l)).heap[b]? = w.heap[b]? := fun b hb => setRow_other w g b _ hb
  have s3 : (w.setRow g (laidAt cur o l)).heap.size = w.heap.size := by simp
  have o3 : (w.setRow g (laidAt cur o l)).os = w.os ∧ (w.setRow g (laidAt cur o l)).tape = w.tape ∧ (w.setRow g (laidAt cur o l)).output = w.output := ⟨rfl, rfl, rfl⟩
  generalize w.setRow g (laidAt cur o l) = w3 at *
  have k1 := cells_row r1
  have k3 := cells_row r3
  have f3 := frozen_row r3
  have f1 := frozen_row r1
  clear h r1 r2 hsz e1
  replace h3 := Lib.hid h3
  replace r4 := Lib.hid r4
  replace o3 := Lib.hid o3
  have hll := Lib.hid hl
  have hc1 : (l.length : Int) ≤ (n : Int) := by omega
  have fin : Hid (∀ o' n', n' = n - l.length → (0 < n' → o' = o + l.length) → (n' = 0 → o' = o) → CloneQ hb g o n cur l w (.returned (.slice (some ⟨g, o, none⟩) l.length l.length)) (w3.setCell ⟨hb, 0, none⟩ (.slice (some ⟨g, o', none⟩) n' n'))) := Lib.hid fun o' n' e h1 h2 => by
    subst e
    refine ⟨o', rfl, h1, h2, ⟨row_set r3 0 _, (Below.heap_setCell _ _ _ _ (fun e => hne e.symm)).trans r4.out, hne, ?_, by omega⟩, by simpa using s3, o3.out.1, o3.out.2.1, o3.out.2.2, fun b hb hbg => (Below.heap_setCell _ _ _ _ hb).trans (h3.out b hbg)⟩
    rw [laidAt_size (by omega)]
    rcases Nat.eq_zero_or_pos (n - l.length) with h0 | h0
    · have := h2 h0; omega
    · have := h1 h0; omega
  clear r3 r4 h3 o3 hfit
  go_enter Try.func121, Try.ntmps121
  go_wp2_with fail
  · subst h
    go_ret
    exact fin.out o 0 (by omega) (fun h => by omega) (fun _ => rfl)
  · go_ret
    exact fin.out (o + l.length) (n - l.length) rfl (fun _ => rfl) (fun h => by omega)
end Go.Proofs.Ytlgbjpihmkeopaa
/- A region that draws its order, told by one walk: one operation (number c) may do to memory what R allows, all others only what R0 allows; c is carried out in a world that R0 alone has led to. -/
namespace Go.Proofs.Ytlgbjpihmkeopaa
set_option linter.unusedSimpArgs false
set_option linter.unusedVariables false
open Go.RowKit

section
variable {R0 R : Rel} {c : Nat}
def preC (R0 R : Rel) (c i : Nat) : Rel := if i = c then R0 else R
def stpC (R0 R : Rel) (c i : Nat) : Rel := if i = c then R else R0
section
variable {P : Program} {ops : Array Oper} {w0 : World}
def OkayC (R0 R : Rel) (c : Nat) (P : Program) (ops : Array Oper) (w0 : World) (H : Nat → Option Outs) (i : Nat) (o : Oper) (a : Act) (F : Facts) (h : Outs) : Prop :=
  (Region.wanted o (yielded ops a.tmps) = false ∧ h = one undef) ∨
  (Region.wanted o (yielded ops a.tmps) = true ∧ H i = none ∧ ∃ v, h = one v ∧ ∀ W, (preC R0 R c i).r w0 W → (∀ k ∈ predsOf o, F k W) → plainAtG (stpC R0 R c i) P o a W v) ∨
  (Region.wanted o (yielded ops a.tmps) = true ∧ H i = some h ∧ ∀ W, (preC R0 R c i).r w0 W → (∀ k ∈ predsOf o, F k W) → hardAtG (stpC R0 R c i) P o a W h)
def ConsC (R0 R : Rel) (c : Nat) (w0 : World) (listed : Array Bool) (F : Facts) : Prop := ∃ W, R.r w0 W ∧ (listed.getD c true = false → R0.r w0 W) ∧ ∀ k, F k W
def FOpC (R0 R : Rel) (c : Nat) (P : Program) (ops : Array Oper) (w0 : World) (H : Nat → Option Outs) (listed : Array Bool) (i : Nat) (o : Oper) (K : Act → Facts → Prop) (a : Act) (F : Facts) : Prop :=
  ∃ h, OkayC R0 R c P ops w0 H i o a F h ∧ ∀ p, ConsC R0 R c w0 (listed.setIfInBounds i true) (upd F i o (h.φ p)) → K (a.put o.dst (h.f p)) (upd F i o (h.φ p))
def wpFreeC (R0 R : Rel) (c : Nat) (P : Program) (ops : Array Oper) (w0 : World) (H : Nat → Option Outs) (Q : Act → Facts → Prop) : List (Nat × Oper) → Array Bool → Act → Facts → Prop
  | [], _, a, F => Q a F
  | (k, o) :: rest, listed, a, F => FOpC R0 R c P ops w0 H listed k o (fun a' F' => wpFreeC R0 R c P ops w0 H Q rest (listed.setIfInBounds k true) a' F') a F
def wpAnyFC (R0 R : Rel) (c : Nat) (P : Program) (ops : Array Oper) (w0 : World) (H : Nat → Option Outs) (L : Array Bool) (Q : Act → Facts → Prop) : Nat → Array Bool → Act → Facts → Prop
  | 0, listed, a, F => listed = L ∧ Q a F
  | fuel + 1, listed, a, F => Region.ready .any ops listed ≠ [] ∧ ∀ i ∈ Region.ready .any ops listed, ∀ o, ops[i]? = some o → FOpC R0 R c P ops w0 H listed i o (wpAnyFC R0 R c P ops w0 H L Q fuel (listed.setIfInBounds i true)) a F

theorem preC_of {listed : Array Bool} {i : Nat} {W : World} (hi : listed.getD i true = false) (h : R.r w0 W) (h0 : listed.getD c true = false → R0.r w0 W) : (preC R0 R c i).r w0 W := by
  unfold preC
  split
  · rename_i e; subst e; exact h0 hi
  · exact h
theorem stpC_le (hle : ∀ a b, R0.r a b → R.r a b) {i : Nat} {W W' : World} (h : (stpC R0 R c i).r W W') : R.r W W' := by
  unfold stpC at h
  split at h
  · exact h
  · exact hle _ _ h
theorem stpC_0 {listed : Array Bool} {i : Nat} {W W' : World} (hi : listed.getD i true = false) (h : (stpC R0 R c i).r W W') (hc : (listed.setIfInBounds i true).getD c true = false) : R0.r W W' := by
  unfold stpC at h
  split at h
  · rename_i e
    subst e
    exfalso
    rcases Nat.lt_or_ge i listed.size with h' | h'
    · simp [h'] at hc
    · simp [Array.getElem?_eq_none h'] at hi
  · exact h
theorem unset {listed : Array Bool} {i c : Nat} (hc : (listed.setIfInBounds i true).getD c true = false) : listed.getD c true = false := by
  by_cases e : i = c
  · subst e
    rcases Nat.lt_or_ge i listed.size with h' | h'
    · simp [h'] at hc
    · simp [Array.getElem?_eq_none h'] at hc
  · rwa [getD_set_ne true e] at hc

def Void (c : Nat) (listed : Array Bool) (F : Facts) : Prop := listed.getD c true = false → ∀ k W, F k W
theorem keepC {listed : Array Bool} {F : Facts} {i : Nat} {W W' : World} (hi : listed.getD i true = false) (hst : ∀ k, StableG R0 (F k)) (hv : Void c listed F) (h : (stpC R0 R c i).r W W') (k : Nat) (hF : F k W) : F k W' := by
  unfold stpC at h
  split at h
  · rename_i e; subst e; exact hv hi k W'
  · exact hst k _ _ h hF
theorem OkayC.unique {H : Nat → Option Outs} {listed : Array Bool} {i : Nat} {o : Oper} {a : Act} {F : Facts} {h h' : Outs} (hc : ConsC R0 R c w0 listed F) (hi : listed.getD i true = false) (x : OkayC R0 R c P ops w0 H i o a F h) (y : OkayC R0 R c P ops w0 H i o a F h') : h = h' := by
  obtain ⟨W, hW, hW0, hF⟩ := hc
  have hW := preC_of hi hW hW0
  rcases x with ⟨x1, rfl⟩ | ⟨x1, x2, v, rfl, x3⟩ | ⟨x1, x2, x3⟩ <;> rcases y with ⟨y1, rfl⟩ | ⟨y1, y2, u, rfl, y3⟩ | ⟨y1, y2, y3⟩
  · rfl
  · rw [x1] at y1; cases y1
  · rw [x1] at y1; cases y1
  · rw [x1] at y1; cases y1
  · obtain ⟨w1, e1, _⟩ := x3 W hW fun k _ => hF k
    obtain ⟨w2, e2, _⟩ := y3 W hW fun k _ => hF k
    rw [e1] at e2
    cases e2
    rfl
  · rw [x2] at y2; cases y2
  · rw [x1] at y1; cases y1
  · rw [x2] at y2; cases y2
  · rw [x2] at y2; cases y2; rfl

theorem OkayC.some_ (hle : ∀ a b, R0.r a b → R.r a b) {H : Nat → Option Outs} {listed : Array Bool} {i : Nat} {o : Oper} {a : Act} {F : Facts} {h : Outs} (hc : ConsC R0 R c w0 listed F) (hi : listed.getD i true = false) (hst : ∀ k, StableG R0 (F k)) (hv : Void c listed F) (x : OkayC R0 R c P ops w0 H i o a F h) : ∃ p, ConsC R0 R c w0 (listed.setIfInBounds i true) (upd F i o (h.φ p)) := by
  obtain ⟨W, hW, hW0, hF⟩ := hc
  have triv : ∀ (φ : World → Prop) W', (stpC R0 R c i).r W W' → φ W' → ConsC R0 R c w0 (listed.setIfInBounds i true) (upd F i o φ) := fun φ W' he hφ => ⟨W', R.trans hW (stpC_le hle he), fun h => R0.trans (hW0 (unset h)) (stpC_0 hi he h), fun k => by
    unfold upd
    split
    · exact ⟨hφ, fun j _ => keepC hi hst hv he j (hF j)⟩
    · exact keepC hi hst hv he k (hF k)⟩
  have hW := preC_of hi hW hW0
  rcases x with ⟨x1, rfl⟩ | ⟨x1, x2, v, rfl, x3⟩ | ⟨x1, x2, x3⟩
  · exact ⟨(), triv _ W (Rel.refl _ W) trivial⟩
  · obtain ⟨w', _, he⟩ := x3 W hW fun k _ => hF k
    exact ⟨(), triv _ w' he trivial⟩
  · have h3 := x3 W hW fun k _ => hF k
    unfold hardAtG at h3
    generalize (execOp a.eval o).run P W = r at h3
    cases r with
    | ok n w' =>
      cases n <;> simp only [hardUponG] at h3
      case value u => obtain ⟨p, _, hp, he⟩ := h3; exact ⟨p, triv _ w' he hp⟩
      case skip => obtain ⟨p, _, hp, he⟩ := h3; exact ⟨p, triv _ w' he hp⟩
      case enter f args =>
        obtain ⟨he, hcl⟩ := h3
        obtain ⟨e, w'', fr, ⟨p, _, hp, he2⟩, _⟩ := hcl []
        exact ⟨p, triv _ w'' (Rel.trans _ he he2) hp⟩
    | halt x w' => simp only [hardUponG] at h3

theorem OkayC.move {H : Nat → Option Outs} {i j : Nat} {oi oj : Oper} {a : Act} {F : Facts} {h : Outs} {v : Value} {φ : World → Prop} (hap : oi.apart ops oj = true) (hsj : ∀ cs b, oj.op ≠ .select cs b) (hn : i ∉ predsOf oj) :
    OkayC R0 R c P ops w0 H j oj (a.put oi.dst v) (upd F i oi φ) h ↔ OkayC R0 R c P ops w0 H j oj a F h := by
  obtain ⟨h1, _, _⟩ := Oper.apart_spec hap
  have hF : ∀ W, (∀ k ∈ predsOf oj, upd F i oi φ k W) ↔ ∀ k ∈ predsOf oj, F k W := fun W => by
    constructor <;> intro hh k hk
    · have := hh k hk; unfold upd at this; rwa [if_neg (fun e => hn (by rw [← e]; exact hk))] at this
    · unfold upd; rw [if_neg (fun e => hn (by rw [← e]; exact hk))]; exact hh k hk
  unfold OkayC plainAtG hardAtG
  rw [wanted_put oj a oi.dst v h1, execOp_put oj hsj a oi.dst v h1]
  simp only [hF]

theorem OkayC.move' {H : Nat → Option Outs} {i j : Nat} {oi oj : Oper} {a : Act} {F : Facts} {h : Outs} {v : Value} {φ : World → Prop} (hap : oi.apart ops oj = true) (hsi : ∀ cs b, oi.op ≠ .select cs b) (hn : j ∉ predsOf oi) :
    OkayC R0 R c P ops w0 H i oi (a.put oj.dst v) (upd F j oj φ) h ↔ OkayC R0 R c P ops w0 H i oi a F h := by
  obtain ⟨_, _, h3⟩ := Oper.apart_spec hap
  have hF : ∀ W, (∀ k ∈ predsOf oi, upd F j oj φ k W) ↔ ∀ k ∈ predsOf oi, F k W := fun W => by
    constructor <;> intro hh k hk
    · have := hh k hk; unfold upd at this; rwa [if_neg (fun e => hn (by rw [← e]; exact hk))] at this
    · unfold upd; rw [if_neg (fun e => hn (by rw [← e]; exact hk))]; exact hh k hk
  unfold OkayC plainAtG hardAtG
  rw [wanted_put oi a oj.dst v h3, execOp_put oi hsi a oj.dst v h3]
  simp only [hF]


theorem OkayC.stable {H : Nat → Option Outs} (hH : ∀ i h, H i = some h → ∀ p, StableG R0 (h.φ p)) {i : Nat} {o : Oper} {a : Act} {F : Facts} {h : Outs} (x : OkayC R0 R c P ops w0 H i o a F h) : ∀ p, StableG R0 (h.φ p) := by
  rcases x with ⟨_, rfl⟩ | ⟨_, _, v, rfl, _⟩ | ⟨_, x2, _⟩
  · exact fun _ _ _ _ _ => trivial
  · exact fun _ _ _ _ _ => trivial
  · exact hH i h x2


theorem OkayC.void {H : Nat → Option Outs} (hone : ∀ i h, H i = some h → i = c) {listed : Array Bool} {i : Nat} {o : Oper} {a : Act} {F : Facts} {h : Outs} (hv : Void c listed F) (x : OkayC R0 R c P ops w0 H i o a F h) (p : h.α) : Void c (listed.setIfInBounds i true) (upd F i o (h.φ p)) := by
  intro hc k W
  have hcl := hv (unset hc)
  unfold upd
  split
  · refine ⟨?_, fun j _ => hcl j W⟩
    rcases x with ⟨_, rfl⟩ | ⟨_, _, v, rfl, _⟩ | ⟨_, x2, _⟩
    · trivial
    · trivial
    · exfalso
      have e := hone i h x2
      subst e
      rcases Nat.lt_or_ge i listed.size with h' | h'
      · simp [h'] at hc
      · simp [Array.getElem?_eq_none h'] at hc
  · exact hcl k W
theorem wpAnyF_firstC (hle : ∀ a b, R0.r a b → R.r a b) {H : Nat → Option Outs} (hone : ∀ i h, H i = some h → i = c) (hH : ∀ i h, H i = some h → ∀ p, StableG R0 (h.φ p)) {A : Nat → Prop} {Cl : Array Bool → Prop} {L : Array Bool} {Q : Act → Facts → Prop} {i : Nat} {oi : Oper} (hi : ops[i]? = some oi) (him : A i)
    (hsel : ∀ (j : Nat) (o : Oper) cs b, ops[j]? = some o → o.op ≠ .select cs b) (hcl : ∀ listed j, Cl listed → j ∈ Region.ready .any ops listed → Cl (listed.setIfInBounds j true)) (htail : ∀ (listed : Array Bool) (j : Nat), Cl listed → j ∈ Region.ready .any ops listed → L.getD j true = false → ∀ k, A k → listed.getD k false = true) :
    ∀ (fuel : Nat) (listed : Array Bool) (a : Act) (F : Facts), Cl listed →
      (∀ j oj, ops[j]? = some oj → j ≠ i → listed.getD j true = false → (∀ e ∈ oj.after, Region.binds .any e = true → e.on ≠ i) → oi.apart ops oj = true) →
      i ∈ Region.ready .any ops listed → (∀ k, StableG R0 (F k)) → ConsC R0 R c w0 listed F → Void c listed F → (∀ k, listed.getD k true = false → ∀ W, F k W) →
      FOpC R0 R c P ops w0 H listed i oi (wpAnyFC R0 R c P ops w0 H L Q fuel (listed.setIfInBounds i true)) a F → wpAnyFC R0 R c P ops w0 H L Q (fuel + 1) listed a F := by
  intro fuel
  induction fuel with
  | zero =>
    intro listed a F hCl _ hr hst hc hvd _ hop
    refine ⟨fun h => (by rw [h] at hr; cases hr), fun j hj oj hoj => ?_⟩
    by_cases hji : j = i
    · subst hji
      rw [hi] at hoj; cases hoj
      exact hop
    · exfalso
      obtain ⟨h, hok, hK⟩ := hop
      obtain ⟨p, hcp⟩ := hok.some_ hle hc (mem_ready.1 hr).1 hst hvd
      have hmj : L.getD j true = false := by rw [← (hK p hcp).1]; exact (mem_ready.1 (ready_mono hj hji)).1
      have h1 := htail listed j hCl hj hmj i him
      have h0 := (mem_ready.1 hr).1
      rcases Nat.lt_or_ge i listed.size with h' | h'
      · simp [h'] at h0 h1; rw [h0] at h1; cases h1
      · simp [Array.getElem?_eq_none h'] at h1
  | succ fuel ih =>
    intro listed a F hCl hfree hr hst hc hvd hun hop
    refine ⟨fun h => (by rw [h] at hr; cases hr), fun j hj oj hoj => ?_⟩
    by_cases hji : j = i
    · subst hji
      rw [hi] at hoj; cases hoj
      exact hop
    · obtain ⟨hjun, oj', hoj', hall⟩ := mem_ready.1 hj
      rw [hoj] at hoj'; cases hoj'
      obtain ⟨hiun, oi', hoi', halli⟩ := mem_ready.1 hr
      rw [hi] at hoi'; cases hoi'
      have bad : ∀ k, listed.getD k true = false → listed.getD k false = true → False := fun k h0 h1 => by
        rcases Nat.lt_or_ge k listed.size with h' | h'
        · simp [h'] at h0 h1; rw [h0] at h1; cases h1
        · simp [Array.getElem?_eq_none h'] at h1
      have hnot : ∀ e ∈ oj.after, Region.binds .any e = true → e.on ≠ i := fun e he hb heq => bad i hiun (heq ▸ hall e he hb)
      have hnot' : ∀ e ∈ oi.after, Region.binds .any e = true → e.on ≠ j := fun e he hb heq => bad j hjun (heq ▸ halli e he hb)
      have hpi : i ∉ predsOf oj := fun hin => by
        obtain ⟨e, he, hei⟩ := List.mem_map.1 hin
        rw [List.mem_filter] at he
        exact hnot e (by simpa using he.1) he.2 hei
      have hpj : j ∉ predsOf oi := fun hin => by
        obtain ⟨e, he, hei⟩ := List.mem_map.1 hin
        rw [List.mem_filter] at he
        exact hnot' e (by simpa using he.1) he.2 hei
      have hap := hfree j oj hoj hji hjun hnot
      have hsi : ∀ cs b, oi.op ≠ .select cs b := fun cs b => hsel i oi cs b hi
      have hsj : ∀ cs b, oj.op ≠ .select cs b := fun cs b => hsel j oj cs b hoj
      obtain ⟨h2, _⟩ := (Oper.apart_spec hap).2
      obtain ⟨hI, okI, hKI⟩ := hop
      obtain ⟨p0, hcp0⟩ := okI.some_ hle hc hiun hst hvd
      obtain ⟨hJ, okJ0, _⟩ := (hKI p0 hcp0).2 j (ready_mono hj hji) oj hoj
      have okJ : OkayC R0 R c P ops w0 H j oj a F hJ := (OkayC.move hap hsj hpi).1 okJ0
      refine ⟨hJ, okJ, fun q hcq => ?_⟩
      have stJ := okJ.stable hH q
      have hfree' : ∀ k ok, ops[k]? = some ok → k ≠ i → (listed.setIfInBounds j true).getD k true = false →
          (∀ e ∈ ok.after, Region.binds .any e = true → e.on ≠ i) → oi.apart ops ok = true := fun k ok hk hki hunk hno => by
        refine hfree k ok hk hki ?_ hno
        by_cases hjk : j = k
        · subst hjk; exact hjun
        · rw [getD_set_ne true hjk] at hunk; exact hunk
      refine ih (listed.setIfInBounds j true) _ _ (hcl _ _ hCl hj) hfree' (ready_mono hr (Ne.symm hji)) (upd_stableG hst j oj stJ) hcq (okJ.void hone hvd q) ?_ ?_
      · intro k hk W
        by_cases hjk : j = k
        · subst hjk
          exfalso
          have hlt : j < listed.size := by
            rcases Nat.lt_or_ge j listed.size with h' | h'
            · exact h'
            · simp [Array.getElem?_eq_none h'] at hjun
          simp [hlt] at hk
        · rw [getD_set_ne true hjk] at hk
          have := hun k hk W
          unfold upd; rw [if_neg (fun e => hjk e.symm)]; exact this
      · refine ⟨hI, (OkayC.move' hap hsi hpj).2 okI, fun p hcp => ?_⟩
        have hcp' : ConsC R0 R c w0 (listed.setIfInBounds i true) (upd F i oi (hI.φ p)) := by
          by_cases hjc : j = c
          · have hIone : ∃ v, hI = one v := by
              rcases okI with ⟨_, e⟩ | ⟨_, _, v, e, _⟩ | ⟨_, e, _⟩
              · exact ⟨_, e⟩
              · exact ⟨_, e⟩
              · exact absurd ((hone _ _ e).trans hjc.symm) (Ne.symm hji)
            obtain ⟨v, rfl⟩ := hIone
            exact hcp0
          · obtain ⟨W, hW, hW0, hF⟩ := hcp
            refine ⟨W, hW, fun h => hW0 ?_, fun k => ?_⟩
            · rw [Array.setIfInBounds_comm _ _ hji, getD_set_ne true hjc]
              exact h
            have hk := hF k
            by_cases hki : k = i
            · subst hki
              unfold upd at hk ⊢
              rw [if_pos rfl] at hk ⊢
              refine ⟨hk.1, fun l hl => ?_⟩
              have := hk.2 l hl
              rwa [if_neg (fun e => hpj (by rw [← e]; exact hl))] at this
            · by_cases hkj : k = j
              · subst hkj
                unfold upd; rw [if_neg hki]; exact hun k hjun W
              · unfold upd at hk ⊢
                rw [if_neg hki, if_neg hkj] at hk
                rw [if_neg hki]; exact hk
        obtain ⟨hJ', okJ', hKJ'⟩ := (hKI p hcp').2 j (ready_mono hj hji) oj hoj
        have okJ'' : OkayC R0 R c P ops w0 H j oj a F hJ' := (OkayC.move hap hsj hpi).1 okJ'
        have e := okJ''.unique hc hjun okJ
        subst e
        have hq := hKJ' q (by rw [upd_comm F _ _ (Ne.symm hji) hpi hpj, Array.setIfInBounds_comm _ _ (fun e => hji e.symm)]; exact hcp)
        rw [Array.setIfInBounds_comm _ _ (fun e => hji e.symm), Act.put_comm a (hI.f p) (hJ'.f q) h2, upd_comm F _ _ (Ne.symm hji) hpi hpj] at hq
        exact hq


theorem wpAnyF_lexC (hle : ∀ a b, R0.r a b → R.r a b) {H : Nat → Option Outs} (hone : ∀ i h, H i = some h → i = c) (hH : ∀ i h, H i = some h → ∀ p, StableG R0 (h.φ p)) {Cl : Array Bool → Prop} {L : Array Bool} {ks : List Nat} {Q : Act → Facts → Prop} (hs : Region.noSelect ops = true)
    (hcl : ∀ listed j, Cl listed → j ∈ Region.ready .any ops listed → Cl (listed.setIfInBounds j true)) (htail : ∀ (listed : Array Bool) (j : Nat), Cl listed → j ∈ Region.ready .any ops listed → L.getD j true = false → ∀ k, k ∈ ks → listed.getD k false = true) : ∀ (l : List (Nat × Oper)) (listed : Array Bool) (a : Act) (F : Facts), Cl listed → (∀ x ∈ l, ops[x.1]? = some x.2 ∧ x.1 ∈ ks) →
    lexMask ops L (l.map (·.1)) listed = true → (∀ k, StableG R0 (F k)) → ConsC R0 R c w0 listed F → Void c listed F → (∀ j, listed.getD j true = false → ∀ W, F j W) → wpFreeC R0 R c P ops w0 H Q l listed a F → wpAnyFC R0 R c P ops w0 H L Q l.length listed a F
  | [], listed, a, F, _, _, hB, _, _, _, _, h => ⟨by simpa [lexMask] using hB, h⟩
  | (k, o) :: l, listed, a, F, hCl, hl, hB, hst, hc, hvd, hun, h => by
    obtain ⟨h0, hks⟩ := hl (k, o) (List.mem_cons_self)
    simp only [List.map_cons, lexMask, Bool.and_eq_true] at hB
    obtain ⟨⟨hr, hf⟩, hB'⟩ := hB
    have hrk : k ∈ Region.ready .any ops listed := by simpa using hr
    have hkun := (mem_ready.1 hrk).1
    refine wpAnyF_firstC hle hone (A := fun k => k ∈ ks) hH h0 hks (Region.noSelect_spec hs) hcl htail l.length listed a F hCl (Region.free_spec h0 hf) hrk hst hc hvd hun ?_
    obtain ⟨hh, hok, hK⟩ := h
    refine ⟨hh, hok, fun p hcp => ?_⟩
    refine wpAnyF_lexC hle hone hH hs hcl htail l _ _ _ (hcl _ _ hCl hrk) (fun x hx => hl x (List.mem_cons_of_mem _ hx)) hB' (upd_stableG hst k o (hok.stable hH p)) hcp (hok.void hone hvd p) (fun j hj W => ?_) (hK p hcp)
    by_cases hjk : k = j
    · subst hjk
      have hlt : k < listed.size := by
        rcases Nat.lt_or_ge k listed.size with h' | h'
        · exact h'
        · simp [Array.getElem?_eq_none h'] at hkun
      simp [hlt] at hj
    · rw [getD_set_ne true hjk] at hj
      have := hun j hj W
      unfold upd
      rw [if_neg (fun e => hjk e.symm)]
      exact this


theorem wpOp_of_okayC (hle : ∀ a b, R0.r a b → R.r a b) {H : Nat → Option Outs} {i : Nat} {o : Oper} {a : Act} {F : Facts} {K : Act → Facts → Prop} {K' : Act → World → Prop} {Q' : Exit → Act → World → Prop} {W : World} {listed : Array Bool} (hli : listed.getD i true = false) (hi : ops[i]? = some o)
    (hone : ∀ i h, H i = some h → i = c) (hH : ∀ i h, H i = some h → ∀ p, StableG R0 (h.φ p)) (hst : ∀ k, StableG R0 (F k)) (hvd : Void c listed F) (hW : R.r w0 W) (hW0 : listed.getD c true = false → R0.r w0 W) (hF : ∀ k, F k W)
    (hK : ∀ a' F' W', K a' F' → (∀ k, StableG R0 (F' k)) → Void c (listed.setIfInBounds i true) F' → R.r w0 W' → ((listed.setIfInBounds i true).getD c true = false → R0.r w0 W') → (∀ k, F' k W') → K' a' W') (h : FOpC R0 R c P ops w0 H listed i o K a F) : wpOp P ops Q' i K' a W := by
  obtain ⟨hh, hok, hn⟩ := h
  have go : ∀ p W', (stpC R0 R c i).r W W' → hh.φ p W' → K' (a.put o.dst (hh.f p)) W' := fun p W' he0 hφ => by
    have he := stpC_le hle he0
    have h0 : (listed.setIfInBounds i true).getD c true = false → R0.r w0 W' := fun h => R0.trans (hW0 (unset h)) (stpC_0 hli he0 h)
    have hF' : ∀ k, upd F i o (hh.φ p) k W' := fun k => by
      unfold upd
      split
      · exact ⟨hφ, fun j _ => keepC hli hst hvd he0 j (hF j)⟩
      · exact keepC hli hst hvd he0 k (hF k)
    exact hK _ _ W' (hn p ⟨W', R.trans hW he, h0, hF'⟩) (upd_stableG hst i o (hok.stable hH p)) (hok.void hone hvd p) (R.trans hW he) h0 hF'
  have hWp := preC_of (c := c) hli hW hW0
  unfold wpOp
  simp only [hi]
  rcases hok with ⟨x1, rfl⟩ | ⟨x1, x2, v, rfl, x3⟩ | ⟨x1, x2, x3⟩
  · simp only [x1, Bool.false_eq_true, if_false]
    exact go () W (Rel.refl _ W) trivial
  · simp only [x1, if_true]
    obtain ⟨w', hr, he⟩ := x3 W hWp fun k _ => hF k
    refine .inl ?_
    unfold Oper.wp
    rw [hr]
    exact go () w' he trivial
  · simp only [x1, if_true]
    have h3 := x3 W hWp fun k _ => hF k
    refine .inl ?_
    unfold hardAtG at h3
    unfold Oper.wp
    generalize (execOp a.eval o).run P W = r at *
    cases r with
    | ok n w' =>
      cases n <;> simp only [hardUponG] at h3 <;> simp only [Oper.upon]
      case value u =>
        obtain ⟨p, rfl, hp, he⟩ := h3
        exact go p w' he hp
      case skip =>
        obtain ⟨p, hu, hp, he⟩ := h3
        rw [hu]
        exact go p w' he hp
      case enter f args =>
        obtain ⟨he, hcl⟩ := h3
        refine hcl.mono fun e w'' ⟨p, he1, hp, he2⟩ => ?_
        subst he1
        exact go p w'' (Rel.trans _ he he2) hp
    | halt x w' => simp only [hardUponG] at h3

theorem wpAny_of_freeC (hle : ∀ a b, R0.r a b → R.r a b) {H : Nat → Option Outs} (hone : ∀ i h, H i = some h → i = c) (hH : ∀ i h, H i = some h → ∀ p, StableG R0 (h.φ p)) {L : Array Bool} {t : Nat} {Q : Act → Facts → Prop} {Q' : Exit → Act → World → Prop}
    (hQ : ∀ a F W, Q a F → R.r w0 W → (∀ k, F k W) → wpAny P .any ops Q' t L a W) :
    ∀ (fuel : Nat) (listed : Array Bool) (a : Act) (F : Facts) (W : World), (∀ k, StableG R0 (F k)) → Void c listed F → R.r w0 W → (listed.getD c true = false → R0.r w0 W) → (∀ k, F k W) → wpAnyFC R0 R c P ops w0 H L Q fuel listed a F → wpAny P .any ops Q' (fuel + t) listed a W
  | 0, listed, a, F, W, _, _, hW, _, hF, h => by
    rw [h.1, Nat.zero_add]
    exact hQ a F W h.2 hW hF
  | fuel + 1, listed, a, F, W, hst, hvd, hW, hW0, hF, h => by
    rw [show fuel + 1 + t = fuel + t + 1 by omega]
    refine ⟨fun h0 => absurd h0 h.1, fun i hi => ?_⟩
    obtain ⟨hli, o, ho, _⟩ := mem_ready.1 hi
    exact wpOp_of_okayC hle hli ho hone hH hst hvd hW hW0 hF (fun a' F' W' hk hst' hvd' hW' hW0' hF' => wpAny_of_freeC hle hone hH hQ fuel _ a' F' W' hst' hvd' hW' hW0' hF' hk) (h.2 i hi o ho)


theorem any_freeC {l : List Oper} {Q : Exit → Act → World → Prop} {fuel : Nat} {listed : Array Bool} {a : Act} {w W : World} (R0 R : Rel) (c : Nat) (hle : ∀ a b, R0.r a b → R.r a b) (H : Nat → Option Outs) (M : List Bool) (t : Nat)
    (hs : Region.noSelect l.toArray = true) (ht : tailT l.toArray (listedTo l.length (l.length - t)) ((maskOps 0 l M).map (·.1)) = true) (hc0 : closedB l.toArray listed = true) (hB : lexMask l.toArray (listedTo l.length (l.length - t)) ((maskOps 0 l M).map (·.1)) listed = true)
    (hseq : seqB l.toArray t (l.length - t) (listedTo l.length (l.length - t)) = true) (hfu : fuel = (maskOps 0 l M).length + t) (htl : (l.drop (l.length - t)).length = t)
    (hH : ∀ i h, H i = some h → ∀ p, StableG R0 (h.φ p)) (hone : ∀ i h, H i = some h → i = c) (hW : R0.r w W)
    (h : ∀ K : Act → Facts → Prop, (∀ a' F', (∀ W, R.r w W → (∀ k, F' k W) → wpList P l.toArray Q (l.drop (l.length - t)) a' W) → K a' F') → wpFreeC R0 R c P l.toArray w H K (maskOps 0 l M) listed a (fun _ _ => True)) : wpAny P .any l.toArray Q fuel listed a W := by
  have h := h _ (fun a' F' hh => hh)
  subst hfu
  have key := wpAnyF_lexC hle hone (w0 := w) hH hs (fun _ _ h => h.step) (tailT_spec ht) (maskOps 0 l M) listed a (fun _ _ => True) (closedB_spec hc0) (fun x hx => by
    obtain ⟨j, h1, h2⟩ := maskOps_spec l M 0 x hx
    refine ⟨?_, List.mem_map.2 ⟨x, hx, rfl⟩⟩
    rw [h1, Nat.zero_add]
    simpa using h2) hB (fun _ _ _ _ _ => trivial) ⟨W, hle _ _ hW, fun _ => hW, fun _ => trivial⟩ (fun _ _ _ => trivial) (fun _ _ _ => trivial) h
  refine wpAny_of_freeC hle hone (w0 := w) hH (t := t) (Q' := Q) (fun a F W hq hW hF => ?_) _ _ _ _ W (fun _ _ _ _ _ => trivial) (fun _ _ _ => trivial) (hle _ _ hW) (fun _ => hW) (fun _ => trivial) key
  have := wpAny_seq (l.drop (l.length - t)) (l.length - t) _ a W (fun j _ => by rw [List.getElem?_drop]; simp) (by rw [htl]; exact hseq) (hq W hW hF)
  rwa [htl] at this

/-! ### the steps of the walk -/
section
variable {H : Nat → Option Outs} {Q : Act → Facts → Prop} {k : Nat} {o : Oper} {rest : List (Nat × Oper)} {a : Act} {F : Facts} {listed : Array Bool}
theorem free_nilC (h : Q a F) : wpFreeC R0 R c P ops w0 H Q [] listed a F := h
theorem free_plainC (v : Value) (hw : Region.wanted o (yielded ops a.tmps) = true) (hH : H k = none) (hv : ∀ W, (preC R0 R c k).r w0 W → (∀ j ∈ predsOf o, F j W) → plainAtG (stpC R0 R c k) P o a W v)
    (h : wpFreeC R0 R c P ops w0 H Q rest (listed.setIfInBounds k true) (a.put o.dst v) (upd F k o fun _ => True)) : wpFreeC R0 R c P ops w0 H Q ((k, o) :: rest) listed a F :=
  ⟨one v, .inr (.inl ⟨hw, hH, v, rfl, hv⟩), fun _ _ => h⟩
theorem free_readC (hle : ∀ a b, R0.r a b → R.r a b) (v : Value) (hw : Region.wanted o (yielded ops a.tmps) = true) (hH : H k = none) (hv : ∀ W, R.r w0 W → (∀ j ∈ predsOf o, F j W) → (execOp a.eval o).run P W = .ok (.value v) W)
    (h : wpFreeC R0 R c P ops w0 H Q rest (listed.setIfInBounds k true) (a.put o.dst v) (upd F k o fun _ => True)) : wpFreeC R0 R c P ops w0 H Q ((k, o) :: rest) listed a F :=
  free_plainC v hw hH (fun W hW hF => ⟨W, hv W (by unfold preC at hW; split at hW; exact hle _ _ hW; exact hW) hF, Rel.refl _ W⟩) h
theorem free_skipC (hw : Region.wanted o (yielded ops a.tmps) = false) (h : wpFreeC R0 R c P ops w0 H Q rest (listed.setIfInBounds k true) (a.put o.dst undef) (upd F k o fun _ => True)) : wpFreeC R0 R c P ops w0 H Q ((k, o) :: rest) listed a F :=
  ⟨one undef, .inl ⟨hw, rfl⟩, fun _ _ => h⟩
theorem free_hardC (hh : Outs) (hw : Region.wanted o (yielded ops a.tmps) = true) (hH : H c = some hh) (hv : ∀ W, R0.r w0 W → (∀ j ∈ predsOf o, F j W) → hardAtG R P o a W hh)
    (h : ∀ p, wpFreeC R0 R c P ops w0 H Q rest (listed.setIfInBounds c true) (a.put o.dst (hh.f p)) (upd F c o (hh.φ p))) : wpFreeC R0 R c P ops w0 H Q ((c, o) :: rest) listed a F :=
  ⟨hh, .inr (.inr ⟨hw, hH, fun W hW hF => by unfold preC at hW; unfold stpC; rw [if_pos rfl] at hW ⊢; exact hv W hW hF⟩), fun p _ => h p⟩
end
end
end
end Go.Proofs.Ytlgbjpihmkeopaa
