/- Texts FreeIt, PushI, Refs, Nodes, FreeL, FreeP, Mix, joined. -/
import Derived.RangeFuncKeeps
import Derived.RangeFuncBound
import Derived.RangeFuncLeaves
import Derived.Shelf.Abstract
import Derived.OwnWalkIn
import Derived.TacticsInMore
import Derived.Sort.CutIn
import Derived.RangeFuncNested
import Derived.Test.YtlgbjpihmkeopaaU01
import Derived.Test.YtlgbjpihmkeopaaU03
import Derived.Test.YtlgbjpihmkeopaaU07
import Derived.Test.YtlgbjpihmkeopaaU14
/- The blocks that may be taken, rising: what the iterator hands out. -/
namespace Go.Proofs.Ytlgbjpihmkeopaa
set_option linter.unusedSimpArgs false
set_option linter.unusedVariables false
open Go.RowKit Go.Shelf

attribute [local go_sem] Oper.semAt_some

def lastN (S : Sto) (a : Nat) : Nat := (S.last[a]?.getD 0).toNat
def freeB (S : Sto) (a : Nat) : Bool := decide (8 ≤ a) && (decide (nowN S a = 0) && decide (lastN S a = 0))
def freeTo (S : Sto) (k : Nat) : List Nat := (List.range k).filter (freeB S)
def freeS (S : Sto) : List Nat := freeTo S 256
theorem freeTo_succ (S : Sto) (k : Nat) : freeTo S (k + 1) = if freeB S k = true then freeTo S k ++ [k] else freeTo S k := by
  unfold freeTo
  rw [List.range_succ, List.filter_append]
  by_cases h : freeB S k = true
  · rw [if_pos h]; simp [h]
  · rw [if_neg h]; simp [h]
theorem freeTo_len (S : Sto) (k : Nat) : (freeTo S k).length ≤ k := Nat.le_trans (List.length_filter_le _ _) (by simp)
theorem freeTo_8 (S : Sto) : freeTo S 8 = [] := by
  unfold freeTo
  rw [List.filter_eq_nil_iff]
  intro a ha
  have : a < 8 := by simpa using ha
  unfold freeB
  simp [show ¬ 8 ≤ a by omega]
theorem freeTo_pre (S : Sto) {k m : Nat} (h : k ≤ m) : freeTo S k <+: freeTo S m := by
  induction m with
  | zero =>
    obtain rfl : k = 0 := by omega
    exact List.prefix_refl _
  | succ m ih =>
    rcases Nat.lt_or_ge m k with h1 | h1
    · obtain rfl : k = m + 1 := by omega
      exact List.prefix_refl _
    · refine (ih h1).trans ?_
      rw [freeTo_succ]
      split
      · exact List.prefix_append _ _
      · exact List.prefix_refl _
theorem nowN_lt (S : Sto) (a : Nat) : nowN S a < 256 := UInt8.toNat_lt _
theorem lastN_lt (S : Sto) (a : Nat) : lastN S a < 256 := UInt8.toNat_lt _
theorem or_zero (a b : Nat) (ha : a < 256) (hb : b < 256) : (bits .or .u8 (a : Int) (b : Int) == 0) = (decide (a = 0) && decide (b = 0)) := by
  have e : bits .or .u8 (a : Int) (b : Int) = ((a ||| b : Nat) : Int) := by
    have e : ∀ n : Nat, n < 256 → (BitVec.ofInt 8 (n : Int)).toNat = n := fun n hn => by simp [BitVec.ofInt_natCast]; omega
    have hx : a ||| b < 2 ^ 8 := Nat.or_lt_two_pow (by omega) (by omega)
    show IntKind.u8.wrap (((BitVec.ofInt 8 (a : Int) ||| BitVec.ofInt 8 (b : Int)).toNat : Nat) : Int) = _
    rw [BitVec.toNat_or, e a ha, e b hb]
    simp [IntKind.wrap, IntKind.bits, IntKind.signed]
    omega
  rw [e]
  by_cases h : a = 0 ∧ b = 0
  · obtain ⟨rfl, rfl⟩ := h; rfl
  · have h2 : a ||| b ≠ 0 := by
      intro h3
      have h4 : a ≤ a ||| b := Nat.left_le_or
      have h5 : b ≤ a ||| b := Nat.right_le_or
      exact h ⟨by omega, by omega⟩
    have h6 : (decide (a = 0) && decide (b = 0)) = false := by
      rcases Nat.eq_zero_or_pos a with h7 | h7
      · have : b ≠ 0 := fun h8 => h ⟨h7, h8⟩
        simp [this]
      · simp [show a ≠ 0 by omega]
    rw [h6]
    simpa using fun h9 : ((a ||| b : Nat) : Int) = 0 => h2 (by omega)
theorem last_at {S : Sto} (hS : storeMay S = true) {w : World} {B : Nat} {v : Value} (h : Bys w B v S.last) : ∃ b o c, v = .slice (some ⟨b, o, none⟩) 256 c ∧ b < B ∧ ∀ a, a < 256 → w.cell? ⟨b, o + a, none⟩ = some (.int .u8 (lastN S a : Int)) := by
  obtain ⟨-, -, -, hl⟩ := storeMay_len hS
  obtain ⟨A, c, e, hc, hm, hr⟩ := h
  obtain ⟨b, o, rfl, hb, hcell⟩ := hr.2 (by omega)
  rw [hl] at e
  exact ⟨b, o, c, e, hb, fun a ha => hcell a _ (by rw [List.getElem?_map, List.getElem?_eq_getElem (by omega)]; unfold lastN; rw [List.getElem?_eq_getElem (by omega)]; rfl)⟩

set_option maxRecDepth 100000 in
set_option maxHeartbeats 4000000 in
theorem free_in (n : Nat) (hn : 1 ≤ n) (l bs n₀ : Nat) (v1 v2 v3 v4 : Value) (S : Sto) (hS : storeMay S = true) (J Jx : List Nat → World → Prop)
    (hY : ∀ pre x W, J pre W → pre.length < 256 → YieldAt Fence.wide (n - 1) Try.prog l #[.int .i64 ((x : Nat) : Int)] W fun e W' => (e = .returned (.bool true) ∧ J (pre ++ [x]) W' ∧ Below n₀ W W') ∨ (e = .returned (.bool false) ∧ Jx (pre ++ [x]) W'))
    (hJ : ∀ pre W W', J pre W → Ext W W' → J pre W')
    (W : World) (hbs : bs < n₀) (hn₀ : n₀ ≤ W.heap.size) (hrow : W.heap[bs]? = some (.cells #[v1, v2, v3, v4] 28 (0, 0))) (hst : StoAt W n₀ v1 v2 v3 v4 S) (h0 : J [] W) :
    CallsIn Fence.wide n Try.prog 59 #[.func (.yield l) #[] #[], .pointer (some ⟨bs, 0, none⟩)] W fun e W' => (∃ v, e = .returned v) ∧ ((∃ ys, ys = freeS S ∧ J ys W') ∨ (∃ pre, pre <+: freeS S ∧ Jx pre W')) := by
  obtain ⟨b3, o3, c3, rfl, hb3, hc3⟩ := now_at hS hst.now
  obtain ⟨b4, o4, c4, rfl, hb4, hc4⟩ := last_at hS hst.last
  replace hst := Lib.hid hst
  refine callsIn_of_wp Try.func59 rfl trivial ?_ rfl
  simp only [Try.ntmps59, List.size_toArray, List.length_cons, List.length_nil, Nat.reduceAdd, Nat.reduceSub, Array.replicate_succ, Array.replicate_zero, List.push_toArray, List.append_toArray, List.nil_append, List.cons_append]
  gi_wp2_with fail
  gi_loopw [3] (fun i wr => ∃ k : Nat, 8 ≤ k ∧ k ≤ 256 ∧ i = .int .i64 (k : Int) ∧ J (freeTo S k) wr ∧ Below n₀ W wr) (fun i _ => 256 - (intOf i).toNat)
  case atStart => exact ⟨8, by omega, by omega, rfl, by rw [freeTo_8]; exact h0, Below.refl _ _⟩
  case round =>
    obtain ⟨k, hk8, hk, rfl, hJs, hB⟩ := hrel
    have hro := (hB.block bs hbs).trans hrow
    by_cases hlt : k < 256
    · have hcx := (World.cell?_of_block (a := ⟨b3, o3 + k, none⟩) (hB.block b3 hb3)).trans (hc3 k hlt)
      have hcy := (World.cell?_of_block (a := ⟨b4, o4 + k, none⟩) (hB.block b4 hb4)).trans (hc4 k hlt)
      have gS : ∀ W', extRel.r wr W' → ∀ i, W'.cell? ⟨bs, i, none⟩ = #[v1, v2, .slice (some ⟨b3, o3, none⟩) 256 c3, .slice (some ⟨b4, o4, none⟩) 256 c4][i]? := fun W' h => cells_row (row_ext hro h)
      have gX : ∀ W', extRel.r wr W' → W'.cell? ⟨b3, o3 + k, none⟩ = some (.int .u8 (nowN S k : Int)) := fun W' h => Ext.cell h hcx
      have gY : ∀ W', extRel.r wr W' → W'.cell? ⟨b4, o4 + k, none⟩ = some (.int .u8 (lastN S k : Int)) := fun W' h => Ext.cell h hcy
      have hsu := Lib.hid (freeTo_succ S k)
      have hfb : freeB S k = (decide (nowN S k = 0) && decide (lastN S k = 0)) := by unfold freeB; simp [hk8]
      have hbz : (bits .or .u8 ((nowN S k : Nat) : Int) ((lastN S k : Nat) : Int) == 0) = freeB S k := or_zero _ _ (nowN_lt S k) (lastN_lt S k) ▸ hfb.symm
      generalize nowN S k = nw at *
      generalize lastN S k = lw at *
      replace hfb := Lib.hid hfb
      replace hc3 := Lib.hid hc3
      replace hc4 := Lib.hid hc4
      replace hro := Lib.hid hro
      have hln := Lib.hid (freeTo_len S k)
      clear hcx hcy
      rcases Bool.eq_false_or_eq_true (freeB S k) with hfr | hfr
      · rw [hfr] at hbz
        replace hsu := Lib.hid ((if_pos hfr) ▸ hsu.out)
        replace hfr := Lib.hid hfr
        gi_upto_region 3 with fail
        refine wpIn_region_freeT extRel (outsAt []) (List.replicate 15 true) 3 wideF (by kernel_rfl) (by kernel_rfl) (by kernel_rfl) (by kernel_rfl) (by kernel_rfl) (by kernel_rfl) (by kernel_rfl) (by kernel_rfl) (by kernel_rfl) ?st (Rel.drew _ _) ?walk
        case st => intro i h hx; simp [outsAt] at hx
        case walk =>
          intro K hK
          dsimp only [maskOps, List.replicate]
          repeat ((first | (refine free_plainM ?_ (by rfl) (by rfl) (fun W hW _ => ⟨W, ?_, Rel.refl _ W⟩) ?_; rotate_left; (first | (go_simp; with_reducible rfl) | (go_simp; done))) | (refine free_skipM (by rfl) ?_)); try simp only [Act.put, one_f, outB_f, outNew_f, outI_f, List.setIfInBounds_toArray, List.set_cons_zero, List.set_cons_succ])
          first
            | (refine free_plainM (.pointer (some ⟨b3, o3 + k, none⟩)) (by rfl) (by rfl) (fun W hW _ => ⟨W, ?_, Rel.refl _ W⟩) ?_
               · go_simp
                 rw [IntWalk.i64_in (k : Int) (by omega), if_pos (by omega)]
                 simp
               simp only [Act.put, one_f, outB_f, outNew_f, outI_f, List.setIfInBounds_toArray, List.set_cons_zero, List.set_cons_succ])
            | skip
          repeat ((first | (refine free_plainM ?_ (by rfl) (by rfl) (fun W hW _ => ⟨W, ?_, Rel.refl _ W⟩) ?_; rotate_left; (first | (go_simp; with_reducible rfl) | (go_simp; done))) | (refine free_skipM (by rfl) ?_)); try simp only [Act.put, one_f, outB_f, outNew_f, outI_f, List.setIfInBounds_toArray, List.set_cons_zero, List.set_cons_succ])
          first
            | (refine free_plainM (.pointer (some ⟨b4, o4 + k, none⟩)) (by rfl) (by rfl) (fun W hW _ => ⟨W, ?_, Rel.refl _ W⟩) ?_
               · go_simp
                 rw [IntWalk.i64_in (k : Int) (by omega), if_pos (by omega)]
                 simp
               simp only [Act.put, one_f, outB_f, outNew_f, outI_f, List.setIfInBounds_toArray, List.set_cons_zero, List.set_cons_succ])
            | skip
          repeat ((first | (refine free_plainM ?_ (by rfl) (by rfl) (fun W hW _ => ⟨W, ?_, Rel.refl _ W⟩) ?_; rotate_left; (first | (go_simp; with_reducible rfl) | (go_simp; done))) | (refine free_skipM (by rfl) ?_)); try simp only [Act.put, one_f, outB_f, outNew_f, outI_f, List.setIfInBounds_toArray, List.set_cons_zero, List.set_cons_succ])
          refine free_nilM (hK _ _ fun W2 hW hF => ?_)
          clear hF hK
          dsimp only [List.drop, List.length_cons, List.length_nil]
          obtain ⟨fn, tm, asg, bdy, hy, hR⟩ := hY (freeTo S k) k W2 (hJ _ _ _ hJs hW) (by have := hln.out; omega)
          gi_wp2_with fail
          refine hR.mono ?_
          rintro e W3 (⟨rfl, hJ3, hk3⟩ | ⟨rfl, hJx3⟩)
          · gi_wp2_with fail
            go_roundw
            case rel => exact ⟨k + 1, by omega, by omega, by go_num, by rw [hsu.out]; exact hJ3, hB.trans ((Below.mono hW (Nat.le_trans hn₀ hB.size)).trans hk3)⟩
            case measure => simp [intOf]; omega
          · gi_wp2_with fail
            refine bodyPost_ret (results_none rfl _ _ _) rfl ?_
            exact ⟨⟨_, rfl⟩, .inr ⟨_, hsu.out ▸ freeTo_pre S (by omega), hJx3⟩⟩
      · rw [hfr] at hbz
        replace hsu := Lib.hid ((if_neg (show ¬ freeB S k = true by rw [hfr]; decide)) ▸ hsu.out)
        replace hfr := Lib.hid hfr
        gi_upto_region 3 with fail
        refine wpIn_region_freeT extRel (outsAt []) (List.replicate 15 true) 3 wideF (by kernel_rfl) (by kernel_rfl) (by kernel_rfl) (by kernel_rfl) (by kernel_rfl) (by kernel_rfl) (by kernel_rfl) (by kernel_rfl) (by kernel_rfl) ?st (Rel.drew _ _) ?walk
        case st => intro i h hx; simp [outsAt] at hx
        case walk =>
          intro K hK
          dsimp only [maskOps, List.replicate]
          repeat ((first | (refine free_plainM ?_ (by rfl) (by rfl) (fun W hW _ => ⟨W, ?_, Rel.refl _ W⟩) ?_; rotate_left; (first | (go_simp; with_reducible rfl) | (go_simp; done))) | (refine free_skipM (by rfl) ?_)); try simp only [Act.put, one_f, outB_f, outNew_f, outI_f, List.setIfInBounds_toArray, List.set_cons_zero, List.set_cons_succ])
          first
            | (refine free_plainM (.pointer (some ⟨b3, o3 + k, none⟩)) (by rfl) (by rfl) (fun W hW _ => ⟨W, ?_, Rel.refl _ W⟩) ?_
               · go_simp
                 rw [IntWalk.i64_in (k : Int) (by omega), if_pos (by omega)]
                 simp
               simp only [Act.put, one_f, outB_f, outNew_f, outI_f, List.setIfInBounds_toArray, List.set_cons_zero, List.set_cons_succ])
            | skip
          repeat ((first | (refine free_plainM ?_ (by rfl) (by rfl) (fun W hW _ => ⟨W, ?_, Rel.refl _ W⟩) ?_; rotate_left; (first | (go_simp; with_reducible rfl) | (go_simp; done))) | (refine free_skipM (by rfl) ?_)); try simp only [Act.put, one_f, outB_f, outNew_f, outI_f, List.setIfInBounds_toArray, List.set_cons_zero, List.set_cons_succ])
          first
            | (refine free_plainM (.pointer (some ⟨b4, o4 + k, none⟩)) (by rfl) (by rfl) (fun W hW _ => ⟨W, ?_, Rel.refl _ W⟩) ?_
               · go_simp
                 rw [IntWalk.i64_in (k : Int) (by omega), if_pos (by omega)]
                 simp
               simp only [Act.put, one_f, outB_f, outNew_f, outI_f, List.setIfInBounds_toArray, List.set_cons_zero, List.set_cons_succ])
            | skip
          repeat ((first | (refine free_plainM ?_ (by rfl) (by rfl) (fun W hW _ => ⟨W, ?_, Rel.refl _ W⟩) ?_; rotate_left; (first | (go_simp; with_reducible rfl) | (go_simp; done))) | (refine free_skipM (by rfl) ?_)); try simp only [Act.put, one_f, outB_f, outNew_f, outI_f, List.setIfInBounds_toArray, List.set_cons_zero, List.set_cons_succ])
          refine free_nilM (hK _ _ fun W2 hW hF => ?_)
          clear hF hK
          dsimp only [List.drop, List.length_cons, List.length_nil]
          refine ⟨fun _ h => (by cases h), ?_⟩
          gi_wp2_with fail
          go_roundw
          case rel => exact ⟨k + 1, by omega, by omega, by go_num, by rw [hsu.out]; exact hJ _ _ _ hJs hW, hB.trans (Below.mono hW (Nat.le_trans hn₀ hB.size))⟩
          case measure => simp [intOf]; omega
    · gi_wp2_with fail
      obtain rfl : k = 256 := by omega
      go_end0
      exact ⟨⟨_, rfl⟩, .inl ⟨_, rfl, hJs⟩⟩
end Go.Proofs.Ytlgbjpihmkeopaa
/- An append of one element inside a fence. -/
namespace Go.Proofs.Ytlgbjpihmkeopaa
set_option linter.unusedSimpArgs false
set_option linter.unusedVariables false
open Go.RowKit
theorem wpListIn_stop {F : Fence} {n : Nat} {P : Program} {ops : Array Oper} {l : List Oper} {a : Act} {w : World} {Q : Exit → Act → World → Prop} (h : Stopped (wpListIn F n P ops Q l a w)) : wpListIn F n P ops Q l a w := h
theorem wpListIn_push {F : Fence} {nf : Nat} {P : Program} (w : World) {ops : Array Oper} {rest : List Oper} {o : Oper} {a : Act} {Q : Exit → Act → World → Prop} (hgd : o.guard = none) (s x : Operand) (t : TypeId)
    (ho : o.op = .call { callee := .builtin .append, args := #[s, x], argTypes := #[t, t] })
    (base : Nat) (e : TypeId) (i : TypeInfo) (z : Value) (size bytes : Nat) (ht : P.underlying t = some (.slice e)) (hi : P.info? e = some i) (hz : i.zero = some z)
    (hsize : i.size = size) (hby : i.bytes = bytes) (hzs : z.cells.size = size) (hsz : 0 < size)
    (v : Value) (n : Nat) (xs : List Value) (hs : a.eval s = v) (hown : w.ownsRow base e size v n xs) (cs : Array Value)
    (hx : a.eval x = .slice (some ⟨w.heap.size, 0, none⟩) 1 1) (hl : cs.size = size) (h1 : ∀ u ∈ cs.toList, u.oneCell' = true)
    (hn : n < 1073741824) (hbytes : bytes ≤ 65536) (hbase : base ≤ w.heap.size)
    (h : ∀ v' w', w'.ownsRow base e size v' (n + 1) (xs ++ cs.toList) → w.grownBy w' v.ownBlock → (v'.ownBlock = v.ownBlock ∨ ∃ g, v'.ownBlock = some g ∧ w.heap.size ≤ g) → wpListIn F nf P ops Q rest (a.put o.dst v') w') :
    wpListIn F nf P ops Q (o :: rest) a (w.alloc (.cells cs e)) := by
  refine wpListIn_plain hgd fun K hK => ?_
  have hb : (n + 1) * bytes ≤ 140737488355328 := Nat.le_trans (Nat.mul_le_mul_left _ hbytes) (by omega)
  have hm : n + 1 ≤ maxLen := by unfold maxLen; omega
  obtain ⟨v', w', hrun, h2, h3, _, h5⟩ := run_append_own_at (P := P) (w.alloc (.cells cs e)) base t o.type e i z size bytes ht hi hz hsize hby hzs hsz v n xs (hown.alloc _) ⟨w.heap.size, 0, none⟩ 1 1 cs.toList
    (by rw [Array.length_toList]; omega) (adds_new w cs e) h1 hm hb (by simp; omega)
  have hg : w.grownBy w' v.ownBlock := ⟨h3.os, h3.tape, h3.output, Nat.le_trans (by simp) h3.size, fun k hk hne => (h3.block k (by simp; omega) hne).trans (Below.heap_alloc w _ k hk)⟩
  unfold Oper.wpIn
  refine ⟨?_, ?_⟩
  · simp [Oper.about, ho, resolve, Target.leads, Sem.run_pure]
  · rw [Oper.semAt_plain F _ _ (by rw [ho]; intro c hc'; cases hc')]
    simp only [execOp, ho, resolve, invoke, builtin, Sem.run_bind, Sem.run_pure, Result.andThen_ok, List.map_toArray, List.map_cons, List.map_nil, hs, hx, hrun]
    exact hK _ _ (h v' w' h2 hg (h5.imp id fun e => ⟨_, e, by simp⟩))
end Go.Proofs.Ytlgbjpihmkeopaa
/- Contracts: how often a pool refers to each block. -/
namespace Go.Proofs.Ytlgbjpihmkeopaa
set_option linter.unusedSimpArgs false
set_option linter.unusedVariables false
open Go.RowKit

def RefsQ (S : Sto) (root next : Int) (dead : List Int) (w : World) (e : Ending) (w' : World) : Prop := Below w.heap.size w w' ∧
  ((e = .returned (.tuple #[.slice none 0 0, .int .i64 8]) ∧ ∀ vs, PoolB S root next dead vs → ∃ refs nodes, Counted S (rootsN root dead vs) refs nodes ∧ ¬ Enough S refs) ∨
    ∃ vs refs nodes cb ca vv lo, e = .returned (.tuple #[.slice (some ⟨cb, 6, none⟩) 256 256, .int .i64 0]) ∧ w.heap.size ≤ lo ∧ Taken S root next dead vs refs nodes lo cb ca vv w')

theorem refs_ret {R : Ending → World → Prop} {a : Act} {W : World} {u v : Value} (h2 : a.tmps[2]?.getD undef = u) (h3 : a.tmps[3]?.getD undef = v) (hd : a.defers = []) (hR : R (.returned (.tuple #[u, v])) W) : bodyPost Try.prog Try.f21 R .ret a W := by
  refine bodyPost_ret (v := .tuple #[u, v]) ?_ hd hR
  simp [results, Try.results21, go_sem, h2, h3]

set_option maxHeartbeats 2000000 in
set_option maxRecDepth 100000 in
theorem refs_any (A1 : Option Addr) (n1 c1 : Nat) (A2 : Option Addr) (n2 c2 : Nat) (A3 : Option Addr) (n3 c3 : Nat) (A4 : Option Addr) (n4 c4 : Nat) (gen root next : Int) (A5 : Option Addr) (c5 : Nat) (S : Sto) (dead : List Int) (w : World)
    (h : StoAt w w.heap.size (.slice A1 n1 c1) (.slice A2 n2 c2) (.slice A3 n3 c3) (.slice A4 n4 c4) S) (hd : Ints w w.heap.size (.slice A5 dead.length c5) dead) :
    Calls Try.prog 21 #[.agg (poolCs (.slice A1 n1 c1) (.slice A2 n2 c2) (.slice A3 n3 c3) (.slice A4 n4 c4) gen root next (.slice A5 dead.length c5))] w (RefsQ S root next dead w) := by
  have HT := Lib.hid (fun W (hx : Ext w W) => take_any A1 n1 c1 A2 n2 c2 A3 n3 c3 A4 n4 c4 gen root next A5 c5 S dead W (h.ext hx) (by
    obtain ⟨A, c, e, q1, q2, q3⟩ := hd
    exact ⟨A, c, e, q1, q2, (q3.below hx).more hx.size⟩))
  clear h hd
  go_enter Try.func21, Try.ntmps21
  go_wp2_with fail
  generalize hw1 : World.alloc w _ = w1
  have x1 : Ext w w1 := by rw [← hw1]; exact Ext.alloc _ _
  clear hw1
  refine (HT.out w1 x1).mono ?_
  rintro e w2 ⟨hB, hQ⟩
  have x2 : Below w.heap.size w w2 := Ext.trans x1 hB
  rcases hQ with ⟨rfl, hno⟩ | ⟨vs, refs, nodes, cb, ca, vv, rfl, hT⟩
  · have HB : RefsQ S root next dead w (.returned (.tuple #[.slice none 0 0, .int .i64 8])) w2 := ⟨x2, .inl ⟨rfl, hno⟩⟩
    replace HB := Lib.hid HB
    clear hno hB
    go_wp2_with fail
    exact refs_ret rfl rfl rfl HB.out
  · have HB : RefsQ S root next dead w (.returned (.tuple #[.slice (some ⟨cb, 6, none⟩) 256 256, .int .i64 0])) w2 := ⟨x2, .inr ⟨vs, refs, nodes, cb, ca, vv, _, rfl, x1.size, hT⟩⟩
    replace HB := Lib.hid HB
    clear hT hB
    go_wp2_with fail
    exact refs_ret rfl rfl rfl HB.out
end Go.Proofs.Ytlgbjpihmkeopaa
/- Contracts: the blocks of a pool's nodes. -/
namespace Go.Proofs.Ytlgbjpihmkeopaa
set_option linter.unusedSimpArgs false
set_option linter.unusedVariables false
open Go.RowKit

def metTo (nodes : Nat → Nat) (k : Nat) : List Nat := (List.range k).filter fun a => decide (0 < nodes a)
theorem metTo_succ (nodes : Nat → Nat) (k : Nat) : metTo nodes (k + 1) = if 0 < nodes k then metTo nodes k ++ [k] else metTo nodes k := by
  unfold metTo
  rw [List.range_succ, List.filter_append]
  by_cases h : 0 < nodes k
  · rw [if_pos h]; simp [h]
  · rw [if_neg h]; simp [h]
theorem metTo_len (nodes : Nat → Nat) (k : Nat) : (metTo nodes k).length ≤ k := by
  unfold metTo
  exact Nat.le_trans (List.length_filter_le _ _) (by simp)
def NodesQ (S : Sto) (root next : Int) (dead : List Int) (w : World) (e : Ending) (w' : World) : Prop := Below w.heap.size w w' ∧
  ((e = .returned (.tuple #[.slice none 0 0, .int .i64 8]) ∧ ∀ vs, PoolB S root next dead vs → ∃ refs nodes, Counted S (rootsN root dead vs) refs nodes ∧ ¬ Enough S refs) ∨
    ∃ vs refs nodes v lo, e = .returned (.tuple #[v, .int .i64 0]) ∧ w.heap.size ≤ lo ∧ PoolB S root next dead vs ∧ Counted S (rootsN root dead vs) refs nodes ∧ Enough S refs ∧ w'.ownsRow lo 3 1 v (metTo nodes 256).length (intsV (metTo nodes 256)))
structure N1 (nodes : Nat → Nat) (w2 : World) (v i : Value) (wr : World) : Prop where
  ex : ∃ k : Nat, k ≤ 256 ∧ i = .int .i64 (k : Int) ∧ wr.ownsRow w2.heap.size 3 1 v (metTo nodes k).length (intsV (metTo nodes k)) ∧ Ext w2 wr

theorem nodes_ret {R : Ending → World → Prop} {a : Act} {W : World} {u v : Value} (h2 : a.tmps[2]?.getD undef = u) (h3 : a.tmps[3]?.getD undef = v) (hd : a.defers = []) (hR : R (.returned (.tuple #[u, v])) W) : bodyPost Try.prog Try.f23 R .ret a W := by
  refine bodyPost_ret (v := .tuple #[u, v]) ?_ hd hR
  simp [results, Try.results23, go_sem, h2, h3]

set_option maxHeartbeats 2000000 in
set_option maxRecDepth 100000 in
theorem nodes_any (A1 : Option Addr) (n1 c1 : Nat) (A2 : Option Addr) (n2 c2 : Nat) (A3 : Option Addr) (n3 c3 : Nat) (A4 : Option Addr) (n4 c4 : Nat) (gen root next : Int) (A5 : Option Addr) (c5 : Nat) (S : Sto) (dead : List Int) (w : World)
    (h : StoAt w w.heap.size (.slice A1 n1 c1) (.slice A2 n2 c2) (.slice A3 n3 c3) (.slice A4 n4 c4) S) (hd : Ints w w.heap.size (.slice A5 dead.length c5) dead) :
    Calls Try.prog 23 #[.agg (poolCs (.slice A1 n1 c1) (.slice A2 n2 c2) (.slice A3 n3 c3) (.slice A4 n4 c4) gen root next (.slice A5 dead.length c5))] w (NodesQ S root next dead w) := by
  have HT := Lib.hid (fun W (hx : Ext w W) => take_any A1 n1 c1 A2 n2 c2 A3 n3 c3 A4 n4 c4 gen root next A5 c5 S dead W (h.ext hx) (by
    obtain ⟨A, c, e, q1, q2, q3⟩ := hd
    exact ⟨A, c, e, q1, q2, (q3.below hx).more hx.size⟩))
  clear h hd
  go_enter Try.func23, Try.ntmps23
  go_wp2_with fail
  generalize hw1 : World.alloc w _ = w1
  have x1 : Ext w w1 := by rw [← hw1]; exact Ext.alloc _ _
  clear hw1
  refine (HT.out w1 x1).mono ?_
  rintro e w2 ⟨hB, hQ⟩
  have x2 : Below w.heap.size w w2 := Ext.trans x1 hB
  rcases hQ with ⟨rfl, hno⟩ | ⟨vs, refs, nodes, cb, ca, vv, rfl, hT⟩
  · have HB : NodesQ S root next dead w (.returned (.tuple #[.slice none 0 0, .int .i64 8])) w2 := ⟨x2, .inl ⟨rfl, hno⟩⟩
    replace HB := Lib.hid HB
    clear hno hB
    go_wp2_with fail
    exact nodes_ret rfl rfl rfl HB.out
  · have hcc : ∀ j v, (arrI nodes)[j]? = some v → w2.cell? ⟨cb, 262 + j, none⟩ = some v := fun j v hj => by
      obtain ⟨h1, rfl⟩ := arrI_lt hj
      rw [cells_row hT.row]
      exact hT.ar.node j h1
    replace hT := Lib.hid hT
    clear hB
    go_wp2_with (refine wpList_load_part rfl 94 (.tmp 17) rfl cb 262 rfl (arrI nodes) _ hcc Try.underlying94 rfl (by rw [show (arrI nodes).length = 256 by simp [arrI]]; kernel_rfl) ?_)
    clear hcc
    go_loopw [2, 19] (fun v i wq => N1 nodes w2 v i wq) (fun _ i _ => 256 - (intOf i).toNat)
    case atStart => exact ⟨0, by omega, rfl, World.ownsRow_nil _ _ _ _, Ext.refl _⟩
    case round =>
      obtain ⟨k, hk, rfl, own, xr⟩ := hrel.ex
      clear hrel
      by_cases hlt : k < 256
      · have hix := run_index_arr (cs := (arrI nodes).toArray) hlt (v := .int .i64 (nodes k)) (by rw [List.getElem?_toArray]; exact arrI_get nodes hlt)
        have hml := metTo_len nodes k
        generalize (arrI nodes).toArray = arr at *
        obtain ⟨AR, cR, rfl, hcr1, hcr2⟩ := own_slice own
        clear hcr1 hcr2
        replace own := Lib.hid own
        replace xr := Lib.hid xr
        have hsu := Lib.hid (metTo_succ nodes k)
        rcases Nat.eq_zero_or_pos (nodes k) with h0 | h0
        · have hc1 : decide ((nodes k : Int) > 0) = false := decide_eq_false (by omega)
          have hc2 : decide (0 < nodes k) = false := decide_eq_false (by omega)
          have IR : N1 nodes w2 (.slice AR (metTo nodes k).length cR) (.int .i64 ((k : Int) + 1)) wr := ⟨k + 1, hlt, rfl, by rw [hsu.out, if_neg (by omega)]; exact own.out, xr.out⟩
          replace IR := Lib.hid IR
          replace h0 := Lib.hid h0
          go_wp2_with fail
          refine ⟨IR.out, ?_⟩
          simp [intOf]
          omega
        · have hc1 : decide ((nodes k : Int) > 0) = true := decide_eq_true (by omega)
          have hc2 : decide (0 < nodes k) = true := decide_eq_true h0
          obtain ⟨i0, hi, hz0, hz1, hz2⟩ := info_parts Try.info_int
          replace hml := Lib.hid hml
          replace h0 := Lib.hid h0
          go_wp2_with (at_builtin; refine wpList_stop ?_)
          refine Stopped.go (wpList_push _ rfl (.tmp 25) (.tmp 27) 30 rfl w2.heap.size 3 i0 (.int .i64 0) 1 8 Try.underlying30 hi hz0 hz1 hz2 rfl (by decide) _ _ _ rfl own.out #[.int .i64 (k : Int)] rfl rfl (by simp [Value.oneCell']) (by have := hml.out; omega) (by decide) xr.out.size ?_)
          intro v8 w8 own8 _ hB8 _
          have IR : N1 nodes w2 v8 (.int .i64 ((k : Int) + 1)) w8 := ⟨k + 1, hlt, rfl, by
            rw [hsu.out, if_pos h0.out, intsV_snoc, List.length_append, List.length_singleton]
            exact own8, Below.trans xr.out hB8⟩
          replace IR := Lib.hid IR
          clear own8 hB8 hi hz0 hz1 hz2
          go_wp2_with fail
          refine ⟨IR.out, ?_⟩
          simp [intOf]
          omega
      · obtain rfl : k = 256 := by omega
        have HB : NodesQ S root next dead w (.returned (.tuple #[_, .int .i64 0])) wr := ⟨x2.trans (Below.mono xr x2.size), .inr ⟨vs, refs, nodes, _, w2.heap.size, rfl, x2.size, hT.out.pool, hT.out.cnt, hT.out.enough, own⟩⟩
        replace HB := Lib.hid HB
        replace own := Lib.hid own
        replace xr := Lib.hid xr
        go_wp2_with fail
        exact nodes_ret rfl rfl rfl HB.out
end Go.Proofs.Ytlgbjpihmkeopaa
/- The blocks that may be taken, in a list: room.free, slices.AppendSeq, slices.Collect, room.Free. -/
namespace Go.Proofs.Ytlgbjpihmkeopaa
set_option linter.unusedSimpArgs false
set_option linter.unusedVariables false
open Go.RowKit Go.Shelf
attribute [local go_sem] Oper.semAt_some

theorem free_stops (n : Nat) (hn : 1 ≤ n) (bs n₀ : Nat) (v1 v2 v3 v4 : Value) (S : Sto) (hS : storeMay S = true) (w : World) (hbs : bs < n₀) (hn₀ : n₀ ≤ w.heap.size)
    (hrow : w.heap[bs]? = some (.cells #[v1, v2, v3, v4] 28 (0, 0))) (hst : StoAt w n₀ v1 v2 v3 v4 S) :
    SeqStopsK Fence.wide n Try.prog 59 #[.pointer (some ⟨bs, 0, none⟩)] (fun x : Nat => #[.int .i64 (x : Int)]) (Below n₀) (fun ys => ys = freeS S) (fun pre => pre <+: freeS S) 256 w := fun l J Jx W hW hJ _ hY h0 =>
  free_in n hn l bs n₀ v1 v2 v3 v4 S hS J Jx hY (fun pre W1 W2 h hx => hJ pre W1 W2 none h ⟨hx.os, hx.tape, hx.output, hx.size, fun k hk _ => hx.block k hk⟩ (fun _ e => by cases e)) W hbs (Nat.le_trans hn₀ hW.size) ((hW.block bs (Nat.lt_of_lt_of_le hbs hn₀)).trans hrow) (hst.below (Below.mono hW hn₀)) h0

theorem own_kind {w : World} {B : Nat} {e : TypeId} {size : Nat} {v : Value} {n : Nat} {xs : List Value} (h : w.ownsRow B e size v n xs) : ∀ g, v.ownBlock = some g → ∃ c fz, w.heap[g]? = some (.cells c e fz) := by
  intro g hg
  rcases h.2 with ⟨rfl, _⟩ | ⟨b, cap, cur, rfl, _, h2, _⟩
  · simp [Value.ownBlock] at hg
  · simp [Value.ownBlock] at hg
    subst hg
    exact ⟨cur, (0, 0), h2⟩
theorem own_down {w : World} {B B' : Nat} {e : TypeId} {size : Nat} {v : Value} {n : Nat} {xs : List Value} (h : w.ownsRow B e size v n xs) (hb : B' ≤ B) : w.ownsRow B' e size v n xs := by
  rcases h with ⟨h1, h2 | ⟨g, cap, cur, e1, h3, h4⟩⟩
  · exact ⟨h1, .inl h2⟩
  · exact ⟨h1, .inr ⟨g, cap, cur, e1, by omega, h4⟩⟩
theorem own_not_walk {w : World} {B : Nat} {e : TypeId} {size : Nat} {v : Value} {n : Nat} {xs : List Value} (h : w.ownsRow B e size v n xs) {D : Nat} {o : Obj} (hD : w.heap[D]? = some o) (ho : o.isCells = false) : v.ownBlock = none ∨ v.ownBlock ≠ some D := by
  refine .inr fun hv => ?_
  obtain ⟨c, fz, h3⟩ := own_kind h D hv
  rw [hD] at h3
  cases h3
  cases ho
theorem below_grown {B : Nat} {W W' : World} {row : Option Nat} (hg : W.grownBy W' row) (hr : ∀ g, row = some g → B ≤ g) (hB : B ≤ W.heap.size := by omega) : Below B W W' := (Below.refl _ _).grown hg hB (fun k e => hr k e)
theorem keeps_grown {w w' : World} {B : Nat} {e : TypeId} {size : Nat} {v : Value} {n : Nat} {xs : List Value} (h : w.ownsRow B e size v n xs) (hg : w.grownBy w' v.ownBlock) : KeepsOthers w w' := ⟨hg.size, fun k o hk ho => (hg.block k (Array.getElem?_eq_some_iff.1 hk).1 (fun e1 => by
  obtain ⟨c, fz, h3⟩ := own_kind h k e1.symm
  rw [hk] at h3
  cases h3
  cases ho)).trans hk⟩
theorem ownFrom_list {B : Nat} (b base : Nat) (ty ety : TypeId) : OwnFrom B (fun (pre : List Nat) W => ∃ v, W.heap[b]? = some (.cells #[v] ty (0, 0)) ∧ W.ownsRow base ety 1 v pre.length (intsV pre)) := fun s A C row ⟨v, h1, h2⟩ hg hr =>
  ⟨v, ownFrom_row (β := Unit) _ _ _ _ () A C row h1 hg hr, h2.kept hg (by
    rcases hv : v.ownBlock with _ | g
    · exact .inl rfl
    · refine .inr fun e => ?_
      obtain ⟨_, o, ho, hc⟩ := hr g e.symm
      rcases own_kind h2 g hv with ⟨c, fz, h3⟩
      rw [ho] at h3
      cases h3
      cases hc)⟩

set_option maxRecDepth 100000 in
set_option maxHeartbeats 2000000 in
theorem appendSeq_in (n : Nat) (h3 : 3 ≤ n) (bs : Nat) (v1 v2 v3 v4 : Value) (S : Sto) (hS : storeMay S = true) (w : World) (hbs : bs < w.heap.size) (hrow : w.heap[bs]? = some (.cells #[v1, v2, v3, v4] 28 (0, 0))) (hst : StoAt w w.heap.size v1 v2 v3 v4 S) :
    CallsIn Fence.wide n Try.prog 58 #[.slice none 0 0, .func (.func 59) #[] #[.pointer (some ⟨bs, 0, none⟩)]] w fun e W' => ∃ v, e = .returned v ∧ Below w.heap.size w W' ∧ W'.ownsRow (w.heap.size + 1) 3 1 v (freeS S).length (intsV (freeS S)) := by
  have h1 : 1 ≤ n := by omega
  refine callsIn_of_wp_marks Try.func58 rfl trivial ?_ rfl
  simp only [Try.ntmps58, List.size_toArray, List.length_cons, List.length_nil, Nat.reduceAdd, Nat.reduceSub, Array.replicate_succ, Array.replicate_zero, List.push_toArray, List.append_toArray, List.nil_append, List.cons_append]
  gi_wp2_with fail
  have x1 : Ext w (w.alloc (.cells #[.slice none 0 0] 30)) := Ext.alloc _ _
  obtain ⟨i0, hi, hz0, hz1, hz2⟩ := info_parts Try.info_int
  refine wpIn_rangeFunc_ownH rfl h1 (gf := 59) (lb := #[.pointer (some ⟨bs, 0, none⟩)]) rfl trivial (enters_of Try.func59 (by kernel_rfl) rfl)
    (free_stops (n - 1) (by omega) bs w.heap.size v1 v2 v3 v4 S hS _ hbs (by simp) (row_ext hrow x1) (hst.below x1)) Below.trans (belowK_b (by simp)) (Below.refl _ _) (fun _ => rfl)
    (fun pre W => (∃ v, W.heap[w.heap.size]? = some (.cells #[v] 30 (0, 0)) ∧ W.ownsRow (w.heap.size + 1) 3 1 v pre.length (intsV pre)) ∧ Below w.heap.size w W)
    (fun _ _ _ => False)
    (OwnFrom.and (ownFrom_list _ _ _ _) (ownFrom_below (Nat.le_refl _) (by simp)))
    (fun _ _ _ _ _ hs _ _ => hs)
    ⟨⟨.slice none 0 0, World.alloc_heap_at _ _ _ rfl, World.ownsRow_nil _ _ _ _⟩, x1⟩
    (fun x a' _ => a' = { tmps := #[.slice none 0 0, .func (.func 59) #[] #[.pointer (some ⟨bs, 0, none⟩)], .pointer (some ⟨w.heap.size, 0, none⟩), undef, .slice none 0 0, .int .i64 (x : Int), .func (.func 59) #[] #[.pointer (some ⟨bs, 0, none⟩)], .int .i64 (x : Int), undef, undef, undef, undef, undef], defers := [] })
    (fun x a' => ownFrom_pure _ _) ?assign ?body ?done ?stop
  case assign =>
    rintro l pre x W K hI hK
    gi_wp2_with fail
    exact hK _ _ (KeepsFrom.refl _ _) (Below.refl _ _) hI rfl
  case body =>
    rintro l pre x a' W hl - ⟨⟨v, hr, hown⟩, hB⟩ rfl hpl
    have kr := cells_row hr
    have zb : w.heap.size < W.heap.size := (Array.getElem?_eq_some_iff.1 hr).1
    have hne : v.ownBlock ≠ some w.heap.size := fun e => by have := (own_lt hown _ e).1; omega
    obtain ⟨Av, cv, rfl, -, -⟩ := own_slice hown
    gi_wp2_with (gi_at_builtin; refine wpListIn_stop ?_)
    refine Stopped.go (wpListIn_push W rfl (.tmp 8) (.tmp 10) 30 rfl (w.heap.size + 1) 3 i0 _ 1 8 Try.underlying30 hi hz0 hz1 hz2 rfl (by decide) (.slice Av pre.length cv) pre.length _ (by exact rfl) hown #[.int .i64 (x : Int)] (by exact rfl) rfl (by simp [Value.oneCell']) (by omega) (by decide) (by omega) ?_)
    intro v' W3 hown3 hg hat
    have hg0 : ∀ g, (Value.slice Av pre.length cv).ownBlock = some g → w.heap.size + 1 ≤ g := fun g e => (own_lt hown _ e).1
    have hr3 : W3.heap[w.heap.size]? = _ := (hg.block _ zb (fun e => hne e.symm)).trans hr
    have kr3 := cells_row hr3
    have fr3 := frozen_row hr3
    have hB3 : Below w.heap.size W W3 := below_grown hg fun g e => by have := hg0 g e; omega
    have zb3 : w.heap.size < W3.heap.size := (Array.getElem?_eq_some_iff.1 hr3).1
    have hg3 : ∀ g, v'.ownBlock = some g → w.heap.size + 1 ≤ g := fun g e => (own_lt hown3 _ e).1
    have hkeep : KeepsOthers W W3 := keeps_grown hown hg
    replace hg := Lib.hid hg
    replace hown := Lib.hid hown
    replace hat := Lib.hid hat
    obtain ⟨Av', cv', rfl, -, -⟩ := own_slice hown3
    replace hown3 := Lib.hid hown3
    gi_wp2_with fail
    refine ⟨(hkeep.trans (KeepsOthers.setCell _ _ _)).from _, hB3.setCell (p := ⟨w.heap.size, 0, none⟩) (Nat.le_refl _) _, ⟨_, row_set hr3 0 _, ?_⟩, hB.trans (hB3.setCell (p := ⟨w.heap.size, 0, none⟩) (Nat.le_refl _) _)⟩
    rw [List.length_append, List.length_singleton, intsV_snoc]
    exact hown3.out.kept (grownBy_setCell' _ _ _) (.inr fun e => by have := hg3 _ e; omega)
  case done =>
    rintro D ys W hD rfl ⟨⟨v, hr, hown⟩, hB⟩ hK
    have kr := cells_row hr
    gi_wp2_with fail
    refine ⟨by simp, .inl ⟨_, _, rfl, run_takeDeferred hK, ?_⟩⟩
    exact ⟨_, results_tmp rfl _ _ _, v, rfl, hB.trans (belowK_b (w := w) (Nat.le_refl _) W D _ _ (by simp at hD; omega) hK rfl rfl), hown.kept (grownBy_putObj' W D _) (own_not_walk hown hK rfl)⟩
  case stop =>
    rintro D c pre W _ _ h _
    exact h.elim

def RFreeQ (S : Sto) (w : World) (e : Ending) (w' : World) : Prop := Below w.heap.size w w' ∧
  ((storeMay S = false ∧ e = .returned (.tuple #[.slice none 0 0, .int .i64 8])) ∨ (storeMay S = true ∧ ∃ v, e = .returned (.tuple #[v, .int .i64 0]) ∧ w'.ownsRow w.heap.size 3 1 v (freeS S).length (intsV (freeS S))))

set_option maxRecDepth 100000 in
set_option maxHeartbeats 2000000 in
theorem collect_any (bs : Nat) (v1 v2 v3 v4 : Value) (S : Sto) (hS : storeMay S = true) (w : World) (hbs : bs < w.heap.size) (hrow : w.heap[bs]? = some (.cells #[v1, v2, v3, v4] 28 (0, 0))) (hst : StoAt w w.heap.size v1 v2 v3 v4 S) :
    Calls Try.prog 30 #[.func (.func 59) #[] #[.pointer (some ⟨bs, 0, none⟩)]] w fun e W' => ∃ v, e = .returned v ∧ Below w.heap.size w W' ∧ W'.ownsRow (w.heap.size + 1) 3 1 v (freeS S).length (intsV (freeS S)) := by
  go_enter Try.func30, Try.ntmps30
  go_wp2_with fail
  refine ((callsIn_wide (n := 3)).1 (appendSeq_in 3 (by omega) bs v1 v2 v3 v4 S hS w hbs hrow hst)).mono ?_
  rintro e w2 ⟨v, rfl, hB, hown⟩
  obtain ⟨A, c, rfl, -, -⟩ := own_slice hown
  replace hown := Lib.hid hown
  go_wp2_with fail
  go_ret
  exact ⟨_, rfl, hB, hown.out⟩

set_option maxHeartbeats 1000000 in
theorem freeFn_any (A1 : Option Addr) (n1 c1 : Nat) (A2 : Option Addr) (n2 c2 : Nat) (A3 : Option Addr) (n3 c3 : Nat) (A4 : Option Addr) (n4 c4 : Nat) (w : World) :
    Calls Try.prog 31 #[storeV A1 n1 c1 A2 n2 c2 A3 n3 c3 A4 n4 c4] w (fun e w' => e = .returned (.func (.func 59) #[] #[.pointer (some ⟨w.heap.size, 0, none⟩)]) ∧ w' = w.alloc (.cells #[.slice A1 n1 c1, .slice A2 n2 c2, .slice A3 n3 c3, .slice A4 n4 c4] 28)) := by
  go_enter Try.func31, Try.ntmps31
  go_wp2
  go_ret
  exact ⟨rfl, rfl⟩

theorem rfree_ret {R : Ending → World → Prop} {a : Act} {W : World} {u v : Value} (h2 : a.tmps[2]?.getD undef = u) (h3 : a.tmps[3]?.getD undef = v) (hd : a.defers = []) (hR : R (.returned (.tuple #[u, v])) W) : bodyPost Try.prog Try.f14 R .ret a W := by
  refine bodyPost_ret (v := .tuple #[u, v]) ?_ hd hR
  simp [results, Try.results14, go_sem, h2, h3]

set_option maxRecDepth 100000 in
set_option maxHeartbeats 2000000 in
theorem rfree_any (A1 : Option Addr) (n1 c1 : Nat) (A2 : Option Addr) (n2 c2 : Nat) (A3 : Option Addr) (n3 c3 : Nat) (A4 : Option Addr) (n4 c4 : Nat) (S : Sto) (w : World) (h : StoAt w w.heap.size (.slice A1 n1 c1) (.slice A2 n2 c2) (.slice A3 n3 c3) (.slice A4 n4 c4) S) :
    Calls Try.prog 14 #[storeV A1 n1 c1 A2 n2 c2 A3 n3 c3 A4 n4 c4] w (RFreeQ S w) := by
  have HC := Lib.hid (fun W (hx : Ext w W) => rcheck_any A1 n1 c1 A2 n2 c2 A3 n3 c3 A4 n4 c4 S W (h.ext hx))
  replace h := Lib.hid h
  go_enter Try.func14, Try.ntmps14
  go_wp2_with fail
  generalize hw1 : (World.alloc w _) = w1
  have x1 : Ext w w1 := by rw [← hw1]; exact Ext.alloc _ _
  have r1 : w1.heap[w.heap.size]? = some (.cells #[.slice A1 n1 c1, .slice A2 n2 c2, .slice A3 n3 c3, .slice A4 n4 c4] 28 (0, 0)) := by rw [← hw1]; exact World.alloc_heap_at _ _ _ rfl
  clear hw1
  refine (HC.out w1 x1).mono ?_
  clear HC
  rintro e w2 ⟨rfl, hB⟩
  have x2 : Ext w w2 := x1.trans hB
  have r2 := row_ext r1 hB
  have k2 := cells_row r2
  clear hB r1 x1
  rcases hS : storeMay S with _ | _
  · rw [errOf_f rfl]
    replace hS := Lib.hid hS
    go_wp2_with fail
    exact rfree_ret rfl rfl rfl ⟨x2, .inl ⟨hS.out, rfl⟩⟩
  · rw [errOf_t rfl]
    go_wp2_with fail
    refine (freeFn_any A1 n1 c1 A2 n2 c2 A3 n3 c3 A4 n4 c4 w2).mono ?_
    rintro e w3 ⟨rfl, rfl⟩
    have x3 : Ext w2 (w2.alloc (.cells #[.slice A1 n1 c1, .slice A2 n2 c2, .slice A3 n3 c3, .slice A4 n4 c4] 28)) := Ext.alloc _ _
    have r3 : (w2.alloc (.cells #[.slice A1 n1 c1, .slice A2 n2 c2, .slice A3 n3 c3, .slice A4 n4 c4] 28)).heap[w2.heap.size]? = _ := World.alloc_heap_at _ _ _ rfl
    have h3 := h.out.ext (x2.trans x3)
    generalize hw3 : w2.alloc _ = w3 at *
    have s3 : w2.heap.size < w3.heap.size := (Array.getElem?_eq_some_iff.1 r3).1
    go_wp2_with fail
    refine (collect_any w2.heap.size _ _ _ _ S hS w3 s3 r3 h3).mono ?_
    rintro e w4 ⟨v, rfl, hB4, hown⟩
    obtain ⟨A, c, rfl, -, -⟩ := own_slice hown
    have HR : RFreeQ S w (.returned (.tuple #[.slice A (freeS S).length c, .int .i64 0])) w4 := ⟨Ext.trans (x2.trans x3) hB4, .inr ⟨hS, _, rfl, own_down hown (by have := (x2.trans x3).size; omega)⟩⟩
    replace HR := Lib.hid HR
    replace hown := Lib.hid hown
    replace hS := Lib.hid hS
    clear hw3 r3 r2 k2
    go_wp2_with fail
    exact rfree_ret rfl rfl rfl HR.out
end Go.Proofs.Ytlgbjpihmkeopaa
/- A drawn region in a fence, where an operation that reads no memory may come late: it is done first. -/
namespace Go.Proofs.Ytlgbjpihmkeopaa
set_option linter.unusedSimpArgs false
set_option linter.unusedVariables false
open Go.RowKit
section
variable {F0 : Fence} {P : Program} {ops : Array Oper} {n : Nat}
theorem wpOpIn_QN {Q : Exit → Act → World → Prop} {i : Nat} {a : Act} {w : World} {K K' : Act → World → Prop} (hK : ∀ a w, K a w → K' a w) (h : wpOpIn F0 n P ops (QN Q) i K a w) : wpOpIn F0 n P ops Q i K' a w := by
  unfold wpOpIn at *
  split
  · exact hK _ _ (by simpa [*] using h)
  · rename_i o ho
    simp only [ho] at h
    split
    · rename_i hw
      simp only [hw, if_true] at h
      refine ⟨h.1, ?_⟩
      replace h := h.2
      generalize (o.semAt F0.round a.eval).run P w = r at *
      cases r with
      | ok m w' =>
        cases m <;> simp only [Oper.uponIn] at h ⊢ <;>
          first
            | exact hK _ _ h
            | exact ⟨h.1, CallsIn.mono h.2 (fun e w'' he => by cases e <;> first | exact hK _ _ he | exact absurd he not_letsOut | exact False.elim he)⟩
            | exact ⟨h.1, RowsIn.mono h.2 (fun _ _ he => hK _ _ he)⟩
            | exact ⟨h.1, RoundIn.mono h.2 (fun e w'' he => by cases e <;> first | exact hK _ _ he | exact absurd he not_letsOut | exact False.elim he)⟩
      | halt x w' => cases x <;> simp only [Oper.uponIn] at h ⊢ <;> exact False.elim h
    · rename_i hw; simp only [hw] at h; exact ⟨h.1, hK _ _ h.2⟩
theorem wpAnyIn_QN {Q : Exit → Act → World → Prop} : ∀ (fuel : Nat) (listed : Array Bool) (a : Act) (w : World), wpAnyIn F0 n P .any ops (QN Q) fuel listed a w → wpAnyIn F0 n P .any ops Q fuel listed a w
  | 0, _, _, _, h => ⟨h.1, h.2⟩
  | fuel + 1, listed, a, w, h => ⟨h.1, fun i hi => wpOpIn_QN (fun a w h => wpAnyIn_QN fuel _ a w h) (h.2 i hi)⟩
theorem wpAnyIn_pure (HF : WideF F0) (HN : noDefer ops = true) {Q : Exit → Act → World → Prop} {z : Nat} {oz : Oper} {v : Value} (hz : ops[z]? = some oz) (hsel : ∀ (j : Nat) (o : Oper) cs b, ops[j]? = some o → o.op ≠ .select cs b) :
    ∀ (fuel : Nat) (listed : Array Bool) (a : Act) (W : World),
      (∀ j oj, ops[j]? = some oj → j ≠ z → listed.getD j true = false → (∀ e ∈ oj.after, Region.binds .any e = true → e.on ≠ z) → oz.apart ops oj = true) →
      z ∈ Region.ready .any ops listed → Region.wanted oz (yielded ops a.tmps) = true → (∀ W, (execOp a.eval oz).run P W = .ok (.value v) W) →
      wpAnyIn F0 n P .any ops (QN Q) fuel (listed.setIfInBounds z true) (a.put oz.dst v) W → wpAnyIn F0 n P .any ops (QN Q) (fuel + 1) listed a W := by
  have first : ∀ (K : Act → World → Prop) (a : Act) (W : World), Region.wanted oz (yielded ops a.tmps) = true → (∀ W, (execOp a.eval oz).run P W = .ok (.value v) W) → K (a.put oz.dst v) W → wpOpIn F0 n P ops (QN Q) z K a W := by
    intro K a W hw hp h
    unfold wpOpIn
    simp only [hz, hw, if_true]
    refine ⟨fun f _ => HF.fn f, ?_⟩
    rw [Oper.semAt_eq _ _ _ (noDefer_spec HN hz), hp]
    exact h
  intro fuel
  induction fuel with
  | zero =>
    intro listed a W hfree hr hw hp h
    refine ⟨fun h0 => (by rw [h0] at hr; cases hr), fun i hi => ?_⟩
    by_cases hiz : i = z
    · subst hiz; exact first _ a W hw hp h
    · exfalso
      have := ready_mono hi hiz
      rw [h.1] at this
      cases this
  | succ fuel ih =>
    intro listed a W hfree hr hw hp h
    refine ⟨fun h0 => (by rw [h0] at hr; cases hr), fun i hi => ?_⟩
    by_cases hiz : i = z
    · subst hiz; exact first _ a W hw hp h
    · have hi2 := h.2 i (ready_mono hi hiz)
      obtain ⟨hiun, oi, hoi, halli⟩ := mem_ready.1 hi
      obtain ⟨hzun, _, _, _⟩ := mem_ready.1 hr
      have bad : ∀ k, listed.getD k true = false → listed.getD k false = true → False := fun k h0 h1 => by
        rcases Nat.lt_or_ge k listed.size with h' | h'
        · simp [h'] at h0 h1; rw [h0] at h1; cases h1
        · simp [Array.getElem?_eq_none h'] at h1
      have hap := hfree i oi hoi hiz hiun (fun e he hb heq => bad z hzun (heq ▸ halli e he hb))
      obtain ⟨h1, h2, h3⟩ := Oper.apart_spec hap
      have hsi : ∀ cs b, oi.op ≠ .select cs b := fun cs b => hsel i oi cs b hoi
      have hsz : ∀ cs b, oz.op ≠ .select cs b := fun cs b => hsel z oz cs b hz
      have step : ∀ (b : Act) (u : Value) (w' : World), b.tmps = a.tmps → wpAnyIn F0 n P .any ops (QN Q) fuel ((listed.setIfInBounds z true).setIfInBounds i true) ((b.put oz.dst v).put oi.dst u) w' → wpAnyIn F0 n P .any ops (QN Q) (fuel + 1) (listed.setIfInBounds i true) (b.put oi.dst u) w' := by
        intro b u w' hb hh
        rw [Act.put_comm b v u h2, Array.setIfInBounds_comm _ _ (fun e => hiz e.symm)] at hh
        have hev : b.eval = a.eval := by funext x; cases x <;> simp [Act.eval, hb]
        refine ih _ _ w' (fun j oj hoj hjz hjun hno => ?_) (ready_mono hr (Ne.symm hiz)) ?_ (fun W => ?_) hh
        · refine hfree j oj hoj hjz ?_ hno
          by_cases hij : i = j
          · subst hij; exact hiun
          · rw [getD_set_ne true hij] at hjun; exact hjun
        · rw [wanted_put oz b oi.dst u h3, hb]; exact hw
        · rw [execOp_put oz hsz b oi.dst u h3, hev]; exact hp W
      unfold wpOpIn at hi2 ⊢
      simp only [hoi] at hi2 ⊢
      rw [wanted_put oi a oz.dst v h1] at hi2
      split
      · rename_i hw'
        rw [if_pos hw'] at hi2
        refine ⟨fun f _ => HF.fn f, ?_⟩
        replace hi2 := hi2.2
        rw [Oper.semAt_eq _ _ _ (noDefer_spec HN hoi)] at hi2 ⊢
        rw [execOp_put oi hsi a oz.dst v h1] at hi2
        generalize (execOp a.eval oi).run P W = r at *
        cases r with
        | ok m w' =>
          cases m <;> simp only [Oper.uponIn] at hi2 ⊢
          case value u => exact step a u w' rfl hi2
          case skip => exact step a undef w' rfl hi2
          case defer d =>
            refine step { a with defers := d :: a.defers } undef w' rfl ?_
            have e : ({ a.put oz.dst v with defers := d :: (a.put oz.dst v).defers } : Act) = ({ a with defers := d :: a.defers } : Act).put oz.dst v := by cases oz.dst <;> rfl
            rw [← e]
            exact hi2
          case enter f args => exact ⟨hi2.1, CallsIn.mono hi2.2 (fun e w'' he => by cases e <;> first | exact step a _ _ rfl he | exact absurd he not_letsOut | exact False.elim he)⟩
          case row => exact ⟨hi2.1, RowsIn.mono hi2.2 (fun _ _ he => step a _ _ rfl he)⟩
          case round => exact ⟨hi2.1, RoundIn.mono hi2.2 (fun e w'' he => by cases e <;> first | exact step a _ _ rfl he | exact absurd he not_letsOut | exact False.elim he)⟩
        | halt x w' => cases x <;> simp only [Oper.uponIn] at hi2 ⊢ <;> exact False.elim hi2
      · rename_i hw'
        rw [if_neg hw'] at hi2
        exact ⟨fun f _ => HF.fn f, step a undef W rfl hi2.2⟩
theorem regionIn_start {id : Nat} {l : List Oper} {Q : Exit → Act → World → Prop} {a : Act} {w : World} (hm : P.follows .mixedOrders = true)
    (h : wpAnyIn F0 n P .any l.toArray (QN Q) l.length (Array.replicate l.length false) a w.drew) : (Code.region id l.toArray true).wpIn F0 n P Q a w :=
  wpIn_region_any hm (by simpa using wpAnyIn_QN _ _ _ _ h)
theorem anyIn_pure {l : List Oper} {Q : Exit → Act → World → Prop} {m : Nat} {listed : Array Bool} {a : Act} {W : World} (HF : WideF F0) (HN : noDefer l.toArray = true) (z fuel : Nat) {oz : Oper} (v : Value) (hn : m = fuel + 1) (hz : l.toArray[z]? = some oz) (hs : Region.noSelect l.toArray = true)
    (hf : Region.free .any l.toArray listed z = true) (hr : (Region.ready .any l.toArray listed).contains z = true) (hw : Region.wanted oz (yielded l.toArray a.tmps) = true) (hp : ∀ W, (execOp a.eval oz).run P W = .ok (.value v) W)
    (h : wpAnyIn F0 n P .any l.toArray (QN Q) fuel (listed.setIfInBounds z true) (a.put oz.dst v) W) : wpAnyIn F0 n P .any l.toArray (QN Q) m listed a W :=
  hn ▸ wpAnyIn_pure HF HN hz (Region.noSelect_spec hs) fuel listed a W (Region.free_spec hz hf) (by simpa using hr) hw hp h
theorem anyIn_freeT {l : List Oper} {Q : Exit → Act → World → Prop} {fuel : Nat} {listed : Array Bool} {a : Act} {w W : World} (HF : WideF F0) (HN : noDefer l.toArray = true) (R : Rel) (H : Nat → Option Outs) (M : List Bool) (t : Nat)
    (hs : Region.noSelect l.toArray = true) (ht : tailT l.toArray (listedTo l.length (l.length - t)) ((maskOps 0 l M).map (·.1)) = true) (hc0 : closedB l.toArray listed = true) (hB : lexMask l.toArray (listedTo l.length (l.length - t)) ((maskOps 0 l M).map (·.1)) listed = true)
    (hseq : seqB l.toArray t (l.length - t) (listedTo l.length (l.length - t)) = true) (hfu : fuel = (maskOps 0 l M).length + t) (htl : (l.drop (l.length - t)).length = t)
    (hH : ∀ i h, H i = some h → ∀ p, StableG R (h.φ p)) (hW : R.r w W)
    (h : ∀ K : Act → Facts → Prop, (∀ a' F', (∀ W, R.r w W → (∀ k, F' k W) → wpListIn F0 n P l.toArray Q (l.drop (l.length - t)) a' W) → K a' F') → wpFreeM R P l.toArray w H K (maskOps 0 l M) a (fun _ _ => True)) : wpAnyIn F0 n P .any l.toArray Q fuel listed a W := by
  have h := h _ (fun a' F' hh => hh)
  subst hfu
  have key := wpAnyF_lexT (w0 := w) hH hs (fun _ _ h => h.step) (tailT_spec ht) (maskOps 0 l M) listed a (fun _ _ => True) (closedB_spec hc0) (fun x hx => by
    obtain ⟨j, h1, h2⟩ := maskOps_spec l M 0 x hx
    refine ⟨?_, List.mem_map.2 ⟨x, hx, rfl⟩⟩
    rw [h1, Nat.zero_add]
    simpa using h2) hB (fun _ _ _ _ _ => trivial) ⟨W, hW, fun _ => trivial⟩ (fun _ _ _ => trivial) h
  exact wpAnyIn_of_freeG HF HN (n := n) (w0 := w) hH (t := t) (Q' := Q) (fun a F W hq hW hF => by
    have := wpAnyIn_seq (F := F0) (n := n) (l.drop (l.length - t)) (l.length - t) _ a W (fun j _ => by rw [List.getElem?_drop]; simp) (by rw [htl]; exact hseq) (hq W hW hF)
    rwa [htl] at this) _ _ _ _ W (fun _ _ _ _ _ => trivial) hW (fun _ => trivial) key
end
end Go.Proofs.Ytlgbjpihmkeopaa
/- What is read from cells alone: it stands in each world that has those cells. -/
namespace Go.Proofs.Ytlgbjpihmkeopaa
set_option linter.unusedSimpArgs false
set_option linter.unusedVariables false
open Go.RowKit

theorem Rd.some_ {w w' : World} {B size n : Nat} {A : Option Addr} {xs : List Value} (h : Rd w B size A n xs) (hk : ∀ p v, w.cell? p = some v → w'.cell? p = some v) : Rd w' B size A n xs :=
  ⟨h.1, fun hn => by
    obtain ⟨b, off, e, hb, hc⟩ := h.2 hn
    exact ⟨b, off, e, hb, fun j u hu => hk _ _ (hc j u hu)⟩⟩
theorem Bys.some_ {w w' : World} {B : Nat} {v : Value} {l : List UInt8} (h : Bys w B v l) (hk : ∀ p v, w.cell? p = some v → w'.cell? p = some v) : Bys w' B v l := by
  obtain ⟨A, c, e, hc, hm, hr⟩ := h
  exact ⟨A, c, e, hc, hm, hr.some_ hk⟩
theorem StoAt.some_ {w w' : World} {B : Nat} {v1 v2 v3 v4 : Value} {S : Sto} (h : StoAt w B v1 v2 v3 v4 S) (hk : ∀ p v, w.cell? p = some v → w'.cell? p = some v) : StoAt w' B v1 v2 v3 v4 S := by
  obtain ⟨⟨vs, A, c, e, h1, h2, h3, h4⟩, ⟨ps, e', ⟨A', c', e1, e2, e3, hr⟩, hp⟩, h5, h6⟩ := h
  exact ⟨⟨vs, A, c, e, h1, h2, h3.some_ hk, fun i u l hu hl => (h4 i u l hu hl).some_ hk⟩, ⟨ps, e', ⟨A', c', e1, e2, e3, hr.some_ hk⟩, fun p h => ⟨(hp p h).1, (hp p h).2.some_ hk⟩⟩, h5.some_ hk, h6.some_ hk⟩
def mixW (lo N : Nat) (W C : World) : World := { C with heap := Array.ofFn (n := max N C.heap.size) fun k => if lo ≤ k.1 ∧ k.1 < N then W.heap[k.1]?.getD (.deferred none) else C.heap[k.1]?.getD (.deferred none) }
theorem mix_cell (lo N : Nat) (W C : World) (q : Addr) : (mixW lo N W C).cell? q = if lo ≤ q.block ∧ q.block < N then W.cell? q else C.cell? q := by
  unfold World.cell?
  have e : (mixW lo N W C).heap[q.block]? = if q.block < max N C.heap.size then some (if lo ≤ q.block ∧ q.block < N then W.heap[q.block]?.getD (.deferred none) else C.heap[q.block]?.getD (.deferred none)) else none := by
    simp only [mixW, Array.getElem?_ofFn]
    split <;> rfl
  rw [e]
  by_cases h : lo ≤ q.block ∧ q.block < N
  · rw [if_pos (by omega), if_pos h]
    simp only [if_pos h]
    cases W.heap[q.block]? <;> rfl
  · simp only [if_neg h]
    split
    · rename_i h1
      split at h1
      · cases hq : C.heap[q.block]? with
        | none => rw [hq] at h1; cases h1
        | some o => rw [hq] at h1; simp only [Option.getD_some, Option.some.injEq] at h1; subst h1; rfl
      · cases h1
    · rename_i h1
      split at h1
      · cases hq : C.heap[q.block]? with
        | none => rfl
        | some o =>
          cases o with
          | cells c e f => exact absurd (by rw [hq]; rfl) (h1 c e f)
          | _ => rfl
      · rename_i h2
        rw [Array.getElem?_eq_none (by omega)]
theorem pos_of_eq {Φ : World → Prop} (hm : ∀ A C : World, (∀ q v, A.cell? q = some v → C.cell? q = some v) → Φ A → Φ C) {lo N : Nat} {W : World} (h : ∀ W2 : World, (∀ q : Addr, lo ≤ q.block → q.block < N → W2.cell? q = W.cell? q) → Φ W2) :
    ∀ C : World, (∀ q v, lo ≤ q.block → q.block < N → W.cell? q = some v → C.cell? q = some v) → Φ C := fun C h3 =>
  hm (mixW lo N W C) C (fun q v hq => by
    rw [mix_cell] at hq
    split at hq
    · rename_i h1; exact h3 q v h1.1 h1.2 hq
    · exact hq) (h _ fun q h1 h2 => by rw [mix_cell, if_pos ⟨h1, h2⟩])
structure CellsKept (W W' : World) : Prop where
  size : W.heap.size ≤ W'.heap.size
  same : ∀ (k : Nat) (o : Obj), W.heap[k]? = some o → o.isCells = true → W'.heap[k]? = some o
theorem CellsKept.refl (W : World) : CellsKept W W := ⟨Nat.le_refl _, fun _ _ h _ => h⟩
theorem CellsKept.row {W W' : World} (h : CellsKept W W') {b : Nat} {cs : Array Value} {ty : TypeId} {fz : Nat × Nat} (hr : W.heap[b]? = some (.cells cs ty fz)) : W'.heap[b]? = some (.cells cs ty fz) := h.same b _ hr rfl
theorem CellsKept.cell {W W' : World} (h : CellsKept W W') {q : Addr} {v : Value} (hq : W.cell? q = some v) : W'.cell? q = some v := by
  unfold World.cell? at *
  cases hb : W.heap[q.block]? with
  | none => rw [hb] at hq; cases hq
  | some o =>
    cases o with
    | cells c e f =>
      rw [hb] at hq
      rw [h.row hb]
      exact hq
    | _ => rw [hb] at hq; cases hq
theorem CellsKept.grown {Wb W W' : World} {row : Option Nat} (h : CellsKept Wb W) (hg : W.grownBy W' row) (hr : ∀ r, row = some r → ∃ o : Obj, W.heap[r]? = some o ∧ o.isCells = false) : CellsKept Wb W' := ⟨Nat.le_trans h.size hg.size, fun k o hk ho => by
  have h1 := h.same k o hk ho
  refine (hg.block k (Array.getElem?_eq_some_iff.1 h1).1 fun e => ?_).trans h1
  obtain ⟨o', h2, h3⟩ := hr k e.symm
  rw [h1] at h2
  cases h2
  rw [ho] at h3
  cases h3⟩
theorem CellsKept.put {Wb W : World} (h : CellsKept Wb W) {D : Nat} {o : Obj} (o' : Obj) (hD : W.heap[D]? = some o) (ho : o.isCells = false) : CellsKept Wb (W.putObj D o') :=
  ⟨by have := h.size; simpa [World.putObj] using this, fun k x hk hx => by
    have h1 := h.same k x hk hx
    have hne : k ≠ D := fun e => by
      subst e
      rw [hD] at h1
      cases h1
      rw [ho] at hx
      cases hx
    exact (World.putObj_heap_other hne).trans h1⟩
def PosOn (lo : Nat) (W W' : World) : Prop := ∀ (q : Addr) (v : Value), lo ≤ q.block → q.block < W.heap.size → W.cell? q = some v → W'.cell? q = some v
def NewSto (lo : Nat) (S : Sto) (u : Value) (W : World) : Prop := ∃ A1 c1 A2 c2 A3 c3 A4 c4, u = storeV A1 S.bs.length c1 A2 S.ws.length c2 A3 S.now.length c3 A4 S.last.length c4 ∧
  ∀ C : World, PosOn lo W C → StoAt C W.heap.size (.slice A1 S.bs.length c1) (.slice A2 S.ws.length c2) (.slice A3 S.now.length c3) (.slice A4 S.last.length c4) S
theorem NewSto.keep {lo lo' : Nat} {S : Sto} {u : Value} {W W' : World} (h : NewSto lo S u W) (hl : lo' ≤ lo) (hs : W.heap.size ≤ W'.heap.size) (hp : PosOn lo W W') : NewSto lo' S u W' := by
  obtain ⟨A1, c1, A2, c2, A3, c3, A4, c4, e, hc⟩ := h
  exact ⟨A1, c1, A2, c2, A3, c3, A4, c4, e, fun C hC => (hc C fun q v h1 h2 h3 => hC q v (by omega) (by omega) (hp q v h1 h2 h3)).more hs⟩
theorem posOn_blocks {lo : Nat} {W W' : World} (h : ∀ k, lo ≤ k → k < W.heap.size → W'.heap[k]? = W.heap[k]?) : PosOn lo W W' := fun q v h1 h2 h3 => (World.cell?_of_block (h q.block h1 h2)).trans h3
theorem below4 {w0 w : World} {B b : Nat} (h : Below B w0 w) (hb : B ≤ b) (x0 x1 x2 x3 : Value) : Below B w0 ((((w.setCell ⟨b, 0, none⟩ x0).setCell ⟨b, 1, none⟩ x1).setCell ⟨b, 2, none⟩ x2).setCell ⟨b, 3, none⟩ x3) :=
  Below.setCell (Below.setCell (Below.setCell (Below.setCell h (p := ⟨b, 0, none⟩) hb _) (p := ⟨b, 1, none⟩) hb _) (p := ⟨b, 2, none⟩) hb _) (p := ⟨b, 3, none⟩) hb _
theorem row4 {w : World} {b : Nat} {ty : TypeId} {y0 y1 y2 y3 : Value} (h : w.heap[b]? = some (.cells #[y0, y1, y2, y3] ty (0, 0))) (x0 x1 x2 x3 : Value) :
    ((((w.setCell ⟨b, 0, none⟩ x0).setCell ⟨b, 1, none⟩ x1).setCell ⟨b, 2, none⟩ x2).setCell ⟨b, 3, none⟩ x3).heap[b]? = some (.cells #[x0, x1, x2, x3] ty (0, 0)) := row_set (row_set (row_set (row_set h 0 x0) 1 x1) 2 x2) 3 x3
theorem row8 {w : World} {b : Nat} {ty : TypeId} {y0 y1 y2 y3 y4 y5 y6 y7 : Value} (h : w.heap[b]? = some (.cells #[y0, y1, y2, y3, y4, y5, y6, y7] ty (0, 0))) (x0 x1 x2 x3 x4 x5 x6 x7 : Value) :
    ((((((((w.setCell ⟨b, 0, none⟩ x0).setCell ⟨b, 1, none⟩ x1).setCell ⟨b, 2, none⟩ x2).setCell ⟨b, 3, none⟩ x3).setCell ⟨b, 4, none⟩ x4).setCell ⟨b, 5, none⟩ x5).setCell ⟨b, 6, none⟩ x6).setCell ⟨b, 7, none⟩ x7).heap[b]? = some (.cells #[x0, x1, x2, x3, x4, x5, x6, x7] ty (0, 0)) := by
  have h1 := row_set (row_set (row_set (row_set h 0 x0) 1 x1) 2 x2) 3 x3
  exact row_set (row_set (row_set (row_set (cs := #[x0, x1, x2, x3, y4, y5, y6, y7]) h1 4 x4) 5 x5) 6 x6) 7 x7
theorem below8 {w0 w : World} {B b : Nat} (h : Below B w0 w) (hb : B ≤ b) (x0 x1 x2 x3 x4 x5 x6 x7 : Value) : Below B w0 ((((((((w.setCell ⟨b, 0, none⟩ x0).setCell ⟨b, 1, none⟩ x1).setCell ⟨b, 2, none⟩ x2).setCell ⟨b, 3, none⟩ x3).setCell ⟨b, 4, none⟩ x4).setCell ⟨b, 5, none⟩ x5).setCell ⟨b, 6, none⟩ x6).setCell ⟨b, 7, none⟩ x7) :=
  Below.setCell (Below.setCell (Below.setCell (Below.setCell (below4 h hb x0 x1 x2 x3) (p := ⟨b, 4, none⟩) hb _) (p := ⟨b, 5, none⟩) hb _) (p := ⟨b, 6, none⟩) hb _) (p := ⟨b, 7, none⟩) hb _
theorem other8 {w : World} {b k : Nat} (hk : k ≠ b) (x0 x1 x2 x3 x4 x5 x6 x7 : Value) : ((((((((w.setCell ⟨b, 0, none⟩ x0).setCell ⟨b, 1, none⟩ x1).setCell ⟨b, 2, none⟩ x2).setCell ⟨b, 3, none⟩ x3).setCell ⟨b, 4, none⟩ x4).setCell ⟨b, 5, none⟩ x5).setCell ⟨b, 6, none⟩ x6).setCell ⟨b, 7, none⟩ x7).heap[k]? = w.heap[k]? := by
  have hs := fun (A : World) (j : Nat) (v : Value) => Below.heap_setCell A ⟨b, j, none⟩ v k hk
  rw [hs, hs, hs, hs, hs, hs, hs, hs]
end Go.Proofs.Ytlgbjpihmkeopaa
