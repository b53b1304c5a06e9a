/- Texts Chunk, PushI, FreeL, FreeP, SetAll, RTwin, OnOwn, Up, ShareR, Twin3, Twin8, RTake, joined. -/
import Derived.Sort.CutIn
import Derived.TacticsInMore
import Derived.OwnWalkIn
import Derived.RangeFuncNested
import Derived.RangeFuncLeaves
import Derived.Test.YtlgbjpihmkeopaaP01
import Derived.Test.YtlgbjpihmkeopaaP03
import Derived.Test.YtlgbjpihmkeopaaP05
import Derived.Test.YtlgbjpihmkeopaaP07
import Derived.Test.YtlgbjpihmkeopaaP11
import Derived.Test.YtlgbjpihmkeopaaP14
import Derived.Test.YtlgbjpihmkeopaaP15
import Derived.Test.YtlgbjpihmkeopaaP16
import Derived.Test.YtlgbjpihmkeopaaP17
import Derived.Test.YtlgbjpihmkeopaaP18
/- slices.Chunk over 256 bytes: two halves. -/
namespace Go.Proofs.Ytlgbjpihmkeopaa
set_option linter.unusedSimpArgs false
set_option linter.unusedVariables false
open Go.RowKit Go.Shelf
attribute [local go_sem] Oper.semAt_some

def chk (b off : Nat) (j : Nat) : Value := .slice (some ⟨b, if j = 0 then off else off + 128, none⟩) 128 128
set_option maxHeartbeats 1000000 in
theorem chunk_any (A : Option Addr) (n c : Nat) (w : World) :
    Calls Try.prog 91 #[.slice A n c, .int .i64 128] w (fun e w' => e = .returned (.func (.func 114) #[] #[.pointer (some ⟨w.heap.size, 0, none⟩), .pointer (some ⟨w.heap.size + 1, 0, none⟩)]) ∧ w' = (w.alloc (.cells #[.slice A n c] 26)).alloc (.cells #[.int .i64 128] 3)) := by
  go_enter Try.func91, Try.ntmps91
  go_wp2
  go_ret
  exact ⟨rfl, rfl⟩
set_option maxRecDepth 100000 in
set_option maxHeartbeats 4000000 in
theorem chunk_in (n : Nat) (hn : 1 ≤ n) (l bs bn b off c : Nat) (hc : 256 ≤ c) (hcm : c ≤ maxLen) (J Jx : List Nat → World → Prop)
    (hY : ∀ pre (x : Nat) W, J pre W → pre.length < 2 → YieldAt Fence.wide (n - 1) Try.prog l #[chk b off x] W fun e W' => (e = .returned (.bool true) ∧ J (pre ++ [x]) W' ∧ Keep2 bs bn W W') ∨ (e = .returned (.bool false) ∧ Jx (pre ++ [x]) W'))
    (hJ : ∀ pre W W', J pre W → Ext W W' → J pre W')
    (W : World) (hbs : bs < W.heap.size) (hbn : bn < W.heap.size) (h1 : W.cell? ⟨bs, 0, none⟩ = some (.slice (some ⟨b, off, none⟩) 256 c)) (h2 : W.cell? ⟨bn, 0, none⟩ = some (.int .i64 128)) (h0 : J [] W) :
    CallsIn Fence.wide n Try.prog 114 #[.func (.yield l) #[] #[], .pointer (some ⟨bs, 0, none⟩), .pointer (some ⟨bn, 0, none⟩)] W fun e W' => (∃ v, e = .returned v) ∧ ((∃ ys, ys = [0, 1] ∧ J ys W') ∨ (∃ pre, pre <+: [0, 1] ∧ Jx pre W')) := by
  refine callsIn_of_wp Try.func114 rfl trivial ?_ rfl
  simp only [Try.ntmps114, List.size_toArray, List.length_cons, List.length_nil, Nat.reduceAdd, Nat.reduceSub, Array.replicate_succ, Array.replicate_zero, List.push_toArray, List.append_toArray, List.nil_append, List.cons_append]
  gi_wp2_with fail
  gi_loopw [4] (fun i wr => ∃ k : Nat, k ≤ 2 ∧ i = .int .i64 ((128 * k : Nat) : Int) ∧ J ([0, 1].take k) wr ∧ Keep2 bs bn W wr) (fun i _ => 256 - (intOf i).toNat)
  case atStart => exact ⟨0, Nat.zero_le _, rfl, h0, Keep2.refl _ _ _⟩
  case round =>
    obtain ⟨k, hk, hiv, hJs, hnx⟩ := hrel
    have q1 : wr.cell? ⟨bs, 0, none⟩ = some (.slice (some ⟨b, off, none⟩) 256 c) := (World.cell?_of_block (w := W) hnx.1).trans h1
    have q2 : wr.cell? ⟨bn, 0, none⟩ = some (.int .i64 128) := (World.cell?_of_block (w := W) hnx.2).trans h2
    have hbsr : bs < wr.heap.size := World.block_lt_of_cell? wr _ q1
    have hbnr : bn < wr.heap.size := World.block_lt_of_cell? wr _ q2
    obtain rfl | rfl | rfl : k = 0 ∨ k = 1 ∨ k = 2 := by omega
    · have hi2 : _ = Value.int .i64 0 := hiv
      subst hi2
      gi_upto_region 3 with fail
      have gS : ∀ W', extRel.r wr W' → W'.cell? ⟨bs, 0, none⟩ = some (.slice (some ⟨b, off, none⟩) 256 c) := fun W' h => Ext.cell h q1
      have gN : ∀ W', extRel.r wr W' → W'.cell? ⟨bn, 0, none⟩ = some (.int .i64 128) := fun W' h => Ext.cell h q2
      refine wpIn_region_freeT extRel (outsAt []) (List.replicate 6 true) 1 wideF (by kernel_rfl) (by kernel_rfl) (by kernel_rfl) (by kernel_rfl) (by kernel_rfl) (by kernel_rfl) (by kernel_rfl) (by kernel_rfl) (by kernel_rfl) ?st (Rel.drew _ _) ?walk
      case st => intro i h hx; simp [outsAt] at hx
      case walk =>
        intro K hK
        dsimp only [maskOps, List.replicate]
        repeat ((first | (refine free_plainM ?_ (by rfl) (by rfl) (fun W hW _ => ⟨W, ?_, Rel.refl _ W⟩) ?_; rotate_left; (first | (go_simp; with_reducible rfl) | (go_simp; done))) | (refine free_skipM (by rfl) ?_)); try simp only [Act.put, one_f, outB_f, outNew_f, outI_f, List.setIfInBounds_toArray, List.set_cons_zero, List.set_cons_succ])
        rw [show min (128 : Int) 256 = 128 by decide]
        refine free_nilM (hK _ _ fun W2 hW hF => ?_)
        clear hF hK
        dsimp only [List.drop, List.length_cons, List.length_nil]
        have q12 := gS W2 hW
        have hx2 : Ext wr W2 := hW
        have hkk : Keep2 bs bn wr W2 := Keep2.below hx2 hbsr hbnr
        obtain ⟨fn, tm, asg, bdy, hy, hR⟩ := hY [] 0 W2 (hJ _ _ _ hJs hx2) (by simp)
        have hch : chk b off 0 = .slice (some ⟨b, off, none⟩) 128 128 := rfl
        rw [hch] at hy
        have q22 := gN W2 hW
        clear gS gN q1 q2 hch
        have hcz : ¬ c = 0 := by omega
        gi_wp2_with fail
        refine hR.mono ?_
        rintro e W3 (⟨rfl, hJ3, hk3⟩ | ⟨rfl, hJx3⟩)
        · have q3 : W3.cell? ⟨bn, 0, none⟩ = some (.int .i64 128) := (World.cell?_of_block (w := W2) hk3.2).trans q22
          clear hR hy
          gi_wp2_with fail
          go_roundw
          case rel => exact ⟨1, by omega, rfl, hJ3, (hnx.t hkk).t hk3⟩
          case measure => simp [intOf]
        · clear hR hy
          gi_wp2_with fail
          refine bodyPost_ret (results_none rfl _ _ _) rfl ?_
          exact ⟨⟨_, rfl⟩, .inr ⟨[0], by simp, hJx3⟩⟩
    · have hi2 : _ = Value.int .i64 128 := hiv
      subst hi2
      gi_upto_region 3 with fail
      have gS : ∀ W', extRel.r wr W' → W'.cell? ⟨bs, 0, none⟩ = some (.slice (some ⟨b, off, none⟩) 256 c) := fun W' h => Ext.cell h q1
      have gN : ∀ W', extRel.r wr W' → W'.cell? ⟨bn, 0, none⟩ = some (.int .i64 128) := fun W' h => Ext.cell h q2
      refine wpIn_region_freeT extRel (outsAt []) (List.replicate 6 true) 1 wideF (by kernel_rfl) (by kernel_rfl) (by kernel_rfl) (by kernel_rfl) (by kernel_rfl) (by kernel_rfl) (by kernel_rfl) (by kernel_rfl) (by kernel_rfl) ?st (Rel.drew _ _) ?walk
      case st => intro i h hx; simp [outsAt] at hx
      case walk =>
        intro K hK
        dsimp only [maskOps, List.replicate]
        repeat ((first | (refine free_plainM ?_ (by rfl) (by rfl) (fun W hW _ => ⟨W, ?_, Rel.refl _ W⟩) ?_; rotate_left; (first | (go_simp; with_reducible rfl) | (go_simp; done))) | (refine free_skipM (by rfl) ?_)); try simp only [Act.put, one_f, outB_f, outNew_f, outI_f, List.setIfInBounds_toArray, List.set_cons_zero, List.set_cons_succ])
        skip
        refine free_nilM (hK _ _ fun W2 hW hF => ?_)
        clear hF hK
        dsimp only [List.drop, List.length_cons, List.length_nil]
        have q12 := gS W2 hW
        have hx2 : Ext wr W2 := hW
        have hkk : Keep2 bs bn wr W2 := Keep2.below hx2 hbsr hbnr
        obtain ⟨fn, tm, asg, bdy, hy, hR⟩ := hY [0] 1 W2 (hJ _ _ _ hJs hx2) (by simp)
        have hch : chk b off 1 = .slice (some ⟨b, off + 128, none⟩) 128 128 := rfl
        rw [hch] at hy
        have q22 := gN W2 hW
        clear gS gN q1 q2 hch
        have hcz : ¬ c = 0 := by omega
        gi_wp2_with fail
        refine hR.mono ?_
        rintro e W3 (⟨rfl, hJ3, hk3⟩ | ⟨rfl, hJx3⟩)
        · have q3 : W3.cell? ⟨bn, 0, none⟩ = some (.int .i64 128) := (World.cell?_of_block (w := W2) hk3.2).trans q22
          clear hR hy
          gi_wp2_with fail
          go_roundw
          case rel => exact ⟨2, by omega, rfl, hJ3, (hnx.t hkk).t hk3⟩
          case measure => simp [intOf]
        · clear hR hy
          gi_wp2_with fail
          refine bodyPost_ret (results_none rfl _ _ _) rfl ?_
          exact ⟨⟨_, rfl⟩, .inr ⟨[0, 1], by simp, hJx3⟩⟩
    · have hi2 : _ = Value.int .i64 256 := hiv
      subst hi2
      gi_wp2_with fail
      go_end0
      exact ⟨⟨_, rfl⟩, .inl ⟨_, rfl, hJs⟩⟩
theorem chunk_stops (n : Nat) (hn : 1 ≤ n) (bs bn b off c : Nat) (hc : 256 ≤ c) (hcm : c ≤ maxLen) (w : World) (hbs : bs < w.heap.size) (hbn : bn < w.heap.size) (h1 : w.cell? ⟨bs, 0, none⟩ = some (.slice (some ⟨b, off, none⟩) 256 c)) (h2 : w.cell? ⟨bn, 0, none⟩ = some (.int .i64 128)) :
    SeqStopsK Fence.wide n Try.prog 114 #[.pointer (some ⟨bs, 0, none⟩), .pointer (some ⟨bn, 0, none⟩)] (fun x : Nat => #[chk b off x]) (Keep2 bs bn) (fun ys => ys = [0, 1]) (fun pre => pre <+: [0, 1]) 2 w := fun l J Jx W hW hJ _ hY h0 =>
  chunk_in n hn l bs bn b off c hc hcm J Jx hY (fun pre W1 W2 h hx => hJ pre W1 W2 none h ⟨hx.os, hx.tape, hx.output, hx.size, fun k hk _ => hx.block k hk⟩ (fun _ e => by cases e)) W (Nat.lt_of_lt_of_le hbs hW.size) (Nat.lt_of_lt_of_le hbn hW.size) ((World.cell?_of_block (hW.block bs hbs)).trans h1) ((World.cell?_of_block (hW.block bn hbn)).trans h2) h0
end Go.Proofs.Ytlgbjpihmkeopaa
/- An append of one element inside a fence. -/
namespace Go.Proofs.Ytlgbjpihmkeopaa
set_option linter.unusedSimpArgs false
set_option linter.unusedVariables false
open Go.RowKit
theorem wpListIn_stop {F : Fence} {n : Nat} {P : Program} {ops : Array Oper} {l : List Oper} {a : Act} {w : World} {Q : Exit → Act → World → Prop} (h : Stopped (wpListIn F n P ops Q l a w)) : wpListIn F n P ops Q l a w := h
theorem wpListIn_push {F : Fence} {nf : Nat} {P : Program} (w : World) {ops : Array Oper} {rest : List Oper} {o : Oper} {a : Act} {Q : Exit → Act → World → Prop} (hgd : o.guard = none) (s x : Operand) (t : TypeId)
    (ho : o.op = .call { callee := .builtin .append, args := #[s, x], argTypes := #[t, t] })
    (base : Nat) (e : TypeId) (i : TypeInfo) (z : Value) (size bytes : Nat) (ht : P.underlying t = some (.slice e)) (hi : P.info? e = some i) (hz : i.zero = some z)
    (hsize : i.size = size) (hby : i.bytes = bytes) (hzs : z.cells.size = size) (hsz : 0 < size)
    (v : Value) (n : Nat) (xs : List Value) (hs : a.eval s = v) (hown : w.ownsRow base e size v n xs) (cs : Array Value)
    (hx : a.eval x = .slice (some ⟨w.heap.size, 0, none⟩) 1 1) (hl : cs.size = size) (h1 : ∀ u ∈ cs.toList, u.oneCell' = true)
    (hn : n < 1073741824) (hbytes : bytes ≤ 65536) (hbase : base ≤ w.heap.size)
    (h : ∀ v' w', w'.ownsRow base e size v' (n + 1) (xs ++ cs.toList) → w.grownBy w' v.ownBlock → (v'.ownBlock = v.ownBlock ∨ ∃ g, v'.ownBlock = some g ∧ w.heap.size ≤ g) → wpListIn F nf P ops Q rest (a.put o.dst v') w') :
    wpListIn F nf P ops Q (o :: rest) a (w.alloc (.cells cs e)) := by
  refine wpListIn_plain hgd fun K hK => ?_
  have hb : (n + 1) * bytes ≤ 140737488355328 := Nat.le_trans (Nat.mul_le_mul_left _ hbytes) (by omega)
  have hm : n + 1 ≤ maxLen := by unfold maxLen; omega
  obtain ⟨v', w', hrun, h2, h3, _, h5⟩ := run_append_own_at (P := P) (w.alloc (.cells cs e)) base t o.type e i z size bytes ht hi hz hsize hby hzs hsz v n xs (hown.alloc _) ⟨w.heap.size, 0, none⟩ 1 1 cs.toList
    (by rw [Array.length_toList]; omega) (adds_new w cs e) h1 hm hb (by simp; omega)
  have hg : w.grownBy w' v.ownBlock := ⟨h3.os, h3.tape, h3.output, Nat.le_trans (by simp) h3.size, fun k hk hne => (h3.block k (by simp; omega) hne).trans (Below.heap_alloc w _ k hk)⟩
  unfold Oper.wpIn
  refine ⟨?_, ?_⟩
  · simp [Oper.about, ho, resolve, Target.leads, Sem.run_pure]
  · rw [Oper.semAt_plain F _ _ (by rw [ho]; intro c hc'; cases hc')]
    simp only [execOp, ho, resolve, invoke, builtin, Sem.run_bind, Sem.run_pure, Result.andThen_ok, List.map_toArray, List.map_cons, List.map_nil, hs, hx, hrun]
    exact hK _ _ (h v' w' h2 hg (h5.imp id fun e => ⟨_, e, by simp⟩))
end Go.Proofs.Ytlgbjpihmkeopaa
/- The blocks that may be taken, in a list: room.free, slices.AppendSeq, slices.Collect, room.Free. -/
namespace Go.Proofs.Ytlgbjpihmkeopaa
set_option linter.unusedSimpArgs false
set_option linter.unusedVariables false
open Go.RowKit Go.Shelf
attribute [local go_sem] Oper.semAt_some

theorem free_stops (n : Nat) (hn : 1 ≤ n) (bs n₀ : Nat) (v1 v2 v3 v4 : Value) (S : Sto) (hS : storeMay S = true) (w : World) (hbs : bs < n₀) (hn₀ : n₀ ≤ w.heap.size)
    (hrow : w.heap[bs]? = some (.cells #[v1, v2, v3, v4] 28 (0, 0))) (hst : StoAt w n₀ v1 v2 v3 v4 S) :
    SeqStopsK Fence.wide n Try.prog 59 #[.pointer (some ⟨bs, 0, none⟩)] (fun x : Nat => #[.int .i64 (x : Int)]) (Below n₀) (fun ys => ys = freeS S) (fun pre => pre <+: freeS S) 256 w := fun l J Jx W hW hJ _ hY h0 =>
  free_in n hn l bs n₀ v1 v2 v3 v4 S hS J Jx hY (fun pre W1 W2 h hx => hJ pre W1 W2 none h ⟨hx.os, hx.tape, hx.output, hx.size, fun k hk _ => hx.block k hk⟩ (fun _ e => by cases e)) W hbs (Nat.le_trans hn₀ hW.size) ((hW.block bs (Nat.lt_of_lt_of_le hbs hn₀)).trans hrow) (hst.below (Below.mono hW hn₀)) h0

theorem own_kind {w : World} {B : Nat} {e : TypeId} {size : Nat} {v : Value} {n : Nat} {xs : List Value} (h : w.ownsRow B e size v n xs) : ∀ g, v.ownBlock = some g → ∃ c fz, w.heap[g]? = some (.cells c e fz) := by
  intro g hg
  rcases h.2 with ⟨rfl, _⟩ | ⟨b, cap, cur, rfl, _, h2, _⟩
  · simp [Value.ownBlock] at hg
  · simp [Value.ownBlock] at hg
    subst hg
    exact ⟨cur, (0, 0), h2⟩
theorem own_down {w : World} {B B' : Nat} {e : TypeId} {size : Nat} {v : Value} {n : Nat} {xs : List Value} (h : w.ownsRow B e size v n xs) (hb : B' ≤ B) : w.ownsRow B' e size v n xs := by
  rcases h with ⟨h1, h2 | ⟨g, cap, cur, e1, h3, h4⟩⟩
  · exact ⟨h1, .inl h2⟩
  · exact ⟨h1, .inr ⟨g, cap, cur, e1, by omega, h4⟩⟩
theorem own_not_walk {w : World} {B : Nat} {e : TypeId} {size : Nat} {v : Value} {n : Nat} {xs : List Value} (h : w.ownsRow B e size v n xs) {D : Nat} {o : Obj} (hD : w.heap[D]? = some o) (ho : o.isCells = false) : v.ownBlock = none ∨ v.ownBlock ≠ some D := by
  refine .inr fun hv => ?_
  obtain ⟨c, fz, h3⟩ := own_kind h D hv
  rw [hD] at h3
  cases h3
  cases ho
theorem below_grown {B : Nat} {W W' : World} {row : Option Nat} (hg : W.grownBy W' row) (hr : ∀ g, row = some g → B ≤ g) (hB : B ≤ W.heap.size := by omega) : Below B W W' := (Below.refl _ _).grown hg hB (fun k e => hr k e)
theorem keeps_grown {w w' : World} {B : Nat} {e : TypeId} {size : Nat} {v : Value} {n : Nat} {xs : List Value} (h : w.ownsRow B e size v n xs) (hg : w.grownBy w' v.ownBlock) : KeepsOthers w w' := ⟨hg.size, fun k o hk ho => (hg.block k (Array.getElem?_eq_some_iff.1 hk).1 (fun e1 => by
  obtain ⟨c, fz, h3⟩ := own_kind h k e1.symm
  rw [hk] at h3
  cases h3
  cases ho)).trans hk⟩
theorem ownFrom_list {B : Nat} (b base : Nat) (ty ety : TypeId) : OwnFrom B (fun (pre : List Nat) W => ∃ v, W.heap[b]? = some (.cells #[v] ty (0, 0)) ∧ W.ownsRow base ety 1 v pre.length (intsV pre)) := fun s A C row ⟨v, h1, h2⟩ hg hr =>
  ⟨v, ownFrom_row (β := Unit) _ _ _ _ () A C row h1 hg hr, h2.kept hg (by
    rcases hv : v.ownBlock with _ | g
    · exact .inl rfl
    · refine .inr fun e => ?_
      obtain ⟨_, o, ho, hc⟩ := hr g e.symm
      rcases own_kind h2 g hv with ⟨c, fz, h3⟩
      rw [ho] at h3
      cases h3
      cases hc)⟩

set_option maxRecDepth 100000 in
set_option maxHeartbeats 2000000 in
theorem appendSeq_in (n : Nat) (h3 : 3 ≤ n) (bs : Nat) (v1 v2 v3 v4 : Value) (S : Sto) (hS : storeMay S = true) (w : World) (hbs : bs < w.heap.size) (hrow : w.heap[bs]? = some (.cells #[v1, v2, v3, v4] 28 (0, 0))) (hst : StoAt w w.heap.size v1 v2 v3 v4 S) :
    CallsIn Fence.wide n Try.prog 58 #[.slice none 0 0, .func (.func 59) #[] #[.pointer (some ⟨bs, 0, none⟩)]] w fun e W' => ∃ v, e = .returned v ∧ Below w.heap.size w W' ∧ W'.ownsRow (w.heap.size + 1) 3 1 v (freeS S).length (intsV (freeS S)) := by
  have h1 : 1 ≤ n := by omega
  refine callsIn_of_wp_marks Try.func58 rfl trivial ?_ rfl
  simp only [Try.ntmps58, List.size_toArray, List.length_cons, List.length_nil, Nat.reduceAdd, Nat.reduceSub, Array.replicate_succ, Array.replicate_zero, List.push_toArray, List.append_toArray, List.nil_append, List.cons_append]
  gi_wp2_with fail
  have x1 : Ext w (w.alloc (.cells #[.slice none 0 0] 30)) := Ext.alloc _ _
  obtain ⟨i0, hi, hz0, hz1, hz2⟩ := info_parts Try.info_int
  refine wpIn_rangeFunc_ownH rfl h1 (gf := 59) (lb := #[.pointer (some ⟨bs, 0, none⟩)]) rfl trivial (enters_of Try.func59 (by kernel_rfl) rfl)
    (free_stops (n - 1) (by omega) bs w.heap.size v1 v2 v3 v4 S hS _ hbs (by simp) (row_ext hrow x1) (hst.below x1)) Below.trans (belowK_b (by simp)) (Below.refl _ _) (fun _ => rfl)
    (fun pre W => (∃ v, W.heap[w.heap.size]? = some (.cells #[v] 30 (0, 0)) ∧ W.ownsRow (w.heap.size + 1) 3 1 v pre.length (intsV pre)) ∧ Below w.heap.size w W)
    (fun _ _ _ => False)
    (OwnFrom.and (ownFrom_list _ _ _ _) (ownFrom_below (Nat.le_refl _) (by simp)))
    (fun _ _ _ _ _ hs _ _ => hs)
    ⟨⟨.slice none 0 0, World.alloc_heap_at _ _ _ rfl, World.ownsRow_nil _ _ _ _⟩, x1⟩
    (fun x a' _ => a' = { tmps := #[.slice none 0 0, .func (.func 59) #[] #[.pointer (some ⟨bs, 0, none⟩)], .pointer (some ⟨w.heap.size, 0, none⟩), undef, .slice none 0 0, .int .i64 (x : Int), .func (.func 59) #[] #[.pointer (some ⟨bs, 0, none⟩)], .int .i64 (x : Int), undef, undef, undef, undef, undef], defers := [] })
    (fun x a' => ownFrom_pure _ _) ?assign ?body ?done ?stop
  case assign =>
    rintro l pre x W K hI hK
    gi_wp2_with fail
    exact hK _ _ (KeepsFrom.refl _ _) (Below.refl _ _) hI rfl
  case body =>
    rintro l pre x a' W hl - ⟨⟨v, hr, hown⟩, hB⟩ rfl hpl
    have kr := cells_row hr
    have zb : w.heap.size < W.heap.size := (Array.getElem?_eq_some_iff.1 hr).1
    have hne : v.ownBlock ≠ some w.heap.size := fun e => by have := (own_lt hown _ e).1; omega
    obtain ⟨Av, cv, rfl, -, -⟩ := own_slice hown
    gi_wp2_with (gi_at_builtin; refine wpListIn_stop ?_)
    refine Stopped.go (wpListIn_push W rfl (.tmp 8) (.tmp 10) 30 rfl (w.heap.size + 1) 3 i0 _ 1 8 Try.underlying30 hi hz0 hz1 hz2 rfl (by decide) (.slice Av pre.length cv) pre.length _ (by exact rfl) hown #[.int .i64 (x : Int)] (by exact rfl) rfl (by simp [Value.oneCell']) (by omega) (by decide) (by omega) ?_)
    intro v' W3 hown3 hg hat
    have hg0 : ∀ g, (Value.slice Av pre.length cv).ownBlock = some g → w.heap.size + 1 ≤ g := fun g e => (own_lt hown _ e).1
    have hr3 : W3.heap[w.heap.size]? = _ := (hg.block _ zb (fun e => hne e.symm)).trans hr
    have kr3 := cells_row hr3
    have fr3 := frozen_row hr3
    have hB3 : Below w.heap.size W W3 := below_grown hg fun g e => by have := hg0 g e; omega
    have zb3 : w.heap.size < W3.heap.size := (Array.getElem?_eq_some_iff.1 hr3).1
    have hg3 : ∀ g, v'.ownBlock = some g → w.heap.size + 1 ≤ g := fun g e => (own_lt hown3 _ e).1
    have hkeep : KeepsOthers W W3 := keeps_grown hown hg
    replace hg := Lib.hid hg
    replace hown := Lib.hid hown
    replace hat := Lib.hid hat
    obtain ⟨Av', cv', rfl, -, -⟩ := own_slice hown3
    replace hown3 := Lib.hid hown3
    gi_wp2_with fail
    refine ⟨(hkeep.trans (KeepsOthers.setCell _ _ _)).from _, hB3.setCell (p := ⟨w.heap.size, 0, none⟩) (Nat.le_refl _) _, ⟨_, row_set hr3 0 _, ?_⟩, hB.trans (hB3.setCell (p := ⟨w.heap.size, 0, none⟩) (Nat.le_refl _) _)⟩
    rw [List.length_append, List.length_singleton, intsV_snoc]
    exact hown3.out.kept (grownBy_setCell' _ _ _) (.inr fun e => by have := hg3 _ e; omega)
  case done =>
    rintro D ys W hD rfl ⟨⟨v, hr, hown⟩, hB⟩ hK
    have kr := cells_row hr
    gi_wp2_with fail
    refine ⟨by simp, .inl ⟨_, _, rfl, run_takeDeferred hK, ?_⟩⟩
    exact ⟨_, results_tmp rfl _ _ _, v, rfl, hB.trans (belowK_b (w := w) (Nat.le_refl _) W D _ _ (by simp at hD; omega) hK rfl rfl), hown.kept (grownBy_putObj' W D _) (own_not_walk hown hK rfl)⟩
  case stop =>
    rintro D c pre W _ _ h _
    exact h.elim

def RFreeQ (S : Sto) (w : World) (e : Ending) (w' : World) : Prop := Below w.heap.size w w' ∧
  ((storeMay S = false ∧ e = .returned (.tuple #[.slice none 0 0, .int .i64 8])) ∨ (storeMay S = true ∧ ∃ v, e = .returned (.tuple #[v, .int .i64 0]) ∧ w'.ownsRow w.heap.size 3 1 v (freeS S).length (intsV (freeS S))))

set_option maxRecDepth 100000 in
set_option maxHeartbeats 2000000 in
theorem collect_any (bs : Nat) (v1 v2 v3 v4 : Value) (S : Sto) (hS : storeMay S = true) (w : World) (hbs : bs < w.heap.size) (hrow : w.heap[bs]? = some (.cells #[v1, v2, v3, v4] 28 (0, 0))) (hst : StoAt w w.heap.size v1 v2 v3 v4 S) :
    Calls Try.prog 30 #[.func (.func 59) #[] #[.pointer (some ⟨bs, 0, none⟩)]] w fun e W' => ∃ v, e = .returned v ∧ Below w.heap.size w W' ∧ W'.ownsRow (w.heap.size + 1) 3 1 v (freeS S).length (intsV (freeS S)) := by
  go_enter Try.func30, Try.ntmps30
  go_wp2_with fail
  refine ((callsIn_wide (n := 3)).1 (appendSeq_in 3 (by omega) bs v1 v2 v3 v4 S hS w hbs hrow hst)).mono ?_
  rintro e w2 ⟨v, rfl, hB, hown⟩
  obtain ⟨A, c, rfl, -, -⟩ := own_slice hown
  replace hown := Lib.hid hown
  go_wp2_with fail
  go_ret
  exact ⟨_, rfl, hB, hown.out⟩

set_option maxHeartbeats 1000000 in
theorem freeFn_any (A1 : Option Addr) (n1 c1 : Nat) (A2 : Option Addr) (n2 c2 : Nat) (A3 : Option Addr) (n3 c3 : Nat) (A4 : Option Addr) (n4 c4 : Nat) (w : World) :
    Calls Try.prog 31 #[storeV A1 n1 c1 A2 n2 c2 A3 n3 c3 A4 n4 c4] w (fun e w' => e = .returned (.func (.func 59) #[] #[.pointer (some ⟨w.heap.size, 0, none⟩)]) ∧ w' = w.alloc (.cells #[.slice A1 n1 c1, .slice A2 n2 c2, .slice A3 n3 c3, .slice A4 n4 c4] 28)) := by
  go_enter Try.func31, Try.ntmps31
  go_wp2
  go_ret
  exact ⟨rfl, rfl⟩

theorem rfree_ret {R : Ending → World → Prop} {a : Act} {W : World} {u v : Value} (h2 : a.tmps[2]?.getD undef = u) (h3 : a.tmps[3]?.getD undef = v) (hd : a.defers = []) (hR : R (.returned (.tuple #[u, v])) W) : bodyPost Try.prog Try.f14 R .ret a W := by
  refine bodyPost_ret (v := .tuple #[u, v]) ?_ hd hR
  simp [results, Try.results14, go_sem, h2, h3]

set_option maxRecDepth 100000 in
set_option maxHeartbeats 2000000 in
theorem rfree_any (A1 : Option Addr) (n1 c1 : Nat) (A2 : Option Addr) (n2 c2 : Nat) (A3 : Option Addr) (n3 c3 : Nat) (A4 : Option Addr) (n4 c4 : Nat) (S : Sto) (w : World) (h : StoAt w w.heap.size (.slice A1 n1 c1) (.slice A2 n2 c2) (.slice A3 n3 c3) (.slice A4 n4 c4) S) :
    Calls Try.prog 14 #[storeV A1 n1 c1 A2 n2 c2 A3 n3 c3 A4 n4 c4] w (RFreeQ S w) := by
  have HC := Lib.hid (fun W (hx : Ext w W) => rcheck_any A1 n1 c1 A2 n2 c2 A3 n3 c3 A4 n4 c4 S W (h.ext hx))
  replace h := Lib.hid h
  go_enter Try.func14, Try.ntmps14
  go_wp2_with fail
  generalize hw1 : (World.alloc w _) = w1
  have x1 : Ext w w1 := by rw [← hw1]; exact Ext.alloc _ _
  have r1 : w1.heap[w.heap.size]? = some (.cells #[.slice A1 n1 c1, .slice A2 n2 c2, .slice A3 n3 c3, .slice A4 n4 c4] 28 (0, 0)) := by rw [← hw1]; exact World.alloc_heap_at _ _ _ rfl
  clear hw1
  refine (HC.out w1 x1).mono ?_
  clear HC
  rintro e w2 ⟨rfl, hB⟩
  have x2 : Ext w w2 := x1.trans hB
  have r2 := row_ext r1 hB
  have k2 := cells_row r2
  clear hB r1 x1
  rcases hS : storeMay S with _ | _
  · rw [errOf_f rfl]
    replace hS := Lib.hid hS
    go_wp2_with fail
    exact rfree_ret rfl rfl rfl ⟨x2, .inl ⟨hS.out, rfl⟩⟩
  · rw [errOf_t rfl]
    go_wp2_with fail
    refine (freeFn_any A1 n1 c1 A2 n2 c2 A3 n3 c3 A4 n4 c4 w2).mono ?_
    rintro e w3 ⟨rfl, rfl⟩
    have x3 : Ext w2 (w2.alloc (.cells #[.slice A1 n1 c1, .slice A2 n2 c2, .slice A3 n3 c3, .slice A4 n4 c4] 28)) := Ext.alloc _ _
    have r3 : (w2.alloc (.cells #[.slice A1 n1 c1, .slice A2 n2 c2, .slice A3 n3 c3, .slice A4 n4 c4] 28)).heap[w2.heap.size]? = _ := World.alloc_heap_at _ _ _ rfl
    have h3 := h.out.ext (x2.trans x3)
    generalize hw3 : w2.alloc _ = w3 at *
    have s3 : w2.heap.size < w3.heap.size := (Array.getElem?_eq_some_iff.1 r3).1
    go_wp2_with fail
    refine (collect_any w2.heap.size _ _ _ _ S hS w3 s3 r3 h3).mono ?_
    rintro e w4 ⟨v, rfl, hB4, hown⟩
    obtain ⟨A, c, rfl, -, -⟩ := own_slice hown
    have HR : RFreeQ S w (.returned (.tuple #[.slice A (freeS S).length c, .int .i64 0])) w4 := ⟨Ext.trans (x2.trans x3) hB4, .inr ⟨hS, _, rfl, own_down hown (by have := (x2.trans x3).size; omega)⟩⟩
    replace HR := Lib.hid HR
    replace hown := Lib.hid hown
    replace hS := Lib.hid hS
    clear hw3 r3 r2 k2
    go_wp2_with fail
    exact rfree_ret rfl rfl rfl HR.out
end Go.Proofs.Ytlgbjpihmkeopaa
/- A drawn region in a fence, where an operation that reads no memory may come late: it is done first. -/
namespace Go.Proofs.Ytlgbjpihmkeopaa
set_option linter.unusedSimpArgs false
set_option linter.unusedVariables false
open Go.RowKit
section
variable {F0 : Fence} {P : Program} {ops : Array Oper} {n : Nat}
theorem wpOpIn_QN {Q : Exit → Act → World → Prop} {i : Nat} {a : Act} {w : World} {K K' : Act → World → Prop} (hK : ∀ a w, K a w → K' a w) (h : wpOpIn F0 n P ops (QN Q) i K a w) : wpOpIn F0 n P ops Q i K' a w := by
  unfold wpOpIn at *
  split
  · exact hK _ _ (by simpa [*] using h)
  · rename_i o ho
    simp only [ho] at h
    split
    · rename_i hw
      simp only [hw, if_true] at h
      refine ⟨h.1, ?_⟩
      replace h := h.2
      generalize (o.semAt F0.round a.eval).run P w = r at *
      cases r with
      | ok m w' =>
        cases m <;> simp only [Oper.uponIn] at h ⊢ <;>
          first
            | exact hK _ _ h
            | exact ⟨h.1, CallsIn.mono h.2 (fun e w'' he => by cases e <;> first | exact hK _ _ he | exact absurd he not_letsOut | exact False.elim he)⟩
            | exact ⟨h.1, RowsIn.mono h.2 (fun _ _ he => hK _ _ he)⟩
            | exact ⟨h.1, RoundIn.mono h.2 (fun e w'' he => by cases e <;> first | exact hK _ _ he | exact absurd he not_letsOut | exact False.elim he)⟩
      | halt x w' => cases x <;> simp only [Oper.uponIn] at h ⊢ <;> exact False.elim h
    · rename_i hw; simp only [hw] at h; exact ⟨h.1, hK _ _ h.2⟩
theorem wpAnyIn_QN {Q : Exit → Act → World → Prop} : ∀ (fuel : Nat) (listed : Array Bool) (a : Act) (w : World), wpAnyIn F0 n P .any ops (QN Q) fuel listed a w → wpAnyIn F0 n P .any ops Q fuel listed a w
  | 0, _, _, _, h => ⟨h.1, h.2⟩
  | fuel + 1, listed, a, w, h => ⟨h.1, fun i hi => wpOpIn_QN (fun a w h => wpAnyIn_QN fuel _ a w h) (h.2 i hi)⟩
theorem regionIn_start {id : Nat} {l : List Oper} {Q : Exit → Act → World → Prop} {a : Act} {w : World} (hm : P.follows .mixedOrders = true)
    (h : wpAnyIn F0 n P .any l.toArray (QN Q) l.length (Array.replicate l.length false) a w.drew) : (Code.region id l.toArray true).wpIn F0 n P Q a w :=
  wpIn_region_any hm (by simpa using wpAnyIn_QN _ _ _ _ h)
theorem anyIn_freeT {l : List Oper} {Q : Exit → Act → World → Prop} {fuel : Nat} {listed : Array Bool} {a : Act} {w W : World} (HF : WideF F0) (HN : noDefer l.toArray = true) (R : Rel) (H : Nat → Option Outs) (M : List Bool) (t : Nat)
    (hs : Region.noSelect l.toArray = true) (ht : tailT l.toArray (listedTo l.length (l.length - t)) ((maskOps 0 l M).map (·.1)) = true) (hc0 : closedB l.toArray listed = true) (hB : lexMask l.toArray (listedTo l.length (l.length - t)) ((maskOps 0 l M).map (·.1)) listed = true)
    (hseq : seqB l.toArray t (l.length - t) (listedTo l.length (l.length - t)) = true) (hfu : fuel = (maskOps 0 l M).length + t) (htl : (l.drop (l.length - t)).length = t)
    (hH : ∀ i h, H i = some h → ∀ p, StableG R (h.φ p)) (hW : R.r w W)
    (h : ∀ K : Act → Facts → Prop, (∀ a' F', (∀ W, R.r w W → (∀ k, F' k W) → wpListIn F0 n P l.toArray Q (l.drop (l.length - t)) a' W) → K a' F') → wpFreeM R P l.toArray w H K (maskOps 0 l M) a (fun _ _ => True)) : wpAnyIn F0 n P .any l.toArray Q fuel listed a W := by
  have h := h _ (fun a' F' hh => hh)
  subst hfu
  have key := wpAnyF_lexT (w0 := w) hH hs (fun _ _ h => h.step) (tailT_spec ht) (maskOps 0 l M) listed a (fun _ _ => True) (closedB_spec hc0) (fun x hx => by
    obtain ⟨j, h1, h2⟩ := maskOps_spec l M 0 x hx
    refine ⟨?_, List.mem_map.2 ⟨x, hx, rfl⟩⟩
    rw [h1, Nat.zero_add]
    simpa using h2) hB (fun _ _ _ _ _ => trivial) ⟨W, hW, fun _ => trivial⟩ (fun _ _ _ => trivial) h
  exact wpAnyIn_of_freeG HF HN (n := n) (w0 := w) hH (t := t) (Q' := Q) (fun a F W hq hW hF => by
    have := wpAnyIn_seq (F := F0) (n := n) (l.drop (l.length - t)) (l.length - t) _ a W (fun j _ => by rw [List.getElem?_drop]; simp) (by rw [htl]; exact hseq) (hq W hW hF)
    rwa [htl] at this) _ _ _ _ W (fun _ _ _ _ _ => trivial) hW (fun _ => trivial) key
end
end Go.Proofs.Ytlgbjpihmkeopaa
/- Several cells of a block, stored one behind the other. -/
namespace Go.Proofs.Ytlgbjpihmkeopaa
set_option linter.unusedSimpArgs false
set_option linter.unusedVariables false
open Go.RowKit

def setAll (w : World) (b : Nat) : Nat → List Value → World
  | _, [] => w
  | k, v :: r => setAll (w.setCell ⟨b, k, none⟩ v) b (k + 1) r
def setIfs (cs : Array Value) : Nat → List Value → Array Value
  | _, [] => cs
  | k, v :: r => setIfs (cs.setIfInBounds k v) (k + 1) r
theorem setAll_other {b g : Nat} (h : g ≠ b) : ∀ (vs : List Value) (w : World) (k : Nat), (setAll w b k vs).heap[g]? = w.heap[g]?
  | [], _, _ => rfl
  | _ :: r, w, k => (setAll_other h r _ _).trans (Below.heap_setCell _ _ _ _ h)
theorem setAll_size {b : Nat} : ∀ (vs : List Value) (w : World) (k : Nat), (setAll w b k vs).heap.size = w.heap.size
  | [], _, _ => rfl
  | _ :: r, w, k => (setAll_size r _ _).trans (by simp)
theorem setAll_below {B b : Nat} {w0 : World} (hB : B ≤ b) : ∀ (vs : List Value) (w : World) (k : Nat), Below B w0 w → Below B w0 (setAll w b k vs)
  | [], _, _, h => h
  | v :: r, w, k, h => setAll_below hB r _ _ (Below.setCell h (p := ⟨b, k, none⟩) hB v)
theorem setAll_row {b : Nat} {t : TypeId} : ∀ (vs : List Value) (w : World) (k : Nat) (cs : Array Value), w.heap[b]? = some (.cells cs t (0, 0)) → (setAll w b k vs).heap[b]? = some (.cells (setIfs cs k vs) t (0, 0))
  | [], _, _, _, h => h
  | v :: r, w, k, cs, h => setAll_row r _ _ _ (row_set h k v)
end Go.Proofs.Ytlgbjpihmkeopaa
/- Contracts: the twin of a store, of the program; a bench's store. -/
namespace Go.Proofs.Ytlgbjpihmkeopaa
set_option linter.unusedSimpArgs false
set_option linter.unusedVariables false
open Go.RowKit

def outDT (lo : Nat) (bs : List (List UInt8)) (ws : List (Int × List UInt8)) : Outs := ⟨Nat × Nat × Nat, fun p => diskV (some ⟨p.1, 0, none⟩) bs.length bs.length (some ⟨p.2.1, 0, none⟩) ws.length (ws.length + 1), fun p W => DiskT lo bs ws p.1 p.2.1 p.2.2 W⟩
theorem outDT_f (lo : Nat) (bs : List (List UInt8)) (ws : List (Int × List UInt8)) (b c g : Nat) : (outDT lo bs ws).f (b, c, g) = diskV (some ⟨b, 0, none⟩) bs.length bs.length (some ⟨c, 0, none⟩) ws.length (ws.length + 1) := rfl
theorem outDT_stable (lo : Nat) (bs : List (List UInt8)) (ws : List (Int × List UInt8)) : ∀ p, StableG extRel ((outDT lo bs ws).φ p) := fun p W W' he h => by
  have he : Ext W W' := he
  exact DiskT.keep h (Nat.le_refl _) he.size fun b _ hb => he.block b hb
def outOwn (lo : Nat) (l : List UInt8) : Outs := ⟨Option Addr × Nat, fun p => .slice p.1 l.length p.2, fun p W => W.ownsRow lo 5 1 (.slice p.1 l.length p.2) l.length (l.map bv)⟩
theorem outOwn_f (lo : Nat) (l : List UInt8) (A : Option Addr) (c : Nat) : (outOwn lo l).f (A, c) = .slice A l.length c := rfl
theorem outOwn_stable (lo : Nat) (l : List UInt8) : ∀ p, StableG extRel ((outOwn lo l).φ p) := fun p W W' he h => own_ext h he
theorem own_keep {w w' : World} {lo : Nat} {e : TypeId} {size : Nat} {v : Value} {n : Nat} {xs : List Value} (h : w.ownsRow lo e size v n xs) (hk : ∀ b, lo ≤ b → b < w.heap.size → w'.heap[b]? = w.heap[b]?) : w'.ownsRow lo e size v n xs :=
  ⟨h.1, h.2.imp id fun ⟨g, cap, cur, h1, h2, h3, h4⟩ => ⟨g, cap, cur, h1, h2, (hk g h2 (Array.getElem?_eq_some_iff.1 h3).1).trans h3, h4⟩⟩
def TwinT (lo : Nat) (S : Sto) (u : Value) (W : World) : Prop := ∃ BB WW g A3 c3 A4 c4, u = storeV (some ⟨BB, 0, none⟩) S.bs.length S.bs.length (some ⟨WW, 0, none⟩) S.ws.length (S.ws.length + 1) A3 S.now.length c3 A4 S.last.length c4 ∧ DiskT lo S.bs S.ws BB WW g W ∧
  W.ownsRow lo 5 1 (.slice A3 S.now.length c3) S.now.length (S.now.map bv) ∧ W.ownsRow lo 5 1 (.slice A4 S.last.length c4) S.last.length (S.last.map bv)
theorem TwinT.keep {lo lo' : Nat} {S : Sto} {u : Value} {W W2 : World} (h : TwinT lo S u W) (hl : lo' ≤ lo) (hs : W.heap.size ≤ W2.heap.size) (hk : ∀ b, lo ≤ b → b < W.heap.size → W2.heap[b]? = W.heap[b]?) : TwinT lo' S u W2 := by
  obtain ⟨BB, WW, g, A3, c3, A4, c4, e, h1, h2, h3⟩ := h
  exact ⟨BB, WW, g, A3, c3, A4, c4, e, h1.keep hl hs hk, own_mono (own_keep h2 hk) hl, own_mono (own_keep h3 hk) hl⟩
theorem TwinT.twin {lo : Nat} {S : Sto} {u : Value} {W : World} (h : TwinT lo S u W) (hS : Short S) : TwinS lo S u W := by
  obtain ⟨BB, WW, g, A3, c3, A4, c4, e, h1, h2, h3⟩ := h
  refine ⟨_, _, _, _, A3, c3, A4, c4, e, fun W2 hk => ?_⟩
  obtain ⟨k1, k2⟩ := h1.reads hS.bs hS.ws hS.be hS.we W2 hk
  exact ⟨k1, k2, (Bys.of_own h2).keepN (From.of_own h2) hk, (Bys.of_own h3).keepN (From.of_own h3) hk⟩
theorem TwinS.sto {lo : Nat} {S : Sto} {u : Value} {W : World} (h : TwinS lo S u W) : ∃ A1 c1 A2 c2 A3 c3 A4 c4, u = storeV A1 S.bs.length c1 A2 S.ws.length c2 A3 S.now.length c3 A4 S.last.length c4 ∧ StoAt W W.heap.size (.slice A1 S.bs.length c1) (.slice A2 S.ws.length c2) (.slice A3 S.now.length c3) (.slice A4 S.last.length c4) S := by
  obtain ⟨A1, c1, A2, c2, A3, c3, A4, c4, e, h1⟩ := h
  exact ⟨A1, c1, A2, c2, A3, c3, A4, c4, e, h1 W fun _ _ _ => rfl⟩

set_option maxHeartbeats 2000000 in
set_option maxRecDepth 100000 in
theorem rtwin_any (A1 : Option Addr) (n1 c1 : Nat) (A2 : Option Addr) (n2 c2 : Nat) (A3 : Option Addr) (n3 c3 : Nat) (A4 : Option Addr) (n4 c4 : Nat) (S : Sto) (hS : Short S) (w : World) (h : StoAt w w.heap.size (.slice A1 n1 c1) (.slice A2 n2 c2) (.slice A3 n3 c3) (.slice A4 n4 c4) S) :
    Calls Try.prog 67 #[storeV A1 n1 c1 A2 n2 c2 A3 n3 c3 A4 n4 c4] w (RetS (TwinT w.heap.size S) w) := by
  have HD := Lib.hid (fun W (hW : Ext w W) => dtwin_any A1 n1 c1 A2 n2 c2 S.bs S.ws hS.bs hS.ws hS.be hS.we W (h.ext hW).bs (h.ext hW).ws)
  have HN := Lib.hid (fun W (hW : Ext w W) => bclone_any _ S.now (by have := hS.now; omega) W (h.ext hW).now)
  have HL := Lib.hid (fun W (hW : Ext w W) => bclone_any _ S.last (by have := hS.last; omega) W (h.ext hW).last)
  clear h hS
  go_enter Try.func67, Try.ntmps67
  go_wp2_with fail
  generalize hw1 : (World.alloc (World.alloc _ _) _) = w1
  have x1 : Ext w w1 := by rw [← hw1]; exact (Ext.alloc _ _).trans (Ext.alloc _ _)
  have r1 : w1.heap[w.heap.size]? = some (.cells #[.slice A1 n1 c1, .slice A2 n2 c2, .slice A3 n3 c3, .slice A4 n4 c4] 28 (0, 0)) := by rw [← hw1]; exact (Below.heap_alloc _ _ _ (by simp)).trans (World.alloc_heap_at _ _ _ rfl)
  have q1 : w1.heap[w.heap.size + 1]? = some (.cells #[.slice none 0 0, .slice none 0 0, .slice none 0 0, .slice none 0 0] 28 (0, 0)) := by rw [← hw1]; exact World.alloc_heap_at _ _ _ (by simp)
  clear hw1
  have g1 : ∀ W, extRel.r w1 W → ∀ i, W.cell? ⟨w.heap.size, i, none⟩ = #[.slice A1 n1 c1, .slice A2 n2 c2, .slice A3 n3 c3, .slice A4 n4 c4][i]? := fun W h => cells_row (row_ext r1 h)
  refine region_start (by kernel_rfl) ?_
  refine any_freeT (w := w1) extRel (outsAt [(2, outDT w1.heap.size S.bs S.ws), (5, outOwn w1.heap.size S.now), (8, outOwn w1.heap.size S.last)])
    [true, true, true, true, true, true, true, true, true, true] 1 (by kernel_rfl) (by kernel_rfl) (by kernel_rfl) (by kernel_rfl) (by kernel_rfl) (by kernel_rfl) (by kernel_rfl) ?st (Rel.drew _ _) ?walk
  case st => exact outsAt_stableG (by simp only [List.forall_mem_cons]; exact ⟨outDT_stable _ _ _, outOwn_stable _ _, outOwn_stable _ _, fun _ h => by cases h⟩)
  case walk =>
    intro K hK
    dsimp only [maskOps]
    repeat ((first | (refine free_plainM ?_ (by rfl) (by rfl) (fun W hW _ => ⟨W, ?_, Rel.refl _ W⟩) ?_; rotate_left; (first | (go_simp; with_reducible rfl) | (go_simp; done))) | (refine free_skipM (by rfl) ?_)); try simp only [Act.put, one_f, outB_f, outNew_f, outI_f, outDT_f, outOwn_f, List.setIfInBounds_toArray, List.set_cons_zero, List.set_cons_succ])
    refine free_hardM (outDT w1.heap.size S.bs S.ws) (by rfl) (by rfl) (fun W hW _ => ?_) (fun p => ?_)
    · refine hardAt_callG ?_ ((HD.out W (Ext.trans x1 hW)).mono fun e w' h => ?_)
      · go_simp
      have hW : Ext w1 W := hW
      obtain ⟨b, c, g, rfl, h1, hB⟩ := h
      exact ⟨(b, c, g), rfl, h1.keep hW.size (Nat.le_refl _) (fun _ _ _ => rfl), hB⟩
    obtain ⟨bb, cc, gg⟩ := p
    simp only [Act.put, one_f, outB_f, outNew_f, outI_f, outDT_f, outOwn_f, List.setIfInBounds_toArray, List.set_cons_zero, List.set_cons_succ]
    repeat ((first | (refine free_plainM ?_ (by rfl) (by rfl) (fun W hW _ => ⟨W, ?_, Rel.refl _ W⟩) ?_; rotate_left; (first | (go_simp; with_reducible rfl) | (go_simp; done))) | (refine free_skipM (by rfl) ?_)); try simp only [Act.put, one_f, outB_f, outNew_f, outI_f, outDT_f, outOwn_f, List.setIfInBounds_toArray, List.set_cons_zero, List.set_cons_succ])
    refine free_hardM (outOwn w1.heap.size S.now) (by rfl) (by rfl) (fun W hW _ => ?_) (fun p => ?_)
    · refine hardAt_callG ?_ ((HN.out W (Ext.trans x1 hW)).mono fun e w' h => ?_)
      · go_simp
      have hW : Ext w1 W := hW
      obtain ⟨u, rfl, hu, hB⟩ := h
      obtain ⟨A, c, rfl, _, _⟩ := own_slice hu
      exact ⟨(A, c), rfl, own_mono hu hW.size, hB⟩
    obtain ⟨B3, d3⟩ := p
    simp only [Act.put, one_f, outB_f, outNew_f, outI_f, outDT_f, outOwn_f, List.setIfInBounds_toArray, List.set_cons_zero, List.set_cons_succ]
    repeat ((first | (refine free_plainM ?_ (by rfl) (by rfl) (fun W hW _ => ⟨W, ?_, Rel.refl _ W⟩) ?_; rotate_left; (first | (go_simp; with_reducible rfl) | (go_simp; done))) | (refine free_skipM (by rfl) ?_)); try simp only [Act.put, one_f, outB_f, outNew_f, outI_f, outDT_f, outOwn_f, List.setIfInBounds_toArray, List.set_cons_zero, List.set_cons_succ])
    refine free_hardM (outOwn w1.heap.size S.last) (by rfl) (by rfl) (fun W hW _ => ?_) (fun p => ?_)
    · refine hardAt_callG ?_ ((HL.out W (Ext.trans x1 hW)).mono fun e w' h => ?_)
      · go_simp
      have hW : Ext w1 W := hW
      obtain ⟨u, rfl, hu, hB⟩ := h
      obtain ⟨A, c, rfl, _, _⟩ := own_slice hu
      exact ⟨(A, c), rfl, own_mono hu hW.size, hB⟩
    obtain ⟨B4, d4⟩ := p
    simp only [Act.put, one_f, outB_f, outNew_f, outI_f, outDT_f, outOwn_f, List.setIfInBounds_toArray, List.set_cons_zero, List.set_cons_succ]
    repeat ((first | (refine free_plainM ?_ (by rfl) (by rfl) (fun W hW _ => ⟨W, ?_, Rel.refl _ W⟩) ?_; rotate_left; (first | (go_simp; with_reducible rfl) | (go_simp; done))) | (refine free_skipM (by rfl) ?_)); try simp only [Act.put, one_f, outB_f, outNew_f, outI_f, outDT_f, outOwn_f, List.setIfInBounds_toArray, List.set_cons_zero, List.set_cons_succ])
    refine free_nilM (hK _ _ fun W hW hF => ?_)
    have hD : DiskT w1.heap.size S.bs S.ws bb cc gg W := (hF 2).1
    have hN : W.ownsRow w1.heap.size 5 1 (.slice B3 S.now.length d3) S.now.length (S.now.map bv) := (hF 5).1
    have hL : W.ownsRow w1.heap.size 5 1 (.slice B4 S.last.length d4) S.last.length (S.last.map bv) := (hF 8).1
    have hW : Ext w1 W := hW
    clear hF hK g1
    dsimp only [List.drop, List.length_cons, List.length_nil]
    have qW := row_ext q1 hW
    have kW := cells_row qW
    have fW := frozen_row qW
    have hz : w.heap.size + 1 < w1.heap.size := (Array.getElem?_eq_some_iff.1 q1).1
    have P5 : ∀ wx : World, wx = setAll W (w.heap.size + 1) 0 [.slice (some ⟨bb, 0, none⟩) S.bs.length S.bs.length, .slice (some ⟨cc, 0, none⟩) S.ws.length (S.ws.length + 1), .slice B3 S.now.length d3, .slice B4 S.last.length d4] →
        wx.heap[w.heap.size + 1]? = some (.cells #[.slice (some ⟨bb, 0, none⟩) S.bs.length S.bs.length, .slice (some ⟨cc, 0, none⟩) S.ws.length (S.ws.length + 1), .slice B3 S.now.length d3, .slice B4 S.last.length d4] 28 (0, 0)) ∧ Below w.heap.size w wx ∧
          TwinT w.heap.size S (storeV (some ⟨bb, 0, none⟩) S.bs.length S.bs.length (some ⟨cc, 0, none⟩) S.ws.length (S.ws.length + 1) B3 S.now.length d3 B4 S.last.length d4) wx := fun wx e => by
      have hk : ∀ b, w1.heap.size ≤ b → b < W.heap.size → wx.heap[b]? = W.heap[b]? := fun b h1 _ => by rw [e]; exact setAll_other (by omega) _ _ _
      have hs : W.heap.size ≤ wx.heap.size := by rw [e, setAll_size]; exact Nat.le_refl _
      refine ⟨by rw [e]; refine (setAll_row _ _ _ _ qW).trans ?_; simp [setIfs], by rw [e]; exact setAll_below (Nat.le_succ _) _ _ _ (Ext.trans x1 hW), bb, cc, gg, B3, d3, B4, d4, rfl, hD.keep (by omega) hs hk, own_mono (own_keep hN hk) (by omega), own_mono (own_keep hL hk) (by omega)⟩
    replace P5 := Lib.hid P5
    clear hD hN hL qW hW
    go_wp2
    refine QN_in ?_
    go_wp2_with fail
    have P5 := P5.out
    generalize hw5 : World.setCell (World.setCell (World.setCell (World.setCell W _ _) _ _) _ _) _ _ = w5
    obtain ⟨r5, x5, h5⟩ := P5 w5 hw5.symm
    clear P5 hw5
    have k5 := cells_row r5
    exact bodyPost_ret (v := storeV (some ⟨bb, 0, none⟩) S.bs.length S.bs.length (some ⟨cc, 0, none⟩) S.ws.length (S.ws.length + 1) B3 S.now.length d3 B4 S.last.length d4) (by simp [results, Try.results67, go_sem, k5]) rfl ⟨_, rfl, h5, x5⟩

set_option maxHeartbeats 1000000 in
set_option maxRecDepth 100000 in
theorem bstore_any (b : Nat) (A1 : Option Addr) (n1 c1 : Nat) (A2 : Option Addr) (n2 c2 : Nat) (A3 : Option Addr) (n3 c3 : Nat) (A4 : Option Addr) (n4 c4 : Nat) (S : Sto) (hS : Short S) (w : World) (hr : w.heap[b]? = some (.cells #[.slice A1 n1 c1, .slice A2 n2 c2, .slice A3 n3 c3, .slice A4 n4 c4] 169 (0, 0)))
    (h : StoAt w w.heap.size (.slice A1 n1 c1) (.slice A2 n2 c2) (.slice A3 n3 c3) (.slice A4 n4 c4) S) :
    Calls Try.prog 100 #[.pointer (some ⟨b, 0, none⟩)] w (RetS (TwinT w.heap.size S) w) := by
  have HT := Lib.hid (fun W (hW : Ext w W) => rtwin_any A1 n1 c1 A2 n2 c2 A3 n3 c3 A4 n4 c4 S hS W (h.ext hW))
  clear h hS
  have k0 := cells_row hr
  have zb : b < w.heap.size := (Array.getElem?_eq_some_iff.1 hr).1
  go_enter Try.func100, Try.ntmps100
  go_wp2_with fail
  generalize hw1 : World.alloc _ _ = w1
  have x1 : Ext w w1 := by rw [← hw1]; exact Ext.alloc _ _
  have q1 : w1.heap[w.heap.size]? = some (.cells #[.slice none 0 0, .slice none 0 0, .slice none 0 0, .slice none 0 0] 28 (0, 0)) := by rw [← hw1]; exact World.alloc_heap_at _ _ _ (by simp)
  clear hw1 k0
  refine (HT.out w1 x1).mono ?_
  rintro e w2 ⟨u, rfl, hT, hB⟩
  have hB : Ext w1 w2 := hB
  have q2 := row_ext q1 hB
  have kq := cells_row q2
  have fq := frozen_row q2
  have z1 : w.heap.size < w1.heap.size := (Array.getElem?_eq_some_iff.1 q1).1
  obtain ⟨BB, WW, g, B3, d3, B4, d4, rfl, hD, hN, hL⟩ := hT
  have P5 : ∀ wx : World, wx = setAll w2 w.heap.size 0 [.slice (some ⟨BB, 0, none⟩) S.bs.length S.bs.length, .slice (some ⟨WW, 0, none⟩) S.ws.length (S.ws.length + 1), .slice B3 S.now.length d3, .slice B4 S.last.length d4] →
      wx.heap[w.heap.size]? = some (.cells #[.slice (some ⟨BB, 0, none⟩) S.bs.length S.bs.length, .slice (some ⟨WW, 0, none⟩) S.ws.length (S.ws.length + 1), .slice B3 S.now.length d3, .slice B4 S.last.length d4] 28 (0, 0)) ∧ Below w.heap.size w wx ∧
        TwinT w.heap.size S (storeV (some ⟨BB, 0, none⟩) S.bs.length S.bs.length (some ⟨WW, 0, none⟩) S.ws.length (S.ws.length + 1) B3 S.now.length d3 B4 S.last.length d4) wx := fun wx e => by
    have hk : ∀ b, w1.heap.size ≤ b → b < w2.heap.size → wx.heap[b]? = w2.heap[b]? := fun b h1 _ => by rw [e]; exact setAll_other (by omega) _ _ _
    have hs : w2.heap.size ≤ wx.heap.size := by rw [e, setAll_size]; exact Nat.le_refl _
    refine ⟨by rw [e]; refine (setAll_row _ _ _ _ q2).trans ?_; simp [setIfs], by rw [e]; exact setAll_below (Nat.le_refl _) _ _ _ (x1.trans hB), BB, WW, g, B3, d3, B4, d4, rfl, hD.keep (by omega) hs hk, own_mono (own_keep hN hk) (by omega), own_mono (own_keep hL hk) (by omega)⟩
  replace P5 := Lib.hid P5
  clear hD hN hL q2 hB q1
  go_wp2_with fail
  have P5 := P5.out
  generalize hw5 : World.setCell (World.setCell (World.setCell (World.setCell w2 _ _) _ _) _ _) _ _ = w5
  obtain ⟨r5, x5, h5⟩ := P5 w5 hw5.symm
  clear P5 hw5
  have k5 := cells_row r5
  exact bodyPost_ret (v := storeV (some ⟨BB, 0, none⟩) S.bs.length S.bs.length (some ⟨WW, 0, none⟩) S.ws.length (S.ws.length + 1) B3 S.now.length d3 B4 S.last.length d4) (by simp [results, Try.results100, go_sem, k5]) rfl ⟨_, rfl, h5, x5⟩
end Go.Proofs.Ytlgbjpihmkeopaa
/- Contracts: a bench with its own counts. -/
namespace Go.Proofs.Ytlgbjpihmkeopaa
set_option linter.unusedSimpArgs false
set_option linter.unusedVariables false
open Go.RowKit

theorem own_set {w : World} {lo g n c k : Nat} {l : List UInt8} (h : w.ownsRow lo 5 1 (.slice (some ⟨g, 0, none⟩) n c) n (l.map bv)) (hk : k < n) (x : UInt8) : (w.setCell ⟨g, k, none⟩ (bv x)).ownsRow lo 5 1 (.slice (some ⟨g, 0, none⟩) n c) n ((l.set k x).map bv) := by
  obtain ⟨h1, h2⟩ := h
  rcases h2 with ⟨e, _⟩ | ⟨g', cap, cur, e, hg, hr, hc, hm, hs, ht⟩
  · cases e
  · cases e
    have hk2 : k < cur.size := by omega
    refine ⟨by simpa using h1, .inr ⟨g, c, _, rfl, hg, row_set hr k _, hc, hm, by simpa using hs, ?_⟩⟩
    apply List.ext_getElem?
    intro i
    rw [List.map_set, ← ht, List.getElem?_take, List.getElem?_set, List.getElem?_take]
    simp only [Nat.mul_one, Array.getElem?_toList, Array.getElem?_setIfInBounds, List.length_take, Array.length_toList]
    by_cases hi : i < n
    · rw [if_pos hi, if_pos hi]
      by_cases e : k = i
      · subst e
        rw [if_pos rfl, if_pos rfl, if_pos hk2, if_pos (by omega)]
      · rw [if_neg e, if_neg e]
    · rw [if_neg hi, if_neg hi, if_neg (by omega)]
theorem own_ext' {w : World} {lo g n c b k : Nat} {l : List UInt8} {v : Value} (h : w.ownsRow lo 5 1 (.slice (some ⟨g, 0, none⟩) n c) n (l.map bv)) (hg : g ≠ b) : (w.setCell ⟨b, k, none⟩ v).ownsRow lo 5 1 (.slice (some ⟨g, 0, none⟩) n c) n (l.map bv) := by
  obtain ⟨h1, h2⟩ := h
  refine ⟨h1, h2.imp id fun ⟨g', cap, cur, e, h3, h4, h5⟩ => ?_⟩
  cases e
  exact ⟨g, c, cur, rfl, h3, (Below.heap_setCell _ _ _ _ hg).trans h4, h5⟩
theorem own_cells {w : World} {lo g n c : Nat} {l : List UInt8} (h : w.ownsRow lo 5 1 (.slice (some ⟨g, 0, none⟩) n c) n (l.map bv)) : (∀ k, k < n → w.cell? ⟨g, k, none⟩ = some (.int .u8 ((l[k]?.getD 0).toNat : Int))) ∧ (∀ k, w.frozen? ⟨g, k, none⟩ = false) ∧ lo ≤ g ∧ g < w.heap.size := by
  have h1 := h.1
  obtain ⟨h0, h2⟩ := h
  rcases h2 with ⟨e, _⟩ | ⟨g', cap, cur, e, hg, hr, hc, hm, hs, ht⟩
  · cases e
  · cases e
    refine ⟨fun k hk => ?_, frozen_row hr, hg, (Array.getElem?_eq_some_iff.1 hr).1⟩
    have hl : l.length = n := by simpa using h1
    have hkl : k < l.length := by omega
    have e2 : (l.map bv)[k]? = some (bv l[k]) := by rw [List.getElem?_map, List.getElem?_eq_getElem hkl]; rfl
    rw [← ht, List.getElem?_take, if_pos (by omega)] at e2
    have e3 : cur[k]? = cur.toList[k]? := by simp
    rw [cells_row hr, e3, e2, List.getElem?_eq_getElem hkl]
    rfl

set_option maxHeartbeats 2000000 in
set_option maxRecDepth 100000 in
theorem on_own (A1 : Option Addr) (n1 c1 : Nat) (A2 : Option Addr) (n2 c2 : Nat) (A3 : Option Addr) (n3 c3 : Nat) (A4 : Option Addr) (n4 c4 : Nat) (S : Sto) (hl : S.now.length < 1073741824) (w : World) (h : StoAt w w.heap.size (.slice A1 n1 c1) (.slice A2 n2 c2) (.slice A3 n3 c3) (.slice A4 n4 c4) S) :
    Calls Try.prog 76 #[storeV A1 n1 c1 A2 n2 c2 A3 n3 c3 A4 n4 c4] w (RetS (fun u W => ∃ b A3' c3', u = .pointer (some ⟨b, 0, none⟩) ∧ w.heap.size ≤ b ∧ W.heap[b]? = some (.cells #[.slice A1 n1 c1, .slice A2 n2 n2, .slice A3' n3 c3', .slice A4 n4 c4] 169 (0, 0)) ∧ W.ownsRow w.heap.size 5 1 (.slice A3' n3 c3') n3 (S.now.map bv)) w) := by
  have hn3 : Hid (n3 = S.now.length) := Lib.hid h.now.at_.1
  obtain ⟨-, h2a, h2b, -⟩ := h.ws.at_
  have HC := Lib.hid (fun W (hW : Ext w W) => bclone_any (.slice A3 n3 c3) S.now hl W (h.ext hW).now)
  clear h
  go_enter Try.func76, Try.ntmps76
  go_wp2_with fail
  generalize hw1 : (World.alloc _ _) = w1
  have x1 : Ext w w1 := by rw [← hw1]; exact Ext.alloc _ _
  have r1 : w1.heap[w.heap.size]? = some (.cells #[.slice A1 n1 c1, .slice A2 n2 c2, .slice A3 n3 c3, .slice A4 n4 c4] 28 (0, 0)) := by rw [← hw1]; exact World.alloc_heap_at _ _ _ rfl
  clear hw1
  refine (HC.out _ x1).mono ?_
  rintro e w2 ⟨u, rfl, hu, hB⟩
  have x2 := x1.trans hB
  have r2 := row_ext r1 hB
  have s1 : w.heap.size < w1.heap.size := (Array.getElem?_eq_some_iff.1 r1).1
  obtain ⟨A3', c3', rfl, _, _⟩ := own_slice hu
  have k2 := cells_row r2
  have f2 := frozen_row r2
  clear hB r1 HC
  rw [← hn3.out] at hu ⊢
  go_wp2_with fail
  have hu3 := own_keep (w' := w2.setCell ⟨w.heap.size, 2, none⟩ (.slice A3' n3 c3')) hu (fun b hb _ => Below.heap_setCell _ _ _ _ (by show b ≠ w.heap.size; omega))
  generalize hw3 : (World.setCell _ _ _) = w3 at *
  have x3 : Ext w w3 := by rw [← hw3]; exact Below.setCell x2 (p := ⟨w.heap.size, 2, none⟩) (Nat.le_refl _) _
  have r3 : w3.heap[w.heap.size]? = some (.cells #[.slice A1 n1 c1, .slice A2 n2 c2, .slice A3' n3 c3', .slice A4 n4 c4] 28 (0, 0)) := by rw [← hw3]; exact row_set r2 2 _
  clear hw3 k2 f2 r2 x2 hu
  refine (clip_any A2 n2 c2 h2a h2b _).mono ?_
  rintro e w4 ⟨rfl, hB⟩
  have x4 := x3.trans hB
  have r4 := row_ext r3 hB
  have hu4 := own_ext hu3 hB
  have k4 := cells_row r4
  have f4 := frozen_row r4
  have s4 : w.heap.size < w4.heap.size := (Array.getElem?_eq_some_iff.1 r4).1
  clear hB r3 x3 hu3
  replace hu4 := Lib.hid hu4
  go_wp2
  have hu5 := own_keep (w' := w4.setCell ⟨w.heap.size, 1, none⟩ (.slice A2 n2 n2)) hu4.out (fun b hb _ => Below.heap_setCell _ _ _ _ (by show b ≠ w.heap.size; omega))
  have bf : Below w.heap.size w ((w4.setCell ⟨w.heap.size, 1, none⟩ (.slice A2 n2 n2)).alloc (.cells #[.slice A1 n1 c1, .slice A2 n2 n2, .slice A3' n3 c3', .slice A4 n4 c4] 169)) := by
    have x4' : Below w.heap.size w w4 := x4
    exact (by repeat' (first | with_reducible exact Below.refl _ _ | with_reducible assumption | with_reducible apply Below.drew | with_reducible apply below_drewN | with_reducible refine Below.alloc ?_ ?_ _ | with_reducible refine Below.setCell ?_ ?_ _ | (simp; done) | (simp; omega) | omega))
  go_ret
  exact ⟨_, rfl, ⟨w4.heap.size, A3', c3', rfl, by omega, World.alloc_heap_at _ _ _ (by simp), own_mono (own_ext hu5 (Ext.alloc _ _)) (by omega)⟩, bf⟩
end Go.Proofs.Ytlgbjpihmkeopaa
/- Contracts: a count more. -/
namespace Go.Proofs.Ytlgbjpihmkeopaa
set_option linter.unusedSimpArgs false
set_option linter.unusedVariables false
open Go.RowKit

def cntN (t : List UInt8) (a : Nat) : Nat := (t[a]?.getD 0).toNat
def turned (t : List UInt8) (a by_ : Nat) : List UInt8 := t.set a (UInt8.ofNat (cntN t a + by_))
end Go.Proofs.Ytlgbjpihmkeopaa
/- Contracts: a block that is referred to once more. -/
namespace Go.Proofs.Ytlgbjpihmkeopaa
set_option linter.unusedSimpArgs false
set_option linter.unusedVariables false
open Go.RowKit

theorem short_of_may {S : Sto} (h : storeMay S = true) : Short S := by
  obtain ⟨h1, h2, h3, h4⟩ := storeMay_len h
  have hd : diskMay S.bs S.ws = true := by unfold storeMay at h; simp at h; exact h.1
  obtain ⟨d1, d2, d3, d4⟩ := diskMay_short hd
  exact ⟨d1, d2, d3, d4, by omega, by omega⟩
end Go.Proofs.Ytlgbjpihmkeopaa
/- Contracts: the twin of a disk. -/
namespace Go.Proofs.Ytlgbjpihmkeopaa
set_option linter.unusedSimpArgs false
set_option linter.unusedVariables false
open Go.RowKit

end Go.Proofs.Ytlgbjpihmkeopaa
/- Contracts: the twin of a store. -/
namespace Go.Proofs.Ytlgbjpihmkeopaa
set_option linter.unusedSimpArgs false
set_option linter.unusedVariables false
open Go.RowKit

end Go.Proofs.Ytlgbjpihmkeopaa
/- Contracts: a block taken: written into the first that is free. -/
namespace Go.Proofs.Ytlgbjpihmkeopaa
set_option linter.unusedSimpArgs false
set_option linter.unusedVariables false
open Go.RowKit Go.Shelf
attribute [local go_sem] Oper.semAt_some

theorem KeepsOthers.of_ext {W W' : World} (h : Ext W W') : KeepsOthers W W' := ⟨h.size, fun k _ hk _ => (h.block k (Array.getElem?_eq_some_iff.1 hk).1).trans hk⟩

end Go.Proofs.Ytlgbjpihmkeopaa
