/- Texts RTwin, OnOwn, Up, DWrite, joined. -/
import Derived.Test.YtlgbjpihmkeopaaU05
import Derived.Test.YtlgbjpihmkeopaaU07
import Derived.Test.YtlgbjpihmkeopaaU14
import Derived.Test.YtlgbjpihmkeopaaU17
/- Contracts: the twin of a store, of the program; a bench's store. -/
namespace Go.Proofs.Ytlgbjpihmkeopaa
set_option linter.unusedSimpArgs false
set_option linter.unusedVariables false
open Go.RowKit

def outDT (lo : Nat) (bs : List (List UInt8)) (ws : List (Int × List UInt8)) : Outs := ⟨Nat × Nat × Nat, fun p => diskV (some ⟨p.1, 0, none⟩) bs.length bs.length (some ⟨p.2.1, 0, none⟩) ws.length (ws.length + 1), fun p W => DiskT lo bs ws p.1 p.2.1 p.2.2 W⟩
theorem outDT_f (lo : Nat) (bs : List (List UInt8)) (ws : List (Int × List UInt8)) (b c g : Nat) : (outDT lo bs ws).f (b, c, g) = diskV (some ⟨b, 0, none⟩) bs.length bs.length (some ⟨c, 0, none⟩) ws.length (ws.length + 1) := rfl
theorem outDT_stable (lo : Nat) (bs : List (List UInt8)) (ws : List (Int × List UInt8)) : ∀ p, StableG extRel ((outDT lo bs ws).φ p) := fun p W W' he h => by
  have he : Ext W W' := he
  exact DiskT.keep h (Nat.le_refl _) he.size fun b _ hb => he.block b hb
def outOwn (lo : Nat) (l : List UInt8) : Outs := ⟨Option Addr × Nat, fun p => .slice p.1 l.length p.2, fun p W => W.ownsRow lo 5 1 (.slice p.1 l.length p.2) l.length (l.map bv)⟩
theorem outOwn_f (lo : Nat) (l : List UInt8) (A : Option Addr) (c : Nat) : (outOwn lo l).f (A, c) = .slice A l.length c := rfl
theorem outOwn_stable (lo : Nat) (l : List UInt8) : ∀ p, StableG extRel ((outOwn lo l).φ p) := fun p W W' he h => own_ext h he
theorem own_keep {w w' : World} {lo : Nat} {e : TypeId} {size : Nat} {v : Value} {n : Nat} {xs : List Value} (h : w.ownsRow lo e size v n xs) (hk : ∀ b, lo ≤ b → b < w.heap.size → w'.heap[b]? = w.heap[b]?) : w'.ownsRow lo e size v n xs :=
  ⟨h.1, h.2.imp id fun ⟨g, cap, cur, h1, h2, h3, h4⟩ => ⟨g, cap, cur, h1, h2, (hk g h2 (Array.getElem?_eq_some_iff.1 h3).1).trans h3, h4⟩⟩
def TwinT (lo : Nat) (S : Sto) (u : Value) (W : World) : Prop := ∃ BB WW g A3 c3 A4 c4, u = storeV (some ⟨BB, 0, none⟩) S.bs.length S.bs.length (some ⟨WW, 0, none⟩) S.ws.length (S.ws.length + 1) A3 S.now.length c3 A4 S.last.length c4 ∧ DiskT lo S.bs S.ws BB WW g W ∧
  W.ownsRow lo 5 1 (.slice A3 S.now.length c3) S.now.length (S.now.map bv) ∧ W.ownsRow lo 5 1 (.slice A4 S.last.length c4) S.last.length (S.last.map bv)
theorem TwinT.keep {lo lo' : Nat} {S : Sto} {u : Value} {W W2 : World} (h : TwinT lo S u W) (hl : lo' ≤ lo) (hs : W.heap.size ≤ W2.heap.size) (hk : ∀ b, lo ≤ b → b < W.heap.size → W2.heap[b]? = W.heap[b]?) : TwinT lo' S u W2 := by
  obtain ⟨BB, WW, g, A3, c3, A4, c4, e, h1, h2, h3⟩ := h
  exact ⟨BB, WW, g, A3, c3, A4, c4, e, h1.keep hl hs hk, own_mono (own_keep h2 hk) hl, own_mono (own_keep h3 hk) hl⟩
theorem TwinT.twin {lo : Nat} {S : Sto} {u : Value} {W : World} (h : TwinT lo S u W) (hS : Short S) : TwinS lo S u W := by
  obtain ⟨BB, WW, g, A3, c3, A4, c4, e, h1, h2, h3⟩ := h
  refine ⟨_, _, _, _, A3, c3, A4, c4, e, fun W2 hk => ?_⟩
  obtain ⟨k1, k2⟩ := h1.reads hS.bs hS.ws hS.be hS.we W2 hk
  exact ⟨k1, k2, (Bys.of_own h2).keepN (From.of_own h2) hk, (Bys.of_own h3).keepN (From.of_own h3) hk⟩
theorem TwinS.sto {lo : Nat} {S : Sto} {u : Value} {W : World} (h : TwinS lo S u W) : ∃ A1 c1 A2 c2 A3 c3 A4 c4, u = storeV A1 S.bs.length c1 A2 S.ws.length c2 A3 S.now.length c3 A4 S.last.length c4 ∧ StoAt W W.heap.size (.slice A1 S.bs.length c1) (.slice A2 S.ws.length c2) (.slice A3 S.now.length c3) (.slice A4 S.last.length c4) S := by
  obtain ⟨A1, c1, A2, c2, A3, c3, A4, c4, e, h1⟩ := h
  exact ⟨A1, c1, A2, c2, A3, c3, A4, c4, e, h1 W fun _ _ _ => rfl⟩

set_option maxHeartbeats 2000000 in
set_option maxRecDepth 100000 in
theorem rtwin_any (A1 : Option Addr) (n1 c1 : Nat) (A2 : Option Addr) (n2 c2 : Nat) (A3 : Option Addr) (n3 c3 : Nat) (A4 : Option Addr) (n4 c4 : Nat) (S : Sto) (hS : Short S) (w : World) (h : StoAt w w.heap.size (.slice A1 n1 c1) (.slice A2 n2 c2) (.slice A3 n3 c3) (.slice A4 n4 c4) S) :
    Calls Try.prog 67 #[storeV A1 n1 c1 A2 n2 c2 A3 n3 c3 A4 n4 c4] w (RetS (TwinT w.heap.size S) w) := by
  have HD := Lib.hid (fun W (hW : Ext w W) => dtwin_any A1 n1 c1 A2 n2 c2 S.bs S.ws hS.bs hS.ws hS.be hS.we W (h.ext hW).bs (h.ext hW).ws)
  have HN := Lib.hid (fun W (hW : Ext w W) => bclone_any _ S.now (by have := hS.now; omega) W (h.ext hW).now)
  have HL := Lib.hid (fun W (hW : Ext w W) => bclone_any _ S.last (by have := hS.last; omega) W (h.ext hW).last)
  clear h hS
  go_enter Try.func67, Try.ntmps67
  go_wp2_with fail
  generalize hw1 : (World.alloc (World.alloc _ _) _) = w1
  have x1 : Ext w w1 := by rw [← hw1]; exact (Ext.alloc _ _).trans (Ext.alloc _ _)
  have r1 : w1.heap[w.heap.size]? = some (.cells #[.slice A1 n1 c1, .slice A2 n2 c2, .slice A3 n3 c3, .slice A4 n4 c4] 28 (0, 0)) := by rw [← hw1]; exact (Below.heap_alloc _ _ _ (by simp)).trans (World.alloc_heap_at _ _ _ rfl)
  have q1 : w1.heap[w.heap.size + 1]? = some (.cells #[.slice none 0 0, .slice none 0 0, .slice none 0 0, .slice none 0 0] 28 (0, 0)) := by rw [← hw1]; exact World.alloc_heap_at _ _ _ (by simp)
  clear hw1
  have g1 : ∀ W, extRel.r w1 W → ∀ i, W.cell? ⟨w.heap.size, i, none⟩ = #[.slice A1 n1 c1, .slice A2 n2 c2, .slice A3 n3 c3, .slice A4 n4 c4][i]? := fun W h => cells_row (row_ext r1 h)
  refine region_start (by kernel_rfl) ?_
  refine any_freeT (w := w1) extRel (outsAt [(2, outDT w1.heap.size S.bs S.ws), (5, outOwn w1.heap.size S.now), (8, outOwn w1.heap.size S.last)])
    [true, true, true, true, true, true, true, true, true, true] 1 (by kernel_rfl) (by kernel_rfl) (by kernel_rfl) (by kernel_rfl) (by kernel_rfl) (by kernel_rfl) (by kernel_rfl) ?st (Rel.drew _ _) ?walk
  case st => exact outsAt_stableG (by simp only [List.forall_mem_cons]; exact ⟨outDT_stable _ _ _, outOwn_stable _ _, outOwn_stable _ _, fun _ h => by cases h⟩)
  case walk =>
    intro K hK
    dsimp only [maskOps]
    repeat ((first | (refine free_plainM ?_ (by rfl) (by rfl) (fun W hW _ => ⟨W, ?_, Rel.refl _ W⟩) ?_; rotate_left; (first | (go_simp; with_reducible rfl) | (go_simp; done))) | (refine free_skipM (by rfl) ?_)); try simp only [Act.put, one_f, outB_f, outNew_f, outI_f, outDT_f, outOwn_f, List.setIfInBounds_toArray, List.set_cons_zero, List.set_cons_succ])
    refine free_hardM (outDT w1.heap.size S.bs S.ws) (by rfl) (by rfl) (fun W hW _ => ?_) (fun p => ?_)
    · refine hardAt_callG ?_ ((HD.out W (Ext.trans x1 hW)).mono fun e w' h => ?_)
      · go_simp
      have hW : Ext w1 W := hW
      obtain ⟨b, c, g, rfl, h1, hB⟩ := h
      exact ⟨(b, c, g), rfl, h1.keep hW.size (Nat.le_refl _) (fun _ _ _ => rfl), hB⟩
    obtain ⟨bb, cc, gg⟩ := p
    simp only [Act.put, one_f, outB_f, outNew_f, outI_f, outDT_f, outOwn_f, List.setIfInBounds_toArray, List.set_cons_zero, List.set_cons_succ]
    repeat ((first | (refine free_plainM ?_ (by rfl) (by rfl) (fun W hW _ => ⟨W, ?_, Rel.refl _ W⟩) ?_; rotate_left; (first | (go_simp; with_reducible rfl) | (go_simp; done))) | (refine free_skipM (by rfl) ?_)); try simp only [Act.put, one_f, outB_f, outNew_f, outI_f, outDT_f, outOwn_f, List.setIfInBounds_toArray, List.set_cons_zero, List.set_cons_succ])
    refine free_hardM (outOwn w1.heap.size S.now) (by rfl) (by rfl) (fun W hW _ => ?_) (fun p => ?_)
    · refine hardAt_callG ?_ ((HN.out W (Ext.trans x1 hW)).mono fun e w' h => ?_)
      · go_simp
      have hW : Ext w1 W := hW
      obtain ⟨u, rfl, hu, hB⟩ := h
      obtain ⟨A, c, rfl, _, _⟩ := own_slice hu
      exact ⟨(A, c), rfl, own_mono hu hW.size, hB⟩
    obtain ⟨B3, d3⟩ := p
    simp only [Act.put, one_f, outB_f, outNew_f, outI_f, outDT_f, outOwn_f, List.setIfInBounds_toArray, List.set_cons_zero, List.set_cons_succ]
    repeat ((first | (refine free_plainM ?_ (by rfl) (by rfl) (fun W hW _ => ⟨W, ?_, Rel.refl _ W⟩) ?_; rotate_left; (first | (go_simp; with_reducible rfl) | (go_simp; done))) | (refine free_skipM (by rfl) ?_)); try simp only [Act.put, one_f, outB_f, outNew_f, outI_f, outDT_f, outOwn_f, List.setIfInBounds_toArray, List.set_cons_zero, List.set_cons_succ])
    refine free_hardM (outOwn w1.heap.size S.last) (by rfl) (by rfl) (fun W hW _ => ?_) (fun p => ?_)
    · refine hardAt_callG ?_ ((HL.out W (Ext.trans x1 hW)).mono fun e w' h => ?_)
      · go_simp
      have hW : Ext w1 W := hW
      obtain ⟨u, rfl, hu, hB⟩ := h
      obtain ⟨A, c, rfl, _, _⟩ := own_slice hu
      exact ⟨(A, c), rfl, own_mono hu hW.size, hB⟩
    obtain ⟨B4, d4⟩ := p
    simp only [Act.put, one_f, outB_f, outNew_f, outI_f, outDT_f, outOwn_f, List.setIfInBounds_toArray, List.set_cons_zero, List.set_cons_succ]
    repeat ((first | (refine free_plainM ?_ (by rfl) (by rfl) (fun W hW _ => ⟨W, ?_, Rel.refl _ W⟩) ?_; rotate_left; (first | (go_simp; with_reducible rfl) | (go_simp; done))) | (refine free_skipM (by rfl) ?_)); try simp only [Act.put, one_f, outB_f, outNew_f, outI_f, outDT_f, outOwn_f, List.setIfInBounds_toArray, List.set_cons_zero, List.set_cons_succ])
    refine free_nilM (hK _ _ fun W hW hF => ?_)
    have hD : DiskT w1.heap.size S.bs S.ws bb cc gg W := (hF 2).1
    have hN : W.ownsRow w1.heap.size 5 1 (.slice B3 S.now.length d3) S.now.length (S.now.map bv) := (hF 5).1
    have hL : W.ownsRow w1.heap.size 5 1 (.slice B4 S.last.length d4) S.last.length (S.last.map bv) := (hF 8).1
    have hW : Ext w1 W := hW
    clear hF hK g1
    dsimp only [List.drop, List.length_cons, List.length_nil]
    have qW := row_ext q1 hW
    have kW := cells_row qW
    have fW := frozen_row qW
    have hz : w.heap.size + 1 < w1.heap.size := (Array.getElem?_eq_some_iff.1 q1).1
    have P5 : ∀ wx : World, wx = setAll W (w.heap.size + 1) 0 [.slice (some ⟨bb, 0, none⟩) S.bs.length S.bs.length, .slice (some ⟨cc, 0, none⟩) S.ws.length (S.ws.length + 1), .slice B3 S.now.length d3, .slice B4 S.last.length d4] →
        wx.heap[w.heap.size + 1]? = some (.cells #[.slice (some ⟨bb, 0, none⟩) S.bs.length S.bs.length, .slice (some ⟨cc, 0, none⟩) S.ws.length (S.ws.length + 1), .slice B3 S.now.length d3, .slice B4 S.last.length d4] 28 (0, 0)) ∧ Below w.heap.size w wx ∧
          TwinT w.heap.size S (storeV (some ⟨bb, 0, none⟩) S.bs.length S.bs.length (some ⟨cc, 0, none⟩) S.ws.length (S.ws.length + 1) B3 S.now.length d3 B4 S.last.length d4) wx := fun wx e => by
      have hk : ∀ b, w1.heap.size ≤ b → b < W.heap.size → wx.heap[b]? = W.heap[b]? := fun b h1 _ => by rw [e]; exact setAll_other (by omega) _ _ _
      have hs : W.heap.size ≤ wx.heap.size := by rw [e, setAll_size]; exact Nat.le_refl _
      refine ⟨by rw [e]; refine (setAll_row _ _ _ _ qW).trans ?_; simp [setIfs], by rw [e]; exact setAll_below (Nat.le_succ _) _ _ _ (Ext.trans x1 hW), bb, cc, gg, B3, d3, B4, d4, rfl, hD.keep (by omega) hs hk, own_mono (own_keep hN hk) (by omega), own_mono (own_keep hL hk) (by omega)⟩
    replace P5 := Lib.hid P5
    clear hD hN hL qW hW
    go_wp2
    refine QN_in ?_
    go_wp2_with fail
    have P5 := P5.out
    generalize hw5 : World.setCell (World.setCell (World.setCell (World.setCell W _ _) _ _) _ _) _ _ = w5
    obtain ⟨r5, x5, h5⟩ := P5 w5 hw5.symm
    clear P5 hw5
    have k5 := cells_row r5
    exact bodyPost_ret (v := storeV (some ⟨bb, 0, none⟩) S.bs.length S.bs.length (some ⟨cc, 0, none⟩) S.ws.length (S.ws.length + 1) B3 S.now.length d3 B4 S.last.length d4) (by simp [results, Try.results67, go_sem, k5]) rfl ⟨_, rfl, h5, x5⟩

set_option maxHeartbeats 1000000 in
set_option maxRecDepth 100000 in
theorem bstore_any (b : Nat) (A1 : Option Addr) (n1 c1 : Nat) (A2 : Option Addr) (n2 c2 : Nat) (A3 : Option Addr) (n3 c3 : Nat) (A4 : Option Addr) (n4 c4 : Nat) (S : Sto) (hS : Short S) (w : World) (hr : w.heap[b]? = some (.cells #[.slice A1 n1 c1, .slice A2 n2 c2, .slice A3 n3 c3, .slice A4 n4 c4] 169 (0, 0)))
    (h : StoAt w w.heap.size (.slice A1 n1 c1) (.slice A2 n2 c2) (.slice A3 n3 c3) (.slice A4 n4 c4) S) :
    Calls Try.prog 100 #[.pointer (some ⟨b, 0, none⟩)] w (RetS (TwinT w.heap.size S) w) := by
  have HT := Lib.hid (fun W (hW : Ext w W) => rtwin_any A1 n1 c1 A2 n2 c2 A3 n3 c3 A4 n4 c4 S hS W (h.ext hW))
  clear h hS
  have k0 := cells_row hr
  have zb : b < w.heap.size := (Array.getElem?_eq_some_iff.1 hr).1
  go_enter Try.func100, Try.ntmps100
  go_wp2_with fail
  generalize hw1 : World.alloc _ _ = w1
  have x1 : Ext w w1 := by rw [← hw1]; exact Ext.alloc _ _
  have q1 : w1.heap[w.heap.size]? = some (.cells #[.slice none 0 0, .slice none 0 0, .slice none 0 0, .slice none 0 0] 28 (0, 0)) := by rw [← hw1]; exact World.alloc_heap_at _ _ _ (by simp)
  clear hw1 k0
  refine (HT.out w1 x1).mono ?_
  rintro e w2 ⟨u, rfl, hT, hB⟩
  have hB : Ext w1 w2 := hB
  have q2 := row_ext q1 hB
  have kq := cells_row q2
  have fq := frozen_row q2
  have z1 : w.heap.size < w1.heap.size := (Array.getElem?_eq_some_iff.1 q1).1
  obtain ⟨BB, WW, g, B3, d3, B4, d4, rfl, hD, hN, hL⟩ := hT
  have P5 : ∀ wx : World, wx = setAll w2 w.heap.size 0 [.slice (some ⟨BB, 0, none⟩) S.bs.length S.bs.length, .slice (some ⟨WW, 0, none⟩) S.ws.length (S.ws.length + 1), .slice B3 S.now.length d3, .slice B4 S.last.length d4] →
      wx.heap[w.heap.size]? = some (.cells #[.slice (some ⟨BB, 0, none⟩) S.bs.length S.bs.length, .slice (some ⟨WW, 0, none⟩) S.ws.length (S.ws.length + 1), .slice B3 S.now.length d3, .slice B4 S.last.length d4] 28 (0, 0)) ∧ Below w.heap.size w wx ∧
        TwinT w.heap.size S (storeV (some ⟨BB, 0, none⟩) S.bs.length S.bs.length (some ⟨WW, 0, none⟩) S.ws.length (S.ws.length + 1) B3 S.now.length d3 B4 S.last.length d4) wx := fun wx e => by
    have hk : ∀ b, w1.heap.size ≤ b → b < w2.heap.size → wx.heap[b]? = w2.heap[b]? := fun b h1 _ => by rw [e]; exact setAll_other (by omega) _ _ _
    have hs : w2.heap.size ≤ wx.heap.size := by rw [e, setAll_size]; exact Nat.le_refl _
    refine ⟨by rw [e]; refine (setAll_row _ _ _ _ q2).trans ?_; simp [setIfs], by rw [e]; exact setAll_below (Nat.le_refl _) _ _ _ (x1.trans hB), BB, WW, g, B3, d3, B4, d4, rfl, hD.keep (by omega) hs hk, own_mono (own_keep hN hk) (by omega), own_mono (own_keep hL hk) (by omega)⟩
  replace P5 := Lib.hid P5
  clear hD hN hL q2 hB q1
  go_wp2_with fail
  have P5 := P5.out
  generalize hw5 : World.setCell (World.setCell (World.setCell (World.setCell w2 _ _) _ _) _ _) _ _ = w5
  obtain ⟨r5, x5, h5⟩ := P5 w5 hw5.symm
  clear P5 hw5
  have k5 := cells_row r5
  exact bodyPost_ret (v := storeV (some ⟨BB, 0, none⟩) S.bs.length S.bs.length (some ⟨WW, 0, none⟩) S.ws.length (S.ws.length + 1) B3 S.now.length d3 B4 S.last.length d4) (by simp [results, Try.results100, go_sem, k5]) rfl ⟨_, rfl, h5, x5⟩
end Go.Proofs.Ytlgbjpihmkeopaa
/- Contracts: a bench with its own counts. -/
namespace Go.Proofs.Ytlgbjpihmkeopaa
set_option linter.unusedSimpArgs false
set_option linter.unusedVariables false
open Go.RowKit

theorem own_set {w : World} {lo g n c k : Nat} {l : List UInt8} (h : w.ownsRow lo 5 1 (.slice (some ⟨g, 0, none⟩) n c) n (l.map bv)) (hk : k < n) (x : UInt8) : (w.setCell ⟨g, k, none⟩ (bv x)).ownsRow lo 5 1 (.slice (some ⟨g, 0, none⟩) n c) n ((l.set k x).map bv) := by
  obtain ⟨h1, h2⟩ := h
  rcases h2 with ⟨e, _⟩ | ⟨g', cap, cur, e, hg, hr, hc, hm, hs, ht⟩
  · cases e
  · cases e
    have hk2 : k < cur.size := by omega
    refine ⟨by simpa using h1, .inr ⟨g, c, _, rfl, hg, row_set hr k _, hc, hm, by simpa using hs, ?_⟩⟩
    apply List.ext_getElem?
    intro i
    rw [List.map_set, ← ht, List.getElem?_take, List.getElem?_set, List.getElem?_take]
    simp only [Nat.mul_one, Array.getElem?_toList, Array.getElem?_setIfInBounds, List.length_take, Array.length_toList]
    by_cases hi : i < n
    · rw [if_pos hi, if_pos hi]
      by_cases e : k = i
      · subst e
        rw [if_pos rfl, if_pos rfl, if_pos hk2, if_pos (by omega)]
      · rw [if_neg e, if_neg e]
    · rw [if_neg hi, if_neg hi, if_neg (by omega)]
theorem own_ext' {w : World} {lo g n c b k : Nat} {l : List UInt8} {v : Value} (h : w.ownsRow lo 5 1 (.slice (some ⟨g, 0, none⟩) n c) n (l.map bv)) (hg : g ≠ b) : (w.setCell ⟨b, k, none⟩ v).ownsRow lo 5 1 (.slice (some ⟨g, 0, none⟩) n c) n (l.map bv) := by
  obtain ⟨h1, h2⟩ := h
  refine ⟨h1, h2.imp id fun ⟨g', cap, cur, e, h3, h4, h5⟩ => ?_⟩
  cases e
  exact ⟨g, c, cur, rfl, h3, (Below.heap_setCell _ _ _ _ hg).trans h4, h5⟩
theorem own_cells {w : World} {lo g n c : Nat} {l : List UInt8} (h : w.ownsRow lo 5 1 (.slice (some ⟨g, 0, none⟩) n c) n (l.map bv)) : (∀ k, k < n → w.cell? ⟨g, k, none⟩ = some (.int .u8 ((l[k]?.getD 0).toNat : Int))) ∧ (∀ k, w.frozen? ⟨g, k, none⟩ = false) ∧ lo ≤ g ∧ g < w.heap.size := by
  have h1 := h.1
  obtain ⟨h0, h2⟩ := h
  rcases h2 with ⟨e, _⟩ | ⟨g', cap, cur, e, hg, hr, hc, hm, hs, ht⟩
  · cases e
  · cases e
    refine ⟨fun k hk => ?_, frozen_row hr, hg, (Array.getElem?_eq_some_iff.1 hr).1⟩
    have hl : l.length = n := by simpa using h1
    have hkl : k < l.length := by omega
    have e2 : (l.map bv)[k]? = some (bv l[k]) := by rw [List.getElem?_map, List.getElem?_eq_getElem hkl]; rfl
    rw [← ht, List.getElem?_take, if_pos (by omega)] at e2
    have e3 : cur[k]? = cur.toList[k]? := by simp
    rw [cells_row hr, e3, e2, List.getElem?_eq_getElem hkl]
    rfl

set_option maxHeartbeats 2000000 in
set_option maxRecDepth 100000 in
theorem on_own (A1 : Option Addr) (n1 c1 : Nat) (A2 : Option Addr) (n2 c2 : Nat) (A3 : Option Addr) (n3 c3 : Nat) (A4 : Option Addr) (n4 c4 : Nat) (S : Sto) (hl : S.now.length < 1073741824) (w : World) (h : StoAt w w.heap.size (.slice A1 n1 c1) (.slice A2 n2 c2) (.slice A3 n3 c3) (.slice A4 n4 c4) S) :
    Calls Try.prog 76 #[storeV A1 n1 c1 A2 n2 c2 A3 n3 c3 A4 n4 c4] w (RetS (fun u W => ∃ b A3' c3', u = .pointer (some ⟨b, 0, none⟩) ∧ w.heap.size ≤ b ∧ W.heap[b]? = some (.cells #[.slice A1 n1 c1, .slice A2 n2 n2, .slice A3' n3 c3', .slice A4 n4 c4] 169 (0, 0)) ∧ W.ownsRow w.heap.size 5 1 (.slice A3' n3 c3') n3 (S.now.map bv)) w) := by
  have hn3 : Hid (n3 = S.now.length) := Lib.hid h.now.at_.1
  obtain ⟨-, h2a, h2b, -⟩ := h.ws.at_
  have HC := Lib.hid (fun W (hW : Ext w W) => bclone_any (.slice A3 n3 c3) S.now hl W (h.ext hW).now)
  clear h
  go_enter Try.func76, Try.ntmps76
  go_wp2_with fail
  generalize hw1 : (World.alloc _ _) = w1
  have x1 : Ext w w1 := by rw [← hw1]; exact Ext.alloc _ _
  have r1 : w1.heap[w.heap.size]? = some (.cells #[.slice A1 n1 c1, .slice A2 n2 c2, .slice A3 n3 c3, .slice A4 n4 c4] 28 (0, 0)) := by rw [← hw1]; exact World.alloc_heap_at _ _ _ rfl
  clear hw1
  refine (HC.out _ x1).mono ?_
  rintro e w2 ⟨u, rfl, hu, hB⟩
  have x2 := x1.trans hB
  have r2 := row_ext r1 hB
  have s1 : w.heap.size < w1.heap.size := (Array.getElem?_eq_some_iff.1 r1).1
  obtain ⟨A3', c3', rfl, _, _⟩ := own_slice hu
  have k2 := cells_row r2
  have f2 := frozen_row r2
  clear hB r1 HC
  rw [← hn3.out] at hu ⊢
  go_wp2_with fail
  have hu3 := own_keep (w' := w2.setCell ⟨w.heap.size, 2, none⟩ (.slice A3' n3 c3')) hu (fun b hb _ => Below.heap_setCell _ _ _ _ (by show b ≠ w.heap.size; omega))
  generalize hw3 : (World.setCell _ _ _) = w3 at *
  have x3 : Ext w w3 := by rw [← hw3]; exact Below.setCell x2 (p := ⟨w.heap.size, 2, none⟩) (Nat.le_refl _) _
  have r3 : w3.heap[w.heap.size]? = some (.cells #[.slice A1 n1 c1, .slice A2 n2 c2, .slice A3' n3 c3', .slice A4 n4 c4] 28 (0, 0)) := by rw [← hw3]; exact row_set r2 2 _
  clear hw3 k2 f2 r2 x2 hu
  refine (clip_any A2 n2 c2 h2a h2b _).mono ?_
  rintro e w4 ⟨rfl, hB⟩
  have x4 := x3.trans hB
  have r4 := row_ext r3 hB
  have hu4 := own_ext hu3 hB
  have k4 := cells_row r4
  have f4 := frozen_row r4
  have s4 : w.heap.size < w4.heap.size := (Array.getElem?_eq_some_iff.1 r4).1
  clear hB r3 x3 hu3
  replace hu4 := Lib.hid hu4
  go_wp2
  have hu5 := own_keep (w' := w4.setCell ⟨w.heap.size, 1, none⟩ (.slice A2 n2 n2)) hu4.out (fun b hb _ => Below.heap_setCell _ _ _ _ (by show b ≠ w.heap.size; omega))
  have bf : Below w.heap.size w ((w4.setCell ⟨w.heap.size, 1, none⟩ (.slice A2 n2 n2)).alloc (.cells #[.slice A1 n1 c1, .slice A2 n2 n2, .slice A3' n3 c3', .slice A4 n4 c4] 169)) := by
    have x4' : Below w.heap.size w w4 := x4
    exact (by repeat' (first | with_reducible exact Below.refl _ _ | with_reducible assumption | with_reducible apply Below.drew | with_reducible apply below_drewN | with_reducible refine Below.alloc ?_ ?_ _ | with_reducible refine Below.setCell ?_ ?_ _ | (simp; done) | (simp; omega) | omega))
  go_ret
  exact ⟨_, rfl, ⟨w4.heap.size, A3', c3', rfl, by omega, World.alloc_heap_at _ _ _ (by simp), own_mono (own_ext hu5 (Ext.alloc _ _)) (by omega)⟩, bf⟩
end Go.Proofs.Ytlgbjpihmkeopaa
/- Contracts: a count more. -/
namespace Go.Proofs.Ytlgbjpihmkeopaa
set_option linter.unusedSimpArgs false
set_option linter.unusedVariables false
open Go.RowKit

def cntN (t : List UInt8) (a : Nat) : Nat := (t[a]?.getD 0).toNat
def turnE (t : List UInt8) (a : Int) (end_ : Nat) : Int := if tabMay t = true then (if 8 ≤ a ∧ a < 256 then (if cntN t a.toNat = end_ then 70 else 0) else 2) else 8
def turned (t : List UInt8) (a by_ : Nat) : List UInt8 := t.set a (UInt8.ofNat (cntN t a + by_))
theorem turned_len (t : List UInt8) (a by_ : Nat) : (turned t a by_).length = t.length := by unfold turned; simp
theorem u8_wrap (n : Nat) : IntKind.u8.wrap (n : Int) = (((UInt8.ofNat n).toNat : Nat) : Int) := by
  simp [IntKind.wrap, IntKind.bits, IntKind.signed]
def TurnQ (t : List UInt8) (a : Int) (by_ end_ lo : Nat) (u : Value) (W : World) : Prop :=
  (turnE t a end_ ≠ 0 ∧ u = .tuple #[.slice none 0 0, .int .i64 (turnE t a end_)]) ∨
    (turnE t a end_ = 0 ∧ ∃ A c, u = .tuple #[.slice A 256 c, .int .i64 0] ∧ W.ownsRow lo 5 1 (.slice A 256 c) 256 ((turned t a.toNat by_).map bv))
theorem turnE_bad {t : List UInt8} (h : tabMay t = false) (a : Int) (e : Nat) : turnE t a e = 8 := by unfold turnE; rw [h]; simp
theorem turnE_out {t : List UInt8} (h : tabMay t = true) {a : Int} (ha : ¬(8 ≤ a ∧ a < 256)) (e : Nat) : turnE t a e = 2 := by unfold turnE; rw [if_pos h, if_neg ha]
theorem turnE_in {t : List UInt8} (h : tabMay t = true) {a : Nat} (ha : 8 ≤ a) (ha2 : a < 256) (e : Nat) : turnE t (a : Int) e = if cntN t a = e then 70 else 0 := by
  unfold turnE
  rw [if_pos h, if_pos (by omega), Int.toNat_natCast]
theorem turn_ret {R : Ending → World → Prop} {a : Act} {W : World} {u v : Value} (h8 : a.tmps[8]?.getD undef = u) (h9 : a.tmps[9]?.getD undef = v) (hd : a.defers = []) (hR : R (.returned (.tuple #[u, v])) W) : bodyPost Try.prog Try.f99 R .ret a W := by
  refine bodyPost_ret (v := .tuple #[u, v]) ?_ hd hR
  simp [results, Try.results99, go_sem, h8, h9]
set_option maxHeartbeats 2000000 in
set_option maxRecDepth 100000 in
theorem turn_any (A : Option Addr) (n c : Nat) (t : List UInt8) (a : Int) (by_ end_ : Nat) (w : World) (h : Bys w w.heap.size (.slice A n c) t) :
    Calls Try.prog 99 #[.slice A n c, .int .i64 a, .int .u8 (by_ : Int), .int .u8 (end_ : Int)] w (RetS (TurnQ t a by_ end_ w.heap.size) w) := by
  have HC := Lib.hid (ccheck_any (.slice A n c) t w h)
  have hby := Lib.hid h
  go_enter Try.func99, Try.ntmps99
  go_wp2_with fail
  refine HC.out.mono ?_
  clear HC
  rintro e w2 ⟨rfl, hB⟩
  have x2 : Ext w w2 := hB
  clear hB h
  rcases hS : tabMay t with _ | _
  · have hq := Lib.hid (turnE_bad hS a end_)
    replace hS := Lib.hid hS
    rw [errOf_f rfl]
    go_wp2_with fail
    exact turn_ret rfl rfl rfl ⟨_, rfl, .inl ⟨by rw [hq.out]; decide, by rw [hq.out]; rfl⟩, x2⟩
  · rw [errOf_t rfl]
    by_cases hr : 8 ≤ a ∧ a < 256
    · obtain ⟨m, hma⟩ := Int.eq_ofNat_of_zero_le (show 0 ≤ a by omega)
      subst hma
      have hm8 : 8 ≤ m := by omega
      have hm256 : m < 256 := by omega
      have hq := turnE_in hS hm8 hm256 end_
      have hl : t.length = 256 := by unfold tabMay at hS; simp at hS; exact hS.1
      obtain ⟨A', c', e, hc, hmx, hrd⟩ := hby.out
      obtain ⟨b, o, rfl, hb, hcell⟩ := hrd.2 (by omega)
      simp only [Value.slice.injEq] at e
      obtain ⟨rfl, e2, rfl⟩ := e
      obtain rfl : n = 256 := by omega
      clear e2
      have hcn : w.cell? ⟨b, o + m, none⟩ = some (.int .u8 (cntN t m : Int)) := hcell m _ (by rw [List.getElem?_map, List.getElem?_eq_getElem (by omega)]; unfold cntN; rw [List.getElem?_eq_getElem (by omega)]; rfl)
      have hcn2 := Ext.cell x2 hcn
      have d1 : decide ((m : Int) < 8) = false := decide_eq_false (by omega)
      have d2 : decide ((m : Int) ≥ 256) = false := decide_eq_false (by omega)
      have HCL := Lib.hid (sclone_any (.slice (some ⟨b, o, none⟩) 256 c) t (by omega) w2 ((hby.out.below x2).more x2.size))
      have hT : Hid (turned t m by_ = t.set m (UInt8.ofNat (cntN t m + by_))) := rfl
      clear hr hcell hrd hcn hc hmx
      generalize hnv : cntN t m = nv at *
      replace hnv := Lib.hid hnv
      replace hl := Lib.hid hl
      by_cases h0 : nv = end_
      · have hz1 : ((nv : Int) == (end_ : Int)) = true := by rw [beq_iff_eq]; omega
        have hz2 : decide (nv = end_) = true := decide_eq_true h0
        rw [if_pos h0] at hq
        replace hq := Lib.hid hq
        replace h0 := Lib.hid h0
        replace hS := Lib.hid hS
        go_wp2_with fail
        exact turn_ret rfl rfl rfl ⟨_, rfl, .inl ⟨by rw [hq.out]; decide, by rw [hq.out]; rfl⟩, x2⟩
      · have hz1 : ((nv : Int) == (end_ : Int)) = false := by rw [beq_eq_false_iff_ne]; omega
        have hz2 : decide (nv = end_) = false := decide_eq_false h0
        rw [if_neg h0] at hq
        replace hq := Lib.hid hq
        replace h0 := Lib.hid h0
        replace hS := Lib.hid hS
        go_wp2_with fail
        refine HCL.out.mono ?_
        clear HCL
        rintro e w3 ⟨u, rfl, hu, hB⟩
        rw [hl.out] at hu
        obtain ⟨Au, cu, rfl, hcu, -⟩ := own_slice hu
        have x3 : Ext w w3 := x2.trans hB
        have hAu : ∃ g, Au = some ⟨g, 0, none⟩ := by
          rcases hu.2 with ⟨e, h0⟩ | ⟨g, cap, cur, e, _⟩
          · cases e
          · cases e
            exact ⟨g, rfl⟩
        obtain ⟨g, rfl⟩ := hAu
        obtain ⟨hk, hf, hlg, hgz⟩ := own_cells hu
        have hkm := hk m hm256
        rw [show (t[m]?.getD 0).toNat = nv from hnv.out] at hkm
        have hfm := hf m
        have hset := Lib.hid (own_set hu hm256 (UInt8.ofNat (nv + by_)))
        have hwv : IntKind.u8.wrap ((nv : Int) + (by_ : Int)) = (((UInt8.ofNat (nv + by_)).toNat : Nat) : Int) := by rw [← u8_wrap]; rfl
        clear hk hf hu hB hcn2
        go_wp2_with fail
        exact turn_ret rfl rfl rfl ⟨_, rfl, .inr ⟨hq.out, _, _, rfl, own_mono (by rw [Int.toNat_natCast, hT.out]; exact hset.out) x2.size⟩, Below.setCell x3 (p := ⟨g, m, none⟩) (by have := x2.size; simp; omega) _⟩
    · have hq := Lib.hid (turnE_out hS hr end_)
      replace hS := Lib.hid hS
      by_cases h8 : a < 8
      · have d1 : decide (a < 8) = true := decide_eq_true h8
        replace hr := Lib.hid hr
        go_wp2_with fail
        exact turn_ret rfl rfl rfl ⟨_, rfl, .inl ⟨by rw [hq.out]; decide, by rw [hq.out]; rfl⟩, x2⟩
      · have d1 : decide (a < 8) = false := decide_eq_false h8
        have d2 : decide (a ≥ 256) = true := decide_eq_true (by omega)
        replace hr := Lib.hid hr
        go_wp2_with fail
        exact turn_ret rfl rfl rfl ⟨_, rfl, .inl ⟨by rw [hq.out]; decide, by rw [hq.out]; rfl⟩, x2⟩
end Go.Proofs.Ytlgbjpihmkeopaa
/- Contracts: a block written to a disk. -/
namespace Go.Proofs.Ytlgbjpihmkeopaa
set_option linter.unusedSimpArgs false
set_option linter.unusedVariables false
open Go.RowKit

def askE (d : Bool) (a : Int) : Int := if d = true then (if 0 ≤ a ∧ a < 256 then 0 else 2) else 8

set_option maxHeartbeats 1000000 in
set_option maxRecDepth 100000 in
theorem dasked_any (A1 : Option Addr) (n1 c1 : Nat) (A2 : Option Addr) (n2 c2 : Nat) (bs : List (List UInt8)) (ws : List (Int × List UInt8)) (a : Int) (w : World) (hb : Bls w w.heap.size (.slice A1 n1 c1) bs) (hw : Wrs w w.heap.size (.slice A2 n2 c2) ws) :
    Calls Try.prog 97 #[diskV A1 n1 c1 A2 n2 c2, .int .i64 a] w (Ret (.int .i64 (askE (diskMay bs ws) a)) w) := by
  have HD := Lib.hid (fun W (hW : Ext w W) => dcheck_any A1 n1 c1 A2 n2 c2 bs ws W ((hb.below hW).more hW.size) ((hw.below hW).more hW.size))
  clear hb hw
  generalize diskMay bs ws = d at *
  go_enter Try.func97, Try.ntmps97
  go_wp2_with fail
  generalize hw1 : World.alloc _ _ = w1
  have x1 : Ext w w1 := by rw [← hw1]; exact Ext.alloc _ _
  clear hw1
  refine (HD.out _ x1).mono ?_
  rintro e w2 ⟨rfl, hB⟩
  have x2 : Ext w w2 := x1.trans hB
  clear hB x1 HD
  cases d
  · go_wp2
    go_ret
    exact ⟨rfl, x2⟩
  · have h0 : Hid (∀ n : Int, (if 0 ≤ a ∧ a < 256 then 0 else 2) = n → askE true a = n) := Lib.hid fun n h => by unfold askE; rw [if_pos rfl]; exact h
    rw [show errOf true = 0 from rfl]
    by_cases h1 : a < 0
    · go_wp2
      go_ret
      exact ⟨ret_int (h0.out _ (if_neg (by omega))).symm, x2⟩
    · by_cases h2 : a ≥ 256
      · go_wp2
        go_ret
        exact ⟨ret_int (h0.out _ (if_neg (by omega))).symm, x2⟩
      · have d2 : decide (256 ≤ a) = false := decide_eq_false (by omega)
        go_wp2
        go_ret
        exact ⟨ret_int (h0.out _ (if_pos (by omega))).symm, x2⟩

def NewDisk (lo : Nat) (bs : List (List UInt8)) (ws : List (Int × List UInt8)) (u : Value) (W : World) : Prop := ∃ A1 c1 A2 c2, u = diskV A1 bs.length c1 A2 ws.length c2 ∧ ∀ W2 : World, (∀ q : Addr, lo ≤ q.block → q.block < W.heap.size → W2.cell? q = W.cell? q) → Bls W2 W.heap.size (.slice A1 bs.length c1) bs ∧ Wrs W2 W.heap.size (.slice A2 ws.length c2) ws
abbrev noDisk (e : Int) : Value := .tuple #[diskV none 0 0 none 0 0, .int .i64 e]
def writeE (bs : List (List UInt8)) (ws : List (Int × List UInt8)) (a : Int) (data : List UInt8) : Int :=
  if askE (diskMay bs ws) a ≠ 0 then askE (diskMay bs ws) a else if data.length ≠ 128 then 3 else if ws.length = 4096 then 9 else 0
theorem diskMay_short {bs : List (List UInt8)} {ws : List (Int × List UInt8)} (h : diskMay bs ws = true) : bs.length < 1000000 ∧ ws.length < 1000000 ∧ (∀ l ∈ bs, l.length < 1000000) ∧ ∀ p ∈ ws, p.2.length < 1000000 := by
  unfold diskMay headD at h
  simp only [Bool.and_eq_true, decide_eq_true_eq, List.all_eq_true] at h
  obtain ⟨⟨h1, h2⟩, h3, h4⟩ := h
  refine ⟨by omega, by omega, fun l hl => ?_, fun p hp => ?_⟩
  · have := h3 l hl
    unfold blkOk at this
    have := of_decide_eq_true this
    omega
  · have := h4 p hp
    unfold wrOk at this
    have := of_decide_eq_true this
    omega
theorem DiskT.waits {lo : Nat} {bs : List (List UInt8)} {ws : List (Int × List UInt8)} {BB WW g : Nat} {W : World} (h : DiskT lo bs ws BB WW g W) (h2 : ws.length < 1000000) : ∃ ps : List ((Int × List UInt8) × Value), ps.map (·.1) = ws ∧ W.ownsRow lo 137 2 (.slice (some ⟨WW, 0, none⟩) ws.length (ws.length + 1)) ws.length (cells2 ps) ∧ ∀ p ∈ ps, ∃ F, InG W g F p.2 p.1.2 := by
  obtain ⟨cw, hw1, hw2, hw3⟩ := h.ww
  have hq : ∀ i, i < ws.length → ∃ q : (Int × List UInt8) × Value, ws[i]? = some q.1 ∧ (∃ F, InG W g F q.2 q.1.2) ∧ cw[i * 2]? = some (.int .i64 q.1.1) ∧ cw[i * 2 + 1]? = some q.2 := fun i hi => by
    obtain ⟨v, F, e1, e2, e3⟩ := hw3 i ws[i] (List.getElem?_eq_getElem hi)
    exact ⟨(ws[i], v), List.getElem?_eq_getElem hi, ⟨F, e3⟩, e1, e2⟩
  obtain ⟨Q, hQ⟩ := Go.Deep.choose_lt (α := (Int × List UInt8) × Value) (p := fun i q => ws[i]? = some q.1 ∧ (∃ F, InG W g F q.2 q.1.2) ∧ cw[i * 2]? = some (.int .i64 q.1.1) ∧ cw[i * 2 + 1]? = some q.2) hq
  refine ⟨(List.range ws.length).map Q, ?_, ⟨by rw [cells2_len]; simp, .inr ⟨WW, ws.length + 1, cw, rfl, h.los.2.1, hw1, by omega, by unfold maxLen; omega, hw2, ?_⟩⟩, fun p hp => ?_⟩
  · apply List.ext_getElem?
    intro i
    rw [List.map_map, List.getElem?_map]
    rcases Nat.lt_or_ge i ws.length with hi | hi
    · rw [List.getElem?_range hi, (hQ i hi).1]; rfl
    · rw [List.getElem?_eq_none (by simpa using hi), List.getElem?_eq_none hi]; rfl
  · apply List.ext_getElem?
    intro j
    rw [List.getElem?_take]
    by_cases hj : j < ws.length * 2
    · rw [if_pos hj]
      obtain ⟨c0, c1⟩ := cells2_at ((List.range ws.length).map Q) (j / 2) (by simp; omega)
      obtain ⟨_, _, q0, q1⟩ := hQ (j / 2) (by omega)
      have e0 : cw.toList[j]? = cw[j]? := by simp
      rw [e0]
      rcases (show j = j / 2 * 2 ∨ j = j / 2 * 2 + 1 by omega) with e | e
      · rw [show cw[j]? = cw[j / 2 * 2]? from congrArg (fun t => cw[t]?) e, q0, show (cells2 ((List.range ws.length).map Q))[j]? = (cells2 ((List.range ws.length).map Q))[j / 2 * 2]? from congrArg (fun t => (cells2 ((List.range ws.length).map Q))[t]?) e, c0]
        simp
      · rw [show cw[j]? = cw[j / 2 * 2 + 1]? from congrArg (fun t => cw[t]?) e, q1, show (cells2 ((List.range ws.length).map Q))[j]? = (cells2 ((List.range ws.length).map Q))[j / 2 * 2 + 1]? from congrArg (fun t => (cells2 ((List.range ws.length).map Q))[t]?) e, c1]
        simp
    · rw [if_neg hj, List.getElem?_eq_none (by rw [cells2_len]; simp; omega)]
  · obtain ⟨i, hi, rfl⟩ := List.mem_map.1 hp
    exact (hQ i (List.mem_range.1 hi)).2.1

theorem cells2_append (ps : List ((Int × List UInt8) × Value)) (a : Int) (l : List UInt8) (u : Value) : cells2 (ps ++ [((a, l), u)]) = cells2 ps ++ gW (a, l) u := by
  induction ps with
  | nil => rfl
  | cons p r ih => simp only [List.cons_append, cells2, ih]
theorem DiskT.blocks {lo : Nat} {bs : List (List UInt8)} {ws : List (Int × List UInt8)} {BB WW g : Nat} {W : World} (h : DiskT lo bs ws BB WW g W) (h1 : bs.length < 1000000) (h3 : ∀ l ∈ bs, l.length < 1000000)
    (W2 : World) (hB : ∀ j, W2.cell? ⟨BB, j, none⟩ = W.cell? ⟨BB, j, none⟩) (hg : ∀ j, W2.cell? ⟨g, j, none⟩ = W.cell? ⟨g, j, none⟩) : Bls W2 W.heap.size (.slice (some ⟨BB, 0, none⟩) bs.length bs.length) bs := by
  obtain ⟨cb, hb1, hb2, hb3⟩ := h.bb
  have z1 := (Array.getElem?_eq_some_iff.1 hb1).1
  have hm : ∀ n, n < 1000001 → n ≤ maxLen := fun n hn => by unfold maxLen; omega
  refine ⟨cb.toList, _, _, rfl, Nat.le_refl _, hm _ (by omega), ⟨by simp [hb2], fun _ => ⟨BB, 0, rfl, z1, fun j u hu => ?_⟩⟩, fun i u l hu hl => ?_⟩
  · rw [Nat.zero_add, hB, cells_row hb1]
    simpa using hu
  · obtain ⟨v, F, e1, e2⟩ := hb3 i l hl
    have : cb.toList[i]? = cb[i]? := by simp
    rw [this, e1] at hu
    cases hu
    exact (e2.cells hg).bys h.los.2.2.2.1 (hm _ (by have := h3 l (List.mem_of_getElem? hl); omega))

set_option maxHeartbeats 4000000 in
set_option maxRecDepth 100000 in
theorem dwrite_any (A1 : Option Addr) (n1 c1 : Nat) (A2 : Option Addr) (n2 c2 : Nat) (bs : List (List UInt8)) (ws : List (Int × List UInt8)) (a : Int) (A : Option Addr) (c : Nat) (data : List UInt8) (w : World)
    (hb : Bls w w.heap.size (.slice A1 n1 c1) bs) (hw : Wrs w w.heap.size (.slice A2 n2 c2) ws) (hd : Bys w w.heap.size (.slice A data.length c) data) :
    Calls Try.prog 68 #[diskV A1 n1 c1 A2 n2 c2, .int .i64 a, .slice A data.length c] w (RetS (fun u W => (writeE bs ws a data ≠ 0 ∧ u = noDisk (writeE bs ws a data)) ∨ (writeE bs ws a data = 0 ∧ ∃ v, u = .tuple #[v, .int .i64 0] ∧ NewDisk w.heap.size bs (ws ++ [(a, data)]) v W)) w) := by
  have HA := Lib.hid (fun W (hW : Ext w W) => dasked_any A1 n1 c1 A2 n2 c2 bs ws a W ((hb.below hW).more hW.size) ((hw.below hW).more hW.size))
  have HT := Lib.hid (fun (h : diskMay bs ws = true) W (hW : Ext w W) => dtwin_any A1 n1 c1 A2 n2 c2 bs ws (diskMay_short h).1 (diskMay_short h).2.1 (diskMay_short h).2.2.1 (diskMay_short h).2.2.2 W ((hb.below hW).more hW.size) ((hw.below hW).more hW.size))
  have HC := Lib.hid (fun (h : data.length = 128) W (hW : Ext w W) => bclone_any (.slice A data.length c) data (by omega) W ((hd.below hW).more hW.size))
  obtain ⟨e2, hc2, hm2, -⟩ := hw.at_
  subst e2
  have hE : ∀ e, e = askE (diskMay bs ws) a → writeE bs ws a data = if e ≠ 0 then e else if data.length ≠ 128 then 3 else if ws.length = 4096 then 9 else 0 := fun e h => by subst h; rfl
  have hM : Hid (askE (diskMay bs ws) a = 0 → diskMay bs ws = true) := Lib.hid fun h => by
    unfold askE at h
    split at h
    · assumption
    · cases h
  clear hb hw hd hm2
  obtain ⟨ae, hae⟩ : ∃ ae, ae = askE (diskMay bs ws) a := ⟨_, rfl⟩
  rw [← hae] at HA hM
  replace hE := Lib.hid (hE ae hae)
  clear hae
  go_enter Try.func68, Try.ntmps68
  go_wp2_with fail
  generalize hw1 : World.alloc (World.alloc _ _) _ = w1
  have x1 : Ext w w1 := by rw [← hw1]; exact (Ext.alloc _ _).trans (Ext.alloc _ _)
  have r1 : w1.heap[w.heap.size]? = some (.cells #[.slice A1 n1 c1, .slice A2 ws.length c2] 25 (0, 0)) := by rw [← hw1]; exact (Below.heap_alloc _ _ _ (by simp)).trans (World.alloc_heap_at _ _ _ rfl)
  have q1 : w1.heap[w.heap.size + 1]? = some (.cells #[.slice none 0 0, .slice none 0 0] 25 (0, 0)) := by rw [← hw1]; exact World.alloc_heap_at _ _ _ (by simp)
  clear hw1
  refine (HA.out w1 x1).mono ?_
  rintro e w2 ⟨rfl, hB⟩
  have x2 : Ext w w2 := x1.trans hB
  have r2 := row_ext r1 hB
  have q2 := row_ext q1 hB
  have k2 := cells_row r2
  have kq := cells_row q2
  have fq := frozen_row q2
  have zq := (Array.getElem?_eq_some_iff.1 q2).1
  clear hB x1 HA r1 q1
  by_cases h0 : ae = 0
  case neg =>
    have d0 : (ae != 0) = true := by simpa using h0
    have e0 : Hid (writeE bs ws a data = ae) := Lib.hid (by rw [hE.out, if_pos h0])
    go_wp2_with fail
    have rf := row_set (row_set q2 0 (.slice none 0 0)) 1 (.slice none 0 0)
    have kf := cells_row rf
    have bf : Below w.heap.size w ((w2.setCell ⟨w.heap.size + 1, 0, none⟩ (.slice none 0 0)).setCell ⟨w.heap.size + 1, 1, none⟩ (.slice none 0 0)) := Below.setCell (Below.setCell x2 (p := ⟨w.heap.size + 1, 0, none⟩) (Nat.le_succ _) _) (p := ⟨w.heap.size + 1, 1, none⟩) (Nat.le_succ _) _
    exact bodyPost_ret (v := noDisk ae) (by simp [results, Try.results68, go_sem, kf]) rfl ⟨_, rfl, .inl ⟨by rw [e0.out]; exact h0, by rw [e0.out]⟩, bf⟩
  case pos =>
    have hmay := hM.out h0
    rw [h0] at hE ⊢
    clear h0 hM
    by_cases h1 : data.length = 128
    case neg =>
      have d1 : ((data.length : Int) != 128) = true := by rw [bne_iff_ne]; omega
      have e0 : Hid (writeE bs ws a data = 3) := Lib.hid (by rw [hE.out, if_neg (by decide), if_pos h1])
      go_wp2_with fail
      have rf := row_set (row_set q2 0 (.slice none 0 0)) 1 (.slice none 0 0)
      have kf := cells_row rf
      have bf : Below w.heap.size w ((w2.setCell ⟨w.heap.size + 1, 0, none⟩ (.slice none 0 0)).setCell ⟨w.heap.size + 1, 1, none⟩ (.slice none 0 0)) := Below.setCell (Below.setCell x2 (p := ⟨w.heap.size + 1, 0, none⟩) (Nat.le_succ _) _) (p := ⟨w.heap.size + 1, 1, none⟩) (Nat.le_succ _) _
      exact bodyPost_ret (v := noDisk 3) (by simp [results, Try.results68, go_sem, kf]) rfl ⟨_, rfl, .inl ⟨by rw [e0.out]; decide, by rw [e0.out]⟩, bf⟩
    case pos =>
      have d1 : ((data.length : Int) != 128) = false := by rw [bne_eq_false_iff_eq]; omega
      by_cases h2 : ws.length = 4096
      case pos =>
        have d2 : ((ws.length : Int) == 4096) = true := by rw [beq_iff_eq]; omega
        have e0 : Hid (writeE bs ws a data = 9) := Lib.hid (by rw [hE.out, if_neg (by decide), if_neg (by omega), if_pos h2])
        go_wp2_with fail
        have rf := row_set (row_set q2 0 (.slice none 0 0)) 1 (.slice none 0 0)
        have kf := cells_row rf
        have bf : Below w.heap.size w ((w2.setCell ⟨w.heap.size + 1, 0, none⟩ (.slice none 0 0)).setCell ⟨w.heap.size + 1, 1, none⟩ (.slice none 0 0)) := Below.setCell (Below.setCell x2 (p := ⟨w.heap.size + 1, 0, none⟩) (Nat.le_succ _) _) (p := ⟨w.heap.size + 1, 1, none⟩) (Nat.le_succ _) _
        exact bodyPost_ret (v := noDisk 9) (by simp [results, Try.results68, go_sem, kf]) rfl ⟨_, rfl, .inl ⟨by rw [e0.out]; decide, by rw [e0.out]⟩, bf⟩
      case neg =>
        have d2 : ((ws.length : Int) == 4096) = false := by rw [beq_eq_false_iff_ne]; omega
        have e0 : Hid (writeE bs ws a data = 0) := Lib.hid (by rw [hE.out, if_neg (by decide), if_neg (by omega), if_neg h2])
        obtain ⟨hbl, hwl, hbe, hwe⟩ := diskMay_short hmay
        have HT2 := Lib.hid (HT.out hmay)
        have HC2 := Lib.hid (HC.out h1)
        clear HT HC
        clear hE
        go_wp2_with fail
        refine (HT2.out w2 x2).mono ?_
        rintro e w3 ⟨BB, WW, g, rfl, hD, hB⟩
        have hB3 : Ext w2 w3 := hB
        have x3 : Ext w w3 := x2.trans hB3
        have r3 := row_ext r2 hB3
        have q3 := row_ext q2 hB3
        clear r2 q2 k2 kq fq hB HT2
        go_wp2_with fail
        generalize hw4 : World.alloc w3 _ = w4
        have x34 : Ext w3 w4 := by rw [← hw4]; exact Ext.alloc _ _
        have t4 : w4.heap[w3.heap.size]? = some (.cells #[.slice (some ⟨BB, 0, none⟩) bs.length bs.length, .slice (some ⟨WW, 0, none⟩) ws.length (ws.length + 1)] 25 (0, 0)) := by rw [← hw4]; exact World.alloc_heap_at _ _ _ rfl
        clear hw4
        have hD4 := hD.keep (Nat.le_refl _) x34.size (fun b _ hb => x34.block b hb)
        obtain ⟨ps, hps, hown, hin⟩ := hD4.waits hwl
        have hpl : ps.length = ws.length := by rw [← hps, List.length_map]
        obtain ⟨l1, l2, l3, l4, l5, l6, l7⟩ := hD4.los
        have r4 := row_ext r3 x34
        have q4 := row_ext q3 x34
        have x4 : Ext w w4 := x3.trans x34
        have z23 := hB3.size
        have z34 := x34.size
        have zt := (Array.getElem?_eq_some_iff.1 t4).1
        have hWl : WW < w4.heap.size := by obtain ⟨_, h, _⟩ := hD4.ww; exact (Array.getElem?_eq_some_iff.1 h).1
        have hBl : BB < w4.heap.size := by obtain ⟨_, h, _⟩ := hD4.bb; exact (Array.getElem?_eq_some_iff.1 h).1
        have hW3 : WW ≠ w3.heap.size := by
          obtain ⟨_, h, _⟩ := hD4.ww
          exact ne_of_row h t4 (by decide)
        have hB3' : BB ≠ w3.heap.size := by
          obtain ⟨_, h, _⟩ := hD4.bb
          exact ne_of_row h t4 (by decide)
        have hg3 : g < w3.heap.size := hD.los.2.2.2.1
        have hvl : ∀ k, (Value.slice (some ⟨WW, 0, none⟩) ws.length (ws.length + 1)).ownBlock = some k → k = WW := fun k hk => by simp [Value.ownBlock] at hk; exact hk.symm
        have hv1 : ∀ k, (Value.slice (some ⟨WW, 0, none⟩) ws.length (ws.length + 1)).ownBlock = some k → k < w4.heap.size := fun k hk => by rw [hvl k hk]; exact hWl
        obtain ⟨i0, hi, hz0, hz1, hz2⟩ := info_parts Try.info_write
        obtain ⟨RR, hRR⟩ : ∃ RR : Rel, RR = appX w2.heap.size 137 2 w4.heap.size (.slice (some ⟨WW, 0, none⟩) ws.length (ws.length + 1)) ws.length (cells2 ps) (gW (a, data)) data := ⟨_, rfl⟩
        have g1 : ∀ W, RR.r w4 W → ∀ i, W.cell? ⟨w3.heap.size, i, none⟩ = #[.slice (some ⟨BB, 0, none⟩) bs.length bs.length, .slice (some ⟨WW, 0, none⟩) ws.length (ws.length + 1)][i]? := fun W h => cells_row (appX_row (hRR ▸ h) (fun e => hW3 (hvl _ e).symm) t4)
        replace hRR := Lib.hid hRR
        replace hD := Lib.hid hD
        replace hD4 := Lib.hid hD4
        replace hown := Lib.hid hown
        replace hin := Lib.hid hin
        replace hps := Lib.hid hps
        clear hD
        go_wp2_with fail
        refine region_start (by kernel_rfl) ?_
        refine any_freeT (w := w4) RR (outsAt [(4, outB w4.heap.size data.length data), (5, outW w4.heap.size a data), (6, outLitX w4.heap.size 137 (gW (a, data)) data), (7, outX w2.heap.size 137 2 w4.heap.size (.slice (some ⟨WW, 0, none⟩) ws.length (ws.length + 1)) ws.length (cells2 ps) (gW (a, data)) data)])
          [true, true, true, true, true, true, true, true, true] 1 (by kernel_rfl) (by kernel_rfl) (by kernel_rfl) (by kernel_rfl) (by kernel_rfl) (by kernel_rfl) (by kernel_rfl) ?st (Rel.drew _ _) ?walk
        case st => rw [hRR.out]; exact outsAt_stableG (by simp only [List.forall_mem_cons]; exact ⟨outB_stableX hv1, outW_stableX hv1, outLitX_stable hv1, outX_stable, fun _ h => by cases h⟩)
        case walk =>
          intro K hK
          dsimp only [maskOps]
          repeat ((first | (refine free_plainM ?_ (by rfl) (by rfl) (fun W hW _ => ⟨W, ?_, Rel.refl _ W⟩) ?_; rotate_left; (first | (go_simp; with_reducible rfl) | (go_simp; done))) | (refine free_skipM (by rfl) ?_)); try simp only [Act.put, one_f, outB_f, outNew_f, outI_f, outLitX_f, outX_f, outB_f, outW_f, List.setIfInBounds_toArray, List.set_cons_zero, List.set_cons_succ])
          refine free_hardM (outB w4.heap.size data.length data) (by rfl) (by rfl) (fun W hW _ => ?_) (fun p7 => ?_)
          · rw [hRR.out] at hW ⊢
            have hxW : Ext w W := ⟨hW.1.os.trans x4.os, hW.1.tape.trans x4.tape, hW.1.output.trans x4.output, Nat.le_trans x4.size hW.1.size, fun k hk => (hW.1.block k (Nat.lt_of_lt_of_le hk x4.size) (fun e => by have := hvl k e.symm; have := x2.size; omega)).trans (x4.block k hk)⟩
            refine hardAt_callG ?_ ((HC2.out W hxW).mono fun e w' h => ?_)
            · go_simp
            obtain ⟨u, rfl, hu, hB⟩ := h
            have h1 := IsB.of_own hu
            obtain ⟨A', c', rfl, _, _⟩ := own_slice hu
            exact ⟨(A', c'), rfl, ⟨Bys.of_own hu, (From.of_own hu).mono hW.1.size⟩, appX_ext hB⟩
          obtain ⟨A7, c7⟩ := p7
          simp only [Act.put, one_f, outB_f, outNew_f, outI_f, outLitX_f, outX_f, outB_f, outW_f, List.setIfInBounds_toArray, List.set_cons_zero, List.set_cons_succ]
          refine free_hardM (outW w4.heap.size a data) (by rfl) (by rfl) (fun W hW hp => ?_) (fun p7 => ?_)
          · rw [hRR.out] at hW ⊢
            have f7 := (hp 4 (by decide)).1
            refine hardAt_valueG (u := .agg #[.int .i64 a, .slice A7 data.length c7]) (w' := W) ?_ ⟨(A7, c7), rfl, f7, Rel.refl _ W⟩
            go_simp
          obtain ⟨A7, c7⟩ := p7
          simp only [Act.put, one_f, outB_f, outNew_f, outI_f, outLitX_f, outX_f, outB_f, outW_f, List.setIfInBounds_toArray, List.set_cons_zero, List.set_cons_succ]
          refine free_hardM (outLitX w4.heap.size 137 (gW (a, data)) data) (by rfl) (by rfl) (fun W hW hp => ?_) (fun p8 => ?_)
          · rw [hRR.out] at hW ⊢
            have f7 := (hp 5 (by decide)).1
            refine hardAt_litX (A := A7) (c := c7) ?_ hW.1.size f7.1 f7.2
            go_simp
          simp only [Act.put, one_f, outB_f, outNew_f, outI_f, outLitX_f, outX_f, outB_f, outW_f, List.setIfInBounds_toArray, List.set_cons_zero, List.set_cons_succ]
          refine free_hardM (outX w2.heap.size 137 2 w4.heap.size (.slice (some ⟨WW, 0, none⟩) ws.length (ws.length + 1)) ws.length (cells2 ps) (gW (a, data)) data) (by rfl) (by rfl) (fun W hW hp => ?_) (fun p9 => ?_)
          · rw [hRR.out] at hW ⊢
            obtain ⟨_, A8, c8, hcells, hB8, hF8⟩ := (hp 6 (by decide)).1
            obtain ⟨v', w', hrun, hD, hR'⟩ := run_append_X (P := Try.prog) (lo := w4.heap.size) (f := gW (a, data)) (l := data) W 23 23 i0 _ 32 Try.underlying23 hi hz0 hz1 hz2 rfl (by decide) (hW.2.1 hown.out) ⟨p8, 0, none⟩ A8 c8 rfl (row_adds hcells) (by simp [gW, Value.oneCell']) hB8 hF8 hv1 (by omega) (by decide) (by have := hW.1.size; omega) hW.1.size
            have hsl := hD
            obtain ⟨_, _, hDD, _⟩ := hsl
            obtain ⟨A', c', rfl, _, _⟩ := own_slice hDD.1
            refine hardAt_valueG (u := .slice A' (ws.length + 1) c') (w' := w') ?_ ⟨(A', c'), rfl, hD, hR'⟩
            exact exec_append (s := .tmp 29) (x := .tmp 34) rfl rfl rfl hrun
          obtain ⟨A9, c9⟩ := p9
          simp only [Act.put, one_f, outB_f, outNew_f, outI_f, outLitX_f, outX_f, outB_f, outW_f, List.setIfInBounds_toArray, List.set_cons_zero, List.set_cons_succ]
          repeat ((first | (refine free_plainM ?_ (by rfl) (by rfl) (fun W hW _ => ⟨W, ?_, Rel.refl _ W⟩) ?_; rotate_left; (first | (go_simp; with_reducible rfl) | (go_simp; done))) | (refine free_skipM (by rfl) ?_)); try simp only [Act.put, one_f, outB_f, outNew_f, outI_f, outLitX_f, outX_f, outB_f, outW_f, List.setIfInBounds_toArray, List.set_cons_zero, List.set_cons_succ])
          refine free_nilM (hK _ _ fun W hW hF => ?_)
          have hDX : DoneX _ _ _ _ _ _ _ _ _ (.slice A9 (ws.length + 1) c9) W := (hF 7).1
          clear hF hK g1
          rw [hRR.out] at hW
          dsimp only [List.drop, List.length_cons, List.length_nil]
          have tW := appX_row hW (fun e => hW3 (hvl _ e).symm) t4
          have qW := appX_row hW (fun e => by have := hvl _ e; omega) q4
          have kt := cells_row tW
          have ft := frozen_row tW
          have kq := cells_row qW
          have fq := frozen_row qW
          have zW := hW.1.size
          obtain ⟨A10, c10, hDn, hBd, hFd, _⟩ := hDX
          have hbW : Below w.heap.size w W := ⟨hW.1.os.trans x4.os, hW.1.tape.trans x4.tape, hW.1.output.trans x4.output, Nat.le_trans x4.size zW, fun k hk => (hW.1.block k (by have := x4.size; omega) (fun e => by have := hvl k e.symm; omega)).trans (x4.block k hk)⟩
          have hgW : ∀ b, b < w4.heap.size → b ≠ WW → W.heap[b]? = w4.heap[b]? := fun b h1 h2 => hW.1.block b h1 (fun e => h2 (hvl b e.symm))
          replace hDn := Lib.hid hDn
          replace hBd := Lib.hid hBd
          replace hgW := Lib.hid hgW
          clear hW t4 q4 r4 r3 q3
          go_wp2
          refine QN_in ?_
          go_wp2_with fail
          have hl1 : (ws ++ [(a, data)]).length = ws.length + 1 := by simp
          have rf := row_set (row_set ((Below.heap_setCell W ⟨w3.heap.size, 1, none⟩ (.slice A9 (ws.length + 1) c9) (w.heap.size + 1) (by show w.heap.size + 1 ≠ w3.heap.size; omega)).trans qW) 0 (.slice (some ⟨BB, 0, none⟩) bs.length bs.length)) 1 (.slice A9 (ws.length + 1) c9)
          have kf := cells_row rf
          have st : ∀ b, b ≠ w3.heap.size → b ≠ w.heap.size + 1 → (((W.setCell ⟨w3.heap.size, 1, none⟩ (.slice A9 (ws.length + 1) c9)).setCell ⟨w.heap.size + 1, 0, none⟩ (.slice (some ⟨BB, 0, none⟩) bs.length bs.length)).setCell ⟨w.heap.size + 1, 1, none⟩ (.slice A9 (ws.length + 1) c9)).heap[b]? = W.heap[b]? := fun b h1 h2 => (Below.heap_setCell _ _ _ _ h2).trans ((Below.heap_setCell _ _ _ _ h2).trans (Below.heap_setCell _ _ _ _ h1))
          have hz : (((W.setCell ⟨w3.heap.size, 1, none⟩ (.slice A9 (ws.length + 1) c9)).setCell ⟨w.heap.size + 1, 0, none⟩ (.slice (some ⟨BB, 0, none⟩) bs.length bs.length)).setCell ⟨w.heap.size + 1, 1, none⟩ (.slice A9 (ws.length + 1) c9)).heap.size = W.heap.size := by simp
          have bf : Below w.heap.size w (((W.setCell ⟨w3.heap.size, 1, none⟩ (.slice A9 (ws.length + 1) c9)).setCell ⟨w.heap.size + 1, 0, none⟩ (.slice (some ⟨BB, 0, none⟩) bs.length bs.length)).setCell ⟨w.heap.size + 1, 1, none⟩ (.slice A9 (ws.length + 1) c9)) := Below.setCell (Below.setCell (Below.setCell hbW (p := ⟨w3.heap.size, 1, none⟩) (by show w.heap.size ≤ w3.heap.size; omega) _) (p := ⟨w.heap.size + 1, 0, none⟩) (Nat.le_succ _) _) (p := ⟨w.heap.size + 1, 1, none⟩) (Nat.le_succ _) _
          generalize World.setCell (World.setCell (World.setCell W _ _) _ _) _ _ = wf at *
          refine bodyPost_ret (v := .tuple #[diskV (some ⟨BB, 0, none⟩) bs.length bs.length A9 (ws.length + 1) c9, .int .i64 0]) (by simp [results, Try.results68, go_sem, kf]) rfl ⟨_, rfl, .inr ⟨e0.out, _, rfl, some ⟨BB, 0, none⟩, bs.length, A9, c9, by rw [hl1], fun W2 hk => ?_⟩, bf⟩
          rw [hz] at hk ⊢
          have hcell : ∀ b, w.heap.size ≤ b → b < w4.heap.size → b ≠ WW → b ≠ w3.heap.size → b ≠ w.heap.size + 1 → ∀ j, W2.cell? ⟨b, j, none⟩ = w4.cell? ⟨b, j, none⟩ := fun b h1 h2 h3 h4 h5 j => (hk ⟨b, j, none⟩ h1 (by show b < W.heap.size; omega)).trans ((World.cell?_of_block (a := ⟨b, j, none⟩) (st b h4 h5)).trans (World.cell?_of_block (a := ⟨b, j, none⟩) (hgW.out b h2 h3)))
          have hgc := hcell g (by omega) l4 (fun e => l7 e.symm) (by omega) (by omega)
          refine ⟨(hD4.out.blocks hbl hbe W2 (hcell BB (by omega) hBl l5 hB3' (by omega)) hgc).more zW, ?_⟩
          have hOw := hDn.out.1
          have hlt := own_lt hOw
          have hA9 : ∀ k, (Value.slice A9 (ws.length + 1) c9).ownBlock = some k → k ≠ w3.heap.size ∧ k ≠ w.heap.size + 1 := fun k hk => by
            have h1 := hlt k hk
            rcases hDn.out.2 with h2 | ⟨q, h2, h3⟩
            · have := hvl k (h2 ▸ hk)
              omega
            · have : k = q := by rw [hk] at h2; exact Option.some.inj h2
              omega
          obtain ⟨B9, d9, e9, hn9, hm9⟩ := own_slice hOw
          cases e9
          obtain ⟨g9, rfl⟩ : ∃ g9, A9 = some ⟨g9, 0, none⟩ := by
            rcases hOw.2 with ⟨_, h0⟩ | ⟨g9, _, _, e, _⟩
            · omega
            · cases e; exact ⟨g9, rfl⟩
          refine ⟨ps ++ [((a, data), .slice A10 data.length c10)], by rw [List.map_append, hps.out]; rfl, ⟨some ⟨g9, 0, none⟩, c9, by rw [hl1], by rw [hl1]; exact hn9, hm9, ?_⟩, fun p hp => ?_⟩
          · rw [hl1]
            have hR := Rd.of_own hOw
            refine ⟨by rw [cells2_append]; exact hR.1, fun hn => ?_⟩
            obtain ⟨b, off, eA, hb, hc⟩ := hR.2 hn
            cases eA
            have hbk := hA9 g9 rfl
            refine ⟨g9, 0, rfl, hb, fun j u hu => ?_⟩
            rw [cells2_append] at hu
            have h2 := hlt g9 rfl
            exact (hk ⟨g9, 0 + j, none⟩ (by show w.heap.size ≤ g9; omega) hb).trans ((World.cell?_of_block (a := ⟨g9, 0 + j, none⟩) (st g9 hbk.1 hbk.2)).trans (hc j u hu))
          · rcases List.mem_append.1 hp with hp | hp
            · obtain ⟨F, hI⟩ := hin.out p hp
              have hI2 := hI.cells hgc
              have hp1 : p.1 ∈ ws := by rw [← hps.out]; exact List.mem_map.2 ⟨p, hp, rfl⟩
              have hp2 := hwe _ hp1
              have hby := hI2.bys (B := W.heap.size) (by omega) (by unfold maxLen; omega)
              obtain ⟨o, e, _⟩ := hI
              exact ⟨⟨_, _, e⟩, hby⟩
            · have : p = ((a, data), .slice A10 data.length c10) := by simpa using hp
              subst this
              refine ⟨⟨A10, c10, rfl⟩, hBd.out.keepN hFd fun q h1 h2 => (hk q (by omega) h2).trans (World.cell?_of_block (st q.block (by omega) (by omega)))⟩
end Go.Proofs.Ytlgbjpihmkeopaa
