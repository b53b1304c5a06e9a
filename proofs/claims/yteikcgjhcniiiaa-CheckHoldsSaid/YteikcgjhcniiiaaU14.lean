/- Texts RTwin, IWrite, Seal, NWrite, Make0, joined. -/
import Derived.Test.YteikcgjhcniiiaaU01
import Derived.Test.YteikcgjhcniiiaaU03
import Derived.Test.YteikcgjhcniiiaaU04
import Derived.Test.YteikcgjhcniiiaaU07
import Derived.Test.YteikcgjhcniiiaaU08
import Derived.Test.YteikcgjhcniiiaaU09
import Derived.Test.YteikcgjhcniiiaaU10
import Derived.Test.YteikcgjhcniiiaaU13
/- Contracts: the twin of a store, of the program; a bench's store. -/
namespace Go.Proofs.Yteikcgjhcniiiaa
set_option linter.unusedSimpArgs false
set_option linter.unusedVariables false
open Go.RowKit

/-- a twin of a disk -/
def outDT (lo : Nat) (bs : List (List UInt8)) (ws : List (Int × List UInt8)) : Outs := ⟨Nat × Nat × Nat, fun p => diskV (some ⟨p.1, 0, none⟩) bs.length bs.length (some ⟨p.2.1, 0, none⟩) ws.length (ws.length + 1), fun p W => DiskT lo bs ws p.1 p.2.1 p.2.2 W⟩
theorem outDT_f (lo : Nat) (bs : List (List UInt8)) (ws : List (Int × List UInt8)) (b c g : Nat) : (outDT lo bs ws).f (b, c, g) = diskV (some ⟨b, 0, none⟩) bs.length bs.length (some ⟨c, 0, none⟩) ws.length (ws.length + 1) := rfl
theorem outDT_stable (lo : Nat) (bs : List (List UInt8)) (ws : List (Int × List UInt8)) : ∀ p, StableG extRel ((outDT lo bs ws).φ p) := fun p W W' he h => by
  have he : Ext W W' := he
  exact DiskT.keep h (Nat.le_refl _) he.size fun b _ hb => he.block b hb
/-- a slice of bytes of the call's own -/
def outOwn (lo : Nat) (l : List UInt8) : Outs := ⟨Option Addr × Nat, fun p => .slice p.1 l.length p.2, fun p W => W.ownsRow lo 5 1 (.slice p.1 l.length p.2) l.length (l.map bv)⟩
theorem outOwn_f (lo : Nat) (l : List UInt8) (A : Option Addr) (c : Nat) : (outOwn lo l).f (A, c) = .slice A l.length c := rfl
theorem outOwn_stable (lo : Nat) (l : List UInt8) : ∀ p, StableG extRel ((outOwn lo l).φ p) := fun p W W' he h => own_ext h he
/-- a row that lies on in another world -/
theorem own_keep {w w' : World} {lo : Nat} {e : TypeId} {size : Nat} {v : Value} {n : Nat} {xs : List Value} (h : w.ownsRow lo e size v n xs) (hk : ∀ b, lo ≤ b → b < w.heap.size → w'.heap[b]? = w.heap[b]?) : w'.ownsRow lo e size v n xs :=
  ⟨h.1, h.2.imp id fun ⟨g, cap, cur, h1, h2, h3, h4⟩ => ⟨g, cap, cur, h1, h2, (hk g h2 (Array.getElem?_eq_some_iff.1 h3).1).trans h3, h4⟩⟩
/-- a twin of a store, in blocks from lo on -/
def TwinT (lo : Nat) (S : Sto) (u : Value) (W : World) : Prop := ∃ BB WW g A3 c3 A4 c4, u = storeV (some ⟨BB, 0, none⟩) S.bs.length S.bs.length (some ⟨WW, 0, none⟩) S.ws.length (S.ws.length + 1) A3 S.now.length c3 A4 S.last.length c4 ∧ DiskT lo S.bs S.ws BB WW g W ∧
  W.ownsRow lo 5 1 (.slice A3 S.now.length c3) S.now.length (S.now.map bv) ∧ W.ownsRow lo 5 1 (.slice A4 S.last.length c4) S.last.length (S.last.map bv)
theorem TwinT.keep {lo lo' : Nat} {S : Sto} {u : Value} {W W2 : World} (h : TwinT lo S u W) (hl : lo' ≤ lo) (hs : W.heap.size ≤ W2.heap.size) (hk : ∀ b, lo ≤ b → b < W.heap.size → W2.heap[b]? = W.heap[b]?) : TwinT lo' S u W2 := by
  obtain ⟨BB, WW, g, A3, c3, A4, c4, e, h1, h2, h3⟩ := h
  exact ⟨BB, WW, g, A3, c3, A4, c4, e, h1.keep hl hs hk, own_mono (own_keep h2 hk) hl, own_mono (own_keep h3 hk) hl⟩
theorem TwinT.twin {lo : Nat} {S : Sto} {u : Value} {W : World} (h : TwinT lo S u W) (hS : Short S) : TwinS lo S u W := by
  obtain ⟨BB, WW, g, A3, c3, A4, c4, e, h1, h2, h3⟩ := h
  refine ⟨_, _, _, _, A3, c3, A4, c4, e, fun W2 hk => ?_⟩
  obtain ⟨k1, k2⟩ := h1.reads hS.bs hS.ws hS.be hS.we W2 hk
  exact ⟨k1, k2, (Bys.of_own h2).keepN (From.of_own h2) hk, (Bys.of_own h3).keepN (From.of_own h3) hk⟩
theorem TwinS.sto {lo : Nat} {S : Sto} {u : Value} {W : World} (h : TwinS lo S u W) : ∃ A1 c1 A2 c2 A3 c3 A4 c4, u = storeV A1 S.bs.length c1 A2 S.ws.length c2 A3 S.now.length c3 A4 S.last.length c4 ∧ StoAt W W.heap.size (.slice A1 S.bs.length c1) (.slice A2 S.ws.length c2) (.slice A3 S.now.length c3) (.slice A4 S.last.length c4) S := by
  obtain ⟨A1, c1, A2, c2, A3, c3, A4, c4, e, h1⟩ := h
  exact ⟨A1, c1, A2, c2, A3, c3, A4, c4, e, h1 W fun _ _ _ => rfl⟩

set_option maxHeartbeats 2000000 in
set_option maxRecDepth 100000 in
theorem rtwin_any (A1 : Option Addr) (n1 c1 : Nat) (A2 : Option Addr) (n2 c2 : Nat) (A3 : Option Addr) (n3 c3 : Nat) (A4 : Option Addr) (n4 c4 : Nat) (S : Sto) (hS : Short S) (w : World) (h : StoAt w w.heap.size (.slice A1 n1 c1) (.slice A2 n2 c2) (.slice A3 n3 c3) (.slice A4 n4 c4) S) :
    Calls Try.prog 72 #[storeV A1 n1 c1 A2 n2 c2 A3 n3 c3 A4 n4 c4] w (RetS (TwinT w.heap.size S) w) := by
  have HD := Lib.hid (fun W (hW : Ext w W) => dtwin_any A1 n1 c1 A2 n2 c2 S.bs S.ws hS.bs hS.ws hS.be hS.we W (h.ext hW).bs (h.ext hW).ws)
  have HN := Lib.hid (fun W (hW : Ext w W) => bclone_any _ S.now (by have := hS.now; omega) W (h.ext hW).now)
  have HL := Lib.hid (fun W (hW : Ext w W) => bclone_any _ S.last (by have := hS.last; omega) W (h.ext hW).last)
  clear h hS
  go_enter Try.func72, Try.ntmps72
  go_wp2_with fail
  generalize hw1 : (World.alloc (World.alloc _ _) _) = w1
  have x1 : Ext w w1 := by rw [← hw1]; exact (Ext.alloc _ _).trans (Ext.alloc _ _)
  have r1 : w1.heap[w.heap.size]? = some (.cells #[.slice A1 n1 c1, .slice A2 n2 c2, .slice A3 n3 c3, .slice A4 n4 c4] 28 (0, 0)) := by rw [← hw1]; exact (Below.heap_alloc _ _ _ (by simp)).trans (World.alloc_heap_at _ _ _ rfl)
  have q1 : w1.heap[w.heap.size + 1]? = some (.cells #[.slice none 0 0, .slice none 0 0, .slice none 0 0, .slice none 0 0] 28 (0, 0)) := by rw [← hw1]; exact World.alloc_heap_at _ _ _ (by simp)
  clear hw1
  have g1 : ∀ W, extRel.r w1 W → ∀ i, W.cell? ⟨w.heap.size, i, none⟩ = #[.slice A1 n1 c1, .slice A2 n2 c2, .slice A3 n3 c3, .slice A4 n4 c4][i]? := fun W h => cells_row (row_ext r1 h)
  refine region_start (by kernel_rfl) ?_
  refine any_freeT (w := w1) extRel (outsAt [(2, outDT w1.heap.size S.bs S.ws), (5, outOwn w1.heap.size S.now), (8, outOwn w1.heap.size S.last)])
    [true, true, true, true, true, true, true, true, true, true] 1 (by kernel_rfl) (by kernel_rfl) (by kernel_rfl) (by kernel_rfl) (by kernel_rfl) (by kernel_rfl) (by kernel_rfl) ?st (Rel.drew _ _) ?walk
  case st => exact outsAt_stableG (by simp only [List.forall_mem_cons]; exact ⟨outDT_stable _ _ _, outOwn_stable _ _, outOwn_stable _ _, fun _ h => by cases h⟩)
  case walk =>
    intro K hK
    dsimp only [maskOps]
    repeat (first | (refine free_plainM ?_ (by rfl) (by rfl) (fun W hW _ => ⟨W, ?_, Rel.refl _ W⟩) ?_; rotate_left; (first | (go_simp; with_reducible rfl) | (go_simp; done)); try simp only [Act.put, one_f, outB_f, outNew_f, outI_f, outDT_f, outOwn_f, List.setIfInBounds_toArray, List.set_cons_zero, List.set_cons_succ]) | (refine free_skipM (by rfl) ?_; simp only [Act.put, one_f, outB_f, outNew_f, outI_f, outDT_f, outOwn_f, List.setIfInBounds_toArray, List.set_cons_zero, List.set_cons_succ]))
    refine free_hardM (outDT w1.heap.size S.bs S.ws) (by rfl) (by rfl) (fun W hW _ => ?_) (fun p => ?_)
    · refine hardAt_callG ?_ ((HD.out W (Ext.trans x1 hW)).mono fun e w' h => ?_)
      · go_simp
      have hW : Ext w1 W := hW
      obtain ⟨b, c, g, rfl, h1, hB⟩ := h
      exact ⟨(b, c, g), rfl, h1.keep hW.size (Nat.le_refl _) (fun _ _ _ => rfl), hB⟩
    obtain ⟨bb, cc, gg⟩ := p
    simp only [Act.put, one_f, outB_f, outNew_f, outI_f, outDT_f, outOwn_f, List.setIfInBounds_toArray, List.set_cons_zero, List.set_cons_succ]
    repeat (first | (refine free_plainM ?_ (by rfl) (by rfl) (fun W hW _ => ⟨W, ?_, Rel.refl _ W⟩) ?_; rotate_left; (first | (go_simp; with_reducible rfl) | (go_simp; done)); try simp only [Act.put, one_f, outB_f, outNew_f, outI_f, outDT_f, outOwn_f, List.setIfInBounds_toArray, List.set_cons_zero, List.set_cons_succ]) | (refine free_skipM (by rfl) ?_; simp only [Act.put, one_f, outB_f, outNew_f, outI_f, outDT_f, outOwn_f, List.setIfInBounds_toArray, List.set_cons_zero, List.set_cons_succ]))
    refine free_hardM (outOwn w1.heap.size S.now) (by rfl) (by rfl) (fun W hW _ => ?_) (fun p => ?_)
    · refine hardAt_callG ?_ ((HN.out W (Ext.trans x1 hW)).mono fun e w' h => ?_)
      · go_simp
      have hW : Ext w1 W := hW
      obtain ⟨u, rfl, hu, hB⟩ := h
      obtain ⟨A, c, rfl, _, _⟩ := own_slice hu
      exact ⟨(A, c), rfl, own_mono hu hW.size, hB⟩
    obtain ⟨B3, d3⟩ := p
    simp only [Act.put, one_f, outB_f, outNew_f, outI_f, outDT_f, outOwn_f, List.setIfInBounds_toArray, List.set_cons_zero, List.set_cons_succ]
    repeat (first | (refine free_plainM ?_ (by rfl) (by rfl) (fun W hW _ => ⟨W, ?_, Rel.refl _ W⟩) ?_; rotate_left; (first | (go_simp; with_reducible rfl) | (go_simp; done)); try simp only [Act.put, one_f, outB_f, outNew_f, outI_f, outDT_f, outOwn_f, List.setIfInBounds_toArray, List.set_cons_zero, List.set_cons_succ]) | (refine free_skipM (by rfl) ?_; simp only [Act.put, one_f, outB_f, outNew_f, outI_f, outDT_f, outOwn_f, List.setIfInBounds_toArray, List.set_cons_zero, List.set_cons_succ]))
    refine free_hardM (outOwn w1.heap.size S.last) (by rfl) (by rfl) (fun W hW _ => ?_) (fun p => ?_)
    · refine hardAt_callG ?_ ((HL.out W (Ext.trans x1 hW)).mono fun e w' h => ?_)
      · go_simp
      have hW : Ext w1 W := hW
      obtain ⟨u, rfl, hu, hB⟩ := h
      obtain ⟨A, c, rfl, _, _⟩ := own_slice hu
      exact ⟨(A, c), rfl, own_mono hu hW.size, hB⟩
    obtain ⟨B4, d4⟩ := p
    simp only [Act.put, one_f, outB_f, outNew_f, outI_f, outDT_f, outOwn_f, List.setIfInBounds_toArray, List.set_cons_zero, List.set_cons_succ]
    repeat (first | (refine free_plainM ?_ (by rfl) (by rfl) (fun W hW _ => ⟨W, ?_, Rel.refl _ W⟩) ?_; rotate_left; (first | (go_simp; with_reducible rfl) | (go_simp; done)); try simp only [Act.put, one_f, outB_f, outNew_f, outI_f, outDT_f, outOwn_f, List.setIfInBounds_toArray, List.set_cons_zero, List.set_cons_succ]) | (refine free_skipM (by rfl) ?_; simp only [Act.put, one_f, outB_f, outNew_f, outI_f, outDT_f, outOwn_f, List.setIfInBounds_toArray, List.set_cons_zero, List.set_cons_succ]))
    refine free_nilM (hK _ _ fun W hW hF => ?_)
    have hD : DiskT w1.heap.size S.bs S.ws bb cc gg W := (hF 2).1
    have hN : W.ownsRow w1.heap.size 5 1 (.slice B3 S.now.length d3) S.now.length (S.now.map bv) := (hF 5).1
    have hL : W.ownsRow w1.heap.size 5 1 (.slice B4 S.last.length d4) S.last.length (S.last.map bv) := (hF 8).1
    have hW : Ext w1 W := hW
    clear hF hK g1
    dsimp only [List.drop, List.length_cons, List.length_nil]
    have qW := row_ext q1 hW
    have kW := cells_row qW
    have fW := frozen_row qW
    have hz : w.heap.size + 1 < w1.heap.size := (Array.getElem?_eq_some_iff.1 q1).1
    have P5 : ∀ wx : World, wx = setAll W (w.heap.size + 1) 0 [.slice (some ⟨bb, 0, none⟩) S.bs.length S.bs.length, .slice (some ⟨cc, 0, none⟩) S.ws.length (S.ws.length + 1), .slice B3 S.now.length d3, .slice B4 S.last.length d4] →
        wx.heap[w.heap.size + 1]? = some (.cells #[.slice (some ⟨bb, 0, none⟩) S.bs.length S.bs.length, .slice (some ⟨cc, 0, none⟩) S.ws.length (S.ws.length + 1), .slice B3 S.now.length d3, .slice B4 S.last.length d4] 28 (0, 0)) ∧ Below w.heap.size w wx ∧
          TwinT w.heap.size S (storeV (some ⟨bb, 0, none⟩) S.bs.length S.bs.length (some ⟨cc, 0, none⟩) S.ws.length (S.ws.length + 1) B3 S.now.length d3 B4 S.last.length d4) wx := fun wx e => by
      have hk : ∀ b, w1.heap.size ≤ b → b < W.heap.size → wx.heap[b]? = W.heap[b]? := fun b h1 _ => by rw [e]; exact setAll_other (by omega) _ _ _
      have hs : W.heap.size ≤ wx.heap.size := by rw [e, setAll_size]; exact Nat.le_refl _
      refine ⟨by rw [e]; refine (setAll_row _ _ _ _ qW).trans ?_; simp [setIfs], by rw [e]; exact setAll_below (Nat.le_succ _) _ _ _ (Ext.trans x1 hW), bb, cc, gg, B3, d3, B4, d4, rfl, hD.keep (by omega) hs hk, own_mono (own_keep hN hk) (by omega), own_mono (own_keep hL hk) (by omega)⟩
    replace P5 := Lib.hid P5
    clear hD hN hL qW hW
    go_wp2
    refine QN_in ?_
    go_wp2_with fail
    have P5 := P5.out
    generalize hw5 : World.setCell (World.setCell (World.setCell (World.setCell W _ _) _ _) _ _) _ _ = w5
    obtain ⟨r5, x5, h5⟩ := P5 w5 hw5.symm
    clear P5 hw5
    have k5 := cells_row r5
    exact bodyPost_ret (v := storeV (some ⟨bb, 0, none⟩) S.bs.length S.bs.length (some ⟨cc, 0, none⟩) S.ws.length (S.ws.length + 1) B3 S.now.length d3 B4 S.last.length d4) (by simp [results, Try.results72, go_sem, k5]) rfl ⟨_, rfl, h5, x5⟩

set_option maxHeartbeats 1000000 in
set_option maxRecDepth 100000 in
theorem bstore_any (b : Nat) (A1 : Option Addr) (n1 c1 : Nat) (A2 : Option Addr) (n2 c2 : Nat) (A3 : Option Addr) (n3 c3 : Nat) (A4 : Option Addr) (n4 c4 : Nat) (S : Sto) (hS : Short S) (w : World) (hr : w.heap[b]? = some (.cells #[.slice A1 n1 c1, .slice A2 n2 c2, .slice A3 n3 c3, .slice A4 n4 c4] 172 (0, 0)))
    (h : StoAt w w.heap.size (.slice A1 n1 c1) (.slice A2 n2 c2) (.slice A3 n3 c3) (.slice A4 n4 c4) S) :
    Calls Try.prog 93 #[.pointer (some ⟨b, 0, none⟩)] w (RetS (TwinT w.heap.size S) w) := by
  have HT := Lib.hid (fun W (hW : Ext w W) => rtwin_any A1 n1 c1 A2 n2 c2 A3 n3 c3 A4 n4 c4 S hS W (h.ext hW))
  clear h hS
  have k0 := cells_row hr
  have zb : b < w.heap.size := (Array.getElem?_eq_some_iff.1 hr).1
  go_enter Try.func93, Try.ntmps93
  go_wp2_with fail
  generalize hw1 : World.alloc _ _ = w1
  have x1 : Ext w w1 := by rw [← hw1]; exact Ext.alloc _ _
  have q1 : w1.heap[w.heap.size]? = some (.cells #[.slice none 0 0, .slice none 0 0, .slice none 0 0, .slice none 0 0] 28 (0, 0)) := by rw [← hw1]; exact World.alloc_heap_at _ _ _ (by simp)
  clear hw1 k0
  refine (HT.out w1 x1).mono ?_
  rintro e w2 ⟨u, rfl, hT, hB⟩
  have hB : Ext w1 w2 := hB
  have q2 := row_ext q1 hB
  have kq := cells_row q2
  have fq := frozen_row q2
  have z1 : w.heap.size < w1.heap.size := (Array.getElem?_eq_some_iff.1 q1).1
  obtain ⟨BB, WW, g, B3, d3, B4, d4, rfl, hD, hN, hL⟩ := hT
  have P5 : ∀ wx : World, wx = setAll w2 w.heap.size 0 [.slice (some ⟨BB, 0, none⟩) S.bs.length S.bs.length, .slice (some ⟨WW, 0, none⟩) S.ws.length (S.ws.length + 1), .slice B3 S.now.length d3, .slice B4 S.last.length d4] →
      wx.heap[w.heap.size]? = some (.cells #[.slice (some ⟨BB, 0, none⟩) S.bs.length S.bs.length, .slice (some ⟨WW, 0, none⟩) S.ws.length (S.ws.length + 1), .slice B3 S.now.length d3, .slice B4 S.last.length d4] 28 (0, 0)) ∧ Below w.heap.size w wx ∧
        TwinT w.heap.size S (storeV (some ⟨BB, 0, none⟩) S.bs.length S.bs.length (some ⟨WW, 0, none⟩) S.ws.length (S.ws.length + 1) B3 S.now.length d3 B4 S.last.length d4) wx := fun wx e => by
    have hk : ∀ b, w1.heap.size ≤ b → b < w2.heap.size → wx.heap[b]? = w2.heap[b]? := fun b h1 _ => by rw [e]; exact setAll_other (by omega) _ _ _
    have hs : w2.heap.size ≤ wx.heap.size := by rw [e, setAll_size]; exact Nat.le_refl _
    refine ⟨by rw [e]; refine (setAll_row _ _ _ _ q2).trans ?_; simp [setIfs], by rw [e]; exact setAll_below (Nat.le_refl _) _ _ _ (x1.trans hB), BB, WW, g, B3, d3, B4, d4, rfl, hD.keep (by omega) hs hk, own_mono (own_keep hN hk) (by omega), own_mono (own_keep hL hk) (by omega)⟩
  replace P5 := Lib.hid P5
  clear hD hN hL q2 hB q1
  go_wp2_with fail
  have P5 := P5.out
  generalize hw5 : World.setCell (World.setCell (World.setCell (World.setCell w2 _ _) _ _) _ _) _ _ = w5
  obtain ⟨r5, x5, h5⟩ := P5 w5 hw5.symm
  clear P5 hw5
  have k5 := cells_row r5
  exact bodyPost_ret (v := storeV (some ⟨BB, 0, none⟩) S.bs.length S.bs.length (some ⟨WW, 0, none⟩) S.ws.length (S.ws.length + 1) B3 S.now.length d3 B4 S.last.length d4) (by simp [results, Try.results93, go_sem, k5]) rfl ⟨_, rfl, h5, x5⟩
end Go.Proofs.Yteikcgjhcniiiaa
/- Contracts: an item's bytes. -/
namespace Go.Proofs.Yteikcgjhcniiiaa
set_option linter.unusedSimpArgs false
set_option linter.unusedVariables false
open Go.RowKit

set_option maxHeartbeats 4000000 in
set_option maxRecDepth 100000 in
theorem iwrite_any (x : It) (hx : ItOk x) (hb : itB x.r x.val.length = true) (A : Option Addr) (c : Nat) (w : World) (h : Bys w w.heap.size (.slice A x.val.length c) x.val) :
    Calls Try.prog 147 #[itemV x.k x.i x.o x.r A x.val.length c] w (RetS (IsB0 w.heap.size (12 + x.val.length) (itBytes x)) w) := by
  have HC := Lib.hid (fun W => icheck_any x.k x.i x.o x.r A x.val.length c W)
  rw [hb, show errOf true = 0 from rfl] at HC
  obtain ⟨kk, ki, ko, kr, l⟩ := x
  obtain ⟨⟨hk1, hk2⟩, ⟨hi1, hi2⟩, ⟨ho1, ho2⟩, ⟨hr1, hr2⟩, hl⟩ := hx
  dsimp only at *
  clear hb
  obtain ⟨k, rfl⟩ := Int.eq_ofNat_of_zero_le hk1
  obtain ⟨i, rfl⟩ := Int.eq_ofNat_of_zero_le hi1
  obtain ⟨o, rfl⟩ := Int.eq_ofNat_of_zero_le ho1
  obtain ⟨r, rfl⟩ := Int.eq_ofNat_of_zero_le hr1
  have HB : Hid (itBytes ⟨k, i, o, r, l⟩ = [[UInt8.ofNat k], bytesOf i 4, bytesOf o 4, bytesOf r 2, [UInt8.ofNat l.length], l].flatten) := by
    refine Lib.hid ?_
    simp [itBytes]
  have hkb : bv (UInt8.ofNat k) = .int .u8 (k : Int) := by simp [bv]; omega
  have hlb : bv (UInt8.ofNat l.length) = .int .u8 ((l.length : Nat) : Int) := by simp [bv]; omega
  have HL : Hid ([[UInt8.ofNat k], bytesOf i 4, bytesOf o 4, bytesOf r 2, [UInt8.ofNat l.length], l].flatten.length = 12 + l.length) := by
    refine Lib.hid ?_
    simp [bytesOf_len]
    omega
  have hcv : IntKind.u8.wrap ((l.length : Nat) : Int) = ((l.length : Nat) : Int) := by simp [IntKind.wrap, IntKind.bits, IntKind.signed]; omega
  replace hkb := Lib.hid hkb
  replace hlb := Lib.hid hlb
  replace h := Lib.hid h
  rw [HB.out]
  clear HB
  generalize hFL : [[UInt8.ofNat k], bytesOf i 4, bytesOf o 4, bytesOf r 2, [UInt8.ofNat l.length], l] = FL at *
  go_enter Try.func147, Try.ntmps147
  go_wp2_with fail
  generalize hw1 : World.alloc w _ = w1
  have x1 : Ext w w1 := by rw [← hw1]; exact Ext.alloc _ _
  have r1 : w1.heap[w.heap.size]? = some (.cells #[.int .u8 k, .int .u32 i, .int .u32 o, .int .i64 r, .slice A l.length c] 155 (0, 0)) := by rw [← hw1]; exact World.alloc_heap_at _ _ _ rfl
  clear hw1
  refine (HC.out w1).mono ?_
  rintro e w2 ⟨rfl, hB⟩
  have x2 : Ext w w2 := Ext.trans x1 hB
  have r2 := row_ext r1 hB
  have k2 := cells_row r2
  clear hB r1 x1 HC
  go_wp2_with fail
  refine (two_any r (by omega) _).mono ?_
  rintro e w3 ⟨u, rfl, ⟨u2, rfl, A2, c2, rfl, hb2, hf2⟩, hB⟩
  have x3 : Ext w w3 := Ext.trans x2 hB
  have r3 := row_ext r2 hB
  have z3 := x2.size
  clear hB k2 r2 x2
  go_wp2_with fail
  have hE : ∀ W, Ext w3 W → ∀ j, W.cell? ⟨w.heap.size, j, none⟩ = #[.int .u8 k, .int .u32 i, .int .u32 o, .int .i64 r, .slice A l.length c][j]? := fun W h => cells_row (row_ext r3 h)
  refine wp_region_free (outsAt [(3, outLit w3.heap.size 1 5 #[.int .u8 k]), (7, outB w3.heap.size 4 (bytesOf i 4)), (11, outB w3.heap.size 4 (bytesOf o 4)), (17, outLit w3.heap.size 1 5 #[.int .u8 (l.length : Nat)]), (20, outLitS w3.heap.size 6 26 (Reads FL)), (21, outB w3.heap.size (12 + l.length) FL.flatten)]) 22 (by kernel_rfl) (by kernel_rfl) (by kernel_rfl) (by decide) (by kernel_rfl) (by kernel_rfl) ?st ?walk
  case st => exact outsAt_stable (by simp only [List.forall_mem_cons]; exact ⟨outLit_stable _ _ _ _, outB_stable _ _ _, outB_stable _ _ _, outLit_stable _ _ _ _, outLitS_stable (Reads.stable _), outB_stable _ _ _, fun _ h => by cases h⟩)
  case walk =>
    intro K hK
    dsimp only [List.take]
    repeat (first | (refine free_plain ?_ (by rfl) (by rfl) (fun W hW _ => ⟨W, ?_, Ext.refl W⟩) ?_; rotate_left; (first | (go_simp; with_reducible rfl) | (go_simp; done)); try simp only [Act.put, one_f, outB_f, outNew_f, outI_f, outLit_f, outLitS_f, outB_f, List.setIfInBounds_toArray, List.set_cons_zero, List.set_cons_succ]) | (refine free_skip (by rfl) ?_; simp only [Act.put, one_f, outB_f, outNew_f, outI_f, outLit_f, outLitS_f, outB_f, List.setIfInBounds_toArray, List.set_cons_zero, List.set_cons_succ]))
    refine free_hard (outLit w3.heap.size 1 5 #[.int .u8 k]) (by rfl) (by rfl) (fun W hW _ => ?_) (fun (p3 : Nat) => ?_)
    · refine hardAt_lit ?_ hW.size
      go_simp
    simp only [Act.put, one_f, outB_f, outNew_f, outI_f, outLit_f, outLitS_f, outB_f, List.setIfInBounds_toArray, List.set_cons_zero, List.set_cons_succ]
    repeat (first | (refine free_plain ?_ (by rfl) (by rfl) (fun W hW _ => ⟨W, ?_, Ext.refl W⟩) ?_; rotate_left; (first | (go_simp; with_reducible rfl) | (go_simp; done)); try simp only [Act.put, one_f, outB_f, outNew_f, outI_f, outLit_f, outLitS_f, outB_f, List.setIfInBounds_toArray, List.set_cons_zero, List.set_cons_succ]) | (refine free_skip (by rfl) ?_; simp only [Act.put, one_f, outB_f, outNew_f, outI_f, outLit_f, outLitS_f, outB_f, List.setIfInBounds_toArray, List.set_cons_zero, List.set_cons_succ]))
    refine free_hard (outB w3.heap.size 4 (bytesOf i 4)) (by rfl) (by rfl) (fun W hW _ => ?_) (fun p7 => ?_)
    · refine hardAt_call ?_ ((four_any i (by omega) W).mono fun e w' h => ?_)
      · go_simp
      obtain ⟨u, rfl, ⟨A, c, rfl, h1, h2⟩, h3⟩ := h
      exact ⟨(A, c), rfl, ⟨h1, h2.mono hW.size⟩, h3⟩
    obtain ⟨A7, c7⟩ := p7
    simp only [Act.put, one_f, outB_f, outNew_f, outI_f, outLit_f, outLitS_f, outB_f, List.setIfInBounds_toArray, List.set_cons_zero, List.set_cons_succ]
    repeat (first | (refine free_plain ?_ (by rfl) (by rfl) (fun W hW _ => ⟨W, ?_, Ext.refl W⟩) ?_; rotate_left; (first | (go_simp; with_reducible rfl) | (go_simp; done)); try simp only [Act.put, one_f, outB_f, outNew_f, outI_f, outLit_f, outLitS_f, outB_f, List.setIfInBounds_toArray, List.set_cons_zero, List.set_cons_succ]) | (refine free_skip (by rfl) ?_; simp only [Act.put, one_f, outB_f, outNew_f, outI_f, outLit_f, outLitS_f, outB_f, List.setIfInBounds_toArray, List.set_cons_zero, List.set_cons_succ]))
    refine free_hard (outB w3.heap.size 4 (bytesOf o 4)) (by rfl) (by rfl) (fun W hW _ => ?_) (fun p11 => ?_)
    · refine hardAt_call ?_ ((four_any o (by omega) W).mono fun e w' h => ?_)
      · go_simp
      obtain ⟨u, rfl, ⟨A, c, rfl, h1, h2⟩, h3⟩ := h
      exact ⟨(A, c), rfl, ⟨h1, h2.mono hW.size⟩, h3⟩
    obtain ⟨A11, c11⟩ := p11
    simp only [Act.put, one_f, outB_f, outNew_f, outI_f, outLit_f, outLitS_f, outB_f, List.setIfInBounds_toArray, List.set_cons_zero, List.set_cons_succ]
    repeat (first | (refine free_plain ?_ (by rfl) (by rfl) (fun W hW _ => ⟨W, ?_, Ext.refl W⟩) ?_; rotate_left; (first | (go_simp; with_reducible rfl) | (go_simp; done)); try simp only [Act.put, one_f, outB_f, outNew_f, outI_f, outLit_f, outLitS_f, outB_f, List.setIfInBounds_toArray, List.set_cons_zero, List.set_cons_succ]) | (refine free_skip (by rfl) ?_; simp only [Act.put, one_f, outB_f, outNew_f, outI_f, outLit_f, outLitS_f, outB_f, List.setIfInBounds_toArray, List.set_cons_zero, List.set_cons_succ]))
    refine free_hard (outLit w3.heap.size 1 5 #[.int .u8 (l.length : Nat)]) (by rfl) (by rfl) (fun W hW _ => ?_) (fun (p17 : Nat) => ?_)
    · refine hardAt_lit ?_ hW.size
      go_simp
    simp only [Act.put, one_f, outB_f, outNew_f, outI_f, outLit_f, outLitS_f, outB_f, List.setIfInBounds_toArray, List.set_cons_zero, List.set_cons_succ]
    repeat (first | (refine free_plain ?_ (by rfl) (by rfl) (fun W hW _ => ⟨W, ?_, Ext.refl W⟩) ?_; rotate_left; (first | (go_simp; with_reducible rfl) | (go_simp; done)); try simp only [Act.put, one_f, outB_f, outNew_f, outI_f, outLit_f, outLitS_f, outB_f, List.setIfInBounds_toArray, List.set_cons_zero, List.set_cons_succ]) | (refine free_skip (by rfl) ?_; simp only [Act.put, one_f, outB_f, outNew_f, outI_f, outLit_f, outLitS_f, outB_f, List.setIfInBounds_toArray, List.set_cons_zero, List.set_cons_succ]))
    refine free_hard (outLitS w3.heap.size 6 26 (Reads FL)) (by rfl) (by rfl) (fun W hW hp => ?_) (fun (p20 : Nat) => ?_)
    · obtain ⟨f3, _⟩ : W.heap[p3]? = some (.cells #[.int .u8 k] 5 (0, 0)) ∧ w3.heap.size ≤ p3 := (hp 3 (by decide)).1
      obtain ⟨f7, _⟩ : Bys W W.heap.size (.slice A7 4 c7) (bytesOf i 4) ∧ _ := (hp 7 (by decide)).1
      obtain ⟨f11, _⟩ : Bys W W.heap.size (.slice A11 4 c11) (bytesOf o 4) ∧ _ := (hp 11 (by decide)).1
      obtain ⟨f17, _⟩ : W.heap[p17]? = some (.cells #[.int .u8 (l.length : Nat)] 5 (0, 0)) ∧ w3.heap.size ≤ p17 := (hp 17 (by decide)).1
      have hR : Reads FL [.slice (some ⟨p3, 0, none⟩) 1 1, .slice A7 4 c7, .slice A11 4 c11, .slice A2 2 c2, .slice (some ⟨p17, 0, none⟩) 1 1, .slice A l.length c] W := by
        subst hFL
        rw [← hkb.out] at f3
        rw [← hlb.out] at f17
        refine ⟨rfl, fun j v m hv hl => ?_⟩
        rcases j with _ | _ | _ | _ | _ | _ | j
        · cases hv; cases hl; exact Bys.lit (l := [UInt8.ofNat k]) f3 (by simp [maxLen])
        · cases hv; cases hl; exact f7
        · cases hv; cases hl; exact f11
        · cases hv; cases hl; exact (hb2.below hW).more hW.size
        · cases hv; cases hl; exact Bys.lit (l := [UInt8.ofNat l.length]) f17 (by simp [maxLen])
        · cases hv; cases hl; exact (h.out.below (Ext.trans x3 hW)).more (Ext.trans x3 hW).size
        · simp at hv
      refine hardAt_litS (cs := #[.slice (some ⟨p3, 0, none⟩) 1 1, .slice A7 4 c7, .slice A11 4 c11, .slice A2 2 c2, .slice (some ⟨p17, 0, none⟩) 1 1, .slice A l.length c]) ?_ hW.size rfl ?_
      · go_simp
      · exact Reads.stable _ _ _ _ (Ext.alloc _ _) hR
    simp only [Act.put, one_f, outB_f, outNew_f, outI_f, outLit_f, outLitS_f, outB_f, List.setIfInBounds_toArray, List.set_cons_zero, List.set_cons_succ]
    refine free_hard (outB w3.heap.size (12 + l.length) FL.flatten) (by rfl) (by rfl) (fun W hW hp => ?_) (fun p21 => ?_)
    · obtain ⟨_, cs, hcs, hrow, hR⟩ := (hp 20 (by decide)).1
      have hFn : FL.length = 6 := by rw [← hFL]; rfl
      refine hardAt_call ?_ ((concat8_any (some ⟨p20, 0, none⟩) 6 6 cs.toList FL (by simpa using hcs) hFn W (Rd.row hrow 6 hcs) (fun i v l h1 h2 => hR.2 i v l h1 h2) (by omega) (by rw [HL.out]; omega)).mono fun e w' h => ?_)
      · go_simp
      rw [HL.out] at h
      exact outB_of_own h hW.size
    obtain ⟨A21, c21⟩ := p21
    simp only [Act.put, one_f, outB_f, outNew_f, outI_f, outLit_f, outLitS_f, outB_f, List.setIfInBounds_toArray, List.set_cons_zero, List.set_cons_succ]
    repeat (first | (refine free_plain ?_ (by rfl) (by rfl) (fun W hW _ => ⟨W, ?_, Ext.refl W⟩) ?_; rotate_left; (first | (go_simp; with_reducible rfl) | (go_simp; done)); try simp only [Act.put, one_f, outB_f, outNew_f, outI_f, outLit_f, outLitS_f, outB_f, List.setIfInBounds_toArray, List.set_cons_zero, List.set_cons_succ]) | (refine free_skip (by rfl) ?_; simp only [Act.put, one_f, outB_f, outNew_f, outI_f, outLit_f, outLitS_f, outB_f, List.setIfInBounds_toArray, List.set_cons_zero, List.set_cons_succ]))
    refine free_nil (hK _ _ fun W hW hF => ?_)
    obtain ⟨f21, g21⟩ : Bys W W.heap.size (.slice A21 (12 + l.length) c21) FL.flatten ∧ From w3.heap.size (.slice A21 (12 + l.length) c21) := (hF 21).1
    clear hF hK hE
    have x4 : Ext w W := x3.trans hW
    dsimp only [List.drop]
    go_wp2
    refine bodyPost_ret (v := .tuple #[.slice A21 (12 + l.length) c21, .int .i64 0]) (by simp [results, Try.results147, go_sem]) rfl ⟨_, rfl, ⟨_, rfl, A21, c21, rfl, f21, g21.mono (by have := x3.size; omega)⟩, x4⟩
end Go.Proofs.Yteikcgjhcniiiaa
/- Contracts: a block sealed. -/
namespace Go.Proofs.Yteikcgjhcniiiaa
set_option linter.unusedSimpArgs false
set_option linter.unusedVariables false
open Go.RowKit

/-- bytes, filled up with noughts -/
def padB (n : Nat) (b : List UInt8) : List UInt8 := b ++ List.replicate (n - b.length) 0
theorem padB_len {n : Nat} {b : List UInt8} (h : b.length ≤ n) : (padB n b).length = n := by simp [padB]; omega
theorem pad_row (n : Nat) (b : List UInt8) : List.take 0 (List.map bv (List.replicate n 0)).toArray.toList ++ List.map bv b ++ List.drop (0 + b.length) (List.map bv (List.replicate n 0)).toArray.toList = (padB n b).map bv := by
  simp [padB, List.map_replicate, List.drop_replicate]
/-- a block: with its sum ahead -/
def sealB (b : List UInt8) : List UInt8 := bytesOf (crc (padB 124 b)) 4 ++ padB 124 b
theorem sealB_len {b : List UInt8} (h : b.length ≤ 124) : (sealB b).length = 128 := by unfold sealB; rw [List.length_append, bytesOf_len, padB_len h]

set_option maxHeartbeats 2000000 in
set_option maxRecDepth 100000 in
theorem seal_any (A : Option Addr) (c : Nat) (b : List UInt8) (hl : b.length ≤ 124) (w : World) (h : Bys w w.heap.size (.slice A b.length c) b) :
    Calls Try.prog 126 #[.slice A b.length c] w (RetS (IsB0 w.heap.size 128 (sealB b)) w) := by
  have hmk : ∀ w, (Instr.makeSlice 26 (.int .i64 124) (.int .i64 124)).run Try.prog w = .ok (.slice (some ⟨w.heap.size, 0, none⟩) 124 124) (w.alloc (.cells ((List.replicate 124 (0 : UInt8)).map bv).toArray 5)) := fun _ => by kernel_rfl
  have hsz : (Try.prog.info? 5).map (·.size) = some 1 := by kernel_rfl
  have hcr : crc (padB 124 b) < 4294967296 := crc_lt _
  have hd : decide ((b.length : Int) > 124) = false := decide_eq_false (by omega)
  replace h := Lib.hid h
  go_enter Try.func126, Try.ntmps126
  go_wp2_with fail
  generalize hw1 : World.alloc w _ = w1
  have x1 : Ext w w1 := by rw [← hw1]; exact Ext.alloc _ _
  have r1 : w1.heap[w.heap.size]? = some (.cells ((List.replicate 124 (0 : UInt8)).map bv).toArray 5 (0, 0)) := by rw [← hw1]; exact World.alloc_heap_at _ _ _ rfl
  clear hw1 hmk
  have hcp := run_copy_bys (P := Try.prog) w1 26 26 3 5 w.heap.size 0 124 124 A c b _ _ Try.underlying26 hsz r1 (h.out.below x1) hl (by simp; omega)
  rw [hcp]
  clear hcp
  have r2 := setRow_heap w1 w.heap.size _ (List.take 0 (List.map bv (List.replicate 124 0)).toArray.toList ++ List.map bv b ++ List.drop (0 + b.length) (List.map bv (List.replicate 124 0)).toArray.toList).toArray _ _ r1
  have x2 : Below w.heap.size w (w1.setRow w.heap.size (List.take 0 (List.map bv (List.replicate 124 0)).toArray.toList ++ List.map bv b ++ List.drop (0 + b.length) (List.map bv (List.replicate 124 0)).toArray.toList).toArray) :=
    Below.grown x1 (setRow_grown _ _ _) x1.size (fun g e => by cases e; exact Nat.le_refl _)
  generalize hw2 : w1.setRow w.heap.size (List.take 0 (List.map bv (List.replicate 124 0)).toArray.toList ++ List.map bv b ++ List.drop (0 + b.length) (List.map bv (List.replicate 124 0)).toArray.toList).toArray = w2 at *
  rw [pad_row] at r2
  have hp : ∀ W, Ext w2 W → Bys W W.heap.size (.slice (some ⟨w.heap.size, 0, none⟩) 124 124) (padB 124 b) := fun W hW => by
    refine ⟨_, 124, by rw [padB_len hl], Nat.le_of_eq (padB_len hl), by unfold maxLen; omega, by rw [padB_len hl]; simp [padB_len hl], fun _ => ⟨w.heap.size, 0, rfl, ?_, fun j u hu => ?_⟩⟩
    · have := (Array.getElem?_eq_some_iff.1 (row_ext r2 hW)).1
      omega
    · rw [Nat.zero_add, cells_row (row_ext r2 hW)]
      simpa using hu
  clear hw2 r1 x1
  have HO := Lib.hid (fun W (hW : Ext w2 W) => sumof_any _ (padB 124 b) W (hp W hW) (by rw [padB_len hl]; omega))
  replace hp := Lib.hid hp
  replace r2 := Lib.hid r2
  have hcn : ((crc (padB 124 b) : Nat) : Int) < 4294967296 := by omega
  go_wp2_with fail
  refine (HO.out _ (Ext.refl _)).mono ?_
  rintro e w3 ⟨rfl, hB3⟩
  have x3 : Ext w2 w3 := hB3
  clear hB3
  have HF := Lib.hid (four_any (crc (padB 124 b)) hcr w3)
  go_wp2_with fail
  refine HF.out.mono ?_
  rintro e w4 ⟨u4, rfl, ⟨A4, c4, rfl, hu4, hf4⟩, hB4⟩
  have x4 : Ext w2 w4 := x3.trans hB4
  clear HF hB4
  go_wp2_with fail
  generalize hw5 : World.alloc w4 _ = w5
  have x45 : Ext w4 w5 := by rw [← hw5]; exact Ext.alloc _ _
  have r5 : w5.heap[w4.heap.size]? = some (.cells #[.slice A4 4 c4, .slice (some ⟨w.heap.size, 0, none⟩) 124 124] 26 (0, 0)) := by rw [← hw5]; exact World.alloc_heap_at _ _ _ rfl
  clear hw5
  have x5 := x4.trans x45
  have hfl : [bytesOf (crc (padB 124 b)) 4, padB 124 b].flatten = sealB b := by simp [sealB]
  have HC := concat8_any (some ⟨w4.heap.size, 0, none⟩) 2 2 [.slice A4 4 c4, .slice (some ⟨w.heap.size, 0, none⟩) 124 124] [bytesOf (crc (padB 124 b)) 4, padB 124 b] rfl rfl w5 ⟨rfl, fun _ => ⟨w4.heap.size, 0, rfl, (Array.getElem?_eq_some_iff.1 r5).1, fun j u hu => by rw [Nat.zero_add, cells_row r5]; simpa using hu⟩⟩
    (fun i v l hv hl' => by
      rcases i with _ | _ | i
      · cases hv; cases hl'; exact (hu4.below x45).more x45.size
      · cases hv; cases hl'; exact hp.out w5 x5
      · simp at hv) (by omega) (by rw [hfl, sealB_len hl]; omega)
  rw [hfl, sealB_len hl] at HC
  replace HC := Lib.hid HC
  replace hu4 := Lib.hid hu4
  go_wp2_with fail
  refine HC.out.mono ?_
  rintro e w6 ⟨u6, rfl, hown, hB6⟩
  have x6 : Below w.heap.size w w6 := x2.trans (Below.mono (Ext.trans x5 hB6) x2.size)
  have HI := Lib.hid ((IsB.of_own hown))
  go_wp2_with fail
  refine bodyPost_ret (v := .tuple #[u6, .int .i64 0]) (by simp [results, Try.results126, go_sem]) rfl ⟨_, rfl, ⟨u6, rfl, ?_⟩, x6⟩
  obtain ⟨A', c', h1, h2, h3⟩ := HI.out
  exact ⟨A', c', h1, h2, h3.mono (by have := x2.size; have := x5.size; omega)⟩
end Go.Proofs.Yteikcgjhcniiiaa
/- Contracts: a node's block. -/
namespace Go.Proofs.Yteikcgjhcniiiaa
set_option linter.unusedSimpArgs false
set_option linter.unusedVariables false
open Go.RowKit

/-- what is sealed, as far as so many items -/
def toldTo (lvl : Int) (n : Nat) (xs : List It) (k : Nat) : List UInt8 := 78 :: UInt8.ofNat lvl.toNat :: UInt8.ofNat n :: itsBytes (xs.take k)
theorem toldTo_succ (lvl : Int) (n : Nat) {xs : List It} {k : Nat} (hk : k < xs.length) : toldTo lvl n xs (k + 1) = toldTo lvl n xs k ++ itBytes xs[k] := by
  unfold toldTo itsBytes
  rw [List.take_succ_eq_append_getElem hk, List.flatMap_append]
  simp only [List.flatMap_cons, List.flatMap_nil, List.append_nil, List.cons_append]
theorem toldTo_all (lvl : Int) (xs : List It) : toldTo lvl xs.length xs xs.length = toldOf lvl xs := by unfold toldTo toldOf; rw [List.take_length]
theorem toldTo_len (lvl : Int) (n : Nat) {xs : List It} (k : Nat) (h : ∀ x ∈ xs, ItOk x) (hl : xs.length ≤ 5) : (toldTo lvl n xs k).length ≤ 123 := by
  have h1 := itsBytes_len (xs.take k) (fun x hx => h x (List.mem_of_mem_take hx))
  have h2 : (xs.take k).length ≤ xs.length := by rw [List.length_take]; omega
  unfold toldTo
  simp only [List.length_cons]
  omega
theorem nodeMay_items {lvl : Int} {xs : List It} (h : nodeMay lvl xs = true) : 0 ≤ lvl ∧ lvl < 6 ∧ xs.length ≤ 5 ∧ ∀ x ∈ xs, itB x.r x.val.length = true := by
  unfold nodeMay at h
  rw [Bool.and_eq_true] at h
  have h1 : 0 ≤ lvl ∧ lvl < 6 ∧ xs.length ≤ 5 ∧ (0 < lvl → xs.length ≠ 0) := of_decide_eq_true h.1
  refine ⟨h1.1, h1.2.1, h1.2.2.1, fun x hx => ?_⟩
  obtain ⟨i, hi, rfl⟩ := List.getElem_of_mem hx
  have h2 := List.all_eq_true.1 h.2 i (List.mem_range.2 hi)
  unfold chkAt at h2
  rw [List.getElem?_eq_getElem hi] at h2
  simp only [Bool.and_eq_true] at h2
  exact h2.1.1
theorem nwrite_ret {R : Ending → World → Prop} {a : Act} {W : World} {u v : Value} (h2 : a.tmps[2]?.getD undef = u) (h3 : a.tmps[3]?.getD undef = v) (hd : a.defers = []) (hR : R (.returned (.tuple #[u, v])) W) : bodyPost Try.prog Try.f118 R .ret a W := by
  refine bodyPost_ret (v := .tuple #[u, v]) ?_ hd hR
  simp [results, Try.results118, go_sem, h2, h3]
structure NWr (lvl : Int) (xs : List It) (w2 : World) (v i : Value) (wr : World) : Prop where
  ex : ∃ k : Nat, k ≤ xs.length ∧ i = .int .i64 (k : Int) ∧ wr.ownsRow w2.heap.size 5 1 v (toldTo lvl xs.length xs k).length ((toldTo lvl xs.length xs k).map bv) ∧ Ext w2 wr
/-- of a node that may not be: no bytes -/
theorem nwrite_bad (lvl : Int) (A : Option Addr) (n c : Nat) (xs : List It) (w : World) (hx : Its w w.heap.size (.slice A n c) xs) (hm : nodeMay lvl xs = false) :
    Calls Try.prog 118 #[nodeV lvl A n c] w (Ret (.tuple #[.slice none 0 0, .int .i64 8]) w) := by
  have HC := Lib.hid (fun W (hW : Ext w W) => ncheck_all lvl A n c xs W (hx.ext hW))
  rw [hm, show errOf false = 8 from rfl] at HC
  clear hx
  go_enter Try.func118, Try.ntmps118
  go_wp2_with fail
  generalize hw1 : World.alloc w _ = w1
  have x1 : Ext w w1 := by rw [← hw1]; exact Ext.alloc _ _
  clear hw1
  refine (HC.out w1 x1).mono ?_
  rintro e w2 ⟨rfl, hB⟩
  have x2 : Below w.heap.size w w2 := Ext.trans x1 hB
  clear hB
  go_wp2
  exact nwrite_ret rfl rfl rfl ⟨rfl, x2⟩

set_option maxHeartbeats 4000000 in
set_option maxRecDepth 100000 in
theorem nwrite_any (lvl : Int) (A : Option Addr) (n c : Nat) (xs : List It) (w : World) (hx : Its w w.heap.size (.slice A n c) xs) (hm : nodeMay lvl xs = true) (ho : ∀ x ∈ xs, ItOk x) :
    Calls Try.prog 118 #[nodeV lvl A n c] w (RetS (IsB0 w.heap.size 128 (sealB (toldOf lvl xs))) w) := by
  have HC := Lib.hid (fun W (hW : Ext w W) => ncheck_all lvl A n c xs W (hx.ext hW))
  rw [hm, show errOf true = 0 from rfl] at HC
  obtain ⟨hl1, hl2, hl5, hib⟩ := nodeMay_items hm
  obtain ⟨hn, hcn, hcm, hA⟩ := hx.at_
  subst hn
  obtain ⟨L, rfl⟩ := Int.eq_ofNat_of_zero_le hl1
  have hcv : IntKind.u8.wrap ((xs.length : Nat) : Int) = ((xs.length : Nat) : Int) := by simp [IntKind.wrap, IntKind.bits, IntKind.signed]; omega
  have hcl : IntKind.u8.wrap (L : Int) = (L : Int) := by simp [IntKind.wrap, IntKind.bits, IntKind.signed]; omega
  have hcells : (toldTo (L : Int) xs.length xs 0).map bv = [.int .u8 78, .int .u8 (L : Int), .int .u8 (xs.length : Nat)] := by
    simp [toldTo, itsBytes, bv]
    omega
  have hX := Lib.hid hx
  have hO := Lib.hid ho
  have hI := Lib.hid hib
  clear hx ho hib hm
  go_enter Try.func118, Try.ntmps118
  go_wp2_with fail
  generalize hw1 : World.alloc w _ = w1
  have x1 : Ext w w1 := by rw [← hw1]; exact Ext.alloc _ _
  have r1 : w1.heap[w.heap.size]? = some (.cells #[.int .i64 L, .slice A xs.length c] 107 (0, 0)) := by rw [← hw1]; exact World.alloc_heap_at _ _ _ rfl
  clear hw1
  refine (HC.out w1 x1).mono ?_
  rintro e w2 ⟨rfl, hB⟩
  have x2 : Below w.heap.size w w2 := Ext.trans x1 hB
  have r2 := row_ext r1 hB
  have k2 := cells_row r2
  clear hB r1 x1 HC
  go_upto_region 5 with fail
  generalize hw3 : World.alloc w2 _ = w3
  have x3 : Ext w2 w3 := by rw [← hw3]; exact Ext.alloc _ _
  have o3 : w3.ownsRow w2.heap.size 5 1 (.slice (some ⟨w2.heap.size, 0, none⟩) 3 3) (toldTo (L : Int) xs.length xs 0).length ((toldTo (L : Int) xs.length xs 0).map bv) := by
    rw [hcells, ← hw3]
    exact World.ownsRow_lit (base := w2.heap.size) (e := 5) (size := 1) w2 #[.int .u8 78, .int .u8 (L : Int), .int .u8 (xs.length : Nat)] 3 (Nat.le_refl _) (by unfold maxLen; omega) rfl
  have r3 := row_ext r2 x3
  have k3 := cells_row r3
  clear hw3 k2 hcells
  have I0 : NWr (L : Int) xs w2 (.slice (some ⟨w2.heap.size, 0, none⟩) 3 3) (.int .i64 0) w3 := ⟨0, Nat.zero_le _, rfl, o3, x3⟩
  replace I0 := Lib.hid I0
  clear o3
  go_wp2_with fail
  clear k3 r3
  go_loopw [5, 26] (fun v i wr => NWr (L : Int) xs w2 v i wr) (fun _ i _ => xs.length - (intOf i).toNat)
  case atStart => exact I0.out
  case round =>
    obtain ⟨k, hk, rfl, own, xr⟩ := hrel.ex
    clear hrel I0
    by_cases hlt : k < xs.length
    · have hlt' := hlt
      obtain ⟨b, off, rfl, hb⟩ := hA (by omega)
      have xw : Ext w wr := Ext.trans x2 xr
      obtain ⟨A', c', d0, d1, d2, d3, d4, hby⟩ := (hX.out.ext xw).item k hlt'
      have hok := hO.out xs[k] (List.getElem_mem hlt')
      have hib := hI.out xs[k] (List.getElem_mem hlt')
      have hsu := Lib.hid (toldTo_succ (L : Int) xs.length hlt')
      have htl := toldTo_len (L : Int) xs.length k hO.out hl5
      have hvl : xs[k].val.length ≤ 12 := hok.2.2.2.2
      have HW := Lib.hid (fun W (hW : Ext wr W) => iwrite_any xs[k] hok hib A' c' W ((hby.below hW).more hW.size))
      generalize xs[k] = x at *
      replace own := Lib.hid own
      replace htl := Lib.hid htl
      clear hby hok hib
      go_wp2_with fail
      generalize hw4 : World.alloc wr _ = w4
      have x4 : Ext wr w4 := by rw [← hw4]; exact Ext.alloc _ _
      clear hw4 d0 d1 d2 d3 d4
      refine (HW.out w4 x4).mono ?_
      rintro e w5 ⟨u, rfl, ⟨u5, rfl, A5, c5, rfl, hb5, hf5⟩, hB⟩
      have x5 : Ext wr w5 := x4.trans hB
      have own5 := own_ext own.out x5
      clear hB x4 own
      obtain ⟨i0, hi, hz0, hz1, hz2⟩ := info_parts Try.info_u8
      obtain ⟨A6, c6, e6, hc6, hm6, hr6⟩ := hb5
      simp only [Value.slice.injEq] at e6
      obtain ⟨rfl, e7, rfl⟩ := e6
      go_wp2_with (at_builtin; refine wpList_stop ?_)
      refine Stopped.go (wpList_append_rd _ rfl (.tmp 35) (.tmp 36) 26 rfl w2.heap.size 5 i0 (.int .u8 0) 1 1 Try.underlying26 hi hz0 hz1 hz2 rfl (by decide) _ _ _ rfl own5 w5.heap.size A5 _ c5 ((itBytes x).map bv) rfl hr6 (bvs_one _) (by have := htl.out; omega) (by decide) (Nat.le_trans xr.size x5.size) ?_)
      intro v8 w8 own8 _ hB8 _
      have IR : NWr (L : Int) xs w2 v8 (.int .i64 ((k : Int) + 1)) w8 := ⟨k + 1, hlt', rfl, by
        rw [hsu.out, List.map_append, List.length_append]
        exact own8, Below.trans (Ext.trans xr x5) hB8⟩
      replace IR := Lib.hid IR
      clear own8 hB8 hi hz0 hz1 hz2 own5
      go_wp2_with fail
      refine ⟨IR.out, ?_⟩
      simp [intOf]
      omega
    · obtain rfl : k = xs.length := by omega
      rw [toldTo_all] at own
      have hl3 : (toldOf (L : Int) xs).length ≤ 124 := by
        have := toldTo_len (L : Int) xs.length xs.length hO.out hl5
        rw [toldTo_all] at this
        omega
      obtain ⟨A6, c6, e6, hc6, hm6, hr6⟩ := Bys.of_own own
      have hby := Bys.of_own own
      subst e6
      have HS := Lib.hid (seal_any A6 c6 (toldOf (L : Int) xs) hl3 wr hby)
      have xw : Below w.heap.size w wr := Ext.trans x2 xr
      clear hby hr6 own
      replace xr := Lib.hid xr
      go_wp2_with fail
      refine HS.out.mono ?_
      rintro e w7 ⟨u, rfl, ⟨u7, rfl, hI7⟩, hB⟩
      have x7 : Below w.heap.size w w7 := xw.trans (Below.mono hB xw.size)
      have hI8 : IsB0 w.heap.size 128 (sealB (toldOf (L : Int) xs)) (.tuple #[u7, .int .i64 0]) w7 := by
        obtain ⟨A', c', q1, q2, q3⟩ := hI7
        exact ⟨u7, rfl, A', c', q1, q2, q3.mono xw.size⟩
      clear hB hI7
      replace hI8 := Lib.hid hI8
      go_wp2_with fail
      exact nwrite_ret rfl rfl rfl ⟨_, rfl, hI8.out, x7⟩
end Go.Proofs.Yteikcgjhcniiiaa
/- Contracts: a bench with its own counts; an empty node made on it. -/
namespace Go.Proofs.Yteikcgjhcniiiaa
set_option linter.unusedSimpArgs false
set_option linter.unusedVariables false
open Go.RowKit

theorem own_set {w : World} {lo g n c k : Nat} {l : List UInt8} (h : w.ownsRow lo 5 1 (.slice (some ⟨g, 0, none⟩) n c) n (l.map bv)) (hk : k < n) (x : UInt8) : (w.setCell ⟨g, k, none⟩ (bv x)).ownsRow lo 5 1 (.slice (some ⟨g, 0, none⟩) n c) n ((l.set k x).map bv) := by
  obtain ⟨h1, h2⟩ := h
  rcases h2 with ⟨e, _⟩ | ⟨g', cap, cur, e, hg, hr, hc, hm, hs, ht⟩
  · cases e
  · cases e
    have hk2 : k < cur.size := by omega
    refine ⟨by simpa using h1, .inr ⟨g, c, _, rfl, hg, row_set hr k _, hc, hm, by simpa using hs, ?_⟩⟩
    apply List.ext_getElem?
    intro i
    rw [List.map_set, ← ht, List.getElem?_take, List.getElem?_set, List.getElem?_take]
    simp only [Nat.mul_one, Array.getElem?_toList, Array.getElem?_setIfInBounds, List.length_take, Array.length_toList]
    by_cases hi : i < n
    · rw [if_pos hi, if_pos hi]
      by_cases e : k = i
      · subst e
        rw [if_pos rfl, if_pos rfl, if_pos hk2, if_pos (by omega)]
      · rw [if_neg e, if_neg e]
    · rw [if_neg hi, if_neg hi, if_neg (by omega)]
theorem own_ext' {w : World} {lo g n c b k : Nat} {l : List UInt8} {v : Value} (h : w.ownsRow lo 5 1 (.slice (some ⟨g, 0, none⟩) n c) n (l.map bv)) (hg : g ≠ b) : (w.setCell ⟨b, k, none⟩ v).ownsRow lo 5 1 (.slice (some ⟨g, 0, none⟩) n c) n (l.map bv) := by
  obtain ⟨h1, h2⟩ := h
  refine ⟨h1, h2.imp id fun ⟨g', cap, cur, e, h3, h4, h5⟩ => ?_⟩
  cases e
  exact ⟨g, c, cur, rfl, h3, (Below.heap_setCell _ _ _ _ hg).trans h4, h5⟩
/-- a row's cells -/
theorem own_cells {w : World} {lo g n c : Nat} {l : List UInt8} (h : w.ownsRow lo 5 1 (.slice (some ⟨g, 0, none⟩) n c) n (l.map bv)) : (∀ k, k < n → w.cell? ⟨g, k, none⟩ = some (.int .u8 ((l[k]?.getD 0).toNat : Int))) ∧ (∀ k, w.frozen? ⟨g, k, none⟩ = false) ∧ lo ≤ g ∧ g < w.heap.size := by
  have h1 := h.1
  obtain ⟨h0, h2⟩ := h
  rcases h2 with ⟨e, _⟩ | ⟨g', cap, cur, e, hg, hr, hc, hm, hs, ht⟩
  · cases e
  · cases e
    refine ⟨fun k hk => ?_, frozen_row hr, hg, (Array.getElem?_eq_some_iff.1 hr).1⟩
    have hl : l.length = n := by simpa using h1
    have hkl : k < l.length := by omega
    have e2 : (l.map bv)[k]? = some (bv l[k]) := by rw [List.getElem?_map, List.getElem?_eq_getElem hkl]; rfl
    rw [← ht, List.getElem?_take, if_pos (by omega)] at e2
    have e3 : cur[k]? = cur.toList[k]? := by simp
    rw [cells_row hr, e3, e2, List.getElem?_eq_getElem hkl]
    rfl

set_option maxHeartbeats 2000000 in
set_option maxRecDepth 100000 in
theorem on_own (A1 : Option Addr) (n1 c1 : Nat) (A2 : Option Addr) (n2 c2 : Nat) (A3 : Option Addr) (n3 c3 : Nat) (A4 : Option Addr) (n4 c4 : Nat) (S : Sto) (hl : S.now.length < 1073741824) (w : World) (h : StoAt w w.heap.size (.slice A1 n1 c1) (.slice A2 n2 c2) (.slice A3 n3 c3) (.slice A4 n4 c4) S) :
    Calls Try.prog 81 #[storeV A1 n1 c1 A2 n2 c2 A3 n3 c3 A4 n4 c4] w (RetS (fun u W => ∃ b A3' c3', u = .pointer (some ⟨b, 0, none⟩) ∧ w.heap.size ≤ b ∧ W.heap[b]? = some (.cells #[.slice A1 n1 c1, .slice A2 n2 n2, .slice A3' n3 c3', .slice A4 n4 c4] 172 (0, 0)) ∧ W.ownsRow w.heap.size 5 1 (.slice A3' n3 c3') n3 (S.now.map bv)) w) := by
  have hn3 : Hid (n3 = S.now.length) := Lib.hid h.now.at_.1
  obtain ⟨-, h2a, h2b, -⟩ := h.ws.at_
  have HC := Lib.hid (fun W (hW : Ext w W) => bclone_any (.slice A3 n3 c3) S.now hl W (h.ext hW).now)
  clear h
  go_enter Try.func81, Try.ntmps81
  go_wp2_with fail
  generalize hw1 : (World.alloc _ _) = w1
  have x1 : Ext w w1 := by rw [← hw1]; exact Ext.alloc _ _
  have r1 : w1.heap[w.heap.size]? = some (.cells #[.slice A1 n1 c1, .slice A2 n2 c2, .slice A3 n3 c3, .slice A4 n4 c4] 28 (0, 0)) := by rw [← hw1]; exact World.alloc_heap_at _ _ _ rfl
  clear hw1
  refine (HC.out _ x1).mono ?_
  rintro e w2 ⟨u, rfl, hu, hB⟩
  have x2 := x1.trans hB
  have r2 := row_ext r1 hB
  have s1 : w.heap.size < w1.heap.size := (Array.getElem?_eq_some_iff.1 r1).1
  obtain ⟨A3', c3', rfl, _, _⟩ := own_slice hu
  have k2 := cells_row r2
  have f2 := frozen_row r2
  clear hB r1 HC
  rw [← hn3.out] at hu ⊢
  go_wp2_with fail
  have hu3 := own_keep (w' := w2.setCell ⟨w.heap.size, 2, none⟩ (.slice A3' n3 c3')) hu (fun b hb _ => Below.heap_setCell _ _ _ _ (by show b ≠ w.heap.size; omega))
  generalize hw3 : (World.setCell _ _ _) = w3 at *
  have x3 : Ext w w3 := by rw [← hw3]; exact Below.setCell x2 (p := ⟨w.heap.size, 2, none⟩) (Nat.le_refl _) _
  have r3 : w3.heap[w.heap.size]? = some (.cells #[.slice A1 n1 c1, .slice A2 n2 c2, .slice A3' n3 c3', .slice A4 n4 c4] 28 (0, 0)) := by rw [← hw3]; exact row_set r2 2 _
  clear hw3 k2 f2 r2 x2 hu
  refine (clip_any A2 n2 c2 h2a h2b _).mono ?_
  rintro e w4 ⟨rfl, hB⟩
  have x4 := x3.trans hB
  have r4 := row_ext r3 hB
  have hu4 := own_ext hu3 hB
  have k4 := cells_row r4
  have f4 := frozen_row r4
  have s4 : w.heap.size < w4.heap.size := (Array.getElem?_eq_some_iff.1 r4).1
  clear hB r3 x3 hu3
  replace hu4 := Lib.hid hu4
  go_wp2
  have hu5 := own_keep (w' := w4.setCell ⟨w.heap.size, 1, none⟩ (.slice A2 n2 n2)) hu4.out (fun b hb _ => Below.heap_setCell _ _ _ _ (by show b ≠ w.heap.size; omega))
  have bf : Below w.heap.size w ((w4.setCell ⟨w.heap.size, 1, none⟩ (.slice A2 n2 n2)).alloc (.cells #[.slice A1 n1 c1, .slice A2 n2 n2, .slice A3' n3 c3', .slice A4 n4 c4] 172)) := by
    have x4' : Below w.heap.size w w4 := x4
    exact (by repeat' (first | with_reducible exact Below.refl _ _ | with_reducible assumption | with_reducible apply Below.drew | with_reducible apply below_drewN | with_reducible refine Below.alloc ?_ ?_ _ | with_reducible refine Below.setCell ?_ ?_ _ | (simp; done) | (simp; omega) | omega))
  go_ret
  exact ⟨_, rfl, ⟨w4.heap.size, A3', c3', rfl, by omega, World.alloc_heap_at _ _ _ (by simp), own_mono (own_ext hu5 (Ext.alloc _ _)) (by omega)⟩, bf⟩

set_option maxHeartbeats 4000000 in
set_option maxRecDepth 100000 in
/-- an empty node, on a bench whose first block is free and on which nothing waits -/
theorem bmake0_any (b lo : Nat) (A1 : Option Addr) (n1 c1 : Nat) (g c3 : Nat) (A4 : Option Addr) (c4 : Nat) (bs : List (List UInt8)) (now last : List UInt8) (hn : now.length = 256) (hl : last.length = 256) (hn8 : now[8]? = some 0) (hl8 : last[8]? = some 0) (w : World) (hlo : lo ≤ b)
    (hr : w.heap[b]? = some (.cells #[.slice A1 n1 c1, .slice none 0 0, .slice (some ⟨g, 0, none⟩) 256 c3, .slice A4 256 c4] 172 (0, 0))) (ho : w.ownsRow lo 5 1 (.slice (some ⟨g, 0, none⟩) 256 c3) 256 (now.map bv)) (hb : Bls w lo (.slice A1 n1 c1) bs) (ha : Bys w lo (.slice A4 256 c4) last) :
    Calls Try.prog 92 #[.pointer (some ⟨b, 0, none⟩), nodeV 0 none 0 0] w (fun e W => e = .returned (.tuple #[.int .i64 8, .int .i64 0]) ∧ Below lo w W ∧ ∃ A2 c2, W.heap[b]? = some (.cells #[.slice A1 n1 c1, .slice A2 1 c2, .slice (some ⟨g, 0, none⟩) 256 c3, .slice A4 256 c4] 172 (0, 0)) ∧
      StoAt W W.heap.size (.slice A1 n1 c1) (.slice A2 1 c2) (.slice (some ⟨g, 0, none⟩) 256 c3) (.slice A4 256 c4) ⟨bs, [(8, sealB (toldOf 0 []))], now.set 8 1, last⟩) := by
  have hkn := (own_cells ho).1 8 (by omega)
  rw [hn8] at hkn
  replace hkn : w.cell? ⟨g, 8, none⟩ = some (.int .u8 0) := hkn
  obtain ⟨_, hfn, hlg, hzg⟩ := own_cells ho
  obtain ⟨A, c, e, hac, _, har⟩ := ha
  rw [hl] at e hac har
  simp only [Value.slice.injEq, true_and] at e
  obtain ⟨rfl, rfl⟩ := e
  obtain ⟨b4, o4, rfl, hb4, hc4⟩ := har.2 (by omega)
  have hk4 : w.cell? ⟨b4, o4 + 8, none⟩ = some (.int .u8 0) := hc4 8 (bv 0) (by rw [List.getElem?_map, hl8]; rfl)
  have zb : b < w.heap.size := (Array.getElem?_eq_some_iff.1 hr).1
  have hW := Lib.hid (fun W => nwrite_any 0 none 0 0 [] W (Its.nil W W.heap.size) (by decide) (fun x hx => by cases hx))
  go_enter Try.func92, Try.ntmps92
  go_wp2_with fail
  generalize hw1 : World.alloc _ _ = w1
  have x1 : Ext w w1 := by rw [← hw1]; exact Ext.alloc _ _
  have p1 : w1.heap[w.heap.size]? = some (.cells #[.int .i64 0, .slice none 0 0] 107 (0, 0)) := by rw [← hw1]; exact World.alloc_heap_at _ _ _ rfl
  clear hw1
  refine (hW.out w1).mono ?_
  rintro e w2 ⟨u, rfl, ⟨u, rfl, ⟨A0, c0, rfl, hu, hf⟩⟩, hB⟩
  have hB : Ext w1 w2 := hB
  have x2 : Ext w w2 := x1.trans hB
  have p2 := row_ext p1 hB
  have r2 := row_ext hr x2
  have o2 := own_ext ho x2
  have kp := cells_row p2
  have kr := cells_row r2
  have fr := frozen_row r2
  have kn : w2.cell? ⟨g, 8, none⟩ = some (.int .u8 0) := Ext.cell x2 hkn
  have z2 := x2.size
  have z1 : w.heap.size < w1.heap.size := (Array.getElem?_eq_some_iff.1 p1).1
  have z4 : b4 < w.heap.size := by have := World.block_lt_of_cell? w _ hk4; exact this
  have kl : w2.cell? ⟨b4, o4 + 8, none⟩ = some (.int .u8 0) := Ext.cell x2 hk4
  clear hB x1 p1 hkn hk4 hc4 hW
  go_wp2_with fail
  go_loopw [21] (fun i wr => i = .int .i64 0 ∧ wr = w2) (fun _ _ => 0)
  case atStart => exact ⟨rfl, rfl⟩
  case round =>
    obtain ⟨rfl, hw⟩ := hrel
    replace hw := hw.symm
    subst hw
    go_wp2_with fail
    go_loopw [4] (fun i W => i = .int .i64 8 ∧ Ext w2 W) (fun _ _ => 0)
    case atStart => exact ⟨rfl, Ext.refl _⟩
    case round =>
      obtain ⟨rfl, hE⟩ := hrel
      have g1 : ∀ W, extRel.r wr W → ∀ i, W.cell? ⟨b, i, none⟩ = #[.slice A1 n1 c1, .slice none 0 0, .slice (some ⟨g, 0, none⟩) 256 c3, .slice (some ⟨b4, o4, none⟩) 256 c4][i]? := fun W h => cells_row (row_ext (row_ext r2 hE) h)
      have g2 : ∀ W, extRel.r wr W → W.cell? ⟨g, 8, none⟩ = some (.int .u8 0) := fun W h => Ext.cell (hE.trans h) kn
      have g3 : ∀ W, extRel.r wr W → W.cell? ⟨b4, o4 + 8, none⟩ = some (.int .u8 0) := fun W h => Ext.cell (hE.trans h) kl
      clear kp kr fr kn kl
      go_wp2_with fail
      refine region_start (by kernel_rfl) ?_
      refine any_freeT (w := wr) extRel (outsAt []) [true, true, true, true, true, true, true, true, true, true, true, true, true, true, true, true, true, true, true, true, true, true] 0 (by kernel_rfl) (by kernel_rfl) (by kernel_rfl) (by kernel_rfl) (by kernel_rfl) (by kernel_rfl) (by kernel_rfl) ?st (Rel.drew _ _) ?walk
      case st => exact outsAt_stableG (fun _ h => by cases h)
      case walk =>
        intro K hK
        dsimp only [maskOps]
        repeat (first | (refine free_plainM ?_ (by rfl) (by rfl) (fun W hW _ => ⟨W, ?_, Rel.refl _ W⟩) ?_; rotate_left; (first | (go_simp; with_reducible rfl) | (go_simp; done)); try simp only [Act.put, one_f, outB_f, outNew_f, outI_f, outMk_f, List.setIfInBounds_toArray, List.set_cons_zero, List.set_cons_succ]) | (refine free_skipM (by rfl) ?_; simp only [Act.put, one_f, outB_f, outNew_f, outI_f, outMk_f, List.setIfInBounds_toArray, List.set_cons_zero, List.set_cons_succ]))
        refine free_nilM (hK _ _ fun W hW hF => ?_)
        have hW : Ext wr W := hW
        have x3 : Ext w2 W := hE.trans hW
        clear hF hK g1 g2 g3 hE hW
        dsimp only [List.drop, List.length_cons, List.length_nil]
        have r3 := row_ext r2 x3
        have o3 := own_ext o2 x3
        have kr := cells_row r3
        have fr := frozen_row r3
        obtain ⟨i0, hi, hz0, hz1, hz2⟩ := info_parts Try.info_write
        have z3 := x3.size
        have hu3 := (hu.below x3).more x3.size
        have xw3 : Ext w W := x2.trans x3
        have x2z := x2.size
        clear r2 o2 x2 x3 hu p2
        replace o3 := Lib.hid o3
        replace hu3 := Lib.hid hu3
        go_wp2
        refine QN_in ?_
        go_wp2_with (at_builtin; refine wpList_stop ?_)
        refine Stopped.go (wpList_push _ rfl (.tmp 78) (.tmp 82) 23 rfl W.heap.size 141 i0 (.agg #[.int .i64 0, .slice none 0 0]) 2 32 Try.underlying23 hi hz0 hz1 hz2 rfl (by decide) _ 0 [] rfl (World.ownsRow_nil _ _ _ _) #[.int .i64 8, .slice A0 128 c0] rfl rfl (by simp [Value.oneCell']) (by omega) (by decide) (Nat.le_refl _) ?_)
        intro v4 w4 own4 _ hB4 _
        have hB4 : Ext W w4 := hB4
        simp only [Nat.zero_add, List.nil_append] at own4
        obtain ⟨A2, c2, rfl, hc21, hc22⟩ := own_slice own4
        have r4 := row_ext r3 hB4
        have kr4 := cells_row r4
        have fr4 := frozen_row r4
        have o4' := own_ext o3.out hB4
        have z5 := hB4.size
        have kg := (own_cells o4').1 8 (by omega)
        have fg := (own_cells o4').2.1 8
        have hlt := own_lt own4
        have hbg : g ≠ b := by
          intro e
          subst e
          obtain ⟨_, h2⟩ := o4'
          rcases h2 with ⟨e, _⟩ | ⟨g', cap, cur, e, _, hr', _⟩
          · cases e
          · cases e
            exact ne_of_row hr' r4 (by decide) rfl
        have z6 : b < w2.heap.size := by have := x2z; omega
        replace own4 := Lib.hid own4
        replace o4' := Lib.hid o4'
        have hf1 := hf.mono (lo' := w.heap.size) (by omega)
        clear r3 kr fr hc21 hc22
        go_wp2_with fail
        have st : ∀ q, q ≠ b → q ≠ g → ((w4.setCell ⟨b, 1, none⟩ (.slice A2 1 c2)).setCell ⟨g, 8, none⟩ (.int .u8 1)).heap[q]? = w4.heap[q]? := fun q h1 h2 => (Below.heap_setCell _ _ _ _ h2).trans (Below.heap_setCell _ _ _ _ h1)
        have xw4 : Ext w w4 := xw3.trans hB4
        have hB : Below lo w ((w4.setCell ⟨b, 1, none⟩ (.slice A2 1 c2)).setCell ⟨g, 8, none⟩ (.int .u8 1)) := Below.setCell (Below.setCell (Below.mono xw4 (by omega)) (p := ⟨b, 1, none⟩) hlo _) (p := ⟨g, 8, none⟩) hlg _
        have rf := row_set r4 1 (.slice A2 1 c2)
        have rf2 := (Below.heap_setCell (w4.setCell ⟨b, 1, none⟩ (.slice A2 1 c2)) ⟨g, 8, none⟩ (.int .u8 1) b (fun e => hbg e.symm)).trans rf
        have of4 := own_set (own_ext' (k := 1) (v := .slice A2 1 c2) o4'.out hbg) (k := 8) (by omega) 1
        have hz : ((w4.setCell ⟨b, 1, none⟩ (.slice A2 1 c2)).setCell ⟨g, 8, none⟩ (.int .u8 1)).heap.size = w4.heap.size := by simp
        have hlt2 := hlt
        have ow := own_keep (w' := (w4.setCell ⟨b, 1, none⟩ (.slice A2 1 c2)).setCell ⟨g, 8, none⟩ (.int .u8 1)) own4.out (fun q h1 _ => st q (by omega) (by omega))
        have hu4 : Bys ((w4.setCell ⟨b, 1, none⟩ (.slice A2 1 c2)).setCell ⟨g, 8, none⟩ (.int .u8 1)) w4.heap.size (.slice A0 128 c0) (sealB (toldOf 0 [])) := (((hu3.out.below hB4).more hB4.size).setCell hf1 (p := ⟨b, 1, none⟩) zb _).setCell hf1 (p := ⟨g, 8, none⟩) hzg _
        have hsl : (sealB (toldOf 0 [])).length = 128 := sealB_len (by decide)
        refine bodyPost_ret (v := .tuple #[.int .i64 8, .int .i64 0]) (by simp [results, Try.results92, go_sem]) rfl ⟨rfl, hB, A2, c2, rf2, ⟨?_, ?_, ?_, ?_⟩⟩
        · exact (hb.below hB).more (by omega)
        · rw [hz]
          refine ⟨[((8, sealB (toldOf 0 [])), .slice A0 128 c0)], rfl, ?_, ?_⟩
          · obtain ⟨A', c', e, q1, q2⟩ := own_slice ow
            cases e
            exact ⟨A2, c2, rfl, q1, q2, by have := Rd.of_own ow; rw [hz] at this; exact this⟩
          · intro p hp
            simp only [List.mem_singleton] at hp
            subst hp
            exact ⟨⟨A0, c0, by rw [hsl]⟩, hu4⟩
        · exact Bys.of_own of4
        · have e1 : Bys w lo (.slice (some ⟨b4, o4, none⟩) 256 c4) last := ⟨_, c4, by rw [hl], by omega, by assumption, by rw [hl]; exact har⟩
          exact (e1.below hB).more (by omega)
end Go.Proofs.Yteikcgjhcniiiaa
