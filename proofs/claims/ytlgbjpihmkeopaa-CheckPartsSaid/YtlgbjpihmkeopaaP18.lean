/- Texts DWrite, SettleW, PoolW, PartsW, Mix, Dsk, joined. -/
import Derived.Test.YtlgbjpihmkeopaaP03
import Derived.Test.YtlgbjpihmkeopaaP07
import Derived.Test.YtlgbjpihmkeopaaP13
import Derived.Test.YtlgbjpihmkeopaaP14
import Derived.Test.YtlgbjpihmkeopaaP15
import Derived.Test.YtlgbjpihmkeopaaP16
import Derived.Test.YtlgbjpihmkeopaaP17
/- Contracts: a block written to a disk. -/
namespace Go.Proofs.Ytlgbjpihmkeopaa
set_option linter.unusedSimpArgs false
set_option linter.unusedVariables false
open Go.RowKit

def askE (d : Bool) (a : Int) : Int := if d = true then (if 0 ≤ a ∧ a < 256 then 0 else 2) else 8

set_option maxHeartbeats 1000000 in
set_option maxRecDepth 100000 in
theorem dasked_any (A1 : Option Addr) (n1 c1 : Nat) (A2 : Option Addr) (n2 c2 : Nat) (bs : List (List UInt8)) (ws : List (Int × List UInt8)) (a : Int) (w : World) (hb : Bls w w.heap.size (.slice A1 n1 c1) bs) (hw : Wrs w w.heap.size (.slice A2 n2 c2) ws) :
    Calls Try.prog 97 #[diskV A1 n1 c1 A2 n2 c2, .int .i64 a] w (Ret (.int .i64 (askE (diskMay bs ws) a)) w) := by
  have HD := Lib.hid (fun W (hW : Ext w W) => dcheck_any A1 n1 c1 A2 n2 c2 bs ws W ((hb.below hW).more hW.size) ((hw.below hW).more hW.size))
  clear hb hw
  generalize diskMay bs ws = d at *
  go_enter Try.func97, Try.ntmps97
  go_wp2_with fail
  generalize hw1 : World.alloc _ _ = w1
  have x1 : Ext w w1 := by rw [← hw1]; exact Ext.alloc _ _
  clear hw1
  refine (HD.out _ x1).mono ?_
  rintro e w2 ⟨rfl, hB⟩
  have x2 : Ext w w2 := x1.trans hB
  clear hB x1 HD
  cases d
  · go_wp2
    go_ret
    exact ⟨rfl, x2⟩
  · have h0 : Hid (∀ n : Int, (if 0 ≤ a ∧ a < 256 then 0 else 2) = n → askE true a = n) := Lib.hid fun n h => by unfold askE; rw [if_pos rfl]; exact h
    rw [show errOf true = 0 from rfl]
    by_cases h1 : a < 0
    · go_wp2
      go_ret
      exact ⟨ret_int (h0.out _ (if_neg (by omega))).symm, x2⟩
    · by_cases h2 : a ≥ 256
      · go_wp2
        go_ret
        exact ⟨ret_int (h0.out _ (if_neg (by omega))).symm, x2⟩
      · have d2 : decide (256 ≤ a) = false := decide_eq_false (by omega)
        go_wp2
        go_ret
        exact ⟨ret_int (h0.out _ (if_pos (by omega))).symm, x2⟩

def NewDisk (lo : Nat) (bs : List (List UInt8)) (ws : List (Int × List UInt8)) (u : Value) (W : World) : Prop := ∃ A1 c1 A2 c2, u = diskV A1 bs.length c1 A2 ws.length c2 ∧ ∀ W2 : World, (∀ q : Addr, lo ≤ q.block → q.block < W.heap.size → W2.cell? q = (thaw W).cell? q) → Bls W2 W.heap.size (.slice A1 bs.length c1) bs ∧ Wrs W2 W.heap.size (.slice A2 ws.length c2) ws
abbrev noDisk (e : Int) : Value := .tuple #[diskV none 0 0 none 0 0, .int .i64 e]
def writeE (bs : List (List UInt8)) (ws : List (Int × List UInt8)) (a : Int) (data : List UInt8) : Int :=
  if askE (diskMay bs ws) a ≠ 0 then askE (diskMay bs ws) a else if data.length ≠ 128 then 3 else if ws.length = 4096 then 9 else 0
theorem diskMay_short {bs : List (List UInt8)} {ws : List (Int × List UInt8)} (h : diskMay bs ws = true) : bs.length < 1000000 ∧ ws.length < 1000000 ∧ (∀ l ∈ bs, l.length < 1000000) ∧ ∀ p ∈ ws, p.2.length < 1000000 := by
  unfold diskMay headD at h
  simp only [Bool.and_eq_true, decide_eq_true_eq, List.all_eq_true] at h
  obtain ⟨⟨h1, h2⟩, h3, h4⟩ := h
  refine ⟨by omega, by omega, fun l hl => ?_, fun p hp => ?_⟩
  · have := h3 l hl
    unfold blkOk at this
    have := of_decide_eq_true this
    omega
  · have := h4 p hp
    unfold wrOk at this
    have := of_decide_eq_true this
    omega
theorem DiskT.waits {lo : Nat} {bs : List (List UInt8)} {ws : List (Int × List UInt8)} {BB WW g : Nat} {W : World} (h : DiskT lo bs ws BB WW g W) (h2 : ws.length < 1000000) : ∃ ps : List ((Int × List UInt8) × Value), ps.map (·.1) = ws ∧ W.ownsRow lo 137 2 (.slice (some ⟨WW, 0, none⟩) ws.length (ws.length + 1)) ws.length (cells2 ps) ∧ ∀ p ∈ ps, ∃ F, InG W g F p.2 p.1.2 := by
  obtain ⟨cw, hw1, hw2, hw3⟩ := h.ww
  have hq : ∀ i, i < ws.length → ∃ q : (Int × List UInt8) × Value, ws[i]? = some q.1 ∧ (∃ F, InG W g F q.2 q.1.2) ∧ cw[i * 2]? = some (.int .i64 q.1.1) ∧ cw[i * 2 + 1]? = some q.2 := fun i hi => by
    obtain ⟨v, F, e1, e2, e3⟩ := hw3 i ws[i] (List.getElem?_eq_getElem hi)
    exact ⟨(ws[i], v), List.getElem?_eq_getElem hi, ⟨F, e3⟩, e1, e2⟩
  obtain ⟨Q, hQ⟩ := Go.Deep.choose_lt (α := (Int × List UInt8) × Value) (p := fun i q => ws[i]? = some q.1 ∧ (∃ F, InG W g F q.2 q.1.2) ∧ cw[i * 2]? = some (.int .i64 q.1.1) ∧ cw[i * 2 + 1]? = some q.2) hq
  refine ⟨(List.range ws.length).map Q, ?_, ⟨by rw [cells2_len]; simp, .inr ⟨WW, ws.length + 1, cw, rfl, h.los.2.1, hw1, by omega, by unfold maxLen; omega, hw2, ?_⟩⟩, fun p hp => ?_⟩
  · apply List.ext_getElem?
    intro i
    rw [List.map_map, List.getElem?_map]
    rcases Nat.lt_or_ge i ws.length with hi | hi
    · rw [List.getElem?_range hi, (hQ i hi).1]; rfl
    · rw [List.getElem?_eq_none (by simpa using hi), List.getElem?_eq_none hi]; rfl
  · apply List.ext_getElem?
    intro j
    rw [List.getElem?_take]
    by_cases hj : j < ws.length * 2
    · rw [if_pos hj]
      obtain ⟨c0, c1⟩ := cells2_at ((List.range ws.length).map Q) (j / 2) (by simp; omega)
      obtain ⟨_, _, q0, q1⟩ := hQ (j / 2) (by omega)
      have e0 : cw.toList[j]? = cw[j]? := by simp
      rw [e0]
      rcases (show j = j / 2 * 2 ∨ j = j / 2 * 2 + 1 by omega) with e | e
      · rw [show cw[j]? = cw[j / 2 * 2]? from congrArg (fun t => cw[t]?) e, q0, show (cells2 ((List.range ws.length).map Q))[j]? = (cells2 ((List.range ws.length).map Q))[j / 2 * 2]? from congrArg (fun t => (cells2 ((List.range ws.length).map Q))[t]?) e, c0]
        simp
      · rw [show cw[j]? = cw[j / 2 * 2 + 1]? from congrArg (fun t => cw[t]?) e, q1, show (cells2 ((List.range ws.length).map Q))[j]? = (cells2 ((List.range ws.length).map Q))[j / 2 * 2 + 1]? from congrArg (fun t => (cells2 ((List.range ws.length).map Q))[t]?) e, c1]
        simp
    · rw [if_neg hj, List.getElem?_eq_none (by rw [cells2_len]; simp; omega)]
  · obtain ⟨i, hi, rfl⟩ := List.mem_map.1 hp
    exact (hQ i (List.mem_range.1 hi)).2.1

theorem cells2_append (ps : List ((Int × List UInt8) × Value)) (a : Int) (l : List UInt8) (u : Value) : cells2 (ps ++ [((a, l), u)]) = cells2 ps ++ gW (a, l) u := by
  induction ps with
  | nil => rfl
  | cons p r ih => simp only [List.cons_append, cells2, ih]
theorem DiskT.blocks {lo : Nat} {bs : List (List UInt8)} {ws : List (Int × List UInt8)} {BB WW g : Nat} {W : World} (h : DiskT lo bs ws BB WW g W) (h1 : bs.length < 1000000) (h3 : ∀ l ∈ bs, l.length < 1000000)
    (W2 : World) (hB : ∀ j, W2.cell? ⟨BB, j, none⟩ = W.cell? ⟨BB, j, none⟩) (hg : ∀ j, W2.cell? ⟨g, j, none⟩ = W.cell? ⟨g, j, none⟩) : Bls W2 W.heap.size (.slice (some ⟨BB, 0, none⟩) bs.length bs.length) bs := by
  obtain ⟨cb, hb1, hb2, hb3⟩ := h.bb
  have z1 := (Array.getElem?_eq_some_iff.1 hb1).1
  have hm : ∀ n, n < 1000001 → n ≤ maxLen := fun n hn => by unfold maxLen; omega
  refine ⟨cb.toList, _, _, rfl, Nat.le_refl _, hm _ (by omega), ⟨by simp [hb2], fun _ => ⟨BB, 0, rfl, z1, fun j u hu => ?_⟩⟩, fun i u l hu hl => ?_⟩
  · rw [Nat.zero_add, hB, cells_row hb1]
    simpa using hu
  · obtain ⟨v, F, e1, e2⟩ := hb3 i l hl
    have : cb.toList[i]? = cb[i]? := by simp
    rw [this, e1] at hu
    cases hu
    exact (e2.cells hg).bys h.los.2.2.2.1 (hm _ (by have := h3 l (List.mem_of_getElem? hl); omega))

set_option maxHeartbeats 4000000 in
set_option maxRecDepth 100000 in
theorem dwrite_any (A1 : Option Addr) (n1 c1 : Nat) (A2 : Option Addr) (n2 c2 : Nat) (bs : List (List UInt8)) (ws : List (Int × List UInt8)) (a : Int) (A : Option Addr) (c : Nat) (data : List UInt8) (w : World)
    (hb : Bls w w.heap.size (.slice A1 n1 c1) bs) (hw : Wrs w w.heap.size (.slice A2 n2 c2) ws) (hd : Bys w w.heap.size (.slice A data.length c) data) :
    Calls Try.prog 68 #[diskV A1 n1 c1 A2 n2 c2, .int .i64 a, .slice A data.length c] w (RetS (fun u W => (writeE bs ws a data ≠ 0 ∧ u = noDisk (writeE bs ws a data)) ∨ (writeE bs ws a data = 0 ∧ ∃ v, u = .tuple #[v, .int .i64 0] ∧ NewDisk w.heap.size bs (ws ++ [(a, data)]) v W)) w) := by
  have HA := Lib.hid (fun W (hW : Ext w W) => dasked_any A1 n1 c1 A2 n2 c2 bs ws a W ((hb.below hW).more hW.size) ((hw.below hW).more hW.size))
  have HT := Lib.hid (fun (h : diskMay bs ws = true) W (hW : Ext w W) => dtwin_any A1 n1 c1 A2 n2 c2 bs ws (diskMay_short h).1 (diskMay_short h).2.1 (diskMay_short h).2.2.1 (diskMay_short h).2.2.2 W ((hb.below hW).more hW.size) ((hw.below hW).more hW.size))
  have HC := Lib.hid (fun (h : data.length = 128) W (hW : Ext w W) => bclone_any (.slice A data.length c) data (by omega) W ((hd.below hW).more hW.size))
  obtain ⟨e2, hc2, hm2, -⟩ := hw.at_
  subst e2
  have hE : ∀ e, e = askE (diskMay bs ws) a → writeE bs ws a data = if e ≠ 0 then e else if data.length ≠ 128 then 3 else if ws.length = 4096 then 9 else 0 := fun e h => by subst h; rfl
  have hM : Hid (askE (diskMay bs ws) a = 0 → diskMay bs ws = true) := Lib.hid fun h => by
    unfold askE at h
    split at h
    · assumption
    · cases h
  clear hb hw hd hm2
  obtain ⟨ae, hae⟩ : ∃ ae, ae = askE (diskMay bs ws) a := ⟨_, rfl⟩
  rw [← hae] at HA hM
  replace hE := Lib.hid (hE ae hae)
  clear hae
  go_enter Try.func68, Try.ntmps68
  go_wp2_with fail
  generalize hw1 : World.alloc (World.alloc _ _) _ = w1
  have x1 : Ext w w1 := by rw [← hw1]; exact (Ext.alloc _ _).trans (Ext.alloc _ _)
  have r1 : w1.heap[w.heap.size]? = some (.cells #[.slice A1 n1 c1, .slice A2 ws.length c2] 25 (0, 0)) := by rw [← hw1]; exact (Below.heap_alloc _ _ _ (by simp)).trans (World.alloc_heap_at _ _ _ rfl)
  have q1 : w1.heap[w.heap.size + 1]? = some (.cells #[.slice none 0 0, .slice none 0 0] 25 (0, 0)) := by rw [← hw1]; exact World.alloc_heap_at _ _ _ (by simp)
  clear hw1
  refine (HA.out w1 x1).mono ?_
  rintro e w2 ⟨rfl, hB⟩
  have x2 : Ext w w2 := x1.trans hB
  have r2 := row_ext r1 hB
  have q2 := row_ext q1 hB
  have k2 := cells_row r2
  have kq := cells_row q2
  have fq := frozen_row q2
  have zq := (Array.getElem?_eq_some_iff.1 q2).1
  clear hB x1 HA r1 q1
  by_cases h0 : ae = 0
  case neg =>
    have d0 : (ae != 0) = true := by simpa using h0
    have e0 : Hid (writeE bs ws a data = ae) := Lib.hid (by rw [hE.out, if_pos h0])
    go_wp2_with fail
    have rf := row_set (row_set q2 0 (.slice none 0 0)) 1 (.slice none 0 0)
    have kf := cells_row rf
    have bf : Below w.heap.size w ((w2.setCell ⟨w.heap.size + 1, 0, none⟩ (.slice none 0 0)).setCell ⟨w.heap.size + 1, 1, none⟩ (.slice none 0 0)) := Below.setCell (Below.setCell x2 (p := ⟨w.heap.size + 1, 0, none⟩) (Nat.le_succ _) _) (p := ⟨w.heap.size + 1, 1, none⟩) (Nat.le_succ _) _
    exact bodyPost_ret (v := noDisk ae) (by simp [results, Try.results68, go_sem, kf]) rfl ⟨_, rfl, .inl ⟨by rw [e0.out]; exact h0, by rw [e0.out]⟩, bf⟩
  case pos =>
    have hmay := hM.out h0
    rw [h0] at hE ⊢
    clear h0 hM
    by_cases h1 : data.length = 128
    case neg =>
      have d1 : ((data.length : Int) != 128) = true := by rw [bne_iff_ne]; omega
      have e0 : Hid (writeE bs ws a data = 3) := Lib.hid (by rw [hE.out, if_neg (by decide), if_pos h1])
      go_wp2_with fail
      have rf := row_set (row_set q2 0 (.slice none 0 0)) 1 (.slice none 0 0)
      have kf := cells_row rf
      have bf : Below w.heap.size w ((w2.setCell ⟨w.heap.size + 1, 0, none⟩ (.slice none 0 0)).setCell ⟨w.heap.size + 1, 1, none⟩ (.slice none 0 0)) := Below.setCell (Below.setCell x2 (p := ⟨w.heap.size + 1, 0, none⟩) (Nat.le_succ _) _) (p := ⟨w.heap.size + 1, 1, none⟩) (Nat.le_succ _) _
      exact bodyPost_ret (v := noDisk 3) (by simp [results, Try.results68, go_sem, kf]) rfl ⟨_, rfl, .inl ⟨by rw [e0.out]; decide, by rw [e0.out]⟩, bf⟩
    case pos =>
      have d1 : ((data.length : Int) != 128) = false := by rw [bne_eq_false_iff_eq]; omega
      by_cases h2 : ws.length = 4096
      case pos =>
        have d2 : ((ws.length : Int) == 4096) = true := by rw [beq_iff_eq]; omega
        have e0 : Hid (writeE bs ws a data = 9) := Lib.hid (by rw [hE.out, if_neg (by decide), if_neg (by omega), if_pos h2])
        go_wp2_with fail
        have rf := row_set (row_set q2 0 (.slice none 0 0)) 1 (.slice none 0 0)
        have kf := cells_row rf
        have bf : Below w.heap.size w ((w2.setCell ⟨w.heap.size + 1, 0, none⟩ (.slice none 0 0)).setCell ⟨w.heap.size + 1, 1, none⟩ (.slice none 0 0)) := Below.setCell (Below.setCell x2 (p := ⟨w.heap.size + 1, 0, none⟩) (Nat.le_succ _) _) (p := ⟨w.heap.size + 1, 1, none⟩) (Nat.le_succ _) _
        exact bodyPost_ret (v := noDisk 9) (by simp [results, Try.results68, go_sem, kf]) rfl ⟨_, rfl, .inl ⟨by rw [e0.out]; decide, by rw [e0.out]⟩, bf⟩
      case neg =>
        have d2 : ((ws.length : Int) == 4096) = false := by rw [beq_eq_false_iff_ne]; omega
        have e0 : Hid (writeE bs ws a data = 0) := Lib.hid (by rw [hE.out, if_neg (by decide), if_neg (by omega), if_neg h2])
        obtain ⟨hbl, hwl, hbe, hwe⟩ := diskMay_short hmay
        have HT2 := Lib.hid (HT.out hmay)
        have HC2 := Lib.hid (HC.out h1)
        clear HT HC
        clear hE
        go_wp2_with fail
        refine (HT2.out w2 x2).mono ?_
        rintro e w3 ⟨BB, WW, g, rfl, hD, hB⟩
        have hB3 : Ext w2 w3 := hB
        have x3 : Ext w w3 := x2.trans hB3
        have r3 := row_ext r2 hB3
        have q3 := row_ext q2 hB3
        clear r2 q2 k2 kq fq hB HT2
        go_wp2_with fail
        generalize hw4 : World.alloc w3 _ = w4
        have x34 : Ext w3 w4 := by rw [← hw4]; exact Ext.alloc _ _
        have t4 : w4.heap[w3.heap.size]? = some (.cells #[.slice (some ⟨BB, 0, none⟩) bs.length bs.length, .slice (some ⟨WW, 0, none⟩) ws.length (ws.length + 1)] 25 (0, 0)) := by rw [← hw4]; exact World.alloc_heap_at _ _ _ rfl
        clear hw4
        have hD4 := hD.keep (Nat.le_refl _) x34.size (fun b _ hb => x34.block b hb)
        obtain ⟨ps, hps, hown, hin⟩ := hD4.waits hwl
        have hpl : ps.length = ws.length := by rw [← hps, List.length_map]
        obtain ⟨l1, l2, l3, l4, l5, l6, l7⟩ := hD4.los
        have r4 := row_ext r3 x34
        have q4 := row_ext q3 x34
        have x4 : Ext w w4 := x3.trans x34
        have z23 := hB3.size
        have z34 := x34.size
        have zt := (Array.getElem?_eq_some_iff.1 t4).1
        have hWl : WW < w4.heap.size := by obtain ⟨_, h, _⟩ := hD4.ww; exact (Array.getElem?_eq_some_iff.1 h).1
        have hBl : BB < w4.heap.size := by obtain ⟨_, h, _⟩ := hD4.bb; exact (Array.getElem?_eq_some_iff.1 h).1
        have hW3 : WW ≠ w3.heap.size := by
          obtain ⟨_, h, _⟩ := hD4.ww
          exact ne_of_row h t4 (by decide)
        have hB3' : BB ≠ w3.heap.size := by
          obtain ⟨_, h, _⟩ := hD4.bb
          exact ne_of_row h t4 (by decide)
        have hg3 : g < w3.heap.size := hD.los.2.2.2.1
        have hvl : ∀ k, (Value.slice (some ⟨WW, 0, none⟩) ws.length (ws.length + 1)).ownBlock = some k → k = WW := fun k hk => by simp [Value.ownBlock] at hk; exact hk.symm
        have hv1 : ∀ k, (Value.slice (some ⟨WW, 0, none⟩) ws.length (ws.length + 1)).ownBlock = some k → k < w4.heap.size := fun k hk => by rw [hvl k hk]; exact hWl
        obtain ⟨i0, hi, hz0, hz1, hz2⟩ := info_parts Try.info_write
        obtain ⟨RR, hRR⟩ : ∃ RR : Rel, RR = appX w2.heap.size 137 2 w4.heap.size (.slice (some ⟨WW, 0, none⟩) ws.length (ws.length + 1)) ws.length (cells2 ps) (gW (a, data)) data := ⟨_, rfl⟩
        have g1 : ∀ W, RR.r w4 W → ∀ i, W.cell? ⟨w3.heap.size, i, none⟩ = #[.slice (some ⟨BB, 0, none⟩) bs.length bs.length, .slice (some ⟨WW, 0, none⟩) ws.length (ws.length + 1)][i]? := fun W h => cells_row (appX_row (hRR ▸ h) (fun e => hW3 (hvl _ e).symm) t4)
        replace hRR := Lib.hid hRR
        replace hD := Lib.hid hD
        replace hD4 := Lib.hid hD4
        replace hown := Lib.hid hown
        replace hin := Lib.hid hin
        replace hps := Lib.hid hps
        clear hD
        go_wp2_with fail
        refine region_start (by kernel_rfl) ?_
        refine any_freeT (w := w4) RR (outsAt [(4, outNB w4.heap.size data.length data), (5, outW w4.heap.size a data), (6, outLitX w4.heap.size 137 (gW (a, data)) data), (7, outX w2.heap.size 137 2 w4.heap.size (.slice (some ⟨WW, 0, none⟩) ws.length (ws.length + 1)) ws.length (cells2 ps) (gW (a, data)) data)])
          [true, true, true, true, true, true, true, true, true] 1 (by kernel_rfl) (by kernel_rfl) (by kernel_rfl) (by kernel_rfl) (by kernel_rfl) (by kernel_rfl) (by kernel_rfl) ?st (Rel.drew _ _) ?walk
        case st => rw [hRR.out]; exact outsAt_stableG (by simp only [List.forall_mem_cons]; exact ⟨outNB_stableX hv1, outW_stableX hv1, outLitX_stable hv1, outX_stable, fun _ h => by cases h⟩)
        case walk =>
          intro K hK
          dsimp only [maskOps]
          repeat ((first | (refine free_plainM ?_ (by rfl) (by rfl) (fun W hW _ => ⟨W, ?_, Rel.refl _ W⟩) ?_; rotate_left; (first | (go_simp; with_reducible rfl) | (go_simp; done))) | (refine free_skipM (by rfl) ?_)); try simp only [Act.put, one_f, outB_f, outNew_f, outI_f, outLitX_f, outX_f, outNB_f, outW_f, List.setIfInBounds_toArray, List.set_cons_zero, List.set_cons_succ])
          refine free_hardM (outNB w4.heap.size data.length data) (by rfl) (by rfl) (fun W hW _ => ?_) (fun p7 => ?_)
          · rw [hRR.out] at hW ⊢
            have hxW : Ext w W := ⟨hW.1.os.trans x4.os, hW.1.tape.trans x4.tape, hW.1.output.trans x4.output, Nat.le_trans x4.size hW.1.size, fun k hk => (hW.1.block k (Nat.lt_of_lt_of_le hk x4.size) (fun e => by have := hvl k e.symm; have := x2.size; omega)).trans (x4.block k hk)⟩
            refine hardAt_callG ?_ ((HC2.out W hxW).mono fun e w' h => ?_)
            · go_simp
            obtain ⟨u, rfl, hu, hB⟩ := h
            have h1 := IsB.of_own hu
            obtain ⟨A', c', rfl, _, _⟩ := own_slice hu
            exact ⟨(A', c'), rfl, (NewB.of_own hu).mono hW.1.size, appX_ext hB⟩
          obtain ⟨A7, c7⟩ := p7
          simp only [Act.put, one_f, outB_f, outNew_f, outI_f, outLitX_f, outX_f, outNB_f, outW_f, List.setIfInBounds_toArray, List.set_cons_zero, List.set_cons_succ]
          refine free_hardM (outW w4.heap.size a data) (by rfl) (by rfl) (fun W hW hp => ?_) (fun p7 => ?_)
          · rw [hRR.out] at hW ⊢
            have f7 := (hp 4 (by decide)).1
            refine hardAt_valueG (u := .agg #[.int .i64 a, .slice A7 data.length c7]) (w' := W) ?_ ⟨(A7, c7), rfl, f7, Rel.refl _ W⟩
            go_simp
          obtain ⟨A7, c7⟩ := p7
          simp only [Act.put, one_f, outB_f, outNew_f, outI_f, outLitX_f, outX_f, outNB_f, outW_f, List.setIfInBounds_toArray, List.set_cons_zero, List.set_cons_succ]
          refine free_hardM (outLitX w4.heap.size 137 (gW (a, data)) data) (by rfl) (by rfl) (fun W hW hp => ?_) (fun p8 => ?_)
          · rw [hRR.out] at hW ⊢
            have f7 := (hp 5 (by decide)).1
            refine hardAt_litX (A := A7) (c := c7) ?_ hW.1.size f7
            go_simp
          simp only [Act.put, one_f, outB_f, outNew_f, outI_f, outLitX_f, outX_f, outNB_f, outW_f, List.setIfInBounds_toArray, List.set_cons_zero, List.set_cons_succ]
          refine free_hardM (outX w2.heap.size 137 2 w4.heap.size (.slice (some ⟨WW, 0, none⟩) ws.length (ws.length + 1)) ws.length (cells2 ps) (gW (a, data)) data) (by rfl) (by rfl) (fun W hW hp => ?_) (fun p9 => ?_)
          · rw [hRR.out] at hW ⊢
            obtain ⟨_, A8, c8, hcells, hB8⟩ := (hp 6 (by decide)).1
            obtain ⟨v', w', hrun, hD, hR'⟩ := run_append_X (P := Try.prog) (lo := w4.heap.size) (f := gW (a, data)) (l := data) W 23 23 i0 _ 32 Try.underlying23 hi hz0 hz1 hz2 rfl (by decide) (hW.2.1 hown.out) ⟨p8, 0, none⟩ A8 c8 rfl (row_adds hcells) (by simp [gW, Value.oneCell']) hB8 hv1 (by omega) (by decide) (by have := hW.1.size; omega) hW.1.size
            have hsl := hD
            obtain ⟨_, _, hDD, _⟩ := hsl
            obtain ⟨A', c', rfl, _, _⟩ := own_slice hDD.1
            refine hardAt_valueG (u := .slice A' (ws.length + 1) c') (w' := w') ?_ ⟨(A', c'), rfl, hD, hR'⟩
            exact exec_append (s := .tmp 29) (x := .tmp 34) rfl rfl rfl hrun
          obtain ⟨A9, c9⟩ := p9
          simp only [Act.put, one_f, outB_f, outNew_f, outI_f, outLitX_f, outX_f, outNB_f, outW_f, List.setIfInBounds_toArray, List.set_cons_zero, List.set_cons_succ]
          repeat ((first | (refine free_plainM ?_ (by rfl) (by rfl) (fun W hW _ => ⟨W, ?_, Rel.refl _ W⟩) ?_; rotate_left; (first | (go_simp; with_reducible rfl) | (go_simp; done))) | (refine free_skipM (by rfl) ?_)); try simp only [Act.put, one_f, outB_f, outNew_f, outI_f, outLitX_f, outX_f, outNB_f, outW_f, List.setIfInBounds_toArray, List.set_cons_zero, List.set_cons_succ])
          refine free_nilM (hK _ _ fun W hW hF => ?_)
          have hDX : DoneX _ _ _ _ _ _ _ _ _ (.slice A9 (ws.length + 1) c9) W := (hF 7).1
          clear hF hK g1
          rw [hRR.out] at hW
          dsimp only [List.drop, List.length_cons, List.length_nil]
          have tW := appX_row hW (fun e => hW3 (hvl _ e).symm) t4
          have qW := appX_row hW (fun e => by have := hvl _ e; omega) q4
          have kt := cells_row tW
          have ft := frozen_row tW
          have kq := cells_row qW
          have fq := frozen_row qW
          have zW := hW.1.size
          obtain ⟨A10, c10, hDn, hBd, _⟩ := hDX
          have hbW : Below w.heap.size w W := ⟨hW.1.os.trans x4.os, hW.1.tape.trans x4.tape, hW.1.output.trans x4.output, Nat.le_trans x4.size zW, fun k hk => (hW.1.block k (by have := x4.size; omega) (fun e => by have := hvl k e.symm; omega)).trans (x4.block k hk)⟩
          have hgW : ∀ b, b < w4.heap.size → b ≠ WW → W.heap[b]? = w4.heap[b]? := fun b h1 h2 => hW.1.block b h1 (fun e => h2 (hvl b e.symm))
          replace hDn := Lib.hid hDn
          replace hBd := Lib.hid hBd
          replace hgW := Lib.hid hgW
          clear hW t4 q4 r4 r3 q3
          go_wp2
          refine QN_in ?_
          go_wp2_with fail
          have hl1 : (ws ++ [(a, data)]).length = ws.length + 1 := by simp
          have rf := row_set (row_set ((Below.heap_setCell W ⟨w3.heap.size, 1, none⟩ (.slice A9 (ws.length + 1) c9) (w.heap.size + 1) (by show w.heap.size + 1 ≠ w3.heap.size; omega)).trans qW) 0 (.slice (some ⟨BB, 0, none⟩) bs.length bs.length)) 1 (.slice A9 (ws.length + 1) c9)
          have kf := cells_row rf
          have st : ∀ b, b ≠ w3.heap.size → b ≠ w.heap.size + 1 → (((W.setCell ⟨w3.heap.size, 1, none⟩ (.slice A9 (ws.length + 1) c9)).setCell ⟨w.heap.size + 1, 0, none⟩ (.slice (some ⟨BB, 0, none⟩) bs.length bs.length)).setCell ⟨w.heap.size + 1, 1, none⟩ (.slice A9 (ws.length + 1) c9)).heap[b]? = W.heap[b]? := fun b h1 h2 => (Below.heap_setCell _ _ _ _ h2).trans ((Below.heap_setCell _ _ _ _ h2).trans (Below.heap_setCell _ _ _ _ h1))
          have hz : (((W.setCell ⟨w3.heap.size, 1, none⟩ (.slice A9 (ws.length + 1) c9)).setCell ⟨w.heap.size + 1, 0, none⟩ (.slice (some ⟨BB, 0, none⟩) bs.length bs.length)).setCell ⟨w.heap.size + 1, 1, none⟩ (.slice A9 (ws.length + 1) c9)).heap.size = W.heap.size := by simp
          have bf : Below w.heap.size w (((W.setCell ⟨w3.heap.size, 1, none⟩ (.slice A9 (ws.length + 1) c9)).setCell ⟨w.heap.size + 1, 0, none⟩ (.slice (some ⟨BB, 0, none⟩) bs.length bs.length)).setCell ⟨w.heap.size + 1, 1, none⟩ (.slice A9 (ws.length + 1) c9)) := Below.setCell (Below.setCell (Below.setCell hbW (p := ⟨w3.heap.size, 1, none⟩) (by show w.heap.size ≤ w3.heap.size; omega) _) (p := ⟨w.heap.size + 1, 0, none⟩) (Nat.le_succ _) _) (p := ⟨w.heap.size + 1, 1, none⟩) (Nat.le_succ _) _
          generalize World.setCell (World.setCell (World.setCell W _ _) _ _) _ _ = wf at *
          refine bodyPost_ret (v := .tuple #[diskV (some ⟨BB, 0, none⟩) bs.length bs.length A9 (ws.length + 1) c9, .int .i64 0]) (by simp [results, Try.results68, go_sem, kf]) rfl ⟨_, rfl, .inr ⟨e0.out, _, rfl, some ⟨BB, 0, none⟩, bs.length, A9, c9, by rw [hl1], fun W2 hk => ?_⟩, bf⟩
          rw [hz] at hk ⊢
          have hcell : ∀ b, w.heap.size ≤ b → b < w4.heap.size → b ≠ WW → b ≠ w3.heap.size → b ≠ w.heap.size + 1 → ∀ j, W2.cell? ⟨b, j, none⟩ = (thaw w4).cell? ⟨b, j, none⟩ := fun b h1 h2 h3 h4 h5 j => (hk ⟨b, j, none⟩ h1 (by show b < W.heap.size; omega)).trans ((thaw_of_block (q := ⟨b, j, none⟩) (st b h4 h5)).trans (thaw_of_block (q := ⟨b, j, none⟩) (hgW.out b h2 h3)))
          obtain ⟨cg, tg, hgr⟩ := hD4.out.gg
          obtain ⟨cb, hbr, -⟩ := hD4.out.bb
          have hgc := fun j => (hcell g (by omega) l4 (fun e => l7 e.symm) (by omega) (by omega) j).trans (thaw_cell hgr j)
          refine ⟨(hD4.out.blocks hbl hbe W2 (fun j => (hcell BB (by omega) hBl l5 hB3' (by omega) j).trans (thaw_cell hbr j)) hgc).more zW, ?_⟩
          have hOw := hDn.out.1
          have hlt := own_lt hOw
          have hA9 : ∀ k, (Value.slice A9 (ws.length + 1) c9).ownBlock = some k → k ≠ w3.heap.size ∧ k ≠ w.heap.size + 1 := fun k hk => by
            have h1 := hlt k hk
            rcases hDn.out.2 with h2 | ⟨q, h2, h3⟩
            · have := hvl k (h2 ▸ hk)
              omega
            · have : k = q := by rw [hk] at h2; exact Option.some.inj h2
              omega
          obtain ⟨B9, d9, e9, hn9, hm9⟩ := own_slice hOw
          cases e9
          obtain ⟨g9, cs9, t9, rfl, hr9⟩ : ∃ g9 cs9 t9, A9 = some ⟨g9, 0, none⟩ ∧ W.heap[g9]? = some (.cells cs9 t9 (0, 0)) := by
            rcases hOw.2 with ⟨_, h0⟩ | ⟨g9, _, _, e, _, hr9, _⟩
            · omega
            · cases e; exact ⟨g9, _, _, rfl, hr9⟩
          refine ⟨ps ++ [((a, data), .slice A10 data.length c10)], by rw [List.map_append, hps.out]; rfl, ⟨some ⟨g9, 0, none⟩, c9, by rw [hl1], by rw [hl1]; exact hn9, hm9, ?_⟩, fun p hp => ?_⟩
          · rw [hl1]
            have hR := Rd.of_own hOw
            refine ⟨by rw [cells2_append]; exact hR.1, fun hn => ?_⟩
            obtain ⟨b, off, eA, hb, hc⟩ := hR.2 hn
            cases eA
            have hbk := hA9 g9 rfl
            refine ⟨g9, 0, rfl, hb, fun j u hu => ?_⟩
            rw [cells2_append] at hu
            have h2 := hlt g9 rfl
            exact (hk ⟨g9, 0 + j, none⟩ (by show w.heap.size ≤ g9; omega) hb).trans ((thaw_of_block (q := ⟨g9, 0 + j, none⟩) (st g9 hbk.1 hbk.2)).trans ((thaw_cell hr9 _).trans (hc j u hu)))
          · rcases List.mem_append.1 hp with hp | hp
            · obtain ⟨F, hI⟩ := hin.out p hp
              have hI2 := hI.cells hgc
              have hp1 : p.1 ∈ ws := by rw [← hps.out]; exact List.mem_map.2 ⟨p, hp, rfl⟩
              have hp2 := hwe _ hp1
              have hby := hI2.bys (B := W.heap.size) (by omega) (by unfold maxLen; omega)
              obtain ⟨o, e, _⟩ := hI
              exact ⟨⟨_, _, e⟩, hby⟩
            · have : p = ((a, data), .slice A10 data.length c10) := by simpa using hp
              subst this
              refine ⟨⟨A10, c10, rfl⟩, hBd.out.thaw.keepN hBd.out.from fun q h1 h2 => (hk q (by omega) h2).trans (thaw_of_block (st q.block (by omega) (by omega)))⟩
end Go.Proofs.Ytlgbjpihmkeopaa
/- All that waits made last: plain words. -/
namespace Go.Proofs.Ytlgbjpihmkeopaa
set_option linter.unusedSimpArgs false
set_option linter.unusedVariables false
open Go.RowKit

def settleL (bs : List (List UInt8)) (ws : List (Int × List UInt8)) : List (List UInt8) := ws.foldl (fun b p => b.set p.1.toNat p.2) bs
theorem settle_step (bs : List (List UInt8)) {ws : List (Int × List UInt8)} {k : Nat} (h : k < ws.length) : settleL bs (ws.take (k + 1)) = (settleL bs (ws.take k)).set ws[k].1.toNat ws[k].2 := by
  unfold settleL
  rw [List.take_succ_eq_append_getElem h, List.foldl_append]
  rfl
theorem settle_len (bs : List (List UInt8)) (ws : List (Int × List UInt8)) : (settleL bs ws).length = bs.length := by
  unfold settleL
  induction ws generalizing bs with
  | nil => rfl
  | cons p r ih => rw [List.foldl_cons, ih, List.length_set]
def seenD (bs : List (List UInt8)) (ws : List (Int × List UInt8)) (r : Nat) : List UInt8 := seenB ⟨bs, ws, [], []⟩ r
theorem seenD_eq (S : Sto) (r : Nat) : seenB S r = seenD S.bs S.ws r := rfl
theorem seenD_nil (bs : List (List UInt8)) (r : Nat) : seenD bs [] r = bs[r]?.getD [] := rfl
theorem seenD_snoc (bs : List (List UInt8)) (ws : List (Int × List UInt8)) (a : Int) (l : List UInt8) {r : Nat} (h : a ≠ (r : Int)) : seenD bs (ws ++ [(a, l)]) r = seenD bs ws r := by
  unfold seenD seenB lastTo
  simp only
  rw [List.reverse_append, List.reverse_singleton, List.singleton_append, List.find?_cons]
  have : (a == (r : Int)) = false := by rw [beq_eq_false_iff_ne]; exact h
  simp only [this]
theorem settle_take {bs : List (List UInt8)} {ws : List (Int × List UInt8)} (hw : ∀ p ∈ ws, 0 ≤ p.1) {r : Nat} (hr : r < bs.length) : ∀ k, k ≤ ws.length → (settleL bs (ws.take k))[r]?.getD [] = seenD bs (ws.take k) r
  | 0, _ => rfl
  | k + 1, hk => by
    have hp := hw ws[k] (List.getElem_mem _)
    rw [settle_step bs hk]
    unfold seenD seenB
    simp only
    rw [lastTo_take hk]
    by_cases e : ws[k].1 = (r : Int)
    · rw [if_pos e, show ws[k].1.toNat = r by omega, List.getElem?_set_self (by rw [settle_len]; exact hr)]
      rfl
    · rw [if_neg e, List.getElem?_set_ne (by omega)]
      exact settle_take hw hr k (by omega)
theorem settle_seen {bs : List (List UInt8)} {ws : List (Int × List UInt8)} (h : diskMay bs ws = true) {r : Nat} (hr : r < 256) : seenD (settleL bs ws) [] r = seenD bs ws r := by
  have h0 := h
  unfold diskMay headD at h
  simp only [Bool.and_eq_true, decide_eq_true_eq, List.all_eq_true] at h
  obtain ⟨⟨h1, h2⟩, h3, h4⟩ := h
  have hw : ∀ p ∈ ws, 0 ≤ p.1 := fun p hp => by
    have := h4 p hp
    unfold wrOk at this
    exact (of_decide_eq_true this).1
  have := settle_take (bs := bs) (r := r) hw (by omega) ws.length (Nat.le_refl _)
  rw [List.take_length] at this
  rw [seenD_nil]
  exact this
theorem settle_may {bs : List (List UInt8)} {ws : List (Int × List UInt8)} (h : diskMay bs ws = true) : diskMay (settleL bs ws) [] = true := by
  unfold diskMay headD at h ⊢
  simp only [Bool.and_eq_true, decide_eq_true_eq, List.all_eq_true] at h ⊢
  obtain ⟨⟨h1, h2⟩, h3, h4⟩ := h
  refine ⟨⟨by rw [settle_len]; exact h1, by simp⟩, fun l hl => ?_, fun p hp => by cases hp⟩
  have key : ∀ k, k ≤ ws.length → ∀ l ∈ settleL bs (ws.take k), blkOk l = true := by
    intro k
    induction k with
    | zero => exact fun _ l hl => h3 l hl
    | succ k ih =>
      intro hk l hl
      rw [settle_step bs hk] at hl
      rcases List.mem_or_eq_of_mem_set hl with h | h
      · exact ih (by omega) l h
      · have := h4 ws[k] (List.getElem_mem _)
        unfold wrOk at this
        subst h
        unfold blkOk
        exact decide_eq_true (of_decide_eq_true this).2.2
  have := key ws.length (Nat.le_refl _)
  rw [List.take_length] at this
  exact this l hl
theorem write_seen {bs : List (List UInt8)} {ws : List (Int × List UInt8)} {a : Int} {l : List UInt8} (ha : a < 8) {r : Nat} (hr : 8 ≤ r) : seenD bs (ws ++ [(a, l)]) r = seenD bs ws r := seenD_snoc bs ws a l (by omega)
theorem write_may {bs : List (List UInt8)} {ws : List (Int × List UInt8)} {a : Int} {l : List UInt8} (h : writeE bs ws a l = 0) : diskMay bs (ws ++ [(a, l)]) = true := by
  unfold writeE at h
  split at h
  · rename_i h1; exact absurd h h1
  · rename_i h1
    have h1 : askE (diskMay bs ws) a = 0 := by simpa using h1
    unfold askE at h1
    split at h1
    · rename_i hd
      split at h1
      · rename_i ha
        split at h
        · cases h
        · rename_i hl
          split at h
          · cases h
          · rename_i hn
            unfold diskMay headD at hd ⊢
            simp only [Bool.and_eq_true, decide_eq_true_eq, List.length_append, List.length_singleton, List.all_append, List.all_cons, List.all_nil, Bool.and_true] at hd ⊢
            obtain ⟨⟨g1, g2⟩, g3, g4⟩ := hd
            refine ⟨⟨g1, by omega⟩, g3, g4, ?_⟩
            unfold wrOk
            exact decide_eq_true ⟨ha.1, ha.2, by simpa using hl⟩
      · cases h1
    · cases h1
theorem sm_commit {S : Sto} {bs : List (List UInt8)} (hS : storeMay S = true) (hseen : ∀ r : Nat, 8 ≤ r → r < 256 → seenD bs [] r = seenD S.bs S.ws r) : SM S ⟨bs, [], S.now, S.now⟩ where
  node r nd e := by
    have hk : 8 ≤ r ∧ r < 256 := by
      unfold nodeAt at e
      split at e
      · cases e
      · rename_i h0
        obtain ⟨_, _, h3, _⟩ := storeMay_len hS
        refine ⟨?_, ?_⟩
        · rcases Nat.lt_or_ge r 8 with h8 | h8
          · exfalso
            apply h0
            unfold storeMay tabMay at hS
            simp only [Bool.and_eq_true, decide_eq_true_eq] at hS
            have hz : zeros (S.now.take 8) = true := hS.2.1.2
            have hx : (S.now.take 8)[r]? = S.now[r]? := by rw [List.getElem?_take, if_pos h8]
            rcases hr : S.now[r]? with _ | x
            · rfl
            · have := List.all_eq_true.1 hz x (List.mem_of_getElem? (hx.trans hr))
              have hx0 : x = 0 := by simpa using this
              subst hx0
              rfl
          · exact h8
        · rcases Nat.lt_or_ge r 256 with h8 | h8
          · exact h8
          · exfalso
            apply h0
            rw [List.getElem?_eq_none (by omega)]
            rfl
    unfold nodeAt at e ⊢
    rw [seenD_eq] at e ⊢
    rw [hseen r hk.1 hk.2]
    exact e
  pos r h := h
end Go.Proofs.Ytlgbjpihmkeopaa
/- Is each block counted often enough? A pool has one list of volumes. -/
namespace Go.Proofs.Ytlgbjpihmkeopaa
set_option linter.unusedSimpArgs false
set_option linter.unusedVariables false
open Go.RowKit

def enoughB (S : Sto) (refs : Nat → Nat) : Bool := (List.range 256).all fun a => decide (refs a ≤ (S.now[a]?.getD 0).toNat)
theorem enoughB_iff (S : Sto) (refs : Nat → Nat) : enoughB S refs = true ↔ Enough S refs := by
  unfold enoughB Enough
  rw [List.all_eq_true]
  exact ⟨fun h a ha => of_decide_eq_true (h a (List.mem_range.2 ha)), fun h a ha => decide_eq_true (h a (List.mem_range.1 ha))⟩
theorem PoolB.same {S : Sto} {root next : Int} {dead : List Int} {vs vs' : List Vol} (h : PoolB S root next dead vs) (h' : PoolB S root next dead vs') : vs = vs' := by
  have := h.vols
  rw [h'.vols] at this
  cases this
  rfl
end Go.Proofs.Ytlgbjpihmkeopaa
/- CheckParts: plain words. -/
namespace Go.Proofs.Ytlgbjpihmkeopaa
set_option linter.unusedSimpArgs false
set_option linter.unusedVariables false
open Go.RowKit

structure PartI (S : Sto) (M : Nat → Bool) (i : Nat) : Prop where
  free : (useB S M i = 1) ↔ freeB S i = true
  fixed : (i < 8) ↔ useB S M i = 0
  taken : 8 ≤ i → ((useB S M i = 3 ∨ useB S M i = 4) ↔ 0 < nowN S i)
  pinned : 8 ≤ i → ((useB S M i = 2) ↔ (nowN S i = 0 ∧ 0 < lastN S i))
theorem part_of {S : Sto} {M : Nat → Bool} (hM : ∀ a, M a = true → 8 ≤ a ∧ 0 < nowN S a) (i : Nat) : PartI S M i := by
  have hn : (S.now[i]?.getD 0).toNat = nowN S i := rfl
  have hl : (S.last[i]?.getD 0).toNat = lastN S i := rfl
  have hu : useB S M i = if M i = true then 3 else if i < 8 then 0 else if 0 < nowN S i then 4 else if 0 < lastN S i then 2 else 1 := rfl
  have hf : freeB S i = true ↔ 8 ≤ i ∧ nowN S i = 0 ∧ lastN S i = 0 := by unfold freeB; simp
  by_cases hm : M i = true
  · have := hM i hm
    rw [if_pos hm] at hu
    refine ⟨?_, ?_, fun _ => ?_, fun _ => ?_⟩
    · rw [hu, hf]; omega
    · rw [hu]; omega
    · rw [hu]; omega
    · rw [hu]; omega
  · rw [if_neg hm] at hu
    by_cases h8 : i < 8
    · rw [if_pos h8] at hu
      refine ⟨?_, ?_, fun _ => ?_, fun _ => ?_⟩
      · rw [hu, hf]; omega
      · rw [hu]; omega
      · omega
      · omega
    · rw [if_neg h8] at hu
      by_cases h0 : 0 < nowN S i
      · rw [if_pos h0] at hu
        refine ⟨?_, ?_, fun _ => ?_, fun _ => ?_⟩
        · rw [hu, hf]; omega
        · rw [hu]; omega
        · rw [hu]; omega
        · rw [hu]; omega
      · rw [if_neg h0] at hu
        by_cases h1 : 0 < lastN S i
        · rw [if_pos h1] at hu
          refine ⟨?_, ?_, fun _ => ?_, fun _ => ?_⟩
          · rw [hu, hf]; omega
          · rw [hu]; omega
          · rw [hu]; omega
          · rw [hu]; omega
        · rw [if_neg h1] at hu
          refine ⟨?_, ?_, fun _ => ?_, fun _ => ?_⟩
          · rw [hu, hf]; omega
          · rw [hu]; omega
          · rw [hu]; omega
          · rw [hu]; omega
theorem met_taken {S : Sto} {root next : Int} {dead : List Int} {vs : List Vol} {refs nodes : Nat → Nat} (hp : PoolB S root next dead vs) (hc : Counted S (rootsN root dead vs) refs nodes) {a : Nat} (ha : metB nodes a = true) : 8 ≤ a ∧ 0 < nowN S a := by
  obtain ⟨h1, h2, lvl, xs, hn, -⟩ := reach_tree (R := (· ∈ rootsN root dead vs)) hp.trees (hc.mkd.reach a ha)
  refine ⟨h1, ?_⟩
  unfold nodeAt at hn
  split at hn
  · cases hn
  · rename_i h0
    exact Nat.pos_of_ne_zero h0
theorem part_commit {S : Sto} {bs : List (List UInt8)} {M : Nat → Bool} (hM : ∀ a, M a = true → 8 ≤ a ∧ 0 < nowN S a) (i : Nat) : useB ⟨bs, [], S.now, S.now⟩ M i = useB S M i ∨ (useB S M i = 2 ∧ useB ⟨bs, [], S.now, S.now⟩ M i = 1) := by
  have hu : useB S M i = if M i = true then 3 else if i < 8 then 0 else if 0 < nowN S i then 4 else if 0 < lastN S i then 2 else 1 := rfl
  have hu' : useB ⟨bs, [], S.now, S.now⟩ M i = if M i = true then 3 else if i < 8 then 0 else if 0 < nowN S i then 4 else if 0 < nowN S i then 2 else 1 := rfl
  rw [hu, hu']
  by_cases hm : M i = true
  · rw [if_pos hm, if_pos hm]; exact .inl rfl
  · rw [if_neg hm, if_neg hm]
    by_cases h8 : i < 8
    · rw [if_pos h8, if_pos h8]; exact .inl rfl
    · rw [if_neg h8, if_neg h8]
      by_cases h0 : 0 < nowN S i
      · rw [if_pos h0, if_pos h0]; exact .inl rfl
      · rw [if_neg h0, if_neg h0, if_neg h0]
        by_cases h1 : 0 < lastN S i
        · rw [if_pos h1]; exact .inr ⟨rfl, rfl⟩
        · rw [if_neg h1]; exact .inl rfl
theorem enough_commit {S : Sto} {bs : List (List UInt8)} {refs : Nat → Nat} (h : Enough S refs) : Enough ⟨bs, [], S.now, S.now⟩ refs := h
theorem may_commit {S : Sto} {bs : List (List UInt8)} (hS : storeMay S = true) (hb : diskMay bs [] = true) : storeMay ⟨bs, [], S.now, S.now⟩ = true := by
  unfold storeMay at hS ⊢
  simp only [Bool.and_eq_true] at hS ⊢
  exact ⟨hb, hS.2.1, hS.2.1⟩
end Go.Proofs.Ytlgbjpihmkeopaa
/- What is read from cells alone: it stands in each world that has those cells. -/
namespace Go.Proofs.Ytlgbjpihmkeopaa
set_option linter.unusedSimpArgs false
set_option linter.unusedVariables false
open Go.RowKit

theorem Rd.some_ {w w' : World} {B size n : Nat} {A : Option Addr} {xs : List Value} (h : Rd w B size A n xs) (hk : ∀ p v, w.cell? p = some v → w'.cell? p = some v) : Rd w' B size A n xs :=
  ⟨h.1, fun hn => by
    obtain ⟨b, off, e, hb, hc⟩ := h.2 hn
    exact ⟨b, off, e, hb, fun j u hu => hk _ _ (hc j u hu)⟩⟩
theorem Bys.some_ {w w' : World} {B : Nat} {v : Value} {l : List UInt8} (h : Bys w B v l) (hk : ∀ p v, w.cell? p = some v → w'.cell? p = some v) : Bys w' B v l := by
  obtain ⟨A, c, e, hc, hm, hr⟩ := h
  exact ⟨A, c, e, hc, hm, hr.some_ hk⟩
theorem StoAt.some_ {w w' : World} {B : Nat} {v1 v2 v3 v4 : Value} {S : Sto} (h : StoAt w B v1 v2 v3 v4 S) (hk : ∀ p v, w.cell? p = some v → w'.cell? p = some v) : StoAt w' B v1 v2 v3 v4 S := by
  obtain ⟨⟨vs, A, c, e, h1, h2, h3, h4⟩, ⟨ps, e', ⟨A', c', e1, e2, e3, hr⟩, hp⟩, h5, h6⟩ := h
  exact ⟨⟨vs, A, c, e, h1, h2, h3.some_ hk, fun i u l hu hl => (h4 i u l hu hl).some_ hk⟩, ⟨ps, e', ⟨A', c', e1, e2, e3, hr.some_ hk⟩, fun p h => ⟨(hp p h).1, (hp p h).2.some_ hk⟩⟩, h5.some_ hk, h6.some_ hk⟩
def mixW (lo N : Nat) (W C : World) : World := { C with heap := Array.ofFn (n := max N C.heap.size) fun k => if lo ≤ k.1 ∧ k.1 < N then W.heap[k.1]?.getD (.deferred none) else C.heap[k.1]?.getD (.deferred none) }
theorem mix_cell (lo N : Nat) (W C : World) (q : Addr) : (mixW lo N W C).cell? q = if lo ≤ q.block ∧ q.block < N then W.cell? q else C.cell? q := by
  unfold World.cell?
  have e : (mixW lo N W C).heap[q.block]? = if q.block < max N C.heap.size then some (if lo ≤ q.block ∧ q.block < N then W.heap[q.block]?.getD (.deferred none) else C.heap[q.block]?.getD (.deferred none)) else none := by
    simp only [mixW, Array.getElem?_ofFn]
    split <;> rfl
  rw [e]
  by_cases h : lo ≤ q.block ∧ q.block < N
  · rw [if_pos (by omega), if_pos h]
    simp only [if_pos h]
    cases W.heap[q.block]? <;> rfl
  · simp only [if_neg h]
    split
    · rename_i h1
      split at h1
      · cases hq : C.heap[q.block]? with
        | none => rw [hq] at h1; cases h1
        | some o => rw [hq] at h1; simp only [Option.getD_some, Option.some.injEq] at h1; subst h1; rfl
      · cases h1
    · rename_i h1
      split at h1
      · cases hq : C.heap[q.block]? with
        | none => rfl
        | some o =>
          cases o with
          | cells c e f => exact absurd (by rw [hq]; rfl) (h1 c e f)
          | _ => rfl
      · rename_i h2
        rw [Array.getElem?_eq_none (by omega)]
theorem pos_of_eq {Φ : World → Prop} (hm : ∀ A C : World, (∀ q v, A.cell? q = some v → C.cell? q = some v) → Φ A → Φ C) {lo N : Nat} {W : World} (h : ∀ W2 : World, (∀ q : Addr, lo ≤ q.block → q.block < N → W2.cell? q = W.cell? q) → Φ W2) :
    ∀ C : World, (∀ q v, lo ≤ q.block → q.block < N → W.cell? q = some v → C.cell? q = some v) → Φ C := fun C h3 =>
  hm (mixW lo N W C) C (fun q v hq => by
    rw [mix_cell] at hq
    split at hq
    · rename_i h1; exact h3 q v h1.1 h1.2 hq
    · exact hq) (h _ fun q h1 h2 => by rw [mix_cell, if_pos ⟨h1, h2⟩])
structure CellsKept (W W' : World) : Prop where
  size : W.heap.size ≤ W'.heap.size
  same : ∀ (k : Nat) (o : Obj), W.heap[k]? = some o → o.isCells = true → W'.heap[k]? = some o
theorem CellsKept.refl (W : World) : CellsKept W W := ⟨Nat.le_refl _, fun _ _ h _ => h⟩
theorem CellsKept.row {W W' : World} (h : CellsKept W W') {b : Nat} {cs : Array Value} {ty : TypeId} {fz : Nat × Nat} (hr : W.heap[b]? = some (.cells cs ty fz)) : W'.heap[b]? = some (.cells cs ty fz) := h.same b _ hr rfl
theorem CellsKept.cell {W W' : World} (h : CellsKept W W') {q : Addr} {v : Value} (hq : W.cell? q = some v) : W'.cell? q = some v := by
  unfold World.cell? at *
  cases hb : W.heap[q.block]? with
  | none => rw [hb] at hq; cases hq
  | some o =>
    cases o with
    | cells c e f =>
      rw [hb] at hq
      rw [h.row hb]
      exact hq
    | _ => rw [hb] at hq; cases hq
theorem CellsKept.grown {Wb W W' : World} {row : Option Nat} (h : CellsKept Wb W) (hg : W.grownBy W' row) (hr : ∀ r, row = some r → ∃ o : Obj, W.heap[r]? = some o ∧ o.isCells = false) : CellsKept Wb W' := ⟨Nat.le_trans h.size hg.size, fun k o hk ho => by
  have h1 := h.same k o hk ho
  refine (hg.block k (Array.getElem?_eq_some_iff.1 h1).1 fun e => ?_).trans h1
  obtain ⟨o', h2, h3⟩ := hr k e.symm
  rw [h1] at h2
  cases h2
  rw [ho] at h3
  cases h3⟩
theorem CellsKept.put {Wb W : World} (h : CellsKept Wb W) {D : Nat} {o : Obj} (o' : Obj) (hD : W.heap[D]? = some o) (ho : o.isCells = false) : CellsKept Wb (W.putObj D o') :=
  ⟨by have := h.size; simpa [World.putObj] using this, fun k x hk hx => by
    have h1 := h.same k x hk hx
    have hne : k ≠ D := fun e => by
      subst e
      rw [hD] at h1
      cases h1
      rw [ho] at hx
      cases hx
    exact (World.putObj_heap_other hne).trans h1⟩
def PosOn (lo : Nat) (W W' : World) : Prop := ∀ (q : Addr) (v : Value), lo ≤ q.block → q.block < W.heap.size → W.cell? q = some v → W'.cell? q = some v
def PosZ (lo : Nat) (W W' : World) : Prop := ∀ (q : Addr) (v : Value), lo ≤ q.block → q.block < W.heap.size → (thaw W).cell? q = some v → W'.cell? q = some v
theorem CellsKept.thaw {W W' : World} (h : CellsKept W W') {q : Addr} {v : Value} (hq : (thaw W).cell? q = some v) : (Go.Proofs.Ytlgbjpihmkeopaa.thaw W').cell? q = some v := by
  unfold World.cell? at *
  rw [thaw_heap] at hq ⊢
  cases hb : W.heap[q.block]? with
  | none => rw [hb] at hq; cases hq
  | some o =>
    rw [hb] at hq
    cases o with
    | cells c e f =>
      rw [h.row hb]
      exact hq
    | _ => simp only [Option.map_some, thawO] at hq; cases hq
theorem Ext.thaw {w w' : World} (h : Ext w w') : Ext (thaw w) (Go.Proofs.Ytlgbjpihmkeopaa.thaw w') := ⟨h.os, h.tape, h.output, by rw [thaw_size, thaw_size]; exact h.size, fun k hk => by
  rw [thaw_size] at hk
  rw [thaw_heap, thaw_heap, h.block k hk]⟩
theorem Bys.of_ownT {w : World} {base n : Nat} {e : TypeId} {v : Value} {l : List UInt8} (h : w.ownsRow base e 1 v n (l.map bv)) : Bys (thaw w) w.heap.size v l := (NewB.of_own h).thaw
def NewSto (lo : Nat) (S : Sto) (u : Value) (W : World) : Prop := ∃ A1 c1 A2 c2 A3 c3 A4 c4, u = storeV A1 S.bs.length c1 A2 S.ws.length c2 A3 S.now.length c3 A4 S.last.length c4 ∧
  ∀ C : World, PosZ lo W C → StoAt C W.heap.size (.slice A1 S.bs.length c1) (.slice A2 S.ws.length c2) (.slice A3 S.now.length c3) (.slice A4 S.last.length c4) S
theorem NewSto.keep {lo lo' : Nat} {S : Sto} {u : Value} {W W' : World} (h : NewSto lo S u W) (hl : lo' ≤ lo) (hs : W.heap.size ≤ W'.heap.size) (hp : ∀ q v, lo ≤ q.block → q.block < W.heap.size → (thaw W).cell? q = some v → (thaw W').cell? q = some v) : NewSto lo' S u W' := by
  obtain ⟨A1, c1, A2, c2, A3, c3, A4, c4, e, hc⟩ := h
  exact ⟨A1, c1, A2, c2, A3, c3, A4, c4, e, fun C hC => (hc C fun q v h1 h2 h3 => hC q v (by omega) (by omega) (hp q v h1 h2 h3)).more hs⟩
theorem posZ_blocks {lo : Nat} {W W' : World} (h : ∀ k, lo ≤ k → k < W.heap.size → W'.heap[k]? = W.heap[k]?) : PosZ lo W W' := fun q v h1 h2 h3 => (World.cell?_of_block (h q.block h1 h2)).trans (thaw_spec h3).1
theorem below4 {w0 w : World} {B b : Nat} (h : Below B w0 w) (hb : B ≤ b) (x0 x1 x2 x3 : Value) : Below B w0 ((((w.setCell ⟨b, 0, none⟩ x0).setCell ⟨b, 1, none⟩ x1).setCell ⟨b, 2, none⟩ x2).setCell ⟨b, 3, none⟩ x3) :=
  Below.setCell (Below.setCell (Below.setCell (Below.setCell h (p := ⟨b, 0, none⟩) hb _) (p := ⟨b, 1, none⟩) hb _) (p := ⟨b, 2, none⟩) hb _) (p := ⟨b, 3, none⟩) hb _
theorem row8 {w : World} {b : Nat} {ty : TypeId} {y0 y1 y2 y3 y4 y5 y6 y7 : Value} (h : w.heap[b]? = some (.cells #[y0, y1, y2, y3, y4, y5, y6, y7] ty (0, 0))) (x0 x1 x2 x3 x4 x5 x6 x7 : Value) :
    ((((((((w.setCell ⟨b, 0, none⟩ x0).setCell ⟨b, 1, none⟩ x1).setCell ⟨b, 2, none⟩ x2).setCell ⟨b, 3, none⟩ x3).setCell ⟨b, 4, none⟩ x4).setCell ⟨b, 5, none⟩ x5).setCell ⟨b, 6, none⟩ x6).setCell ⟨b, 7, none⟩ x7).heap[b]? = some (.cells #[x0, x1, x2, x3, x4, x5, x6, x7] ty (0, 0)) := by
  have h1 := row_set (row_set (row_set (row_set h 0 x0) 1 x1) 2 x2) 3 x3
  exact row_set (row_set (row_set (row_set (cs := #[x0, x1, x2, x3, y4, y5, y6, y7]) h1 4 x4) 5 x5) 6 x6) 7 x7
theorem below8 {w0 w : World} {B b : Nat} (h : Below B w0 w) (hb : B ≤ b) (x0 x1 x2 x3 x4 x5 x6 x7 : Value) : Below B w0 ((((((((w.setCell ⟨b, 0, none⟩ x0).setCell ⟨b, 1, none⟩ x1).setCell ⟨b, 2, none⟩ x2).setCell ⟨b, 3, none⟩ x3).setCell ⟨b, 4, none⟩ x4).setCell ⟨b, 5, none⟩ x5).setCell ⟨b, 6, none⟩ x6).setCell ⟨b, 7, none⟩ x7) :=
  Below.setCell (Below.setCell (Below.setCell (Below.setCell (below4 h hb x0 x1 x2 x3) (p := ⟨b, 4, none⟩) hb _) (p := ⟨b, 5, none⟩) hb _) (p := ⟨b, 6, none⟩) hb _) (p := ⟨b, 7, none⟩) hb _
theorem other8 {w : World} {b k : Nat} (hk : k ≠ b) (x0 x1 x2 x3 x4 x5 x6 x7 : Value) : ((((((((w.setCell ⟨b, 0, none⟩ x0).setCell ⟨b, 1, none⟩ x1).setCell ⟨b, 2, none⟩ x2).setCell ⟨b, 3, none⟩ x3).setCell ⟨b, 4, none⟩ x4).setCell ⟨b, 5, none⟩ x5).setCell ⟨b, 6, none⟩ x6).setCell ⟨b, 7, none⟩ x7).heap[k]? = w.heap[k]? := by
  have hs := fun (A : World) (j : Nat) (v : Value) => Below.heap_setCell A ⟨b, j, none⟩ v k hk
  rw [hs, hs, hs, hs, hs, hs, hs, hs]
end Go.Proofs.Ytlgbjpihmkeopaa
/- A disk on the way of a commit: plain words. -/
namespace Go.Proofs.Ytlgbjpihmkeopaa
set_option linter.unusedSimpArgs false
set_option linter.unusedVariables false
open Go.RowKit

def DskAt (v : Value) (bs : List (List UInt8)) (ws : List (Int × List UInt8)) (W : World) : Prop := ∃ A1 c1 A2 c2, v = diskV A1 bs.length c1 A2 ws.length c2 ∧ Bls W W.heap.size (.slice A1 bs.length c1) bs ∧ Wrs W W.heap.size (.slice A2 ws.length c2) ws
theorem DskAt.ext {v : Value} {bs : List (List UInt8)} {ws : List (Int × List UInt8)} {W W' : World} (h : DskAt v bs ws W) (hx : Ext W W') : DskAt v bs ws W' := by
  obtain ⟨A1, c1, A2, c2, e, h1, h2⟩ := h
  exact ⟨A1, c1, A2, c2, e, (h1.below hx).more hx.size, (h2.below hx).more hx.size⟩
theorem DskAt.some_ {v : Value} {bs : List (List UInt8)} {ws : List (Int × List UInt8)} {W W' : World} (h : DskAt v bs ws W) (hs : W.heap.size ≤ W'.heap.size) (hk : ∀ p v, W.cell? p = some v → W'.cell? p = some v) : DskAt v bs ws W' := by
  obtain ⟨A1, c1, A2, c2, e, h1, h2⟩ := h
  have hS : StoAt W W.heap.size (.slice A1 bs.length c1) (.slice A2 ws.length c2) (.slice none 0 0) (.slice none 0 0) ⟨bs, ws, [], []⟩ := ⟨h1, h2, Bys.nil _ _, Bys.nil _ _⟩
  have hS' := (hS.some_ hk).more hs
  exact ⟨A1, c1, A2, c2, e, hS'.bs, hS'.ws⟩
theorem DskAt.kept {v : Value} {bs : List (List UInt8)} {ws : List (Int × List UInt8)} {W W' : World} (h : DskAt v bs ws W) (hk : CellsKept W W') : DskAt v bs ws W' := h.some_ hk.size fun _ _ => hk.cell
def DskZ (lo : Nat) (v : Value) (bs : List (List UInt8)) (ws : List (Int × List UInt8)) (W : World) : Prop := ∃ A1 c1 A2 c2, v = diskV A1 bs.length c1 A2 ws.length c2 ∧ ∀ C : World, PosOn lo W C → Bls C W.heap.size (.slice A1 bs.length c1) bs ∧ Wrs C W.heap.size (.slice A2 ws.length c2) ws
theorem DskZ.at {lo : Nat} {v : Value} {bs : List (List UInt8)} {ws : List (Int × List UInt8)} {W : World} (h : DskZ lo v bs ws W) : DskAt v bs ws W := by
  obtain ⟨A1, c1, A2, c2, e, hc⟩ := h
  exact ⟨A1, c1, A2, c2, e, hc W fun _ _ _ _ h => h⟩
theorem DskZ.keep {lo lo' : Nat} {v : Value} {bs : List (List UInt8)} {ws : List (Int × List UInt8)} {W W' : World} (h : DskZ lo v bs ws W) (hl : lo' ≤ lo) (hs : W.heap.size ≤ W'.heap.size) (hk : ∀ k, lo ≤ k → k < W.heap.size → W'.heap[k]? = W.heap[k]?) : DskZ lo' v bs ws W' := by
  obtain ⟨A1, c1, A2, c2, e, hc⟩ := h
  refine ⟨A1, c1, A2, c2, e, fun C hC => ?_⟩
  obtain ⟨h1, h2⟩ := hc C fun q v h1 h2 h3 => hC q v (by omega) (by omega) ((World.cell?_of_block (hk q.block h1 h2)).trans h3)
  exact ⟨h1.more hs, h2.more hs⟩
theorem DskZ.ext {lo : Nat} {v : Value} {bs : List (List UInt8)} {ws : List (Int × List UInt8)} {W W' : World} (h : DskZ lo v bs ws W) (hx : Ext W W') : DskZ lo v bs ws W' := h.keep (Nat.le_refl _) hx.size fun k _ hk => hx.block k hk
theorem DskZ.kept {lo : Nat} {v : Value} {bs : List (List UInt8)} {ws : List (Int × List UInt8)} {W W' : World} (h : DskZ lo v bs ws W) (hk : CellsKept W W') : DskZ lo v bs ws W' := by
  obtain ⟨A1, c1, A2, c2, e, hc⟩ := h
  refine ⟨A1, c1, A2, c2, e, fun C hC => ?_⟩
  obtain ⟨h1, h2⟩ := hc C fun q v h1 h2 h3 => hC q v h1 (Nat.lt_of_lt_of_le h2 hk.size) (hk.cell h3)
  exact ⟨h1.more hk.size, h2.more hk.size⟩
theorem DskZ.of_new {lo : Nat} {v : Value} {bs : List (List UInt8)} {ws : List (Int × List UInt8)} {W : World} (h : NewDisk lo bs ws v W) : DskZ lo v bs ws W := by
  obtain ⟨A1, c1, A2, c2, e, hc⟩ := h
  refine ⟨A1, c1, A2, c2, e, fun C hC => ?_⟩
  have := pos_of_eq (W := thaw W) (lo := lo) (N := W.heap.size) (Φ := fun C => StoAt C W.heap.size (.slice A1 bs.length c1) (.slice A2 ws.length c2) (.slice none 0 0) (.slice none 0 0) ⟨bs, ws, [], []⟩) (fun A C hAC hA => hA.some_ hAC) (fun W2 hk => ⟨(hc W2 hk).1, (hc W2 hk).2, Bys.nil _ _, Bys.nil _ _⟩) C fun q v h1 h2 h3 => hC q v h1 h2 (thaw_spec h3).1
  exact ⟨this.bs, this.ws⟩
theorem DskZ.of_twin {lo : Nat} {bs : List (List UInt8)} {ws : List (Int × List UInt8)} {BB WW g : Nat} {W : World} (h : DiskT lo bs ws BB WW g W) (h1 : bs.length < 1000000) (h2 : ws.length < 1000000) (h3 : ∀ l ∈ bs, l.length < 1000000) (h4 : ∀ p ∈ ws, p.2.length < 1000000) :
    DskZ lo (diskV (some ⟨BB, 0, none⟩) bs.length bs.length (some ⟨WW, 0, none⟩) ws.length (ws.length + 1)) bs ws W := by
  refine ⟨_, _, _, _, rfl, fun C hC => ?_⟩
  have := pos_of_eq (W := W) (lo := lo) (N := W.heap.size) (Φ := fun C => StoAt C W.heap.size (.slice (some ⟨BB, 0, none⟩) bs.length bs.length) (.slice (some ⟨WW, 0, none⟩) ws.length (ws.length + 1)) (.slice none 0 0) (.slice none 0 0) ⟨bs, ws, [], []⟩) (fun A C hAC hA => hA.some_ hAC) (fun W2 hk => ⟨(h.reads h1 h2 h3 h4 W2 hk).1, (h.reads h1 h2 h3 h4 W2 hk).2, Bys.nil _ _, Bys.nil _ _⟩) C hC
  exact ⟨this.bs, this.ws⟩
def GoodD (bs : List (List UInt8)) (ws : List (Int × List UInt8)) (bs' : List (List UInt8)) (ws' : List (Int × List UInt8)) : Prop := diskMay bs' ws' = true ∧ ∀ r : Nat, 8 ≤ r → r < 256 → seenD bs' ws' r = seenD bs ws r
theorem GoodD.refl {bs : List (List UInt8)} {ws : List (Int × List UInt8)} (h : diskMay bs ws = true) : GoodD bs ws bs ws := ⟨h, fun _ _ _ => rfl⟩
theorem GoodD.trans {bs bs1 bs2 : List (List UInt8)} {ws ws1 ws2 : List (Int × List UInt8)} (h : GoodD bs ws bs1 ws1) (k : GoodD bs1 ws1 bs2 ws2) : GoodD bs ws bs2 ws2 := ⟨k.1, fun r h1 h2 => (k.2 r h1 h2).trans (h.2 r h1 h2)⟩
theorem GoodD.settle {bs : List (List UInt8)} {ws : List (Int × List UInt8)} (h : diskMay bs ws = true) : GoodD bs ws (settleL bs ws) [] := ⟨settle_may h, fun _ _ h2 => settle_seen h h2⟩
theorem GoodD.write {bs : List (List UInt8)} {ws : List (Int × List UInt8)} {a : Int} {l : List UInt8} (h : writeE bs ws a l = 0) (ha : a < 8) : GoodD bs ws bs (ws ++ [(a, l)]) := ⟨write_may h, fun _ h1 _ => write_seen ha h1⟩
def StepR (bs : List (List UInt8)) (ws : List (Int × List UInt8)) (lo : Nat) (u : Value) (W : World) : Prop := (∃ er : Int, er ≠ 0 ∧ u = noDisk er) ∨ ∃ v bs' ws', u = .tuple #[v, .int .i64 0] ∧ DskZ lo v bs' ws' W ∧ GoodD bs ws bs' ws'
theorem StepR.keep {bs : List (List UInt8)} {ws : List (Int × List UInt8)} {lo lo' : Nat} {u : Value} {W W' : World} (h : StepR bs ws lo u W) (hl : lo' ≤ lo) (hs : W.heap.size ≤ W'.heap.size) (hk : ∀ k, lo ≤ k → k < W.heap.size → W'.heap[k]? = W.heap[k]?) : StepR bs ws lo' u W' := by
  rcases h with h | ⟨v, bs', ws', e, h1, h2⟩
  · exact .inl h
  · exact .inr ⟨v, bs', ws', e, h1.keep hl hs hk, h2⟩
theorem StepR.ext {bs : List (List UInt8)} {ws : List (Int × List UInt8)} {lo : Nat} {u : Value} {W W' : World} (h : StepR bs ws lo u W) (hx : Ext W W') : StepR bs ws lo u W' := h.keep (Nat.le_refl _) hx.size fun k _ hk => hx.block k hk
theorem StepR.from_ {bs bs1 : List (List UInt8)} {ws ws1 : List (Int × List UInt8)} {lo : Nat} {u : Value} {W : World} (h : StepR bs1 ws1 lo u W) (hg : GoodD bs ws bs1 ws1) : StepR bs ws lo u W := by
  rcases h with h | ⟨v, bs', ws', e, h1, h2⟩
  · exact .inl h
  · exact .inr ⟨v, bs', ws', e, h1, hg.trans h2⟩
theorem step_write {lo : Nat} {bs : List (List UInt8)} {ws : List (Int × List UInt8)} {a : Int} {l : List UInt8} (ha : a < 8) {u : Value} {W : World}
    (h : (writeE bs ws a l ≠ 0 ∧ u = noDisk (writeE bs ws a l)) ∨ (writeE bs ws a l = 0 ∧ ∃ v, u = .tuple #[v, .int .i64 0] ∧ NewDisk lo bs (ws ++ [(a, l)]) v W)) : StepR bs ws lo u W := by
  rcases h with ⟨h0, e⟩ | ⟨h0, v, e, hn⟩
  · exact .inl ⟨_, h0, e⟩
  · exact .inr ⟨v, bs, ws ++ [(a, l)], e, DskZ.of_new hn, GoodD.write h0 ha⟩
theorem StepR.form {bs : List (List UInt8)} {ws : List (Int × List UInt8)} {lo : Nat} {u : Value} {W : World} (h : StepR bs ws lo u W) : ∃ A n c B m d e, u = .tuple #[diskV A n c B m d, .int .i64 e] := by
  rcases h with ⟨er, _, e⟩ | ⟨v, bs', ws', e, ⟨A1, c1, A2, c2, ev, _⟩, _⟩
  · exact ⟨_, _, _, _, _, _, _, e⟩
  · subst ev
    exact ⟨_, _, _, _, _, _, _, e⟩
def outSt (bs : List (List UInt8)) (ws : List (Int × List UInt8)) (lo : Nat) : Outs := ⟨Option Addr × Nat × Nat × Option Addr × Nat × Nat × Int, fun p => .tuple #[diskV p.1 p.2.1 p.2.2.1 p.2.2.2.1 p.2.2.2.2.1 p.2.2.2.2.2.1, .int .i64 p.2.2.2.2.2.2], fun p W => StepR bs ws lo (.tuple #[diskV p.1 p.2.1 p.2.2.1 p.2.2.2.1 p.2.2.2.2.1 p.2.2.2.2.2.1, .int .i64 p.2.2.2.2.2.2]) W⟩
theorem outSt_f (bs : List (List UInt8)) (ws : List (Int × List UInt8)) (lo : Nat) (A : Option Addr) (n c : Nat) (B : Option Addr) (m d : Nat) (e : Int) : (outSt bs ws lo).f (A, n, c, B, m, d, e) = .tuple #[diskV A n c B m d, .int .i64 e] := rfl
theorem outSt_stable (bs : List (List UInt8)) (ws : List (Int × List UInt8)) (lo : Nat) : ∀ p, Stable ((outSt bs ws lo).φ p) := fun p W W' he h => StepR.ext h he
end Go.Proofs.Ytlgbjpihmkeopaa
