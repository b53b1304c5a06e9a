/- Texts ShareR, Twin3, Twin8, RTake, PCheck, Has, PoolW, joined. -/
import Derived.RangeFuncLeaves
import Derived.WalkMore
import Derived.Test.YtlgbjpihmkeopaaU03
import Derived.Test.YtlgbjpihmkeopaaU07
import Derived.Test.YtlgbjpihmkeopaaU11
import Derived.Test.YtlgbjpihmkeopaaU13
import Derived.Test.YtlgbjpihmkeopaaU14
import Derived.Test.YtlgbjpihmkeopaaU15
import Derived.Test.YtlgbjpihmkeopaaU16
import Derived.Test.YtlgbjpihmkeopaaU18
/- Contracts: a block that is referred to once more. -/
namespace Go.Proofs.Ytlgbjpihmkeopaa
set_option linter.unusedSimpArgs false
set_option linter.unusedVariables false
open Go.RowKit

set_option maxRecDepth 100000 in
theorem up_any (A : Option Addr) (n c : Nat) (t : List UInt8) (a : Int) (w : World) (h : Bys w w.heap.size (.slice A n c) t) :
    Calls Try.prog 71 #[.slice A n c, .int .i64 a] w (RetS (TurnQ t a 1 255 w.heap.size) w) := by
  have HT := Lib.hid (turn_any A n c t a 1 255 w h)
  clear h
  go_enter Try.func71, Try.ntmps71
  go_wp2_with fail
  refine HT.out.mono ?_
  clear HT
  rintro e w2 ⟨u, rfl, hu, hB⟩
  rcases hu with ⟨h1, rfl⟩ | ⟨h1, A', c', rfl, hown⟩
  · have hB' : Ext w w2 := hB
    have hQ := Lib.hid (⟨_, rfl, .inl ⟨h1, rfl⟩, hB'⟩ : RetS (TurnQ t a 1 255 w.heap.size) w (.returned (.tuple #[.slice none 0 0, .int .i64 (turnE t a 255)])) w2)
    generalize turnE t a 255 = er at *
    replace h1 := Lib.hid h1
    go_wp2_with fail
    refine bodyPost_ret (v := .tuple #[.slice none 0 0, .int .i64 er]) ?_ rfl hQ.out
    simp [results, Try.results71, go_sem]
  · have hB' : Ext w w2 := hB
    have hQ := Lib.hid (⟨_, rfl, .inr ⟨h1, A', c', rfl, hown⟩, hB'⟩ : RetS (TurnQ t a 1 255 w.heap.size) w (.returned (.tuple #[.slice A' 256 c', .int .i64 0])) w2)
    replace h1 := Lib.hid h1
    go_wp2_with fail
    refine bodyPost_ret (v := .tuple #[.slice A' 256 c', .int .i64 0]) ?_ rfl hQ.out
    simp [results, Try.results71, go_sem]

abbrev withNow (S : Sto) (t : List UInt8) : Sto := ⟨S.bs, S.ws, t, S.last⟩
abbrev sto0 : Value := storeV none 0 0 none 0 0 none 0 0 none 0 0
def shareE (S : Sto) (a : Int) : Int := if askR S a ≠ 0 then askR S a else if nowN S a.toNat = 255 then 70 else 0
def StoQ (e : Int) (S : Sto) (lo : Nat) (u : Value) (W : World) : Prop := (e ≠ 0 ∧ u = .tuple #[sto0, .int .i64 e]) ∨ (e = 0 ∧ ∃ v, u = .tuple #[v, .int .i64 0] ∧ TwinT lo S v W)
theorem short_of_may {S : Sto} (h : storeMay S = true) : Short S := by
  obtain ⟨h1, h2, h3, h4⟩ := storeMay_len h
  have hd : diskMay S.bs S.ws = true := by unfold storeMay at h; simp at h; exact h.1
  obtain ⟨d1, d2, d3, d4⟩ := diskMay_short hd
  exact ⟨d1, d2, d3, d4, by omega, by omega⟩
theorem tab_of_may {S : Sto} (h : storeMay S = true) : tabMay S.now = true := by unfold storeMay at h; simp at h; exact h.2.1
theorem share_ret {R : Ending → World → Prop} {a : Act} {W : World} {b : Nat} {x0 x1 x2 x3 v : Value} (h4 : a.tmps[4]?.getD undef = .pointer (some ⟨b, 0, none⟩)) (h5 : a.tmps[5]?.getD undef = v) (hd : a.defers = [])
    (hrow : W.heap[b]? = some (.cells #[x0, x1, x2, x3] 28 (0, 0))) (hR : R (.returned (.tuple #[.agg #[x0, x1, x2, x3], v])) W) : bodyPost Try.prog Try.f44 R .ret a W := by
  refine bodyPost_ret (v := .tuple #[.agg #[x0, x1, x2, x3], v]) ?_ hd hR
  have k := cells_row hrow
  simp [results, Try.results44, go_sem, h4, h5, k]
set_option maxHeartbeats 4000000 in
set_option maxRecDepth 100000 in
theorem rshare_any (A1 : Option Addr) (n1 c1 : Nat) (A2 : Option Addr) (n2 c2 : Nat) (A3 : Option Addr) (n3 c3 : Nat) (A4 : Option Addr) (n4 c4 : Nat) (S : Sto) (a : Int) (w : World) (h : StoAt w w.heap.size (.slice A1 n1 c1) (.slice A2 n2 c2) (.slice A3 n3 c3) (.slice A4 n4 c4) S) :
    Calls Try.prog 44 #[storeV A1 n1 c1 A2 n2 c2 A3 n3 c3 A4 n4 c4, .int .i64 a] w (RetS (StoQ (shareE S a) (withNow S (turned S.now a.toNat 1)) w.heap.size) w) := by
  have HA := Lib.hid (fun W (hx : Ext w W) => rasked_any A1 n1 c1 A2 n2 c2 A3 n3 c3 A4 n4 c4 S a W (h.ext hx))
  have HU := Lib.hid (fun W (hx : Ext w W) => up_any A3 n3 c3 S.now a W (h.ext hx).now)
  replace h := Lib.hid h
  go_enter Try.func44, Try.ntmps44
  go_wp2_with fail
  generalize hw1 : (World.alloc (World.alloc w _) _) = w1
  have x1 : Ext w w1 := by rw [← hw1]; exact (Ext.alloc _ _).trans (Ext.alloc _ _)
  have rs1 : w1.heap[w.heap.size]? = some (.cells #[.slice A1 n1 c1, .slice A2 n2 c2, .slice A3 n3 c3, .slice A4 n4 c4] 28 (0, 0)) := by rw [← hw1]; exact (Below.heap_alloc _ _ _ (by simp)).trans (World.alloc_heap_at _ _ _ rfl)
  have ro1 : w1.heap[w.heap.size + 1]? = some (.cells #[.slice none 0 0, .slice none 0 0, .slice none 0 0, .slice none 0 0] 28 (0, 0)) := by rw [← hw1]; exact World.alloc_heap_at _ _ _ (by simp)
  clear hw1
  refine (HA.out w1 x1).mono ?_
  clear HA
  rintro e w2 ⟨rfl, hB⟩
  have x2 : Ext w w2 := x1.trans hB
  have rs2 := row_ext rs1 hB
  have ro2 := row_ext ro1 hB
  clear hB rs1 ro1 x1
  by_cases h0 : askR S a = 0
  · obtain ⟨hS, m, rfl, hm8, hm256, hnz⟩ := askR_ok h0
    have hE : shareE S (m : Int) = if nowN S m = 255 then 70 else 0 := by unfold shareE; rw [if_neg (by simpa using h0), Int.toNat_natCast]
    have hT : turnE S.now (m : Int) 255 = if nowN S m = 255 then 70 else 0 := turnE_in (tab_of_may hS) hm8 hm256 255
    have hsh := Lib.hid (short_of_may hS)
    rw [h0]
    have ks2 := cells_row rs2
    replace h0 := Lib.hid h0
    replace hS := Lib.hid hS
    rw [← hE] at hT
    replace hE := Lib.hid hE
    clear hnz
    go_wp2_with fail
    refine (HU.out w2 x2).mono ?_
    clear HU
    rintro e w3 ⟨u, rfl, hu, hB⟩
    have x3 : Ext w w3 := x2.trans hB
    have rs3 := row_ext rs2 hB
    have ro3 := row_ext ro2 hB
    have ks3 := cells_row rs3
    have z23 := hB.size
    clear hB rs2 ro2 ks2
    unfold TurnQ at hu
    rw [hT] at hu
    rcases hu with ⟨h1, rfl⟩ | ⟨h1, A', c', rfl, hown⟩
    · generalize shareE S (m : Int) = er at *
      have he : (er != 0) = true := by rw [bne_iff_ne]; exact h1
      have hq := Lib.hid h1
      have ko3 := cells_row ro3
      have fo3 := frozen_row ro3
      clear h1 hT
      go_wp2_with fail
      exact share_ret (b := w.heap.size + 1) rfl rfl rfl (row4 ro3 _ _ _ _) ⟨_, rfl, .inl ⟨hq.out, rfl⟩, below4 x3 (by omega) _ _ _ _⟩
    · have hby := Bys.of_own hown
      have HTW := rtwin_any A1 n1 c1 A2 n2 c2 A' 256 c' A4 n4 c4 (withNow S (turned S.now m 1)) ⟨hsh.out.bs, hsh.out.ws, hsh.out.be, hsh.out.we, by rw [turned_len]; exact hsh.out.now, hsh.out.last⟩ w3 ⟨(h.out.ext x3).bs, (h.out.ext x3).ws, hby, (h.out.ext x3).last⟩
      replace hby := Lib.hid hby
      replace hown := Lib.hid hown
      replace h1 := Lib.hid h1
      go_wp2_with fail
      refine HTW.mono ?_
      clear HTW
      rintro e w4 ⟨u, rfl, hu, hB⟩
      have x4 : Ext w w4 := x3.trans hB
      have ro4 := row_ext ro3 hB
      have ko4 := cells_row ro4
      have fo4 := frozen_row ro4
      have zo3 : w.heap.size + 1 < w3.heap.size := (Array.getElem?_eq_some_iff.1 ro3).1
      obtain ⟨BB, WW, g, B3, d3, B4, d4, rfl, hD, hN, hL⟩ := hu
      have hK := fun (x0 x1 x2 x3' : Value) => TwinT.keep (lo' := w.heap.size) (⟨BB, WW, g, B3, d3, B4, d4, rfl, hD, hN, hL⟩ : TwinT w3.heap.size (withNow S (turned S.now m 1)) _ w4) (W2 := (((w4.setCell ⟨w.heap.size + 1, 0, none⟩ x0).setCell ⟨w.heap.size + 1, 1, none⟩ x1).setCell ⟨w.heap.size + 1, 2, none⟩ x2).setCell ⟨w.heap.size + 1, 3, none⟩ x3') (by omega) (by simp) (fun b hb _ => (Below.heap_setCell _ _ _ _ (by simp; omega)).trans ((Below.heap_setCell _ _ _ _ (by simp; omega)).trans ((Below.heap_setCell _ _ _ _ (by simp; omega)).trans (Below.heap_setCell _ _ _ _ (by simp; omega)))))
      replace hK := Lib.hid hK
      clear hB hD hN hL ks3 rs3 ro3
      go_wp2_with fail
      exact share_ret (b := w.heap.size + 1) rfl rfl rfl (row4 ro4 _ _ _ _) ⟨_, rfl, .inr ⟨h1.out, _, rfl, hK.out _ _ _ _⟩, below4 x4 (by omega) _ _ _ _⟩
  · have hE : shareE S a = askR S a := by unfold shareE; rw [if_pos h0]
    generalize askR S a = er at *
    have he : (er != 0) = true := by rw [bne_iff_ne]; exact h0
    have hq := Lib.hid h0
    have ko2 := cells_row ro2
    have fo2 := frozen_row ro2
    replace hE := Lib.hid hE
    clear h0
    go_wp2_with fail
    exact share_ret (b := w.heap.size + 1) rfl rfl rfl (row4 ro2 _ _ _ _) ⟨_, rfl, .inl ⟨by rw [hE.out]; exact hq.out, by rw [hE.out]; rfl⟩, below4 x2 (by omega) _ _ _ _⟩
end Go.Proofs.Ytlgbjpihmkeopaa
/- Contracts: the twin of a disk. -/
namespace Go.Proofs.Ytlgbjpihmkeopaa
set_option linter.unusedSimpArgs false
set_option linter.unusedVariables false
open Go.RowKit

end Go.Proofs.Ytlgbjpihmkeopaa
/- Contracts: the twin of a store. -/
namespace Go.Proofs.Ytlgbjpihmkeopaa
set_option linter.unusedSimpArgs false
set_option linter.unusedVariables false
open Go.RowKit

theorem outB_stableE (lo n : Nat) (l : List UInt8) : ∀ p, StableG extRel ((outB lo n l).φ p) := fun p W W' he h => by
  have he : Ext W W' := he
  exact ⟨(h.1.below he).more he.size, h.2⟩
end Go.Proofs.Ytlgbjpihmkeopaa
/- Contracts: a block taken: written into the first that is free. -/
namespace Go.Proofs.Ytlgbjpihmkeopaa
set_option linter.unusedSimpArgs false
set_option linter.unusedVariables false
open Go.RowKit Go.Shelf
attribute [local go_sem] Oper.semAt_some

def firstFree (S : Sto) : Nat := (freeS S).headD 0
def takeE (S : Sto) (data : List UInt8) : Int := if storeMay S = true then (if data.length = 128 then (if freeS S = [] ∨ S.ws.length = 4096 then 9 else 0) else 3) else 8
def putAt (S : Sto) (a : Nat) (data : List UInt8) : Sto := ⟨S.bs, S.ws ++ [((a : Int), data)], S.now.set a 1, S.last⟩
def RTakeQ (S : Sto) (data : List UInt8) (lo : Nat) (u : Value) (W : World) : Prop := (takeE S data ≠ 0 ∧ u = .tuple #[sto0, .int .i64 0, .int .i64 (takeE S data)]) ∨ (takeE S data = 0 ∧ ∃ v, u = .tuple #[v, .int .i64 (firstFree S : Int), .int .i64 0] ∧ NewSto lo (putAt S (firstFree S) data) v W)

theorem KeepsOthers.of_ext {W W' : World} (h : Ext W W') : KeepsOthers W W' := ⟨h.size, fun k _ hk _ => (h.block k (Array.getElem?_eq_some_iff.1 hk).1).trans hk⟩

theorem rtake_ret {n b : Nat} {R : Ending → World → Prop} {a : Act} {W : World} {x0 x1 x2 x3 y z : Value} (h4 : a.tmps[4]?.getD undef = .pointer (some ⟨b + 1 + 1, 0, none⟩)) (h5 : a.tmps[5]?.getD undef = .pointer (some ⟨b + 1 + 1 + 1, 0, none⟩)) (h6 : a.tmps[6]?.getD undef = .pointer (some ⟨b + 1 + 1 + 1 + 1, 0, none⟩)) (hd : a.defers = [])
    (r4 : W.heap[b + 2]? = some (.cells #[x0, x1, x2, x3] 28 (0, 0))) (r5 : W.heap[b + 3]? = some (.cells #[y] 3 (0, 0))) (r6 : W.heap[b + 4]? = some (.cells #[z] 35 (0, 0))) (hR : R (.returned (.tuple #[.agg #[x0, x1, x2, x3], y, z])) W) :
    bodyPostM Fence.wide n Try.prog Try.f41 R .ret a W := by
  have k4 := cells_row r4
  have k5 := cells_row r5
  have k6 := cells_row r6
  change LeavesInM Fence.wide n Try.prog Try.f41 a.tmps R a.defers .returning W
  rw [hd]
  refine ⟨.tuple #[.agg #[x0, x1, x2, x3], y, z], ?_, hR⟩
  simp [results, Try.results41, go_sem, h4, h5, h6, k4, k5, k6]
theorem rtake_retD {n b D : Nat} {R : Ending → World → Prop} {a : Act} {W : World} {x0 x1 x2 x3 y z : Value} (h4 : a.tmps[4]?.getD undef = .pointer (some ⟨b + 1 + 1, 0, none⟩)) (h5 : a.tmps[5]?.getD undef = .pointer (some ⟨b + 1 + 1 + 1, 0, none⟩)) (h6 : a.tmps[6]?.getD undef = .pointer (some ⟨b + 1 + 1 + 1 + 1, 0, none⟩)) (hd : a.defers = [{ target := .collected D, args := #[] }])
    (hK : W.heap[D]? = some (.deferred (some []))) (hD : b + 4 < D)
    (r4 : W.heap[b + 2]? = some (.cells #[x0, x1, x2, x3] 28 (0, 0))) (r5 : W.heap[b + 3]? = some (.cells #[y] 3 (0, 0))) (r6 : W.heap[b + 4]? = some (.cells #[z] 35 (0, 0))) (hR : R (.returned (.tuple #[.agg #[x0, x1, x2, x3], y, z])) (W.putObj D (.deferred none))) :
    bodyPostM Fence.wide n Try.prog Try.f41 R .ret a W := by
  have k4 := cells_row ((World.putObj_heap_other (o := .deferred none) (show b + 2 ≠ D by omega)).trans r4)
  have k5 := cells_row ((World.putObj_heap_other (o := .deferred none) (show b + 3 ≠ D by omega)).trans r5)
  have k6 := cells_row ((World.putObj_heap_other (o := .deferred none) (show b + 4 ≠ D by omega)).trans r6)
  change LeavesInM Fence.wide n Try.prog Try.f41 a.tmps R a.defers .returning W
  rw [hd]
  refine ⟨by simp, .inl ⟨_, _, rfl, run_takeDeferred hK, .tuple #[.agg #[x0, x1, x2, x3], y, z], ?_, hR⟩⟩
  simp [results, Try.results41, go_sem, h4, h5, h6, k4, k5, k6]
theorem res_rows {w W : World} {x0 x1 x2 x3 y z : Value} {ty1 ty2 ty3 : TypeId} {u0 u1 u2 u3 u5 u6 : Value} (r4 : W.heap[w.heap.size + 2]? = some (.cells #[u0, u1, u2, u3] ty1 (0, 0))) (r5 : W.heap[w.heap.size + 3]? = some (.cells #[u5] ty2 (0, 0))) (r6 : W.heap[w.heap.size + 4]? = some (.cells #[u6] ty3 (0, 0))) {C : World}
    (hC : C = ((((((W.setCell ⟨w.heap.size + 1 + 1, 0, none⟩ x0).setCell ⟨w.heap.size + 1 + 1, 1, none⟩ x1).setCell ⟨w.heap.size + 1 + 1, 2, none⟩ x2).setCell ⟨w.heap.size + 1 + 1, 3, none⟩ x3).setCell ⟨w.heap.size + 1 + 1 + 1, 0, none⟩ y).setCell ⟨w.heap.size + 1 + 1 + 1 + 1, 0, none⟩ z)) :
    C.heap[w.heap.size + 2]? = some (.cells #[x0, x1, x2, x3] ty1 (0, 0)) ∧ C.heap[w.heap.size + 3]? = some (.cells #[y] ty2 (0, 0)) ∧ C.heap[w.heap.size + 4]? = some (.cells #[z] ty3 (0, 0)) ∧ (∀ {B : Nat} {w0 : World}, B ≤ w.heap.size + 2 → Below B w0 W → Below B w0 C) ∧ C.heap.size = W.heap.size ∧ (∀ k, w.heap.size + 5 ≤ k → C.heap[k]? = W.heap[k]?) ∧ KeepsOthers W C := by
  subst hC
  have hs := fun (A : World) (b j : Nat) (v : Value) (k : Nat) (hk : k ≠ b) => Below.heap_setCell A ⟨b, j, none⟩ v k hk
  refine ⟨?_, ?_, ?_, fun hB h => ?_, by simp, fun k hk => ?_, ?_⟩
  · rw [hs _ _ _ _ _ (by omega), hs _ _ _ _ _ (by omega)]
    exact row4 r4 x0 x1 x2 x3
  · rw [hs _ _ _ _ _ (by omega)]
    refine row_set (t := ty2) (cs := #[u5]) ?_ 0 y
    rw [hs _ _ _ _ _ (by omega), hs _ _ _ _ _ (by omega), hs _ _ _ _ _ (by omega), hs _ _ _ _ _ (by omega)]
    exact r5
  · refine row_set (t := ty3) (cs := #[u6]) ?_ 0 z
    rw [hs _ _ _ _ _ (by omega), hs _ _ _ _ _ (by omega), hs _ _ _ _ _ (by omega), hs _ _ _ _ _ (by omega), hs _ _ _ _ _ (by omega)]
    exact r6
  · exact Below.setCell (Below.setCell (below4 h (b := w.heap.size + 1 + 1) (by omega) x0 x1 x2 x3) (p := ⟨w.heap.size + 1 + 1 + 1, 0, none⟩) (by simp; omega) _) (p := ⟨w.heap.size + 1 + 1 + 1 + 1, 0, none⟩) (by simp; omega) _
  · rw [hs _ _ _ _ _ (by omega), hs _ _ _ _ _ (by omega), hs _ _ _ _ _ (by omega), hs _ _ _ _ _ (by omega), hs _ _ _ _ _ (by omega), hs _ _ _ _ _ (by omega)]
  · exact (((((KeepsOthers.setCell _ _ _).trans (KeepsOthers.setCell _ _ _)).trans (KeepsOthers.setCell _ _ _)).trans (KeepsOthers.setCell _ _ _)).trans (KeepsOthers.setCell _ _ _)).trans (KeepsOthers.setCell _ _ _)
def TakeB (w : World) (S : Sto) (data : List UInt8) (x : Nat) (Wb : World) : Prop := ∃ x0 x1 x2 x3 y e, Wb.heap[w.heap.size + 2]? = some (.cells #[x0, x1, x2, x3] 28 (0, 0)) ∧ Wb.heap[w.heap.size + 3]? = some (.cells #[.int .i64 y] 3 (0, 0)) ∧ Wb.heap[w.heap.size + 4]? = some (.cells #[.int .i64 e] 35 (0, 0)) ∧
  ((e ≠ 0 ∧ e = writeE S.bs S.ws (x : Int) data ∧ y = 0 ∧ Value.agg #[x0, x1, x2, x3] = sto0) ∨ (e = 0 ∧ writeE S.bs S.ws (x : Int) data = 0 ∧ y = (x : Int) ∧ ∃ B1 d1 B2 d2 B3 d3 B4 d4, (x0 = .slice B1 S.bs.length d1 ∧ x1 = .slice B2 (S.ws.length + 1) d2 ∧ x2 = .slice B3 S.now.length d3 ∧ x3 = .slice B4 S.last.length d4) ∧
    ∀ C : World, (∀ q : Addr, w.heap.size + 5 ≤ q.block → q.block < Wb.heap.size → C.cell? q = Wb.cell? q) → StoAt C Wb.heap.size x0 x1 x2 x3 (putAt S x data)))

theorem askE_of_write {S : Sto} {x : Nat} {data : List UInt8} (h : writeE S.bs S.ws (x : Int) data = 0) : askE (diskMay S.bs S.ws) (x : Int) = 0 ∧ x < 256 := by
  unfold writeE at h
  split at h
  · rename_i h1; exact absurd h h1
  · rename_i h1
    have h2 : askE (diskMay S.bs S.ws) (x : Int) = 0 := by simpa using h1
    refine ⟨h2, ?_⟩
    unfold askE at h2
    split at h2
    · split at h2
      · omega
      · cases h2
    · cases h2
set_option maxHeartbeats 8000000 in
set_option maxRecDepth 100000 in
theorem rtake_any (A1 : Option Addr) (n1 c1 : Nat) (A2 : Option Addr) (n2 c2 : Nat) (A3 : Option Addr) (n3 c3 : Nat) (A4 : Option Addr) (n4 c4 : Nat) (S : Sto) (A : Option Addr) (c : Nat) (data : List UInt8) (w : World)
    (h : StoAt w w.heap.size (.slice A1 n1 c1) (.slice A2 n2 c2) (.slice A3 n3 c3) (.slice A4 n4 c4) S) (hd : Bys w w.heap.size (.slice A data.length c) data) :
    Calls Try.prog 41 #[storeV A1 n1 c1 A2 n2 c2 A3 n3 c3 A4 n4 c4, .slice A data.length c] w (RetS (RTakeQ S data w.heap.size) w) := by
  have HC := Lib.hid (fun W (hx : Ext w W) => rcheck_any A1 n1 c1 A2 n2 c2 A3 n3 c3 A4 n4 c4 S W (h.ext hx))
  refine (callsIn_wide (n := 3)).1 ?_
  refine callsIn_of_wp_marks Try.func41 rfl trivial ?_ rfl
  simp only [Try.ntmps41, List.size_toArray, List.length_cons, List.length_nil, Nat.reduceAdd, Nat.reduceSub, Array.replicate_succ, Array.replicate_zero, List.push_toArray, List.append_toArray, List.nil_append, List.cons_append]
  refine wpIn_wide.2 ?_
  replace h := Lib.hid h
  replace hd := Lib.hid hd
  go_wp2_with fail
  generalize hw1 : (World.alloc (World.alloc _ _) _) = w1
  have x1 : Ext w w1 := by rw [← hw1]; exact ((((Ext.alloc _ _).trans (Ext.alloc _ _)).trans (Ext.alloc _ _)).trans (Ext.alloc _ _)).trans (Ext.alloc _ _)
  have s1 : w1.heap.size = w.heap.size + 5 := by rw [← hw1]; simp
  have ra1 : w1.heap[w.heap.size]? = some (.cells #[.slice A1 n1 c1, .slice A2 n2 c2, .slice A3 n3 c3, .slice A4 n4 c4] 28 (0, 0)) := by rw [← hw1]; exact (Below.heap_alloc _ _ _ (by simp <;> omega)).trans ((Below.heap_alloc _ _ _ (by simp <;> omega)).trans ((Below.heap_alloc _ _ _ (by simp <;> omega)).trans ((Below.heap_alloc _ _ _ (by simp <;> omega)).trans (World.alloc_heap_at _ _ _ rfl))))
  have rb1 : w1.heap[w.heap.size + 1]? = some (.cells #[.slice A data.length c] 26 (0, 0)) := by rw [← hw1]; exact (Below.heap_alloc _ _ _ (by simp <;> omega)).trans ((Below.heap_alloc _ _ _ (by simp <;> omega)).trans ((Below.heap_alloc _ _ _ (by simp <;> omega)).trans (World.alloc_heap_at _ _ _ (by simp))))
  have rc1 : w1.heap[w.heap.size + 2]? = some (.cells #[.slice none 0 0, .slice none 0 0, .slice none 0 0, .slice none 0 0] 28 (0, 0)) := by rw [← hw1]; exact (Below.heap_alloc _ _ _ (by simp <;> omega)).trans ((Below.heap_alloc _ _ _ (by simp <;> omega)).trans (World.alloc_heap_at _ _ _ (by simp)))
  have rd1 : w1.heap[w.heap.size + 3]? = some (.cells #[.int .i64 0] 3 (0, 0)) := by rw [← hw1]; exact (Below.heap_alloc _ _ _ (by simp <;> omega)).trans (World.alloc_heap_at _ _ _ (by simp))
  have re1 : w1.heap[w.heap.size + 4]? = some (.cells #[.int .i64 0] 35 (0, 0)) := by rw [← hw1]; exact World.alloc_heap_at _ _ _ (by simp)
  clear hw1
  refine (HC.out w1 x1).mono ?_
  clear HC
  rintro e w2 ⟨rfl, hB⟩
  have x2 : Ext w w2 := x1.trans hB
  have s2 := hB.size
  have ra2 := row_ext ra1 hB
  have rb2 := row_ext rb1 hB
  have rc2 := row_ext rc1 hB
  have rd2 := row_ext rd1 hB
  have re2 := row_ext re1 hB
  clear hB ra1 rb1 rc1 rd1 re1 x1
  have ka2 := cells_row ra2
  have kb2 := cells_row rb2
  have kc2 := cells_row rc2
  have kd2 := cells_row rd2
  have ke2 := cells_row re2
  have fc2 := frozen_row rc2
  have fd2 := frozen_row rd2
  have fe2 := frozen_row re2
  rcases hS : storeMay S with _ | _
  · rw [errOf_f rfl]
    have hE : takeE S data = 8 := by unfold takeE; rw [hS]; rfl
    replace hE := Lib.hid hE
    replace hS := Lib.hid hS
    go_wp2_with fail
    obtain ⟨g4, g5, g6, hb, -⟩ := res_rows rc2 rd2 re2 rfl
    exact rtake_ret rfl rfl rfl rfl g4 g5 g6 ⟨_, rfl, .inl ⟨by rw [hE.out]; decide, by rw [hE.out]⟩, hb (by omega) x2⟩
  · rw [errOf_t rfl]
    by_cases hl : data.length = 128
    · have hll : ((data.length : Int) == 128) = true := by rw [beq_iff_eq]; omega
      have hll2 : decide (data.length = 128) = true := decide_eq_true hl
      replace hl := Lib.hid hl
      go_wp2_with fail
      refine (freeFn_any A1 n1 c1 A2 n2 c2 A3 n3 c3 A4 n4 c4 w2).mono ?_
      rintro e w3 ⟨rfl, rfl⟩
      go_wp2_with fail
      have x3 : Ext w2 (w2.alloc (.cells #[.slice A1 n1 c1, .slice A2 n2 c2, .slice A3 n3 c3, .slice A4 n4 c4] 28)) := Ext.alloc _ _
      have r3 : (w2.alloc (.cells #[.slice A1 n1 c1, .slice A2 n2 c2, .slice A3 n3 c3, .slice A4 n4 c4] 28)).heap[w2.heap.size]? = _ := World.alloc_heap_at _ _ _ rfl
      have h3 := h.out.ext (x2.trans x3)
      have s3 : (w2.alloc (.cells #[.slice A1 n1 c1, .slice A2 n2 c2, .slice A3 n3 c3, .slice A4 n4 c4] 28)).heap.size = w2.heap.size + 1 := by simp
      generalize hw3 : w2.alloc _ = w3 at *
      refine (wpIn_wide (n := 3)).1 ?_
      refine wpIn_rangeFunc_ownH rfl (by omega) (gf := 59) (lb := #[.pointer (some ⟨w2.heap.size, 0, none⟩)]) rfl trivial (enters_of Try.func59 (by kernel_rfl) rfl)
        (free_stops (3 - 1) (by omega) w2.heap.size w3.heap.size _ _ _ _ S hS w3 (by omega) (Nat.le_refl _) r3 h3) Below.trans (belowK_b (by omega)) (Below.refl _ _) (fun _ => rfl)
        (fun pre W => ((pre = [] ∧ (W.heap[w.heap.size]? = some (.cells #[.slice A1 n1 c1, .slice A2 n2 c2, .slice A3 n3 c3, .slice A4 n4 c4] 28 (0, 0)) ∧ W.heap[w.heap.size + 1]? = some (.cells #[.slice A data.length c] 26 (0, 0)))) ∧
          (W.heap[w.heap.size + 2]? = some (.cells #[.slice none 0 0, .slice none 0 0, .slice none 0 0, .slice none 0 0] 28 (0, 0)) ∧ (W.heap[w.heap.size + 3]? = some (.cells #[.int .i64 0] 3 (0, 0)) ∧ W.heap[w.heap.size + 4]? = some (.cells #[.int .i64 0] 35 (0, 0))))) ∧ Below w.heap.size w W)
        (fun c pre W => (∃ x Wb, c = .ret ∧ pre = [x] ∧ TakeB w S data x Wb ∧ CellsKept Wb W) ∧ Below w.heap.size w W)
        (OwnFrom.and (OwnFrom.and (OwnFrom.and (ownFrom_pure _ _) (OwnFrom.and (ownFrom_row _ _ _ _) (ownFrom_row _ _ _ _))) (OwnFrom.and (ownFrom_row _ _ _ _) (OwnFrom.and (ownFrom_row _ _ _ _) (ownFrom_row _ _ _ _)))) (ownFrom_below (Nat.le_refl _) (by omega)))
        (fun c => OwnFrom.and (fun s A C row hs hg hr => by
          obtain ⟨x, Wb, h1, h2, h3, h4⟩ := hs
          exact ⟨x, Wb, h1, h2, h3, h4.grown hg fun r e => (hr r e).2⟩) (ownFrom_below (Nat.le_refl _) (by omega)))
        ⟨⟨⟨rfl, row_ext ra2 x3, row_ext rb2 x3⟩, row_ext rc2 x3, row_ext rd2 x3, row_ext re2 x3⟩, x2.trans x3⟩
        (fun x a' _ => a' = { tmps := #[storeV A1 n1 c1 A2 n2 c2 A3 n3 c3 A4 n4 c4, .slice A data.length c, .pointer (some ⟨w.heap.size, 0, none⟩), .pointer (some ⟨w.heap.size + 1, 0, none⟩), .pointer (some ⟨w.heap.size + 1 + 1, 0, none⟩), .pointer (some ⟨w.heap.size + 1 + 1 + 1, 0, none⟩), .pointer (some ⟨w.heap.size + 1 + 1 + 1 + 1, 0, none⟩), .int .i64 0, .int .i64 (x : Int), undef, undef, undef,
          .agg #[.slice A1 n1 c1, .slice A2 n2 c2, .slice A3 n3 c3, .slice A4 n4 c4], .int .i64 0, .int .i64 0, .bool false, undef, undef, .slice A data.length c, .int .i64 (data.length : Int), .bool false, undef, .agg #[.slice A1 n1 c1, .slice A2 n2 c2, .slice A3 n3 c3, .slice A4 n4 c4],
          .func (.func 59) #[] #[.pointer (some ⟨w2.heap.size, 0, none⟩)], .int .i64 (x : Int), undef, undef, undef, undef, undef, undef, undef, undef, undef, undef, undef, undef, undef, undef, undef, undef, undef, undef, undef, undef, undef, undef, undef, undef, undef, undef], defers := [] })
        (fun x a' => ownFrom_pure _ _) ?assign ?body ?done ?stop
      case assign =>
        rintro l pre x W K hI hK
        gi_wp2_with fail
        exact hK _ _ (KeepsFrom.refl _ _) (Below.refl _ _) hI rfl
      case body =>
        rintro l pre x a' W hl' - ⟨⟨⟨rfl, ra, rb⟩, rc, rd, re⟩, hB⟩ rfl hpl
        have HW := dwrite_any A1 n1 c1 A2 n2 c2 S.bs S.ws (x : Int) A c data W (h.out.ext hB).bs (h.out.ext hB).ws ((hd.out.below hB).more hB.size)
        have ka := cells_row ra
        have kb := cells_row rb
        clear ka2 kb2 kc2 kd2 ke2 fc2 fd2 fe2 ra2 rb2 rc2 rd2 re2 hll hll2
        replace h3 := Lib.hid h3
        replace hS := Lib.hid hS
        gi_wp2_with fail
        refine ⟨trivial, (CallsIn.inRound _ (callsIn_wide.2 HW)).mono ?_⟩
        clear HW
        rintro e W4 ⟨u, rfl, hu, hB4⟩
        have x4 : Ext w W4 := hB.trans (Below.mono hB4 hB.size)
        have z4 := hB4.size
        have ra4 := row_ext ra hB4
        have rb4 := row_ext rb hB4
        have rc4 := row_ext rc hB4
        have rd4 := row_ext rd hB4
        have re4 := row_ext re hB4
        have hk4 : KeepsOthers W W4 := KeepsOthers.of_ext hB4
        have zB : w.heap.size + 4 < W.heap.size := (Array.getElem?_eq_some_iff.1 re).1
        clear ka kb ra rb rc rd re hB4
        have ka := cells_row ra4
        have kc := cells_row rc4
        have kd := cells_row rd4
        have ke := cells_row re4
        have fc := frozen_row rc4
        have fd := frozen_row rd4
        have fe := frozen_row re4
        have za : w.heap.size < W4.heap.size := by omega
        have zc : w.heap.size + 1 + 1 < W4.heap.size := by omega
        have zd : w.heap.size + 1 + 1 + 1 < W4.heap.size := by omega
        have ze : w.heap.size + 1 + 1 + 1 + 1 < W4.heap.size := by omega
        replace hB := Lib.hid hB
        rcases hu with ⟨he, rfl⟩ | ⟨he, v, rfl, hv⟩
        · obtain ⟨e, hee⟩ : ∃ e, e = writeE S.bs S.ws (x : Int) data := ⟨_, rfl⟩
          rw [← hee] at he ⊢
          have heb : (e != 0) = true := by rw [bne_iff_ne]; exact he
          replace hee := Lib.hid hee
          replace he := Lib.hid he
          gi_wp2_with fail
          obtain ⟨g4, g5, g6, hb, hz, hk, hkp⟩ := res_rows rc4 rd4 re4 rfl
          exact ⟨((hk4.trans hkp).trans (KeepsOthers.alloc _ _)).from _, ⟨x, _, rfl, rfl, ⟨_, _, _, _, 0, e, (Below.heap_alloc _ _ _ (by rw [hz]; omega)).trans g4, (Below.heap_alloc _ _ _ (by rw [hz]; omega)).trans g5, (Below.heap_alloc _ _ _ (by rw [hz]; omega)).trans g6, .inl ⟨he.out, hee.out, rfl, rfl⟩⟩, CellsKept.refl _⟩, (hb (by omega) x4).alloc (by rw [hz]; omega) _⟩
        · obtain ⟨B1, d1, B2, d2, rfl, hnd⟩ := hv
          have hask := askE_of_write he
          have hx256 : x < 256 := hask.2
          simp only [List.length_append, List.length_singleton] at hnd ⊢
          replace he := Lib.hid he
          replace hnd := Lib.hid hnd
          have hnl := (storeMay_len hS.out).2.2.1
          have HB := bclone_any (.slice A3 n3 c3) S.now (by omega) (W4.alloc (.cells #[.slice B1 S.bs.length d1, .slice B2 (S.ws.length + 1) d2] 25)) ((h.out.ext x4).ext (Ext.alloc W4 _)).now
          gi_wp2_with fail
          refine ⟨trivial, (CallsIn.inRound _ (callsIn_wide.2 HB)).mono ?_⟩
          clear HB
          have x5 : Ext W4 (W4.alloc (.cells #[.slice B1 S.bs.length d1, .slice B2 (S.ws.length + 1) d2] 25)) := Ext.alloc _ _
          have r5 : (W4.alloc (.cells #[.slice B1 S.bs.length d1, .slice B2 (S.ws.length + 1) d2] 25)).heap[W4.heap.size]? = _ := World.alloc_heap_at _ _ _ rfl
          have k5 : KeepsOthers W4 (W4.alloc (.cells #[.slice B1 S.bs.length d1, .slice B2 (S.ws.length + 1) d2] 25)) := KeepsOthers.alloc _ _
          generalize hw5 : W4.alloc _ = w5 at *
          clear hw5
          rintro e W6 ⟨u, rfl, hown, hB6⟩
          have s5 : W4.heap.size < w5.heap.size := (Array.getElem?_eq_some_iff.1 r5).1
          have x6 : Ext w W6 := (x4.trans x5).trans hB6
          have y6 : Ext W4 W6 := x5.trans hB6
          have ra6 := row_ext ra4 y6
          have rc6 := row_ext rc4 y6
          have rd6 := row_ext rd4 y6
          have re6 := row_ext re4 y6
          have r6 := row_ext r5 hB6
          have hk6 : KeepsOthers W W6 := (hk4.trans k5).trans (KeepsOthers.of_ext hB6)
          have z6 := hB6.size
          rw [hnl] at hown
          obtain ⟨g, c', rfl⟩ : ∃ g c', u = .slice (some ⟨g, 0, none⟩) 256 c' := by
            rcases hown.2 with ⟨_, h0⟩ | ⟨g, cap, cur, e, _⟩
            · omega
            · exact ⟨g, cap, e⟩
          obtain ⟨hcg, hfg, hlg, hgz⟩ := own_cells hown
          have hcgx := hcg x hx256
          have hfgx := hfg x
          have hset := Lib.hid (own_set hown hx256 1)
          clear ka kc kd ke fc fd fe hcg hfg hown ra4 rc4 rd4 re4 rb4 r5 k5
          have hx256b : decide (x < 256) = true := decide_eq_true hx256
          have ka6 := cells_row ra6
          have kr6 := cells_row r6
          replace y6 := Lib.hid y6
          gi_upto_region 13 with fail
          have hs7 := fun (k : Nat) (hk : k ≠ g) => Below.heap_setCell W6 ⟨g, x, none⟩ (.int .u8 1) k hk
          have z7 : (W6.setCell ⟨g, x, none⟩ (.int .u8 1)).heap.size = W6.heap.size := by simp
          have x7 : Ext w (W6.setCell ⟨g, x, none⟩ (.int .u8 1)) := Below.setCell x6 (p := ⟨g, x, none⟩) (by simp; omega) _
          have own7 : (W6.setCell ⟨g, x, none⟩ (.int .u8 1)).ownsRow w5.heap.size 5 1 (.slice (some ⟨g, 0, none⟩) 256 c') 256 ((S.now.set x 1).map bv) := hset.out
          have ra7 := (hs7 w.heap.size (by omega)).trans ra6
          have rc7 := (hs7 (w.heap.size + 2) (by omega)).trans rc6
          have rd7 := (hs7 (w.heap.size + 3) (by omega)).trans rd6
          have re7 := (hs7 (w.heap.size + 4) (by omega)).trans re6
          have r7 := (hs7 W4.heap.size (by omega)).trans r6
          have hk7 : KeepsOthers W (W6.setCell ⟨g, x, none⟩ (.int .u8 1)) := hk6.trans (KeepsOthers.setCell _ _ _)
          have y7 : ∀ q : Addr, q.block < W4.heap.size → (W6.setCell ⟨g, x, none⟩ (.int .u8 1)).cell? q = W4.cell? q := fun q hq => (World.cell?_of_block (hs7 q.block (by omega))).trans (Below.cell y6.out hq)
          replace hset := trivial
          clear hs7
          generalize hw7 : W6.setCell ⟨g, x, none⟩ (.int .u8 1) = w7 at *
          clear hw7 hset hk6 ra6 rc6 rd6 re6 r6 ka6 kr6 hcgx hfgx y6
          have HL := Lib.hid (fun W (hW : Ext w7 W) => bclone_any (.slice A4 n4 c4) S.last (by have := (storeMay_len hS.out).2.2.2; omega) W ((h.out.ext x7).ext hW).last)
          have gA : ∀ W, extRel.r w7 W → ∀ i, W.cell? ⟨w.heap.size, i, none⟩ = #[.slice A1 n1 c1, .slice A2 n2 c2, .slice A3 n3 c3, .slice A4 n4 c4][i]? := fun W h => cells_row (row_ext ra7 h)
          have gD : ∀ W, extRel.r w7 W → ∀ i, W.cell? ⟨W4.heap.size, i, none⟩ = #[.slice B1 S.bs.length d1, .slice B2 (S.ws.length + 1) d2][i]? := fun W h => cells_row (row_ext r7 h)
          refine regionIn_start (by kernel_rfl) ?_
          refine anyIn_pure (wideF_round l) (by kernel_rfl) 6 9 (.int .i64 (x : Int)) (by kernel_rfl) (by simp only [List.getElem?_toArray, List.getElem?_cons_succ, List.getElem?_cons_zero]; exact rfl) (by kernel_rfl) (by kernel_rfl) (by kernel_rfl) (by rfl) (fun W => ?_) ?_
          · go_simp
          simp only [Act.put, one_f, outB_f, outNew_f, outI_f, outB_f, List.setIfInBounds_toArray, List.set_cons_zero, List.set_cons_succ]
          refine anyIn_freeT (w := w7) (wideF_round l) (by kernel_rfl) extRel (outsAt [(4, outB w7.heap.size S.last.length S.last)]) [true, true, true, true, true, true] 3 (by kernel_rfl) (by kernel_rfl) (by kernel_rfl) (by kernel_rfl) (by kernel_rfl) (by kernel_rfl) (by kernel_rfl) ?st (Rel.drew _ _) ?walk
          case st => exact outsAt_stableG (by simp only [List.forall_mem_cons]; exact ⟨outB_stableE _ _ _, fun _ h => by cases h⟩)
          case walk =>
            intro K hK
            dsimp only [maskOps, List.replicate]
            repeat ((first | (refine free_plainM ?_ (by rfl) (by rfl) (fun W hW _ => ⟨W, ?_, Rel.refl _ W⟩) ?_; rotate_left; (first | (go_simp; with_reducible rfl) | (go_simp; done))) | (refine free_skipM (by rfl) ?_)); try simp only [Act.put, one_f, outB_f, outNew_f, outI_f, outB_f, List.setIfInBounds_toArray, List.set_cons_zero, List.set_cons_succ])
            refine free_hardM (outB w7.heap.size S.last.length S.last) (by rfl) (by rfl) (fun W' hW _ => ?_) (fun p7 => ?_)
            · have hxW : Ext w7 W' := hW
              refine hardAt_callG ?_ ((HL.out W' hxW).mono fun e w' h => ?_)
              · go_simp
              obtain ⟨u, rfl, hu, hB⟩ := h
              obtain ⟨A', c', rfl, _, _⟩ := own_slice hu
              exact ⟨(A', c'), rfl, ⟨Bys.of_own hu, (From.of_own hu).mono hxW.size⟩, hB⟩
            obtain ⟨B4, d4⟩ := p7
            simp only [Act.put, one_f, outB_f, outNew_f, outI_f, outB_f, List.setIfInBounds_toArray, List.set_cons_zero, List.set_cons_succ]
            repeat ((first | (refine free_plainM ?_ (by rfl) (by rfl) (fun W hW _ => ⟨W, ?_, Rel.refl _ W⟩) ?_; rotate_left; (first | (go_simp; with_reducible rfl) | (go_simp; done))) | (refine free_skipM (by rfl) ?_)); try simp only [Act.put, one_f, outB_f, outNew_f, outI_f, outB_f, List.setIfInBounds_toArray, List.set_cons_zero, List.set_cons_succ])
            refine free_nilM (hK _ _ fun W8 hW hF => ?_)
            have hL : Bys W8 W8.heap.size (.slice B4 S.last.length d4) S.last ∧ From w7.heap.size (.slice B4 S.last.length d4) := (hF 4).1
            clear hF hK gA gD
            have hW' : Ext w7 W8 := hW
            have z8 := hW'.size
            have rc8 := row_ext rc7 hW'
            have rd8 := row_ext rd7 hW'
            have re8 := row_ext re7 hW'
            dsimp only [List.drop, List.length_cons, List.length_nil]
            have kc := cells_row rc8
            have kd := cells_row rd8
            have ke := cells_row re8
            have fc := frozen_row rc8
            have fd := frozen_row rd8
            have fe := frozen_row re8
            replace hL := Lib.hid hL
            replace own7 := Lib.hid own7
            replace y7 := Lib.hid y7
            clear HL hW rc7 rd7 re7 ra7 r7
            gi_wp2_with fail
            refine QN_in ?_
            gi_wp2_with fail
            obtain ⟨g4, g5, g6, hb, hz, hk, hkp⟩ := res_rows rc8 rd8 re8 rfl
            refine ⟨((hk7.trans (KeepsOthers.of_ext hW')).trans hkp).from _, ⟨x, _, rfl, rfl, ⟨_, _, _, _, (x : Int), 0, g4, g5, g6, .inr ⟨rfl, he.out, rfl, B1, d1, B2, d2, some ⟨g, 0, none⟩, c', B4, d4, ⟨rfl, rfl, by rw [hnl], rfl⟩, fun C hC => ?_⟩⟩, CellsKept.refl _⟩, hb (by omega) (x7.trans hW')⟩
            have hag : ∀ q : Addr, w.heap.size + 5 ≤ q.block → q.block < W8.heap.size → C.cell? q = W8.cell? q := fun q h1 h2 => (hC q h1 (by rw [hz]; exact h2)).trans (World.cell?_of_block (hk q.block h1))
            have h7 : ∀ q : Addr, w.heap.size + 5 ≤ q.block → q.block < w7.heap.size → C.cell? q = w7.cell? q := fun q h1 h2 => (hag q h1 (by omega)).trans (Below.cell hW' h2)
            obtain ⟨q1, q2⟩ := hnd.out C fun q h1 h2 => (h7 q (by omega) (by omega)).trans (y7.out q h2)
            have q3 := (Bys.of_own own7.out).keepN (From.of_own own7.out) (W := C) fun q h1 h2 => h7 q (by omega) h2
            have q4 := hL.out.1.keepN hL.out.2 (W := C) fun q h1 h2 => hag q (by omega) h2
            rw [hz]
            exact ⟨q1.more (by omega), by simpa [putAt] using q2.more (show W4.heap.size ≤ W8.heap.size by omega), q3.more (by omega), q4⟩
      case done =>
        rintro D ys W hD rfl ⟨⟨⟨hz, ra, rb⟩, rc, rd, re⟩, hB⟩ hK
        have kc := cells_row rc
        have kd := cells_row rd
        have ke := cells_row re
        have fc := frozen_row rc
        have fd := frozen_row rd
        have fe := frozen_row re
        have hE : takeE S data = 9 := by unfold takeE; rw [hS, if_pos rfl, if_pos hl.out, if_pos (.inl hz)]
        replace hE := Lib.hid hE
        replace hS := Lib.hid hS
        replace hz := Lib.hid hz
        gi_wp2_with fail
        go_wp2_with fail
        obtain ⟨g4, g5, g6, hb, -, hk, -⟩ := res_rows rc rd re rfl
        have zB : w.heap.size + 4 < W.heap.size := (Array.getElem?_eq_some_iff.1 re).1
        exact rtake_retD rfl rfl rfl rfl ((hk D (by omega)).trans hK) (by omega) g4 g5 g6 ⟨_, rfl, .inl ⟨by rw [hE.out]; decide, by rw [hE.out]⟩, (hb (by omega) hB).trans (belowK_b (w := w) (Nat.le_refl _) _ D _ _ (by omega) ((hk D (by omega)).trans hK) rfl rfl)⟩
      case stop =>
        rintro D cc pre W hD hpre ⟨⟨x, Wb, rfl, rfl, hTB, hCK⟩, hB⟩ hK
        gi_wp2_with fail
        obtain ⟨t, ht⟩ := hpre
        have hff : firstFree S = x := by unfold firstFree; rw [← ht]; rfl
        have hne : freeS S ≠ [] := by rw [← ht]; simp
        have hx : freeB S x = true := by
          have : x ∈ freeTo S 256 := (show x ∈ freeS S by rw [← ht]; simp)
          unfold freeTo at this
          exact (List.mem_filter.1 this).2
        have hx256 : x < 256 := by
          have : x ∈ freeTo S 256 := (show x ∈ freeS S by rw [← ht]; simp)
          unfold freeTo at this
          simpa using (List.mem_filter.1 this).1
        have hWE : writeE S.bs S.ws (x : Int) data = takeE S data := by
          have hd : diskMay S.bs S.ws = true := by unfold storeMay at hS; simp at hS; exact hS.1
          have ha : askE (diskMay S.bs S.ws) (x : Int) = 0 := by unfold askE; rw [hd, if_pos rfl, if_pos (by omega)]
          unfold writeE takeE
          rw [ha, hS, if_neg (by simp), if_neg (by simpa using hl.out), if_pos rfl, if_pos hl.out]
          simp only [hne, false_or]
        obtain ⟨x0, x1, x2', x3', y, e, g4, g5, g6, hcase⟩ := hTB
        have hfin := fun (q : Addr) (v : Value) (hq : Wb.cell? q = some v) => (hCK.put (.deferred none) hK rfl).cell hq
        have hbel : Below w.heap.size w (W.putObj D (.deferred none)) := hB.trans (belowK_b (w := w) (Nat.le_refl _) W D _ _ (by omega) hK rfl rfl)
        refine rtake_retD rfl rfl rfl rfl hK (by omega) (hCK.row g4) (hCK.row g5) (hCK.row g6) ⟨_, rfl, ?_, hbel⟩
        rw [hWE] at hcase
        rcases hcase with ⟨h1, h2, h3', h4⟩ | ⟨h1, h2, h3', B1, d1, B2, d2, B3, d3, B4, d4, ⟨e1, e2, e3, e4⟩, h4⟩
        · refine .inl ⟨by rw [← h2]; exact h1, ?_⟩
          rw [h4, h3', h2]
        · refine .inr ⟨h2, .agg #[x0, x1, x2', x3'], by rw [h3', hff, h1], ?_⟩
          · rw [hff]
            refine ⟨B1, d1, B2, d2, B3, d3, B4, d4, ?_, fun C hC => ?_⟩
            · rw [e1, e2, e3, e4]; simp [putAt]
            · have h5 := pos_of_eq (Φ := fun C => StoAt C Wb.heap.size x0 x1 x2' x3' (putAt S x data)) (fun A C hAC hA => hA.some_ hAC) h4 C (fun q v hq1 hq2 hq => hC q v (by omega) (Nat.lt_of_lt_of_le hq2 (by have := hCK.size; simpa [World.putObj] using this)) (hfin q v hq))
              have h6 := h5.more (show Wb.heap.size ≤ (W.putObj D (.deferred none)).heap.size by have := hCK.size; simpa [World.putObj] using this)
              rw [e1, e2, e3, e4] at h6
              simpa [putAt] using h6
    · have hll : ((data.length : Int) == 128) = false := by rw [beq_eq_false_iff_ne]; omega
      have hll2 : decide (data.length = 128) = false := decide_eq_false hl
      have hE : takeE S data = 3 := by unfold takeE; rw [hS, if_pos rfl, if_neg hl]
      replace hE := Lib.hid hE
      replace hS := Lib.hid hS
      replace hl := Lib.hid hl
      go_wp2_with fail
      obtain ⟨g4, g5, g6, hb, -⟩ := res_rows rc2 rd2 re2 rfl
      exact rtake_ret rfl rfl rfl rfl g4 g5 g6 ⟨_, rfl, .inl ⟨by rw [hE.out]; decide, by rw [hE.out]⟩, hb (by omega) x2⟩
end Go.Proofs.Ytlgbjpihmkeopaa
/- Contracts: whether a pool may be; a slice of numbers cloned. -/
namespace Go.Proofs.Ytlgbjpihmkeopaa
set_option linter.unusedSimpArgs false
set_option linter.unusedVariables false
open Go.RowKit

def PCheckQ (S : Sto) (root next : Int) (dead : List Int) (w : World) (e : Ending) (w' : World) : Prop := Below w.heap.size w w' ∧
  ((e = .returned (.int .i64 8) ∧ ∀ vs, PoolB S root next dead vs → ∃ refs nodes, Counted S (rootsN root dead vs) refs nodes ∧ ¬ Enough S refs) ∨
    (e = .returned (.int .i64 0) ∧ ∃ vs refs nodes, PoolB S root next dead vs ∧ Counted S (rootsN root dead vs) refs nodes ∧ Enough S refs))
theorem pcheck_ret {R : Ending → World → Prop} {a : Act} {W : World} {u : Value} (h2 : a.tmps[2]?.getD undef = u) (hd : a.defers = []) (hR : R (.returned u) W) : bodyPost Try.prog Try.f40 R .ret a W := by
  refine bodyPost_ret (v := u) ?_ hd hR
  simp [results, Try.results40, go_sem, h2]
set_option maxHeartbeats 2000000 in
set_option maxRecDepth 100000 in
theorem pcheck_any (A1 : Option Addr) (n1 c1 : Nat) (A2 : Option Addr) (n2 c2 : Nat) (A3 : Option Addr) (n3 c3 : Nat) (A4 : Option Addr) (n4 c4 : Nat) (gen root next : Int) (A5 : Option Addr) (c5 : Nat) (S : Sto) (dead : List Int) (w : World)
    (h : StoAt w w.heap.size (.slice A1 n1 c1) (.slice A2 n2 c2) (.slice A3 n3 c3) (.slice A4 n4 c4) S) (hd : Ints w w.heap.size (.slice A5 dead.length c5) dead) :
    Calls Try.prog 40 #[.agg (poolCs (.slice A1 n1 c1) (.slice A2 n2 c2) (.slice A3 n3 c3) (.slice A4 n4 c4) gen root next (.slice A5 dead.length c5))] w (PCheckQ S root next dead w) := by
  have HT := Lib.hid (fun W (hx : Ext w W) => take_any A1 n1 c1 A2 n2 c2 A3 n3 c3 A4 n4 c4 gen root next A5 c5 S dead W (h.ext hx) (by
    obtain ⟨A, c, e, q1, q2, q3⟩ := hd
    exact ⟨A, c, e, q1, q2, (q3.below hx).more hx.size⟩))
  clear h hd
  go_enter Try.func40, Try.ntmps40
  go_wp2_with fail
  generalize hw1 : World.alloc w _ = w1
  have x1 : Ext w w1 := by rw [← hw1]; exact Ext.alloc _ _
  clear hw1
  refine (HT.out w1 x1).mono ?_
  rintro e w2 ⟨hB, hQ⟩
  have x2 : Below w.heap.size w w2 := Ext.trans x1 hB
  rcases hQ with ⟨rfl, hno⟩ | ⟨vs, refs, nodes, cb, ca, vv, rfl, hT⟩
  · have HB : PCheckQ S root next dead w (.returned (.int .i64 8)) w2 := ⟨x2, .inl ⟨rfl, hno⟩⟩
    replace HB := Lib.hid HB
    clear hno hB
    go_wp2_with fail
    exact pcheck_ret rfl rfl HB.out
  · have HB : PCheckQ S root next dead w (.returned (.int .i64 0)) w2 := ⟨x2, .inr ⟨rfl, vs, refs, nodes, hT.pool, hT.cnt, hT.enough⟩⟩
    replace HB := Lib.hid HB
    clear hT hB
    go_wp2_with fail
    exact pcheck_ret rfl rfl HB.out
theorem rowI_one (l : List Int) : ∀ u ∈ rowI l, u.oneCell' = true := by
  intro u hu
  obtain ⟨a, _, rfl⟩ := List.mem_map.1 hu
  rfl
theorem Ints.of_own {w : World} {base : Nat} {v : Value} {l : List Int} (h : w.ownsRow base 3 1 v l.length (rowI l)) : Ints w w.heap.size v l := by
  obtain ⟨A, c, rfl, hc, hm⟩ := own_slice h
  refine ⟨A, c, rfl, hc, hm, by simp, fun hn => ?_⟩
  rcases h.2 with ⟨_, h0⟩ | ⟨g, cap, cur, e, _, hr, _⟩
  · omega
  · simp only [Value.slice.injEq] at e
    obtain ⟨rfl, -, rfl⟩ := e
    exact ⟨g, 0, rfl, (Array.getElem?_eq_some_iff.1 hr).1, fun j u hu => by have h5 := h.cells (g := g) rfl j u hu; rw [Nat.zero_add]; unfold Addr.add at h5; split at h5 <;> simp_all⟩
theorem Ints.keepN {w W : World} {B lo : Nat} {v : Value} {l : List Int} (h : Ints w B v l) (hf : From lo v) (hk : ∀ q : Addr, lo ≤ q.block → q.block < B → W.cell? q = w.cell? q) : Ints W B v l := by
  obtain ⟨A, c, e, hc, hm, hr⟩ := h
  subst e
  exact ⟨A, c, rfl, hc, hm, Rd.keepN hr hf hk⟩
theorem Ints.more {w : World} {B B' : Nat} {v : Value} {l : List Int} (h : Ints w B v l) (hb : B ≤ B') : Ints w B' v l := by
  obtain ⟨A, c, e, hc, hm, hr⟩ := h
  exact ⟨A, c, e, hc, hm, hr.more hb⟩
theorem Ints.ext_ {w W : World} {v : Value} {l : List Int} (h : Ints w w.heap.size v l) (hx : Ext w W) : Ints W W.heap.size v l := by
  obtain ⟨A, c, e, hc, hm, hr⟩ := h
  exact ⟨A, c, e, hc, hm, (hr.below hx).more hx.size⟩
set_option maxHeartbeats 1000000 in
set_option maxRecDepth 100000 in
theorem iclone_any (v : Value) (l : List Int) (hl : l.length < 1073741824) (w : World) (h : Ints w w.heap.size v l) :
    Calls Try.prog 42 #[v] w (RetS (fun u w' => w'.ownsRow w.heap.size 3 1 u l.length (rowI l)) w) := by
  obtain ⟨i0, hi, hz0, hz1, hz2⟩ := info_parts Try.info_int
  obtain ⟨A, c, rfl, hc, hm, hr⟩ := h
  have qn : ∀ (w : World) (a : Option Addr) (n c n' c' : Nat), (binOp .eql 30 (.slice a n c) (.slice none n' c')).run Try.prog w = .ok (.bool a.isNone) w := fun w a n c n' c' => Lib.run_eql_slice_nil w _ _ a n c n' c' Try.underlying30
  rcases A with _ | ⟨b, off, p⟩
  · have h0 : l = [] := by
      rcases l with _ | ⟨x, r⟩
      · rfl
      · obtain ⟨b, off, h, _⟩ := hr.2 (by simp)
        cases h
    subst h0
    go_enter Try.func42, Try.ntmps42
    go_wp2
    go_ret
    exact ⟨_, rfl, World.ownsRow_nil _ _ _ _, Below.refl _ _⟩
  · go_enter Try.func42, Try.ntmps42
    go_wp2_with (at_builtin; refine wpList_stop ?_)
    refine Stopped.go (wpList_append_rd _ rfl (.tmp 5) (.tmp 6) 30 rfl w.heap.size 3 i0 (.int .i64 0) 1 8 Try.underlying30 hi hz0 hz1 hz2 rfl (by decide) _ 0 [] rfl ?_ w.heap.size _ l.length c (rowI l) (by exact rfl) ?_ (rowI_one l) (by omega) (by decide) (by simp) ?_)
    · exact World.ownsRow_lit w #[] 0 (Nat.le_refl _) (by simp [maxLen]) rfl
    · exact hr.keep fun p hp => World.cell?_alloc_lt w _ p hp
    · intro v' w' hown _ hb _
      simp only [Nat.zero_add, List.nil_append] at hown
      go_wp2
      go_ret
      exact ⟨_, rfl, hown, Below.trans ((Below.refl _ _).alloc (Nat.le_refl _) _) hb⟩
end Go.Proofs.Ytlgbjpihmkeopaa
/- Contracts: is a number among numbers? -/
namespace Go.Proofs.Ytlgbjpihmkeopaa
set_option linter.unusedSimpArgs false
set_option linter.unusedVariables false
open Go.RowKit

theorem ints_at (l : List Nat) {k : Nat} (hk : k < l.length) : (intsV l)[k]? = some (.int .i64 (l[k] : Int)) := by unfold intsV; rw [List.getElem?_map, List.getElem?_eq_getElem hk]; rfl
def IxP (l : List Nat) (x : Nat) (u : Value) : Prop := (x ∈ l ∧ ∃ j : Nat, j < l.length ∧ u = .int .i64 (j : Int)) ∨ (x ∉ l ∧ u = .int .i64 (-1))
theorem ix_ret {R : Ending → World → Prop} {a : Act} {W : World} {u : Value} (h4 : a.tmps[4]?.getD undef = u) (hd : a.defers = []) (hR : R (.returned u) W) : bodyPost Try.prog Try.f98 R .ret a W := by
  refine bodyPost_ret (v := u) ?_ hd hR
  simp [results, Try.results98, go_sem, h4]
set_option maxHeartbeats 2000000 in
set_option maxRecDepth 100000 in
theorem index_any (A : Option Addr) (c : Nat) (l : List Nat) (hl : l.length ≤ 1000000) (x : Nat) (w : World) (h : Rd w w.heap.size 1 A l.length (intsV l)) :
    Calls Try.prog 98 #[.slice A l.length c, .int .i64 (x : Int)] w (fun e W => ∃ u, e = .returned u ∧ IxP l x u ∧ W = w) := by
  replace h := Lib.hid h
  go_enter Try.func98, Try.ntmps98
  go_wp2_with fail
  go_loopw [8] (fun i wr => ∃ k : Nat, k ≤ l.length ∧ i = .int .i64 (k : Int) ∧ wr = w ∧ ∀ j (hj : j < l.length), j < k → l[j] ≠ x) (fun i _ => l.length - (intOf i).toNat)
  case atStart => exact ⟨0, Nat.zero_le _, rfl, rfl, fun j _ hj => absurd hj (Nat.not_lt_zero _)⟩
  case round =>
    obtain ⟨k, hk, rfl, rfl, hno⟩ := hrel
    replace hno := Lib.hid hno
    by_cases hlt : k < l.length
    · obtain ⟨b, o, rfl, hb, hcell⟩ := h.out.2 (by omega)
      have hc := hcell k _ (ints_at l hlt)
      have HNO := Lib.hid (fun (he : l[k] ≠ x) j (hj : j < l.length) (hjk : j < k + 1) => by
        rcases Nat.lt_or_ge j k with h1 | h1
        · exact hno.out j hj h1
        · obtain rfl : j = k := by omega
          exact he)
      have HY := Lib.hid (fun (he : l[k] = x) => (⟨he ▸ List.getElem_mem hlt, k, hlt, rfl⟩ : x ∈ l ∧ ∃ j : Nat, j < l.length ∧ (Value.int .i64 (k : Int)) = .int .i64 (j : Int)))
      have hw := Lib.hid (IntWalk.wrap64_in ((k : Int) + 1) (by omega))
      have hd1 : decide (k < l.length) = true := decide_eq_true hlt
      generalize l[k] = y at *
      clear hcell
      by_cases he : y = x
      · have z1 : ((x : Int) == (y : Int)) = true := by rw [beq_iff_eq]; omega
        have z2 : decide (x = y) = true := decide_eq_true he.symm
        have hQ := Lib.hid (HY.out he)
        clear HNO HY
        replace he := Lib.hid he
        go_wp2_with fail
        exact ix_ret rfl rfl ⟨_, rfl, .inl hQ.out, rfl⟩
      · have z1 : ((x : Int) == (y : Int)) = false := by rw [beq_eq_false_iff_ne]; omega
        have z2 : decide (x = y) = false := decide_eq_false (fun h => he h.symm)
        have hQ := Lib.hid (HNO.out he)
        clear HNO HY
        replace he := Lib.hid he
        have hw' := hw.out
        go_wp2_with fail
        refine ⟨⟨k + 1, hlt, rfl, trivial, fun j hj hjk => hQ.out j hj hjk⟩, ?_⟩
        simp [intOf]
        omega
    · obtain rfl : k = l.length := by omega
      have hQ : x ∉ l := fun hx => by
        obtain ⟨j, hj, e⟩ := List.mem_iff_getElem.1 hx
        exact hno.out j hj hj e
      replace hQ := Lib.hid hQ
      go_wp2_with fail
      exact ix_ret rfl rfl ⟨_, rfl, .inr ⟨hQ.out, rfl⟩, rfl⟩
set_option maxRecDepth 100000 in
theorem has_any (A : Option Addr) (c : Nat) (l : List Nat) (hl : l.length ≤ 1000000) (x : Nat) (w : World) (h : Rd w w.heap.size 1 A l.length (intsV l)) :
    Calls Try.prog 69 #[.slice A l.length c, .int .i64 (x : Int)] w (fun e W => e = .returned (.bool (decide (x ∈ l))) ∧ W = w) := by
  have HI := Lib.hid (index_any A c l hl x w h)
  clear h
  go_enter Try.func69, Try.ntmps69
  go_wp2_with fail
  refine HI.out.mono ?_
  clear HI
  rintro e W ⟨u, rfl, hu, rfl⟩
  rcases hu with ⟨h1, j, hj, rfl⟩ | ⟨h1, rfl⟩
  · have z1 : decide ((j : Int) ≥ 0) = true := decide_eq_true (by omega)
    replace h1 := Lib.hid h1
    go_wp2_with fail
    go_ret
    exact ⟨by rw [decide_eq_true h1.out]; rfl, rfl⟩
  · replace h1 := Lib.hid h1
    go_wp2_with fail
    go_ret
    exact ⟨by rw [decide_eq_false h1.out]; rfl, rfl⟩
end Go.Proofs.Ytlgbjpihmkeopaa
/- Is each block counted often enough? A pool has one list of volumes. -/
namespace Go.Proofs.Ytlgbjpihmkeopaa
set_option linter.unusedSimpArgs false
set_option linter.unusedVariables false
open Go.RowKit

def enoughB (S : Sto) (refs : Nat → Nat) : Bool := (List.range 256).all fun a => decide (refs a ≤ (S.now[a]?.getD 0).toNat)
theorem enoughB_iff (S : Sto) (refs : Nat → Nat) : enoughB S refs = true ↔ Enough S refs := by
  unfold enoughB Enough
  rw [List.all_eq_true]
  exact ⟨fun h a ha => of_decide_eq_true (h a (List.mem_range.2 ha)), fun h a ha => decide_eq_true (h a (List.mem_range.1 ha))⟩
theorem PoolB.same {S : Sto} {root next : Int} {dead : List Int} {vs vs' : List Vol} (h : PoolB S root next dead vs) (h' : PoolB S root next dead vs') : vs = vs' := by
  have := h.vols
  rw [h'.vols] at this
  cases this
  rfl
end Go.Proofs.Ytlgbjpihmkeopaa
