/- Texts ItRead, App, ItReadR, Node, joined. -/
import Derived.Test.YtckhnchnbeoogaaGreatT03
/- Contracts: an item that bytes begin with. -/
namespace Go.Proofs.YtckhnchnbeoogaaGreat
set_option linter.unusedSimpArgs false
set_option linter.unusedVariables false
open Go.RowKit

structure It where
  k : Int
  i : Int
  o : Int
  r : Int
  val : List UInt8
deriving DecidableEq
def szOf (l : List UInt8) : Nat := 12 + (l[11]?.getD 0).toNat
def itAt (l : List UInt8) : It := ⟨((l[0]?.getD 0).toNat : Int), numAt l 1 4, numAt l 5 4, numAt l 9 2, (l.drop 12).take (szOf l - 12)⟩
def itemRead (l : List UInt8) : Option (It × Nat) :=
  if l.length < 12 ∨ l.length < szOf l then none else if itB (itAt l).r (szOf l - 12) then some (itAt l, szOf l) else none
abbrev noIt : Value := .tuple #[itemV 0 0 0 0 none 0 0, .int .i64 0, .int .i64 8]
def ReadP (lo : Nat) (q : Option (It × Nat)) (u : Value) (W : World) : Prop :=
  match q with
  | none => u = noIt
  | some (x, n) => ∃ i, u = .tuple #[i, .int .i64 (n : Int), .int .i64 0] ∧ IsI lo x.k x.i x.o x.r x.val i W
def ReadPz (lo : Nat) (q : Option (It × Nat)) (u : Value) (W : World) : Prop :=
  match q with
  | none => u = noIt
  | some (x, n) => ∃ i, u = .tuple #[i, .int .i64 (n : Int), .int .i64 0] ∧ IsIz lo x.k x.i x.o x.r x.val i W
theorem row_set {w : World} {b : Nat} {cs : Array Value} {t : TypeId} (h : w.heap[b]? = some (.cells cs t (0, 0))) (i : Nat) (v : Value) : (w.setCell ⟨b, i, none⟩ v).heap[b]? = some (.cells (cs.setIfInBounds i v) t (0, 0)) := by
  rw [setCell_eq_setRow _ _ _ _ _ _ _ h, setRow_heap _ _ _ _ _ _ h]
theorem row_ext {w w' : World} {b : Nat} {o : Obj} (h : w.heap[b]? = some o) (hx : Ext w w') : w'.heap[b]? = some o := (Below.block hx _ (Array.getElem?_eq_some_iff.1 h).1).trans h

theorem Bys.sub3 {w : World} {B a k : Nat} {b off m c : Nat} {l : List UInt8} (h : Bys w B (.slice (some ⟨b, off, none⟩) m c) l) (hk : a + k ≤ l.length) :
    Bys w B (.slice (some ⟨b, off + a, none⟩) k k) ((l.drop a).take k) := by
  obtain ⟨A, c', e, hc, hm, hr⟩ := h.sub hk
  have hl : ((l.drop a).take k).length = k := by simp; omega
  simp only [Value.slice.injEq] at e
  obtain ⟨rfl, e2, rfl⟩ := e
  rw [hl] at hr hc
  refine ⟨_, k, by rw [hl], by omega, by omega, by rw [hl]; exact hr⟩

set_option maxHeartbeats 2000000 in
theorem ireadz_any (v : Value) (l : List UInt8) (hl : l.length < 1000) (w : World) (h : Bys w w.heap.size v l) :
    Calls Tryz.prog 116 #[v] w (RetS (ReadPz w.heap.size (itemRead l)) w) := by
  obtain ⟨A, m, c, rfl⟩ : ∃ A m c, v = .slice A m c := by obtain ⟨A, c, e, _⟩ := h; exact ⟨_, _, _, e⟩
  obtain ⟨e1, hc, hm, hA⟩ := h.at_
  by_cases h12 : l.length < 12
  · have hq : itemRead l = none := by unfold itemRead; rw [if_pos (.inl h12)]
    rw [hq]
    clear h
    subst e1
    go_enter Tryz.func116, Tryz.ntmps116
    go_wp2
    refine bodyPost_ret (v := noIt) (by simp [results, Tryz.results116, go_sem]) rfl ⟨_, rfl, rfl, (by repeat' (first | with_reducible exact Below.refl _ _ | with_reducible assumption | with_reducible apply Below.drew | with_reducible apply below_drewN | with_reducible refine Below.alloc ?_ ?_ _ | with_reducible refine Below.setCell ?_ ?_ _ | (simp; done) | (simp; omega) | omega))⟩
  · obtain ⟨b, off, rfl, hb⟩ := hA (by omega)
    have hcell : ∀ j u, (l.map bv)[j]? = some u → w.cell? ⟨b, off + j, none⟩ = some u := by
      obtain ⟨A, c', e, _, _, hr⟩ := h
      cases e
      obtain ⟨b', off', e, _, hcell⟩ := hr.2 (by omega)
      cases e
      exact hcell
    have c0 : w.cell? ⟨b, off, none⟩ = some (.int .u8 ((l[0]?.getD 0).toNat : Int)) := hcell 0 _ (by rw [List.getElem?_map, List.getElem?_eq_getElem (by omega)]; rfl)
    have c11 : w.cell? ⟨b, off + 11, none⟩ = some (.int .u8 ((l[11]?.getD 0).toNat : Int)) := hcell 11 _ (by rw [List.getElem?_map, List.getElem?_eq_getElem (by omega)]; rfl)
    have hs : szOf l = 12 + (l[11]?.getD 0).toNat := rfl
    have u0 := (l[0]?.getD 0).toNat_lt
    have u11 := (l[11]?.getD 0).toNat_lt
    clear hcell hA
    have hbw : b ≠ w.heap.size := by omega
    by_cases hsz : l.length < szOf l
    · have hq : itemRead l = none := by unfold itemRead; rw [if_pos (.inr hsz)]
      rw [hq]
      clear h
      subst e1
      generalize (l[11]?.getD 0).toNat = q at *
      go_enter Tryz.func116, Tryz.ntmps116
      go_wp2
      refine bodyPost_ret (v := noIt) (by simp [results, Tryz.results116, go_sem]) rfl ⟨_, rfl, rfl, (by repeat' (first | with_reducible exact Below.refl _ _ | with_reducible assumption | with_reducible apply Below.drew | with_reducible apply below_drewN | with_reducible refine Below.alloc ?_ ?_ _ | with_reducible refine Below.setCell ?_ ?_ _ | (simp; done) | (simp; omega) | omega))⟩
    · have h48 : Bys w w.heap.size (.slice (some ⟨b, off + 12, none⟩) (szOf l - 12) (szOf l - 12)) ((l.drop 12).take (szOf l - 12)) := h.sub3 (by omega)
      have hlv : ((l.drop 12).take (szOf l - 12)).length = szOf l - 12 := by simp; omega
      have H1 : ∀ W, Ext w W → _ := fun W hW => getfour_any _ l 1 (by omega) W ((h.below hW).more hW.size)
      have H5 : ∀ W, Ext w W → _ := fun W hW => getfour_any _ l 5 (by omega) W ((h.below hW).more hW.size)
      have H9 : ∀ W, Ext w W → _ := fun W hW => gettwo_any _ l 9 (by omega) W ((h.below hW).more hW.size)
      have hq : itemRead l = if itB (itAt l).r (szOf l - 12) then some (itAt l, szOf l) else none := by unfold itemRead; rw [if_neg (by omega)]
      have hi : itAt l = ⟨((l[0]?.getD 0).toNat : Int), numAt l 1 4, numAt l 5 4, numAt l 9 2, (l.drop 12).take (szOf l - 12)⟩ := rfl
      rw [hi] at hq
      generalize itemRead l = R at *
      generalize numAt l 1 4 = n1 at *
      generalize numAt l 5 4 = n5 at *
      generalize numAt l 9 2 = n9 at *
      generalize hval : (l.drop 12).take (szOf l - 12) = val at *
      have h48' : ∀ O, (O = off + 12 ∨ szOf l - 12 = 0) → Bys w w.heap.size (.slice (some ⟨b, O, none⟩) (szOf l - 12) (szOf l - 12)) val := by
        rintro O (rfl | h0)
        · exact h48
        · rw [h0] at hlv ⊢
          obtain rfl : val = [] := List.eq_nil_of_length_eq_zero hlv
          exact ⟨_, _, rfl, Nat.le_refl _, by simp [maxLen], rfl, fun h => absurd h (by simp)⟩
      have HT : ∀ O, (O = off + 12 ∨ szOf l - 12 = 0) → ∀ W, Ext w W → _ := fun O hO W hW => itwinz_any ((l[0]?.getD 0).toNat : Int) n1 n5 n9 _ _ _ val (by omega) W (((h48' O hO).below hW).more hW.size)
      clear h h48 h48' hval hi
      subst e1
      rw [hs] at *
      clear hs
      generalize (l[11]?.getD 0).toNat = q at *
      generalize (l[0]?.getD 0).toNat = k at *
      have e12 : 12 + q - 12 = q := by omega
      rw [e12] at hq HT hlv
      replace hq := Lib.hid hq
      replace H1 := Lib.hid H1
      replace H5 := Lib.hid H5
      replace H9 := Lib.hid H9
      replace HT := Lib.hid HT
      unfold maxLen at hm
      go_enter Tryz.func116, Tryz.ntmps116
      go_wp2_with fail
      generalize hw1 : (World.alloc _ _) = w1
      have b1 : Ext w w1 := by rw [← hw1]; exact Ext.alloc _ _
      have r1 : w1.heap[w.heap.size]? = some (.cells #[.int .u8 k, .int .u32 0, .int .u32 0, .int .i64 0, .slice none 0 0] 38 (0, 0)) := by rw [← hw1]; exact World.alloc_heap_at _ _ _ rfl
      clear hw1
      refine (H1.out _ b1).mono ?_
      rintro e w2 ⟨rfl, hB⟩
      have b1' : Ext w w2 := Ext.trans b1 hB
      have r1' := row_ext r1 hB
      have k1 := cells_row r1'
      have f1 := frozen_row r1'
      clear hB r1
      go_wp2_with fail
      generalize hw : (World.setCell _ _ _) = w3
      have b2 : Ext w w3 := by rw [← hw]; exact b1'.setCell (p := ⟨w.heap.size, 1, none⟩) (Nat.le_refl _) _
      have r2 : w3.heap[w.heap.size]? = some (.cells #[.int .u8 k, .int .u32 n1, .int .u32 0, .int .i64 0, .slice none 0 0] 38 (0, 0)) := by rw [← hw]; exact row_set r1' 1 _
      clear hw k1 f1 r1' b1'
      refine (H5.out _ b2).mono ?_
      rintro e w4 ⟨rfl, hB⟩
      have b2' : Ext w w4 := Ext.trans b2 hB
      have r2' := row_ext r2 hB
      have k2 := cells_row r2'
      have f2 := frozen_row r2'
      clear hB r2
      go_wp2_with fail
      generalize hw : (World.setCell _ _ _) = w5
      have b3 : Ext w w5 := by rw [← hw]; exact b2'.setCell (p := ⟨w.heap.size, 2, none⟩) (Nat.le_refl _) _
      have r3 : w5.heap[w.heap.size]? = some (.cells #[.int .u8 k, .int .u32 n1, .int .u32 n5, .int .i64 0, .slice none 0 0] 38 (0, 0)) := by rw [← hw]; exact row_set r2' 2 _
      clear hw k2 f2 r2' b2'
      refine (H9.out _ b3).mono ?_
      rintro e w6 ⟨rfl, hB⟩
      have b4 : Ext w w6 := Ext.trans b3 hB
      have r4 := row_ext r3 hB
      have k4 := cells_row r4
      have f4 := frozen_row r4
      clear hB r3
      rcases Nat.eq_zero_or_pos q with hq0 | hq0
      · subst hq0
        go_wp2_with fail
        generalize hw : (World.setCell (World.setCell _ _ _) _ _) = w7
        have b5 : Ext w w7 := by rw [← hw]; exact Below.setCell (Below.setCell b4 (p := ⟨w.heap.size, 3, none⟩) (Nat.le_refl _) _) (p := ⟨w.heap.size, 4, none⟩) (Nat.le_refl _) _
        have r5 : w7.heap[w.heap.size]? = some (.cells #[.int .u8 k, .int .u32 n1, .int .u32 n5, .int .i64 n9, .slice (some ⟨b, off, none⟩) 0 0] 38 (0, 0)) := by rw [← hw]; exact row_set (row_set r4 3 _) 4 _
        clear hw k4 f4 r4 b4
        refine (icheck_any k n1 n5 n9 _ 0 0 _).mono ?_
        rintro e w8 ⟨rfl, hB⟩
        have b6 : Ext w w8 := Ext.trans b5 hB
        have r6 := row_ext r5 hB
        have k6 := cells_row r6
        have f6 := frozen_row r6
        have hgt : w.heap.size < w8.heap.size := (Array.getElem?_eq_some_iff.1 r6).1
        clear hB r5 b5
        by_cases hok : itB n9 0 = true
        · have hR : R = some (⟨k, n1, n5, n9, val⟩, 12 + 0) := by rw [hq.out, if_pos hok]
          rw [errOf_t hok]
          clear hok hq
          subst hR
          go_wp2_with fail
          refine (HT.out (off) (by simp) _ b6).mono ?_
          rintro e w9 ⟨u, rfl, ⟨A', c', rfl, ⟨hby, hfr⟩, hnz⟩, hB⟩
          have b7 : Ext w w9 := Ext.trans b6 hB
          have r7 := row_ext r6 hB
          have k7 := cells_row r7
          have f7 := frozen_row r7
          clear k6 f6 r6
          rw [hlv] at hby hfr hnz ⊢
          replace hnz := Lib.hid hnz
          go_wp2
          refine bodyPost_ret (v := .tuple #[itemV k n1 n5 n9 A' 0 c', .int .i64 ((12 + 0 : Nat) : Int), .int .i64 0]) (by simp [results, Tryz.results116, go_sem, k7]) rfl ⟨_, rfl, ⟨_, rfl, ?_⟩, ?_⟩
          · refine ⟨A', c', by rw [hlv], ⟨?_, by rw [hlv]; exact hfr.mono b6.size⟩, by rw [hlv]; exact ((((hnz.out.setCell _ _).setCell _ _).setCell _ _).setCell _ _).setCell _ _⟩
            rw [hlv]
            simp only [World.size_setCell]
            exact ((((hby.setCell hfr (p := ⟨w.heap.size, 0, none⟩) hgt _).setCell hfr (p := ⟨w.heap.size, 1, none⟩) hgt _).setCell hfr (p := ⟨w.heap.size, 2, none⟩) hgt _).setCell hfr (p := ⟨w.heap.size, 3, none⟩) hgt _).setCell hfr (p := ⟨w.heap.size, 4, none⟩) hgt _
          · have b7' : Below w.heap.size w w9 := b7
            exact (by repeat' (first | with_reducible exact Below.refl _ _ | with_reducible assumption | with_reducible apply Below.drew | with_reducible apply below_drewN | with_reducible refine Below.alloc ?_ ?_ _ | with_reducible refine Below.setCell ?_ ?_ _ | (simp; done) | (simp; omega) | omega))
        · have hR : R = none := by rw [hq.out, if_neg hok]
          rw [errOf_f (by simpa using hok)]
          clear hok hq
          subst hR
          go_wp2
          refine bodyPost_ret (v := noIt) (by simp [results, Tryz.results116, go_sem, k6]) rfl ⟨_, rfl, rfl, ?_⟩
          have b6' : Below w.heap.size w w8 := b6
          exact (by repeat' (first | with_reducible exact Below.refl _ _ | with_reducible assumption | with_reducible apply Below.drew | with_reducible apply below_drewN | with_reducible refine Below.alloc ?_ ?_ _ | with_reducible refine Below.setCell ?_ ?_ _ | (simp; done) | (simp; omega) | omega))
      · skip
        go_wp2_with fail
        generalize hw : (World.setCell (World.setCell _ _ _) _ _) = w7
        have b5 : Ext w w7 := by rw [← hw]; exact Below.setCell (Below.setCell b4 (p := ⟨w.heap.size, 3, none⟩) (Nat.le_refl _) _) (p := ⟨w.heap.size, 4, none⟩) (Nat.le_refl _) _
        have r5 : w7.heap[w.heap.size]? = some (.cells #[.int .u8 k, .int .u32 n1, .int .u32 n5, .int .i64 n9, .slice (some ⟨b, off + 12, none⟩) q q] 38 (0, 0)) := by rw [← hw]; exact row_set (row_set r4 3 _) 4 _
        clear hw k4 f4 r4 b4
        refine (icheck_any k n1 n5 n9 _ q q _).mono ?_
        rintro e w8 ⟨rfl, hB⟩
        have b6 : Ext w w8 := Ext.trans b5 hB
        have r6 := row_ext r5 hB
        have k6 := cells_row r6
        have f6 := frozen_row r6
        have hgt : w.heap.size < w8.heap.size := (Array.getElem?_eq_some_iff.1 r6).1
        clear hB r5 b5
        by_cases hok : itB n9 q = true
        · have hR : R = some (⟨k, n1, n5, n9, val⟩, 12 + q) := by rw [hq.out, if_pos hok]
          rw [errOf_t hok]
          clear hok hq
          subst hR
          go_wp2_with fail
          refine (HT.out (off + 12) (by simp) _ b6).mono ?_
          rintro e w9 ⟨u, rfl, ⟨A', c', rfl, ⟨hby, hfr⟩, hnz⟩, hB⟩
          have b7 : Ext w w9 := Ext.trans b6 hB
          have r7 := row_ext r6 hB
          have k7 := cells_row r7
          have f7 := frozen_row r7
          clear k6 f6 r6
          rw [hlv] at hby hfr hnz ⊢
          replace hnz := Lib.hid hnz
          go_wp2
          refine bodyPost_ret (v := .tuple #[itemV k n1 n5 n9 A' q c', .int .i64 ((12 + q : Nat) : Int), .int .i64 0]) (by simp [results, Tryz.results116, go_sem, k7]) rfl ⟨_, rfl, ⟨_, rfl, ?_⟩, ?_⟩
          · refine ⟨A', c', by rw [hlv], ⟨?_, by rw [hlv]; exact hfr.mono b6.size⟩, by rw [hlv]; exact ((((hnz.out.setCell _ _).setCell _ _).setCell _ _).setCell _ _).setCell _ _⟩
            rw [hlv]
            simp only [World.size_setCell]
            exact ((((hby.setCell hfr (p := ⟨w.heap.size, 0, none⟩) hgt _).setCell hfr (p := ⟨w.heap.size, 1, none⟩) hgt _).setCell hfr (p := ⟨w.heap.size, 2, none⟩) hgt _).setCell hfr (p := ⟨w.heap.size, 3, none⟩) hgt _).setCell hfr (p := ⟨w.heap.size, 4, none⟩) hgt _
          · have b7' : Below w.heap.size w w9 := b7
            exact (by repeat' (first | with_reducible exact Below.refl _ _ | with_reducible assumption | with_reducible apply Below.drew | with_reducible apply below_drewN | with_reducible refine Below.alloc ?_ ?_ _ | with_reducible refine Below.setCell ?_ ?_ _ | (simp; done) | (simp; omega) | omega))
        · have hR : R = none := by rw [hq.out, if_neg hok]
          rw [errOf_f (by simpa using hok)]
          clear hok hq
          subst hR
          go_wp2
          refine bodyPost_ret (v := noIt) (by simp [results, Tryz.results116, go_sem, k6]) rfl ⟨_, rfl, rfl, ?_⟩
          have b6' : Below w.heap.size w w8 := b6
          exact (by repeat' (first | with_reducible exact Below.refl _ _ | with_reducible assumption | with_reducible apply Below.drew | with_reducible apply below_drewN | with_reducible refine Below.alloc ?_ ?_ _ | with_reducible refine Below.setCell ?_ ?_ _ | (simp; done) | (simp; omega) | omega))
end Go.Proofs.YtckhnchnbeoogaaGreat
/- An append of a slice that reads as cells, for drawn regions. -/
namespace Go.Proofs.YtckhnchnbeoogaaGreat
set_option linter.unusedSimpArgs false
set_option linter.unusedVariables false
open Go.RowKit

theorem run_append_rd {P : Program} (w : World) (base : Nat) (t ty : TypeId) (e : TypeId) (i : TypeInfo) (z : Value) (size bytes : Nat) (ht : P.underlying t = some (.slice e)) (hi : P.info? e = some i) (hz : i.zero = some z)
    (hsize : i.size = size) (hby : i.bytes = bytes) (hzs : z.cells.size = size) (hsz : 0 < size)
    (v : Value) (n : Nat) (xs : List Value) (hown : w.ownsRow base e size v n xs)
    (B : Nat) (A : Option Addr) (m c : Nat) (news : List Value) (hr : Rd w B size A m news) (h1 : ∀ u ∈ news, u.oneCell' = true)
    (hn : n + m < 1073741824) (hbytes : bytes ≤ 65536) (hbase : base ≤ w.heap.size) :
    ∃ v' w', (Builtin.append_ #[t, t] ty #[v, .slice A m c]).run P w = .ok v' w' ∧ w'.ownsRow base e size v' (n + m) (xs ++ news) ∧ w.grownBy w' v.ownBlock ∧ Below base w w' ∧
      (v'.ownBlock = v.ownBlock ∨ v'.ownBlock = some w.heap.size) := by
  have hb : (n + m) * bytes ≤ 140737488355328 := Nat.le_trans (Nat.mul_le_mul_left _ hbytes) (by omega)
  have hm : n + m ≤ maxLen := by unfold maxLen; omega
  rcases A with _ | ad
  · have hm0 : m = 0 := by
      rcases Nat.eq_zero_or_pos m with h0 | h0
      · exact h0
      · obtain ⟨b, off, h, _⟩ := hr.2 h0
        cases h
    subst hm0
    have hn : news = [] := List.eq_nil_of_length_eq_zero (by simpa using hr.1)
    subst hn
    refine ⟨v, w, ?_, by simpa using hown, World.grownBy.refl w _, Below.refl _ _, .inl rfl⟩
    rcases hown.2 with ⟨rfl, _⟩ | ⟨g, cap, cur, rfl, _, _, hnc, _⟩
    all_goals simp [Builtin.append_, run_underlying ht, sizeOf, typeInfo, hi, Builtin.lenOf, Builtin.firstCells, storeCells, *]
  · have hcells : ∀ j u, news[j]? = some u → w.cell? (ad.add j) = some u := by
      intro j u hu
      rcases Nat.eq_zero_or_pos m with h0 | h0
      · subst h0
        have hn : news = [] := List.eq_nil_of_length_eq_zero (by simpa using hr.1)
        subst hn
        simp at hu
      · obtain ⟨b, off, h, _⟩ := hr.2 h0
        injection h with h
        subst h
        exact hr.adds h0 j u hu
    obtain ⟨v', w', hrun, h2, h3, _, h5⟩ := run_append_own_at (P := P) w base t ty e i z size bytes ht hi hz hsize hby hzs hsz v n xs hown ad m c news hr.1 hcells h1 hm hb hbase
    exact ⟨v', w', hrun, h2, h3, (Below.refl base w).grown h3 hbase (fun k hk => (hown.lt k hk).1), h5⟩
theorem exec_append {P : Program} {o : Oper} {a : Act} {W w' : World} {s x : Operand} {t : TypeId} {v u r : Value} (ho : o.op = .call { callee := .builtin .append, args := #[s, x], argTypes := #[t, t] })
    (hs : a.eval s = v) (hx : a.eval x = u) (hrun : (Builtin.append_ #[t, t] o.type #[v, u]).run P W = .ok r w') : (execOp a.eval o).run P W = .ok (.value r) w' := by
  unfold execOp
  simp only [ho, resolve, invoke, builtin, Sem.run_bind, Sem.run_pure, Result.andThen_ok, List.map_toArray, List.map_cons, List.map_nil, hs, hx, hrun]
end Go.Proofs.YtckhnchnbeoogaaGreat
/- Contracts: the document's item that bytes begin with. -/
namespace Go.Proofs.YtckhnchnbeoogaaGreat
set_option linter.unusedSimpArgs false
set_option linter.unusedVariables false
open Go.RowKit

set_option maxHeartbeats 2000000 in
set_option maxRecDepth 100000 in
theorem rread_any (v : Value) (l : List UInt8) (hl : l.length < 1000) (w : World) (h : Bys w w.heap.size v l) :
    Calls Tryz.prog 123 #[v] w (RetS (ReadP w.heap.size (itemRead l)) w) := by
  obtain ⟨A, m, c, rfl⟩ : ∃ A m c, v = .slice A m c := by obtain ⟨A, c, e, _⟩ := h; exact ⟨_, _, _, e⟩
  obtain ⟨e1, hc, hm, hA⟩ := h.at_
  by_cases h12 : l.length < 12
  · have hq : itemRead l = none := by unfold itemRead; rw [if_pos (.inl h12)]
    rw [hq]
    clear h
    subst e1
    go_enter Tryz.func123, Tryz.ntmps123
    go_wp2
    all_goals first | (exfalso; omega) | exact bodyPost_ret (v := noIt) (by simp [results, Tryz.results123, go_sem]) rfl ⟨_, rfl, rfl, (by repeat' (first | with_reducible exact Below.refl _ _ | with_reducible assumption | with_reducible apply Below.drew | with_reducible apply below_drewN | with_reducible refine Below.alloc ?_ ?_ _ | with_reducible refine Below.setCell ?_ ?_ _ | (simp; done) | (simp; omega) | omega))⟩
  · obtain ⟨b, off, rfl, hb⟩ := hA (by omega)
    have hcell : ∀ j u, (l.map bv)[j]? = some u → w.cell? ⟨b, off + j, none⟩ = some u := by
      obtain ⟨A, c', e, _, _, hr⟩ := h
      cases e
      obtain ⟨b', off', e, _, hcell⟩ := hr.2 (by omega)
      cases e
      exact hcell
    have c0 : w.cell? ⟨b, off, none⟩ = some (.int .u8 ((l[0]?.getD 0).toNat : Int)) := hcell 0 _ (by rw [List.getElem?_map, List.getElem?_eq_getElem (by omega)]; rfl)
    have c11 : w.cell? ⟨b, off + 11, none⟩ = some (.int .u8 ((l[11]?.getD 0).toNat : Int)) := hcell 11 _ (by rw [List.getElem?_map, List.getElem?_eq_getElem (by omega)]; rfl)
    have hs : szOf l = 12 + (l[11]?.getD 0).toNat := rfl
    have u0 := (l[0]?.getD 0).toNat_lt
    have u11 := (l[11]?.getD 0).toNat_lt
    clear hcell hA
    have hbw : b ≠ w.heap.size := by omega
    by_cases hsz : l.length < szOf l
    · have hq : itemRead l = none := by unfold itemRead; rw [if_pos (.inr hsz)]
      rw [hq]
      clear h
      subst e1
      generalize (l[11]?.getD 0).toNat = q at *
      go_enter Tryz.func123, Tryz.ntmps123
      go_wp2
      refine bodyPost_ret (v := noIt) (by simp [results, Tryz.results123, go_sem]) rfl ⟨_, rfl, rfl, (by repeat' (first | with_reducible exact Below.refl _ _ | with_reducible assumption | with_reducible apply Below.drew | with_reducible apply below_drewN | with_reducible refine Below.alloc ?_ ?_ _ | with_reducible refine Below.setCell ?_ ?_ _ | (simp; done) | (simp; omega) | omega))⟩
    · have h48 : Bys w w.heap.size (.slice (some ⟨b, off + 12, none⟩) (szOf l - 12) (c - 12)) ((l.drop 12).take (szOf l - 12)) := h.sub (by omega)
      have hlv : ((l.drop 12).take (szOf l - 12)).length = szOf l - 12 := by simp; omega
      have H1 : ∀ W, Ext w W → _ := fun W hW => rgetfour_any _ l 1 (by omega) (by omega) W ((h.below hW).more hW.size)
      have H5 : ∀ W, Ext w W → _ := fun W hW => rgetfour_any _ l 5 (by omega) (by omega) W ((h.below hW).more hW.size)
      have H9 : ∀ W, Ext w W → _ := fun W hW => rgettwo_any _ l 9 (by omega) (by omega) W ((h.below hW).more hW.size)
      have hq : itemRead l = if itB (itAt l).r (szOf l - 12) then some (itAt l, szOf l) else none := by unfold itemRead; rw [if_neg (by omega)]
      have hi : itAt l = ⟨((l[0]?.getD 0).toNat : Int), numAt l 1 4, numAt l 5 4, numAt l 9 2, (l.drop 12).take (szOf l - 12)⟩ := rfl
      rw [hi] at hq
      generalize itemRead l = R at *
      generalize numAt l 1 4 = n1 at *
      generalize numAt l 5 4 = n5 at *
      generalize numAt l 9 2 = n9 at *
      generalize hval : (l.drop 12).take (szOf l - 12) = val at *
      have h48' : ∀ O, (O = off + 12 ∨ szOf l - 12 = 0) → Bys w w.heap.size (.slice (some ⟨b, O, none⟩) (szOf l - 12) (c - 12)) val := by
        rintro O (rfl | h0)
        · exact h48
        · rw [h0] at hlv ⊢
          obtain rfl : val = [] := List.eq_nil_of_length_eq_zero hlv
          exact ⟨_, _, rfl, Nat.zero_le _, by omega, rfl, fun h => absurd h (by simp)⟩
      have HT : ∀ O, (O = off + 12 ∨ szOf l - 12 = 0) → ∀ W, Ext w W → Bys W W.heap.size (.slice (some ⟨b, O, none⟩) (szOf l - 12) (c - 12)) val := fun O hO W hW => ((h48' O hO).below hW).more hW.size
      clear h h48 h48' hval hi
      subst e1
      rw [hs] at *
      clear hs
      generalize (l[11]?.getD 0).toNat = q at *
      generalize (l[0]?.getD 0).toNat = k at *
      have e12 : 12 + q - 12 = q := by omega
      rw [e12] at hq HT hlv
      replace hq := Lib.hid hq
      replace H1 := Lib.hid H1
      replace H5 := Lib.hid H5
      replace H9 := Lib.hid H9
      replace HT := Lib.hid HT
      unfold maxLen at hm
      go_enter Tryz.func123, Tryz.ntmps123
      go_wp2_with fail
      generalize hw1 : (World.alloc (World.alloc _ _) _) = w1
      have b1 : Ext w w1 := by rw [← hw1]; exact (Ext.alloc _ _).trans (Ext.alloc _ _)
      have r1 : w1.heap[w.heap.size + 1]? = some (.cells #[.int .u8 k, .int .u32 0, .int .u32 0, .int .i64 0, .slice none 0 0] 38 (0, 0)) := by rw [← hw1]; exact World.alloc_heap_at _ _ _ (by simp)
      have rr1 : w1.heap[w.heap.size]? = some (.cells #[.int .u8 0, .int .u32 0, .int .u32 0, .int .i64 0, .slice none 0 0] 38 (0, 0)) := by rw [← hw1]; exact (Below.heap_alloc _ _ _ (by simp)).trans (World.alloc_heap_at _ _ _ rfl)
      clear hw1
      refine (H1.out _ b1).mono ?_
      rintro e w2 ⟨rfl, hB⟩
      have b1' : Ext w w2 := Ext.trans b1 hB
      have r1' := row_ext r1 hB
      have rr1' := row_ext rr1 hB
      have k1 := cells_row r1'
      have f1 := frozen_row r1'
      clear hB r1 rr1
      go_wp2_with fail
      generalize hw : (World.setCell _ _ _) = w3
      have b2 : Ext w w3 := by rw [← hw]; exact b1'.setCell (p := ⟨w.heap.size + 1, 1, none⟩) (by simp) _
      have rr2 : w3.heap[w.heap.size]? = some (.cells #[.int .u8 0, .int .u32 0, .int .u32 0, .int .i64 0, .slice none 0 0] 38 (0, 0)) := by rw [← hw]; exact (Below.heap_setCell _ _ _ _ (by simp)).trans rr1'
      have r2 : w3.heap[w.heap.size + 1]? = some (.cells #[.int .u8 k, .int .u32 n1, .int .u32 0, .int .i64 0, .slice none 0 0] 38 (0, 0)) := by rw [← hw]; exact row_set r1' 1 _
      clear hw k1 f1 r1' b1' rr1'
      refine (H5.out _ b2).mono ?_
      rintro e w4 ⟨rfl, hB⟩
      have b2' : Ext w w4 := Ext.trans b2 hB
      have r2' := row_ext r2 hB
      have rr2' := row_ext rr2 hB
      have k2 := cells_row r2'
      have f2 := frozen_row r2'
      clear hB r2 rr2
      go_wp2_with fail
      generalize hw : (World.setCell _ _ _) = w5
      have b3 : Ext w w5 := by rw [← hw]; exact b2'.setCell (p := ⟨w.heap.size + 1, 2, none⟩) (by simp) _
      have rr3 : w5.heap[w.heap.size]? = some (.cells #[.int .u8 0, .int .u32 0, .int .u32 0, .int .i64 0, .slice none 0 0] 38 (0, 0)) := by rw [← hw]; exact (Below.heap_setCell _ _ _ _ (by simp)).trans rr2'
      have r3 : w5.heap[w.heap.size + 1]? = some (.cells #[.int .u8 k, .int .u32 n1, .int .u32 n5, .int .i64 0, .slice none 0 0] 38 (0, 0)) := by rw [← hw]; exact row_set r2' 2 _
      clear hw k2 f2 r2' b2' rr2'
      refine (H9.out _ b3).mono ?_
      rintro e w6 ⟨rfl, hB⟩
      have b4 : Ext w w6 := Ext.trans b3 hB
      have r4 := row_ext r3 hB
      have rr4 := row_ext rr3 hB
      have k4 := cells_row r4
      have f4 := frozen_row r4
      clear hB r3 rr3
      have c11' := Ext.cell b4 c11
      go_wp2
      generalize hw : (World.setCell _ _ _) = w7
      have b5 : Ext w w7 := by rw [← hw]; exact b4.setCell (p := ⟨w.heap.size + 1, 3, none⟩) (by simp) _
      have rr5 : w7.heap[w.heap.size]? = some (.cells #[.int .u8 0, .int .u32 0, .int .u32 0, .int .i64 0, .slice none 0 0] 38 (0, 0)) := by rw [← hw]; exact (Below.heap_setCell _ _ _ _ (by simp)).trans rr4
      have r5 : w7.heap[w.heap.size + 1]? = some (.cells #[.int .u8 k, .int .u32 n1, .int .u32 n5, .int .i64 n9, .slice none 0 0] 38 (0, 0)) := by rw [← hw]; exact row_set r4 3 _
      clear hw k4 f4 r4 b4 rr4
      have hgt : w.heap.size + 1 < w7.heap.size := (Array.getElem?_eq_some_iff.1 r5).1
      have cx : ∀ W, Ext w7 W → W.cell? ⟨w.heap.size + 1, 4, none⟩ = some (.slice none 0 0) := fun W hW => by rw [cells_row (row_ext r5 hW)]; rfl
      have HA : ∀ O, (O = off + 12 ∨ q = 0) → ∀ W, Ext w7 W → ∃ p, ∃ w', (Builtin.append_ #[26, 26] 26 #[.slice none 0 0, .slice (some ⟨b, O, none⟩) q (c - 12)]).run Tryz.prog W = .ok ((outB w7.heap.size q val).f p) w' ∧ (outB w7.heap.size q val).φ p w' ∧ Ext W w' := fun O hO W hW => by
        obtain ⟨i0, hi, hz0, hz1, hz2⟩ := info_parts Tryz.info_u8
        obtain ⟨A, c', e, hcc, hmm, hr⟩ := HT.out O hO W (b5.trans hW)
        simp only [Value.slice.injEq] at e
        obtain ⟨rfl, e2, rfl⟩ := e
        rw [hlv] at hr
        obtain ⟨v', w', hrun, hown, _, hbel, _⟩ := run_append_rd (P := Tryz.prog) W W.heap.size 26 26 5 i0 (.int .u8 0) 1 1 Tryz.underlying26 hi hz0 hz1 hz2 rfl (by decide) (.slice none 0 0) 0 [] (World.ownsRow_nil _ _ _ _) W.heap.size _ q _ _ hr (bvs_one _) (by omega) (by decide) (Nat.le_refl _)
        rw [Nat.zero_add, List.nil_append] at hown
        obtain ⟨p, h1, h2, h3⟩ := outB_of_own (lo := w7.heap.size) (e := .returned v') ⟨v', rfl, hown, hbel⟩ hW.size
        cases h1
        exact ⟨p, w', hrun, h2, h3⟩
      replace HA := Lib.hid HA
      clear HT
      rcases Nat.lt_or_ge 12 c with hc12 | hc12
      · skip
        refine wp_region_free (outsAt [(5, outB w7.heap.size q val)]) 7 (by kernel_rfl) (by kernel_rfl) (by kernel_rfl) (by decide) (by kernel_rfl) (by kernel_rfl) ?st ?walk
        case st => exact outsAt_stable (by simp only [List.forall_mem_cons]; exact ⟨outB_stable _ _ _, fun _ h => by cases h⟩)
        case walk =>
          intro K hK
          dsimp only [List.take]
          repeat ((first | (refine free_plain ?_ (by rfl) (by rfl) (fun W hW _ => ⟨W, ?_, Ext.refl W⟩) ?_; rotate_left; (first | (go_simp; with_reducible rfl) | (go_simp; done))) | (refine free_skip (by rfl) ?_)); try simp only [Act.put, one_f, outB_f, outNew_f, outI_f, List.setIfInBounds_toArray, List.set_cons_zero, List.set_cons_succ])
          refine free_plain (.slice (some ⟨b, off + 12, none⟩) q (c - 12)) (by rfl) (by rfl) (fun W hW _ => ⟨W, ?_, Ext.refl W⟩) ?_
          · go_simp
            rw [if_pos (by omega), if_pos (by omega), if_neg (by omega), show (12 + (q : Int)).toNat - 12 = q by omega]
          simp only [Act.put, one_f, outB_f, List.setIfInBounds_toArray, List.set_cons_zero, List.set_cons_succ]
          refine free_hard (outB w7.heap.size q val) (by rfl) (by rfl) (fun W hW _ => ?_) (fun p => ?_)
          · obtain ⟨p, w', hrun, h2, h3⟩ := HA.out (off + 12) (by simp) W hW
            refine hardAt_value (u := (outB w7.heap.size q val).f p) (w' := w') ?_ ⟨p, rfl, h2, h3⟩
            exact exec_append (s := .tmp 52) (x := .tmp 55) rfl rfl rfl hrun
          obtain ⟨A', c'⟩ := p
          simp only [Act.put, one_f, outB_f, outNew_f, outI_f, List.setIfInBounds_toArray, List.set_cons_zero, List.set_cons_succ]
          repeat ((first | (refine free_plain ?_ (by rfl) (by rfl) (fun W hW _ => ⟨W, ?_, Ext.refl W⟩) ?_; rotate_left; (first | (go_simp; with_reducible rfl) | (go_simp; done))) | (refine free_skip (by rfl) ?_)); try simp only [Act.put, one_f, outB_f, outNew_f, outI_f, List.setIfInBounds_toArray, List.set_cons_zero, List.set_cons_succ])
          refine free_nil (hK _ _ fun W hW hF => ?_)
          obtain ⟨hby, hfr⟩ : Bys W W.heap.size (.slice A' q c') val ∧ From w7.heap.size (.slice A' q c') := (hF 5).1
          clear hF hK HA cx
          have r6 := row_ext r5 hW
          have rr6 := row_ext rr5 hW
          have b6 : Ext w W := b5.trans hW
          have k6 := cells_row r6
          have f6 := frozen_row r6
          clear r5 rr5 b5
          dsimp only [List.drop]
          go_wp2_with fail
          have hby' := hby.setCell hfr (p := ⟨w.heap.size + 1, 4, none⟩) hgt (.slice A' q c')
          generalize hw : (World.setCell _ _ _) = w8 at *
          have b7 : Ext w w8 := by rw [← hw]; exact b6.setCell (p := ⟨w.heap.size + 1, 4, none⟩) (by simp) _
          have rr7 : w8.heap[w.heap.size]? = some (.cells #[.int .u8 0, .int .u32 0, .int .u32 0, .int .i64 0, .slice none 0 0] 38 (0, 0)) := by rw [← hw]; exact (Below.heap_setCell _ _ _ _ (by simp)).trans rr6
          have r7 : w8.heap[w.heap.size + 1]? = some (.cells #[.int .u8 k, .int .u32 n1, .int .u32 n5, .int .i64 n9, .slice A' q c'] 38 (0, 0)) := by rw [← hw]; exact row_set r6 4 _
          have hz8 : w8.heap.size = W.heap.size := by rw [← hw]; simp
          rw [← hz8] at hby'
          clear hw k6 f6 r6 b6 rr6 hby
          refine (imay_any k n1 n5 n9 A' q c' _).mono ?_
          rintro e w9 ⟨rfl, hB⟩
          have b8 : Below w.heap.size w w9 := Ext.trans b7 hB
          have r8 := row_ext r7 hB
          have rr8 := row_ext rr7 hB
          have hby8 := (hby'.below hB).more hB.size
          have k8 := cells_row r8
          have f8 := frozen_row r8
          have kk8 := cells_row rr8
          have ff8 := frozen_row rr8
          have hgt2 : w.heap.size < w7.heap.size := by omega
          clear hB r7 r8 rr7 rr8 hby' b7
          by_cases hok : itB n9 q = true
          · have hR : R = some (⟨k, n1, n5, n9, val⟩, 12 + q) := by rw [hq.out, if_pos hok]
            rw [hok]
            clear hok hq
            subst hR
            go_wp2
            refine bodyPost_ret (v := .tuple #[itemV k n1 n5 n9 A' q c', .int .i64 ((12 + q : Nat) : Int), .int .i64 0]) (by simp [results, Tryz.results123, go_sem, k8, kk8]) rfl ⟨_, rfl, ⟨_, rfl, ?_⟩, ?_⟩
            · refine ⟨A', c', by rw [hlv], ?_, by rw [hlv]; exact hfr.mono (by omega)⟩
              rw [hlv]
              simp only [World.size_setCell]
              exact ((((hby8.setCell hfr (p := ⟨w.heap.size, 0, none⟩) hgt2 _).setCell hfr (p := ⟨w.heap.size, 1, none⟩) hgt2 _).setCell hfr (p := ⟨w.heap.size, 2, none⟩) hgt2 _).setCell hfr (p := ⟨w.heap.size, 3, none⟩) hgt2 _).setCell hfr (p := ⟨w.heap.size, 4, none⟩) hgt2 _
            · exact (by repeat' (first | with_reducible exact Below.refl _ _ | with_reducible assumption | with_reducible apply Below.drew | with_reducible apply below_drewN | with_reducible refine Below.alloc ?_ ?_ _ | with_reducible refine Below.setCell ?_ ?_ _ | (simp; done) | (simp; omega) | omega))
          · have hR : R = none := by rw [hq.out, if_neg hok]
            have hok' : itB n9 q = false := by simpa using hok
            rw [hok']
            clear hok hok' hq
            subst hR
            go_wp2
            refine bodyPost_ret (v := noIt) (by simp [results, Tryz.results123, go_sem, kk8]) rfl ⟨_, rfl, rfl, ?_⟩
            exact (by repeat' (first | with_reducible exact Below.refl _ _ | with_reducible assumption | with_reducible apply Below.drew | with_reducible apply below_drewN | with_reducible refine Below.alloc ?_ ?_ _ | with_reducible refine Below.setCell ?_ ?_ _ | (simp; done) | (simp; omega) | omega))
      · (obtain ⟨rfl,  rfl⟩ : c = 12 ∧ q = 0 := by omega)
        refine wp_region_free (outsAt [(5, outB w7.heap.size 0 val)]) 7 (by kernel_rfl) (by kernel_rfl) (by kernel_rfl) (by decide) (by kernel_rfl) (by kernel_rfl) ?st ?walk
        case st => exact outsAt_stable (by simp only [List.forall_mem_cons]; exact ⟨outB_stable _ _ _, fun _ h => by cases h⟩)
        case walk =>
          intro K hK
          dsimp only [List.take]
          repeat ((first | (refine free_plain ?_ (by rfl) (by rfl) (fun W hW _ => ⟨W, ?_, Ext.refl W⟩) ?_; rotate_left; (first | (go_simp; with_reducible rfl) | (go_simp; done))) | (refine free_skip (by rfl) ?_)); try simp only [Act.put, one_f, outB_f, outNew_f, outI_f, List.setIfInBounds_toArray, List.set_cons_zero, List.set_cons_succ])
          skip
          refine free_hard (outB w7.heap.size 0 val) (by rfl) (by rfl) (fun W hW _ => ?_) (fun p => ?_)
          · obtain ⟨p, w', hrun, h2, h3⟩ := HA.out (off) (by simp) W hW
            refine hardAt_value (u := (outB w7.heap.size 0 val).f p) (w' := w') ?_ ⟨p, rfl, h2, h3⟩
            exact exec_append (s := .tmp 52) (x := .tmp 55) rfl rfl rfl hrun
          obtain ⟨A', c'⟩ := p
          simp only [Act.put, one_f, outB_f, outNew_f, outI_f, List.setIfInBounds_toArray, List.set_cons_zero, List.set_cons_succ]
          repeat ((first | (refine free_plain ?_ (by rfl) (by rfl) (fun W hW _ => ⟨W, ?_, Ext.refl W⟩) ?_; rotate_left; (first | (go_simp; with_reducible rfl) | (go_simp; done))) | (refine free_skip (by rfl) ?_)); try simp only [Act.put, one_f, outB_f, outNew_f, outI_f, List.setIfInBounds_toArray, List.set_cons_zero, List.set_cons_succ])
          refine free_nil (hK _ _ fun W hW hF => ?_)
          obtain ⟨hby, hfr⟩ : Bys W W.heap.size (.slice A' 0 c') val ∧ From w7.heap.size (.slice A' 0 c') := (hF 5).1
          clear hF hK HA cx
          have r6 := row_ext r5 hW
          have rr6 := row_ext rr5 hW
          have b6 : Ext w W := b5.trans hW
          have k6 := cells_row r6
          have f6 := frozen_row r6
          clear r5 rr5 b5
          dsimp only [List.drop]
          go_wp2_with fail
          have hby' := hby.setCell hfr (p := ⟨w.heap.size + 1, 4, none⟩) hgt (.slice A' 0 c')
          generalize hw : (World.setCell _ _ _) = w8 at *
          have b7 : Ext w w8 := by rw [← hw]; exact b6.setCell (p := ⟨w.heap.size + 1, 4, none⟩) (by simp) _
          have rr7 : w8.heap[w.heap.size]? = some (.cells #[.int .u8 0, .int .u32 0, .int .u32 0, .int .i64 0, .slice none 0 0] 38 (0, 0)) := by rw [← hw]; exact (Below.heap_setCell _ _ _ _ (by simp)).trans rr6
          have r7 : w8.heap[w.heap.size + 1]? = some (.cells #[.int .u8 k, .int .u32 n1, .int .u32 n5, .int .i64 n9, .slice A' 0 c'] 38 (0, 0)) := by rw [← hw]; exact row_set r6 4 _
          have hz8 : w8.heap.size = W.heap.size := by rw [← hw]; simp
          rw [← hz8] at hby'
          clear hw k6 f6 r6 b6 rr6 hby
          refine (imay_any k n1 n5 n9 A' 0 c' _).mono ?_
          rintro e w9 ⟨rfl, hB⟩
          have b8 : Below w.heap.size w w9 := Ext.trans b7 hB
          have r8 := row_ext r7 hB
          have rr8 := row_ext rr7 hB
          have hby8 := (hby'.below hB).more hB.size
          have k8 := cells_row r8
          have f8 := frozen_row r8
          have kk8 := cells_row rr8
          have ff8 := frozen_row rr8
          have hgt2 : w.heap.size < w7.heap.size := by omega
          clear hB r7 r8 rr7 rr8 hby' b7
          by_cases hok : itB n9 0 = true
          · have hR : R = some (⟨k, n1, n5, n9, val⟩, 12 + 0) := by rw [hq.out, if_pos hok]
            rw [hok]
            clear hok hq
            subst hR
            go_wp2
            refine bodyPost_ret (v := .tuple #[itemV k n1 n5 n9 A' 0 c', .int .i64 ((12 + 0 : Nat) : Int), .int .i64 0]) (by simp [results, Tryz.results123, go_sem, k8, kk8]) rfl ⟨_, rfl, ⟨_, rfl, ?_⟩, ?_⟩
            · refine ⟨A', c', by rw [hlv], ?_, by rw [hlv]; exact hfr.mono (by omega)⟩
              rw [hlv]
              simp only [World.size_setCell]
              exact ((((hby8.setCell hfr (p := ⟨w.heap.size, 0, none⟩) hgt2 _).setCell hfr (p := ⟨w.heap.size, 1, none⟩) hgt2 _).setCell hfr (p := ⟨w.heap.size, 2, none⟩) hgt2 _).setCell hfr (p := ⟨w.heap.size, 3, none⟩) hgt2 _).setCell hfr (p := ⟨w.heap.size, 4, none⟩) hgt2 _
            · exact (by repeat' (first | with_reducible exact Below.refl _ _ | with_reducible assumption | with_reducible apply Below.drew | with_reducible apply below_drewN | with_reducible refine Below.alloc ?_ ?_ _ | with_reducible refine Below.setCell ?_ ?_ _ | (simp; done) | (simp; omega) | omega))
          · have hR : R = none := by rw [hq.out, if_neg hok]
            have hok' : itB n9 0 = false := by simpa using hok
            rw [hok']
            clear hok hok' hq
            subst hR
            go_wp2
            refine bodyPost_ret (v := noIt) (by simp [results, Tryz.results123, go_sem, kk8]) rfl ⟨_, rfl, rfl, ?_⟩
            exact (by repeat' (first | with_reducible exact Below.refl _ _ | with_reducible assumption | with_reducible apply Below.drew | with_reducible apply below_drewN | with_reducible refine Below.alloc ?_ ?_ _ | with_reducible refine Below.setCell ?_ ?_ _ | (simp; done) | (simp; omega) | omega))
end Go.Proofs.YtckhnchnbeoogaaGreat
/- Nodes: how their items lie in memory; plain laws of checking. -/
namespace Go.Proofs.YtckhnchnbeoogaaGreat
set_option linter.unusedSimpArgs false
set_option linter.unusedVariables false
open Go.RowKit

def cells5 : List (It × Value) → List Value
  | [] => []
  | p :: r => .int .u8 p.1.k :: .int .u32 p.1.i :: .int .u32 p.1.o :: .int .i64 p.1.r :: p.2 :: cells5 r
theorem cells5_append (ps qs : List (It × Value)) : cells5 (ps ++ qs) = cells5 ps ++ cells5 qs := by
  induction ps with
  | nil => rfl
  | cons p r ih => simp [cells5, ih]
theorem cells5_at (ps : List (It × Value)) : ∀ i (h : i < ps.length), (cells5 ps)[i * 5]? = some (.int .u8 ps[i].1.k) ∧ (cells5 ps)[i * 5 + 1]? = some (.int .u32 ps[i].1.i) ∧ (cells5 ps)[i * 5 + 2]? = some (.int .u32 ps[i].1.o) ∧ (cells5 ps)[i * 5 + 3]? = some (.int .i64 ps[i].1.r) ∧ (cells5 ps)[i * 5 + 4]? = some ps[i].2 := by
  induction ps with
  | nil => intro i h; simp at h
  | cons p r ih =>
    intro i h
    rcases i with _ | i
    · simp [cells5]
    · have := ih i (by simpa using h)
      rw [show (i + 1) * 5 = i * 5 + 5 by omega]
      simpa [cells5] using this
def Its (w : World) (B : Nat) (v : Value) (xs : List It) : Prop :=
  ∃ ps : List (It × Value), ps.map (·.1) = xs ∧ (∃ A c, v = .slice A xs.length c ∧ xs.length ≤ c ∧ c ≤ maxLen ∧ Rd w B 5 A xs.length (cells5 ps)) ∧ ∀ p ∈ ps, (∃ A c, p.2 = .slice A p.1.val.length c) ∧ Bys w B p.2 p.1.val
theorem Its.below {w w' : World} {B : Nat} {v : Value} {xs : List It} (h : Its w B v xs) (hb : Below B w w') : Its w' B v xs := by
  obtain ⟨ps, e, ⟨A, c, e1, e2, e3, hr⟩, hp⟩ := h
  exact ⟨ps, e, ⟨A, c, e1, e2, e3, hr.below hb⟩, fun p h => ⟨(hp p h).1, (hp p h).2.below hb⟩⟩
theorem Its.more {w : World} {B B' : Nat} {v : Value} {xs : List It} (h : Its w B v xs) (hb : B ≤ B') : Its w B' v xs := by
  obtain ⟨ps, e, ⟨A, c, e1, e2, e3, hr⟩, hp⟩ := h
  exact ⟨ps, e, ⟨A, c, e1, e2, e3, hr.more hb⟩, fun p h => ⟨(hp p h).1, (hp p h).2.more hb⟩⟩
theorem Its.ext {w w' : World} {v : Value} {xs : List It} (h : Its w w.heap.size v xs) (hb : Ext w w') : Its w' w'.heap.size v xs := (h.below hb).more hb.size
theorem Its.nil (w : World) (B : Nat) : Its w B (.slice none 0 0) [] := ⟨[], rfl, ⟨none, 0, rfl, Nat.le_refl _, by simp [maxLen], Rd.none_⟩, fun p h => by cases h⟩
theorem Its.at_ {w : World} {B : Nat} {A : Option Addr} {n c : Nat} {xs : List It} (h : Its w B (.slice A n c) xs) : n = xs.length ∧ n ≤ c ∧ c ≤ maxLen ∧ (0 < n → ∃ b off, A = some ⟨b, off, none⟩ ∧ b < B) := by
  obtain ⟨ps, e, ⟨A', c', e1, e2, e3, hr⟩, hp⟩ := h
  cases e1
  refine ⟨rfl, e2, e3, fun hn => ?_⟩
  obtain ⟨b, off, e, hb, _⟩ := hr.2 hn
  exact ⟨b, off, e, hb⟩
def ItAt (w : World) (B b o : Nat) (x : It) (A : Option Addr) (c : Nat) : Prop :=
  w.cell? ⟨b, o, none⟩ = some (.int .u8 x.k) ∧ w.cell? ⟨b, o + 1, none⟩ = some (.int .u32 x.i) ∧ w.cell? ⟨b, o + 2, none⟩ = some (.int .u32 x.o) ∧ w.cell? ⟨b, o + 3, none⟩ = some (.int .i64 x.r) ∧ w.cell? ⟨b, o + 4, none⟩ = some (.slice A x.val.length c) ∧ Bys w B (.slice A x.val.length c) x.val
theorem Its.item {w : World} {B b off n c : Nat} {xs : List It} (h : Its w B (.slice (some ⟨b, off, none⟩) n c) xs) (i : Nat) (hi : i < xs.length) : ∃ A' c', ItAt w B b (off + i * 5) xs[i] A' c' := by
  obtain ⟨ps, e, ⟨A, c', e1, e2, e3, hr⟩, hp⟩ := h
  cases e1
  subst e
  have hi' : i < ps.length := by simpa using hi
  obtain ⟨b', off', e, hb, hc⟩ := hr.2 (by omega)
  cases e
  obtain ⟨c0, c1, c2, c3, c4⟩ := cells5_at ps i hi'
  obtain ⟨⟨A', c', e5⟩, hby⟩ := hp ps[i] (List.getElem_mem hi')
  rw [e5] at c4 hby
  refine ⟨A', c', ?_⟩
  simp only [List.getElem_map]
  refine ⟨hc _ _ c0, ?_, ?_, ?_, ?_, hby⟩
  · rw [Nat.add_assoc]; exact hc _ _ c1
  · rw [Nat.add_assoc]; exact hc _ _ c2
  · rw [Nat.add_assoc]; exact hc _ _ c3
  · rw [Nat.add_assoc]; exact hc _ _ c4

def lessIt (a b : It) : Bool := lessB a.k a.i a.o b.k b.i b.o
def chkAt (above : Bool) (xs : List It) (i : Nat) : Bool :=
  match xs[i]? with
  | none => true
  | some x => itB x.r x.val.length && (decide (i = 0) || (match xs[i - 1]? with | some y => lessIt y x | none => true)) && !(above && (decide (x.r = 0) || decide (0 < x.val.length)))
def chkAll (above : Bool) (xs : List It) (k : Nat) : Bool := (List.range k).all (chkAt above xs)
theorem chkAll_succ (above : Bool) (xs : List It) (k : Nat) : chkAll above xs (k + 1) = (chkAll above xs k && chkAt above xs k) := by simp [chkAll, List.range_succ]
theorem chkAll_bad {above : Bool} {xs : List It} {k : Nat} (hk : k < xs.length) (h : chkAt above xs k = false) : chkAll above xs xs.length = false := by
  unfold chkAll
  rw [List.all_eq_false]
  exact ⟨k, List.mem_range.2 hk, by simp [h]⟩
def headB (lvl : Int) (n : Nat) : Bool := decide (0 ≤ lvl ∧ lvl < 6 ∧ n ≤ 5 ∧ (0 < lvl → n ≠ 0))
def nodeMay (lvl : Int) (xs : List It) : Bool := headB lvl xs.length && chkAll (decide (0 < lvl)) xs xs.length

abbrev nodeV (lvl : Int) (A : Option Addr) (n c : Nat) : Value := .agg #[.int .i64 lvl, .slice A n c]

set_option maxHeartbeats 1000000 in
theorem ncheck_head (lvl : Int) (A : Option Addr) (n c : Nat) (h : headB lvl n = false) (w : World) :
    Calls Tryz.prog 117 #[nodeV lvl A n c] w (Ret (.int .i64 8) w) := by
  have h' : ¬(0 ≤ lvl ∧ lvl < 6 ∧ n ≤ 5 ∧ (0 < lvl → n ≠ 0)) := by simpa [headB] using h
  clear h
  go_enter Tryz.func117, Tryz.ntmps117
  go_wp2
  all_goals simp only [beq_iff_eq, beq_eq_false_iff_ne, ne_eq] at *
  all_goals first | (exfalso; omega) | skip
  all_goals go_ret
  all_goals exact ⟨rfl, (by repeat' (first | with_reducible exact Below.refl _ _ | with_reducible assumption | with_reducible apply Below.drew | with_reducible apply below_drewN | with_reducible refine Below.alloc ?_ ?_ _ | with_reducible refine Below.setCell ?_ ?_ _ | (simp; done) | (simp; omega) | omega))⟩
end Go.Proofs.YtckhnchnbeoogaaGreat
