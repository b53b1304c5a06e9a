/- Texts ItRead, HeapC, App, ItReadR, Node, joined. -/
import Derived.Test.YteikcgjhcniiiaaU01
import Derived.Test.YteikcgjhcniiiaaU03
/- Contracts: an item that bytes begin with. -/
namespace Go.Proofs.Yteikcgjhcniiiaa
set_option linter.unusedSimpArgs false
set_option linter.unusedVariables false
open Go.RowKit

/-- an item -/
structure It where
  k : Int
  i : Int
  o : Int
  r : Int
  val : List UInt8
deriving DecidableEq
/-- how many bytes an item has -/
def szOf (l : List UInt8) : Nat := 12 + (l[11]?.getD 0).toNat
def itAt (l : List UInt8) : It := ⟨((l[0]?.getD 0).toNat : Int), numAt l 1 4, numAt l 5 4, numAt l 9 2, (l.drop 12).take (szOf l - 12)⟩
/-- the item that bytes begin with, and how many it has -/
def itemRead (l : List UInt8) : Option (It × Nat) :=
  if l.length < 12 ∨ l.length < szOf l then none else if itB (itAt l).r (szOf l - 12) then some (itAt l, szOf l) else none
abbrev noIt : Value := .tuple #[itemV 0 0 0 0 none 0 0, .int .i64 0, .int .i64 8]
/-- what reading an item tells -/
def ReadP (lo : Nat) (q : Option (It × Nat)) (u : Value) (W : World) : Prop :=
  match q with
  | none => u = noIt
  | some (x, n) => ∃ i, u = .tuple #[i, .int .i64 (n : Int), .int .i64 0] ∧ IsI lo x.k x.i x.o x.r x.val i W

theorem row_set {w : World} {b : Nat} {cs : Array Value} {t : TypeId} (h : w.heap[b]? = some (.cells cs t (0, 0))) (i : Nat) (v : Value) : (w.setCell ⟨b, i, none⟩ v).heap[b]? = some (.cells (cs.setIfInBounds i v) t (0, 0)) := by
  rw [setCell_eq_setRow _ _ _ _ _ _ _ h, setRow_heap _ _ _ _ _ _ h]
theorem row_ext {w w' : World} {b : Nat} {o : Obj} (h : w.heap[b]? = some o) (hx : Ext w w') : w'.heap[b]? = some o := (Below.block hx _ (Array.getElem?_eq_some_iff.1 h).1).trans h

/-- s[a : e : e] -/
theorem Bys.sub3 {w : World} {B a k : Nat} {b off m c : Nat} {l : List UInt8} (h : Bys w B (.slice (some ⟨b, off, none⟩) m c) l) (hk : a + k ≤ l.length) :
    Bys w B (.slice (some ⟨b, off + a, none⟩) k k) ((l.drop a).take k) := by
  obtain ⟨A, c', e, hc, hm, hr⟩ := h.sub hk
  have hl : ((l.drop a).take k).length = k := by simp; omega
  simp only [Value.slice.injEq] at e
  obtain ⟨rfl, e2, rfl⟩ := e
  rw [hl] at hr hc
  refine ⟨_, k, by rw [hl], by omega, by omega, by rw [hl]; exact hr⟩

set_option maxHeartbeats 2000000 in
theorem iread_any (v : Value) (l : List UInt8) (hl : l.length < 1000) (w : World) (h : Bys w w.heap.size v l) :
    Calls Try.prog 154 #[v] w (RetS (ReadP w.heap.size (itemRead l)) w) := by
  obtain ⟨A, m, c, rfl⟩ : ∃ A m c, v = .slice A m c := by obtain ⟨A, c, e, _⟩ := h; exact ⟨_, _, _, e⟩
  obtain ⟨e1, hc, hm, hA⟩ := h.at_
  by_cases h12 : l.length < 12
  · have hq : itemRead l = none := by unfold itemRead; rw [if_pos (.inl h12)]
    rw [hq]
    clear h
    subst e1
    go_enter Try.func154, Try.ntmps154
    go_wp2
    refine bodyPost_ret (v := noIt) (by simp [results, Try.results154, go_sem]) rfl ⟨_, rfl, rfl, (by repeat' (first | with_reducible exact Below.refl _ _ | with_reducible assumption | with_reducible apply Below.drew | with_reducible apply below_drewN | with_reducible refine Below.alloc ?_ ?_ _ | with_reducible refine Below.setCell ?_ ?_ _ | (simp; done) | (simp; omega) | omega))⟩
  · obtain ⟨b, off, rfl, hb⟩ := hA (by omega)
    have hcell : ∀ j u, (l.map bv)[j]? = some u → w.cell? ⟨b, off + j, none⟩ = some u := by
      obtain ⟨A, c', e, _, _, hr⟩ := h
      cases e
      obtain ⟨b', off', e, _, hcell⟩ := hr.2 (by omega)
      cases e
      exact hcell
    have c0 : w.cell? ⟨b, off, none⟩ = some (.int .u8 ((l[0]?.getD 0).toNat : Int)) := hcell 0 _ (by rw [List.getElem?_map, List.getElem?_eq_getElem (by omega)]; rfl)
    have c11 : w.cell? ⟨b, off + 11, none⟩ = some (.int .u8 ((l[11]?.getD 0).toNat : Int)) := hcell 11 _ (by rw [List.getElem?_map, List.getElem?_eq_getElem (by omega)]; rfl)
    have hs : szOf l = 12 + (l[11]?.getD 0).toNat := rfl
    have u0 := (l[0]?.getD 0).toNat_lt
    have u11 := (l[11]?.getD 0).toNat_lt
    clear hcell hA
    have hbw : b ≠ w.heap.size := by omega
    by_cases hsz : l.length < szOf l
    · have hq : itemRead l = none := by unfold itemRead; rw [if_pos (.inr hsz)]
      rw [hq]
      clear h
      subst e1
      generalize (l[11]?.getD 0).toNat = q at *
      go_enter Try.func154, Try.ntmps154
      go_wp2
      refine bodyPost_ret (v := noIt) (by simp [results, Try.results154, go_sem]) rfl ⟨_, rfl, rfl, (by repeat' (first | with_reducible exact Below.refl _ _ | with_reducible assumption | with_reducible apply Below.drew | with_reducible apply below_drewN | with_reducible refine Below.alloc ?_ ?_ _ | with_reducible refine Below.setCell ?_ ?_ _ | (simp; done) | (simp; omega) | omega))⟩
    · have h48 : Bys w w.heap.size (.slice (some ⟨b, off + 12, none⟩) (szOf l - 12) (szOf l - 12)) ((l.drop 12).take (szOf l - 12)) := h.sub3 (by omega)
      have hlv : ((l.drop 12).take (szOf l - 12)).length = szOf l - 12 := by simp; omega
      have H1 : ∀ W, Ext w W → _ := fun W hW => getfour_any _ l 1 (by omega) W ((h.below hW).more hW.size)
      have H5 : ∀ W, Ext w W → _ := fun W hW => getfour_any _ l 5 (by omega) W ((h.below hW).more hW.size)
      have H9 : ∀ W, Ext w W → _ := fun W hW => gettwo_any _ l 9 (by omega) W ((h.below hW).more hW.size)
      have hq : itemRead l = if itB (itAt l).r (szOf l - 12) then some (itAt l, szOf l) else none := by unfold itemRead; rw [if_neg (by omega)]
      have hi : itAt l = ⟨((l[0]?.getD 0).toNat : Int), numAt l 1 4, numAt l 5 4, numAt l 9 2, (l.drop 12).take (szOf l - 12)⟩ := rfl
      rw [hi] at hq
      generalize itemRead l = R at *
      generalize numAt l 1 4 = n1 at *
      generalize numAt l 5 4 = n5 at *
      generalize numAt l 9 2 = n9 at *
      generalize hval : (l.drop 12).take (szOf l - 12) = val at *
      have h48' : ∀ O, (O = off + 12 ∨ szOf l - 12 = 0) → Bys w w.heap.size (.slice (some ⟨b, O, none⟩) (szOf l - 12) (szOf l - 12)) val := by
        rintro O (rfl | h0)
        · exact h48
        · rw [h0] at hlv ⊢
          obtain rfl : val = [] := List.eq_nil_of_length_eq_zero hlv
          exact ⟨_, _, rfl, Nat.le_refl _, by simp [maxLen], rfl, fun h => absurd h (by simp)⟩
      have HT : ∀ O, (O = off + 12 ∨ szOf l - 12 = 0) → ∀ W, Ext w W → _ := fun O hO W hW => itwin_any ((l[0]?.getD 0).toNat : Int) n1 n5 n9 _ _ _ val (by omega) W (((h48' O hO).below hW).more hW.size)
      clear h h48 h48' hval hi
      subst e1
      rw [hs] at *
      clear hs
      generalize (l[11]?.getD 0).toNat = q at *
      generalize (l[0]?.getD 0).toNat = k at *
      have e12 : 12 + q - 12 = q := by omega
      rw [e12] at hq HT hlv
      replace hq := Lib.hid hq
      replace H1 := Lib.hid H1
      replace H5 := Lib.hid H5
      replace H9 := Lib.hid H9
      replace HT := Lib.hid HT
      unfold maxLen at hm
      go_enter Try.func154, Try.ntmps154
      go_wp2_with fail
      generalize hw1 : (World.alloc _ _) = w1
      have b1 : Ext w w1 := by rw [← hw1]; exact Ext.alloc _ _
      have r1 : w1.heap[w.heap.size]? = some (.cells #[.int .u8 k, .int .u32 0, .int .u32 0, .int .i64 0, .slice none 0 0] 155 (0, 0)) := by rw [← hw1]; exact World.alloc_heap_at _ _ _ rfl
      clear hw1
      refine (H1.out _ b1).mono ?_
      rintro e w2 ⟨rfl, hB⟩
      have b1' : Ext w w2 := Ext.trans b1 hB
      have r1' := row_ext r1 hB
      have k1 := cells_row r1'
      have f1 := frozen_row r1'
      clear hB r1
      go_wp2_with fail
      generalize hw : (World.setCell _ _ _) = w3
      have b2 : Ext w w3 := by rw [← hw]; exact b1'.setCell (p := ⟨w.heap.size, 1, none⟩) (Nat.le_refl _) _
      have r2 : w3.heap[w.heap.size]? = some (.cells #[.int .u8 k, .int .u32 n1, .int .u32 0, .int .i64 0, .slice none 0 0] 155 (0, 0)) := by rw [← hw]; exact row_set r1' 1 _
      clear hw k1 f1 r1' b1'
      refine (H5.out _ b2).mono ?_
      rintro e w4 ⟨rfl, hB⟩
      have b2' : Ext w w4 := Ext.trans b2 hB
      have r2' := row_ext r2 hB
      have k2 := cells_row r2'
      have f2 := frozen_row r2'
      clear hB r2
      go_wp2_with fail
      generalize hw : (World.setCell _ _ _) = w5
      have b3 : Ext w w5 := by rw [← hw]; exact b2'.setCell (p := ⟨w.heap.size, 2, none⟩) (Nat.le_refl _) _
      have r3 : w5.heap[w.heap.size]? = some (.cells #[.int .u8 k, .int .u32 n1, .int .u32 n5, .int .i64 0, .slice none 0 0] 155 (0, 0)) := by rw [← hw]; exact row_set r2' 2 _
      clear hw k2 f2 r2' b2'
      refine (H9.out _ b3).mono ?_
      rintro e w6 ⟨rfl, hB⟩
      have b4 : Ext w w6 := Ext.trans b3 hB
      have r4 := row_ext r3 hB
      have k4 := cells_row r4
      have f4 := frozen_row r4
      clear hB r3
      rcases Nat.eq_zero_or_pos q with hq0 | hq0
      · subst hq0
        go_wp2_with fail
        generalize hw : (World.setCell (World.setCell _ _ _) _ _) = w7
        have b5 : Ext w w7 := by rw [← hw]; exact Below.setCell (Below.setCell b4 (p := ⟨w.heap.size, 3, none⟩) (Nat.le_refl _) _) (p := ⟨w.heap.size, 4, none⟩) (Nat.le_refl _) _
        have r5 : w7.heap[w.heap.size]? = some (.cells #[.int .u8 k, .int .u32 n1, .int .u32 n5, .int .i64 n9, .slice (some ⟨b, off, none⟩) 0 0] 155 (0, 0)) := by rw [← hw]; exact row_set (row_set r4 3 _) 4 _
        clear hw k4 f4 r4 b4
        refine (icheck_any k n1 n5 n9 _ 0 0 _).mono ?_
        rintro e w8 ⟨rfl, hB⟩
        have b6 : Ext w w8 := Ext.trans b5 hB
        have r6 := row_ext r5 hB
        have k6 := cells_row r6
        have f6 := frozen_row r6
        have hgt : w.heap.size < w8.heap.size := (Array.getElem?_eq_some_iff.1 r6).1
        clear hB r5 b5
        by_cases hok : itB n9 0 = true
        · have hR : R = some (⟨k, n1, n5, n9, val⟩, 12 + 0) := by rw [hq.out, if_pos hok]
          rw [errOf_t hok]
          clear hok hq
          subst hR
          go_wp2_with fail
          refine (HT.out (off) (by simp) _ b6).mono ?_
          rintro e w9 ⟨u, rfl, ⟨A', c', rfl, hby, hfr⟩, hB⟩
          have b7 : Ext w w9 := Ext.trans b6 hB
          have r7 := row_ext r6 hB
          have k7 := cells_row r7
          have f7 := frozen_row r7
          clear k6 f6 r6
          rw [hlv] at hby hfr ⊢
          go_wp2
          refine bodyPost_ret (v := .tuple #[itemV k n1 n5 n9 A' 0 c', .int .i64 ((12 + 0 : Nat) : Int), .int .i64 0]) (by simp [results, Try.results154, go_sem, k7]) rfl ⟨_, rfl, ⟨_, rfl, ?_⟩, ?_⟩
          · refine ⟨A', c', by rw [hlv], ?_, by rw [hlv]; exact hfr.mono b6.size⟩
            rw [hlv]
            simp only [World.size_setCell]
            exact ((((hby.setCell hfr (p := ⟨w.heap.size, 0, none⟩) hgt _).setCell hfr (p := ⟨w.heap.size, 1, none⟩) hgt _).setCell hfr (p := ⟨w.heap.size, 2, none⟩) hgt _).setCell hfr (p := ⟨w.heap.size, 3, none⟩) hgt _).setCell hfr (p := ⟨w.heap.size, 4, none⟩) hgt _
          · have b7' : Below w.heap.size w w9 := b7
            exact (by repeat' (first | with_reducible exact Below.refl _ _ | with_reducible assumption | with_reducible apply Below.drew | with_reducible apply below_drewN | with_reducible refine Below.alloc ?_ ?_ _ | with_reducible refine Below.setCell ?_ ?_ _ | (simp; done) | (simp; omega) | omega))
        · have hR : R = none := by rw [hq.out, if_neg hok]
          rw [errOf_f (by simpa using hok)]
          clear hok hq
          subst hR
          go_wp2
          refine bodyPost_ret (v := noIt) (by simp [results, Try.results154, go_sem, k6]) rfl ⟨_, rfl, rfl, ?_⟩
          have b6' : Below w.heap.size w w8 := b6
          exact (by repeat' (first | with_reducible exact Below.refl _ _ | with_reducible assumption | with_reducible apply Below.drew | with_reducible apply below_drewN | with_reducible refine Below.alloc ?_ ?_ _ | with_reducible refine Below.setCell ?_ ?_ _ | (simp; done) | (simp; omega) | omega))
      · skip
        go_wp2_with fail
        generalize hw : (World.setCell (World.setCell _ _ _) _ _) = w7
        have b5 : Ext w w7 := by rw [← hw]; exact Below.setCell (Below.setCell b4 (p := ⟨w.heap.size, 3, none⟩) (Nat.le_refl _) _) (p := ⟨w.heap.size, 4, none⟩) (Nat.le_refl _) _
        have r5 : w7.heap[w.heap.size]? = some (.cells #[.int .u8 k, .int .u32 n1, .int .u32 n5, .int .i64 n9, .slice (some ⟨b, off + 12, none⟩) q q] 155 (0, 0)) := by rw [← hw]; exact row_set (row_set r4 3 _) 4 _
        clear hw k4 f4 r4 b4
        refine (icheck_any k n1 n5 n9 _ q q _).mono ?_
        rintro e w8 ⟨rfl, hB⟩
        have b6 : Ext w w8 := Ext.trans b5 hB
        have r6 := row_ext r5 hB
        have k6 := cells_row r6
        have f6 := frozen_row r6
        have hgt : w.heap.size < w8.heap.size := (Array.getElem?_eq_some_iff.1 r6).1
        clear hB r5 b5
        by_cases hok : itB n9 q = true
        · have hR : R = some (⟨k, n1, n5, n9, val⟩, 12 + q) := by rw [hq.out, if_pos hok]
          rw [errOf_t hok]
          clear hok hq
          subst hR
          go_wp2_with fail
          refine (HT.out (off + 12) (by simp) _ b6).mono ?_
          rintro e w9 ⟨u, rfl, ⟨A', c', rfl, hby, hfr⟩, hB⟩
          have b7 : Ext w w9 := Ext.trans b6 hB
          have r7 := row_ext r6 hB
          have k7 := cells_row r7
          have f7 := frozen_row r7
          clear k6 f6 r6
          rw [hlv] at hby hfr ⊢
          go_wp2
          refine bodyPost_ret (v := .tuple #[itemV k n1 n5 n9 A' q c', .int .i64 ((12 + q : Nat) : Int), .int .i64 0]) (by simp [results, Try.results154, go_sem, k7]) rfl ⟨_, rfl, ⟨_, rfl, ?_⟩, ?_⟩
          · refine ⟨A', c', by rw [hlv], ?_, by rw [hlv]; exact hfr.mono b6.size⟩
            rw [hlv]
            simp only [World.size_setCell]
            exact ((((hby.setCell hfr (p := ⟨w.heap.size, 0, none⟩) hgt _).setCell hfr (p := ⟨w.heap.size, 1, none⟩) hgt _).setCell hfr (p := ⟨w.heap.size, 2, none⟩) hgt _).setCell hfr (p := ⟨w.heap.size, 3, none⟩) hgt _).setCell hfr (p := ⟨w.heap.size, 4, none⟩) hgt _
          · have b7' : Below w.heap.size w w9 := b7
            exact (by repeat' (first | with_reducible exact Below.refl _ _ | with_reducible assumption | with_reducible apply Below.drew | with_reducible apply below_drewN | with_reducible refine Below.alloc ?_ ?_ _ | with_reducible refine Below.setCell ?_ ?_ _ | (simp; done) | (simp; omega) | omega))
        · have hR : R = none := by rw [hq.out, if_neg hok]
          rw [errOf_f (by simpa using hok)]
          clear hok hq
          subst hR
          go_wp2
          refine bodyPost_ret (v := noIt) (by simp [results, Try.results154, go_sem, k6]) rfl ⟨_, rfl, rfl, ?_⟩
          have b6' : Below w.heap.size w w8 := b6
          exact (by repeat' (first | with_reducible exact Below.refl _ _ | with_reducible assumption | with_reducible apply Below.drew | with_reducible apply below_drewN | with_reducible refine Below.alloc ?_ ?_ _ | with_reducible refine Below.setCell ?_ ?_ _ | (simp; done) | (simp; omega) | omega))
end Go.Proofs.Yteikcgjhcniiiaa
/- Contracts: a piece cut out of new memory. -/
namespace Go.Proofs.Yteikcgjhcniiiaa
set_option linter.unusedSimpArgs false
set_option linter.unusedVariables false
open Go.RowKit

/-- what lies in block g behind a copy to place o -/
def laidAt (cur : Array Value) (o : Nat) (l : List UInt8) : Array Value := (cur.toList.take o ++ l.map bv ++ cur.toList.drop (o + l.length)).toArray
theorem laidAt_size {cur : Array Value} {o : Nat} {l : List UInt8} (h : o + l.length ≤ cur.size) : (laidAt cur o l).size = cur.size := by
  simp [laidAt]
  omega
theorem laidAt_old {cur : Array Value} {o : Nat} {l : List UInt8} {j : Nat} (h : o + l.length ≤ cur.size) (hj : j < o ∨ o + l.length ≤ j) : (laidAt cur o l)[j]? = cur[j]? := by
  unfold laidAt
  rw [List.getElem?_toArray]
  have hcl : cur.toList.length = cur.size := by simp
  rcases hj with hj | hj
  · rw [List.append_assoc, List.getElem?_append_left (by rw [List.length_take]; omega), List.getElem?_take, if_pos hj]
    simp
  · rw [List.getElem?_append_right (by rw [List.length_append, List.length_take, List.length_map]; omega), List.getElem?_drop, List.length_append, List.length_take, List.length_map, hcl]
    rw [show o + l.length + (j - (min o cur.size + l.length)) = j by omega]
    simp
theorem laidAt_new {cur : Array Value} {o : Nat} {l : List UInt8} {j : Nat} {u : Value} (h : o + l.length ≤ cur.size) (hu : (l.map bv)[j]? = some u) : (laidAt cur o l)[o + j]? = some u := by
  have hj : j < l.length := by
    have := (List.getElem?_eq_some_iff.1 hu).1
    simpa using this
  have hcl : cur.toList.length = cur.size := by simp
  unfold laidAt
  rw [List.getElem?_toArray, List.append_assoc, List.getElem?_append_right (by rw [List.length_take]; omega), List.length_take, hcl, show o + j - min o cur.size = j by omega, List.getElem?_append_left (by rw [List.length_map]; exact hj)]
  exact hu

/-- the memory that is left is in box hb: n bytes of block g (its cells: cur) from o on -/
structure HeapB (hb g o n : Nat) (cur : Array Value) (w : World) : Prop where
  box : w.heap[hb]? = some (.cells #[.slice (some ⟨g, o, none⟩) n n] 198 (0, 0))
  row : w.heap[g]? = some (.cells cur 5 (0, 0))
  ne : hb ≠ g
  fit : o + n ≤ cur.size
  few : n < 1000000000000000

def CloneQ (hb g o n : Nat) (cur : Array Value) (l : List UInt8) (w : World) (e : Ending) (w' : World) : Prop := ∃ o', e = .returned (.slice (some ⟨g, o, none⟩) l.length l.length) ∧ (0 < n - l.length → o' = o + l.length) ∧ (n - l.length = 0 → o' = o) ∧ HeapB hb g o' (n - l.length) (laidAt cur o l) w' ∧
  (w'.heap.size = w.heap.size ∧ w'.os = w.os ∧ w'.tape = w.tape ∧ w'.output = w.output ∧ ∀ b, b ≠ hb → b ≠ g → w'.heap[b]? = w.heap[b]?)

set_option maxHeartbeats 2000000 in
set_option maxRecDepth 100000 in
theorem hclone_any (hb g o n : Nat) (cur : Array Value) (A : Option Addr) (c : Nat) (l : List UInt8) (hl : l.length ≤ n) (w : World) (H : HeapB hb g o n cur w) (h : Bys w w.heap.size (.slice A l.length c) l) :
    Calls Try.prog 127 #[.pointer (some ⟨hb, 0, none⟩), .slice A l.length c] w (CloneQ hb g o n cur l w) := by
  have hsz : (Try.prog.info? 5).map (·.size) = some 1 := by kernel_rfl
  obtain ⟨r1, r2, hne, hfit, hfew⟩ := H
  have hcp := run_copy_bys (P := Try.prog) w 198 26 3 5 g o n n A c l _ _ Try.underlying198 hsz r2 h hl (by omega)
  have e1 : (List.take o cur.toList ++ List.map bv l ++ List.drop (o + l.length) cur.toList).toArray = laidAt cur o l := rfl
  rw [e1] at hcp
  have r3 : (w.setRow g (laidAt cur o l)).heap[hb]? = some (.cells #[.slice (some ⟨g, o, none⟩) n n] 198 (0, 0)) := (setRow_other w g hb _ hne).trans r1
  have r4 := setRow_heap w g _ (laidAt cur o l) _ _ r2
  have h3 : ∀ b, b ≠ g → (w.setRow g (laidAt cur o l)).heap[b]? = w.heap[b]? := fun b hb => setRow_other w g b _ hb
  have s3 : (w.setRow g (laidAt cur o l)).heap.size = w.heap.size := by simp
  have o3 : (w.setRow g (laidAt cur o l)).os = w.os ∧ (w.setRow g (laidAt cur o l)).tape = w.tape ∧ (w.setRow g (laidAt cur o l)).output = w.output := ⟨rfl, rfl, rfl⟩
  generalize w.setRow g (laidAt cur o l) = w3 at *
  have k1 := cells_row r1
  have k3 := cells_row r3
  have f3 := frozen_row r3
  have f1 := frozen_row r1
  clear h r1 r2 hsz e1
  replace h3 := Lib.hid h3
  replace r4 := Lib.hid r4
  replace o3 := Lib.hid o3
  have hll := Lib.hid hl
  have hc1 : (l.length : Int) ≤ (n : Int) := by omega
  have fin : Hid (∀ o' n', n' = n - l.length → (0 < n' → o' = o + l.length) → (n' = 0 → o' = o) → CloneQ hb g o n cur l w (.returned (.slice (some ⟨g, o, none⟩) l.length l.length)) (w3.setCell ⟨hb, 0, none⟩ (.slice (some ⟨g, o', none⟩) n' n'))) := Lib.hid fun o' n' e h1 h2 => by
    subst e
    refine ⟨o', rfl, h1, h2, ⟨row_set r3 0 _, (Below.heap_setCell _ _ _ _ (fun e => hne e.symm)).trans r4.out, hne, ?_, by omega⟩, by simpa using s3, o3.out.1, o3.out.2.1, o3.out.2.2, fun b hb hbg => (Below.heap_setCell _ _ _ _ hb).trans (h3.out b hbg)⟩
    rw [laidAt_size (by omega)]
    rcases Nat.eq_zero_or_pos (n - l.length) with h0 | h0
    · have := h2 h0; omega
    · have := h1 h0; omega
  clear r3 r4 h3 o3 hfit
  go_enter Try.func127, Try.ntmps127
  go_wp2_with fail
  · subst h
    go_ret
    exact fin.out o 0 (by omega) (fun h => by omega) (fun _ => rfl)
  · go_ret
    exact fin.out (o + l.length) (n - l.length) rfl (fun _ => rfl) (fun h => by omega)
end Go.Proofs.Yteikcgjhcniiiaa
/- An append of a slice that reads as cells, for drawn regions. -/
namespace Go.Proofs.Yteikcgjhcniiiaa
set_option linter.unusedSimpArgs false
set_option linter.unusedVariables false
open Go.RowKit

theorem run_append_rd {P : Program} (w : World) (base : Nat) (t ty : TypeId) (e : TypeId) (i : TypeInfo) (z : Value) (size bytes : Nat) (ht : P.underlying t = some (.slice e)) (hi : P.info? e = some i) (hz : i.zero = some z)
    (hsize : i.size = size) (hby : i.bytes = bytes) (hzs : z.cells.size = size) (hsz : 0 < size)
    (v : Value) (n : Nat) (xs : List Value) (hown : w.ownsRow base e size v n xs)
    (B : Nat) (A : Option Addr) (m c : Nat) (news : List Value) (hr : Rd w B size A m news) (h1 : ∀ u ∈ news, u.oneCell' = true)
    (hn : n + m < 1073741824) (hbytes : bytes ≤ 65536) (hbase : base ≤ w.heap.size) :
    ∃ v' w', (Builtin.append_ #[t, t] ty #[v, .slice A m c]).run P w = .ok v' w' ∧ w'.ownsRow base e size v' (n + m) (xs ++ news) ∧ w.grownBy w' v.ownBlock ∧ Below base w w' ∧
      (v'.ownBlock = v.ownBlock ∨ v'.ownBlock = some w.heap.size) := by
  have hb : (n + m) * bytes ≤ 140737488355328 := Nat.le_trans (Nat.mul_le_mul_left _ hbytes) (by omega)
  have hm : n + m ≤ maxLen := by unfold maxLen; omega
  rcases A with _ | ad
  · have hm0 : m = 0 := by
      rcases Nat.eq_zero_or_pos m with h0 | h0
      · exact h0
      · obtain ⟨b, off, h, _⟩ := hr.2 h0
        cases h
    subst hm0
    have hn : news = [] := List.eq_nil_of_length_eq_zero (by simpa using hr.1)
    subst hn
    refine ⟨v, w, ?_, by simpa using hown, World.grownBy.refl w _, Below.refl _ _, .inl rfl⟩
    rcases hown.2 with ⟨rfl, _⟩ | ⟨g, cap, cur, rfl, _, _, hnc, _⟩
    all_goals simp [Builtin.append_, run_underlying ht, sizeOf, typeInfo, hi, Builtin.lenOf, Builtin.firstCells, storeCells, *]
  · have hcells : ∀ j u, news[j]? = some u → w.cell? (ad.add j) = some u := by
      intro j u hu
      rcases Nat.eq_zero_or_pos m with h0 | h0
      · subst h0
        have hn : news = [] := List.eq_nil_of_length_eq_zero (by simpa using hr.1)
        subst hn
        simp at hu
      · obtain ⟨b, off, h, _⟩ := hr.2 h0
        injection h with h
        subst h
        exact hr.adds h0 j u hu
    obtain ⟨v', w', hrun, h2, h3, _, h5⟩ := run_append_own_at (P := P) w base t ty e i z size bytes ht hi hz hsize hby hzs hsz v n xs hown ad m c news hr.1 hcells h1 hm hb hbase
    exact ⟨v', w', hrun, h2, h3, (Below.refl base w).grown h3 hbase (fun k hk => (hown.lt k hk).1), h5⟩
theorem exec_append {P : Program} {o : Oper} {a : Act} {W w' : World} {s x : Operand} {t : TypeId} {v u r : Value} (ho : o.op = .call { callee := .builtin .append, args := #[s, x], argTypes := #[t, t] })
    (hs : a.eval s = v) (hx : a.eval x = u) (hrun : (Builtin.append_ #[t, t] o.type #[v, u]).run P W = .ok r w') : (execOp a.eval o).run P W = .ok (.value r) w' := by
  unfold execOp
  simp only [ho, resolve, invoke, builtin, Sem.run_bind, Sem.run_pure, Result.andThen_ok, List.map_toArray, List.map_cons, List.map_nil, hs, hx, hrun]
end Go.Proofs.Yteikcgjhcniiiaa
/- Contracts: the document's item that bytes begin with. -/
namespace Go.Proofs.Yteikcgjhcniiiaa
set_option linter.unusedSimpArgs false
set_option linter.unusedVariables false
open Go.RowKit

set_option maxHeartbeats 2000000 in
set_option maxRecDepth 100000 in
theorem rread_any (v : Value) (l : List UInt8) (hl : l.length < 1000) (w : World) (h : Bys w w.heap.size v l) :
    Calls Try.prog 136 #[v] w (RetS (ReadP w.heap.size (itemRead l)) w) := by
  obtain ⟨A, m, c, rfl⟩ : ∃ A m c, v = .slice A m c := by obtain ⟨A, c, e, _⟩ := h; exact ⟨_, _, _, e⟩
  obtain ⟨e1, hc, hm, hA⟩ := h.at_
  by_cases h12 : l.length < 12
  · have hq : itemRead l = none := by unfold itemRead; rw [if_pos (.inl h12)]
    rw [hq]
    clear h
    subst e1
    go_enter Try.func136, Try.ntmps136
    go_wp2
    all_goals first | (exfalso; omega) | exact bodyPost_ret (v := noIt) (by simp [results, Try.results136, go_sem]) rfl ⟨_, rfl, rfl, (by repeat' (first | with_reducible exact Below.refl _ _ | with_reducible assumption | with_reducible apply Below.drew | with_reducible apply below_drewN | with_reducible refine Below.alloc ?_ ?_ _ | with_reducible refine Below.setCell ?_ ?_ _ | (simp; done) | (simp; omega) | omega))⟩
  · obtain ⟨b, off, rfl, hb⟩ := hA (by omega)
    have hcell : ∀ j u, (l.map bv)[j]? = some u → w.cell? ⟨b, off + j, none⟩ = some u := by
      obtain ⟨A, c', e, _, _, hr⟩ := h
      cases e
      obtain ⟨b', off', e, _, hcell⟩ := hr.2 (by omega)
      cases e
      exact hcell
    have c0 : w.cell? ⟨b, off, none⟩ = some (.int .u8 ((l[0]?.getD 0).toNat : Int)) := hcell 0 _ (by rw [List.getElem?_map, List.getElem?_eq_getElem (by omega)]; rfl)
    have c11 : w.cell? ⟨b, off + 11, none⟩ = some (.int .u8 ((l[11]?.getD 0).toNat : Int)) := hcell 11 _ (by rw [List.getElem?_map, List.getElem?_eq_getElem (by omega)]; rfl)
    have hs : szOf l = 12 + (l[11]?.getD 0).toNat := rfl
    have u0 := (l[0]?.getD 0).toNat_lt
    have u11 := (l[11]?.getD 0).toNat_lt
    clear hcell hA
    have hbw : b ≠ w.heap.size := by omega
    by_cases hsz : l.length < szOf l
    · have hq : itemRead l = none := by unfold itemRead; rw [if_pos (.inr hsz)]
      rw [hq]
      clear h
      subst e1
      generalize (l[11]?.getD 0).toNat = q at *
      go_enter Try.func136, Try.ntmps136
      go_wp2
      refine bodyPost_ret (v := noIt) (by simp [results, Try.results136, go_sem]) rfl ⟨_, rfl, rfl, (by repeat' (first | with_reducible exact Below.refl _ _ | with_reducible assumption | with_reducible apply Below.drew | with_reducible apply below_drewN | with_reducible refine Below.alloc ?_ ?_ _ | with_reducible refine Below.setCell ?_ ?_ _ | (simp; done) | (simp; omega) | omega))⟩
    · have h48 : Bys w w.heap.size (.slice (some ⟨b, off + 12, none⟩) (szOf l - 12) (c - 12)) ((l.drop 12).take (szOf l - 12)) := h.sub (by omega)
      have hlv : ((l.drop 12).take (szOf l - 12)).length = szOf l - 12 := by simp; omega
      have H1 : ∀ W, Ext w W → _ := fun W hW => rgetfour_any _ l 1 (by omega) (by omega) W ((h.below hW).more hW.size)
      have H5 : ∀ W, Ext w W → _ := fun W hW => rgetfour_any _ l 5 (by omega) (by omega) W ((h.below hW).more hW.size)
      have H9 : ∀ W, Ext w W → _ := fun W hW => rgettwo_any _ l 9 (by omega) (by omega) W ((h.below hW).more hW.size)
      have hq : itemRead l = if itB (itAt l).r (szOf l - 12) then some (itAt l, szOf l) else none := by unfold itemRead; rw [if_neg (by omega)]
      have hi : itAt l = ⟨((l[0]?.getD 0).toNat : Int), numAt l 1 4, numAt l 5 4, numAt l 9 2, (l.drop 12).take (szOf l - 12)⟩ := rfl
      rw [hi] at hq
      generalize itemRead l = R at *
      generalize numAt l 1 4 = n1 at *
      generalize numAt l 5 4 = n5 at *
      generalize numAt l 9 2 = n9 at *
      generalize hval : (l.drop 12).take (szOf l - 12) = val at *
      have h48' : ∀ O, (O = off + 12 ∨ szOf l - 12 = 0) → Bys w w.heap.size (.slice (some ⟨b, O, none⟩) (szOf l - 12) (c - 12)) val := by
        rintro O (rfl | h0)
        · exact h48
        · rw [h0] at hlv ⊢
          obtain rfl : val = [] := List.eq_nil_of_length_eq_zero hlv
          exact ⟨_, _, rfl, Nat.zero_le _, by omega, rfl, fun h => absurd h (by simp)⟩
      have HT : ∀ O, (O = off + 12 ∨ szOf l - 12 = 0) → ∀ W, Ext w W → Bys W W.heap.size (.slice (some ⟨b, O, none⟩) (szOf l - 12) (c - 12)) val := fun O hO W hW => ((h48' O hO).below hW).more hW.size
      clear h h48 h48' hval hi
      subst e1
      rw [hs] at *
      clear hs
      generalize (l[11]?.getD 0).toNat = q at *
      generalize (l[0]?.getD 0).toNat = k at *
      have e12 : 12 + q - 12 = q := by omega
      rw [e12] at hq HT hlv
      replace hq := Lib.hid hq
      replace H1 := Lib.hid H1
      replace H5 := Lib.hid H5
      replace H9 := Lib.hid H9
      replace HT := Lib.hid HT
      unfold maxLen at hm
      go_enter Try.func136, Try.ntmps136
      go_wp2_with fail
      generalize hw1 : (World.alloc (World.alloc _ _) _) = w1
      have b1 : Ext w w1 := by rw [← hw1]; exact (Ext.alloc _ _).trans (Ext.alloc _ _)
      have r1 : w1.heap[w.heap.size + 1]? = some (.cells #[.int .u8 k, .int .u32 0, .int .u32 0, .int .i64 0, .slice none 0 0] 155 (0, 0)) := by rw [← hw1]; exact World.alloc_heap_at _ _ _ (by simp)
      have rr1 : w1.heap[w.heap.size]? = some (.cells #[.int .u8 0, .int .u32 0, .int .u32 0, .int .i64 0, .slice none 0 0] 155 (0, 0)) := by rw [← hw1]; exact (Below.heap_alloc _ _ _ (by simp)).trans (World.alloc_heap_at _ _ _ rfl)
      clear hw1
      refine (H1.out _ b1).mono ?_
      rintro e w2 ⟨rfl, hB⟩
      have b1' : Ext w w2 := Ext.trans b1 hB
      have r1' := row_ext r1 hB
      have rr1' := row_ext rr1 hB
      have k1 := cells_row r1'
      have f1 := frozen_row r1'
      clear hB r1 rr1
      go_wp2_with fail
      generalize hw : (World.setCell _ _ _) = w3
      have b2 : Ext w w3 := by rw [← hw]; exact b1'.setCell (p := ⟨w.heap.size + 1, 1, none⟩) (by simp) _
      have rr2 : w3.heap[w.heap.size]? = some (.cells #[.int .u8 0, .int .u32 0, .int .u32 0, .int .i64 0, .slice none 0 0] 155 (0, 0)) := by rw [← hw]; exact (Below.heap_setCell _ _ _ _ (by simp)).trans rr1'
      have r2 : w3.heap[w.heap.size + 1]? = some (.cells #[.int .u8 k, .int .u32 n1, .int .u32 0, .int .i64 0, .slice none 0 0] 155 (0, 0)) := by rw [← hw]; exact row_set r1' 1 _
      clear hw k1 f1 r1' b1' rr1'
      refine (H5.out _ b2).mono ?_
      rintro e w4 ⟨rfl, hB⟩
      have b2' : Ext w w4 := Ext.trans b2 hB
      have r2' := row_ext r2 hB
      have rr2' := row_ext rr2 hB
      have k2 := cells_row r2'
      have f2 := frozen_row r2'
      clear hB r2 rr2
      go_wp2_with fail
      generalize hw : (World.setCell _ _ _) = w5
      have b3 : Ext w w5 := by rw [← hw]; exact b2'.setCell (p := ⟨w.heap.size + 1, 2, none⟩) (by simp) _
      have rr3 : w5.heap[w.heap.size]? = some (.cells #[.int .u8 0, .int .u32 0, .int .u32 0, .int .i64 0, .slice none 0 0] 155 (0, 0)) := by rw [← hw]; exact (Below.heap_setCell _ _ _ _ (by simp)).trans rr2'
      have r3 : w5.heap[w.heap.size + 1]? = some (.cells #[.int .u8 k, .int .u32 n1, .int .u32 n5, .int .i64 0, .slice none 0 0] 155 (0, 0)) := by rw [← hw]; exact row_set r2' 2 _
      clear hw k2 f2 r2' b2' rr2'
      refine (H9.out _ b3).mono ?_
      rintro e w6 ⟨rfl, hB⟩
      have b4 : Ext w w6 := Ext.trans b3 hB
      have r4 := row_ext r3 hB
      have rr4 := row_ext rr3 hB
      have k4 := cells_row r4
      have f4 := frozen_row r4
      clear hB r3 rr3
      have c11' := Ext.cell b4 c11
      go_wp2
      generalize hw : (World.setCell _ _ _) = w7
      have b5 : Ext w w7 := by rw [← hw]; exact b4.setCell (p := ⟨w.heap.size + 1, 3, none⟩) (by simp) _
      have rr5 : w7.heap[w.heap.size]? = some (.cells #[.int .u8 0, .int .u32 0, .int .u32 0, .int .i64 0, .slice none 0 0] 155 (0, 0)) := by rw [← hw]; exact (Below.heap_setCell _ _ _ _ (by simp)).trans rr4
      have r5 : w7.heap[w.heap.size + 1]? = some (.cells #[.int .u8 k, .int .u32 n1, .int .u32 n5, .int .i64 n9, .slice none 0 0] 155 (0, 0)) := by rw [← hw]; exact row_set r4 3 _
      clear hw k4 f4 r4 b4 rr4
      have hgt : w.heap.size + 1 < w7.heap.size := (Array.getElem?_eq_some_iff.1 r5).1
      have cx : ∀ W, Ext w7 W → W.cell? ⟨w.heap.size + 1, 4, none⟩ = some (.slice none 0 0) := fun W hW => by rw [cells_row (row_ext r5 hW)]; rfl
      have HA : ∀ O, (O = off + 12 ∨ q = 0) → ∀ W, Ext w7 W → ∃ p, ∃ w', (Builtin.append_ #[26, 26] 26 #[.slice none 0 0, .slice (some ⟨b, O, none⟩) q (c - 12)]).run Try.prog W = .ok ((outB w7.heap.size q val).f p) w' ∧ (outB w7.heap.size q val).φ p w' ∧ Ext W w' := fun O hO W hW => by
        obtain ⟨i0, hi, hz0, hz1, hz2⟩ := info_parts Try.info_u8
        obtain ⟨A, c', e, hcc, hmm, hr⟩ := HT.out O hO W (b5.trans hW)
        simp only [Value.slice.injEq] at e
        obtain ⟨rfl, e2, rfl⟩ := e
        rw [hlv] at hr
        obtain ⟨v', w', hrun, hown, _, hbel, _⟩ := run_append_rd (P := Try.prog) W W.heap.size 26 26 5 i0 (.int .u8 0) 1 1 Try.underlying26 hi hz0 hz1 hz2 rfl (by decide) (.slice none 0 0) 0 [] (World.ownsRow_nil _ _ _ _) W.heap.size _ q _ _ hr (bvs_one _) (by omega) (by decide) (Nat.le_refl _)
        rw [Nat.zero_add, List.nil_append] at hown
        obtain ⟨p, h1, h2, h3⟩ := outB_of_own (lo := w7.heap.size) (e := .returned v') ⟨v', rfl, hown, hbel⟩ hW.size
        cases h1
        exact ⟨p, w', hrun, h2, h3⟩
      replace HA := Lib.hid HA
      clear HT
      rcases Nat.lt_or_ge 12 c with hc12 | hc12
      · skip
        refine wp_region_free (outsAt [(5, outB w7.heap.size q val)]) 7 (by kernel_rfl) (by kernel_rfl) (by kernel_rfl) (by decide) (by kernel_rfl) (by kernel_rfl) ?st ?walk
        case st => exact outsAt_stable (by simp only [List.forall_mem_cons]; exact ⟨outB_stable _ _ _, fun _ h => by cases h⟩)
        case walk =>
          intro K hK
          dsimp only [List.take]
          repeat (first | (refine free_plain ?_ (by rfl) (by rfl) (fun W hW _ => ⟨W, ?_, Ext.refl W⟩) ?_; rotate_left; (first | (go_simp; with_reducible rfl) | (go_simp; done)); try simp only [Act.put, one_f, outB_f, outNew_f, outI_f, List.setIfInBounds_toArray, List.set_cons_zero, List.set_cons_succ]) | (refine free_skip (by rfl) ?_; simp only [Act.put, one_f, outB_f, outNew_f, outI_f, List.setIfInBounds_toArray, List.set_cons_zero, List.set_cons_succ]))
          refine free_plain (.slice (some ⟨b, off + 12, none⟩) q (c - 12)) (by rfl) (by rfl) (fun W hW _ => ⟨W, ?_, Ext.refl W⟩) ?_
          · go_simp
            rw [if_pos (by omega), if_pos (by omega), if_neg (by omega), show (12 + (q : Int)).toNat - 12 = q by omega]
          simp only [Act.put, one_f, outB_f, List.setIfInBounds_toArray, List.set_cons_zero, List.set_cons_succ]
          refine free_hard (outB w7.heap.size q val) (by rfl) (by rfl) (fun W hW _ => ?_) (fun p => ?_)
          · obtain ⟨p, w', hrun, h2, h3⟩ := HA.out (off + 12) (by simp) W hW
            refine hardAt_value (u := (outB w7.heap.size q val).f p) (w' := w') ?_ ⟨p, rfl, h2, h3⟩
            exact exec_append (s := .tmp 52) (x := .tmp 55) rfl rfl rfl hrun
          obtain ⟨A', c'⟩ := p
          simp only [Act.put, one_f, outB_f, outNew_f, outI_f, List.setIfInBounds_toArray, List.set_cons_zero, List.set_cons_succ]
          repeat (first | (refine free_plain ?_ (by rfl) (by rfl) (fun W hW _ => ⟨W, ?_, Ext.refl W⟩) ?_; rotate_left; (first | (go_simp; with_reducible rfl) | (go_simp; done)); try simp only [Act.put, one_f, outB_f, outNew_f, outI_f, List.setIfInBounds_toArray, List.set_cons_zero, List.set_cons_succ]) | (refine free_skip (by rfl) ?_; simp only [Act.put, one_f, outB_f, outNew_f, outI_f, List.setIfInBounds_toArray, List.set_cons_zero, List.set_cons_succ]))
          refine free_nil (hK _ _ fun W hW hF => ?_)
          obtain ⟨hby, hfr⟩ : Bys W W.heap.size (.slice A' q c') val ∧ From w7.heap.size (.slice A' q c') := (hF 5).1
          clear hF hK HA cx
          have r6 := row_ext r5 hW
          have rr6 := row_ext rr5 hW
          have b6 : Ext w W := b5.trans hW
          have k6 := cells_row r6
          have f6 := frozen_row r6
          clear r5 rr5 b5
          dsimp only [List.drop]
          go_wp2_with fail
          have hby' := hby.setCell hfr (p := ⟨w.heap.size + 1, 4, none⟩) hgt (.slice A' q c')
          generalize hw : (World.setCell _ _ _) = w8 at *
          have b7 : Ext w w8 := by rw [← hw]; exact b6.setCell (p := ⟨w.heap.size + 1, 4, none⟩) (by simp) _
          have rr7 : w8.heap[w.heap.size]? = some (.cells #[.int .u8 0, .int .u32 0, .int .u32 0, .int .i64 0, .slice none 0 0] 155 (0, 0)) := by rw [← hw]; exact (Below.heap_setCell _ _ _ _ (by simp)).trans rr6
          have r7 : w8.heap[w.heap.size + 1]? = some (.cells #[.int .u8 k, .int .u32 n1, .int .u32 n5, .int .i64 n9, .slice A' q c'] 155 (0, 0)) := by rw [← hw]; exact row_set r6 4 _
          have hz8 : w8.heap.size = W.heap.size := by rw [← hw]; simp
          rw [← hz8] at hby'
          clear hw k6 f6 r6 b6 rr6 hby
          refine (imay_any k n1 n5 n9 A' q c' _).mono ?_
          rintro e w9 ⟨rfl, hB⟩
          have b8 : Below w.heap.size w w9 := Ext.trans b7 hB
          have r8 := row_ext r7 hB
          have rr8 := row_ext rr7 hB
          have hby8 := (hby'.below hB).more hB.size
          have k8 := cells_row r8
          have f8 := frozen_row r8
          have kk8 := cells_row rr8
          have ff8 := frozen_row rr8
          have hgt2 : w.heap.size < w7.heap.size := by omega
          clear hB r7 r8 rr7 rr8 hby' b7
          by_cases hok : itB n9 q = true
          · have hR : R = some (⟨k, n1, n5, n9, val⟩, 12 + q) := by rw [hq.out, if_pos hok]
            rw [hok]
            clear hok hq
            subst hR
            go_wp2
            refine bodyPost_ret (v := .tuple #[itemV k n1 n5 n9 A' q c', .int .i64 ((12 + q : Nat) : Int), .int .i64 0]) (by simp [results, Try.results136, go_sem, k8, kk8]) rfl ⟨_, rfl, ⟨_, rfl, ?_⟩, ?_⟩
            · refine ⟨A', c', by rw [hlv], ?_, by rw [hlv]; exact hfr.mono (by omega)⟩
              rw [hlv]
              simp only [World.size_setCell]
              exact ((((hby8.setCell hfr (p := ⟨w.heap.size, 0, none⟩) hgt2 _).setCell hfr (p := ⟨w.heap.size, 1, none⟩) hgt2 _).setCell hfr (p := ⟨w.heap.size, 2, none⟩) hgt2 _).setCell hfr (p := ⟨w.heap.size, 3, none⟩) hgt2 _).setCell hfr (p := ⟨w.heap.size, 4, none⟩) hgt2 _
            · exact (by repeat' (first | with_reducible exact Below.refl _ _ | with_reducible assumption | with_reducible apply Below.drew | with_reducible apply below_drewN | with_reducible refine Below.alloc ?_ ?_ _ | with_reducible refine Below.setCell ?_ ?_ _ | (simp; done) | (simp; omega) | omega))
          · have hR : R = none := by rw [hq.out, if_neg hok]
            have hok' : itB n9 q = false := by simpa using hok
            rw [hok']
            clear hok hok' hq
            subst hR
            go_wp2
            refine bodyPost_ret (v := noIt) (by simp [results, Try.results136, go_sem, kk8]) rfl ⟨_, rfl, rfl, ?_⟩
            exact (by repeat' (first | with_reducible exact Below.refl _ _ | with_reducible assumption | with_reducible apply Below.drew | with_reducible apply below_drewN | with_reducible refine Below.alloc ?_ ?_ _ | with_reducible refine Below.setCell ?_ ?_ _ | (simp; done) | (simp; omega) | omega))
      · (obtain ⟨rfl,  rfl⟩ : c = 12 ∧ q = 0 := by omega)
        refine wp_region_free (outsAt [(5, outB w7.heap.size 0 val)]) 7 (by kernel_rfl) (by kernel_rfl) (by kernel_rfl) (by decide) (by kernel_rfl) (by kernel_rfl) ?st ?walk
        case st => exact outsAt_stable (by simp only [List.forall_mem_cons]; exact ⟨outB_stable _ _ _, fun _ h => by cases h⟩)
        case walk =>
          intro K hK
          dsimp only [List.take]
          repeat (first | (refine free_plain ?_ (by rfl) (by rfl) (fun W hW _ => ⟨W, ?_, Ext.refl W⟩) ?_; rotate_left; (first | (go_simp; with_reducible rfl) | (go_simp; done)); try simp only [Act.put, one_f, outB_f, outNew_f, outI_f, List.setIfInBounds_toArray, List.set_cons_zero, List.set_cons_succ]) | (refine free_skip (by rfl) ?_; simp only [Act.put, one_f, outB_f, outNew_f, outI_f, List.setIfInBounds_toArray, List.set_cons_zero, List.set_cons_succ]))
          skip
          refine free_hard (outB w7.heap.size 0 val) (by rfl) (by rfl) (fun W hW _ => ?_) (fun p => ?_)
          · obtain ⟨p, w', hrun, h2, h3⟩ := HA.out (off) (by simp) W hW
            refine hardAt_value (u := (outB w7.heap.size 0 val).f p) (w' := w') ?_ ⟨p, rfl, h2, h3⟩
            exact exec_append (s := .tmp 52) (x := .tmp 55) rfl rfl rfl hrun
          obtain ⟨A', c'⟩ := p
          simp only [Act.put, one_f, outB_f, outNew_f, outI_f, List.setIfInBounds_toArray, List.set_cons_zero, List.set_cons_succ]
          repeat (first | (refine free_plain ?_ (by rfl) (by rfl) (fun W hW _ => ⟨W, ?_, Ext.refl W⟩) ?_; rotate_left; (first | (go_simp; with_reducible rfl) | (go_simp; done)); try simp only [Act.put, one_f, outB_f, outNew_f, outI_f, List.setIfInBounds_toArray, List.set_cons_zero, List.set_cons_succ]) | (refine free_skip (by rfl) ?_; simp only [Act.put, one_f, outB_f, outNew_f, outI_f, List.setIfInBounds_toArray, List.set_cons_zero, List.set_cons_succ]))
          refine free_nil (hK _ _ fun W hW hF => ?_)
          obtain ⟨hby, hfr⟩ : Bys W W.heap.size (.slice A' 0 c') val ∧ From w7.heap.size (.slice A' 0 c') := (hF 5).1
          clear hF hK HA cx
          have r6 := row_ext r5 hW
          have rr6 := row_ext rr5 hW
          have b6 : Ext w W := b5.trans hW
          have k6 := cells_row r6
          have f6 := frozen_row r6
          clear r5 rr5 b5
          dsimp only [List.drop]
          go_wp2_with fail
          have hby' := hby.setCell hfr (p := ⟨w.heap.size + 1, 4, none⟩) hgt (.slice A' 0 c')
          generalize hw : (World.setCell _ _ _) = w8 at *
          have b7 : Ext w w8 := by rw [← hw]; exact b6.setCell (p := ⟨w.heap.size + 1, 4, none⟩) (by simp) _
          have rr7 : w8.heap[w.heap.size]? = some (.cells #[.int .u8 0, .int .u32 0, .int .u32 0, .int .i64 0, .slice none 0 0] 155 (0, 0)) := by rw [← hw]; exact (Below.heap_setCell _ _ _ _ (by simp)).trans rr6
          have r7 : w8.heap[w.heap.size + 1]? = some (.cells #[.int .u8 k, .int .u32 n1, .int .u32 n5, .int .i64 n9, .slice A' 0 c'] 155 (0, 0)) := by rw [← hw]; exact row_set r6 4 _
          have hz8 : w8.heap.size = W.heap.size := by rw [← hw]; simp
          rw [← hz8] at hby'
          clear hw k6 f6 r6 b6 rr6 hby
          refine (imay_any k n1 n5 n9 A' 0 c' _).mono ?_
          rintro e w9 ⟨rfl, hB⟩
          have b8 : Below w.heap.size w w9 := Ext.trans b7 hB
          have r8 := row_ext r7 hB
          have rr8 := row_ext rr7 hB
          have hby8 := (hby'.below hB).more hB.size
          have k8 := cells_row r8
          have f8 := frozen_row r8
          have kk8 := cells_row rr8
          have ff8 := frozen_row rr8
          have hgt2 : w.heap.size < w7.heap.size := by omega
          clear hB r7 r8 rr7 rr8 hby' b7
          by_cases hok : itB n9 0 = true
          · have hR : R = some (⟨k, n1, n5, n9, val⟩, 12 + 0) := by rw [hq.out, if_pos hok]
            rw [hok]
            clear hok hq
            subst hR
            go_wp2
            refine bodyPost_ret (v := .tuple #[itemV k n1 n5 n9 A' 0 c', .int .i64 ((12 + 0 : Nat) : Int), .int .i64 0]) (by simp [results, Try.results136, go_sem, k8, kk8]) rfl ⟨_, rfl, ⟨_, rfl, ?_⟩, ?_⟩
            · refine ⟨A', c', by rw [hlv], ?_, by rw [hlv]; exact hfr.mono (by omega)⟩
              rw [hlv]
              simp only [World.size_setCell]
              exact ((((hby8.setCell hfr (p := ⟨w.heap.size, 0, none⟩) hgt2 _).setCell hfr (p := ⟨w.heap.size, 1, none⟩) hgt2 _).setCell hfr (p := ⟨w.heap.size, 2, none⟩) hgt2 _).setCell hfr (p := ⟨w.heap.size, 3, none⟩) hgt2 _).setCell hfr (p := ⟨w.heap.size, 4, none⟩) hgt2 _
            · exact (by repeat' (first | with_reducible exact Below.refl _ _ | with_reducible assumption | with_reducible apply Below.drew | with_reducible apply below_drewN | with_reducible refine Below.alloc ?_ ?_ _ | with_reducible refine Below.setCell ?_ ?_ _ | (simp; done) | (simp; omega) | omega))
          · have hR : R = none := by rw [hq.out, if_neg hok]
            have hok' : itB n9 0 = false := by simpa using hok
            rw [hok']
            clear hok hok' hq
            subst hR
            go_wp2
            refine bodyPost_ret (v := noIt) (by simp [results, Try.results136, go_sem, kk8]) rfl ⟨_, rfl, rfl, ?_⟩
            exact (by repeat' (first | with_reducible exact Below.refl _ _ | with_reducible assumption | with_reducible apply Below.drew | with_reducible apply below_drewN | with_reducible refine Below.alloc ?_ ?_ _ | with_reducible refine Below.setCell ?_ ?_ _ | (simp; done) | (simp; omega) | omega))
end Go.Proofs.Yteikcgjhcniiiaa
/- Nodes: how their items lie in memory; plain laws of checking. -/
namespace Go.Proofs.Yteikcgjhcniiiaa
set_option linter.unusedSimpArgs false
set_option linter.unusedVariables false
open Go.RowKit

/-- an item's cells, its value's slice being u -/
def cells5 : List (It × Value) → List Value
  | [] => []
  | p :: r => .int .u8 p.1.k :: .int .u32 p.1.i :: .int .u32 p.1.o :: .int .i64 p.1.r :: p.2 :: cells5 r
theorem cells5_len (ps : List (It × Value)) : (cells5 ps).length = ps.length * 5 := by
  induction ps with
  | nil => rfl
  | cons p r ih => simp [cells5, ih]; omega
theorem cells5_append (ps qs : List (It × Value)) : cells5 (ps ++ qs) = cells5 ps ++ cells5 qs := by
  induction ps with
  | nil => rfl
  | cons p r ih => simp [cells5, ih]
theorem cells5_at (ps : List (It × Value)) : ∀ i (h : i < ps.length), (cells5 ps)[i * 5]? = some (.int .u8 ps[i].1.k) ∧ (cells5 ps)[i * 5 + 1]? = some (.int .u32 ps[i].1.i) ∧ (cells5 ps)[i * 5 + 2]? = some (.int .u32 ps[i].1.o) ∧ (cells5 ps)[i * 5 + 3]? = some (.int .i64 ps[i].1.r) ∧ (cells5 ps)[i * 5 + 4]? = some ps[i].2 := by
  induction ps with
  | nil => intro i h; simp at h
  | cons p r ih =>
    intro i h
    rcases i with _ | i
    · simp [cells5]
    · have := ih i (by simpa using h)
      rw [show (i + 1) * 5 = i * 5 + 5 by omega]
      simpa [cells5] using this
theorem cells5_take (ps : List (It × Value)) (k : Nat) : (cells5 ps).take (k * 5) = cells5 (ps.take k) := by
  induction ps generalizing k with
  | nil => simp [cells5]
  | cons p r ih =>
    rcases k with _ | k
    · simp [cells5]
    · rw [show (k + 1) * 5 = k * 5 + 5 by omega]
      simp [cells5, ih]

/-- the slice of items v reads as xs, all below block B -/
def Its (w : World) (B : Nat) (v : Value) (xs : List It) : Prop :=
  ∃ ps : List (It × Value), ps.map (·.1) = xs ∧ (∃ A c, v = .slice A xs.length c ∧ xs.length ≤ c ∧ c ≤ maxLen ∧ Rd w B 5 A xs.length (cells5 ps)) ∧ ∀ p ∈ ps, (∃ A c, p.2 = .slice A p.1.val.length c) ∧ Bys w B p.2 p.1.val
theorem Its.below {w w' : World} {B : Nat} {v : Value} {xs : List It} (h : Its w B v xs) (hb : Below B w w') : Its w' B v xs := by
  obtain ⟨ps, e, ⟨A, c, e1, e2, e3, hr⟩, hp⟩ := h
  exact ⟨ps, e, ⟨A, c, e1, e2, e3, hr.below hb⟩, fun p h => ⟨(hp p h).1, (hp p h).2.below hb⟩⟩
theorem Its.more {w : World} {B B' : Nat} {v : Value} {xs : List It} (h : Its w B v xs) (hb : B ≤ B') : Its w B' v xs := by
  obtain ⟨ps, e, ⟨A, c, e1, e2, e3, hr⟩, hp⟩ := h
  exact ⟨ps, e, ⟨A, c, e1, e2, e3, hr.more hb⟩, fun p h => ⟨(hp p h).1, (hp p h).2.more hb⟩⟩
theorem Its.ext {w w' : World} {v : Value} {xs : List It} (h : Its w w.heap.size v xs) (hb : Ext w w') : Its w' w'.heap.size v xs := (h.below hb).more hb.size
theorem Its.nil (w : World) (B : Nat) : Its w B (.slice none 0 0) [] := ⟨[], rfl, ⟨none, 0, rfl, Nat.le_refl _, by simp [maxLen], Rd.none_⟩, fun p h => by cases h⟩
theorem Its.at_ {w : World} {B : Nat} {A : Option Addr} {n c : Nat} {xs : List It} (h : Its w B (.slice A n c) xs) : n = xs.length ∧ n ≤ c ∧ c ≤ maxLen ∧ (0 < n → ∃ b off, A = some ⟨b, off, none⟩ ∧ b < B) := by
  obtain ⟨ps, e, ⟨A', c', e1, e2, e3, hr⟩, hp⟩ := h
  cases e1
  refine ⟨rfl, e2, e3, fun hn => ?_⟩
  obtain ⟨b, off, e, hb, _⟩ := hr.2 hn
  exact ⟨b, off, e, hb⟩
/-- one item of them -/
def ItAt (w : World) (B b o : Nat) (x : It) (A : Option Addr) (c : Nat) : Prop :=
  w.cell? ⟨b, o, none⟩ = some (.int .u8 x.k) ∧ w.cell? ⟨b, o + 1, none⟩ = some (.int .u32 x.i) ∧ w.cell? ⟨b, o + 2, none⟩ = some (.int .u32 x.o) ∧ w.cell? ⟨b, o + 3, none⟩ = some (.int .i64 x.r) ∧ w.cell? ⟨b, o + 4, none⟩ = some (.slice A x.val.length c) ∧ Bys w B (.slice A x.val.length c) x.val
theorem Its.item {w : World} {B b off n c : Nat} {xs : List It} (h : Its w B (.slice (some ⟨b, off, none⟩) n c) xs) (i : Nat) (hi : i < xs.length) : ∃ A' c', ItAt w B b (off + i * 5) xs[i] A' c' := by
  obtain ⟨ps, e, ⟨A, c', e1, e2, e3, hr⟩, hp⟩ := h
  cases e1
  subst e
  have hi' : i < ps.length := by simpa using hi
  obtain ⟨b', off', e, hb, hc⟩ := hr.2 (by omega)
  cases e
  obtain ⟨c0, c1, c2, c3, c4⟩ := cells5_at ps i hi'
  obtain ⟨⟨A', c', e5⟩, hby⟩ := hp ps[i] (List.getElem_mem hi')
  rw [e5] at c4 hby
  refine ⟨A', c', ?_⟩
  simp only [List.getElem_map]
  refine ⟨hc _ _ c0, ?_, ?_, ?_, ?_, hby⟩
  · rw [Nat.add_assoc]; exact hc _ _ c1
  · rw [Nat.add_assoc]; exact hc _ _ c2
  · rw [Nat.add_assoc]; exact hc _ _ c3
  · rw [Nat.add_assoc]; exact hc _ _ c4

def lessIt (a b : It) : Bool := lessB a.k a.i a.o b.k b.i b.o
/-- is an item of a node right? -/
def chkAt (above : Bool) (xs : List It) (i : Nat) : Bool :=
  match xs[i]? with
  | none => true
  | some x => itB x.r x.val.length && (decide (i = 0) || (match xs[i - 1]? with | some y => lessIt y x | none => true)) && !(above && (decide (x.r = 0) || decide (0 < x.val.length)))
def chkAll (above : Bool) (xs : List It) (k : Nat) : Bool := (List.range k).all (chkAt above xs)
theorem chkAll_succ (above : Bool) (xs : List It) (k : Nat) : chkAll above xs (k + 1) = (chkAll above xs k && chkAt above xs k) := by simp [chkAll, List.range_succ]
theorem chkAll_bad {above : Bool} {xs : List It} {k : Nat} (hk : k < xs.length) (h : chkAt above xs k = false) : chkAll above xs xs.length = false := by
  unfold chkAll
  rw [List.all_eq_false]
  exact ⟨k, List.mem_range.2 hk, by simp [h]⟩
/-- may a node be? -/
def headB (lvl : Int) (n : Nat) : Bool := decide (0 ≤ lvl ∧ lvl < 6 ∧ n ≤ 5 ∧ (0 < lvl → n ≠ 0))
def nodeMay (lvl : Int) (xs : List It) : Bool := headB lvl xs.length && chkAll (decide (0 < lvl)) xs xs.length

abbrev nodeV (lvl : Int) (A : Option Addr) (n c : Nat) : Value := .agg #[.int .i64 lvl, .slice A n c]

set_option maxHeartbeats 1000000 in
theorem ncheck_head (lvl : Int) (A : Option Addr) (n c : Nat) (h : headB lvl n = false) (w : World) :
    Calls Try.prog 91 #[nodeV lvl A n c] w (Ret (.int .i64 8) w) := by
  have h' : ¬(0 ≤ lvl ∧ lvl < 6 ∧ n ≤ 5 ∧ (0 < lvl → n ≠ 0)) := by simpa [headB] using h
  clear h
  go_enter Try.func91, Try.ntmps91
  go_wp2
  all_goals simp only [beq_iff_eq, beq_eq_false_iff_ne, ne_eq] at *
  all_goals first | (exfalso; omega) | skip
  all_goals go_ret
  all_goals exact ⟨rfl, (by repeat' (first | with_reducible exact Below.refl _ _ | with_reducible assumption | with_reducible apply Below.drew | with_reducible apply below_drewN | with_reducible refine Below.alloc ?_ ?_ _ | with_reducible refine Below.setCell ?_ ?_ _ | (simp; done) | (simp; omega) | omega))⟩
end Go.Proofs.Yteikcgjhcniiiaa
