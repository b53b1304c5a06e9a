/- Texts FCheck, Order2, FFind, joined. -/
import Derived.Laws.EntriesVeiled
import Derived.WalkMore
import Derived.Test.YtckhnchnbeoogaaGreatT24
/- Contracts: a tree that may be is checked. -/
namespace Go.Proofs.YtckhnchnbeoogaaGreat
set_option linter.unusedSimpArgs false
set_option linter.unusedVariables false
open Go.RowKit

theorem now_pos {S : Sto} {a : Nat} {q : Int × List It} (h : nodeAt S a = some q) : 0 < (S.now[a]?.getD 0).toNat := by
  unfold nodeAt at h
  split at h
  · cases h
  · omega
theorem field_is7 (f l : K3) (b : Bool) (w : World) : (Instr.field 164 (.agg (sp7 f l b)) 2).run Tryz.prog w = .ok (.bool b) w := by kernel_rfl
theorem fcheck_ret {R : Ending → World → Prop} {a : Act} {W : World} {u v : Value} (h4 : a.tmps[4]?.getD undef = u) (h5 : a.tmps[5]?.getD undef = v) (hd : a.defers = []) (hR : R (.returned (.tuple #[u, v])) W) : bodyPost Tryz.prog Tryz.f54 R .ret a W := by
  refine bodyPost_ret (v := .tuple #[u, v]) ?_ hd hR
  simp [results, Tryz.results54, go_sem, h4, h5]

set_option maxHeartbeats 4000000 in
set_option maxRecDepth 100000 in
theorem fcheck_any (A1 : Option Addr) (n1 c1 : Nat) (A2 : Option Addr) (n2 c2 : Nat) (A3 : Option Addr) (n3 c3 : Nat) (A4 : Option Addr) (n4 c4 : Nat) (S : Sto) (hS : storeMay S = true) (a : Nat) (hT : treeOk S a) (w : World)
    (hst : StoAt w w.heap.size (.slice A1 n1 c1) (.slice A2 n2 c2) (.slice A3 n3 c3) (.slice A4 n4 c4) S) :
    Calls Tryz.prog 54 #[storeV A1 n1 c1 A2 n2 c2 A3 n3 c3 A4 n4 c4, .int .i64 (a : Int)] w (RetS (fun u _ => ∃ m : Int, u = .tuple #[.int .i64 m, .int .i64 0]) w) := by
  obtain ⟨ha, ha2, lvl, xs, hn, hsp⟩ := hT
  have hpos := now_pos hn
  obtain ⟨hm1, hm2, -⟩ := nodeAt_may hn
  have hxl : xs.length ≤ 5 := by unfold nodeMay headB at hm1; simp at hm1; omega
  have hll : lvl ≤ 5 := by unfold nodeMay headB at hm1; simp at hm1; omega
  have hl3 : S.now.length = 256 := (storeMay_len hS).2.2.1
  obtain ⟨b3, o3, d3, e3, hd3, hm3⟩ := now_form hS hst.now
  simp only [Value.slice.injEq] at e3
  obtain ⟨rfl, rfl, rfl⟩ := e3
  have hcell := bys_cell hst.now (a := a) (by omega)
  have HCK := Lib.hid (fun W (hx : Ext w W) => rcheck_any A1 n1 c1 A2 n2 c2 (some ⟨b3, o3, none⟩) 256 c3 A4 n4 c4 S W (hst.ext hx))
  have HON := Lib.hid (fun W (hx : Ext w W) => on_any A1 n1 c1 A2 n2 c2 (some ⟨b3, o3, none⟩) 256 c3 A4 n4 c4 S (by omega) W (hst.ext hx))
  have HST := Lib.hid hst
  have ha3 : decide ((a : Int) < 8) = false := decide_eq_false (by omega)
  have ha4 : decide (a < 8) = false := decide_eq_false (by omega)
  have ha5 : decide ((a : Int) ≥ 256) = false := decide_eq_false (by omega)
  have ha6 : decide (256 ≤ a) = false := decide_eq_false (by omega)
  have ha7 : a < 256 := ha2
  have ha8 : (a : Int) < 256 := by omega
  generalize hnv : (S.now[a]?.getD 0).toNat = nv at *
  have hn1 : ((nv : Int) == 0) = false := by rw [beq_eq_false_iff_ne]; omega
  have hn2 : decide (nv = 0) = false := decide_eq_false (by omega)
  replace hnv := Lib.hid hnv
  replace hm1 := Lib.hid hm1
  replace hm2 := Lib.hid hm2
  replace hn := Lib.hid hn
  replace hsp := Lib.hid hsp
  replace hS := Lib.hid hS
  replace hm3 := Lib.hid hm3
  replace hl3 := Lib.hid hl3
  replace hll := Lib.hid hll
  clear hst hpos
  go_enter Tryz.func54, Tryz.ntmps54
  go_wp2_with fail
  generalize hw1 : (World.alloc _ _) = w1
  have x1 : Ext w w1 := by rw [← hw1]; exact Ext.alloc _ _
  have r1 : w1.heap[w.heap.size]? = some (.cells #[.slice A1 n1 c1, .slice A2 n2 c2, .slice (some ⟨b3, o3, none⟩) 256 c3, .slice A4 n4 c4] 28 (0, 0)) := by rw [← hw1]; exact World.alloc_heap_at _ _ _ rfl
  clear hw1
  refine (HCK.out w1 x1).mono ?_
  clear HCK
  rintro e w2 ⟨rfl, hB⟩
  have x2 : Ext w w2 := x1.trans hB
  have r2 := row_ext r1 hB
  rw [hS.out, show errOf true = 0 from rfl]
  have k2 := cells_row r2
  have hc2 := Ext.cell x2 hcell
  clear r1 hB x1 hcell
  go_wp2_with fail
  refine (HON.out w2 x2).mono ?_
  clear HON
  rintro e w3 ⟨u, rfl, ⟨bb, A3', c3', rfl, hOn, -⟩, hB⟩
  have x3 : Ext w w3 := Ext.trans x2 hB
  have r3 := row_ext r2 hB
  clear k2 hc2 r2 x2 hB
  replace hOn := Lib.hid hOn
  go_wp2_with fail
  generalize hw4 : (World.alloc w3 _) = w4
  have x34 : Ext w3 w4 := by rw [← hw4]; exact Ext.alloc _ _
  have rb4 : w4.heap[w3.heap.size]? = some (.cells #[.pointer (some ⟨bb, 0, none⟩)] 108 (0, 0)) := by rw [← hw4]; exact World.alloc_heap_at _ _ _ rfl
  have rs4 := row_ext r3 x34
  have hOn4 := Lib.hid (hOn.out.ext x34)
  have x4 : Ext w w4 := x3.trans x34
  clear hw4
  have hBN := bnode_any 0 bb A1 n1 c1 A2 n2 n2 A3' 256 c3' A4 n4 c4 S hS.out a ha ha2 w4 ⟨Nat.zero_le _, (hOn.out.ext x34).2⟩
  rw [hn.out] at hBN
  refine hBN.mono ?_
  clear hBN
  rintro e w5 ⟨u, rfl, ⟨A9, c9, rfl, hits⟩, hB⟩
  have hB' : Ext w4 w5 := hB
  have rs5 := row_ext rs4 hB'
  have rb5 := row_ext rb4 hB'
  have hOn5 := Lib.hid (hOn4.out.ext hB')
  have x5 : Ext w w5 := x4.trans hB'
  replace hits := Lib.hid hits
  clear rs4 rb4 hB hB' x34 x4 x3 hOn4 hOn r3
  have z5 : w3.heap.size < w5.heap.size := (Array.getElem?_eq_some_iff.1 rb5).1
  rcases Nat.eq_zero_or_pos xs.length with h0 | h0
  · have hx1 : decide ((xs.length : Int) > 0) = false := decide_eq_false (by omega)
    have hx2 : decide (0 < xs.length) = false := decide_eq_false (by omega)
    replace h0 := Lib.hid h0
    go_wp2_with fail
    exact fcheck_ret rfl rfl rfl ⟨_, rfl, ⟨_, rfl⟩, x5.trans ((Ext.alloc _ _).trans (Ext.alloc _ _))⟩
  · have hx1 : decide ((xs.length : Int) > 0) = true := decide_eq_true (by omega)
    have hx2 : decide (0 < xs.length) = true := decide_eq_true h0
    obtain ⟨⟨f, l⟩, hfl⟩ : ∃ p, spanS S lvl xs = some (some p) := by
      rcases hq : spanS S lvl xs with _ | _ | p
      · have := hsp.out; rw [hq] at this; cases this
      · exact absurd (by rw [List.take_length]; exact hq) (spanS_nil_iff (S := S) (h := lvl) h0 (Nat.le_refl xs.length))
      · exact ⟨p, rfl⟩
    replace h0 := Lib.hid h0
    replace hfl := Lib.hid hfl
    go_wp2_with fail
    generalize hw6 : (World.alloc (World.alloc w5 _) _) = w6
    have x56 : Ext w5 w6 := by rw [← hw6]; exact (Ext.alloc _ _).trans (Ext.alloc _ _)
    have rf6 : w6.heap[w5.heap.size + 1]? = some (.cells #[.func (.func 90) #[] #[.pointer (some ⟨w.heap.size, 0, none⟩), .pointer (some ⟨w3.heap.size, 0, none⟩), .pointer (some ⟨w5.heap.size + 1, 0, none⟩)]] 162 (0, 0)) := by rw [← hw6]; exact World.alloc_heap_at _ _ _ (by simp)
    have rn6 : w6.heap[w5.heap.size]? = some (.cells #[.int .i64 lvl, .slice A9 xs.length c9] 118 (0, 0)) := by rw [← hw6]; exact (Below.heap_alloc _ _ _ (by simp)).trans (World.alloc_heap_at _ _ _ rfl)
    clear hw6
    have x6 : Ext w w6 := x5.trans x56
    have hCall := walk_all S hS.out w.heap.size w3.heap.size (w5.heap.size + 1) bb (.slice A1 n1 c1) (.slice A2 n2 c2) (.slice (some ⟨b3, o3, none⟩) 256 c3) (.slice A4 n4 c4) A1 n1 c1 A2 n2 n2 A3' 256 c3' A4 n4 c4 lvl xs A9 c9 f l _ w6
      ⟨row_ext rs5 x56, row_ext rb5 x56, rf6, (HST.out.ext x6).now, ⟨Nat.zero_le _, (hOn5.out.ext x56).2⟩⟩ hll.out hxl (fun y hy => (hm2.out y hy).1.2.2.2.1) (hits.out.ext x56) hfl.out
    refine hCall.mono ?_
    clear hCall
    rintro e w7 ⟨rfl, hB⟩
    have rn7 := row_ext rn6 hB
    have kn7 := cells_row rn7
    have x7 := Lib.hid (x6.trans hB)
    clear rs5 rb5 rf6 rn6 hB x6 x56 x5
    have hfi := field_is7
    go_wp2_with fail
    exact fcheck_ret rfl rfl rfl ⟨_, rfl, ⟨_, rfl⟩, x7.out⟩
end Go.Proofs.YtckhnchnbeoogaaGreat
/- Trees: the item of a key that is gone down to is the one among all. -/
namespace Go.Proofs.YtckhnchnbeoogaaGreat
set_option linter.unusedSimpArgs false
set_option linter.unusedVariables false
open Go.RowKit

theorem items_mem {S : Sto} : ∀ {h : Nat} {xs : List It} {x : It}, x ∈ itemsS S h xs → ∃ (j : Nat) (hj : j < xs.length), x ∈ itemsS S h [xs[j]]
  | 0, xs, x, hx => by
    obtain ⟨j, hj, rfl⟩ := List.mem_iff_getElem.1 hx
    exact ⟨j, hj, List.mem_singleton.2 rfl⟩
  | h + 1, xs, x, hx => by
    rw [items_succ] at hx
    obtain ⟨y, hy, hx⟩ := List.mem_flatMap.1 hx
    obtain ⟨j, hj, rfl⟩ := List.mem_iff_getElem.1 hy
    exact ⟨j, hj, by rw [items_succ]; exact List.mem_flatMap.2 ⟨_, List.mem_singleton.2 rfl, hx⟩⟩
theorem one_low {S : Sto} {h : Nat} {xs : List It} (hs : (spanS S h xs).isSome = true) {j : Nat} (hj : j < xs.length) {x : It} (hx : x ∈ itemsS S h [xs[j]]) : leK (keyIt xs[j]) (keyIt x) := by
  have h2 := span_take_some hs (j + 1)
  rw [spanS_take hj] at h2
  unfold stepS at h2
  rcases hA : spanS S h (xs.take j) with _ | a
  · rw [hA] at h2; cases h2
  · rcases hO : oneS S h xs[j] with _ | ⟨f, l⟩
    · rw [hA, hO] at h2; cases h2
    · rw [hA, hO] at h2
      simp only at h2
      split at h2
      · rename_i hf
        subst hf
        exact (one_srt S h _ _ _ hO).low x hx
      · cases h2
theorem items_lt {S : Sto} {h : Nat} {xs : List It} (hs : (spanS S h xs).isSome = true) {i : Nat} (hi : i < xs.length) {x : It} (hx : x ∈ itemsS S h (xs.take i)) : lessK (keyIt x) (keyIt xs[i]) = true := by
  rcases Nat.eq_zero_or_pos i with h0 | h0
  · subst h0
    rw [List.take_zero, items_nil] at hx
    cases hx
  · obtain ⟨j, rfl⟩ : ∃ j, i = j + 1 := ⟨i - 1, by omega⟩
    have h2 := span_take_some hs (j + 1 + 1)
    rw [spanS_take hi] at h2
    unfold stepS at h2
    rcases hA : spanS S h (xs.take (j + 1)) with _ | _ | q
    · rw [hA] at h2; cases h2
    · exact absurd hA (spanS_nil_iff (by omega) (by omega))
    · have hm := (span_srt hA).1.high x hx
      rw [hA] at h2
      rcases hO : oneS S h xs[j + 1] with _ | ⟨f, l⟩
      · rw [hO] at h2; cases h2
      · rw [hO] at h2
        simp only at h2
        split at h2
        · rename_i hf
          split at h2
          · rename_i hl
            rw [hf] at hl
            exact leK_lt hm hl
          · cases h2
        · cases h2
theorem find_ord {xs : List It} {k : K3} (ho : xs.Pairwise fun a b => lessK (keyIt a) (keyIt b) = true) : leafS xs k = xs.find? fun x => decide (keyIt x = k) := by
  rcases hf : xs.find? (fun x => decide (keyIt x = k)) with _ | y
  · refine rev_none fun j hj => ?_
    rw [List.find?_eq_none] at hf
    simpa using hf xs[j] (List.getElem_mem hj)
  · have hy := List.find?_some hf
    obtain ⟨i, hi, rfl⟩ := List.mem_iff_getElem.1 (List.mem_of_find?_eq_some hf)
    refine rev_find hi hy fun j hj hlt => ?_
    have := ord_at ho hlt hj
    rw [of_decide_eq_true hy] at this
    rw [decide_eq_false_iff_not]
    intro h
    rw [h, lessK_self] at this
    cases this
theorem down_some {xs : List It} {k : K3} {y : It} (h : downS xs k = some y) : ∃ (i : Nat) (hi : i < xs.length), xs[i] = y ∧ lessK k (keyIt y) = false ∧ ∀ j (hj : j < xs.length), i < j → lessK k (keyIt xs[j]) = true := by
  unfold downS at h
  rw [List.find?_eq_some_iff_getElem] at h
  obtain ⟨h1, i, hi, h2, h3⟩ := h
  rw [List.length_reverse] at hi
  refine ⟨xs.length - 1 - i, by omega, ?_, by simpa using h1, fun j hj hlt => ?_⟩
  · rw [List.getElem_reverse] at h2
    exact h2
  · have := h3 (xs.length - 1 - j) (by omega)
    rw [List.getElem_reverse] at this
    simp only [show xs.length - 1 - (xs.length - 1 - j) = j by omega] at this
    simpa using this
theorem one_items {S : Sto} {k : K3} : ∀ {h : Nat} {xs : List It}, (spanS S h xs).isSome = true → oneT S k h xs = (itemsS S h xs).find? fun x => decide (keyIt x = k)
  | 0, xs, hs => find_ord (span_ord hs).2
  | h + 1, xs, hs => by
    rcases hd : downS xs k with _ | y
    · rw [one_none hd, eq_comm, List.find?_eq_none]
      intro x hx
      obtain ⟨j, hj, hx⟩ := items_mem hx
      have h1 := one_low hs hj hx
      unfold downS at hd
      rw [List.find?_eq_none] at hd
      have h2 : lessK k (keyIt xs[j]) = true := by simpa using hd xs[j] (by simp)
      have h3 := lt_leK h2 h1
      rw [decide_eq_true_eq]
      intro he
      rw [he, lessK_self] at h3
      cases h3
    · obtain ⟨i, hi, rfl, hle, hgt⟩ := down_some hd
      obtain ⟨b, e, -, -, ys, hn, hys⟩ := one_tree (span_one hs xs[i] (List.getElem_mem hi))
      have hnx : nodeAt S xs[i].r.toNat = some ((h : Int), ys) := by rw [e, Int.toNat_natCast]; exact hn
      rw [one_down hd hnx, one_items hys]
      have e1 : xs = xs.take i ++ ([xs[i]] ++ xs.drop (i + 1)) := by
        rw [List.singleton_append, ← List.drop_eq_getElem_cons hi, List.take_append_drop]
      have e2 : itemsS S (h + 1) xs = itemsS S (h + 1) (xs.take i) ++ (itemsS S h ys ++ itemsS S (h + 1) (xs.drop (i + 1))) := by
        conv => lhs; rw [e1]
        rw [items_append, items_append]
        congr 2
        rw [items_succ]
        simp [hnx]
      rw [e2, List.find?_append, List.find?_append]
      have n1 : (itemsS S (h + 1) (xs.take i)).find? (fun x => decide (keyIt x = k)) = none := by
        rw [List.find?_eq_none]
        intro x hx
        have h1 := lt_leK (items_lt hs hi hx) hle
        rw [decide_eq_true_eq]
        intro he
        rw [he, lessK_self] at h1
        cases h1
      have n2 : (itemsS S (h + 1) (xs.drop (i + 1))).find? (fun x => decide (keyIt x = k)) = none := by
        rw [List.find?_eq_none]
        intro x hx
        obtain ⟨j, hj, hx⟩ := items_mem hx
        rw [List.length_drop] at hj
        simp only [List.getElem_drop] at hx
        have h1 := lt_leK (hgt (i + 1 + j) (by omega) (by omega)) (one_low hs (by omega) hx)
        rw [decide_eq_true_eq]
        intro he
        rw [he, lessK_self] at h1
        cases h1
      rw [n1, n2]
      simp
end Go.Proofs.YtckhnchnbeoogaaGreat
/- Contracts: the item of a key, in a tree that may be. -/
namespace Go.Proofs.YtckhnchnbeoogaaGreat
set_option linter.unusedSimpArgs false
set_option linter.unusedVariables false
open Go.RowKit

abbrev itemCs (x : It) (A : Option Addr) (c : Nat) : Array Value := #[.int .u8 x.k, .int .u32 x.i, .int .u32 x.o, .int .i64 x.r, .slice A x.val.length c]
abbrev item0 : Array Value := #[.int .u8 0, .int .u32 0, .int .u32 0, .int .i64 0, .slice none 0 0]
def FindQ (lo : Nat) (q : Option It) (u : Value) (W : World) : Prop := match q with
  | none => u = .tuple #[.agg item0, .int .i64 6]
  | some x => ∃ A c, u = .tuple #[.agg (itemCs x A c), .int .i64 0] ∧ Bys W W.heap.size (.slice A x.val.length c) x.val ∧ From lo (.slice A x.val.length c)
theorem its_item_from {w : World} {lo b off n c : Nat} {xs : List It} (h : ItsF lo w (.slice (some ⟨b, off, none⟩) n c) xs) (i : Nat) (hi : i < xs.length) : ∃ A' c', ItAt w w.heap.size b (off + i * 5) xs[i] A' c' ∧ From lo (.slice A' xs[i].val.length c') := by
  obtain ⟨ps, rfl, ⟨A, c1, e, _, _, hr⟩, hp, hf, hg⟩ := h
  cases e
  have hi' : i < ps.length := by simpa using hi
  obtain ⟨b', off', e, hb, hc⟩ := hr.2 (by omega)
  cases e
  obtain ⟨c0, c1, c2, c3, c4⟩ := cells5_at ps i hi'
  have hgi := hg ps[i] (List.getElem_mem hi')
  obtain ⟨⟨A', c', e5⟩, hby⟩ := hp ps[i] (List.getElem_mem hi')
  rw [e5] at c4 hby hgi
  refine ⟨A', c', ?_, by simpa using hgi⟩
  simp only [List.getElem_map]
  refine ⟨hc _ _ c0, ?_, ?_, ?_, ?_, hby⟩
  · rw [Nat.add_assoc]; exact hc _ _ c1
  · rw [Nat.add_assoc]; exact hc _ _ c2
  · rw [Nat.add_assoc]; exact hc _ _ c3
  · rw [Nat.add_assoc]; exact hc _ _ c4
def lvlOf (S : Sto) (i : Value) : Nat := match nodeAt S (intOf i).toNat with
  | some (l, _) => l.toNat
  | none => 0
theorem lvlOf_eq {S : Sto} {r h : Nat} {ys : List It} (hn : nodeAt S r = some ((h : Int), ys)) : lvlOf S (.int .i64 (r : Int)) = h := by
  unfold lvlOf intOf
  simp only [Int.toNat_natCast]
  rw [hn]
  simp
structure FnI (S : Sto) (K : K3) (q : Option It) (w2 : World) (i : Value) (wr : World) : Prop where
  ex : ∃ (h r : Nat) (ys : List It), i = .int .i64 (r : Int) ∧ 8 ≤ r ∧ r < 256 ∧ nodeAt S r = some ((h : Int), ys) ∧ (spanS S h ys).isSome = true ∧ oneT S K h ys = q ∧ Ext w2 wr
theorem ffind_ret {R : Ending → World → Prop} {a : Act} {W : World} {b : Nat} {cs : Array Value} {v : Value} (h6 : a.tmps[6]?.getD undef = .pointer (some ⟨b, 0, none⟩)) (h7 : a.tmps[7]?.getD undef = v) (hd : a.defers = [])
    (hrow : W.heap[b]? = some (.cells cs 38 (0, 0))) (hs : ∃ x0 x1 x2 x3 x4, cs = #[x0, x1, x2, x3, x4]) (hR : R (.returned (.tuple #[.agg cs, v])) W) : bodyPost Tryz.prog Tryz.f26 R .ret a W := by
  refine bodyPost_ret (v := .tuple #[.agg cs, v]) ?_ hd hR
  have k := cells_row hrow
  obtain ⟨x0, x1, x2, x3, x4, rfl⟩ := hs
  simp [results, Tryz.results26, go_sem, h6, h7, k]

theorem row5 {w : World} {b : Nat} {ty : TypeId} {y0 y1 y2 y3 y4 : Value} (h : w.heap[b]? = some (.cells #[y0, y1, y2, y3, y4] ty (0, 0))) (x0 x1 x2 x3 x4 : Value) :
    (((((w.setCell ⟨b, 0, none⟩ x0).setCell ⟨b, 1, none⟩ x1).setCell ⟨b, 2, none⟩ x2).setCell ⟨b, 3, none⟩ x3).setCell ⟨b, 4, none⟩ x4).heap[b]? = some (.cells #[x0, x1, x2, x3, x4] ty (0, 0)) := row_set (row_set (row_set (row_set (row_set h 0 x0) 1 x1) 2 x2) 3 x3) 4 x4
theorem below5 {w0 w : World} {B b : Nat} (h : Below B w0 w) (hb : B ≤ b) (x0 x1 x2 x3 x4 : Value) :
    Below B w0 (((((w.setCell ⟨b, 0, none⟩ x0).setCell ⟨b, 1, none⟩ x1).setCell ⟨b, 2, none⟩ x2).setCell ⟨b, 3, none⟩ x3).setCell ⟨b, 4, none⟩ x4) :=
  Below.setCell (Below.setCell (Below.setCell (Below.setCell (Below.setCell h (p := ⟨b, 0, none⟩) hb _) (p := ⟨b, 1, none⟩) hb _) (p := ⟨b, 2, none⟩) hb _) (p := ⟨b, 3, none⟩) hb _) (p := ⟨b, 4, none⟩) hb _
theorem its_set5 {w : World} {lo b : Nat} {v : Value} {xs : List It} (h : ItsF lo w v xs) (hb : b < lo) (x0 x1 x2 x3 x4 : Value) :
    ItsF lo (((((w.setCell ⟨b, 0, none⟩ x0).setCell ⟨b, 1, none⟩ x1).setCell ⟨b, 2, none⟩ x2).setCell ⟨b, 3, none⟩ x3).setCell ⟨b, 4, none⟩ x4) v xs := by
  refine h.keep (by simp) (fun q hq _ => ?_)
  have hne : ∀ j, (⟨b, j, none⟩ : Addr) ≠ q := fun j e => by subst e; simp at hq; omega
  rw [World.cell?_setCell_other _ _ _ _ (hne _), World.cell?_setCell_other _ _ _ _ (hne _), World.cell?_setCell_other _ _ _ _ (hne _), World.cell?_setCell_other _ _ _ _ (hne _), World.cell?_setCell_other _ _ _ _ (hne _)]
theorem bys_set5 {w : World} {b lo : Nat} {v : Value} {l : List UInt8} (h : Bys w w.heap.size v l) (hf : From lo v) (hb : b < lo) (x0 x1 x2 x3 x4 : Value) :
    Bys (((((w.setCell ⟨b, 0, none⟩ x0).setCell ⟨b, 1, none⟩ x1).setCell ⟨b, 2, none⟩ x2).setCell ⟨b, 3, none⟩ x3).setCell ⟨b, 4, none⟩ x4) (((((w.setCell ⟨b, 0, none⟩ x0).setCell ⟨b, 1, none⟩ x1).setCell ⟨b, 2, none⟩ x2).setCell ⟨b, 3, none⟩ x3).setCell ⟨b, 4, none⟩ x4).heap.size v l := by
  have := ((((h.setCell hf (p := ⟨b, 0, none⟩) hb x0).setCell hf (p := ⟨b, 1, none⟩) hb x1).setCell hf (p := ⟨b, 2, none⟩) hb x2).setCell hf (p := ⟨b, 3, none⟩) hb x3).setCell hf (p := ⟨b, 4, none⟩) hb x4
  refine this.more ?_
  simp
theorem its_cell {w : World} {lo b : Nat} {v : Value} {xs : List It} (_ : ItsF lo w v xs) {q : Addr} (hb : b < lo) (x0 x1 x2 x3 x4 : Value) (hq : lo ≤ q.block) :
    (((((w.setCell ⟨b, 0, none⟩ x0).setCell ⟨b, 1, none⟩ x1).setCell ⟨b, 2, none⟩ x2).setCell ⟨b, 3, none⟩ x3).setCell ⟨b, 4, none⟩ x4).cell? q = w.cell? q := by
  have hne : ∀ j, (⟨b, j, none⟩ : Addr) ≠ q := fun j e => by subst e; simp at hq; omega
  rw [World.cell?_setCell_other _ _ _ _ (hne _), World.cell?_setCell_other _ _ _ _ (hne _), World.cell?_setCell_other _ _ _ _ (hne _), World.cell?_setCell_other _ _ _ _ (hne _), World.cell?_setCell_other _ _ _ _ (hne _)]
set_option maxHeartbeats 8000000 in
set_option maxRecDepth 100000 in
theorem ffind_any (A1 : Option Addr) (n1 c1 : Nat) (A2 : Option Addr) (n2 c2 : Nat) (A3 : Option Addr) (n3 c3 : Nat) (A4 : Option Addr) (n4 c4 : Nat) (S : Sto) (hS : storeMay S = true) (a lvl : Nat) (xs : List It) (ha : 8 ≤ a) (ha2 : a < 256) (hn : nodeAt S a = some ((lvl : Int), xs)) (hsp : (spanS S lvl xs).isSome = true) (k i o : Int) (w : World)
    (hst : StoAt w w.heap.size (.slice A1 n1 c1) (.slice A2 n2 c2) (.slice A3 n3 c3) (.slice A4 n4 c4) S) :
    Calls Tryz.prog 26 #[storeV A1 n1 c1 A2 n2 c2 A3 n3 c3 A4 n4 c4, .int .i64 (a : Int), keyV k i o] w (RetS (FindQ w.heap.size (oneT S (k, i, o) lvl xs)) w) := by
  have HCK := Lib.hid (fun W (hx : Ext w W) => fcheck_any A1 n1 c1 A2 n2 c2 A3 n3 c3 A4 n4 c4 S hS a ⟨ha, ha2, lvl, xs, hn, hsp⟩ W (hst.ext hx))
  have HON := Lib.hid (fun W (hx : Ext w W) => on_any A1 n1 c1 A2 n2 c2 A3 n3 c3 A4 n4 c4 S (by have := (storeMay_len hS).2.2.1; omega) W (hst.ext hx))
  obtain ⟨q, hq⟩ : ∃ q, oneT S (k, i, o) lvl xs = q := ⟨_, rfl⟩
  rw [hq]
  have HI0 : ∀ W, FnI S (k, i, o) q W (.int .i64 (a : Int)) W := fun W => ⟨lvl, a, xs, rfl, ha, ha2, hn, hsp, hq, Ext.refl _⟩
  replace HI0 := Lib.hid HI0
  replace hS := Lib.hid hS
  clear hst hn hsp hq ha ha2
  go_enter Tryz.func26, Tryz.ntmps26
  go_wp2_with fail
  generalize hw1 : (World.alloc (World.alloc (World.alloc w _) _) _) = w1
  have x1 : Ext w w1 := by rw [← hw1]; exact ((Ext.alloc _ _).trans (Ext.alloc _ _)).trans (Ext.alloc _ _)
  have rs1 : w1.heap[w.heap.size]? = some (.cells #[.slice A1 n1 c1, .slice A2 n2 c2, .slice A3 n3 c3, .slice A4 n4 c4] 28 (0, 0)) := by rw [← hw1]; exact (Below.heap_alloc _ _ _ (by simp; omega)).trans ((Below.heap_alloc _ _ _ (by simp)).trans (World.alloc_heap_at _ _ _ rfl))
  have rk1 : w1.heap[w.heap.size + 1]? = some (.cells #[.int .u8 k, .int .u32 i, .int .u32 o] 34 (0, 0)) := by rw [← hw1]; exact (Below.heap_alloc _ _ _ (by simp)).trans (World.alloc_heap_at _ _ _ (by simp))
  have ri1 : w1.heap[w.heap.size + 2]? = some (.cells item0 38 (0, 0)) := by rw [← hw1]; exact World.alloc_heap_at _ _ _ (by simp)
  clear hw1
  have ks1 := cells_row rs1
  go_step3
  go_wp2_with fail
  refine (HCK.out w1 x1).mono ?_
  clear HCK
  rintro e w2 ⟨u, rfl, ⟨m, rfl⟩, hB⟩
  have x2 : Ext w w2 := Ext.trans x1 hB
  have rs2 := row_ext rs1 hB
  have rk2 := row_ext rk1 hB
  have ri2 := row_ext ri1 hB
  clear rs1 rk1 ri1 hB x1 ks1
  have ks2 := cells_row rs2
  go_wp2_with fail
  refine (HON.out w2 x2).mono ?_
  clear HON
  rintro e w3 ⟨u, rfl, ⟨bb, A3', c3', rfl, hOn, -⟩, hB⟩
  have x3 : Ext w w3 := Ext.trans x2 hB
  have rk3 := row_ext rk2 hB
  have ri3 := row_ext ri2 hB
  clear rs2 rk2 ri2 hB x2 ks2
  replace hOn := Lib.hid hOn
  have I0 := Lib.hid (HI0.out w3)
  clear HI0
  go_wp2_with fail
  go_step3
  go_wp2_with fail
  go_loopw [10] (fun j wr => FnI S (k, i, o) q w3 j wr) (fun j _ => lvlOf S j)
  case atStart => exact I0.out
  case round =>
    obtain ⟨h, r, ys, rfl, h8, h256, hn, hsp, hq, xr⟩ := hrel.ex
    clear I0 hrel
    have hlv := lvlOf_eq hn
    obtain ⟨hm1, hm2, -⟩ := nodeAt_may hn
    have hyl : ys.length ≤ 5 := by unfold nodeMay headB at hm1; simp at hm1; omega
    have hord := (span_ord hsp).2
    have hBN := bnode_any 0 bb A1 n1 c1 A2 n2 n2 A3' n3 c3' A4 n4 c4 S hS.out r h8 h256 wr ⟨Nat.zero_le _, (hOn.out.ext xr).2⟩
    rw [hn] at hBN
    have xwr := x3.trans xr
    have rkr := row_ext rk3 xr
    have rir := row_ext ri3 xr
    have zr : w.heap.size + 2 < wr.heap.size := (Array.getElem?_eq_some_iff.1 rir).1
    replace hlv := Lib.hid hlv
    replace hsp := Lib.hid hsp
    replace hn := Lib.hid hn
    replace hq := Lib.hid hq
    replace hm2 := Lib.hid hm2
    replace hord := Lib.hid hord
    clear hm1
    go_wp2_with fail
    refine hBN.mono ?_
    clear hBN
    rintro e w4 ⟨u, rfl, ⟨A9, c9, rfl, hits⟩, hB⟩
    have hB' : Ext wr w4 := hB
    have x4 := xwr.trans hB'
    have rk4 := row_ext rkr hB'
    have ri4 := row_ext rir hB'
    have z4 : w.heap.size + 2 < w4.heap.size := (Array.getElem?_eq_some_iff.1 ri4).1
    have kk4 := cells_row rk4
    have z41 : w.heap.size + 1 < w4.heap.size := by omega
    replace hits := Lib.hid hits
    replace xr := Lib.hid (xr.trans hB')
    clear rkr rir hB hB' xwr
    go_wp2_with fail
    generalize hw5 : (World.alloc w4 _) = w5
    have x5 : Ext w4 w5 := by rw [← hw5]; exact Ext.alloc _ _
    have rn5 : w5.heap[w4.heap.size]? = some (.cells #[.int .i64 h, .slice A9 ys.length c9] 118 (0, 0)) := by rw [← hw5]; exact World.alloc_heap_at _ _ _ rfl
    clear hw5
    refine (place_any (h : Int) A9 c9 ys k i o _ w5 hyl (hits.out.ext x5)).mono ?_
    rintro e w6 ⟨rfl, hB⟩
    have x56 : Ext w4 w6 := x5.trans hB
    have rn6 := row_ext rn5 hB
    have ri6 := row_ext ri4 x56
    have kn6 := cells_row rn6
    have fi6 := frozen_row ri6
    have ki6 := cells_row ri6
    have z6 : w.heap.size + 2 < w6.heap.size := (Array.getElem?_eq_some_iff.1 ri6).1
    have hits6 := Lib.hid (hits.out.ext x56)
    replace xr := Lib.hid (xr.out.trans x56)
    replace x4 := Lib.hid (x4.trans x56)
    clear rn5 x5 hB x56 rk4 ri4 kk4 z4 z41
    have hA := hits6.out.its.at_.2.2.2
    have hplc := place_le ys (k, i, o)
    have hIT := Lib.hid (fun j (hj : j < ys.length) b9 off (he : A9 = some ⟨b9, off, none⟩) => by have := hits6.out.its; rw [he] at this; exact this.item j hj)
    obtain ⟨ie, hie⟩ : ∃ ie, isAt ys (k, i, o) = ie := ⟨_, rfl⟩
    obtain ⟨p, hp⟩ : ∃ p, placeN ys (k, i, o) = p := ⟨_, rfl⟩
    have hT : ie = true → ∃ hp : placeN ys (k, i, o) < ys.length, keyIt (ys[placeN ys (k, i, o)]'hp) = (k, i, o) := fun h0 => by
      rw [h0] at hie
      by_cases hl : placeN ys (k, i, o) < ys.length
      · rw [isAt_lt hl] at hie
        exact ⟨hl, of_decide_eq_true hie⟩
      · rw [isAt_ge hl] at hie; cases hie
    have hF : ie = false → ∀ hp : placeN ys (k, i, o) < ys.length, keyIt (ys[placeN ys (k, i, o)]'hp) ≠ (k, i, o) := fun h0 hl => by
      rw [h0, isAt_lt hl] at hie
      exact of_decide_eq_false hie
    rw [hie, hp]
    rw [hp] at hplc
    have hT' := Lib.hid hT
    have hF' := Lib.hid hF
    replace hp := Lib.hid hp
    replace hie := Lib.hid hie
    clear hT hF
    have HREL := Lib.hid (fun (x : It) (hx : x ∈ ys) (hd : downS ys (k, i, o) = some x) (h' : Nat) (hh : h = h' + 1) => by
      have h1 := span_one hsp.out x hx
      rw [hh] at h1
      obtain ⟨b, e1, e2, e3, zs, e4, e5⟩ := one_tree h1
      have e6 : nodeAt S x.r.toNat = some ((h' : Int), zs) := by rw [e1, Int.toNat_natCast]; exact e4
      have e7 : oneT S (k, i, o) h' zs = q := by rw [← one_down hd e6, ← hh]; exact hq.out
      have e8 : lvlOf S (.int .i64 (b : Int)) < lvlOf S (.int .i64 (r : Int)) := by rw [lvlOf_eq e4, hlv.out]; omega
      exact (⟨b, e1, ⟨⟨h', b, zs, rfl, e2, e3, e4, e5, e7, xr.out⟩⟩, e8⟩ : ∃ b : Nat, x.r = (b : Int) ∧ FnI S (k, i, o) q w3 (.int .i64 (b : Int)) w6 ∧ lvlOf S (.int .i64 (b : Int)) < lvlOf S (.int .i64 (r : Int))))
    rcases Nat.eq_zero_or_pos h with h0 | h0
    · have hh1 : ((h : Int) == 0) = true := by rw [beq_iff_eq]; omega
      have hh2 : decide (h = 0) = true := decide_eq_true h0
      clear HREL
      cases ie
      · have hz : q = none := by rw [← hq.out, h0, one_zero, leaf_no hord.out (hF'.out rfl)]
        replace h0 := Lib.hid h0
        replace hz := Lib.hid hz
        clear hA hplc
        go_wp2_with fail
        exact ffind_ret (b := w.heap.size + 2) rfl rfl rfl (row5 ri6 _ _ _ _ _) ⟨_, _, _, _, _, rfl⟩ ⟨_, rfl, by rw [hz.out]; rfl, below5 x4.out (by omega) _ _ _ _ _⟩
      · obtain ⟨hpl, hke⟩ := hT'.out rfl
        have hz : q = some ys[placeN ys (k, i, o)] := by rw [← hq.out, h0, one_zero, leaf_is hord.out hpl hke]
        obtain ⟨b9, off, rfl, hb9⟩ := hA (by omega)
        obtain ⟨A', c', d0, d1, d2, d3, d4, -⟩ := hIT.out _ hpl b9 off rfl
        have hfr := Lib.hid (fun j => its_from hits6.out b9 off ys.length c9 j rfl (by omega))
        have hI5 := fun x0 x1 x2 x3 x4 => its_item_from (its_set5 hits6.out (b := w.heap.size + 1 + 1) (by omega) x0 x1 x2 x3 x4) _ hpl
        have hpp := hp.out
        generalize ys[placeN ys (k, i, o)] = x at *
        simp only [hpp] at hpl d0 d1 d2 d3 d4 hI5
        replace h0 := Lib.hid h0
        replace hz := Lib.hid hz
        replace hI5 := Lib.hid hI5
        replace hke := Lib.hid hke
        clear hA hplc hpp hb9
        go_wp2_with fail
        obtain ⟨A'', c'', ⟨-, -, -, -, g4, gb⟩, gf⟩ := hI5.out (.int .u8 x.k) (.int .u32 x.i) (.int .u32 x.o) (.int .i64 x.r) (.slice A' x.val.length c')
        have hsame := its_cell hits6.out (b := w.heap.size + 1 + 1) (q := ⟨b9, off + p * 5 + 4, none⟩) (by omega) (.int .u8 x.k) (.int .u32 x.i) (.int .u32 x.o) (.int .i64 x.r) (.slice A' x.val.length c') (hfr.out 0)
        rw [hsame, d4] at g4
        simp only [Option.some.injEq, Value.slice.injEq, true_and] at g4
        obtain ⟨rfl, rfl⟩ := g4
        exact ffind_ret (b := w.heap.size + 2) rfl rfl rfl (row5 ri6 _ _ _ _ _) ⟨_, _, _, _, _, rfl⟩ ⟨_, rfl, by rw [hz.out]; exact ⟨A', c', rfl, gb, gf.mono (by omega)⟩, below5 x4.out (by omega) _ _ _ _ _⟩
    · have hh1 : ((h : Int) == 0) = false := by rw [beq_eq_false_iff_ne]; omega
      have hh2 : decide (h = 0) = false := decide_eq_false (by omega)
      obtain ⟨h', hh⟩ : ∃ h', h = h' + 1 := ⟨h - 1, by omega⟩
      replace hh := Lib.hid hh
      replace h0 := Lib.hid h0
      cases ie
      · rcases Nat.eq_zero_or_pos p with hp0 | hp0
        · have hz : q = none := by rw [← hq.out, hh.out, one_none (down_no hord.out (by rw [hp.out]; exact hp0) (hF'.out rfl))]
          have hp1 : ((p : Int) == 0) = true := by rw [beq_iff_eq]; omega
          have hp2 : decide (p = 0) = true := decide_eq_true hp0
          replace hp0 := Lib.hid hp0
          replace hz := Lib.hid hz
          clear hA hplc HREL
          go_wp2_with fail
          exact ffind_ret (b := w.heap.size + 2) rfl rfl rfl (row5 ri6 _ _ _ _ _) ⟨_, _, _, _, _, rfl⟩ ⟨_, rfl, by rw [hz.out]; rfl, below5 x4.out (by omega) _ _ _ _ _⟩
        · have hd := down_before hord.out (by rw [hp.out]; exact hp0) (hF'.out rfl)
          have hp1 : ((p : Int) == 0) = false := by rw [beq_eq_false_iff_ne]; omega
          have hp2 : decide (p = 0) = false := decide_eq_false (by omega)
          simp only [hp.out] at hd
          obtain ⟨b', e1, e2, e3⟩ := HREL.out _ (List.getElem_mem _) hd h' hh.out
          obtain ⟨x, hx⟩ : ∃ x, ys[p - 1]'(by omega) = x := ⟨_, rfl⟩
          rw [hx] at hd e1
          obtain ⟨p', rfl⟩ : ∃ p', p = p' + 1 := ⟨p - 1, by omega⟩
          obtain ⟨b9, off, rfl, hb9⟩ := hA (by omega)
          obtain ⟨A', c', -, -, -, d3, -, -⟩ := hIT.out p' (by omega) b9 off rfl
          simp only [Nat.add_sub_cancel] at hx
          rw [hx, e1] at d3
          replace hx := Lib.hid hx
          have hw64 : wrap64 (((p' + 1 : Nat) : Int) - 1) = (p' : Int) := by rw [IntWalk.wrap64_in _ (by omega)]; omega
          have hlt : p' < ys.length := by omega
          replace hw64 := hw64
          replace hd := Lib.hid hd
          replace e1 := Lib.hid e1
          replace e2 := Lib.hid e2
          replace e3 := Lib.hid e3
          clear hA HREL
          replace hplc := Lib.hid hplc
          replace hp0 := Lib.hid hp0
          go_wp2_with fail
          exact ⟨e2.out, e3.out⟩
      · obtain ⟨hpl, hke⟩ := hT'.out rfl
        have hd := down_is hord.out hpl hke
        obtain ⟨b', e1, e2, e3⟩ := HREL.out _ (List.getElem_mem _) hd h' hh.out
        obtain ⟨b9, off, rfl, hb9⟩ := hA (by omega)
        obtain ⟨A', c', -, -, -, d3, -, -⟩ := hIT.out _ hpl b9 off rfl
        rw [e1] at d3
        have hpp := hp.out
        simp only [hpp] at hpl d3
        replace hd := Lib.hid hd
        replace hke := Lib.hid hke
        replace e1 := Lib.hid e1
        replace e2 := Lib.hid e2
        replace e3 := Lib.hid e3
        clear hA HREL hplc hpp
        obtain ⟨pz, hp1, hp2⟩ : ∃ pz : Bool, ((p : Int) == 0) = pz ∧ decide (p = 0) = pz := by
          rcases Nat.eq_zero_or_pos p with hp0 | hp0
          · exact ⟨true, by rw [beq_iff_eq]; omega, decide_eq_true hp0⟩
          · exact ⟨false, by rw [beq_eq_false_iff_ne]; omega, decide_eq_false (by omega)⟩
        cases pz
        all_goals
          go_wp2_with fail
          exact ⟨e2.out, e3.out⟩
end Go.Proofs.YtckhnchnbeoogaaGreat
