/- Texts DVol, DFind, Betw, IterW, joined. -/
import Derived.RangeFuncKeeps
import Derived.RangeFuncBound
import Derived.RangeFuncLeaves
import Derived.Shelf.Abstract
import Derived.OwnWalkIn
import Derived.TacticsInMore
import Derived.Test.YtckhnchnbeoogaaGreatT21
import Derived.Test.YtckhnchnbeoogaaGreatT23
import Derived.Test.YtckhnchnbeoogaaGreatT25
import Derived.Test.YtckhnchnbeoogaaGreatT26
/- Contracts: one volume of a pool (the document). -/
namespace Go.Proofs.YtckhnchnbeoogaaGreat
set_option linter.unusedSimpArgs false
set_option linter.unusedVariables false
open Go.RowKit

theorem pool_forest {S : Sto} {root next : Int} {dead : List Int} {vs : List Vol} (h : PoolB S root next dead vs) :
    ∃ (a lvl : Nat) (xs : List It), root = (a : Int) ∧ 8 ≤ a ∧ a < 256 ∧ nodeAt S a = some ((lvl : Int), xs) ∧ (spanS S lvl xs).isSome = true ∧ (∀ y ∈ itemsS S lvl xs, isVol y = true ∧ ItOk y) ∧ vs = (itemsS S lvl xs).map volAt := by
  obtain ⟨a, rfl, h8, h256, lvl, xs, hn, hsp⟩ := okL_root h.top
  have hv := h.vols
  rw [vols_of hn] at hv
  split at hv
  · rename_i hc
    cases hv
    have hok := items_ok (S := S) lvl xs fun x hx => ((nodeAt_may hn).2.1 x hx).1
    refine ⟨a, lvl, xs, rfl, h8, h256, hn, hsp, fun y hy => ⟨?_, hok y hy⟩, rfl⟩
    have := List.all_eq_true.1 hc.1 y hy
    unfold volGood at this
    simp at this
    exact this.1
  · cases hv
def DVolQ (S : Sto) (root next : Int) (dead : List Int) (id : Int) (w : World) (e : Ending) (w' : World) : Prop := Below w.heap.size w w' ∧
  ((e = .returned (.tuple #[volV vol0, .int .i64 8]) ∧ ∀ vs, PoolB S root next dead vs → ∃ refs met, Marked (kidsS S) (refsS S) (rootsN root dead vs) (metB met) refs ∧ ¬ Enough S refs) ∨
    ∃ vs refs met, PoolB S root next dead vs ∧ Marked (kidsS S) (refsS S) (rootsN root dead vs) (metB met) refs ∧ Enough S refs ∧ e = .returned (volQ (volOf vs id)))
theorem dvol_ret {R : Ending → World → Prop} {a : Act} {W : World} {b : Nat} {u : Vol} {v : Value} (h4 : a.tmps[4]?.getD undef = .pointer (some ⟨b, 0, none⟩)) (h5 : a.tmps[5]?.getD undef = v) (hd : a.defers = [])
    (hrow : W.heap[b]? = some (.cells #[.int .u32 u.id, .int .i64 u.root, .bool u.fz, .int .u32 u.frm] 70 (0, 0))) (hR : R (.returned (.tuple #[volV u, v])) W) : bodyPost Tryz.prog Tryz.f27 R .ret a W := by
  refine bodyPost_ret (v := .tuple #[volV u, v]) ?_ hd hR
  have k := cells_row hrow
  simp [results, Tryz.results27, go_sem, h4, h5, k]

set_option maxHeartbeats 4000000 in
set_option maxRecDepth 100000 in
theorem dvol_any (A1 : Option Addr) (n1 c1 : Nat) (A2 : Option Addr) (n2 c2 : Nat) (A3 : Option Addr) (n3 c3 : Nat) (A4 : Option Addr) (n4 c4 : Nat) (gen root next : Int) (A5 : Option Addr) (c5 : Nat) (S : Sto) (dead : List Int) (id : Int) (w : World)
    (h : StoAt w w.heap.size (.slice A1 n1 c1) (.slice A2 n2 c2) (.slice A3 n3 c3) (.slice A4 n4 c4) S) (hd : Ints w w.heap.size (.slice A5 dead.length c5) dead) :
    Calls Tryz.prog 27 #[.agg (poolCs (.slice A1 n1 c1) (.slice A2 n2 c2) (.slice A3 n3 c3) (.slice A4 n4 c4) gen root next (.slice A5 dead.length c5)), .int .u32 id] w (DVolQ S root next dead id w) := by
  have HT := Lib.hid (fun W (hx : Ext w W) => may14_any A1 n1 c1 A2 n2 c2 A3 n3 c3 A4 n4 c4 gen root next A5 c5 S dead W (h.ext hx) (by
    obtain ⟨A, c, e, q1, q2, q3⟩ := hd
    exact ⟨A, c, e, q1, q2, (q3.below hx).more hx.size⟩))
  have HS := Lib.hid h
  clear h hd
  go_enter Tryz.func27, Tryz.ntmps27
  go_wp2_with fail
  generalize hw1 : (World.alloc (World.alloc w _) _) = w1
  have x1 : Ext w w1 := by rw [← hw1]; exact (Ext.alloc _ _).trans (Ext.alloc _ _)
  have rp1 : w1.heap[w.heap.size]? = some (.cells (poolCs (.slice A1 n1 c1) (.slice A2 n2 c2) (.slice A3 n3 c3) (.slice A4 n4 c4) gen root next (.slice A5 dead.length c5)) 32 (0, 0)) := by rw [← hw1]; exact (Below.heap_alloc _ _ _ (by simp)).trans (World.alloc_heap_at _ _ _ rfl)
  have rv1 : w1.heap[w.heap.size + 1]? = some (.cells #[.int .u32 0, .int .i64 0, .bool false, .int .u32 0] 70 (0, 0)) := by rw [← hw1]; exact World.alloc_heap_at _ _ _ (by simp)
  clear hw1
  refine (HT.out w1 x1).mono ?_
  clear HT
  rintro e w2 ⟨hB, hQ⟩
  have x2 : Ext w w2 := Ext.trans x1 hB
  have rp2 := row_ext rp1 hB
  have rv2 := row_ext rv1 hB
  have z2 : w.heap.size + 1 < w2.heap.size := (Array.getElem?_eq_some_iff.1 rv2).1
  clear rp1 rv1 x1 hB
  rcases hQ with ⟨rfl, hno⟩ | ⟨vs, refs, met, rfl, hp, hm, hen⟩
  · replace hno := Lib.hid hno
    have kv2 := cells_row rv2
    have fv2 := frozen_row rv2
    go_wp2_with fail
    exact dvol_ret (b := w.heap.size + 1) (u := vol0) rfl rfl rfl (row4 rv2 _ _ _ _) ⟨below4 x2 (by omega) _ _ _ _, .inl ⟨rfl, hno.out⟩⟩
  · obtain ⟨a, lvl, xs, rfl, h8, h256, hn, hsp, hall, hvs⟩ := pool_forest hp
    have HO := Lib.hid (fun W (hx : Ext w W) => done_any A1 n1 c1 A2 n2 c2 A3 n3 c3 A4 n4 c4 gen next A5 dead.length c5 S hp.may a lvl xs h8 h256 hn hsp hall id W (HS.out.ext hx))
    rw [← hvs] at HO
    have HB := Lib.hid (⟨hp, hm, hen⟩ : PoolB S (a : Int) next dead vs ∧ Marked (kidsS S) (refsS S) (rootsN (a : Int) dead vs) (metB met) refs ∧ Enough S refs)
    have kp2 := cells_row rp2
    clear hp hm hen hn hsp hall hvs
    go_wp2_with fail
    refine (HO.out w2 x2).mono ?_
    clear HO
    rintro e w3 ⟨u, rfl, hu, hB3⟩
    have x3 : Ext w w3 := Ext.trans x2 hB3
    have rv3 := row_ext rv2 hB3
    have kv3 := cells_row rv3
    have fv3 := frozen_row rv3
    have z3 : w.heap.size + 1 < w3.heap.size := (Array.getElem?_eq_some_iff.1 rv3).1
    clear kp2 rp2 rv2 hB3 x2 z2
    rcases hq : volOf vs id with _ | v
    · rw [hq] at hu
      obtain rfl : u = .tuple #[volV vol0, .bool false] := hu
      replace hq := Lib.hid hq
      go_wp2_with fail
      exact dvol_ret (b := w.heap.size + 1) (u := vol0) rfl rfl rfl ((Below.heap_alloc _ _ _ (by simp; omega)).trans (row4 rv3 _ _ _ _)) ⟨Below.alloc (below4 x3 (by omega) _ _ _ _) (by simp; omega) _, .inr ⟨vs, refs, met, HB.out.1, HB.out.2.1, HB.out.2.2, by rw [hq.out]; rfl⟩⟩
    · rw [hq] at hu
      obtain rfl : u = .tuple #[volV v, .bool true] := hu
      replace hq := Lib.hid hq
      go_wp2_with fail
      exact dvol_ret (b := w.heap.size + 1) (u := v) rfl rfl rfl ((Below.heap_alloc _ _ _ (by simp; omega)).trans (row4 rv3 _ _ _ _)) ⟨Below.alloc (below4 x3 (by omega) _ _ _ _) (by simp; omega) _, .inr ⟨vs, refs, met, HB.out.1, HB.out.2.1, HB.out.2.2, by rw [hq.out]; rfl⟩⟩
end Go.Proofs.YtckhnchnbeoogaaGreat
/- Contracts: an item of a volume (the document). -/
namespace Go.Proofs.YtckhnchnbeoogaaGreat
set_option linter.unusedSimpArgs false
set_option linter.unusedVariables false
open Go.RowKit

def PoolOkD (S : Sto) (root next : Int) (dead : List Int) (vs : List Vol) : Prop := ∃ refs met, PoolB S root next dead vs ∧ Marked (kidsS S) (refsS S) (rootsN root dead vs) (metB met) refs ∧ Enough S refs
def PoolBadD (S : Sto) (root next : Int) (dead : List Int) : Prop := ∀ vs, PoolB S root next dead vs → ∃ refs met, Marked (kidsS S) (refsS S) (rootsN root dead vs) (metB met) refs ∧ ¬ Enough S refs
def DFindQ (S : Sto) (root next : Int) (dead : List Int) (id : Int) (K : K3) (w : World) (e : Ending) (w' : World) : Prop := Below w.heap.size w w' ∧
  ((e = .returned (.tuple #[.agg item0, .int .i64 8]) ∧ PoolBadD S root next dead) ∨
    ∃ vs u, PoolOkD S root next dead vs ∧ e = .returned u ∧ match volOf vs id with
      | none => u = .tuple #[.agg item0, .int .i64 6]
      | some v => FindQ w.heap.size (findS S v.root K) u w')
theorem dfind_ret {R : Ending → World → Prop} {a : Act} {W : World} {b : Nat} {cs : Array Value} {v : Value} (h6 : a.tmps[6]?.getD undef = .pointer (some ⟨b, 0, none⟩)) (h7 : a.tmps[7]?.getD undef = v) (hd : a.defers = [])
    (hrow : W.heap[b]? = some (.cells cs 38 (0, 0))) (hs : ∃ x0 x1 x2 x3 x4, cs = #[x0, x1, x2, x3, x4]) (hR : R (.returned (.tuple #[.agg cs, v])) W) : bodyPost Tryz.prog Tryz.f8 R .ret a W := by
  refine bodyPost_ret (v := .tuple #[.agg cs, v]) ?_ hd hR
  have k := cells_row hrow
  obtain ⟨x0, x1, x2, x3, x4, rfl⟩ := hs
  simp [results, Tryz.results8, go_sem, h6, h7, k]
set_option maxHeartbeats 4000000 in
set_option maxRecDepth 100000 in
theorem dfind_any (A1 : Option Addr) (n1 c1 : Nat) (A2 : Option Addr) (n2 c2 : Nat) (A3 : Option Addr) (n3 c3 : Nat) (A4 : Option Addr) (n4 c4 : Nat) (gen root next : Int) (A5 : Option Addr) (c5 : Nat) (S : Sto) (dead : List Int) (id k i o : Int) (w : World)
    (h : StoAt w w.heap.size (.slice A1 n1 c1) (.slice A2 n2 c2) (.slice A3 n3 c3) (.slice A4 n4 c4) S) (hd : Ints w w.heap.size (.slice A5 dead.length c5) dead) :
    Calls Tryz.prog 8 #[.agg (poolCs (.slice A1 n1 c1) (.slice A2 n2 c2) (.slice A3 n3 c3) (.slice A4 n4 c4) gen root next (.slice A5 dead.length c5)), .int .u32 id, keyV k i o] w (DFindQ S root next dead id (k, i, o) w) := by
  have HT := Lib.hid (fun W (hx : Ext w W) => dvol_any A1 n1 c1 A2 n2 c2 A3 n3 c3 A4 n4 c4 gen root next A5 c5 S dead id W (h.ext hx) (by
    obtain ⟨A, c, e, q1, q2, q3⟩ := hd
    exact ⟨A, c, e, q1, q2, (q3.below hx).more hx.size⟩))
  have HF := Lib.hid (fun W (hx : Ext w W) (hS : storeMay S = true) a lvl xs ha ha2 hn hsp => one10_all S lvl a xs k i o A1 n1 c1 A2 n2 c2 A3 n3 c3 A4 n4 c4 W hS (h.ext hx) ha ha2 hn hsp)
  clear h hd
  go_enter Tryz.func8, Tryz.ntmps8
  go_wp2_with fail
  generalize hw1 : (World.alloc (World.alloc (World.alloc w _) _) _) = w1
  have x1 : Ext w w1 := by rw [← hw1]; exact ((Ext.alloc _ _).trans (Ext.alloc _ _)).trans (Ext.alloc _ _)
  have rp1 : w1.heap[w.heap.size]? = some (.cells (poolCs (.slice A1 n1 c1) (.slice A2 n2 c2) (.slice A3 n3 c3) (.slice A4 n4 c4) gen root next (.slice A5 dead.length c5)) 32 (0, 0)) := by rw [← hw1]; exact (Below.heap_alloc _ _ _ (by simp; omega)).trans ((Below.heap_alloc _ _ _ (by simp)).trans (World.alloc_heap_at _ _ _ rfl))
  have rk1 : w1.heap[w.heap.size + 1]? = some (.cells #[.int .u8 k, .int .u32 i, .int .u32 o] 34 (0, 0)) := by rw [← hw1]; exact (Below.heap_alloc _ _ _ (by simp)).trans (World.alloc_heap_at _ _ _ (by simp))
  have ri1 : w1.heap[w.heap.size + 2]? = some (.cells item0 38 (0, 0)) := by rw [← hw1]; exact World.alloc_heap_at _ _ _ (by simp)
  clear hw1
  refine (HT.out w1 x1).mono ?_
  clear HT
  rintro e w2 ⟨hB, hQ⟩
  have x2 : Ext w w2 := Ext.trans x1 hB
  have rp2 := row_ext rp1 hB
  have rk2 := row_ext rk1 hB
  have ri2 := row_ext ri1 hB
  have z2 : w.heap.size + 2 < w2.heap.size := (Array.getElem?_eq_some_iff.1 ri2).1
  have z20 : w.heap.size < w2.heap.size := by omega
  have z21 : w.heap.size + 1 < w2.heap.size := by omega
  clear hB x1 rp1 rk1 ri1
  rcases hQ with ⟨rfl, hno⟩ | ⟨vs, refs, met, hp, hcn, hen, rfl⟩
  · replace hno := Lib.hid hno
    have ki2 := cells_row ri2
    have fi2 := frozen_row ri2
    go_wp2_with fail
    exact dfind_ret (b := w.heap.size + 2) (cs := item0) rfl rfl rfl ((Below.heap_alloc _ _ _ (by simp; omega)).trans (row5 ri2 _ _ _ _ _)) ⟨_, _, _, _, _, rfl⟩ ⟨Below.alloc (below5 x2 (by omega) _ _ _ _ _) (by simp; omega) _, .inl ⟨rfl, hno.out⟩⟩
  · have hok := Lib.hid (⟨refs, met, hp, hcn, hen⟩ : PoolOkD S root next dead vs)
    replace hp := Lib.hid hp
    clear hcn hen
    rcases hv : volOf vs id with _ | v
    · unfold volQ
      replace hv := Lib.hid hv
      have ki2 := cells_row ri2
      have fi2 := frozen_row ri2
      go_wp2_with fail
      exact dfind_ret (b := w.heap.size + 2) (cs := item0) rfl rfl rfl ((Below.heap_alloc _ _ _ (by simp; omega)).trans (row5 ri2 _ _ _ _ _)) ⟨_, _, _, _, _, rfl⟩ ⟨Below.alloc (below5 x2 (by omega) _ _ _ _ _) (by simp; omega) _, .inr ⟨vs, _, hok.out, rfl, by rw [hv.out]; rfl⟩⟩
    · unfold volQ
      obtain ⟨a, ha, ht⟩ := root_tree hp.out (volOf_mem hv)
      obtain ⟨h8, h256, lvl, xs, hn, hsp⟩ := ht
      have hfs : findS S v.root (k, i, o) = oneT S (k, i, o) lvl xs := by
        unfold findS
        rw [ha, Int.toNat_natCast, hn]
        simp
      have HFF := Lib.hid (fun W hx => HF.out W hx hp.out.may a lvl xs h8 h256 hn hsp)
      have kp2 := cells_row rp2
      have kk2 := cells_row rk2
      replace hv := Lib.hid hv
      replace hfs := Lib.hid hfs
      replace ha := Lib.hid ha
      clear hn hsp HF
      go_wp2_with fail
      generalize hw3 : (World.alloc w2 _) = w3
      have x23 : Ext w2 w3 := by rw [← hw3]; exact Ext.alloc _ _
      clear hw3
      have hCall := HFF.out w3 (x2.trans x23)
      rw [← ha.out] at hCall
      refine hCall.mono ?_
      clear hCall HFF
      rintro e w4 ⟨u, rfl, hu, hB⟩
      have x4 : Ext w w4 := (x2.trans x23).trans hB
      have ri4 := row_ext (row_ext ri2 x23) hB
      have ki4 := cells_row ri4
      have fi4 := frozen_row ri4
      have z3 : w.heap.size + 2 < w3.heap.size := (Array.getElem?_eq_some_iff.1 (row_ext ri2 x23)).1
      have z4 : w.heap.size + 2 < w4.heap.size := (Array.getElem?_eq_some_iff.1 ri4).1
      replace x4 := Lib.hid x4
      clear kp2 kk2 rp2 rk2 ri2 hB x23 x2 z2 z20 z21
      rcases hq : oneT S (k, i, o) lvl xs with _ | x
      · rw [hq] at hu hfs
        obtain rfl : u = .tuple #[.agg item0, .bool false] := hu
        replace hq := Lib.hid hq
        go_wp2_with fail
        exact dfind_ret (b := w.heap.size + 2) (cs := item0) rfl rfl rfl ((Below.heap_alloc _ _ _ (by simp; omega)).trans (row5 ri4 _ _ _ _ _)) ⟨_, _, _, _, _, rfl⟩ ⟨Below.alloc (below5 x4.out (by omega) _ _ _ _ _) (by simp; omega) _, .inr ⟨vs, _, hok.out, rfl, by rw [hv.out]; show FindQ _ (findS S v.root (k, i, o)) _ _; rw [hfs.out]; rfl⟩⟩
      · rw [hq] at hu hfs
        obtain ⟨A, c, rfl, hby, hfr⟩ := hu
        replace hq := Lib.hid hq
        replace hby := Lib.hid hby
        replace hfr := Lib.hid hfr
        go_wp2_with fail
        exact dfind_ret (b := w.heap.size + 2) (cs := itemCs x A c) rfl rfl rfl ((Below.heap_alloc _ _ _ (by simp; omega)).trans (row5 ri4 _ _ _ _ _)) ⟨_, _, _, _, _, rfl⟩ ⟨Below.alloc (below5 x4.out (by omega) _ _ _ _ _) (by simp; omega) _, .inr ⟨vs, _, hok.out, rfl, by rw [hv.out]; show FindQ _ (findS S v.root (k, i, o)) _ _; rw [hfs.out]; exact ⟨A, c, rfl, ((bys_set5 hby.out hfr.out z3 _ _ _ _ _).below (Ext.alloc _ _)).more (Ext.alloc _ _).size, hfr.out.mono (by omega)⟩⟩⟩
end Go.Proofs.YtckhnchnbeoogaaGreat
/- Contracts: the items of a tree between two keys (the document). -/
namespace Go.Proofs.YtckhnchnbeoogaaGreat
set_option linter.unusedSimpArgs false
set_option linter.unusedVariables false
open Go.RowKit

def betw (a b : K3) (x : It) : Bool := !lessK (keyIt x) a && !lessK b (keyIt x)
structure BwI (lo : Nat) (a b : K3) (its : List It) (w2 : World) (v i : Value) (wr : World) : Prop where
  ex : ∃ (k : Nat) (ps : List (It × Value)), k ≤ its.length ∧ i = .int .i64 (k : Int) ∧ Row5 w2.heap.size lo wr v ps ∧ ps.map (·.1) = (its.take k).filter (betw a b) ∧ Ext w2 wr
theorem betw_ret {R : Ending → World → Prop} {a : Act} {W : World} {u : Value} (h2 : a.tmps[8]?.getD undef = u) (hd : a.defers = []) (hR : R (.returned u) W) : bodyPost Tryz.prog Tryz.f30 R .ret a W := by
  refine bodyPost_ret (v := u) ?_ hd hR
  simp [results, Tryz.results30, go_sem, h2]

set_option maxHeartbeats 4000000 in
set_option maxRecDepth 100000 in
theorem between_any (S : Sto) (lvl a : Nat) (xs : List It) (k1 i1 o1 k2 i2 o2 : Int) (A1 : Option Addr) (n1 c1 : Nat) (A2 : Option Addr) (n2 c2 : Nat) (A3 : Option Addr) (n3 c3 : Nat) (A4 : Option Addr) (n4 c4 : Nat) (w : World) (hS : storeMay S = true)
    (hst : StoAt w w.heap.size (.slice A1 n1 c1) (.slice A2 n2 c2) (.slice A3 n3 c3) (.slice A4 n4 c4) S) (ha : 8 ≤ a) (ha2 : a < 256) (hn : nodeAt S a = some ((lvl : Int), xs)) (hsp : (spanS S lvl xs).isSome = true) :
    Calls Tryz.prog 30 #[storeV A1 n1 c1 A2 n2 c2 A3 n3 c3 A4 n4 c4, .int .i64 (a : Int), keyV k1 i1 o1, keyV k2 i2 o2] w (RetS (fun v W => ∃ A c, v = .slice A (betweenS S lvl (k1, i1, o1) (k2, i2, o2) xs).length c ∧ ItsF w.heap.size W v (betweenS S lvl (k1, i1, o1) (k2, i2, o2) xs)) w) := by
  have hmay := (nodeAt_may hn).1
  have hlen : xs.length ≤ 5 := by unfold nodeMay headB at hmay; simp at hmay; omega
  have hle5 : lvl ≤ 5 := by unfold nodeMay headB at hmay; simp at hmay; omega
  have hil : (itemsS S lvl xs).length ≤ 15625 := Nat.le_trans (items_len (S := S) lvl xs hlen) (show 5 ^ (lvl + 1) ≤ 5 ^ 6 from Nat.pow_le_pow_right (by omega) (by omega))
  have HIT := Lib.hid (fun W (hx : Ext w W) => items_all S lvl a xs A1 n1 c1 A2 n2 c2 A3 n3 c3 A4 n4 c4 W hS (hst.ext hx) ha ha2 hn hsp)
  have hbw : betweenS S lvl (k1, i1, o1) (k2, i2, o2) xs = (itemsS S lvl xs).filter (betw (k1, i1, o1) (k2, i2, o2)) := rfl
  rw [hbw]
  generalize itemsS S lvl xs = its at *
  clear hbw hmay hlen hle5 hst hn hsp hS ha ha2
  go_enter Tryz.func30, Tryz.ntmps30
  go_wp2_with fail
  generalize hw1 : (World.alloc (World.alloc (World.alloc w _) _) _) = w1
  have x1 : Ext w w1 := by rw [← hw1]; exact ((Ext.alloc _ _).trans (Ext.alloc _ _)).trans (Ext.alloc _ _)
  have ra1 : w1.heap[w.heap.size + 1]? = some (.cells #[.int .u8 k1, .int .u32 i1, .int .u32 o1] 34 (0, 0)) := by rw [← hw1]; exact (Below.heap_alloc _ _ _ (by simp)).trans (World.alloc_heap_at _ _ _ (by simp))
  have rb1 : w1.heap[w.heap.size + 2]? = some (.cells #[.int .u8 k2, .int .u32 i2, .int .u32 o2] 34 (0, 0)) := by rw [← hw1]; exact World.alloc_heap_at _ _ _ (by simp)
  clear hw1
  refine (HIT.out w1 x1).mono ?_
  clear HIT
  rintro e w2 ⟨u, rfl, ⟨A, c, rfl, hits⟩, hB⟩
  have x2 : Ext w w2 := x1.trans hB
  have ra2 := row_ext ra1 hB
  have rb2 := row_ext rb1 hB
  have hitl := (hits.its.at_).2.2.2
  replace hits := Lib.hid (hits.mono x1.size)
  have I0 : BwI w.heap.size (k1, i1, o1) (k2, i2, o2) its w2 (.slice none 0 0) (.int .i64 0) w2 := ⟨0, [], Nat.zero_le _, rfl, Row5.nil _ _ _, rfl, Ext.refl _⟩
  replace I0 := Lib.hid I0
  clear hB ra1 rb1 x1
  go_wp2_with fail
  go_loopw [9, 11] (fun v i wr => BwI w.heap.size (k1, i1, o1) (k2, i2, o2) its w2 v i wr) (fun _ i _ => its.length - (intOf i).toNat)
  case atStart => exact I0.out
  case round =>
    obtain ⟨k, ps, hk, rfl, R5, hps, xr⟩ := hrel.ex
    clear hrel I0
    have xwr := x2.trans xr
    obtain ⟨AR, cR, rfl, hcr1, hcr2⟩ := own_slice R5.1
    by_cases hlt : k < its.length
    · have hlt' := hlt
      obtain ⟨b, off, rfl, hb⟩ := hitl (by omega)
      obtain ⟨A', c', ⟨d0, d1, d2, d3, d4, hby⟩, hfr⟩ := its_item_from (hits.out.ext xr) k hlt'
      have hblk : ∀ b' o', A' = some ⟨b', o', none⟩ → 0 < (its[k]).val.length → b' < w2.heap.size := fun b' o' e hp => by
        obtain ⟨A'', c'', ⟨-, -, -, -, g4, gb⟩, -⟩ := its_item_from hits.out k hlt'
        have g4' := Ext.cell xr g4
        rw [d4] at g4'
        simp only [Option.some.injEq, Value.slice.injEq, true_and] at g4'
        obtain ⟨h1, -⟩ := g4'
        obtain ⟨A3, c3, e3, -, -, hr3⟩ := gb
        obtain ⟨b3, o3, e4, e5, -⟩ := hr3.2 hp
        simp only [Value.slice.injEq] at e3
        rw [← h1, e] at e3
        rw [e4] at e3
        simp only [Option.some.injEq, Addr.mk.injEq] at e3
        omega
      have hpl : ps.length ≤ 15625 := by
        have h1 : ps.length = ((its.take k).filter (betw (k1, i1, o1) (k2, i2, o2))).length := by rw [← hps, List.length_map]
        have h2 := List.length_filter_le (betw (k1, i1, o1) (k2, i2, o2)) (its.take k)
        rw [List.length_take] at h2
        omega
      have hsu : (its.take (k + 1)).filter (betw (k1, i1, o1) (k2, i2, o2)) = (its.take k).filter (betw (k1, i1, o1) (k2, i2, o2)) ++ (if betw (k1, i1, o1) (k2, i2, o2) its[k] = true then [its[k]] else []) := by
        rw [List.take_succ_eq_append_getElem hlt', List.filter_append]
        congr 1
        by_cases hb2 : betw (k1, i1, o1) (k2, i2, o2) its[k] = true
        · rw [if_pos hb2]; simp [hb2]
        · rw [if_neg hb2]; simp [hb2]
      have hc1 : decide (k < its.length) = true := decide_eq_true hlt
      have hwk := Lib.hid (IntWalk.wrap64_in ((k : Int) + 1) (by omega))
      generalize its[k] = x at *
      have HL1 := Lib.hid (fun W => rless_any x.k x.i x.o k1 i1 o1 W)
      have HL2 := Lib.hid (fun W => rless_any k2 i2 o2 x.k x.i x.o W)
      have hbe : betw (k1, i1, o1) (k2, i2, o2) x = (!lessB x.k x.i x.o k1 i1 o1 && !lessB k2 i2 o2 x.k x.i x.o) := rfl
      rw [hbe] at hsu
      generalize lessB x.k x.i x.o k1 i1 o1 = L1 at *
      generalize lessB k2 i2 o2 x.k x.i x.o = L2 at *
      clear hbe
      replace hblk := Lib.hid hblk
      replace hps := Lib.hid hps
      replace hsu := Lib.hid hsu
      replace hby := Lib.hid hby
      replace hfr := Lib.hid hfr
      replace R5 := Lib.hid R5
      go_upto_region 6 with fail
      have gA : ∀ W, Ext wr W → ∀ i, W.cell? ⟨w.heap.size + 1, i, none⟩ = #[.int .u8 k1, .int .u32 i1, .int .u32 o1][i]? := fun W h => cells_row (row_ext (row_ext ra2 xr) h)
      have gB : ∀ W, Ext wr W → ∀ i, W.cell? ⟨w.heap.size + 2, i, none⟩ = #[.int .u8 k2, .int .u32 i2, .int .u32 o2][i]? := fun W h => cells_row (row_ext (row_ext rb2 xr) h)
      have p0 : ∀ W, Ext wr W → W.cell? ⟨b, off + k * 5, none⟩ = some (.int .u8 x.k) := fun W h => Ext.cell h d0
      have p1 : ∀ W, Ext wr W → W.cell? ⟨b, off + k * 5 + 1, none⟩ = some (.int .u32 x.i) := fun W h => Ext.cell h d1
      have p2 : ∀ W, Ext wr W → W.cell? ⟨b, off + k * 5 + 2, none⟩ = some (.int .u32 x.o) := fun W h => Ext.cell h d2
      have p3 : ∀ W, Ext wr W → W.cell? ⟨b, off + k * 5 + 3, none⟩ = some (.int .i64 x.r) := fun W h => Ext.cell h d3
      have p4 : ∀ W, Ext wr W → W.cell? ⟨b, off + k * 5 + 4, none⟩ = some (.slice A' x.val.length c') := fun W h => Ext.cell h d4
      clear d0 d1 d2 d3 d4
      refine wp_region_free (outsAt [(6, one (.bool L1)), (15, one (.bool L2))]) 18 (by kernel_rfl) (by kernel_rfl) (by kernel_rfl) (by decide) (by kernel_rfl) (by kernel_rfl) ?st ?walk
      case st => exact outsAt_stable (by simp only [List.forall_mem_cons]; exact ⟨one_stable _, one_stable _, fun _ h => by cases h⟩)
      case walk =>
        intro K hK
        dsimp only [List.take]
        repeat ((first | (refine free_plain ?_ (by rfl) (by rfl) (fun W hW _ => ⟨W, ?_, Ext.refl W⟩) ?_; rotate_left; (first | (go_simp; with_reducible rfl) | (go_simp; done))) | (refine free_skip (by rfl) ?_)); try simp only [Act.put, one_f, outB_f, outNew_f, outI_f, List.setIfInBounds_toArray, List.set_cons_zero, List.set_cons_succ])
        first
          | (refine free_plain (.pointer (some ⟨b, off + k * 5, none⟩)) (by rfl) (by rfl) (fun W hW _ => ⟨W, ?_, Ext.refl W⟩) ?_
             · go_simp
               rw [IntWalk.i64_in (k : Int) (by omega), if_pos (by omega)]
               simp
             simp only [Act.put, one_f, outB_f, outNew_f, outI_f, List.setIfInBounds_toArray, List.set_cons_zero, List.set_cons_succ])
          | skip
        repeat ((first | (refine free_plain ?_ (by rfl) (by rfl) (fun W hW _ => ⟨W, ?_, Ext.refl W⟩) ?_; rotate_left; (first | (go_simp; with_reducible rfl) | (go_simp; done))) | (refine free_skip (by rfl) ?_)); try simp only [Act.put, one_f, outB_f, outNew_f, outI_f, List.setIfInBounds_toArray, List.set_cons_zero, List.set_cons_succ])
        refine free_hard (one (.bool L1)) (by rfl) (by rfl) (fun W hW _ => ?_) (fun p => ?_)
        · refine hardAt_call ?_ ((HL1.out W).mono fun e w' h => ⟨(), h.1, trivial, h.2⟩)
          go_simp
        cases p
        simp only [Act.put, one_f, outB_f, outNew_f, outI_f, List.setIfInBounds_toArray, List.set_cons_zero, List.set_cons_succ]
        cases L1
        · repeat ((first | (refine free_plain ?_ (by rfl) (by rfl) (fun W hW _ => ⟨W, ?_, Ext.refl W⟩) ?_; rotate_left; (first | (go_simp; with_reducible rfl) | (go_simp; done))) | (refine free_skip (by rfl) ?_)); try simp only [Act.put, one_f, outB_f, outNew_f, outI_f, List.setIfInBounds_toArray, List.set_cons_zero, List.set_cons_succ])
          first
            | (refine free_plain (.pointer (some ⟨b, off + k * 5, none⟩)) (by rfl) (by rfl) (fun W hW _ => ⟨W, ?_, Ext.refl W⟩) ?_
               · go_simp
                 rw [IntWalk.i64_in (k : Int) (by omega), if_pos (by omega)]
                 simp
               simp only [Act.put, one_f, outB_f, outNew_f, outI_f, List.setIfInBounds_toArray, List.set_cons_zero, List.set_cons_succ])
            | skip
          repeat ((first | (refine free_plain ?_ (by rfl) (by rfl) (fun W hW _ => ⟨W, ?_, Ext.refl W⟩) ?_; rotate_left; (first | (go_simp; with_reducible rfl) | (go_simp; done))) | (refine free_skip (by rfl) ?_)); try simp only [Act.put, one_f, outB_f, outNew_f, outI_f, List.setIfInBounds_toArray, List.set_cons_zero, List.set_cons_succ])
          refine free_hard (one (.bool L2)) (by rfl) (by rfl) (fun W hW _ => ?_) (fun p => ?_)
          · refine hardAt_call ?_ ((HL2.out W).mono fun e w' h => ⟨(), h.1, trivial, h.2⟩)
            go_simp
          cases p
          simp only [Act.put, one_f, outB_f, outNew_f, outI_f, List.setIfInBounds_toArray, List.set_cons_zero, List.set_cons_succ]
          cases L2
          · repeat ((first | (refine free_plain ?_ (by rfl) (by rfl) (fun W hW _ => ⟨W, ?_, Ext.refl W⟩) ?_; rotate_left; (first | (go_simp; with_reducible rfl) | (go_simp; done))) | (refine free_skip (by rfl) ?_)); try simp only [Act.put, one_f, outB_f, outNew_f, outI_f, List.setIfInBounds_toArray, List.set_cons_zero, List.set_cons_succ])
            refine free_nil (hK _ _ fun W hW hF => ?_)
            clear hF hK gA gB
            dsimp only [List.drop]
            have xW := xr.trans hW
            replace p0 := p0 W hW
            replace p1 := p1 W hW
            replace p2 := p2 W hW
            replace p3 := p3 W hW
            replace p4 := p4 W hW
            have RW := R5.out.ext hW
            have hvl := own_lt RW.1
            have hown := RW.1
            have hbyW : Bys W W.heap.size (.slice A' x.val.length c') x.val := (hby.out.below hW).more hW.size
            have hap : Apart (.slice AR ps.length cR) (.slice A' x.val.length c') := fun a n c e hn hx => by
              cases e
              obtain ⟨A3, c3, e3, -, -, hr3⟩ := hby.out
              obtain ⟨b3, o3, e4, e5, -⟩ := hr3.2 hn
              simp only [Value.slice.injEq] at e3
              have e6 : some a = some ⟨b3, o3, none⟩ := e3.1.trans e4
              cases e6
              have h1 := hblk.out b3 o3 rfl hn
              have h2 := (hvl _ hx).1
              simp at h2
              omega
            replace hap := Lib.hid hap
            replace hbyW := Lib.hid hbyW
            replace RW := Lib.hid RW
            replace hvl := Lib.hid hvl
            have zbW : w2.heap.size ≤ W.heap.size := xW.size
            obtain ⟨i0, hi, hz0, hz1, hz2⟩ := info_parts Tryz.info_item
            go_wp2_with (at_builtin; refine wpList_stop ?_)
            refine Stopped.go (wpList_push _ rfl (.tmp 39) (.tmp 44) 44 rfl w2.heap.size 38 i0 _ 5 48 Tryz.underlying44 hi hz0 hz1 hz2 rfl (by decide) _ _ _ (by exact rfl) hown #[.int .u8 x.k, .int .u32 x.i, .int .u32 x.o, .int .i64 x.r, .slice A' x.val.length c'] (by exact rfl) rfl (by simp [Value.oneCell']) (by omega) (by decide) zbW ?_)
            intro v2 W2 hown2 hg2 hB2 hat2
            have hP := RW.out.push x A' c' hbyW.out hfr.out hap.out rfl ⟨hown2, hat2⟩ hg2
            have hpx : (ps ++ [(x, Value.slice A' x.val.length c')]).map (·.1) = (its.take (k + 1)).filter (betw (k1, i1, o1) (k2, i2, o2)) := by rw [hsu.out, List.map_append, hps.out]; simp
            have IR : BwI w.heap.size (k1, i1, o1) (k2, i2, o2) its w2 v2 (.int .i64 ((k : Int) + 1)) W2 := ⟨k + 1, _, hlt', rfl, hP, hpx, Below.trans xW hB2⟩
            replace IR := Lib.hid IR
            clear hpx p0 p1 p2 p3 p4 hown hown2 hg2 hB2 hat2 hP hi hz0 hz1 hz2
            go_wp2_with fail
            refine ⟨IR.out, ?_⟩
            simp [intOf]
            omega
          · repeat ((first | (refine free_plain ?_ (by rfl) (by rfl) (fun W hW _ => ⟨W, ?_, Ext.refl W⟩) ?_; rotate_left; (first | (go_simp; with_reducible rfl) | (go_simp; done))) | (refine free_skip (by rfl) ?_)); try simp only [Act.put, one_f, outB_f, outNew_f, outI_f, List.setIfInBounds_toArray, List.set_cons_zero, List.set_cons_succ])
            refine free_nil (hK _ _ fun W hW hF => ?_)
            clear hF hK gA gB
            dsimp only [List.drop]
            have xW := xr.trans hW
            have hpx : ps.map (·.1) = (its.take (k + 1)).filter (betw (k1, i1, o1) (k2, i2, o2)) := by rw [hsu.out, hps.out]; simp
            have IR : BwI w.heap.size (k1, i1, o1) (k2, i2, o2) its w2 (.slice AR ps.length cR) (.int .i64 ((k : Int) + 1)) W := ⟨k + 1, ps, hlt', rfl, R5.out.ext hW, hpx, xW⟩
            replace IR := Lib.hid IR
            clear hpx p0 p1 p2 p3 p4
            have hwk' := hwk
            go_wp2_with fail
            refine ⟨IR.out, ?_⟩
            simp [intOf]
            omega
        · repeat ((first | (refine free_plain ?_ (by rfl) (by rfl) (fun W hW _ => ⟨W, ?_, Ext.refl W⟩) ?_; rotate_left; (first | (go_simp; with_reducible rfl) | (go_simp; done))) | (refine free_skip (by rfl) ?_)); try simp only [Act.put, one_f, outB_f, outNew_f, outI_f, List.setIfInBounds_toArray, List.set_cons_zero, List.set_cons_succ])
          refine free_nil (hK _ _ fun W hW hF => ?_)
          clear hF hK gA gB
          dsimp only [List.drop]
          have xW := xr.trans hW
          have hpx : ps.map (·.1) = (its.take (k + 1)).filter (betw (k1, i1, o1) (k2, i2, o2)) := by rw [hsu.out, hps.out]; simp
          have IR : BwI w.heap.size (k1, i1, o1) (k2, i2, o2) its w2 (.slice AR ps.length cR) (.int .i64 ((k : Int) + 1)) W := ⟨k + 1, ps, hlt', rfl, R5.out.ext hW, hpx, xW⟩
          replace IR := Lib.hid IR
          clear hpx p0 p1 p2 p3 p4
          have hwk' := hwk
          go_wp2_with fail
          refine ⟨IR.out, ?_⟩
          simp [intOf]
          omega
    · obtain rfl : k = its.length := by omega
      rw [List.take_length] at hps
      obtain ⟨hI, A', c', e'⟩ := R5.its (by have := x2.size; omega)
      rw [hps] at hI
      have hpl : ps.length = (its.filter (betw (k1, i1, o1) (k2, i2, o2))).length := by rw [← hps, List.length_map]
      have HQ : RetS (fun v W => ∃ A c, v = .slice A (its.filter (betw (k1, i1, o1) (k2, i2, o2))).length c ∧ ItsF w.heap.size W v (its.filter (betw (k1, i1, o1) (k2, i2, o2)))) w (.returned (.slice AR ps.length cR)) wr := ⟨_, rfl, ⟨A', c', e'.trans (by rw [hpl]), hI⟩, xwr⟩
      replace HQ := Lib.hid HQ
      replace R5 := Lib.hid R5
      replace hps := Lib.hid hps
      clear hI e'
      go_wp2
      exact betw_ret rfl rfl HQ.out
end Go.Proofs.YtckhnchnbeoogaaGreat
/- Items in a row: what an iterator and the rounds of its caller owe each other. -/
namespace Go.Proofs.YtckhnchnbeoogaaGreat
set_option linter.unusedSimpArgs false
set_option linter.unusedVariables false
open Go.RowKit

abbrev X3 : Type := It × Option Addr × Nat
abbrev xVal (x : X3) : Value := .slice x.2.1 x.1.val.length x.2.2
abbrev encX (x : X3) : Value := .agg (itemCs x.1 x.2.1 x.2.2)
structure KeptX (M : World → Nat → Prop) (W W' : World) : Prop where
  os : W'.os = W.os
  tape : W'.tape = W.tape
  output : W'.output = W.output
  size : W.heap.size ≤ W'.heap.size
  same : ∀ b, b < W.heap.size → ¬ M W b → W'.heap[b]? = W.heap[b]? ∧ ¬ M W' b
theorem KeptX.refl (M : World → Nat → Prop) (W : World) : KeptX M W W := ⟨rfl, rfl, rfl, Nat.le_refl _, fun _ _ h => ⟨rfl, h⟩⟩
theorem KeptX.trans {M : World → Nat → Prop} {A B C : World} (h : KeptX M A B) (k : KeptX M B C) : KeptX M A C :=
  ⟨k.os.trans h.os, k.tape.trans h.tape, k.output.trans h.output, Nat.le_trans h.size k.size, fun b hb hm => by
    obtain ⟨e1, m1⟩ := h.same b hb hm
    obtain ⟨e2, m2⟩ := k.same b (Nat.lt_of_lt_of_le hb h.size) m1
    exact ⟨e2.trans e1, m2⟩⟩
theorem KeptX.row {M : World → Nat → Prop} {W W' : World} (h : KeptX M W W') {b : Nat} {o : Obj} (hm : ¬ M W b) (hr : W.heap[b]? = some o) : W'.heap[b]? = some o := (h.same b (Array.getElem?_eq_some_iff.1 hr).1 hm).1.trans hr
theorem KeptX.cell {M : World → Nat → Prop} {W W' : World} (h : KeptX M W W') {p : Addr} (hb : p.block < W.heap.size) (hm : ¬ M W p.block) : W'.cell? p = W.cell? p := World.cell?_of_block (h.same _ hb hm).1
theorem KeptX.below {M : World → Nat → Prop} {W W' : World} {B : Nat} (h : KeptX M W W') (hB : B ≤ W.heap.size) (hl : ∀ b, b < B → ¬ M W b) : Below B W W' := ⟨h.os, h.tape, h.output, h.size, fun k hk => (h.same k (by omega) (hl k hk)).1⟩
structure FctX (M : World → Nat → Prop) (lo : Nat) (x : X3) (W : World) : Prop where
  by_ : Bys W W.heap.size (xVal x) x.1.val
  fr : From lo (xVal x)
  own : ∀ b o, x.2.1 = some ⟨b, o, none⟩ → 0 < x.1.val.length → ¬ M W b
  nz : Nz W (xVal x)
theorem FctX.kept {M : World → Nat → Prop} {lo : Nat} {x : X3} {W W' : World} (h : FctX M lo x W) (hk : KeptX M W W') : FctX M lo x W' := by
  have hblk : ∀ b o, x.2.1 = some ⟨b, o, none⟩ → 0 < x.1.val.length → b < W.heap.size := fun b o e hp => by
    obtain ⟨A, c, e1, e2, e3, hr⟩ := h.by_
    obtain ⟨b', off, e4, e5, -⟩ := hr.2 hp
    simp only [xVal, Value.slice.injEq] at e1
    rw [e, e4] at e1
    simp only [Option.some.injEq, Addr.mk.injEq] at e1
    omega
  refine ⟨?_, h.fr, fun b o e hp => (hk.same b (hblk b o e hp) (h.own b o e hp)).2, fun a n c e hn => ?_⟩
  case refine_2 =>
    obtain ⟨cs, ty, hr⟩ := h.nz a n c e hn
    obtain ⟨A, c', e1, e2, e3, h4⟩ := h.by_
    simp only [xVal, Value.slice.injEq] at e e1
    obtain ⟨b', off, e4, -, -⟩ := h4.2 (by omega)
    have e5 : a = ⟨b', off, none⟩ := by
      have : some a = some ⟨b', off, none⟩ := by rw [← e.1, e1.1, e4]
      exact Option.some.inj this
    subst e5
    exact ⟨cs, ty, (hk.row (h.own b' off e.1 (by omega)) hr)⟩
  obtain ⟨A, c, e1, e2, e3, hr⟩ := h.by_
  refine ⟨A, c, e1, e2, e3, hr.1, fun hp => ?_⟩
  obtain ⟨b', off, e4, e5, e6⟩ := hr.2 hp
  have e7 : x.2.1 = A := by simp only [xVal, Value.slice.injEq] at e1; exact e1.1
  refine ⟨b', off, e4, by have := hk.size; omega, fun j u hu => ?_⟩
  rw [hk.cell (p := ⟨b', off + j, none⟩) e5 (h.own b' off (e7.trans e4) hp)]
  exact e6 j u hu
structure IterC (lo : Nat) (M : World → Nat → Prop) (J Jx : List X3 → World → Prop) (l N : Nat) : Prop where
  low : ∀ W b, M W b → lo ≤ b
  lt : ∀ pre W b, J pre W → M W b → b < W.heap.size
  ext : ∀ pre W W', J pre W → Ext W W' → J pre W' ∧ ∀ b, M W' b → M W b
  yld : ∀ m pre x W, J pre W → FctX M lo x W → pre.length < N → YieldAt Fence.wide m Tryz.prog l #[encX x] W fun e W' => (e = .returned (.bool true) ∧ J (pre ++ [x]) W' ∧ KeptX M W W') ∨ (e = .returned (.bool false) ∧ Jx (pre ++ [x]) W')
theorem IterC.kept {lo l N : Nat} {M : World → Nat → Prop} {J Jx : List X3 → World → Prop} (H : IterC lo M J Jx l N) {pre : List X3} {W W' : World} (hJ : J pre W) (hx : Ext W W') : KeptX M W W' :=
  ⟨hx.os, hx.tape, hx.output, hx.size, fun b hb hm => ⟨hx.block b hb, fun h => hm ((H.ext pre W W' hJ hx).2 b h)⟩⟩
theorem IterC.new {lo l N : Nat} {M : World → Nat → Prop} {J Jx : List X3 → World → Prop} (H : IterC lo M J Jx l N) {pre : List X3} {W W' : World} (hJ : J pre W) (hx : Ext W W') {b : Nat} (hb : W.heap.size ≤ b) : ¬ M W' b := fun h => by
  have := H.lt pre W b hJ ((H.ext pre W W' hJ hx).2 b h)
  omega
structure EnvX (S : Sto) (K : K3) (M : World → Nat → Prop) (l bB bF bY bD bb : Nat) (v1 v2 v3 v4 : Value) (W : World) : Prop where
  b : W.heap[bB]? = some (.cells #[.pointer (some ⟨bb, 0, none⟩)] 108 (0, 0))
  f : W.heap[bF]? = some (.cells #[.int .u8 K.1, .int .u32 K.2.1, .int .u32 K.2.2] 34 (0, 0))
  y : W.heap[bY]? = some (.cells #[.func (.yield l) #[] #[]] 172 (0, 0))
  d : W.heap[bD]? = some (.cells #[.func (.func 96) #[] #[.pointer (some ⟨bB, 0, none⟩), .pointer (some ⟨bF, 0, none⟩), .pointer (some ⟨bY, 0, none⟩), .pointer (some ⟨bD, 0, none⟩)]] 173 (0, 0))
  on : OnB 0 bb v1 v2 v3 v4 S W
def DownR (M : World → Nat → Prop) (J Jx : List X3 → World → Prop) (pre : List X3) (zs : List It) (W : World) (e : Ending) (W' : World) : Prop :=
  (e = .returned (.bool true) ∧ ∃ ys : List X3, ys.map (·.1) = zs ∧ J (pre ++ ys) W' ∧ KeptX M W W') ∨ (e = .returned (.bool false) ∧ ∃ (ys : List X3) (rest : List It), ys.map (·.1) ++ rest = zs ∧ Jx (pre ++ ys) W')
def DownC (S : Sto) (K : K3) (M : World → Nat → Prop) (J Jx : List X3 → World → Prop) (N bB bF bY bD : Nat) (E : World → Prop) (h : Nat) : Prop :=
  ∀ (a : Nat) (xs : List It) (pre : List X3) (W : World), 8 ≤ a → a < 256 → nodeAt S a = some ((h : Int), xs) → (spanS S h xs).isSome = true → J pre W → E W → pre.length + (fromS S h K xs).length ≤ N →
    Calls Tryz.prog 96 #[.int .i64 (a : Int), .pointer (some ⟨bB, 0, none⟩), .pointer (some ⟨bF, 0, none⟩), .pointer (some ⟨bY, 0, none⟩), .pointer (some ⟨bD, 0, none⟩)] W (DownR M J Jx pre (fromS S h K xs) W)
theorem from_leaf (S : Sto) (K : K3) (x : It) : fromS S 0 K [x] = if lessK (keyIt x) K = true then [] else [x] := by
  unfold fromS
  show [x].filter _ = _
  by_cases h : lessK (keyIt x) K = true
  · rw [if_pos h]; simp [h]
  · rw [if_neg h]; simp [h]
theorem from_node {S : Sto} {K : K3} {h : Nat} {x : It} {lvl : Int} {ys : List It} (hn : nodeAt S x.r.toNat = some (lvl, ys)) : fromS S (h + 1) K [x] = fromS S h K ys := by
  unfold fromS
  rw [items_succ]
  simp [hn]
theorem from_take {S : Sto} {h : Nat} {K : K3} {xs : List It} {k : Nat} (hk : k < xs.length) : fromS S h K (xs.take (k + 1)) = fromS S h K (xs.take k) ++ fromS S h K [xs[k]] := by
  rw [List.take_succ_eq_append_getElem hk, from_append]
theorem from_split {S : Sto} {h : Nat} {K : K3} {xs : List It} (k : Nat) : ∃ r, fromS S h K (xs.take k) ++ r = fromS S h K xs := ⟨fromS S h K (xs.drop k), by rw [← from_append, List.take_append_drop]⟩
theorem from_nil (S : Sto) (h : Nat) (K : K3) : fromS S h K [] = [] := by unfold fromS; rw [items_nil]; rfl
theorem its_fct {w : World} {lo b off n c : Nat} {xs : List It} (h : ItsF lo w (.slice (some ⟨b, off, none⟩) n c) xs) (hz : NzI w (.slice (some ⟨b, off, none⟩) n c)) (i : Nat) (hi : i < xs.length) :
    ∃ A' c', ItAt w w.heap.size b (off + i * 5) xs[i] A' c' ∧ From lo (.slice A' xs[i].val.length c') ∧ Nz w (.slice A' xs[i].val.length c') := by
  have hn : n = xs.length := h.its.at_.1
  obtain ⟨ps, rfl, ⟨A, c1, e, _, _, hr⟩, hp, hf, hg⟩ := h
  cases e
  have hi' : i < ps.length := by simpa using hi
  obtain ⟨b', off', e, hb, hc⟩ := hr.2 (by omega)
  cases e
  obtain ⟨c0, c1, c2, c3, c4⟩ := cells5_at ps i hi'
  have hgi := hg ps[i] (List.getElem_mem hi')
  obtain ⟨⟨A', c', e5⟩, hby⟩ := hp ps[i] (List.getElem_mem hi')
  rw [e5] at c4 hby hgi
  simp only [List.getElem_map]
  have c4' := hc _ _ c4
  rw [← Nat.add_assoc] at c4'
  refine ⟨A', c', ⟨hc _ _ c0, ?_, ?_, ?_, c4', hby⟩, hgi, hz b off _ _ i _ rfl (by omega) c4'⟩
  · rw [Nat.add_assoc]; exact hc _ _ c1
  · rw [Nat.add_assoc]; exact hc _ _ c2
  · rw [Nat.add_assoc]; exact hc _ _ c3
end Go.Proofs.YtckhnchnbeoogaaGreat
