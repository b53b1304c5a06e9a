/- Texts KUses, KCounts, Tells31W, SetAll, Twin14, joined. -/
import Derived.Test.YteikcgjhcniiiaaT04
import Derived.Test.YteikcgjhcniiiaaT12
import Derived.Test.YteikcgjhcniiiaaT13
import Derived.Test.YteikcgjhcniiiaaT20
import Derived.Test.YteikcgjhcniiiaaT21
import Derived.Test.YteikcgjhcniiiaaT25
/- Contracts: what each block is (the document). -/
namespace Go.Proofs.Yteikcgjhcniiiaa
set_option linter.unusedSimpArgs false
set_option linter.unusedVariables false
open Go.RowKit

theorem pool_met {S : Sto} {root next : Int} {dead : List Int} {vs : List Vol} {M : Nat → Bool} {refs : Nat → Nat} (hp : PoolB S root next dead vs) (hm : Marked (kidsS S) (refsS S) (rootsN root dead vs) M refs) {a : Nat} (ha : M a = true) : 8 ≤ a ∧ a < 256 := by
  have hR : ∀ b, b ∈ rootsN root dead vs → treeOk S b := fun b hb => by
    unfold rootsN at hb
    obtain ⟨r, hr, rfl⟩ := List.mem_map.1 hb
    obtain ⟨c, rfl, hc⟩ := okL_root (hp.ok r hr)
    rw [Int.toNat_natCast]
    exact hc
  have := reach_tree (R := (· ∈ rootsN root dead vs)) hR (hm.reach a ha)
  exact ⟨this.1, this.2.1⟩
/-- so many are told -/
def useUp (S : Sto) (M : Nat → Bool) (k : Nat) (a : Nat) : Nat := if a < k then useB S M a else 0
theorem useUp_zero {S : Sto} {M : Nat → Bool} (h : ∀ a, M a = true → 8 ≤ a) : arrB (useUp S M 8) = arrB fun _ => 0 := arrB_congr fun a _ => by
  unfold useUp useB useD
  split
  · rename_i ha
    rw [if_neg (fun e => by have := h a e; omega)]
  · rfl
theorem useUp_succ (S : Sto) (M : Nat → Bool) {k : Nat} : arrB (useUp S M (k + 1)) = arrB fun b => if b = k then useB S M k else useUp S M k b := arrB_congr fun a _ => by
  unfold useUp
  by_cases e : a = k
  · subst e; rw [if_pos (by omega), if_pos rfl]
  · rw [if_neg e]
    by_cases h : a < k
    · rw [if_pos (by omega), if_pos h]
    · rw [if_neg (by omega), if_neg h]
theorem useUp_all (S : Sto) (M : Nat → Bool) : arrB (useUp S M 256) = arrB (useB S M) := arrB_congr fun a ha => by unfold useUp; rw [if_pos ha]
/-- what the document's 'Uses' tells -/
def UsesDQ (S : Sto) (root next : Int) (dead : List Int) (w : World) (e : Ending) (w' : World) : Prop := Below w.heap.size w w' ∧
  ((e = .returned (.tuple #[.slice none 0 0, .int .i64 8]) ∧ ∀ vs, PoolB S root next dead vs → ∃ refs met, Marked (kidsS S) (refsS S) (rootsN root dead vs) (metB met) refs ∧ ¬ Enough S refs) ∨
    ∃ vs refs met ob, e = .returned (.tuple #[.slice (some ⟨ob, 0, none⟩) 256 256, .int .i64 0]) ∧ w.heap.size ≤ ob ∧ PoolB S root next dead vs ∧ Marked (kidsS S) (refsS S) (rootsN root dead vs) (metB met) refs ∧ Enough S refs ∧ w'.heap[ob]? = some (.cells (arrB (useB S (metB met))).toArray 5 (0, 0)))
theorem usesD_ret {R : Ending → World → Prop} {a : Act} {W : World} {u v : Value} (h2 : a.tmps[2]?.getD undef = u) (h3 : a.tmps[3]?.getD undef = v) (hd : a.defers = []) (hR : R (.returned (.tuple #[u, v])) W) : bodyPost Try.prog Try.f13 R .ret a W := by
  refine bodyPost_ret (v := .tuple #[u, v]) ?_ hd hR
  simp [results, Try.results13, go_sem, h2, h3]
structure UD (S : Sto) (M : Nat → Bool) (w3 : World) (ob : Nat) (i : Value) (wr : World) : Prop where
  ex : ∃ k : Nat, 8 ≤ k ∧ k ≤ 256 ∧ i = .int .i64 (k : Int) ∧ wr.heap[ob]? = some (.cells (arrB (useUp S M k)).toArray 5 (0, 0)) ∧ Below ob w3 wr

set_option maxHeartbeats 2000000 in
set_option maxRecDepth 100000 in
theorem usesD_any (A1 : Option Addr) (n1 c1 : Nat) (A2 : Option Addr) (n2 c2 : Nat) (A3 : Option Addr) (n3 c3 : Nat) (A4 : Option Addr) (n4 c4 : Nat) (gen root next : Int) (A5 : Option Addr) (c5 : Nat) (S : Sto) (dead : List Int) (w : World)
    (h : StoAt w w.heap.size (.slice A1 n1 c1) (.slice A2 n2 c2) (.slice A3 n3 c3) (.slice A4 n4 c4) S) (hd : Ints w w.heap.size (.slice A5 dead.length c5) dead) :
    Calls Try.prog 13 #[.agg (poolCs (.slice A1 n1 c1) (.slice A2 n2 c2) (.slice A3 n3 c3) (.slice A4 n4 c4) gen root next (.slice A5 dead.length c5))] w (UsesDQ S root next dead w) := by
  have HT := Lib.hid (fun W (hx : Ext w W) => marks_any A1 n1 c1 A2 n2 c2 A3 n3 c3 A4 n4 c4 gen root next A5 c5 S dead W (h.ext hx) (by
    obtain ⟨A, c, e, q1, q2, q3⟩ := hd
    exact ⟨A, c, e, q1, q2, (q3.below hx).more hx.size⟩))
  have HS := Lib.hid h
  clear h hd
  go_enter Try.func13, Try.ntmps13
  go_wp2_with fail
  generalize hw1 : World.alloc w _ = w1
  have x1 : Ext w w1 := by rw [← hw1]; exact Ext.alloc _ _
  have r1 : w1.heap[w.heap.size]? = some (.cells (poolCs (.slice A1 n1 c1) (.slice A2 n2 c2) (.slice A3 n3 c3) (.slice A4 n4 c4) gen root next (.slice A5 dead.length c5)) 32 (0, 0)) := by rw [← hw1]; exact World.alloc_heap_at _ _ _ rfl
  clear hw1
  refine (HT.out w1 x1).mono ?_
  clear HT
  rintro e w2 ⟨hB, hQ⟩
  have x2 : Ext w w2 := Ext.trans x1 hB
  have r2 := row_ext r1 hB
  have k2 := cells_row r2
  have z1 := x1.size
  rcases hQ with ⟨rfl, hno⟩ | ⟨vs, refs, met, rb, mb, rfl, hp, hm, rr, rm, z2, z3, z4⟩
  · have HB : UsesDQ S root next dead w (.returned (.tuple #[.slice none 0 0, .int .i64 8])) w2 := ⟨x2, .inl ⟨rfl, fun vs hp => absurd hp (hno vs)⟩⟩
    replace HB := Lib.hid HB
    clear hno hB
    go_wp2_with fail
    exact usesD_ret rfl rfl rfl HB.out
  · have HE := Lib.hid (enough_any A1 n1 c1 A2 n2 c2 A3 n3 c3 A4 n4 c4 S rb refs w2 hp.may (HS.out.ext x2) rr)
    have hM8 := fun a ha => (pool_met hp hm (a := a) ha).1
    have hzero := Lib.hid (useUp_zero (S := S) hM8)
    have hl3 : S.now.length = 256 ∧ S.last.length = 256 := ⟨(storeMay_len hp.may).2.2.1, (storeMay_len hp.may).2.2.2⟩
    replace hp := Lib.hid hp
    replace hm := Lib.hid hm
    clear hB hM8
    go_wp2_with fail
    refine HE.out.mono ?_
    clear HE
    rintro e w3 ⟨rfl, hB3⟩
    have x3 : Below w.heap.size w w3 := Ext.trans x2 hB3
    have rm3 := row_ext rm hB3
    have r3 := row_ext r2 hB3
    clear hB3 k2
    rcases hen : enoughB S refs with _ | _
    · have HB : UsesDQ S root next dead w (.returned (.tuple #[.slice none 0 0, .int .i64 8])) w3 := ⟨x3, .inl ⟨rfl, fun vs' hp' => by
        obtain rfl := hp.out.same hp'
        exact ⟨refs, met, hm.out, fun he => by have := (enoughB_iff S refs).2 he; rw [hen] at this; cases this⟩⟩⟩
      replace HB := Lib.hid HB
      replace hen := Lib.hid hen
      go_wp2_with fail
      exact usesD_ret rfl rfl rfl HB.out
    · have hmk : ∀ w, (Instr.makeSlice 26 (.int .i64 256) (.int .i64 256)).run Try.prog w = .ok (.slice (some ⟨w.heap.size, 0, none⟩) 256 256) (w.alloc (.cells (arrB fun _ => 0).toArray 5)) := fun _ => by kernel_rfl
      replace hen := Lib.hid hen
      have z3' := x3.size
      go_wp2_with fail
      generalize hw4 : World.alloc w3 _ = w4
      have x4 : Ext w3 w4 := by rw [← hw4]; exact Ext.alloc _ _
      have r4 : w4.heap[w3.heap.size]? = some (.cells (arrB (useUp S (metB met) 8)).toArray 5 (0, 0)) := by rw [← hw4, hzero.out]; exact World.alloc_heap_at _ _ _ rfl
      have p4 := row_ext r3 x4
      have rm4 := row_ext rm3 x4
      have hob1 : w.heap.size < w3.heap.size := (Array.getElem?_eq_some_iff.1 r3).1
      have hmb1 : mb < w3.heap.size := (Array.getElem?_eq_some_iff.1 rm3).1
      have hx34 := x3.trans (Below.mono x4 x3.size)
      clear hw4 hmk
      generalize hob : w3.heap.size = ob at *
      go_loopw [8] (fun i wr => UD S (metB met) w4 ob i wr) (fun i _ => 256 - (intOf i).toNat)
      case atStart => exact ⟨8, by omega, by omega, rfl, r4, Below.refl _ _⟩
      case round =>
        obtain ⟨k, hk8, hk, rfl, hr, hx⟩ := hrel.ex
        clear hrel
        have hxr : Below w.heap.size w wr := hx34.trans (Below.mono hx (by omega))
        have kp := cells_row ((hx.block w.heap.size hob1).trans p4)
        have km := cells_row ((hx.block mb hmb1).trans rm4)
        by_cases hlt : k < 256
        · have hS := HS.out.below hxr
          obtain ⟨b3, o3, c3', e3, hb3, hc3⟩ := tab_at hS.now hl3.1
          obtain ⟨b4, o4, c4', e4, hb4, hc4⟩ := tab_at hS.last hl3.2
          simp only [Value.slice.injEq] at e3 e4
          obtain ⟨rfl, rfl, rfl⟩ := e3
          obtain ⟨rfl, rfl, rfl⟩ := e4
          have d3 := hc3 k hlt
          have d4 := hc4 k hlt
          have hgm := arrI_get met hlt
          rw [← List.getElem?_toArray] at hgm
          have hu : useB S (metB met) k = if 0 < met k then 3 else if 0 < (S.now[k]?.getD 0).toNat then 4 else if 0 < (S.last[k]?.getD 0).toNat then 2 else 1 := by
            unfold useB useD metB
            by_cases h0 : 0 < met k
            · rw [if_pos (by simp [h0]), if_pos h0]
            · rw [if_neg (by simp [h0]), if_neg h0, if_neg (by omega)]
          have hst : ∀ n : Nat, useB S (metB met) k = n → UD S (metB met) w4 ob (.int .i64 ((k : Int) + 1)) (wr.setCell ⟨ob, k, none⟩ (.int .u8 (n : Int))) := fun n hn =>
            ⟨k + 1, by omega, hlt, rfl, by rw [row_set hr k _, arrB_set _ hlt, useUp_succ, hn], Below.setCell hx (p := ⟨ob, k, none⟩) (Nat.le_refl _) _⟩
          replace hu := Lib.hid hu
          replace hst := Lib.hid hst
          have kr := cells_row hr
          have fr := frozen_row hr
          have hgk := arrB_get (useUp S (metB met) k) hlt
          rw [← List.getElem?_toArray] at hgk
          generalize (S.now[k]?.getD 0).toNat = q3 at *
          generalize (S.last[k]?.getD 0).toNat = q4 at *
          generalize useUp S (metB met) k k = uu at *
          have hwk := Lib.hid (IntWalk.wrap64_in ((k : Int) + 1) (by omega))
          clear hc3 hc4 hS
          have hcs : (decide ((met k : Int) > 0) = true ∧ decide (0 < met k) = true ∧ useB S (metB met) k = 3) ∨ (decide ((met k : Int) > 0) = false ∧ decide (0 < met k) = false ∧
              ((decide ((q3 : Int) > 0) = true ∧ decide (0 < q3) = true ∧ useB S (metB met) k = 4) ∨ (decide ((q3 : Int) > 0) = false ∧ decide (0 < q3) = false ∧
                ((decide ((q4 : Int) > 0) = true ∧ decide (0 < q4) = true ∧ useB S (metB met) k = 2) ∨ (decide ((q4 : Int) > 0) = false ∧ decide (0 < q4) = false ∧ useB S (metB met) k = 1))))) := by
            rw [hu.out]
            by_cases h0 : 0 < met k
            · exact .inl ⟨decide_eq_true (by omega), decide_eq_true h0, by rw [if_pos h0]⟩
            · refine .inr ⟨decide_eq_false (by omega), decide_eq_false h0, ?_⟩
              rw [if_neg h0]
              by_cases h1 : 0 < q3
              · exact .inl ⟨decide_eq_true (by omega), decide_eq_true h1, by rw [if_pos h1]⟩
              · refine .inr ⟨decide_eq_false (by omega), decide_eq_false h1, ?_⟩
                rw [if_neg h1]
                by_cases h2 : 0 < q4
                · exact .inl ⟨decide_eq_true (by omega), decide_eq_true h2, by rw [if_pos h2]⟩
                · exact .inr ⟨decide_eq_false (by omega), decide_eq_false h2, by rw [if_neg h2]⟩
          clear hu
          rcases hcs with ⟨e1, e2, hv⟩ | ⟨e1, e2, ⟨e3, e4, hv⟩ | ⟨e3, e4, ⟨e5, e6, hv⟩ | ⟨e5, e6, hv⟩⟩⟩
          all_goals
            have IR := Lib.hid (hst.out _ hv)
            clear hv hst
            go_wp2_with fail
            try rw [hwk.out]
            refine ⟨IR.out, ?_⟩
            simp [intOf]
            omega
        · have hk2 : k = 256 := by omega
          subst hk2
          rw [useUp_all] at hr
          have HB : UsesDQ S root next dead w (.returned (.tuple #[.slice (some ⟨ob, 0, none⟩) 256 256, .int .i64 0])) wr := ⟨hxr, .inr ⟨vs, refs, met, ob, rfl, by omega, hp.out, hm.out, (enoughB_iff S refs).1 hen.out, hr⟩⟩
          replace HB := Lib.hid HB
          clear hr kp km
          go_wp2
          exact usesD_ret rfl rfl rfl HB.out
end Go.Proofs.Yteikcgjhcniiiaa
/- Contracts: is each block counted? (the document) -/
namespace Go.Proofs.Yteikcgjhcniiiaa
set_option linter.unusedSimpArgs false
set_option linter.unusedVariables false
open Go.RowKit

/-- what the document's 'Counts' tells -/
def CountsDQ (S : Sto) (root next : Int) (dead held : List Int) (w : World) (e : Ending) (w' : World) : Prop := Below w.heap.size w w' ∧
  ((e = .returned (.tuple #[.bool false, .int .i64 8]) ∧ ∀ vs, PoolB S root next dead vs → ∃ refs met, Marked (kidsS S) (refsS S) (rootsN root dead vs) (metB met) refs ∧ ¬ Enough S refs) ∨
    ∃ vs refs met, PoolB S root next dead vs ∧ Marked (kidsS S) (refsS S) (rootsN root dead vs) (metB met) refs ∧ Enough S refs ∧ e = .returned (.tuple #[.bool (countsV S refs held).1, .int .i64 (countsV S refs held).2]))
theorem countsD_ret {R : Ending → World → Prop} {a : Act} {W : World} {u v : Value} (h2 : a.tmps[4]?.getD undef = u) (h3 : a.tmps[5]?.getD undef = v) (hd : a.defers = []) (hR : R (.returned (.tuple #[u, v])) W) : bodyPost Try.prog Try.f11 R .ret a W := by
  refine bodyPost_ret (v := .tuple #[u, v]) ?_ hd hR
  simp [results, Try.results11, go_sem, h2, h3]
/-- between the holds and the blocks -/
structure DI (S : Sto) (refs : Nat → Nat) (held : List Int) (w w2 : World) (rb k : Nat) (wr : World) : Prop where
  low : w.heap.size < rb
  x2 : Ext w w2
  below : Below rb w2 wr
  row : wr.heap[rb]? = some (.cells (arrI (heldTo refs held k)).toArray 3 (0, 0))
structure DH (S : Sto) (refs : Nat → Nat) (held : List Int) (w w2 : World) (rb : Nat) (i : Value) (wr : World) : Prop where
  ex : ∃ k : Nat, k ≤ held.length ∧ i = .int .i64 (k : Int) ∧ heldOk (held.take k) = true ∧ DI S refs held w w2 rb k wr
structure DJ (S : Sto) (refs : Nat → Nat) (held : List Int) (w w2 : World) (rb : Nat) (i : Value) (wr : World) : Prop where
  ex : ∃ k : Nat, 8 ≤ k ∧ k ≤ 256 ∧ i = .int .i64 (k : Int) ∧ (∀ a, 8 ≤ a → a < k → refs a + held.count (a : Int) = (S.now[a]?.getD 0).toNat) ∧ DI S refs held w w2 rb held.length wr
theorem DI.ext {S : Sto} {refs : Nat → Nat} {held : List Int} {w w2 wr W : World} {rb k : Nat} (h : DI S refs held w w2 rb k wr) (hx : Ext wr W) (hr : rb ≤ wr.heap.size) : DI S refs held w w2 rb k W :=
  ⟨h.low, h.x2, h.below.trans (Below.mono hx hr), row_ext h.row hx⟩
theorem DJ.ext {S : Sto} {refs : Nat → Nat} {held : List Int} {w w2 wr W : World} {rb : Nat} {i : Value} (h : DJ S refs held w w2 rb i wr) (hx : Ext wr W) : DJ S refs held w w2 rb i W := by
  obtain ⟨k, h1, h2, h3, h4, h5⟩ := h.ex
  exact ⟨k, h1, h2, h3, h4, h5.ext hx (Nat.le_of_lt (Array.getElem?_eq_some_iff.1 h5.row).1)⟩
theorem CountsDQ.ext {S : Sto} {root next : Int} {dead held : List Int} {w wr W : World} {e : Ending} (h : CountsDQ S root next dead held w e wr) (hx : Ext wr W) : CountsDQ S root next dead held w e W :=
  ⟨h.1.trans (Below.mono hx h.1.size), h.2⟩
theorem heldTo_few {S : Sto} {root : Int} {dead : List Int} {vs : List Vol} {met refs : Nat → Nat} (hm : Marked (kidsS S) (refsS S) (rootsN root dead vs) (metB met) refs) (hr : (rootsN root dead vs).length ≤ 57) {held : List Int} (hh : held.length ≤ 1024) (k a : Nat) : heldTo refs held k a ≤ 57 + 1280 + 1024 := by
  have h1 := refs_few (Marked.walk.1 hm) a
  have h2 := List.count_le_length (a := (a : Int)) (l := held.take k)
  have h3 : (held.take k).length ≤ held.length := by rw [List.length_take]; omega
  unfold heldTo
  omega

set_option maxHeartbeats 2000000 in
set_option maxRecDepth 100000 in
theorem countsD_any (A1 : Option Addr) (n1 c1 : Nat) (A2 : Option Addr) (n2 c2 : Nat) (A3 : Option Addr) (n3 c3 : Nat) (A4 : Option Addr) (n4 c4 : Nat) (gen root next : Int) (A5 : Option Addr) (c5 : Nat) (S : Sto) (dead : List Int) (A6 : Option Addr) (c6 : Nat) (held : List Int) (w : World)
    (h : StoAt w w.heap.size (.slice A1 n1 c1) (.slice A2 n2 c2) (.slice A3 n3 c3) (.slice A4 n4 c4) S) (hd : Ints w w.heap.size (.slice A5 dead.length c5) dead) (hh : Ints w w.heap.size (.slice A6 held.length c6) held) :
    Calls Try.prog 11 #[.agg (poolCs (.slice A1 n1 c1) (.slice A2 n2 c2) (.slice A3 n3 c3) (.slice A4 n4 c4) gen root next (.slice A5 dead.length c5)), .slice A6 held.length c6] w (CountsDQ S root next dead held w) := by
  have HT := Lib.hid (fun W (hx : Ext w W) => refsD_any A1 n1 c1 A2 n2 c2 A3 n3 c3 A4 n4 c4 gen root next A5 c5 S dead W (h.ext hx) (by
    obtain ⟨A, c, e, q1, q2, q3⟩ := hd
    exact ⟨A, c, e, q1, q2, (q3.below hx).more hx.size⟩))
  have hS := Lib.hid h
  have hH := Lib.hid hh
  clear h hd hh
  have hlv : Hid (countsV S = fun refs held => if 1024 < held.length then (false, 4) else if heldOk held = true then (countsB S refs held, 0) else (false, 2)) := Lib.hid rfl
  go_enter Try.func11, Try.ntmps11
  go_wp2_with fail
  generalize hw1 : World.alloc w _ = w1
  have x1 : Ext w w1 := by rw [← hw1]; exact Ext.alloc _ _
  have r1 : w1.heap[w.heap.size]? = some (.cells (poolCs (.slice A1 n1 c1) (.slice A2 n2 c2) (.slice A3 n3 c3) (.slice A4 n4 c4) gen root next (.slice A5 dead.length c5)) 32 (0, 0)) := by rw [← hw1]; exact World.alloc_heap_at _ _ _ rfl
  clear hw1
  refine (HT.out w1 x1).mono ?_
  clear HT
  rintro e w2 ⟨hB, hQ⟩
  have x2 : Below w.heap.size w w2 := Ext.trans x1 hB
  have z1 : w.heap.size < w1.heap.size := (Array.getElem?_eq_some_iff.1 r1).1
  rcases hQ with ⟨rfl, hno⟩ | ⟨vs, refs, met, rb, rfl, hp, hm, hen, hrow, hlo⟩
  · have HB : CountsDQ S root next dead held w (.returned (.tuple #[.bool false, .int .i64 8])) w2 := ⟨x2, .inl ⟨rfl, hno⟩⟩
    replace HB := Lib.hid HB
    clear hno hB hS hH hlv
    go_wp2_with fail
    exact countsD_ret rfl rfl rfl HB.out
  · have k2 := row_ext r1 hB
    have hpr := pool_roots hp
    have hl3 : S.now.length = 256 := (storeMay_len hp.may).2.2.1
    have HV : ∀ W, Below w.heap.size w W → ∀ b n, countsV S refs held = (b, n) → CountsDQ S root next dead held w (.returned (.tuple #[.bool b, .int .i64 n])) W := fun W hW b n hv => ⟨hW, .inr ⟨vs, refs, met, hp, hm, hen, by rw [hv]⟩⟩
    have hfw := fun hh => heldTo_few (S := S) (dead := dead) hm hpr (held := held) hh
    replace HV := Lib.hid HV
    replace hfw := Lib.hid hfw
    clear hp hm hen hpr hB
    have hlow : w.heap.size < rb := by omega
    by_cases hfew : held.length ≤ 1024
    · have hd1 : decide ((held.length : Int) > 1024) = false := decide_eq_false (by omega)
      have I0 : DH S refs held w w2 rb (.int .i64 0) w2 := ⟨0, Nat.zero_le _, rfl, rfl, hlow, x2, Below.refl _ _, by
        have : heldTo refs held 0 = refs := by funext a; unfold heldTo; simp
        rw [this]; exact hrow⟩
      replace I0 := Lib.hid I0
      clear hrow
      go_wp2_with fail
      go_loopw [8] (fun i wr => DH S refs held w w2 rb i wr) (fun i _ => held.length - (intOf i).toNat)
      case atStart => exact I0.out
      case round =>
        obtain ⟨k, hk, rfl, hok, hI⟩ := hrel.ex
        clear hrel I0
        have xw : Below w.heap.size w wr := Below.trans hI.x2 (Below.mono hI.below (Nat.le_of_lt hlow))
        have hrow := hI.row
        by_cases hlt : k < held.length
        · have hlt' := hlt
          obtain ⟨Ah, ch, eh, hch1, hch2, hrh⟩ := hH.out
          simp only [Value.slice.injEq, true_and] at eh
          obtain ⟨rfl, rfl⟩ := eh
          replace hrh := hrh.below xw
          obtain ⟨bh, oh, rfl, hbh, hcelh⟩ := hrh.2 (by omega)
          have dh := hcelh k _ (by rw [List.getElem?_map, List.getElem?_eq_getElem hlt]; rfl)
          have hsn := Lib.hid (heldOk_snoc hlt hok)
          have hbd := Lib.hid (heldOk_bad hlt)
          have hsu := Lib.hid (fun (a : Nat) (ha : held[k] = (a : Int)) => heldTo_succ refs held hlt ha)
          generalize held[k] = r at *
          replace hok := Lib.hid hok
          by_cases hr : 8 ≤ r ∧ r < 256
          · obtain ⟨a, rfl⟩ := Int.eq_ofNat_of_zero_le (show 0 ≤ r by omega)
            have ha2 : a < 256 := by omega
            have kc := cells_row hrow
            have fc := frozen_row hrow
            have hcr := arrI_get (heldTo refs held k) ha2
            rw [← List.getElem?_toArray] at hcr
            have hc1 : decide ((a : Int) < 8) = false := decide_eq_false (by omega)
            have hc2 : decide ((a : Int) ≥ 256) = false := decide_eq_false (by omega)
            have hw64 := Lib.hid (IntWalk.wrap64_in ((heldTo refs held k a : Int) + 1) (by have := hfw.out hfew k a; omega))
            have hwk := Lib.hid (IntWalk.wrap64_in ((k : Int) + 1) (by omega))
            have IR : DH S refs held w w2 rb (.int .i64 ((k : Int) + 1)) (wr.setCell ⟨rb, a, none⟩ (.int .i64 ((heldTo refs held k a : Int) + 1))) :=
              ⟨k + 1, hlt', rfl, hsn.out hr, hI.low, hI.x2, Below.setCell hI.below (p := ⟨rb, a, none⟩) (Nat.le_refl _) _, by rw [row_set hrow a _, arrI_bump _ ha2, hsu.out a rfl]⟩
            replace IR := Lib.hid IR
            replace hI := Lib.hid hI
            replace hfw := Lib.hid hfw
            generalize heldTo refs held k a = hv at *
            clear hcelh hrh hrow
            go_wp2_with fail
            try rw [hw64.out]
            try rw [hwk.out]
            refine ⟨IR.out, ?_⟩
            simp [intOf]
            omega
          · have HB := Lib.hid (HV.out wr xw false 2 (by rw [hlv.out]; simp only; rw [if_neg (by omega), if_neg (by rw [hbd.out hr]; simp)]))
            have hhr : decide (r < 8) = true ∨ (decide (r < 8) = false ∧ decide (r ≥ 256) = true) := by
              rcases Int.lt_or_le r 8 with h | h
              · exact .inl (decide_eq_true h)
              · exact .inr ⟨decide_eq_false (by omega), decide_eq_true (by omega)⟩
            replace hr := Lib.hid hr
            replace hI := Lib.hid hI
            clear hcelh hrh hrow
            rcases hhr with h1 | ⟨h1, h2⟩
            all_goals
              go_wp2_with fail
              exact countsD_ret rfl rfl rfl HB.out
        · obtain rfl : k = held.length := by omega
          rw [List.take_length] at hok
          have I1 : DJ S refs held w w2 rb (.int .i64 8) wr := ⟨8, by omega, by omega, rfl, fun a h1 h2 => absurd h2 (by omega), hI⟩
          have hp := (hI.below.block w.heap.size hlow).trans k2
          generalize hwm : wr = wm at *
          clear hwm
          replace hI := Lib.hid hI
          replace hok := Lib.hid hok
          replace I1 := Lib.hid I1
          clear hrow k2 hk
          go_wp2_with fail
          go_loopw [9] (fun i wr => DJ S refs held w w2 rb i wr ∧ wr.heap[w.heap.size]? = some (.cells (poolCs (.slice A1 n1 c1) (.slice A2 n2 c2) (.slice A3 n3 c3) (.slice A4 n4 c4) gen root next (.slice A5 dead.length c5)) 32 (0, 0))) (fun i _ => 256 - (intOf i).toNat)
          case atStart => exact ⟨I1.out, hp⟩
          case round =>
            obtain ⟨hJ, hpp⟩ := hrel
            clear hp I1 hI xw
            obtain ⟨k, h8, h256, rfl, heq, hI⟩ := hJ.ex
            clear hJ
            have xw : Below w.heap.size w wr := Below.trans hI.x2 (Below.mono hI.below (Nat.le_of_lt hlow))
            by_cases hlt : k < 256
            · obtain ⟨b3, o3, c3', e3, hb3, hc3⟩ := tab_at (hS.out.below xw).now hl3
              simp only [Value.slice.injEq] at e3
              obtain ⟨rfl, rfl, rfl⟩ := e3
              have d3 := hc3 k hlt
              have hrow := hI.row
              have hcr := arrI_get (heldTo refs held held.length) hlt
              rw [← List.getElem?_toArray] at hcr
              rw [heldTo_all] at hcr
              have hfk := hfw.out hfew held.length k
              rw [heldTo_all] at hfk
              have hNX : refs k + held.count (k : Int) = (S.now[k]?.getD 0).toNat → DJ S refs held w w2 rb (.int .i64 ((k : Int) + 1)) wr := fun h => ⟨k + 1, by omega, by omega, rfl, fun a h1 h2 => by
                by_cases e : a = k
                · subst e; exact h
                · exact heq a h1 (by omega), hI⟩
              have hBAD : ¬ refs k + held.count (k : Int) = (S.now[k]?.getD 0).toNat → CountsDQ S root next dead held w (.returned (.tuple #[.bool false, .int .i64 0])) wr := fun h => HV.out wr xw false 0 (by rw [hlv.out]; simp only; rw [if_neg (by omega), if_pos hok.out, countsB_bad h8 hlt h])
              have hq8 : (S.now[k]?.getD 0).toNat < 256 := UInt8.toNat_lt _
              generalize (S.now[k]?.getD 0).toNat = q at *
              generalize refs k + held.count (k : Int) = m at *
              replace hNX := Lib.hid hNX
              replace hBAD := Lib.hid hBAD
              replace hI := Lib.hid hI
              clear heq hc3
              go_wp2_with fail
              have gC : ∀ W, extRel.r wr W → W.cell? ⟨rb, k, none⟩ = some (.int .i64 (m : Nat)) := fun W h => by rw [cells_row (row_ext hrow h)]; exact hcr
              have gN : ∀ W, extRel.r wr W → W.cell? ⟨b3, o3 + k, none⟩ = some (.int .u8 (q : Nat)) := fun W h => Ext.cell h d3
              have gP : ∀ W, extRel.r wr W → ∀ i, W.cell? ⟨w.heap.size, i, none⟩ = (poolCs (.slice A1 n1 c1) (.slice A2 n2 c2) (.slice (some ⟨b3, o3, none⟩) 256 c3) (.slice A4 n4 c4) gen root next (.slice A5 dead.length c5))[i]? := fun W h => cells_row (row_ext hpp h)
              refine region_start (by kernel_rfl) ?_
              refine any_freeT (w := wr) extRel (outsAt []) [true, true, true, true, true, true, true, true, true, true, true] 1 (by kernel_rfl) (by kernel_rfl) (by kernel_rfl) (by kernel_rfl) (by kernel_rfl) (by kernel_rfl) (by kernel_rfl) ?st (Rel.drew _ _) ?walk
              case st => exact outsAt_stableG (fun _ h => by cases h)
              case walk =>
                intro K hK
                dsimp only [maskOps]
                repeat (first | (refine free_plainM ?_ (by rfl) (by rfl) (fun W hW _ => ⟨W, ?_, Rel.refl _ W⟩) ?_; rotate_left; (first | (go_simp; with_reducible rfl) | (go_simp; done)); try simp only [Act.put, one_f, outB_f, outNew_f, outI_f, outNew_f, List.setIfInBounds_toArray, List.set_cons_zero, List.set_cons_succ]) | (refine free_skipM (by rfl) ?_; simp only [Act.put, one_f, outB_f, outNew_f, outI_f, outNew_f, List.setIfInBounds_toArray, List.set_cons_zero, List.set_cons_succ]))
                refine free_nilM (hK _ _ fun W hW hF => ?_)
                have hW' : Ext wr W := hW
                clear hF hK gC gN gP
                have pW := row_ext hpp hW'
                dsimp only [List.drop, List.length_cons, List.length_nil]
                by_cases hmq : m = q
                · have hne : ((m : Int) != (q : Int)) = false := by rw [bne_eq_false_iff_eq]; omega
                  have HN := (hNX.out hmq).ext hW'
                  have hwk := IntWalk.wrap64_in ((k : Int) + 1) (by omega)
                  replace hwk := Lib.hid hwk
                  replace HN := Lib.hid HN
                  replace hmq := Lib.hid hmq
                  clear hNX hBAD
                  go_wp2
                  refine QN_in ?_
                  go_wp2_with fail
                  try rw [hwk.out]
                  refine ⟨⟨HN.out, pW⟩, ?_⟩
                  simp [intOf]
                  omega
                · have hne : ((m : Int) != (q : Int)) = true := by rw [bne_iff_ne]; omega
                  have HB := (hBAD.out hmq).ext hW'
                  replace HB := Lib.hid HB
                  clear hNX hBAD
                  go_wp2
                  refine QN_in ?_
                  go_wp2_with fail
                  exact countsD_ret rfl rfl rfl HB.out
            · obtain rfl : k = 256 := by omega
              have HB := Lib.hid (HV.out wr xw true 0 (by rw [hlv.out]; simp only; rw [if_neg (by omega), if_pos hok.out, countsB_ok heq]))
              clear heq hI hS hH hlv HV hfw
              go_wp2_with fail
              exact countsD_ret rfl rfl rfl HB.out
    · have hd1 : decide ((held.length : Int) > 1024) = true := decide_eq_true (by omega)
      have HB := Lib.hid (HV.out w2 x2 false 4 (by rw [hlv.out]; simp only; rw [if_pos (by omega)]))
      clear hS hH hlv HV hfw
      go_wp2_with fail
      exact countsD_ret rfl rfl rfl HB.out
end Go.Proofs.Yteikcgjhcniiiaa
/- CheckTells: plain words. -/
namespace Go.Proofs.Yteikcgjhcniiiaa
set_option linter.unusedSimpArgs false
set_option linter.unusedVariables false
open Go.RowKit

/-- a pool that is not great is short -/
theorem short_of_great {S : Sto} {n : Nat} (h : greatP S n = false) : Short S ∧ n < 1000000 := by
  unfold greatP greatS greatD headG at h
  simp only [Bool.or_eq_false_iff, decide_eq_false_iff_not] at h
  obtain ⟨⟨⟨h1, h2⟩, h3, h4⟩, h5⟩ := h
  have hb := sizeL_mem (ls := S.bs) (by omega)
  have hw := sizeL_mem (ls := S.ws.map (·.2)) (by omega)
  exact ⟨⟨by omega, by omega, fun l hl => by have := hb l hl; omega, fun p hp => by have := hw p.2 (List.mem_map.2 ⟨p, hp, rfl⟩); omega, by omega, by omega⟩, by omega⟩
theorem CountsQ.form {S : Sto} {root next : Int} {dead held : List Int} {w w' : World} {e : Ending} (h : CountsQ S root next dead held w e w') : ∃ b n, e = .returned (.tuple #[.bool b, .int .i64 n]) := by
  rcases h.2 with ⟨rfl, _⟩ | ⟨_, _, _, _, _, _, rfl⟩
  · exact ⟨_, _, rfl⟩
  · exact ⟨_, _, rfl⟩
theorem UsesQ.form {S : Sto} {root next : Int} {dead : List Int} {w w' : World} {e : Ending} (h : UsesQ S root next dead w e w') : ∃ u n, e = .returned (.tuple #[u, .int .i64 n]) := by
  rcases h.2 with ⟨rfl, _⟩ | ⟨_, _, _, _, rfl, _⟩
  · exact ⟨_, _, rfl⟩
  · exact ⟨_, _, rfl⟩
/-- the program and the document tell the same counts -/
theorem counts_agree {S : Sto} {root next : Int} {dead held : List Int} {w w' v v' : World} {e e2 : Ending} (h : CountsQ S root next dead held w e w') (h2 : CountsDQ S root next dead held v e2 v') :
    ∃ b n, e = .returned (.tuple #[.bool b, .int .i64 n]) ∧ e2 = .returned (.tuple #[.bool b, .int .i64 n]) := by
  rcases h.2 with ⟨rfl, hb⟩ | ⟨vs, refs, nodes, hp, hc, he, rfl⟩
  · rcases h2.2 with ⟨rfl, _⟩ | ⟨vs, refs, met, hp, hm, he, rfl⟩
    · exact ⟨_, _, rfl, rfl⟩
    · obtain ⟨refs', nodes', hc', hn⟩ := hb vs hp
      obtain ⟨_, e⟩ := Marked.same hc'.mkd hm
      subst e
      exact absurd he hn
  · rcases h2.2 with ⟨rfl, hb⟩ | ⟨vs', refs', met, hp', hm, he', rfl⟩
    · obtain ⟨refs', met', hm', hn⟩ := hb vs hp
      obtain ⟨_, e⟩ := Marked.same hc.mkd hm'
      subst e
      exact absurd he hn
    · obtain rfl := PoolB.same hp hp'
      obtain ⟨_, e⟩ := Marked.same hc.mkd hm
      subst e
      exact ⟨_, _, rfl, rfl⟩
/-- and the same uses -/
theorem uses_agree {S : Sto} {root next : Int} {dead : List Int} {w w' v v' : World} {e e2 : Ending} (h : UsesQ S root next dead w e w') (h2 : UsesDQ S root next dead v e2 v') :
    (e = .returned (.tuple #[.slice none 0 0, .int .i64 8]) ∧ e2 = .returned (.tuple #[.slice none 0 0, .int .i64 8])) ∨
    ∃ f ob ob2, (∀ a, a < 256 → f a < 256) ∧ e = .returned (.tuple #[.slice (some ⟨ob, 0, none⟩) 256 256, .int .i64 0]) ∧ e2 = .returned (.tuple #[.slice (some ⟨ob2, 0, none⟩) 256 256, .int .i64 0]) ∧
      w.heap.size ≤ ob ∧ v.heap.size ≤ ob2 ∧ w'.heap[ob]? = some (.cells (arrB f).toArray 5 (0, 0)) ∧ v'.heap[ob2]? = some (.cells (arrB f).toArray 5 (0, 0)) := by
  rcases h.2 with ⟨rfl, hb⟩ | ⟨vs, refs, nodes, ob, rfl, hob, hp, hc, he, hr⟩
  · rcases h2.2 with ⟨rfl, _⟩ | ⟨vs, refs, met, ob, rfl, _, hp, hm, he, _⟩
    · exact .inl ⟨rfl, rfl⟩
    · obtain ⟨refs', nodes', hc', hn⟩ := hb vs hp
      obtain ⟨_, e⟩ := Marked.same hc'.mkd hm
      subst e
      exact absurd he hn
  · rcases h2.2 with ⟨rfl, hb⟩ | ⟨vs', refs', met, ob2, rfl, hob2, hp', hm, he', hr2⟩
    · obtain ⟨refs', met', hm', hn⟩ := hb vs hp
      obtain ⟨_, e⟩ := Marked.same hc.mkd hm'
      subst e
      exact absurd he hn
    · obtain rfl := PoolB.same hp hp'
      obtain ⟨e1, e⟩ := Marked.same hc.mkd hm
      refine .inr ⟨useB S (metB nodes), ob, ob2, fun a _ => useB_lt S _ a, rfl, rfl, hob, hob2, hr, ?_⟩
      rw [e1]
      exact hr2
theorem Bys.arrB {W : World} {b : Nat} {f : Nat → Nat} (hf : ∀ a, a < 256 → f a < 256) (h : W.heap[b]? = some (.cells (arrB f).toArray 5 (0, 0))) : Bys W W.heap.size (.slice (some ⟨b, 0, none⟩) 256 256) (bytesB f) := by
  have h2 : W.heap[b]? = some (.cells ((bytesB f).map bv).toArray 5 (0, 0)) := by rw [bytesB_bv f hf]; exact h
  have := Bys.lit h2 (by rw [bytesB_len]; unfold maxLen; omega)
  rw [bytesB_len] at this
  exact this
/-- bytes of a slice, whatever they are -/
structure TL (ob : Nat) (w8 : World) (i : Value) (wr : World) : Prop where
  ex : ∃ (k : Nat) (cs : Array Value), k ≤ 256 ∧ i = .int .i64 (k : Int) ∧ wr.heap[ob]? = some (.cells cs 5 (0, 0)) ∧ cs.size = 256 ∧ (∀ a, a < 256 → ∃ n, cs[a]? = some (.int .u8 n)) ∧ Below ob w8 wr
end Go.Proofs.Yteikcgjhcniiiaa
/- Several cells of a block, stored one behind the other. -/
namespace Go.Proofs.Yteikcgjhcniiiaa
set_option linter.unusedSimpArgs false
set_option linter.unusedVariables false
open Go.RowKit

def setAll (w : World) (b : Nat) : Nat → List Value → World
  | _, [] => w
  | k, v :: r => setAll (w.setCell ⟨b, k, none⟩ v) b (k + 1) r
def setIfs (cs : Array Value) : Nat → List Value → Array Value
  | _, [] => cs
  | k, v :: r => setIfs (cs.setIfInBounds k v) (k + 1) r
theorem setAll_other {b g : Nat} (h : g ≠ b) : ∀ (vs : List Value) (w : World) (k : Nat), (setAll w b k vs).heap[g]? = w.heap[g]?
  | [], _, _ => rfl
  | _ :: r, w, k => (setAll_other h r _ _).trans (Below.heap_setCell _ _ _ _ h)
theorem setAll_size {b : Nat} : ∀ (vs : List Value) (w : World) (k : Nat), (setAll w b k vs).heap.size = w.heap.size
  | [], _, _ => rfl
  | _ :: r, w, k => (setAll_size r _ _).trans (by simp)
theorem setAll_below {B b : Nat} {w0 : World} (hB : B ≤ b) : ∀ (vs : List Value) (w : World) (k : Nat), Below B w0 w → Below B w0 (setAll w b k vs)
  | [], _, _, h => h
  | v :: r, w, k, h => setAll_below hB r _ _ (Below.setCell h (p := ⟨b, k, none⟩) hB v)
theorem setAll_row {b : Nat} {t : TypeId} : ∀ (vs : List Value) (w : World) (k : Nat) (cs : Array Value), w.heap[b]? = some (.cells cs t (0, 0)) → (setAll w b k vs).heap[b]? = some (.cells (setIfs cs k vs) t (0, 0))
  | [], _, _, _, h => h
  | v :: r, w, k, cs, h => setAll_row r _ _ _ (row_set h k v)
end Go.Proofs.Yteikcgjhcniiiaa
/- Contracts: the twin of a pool. -/
namespace Go.Proofs.Yteikcgjhcniiiaa
set_option linter.unusedSimpArgs false
set_option linter.unusedVariables false
open Go.RowKit

/-- a pool in new memory (from block lo on): it reads so wherever the cells from there on are the same -/
def TwinP (lo : Nat) (S : Sto) (gen root next : Int) (dead : List Int) (u : Value) (W : World) : Prop := ∃ A1 c1 A2 c2 A3 c3 A4 c4 A5 c5, u = .agg (poolCs (.slice A1 S.bs.length c1) (.slice A2 S.ws.length c2) (.slice A3 S.now.length c3) (.slice A4 S.last.length c4) gen root next (.slice A5 dead.length c5)) ∧
  ∀ W2 : World, (∀ q : Addr, lo ≤ q.block → q.block < W.heap.size → W2.cell? q = W.cell? q) → StoAt W2 W.heap.size (.slice A1 S.bs.length c1) (.slice A2 S.ws.length c2) (.slice A3 S.now.length c3) (.slice A4 S.last.length c4) S ∧ Ints W2 W.heap.size (.slice A5 dead.length c5) dead

set_option maxHeartbeats 2000000 in
set_option maxRecDepth 100000 in
theorem twin14_any (A1 : Option Addr) (n1 c1 : Nat) (A2 : Option Addr) (n2 c2 : Nat) (A3 : Option Addr) (c3 : Nat) (A4 : Option Addr) (c4 : Nat) (gen root next : Int) (A5 : Option Addr) (c5 : Nat) (S : Sto) (dead : List Int) (hS : Short S) (hdl : dead.length < 1000000) (w : World)
    (h : StoAt w w.heap.size (.slice A1 n1 c1) (.slice A2 n2 c2) (.slice A3 S.now.length c3) (.slice A4 S.last.length c4) S) (hd : Ints w w.heap.size (.slice A5 dead.length c5) dead) :
    Calls Try.prog 9 #[.agg (poolCs (.slice A1 n1 c1) (.slice A2 n2 c2) (.slice A3 S.now.length c3) (.slice A4 S.last.length c4) gen root next (.slice A5 dead.length c5))] w (RetS (TwinP w.heap.size S gen root next dead) w) := by
  have HT := Lib.hid (fun W (hW : Ext w W) => twin8_any A1 n1 c1 A2 n2 c2 A3 c3 A4 c4 S hS W (h.ext hW))
  obtain ⟨A, c, e, _, _, hr⟩ := hd
  simp only [Value.slice.injEq, true_and] at e
  obtain ⟨rfl, rfl⟩ := e
  have HR := Lib.hid (fun W (hW : Below w.heap.size w W) => hr.below hW)
  clear h hS hr
  obtain ⟨i0, hi, hz0, hz1, hz2⟩ := info_parts Try.info_int
  go_enter Try.func9, Try.ntmps9
  go_wp2_with fail
  generalize hw1 : (World.alloc (World.alloc _ _) _) = w1
  have x1 : Ext w w1 := by rw [← hw1]; exact (Ext.alloc _ _).trans (Ext.alloc _ _)
  have r1 : w1.heap[w.heap.size]? = some (.cells (poolCs (.slice A1 n1 c1) (.slice A2 n2 c2) (.slice A3 S.now.length c3) (.slice A4 S.last.length c4) gen root next (.slice A5 dead.length c5)) 32 (0, 0)) := by rw [← hw1]; exact (Below.heap_alloc _ _ _ (by simp)).trans (World.alloc_heap_at _ _ _ rfl)
  have q1 : w1.heap[w.heap.size + 1]? = some (.cells (poolCs (.slice none 0 0) (.slice none 0 0) (.slice none 0 0) (.slice none 0 0) 0 0 0 (.slice none 0 0)) 32 (0, 0)) := by rw [← hw1]; exact World.alloc_heap_at _ _ _ (by simp)
  have z1 : w1.heap.size = w.heap.size + 2 := by rw [← hw1]; simp
  clear hw1
  refine (HT.out _ x1).mono ?_
  rintro e w2 ⟨u, rfl, ⟨B1, d1, B2, d2, B3, d3, B4, d4, rfl, hT⟩, hB⟩
  have hB : Ext w1 w2 := hB
  have r2 := row_ext r1 hB
  have q2 := row_ext q1 hB
  have k2 := cells_row r2
  have f2 := frozen_row r2
  have z2 : w1.heap.size ≤ w2.heap.size := hB.size
  have zz : w.heap.size < w2.heap.size := by omega
  replace hT := Lib.hid hT
  go_wp2_with (at_builtin; refine wpList_stop ?_)
  have P3 : ∀ wx : World, wx = (((w2.setCell ⟨w.heap.size, 0, none⟩ (.slice B1 S.bs.length d1)).setCell ⟨w.heap.size, 1, none⟩ (.slice B2 S.ws.length d2)).setCell ⟨w.heap.size, 2, none⟩ (.slice B3 S.now.length d3)).setCell ⟨w.heap.size, 3, none⟩ (.slice B4 S.last.length d4) →
      wx.heap[w.heap.size]? = some (.cells (poolCs (.slice B1 S.bs.length d1) (.slice B2 S.ws.length d2) (.slice B3 S.now.length d3) (.slice B4 S.last.length d4) gen root next (.slice A5 dead.length c5)) 32 (0, 0)) ∧ wx.heap.size = w2.heap.size ∧ Below w.heap.size w wx ∧ (∀ b, b ≠ w.heap.size → wx.heap[b]? = w2.heap[b]?) := fun wx e => by
    subst e
    refine ⟨row_set (row_set (row_set (row_set r2 0 _) 1 _) 2 _) 3 _, by simp, ?_, fun b hb => ?_⟩
    · exact Below.setCell (Below.setCell (Below.setCell (Below.setCell (x1.trans hB) (p := ⟨w.heap.size, 0, none⟩) (Nat.le_refl _) _) (p := ⟨w.heap.size, 1, none⟩) (Nat.le_refl _) _) (p := ⟨w.heap.size, 2, none⟩) (Nat.le_refl _) _) (p := ⟨w.heap.size, 3, none⟩) (Nat.le_refl _) _
    · exact (Below.heap_setCell _ _ _ _ hb).trans ((Below.heap_setCell _ _ _ _ hb).trans ((Below.heap_setCell _ _ _ _ hb).trans (Below.heap_setCell _ _ _ _ hb)))
  generalize hw3 : World.setCell (World.setCell (World.setCell (World.setCell w2 _ _) _ _) _ _) _ _ = w3
  obtain ⟨r3, z3, x3, b3⟩ := P3 w3 hw3.symm
  have q3 := (b3 (w.heap.size + 1) (by omega)).trans q2
  clear P3 hw3 k2 f2 r2 q2 r1 q1 hB
  refine Stopped.go (wpList_append_rd _ rfl (.const (.slice none 0 0)) (.tmp 8) 30 rfl w3.heap.size 3 i0 (.int .i64 0) 1 8 Try.underlying30 hi hz0 hz1 hz2 rfl (by decide) _ 0 [] rfl (World.ownsRow_nil _ _ _ _) w3.heap.size A5 dead.length c5 (dead.map fun (a : Int) => Value.int .i64 a) rfl ((HR.out w3 x3).more (by omega)) (by
    intro u hu
    obtain ⟨a, _, rfl⟩ := List.mem_map.1 hu
    rfl) (by omega) (by decide) (Nat.le_refl _) ?_)
  intro v4 w4 own4 _ hB4 _
  have hB4 : Ext w3 w4 := hB4
  have r4 := row_ext r3 hB4
  have q4 := row_ext q3 hB4
  have k4 := cells_row r4
  have f4 := frozen_row r4
  have kq4 := cells_row q4
  have fq4 := frozen_row q4
  have z4 := hB4.size
  simp only [Nat.zero_add, List.nil_append] at own4
  obtain ⟨A6, c6, rfl, _, _⟩ := own_slice own4
  clear r3 q3
  replace own4 := Lib.hid own4
  go_wp2_with fail
  have P5 : ∀ wx : World, wx = setAll (w4.setCell ⟨w.heap.size, 7, none⟩ (.slice A6 dead.length c6)) (w.heap.size + 1) 0 [.slice B1 S.bs.length d1, .slice B2 S.ws.length d2, .slice B3 S.now.length d3, .slice B4 S.last.length d4, .int .u32 gen, .int .i64 root, .int .u32 next, .slice A6 dead.length c6] →
      wx.heap[w.heap.size + 1]? = some (.cells (poolCs (.slice B1 S.bs.length d1) (.slice B2 S.ws.length d2) (.slice B3 S.now.length d3) (.slice B4 S.last.length d4) gen root next (.slice A6 dead.length c6)) 32 (0, 0)) ∧ wx.heap.size = w4.heap.size ∧ Below w.heap.size w wx ∧ (∀ b, b ≠ w.heap.size → b ≠ w.heap.size + 1 → wx.heap[b]? = w4.heap[b]?) := fun wx e => by
    subst e
    refine ⟨?_, (setAll_size _ _ _).trans (by simp), setAll_below (Nat.le_succ _) _ _ _ (Below.setCell (Below.trans x3 (Below.mono hB4 (by omega))) (p := ⟨w.heap.size, 7, none⟩) (Nat.le_refl _) _), fun b h1 h2 => (setAll_other h2 _ _ _).trans (Below.heap_setCell _ _ _ _ h1)⟩
    refine (setAll_row _ _ _ _ ((Below.heap_setCell _ _ _ _ (by show _ ≠ w.heap.size; omega)).trans q4)).trans ?_
    simp [setIfs, poolCs]
  generalize hw5 : World.setCell (World.setCell (World.setCell (World.setCell (World.setCell (World.setCell (World.setCell (World.setCell (World.setCell w4 _ _) _ _) _ _) _ _) _ _) _ _) _ _) _ _) _ _ = w5
  obtain ⟨r5, z5, x5, b5⟩ := P5 w5 hw5.symm
  clear P5 hw5
  have k5 := cells_row r5
  refine bodyPost_ret (v := .agg (poolCs (.slice B1 S.bs.length d1) (.slice B2 S.ws.length d2) (.slice B3 S.now.length d3) (.slice B4 S.last.length d4) gen root next (.slice A6 dead.length c6))) (by simp [results, Try.results9, go_sem, k5]) rfl ⟨_, rfl, ⟨B1, d1, B2, d2, B3, d3, B4, d4, A6, c6, rfl, fun W2 hk => ⟨?_, ?_⟩⟩, x5⟩
  · rw [z5] at hk ⊢
    refine ((hT.out W2 fun q h1 h2 => (hk q (by omega) (by omega)).trans ?_).more (by omega))
    refine (World.cell?_of_block (b5 q.block (by omega) (by omega))).trans ((World.cell?_of_block (hB4.block q.block (by omega))).trans (World.cell?_of_block (b3 q.block (by omega))))
  · rw [z5] at hk ⊢
    have hR := (Rd.of_own own4.out).keepN ((From.of_own own4.out).mono (lo' := w3.heap.size) (Nat.le_refl _)) (W := W2) (fun q h1 h2 => (hk q (by omega) (by omega)).trans (World.cell?_of_block (b5 q.block (by omega) (by omega))))
    obtain ⟨A, c, e, q1, q2⟩ := own_slice own4.out
    cases e
    exact ⟨A6, c6, rfl, q1, q2, hR⟩
end Go.Proofs.Yteikcgjhcniiiaa
