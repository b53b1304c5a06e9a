/- From a law's walk to its row: the arguments read behind the call as they did. -/
import Derived.Deep.Slices
import Derived.Test.YtlgbjpihmkeopaaU01
import Derived.Test.YtlgbjpihmkeopaaU03
import Derived.Test.YtlgbjpihmkeopaaU06
import Derived.Test.YtlgbjpihmkeopaaU07
import Derived.Test.YtlgbjpihmkeopaaU13
import Derived.Test.YtlgbjpihmkeopaaU19
import Derived.Test.YtlgbjpihmkeopaaU21
import Derived.Test.YtlgbjpihmkeopaaU22
/- Contracts: is a disk, a store, a pool more than statements go through? -/
namespace Go.Proofs.Ytlgbjpihmkeopaa
set_option linter.unusedSimpArgs false
set_option linter.unusedVariables false
open Go.RowKit

def sizeL (ls : List (List UInt8)) : Nat := (ls.map fun l => min l.length 1000000).sum
theorem sizeL_take {ls : List (List UInt8)} {k : Nat} (h : k < ls.length) : sizeL (ls.take (k + 1)) = sizeL (ls.take k) + min ls[k].length 1000000 := by
  unfold sizeL
  rw [List.take_succ_eq_append_getElem h, List.map_append, List.sum_append]
  simp
theorem sizeL_le (ls : List (List UInt8)) : sizeL ls ≤ ls.length * 1000000 := by
  induction ls with
  | nil => simp [sizeL]
  | cons l r ih => simp only [sizeL, List.map_cons, List.sum_cons, List.length_cons] at ih ⊢; omega
theorem sizeL_take_le {ls : List (List UInt8)} {n : Nat} (h : ls.length ≤ n) (k : Nat) : sizeL (ls.take k) ≤ n * 1000000 := by
  have h1 := sizeL_le (ls.take k)
  have h2 : (ls.take k).length ≤ n := by rw [List.length_take]; omega
  have h3 : (ls.take k).length * 1000000 ≤ n * 1000000 := Nat.mul_le_mul_right _ h2
  exact Nat.le_trans h1 h3
def headG (n m : Nat) : Bool := decide (300 < n ∨ 5000 < m ∨ (600 < m ∧ m < 4096))
def greatD (bs : List (List UInt8)) (ws : List (Int × List UInt8)) : Bool := headG bs.length ws.length || decide (800000 < sizeL bs + sizeL (ws.map (·.2)))

set_option maxHeartbeats 4000000 in
set_option maxRecDepth 100000 in
theorem great3_any (A1 : Option Addr) (n1 c1 : Nat) (A2 : Option Addr) (n2 c2 : Nat) (bs : List (List UInt8)) (ws : List (Int × List UInt8)) (w : World) (hb : Bls w w.heap.size (.slice A1 n1 c1) bs) (hw : Wrs w w.heap.size (.slice A2 n2 c2) ws) :
    Calls Try.prog 46 #[diskV A1 n1 c1 A2 n2 c2] w (Ret (.bool (greatD bs ws)) w) := by
  obtain ⟨e1, hc1, hm1, hA1⟩ := hb.at_
  obtain ⟨e2, hc2, hm2, hA2⟩ := hw.at_
  subst e1
  subst e2
  by_cases hh : headG bs.length ws.length = true
  case pos =>
    have hM : greatD bs ws = true := by unfold greatD; rw [hh]; rfl
    rw [hM]
    have hh' : 300 < bs.length ∨ 5000 < ws.length ∨ (600 < ws.length ∧ ws.length < 4096) := by simpa [headG] using hh
    clear hM hb hw hA1 hA2 hh
    generalize bs.length = n1 at *
    generalize ws.length = n2 at *
    go_enter Try.func46, Try.ntmps46
    go_wp2
    all_goals try simp only [beq_iff_eq, beq_eq_false_iff_ne, ne_eq, bne_iff_ne, bne_eq_false_iff_eq] at *
    all_goals first | (exfalso; omega) | skip
    all_goals go_ret
    all_goals exact ⟨rfl, (by repeat' (first | with_reducible exact Below.refl _ _ | with_reducible assumption | with_reducible apply Below.drew | with_reducible apply below_drewN | with_reducible refine Below.alloc ?_ ?_ _ | with_reducible refine Below.setCell ?_ ?_ _ | (simp; done) | (simp; omega) | omega))⟩
  case neg =>
    have hM : greatD bs ws = decide (800000 < sizeL bs + sizeL (ws.map (·.2))) := by unfold greatD; rw [show headG bs.length ws.length = false by simpa using hh]; rfl
    have hh' : ¬(300 < bs.length ∨ 5000 < ws.length ∨ (600 < ws.length ∧ ws.length < 4096)) := by simpa [headG] using hh
    have hn1 : bs.length ≤ 300 := by omega
    have hn2 : ws.length ≤ 5000 := by omega
    have hn3 : ¬(600 < ws.length ∧ ws.length < 4096) := fun h => hh' (.inr (.inr h))
    rw [hM]
    clear hM hh hh'
    have HB := Lib.hid hb
    have HW := Lib.hid hw
    have HTB := Lib.hid (fun k h => @sizeL_take bs k h)
    have HTW := Lib.hid (fun k (h : k < (ws.map (·.2)).length) => @sizeL_take (ws.map (·.2)) k h)
    have HLB := Lib.hid (fun k => sizeL_take_le hn1 k)
    have HLW := Lib.hid (fun k => sizeL_take_le (ls := ws.map (·.2)) (n := 5000) (by rw [List.length_map]; exact hn2) k)
    have HE1 : Hid (bs.take bs.length = bs) := Lib.hid (List.take_length)
    have HE2 : Hid ((ws.map (·.2)).take ws.length = ws.map (·.2)) := Lib.hid (by rw [← List.length_map (f := (·.2))]; exact List.take_length)
    clear hb hw
    have hd1 : decide ((bs.length : Int) > 300) = false := decide_eq_false (by omega)
    have hd2 : decide ((ws.length : Int) > 5000) = false := decide_eq_false (by omega)
    go_enter Try.func46, Try.ntmps46
    go_wp2
    all_goals first | (exfalso; omega) | skip
    all_goals
      generalize hw1 : (World.alloc _ _) = w1
      have x1 : Ext w w1 := by rw [← hw1]; exact Ext.alloc _ _
      have r1 : w1.heap[w.heap.size]? = some (.cells #[.slice A1 bs.length c1, .slice A2 ws.length c2] 25 (0, 0)) := by rw [← hw1]; exact World.alloc_heap_at _ _ _ rfl
      clear hw1
      go_loopw [3, 4] (fun t i wr => ∃ k : Nat, k ≤ bs.length ∧ i = .int .i64 (k : Int) ∧ t = .int .i64 (sizeL (bs.take k) : Int) ∧ Ext w1 wr) (fun _ i _ => bs.length - (intOf i).toNat)
      case atStart => exact ⟨0, by omega, rfl, rfl, Ext.refl _⟩
      case round =>
        obtain ⟨k, hk, rfl, rfl, hE⟩ := hrel
        have hEw := x1.trans hE
        have rr := row_ext r1 hE
        have kr := cells_row rr
        have hlb := HLB.out k
        by_cases hlt : k < bs.length
        · have hlt' := hlt
          obtain ⟨b1, o1, rfl, hb1⟩ := hA1 (by omega)
          obtain ⟨A', c', hc, hby⟩ := ((HB.out.below hEw).more hEw.size).get k hlt
          have hm64 := hby.at_.2.1
          have hm65 := hby.at_.2.2.1
          have ht := HTB.out k hlt
          replace ht := Lib.hid ht
          clear hby
          unfold maxLen at hm65
          generalize bs[k].length = m at *
          generalize sizeL (bs.take k) = q at *
          go_wp2
          go_roundw
          case rel => exact ⟨k + 1, by omega, by go_num, by rw [ht.out]; go_num, hE⟩
          case measure => simp [intOf]; omega
        · obtain rfl : k = bs.length := by omega
          rw [HE1.out] at hlb ⊢
          clear HB HTB HLB r1 hd1 hd2
          go_wp2
          clear kr
          go_loopw [3, 5] (fun t i wq => ∃ j : Nat, j ≤ ws.length ∧ i = .int .i64 (j : Int) ∧ t = .int .i64 ((sizeL bs + sizeL ((ws.map (·.2)).take j) : Nat) : Int) ∧ Ext wr wq) (fun _ i _ => ws.length - (intOf i).toNat)
          case atStart => exact ⟨0, by omega, rfl, rfl, Ext.refl _⟩
          case round =>
            obtain ⟨j, hj, rfl, rfl, hE2⟩ := hrel
            have hEq := hEw.trans hE2
            have kr := cells_row (row_ext rr hE2)
            have hlw := HLW.out j
            by_cases hlt2 : j < ws.length
            · have hlt2' := hlt2
              obtain ⟨b2, o2, rfl, hb2⟩ := hA2 (by omega)
              obtain ⟨A', c', hca, hcb, hby⟩ := ((HW.out.below hEq).more hEq.size).get j hlt2
              have hm64 := hby.at_.2.1
              have hm65 := hby.at_.2.2.1
              have ht := HTW.out j (by rw [List.length_map]; exact hlt2)
              rw [List.getElem_map] at ht
              replace ht := Lib.hid ht
              clear hby
              unfold maxLen at hm65
              generalize ws[j].2.length = m at *
              generalize ws[j].1 = a at *
              generalize sizeL ((ws.map (·.2)).take j) = q at *
              generalize sizeL bs = s0 at *
              go_wp2
              go_roundw
              case rel => exact ⟨j + 1, by omega, by go_num, by rw [ht.out]; go_num, hE2⟩
              case measure => simp [intOf]; omega
            · obtain rfl : j = ws.length := by omega
              rw [HE2.out] at hlw ⊢
              go_wp2
              go_ret
              refine ⟨ret_bool ?_, hEq⟩
              rw [Bool.eq_iff_iff]
              simp
              omega
end Go.Proofs.Ytlgbjpihmkeopaa
/- Contracts: is a store, a pool more than statements go through? -/
namespace Go.Proofs.Ytlgbjpihmkeopaa
set_option linter.unusedSimpArgs false
set_option linter.unusedVariables false
open Go.RowKit

def greatS (S : Sto) : Bool := greatD S.bs S.ws || (decide (10000 < S.now.length) || decide (10000 < S.last.length))
abbrev poolV (A1 : Option Addr) (n1 c1 : Nat) (A2 : Option Addr) (n2 c2 : Nat) (A3 : Option Addr) (n3 c3 : Nat) (A4 : Option Addr) (n4 c4 : Nat) (g r x : Int) (A5 : Option Addr) (n5 c5 : Nat) : Value :=
  .agg #[.slice A1 n1 c1, .slice A2 n2 c2, .slice A3 n3 c3, .slice A4 n4 c4, .int .u32 g, .int .i64 r, .int .u32 x, .slice A5 n5 c5]

set_option maxHeartbeats 2000000 in
set_option maxRecDepth 100000 in
theorem great8_any (A1 : Option Addr) (n1 c1 : Nat) (A2 : Option Addr) (n2 c2 : Nat) (A3 : Option Addr) (n3 c3 : Nat) (A4 : Option Addr) (n4 c4 : Nat) (S : Sto) (w : World) (h : StoAt w w.heap.size (.slice A1 n1 c1) (.slice A2 n2 c2) (.slice A3 n3 c3) (.slice A4 n4 c4) S) :
    Calls Try.prog 19 #[storeV A1 n1 c1 A2 n2 c2 A3 n3 c3 A4 n4 c4] w (Ret (.bool (greatS S)) w) := by
  have HD := Lib.hid (fun W (hW : Ext w W) => great3_any A1 n1 c1 A2 n2 c2 S.bs S.ws W (h.ext hW).bs (h.ext hW).ws)
  have e3 : S.now.length = n3 := h.now.at_.1.symm
  have e4 : S.last.length = n4 := h.last.at_.1.symm
  have hS : greatS S = (greatD S.bs S.ws || (decide (10000 < n3) || decide (10000 < n4))) := by unfold greatS; rw [e3, e4]
  rw [hS]
  clear hS h e3 e4
  generalize greatD S.bs S.ws = d at *
  go_enter Try.func19, Try.ntmps19
  go_wp2_with fail
  generalize hw1 : (World.alloc _ _) = w1
  have x1 : Ext w w1 := by rw [← hw1]; exact Ext.alloc _ _
  have r1 : w1.heap[w.heap.size]? = some (.cells #[.slice A1 n1 c1, .slice A2 n2 c2, .slice A3 n3 c3, .slice A4 n4 c4] 28 (0, 0)) := by rw [← hw1]; exact World.alloc_heap_at _ _ _ rfl
  clear hw1
  refine (HD.out _ x1).mono ?_
  rintro e w2 ⟨rfl, hB⟩
  have x2 := x1.trans hB
  have r2 := row_ext r1 hB
  have k2 := cells_row r2
  clear hB r1 x1 HD
  cases d
  all_goals
    go_wp2
    all_goals
      go_ret
      refine ⟨ret_bool ?_, x2⟩
      rw [Bool.eq_iff_iff]
      simp
      try omega

def greatP (S : Sto) (dead : Nat) : Bool := greatS S || decide (1000 < dead)
set_option maxHeartbeats 2000000 in
set_option maxRecDepth 100000 in
theorem great14_any (A1 : Option Addr) (n1 c1 : Nat) (A2 : Option Addr) (n2 c2 : Nat) (A3 : Option Addr) (n3 c3 : Nat) (A4 : Option Addr) (n4 c4 : Nat) (g r x : Int) (A5 : Option Addr) (n5 c5 : Nat) (S : Sto) (w : World) (h : StoAt w w.heap.size (.slice A1 n1 c1) (.slice A2 n2 c2) (.slice A3 n3 c3) (.slice A4 n4 c4) S) :
    Calls Try.prog 6 #[poolV A1 n1 c1 A2 n2 c2 A3 n3 c3 A4 n4 c4 g r x A5 n5 c5] w (Ret (.bool (greatP S n5)) w) := by
  have HD := Lib.hid (fun W (hW : Ext w W) => great8_any A1 n1 c1 A2 n2 c2 A3 n3 c3 A4 n4 c4 S W (h.ext hW))
  have hS : greatP S n5 = (greatS S || decide (1000 < n5)) := rfl
  rw [hS]
  clear hS h
  generalize greatS S = d at *
  go_enter Try.func6, Try.ntmps6
  go_wp2_with fail
  generalize hw1 : (World.alloc _ _) = w1
  have x1 : Ext w w1 := by rw [← hw1]; exact Ext.alloc _ _
  have r1 : w1.heap[w.heap.size]? = some (.cells #[.slice A1 n1 c1, .slice A2 n2 c2, .slice A3 n3 c3, .slice A4 n4 c4, .int .u32 g, .int .i64 r, .int .u32 x, .slice A5 n5 c5] 32 (0, 0)) := by rw [← hw1]; exact World.alloc_heap_at _ _ _ rfl
  clear hw1
  refine (HD.out _ x1).mono ?_
  rintro e w2 ⟨rfl, hB⟩
  have x2 := x1.trans hB
  have r2 := row_ext r1 hB
  have k2 := cells_row r2
  clear hB r1 x1 HD
  cases d
  all_goals
    go_wp2
    all_goals
      go_ret
      refine ⟨ret_bool ?_, x2⟩
      rw [Bool.eq_iff_iff]
      simp
      try omega
end Go.Proofs.Ytlgbjpihmkeopaa
/- CheckHolds: plain words; an append onto a row that was made in the same drawn region. -/
namespace Go.Proofs.Ytlgbjpihmkeopaa
set_option linter.unusedSimpArgs false
set_option linter.unusedVariables false
open Go.RowKit

def apI (B : Nat) (e : TypeId) (n : Nat) (xs : List Value) (u : Value) : Rel where
  rel W W' := (W'.os = W.os ∧ W'.tape = W.tape ∧ W'.output = W.output ∧ W.heap.size ≤ W'.heap.size ∧ ∀ k, k < B → k < W.heap.size → W'.heap[k]? = W.heap[k]?) ∧ (∀ v, W.ownsRow B e 1 v n xs → W'.ownsRow B e 1 v n xs) ∧ (∀ v, W.ownsRow B e 1 v (n + 1) (xs ++ [u]) → W'.ownsRow B e 1 v (n + 1) (xs ++ [u])) ∧
    ∀ b : Nat, W.heap[b]? = some (Obj.cells #[u] e (0, 0)) → W'.heap[b]? = some (Obj.cells #[u] e (0, 0))
  refl' W := ⟨⟨rfl, rfl, rfl, Nat.le_refl _, fun _ _ _ => rfl⟩, fun _ h => h, fun _ h => h, fun _ h => h⟩
  trans' h k := ⟨⟨k.1.1.trans h.1.1, k.1.2.1.trans h.1.2.1, k.1.2.2.1.trans h.1.2.2.1, Nat.le_trans h.1.2.2.2.1 k.1.2.2.2.1, fun b hb hl => (k.1.2.2.2.2 b hb (Nat.lt_of_lt_of_le hl h.1.2.2.2.1)).trans (h.1.2.2.2.2 b hb hl)⟩,
    fun v x => k.2.1 v (h.2.1 v x), fun v x => k.2.2.1 v (h.2.2.1 v x), fun b x => k.2.2.2 b (h.2.2.2 b x)⟩
  drew' W := ⟨⟨rfl, rfl, rfl, Nat.le_refl _, fun _ _ _ => rfl⟩, fun _ h => h.drew, fun _ h => h.drew, fun _ h => h⟩
section
variable {B : Nat} {e : TypeId} {n : Nat} {xs : List Value} {u : Value}
theorem apI_ext {W W' : World} (h : Ext W W') : (apI B e n xs u).r W W' := ⟨⟨h.os, h.tape, h.output, h.size, fun k _ hk => h.block k hk⟩, fun _ x => own_ext x h, fun _ x => own_ext x h, fun _ x => row_ext x h⟩
theorem apI_row {W W' : World} (h : (apI B e n xs u).r W W') {b : Nat} {o : Obj} (hb : b < B) (hr : W.heap[b]? = some o) : W'.heap[b]? = some o := (h.1.2.2.2.2 b hb (Array.getElem?_eq_some_iff.1 hr).1).trans hr
theorem apI_below {W W' : World} (h : (apI B e n xs u).r W W') (hB : B ≤ W.heap.size) : Below B W W' := ⟨h.1.1, h.1.2.1, h.1.2.2.1, h.1.2.2.2.1, fun k hk => h.1.2.2.2.2 k hk (by omega)⟩
theorem run_append_apI {P : Program} (W : World) (t ty : TypeId) (i : TypeInfo) (z : Value) (bytes : Nat) (ht : P.underlying t = some (.slice e)) (hi : P.info? e = some i) (hz : i.zero = some z)
    (hsize : i.size = 1) (hby : i.bytes = bytes) (hzs : z.cells.size = 1) {v : Value} (hown : W.ownsRow B e 1 v n xs)
    (b : Nat) (hr : W.heap[b]? = some (.cells #[u] e (0, 0))) (h1 : u.oneCell' = true) (hn : n + 1 < 1073741824) (hbytes : bytes ≤ 65536) (hB : B ≤ W.heap.size) :
    ∃ v' w', (Builtin.append_ #[t, t] ty #[v, .slice (some ⟨b, 0, none⟩) 1 1]).run P W = .ok v' w' ∧ w'.ownsRow B e 1 v' (n + 1) (xs ++ [u]) ∧ (apI B e n xs u).r W w' := by
  have hb : (n + 1) * bytes ≤ 140737488355328 := Nat.le_trans (Nat.mul_le_mul_left _ hbytes) (by omega)
  have hm : n + 1 ≤ maxLen := by unfold maxLen; omega
  have hnews : ∀ j x, [u][j]? = some x → W.cell? ((⟨b, 0, none⟩ : Addr).add j) = some x := row_adds hr
  have h1' : ∀ x ∈ [u], x.oneCell' = true := fun x hx => by
    have : x = u := by simpa using hx
    subst this
    exact h1
  obtain ⟨v', w', hrun, h2, h3, _, h5⟩ := run_append_own_at (P := P) W B t ty e i z 1 bytes ht hi hz hsize hby hzs (by omega) v n xs hown ⟨b, 0, none⟩ 1 1 [u] rfl hnews h1' hm hb hB
  have hx : xs.length = n := by simpa using hown.1
  rcases hown.2 with ⟨rfl, rfl⟩ | ⟨g, cap, cur, rfl, hbg, hg, hnc, hcm, hcs, htk⟩
  · exact ⟨v', w', hrun, h2, apI_ext ⟨h3.os, h3.tape, h3.output, h3.size, fun k hk => h3.block k hk (by simp [Value.ownBlock])⟩⟩
  · by_cases hroom : n + 1 ≤ cap
    · obtain ⟨w2, hr2, g2, g3⟩ := run_append_fits (P := P) W B t ty e i 1 ht hi hsize g n cap xs hown ⟨b, 0, none⟩ 1 1 [u] rfl hnews h1' hroom
      have hcap : ∀ {m c : Nat} {cur' : Array Value}, W.heap[g]? = some (.cells cur' e (0, 0)) → cur'.size = c * 1 → c = cap := fun h k => by
        rw [hg] at h
        simp only [Option.some.injEq, Obj.cells.injEq, and_true] at h
        subst h
        omega
      refine ⟨_, w2, hr2, g2, ⟨g3.os, g3.tape, g3.output, g3.size, fun k hk hl => g3.block k hl (by intro x; simp at x; omega)⟩, fun v x => ?_, fun v x => ?_, fun q hq => ?_⟩
      · refine ⟨x.1, ?_⟩
        rcases x.2 with h0 | ⟨g', cap', cur', rfl, hbg', hg', hnc', hcm', hcs', htk'⟩
        · exact .inl h0
        · by_cases hgg : g' = g
          · subst hgg
            obtain rfl := hcap (m := 0) hg' hcs'
            exact (own_shrink (n := n) (m := 1) (xs := xs) (news := [u]) g2 (by simpa using hx)).2
          · exact .inr ⟨g', cap', cur', rfl, hbg', (g3.block g' (Array.getElem?_eq_some_iff.1 hg').1 (by simpa using hgg)).trans hg', hnc', hcm', hcs', htk'⟩
      · refine ⟨x.1, ?_⟩
        rcases x.2 with h0 | ⟨g', cap', cur', rfl, hbg', hg', hnc', hcm', hcs', htk'⟩
        · exact .inl h0
        · by_cases hgg : g' = g
          · subst hgg
            obtain rfl := hcap (m := 0) hg' hcs'
            exact g2.2
          · exact .inr ⟨g', cap', cur', rfl, hbg', (g3.block g' (Array.getElem?_eq_some_iff.1 hg').1 (by simpa using hgg)).trans hg', hnc', hcm', hcs', htk'⟩
      · by_cases hgg : q = g
        · subst hgg
          rw [hg] at hq
          simp only [Option.some.injEq, Obj.cells.injEq, and_true] at hq
          subst hq
          have hc1 : cap = 1 := by have : (1 : Nat) = cap * 1 := hcs; omega
          have hn0 : n = 0 := by omega
          rcases g2.2 with ⟨e0, _⟩ | ⟨g', cap', cur', e1, _, hg', _, _, hcs', htk'⟩
          · cases e0
          · simp only [Value.slice.injEq, Option.some.injEq, Addr.mk.injEq, and_true, true_and] at e1
            obtain ⟨rfl, rfl⟩ := e1
            have hs : cur'.size = 1 := by omega
            have hx0 : xs = [] := List.eq_nil_of_length_eq_zero (by omega)
            subst hx0
            have e2 : cur'.toList = [u] := by
              rw [← List.take_length (l := cur'.toList)] 
              have : cur'.toList.length = (n + 1) * 1 := by simp; omega
              rw [this, htk']
              rfl
            rw [hg', show cur' = #[u] from by rw [← Array.toArray_toList (xs := cur'), e2]]
        · exact (g3.block q (Array.getElem?_eq_some_iff.1 hq).1 (by simpa using hgg)).trans hq
    · have holds : ∀ j x, xs[j]? = some x → W.cell? ((⟨g, 0, none⟩ : Addr).add j) = some x := hown.cells (g := g) rfl
      have hr' := run_append_grow (P := P) W t ty e i z ht hi hz ⟨g, 0, none⟩ n cap xs (by rw [hsize]; simpa using hx) holds ⟨b, 0, none⟩ 1 1 [u] (by rw [hsize]; rfl) hnews (by omega) (by unfold maxLen at hm; omega) (by rw [hby]; exact growslice_fits (by omega) hb)
      rw [hrun] at hr'
      cases hr'
      exact ⟨_, _, hrun, h2, apI_ext ((Ext.drew W).trans (Ext.alloc _ _))⟩
end
def outOwnR (lo : Nat) (e : TypeId) (n : Nat) (xs : List Value) : Outs := ⟨Option Addr × Nat, fun p => .slice p.1 n p.2, fun p W => W.ownsRow lo e 1 (.slice p.1 n p.2) n xs⟩
theorem outOwnR_f (lo : Nat) (e : TypeId) (n : Nat) (xs : List Value) (A : Option Addr) (c : Nat) : (outOwnR lo e n xs).f (A, c) = .slice A n c := rfl
theorem outOwnR_stable1 (B : Nat) (e : TypeId) (n : Nat) (xs : List Value) (u : Value) : ∀ p, StableG (apI B e n xs u) ((outOwnR B e n xs).φ p) := fun p W W' he h => he.2.1 _ h
theorem outOwnR_stable2 (B : Nat) (e : TypeId) (n : Nat) (xs : List Value) (u : Value) : ∀ p, StableG (apI B e n xs u) ((outOwnR B e (n + 1) (xs ++ [u])).φ p) := fun p W W' he h => he.2.2.1 _ h
theorem outLit_stableI (B lo : Nat) (e : TypeId) (n : Nat) (xs : List Value) (u : Value) : ∀ p, StableG (apI B e n xs u) ((outLit lo 1 e #[u]).φ p) := fun p W W' he h => ⟨he.2.2.2 _ h.1, h.2⟩

theorem CountsQ.known {S : Sto} {root next : Int} {dead held : List Int} {vs : List Vol} {refs nodes : Nat → Nat} {w w' : World} {e : Ending} (h : CountsQ S root next dead held w e w') (hp : PoolB S root next dead vs) (hc : Counted S (rootsN root dead vs) refs nodes) (he : Enough S refs) :
    e = .returned (.tuple #[.bool (countsV S refs held).1, .int .i64 (countsV S refs held).2]) := by
  rcases h.2 with ⟨_, hb⟩ | ⟨vs', refs', nodes', hp', hc', he', rfl⟩
  · obtain ⟨refs', nodes', hc', hn⟩ := hb vs hp
    obtain ⟨_, e⟩ := Marked.same hc'.mkd hc.mkd
    subst e
    exact absurd he hn
  · obtain rfl := PoolB.same hp hp'
    obtain ⟨_, e⟩ := Marked.same hc'.mkd hc.mkd
    subst e
    rfl
theorem counts_true {S : Sto} {refs : Nat → Nat} {held : List Int} : countsV S refs held = (true, 0) ↔ held.length ≤ 1024 ∧ heldOk held = true ∧ ∀ a, 8 ≤ a → a < 256 → refs a + held.count (a : Int) = (S.now[a]?.getD 0).toNat := by
  unfold countsV
  constructor
  · intro h
    split at h
    · cases h
    · split at h
      · rename_i h1 h2
        refine ⟨by omega, h2, fun a h8 ha => ?_⟩
        have hb : countsB S refs held = true := (Prod.mk.inj h).1
        unfold countsB at hb
        have := List.all_eq_true.1 hb a (List.mem_range.2 ha)
        simp only [Bool.or_eq_true, decide_eq_true_eq] at this
        omega
      · cases h
  · intro ⟨h1, h2, h3⟩
    rw [if_neg (by omega), if_pos h2, countsB_ok h3]
theorem heldOk_all {held : List Int} : heldOk held = true ↔ ∀ a ∈ held, 8 ≤ a ∧ a < 256 := by
  unfold heldOk
  rw [List.all_eq_true]
  exact ⟨fun h a ha => of_decide_eq_true (h a ha), fun h a ha => decide_eq_true (h a ha)⟩
end Go.Proofs.Ytlgbjpihmkeopaa
/- What the arguments' readings say of memory. -/
namespace Go.Proofs.Ytlgbjpihmkeopaa
set_option linter.unusedSimpArgs false
set_option linter.unusedVariables false
open Go.RowKit Go.ChangeShapes Go.WideShapes Go.ChangeAt

section
variable {H : Type} {enc : TypeId × Value → H} {P : Program} {W : World}

theorem numOfs_bytes (zs : List Int) (h : ∀ n ∈ zs, (Lit.int .u8 n).wf = true) : ∃ l : List UInt8, zs.map (Value.int .u8) = l.map bv := by
  induction zs with
  | nil => exact ⟨[], rfl⟩
  | cons z r ih =>
    obtain ⟨l, hl⟩ := ih (fun n hn => h n (List.mem_cons_of_mem _ hn))
    have hz := h z (List.mem_cons_self)
    have hb : 0 ≤ z ∧ z ≤ 255 := by simpa [Lit.wf, IntKind.min, IntKind.max, IntKind.signed, IntKind.bits] using hz
    refine ⟨UInt8.ofNat z.toNat :: l, ?_⟩
    simp only [List.map_cons, hl]
    congr 1
    simp only [bv]
    congr 1
    have : (UInt8.ofNat z.toNat).toNat = z.toNat % 256 := by simp
    rw [this]
    omega

theorem rd_of_cells {a : Addr} {n c : Nat} {xs : List Value} (hn : n ≤ c) (hlen : xs.length = n) (hb : ∀ x ∈ MemPlace.row a c, x.block < W.heap.size) (hc : ∀ i u, xs[i]? = some u → W.cell? (a.add i) = some u) : Rd W W.heap.size 1 (some a) n xs := by
  refine ⟨by omega, fun h0 => ?_⟩
  obtain ⟨u, hu⟩ : ∃ u, xs[0]? = some u := ⟨_, List.getElem?_eq_getElem (by omega)⟩
  have h1 := hc 0 u hu
  have hsp : a.spot = none := by
    have : (a.add 0) = a := by simp [Addr.add]
    rw [this] at h1
    unfold World.cell? at h1
    split at h1
    · cases hs : a.spot with
      | none => rfl
      | some s => rw [hs] at h1; simp at h1
    · cases h1
  obtain ⟨b, off, sp⟩ := a
  simp only at hsp
  subst hsp
  have hbl : b < W.heap.size := by
    have : W.cell? ((⟨b, off, none⟩ : Addr).add 0) = some u := h1
    have h2 := World.block_lt_of_cell? W _ this
    simpa [Addr.add] using h2
  refine ⟨b, off, rfl, hbl, fun j v hv => ?_⟩
  rw [← hc j v hv]
  unfold Addr.add
  split
  · subst_vars; rfl
  · rfl

theorem rd_bytes {t e : TypeId} {fuel : Nat} {cs : List Value} {d : DataW H} {p : List MemPlace} (ht : P.underlying t = some (.slice e)) (he : P.underlying e = some (.int .u8)) (hc : P.cellsOf e = 1)
    (h : DataW.trod enc P W 0 (fun _ => true) true fuel t cs = some (d, p)) (hlt : ∀ x ∈ p, x.block < W.heap.size) : ∃ A n c, cs = [.slice A n c] ∧ n ≤ c ∧ ∃ l : List UInt8, Bys W W.heap.size (.slice A n c) l ∧ l.length = n := by
  rcases open_ints ht he hc h with ⟨rfl, _⟩ | ⟨a, len, cap, zs, rfl, _, hl, hm, hz, hx, hcell, hwf⟩
  · exact ⟨none, 0, 0, rfl, Nat.le_refl _, [], Bys.nil W _, rfl⟩
  · simp only [if_true] at hz
    obtain ⟨l, hl'⟩ := numOfs_bytes (zs.take len) (fun n hn => hwf n (List.mem_of_mem_take hn))
    have hll : l.length = len := by
      have := congrArg List.length hl'
      simp only [List.length_map, List.length_take] at this
      omega
    refine ⟨some a, len, cap, rfl, hl, l, ⟨some a, cap, by rw [hll], by omega, hm, ?_⟩, hll⟩
    rw [hll]
    refine rd_of_cells (c := cap) hl (by simp [hll]) (fun x hx' => hlt x ?_) (fun i u hu => ?_)
    · have e2 : p = MemPlace.row a zs.length := by injection hx
      rw [e2, hz]; exact hx'
    · rw [← hl'] at hu
      rw [List.getElem?_map, List.getElem?_take] at hu
      split at hu
      · rename_i hi
        rw [hcell i (by omega)]
        rw [← hu]
        simp [List.getElem?_eq_getElem (show i < zs.length by omega)]
      · cases hu

theorem trod_fields {t : TypeId} {fs : Array Field} {fuel : Nat} {cs : List Value} {x : DataW H × List MemPlace} (ht : P.underlying t = some (.struct fs)) (h : DataW.trod enc P W 0 (fun _ => true) true fuel t cs = some x) :
    ∃ (xs : List (DataW H × List MemPlace)) (n : Nat), cs.length = P.cellsOf t ∧ xs.length = fs.size ∧ x.2 = xs.flatMap (·.2) ∧
      ∀ (i : Nat) (T : TypeId) (off m : Nat), (fs[i]?).map (fun f => (f.type, f.offset)) = some (T, off) → P.cellsOf T = m → DataW.trod enc P W 0 (fun _ => true) true n T ((cs.drop off).take m) = xs[i]? := by
  obtain ⟨xs, n, _, hx, hl, hxl, hf⟩ := DataW.trod_struct ht h
  refine ⟨xs, n, hl, hxl, by rw [hx], fun i T off m hi hm => ?_⟩
  obtain ⟨f, hfi, he⟩ := Option.map_eq_some_iff.1 hi
  have := hf i f hfi
  simp only [Prod.mk.injEq] at he
  rw [he.1, he.2, hm] at this
  exact this
end
end Go.Proofs.Ytlgbjpihmkeopaa
/- The readings of pools. -/
namespace Go.Proofs.Ytlgbjpihmkeopaa
set_option linter.unusedSimpArgs false
set_option linter.unusedVariables false
open Go.RowKit Go.ChangeShapes Go.WideShapes Go.ChangeAt Go.Deep

theorem Try.cc_u8 : Try.prog.cellsOf 5 = 1 := by kernel_rfl
theorem Try.cc_u32 : Try.prog.cellsOf 29 = 1 := by kernel_rfl
theorem Try.cc_int : Try.prog.cellsOf 3 = 1 := by kernel_rfl
theorem Try.cc_bytes : Try.prog.cellsOf 26 = 1 := by kernel_rfl
theorem Try.cc_blocks : Try.prog.cellsOf 22 = 1 := by kernel_rfl
theorem Try.cc_writes : Try.prog.cellsOf 23 = 1 := by kernel_rfl
theorem Try.cc_ints : Try.prog.cellsOf 30 = 1 := by kernel_rfl
theorem Try.cc_write : Try.prog.cellsOf 137 = 2 := by kernel_rfl
theorem Try.cc_disk : Try.prog.cellsOf 25 = 2 := by kernel_rfl
theorem Try.cc_store : Try.prog.cellsOf 28 = 4 := by kernel_rfl
theorem Try.cc_pool : Try.prog.cellsOf 32 = 8 := by kernel_rfl

section
variable {H : Type} {enc : TypeId × Value → H} {W : World}
theorem rd_of_cellsN {size : Nat} {a : Addr} {n : Nat} {xs : List Value} (hlen : xs.length = n * size) (hz : 0 < size) (hb : ∀ x ∈ MemPlace.row a (n * size), x.block < W.heap.size) (hc : ∀ i u, xs[i]? = some u → W.cell? (a.add i) = some u) : Rd W W.heap.size size (some a) n xs := by
  refine ⟨hlen, fun h0 => ?_⟩
  have hpos : 0 < xs.length := by rw [hlen]; exact Nat.mul_pos h0 hz
  obtain ⟨u, hu⟩ : ∃ u, xs[0]? = some u := ⟨_, List.getElem?_eq_getElem hpos⟩
  have h1 := hc 0 u hu
  have hsp : a.spot = none := by
    have : (a.add 0) = a := by simp [Addr.add]
    rw [this] at h1
    unfold World.cell? at h1
    split at h1
    · cases hs : a.spot with
      | none => rfl
      | some s => rw [hs] at h1; simp at h1
    · cases h1
  obtain ⟨b, off, sp⟩ := a
  simp only at hsp
  subst hsp
  have hbl : b < W.heap.size := by
    have : W.cell? ((⟨b, off, none⟩ : Addr).add 0) = some u := h1
    have h2 := World.block_lt_of_cell? W _ this
    simpa [Addr.add] using h2
  refine ⟨b, off, rfl, hbl, fun j v hv => ?_⟩
  rw [← hc j v hv]
  unfold Addr.add
  split
  · subst_vars; rfl
  · rfl
theorem rd_blocks {fuel : Nat} {cs : List Value} {d : DataW H} {p : List MemPlace} (h : DataW.trod enc Try.prog W 0 (fun _ => true) true fuel 22 cs = some (d, p)) (hlt : ∀ x ∈ p, x.block < W.heap.size) :
    ∃ A c bs, cs = [.slice A bs.length c] ∧ Bls W W.heap.size (.slice A bs.length c) bs := by
  rcases open_slice1 Try.underlying22 Try.cc_bytes h with ⟨rfl, _⟩ | ⟨a, len, cap, m, n, V, D, Pl, rfl, _, hl, hm, hmm, hx, hel⟩
  · exact ⟨none, 0, [], rfl, [], none, 0, rfl, Nat.le_refl _, by simp [maxLen], Rd.none_, fun i u l hu => by simp at hu⟩
  · simp only [if_true] at hmm
    subst hmm
    have hp : p = MemPlace.row a m ++ (List.range m).flatMap Pl := congrArg Prod.snd hx
    have hb : ∀ i, i < len → ∃ l : List UInt8, Bys W W.heap.size (V i) l := fun i hi => by
      obtain ⟨_, h2⟩ := hel i (by omega)
      obtain ⟨A, n', c', e, _, l, hby, _⟩ := rd_bytes Try.underlying26 Try.underlying5 Try.cc_u8 h2 (fun x hx' => hlt x (by
        rw [hp]
        exact List.mem_append_right _ (List.mem_flatMap.2 ⟨i, List.mem_range.2 (by omega), hx'⟩)))
      simp only [List.cons.injEq, and_true] at e
      exact ⟨l, by rw [e]; exact hby⟩
    obtain ⟨L, hL⟩ := choose_lt (α := List UInt8) (p := fun i l => Bys W W.heap.size (V i) l) hb
    refine ⟨some a, m, (List.range len).map L, by simp, (List.range len).map V, some a, m, by simp, by simpa using hl, hm, ?_, fun i u l hu hll => ?_⟩
    · rw [List.length_map, List.length_range]
      refine rd_of_cells (c := m) hl (by simp) (fun x hx' => hlt x (by rw [hp]; exact List.mem_append_left _ hx')) (fun i u hu => ?_)
      have hi : i < len := by
        have := (List.getElem?_eq_some_iff.1 hu).1
        simpa using this
      rw [List.getElem?_map, List.getElem?_range hi] at hu
      cases hu
      exact (hel i (by omega)).1
    · have hi : i < len := by
        have := (List.getElem?_eq_some_iff.1 hu).1
        simpa using this
      rw [List.getElem?_map, List.getElem?_range hi] at hu hll
      cases hu
      cases hll
      exact hL i hi
theorem rd_write {fuel : Nat} {cs : List Value} {d : DataW H} {p : List MemPlace} (h : DataW.trod enc Try.prog W 0 (fun _ => true) true fuel 137 cs = some (d, p)) (hlt : ∀ x ∈ p, x.block < W.heap.size) :
    ∃ a A l c, cs = [.int .i64 a, .slice A l.length c] ∧ Bys W W.heap.size (.slice A l.length c) l ∧ (Lit.int .i64 a).wf = true := by
  obtain ⟨xs, n, hl, hxl, hp, hf⟩ := trod_fields Try.underlying137 h
  rw [Try.cc_write] at hl
  match cs, hl with
  | [c0, c1], _ =>
    match xs, hxl with
    | [y0, y1], _ =>
      have g0 : _ = some y0 := hf 0 3 0 1 rfl Try.cc_int
      have g1 : _ = some y1 := hf 1 26 1 1 rfl Try.cc_bytes
      simp only [List.drop, List.take] at g0 g1
      obtain ⟨a, ea, _, wa⟩ := DataW.trod_int Try.underlying3 g0
      have hp2 : p = y0.2 ++ (y1.2 ++ []) := hp
      obtain ⟨d1, p1⟩ := y1
      obtain ⟨A, m, c, es, hmc, l, hb, hlen⟩ := rd_bytes Try.underlying26 Try.underlying5 Try.cc_u8 g1 (fun x hx => hlt x (by rw [hp2]; simp [hx]))
      simp only [List.cons.injEq, and_true] at ea es
      subst ea es hlen
      exact ⟨a, A, l, c, rfl, hb, wa⟩
theorem rd_writes {fuel : Nat} {cs : List Value} {d : DataW H} {p : List MemPlace} (h : DataW.trod enc Try.prog W 0 (fun _ => true) true fuel 23 cs = some (d, p)) (hlt : ∀ x ∈ p, x.block < W.heap.size) :
    ∃ A c ws, cs = [.slice A ws.length c] ∧ Wrs W W.heap.size (.slice A ws.length c) ws := by
  rcases open_slice Try.underlying23 h with ⟨rfl, _⟩ | ⟨a, len, cap, m, n, D, Pl, rfl, _, hl, hm, hmm, hx, hel⟩
  · exact ⟨none, 0, [], rfl, [], rfl, ⟨none, 0, rfl, Nat.le_refl _, by simp [maxLen], Rd.none_⟩, fun p h => by cases h⟩
  · simp only [if_true] at hmm
    subst hmm
    rw [Try.cc_write] at hx hel
    have hp : p = MemPlace.row a (m * 2) ++ (List.range m).flatMap Pl := congrArg Prod.snd hx
    have hb : ∀ i, i < len → ∃ q : (Int × List UInt8) × Value, (∃ A c, q.2 = .slice A q.1.2.length c) ∧ Bys W W.heap.size q.2 q.1.2 ∧ W.cell? (a.add (i * 2)) = some (.int .i64 q.1.1) ∧ W.cell? (a.add (i * 2 + 1)) = some q.2 := fun i hi => by
      obtain ⟨cs', h1, h2⟩ := hel i (by omega)
      obtain ⟨_, _, h3⟩ := World.cells?_some h1
      obtain ⟨r, A, l, c, rfl, hby, _⟩ := rd_write h2 (fun x hx' => hlt x (by
        rw [hp]
        exact List.mem_append_right _ (List.mem_flatMap.2 ⟨i, List.mem_range.2 (by omega), hx'⟩)))
      have e0 := h3 0 (by omega)
      have e1 := h3 1 (by omega)
      have ea : ∀ j, (a.add (i * 2)).add j = a.add (i * 2 + j) := fun j => by
        unfold Addr.add
        repeat' split
        all_goals simp_all
        all_goals omega
      rw [ea] at e0 e1
      exact ⟨((r, l), .slice A l.length c), ⟨A, c, rfl⟩, hby, e0, e1⟩
    obtain ⟨Q, hQ⟩ := choose_lt (α := (Int × List UInt8) × Value) (p := fun i q => (∃ A c, q.2 = .slice A q.1.2.length c) ∧ Bys W W.heap.size q.2 q.1.2 ∧ W.cell? (a.add (i * 2)) = some (.int .i64 q.1.1) ∧ W.cell? (a.add (i * 2 + 1)) = some q.2) hb
    refine ⟨some a, m, ((List.range len).map Q).map (·.1), by simp, (List.range len).map Q, rfl, ⟨some a, m, by simp, by simpa using hl, hm, ?_⟩, fun q hq => ?_⟩
    · rw [List.length_map, List.length_map, List.length_range]
      refine rd_of_cellsN (by rw [cells2_len]; simp) (by omega) (fun x hx' => hlt x ?_) (fun j u hu => ?_)
      · rw [hp]
        refine List.mem_append_left _ ?_
        unfold MemPlace.row at hx' ⊢
        rw [List.mem_map] at hx' ⊢
        obtain ⟨k, hk, e⟩ := hx'
        exact ⟨k, List.mem_range.2 (by have := List.mem_range.1 hk; omega), e⟩
      · have hj : j < len * 2 := by
          have := (List.getElem?_eq_some_iff.1 hu).1
          rw [cells2_len] at this
          simpa using this
        obtain ⟨c0, c1⟩ := cells2_at ((List.range len).map Q) (j / 2) (by simp; omega)
        obtain ⟨_, _, q0, q1⟩ := hQ (j / 2) (by omega)
        rcases (show j = j / 2 * 2 ∨ j = j / 2 * 2 + 1 by omega) with e | e
        · have hu' : some u = some _ := (hu.symm.trans (congrArg (fun t => (cells2 ((List.range len).map Q))[t]?) e)).trans c0
          cases hu'
          rw [show a.add j = a.add (j / 2 * 2) from congrArg _ e, q0]
          simp
        · have hu' : some u = some _ := (hu.symm.trans (congrArg (fun t => (cells2 ((List.range len).map Q))[t]?) e)).trans c1
          cases hu'
          rw [show a.add j = a.add (j / 2 * 2 + 1) from congrArg _ e, q1]
          simp
    · obtain ⟨i, hi, rfl⟩ := List.mem_map.1 hq
      obtain ⟨q0, q1, _⟩ := hQ i (List.mem_range.1 hi)
      exact ⟨q0, q1⟩
theorem rd_ints {fuel : Nat} {cs : List Value} {d : DataW H} {p : List MemPlace} (h : DataW.trod enc Try.prog W 0 (fun _ => true) true fuel 30 cs = some (d, p)) (hlt : ∀ x ∈ p, x.block < W.heap.size) :
    ∃ A c l, cs = [.slice A l.length c] ∧ Ints W W.heap.size (.slice A l.length c) l ∧ ∀ a ∈ l, (Lit.int .i64 a).wf = true := by
  rcases open_ints Try.underlying30 Try.underlying3 Try.cc_int h with ⟨rfl, _⟩ | ⟨a, len, cap, zs, rfl, _, hl, hm, hz, hx, hcell, hwf⟩
  · exact ⟨none, 0, [], rfl, ⟨none, 0, rfl, Nat.le_refl _, by simp [maxLen], Rd.none_⟩, fun a h => by cases h⟩
  · simp only [if_true] at hz
    have hp : p = MemPlace.row a zs.length := congrArg Prod.snd hx
    have hll : (zs.take len).length = len := by rw [List.length_take]; omega
    refine ⟨some a, cap, zs.take len, by rw [hll], ⟨some a, cap, rfl, by omega, hm, ?_⟩, fun n hn => hwf n (List.mem_of_mem_take hn)⟩
    rw [hll]
    refine rd_of_cells (c := cap) hl (by simp; omega) (fun x hx' => hlt x (by rw [hp, hz]; exact hx')) (fun i u hu => ?_)
    rw [List.getElem?_map, List.getElem?_take] at hu
    split at hu
    · rename_i hi
      rw [hcell i (by omega), ← hu]
      simp [List.getElem?_eq_getElem (show i < zs.length by omega)]
    · cases hu
theorem rd_disk {fuel : Nat} {cs : List Value} {d : DataW H} {p : List MemPlace} (h : DataW.trod enc Try.prog W 0 (fun _ => true) true fuel 25 cs = some (d, p)) (hlt : ∀ x ∈ p, x.block < W.heap.size) :
    ∃ A1 c1 A2 c2 bs ws, cs = [.slice A1 (List.length bs) c1, .slice A2 (List.length ws) c2] ∧ Bls W W.heap.size (.slice A1 bs.length c1) bs ∧ Wrs W W.heap.size (.slice A2 ws.length c2) ws := by
  obtain ⟨xs, n, hl, hxl, hp, hf⟩ := trod_fields Try.underlying25 h
  rw [Try.cc_disk] at hl
  match cs, hl with
  | [c0, c1], _ =>
    match xs, hxl with
    | [(d0, p0), (d1, p1)], _ =>
      have g0 : _ = some (d0, p0) := hf 0 22 0 1 rfl Try.cc_blocks
      have g1 : _ = some (d1, p1) := hf 1 23 1 1 rfl Try.cc_writes
      simp only [List.drop, List.take] at g0 g1
      have hp2 : p = p0 ++ (p1 ++ []) := hp
      obtain ⟨A1, k1, bs, e1, h1⟩ := rd_blocks g0 (fun x hx => hlt x (by rw [hp2]; simp [hx]))
      obtain ⟨A2, k2, ws, e2, h2⟩ := rd_writes g1 (fun x hx => hlt x (by rw [hp2]; simp [hx]))
      simp only [List.cons.injEq, and_true] at e1 e2
      subst e1 e2
      exact ⟨A1, k1, A2, k2, bs, ws, rfl, h1, h2⟩
theorem rd_store {fuel : Nat} {cs : List Value} {d : DataW H} {p : List MemPlace} (h : DataW.trod enc Try.prog W 0 (fun _ => true) true fuel 28 cs = some (d, p)) (hlt : ∀ x ∈ p, x.block < W.heap.size) :
    ∃ A1 c1 A2 c2 A3 c3 A4 c4, ∃ S : Sto, cs = [.slice A1 S.bs.length c1, .slice A2 S.ws.length c2, .slice A3 S.now.length c3, .slice A4 S.last.length c4] ∧ StoAt W W.heap.size (.slice A1 S.bs.length c1) (.slice A2 S.ws.length c2) (.slice A3 S.now.length c3) (.slice A4 S.last.length c4) S := by
  obtain ⟨xs, n, hl, hxl, hp, hf⟩ := trod_fields Try.underlying28 h
  rw [Try.cc_store] at hl
  match cs, hl with
  | [c0, c1, c2, c3], _ =>
    match xs, hxl with
    | [(d0, p0), (d1, p1), (d2, p2)], _ =>
      have g0 : _ = some (d0, p0) := hf 0 25 0 2 rfl Try.cc_disk
      have g1 : _ = some (d1, p1) := hf 1 26 2 1 rfl Try.cc_bytes
      have g2 : _ = some (d2, p2) := hf 2 26 3 1 rfl Try.cc_bytes
      simp only [List.drop, List.take] at g0 g1 g2
      have hp2 : p = p0 ++ (p1 ++ (p2 ++ [])) := hp
      obtain ⟨A1, k1, A2, k2, bs, ws, e1, h1, h2⟩ := rd_disk g0 (fun x hx => hlt x (by rw [hp2]; simp [hx]))
      obtain ⟨A3, n3, k3, e3, _, l3, h3, q3⟩ := rd_bytes Try.underlying26 Try.underlying5 Try.cc_u8 g1 (fun x hx => hlt x (by rw [hp2]; simp [hx]))
      obtain ⟨A4, n4, k4, e4, _, l4, h4, q4⟩ := rd_bytes Try.underlying26 Try.underlying5 Try.cc_u8 g2 (fun x hx => hlt x (by rw [hp2]; simp [hx]))
      simp only [List.cons.injEq, and_true] at e1 e3 e4
      obtain ⟨rfl, rfl⟩ := e1
      subst e3 e4 q3 q4
      exact ⟨A1, k1, A2, k2, A3, k3, A4, k4, ⟨bs, ws, l3, l4⟩, rfl, h1, h2, h3, h4⟩
theorem rd_pool {fuel : Nat} {cs : List Value} {d : DataW H} {p : List MemPlace} (h : DataW.trod enc Try.prog W 0 (fun _ => true) true fuel 32 cs = some (d, p)) (hlt : ∀ x ∈ p, x.block < W.heap.size) :
    ∃ A1 c1 A2 c2 A3 c3 A4 c4 gen root next A5 c5, ∃ (S : Sto) (dead : List Int), cs = (poolCs (.slice A1 S.bs.length c1) (.slice A2 S.ws.length c2) (.slice A3 S.now.length c3) (.slice A4 S.last.length c4) gen root next (.slice A5 dead.length c5)).toList ∧
      StoAt W W.heap.size (.slice A1 S.bs.length c1) (.slice A2 S.ws.length c2) (.slice A3 S.now.length c3) (.slice A4 S.last.length c4) S ∧ Ints W W.heap.size (.slice A5 dead.length c5) dead ∧
      (Lit.int .u32 gen).wf = true ∧ (Lit.int .i64 root).wf = true ∧ (Lit.int .u32 next).wf = true ∧ ∀ a ∈ dead, (Lit.int .i64 a).wf = true := by
  obtain ⟨xs, n, hl, hxl, hp, hf⟩ := trod_fields Try.underlying32 h
  rw [Try.cc_pool] at hl
  match cs, hl with
  | [c0, c1, c2, c3, c4, c5, c6, c7], _ =>
    match xs, hxl with
    | [(d0, p0), (d1, p1), (d2, p2), (d3, p3), (d4, p4)], _ =>
      have g0 : _ = some (d0, p0) := hf 0 28 0 4 rfl Try.cc_store
      have g1 : _ = some (d1, p1) := hf 1 29 4 1 rfl Try.cc_u32
      have g2 : _ = some (d2, p2) := hf 2 3 5 1 rfl Try.cc_int
      have g3 : _ = some (d3, p3) := hf 3 29 6 1 rfl Try.cc_u32
      have g4 : _ = some (d4, p4) := hf 4 30 7 1 rfl Try.cc_ints
      simp only [List.drop, List.take] at g0 g1 g2 g3 g4
      have hp2 : p = p0 ++ (p1 ++ (p2 ++ (p3 ++ (p4 ++ [])))) := hp
      obtain ⟨A1, k1, A2, k2, A3, k3, A4, k4, S, e0, hS⟩ := rd_store g0 (fun x hx => hlt x (by rw [hp2]; simp [hx]))
      obtain ⟨gen, e1, _, w1⟩ := DataW.trod_int Try.underlying29 g1
      obtain ⟨root, e2, _, w2⟩ := DataW.trod_int Try.underlying3 g2
      obtain ⟨next, e3, _, w3⟩ := DataW.trod_int Try.underlying29 g3
      obtain ⟨A5, k5, dead, e4, hd, w4⟩ := rd_ints g4 (fun x hx => hlt x (by rw [hp2]; simp [hx]))
      simp only [List.cons.injEq, and_true] at e0 e1 e2 e3 e4
      obtain ⟨rfl, rfl, rfl, rfl⟩ := e0
      subst e1 e2 e3 e4
      exact ⟨A1, k1, A2, k2, A3, k3, A4, k4, gen, root, next, A5, k5, S, dead, rfl, hS, hd, w1, w2, w3, w4⟩
end
end Go.Proofs.Ytlgbjpihmkeopaa
namespace Go.Proofs.Ytlgbjpihmkeopaa
set_option linter.unusedSimpArgs false
set_option linter.unusedVariables false
open Go.RowKit Go.ChangeShapes Go.WideShapes Go.ChangeAt

section
variable {H : Type} {enc : TypeId × Value → H} {P : Program}
theorem trodAll_stays (hl : laidOutB P = true) {W W' : World} {sp : Nat → Bool} : ∀ (ts : List TypeId) (vs : List Value) (ds : List (DataW H)) (p : List MemPlace), DataW.TrodAll enc P W 0 (fun _ => true) true ts vs ds p →
    (∀ t ∈ ts, P.readableRec t = true ∧ t < P.types.size) → (∀ x ∈ p, W.sameAt W' x) → (∀ x ∈ p, sp x.block = true) → DataW.TrodAll enc P W' 0 sp true ts vs ds p
  | [], vs, ds, p, h, _, _, _ => by
    obtain ⟨rfl, rfl, rfl⟩ := trodAll_nil h
    exact trodAll_mk0
  | t :: ts, vs, ds, p, h, ht, hs, hsp => by
    obtain ⟨v, vs', d, ds', p0, q0, rfl, rfl, rfl, h0, h1⟩ := trodAll_cons h
    have e := ht t (List.mem_cons_self)
    exact trodAll_cons_mk (WideElems.Trod_stays hl e.1 e.2 h0 (fun x hx => hs x (List.mem_append_left _ hx)) (fun x hx => hsp x (List.mem_append_left _ hx)))
      (trodAll_stays hl ts vs' ds' q0 h1 (fun t' h' => ht t' (List.mem_cons_of_mem _ h')) (fun x hx => hs x (List.mem_append_right _ hx)) (fun x hx => hsp x (List.mem_append_right _ hx)))

theorem law_post {f : Func} {s : ChangeSpec} {W W' : World} {args : Array Value} {ds gs : List (DataW H)} {before : List MemPlace} {b : TypeId} (hv : s.vars = []) (hl : laidOutB P = true)
    (hr : f.resultTypes = #[b]) (hb : P.underlying b = some .bool) (ht : ∀ t ∈ f.params.toList, P.readableRec t = true ∧ t < P.types.size)
    (hW : DataW.Whole enc P f.params.toList s.vars false W args.toList ds gs before) (hs : s.fn H (ds ++ gs) = { results := [.lit (.bool true)], args := ds, vars := [] }) (hB : Below W.heap.size W W') :
    s.post enc P f false true false false W args (.bool true) W' := by
  have hlt : ∀ x ∈ before, x.block < W.heap.size := fun x hx => hW.lt x hx
  have hW0 := hW
  obtain ⟨p, q, hA, hV, rfl, _, _⟩ := hW
  have hq : q = [] := by
    rw [hv] at hV
    cases gs with
    | nil => exact hV
    | cons g gs => cases hV
  subst hq
  refine ⟨ds, gs, p ++ [], [], p, [], hW0, ?_, ?_, ?_, ?_, fun h => by cases h⟩
  · rw [hs, hr]
    exact trodAll_cons_mk (shut_bool hb true) trodAll_mk0
  · rw [hs]
    exact trodAll_stays hl _ _ _ _ hA ht (fun x hx => hB.same (hlt x (by simpa using hx))) (fun x hx => by simpa using hlt x (by simpa using hx))
  · rw [hs, hv]
    exact rfl
  · exact World.keptBut_mono (fun x hx => ⟨by simpa using hx, Or.inr (Or.inl hx)⟩) (hB.frame (· ∈ p))
end
end Go.Proofs.Ytlgbjpihmkeopaa
