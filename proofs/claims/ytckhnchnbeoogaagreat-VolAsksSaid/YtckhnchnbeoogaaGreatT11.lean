/- Texts Room, Big, Big2, DoneX, TwinW, FreeT, joined. -/
import Derived.Test.YtckhnchnbeoogaaGreatT05
import Derived.Test.YtckhnchnbeoogaaGreatT10
/- Stores: how they lie in memory; may one be; a block as it is seen. -/
namespace Go.Proofs.YtckhnchnbeoogaaGreat
set_option linter.unusedSimpArgs false
set_option linter.unusedVariables false
open Go.RowKit

structure Sto where
  bs : List (List UInt8)
  ws : List (Int × List UInt8)
  now : List UInt8
  last : List UInt8
def storeMay (S : Sto) : Bool := diskMay S.bs S.ws && (tabMay S.now && tabMay S.last)
abbrev storeV (A1 : Option Addr) (n1 c1 : Nat) (A2 : Option Addr) (n2 c2 : Nat) (A3 : Option Addr) (n3 c3 : Nat) (A4 : Option Addr) (n4 c4 : Nat) : Value := .agg #[.slice A1 n1 c1, .slice A2 n2 c2, .slice A3 n3 c3, .slice A4 n4 c4]
structure StoAt (w : World) (B : Nat) (v1 v2 v3 v4 : Value) (S : Sto) : Prop where
  bs : Bls w B v1 S.bs
  ws : Wrs w B v2 S.ws
  now : Bys w B v3 S.now
  last : Bys w B v4 S.last
theorem StoAt.below {w w' : World} {B : Nat} {v1 v2 v3 v4 : Value} {S : Sto} (h : StoAt w B v1 v2 v3 v4 S) (hb : Below B w w') : StoAt w' B v1 v2 v3 v4 S := ⟨h.bs.below hb, h.ws.below hb, h.now.below hb, h.last.below hb⟩
theorem StoAt.more {w : World} {B B' : Nat} {v1 v2 v3 v4 : Value} {S : Sto} (h : StoAt w B v1 v2 v3 v4 S) (hb : B ≤ B') : StoAt w B' v1 v2 v3 v4 S := ⟨h.bs.more hb, h.ws.more hb, h.now.more hb, h.last.more hb⟩
theorem StoAt.ext {w w' : World} {v1 v2 v3 v4 : Value} {S : Sto} (h : StoAt w w.heap.size v1 v2 v3 v4 S) (hx : Ext w w') : StoAt w' w'.heap.size v1 v2 v3 v4 S := (h.below hx).more hx.size

set_option maxHeartbeats 2000000 in
theorem rcheck_any (A1 : Option Addr) (n1 c1 : Nat) (A2 : Option Addr) (n2 c2 : Nat) (A3 : Option Addr) (n3 c3 : Nat) (A4 : Option Addr) (n4 c4 : Nat) (S : Sto) (w : World) (h : StoAt w w.heap.size (.slice A1 n1 c1) (.slice A2 n2 c2) (.slice A3 n3 c3) (.slice A4 n4 c4) S) :
    Calls Tryz.prog 66 #[storeV A1 n1 c1 A2 n2 c2 A3 n3 c3 A4 n4 c4] w (Ret (.int .i64 (errOf (storeMay S))) w) := by
  have HD := Lib.hid (fun W (hW : Ext w W) => dcheck_any A1 n1 c1 A2 n2 c2 S.bs S.ws W (h.ext hW).bs (h.ext hW).ws)
  have HN := Lib.hid (fun W (hW : Ext w W) => ccheck_any (.slice A3 n3 c3) S.now W (h.ext hW).now)
  have HL := Lib.hid (fun W (hW : Ext w W) => ccheck_any (.slice A4 n4 c4) S.last W (h.ext hW).last)
  have hS : storeMay S = (diskMay S.bs S.ws && (tabMay S.now && tabMay S.last)) := rfl
  rw [hS]
  clear hS h
  generalize diskMay S.bs S.ws = d at *
  generalize tabMay S.now = n at *
  generalize tabMay S.last = l at *
  go_enter Tryz.func66, Tryz.ntmps66
  go_wp2_with fail
  generalize hw1 : (World.alloc _ _) = w1
  have x1 : Ext w w1 := by rw [← hw1]; exact Ext.alloc _ _
  have r1 : w1.heap[w.heap.size]? = some (.cells #[.slice A1 n1 c1, .slice A2 n2 c2, .slice A3 n3 c3, .slice A4 n4 c4] 28 (0, 0)) := by rw [← hw1]; exact World.alloc_heap_at _ _ _ rfl
  clear hw1
  refine (HD.out _ x1).mono ?_
  rintro e w2 ⟨rfl, hB⟩
  have x2 := x1.trans hB
  have r2 := row_ext r1 hB
  have k2 := cells_row r2
  clear hB r1 x1 HD
  cases d
  · go_wp2
    go_ret
    exact ⟨rfl, x2⟩
  · go_wp2_with fail
    refine (HN.out _ x2).mono ?_
    rintro e w3 ⟨rfl, hB⟩
    have x3 := x2.trans hB
    have r3 := row_ext r2 hB
    have k3 := cells_row r3
    clear hB r2 x2 k2 HN
    cases n
    · go_wp2
      go_ret
      exact ⟨rfl, x3⟩
    · go_wp2_with fail
      refine (HL.out _ x3).mono ?_
      rintro e w4 ⟨rfl, hB⟩
      have x4 := x3.trans hB
      clear hB r3 x3 k3 HL
      cases l
      all_goals
        go_wp2
        go_ret
        exact ⟨rfl, x4⟩

set_option maxHeartbeats 2000000 in
theorem rmay_any (A1 : Option Addr) (n1 c1 : Nat) (A2 : Option Addr) (n2 c2 : Nat) (A3 : Option Addr) (n3 c3 : Nat) (A4 : Option Addr) (n4 c4 : Nat) (S : Sto) (w : World) (h : StoAt w w.heap.size (.slice A1 n1 c1) (.slice A2 n2 c2) (.slice A3 n3 c3) (.slice A4 n4 c4) S) :
    Calls Tryz.prog 105 #[storeV A1 n1 c1 A2 n2 c2 A3 n3 c3 A4 n4 c4] w (Ret (.bool (storeMay S)) w) := by
  have HD := Lib.hid (fun W (hW : Ext w W) => dmay_any A1 n1 c1 A2 n2 c2 S.bs S.ws W (h.ext hW).bs (h.ext hW).ws)
  have HN := Lib.hid (fun W (hW : Ext w W) => cmay_any (.slice A3 n3 c3) S.now W (h.ext hW).now)
  have HL := Lib.hid (fun W (hW : Ext w W) => cmay_any (.slice A4 n4 c4) S.last W (h.ext hW).last)
  have hS : storeMay S = (diskMay S.bs S.ws && (tabMay S.now && tabMay S.last)) := rfl
  rw [hS]
  clear hS h
  generalize diskMay S.bs S.ws = d at *
  generalize tabMay S.now = n at *
  generalize tabMay S.last = l at *
  go_enter Tryz.func105, Tryz.ntmps105
  go_wp2_with fail
  generalize hw1 : (World.alloc _ _) = w1
  have x1 : Ext w w1 := by rw [← hw1]; exact Ext.alloc _ _
  have r1 : w1.heap[w.heap.size]? = some (.cells #[.slice A1 n1 c1, .slice A2 n2 c2, .slice A3 n3 c3, .slice A4 n4 c4] 28 (0, 0)) := by rw [← hw1]; exact World.alloc_heap_at _ _ _ rfl
  clear hw1
  refine (HD.out _ x1).mono ?_
  rintro e w2 ⟨rfl, hB⟩
  have x2 := x1.trans hB
  have r2 := row_ext r1 hB
  have k2 := cells_row r2
  clear hB r1 x1 HD
  cases d
  · go_wp2
    go_ret
    exact ⟨rfl, x2⟩
  · go_wp2_with fail
    refine (HN.out _ x2).mono ?_
    rintro e w3 ⟨rfl, hB⟩
    have x3 := x2.trans hB
    have r3 := row_ext r2 hB
    have k3 := cells_row r3
    clear hB r2 x2 k2 HN
    cases n
    · go_wp2
      go_ret
      exact ⟨rfl, x3⟩
    · go_wp2_with fail
      refine (HL.out _ x3).mono ?_
      rintro e w4 ⟨rfl, hB⟩
      have x4 := x3.trans hB
      clear hB r3 x3 k3 HL
      cases l
      all_goals
        go_wp2
        go_ret
        exact ⟨rfl, x4⟩

def lastTo (ws : List (Int × List UInt8)) (a : Int) : Option (List UInt8) := (ws.reverse.find? fun p => p.1 == a).map (·.2)
def seenB (S : Sto) (a : Nat) : List UInt8 := match lastTo S.ws a with | some l => l | none => S.bs[a]?.getD []
theorem lastTo_take {ws : List (Int × List UInt8)} {a : Int} {k : Nat} (h : k < ws.length) : lastTo (ws.take (k + 1)) a = if ws[k].1 = a then some ws[k].2 else lastTo (ws.take k) a := by
  unfold lastTo
  rw [List.take_succ_eq_append_getElem h, List.reverse_append, List.reverse_singleton, List.singleton_append, List.find?_cons]
  by_cases h1 : ws[k].1 = a
  · rw [if_pos h1]; simp [h1]
  · rw [if_neg h1]
    have : (ws[k].1 == a) = false := by simpa using h1
    rw [this]

set_option maxHeartbeats 2000000 in
theorem seen_any (A1 : Option Addr) (n1 c1 : Nat) (A2 : Option Addr) (n2 c2 : Nat) (S : Sto) (a : Nat) (ha : a < S.bs.length) (hw4 : S.ws.length ≤ 4096) (w : World) (hb : Bls w w.heap.size (.slice A1 n1 c1) S.bs) (hw : Wrs w w.heap.size (.slice A2 n2 c2) S.ws) :
    Calls Tryz.prog 48 #[diskV A1 n1 c1 A2 n2 c2, .int .i64 (a : Int)] w (RetS (fun u W => Bys W W.heap.size u (seenB S a)) w) := by
  obtain ⟨e1, hc1, hm1, hA1⟩ := hb.at_
  obtain ⟨e2, hc2, hm2, hA2⟩ := hw.at_
  subst e1
  subst e2
  have HB := Lib.hid hb
  have HW := Lib.hid hw
  have HL := Lib.hid (fun k (h : k < S.ws.length) => @lastTo_take S.ws a k h)
  have HE : Hid (S.ws.take S.ws.length = S.ws) := Lib.hid (List.take_length)
  have HS : Hid (seenB S a = match lastTo S.ws a with | some l => l | none => S.bs[a]?.getD []) := rfl
  obtain ⟨b1, o1, rfl, hb1⟩ := hA1 (by omega)
  have ha1 : S.bs[a]?.getD [] = S.bs[a] := by rw [List.getElem?_eq_getElem ha]; rfl
  rw [ha1] at HS
  clear hb hw hA1 ha1
  unfold maxLen at hm1
  go_enter Tryz.func48, Tryz.ntmps48
  go_wp2
  generalize hw1 : (World.alloc _ _) = w1
  have x1 : Ext w w1 := by rw [← hw1]; exact Ext.alloc _ _
  have r1 : w1.heap[w.heap.size]? = some (.cells #[.slice (some ⟨b1, o1, none⟩) S.bs.length c1, .slice A2 S.ws.length c2] 25 (0, 0)) := by rw [← hw1]; exact World.alloc_heap_at _ _ _ rfl
  clear hw1
  go_loopw [5] (fun i wr => ∃ k : Nat, k ≤ S.ws.length ∧ i = .int .i64 ((k : Int) - 1) ∧ lastTo S.ws a = lastTo (S.ws.take k) a ∧ Ext w1 wr) (fun i _ => (intOf i + 1).toNat)
  case atStart => exact ⟨S.ws.length, by omega, by go_num, by rw [HE.out], Ext.refl _⟩
  case round =>
    obtain ⟨k, hk, rfl, hok, hE⟩ := hrel
    have hEw := x1.trans hE
    have rr := row_ext r1 hE
    have kr := cells_row rr
    rcases k with _ | k
    · have hnone : lastTo S.ws a = none := by rw [hok]; rfl
      have hsb : seenB S a = S.bs[a] := by rw [HS.out, hnone]
      obtain ⟨A', c', hc, hby⟩ := ((HB.out.below hEw).more hEw.size).get a ha
      replace hsb := Lib.hid hsb
      replace hok := Lib.hid hok
      clear hnone
      go_wp2
      go_ret
      exact ⟨_, rfl, by rw [hsb.out]; exact hby, hEw⟩
    · have hlt : k < S.ws.length := by omega
      have hlt' := hlt
      obtain ⟨b2, o2, rfl, hb2⟩ := hA2 (by omega)
      obtain ⟨A', c', hca, hcb, hby⟩ := ((HW.out.below hEw).more hEw.size).get k hlt
      have hl := HL.out k hlt
      have hsn : S.ws[k].1 = (a : Int) → seenB S a = S.ws[k].2 := fun h => by rw [HS.out, hok, hl, if_pos h]
      have hsk : ¬ S.ws[k].1 = (a : Int) → lastTo S.ws a = lastTo (S.ws.take k) a := fun h => by rw [hok, hl, if_neg h]
      replace hok := Lib.hid hok
      replace hby := Lib.hid hby
      replace hsn := Lib.hid hsn
      replace hsk := Lib.hid hsk
      clear hl
      have hk1 : ((k + 1 : Nat) : Int) - 1 = (k : Int) := by omega
      rw [hk1]
      generalize S.ws[k].1 = q at *
      generalize S.ws[k].2 = l at *
      by_cases hq : q = (a : Int)
      · have hs := hsn.out hq
        have hqe : (q == (a : Int)) = true := by rw [beq_iff_eq]; exact hq
        replace hs := Lib.hid hs
        subst hq
        go_wp2
        go_ret
        exact ⟨_, rfl, by rw [hs.out]; exact hby.out, hEw⟩
      · have hqe : (q == (a : Int)) = false := by rw [beq_eq_false_iff_ne]; exact hq
        have hs := hsk.out hq
        replace hs := Lib.hid hs
        go_wp2
        go_roundw
        case rel => exact ⟨k, by omega, by go_num, hs.out, hE⟩
        case measure => first | (simp [intOf]; done) | (simp [intOf]; omega)
end Go.Proofs.YtckhnchnbeoogaaGreat
/- Contracts: is a disk, a store, a pool more than statements go through? -/
namespace Go.Proofs.YtckhnchnbeoogaaGreat
set_option linter.unusedSimpArgs false
set_option linter.unusedVariables false
open Go.RowKit

def sizeL (ls : List (List UInt8)) : Nat := (ls.map fun l => min l.length 1000000).sum
theorem sizeL_take {ls : List (List UInt8)} {k : Nat} (h : k < ls.length) : sizeL (ls.take (k + 1)) = sizeL (ls.take k) + min ls[k].length 1000000 := by
  unfold sizeL
  rw [List.take_succ_eq_append_getElem h, List.map_append, List.sum_append]
  simp
theorem sizeL_le (ls : List (List UInt8)) : sizeL ls ≤ ls.length * 1000000 := by
  induction ls with
  | nil => simp [sizeL]
  | cons l r ih => simp only [sizeL, List.map_cons, List.sum_cons, List.length_cons] at ih ⊢; omega
theorem sizeL_take_le {ls : List (List UInt8)} {n : Nat} (h : ls.length ≤ n) (k : Nat) : sizeL (ls.take k) ≤ n * 1000000 := by
  have h1 := sizeL_le (ls.take k)
  have h2 : (ls.take k).length ≤ n := by rw [List.length_take]; omega
  have h3 : (ls.take k).length * 1000000 ≤ n * 1000000 := Nat.mul_le_mul_right _ h2
  exact Nat.le_trans h1 h3
theorem sizeL_mem {ls : List (List UInt8)} (h : sizeL ls ≤ 800000) : ∀ l ∈ ls, l.length ≤ 800000 := by
  induction ls with
  | nil => intro l hl; cases hl
  | cons x r ih =>
    intro l hl
    simp only [sizeL, List.map_cons, List.sum_cons] at h ih
    rcases List.mem_cons.1 hl with rfl | hl
    · omega
    · exact ih (by omega) l hl
def headG (n m : Nat) : Bool := decide (300 < n ∨ 5000 < m ∨ (600 < m ∧ m < 4096))
def greatD (bs : List (List UInt8)) (ws : List (Int × List UInt8)) : Bool := headG bs.length ws.length || decide (800000 < sizeL bs + sizeL (ws.map (·.2)))

set_option maxHeartbeats 4000000 in
set_option maxRecDepth 100000 in
theorem great3_any (A1 : Option Addr) (n1 c1 : Nat) (A2 : Option Addr) (n2 c2 : Nat) (bs : List (List UInt8)) (ws : List (Int × List UInt8)) (w : World) (hb : Bls w w.heap.size (.slice A1 n1 c1) bs) (hw : Wrs w w.heap.size (.slice A2 n2 c2) ws) :
    Calls Tryz.prog 49 #[diskV A1 n1 c1 A2 n2 c2] w (Ret (.bool (greatD bs ws)) w) := by
  obtain ⟨e1, hc1, hm1, hA1⟩ := hb.at_
  obtain ⟨e2, hc2, hm2, hA2⟩ := hw.at_
  subst e1
  subst e2
  by_cases hh : headG bs.length ws.length = true
  case pos =>
    have hM : greatD bs ws = true := by unfold greatD; rw [hh]; rfl
    rw [hM]
    have hh' : 300 < bs.length ∨ 5000 < ws.length ∨ (600 < ws.length ∧ ws.length < 4096) := by simpa [headG] using hh
    clear hM hb hw hA1 hA2 hh
    generalize bs.length = n1 at *
    generalize ws.length = n2 at *
    go_enter Tryz.func49, Tryz.ntmps49
    go_wp2
    all_goals try simp only [beq_iff_eq, beq_eq_false_iff_ne, ne_eq, bne_iff_ne, bne_eq_false_iff_eq] at *
    all_goals first | (exfalso; omega) | skip
    all_goals go_ret
    all_goals exact ⟨rfl, (by repeat' (first | with_reducible exact Below.refl _ _ | with_reducible assumption | with_reducible apply Below.drew | with_reducible apply below_drewN | with_reducible refine Below.alloc ?_ ?_ _ | with_reducible refine Below.setCell ?_ ?_ _ | (simp; done) | (simp; omega) | omega))⟩
  case neg =>
    have hM : greatD bs ws = decide (800000 < sizeL bs + sizeL (ws.map (·.2))) := by unfold greatD; rw [show headG bs.length ws.length = false by simpa using hh]; rfl
    have hh' : ¬(300 < bs.length ∨ 5000 < ws.length ∨ (600 < ws.length ∧ ws.length < 4096)) := by simpa [headG] using hh
    have hn1 : bs.length ≤ 300 := by omega
    have hn2 : ws.length ≤ 5000 := by omega
    have hn3 : ¬(600 < ws.length ∧ ws.length < 4096) := fun h => hh' (.inr (.inr h))
    rw [hM]
    clear hM hh hh'
    have HB := Lib.hid hb
    have HW := Lib.hid hw
    have HTB := Lib.hid (fun k h => @sizeL_take bs k h)
    have HTW := Lib.hid (fun k (h : k < (ws.map (·.2)).length) => @sizeL_take (ws.map (·.2)) k h)
    have HLB := Lib.hid (fun k => sizeL_take_le hn1 k)
    have HLW := Lib.hid (fun k => sizeL_take_le (ls := ws.map (·.2)) (n := 5000) (by rw [List.length_map]; exact hn2) k)
    have HE1 : Hid (bs.take bs.length = bs) := Lib.hid (List.take_length)
    have HE2 : Hid ((ws.map (·.2)).take ws.length = ws.map (·.2)) := Lib.hid (by rw [← List.length_map (f := (·.2))]; exact List.take_length)
    clear hb hw
    have hd1 : decide ((bs.length : Int) > 300) = false := decide_eq_false (by omega)
    have hd2 : decide ((ws.length : Int) > 5000) = false := decide_eq_false (by omega)
    go_enter Tryz.func49, Tryz.ntmps49
    go_wp2
    all_goals first | (exfalso; omega) | skip
    all_goals
      generalize hw1 : (World.alloc _ _) = w1
      have x1 : Ext w w1 := by rw [← hw1]; exact Ext.alloc _ _
      have r1 : w1.heap[w.heap.size]? = some (.cells #[.slice A1 bs.length c1, .slice A2 ws.length c2] 25 (0, 0)) := by rw [← hw1]; exact World.alloc_heap_at _ _ _ rfl
      clear hw1
      go_loopw [3, 4] (fun t i wr => ∃ k : Nat, k ≤ bs.length ∧ i = .int .i64 (k : Int) ∧ t = .int .i64 (sizeL (bs.take k) : Int) ∧ Ext w1 wr) (fun _ i _ => bs.length - (intOf i).toNat)
      case atStart => exact ⟨0, by omega, rfl, rfl, Ext.refl _⟩
      case round =>
        obtain ⟨k, hk, rfl, rfl, hE⟩ := hrel
        have hEw := x1.trans hE
        have rr := row_ext r1 hE
        have kr := cells_row rr
        have hlb := HLB.out k
        by_cases hlt : k < bs.length
        · have hlt' := hlt
          obtain ⟨b1, o1, rfl, hb1⟩ := hA1 (by omega)
          obtain ⟨A', c', hc, hby⟩ := ((HB.out.below hEw).more hEw.size).get k hlt
          have hm64 := hby.at_.2.1
          have hm65 := hby.at_.2.2.1
          have ht := HTB.out k hlt
          replace ht := Lib.hid ht
          clear hby
          unfold maxLen at hm65
          generalize bs[k].length = m at *
          generalize sizeL (bs.take k) = q at *
          go_wp2
          go_roundw
          case rel => exact ⟨k + 1, by omega, by go_num, by rw [ht.out]; go_num, hE⟩
          case measure => simp [intOf]; omega
        · obtain rfl : k = bs.length := by omega
          rw [HE1.out] at hlb ⊢
          clear HB HTB HLB r1 hd1 hd2
          go_wp2
          clear kr
          go_loopw [3, 5] (fun t i wq => ∃ j : Nat, j ≤ ws.length ∧ i = .int .i64 (j : Int) ∧ t = .int .i64 ((sizeL bs + sizeL ((ws.map (·.2)).take j) : Nat) : Int) ∧ Ext wr wq) (fun _ i _ => ws.length - (intOf i).toNat)
          case atStart => exact ⟨0, by omega, rfl, rfl, Ext.refl _⟩
          case round =>
            obtain ⟨j, hj, rfl, rfl, hE2⟩ := hrel
            have hEq := hEw.trans hE2
            have kr := cells_row (row_ext rr hE2)
            have hlw := HLW.out j
            by_cases hlt2 : j < ws.length
            · have hlt2' := hlt2
              obtain ⟨b2, o2, rfl, hb2⟩ := hA2 (by omega)
              obtain ⟨A', c', hca, hcb, hby⟩ := ((HW.out.below hEq).more hEq.size).get j hlt2
              have hm64 := hby.at_.2.1
              have hm65 := hby.at_.2.2.1
              have ht := HTW.out j (by rw [List.length_map]; exact hlt2)
              rw [List.getElem_map] at ht
              replace ht := Lib.hid ht
              clear hby
              unfold maxLen at hm65
              generalize ws[j].2.length = m at *
              generalize ws[j].1 = a at *
              generalize sizeL ((ws.map (·.2)).take j) = q at *
              generalize sizeL bs = s0 at *
              go_wp2
              go_roundw
              case rel => exact ⟨j + 1, by omega, by go_num, by rw [ht.out]; go_num, hE2⟩
              case measure => simp [intOf]; omega
            · obtain rfl : j = ws.length := by omega
              rw [HE2.out] at hlw ⊢
              go_wp2
              go_ret
              refine ⟨ret_bool ?_, hEq⟩
              rw [Bool.eq_iff_iff]
              simp
              omega
end Go.Proofs.YtckhnchnbeoogaaGreat
/- Contracts: is a store, a pool more than statements go through? -/
namespace Go.Proofs.YtckhnchnbeoogaaGreat
set_option linter.unusedSimpArgs false
set_option linter.unusedVariables false
open Go.RowKit

def greatS (S : Sto) : Bool := greatD S.bs S.ws || (decide (10000 < S.now.length) || decide (10000 < S.last.length))
abbrev poolV (A1 : Option Addr) (n1 c1 : Nat) (A2 : Option Addr) (n2 c2 : Nat) (A3 : Option Addr) (n3 c3 : Nat) (A4 : Option Addr) (n4 c4 : Nat) (g r x : Int) (A5 : Option Addr) (n5 c5 : Nat) : Value :=
  .agg #[.slice A1 n1 c1, .slice A2 n2 c2, .slice A3 n3 c3, .slice A4 n4 c4, .int .u32 g, .int .i64 r, .int .u32 x, .slice A5 n5 c5]

set_option maxHeartbeats 2000000 in
set_option maxRecDepth 100000 in
theorem great8_any (A1 : Option Addr) (n1 c1 : Nat) (A2 : Option Addr) (n2 c2 : Nat) (A3 : Option Addr) (n3 c3 : Nat) (A4 : Option Addr) (n4 c4 : Nat) (S : Sto) (w : World) (h : StoAt w w.heap.size (.slice A1 n1 c1) (.slice A2 n2 c2) (.slice A3 n3 c3) (.slice A4 n4 c4) S) :
    Calls Tryz.prog 23 #[storeV A1 n1 c1 A2 n2 c2 A3 n3 c3 A4 n4 c4] w (Ret (.bool (greatS S)) w) := by
  have HD := Lib.hid (fun W (hW : Ext w W) => great3_any A1 n1 c1 A2 n2 c2 S.bs S.ws W (h.ext hW).bs (h.ext hW).ws)
  have e3 : S.now.length = n3 := h.now.at_.1.symm
  have e4 : S.last.length = n4 := h.last.at_.1.symm
  have hS : greatS S = (greatD S.bs S.ws || (decide (10000 < n3) || decide (10000 < n4))) := by unfold greatS; rw [e3, e4]
  rw [hS]
  clear hS h e3 e4
  generalize greatD S.bs S.ws = d at *
  go_enter Tryz.func23, Tryz.ntmps23
  go_wp2_with fail
  generalize hw1 : (World.alloc _ _) = w1
  have x1 : Ext w w1 := by rw [← hw1]; exact Ext.alloc _ _
  have r1 : w1.heap[w.heap.size]? = some (.cells #[.slice A1 n1 c1, .slice A2 n2 c2, .slice A3 n3 c3, .slice A4 n4 c4] 28 (0, 0)) := by rw [← hw1]; exact World.alloc_heap_at _ _ _ rfl
  clear hw1
  refine (HD.out _ x1).mono ?_
  rintro e w2 ⟨rfl, hB⟩
  have x2 := x1.trans hB
  have r2 := row_ext r1 hB
  have k2 := cells_row r2
  clear hB r1 x1 HD
  cases d
  all_goals
    go_wp2
    all_goals
      go_ret
      refine ⟨ret_bool ?_, x2⟩
      rw [Bool.eq_iff_iff]
      simp
      try omega

def greatP (S : Sto) (dead : Nat) : Bool := greatS S || decide (1000 < dead)
set_option maxHeartbeats 2000000 in
set_option maxRecDepth 100000 in
theorem great14_any (A1 : Option Addr) (n1 c1 : Nat) (A2 : Option Addr) (n2 c2 : Nat) (A3 : Option Addr) (n3 c3 : Nat) (A4 : Option Addr) (n4 c4 : Nat) (g r x : Int) (A5 : Option Addr) (n5 c5 : Nat) (S : Sto) (w : World) (h : StoAt w w.heap.size (.slice A1 n1 c1) (.slice A2 n2 c2) (.slice A3 n3 c3) (.slice A4 n4 c4) S) :
    Calls Tryz.prog 5 #[poolV A1 n1 c1 A2 n2 c2 A3 n3 c3 A4 n4 c4 g r x A5 n5 c5] w (Ret (.bool (greatP S n5)) w) := by
  have HD := Lib.hid (fun W (hW : Ext w W) => great8_any A1 n1 c1 A2 n2 c2 A3 n3 c3 A4 n4 c4 S W (h.ext hW))
  have hS : greatP S n5 = (greatS S || decide (1000 < n5)) := rfl
  rw [hS]
  clear hS h
  generalize greatS S = d at *
  go_enter Tryz.func5, Tryz.ntmps5
  go_wp2_with fail
  generalize hw1 : (World.alloc _ _) = w1
  have x1 : Ext w w1 := by rw [← hw1]; exact Ext.alloc _ _
  have r1 : w1.heap[w.heap.size]? = some (.cells #[.slice A1 n1 c1, .slice A2 n2 c2, .slice A3 n3 c3, .slice A4 n4 c4, .int .u32 g, .int .i64 r, .int .u32 x, .slice A5 n5 c5] 32 (0, 0)) := by rw [← hw1]; exact World.alloc_heap_at _ _ _ rfl
  clear hw1
  refine (HD.out _ x1).mono ?_
  rintro e w2 ⟨rfl, hB⟩
  have x2 := x1.trans hB
  have r2 := row_ext r1 hB
  have k2 := cells_row r2
  clear hB r1 x1 HD
  cases d
  all_goals
    go_wp2
    all_goals
      go_ret
      refine ⟨ret_bool ?_, x2⟩
      rw [Bool.eq_iff_iff]
      simp
      try omega
end Go.Proofs.YtckhnchnbeoogaaGreat
/- Appends of cells that hold a slice just made: the row grows, in place or not. -/
namespace Go.Proofs.YtckhnchnbeoogaaGreat
set_option linter.unusedSimpArgs false
set_option linter.unusedVariables false
open Go.RowKit

def DoneX (base : Nat) (e : TypeId) (size lo : Nat) (v : Value) (n : Nat) (xs : List Value) (f : Value → List Value) (l : List UInt8) (v' : Value) (W : World) : Prop :=
  ∃ A c, Done base e size lo v (n + 1) (xs ++ f (.slice A l.length c)) v' W ∧ Bys W W.heap.size (.slice A l.length c) l ∧ From lo (.slice A l.length c) ∧ Apart v' (.slice A l.length c)
theorem DoneX.ext {base : Nat} {e : TypeId} {size lo : Nat} {v : Value} {n : Nat} {xs : List Value} {f : Value → List Value} {l : List UInt8} {v' : Value} {W W' : World} (h : DoneX base e size lo v n xs f l v' W) (hx : Ext W W') : DoneX base e size lo v n xs f l v' W' := by
  obtain ⟨A, c, h1, h2, h3⟩ := h
  exact ⟨A, c, ⟨own_ext h1.1 hx, h1.2⟩, (h2.below hx).more hx.size, h3⟩
def appX (base : Nat) (e : TypeId) (size lo : Nat) (v : Value) (n : Nat) (xs : List Value) (f : Value → List Value) (l : List UInt8) : Rel where
  rel W W' := W.grownBy W' v.ownBlock ∧ (W.ownsRow base e size v n xs → W'.ownsRow base e size v n xs) ∧ ∀ v', DoneX base e size lo v n xs f l v' W → DoneX base e size lo v n xs f l v' W'
  refl' W := ⟨World.grownBy.refl _ _, id, fun _ => id⟩
  trans' h k := ⟨h.1.trans k.1, fun x => k.2.1 (h.2.1 x), fun v' x => k.2.2 v' (h.2.2 v' x)⟩
  drew' W := ⟨⟨rfl, rfl, rfl, Nat.le_refl _, fun _ _ _ => rfl⟩, fun h => h.drew, fun v' h => h.ext (Ext.drew W)⟩

section
variable {base : Nat} {e : TypeId} {size lo : Nat} {v : Value} {n : Nat} {xs : List Value} {f : Value → List Value} {l : List UInt8}
theorem appX_ext {W W' : World} (h : Ext W W') : (appX base e size lo v n xs f l).r W W' :=
  ⟨grown_of_ext h _, fun x => own_ext x h, fun _ x => x.ext h⟩
theorem appX_cell {W W' : World} (h : (appX base e size lo v n xs f l).r W W') {p : Addr} {u : Value} (hp : v.ownBlock ≠ some p.block) (hc : W.cell? p = some u) : W'.cell? p = some u :=
  World.grownBy.cell h.1 hc (fun x => hp x.symm)
theorem appX_row {W W' : World} (h : (appX base e size lo v n xs f l).r W W') {b : Nat} {o : Obj} (hp : v.ownBlock ≠ some b) (hc : W.heap[b]? = some o) : W'.heap[b]? = some o :=
  (h.1.block b (Array.getElem?_eq_some_iff.1 hc).1 (fun x => hp x.symm)).trans hc
theorem run_append_X {P : Program} (W : World) (t ty : TypeId) (i : TypeInfo) (z : Value) (bytes : Nat) (ht : P.underlying t = some (.slice e)) (hi : P.info? e = some i) (hz : i.zero = some z)
    (hsize : i.size = size) (hby : i.bytes = bytes) (hzs : z.cells.size = size) (hsz : 0 < size) (hown : W.ownsRow base e size v n xs)
    (a : Addr) (A : Option Addr) (c : Nat) (hl : (f (.slice A l.length c)).length = size) (hnews : ∀ j u, (f (.slice A l.length c))[j]? = some u → W.cell? (a.add j) = some u) (h1 : ∀ u ∈ f (.slice A l.length c), u.oneCell' = true)
    (hbs : Bys W W.heap.size (.slice A l.length c) l) (hf : From lo (.slice A l.length c)) (hvl : ∀ g, v.ownBlock = some g → g < lo)
    (hn : n + 1 < 1073741824) (hbytes : bytes ≤ 65536) (hbase : base ≤ W.heap.size) (hlo : lo ≤ W.heap.size) :
    ∃ v' w', (Builtin.append_ #[t, t] ty #[v, .slice (some a) 1 1]).run P W = .ok v' w' ∧ DoneX base e size lo v n xs f l v' w' ∧ (appX base e size lo v n xs f l).r W w' := by
  have hb : (n + 1) * bytes ≤ 140737488355328 := Nat.le_trans (Nat.mul_le_mul_left _ hbytes) (by omega)
  have hm : n + 1 ≤ maxLen := by unfold maxLen; omega
  have hl' : (f (.slice A l.length c)).length = 1 * size := by rw [hl, Nat.one_mul]
  obtain ⟨v', w', hr, h2, h3, _, h5⟩ := run_append_own_at (P := P) W base t ty e i z size bytes ht hi hz hsize hby hzs hsz v n xs hown a 1 1 _ hl' hnews h1 hm hb hbase
  have hap : Apart v (.slice A l.length c) := Apart.of_from hf hvl
  have hap' : Apart v' (.slice A l.length c) := by
    intro a n c e hn
    rcases h5 with h4 | h4
    · rw [h4]; exact hap a n c e hn
    · rw [h4]
      intro hx
      simp only [Option.some.injEq] at hx
      obtain ⟨A', c', e', _, _, hr⟩ := hbs
      rw [e] at e'
      simp only [Value.slice.injEq] at e'
      obtain ⟨e1, e2, _⟩ := e'
      obtain ⟨b, off, e3, hbb, _⟩ := hr.2 (by omega)
      rw [← e1] at e3
      simp only [Option.some.injEq] at e3
      rw [e3] at hx
      simp at hx
      omega
  have hD : DoneX base e size lo v n xs f l v' w' := ⟨A, c, ⟨h2, h5.imp id fun e => ⟨_, e, hlo⟩⟩, hbs.grown h3 hap, hf, hap'⟩
  rcases hown.2 with ⟨rfl, rfl⟩ | ⟨g, cap, cur, rfl, hbg, hg, hnc, hcm, hcs, htk⟩
  · exact ⟨v', w', hr, hD, appX_ext ⟨h3.os, h3.tape, h3.output, h3.size, fun k hk => h3.block k hk (by simp [Value.ownBlock])⟩⟩
  · by_cases hroom : n + 1 ≤ cap
    · obtain ⟨w2, hr2, g2, g3⟩ := run_append_fits (P := P) W base t ty e i size ht hi hsize g n cap xs hown a 1 1 _ hl' hnews h1 hroom
      refine ⟨_, w2, hr2, ⟨A, c, ⟨g2, .inl rfl⟩, hbs.grown g3 hap, hf, hap⟩, g3, fun _ => own_shrink g2 hown.1, fun u hu => ?_⟩
      obtain ⟨A0, c0, hu, k2, k3, k4⟩ := hu
      have k2' := k2.grown g3 (Apart.of_from k3 hvl)
      rcases hu.1.2 with h0 | ⟨g', cap', cur', rfl, hbg', hg', hnc', hcm', hcs', htk'⟩
      · exact ⟨A0, c0, ⟨⟨hu.1.1, .inl h0⟩, hu.2⟩, k2', k3, k4⟩
      · by_cases hgg : g' = g
        · subst hgg
          rw [hg] at hg'
          simp only [Option.some.injEq, Obj.cells.injEq] at hg'
          obtain ⟨rfl, _⟩ := hg'
          obtain rfl : cap' = cap := by
            have : cap' * size = cap * size := by rw [← hcs', ← hcs]
            exact Nat.eq_of_mul_eq_mul_right hsz this
          exact ⟨A, c, ⟨g2, .inl rfl⟩, hbs.grown g3 hap, hf, hap⟩
        · exact ⟨A0, c0, ⟨⟨hu.1.1, .inr ⟨g', cap', cur', rfl, hbg', (g3.block g' (Array.getElem?_eq_some_iff.1 hg').1 (by simpa using hgg)).trans hg', hnc', hcm', hcs', htk'⟩⟩, hu.2⟩, k2', k3, k4⟩
    · have holds : ∀ j u, xs[j]? = some u → W.cell? ((⟨g, 0, none⟩ : Addr).add j) = some u := hown.cells (g := g) rfl
      subst hsize
      subst hby
      have hr' := run_append_grow (P := P) W t ty e i z ht hi hz ⟨g, 0, none⟩ n cap xs hown.1 holds a 1 1 _ hl' hnews (by omega) (by unfold maxLen at hm; omega) (growslice_fits (by omega) hb)
      rw [hr] at hr'
      cases hr'
      exact ⟨_, _, hr, hD, appX_ext ((Ext.drew W).trans (Ext.alloc _ _))⟩
def outX (base : Nat) (e : TypeId) (size lo : Nat) (v : Value) (n : Nat) (xs : List Value) (f : Value → List Value) (l : List UInt8) : Outs := ⟨Option Addr × Nat, fun p => .slice p.1 (n + 1) p.2, fun p W => DoneX base e size lo v n xs f l (.slice p.1 (n + 1) p.2) W⟩
theorem outX_f (A : Option Addr) (c : Nat) : (outX base e size lo v n xs f l).f (A, c) = .slice A (n + 1) c := rfl
theorem outX_stable : ∀ p, StableG (appX base e size lo v n xs f l) ((outX base e size lo v n xs f l).φ p) := fun p _ _ he h => he.2.2 _ h
def outLitX (lo : Nat) (ty : TypeId) (f : Value → List Value) (l : List UInt8) : Outs := ⟨Nat, fun b => .slice (some ⟨b, 0, none⟩) 1 1, fun b W => lo ≤ b ∧ ∃ A c, W.heap[b]? = some (.cells (f (.slice A l.length c)).toArray ty (0, 0)) ∧ Bys W W.heap.size (.slice A l.length c) l ∧ From lo (.slice A l.length c)⟩
theorem outLitX_f (lo : Nat) (ty : TypeId) (b : Nat) : (outLitX lo ty f l).f b = .slice (some ⟨b, 0, none⟩) 1 1 := rfl
theorem outLitX_stable {lo' : Nat} {ty : TypeId} (hlo : ∀ g, v.ownBlock = some g → g < lo') : ∀ p, StableG (appX base e size lo v n xs f l) ((outLitX lo' ty f l).φ p) := fun p _ _ he ⟨h1, A, c, h2, h3, h4⟩ =>
  ⟨h1, A, c, appX_row he (fun x => by have := hlo p x; omega) h2, h3.grown he.1 (Apart.of_from h4 hlo), h4⟩
theorem outB_stableX {lo' n' : Nat} {l' : List UInt8} (hlo : ∀ g, v.ownBlock = some g → g < lo') : ∀ p, StableG (appX base e size lo v n xs f l) ((outB lo' n' l').φ p) := fun p _ _ he h =>
  ⟨h.1.grown he.1 (Apart.of_from h.2 hlo), h.2⟩
end
def RowX {α : Type} (base lo : Nat) (e : TypeId) (size : Nat) (g : α → Value → List Value) (by_ : α → List UInt8) (w : World) (v : Value) (ps : List (α × Value)) : Prop :=
  w.ownsRow base e size v ps.length (ps.flatMap fun p => g p.1 p.2) ∧ ∀ p ∈ ps, ((∃ A c, p.2 = .slice A (by_ p.1).length c) ∧ From lo p.2) ∧ Bys w w.heap.size p.2 (by_ p.1) ∧ Apart v p.2
section
variable {α : Type} {base lo : Nat} {e : TypeId} {size : Nat} {g : α → Value → List Value} {by_ : α → List UInt8}
theorem RowX.nil (w : World) : RowX base lo e size g by_ w (.slice none 0 0) [] := ⟨World.ownsRow_nil _ _ _ _, fun _ h => by cases h⟩
theorem RowX.ext {w w' : World} {v : Value} {ps : List (α × Value)} (h : RowX base lo e size g by_ w v ps) (hx : Ext w w') : RowX base lo e size g by_ w' v ps :=
  ⟨own_ext h.1 hx, fun p hp => ⟨(h.2 p hp).1, ((h.2 p hp).2.1.below hx).more hx.size, (h.2 p hp).2.2⟩⟩
theorem RowX.setCell {w : World} {v : Value} {ps : List (α × Value)} (h : RowX base lo e size g by_ w v ps) {p : Addr} (hp : p.block < base) (hl : p.block < lo) (u : Value) : RowX base lo e size g by_ (w.setCell p u) v ps :=
  ⟨own_setCell h.1 hp u, fun q hq => ⟨(h.2 q hq).1, by simpa using (h.2 q hq).2.1.setCell (h.2 q hq).1.2 hl u, (h.2 q hq).2.2⟩⟩
theorem RowX.push {lo2 : Nat} {w W : World} {v v' : Value} {ps : List (α × Value)} (h : RowX base lo e size g by_ w v ps) (x : α) (hll : lo ≤ lo2) (hl : lo2 = w.heap.size)
    (hD : DoneX base e size lo2 v ps.length (ps.flatMap fun p => g p.1 p.2) (g x) (by_ x) v' W) (hg : w.grownBy W v.ownBlock) : ∃ u, RowX base lo e size g by_ W v' (ps ++ [(x, u)]) := by
  subst hl
  obtain ⟨A, c, hD, hB, hF, hA⟩ := hD
  refine ⟨.slice A (by_ x).length c, by rw [List.length_append, List.flatMap_append]; simpa using hD.1, ?_⟩
  intro p hp
  rcases List.mem_append.1 hp with hp | hp
  · obtain ⟨h1, h2, h3⟩ := h.2 p hp
    refine ⟨h1, h2.grown hg h3, fun a n c e hn => ?_⟩
    rcases hD.2 with h4 | ⟨k, h4, h5⟩
    · rw [h4]; exact h3 a n c e hn
    · rw [h4]
      intro hx
      simp only [Option.some.injEq] at hx
      obtain ⟨A', c', e', _, _, hr⟩ := h2
      rw [e] at e'
      simp only [Value.slice.injEq] at e'
      obtain ⟨e1, e2, _⟩ := e'
      obtain ⟨b, off, e3, hbb, _⟩ := hr.2 (by omega)
      rw [← e1] at e3
      simp only [Option.some.injEq] at e3
      rw [e3] at hx
      simp at hx
      omega
  · obtain rfl : p = (x, .slice A (by_ x).length c) := by simpa using hp
    exact ⟨⟨⟨_, _, rfl⟩, hF.mono hll⟩, hB, hA⟩
end
end Go.Proofs.YtckhnchnbeoogaaGreat
/- Twins of disks: plain words. -/
namespace Go.Proofs.YtckhnchnbeoogaaGreat
set_option linter.unusedSimpArgs false
set_option linter.unusedVariables false
open Go.RowKit

theorem Tryz.info_bytes : (Tryz.prog.info? 26).map (fun i => (i.zero, i.size, i.bytes)) = some (some (.slice none 0 0), 1, 24) := by kernel_rfl
theorem Tryz.info_write : (Tryz.prog.info? 100).map (fun i => (i.zero, i.size, i.bytes)) = some (some (.agg #[.int .i64 0, .slice none 0 0]), 2, 32) := by kernel_rfl
abbrev gB (_ : List UInt8) (u : Value) : List Value := [u]
abbrev gW (p : Int × List UInt8) (u : Value) : List Value := [.int .i64 p.1, u]
theorem Rd.keepN {w W : World} {B size lo n c : Nat} {A : Option Addr} {xs : List Value} (h : Rd w B size A n xs) (hf : From lo (.slice A n c)) (hk : ∀ q : Addr, lo ≤ q.block → q.block < B → W.cell? q = w.cell? q) : Rd W B size A n xs :=
  ⟨h.1, fun hn => by
    obtain ⟨b, off, e, hb, hc⟩ := h.2 hn
    subst e
    exact ⟨b, off, rfl, hb, fun j u hu => (hk ⟨b, off + j, none⟩ (hf ⟨b, off, none⟩ n c rfl) hb).trans (hc j u hu)⟩⟩
theorem Bys.keepN {w W : World} {B lo : Nat} {v : Value} {l : List UInt8} (h : Bys w B v l) (hf : From lo v) (hk : ∀ q : Addr, lo ≤ q.block → q.block < B → W.cell? q = w.cell? q) : Bys W B v l := by
  obtain ⟨A, c, e, hc, hm, hr⟩ := h
  subst e
  exact ⟨A, c, rfl, hc, hm, hr.keepN hf hk⟩
theorem RowX.blsN {base lo : Nat} {e : TypeId} {w W : World} {v : Value} {ps : List (List UInt8 × Value)} (h : RowX base lo e 1 gB id w v ps) (hl : lo ≤ base) (hk : ∀ q : Addr, lo ≤ q.block → q.block < w.heap.size → W.cell? q = w.cell? q) : Bls W w.heap.size v (ps.map (·.1)) := by
  obtain ⟨A, c, rfl, h1, h2⟩ := own_slice h.1
  have hf : (ps.flatMap fun p => gB p.1 p.2) = ps.map (·.2) := by
    have : ∀ l : List (List UInt8 × Value), (l.flatMap fun p => gB p.1 p.2) = l.map (·.2) := by
      intro l
      induction l with
      | nil => rfl
      | cons p r ih => simp only [List.flatMap_cons, List.map_cons, ih]; rfl
    exact this ps
  have hr := (Rd.of_own h.1).keepN ((From.of_own h.1).mono hl) hk
  rw [hf] at hr
  refine ⟨ps.map (·.2), A, c, by rw [List.length_map], by rw [List.length_map]; exact h1, h2, by rw [List.length_map]; exact hr, fun i u l hu hl => ?_⟩
  rw [List.getElem?_map] at hu hl
  cases hp : ps[i]? with
  | none => rw [hp] at hu; cases hu
  | some p =>
    rw [hp] at hu hl
    cases hu
    cases hl
    have hm := h.2 p (List.mem_of_getElem? hp)
    exact hm.2.1.keepN hm.1.2 hk
theorem RowX.wrsN {base lo : Nat} {e : TypeId} {w W : World} {v : Value} {ps : List ((Int × List UInt8) × Value)} (h : RowX base lo e 2 gW (·.2) w v ps) (hl : lo ≤ base) (hk : ∀ q : Addr, lo ≤ q.block → q.block < w.heap.size → W.cell? q = w.cell? q) : Wrs W w.heap.size v (ps.map (·.1)) := by
  obtain ⟨A, c, rfl, h1, h2⟩ := own_slice h.1
  have hf : (ps.flatMap fun p => gW p.1 p.2) = cells2 ps := by
    have : ∀ l : List ((Int × List UInt8) × Value), (l.flatMap fun p => gW p.1 p.2) = cells2 l := by
      intro l
      induction l with
      | nil => rfl
      | cons p r ih => simp only [List.flatMap_cons, cells2, ih]; rfl
    exact this ps
  have hr := (Rd.of_own h.1).keepN ((From.of_own h.1).mono hl) hk
  rw [hf] at hr
  exact ⟨ps, rfl, ⟨A, c, by rw [List.length_map], by rw [List.length_map]; exact h1, h2, by rw [List.length_map]; exact hr⟩, fun p hp => ⟨(h.2 p hp).1.1, (h.2 p hp).2.1.keepN (h.2 p hp).1.2 hk⟩⟩
theorem Apart.of_bys {w : World} {B : Nat} {v u : Value} {l : List UInt8} (h : Bys w B u l) (hv : ∀ g, v.ownBlock = some g → B ≤ g) : Apart v u := by
  intro a n c e hn hx
  obtain ⟨A', c', e', _, _, hr⟩ := h
  rw [e] at e'
  simp only [Value.slice.injEq] at e'
  obtain ⟨e1, e2, _⟩ := e'
  obtain ⟨b, off, e3, hbb, _⟩ := hr.2 (by omega)
  rw [← e1] at e3
  simp only [Option.some.injEq] at e3
  have := hv _ hx
  rw [e3] at this
  simp at this
  omega
def outW (lo : Nat) (n : Int) (l : List UInt8) : Outs := ⟨Option Addr × Nat, fun p => .agg #[.int .i64 n, .slice p.1 l.length p.2], fun p W => Bys W W.heap.size (.slice p.1 l.length p.2) l ∧ From lo (.slice p.1 l.length p.2)⟩
theorem outW_f (lo : Nat) (n : Int) (l : List UInt8) (A : Option Addr) (c : Nat) : (outW lo n l).f (A, c) = .agg #[.int .i64 n, .slice A l.length c] := rfl
theorem outW_stableX {base : Nat} {e : TypeId} {size lo : Nat} {v : Value} {n : Nat} {xs : List Value} {f : Value → List Value} {l : List UInt8} {lo' : Nat} {m : Int} {l' : List UInt8} (hlo : ∀ g, v.ownBlock = some g → g < lo') : ∀ p, StableG (appX base e size lo v n xs f l) ((outW lo' m l').φ p) := fun p _ _ he h =>
  ⟨h.1.grown he.1 (Apart.of_from h.2 hlo), h.2⟩
theorem RowX.other {α : Type} {base lo : Nat} {e : TypeId} {size : Nat} {g : α → Value → List Value} {by_ : α → List UInt8} {w W : World} {v : Value} {ps : List (α × Value)} {row : Option Nat} (h : RowX base lo e size g by_ w v ps) (hg : w.grownBy W row) (h1 : ∀ k, v.ownBlock = some k → row ≠ some k) (h2 : ∀ p ∈ ps, ∀ a n c, p.2 = .slice (some a) n c → 0 < n → row ≠ some a.block) : RowX base lo e size g by_ W v ps := by
  refine ⟨⟨h.1.1, ?_⟩, fun p hp => ⟨(h.2 p hp).1, (h.2 p hp).2.1.grown hg (h2 p hp), (h.2 p hp).2.2⟩⟩
  rcases h.1.2 with h0 | ⟨g', cap', cur', rfl, hbg', hg', hnc', hcm', hcs', htk'⟩
  · exact .inl h0
  · exact .inr ⟨g', cap', cur', rfl, hbg', (hg.block g' (Array.getElem?_eq_some_iff.1 hg').1 (fun x => h1 g' rfl x.symm)).trans hg', hnc', hcm', hcs', htk'⟩
theorem RowX.low {α : Type} {base lo : Nat} {e : TypeId} {size : Nat} {g : α → Value → List Value} {by_ : α → List UInt8} {w : World} {v : Value} {ps : List (α × Value)} (h : RowX base lo e size g by_ w v ps) : ∀ p ∈ ps, ∀ a n c, p.2 = .slice (some a) n c → 0 < n → a.block < w.heap.size := by
  intro p hp a n c e hn
  obtain ⟨A', c', e', _, _, hr⟩ := (h.2 p hp).2.1
  rw [e] at e'
  simp only [Value.slice.injEq] at e'
  obtain ⟨e1, e2, _⟩ := e'
  obtain ⟨b, off, e3, hbb, _⟩ := hr.2 (by omega)
  rw [← e1] at e3
  simp only [Option.some.injEq] at e3
  rw [e3]
  exact hbb
theorem hardAt_litX {P : Program} {base : Nat} {e : TypeId} {size lo : Nat} {v : Value} {n : Nat} {xs : List Value} {f : Value → List Value} {l : List UInt8} {o : Oper} {a : Act} {W : World} {lo' : Nat} {ty : TypeId} {A : Option Addr} {c : Nat}
    (hr : (execOp a.eval o).run P W = .ok (.value (.slice (some ⟨W.heap.size, 0, none⟩) 1 1)) (W.alloc (.cells (f (.slice A l.length c)).toArray ty))) (hlo : lo' ≤ W.heap.size) (hb : Bys W W.heap.size (.slice A l.length c) l) (hf : From lo' (.slice A l.length c)) :
    hardAtG (appX base e size lo v n xs f l) P o a W (outLitX lo' ty f l) := by
  unfold hardAtG
  rw [hr]
  exact ⟨W.heap.size, rfl, ⟨hlo, A, c, World.alloc_heap_at _ _ _ rfl, (hb.below (Ext.alloc _ _)).more (Ext.alloc _ _).size, hf⟩, appX_ext (Ext.alloc _ _)⟩
theorem run_twin {W : World} {A : Option Addr} {c : Nat} {l : List UInt8} (h : Bys W W.heap.size (.slice A l.length c) l) (hl : l.length < 1000000) :
    ∃ p : Option Addr × Nat, ∃ w', (Builtin.append_ #[26, 26] 26 #[.slice none 0 0, .slice A l.length c]).run Tryz.prog W = .ok (.slice p.1 l.length p.2) w' ∧ ((outB W.heap.size l.length l).φ p w') ∧ Ext W w' := by
  obtain ⟨i0, hi, hz0, hz1, hz2⟩ := info_parts Tryz.info_u8
  obtain ⟨A', c', e, hc, hm, hr⟩ := h
  cases e
  obtain ⟨v', w', hrun, hown, hg, hB, _⟩ := run_append_rd (P := Tryz.prog) W W.heap.size 26 26 5 i0 (.int .u8 0) 1 1 Tryz.underlying26 hi hz0 hz1 hz2 rfl (by decide) (.slice none 0 0) 0 [] (World.ownsRow_nil _ _ _ _) W.heap.size A l.length c (l.map bv) hr (bvs_one l) (by omega) (by decide) (Nat.le_refl _)
  simp only [Nat.zero_add, List.nil_append] at hown
  obtain ⟨A2, c2, rfl, _, _⟩ := own_slice hown
  exact ⟨(A2, c2), w', hrun, ⟨Bys.of_own hown, From.of_own hown⟩, hB⟩
structure TwB (bs : List (List UInt8)) (w : World) (t3 : Nat) (i : Value) (wr : World) : Prop where
  ex : ∃ (k : Nat) (ps : List (List UInt8 × Value)) (A : Option Addr) (c : Nat), k ≤ bs.length ∧ i = .int .i64 (k : Int) ∧ ps.map (·.1) = bs.take k ∧ wr.heap[t3]? = some (.cells #[.slice A k c, .slice none 0 0] 25 (0, 0)) ∧
    RowX (t3 + 1) (t3 + 1) 26 1 gB id wr (.slice A k c) ps ∧ Below t3 w wr
structure TwW (bs : List (List UInt8)) (ws : List (Int × List UInt8)) (w : World) (t3 : Nat) (i : Value) (wr : World) : Prop where
  ex : ∃ (k : Nat) (qs : List (List UInt8 × Value)) (ps : List ((Int × List UInt8) × Value)) (A1 : Option Addr) (c1 : Nat) (A : Option Addr) (c : Nat) (base : Nat), k ≤ ws.length ∧ i = .int .i64 (k : Int) ∧ qs.map (·.1) = bs ∧ ps.map (·.1) = ws.take k ∧ wr.heap[t3]? = some (.cells #[.slice A1 bs.length c1, .slice A k c] 25 (0, 0)) ∧
    RowX (t3 + 1) (t3 + 1) 26 1 gB id wr (.slice A1 bs.length c1) qs ∧ RowX base base 100 2 gW (·.2) wr (.slice A k c) ps ∧ (t3 < base ∧ base ≤ wr.heap.size) ∧ (∀ g, (Value.slice A1 bs.length c1).ownBlock = some g → g < base) ∧ (∀ q ∈ qs, ∀ a n c, q.2 = .slice (some a) n c → 0 < n → a.block < base) ∧ Below t3 w wr
end Go.Proofs.YtckhnchnbeoogaaGreat
/- A region that draws its order, told by one walk of the lexical order: the last operations may wait for the named ones by way of others. -/
namespace Go.Proofs.YtckhnchnbeoogaaGreat
set_option linter.unusedSimpArgs false
set_option linter.unusedVariables false
open Go.RowKit
section
variable {R : Rel}
section
variable {P : Program} {ops : Array Oper} {w0 : World}
def Closed (ops : Array Oper) (listed : Array Bool) : Prop := ∀ (i : Nat) (o : Oper), ops[i]? = some o → listed.getD i false = true → ∀ k ∈ predsOf o, listed.getD k false = true
def closedB (ops : Array Oper) (listed : Array Bool) : Bool := (List.range ops.size).all fun i => !(listed.getD i false) || (match ops[i]? with | some o => (predsOf o).all fun k => listed.getD k false | none => true)
theorem closedB_spec {listed : Array Bool} (h : closedB ops listed = true) : Closed ops listed := by
  intro i o ho hi k hk
  have h1 := List.all_eq_true.1 h i (List.mem_range.2 (Array.getElem?_eq_some_iff.1 ho).1)
  rw [hi, ho] at h1
  simp only [Bool.not_true, Bool.false_or] at h1
  exact List.all_eq_true.1 h1 k hk
theorem ready_preds {listed : Array Bool} {j : Nat} (hj : j ∈ Region.ready .any ops listed) {o : Oper} (ho : ops[j]? = some o) : ∀ k ∈ predsOf o, listed.getD k false = true := by
  intro k hk
  obtain ⟨_, o', ho', hall⟩ := mem_ready.1 hj
  rw [ho] at ho'
  cases ho'
  obtain ⟨e, he, hei⟩ := List.mem_map.1 hk
  rw [List.mem_filter] at he
  rw [← hei]
  exact hall e (by simpa using he.1) he.2
theorem getD_set_keep {listed : Array Bool} {j k : Nat} (h : listed.getD k false = true) : (listed.setIfInBounds j true).getD k false = true := by
  rcases Nat.lt_or_ge k listed.size with h' | h'
  · simp only [Array.getD_eq_getD_getElem?, Array.getElem?_setIfInBounds] at h ⊢
    by_cases e : j = k
    · subst e; simp [h']
    · rw [if_neg e]; exact h
  · simp [Array.getElem?_eq_none h'] at h
theorem Closed.step {listed : Array Bool} {j : Nat} (h : Closed ops listed) (hj : j ∈ Region.ready .any ops listed) : Closed ops (listed.setIfInBounds j true) := by
  intro i o ho hi k hk
  by_cases e : i = j
  · subst e
    exact getD_set_keep (ready_preds hj ho k hk)
  · refine getD_set_keep (h i o ho ?_ k hk)
    simp only [Array.getD_eq_getD_getElem?, Array.getElem?_setIfInBounds] at hi ⊢
    rwa [if_neg (fun x => e x.symm)] at hi
def waits (ops : Array Oper) : Nat → Nat → Nat → Bool
  | 0, _, _ => false
  | n + 1, j, k => match ops[j]? with
    | some o => (predsOf o).contains k || (predsOf o).any fun i => waits ops n i k
    | none => false
theorem waits_listed {listed : Array Bool} (h : Closed ops listed) : ∀ (n j k : Nat), (∀ o, ops[j]? = some o → ∀ i ∈ predsOf o, listed.getD i false = true) → waits ops n j k = true → listed.getD k false = true
  | 0, _, _, _, hw => by cases hw
  | n + 1, j, k, hp, hw => by
    unfold waits at hw
    split at hw
    · rename_i o ho
      rw [Bool.or_eq_true] at hw
      rcases hw with hw | hw
      · exact hp o ho k (by simpa using hw)
      · obtain ⟨i, hi, hw⟩ := List.any_eq_true.1 hw
        exact waits_listed h n i k (fun o' ho' => h i o' ho' (hp o ho i hi)) hw
    · cases hw
def tailT (ops : Array Oper) (L : Array Bool) (ks : List Nat) : Bool := (List.range ops.size).all fun j => L.getD j true || ks.all fun k => waits ops 9 j k
theorem tailT_spec {L : Array Bool} {ks : List Nat} (h : tailT ops L ks = true) : ∀ (listed : Array Bool) (j : Nat), Closed ops listed → j ∈ Region.ready .any ops listed → L.getD j true = false → ∀ k, k ∈ ks → listed.getD k false = true := by
  intro listed j hc hj hm k hk
  obtain ⟨_, o, ho, _⟩ := mem_ready.1 hj
  have h1 := List.all_eq_true.1 h j (List.mem_range.2 (Array.getElem?_eq_some_iff.1 ho).1)
  rw [hm, Bool.false_or] at h1
  exact waits_listed hc 9 j k (fun o' ho' => ready_preds hj ho') (List.all_eq_true.1 h1 k hk)
theorem wpAnyF_firstT {H : Nat → Option Outs} (hH : ∀ i h, H i = some h → ∀ p, StableG R (h.φ p)) {A : Nat → Prop} {Cl : Array Bool → Prop} {L : Array Bool} {Q : Act → Facts → Prop} {i : Nat} {oi : Oper} (hi : ops[i]? = some oi) (him : A i)
    (hsel : ∀ (j : Nat) (o : Oper) cs b, ops[j]? = some o → o.op ≠ .select cs b) (hcl : ∀ listed j, Cl listed → j ∈ Region.ready .any ops listed → Cl (listed.setIfInBounds j true)) (htail : ∀ (listed : Array Bool) (j : Nat), Cl listed → j ∈ Region.ready .any ops listed → L.getD j true = false → ∀ k, A k → listed.getD k false = true) :
    ∀ (fuel : Nat) (listed : Array Bool) (a : Act) (F : Facts), Cl listed →
      (∀ j oj, ops[j]? = some oj → j ≠ i → listed.getD j true = false → (∀ e ∈ oj.after, Region.binds .any e = true → e.on ≠ i) → oi.apart ops oj = true) →
      i ∈ Region.ready .any ops listed → (∀ k, StableG R (F k)) → ConsG R w0 F → (∀ k, listed.getD k true = false → ∀ W, F k W) →
      FOpG R P ops w0 H i oi (wpAnyFG R P ops w0 H L Q fuel (listed.setIfInBounds i true)) a F → wpAnyFG R P ops w0 H L Q (fuel + 1) listed a F := by
  intro fuel
  induction fuel with
  | zero =>
    intro listed a F hCl _ hr hst hc _ hop
    refine ⟨fun h => (by rw [h] at hr; cases hr), fun j hj oj hoj => ?_⟩
    by_cases hji : j = i
    · subst hji
      rw [hi] at hoj; cases hoj
      exact hop
    · exfalso
      obtain ⟨h, hok, hK⟩ := hop
      obtain ⟨p, hcp⟩ := hok.some_ hc hst
      have hmj : L.getD j true = false := by rw [← (hK p hcp).1]; exact (mem_ready.1 (ready_mono hj hji)).1
      have h1 := htail listed j hCl hj hmj i him
      have h0 := (mem_ready.1 hr).1
      rcases Nat.lt_or_ge i listed.size with h' | h'
      · simp [h'] at h0 h1; rw [h0] at h1; cases h1
      · simp [Array.getElem?_eq_none h'] at h1
  | succ fuel ih =>
    intro listed a F hCl hfree hr hst hc hun hop
    refine ⟨fun h => (by rw [h] at hr; cases hr), fun j hj oj hoj => ?_⟩
    by_cases hji : j = i
    · subst hji
      rw [hi] at hoj; cases hoj
      exact hop
    · obtain ⟨hjun, oj', hoj', hall⟩ := mem_ready.1 hj
      rw [hoj] at hoj'; cases hoj'
      obtain ⟨hiun, oi', hoi', halli⟩ := mem_ready.1 hr
      rw [hi] at hoi'; cases hoi'
      have bad : ∀ k, listed.getD k true = false → listed.getD k false = true → False := fun k h0 h1 => by
        rcases Nat.lt_or_ge k listed.size with h' | h'
        · simp [h'] at h0 h1; rw [h0] at h1; cases h1
        · simp [Array.getElem?_eq_none h'] at h1
      have hnot : ∀ e ∈ oj.after, Region.binds .any e = true → e.on ≠ i := fun e he hb heq => bad i hiun (heq ▸ hall e he hb)
      have hnot' : ∀ e ∈ oi.after, Region.binds .any e = true → e.on ≠ j := fun e he hb heq => bad j hjun (heq ▸ halli e he hb)
      have hpi : i ∉ predsOf oj := fun hin => by
        obtain ⟨e, he, hei⟩ := List.mem_map.1 hin
        rw [List.mem_filter] at he
        exact hnot e (by simpa using he.1) he.2 hei
      have hpj : j ∉ predsOf oi := fun hin => by
        obtain ⟨e, he, hei⟩ := List.mem_map.1 hin
        rw [List.mem_filter] at he
        exact hnot' e (by simpa using he.1) he.2 hei
      have hap := hfree j oj hoj hji hjun hnot
      have hsi : ∀ cs b, oi.op ≠ .select cs b := fun cs b => hsel i oi cs b hi
      have hsj : ∀ cs b, oj.op ≠ .select cs b := fun cs b => hsel j oj cs b hoj
      obtain ⟨h2, _⟩ := (Oper.apart_spec hap).2
      obtain ⟨hI, okI, hKI⟩ := hop
      obtain ⟨p0, hcp0⟩ := okI.some_ hc hst
      obtain ⟨hJ, okJ0, _⟩ := (hKI p0 hcp0).2 j (ready_mono hj hji) oj hoj
      have okJ : OkayG R P ops w0 H j oj a F hJ := (OkayG.move hap hsj hpi).1 okJ0
      refine ⟨hJ, okJ, fun q hcq => ?_⟩
      have stJ := okJ.stable hH q
      have hfree' : ∀ k ok, ops[k]? = some ok → k ≠ i → (listed.setIfInBounds j true).getD k true = false →
          (∀ e ∈ ok.after, Region.binds .any e = true → e.on ≠ i) → oi.apart ops ok = true := fun k ok hk hki hunk hno => by
        refine hfree k ok hk hki ?_ hno
        by_cases hjk : j = k
        · subst hjk; exact hjun
        · rw [getD_set_ne true hjk] at hunk; exact hunk
      refine ih (listed.setIfInBounds j true) _ _ (hcl _ _ hCl hj) hfree' (ready_mono hr (Ne.symm hji)) (upd_stableG hst j oj stJ) hcq ?_ ?_
      · intro k hk W
        by_cases hjk : j = k
        · subst hjk
          exfalso
          have hlt : j < listed.size := by
            rcases Nat.lt_or_ge j listed.size with h' | h'
            · exact h'
            · simp [Array.getElem?_eq_none h'] at hjun
          simp [hlt] at hk
        · rw [getD_set_ne true hjk] at hk
          have := hun k hk W
          unfold upd; rw [if_neg (fun e => hjk e.symm)]; exact this
      · refine ⟨hI, (OkayG.move' hap hsi hpj).2 okI, fun p hcp => ?_⟩
        have hcp' : ConsG R w0 (upd F i oi (hI.φ p)) := by
          obtain ⟨W, hW, hF⟩ := hcp
          refine ⟨W, hW, fun k => ?_⟩
          have hk := hF k
          by_cases hki : k = i
          · subst hki
            unfold upd at hk ⊢
            rw [if_pos rfl] at hk ⊢
            refine ⟨hk.1, fun l hl => ?_⟩
            have := hk.2 l hl
            rwa [if_neg (fun e => hpj (by rw [← e]; exact hl))] at this
          · by_cases hkj : k = j
            · subst hkj
              unfold upd; rw [if_neg hki]; exact hun k hjun W
            · unfold upd at hk ⊢
              rw [if_neg hki, if_neg hkj] at hk
              rw [if_neg hki]; exact hk
        obtain ⟨hJ', okJ', hKJ'⟩ := (hKI p hcp').2 j (ready_mono hj hji) oj hoj
        have okJ'' : OkayG R P ops w0 H j oj a F hJ' := (OkayG.move hap hsj hpi).1 okJ'
        have e := okJ''.unique hc okJ
        subst e
        have hq := hKJ' q (by rw [upd_comm F _ _ (Ne.symm hji) hpi hpj]; exact hcp)
        rw [Array.setIfInBounds_comm _ _ (fun e => hji e.symm), Act.put_comm a (hI.f p) (hJ'.f q) h2, upd_comm F _ _ (Ne.symm hji) hpi hpj] at hq
        exact hq

theorem wpAnyF_lexT {H : Nat → Option Outs} (hH : ∀ i h, H i = some h → ∀ p, StableG R (h.φ p)) {Cl : Array Bool → Prop} {L : Array Bool} {ks : List Nat} {Q : Act → Facts → Prop} (hs : Region.noSelect ops = true)
    (hcl : ∀ listed j, Cl listed → j ∈ Region.ready .any ops listed → Cl (listed.setIfInBounds j true)) (htail : ∀ (listed : Array Bool) (j : Nat), Cl listed → j ∈ Region.ready .any ops listed → L.getD j true = false → ∀ k, k ∈ ks → listed.getD k false = true) : ∀ (l : List (Nat × Oper)) (listed : Array Bool) (a : Act) (F : Facts), Cl listed → (∀ x ∈ l, ops[x.1]? = some x.2 ∧ x.1 ∈ ks) →
    lexMask ops L (l.map (·.1)) listed = true → (∀ k, StableG R (F k)) → ConsG R w0 F → (∀ j, listed.getD j true = false → ∀ W, F j W) → wpFreeM R P ops w0 H Q l a F → wpAnyFG R P ops w0 H L Q l.length listed a F
  | [], listed, a, F, _, _, hB, _, _, _, h => ⟨by simpa [lexMask] using hB, h⟩
  | (k, o) :: l, listed, a, F, hCl, hl, hB, hst, hc, hun, h => by
    obtain ⟨h0, hks⟩ := hl (k, o) (List.mem_cons_self)
    simp only [List.map_cons, lexMask, Bool.and_eq_true] at hB
    obtain ⟨⟨hr, hf⟩, hB'⟩ := hB
    have hrk : k ∈ Region.ready .any ops listed := by simpa using hr
    have hkun := (mem_ready.1 hrk).1
    refine wpAnyF_firstT (A := fun k => k ∈ ks) hH h0 hks (Region.noSelect_spec hs) hcl htail l.length listed a F hCl (Region.free_spec h0 hf) hrk hst hc hun ?_
    obtain ⟨hh, hok, hK⟩ := h
    refine ⟨hh, hok, fun p hcp => ?_⟩
    refine wpAnyF_lexT hH hs hcl htail l _ _ _ (hcl _ _ hCl hrk) (fun x hx => hl x (List.mem_cons_of_mem _ hx)) hB' (upd_stableG hst k o (hok.stable hH p)) hcp (fun j hj W => ?_) (hK p hcp)
    by_cases hjk : k = j
    · subst hjk
      have hlt : k < listed.size := by
        rcases Nat.lt_or_ge k listed.size with h' | h'
        · exact h'
        · simp [Array.getElem?_eq_none h'] at hkun
      simp [hlt] at hj
    · rw [getD_set_ne true hjk] at hj
      have := hun j hj W
      unfold upd
      rw [if_neg (fun e => hjk e.symm)]
      exact this

theorem any_freeT {l : List Oper} {Q : Exit → Act → World → Prop} {fuel : Nat} {listed : Array Bool} {a : Act} {w W : World} (R : Rel) (H : Nat → Option Outs) (M : List Bool) (t : Nat)
    (hs : Region.noSelect l.toArray = true) (ht : tailT l.toArray (listedTo l.length (l.length - t)) ((maskOps 0 l M).map (·.1)) = true) (hc0 : closedB l.toArray listed = true) (hB : lexMask l.toArray (listedTo l.length (l.length - t)) ((maskOps 0 l M).map (·.1)) listed = true)
    (hseq : seqB l.toArray t (l.length - t) (listedTo l.length (l.length - t)) = true) (hfu : fuel = (maskOps 0 l M).length + t) (htl : (l.drop (l.length - t)).length = t)
    (hH : ∀ i h, H i = some h → ∀ p, StableG R (h.φ p)) (hW : R.r w W)
    (h : ∀ K : Act → Facts → Prop, (∀ a' F', (∀ W, R.r w W → (∀ k, F' k W) → wpList P l.toArray Q (l.drop (l.length - t)) a' W) → K a' F') → wpFreeM R P l.toArray w H K (maskOps 0 l M) a (fun _ _ => True)) : wpAny P .any l.toArray Q fuel listed a W := by
  have h := h _ (fun a' F' hh => hh)
  subst hfu
  have key := wpAnyF_lexT (w0 := w) hH hs (fun _ _ h => h.step) (tailT_spec ht) (maskOps 0 l M) listed a (fun _ _ => True) (closedB_spec hc0) (fun x hx => by
    obtain ⟨j, h1, h2⟩ := maskOps_spec l M 0 x hx
    refine ⟨?_, List.mem_map.2 ⟨x, hx, rfl⟩⟩
    rw [h1, Nat.zero_add]
    simpa using h2) hB (fun _ _ _ _ _ => trivial) ⟨W, hW, fun _ => trivial⟩ (fun _ _ _ => trivial) h
  refine wpAny_of_freeG (w0 := w) hH (t := t) (Q' := Q) (fun a F W hq hW hF => ?_) _ _ _ _ W (fun _ _ _ _ _ => trivial) hW (fun _ => trivial) key
  have := wpAny_seq (l.drop (l.length - t)) (l.length - t) _ a W (fun j _ => by rw [List.getElem?_drop]; simp) (by rw [htl]; exact hseq) (hq W hW hF)
  rwa [htl] at this
end
end
end Go.Proofs.YtckhnchnbeoogaaGreat
