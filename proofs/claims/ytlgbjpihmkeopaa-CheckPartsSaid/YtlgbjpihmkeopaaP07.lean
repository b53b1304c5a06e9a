/- Texts Disk, DiskR, Room, Read8, Bench, BackW, joined. -/
import Derived.Test.YtlgbjpihmkeopaaP06
/- Disks: how they lie in memory; may one be (of the program and of the document). -/
namespace Go.Proofs.Ytlgbjpihmkeopaa
set_option linter.unusedSimpArgs false
set_option linter.unusedVariables false
open Go.RowKit

def Bls (w : World) (B : Nat) (v : Value) (bs : List (List UInt8)) : Prop :=
  ∃ vs A c, v = .slice A bs.length c ∧ bs.length ≤ c ∧ c ≤ maxLen ∧ Rd w B 1 A bs.length vs ∧ ∀ (i : Nat) (u : Value) (l : List UInt8), vs[i]? = some u → bs[i]? = some l → Bys w B u l
theorem Bls.below {w w' : World} {B : Nat} {v : Value} {bs : List (List UInt8)} (h : Bls w B v bs) (hb : Below B w w') : Bls w' B v bs := by
  obtain ⟨vs, A, c, e, h1, h2, h3, h4⟩ := h
  exact ⟨vs, A, c, e, h1, h2, h3.below hb, fun i u l hu hl => (h4 i u l hu hl).below hb⟩
theorem Bls.more {w : World} {B B' : Nat} {v : Value} {bs : List (List UInt8)} (h : Bls w B v bs) (hb : B ≤ B') : Bls w B' v bs := by
  obtain ⟨vs, A, c, e, h1, h2, h3, h4⟩ := h
  exact ⟨vs, A, c, e, h1, h2, h3.more hb, fun i u l hu hl => (h4 i u l hu hl).more hb⟩
theorem Bls.at_ {w : World} {B : Nat} {A : Option Addr} {n c : Nat} {bs : List (List UInt8)} (h : Bls w B (.slice A n c) bs) : n = bs.length ∧ n ≤ c ∧ c ≤ maxLen ∧ (0 < n → ∃ b off, A = some ⟨b, off, none⟩ ∧ b < B) := by
  obtain ⟨vs, A', c', e, h1, h2, h3, _⟩ := h
  cases e
  refine ⟨rfl, h1, h2, fun hn => ?_⟩
  obtain ⟨b, off, e, hb, _⟩ := h3.2 hn
  exact ⟨b, off, e, hb⟩
theorem Bls.get {w : World} {B b off n c : Nat} {bs : List (List UInt8)} (h : Bls w B (.slice (some ⟨b, off, none⟩) n c) bs) (i : Nat) (hi : i < bs.length) : ∃ A' c', w.cell? ⟨b, off + i, none⟩ = some (.slice A' bs[i].length c') ∧ Bys w B (.slice A' bs[i].length c') bs[i] := by
  obtain ⟨vs, A', c', e, h1, h2, h3, h4⟩ := h
  cases e
  have hv : i < vs.length := by rw [h3.len1]; exact hi
  obtain ⟨b', off', e, hb, hc⟩ := h3.2 (by omega)
  cases e
  have hby := h4 i vs[i] bs[i] (List.getElem?_eq_getElem hv) (List.getElem?_eq_getElem hi)
  obtain ⟨A2, c2, e2, g1, g2, g3⟩ := hby
  exact ⟨A2, c2, by rw [← e2]; exact hc i _ (List.getElem?_eq_getElem hv), A2, c2, rfl, g1, g2, g3⟩

def cells2 : List ((Int × List UInt8) × Value) → List Value
  | [] => []
  | p :: r => .int .i64 p.1.1 :: p.2 :: cells2 r
theorem cells2_len (ps : List ((Int × List UInt8) × Value)) : (cells2 ps).length = ps.length * 2 := by
  induction ps with
  | nil => rfl
  | cons p r ih => simp [cells2, ih]; omega
theorem cells2_at (ps : List ((Int × List UInt8) × Value)) : ∀ i (h : i < ps.length), (cells2 ps)[i * 2]? = some (.int .i64 ps[i].1.1) ∧ (cells2 ps)[i * 2 + 1]? = some ps[i].2 := by
  induction ps with
  | nil => intro i h; simp at h
  | cons p r ih =>
    intro i h
    rcases i with _ | i
    · simp [cells2]
    · have := ih i (by simpa using h)
      rw [show (i + 1) * 2 = i * 2 + 2 by omega]
      simpa [cells2] using this
def Wrs (w : World) (B : Nat) (v : Value) (ws : List (Int × List UInt8)) : Prop :=
  ∃ ps : List ((Int × List UInt8) × Value), ps.map (·.1) = ws ∧ (∃ A c, v = .slice A ws.length c ∧ ws.length ≤ c ∧ c ≤ maxLen ∧ Rd w B 2 A ws.length (cells2 ps)) ∧ ∀ p ∈ ps, (∃ A c, p.2 = .slice A p.1.2.length c) ∧ Bys w B p.2 p.1.2
theorem Wrs.below {w w' : World} {B : Nat} {v : Value} {ws : List (Int × List UInt8)} (h : Wrs w B v ws) (hb : Below B w w') : Wrs w' B v ws := by
  obtain ⟨ps, e, ⟨A, c, e1, e2, e3, hr⟩, hp⟩ := h
  exact ⟨ps, e, ⟨A, c, e1, e2, e3, hr.below hb⟩, fun p h => ⟨(hp p h).1, (hp p h).2.below hb⟩⟩
theorem Wrs.more {w : World} {B B' : Nat} {v : Value} {ws : List (Int × List UInt8)} (h : Wrs w B v ws) (hb : B ≤ B') : Wrs w B' v ws := by
  obtain ⟨ps, e, ⟨A, c, e1, e2, e3, hr⟩, hp⟩ := h
  exact ⟨ps, e, ⟨A, c, e1, e2, e3, hr.more hb⟩, fun p h => ⟨(hp p h).1, (hp p h).2.more hb⟩⟩
theorem Wrs.at_ {w : World} {B : Nat} {A : Option Addr} {n c : Nat} {ws : List (Int × List UInt8)} (h : Wrs w B (.slice A n c) ws) : n = ws.length ∧ n ≤ c ∧ c ≤ maxLen ∧ (0 < n → ∃ b off, A = some ⟨b, off, none⟩ ∧ b < B) := by
  obtain ⟨ps, e, ⟨A', c', e1, e2, e3, hr⟩, hp⟩ := h
  cases e1
  refine ⟨rfl, e2, e3, fun hn => ?_⟩
  obtain ⟨b, off, e, hb, _⟩ := hr.2 hn
  exact ⟨b, off, e, hb⟩
theorem Wrs.get {w : World} {B b off n c : Nat} {ws : List (Int × List UInt8)} (h : Wrs w B (.slice (some ⟨b, off, none⟩) n c) ws) (i : Nat) (hi : i < ws.length) : ∃ A' c', w.cell? ⟨b, off + i * 2, none⟩ = some (.int .i64 ws[i].1) ∧ w.cell? ⟨b, off + i * 2 + 1, none⟩ = some (.slice A' ws[i].2.length c') ∧ Bys w B (.slice A' ws[i].2.length c') ws[i].2 := by
  obtain ⟨ps, e, ⟨A, c', e1, e2, e3, hr⟩, hp⟩ := h
  cases e1
  subst e
  have hi' : i < ps.length := by simpa using hi
  obtain ⟨b', off', e, hb, hc⟩ := hr.2 (by omega)
  cases e
  obtain ⟨c0, c1⟩ := cells2_at ps i hi'
  obtain ⟨⟨A', c', e5⟩, hby⟩ := hp ps[i] (List.getElem_mem hi')
  rw [e5] at c1 hby
  refine ⟨A', c', ?_⟩
  simp only [List.getElem_map]
  exact ⟨hc _ _ c0, by rw [Nat.add_assoc]; exact hc _ _ c1, hby⟩

def blkOk (l : List UInt8) : Bool := decide (l.length = 128)
def wrOk (x : Int × List UInt8) : Bool := decide (0 ≤ x.1 ∧ x.1 < 256 ∧ x.2.length = 128)
def headD (n m : Nat) : Bool := decide (n = 256 ∧ m ≤ 4096)
def diskMay (bs : List (List UInt8)) (ws : List (Int × List UInt8)) : Bool := headD bs.length ws.length && (bs.all blkOk && ws.all wrOk)
theorem all_take {α : Type} (f : α → Bool) (l : List α) (k : Nat) (h : k < l.length) : (l.take (k + 1)).all f = ((l.take k).all f && f l[k]) := by
  rw [List.take_succ_eq_append_getElem h, List.all_append]; simp only [List.all_cons, List.all_nil, Bool.and_true]
theorem all_bad {α : Type} {f : α → Bool} {l : List α} {k : Nat} (h : k < l.length) (hf : f l[k] = false) : l.all f = false := by
  rw [List.all_eq_false]; exact ⟨_, List.getElem_mem h, by simp [hf]⟩

abbrev diskV (A1 : Option Addr) (n1 c1 : Nat) (A2 : Option Addr) (n2 c2 : Nat) : Value := .agg #[.slice A1 n1 c1, .slice A2 n2 c2]

set_option maxHeartbeats 4000000 in
theorem dcheck_any (A1 : Option Addr) (n1 c1 : Nat) (A2 : Option Addr) (n2 c2 : Nat) (bs : List (List UInt8)) (ws : List (Int × List UInt8)) (w : World) (hb : Bls w w.heap.size (.slice A1 n1 c1) bs) (hw : Wrs w w.heap.size (.slice A2 n2 c2) ws) :
    Calls Try.prog 56 #[diskV A1 n1 c1 A2 n2 c2] w (Ret (.int .i64 (errOf (diskMay bs ws))) w) := by
  obtain ⟨e1, hc1, hm1, hA1⟩ := hb.at_
  obtain ⟨e2, hc2, hm2, hA2⟩ := hw.at_
  subst e1
  subst e2
  by_cases hh : headD bs.length ws.length = true
  case neg =>
    have hM : diskMay bs ws = false := by unfold diskMay; rw [show headD bs.length ws.length = false by simpa using hh]; rfl
    rw [hM]
    have hh' : ¬(bs.length = 256 ∧ ws.length ≤ 4096) := by simpa [headD] using hh
    clear hM hb hw hA1 hA2 hh
    generalize bs.length = n1 at *
    generalize ws.length = n2 at *
    go_enter Try.func56, Try.ntmps56
    go_wp2
    all_goals try simp only [beq_iff_eq, beq_eq_false_iff_ne, ne_eq, bne_iff_ne, bne_eq_false_iff_eq] at *
    all_goals first | (exfalso; omega) | skip
    all_goals go_ret
    all_goals exact ⟨rfl, (by repeat' (first | with_reducible exact Below.refl _ _ | with_reducible assumption | with_reducible apply Below.drew | with_reducible apply below_drewN | with_reducible refine Below.alloc ?_ ?_ _ | with_reducible refine Below.setCell ?_ ?_ _ | (simp; done) | (simp; omega) | omega))⟩
  case pos =>
    have hM : diskMay bs ws = (bs.all blkOk && ws.all wrOk) := by unfold diskMay; rw [hh]; rfl
    have hh' : bs.length = 256 ∧ ws.length ≤ 4096 := by simpa [headD] using hh
    obtain ⟨hn1, hn2⟩ := hh'
    rw [hM]
    clear hM hh
    have HB := Lib.hid hb
    have HW := Lib.hid hw
    have HTB := Lib.hid (all_take blkOk bs)
    have HTW := Lib.hid (all_take wrOk ws)
    have HBB := Lib.hid (fun k h => @all_bad _ blkOk bs k h)
    have HBW := Lib.hid (fun k h => @all_bad _ wrOk ws k h)
    have HE1 : Hid (bs.take bs.length = bs) := Lib.hid (List.take_length)
    have HE2 : Hid (ws.take ws.length = ws) := Lib.hid (List.take_length)
    obtain ⟨b1, o1, rfl, hb1⟩ := hA1 (by omega)
    clear hb hw hA1
    have hsm : bs.length < 1000 := by omega
    replace hn1 := Lib.hid hn1
    have hd1 : ((bs.length : Int) != 256) = false := by rw [bne_eq_false_iff_eq, hn1.out]; rfl
    have hd2 : decide ((ws.length : Int) > 4096) = false := decide_eq_false (by omega)
    go_enter Try.func56, Try.ntmps56
    go_wp2
    generalize hw1 : (World.alloc _ _) = w1
    have x1 : Ext w w1 := by rw [← hw1]; exact Ext.alloc _ _
    have r1 : w1.heap[w.heap.size]? = some (.cells #[.slice (some ⟨b1, o1, none⟩) bs.length c1, .slice A2 ws.length c2] 25 (0, 0)) := by rw [← hw1]; exact World.alloc_heap_at _ _ _ rfl
    clear hw1
    go_loopw [20] (fun i wr => ∃ k : Nat, k ≤ bs.length ∧ i = .int .i64 (k : Int) ∧ (bs.take k).all blkOk = true ∧ Ext w1 wr) (fun i _ => bs.length - (intOf i).toNat)
    case atStart => exact ⟨0, by omega, rfl, rfl, Ext.refl _⟩
    case round =>
      obtain ⟨k, hk, rfl, hok, hE⟩ := hrel
      have hEw := x1.trans hE
      by_cases hlt : k < bs.length
      · have hlt' := hlt
        obtain ⟨A', c', hc, _⟩ := ((HB.out.below hEw).more hEw.size).get k hlt
        have ht := HTB.out k hlt
        have hbd := HBB.out k hlt
        rw [hok, Bool.true_and] at ht
        replace ht := Lib.hid ht
        replace hbd := Lib.hid hbd
        have hbo : blkOk bs[k] = decide (bs[k].length = 128) := rfl
        replace hbo := Lib.hid hbo
        generalize blkOk bs[k] = q at *
        generalize bs[k].length = m at *
        by_cases hm : m = 128
        · obtain rfl : q = true := by rw [hbo.out, decide_eq_true hm]
          subst hm
          go_wp2
          go_roundw
          case rel => exact ⟨k + 1, by omega, by go_num, ht.out, hE⟩
          case measure => simp [intOf]; omega
        · obtain rfl : q = false := by rw [hbo.out, decide_eq_false hm]
          have hne : ((m : Int) != 128) = true := by rw [bne_iff_ne]; omega
          have hf := hbd.out rfl
          go_wp2
          go_ret
          exact ⟨by first | rfl | (rw [hf]; rfl), hEw⟩
      · obtain rfl : k = bs.length := by omega
        rw [HE1.out] at hok
        rw [hok]
        have rr := row_ext r1 hE
        have kr := cells_row rr
        clear HB HTB HBB r1 hd1 hd2
        go_wp2
        clear kr
        go_loopw [31] (fun i wq => ∃ k : Nat, k ≤ ws.length ∧ i = .int .i64 (k : Int) ∧ (ws.take k).all wrOk = true ∧ Ext wr wq) (fun i _ => ws.length - (intOf i).toNat)
        case atStart => exact ⟨0, by omega, rfl, rfl, Ext.refl _⟩
        case round =>
          obtain ⟨j, hj, rfl, hok2, hE2⟩ := hrel
          have hEq := hEw.trans hE2
          by_cases hlt2 : j < ws.length
          · have hlt2' := hlt2
            obtain ⟨b2, o2, rfl, hb2⟩ := hA2 (by omega)
            obtain ⟨A', c', hca, hcb, _⟩ := ((HW.out.below hEq).more hEq.size).get j hlt2
            have ht := HTW.out j hlt2
            have hbd := HBW.out j hlt2
            rw [hok2, Bool.true_and] at ht
            replace ht := Lib.hid ht
            replace hbd := Lib.hid hbd
            have hbo : wrOk ws[j] = decide (0 ≤ ws[j].1 ∧ ws[j].1 < 256 ∧ ws[j].2.length = 128) := rfl
            replace hbo := Lib.hid hbo
            generalize wrOk ws[j] = q at *
            generalize ws[j].1 = a at *
            generalize ws[j].2.length = m at *
            by_cases hm : 0 ≤ a ∧ a < 256 ∧ m = 128
            · obtain rfl : q = true := by rw [hbo.out, decide_eq_true hm]
              obtain ⟨ha1, ha2, rfl⟩ := hm
              have hda : decide (a < 0) = false := decide_eq_false (by omega)
              have hdb : decide (a ≥ 256) = false := decide_eq_false (by omega)
              go_wp2
              go_roundw
              case rel => exact ⟨j + 1, by omega, by go_num, ht.out, hE2.trans (Ext.alloc _ _)⟩
              case measure => simp [intOf]; omega
            · obtain rfl : q = false := by rw [hbo.out, decide_eq_false hm]
              have hf := hbd.out rfl
              have hfin : Below w.heap.size w _ := hEq
              go_wp2
              all_goals try simp only [beq_iff_eq, beq_eq_false_iff_ne, ne_eq, bne_iff_ne, bne_eq_false_iff_eq] at *
              all_goals first
                | (exfalso; omega)
                | (go_ret
                   exact ⟨by first | rfl | (rw [hf]; rfl), Below.alloc hEq (by have := hEq.size; omega) _⟩)
          · obtain rfl : j = ws.length := by omega
            rw [HE2.out] at hok2
            go_wp2
            go_ret
            exact ⟨by first | rfl | (rw [hok]; rfl) | (rw [hok2]; rfl) | (rw [hok, hok2]; rfl), hEq⟩
end Go.Proofs.Ytlgbjpihmkeopaa
/- Stores: may one be (of the program and of the document). -/
namespace Go.Proofs.Ytlgbjpihmkeopaa
set_option linter.unusedSimpArgs false
set_option linter.unusedVariables false
open Go.RowKit

def tabMay (t : List UInt8) : Bool := decide (t.length = 256) && zeros (t.take 8)
theorem Bys.take {w : World} {B : Nat} {A : Option Addr} {m c : Nat} {l : List UInt8} (h : Bys w B (.slice A m c) l) {k : Nat} (hk : k ≤ l.length) : Bys w B (.slice A k c) (l.take k) := by
  obtain ⟨A', c', e, hc, hm, hr⟩ := h
  cases e
  have hl : (l.take k).length = k := by simp; omega
  refine ⟨_, _, by rw [hl], by rw [hl]; omega, hm, ?_⟩
  rw [hl]
  have := hr.take hk
  rwa [Nat.mul_one, ← List.map_take] at this

set_option maxHeartbeats 1000000 in
theorem ccheck_any (v : Value) (t : List UInt8) (w : World) (h : Bys w w.heap.size v t) :
    Calls Try.prog 57 #[v] w (Ret (.int .i64 (errOf (tabMay t))) w) := by
  obtain ⟨A, m, c, rfl⟩ : ∃ A m c, v = .slice A m c := by obtain ⟨A, c, e, _⟩ := h; exact ⟨_, _, _, e⟩
  obtain ⟨e1, hc, hm, hA⟩ := h.at_
  subst e1
  by_cases h256 : t.length = 256
  · have hT : tabMay t = zeros (t.take 8) := by unfold tabMay; rw [decide_eq_true h256, Bool.true_and]
    rw [hT]
    have HM := Lib.hid (fun W (hW : Ext w W) => smax_any (.slice A 8 c) (t.take 8) (by simp; omega) (by simp; omega) W (((h.take (k := 8) (by omega)).below hW).more hW.size))
    have hz := maxB_zeros (t.take 8)
    have hml := maxB_lt (t.take 8)
    generalize maxB (t.take 8) = mx at *
    generalize zeros (t.take 8) = z at *
    clear hT h
    have hc8 : (8 : Int) ≤ (c : Int) := by omega
    have hd1 : ((t.length : Int) != 256) = false := by rw [bne_eq_false_iff_eq]; omega
    clear h256
    go_enter Try.func57, Try.ntmps57
    go_wp2_with fail
    refine (HM.out _ (Ext.refl _)).mono ?_
    rintro e w2 ⟨rfl, hB⟩
    clear HM
    cases z
    · have hm0 : 0 < mx := by simpa using hz
      go_wp2
      go_ret
      exact ⟨rfl, hB⟩
    · obtain rfl : mx = 0 := by simpa using hz
      go_wp2
      go_ret
      exact ⟨rfl, hB⟩
  · have hT : tabMay t = false := by unfold tabMay; rw [decide_eq_false h256]; rfl
    rw [hT]
    have hn1 : ((t.length : Int) != 256) = true := by rw [bne_iff_ne]; omega
    go_enter Try.func57, Try.ntmps57
    go_wp2
    go_ret
    exact ⟨rfl, Below.refl _ _⟩

end Go.Proofs.Ytlgbjpihmkeopaa
/- Stores: how they lie in memory; may one be; a block as it is seen. -/
namespace Go.Proofs.Ytlgbjpihmkeopaa
set_option linter.unusedSimpArgs false
set_option linter.unusedVariables false
open Go.RowKit

structure Sto where
  bs : List (List UInt8)
  ws : List (Int × List UInt8)
  now : List UInt8
  last : List UInt8
def storeMay (S : Sto) : Bool := diskMay S.bs S.ws && (tabMay S.now && tabMay S.last)
abbrev storeV (A1 : Option Addr) (n1 c1 : Nat) (A2 : Option Addr) (n2 c2 : Nat) (A3 : Option Addr) (n3 c3 : Nat) (A4 : Option Addr) (n4 c4 : Nat) : Value := .agg #[.slice A1 n1 c1, .slice A2 n2 c2, .slice A3 n3 c3, .slice A4 n4 c4]
structure StoAt (w : World) (B : Nat) (v1 v2 v3 v4 : Value) (S : Sto) : Prop where
  bs : Bls w B v1 S.bs
  ws : Wrs w B v2 S.ws
  now : Bys w B v3 S.now
  last : Bys w B v4 S.last
theorem StoAt.below {w w' : World} {B : Nat} {v1 v2 v3 v4 : Value} {S : Sto} (h : StoAt w B v1 v2 v3 v4 S) (hb : Below B w w') : StoAt w' B v1 v2 v3 v4 S := ⟨h.bs.below hb, h.ws.below hb, h.now.below hb, h.last.below hb⟩
theorem StoAt.more {w : World} {B B' : Nat} {v1 v2 v3 v4 : Value} {S : Sto} (h : StoAt w B v1 v2 v3 v4 S) (hb : B ≤ B') : StoAt w B' v1 v2 v3 v4 S := ⟨h.bs.more hb, h.ws.more hb, h.now.more hb, h.last.more hb⟩
theorem StoAt.ext {w w' : World} {v1 v2 v3 v4 : Value} {S : Sto} (h : StoAt w w.heap.size v1 v2 v3 v4 S) (hx : Ext w w') : StoAt w' w'.heap.size v1 v2 v3 v4 S := (h.below hx).more hx.size

set_option maxHeartbeats 2000000 in
theorem rcheck_any (A1 : Option Addr) (n1 c1 : Nat) (A2 : Option Addr) (n2 c2 : Nat) (A3 : Option Addr) (n3 c3 : Nat) (A4 : Option Addr) (n4 c4 : Nat) (S : Sto) (w : World) (h : StoAt w w.heap.size (.slice A1 n1 c1) (.slice A2 n2 c2) (.slice A3 n3 c3) (.slice A4 n4 c4) S) :
    Calls Try.prog 29 #[storeV A1 n1 c1 A2 n2 c2 A3 n3 c3 A4 n4 c4] w (Ret (.int .i64 (errOf (storeMay S))) w) := by
  have HD := Lib.hid (fun W (hW : Ext w W) => dcheck_any A1 n1 c1 A2 n2 c2 S.bs S.ws W (h.ext hW).bs (h.ext hW).ws)
  have HN := Lib.hid (fun W (hW : Ext w W) => ccheck_any (.slice A3 n3 c3) S.now W (h.ext hW).now)
  have HL := Lib.hid (fun W (hW : Ext w W) => ccheck_any (.slice A4 n4 c4) S.last W (h.ext hW).last)
  have hS : storeMay S = (diskMay S.bs S.ws && (tabMay S.now && tabMay S.last)) := rfl
  rw [hS]
  clear hS h
  generalize diskMay S.bs S.ws = d at *
  generalize tabMay S.now = n at *
  generalize tabMay S.last = l at *
  go_enter Try.func29, Try.ntmps29
  go_wp2_with fail
  generalize hw1 : (World.alloc _ _) = w1
  have x1 : Ext w w1 := by rw [← hw1]; exact Ext.alloc _ _
  have r1 : w1.heap[w.heap.size]? = some (.cells #[.slice A1 n1 c1, .slice A2 n2 c2, .slice A3 n3 c3, .slice A4 n4 c4] 28 (0, 0)) := by rw [← hw1]; exact World.alloc_heap_at _ _ _ rfl
  clear hw1
  refine (HD.out _ x1).mono ?_
  rintro e w2 ⟨rfl, hB⟩
  have x2 := x1.trans hB
  have r2 := row_ext r1 hB
  have k2 := cells_row r2
  clear hB r1 x1 HD
  cases d
  · go_wp2
    go_ret
    exact ⟨rfl, x2⟩
  · go_wp2_with fail
    refine (HN.out _ x2).mono ?_
    rintro e w3 ⟨rfl, hB⟩
    have x3 := x2.trans hB
    have r3 := row_ext r2 hB
    have k3 := cells_row r3
    clear hB r2 x2 k2 HN
    cases n
    · go_wp2
      go_ret
      exact ⟨rfl, x3⟩
    · go_wp2_with fail
      refine (HL.out _ x3).mono ?_
      rintro e w4 ⟨rfl, hB⟩
      have x4 := x3.trans hB
      clear hB r3 x3 k3 HL
      cases l
      all_goals
        go_wp2
        go_ret
        exact ⟨rfl, x4⟩

def lastTo (ws : List (Int × List UInt8)) (a : Int) : Option (List UInt8) := (ws.reverse.find? fun p => p.1 == a).map (·.2)
def seenB (S : Sto) (a : Nat) : List UInt8 := match lastTo S.ws a with | some l => l | none => S.bs[a]?.getD []
theorem lastTo_take {ws : List (Int × List UInt8)} {a : Int} {k : Nat} (h : k < ws.length) : lastTo (ws.take (k + 1)) a = if ws[k].1 = a then some ws[k].2 else lastTo (ws.take k) a := by
  unfold lastTo
  rw [List.take_succ_eq_append_getElem h, List.reverse_append, List.reverse_singleton, List.singleton_append, List.find?_cons]
  by_cases h1 : ws[k].1 = a
  · rw [if_pos h1]; simp [h1]
  · rw [if_neg h1]
    have : (ws[k].1 == a) = false := by simpa using h1
    rw [this]

end Go.Proofs.Ytlgbjpihmkeopaa
/- Contracts: the document's node at a block of a store. -/
namespace Go.Proofs.Ytlgbjpihmkeopaa
set_option linter.unusedSimpArgs false
set_option linter.unusedVariables false
open Go.RowKit

def nodeAt (S : Sto) (a : Nat) : Option (Int × List It) := if (S.now[a]?.getD 0).toNat = 0 then none else nodeRead (seenB S a)
theorem storeMay_len {S : Sto} (h : storeMay S = true) : S.bs.length = 256 ∧ S.ws.length ≤ 4096 ∧ S.now.length = 256 ∧ S.last.length = 256 := by
  unfold storeMay diskMay headD tabMay at h
  simp at h
  omega
end Go.Proofs.Ytlgbjpihmkeopaa
/- Contracts: a store on a bench. -/
namespace Go.Proofs.Ytlgbjpihmkeopaa
set_option linter.unusedSimpArgs false
set_option linter.unusedVariables false
open Go.RowKit

set_option maxHeartbeats 1000000 in
theorem clip_any (A : Option Addr) (n c : Nat) (hn : n ≤ c) (hc : c ≤ maxLen) (w : World) :
    Calls Try.prog 101 #[.slice A n c] w (Ret (.slice A n n) w) := by
  unfold maxLen at hc
  go_enter Try.func101, Try.ntmps101
  have h1 : (n : Int) ≤ (c : Int) := by omega
  have h2 : (0 : Int) ≤ (n : Int) := by omega
  go_wp2
  go_ret
  exact ⟨rfl, Below.refl _ _⟩

def OnB (lo b : Nat) (v1 v2 v3 v4 : Value) (S : Sto) (W : World) : Prop := lo ≤ b ∧ W.heap[b]? = some (.cells #[v1, v2, v3, v4] 169 (0, 0)) ∧ StoAt W W.heap.size v1 v2 v3 v4 S
theorem Wrs.clip {w : World} {B : Nat} {A : Option Addr} {n c : Nat} {ws : List (Int × List UInt8)} (h : Wrs w B (.slice A n c) ws) : Wrs w B (.slice A n n) ws := by
  obtain ⟨ps, e, ⟨A', c', e1, e2, e3, hr⟩, hp⟩ := h
  cases e1
  exact ⟨ps, e, ⟨_, _, rfl, Nat.le_refl _, by omega, hr⟩, hp⟩

set_option maxHeartbeats 2000000 in
set_option maxRecDepth 100000 in
theorem on_any (A1 : Option Addr) (n1 c1 : Nat) (A2 : Option Addr) (n2 c2 : Nat) (A3 : Option Addr) (n3 c3 : Nat) (A4 : Option Addr) (n4 c4 : Nat) (S : Sto) (hl : S.now.length < 1073741824) (w : World) (h : StoAt w w.heap.size (.slice A1 n1 c1) (.slice A2 n2 c2) (.slice A3 n3 c3) (.slice A4 n4 c4) S) :
    Calls Try.prog 76 #[storeV A1 n1 c1 A2 n2 c2 A3 n3 c3 A4 n4 c4] w (RetS (fun u W => ∃ b A3' c3', u = .pointer (some ⟨b, 0, none⟩) ∧ OnB w.heap.size b (.slice A1 n1 c1) (.slice A2 n2 n2) (.slice A3' n3 c3') (.slice A4 n4 c4) S W ∧ From w.heap.size (.slice A3' n3 c3')) w) := by
  have hn3 : Hid (n3 = S.now.length) := Lib.hid h.now.at_.1
  obtain ⟨-, h2a, h2b, -⟩ := h.ws.at_
  have HC := Lib.hid (fun W (hW : Ext w W) => bclone_any (.slice A3 n3 c3) S.now hl W (h.ext hW).now)
  replace h := Lib.hid h
  go_enter Try.func76, Try.ntmps76
  go_wp2_with fail
  generalize hw1 : (World.alloc _ _) = w1
  have x1 : Ext w w1 := by rw [← hw1]; exact Ext.alloc _ _
  have r1 : w1.heap[w.heap.size]? = some (.cells #[.slice A1 n1 c1, .slice A2 n2 c2, .slice A3 n3 c3, .slice A4 n4 c4] 28 (0, 0)) := by rw [← hw1]; exact World.alloc_heap_at _ _ _ rfl
  clear hw1
  refine (HC.out _ x1).mono ?_
  rintro e w2 ⟨u, rfl, hu, hB⟩
  have x2 := x1.trans hB
  have r2 := row_ext r1 hB
  have hby := Bys.of_own hu
  have hfr := From.of_own hu
  have s1 : w.heap.size < w1.heap.size := (Array.getElem?_eq_some_iff.1 r1).1
  obtain ⟨A3', c3', rfl, _, _⟩ := own_slice hu
  have k2 := cells_row r2
  have f2 := frozen_row r2
  clear hB r1 HC hu
  rw [← hn3.out] at hby hfr ⊢
  go_wp2_with fail
  have hby3 := hby.setCell hfr (p := ⟨w.heap.size, 2, none⟩) s1 (.slice A3' n3 c3')
  generalize hw3 : (World.setCell _ _ _) = w3 at *
  have x3 : Ext w w3 := by rw [← hw3]; exact Below.setCell x2 (p := ⟨w.heap.size, 2, none⟩) (Nat.le_refl _) _
  have r3 : w3.heap[w.heap.size]? = some (.cells #[.slice A1 n1 c1, .slice A2 n2 c2, .slice A3' n3 c3', .slice A4 n4 c4] 28 (0, 0)) := by rw [← hw3]; exact row_set r2 2 _
  have hz3 : w3.heap.size = w2.heap.size := by rw [← hw3]; simp
  rw [← hz3] at hby3
  clear hw3 k2 f2 r2 x2 hby
  refine (clip_any A2 n2 c2 h2a h2b _).mono ?_
  rintro e w4 ⟨rfl, hB⟩
  have x4 := x3.trans hB
  have r4 := row_ext r3 hB
  have hby4 := (hby3.below hB).more hB.size
  have k4 := cells_row r4
  have f4 := frozen_row r4
  have s4 : w.heap.size < w4.heap.size := (Array.getElem?_eq_some_iff.1 r4).1
  clear hB r3 x3 hby3
  go_wp2
  have hfrw : From w.heap.size (.slice A3' n3 c3') := hfr.mono (by omega)
  have hby5 := hby4.setCell hfr (p := ⟨w.heap.size, 1, none⟩) s1 (.slice A2 n2 n2)
  have bf : Below w.heap.size w ((w4.setCell ⟨w.heap.size, 1, none⟩ (.slice A2 n2 n2)).alloc (.cells #[.slice A1 n1 c1, .slice A2 n2 n2, .slice A3' n3 c3', .slice A4 n4 c4] 169)) := by
    have x4' : Below w.heap.size w w4 := x4
    exact (by repeat' (first | with_reducible exact Below.refl _ _ | with_reducible assumption | with_reducible apply Below.drew | with_reducible apply below_drewN | with_reducible refine Below.alloc ?_ ?_ _ | with_reducible refine Below.setCell ?_ ?_ _ | (simp; done) | (simp; omega) | omega))
  go_ret
  refine ⟨_, rfl, ⟨w4.heap.size, A3', c3', rfl, ⟨by omega, World.alloc_heap_at _ _ _ (by simp), ?_⟩, hfrw⟩, bf⟩
  have h0 := (h.out.below bf).more bf.size
  refine ⟨h0.bs, h0.ws.clip, ?_, h0.last⟩
  exact (hby5.below (Below.alloc (Below.refl _ _) (by simp) _)).more (by simp)
end Go.Proofs.Ytlgbjpihmkeopaa
/- slices.Backward over writes: what its iterator hands to a loop's body. -/
namespace Go.Proofs.Ytlgbjpihmkeopaa
set_option linter.unusedSimpArgs false
set_option linter.unusedVariables false
open Go.RowKit Go.Shelf

attribute [local go_sem] Oper.semAt_some

abbrev Sl : Type := Option Addr × Nat × Nat
abbrev sv (s : Sl) : Value := .slice s.1 s.2.1 s.2.2
abbrev W2 : Type := Int × Sl
abbrev w2z : W2 := (0, none, 0, 0)

set_option maxRecDepth 100000 in
set_option maxHeartbeats 1000000 in
theorem backW_in (n : Nat) (hn : 1 ≤ n) (l Bs b off len cap : Nat) (us : List W2) (hreach : len < 1099511627776) (J Jx : List (Nat × W2) → World → Prop)
    (hY : ∀ pre x W, J pre W → pre.length < len → YieldAt Fence.wide (n - 1) Try.prog l #[.int .i64 (x.1 : Int), .agg #[.int .i64 x.2.1, sv x.2.2]] W fun e W' =>
      (e = .returned (.bool true) ∧ J (pre ++ [x]) W' ∧ Keep2 Bs b W W') ∨ (e = .returned (.bool false) ∧ Jx (pre ++ [x]) W'))
    (W : World) (hBs : W.cell? ⟨Bs, 0, none⟩ = some (.slice (some ⟨b, off, none⟩) len cap)) (hc : ∀ i, i < len → W.cell? ⟨b, off + i * 2, none⟩ = some (.int .i64 (us[i]?.getD w2z).1) ∧ W.cell? ⟨b, off + i * 2 + 1, none⟩ = some (sv (us[i]?.getD w2z).2)) (h0 : J [] W) :
    CallsIn Fence.wide n Try.prog 146 #[.func (.yield l) #[] #[], .pointer (some ⟨Bs, 0, none⟩)] W fun e W' => (∃ v, e = .returned v) ∧
      ((∃ ys, ys = upto (fun j => (len - 1 - j, us[len - 1 - j]?.getD w2z)) len ∧ J ys W') ∨ (∃ pre, (∃ k, k ≤ len ∧ pre = upto (fun j => (len - 1 - j, us[len - 1 - j]?.getD w2z)) k) ∧ Jx pre W')) := by
  refine callsIn_of_wp Try.func146 rfl trivial ?_ rfl
  simp only [Try.ntmps146, List.size_toArray, List.length_cons, List.length_nil, Nat.reduceAdd, Nat.reduceSub, Array.replicate_succ, Array.replicate_zero, List.push_toArray, List.append_toArray, List.nil_append, List.cons_append]
  gi_wp2
  gi_loopw [3] (fun i wr => ∃ k : Nat, k ≤ len ∧ i = .int .i64 ((len : Int) - 1 - k) ∧ J (upto (fun j => (len - 1 - j, us[len - 1 - j]?.getD w2z)) k) wr ∧ Keep2 Bs b W wr)
    (fun i _ => (intOf i + 1).toNat)
  case atStart => exact ⟨0, Nat.zero_le _, by simp, h0, Keep2.refl _ _ _⟩
  case round =>
    obtain ⟨k, hk, rfl, hJs, hnx⟩ := hrel
    have hBr : wr.cell? ⟨Bs, 0, none⟩ = some (.slice (some ⟨b, off, none⟩) len cap) := (World.cell?_of_block (w := W) hnx.1).trans hBs
    by_cases hlt : k < len
    · have hcx := (World.cell?_of_block (w := W) (a := ⟨b, off + (len - 1 - k) * 2, none⟩) hnx.2).trans (hc (len - 1 - k) (by omega)).1
      have hcy := (World.cell?_of_block (w := W) (a := ⟨b, off + (len - 1 - k) * 2 + 1, none⟩) hnx.2).trans (hc (len - 1 - k) (by omega)).2
      obtain ⟨fn, tmps, assign, body, hy, hR⟩ := hY _ (len - 1 - k, us[len - 1 - k]?.getD w2z) wr hJs (by rw [upto_length]; exact hlt)
      dsimp only at hy
      obtain ⟨i, hi⟩ : ∃ i : Nat, len - 1 - k = i := ⟨_, rfl⟩
      have hi2 : (len : Int) - 1 - k = (i : Int) := by omega
      have hil : i < len := by omega
      have hik : k + i + 1 ≤ len ∧ len ≤ k + i + 1 := by omega
      have HU := Lib.hid (upto_succ (fun j => (len - 1 - j, us[len - 1 - j]?.getD w2z)) k)
      obtain ⟨u, hu⟩ : ∃ u, us[i]?.getD w2z = u := ⟨_, rfl⟩
      rw [hi] at hcx hcy hy hR
      rw [hu] at hcx hcy hy hR
      rw [hi2]
      clear hi2
      have HE := Lib.hid hu
      clear hu
      have HI := Lib.hid hi
      clear hi
      gi_wp2
      refine hR.mono ?_
      rintro e W3 (⟨rfl, hJ3, hk3⟩ | ⟨rfl, hJx3⟩)
      · gi_wp2
        go_roundw
        case rel => exact ⟨k + 1, by omega, by go_num, by rw [HU.out, HI.out, HE.out]; exact hJ3, hnx.t hk3⟩
        case measure => simp [intOf]
      · gi_wp2
        refine bodyPost_ret (results_none rfl _ _ _) rfl ?_
        exact ⟨⟨_, rfl⟩, .inr ⟨_, ⟨k + 1, by omega, by rw [HU.out, HI.out, HE.out]⟩, hJx3⟩⟩
    · obtain rfl : k = len := by omega
      gi_wp2
      go_end0
      exact ⟨⟨_, rfl⟩, .inl ⟨_, rfl, hJs⟩⟩

set_option maxRecDepth 100000 in
set_option maxHeartbeats 1000000 in
theorem backW_nil_in (n l Bs c : Nat) (A : Option Addr) (J : List (Nat × W2) → World → Prop) (W : World) (hBs : W.cell? ⟨Bs, 0, none⟩ = some (.slice A 0 c)) (h0 : J [] W) :
    CallsIn Fence.wide n Try.prog 146 #[.func (.yield l) #[] #[], .pointer (some ⟨Bs, 0, none⟩)] W fun e W' => (∃ v, e = .returned v) ∧ J [] W' := by
  refine callsIn_of_wp Try.func146 rfl trivial ?_ rfl
  simp only [Try.ntmps146, List.size_toArray, List.length_cons, List.length_nil, Nat.reduceAdd, Nat.reduceSub, Array.replicate_succ, Array.replicate_zero, List.push_toArray, List.append_toArray, List.nil_append, List.cons_append]
  gi_wp2
  gi_loopw [3] (fun i wr => i = .int .i64 (-1) ∧ J [] wr) (fun _ _ => 0)
  case atStart => exact ⟨rfl, h0⟩
  case round =>
    obtain ⟨rfl, hJs⟩ := hrel
    gi_wp2
    go_end0
    exact ⟨⟨_, rfl⟩, hJs⟩

def backsW (us : List W2) (k : Nat) : List (Nat × W2) := upto (fun j => (us.length - 1 - j, us[us.length - 1 - j]?.getD w2z)) k
def SW (W : World) (Bs b : Nat) (v : Value) (us : List W2) : Prop :=
  W.cell? ⟨Bs, 0, none⟩ = some v ∧ ((us = [] ∧ ∃ A c, v = .slice A 0 c) ∨ ∃ off cap, v = .slice (some ⟨b, off, none⟩) us.length cap ∧ ∀ i, i < us.length → W.cell? ⟨b, off + i * 2, none⟩ = some (.int .i64 (us[i]?.getD w2z).1) ∧ W.cell? ⟨b, off + i * 2 + 1, none⟩ = some (sv (us[i]?.getD w2z).2))
theorem SW.keep {W W' : World} {Bs b : Nat} {v : Value} {us : List W2} (h : SW W Bs b v us) (hk : Keep2 Bs b W W') : SW W' Bs b v us := by
  refine ⟨(World.cell?_of_block (w := W) hk.1).trans h.1, ?_⟩
  rcases h.2 with h | ⟨off, cap, e, hc⟩
  · exact .inl h
  · exact .inr ⟨off, cap, e, fun i hi => ⟨(World.cell?_of_block (w := W) hk.2).trans (hc i hi).1, (World.cell?_of_block (w := W) hk.2).trans (hc i hi).2⟩⟩

theorem backW_stops (n : Nat) (hn : 1 ≤ n) (Bs b : Nat) (v : Value) (us : List W2) (hreach : us.length < 1099511627776) (w : World) (hBs : Bs < w.heap.size) (hb : b < w.heap.size) (hS : SW w Bs b v us) :
    SeqStopsK Fence.wide n Try.prog 146 #[.pointer (some ⟨Bs, 0, none⟩)] (fun x : Nat × W2 => #[.int .i64 (x.1 : Int), .agg #[.int .i64 x.2.1, sv x.2.2]]) (Keep2 Bs b) (fun ys => ys = backsW us us.length)
      (fun pre => ∃ k, k ≤ us.length ∧ pre = backsW us k) us.length w := fun l J Jx W hW _ _ hY h0 => by
  obtain ⟨hc, h⟩ := hS.keep (Keep2.below hW hBs hb)
  rcases h with ⟨rfl, A, c, rfl⟩ | ⟨off, cap, rfl, hcs⟩
  · exact (backW_nil_in n l Bs c A J W hc h0).mono fun e W' ⟨he, hj⟩ => ⟨he, .inl ⟨_, rfl, hj⟩⟩
  · exact backW_in n hn l Bs b off us.length cap us hreach J Jx hY W hc hcs h0

set_option maxHeartbeats 1000000 in
theorem backwardW_any (A : Option Addr) (m c : Nat) (w : World) :
    Calls Try.prog 123 #[.slice A m c] w (fun e w' => e = .returned (.func (.func 146) #[] #[.pointer (some ⟨w.heap.size, 0, none⟩)]) ∧ w' = w.alloc (.cells #[.slice A m c] 23)) := by
  go_enter Try.func123, Try.ntmps123
  go_wp2
  go_ret
  exact ⟨rfl, rfl⟩
end Go.Proofs.Ytlgbjpihmkeopaa
