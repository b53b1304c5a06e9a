/- Texts TwinW, DiskR, Room, Short, DTwinW, joined. -/
import Derived.Deep.Slices
import Derived.Test.YteikcgjhcniiiaaU04
import Derived.Test.YteikcgjhcniiiaaU06
import Derived.Test.YteikcgjhcniiiaaU10
import Derived.Test.YteikcgjhcniiiaaU11
/- Twins of disks: plain words. -/
namespace Go.Proofs.Yteikcgjhcniiiaa
set_option linter.unusedSimpArgs false
set_option linter.unusedVariables false
open Go.RowKit

theorem Try.info_bytes : (Try.prog.info? 26).map (fun i => (i.zero, i.size, i.bytes)) = some (some (.slice none 0 0), 1, 24) := by kernel_rfl
theorem Try.info_write : (Try.prog.info? 141).map (fun i => (i.zero, i.size, i.bytes)) = some (some (.agg #[.int .i64 0, .slice none 0 0]), 2, 32) := by kernel_rfl
/-- the cells of a block's slice, of a write -/
abbrev gB (_ : List UInt8) (u : Value) : List Value := [u]
abbrev gW (p : Int × List UInt8) (u : Value) : List Value := [.int .i64 p.1, u]
theorem RowX.bls {base lo : Nat} {e : TypeId} {w : World} {v : Value} {ps : List (List UInt8 × Value)} (h : RowX base lo e 1 gB id w v ps) : Bls w w.heap.size v (ps.map (·.1)) := by
  obtain ⟨A, c, rfl, h1, h2⟩ := own_slice h.1
  have hf : (ps.flatMap fun p => gB p.1 p.2) = ps.map (·.2) := by
    have : ∀ l : List (List UInt8 × Value), (l.flatMap fun p => gB p.1 p.2) = l.map (·.2) := by
      intro l
      induction l with
      | nil => rfl
      | cons p r ih => simp only [List.flatMap_cons, List.map_cons, ih]; rfl
    exact this ps
  have hr := Rd.of_own h.1
  rw [hf] at hr
  refine ⟨ps.map (·.2), A, c, by rw [List.length_map], by rw [List.length_map]; exact h1, h2, by rw [List.length_map]; exact hr, fun i u l hu hl => ?_⟩
  rw [List.getElem?_map] at hu hl
  cases hp : ps[i]? with
  | none => rw [hp] at hu; cases hu
  | some p =>
    rw [hp] at hu hl
    cases hu
    cases hl
    exact (h.2 p (List.mem_of_getElem? hp)).2.1
theorem RowX.wrs {base lo : Nat} {e : TypeId} {w : World} {v : Value} {ps : List ((Int × List UInt8) × Value)} (h : RowX base lo e 2 gW (·.2) w v ps) : Wrs w w.heap.size v (ps.map (·.1)) := by
  obtain ⟨A, c, rfl, h1, h2⟩ := own_slice h.1
  have hf : (ps.flatMap fun p => gW p.1 p.2) = cells2 ps := by
    have : ∀ l : List ((Int × List UInt8) × Value), (l.flatMap fun p => gW p.1 p.2) = cells2 l := by
      intro l
      induction l with
      | nil => rfl
      | cons p r ih => simp only [List.flatMap_cons, cells2, ih]; rfl
    exact this ps
  have hr := Rd.of_own h.1
  rw [hf] at hr
  exact ⟨ps, rfl, ⟨A, c, by rw [List.length_map], by rw [List.length_map]; exact h1, h2, by rw [List.length_map]; exact hr⟩, fun p hp => ⟨(h.2 p hp).1.1, (h.2 p hp).2.1⟩⟩
theorem Rd.keepN {w W : World} {B size lo n c : Nat} {A : Option Addr} {xs : List Value} (h : Rd w B size A n xs) (hf : From lo (.slice A n c)) (hk : ∀ q : Addr, lo ≤ q.block → q.block < B → W.cell? q = w.cell? q) : Rd W B size A n xs :=
  ⟨h.1, fun hn => by
    obtain ⟨b, off, e, hb, hc⟩ := h.2 hn
    subst e
    exact ⟨b, off, rfl, hb, fun j u hu => (hk ⟨b, off + j, none⟩ (hf ⟨b, off, none⟩ n c rfl) hb).trans (hc j u hu)⟩⟩
theorem Bys.keepN {w W : World} {B lo : Nat} {v : Value} {l : List UInt8} (h : Bys w B v l) (hf : From lo v) (hk : ∀ q : Addr, lo ≤ q.block → q.block < B → W.cell? q = w.cell? q) : Bys W B v l := by
  obtain ⟨A, c, e, hc, hm, hr⟩ := h
  subst e
  exact ⟨A, c, rfl, hc, hm, hr.keepN hf hk⟩
/-- what was made reads the same wherever the cells from lo on are the same -/
theorem RowX.blsN {base lo : Nat} {e : TypeId} {w W : World} {v : Value} {ps : List (List UInt8 × Value)} (h : RowX base lo e 1 gB id w v ps) (hl : lo ≤ base) (hk : ∀ q : Addr, lo ≤ q.block → q.block < w.heap.size → W.cell? q = w.cell? q) : Bls W w.heap.size v (ps.map (·.1)) := by
  obtain ⟨A, c, rfl, h1, h2⟩ := own_slice h.1
  have hf : (ps.flatMap fun p => gB p.1 p.2) = ps.map (·.2) := by
    have : ∀ l : List (List UInt8 × Value), (l.flatMap fun p => gB p.1 p.2) = l.map (·.2) := by
      intro l
      induction l with
      | nil => rfl
      | cons p r ih => simp only [List.flatMap_cons, List.map_cons, ih]; rfl
    exact this ps
  have hr := (Rd.of_own h.1).keepN ((From.of_own h.1).mono hl) hk
  rw [hf] at hr
  refine ⟨ps.map (·.2), A, c, by rw [List.length_map], by rw [List.length_map]; exact h1, h2, by rw [List.length_map]; exact hr, fun i u l hu hl => ?_⟩
  rw [List.getElem?_map] at hu hl
  cases hp : ps[i]? with
  | none => rw [hp] at hu; cases hu
  | some p =>
    rw [hp] at hu hl
    cases hu
    cases hl
    have hm := h.2 p (List.mem_of_getElem? hp)
    exact hm.2.1.keepN hm.1.2 hk
theorem RowX.wrsN {base lo : Nat} {e : TypeId} {w W : World} {v : Value} {ps : List ((Int × List UInt8) × Value)} (h : RowX base lo e 2 gW (·.2) w v ps) (hl : lo ≤ base) (hk : ∀ q : Addr, lo ≤ q.block → q.block < w.heap.size → W.cell? q = w.cell? q) : Wrs W w.heap.size v (ps.map (·.1)) := by
  obtain ⟨A, c, rfl, h1, h2⟩ := own_slice h.1
  have hf : (ps.flatMap fun p => gW p.1 p.2) = cells2 ps := by
    have : ∀ l : List ((Int × List UInt8) × Value), (l.flatMap fun p => gW p.1 p.2) = cells2 l := by
      intro l
      induction l with
      | nil => rfl
      | cons p r ih => simp only [List.flatMap_cons, cells2, ih]; rfl
    exact this ps
  have hr := (Rd.of_own h.1).keepN ((From.of_own h.1).mono hl) hk
  rw [hf] at hr
  exact ⟨ps, rfl, ⟨A, c, by rw [List.length_map], by rw [List.length_map]; exact h1, h2, by rw [List.length_map]; exact hr⟩, fun p hp => ⟨(h.2 p hp).1.1, (h.2 p hp).2.1.keepN (h.2 p hp).1.2 hk⟩⟩
/-- what lies below a block lies apart from what was made from it on -/
theorem Apart.of_bys {w : World} {B : Nat} {v u : Value} {l : List UInt8} (h : Bys w B u l) (hv : ∀ g, v.ownBlock = some g → B ≤ g) : Apart v u := by
  intro a n c e hn hx
  obtain ⟨A', c', e', _, _, hr⟩ := h
  rw [e] at e'
  simp only [Value.slice.injEq] at e'
  obtain ⟨e1, e2, _⟩ := e'
  obtain ⟨b, off, e3, hbb, _⟩ := hr.2 (by omega)
  rw [← e1] at e3
  simp only [Option.some.injEq] at e3
  have := hv _ hx
  rw [e3] at this
  simp at this
  omega
/-- a write of a new slice -/
def outW (lo : Nat) (n : Int) (l : List UInt8) : Outs := ⟨Option Addr × Nat, fun p => .agg #[.int .i64 n, .slice p.1 l.length p.2], fun p W => Bys W W.heap.size (.slice p.1 l.length p.2) l ∧ From lo (.slice p.1 l.length p.2)⟩
theorem outW_f (lo : Nat) (n : Int) (l : List UInt8) (A : Option Addr) (c : Nat) : (outW lo n l).f (A, c) = .agg #[.int .i64 n, .slice A l.length c] := rfl
theorem outW_stableX {base : Nat} {e : TypeId} {size lo : Nat} {v : Value} {n : Nat} {xs : List Value} {f : Value → List Value} {l : List UInt8} {lo' : Nat} {m : Int} {l' : List UInt8} (hlo : ∀ g, v.ownBlock = some g → g < lo') : ∀ p, StableG (appX base e size lo v n xs f l) ((outW lo' m l').φ p) := fun p _ _ he h =>
  ⟨h.1.grown he.1 (Apart.of_from h.2 hlo), h.2⟩
theorem RowX.other {α : Type} {base lo : Nat} {e : TypeId} {size : Nat} {g : α → Value → List Value} {by_ : α → List UInt8} {w W : World} {v : Value} {ps : List (α × Value)} {row : Option Nat} (h : RowX base lo e size g by_ w v ps) (hg : w.grownBy W row) (h1 : ∀ k, v.ownBlock = some k → row ≠ some k) (h2 : ∀ p ∈ ps, ∀ a n c, p.2 = .slice (some a) n c → 0 < n → row ≠ some a.block) : RowX base lo e size g by_ W v ps := by
  refine ⟨⟨h.1.1, ?_⟩, fun p hp => ⟨(h.2 p hp).1, (h.2 p hp).2.1.grown hg (h2 p hp), (h.2 p hp).2.2⟩⟩
  rcases h.1.2 with h0 | ⟨g', cap', cur', rfl, hbg', hg', hnc', hcm', hcs', htk'⟩
  · exact .inl h0
  · exact .inr ⟨g', cap', cur', rfl, hbg', (hg.block g' (Array.getElem?_eq_some_iff.1 hg').1 (fun x => h1 g' rfl x.symm)).trans hg', hnc', hcm', hcs', htk'⟩
theorem RowX.low {α : Type} {base lo : Nat} {e : TypeId} {size : Nat} {g : α → Value → List Value} {by_ : α → List UInt8} {w : World} {v : Value} {ps : List (α × Value)} (h : RowX base lo e size g by_ w v ps) : ∀ p ∈ ps, ∀ a n c, p.2 = .slice (some a) n c → 0 < n → a.block < w.heap.size := by
  intro p hp a n c e hn
  obtain ⟨A', c', e', _, _, hr⟩ := (h.2 p hp).2.1
  rw [e] at e'
  simp only [Value.slice.injEq] at e'
  obtain ⟨e1, e2, _⟩ := e'
  obtain ⟨b, off, e3, hbb, _⟩ := hr.2 (by omega)
  rw [← e1] at e3
  simp only [Option.some.injEq] at e3
  rw [e3]
  exact hbb
theorem hardAt_litX {P : Program} {base : Nat} {e : TypeId} {size lo : Nat} {v : Value} {n : Nat} {xs : List Value} {f : Value → List Value} {l : List UInt8} {o : Oper} {a : Act} {W : World} {lo' : Nat} {ty : TypeId} {A : Option Addr} {c : Nat}
    (hr : (execOp a.eval o).run P W = .ok (.value (.slice (some ⟨W.heap.size, 0, none⟩) 1 1)) (W.alloc (.cells (f (.slice A l.length c)).toArray ty))) (hlo : lo' ≤ W.heap.size) (hb : Bys W W.heap.size (.slice A l.length c) l) (hf : From lo' (.slice A l.length c)) :
    hardAtG (appX base e size lo v n xs f l) P o a W (outLitX lo' ty f l) := by
  unfold hardAtG
  rw [hr]
  exact ⟨W.heap.size, rfl, ⟨hlo, A, c, World.alloc_heap_at _ _ _ rfl, (hb.below (Ext.alloc _ _)).more (Ext.alloc _ _).size, hf⟩, appX_ext (Ext.alloc _ _)⟩
/-- append([]byte(nil), l...), in whatever came behind -/
theorem run_twin {W : World} {A : Option Addr} {c : Nat} {l : List UInt8} (h : Bys W W.heap.size (.slice A l.length c) l) (hl : l.length < 1000000) :
    ∃ p : Option Addr × Nat, ∃ w', (Builtin.append_ #[26, 26] 26 #[.slice none 0 0, .slice A l.length c]).run Try.prog W = .ok (.slice p.1 l.length p.2) w' ∧ ((outB W.heap.size l.length l).φ p w') ∧ Ext W w' := by
  obtain ⟨i0, hi, hz0, hz1, hz2⟩ := info_parts Try.info_u8
  obtain ⟨A', c', e, hc, hm, hr⟩ := h
  cases e
  obtain ⟨v', w', hrun, hown, hg, hB, _⟩ := run_append_rd (P := Try.prog) W W.heap.size 26 26 5 i0 (.int .u8 0) 1 1 Try.underlying26 hi hz0 hz1 hz2 rfl (by decide) (.slice none 0 0) 0 [] (World.ownsRow_nil _ _ _ _) W.heap.size A l.length c (l.map bv) hr (bvs_one l) (by omega) (by decide) (Nat.le_refl _)
  simp only [Nat.zero_add, List.nil_append] at hown
  obtain ⟨A2, c2, rfl, _, _⟩ := own_slice hown
  exact ⟨(A2, c2), w', hrun, ⟨Bys.of_own hown, From.of_own hown⟩, hB⟩
/-- a twin on the way: the blocks -/
structure TwB (bs : List (List UInt8)) (w : World) (t3 : Nat) (i : Value) (wr : World) : Prop where
  ex : ∃ (k : Nat) (ps : List (List UInt8 × Value)) (A : Option Addr) (c : Nat), k ≤ bs.length ∧ i = .int .i64 (k : Int) ∧ ps.map (·.1) = bs.take k ∧ wr.heap[t3]? = some (.cells #[.slice A k c, .slice none 0 0] 25 (0, 0)) ∧
    RowX (t3 + 1) (t3 + 1) 26 1 gB id wr (.slice A k c) ps ∧ Below t3 w wr
/-- the writes -/
structure TwW (bs : List (List UInt8)) (ws : List (Int × List UInt8)) (w : World) (t3 : Nat) (i : Value) (wr : World) : Prop where
  ex : ∃ (k : Nat) (qs : List (List UInt8 × Value)) (ps : List ((Int × List UInt8) × Value)) (A1 : Option Addr) (c1 : Nat) (A : Option Addr) (c : Nat) (base : Nat), k ≤ ws.length ∧ i = .int .i64 (k : Int) ∧ qs.map (·.1) = bs ∧ ps.map (·.1) = ws.take k ∧ wr.heap[t3]? = some (.cells #[.slice A1 bs.length c1, .slice A k c] 25 (0, 0)) ∧
    RowX (t3 + 1) (t3 + 1) 26 1 gB id wr (.slice A1 bs.length c1) qs ∧ RowX base base 141 2 gW (·.2) wr (.slice A k c) ps ∧ (t3 < base ∧ base ≤ wr.heap.size) ∧ (∀ g, (Value.slice A1 bs.length c1).ownBlock = some g → g < base) ∧ (∀ q ∈ qs, ∀ a n c, q.2 = .slice (some a) n c → 0 < n → a.block < base) ∧ Below t3 w wr
end Go.Proofs.Yteikcgjhcniiiaa
/- Stores: may one be (of the program and of the document). -/
namespace Go.Proofs.Yteikcgjhcniiiaa
set_option linter.unusedSimpArgs false
set_option linter.unusedVariables false
open Go.RowKit

set_option maxHeartbeats 4000000 in
theorem dmay_any (A1 : Option Addr) (n1 c1 : Nat) (A2 : Option Addr) (n2 c2 : Nat) (bs : List (List UInt8)) (ws : List (Int × List UInt8)) (w : World) (hb : Bls w w.heap.size (.slice A1 n1 c1) bs) (hw : Wrs w w.heap.size (.slice A2 n2 c2) ws) :
    Calls Try.prog 85 #[diskV A1 n1 c1 A2 n2 c2] w (Ret (.bool (diskMay bs ws)) w) := by
  obtain ⟨e1, hc1, hm1, hA1⟩ := hb.at_
  obtain ⟨e2, hc2, hm2, hA2⟩ := hw.at_
  subst e1
  subst e2
  by_cases hh : headD bs.length ws.length = true
  case neg =>
    have hM : diskMay bs ws = false := by unfold diskMay; rw [show headD bs.length ws.length = false by simpa using hh]; rfl
    rw [hM]
    have hh' : ¬(bs.length = 256 ∧ ws.length ≤ 4096) := by simpa [headD] using hh
    clear hM hb hw hA1 hA2 hh
    generalize bs.length = n1 at *
    generalize ws.length = n2 at *
    go_enter Try.func85, Try.ntmps85
    go_wp2
    all_goals try simp only [beq_iff_eq, beq_eq_false_iff_ne, ne_eq, bne_iff_ne, bne_eq_false_iff_eq] at *
    all_goals first | (exfalso; omega) | skip
    all_goals go_ret
    all_goals exact ⟨rfl, (by repeat' (first | with_reducible exact Below.refl _ _ | with_reducible assumption | with_reducible apply Below.drew | with_reducible apply below_drewN | with_reducible refine Below.alloc ?_ ?_ _ | with_reducible refine Below.setCell ?_ ?_ _ | (simp; done) | (simp; omega) | omega))⟩
  case pos =>
    have hM : diskMay bs ws = (bs.all blkOk && ws.all wrOk) := by unfold diskMay; rw [hh]; rfl
    have hh' : bs.length = 256 ∧ ws.length ≤ 4096 := by simpa [headD] using hh
    obtain ⟨hn1, hn2⟩ := hh'
    rw [hM]
    clear hM hh
    have HB := Lib.hid hb
    have HW := Lib.hid hw
    have HTB := Lib.hid (all_take blkOk bs)
    have HTW := Lib.hid (all_take wrOk ws)
    have HBB := Lib.hid (fun k h => @all_bad _ blkOk bs k h)
    have HBW := Lib.hid (fun k h => @all_bad _ wrOk ws k h)
    have HE1 : Hid (bs.take bs.length = bs) := Lib.hid (List.take_length)
    have HE2 : Hid (ws.take ws.length = ws) := Lib.hid (List.take_length)
    obtain ⟨b1, o1, rfl, hb1⟩ := hA1 (by omega)
    clear hb hw hA1
    have hsm : bs.length < 1000 := by omega
    replace hn1 := Lib.hid hn1
    have hd1 : ((bs.length : Int) != 256) = false := by rw [bne_eq_false_iff_eq, hn1.out]; rfl
    have hd2 : decide ((ws.length : Int) > 4096) = false := decide_eq_false (by omega)
    go_enter Try.func85, Try.ntmps85
    go_wp2
    generalize hw1 : (World.alloc _ _) = w1
    have x1 : Ext w w1 := by rw [← hw1]; exact Ext.alloc _ _
    have r1 : w1.heap[w.heap.size]? = some (.cells #[.slice (some ⟨b1, o1, none⟩) bs.length c1, .slice A2 ws.length c2] 25 (0, 0)) := by rw [← hw1]; exact World.alloc_heap_at _ _ _ rfl
    clear hw1
    go_loopw [3] (fun i wr => ∃ k : Nat, k ≤ bs.length ∧ i = .int .i64 (k : Int) ∧ (bs.take k).all blkOk = true ∧ Ext w1 wr) (fun i _ => bs.length - (intOf i).toNat)
    case atStart => exact ⟨0, by omega, rfl, rfl, Ext.refl _⟩
    case round =>
      obtain ⟨k, hk, rfl, hok, hE⟩ := hrel
      have hEw := x1.trans hE
      have rr := row_ext r1 hE
      have kr := cells_row rr
      by_cases hlt : k < bs.length
      · have hlt' := hlt
        obtain ⟨A', c', hc, _⟩ := ((HB.out.below hEw).more hEw.size).get k hlt
        have ht := HTB.out k hlt
        have hbd := HBB.out k hlt
        rw [hok, Bool.true_and] at ht
        replace ht := Lib.hid ht
        replace hbd := Lib.hid hbd
        have hbo : blkOk bs[k] = decide (bs[k].length = 128) := rfl
        replace hbo := Lib.hid hbo
        generalize blkOk bs[k] = q at *
        generalize bs[k].length = m at *
        by_cases hm : m = 128
        · obtain rfl : q = true := by rw [hbo.out, decide_eq_true hm]
          subst hm
          go_wp2
          go_roundw
          case rel => exact ⟨k + 1, by omega, by go_num, ht.out, hE⟩
          case measure => simp [intOf]; omega
        · obtain rfl : q = false := by rw [hbo.out, decide_eq_false hm]
          have hne : ((m : Int) != 128) = true := by rw [bne_iff_ne]; omega
          have hf := hbd.out rfl
          go_wp2
          go_ret
          exact ⟨by first | rfl | (rw [hf]; rfl), hEw⟩
      · obtain rfl : k = bs.length := by omega
        rw [HE1.out] at hok
        rw [hok]
        clear HB HTB HBB r1 hd1 hd2
        go_wp2
        clear kr
        go_loopw [4] (fun i wq => ∃ k : Nat, k ≤ ws.length ∧ i = .int .i64 (k : Int) ∧ (ws.take k).all wrOk = true ∧ Ext wr wq) (fun i _ => ws.length - (intOf i).toNat)
        case atStart => exact ⟨0, by omega, rfl, rfl, Ext.refl _⟩
        case round =>
          obtain ⟨j, hj, rfl, hok2, hE2⟩ := hrel
          have hEq := hEw.trans hE2
          have kr := cells_row (row_ext rr hE2)
          by_cases hlt2 : j < ws.length
          · have hlt2' := hlt2
            obtain ⟨b2, o2, rfl, hb2⟩ := hA2 (by omega)
            obtain ⟨A', c', hca, hcb, _⟩ := ((HW.out.below hEq).more hEq.size).get j hlt2
            have ht := HTW.out j hlt2
            have hbd := HBW.out j hlt2
            rw [hok2, Bool.true_and] at ht
            replace ht := Lib.hid ht
            replace hbd := Lib.hid hbd
            have hbo : wrOk ws[j] = decide (0 ≤ ws[j].1 ∧ ws[j].1 < 256 ∧ ws[j].2.length = 128) := rfl
            replace hbo := Lib.hid hbo
            generalize wrOk ws[j] = q at *
            generalize ws[j].1 = a at *
            generalize ws[j].2.length = m at *
            by_cases hm : 0 ≤ a ∧ a < 256 ∧ m = 128
            · obtain rfl : q = true := by rw [hbo.out, decide_eq_true hm]
              obtain ⟨ha1, ha2, rfl⟩ := hm
              have hda : decide (a < 0) = false := decide_eq_false (by omega)
              have hdb : decide (a ≥ 256) = false := decide_eq_false (by omega)
              go_wp2
              go_roundw
              case rel => exact ⟨j + 1, by omega, by go_num, ht.out, hE2⟩
              case measure => simp [intOf]; omega
            · obtain rfl : q = false := by rw [hbo.out, decide_eq_false hm]
              have hf := hbd.out rfl
              go_wp2
              all_goals try simp only [beq_iff_eq, beq_eq_false_iff_ne, ne_eq, bne_iff_ne, bne_eq_false_iff_eq] at *
              all_goals first
                | (exfalso; omega)
                | (go_ret
                   exact ⟨by first | rfl | (rw [hf]; rfl), hEq⟩)
          · obtain rfl : j = ws.length := by omega
            rw [HE2.out] at hok2
            go_wp2
            go_ret
            exact ⟨by first | rfl | (rw [hok]; rfl) | (rw [hok2]; rfl) | (rw [hok, hok2]; rfl), hEq⟩

/-- may a table be? -/
def tabMay (t : List UInt8) : Bool := decide (t.length = 256) && zeros (t.take 8)
theorem Bys.take {w : World} {B : Nat} {A : Option Addr} {m c : Nat} {l : List UInt8} (h : Bys w B (.slice A m c) l) {k : Nat} (hk : k ≤ l.length) : Bys w B (.slice A k c) (l.take k) := by
  obtain ⟨A', c', e, hc, hm, hr⟩ := h
  cases e
  have hl : (l.take k).length = k := by simp; omega
  refine ⟨_, _, by rw [hl], by rw [hl]; omega, hm, ?_⟩
  rw [hl]
  have := hr.take hk
  rwa [Nat.mul_one, ← List.map_take] at this

set_option maxHeartbeats 1000000 in
theorem ccheck_any (v : Value) (t : List UInt8) (w : World) (h : Bys w w.heap.size v t) :
    Calls Try.prog 62 #[v] w (Ret (.int .i64 (errOf (tabMay t))) w) := by
  obtain ⟨A, m, c, rfl⟩ : ∃ A m c, v = .slice A m c := by obtain ⟨A, c, e, _⟩ := h; exact ⟨_, _, _, e⟩
  obtain ⟨e1, hc, hm, hA⟩ := h.at_
  subst e1
  by_cases h256 : t.length = 256
  · have hT : tabMay t = zeros (t.take 8) := by unfold tabMay; rw [decide_eq_true h256, Bool.true_and]
    rw [hT]
    have HM := Lib.hid (fun W (hW : Ext w W) => smax_any (.slice A 8 c) (t.take 8) (by simp; omega) (by simp; omega) W (((h.take (k := 8) (by omega)).below hW).more hW.size))
    have hz := maxB_zeros (t.take 8)
    have hml := maxB_lt (t.take 8)
    generalize maxB (t.take 8) = mx at *
    generalize zeros (t.take 8) = z at *
    clear hT h
    have hc8 : (8 : Int) ≤ (c : Int) := by omega
    have hd1 : ((t.length : Int) != 256) = false := by rw [bne_eq_false_iff_eq]; omega
    clear h256
    go_enter Try.func62, Try.ntmps62
    go_wp2_with fail
    refine (HM.out _ (Ext.refl _)).mono ?_
    rintro e w2 ⟨rfl, hB⟩
    clear HM
    cases z
    · have hm0 : 0 < mx := by simpa using hz
      go_wp2
      go_ret
      exact ⟨rfl, hB⟩
    · obtain rfl : mx = 0 := by simpa using hz
      go_wp2
      go_ret
      exact ⟨rfl, hB⟩
  · have hT : tabMay t = false := by unfold tabMay; rw [decide_eq_false h256]; rfl
    rw [hT]
    have hn1 : ((t.length : Int) != 256) = true := by rw [bne_iff_ne]; omega
    go_enter Try.func62, Try.ntmps62
    go_wp2
    go_ret
    exact ⟨rfl, Below.refl _ _⟩

set_option maxHeartbeats 1000000 in
theorem cmay_any (v : Value) (t : List UInt8) (w : World) (h : Bys w w.heap.size v t) :
    Calls Try.prog 86 #[v] w (Ret (.bool (tabMay t)) w) := by
  obtain ⟨A, m, c, rfl⟩ : ∃ A m c, v = .slice A m c := by obtain ⟨A, c, e, _⟩ := h; exact ⟨_, _, _, e⟩
  obtain ⟨e1, hc, hm, hA⟩ := h.at_
  subst e1
  by_cases h256 : t.length = 256
  · have hT : tabMay t = zeros (t.take 8) := by unfold tabMay; rw [decide_eq_true h256, Bool.true_and]
    rw [hT]
    obtain ⟨A', c', e, _, _, hr⟩ := h
    cases e
    obtain ⟨b, off, rfl, hb, hcell⟩ := hr.2 (by omega)
    have HC := Lib.hid (fun k (hk : k < t.length) => hcell k (.int .u8 (t[k].toNat : Int)) (by rw [List.getElem?_map, List.getElem?_eq_getElem hk]; rfl))
    have HS := Lib.hid (fun k (hk : k < t.length) => all_take (· == (0 : UInt8)) t k hk)
    have HBad : Hid (∀ k (hk : k < t.length), k < 8 → (t[k] == (0 : UInt8)) = false → zeros (t.take 8) = false) := Lib.hid (fun k hk h8 hx => by
      unfold zeros
      rw [List.all_eq_false]
      refine ⟨t[k], ?_, by simpa using hx⟩
      exact List.mem_take_iff_getElem.2 ⟨k, by omega, rfl⟩)
    have HZ : Hid (zeros (t.take 8) = (t.take 8).all (· == (0 : UInt8))) := rfl
    have hd1 : ((t.length : Int) != 256) = false := by rw [bne_eq_false_iff_eq]; omega
    have hsm : 256 ≤ t.length := by omega
    clear hcell hr hT h256
    go_enter Try.func86, Try.ntmps86
    go_wp2
    go_loopw [3] (fun i wr => ∃ k : Nat, k ≤ 8 ∧ i = .int .i64 (k : Int) ∧ (t.take k).all (· == (0 : UInt8)) = true ∧ Ext w wr) (fun i _ => 8 - (intOf i).toNat)
    case atStart => exact ⟨0, by omega, rfl, rfl, Ext.refl _⟩
    case round =>
      obtain ⟨k, hk, rfl, hok, hE⟩ := hrel
      by_cases hlt : k < 8
      · have hlt' := hlt
        have hkt : k < t.length := by omega
        have hcl := Ext.cell hE (HC.out k hkt)
        have ht := HS.out k hkt
        rw [hok, Bool.true_and] at ht
        have hbad := HBad.out k hkt hlt
        replace ht := Lib.hid ht
        replace hbad := Lib.hid hbad
        have hx0 : (t[k] == (0 : UInt8)) = decide (t[k].toNat = 0) := by
          rw [Bool.eq_iff_iff]
          simp
          constructor
          · intro h; rw [h]; rfl
          · intro h; exact UInt8.toNat.inj h
        rw [hx0] at ht hbad
        clear hx0
        generalize t[k].toNat = x at *
        by_cases hx : x = 0
        · subst hx
          go_wp2
          go_roundw
          case rel => exact ⟨k + 1, by omega, by go_num, by rw [ht.out]; rfl, hE⟩
          case measure => simp [intOf]; omega
        · have hne : ((x : Int) != 0) = true := by rw [bne_iff_ne]; omega
          have hf := hbad.out (decide_eq_false hx)
          go_wp2
          go_ret
          exact ⟨by first | rfl | (rw [hf]; rfl), hE⟩
      · obtain rfl : k = 8 := by omega
        go_wp2
        go_ret
        exact ⟨by rw [HZ.out, hok]; rfl, hE⟩
  · have hT : tabMay t = false := by unfold tabMay; rw [decide_eq_false h256]; rfl
    rw [hT]
    have hn1 : ((t.length : Int) != 256) = true := by rw [bne_iff_ne]; omega
    go_enter Try.func86, Try.ntmps86
    go_wp2
    go_ret
    exact ⟨rfl, Below.refl _ _⟩
end Go.Proofs.Yteikcgjhcniiiaa
/- Stores: how they lie in memory; may one be; a block as it is seen. -/
namespace Go.Proofs.Yteikcgjhcniiiaa
set_option linter.unusedSimpArgs false
set_option linter.unusedVariables false
open Go.RowKit

/-- a store -/
structure Sto where
  bs : List (List UInt8)
  ws : List (Int × List UInt8)
  now : List UInt8
  last : List UInt8
def storeMay (S : Sto) : Bool := diskMay S.bs S.ws && (tabMay S.now && tabMay S.last)
abbrev storeV (A1 : Option Addr) (n1 c1 : Nat) (A2 : Option Addr) (n2 c2 : Nat) (A3 : Option Addr) (n3 c3 : Nat) (A4 : Option Addr) (n4 c4 : Nat) : Value := .agg #[.slice A1 n1 c1, .slice A2 n2 c2, .slice A3 n3 c3, .slice A4 n4 c4]
/-- the four slices of a store read so -/
structure StoAt (w : World) (B : Nat) (v1 v2 v3 v4 : Value) (S : Sto) : Prop where
  bs : Bls w B v1 S.bs
  ws : Wrs w B v2 S.ws
  now : Bys w B v3 S.now
  last : Bys w B v4 S.last
theorem StoAt.below {w w' : World} {B : Nat} {v1 v2 v3 v4 : Value} {S : Sto} (h : StoAt w B v1 v2 v3 v4 S) (hb : Below B w w') : StoAt w' B v1 v2 v3 v4 S := ⟨h.bs.below hb, h.ws.below hb, h.now.below hb, h.last.below hb⟩
theorem StoAt.more {w : World} {B B' : Nat} {v1 v2 v3 v4 : Value} {S : Sto} (h : StoAt w B v1 v2 v3 v4 S) (hb : B ≤ B') : StoAt w B' v1 v2 v3 v4 S := ⟨h.bs.more hb, h.ws.more hb, h.now.more hb, h.last.more hb⟩
theorem StoAt.ext {w w' : World} {v1 v2 v3 v4 : Value} {S : Sto} (h : StoAt w w.heap.size v1 v2 v3 v4 S) (hx : Ext w w') : StoAt w' w'.heap.size v1 v2 v3 v4 S := (h.below hx).more hx.size

set_option maxHeartbeats 2000000 in
theorem rcheck_any (A1 : Option Addr) (n1 c1 : Nat) (A2 : Option Addr) (n2 c2 : Nat) (A3 : Option Addr) (n3 c3 : Nat) (A4 : Option Addr) (n4 c4 : Nat) (S : Sto) (w : World) (h : StoAt w w.heap.size (.slice A1 n1 c1) (.slice A2 n2 c2) (.slice A3 n3 c3) (.slice A4 n4 c4) S) :
    Calls Try.prog 33 #[storeV A1 n1 c1 A2 n2 c2 A3 n3 c3 A4 n4 c4] w (Ret (.int .i64 (errOf (storeMay S))) w) := by
  have HD := Lib.hid (fun W (hW : Ext w W) => dcheck_any A1 n1 c1 A2 n2 c2 S.bs S.ws W (h.ext hW).bs (h.ext hW).ws)
  have HN := Lib.hid (fun W (hW : Ext w W) => ccheck_any (.slice A3 n3 c3) S.now W (h.ext hW).now)
  have HL := Lib.hid (fun W (hW : Ext w W) => ccheck_any (.slice A4 n4 c4) S.last W (h.ext hW).last)
  have hS : storeMay S = (diskMay S.bs S.ws && (tabMay S.now && tabMay S.last)) := rfl
  rw [hS]
  clear hS h
  generalize diskMay S.bs S.ws = d at *
  generalize tabMay S.now = n at *
  generalize tabMay S.last = l at *
  go_enter Try.func33, Try.ntmps33
  go_wp2_with fail
  generalize hw1 : (World.alloc _ _) = w1
  have x1 : Ext w w1 := by rw [← hw1]; exact Ext.alloc _ _
  have r1 : w1.heap[w.heap.size]? = some (.cells #[.slice A1 n1 c1, .slice A2 n2 c2, .slice A3 n3 c3, .slice A4 n4 c4] 28 (0, 0)) := by rw [← hw1]; exact World.alloc_heap_at _ _ _ rfl
  clear hw1
  refine (HD.out _ x1).mono ?_
  rintro e w2 ⟨rfl, hB⟩
  have x2 := x1.trans hB
  have r2 := row_ext r1 hB
  have k2 := cells_row r2
  clear hB r1 x1 HD
  cases d
  · go_wp2
    go_ret
    exact ⟨rfl, x2⟩
  · go_wp2_with fail
    refine (HN.out _ x2).mono ?_
    rintro e w3 ⟨rfl, hB⟩
    have x3 := x2.trans hB
    have r3 := row_ext r2 hB
    have k3 := cells_row r3
    clear hB r2 x2 k2 HN
    cases n
    · go_wp2
      go_ret
      exact ⟨rfl, x3⟩
    · go_wp2_with fail
      refine (HL.out _ x3).mono ?_
      rintro e w4 ⟨rfl, hB⟩
      have x4 := x3.trans hB
      clear hB r3 x3 k3 HL
      cases l
      all_goals
        go_wp2
        go_ret
        exact ⟨rfl, x4⟩

set_option maxHeartbeats 2000000 in
theorem rmay_any (A1 : Option Addr) (n1 c1 : Nat) (A2 : Option Addr) (n2 c2 : Nat) (A3 : Option Addr) (n3 c3 : Nat) (A4 : Option Addr) (n4 c4 : Nat) (S : Sto) (w : World) (h : StoAt w w.heap.size (.slice A1 n1 c1) (.slice A2 n2 c2) (.slice A3 n3 c3) (.slice A4 n4 c4) S) :
    Calls Try.prog 53 #[storeV A1 n1 c1 A2 n2 c2 A3 n3 c3 A4 n4 c4] w (Ret (.bool (storeMay S)) w) := by
  have HD := Lib.hid (fun W (hW : Ext w W) => dmay_any A1 n1 c1 A2 n2 c2 S.bs S.ws W (h.ext hW).bs (h.ext hW).ws)
  have HN := Lib.hid (fun W (hW : Ext w W) => cmay_any (.slice A3 n3 c3) S.now W (h.ext hW).now)
  have HL := Lib.hid (fun W (hW : Ext w W) => cmay_any (.slice A4 n4 c4) S.last W (h.ext hW).last)
  have hS : storeMay S = (diskMay S.bs S.ws && (tabMay S.now && tabMay S.last)) := rfl
  rw [hS]
  clear hS h
  generalize diskMay S.bs S.ws = d at *
  generalize tabMay S.now = n at *
  generalize tabMay S.last = l at *
  go_enter Try.func53, Try.ntmps53
  go_wp2_with fail
  generalize hw1 : (World.alloc _ _) = w1
  have x1 : Ext w w1 := by rw [← hw1]; exact Ext.alloc _ _
  have r1 : w1.heap[w.heap.size]? = some (.cells #[.slice A1 n1 c1, .slice A2 n2 c2, .slice A3 n3 c3, .slice A4 n4 c4] 28 (0, 0)) := by rw [← hw1]; exact World.alloc_heap_at _ _ _ rfl
  clear hw1
  refine (HD.out _ x1).mono ?_
  rintro e w2 ⟨rfl, hB⟩
  have x2 := x1.trans hB
  have r2 := row_ext r1 hB
  have k2 := cells_row r2
  clear hB r1 x1 HD
  cases d
  · go_wp2
    go_ret
    exact ⟨rfl, x2⟩
  · go_wp2_with fail
    refine (HN.out _ x2).mono ?_
    rintro e w3 ⟨rfl, hB⟩
    have x3 := x2.trans hB
    have r3 := row_ext r2 hB
    have k3 := cells_row r3
    clear hB r2 x2 k2 HN
    cases n
    · go_wp2
      go_ret
      exact ⟨rfl, x3⟩
    · go_wp2_with fail
      refine (HL.out _ x3).mono ?_
      rintro e w4 ⟨rfl, hB⟩
      have x4 := x3.trans hB
      clear hB r3 x3 k3 HL
      cases l
      all_goals
        go_wp2
        go_ret
        exact ⟨rfl, x4⟩

/-- the last one of writes that goes to a block -/
def lastTo (ws : List (Int × List UInt8)) (a : Int) : Option (List UInt8) := (ws.reverse.find? fun p => p.1 == a).map (·.2)
/-- a block as it is seen -/
def seenB (S : Sto) (a : Nat) : List UInt8 := match lastTo S.ws a with | some l => l | none => S.bs[a]?.getD []
theorem lastTo_take {ws : List (Int × List UInt8)} {a : Int} {k : Nat} (h : k < ws.length) : lastTo (ws.take (k + 1)) a = if ws[k].1 = a then some ws[k].2 else lastTo (ws.take k) a := by
  unfold lastTo
  rw [List.take_succ_eq_append_getElem h, List.reverse_append, List.reverse_singleton, List.singleton_append, List.find?_cons]
  by_cases h1 : ws[k].1 = a
  · rw [if_pos h1]; simp [h1]
  · rw [if_neg h1]
    have : (ws[k].1 == a) = false := by simpa using h1
    rw [this]

set_option maxHeartbeats 2000000 in
theorem seen_any (A1 : Option Addr) (n1 c1 : Nat) (A2 : Option Addr) (n2 c2 : Nat) (S : Sto) (a : Nat) (ha : a < S.bs.length) (hw4 : S.ws.length ≤ 4096) (w : World) (hb : Bls w w.heap.size (.slice A1 n1 c1) S.bs) (hw : Wrs w w.heap.size (.slice A2 n2 c2) S.ws) :
    Calls Try.prog 110 #[diskV A1 n1 c1 A2 n2 c2, .int .i64 (a : Int)] w (RetS (fun u W => Bys W W.heap.size u (seenB S a)) w) := by
  obtain ⟨e1, hc1, hm1, hA1⟩ := hb.at_
  obtain ⟨e2, hc2, hm2, hA2⟩ := hw.at_
  subst e1
  subst e2
  have HB := Lib.hid hb
  have HW := Lib.hid hw
  have HL := Lib.hid (fun k (h : k < S.ws.length) => @lastTo_take S.ws a k h)
  have HE : Hid (S.ws.take S.ws.length = S.ws) := Lib.hid (List.take_length)
  have HS : Hid (seenB S a = match lastTo S.ws a with | some l => l | none => S.bs[a]?.getD []) := rfl
  obtain ⟨b1, o1, rfl, hb1⟩ := hA1 (by omega)
  have ha1 : S.bs[a]?.getD [] = S.bs[a] := by rw [List.getElem?_eq_getElem ha]; rfl
  rw [ha1] at HS
  clear hb hw hA1 ha1
  unfold maxLen at hm1
  go_enter Try.func110, Try.ntmps110
  go_wp2
  generalize hw1 : (World.alloc _ _) = w1
  have x1 : Ext w w1 := by rw [← hw1]; exact Ext.alloc _ _
  have r1 : w1.heap[w.heap.size]? = some (.cells #[.slice (some ⟨b1, o1, none⟩) S.bs.length c1, .slice A2 S.ws.length c2] 25 (0, 0)) := by rw [← hw1]; exact World.alloc_heap_at _ _ _ rfl
  clear hw1
  go_loopw [5] (fun i wr => ∃ k : Nat, k ≤ S.ws.length ∧ i = .int .i64 ((k : Int) - 1) ∧ lastTo S.ws a = lastTo (S.ws.take k) a ∧ Ext w1 wr) (fun i _ => (intOf i + 1).toNat)
  case atStart => exact ⟨S.ws.length, by omega, by go_num, by rw [HE.out], Ext.refl _⟩
  case round =>
    obtain ⟨k, hk, rfl, hok, hE⟩ := hrel
    have hEw := x1.trans hE
    have rr := row_ext r1 hE
    have kr := cells_row rr
    rcases k with _ | k
    · have hnone : lastTo S.ws a = none := by rw [hok]; rfl
      have hsb : seenB S a = S.bs[a] := by rw [HS.out, hnone]
      obtain ⟨A', c', hc, hby⟩ := ((HB.out.below hEw).more hEw.size).get a ha
      replace hsb := Lib.hid hsb
      replace hok := Lib.hid hok
      clear hnone
      go_wp2
      go_ret
      exact ⟨_, rfl, by rw [hsb.out]; exact hby, hEw⟩
    · have hlt : k < S.ws.length := by omega
      have hlt' := hlt
      obtain ⟨b2, o2, rfl, hb2⟩ := hA2 (by omega)
      obtain ⟨A', c', hca, hcb, hby⟩ := ((HW.out.below hEw).more hEw.size).get k hlt
      have hl := HL.out k hlt
      have hsn : S.ws[k].1 = (a : Int) → seenB S a = S.ws[k].2 := fun h => by rw [HS.out, hok, hl, if_pos h]
      have hsk : ¬ S.ws[k].1 = (a : Int) → lastTo S.ws a = lastTo (S.ws.take k) a := fun h => by rw [hok, hl, if_neg h]
      replace hok := Lib.hid hok
      replace hby := Lib.hid hby
      replace hsn := Lib.hid hsn
      replace hsk := Lib.hid hsk
      clear hl
      have hk1 : ((k + 1 : Nat) : Int) - 1 = (k : Int) := by omega
      rw [hk1]
      generalize S.ws[k].1 = q at *
      generalize S.ws[k].2 = l at *
      by_cases hq : q = (a : Int)
      · have hs := hsn.out hq
        have hqe : (q == (a : Int)) = true := by rw [beq_iff_eq]; exact hq
        replace hs := Lib.hid hs
        subst hq
        go_wp2
        go_ret
        exact ⟨_, rfl, by rw [hs.out]; exact hby.out, hEw⟩
      · have hqe : (q == (a : Int)) = false := by rw [beq_eq_false_iff_ne]; exact hq
        have hs := hsk.out hq
        replace hs := Lib.hid hs
        go_wp2
        go_roundw
        case rel => exact ⟨k, by omega, by go_num, hs.out, hE⟩
        case measure => first | (simp [intOf]; done) | (simp [intOf]; omega)
end Go.Proofs.Yteikcgjhcniiiaa
/- Stores without slices too long to be copied; a store in new memory. -/
namespace Go.Proofs.Yteikcgjhcniiiaa
set_option linter.unusedSimpArgs false
set_option linter.unusedVariables false
open Go.RowKit

/-- no slice of it is too long to be copied -/
structure Short (S : Sto) : Prop where
  bs : S.bs.length < 1000000
  ws : S.ws.length < 1000000
  be : ∀ l ∈ S.bs, l.length < 1000000
  we : ∀ p ∈ S.ws, p.2.length < 1000000
  now : S.now.length < 1000000
  last : S.last.length < 1000000
/-- a store in new memory (from block lo on): it reads so wherever the cells from there on are the same -/
def TwinS (lo : Nat) (S : Sto) (u : Value) (W : World) : Prop := ∃ A1 c1 A2 c2 A3 c3 A4 c4, u = storeV A1 S.bs.length c1 A2 S.ws.length c2 A3 S.now.length c3 A4 S.last.length c4 ∧ ∀ W2 : World, (∀ q : Addr, lo ≤ q.block → q.block < W.heap.size → W2.cell? q = W.cell? q) → StoAt W2 W.heap.size (.slice A1 S.bs.length c1) (.slice A2 S.ws.length c2) (.slice A3 S.now.length c3) (.slice A4 S.last.length c4) S

end Go.Proofs.Yteikcgjhcniiiaa
/- A disk's twin that the program makes: plain words. -/
namespace Go.Proofs.Yteikcgjhcniiiaa
set_option linter.unusedSimpArgs false
set_option linter.unusedVariables false
open Go.RowKit Go.Deep

/-- a slice cut out of block g, ahead of place F, that reads as l -/
def InG (w : World) (g F : Nat) (v : Value) (l : List UInt8) : Prop := ∃ o, v = .slice (some ⟨g, o, none⟩) l.length l.length ∧ o + l.length ≤ F ∧ ∀ j u, (l.map bv)[j]? = some u → w.cell? ⟨g, o + j, none⟩ = some u
section
variable {w w' : World} {g F : Nat} {v : Value} {l : List UInt8}
theorem InG.keep (h : InG w g F v l) (hk : w'.heap[g]? = w.heap[g]?) : InG w' g F v l := by
  obtain ⟨o, e, h1, h2⟩ := h
  exact ⟨o, e, h1, fun j u hu => (World.cell?_of_block hk).trans (h2 j u hu)⟩
theorem InG.step {cur : Array Value} {t : TypeId} {l' : List UInt8} {o : Nat} (h : InG w g F v l) (hr : w.heap[g]? = some (.cells cur t (0, 0))) (hr' : w'.heap[g]? = some (.cells (laidAt cur o l') t (0, 0))) (hfit : o + l'.length ≤ cur.size) (ho : o = F ∨ l'.length = 0) : InG w' g (F + l'.length) v l := by
  obtain ⟨o1, e, h1, h2⟩ := h
  refine ⟨o1, e, by omega, fun j u hu => ?_⟩
  have hj : j < l.length := by
    have := (List.getElem?_eq_some_iff.1 hu).1
    simpa using this
  have := h2 j u hu
  rw [cells_row hr] at this
  rw [cells_row hr', laidAt_old hfit (by rcases ho with ho | ho <;> omega)]
  exact this
theorem InG.new {cur : Array Value} {t : TypeId} {o : Nat} (hr : w'.heap[g]? = some (.cells (laidAt cur o l) t (0, 0))) (hfit : o + l.length ≤ cur.size) (ho : o ≤ F) : InG w' g (F + l.length) (.slice (some ⟨g, o, none⟩) l.length l.length) l :=
  ⟨o, rfl, by omega, fun j u hu => by rw [cells_row hr]; exact laidAt_new hfit hu⟩
theorem InG.bys {B : Nat} (h : InG w g F v l) (hg : g < B) (hl : l.length ≤ maxLen) : Bys w B v l := by
  obtain ⟨o, e, h1, h2⟩ := h
  exact ⟨_, _, e, Nat.le_refl _, hl, by simp, fun _ => ⟨g, o, rfl, hg, h2⟩⟩
theorem InG.cells {W2 : World} (h : InG w g F v l) (hk : ∀ j, W2.cell? ⟨g, j, none⟩ = w.cell? ⟨g, j, none⟩) : InG W2 g F v l := by
  obtain ⟨o, e, h1, h2⟩ := h
  exact ⟨o, e, h1, fun j u hu => (hk _).trans (h2 j u hu)⟩
end
/-- how many bytes some blocks have -/
def totL (ls : List (List UInt8)) : Nat := (ls.map List.length).sum
theorem totL_take {ls : List (List UInt8)} {k : Nat} (h : k < ls.length) : totL (ls.take (k + 1)) = totL (ls.take k) + ls[k].length := by
  unfold totL
  rw [List.take_succ_eq_append_getElem h, List.map_append, List.sum_append]
  simp
theorem totL_split (ls : List (List UInt8)) (k : Nat) : totL (ls.take k) + totL (ls.drop k) = totL ls := by
  unfold totL
  rw [← List.sum_append, ← List.map_append, List.take_append_drop]
theorem totL_le {ls : List (List UInt8)} (h : ∀ l ∈ ls, l.length < 1000000) : totL ls ≤ ls.length * 1000000 := by
  induction ls with
  | nil => simp [totL]
  | cons l r ih =>
    have h1 := ih fun x hx => h x (List.mem_cons_of_mem _ hx)
    have h2 := h l List.mem_cons_self
    simp only [totL, List.map_cons, List.sum_cons, List.length_cons] at h1 ⊢
    omega
theorem totL_take_le (ls : List (List UInt8)) (k : Nat) : totL (ls.take k) ≤ totL ls := by have := totL_split ls k; omega
/-- nothing old is turned but blocks hb and g -/
def chgRel (hb g : Nat) : Rel where
  rel W W' := W'.os = W.os ∧ W'.tape = W.tape ∧ W'.output = W.output ∧ W.heap.size ≤ W'.heap.size ∧ ∀ b, b < W.heap.size → b ≠ hb → b ≠ g → W'.heap[b]? = W.heap[b]?
  refl' w := ⟨rfl, rfl, rfl, Nat.le_refl _, fun _ _ _ _ => rfl⟩
  trans' h k := ⟨k.1.trans h.1, k.2.1.trans h.2.1, k.2.2.1.trans h.2.2.1, Nat.le_trans h.2.2.2.1 k.2.2.2.1, fun b hb h1 h2 => (k.2.2.2.2 b (Nat.lt_of_lt_of_le hb h.2.2.2.1) h1 h2).trans (h.2.2.2.2 b hb h1 h2)⟩
  drew' w := ⟨rfl, rfl, rfl, Nat.le_refl _, fun _ _ _ _ => rfl⟩
theorem chg_ext {hb g : Nat} : ∀ a b, extRel.r a b → (chgRel hb g).r a b := fun a b h => by
  have h : Ext a b := h
  exact ⟨h.os, h.tape, h.output, h.size, fun k hk _ _ => h.block k hk⟩
theorem chg_cell {hb g b o : Nat} {a W : World} {u : Value} (h : (chgRel hb g).r a W) (h1 : b ≠ hb) (h2 : b ≠ g) (hc : a.cell? ⟨b, o, none⟩ = some u) : W.cell? ⟨b, o, none⟩ = some u := by
  have hl : b < a.heap.size := World.block_lt_of_cell? a _ hc
  exact (World.cell?_of_block (h.2.2.2.2 b hl h1 h2)).trans hc
theorem chg_row {hb g b : Nat} {a W : World} {o : Obj} (h : (chgRel hb g).r a W) (h1 : b ≠ hb) (h2 : b ≠ g) (hc : a.heap[b]? = some o) : W.heap[b]? = some o :=
  (h.2.2.2.2 b (Array.getElem?_eq_some_iff.1 hc).1 h1 h2).trans hc
theorem ne_of_row {w : World} {a b : Nat} {c d : Array Value} {t u : TypeId} (h : w.heap[a]? = some (.cells c t (0, 0))) (k : w.heap[b]? = some (.cells d u (0, 0))) (hn : t ≠ u) : a ≠ b := fun e => by
  subst e
  rw [h] at k
  cases k
  exact hn rfl

/-- a twin on the way: kb blocks and kw writes are there, F bytes are used of T -/
structure TwS (bs : List (List UInt8)) (ws : List (Int × List UInt8)) (T lo : Nat) (w5 : World) (hb g BB WW ob kb kw F : Nat) (wr : World) : Prop where
  below : Below lo w5 wr
  los : lo ≤ hb ∧ lo ≤ g ∧ lo ≤ BB ∧ lo ≤ WW ∧ lo ≤ ob
  out : wr.heap[ob]? = some (.cells #[.slice (some ⟨BB, 0, none⟩) bs.length bs.length, .slice (some ⟨WW, 0, none⟩) ws.length (ws.length + 1)] 25 (0, 0))
  heap : ∃ o n cur, HeapB hb g o n cur wr ∧ o ≤ F ∧ (0 < n → o = F) ∧ F + n = T ∧ cur.size = T
  bb : ∃ cs, wr.heap[BB]? = some (.cells cs 26 (0, 0)) ∧ cs.size = bs.length ∧ ∀ i l, bs[i]? = some l → i < kb → ∃ v, cs[i]? = some v ∧ InG wr g F v l
  ww : ∃ cs, wr.heap[WW]? = some (.cells cs 141 (0, 0)) ∧ cs.size = (ws.length + 1) * 2 ∧ ∀ i p, ws[i]? = some p → i < kw → ∃ v, cs[i * 2]? = some (.int .i64 p.1) ∧ cs[i * 2 + 1]? = some v ∧ InG wr g F v p.2
section
variable {bs : List (List UInt8)} {ws : List (Int × List UInt8)} {T lo : Nat} {w5 : World} {hb g BB WW ob kb kw F : Nat} {wr W : World}
theorem TwS.ext (h : TwS bs ws T lo w5 hb g BB WW ob kb kw F wr) (hx : Ext wr W) (hl : lo ≤ wr.heap.size) : TwS bs ws T lo w5 hb g BB WW ob kb kw F W := by
  obtain ⟨o, n, cur, ⟨H1, H2, H3, H4, H5⟩, h2⟩ := h.heap
  obtain ⟨cb, hb1, hb2, hb3⟩ := h.bb
  obtain ⟨cw, hw1, hw2, hw3⟩ := h.ww
  have hg : W.heap[g]? = wr.heap[g]? := hx.block g (Array.getElem?_eq_some_iff.1 H2).1
  exact ⟨h.below.trans (Below.mono hx hl), h.los, row_ext h.out hx, ⟨o, n, cur, ⟨row_ext H1 hx, row_ext H2 hx, H3, H4, H5⟩, h2⟩,
    ⟨cb, row_ext hb1 hx, hb2, fun i l hi hk => (hb3 i l hi hk).imp fun v hv => ⟨hv.1, hv.2.keep hg⟩⟩, ⟨cw, row_ext hw1 hx, hw2, fun i p hi hk => (hw3 i p hi hk).imp fun v hv => ⟨hv.1, hv.2.1, hv.2.2.keep hg⟩⟩⟩
/-- a piece was cut -/
theorem TwS.clone (h : TwS bs ws T lo w5 hb g BB WW ob kb kw F wr) {o n o' : Nat} {cur : Array Value} {l : List UInt8} (hH : HeapB hb g o n cur wr) (hl : l.length ≤ n) (hr : (chgRel hb g).r wr W)
    (h1 : 0 < n - l.length → o' = o + l.length) (h2 : n - l.length = 0 → o' = o) (hH' : HeapB hb g o' (n - l.length) (laidAt cur o l) W) :
    TwS bs ws T lo w5 hb g BB WW ob kb kw (F + l.length) W ∧ InG W g (F + l.length) (.slice (some ⟨g, o, none⟩) l.length l.length) l := by
  obtain ⟨o2, n2, cur2, H2, k1, k2, k3, k4⟩ := h.heap
  have e1 := H2.box
  rw [hH.box] at e1
  simp only [Option.some.injEq, Obj.cells.injEq, Array.mk.injEq, List.cons.injEq, Value.slice.injEq, Addr.mk.injEq, and_true, true_and] at e1
  obtain ⟨rfl, rfl, _⟩ := e1
  have e2 := H2.row
  rw [hH.row] at e2
  simp only [Option.some.injEq, Obj.cells.injEq, and_true] at e2
  subst e2
  have hfit : o + l.length ≤ cur.size := by have := hH.fit; omega
  have ho : o = F ∨ l.length = 0 := by
    rcases Nat.eq_zero_or_pos n with h0 | h0
    · exact .inr (by omega)
    · exact .inl (k2 h0)
  have hr0 := hH.row
  have hr1 := hH'.row
  obtain ⟨cb, hb1, hb2, hb3⟩ := h.bb
  obtain ⟨cw, hw1, hw2, hw3⟩ := h.ww
  have n1 : BB ≠ hb := ne_of_row hb1 hH.box (by decide)
  have n2 : BB ≠ g := ne_of_row hb1 hr0 (by decide)
  have n3 : WW ≠ hb := ne_of_row hw1 hH.box (by decide)
  have n4 : WW ≠ g := ne_of_row hw1 hr0 (by decide)
  have n5 : ob ≠ hb := ne_of_row h.out hH.box (by decide)
  have n6 : ob ≠ g := ne_of_row h.out hr0 (by decide)
  obtain ⟨l1, l2, l3, l4, l5⟩ := h.los
  have hlt := (Array.getElem?_eq_some_iff.1 hr0).1
  refine ⟨⟨⟨hr.1.trans h.below.os, hr.2.1.trans h.below.tape, hr.2.2.1.trans h.below.output, Nat.le_trans h.below.size hr.2.2.2.1, fun b hb => (hr.2.2.2.2 b (by omega) (by omega) (by omega)).trans (h.below.block b hb)⟩, h.los, chg_row hr n5 n6 h.out, ⟨o', n - l.length, _, hH', ?_, ?_, by omega, ?_⟩,
    ⟨cb, chg_row hr n1 n2 hb1, hb2, fun i l' hi hk => (hb3 i l' hi hk).imp fun v hv => ⟨hv.1, hv.2.step hr0 hr1 hfit ho⟩⟩, ⟨cw, chg_row hr n3 n4 hw1, hw2, fun i p hi hk => (hw3 i p hi hk).imp fun v hv => ⟨hv.1, hv.2.1, hv.2.2.step hr0 hr1 hfit ho⟩⟩⟩, InG.new hr1 hfit k1⟩
  · rcases Nat.eq_zero_or_pos (n - l.length) with h0 | h0
    · rw [h2 h0]; omega
    · rw [h1 h0]; omega
  · intro h0
    rw [h1 h0, k2 (by omega)]
  · rw [laidAt_size hfit]; exact k4
/-- a block more -/
theorem TwS.setB (h : TwS bs ws T lo w5 hb g BB WW ob kb kw F wr) {v : Value} {l : List UInt8} (hk : bs[kb]? = some l) (hv : InG wr g F v l) : TwS bs ws T lo w5 hb g BB WW ob (kb + 1) kw F (wr.setCell ⟨BB, kb, none⟩ v) := by
  obtain ⟨o, n, cur, ⟨H1, H2, H3, H4, H5⟩, h2⟩ := h.heap
  obtain ⟨cb, hb1, hb2, hb3⟩ := h.bb
  obtain ⟨cw, hw1, hw2, hw3⟩ := h.ww
  have n1 : hb ≠ BB := ne_of_row H1 hb1 (by decide)
  have n2 : g ≠ BB := ne_of_row H2 hb1 (by decide)
  have n3 : WW ≠ BB := ne_of_row hw1 hb1 (by decide)
  have n5 : ob ≠ BB := ne_of_row h.out hb1 (by decide)
  have hg := Below.heap_setCell wr ⟨BB, kb, none⟩ v g n2
  have hlt := (List.getElem?_eq_some_iff.1 hk).1
  refine ⟨Below.setCell h.below (p := ⟨BB, kb, none⟩) h.los.2.2.1 _, h.los, (Below.heap_setCell _ _ _ _ n5).trans h.out, ⟨o, n, cur, ⟨(Below.heap_setCell _ _ _ _ n1).trans H1, (Below.heap_setCell _ _ _ _ n2).trans H2, H3, H4, H5⟩, h2⟩,
    ⟨_, row_set hb1 kb v, by simpa using hb2, fun i l' hi hki => ?_⟩, ⟨cw, (Below.heap_setCell _ _ _ _ n3).trans hw1, hw2, fun i p hi hk => (hw3 i p hi hk).imp fun v hv => ⟨hv.1, hv.2.1, hv.2.2.keep hg⟩⟩⟩
  rw [Array.getElem?_setIfInBounds]
  by_cases e : kb = i
  · subst e
    rw [hk] at hi
    cases hi
    rw [if_pos rfl, if_pos (by omega)]
    exact ⟨v, rfl, hv.keep hg⟩
  · rw [if_neg e]
    exact (hb3 i l' hi (by omega)).imp fun u hu => ⟨hu.1, hu.2.keep hg⟩
/-- a write more -/
theorem TwS.setW (h : TwS bs ws T lo w5 hb g BB WW ob kb kw F wr) {v : Value} {p : Int × List UInt8} (hk : ws[kw]? = some p) (hv : InG wr g F v p.2) : TwS bs ws T lo w5 hb g BB WW ob kb (kw + 1) F ((wr.setCell ⟨WW, kw * 2, none⟩ (.int .i64 p.1)).setCell ⟨WW, kw * 2 + 1, none⟩ v) := by
  obtain ⟨o, n, cur, ⟨H1, H2, H3, H4, H5⟩, h2⟩ := h.heap
  obtain ⟨cb, hb1, hb2, hb3⟩ := h.bb
  obtain ⟨cw, hw1, hw2, hw3⟩ := h.ww
  have n1 : hb ≠ WW := ne_of_row H1 hw1 (by decide)
  have n2 : g ≠ WW := ne_of_row H2 hw1 (by decide)
  have n3 : BB ≠ WW := ne_of_row hb1 hw1 (by decide)
  have n5 : ob ≠ WW := ne_of_row h.out hw1 (by decide)
  have st : ∀ b, b ≠ WW → ((wr.setCell ⟨WW, kw * 2, none⟩ (.int .i64 p.1)).setCell ⟨WW, kw * 2 + 1, none⟩ v).heap[b]? = wr.heap[b]? := fun b hb => (Below.heap_setCell _ _ _ _ hb).trans (Below.heap_setCell _ _ _ _ hb)
  have hlt := (List.getElem?_eq_some_iff.1 hk).1
  refine ⟨Below.setCell (Below.setCell h.below (p := ⟨WW, kw * 2, none⟩) h.los.2.2.2.1 _) (p := ⟨WW, kw * 2 + 1, none⟩) h.los.2.2.2.1 _, h.los, (st _ n5).trans h.out, ⟨o, n, cur, ⟨(st _ n1).trans H1, (st _ n2).trans H2, H3, H4, H5⟩, h2⟩,
    ⟨cb, (st _ n3).trans hb1, hb2, fun i l' hi hki => (hb3 i l' hi hki).imp fun u hu => ⟨hu.1, hu.2.keep (st _ n2)⟩⟩, ⟨_, row_set (row_set hw1 (kw * 2) _) (kw * 2 + 1) _, by simpa using hw2, fun i q hi hki => ?_⟩⟩
  by_cases e : kw = i
  · subst e
    rw [hk] at hi
    cases hi
    refine ⟨v, ?_, ?_, hv.keep (st _ n2)⟩
    · rw [Array.getElem?_setIfInBounds, if_neg (by omega), Array.getElem?_setIfInBounds, if_pos rfl, if_pos (by omega)]
    · rw [Array.getElem?_setIfInBounds, if_pos rfl, if_pos (by simp; omega)]
  · refine (hw3 i q hi (by omega)).imp fun u hu => ⟨?_, ?_, hu.2.2.keep (st _ n2)⟩
    · rw [Array.getElem?_setIfInBounds, if_neg (by omega), Array.getElem?_setIfInBounds, if_neg (by omega)]
      exact hu.1
    · rw [Array.getElem?_setIfInBounds, if_neg (by omega), Array.getElem?_setIfInBounds, if_neg (by omega)]
      exact hu.2.1
end
/-- a twin of a disk, in blocks from lo on -/
structure DiskT (lo : Nat) (bs : List (List UInt8)) (ws : List (Int × List UInt8)) (BB WW g : Nat) (W : World) : Prop where
  los : lo ≤ BB ∧ lo ≤ WW ∧ lo ≤ g ∧ g < W.heap.size ∧ BB ≠ WW ∧ BB ≠ g ∧ WW ≠ g
  bb : ∃ cs, W.heap[BB]? = some (.cells cs 26 (0, 0)) ∧ cs.size = bs.length ∧ ∀ (i : Nat) (l : List UInt8), bs[i]? = some l → ∃ v F, cs[i]? = some v ∧ InG W g F v l
  ww : ∃ cs, W.heap[WW]? = some (.cells cs 141 (0, 0)) ∧ cs.size = (ws.length + 1) * 2 ∧ ∀ (i : Nat) (p : Int × List UInt8), ws[i]? = some p → ∃ v F, cs[i * 2]? = some (.int .i64 p.1) ∧ cs[i * 2 + 1]? = some v ∧ InG W g F v p.2
theorem TwS.done {bs : List (List UInt8)} {ws : List (Int × List UInt8)} {T lo : Nat} {w5 : World} {hb g BB WW ob F : Nat} {wr : World} (h : TwS bs ws T lo w5 hb g BB WW ob bs.length ws.length F wr) : DiskT lo bs ws BB WW g wr := by
  obtain ⟨o, n, cur, ⟨H1, H2, H3, H4, H5⟩, h2⟩ := h.heap
  obtain ⟨cb, hb1, hb2, hb3⟩ := h.bb
  obtain ⟨cw, hw1, hw2, hw3⟩ := h.ww
  refine ⟨⟨h.los.2.2.1, h.los.2.2.2.1, h.los.2.1, (Array.getElem?_eq_some_iff.1 H2).1, ne_of_row hb1 hw1 (by decide), ne_of_row hb1 H2 (by decide), ne_of_row hw1 H2 (by decide)⟩, ⟨cb, hb1, hb2, fun i l hi => ?_⟩, ⟨cw, hw1, hw2, fun i p hi => ?_⟩⟩
  · obtain ⟨v, h1, h2⟩ := hb3 i l hi (List.getElem?_eq_some_iff.1 hi).1
    exact ⟨v, F, h1, h2⟩
  · obtain ⟨v, h1, h2⟩ := hw3 i p hi (List.getElem?_eq_some_iff.1 hi).1
    exact ⟨v, F, h1, h2⟩
theorem DiskT.keep {lo lo' : Nat} {bs : List (List UInt8)} {ws : List (Int × List UInt8)} {BB WW g : Nat} {W W2 : World} (h : DiskT lo bs ws BB WW g W) (hl : lo' ≤ lo) (hs : W.heap.size ≤ W2.heap.size) (hk : ∀ b, lo ≤ b → b < W.heap.size → W2.heap[b]? = W.heap[b]?) : DiskT lo' bs ws BB WW g W2 := by
  obtain ⟨cb, hb1, hb2, hb3⟩ := h.bb
  obtain ⟨cw, hw1, hw2, hw3⟩ := h.ww
  obtain ⟨l1, l2, l3, l4, l5⟩ := h.los
  have hg := hk g l3 l4
  exact ⟨⟨by omega, by omega, by omega, by omega, l5⟩, ⟨cb, (hk BB l1 (Array.getElem?_eq_some_iff.1 hb1).1).trans hb1, hb2, fun i l hi => by
    obtain ⟨v, F, h1, h2⟩ := hb3 i l hi
    exact ⟨v, F, h1, h2.keep hg⟩⟩, ⟨cw, (hk WW l2 (Array.getElem?_eq_some_iff.1 hw1).1).trans hw1, hw2, fun i p hi => by
    obtain ⟨v, F, h1, h2, h3⟩ := hw3 i p hi
    exact ⟨v, F, h1, h2, h3.keep hg⟩⟩⟩
/-- it reads so wherever the cells from lo on are the same -/
theorem DiskT.reads {lo : Nat} {bs : List (List UInt8)} {ws : List (Int × List UInt8)} {BB WW g : Nat} {W : World} (h : DiskT lo bs ws BB WW g W) (h1 : bs.length < 1000000) (h2 : ws.length < 1000000) (h3 : ∀ l ∈ bs, l.length < 1000000) (h4 : ∀ p ∈ ws, p.2.length < 1000000)
    (W2 : World) (hk : ∀ q : Addr, lo ≤ q.block → q.block < W.heap.size → W2.cell? q = W.cell? q) : Bls W2 W.heap.size (.slice (some ⟨BB, 0, none⟩) bs.length bs.length) bs ∧ Wrs W2 W.heap.size (.slice (some ⟨WW, 0, none⟩) ws.length (ws.length + 1)) ws := by
  obtain ⟨cb, hb1, hb2, hb3⟩ := h.bb
  obtain ⟨cw, hw1, hw2, hw3⟩ := h.ww
  obtain ⟨l1, l2, l3, l4, l5⟩ := h.los
  have hg : ∀ j, W2.cell? ⟨g, j, none⟩ = W.cell? ⟨g, j, none⟩ := fun j => hk ⟨g, j, none⟩ l3 l4
  have z1 := (Array.getElem?_eq_some_iff.1 hb1).1
  have z2 := (Array.getElem?_eq_some_iff.1 hw1).1
  have hm : ∀ n, n < 1000001 → n ≤ maxLen := fun n hn => by unfold maxLen; omega
  refine ⟨⟨cb.toList, _, _, rfl, Nat.le_refl _, hm _ (by omega), ⟨by simp [hb2], fun _ => ⟨BB, 0, rfl, z1, fun j u hu => ?_⟩⟩, fun i u l hu hl => ?_⟩, ?_⟩
  · rw [hk ⟨BB, 0 + j, none⟩ l1 z1, Nat.zero_add, cells_row hb1]
    simpa using hu
  · obtain ⟨v, F, e1, e2⟩ := hb3 i l hl
    have : cb.toList[i]? = cb[i]? := by simp
    rw [this, e1] at hu
    cases hu
    exact (e2.cells hg).bys l4 (hm _ (by have := h3 l (List.mem_of_getElem? hl); omega))
  · have hq : ∀ i, i < ws.length → ∃ q : (Int × List UInt8) × Value, ws[i]? = some q.1 ∧ (∃ A c, q.2 = .slice A q.1.2.length c) ∧ Bys W2 W.heap.size q.2 q.1.2 ∧ cw[i * 2]? = some (.int .i64 q.1.1) ∧ cw[i * 2 + 1]? = some q.2 := fun i hi => by
      obtain ⟨v, F, e1, e2, e3⟩ := hw3 i ws[i] (List.getElem?_eq_getElem hi)
      have hb := (e3.cells hg).bys l4 (hm _ (by have := h4 ws[i] (List.getElem_mem hi); omega))
      obtain ⟨o, ev, _⟩ := e3
      exact ⟨(ws[i], v), List.getElem?_eq_getElem hi, ⟨_, _, ev⟩, hb, e1, e2⟩
    obtain ⟨Q, hQ⟩ := choose_lt (α := (Int × List UInt8) × Value) (p := fun i q => ws[i]? = some q.1 ∧ (∃ A c, q.2 = .slice A q.1.2.length c) ∧ Bys W2 W.heap.size q.2 q.1.2 ∧ cw[i * 2]? = some (.int .i64 q.1.1) ∧ cw[i * 2 + 1]? = some q.2) hq
    refine ⟨(List.range ws.length).map Q, ?_, ⟨some ⟨WW, 0, none⟩, ws.length + 1, rfl, by omega, hm _ (by omega), ⟨by rw [cells2_len]; simp, fun _ => ⟨WW, 0, rfl, z2, fun j u hu => ?_⟩⟩⟩, fun q hq' => ?_⟩
    · apply List.ext_getElem?
      intro i
      rw [List.map_map, List.getElem?_map]
      rcases Nat.lt_or_ge i ws.length with hi | hi
      · rw [List.getElem?_range hi, (hQ i hi).1]; rfl
      · rw [List.getElem?_eq_none (by simpa using hi), List.getElem?_eq_none hi]; rfl
    · rw [hk ⟨WW, 0 + j, none⟩ l2 z2, Nat.zero_add, cells_row hw1]
      have hj : j < ws.length * 2 := by
        have := (List.getElem?_eq_some_iff.1 hu).1
        rw [cells2_len] at this
        simpa using this
      obtain ⟨c0, c1⟩ := cells2_at ((List.range ws.length).map Q) (j / 2) (by simp; omega)
      obtain ⟨_, _, _, q0, q1⟩ := hQ (j / 2) (by omega)
      rcases (show j = j / 2 * 2 ∨ j = j / 2 * 2 + 1 by omega) with e | e
      · have hu' : some u = some _ := (hu.symm.trans (congrArg (fun t => (cells2 ((List.range ws.length).map Q))[t]?) e)).trans c0
        cases hu'
        rw [show cw[j]? = cw[j / 2 * 2]? from congrArg (fun t => cw[t]?) e, q0]
        simp
      · have hu' : some u = some _ := (hu.symm.trans (congrArg (fun t => (cells2 ((List.range ws.length).map Q))[t]?) e)).trans c1
        cases hu'
        rw [show cw[j]? = cw[j / 2 * 2 + 1]? from congrArg (fun t => cw[t]?) e, q1]
        simp
    · obtain ⟨i, hi, rfl⟩ := List.mem_map.1 hq'
      obtain ⟨_, q1, q2, _⟩ := hQ i (List.mem_range.1 hi)
      exact ⟨q1, q2⟩
end Go.Proofs.Yteikcgjhcniiiaa
