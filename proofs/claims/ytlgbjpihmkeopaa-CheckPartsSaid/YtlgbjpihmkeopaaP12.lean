/- Texts VolsW, Vols, joined. -/
import Derived.Test.YtlgbjpihmkeopaaP06
import Derived.Test.YtlgbjpihmkeopaaP11
/- The volumes of a forest: plain words. -/
namespace Go.Proofs.Ytlgbjpihmkeopaa
set_option linter.unusedSimpArgs false
set_option linter.unusedVariables false
open Go.RowKit

def itemsS (S : Sto) : Nat → List It → List It
  | 0, xs => xs
  | h + 1, xs => xs.flatMap fun y => match nodeAt S y.r.toNat with
    | none => []
    | some (_, ys) => itemsS S h ys
def volGood (next : Int) (y : It) : Bool := isVol y && (decide (y.i ≠ 0) && decide (y.i < next))
def volsGo (next : Int) : List Vol → List It → Option (List Vol)
  | vs, [] => some vs
  | vs, y :: r => if volGood next y = true ∧ vs.length ≠ 16 then volsGo next (vs ++ [volAt y]) r else none
theorem volsGo_cons (next : Int) (vs : List Vol) (y : It) (r : List It) : volsGo next vs (y :: r) = if volGood next y = true ∧ vs.length ≠ 16 then volsGo next (vs ++ [volAt y]) r else none := rfl
theorem items_succ (S : Sto) (h : Nat) (xs : List It) : itemsS S (h + 1) xs = xs.flatMap fun y => match nodeAt S y.r.toNat with | none => [] | some (_, ys) => itemsS S h ys := rfl
theorem volsGo_append (next : Int) : ∀ (l m : List It) (vs : List Vol), volsGo next vs (l ++ m) = (volsGo next vs l).bind fun vs' => volsGo next vs' m
  | [], m, vs => rfl
  | y :: r, m, vs => by
    rw [List.cons_append, volsGo_cons, volsGo_cons]
    split
    · exact volsGo_append next r m _
    · rfl
theorem volsGo_len (next : Int) : ∀ (l : List It) (vs vs' : List Vol), vs.length ≤ 16 → volsGo next vs l = some vs' → vs'.length ≤ 16
  | [], vs, vs', h, e => by cases e; exact h
  | y :: r, vs, vs', h, e => by
    unfold volsGo at e
    split at e
    · rename_i hc
      exact volsGo_len next r _ vs' (by rw [List.length_append, List.length_singleton]; have := hc.2; omega) e
    · cases e
theorem items_leaf {S : Sto} {xs : List It} {k : Nat} (hk : k < xs.length) : itemsS S 0 (xs.take (k + 1)) = itemsS S 0 (xs.take k) ++ [xs[k]] := List.take_succ_eq_append_getElem hk
theorem items_node {S : Sto} {h : Nat} {xs ys : List It} {lvl : Int} {k : Nat} (hk : k < xs.length) (hn : nodeAt S xs[k].r.toNat = some (lvl, ys)) : itemsS S (h + 1) (xs.take (k + 1)) = itemsS S (h + 1) (xs.take k) ++ itemsS S h ys := by
  rw [List.take_succ_eq_append_getElem hk, items_succ, items_succ, List.flatMap_append]
  simp [hn]
theorem items_nil {S : Sto} (h : Nat) : itemsS S h [] = [] := by
  cases h <;> rfl
theorem itemsS_take {S : Sto} {h : Nat} {xs : List It} {k : Nat} (hk : k ≤ xs.length) : ∃ r, itemsS S h xs = itemsS S h (xs.take k) ++ r := by
  cases h with
  | zero => exact ⟨xs.drop k, (List.take_append_drop k xs).symm⟩
  | succ h =>
    refine ⟨itemsS S (h + 1) (xs.drop k), ?_⟩
    have := (List.take_append_drop k xs).symm
    conv => lhs; rw [this]
    rw [items_succ, items_succ, items_succ, List.flatMap_append]
theorem volsGo_bad {S : Sto} {h : Nat} {xs : List It} {k : Nat} {next : Int} {vs : List Vol} (hk : k ≤ xs.length) (hb : volsGo next vs (itemsS S h (xs.take k)) = none) : volsGo next vs (itemsS S h xs) = none := by
  obtain ⟨r, hr⟩ := itemsS_take (S := S) (h := h) hk
  rw [hr, volsGo_append, hb]
  rfl
def cellsV (vs : List Vol) : List Value := vs.flatMap fun v => [.int .u32 v.id, .int .i64 v.root, .bool v.fz, .int .u32 v.frm]
theorem cellsV_snoc (vs : List Vol) (v : Vol) : cellsV (vs ++ [v]) = cellsV vs ++ [.int .u32 v.id, .int .i64 v.root, .bool v.fz, .int .u32 v.frm] := by simp [cellsV]
structure VolI (p : CP) (w1 w : World) (vs : List Vol) (vv : Value) (ca : Array Value) (refs nodes : Nat → Nat) : Prop where
  t : TrI p w1.heap.size w1 w vv ca refs nodes
  own : w.ownsRow w1.heap.size 113 4 vv vs.length (cellsV vs)
structure VolF (p : CP) (vv : Value) (w w' : World) : Prop where
  os : w'.os = w.os
  tape : w'.tape = w.tape
  output : w'.output = w.output
  size : w.heap.size ≤ w'.heap.size
  block : ∀ k, k < w.heap.size → k ≠ p.cb → vv.ownBlock ≠ some k → w'.heap[k]? = w.heap[k]?
def Newer (vv : Value) (n : Nat) (vv' : Value) : Prop := vv'.ownBlock = vv.ownBlock ∨ ∃ g, vv'.ownBlock = some g ∧ n ≤ g
def VolsQ (p : CP) (w1 : World) (refs nodes : Nat → Nat) (next : Int) (vs : List Vol) (l : List It) (vv : Value) (w : World) (e : Ending) (w' : World) : Prop :=
  VolF p vv w w' ∧ match volsGo next vs l with
    | none => e = .returned (.int .i64 8)
    | some vs' => e = .returned (.int .i64 0) ∧ ∃ vv' ca', VolI p w1 w' vs' vv' ca' refs nodes ∧ Newer vv w.heap.size vv'
theorem VolF.refl (p : CP) (vv : Value) (w : World) : VolF p vv w w := ⟨rfl, rfl, rfl, Nat.le_refl _, fun _ _ _ _ => rfl⟩
theorem VolF.ext {p : CP} {vv : Value} {w w' w'' : World} (h : VolF p vv w w') (hx : Ext w' w'') : VolF p vv w w'' :=
  ⟨hx.os.trans h.os, hx.tape.trans h.tape, hx.output.trans h.output, Nat.le_trans h.size hx.size, fun k h1 h2 h3 => (hx.block k (Nat.lt_of_lt_of_le h1 h.size)).trans (h.block k h1 h2 h3)⟩
theorem VolF.trans {p : CP} {vv vv' : Value} {w w' w'' : World} (h : VolF p vv w w') (h' : VolF p vv' w' w'') (hn : Newer vv w.heap.size vv') : VolF p vv w w'' :=
  ⟨h'.os.trans h.os, h'.tape.trans h.tape, h'.output.trans h.output, Nat.le_trans h.size h'.size, fun k h1 h2 h3 => (h'.block k (Nat.lt_of_lt_of_le h1 h.size) h2 (fun e => by
    rcases hn with x | ⟨g, x, y⟩
    · exact h3 (x ▸ e)
    · rw [x] at e; cases e; omega)).trans (h.block k h1 h2 h3)⟩
theorem Newer.refl (vv : Value) (n : Nat) : Newer vv n vv := .inl rfl
theorem Newer.trans {vv vv' vv'' : Value} {n n' : Nat} (h : Newer vv n vv') (h' : Newer vv' n' vv'') (hn : n ≤ n') : Newer vv n vv'' := by
  rcases h' with x | ⟨g, x, y⟩
  · rcases h with z | ⟨g, z, y⟩
    · exact .inl (x.trans z)
    · exact .inr ⟨g, x.trans z, y⟩
  · exact .inr ⟨g, x, by omega⟩
theorem VolI.ext {p : CP} {w1 w w' : World} {vs : List Vol} {vv : Value} {ca : Array Value} {refs nodes : Nat → Nat} (h : VolI p w1 w vs vv ca refs nodes) (hx : Ext w w') : VolI p w1 w' vs vv ca refs nodes := ⟨h.t.ext hx, own_ext h.own hx⟩
theorem TrI.setVol {p : CP} {B : Nat} {w1 wr : World} {vv : Value} {ca : Array Value} {refs nodes : Nat → Nat} (h : TrI p B w1 wr vv ca refs nodes) (vv' : Value) : TrI p B w1 (wr.setCell ⟨p.cb, 518, none⟩ vv') vv' (ca.setIfInBounds 518 vv') refs nodes := by
  have hs := h.ar.size
  refine ⟨h.off.setCell (p := ⟨p.cb, 518, none⟩) (.inl rfl) _, row_set h.row _ _, ⟨by simp [hs], fun a ha => ?_, fun a ha => ?_, ?_⟩, fun i hi => (set_low (by omega) hi).trans (h.low i hi), h.lt⟩
  · rw [Array.getElem?_setIfInBounds, if_neg (by omega), h.ar.ref a ha]
  · rw [Array.getElem?_setIfInBounds, if_neg (by omega), h.ar.node a ha]
  · rw [Array.getElem?_setIfInBounds, if_pos rfl, if_pos (by omega)]
theorem VolF.grown {p : CP} {vv0 vv : Value} {w w' w'' : World} (h : VolF p vv0 w w') (hn : Newer vv0 w.heap.size vv) (hg : w'.grownBy w'' vv.ownBlock) : VolF p vv0 w w'' :=
  ⟨hg.os.trans h.os, hg.tape.trans h.tape, hg.output.trans h.output, Nat.le_trans h.size hg.size, fun k h1 h2 h3 => (hg.block k (Nat.lt_of_lt_of_le h1 h.size) (fun e => by
    rcases hn with x | ⟨g, x, y⟩
    · exact h3 (x ▸ e.symm)
    · rw [x] at e; cases e; omega)).trans (h.block k h1 h2 h3)⟩
theorem VolF.setC {p : CP} {vv0 u : Value} {w w' : World} {i : Nat} (h : VolF p vv0 w w') : VolF p vv0 w (w'.setCell ⟨p.cb, i, none⟩ u) :=
  ⟨h.os, h.tape, h.output, by simpa using h.size, fun k h1 h2 h3 => (Below.heap_setCell _ _ _ _ (fun e => h2 e)).trans (h.block k h1 h2 h3)⟩
abbrev poolCs (s1 s2 s3 s4 : Value) (gen root next : Int) (dead : Value) : Array Value := #[s1, s2, s3, s4, .int .u32 gen, .int .i64 root, .int .u32 next, dead]
def VolsC (p : CP) (w1 : World) (f : Int → Option Value) (refs nodes : Nat → Nat) (s1 s2 s3 s4 : Value) (gen root next : Int) (dead : Value) (h : Nat) : Prop :=
  ∀ (xs : List It) (A : Option Addr) (c : Nat) (vs : List Vol) (vv : Value) (ca : Array Value) (w : World), VolI p w1 w vs vv ca refs nodes → vs.length ≤ 16 → (∀ x ∈ xs, ItOk x) → xs.length ≤ 5 → ItsF p.lo w1 (.slice A xs.length c) xs →
    (spanS p.S h xs).isSome = true → (0 < h → ∀ y ∈ xs, (f y.r).isSome = true) →
    Calls Try.prog 78 #[.pointer (some ⟨p.cb, 0, none⟩), .agg (poolCs s1 s2 s3 s4 gen root next dead), nodeV h A xs.length c] w (VolsQ p w1 refs nodes next vs (itemsS p.S h xs) vv w)
end Go.Proofs.Ytlgbjpihmkeopaa
/- Contracts: the census gathers the volumes of a forest. -/
namespace Go.Proofs.Ytlgbjpihmkeopaa
set_option linter.unusedSimpArgs false
set_option linter.unusedVariables false
open Go.RowKit

theorem Try.info_vol : (Try.prog.info? 113).map (fun i => (i.zero, i.size, i.bytes)) = some (some (.agg #[.int .u32 0, .int .i64 0, .bool false, .int .u32 0]), 4, 24) := by kernel_rfl
abbrev vol4 (v : Vol) : Array Value := #[.int .u32 v.id, .int .i64 v.root, .bool v.fz, .int .u32 v.frm]
structure VRel (p : CP) (w1 : World) (refs nodes : Nat → Nat) (pcs : Array Value) (next : Int) (vs0 : List Vol) (xs : List It) (h : Nat) (A : Option Addr) (c : Nat) (vv0 : Value) (w : World) (i : Value) (wr : World) : Prop where
  ex : ∃ (k : Nat) (vs : List Vol) (vv : Value) (ca : Array Value), k ≤ xs.length ∧ i = .int .i64 (k : Int) ∧ volsGo next vs0 (itemsS p.S h (xs.take k)) = some vs ∧ vs.length ≤ 16 ∧ VolI p w1 wr vs vv ca refs nodes ∧ VolF p vv0 w wr ∧ Newer vv0 w.heap.size vv ∧
    (∀ q, vv.ownBlock = some q → q ≠ w.heap.size ∧ q ≠ w.heap.size + 1) ∧ wr.heap[w.heap.size]? = some (.cells pcs 32 (0, 0)) ∧ wr.heap[w.heap.size + 1]? = some (.cells #[.int .i64 h, .slice A xs.length c] 104 (0, 0))

set_option maxHeartbeats 4000000 in
set_option maxRecDepth 100000 in
theorem vols_any (p : CP) (w1 : World) (f : Int → Option Value) (refs nodes : Nat → Nat) (s1 s2 s3 s4 : Value) (gen root next : Int) (dead : Value) (hC : Cen p w1 f) (h : Nat) (HL : ∀ h', h = h' + 1 → VolsC p w1 f refs nodes s1 s2 s3 s4 gen root next dead h') :
    VolsC p w1 f refs nodes s1 s2 s3 s4 gen root next dead h := by
  intro xs A c vs0 vv0 ca0 w HI hvl hxs hlen hits hsp hkn
  have hlo := own_lt HI.own
  replace hC := Lib.hid hC
  replace HI := Lib.hid HI
  replace hxs := Lib.hid hxs
  replace hits := Lib.hid hits
  replace hsp := Lib.hid hsp
  replace hkn := Lib.hid hkn
  replace hlo := Lib.hid hlo
  replace HL := Lib.hid HL
  replace hvl := Lib.hid hvl
  go_enter Try.func78, Try.ntmps78
  go_wp2
  generalize hw2 : (World.alloc (World.alloc _ _) _) = w2
  have x2 : Ext w w2 := by rw [← hw2]; exact (Ext.alloc _ _).trans (Ext.alloc _ _)
  have q2 : w2.heap[w.heap.size]? = some (.cells (poolCs s1 s2 s3 s4 gen root next dead) 32 (0, 0)) := by
    rw [← hw2]; exact (Below.heap_alloc _ _ _ (by simp)).trans (World.alloc_heap_at _ _ _ rfl)
  have n2 : w2.heap[w.heap.size + 1]? = some (.cells #[.int .i64 h, .slice A xs.length c] 104 (0, 0)) := by
    rw [← hw2]; exact World.alloc_heap_at _ _ _ (by simp)
  clear hw2
  have I0 : VRel p w1 refs nodes (poolCs s1 s2 s3 s4 gen root next dead) next vs0 xs h A c vv0 w (.int .i64 0) w2 := by
    refine ⟨0, vs0, vv0, ca0, Nat.zero_le _, rfl, ?_, hvl.out, HI.out.ext x2, (VolF.refl _ _ _).ext x2, Newer.refl _ _, fun q hq => ?_, q2, n2⟩
    · rw [List.take_zero, items_nil]; rfl
    · have := (hlo.out q hq).2
      omega
  replace I0 := Lib.hid I0
  clear x2 q2 n2
  go_loopw [15] (fun i wr => VRel p w1 refs nodes (poolCs s1 s2 s3 s4 gen root next dead) next vs0 xs h A c vv0 w i wr) (fun i _ => xs.length - (intOf i).toNat)
  case atStart => exact I0.out
  case round =>
    obtain ⟨k, vs, vv, ca, hk, rfl, hgo, hvs, V, F, hnew, hnq, qr, nr⟩ := hrel.ex
    clear I0
    by_cases hlt : k < xs.length
    · have hlt' := hlt
      obtain ⟨b9, off9, rfl, hb9⟩ := hits.out.its.at_.2.2.2 (by omega)
      obtain ⟨A', c', d0, d1, d2, d3, d4, hby⟩ := (V.t.its hC.out hits.out).its.item k hlt'
      have hxk := hxs.out xs[k] (List.getElem_mem hlt')
      have HLEAF : Hid (h = 0 → itemsS p.S h (xs.take (k + 1)) = itemsS p.S h (xs.take k) ++ [xs[k]]) := Lib.hid fun e => by rw [e]; exact items_leaf hlt'
      have HNODE : Hid (∀ h' ys lvl, h = h' + 1 → nodeAt p.S xs[k].r.toNat = some (lvl, ys) → itemsS p.S h (xs.take (k + 1)) = itemsS p.S h (xs.take k) ++ itemsS p.S h' ys) := Lib.hid fun h' ys lvl e hn => by rw [e]; exact items_node hlt' hn
      have HONE := Lib.hid (span_one hsp.out xs[k] (List.getElem_mem hlt'))
      have HKN := Lib.hid (fun h0 => hkn.out h0 xs[k] (List.getElem_mem hlt'))
      have HBAD := Lib.hid (fun hb => @volsGo_bad p.S h xs (k + 1) next vs0 hlt' hb)
      generalize xs[k] = x at *
      have kn := cells_row nr
      have kq := cells_row qr
      replace V := Lib.hid V
      replace F := Lib.hid F
      replace hnew := Lib.hid hnew
      replace hnq := Lib.hid hnq
      replace hgo := Lib.hid hgo
      replace hby := Lib.hid hby
      replace hxk := Lib.hid hxk
      have hz : w.heap.size + 1 < wr.heap.size := (Array.getElem?_eq_some_iff.1 nr).1
      have hz0 : w.heap.size < wr.heap.size := by omega
      replace hvs := Lib.hid hvs
      rcases Nat.eq_zero_or_pos h with hh | hh
      · have hd : decide ((h : Int) > 0) = false := decide_eq_false (by omega)
        have hd2 : decide (0 < h) = false := decide_eq_false (by omega)
        have hd3 : ¬ 0 < h := by omega
        replace hh := Lib.hid hh
        go_wp2_with fail
        generalize hw3 : World.alloc wr _ = w3
        have x3 : Ext wr w3 := by rw [← hw3]; exact Ext.alloc _ _
        clear hw3 d0 d1 d2 d3 d4
        refine (volume_any x hxk.out A' c' w3 ((hby.out.below x3).more x3.size)).mono ?_
        rintro e w4 ⟨u, rfl, ⟨v', rfl, hv'⟩, hB⟩
        have x4 := x3.trans hB
        clear hB x3
        have hstep : volsGo next vs0 (itemsS p.S h (xs.take (k + 1))) = if volGood next x = true ∧ vs.length ≠ 16 then some (vs ++ [volAt x]) else none := by
          rw [HLEAF.out hh.out, volsGo_append, hgo.out]
          rfl
        have HB8 : Hid (¬ (volGood next x = true ∧ vs.length ≠ 16) → ∀ W, Ext wr W → VolsQ p w1 refs nodes next vs0 (itemsS p.S h xs) vv0 w (.returned (.int .i64 8)) W) := Lib.hid fun hb W hx =>
          ⟨F.out.ext hx, by rw [HBAD.out (by rw [hstep, if_neg hb])]⟩
        have V4 := V.out.ext x4
        obtain ⟨AV, cV, rfl, -, -⟩ := own_slice V4.own
        have kc : w4.cell? ⟨p.cb, 518, none⟩ = some (.slice AV vs.length cV) := by rw [cells_row V4.t.row]; exact V4.t.ar.vol
        have kq4 := cells_row (row_ext qr x4)
        have hcb4 : p.cb < w4.heap.size := (Array.getElem?_eq_some_iff.1 V4.t.row).1
        have hqz4 : w.heap.size < w4.heap.size := by have := x4.size; omega
        replace hstep := Lib.hid hstep
        rcases hiv : isVol x with _ | _
        · have HB := HB8.out (fun hh => by have := hh.1; unfold volGood at this; rw [hiv] at this; cases this)
          replace HB := Lib.hid HB
          replace hiv := Lib.hid hiv
          clear kc kq4 V4
          go_wp2_with fail
          go_ret
          exact HB.out _ (x4.trans (Ext.alloc _ _))
        · have hve := hv' hiv
          have hid : v'.id = x.i := by rw [hve]; rfl
          have hgd : volGood next x = (decide (x.i ≠ 0) && decide (x.i < next)) := by unfold volGood; rw [hiv, Bool.true_and]
          replace hiv := Lib.hid hiv
          replace hve := Lib.hid hve
          rcases Int.decEq v'.id 0 with hi0 | hi0
          · rcases Int.decLt v'.id next with hi1 | hi1
            · have HB := HB8.out (fun hh => by have := hh.1; rw [hgd] at this; simp at this; omega)
              have hg1 : decide (v'.id ≥ next) = true := decide_eq_true (by omega)
              have hg2 : decide (next ≤ v'.id) = true := decide_eq_true (by omega)
              replace HB := Lib.hid HB
              replace hid := Lib.hid hid
              replace hgd := Lib.hid hgd
              clear hi1 hv' V4
              go_wp2_with fail
              go_ret
              exact HB.out _ (x4.trans (Ext.alloc _ _))
            · have hg1 : decide (v'.id ≥ next) = false := decide_eq_false (by omega)
              have hg2 : decide (next ≤ v'.id) = false := decide_eq_false (by omega)
              rcases Nat.decEq vs.length 16 with h16 | h16
              · have hf1 : ((vs.length : Int) == 16) = false := by rw [beq_eq_false_iff_ne]; omega
                have hok : volGood next x = true := by rw [hgd]; simp; omega
                replace hok := Lib.hid hok
                replace hid := Lib.hid hid
                replace hgd := Lib.hid hgd
                replace V4 := Lib.hid V4
                clear hi1 hv'
                have h16' := Lib.hid h16
                go_wp2_with fail
                generalize hw5 : World.alloc w4 _ = w5
                have x45 : Ext w4 w5 := by rw [← hw5]; exact Ext.alloc _ _
                have r5 : w5.heap[w4.heap.size]? = some (.cells (vol4 v') 113 (0, 0)) := by rw [← hw5]; exact World.alloc_heap_at _ _ _ rfl
                have z5 : w4.heap.size < w5.heap.size := (Array.getElem?_eq_some_iff.1 r5).1
                clear hw5 kc kq4 h16 hf1 hg1 hg2 hi0
                have x5 := x4.trans x45
                have V5 := V4.out.ext x45
                have q5 := row_ext qr x5
                have nr5 := row_ext nr x5
                have hol := own_lt V5.own
                have hcb5 := V5.t.lt
                have hbase5 := V5.t.off.size
                have hvs5 := hvs.out
                have hn4 : (Value.slice AV vs.length cV).ownBlock ≠ some w4.heap.size := fun e => by have := (own_lt V4.out.own _ e).2; omega
                have hnc : (Value.slice AV vs.length cV).ownBlock ≠ some p.cb := fun e => by have := (hol _ e).1; omega
                obtain ⟨RR, hRR⟩ : ∃ RR : Rel, RR = appRel w1.heap.size 113 4 w5.heap.size (.slice AV vs.length cV) vs.length (cellsV vs) (vs.length + 1) (cellsV vs ++ (vol4 v').toList) := ⟨_, rfl⟩
                replace hRR := Lib.hid hRR
                have gV : ∀ W, RR.r w5 W → W.cell? ⟨p.cb, 518, none⟩ = some (.slice AV vs.length cV) := fun W h => appRel_cell (hRR.out ▸ h) hnc (by rw [cells_row V5.t.row]; exact V5.t.ar.vol)
                have gv : ∀ W, RR.r w5 W → ∀ i, W.cell? ⟨w4.heap.size, i, none⟩ = (vol4 v')[i]? := fun W h => cells_row (appRel_row (hRR.out ▸ h) hn4 r5)
                refine region_start (by kernel_rfl) ?_
                refine any_freeT (w := w5) RR (outsAt [(6, outLit w5.heap.size 1 113 (vol4 v')), (7, outDoneS w1.heap.size 113 4 w5.heap.size (.slice AV vs.length cV) (vs.length + 1) (cellsV vs ++ (vol4 v').toList))])
                  [true, true, true, true, true, true, true, true] 3 (by kernel_rfl) (by kernel_rfl) (by kernel_rfl) (by kernel_rfl) (by kernel_rfl) (by kernel_rfl) (by kernel_rfl) ?st (Rel.drew _ _) ?walk
                case st => rw [hRR.out]; exact outsAt_stableG (by simp only [List.forall_mem_cons]; exact ⟨outLit_stableG (fun g hg => by have := hol g hg; omega), outDoneS_stable, fun _ h => by cases h⟩)
                case walk =>
                  intro K hK
                  dsimp only [maskOps]
                  repeat ((first | (refine free_plainM ?_ (by rfl) (by rfl) (fun W hW _ => ⟨W, ?_, Rel.refl _ W⟩) ?_; rotate_left; (first | (go_simp; with_reducible rfl) | (go_simp; done))) | (refine free_skipM (by rfl) ?_)); try simp only [Act.put, one_f, outB_f, outNew_f, outI_f, outNew_f, outLit_f, outDoneS_f, List.setIfInBounds_toArray, List.set_cons_zero, List.set_cons_succ])
                  refine free_hardM (outLit w5.heap.size 1 113 (vol4 v')) (by rfl) (by rfl) (fun W hW _ => ?_) (fun (pb : Nat) => ?_)
                  · rw [hRR.out] at hW ⊢
                    refine hardAt_litG ?_ hW.1.size
                    go_simp
                  simp only [Act.put, one_f, outB_f, outNew_f, outI_f, outNew_f, outLit_f, outDoneS_f, List.setIfInBounds_toArray, List.set_cons_zero, List.set_cons_succ]
                  refine free_hardM (outDoneS w1.heap.size 113 4 w5.heap.size (.slice AV vs.length cV) (vs.length + 1) (cellsV vs ++ (vol4 v').toList)) (by rfl) (by rfl) (fun W hW hp => ?_) (fun (p7 : Option Addr × Nat) => ?_)
                  · rw [hRR.out] at hW ⊢
                    obtain ⟨i0, hi, hz0, hz1, hz2⟩ := info_parts Try.info_vol
                    obtain ⟨hcells, _⟩ := (hp 6 (by decide)).1
                    obtain ⟨v2, w', hrun, hD, hR'⟩ := run_append_done (P := Try.prog) (lo := w5.heap.size) W 95 95 i0 _ 24 Try.underlying95 hi hz0 hz1 hz2 rfl (by decide) (hW.2.1 V5.own) ⟨pb, 0, none⟩ 1 1 (vol4 v').toList rfl (row_adds hcells) (by simp [Value.oneCell']) (by omega) (by decide) (by have := hW.1.size; omega) hW.1.size
                    obtain ⟨A2, c2, rfl, _, _⟩ := own_slice hD.1
                    refine hardAt_valueG (u := .slice A2 (vs.length + 1) c2) (w' := w') ?_ ⟨(A2, c2), rfl, hD, hR'⟩
                    exact exec_append (s := .tmp 67) (x := .tmp 69) rfl rfl rfl hrun
                  obtain ⟨A2, c2⟩ := p7
                  simp only [Act.put, one_f, outB_f, outNew_f, outI_f, outNew_f, outLit_f, outDoneS_f, List.setIfInBounds_toArray, List.set_cons_zero, List.set_cons_succ]
                  repeat ((first | (refine free_plainM ?_ (by rfl) (by rfl) (fun W hW _ => ⟨W, ?_, Rel.refl _ W⟩) ?_; rotate_left; (first | (go_simp; with_reducible rfl) | (go_simp; done))) | (refine free_skipM (by rfl) ?_)); try simp only [Act.put, one_f, outB_f, outNew_f, outI_f, outNew_f, outLit_f, outDoneS_f, List.setIfInBounds_toArray, List.set_cons_zero, List.set_cons_succ])
                  refine free_nilM (hK _ _ fun W hW hF => ?_)
                  have hD := (hF 7).1
                  clear hF hK gV gv
                  rw [hRR.out] at hW
                  change Done _ _ _ _ _ _ _ _ W at hD
                  dsimp only [List.drop, List.length_cons, List.length_nil]
                  have TW := V5.t.grown hW.1 (fun q hq => (hol q hq).1)
                  have T6 := TW.setVol (.slice A2 (vs.length + 1) c2)
                  have own6 := own_setCell hD.1 (p := ⟨p.cb, 518, none⟩) hcb5 (.slice A2 (vs.length + 1) c2)
                  have hcw : p.cb < w.heap.size := Nat.lt_of_lt_of_le hcb5 HI.out.t.off.size
                  have q6 : (W.setCell ⟨p.cb, 518, none⟩ (.slice A2 (vs.length + 1) c2)).heap[w.heap.size]? = _ := (Below.heap_setCell _ _ _ _ (by show w.heap.size ≠ p.cb; omega)).trans (appRel_row hW (fun e => (hnq.out _ e).1 rfl) q5)
                  have n6 : (W.setCell ⟨p.cb, 518, none⟩ (.slice A2 (vs.length + 1) c2)).heap[w.heap.size + 1]? = _ := (Below.heap_setCell _ _ _ _ (by show w.heap.size + 1 ≠ p.cb; omega)).trans (appRel_row hW (fun e => (hnq.out _ e).2 rfl) nr5)
                  have F6 := ((F.out.ext x5).grown hnew.out hW.1).setC (i := 518) (u := .slice A2 (vs.length + 1) c2)
                  have N6 : Newer vv0 w.heap.size (.slice A2 (vs.length + 1) c2) := Newer.trans hnew.out (n' := w5.heap.size) hD.2 (by have := F.out.size; have := x5.size; omega)
                  have B6 : ∀ q, (Value.slice A2 (vs.length + 1) c2).ownBlock = some q → q ≠ w.heap.size ∧ q ≠ w.heap.size + 1 := by
                    intro q hq
                    rcases hD.2 with e | ⟨g, e, e2⟩
                    · exact hnq.out q (e ▸ hq)
                    · rw [e] at hq
                      cases hq
                      have := x5.size
                      omega
                  have kc := cells_row TW.row
                  have kv := TW.ar.vol
                  have fc := frozen_row TW.row
                  have IR : VRel p w1 refs nodes (poolCs s1 s2 s3 s4 gen root next dead) next vs0 xs h (some ⟨b9, off9, none⟩) c vv0 w (.int .i64 ((k : Int) + 1)) (W.setCell ⟨p.cb, 518, none⟩ (.slice A2 (vs.length + 1) c2)) := by
                    refine ⟨k + 1, vs ++ [v'], _, _, hlt', rfl, ?_, ?_, ⟨T6, ?_⟩, F6, N6, B6, q6, n6⟩
                    · rw [hstep.out, if_pos ⟨hok.out, h16'.out⟩, hve.out]
                    · rw [List.length_append, List.length_singleton]
                      have := h16'.out
                      omega
                    · rw [List.length_append, List.length_singleton, cellsV_snoc]
                      exact own6
                  replace IR := Lib.hid IR
                  clear T6 own6 q6 n6 F6 N6 B6 hW hD q5 nr5 V5 r5 x5 x4 x45
                  replace TW := Lib.hid TW
                  go_wp2
                  refine QN_in ?_
                  go_wp2_with fail
                  refine ⟨IR.out, ?_⟩
                  simp [intOf]
                  omega
              · have hf1 : ((vs.length : Int) == 16) = true := by rw [beq_iff_eq]; omega
                have HB := HB8.out (fun hh => hh.2 h16)
                replace HB := Lib.hid HB
                replace hid := Lib.hid hid
                replace hgd := Lib.hid hgd
                replace h16 := Lib.hid h16
                clear hi1 hv' V4
                go_wp2_with fail
                go_ret
                exact HB.out _ (x4.trans (Ext.alloc _ _))
          · have HB := HB8.out (fun hh => by have := hh.1; rw [hgd] at this; simp at this; omega)
            replace HB := Lib.hid HB
            replace hid := Lib.hid hid
            replace hgd := Lib.hid hgd
            clear hv' V4 kc kq4
            go_wp2_with fail
            go_ret
            exact HB.out _ (x4.trans (Ext.alloc _ _))
      · have hd : decide ((h : Int) > 0) = true := decide_eq_true (by omega)
        have hd2 : decide (0 < h) = true := decide_eq_true hh
        replace hh := Lib.hid hh
        obtain ⟨h', hh'⟩ : ∃ h', h = h' + 1 := ⟨h - 1, by have := hh.out; omega⟩
        obtain ⟨b, hxr, hb1, hb2, ys, hnode, hsy⟩ := one_tree (hh' ▸ HONE.out)
        obtain ⟨v9, hv9⟩ := Option.isSome_iff_exists.1 (HKN.out hh.out)
        obtain ⟨n9, lv9, ys', A9, c9, f9, l9, b9', e9, -, -, hn9, rfl, hits9, hsp9, hcl9⟩ := hC.out.known _ _ hv9
        obtain rfl : b = n9 := by omega
        rw [hnode, Option.some.injEq, Prod.mk.injEq] at hn9
        obtain ⟨e1, rfl⟩ := hn9
        obtain rfl : h' = lv9 := by omega
        have hMAP := hC.out.map
        have hmay := (nodeAt_may hnode).1
        have hys := fun y hy => ((nodeAt_may hnode).2.1 y hy).1
        have hylen : ys.length ≤ 5 := by unfold nodeMay headB at hmay; simp at hmay; omega
        have hyk : 0 < h' → ∀ y ∈ ys, (f y.r).isSome = true := fun h0 => hcl9 (by rw [hsp9.1]; exact hsy) h0
        have HN2 := HNODE.out h' ys h' hh' (by rw [hxr, Int.toNat_natCast]; exact hnode)
        have HCALL := HL.out h' hh' ys A9 c9 vs vv ca
        rw [hxr] at d3 hv9
        have hfn := field_n
        replace hh' := Lib.hid hh'
        replace hxr := Lib.hid hxr
        replace hnode := Lib.hid hnode
        replace hsy := Lib.hid hsy
        replace hits9 := Lib.hid hits9
        replace hys := Lib.hid hys
        replace hyk := Lib.hid hyk
        replace HN2 := Lib.hid HN2
        replace HCALL := Lib.hid HCALL
        replace hv9 := Lib.hid hv9
        clear hsp9 hcl9 hmay e9 e1
        replace hMAP := Lib.hid hMAP
        go_wp2_with fail
        generalize hw3 : World.alloc wr _ = w3
        have x3 : Ext wr w3 := by rw [← hw3]; exact Ext.alloc _ _
        have r3 : w3.heap[wr.heap.size]? = some (.cells #[.int .u8 x.k, .int .u32 x.i, .int .u32 x.o, .int .i64 b, .slice A' x.val.length c'] 151 (0, 0)) := by rw [← hw3]; exact World.alloc_heap_at _ _ _ rfl
        clear hw3 d0 d1 d2 d3 d4
        have V3 := V.out.ext x3
        have C3 := V3.t.cen hC.out
        have gP : ∀ W, extRel.r w3 W → ∀ i, W.cell? ⟨w.heap.size, i, none⟩ = (poolCs s1 s2 s3 s4 gen root next dead)[i]? := fun W h => cells_row (row_ext (row_ext qr x3) h)
        have gX : ∀ W, extRel.r w3 W → ∀ i, W.cell? ⟨wr.heap.size, i, none⟩ = #[.int .u8 x.k, .int .u32 x.i, .int .u32 x.o, .int .i64 b, .slice A' x.val.length c'][i]? := fun W h => cells_row (row_ext r3 h)
        have gM : ∀ W, extRel.r w3 W → W.cell? ⟨p.cb, 5, none⟩ = some (.map (some p.mb)) := fun W h => by rw [cells_row (row_ext C3.row h)]; exact C3.c5
        refine region_start (by kernel_rfl) ?_
        refine any_freeT (w := w3) extRel (outsAt []) [true, true, true, true, true, true, true, true, true, true] 2 (by kernel_rfl) (by kernel_rfl) (by kernel_rfl) (by kernel_rfl) (by kernel_rfl) (by kernel_rfl) (by kernel_rfl) ?st2 (Rel.drew _ _) ?walk2
        case st2 => exact outsAt_stableG (fun _ h => by cases h)
        case walk2 =>
          intro K hK
          dsimp only [maskOps]
          repeat ((first | (refine free_plainM ?_ (by rfl) (by rfl) (fun W hW _ => ⟨W, ?_, Rel.refl _ W⟩) ?_; rotate_left; (first | (go_simp; with_reducible rfl) | (go_simp; done))) | (refine free_skipM (by rfl) ?_)); try simp only [Act.put, one_f, outB_f, outNew_f, outI_f, outNew_f, outLit_f, outDoneS_f, List.setIfInBounds_toArray, List.set_cons_zero, List.set_cons_succ])
          refine free_plainM (spanV h' A9 ys.length c9 f9 l9 b9') (by rfl) (by rfl) (fun W hW _ => ⟨W, ?_, Rel.refl _ W⟩) ?_
          · have hWx : Ext w3 W := hW
            have hm := run_lookup_one (P := Try.prog) W (C3.ext hWx).map 93 3 140 Try.underlying93 Try.underlying3 hv9.out
            go_simp
          simp only [Act.put, one_f, outB_f, outNew_f, outI_f, outNew_f, outLit_f, outDoneS_f, List.setIfInBounds_toArray, List.set_cons_zero, List.set_cons_succ]
          repeat ((first | (refine free_plainM ?_ (by rfl) (by rfl) (fun W hW _ => ⟨W, ?_, Rel.refl _ W⟩) ?_; rotate_left; (first | (go_simp; with_reducible rfl) | (go_simp; done))) | (refine free_skipM (by rfl) ?_)); try simp only [Act.put, one_f, outB_f, outNew_f, outI_f, outNew_f, outLit_f, outDoneS_f, List.setIfInBounds_toArray, List.set_cons_zero, List.set_cons_succ])
          refine free_nilM (hK _ _ fun W hW hF => ?_)
          have hWx : Ext w3 W := hW
          have x4 := x3.trans hWx
          clear hF hK gP gX gM hfn
          dsimp only [List.drop, List.length_cons, List.length_nil]
          have VW := V.out.ext x4
          have qW := row_ext qr x4
          have nW := row_ext nr x4
          clear hW hWx x3 r3 V3 C3
          replace VW := Lib.hid VW
          go_wp2_with fail
          refine (HCALL.out W VW.out hvs.out hys.out hylen hits9.out hsy.out hyk.out).mono ?_
          rintro e w6 ⟨F6, hm⟩
          have hstep : volsGo next vs0 (itemsS p.S h (xs.take (k + 1))) = volsGo next vs (itemsS p.S h' ys) := by
            rw [HN2.out, volsGo_append, hgo.out]
            rfl
          have FW := (F.out.ext x4).trans F6 hnew.out
          have hcw : p.cb < w.heap.size := Nat.lt_of_lt_of_le V.out.t.lt HI.out.t.off.size
          have hzW : w.heap.size + 1 < W.heap.size := (Array.getElem?_eq_some_iff.1 nW).1
          have q6 := (F6.block w.heap.size (by omega) (by omega) (fun e => (hnq.out _ e).1 rfl)).trans qW
          have n6 := (F6.block (w.heap.size + 1) (by omega) (by omega) (fun e => (hnq.out _ e).2 rfl)).trans nW
          rcases hg6 : volsGo next vs (itemsS p.S h' ys) with _ | vs'
          · rw [hg6] at hm hstep
            obtain rfl : e = .returned (.int .i64 8) := hm
            have HB : VolsQ p w1 refs nodes next vs0 (itemsS p.S h xs) vv0 w (.returned (.int .i64 8)) w6 := ⟨FW, by rw [HBAD.out hstep]⟩
            replace HB := Lib.hid HB
            clear q6 n6 FW F6 hstep x4 qW nW
            go_wp2_with fail
            refine QN_in ?_
            go_wp2_with fail
            go_ret
            exact HB.out
          · rw [hg6] at hm hstep
            obtain ⟨rfl, vv', ca', V6, N6⟩ := hm
            have IR : VRel p w1 refs nodes (poolCs s1 s2 s3 s4 gen root next dead) next vs0 xs h (some ⟨b9, off9, none⟩) c vv0 w (.int .i64 ((k : Int) + 1)) w6 := by
              refine ⟨k + 1, vs', vv', ca', hlt', rfl, hstep, volsGo_len next _ _ _ hvs.out hg6, V6, FW, Newer.trans hnew.out N6 (by omega), fun q hq => ?_, q6, n6⟩
              rcases N6 with e | ⟨g, e, e2⟩
              · exact hnq.out q (e ▸ hq)
              · rw [e] at hq
                cases hq
                omega
            replace IR := Lib.hid IR
            clear q6 n6 FW F6 hstep x4 qW nW V6 N6
            go_wp2_with fail
            refine QN_in ?_
            go_wp2_with fail
            refine ⟨IR.out, ?_⟩
            simp [intOf]
            omega
    · have hke : k = xs.length := by omega
      have HQ : VolsQ p w1 refs nodes next vs0 (itemsS p.S h xs) vv0 w (.returned (.int .i64 0)) wr := by
        rw [hke, List.take_length] at hgo
        exact ⟨F, by rw [hgo]; exact ⟨rfl, vv, ca, V, hnew⟩⟩
      replace HQ := Lib.hid HQ
      replace V := Lib.hid V
      replace F := Lib.hid F
      replace hnew := Lib.hid hnew
      replace hnq := Lib.hid hnq
      replace hgo := Lib.hid hgo
      replace hke := Lib.hid hke
      clear qr nr
      go_wp2
      go_ret
      exact HQ.out
end Go.Proofs.Ytlgbjpihmkeopaa
