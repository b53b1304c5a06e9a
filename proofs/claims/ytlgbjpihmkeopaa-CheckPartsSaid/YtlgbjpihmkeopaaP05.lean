/- Texts Told, Told2, Done, NRead, Told3, Told4, NReadR, joined. -/
import Derived.Test.YtlgbjpihmkeopaaP04
/- Contracts: the document's bytes of items and nodes. -/
namespace Go.Proofs.Ytlgbjpihmkeopaa
set_option linter.unusedSimpArgs false
set_option linter.unusedVariables false
open Go.RowKit

def ItOk (x : It) : Prop := (0 ≤ x.k ∧ x.k < 256) ∧ (0 ≤ x.i ∧ x.i < 4294967296) ∧ (0 ≤ x.o ∧ x.o < 4294967296) ∧ (0 ≤ x.r ∧ x.r < 256) ∧ x.val.length ≤ 12
def itBytes (x : It) : List UInt8 := UInt8.ofNat x.k.toNat :: (bytesOf x.i.toNat 4 ++ (bytesOf x.o.toNat 4 ++ (bytesOf x.r.toNat 2 ++ (UInt8.ofNat x.val.length :: x.val))))
theorem itBytes_len (x : It) : (itBytes x).length = 12 + x.val.length := by simp [itBytes, bytesOf_len]; omega
theorem numAt_bytes {l : List UInt8} {a k : Nat} (h : a + k ≤ l.length) : bytesOf (numAt l a k).toNat k = (l.drop a).take k := by
  unfold numAt
  rw [if_pos h]
  have hl : ((l.drop a).take k).length = k := by simp; omega
  have := bytesOf_numOf ((l.drop a).take k)
  rw [hl] at this
  simpa using this
theorem numAt_range {l : List UInt8} {a k : Nat} (h : a + k ≤ l.length) : 0 ≤ numAt l a k ∧ numAt l a k < 256 ^ k := by
  unfold numAt
  rw [if_pos h]
  have := numOf_lt ((l.drop a).take k)
  have hl : ((l.drop a).take k).length = k := by simp; omega
  rw [hl] at this
  refine ⟨Int.natCast_nonneg _, ?_⟩
  have h2 : ((numOf ((l.drop a).take k) : Nat) : Int) < ((256 ^ k : Nat) : Int) := Int.ofNat_lt.2 this
  rw [Int.natCast_pow] at h2
  exact h2
theorem take_split (l : List UInt8) (a b : Nat) : l.take (a + b) = l.take a ++ (l.drop a).take b := by rw [List.take_add]
theorem itemRead_some {l : List UInt8} {x : It} {n : Nat} (h : itemRead l = some (x, n)) : itBytes x = l.take n ∧ n ≤ l.length ∧ n = 12 + x.val.length ∧ ItOk x ∧ itB x.r x.val.length = true := by
  unfold itemRead at h
  split at h
  · cases h
  · rename_i hl
    split at h
    · rename_i hb
      simp only [Option.some.injEq, Prod.mk.injEq] at h
      obtain ⟨rfl, rfl⟩ := h
      have hs : szOf l = 12 + (l[11]?.getD 0).toNat := rfl
      have hv : (itAt l).val.length = szOf l - 12 := by simp [itAt]; omega
      have u0 := (l[0]?.getD 0).toNat_lt
      have u11 := (l[11]?.getD 0).toNat_lt
      have r1 := numAt_range (l := l) (a := 1) (k := 4) (by omega)
      have r5 := numAt_range (l := l) (a := 5) (k := 4) (by omega)
      have r9 := numAt_range (l := l) (a := 9) (k := 2) (by omega)
      have hb' := hb
      simp only [itB, decide_eq_true_eq] at hb'
      refine ⟨?_, by omega, by rw [hv]; omega, ⟨⟨by simp [itAt], by simp [itAt]; omega⟩, ⟨r1.1, r1.2⟩, ⟨r5.1, r5.2⟩, ⟨?_, ?_⟩, by rw [hv]; omega⟩, by rw [hv]; exact hb⟩
      · have e1 : l.take 1 = [l[0]?.getD 0] := by
          rcases l with _ | ⟨a, l⟩
          · simp at hl
          · simp
        have e11 : (l.drop 11).take 1 = [l[11]?.getD 0] := by
          rw [List.drop_eq_getElem_cons (by omega), List.getElem?_eq_getElem (by omega)]
          rfl
        have : l.take (szOf l) = l.take 1 ++ ((l.drop 1).take 4 ++ ((l.drop 5).take 4 ++ ((l.drop 9).take 2 ++ ((l.drop 11).take 1 ++ (l.drop 12).take (szOf l - 12))))) := by
          conv => lhs; rw [show szOf l = 1 + (4 + (4 + (2 + (1 + (szOf l - 12))))) by omega]
          rw [take_split l 1, take_split (l.drop 1) 4, List.drop_drop, take_split (l.drop (1 + 4)) 4, List.drop_drop, take_split (l.drop (1 + 4 + 4)) 2, List.drop_drop, take_split (l.drop (1 + 4 + 4 + 2)) 1, List.drop_drop]
        rw [this, e1, e11]
        unfold itBytes
        rw [hv]
        simp only [itAt]
        rw [numAt_bytes (by omega), numAt_bytes (by omega), numAt_bytes (by omega)]
        rw [hs, Nat.add_sub_cancel_left]
        simp
      · exact r9.1
      · rcases hb'.1 with h0 | h0 <;> omega
    · cases h

def itsBytes (xs : List It) : List UInt8 := xs.flatMap itBytes
theorem itsBytes_snoc (xs : List It) (x : It) : itsBytes (xs ++ [x]) = itsBytes xs ++ itBytes x := by simp [itsBytes]
theorem itsRead_some {l : List UInt8} : ∀ {k : Nat} {xs : List It} {r : List UInt8}, itsRead l k = some (xs, r) → l = itsBytes xs ++ r ∧ ∀ x ∈ xs, ItOk x ∧ itB x.r x.val.length = true := by
  intro k
  induction k with
  | zero => intro xs r h; simp only [itsRead, Option.some.injEq, Prod.mk.injEq] at h; obtain ⟨rfl, rfl⟩ := h; exact ⟨rfl, fun _ h => by cases h⟩
  | succ k ih =>
    intro xs r h
    unfold itsRead at h
    split at h
    · cases h
    · rename_i ys q hq
      split at h
      · cases h
      · rename_i x n hx
        simp only [Option.some.injEq, Prod.mk.injEq] at h
        obtain ⟨rfl, rfl⟩ := h
        obtain ⟨h1, h2⟩ := ih hq
        obtain ⟨g1, g2, g3, g4, g5⟩ := itemRead_some hx
        refine ⟨?_, ?_⟩
        · rw [itsBytes_snoc, g1, List.append_assoc, List.take_append_drop]; exact h1
        · intro y hy
          rcases List.mem_append.1 hy with hy | hy
          · exact h2 y hy
          · obtain rfl : y = x := by simpa using hy
            exact ⟨g4, g5⟩
theorem itsBytes_len (xs : List It) (h : ∀ x ∈ xs, ItOk x) : (itsBytes xs).length ≤ 24 * xs.length := by
  induction xs with
  | nil => simp [itsBytes]
  | cons x r ih =>
    have h1 := ih fun y hy => h y (by simp [hy])
    have h2 := itBytes_len x
    have h3 := (h x (by simp)).2.2.2.2
    simp only [itsBytes, List.flatMap_cons, List.length_append, List.length_cons] at h1 ⊢
    omega
def toldOf (lvl : Int) (xs : List It) : List UInt8 := 78 :: UInt8.ofNat lvl.toNat :: UInt8.ofNat xs.length :: itsBytes xs
end Go.Proofs.Ytlgbjpihmkeopaa
/- Contracts: the document's bytes of an item, of a node. -/
namespace Go.Proofs.Ytlgbjpihmkeopaa
set_option linter.unusedSimpArgs false
set_option linter.unusedVariables false
open Go.RowKit

theorem own_ext {w w' : World} {base n size : Nat} {e : TypeId} {v : Value} {xs : List Value} (h : w.ownsRow base e size v n xs) (hx : Ext w w') : w'.ownsRow base e size v n xs := by
  refine ⟨h.1, ?_⟩
  rcases h.2 with h0 | ⟨g, cap, cur, hv, hb, hg, rest⟩
  · exact .inl h0
  · exact .inr ⟨g, cap, cur, hv, hb, row_ext hg hx, rest⟩
theorem own_mono {w : World} {base base' n size : Nat} {e : TypeId} {v : Value} {xs : List Value} (h : w.ownsRow base e size v n xs) (hb : base' ≤ base) : w.ownsRow base' e size v n xs := by
  refine ⟨h.1, ?_⟩
  rcases h.2 with h0 | ⟨g, cap, cur, hv, hb', rest⟩
  · exact .inl h0
  · exact .inr ⟨g, cap, cur, hv, Nat.le_trans hb hb', rest⟩
theorem row_below {w w' : World} {B b : Nat} {o : Obj} (h : w.heap[b]? = some o) (hb : b < B) (hx : Below B w w') : w'.heap[b]? = some o := (hx.block b hb).trans h
end Go.Proofs.Ytlgbjpihmkeopaa
/- Appends to a row of the call's own, in regions that draw their order; items that are gathered. -/
namespace Go.Proofs.Ytlgbjpihmkeopaa
set_option linter.unusedSimpArgs false
set_option linter.unusedVariables false
open Go.RowKit

def Done (base : Nat) (e : TypeId) (size lo : Nat) (v : Value) (m : Nat) (ys : List Value) (v' : Value) (W : World) : Prop :=
  W.ownsRow base e size v' m ys ∧ (v'.ownBlock = v.ownBlock ∨ ∃ g, v'.ownBlock = some g ∧ lo ≤ g)
def appRel (base : Nat) (e : TypeId) (size lo : Nat) (v : Value) (n : Nat) (xs : List Value) (m : Nat) (ys : List Value) : Rel where
  rel W W' := W.grownBy W' v.ownBlock ∧ (W.ownsRow base e size v n xs → W'.ownsRow base e size v n xs) ∧ ∀ v', Done base e size lo v m ys v' W → Done base e size lo v m ys v' W'
  refl' W := ⟨World.grownBy.refl _ _, id, fun _ => id⟩
  trans' h k := ⟨h.1.trans k.1, fun x => k.2.1 (h.2.1 x), fun v' x => k.2.2 v' (h.2.2 v' x)⟩
  drew' W := ⟨⟨rfl, rfl, rfl, Nat.le_refl _, fun _ _ _ => rfl⟩, fun h => h.drew, fun v' h => ⟨h.1.drew, h.2⟩⟩

section
variable {base : Nat} {e : TypeId} {size lo : Nat} {v : Value} {n : Nat} {xs : List Value} {m : Nat} {ys : List Value}
theorem grown_of_ext {W W' : World} (h : Ext W W') (row : Option Nat) : W.grownBy W' row := ⟨h.os, h.tape, h.output, h.size, fun k hk _ => h.block k hk⟩
theorem appRel_ext {W W' : World} (h : Ext W W') : (appRel base e size lo v n xs m ys).r W W' :=
  ⟨grown_of_ext h _, fun x => own_ext x h, fun _ x => ⟨own_ext x.1 h, x.2⟩⟩
theorem appRel_cell {W W' : World} (h : (appRel base e size lo v n xs m ys).r W W') {p : Addr} {u : Value} (hp : v.ownBlock ≠ some p.block) (hc : W.cell? p = some u) : W'.cell? p = some u :=
  World.grownBy.cell h.1 hc (fun x => hp x.symm)
theorem appRel_row {W W' : World} (h : (appRel base e size lo v n xs m ys).r W W') {b : Nat} {o : Obj} (hp : v.ownBlock ≠ some b) (hc : W.heap[b]? = some o) : W'.heap[b]? = some o :=
  (h.1.block b (Array.getElem?_eq_some_iff.1 hc).1 (fun x => hp x.symm)).trans hc
theorem own_shrink {w : World} {g cap m : Nat} {news : List Value} (h : w.ownsRow base e size (.slice (some ⟨g, 0, none⟩) (n + m) cap) (n + m) (xs ++ news)) (hx : xs.length = n * size) : w.ownsRow base e size (.slice (some ⟨g, 0, none⟩) n cap) n xs := by
  refine ⟨hx, ?_⟩
  rcases h.2 with ⟨h0, _⟩ | ⟨g', cap', cur, hv, hb, hg, hnc, hcm, hcs, htk⟩
  · simp at h0
  · simp only [Value.slice.injEq, Option.some.injEq, Addr.mk.injEq, and_true, true_and] at hv
    obtain ⟨rfl, rfl⟩ := hv
    refine .inr ⟨g, cap, cur, rfl, hb, hg, by omega, hcm, hcs, ?_⟩
    have : cur.toList.take (n * size) = (cur.toList.take ((n + m) * size)).take (n * size) := by
      rw [List.take_take, Nat.min_eq_left (Nat.mul_le_mul_right _ (Nat.le_add_right _ _))]
    rw [this, htk, ← hx, List.take_left]

theorem run_append_done {P : Program} (W : World) (t ty : TypeId) (i : TypeInfo) (z : Value) (bytes : Nat) (ht : P.underlying t = some (.slice e)) (hi : P.info? e = some i) (hz : i.zero = some z)
    (hsize : i.size = size) (hby : i.bytes = bytes) (hzs : z.cells.size = size) (hsz : 0 < size) (hown : W.ownsRow base e size v n xs)
    (a : Addr) (k c : Nat) (news : List Value) (hl : news.length = k * size) (hnews : ∀ j u, news[j]? = some u → W.cell? (a.add j) = some u) (h1 : ∀ u ∈ news, u.oneCell' = true)
    (hn : n + k < 1073741824) (hbytes : bytes ≤ 65536) (hbase : base ≤ W.heap.size) (hlo : lo ≤ W.heap.size) :
    ∃ v' w', (Builtin.append_ #[t, t] ty #[v, .slice (some a) k c]).run P W = .ok v' w' ∧ Done base e size lo v (n + k) (xs ++ news) v' w' ∧ (appRel base e size lo v n xs (n + k) (xs ++ news)).r W w' := by
  have hb : (n + k) * bytes ≤ 140737488355328 := Nat.le_trans (Nat.mul_le_mul_left _ hbytes) (by omega)
  have hm : n + k ≤ maxLen := by unfold maxLen; omega
  obtain ⟨v', w', hr, h2, h3, _, h5⟩ := run_append_own_at (P := P) W base t ty e i z size bytes ht hi hz hsize hby hzs hsz v n xs hown a k c news hl hnews h1 hm hb hbase
  have hD : Done base e size lo v (n + k) (xs ++ news) v' w' := ⟨h2, h5.imp id fun e => ⟨_, e, hlo⟩⟩
  rcases hown.2 with ⟨rfl, rfl⟩ | ⟨g, cap, cur, rfl, hbg, hg, hnc, hcm, hcs, htk⟩
  · exact ⟨v', w', hr, hD, appRel_ext ⟨h3.os, h3.tape, h3.output, h3.size, fun k hk => h3.block k hk (by simp [Value.ownBlock])⟩⟩
  · by_cases hroom : n + k ≤ cap
    · obtain ⟨w2, hr2, g2, g3⟩ := run_append_fits (P := P) W base t ty e i size ht hi hsize g n cap xs hown a k c news hl hnews h1 hroom
      refine ⟨_, w2, hr2, ⟨g2, .inl rfl⟩, g3, fun _ => own_shrink g2 hown.1, fun u hu => ⟨?_, hu.2⟩⟩
      rcases hu.1.2 with h0 | ⟨g', cap', cur', rfl, hbg', hg', hnc', hcm', hcs', htk'⟩
      · exact ⟨hu.1.1, .inl h0⟩
      · by_cases hgg : g' = g
        · subst hgg
          rw [hg] at hg'
          simp only [Option.some.injEq, Obj.cells.injEq] at hg'
          obtain ⟨rfl, _⟩ := hg'
          obtain rfl : cap' = cap := by
            have : cap' * size = cap * size := by rw [← hcs', ← hcs]
            exact Nat.eq_of_mul_eq_mul_right hsz this
          exact g2
        · exact ⟨hu.1.1, .inr ⟨g', cap', cur', rfl, hbg', (g3.block g' (Array.getElem?_eq_some_iff.1 hg').1 (by simpa using hgg)).trans hg', hnc', hcm', hcs', htk'⟩⟩
    · have holds : ∀ j u, xs[j]? = some u → W.cell? ((⟨g, 0, none⟩ : Addr).add j) = some u := hown.cells (g := g) rfl
      subst hsize
      subst hby
      have hr' := run_append_grow (P := P) W t ty e i z ht hi hz ⟨g, 0, none⟩ n cap xs hown.1 holds a k c news hl hnews (by omega) (by unfold maxLen at hm; omega) (growslice_fits (by omega) hb)
      rw [hr] at hr'
      cases hr'
      exact ⟨_, _, hr, hD, appRel_ext ((Ext.drew W).trans (Ext.alloc _ _))⟩

def outDone (base : Nat) (e : TypeId) (size lo : Nat) (v : Value) (m : Nat) (ys : List Value) : Outs := ⟨Value, fun u => u, fun u W => Done base e size lo v m ys u W⟩
theorem outDone_f (base : Nat) (e : TypeId) (size lo : Nat) (v : Value) (m : Nat) (ys : List Value) (u : Value) : (outDone base e size lo v m ys).f u = u := rfl
theorem outDone_stable : ∀ p, StableG (appRel base e size lo v n xs m ys) ((outDone base e size lo v m ys).φ p) := fun p _ _ he h => he.2.2 p h
def outLit (lo n : Nat) (ty : TypeId) (cs : Array Value) : Outs := ⟨Nat, fun b => .slice (some ⟨b, 0, none⟩) n n, fun b W => W.heap[b]? = some (.cells cs ty (0, 0)) ∧ lo ≤ b⟩
theorem outLit_f (lo n : Nat) (ty : TypeId) (cs : Array Value) (b : Nat) : (outLit lo n ty cs).f b = .slice (some ⟨b, 0, none⟩) n n := rfl
theorem outLit_stable (lo n : Nat) (ty : TypeId) (cs : Array Value) : ∀ p, Stable ((outLit lo n ty cs).φ p) := fun p W W' he h =>
  ⟨(Below.block he p (Array.getElem?_eq_some_iff.1 h.1).1).trans h.1, h.2⟩
theorem outLit_stableG {lo' n' : Nat} {ty : TypeId} {cs : Array Value} (hlo : ∀ g, v.ownBlock = some g → g < lo') : ∀ p, StableG (appRel base e size lo v n xs m ys) ((outLit lo' n' ty cs).φ p) := fun p _ _ he h =>
  ⟨appRel_row he (fun x => by have := hlo p x; have := h.2; omega) h.1, h.2⟩
theorem hardAt_lit {P : Program} {o : Oper} {a : Act} {W : World} {lo' n' : Nat} {ty : TypeId} {cs : Array Value} (hr : (execOp a.eval o).run P W = .ok (.value (.slice (some ⟨W.heap.size, 0, none⟩) n' n')) (W.alloc (.cells cs ty)))
    (hlo : lo' ≤ W.heap.size) : hardAt P o a W (outLit lo' n' ty cs) := by
  unfold hardAt; rw [hr]; exact ⟨W.heap.size, rfl, ⟨World.alloc_heap_at _ _ _ rfl, hlo⟩, Ext.alloc _ _⟩
theorem hardAt_litG {P : Program} {o : Oper} {a : Act} {W : World} {lo' n' : Nat} {ty : TypeId} {cs : Array Value} (hr : (execOp a.eval o).run P W = .ok (.value (.slice (some ⟨W.heap.size, 0, none⟩) n' n')) (W.alloc (.cells cs ty)))
    (hlo : lo' ≤ W.heap.size) : hardAtG (appRel base e size lo v n xs m ys) P o a W (outLit lo' n' ty cs) := by
  unfold hardAtG; rw [hr]; exact ⟨W.heap.size, rfl, ⟨World.alloc_heap_at _ _ _ rfl, hlo⟩, appRel_ext (Ext.alloc _ _)⟩
theorem row_adds {W : World} {b : Nat} {cs : Array Value} {t : TypeId} (h : W.heap[b]? = some (.cells cs t (0, 0))) : ∀ j u, cs.toList[j]? = some u → W.cell? ((⟨b, 0, none⟩ : Addr).add j) = some u := by
  intro j u hj
  have h2 : W.cell? ⟨b, 0 + j, none⟩ = some u := by rw [cells_row h]; simpa using hj
  rw [← h2]
  unfold Addr.add
  split
  · subst_vars; rfl
  · rfl
theorem own_setCell {w : World} {base n size : Nat} {e : TypeId} {v : Value} {xs : List Value} (h : w.ownsRow base e size v n xs) {p : Addr} (hp : p.block < base) (u : Value) : (w.setCell p u).ownsRow base e size v n xs := by
  refine ⟨h.1, ?_⟩
  rcases h.2 with h0 | ⟨g, cap, cur, hv, hb, hg, rest⟩
  · exact .inl h0
  · exact .inr ⟨g, cap, cur, hv, hb, (Below.heap_setCell _ _ _ _ (by omega)).trans hg, rest⟩
end

def Apart (v u : Value) : Prop := ∀ a n c, u = .slice (some a) n c → 0 < n → v.ownBlock ≠ some a.block
theorem Bys.grown {w w' : World} {u : Value} {l : List UInt8} {row : Option Nat} (h : Bys w w.heap.size u l) (hg : w.grownBy w' row) (ha : ∀ a n c, u = .slice (some a) n c → 0 < n → row ≠ some a.block) : Bys w' w'.heap.size u l := by
  obtain ⟨A, c, e, hc, hm, hr⟩ := h
  refine ⟨A, c, e, hc, hm, hr.1, fun hn => ?_⟩
  obtain ⟨b, off, rfl, hb, hcell⟩ := hr.2 hn
  refine ⟨b, off, rfl, Nat.lt_of_lt_of_le hb hg.size, fun j x hx => ?_⟩
  exact World.grownBy.cell hg (hcell j x hx) (fun x => ha _ _ _ e hn x.symm)
theorem Apart.of_from {v u : Value} {lo : Nat} (hf : From lo u) (hv : ∀ g, v.ownBlock = some g → g < lo) : Apart v u := by
  intro a n c e _ hx
  have := hv _ hx
  have := hf a n c e
  omega
theorem own_lt {w : World} {base n size : Nat} {e : TypeId} {v : Value} {xs : List Value} (h : w.ownsRow base e size v n xs) : ∀ g, v.ownBlock = some g → base ≤ g ∧ g < w.heap.size := by
  intro g hg
  rcases h.2 with ⟨rfl, _⟩ | ⟨g', cap, cur, rfl, hb, hg', _⟩
  · simp [Value.ownBlock] at hg
  · simp only [Value.ownBlock, Option.some.injEq] at hg
    subst hg
    exact ⟨hb, (Array.getElem?_eq_some_iff.1 hg').1⟩

theorem own_slice {w : World} {base n size : Nat} {e : TypeId} {v : Value} {xs : List Value} (h : w.ownsRow base e size v n xs) : ∃ A c, v = .slice A n c ∧ n ≤ c ∧ c ≤ maxLen := by
  rcases h.2 with ⟨rfl, h0⟩ | ⟨g, cap, cur, rfl, _, _, hnc, hcm, _⟩
  · exact ⟨none, 0, by rw [h0], by omega, by simp [maxLen]⟩
  · exact ⟨_, cap, rfl, hnc, hcm⟩
def ItsF (lo : Nat) (w : World) (v : Value) (xs : List It) : Prop :=
  ∃ ps : List (It × Value), ps.map (·.1) = xs ∧ (∃ A c, v = .slice A xs.length c ∧ xs.length ≤ c ∧ c ≤ maxLen ∧ Rd w w.heap.size 5 A xs.length (cells5 ps)) ∧ (∀ p ∈ ps, (∃ A c, p.2 = .slice A p.1.val.length c) ∧ Bys w w.heap.size p.2 p.1.val) ∧ From lo v ∧ ∀ p ∈ ps, From lo p.2
theorem ItsF.its {lo : Nat} {w : World} {v : Value} {xs : List It} (h : ItsF lo w v xs) : Its w w.heap.size v xs := by
  obtain ⟨ps, h1, h2, h3, _⟩ := h
  exact ⟨ps, h1, h2, h3⟩
theorem ItsF.mono {lo lo' : Nat} {w : World} {v : Value} {xs : List It} (h : ItsF lo w v xs) (hl : lo' ≤ lo) : ItsF lo' w v xs := by
  obtain ⟨ps, h1, h2, h3, h4, h5⟩ := h
  exact ⟨ps, h1, h2, h3, h4.mono hl, fun p hp => (h5 p hp).mono hl⟩
theorem ItsF.keep {lo : Nat} {w w' : World} {v : Value} {xs : List It} (h : ItsF lo w v xs) (hs : w.heap.size ≤ w'.heap.size) (hk : ∀ p : Addr, lo ≤ p.block → p.block < w.heap.size → w'.cell? p = w.cell? p) : ItsF lo w' v xs := by
  have key : ∀ {size n : Nat} {A : Option Addr} {us : List Value} {c : Nat}, Rd w w.heap.size size A n us → From lo (.slice A n c) → Rd w' w'.heap.size size A n us := by
    intro size n A us c hr hf
    refine ⟨hr.1, fun hn => ?_⟩
    obtain ⟨b, off, rfl, hb, hcell⟩ := hr.2 hn
    exact ⟨b, off, rfl, Nat.lt_of_lt_of_le hb hs, fun j x hx => (hk ⟨b, off + j, none⟩ (hf ⟨b, off, none⟩ _ _ rfl) hb).trans (hcell j x hx)⟩
  obtain ⟨ps, h1, ⟨A, c, e, h2, h3, h4⟩, h5, h6, h7⟩ := h
  refine ⟨ps, h1, ⟨A, c, e, h2, h3, key h4 (by rw [← e]; exact h6)⟩, fun p hp => ⟨(h5 p hp).1, ?_⟩, h6, h7⟩
  obtain ⟨_, A', c', e', g2, g3, g4⟩ := h5 p hp
  exact ⟨A', c', e', g2, g3, key g4 (by rw [← e']; exact h7 p hp)⟩
theorem ItsF.ext {lo : Nat} {w w' : World} {v : Value} {xs : List It} (h : ItsF lo w v xs) (hx : Ext w w') : ItsF lo w' v xs := h.keep hx.size fun _ _ hp => Below.cell hx hp

abbrev item5 (x : It) (u : Value) : List Value := [.int .u8 x.k, .int .u32 x.i, .int .u32 x.o, .int .i64 x.r, u]
theorem cells5_snoc (ps : List (It × Value)) (x : It) (u : Value) : cells5 (ps ++ [(x, u)]) = cells5 ps ++ item5 x u := by rw [cells5_append]; rfl
def Row5 (base lo : Nat) (w : World) (v : Value) (ps : List (It × Value)) : Prop :=
  w.ownsRow base 151 5 v ps.length (cells5 ps) ∧ ∀ p ∈ ps, ((∃ A c, p.2 = .slice A p.1.val.length c) ∧ From lo p.2) ∧ Bys w w.heap.size p.2 p.1.val ∧ Apart v p.2
theorem Row5.nil (base lo : Nat) (w : World) : Row5 base lo w (.slice none 0 0) [] := ⟨World.ownsRow_nil _ _ _ _, fun _ h => by cases h⟩
theorem Row5.ext {base lo : Nat} {w w' : World} {v : Value} {ps : List (It × Value)} (h : Row5 base lo w v ps) (hx : Ext w w') : Row5 base lo w' v ps :=
  ⟨own_ext h.1 hx, fun p hp => ⟨(h.2 p hp).1, ((h.2 p hp).2.1.below hx).more hx.size, (h.2 p hp).2.2⟩⟩
theorem Row5.push {base lo lo2 : Nat} {w W : World} {v v' : Value} {ps : List (It × Value)} (h : Row5 base lo w v ps) (x : It) (A : Option Addr) (c : Nat) (hb : Bys w w.heap.size (.slice A x.val.length c) x.val) (hf : From lo (.slice A x.val.length c)) (ha : Apart v (.slice A x.val.length c))
    (hl : lo2 = w.heap.size) (hD : Done base 151 5 lo2 v (ps.length + 1) (cells5 ps ++ item5 x (.slice A x.val.length c)) v' W) (hg : w.grownBy W v.ownBlock) : Row5 base lo W v' (ps ++ [(x, .slice A x.val.length c)]) := by
  subst hl
  refine ⟨by rw [cells5_snoc, List.length_append]; exact hD.1, ?_⟩
  have key : ∀ u l, Bys w w.heap.size u l → Apart v u → Bys W W.heap.size u l ∧ Apart v' u := by
    intro u l hu hau
    refine ⟨hu.grown hg hau, fun a n c e hn => ?_⟩
    rcases hD.2 with h1 | ⟨g, h1, h2⟩
    · rw [h1]; exact hau a n c e hn
    · rw [h1]
      intro hx
      simp only [Option.some.injEq] at hx
      obtain ⟨A', c', e', _, _, hr⟩ := hu
      rw [e] at e'
      simp only [Value.slice.injEq] at e'
      obtain ⟨e1, e2, _⟩ := e'
      obtain ⟨b, off, e3, hbb, _⟩ := hr.2 (by omega)
      rw [← e1] at e3
      simp only [Option.some.injEq] at e3
      rw [e3] at hx
      simp at hx
      omega
  intro p hp
  rcases List.mem_append.1 hp with hp | hp
  · have := h.2 p hp
    exact ⟨this.1, key _ _ this.2.1 this.2.2⟩
  · obtain rfl : p = (x, .slice A x.val.length c) := by simpa using hp
    exact ⟨⟨⟨_, _, rfl⟩, hf⟩, key _ _ hb ha⟩
theorem Row5.setCell {base lo : Nat} {w : World} {v : Value} {ps : List (It × Value)} (h : Row5 base lo w v ps) {p : Addr} (hp : p.block < base) (hl : p.block < lo) (u : Value) : Row5 base lo (w.setCell p u) v ps :=
  ⟨own_setCell h.1 hp u, fun q hq => ⟨(h.2 q hq).1, by simpa using (h.2 q hq).2.1.setCell (h.2 q hq).1.2 hl u, (h.2 q hq).2.2⟩⟩
theorem Row5.its {base lo : Nat} {w : World} {v : Value} {ps : List (It × Value)} (h : Row5 base lo w v ps) (hl : lo ≤ base) : ItsF lo w v (ps.map (·.1)) ∧ ∃ A c, v = .slice A ps.length c := by
  have hf : From base v := From.of_own h.1
  obtain ⟨A, c, e, h1, h2⟩ : ∃ A c, v = .slice A ps.length c ∧ ps.length ≤ c ∧ c ≤ maxLen := by
    rcases h.1.2 with ⟨rfl, h0⟩ | ⟨g, cap, cur, rfl, _, _, hnc, hcm, _⟩
    · exact ⟨none, 0, by rw [h0], by omega, by simp [maxLen]⟩
    · exact ⟨_, cap, rfl, hnc, hcm⟩
  refine ⟨⟨ps, rfl, ⟨A, c, by rw [List.length_map]; exact e, by rw [List.length_map]; exact h1, h2, ?_⟩, fun p hp => ⟨(h.2 p hp).1.1, (h.2 p hp).2.1⟩, hf.mono hl, fun p hp => (h.2 p hp).1.2⟩, A, c, e⟩
  rw [List.length_map]
  have := h.1
  rw [e] at this
  exact Rd.of_own this
theorem its_from {w : World} {lo : Nat} {xs : List It} {A : Option Addr} {n' c' : Nat} (h : ItsF lo w (.slice A n' c') xs) (b off n c : Nat) (j : Nat) (e : (Value.slice A n' c') = .slice (some ⟨b, off, none⟩) n c) (hn : 0 < n) : lo ≤ (⟨b, j, none⟩ : Addr).block := by
  obtain ⟨ps, h1, h2, h3, h4, h5⟩ := h
  exact h4 ⟨b, off, none⟩ _ _ e
end Go.Proofs.Ytlgbjpihmkeopaa
/- Contracts: the node of a block. -/
namespace Go.Proofs.Ytlgbjpihmkeopaa
set_option linter.unusedSimpArgs false
set_option linter.unusedVariables false
open Go.RowKit

theorem itsRead_none {l : List UInt8} {k : Nat} (h : itsRead l k = none) : ∀ m, k ≤ m → itsRead l m = none := by
  intro m hm
  induction m with
  | zero =>
    obtain rfl : k = 0 := by omega
    exact h
  | succ m ih =>
    rcases Nat.lt_or_ge k (m + 1) with h' | h'
    · unfold itsRead; rw [ih (by omega)]
    · obtain rfl : k = m + 1 := by omega
      exact h
theorem itsRead_succ {l r : List UInt8} {k : Nat} {xs : List It} (h : itsRead l k = some (xs, r)) : itsRead l (k + 1) = match itemRead r with | none => none | some (x, n) => some (xs ++ [x], r.drop n) := by
  conv => lhs; unfold itsRead
  rw [h] <;> rfl
theorem itsRead_bad {l r : List UInt8} {k : Nat} {xs : List It} (h : itsRead l k = some (xs, r)) (hr : itemRead r = none) : ∀ m, k < m → itsRead l m = none := by
  intro m hm
  have : itsRead l (k + 1) = none := by rw [itsRead_succ h, hr]
  exact itsRead_none this m (by omega)
theorem itsRead_next {l r : List UInt8} {k n : Nat} {xs : List It} {x : It} (h : itsRead l k = some (xs, r)) (hr : itemRead r = some (x, n)) : itsRead l (k + 1) = some (xs ++ [x], r.drop n) := by rw [itsRead_succ h, hr]
def nodeOf (p0 p1 p2 : Nat) (l7 : List UInt8) : Option (Int × List It) :=
  if p0 = 78 ∧ p2 ≤ 5 then
    match itsRead l7 p2 with
    | none => none
    | some (xs, r) => if nodeMay p1 xs = true ∧ zeros r = true then some ((p1 : Int), xs) else none
  else none
theorem nodeRead_of {l : List UInt8} (hl : l.length = 128) (hs : sumOk l = true) : nodeRead l = nodeOf (l[4]?.getD 0).toNat (l[5]?.getD 0).toNat (l[6]?.getD 0).toNat (l.drop 7) := by
  unfold nodeRead nodeOf
  have : (l[4]?.getD 0) = 78 ↔ (l[4]?.getD 0).toNat = 78 := by
    constructor
    · intro h; rw [h]; rfl
    · intro h; exact UInt8.toNat.inj h
  simp only [hl, hs, this, true_and] <;> rfl
theorem nodeOf_head {p0 p1 p2 : Nat} {l7 : List UInt8} (h : ¬(p0 = 78 ∧ p2 ≤ 5)) : nodeOf p0 p1 p2 l7 = none := by unfold nodeOf; rw [if_neg h]
theorem nodeOf_none {p1 p2 : Nat} {l7 : List UInt8} (h : itsRead l7 p2 = none) : nodeOf 78 p1 p2 l7 = none := by
  unfold nodeOf
  split
  · rw [h]
  · rfl
theorem nodeOf_some {p1 p2 : Nat} {l7 r : List UInt8} {xs : List It} (h2 : p2 ≤ 5) (h : itsRead l7 p2 = some (xs, r)) : nodeOf 78 p1 p2 l7 = if nodeMay p1 xs = true ∧ zeros r = true then some ((p1 : Int), xs) else none := by
  unfold nodeOf
  rw [if_pos ⟨rfl, h2⟩, h]
theorem itsRead_tail {l r : List UInt8} {k : Nat} {xs : List It} (h : itsRead l k = some (xs, r)) (hk : k ≤ 5) (hl : l.length = 121) : 0 < r.length ∧ r.length ≤ 121 := by
  obtain ⟨e, hx⟩ := itsRead_some h
  have h1 := itsBytes_len xs fun x hx' => (hx x hx').1
  have h2 := itsRead_len h
  have h3 : l.length = (itsBytes xs).length + r.length := by rw [e, List.length_append]
  omega
def NodeP (lo : Nat) (q : Option (Int × List It)) (u : Value) (W : World) : Prop :=
  match q with
  | none => ∃ e : Int, e ≠ 0 ∧ u = .tuple #[nodeV 0 none 0 0, .int .i64 e]
  | some (lvl, xs) => ∃ A c, u = .tuple #[nodeV lvl A xs.length c, .int .i64 0] ∧ ItsF lo W (.slice A xs.length c) xs

def NzI (W : World) (v : Value) : Prop := ∀ b off n c i u, v = .slice (some ⟨b, off, none⟩) n c → i < n → W.cell? ⟨b, off + i * 5 + 4, none⟩ = some u → Nz W u
theorem NzI.keep {W W' : World} {v : Value} (h : NzI W v) (hc : ∀ b off n c, v = .slice (some ⟨b, off, none⟩) n c → 0 < n → ∀ j, W'.cell? ⟨b, j, none⟩ = W.cell? ⟨b, j, none⟩) (hn : ∀ u, Nz W u → Nz W' u) : NzI W' v := fun b off n c i u e hi hu =>
  hn u (h b off n c i u e hi (by rw [← hc b off n c e (by omega)]; exact hu))
theorem NzI.ext {W W' : World} {v : Value} (h : NzI W v) (hx : Ext W W') (hb : ∀ b off n c, v = .slice (some ⟨b, off, none⟩) n c → 0 < n → b < W.heap.size) : NzI W' v :=
  h.keep (fun b off n c e hn j => Below.cell hx (p := ⟨b, j, none⟩) (hb b off n c e hn)) fun u hu => hu.ext hx
theorem Row5.nzi {base lo : Nat} {w : World} {v : Value} {ps : List (It × Value)} (h : Row5 base lo w v ps) (hz : ∀ p ∈ ps, Nz w p.2) : NzI w v := fun b off n c i u e hi hu => by
  subst e
  obtain ⟨A, c', e', -⟩ := own_slice h.1
  simp only [Value.slice.injEq] at e'
  obtain ⟨rfl, rfl, rfl⟩ := e'
  have h1 := (Rd.of_own h.1).2 (by omega)
  obtain ⟨b', off', e, -, hcell⟩ := h1
  simp only [Option.some.injEq, Addr.mk.injEq, and_true] at e
  obtain ⟨rfl, rfl⟩ := e
  have h2 := hcell (i * 5 + 4) _ (cells5_at ps i hi).2.2.2.2
  rw [← Nat.add_assoc, hu] at h2
  rw [Option.some.inj h2]
  exact hz _ (List.getElem_mem hi)
theorem nz_push {w W : World} {v : Value} {ps : List (It × Value)} {base lo : Nat} (h : Row5 base lo w v ps) (hz : ∀ p ∈ ps, Nz w p.2) {x : It} {u : Value} (hu : Nz w u) (ha : Apart v u) (hg : w.grownBy W v.ownBlock) (q : Addr) (t : Value) : ∀ p ∈ ps ++ [(x, u)], Nz (W.setCell q t) p.2 := by
  have key : ∀ u, Nz w u → Apart v u → Nz (W.setCell q t) u := fun u hu hau => Nz.setCell (fun a n c e hn => by
    obtain ⟨cs, ty, hr⟩ := hu a n c e hn
    exact ⟨cs, ty, (hg.block a.block (Array.getElem?_eq_some_iff.1 hr).1 (fun x => hau a n c e hn x.symm)).trans hr⟩) q t
  intro p hp
  rcases List.mem_append.1 hp with hp | hp
  · exact key _ (hz p hp) (h.2 p hp).2.2
  · obtain rfl : p = (x, u) := by simpa using hp
    exact key _ hu ha
def NodeZ (lo : Nat) (q : Option (Int × List It)) (u : Value) (W : World) : Prop :=
  match q with
  | none => ∃ e : Int, e ≠ 0 ∧ u = .tuple #[nodeV 0 none 0 0, .int .i64 e]
  | some (lvl, xs) => ∃ A c, u = .tuple #[nodeV lvl A xs.length c, .int .i64 0] ∧ ItsF lo W (.slice A xs.length c) xs ∧ NzI W (.slice A xs.length c)
theorem NodeZ.nodeP {lo : Nat} {q : Option (Int × List It)} {u : Value} {W : World} (h : NodeZ lo q u W) : NodeP lo q u W := by
  rcases q with _ | ⟨lvl, xs⟩
  · exact h
  · obtain ⟨A, c, h1, h2, -⟩ := h
    exact ⟨A, c, h1, h2⟩

theorem ncheck_all (lvl : Int) (A : Option Addr) (n c : Nat) (xs : List It) (w : World) (hx : Its w w.heap.size (.slice A n c) xs) :
    Calls Try.prog 112 #[nodeV lvl A n c] w (Ret (.int .i64 (errOf (nodeMay lvl xs))) w) := by
  by_cases h : headB lvl n = true
  · exact ncheck_any lvl A n c xs w hx h
  · have hn : n = xs.length := hx.at_.1
    have h' : headB lvl n = false := by simpa using h
    have : nodeMay lvl xs = false := by unfold nodeMay; rw [← hn, h']; rfl
    rw [this]
    exact ncheck_head lvl A n c h' w
theorem Try.info_item : (Try.prog.info? 151).map (fun i => (i.zero, i.size, i.bytes)) = some (some (.agg #[.int .u8 0, .int .u32 0, .int .u32 0, .int .i64 0, .slice none 0 0]), 5, 48) := by kernel_rfl

abbrev badNode (e : Int) : Value := .tuple #[nodeV 0 none 0 0, .int .i64 e]

set_option maxHeartbeats 4000000 in
set_option maxRecDepth 100000 in
theorem nreadz_any (v : Value) (l : List UInt8) (w : World) (h : Bys w w.heap.size v l) :
    Calls Try.prog 124 #[v] w (RetS (NodeZ w.heap.size (nodeRead l)) w) := by
  by_cases hl : l.length = 128
  case neg =>
    have hq : nodeRead l = none := by unfold nodeRead; rw [if_neg (fun x => hl x.1)]
    rw [hq]
    have HO := Lib.hid (fun W hW => open_len v l hl W hW)
    go_enter Try.func124, Try.ntmps124
    go_wp2_with fail
    generalize hw1 : (World.alloc _ _) = w1
    have b1 : Ext w w1 := by rw [← hw1]; exact Ext.alloc _ _
    have r1 : w1.heap[w.heap.size]? = some (.cells #[.int .i64 0, .slice none 0 0] 104 (0, 0)) := by rw [← hw1]; exact World.alloc_heap_at _ _ _ rfl
    clear hw1
    refine (HO.out _ ((h.below b1).more b1.size)).mono ?_
    rintro e w2 ⟨rfl, hB⟩
    have b2 : Below w.heap.size w w2 := Ext.trans b1 hB
    have r2 := row_ext r1 hB
    have k2 := cells_row r2
    have f2 := frozen_row r2
    go_wp2
    refine bodyPost_ret (v := badNode 3) (by simp [results, Try.results124, go_sem, k2]) rfl ⟨_, rfl, ⟨3, by decide, rfl⟩, (by repeat' (first | with_reducible exact Below.refl _ _ | with_reducible assumption | with_reducible apply Below.drew | with_reducible apply below_drewN | with_reducible refine Below.alloc ?_ ?_ _ | with_reducible refine Below.setCell ?_ ?_ _ | (simp; done) | (simp; omega) | omega))⟩
  case pos =>
    have HO := Lib.hid (fun W hW => open_any v l hl W hW)
    generalize hR : nodeRead l = R
    replace hR := Lib.hid hR.symm
    go_enter Try.func124, Try.ntmps124
    go_wp2_with fail
    generalize hw1 : (World.alloc _ _) = w1
    have b1 : Ext w w1 := by rw [← hw1]; exact Ext.alloc _ _
    have r1 : w1.heap[w.heap.size]? = some (.cells #[.int .i64 0, .slice none 0 0] 104 (0, 0)) := by rw [← hw1]; exact World.alloc_heap_at _ _ _ rfl
    clear hw1
    refine (HO.out _ ((h.below b1).more b1.size)).mono ?_
    clear HO h
    rintro e w2 ⟨u, rfl, hu, hB⟩
    have b2 : Ext w w2 := Ext.trans b1 hB
    have r2 := row_ext r1 hB
    have s1 : w.heap.size < w1.heap.size := (Array.getElem?_eq_some_iff.1 r1).1
    by_cases hs : sumOk l = true
    case neg =>
      have hs' : sumOk l = false := by simpa using hs
      obtain rfl : R = none := by rw [hR.out]; unfold nodeRead; rw [if_neg (fun x => hs x.2.1)]
      rw [hs'] at hu
      simp only [Bool.false_eq_true, if_false] at hu
      subst hu
      clear b1 r1 hB hR hs hs'
      have b2' : Below w.heap.size w w2 := b2
      have k2 := cells_row r2
      have f2 := frozen_row r2
      go_wp2
      refine bodyPost_ret (v := badNode 8) (by simp [results, Try.results124, go_sem, k2]) rfl ⟨_, rfl, ⟨8, by decide, rfl⟩, (by repeat' (first | with_reducible exact Below.refl _ _ | with_reducible assumption | with_reducible apply Below.drew | with_reducible apply below_drewN | with_reducible refine Below.alloc ?_ ?_ _ | with_reducible refine Below.setCell ?_ ?_ _ | (simp; done) | (simp; omega) | omega))⟩
    case pos =>
      rw [hs, if_pos rfl] at hu
      obtain ⟨u', rfl, A, c, rfl, hb, hf⟩ := hu
      have hb3 : (l.drop 4).length = 124 := by simp; omega
      obtain ⟨_, hc, hm, hA⟩ := hb.at_
      obtain ⟨b, off, rfl, hbl⟩ := hA (by omega)
      have hbw : w.heap.size < b := Nat.lt_of_lt_of_le s1 (hf _ _ _ rfl)
      have hcell : ∀ j, j < 124 → w2.cell? ⟨b, off + j, none⟩ = some (.int .u8 ((l[4 + j]?.getD 0).toNat : Int)) := by
        intro j hj
        obtain ⟨A, c', e, _, _, hr⟩ := hb
        simp only [Value.slice.injEq] at e
        obtain ⟨rfl, _, rfl⟩ := e
        obtain ⟨b', off', e, _, hcell⟩ := hr.2 (by omega)
        simp only [Option.some.injEq, Addr.mk.injEq, and_true] at e
        obtain ⟨rfl, rfl⟩ := e
        refine hcell j _ ?_
        rw [List.getElem?_map, List.getElem?_drop, List.getElem?_eq_getElem (by omega)]
        rfl
      have c0 := hcell 0 (by omega)
      have c1 := hcell 1 (by omega)
      have c2 := hcell 2 (by omega)
      have hrest : Bys w2 w2.heap.size (.slice (some ⟨b, off + 3, none⟩) 121 (c - 3)) (l.drop 7) := by
        have := hb.sub (a := 3) (k := 121) (by omega)
        rwa [List.drop_drop, List.take_of_length_le (by simp; omega)] at this
      have hN : R = nodeOf (l[4]?.getD 0).toNat (l[5]?.getD 0).toNat (l[6]?.getD 0).toNat (l.drop 7) := by rw [hR.out]; exact nodeRead_of hl hs
      have hl7 : (l.drop 7).length = 121 := by simp; omega
      have u1 := (l[5]?.getD 0).toNat_lt
      have u2 := (l[6]?.getD 0).toNat_lt
      clear hcell hb hA hB r1 b1 hf hb3
      rw [Nat.add_zero] at c0
      clear hR
      replace hN := Lib.hid hN
      generalize (l[4]?.getD 0).toNat = p0 at *
      generalize (l[5]?.getD 0).toNat = p1 at *
      generalize (l[6]?.getD 0).toNat = p2 at *
      generalize l.drop 7 = l7 at *
      unfold maxLen at hm
      have s2 : w.heap.size < w2.heap.size := (Array.getElem?_eq_some_iff.1 r2).1
      have k2 := cells_row r2
      have f2 := frozen_row r2
      have b2' : Below w.heap.size w w2 := b2
      by_cases hhd : p0 = 78 ∧ p2 ≤ 5
      case neg =>
        obtain rfl : R = none := by rw [hN.out, nodeOf_head hhd]
        clear hN
        go_wp2
        all_goals try simp only [beq_iff_eq, beq_eq_false_iff_ne, ne_eq] at *
        all_goals first | (exfalso; omega) | skip
        all_goals
          generalize hwf : (World.alloc _ _) = wf
          have rf : wf.heap[w.heap.size]? = some (.cells #[.int .i64 0, .slice none 0 0] 104 (0, 0)) := by rw [← hwf]; exact (Below.heap_alloc _ _ _ (by simpa using s2)).trans (row_set (row_set r2 0 _) 1 _)
          have bf : Below w.heap.size w wf := by rw [← hwf]; exact (by repeat' (first | with_reducible exact Below.refl _ _ | with_reducible assumption | with_reducible apply Below.drew | with_reducible apply below_drewN | with_reducible refine Below.alloc ?_ ?_ _ | with_reducible refine Below.setCell ?_ ?_ _ | (simp; done) | (simp; omega) | omega))
          have kf := cells_row rf
          exact bodyPost_ret (v := badNode 8) (by simp [results, Try.results124, go_sem, kf]) rfl ⟨_, rfl, ⟨8, by decide, rfl⟩, bf⟩
      case pos =>
        obtain ⟨rfl, hp2⟩ := hhd
        have hN2 := Lib.hid (fun h => hN.out.trans (@nodeOf_none p1 p2 l7 h))
        have hN3 := Lib.hid (fun r xs h => hN.out.trans (@nodeOf_some p1 p2 l7 r xs hp2 h))
        clear hN
        go_wp2
        generalize hw3 : (World.alloc _ _) = w3
        have b3 : Ext w2 w3 := by rw [← hw3]; exact Ext.alloc _ _
        have r3 : w3.heap[w2.heap.size]? = some (.cells #[.int .i64 p1, .slice none 0 0] 104 (0, 0)) := by rw [← hw3]; exact World.alloc_heap_at _ _ _ rfl
        have hre : Bys w3 w2.heap.size (.slice (some ⟨b, off + 3, none⟩) 121 (c - 3)) l7 := hrest.below b3
        have rr3 := row_ext r2 b3
        have b23 : Below w2.heap.size w2 w3 := b3
        clear hw3 hrest k2 f2 r2 c0 c1 hbl
        generalize hnb : w2.heap.size = nb at *
        go_loopw [7, 42] (fun rs i wr => ∃ (k : Nat) (xs : List It) (r : List UInt8) (o cc : Nat) (v : Value) (ps : List (It × Value)), k ≤ p2 ∧ i = .int .u8 (k : Int) ∧ itsRead l7 k = some (xs, r) ∧ rs = .slice (some ⟨b, o, none⟩) r.length cc ∧ Bys w3 nb rs r ∧
            wr.heap[nb]? = some (.cells #[.int .i64 p1, v] 104 (0, 0)) ∧ Row5 (nb + 1) (nb + 1) wr v ps ∧ ps.map (·.1) = xs ∧ Below nb w3 wr ∧ ∀ p ∈ ps, Nz wr p.2) (fun _ i _ => p2 - (intOf i).toNat)
        case atStart => exact ⟨0, [], l7, off + 3, c - 3, .slice none 0 0, [], by omega, rfl, rfl, by rw [hl7], hre, r3, Row5.nil _ _ _, rfl, Below.refl _ _, fun _ h => by cases h⟩
        case round =>
          obtain ⟨k, xs, r, o, cc, v1, ps, hk, rfl, hits, rfl, hbr, rn, hrow, hps, hB, hnz⟩ := hrel
          replace hnz := Lib.hid hnz
          by_cases hlt : k < p2
          · have hlt' := hlt
            have hsn : nb < wr.heap.size := (Array.getElem?_eq_some_iff.1 rn).1
            have hrl := itsRead_tail hits (by omega) hl7
            have hbr' : Bys wr wr.heap.size (.slice (some ⟨b, o, none⟩) r.length cc) r := (hbr.below hB).more (by omega)
            have hat := hbr.at_
            have HR := Lib.hid (ireadz_any _ r (by omega) wr hbr')
            have HBAD := Lib.hid (fun h => hN2.out (itsRead_bad hits h p2 hlt'))
            have HNX := Lib.hid (fun x n h => @itsRead_next _ _ _ n _ x hits h)
            have HSM := Lib.hid (fun x n => @itemRead_some r x n)
            have HSUB := Lib.hid (fun n (h : n + (r.length - n) ≤ r.length) => hbr.sub h)
            have hkn := itsRead_len hits
            have hpl : ps.length = k := by rw [← hkn, ← hps, List.length_map]
            generalize hq : itemRead r = q at *
            clear hbr hbr'
            have rr := row_below rr3 s2 hB
            go_wp2_with fail
            refine HR.out.mono ?_
            rintro e w4 ⟨u, rfl, hu, hB4⟩
            have rr4 := row_ext rr hB4
            rcases q with _ | ⟨x, n⟩
            · obtain rfl : u = noIt := hu
              obtain rfl : R = none := HBAD.out rfl
              clear HR HBAD HNX HSM HSUB hN2 hN3 rr
              have kk4 := cells_row rr4
              have ff4 := frozen_row rr4
              have s4 : w.heap.size < w4.heap.size := (Array.getElem?_eq_some_iff.1 rr4).1
              have bw4 : Below w.heap.size w w4 := Below.trans b2' (Below.trans (Below.mono b23 (by omega)) (Below.trans (Below.mono hB (by omega)) (Below.mono hB4 (by omega))))
              go_wp2
              generalize hwf : (World.alloc _ _) = wf
              have rf : wf.heap[w.heap.size]? = some (.cells #[.int .i64 0, .slice none 0 0] 104 (0, 0)) := by rw [← hwf]; exact (Below.heap_alloc _ _ _ (by simpa using s4)).trans (row_set (row_set rr4 0 _) 1 _)
              have bf : Below w.heap.size w wf := by rw [← hwf]; exact (by repeat' (first | with_reducible exact Below.refl _ _ | with_reducible assumption | with_reducible apply Below.drew | with_reducible apply below_drewN | with_reducible refine Below.alloc ?_ ?_ _ | with_reducible refine Below.setCell ?_ ?_ _ | (simp; done) | (simp; omega) | omega))
              have kf := cells_row rf
              exact bodyPost_ret (v := badNode 8) (by simp [results, Try.results124, go_sem, kf]) rfl ⟨_, rfl, ⟨8, by decide, rfl⟩, bf⟩
            · obtain ⟨i, rfl, A', c', rfl, ⟨hby, hfr⟩, hnx⟩ := hu
              replace hnx := Lib.hid hnx
              obtain ⟨g1, g2, g3, g4, g5⟩ := HSM.out x n rfl
              have htl := itsRead_tail (HNX.out x n rfl) (by omega) hl7
              rw [List.length_drop] at htl
              have hsb := HSUB.out n (by omega)
              rw [List.take_of_length_le (by simp)] at hsb
              clear HR HSM HSUB HBAD g1 g3 g4 g5
              have hrow4 := hrow.ext hB4
              have hvl := own_lt hrow.1
              have s4 := hB4.size
              go_wp2_with fail
              generalize hw5 : (World.alloc _ _) = w5
              have b5 : Ext w4 w5 := by rw [← hw5]; exact Ext.alloc _ _
              have r5 : w5.heap[w4.heap.size]? = some (.cells #[.int .u8 x.k, .int .u32 x.i, .int .u32 x.o, .int .i64 x.r, .slice A' x.val.length c'] 151 (0, 0)) := by rw [← hw5]; exact World.alloc_heap_at _ _ _ rfl
              clear hw5
              have hrow5 := hrow4.ext b5
              have rn5 := row_ext (row_ext rn hB4) b5
              have hby5 := (hby.below b5).more b5.size
              have s5 : w4.heap.size < w5.heap.size := (Array.getElem?_eq_some_iff.1 r5).1
              have hB5 : Below nb w3 w5 := Below.trans hB (Below.trans (Below.mono hB4 (by omega)) (Below.mono b5 (by omega)))
              have hvn : v1.ownBlock ≠ some nb := fun h => by have := hvl _ h; omega
              have hv4 : v1.ownBlock ≠ some w4.heap.size := fun h => by have := hvl _ h; omega
              obtain ⟨RR, hRR⟩ : ∃ RR : Rel, RR = appRel (nb + 1) 151 5 w5.heap.size v1 ps.length (cells5 ps) (ps.length + 1) (cells5 ps ++ item5 x (.slice A' x.val.length c'))  := ⟨_, rfl⟩
              replace hRR := Lib.hid hRR
              have n1 : ∀ W, RR.r w5 W → W.cell? ⟨nb, 1, none⟩ = some v1 := fun W h => appRel_cell (hRR.out ▸ h) hvn (by rw [cells_row rn5]; rfl)
              have i0 : ∀ W, RR.r w5 W → W.cell? ⟨w4.heap.size, 0, none⟩ = some (.int .u8 x.k) := fun W h => appRel_cell (hRR.out ▸ h) hv4 (by rw [cells_row r5]; rfl)
              have i1 : ∀ W, RR.r w5 W → W.cell? ⟨w4.heap.size, 1, none⟩ = some (.int .u32 x.i) := fun W h => appRel_cell (hRR.out ▸ h) hv4 (by rw [cells_row r5]; rfl)
              have i2 : ∀ W, RR.r w5 W → W.cell? ⟨w4.heap.size, 2, none⟩ = some (.int .u32 x.o) := fun W h => appRel_cell (hRR.out ▸ h) hv4 (by rw [cells_row r5]; rfl)
              have i3 : ∀ W, RR.r w5 W → W.cell? ⟨w4.heap.size, 3, none⟩ = some (.int .i64 x.r) := fun W h => appRel_cell (hRR.out ▸ h) hv4 (by rw [cells_row r5]; rfl)
              have i4 : ∀ W, RR.r w5 W → W.cell? ⟨w4.heap.size, 4, none⟩ = some (.slice A' x.val.length c') := fun W h => appRel_cell (hRR.out ▸ h) hv4 (by rw [cells_row r5]; rfl)
              refine region_start (by kernel_rfl) ?_
              refine any_pure 5 10 (.slice (some ⟨b, o, none⟩) r.length cc) (by kernel_rfl) (by simp only [List.getElem?_toArray, List.getElem?_cons_succ, List.getElem?_cons_zero]; exact rfl) (by kernel_rfl) (by kernel_rfl) (by kernel_rfl) (by rfl) (fun W => ?_) ?_
              · go_simp
              simp only [Act.put, one_f, outB_f, outNew_f, outI_f, outLit_f, outDone_f, List.setIfInBounds_toArray, List.set_cons_zero, List.set_cons_succ]
              refine any_pure 6 9 (.int .i64 (n : Int)) (by kernel_rfl) (by simp only [List.getElem?_toArray, List.getElem?_cons_succ, List.getElem?_cons_zero]; exact rfl) (by kernel_rfl) (by kernel_rfl) (by kernel_rfl) (by rfl) (fun W => ?_) ?_
              · go_simp
              simp only [Act.put, one_f, outB_f, outNew_f, outI_f, outLit_f, outDone_f, List.setIfInBounds_toArray, List.set_cons_zero, List.set_cons_succ]
              refine any_pure 7 8 (.slice (some ⟨b, o + n, none⟩) (r.length - n) (cc - n)) (by kernel_rfl) (by simp only [List.getElem?_toArray, List.getElem?_cons_succ, List.getElem?_cons_zero]; exact rfl) (by kernel_rfl) (by kernel_rfl) (by kernel_rfl) (by rfl) (fun W => ?_) ?_
              · go_simp
                have := hat.2.1
                omega
              simp only [Act.put, one_f, outB_f, outNew_f, outI_f, outLit_f, outDone_f, List.setIfInBounds_toArray, List.set_cons_zero, List.set_cons_succ]
              refine any_free (w := w5) RR (outsAt [(3, outLit w5.heap.size 1 151 #[.int .u8 x.k, .int .u32 x.i, .int .u32 x.o, .int .i64 x.r, .slice A' x.val.length c']), (4, outDone (nb + 1) 151 5 w5.heap.size v1 (ps.length + 1) (cells5 ps ++ item5 x (.slice A' x.val.length c')))])
                [true, true, true, true, true, false, false, false, true] 2 (by kernel_rfl) (by kernel_rfl) (by kernel_rfl) (by kernel_rfl) (by kernel_rfl) (by kernel_rfl) ?st (Rel.drew _ _) ?walk
              case st => rw [hRR.out]; exact outsAt_stableG (by simp only [List.forall_mem_cons]; exact ⟨outLit_stableG (fun g hg => by have := hvl g hg; omega), outDone_stable, fun _ h => by cases h⟩)
              case walk =>
                intro K hK
                dsimp only [maskOps]
                repeat ((first | (refine free_plainM ?_ (by rfl) (by rfl) (fun W hW _ => ⟨W, ?_, Rel.refl _ W⟩) ?_; rotate_left; (first | (go_simp; with_reducible rfl) | (go_simp; done))) | (refine free_skipM (by rfl) ?_)); try simp only [Act.put, one_f, outB_f, outNew_f, outI_f, outLit_f, outDone_f, List.setIfInBounds_toArray, List.set_cons_zero, List.set_cons_succ])
                refine free_hardM (outLit w5.heap.size 1 151 #[.int .u8 x.k, .int .u32 x.i, .int .u32 x.o, .int .i64 x.r, .slice A' x.val.length c']) (by rfl) (by rfl) (fun W hW _ => ?_) (fun p => ?_)
                · rw [hRR.out] at hW ⊢
                  refine hardAt_litG ?_ hW.1.size
                  go_simp
                simp only [Act.put, one_f, outB_f, outNew_f, outI_f, outLit_f, outDone_f, List.setIfInBounds_toArray, List.set_cons_zero, List.set_cons_succ]
                refine free_hardM (outDone (nb + 1) 151 5 w5.heap.size v1 (ps.length + 1) (cells5 ps ++ item5 x (.slice A' x.val.length c'))) (by rfl) (by rfl) (fun W hW hp => ?_) (fun v2 => ?_)
                · rw [hRR.out] at hW ⊢
                  obtain ⟨i0, hi, hz0, hz1, hz2⟩ := info_parts Try.info_item
                  obtain ⟨hcells, _⟩ := (hp 3 (by decide)).1
                  obtain ⟨v', w', hrun, hD, hR'⟩ := run_append_done (P := Try.prog) (lo := w5.heap.size) W 102 102 i0 _ 48 Try.underlying102 hi hz0 hz1 hz2 rfl (by decide) (hW.2.1 hrow5.1) ⟨p, 0, none⟩ 1 1 (item5 x (.slice A' x.val.length c')) rfl (row_adds hcells) (by simp [item5, Value.oneCell']) (by omega) (by decide) (by have := hW.1.size; omega) hW.1.size
                  refine hardAt_valueG (u := v') (w' := w') ?_ ⟨v', rfl, hD, hR'⟩
                  exact exec_append (s := .tmp 55) (x := .tmp 57) rfl rfl rfl hrun
                simp only [Act.put, one_f, outB_f, outNew_f, outI_f, outLit_f, outDone_f, List.setIfInBounds_toArray, List.set_cons_zero, List.set_cons_succ]
                repeat ((first | (refine free_plainM ?_ (by rfl) (by rfl) (fun W hW _ => ⟨W, ?_, Rel.refl _ W⟩) ?_; rotate_left; (first | (go_simp; with_reducible rfl) | (go_simp; done))) | (refine free_skipM (by rfl) ?_)); try simp only [Act.put, one_f, outB_f, outNew_f, outI_f, outLit_f, outDone_f, List.setIfInBounds_toArray, List.set_cons_zero, List.set_cons_succ])
                refine free_nilM (hK _ _ fun W hW hF => ?_)
                have hD := (hF 4).1
                clear hF hK n1 i0 i1 i2 i3 i4
                rw [hRR.out] at hW
                dsimp only [List.drop, List.length_cons, List.length_nil, outDone] at *
                change Done _ _ _ _ _ _ _ v2 W at hD
                have rnW := appRel_row hW hvn rn5
                have kW := cells_row rnW
                have fW := frozen_row rnW
                have hnW := Lib.hid (fun q t => nz_push (x := x) hrow5 (fun p hp => ((hnz.out p hp).ext hB4).ext b5) (hnx.out.ext b5) (Apart.of_from hfr (fun g hg => (hvl g hg).2)) hW.1 q t)
                have hrW := hrow5.push x A' c' hby5 (hfr.mono (by omega)) (Apart.of_from hfr (fun g hg => (hvl g hg).2)) rfl hD hW.1
                have hBW : Below nb w5 W := (Below.refl _ _).grown hW.1 (by omega) (fun g hg => by have := hvl g hg; omega)
                obtain ⟨A2, c2', rfl, _, _⟩ := own_slice hD.1
                go_wp2
                refine QN_in ?_
                go_wp2
                go_roundw
                case rel =>
                  refine ⟨k + 1, xs ++ [x], r.drop n, o + n, cc - n, _, ps ++ [(x, .slice A' x.val.length c')], by omega, by go_num, HNX.out x n rfl, by rw [List.length_drop], hsb, row_set rnW 1 _, ?_, by simp [hps], ?_, hnW.out _ _⟩
                  · rw [hpl] at hrW
                    exact hrW.setCell (p := ⟨nb, 1, none⟩) (Nat.lt_succ_self _) (Nat.lt_succ_self _) _
                  · exact Below.setCell (Below.trans hB5 hBW) (p := ⟨nb, 1, none⟩) (Nat.le_refl _) _
                case measure => simp [intOf]; omega
          · obtain rfl : k = p2 := by omega
            have hsn : nb < wr.heap.size := (Array.getElem?_eq_some_iff.1 rn).1
            have hrl := itsRead_tail hits hp2 hl7
            have hR := hN3.out r xs hits
            have hbr' : Bys wr wr.heap.size (.slice (some ⟨b, o, none⟩) r.length cc) r := (hbr.below hB).more (by omega)
            have hzi := Lib.hid (hrow.nzi hnz.out)
            obtain ⟨hits', A2, c2', rfl⟩ := hrow.its (Nat.le_refl _)
            rw [hps] at hits'
            have hxl : ps.length = xs.length := by rw [← hps, List.length_map]
            rw [hxl] at hits' rn
            have rr := row_below rr3 s2 hB
            have bw : Below w.heap.size w wr := Below.trans b2' (Below.trans (Below.mono b23 (by omega)) (Below.mono hB (by omega)))
            have HC := Lib.hid (fun W (hW : Ext wr W) => ncheck_all p1 A2 xs.length c2' xs W (hits'.its.ext hW))
            have HM := Lib.hid (fun W (hW : Ext wr W) => smax_any _ r hrl.1 (by omega) W ((hbr'.below hW).more hW.size))
            have hmz := maxB_zeros r
            have hml := maxB_lt r
            replace hR := Lib.hid hR
            clear hN2 hN3 hbr hbr' hrow hits
            have kn := cells_row rn
            go_wp2_with fail
            refine (HC.out _ (Ext.refl _)).mono ?_
            rintro e w4 ⟨rfl, hB4⟩
            have rr4 := row_ext rr hB4
            have bw4 : Below w.heap.size w w4 := Below.trans bw (Below.mono hB4 (by omega))
            have s4 : w.heap.size < w4.heap.size := (Array.getElem?_eq_some_iff.1 rr4).1
            have rn4 := row_ext rn hB4
            clear HC kn rr
            by_cases hmay : nodeMay (p1 : Int) xs = true
            case neg =>
              obtain rfl : R = none := by rw [hR.out, if_neg (fun h => hmay h.1)]
              have hmay' : nodeMay (p1 : Int) xs = false := by simpa using hmay
              rw [errOf_f hmay']
              clear hR HM hmay hmay' hmz hml
              have k4 := cells_row rr4
              have f4 := frozen_row rr4
              go_wp2
              generalize hwf : (World.setCell _ _ _) = wf
              have rf : wf.heap[w.heap.size]? = some (.cells #[.int .i64 0, .slice none 0 0] 104 (0, 0)) := by rw [← hwf]; exact row_set (row_set rr4 0 _) 1 _
              have bf : Below w.heap.size w wf := by rw [← hwf]; exact Below.setCell (Below.setCell bw4 (p := ⟨w.heap.size, 0, none⟩) (Nat.le_refl _) _) (p := ⟨w.heap.size, 1, none⟩) (Nat.le_refl _) _
              have kf := cells_row rf
              exact bodyPost_ret (v := badNode 8) (by simp [results, Try.results124, go_sem, kf]) rfl ⟨_, rfl, ⟨8, by decide, rfl⟩, bf⟩
            case pos =>
              rw [errOf_t hmay]
              go_wp2_with fail
              refine (HM.out _ hB4).mono ?_
              rintro e w5 ⟨rfl, hB5⟩
              have rr5 := row_ext rr4 hB5
              have bw5 : Below w.heap.size w w5 := Below.trans bw4 (Below.mono hB5 (by omega))
              have s5 : w.heap.size < w5.heap.size := (Array.getElem?_eq_some_iff.1 rr5).1
              have rn5 := row_ext rn4 hB5
              have hx5 : Ext wr w5 := Ext.trans hB4 hB5
              have k5 := cells_row rr5
              have f5 := frozen_row rr5
              have kn5 := cells_row rn5
              have fn5 := frozen_row rn5
              clear HM
              by_cases hz : zeros r = true
              case neg =>
                obtain rfl : R = none := by rw [hR.out, if_neg (fun h => hz h.2)]
                have hz' : zeros r = false := by simpa using hz
                rw [hz'] at hmz
                have hm0 : 0 < maxB r := by simpa using hmz
                clear hR hz hz' hmz
                generalize maxB r = mm at *
                go_wp2
                generalize hwf : (World.setCell _ _ _) = wf
                have rf : wf.heap[w.heap.size]? = some (.cells #[.int .i64 0, .slice none 0 0] 104 (0, 0)) := by rw [← hwf]; exact row_set (row_set rr5 0 _) 1 _
                have bf : Below w.heap.size w wf := by rw [← hwf]; exact Below.setCell (Below.setCell bw5 (p := ⟨w.heap.size, 0, none⟩) (Nat.le_refl _) _) (p := ⟨w.heap.size, 1, none⟩) (Nat.le_refl _) _
                have kf := cells_row rf
                exact bodyPost_ret (v := badNode 8) (by simp [results, Try.results124, go_sem, kf]) rfl ⟨_, rfl, ⟨8, by decide, rfl⟩, bf⟩
              case pos =>
                obtain rfl : R = some ((p1 : Int), xs) := by rw [hR.out, if_pos ⟨hmay, hz⟩]
                rw [hz] at hmz
                have hm0 : maxB r = 0 := by simpa using hmz
                clear hR hz hmz
                rw [hm0]
                go_wp2
                generalize hwf : (World.setCell _ _ _) = wf
                have rf : wf.heap[w.heap.size]? = some (.cells #[.int .i64 p1, .slice A2 xs.length c2'] 104 (0, 0)) := by rw [← hwf]; exact row_set (row_set rr5 0 _) 1 _
                have bf : Below w.heap.size w wf := by rw [← hwf]; exact Below.setCell (Below.setCell bw5 (p := ⟨w.heap.size, 0, none⟩) (Nat.le_refl _) _) (p := ⟨w.heap.size, 1, none⟩) (Nat.le_refl _) _
                have kf := cells_row rf
                have hfi : ItsF (nb + 1) wf (.slice A2 xs.length c2') xs := by
                  refine (hits'.ext hx5).keep (by rw [← hwf]; simp) (fun p h1 h2 => ?_)
                  rw [← hwf, World.cell?_setCell_other _ _ _ _ (fun e => by subst e; simp at h1; omega), World.cell?_setCell_other _ _ _ _ (fun e => by subst e; simp at h1; omega)]
                have hzf : NzI wf (.slice A2 xs.length c2') := by
                  have hzi' := hzi.out
                  rw [hxl] at hzi'
                  have hlow : ∀ b off n c, Value.slice A2 xs.length c2' = .slice (some ⟨b, off, none⟩) n c → 0 < n → w.heap.size < b ∧ b < wr.heap.size := fun b off n c e hn => by
                    obtain ⟨-, -, -, h4⟩ := hits'.its.at_
                    have h5 : nb + 1 ≤ (⟨b, 0, none⟩ : Addr).block := its_from hits' b off n c 0 e hn
                    simp only [Value.slice.injEq] at e
                    obtain ⟨b6, o6, e6, e7⟩ := h4 (by omega)
                    rw [e.1] at e6
                    simp only [Option.some.injEq, Addr.mk.injEq] at e6
                    simp only at h5
                    omega
                  refine (hzi'.ext hx5 (fun b off n c e hn => (hlow b off n c e hn).2)).keep (fun b off n c e hn j => ?_) (fun u hu => ?_)
                  case refine_2 => rw [← hwf]; exact (hu.setCell _ _).setCell _ _
                  have := (hlow b off n c e hn).1
                  rw [← hwf, World.cell?_setCell_other _ _ _ _ (fun e => by simp only [Addr.mk.injEq] at e; omega), World.cell?_setCell_other _ _ _ _ (fun e => by simp only [Addr.mk.injEq] at e; omega)]
                exact bodyPost_ret (v := .tuple #[nodeV p1 A2 xs.length c2', .int .i64 0]) (by simp [results, Try.results124, go_sem, kf]) rfl ⟨_, rfl, ⟨A2, c2', rfl, hfi.mono (by omega), hzf⟩, bf⟩
end Go.Proofs.Ytlgbjpihmkeopaa
/- Contracts: the document's bytes of a node; bytes that begin with others. -/
namespace Go.Proofs.Ytlgbjpihmkeopaa
set_option linter.unusedSimpArgs false
set_option linter.unusedVariables false
open Go.RowKit

end Go.Proofs.Ytlgbjpihmkeopaa
/- Contracts: the document's bytes of a node. -/
namespace Go.Proofs.Ytlgbjpihmkeopaa
set_option linter.unusedSimpArgs false
set_option linter.unusedVariables false
open Go.RowKit

end Go.Proofs.Ytlgbjpihmkeopaa
/- Contracts: the document's node of a block. -/
namespace Go.Proofs.Ytlgbjpihmkeopaa
set_option linter.unusedSimpArgs false
set_option linter.unusedVariables false
open Go.RowKit

end Go.Proofs.Ytlgbjpihmkeopaa
