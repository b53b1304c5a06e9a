/- Texts KenW, KLearn, joined. -/
import Derived.Test.YtckhnchnbeoogaaGreatT12
import Derived.Test.YtckhnchnbeoogaaGreatT18
/- The document's census: how it lies in memory; plain words. -/
namespace Go.Proofs.YtckhnchnbeoogaaGreat
set_option linter.unusedSimpArgs false
set_option linter.unusedVariables false
open Go.RowKit

abbrev dspanCs (lvl : Int) (A : Option Addr) (n c : Nat) (f l : K3) (d b : Bool) : Array Value := #[.int .i64 lvl, .slice A n c, .int .u8 f.1, .int .u32 f.2.1, .int .u32 f.2.2, .int .u8 l.1, .int .u32 l.2.1, .int .u32 l.2.2, .bool d, .bool b]
abbrev dspanV (lvl : Int) (A : Option Addr) (n c : Nat) (f l : K3) (d b : Bool) : Value := .agg (dspanCs lvl A n c f l d b)
def cellsD : Option Value → Array Value
  | some (.agg #[a0, a1, a2, a3, a4, a5, a6, a7, a8]) => #[a0, a1, a2, a3, a4, a5, a6, a7, .bool true, a8]
  | _ => dspanCs 0 none 0 0 (0, 0, 0) (0, 0, 0) false false
theorem cellsD_some (lvl : Int) (A : Option Addr) (n c : Nat) (f l : K3) (b : Bool) : cellsD (some (spanV lvl A n c f l b)) = dspanCs lvl A n c f l true b := rfl
def ArrD (w : World) (sb : Nat) (f : Int → Option Value) : Prop := ∃ cs, w.heap[sb]? = some (.cells cs 185 (0, 0)) ∧ cs.size = 2560 ∧ ∀ a j : Nat, a < 256 → j < 10 → cs[a * 10 + j]? = (cellsD (f a))[j]?
theorem ArrD.of_heap {w w' : World} {sb : Nat} {f : Int → Option Value} (h : ArrD w sb f) (he : w'.heap[sb]? = w.heap[sb]?) : ArrD w' sb f := by
  obtain ⟨cs, h1, h2⟩ := h
  exact ⟨cs, he.trans h1, h2⟩
theorem ArrD.cell {w : World} {sb : Nat} {f : Int → Option Value} (h : ArrD w sb f) {a j : Nat} (ha : a < 256) (hj : j < 10) : w.cell? ⟨sb, a * 10 + j, none⟩ = (cellsD (f a))[j]? := by
  obtain ⟨cs, h1, h2, h3⟩ := h
  rw [cells_row h1, h3 a j ha hj]
theorem ArrD.cells {w : World} {sb : Nat} {f : Int → Option Value} (h : ArrD w sb f) {a : Nat} (ha : a < 256) {lvl : Int} {A : Option Addr} {n c : Nat} {fk lk : K3} {d b : Bool} (hv : cellsD (f a) = dspanCs lvl A n c fk lk d b) :
    w.cell? ⟨sb, a * 10, none⟩ = some (.int .i64 lvl) ∧ w.cell? ⟨sb, a * 10 + 1, none⟩ = some (.slice A n c) ∧ w.cell? ⟨sb, a * 10 + 2, none⟩ = some (.int .u8 fk.1) ∧ w.cell? ⟨sb, a * 10 + 3, none⟩ = some (.int .u32 fk.2.1) ∧ w.cell? ⟨sb, a * 10 + 4, none⟩ = some (.int .u32 fk.2.2) ∧
      w.cell? ⟨sb, a * 10 + 5, none⟩ = some (.int .u8 lk.1) ∧ w.cell? ⟨sb, a * 10 + 6, none⟩ = some (.int .u32 lk.2.1) ∧ w.cell? ⟨sb, a * 10 + 7, none⟩ = some (.int .u32 lk.2.2) ∧ w.cell? ⟨sb, a * 10 + 8, none⟩ = some (.bool d) ∧ w.cell? ⟨sb, a * 10 + 9, none⟩ = some (.bool b) := by
  refine ⟨(h.cell (j := 0) ha (by omega)).trans (by rw [hv]; rfl), (h.cell ha (by omega)).trans (by rw [hv]; rfl), (h.cell ha (by omega)).trans (by rw [hv]; rfl), (h.cell ha (by omega)).trans (by rw [hv]; rfl), (h.cell ha (by omega)).trans (by rw [hv]; rfl),
    (h.cell ha (by omega)).trans (by rw [hv]; rfl), (h.cell ha (by omega)).trans (by rw [hv]; rfl), (h.cell ha (by omega)).trans (by rw [hv]; rfl), (h.cell ha (by omega)).trans (by rw [hv]; rfl), (h.cell ha (by omega)).trans (by rw [hv]; rfl)⟩
theorem ArrD.some_cells {w : World} {sb : Nat} {f : Int → Option Value} (h : ArrD w sb f) {a : Nat} (ha : a < 256) : ∃ u0 u1 u2 u3 u4 u5 u6 u7 u8 u9 : Value, w.cell? ⟨sb, a * 10, none⟩ = some u0 ∧ w.cell? ⟨sb, a * 10 + 1, none⟩ = some u1 ∧ w.cell? ⟨sb, a * 10 + 2, none⟩ = some u2 ∧ w.cell? ⟨sb, a * 10 + 3, none⟩ = some u3 ∧ w.cell? ⟨sb, a * 10 + 4, none⟩ = some u4 ∧ w.cell? ⟨sb, a * 10 + 5, none⟩ = some u5 ∧ w.cell? ⟨sb, a * 10 + 6, none⟩ = some u6 ∧ w.cell? ⟨sb, a * 10 + 7, none⟩ = some u7 ∧ w.cell? ⟨sb, a * 10 + 8, none⟩ = some u8 ∧ w.cell? ⟨sb, a * 10 + 9, none⟩ = some u9 := by
  obtain ⟨cs, h1, h2, _⟩ := h
  have key : ∀ j, j < 10 → w.cell? ⟨sb, a * 10 + j, none⟩ = some (cs[a * 10 + j]!) := fun j hj => by
    rw [cells_row h1, Array.getElem?_eq_getElem (by omega), getElem!_pos cs (a * 10 + j) (by omega)]
  exact ⟨_, _, _, _, _, _, _, _, _, _, key 0 (by omega), key 1 (by omega), key 2 (by omega), key 3 (by omega), key 4 (by omega), key 5 (by omega), key 6 (by omega), key 7 (by omega), key 8 (by omega), key 9 (by omega)⟩
theorem ArrD.frozen {w : World} {sb : Nat} {f : Int → Option Value} (h : ArrD w sb f) (i : Nat) : w.frozen? ⟨sb, i, none⟩ = false := by
  obtain ⟨cs, h1, _⟩ := h
  exact frozen_row h1 i
def set10 (w : World) (b o : Nat) (x0 x1 x2 x3 x4 x5 x6 x7 x8 x9 : Value) : World := (((((((((w.setCell ⟨b, o, none⟩ x0).setCell ⟨b, o + 1, none⟩ x1).setCell ⟨b, o + 2, none⟩ x2).setCell ⟨b, o + 3, none⟩ x3).setCell ⟨b, o + 4, none⟩ x4).setCell ⟨b, o + 5, none⟩ x5).setCell ⟨b, o + 6, none⟩ x6).setCell ⟨b, o + 7, none⟩ x7).setCell ⟨b, o + 8, none⟩ x8).setCell ⟨b, o + 9, none⟩ x9
theorem ArrD.put {w : World} {sb : Nat} {f : Int → Option Value} (h : ArrD w sb f) {a : Nat} (ha : a < 256) {lvl : Int} {A : Option Addr} {n c : Nat} {fk lk : K3} {b : Bool} :
    ArrD (set10 w sb (a * 10) (.int .i64 lvl) (.slice A n c) (.int .u8 fk.1) (.int .u32 fk.2.1) (.int .u32 fk.2.2) (.int .u8 lk.1) (.int .u32 lk.2.1) (.int .u32 lk.2.2) (.bool true) (.bool b)) sb (fun r => if r = (a : Int) then some (spanV lvl A n c fk lk b) else f r) := by
  obtain ⟨cs, h1, h2, h3⟩ := h
  refine ⟨_, row_set (row_set (row_set (row_set (row_set (row_set (row_set (row_set (row_set (row_set h1 (a * 10) _) (a * 10 + 1) _) (a * 10 + 2) _) (a * 10 + 3) _) (a * 10 + 4) _) (a * 10 + 5) _) (a * 10 + 6) _) (a * 10 + 7) _) (a * 10 + 8) _) (a * 10 + 9) _, by simp [h2], fun e j he hj => ?_⟩
  show _ = (cellsD (if (e : Int) = (a : Int) then some (spanV lvl A n c fk lk b) else f e))[j]?
  by_cases hea : e = a
  · subst hea
    rw [if_pos rfl, cellsD_some]
    have : j = 0 ∨ j = 1 ∨ j = 2 ∨ j = 3 ∨ j = 4 ∨ j = 5 ∨ j = 6 ∨ j = 7 ∨ j = 8 ∨ j = 9 := by omega
    rcases this with rfl | rfl | rfl | rfl | rfl | rfl | rfl | rfl | rfl | rfl
    all_goals
      simp only [Array.getElem?_setIfInBounds, Array.size_setIfInBounds, h2]
      repeat (first | rw [if_pos trivial] | rw [if_pos (by omega)] | rw [if_neg (by omega)])
      try rfl
  · rw [if_neg (by omega), ← h3 e j he hj]
    simp only [Array.getElem?_setIfInBounds, Array.size_setIfInBounds, h2]
    repeat rw [if_neg (by omega)]
theorem grown10 {w : World} {b o : Nat} (x0 x1 x2 x3 x4 x5 x6 x7 x8 x9 : Value) : w.grownBy (set10 w b o x0 x1 x2 x3 x4 x5 x6 x7 x8 x9) (some b) :=
  grown_set.trans (grown_set.trans (grown_set.trans (grown_set.trans (grown_set.trans (grown_set.trans (grown_set.trans (grown_set.trans (grown_set.trans grown_set))))))))
structure KP where
  S : Sto
  B : Nat
  lo : Nat
  kb : Nat
  sb : Nat
  v1 : Value
  v2 : Value
  v3 : Value
  v4 : Value
structure Ken (p : KP) (w : World) (f : Int → Option Value) : Prop where
  row : w.heap[p.kb]? = some (.cells #[p.v1, p.v2, p.v3, p.v4, .slice (some ⟨p.sb, 0, none⟩) 256 256] 183 (0, 0))
  arr : ArrD w p.sb f
  known : Known p.S p.lo w f
  sto : StoAt w p.B p.v1 p.v2 p.v3 p.v4 p.S
  low : p.kb < p.lo ∧ p.sb < p.lo ∧ p.kb ≠ p.sb ∧ p.lo ≤ w.heap.size ∧ p.B ≤ p.kb ∧ p.B ≤ p.sb
  may : storeMay p.S = true
theorem Ken.ext {p : KP} {w w' : World} {f : Int → Option Value} (h : Ken p w f) (hx : Ext w w') : Ken p w' f where
  row := row_ext h.row hx
  arr := h.arr.of_heap (hx.block _ (by have := h.low; omega))
  known := h.known.keep hx.size fun q hq => Below.cell hx hq
  sto := h.sto.keep fun q hq => Below.cell hx (by have := h.low; omega)
  low := by have := h.low; have := hx.size; omega
  may := h.may
theorem Ken.after {p : KP} {w w' : World} {f g : Int → Option Value} (h : Ken p w f) (hgr : Grows f g) (hm : ArrD w' p.sb g) (hg : w.grownBy w' (some p.sb)) (hn : News p.S w f g w') : Ken p w' g where
  row := (hg.block _ (by have := h.low; omega) (fun e => by have := h.low; simp at e; omega)).trans h.row
  arr := hm
  known := by
    intro a v hv
    rcases hf : f a with _ | u
    · exact (hn a v hv hf).keep (by have := h.low; omega) (Nat.le_refl _) (fun _ _ _ => rfl) (fun _ h => h)
    · have := hgr a u hf
      rw [hv] at this
      cases this
      exact (h.known a v hf).keep (Nat.le_refl _) hg.size (fun q h1 hq => World.cell?_of_block (hg.block q.block hq (fun e => by have := h.low; simp at e; omega))) hgr.some_
  sto := h.sto.keep fun q hq => World.cell?_of_block (hg.block q.block (by have := h.low; omega) (fun e => by have := h.low; simp at e; omega))
  low := by have := h.low; have := hg.size; omega
  may := h.may
def LearnD (p : KP) (L r : Int) (v : Value) (f : Int → Option Value) : Prop := ∃ (lvl : Int) (A : Option Addr) (n c : Nat) (fk lk : K3) (d : Bool), v = dspanV lvl A n c fk lk d (okL p.S L r) ∧ (okL p.S L r = true → d = true ∧ f r = some (spanV lvl A n c fk lk true))
def GoneP (p : KP) (h : Nat) (A : Option Addr) (c : Nat) (xs : List It) (v : Value) (f : Int → Option Value) : Prop := ∃ (fk lk : K3) (b : Bool), v = dspanV h A xs.length c fk lk true b ∧ SpanOk p.S h xs fk lk b ∧ (b = true → 0 < h → ∀ y ∈ xs, (f y.r).isSome = true)
def RetK (p : KP) (f : Int → Option Value) (φ : Value → (Int → Option Value) → Prop) (w : World) (e : Ending) (w' : World) : Prop := ∃ v g, e = .returned v ∧ φ v g ∧ Grows f g ∧ ArrD w' p.sb g ∧ w.grownBy w' (some p.sb) ∧ News p.S w f g w'
theorem RetK.same {p : KP} {f : Int → Option Value} {φ : Value → (Int → Option Value) → Prop} {w w' : World} {v : Value} (h : Ken p w f) (hx : Ext w w') (hφ : φ v f) : RetK p f φ w (.returned v) w' :=
  ⟨v, f, rfl, hφ, Grows.refl _, (h.ext hx).arr, grown_of_ext hx _, News.refl _ _ _ _⟩
def GoneC (p : KP) (h : Nat) : Prop := ∀ (xs : List It) (A : Option Addr) (c : Nat) (w : World) (f : Int → Option Value), nodeMay h xs = true → (∀ x ∈ xs, ItOk x ∧ itB x.r x.val.length = true) → ItsF p.lo w (.slice A xs.length c) xs → Ken p w f →
  Calls Tryz.prog 133 #[.pointer (some ⟨p.kb, 0, none⟩), nodeV h A xs.length c] w (RetK p f (GoneP p h A c xs) w)
def LearnDC (p : KP) (L : Int) (root : Bool) : Prop := ∀ (r : Int) (w : World) (f : Int → Option Value), Ken p w f →
  Calls Tryz.prog 106 #[.pointer (some ⟨p.kb, 0, none⟩), .int .i64 r, .int .i64 L, .bool root] w (RetK p f (LearnD p L r) w)
theorem Rd.keptInt {w w' : World} {size n : Nat} {A : Option Addr} {us : List Value} (h : Rd w w.heap.size size A n us) (h0 : 0 < n → ∃ u, us[0]? = some u ∧ ∀ k : Int, u ≠ .int .i64 k) (hs : w.heap.size ≤ w'.heap.size)
    (hk : ∀ b, b < w.heap.size → w'.heap[b]? = w.heap[b]? ∨ ∃ cs t, w.heap[b]? = some (.cells cs t (0, 0)) ∧ ∀ (i : Nat) u, cs[i]? = some u → ∃ k : Int, u = .int .i64 k) : Rd w' w'.heap.size size A n us := by
  refine ⟨h.1, fun hn => ?_⟩
  obtain ⟨b, off, rfl, hb, hcell⟩ := h.2 hn
  refine ⟨b, off, rfl, Nat.lt_of_lt_of_le hb hs, fun j x hx => ?_⟩
  rcases hk b hb with e | ⟨cs, t, h1, h2⟩
  · exact (World.cell?_of_block (a := ⟨b, off + j, none⟩) e).trans (hcell j x hx)
  · obtain ⟨u, hu, hne⟩ := h0 hn
    have h3 := hcell 0 u hu
    rw [cells_row h1] at h3
    obtain ⟨k, e⟩ := h2 _ u h3
    exact absurd e (hne k)
theorem ItsF.keptInt {lo : Nat} {w w' : World} {v : Value} {xs : List It} (h : ItsF lo w v xs) (hs : w.heap.size ≤ w'.heap.size)
    (hk : ∀ b, b < w.heap.size → w'.heap[b]? = w.heap[b]? ∨ ∃ cs t, w.heap[b]? = some (.cells cs t (0, 0)) ∧ ∀ (i : Nat) u, cs[i]? = some u → ∃ k : Int, u = .int .i64 k) : ItsF lo w' v xs := by
  obtain ⟨ps, h1, ⟨A, c, e, h2, h3, h4⟩, h5, h6, h7⟩ := h
  refine ⟨ps, h1, ⟨A, c, e, h2, h3, h4.keptInt (fun hn => ?_) hs hk⟩, fun p hp => ⟨(h5 p hp).1, ?_⟩, h6, h7⟩
  · rcases ps with _ | ⟨p, r⟩
    · subst h1; simp at hn
    · exact ⟨_, rfl, fun k e => by cases e⟩
  · obtain ⟨_, A', c', e', g2, g3, g4⟩ := h5 p hp
    refine ⟨A', c', e', g2, g3, g4.keptInt (fun hn => ?_) hs hk⟩
    rcases hl : p.1.val with _ | ⟨x, r⟩
    · rw [hl] at hn; simp at hn
    · exact ⟨_, rfl, fun k e => by cases e⟩
def IntRow (w : World) (b : Nat) : Prop := ∃ cs t, w.heap[b]? = some (.cells cs t (0, 0)) ∧ ∀ (i : Nat) u, cs[i]? = some u → ∃ k : Int, u = .int .i64 k
theorem Ken.kept {p : KP} {w w' : World} {f : Int → Option Value} {rb mb : Nat} (h : Ken p w f) (hk : Kept rb mb w w') (h1 : IntRow w rb) (h2 : IntRow w mb) (h3 : p.kb ≠ rb ∧ p.kb ≠ mb ∧ p.sb ≠ rb ∧ p.sb ≠ mb ∧ p.B ≤ rb ∧ p.B ≤ mb) : Ken p w' f where
  row := (hk.block _ (by have := h.low; omega) h3.1 h3.2.1).trans h.row
  arr := h.arr.of_heap (hk.block _ (by have := h.low; omega) h3.2.2.1 h3.2.2.2.1)
  known := by
    intro a v hv
    obtain ⟨n, lvl, xs, A, c, fk, lk, b, q1, q2, q3, q4, q5, q6, q7, q8⟩ := h.known a v hv
    refine ⟨n, lvl, xs, A, c, fk, lk, b, q1, q2, q3, q4, q5, q6.keptInt hk.size (fun b hb => ?_), q7, q8⟩
    by_cases e1 : b = rb
    · subst e1; exact .inr h1
    · by_cases e2 : b = mb
      · subst e2; exact .inr h2
      · exact .inl (hk.block b hb e1 e2)
  sto := h.sto.keep fun q hq => World.cell?_of_block (hk.block q.block (by have := h.low; omega) (by omega) (by omega))
  low := by have := h.low; have := hk.size; omega
  may := h.may
theorem arrI_row {w : World} {b : Nat} {f : Nat → Nat} {t : TypeId} (h : w.heap[b]? = some (.cells (arrI f).toArray t (0, 0))) : IntRow w b :=
  ⟨_, t, h, fun i u hu => ⟨_, (arrI_lt (f := f) (by simpa using hu)).2⟩⟩
theorem arrI_set (f : Nat → Nat) {a : Nat} (ha : a < 256) (n : Nat) : (arrI f).toArray.setIfInBounds a (.int .i64 (n : Int)) = (arrI fun b => if b = a then n else f b).toArray := by
  apply Array.ext_getElem?
  intro i
  rw [Array.getElem?_setIfInBounds, List.getElem?_toArray, List.getElem?_toArray]
  by_cases e : a = i
  · subst e
    rw [if_pos rfl, if_pos (by simp [arrI]; exact ha), arrI_get _ ha, if_pos rfl]
  · rw [if_neg e]
    rcases Nat.lt_or_ge i 256 with hi | hi
    · rw [arrI_get _ hi, arrI_get _ hi, if_neg (fun x => e x.symm)]
    · rw [List.getElem?_eq_none (by simp [arrI]; exact hi), List.getElem?_eq_none (by simp [arrI]; exact hi)]
end Go.Proofs.YtckhnchnbeoogaaGreat
/- Contracts: the document's census learns a node. -/
namespace Go.Proofs.YtckhnchnbeoogaaGreat
set_option linter.unusedSimpArgs false
set_option linter.unusedVariables false
open Go.RowKit

theorem setArr10 {cs : Array Value} (hs : cs.size = 10) (x0 x1 x2 x3 x4 x5 x6 x7 x8 x9 : Value) : ((((((((((cs.setIfInBounds 0 x0).setIfInBounds 1 x1).setIfInBounds 2 x2).setIfInBounds 3 x3).setIfInBounds 4 x4).setIfInBounds 5 x5).setIfInBounds 6 x6).setIfInBounds 7 x7).setIfInBounds 8 x8).setIfInBounds 9 x9) = #[x0, x1, x2, x3, x4, x5, x6, x7, x8, x9] := by
  apply Array.ext_getElem?
  intro j
  by_cases hj : j < 10
  · have : j = 0 ∨ j = 1 ∨ j = 2 ∨ j = 3 ∨ j = 4 ∨ j = 5 ∨ j = 6 ∨ j = 7 ∨ j = 8 ∨ j = 9 := by omega
    rcases this with rfl | rfl | rfl | rfl | rfl | rfl | rfl | rfl | rfl | rfl <;> simp [Array.getElem?_setIfInBounds, hs]
  · rw [Array.getElem?_eq_none (by simp; omega), Array.getElem?_eq_none (by simp; omega)]
theorem row10 {w : World} {b : Nat} {ty : TypeId} {cs : Array Value} (h : w.heap[b]? = some (.cells cs ty (0, 0))) (hs : cs.size = 10) (x0 x1 x2 x3 x4 x5 x6 x7 x8 x9 : Value) :
    (((((((((((w.setCell ⟨b, 0, none⟩ x0).setCell ⟨b, 1, none⟩ x1).setCell ⟨b, 2, none⟩ x2).setCell ⟨b, 3, none⟩ x3).setCell ⟨b, 4, none⟩ x4).setCell ⟨b, 5, none⟩ x5).setCell ⟨b, 6, none⟩ x6).setCell ⟨b, 7, none⟩ x7).setCell ⟨b, 8, none⟩ x8).setCell ⟨b, 9, none⟩ x9)).heap[b]? = some (.cells #[x0, x1, x2, x3, x4, x5, x6, x7, x8, x9] ty (0, 0)) := by
  have := (row_set (row_set (row_set (row_set (row_set (row_set (row_set (row_set (row_set (row_set h 0 x0) 1 x1) 2 x2) 3 x3) 4 x4) 5 x5) 6 x6) 7 x7) 8 x8) 9 x9)
  rw [this, setArr10 hs]
theorem below10 {w0 w : World} {B b : Nat} (h : Below B w0 w) (hb : B ≤ b) (x0 x1 x2 x3 x4 x5 x6 x7 x8 x9 : Value) : Below B w0 (((((((((((w.setCell ⟨b, 0, none⟩ x0).setCell ⟨b, 1, none⟩ x1).setCell ⟨b, 2, none⟩ x2).setCell ⟨b, 3, none⟩ x3).setCell ⟨b, 4, none⟩ x4).setCell ⟨b, 5, none⟩ x5).setCell ⟨b, 6, none⟩ x6).setCell ⟨b, 7, none⟩ x7).setCell ⟨b, 8, none⟩ x8).setCell ⟨b, 9, none⟩ x9)) :=
  (Below.setCell (Below.setCell (Below.setCell (Below.setCell (Below.setCell (Below.setCell (Below.setCell (Below.setCell (Below.setCell (Below.setCell h (p := ⟨b, 0, none⟩) hb _) (p := ⟨b, 1, none⟩) hb _) (p := ⟨b, 2, none⟩) hb _) (p := ⟨b, 3, none⟩) hb _) (p := ⟨b, 4, none⟩) hb _) (p := ⟨b, 5, none⟩) hb _) (p := ⟨b, 6, none⟩) hb _) (p := ⟨b, 7, none⟩) hb _) (p := ⟨b, 8, none⟩) hb _) (p := ⟨b, 9, none⟩) hb _)
theorem grown10' {w : World} {b : Nat} (x0 x1 x2 x3 x4 x5 x6 x7 x8 x9 : Value) : w.grownBy (((((((((((w.setCell ⟨b, 0, none⟩ x0).setCell ⟨b, 1, none⟩ x1).setCell ⟨b, 2, none⟩ x2).setCell ⟨b, 3, none⟩ x3).setCell ⟨b, 4, none⟩ x4).setCell ⟨b, 5, none⟩ x5).setCell ⟨b, 6, none⟩ x6).setCell ⟨b, 7, none⟩ x7).setCell ⟨b, 8, none⟩ x8).setCell ⟨b, 9, none⟩ x9)) (some b) :=
  (grown_set.trans (grown_set.trans (grown_set.trans (grown_set.trans (grown_set.trans (grown_set.trans (grown_set.trans (grown_set.trans (grown_set.trans grown_set)))))))))
theorem other10 {w : World} {b k : Nat} (hk : k ≠ b) (x0 x1 x2 x3 x4 x5 x6 x7 x8 x9 : Value) : ((((((((((w.setCell ⟨b, 0, none⟩ x0).setCell ⟨b, 1, none⟩ x1).setCell ⟨b, 2, none⟩ x2).setCell ⟨b, 3, none⟩ x3).setCell ⟨b, 4, none⟩ x4).setCell ⟨b, 5, none⟩ x5).setCell ⟨b, 6, none⟩ x6).setCell ⟨b, 7, none⟩ x7).setCell ⟨b, 8, none⟩ x8).setCell ⟨b, 9, none⟩ x9).heap[k]? = w.heap[k]? := by
  rw [Below.heap_setCell _ _ _ _ (show k ≠ b from hk), Below.heap_setCell _ _ _ _ (show k ≠ b from hk), Below.heap_setCell _ _ _ _ (show k ≠ b from hk), Below.heap_setCell _ _ _ _ (show k ≠ b from hk), Below.heap_setCell _ _ _ _ (show k ≠ b from hk), Below.heap_setCell _ _ _ _ (show k ≠ b from hk), Below.heap_setCell _ _ _ _ (show k ≠ b from hk), Below.heap_setCell _ _ _ _ (show k ≠ b from hk), Below.heap_setCell _ _ _ _ (show k ≠ b from hk), Below.heap_setCell _ _ _ _ (show k ≠ b from hk)]
theorem ken_read {p : KP} {W : World} {g : Int → Option Value} {a : Nat} (hC : Ken p W g) (ha : 8 ≤ a) (ha2 : a < 256) :
    Calls Tryz.prog 59 #[.agg #[p.v1, p.v2, p.v3, p.v4], .int .i64 (a : Int)] W (RetS (Node8P W.heap.size (nodeAt p.S a)) W) := by
  obtain ⟨_, A1, c1, e1, _⟩ := hC.sto.bs
  obtain ⟨_, _, ⟨A2, c2, e2, _⟩, _⟩ := hC.sto.ws
  obtain ⟨A3, c3, e3, _⟩ := hC.sto.now
  obtain ⟨A4, c4, e4, _⟩ := hC.sto.last
  have h := hC.sto.more (show p.B ≤ W.heap.size by have := hC.low; omega)
  rw [e1, e2, e3, e4] at h ⊢
  exact read8_any A1 _ c1 A2 _ c2 A3 _ c3 A4 _ c4 p.S hC.may a ha ha2 W h
abbrev noD : Value := dspanV 0 none 0 0 (0, 0, 0) (0, 0, 0) false false
theorem learnD_ret {R : Ending → World → Prop} {a : Act} {W : World} {b : Nat} {lvl : Int} {A : Option Addr} {n c : Nat} {f l : K3} {d bo : Bool} (h6 : a.tmps[8]?.getD undef = .pointer (some ⟨b, 0, none⟩)) (hd : a.defers = [])
    (hrow : W.heap[b]? = some (.cells (dspanCs lvl A n c f l d bo) 185 (0, 0))) (hR : R (.returned (dspanV lvl A n c f l d bo)) W) : bodyPost Tryz.prog Tryz.f106 R .ret a W := by
  refine bodyPost_ret (v := dspanV lvl A n c f l d bo) ?_ hd hR
  have k := cells_row hrow
  simp [results, Tryz.results106, go_sem, h6, k]
theorem learnD_put {p : KP} {f g : Int → Option Value} {φ : Value → (Int → Option Value) → Prop} {w w5 w6 W : World} {a : Nat} {lvl : Nat} {xs : List It} {A : Option Addr} {c : Nat} {fk lk : K3} {b : Bool} {u : Value} (hfa : f a = none) (h5 : Ext w w5) (hlt : w.heap.size + 2 ≤ w5.heap.size)
    (hgr : Grows f g) (hn : News p.S w5 f g w6) (hm : ArrD W p.sb (fun r => if r = (a : Int) then some (spanV lvl A xs.length c fk lk b) else g r)) (hgW : w.grownBy W (some p.sb)) (hsW : w6.heap.size ≤ W.heap.size)
    (hk : ∀ q : Addr, w.heap.size + 2 ≤ q.block → q.block < w6.heap.size → W.cell? q = w6.cell? q) (ha : 8 ≤ a) (ha2 : a < 256) (hnode : nodeAt p.S a = some ((lvl : Int), xs)) (hits : ItsF (w.heap.size + 2) w6 (.slice A xs.length c) xs) (hsp : SpanOk p.S lvl xs fk lk b)
    (hcl : b = true → 0 < lvl → ∀ y ∈ xs, (g y.r).isSome = true) (hφ : φ u (fun r => if r = (a : Int) then some (spanV lvl A xs.length c fk lk b) else g r)) : RetK p f φ w (.returned u) W := by
  have hs : ∀ r : Int, (g r).isSome = true → ((fun r => if r = (a : Int) then some (spanV lvl A xs.length c fk lk b) else g r) r).isSome = true := by
    intro r hr
    show (if r = (a : Int) then some (spanV lvl A xs.length c fk lk b) else g r).isSome = true
    split
    · rfl
    · exact hr
  refine ⟨u, _, rfl, hφ, fun r v hr => ?_, hm, hgW, fun r v hv hr => ?_⟩
  · show (if r = (a : Int) then some (spanV lvl A xs.length c fk lk b) else g r) = some v
    rw [if_neg (fun e => by rw [e, hfa] at hr; cases hr)]
    exact hgr r v hr
  · have hv' : (if r = (a : Int) then some (spanV lvl A xs.length c fk lk b) else g r) = some v := hv
    by_cases hra : r = (a : Int)
    · rw [if_pos hra] at hv'
      cases hv'
      exact ⟨a, lvl, xs, A, c, fk, lk, b, hra, ha, ha2, hnode, rfl, (hits.keep hsW (fun q h1 h2 => hk q (by omega) h2)).mono (by omega), hsp, fun x y z t => hs _ (hcl x y z t)⟩
    · rw [if_neg hra] at hv'
      exact (hn r v hv' hr).keep (by omega) hsW (fun q h1 h2 => hk q (by omega) h2) hs
theorem learnD_end {p : KP} {f g : Int → Option Value} {φ : Value → (Int → Option Value) → Prop} {w w5 w6 w7 w7' w8 W : World} {a : Nat} {lvl : Nat} {xs : List It} {A : Option Addr} {c : Nat} {fk lk : K3} {b : Bool} {u : Value} (hfa : f a = none) (hC : Ken p w f) (h5 : Ext w w5) (hlt : w.heap.size + 2 ≤ w5.heap.size)
    (hgr : Grows f g) (hm6 : ArrD w6 p.sb g) (hg6 : w5.grownBy w6 (some p.sb)) (hn : News p.S w5 f g w6) (h67 : w6.grownBy w7 (some (w.heap.size + 1))) (h7 : Ext w7 w7') (h78 : w7'.grownBy w8 (some p.sb))
    (hm8 : ArrD w8 p.sb (fun r => if r = (a : Int) then some (spanV lvl A xs.length c fk lk b) else g r)) (h8W : w8.grownBy W (some w.heap.size)) (ha : 8 ≤ a) (ha2 : a < 256) (hnode : nodeAt p.S a = some ((lvl : Int), xs)) (hits : ItsF (w.heap.size + 2) w5 (.slice A xs.length c) xs) (hsp : SpanOk p.S lvl xs fk lk b)
    (hcl : b = true → 0 < lvl → ∀ y ∈ xs, (g y.r).isSome = true) (hφ : φ u (fun r => if r = (a : Int) then some (spanV lvl A xs.length c fk lk b) else g r)) : RetK p f φ w (.returned u) W := by
  have hmb : p.sb < w.heap.size := by have := hC.low; omega
  have z5 := h5.size
  have z6 := hg6.size
  have z7 := h67.size
  have z7' := h7.size
  have z8 := h78.size
  have zW := h8W.size
  have hmW : ArrD W p.sb _ := hm8.of_heap (h8W.block _ (by omega) (by simp; omega))
  refine learnD_put (w5 := w5) (w6 := w6) hfa h5 hlt hgr hn hmW ?_ (by omega) (fun q h1 h2 => ?_) ha ha2 hnode ?_ hsp hcl hφ
  · refine World.grownBy.andThen (World.grownBy.andThen (World.grownBy.andThen (World.grownBy.andThen (World.grownBy.andThen (grown_of_ext h5 (some p.sb)) hg6 (fun j e => .inr (by rw [← e]))) h67 (fun j e => .inl (by cases e; omega))) (grown_of_ext h7 none) (fun j e => by cases e)) h78 (fun j e => .inr (by rw [← e]))) h8W (fun j e => .inl (by cases e; omega))
  · have hne : some q.block ≠ some w.heap.size := by simp; omega
    have hne1 : some q.block ≠ some (w.heap.size + 1) := by simp; omega
    have hne2 : some q.block ≠ some p.sb := by simp; omega
    rw [World.cell?_of_block (h8W.block q.block (by omega) hne), World.cell?_of_block (h78.block q.block (by omega) hne2), Below.cell h7 (p := q) (by omega), World.cell?_of_block (h67.block q.block (by omega) hne1)]
  · exact hits.keep hg6.size (fun q h1 h2 => World.cell?_of_block (hg6.block q.block h2 (by simp; omega)))

set_option maxHeartbeats 8000000 in
set_option maxRecDepth 100000 in
theorem learnd_any (p : KP) (L : Int) (root : Bool) (hL : (L = -1 ∧ root = true) ∨ (0 ≤ L ∧ L ≤ 5 ∧ root = false)) (HR : ∀ h : Nat, h ≤ 5 → (0 ≤ L → (h : Int) = L) → GoneC p h) : LearnDC p L root := by
  intro r w f hC
  by_cases hr : r < 8 ∨ 256 ≤ r
  · have ho : okL p.S L r = false := by unfold okL; rw [if_neg (by omega)]
    have HP : LearnD p L r noD f := ⟨0, none, 0, 0, _, _, _, by rw [ho], fun h => by rw [ho] at h; cases h⟩
    replace HP := Lib.hid HP
    replace hC := Lib.hid hC
    clear ho HR hL
    go_enter Tryz.func106, Tryz.ntmps106
    go_wp2
    all_goals first | (exfalso; omega) | skip
    all_goals
      generalize hwf : (World.alloc _ _) = wf
      have rf : wf.heap[w.heap.size]? = some (.cells (dspanCs 0 none 0 0 (0, 0, 0) (0, 0, 0) false false) 185 (0, 0)) := by rw [← hwf]; exact World.alloc_heap_at _ _ _ rfl
      have xf : Ext w wf := by rw [← hwf]; exact Ext.alloc _ _
      exact learnD_ret (b := w.heap.size) rfl rfl rf (RetK.same hC.out xf HP.out)
  · obtain ⟨a, rfl⟩ : ∃ a : Nat, r = (a : Int) := ⟨r.toNat, by omega⟩
    have ha : 8 ≤ a := by omega
    have ha2 : a < 256 := by omega
    have hd1 : decide ((a : Int) < 8) = false := decide_eq_false (by omega)
    have hd2 : decide ((a : Int) ≥ 256) = false := decide_eq_false (by omega)
    have HOK : Hid (okL p.S L a = match nodeAt p.S a with | none => false | some (lvl, xs) => (spanS p.S lvl.toNat xs).isSome && (decide (L < 0) || (decide (lvl = L) && decide (xs.length ≠ 0)))) := by
      refine Lib.hid ?_
      unfold okL
      rw [if_pos (by omega), Int.toNat_natCast]
      rfl
    have kk := cells_row hC.row
    have hkb : p.kb < w.heap.size := by have := hC.low; omega
    have hsb : p.sb < w.heap.size := by have := hC.low; omega
    have HP0 : okL p.S L a = false → LearnD p L a noD f := fun h => ⟨0, none, 0, 0, _, _, _, by rw [h], fun h' => by rw [h] at h'; cases h'⟩
    replace HP0 := Lib.hid HP0
    rcases hfr : f (a : Int) with _ | v
    · obtain ⟨k0, k1, k2, k3, k4, k5, k6, k7, k8, k9⟩ := hC.arr.cells ha2 (by rw [hfr]; rfl)
      have hlow := hC.low
      replace hC := Lib.hid hC
      replace hfr := Lib.hid hfr
      clear hr
      go_enter Tryz.func106, Tryz.ntmps106
      go_wp2_with fail
      generalize hw2 : World.alloc (World.alloc _ _) _ = w2
      have x2 : Ext w w2 := by rw [← hw2]; exact (Ext.alloc _ _).trans (Ext.alloc _ _)
      have q8 : w2.heap[w.heap.size]? = some (.cells (dspanCs 0 none 0 0 (0, 0, 0) (0, 0, 0) false false) 185 (0, 0)) := by rw [← hw2]; exact (Below.heap_alloc _ _ _ (by simp)).trans (World.alloc_heap_at _ _ _ rfl)
      have q9 : w2.heap[w.heap.size + 1]? = some (.cells (dspanCs 0 none 0 0 (0, 0, 0) (0, 0, 0) false false) 185 (0, 0)) := by rw [← hw2]; exact World.alloc_heap_at _ _ _ (by simp)
      clear hw2 k0 k1 k2 k3 k4 k5 k6 k7 k8 k9
      have HRd := ken_read (hC.out.ext x2) ha ha2
      refine HRd.mono ?_
      clear HRd
      rintro e w3 ⟨u, rfl, hu, hB⟩
      have x3 : Ext w w3 := x2.trans hB
      have r8 := row_ext q8 hB
      have r9 := row_ext q9 hB
      have s2 : w.heap.size + 1 < w2.heap.size := (Array.getElem?_eq_some_iff.1 q9).1
      have s3 : w.heap.size + 1 < w3.heap.size := (Array.getElem?_eq_some_iff.1 r9).1
      clear q8 q9 hB kk
      have k8 := cells_row r8
      have f8 := frozen_row r8
      have k9 := cells_row r9
      have f9 := frozen_row r9
      rcases hnode : nodeAt p.S a with _ | ⟨lvl', xs⟩
      · rw [hnode] at hu HOK
        obtain rfl : u = noNode8 := hu
        have hv := HP0.out HOK.out
        replace hv := Lib.hid hv
        clear HP0 HOK HR hnode hL
        go_upto_region 7 with fail
        have v9 := row10 r9 rfl (.int .i64 0) (.slice none 0 0) (.int .u8 0) (.int .u32 0) (.int .u32 0) (.int .u8 0) (.int .u32 0) (.int .u32 0) (.bool false) (.bool false)
        have v8 := (other10 (w := w3) (b := w.heap.size + 1) (k := w.heap.size) (by omega) (.int .i64 0) (.slice none 0 0) (.int .u8 0) (.int .u32 0) (.int .u32 0) (.int .u8 0) (.int .u32 0) (.int .u32 0) (.bool false) (.bool false)).trans r8
        have y3 := below10 (b := w.heap.size + 1) x3 (by omega) (.int .i64 0) (.slice none 0 0) (.int .u8 0) (.int .u32 0) (.int .u32 0) (.int .u8 0) (.int .u32 0) (.int .u32 0) (.bool false) (.bool false)
        replace v9 := (Below.heap_alloc _ (.cells #[.int .i64 0, .slice none 0 0] 118) _ (Array.getElem?_eq_some_iff.1 v9).1).trans v9
        replace v8 := (Below.heap_alloc _ (.cells #[.int .i64 0, .slice none 0 0] 118) _ (Array.getElem?_eq_some_iff.1 v8).1).trans v8
        replace y3 := Below.alloc y3 y3.size (.cells #[.int .i64 0, .slice none 0 0] 118)
        generalize hw4 : World.alloc (World.setCell (World.setCell (World.setCell (World.setCell (World.setCell (World.setCell (World.setCell (World.setCell (World.setCell (World.setCell w3 _ _) _ _) _ _) _ _) _ _) _ _) _ _) _ _) _ _) _ _) _ = w4 at *
        clear hw4 k8 f8 k9 f9 r8 r9 x2 hd1 hd2 hkb hsb
        have k8 := cells_row v8
        have f8 := frozen_row v8
        have k9 := cells_row v9
        have f9 := frozen_row v9
        go_wp2
        exact learnD_ret (b := w.heap.size) rfl rfl (row10 v8 rfl _ _ _ _ _ _ _ _ _ _) (RetK.same hC.out (below10 y3 (Nat.le_refl _) _ _ _ _ _ _ _ _ _ _) hv.out)
      · rw [hnode] at hu HOK
        obtain ⟨A, c, rfl, hits⟩ := hu
        obtain ⟨hmay, hxs, hlv⟩ := nodeAt_may hnode
        obtain ⟨lvl, rfl⟩ := Int.eq_ofNat_of_zero_le hlv
        replace HOK : Hid (okL p.S L a = ((spanS p.S lvl xs).isSome && (decide (L < 0) || (decide ((lvl : Int) = L) && decide (xs.length ≠ 0))))) := HOK
        have hl5 : lvl ≤ 5 := by unfold nodeMay headB at hmay; simp at hmay; omega
        replace hmay := Lib.hid hmay
        replace hxs := Lib.hid hxs
        replace hnode := Lib.hid hnode
        replace hits := Lib.hid hits
        by_cases hacc : L < 0 ∨ ((lvl : Int) = L ∧ xs.length ≠ 0)
        · have hokb : okL p.S L a = (spanS p.S lvl xs).isSome := by
            rw [HOK.out]
            rcases hacc with h | h
            · rw [decide_eq_true h, Bool.true_or, Bool.and_true]
            · rw [decide_eq_true h.1, decide_eq_true h.2]; simp
          have HRD := Lib.hid (HR lvl hl5 (fun h => by omega))
          replace hokb := Lib.hid hokb
          clear HR HOK HP0
          have hcs : (decide (L ≥ 0) = false ∧ root = true) ∨ (decide (L ≥ 0) = true ∧ root = false ∧ ((lvl : Int) != L) = false ∧ ((xs.length : Int) == 0) = false ∧ decide (xs.length = 0) = false) := by
            rcases hL with ⟨h1, h2⟩ | ⟨h1, h2, h3⟩
            · exact .inl ⟨decide_eq_false (by omega), h2⟩
            · rcases hacc with h | h
              · omega
              · exact .inr ⟨decide_eq_true (by omega), h3, by rw [bne_eq_false_iff_eq]; exact h.1, by rw [beq_eq_false_iff_ne]; omega, decide_eq_false h.2⟩
          replace hacc := Lib.hid hacc
          clear hL
          go_upto_region 7 with fail
          have v9 := row10 r9 rfl (.int .i64 lvl) (.slice A xs.length c) (.int .u8 0) (.int .u32 0) (.int .u32 0) (.int .u8 0) (.int .u32 0) (.int .u32 0) (.bool false) (.bool true)
          have v8 := (other10 (w := w3) (b := w.heap.size + 1) (k := w.heap.size) (by omega) (.int .i64 lvl) (.slice A xs.length c) (.int .u8 0) (.int .u32 0) (.int .u32 0) (.int .u8 0) (.int .u32 0) (.int .u32 0) (.bool false) (.bool true)).trans r8
          have y3 := below10 (b := w.heap.size + 1) x3 (by omega) (.int .i64 lvl) (.slice A xs.length c) (.int .u8 0) (.int .u32 0) (.int .u32 0) (.int .u8 0) (.int .u32 0) (.int .u32 0) (.bool false) (.bool true)
          replace v9 := (Below.heap_alloc _ (.cells #[.int .i64 lvl, .slice A xs.length c] 118) _ (Array.getElem?_eq_some_iff.1 v9).1).trans v9
          replace v8 := (Below.heap_alloc _ (.cells #[.int .i64 lvl, .slice A xs.length c] 118) _ (Array.getElem?_eq_some_iff.1 v8).1).trans v8
          replace y3 := Below.alloc y3 y3.size (.cells #[.int .i64 lvl, .slice A xs.length c] 118)
          have g4 := World.grownBy.andThen (grown10' (w := w3) (b := w.heap.size + 1) (.int .i64 lvl) (.slice A xs.length c) (.int .u8 0) (.int .u32 0) (.int .u32 0) (.int .u8 0) (.int .u32 0) (.int .u32 0) (.bool false) (.bool true)) (grown_of_ext (Ext.alloc _ (.cells #[.int .i64 lvl, .slice A xs.length c] 118)) none) (fun j e => by cases e)
          generalize hw4 : World.alloc (World.setCell (World.setCell (World.setCell (World.setCell (World.setCell (World.setCell (World.setCell (World.setCell (World.setCell (World.setCell w3 _ _) _ _) _ _) _ _) _ _) _ _) _ _) _ _) _ _) _ _) _ = w4 at *
          clear hw4 k8 f8 k9 f9 r8 r9 x2 hd1 hd2 hkb hsb
          have k8 := cells_row v8
          have f8 := frozen_row v8
          have k9 := cells_row v9
          have f9 := frozen_row v9
          have s4 : w.heap.size + 1 < w4.heap.size := (Array.getElem?_eq_some_iff.1 v9).1
          have hits4 : ItsF (w.heap.size + 2) w4 (.slice A xs.length c) xs := (hits.out.keep g4.size (fun q h1 h2 => World.cell?_of_block (g4.block q.block h2 (by simp; omega)))).mono (by omega)
          have HCall := HRD.out xs A c w4 f hmay.out hxs.out (hits4.mono (by omega)) (hC.out.ext y3)
          replace HCall := Lib.hid HCall
          replace hits4 := Lib.hid hits4
          clear HRD hmay hxs hits g4
          rcases hcs with ⟨c1, rfl⟩ | ⟨c1, rfl, c2, c3, c4⟩
          all_goals
            go_wp2_with fail
            refine HCall.out.mono ?_
            clear HCall
            rintro e w6 ⟨v, g, rfl, ⟨fk, lk, b, rfl, hsp, hcl⟩, hgr, hm6, hg6, hn6⟩
            have hC6 := (hC.out.ext y3).after hgr hm6 hg6 hn6
            have q8 := (hg6.block w.heap.size (by omega) (by simp; omega)).trans v8
            have q9 := (hg6.block (w.heap.size + 1) s4 (by simp; omega)).trans v9
            have s6 := hg6.size
            clear k8 f8 k9 f9
            have k9 := cells_row q9
            have f9 := frozen_row q9
            go_upto_region 11 with fail
            have q9' := row10 q9 rfl (.int .i64 lvl) (.slice A xs.length c) (.int .u8 fk.1) (.int .u32 fk.2.1) (.int .u32 fk.2.2) (.int .u8 lk.1) (.int .u32 lk.2.1) (.int .u32 lk.2.2) (.bool true) (.bool b)
            have q8' := (other10 (w := w6) (b := w.heap.size + 1) (k := w.heap.size) (by omega) (.int .i64 lvl) (.slice A xs.length c) (.int .u8 fk.1) (.int .u32 fk.2.1) (.int .u32 fk.2.2) (.int .u8 lk.1) (.int .u32 lk.2.1) (.int .u32 lk.2.2) (.bool true) (.bool b)).trans q8
            have h67 := grown10' (w := w6) (b := w.heap.size + 1) (.int .i64 lvl) (.slice A xs.length c) (.int .u8 fk.1) (.int .u32 fk.2.1) (.int .u32 fk.2.2) (.int .u8 lk.1) (.int .u32 lk.2.1) (.int .u32 lk.2.2) (.bool true) (.bool b)
            generalize hw7 : World.setCell (World.setCell (World.setCell (World.setCell (World.setCell (World.setCell (World.setCell (World.setCell (World.setCell (World.setCell w6 _ _) _ _) _ _) _ _) _ _) _ _) _ _) _ _) _ _) _ _ = w7 at *
            have hrow7 : w7.heap[p.kb]? = _ := (h67.block _ (by omega) (by simp; omega)).trans hC6.row
            have hm7 : ArrD w7 p.sb g := hm6.of_heap (h67.block _ (by omega) (by simp; omega))
            clear hw7 k9 f9 q8 q9
            have gK : ∀ W, extRel.r w7 W → ∀ i, W.cell? ⟨p.kb, i, none⟩ = #[p.v1, p.v2, p.v3, p.v4, .slice (some ⟨p.sb, 0, none⟩) 256 256][i]? := fun W h => cells_row (row_ext hrow7 h)
            have gq : ∀ W, extRel.r w7 W → ∀ i, W.cell? ⟨w.heap.size + 1, i, none⟩ = (dspanCs lvl A xs.length c fk lk true b)[i]? := fun W h => cells_row (row_ext q9' h)
            replace hC6 := Lib.hid hC6
            replace hsp := Lib.hid hsp
            replace hcl := Lib.hid hcl
            refine region_start (by kernel_rfl) ?_
            refine any_freeT (w := w7) extRel (outsAt []) [true, true, true, true, true, true, true] 1 (by kernel_rfl) (by kernel_rfl) (by kernel_rfl) (by kernel_rfl) (by kernel_rfl) (by kernel_rfl) (by kernel_rfl) ?st (Rel.drew _ _) ?walk
            case st => exact outsAt_stableG (fun _ h => by cases h)
            case walk =>
              intro K hK
              dsimp only [maskOps]
              repeat ((first | (refine free_plainM ?_ (by rfl) (by rfl) (fun W hW _ => ⟨W, ?_, Rel.refl _ W⟩) ?_; rotate_left; (first | (go_simp; with_reducible rfl) | (go_simp; done))) | (refine free_skipM (by rfl) ?_)); try simp only [Act.put, one_f, outB_f, outNew_f, outI_f, outNew_f, List.setIfInBounds_toArray, List.set_cons_zero, List.set_cons_succ])
              refine free_plainM (.pointer (some ⟨p.sb, a * 10, none⟩)) (by rfl) (by rfl) (fun W hW _ => ⟨W, ?_, Rel.refl _ W⟩) ?_
              · go_simp
                intro hge
                exfalso
                omega
              simp only [Act.put, one_f, outB_f, outNew_f, outI_f, outNew_f, List.setIfInBounds_toArray, List.set_cons_zero, List.set_cons_succ]
              refine free_nilM (hK _ _ fun W hW hF => ?_)
              clear hF hK gK gq
              have hW' : Ext w7 W := hW
              have z7 := h67.size
              have q9W := row_ext q9' hW'
              have q8W := row_ext q8' hW'
              have hmW : ArrD W p.sb g := hm7.of_heap (hW'.block _ (by omega))
              obtain ⟨u0, u1, u2, u3, u4, u5, u6, u7, u8, u9, j0, j1, j2, j3, j4, j5, j6, j7, j8, j9⟩ := hmW.some_cells ha2
              have fm := hmW.frozen
              have hput := hmW.put (lvl := lvl) (A := A) (n := xs.length) (c := c) (fk := fk) (lk := lk) (b := b) ha2
              have hg8 := grown10 (w := W) (b := p.sb) (o := a * 10) (.int .i64 lvl) (.slice A xs.length c) (.int .u8 fk.1) (.int .u32 fk.2.1) (.int .u32 fk.2.2) (.int .u8 lk.1) (.int .u32 lk.2.1) (.int .u32 lk.2.2) (.bool true) (.bool b)
              have q9X := (hg8.block (w.heap.size + 1) (Array.getElem?_eq_some_iff.1 q9W).1 (by simp; omega)).trans q9W
              have q8X := (hg8.block w.heap.size (Array.getElem?_eq_some_iff.1 q8W).1 (by simp; omega)).trans q8W
              unfold set10 at hput hg8 q9X q8X
              dsimp only [List.drop, List.length_cons, List.length_nil]
              go_wp2
              refine QN_in ?_
              generalize hw8 : World.setCell (World.setCell (World.setCell (World.setCell (World.setCell (World.setCell (World.setCell (World.setCell (World.setCell (World.setCell W _ _) _ _) _ _) _ _) _ _) _ _) _ _) _ _) _ _) _ _ = w8 at *
              clear hw8 j0 j1 j2 j3 j4 j5 j6 j7 j8 j9 fm
              have kq9 := cells_row q9X
              have kq8 := cells_row q8X
              have fq8 := frozen_row q8X
              go_wp2
              exact learnD_ret (b := w.heap.size) rfl rfl (row10 q8X rfl _ _ _ _ _ _ _ _ _ _) (learnD_end hfr.out hC.out y3 s4 hgr hm6 hg6 hn6 h67 hW' hg8 hput (grown10' _ _ _ _ _ _ _ _ _ _) ha ha2 hnode.out hits4.out hsp.out hcl.out ⟨lvl, A, _, c, fk, lk, true, by rw [hokb.out, ← hsp.out.1], fun h => ⟨rfl, by
                have hb : b = true := by rw [hsp.out.1, ← hokb.out]; exact h
                rw [hb]; exact if_pos rfl⟩⟩)
        · have hv := HP0.out (by
            rw [HOK.out]
            have h1 : ¬ L < 0 := fun h => hacc (.inl h)
            rw [decide_eq_false h1, Bool.false_or]
            by_cases h2 : (lvl : Int) = L
            · have h3 : xs.length = 0 := Classical.byContradiction fun h => hacc (.inr ⟨h2, h⟩)
              rw [h3]; simp
            · rw [decide_eq_false h2]; simp)
          have hcs : decide (L ≥ 0) = true ∧ root = false ∧ (((lvl : Int) != L) = true ∨ (((lvl : Int) != L) = false ∧ ((xs.length : Int) == 0) = true ∧ decide (xs.length = 0) = true)) := by
            rcases hL with ⟨h1, h2⟩ | ⟨h1, h2, h3⟩
            · exact absurd (Or.inl (by omega)) hacc
            · refine ⟨decide_eq_true (by omega), h3, ?_⟩
              by_cases h4 : (lvl : Int) = L
              · have h5 : xs.length = 0 := Classical.byContradiction fun h => hacc (.inr ⟨h4, h⟩)
                exact .inr ⟨by rw [bne_eq_false_iff_eq]; exact h4, by rw [beq_iff_eq]; omega, decide_eq_true h5⟩
              · exact .inl (by rw [bne_iff_ne]; exact h4)
          replace hv := Lib.hid hv
          clear HR HOK HP0 hacc hL
          go_upto_region 7 with fail
          have v9 := row10 r9 rfl (.int .i64 lvl) (.slice A xs.length c) (.int .u8 0) (.int .u32 0) (.int .u32 0) (.int .u8 0) (.int .u32 0) (.int .u32 0) (.bool false) (.bool true)
          have v8 := (other10 (w := w3) (b := w.heap.size + 1) (k := w.heap.size) (by omega) (.int .i64 lvl) (.slice A xs.length c) (.int .u8 0) (.int .u32 0) (.int .u32 0) (.int .u8 0) (.int .u32 0) (.int .u32 0) (.bool false) (.bool true)).trans r8
          have y3 := below10 (b := w.heap.size + 1) x3 (by omega) (.int .i64 lvl) (.slice A xs.length c) (.int .u8 0) (.int .u32 0) (.int .u32 0) (.int .u8 0) (.int .u32 0) (.int .u32 0) (.bool false) (.bool true)
          replace v9 := (Below.heap_alloc _ (.cells #[.int .i64 lvl, .slice A xs.length c] 118) _ (Array.getElem?_eq_some_iff.1 v9).1).trans v9
          replace v8 := (Below.heap_alloc _ (.cells #[.int .i64 lvl, .slice A xs.length c] 118) _ (Array.getElem?_eq_some_iff.1 v8).1).trans v8
          replace y3 := Below.alloc y3 y3.size (.cells #[.int .i64 lvl, .slice A xs.length c] 118)
          generalize hw4 : World.alloc (World.setCell (World.setCell (World.setCell (World.setCell (World.setCell (World.setCell (World.setCell (World.setCell (World.setCell (World.setCell w3 _ _) _ _) _ _) _ _) _ _) _ _) _ _) _ _) _ _) _ _) _ = w4 at *
          clear hw4 k8 f8 k9 f9 r8 r9 x2 hd1 hd2 hkb hsb
          have k8 := cells_row v8
          have f8 := frozen_row v8
          have k9 := cells_row v9
          have f9 := frozen_row v9
          obtain ⟨c1, rfl, c2 | ⟨c2, c3, c4⟩⟩ := hcs
          all_goals
            go_wp2
            exact learnD_ret (b := w.heap.size) rfl rfl (row10 v8 rfl _ _ _ _ _ _ _ _ _ _) (RetK.same hC.out (below10 y3 (Nat.le_refl _) _ _ _ _ _ _ _ _ _ _) hv.out)
    · obtain ⟨n, lvl, xs, A, c, fk, lk, b, hn, _, _, hnode, rfl, hits, hspan, hclo⟩ := hC.known _ _ hfr
      obtain rfl : a = n := by omega
      have hok : okL p.S L a = (b && (decide (L < 0) || (decide ((lvl : Int) = L) && decide (xs.length ≠ 0)))) := by rw [HOK.out, hnode, hspan.1]; rfl
      have HPv : okL p.S L a = b → LearnD p L a (dspanV lvl A xs.length c fk lk true b) f := fun h => ⟨_, A, _, c, fk, lk, true, by rw [h], fun h' => ⟨rfl, by rw [hfr, ← h, h']⟩⟩
      obtain ⟨k0, k1, k2, k3, k4, k5, k6, k7, k8, k9⟩ := hC.arr.cells ha2 (by rw [hfr]; rfl)
      replace HPv := Lib.hid HPv
      replace hok := Lib.hid hok
      replace hC := Lib.hid hC
      clear hfr hclo hspan hits hnode HOK HR hn hr
      generalize hxl : xs.length = m at *
      clear hxl
      have hcs : (okL p.S L a = b ∧ b = true ∧ ((decide (L ≥ 0) = false ∧ root = true) ∨ (decide (L ≥ 0) = true ∧ root = false ∧ ((lvl : Int) != L) = false ∧ ((m : Int) == 0) = false ∧ decide (m = 0) = false))) ∨
          (okL p.S L a = false ∧ (b = false ∨ (b = true ∧ decide (L ≥ 0) = true ∧ root = false ∧ (((lvl : Int) != L) = true ∨ (((lvl : Int) != L) = false ∧ ((m : Int) == 0) = true ∧ decide (m = 0) = true))))) := by
        rw [hok.out]
        cases b
        · exact .inr ⟨rfl, .inl rfl⟩
        · rcases hL with ⟨h1, h2⟩ | ⟨h1, h2, h3⟩
          · exact .inl ⟨by rw [decide_eq_true (by omega)]; rfl, rfl, .inl ⟨decide_eq_false (by omega), h2⟩⟩
          · have h0 : decide (L < 0) = false := decide_eq_false (by omega)
            by_cases h4 : (lvl : Int) = L
            · by_cases h5 : m = 0
              · exact .inr ⟨by rw [h0, h5]; simp, .inr ⟨rfl, decide_eq_true (by omega), h3, .inr ⟨by rw [bne_eq_false_iff_eq]; exact h4, by rw [beq_iff_eq]; omega, decide_eq_true h5⟩⟩⟩
              · exact .inl ⟨by rw [decide_eq_true h4, decide_eq_true h5]; simp, rfl, .inr ⟨decide_eq_true (by omega), h3, by rw [bne_eq_false_iff_eq]; exact h4, by rw [beq_eq_false_iff_ne]; omega, decide_eq_false h5⟩⟩
            · exact .inr ⟨by rw [h0, decide_eq_false h4]; simp, .inr ⟨rfl, decide_eq_true (by omega), h3, .inl (by rw [bne_iff_ne]; exact h4)⟩⟩
      clear hok hL
      rcases hcs with ⟨hok, rfl, hcs⟩ | ⟨hok, hcs⟩
      · have hv := Lib.hid (HPv.out hok)
        clear hok HPv HP0
        rcases hcs with ⟨c1, rfl⟩ | ⟨c1, rfl, c2, c3, c4⟩
        all_goals
          go_enter Tryz.func106, Tryz.ntmps106
          go_wp2
          generalize hwf : World.alloc (World.alloc _ _) _ = wf
          have rf : wf.heap[w.heap.size]? = some (.cells (dspanCs lvl A m c fk lk true true) 185 (0, 0)) := by rw [← hwf]; exact (Below.heap_alloc _ _ _ (by simp)).trans (World.alloc_heap_at _ _ _ rfl)
          have xf : Ext w wf := by rw [← hwf]; exact (Ext.alloc _ _).trans (Ext.alloc _ _)
          exact learnD_ret (b := w.heap.size) rfl rfl rf (RetK.same hC.out xf hv.out)
      · have hv := Lib.hid (HP0.out hok)
        clear hok HPv HP0
        rcases hcs with rfl | ⟨rfl, c1, rfl, c2 | ⟨c2, c3, c4⟩⟩
        all_goals
          go_enter Tryz.func106, Tryz.ntmps106
          go_wp2
          generalize hwf : World.alloc (World.alloc _ _) _ = wf
          have rf : wf.heap[w.heap.size]? = some (.cells (dspanCs 0 none 0 0 (0, 0, 0) (0, 0, 0) false false) 185 (0, 0)) := by rw [← hwf]; exact (Below.heap_alloc _ _ _ (by simp)).trans (World.alloc_heap_at _ _ _ rfl)
          have xf : Ext w wf := by rw [← hwf]; exact (Ext.alloc _ _).trans (Ext.alloc _ _)
          exact learnD_ret (b := w.heap.size) rfl rfl rf (RetK.same hC.out xf hv.out)
end Go.Proofs.YtckhnchnbeoogaaGreat
