/- Texts Order, Place, FWalkW, FWalk, joined. -/
import Derived.Test.YtckhnchnbeoogaaGreatT14
import Derived.Test.YtckhnchnbeoogaaGreatT16
/- Trees: what is in them stands in order; plain words for what is looked up, and told in a row. -/
namespace Go.Proofs.YtckhnchnbeoogaaGreat
set_option linter.unusedSimpArgs false
set_option linter.unusedVariables false
open Go.RowKit

theorem lessK_iff (a b : K3) : lessK a b = true ↔ (a.1 < b.1 ∨ (a.1 = b.1 ∧ (a.2.1 < b.2.1 ∨ (a.2.1 = b.2.1 ∧ a.2.2 < b.2.2)))) := by simp [lessK, lessB]
theorem lessK_not (a b : K3) : lessK a b = false ↔ ¬ (a.1 < b.1 ∨ (a.1 = b.1 ∧ (a.2.1 < b.2.1 ∨ (a.2.1 = b.2.1 ∧ a.2.2 < b.2.2)))) := by rw [← Bool.not_eq_true, lessK_iff]
def leK (a b : K3) : Prop := lessK b a = false
theorem leK_refl (a : K3) : leK a a := by unfold leK; rw [lessK_not]; omega
theorem leK_lt {a b c : K3} (h : leK a b) (h' : lessK b c = true) : lessK a c = true := by
  unfold leK at h; rw [lessK_not] at h; rw [lessK_iff] at *; omega
theorem lt_leK {a b c : K3} (h : lessK a b = true) (h' : leK b c) : lessK a c = true := by
  unfold leK at h'; rw [lessK_not] at h'; rw [lessK_iff] at *; omega
theorem leK_of_lt {a b : K3} (h : lessK a b = true) : leK a b := by
  unfold leK; rw [lessK_not]; rw [lessK_iff] at h; omega
theorem lt_trans {a b c : K3} (h : lessK a b = true) (h' : lessK b c = true) : lessK a c = true := lt_leK h (leK_of_lt h')
theorem lessK_self (a : K3) : lessK a a = false := leK_refl a
theorem leK_eq {a b : K3} (h : leK a b) (h' : leK b a) : a = b := by
  obtain ⟨a1, a2, a3⟩ := a
  obtain ⟨b1, b2, b3⟩ := b
  unfold leK at *; rw [lessK_not] at *
  simp only [Prod.mk.injEq] at *
  omega
structure Srt (f l : K3) (ys : List It) : Prop where
  ord : ys.Pairwise fun a b => lessK (keyIt a) (keyIt b) = true
  low : ∀ x ∈ ys, leK f (keyIt x)
  high : ∀ x ∈ ys, leK (keyIt x) l
  le : leK f l
theorem Srt.append {f l f' l' : K3} {ys zs : List It} (h : Srt f l ys) (h' : Srt f' l' zs) (hl : lessK l f' = true) : Srt f l' (ys ++ zs) :=
  ⟨List.pairwise_append.2 ⟨h.ord, h'.ord, fun a ha b hb => leK_lt (h.high a ha) (lt_leK hl (h'.low b hb))⟩,
    fun x hx => (List.mem_append.1 hx).elim (h.low x) fun hx => leK_of_lt (leK_lt h.le (lt_leK hl (h'.low x hx))),
    fun x hx => (List.mem_append.1 hx).elim (fun hx => leK_of_lt (leK_lt (h.high x hx) (lt_leK hl h'.le))) (h'.high x),
    leK_of_lt (leK_lt h.le (lt_leK hl h'.le))⟩
theorem Srt.one (x : It) {l : K3} (h : leK (keyIt x) l) : Srt (keyIt x) l [x] :=
  ⟨List.pairwise_singleton _ _, fun y hy => by rw [List.mem_singleton.1 hy]; exact leK_refl _, fun y hy => by rw [List.mem_singleton.1 hy]; exact h, h⟩
theorem items_append {S : Sto} : ∀ (h : Nat) (xs ys : List It), itemsS S h (xs ++ ys) = itemsS S h xs ++ itemsS S h ys
  | 0, _, _ => rfl
  | h + 1, xs, ys => by rw [items_succ, items_succ, items_succ, List.flatMap_append]
theorem span_srt_take (S : Sto) (h : Nat) (H1 : ∀ y f l, oneS S h y = some (f, l) → Srt f l (itemsS S h [y])) (xs : List It) : ∀ (k : Nat) (_ : k ≤ xs.length) (p : K3 × K3), spanS S h (xs.take k) = some (some p) → Srt p.1 p.2 (itemsS S h (xs.take k)) ∧ Srt p.1 p.2 (xs.take k) := by
  intro k
  induction k with
  | zero => intro _ p e; rw [List.take_zero] at e; cases e
  | succ k ih =>
    intro hk p e
    have hlt : k < xs.length := hk
    rw [spanS_take hlt] at e
    unfold stepS at e
    rw [List.take_succ_eq_append_getElem hlt, items_append]
    rcases hO : oneS S h xs[k] with _ | ⟨f, l⟩
    · rw [hO] at e
      rcases hA : spanS S h (xs.take k) with _ | a
      · rw [hA] at e; cases e
      · rw [hA] at e; cases e
    · have h1 := H1 _ _ _ hO
      rw [hO] at e
      rcases hA : spanS S h (xs.take k) with _ | _ | q
      · rw [hA] at e; cases e
      · obtain rfl : k = 0 := by
          rcases Nat.eq_zero_or_pos k with h0 | h0
          · exact h0
          · exact absurd hA (spanS_nil_iff h0 (by omega))
        rw [hA] at e
        simp only at e
        split at e
        · rename_i hf
          cases e
          subst hf
          rw [List.take_zero, items_nil]
          exact ⟨h1, Srt.one _ h1.le⟩
        · cases e
      · obtain ⟨i1, i2⟩ := ih (by omega) q hA
        rw [hA] at e
        simp only at e
        split at e
        · rename_i hf
          split at e
          · rename_i hl
            cases e
            subst hf
            exact ⟨i1.append h1 hl, i2.append (Srt.one _ h1.le) hl⟩
          · cases e
        · cases e
theorem one_srt (S : Sto) : ∀ (h : Nat) (y : It) (f l : K3), oneS S h y = some (f, l) → Srt f l (itemsS S h [y])
  | 0, y, f, l, e => by
    unfold oneS at e
    split at e
    · cases e
      exact Srt.one y (leK_refl _)
    · cases e
  | h + 1, y, f, l, e => by
    rw [oneS_succ] at e
    unfold learnS at e
    split at e
    · rcases hn : nodeAt S y.r.toNat with _ | ⟨lvl, xs⟩
      · rw [hn] at e; cases e
      · rw [hn] at e
        simp only at e
        split at e
        · rcases hs : spanS S h xs with _ | _ | q
          · rw [hs] at e; cases e
          · rw [hs] at e; cases e
          · rw [hs] at e
            cases e
            have := (span_srt_take S h (one_srt S h) xs xs.length (Nat.le_refl _) _ (by rw [List.take_length]; exact hs)).1
            rw [List.take_length] at this
            rw [items_succ]
            simp only [List.flatMap_cons, List.flatMap_nil, List.append_nil, hn]
            exact this
        · cases e
    · cases e
theorem span_srt {S : Sto} {h : Nat} {xs : List It} {p : K3 × K3} (hs : spanS S h xs = some (some p)) : Srt p.1 p.2 (itemsS S h xs) ∧ Srt p.1 p.2 xs := by
  have := span_srt_take S h (one_srt S h) xs xs.length (Nat.le_refl _) p (by rw [List.take_length]; exact hs)
  rwa [List.take_length] at this
theorem span_ord {S : Sto} {h : Nat} {xs : List It} (hs : (spanS S h xs).isSome = true) : (itemsS S h xs).Pairwise (fun a b => lessK (keyIt a) (keyIt b) = true) ∧ xs.Pairwise (fun a b => lessK (keyIt a) (keyIt b) = true) := by
  rcases hq : spanS S h xs with _ | _ | p
  · rw [hq] at hs; cases hs
  · rcases Nat.eq_zero_or_pos xs.length with h0 | h0
    · obtain rfl := List.eq_nil_of_length_eq_zero h0
      rw [items_nil]
      exact ⟨List.Pairwise.nil, List.Pairwise.nil⟩
    · exact absurd (by rw [List.take_length]; exact hq) (spanS_nil_iff (S := S) (h := h) h0 (Nat.le_refl xs.length))
  · exact ⟨(span_srt hq).1.ord, (span_srt hq).2.ord⟩
theorem ord_at {xs : List It} (h : xs.Pairwise fun a b => lessK (keyIt a) (keyIt b) = true) {i j : Nat} (hij : i < j) (hj : j < xs.length) : lessK (keyIt (xs[i]'(by omega))) (keyIt xs[j]) = true := List.pairwise_iff_getElem.1 h i j _ hj hij
theorem span_take_some {S : Sto} {h : Nat} {xs : List It} (hs : (spanS S h xs).isSome = true) (k : Nat) : (spanS S h (xs.take k)).isSome = true := by
  rcases hq : spanS S h (xs.take k) with _ | q
  · rw [spanS_bad hq] at hs; cases hs
  · rfl
theorem past_less {S : Sto} {h : Nat} {xs : List It} (hs : (spanS S h xs).isSome = true) {i : Nat} (hi : i + 1 < xs.length) {k : K3} (hk : lessK k (keyIt xs[i + 1]) = false) : ∀ x ∈ itemsS S h [xs[i]], lessK (keyIt x) k = true := by
  intro x hx
  have h2 := span_take_some hs (i + 1 + 1)
  rw [spanS_take hi] at h2
  unfold stepS at h2
  rcases hA : spanS S h (xs.take (i + 1)) with _ | _ | q
  · rw [hA] at h2; cases h2
  · exact absurd hA (spanS_nil_iff (by omega) (by omega))
  · have hm := (span_srt hA).1.high x (by rw [List.take_succ_eq_append_getElem (by omega), items_append]; exact List.mem_append_right _ hx)
    rw [hA] at h2
    rcases hO : oneS S h xs[i + 1] with _ | ⟨f, l⟩
    · rw [hO] at h2; cases h2
    · rw [hO] at h2
      simp only at h2
      split at h2
      · rename_i hf
        split at h2
        · rename_i hl
          rw [hf] at hl
          exact leK_lt hm (lt_leK hl hk)
        · cases h2
      · cases h2
def fromS (S : Sto) (h : Nat) (from_ : K3) (xs : List It) : List It := (itemsS S h xs).filter fun x => !lessK (keyIt x) from_
theorem from_append {S : Sto} {h : Nat} {k : K3} (xs ys : List It) : fromS S h k (xs ++ ys) = fromS S h k xs ++ fromS S h k ys := by
  unfold fromS; rw [items_append, List.filter_append]
theorem from_past {S : Sto} {h : Nat} {xs : List It} (hs : (spanS S h xs).isSome = true) {i : Nat} (hi : i + 1 < xs.length) {k : K3} (hk : lessK k (keyIt xs[i + 1]) = false) : fromS S h k [xs[i]] = [] := by
  unfold fromS
  rw [List.filter_eq_nil_iff]
  intro x hx
  simp [past_less hs hi hk x hx]
def betweenS (S : Sto) (h : Nat) (a b : K3) (xs : List It) : List It := (itemsS S h xs).filter fun x => !lessK (keyIt x) a && !lessK b (keyIt x)
theorem between_eq (S : Sto) (h : Nat) (a b : K3) (xs : List It) : betweenS S h a b xs = (fromS S h a xs).filter fun x => !lessK b (keyIt x) := by
  unfold betweenS fromS
  rw [List.filter_filter]
  congr 1
  funext x
  rw [Bool.and_comm]
theorem from_ord {S : Sto} {h : Nat} {xs : List It} {k : K3} (hs : (spanS S h xs).isSome = true) : (fromS S h k xs).Pairwise fun a b => lessK (keyIt a) (keyIt b) = true := (span_ord hs).1.sublist List.filter_sublist
theorem between_all {S : Sto} {h : Nat} {a b : K3} {xs : List It} (hb : ∀ x ∈ fromS S h a xs, lessK b (keyIt x) = false) : betweenS S h a b xs = fromS S h a xs := by
  rw [between_eq, List.filter_eq_self]
  intro x hx
  simp [hb x hx]
theorem between_stop {S : Sto} {h : Nat} {a b : K3} {xs pre rest : List It} {x : It} (hs : (spanS S h xs).isSome = true) (he : fromS S h a xs = pre ++ x :: rest) (hp : ∀ y ∈ pre, lessK b (keyIt y) = false) (hx : lessK b (keyIt x) = true) : betweenS S h a b xs = pre := by
  have ho := from_ord (k := a) hs
  rw [he] at ho
  obtain ⟨-, o2, -⟩ := List.pairwise_append.1 ho
  rw [List.pairwise_cons] at o2
  rw [between_eq, he, List.filter_append]
  have e1 : pre.filter (fun x => !lessK b (keyIt x)) = pre := by
    rw [List.filter_eq_self]; intro y hy; simp [hp y hy]
  have e2 : (x :: rest).filter (fun x => !lessK b (keyIt x)) = [] := by
    rw [List.filter_eq_nil_iff]
    intro y hy
    rcases List.mem_cons.1 hy with rfl | hy
    · simp [hx]
    · simp [lt_trans hx (o2.1 y hy)]
  rw [e1, e2, List.append_nil]
def placeN (xs : List It) (k : K3) : Nat := (xs.filter fun x => lessK (keyIt x) k).length
theorem place_le (xs : List It) (k : K3) : placeN xs k ≤ xs.length := List.length_filter_le _ _
theorem place_take {xs : List It} {k : K3} {i : Nat} (h : i < xs.length) : placeN (xs.take (i + 1)) k = placeN (xs.take i) k + (if lessK (keyIt xs[i]) k = true then 1 else 0) := by
  unfold placeN
  rw [List.take_succ_eq_append_getElem h, List.filter_append, List.length_append]
  congr 1
  by_cases hl : lessK (keyIt xs[i]) k = true
  · rw [if_pos hl]; simp [hl]
  · rw [if_neg hl]; simp [hl]
theorem place_at : ∀ {xs : List It} {k : K3}, xs.Pairwise (fun a b => lessK (keyIt a) (keyIt b) = true) → ∀ i (h : i < xs.length), (lessK (keyIt xs[i]) k = true ↔ i < placeN xs k)
  | [], _, _, i, h => absurd h (Nat.not_lt_zero _)
  | x :: r, k, ho, i, h => by
    rw [List.pairwise_cons] at ho
    by_cases hx : lessK (keyIt x) k = true
    · have e : placeN (x :: r) k = placeN r k + 1 := by simp [placeN, List.filter_cons, hx]
      cases i with
      | zero => simp [hx, e]
      | succ i => rw [e]; have := place_at (k := k) ho.2 i (by simpa using h); simpa using this
    · have hall : ∀ y ∈ r, lessK (keyIt y) k = false := fun y hy => by
        rcases hz : lessK (keyIt y) k with _ | _
        · rfl
        · exact absurd (lt_trans (ho.1 y hy) hz) hx
      have e : placeN (x :: r) k = 0 := by
        unfold placeN
        have : r.filter (fun x => lessK (keyIt x) k) = [] := by rw [List.filter_eq_nil_iff]; intro y hy; simp [hall y hy]
        simp [List.filter_cons, hx, this]
      rw [e]
      cases i with
      | zero => simp [hx]
      | succ i =>
        have hi : i < r.length := by simpa using h
        simp [hall r[i] (List.getElem_mem hi)]
theorem rev_find {p : It → Bool} {xs : List It} {i : Nat} (h : i < xs.length) (hp : p xs[i] = true) (hn : ∀ j (hj : j < xs.length), i < j → p xs[j] = false) : xs.reverse.find? p = some xs[i] := by
  have e : xs = xs.take i ++ xs[i] :: xs.drop (i + 1) := by
    rw [← List.drop_eq_getElem_cons h, List.take_append_drop]
  have e2 : xs.reverse = (xs.drop (i + 1)).reverse ++ xs[i] :: (xs.take i).reverse := by
    conv => lhs; rw [e]
    simp
  rw [e2, List.find?_append]
  have e3 : (xs.drop (i + 1)).reverse.find? p = none := by
    rw [List.find?_eq_none]
    intro y hy
    rw [List.mem_reverse] at hy
    obtain ⟨j, hj, rfl⟩ := List.mem_iff_getElem.1 hy
    rw [List.length_drop] at hj
    rw [List.getElem_drop]
    simp [hn (i + 1 + j) (by omega) (by omega)]
  rw [e3, List.find?_cons_of_pos hp]
  rfl
theorem rev_none {p : It → Bool} {xs : List It} (hn : ∀ j (hj : j < xs.length), p xs[j] = false) : xs.reverse.find? p = none := by
  rw [List.find?_eq_none]
  intro y hy
  rw [List.mem_reverse] at hy
  obtain ⟨j, hj, rfl⟩ := List.mem_iff_getElem.1 hy
  simp [hn j hj]
def downS (xs : List It) (k : K3) : Option It := xs.reverse.find? fun x => !lessK k (keyIt x)
def leafS (xs : List It) (k : K3) : Option It := xs.reverse.find? fun x => decide (keyIt x = k)
def oneT (S : Sto) (k : K3) : Nat → List It → Option It
  | 0, xs => leafS xs k
  | h + 1, xs => match downS xs k with
    | none => none
    | some y => match nodeAt S y.r.toNat with
      | none => none
      | some (_, ys) => oneT S k h ys
theorem one_zero (S : Sto) (k : K3) (xs : List It) : oneT S k 0 xs = leafS xs k := rfl
theorem one_down {S : Sto} {k : K3} {h : Nat} {xs ys : List It} {y : It} {lvl : Int} (hd : downS xs k = some y) (hn : nodeAt S y.r.toNat = some (lvl, ys)) : oneT S k (h + 1) xs = oneT S k h ys := by
  show (match downS xs k with | none => none | some y => match nodeAt S y.r.toNat with | none => none | some (_, ys) => oneT S k h ys) = _
  rw [hd]; simp only; rw [hn]
theorem one_none {S : Sto} {k : K3} {h : Nat} {xs : List It} (hd : downS xs k = none) : oneT S k (h + 1) xs = none := by
  show (match downS xs k with | none => none | some y => match nodeAt S y.r.toNat with | none => none | some (_, ys) => oneT S k h ys) = _
  rw [hd]
section
variable {xs : List It} {k : K3} (ho : xs.Pairwise fun a b => lessK (keyIt a) (keyIt b) = true)
include ho
theorem leaf_is (hp : placeN xs k < xs.length) (he : keyIt (xs[placeN xs k]'hp) = k) : leafS xs k = some xs[placeN xs k] := by
  refine rev_find hp (by simp [he]) fun j hj hlt => ?_
  have := ord_at ho hlt hj
  rw [he] at this
  rw [decide_eq_false_iff_not]
  intro h
  rw [h, lessK_self] at this
  cases this
theorem leaf_no (hn : ∀ hp : placeN xs k < xs.length, keyIt (xs[placeN xs k]'hp) ≠ k) : leafS xs k = none := by
  refine rev_none fun j hj => ?_
  rw [decide_eq_false_iff_not]
  intro h
  have h1 : ¬ j < placeN xs k := fun hl => by
    have := (place_at (k := k) ho j hj).2 hl
    rw [h, lessK_self] at this; cases this
  have h2 : ¬ placeN xs k < j := fun hl => by
    have h3 := ord_at ho hl hj
    rw [h] at h3
    exact absurd ((place_at (k := k) ho _ (by omega)).1 h3) (Nat.lt_irrefl _)
  have h4 : placeN xs k = j := by omega
  subst h4
  exact hn hj h
theorem down_is (hp : placeN xs k < xs.length) (he : keyIt (xs[placeN xs k]'hp) = k) : downS xs k = some xs[placeN xs k] := by
  refine rev_find hp (by simp [he, lessK_self]) fun j hj hlt => ?_
  have := ord_at ho hlt hj
  rw [he] at this
  simp [this]
theorem down_no (h0 : placeN xs k = 0) (hn : ∀ hp : placeN xs k < xs.length, keyIt (xs[placeN xs k]'hp) ≠ k) : downS xs k = none := by
  refine rev_none fun j hj => ?_
  have h1 : lessK (keyIt xs[j]) k = false := by
    rcases hz : lessK (keyIt xs[j]) k with _ | _
    · rfl
    · have := (place_at ho j hj).1 hz; omega
  rcases hz : lessK k (keyIt xs[j]) with _ | _
  · have he : keyIt xs[j] = k := leK_eq hz h1
    rcases Nat.eq_zero_or_pos j with hj0 | hj0
    · subst hj0
      exact absurd (by simpa [h0] using he) (hn (by omega))
    · have h3 := ord_at ho (i := 0) hj0 hj
      rw [he] at h3
      have := (place_at ho 0 (by omega)).1 h3
      omega
  · simp
theorem down_before (h0 : 0 < placeN xs k) (hn : ∀ hp : placeN xs k < xs.length, keyIt (xs[placeN xs k]'hp) ≠ k) : downS xs k = some (xs[placeN xs k - 1]'(by have := place_le xs k; omega)) := by
  have hle := place_le xs k
  refine rev_find (by omega) ?_ fun j hj hlt => ?_
  · have := (place_at (k := k) ho (placeN xs k - 1) (by omega)).2 (by omega)
    have h2 : lessK k (keyIt (xs[placeN xs k - 1]'(by omega))) = false := leK_of_lt this
    simp [h2]
  · have h1 : lessK (keyIt xs[j]) k = false := by
      rcases hz : lessK (keyIt xs[j]) k with _ | _
      · rfl
      · have := (place_at ho j hj).1 hz; omega
    rcases hz : lessK k (keyIt xs[j]) with _ | _
    · have he : keyIt xs[j] = k := leK_eq hz h1
      by_cases hjp : placeN xs k = j
      · subst hjp
        exact absurd he (hn hj)
      · have h3 := ord_at ho (show placeN xs k < j by omega) hj
        rw [he] at h3
        have := (place_at ho _ (by omega)).1 h3
        omega
    · simp
end
end Go.Proofs.YtckhnchnbeoogaaGreat
/- Contracts: the place of a key in a node. -/

namespace Go.Proofs.YtckhnchnbeoogaaGreat
set_option linter.unusedSimpArgs false
set_option linter.unusedVariables false
open Go.RowKit

def isAt (xs : List It) (k : K3) : Bool := match xs[placeN xs k]? with
  | none => false
  | some x => decide (keyIt x = k)
theorem isAt_lt {xs : List It} {k : K3} (h : placeN xs k < xs.length) : isAt xs k = decide (keyIt xs[placeN xs k] = k) := by
  unfold isAt; rw [List.getElem?_eq_getElem h]
theorem isAt_ge {xs : List It} {k : K3} (h : ¬ placeN xs k < xs.length) : isAt xs k = false := by
  unfold isAt; rw [List.getElem?_eq_none (by omega)]
theorem key_if (x : It) (k i o : Int) (W : World) : (if x.k = k then if x.i = i then if x.o = o then Result.ok (Next.value (Value.bool true)) W else Result.ok (Next.value (Value.bool false)) W else Result.ok (Next.value (Value.bool false)) W else Result.ok (Next.value (Value.bool false)) W) = Result.ok (Next.value (Value.bool (decide (keyIt x = (k, i, o))))) W := by
  have e : (keyIt x = (k, i, o)) ↔ (x.k = k ∧ x.i = i ∧ x.o = o) := by unfold keyIt; simp only [Prod.mk.injEq]
  by_cases h1 : x.k = k
  · by_cases h2 : x.i = i
    · by_cases h3 : x.o = o
      · rw [if_pos h1, if_pos h2, if_pos h3, decide_eq_true (e.2 ⟨h1, h2, h3⟩)]
      · rw [if_pos h1, if_pos h2, if_neg h3, decide_eq_false (fun h => h3 (e.1 h).2.2)]
    · rw [if_pos h1, if_neg h2, decide_eq_false (fun h => h2 (e.1 h).2.1)]
  · rw [if_neg h1, decide_eq_false (fun h => h1 (e.1 h).1)]
theorem place_ret {R : Ending → World → Prop} {a : Act} {W : World} {u v : Value} (h2 : a.tmps[4]?.getD undef = u) (h3 : a.tmps[5]?.getD undef = v) (hd : a.defers = []) (hR : R (.returned (.tuple #[u, v])) W) : bodyPost Tryz.prog Tryz.f57 R .ret a W := by
  refine bodyPost_ret (v := .tuple #[u, v]) ?_ hd hR
  simp [results, Tryz.results57, go_sem, h2, h3]

set_option maxHeartbeats 4000000 in
set_option maxRecDepth 100000 in
theorem place_any (lvl : Int) (A : Option Addr) (c : Nat) (xs : List It) (k i o : Int) (lo : Nat) (w : World) (hl : xs.length ≤ 5) (h : ItsF lo w (.slice A xs.length c) xs) :
    Calls Tryz.prog 57 #[nodeV lvl A xs.length c, keyV k i o] w (Ret (.tuple #[.int .i64 ((placeN xs (k, i, o) : Nat) : Int), .bool (isAt xs (k, i, o))]) w) := by
  obtain ⟨-, hc1, hc2, hA⟩ := h.its.at_
  have HI := Lib.hid h.its
  clear h
  go_enter Tryz.func57, Tryz.ntmps57
  go_wp2_with fail
  generalize hw1 : (World.alloc (World.alloc w _) _) = w1
  have x1 : Ext w w1 := by rw [← hw1]; exact (Ext.alloc _ _).trans (Ext.alloc _ _)
  have rn : w1.heap[w.heap.size]? = some (.cells #[.int .i64 lvl, .slice A xs.length c] 118 (0, 0)) := by rw [← hw1]; exact (Below.heap_alloc _ _ _ (by simp)).trans (World.alloc_heap_at _ _ _ rfl)
  have rk : w1.heap[w.heap.size + 1]? = some (.cells #[.int .u8 k, .int .u32 i, .int .u32 o] 34 (0, 0)) := by rw [← hw1]; exact World.alloc_heap_at _ _ _ (by simp)
  clear hw1
  go_loopw [4, 11] (fun p j wr => ∃ n : Nat, n ≤ xs.length ∧ j = .int .i64 (n : Int) ∧ p = .int .i64 ((placeN (xs.take n) (k, i, o) : Nat) : Int) ∧ Ext w1 wr) (fun _ j _ => xs.length - (intOf j).toNat)
  case atStart => exact ⟨0, Nat.zero_le _, rfl, rfl, Ext.refl _⟩
  case round =>
    obtain ⟨n, hn, rfl, rfl, xr⟩ := hrel
    have xwr := x1.trans xr
    have kn := cells_row (row_ext rn xr)
    have kk := cells_row (row_ext rk xr)
    have zk : w.heap.size + 1 < wr.heap.size := (Array.getElem?_eq_some_iff.1 (row_ext rk xr)).1
    by_cases hlt : n < xs.length
    · obtain ⟨b, off, rfl, hb⟩ := hA (by omega)
      obtain ⟨A', c', d0, d1, d2, d3, d4, -⟩ := HI.out.item n hlt
      replace d0 := Ext.cell xwr d0
      replace d1 := Ext.cell xwr d1
      replace d2 := Ext.cell xwr d2
      replace d3 := Ext.cell xwr d3
      replace d4 := Ext.cell xwr d4
      have HP := Lib.hid (place_take (k := (k, i, o)) hlt)
      have hpl := place_le (xs.take n) (k, i, o)
      rw [List.length_take] at hpl
      generalize placeN (xs.take n) (k, i, o) = pl at *
      generalize xs[n] = x at *
      have hw1 := Lib.hid (IntWalk.wrap64_in ((pl : Int) + 1) (by omega))
      have hw2 := Lib.hid (IntWalk.wrap64_in ((n : Int) + 1) (by omega))
      go_wp2_with fail
      generalize hwa : (World.alloc wr _) = wa
      have xa : Ext wr wa := by rw [← hwa]; exact Ext.alloc _ _
      clear hwa
      refine (less_any x.k x.i x.o k i o wa).mono ?_
      rintro e wl ⟨rfl, hB⟩
      have xl : Ext w1 wl := xr.trans (xa.trans hB)
      clear kn kk d0 d1 d2 d3 d4
      rcases hls : lessB x.k x.i x.o k i o with _ | _
      · have hz : placeN (xs.take (n + 1)) (k, i, o) = pl := by rw [HP.out, if_neg (show ¬ lessK (keyIt x) (k, i, o) = true from (fun h => by rw [show lessK (keyIt x) (k, i, o) = false from hls] at h; cases h))]; rfl
        replace hz := Lib.hid hz
        go_wp2_with fail
        refine ⟨⟨n + 1, hlt, rfl, by rw [hz.out], xl⟩, ?_⟩
        simp [intOf]
        omega
      · have hz : placeN (xs.take (n + 1)) (k, i, o) = pl + 1 := by rw [HP.out, if_pos (show lessK (keyIt x) (k, i, o) = true from hls)]
        replace hz := Lib.hid hz
        go_wp2_with fail
        refine ⟨⟨n + 1, hlt, rfl, by rw [hz.out]; rfl, xl⟩, ?_⟩
        simp [intOf]
        omega
    · obtain rfl : n = xs.length := by omega
      rw [List.take_length]
      have hpl := place_le xs (k, i, o)
      go_wp2_with fail
      by_cases hp : placeN xs (k, i, o) < xs.length
      · have hia := isAt_lt hp
        obtain ⟨b, off, rfl, hb⟩ := hA (by omega)
        obtain ⟨A', c', d0, d1, d2, -, -, -⟩ := HI.out.item _ hp
        replace d0 := Ext.cell xwr d0
        replace d1 := Ext.cell xwr d1
        replace d2 := Ext.cell xwr d2
        generalize xs[placeN xs (k, i, o)] = x at *
        generalize placeN xs (k, i, o) = pl at *
        generalize hie : isAt xs (k, i, o) = ie at *
        have gN : ∀ W, extRel.r wr W → ∀ i, W.cell? ⟨w.heap.size, i, none⟩ = #[.int .i64 lvl, .slice (some ⟨b, off, none⟩) xs.length c][i]? := fun W h => cells_row (row_ext (row_ext rn xr) h)
        have gK : ∀ W, extRel.r wr W → ∀ j, W.cell? ⟨w.heap.size + 1, j, none⟩ = #[.int .u8 k, .int .u32 i, .int .u32 o][j]? := fun W h => cells_row (row_ext (row_ext rk xr) h)
        have gD : ∀ W, extRel.r wr W → W.cell? ⟨b, off + pl * 5, none⟩ = some (.int .u8 x.k) ∧ W.cell? ⟨b, off + pl * 5 + 1, none⟩ = some (.int .u32 x.i) ∧ W.cell? ⟨b, off + pl * 5 + 2, none⟩ = some (.int .u32 x.o) := fun W h => ⟨Ext.cell h d0, Ext.cell h d1, Ext.cell h d2⟩
        have gD0 := fun W h => (gD W h).1
        have gD1 := fun W h => (gD W h).2.1
        have gD2 := fun W h => (gD W h).2.2
        have hd1 : decide ((pl : Int) < (xs.length : Int)) = true := decide_eq_true (by omega)
        have hd2 : decide (pl < xs.length) = true := decide_eq_true hp
        replace hia := Lib.hid hia
        clear d0 d1 d2 gD
        refine region_start (by kernel_rfl) ?_
        refine any_freeT (w := wr) extRel (outsAt []) [true, true, true, true, true, true, true, true, true, true, true, true, true, true, true, true, true] 1 (by kernel_rfl) (by kernel_rfl) (by kernel_rfl) (by kernel_rfl) (by kernel_rfl) (by kernel_rfl) (by kernel_rfl) ?st (Rel.drew _ _) ?walk
        case st => exact outsAt_stableG (fun _ h => by cases h)
        case walk =>
          intro K hK
          dsimp only [maskOps]
          repeat ((first | (refine free_plainM ?_ (by rfl) (by rfl) (fun W hW _ => ⟨W, ?_, Rel.refl _ W⟩) ?_; rotate_left; (first | (go_simp; with_reducible rfl) | (go_simp; done))) | (refine free_skipM (by rfl) ?_)); try simp only [Act.put, one_f, outB_f, outNew_f, outI_f, List.setIfInBounds_toArray, List.set_cons_zero, List.set_cons_succ])
          refine free_plainM (.bool ie) (by rfl) (by rfl) (fun W hW _ => ⟨W, ?_, Rel.refl _ W⟩) ?_
          · go_simp
            rw [hia.out]
            exact key_if x k i o W
          simp only [Act.put, one_f, outB_f, outNew_f, outI_f, List.setIfInBounds_toArray, List.set_cons_zero, List.set_cons_succ]
          repeat ((first | (refine free_plainM ?_ (by rfl) (by rfl) (fun W hW _ => ⟨W, ?_, Rel.refl _ W⟩) ?_; rotate_left; (first | (go_simp; with_reducible rfl) | (go_simp; done))) | (refine free_skipM (by rfl) ?_)); try simp only [Act.put, one_f, outB_f, outNew_f, outI_f, List.setIfInBounds_toArray, List.set_cons_zero, List.set_cons_succ])
          refine free_nilM (hK _ _ fun W hW hF => ?_)
          clear hF hK gN gK gD0 gD1 gD2
          have hW' : Ext wr W := hW
          dsimp only [List.drop, List.length_cons, List.length_nil]
          go_wp2
          refine QN_in ?_
          go_wp2_with fail
          exact place_ret rfl rfl rfl ⟨rfl, xwr.trans hW'⟩
      · have hia := isAt_ge hp
        have gN : ∀ W, extRel.r wr W → ∀ i, W.cell? ⟨w.heap.size, i, none⟩ = #[.int .i64 lvl, .slice A xs.length c][i]? := fun W h => cells_row (row_ext (row_ext rn xr) h)
        generalize placeN xs (k, i, o) = pl at *
        generalize hie : isAt xs (k, i, o) = ie at *
        have hd1 : decide ((pl : Int) < (xs.length : Int)) = false := decide_eq_false (by omega)
        have hd2 : decide (pl < xs.length) = false := decide_eq_false hp
        replace hia := Lib.hid hia
        refine region_start (by kernel_rfl) ?_
        refine any_freeT (w := wr) extRel (outsAt []) [true, true, true, true, true, true, true, true, true, true, true, true, true, true, true, true, true] 1 (by kernel_rfl) (by kernel_rfl) (by kernel_rfl) (by kernel_rfl) (by kernel_rfl) (by kernel_rfl) (by kernel_rfl) ?st (Rel.drew _ _) ?walk
        case st => exact outsAt_stableG (fun _ h => by cases h)
        case walk =>
          intro K hK
          dsimp only [maskOps]
          repeat ((first | (refine free_plainM ?_ (by rfl) (by rfl) (fun W hW _ => ⟨W, ?_, Rel.refl _ W⟩) ?_; rotate_left; (first | (go_simp; with_reducible rfl) | (go_simp; done))) | (refine free_skipM (by rfl) ?_)); try simp only [Act.put, one_f, outB_f, outNew_f, outI_f, List.setIfInBounds_toArray, List.set_cons_zero, List.set_cons_succ])
          refine free_nilM (hK _ _ fun W hW hF => ?_)
          clear hF hK gN
          have hW' : Ext wr W := hW
          dsimp only [List.drop, List.length_cons, List.length_nil]
          go_wp2
          refine QN_in ?_
          go_wp2_with fail
          exact place_ret rfl rfl rfl ⟨by rw [hia.out]; rfl, xwr.trans hW'⟩
end Go.Proofs.YtckhnchnbeoogaaGreat
/- A tree is gone through: words. -/
namespace Go.Proofs.YtckhnchnbeoogaaGreat
set_option linter.unusedSimpArgs false
set_option linter.unusedVariables false
open Go.RowKit

abbrev sp7 (f l : K3) (b : Bool) : Array Value := #[.int .u8 f.1, .int .u32 f.2.1, .int .u32 f.2.2, .int .u8 l.1, .int .u32 l.2.1, .int .u32 l.2.2, .bool b]
theorem set7 {cs : Array Value} (hs : cs.size = 7) (x0 x1 x2 x3 x4 x5 x6 : Value) :
    ((((((cs.setIfInBounds 0 x0).setIfInBounds 1 x1).setIfInBounds 2 x2).setIfInBounds 3 x3).setIfInBounds 4 x4).setIfInBounds 5 x5).setIfInBounds 6 x6 = #[x0, x1, x2, x3, x4, x5, x6] := by
  apply Array.ext_getElem?
  intro j
  by_cases hj : j < 7
  · have : j = 0 ∨ j = 1 ∨ j = 2 ∨ j = 3 ∨ j = 4 ∨ j = 5 ∨ j = 6 := by omega
    rcases this with rfl | rfl | rfl | rfl | rfl | rfl | rfl <;> simp [Array.getElem?_setIfInBounds, hs]
  · rw [Array.getElem?_eq_none (by simp; omega), Array.getElem?_eq_none (by simp; omega)]
theorem row7 {w : World} {b : Nat} {ty : TypeId} {cs : Array Value} (h : w.heap[b]? = some (.cells cs ty (0, 0))) (hs : cs.size = 7) (x0 x1 x2 x3 x4 x5 x6 : Value) :
    (((((((w.setCell ⟨b, 0, none⟩ x0).setCell ⟨b, 1, none⟩ x1).setCell ⟨b, 2, none⟩ x2).setCell ⟨b, 3, none⟩ x3).setCell ⟨b, 4, none⟩ x4).setCell ⟨b, 5, none⟩ x5).setCell ⟨b, 6, none⟩ x6).heap[b]? = some (.cells #[x0, x1, x2, x3, x4, x5, x6] ty (0, 0)) := by
  have := row_set (row_set (row_set (row_set (row_set (row_set (row_set h 0 x0) 1 x1) 2 x2) 3 x3) 4 x4) 5 x5) 6 x6
  rw [this, set7 hs]
theorem below7 {w0 w : World} {B b : Nat} (h : Below B w0 w) (hb : B ≤ b) (x0 x1 x2 x3 x4 x5 x6 : Value) :
    Below B w0 (((((((w.setCell ⟨b, 0, none⟩ x0).setCell ⟨b, 1, none⟩ x1).setCell ⟨b, 2, none⟩ x2).setCell ⟨b, 3, none⟩ x3).setCell ⟨b, 4, none⟩ x4).setCell ⟨b, 5, none⟩ x5).setCell ⟨b, 6, none⟩ x6) :=
  Below.setCell (Below.setCell (Below.setCell (Below.setCell (Below.setCell (Below.setCell (Below.setCell h (p := ⟨b, 0, none⟩) hb _) (p := ⟨b, 1, none⟩) hb _) (p := ⟨b, 2, none⟩) hb _) (p := ⟨b, 3, none⟩) hb _) (p := ⟨b, 4, none⟩) hb _) (p := ⟨b, 5, none⟩) hb _) (p := ⟨b, 6, none⟩) hb _
theorem round_good {S : Sto} {h : Nat} {xs : List It} (hs : (spanS S h xs).isSome = true) {k : Nat} (hk : k < xs.length) :
    ∃ l, oneS S h xs[k] = some (keyIt xs[k], l) ∧ ∀ f0 l0, (0 < k → spanS S h (xs.take k) = some (some (f0, l0))) → (0 < k → lessK l0 (keyIt xs[k]) = true) ∧ spanS S h (xs.take (k + 1)) = some (some (if k = 0 then keyIt xs[k] else f0, l)) := by
  have h2 := span_take_some hs (k + 1)
  rw [spanS_take hk] at h2 ⊢
  unfold stepS at h2 ⊢
  rcases hA : spanS S h (xs.take k) with _ | a
  · rw [hA] at h2; cases h2
  · rcases hO : oneS S h xs[k] with _ | ⟨f, l⟩
    · rw [hA, hO] at h2; cases h2
    · rw [hA, hO] at h2
      simp only at h2
      split at h2
      · rename_i hf
        subst hf
        refine ⟨l, rfl, fun f0 l0 hp => ?_⟩
        simp only [if_true]
        rcases a with _ | ⟨f1, l1⟩
        · obtain rfl : k = 0 := by
            rcases Nat.eq_zero_or_pos k with h0 | h0
            · exact h0
            · exact absurd hA (spanS_nil_iff h0 (by omega))
          exact ⟨fun h => absurd h (Nat.lt_irrefl 0), rfl⟩
        · have h0 : 0 < k := by
            rcases Nat.eq_zero_or_pos k with h0 | h0
            · subst h0; rw [List.take_zero] at hA; cases hA
            · exact h0
          have := hp h0
          cases this
          simp only at h2
          split at h2
          · rename_i hl
            exact ⟨fun _ => hl, by rw [if_neg (by omega)]; simp [hl]⟩
          · cases h2
      · cases h2
theorem one_now {S : Sto} : ∀ {h : Nat} {y : It}, (oneS S h y).isSome = true → y.r = 0 ∨ 0 < (S.now[y.r.toNat]?.getD 0).toNat
  | 0, y, h => by
    unfold oneS at h
    split at h
    · assumption
    · cases h
  | h + 1, y, hy => by
    obtain ⟨b, e, -, -, xs, hn, -⟩ := one_tree hy
    refine .inr ?_
    rw [e, Int.toNat_natCast]
    unfold nodeAt at hn
    split at hn
    · cases hn
    · omega
structure FEnv (S : Sto) (bS bB bW bb : Nat) (v1 v2 v3 v4 u1 u2 u3 u4 : Value) (w : World) : Prop where
  s : w.heap[bS]? = some (.cells #[v1, v2, v3, v4] 28 (0, 0))
  b : w.heap[bB]? = some (.cells #[.pointer (some ⟨bb, 0, none⟩)] 108 (0, 0))
  f : w.heap[bW]? = some (.cells #[.func (.func 90) #[] #[.pointer (some ⟨bS, 0, none⟩), .pointer (some ⟨bB, 0, none⟩), .pointer (some ⟨bW, 0, none⟩)]] 162 (0, 0))
  n : Bys w w.heap.size v3 S.now
  on : OnB 0 bb u1 u2 u3 u4 S w
theorem OnB.ext {lo b : Nat} {v1 v2 v3 v4 : Value} {S : Sto} {w W : World} (h : OnB lo b v1 v2 v3 v4 S w) (hx : Ext w W) : OnB lo b v1 v2 v3 v4 S W := ⟨h.1, row_ext h.2.1 hx, h.2.2.ext hx⟩
theorem FEnv.ext {S : Sto} {bS bB bW bb : Nat} {v1 v2 v3 v4 u1 u2 u3 u4 : Value} {w W : World} (h : FEnv S bS bB bW bb v1 v2 v3 v4 u1 u2 u3 u4 w) (hx : Ext w W) : FEnv S bS bB bW bb v1 v2 v3 v4 u1 u2 u3 u4 W :=
  ⟨row_ext h.s hx, row_ext h.b hx, row_ext h.f hx, (h.n.below hx).more hx.size, h.on.ext hx⟩
structure WkI (S : Sto) (h : Nat) (xs : List It) (A : Option Addr) (c : Nat) (w wr : World) (k : Nat) (fk lk : K3) (b : Bool) : Prop where
  rn : wr.heap[w.heap.size]? = some (.cells #[.int .i64 h, .slice A xs.length c] 118 (0, 0))
  rr : wr.heap[w.heap.size + 1]? = some (.cells (sp7 (0, 0, 0) (0, 0, 0) false) 164 (0, 0))
  rx : wr.heap[w.heap.size + 2]? = some (.cells (sp7 fk lk b) 164 (0, 0))
  sp : 0 < k → spanS S h (xs.take k) = some (some (fk, lk)) ∧ b = true
  xt : Ext w wr
theorem WkI.ext {S : Sto} {h : Nat} {xs : List It} {A : Option Addr} {c : Nat} {w wr W : World} {k : Nat} {fk lk : K3} {b : Bool} (H : WkI S h xs A c w wr k fk lk b) (hx : Ext wr W) : WkI S h xs A c w W k fk lk b :=
  ⟨row_ext H.rn hx, row_ext H.rr hx, row_ext H.rx hx, H.sp, H.xt.trans hx⟩
theorem WkI.low {S : Sto} {h : Nat} {xs : List It} {A : Option Addr} {c : Nat} {w wr W : World} {k : Nat} {fk lk : K3} {b : Bool} {q : Nat} (H : WkI S h xs A c w wr k fk lk b) (hx : Below q wr W) (hq : w.heap.size + 2 < q) : WkI S h xs A c w W k fk lk b :=
  ⟨(hx.block _ (by omega)).trans H.rn, (hx.block _ (by omega)).trans H.rr, (hx.block _ (by omega)).trans H.rx, H.sp, Below.trans H.xt (Below.mono hx (by omega))⟩
theorem WkI.set {S : Sto} {h : Nat} {xs : List It} {A : Option Addr} {c : Nat} {w wr W : World} {k : Nat} {fk lk fk' lk' : K3} {b : Bool} (H : WkI S h xs A c w wr k fk lk b) (hb : ∀ j, j ≠ w.heap.size + 1 + 1 → W.heap[j]? = wr.heap[j]?) (hB : Below w.heap.size w W)
    (hx : W.heap[w.heap.size + 1 + 1]? = some (.cells (sp7 fk' lk' true) 164 (0, 0))) (hs : spanS S h (xs.take (k + 1)) = some (some (fk', lk'))) : WkI S h xs A c w W (k + 1) fk' lk' true :=
  ⟨(hb _ (by omega)).trans H.rn, (hb _ (by omega)).trans H.rr, hx, fun _ => ⟨hs, rfl⟩, hB⟩
theorem WkI.set7 {S : Sto} {h : Nat} {xs : List It} {A : Option Addr} {c : Nat} {w wr : World} {k : Nat} {fk lk fk' lk' : K3} {b : Bool} (H : WkI S h xs A c w wr k fk lk b) (hs : spanS S h (xs.take (k + 1)) = some (some (fk', lk'))) :
    WkI S h xs A c w (((((((wr.setCell ⟨w.heap.size + 1 + 1, 0, none⟩ (.int .u8 fk'.1)).setCell ⟨w.heap.size + 1 + 1, 1, none⟩ (.int .u32 fk'.2.1)).setCell ⟨w.heap.size + 1 + 1, 2, none⟩ (.int .u32 fk'.2.2)).setCell ⟨w.heap.size + 1 + 1, 3, none⟩ (.int .u8 lk'.1)).setCell ⟨w.heap.size + 1 + 1, 4, none⟩ (.int .u32 lk'.2.1)).setCell ⟨w.heap.size + 1 + 1, 5, none⟩ (.int .u32 lk'.2.2)).setCell ⟨w.heap.size + 1 + 1, 6, none⟩ (.bool true)) (k + 1) fk' lk' true :=
  H.set (fun j hj => (Below.heap_setCell _ _ _ _ hj).trans ((Below.heap_setCell _ _ _ _ hj).trans ((Below.heap_setCell _ _ _ _ hj).trans ((Below.heap_setCell _ _ _ _ hj).trans ((Below.heap_setCell _ _ _ _ hj).trans ((Below.heap_setCell _ _ _ _ hj).trans (Below.heap_setCell _ _ _ _ hj)))))))
    (below7 H.xt (by omega) _ _ _ _ _ _ _) (row7 H.rx rfl _ _ _ _ _ _ _) hs
theorem WkI.set4 {S : Sto} {h : Nat} {xs : List It} {A : Option Addr} {c : Nat} {w wr : World} {k : Nat} {fk lk lk' : K3} {b : Bool} (H : WkI S h xs A c w wr k fk lk b) (hs : spanS S h (xs.take (k + 1)) = some (some (fk, lk'))) :
    WkI S h xs A c w ((((wr.setCell ⟨w.heap.size + 1 + 1, 3, none⟩ (.int .u8 lk'.1)).setCell ⟨w.heap.size + 1 + 1, 4, none⟩ (.int .u32 lk'.2.1)).setCell ⟨w.heap.size + 1 + 1, 5, none⟩ (.int .u32 lk'.2.2)).setCell ⟨w.heap.size + 1 + 1, 6, none⟩ (.bool true)) (k + 1) fk lk' true :=
  H.set (fun j hj => (Below.heap_setCell _ _ _ _ hj).trans ((Below.heap_setCell _ _ _ _ hj).trans ((Below.heap_setCell _ _ _ _ hj).trans (Below.heap_setCell _ _ _ _ hj))))
    (Below.setCell (Below.setCell (Below.setCell (Below.setCell H.xt (p := ⟨w.heap.size + 1 + 1, 3, none⟩) (by simp; omega) _) (p := ⟨w.heap.size + 1 + 1, 4, none⟩) (by simp; omega) _) (p := ⟨w.heap.size + 1 + 1, 5, none⟩) (by simp; omega) _) (p := ⟨w.heap.size + 1 + 1, 6, none⟩) (by simp; omega) _)
    (row_set (row_set (row_set (row_set H.rx 3 _) 4 _) 5 _) 6 _) hs
theorem one_span {S : Sto} {h : Nat} {y : It} {p : K3 × K3} (e : oneS S (h + 1) y = some p) : ∃ (b : Nat) (ys : List It), y.r = (b : Int) ∧ 8 ≤ b ∧ b < 256 ∧ nodeAt S b = some ((h : Int), ys) ∧ spanS S h ys = some (some p) := by
  obtain ⟨b, hb, h1, h2, ys, hn, -⟩ := one_tree (by rw [e]; rfl : (oneS S (h + 1) y).isSome = true)
  refine ⟨b, ys, hb, h1, h2, hn, ?_⟩
  rw [oneS_succ] at e
  unfold learnS at e
  rw [if_pos (by omega), hb, Int.toNat_natCast, hn] at e
  simp only [if_true] at e
  rcases hs : spanS S h ys with _ | _ | q
  · rw [hs] at e; cases e
  · rw [hs] at e; cases e
  · rw [hs] at e; cases e; rfl
def WalkC (S : Sto) (bS bB bW bb : Nat) (v1 v2 v3 v4 u1 u2 u3 u4 : Value) (h : Nat) : Prop :=
  ∀ (xs : List It) (A : Option Addr) (c : Nat) (f l : K3) (lo : Nat) (w : World), FEnv S bS bB bW bb v1 v2 v3 v4 u1 u2 u3 u4 w → h ≤ 5 → xs.length ≤ 5 → (∀ x ∈ xs, 0 ≤ x.r ∧ x.r < 256) → ItsF lo w (.slice A xs.length c) xs → spanS S h xs = some (some (f, l)) →
    Calls Tryz.prog 90 #[nodeV h A xs.length c, .pointer (some ⟨bS, 0, none⟩), .pointer (some ⟨bB, 0, none⟩), .pointer (some ⟨bW, 0, none⟩)] w (Ret (.agg (sp7 f l true)) w)
end Go.Proofs.YtckhnchnbeoogaaGreat
/- Contracts: the walk through a tree that may be. -/
namespace Go.Proofs.YtckhnchnbeoogaaGreat
set_option linter.unusedSimpArgs false
set_option linter.unusedVariables false
open Go.RowKit

theorem bys_cell {w : World} {B b o n c : Nat} {l : List UInt8} (h : Bys w B (.slice (some ⟨b, o, none⟩) n c) l) {a : Nat} (ha : a < l.length) : w.cell? ⟨b, o + a, none⟩ = some (.int .u8 ((l[a]?.getD 0).toNat : Int)) := by
  obtain ⟨A', c', e, _, _, hr⟩ := h
  rw [Value.slice.injEq] at e
  obtain ⟨rfl, _, rfl⟩ := e
  obtain ⟨b', off', e, _, hc⟩ := hr.2 (by omega)
  simp only [Option.some.injEq, Addr.mk.injEq, and_true] at e
  obtain ⟨rfl, rfl⟩ := e
  exact hc a _ (by rw [List.getElem?_map, List.getElem?_eq_getElem (by omega)]; rfl)
theorem now_form {S : Sto} (hS : storeMay S = true) {w : World} {B : Nat} {v : Value} (h : Bys w B v S.now) : ∃ b3 o3 c3, v = .slice (some ⟨b3, o3, none⟩) 256 c3 ∧ 256 ≤ c3 ∧ c3 ≤ maxLen := by
  obtain ⟨-, -, hl3, -⟩ := storeMay_len hS
  have hn := h
  obtain ⟨A3, c3, e3, -⟩ := h
  rw [e3] at hn
  obtain ⟨_, hc3, hm3, hA3⟩ := hn.at_
  obtain ⟨b3, o3, rfl, _⟩ := hA3 (by omega)
  rw [hl3] at e3 hc3
  exact ⟨b3, o3, c3, e3, hc3, hm3⟩
theorem fwalk_ret {R : Ending → World → Prop} {a : Act} {W : World} {b : Nat} {f l : K3} {bo : Bool} (h4 : a.tmps[5]?.getD undef = .pointer (some ⟨b, 0, none⟩)) (hd : a.defers = [])
    (hrow : W.heap[b]? = some (.cells (sp7 f l bo) 164 (0, 0))) (hR : R (.returned (.agg (sp7 f l bo))) W) : bodyPost Tryz.prog Tryz.f90 R .ret a W := by
  refine bodyPost_ret (v := .agg (sp7 f l bo)) ?_ hd hR
  have k := cells_row hrow
  simp [results, Tryz.results90, go_sem, h4, k]

set_option maxHeartbeats 8000000 in
set_option maxRecDepth 100000 in
theorem walk_any (S : Sto) (hS : storeMay S = true) (bS bB bW bb : Nat) (v1 v2 v3 v4 : Value) (A1 : Option Addr) (n1 c1 : Nat) (A2 : Option Addr) (n2 c2 : Nat) (A3 : Option Addr) (n3 c3 : Nat) (A4 : Option Addr) (n4 c4 : Nat) (h : Nat)
    (HW : ∀ h' : Nat, h = h' + 1 → WalkC S bS bB bW bb v1 v2 v3 v4 (.slice A1 n1 c1) (.slice A2 n2 c2) (.slice A3 n3 c3) (.slice A4 n4 c4) h') : WalkC S bS bB bW bb v1 v2 v3 v4 (.slice A1 n1 c1) (.slice A2 n2 c2) (.slice A3 n3 c3) (.slice A4 n4 c4) h := by
  intro xs A c f l lo w hE hh5 hlen hxr hits hsp
  obtain ⟨b3, o3, d3, e3, hd3, hm3⟩ := now_form hS hE.n
  subst e3
  have hl256 : S.now.length = 256 := (storeMay_len hS).2.2.1
  obtain ⟨-, hc1, hc2, hA⟩ := hits.its.at_
  have hss : (spanS S h xs).isSome = true := by rw [hsp]; rfl
  replace hits := Lib.hid hits
  have HG := Lib.hid (fun k hk => round_good hss (k := k) hk)
  have HN := Lib.hid (fun y hy => one_now (span_one hss y hy))
  have HT := Lib.hid (fun h' (e : h = h' + 1) y (hy : y ∈ xs) => one_tree (S := S) (h := h') (y := y) (by have := span_one hss y hy; rw [e] at this; exact this))
  replace hsp := Lib.hid hsp
  replace hss := Lib.hid hss
  replace hE := Lib.hid hE
  replace hxr := Lib.hid hxr
  replace hh5 := Lib.hid hh5
  replace hl256 := Lib.hid hl256
  replace hS := Lib.hid hS
  go_enter Tryz.func90, Tryz.ntmps90
  go_wp2
  generalize hw1 : (World.alloc (World.alloc _ _) _) = w1
  have x1 : Ext w w1 := by rw [← hw1]; exact ((Ext.alloc _ _).trans (Ext.alloc _ _)).trans (Ext.alloc _ _)
  have H1 : WkI S h xs A c w w1 0 (0, 0, 0) (0, 0, 0) false := by
    refine ⟨?_, ?_, ?_, fun h0 => absurd h0 (Nat.lt_irrefl 0), x1⟩
    · rw [← hw1]; exact (Below.heap_alloc _ _ _ (by simp; omega)).trans ((Below.heap_alloc _ _ _ (by simp)).trans (World.alloc_heap_at _ _ _ rfl))
    · rw [← hw1]; exact (Below.heap_alloc _ _ _ (by simp)).trans (World.alloc_heap_at _ _ _ (by simp))
    · rw [← hw1]; exact World.alloc_heap_at _ _ _ (by simp)
  clear hw1 x1
  replace H1 := Lib.hid H1
  go_loopw [15] (fun i wr => ∃ (k : Nat) (fk lk : K3) (b : Bool), k ≤ xs.length ∧ i = .int .i64 (k : Int) ∧ WkI S h xs A c w wr k fk lk b) (fun i _ => xs.length - (intOf i).toNat)
  case atStart => exact ⟨0, _, _, _, by omega, rfl, H1.out⟩
  case round =>
    obtain ⟨k, fk, lk, bk, hk, rfl, HR⟩ := hrel
    clear H1
    have xr := HR.xt
    have rnr := HR.rn
    have rxr := HR.rx
    have rrr := HR.rr
    have z2 : w.heap.size + 2 < wr.heap.size := (Array.getElem?_eq_some_iff.1 rxr).1
    by_cases hlt : k < xs.length
    · have hlt' := hlt
      obtain ⟨b, off, rfl, hb⟩ := hA (by omega)
      obtain ⟨A', c', d0, d1, d2, d3', d4, -⟩ := (hits.out.ext xr).its.item k hlt'
      have hxk := hxr.out xs[k] (List.getElem_mem hlt')
      have hnk := HN.out xs[k] (List.getElem_mem hlt')
      obtain ⟨l1, hone, hgo⟩ := HG.out k hlt'
      obtain ⟨g1, g2⟩ := hgo fk lk (fun h0 => (HR.sp h0).1)
      have HTk := Lib.hid (fun h' e => HT.out h' e xs[k] (List.getElem_mem hlt'))
      generalize xs[k] = x at *
      obtain ⟨hr01, hr02⟩ := hxk
      obtain ⟨r, hr⟩ := Int.eq_ofNat_of_zero_le hr01
      rw [hr] at d3' hr02
      have hr2 : r < 256 := by omega
      rw [hr, Int.toNat_natCast] at hnk
      have hfN := fun W (hx : Ext wr W) => bys_cell ((hE.out.ext (xr.trans hx)).n) (a := r) (by have := hl256.out; omega)
      have hnr : (S.now[r]?.getD 0).toNat = (S.now[r]?.getD 0).toNat := rfl
      generalize hnv : (S.now[r]?.getD 0).toNat = nv at *
      clear hnr
      have hr0 : (((r : Int) == 0) = true ∧ decide (r = 0) = true) ∨ (((r : Int) == 0) = false ∧ decide (r = 0) = false ∧ decide (0 < nv) = true) := by
        rcases Nat.eq_zero_or_pos r with h0 | h0
        · subst h0
          exact .inl ⟨by decide, by decide⟩
        · exact .inr ⟨by rw [beq_eq_false_iff_ne]; omega, decide_eq_false (by omega), decide_eq_true (by omega)⟩
      replace hr := Lib.hid hr
      replace hnv := Lib.hid hnv
      replace hone := Lib.hid hone
      replace g1 := Lib.hid g1
      replace g2 := Lib.hid g2
      replace hnk := Lib.hid hnk
      unfold maxLen at hm3
      clear hr01 hr02 hgo
      have knr := cells_row rnr
      have kxr := cells_row rxr
      replace hfN := Lib.hid hfN
      go_wp2_with fail
      generalize hwa : (World.alloc _ _) = wa
      have xa : Ext wr wa := by rw [← hwa]; exact Ext.alloc _ _
      have ra : wa.heap[wr.heap.size]? = some (.cells #[.int .u8 x.k, .int .u32 x.i, .int .u32 x.o, .int .i64 r, .slice A' x.val.length c'] 38 (0, 0)) := by rw [← hwa]; exact World.alloc_heap_at _ _ _ rfl
      clear hwa d0 d1 d2 d3' d4
      have Ea := hE.out.ext (xr.trans xa)
      have gC : ∀ W, extRel.r wa W → W.cell? ⟨bS, 2, none⟩ = some (.slice (some ⟨b3, o3, none⟩) 256 d3) := fun W h => by rw [cells_row (row_ext Ea.s h)]; rfl
      have gN : ∀ W, extRel.r wa W → W.cell? ⟨b3, o3 + r, none⟩ = some (.int .u8 (nv : Int)) := fun W h => hfN.out W (xa.trans h)
      have gI : ∀ W, extRel.r wa W → ∀ i, W.cell? ⟨wr.heap.size, i, none⟩ = #[.int .u8 x.k, .int .u32 x.i, .int .u32 x.o, .int .i64 r, .slice A' x.val.length c'][i]? := fun W h => cells_row (row_ext ra h)
      clear knr kxr hfN
      refine region_start (by kernel_rfl) ?_
      refine any_free (w := wa) extRel (outsAt [(17, outNew wa.heap.size 164 (sp7 (0, 0, 0) (0, 0, 0) false))]) [true, true, true, true, true, true, true, true, true, true, true, true, true, true, true, true, true, true] 1 (by kernel_rfl) (by kernel_rfl) (by kernel_rfl) (by kernel_rfl) (by kernel_rfl) (by kernel_rfl) ?st (Rel.drew _ _) ?walk
      case st => exact outsAt_stableG (by simp only [List.forall_mem_cons]; exact ⟨fun p => stableG_ext (outNew_stable _ _ _ p), fun _ h => by cases h⟩)
      case walk =>
        intro K hK
        dsimp only [maskOps]
        rcases hr0 with ⟨hq1, hq2⟩ | ⟨hq1, hq2, hq3⟩
        all_goals
          repeat ((first | (refine free_plainM ?_ (by rfl) (by rfl) (fun W hW _ => ⟨W, ?_, Rel.refl _ W⟩) ?_; rotate_left; (first | (go_simp; with_reducible rfl) | (go_simp; done))) | (refine free_skipM (by rfl) ?_)); try simp only [Act.put, one_f, outB_f, outNew_f, outI_f, outNew_f, List.setIfInBounds_toArray, List.set_cons_zero, List.set_cons_succ])
          try (
            refine free_plainM (.pointer (some ⟨b3, o3 + r, none⟩)) (by rfl) (by rfl) (fun W hW _ => ⟨W, ?_, Rel.refl _ W⟩) ?_
            · go_simp
              intro hge
              exfalso
              omega
            simp only [Act.put, one_f, outB_f, outNew_f, outI_f, outNew_f, List.setIfInBounds_toArray, List.set_cons_zero, List.set_cons_succ])
          repeat ((first | (refine free_plainM ?_ (by rfl) (by rfl) (fun W hW _ => ⟨W, ?_, Rel.refl _ W⟩) ?_; rotate_left; (first | (go_simp; with_reducible rfl) | (go_simp; done))) | (refine free_skipM (by rfl) ?_)); try simp only [Act.put, one_f, outB_f, outNew_f, outI_f, outNew_f, List.setIfInBounds_toArray, List.set_cons_zero, List.set_cons_succ])
          refine free_hardM (outNew wa.heap.size 164 (sp7 (0, 0, 0) (0, 0, 0) false)) (by rfl) (by rfl) (fun W hW _ => ?_) (fun (p8 : Nat) => ?_)
          · refine hardAt_newE ?_ (Below.size hW)
            go_simp
          simp only [Act.put, one_f, outB_f, outNew_f, outI_f, outNew_f, List.setIfInBounds_toArray, List.set_cons_zero, List.set_cons_succ]
          refine free_nilM (hK _ _ fun W hW hF => ?_)
          obtain ⟨f8, hlo⟩ : W.heap[p8]? = some (.cells (sp7 (0, 0, 0) (0, 0, 0) false) 164 (0, 0)) ∧ wa.heap.size ≤ p8 := (hF 17).1
          clear hF hK gC gN gI
          have hW' : Ext wa W := hW
          dsimp only [List.drop, List.length_cons, List.length_nil]
          have k8 := cells_row f8
          have h8 := frozen_row f8
          go_wp2
          refine QN_in ?_
          have x5 : Ext wa _ := below7 hW' hlo (.int .u8 x.k) (.int .u32 x.i) (.int .u32 x.o) (.int .u8 x.k) (.int .u32 x.i) (.int .u32 x.o) (.bool true)
          have r8 := row7 f8 rfl (.int .u8 x.k) (.int .u32 x.i) (.int .u32 x.o) (.int .u8 x.k) (.int .u32 x.i) (.int .u32 x.o) (.bool true)
          generalize hw5 : (World.setCell (World.setCell (World.setCell (World.setCell (World.setCell (World.setCell (World.setCell W _ _) _ _) _ _) _ _) _ _) _ _) _ _) = w5 at *
          clear hw5 k8 h8 f8 hW hW' hq1 hq2
          have H5 := HR.ext (xa.trans x5)
          have r5 := row_ext ra x5
          have z8 : wr.heap.size < p8 := Nat.lt_of_lt_of_le (Array.getElem?_eq_some_iff.1 ra).1 hlo
          have z8' : p8 < w5.heap.size := (Array.getElem?_eq_some_iff.1 r8).1
          have kn5 := cells_row H5.rn
          rcases Nat.eq_zero_or_pos h with hz | hz
          case' inl =>
            have hd : decide ((h : Int) > 0) = false := decide_eq_false (by omega)
            have hd2 : decide (0 < h) = false := decide_eq_false (by omega)
            have hl1 : l1 = keyIt x := by
              have := hone.out
              rw [hz] at this
              unfold oneS at this
              split at this
              · cases this; rfl
              · cases this
            have H7 := H5
            replace r8 : w5.heap[p8]? = some (.cells (sp7 (keyIt x) l1 true) 164 (0, 0)) := by rw [hl1]; exact r8
            replace hz := Lib.hid hz
            replace hl1 := Lib.hid hl1
            replace H5 := Lib.hid H5
            replace H7 := Lib.hid H7
            clear rnr rxr rrr
            go_upto_region 11 with fail
          case' inr =>
            obtain ⟨h', hh⟩ : ∃ h', h = h' + 1 := ⟨h - 1, by omega⟩
            have hc1 : (h' : Int) = (h : Int) - 1 := by omega
            obtain ⟨b', ys, e1, e2, e3, e4, e5⟩ := one_span (by rw [← hh]; exact hone.out)
            have hrb : r = b' := by have := hr.out; omega
            subst hrb
            have hd : decide ((h : Int) > 0) = true := decide_eq_true (by omega)
            have hd2 : decide (0 < h) = true := decide_eq_true hz
            have hw64 : wrap64 ((h : Int) - 1) = (h : Int) - 1 := IntWalk.wrap64_in _ (by have := hh5.out; omega)
            replace hw64 := Lib.hid hw64
            obtain ⟨hm1, hm2, -⟩ := nodeAt_may e4
            have hyl : ys.length ≤ 5 := by unfold nodeMay headB at hm1; simp at hm1; omega
            have hyn : 0 < ys.length := by
              rcases Nat.eq_zero_or_pos ys.length with h0 | h0
              · obtain rfl := List.eq_nil_of_length_eq_zero h0
                cases e5
              · exact h0
            have hHW := Lib.hid (fun W (hx : Ext w5 W) A9 c9 lo9 (hi9 : ItsF lo9 W (.slice A9 ys.length c9) ys) => HW h' hh ys A9 c9 (keyIt x) l1 lo9 W (hE.out.ext ((xr.trans (xa.trans x5)).trans hx)) (by have := hh5.out; omega) hyl (fun y hy => (hm2 y hy).1.2.2.2.1) hi9 e5)
            have hBN := Lib.hid (bnode_any 0 bb A1 n1 c1 A2 n2 c2 A3 n3 c3 A4 n4 c4 S hS.out r e2 e3 w5 (hE.out.ext (xr.trans (xa.trans x5))).on)
            rw [e4] at hBN
            have hy1 : ((ys.length : Int) == 0) = false := by rw [beq_eq_false_iff_ne]; omega
            have hy2 : decide (ys.length = 0) = false := decide_eq_false (by omega)
            have kb5 := cells_row (hE.out.ext (xr.trans (xa.trans x5))).b
            have ki5 := cells_row r5
            replace hh := Lib.hid hh
            replace hz := Lib.hid hz
            replace H5 := Lib.hid H5
            replace e4 := Lib.hid e4
            replace e5 := Lib.hid e5
            replace hc1 := Lib.hid hc1
            clear rnr rxr rrr hm1 hm2 hyl hyn e1 e2 e3
            go_wp2_with fail
            refine hBN.out.mono ?_
            clear hBN
            rintro e w6 ⟨u, rfl, hu, hB6⟩
            obtain ⟨A9, c9, rfl, hits9⟩ := hu
            rw [hc1.out]
            have H6 := H5.out.ext hB6
            have r86 := row_ext r8 hB6
            have r56 := row_ext r5 hB6
            have E6 := hE.out.ext ((xr.trans (xa.trans x5)).trans hB6)
            have kn6 := cells_row H6.rn
            have kf6 := cells_row E6.f
            have z6 : p8 < w6.heap.size := (Array.getElem?_eq_some_iff.1 r86).1
            have z66 := (Array.getElem?_eq_some_iff.1 H6.rn).1
            have zf6 := (Array.getElem?_eq_some_iff.1 E6.f).1
            replace H6 := Lib.hid H6
            replace E6 := Lib.hid E6
            replace hits9 := Lib.hid hits9
            have hw64' := hw64.out
            clear r8 r5 ki5 kb5 kn5 x5
            go_wp2_with fail
            generalize hw7 : (World.alloc w6 _) = w7
            have x7 : Ext w6 w7 := by rw [← hw7]; exact Ext.alloc _ _
            clear hw7
            have hCall := hHW.out w7 (Ext.trans hB6 x7) A9 c9 _ (hits9.out.ext x7)
            rw [hc1.out] at hCall
            refine hCall.mono ?_
            clear hCall hHW
            rintro e w8 ⟨rfl, hB8⟩
            have x8 : Ext w6 w8 := x7.trans hB8
            have H8 := H6.out.ext x8
            have r88 := row_ext r86 x8
            have r58 := row_ext r56 x8
            have b8 := row7 r88 rfl (.int .u8 (keyIt x).1) (.int .u32 (keyIt x).2.1) (.int .u32 (keyIt x).2.2) (.int .u8 l1.1) (.int .u32 l1.2.1) (.int .u32 l1.2.2) (.bool true)
            have x9 : ∀ q ≤ p8, Below q w8 _ := fun q hq => below7 (Below.refl q w8) hq (.int .u8 (keyIt x).1) (.int .u32 (keyIt x).2.1) (.int .u32 (keyIt x).2.2) (.int .u8 l1.1) (.int .u32 l1.2.1) (.int .u32 l1.2.2) (.bool true)
            have f8 := frozen_row r88
            have k8 := cells_row r88
            have z8 : w.heap.size + 2 < p8 := by omega
            clear r86 r56 kn6 kf6
            replace hz := Lib.hid hz.out
            replace H8 := Lib.hid H8
            go_upto_region 11 with fail
            have H7 := H8.out.low (x9 p8 (Nat.le_refl _)) z8
            have r5 := ((x9 p8 (Nat.le_refl _)).block wr.heap.size (by omega)).trans r58
            clear x9 r88 r58 f8 k8
            generalize hw9 : (World.setCell (World.setCell (World.setCell (World.setCell (World.setCell (World.setCell (World.setCell w8 _ _) _ _) _ _) _ _) _ _) _ _) _ _) = w9 at *
            clear hw9 z8' hB8 x8 hB6 x7 z6 z66 zf6
            have r8 : w9.heap[p8]? = some (.cells (sp7 (keyIt x) l1 true) 164 (0, 0)) := b8
            clear b8
            replace H7 := Lib.hid H7
          all_goals
            replace HR := Lib.hid HR
            clear xa
            have kn7 := cells_row H7.out.rn
            have kx7 := cells_row H7.out.rx
            have fx7 := frozen_row H7.out.rx
            have k8 := cells_row r8
            have k5 := cells_row r5
            have hp3 : p8 ≠ w.heap.size + 1 + 1 := by omega
            have hp4 : w.heap.size + 1 + 1 ≠ p8 := by omega
            rcases Nat.eq_zero_or_pos k with hk0 | hk0
            · have hk1 : decide ((k : Int) > 0) = false := decide_eq_false (by omega)
              have hk2 : ((k : Int) == 0) = true := by rw [beq_iff_eq]; omega
              have hk3 : decide (k = 0) = true := decide_eq_true hk0
              have hk4 : decide (0 < k) = false := decide_eq_false (by omega)
              have HN := g2.out
              rw [if_pos hk0] at HN
              have HR9 := H7.out.set7 HN
              replace HN := Lib.hid HN
              replace hk0 := Lib.hid hk0
              dsimp only [keyIt] at HR9
              replace HR9 := Lib.hid HR9
              clear hk
              go_wp2_with fail
              refine ⟨⟨k + 1, (x.k, x.i, x.o), l1, true, hlt', rfl, HR9.out⟩, ?_⟩
              simp [intOf]
              omega
            · have hk1 : decide ((k : Int) > 0) = true := decide_eq_true (by omega)
              have hk2 : ((k : Int) == 0) = false := by rw [beq_eq_false_iff_ne]; omega
              have hk3 : decide (k = 0) = false := decide_eq_false (by omega)
              have hk4 : decide (0 < k) = true := decide_eq_true hk0
              have HN := g2.out
              rw [if_neg (by omega)] at HN
              replace HN := Lib.hid HN
              have hls : lessB lk.1 lk.2.1 lk.2.2 x.k x.i x.o = true := g1.out hk0
              replace hls := Lib.hid hls
              replace hk0 := Lib.hid hk0
              clear hk
              go_wp2_with fail
              refine (less_any lk.1 lk.2.1 lk.2.2 x.k x.i x.o _).mono ?_
              rintro e wl ⟨rfl, hB⟩
              rw [hls.out]
              have H8' := H7.out.ext hB
              have kn8 := cells_row H8'.rn
              have kx8 := cells_row H8'.rx
              have fx8 := frozen_row H8'.rx
              have k88 := cells_row (row_ext r8 hB)
              have HR9 := Lib.hid (H8'.set4 HN.out)
              replace H8' := Lib.hid H8'
              clear kn7 kx7 fx7 k8 k5 hB r8 r5
              go_wp2_with fail
              refine ⟨⟨k + 1, fk, l1, true, hlt', rfl, HR9.out⟩, ?_⟩
              simp [intOf]
              omega
    · have hke : k = xs.length := by omega
      have hx0 : 0 < xs.length := by
        rcases Nat.eq_zero_or_pos xs.length with h0 | h0
        · have := hsp.out
          rw [List.eq_nil_of_length_eq_zero h0] at this
          cases this
        · exact h0
      obtain ⟨hs1, rfl⟩ := HR.sp (by omega)
      rw [hke, List.take_length, hsp.out] at hs1
      simp only [Option.some.injEq, Prod.mk.injEq] at hs1
      obtain ⟨rfl, rfl⟩ := hs1
      have kx := cells_row rxr
      have kr := cells_row rrr
      have fr := frozen_row rrr
      have kn := cells_row rnr
      have rr := Lib.hid rrr
      have xrh := Lib.hid xr
      replace HR := Lib.hid HR
      replace hke := Lib.hid hke
      clear rxr rnr rrr xr
      go_wp2
      exact fwalk_ret (b := w.heap.size + 1) rfl rfl (row7 rr.out rfl _ _ _ _ _ _ _) ⟨rfl, below7 xrh.out (by omega) _ _ _ _ _ _ _⟩
theorem walk_all (S : Sto) (hS : storeMay S = true) (bS bB bW bb : Nat) (v1 v2 v3 v4 : Value) (A1 : Option Addr) (n1 c1 : Nat) (A2 : Option Addr) (n2 c2 : Nat) (A3 : Option Addr) (n3 c3 : Nat) (A4 : Option Addr) (n4 c4 : Nat) :
    ∀ h : Nat, WalkC S bS bB bW bb v1 v2 v3 v4 (.slice A1 n1 c1) (.slice A2 n2 c2) (.slice A3 n3 c3) (.slice A4 n4 c4) h
  | 0 => walk_any S hS bS bB bW bb v1 v2 v3 v4 A1 n1 c1 A2 n2 c2 A3 n3 c3 A4 n4 c4 0 fun _ e => by omega
  | h + 1 => walk_any S hS bS bB bW bb v1 v2 v3 v4 A1 n1 c1 A2 n2 c2 A3 n3 c3 A4 n4 c4 (h + 1) fun h' e => by
    obtain rfl : h = h' := by omega
    exact walk_all S hS bS bB bW bb v1 v2 v3 v4 A1 n1 c1 A2 n2 c2 A3 n3 c3 A4 n4 c4 h
end Go.Proofs.YtckhnchnbeoogaaGreat
