/- Texts DoneX, TwinW, Short, DTwinW, joined. -/
import Derived.Deep.Slices
import Derived.Test.YtlgbjpihmkeopaaP06
import Derived.Test.YtlgbjpihmkeopaaP07
import Derived.Test.YtlgbjpihmkeopaaP15
/- Appends of cells that hold a slice just made: the row grows, in place or not. -/
namespace Go.Proofs.Ytlgbjpihmkeopaa
set_option linter.unusedSimpArgs false
set_option linter.unusedVariables false
open Go.RowKit

def thawO : Obj → Obj
  | .cells c t f => if f = (0, 0) then .cells c t f else .coro none
  | o => o
def thaw (W : World) : World := { W with heap := W.heap.map thawO }
theorem thaw_size (W : World) : (thaw W).heap.size = W.heap.size := by simp [thaw]
theorem thaw_heap (W : World) (k : Nat) : (thaw W).heap[k]? = (W.heap[k]?).map thawO := by simp [thaw]
theorem thaw_row {W : World} {b : Nat} {cs : Array Value} {t : TypeId} (h : W.heap[b]? = some (.cells cs t (0, 0))) : (thaw W).heap[b]? = some (.cells cs t (0, 0)) := by
  rw [thaw_heap, h]
  rfl
theorem thaw_of_block {w w' : World} {q : Addr} (h : w'.heap[q.block]? = w.heap[q.block]?) : (thaw w').cell? q = (thaw w).cell? q :=
  World.cell?_of_block (by rw [thaw_heap, thaw_heap, h])
theorem Below.thaw {B : Nat} {w w' : World} (h : Below B w w') {q : Addr} (hq : q.block < B) : (thaw w').cell? q = (Go.Proofs.Ytlgbjpihmkeopaa.thaw w).cell? q := thaw_of_block (h.block q.block hq)
theorem thaw_spec {W : World} {q : Addr} {v : Value} (h : (thaw W).cell? q = some v) : W.cell? q = some v ∧ W.frozen? q = false := by
  unfold World.cell? at h
  rw [thaw_heap] at h
  unfold World.cell? World.frozen?
  cases hb : W.heap[q.block]? with
  | none => rw [hb] at h; cases h
  | some o =>
    rw [hb] at h
    cases o with
    | cells c e f =>
      simp only [Option.map_some, thawO] at h
      by_cases hf : f = (0, 0)
      · subst hf
        rw [if_pos rfl] at h
        exact ⟨h, by simp⟩
      · rw [if_neg hf] at h
        cases h
    | _ => simp only [Option.map_some, thawO] at h; cases h
theorem thaw_cell {W : World} {b : Nat} {cs : Array Value} {t : TypeId} (h : W.heap[b]? = some (.cells cs t (0, 0))) (j : Nat) : (thaw W).cell? ⟨b, j, none⟩ = W.cell? ⟨b, j, none⟩ := by
  rw [cells_row h, cells_row (thaw_row h)]
def Thaw (W : World) (v : Value) : Prop := ∀ a n c, v = .slice (some a) n c → 0 < n → ∃ cs t, W.heap[a.block]? = some (.cells cs t (0, 0))
theorem Thaw.of_own {w : World} {base n size : Nat} {e : TypeId} {v : Value} {xs : List Value} (h : w.ownsRow base e size v n xs) : Thaw w v := by
  intro a n' c ev hn
  rcases h.2 with ⟨rfl, rfl⟩ | ⟨g, cap, cur, rfl, _, hg, _⟩
  · cases ev
  · cases ev
    exact ⟨_, _, hg⟩
def NewB (lo : Nat) (v : Value) (l : List UInt8) (W : World) : Prop := Bys W W.heap.size v l ∧ From lo v ∧ Thaw W v
theorem NewB.of_own {w : World} {base n : Nat} {e : TypeId} {v : Value} {l : List UInt8} (h : w.ownsRow base e 1 v n (l.map bv)) : NewB base v l w := ⟨Bys.of_own h, From.of_own h, Thaw.of_own h⟩
theorem NewB.mono {lo lo' : Nat} {v : Value} {l : List UInt8} {W : World} (h : NewB lo v l W) (hl : lo' ≤ lo) : NewB lo' v l W := ⟨h.1, h.2.1.mono hl, h.2.2⟩
theorem NewB.grown {lo : Nat} {v : Value} {l : List UInt8} {W W' : World} {row : Option Nat} (h : NewB lo v l W) (hg : W.grownBy W' row) (ha : ∀ a n c, v = .slice (some a) n c → 0 < n → row ≠ some a.block) : NewB lo v l W' := by
  refine ⟨h.1.grown hg ha, h.2.1, fun a n c e hn => ?_⟩
  obtain ⟨A', c', e', _, _, hr⟩ := h.1
  have e2 := e'
  rw [e] at e'
  simp only [Value.slice.injEq] at e'
  obtain ⟨e1, e3, _⟩ := e'
  obtain ⟨b, off, e4, hbb, _⟩ := hr.2 (by omega)
  rw [← e1] at e4
  simp only [Option.some.injEq] at e4
  have := ha a n c e hn
  rw [hg.block a.block (by rw [e4]; exact hbb) (fun x => this x.symm)]
  exact h.2.2 a n c e hn
theorem NewB.ext {lo : Nat} {v : Value} {l : List UInt8} {W W' : World} (h : NewB lo v l W) (hx : Ext W W') : NewB lo v l W' := h.grown (grown_of_ext hx none) fun _ _ _ _ _ x => by cases x
theorem NewB.thaw {lo : Nat} {v : Value} {l : List UInt8} {W : World} (h : NewB lo v l W) : Bys (thaw W) W.heap.size v l := by
  obtain ⟨⟨A, c, e, hc, hm, hr⟩, _, ht⟩ := h
  refine ⟨A, c, e, hc, hm, hr.1, fun hn => ?_⟩
  obtain ⟨b, off, e2, hb, hcs⟩ := hr.2 hn
  obtain ⟨cs, t, hrow⟩ := ht ⟨b, off, none⟩ l.length c (by rw [e, e2]) hn
  exact ⟨b, off, e2, hb, fun j u hu => (thaw_cell hrow _).trans (hcs j u hu)⟩
theorem NewB.from {lo : Nat} {v : Value} {l : List UInt8} {W : World} (h : NewB lo v l W) : From lo v := h.2.1
def DoneX (base : Nat) (e : TypeId) (size lo : Nat) (v : Value) (n : Nat) (xs : List Value) (f : Value → List Value) (l : List UInt8) (v' : Value) (W : World) : Prop :=
  ∃ A c, Done base e size lo v (n + 1) (xs ++ f (.slice A l.length c)) v' W ∧ NewB lo (.slice A l.length c) l W ∧ Apart v' (.slice A l.length c)
theorem DoneX.ext {base : Nat} {e : TypeId} {size lo : Nat} {v : Value} {n : Nat} {xs : List Value} {f : Value → List Value} {l : List UInt8} {v' : Value} {W W' : World} (h : DoneX base e size lo v n xs f l v' W) (hx : Ext W W') : DoneX base e size lo v n xs f l v' W' := by
  obtain ⟨A, c, h1, h2, h3⟩ := h
  exact ⟨A, c, ⟨own_ext h1.1 hx, h1.2⟩, h2.ext hx, h3⟩
def appX (base : Nat) (e : TypeId) (size lo : Nat) (v : Value) (n : Nat) (xs : List Value) (f : Value → List Value) (l : List UInt8) : Rel where
  rel W W' := W.grownBy W' v.ownBlock ∧ (W.ownsRow base e size v n xs → W'.ownsRow base e size v n xs) ∧ ∀ v', DoneX base e size lo v n xs f l v' W → DoneX base e size lo v n xs f l v' W'
  refl' W := ⟨World.grownBy.refl _ _, id, fun _ => id⟩
  trans' h k := ⟨h.1.trans k.1, fun x => k.2.1 (h.2.1 x), fun v' x => k.2.2 v' (h.2.2 v' x)⟩
  drew' W := ⟨⟨rfl, rfl, rfl, Nat.le_refl _, fun _ _ _ => rfl⟩, fun h => h.drew, fun v' h => h.ext (Ext.drew W)⟩

section
variable {base : Nat} {e : TypeId} {size lo : Nat} {v : Value} {n : Nat} {xs : List Value} {f : Value → List Value} {l : List UInt8}
theorem appX_ext {W W' : World} (h : Ext W W') : (appX base e size lo v n xs f l).r W W' :=
  ⟨grown_of_ext h _, fun x => own_ext x h, fun _ x => x.ext h⟩
theorem appX_row {W W' : World} (h : (appX base e size lo v n xs f l).r W W') {b : Nat} {o : Obj} (hp : v.ownBlock ≠ some b) (hc : W.heap[b]? = some o) : W'.heap[b]? = some o :=
  (h.1.block b (Array.getElem?_eq_some_iff.1 hc).1 (fun x => hp x.symm)).trans hc
theorem run_append_X {P : Program} (W : World) (t ty : TypeId) (i : TypeInfo) (z : Value) (bytes : Nat) (ht : P.underlying t = some (.slice e)) (hi : P.info? e = some i) (hz : i.zero = some z)
    (hsize : i.size = size) (hby : i.bytes = bytes) (hzs : z.cells.size = size) (hsz : 0 < size) (hown : W.ownsRow base e size v n xs)
    (a : Addr) (A : Option Addr) (c : Nat) (hl : (f (.slice A l.length c)).length = size) (hnews : ∀ j u, (f (.slice A l.length c))[j]? = some u → W.cell? (a.add j) = some u) (h1 : ∀ u ∈ f (.slice A l.length c), u.oneCell' = true)
    (hnb : NewB lo (.slice A l.length c) l W) (hvl : ∀ g, v.ownBlock = some g → g < lo)
    (hn : n + 1 < 1073741824) (hbytes : bytes ≤ 65536) (hbase : base ≤ W.heap.size) (hlo : lo ≤ W.heap.size) :
    ∃ v' w', (Builtin.append_ #[t, t] ty #[v, .slice (some a) 1 1]).run P W = .ok v' w' ∧ DoneX base e size lo v n xs f l v' w' ∧ (appX base e size lo v n xs f l).r W w' := by
  have hbs := hnb.1
  have hf := hnb.2.1
  have hb : (n + 1) * bytes ≤ 140737488355328 := Nat.le_trans (Nat.mul_le_mul_left _ hbytes) (by omega)
  have hm : n + 1 ≤ maxLen := by unfold maxLen; omega
  have hl' : (f (.slice A l.length c)).length = 1 * size := by rw [hl, Nat.one_mul]
  obtain ⟨v', w', hr, h2, h3, _, h5⟩ := run_append_own_at (P := P) W base t ty e i z size bytes ht hi hz hsize hby hzs hsz v n xs hown a 1 1 _ hl' hnews h1 hm hb hbase
  have hap : Apart v (.slice A l.length c) := Apart.of_from hf hvl
  have hap' : Apart v' (.slice A l.length c) := by
    intro a n c e hn
    rcases h5 with h4 | h4
    · rw [h4]; exact hap a n c e hn
    · rw [h4]
      intro hx
      simp only [Option.some.injEq] at hx
      obtain ⟨A', c', e', _, _, hr⟩ := hbs
      rw [e] at e'
      simp only [Value.slice.injEq] at e'
      obtain ⟨e1, e2, _⟩ := e'
      obtain ⟨b, off, e3, hbb, _⟩ := hr.2 (by omega)
      rw [← e1] at e3
      simp only [Option.some.injEq] at e3
      rw [e3] at hx
      simp at hx
      omega
  have hD : DoneX base e size lo v n xs f l v' w' := ⟨A, c, ⟨h2, h5.imp id fun e => ⟨_, e, hlo⟩⟩, hnb.grown h3 hap, hap'⟩
  rcases hown.2 with ⟨rfl, rfl⟩ | ⟨g, cap, cur, rfl, hbg, hg, hnc, hcm, hcs, htk⟩
  · exact ⟨v', w', hr, hD, appX_ext ⟨h3.os, h3.tape, h3.output, h3.size, fun k hk => h3.block k hk (by simp [Value.ownBlock])⟩⟩
  · by_cases hroom : n + 1 ≤ cap
    · obtain ⟨w2, hr2, g2, g3⟩ := run_append_fits (P := P) W base t ty e i size ht hi hsize g n cap xs hown a 1 1 _ hl' hnews h1 hroom
      refine ⟨_, w2, hr2, ⟨A, c, ⟨g2, .inl rfl⟩, hnb.grown g3 hap, hap⟩, g3, fun _ => own_shrink g2 hown.1, fun u hu => ?_⟩
      obtain ⟨A0, c0, hu, k2, k4⟩ := hu
      have k2' := k2.grown g3 (Apart.of_from k2.2.1 hvl)
      rcases hu.1.2 with h0 | ⟨g', cap', cur', rfl, hbg', hg', hnc', hcm', hcs', htk'⟩
      · exact ⟨A0, c0, ⟨⟨hu.1.1, .inl h0⟩, hu.2⟩, k2', k4⟩
      · by_cases hgg : g' = g
        · subst hgg
          rw [hg] at hg'
          simp only [Option.some.injEq, Obj.cells.injEq] at hg'
          obtain ⟨rfl, _⟩ := hg'
          obtain rfl : cap' = cap := by
            have : cap' * size = cap * size := by rw [← hcs', ← hcs]
            exact Nat.eq_of_mul_eq_mul_right hsz this
          exact ⟨A, c, ⟨g2, .inl rfl⟩, hnb.grown g3 hap, hap⟩
        · exact ⟨A0, c0, ⟨⟨hu.1.1, .inr ⟨g', cap', cur', rfl, hbg', (g3.block g' (Array.getElem?_eq_some_iff.1 hg').1 (by simpa using hgg)).trans hg', hnc', hcm', hcs', htk'⟩⟩, hu.2⟩, k2', k4⟩
    · have holds : ∀ j u, xs[j]? = some u → W.cell? ((⟨g, 0, none⟩ : Addr).add j) = some u := hown.cells (g := g) rfl
      subst hsize
      subst hby
      have hr' := run_append_grow (P := P) W t ty e i z ht hi hz ⟨g, 0, none⟩ n cap xs hown.1 holds a 1 1 _ hl' hnews (by omega) (by unfold maxLen at hm; omega) (growslice_fits (by omega) hb)
      rw [hr] at hr'
      cases hr'
      exact ⟨_, _, hr, hD, appX_ext ((Ext.drew W).trans (Ext.alloc _ _))⟩
def outX (base : Nat) (e : TypeId) (size lo : Nat) (v : Value) (n : Nat) (xs : List Value) (f : Value → List Value) (l : List UInt8) : Outs := ⟨Option Addr × Nat, fun p => .slice p.1 (n + 1) p.2, fun p W => DoneX base e size lo v n xs f l (.slice p.1 (n + 1) p.2) W⟩
theorem outX_f (A : Option Addr) (c : Nat) : (outX base e size lo v n xs f l).f (A, c) = .slice A (n + 1) c := rfl
theorem outX_stable : ∀ p, StableG (appX base e size lo v n xs f l) ((outX base e size lo v n xs f l).φ p) := fun p _ _ he h => he.2.2 _ h
def outLitX (lo : Nat) (ty : TypeId) (f : Value → List Value) (l : List UInt8) : Outs := ⟨Nat, fun b => .slice (some ⟨b, 0, none⟩) 1 1, fun b W => lo ≤ b ∧ ∃ A c, W.heap[b]? = some (.cells (f (.slice A l.length c)).toArray ty (0, 0)) ∧ NewB lo (.slice A l.length c) l W⟩
theorem outLitX_f (lo : Nat) (ty : TypeId) (b : Nat) : (outLitX lo ty f l).f b = .slice (some ⟨b, 0, none⟩) 1 1 := rfl
theorem outLitX_stable {lo' : Nat} {ty : TypeId} (hlo : ∀ g, v.ownBlock = some g → g < lo') : ∀ p, StableG (appX base e size lo v n xs f l) ((outLitX lo' ty f l).φ p) := fun p _ _ he ⟨h1, A, c, h2, h3⟩ =>
  ⟨h1, A, c, appX_row he (fun x => by have := hlo p x; omega) h2, h3.grown he.1 (Apart.of_from h3.2.1 hlo)⟩
def outNB (lo n : Nat) (l : List UInt8) : Outs := ⟨Option Addr × Nat, fun p => .slice p.1 n p.2, fun p W => NewB lo (.slice p.1 n p.2) l W⟩
theorem outNB_f (lo n : Nat) (l : List UInt8) (A : Option Addr) (c : Nat) : (outNB lo n l).f (A, c) = .slice A n c := rfl
theorem outNB_stableE (lo n : Nat) (l : List UInt8) : ∀ p, StableG extRel ((outNB lo n l).φ p) := fun p W W' he h => by
  have he : Ext W W' := he
  exact NewB.ext h he
theorem outNB_stableX {lo' n' : Nat} {l' : List UInt8} (hlo : ∀ g, v.ownBlock = some g → g < lo') : ∀ p, StableG (appX base e size lo v n xs f l) ((outNB lo' n' l').φ p) := fun p _ _ he h =>
  NewB.grown h he.1 (Apart.of_from h.2.1 hlo)
end
def RowX {α : Type} (base lo : Nat) (e : TypeId) (size : Nat) (g : α → Value → List Value) (by_ : α → List UInt8) (w : World) (v : Value) (ps : List (α × Value)) : Prop :=
  w.ownsRow base e size v ps.length (ps.flatMap fun p => g p.1 p.2) ∧ ∀ p ∈ ps, ((∃ A c, p.2 = .slice A (by_ p.1).length c) ∧ From lo p.2) ∧ Bys w w.heap.size p.2 (by_ p.1) ∧ Apart v p.2
section
variable {α : Type} {base lo : Nat} {e : TypeId} {size : Nat} {g : α → Value → List Value} {by_ : α → List UInt8}
theorem RowX.nil (w : World) : RowX base lo e size g by_ w (.slice none 0 0) [] := ⟨World.ownsRow_nil _ _ _ _, fun _ h => by cases h⟩
theorem RowX.ext {w w' : World} {v : Value} {ps : List (α × Value)} (h : RowX base lo e size g by_ w v ps) (hx : Ext w w') : RowX base lo e size g by_ w' v ps :=
  ⟨own_ext h.1 hx, fun p hp => ⟨(h.2 p hp).1, ((h.2 p hp).2.1.below hx).more hx.size, (h.2 p hp).2.2⟩⟩
theorem RowX.setCell {w : World} {v : Value} {ps : List (α × Value)} (h : RowX base lo e size g by_ w v ps) {p : Addr} (hp : p.block < base) (hl : p.block < lo) (u : Value) : RowX base lo e size g by_ (w.setCell p u) v ps :=
  ⟨own_setCell h.1 hp u, fun q hq => ⟨(h.2 q hq).1, by simpa using (h.2 q hq).2.1.setCell (h.2 q hq).1.2 hl u, (h.2 q hq).2.2⟩⟩
theorem RowX.push {lo2 : Nat} {w W : World} {v v' : Value} {ps : List (α × Value)} (h : RowX base lo e size g by_ w v ps) (x : α) (hll : lo ≤ lo2) (hl : lo2 = w.heap.size)
    (hD : DoneX base e size lo2 v ps.length (ps.flatMap fun p => g p.1 p.2) (g x) (by_ x) v' W) (hg : w.grownBy W v.ownBlock) : ∃ u, RowX base lo e size g by_ W v' (ps ++ [(x, u)]) := by
  subst hl
  obtain ⟨A, c, hD, ⟨hB, hF, -⟩, hA⟩ := hD
  refine ⟨.slice A (by_ x).length c, by rw [List.length_append, List.flatMap_append]; simpa using hD.1, ?_⟩
  intro p hp
  rcases List.mem_append.1 hp with hp | hp
  · obtain ⟨h1, h2, h3⟩ := h.2 p hp
    refine ⟨h1, h2.grown hg h3, fun a n c e hn => ?_⟩
    rcases hD.2 with h4 | ⟨k, h4, h5⟩
    · rw [h4]; exact h3 a n c e hn
    · rw [h4]
      intro hx
      simp only [Option.some.injEq] at hx
      obtain ⟨A', c', e', _, _, hr⟩ := h2
      rw [e] at e'
      simp only [Value.slice.injEq] at e'
      obtain ⟨e1, e2, _⟩ := e'
      obtain ⟨b, off, e3, hbb, _⟩ := hr.2 (by omega)
      rw [← e1] at e3
      simp only [Option.some.injEq] at e3
      rw [e3] at hx
      simp at hx
      omega
  · obtain rfl : p = (x, .slice A (by_ x).length c) := by simpa using hp
    exact ⟨⟨⟨_, _, rfl⟩, hF.mono hll⟩, hB, hA⟩
end
end Go.Proofs.Ytlgbjpihmkeopaa
/- Twins of disks: plain words. -/
namespace Go.Proofs.Ytlgbjpihmkeopaa
set_option linter.unusedSimpArgs false
set_option linter.unusedVariables false
open Go.RowKit

theorem Try.info_bytes : (Try.prog.info? 26).map (fun i => (i.zero, i.size, i.bytes)) = some (some (.slice none 0 0), 1, 24) := by kernel_rfl
theorem Try.info_write : (Try.prog.info? 137).map (fun i => (i.zero, i.size, i.bytes)) = some (some (.agg #[.int .i64 0, .slice none 0 0]), 2, 32) := by kernel_rfl
abbrev gB (_ : List UInt8) (u : Value) : List Value := [u]
abbrev gW (p : Int × List UInt8) (u : Value) : List Value := [.int .i64 p.1, u]
theorem RowX.bls {base lo : Nat} {e : TypeId} {w : World} {v : Value} {ps : List (List UInt8 × Value)} (h : RowX base lo e 1 gB id w v ps) : Bls w w.heap.size v (ps.map (·.1)) := by
  obtain ⟨A, c, rfl, h1, h2⟩ := own_slice h.1
  have hf : (ps.flatMap fun p => gB p.1 p.2) = ps.map (·.2) := by
    have : ∀ l : List (List UInt8 × Value), (l.flatMap fun p => gB p.1 p.2) = l.map (·.2) := by
      intro l
      induction l with
      | nil => rfl
      | cons p r ih => simp only [List.flatMap_cons, List.map_cons, ih]; rfl
    exact this ps
  have hr := Rd.of_own h.1
  rw [hf] at hr
  refine ⟨ps.map (·.2), A, c, by rw [List.length_map], by rw [List.length_map]; exact h1, h2, by rw [List.length_map]; exact hr, fun i u l hu hl => ?_⟩
  rw [List.getElem?_map] at hu hl
  cases hp : ps[i]? with
  | none => rw [hp] at hu; cases hu
  | some p =>
    rw [hp] at hu hl
    cases hu
    cases hl
    exact (h.2 p (List.mem_of_getElem? hp)).2.1
theorem Rd.keepN {w W : World} {B size lo n c : Nat} {A : Option Addr} {xs : List Value} (h : Rd w B size A n xs) (hf : From lo (.slice A n c)) (hk : ∀ q : Addr, lo ≤ q.block → q.block < B → W.cell? q = w.cell? q) : Rd W B size A n xs :=
  ⟨h.1, fun hn => by
    obtain ⟨b, off, e, hb, hc⟩ := h.2 hn
    subst e
    exact ⟨b, off, rfl, hb, fun j u hu => (hk ⟨b, off + j, none⟩ (hf ⟨b, off, none⟩ n c rfl) hb).trans (hc j u hu)⟩⟩
theorem Bys.keepN {w W : World} {B lo : Nat} {v : Value} {l : List UInt8} (h : Bys w B v l) (hf : From lo v) (hk : ∀ q : Addr, lo ≤ q.block → q.block < B → W.cell? q = w.cell? q) : Bys W B v l := by
  obtain ⟨A, c, e, hc, hm, hr⟩ := h
  subst e
  exact ⟨A, c, rfl, hc, hm, hr.keepN hf hk⟩
def outW (lo : Nat) (n : Int) (l : List UInt8) : Outs := ⟨Option Addr × Nat, fun p => .agg #[.int .i64 n, .slice p.1 l.length p.2], fun p W => NewB lo (.slice p.1 l.length p.2) l W⟩
theorem outW_f (lo : Nat) (n : Int) (l : List UInt8) (A : Option Addr) (c : Nat) : (outW lo n l).f (A, c) = .agg #[.int .i64 n, .slice A l.length c] := rfl
theorem outW_stableX {base : Nat} {e : TypeId} {size lo : Nat} {v : Value} {n : Nat} {xs : List Value} {f : Value → List Value} {l : List UInt8} {lo' : Nat} {m : Int} {l' : List UInt8} (hlo : ∀ g, v.ownBlock = some g → g < lo') : ∀ p, StableG (appX base e size lo v n xs f l) ((outW lo' m l').φ p) := fun p _ _ he h =>
  NewB.grown h he.1 (Apart.of_from h.2.1 hlo)
theorem RowX.other {α : Type} {base lo : Nat} {e : TypeId} {size : Nat} {g : α → Value → List Value} {by_ : α → List UInt8} {w W : World} {v : Value} {ps : List (α × Value)} {row : Option Nat} (h : RowX base lo e size g by_ w v ps) (hg : w.grownBy W row) (h1 : ∀ k, v.ownBlock = some k → row ≠ some k) (h2 : ∀ p ∈ ps, ∀ a n c, p.2 = .slice (some a) n c → 0 < n → row ≠ some a.block) : RowX base lo e size g by_ W v ps := by
  refine ⟨⟨h.1.1, ?_⟩, fun p hp => ⟨(h.2 p hp).1, (h.2 p hp).2.1.grown hg (h2 p hp), (h.2 p hp).2.2⟩⟩
  rcases h.1.2 with h0 | ⟨g', cap', cur', rfl, hbg', hg', hnc', hcm', hcs', htk'⟩
  · exact .inl h0
  · exact .inr ⟨g', cap', cur', rfl, hbg', (hg.block g' (Array.getElem?_eq_some_iff.1 hg').1 (fun x => h1 g' rfl x.symm)).trans hg', hnc', hcm', hcs', htk'⟩
theorem RowX.low {α : Type} {base lo : Nat} {e : TypeId} {size : Nat} {g : α → Value → List Value} {by_ : α → List UInt8} {w : World} {v : Value} {ps : List (α × Value)} (h : RowX base lo e size g by_ w v ps) : ∀ p ∈ ps, ∀ a n c, p.2 = .slice (some a) n c → 0 < n → a.block < w.heap.size := by
  intro p hp a n c e hn
  obtain ⟨A', c', e', _, _, hr⟩ := (h.2 p hp).2.1
  rw [e] at e'
  simp only [Value.slice.injEq] at e'
  obtain ⟨e1, e2, _⟩ := e'
  obtain ⟨b, off, e3, hbb, _⟩ := hr.2 (by omega)
  rw [← e1] at e3
  simp only [Option.some.injEq] at e3
  rw [e3]
  exact hbb
theorem hardAt_litX {P : Program} {base : Nat} {e : TypeId} {size lo : Nat} {v : Value} {n : Nat} {xs : List Value} {f : Value → List Value} {l : List UInt8} {o : Oper} {a : Act} {W : World} {lo' : Nat} {ty : TypeId} {A : Option Addr} {c : Nat}
    (hr : (execOp a.eval o).run P W = .ok (.value (.slice (some ⟨W.heap.size, 0, none⟩) 1 1)) (W.alloc (.cells (f (.slice A l.length c)).toArray ty))) (hlo : lo' ≤ W.heap.size) (hb : NewB lo' (.slice A l.length c) l W) :
    hardAtG (appX base e size lo v n xs f l) P o a W (outLitX lo' ty f l) := by
  unfold hardAtG
  rw [hr]
  exact ⟨W.heap.size, rfl, ⟨hlo, A, c, World.alloc_heap_at _ _ _ rfl, hb.ext (Ext.alloc _ _)⟩, appX_ext (Ext.alloc _ _)⟩
end Go.Proofs.Ytlgbjpihmkeopaa
/- Stores without slices too long to be copied; a store in new memory. -/
namespace Go.Proofs.Ytlgbjpihmkeopaa
set_option linter.unusedSimpArgs false
set_option linter.unusedVariables false
open Go.RowKit

structure Short (S : Sto) : Prop where
  bs : S.bs.length < 1000000
  ws : S.ws.length < 1000000
  be : ∀ l ∈ S.bs, l.length < 1000000
  we : ∀ p ∈ S.ws, p.2.length < 1000000
  now : S.now.length < 1000000
  last : S.last.length < 1000000
def TwinS (lo : Nat) (S : Sto) (u : Value) (W : World) : Prop := ∃ A1 c1 A2 c2 A3 c3 A4 c4, u = storeV A1 S.bs.length c1 A2 S.ws.length c2 A3 S.now.length c3 A4 S.last.length c4 ∧ ∀ W2 : World, (∀ q : Addr, lo ≤ q.block → q.block < W.heap.size → W2.cell? q = W.cell? q) → StoAt W2 W.heap.size (.slice A1 S.bs.length c1) (.slice A2 S.ws.length c2) (.slice A3 S.now.length c3) (.slice A4 S.last.length c4) S

end Go.Proofs.Ytlgbjpihmkeopaa
/- A disk's twin that the program makes: plain words. -/
namespace Go.Proofs.Ytlgbjpihmkeopaa
set_option linter.unusedSimpArgs false
set_option linter.unusedVariables false
open Go.RowKit Go.Deep

def InG (w : World) (g F : Nat) (v : Value) (l : List UInt8) : Prop := ∃ o, v = .slice (some ⟨g, o, none⟩) l.length l.length ∧ o + l.length ≤ F ∧ ∀ j u, (l.map bv)[j]? = some u → w.cell? ⟨g, o + j, none⟩ = some u
section
variable {w w' : World} {g F : Nat} {v : Value} {l : List UInt8}
theorem InG.keep (h : InG w g F v l) (hk : w'.heap[g]? = w.heap[g]?) : InG w' g F v l := by
  obtain ⟨o, e, h1, h2⟩ := h
  exact ⟨o, e, h1, fun j u hu => (World.cell?_of_block hk).trans (h2 j u hu)⟩
theorem InG.step {cur : Array Value} {t : TypeId} {l' : List UInt8} {o : Nat} (h : InG w g F v l) (hr : w.heap[g]? = some (.cells cur t (0, 0))) (hr' : w'.heap[g]? = some (.cells (laidAt cur o l') t (0, 0))) (hfit : o + l'.length ≤ cur.size) (ho : o = F ∨ l'.length = 0) : InG w' g (F + l'.length) v l := by
  obtain ⟨o1, e, h1, h2⟩ := h
  refine ⟨o1, e, by omega, fun j u hu => ?_⟩
  have hj : j < l.length := by
    have := (List.getElem?_eq_some_iff.1 hu).1
    simpa using this
  have := h2 j u hu
  rw [cells_row hr] at this
  rw [cells_row hr', laidAt_old hfit (by rcases ho with ho | ho <;> omega)]
  exact this
theorem InG.new {cur : Array Value} {t : TypeId} {o : Nat} (hr : w'.heap[g]? = some (.cells (laidAt cur o l) t (0, 0))) (hfit : o + l.length ≤ cur.size) (ho : o ≤ F) : InG w' g (F + l.length) (.slice (some ⟨g, o, none⟩) l.length l.length) l :=
  ⟨o, rfl, by omega, fun j u hu => by rw [cells_row hr]; exact laidAt_new hfit hu⟩
theorem InG.bys {B : Nat} (h : InG w g F v l) (hg : g < B) (hl : l.length ≤ maxLen) : Bys w B v l := by
  obtain ⟨o, e, h1, h2⟩ := h
  exact ⟨_, _, e, Nat.le_refl _, hl, by simp, fun _ => ⟨g, o, rfl, hg, h2⟩⟩
theorem InG.cells {W2 : World} (h : InG w g F v l) (hk : ∀ j, W2.cell? ⟨g, j, none⟩ = w.cell? ⟨g, j, none⟩) : InG W2 g F v l := by
  obtain ⟨o, e, h1, h2⟩ := h
  exact ⟨o, e, h1, fun j u hu => (hk _).trans (h2 j u hu)⟩
end
def totL (ls : List (List UInt8)) : Nat := (ls.map List.length).sum
theorem totL_take {ls : List (List UInt8)} {k : Nat} (h : k < ls.length) : totL (ls.take (k + 1)) = totL (ls.take k) + ls[k].length := by
  unfold totL
  rw [List.take_succ_eq_append_getElem h, List.map_append, List.sum_append]
  simp
theorem totL_split (ls : List (List UInt8)) (k : Nat) : totL (ls.take k) + totL (ls.drop k) = totL ls := by
  unfold totL
  rw [← List.sum_append, ← List.map_append, List.take_append_drop]
theorem totL_le {ls : List (List UInt8)} (h : ∀ l ∈ ls, l.length < 1000000) : totL ls ≤ ls.length * 1000000 := by
  induction ls with
  | nil => simp [totL]
  | cons l r ih =>
    have h1 := ih fun x hx => h x (List.mem_cons_of_mem _ hx)
    have h2 := h l List.mem_cons_self
    simp only [totL, List.map_cons, List.sum_cons, List.length_cons] at h1 ⊢
    omega
theorem totL_take_le (ls : List (List UInt8)) (k : Nat) : totL (ls.take k) ≤ totL ls := by have := totL_split ls k; omega
def chgRel (hb g : Nat) : Rel where
  rel W W' := W'.os = W.os ∧ W'.tape = W.tape ∧ W'.output = W.output ∧ W.heap.size ≤ W'.heap.size ∧ ∀ b, b < W.heap.size → b ≠ hb → b ≠ g → W'.heap[b]? = W.heap[b]?
  refl' w := ⟨rfl, rfl, rfl, Nat.le_refl _, fun _ _ _ _ => rfl⟩
  trans' h k := ⟨k.1.trans h.1, k.2.1.trans h.2.1, k.2.2.1.trans h.2.2.1, Nat.le_trans h.2.2.2.1 k.2.2.2.1, fun b hb h1 h2 => (k.2.2.2.2 b (Nat.lt_of_lt_of_le hb h.2.2.2.1) h1 h2).trans (h.2.2.2.2 b hb h1 h2)⟩
  drew' w := ⟨rfl, rfl, rfl, Nat.le_refl _, fun _ _ _ _ => rfl⟩
theorem chg_ext {hb g : Nat} : ∀ a b, extRel.r a b → (chgRel hb g).r a b := fun a b h => by
  have h : Ext a b := h
  exact ⟨h.os, h.tape, h.output, h.size, fun k hk _ _ => h.block k hk⟩
theorem chg_row {hb g b : Nat} {a W : World} {o : Obj} (h : (chgRel hb g).r a W) (h1 : b ≠ hb) (h2 : b ≠ g) (hc : a.heap[b]? = some o) : W.heap[b]? = some o :=
  (h.2.2.2.2 b (Array.getElem?_eq_some_iff.1 hc).1 h1 h2).trans hc
theorem ne_of_row {w : World} {a b : Nat} {c d : Array Value} {t u : TypeId} (h : w.heap[a]? = some (.cells c t (0, 0))) (k : w.heap[b]? = some (.cells d u (0, 0))) (hn : t ≠ u) : a ≠ b := fun e => by
  subst e
  rw [h] at k
  cases k
  exact hn rfl

structure TwS (bs : List (List UInt8)) (ws : List (Int × List UInt8)) (T lo : Nat) (w5 : World) (hb g BB WW ob kb kw F : Nat) (wr : World) : Prop where
  below : Below lo w5 wr
  los : lo ≤ hb ∧ lo ≤ g ∧ lo ≤ BB ∧ lo ≤ WW ∧ lo ≤ ob
  out : wr.heap[ob]? = some (.cells #[.slice (some ⟨BB, 0, none⟩) bs.length bs.length, .slice (some ⟨WW, 0, none⟩) ws.length (ws.length + 1)] 25 (0, 0))
  heap : ∃ o n cur, HeapB hb g o n cur wr ∧ o ≤ F ∧ (0 < n → o = F) ∧ F + n = T ∧ cur.size = T
  bb : ∃ cs, wr.heap[BB]? = some (.cells cs 26 (0, 0)) ∧ cs.size = bs.length ∧ ∀ i l, bs[i]? = some l → i < kb → ∃ v, cs[i]? = some v ∧ InG wr g F v l
  ww : ∃ cs, wr.heap[WW]? = some (.cells cs 137 (0, 0)) ∧ cs.size = (ws.length + 1) * 2 ∧ ∀ i p, ws[i]? = some p → i < kw → ∃ v, cs[i * 2]? = some (.int .i64 p.1) ∧ cs[i * 2 + 1]? = some v ∧ InG wr g F v p.2
section
variable {bs : List (List UInt8)} {ws : List (Int × List UInt8)} {T lo : Nat} {w5 : World} {hb g BB WW ob kb kw F : Nat} {wr W : World}
theorem TwS.ext (h : TwS bs ws T lo w5 hb g BB WW ob kb kw F wr) (hx : Ext wr W) (hl : lo ≤ wr.heap.size) : TwS bs ws T lo w5 hb g BB WW ob kb kw F W := by
  obtain ⟨o, n, cur, ⟨H1, H2, H3, H4, H5⟩, h2⟩ := h.heap
  obtain ⟨cb, hb1, hb2, hb3⟩ := h.bb
  obtain ⟨cw, hw1, hw2, hw3⟩ := h.ww
  have hg : W.heap[g]? = wr.heap[g]? := hx.block g (Array.getElem?_eq_some_iff.1 H2).1
  exact ⟨h.below.trans (Below.mono hx hl), h.los, row_ext h.out hx, ⟨o, n, cur, ⟨row_ext H1 hx, row_ext H2 hx, H3, H4, H5⟩, h2⟩,
    ⟨cb, row_ext hb1 hx, hb2, fun i l hi hk => (hb3 i l hi hk).imp fun v hv => ⟨hv.1, hv.2.keep hg⟩⟩, ⟨cw, row_ext hw1 hx, hw2, fun i p hi hk => (hw3 i p hi hk).imp fun v hv => ⟨hv.1, hv.2.1, hv.2.2.keep hg⟩⟩⟩
theorem TwS.clone (h : TwS bs ws T lo w5 hb g BB WW ob kb kw F wr) {o n o' : Nat} {cur : Array Value} {l : List UInt8} (hH : HeapB hb g o n cur wr) (hl : l.length ≤ n) (hr : (chgRel hb g).r wr W)
    (h1 : 0 < n - l.length → o' = o + l.length) (h2 : n - l.length = 0 → o' = o) (hH' : HeapB hb g o' (n - l.length) (laidAt cur o l) W) :
    TwS bs ws T lo w5 hb g BB WW ob kb kw (F + l.length) W ∧ InG W g (F + l.length) (.slice (some ⟨g, o, none⟩) l.length l.length) l := by
  obtain ⟨o2, n2, cur2, H2, k1, k2, k3, k4⟩ := h.heap
  have e1 := H2.box
  rw [hH.box] at e1
  simp only [Option.some.injEq, Obj.cells.injEq, Array.mk.injEq, List.cons.injEq, Value.slice.injEq, Addr.mk.injEq, and_true, true_and] at e1
  obtain ⟨rfl, rfl, _⟩ := e1
  have e2 := H2.row
  rw [hH.row] at e2
  simp only [Option.some.injEq, Obj.cells.injEq, and_true] at e2
  subst e2
  have hfit : o + l.length ≤ cur.size := by have := hH.fit; omega
  have ho : o = F ∨ l.length = 0 := by
    rcases Nat.eq_zero_or_pos n with h0 | h0
    · exact .inr (by omega)
    · exact .inl (k2 h0)
  have hr0 := hH.row
  have hr1 := hH'.row
  obtain ⟨cb, hb1, hb2, hb3⟩ := h.bb
  obtain ⟨cw, hw1, hw2, hw3⟩ := h.ww
  have n1 : BB ≠ hb := ne_of_row hb1 hH.box (by decide)
  have n2 : BB ≠ g := ne_of_row hb1 hr0 (by decide)
  have n3 : WW ≠ hb := ne_of_row hw1 hH.box (by decide)
  have n4 : WW ≠ g := ne_of_row hw1 hr0 (by decide)
  have n5 : ob ≠ hb := ne_of_row h.out hH.box (by decide)
  have n6 : ob ≠ g := ne_of_row h.out hr0 (by decide)
  obtain ⟨l1, l2, l3, l4, l5⟩ := h.los
  have hlt := (Array.getElem?_eq_some_iff.1 hr0).1
  refine ⟨⟨⟨hr.1.trans h.below.os, hr.2.1.trans h.below.tape, hr.2.2.1.trans h.below.output, Nat.le_trans h.below.size hr.2.2.2.1, fun b hb => (hr.2.2.2.2 b (by omega) (by omega) (by omega)).trans (h.below.block b hb)⟩, h.los, chg_row hr n5 n6 h.out, ⟨o', n - l.length, _, hH', ?_, ?_, by omega, ?_⟩,
    ⟨cb, chg_row hr n1 n2 hb1, hb2, fun i l' hi hk => (hb3 i l' hi hk).imp fun v hv => ⟨hv.1, hv.2.step hr0 hr1 hfit ho⟩⟩, ⟨cw, chg_row hr n3 n4 hw1, hw2, fun i p hi hk => (hw3 i p hi hk).imp fun v hv => ⟨hv.1, hv.2.1, hv.2.2.step hr0 hr1 hfit ho⟩⟩⟩, InG.new hr1 hfit k1⟩
  · rcases Nat.eq_zero_or_pos (n - l.length) with h0 | h0
    · rw [h2 h0]; omega
    · rw [h1 h0]; omega
  · intro h0
    rw [h1 h0, k2 (by omega)]
  · rw [laidAt_size hfit]; exact k4
theorem TwS.setB (h : TwS bs ws T lo w5 hb g BB WW ob kb kw F wr) {v : Value} {l : List UInt8} (hk : bs[kb]? = some l) (hv : InG wr g F v l) : TwS bs ws T lo w5 hb g BB WW ob (kb + 1) kw F (wr.setCell ⟨BB, kb, none⟩ v) := by
  obtain ⟨o, n, cur, ⟨H1, H2, H3, H4, H5⟩, h2⟩ := h.heap
  obtain ⟨cb, hb1, hb2, hb3⟩ := h.bb
  obtain ⟨cw, hw1, hw2, hw3⟩ := h.ww
  have n1 : hb ≠ BB := ne_of_row H1 hb1 (by decide)
  have n2 : g ≠ BB := ne_of_row H2 hb1 (by decide)
  have n3 : WW ≠ BB := ne_of_row hw1 hb1 (by decide)
  have n5 : ob ≠ BB := ne_of_row h.out hb1 (by decide)
  have hg := Below.heap_setCell wr ⟨BB, kb, none⟩ v g n2
  have hlt := (List.getElem?_eq_some_iff.1 hk).1
  refine ⟨Below.setCell h.below (p := ⟨BB, kb, none⟩) h.los.2.2.1 _, h.los, (Below.heap_setCell _ _ _ _ n5).trans h.out, ⟨o, n, cur, ⟨(Below.heap_setCell _ _ _ _ n1).trans H1, (Below.heap_setCell _ _ _ _ n2).trans H2, H3, H4, H5⟩, h2⟩,
    ⟨_, row_set hb1 kb v, by simpa using hb2, fun i l' hi hki => ?_⟩, ⟨cw, (Below.heap_setCell _ _ _ _ n3).trans hw1, hw2, fun i p hi hk => (hw3 i p hi hk).imp fun v hv => ⟨hv.1, hv.2.1, hv.2.2.keep hg⟩⟩⟩
  rw [Array.getElem?_setIfInBounds]
  by_cases e : kb = i
  · subst e
    rw [hk] at hi
    cases hi
    rw [if_pos rfl, if_pos (by omega)]
    exact ⟨v, rfl, hv.keep hg⟩
  · rw [if_neg e]
    exact (hb3 i l' hi (by omega)).imp fun u hu => ⟨hu.1, hu.2.keep hg⟩
theorem TwS.setW (h : TwS bs ws T lo w5 hb g BB WW ob kb kw F wr) {v : Value} {p : Int × List UInt8} (hk : ws[kw]? = some p) (hv : InG wr g F v p.2) : TwS bs ws T lo w5 hb g BB WW ob kb (kw + 1) F ((wr.setCell ⟨WW, kw * 2, none⟩ (.int .i64 p.1)).setCell ⟨WW, kw * 2 + 1, none⟩ v) := by
  obtain ⟨o, n, cur, ⟨H1, H2, H3, H4, H5⟩, h2⟩ := h.heap
  obtain ⟨cb, hb1, hb2, hb3⟩ := h.bb
  obtain ⟨cw, hw1, hw2, hw3⟩ := h.ww
  have n1 : hb ≠ WW := ne_of_row H1 hw1 (by decide)
  have n2 : g ≠ WW := ne_of_row H2 hw1 (by decide)
  have n3 : BB ≠ WW := ne_of_row hb1 hw1 (by decide)
  have n5 : ob ≠ WW := ne_of_row h.out hw1 (by decide)
  have st : ∀ b, b ≠ WW → ((wr.setCell ⟨WW, kw * 2, none⟩ (.int .i64 p.1)).setCell ⟨WW, kw * 2 + 1, none⟩ v).heap[b]? = wr.heap[b]? := fun b hb => (Below.heap_setCell _ _ _ _ hb).trans (Below.heap_setCell _ _ _ _ hb)
  have hlt := (List.getElem?_eq_some_iff.1 hk).1
  refine ⟨Below.setCell (Below.setCell h.below (p := ⟨WW, kw * 2, none⟩) h.los.2.2.2.1 _) (p := ⟨WW, kw * 2 + 1, none⟩) h.los.2.2.2.1 _, h.los, (st _ n5).trans h.out, ⟨o, n, cur, ⟨(st _ n1).trans H1, (st _ n2).trans H2, H3, H4, H5⟩, h2⟩,
    ⟨cb, (st _ n3).trans hb1, hb2, fun i l' hi hki => (hb3 i l' hi hki).imp fun u hu => ⟨hu.1, hu.2.keep (st _ n2)⟩⟩, ⟨_, row_set (row_set hw1 (kw * 2) _) (kw * 2 + 1) _, by simpa using hw2, fun i q hi hki => ?_⟩⟩
  by_cases e : kw = i
  · subst e
    rw [hk] at hi
    cases hi
    refine ⟨v, ?_, ?_, hv.keep (st _ n2)⟩
    · rw [Array.getElem?_setIfInBounds, if_neg (by omega), Array.getElem?_setIfInBounds, if_pos rfl, if_pos (by omega)]
    · rw [Array.getElem?_setIfInBounds, if_pos rfl, if_pos (by simp; omega)]
  · refine (hw3 i q hi (by omega)).imp fun u hu => ⟨?_, ?_, hu.2.2.keep (st _ n2)⟩
    · rw [Array.getElem?_setIfInBounds, if_neg (by omega), Array.getElem?_setIfInBounds, if_neg (by omega)]
      exact hu.1
    · rw [Array.getElem?_setIfInBounds, if_neg (by omega), Array.getElem?_setIfInBounds, if_neg (by omega)]
      exact hu.2.1
end
structure DiskT (lo : Nat) (bs : List (List UInt8)) (ws : List (Int × List UInt8)) (BB WW g : Nat) (W : World) : Prop where
  los : lo ≤ BB ∧ lo ≤ WW ∧ lo ≤ g ∧ g < W.heap.size ∧ BB ≠ WW ∧ BB ≠ g ∧ WW ≠ g
  bb : ∃ cs, W.heap[BB]? = some (.cells cs 26 (0, 0)) ∧ cs.size = bs.length ∧ ∀ (i : Nat) (l : List UInt8), bs[i]? = some l → ∃ v F, cs[i]? = some v ∧ InG W g F v l
  ww : ∃ cs, W.heap[WW]? = some (.cells cs 137 (0, 0)) ∧ cs.size = (ws.length + 1) * 2 ∧ ∀ (i : Nat) (p : Int × List UInt8), ws[i]? = some p → ∃ v F, cs[i * 2]? = some (.int .i64 p.1) ∧ cs[i * 2 + 1]? = some v ∧ InG W g F v p.2
  gg : ∃ cs t, W.heap[g]? = some (.cells cs t (0, 0))
theorem TwS.done {bs : List (List UInt8)} {ws : List (Int × List UInt8)} {T lo : Nat} {w5 : World} {hb g BB WW ob F : Nat} {wr : World} (h : TwS bs ws T lo w5 hb g BB WW ob bs.length ws.length F wr) : DiskT lo bs ws BB WW g wr := by
  obtain ⟨o, n, cur, ⟨H1, H2, H3, H4, H5⟩, h2⟩ := h.heap
  obtain ⟨cb, hb1, hb2, hb3⟩ := h.bb
  obtain ⟨cw, hw1, hw2, hw3⟩ := h.ww
  refine ⟨⟨h.los.2.2.1, h.los.2.2.2.1, h.los.2.1, (Array.getElem?_eq_some_iff.1 H2).1, ne_of_row hb1 hw1 (by decide), ne_of_row hb1 H2 (by decide), ne_of_row hw1 H2 (by decide)⟩, ⟨cb, hb1, hb2, fun i l hi => ?_⟩, ⟨cw, hw1, hw2, fun i p hi => ?_⟩, ⟨_, _, H2⟩⟩
  · obtain ⟨v, h1, h2⟩ := hb3 i l hi (List.getElem?_eq_some_iff.1 hi).1
    exact ⟨v, F, h1, h2⟩
  · obtain ⟨v, h1, h2⟩ := hw3 i p hi (List.getElem?_eq_some_iff.1 hi).1
    exact ⟨v, F, h1, h2⟩
theorem DiskT.keep {lo lo' : Nat} {bs : List (List UInt8)} {ws : List (Int × List UInt8)} {BB WW g : Nat} {W W2 : World} (h : DiskT lo bs ws BB WW g W) (hl : lo' ≤ lo) (hs : W.heap.size ≤ W2.heap.size) (hk : ∀ b, lo ≤ b → b < W.heap.size → W2.heap[b]? = W.heap[b]?) : DiskT lo' bs ws BB WW g W2 := by
  obtain ⟨cb, hb1, hb2, hb3⟩ := h.bb
  obtain ⟨cw, hw1, hw2, hw3⟩ := h.ww
  obtain ⟨l1, l2, l3, l4, l5⟩ := h.los
  have hg := hk g l3 l4
  exact ⟨⟨by omega, by omega, by omega, by omega, l5⟩, ⟨cb, (hk BB l1 (Array.getElem?_eq_some_iff.1 hb1).1).trans hb1, hb2, fun i l hi => by
    obtain ⟨v, F, h1, h2⟩ := hb3 i l hi
    exact ⟨v, F, h1, h2.keep hg⟩⟩, ⟨cw, (hk WW l2 (Array.getElem?_eq_some_iff.1 hw1).1).trans hw1, hw2, fun i p hi => by
    obtain ⟨v, F, h1, h2, h3⟩ := hw3 i p hi
    exact ⟨v, F, h1, h2, h3.keep hg⟩⟩, h.gg.imp fun cs h => h.imp fun t h => hg.trans h⟩
theorem DiskT.readsB {lo : Nat} {bs : List (List UInt8)} {ws : List (Int × List UInt8)} {BB WW g : Nat} {W : World} (h : DiskT lo bs ws BB WW g W) (h1 : bs.length < 1000000) (h2 : ws.length < 1000000) (h3 : ∀ l ∈ bs, l.length < 1000000) (h4 : ∀ p ∈ ws, p.2.length < 1000000)
    (W2 : World) (hB : ∀ j, W2.cell? ⟨BB, j, none⟩ = W.cell? ⟨BB, j, none⟩) (hWW : ∀ j, W2.cell? ⟨WW, j, none⟩ = W.cell? ⟨WW, j, none⟩) (hg : ∀ j, W2.cell? ⟨g, j, none⟩ = W.cell? ⟨g, j, none⟩) : Bls W2 W.heap.size (.slice (some ⟨BB, 0, none⟩) bs.length bs.length) bs ∧ Wrs W2 W.heap.size (.slice (some ⟨WW, 0, none⟩) ws.length (ws.length + 1)) ws := by
  obtain ⟨cb, hb1, hb2, hb3⟩ := h.bb
  obtain ⟨cw, hw1, hw2, hw3⟩ := h.ww
  obtain ⟨l1, l2, l3, l4, l5⟩ := h.los
  have z1 := (Array.getElem?_eq_some_iff.1 hb1).1
  have z2 := (Array.getElem?_eq_some_iff.1 hw1).1
  have hm : ∀ n, n < 1000001 → n ≤ maxLen := fun n hn => by unfold maxLen; omega
  refine ⟨⟨cb.toList, _, _, rfl, Nat.le_refl _, hm _ (by omega), ⟨by simp [hb2], fun _ => ⟨BB, 0, rfl, z1, fun j u hu => ?_⟩⟩, fun i u l hu hl => ?_⟩, ?_⟩
  · rw [Nat.zero_add, hB j, cells_row hb1]
    simpa using hu
  · obtain ⟨v, F, e1, e2⟩ := hb3 i l hl
    have : cb.toList[i]? = cb[i]? := by simp
    rw [this, e1] at hu
    cases hu
    exact (e2.cells hg).bys l4 (hm _ (by have := h3 l (List.mem_of_getElem? hl); omega))
  · have hq : ∀ i, i < ws.length → ∃ q : (Int × List UInt8) × Value, ws[i]? = some q.1 ∧ (∃ A c, q.2 = .slice A q.1.2.length c) ∧ Bys W2 W.heap.size q.2 q.1.2 ∧ cw[i * 2]? = some (.int .i64 q.1.1) ∧ cw[i * 2 + 1]? = some q.2 := fun i hi => by
      obtain ⟨v, F, e1, e2, e3⟩ := hw3 i ws[i] (List.getElem?_eq_getElem hi)
      have hb := (e3.cells hg).bys l4 (hm _ (by have := h4 ws[i] (List.getElem_mem hi); omega))
      obtain ⟨o, ev, _⟩ := e3
      exact ⟨(ws[i], v), List.getElem?_eq_getElem hi, ⟨_, _, ev⟩, hb, e1, e2⟩
    obtain ⟨Q, hQ⟩ := choose_lt (α := (Int × List UInt8) × Value) (p := fun i q => ws[i]? = some q.1 ∧ (∃ A c, q.2 = .slice A q.1.2.length c) ∧ Bys W2 W.heap.size q.2 q.1.2 ∧ cw[i * 2]? = some (.int .i64 q.1.1) ∧ cw[i * 2 + 1]? = some q.2) hq
    refine ⟨(List.range ws.length).map Q, ?_, ⟨some ⟨WW, 0, none⟩, ws.length + 1, rfl, by omega, hm _ (by omega), ⟨by rw [cells2_len]; simp, fun _ => ⟨WW, 0, rfl, z2, fun j u hu => ?_⟩⟩⟩, fun q hq' => ?_⟩
    · apply List.ext_getElem?
      intro i
      rw [List.map_map, List.getElem?_map]
      rcases Nat.lt_or_ge i ws.length with hi | hi
      · rw [List.getElem?_range hi, (hQ i hi).1]; rfl
      · rw [List.getElem?_eq_none (by simpa using hi), List.getElem?_eq_none hi]; rfl
    · rw [Nat.zero_add, hWW j, cells_row hw1]
      have hj : j < ws.length * 2 := by
        have := (List.getElem?_eq_some_iff.1 hu).1
        rw [cells2_len] at this
        simpa using this
      obtain ⟨c0, c1⟩ := cells2_at ((List.range ws.length).map Q) (j / 2) (by simp; omega)
      obtain ⟨_, _, _, q0, q1⟩ := hQ (j / 2) (by omega)
      rcases (show j = j / 2 * 2 ∨ j = j / 2 * 2 + 1 by omega) with e | e
      · have hu' : some u = some _ := (hu.symm.trans (congrArg (fun t => (cells2 ((List.range ws.length).map Q))[t]?) e)).trans c0
        cases hu'
        rw [show cw[j]? = cw[j / 2 * 2]? from congrArg (fun t => cw[t]?) e, q0]
        simp
      · have hu' : some u = some _ := (hu.symm.trans (congrArg (fun t => (cells2 ((List.range ws.length).map Q))[t]?) e)).trans c1
        cases hu'
        rw [show cw[j]? = cw[j / 2 * 2 + 1]? from congrArg (fun t => cw[t]?) e, q1]
        simp
    · obtain ⟨i, hi, rfl⟩ := List.mem_map.1 hq'
      obtain ⟨_, q1, q2, _⟩ := hQ i (List.mem_range.1 hi)
      exact ⟨q1, q2⟩
theorem DiskT.reads {lo : Nat} {bs : List (List UInt8)} {ws : List (Int × List UInt8)} {BB WW g : Nat} {W : World} (h : DiskT lo bs ws BB WW g W) (h1 : bs.length < 1000000) (h2 : ws.length < 1000000) (h3 : ∀ l ∈ bs, l.length < 1000000) (h4 : ∀ p ∈ ws, p.2.length < 1000000)
    (W2 : World) (hk : ∀ q : Addr, lo ≤ q.block → q.block < W.heap.size → W2.cell? q = W.cell? q) : Bls W2 W.heap.size (.slice (some ⟨BB, 0, none⟩) bs.length bs.length) bs ∧ Wrs W2 W.heap.size (.slice (some ⟨WW, 0, none⟩) ws.length (ws.length + 1)) ws := by
  obtain ⟨cb, hb1, -⟩ := h.bb
  obtain ⟨cw, hw1, -⟩ := h.ww
  obtain ⟨l1, l2, l3, l4, -⟩ := h.los
  exact h.readsB h1 h2 h3 h4 W2 (fun j => hk ⟨BB, j, none⟩ l1 (Array.getElem?_eq_some_iff.1 hb1).1) (fun j => hk ⟨WW, j, none⟩ l2 (Array.getElem?_eq_some_iff.1 hw1).1) fun j => hk ⟨g, j, none⟩ l3 l4
theorem DiskT.readsT {lo : Nat} {bs : List (List UInt8)} {ws : List (Int × List UInt8)} {BB WW g : Nat} {W : World} (h : DiskT lo bs ws BB WW g W) (h1 : bs.length < 1000000) (h2 : ws.length < 1000000) (h3 : ∀ l ∈ bs, l.length < 1000000) (h4 : ∀ p ∈ ws, p.2.length < 1000000)
    (W2 : World) (hk : ∀ q : Addr, lo ≤ q.block → q.block < W.heap.size → W2.cell? q = (thaw W).cell? q) : Bls W2 W.heap.size (.slice (some ⟨BB, 0, none⟩) bs.length bs.length) bs ∧ Wrs W2 W.heap.size (.slice (some ⟨WW, 0, none⟩) ws.length (ws.length + 1)) ws := by
  obtain ⟨cb, hb1, -⟩ := h.bb
  obtain ⟨cw, hw1, -⟩ := h.ww
  obtain ⟨cg, tg, hg1⟩ := h.gg
  obtain ⟨l1, l2, l3, l4, -⟩ := h.los
  exact h.readsB h1 h2 h3 h4 W2 (fun j => (hk ⟨BB, j, none⟩ l1 (Array.getElem?_eq_some_iff.1 hb1).1).trans (thaw_cell hb1 j)) (fun j => (hk ⟨WW, j, none⟩ l2 (Array.getElem?_eq_some_iff.1 hw1).1).trans (thaw_cell hw1 j)) fun j => (hk ⟨g, j, none⟩ l3 l4).trans (thaw_cell hg1 j)
end Go.Proofs.Ytlgbjpihmkeopaa
