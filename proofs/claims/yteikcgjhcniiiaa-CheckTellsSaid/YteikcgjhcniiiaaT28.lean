/- Texts Read, Frame, ReadP, Tells31P, joined. -/
import Derived.Deep.Slices
import Derived.Test.YteikcgjhcniiiaaT01
import Derived.Test.YteikcgjhcniiiaaT19
import Derived.Test.YteikcgjhcniiiaaT27
/- What the arguments' readings say of memory. -/
namespace Go.Proofs.Yteikcgjhcniiiaa
set_option linter.unusedSimpArgs false
set_option linter.unusedVariables false
open Go.RowKit Go.ChangeShapes Go.WideShapes Go.ChangeAt

section
variable {H : Type} {enc : TypeId × Value → H} {P : Program} {W : World}

theorem numOfs_bytes (zs : List Int) (h : ∀ n ∈ zs, (Lit.int .u8 n).wf = true) : ∃ l : List UInt8, zs.map (Value.int .u8) = l.map bv := by
  induction zs with
  | nil => exact ⟨[], rfl⟩
  | cons z r ih =>
    obtain ⟨l, hl⟩ := ih (fun n hn => h n (List.mem_cons_of_mem _ hn))
    have hz := h z (List.mem_cons_self)
    have hb : 0 ≤ z ∧ z ≤ 255 := by simpa [Lit.wf, IntKind.min, IntKind.max, IntKind.signed, IntKind.bits] using hz
    refine ⟨UInt8.ofNat z.toNat :: l, ?_⟩
    simp only [List.map_cons, hl]
    congr 1
    simp only [bv]
    congr 1
    have : (UInt8.ofNat z.toNat).toNat = z.toNat % 256 := by simp
    rw [this]
    omega

/-- a slice's cells, whatever its elements' one cell is -/
theorem rd_of_cells {a : Addr} {n c : Nat} {xs : List Value} (hn : n ≤ c) (hlen : xs.length = n) (hb : ∀ x ∈ MemPlace.row a c, x.block < W.heap.size) (hc : ∀ i u, xs[i]? = some u → W.cell? (a.add i) = some u) : Rd W W.heap.size 1 (some a) n xs := by
  refine ⟨by omega, fun h0 => ?_⟩
  obtain ⟨u, hu⟩ : ∃ u, xs[0]? = some u := ⟨_, List.getElem?_eq_getElem (by omega)⟩
  have h1 := hc 0 u hu
  have hsp : a.spot = none := by
    have : (a.add 0) = a := by simp [Addr.add]
    rw [this] at h1
    unfold World.cell? at h1
    split at h1
    · cases hs : a.spot with
      | none => rfl
      | some s => rw [hs] at h1; simp at h1
    · cases h1
  obtain ⟨b, off, sp⟩ := a
  simp only at hsp
  subst hsp
  have hbl : b < W.heap.size := by
    have : W.cell? ((⟨b, off, none⟩ : Addr).add 0) = some u := h1
    have h2 := World.block_lt_of_cell? W _ this
    simpa [Addr.add] using h2
  refine ⟨b, off, rfl, hbl, fun j v hv => ?_⟩
  rw [← hc j v hv]
  unfold Addr.add
  split
  · subst_vars; rfl
  · rfl

theorem rd_bytes {t e : TypeId} {fuel : Nat} {cs : List Value} {d : DataW H} {p : List MemPlace} (ht : P.underlying t = some (.slice e)) (he : P.underlying e = some (.int .u8)) (hc : P.cellsOf e = 1)
    (h : DataW.trod enc P W 0 (fun _ => true) true fuel t cs = some (d, p)) (hlt : ∀ x ∈ p, x.block < W.heap.size) : ∃ A n c, cs = [.slice A n c] ∧ n ≤ c ∧ ∃ l : List UInt8, Bys W W.heap.size (.slice A n c) l ∧ l.length = n := by
  rcases open_ints ht he hc h with ⟨rfl, _⟩ | ⟨a, len, cap, zs, rfl, _, hl, hm, hz, hx, hcell, hwf⟩
  · exact ⟨none, 0, 0, rfl, Nat.le_refl _, [], Bys.nil W _, rfl⟩
  · simp only [if_true] at hz
    obtain ⟨l, hl'⟩ := numOfs_bytes (zs.take len) (fun n hn => hwf n (List.mem_of_mem_take hn))
    have hll : l.length = len := by
      have := congrArg List.length hl'
      simp only [List.length_map, List.length_take] at this
      omega
    refine ⟨some a, len, cap, rfl, hl, l, ⟨some a, cap, by rw [hll], by omega, hm, ?_⟩, hll⟩
    rw [hll]
    refine rd_of_cells (c := cap) hl (by simp [hll]) (fun x hx' => hlt x ?_) (fun i u hu => ?_)
    · have e2 : p = MemPlace.row a zs.length := by injection hx
      rw [e2, hz]; exact hx'
    · rw [← hl'] at hu
      rw [List.getElem?_map, List.getElem?_take] at hu
      split at hu
      · rename_i hi
        rw [hcell i (by omega)]
        rw [← hu]
        simp [List.getElem?_eq_getElem (show i < zs.length by omega)]
      · cases hu

theorem trod_fields {t : TypeId} {fs : Array Field} {fuel : Nat} {cs : List Value} {x : DataW H × List MemPlace} (ht : P.underlying t = some (.struct fs)) (h : DataW.trod enc P W 0 (fun _ => true) true fuel t cs = some x) :
    ∃ (xs : List (DataW H × List MemPlace)) (n : Nat), cs.length = P.cellsOf t ∧ xs.length = fs.size ∧ x.2 = xs.flatMap (·.2) ∧
      ∀ (i : Nat) (T : TypeId) (off m : Nat), (fs[i]?).map (fun f => (f.type, f.offset)) = some (T, off) → P.cellsOf T = m → DataW.trod enc P W 0 (fun _ => true) true n T ((cs.drop off).take m) = xs[i]? := by
  obtain ⟨xs, n, _, hx, hl, hxl, hf⟩ := DataW.trod_struct ht h
  refine ⟨xs, n, hl, hxl, by rw [hx], fun i T off m hi hm => ?_⟩
  obtain ⟨f, hfi, he⟩ := Option.map_eq_some_iff.1 hi
  have := hf i f hfi
  simp only [Prod.mk.injEq] at he
  rw [he.1, he.2, hm] at this
  exact this
end
end Go.Proofs.Yteikcgjhcniiiaa
/- From a law's walk to its row: the arguments read behind the call as they did. -/
namespace Go.Proofs.Yteikcgjhcniiiaa
set_option linter.unusedSimpArgs false
set_option linter.unusedVariables false
open Go.RowKit Go.ChangeShapes Go.WideShapes Go.ChangeAt

section
variable {H : Type} {enc : TypeId × Value → H} {P : Program}
theorem trodAll_stays (hl : laidOutB P = true) {W W' : World} {sp : Nat → Bool} : ∀ (ts : List TypeId) (vs : List Value) (ds : List (DataW H)) (p : List MemPlace), DataW.TrodAll enc P W 0 (fun _ => true) true ts vs ds p →
    (∀ t ∈ ts, P.readableRec t = true ∧ t < P.types.size) → (∀ x ∈ p, W.sameAt W' x) → (∀ x ∈ p, sp x.block = true) → DataW.TrodAll enc P W' 0 sp true ts vs ds p
  | [], vs, ds, p, h, _, _, _ => by
    obtain ⟨rfl, rfl, rfl⟩ := trodAll_nil h
    exact trodAll_mk0
  | t :: ts, vs, ds, p, h, ht, hs, hsp => by
    obtain ⟨v, vs', d, ds', p0, q0, rfl, rfl, rfl, h0, h1⟩ := trodAll_cons h
    have e := ht t (List.mem_cons_self)
    exact trodAll_cons_mk (WideElems.Trod_stays hl e.1 e.2 h0 (fun x hx => hs x (List.mem_append_left _ hx)) (fun x hx => hsp x (List.mem_append_left _ hx)))
      (trodAll_stays hl ts vs' ds' q0 h1 (fun t' h' => ht t' (List.mem_cons_of_mem _ h')) (fun x hx => hs x (List.mem_append_right _ hx)) (fun x hx => hsp x (List.mem_append_right _ hx)))

/-- A LAW's ROW: it answered true, and what lay before lies as it lay. -/
theorem law_post {f : Func} {s : ChangeSpec} {W W' : World} {args : Array Value} {ds gs : List (DataW H)} {before : List MemPlace} {b : TypeId} (hv : s.vars = []) (hl : laidOutB P = true)
    (hr : f.resultTypes = #[b]) (hb : P.underlying b = some .bool) (ht : ∀ t ∈ f.params.toList, P.readableRec t = true ∧ t < P.types.size)
    (hW : DataW.Whole enc P f.params.toList s.vars false W args.toList ds gs before) (hs : s.fn H (ds ++ gs) = { results := [.lit (.bool true)], args := ds, vars := [] }) (hB : Below W.heap.size W W') :
    s.post enc P f false true false false W args (.bool true) W' := by
  have hlt : ∀ x ∈ before, x.block < W.heap.size := fun x hx => hW.lt x hx
  have hW0 := hW
  obtain ⟨p, q, hA, hV, rfl, _, _⟩ := hW
  have hq : q = [] := by
    rw [hv] at hV
    cases gs with
    | nil => exact hV
    | cons g gs => cases hV
  subst hq
  refine ⟨ds, gs, p ++ [], [], p, [], hW0, ?_, ?_, ?_, ?_, fun h => by cases h⟩
  · rw [hs, hr]
    exact trodAll_cons_mk (shut_bool hb true) trodAll_mk0
  · rw [hs]
    exact trodAll_stays hl _ _ _ _ hA ht (fun x hx => hB.same (hlt x (by simpa using hx))) (fun x hx => by simpa using hlt x (by simpa using hx))
  · rw [hs, hv]
    exact rfl
  · exact World.keptBut_mono (fun x hx => ⟨by simpa using hx, Or.inr (Or.inl hx)⟩) (hB.frame (· ∈ p))
end
end Go.Proofs.Yteikcgjhcniiiaa
/- The readings of pools. -/
namespace Go.Proofs.Yteikcgjhcniiiaa
set_option linter.unusedSimpArgs false
set_option linter.unusedVariables false
open Go.RowKit Go.ChangeShapes Go.WideShapes Go.ChangeAt Go.Deep

theorem Try.cc_u8 : Try.prog.cellsOf 5 = 1 := by kernel_rfl
theorem Try.cc_u32 : Try.prog.cellsOf 29 = 1 := by kernel_rfl
theorem Try.cc_int : Try.prog.cellsOf 3 = 1 := by kernel_rfl
theorem Try.cc_bytes : Try.prog.cellsOf 26 = 1 := by kernel_rfl
theorem Try.cc_blocks : Try.prog.cellsOf 22 = 1 := by kernel_rfl
theorem Try.cc_writes : Try.prog.cellsOf 23 = 1 := by kernel_rfl
theorem Try.cc_ints : Try.prog.cellsOf 30 = 1 := by kernel_rfl
theorem Try.cc_write : Try.prog.cellsOf 141 = 2 := by kernel_rfl
theorem Try.cc_disk : Try.prog.cellsOf 25 = 2 := by kernel_rfl
theorem Try.cc_store : Try.prog.cellsOf 28 = 4 := by kernel_rfl
theorem Try.cc_pool : Try.prog.cellsOf 32 = 8 := by kernel_rfl

section
variable {H : Type} {enc : TypeId × Value → H} {W : World}
/-- a slice's cells -/
theorem rd_of_cellsN {size : Nat} {a : Addr} {n : Nat} {xs : List Value} (hlen : xs.length = n * size) (hz : 0 < size) (hb : ∀ x ∈ MemPlace.row a (n * size), x.block < W.heap.size) (hc : ∀ i u, xs[i]? = some u → W.cell? (a.add i) = some u) : Rd W W.heap.size size (some a) n xs := by
  refine ⟨hlen, fun h0 => ?_⟩
  have hpos : 0 < xs.length := by rw [hlen]; exact Nat.mul_pos h0 hz
  obtain ⟨u, hu⟩ : ∃ u, xs[0]? = some u := ⟨_, List.getElem?_eq_getElem hpos⟩
  have h1 := hc 0 u hu
  have hsp : a.spot = none := by
    have : (a.add 0) = a := by simp [Addr.add]
    rw [this] at h1
    unfold World.cell? at h1
    split at h1
    · cases hs : a.spot with
      | none => rfl
      | some s => rw [hs] at h1; simp at h1
    · cases h1
  obtain ⟨b, off, sp⟩ := a
  simp only at hsp
  subst hsp
  have hbl : b < W.heap.size := by
    have : W.cell? ((⟨b, off, none⟩ : Addr).add 0) = some u := h1
    have h2 := World.block_lt_of_cell? W _ this
    simpa [Addr.add] using h2
  refine ⟨b, off, rfl, hbl, fun j v hv => ?_⟩
  rw [← hc j v hv]
  unfold Addr.add
  split
  · subst_vars; rfl
  · rfl
theorem rd_blocks {fuel : Nat} {cs : List Value} {d : DataW H} {p : List MemPlace} (h : DataW.trod enc Try.prog W 0 (fun _ => true) true fuel 22 cs = some (d, p)) (hlt : ∀ x ∈ p, x.block < W.heap.size) :
    ∃ A c bs, cs = [.slice A bs.length c] ∧ Bls W W.heap.size (.slice A bs.length c) bs := by
  rcases open_slice1 Try.underlying22 Try.cc_bytes h with ⟨rfl, _⟩ | ⟨a, len, cap, m, n, V, D, Pl, rfl, _, hl, hm, hmm, hx, hel⟩
  · exact ⟨none, 0, [], rfl, [], none, 0, rfl, Nat.le_refl _, by simp [maxLen], Rd.none_, fun i u l hu => by simp at hu⟩
  · simp only [if_true] at hmm
    subst hmm
    have hp : p = MemPlace.row a m ++ (List.range m).flatMap Pl := congrArg Prod.snd hx
    have hb : ∀ i, i < len → ∃ l : List UInt8, Bys W W.heap.size (V i) l := fun i hi => by
      obtain ⟨_, h2⟩ := hel i (by omega)
      obtain ⟨A, n', c', e, _, l, hby, _⟩ := rd_bytes Try.underlying26 Try.underlying5 Try.cc_u8 h2 (fun x hx' => hlt x (by
        rw [hp]
        exact List.mem_append_right _ (List.mem_flatMap.2 ⟨i, List.mem_range.2 (by omega), hx'⟩)))
      simp only [List.cons.injEq, and_true] at e
      exact ⟨l, by rw [e]; exact hby⟩
    obtain ⟨L, hL⟩ := choose_lt (α := List UInt8) (p := fun i l => Bys W W.heap.size (V i) l) hb
    refine ⟨some a, m, (List.range len).map L, by simp, (List.range len).map V, some a, m, by simp, by simpa using hl, hm, ?_, fun i u l hu hll => ?_⟩
    · rw [List.length_map, List.length_range]
      refine rd_of_cells (c := m) hl (by simp) (fun x hx' => hlt x (by rw [hp]; exact List.mem_append_left _ hx')) (fun i u hu => ?_)
      have hi : i < len := by
        have := (List.getElem?_eq_some_iff.1 hu).1
        simpa using this
      rw [List.getElem?_map, List.getElem?_range hi] at hu
      cases hu
      exact (hel i (by omega)).1
    · have hi : i < len := by
        have := (List.getElem?_eq_some_iff.1 hu).1
        simpa using this
      rw [List.getElem?_map, List.getElem?_range hi] at hu hll
      cases hu
      cases hll
      exact hL i hi
theorem rd_write {fuel : Nat} {cs : List Value} {d : DataW H} {p : List MemPlace} (h : DataW.trod enc Try.prog W 0 (fun _ => true) true fuel 141 cs = some (d, p)) (hlt : ∀ x ∈ p, x.block < W.heap.size) :
    ∃ a A l c, cs = [.int .i64 a, .slice A l.length c] ∧ Bys W W.heap.size (.slice A l.length c) l ∧ (Lit.int .i64 a).wf = true := by
  obtain ⟨xs, n, hl, hxl, hp, hf⟩ := trod_fields Try.underlying141 h
  rw [Try.cc_write] at hl
  match cs, hl with
  | [c0, c1], _ =>
    match xs, hxl with
    | [y0, y1], _ =>
      have g0 : _ = some y0 := hf 0 3 0 1 rfl Try.cc_int
      have g1 : _ = some y1 := hf 1 26 1 1 rfl Try.cc_bytes
      simp only [List.drop, List.take] at g0 g1
      obtain ⟨a, ea, _, wa⟩ := DataW.trod_int Try.underlying3 g0
      have hp2 : p = y0.2 ++ (y1.2 ++ []) := hp
      obtain ⟨d1, p1⟩ := y1
      obtain ⟨A, m, c, es, hmc, l, hb, hlen⟩ := rd_bytes Try.underlying26 Try.underlying5 Try.cc_u8 g1 (fun x hx => hlt x (by rw [hp2]; simp [hx]))
      simp only [List.cons.injEq, and_true] at ea es
      subst ea es hlen
      exact ⟨a, A, l, c, rfl, hb, wa⟩
theorem rd_writes {fuel : Nat} {cs : List Value} {d : DataW H} {p : List MemPlace} (h : DataW.trod enc Try.prog W 0 (fun _ => true) true fuel 23 cs = some (d, p)) (hlt : ∀ x ∈ p, x.block < W.heap.size) :
    ∃ A c ws, cs = [.slice A ws.length c] ∧ Wrs W W.heap.size (.slice A ws.length c) ws := by
  rcases open_slice Try.underlying23 h with ⟨rfl, _⟩ | ⟨a, len, cap, m, n, D, Pl, rfl, _, hl, hm, hmm, hx, hel⟩
  · exact ⟨none, 0, [], rfl, [], rfl, ⟨none, 0, rfl, Nat.le_refl _, by simp [maxLen], Rd.none_⟩, fun p h => by cases h⟩
  · simp only [if_true] at hmm
    subst hmm
    rw [Try.cc_write] at hx hel
    have hp : p = MemPlace.row a (m * 2) ++ (List.range m).flatMap Pl := congrArg Prod.snd hx
    have hb : ∀ i, i < len → ∃ q : (Int × List UInt8) × Value, (∃ A c, q.2 = .slice A q.1.2.length c) ∧ Bys W W.heap.size q.2 q.1.2 ∧ W.cell? (a.add (i * 2)) = some (.int .i64 q.1.1) ∧ W.cell? (a.add (i * 2 + 1)) = some q.2 := fun i hi => by
      obtain ⟨cs', h1, h2⟩ := hel i (by omega)
      obtain ⟨_, _, h3⟩ := World.cells?_some h1
      obtain ⟨r, A, l, c, rfl, hby, _⟩ := rd_write h2 (fun x hx' => hlt x (by
        rw [hp]
        exact List.mem_append_right _ (List.mem_flatMap.2 ⟨i, List.mem_range.2 (by omega), hx'⟩)))
      have e0 := h3 0 (by omega)
      have e1 := h3 1 (by omega)
      have ea : ∀ j, (a.add (i * 2)).add j = a.add (i * 2 + j) := fun j => by
        unfold Addr.add
        repeat' split
        all_goals simp_all
        all_goals omega
      rw [ea] at e0 e1
      exact ⟨((r, l), .slice A l.length c), ⟨A, c, rfl⟩, hby, e0, e1⟩
    obtain ⟨Q, hQ⟩ := choose_lt (α := (Int × List UInt8) × Value) (p := fun i q => (∃ A c, q.2 = .slice A q.1.2.length c) ∧ Bys W W.heap.size q.2 q.1.2 ∧ W.cell? (a.add (i * 2)) = some (.int .i64 q.1.1) ∧ W.cell? (a.add (i * 2 + 1)) = some q.2) hb
    refine ⟨some a, m, ((List.range len).map Q).map (·.1), by simp, (List.range len).map Q, rfl, ⟨some a, m, by simp, by simpa using hl, hm, ?_⟩, fun q hq => ?_⟩
    · rw [List.length_map, List.length_map, List.length_range]
      refine rd_of_cellsN (by rw [cells2_len]; simp) (by omega) (fun x hx' => hlt x ?_) (fun j u hu => ?_)
      · rw [hp]
        refine List.mem_append_left _ ?_
        unfold MemPlace.row at hx' ⊢
        rw [List.mem_map] at hx' ⊢
        obtain ⟨k, hk, e⟩ := hx'
        exact ⟨k, List.mem_range.2 (by have := List.mem_range.1 hk; omega), e⟩
      · have hj : j < len * 2 := by
          have := (List.getElem?_eq_some_iff.1 hu).1
          rw [cells2_len] at this
          simpa using this
        obtain ⟨c0, c1⟩ := cells2_at ((List.range len).map Q) (j / 2) (by simp; omega)
        obtain ⟨_, _, q0, q1⟩ := hQ (j / 2) (by omega)
        rcases (show j = j / 2 * 2 ∨ j = j / 2 * 2 + 1 by omega) with e | e
        · have hu' : some u = some _ := (hu.symm.trans (congrArg (fun t => (cells2 ((List.range len).map Q))[t]?) e)).trans c0
          cases hu'
          rw [show a.add j = a.add (j / 2 * 2) from congrArg _ e, q0]
          simp
        · have hu' : some u = some _ := (hu.symm.trans (congrArg (fun t => (cells2 ((List.range len).map Q))[t]?) e)).trans c1
          cases hu'
          rw [show a.add j = a.add (j / 2 * 2 + 1) from congrArg _ e, q1]
          simp
    · obtain ⟨i, hi, rfl⟩ := List.mem_map.1 hq
      obtain ⟨q0, q1, _⟩ := hQ i (List.mem_range.1 hi)
      exact ⟨q0, q1⟩
theorem rd_ints {fuel : Nat} {cs : List Value} {d : DataW H} {p : List MemPlace} (h : DataW.trod enc Try.prog W 0 (fun _ => true) true fuel 30 cs = some (d, p)) (hlt : ∀ x ∈ p, x.block < W.heap.size) :
    ∃ A c l, cs = [.slice A l.length c] ∧ Ints W W.heap.size (.slice A l.length c) l ∧ ∀ a ∈ l, (Lit.int .i64 a).wf = true := by
  rcases open_ints Try.underlying30 Try.underlying3 Try.cc_int h with ⟨rfl, _⟩ | ⟨a, len, cap, zs, rfl, _, hl, hm, hz, hx, hcell, hwf⟩
  · exact ⟨none, 0, [], rfl, ⟨none, 0, rfl, Nat.le_refl _, by simp [maxLen], Rd.none_⟩, fun a h => by cases h⟩
  · simp only [if_true] at hz
    have hp : p = MemPlace.row a zs.length := congrArg Prod.snd hx
    have hll : (zs.take len).length = len := by rw [List.length_take]; omega
    refine ⟨some a, cap, zs.take len, by rw [hll], ⟨some a, cap, rfl, by omega, hm, ?_⟩, fun n hn => hwf n (List.mem_of_mem_take hn)⟩
    rw [hll]
    refine rd_of_cells (c := cap) hl (by simp; omega) (fun x hx' => hlt x (by rw [hp, hz]; exact hx')) (fun i u hu => ?_)
    rw [List.getElem?_map, List.getElem?_take] at hu
    split at hu
    · rename_i hi
      rw [hcell i (by omega), ← hu]
      simp [List.getElem?_eq_getElem (show i < zs.length by omega)]
    · cases hu
theorem rd_disk {fuel : Nat} {cs : List Value} {d : DataW H} {p : List MemPlace} (h : DataW.trod enc Try.prog W 0 (fun _ => true) true fuel 25 cs = some (d, p)) (hlt : ∀ x ∈ p, x.block < W.heap.size) :
    ∃ A1 c1 A2 c2 bs ws, cs = [.slice A1 (List.length bs) c1, .slice A2 (List.length ws) c2] ∧ Bls W W.heap.size (.slice A1 bs.length c1) bs ∧ Wrs W W.heap.size (.slice A2 ws.length c2) ws := by
  obtain ⟨xs, n, hl, hxl, hp, hf⟩ := trod_fields Try.underlying25 h
  rw [Try.cc_disk] at hl
  match cs, hl with
  | [c0, c1], _ =>
    match xs, hxl with
    | [(d0, p0), (d1, p1)], _ =>
      have g0 : _ = some (d0, p0) := hf 0 22 0 1 rfl Try.cc_blocks
      have g1 : _ = some (d1, p1) := hf 1 23 1 1 rfl Try.cc_writes
      simp only [List.drop, List.take] at g0 g1
      have hp2 : p = p0 ++ (p1 ++ []) := hp
      obtain ⟨A1, k1, bs, e1, h1⟩ := rd_blocks g0 (fun x hx => hlt x (by rw [hp2]; simp [hx]))
      obtain ⟨A2, k2, ws, e2, h2⟩ := rd_writes g1 (fun x hx => hlt x (by rw [hp2]; simp [hx]))
      simp only [List.cons.injEq, and_true] at e1 e2
      subst e1 e2
      exact ⟨A1, k1, A2, k2, bs, ws, rfl, h1, h2⟩
theorem rd_store {fuel : Nat} {cs : List Value} {d : DataW H} {p : List MemPlace} (h : DataW.trod enc Try.prog W 0 (fun _ => true) true fuel 28 cs = some (d, p)) (hlt : ∀ x ∈ p, x.block < W.heap.size) :
    ∃ A1 c1 A2 c2 A3 c3 A4 c4, ∃ S : Sto, cs = [.slice A1 S.bs.length c1, .slice A2 S.ws.length c2, .slice A3 S.now.length c3, .slice A4 S.last.length c4] ∧ StoAt W W.heap.size (.slice A1 S.bs.length c1) (.slice A2 S.ws.length c2) (.slice A3 S.now.length c3) (.slice A4 S.last.length c4) S := by
  obtain ⟨xs, n, hl, hxl, hp, hf⟩ := trod_fields Try.underlying28 h
  rw [Try.cc_store] at hl
  match cs, hl with
  | [c0, c1, c2, c3], _ =>
    match xs, hxl with
    | [(d0, p0), (d1, p1), (d2, p2)], _ =>
      have g0 : _ = some (d0, p0) := hf 0 25 0 2 rfl Try.cc_disk
      have g1 : _ = some (d1, p1) := hf 1 26 2 1 rfl Try.cc_bytes
      have g2 : _ = some (d2, p2) := hf 2 26 3 1 rfl Try.cc_bytes
      simp only [List.drop, List.take] at g0 g1 g2
      have hp2 : p = p0 ++ (p1 ++ (p2 ++ [])) := hp
      obtain ⟨A1, k1, A2, k2, bs, ws, e1, h1, h2⟩ := rd_disk g0 (fun x hx => hlt x (by rw [hp2]; simp [hx]))
      obtain ⟨A3, n3, k3, e3, _, l3, h3, q3⟩ := rd_bytes Try.underlying26 Try.underlying5 Try.cc_u8 g1 (fun x hx => hlt x (by rw [hp2]; simp [hx]))
      obtain ⟨A4, n4, k4, e4, _, l4, h4, q4⟩ := rd_bytes Try.underlying26 Try.underlying5 Try.cc_u8 g2 (fun x hx => hlt x (by rw [hp2]; simp [hx]))
      simp only [List.cons.injEq, and_true] at e1 e3 e4
      obtain ⟨rfl, rfl⟩ := e1
      subst e3 e4 q3 q4
      exact ⟨A1, k1, A2, k2, A3, k3, A4, k4, ⟨bs, ws, l3, l4⟩, rfl, h1, h2, h3, h4⟩
/-- a pool, as an argument -/
theorem rd_pool {fuel : Nat} {cs : List Value} {d : DataW H} {p : List MemPlace} (h : DataW.trod enc Try.prog W 0 (fun _ => true) true fuel 32 cs = some (d, p)) (hlt : ∀ x ∈ p, x.block < W.heap.size) :
    ∃ A1 c1 A2 c2 A3 c3 A4 c4 gen root next A5 c5, ∃ (S : Sto) (dead : List Int), cs = (poolCs (.slice A1 S.bs.length c1) (.slice A2 S.ws.length c2) (.slice A3 S.now.length c3) (.slice A4 S.last.length c4) gen root next (.slice A5 dead.length c5)).toList ∧
      StoAt W W.heap.size (.slice A1 S.bs.length c1) (.slice A2 S.ws.length c2) (.slice A3 S.now.length c3) (.slice A4 S.last.length c4) S ∧ Ints W W.heap.size (.slice A5 dead.length c5) dead ∧
      (Lit.int .u32 gen).wf = true ∧ (Lit.int .i64 root).wf = true ∧ (Lit.int .u32 next).wf = true ∧ ∀ a ∈ dead, (Lit.int .i64 a).wf = true := by
  obtain ⟨xs, n, hl, hxl, hp, hf⟩ := trod_fields Try.underlying32 h
  rw [Try.cc_pool] at hl
  match cs, hl with
  | [c0, c1, c2, c3, c4, c5, c6, c7], _ =>
    match xs, hxl with
    | [(d0, p0), (d1, p1), (d2, p2), (d3, p3), (d4, p4)], _ =>
      have g0 : _ = some (d0, p0) := hf 0 28 0 4 rfl Try.cc_store
      have g1 : _ = some (d1, p1) := hf 1 29 4 1 rfl Try.cc_u32
      have g2 : _ = some (d2, p2) := hf 2 3 5 1 rfl Try.cc_int
      have g3 : _ = some (d3, p3) := hf 3 29 6 1 rfl Try.cc_u32
      have g4 : _ = some (d4, p4) := hf 4 30 7 1 rfl Try.cc_ints
      simp only [List.drop, List.take] at g0 g1 g2 g3 g4
      have hp2 : p = p0 ++ (p1 ++ (p2 ++ (p3 ++ (p4 ++ [])))) := hp
      obtain ⟨A1, k1, A2, k2, A3, k3, A4, k4, S, e0, hS⟩ := rd_store g0 (fun x hx => hlt x (by rw [hp2]; simp [hx]))
      obtain ⟨gen, e1, _, w1⟩ := DataW.trod_int Try.underlying29 g1
      obtain ⟨root, e2, _, w2⟩ := DataW.trod_int Try.underlying3 g2
      obtain ⟨next, e3, _, w3⟩ := DataW.trod_int Try.underlying29 g3
      obtain ⟨A5, k5, dead, e4, hd, w4⟩ := rd_ints g4 (fun x hx => hlt x (by rw [hp2]; simp [hx]))
      simp only [List.cons.injEq, and_true] at e0 e1 e2 e3 e4
      obtain ⟨rfl, rfl, rfl, rfl⟩ := e0
      subst e1 e2 e3 e4
      exact ⟨A1, k1, A2, k2, A3, k3, A4, k4, gen, root, next, A5, k5, S, dead, rfl, hS, hd, w1, w2, w3, w4⟩
end
end Go.Proofs.Yteikcgjhcniiiaa
/- scionrylaw31.CheckTells is true of every pool and every list of blocks, and leaves its arguments as they were; no condition. -/
namespace Go.Proofs.Yteikcgjhcniiiaa.checkTells
set_option linter.unusedSimpArgs false
set_option linter.unusedVariables false
open Go.ChangeShapes Go.WideShapes Go.ChangeAt Go.RowKit

theorem own : ownKnob Try.prog.godebug = none := by kernel_rfl
theorem laidOut : laidOutB Try.prog = true := by kernel_rfl

set_option maxHeartbeats 1000000 in
set_option maxRecDepth 100000 in
theorem lifted (os : Os) (started : os.Started) (H : Type) (enc : TypeId × Value → H) :
    ReturnsInHanded {} Try.checked os 3 .any (Rows.checkTellsSpec.pre6 enc Try.prog Try.f3 Rows.checkTellsRow.domain false) (Rows.checkTellsSpec.post enc Try.prog Try.f3 false true false false) := by
  refine returnsInHanded_of_change (C := Try.checked) own started (by kernel_rfl) Try.func3
    (ChangeSpec.witness6 (enc := enc) (C := Try.checked) false ⟨#[], #[.agg (poolCs (.slice none 0 0) (.slice none 0 0) (.slice none 0 0) (.slice none 0 0) 0 0 0 (.slice none 0 0)), .slice none 0 0], []⟩ 8 (by kernel_rfl) (by kernel_rfl) (by kernel_rfl) (by kernel_rfl)) ?_
  intro W base args ds gs before hval0 hW hcnd _
  have hval : ∀ (j : Nat) t v, Try.f3.params[j]? = some t → args[j]? = some v → Value.okWide Try.prog W .any base t v := hval0
  have hW' := hW
  have hlt : ∀ x ∈ before, x.block < W.heap.size := fun x hx => hW.lt x hx
  obtain ⟨p, q, hA0, hV, rfl, hfz, hnd⟩ := hW
  have hA : DataW.TrodAll enc Try.prog W 0 (fun _ => true) true Try.f3.params.toList args.toList ds p := hA0
  rw [Try.params3] at hA hval
  obtain ⟨v0, vs0, d0, ds0, p0, q0, hargs, rfl, rfl, h0, r0⟩ := trodAll_cons hA
  obtain ⟨v1, vs1, d1, ds1, p1, q1, rfl, rfl, rfl, h1, r1⟩ := trodAll_cons r0
  obtain ⟨rfl, rfl, rfl⟩ := trodAll_nil r1
  obtain rfl : args = #[v0, v1] := by cases args; simp_all
  obtain ⟨rfl, rfl⟩ := trodVars_none hV
  obtain ⟨cs0, rfl, _⟩ := okWide_struct Try.underlying32 (hval 0 32 v0 rfl rfl)
  obtain ⟨a1, l1, k1, rfl⟩ := okWide_slice Try.underlying30 (hval 1 30 v1 rfl rfl)
  obtain ⟨n0, h0⟩ := h0
  obtain ⟨n1, h1⟩ := h1
  obtain ⟨A1, c1, A2, c2, A3, c3, A4, c4, gen, root, next, A5, c5, S, dead, e0, hS, hd, _, _, _, _⟩ := rd_pool h0 (fun x hx => hlt x (by simp [hx]))
  obtain ⟨A6, c6, held, e1, hh, _⟩ := rd_ints h1 (fun x hx => hlt x (by simp [hx]))
  have e0' : cs0 = poolCs (.slice A1 S.bs.length c1) (.slice A2 S.ws.length c2) (.slice A3 S.now.length c3) (.slice A4 S.last.length c4) gen root next (.slice A5 dead.length c5) := by
    obtain ⟨cs0⟩ := cs0
    have : cs0 = _ := e0
    rw [this]
  have e1' : Value.slice a1 l1 k1 = .slice A6 held.length c6 := by
    have : [Value.slice a1 l1 k1] = _ := e1
    exact (List.cons.inj this).1
  subst e0'
  cases e1'
  have walk : Calls Try.prog 3 #[.agg (poolCs (.slice A1 S.bs.length c1) (.slice A2 S.ws.length c2) (.slice A3 S.now.length c3) (.slice A4 S.last.length c4) gen root next (.slice A5 dead.length c5)), .slice a1 held.length k1] W (Ret (.bool true) W) := ctells_any A1 c1 A2 c2 A3 c3 A4 c4 gen root next A5 c5 S dead a1 k1 held W hS hd hh
  refine walk.mono fun e W' ⟨he, hB⟩ => ?_
  subst he
  exact ⟨_, rfl, law_post rfl laidOut rfl Try.underlying4 (by
    intro t ht
    have : t = 32 ∨ t = 30 := by rw [Try.params3] at ht; simpa using ht
    rcases this with rfl | rfl
    · exact ⟨by kernel_rfl, of_decide_eq_true (by kernel_rfl)⟩
    · exact ⟨by kernel_rfl, of_decide_eq_true (by kernel_rfl)⟩) hW' rfl hB⟩

theorem over : Rows.checkTellsRow.holds Try.pinned (OpenSpec.ofChange Rows.checkTellsSpec) :=
  OpenClaim.holds_of_wide 3 Try.f3 rfl rfl rfl rfl rfl rfl rfl ⟨rfl, rfl, rfl, rfl, rfl⟩ rfl rfl rfl rfl rfl (by kernel_rfl) Try.func3 (by kernel_rfl)
    (of_decide_eq_true (by kernel_rfl)) (by unfold Func.isWrapper; first | (rw [if_pos (by decide +kernel)]; kernel_rfl) | (rw [if_neg (by decide +kernel)]; exact ⟨rfl, rfl⟩))
    (fun os started H enc _ => lifted os started H enc)

/-- THE STATEMENT -/
theorem proved : Rows.CheckTellsSaid := over
end Go.Proofs.Yteikcgjhcniiiaa.checkTells
