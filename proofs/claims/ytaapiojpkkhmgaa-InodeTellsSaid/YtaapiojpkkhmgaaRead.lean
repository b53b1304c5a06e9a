/- What the arguments' readings say of memory. -/
import Derived.Test.YtaapiojpkkhmgaaBase
namespace Go.Proofs.Ytaapiojpkkhmgaa
set_option linter.unusedSimpArgs false
set_option linter.unusedVariables false
open Go.RowKit Go.ChangeShapes Go.WideShapes Go.ChangeAt

section
variable {H : Type} {enc : TypeId × Value → H} {P : Program} {W : World}

theorem numOfs_bytes (zs : List Int) (h : ∀ n ∈ zs, (Lit.int .u8 n).wf = true) : ∃ l : List UInt8, zs.map (Value.int .u8) = l.map bv := by
  induction zs with
  | nil => exact ⟨[], rfl⟩
  | cons z r ih =>
    obtain ⟨l, hl⟩ := ih (fun n hn => h n (List.mem_cons_of_mem _ hn))
    have hz := h z (List.mem_cons_self)
    have hb : 0 ≤ z ∧ z ≤ 255 := by simpa [Lit.wf, IntKind.min, IntKind.max, IntKind.signed, IntKind.bits] using hz
    refine ⟨UInt8.ofNat z.toNat :: l, ?_⟩
    simp only [List.map_cons, hl]
    congr 1
    simp only [bv]
    congr 1
    have : (UInt8.ofNat z.toNat).toNat = z.toNat % 256 := by simp
    rw [this]
    omega

/-- a slice's cells, whatever its elements' one cell is -/
theorem rd_of_cells {a : Addr} {n c : Nat} {xs : List Value} (hn : n ≤ c) (hlen : xs.length = n) (hb : ∀ x ∈ MemPlace.row a c, x.block < W.heap.size) (hc : ∀ i u, xs[i]? = some u → W.cell? (a.add i) = some u) : Rd W W.heap.size 1 (some a) n xs := by
  refine ⟨by omega, fun h0 => ?_⟩
  obtain ⟨u, hu⟩ : ∃ u, xs[0]? = some u := ⟨_, List.getElem?_eq_getElem (by omega)⟩
  have h1 := hc 0 u hu
  have hsp : a.spot = none := by
    have : (a.add 0) = a := by simp [Addr.add]
    rw [this] at h1
    unfold World.cell? at h1
    split at h1
    · cases hs : a.spot with
      | none => rfl
      | some s => rw [hs] at h1; simp at h1
    · cases h1
  obtain ⟨b, off, sp⟩ := a
  simp only at hsp
  subst hsp
  have hbl : b < W.heap.size := by
    have : W.cell? ((⟨b, off, none⟩ : Addr).add 0) = some u := h1
    have h2 := World.block_lt_of_cell? W _ this
    simpa [Addr.add] using h2
  refine ⟨b, off, rfl, hbl, fun j v hv => ?_⟩
  rw [← hc j v hv]
  unfold Addr.add
  split
  · subst_vars; rfl
  · rfl

theorem rd_bytes {t e : TypeId} {fuel : Nat} {cs : List Value} {d : DataW H} {p : List MemPlace} (ht : P.underlying t = some (.slice e)) (he : P.underlying e = some (.int .u8)) (hc : P.cellsOf e = 1)
    (h : DataW.trod enc P W 0 (fun _ => true) true fuel t cs = some (d, p)) (hlt : ∀ x ∈ p, x.block < W.heap.size) : ∃ A n c, cs = [.slice A n c] ∧ n ≤ c ∧ ∃ l : List UInt8, Bys W W.heap.size (.slice A n c) l ∧ l.length = n := by
  rcases open_ints ht he hc h with ⟨rfl, _⟩ | ⟨a, len, cap, zs, rfl, _, hl, hm, hz, hx, hcell, hwf⟩
  · exact ⟨none, 0, 0, rfl, Nat.le_refl _, [], Bys.nil W _, rfl⟩
  · simp only [if_true] at hz
    obtain ⟨l, hl'⟩ := numOfs_bytes (zs.take len) (fun n hn => hwf n (List.mem_of_mem_take hn))
    have hll : l.length = len := by
      have := congrArg List.length hl'
      simp only [List.length_map, List.length_take] at this
      omega
    refine ⟨some a, len, cap, rfl, hl, l, ⟨some a, cap, by rw [hll], by omega, hm, ?_⟩, hll⟩
    rw [hll]
    refine rd_of_cells (c := cap) hl (by simp [hll]) (fun x hx' => hlt x ?_) (fun i u hu => ?_)
    · have e2 : p = MemPlace.row a zs.length := by injection hx
      rw [e2, hz]; exact hx'
    · rw [← hl'] at hu
      rw [List.getElem?_map, List.getElem?_take] at hu
      split at hu
      · rename_i hi
        rw [hcell i (by omega)]
        rw [← hu]
        simp [List.getElem?_eq_getElem (show i < zs.length by omega)]
      · cases hu

theorem trod_fields {t : TypeId} {fs : Array Field} {fuel : Nat} {cs : List Value} {x : DataW H × List MemPlace} (ht : P.underlying t = some (.struct fs)) (h : DataW.trod enc P W 0 (fun _ => true) true fuel t cs = some x) :
    ∃ (xs : List (DataW H × List MemPlace)) (n : Nat), cs.length = P.cellsOf t ∧ xs.length = fs.size ∧ x.2 = xs.flatMap (·.2) ∧
      ∀ (i : Nat) (T : TypeId) (off m : Nat), (fs[i]?).map (fun f => (f.type, f.offset)) = some (T, off) → P.cellsOf T = m → DataW.trod enc P W 0 (fun _ => true) true n T ((cs.drop off).take m) = xs[i]? := by
  obtain ⟨xs, n, _, hx, hl, hxl, hf⟩ := DataW.trod_struct ht h
  refine ⟨xs, n, hl, hxl, by rw [hx], fun i T off m hi hm => ?_⟩
  obtain ⟨f, hfi, he⟩ := Option.map_eq_some_iff.1 hi
  have := hf i f hfi
  simp only [Prod.mk.injEq] at he
  rw [he.1, he.2, hm] at this
  exact this
end
end Go.Proofs.Ytaapiojpkkhmgaa
