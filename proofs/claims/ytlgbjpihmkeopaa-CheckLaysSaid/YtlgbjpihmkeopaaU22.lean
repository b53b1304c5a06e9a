/- Texts Counts, UsesW, Uses, IWrite, Seal, joined. -/
import Derived.WalkMore
import Derived.ScopeJumps
import Derived.Test.YtlgbjpihmkeopaaU03
import Derived.Test.YtlgbjpihmkeopaaU06
import Derived.Test.YtlgbjpihmkeopaaU11
import Derived.Test.YtlgbjpihmkeopaaU15
import Derived.Test.YtlgbjpihmkeopaaU16
import Derived.Test.YtlgbjpihmkeopaaU21
/- Contracts: is each block counted? -/
namespace Go.Proofs.Ytlgbjpihmkeopaa
set_option linter.unusedSimpArgs false
set_option linter.unusedVariables false
open Go.RowKit

def CountsQ (S : Sto) (root next : Int) (dead held : List Int) (w : World) (e : Ending) (w' : World) : Prop := Below w.heap.size w w' ∧
  ((e = .returned (.tuple #[.bool false, .int .i64 8]) ∧ ∀ vs, PoolB S root next dead vs → ∃ refs nodes, Counted S (rootsN root dead vs) refs nodes ∧ ¬ Enough S refs) ∨
    ∃ vs refs nodes, PoolB S root next dead vs ∧ Counted S (rootsN root dead vs) refs nodes ∧ Enough S refs ∧ e = .returned (.tuple #[.bool (countsV S refs held).1, .int .i64 (countsV S refs held).2]))
structure CI (S : Sto) (root next : Int) (dead held : List Int) (vs : List Vol) (refs nodes : Nat → Nat) (w w1 : World) (cb : Nat) (vv : Value) (k : Nat) (wr : World) : Prop where
  pool : PoolB S root next dead vs
  cnt : Counted S (rootsN root dead vs) refs nodes
  enough : Enough S refs
  x1 : Ext w w1
  low : w1.heap.size ≤ cb
  below : Below w1.heap.size w1 wr
  few : held.length ≤ 1024
  row : ∃ ca, wr.heap[cb]? = some (.cells ca 97 (0, 0)) ∧ Ar ca (heldTo refs held k) nodes vv
structure CH (S : Sto) (root next : Int) (dead held : List Int) (vs : List Vol) (refs nodes : Nat → Nat) (w w1 : World) (cb : Nat) (vv : Value) (i : Value) (wr : World) : Prop where
  ex : ∃ k : Nat, k ≤ held.length ∧ i = .int .i64 (k : Int) ∧ heldOk (held.take k) = true ∧ CI S root next dead held vs refs nodes w w1 cb vv k wr
structure CJ (S : Sto) (root next : Int) (dead held : List Int) (w w1 : World) (cb k : Nat) (wr : World) : Prop where
  ex : ∃ vs refs nodes vv, 8 ≤ k ∧ k ≤ 256 ∧ heldOk held = true ∧ (∀ a, 8 ≤ a → a < k → refs a + held.count (a : Int) = (S.now[a]?.getD 0).toNat) ∧ CI S root next dead held vs refs nodes w w1 cb vv held.length wr
theorem counts_ret {R : Ending → World → Prop} {a : Act} {W : World} {u v : Value} (h2 : a.tmps[4]?.getD undef = u) (h3 : a.tmps[5]?.getD undef = v) (hd : a.defers = []) (hR : R (.returned (.tuple #[u, v])) W) : bodyPost Try.prog Try.f8 R .ret a W := by
  refine bodyPost_ret (v := .tuple #[u, v]) ?_ hd hR
  simp [results, Try.results8, go_sem, h2, h3]
theorem heldTo_all (refs : Nat → Nat) (held : List Int) (a : Nat) : heldTo refs held held.length a = refs a + held.count (a : Int) := by unfold heldTo; rw [List.take_length]
theorem heldOk_snoc {held : List Int} {k : Nat} (hk : k < held.length) (h : heldOk (held.take k) = true) (ha : 8 ≤ held[k] ∧ held[k] < 256) : heldOk (held.take (k + 1)) = true := by
  unfold heldOk at *
  rw [all_take _ _ _ hk, h, decide_eq_true ha]
  rfl
theorem countsB_bad {S : Sto} {refs : Nat → Nat} {held : List Int} {a : Nat} (h8 : 8 ≤ a) (h2 : a < 256) (h : refs a + held.count (a : Int) ≠ (S.now[a]?.getD 0).toNat) : countsB S refs held = false := by
  unfold countsB
  rw [List.all_eq_false]
  exact ⟨a, List.mem_range.2 h2, by rw [decide_eq_false (by omega), decide_eq_false h]; simp⟩
theorem countsB_ok {S : Sto} {refs : Nat → Nat} {held : List Int} (h : ∀ a, 8 ≤ a → a < 256 → refs a + held.count (a : Int) = (S.now[a]?.getD 0).toNat) : countsB S refs held = true := by
  unfold countsB
  rw [List.all_eq_true]
  intro a ha
  rcases Nat.lt_or_ge a 8 with h8 | h8
  · rw [decide_eq_true h8]; rfl
  · rw [decide_eq_true (h a h8 (List.mem_range.1 ha)), Bool.or_true]
theorem CI.done {S : Sto} {root next : Int} {dead held : List Int} {vs : List Vol} {refs nodes : Nat → Nat} {w w1 wr : World} {cb : Nat} {vv : Value} {k : Nat} (h : CI S root next dead held vs refs nodes w w1 cb vv k wr) {b : Bool} {n : Int} (hv : countsV S refs held = (b, n)) :
    CountsQ S root next dead held w (.returned (.tuple #[.bool b, .int .i64 n])) wr :=
  ⟨Ext.trans h.x1 h.below, .inr ⟨vs, refs, nodes, h.pool, h.cnt, h.enough, by rw [hv]⟩⟩
theorem CI.ref_few {S : Sto} {root next : Int} {dead held : List Int} {vs : List Vol} {refs nodes : Nat → Nat} {w w1 wr : World} {cb : Nat} {vv : Value} {k : Nat} (h : CI S root next dead held vs refs nodes w w1 cb vv k wr) (a : Nat) : heldTo refs held k a ≤ (rootsN root dead vs).length + 1280 + 1024 := by
  have h1 := refs_few (Marked.walk.1 h.cnt.mkd) a
  have h2 := List.count_le_length (a := (a : Int)) (l := held.take k)
  have h3 : (held.take k).length ≤ held.length := by rw [List.length_take]; omega
  have h4 := h.few
  unfold heldTo
  omega
theorem CI.ext {S : Sto} {root next : Int} {dead held : List Int} {vs : List Vol} {refs nodes : Nat → Nat} {w w1 wr W : World} {cb : Nat} {vv : Value} {k : Nat} (h : CI S root next dead held vs refs nodes w w1 cb vv k wr) (hx : Ext wr W) : CI S root next dead held vs refs nodes w w1 cb vv k W :=
  ⟨h.pool, h.cnt, h.enough, h.x1, h.low, h.below.trans (Below.mono hx h.below.size), h.few, by obtain ⟨ca, h1, h2⟩ := h.row; exact ⟨ca, row_ext h1 hx, h2⟩⟩
theorem CJ.ext {S : Sto} {root next : Int} {dead held : List Int} {w w1 wr W : World} {cb k : Nat} (h : CJ S root next dead held w w1 cb k wr) (hx : Ext wr W) : CJ S root next dead held w w1 cb k W := by
  obtain ⟨vs, refs, nodes, vv, h1, h2, h3, h4, h5⟩ := h.ex
  exact ⟨vs, refs, nodes, vv, h1, h2, h3, h4, h5.ext hx⟩
theorem CountsQ.ext {S : Sto} {root next : Int} {dead held : List Int} {w wr W : World} {e : Ending} (h : CountsQ S root next dead held w e wr) (hx : Ext wr W) : CountsQ S root next dead held w e W :=
  ⟨h.1.trans (Below.mono hx h.1.size), h.2⟩
theorem pool_roots {S : Sto} {root next : Int} {dead : List Int} {vs : List Vol} (h : PoolB S root next dead vs) : (rootsN root dead vs).length ≤ 57 := by
  have h1 := h.few
  have h2 : vs.length ≤ 16 := by
    have h3 := h.vols
    unfold volsOf at h3
    split at h3
    · cases h3
    · exact volsGo_len _ _ _ _ (by simp) h3
  unfold rootsN rootsOf
  simp
  omega

set_option maxHeartbeats 4000000 in
set_option maxRecDepth 100000 in
theorem counts_any (A1 : Option Addr) (n1 c1 : Nat) (A2 : Option Addr) (n2 c2 : Nat) (A3 : Option Addr) (n3 c3 : Nat) (A4 : Option Addr) (n4 c4 : Nat) (gen root next : Int) (A5 : Option Addr) (c5 : Nat) (S : Sto) (dead : List Int) (A6 : Option Addr) (c6 : Nat) (held : List Int) (w : World)
    (h : StoAt w w.heap.size (.slice A1 n1 c1) (.slice A2 n2 c2) (.slice A3 n3 c3) (.slice A4 n4 c4) S) (hd : Ints w w.heap.size (.slice A5 dead.length c5) dead) (hh : Ints w w.heap.size (.slice A6 held.length c6) held) :
    Calls Try.prog 8 #[.agg (poolCs (.slice A1 n1 c1) (.slice A2 n2 c2) (.slice A3 n3 c3) (.slice A4 n4 c4) gen root next (.slice A5 dead.length c5)), .slice A6 held.length c6] w (CountsQ S root next dead held w) := by
  have HT := Lib.hid (fun W (hx : Ext w W) => refs_any A1 n1 c1 A2 n2 c2 A3 n3 c3 A4 n4 c4 gen root next A5 c5 S dead W (h.ext hx) (by
    obtain ⟨A, c, e, q1, q2, q3⟩ := hd
    exact ⟨A, c, e, q1, q2, (q3.below hx).more hx.size⟩))
  have hS := Lib.hid h
  have hH := Lib.hid hh
  clear h hd hh
  have hlv : Hid (countsV S = fun refs held => if 1024 < held.length then (false, 4) else if heldOk held = true then (countsB S refs held, 0) else (false, 2)) := Lib.hid rfl
  go_enter Try.func8, Try.ntmps8
  go_wp2_with fail
  refine wp_scope_jumps 0 (fun a' w' => ∃ (pb cb k : Nat) (w1 : World) (u0 u1 u3 u4 u5 u7 u8 u9 u11 u12 u13 u14 u15 u16 u17 u18 u19 u20 u21 u22 u23 u24 u25 u26 u27 u28 u29 u30 u31 u32 u33 u34 u35 u36 u37 u38 u39 u40 u41 u42 u43 u44 u45 u46 u47 u48 u49 u50 u51 u52 u53 u54 u55 u56 : Value), a' = { tmps := #[u0, u1, .pointer (some ⟨pb, 0, none⟩), u3, u4, u5, .slice (some ⟨cb, 6, none⟩) 256 256, u7, u8, u9, .int .i64 (k : Int), u11, u12, u13, u14, u15, u16, u17, u18, u19, u20, u21, u22, u23, u24, u25, u26, u27, u28, u29, u30, u31, u32, u33, u34, u35, u36, u37, u38, u39, u40, u41, u42, u43, u44, u45, u46, u47, u48, u49, u50, u51, u52, u53, u54, u55, u56], defers := [] } ∧ w'.heap[pb]? = some (.cells (poolCs (.slice A1 n1 c1) (.slice A2 n2 c2) (.slice A3 n3 c3) (.slice A4 n4 c4) gen root next (.slice A5 dead.length c5)) 32 (0, 0)) ∧ CJ S root next dead held w w1 cb k w') (fun a' _ => 256 - (intOf (a'.tmps.getD 10 undef)).toNat) rfl ?first ?pass
  case pass =>
    rintro a' w' ⟨pb, cb, k, w1, u0, u1, u3, u4, u5, u7, u8, u9, u11, u12, u13, u14, u15, u16, u17, u18, u19, u20, u21, u22, u23, u24, u25, u26, u27, u28, u29, u30, u31, u32, u33, u34, u35, u36, u37, u38, u39, u40, u41, u42, u43, u44, u45, u46, u47, u48, u49, u50, u51, u52, u53, u54, u55, u56, rfl, hp, hJ⟩
    obtain ⟨vs, refs, nodes, vv, h8, h256, hok, heq, hI⟩ := hJ.ex
    clear hJ HT
    by_cases hk : k = 256
    · subst hk
      have HB := Lib.hid (hI.done (b := true) (n := 0) (by rw [hlv.out]; simp only; rw [if_neg (by have := hI.few; omega), if_pos hok, countsB_ok heq]))
      have hc : (((256 : Nat) : Int) == 256) = true := rfl
      clear heq hI hS hH hlv
      go_wp2_with fail
      exact counts_ret rfl rfl rfl HB.out
    · have hc : ((k : Int) == 256) = false := by rw [beq_eq_false_iff_ne]; omega
      have hlt : k < 256 := by omega
      have xw : Below w.heap.size w w' := Ext.trans hI.x1 hI.below
      obtain ⟨_, _, hl3, _⟩ := storeMay_len hI.pool.may
      obtain ⟨b3, o3, c3', e3, hb3, hc3⟩ := tab_at (hS.out.below xw).now hl3
      simp only [Value.slice.injEq] at e3
      obtain ⟨rfl, rfl, rfl⟩ := e3
      have d3 := hc3 k hlt
      obtain ⟨ca, hrow, har⟩ := hI.row
      have hcr := har.ref k hlt
      rw [heldTo_all] at hcr
      have hfew := hI.ref_few k
      rw [heldTo_all] at hfew
      have hpr := pool_roots hI.pool
      have hNX : refs k + held.count (k : Int) = (S.now[k]?.getD 0).toNat → CJ S root next dead held w w1 cb (k + 1) w' := fun h => ⟨vs, refs, nodes, vv, by omega, by omega, hok, fun a h1 h2 => by
        by_cases e : a = k
        · subst e; exact h
        · exact heq a h1 (by omega), hI⟩
      have hBAD : ¬ refs k + held.count (k : Int) = (S.now[k]?.getD 0).toNat → CountsQ S root next dead held w (.returned (.tuple #[.bool false, .int .i64 0])) w' := fun h => hI.done (by rw [hlv.out]; simp only; rw [if_neg (by have := hI.few; omega), if_pos hok, countsB_bad h8 hlt h])
      have hq8 : (S.now[k]?.getD 0).toNat < 256 := UInt8.toNat_lt _
      generalize (S.now[k]?.getD 0).toNat = q at *
      generalize refs k + held.count (k : Int) = m at *
      replace hNX := Lib.hid hNX
      replace hBAD := Lib.hid hBAD
      replace hI := Lib.hid hI
      clear heq hc3
      go_wp2_with fail
      have gC : ∀ W, extRel.r w' W → W.cell? ⟨cb, 6 + k, none⟩ = some (.int .i64 (m : Nat)) := fun W h => by rw [cells_row (row_ext hrow h)]; exact hcr
      have gN : ∀ W, extRel.r w' W → W.cell? ⟨b3, o3 + k, none⟩ = some (.int .u8 (q : Nat)) := fun W h => Ext.cell h d3
      have gP : ∀ W, extRel.r w' W → ∀ i, W.cell? ⟨pb, i, none⟩ = (poolCs (.slice A1 n1 c1) (.slice A2 n2 c2) (.slice (some ⟨b3, o3, none⟩) 256 c3) (.slice A4 n4 c4) gen root next (.slice A5 dead.length c5))[i]? := fun W h => cells_row (row_ext hp h)
      refine region_start (by kernel_rfl) ?_
      refine any_freeT (w := w') extRel (outsAt []) [true, true, true, true, true, true, true, true, true, true, true] 1 (by kernel_rfl) (by kernel_rfl) (by kernel_rfl) (by kernel_rfl) (by kernel_rfl) (by kernel_rfl) (by kernel_rfl) ?st (Rel.drew _ _) ?walk
      case st => exact outsAt_stableG (fun _ h => by cases h)
      case walk =>
        intro K hK
        dsimp only [maskOps]
        repeat ((first | (refine free_plainM ?_ (by rfl) (by rfl) (fun W hW _ => ⟨W, ?_, Rel.refl _ W⟩) ?_; rotate_left; (first | (go_simp; with_reducible rfl) | (go_simp; done))) | (refine free_skipM (by rfl) ?_)); try simp only [Act.put, one_f, outB_f, outNew_f, outI_f, outNew_f, List.setIfInBounds_toArray, List.set_cons_zero, List.set_cons_succ])
        refine free_plainM (.pointer (some ⟨cb, 6 + k, none⟩)) (by rfl) (by rfl) (fun W hW _ => ⟨W, ?_, Rel.refl _ W⟩) ?_
        · go_simp
          intro hge
          exfalso
          omega
        simp only [Act.put, one_f, outB_f, outNew_f, outI_f, outNew_f, List.setIfInBounds_toArray, List.set_cons_zero, List.set_cons_succ]
        repeat ((first | (refine free_plainM ?_ (by rfl) (by rfl) (fun W hW _ => ⟨W, ?_, Rel.refl _ W⟩) ?_; rotate_left; (first | (go_simp; with_reducible rfl) | (go_simp; done))) | (refine free_skipM (by rfl) ?_)); try simp only [Act.put, one_f, outB_f, outNew_f, outI_f, outNew_f, List.setIfInBounds_toArray, List.set_cons_zero, List.set_cons_succ])
        refine free_plainM (.pointer (some ⟨b3, o3 + k, none⟩)) (by rfl) (by rfl) (fun W hW _ => ⟨W, ?_, Rel.refl _ W⟩) ?_
        · go_simp
          intro hge
          exfalso
          omega
        simp only [Act.put, one_f, outB_f, outNew_f, outI_f, outNew_f, List.setIfInBounds_toArray, List.set_cons_zero, List.set_cons_succ]
        repeat ((first | (refine free_plainM ?_ (by rfl) (by rfl) (fun W hW _ => ⟨W, ?_, Rel.refl _ W⟩) ?_; rotate_left; (first | (go_simp; with_reducible rfl) | (go_simp; done))) | (refine free_skipM (by rfl) ?_)); try simp only [Act.put, one_f, outB_f, outNew_f, outI_f, outNew_f, List.setIfInBounds_toArray, List.set_cons_zero, List.set_cons_succ])
        refine free_nilM (hK _ _ fun W hW hF => ?_)
        have hW' : Ext w' W := hW
        clear hF hK gC gN gP
        have pW := row_ext hp hW'
        dsimp only [List.drop, List.length_cons, List.length_nil]
        by_cases hmq : m = q
        · have hne : ((m : Int) != (q : Int)) = false := by rw [bne_eq_false_iff_eq]; omega
          have HN := (hNX.out hmq).ext hW'
          have hwk := IntWalk.wrap64_in ((k : Int) + 1) (by omega)
          replace hwk := Lib.hid hwk
          replace HN := Lib.hid HN
          replace hmq := Lib.hid hmq
          clear hNX hBAD
          go_wp2
          refine QN_in ?_
          go_wp2_with fail
          go_step3
          first
            | (refine ⟨rfl, ⟨pb, cb, k + 1, w1, _, _, _, _, _, _, _, _, _, _, _, _, _, _, _, _, _, _, _, _, _, _, _, _, _, _, _, _, _, _, _, _, _, _, _, _, _, _, _, _, _, _, _, _, _, _, _, _, _, _, _, _, _, _, rfl, pW, HN.out⟩, ?_⟩
               simp [intOf]
               omega)
            | exact ⟨rfl, pb, cb, k + 1, w1, _, _, _, _, _, _, _, _, _, _, _, _, _, _, _, _, _, _, _, _, _, _, _, _, _, _, _, _, _, _, _, _, _, _, _, _, _, _, _, _, _, _, _, _, _, _, _, _, _, _, _, _, _, _, rfl, pW, HN.out⟩
        · have hne : ((m : Int) != (q : Int)) = true := by rw [bne_iff_ne]; omega
          have HB := (hBAD.out hmq).ext hW'
          replace HB := Lib.hid HB
          clear hNX hBAD
          go_wp2
          refine QN_in ?_
          go_wp2_with fail
          exact counts_ret rfl rfl rfl HB.out
  case first =>
    go_wp2_with fail
    generalize hw1 : World.alloc w _ = w1
    have x1 : Ext w w1 := by rw [← hw1]; exact Ext.alloc _ _
    have r1 : w1.heap[w.heap.size]? = some (.cells (poolCs (.slice A1 n1 c1) (.slice A2 n2 c2) (.slice A3 n3 c3) (.slice A4 n4 c4) gen root next (.slice A5 dead.length c5)) 32 (0, 0)) := by rw [← hw1]; exact World.alloc_heap_at _ _ _ rfl
    clear hw1
    refine (HT.out w1 x1).mono ?_
    clear HT
    rintro e w2 ⟨hB, hQ⟩
    have x2 : Below w.heap.size w w2 := Ext.trans x1 hB
    rcases hQ with ⟨rfl, hno⟩ | ⟨vs, refs, nodes, cb, ca, vv, lo, rfl, hlo, hT⟩
    · have HB : CountsQ S root next dead held w (.returned (.tuple #[.bool false, .int .i64 8])) w2 := ⟨x2, .inl ⟨rfl, hno⟩⟩
      replace HB := Lib.hid HB
      clear hno hB hS hH hlv
      go_wp2_with fail
      exact counts_ret rfl rfl rfl HB.out
    · have hI0 : CI S root next dead held vs refs nodes w w1 cb vv 0 w2 → True := fun _ => trivial
      have hPool := Lib.hid hT.pool
      have hCnt := Lib.hid hT.cnt
      have hEn := Lib.hid hT.enough
      have hRow := Lib.hid hT.row
      have hAr := Lib.hid hT.ar
      have hcb : w1.heap.size ≤ cb := Nat.le_trans hlo hT.low
      have k2 := row_ext r1 hB
      clear hT hI0
      replace hB := Lib.hid hB
      by_cases hfew : held.length ≤ 1024
      · have hd1 : decide ((held.length : Int) > 1024) = false := decide_eq_false (by omega)
        have hIa : CI S root next dead held vs refs nodes w w1 cb vv 0 w2 := ⟨hPool.out, hCnt.out, hEn.out, x1, hcb, hB.out, hfew, ca, hRow.out, by
          have : heldTo refs held 0 = refs := by funext a; unfold heldTo; simp
          rw [this]; exact hAr.out⟩
        have I0 : CH S root next dead held vs refs nodes w w1 cb vv (.int .i64 0) w2 := ⟨0, Nat.zero_le _, rfl, rfl, hIa⟩
        replace I0 := Lib.hid I0
        have hz1 : w.heap.size < w1.heap.size := (Array.getElem?_eq_some_iff.1 r1).1
        clear hIa hRow hAr
        go_wp2_with fail
        go_loopw [24] (fun i wr => CH S root next dead held vs refs nodes w w1 cb vv i wr) (fun i _ => held.length - (intOf i).toNat)
        case atStart => exact I0.out
        case round =>
          obtain ⟨k, hk, rfl, hok, hI⟩ := hrel.ex
          clear hrel I0
          have xw : Below w.heap.size w wr := Ext.trans hI.x1 hI.below
          by_cases hlt : k < held.length
          · have hlt' := hlt
            obtain ⟨Ah, ch, eh, hch1, hch2, hrh⟩ := hH.out
            simp only [Value.slice.injEq, true_and] at eh
            obtain ⟨rfl, rfl⟩ := eh
            replace hrh := hrh.below xw
            obtain ⟨bh, oh, rfl, hbh, hcelh⟩ := hrh.2 (by omega)
            have dh := hcelh k _ (by rw [List.getElem?_map, List.getElem?_eq_getElem hlt]; rfl)
            have hsn := Lib.hid (heldOk_snoc hlt hok)
            have hbd := Lib.hid (heldOk_bad hlt)
            have hsu := Lib.hid (fun (a : Nat) (ha : held[k] = (a : Int)) => heldTo_succ refs held hlt ha)
            generalize held[k] = r at *
            replace hok := Lib.hid hok
            by_cases hr : 8 ≤ r ∧ r < 256
            · obtain ⟨a, rfl⟩ := Int.eq_ofNat_of_zero_le (show 0 ≤ r by omega)
              have ha2 : a < 256 := by omega
              obtain ⟨ca', hrow, har⟩ := hI.row
              have kc := cells_row hrow
              have fc := frozen_row hrow
              have hcr := har.ref a ha2
              have hc1 : decide ((a : Int) < 8) = false := decide_eq_false (by omega)
              have hc2 : decide ((a : Int) ≥ 256) = false := decide_eq_false (by omega)
              have hw64 : wrap64 ((heldTo refs held k a : Int) + 1) = (heldTo refs held k a : Int) + 1 := IntWalk.wrap64_in _ (by have := hI.ref_few a; have := pool_roots hI.pool; omega)
              have hwk := Lib.hid (IntWalk.wrap64_in ((k : Int) + 1) (by omega))
              have IR : CH S root next dead held vs refs nodes w w1 cb vv (.int .i64 ((k : Int) + 1)) (wr.setCell ⟨cb, 6 + a, none⟩ (.int .i64 ((heldTo refs held k a : Int) + 1))) :=
                ⟨k + 1, hlt', rfl, hsn.out hr, hI.pool, hI.cnt, hI.enough, hI.x1, hI.low, Below.setCell hI.below (p := ⟨cb, 6 + a, none⟩) hI.low _, hI.few, _, row_set hrow (6 + a) _, by rw [hsu.out a rfl]; exact har.addRef ha2⟩
              replace IR := Lib.hid IR
              replace hI := Lib.hid hI
              replace har := Lib.hid har
              generalize heldTo refs held k a = hv at *
              clear hcelh hrh
              go_wp2_with fail
              refine ⟨IR.out, ?_⟩
              simp [intOf]
              omega
            · have HB := Lib.hid (hI.done (b := false) (n := 2) (by rw [hlv.out]; simp only; rw [if_neg (by omega), if_neg (by rw [hbd.out hr]; simp)]))
              have hhr : decide (r < 8) = true ∨ (decide (r < 8) = false ∧ decide (r ≥ 256) = true) := by
                rcases Int.lt_or_le r 8 with h | h
                · exact .inl (decide_eq_true h)
                · exact .inr ⟨decide_eq_false (by omega), decide_eq_true (by omega)⟩
              replace hr := Lib.hid hr
              replace hI := Lib.hid hI
              clear hcelh hrh
              rcases hhr with h1 | ⟨h1, h2⟩
              all_goals
                go_wp2_with fail
                exact counts_ret rfl rfl rfl HB.out
          · obtain rfl : k = held.length := by omega
            rw [List.take_length] at hok
            have pw := (hI.below.block w.heap.size hz1).trans r1
            have hp := pw
            clear pw
            go_wp2_with fail
            go_step3
            generalize hv8 : Value.int IntKind.i64 8 = v8
            obtain ⟨k, rfl, hk8⟩ : ∃ k : Nat, v8 = .int .i64 (k : Int) ∧ k = 8 := ⟨8, hv8.symm, rfl⟩
            have h8 : 8 ≤ k := by omega
            have h256 : k ≤ 256 := by omega
            have heq : ∀ a : Nat, 8 ≤ a → a < k → refs a + held.count (a : Int) = (S.now[a]?.getD 0).toNat := fun a h1 h2 => absurd h2 (by omega)
            clear hk8 hv8
            by_cases hk : k = 256
            · subst hk
              have HB := Lib.hid (hI.done (b := true) (n := 0) (by rw [hlv.out]; simp only; rw [if_neg (by have := hI.few; omega), if_pos hok, countsB_ok heq]))
              have hc : (((256 : Nat) : Int) == 256) = true := rfl
              clear heq hI hS hH hlv
              go_wp2_with fail
              exact counts_ret rfl rfl rfl HB.out
            · have hc : ((k : Int) == 256) = false := by rw [beq_eq_false_iff_ne]; omega
              have hlt : k < 256 := by omega
              have xw : Below w.heap.size w wr := Ext.trans hI.x1 hI.below
              obtain ⟨_, _, hl3, _⟩ := storeMay_len hI.pool.may
              obtain ⟨b3, o3, c3', e3, hb3, hc3⟩ := tab_at (hS.out.below xw).now hl3
              simp only [Value.slice.injEq] at e3
              obtain ⟨rfl, rfl, rfl⟩ := e3
              have d3 := hc3 k hlt
              obtain ⟨ca, hrow, har⟩ := hI.row
              have hcr := har.ref k hlt
              rw [heldTo_all] at hcr
              have hfew := hI.ref_few k
              rw [heldTo_all] at hfew
              have hpr := pool_roots hI.pool
              have hNX : refs k + held.count (k : Int) = (S.now[k]?.getD 0).toNat → CJ S root next dead held w w1 cb (k + 1) wr := fun h => ⟨vs, refs, nodes, vv, by omega, by omega, hok, fun a h1 h2 => by
                by_cases e : a = k
                · subst e; exact h
                · exact heq a h1 (by omega), hI⟩
              have hBAD : ¬ refs k + held.count (k : Int) = (S.now[k]?.getD 0).toNat → CountsQ S root next dead held w (.returned (.tuple #[.bool false, .int .i64 0])) wr := fun h => hI.done (by rw [hlv.out]; simp only; rw [if_neg (by have := hI.few; omega), if_pos hok, countsB_bad h8 hlt h])
              have hq8 : (S.now[k]?.getD 0).toNat < 256 := UInt8.toNat_lt _
              generalize (S.now[k]?.getD 0).toNat = q at *
              generalize refs k + held.count (k : Int) = m at *
              replace hNX := Lib.hid hNX
              replace hBAD := Lib.hid hBAD
              replace hI := Lib.hid hI
              clear heq hc3
              go_wp2_with fail
              have gC : ∀ W, extRel.r wr W → W.cell? ⟨cb, 6 + k, none⟩ = some (.int .i64 (m : Nat)) := fun W h => by rw [cells_row (row_ext hrow h)]; exact hcr
              have gN : ∀ W, extRel.r wr W → W.cell? ⟨b3, o3 + k, none⟩ = some (.int .u8 (q : Nat)) := fun W h => Ext.cell h d3
              have gP : ∀ W, extRel.r wr W → ∀ i, W.cell? ⟨w.heap.size, i, none⟩ = (poolCs (.slice A1 n1 c1) (.slice A2 n2 c2) (.slice (some ⟨b3, o3, none⟩) 256 c3) (.slice A4 n4 c4) gen root next (.slice A5 dead.length c5))[i]? := fun W h => cells_row (row_ext hp h)
              refine region_start (by kernel_rfl) ?_
              refine any_freeT (w := wr) extRel (outsAt []) [true, true, true, true, true, true, true, true, true, true, true] 1 (by kernel_rfl) (by kernel_rfl) (by kernel_rfl) (by kernel_rfl) (by kernel_rfl) (by kernel_rfl) (by kernel_rfl) ?st (Rel.drew _ _) ?walk
              case st => exact outsAt_stableG (fun _ h => by cases h)
              case walk =>
                intro K hK
                dsimp only [maskOps]
                repeat ((first | (refine free_plainM ?_ (by rfl) (by rfl) (fun W hW _ => ⟨W, ?_, Rel.refl _ W⟩) ?_; rotate_left; (first | (go_simp; with_reducible rfl) | (go_simp; done))) | (refine free_skipM (by rfl) ?_)); try simp only [Act.put, one_f, outB_f, outNew_f, outI_f, outNew_f, List.setIfInBounds_toArray, List.set_cons_zero, List.set_cons_succ])
                refine free_plainM (.pointer (some ⟨cb, 6 + k, none⟩)) (by rfl) (by rfl) (fun W hW _ => ⟨W, ?_, Rel.refl _ W⟩) ?_
                · go_simp
                  intro hge
                  exfalso
                  omega
                simp only [Act.put, one_f, outB_f, outNew_f, outI_f, outNew_f, List.setIfInBounds_toArray, List.set_cons_zero, List.set_cons_succ]
                repeat ((first | (refine free_plainM ?_ (by rfl) (by rfl) (fun W hW _ => ⟨W, ?_, Rel.refl _ W⟩) ?_; rotate_left; (first | (go_simp; with_reducible rfl) | (go_simp; done))) | (refine free_skipM (by rfl) ?_)); try simp only [Act.put, one_f, outB_f, outNew_f, outI_f, outNew_f, List.setIfInBounds_toArray, List.set_cons_zero, List.set_cons_succ])
                refine free_plainM (.pointer (some ⟨b3, o3 + k, none⟩)) (by rfl) (by rfl) (fun W hW _ => ⟨W, ?_, Rel.refl _ W⟩) ?_
                · go_simp
                  intro hge
                  exfalso
                  omega
                simp only [Act.put, one_f, outB_f, outNew_f, outI_f, outNew_f, List.setIfInBounds_toArray, List.set_cons_zero, List.set_cons_succ]
                repeat ((first | (refine free_plainM ?_ (by rfl) (by rfl) (fun W hW _ => ⟨W, ?_, Rel.refl _ W⟩) ?_; rotate_left; (first | (go_simp; with_reducible rfl) | (go_simp; done))) | (refine free_skipM (by rfl) ?_)); try simp only [Act.put, one_f, outB_f, outNew_f, outI_f, outNew_f, List.setIfInBounds_toArray, List.set_cons_zero, List.set_cons_succ])
                refine free_nilM (hK _ _ fun W hW hF => ?_)
                have hW' : Ext wr W := hW
                clear hF hK gC gN gP
                have pW := row_ext hp hW'
                dsimp only [List.drop, List.length_cons, List.length_nil]
                by_cases hmq : m = q
                · have hne : ((m : Int) != (q : Int)) = false := by rw [bne_eq_false_iff_eq]; omega
                  have HN := (hNX.out hmq).ext hW'
                  have hwk := IntWalk.wrap64_in ((k : Int) + 1) (by omega)
                  replace hwk := Lib.hid hwk
                  replace HN := Lib.hid HN
                  replace hmq := Lib.hid hmq
                  clear hNX hBAD
                  go_wp2
                  refine QN_in ?_
                  go_wp2_with fail
                  go_step3
                  first
                    | (refine ⟨rfl, ⟨_, cb, k + 1, w1, _, _, _, _, _, _, _, _, _, _, _, _, _, _, _, _, _, _, _, _, _, _, _, _, _, _, _, _, _, _, _, _, _, _, _, _, _, _, _, _, _, _, _, _, _, _, _, _, _, _, _, _, _, _, rfl, pW, HN.out⟩, ?_⟩
                       simp [intOf]
                       omega)
                    | exact ⟨rfl, _, cb, k + 1, w1, _, _, _, _, _, _, _, _, _, _, _, _, _, _, _, _, _, _, _, _, _, _, _, _, _, _, _, _, _, _, _, _, _, _, _, _, _, _, _, _, _, _, _, _, _, _, _, _, _, _, _, _, _, _, rfl, pW, HN.out⟩
                · have hne : ((m : Int) != (q : Int)) = true := by rw [bne_iff_ne]; omega
                  have HB := (hBAD.out hmq).ext hW'
                  replace HB := Lib.hid HB
                  clear hNX hBAD
                  go_wp2
                  refine QN_in ?_
                  go_wp2_with fail
                  exact counts_ret rfl rfl rfl HB.out
      · have hd1 : decide ((held.length : Int) > 1024) = true := decide_eq_true (by omega)
        have HB : CountsQ S root next dead held w (.returned (.tuple #[.bool false, .int .i64 4])) w2 := ⟨x2, .inr ⟨vs, refs, nodes, hPool.out, hCnt.out, hEn.out, by rw [hlv.out]; simp only; rw [if_pos (by omega)]⟩⟩
        replace HB := Lib.hid HB
        go_wp2_with fail
        exact counts_ret rfl rfl rfl HB.out
end Go.Proofs.Ytlgbjpihmkeopaa
/- What each block is: plain words. -/
namespace Go.Proofs.Ytlgbjpihmkeopaa
set_option linter.unusedSimpArgs false
set_option linter.unusedVariables false
open Go.RowKit

def useD (S : Sto) (a : Nat) : Nat := if a < 8 then 0 else if 0 < (S.now[a]?.getD 0).toNat then 4 else if 0 < (S.last[a]?.getD 0).toNat then 2 else 1
def useB (S : Sto) (M : Nat → Bool) (a : Nat) : Nat := if M a = true then 3 else useD S a
def useTo (S : Sto) (k : Nat) (a : Nat) : Nat := if a < k then useD S a else 0
def useAt (S : Sto) (l : List Nat) (a : Nat) : Nat := if a ∈ l then 3 else useD S a
def arrB (f : Nat → Nat) : List Value := (List.range 256).map fun a => Value.int .u8 ((f a : Nat) : Int)
theorem arrB_get (f : Nat → Nat) {k : Nat} (h : k < 256) : (arrB f)[k]? = some (.int .u8 ((f k : Nat) : Int)) := by
  unfold arrB
  rw [List.getElem?_map, List.getElem?_range h]
  rfl
theorem arrB_congr {f g : Nat → Nat} (h : ∀ a, a < 256 → f a = g a) : arrB f = arrB g := by
  unfold arrB
  apply List.map_congr_left
  intro a ha
  rw [h a (List.mem_range.1 ha)]
theorem arrB_set (f : Nat → Nat) {a : Nat} (ha : a < 256) (n : Nat) : (arrB f).toArray.setIfInBounds a (.int .u8 (n : Int)) = (arrB fun b => if b = a then n else f b).toArray := by
  apply Array.ext_getElem?
  intro i
  rw [Array.getElem?_setIfInBounds, List.getElem?_toArray, List.getElem?_toArray]
  by_cases e : a = i
  · subst e
    rw [if_pos rfl, if_pos (by simp [arrB]; exact ha), arrB_get _ ha, if_pos rfl]
  · rw [if_neg e]
    rcases Nat.lt_or_ge i 256 with hi | hi
    · rw [arrB_get _ hi, arrB_get _ hi, if_neg (fun x => e x.symm)]
    · rw [List.getElem?_eq_none (by simp [arrB]; exact hi), List.getElem?_eq_none (by simp [arrB]; exact hi)]
theorem useTo_zero (S : Sto) : arrB (useTo S 8) = arrB fun _ => 0 := arrB_congr fun a _ => by
  unfold useTo useD
  split
  · rfl
  · rfl
theorem useTo_succ (S : Sto) {k : Nat} (hk : k < 256) : arrB (useTo S (k + 1)) = arrB fun b => if b = k then useD S k else useTo S k b := arrB_congr fun a _ => by
  unfold useTo
  by_cases e : a = k
  · subst e; rw [if_pos (by omega), if_pos rfl]
  · rw [if_neg e]
    by_cases h : a < k
    · rw [if_pos (by omega), if_pos h]
    · rw [if_neg (by omega), if_neg h]
theorem useAt_nil (S : Sto) : arrB (useTo S 256) = arrB (useAt S []) := arrB_congr fun a ha => by
  unfold useTo useAt
  rw [if_pos ha, if_neg (by simp)]
theorem useAt_succ (S : Sto) (l : List Nat) {k : Nat} (hk : k < l.length) : arrB (useAt S (l.take (k + 1))) = arrB fun b => if b = l[k] then 3 else useAt S (l.take k) b := arrB_congr fun a _ => by
  unfold useAt
  rw [List.take_succ_eq_append_getElem hk]
  by_cases e : a = l[k]
  · rw [if_pos (List.mem_append_right _ (List.mem_singleton.2 e)), if_pos e]
  · rw [if_neg e]
    by_cases h : a ∈ l.take k
    · rw [if_pos (List.mem_append_left _ h), if_pos h]
    · rw [if_neg (fun x => (List.mem_append.1 x).elim h fun x => e (List.mem_singleton.1 x)), if_neg h]
theorem useAt_all (S : Sto) (nodes : Nat → Nat) : arrB (useAt S (metTo nodes 256)) = arrB (useB S (metB nodes)) := arrB_congr fun a ha => by
  unfold useAt useB metTo metB
  by_cases h : 0 < nodes a
  · rw [if_pos (by simp [ha, h]), if_pos (by simp [h])]
  · rw [if_neg (by simp [h]), if_neg (by simp [h])]
theorem metTo_lt (nodes : Nat → Nat) {k : Nat} (hk : k < (metTo nodes 256).length) : (metTo nodes 256)[k] < 256 := by
  have h : ∀ x ∈ metTo nodes 256, x < 256 := by
    intro x hx
    unfold metTo at hx
    rw [List.mem_filter] at hx
    exact List.mem_range.1 hx.1
  exact h _ (List.getElem_mem hk)
theorem intsV_get (l : List Nat) {k : Nat} (hk : k < l.length) : (intsV l)[k]? = some (.int .i64 (l[k] : Int)) := by unfold intsV; rw [List.getElem?_map, List.getElem?_eq_getElem hk]; rfl
def UsesQ (S : Sto) (root next : Int) (dead : List Int) (w : World) (e : Ending) (w' : World) : Prop := Below w.heap.size w w' ∧
  ((e = .returned (.tuple #[.slice none 0 0, .int .i64 8]) ∧ ∀ vs, PoolB S root next dead vs → ∃ refs nodes, Counted S (rootsN root dead vs) refs nodes ∧ ¬ Enough S refs) ∨
    ∃ vs refs nodes ob, e = .returned (.tuple #[.slice (some ⟨ob, 0, none⟩) 256 256, .int .i64 0]) ∧ w.heap.size ≤ ob ∧ PoolB S root next dead vs ∧ Counted S (rootsN root dead vs) refs nodes ∧ Enough S refs ∧ w'.heap[ob]? = some (.cells (arrB (useB S (metB nodes))).toArray 5 (0, 0)))
end Go.Proofs.Ytlgbjpihmkeopaa
/- Contracts: what each block is. -/
namespace Go.Proofs.Ytlgbjpihmkeopaa
set_option linter.unusedSimpArgs false
set_option linter.unusedVariables false
open Go.RowKit

theorem uses_ret {R : Ending → World → Prop} {a : Act} {W : World} {u v : Value} (h2 : a.tmps[2]?.getD undef = u) (h3 : a.tmps[3]?.getD undef = v) (hd : a.defers = []) (hR : R (.returned (.tuple #[u, v])) W) : bodyPost Try.prog Try.f10 R .ret a W := by
  refine bodyPost_ret (v := .tuple #[u, v]) ?_ hd hR
  simp [results, Try.results10, go_sem, h2, h3]
structure U1 (S : Sto) (w3 : World) (ob : Nat) (i : Value) (wr : World) : Prop where
  ex : ∃ k : Nat, 8 ≤ k ∧ k ≤ 256 ∧ i = .int .i64 (k : Int) ∧ wr.heap[ob]? = some (.cells (arrB (useTo S k)).toArray 5 (0, 0)) ∧ Below ob w3 wr
structure U2 (S : Sto) (l : List Nat) (w3 : World) (ob : Nat) (i : Value) (wr : World) : Prop where
  ex : ∃ k : Nat, k ≤ l.length ∧ i = .int .i64 (k : Int) ∧ wr.heap[ob]? = some (.cells (arrB (useAt S (l.take k))).toArray 5 (0, 0)) ∧ Below ob w3 wr

set_option maxHeartbeats 2000000 in
set_option maxRecDepth 100000 in
theorem uses_any (A1 : Option Addr) (n1 c1 : Nat) (A2 : Option Addr) (n2 c2 : Nat) (A3 : Option Addr) (n3 c3 : Nat) (A4 : Option Addr) (n4 c4 : Nat) (gen root next : Int) (A5 : Option Addr) (c5 : Nat) (S : Sto) (dead : List Int) (w : World)
    (h : StoAt w w.heap.size (.slice A1 n1 c1) (.slice A2 n2 c2) (.slice A3 n3 c3) (.slice A4 n4 c4) S) (hd : Ints w w.heap.size (.slice A5 dead.length c5) dead) :
    Calls Try.prog 10 #[.agg (poolCs (.slice A1 n1 c1) (.slice A2 n2 c2) (.slice A3 n3 c3) (.slice A4 n4 c4) gen root next (.slice A5 dead.length c5))] w (UsesQ S root next dead w) := by
  have HT := Lib.hid (fun W (hx : Ext w W) => nodes_any A1 n1 c1 A2 n2 c2 A3 n3 c3 A4 n4 c4 gen root next A5 c5 S dead W (h.ext hx) (by
    obtain ⟨A, c, e, q1, q2, q3⟩ := hd
    exact ⟨A, c, e, q1, q2, (q3.below hx).more hx.size⟩))
  have HS := Lib.hid h
  clear h hd
  go_enter Try.func10, Try.ntmps10
  go_wp2_with fail
  generalize hw1 : World.alloc w _ = w1
  have x1 : Ext w w1 := by rw [← hw1]; exact Ext.alloc _ _
  have r1 : w1.heap[w.heap.size]? = some (.cells (poolCs (.slice A1 n1 c1) (.slice A2 n2 c2) (.slice A3 n3 c3) (.slice A4 n4 c4) gen root next (.slice A5 dead.length c5)) 32 (0, 0)) := by rw [← hw1]; exact World.alloc_heap_at _ _ _ rfl
  clear hw1
  refine (HT.out w1 x1).mono ?_
  clear HT
  rintro e w2 ⟨hB, hQ⟩
  have x2 : Below w.heap.size w w2 := Ext.trans x1 hB
  have r2 := row_ext r1 hB
  rcases hQ with ⟨rfl, hno⟩ | ⟨vs, refs, nodes, v, lo, rfl, hlo, hp, hc, he, own⟩
  · have HB : UsesQ S root next dead w (.returned (.tuple #[.slice none 0 0, .int .i64 8])) w2 := ⟨x2, .inl ⟨rfl, hno⟩⟩
    replace HB := Lib.hid HB
    clear hno hB
    go_wp2_with fail
    exact uses_ret rfl rfl rfl HB.out
  · obtain ⟨A, c, rfl, hc1, hc2⟩ := own_slice own
    have hrd := Rd.of_own own
    have hmk : ∀ w, (Instr.makeSlice 26 (.int .i64 256) (.int .i64 256)).run Try.prog w = .ok (.slice (some ⟨w.heap.size, 0, none⟩) 256 256) (w.alloc (.cells (arrB fun _ => 0).toArray 5)) := fun _ => by kernel_rfl
    have hl3 : S.now.length = 256 ∧ S.last.length = 256 := ⟨(storeMay_len hp.may).2.2.1, (storeMay_len hp.may).2.2.2⟩
    replace hp := Lib.hid hp
    replace hc := Lib.hid hc
    replace he := Lib.hid he
    replace own := Lib.hid own
    replace hB := Lib.hid hB
    clear hc1 hc2
    go_wp2_with fail
    generalize hw3 : World.alloc w2 _ = w3
    have x3 : Ext w2 w3 := by rw [← hw3]; exact Ext.alloc _ _
    have r3 : w3.heap[w2.heap.size]? = some (.cells (arrB (useTo S 8)).toArray 5 (0, 0)) := by rw [← hw3, useTo_zero]; exact World.alloc_heap_at _ _ _ rfl
    have p3 := row_ext r2 x3
    clear hw3 hmk
    have hx23 := x2.trans (Below.mono x3 x2.size)
    have hob1 : w.heap.size < w2.heap.size := (Array.getElem?_eq_some_iff.1 r2).1
    generalize hob : w2.heap.size = ob at *
    go_loopw [7] (fun i wr => U1 S w3 ob i wr) (fun i _ => 256 - (intOf i).toNat)
    case atStart => exact ⟨8, by omega, by omega, rfl, r3, Below.refl _ _⟩
    case round =>
      obtain ⟨k, hk8, hk, rfl, hr, hx⟩ := hrel.ex
      clear hrel
      have hxr : Below w.heap.size w wr := hx23.trans (Below.mono hx (by omega))
      have pr : wr.heap[w.heap.size]? = _ := (hx.block w.heap.size hob1).trans p3
      have kp := cells_row pr
      by_cases hlt : k < 256
      · have hS := HS.out.below hxr
        obtain ⟨A3', c3', e3, hm3, hm3', hr3⟩ := hS.now
        obtain ⟨A4', c4', e4, hm4, hm4', hr4⟩ := hS.last
        simp only [Value.slice.injEq] at e3 e4
        obtain ⟨rfl, rfl, rfl⟩ := e3
        obtain ⟨rfl, rfl, rfl⟩ := e4
        obtain ⟨b3, o3, rfl, hb3, hc3⟩ := hr3.2 (by omega)
        obtain ⟨b4, o4, rfl, hb4, hc4⟩ := hr4.2 (by omega)
        have d3 := hc3 k _ (by rw [List.getElem?_map, List.getElem?_eq_getElem (by omega)]; rfl)
        have d4 := hc4 k _ (by rw [List.getElem?_map, List.getElem?_eq_getElem (by omega)]; rfl)
        have hu : useD S k = if 0 < (S.now[k]'(by omega)).toNat then 4 else if 0 < (S.last[k]'(by omega)).toNat then 2 else 1 := by
          unfold useD
          rw [if_neg (by omega), List.getElem?_eq_getElem (by omega), List.getElem?_eq_getElem (by omega)]
          rfl
        have hst : ∀ n : Nat, useD S k = n → U1 S w3 ob (.int .i64 ((k : Int) + 1)) (wr.setCell ⟨ob, k, none⟩ (.int .u8 (n : Int))) := fun n hn =>
          ⟨k + 1, by omega, hlt, rfl, by rw [row_set hr k _, arrB_set _ hlt, useTo_succ S hlt, hn], Below.setCell hx (p := ⟨ob, k, none⟩) (Nat.le_refl _) _⟩
        replace hu := Lib.hid hu
        replace hst := Lib.hid hst
        have kr := cells_row hr
        have fr := frozen_row hr
        have hgk := arrB_get (useTo S k) hlt
        rw [← List.getElem?_toArray] at hgk
        generalize hq3 : (S.now[k]'(by omega)).toNat = q3 at *
        generalize hq4 : (S.last[k]'(by omega)).toNat = q4 at *
        have hwk := Lib.hid (IntWalk.wrap64_in ((k : Int) + 1) (by omega))
        clear hc3 hc4 hr3 hr4 kp
        have kp := cells_row pr
        rcases Nat.eq_zero_or_pos q3 with h3 | h3
        · have c31 : decide ((q3 : Int) > 0) = false := decide_eq_false (by omega)
          have c32 : decide (0 < q3) = false := decide_eq_false (by omega)
          rcases Nat.eq_zero_or_pos q4 with h4 | h4
          · have c41 : decide ((q4 : Int) > 0) = false := decide_eq_false (by omega)
            have c42 : decide (0 < q4) = false := decide_eq_false (by omega)
            have IR := Lib.hid (hst.out 1 (by rw [hu.out, if_neg (by omega), if_neg (by omega)]))
            replace h3 := Lib.hid h3
            replace h4 := Lib.hid h4
            go_wp2_with fail
            refine ⟨IR.out, ?_⟩
            simp [intOf]
            omega
          · have c41 : decide ((q4 : Int) > 0) = true := decide_eq_true (by omega)
            have c42 : decide (0 < q4) = true := decide_eq_true (by omega)
            have IR := Lib.hid (hst.out 2 (by rw [hu.out, if_neg (by omega), if_pos (by omega)]))
            replace h3 := Lib.hid h3
            replace h4 := Lib.hid h4
            go_wp2_with fail
            refine ⟨IR.out, ?_⟩
            simp [intOf]
            omega
        · have c31 : decide ((q3 : Int) > 0) = true := decide_eq_true (by omega)
          have c32 : decide (0 < q3) = true := decide_eq_true (by omega)
          have IR := Lib.hid (hst.out 4 (by rw [hu.out, if_pos (by omega)]))
          replace h3 := Lib.hid h3
          go_wp2_with fail
          refine ⟨IR.out, ?_⟩
          simp [intOf]
          omega
      · obtain rfl : k = 256 := by omega
        rw [useAt_nil] at hr
        have ht0 : useAt S ((metTo nodes 256).take 0) = useAt S [] := by rw [List.take_zero]
        rw [← ht0] at hr
        have I2 : U2 S (metTo nodes 256) w3 ob (.int .i64 0) wr := ⟨0, Nat.zero_le _, rfl, hr, hx⟩
        replace I2 := Lib.hid I2
        have hall := Lib.hid (useAt_all S nodes)
        have hml := metTo_len nodes 256
        have HL := Lib.hid (fun (k : Nat) (hk : k < (metTo nodes 256).length) => metTo_lt nodes hk)
        have HG := Lib.hid (fun (k : Nat) (hk : k < (metTo nodes 256).length) => intsV_get (metTo nodes 256) hk)
        have HSU := Lib.hid (fun (k : Nat) (hk : k < (metTo nodes 256).length) => useAt_succ S (metTo nodes 256) hk)
        have HTK := Lib.hid (List.take_length (l := metTo nodes 256))
        clear hr hx pr kp hxr ht0
        generalize metTo nodes 256 = nl at *
        go_wp2_with fail
        go_loopw [50] (fun i wq => U2 S nl w3 ob i wq) (fun i _ => nl.length - (intOf i).toNat)
        case atStart => exact I2.out
        case round =>
          obtain ⟨j, hj, rfl, hr, hx⟩ := hrel.ex
          clear hrel I2
          have hxr : Below w.heap.size w wr := hx23.trans (Below.mono hx (by omega))
          have kr := cells_row hr
          have fr := frozen_row hr
          by_cases hlt2 : j < nl.length
          · have hlt2' := hlt2
            obtain ⟨bn, on, rfl, hbn, hcn⟩ := hrd.2 (by omega)
            have dn := (hx.cell (p := ⟨bn, on + j, none⟩) hbn).trans ((Below.cell x3 (p := ⟨bn, on + j, none⟩) (by rw [hob]; exact hbn)).trans (hcn j _ (HG.out j hlt2)))
            have hl := HL.out j hlt2
            have hsu := Lib.hid (HSU.out j hlt2)
            have hgk := arrB_get (useAt S (nl.take j)) hl
            rw [← List.getElem?_toArray] at hgk
            have hwk := Lib.hid (IntWalk.wrap64_in ((j : Int) + 1) (by omega))
            generalize nl[j] = a at *
            have IR : U2 S nl w3 ob (.int .i64 ((j : Int) + 1)) (wr.setCell ⟨ob, a, none⟩ (.int .u8 (3 : Int))) := ⟨j + 1, hlt2', rfl, by
              rw [hsu.out]
              exact (row_set hr a _).trans (by rw [show (3 : Int) = ((3 : Nat) : Int) from rfl, arrB_set _ hl]), Below.setCell hx (p := ⟨ob, a, none⟩) (Nat.le_refl _) _⟩
            replace IR := Lib.hid IR
            clear hcn
            go_wp2_with fail
            refine ⟨IR.out, ?_⟩
            simp [intOf]
            omega
          · obtain rfl : j = nl.length := by omega
            rw [HTK.out, hall.out] at hr
            have HB : UsesQ S root next dead w (.returned (.tuple #[.slice (some ⟨ob, 0, none⟩) 256 256, .int .i64 0])) wr := ⟨hxr, .inr ⟨vs, refs, nodes, ob, rfl, by omega, hp.out, hc.out, he.out, hr⟩⟩
            replace HB := Lib.hid HB
            go_wp2_with fail
            exact uses_ret rfl rfl rfl HB.out
end Go.Proofs.Ytlgbjpihmkeopaa
/- Contracts: an item's bytes. -/
namespace Go.Proofs.Ytlgbjpihmkeopaa
set_option linter.unusedSimpArgs false
set_option linter.unusedVariables false
open Go.RowKit

set_option maxHeartbeats 4000000 in
set_option maxRecDepth 100000 in
theorem iwrite_any (x : It) (hx : ItOk x) (hb : itB x.r x.val.length = true) (A : Option Addr) (c : Nat) (w : World) (h : Bys w w.heap.size (.slice A x.val.length c) x.val) :
    Calls Try.prog 157 #[itemV x.k x.i x.o x.r A x.val.length c] w (RetS (IsB0 w.heap.size (12 + x.val.length) (itBytes x)) w) := by
  have HC := Lib.hid (fun W => icheck_any x.k x.i x.o x.r A x.val.length c W)
  rw [hb, show errOf true = 0 from rfl] at HC
  obtain ⟨kk, ki, ko, kr, l⟩ := x
  obtain ⟨⟨hk1, hk2⟩, ⟨hi1, hi2⟩, ⟨ho1, ho2⟩, ⟨hr1, hr2⟩, hl⟩ := hx
  dsimp only at *
  clear hb
  obtain ⟨k, rfl⟩ := Int.eq_ofNat_of_zero_le hk1
  obtain ⟨i, rfl⟩ := Int.eq_ofNat_of_zero_le hi1
  obtain ⟨o, rfl⟩ := Int.eq_ofNat_of_zero_le ho1
  obtain ⟨r, rfl⟩ := Int.eq_ofNat_of_zero_le hr1
  have HB : Hid (itBytes ⟨k, i, o, r, l⟩ = [[UInt8.ofNat k], bytesOf i 4, bytesOf o 4, bytesOf r 2, [UInt8.ofNat l.length], l].flatten) := by
    refine Lib.hid ?_
    simp [itBytes]
  have hkb : bv (UInt8.ofNat k) = .int .u8 (k : Int) := by simp [bv]; omega
  have hlb : bv (UInt8.ofNat l.length) = .int .u8 ((l.length : Nat) : Int) := by simp [bv]; omega
  have HL : Hid ([[UInt8.ofNat k], bytesOf i 4, bytesOf o 4, bytesOf r 2, [UInt8.ofNat l.length], l].flatten.length = 12 + l.length) := by
    refine Lib.hid ?_
    simp [bytesOf_len]
    omega
  have hcv : IntKind.u8.wrap ((l.length : Nat) : Int) = ((l.length : Nat) : Int) := by simp [IntKind.wrap, IntKind.bits, IntKind.signed]; omega
  replace hkb := Lib.hid hkb
  replace hlb := Lib.hid hlb
  replace h := Lib.hid h
  rw [HB.out]
  clear HB
  generalize hFL : [[UInt8.ofNat k], bytesOf i 4, bytesOf o 4, bytesOf r 2, [UInt8.ofNat l.length], l] = FL at *
  go_enter Try.func157, Try.ntmps157
  go_wp2_with fail
  generalize hw1 : World.alloc w _ = w1
  have x1 : Ext w w1 := by rw [← hw1]; exact Ext.alloc _ _
  have r1 : w1.heap[w.heap.size]? = some (.cells #[.int .u8 k, .int .u32 i, .int .u32 o, .int .i64 r, .slice A l.length c] 151 (0, 0)) := by rw [← hw1]; exact World.alloc_heap_at _ _ _ rfl
  clear hw1
  refine (HC.out w1).mono ?_
  rintro e w2 ⟨rfl, hB⟩
  have x2 : Ext w w2 := Ext.trans x1 hB
  have r2 := row_ext r1 hB
  have k2 := cells_row r2
  clear hB r1 x1 HC
  go_wp2_with fail
  refine (two_any r (by omega) _).mono ?_
  rintro e w3 ⟨u, rfl, ⟨u2, rfl, A2, c2, rfl, hb2, hf2⟩, hB⟩
  have x3 : Ext w w3 := Ext.trans x2 hB
  have r3 := row_ext r2 hB
  have z3 := x2.size
  clear hB k2 r2 x2
  go_wp2_with fail
  have hE : ∀ W, Ext w3 W → ∀ j, W.cell? ⟨w.heap.size, j, none⟩ = #[.int .u8 k, .int .u32 i, .int .u32 o, .int .i64 r, .slice A l.length c][j]? := fun W h => cells_row (row_ext r3 h)
  refine wp_region_free (outsAt [(3, outLit w3.heap.size 1 5 #[.int .u8 k]), (7, outB w3.heap.size 4 (bytesOf i 4)), (11, outB w3.heap.size 4 (bytesOf o 4)), (17, outLit w3.heap.size 1 5 #[.int .u8 (l.length : Nat)]), (20, outLitS w3.heap.size 6 26 (Reads FL)), (21, outB w3.heap.size (12 + l.length) FL.flatten)]) 22 (by kernel_rfl) (by kernel_rfl) (by kernel_rfl) (by decide) (by kernel_rfl) (by kernel_rfl) ?st ?walk
  case st => exact outsAt_stable (by simp only [List.forall_mem_cons]; exact ⟨outLit_stable _ _ _ _, outB_stable _ _ _, outB_stable _ _ _, outLit_stable _ _ _ _, outLitS_stable (Reads.stable _), outB_stable _ _ _, fun _ h => by cases h⟩)
  case walk =>
    intro K hK
    dsimp only [List.take]
    repeat ((first | (refine free_plain ?_ (by rfl) (by rfl) (fun W hW _ => ⟨W, ?_, Ext.refl W⟩) ?_; rotate_left; (first | (go_simp; with_reducible rfl) | (go_simp; done))) | (refine free_skip (by rfl) ?_)); try simp only [Act.put, one_f, outB_f, outNew_f, outI_f, outLit_f, outLitS_f, outB_f, List.setIfInBounds_toArray, List.set_cons_zero, List.set_cons_succ])
    refine free_hard (outLit w3.heap.size 1 5 #[.int .u8 k]) (by rfl) (by rfl) (fun W hW _ => ?_) (fun (p3 : Nat) => ?_)
    · refine hardAt_lit ?_ hW.size
      go_simp
    simp only [Act.put, one_f, outB_f, outNew_f, outI_f, outLit_f, outLitS_f, outB_f, List.setIfInBounds_toArray, List.set_cons_zero, List.set_cons_succ]
    repeat ((first | (refine free_plain ?_ (by rfl) (by rfl) (fun W hW _ => ⟨W, ?_, Ext.refl W⟩) ?_; rotate_left; (first | (go_simp; with_reducible rfl) | (go_simp; done))) | (refine free_skip (by rfl) ?_)); try simp only [Act.put, one_f, outB_f, outNew_f, outI_f, outLit_f, outLitS_f, outB_f, List.setIfInBounds_toArray, List.set_cons_zero, List.set_cons_succ])
    refine free_hard (outB w3.heap.size 4 (bytesOf i 4)) (by rfl) (by rfl) (fun W hW _ => ?_) (fun p7 => ?_)
    · refine hardAt_call ?_ ((four_any i (by omega) W).mono fun e w' h => ?_)
      · go_simp
      obtain ⟨u, rfl, ⟨A, c, rfl, h1, h2⟩, h3⟩ := h
      exact ⟨(A, c), rfl, ⟨h1, h2.mono hW.size⟩, h3⟩
    obtain ⟨A7, c7⟩ := p7
    simp only [Act.put, one_f, outB_f, outNew_f, outI_f, outLit_f, outLitS_f, outB_f, List.setIfInBounds_toArray, List.set_cons_zero, List.set_cons_succ]
    repeat ((first | (refine free_plain ?_ (by rfl) (by rfl) (fun W hW _ => ⟨W, ?_, Ext.refl W⟩) ?_; rotate_left; (first | (go_simp; with_reducible rfl) | (go_simp; done))) | (refine free_skip (by rfl) ?_)); try simp only [Act.put, one_f, outB_f, outNew_f, outI_f, outLit_f, outLitS_f, outB_f, List.setIfInBounds_toArray, List.set_cons_zero, List.set_cons_succ])
    refine free_hard (outB w3.heap.size 4 (bytesOf o 4)) (by rfl) (by rfl) (fun W hW _ => ?_) (fun p11 => ?_)
    · refine hardAt_call ?_ ((four_any o (by omega) W).mono fun e w' h => ?_)
      · go_simp
      obtain ⟨u, rfl, ⟨A, c, rfl, h1, h2⟩, h3⟩ := h
      exact ⟨(A, c), rfl, ⟨h1, h2.mono hW.size⟩, h3⟩
    obtain ⟨A11, c11⟩ := p11
    simp only [Act.put, one_f, outB_f, outNew_f, outI_f, outLit_f, outLitS_f, outB_f, List.setIfInBounds_toArray, List.set_cons_zero, List.set_cons_succ]
    repeat ((first | (refine free_plain ?_ (by rfl) (by rfl) (fun W hW _ => ⟨W, ?_, Ext.refl W⟩) ?_; rotate_left; (first | (go_simp; with_reducible rfl) | (go_simp; done))) | (refine free_skip (by rfl) ?_)); try simp only [Act.put, one_f, outB_f, outNew_f, outI_f, outLit_f, outLitS_f, outB_f, List.setIfInBounds_toArray, List.set_cons_zero, List.set_cons_succ])
    refine free_hard (outLit w3.heap.size 1 5 #[.int .u8 (l.length : Nat)]) (by rfl) (by rfl) (fun W hW _ => ?_) (fun (p17 : Nat) => ?_)
    · refine hardAt_lit ?_ hW.size
      go_simp
    simp only [Act.put, one_f, outB_f, outNew_f, outI_f, outLit_f, outLitS_f, outB_f, List.setIfInBounds_toArray, List.set_cons_zero, List.set_cons_succ]
    repeat ((first | (refine free_plain ?_ (by rfl) (by rfl) (fun W hW _ => ⟨W, ?_, Ext.refl W⟩) ?_; rotate_left; (first | (go_simp; with_reducible rfl) | (go_simp; done))) | (refine free_skip (by rfl) ?_)); try simp only [Act.put, one_f, outB_f, outNew_f, outI_f, outLit_f, outLitS_f, outB_f, List.setIfInBounds_toArray, List.set_cons_zero, List.set_cons_succ])
    refine free_hard (outLitS w3.heap.size 6 26 (Reads FL)) (by rfl) (by rfl) (fun W hW hp => ?_) (fun (p20 : Nat) => ?_)
    · obtain ⟨f3, _⟩ : W.heap[p3]? = some (.cells #[.int .u8 k] 5 (0, 0)) ∧ w3.heap.size ≤ p3 := (hp 3 (by decide)).1
      obtain ⟨f7, _⟩ : Bys W W.heap.size (.slice A7 4 c7) (bytesOf i 4) ∧ _ := (hp 7 (by decide)).1
      obtain ⟨f11, _⟩ : Bys W W.heap.size (.slice A11 4 c11) (bytesOf o 4) ∧ _ := (hp 11 (by decide)).1
      obtain ⟨f17, _⟩ : W.heap[p17]? = some (.cells #[.int .u8 (l.length : Nat)] 5 (0, 0)) ∧ w3.heap.size ≤ p17 := (hp 17 (by decide)).1
      have hR : Reads FL [.slice (some ⟨p3, 0, none⟩) 1 1, .slice A7 4 c7, .slice A11 4 c11, .slice A2 2 c2, .slice (some ⟨p17, 0, none⟩) 1 1, .slice A l.length c] W := by
        subst hFL
        rw [← hkb.out] at f3
        rw [← hlb.out] at f17
        refine ⟨rfl, fun j v m hv hl => ?_⟩
        rcases j with _ | _ | _ | _ | _ | _ | j
        · cases hv; cases hl; exact Bys.lit (l := [UInt8.ofNat k]) f3 (by simp [maxLen])
        · cases hv; cases hl; exact f7
        · cases hv; cases hl; exact f11
        · cases hv; cases hl; exact (hb2.below hW).more hW.size
        · cases hv; cases hl; exact Bys.lit (l := [UInt8.ofNat l.length]) f17 (by simp [maxLen])
        · cases hv; cases hl; exact (h.out.below (Ext.trans x3 hW)).more (Ext.trans x3 hW).size
        · simp at hv
      refine hardAt_litS (cs := #[.slice (some ⟨p3, 0, none⟩) 1 1, .slice A7 4 c7, .slice A11 4 c11, .slice A2 2 c2, .slice (some ⟨p17, 0, none⟩) 1 1, .slice A l.length c]) ?_ hW.size rfl ?_
      · go_simp
      · exact Reads.stable _ _ _ _ (Ext.alloc _ _) hR
    simp only [Act.put, one_f, outB_f, outNew_f, outI_f, outLit_f, outLitS_f, outB_f, List.setIfInBounds_toArray, List.set_cons_zero, List.set_cons_succ]
    refine free_hard (outB w3.heap.size (12 + l.length) FL.flatten) (by rfl) (by rfl) (fun W hW hp => ?_) (fun p21 => ?_)
    · obtain ⟨_, cs, hcs, hrow, hR⟩ := (hp 20 (by decide)).1
      have hFn : FL.length = 6 := by rw [← hFL]; rfl
      refine hardAt_call ?_ ((concat8_any (some ⟨p20, 0, none⟩) 6 6 cs.toList FL (by simpa using hcs) hFn W (Rd.row hrow 6 hcs) (fun i v l h1 h2 => hR.2 i v l h1 h2) (by omega) (by rw [HL.out]; omega)).mono fun e w' h => ?_)
      · go_simp
      rw [HL.out] at h
      exact outB_of_own h hW.size
    obtain ⟨A21, c21⟩ := p21
    simp only [Act.put, one_f, outB_f, outNew_f, outI_f, outLit_f, outLitS_f, outB_f, List.setIfInBounds_toArray, List.set_cons_zero, List.set_cons_succ]
    repeat ((first | (refine free_plain ?_ (by rfl) (by rfl) (fun W hW _ => ⟨W, ?_, Ext.refl W⟩) ?_; rotate_left; (first | (go_simp; with_reducible rfl) | (go_simp; done))) | (refine free_skip (by rfl) ?_)); try simp only [Act.put, one_f, outB_f, outNew_f, outI_f, outLit_f, outLitS_f, outB_f, List.setIfInBounds_toArray, List.set_cons_zero, List.set_cons_succ])
    refine free_nil (hK _ _ fun W hW hF => ?_)
    obtain ⟨f21, g21⟩ : Bys W W.heap.size (.slice A21 (12 + l.length) c21) FL.flatten ∧ From w3.heap.size (.slice A21 (12 + l.length) c21) := (hF 21).1
    clear hF hK hE
    have x4 : Ext w W := x3.trans hW
    dsimp only [List.drop]
    go_wp2
    refine bodyPost_ret (v := .tuple #[.slice A21 (12 + l.length) c21, .int .i64 0]) (by simp [results, Try.results157, go_sem]) rfl ⟨_, rfl, ⟨_, rfl, A21, c21, rfl, f21, g21.mono (by have := x3.size; omega)⟩, x4⟩
end Go.Proofs.Ytlgbjpihmkeopaa
/- Contracts: a block sealed. -/
namespace Go.Proofs.Ytlgbjpihmkeopaa
set_option linter.unusedSimpArgs false
set_option linter.unusedVariables false
open Go.RowKit

def sealB (b : List UInt8) : List UInt8 := bytesOf (crc (padB 124 b)) 4 ++ padB 124 b
theorem sealB_len {b : List UInt8} (h : b.length ≤ 124) : (sealB b).length = 128 := by unfold sealB; rw [List.length_append, bytesOf_len, padB_len h]

set_option maxHeartbeats 2000000 in
set_option maxRecDepth 100000 in
theorem seal_any (A : Option Addr) (c : Nat) (b : List UInt8) (hl : b.length ≤ 124) (w : World) (h : Bys w w.heap.size (.slice A b.length c) b) :
    Calls Try.prog 120 #[.slice A b.length c] w (RetS (IsB0 w.heap.size 128 (sealB b)) w) := by
  have hmk : ∀ w, (Instr.makeSlice 26 (.int .i64 124) (.int .i64 124)).run Try.prog w = .ok (.slice (some ⟨w.heap.size, 0, none⟩) 124 124) (w.alloc (.cells ((List.replicate 124 (0 : UInt8)).map bv).toArray 5)) := fun _ => by kernel_rfl
  have hsz : (Try.prog.info? 5).map (·.size) = some 1 := by kernel_rfl
  have hcr : crc (padB 124 b) < 4294967296 := crc_lt _
  have hd : decide ((b.length : Int) > 124) = false := decide_eq_false (by omega)
  replace h := Lib.hid h
  go_enter Try.func120, Try.ntmps120
  go_wp2_with fail
  generalize hw1 : World.alloc w _ = w1
  have x1 : Ext w w1 := by rw [← hw1]; exact Ext.alloc _ _
  have r1 : w1.heap[w.heap.size]? = some (.cells ((List.replicate 124 (0 : UInt8)).map bv).toArray 5 (0, 0)) := by rw [← hw1]; exact World.alloc_heap_at _ _ _ rfl
  clear hw1 hmk
  have hcp := run_copy_bys (P := Try.prog) w1 26 26 3 5 w.heap.size 0 124 124 A c b _ _ Try.underlying26 hsz r1 (h.out.below x1) hl (by simp; omega)
  rw [hcp]
  clear hcp
  have r2 := setRow_heap w1 w.heap.size _ (List.take 0 (List.map bv (List.replicate 124 0)).toArray.toList ++ List.map bv b ++ List.drop (0 + b.length) (List.map bv (List.replicate 124 0)).toArray.toList).toArray _ _ r1
  have x2 : Below w.heap.size w (w1.setRow w.heap.size (List.take 0 (List.map bv (List.replicate 124 0)).toArray.toList ++ List.map bv b ++ List.drop (0 + b.length) (List.map bv (List.replicate 124 0)).toArray.toList).toArray) :=
    Below.grown x1 (setRow_grown _ _ _) x1.size (fun g e => by cases e; exact Nat.le_refl _)
  generalize hw2 : w1.setRow w.heap.size (List.take 0 (List.map bv (List.replicate 124 0)).toArray.toList ++ List.map bv b ++ List.drop (0 + b.length) (List.map bv (List.replicate 124 0)).toArray.toList).toArray = w2 at *
  rw [pad_row] at r2
  have hp : ∀ W, Ext w2 W → Bys W W.heap.size (.slice (some ⟨w.heap.size, 0, none⟩) 124 124) (padB 124 b) := fun W hW => by
    refine ⟨_, 124, by rw [padB_len hl], Nat.le_of_eq (padB_len hl), by unfold maxLen; omega, by rw [padB_len hl]; simp [padB_len hl], fun _ => ⟨w.heap.size, 0, rfl, ?_, fun j u hu => ?_⟩⟩
    · have := (Array.getElem?_eq_some_iff.1 (row_ext r2 hW)).1
      omega
    · rw [Nat.zero_add, cells_row (row_ext r2 hW)]
      simpa using hu
  clear hw2 r1 x1
  have HO := Lib.hid (fun W (hW : Ext w2 W) => sumof_any _ (padB 124 b) W (hp W hW) (by rw [padB_len hl]; omega))
  replace hp := Lib.hid hp
  replace r2 := Lib.hid r2
  have hcn : ((crc (padB 124 b) : Nat) : Int) < 4294967296 := by omega
  go_wp2_with fail
  refine (HO.out _ (Ext.refl _)).mono ?_
  rintro e w3 ⟨rfl, hB3⟩
  have x3 : Ext w2 w3 := hB3
  clear hB3
  have HF := Lib.hid (four_any (crc (padB 124 b)) hcr w3)
  go_wp2_with fail
  refine HF.out.mono ?_
  rintro e w4 ⟨u4, rfl, ⟨A4, c4, rfl, hu4, hf4⟩, hB4⟩
  have x4 : Ext w2 w4 := x3.trans hB4
  clear HF hB4
  go_wp2_with fail
  generalize hw5 : World.alloc w4 _ = w5
  have x45 : Ext w4 w5 := by rw [← hw5]; exact Ext.alloc _ _
  have r5 : w5.heap[w4.heap.size]? = some (.cells #[.slice A4 4 c4, .slice (some ⟨w.heap.size, 0, none⟩) 124 124] 26 (0, 0)) := by rw [← hw5]; exact World.alloc_heap_at _ _ _ rfl
  clear hw5
  have x5 := x4.trans x45
  have hfl : [bytesOf (crc (padB 124 b)) 4, padB 124 b].flatten = sealB b := by simp [sealB]
  have HC := concat8_any (some ⟨w4.heap.size, 0, none⟩) 2 2 [.slice A4 4 c4, .slice (some ⟨w.heap.size, 0, none⟩) 124 124] [bytesOf (crc (padB 124 b)) 4, padB 124 b] rfl rfl w5 ⟨rfl, fun _ => ⟨w4.heap.size, 0, rfl, (Array.getElem?_eq_some_iff.1 r5).1, fun j u hu => by rw [Nat.zero_add, cells_row r5]; simpa using hu⟩⟩
    (fun i v l hv hl' => by
      rcases i with _ | _ | i
      · cases hv; cases hl'; exact (hu4.below x45).more x45.size
      · cases hv; cases hl'; exact hp.out w5 x5
      · simp at hv) (by omega) (by rw [hfl, sealB_len hl]; omega)
  rw [hfl, sealB_len hl] at HC
  replace HC := Lib.hid HC
  replace hu4 := Lib.hid hu4
  go_wp2_with fail
  refine HC.out.mono ?_
  rintro e w6 ⟨u6, rfl, hown, hB6⟩
  have x6 : Below w.heap.size w w6 := x2.trans (Below.mono (Ext.trans x5 hB6) x2.size)
  have HI := Lib.hid ((IsB.of_own hown))
  go_wp2_with fail
  refine bodyPost_ret (v := .tuple #[u6, .int .i64 0]) (by simp [results, Try.results120, go_sem]) rfl ⟨_, rfl, ⟨u6, rfl, ?_⟩, x6⟩
  obtain ⟨A', c', h1, h2, h3⟩ := HI.out
  exact ⟨A', c', h1, h2, h3.mono (by have := x2.size; have := x5.size; omega)⟩
end Go.Proofs.Ytlgbjpihmkeopaa
