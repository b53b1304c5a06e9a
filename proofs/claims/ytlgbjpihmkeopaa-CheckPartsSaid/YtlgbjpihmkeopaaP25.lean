/- Texts Counts, AliveW, Alive, Big, Big2, joined. -/
import Derived.WalkMore
import Derived.ScopeJumps
import Derived.Test.YtlgbjpihmkeopaaP07
import Derived.Test.YtlgbjpihmkeopaaP11
import Derived.Test.YtlgbjpihmkeopaaP14
import Derived.Test.YtlgbjpihmkeopaaP18
import Derived.Test.YtlgbjpihmkeopaaP23
import Derived.Test.YtlgbjpihmkeopaaP24
/- Contracts: is each block counted? -/
namespace Go.Proofs.Ytlgbjpihmkeopaa
set_option linter.unusedSimpArgs false
set_option linter.unusedVariables false
open Go.RowKit

def CountsQ (S : Sto) (root next : Int) (dead held : List Int) (w : World) (e : Ending) (w' : World) : Prop := Below w.heap.size w w' ∧
  ((e = .returned (.tuple #[.bool false, .int .i64 8]) ∧ ∀ vs, PoolB S root next dead vs → ∃ refs nodes, Counted S (rootsN root dead vs) refs nodes ∧ ¬ Enough S refs) ∨
    ∃ vs refs nodes, PoolB S root next dead vs ∧ Counted S (rootsN root dead vs) refs nodes ∧ Enough S refs ∧ e = .returned (.tuple #[.bool (countsV S refs held).1, .int .i64 (countsV S refs held).2]))
structure CI (S : Sto) (root next : Int) (dead held : List Int) (vs : List Vol) (refs nodes : Nat → Nat) (w w1 : World) (cb : Nat) (vv : Value) (k : Nat) (wr : World) : Prop where
  pool : PoolB S root next dead vs
  cnt : Counted S (rootsN root dead vs) refs nodes
  enough : Enough S refs
  x1 : Ext w w1
  low : w1.heap.size ≤ cb
  below : Below w1.heap.size w1 wr
  few : held.length ≤ 1024
  row : ∃ ca, wr.heap[cb]? = some (.cells ca 97 (0, 0)) ∧ Ar ca (heldTo refs held k) nodes vv
structure CH (S : Sto) (root next : Int) (dead held : List Int) (vs : List Vol) (refs nodes : Nat → Nat) (w w1 : World) (cb : Nat) (vv : Value) (i : Value) (wr : World) : Prop where
  ex : ∃ k : Nat, k ≤ held.length ∧ i = .int .i64 (k : Int) ∧ heldOk (held.take k) = true ∧ CI S root next dead held vs refs nodes w w1 cb vv k wr
structure CJ (S : Sto) (root next : Int) (dead held : List Int) (w w1 : World) (cb k : Nat) (wr : World) : Prop where
  ex : ∃ vs refs nodes vv, 8 ≤ k ∧ k ≤ 256 ∧ heldOk held = true ∧ (∀ a, 8 ≤ a → a < k → refs a + held.count (a : Int) = (S.now[a]?.getD 0).toNat) ∧ CI S root next dead held vs refs nodes w w1 cb vv held.length wr
theorem counts_ret {R : Ending → World → Prop} {a : Act} {W : World} {u v : Value} (h2 : a.tmps[4]?.getD undef = u) (h3 : a.tmps[5]?.getD undef = v) (hd : a.defers = []) (hR : R (.returned (.tuple #[u, v])) W) : bodyPost Try.prog Try.f8 R .ret a W := by
  refine bodyPost_ret (v := .tuple #[u, v]) ?_ hd hR
  simp [results, Try.results8, go_sem, h2, h3]
theorem heldTo_all (refs : Nat → Nat) (held : List Int) (a : Nat) : heldTo refs held held.length a = refs a + held.count (a : Int) := by unfold heldTo; rw [List.take_length]
theorem heldOk_snoc {held : List Int} {k : Nat} (hk : k < held.length) (h : heldOk (held.take k) = true) (ha : 8 ≤ held[k] ∧ held[k] < 256) : heldOk (held.take (k + 1)) = true := by
  unfold heldOk at *
  rw [all_take _ _ _ hk, h, decide_eq_true ha]
  rfl
theorem countsB_bad {S : Sto} {refs : Nat → Nat} {held : List Int} {a : Nat} (h8 : 8 ≤ a) (h2 : a < 256) (h : refs a + held.count (a : Int) ≠ (S.now[a]?.getD 0).toNat) : countsB S refs held = false := by
  unfold countsB
  rw [List.all_eq_false]
  exact ⟨a, List.mem_range.2 h2, by rw [decide_eq_false (by omega), decide_eq_false h]; simp⟩
theorem countsB_ok {S : Sto} {refs : Nat → Nat} {held : List Int} (h : ∀ a, 8 ≤ a → a < 256 → refs a + held.count (a : Int) = (S.now[a]?.getD 0).toNat) : countsB S refs held = true := by
  unfold countsB
  rw [List.all_eq_true]
  intro a ha
  rcases Nat.lt_or_ge a 8 with h8 | h8
  · rw [decide_eq_true h8]; rfl
  · rw [decide_eq_true (h a h8 (List.mem_range.1 ha)), Bool.or_true]
theorem CI.done {S : Sto} {root next : Int} {dead held : List Int} {vs : List Vol} {refs nodes : Nat → Nat} {w w1 wr : World} {cb : Nat} {vv : Value} {k : Nat} (h : CI S root next dead held vs refs nodes w w1 cb vv k wr) {b : Bool} {n : Int} (hv : countsV S refs held = (b, n)) :
    CountsQ S root next dead held w (.returned (.tuple #[.bool b, .int .i64 n])) wr :=
  ⟨Ext.trans h.x1 h.below, .inr ⟨vs, refs, nodes, h.pool, h.cnt, h.enough, by rw [hv]⟩⟩
theorem CI.ref_few {S : Sto} {root next : Int} {dead held : List Int} {vs : List Vol} {refs nodes : Nat → Nat} {w w1 wr : World} {cb : Nat} {vv : Value} {k : Nat} (h : CI S root next dead held vs refs nodes w w1 cb vv k wr) (a : Nat) : heldTo refs held k a ≤ (rootsN root dead vs).length + 1280 + 1024 := by
  have h1 := refs_few (Marked.walk.1 h.cnt.mkd) a
  have h2 := List.count_le_length (a := (a : Int)) (l := held.take k)
  have h3 : (held.take k).length ≤ held.length := by rw [List.length_take]; omega
  have h4 := h.few
  unfold heldTo
  omega
theorem CI.ext {S : Sto} {root next : Int} {dead held : List Int} {vs : List Vol} {refs nodes : Nat → Nat} {w w1 wr W : World} {cb : Nat} {vv : Value} {k : Nat} (h : CI S root next dead held vs refs nodes w w1 cb vv k wr) (hx : Ext wr W) : CI S root next dead held vs refs nodes w w1 cb vv k W :=
  ⟨h.pool, h.cnt, h.enough, h.x1, h.low, h.below.trans (Below.mono hx h.below.size), h.few, by obtain ⟨ca, h1, h2⟩ := h.row; exact ⟨ca, row_ext h1 hx, h2⟩⟩
theorem CJ.ext {S : Sto} {root next : Int} {dead held : List Int} {w w1 wr W : World} {cb k : Nat} (h : CJ S root next dead held w w1 cb k wr) (hx : Ext wr W) : CJ S root next dead held w w1 cb k W := by
  obtain ⟨vs, refs, nodes, vv, h1, h2, h3, h4, h5⟩ := h.ex
  exact ⟨vs, refs, nodes, vv, h1, h2, h3, h4, h5.ext hx⟩
theorem CountsQ.ext {S : Sto} {root next : Int} {dead held : List Int} {w wr W : World} {e : Ending} (h : CountsQ S root next dead held w e wr) (hx : Ext wr W) : CountsQ S root next dead held w e W :=
  ⟨h.1.trans (Below.mono hx h.1.size), h.2⟩
theorem pool_roots {S : Sto} {root next : Int} {dead : List Int} {vs : List Vol} (h : PoolB S root next dead vs) : (rootsN root dead vs).length ≤ 57 := by
  have h1 := h.few
  have h2 : vs.length ≤ 16 := by
    have h3 := h.vols
    unfold volsOf at h3
    split at h3
    · cases h3
    · exact volsGo_len _ _ _ _ (by simp) h3
  unfold rootsN rootsOf
  simp
  omega

set_option maxHeartbeats 4000000 in
set_option maxRecDepth 100000 in
theorem counts_any (A1 : Option Addr) (n1 c1 : Nat) (A2 : Option Addr) (n2 c2 : Nat) (A3 : Option Addr) (n3 c3 : Nat) (A4 : Option Addr) (n4 c4 : Nat) (gen root next : Int) (A5 : Option Addr) (c5 : Nat) (S : Sto) (dead : List Int) (A6 : Option Addr) (c6 : Nat) (held : List Int) (w : World)
    (h : StoAt w w.heap.size (.slice A1 n1 c1) (.slice A2 n2 c2) (.slice A3 n3 c3) (.slice A4 n4 c4) S) (hd : Ints w w.heap.size (.slice A5 dead.length c5) dead) (hh : Ints w w.heap.size (.slice A6 held.length c6) held) :
    Calls Try.prog 8 #[.agg (poolCs (.slice A1 n1 c1) (.slice A2 n2 c2) (.slice A3 n3 c3) (.slice A4 n4 c4) gen root next (.slice A5 dead.length c5)), .slice A6 held.length c6] w (CountsQ S root next dead held w) := by
  have HT := Lib.hid (fun W (hx : Ext w W) => refs_any A1 n1 c1 A2 n2 c2 A3 n3 c3 A4 n4 c4 gen root next A5 c5 S dead W (h.ext hx) (by
    obtain ⟨A, c, e, q1, q2, q3⟩ := hd
    exact ⟨A, c, e, q1, q2, (q3.below hx).more hx.size⟩))
  have hS := Lib.hid h
  have hH := Lib.hid hh
  clear h hd hh
  have hlv : Hid (countsV S = fun refs held => if 1024 < held.length then (false, 4) else if heldOk held = true then (countsB S refs held, 0) else (false, 2)) := Lib.hid rfl
  go_enter Try.func8, Try.ntmps8
  go_wp2_with fail
  refine wp_scope_jumps 0 (fun a' w' => ∃ (pb cb k : Nat) (w1 : World) (u0 u1 u3 u4 u5 u7 u8 u9 u11 u12 u13 u14 u15 u16 u17 u18 u19 u20 u21 u22 u23 u24 u25 u26 u27 u28 u29 u30 u31 u32 u33 u34 u35 u36 u37 u38 u39 u40 u41 u42 u43 u44 u45 u46 u47 u48 u49 u50 u51 u52 u53 u54 u55 u56 : Value), a' = { tmps := #[u0, u1, .pointer (some ⟨pb, 0, none⟩), u3, u4, u5, .slice (some ⟨cb, 6, none⟩) 256 256, u7, u8, u9, .int .i64 (k : Int), u11, u12, u13, u14, u15, u16, u17, u18, u19, u20, u21, u22, u23, u24, u25, u26, u27, u28, u29, u30, u31, u32, u33, u34, u35, u36, u37, u38, u39, u40, u41, u42, u43, u44, u45, u46, u47, u48, u49, u50, u51, u52, u53, u54, u55, u56], defers := [] } ∧ w'.heap[pb]? = some (.cells (poolCs (.slice A1 n1 c1) (.slice A2 n2 c2) (.slice A3 n3 c3) (.slice A4 n4 c4) gen root next (.slice A5 dead.length c5)) 32 (0, 0)) ∧ CJ S root next dead held w w1 cb k w') (fun a' _ => 256 - (intOf (a'.tmps.getD 10 undef)).toNat) rfl ?first ?pass
  case pass =>
    rintro a' w' ⟨pb, cb, k, w1, u0, u1, u3, u4, u5, u7, u8, u9, u11, u12, u13, u14, u15, u16, u17, u18, u19, u20, u21, u22, u23, u24, u25, u26, u27, u28, u29, u30, u31, u32, u33, u34, u35, u36, u37, u38, u39, u40, u41, u42, u43, u44, u45, u46, u47, u48, u49, u50, u51, u52, u53, u54, u55, u56, rfl, hp, hJ⟩
    obtain ⟨vs, refs, nodes, vv, h8, h256, hok, heq, hI⟩ := hJ.ex
    clear hJ HT
    by_cases hk : k = 256
    · subst hk
      have HB := Lib.hid (hI.done (b := true) (n := 0) (by rw [hlv.out]; simp only; rw [if_neg (by have := hI.few; omega), if_pos hok, countsB_ok heq]))
      have hc : (((256 : Nat) : Int) == 256) = true := rfl
      clear heq hI hS hH hlv
      go_wp2_with fail
      exact counts_ret rfl rfl rfl HB.out
    · have hc : ((k : Int) == 256) = false := by rw [beq_eq_false_iff_ne]; omega
      have hlt : k < 256 := by omega
      have xw : Below w.heap.size w w' := Ext.trans hI.x1 hI.below
      obtain ⟨_, _, hl3, _⟩ := storeMay_len hI.pool.may
      obtain ⟨b3, o3, c3', e3, hb3, hc3⟩ := tab_at (hS.out.below xw).now hl3
      simp only [Value.slice.injEq] at e3
      obtain ⟨rfl, rfl, rfl⟩ := e3
      have d3 := hc3 k hlt
      obtain ⟨ca, hrow, har⟩ := hI.row
      have hcr := har.ref k hlt
      rw [heldTo_all] at hcr
      have hfew := hI.ref_few k
      rw [heldTo_all] at hfew
      have hpr := pool_roots hI.pool
      have hNX : refs k + held.count (k : Int) = (S.now[k]?.getD 0).toNat → CJ S root next dead held w w1 cb (k + 1) w' := fun h => ⟨vs, refs, nodes, vv, by omega, by omega, hok, fun a h1 h2 => by
        by_cases e : a = k
        · subst e; exact h
        · exact heq a h1 (by omega), hI⟩
      have hBAD : ¬ refs k + held.count (k : Int) = (S.now[k]?.getD 0).toNat → CountsQ S root next dead held w (.returned (.tuple #[.bool false, .int .i64 0])) w' := fun h => hI.done (by rw [hlv.out]; simp only; rw [if_neg (by have := hI.few; omega), if_pos hok, countsB_bad h8 hlt h])
      have hq8 : (S.now[k]?.getD 0).toNat < 256 := UInt8.toNat_lt _
      generalize (S.now[k]?.getD 0).toNat = q at *
      generalize refs k + held.count (k : Int) = m at *
      replace hNX := Lib.hid hNX
      replace hBAD := Lib.hid hBAD
      replace hI := Lib.hid hI
      clear heq hc3
      go_wp2_with fail
      have gC : ∀ W, extRel.r w' W → W.cell? ⟨cb, 6 + k, none⟩ = some (.int .i64 (m : Nat)) := fun W h => by rw [cells_row (row_ext hrow h)]; exact hcr
      have gN : ∀ W, extRel.r w' W → W.cell? ⟨b3, o3 + k, none⟩ = some (.int .u8 (q : Nat)) := fun W h => Ext.cell h d3
      have gP : ∀ W, extRel.r w' W → ∀ i, W.cell? ⟨pb, i, none⟩ = (poolCs (.slice A1 n1 c1) (.slice A2 n2 c2) (.slice (some ⟨b3, o3, none⟩) 256 c3) (.slice A4 n4 c4) gen root next (.slice A5 dead.length c5))[i]? := fun W h => cells_row (row_ext hp h)
      refine region_start (by kernel_rfl) ?_
      refine any_freeT (w := w') extRel (outsAt []) [true, true, true, true, true, true, true, true, true, true, true] 1 (by kernel_rfl) (by kernel_rfl) (by kernel_rfl) (by kernel_rfl) (by kernel_rfl) (by kernel_rfl) (by kernel_rfl) ?st (Rel.drew _ _) ?walk
      case st => exact outsAt_stableG (fun _ h => by cases h)
      case walk =>
        intro K hK
        dsimp only [maskOps]
        repeat ((first | (refine free_plainM ?_ (by rfl) (by rfl) (fun W hW _ => ⟨W, ?_, Rel.refl _ W⟩) ?_; rotate_left; (first | (go_simp; with_reducible rfl) | (go_simp; done))) | (refine free_skipM (by rfl) ?_)); try simp only [Act.put, one_f, outB_f, outNew_f, outI_f, outNew_f, List.setIfInBounds_toArray, List.set_cons_zero, List.set_cons_succ])
        refine free_plainM (.pointer (some ⟨cb, 6 + k, none⟩)) (by rfl) (by rfl) (fun W hW _ => ⟨W, ?_, Rel.refl _ W⟩) ?_
        · go_simp
          intro hge
          exfalso
          omega
        simp only [Act.put, one_f, outB_f, outNew_f, outI_f, outNew_f, List.setIfInBounds_toArray, List.set_cons_zero, List.set_cons_succ]
        repeat ((first | (refine free_plainM ?_ (by rfl) (by rfl) (fun W hW _ => ⟨W, ?_, Rel.refl _ W⟩) ?_; rotate_left; (first | (go_simp; with_reducible rfl) | (go_simp; done))) | (refine free_skipM (by rfl) ?_)); try simp only [Act.put, one_f, outB_f, outNew_f, outI_f, outNew_f, List.setIfInBounds_toArray, List.set_cons_zero, List.set_cons_succ])
        refine free_plainM (.pointer (some ⟨b3, o3 + k, none⟩)) (by rfl) (by rfl) (fun W hW _ => ⟨W, ?_, Rel.refl _ W⟩) ?_
        · go_simp
          intro hge
          exfalso
          omega
        simp only [Act.put, one_f, outB_f, outNew_f, outI_f, outNew_f, List.setIfInBounds_toArray, List.set_cons_zero, List.set_cons_succ]
        repeat ((first | (refine free_plainM ?_ (by rfl) (by rfl) (fun W hW _ => ⟨W, ?_, Rel.refl _ W⟩) ?_; rotate_left; (first | (go_simp; with_reducible rfl) | (go_simp; done))) | (refine free_skipM (by rfl) ?_)); try simp only [Act.put, one_f, outB_f, outNew_f, outI_f, outNew_f, List.setIfInBounds_toArray, List.set_cons_zero, List.set_cons_succ])
        refine free_nilM (hK _ _ fun W hW hF => ?_)
        have hW' : Ext w' W := hW
        clear hF hK gC gN gP
        have pW := row_ext hp hW'
        dsimp only [List.drop, List.length_cons, List.length_nil]
        by_cases hmq : m = q
        · have hne : ((m : Int) != (q : Int)) = false := by rw [bne_eq_false_iff_eq]; omega
          have HN := (hNX.out hmq).ext hW'
          have hwk := IntWalk.wrap64_in ((k : Int) + 1) (by omega)
          replace hwk := Lib.hid hwk
          replace HN := Lib.hid HN
          replace hmq := Lib.hid hmq
          clear hNX hBAD
          go_wp2
          refine QN_in ?_
          go_wp2_with fail
          go_step3
          first
            | (refine ⟨rfl, ⟨pb, cb, k + 1, w1, _, _, _, _, _, _, _, _, _, _, _, _, _, _, _, _, _, _, _, _, _, _, _, _, _, _, _, _, _, _, _, _, _, _, _, _, _, _, _, _, _, _, _, _, _, _, _, _, _, _, _, _, _, _, rfl, pW, HN.out⟩, ?_⟩
               simp [intOf]
               omega)
            | exact ⟨rfl, pb, cb, k + 1, w1, _, _, _, _, _, _, _, _, _, _, _, _, _, _, _, _, _, _, _, _, _, _, _, _, _, _, _, _, _, _, _, _, _, _, _, _, _, _, _, _, _, _, _, _, _, _, _, _, _, _, _, _, _, _, rfl, pW, HN.out⟩
        · have hne : ((m : Int) != (q : Int)) = true := by rw [bne_iff_ne]; omega
          have HB := (hBAD.out hmq).ext hW'
          replace HB := Lib.hid HB
          clear hNX hBAD
          go_wp2
          refine QN_in ?_
          go_wp2_with fail
          exact counts_ret rfl rfl rfl HB.out
  case first =>
    go_wp2_with fail
    generalize hw1 : World.alloc w _ = w1
    have x1 : Ext w w1 := by rw [← hw1]; exact Ext.alloc _ _
    have r1 : w1.heap[w.heap.size]? = some (.cells (poolCs (.slice A1 n1 c1) (.slice A2 n2 c2) (.slice A3 n3 c3) (.slice A4 n4 c4) gen root next (.slice A5 dead.length c5)) 32 (0, 0)) := by rw [← hw1]; exact World.alloc_heap_at _ _ _ rfl
    clear hw1
    refine (HT.out w1 x1).mono ?_
    clear HT
    rintro e w2 ⟨hB, hQ⟩
    have x2 : Below w.heap.size w w2 := Ext.trans x1 hB
    rcases hQ with ⟨rfl, hno⟩ | ⟨vs, refs, nodes, cb, ca, vv, lo, rfl, hlo, hT⟩
    · have HB : CountsQ S root next dead held w (.returned (.tuple #[.bool false, .int .i64 8])) w2 := ⟨x2, .inl ⟨rfl, hno⟩⟩
      replace HB := Lib.hid HB
      clear hno hB hS hH hlv
      go_wp2_with fail
      exact counts_ret rfl rfl rfl HB.out
    · have hI0 : CI S root next dead held vs refs nodes w w1 cb vv 0 w2 → True := fun _ => trivial
      have hPool := Lib.hid hT.pool
      have hCnt := Lib.hid hT.cnt
      have hEn := Lib.hid hT.enough
      have hRow := Lib.hid hT.row
      have hAr := Lib.hid hT.ar
      have hcb : w1.heap.size ≤ cb := Nat.le_trans hlo hT.low
      have k2 := row_ext r1 hB
      clear hT hI0
      replace hB := Lib.hid hB
      by_cases hfew : held.length ≤ 1024
      · have hd1 : decide ((held.length : Int) > 1024) = false := decide_eq_false (by omega)
        have hIa : CI S root next dead held vs refs nodes w w1 cb vv 0 w2 := ⟨hPool.out, hCnt.out, hEn.out, x1, hcb, hB.out, hfew, ca, hRow.out, by
          have : heldTo refs held 0 = refs := by funext a; unfold heldTo; simp
          rw [this]; exact hAr.out⟩
        have I0 : CH S root next dead held vs refs nodes w w1 cb vv (.int .i64 0) w2 := ⟨0, Nat.zero_le _, rfl, rfl, hIa⟩
        replace I0 := Lib.hid I0
        have hz1 : w.heap.size < w1.heap.size := (Array.getElem?_eq_some_iff.1 r1).1
        clear hIa hRow hAr
        go_wp2_with fail
        go_loopw [24] (fun i wr => CH S root next dead held vs refs nodes w w1 cb vv i wr) (fun i _ => held.length - (intOf i).toNat)
        case atStart => exact I0.out
        case round =>
          obtain ⟨k, hk, rfl, hok, hI⟩ := hrel.ex
          clear hrel I0
          have xw : Below w.heap.size w wr := Ext.trans hI.x1 hI.below
          by_cases hlt : k < held.length
          · have hlt' := hlt
            obtain ⟨Ah, ch, eh, hch1, hch2, hrh⟩ := hH.out
            simp only [Value.slice.injEq, true_and] at eh
            obtain ⟨rfl, rfl⟩ := eh
            replace hrh := hrh.below xw
            obtain ⟨bh, oh, rfl, hbh, hcelh⟩ := hrh.2 (by omega)
            have dh := hcelh k _ (by rw [List.getElem?_map, List.getElem?_eq_getElem hlt]; rfl)
            have hsn := Lib.hid (heldOk_snoc hlt hok)
            have hbd := Lib.hid (heldOk_bad hlt)
            have hsu := Lib.hid (fun (a : Nat) (ha : held[k] = (a : Int)) => heldTo_succ refs held hlt ha)
            generalize held[k] = r at *
            replace hok := Lib.hid hok
            by_cases hr : 8 ≤ r ∧ r < 256
            · obtain ⟨a, rfl⟩ := Int.eq_ofNat_of_zero_le (show 0 ≤ r by omega)
              have ha2 : a < 256 := by omega
              obtain ⟨ca', hrow, har⟩ := hI.row
              have kc := cells_row hrow
              have fc := frozen_row hrow
              have hcr := har.ref a ha2
              have hc1 : decide ((a : Int) < 8) = false := decide_eq_false (by omega)
              have hc2 : decide ((a : Int) ≥ 256) = false := decide_eq_false (by omega)
              have hw64 : wrap64 ((heldTo refs held k a : Int) + 1) = (heldTo refs held k a : Int) + 1 := IntWalk.wrap64_in _ (by have := hI.ref_few a; have := pool_roots hI.pool; omega)
              have hwk := Lib.hid (IntWalk.wrap64_in ((k : Int) + 1) (by omega))
              have IR : CH S root next dead held vs refs nodes w w1 cb vv (.int .i64 ((k : Int) + 1)) (wr.setCell ⟨cb, 6 + a, none⟩ (.int .i64 ((heldTo refs held k a : Int) + 1))) :=
                ⟨k + 1, hlt', rfl, hsn.out hr, hI.pool, hI.cnt, hI.enough, hI.x1, hI.low, Below.setCell hI.below (p := ⟨cb, 6 + a, none⟩) hI.low _, hI.few, _, row_set hrow (6 + a) _, by rw [hsu.out a rfl]; exact har.addRef ha2⟩
              replace IR := Lib.hid IR
              replace hI := Lib.hid hI
              replace har := Lib.hid har
              generalize heldTo refs held k a = hv at *
              clear hcelh hrh
              go_wp2_with fail
              refine ⟨IR.out, ?_⟩
              simp [intOf]
              omega
            · have HB := Lib.hid (hI.done (b := false) (n := 2) (by rw [hlv.out]; simp only; rw [if_neg (by omega), if_neg (by rw [hbd.out hr]; simp)]))
              have hhr : decide (r < 8) = true ∨ (decide (r < 8) = false ∧ decide (r ≥ 256) = true) := by
                rcases Int.lt_or_le r 8 with h | h
                · exact .inl (decide_eq_true h)
                · exact .inr ⟨decide_eq_false (by omega), decide_eq_true (by omega)⟩
              replace hr := Lib.hid hr
              replace hI := Lib.hid hI
              clear hcelh hrh
              rcases hhr with h1 | ⟨h1, h2⟩
              all_goals
                go_wp2_with fail
                exact counts_ret rfl rfl rfl HB.out
          · obtain rfl : k = held.length := by omega
            rw [List.take_length] at hok
            have pw := (hI.below.block w.heap.size hz1).trans r1
            have hp := pw
            clear pw
            go_wp2_with fail
            go_step3
            generalize hv8 : Value.int IntKind.i64 8 = v8
            obtain ⟨k, rfl, hk8⟩ : ∃ k : Nat, v8 = .int .i64 (k : Int) ∧ k = 8 := ⟨8, hv8.symm, rfl⟩
            have h8 : 8 ≤ k := by omega
            have h256 : k ≤ 256 := by omega
            have heq : ∀ a : Nat, 8 ≤ a → a < k → refs a + held.count (a : Int) = (S.now[a]?.getD 0).toNat := fun a h1 h2 => absurd h2 (by omega)
            clear hk8 hv8
            by_cases hk : k = 256
            · subst hk
              have HB := Lib.hid (hI.done (b := true) (n := 0) (by rw [hlv.out]; simp only; rw [if_neg (by have := hI.few; omega), if_pos hok, countsB_ok heq]))
              have hc : (((256 : Nat) : Int) == 256) = true := rfl
              clear heq hI hS hH hlv
              go_wp2_with fail
              exact counts_ret rfl rfl rfl HB.out
            · have hc : ((k : Int) == 256) = false := by rw [beq_eq_false_iff_ne]; omega
              have hlt : k < 256 := by omega
              have xw : Below w.heap.size w wr := Ext.trans hI.x1 hI.below
              obtain ⟨_, _, hl3, _⟩ := storeMay_len hI.pool.may
              obtain ⟨b3, o3, c3', e3, hb3, hc3⟩ := tab_at (hS.out.below xw).now hl3
              simp only [Value.slice.injEq] at e3
              obtain ⟨rfl, rfl, rfl⟩ := e3
              have d3 := hc3 k hlt
              obtain ⟨ca, hrow, har⟩ := hI.row
              have hcr := har.ref k hlt
              rw [heldTo_all] at hcr
              have hfew := hI.ref_few k
              rw [heldTo_all] at hfew
              have hpr := pool_roots hI.pool
              have hNX : refs k + held.count (k : Int) = (S.now[k]?.getD 0).toNat → CJ S root next dead held w w1 cb (k + 1) wr := fun h => ⟨vs, refs, nodes, vv, by omega, by omega, hok, fun a h1 h2 => by
                by_cases e : a = k
                · subst e; exact h
                · exact heq a h1 (by omega), hI⟩
              have hBAD : ¬ refs k + held.count (k : Int) = (S.now[k]?.getD 0).toNat → CountsQ S root next dead held w (.returned (.tuple #[.bool false, .int .i64 0])) wr := fun h => hI.done (by rw [hlv.out]; simp only; rw [if_neg (by have := hI.few; omega), if_pos hok, countsB_bad h8 hlt h])
              have hq8 : (S.now[k]?.getD 0).toNat < 256 := UInt8.toNat_lt _
              generalize (S.now[k]?.getD 0).toNat = q at *
              generalize refs k + held.count (k : Int) = m at *
              replace hNX := Lib.hid hNX
              replace hBAD := Lib.hid hBAD
              replace hI := Lib.hid hI
              clear heq hc3
              go_wp2_with fail
              have gC : ∀ W, extRel.r wr W → W.cell? ⟨cb, 6 + k, none⟩ = some (.int .i64 (m : Nat)) := fun W h => by rw [cells_row (row_ext hrow h)]; exact hcr
              have gN : ∀ W, extRel.r wr W → W.cell? ⟨b3, o3 + k, none⟩ = some (.int .u8 (q : Nat)) := fun W h => Ext.cell h d3
              have gP : ∀ W, extRel.r wr W → ∀ i, W.cell? ⟨w.heap.size, i, none⟩ = (poolCs (.slice A1 n1 c1) (.slice A2 n2 c2) (.slice (some ⟨b3, o3, none⟩) 256 c3) (.slice A4 n4 c4) gen root next (.slice A5 dead.length c5))[i]? := fun W h => cells_row (row_ext hp h)
              refine region_start (by kernel_rfl) ?_
              refine any_freeT (w := wr) extRel (outsAt []) [true, true, true, true, true, true, true, true, true, true, true] 1 (by kernel_rfl) (by kernel_rfl) (by kernel_rfl) (by kernel_rfl) (by kernel_rfl) (by kernel_rfl) (by kernel_rfl) ?st (Rel.drew _ _) ?walk
              case st => exact outsAt_stableG (fun _ h => by cases h)
              case walk =>
                intro K hK
                dsimp only [maskOps]
                repeat ((first | (refine free_plainM ?_ (by rfl) (by rfl) (fun W hW _ => ⟨W, ?_, Rel.refl _ W⟩) ?_; rotate_left; (first | (go_simp; with_reducible rfl) | (go_simp; done))) | (refine free_skipM (by rfl) ?_)); try simp only [Act.put, one_f, outB_f, outNew_f, outI_f, outNew_f, List.setIfInBounds_toArray, List.set_cons_zero, List.set_cons_succ])
                refine free_plainM (.pointer (some ⟨cb, 6 + k, none⟩)) (by rfl) (by rfl) (fun W hW _ => ⟨W, ?_, Rel.refl _ W⟩) ?_
                · go_simp
                  intro hge
                  exfalso
                  omega
                simp only [Act.put, one_f, outB_f, outNew_f, outI_f, outNew_f, List.setIfInBounds_toArray, List.set_cons_zero, List.set_cons_succ]
                repeat ((first | (refine free_plainM ?_ (by rfl) (by rfl) (fun W hW _ => ⟨W, ?_, Rel.refl _ W⟩) ?_; rotate_left; (first | (go_simp; with_reducible rfl) | (go_simp; done))) | (refine free_skipM (by rfl) ?_)); try simp only [Act.put, one_f, outB_f, outNew_f, outI_f, outNew_f, List.setIfInBounds_toArray, List.set_cons_zero, List.set_cons_succ])
                refine free_plainM (.pointer (some ⟨b3, o3 + k, none⟩)) (by rfl) (by rfl) (fun W hW _ => ⟨W, ?_, Rel.refl _ W⟩) ?_
                · go_simp
                  intro hge
                  exfalso
                  omega
                simp only [Act.put, one_f, outB_f, outNew_f, outI_f, outNew_f, List.setIfInBounds_toArray, List.set_cons_zero, List.set_cons_succ]
                repeat ((first | (refine free_plainM ?_ (by rfl) (by rfl) (fun W hW _ => ⟨W, ?_, Rel.refl _ W⟩) ?_; rotate_left; (first | (go_simp; with_reducible rfl) | (go_simp; done))) | (refine free_skipM (by rfl) ?_)); try simp only [Act.put, one_f, outB_f, outNew_f, outI_f, outNew_f, List.setIfInBounds_toArray, List.set_cons_zero, List.set_cons_succ])
                refine free_nilM (hK _ _ fun W hW hF => ?_)
                have hW' : Ext wr W := hW
                clear hF hK gC gN gP
                have pW := row_ext hp hW'
                dsimp only [List.drop, List.length_cons, List.length_nil]
                by_cases hmq : m = q
                · have hne : ((m : Int) != (q : Int)) = false := by rw [bne_eq_false_iff_eq]; omega
                  have HN := (hNX.out hmq).ext hW'
                  have hwk := IntWalk.wrap64_in ((k : Int) + 1) (by omega)
                  replace hwk := Lib.hid hwk
                  replace HN := Lib.hid HN
                  replace hmq := Lib.hid hmq
                  clear hNX hBAD
                  go_wp2
                  refine QN_in ?_
                  go_wp2_with fail
                  go_step3
                  first
                    | (refine ⟨rfl, ⟨_, cb, k + 1, w1, _, _, _, _, _, _, _, _, _, _, _, _, _, _, _, _, _, _, _, _, _, _, _, _, _, _, _, _, _, _, _, _, _, _, _, _, _, _, _, _, _, _, _, _, _, _, _, _, _, _, _, _, _, _, rfl, pW, HN.out⟩, ?_⟩
                       simp [intOf]
                       omega)
                    | exact ⟨rfl, _, cb, k + 1, w1, _, _, _, _, _, _, _, _, _, _, _, _, _, _, _, _, _, _, _, _, _, _, _, _, _, _, _, _, _, _, _, _, _, _, _, _, _, _, _, _, _, _, _, _, _, _, _, _, _, _, _, _, _, _, rfl, pW, HN.out⟩
                · have hne : ((m : Int) != (q : Int)) = true := by rw [bne_iff_ne]; omega
                  have HB := (hBAD.out hmq).ext hW'
                  replace HB := Lib.hid HB
                  clear hNX hBAD
                  go_wp2
                  refine QN_in ?_
                  go_wp2_with fail
                  exact counts_ret rfl rfl rfl HB.out
      · have hd1 : decide ((held.length : Int) > 1024) = true := decide_eq_true (by omega)
        have HB : CountsQ S root next dead held w (.returned (.tuple #[.bool false, .int .i64 4])) w2 := ⟨x2, .inr ⟨vs, refs, nodes, hPool.out, hCnt.out, hEn.out, by rw [hlv.out]; simp only; rw [if_pos (by omega)]⟩⟩
        replace HB := Lib.hid HB
        go_wp2_with fail
        exact counts_ret rfl rfl rfl HB.out
end Go.Proofs.Ytlgbjpihmkeopaa
/- A new pool: what is counted in it. -/
namespace Go.Proofs.Ytlgbjpihmkeopaa
set_option linter.unusedSimpArgs false
set_option linter.unusedVariables false
open Go.RowKit

theorem empty_node : nodeAt emptyS 8 = some (0, []) := by decide +kernel
theorem empty_may : storeMay emptyS = true := by decide +kernel
theorem empty_kids (a : Nat) (ha : a = 8) : kidsS emptyS a = [] ∧ refsS emptyS a = [] := by
  subst ha
  unfold kidsS refsS
  rw [empty_node]
  exact ⟨rfl, rfl⟩
theorem empty_okL : okL emptyS (-1) 8 = true := by
  unfold okL
  rw [show (8 : Int).toNat = 8 from rfl, empty_node]
  rfl
theorem empty_vols (next : Int) : volsOf emptyS 8 next = some [] := by
  unfold volsOf
  rw [show (8 : Int).toNat = 8 from rfl, empty_node]
  rfl
theorem empty_pool : PoolB emptyS 8 1 [] [] :=
  ⟨empty_may, by decide, empty_okL, empty_vols 1, fun r hr => by
    have : r = 8 := by simpa [rootsOf] using hr
    subst this
    exact empty_okL⟩
def refs0 (a : Nat) : Nat := if a = 8 then 1 else 0
def met0 (a : Nat) : Bool := decide (a = 8)
theorem rsum0 (b : Nat) : ∀ n, rsum (refsS emptyS) met0 b n = 0
  | 0 => rfl
  | n + 1 => by
    unfold rsum
    rw [rsum0 b n]
    by_cases e : n = 8
    · rw [(empty_kids n e).2]
      simp
    · rw [if_neg (by simp [met0, e])]
theorem empty_marked : Marked (kidsS emptyS) (refsS emptyS) [8] met0 refs0 := by
  refine ⟨fun a ha => ?_, fun a ha => ?_, fun a ha b hb => ?_, fun b => ?_⟩
  · have : a = 8 := of_decide_eq_true ha
    subst this
    exact Rch.base (by simp)
  · have : a = 8 := by simpa using ha
    subst this
    rfl
  · have : a = 8 := of_decide_eq_true ha
    rw [(empty_kids a this).1] at hb
    cases hb
  · rw [rsum0]
    unfold refs0
    by_cases e : b = 8
    · subst e; rfl
    · rw [if_neg e]
      simp [List.count_cons]
      omega
theorem empty_enough : Enough emptyS refs0 := by
  have : enoughB emptyS refs0 = true := by decide +kernel
  exact (enoughB_iff _ _).1 this
theorem CountsQ.empty {held : List Int} {w w' : World} {e : Ending} (h : CountsQ emptyS 8 1 [] held w e w') : e = .returned (.tuple #[.bool (countsV emptyS refs0 held).1, .int .i64 (countsV emptyS refs0 held).2]) := by
  rcases h.2 with ⟨_, hb⟩ | ⟨vs, refs, nodes, hp, hc, he, rfl⟩
  · obtain ⟨refs, nodes, hc, hn⟩ := hb [] empty_pool
    obtain ⟨_, e⟩ := Marked.same hc.mkd empty_marked
    subst e
    exact absurd empty_enough hn
  · obtain rfl := PoolB.same hp empty_pool
    obtain ⟨_, e⟩ := Marked.same hc.mkd empty_marked
    subst e
    rfl
theorem UsesQ.empty {w w' : World} {e : Ending} (h : UsesQ emptyS 8 1 [] w e w') : ∃ ob, e = .returned (.tuple #[.slice (some ⟨ob, 0, none⟩) 256 256, .int .i64 0]) ∧ w.heap.size ≤ ob ∧ w'.heap[ob]? = some (.cells (arrB (useB emptyS met0)).toArray 5 (0, 0)) := by
  rcases h.2 with ⟨_, hb⟩ | ⟨vs, refs, nodes, ob, rfl, hob, hp, hc, he, hr⟩
  · obtain ⟨refs, nodes, hc, hn⟩ := hb [] empty_pool
    obtain ⟨_, e⟩ := Marked.same hc.mkd empty_marked
    subst e
    exact absurd empty_enough hn
  · obtain rfl := PoolB.same hp empty_pool
    obtain ⟨e, _⟩ := Marked.same hc.mkd empty_marked
    rw [e] at hr
    exact ⟨ob, rfl, hob, hr⟩
theorem empty_counts0 : countsV emptyS refs0 [] = (true, 0) := by decide +kernel
theorem empty_uses : useB emptyS met0 7 = 0 ∧ useB emptyS met0 8 = 3 ∧ useB emptyS met0 9 = 1 := by decide +kernel
theorem CountsQ.none {S : Sto} {root next : Int} {dead held : List Int} {w w' : World} {e : Ending} (h : CountsQ S root next dead held w e w') (hS : storeMay S = false) : e = .returned (.tuple #[.bool false, .int .i64 8]) := by
  rcases h.2 with ⟨rfl, _⟩ | ⟨vs, refs, nodes, hp, _⟩
  · rfl
  · have := hp.may
    rw [hS] at this
    cases this
end Go.Proofs.Ytlgbjpihmkeopaa
/- Contracts: a new pool is counted just so. -/
namespace Go.Proofs.Ytlgbjpihmkeopaa
set_option linter.unusedSimpArgs false
set_option linter.unusedVariables false
open Go.RowKit

theorem Ints.nil (w : World) (B : Nat) : Ints w B (.slice none 0 0) [] := ⟨none, 0, rfl, Nat.le_refl _, by simp [maxLen], Rd.none_⟩

set_option maxHeartbeats 2000000 in
set_option maxRecDepth 100000 in
theorem alive_any (w : World) : Calls Try.prog 13 #[] w (Ret (.bool true) w) := by
  go_enter Try.func13, Try.ntmps13
  go_wp2_with fail
  refine (fnew_any w).mono ?_
  rintro e w1 ⟨u, rfl, hp, hB⟩
  have x1 : Ext w w1 := hB
  obtain ⟨A1, c1, A2, c2, A3, c3, A4, c4, rfl, hS⟩ := hp.sto
  have HC := Lib.hid (counts_any A1 256 c1 A2 1 c2 A3 256 c3 A4 256 c4 0 8 1 none 0 emptyS [] none 0 [] w1 hS (Ints.nil _ _) (Ints.nil _ _))
  clear hp hS hB
  go_wp2_with fail
  refine HC.out.mono ?_
  intro e w2 hC
  have x2 : Ext w w2 := x1.trans hC.1
  have e1 := hC.empty
  rw [empty_counts0] at e1
  subst e1
  clear hC HC x1
  go_wp2_with fail
  refine (fnew_any w2).mono ?_
  rintro e w3 ⟨u, rfl, hp, hB⟩
  have x3 : Ext w w3 := x2.trans hB
  obtain ⟨A1, c1, A2, c2, A3, c3, A4, c4, rfl, hS⟩ := hp.sto
  have HU := Lib.hid (uses_any A1 256 c1 A2 1 c2 A3 256 c3 A4 256 c4 0 8 1 none 0 emptyS [] w3 hS (Ints.nil _ _))
  clear hp hS hB x2
  go_wp2_with fail
  refine HU.out.mono ?_
  intro e w4 hC
  have x4 : Ext w w4 := x3.trans hC.1
  obtain ⟨ob, rfl, _, hr⟩ := hC.empty
  obtain ⟨u7, u8, u9⟩ := empty_uses
  have k7 := (cells_row hr 7).trans ((by rw [List.getElem?_toArray, arrB_get _ (by omega), u7]) : _ = some (Value.int .u8 ((0 : Nat) : Int)))
  have k8 := (cells_row hr 8).trans ((by rw [List.getElem?_toArray, arrB_get _ (by omega), u8]) : _ = some (Value.int .u8 ((3 : Nat) : Int)))
  have k9 := (cells_row hr 9).trans ((by rw [List.getElem?_toArray, arrB_get _ (by omega), u9]) : _ = some (Value.int .u8 ((1 : Nat) : Int)))
  clear hC HU x3 hr u7 u8 u9
  go_wp2
  go_ret
  exact ⟨rfl, x4⟩
end Go.Proofs.Ytlgbjpihmkeopaa
/- Contracts: is a disk, a store, a pool more than statements go through? -/
namespace Go.Proofs.Ytlgbjpihmkeopaa
set_option linter.unusedSimpArgs false
set_option linter.unusedVariables false
open Go.RowKit

def sizeL (ls : List (List UInt8)) : Nat := (ls.map fun l => min l.length 1000000).sum
theorem sizeL_take {ls : List (List UInt8)} {k : Nat} (h : k < ls.length) : sizeL (ls.take (k + 1)) = sizeL (ls.take k) + min ls[k].length 1000000 := by
  unfold sizeL
  rw [List.take_succ_eq_append_getElem h, List.map_append, List.sum_append]
  simp
theorem sizeL_le (ls : List (List UInt8)) : sizeL ls ≤ ls.length * 1000000 := by
  induction ls with
  | nil => simp [sizeL]
  | cons l r ih => simp only [sizeL, List.map_cons, List.sum_cons, List.length_cons] at ih ⊢; omega
theorem sizeL_take_le {ls : List (List UInt8)} {n : Nat} (h : ls.length ≤ n) (k : Nat) : sizeL (ls.take k) ≤ n * 1000000 := by
  have h1 := sizeL_le (ls.take k)
  have h2 : (ls.take k).length ≤ n := by rw [List.length_take]; omega
  have h3 : (ls.take k).length * 1000000 ≤ n * 1000000 := Nat.mul_le_mul_right _ h2
  exact Nat.le_trans h1 h3
def headG (n m : Nat) : Bool := decide (300 < n ∨ 5000 < m ∨ (600 < m ∧ m < 4096))
def greatD (bs : List (List UInt8)) (ws : List (Int × List UInt8)) : Bool := headG bs.length ws.length || decide (800000 < sizeL bs + sizeL (ws.map (·.2)))

set_option maxHeartbeats 4000000 in
set_option maxRecDepth 100000 in
theorem great3_any (A1 : Option Addr) (n1 c1 : Nat) (A2 : Option Addr) (n2 c2 : Nat) (bs : List (List UInt8)) (ws : List (Int × List UInt8)) (w : World) (hb : Bls w w.heap.size (.slice A1 n1 c1) bs) (hw : Wrs w w.heap.size (.slice A2 n2 c2) ws) :
    Calls Try.prog 46 #[diskV A1 n1 c1 A2 n2 c2] w (Ret (.bool (greatD bs ws)) w) := by
  obtain ⟨e1, hc1, hm1, hA1⟩ := hb.at_
  obtain ⟨e2, hc2, hm2, hA2⟩ := hw.at_
  subst e1
  subst e2
  by_cases hh : headG bs.length ws.length = true
  case pos =>
    have hM : greatD bs ws = true := by unfold greatD; rw [hh]; rfl
    rw [hM]
    have hh' : 300 < bs.length ∨ 5000 < ws.length ∨ (600 < ws.length ∧ ws.length < 4096) := by simpa [headG] using hh
    clear hM hb hw hA1 hA2 hh
    generalize bs.length = n1 at *
    generalize ws.length = n2 at *
    go_enter Try.func46, Try.ntmps46
    go_wp2
    all_goals try simp only [beq_iff_eq, beq_eq_false_iff_ne, ne_eq, bne_iff_ne, bne_eq_false_iff_eq] at *
    all_goals first | (exfalso; omega) | skip
    all_goals go_ret
    all_goals exact ⟨rfl, (by repeat' (first | with_reducible exact Below.refl _ _ | with_reducible assumption | with_reducible apply Below.drew | with_reducible apply below_drewN | with_reducible refine Below.alloc ?_ ?_ _ | with_reducible refine Below.setCell ?_ ?_ _ | (simp; done) | (simp; omega) | omega))⟩
  case neg =>
    have hM : greatD bs ws = decide (800000 < sizeL bs + sizeL (ws.map (·.2))) := by unfold greatD; rw [show headG bs.length ws.length = false by simpa using hh]; rfl
    have hh' : ¬(300 < bs.length ∨ 5000 < ws.length ∨ (600 < ws.length ∧ ws.length < 4096)) := by simpa [headG] using hh
    have hn1 : bs.length ≤ 300 := by omega
    have hn2 : ws.length ≤ 5000 := by omega
    have hn3 : ¬(600 < ws.length ∧ ws.length < 4096) := fun h => hh' (.inr (.inr h))
    rw [hM]
    clear hM hh hh'
    have HB := Lib.hid hb
    have HW := Lib.hid hw
    have HTB := Lib.hid (fun k h => @sizeL_take bs k h)
    have HTW := Lib.hid (fun k (h : k < (ws.map (·.2)).length) => @sizeL_take (ws.map (·.2)) k h)
    have HLB := Lib.hid (fun k => sizeL_take_le hn1 k)
    have HLW := Lib.hid (fun k => sizeL_take_le (ls := ws.map (·.2)) (n := 5000) (by rw [List.length_map]; exact hn2) k)
    have HE1 : Hid (bs.take bs.length = bs) := Lib.hid (List.take_length)
    have HE2 : Hid ((ws.map (·.2)).take ws.length = ws.map (·.2)) := Lib.hid (by rw [← List.length_map (f := (·.2))]; exact List.take_length)
    clear hb hw
    have hd1 : decide ((bs.length : Int) > 300) = false := decide_eq_false (by omega)
    have hd2 : decide ((ws.length : Int) > 5000) = false := decide_eq_false (by omega)
    go_enter Try.func46, Try.ntmps46
    go_wp2
    all_goals first | (exfalso; omega) | skip
    all_goals
      generalize hw1 : (World.alloc _ _) = w1
      have x1 : Ext w w1 := by rw [← hw1]; exact Ext.alloc _ _
      have r1 : w1.heap[w.heap.size]? = some (.cells #[.slice A1 bs.length c1, .slice A2 ws.length c2] 25 (0, 0)) := by rw [← hw1]; exact World.alloc_heap_at _ _ _ rfl
      clear hw1
      go_loopw [3, 4] (fun t i wr => ∃ k : Nat, k ≤ bs.length ∧ i = .int .i64 (k : Int) ∧ t = .int .i64 (sizeL (bs.take k) : Int) ∧ Ext w1 wr) (fun _ i _ => bs.length - (intOf i).toNat)
      case atStart => exact ⟨0, by omega, rfl, rfl, Ext.refl _⟩
      case round =>
        obtain ⟨k, hk, rfl, rfl, hE⟩ := hrel
        have hEw := x1.trans hE
        have rr := row_ext r1 hE
        have kr := cells_row rr
        have hlb := HLB.out k
        by_cases hlt : k < bs.length
        · have hlt' := hlt
          obtain ⟨b1, o1, rfl, hb1⟩ := hA1 (by omega)
          obtain ⟨A', c', hc, hby⟩ := ((HB.out.below hEw).more hEw.size).get k hlt
          have hm64 := hby.at_.2.1
          have hm65 := hby.at_.2.2.1
          have ht := HTB.out k hlt
          replace ht := Lib.hid ht
          clear hby
          unfold maxLen at hm65
          generalize bs[k].length = m at *
          generalize sizeL (bs.take k) = q at *
          go_wp2
          go_roundw
          case rel => exact ⟨k + 1, by omega, by go_num, by rw [ht.out]; go_num, hE⟩
          case measure => simp [intOf]; omega
        · obtain rfl : k = bs.length := by omega
          rw [HE1.out] at hlb ⊢
          clear HB HTB HLB r1 hd1 hd2
          go_wp2
          clear kr
          go_loopw [3, 5] (fun t i wq => ∃ j : Nat, j ≤ ws.length ∧ i = .int .i64 (j : Int) ∧ t = .int .i64 ((sizeL bs + sizeL ((ws.map (·.2)).take j) : Nat) : Int) ∧ Ext wr wq) (fun _ i _ => ws.length - (intOf i).toNat)
          case atStart => exact ⟨0, by omega, rfl, rfl, Ext.refl _⟩
          case round =>
            obtain ⟨j, hj, rfl, rfl, hE2⟩ := hrel
            have hEq := hEw.trans hE2
            have kr := cells_row (row_ext rr hE2)
            have hlw := HLW.out j
            by_cases hlt2 : j < ws.length
            · have hlt2' := hlt2
              obtain ⟨b2, o2, rfl, hb2⟩ := hA2 (by omega)
              obtain ⟨A', c', hca, hcb, hby⟩ := ((HW.out.below hEq).more hEq.size).get j hlt2
              have hm64 := hby.at_.2.1
              have hm65 := hby.at_.2.2.1
              have ht := HTW.out j (by rw [List.length_map]; exact hlt2)
              rw [List.getElem_map] at ht
              replace ht := Lib.hid ht
              clear hby
              unfold maxLen at hm65
              generalize ws[j].2.length = m at *
              generalize ws[j].1 = a at *
              generalize sizeL ((ws.map (·.2)).take j) = q at *
              generalize sizeL bs = s0 at *
              go_wp2
              go_roundw
              case rel => exact ⟨j + 1, by omega, by go_num, by rw [ht.out]; go_num, hE2⟩
              case measure => simp [intOf]; omega
            · obtain rfl : j = ws.length := by omega
              rw [HE2.out] at hlw ⊢
              go_wp2
              go_ret
              refine ⟨ret_bool ?_, hEq⟩
              rw [Bool.eq_iff_iff]
              simp
              omega
end Go.Proofs.Ytlgbjpihmkeopaa
/- Contracts: is a store, a pool more than statements go through? -/
namespace Go.Proofs.Ytlgbjpihmkeopaa
set_option linter.unusedSimpArgs false
set_option linter.unusedVariables false
open Go.RowKit

def greatS (S : Sto) : Bool := greatD S.bs S.ws || (decide (10000 < S.now.length) || decide (10000 < S.last.length))
abbrev poolV (A1 : Option Addr) (n1 c1 : Nat) (A2 : Option Addr) (n2 c2 : Nat) (A3 : Option Addr) (n3 c3 : Nat) (A4 : Option Addr) (n4 c4 : Nat) (g r x : Int) (A5 : Option Addr) (n5 c5 : Nat) : Value :=
  .agg #[.slice A1 n1 c1, .slice A2 n2 c2, .slice A3 n3 c3, .slice A4 n4 c4, .int .u32 g, .int .i64 r, .int .u32 x, .slice A5 n5 c5]

set_option maxHeartbeats 2000000 in
set_option maxRecDepth 100000 in
theorem great8_any (A1 : Option Addr) (n1 c1 : Nat) (A2 : Option Addr) (n2 c2 : Nat) (A3 : Option Addr) (n3 c3 : Nat) (A4 : Option Addr) (n4 c4 : Nat) (S : Sto) (w : World) (h : StoAt w w.heap.size (.slice A1 n1 c1) (.slice A2 n2 c2) (.slice A3 n3 c3) (.slice A4 n4 c4) S) :
    Calls Try.prog 19 #[storeV A1 n1 c1 A2 n2 c2 A3 n3 c3 A4 n4 c4] w (Ret (.bool (greatS S)) w) := by
  have HD := Lib.hid (fun W (hW : Ext w W) => great3_any A1 n1 c1 A2 n2 c2 S.bs S.ws W (h.ext hW).bs (h.ext hW).ws)
  have e3 : S.now.length = n3 := h.now.at_.1.symm
  have e4 : S.last.length = n4 := h.last.at_.1.symm
  have hS : greatS S = (greatD S.bs S.ws || (decide (10000 < n3) || decide (10000 < n4))) := by unfold greatS; rw [e3, e4]
  rw [hS]
  clear hS h e3 e4
  generalize greatD S.bs S.ws = d at *
  go_enter Try.func19, Try.ntmps19
  go_wp2_with fail
  generalize hw1 : (World.alloc _ _) = w1
  have x1 : Ext w w1 := by rw [← hw1]; exact Ext.alloc _ _
  have r1 : w1.heap[w.heap.size]? = some (.cells #[.slice A1 n1 c1, .slice A2 n2 c2, .slice A3 n3 c3, .slice A4 n4 c4] 28 (0, 0)) := by rw [← hw1]; exact World.alloc_heap_at _ _ _ rfl
  clear hw1
  refine (HD.out _ x1).mono ?_
  rintro e w2 ⟨rfl, hB⟩
  have x2 := x1.trans hB
  have r2 := row_ext r1 hB
  have k2 := cells_row r2
  clear hB r1 x1 HD
  cases d
  all_goals
    go_wp2
    all_goals
      go_ret
      refine ⟨ret_bool ?_, x2⟩
      rw [Bool.eq_iff_iff]
      simp
      try omega

def greatP (S : Sto) (dead : Nat) : Bool := greatS S || decide (1000 < dead)
set_option maxHeartbeats 2000000 in
set_option maxRecDepth 100000 in
theorem great14_any (A1 : Option Addr) (n1 c1 : Nat) (A2 : Option Addr) (n2 c2 : Nat) (A3 : Option Addr) (n3 c3 : Nat) (A4 : Option Addr) (n4 c4 : Nat) (g r x : Int) (A5 : Option Addr) (n5 c5 : Nat) (S : Sto) (w : World) (h : StoAt w w.heap.size (.slice A1 n1 c1) (.slice A2 n2 c2) (.slice A3 n3 c3) (.slice A4 n4 c4) S) :
    Calls Try.prog 6 #[poolV A1 n1 c1 A2 n2 c2 A3 n3 c3 A4 n4 c4 g r x A5 n5 c5] w (Ret (.bool (greatP S n5)) w) := by
  have HD := Lib.hid (fun W (hW : Ext w W) => great8_any A1 n1 c1 A2 n2 c2 A3 n3 c3 A4 n4 c4 S W (h.ext hW))
  have hS : greatP S n5 = (greatS S || decide (1000 < n5)) := rfl
  rw [hS]
  clear hS h
  generalize greatS S = d at *
  go_enter Try.func6, Try.ntmps6
  go_wp2_with fail
  generalize hw1 : (World.alloc _ _) = w1
  have x1 : Ext w w1 := by rw [← hw1]; exact Ext.alloc _ _
  have r1 : w1.heap[w.heap.size]? = some (.cells #[.slice A1 n1 c1, .slice A2 n2 c2, .slice A3 n3 c3, .slice A4 n4 c4, .int .u32 g, .int .i64 r, .int .u32 x, .slice A5 n5 c5] 32 (0, 0)) := by rw [← hw1]; exact World.alloc_heap_at _ _ _ rfl
  clear hw1
  refine (HD.out _ x1).mono ?_
  rintro e w2 ⟨rfl, hB⟩
  have x2 := x1.trans hB
  have r2 := row_ext r1 hB
  have k2 := cells_row r2
  clear hB r1 x1 HD
  cases d
  all_goals
    go_wp2
    all_goals
      go_ret
      refine ⟨ret_bool ?_, x2⟩
      rw [Bool.eq_iff_iff]
      simp
      try omega
end Go.Proofs.Ytlgbjpihmkeopaa
