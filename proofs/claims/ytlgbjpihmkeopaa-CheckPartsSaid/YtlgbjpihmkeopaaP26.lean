/- scionrylaw31.CheckParts is true of every pool, and leaves it as it was; no condition. -/
import Derived.Deep.Slices
import Derived.Test.YtlgbjpihmkeopaaP01
import Derived.Test.YtlgbjpihmkeopaaP13
import Derived.Test.YtlgbjpihmkeopaaP18
import Derived.Test.YtlgbjpihmkeopaaP19
import Derived.Test.YtlgbjpihmkeopaaP23
import Derived.Test.YtlgbjpihmkeopaaP25
/- scionrylaw31.CheckParts: the walk. -/
namespace Go.Proofs.Ytlgbjpihmkeopaa
set_option linter.unusedSimpArgs false
set_option linter.unusedVariables false
open Go.RowKit

theorem UsesQ.knownP {S : Sto} {root next : Int} {dead : List Int} {vs : List Vol} {refs nodes : Nat → Nat} {w w' : World} {e : Ending} (h : UsesQ S root next dead w e w') (hp : PoolB S root next dead vs) (hc : Counted S (rootsN root dead vs) refs nodes) (he : Enough S refs) :
    ∃ ob, e = .returned (.tuple #[.slice (some ⟨ob, 0, none⟩) 256 256, .int .i64 0]) ∧ w.heap.size ≤ ob ∧ w'.heap[ob]? = some (.cells (arrB (useB S (metB nodes))).toArray 5 (0, 0)) := by
  rcases h.2 with ⟨_, hb⟩ | ⟨vs', refs', nodes', ob, rfl, h1, hp', hc', he', h2⟩
  · obtain ⟨refs', nodes', hc', hn⟩ := hb vs hp
    obtain ⟨_, e⟩ := Marked.same hc'.mkd hc.mkd
    subst e
    exact absurd he hn
  · obtain rfl := PoolB.same hp hp'
    obtain ⟨hm, e⟩ := Marked.same hc'.mkd hc.mkd
    rw [hm] at h2
    exact ⟨ob, rfl, h1, h2⟩
theorem UsesQ.formP {S : Sto} {root next : Int} {dead : List Int} {w w' : World} {e : Ending} (h : UsesQ S root next dead w e w') : ∃ A n c er, e = .returned (.tuple #[.slice A n c, .int .i64 er]) := by
  rcases h.2 with ⟨rfl, _⟩ | ⟨_, _, _, _, rfl, _⟩
  · exact ⟨_, _, _, _, rfl⟩
  · exact ⟨_, _, _, _, rfl⟩
theorem rfree_shape {S : Sto} {w w' : World} {e : Ending} (h : RFreeQ S w e w') : ∃ A n c er, e = .returned (.tuple #[.slice A n c, .int .i64 er]) ∧ (storeMay S = true → er = 0 ∧ n = (freeS S).length ∧ Rd w' w'.heap.size 1 A n (intsV (freeS S))) := by
  rcases h.2 with ⟨hn, rfl⟩ | ⟨_, v, rfl, own⟩
  · exact ⟨_, _, _, _, rfl, fun h => by rw [hn] at h; cases h⟩
  · obtain ⟨A, c, rfl, _, _⟩ := own_slice own
    exact ⟨A, _, c, 0, rfl, fun _ => ⟨rfl, rfl, Rd.of_own own⟩⟩
structure PtI (S : Sto) (W : World) (k : Nat) (n : Value) (wr : World) : Prop where
  le : k ≤ 256
  n : n = .int .i64 ((freeTo S k).length : Int)
  ext : Ext W wr

theorem part_cases {S : Sto} {M : Nat → Bool} (hM : ∀ a, M a = true → 8 ≤ a ∧ 0 < nowN S a) (i : Nat) : (i < 8 ∧ useB S M i = 0 ∧ freeB S i = false) ∨ (8 ≤ i ∧ useB S M i = 1 ∧ nowN S i = 0 ∧ lastN S i = 0 ∧ freeB S i = true) ∨ (8 ≤ i ∧ useB S M i = 2 ∧ nowN S i = 0 ∧ 0 < lastN S i ∧ freeB S i = false) ∨
    (8 ≤ i ∧ useB S M i = 3 ∧ 0 < nowN S i ∧ freeB S i = false) ∨ (8 ≤ i ∧ useB S M i = 4 ∧ 0 < nowN S i ∧ freeB S i = false) := by
  have P := part_of hM i
  have hu : useB S M i = if M i = true then 3 else if i < 8 then 0 else if 0 < nowN S i then 4 else if 0 < lastN S i then 2 else 1 := rfl
  have hf : freeB S i = false ↔ ¬ freeB S i = true := by simp
  have p1 := P.free
  have p2 := P.fixed
  have p3 := P.taken
  have p4 := P.pinned
  have hle : useB S M i = 0 ∨ useB S M i = 1 ∨ useB S M i = 2 ∨ useB S M i = 3 ∨ useB S M i = 4 := by
    rw [hu]
    repeat' split
    all_goals omega
  have hf2 : freeB S i = true → nowN S i = 0 ∧ lastN S i = 0 := fun h => by unfold freeB at h; simp at h; exact ⟨h.2.1, h.2.2⟩
  rw [hf]
  rcases hle with h | h | h | h | h
  · exact .inl ⟨by omega, h, by rw [← p1]; omega⟩
  · exact .inr (.inl ⟨by omega, h, (hf2 (p1.1 h)).1, (hf2 (p1.1 h)).2, p1.1 h⟩)
  · have h8 : 8 ≤ i := by omega
    exact .inr (.inr (.inl ⟨h8, h, ((p4 h8).1 h).1, ((p4 h8).1 h).2, by rw [← p1]; omega⟩))
  · have h8 : 8 ≤ i := by omega
    exact .inr (.inr (.inr (.inl ⟨h8, h, (p3 h8).1 (.inl h), by rw [← p1]; omega⟩)))
  · have h8 : 8 ≤ i := by omega
    exact .inr (.inr (.inr (.inr ⟨h8, h, (p3 h8).1 (.inr h), by rw [← p1]; omega⟩)))
theorem freeS_at {S : Sto} {k : Nat} (hk : k < 256) (h : freeB S k = true) : (freeTo S k).length < (freeS S).length ∧ (intsV (freeS S))[(freeTo S k).length]? = some (.int .i64 (k : Int)) := by
  have hs := freeTo_succ S k
  rw [if_pos h] at hs
  obtain ⟨t, ht⟩ := freeTo_pre S (show k + 1 ≤ 256 by omega)
  have e : freeS S = freeTo S k ++ [k] ++ t := by rw [← hs]; exact ht.symm
  constructor
  · rw [e]; simp
  · unfold intsV
    rw [e]
    simp
theorem freeTo_next {S : Sto} {k : Nat} : ((freeTo S (k + 1)).length : Int) = if freeB S k = true then ((freeTo S k).length : Int) + 1 else ((freeTo S k).length : Int) := by
  rw [freeTo_succ]
  split
  · simp
  · rfl

set_option maxHeartbeats 8000000 in
set_option maxRecDepth 100000 in
theorem cparts_any (A1 : Option Addr) (c1 : Nat) (A2 : Option Addr) (c2 : Nat) (A3 : Option Addr) (c3 : Nat) (A4 : Option Addr) (c4 : Nat) (gen next : Nat) (hg : gen < 4294967296) (hn : next < 4294967296) (root : Int) (A5 : Option Addr) (c5 : Nat) (S : Sto) (dead : List Int) (w : World)
    (h : StoAt w w.heap.size (.slice A1 S.bs.length c1) (.slice A2 S.ws.length c2) (.slice A3 S.now.length c3) (.slice A4 S.last.length c4) S) (hd : Ints w w.heap.size (.slice A5 dead.length c5) dead) :
    Calls Try.prog 4 #[.agg (poolCs (.slice A1 S.bs.length c1) (.slice A2 S.ws.length c2) (.slice A3 S.now.length c3) (.slice A4 S.last.length c4) gen root next (.slice A5 dead.length c5))] w (Ret (.bool true) w) := by
  have hp : Hid (∀ W, Below w.heap.size w W → StoAt W W.heap.size (.slice A1 S.bs.length c1) (.slice A2 S.ws.length c2) (.slice A3 S.now.length c3) (.slice A4 S.last.length c4) S) := Lib.hid fun W hW => (h.below hW).more hW.size
  have hpd := Lib.hid (fun W (hW : Ext w W) => hd.ext_ hW)
  have HCM := Lib.hid (fun W (hW : Ext w W) => commit_any A1 c1 A2 c2 A3 c3 A4 c4 gen next hg hn root A5 c5 S dead W (hp.out W hW) (hpd.out W hW))
  clear h hd hg hn
  go_enter Try.func4, Try.ntmps4
  go_wp2_with fail
  generalize hw1 : (World.alloc _ _) = w1
  have x1 : Ext w w1 := by rw [← hw1]; exact Ext.alloc _ _
  have r1 : w1.heap[w.heap.size]? = some (.cells (poolCs (.slice A1 S.bs.length c1) (.slice A2 S.ws.length c2) (.slice A3 S.now.length c3) (.slice A4 S.last.length c4) gen root next (.slice A5 dead.length c5)) 32 (0, 0)) := by rw [← hw1]; exact World.alloc_heap_at _ _ _ rfl
  clear hw1
  refine (alive_any w1).mono ?_
  rintro e w2 ⟨rfl, hB⟩
  have x2 : Ext w w2 := x1.trans hB
  have r2 := row_ext r1 hB
  have k2 := cells_row r2
  clear hB r1 x1
  go_wp2_with fail
  refine (great14_any _ _ _ _ _ _ _ _ _ _ _ _ _ _ _ _ _ _ S w2 (hp.out w2 x2)).mono ?_
  rintro e w3 ⟨rfl, hB⟩
  have x3 : Ext w w3 := x2.trans hB
  have r3 := row_ext r2 hB
  have k3 := cells_row r3
  clear hB r2 x2 k2
  cases hgr : greatP S dead.length
  case true =>
    go_wp2
    go_ret
    exact ⟨rfl, x3⟩
  case false =>
    clear hgr
    go_wp2_with fail
    refine (uses_any _ _ _ _ _ _ _ _ _ _ _ _ gen root next _ _ S dead w3 (hp.out w3 x3) (hpd.out w3 x3)).mono ?_
    rintro e w4 ⟨hB, hU⟩
    have x4 : Ext w w4 := x3.trans hB
    have r4 := row_ext r3 hB
    have k4 := cells_row r4
    have s4 := Below.size hB
    clear hB r3 x3 k3
    have HF := Lib.hid (fun W (hx : Ext w W) => rfree_any A1 _ c1 A2 _ c2 A3 _ c3 A4 _ c4 S W (hp.out W hx))
    rcases hU with ⟨rfl, -⟩ | ⟨vs, refs, nodes, ob, rfl, hob, hpo, hcn, hen, ru⟩
    · go_wp2_with fail
      refine (HF.out w4 x4).mono ?_
      rintro e w5 hQ
      have x5 : Ext w w5 := x4.trans hQ.1
      obtain ⟨A, n, c, er, rfl, -⟩ := rfree_shape hQ
      clear hQ
      go_wp2_with fail
      go_ret
      exact ⟨rfl, x5⟩
    · go_wp2_with fail
      refine (HF.out w4 x4).mono ?_
      rintro e w5 hQ
      have x5 : Ext w w5 := x4.trans hQ.1
      have r5 := row_ext r4 hQ.1
      have k5 := cells_row r5
      have ru5 := row_ext ru hQ.1
      have s5 := Below.size hQ.1
      obtain ⟨A, n, c, er, rfl, hfr⟩ := rfree_shape hQ
      obtain ⟨rfl, rfl, hrd⟩ := hfr hpo.may
      clear hQ hfr HF r4 k4 ru x4 s4
      obtain ⟨b3, o3, cc3, e3, hb3, hc3⟩ := now_at hpo.may (hp.out w5 x5).now
      simp only [Value.slice.injEq] at e3
      obtain ⟨rfl, hn256, rfl⟩ := e3
      obtain ⟨b4, o4, cc4, e4, hb4, hc4⟩ := last_at hpo.may (hp.out w5 x5).last
      simp only [Value.slice.injEq] at e4
      obtain ⟨rfl, hl256, rfl⟩ := e4
      have hM : Hid (∀ a, metB nodes a = true → 8 ≤ a ∧ 0 < nowN S a) := Lib.hid fun a ha => met_taken hpo hcn ha
      replace hn256 := Lib.hid hn256
      replace hl256 := Lib.hid hl256
      replace hpo := Lib.hid hpo
      replace hcn := Lib.hid hcn
      replace hen := Lib.hid hen
      replace hc3 := Lib.hid hc3
      replace hc4 := Lib.hid hc4
      replace hrd := Lib.hid hrd
      go_wp2_with fail
      go_loopw [8, 9] (fun n i wr => ∃ k : Nat, i = .int .i64 (k : Int) ∧ PtI S w5 k n wr) (fun _ i _ => 256 - (intOf i).toNat)
      case atStart => exact ⟨0, rfl, by omega, by simp [freeTo], Below.refl _ _⟩
      case round =>
        obtain ⟨k, rfl, hk, rfl, hx⟩ := hrel
        by_cases hlt : k < 256
        · have hcx := Ext.cell hx (hc3.out k hlt)
          have hcy := Ext.cell hx (hc4.out k hlt)
          have rw5 := row_ext r5 hx
          have gS : ∀ W', extRel.r wr W' → ∀ i, W'.cell? ⟨w.heap.size, i, none⟩ = (poolCs (.slice A1 S.bs.length c1) (.slice A2 S.ws.length c2) (.slice (some ⟨b3, o3, none⟩) S.now.length c3) (.slice (some ⟨b4, o4, none⟩) S.last.length c4) gen root next (.slice A5 dead.length c5))[i]? := fun W' h => cells_row (row_ext rw5 h)
          have gX : ∀ W', extRel.r wr W' → W'.cell? ⟨b3, o3 + k, none⟩ = some (.int .u8 (nowN S k : Int)) := fun W' h => Ext.cell h hcx
          have gY : ∀ W', extRel.r wr W' → W'.cell? ⟨b4, o4 + k, none⟩ = some (.int .u8 (lastN S k : Int)) := fun W' h => Ext.cell h hcy
          have hkn : k < S.now.length := by rw [hn256.out]; exact hlt
          have hkl : k < S.last.length := by rw [hl256.out]; exact hlt
          have hPC := Lib.hid (part_cases hM.out k)
          have hgk := arrB_get (useB S (metB nodes)) hlt
          rw [← List.getElem?_toArray] at hgk
          have hfn := Lib.hid (freeTo_next (S := S) (k := k))
          have hfa := Lib.hid (freeS_at (S := S) hlt)
          generalize nowN S k = nw at *
          generalize lastN S k = lw at *
          generalize useB S (metB nodes) k = q at *
          generalize (arrB (useB S (metB nodes))).toArray = ua at *
          clear hcx hcy rw5 k5
          go_upto_region 16 with fail
          refine region_start (by kernel_rfl) ?_
          refine any_freeT (w := wr) extRel (outsAt []) (List.replicate 16 true) 0 (by kernel_rfl) (by kernel_rfl) (by kernel_rfl) (by kernel_rfl) (by kernel_rfl) (by kernel_rfl) (by kernel_rfl) ?st (Rel.drew _ _) ?walk
          case st => exact outsAt_stableG (fun _ h => by cases h)
          case walk =>
            intro K hK
            dsimp only [maskOps, List.replicate]
            repeat ((first | (refine free_plainM ?_ (by rfl) (by rfl) (fun W hW _ => ⟨W, ?_, Rel.refl _ W⟩) ?_; rotate_left; (first | (go_simp; with_reducible rfl) | (go_simp; done))) | (refine free_skipM (by rfl) ?_)); try simp only [Act.put, one_f, outB_f, outNew_f, outI_f, List.setIfInBounds_toArray, List.set_cons_zero, List.set_cons_succ])
            first
              | (refine free_plainM (.pointer (some ⟨b3, o3 + k, none⟩)) (by rfl) (by rfl) (fun W hW _ => ⟨W, ?_, Rel.refl _ W⟩) ?_
                 · go_simp
                   rw [IntWalk.i64_in (k : Int) (by omega), if_pos (by omega)]
                   simp
                 simp only [Act.put, one_f, outB_f, outNew_f, outI_f, List.setIfInBounds_toArray, List.set_cons_zero, List.set_cons_succ])
              | skip
            repeat ((first | (refine free_plainM ?_ (by rfl) (by rfl) (fun W hW _ => ⟨W, ?_, Rel.refl _ W⟩) ?_; rotate_left; (first | (go_simp; with_reducible rfl) | (go_simp; done))) | (refine free_skipM (by rfl) ?_)); try simp only [Act.put, one_f, outB_f, outNew_f, outI_f, List.setIfInBounds_toArray, List.set_cons_zero, List.set_cons_succ])
            first
              | (refine free_plainM (.pointer (some ⟨b4, o4 + k, none⟩)) (by rfl) (by rfl) (fun W hW _ => ⟨W, ?_, Rel.refl _ W⟩) ?_
                 · go_simp
                   rw [IntWalk.i64_in (k : Int) (by omega), if_pos (by omega)]
                   simp
                 simp only [Act.put, one_f, outB_f, outNew_f, outI_f, List.setIfInBounds_toArray, List.set_cons_zero, List.set_cons_succ])
              | skip
            repeat ((first | (refine free_plainM ?_ (by rfl) (by rfl) (fun W hW _ => ⟨W, ?_, Rel.refl _ W⟩) ?_; rotate_left; (first | (go_simp; with_reducible rfl) | (go_simp; done))) | (refine free_skipM (by rfl) ?_)); try simp only [Act.put, one_f, outB_f, outNew_f, outI_f, List.setIfInBounds_toArray, List.set_cons_zero, List.set_cons_succ])
            refine free_nilM (hK _ _ fun W hW hF => ?_)
            clear hF hK gS gX gY
            have hxW : Ext w5 W := hx.trans hW
            replace hxW := Lib.hid hxW
            have kuW := cells_row (row_ext ru5 (hx.trans hW))
            clear hW hx ru5
            dsimp only [List.drop, List.length_cons, List.length_nil, Nat.reduceAdd, Nat.reduceSub]
            have hwk := Lib.hid (IntWalk.wrap64_in ((k : Int) + 1) (by omega))
            go_wp2
            refine QN_in ?_
            rcases hPC.out with ⟨h8, rfl, hfr⟩ | ⟨h8, rfl, h0, h1, hfr⟩ | ⟨h8, rfl, h0, h1, hfr⟩ | ⟨h8, rfl, h0, hfr⟩ | ⟨h8, rfl, h0, hfr⟩
            · have d1 : decide ((k : Int) < 8) = true := decide_eq_true (by omega)
              have d2 : decide (k < 8) = true := decide_eq_true (by omega)
              have d3 : decide ((k : Int) ≥ 8) = false := decide_eq_false (by omega)
              have d4 : decide (8 ≤ k) = false := decide_eq_false (by omega)
              replace hgk : ua[k]? = some (.int .u8 0) := hgk
              have IR : ∃ k' : Nat, Value.int .i64 ((k : Int) + 1) = .int .i64 (k' : Int) ∧ PtI S w5 k' (.int .i64 ((freeTo S k).length : Int)) W := ⟨k + 1, rfl, by omega, by rw [hfn.out, if_neg (by rw [hfr]; decide)], hxW.out⟩
              replace IR := Lib.hid IR
              clear hPC hfn hfa
              replace h8 := Lib.hid h8
              replace hfr := Lib.hid hfr
              go_wp2_with fail
              try rw [hwk.out]
              refine ⟨IR.out, ?_⟩
              simp [intOf]
              omega
            · have d1 : decide ((k : Int) < 8) = false := decide_eq_false (by omega)
              have d2 : decide (k < 8) = false := decide_eq_false (by omega)
              have d3 : decide ((k : Int) ≥ 8) = true := decide_eq_true (by omega)
              have d4 : decide (8 ≤ k) = true := decide_eq_true (by omega)
              have c1 : decide (0 < nw) = false := decide_eq_false (by omega)
              have c2 : decide (0 < lw) = false := decide_eq_false (by omega)
              replace hgk : ua[k]? = some (.int .u8 1) := hgk
              obtain ⟨hlen, hat⟩ := hfa.out hfr
              obtain ⟨bl, ol, rfl, hbl, hcl⟩ := hrd.out.2 (by omega)
              have hdl := Ext.cell hxW.out (hcl _ _ hat)
              have IR : ∃ k' : Nat, Value.int .i64 ((k : Int) + 1) = .int .i64 (k' : Int) ∧ PtI S w5 k' (.int .i64 ((freeTo S k).length + 1 : Int)) W := ⟨k + 1, rfl, by omega, by rw [hfn.out, if_pos hfr], hxW.out⟩
              have hlen2 := freeTo_len S k
              clear hcl hat
              generalize hTO : (freeTo S k).length = tk at *
              clear hTO
              have l1 : decide ((tk : Int) ≥ ((freeS S).length : Int)) = false := decide_eq_false (by omega)
              have l2 : decide ((freeS S).length ≤ tk) = false := decide_eq_false (by omega)
              have hwt := Lib.hid (IntWalk.wrap64_in ((tk : Int) + 1) (by omega))
              have htk : tk < (freeS S).length := hlen
              replace hlen2 := Lib.hid hlen2
              replace IR := Lib.hid IR
              clear hPC hfn hfa
              replace h8 := Lib.hid h8
              replace hfr := Lib.hid hfr
              go_wp2_with fail
              try rw [hwk.out]
              try rw [hwt.out]
              refine ⟨IR.out, ?_⟩
              simp [intOf]
              omega
            · have d1 : decide ((k : Int) < 8) = false := decide_eq_false (by omega)
              have d2 : decide (k < 8) = false := decide_eq_false (by omega)
              have d3 : decide ((k : Int) ≥ 8) = true := decide_eq_true (by omega)
              have d4 : decide (8 ≤ k) = true := decide_eq_true (by omega)
              have c1 : decide (0 < nw) = false := decide_eq_false (by omega)
              have c2 : decide (0 < lw) = true := decide_eq_true (by omega)
              replace hgk : ua[k]? = some (.int .u8 2) := hgk
              have IR : ∃ k' : Nat, Value.int .i64 ((k : Int) + 1) = .int .i64 (k' : Int) ∧ PtI S w5 k' (.int .i64 ((freeTo S k).length : Int)) W := ⟨k + 1, rfl, by omega, by rw [hfn.out, if_neg (by rw [hfr]; decide)], hxW.out⟩
              replace IR := Lib.hid IR
              clear hPC hfn hfa
              replace h8 := Lib.hid h8
              replace hfr := Lib.hid hfr
              go_wp2_with fail
              try rw [hwk.out]
              refine ⟨IR.out, ?_⟩
              simp [intOf]
              omega
            · have d1 : decide ((k : Int) < 8) = false := decide_eq_false (by omega)
              have d2 : decide (k < 8) = false := decide_eq_false (by omega)
              have d3 : decide ((k : Int) ≥ 8) = true := decide_eq_true (by omega)
              have d4 : decide (8 ≤ k) = true := decide_eq_true (by omega)
              have c1 : decide (0 < nw) = true := decide_eq_true (by omega)
              replace hgk : ua[k]? = some (.int .u8 3) := hgk
              have IR : ∃ k' : Nat, Value.int .i64 ((k : Int) + 1) = .int .i64 (k' : Int) ∧ PtI S w5 k' (.int .i64 ((freeTo S k).length : Int)) W := ⟨k + 1, rfl, by omega, by rw [hfn.out, if_neg (by rw [hfr]; decide)], hxW.out⟩
              replace IR := Lib.hid IR
              clear hPC hfn hfa
              replace h8 := Lib.hid h8
              replace hfr := Lib.hid hfr
              go_wp2_with fail
              try rw [hwk.out]
              refine ⟨IR.out, ?_⟩
              simp [intOf]
              omega
            · have d1 : decide ((k : Int) < 8) = false := decide_eq_false (by omega)
              have d2 : decide (k < 8) = false := decide_eq_false (by omega)
              have d3 : decide ((k : Int) ≥ 8) = true := decide_eq_true (by omega)
              have d4 : decide (8 ≤ k) = true := decide_eq_true (by omega)
              have c1 : decide (0 < nw) = true := decide_eq_true (by omega)
              replace hgk : ua[k]? = some (.int .u8 4) := hgk
              have IR : ∃ k' : Nat, Value.int .i64 ((k : Int) + 1) = .int .i64 (k' : Int) ∧ PtI S w5 k' (.int .i64 ((freeTo S k).length : Int)) W := ⟨k + 1, rfl, by omega, by rw [hfn.out, if_neg (by rw [hfr]; decide)], hxW.out⟩
              replace IR := Lib.hid IR
              clear hPC hfn hfa
              replace h8 := Lib.hid h8
              replace hfr := Lib.hid hfr
              go_wp2_with fail
              try rw [hwk.out]
              refine ⟨IR.out, ?_⟩
              simp [intOf]
              omega
        · obtain rfl : k = 256 := by omega
          have x6 : Ext w wr := x5.trans hx
          have r6 := row_ext r5 hx
          have ru6 := row_ext ru5 hx
          have k6 := cells_row r6
          have hfs : (freeTo S 256).length = (freeS S).length := rfl
          rw [hfs]
          clear hfs r5 ru5 k5 hc3 hc4 hrd hb3 hb4 hx x5 s5 hob
          generalize hfl : (freeS S).length = fl at *
          clear hfl
          generalize hwm : wr = wm at *
          clear hwm
          go_wp2_with fail
          refine (HCM.out wm x6).mono ?_
          rintro e w7 ⟨hB, hC⟩
          have x7 : Ext w w7 := x6.trans hB
          have ru7 := row_ext ru6 hB
          clear hB HCM r6 ru6 k6 x6
          rcases hC with ⟨er, her, rfl⟩ | ⟨-, -, -, bs, -, -, -, hmb, hseen, E1, e1, E2, e2, E3, e3, E4, e4, E5, e5, rfl, hst, hdd⟩
          · have hec : (er == 0) = false := by rw [beq_eq_false_iff_ne]; exact her
            replace her := Lib.hid her
            clear ru7
            go_wp2_with fail
            generalize hw8 : World.alloc w7 _ = w8
            have x8 : Ext w w8 := x7.trans (by rw [← hw8]; exact Ext.alloc _ _)
            clear hw8 x7
            refine (uses_any none 0 0 none 0 0 none 0 0 none 0 0 0 0 0 none 0 ⟨[], [], [], []⟩ [] w8 ⟨⟨[], none, 0, rfl, Nat.le_refl _, by simp [maxLen], Rd.none_, fun i u l h => by simp at h⟩, Wrs.nil _ _, Bys.nil _ _, Bys.nil _ _⟩ (Ints.nil _ _)).mono ?_
            rintro e w9 hQ
            have x9 : Ext w w9 := x8.trans hQ.1
            obtain ⟨A', n', c', er', rfl⟩ := hQ.formP
            clear hQ x8
            go_wp2_with fail
            go_loopw [17] (fun i wr => i = .int .i64 0 ∧ wr = w9) (fun _ _ => 0)
            case atStart => exact ⟨rfl, rfl⟩
            case round =>
              obtain ⟨rfl, rfl⟩ := hrel
              go_wp2_with fail
              go_ret
              exact ⟨rfl, x9⟩
          · have hSM := sm_commit (bs := bs) hpo.out.may hseen
            have hp' := hSM.pool (may_commit hpo.out.may hmb) hpo.out
            have hc' := hSM.counted hpo.out.trees hcn.out
            have HU := Lib.hid (fun W (hW : Ext w7 W) => uses_any E1 _ e1 E2 _ e2 E3 _ e3 E4 _ e4 (gen + 1) root next E5 e5 ⟨bs, [], S.now, S.now⟩ dead W (hst.ext hW) (hdd.ext_ hW))
            replace hp' := Lib.hid hp'
            replace hc' := Lib.hid hc'
            clear hst hdd hSM hseen hmb
            go_wp2_with fail
            generalize hw8 : World.alloc w7 _ = w8
            have x78 : Ext w7 w8 := by rw [← hw8]; exact Ext.alloc _ _
            have x8 : Ext w w8 := x7.trans x78
            have ru8 := row_ext ru7 x78
            clear hw8 ru7 x7
            refine (HU.out w8 x78).mono ?_
            clear HU x78
            rintro e w9 hQ
            have x9 : Ext w w9 := x8.trans hQ.1
            have ru9 := row_ext ru8 hQ.1
            obtain ⟨ov, rfl, -, rv9⟩ := hQ.knownP hp'.out hc'.out (enough_commit hen.out)
            have hPC := Lib.hid (part_commit (bs := bs) hM.out)
            generalize useB S (metB nodes) = us at *
            generalize useB ⟨bs, [], S.now, S.now⟩ (metB nodes) = vs9 at *
            clear hQ x8 ru8 hp' hc' hpo hcn hen hM hn256 hl256
            go_wp2_with fail
            go_loopw [17] (fun i wr => ∃ k : Nat, k ≤ 256 ∧ i = .int .i64 (k : Int) ∧ Ext w9 wr) (fun i _ => 256 - (intOf i).toNat)
            case atStart => exact ⟨0, by omega, rfl, Below.refl _ _⟩
            case round =>
              obtain ⟨k, hk, rfl, hx⟩ := hrel
              by_cases hlt : k < 256
              · have hgu := arrB_get us hlt
                have hgv := arrB_get vs9 hlt
                rw [← List.getElem?_toArray] at hgu hgv
                have gU : ∀ W', extRel.r wr W' → ∀ i, W'.cell? ⟨ob, i, none⟩ = (arrB us).toArray[i]? := fun W' h => cells_row (row_ext ru9 (hx.trans h))
                have gV : ∀ W', extRel.r wr W' → ∀ i, W'.cell? ⟨ov, i, none⟩ = (arrB vs9).toArray[i]? := fun W' h => cells_row (row_ext rv9 (hx.trans h))
                have hP := hPC.out k
                generalize us k = qu at *
                generalize vs9 k = qv at *
                generalize (arrB us).toArray = ua at *
                generalize (arrB vs9).toArray = va at *
                have hwk := Lib.hid (IntWalk.wrap64_in ((k : Int) + 1) (by omega))
                have d1 : decide ((k : Int) < 256) = true := decide_eq_true (by omega)
                have d2 : decide (k < 256) = true := decide_eq_true hlt
                clear ru9 rv9 hPC
                rcases hP with rfl | ⟨rfl, rfl⟩
                · have hne : (((qv : Nat) : Int) != ((qv : Nat) : Int)) = false := by rw [bne_eq_false_iff_eq]
                  go_upto_region 29 with fail
                  refine region_start (by kernel_rfl) ?_
                  refine any_freeT (w := wr) extRel (outsAt []) (List.replicate 27 true) 0 (by kernel_rfl) (by kernel_rfl) (by kernel_rfl) (by kernel_rfl) (by kernel_rfl) (by kernel_rfl) (by kernel_rfl) ?st (Rel.drew _ _) ?walk
                  case st => exact outsAt_stableG (fun _ h => by cases h)
                  case walk =>
                    intro K hK
                    dsimp only [maskOps, List.replicate]
                    repeat ((first | (refine free_plainM ?_ (by rfl) (by rfl) (fun W hW _ => ⟨W, ?_, Rel.refl _ W⟩) ?_; rotate_left; (first | (go_simp; with_reducible rfl) | (go_simp; done))) | (refine free_skipM (by rfl) ?_)); try simp only [Act.put, one_f, outB_f, outNew_f, outI_f, List.setIfInBounds_toArray, List.set_cons_zero, List.set_cons_succ])
                    refine free_plainM (.pointer (some ⟨ov, k, none⟩)) (by rfl) (by rfl) (fun W hW _ => ⟨W, ?_, Rel.refl _ W⟩) ?_
                    · go_simp
                      intro hge
                      exfalso
                      omega
                    simp only [Act.put, one_f, outB_f, outNew_f, outI_f, List.setIfInBounds_toArray, List.set_cons_zero, List.set_cons_succ]
                    repeat ((first | (refine free_plainM ?_ (by rfl) (by rfl) (fun W hW _ => ⟨W, ?_, Rel.refl _ W⟩) ?_; rotate_left; (first | (go_simp; with_reducible rfl) | (go_simp; done))) | (refine free_skipM (by rfl) ?_)); try simp only [Act.put, one_f, outB_f, outNew_f, outI_f, List.setIfInBounds_toArray, List.set_cons_zero, List.set_cons_succ])
                    refine free_plainM (.pointer (some ⟨ob, k, none⟩)) (by rfl) (by rfl) (fun W hW _ => ⟨W, ?_, Rel.refl _ W⟩) ?_
                    · go_simp
                      intro hge
                      exfalso
                      omega
                    simp only [Act.put, one_f, outB_f, outNew_f, outI_f, List.setIfInBounds_toArray, List.set_cons_zero, List.set_cons_succ]
                    repeat ((first | (refine free_plainM ?_ (by rfl) (by rfl) (fun W hW _ => ⟨W, ?_, Rel.refl _ W⟩) ?_; rotate_left; (first | (go_simp; with_reducible rfl) | (go_simp; done))) | (refine free_skipM (by rfl) ?_)); try simp only [Act.put, one_f, outB_f, outNew_f, outI_f, List.setIfInBounds_toArray, List.set_cons_zero, List.set_cons_succ])
                    refine free_nilM (hK _ _ fun W hW hF => ?_)
                    clear hF hK gU gV
                    have hxW : Ext w9 W := hx.trans hW
                    replace hxW := Lib.hid hxW
                    clear hW hx
                    dsimp only [List.drop, List.length_cons, List.length_nil, Nat.reduceAdd, Nat.reduceSub]
                    go_wp2
                    refine QN_in ?_
                    go_wp2_with fail
                    try rw [hwk.out]
                    refine ⟨⟨k + 1, by omega, rfl, hxW.out⟩, ?_⟩
                    simp [intOf]
                    omega
                · go_upto_region 29 with fail
                  refine region_start (by kernel_rfl) ?_
                  refine any_freeT (w := wr) extRel (outsAt []) (List.replicate 27 true) 0 (by kernel_rfl) (by kernel_rfl) (by kernel_rfl) (by kernel_rfl) (by kernel_rfl) (by kernel_rfl) (by kernel_rfl) ?st (Rel.drew _ _) ?walk
                  case st => exact outsAt_stableG (fun _ h => by cases h)
                  case walk =>
                    intro K hK
                    dsimp only [maskOps, List.replicate]
                    repeat ((first | (refine free_plainM ?_ (by rfl) (by rfl) (fun W hW _ => ⟨W, ?_, Rel.refl _ W⟩) ?_; rotate_left; (first | (go_simp; with_reducible rfl) | (go_simp; done))) | (refine free_skipM (by rfl) ?_)); try simp only [Act.put, one_f, outB_f, outNew_f, outI_f, List.setIfInBounds_toArray, List.set_cons_zero, List.set_cons_succ])
                    refine free_plainM (.pointer (some ⟨ov, k, none⟩)) (by rfl) (by rfl) (fun W hW _ => ⟨W, ?_, Rel.refl _ W⟩) ?_
                    · go_simp
                      intro hge
                      exfalso
                      omega
                    simp only [Act.put, one_f, outB_f, outNew_f, outI_f, List.setIfInBounds_toArray, List.set_cons_zero, List.set_cons_succ]
                    repeat ((first | (refine free_plainM ?_ (by rfl) (by rfl) (fun W hW _ => ⟨W, ?_, Rel.refl _ W⟩) ?_; rotate_left; (first | (go_simp; with_reducible rfl) | (go_simp; done))) | (refine free_skipM (by rfl) ?_)); try simp only [Act.put, one_f, outB_f, outNew_f, outI_f, List.setIfInBounds_toArray, List.set_cons_zero, List.set_cons_succ])
                    refine free_plainM (.pointer (some ⟨ob, k, none⟩)) (by rfl) (by rfl) (fun W hW _ => ⟨W, ?_, Rel.refl _ W⟩) ?_
                    · go_simp
                      intro hge
                      exfalso
                      omega
                    simp only [Act.put, one_f, outB_f, outNew_f, outI_f, List.setIfInBounds_toArray, List.set_cons_zero, List.set_cons_succ]
                    repeat ((first | (refine free_plainM ?_ (by rfl) (by rfl) (fun W hW _ => ⟨W, ?_, Rel.refl _ W⟩) ?_; rotate_left; (first | (go_simp; with_reducible rfl) | (go_simp; done))) | (refine free_skipM (by rfl) ?_)); try simp only [Act.put, one_f, outB_f, outNew_f, outI_f, List.setIfInBounds_toArray, List.set_cons_zero, List.set_cons_succ])
                    refine free_plainM (.pointer (some ⟨ob, k, none⟩)) (by rfl) (by rfl) (fun W hW _ => ⟨W, ?_, Rel.refl _ W⟩) ?_
                    · go_simp
                      intro hge
                      exfalso
                      omega
                    simp only [Act.put, one_f, outB_f, outNew_f, outI_f, List.setIfInBounds_toArray, List.set_cons_zero, List.set_cons_succ]
                    repeat ((first | (refine free_plainM ?_ (by rfl) (by rfl) (fun W hW _ => ⟨W, ?_, Rel.refl _ W⟩) ?_; rotate_left; (first | (go_simp; with_reducible rfl) | (go_simp; done))) | (refine free_skipM (by rfl) ?_)); try simp only [Act.put, one_f, outB_f, outNew_f, outI_f, List.setIfInBounds_toArray, List.set_cons_zero, List.set_cons_succ])
                    refine free_plainM (.pointer (some ⟨ov, k, none⟩)) (by rfl) (by rfl) (fun W hW _ => ⟨W, ?_, Rel.refl _ W⟩) ?_
                    · go_simp
                      intro hge
                      exfalso
                      omega
                    simp only [Act.put, one_f, outB_f, outNew_f, outI_f, List.setIfInBounds_toArray, List.set_cons_zero, List.set_cons_succ]
                    repeat ((first | (refine free_plainM ?_ (by rfl) (by rfl) (fun W hW _ => ⟨W, ?_, Rel.refl _ W⟩) ?_; rotate_left; (first | (go_simp; with_reducible rfl) | (go_simp; done))) | (refine free_skipM (by rfl) ?_)); try simp only [Act.put, one_f, outB_f, outNew_f, outI_f, List.setIfInBounds_toArray, List.set_cons_zero, List.set_cons_succ])
                    refine free_nilM (hK _ _ fun W hW hF => ?_)
                    clear hF hK gU gV
                    have hxW : Ext w9 W := hx.trans hW
                    replace hxW := Lib.hid hxW
                    clear hW hx
                    dsimp only [List.drop, List.length_cons, List.length_nil, Nat.reduceAdd, Nat.reduceSub]
                    go_wp2
                    refine QN_in ?_
                    go_wp2_with fail
                    try rw [hwk.out]
                    refine ⟨⟨k + 1, by omega, rfl, hxW.out⟩, ?_⟩
                    simp [intOf]
                    omega
              · obtain rfl : k = 256 := by omega
                clear ru9 rv9 hPC
                go_wp2_with fail
                go_ret
                exact ⟨rfl, Ext.trans x9 hx⟩
end Go.Proofs.Ytlgbjpihmkeopaa
/- What the arguments' readings say of memory. -/
namespace Go.Proofs.Ytlgbjpihmkeopaa
set_option linter.unusedSimpArgs false
set_option linter.unusedVariables false
open Go.RowKit Go.ChangeShapes Go.WideShapes Go.ChangeAt

section
variable {H : Type} {enc : TypeId × Value → H} {P : Program} {W : World}

theorem numOfs_bytes (zs : List Int) (h : ∀ n ∈ zs, (Lit.int .u8 n).wf = true) : ∃ l : List UInt8, zs.map (Value.int .u8) = l.map bv := by
  induction zs with
  | nil => exact ⟨[], rfl⟩
  | cons z r ih =>
    obtain ⟨l, hl⟩ := ih (fun n hn => h n (List.mem_cons_of_mem _ hn))
    have hz := h z (List.mem_cons_self)
    have hb : 0 ≤ z ∧ z ≤ 255 := by simpa [Lit.wf, IntKind.min, IntKind.max, IntKind.signed, IntKind.bits] using hz
    refine ⟨UInt8.ofNat z.toNat :: l, ?_⟩
    simp only [List.map_cons, hl]
    congr 1
    simp only [bv]
    congr 1
    have : (UInt8.ofNat z.toNat).toNat = z.toNat % 256 := by simp
    rw [this]
    omega

theorem rd_of_cells {a : Addr} {n c : Nat} {xs : List Value} (hn : n ≤ c) (hlen : xs.length = n) (hb : ∀ x ∈ MemPlace.row a c, x.block < W.heap.size) (hc : ∀ i u, xs[i]? = some u → W.cell? (a.add i) = some u) : Rd W W.heap.size 1 (some a) n xs := by
  refine ⟨by omega, fun h0 => ?_⟩
  obtain ⟨u, hu⟩ : ∃ u, xs[0]? = some u := ⟨_, List.getElem?_eq_getElem (by omega)⟩
  have h1 := hc 0 u hu
  have hsp : a.spot = none := by
    have : (a.add 0) = a := by simp [Addr.add]
    rw [this] at h1
    unfold World.cell? at h1
    split at h1
    · cases hs : a.spot with
      | none => rfl
      | some s => rw [hs] at h1; simp at h1
    · cases h1
  obtain ⟨b, off, sp⟩ := a
  simp only at hsp
  subst hsp
  have hbl : b < W.heap.size := by
    have : W.cell? ((⟨b, off, none⟩ : Addr).add 0) = some u := h1
    have h2 := World.block_lt_of_cell? W _ this
    simpa [Addr.add] using h2
  refine ⟨b, off, rfl, hbl, fun j v hv => ?_⟩
  rw [← hc j v hv]
  unfold Addr.add
  split
  · subst_vars; rfl
  · rfl

theorem rd_bytes {t e : TypeId} {fuel : Nat} {cs : List Value} {d : DataW H} {p : List MemPlace} (ht : P.underlying t = some (.slice e)) (he : P.underlying e = some (.int .u8)) (hc : P.cellsOf e = 1)
    (h : DataW.trod enc P W 0 (fun _ => true) true fuel t cs = some (d, p)) (hlt : ∀ x ∈ p, x.block < W.heap.size) : ∃ A n c, cs = [.slice A n c] ∧ n ≤ c ∧ ∃ l : List UInt8, Bys W W.heap.size (.slice A n c) l ∧ l.length = n := by
  rcases open_ints ht he hc h with ⟨rfl, _⟩ | ⟨a, len, cap, zs, rfl, _, hl, hm, hz, hx, hcell, hwf⟩
  · exact ⟨none, 0, 0, rfl, Nat.le_refl _, [], Bys.nil W _, rfl⟩
  · simp only [if_true] at hz
    obtain ⟨l, hl'⟩ := numOfs_bytes (zs.take len) (fun n hn => hwf n (List.mem_of_mem_take hn))
    have hll : l.length = len := by
      have := congrArg List.length hl'
      simp only [List.length_map, List.length_take] at this
      omega
    refine ⟨some a, len, cap, rfl, hl, l, ⟨some a, cap, by rw [hll], by omega, hm, ?_⟩, hll⟩
    rw [hll]
    refine rd_of_cells (c := cap) hl (by simp [hll]) (fun x hx' => hlt x ?_) (fun i u hu => ?_)
    · have e2 : p = MemPlace.row a zs.length := by injection hx
      rw [e2, hz]; exact hx'
    · rw [← hl'] at hu
      rw [List.getElem?_map, List.getElem?_take] at hu
      split at hu
      · rename_i hi
        rw [hcell i (by omega)]
        rw [← hu]
        simp [List.getElem?_eq_getElem (show i < zs.length by omega)]
      · cases hu

theorem trod_fields {t : TypeId} {fs : Array Field} {fuel : Nat} {cs : List Value} {x : DataW H × List MemPlace} (ht : P.underlying t = some (.struct fs)) (h : DataW.trod enc P W 0 (fun _ => true) true fuel t cs = some x) :
    ∃ (xs : List (DataW H × List MemPlace)) (n : Nat), cs.length = P.cellsOf t ∧ xs.length = fs.size ∧ x.2 = xs.flatMap (·.2) ∧
      ∀ (i : Nat) (T : TypeId) (off m : Nat), (fs[i]?).map (fun f => (f.type, f.offset)) = some (T, off) → P.cellsOf T = m → DataW.trod enc P W 0 (fun _ => true) true n T ((cs.drop off).take m) = xs[i]? := by
  obtain ⟨xs, n, _, hx, hl, hxl, hf⟩ := DataW.trod_struct ht h
  refine ⟨xs, n, hl, hxl, by rw [hx], fun i T off m hi hm => ?_⟩
  obtain ⟨f, hfi, he⟩ := Option.map_eq_some_iff.1 hi
  have := hf i f hfi
  simp only [Prod.mk.injEq] at he
  rw [he.1, he.2, hm] at this
  exact this
end
end Go.Proofs.Ytlgbjpihmkeopaa
/- From a law's walk to its row: the arguments read behind the call as they did. -/
namespace Go.Proofs.Ytlgbjpihmkeopaa
set_option linter.unusedSimpArgs false
set_option linter.unusedVariables false
open Go.RowKit Go.ChangeShapes Go.WideShapes Go.ChangeAt

section
variable {H : Type} {enc : TypeId × Value → H} {P : Program}
theorem trodAll_stays (hl : laidOutB P = true) {W W' : World} {sp : Nat → Bool} : ∀ (ts : List TypeId) (vs : List Value) (ds : List (DataW H)) (p : List MemPlace), DataW.TrodAll enc P W 0 (fun _ => true) true ts vs ds p →
    (∀ t ∈ ts, P.readableRec t = true ∧ t < P.types.size) → (∀ x ∈ p, W.sameAt W' x) → (∀ x ∈ p, sp x.block = true) → DataW.TrodAll enc P W' 0 sp true ts vs ds p
  | [], vs, ds, p, h, _, _, _ => by
    obtain ⟨rfl, rfl, rfl⟩ := trodAll_nil h
    exact trodAll_mk0
  | t :: ts, vs, ds, p, h, ht, hs, hsp => by
    obtain ⟨v, vs', d, ds', p0, q0, rfl, rfl, rfl, h0, h1⟩ := trodAll_cons h
    have e := ht t (List.mem_cons_self)
    exact trodAll_cons_mk (WideElems.Trod_stays hl e.1 e.2 h0 (fun x hx => hs x (List.mem_append_left _ hx)) (fun x hx => hsp x (List.mem_append_left _ hx)))
      (trodAll_stays hl ts vs' ds' q0 h1 (fun t' h' => ht t' (List.mem_cons_of_mem _ h')) (fun x hx => hs x (List.mem_append_right _ hx)) (fun x hx => hsp x (List.mem_append_right _ hx)))

theorem law_post {f : Func} {s : ChangeSpec} {W W' : World} {args : Array Value} {ds gs : List (DataW H)} {before : List MemPlace} {b : TypeId} (hv : s.vars = []) (hl : laidOutB P = true)
    (hr : f.resultTypes = #[b]) (hb : P.underlying b = some .bool) (ht : ∀ t ∈ f.params.toList, P.readableRec t = true ∧ t < P.types.size)
    (hW : DataW.Whole enc P f.params.toList s.vars false W args.toList ds gs before) (hs : s.fn H (ds ++ gs) = { results := [.lit (.bool true)], args := ds, vars := [] }) (hB : Below W.heap.size W W') :
    s.post enc P f false true false false W args (.bool true) W' := by
  have hlt : ∀ x ∈ before, x.block < W.heap.size := fun x hx => hW.lt x hx
  have hW0 := hW
  obtain ⟨p, q, hA, hV, rfl, _, _⟩ := hW
  have hq : q = [] := by
    rw [hv] at hV
    cases gs with
    | nil => exact hV
    | cons g gs => cases hV
  subst hq
  refine ⟨ds, gs, p ++ [], [], p, [], hW0, ?_, ?_, ?_, ?_, fun h => by cases h⟩
  · rw [hs, hr]
    exact trodAll_cons_mk (shut_bool hb true) trodAll_mk0
  · rw [hs]
    exact trodAll_stays hl _ _ _ _ hA ht (fun x hx => hB.same (hlt x (by simpa using hx))) (fun x hx => by simpa using hlt x (by simpa using hx))
  · rw [hs, hv]
    exact rfl
  · exact World.keptBut_mono (fun x hx => ⟨by simpa using hx, Or.inr (Or.inl hx)⟩) (hB.frame (· ∈ p))
end
end Go.Proofs.Ytlgbjpihmkeopaa
/- The readings of pools. -/
namespace Go.Proofs.Ytlgbjpihmkeopaa
set_option linter.unusedSimpArgs false
set_option linter.unusedVariables false
open Go.RowKit Go.ChangeShapes Go.WideShapes Go.ChangeAt Go.Deep

theorem Try.cc_u8 : Try.prog.cellsOf 5 = 1 := by kernel_rfl
theorem Try.cc_u32 : Try.prog.cellsOf 29 = 1 := by kernel_rfl
theorem Try.cc_int : Try.prog.cellsOf 3 = 1 := by kernel_rfl
theorem Try.cc_bytes : Try.prog.cellsOf 26 = 1 := by kernel_rfl
theorem Try.cc_blocks : Try.prog.cellsOf 22 = 1 := by kernel_rfl
theorem Try.cc_writes : Try.prog.cellsOf 23 = 1 := by kernel_rfl
theorem Try.cc_ints : Try.prog.cellsOf 30 = 1 := by kernel_rfl
theorem Try.cc_write : Try.prog.cellsOf 137 = 2 := by kernel_rfl
theorem Try.cc_disk : Try.prog.cellsOf 25 = 2 := by kernel_rfl
theorem Try.cc_store : Try.prog.cellsOf 28 = 4 := by kernel_rfl
theorem Try.cc_pool : Try.prog.cellsOf 32 = 8 := by kernel_rfl

section
variable {H : Type} {enc : TypeId × Value → H} {W : World}
theorem rd_of_cellsN {size : Nat} {a : Addr} {n : Nat} {xs : List Value} (hlen : xs.length = n * size) (hz : 0 < size) (hb : ∀ x ∈ MemPlace.row a (n * size), x.block < W.heap.size) (hc : ∀ i u, xs[i]? = some u → W.cell? (a.add i) = some u) : Rd W W.heap.size size (some a) n xs := by
  refine ⟨hlen, fun h0 => ?_⟩
  have hpos : 0 < xs.length := by rw [hlen]; exact Nat.mul_pos h0 hz
  obtain ⟨u, hu⟩ : ∃ u, xs[0]? = some u := ⟨_, List.getElem?_eq_getElem hpos⟩
  have h1 := hc 0 u hu
  have hsp : a.spot = none := by
    have : (a.add 0) = a := by simp [Addr.add]
    rw [this] at h1
    unfold World.cell? at h1
    split at h1
    · cases hs : a.spot with
      | none => rfl
      | some s => rw [hs] at h1; simp at h1
    · cases h1
  obtain ⟨b, off, sp⟩ := a
  simp only at hsp
  subst hsp
  have hbl : b < W.heap.size := by
    have : W.cell? ((⟨b, off, none⟩ : Addr).add 0) = some u := h1
    have h2 := World.block_lt_of_cell? W _ this
    simpa [Addr.add] using h2
  refine ⟨b, off, rfl, hbl, fun j v hv => ?_⟩
  rw [← hc j v hv]
  unfold Addr.add
  split
  · subst_vars; rfl
  · rfl
theorem rd_blocks {fuel : Nat} {cs : List Value} {d : DataW H} {p : List MemPlace} (h : DataW.trod enc Try.prog W 0 (fun _ => true) true fuel 22 cs = some (d, p)) (hlt : ∀ x ∈ p, x.block < W.heap.size) :
    ∃ A c bs, cs = [.slice A bs.length c] ∧ Bls W W.heap.size (.slice A bs.length c) bs := by
  rcases open_slice1 Try.underlying22 Try.cc_bytes h with ⟨rfl, _⟩ | ⟨a, len, cap, m, n, V, D, Pl, rfl, _, hl, hm, hmm, hx, hel⟩
  · exact ⟨none, 0, [], rfl, [], none, 0, rfl, Nat.le_refl _, by simp [maxLen], Rd.none_, fun i u l hu => by simp at hu⟩
  · simp only [if_true] at hmm
    subst hmm
    have hp : p = MemPlace.row a m ++ (List.range m).flatMap Pl := congrArg Prod.snd hx
    have hb : ∀ i, i < len → ∃ l : List UInt8, Bys W W.heap.size (V i) l := fun i hi => by
      obtain ⟨_, h2⟩ := hel i (by omega)
      obtain ⟨A, n', c', e, _, l, hby, _⟩ := rd_bytes Try.underlying26 Try.underlying5 Try.cc_u8 h2 (fun x hx' => hlt x (by
        rw [hp]
        exact List.mem_append_right _ (List.mem_flatMap.2 ⟨i, List.mem_range.2 (by omega), hx'⟩)))
      simp only [List.cons.injEq, and_true] at e
      exact ⟨l, by rw [e]; exact hby⟩
    obtain ⟨L, hL⟩ := choose_lt (α := List UInt8) (p := fun i l => Bys W W.heap.size (V i) l) hb
    refine ⟨some a, m, (List.range len).map L, by simp, (List.range len).map V, some a, m, by simp, by simpa using hl, hm, ?_, fun i u l hu hll => ?_⟩
    · rw [List.length_map, List.length_range]
      refine rd_of_cells (c := m) hl (by simp) (fun x hx' => hlt x (by rw [hp]; exact List.mem_append_left _ hx')) (fun i u hu => ?_)
      have hi : i < len := by
        have := (List.getElem?_eq_some_iff.1 hu).1
        simpa using this
      rw [List.getElem?_map, List.getElem?_range hi] at hu
      cases hu
      exact (hel i (by omega)).1
    · have hi : i < len := by
        have := (List.getElem?_eq_some_iff.1 hu).1
        simpa using this
      rw [List.getElem?_map, List.getElem?_range hi] at hu hll
      cases hu
      cases hll
      exact hL i hi
theorem rd_write {fuel : Nat} {cs : List Value} {d : DataW H} {p : List MemPlace} (h : DataW.trod enc Try.prog W 0 (fun _ => true) true fuel 137 cs = some (d, p)) (hlt : ∀ x ∈ p, x.block < W.heap.size) :
    ∃ a A l c, cs = [.int .i64 a, .slice A l.length c] ∧ Bys W W.heap.size (.slice A l.length c) l ∧ (Lit.int .i64 a).wf = true := by
  obtain ⟨xs, n, hl, hxl, hp, hf⟩ := trod_fields Try.underlying137 h
  rw [Try.cc_write] at hl
  match cs, hl with
  | [c0, c1], _ =>
    match xs, hxl with
    | [y0, y1], _ =>
      have g0 : _ = some y0 := hf 0 3 0 1 rfl Try.cc_int
      have g1 : _ = some y1 := hf 1 26 1 1 rfl Try.cc_bytes
      simp only [List.drop, List.take] at g0 g1
      obtain ⟨a, ea, _, wa⟩ := DataW.trod_int Try.underlying3 g0
      have hp2 : p = y0.2 ++ (y1.2 ++ []) := hp
      obtain ⟨d1, p1⟩ := y1
      obtain ⟨A, m, c, es, hmc, l, hb, hlen⟩ := rd_bytes Try.underlying26 Try.underlying5 Try.cc_u8 g1 (fun x hx => hlt x (by rw [hp2]; simp [hx]))
      simp only [List.cons.injEq, and_true] at ea es
      subst ea es hlen
      exact ⟨a, A, l, c, rfl, hb, wa⟩
theorem rd_writes {fuel : Nat} {cs : List Value} {d : DataW H} {p : List MemPlace} (h : DataW.trod enc Try.prog W 0 (fun _ => true) true fuel 23 cs = some (d, p)) (hlt : ∀ x ∈ p, x.block < W.heap.size) :
    ∃ A c ws, cs = [.slice A ws.length c] ∧ Wrs W W.heap.size (.slice A ws.length c) ws := by
  rcases open_slice Try.underlying23 h with ⟨rfl, _⟩ | ⟨a, len, cap, m, n, D, Pl, rfl, _, hl, hm, hmm, hx, hel⟩
  · exact ⟨none, 0, [], rfl, [], rfl, ⟨none, 0, rfl, Nat.le_refl _, by simp [maxLen], Rd.none_⟩, fun p h => by cases h⟩
  · simp only [if_true] at hmm
    subst hmm
    rw [Try.cc_write] at hx hel
    have hp : p = MemPlace.row a (m * 2) ++ (List.range m).flatMap Pl := congrArg Prod.snd hx
    have hb : ∀ i, i < len → ∃ q : (Int × List UInt8) × Value, (∃ A c, q.2 = .slice A q.1.2.length c) ∧ Bys W W.heap.size q.2 q.1.2 ∧ W.cell? (a.add (i * 2)) = some (.int .i64 q.1.1) ∧ W.cell? (a.add (i * 2 + 1)) = some q.2 := fun i hi => by
      obtain ⟨cs', h1, h2⟩ := hel i (by omega)
      obtain ⟨_, _, h3⟩ := World.cells?_some h1
      obtain ⟨r, A, l, c, rfl, hby, _⟩ := rd_write h2 (fun x hx' => hlt x (by
        rw [hp]
        exact List.mem_append_right _ (List.mem_flatMap.2 ⟨i, List.mem_range.2 (by omega), hx'⟩)))
      have e0 := h3 0 (by omega)
      have e1 := h3 1 (by omega)
      have ea : ∀ j, (a.add (i * 2)).add j = a.add (i * 2 + j) := fun j => by
        unfold Addr.add
        repeat' split
        all_goals simp_all
        all_goals omega
      rw [ea] at e0 e1
      exact ⟨((r, l), .slice A l.length c), ⟨A, c, rfl⟩, hby, e0, e1⟩
    obtain ⟨Q, hQ⟩ := choose_lt (α := (Int × List UInt8) × Value) (p := fun i q => (∃ A c, q.2 = .slice A q.1.2.length c) ∧ Bys W W.heap.size q.2 q.1.2 ∧ W.cell? (a.add (i * 2)) = some (.int .i64 q.1.1) ∧ W.cell? (a.add (i * 2 + 1)) = some q.2) hb
    refine ⟨some a, m, ((List.range len).map Q).map (·.1), by simp, (List.range len).map Q, rfl, ⟨some a, m, by simp, by simpa using hl, hm, ?_⟩, fun q hq => ?_⟩
    · rw [List.length_map, List.length_map, List.length_range]
      refine rd_of_cellsN (by rw [cells2_len]; simp) (by omega) (fun x hx' => hlt x ?_) (fun j u hu => ?_)
      · rw [hp]
        refine List.mem_append_left _ ?_
        unfold MemPlace.row at hx' ⊢
        rw [List.mem_map] at hx' ⊢
        obtain ⟨k, hk, e⟩ := hx'
        exact ⟨k, List.mem_range.2 (by have := List.mem_range.1 hk; omega), e⟩
      · have hj : j < len * 2 := by
          have := (List.getElem?_eq_some_iff.1 hu).1
          rw [cells2_len] at this
          simpa using this
        obtain ⟨c0, c1⟩ := cells2_at ((List.range len).map Q) (j / 2) (by simp; omega)
        obtain ⟨_, _, q0, q1⟩ := hQ (j / 2) (by omega)
        rcases (show j = j / 2 * 2 ∨ j = j / 2 * 2 + 1 by omega) with e | e
        · have hu' : some u = some _ := (hu.symm.trans (congrArg (fun t => (cells2 ((List.range len).map Q))[t]?) e)).trans c0
          cases hu'
          rw [show a.add j = a.add (j / 2 * 2) from congrArg _ e, q0]
          simp
        · have hu' : some u = some _ := (hu.symm.trans (congrArg (fun t => (cells2 ((List.range len).map Q))[t]?) e)).trans c1
          cases hu'
          rw [show a.add j = a.add (j / 2 * 2 + 1) from congrArg _ e, q1]
          simp
    · obtain ⟨i, hi, rfl⟩ := List.mem_map.1 hq
      obtain ⟨q0, q1, _⟩ := hQ i (List.mem_range.1 hi)
      exact ⟨q0, q1⟩
theorem rd_ints {fuel : Nat} {cs : List Value} {d : DataW H} {p : List MemPlace} (h : DataW.trod enc Try.prog W 0 (fun _ => true) true fuel 30 cs = some (d, p)) (hlt : ∀ x ∈ p, x.block < W.heap.size) :
    ∃ A c l, cs = [.slice A l.length c] ∧ Ints W W.heap.size (.slice A l.length c) l ∧ ∀ a ∈ l, (Lit.int .i64 a).wf = true := by
  rcases open_ints Try.underlying30 Try.underlying3 Try.cc_int h with ⟨rfl, _⟩ | ⟨a, len, cap, zs, rfl, _, hl, hm, hz, hx, hcell, hwf⟩
  · exact ⟨none, 0, [], rfl, ⟨none, 0, rfl, Nat.le_refl _, by simp [maxLen], Rd.none_⟩, fun a h => by cases h⟩
  · simp only [if_true] at hz
    have hp : p = MemPlace.row a zs.length := congrArg Prod.snd hx
    have hll : (zs.take len).length = len := by rw [List.length_take]; omega
    refine ⟨some a, cap, zs.take len, by rw [hll], ⟨some a, cap, rfl, by omega, hm, ?_⟩, fun n hn => hwf n (List.mem_of_mem_take hn)⟩
    rw [hll]
    refine rd_of_cells (c := cap) hl (by simp; omega) (fun x hx' => hlt x (by rw [hp, hz]; exact hx')) (fun i u hu => ?_)
    rw [List.getElem?_map, List.getElem?_take] at hu
    split at hu
    · rename_i hi
      rw [hcell i (by omega), ← hu]
      simp [List.getElem?_eq_getElem (show i < zs.length by omega)]
    · cases hu
theorem rd_disk {fuel : Nat} {cs : List Value} {d : DataW H} {p : List MemPlace} (h : DataW.trod enc Try.prog W 0 (fun _ => true) true fuel 25 cs = some (d, p)) (hlt : ∀ x ∈ p, x.block < W.heap.size) :
    ∃ A1 c1 A2 c2 bs ws, cs = [.slice A1 (List.length bs) c1, .slice A2 (List.length ws) c2] ∧ Bls W W.heap.size (.slice A1 bs.length c1) bs ∧ Wrs W W.heap.size (.slice A2 ws.length c2) ws := by
  obtain ⟨xs, n, hl, hxl, hp, hf⟩ := trod_fields Try.underlying25 h
  rw [Try.cc_disk] at hl
  match cs, hl with
  | [c0, c1], _ =>
    match xs, hxl with
    | [(d0, p0), (d1, p1)], _ =>
      have g0 : _ = some (d0, p0) := hf 0 22 0 1 rfl Try.cc_blocks
      have g1 : _ = some (d1, p1) := hf 1 23 1 1 rfl Try.cc_writes
      simp only [List.drop, List.take] at g0 g1
      have hp2 : p = p0 ++ (p1 ++ []) := hp
      obtain ⟨A1, k1, bs, e1, h1⟩ := rd_blocks g0 (fun x hx => hlt x (by rw [hp2]; simp [hx]))
      obtain ⟨A2, k2, ws, e2, h2⟩ := rd_writes g1 (fun x hx => hlt x (by rw [hp2]; simp [hx]))
      simp only [List.cons.injEq, and_true] at e1 e2
      subst e1 e2
      exact ⟨A1, k1, A2, k2, bs, ws, rfl, h1, h2⟩
theorem rd_store {fuel : Nat} {cs : List Value} {d : DataW H} {p : List MemPlace} (h : DataW.trod enc Try.prog W 0 (fun _ => true) true fuel 28 cs = some (d, p)) (hlt : ∀ x ∈ p, x.block < W.heap.size) :
    ∃ A1 c1 A2 c2 A3 c3 A4 c4, ∃ S : Sto, cs = [.slice A1 S.bs.length c1, .slice A2 S.ws.length c2, .slice A3 S.now.length c3, .slice A4 S.last.length c4] ∧ StoAt W W.heap.size (.slice A1 S.bs.length c1) (.slice A2 S.ws.length c2) (.slice A3 S.now.length c3) (.slice A4 S.last.length c4) S := by
  obtain ⟨xs, n, hl, hxl, hp, hf⟩ := trod_fields Try.underlying28 h
  rw [Try.cc_store] at hl
  match cs, hl with
  | [c0, c1, c2, c3], _ =>
    match xs, hxl with
    | [(d0, p0), (d1, p1), (d2, p2)], _ =>
      have g0 : _ = some (d0, p0) := hf 0 25 0 2 rfl Try.cc_disk
      have g1 : _ = some (d1, p1) := hf 1 26 2 1 rfl Try.cc_bytes
      have g2 : _ = some (d2, p2) := hf 2 26 3 1 rfl Try.cc_bytes
      simp only [List.drop, List.take] at g0 g1 g2
      have hp2 : p = p0 ++ (p1 ++ (p2 ++ [])) := hp
      obtain ⟨A1, k1, A2, k2, bs, ws, e1, h1, h2⟩ := rd_disk g0 (fun x hx => hlt x (by rw [hp2]; simp [hx]))
      obtain ⟨A3, n3, k3, e3, _, l3, h3, q3⟩ := rd_bytes Try.underlying26 Try.underlying5 Try.cc_u8 g1 (fun x hx => hlt x (by rw [hp2]; simp [hx]))
      obtain ⟨A4, n4, k4, e4, _, l4, h4, q4⟩ := rd_bytes Try.underlying26 Try.underlying5 Try.cc_u8 g2 (fun x hx => hlt x (by rw [hp2]; simp [hx]))
      simp only [List.cons.injEq, and_true] at e1 e3 e4
      obtain ⟨rfl, rfl⟩ := e1
      subst e3 e4 q3 q4
      exact ⟨A1, k1, A2, k2, A3, k3, A4, k4, ⟨bs, ws, l3, l4⟩, rfl, h1, h2, h3, h4⟩
theorem rd_pool {fuel : Nat} {cs : List Value} {d : DataW H} {p : List MemPlace} (h : DataW.trod enc Try.prog W 0 (fun _ => true) true fuel 32 cs = some (d, p)) (hlt : ∀ x ∈ p, x.block < W.heap.size) :
    ∃ A1 c1 A2 c2 A3 c3 A4 c4 gen root next A5 c5, ∃ (S : Sto) (dead : List Int), cs = (poolCs (.slice A1 S.bs.length c1) (.slice A2 S.ws.length c2) (.slice A3 S.now.length c3) (.slice A4 S.last.length c4) gen root next (.slice A5 dead.length c5)).toList ∧
      StoAt W W.heap.size (.slice A1 S.bs.length c1) (.slice A2 S.ws.length c2) (.slice A3 S.now.length c3) (.slice A4 S.last.length c4) S ∧ Ints W W.heap.size (.slice A5 dead.length c5) dead ∧
      (Lit.int .u32 gen).wf = true ∧ (Lit.int .i64 root).wf = true ∧ (Lit.int .u32 next).wf = true ∧ ∀ a ∈ dead, (Lit.int .i64 a).wf = true := by
  obtain ⟨xs, n, hl, hxl, hp, hf⟩ := trod_fields Try.underlying32 h
  rw [Try.cc_pool] at hl
  match cs, hl with
  | [c0, c1, c2, c3, c4, c5, c6, c7], _ =>
    match xs, hxl with
    | [(d0, p0), (d1, p1), (d2, p2), (d3, p3), (d4, p4)], _ =>
      have g0 : _ = some (d0, p0) := hf 0 28 0 4 rfl Try.cc_store
      have g1 : _ = some (d1, p1) := hf 1 29 4 1 rfl Try.cc_u32
      have g2 : _ = some (d2, p2) := hf 2 3 5 1 rfl Try.cc_int
      have g3 : _ = some (d3, p3) := hf 3 29 6 1 rfl Try.cc_u32
      have g4 : _ = some (d4, p4) := hf 4 30 7 1 rfl Try.cc_ints
      simp only [List.drop, List.take] at g0 g1 g2 g3 g4
      have hp2 : p = p0 ++ (p1 ++ (p2 ++ (p3 ++ (p4 ++ [])))) := hp
      obtain ⟨A1, k1, A2, k2, A3, k3, A4, k4, S, e0, hS⟩ := rd_store g0 (fun x hx => hlt x (by rw [hp2]; simp [hx]))
      obtain ⟨gen, e1, _, w1⟩ := DataW.trod_int Try.underlying29 g1
      obtain ⟨root, e2, _, w2⟩ := DataW.trod_int Try.underlying3 g2
      obtain ⟨next, e3, _, w3⟩ := DataW.trod_int Try.underlying29 g3
      obtain ⟨A5, k5, dead, e4, hd, w4⟩ := rd_ints g4 (fun x hx => hlt x (by rw [hp2]; simp [hx]))
      simp only [List.cons.injEq, and_true] at e0 e1 e2 e3 e4
      obtain ⟨rfl, rfl, rfl, rfl⟩ := e0
      subst e1 e2 e3 e4
      exact ⟨A1, k1, A2, k2, A3, k3, A4, k4, gen, root, next, A5, k5, S, dead, rfl, hS, hd, w1, w2, w3, w4⟩
end
end Go.Proofs.Ytlgbjpihmkeopaa
namespace Go.Proofs.Ytlgbjpihmkeopaa.checkParts
set_option linter.unusedSimpArgs false
set_option linter.unusedVariables false
open Go.ChangeShapes Go.WideShapes Go.ChangeAt Go.RowKit

theorem own : ownKnob Try.prog.godebug = none := by kernel_rfl
theorem laidOut : laidOutB Try.prog = true := by kernel_rfl

theorem nat_u32 {n : Int} (h : (Lit.int .u32 n).wf = true) : ∃ m : Nat, n = (m : Int) ∧ m < 4294967296 := by
  have h2 : IntKind.u32.min ≤ n ∧ n ≤ IntKind.u32.max := by simpa [Lit.wf] using h
  have e1 : IntKind.u32.min = 0 := by decide
  have e2 : IntKind.u32.max = 4294967295 := by decide
  exact ⟨n.toNat, by omega, by omega⟩
set_option maxHeartbeats 1000000 in
set_option maxRecDepth 100000 in
theorem lifted (os : Os) (started : os.Started) (H : Type) (enc : TypeId × Value → H) :
    ReturnsInHanded {} Try.checked os 4 .any (Rows.checkPartsSpec.pre6 enc Try.prog Try.f4 Rows.checkPartsRow.domain false) (Rows.checkPartsSpec.post enc Try.prog Try.f4 false true false false) := by
  refine returnsInHanded_of_change (C := Try.checked) own started (by kernel_rfl) Try.func4
    (ChangeSpec.witness6 (enc := enc) (C := Try.checked) false ⟨#[], #[.agg (poolCs (.slice none 0 0) (.slice none 0 0) (.slice none 0 0) (.slice none 0 0) 0 0 0 (.slice none 0 0))], []⟩ 8 (by kernel_rfl) (by kernel_rfl) (by kernel_rfl) (by kernel_rfl)) ?_
  intro W base args ds gs before hval0 hW hcnd _
  have hval : ∀ (j : Nat) t v, Try.f4.params[j]? = some t → args[j]? = some v → Value.okWide Try.prog W .any base t v := hval0
  have hW' := hW
  have hlt : ∀ x ∈ before, x.block < W.heap.size := fun x hx => hW.lt x hx
  obtain ⟨p, q, hA0, hV, rfl, hfz, hnd⟩ := hW
  have hA : DataW.TrodAll enc Try.prog W 0 (fun _ => true) true Try.f4.params.toList args.toList ds p := hA0
  rw [Try.params4] at hA hval
  obtain ⟨v0, vs0, d0, ds0, p0, q0, hargs, rfl, rfl, h0, r0⟩ := trodAll_cons hA
  obtain ⟨rfl, rfl, rfl⟩ := trodAll_nil r0
  obtain rfl : args = #[v0] := by cases args; simp_all
  obtain ⟨rfl, rfl⟩ := trodVars_none hV
  obtain ⟨cs0, rfl, _⟩ := okWide_struct Try.underlying32 (hval 0 32 v0 rfl rfl)
  obtain ⟨n0, h0⟩ := h0
  obtain ⟨A1, c1, A2, c2, A3, c3, A4, c4, gen, root, next, A5, c5, S, dead, e0, hS, hd, wg, _, wn, _⟩ := rd_pool h0 (fun x hx => hlt x (by simp [hx]))
  have e0' : cs0 = poolCs (.slice A1 S.bs.length c1) (.slice A2 S.ws.length c2) (.slice A3 S.now.length c3) (.slice A4 S.last.length c4) gen root next (.slice A5 dead.length c5) := by
    obtain ⟨cs0⟩ := cs0
    have : cs0 = _ := e0
    rw [this]
  subst e0'
  obtain ⟨g, rfl, hg⟩ := nat_u32 wg
  obtain ⟨n, rfl, hn⟩ := nat_u32 wn
  have walk : Calls Try.prog 4 #[.agg (poolCs (.slice A1 S.bs.length c1) (.slice A2 S.ws.length c2) (.slice A3 S.now.length c3) (.slice A4 S.last.length c4) g root n (.slice A5 dead.length c5))] W (Ret (.bool true) W) := cparts_any A1 c1 A2 c2 A3 c3 A4 c4 g n hg hn root A5 c5 S dead W hS hd
  refine walk.mono fun e W' ⟨he, hB⟩ => ?_
  subst he
  exact ⟨_, rfl, law_post rfl laidOut rfl Try.underlying4 (by
    intro t ht
    have : t = 32 := by rw [Try.params4] at ht; simpa using ht
    subst this
    exact ⟨by kernel_rfl, of_decide_eq_true (by kernel_rfl)⟩) hW' rfl hB⟩

theorem over : Rows.checkPartsRow.holds Try.pinned (OpenSpec.ofChange Rows.checkPartsSpec) :=
  OpenClaim.holds_of_wide 4 Try.f4 rfl rfl rfl rfl rfl rfl rfl ⟨rfl, rfl, rfl, rfl, rfl⟩ rfl rfl rfl rfl rfl (by kernel_rfl) Try.func4 (by kernel_rfl)
    (of_decide_eq_true (by kernel_rfl)) (by unfold Func.isWrapper; first | (rw [if_pos (by decide +kernel)]; kernel_rfl) | (rw [if_neg (by decide +kernel)]; exact ⟨rfl, rfl⟩))
    (fun os started H enc _ => lifted os started H enc)

theorem proved : Rows.CheckPartsSaid := over
end Go.Proofs.Ytlgbjpihmkeopaa.checkParts
