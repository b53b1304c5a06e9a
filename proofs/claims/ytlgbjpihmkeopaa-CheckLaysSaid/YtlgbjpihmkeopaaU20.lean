/- Texts Data, LooseR, VolS, Roomy, joined. -/
import Derived.Defers
import Derived.Test.YtlgbjpihmkeopaaU12
import Derived.Test.YtlgbjpihmkeopaaU14
import Derived.Test.YtlgbjpihmkeopaaU15
import Derived.Test.YtlgbjpihmkeopaaU19
/- Contracts: what is wrong with a block that has to be a data block. -/
namespace Go.Proofs.Ytlgbjpihmkeopaa
set_option linter.unusedSimpArgs false
set_option linter.unusedVariables false
open Go.RowKit

def dataE (S : Sto) (refs nodes : Nat → Nat) (a : Int) (held : Bool) : Int := if 8 ≤ a ∧ a < 256 then (if nowN S a.toNat = 0 ∨ 0 < nodes a.toNat ∨ (held = true ∧ nowN S a.toNat ≤ refs a.toNat) then 6 else 0) else 2
theorem dataE_out {S : Sto} {refs nodes : Nat → Nat} {a : Int} (h : ¬(8 ≤ a ∧ a < 256)) (held : Bool) : dataE S refs nodes a held = 2 := by unfold dataE; rw [if_neg h]
theorem dataE_in (S : Sto) (refs nodes : Nat → Nat) {a : Nat} (h8 : 8 ≤ a) (h : a < 256) (held : Bool) : dataE S refs nodes (a : Int) held = if nowN S a = 0 ∨ 0 < nodes a ∨ (held = true ∧ nowN S a ≤ refs a) then 6 else 0 := by
  unfold dataE
  rw [if_pos (by omega), Int.toNat_natCast]
theorem mem_met {nodes : Nat → Nat} {a : Nat} (h : a < 256) : a ∈ metTo nodes 256 ↔ 0 < nodes a := by
  unfold metTo
  simp [h]
def DataQ (S : Sto) (root next : Int) (dead : List Int) (a : Int) (held : Bool) (w : World) (e : Ending) (w' : World) : Prop := Below w.heap.size w w' ∧
  ((e = .returned (.int .i64 8) ∧ ∀ vs, PoolB S root next dead vs → ∃ refs nodes, Counted S (rootsN root dead vs) refs nodes ∧ ¬ Enough S refs) ∨
    ∃ vs refs nodes, PoolB S root next dead vs ∧ Counted S (rootsN root dead vs) refs nodes ∧ Enough S refs ∧ e = .returned (.int .i64 (dataE S refs nodes a held)))
theorem data_ret {R : Ending → World → Prop} {a : Act} {W : World} {u : Value} (h6 : a.tmps[6]?.getD undef = u) (hd : a.defers = []) (hR : R (.returned u) W) : bodyPost Try.prog Try.f43 R .ret a W := by
  refine bodyPost_ret (v := u) ?_ hd hR
  simp [results, Try.results43, go_sem, h6]
theorem enough_same {S : Sto} {R : List Nat} {refs refs' nodes nodes' : Nat → Nat} (h : Counted S R refs nodes) (h' : Counted S R refs' nodes') : refs = refs' := (Marked.same h.mkd h'.mkd).2
set_option maxHeartbeats 4000000 in
set_option maxRecDepth 100000 in
theorem data_any (A1 : Option Addr) (n1 c1 : Nat) (A2 : Option Addr) (n2 c2 : Nat) (A3 : Option Addr) (n3 c3 : Nat) (A4 : Option Addr) (n4 c4 : Nat) (gen root next : Int) (A5 : Option Addr) (c5 : Nat) (S : Sto) (dead : List Int) (a : Int) (held : Bool) (w : World)
    (h : StoAt w w.heap.size (.slice A1 n1 c1) (.slice A2 n2 c2) (.slice A3 n3 c3) (.slice A4 n4 c4) S) (hd : Ints w w.heap.size (.slice A5 dead.length c5) dead) :
    Calls Try.prog 43 #[.agg (poolCs (.slice A1 n1 c1) (.slice A2 n2 c2) (.slice A3 n3 c3) (.slice A4 n4 c4) gen root next (.slice A5 dead.length c5)), .int .i64 a, .bool held] w (DataQ S root next dead a held w) := by
  have HI := fun W (hx : Ext w W) => (show Ints W W.heap.size (.slice A5 dead.length c5) dead by
    obtain ⟨A, c, e, q1, q2, q3⟩ := hd
    exact ⟨A, c, e, q1, q2, (q3.below hx).more hx.size⟩)
  have HR := Lib.hid (fun W (hx : Ext w W) => refs_any A1 n1 c1 A2 n2 c2 A3 n3 c3 A4 n4 c4 gen root next A5 c5 S dead W (h.ext hx) (HI W hx))
  have HN := Lib.hid (fun W (hx : Ext w W) => nodes_any A1 n1 c1 A2 n2 c2 A3 n3 c3 A4 n4 c4 gen root next A5 c5 S dead W (h.ext hx) (HI W hx))
  replace h := Lib.hid h
  clear hd HI
  go_enter Try.func43, Try.ntmps43
  go_wp2_with fail
  generalize hw1 : (World.alloc w _) = w1
  have x1 : Ext w w1 := by rw [← hw1]; exact Ext.alloc _ _
  have rp1 : w1.heap[w.heap.size]? = some (.cells (poolCs (.slice A1 n1 c1) (.slice A2 n2 c2) (.slice A3 n3 c3) (.slice A4 n4 c4) gen root next (.slice A5 dead.length c5)) 32 (0, 0)) := by rw [← hw1]; exact World.alloc_heap_at _ _ _ rfl
  clear hw1
  refine (HR.out w1 x1).mono ?_
  clear HR
  rintro e w2 ⟨hB, hQ⟩
  have x2 : Ext w w2 := Ext.trans x1 hB
  have rp2 := row_ext rp1 hB
  clear hB rp1 x1
  rcases hQ with ⟨rfl, hno⟩ | ⟨vs, refs, nodes, cb, ca, vv, lo, rfl, hlo, hT⟩
  · replace hno := Lib.hid hno
    go_wp2_with fail
    exact data_ret rfl rfl ⟨x2, .inl ⟨rfl, hno.out⟩⟩
  · have kp2 := cells_row rp2
    replace hT := Lib.hid hT
    go_wp2_with fail
    refine (HN.out w2 x2).mono ?_
    clear HN
    rintro e w3 ⟨hB, hQ⟩
    have x3 : Ext w w3 := Ext.trans x2 hB
    have rp3 := row_ext rp2 hB
    have rc3 := row_ext hT.out.row hB
    clear hB rp2 x2 kp2
    rcases hQ with ⟨rfl, hno⟩ | ⟨vs', refs', nodes', v, lo', rfl, hlo', hp', hc', he', hown⟩
    · obtain ⟨refs', nodes', hc', hn'⟩ := hno vs hT.out.pool
      exact absurd (enough_same hT.out.cnt hc' ▸ hT.out.enough) hn'
    · obtain rfl := PoolB.same hT.out.pool hp'
      obtain rfl := enough_same hT.out.cnt hc'
      obtain ⟨An, cn, rfl, -, -⟩ := own_slice hown
      by_cases hr : 8 ≤ a ∧ a < 256
      · obtain ⟨m, hma⟩ := Int.eq_ofNat_of_zero_le (show 0 ≤ a by omega)
        subst hma
        have hm8 : 8 ≤ m := by omega
        have hm256 : m < 256 := by omega
        have hE := dataE_in S refs nodes' hm8 hm256 held
        obtain ⟨b, o, c, e3, hb, hcell⟩ := now_at hp'.may h.out.now
        have hcn := Ext.cell x3 (hcell m hm256)
        have hrf := (cells_row rc3 (6 + m)).trans (hT.out.ar.ref m hm256)
        have hmem := mem_met (nodes := nodes') hm256
        have HH := has_any An cn (metTo nodes' 256) (Nat.le_trans (metTo_len _ _) (by omega)) m w3 (Rd.of_own hown)
        cases e3
        have kp3 := cells_row rp3
        have d1 : decide ((m : Int) < 8) = false := decide_eq_false (by omega)
        have d2 : decide ((m : Int) ≥ 256) = false := decide_eq_false (by omega)
        have hQ := fun E (hh : dataE S refs nodes' (m : Int) held = E) => (⟨x3, .inr ⟨vs, refs, nodes', hp', hc', he', by rw [hh]⟩⟩ : DataQ S root next dead (m : Int) held w (.returned (.int .i64 E)) w3)
        replace hQ := Lib.hid hQ
        have hwn := Lib.hid (IntWalk.wrap64_in (nowN S m : Int) (by have := (S.now[m]?.getD 0).toNat_lt; unfold nowN; omega))
        generalize nowN S m = nw at *
        generalize refs m = rf at *
        clear hT hp' hc' he' hown hcell hr rc3
        by_cases h0 : nw = 0
        · have z1 : ((nw : Int) == 0) = true := by rw [beq_iff_eq]; omega
          have z2 : decide (nw = 0) = true := decide_eq_true h0
          rw [if_pos (.inl h0)] at hE
          replace hE := Lib.hid hE
          replace h0 := Lib.hid h0
          replace hmem := Lib.hid hmem
          have hw' := hwn.out
          go_wp2_with fail
          exact data_ret rfl rfl (hQ.out _ hE.out)
        · have z1 : ((nw : Int) == 0) = false := by rw [beq_eq_false_iff_ne]; omega
          have z2 : decide (nw = 0) = false := decide_eq_false h0
          by_cases hm : m ∈ metTo nodes' 256
          · rw [decide_eq_true hm] at HH
            rw [if_pos (.inr (.inl (hmem.1 hm)))] at hE
            replace hE := Lib.hid hE
            replace h0 := Lib.hid h0
            replace hmem := Lib.hid hmem
            replace hm := Lib.hid hm
            have hw' := hwn.out
            go_wp2_with fail
            refine HH.mono ?_
            rintro e w4 ⟨rfl, rfl⟩
            have hw' := hwn.out
            go_wp2_with fail
            exact data_ret rfl rfl (hQ.out _ hE.out)
          · rw [decide_eq_false hm] at HH
            have hm' : ¬ 0 < nodes' m := fun h => hm (hmem.2 h)
            replace hmem := Lib.hid hmem
            replace hm := Lib.hid hm
            cases held
            · rw [if_neg (fun h => by rcases h with h | h | ⟨h, h'⟩; exact h0 h; exact hm' h; cases h)] at hE
              replace hE := Lib.hid hE
              replace h0 := Lib.hid h0
              replace hm' := Lib.hid hm'
              have hw' := hwn.out
              go_wp2_with fail
              refine HH.mono ?_
              rintro e w4 ⟨rfl, rfl⟩
              have hw' := hwn.out
              go_wp2_with fail
              exact data_ret rfl rfl (hQ.out _ hE.out)
            · by_cases hle : nw ≤ rf
              · have z3 : decide ((nw : Int) ≤ (rf : Int)) = true := decide_eq_true (by omega)
                have z4 : decide (nw ≤ rf) = true := decide_eq_true hle
                rw [if_pos (.inr (.inr ⟨rfl, hle⟩))] at hE
                replace hE := Lib.hid hE
                replace h0 := Lib.hid h0
                replace hm' := Lib.hid hm'
                replace hle := Lib.hid hle
                have hw' := hwn.out
                go_wp2_with fail
                refine HH.mono ?_
                rintro e w4 ⟨rfl, rfl⟩
                have hw' := hwn.out
                go_wp2_with fail
                exact data_ret rfl rfl (hQ.out _ hE.out)
              · have z3 : decide ((nw : Int) ≤ (rf : Int)) = false := decide_eq_false (by omega)
                have z4 : decide (nw ≤ rf) = false := decide_eq_false hle
                rw [if_neg (fun h => by rcases h with h | h | ⟨h', h⟩; exact h0 h; exact hm' h; exact hle h)] at hE
                replace hE := Lib.hid hE
                replace h0 := Lib.hid h0
                replace hm' := Lib.hid hm'
                replace hle := Lib.hid hle
                have hw' := hwn.out
                go_wp2_with fail
                refine HH.mono ?_
                rintro e w4 ⟨rfl, rfl⟩
                go_wp2_with fail
                exact data_ret rfl rfl (hQ.out _ hE.out)
      · have hE := Lib.hid (dataE_out (S := S) (refs := refs) (nodes := nodes') hr held)
        have hQ := fun E (hh : dataE S refs nodes' a held = E) => (⟨x3, .inr ⟨vs, refs, nodes', hp', hc', he', by rw [hh]⟩⟩ : DataQ S root next dead a held w (.returned (.int .i64 E)) w3)
        replace hQ := Lib.hid hQ
        clear hT hp' hc' he' hown rc3
        by_cases h8 : a < 8
        · have d1 : decide (a < 8) = true := decide_eq_true h8
          replace hr := Lib.hid hr
          go_wp2_with fail
          exact data_ret rfl rfl (hQ.out _ hE.out)
        · have d1 : decide (a < 8) = false := decide_eq_false h8
          have d2 : decide (a ≥ 256) = true := decide_eq_true (by omega)
          replace hr := Lib.hid hr
          go_wp2_with fail
          exact data_ret rfl rfl (hQ.out _ hE.out)
end Go.Proofs.Ytlgbjpihmkeopaa
/- Contracts: a block that is referred to once less. -/
namespace Go.Proofs.Ytlgbjpihmkeopaa
set_option linter.unusedSimpArgs false
set_option linter.unusedVariables false
open Go.RowKit

def down (t : List UInt8) (a : Nat) : List UInt8 := t.set a (UInt8.ofNat (cntN t a - 1))
theorem down_len (t : List UInt8) (a : Nat) : (down t a).length = t.length := by unfold down; simp
theorem u8_less {n : Nat} (h : 0 < n) (h2 : n < 256) : IntKind.u8.wrap ((n : Int) - 1) = (((UInt8.ofNat (n - 1)).toNat : Nat) : Int) := by
  rw [← u8_wrap]
  congr 1
  omega
theorem bloose_ret {R : Ending → World → Prop} {a : Act} {W : World} {v : Value} (h4 : a.tmps[4]?.getD undef = v) (hd : a.defers = []) (hR : R (.returned v) W) : bodyPost Try.prog Try.f75 R .ret a W := by
  refine bodyPost_ret (v := v) ?_ hd hR
  simp [results, Try.results75, go_sem, h4]
set_option maxHeartbeats 2000000 in
set_option maxRecDepth 100000 in
theorem bloose_any (b lo : Nat) (v1 v2 v4 : Value) (g c3 : Nat) (t : List UInt8) (a : Nat) (ha : a < 256) (w : World)
    (hr : w.heap[b]? = some (.cells #[v1, v2, .slice (some ⟨g, 0, none⟩) 256 c3, v4] 169 (0, 0))) (ho : w.ownsRow lo 5 1 (.slice (some ⟨g, 0, none⟩) 256 c3) 256 (t.map bv)) (hbg : b ≠ g) (h0 : 0 < cntN t a) :
    Calls Try.prog 75 #[.pointer (some ⟨b, 0, none⟩), .int .i64 (a : Int)] w fun e W => e = .returned (.int .i64 0) ∧ Below lo w W ∧ (∀ k, k ≠ g → W.heap[k]? = w.heap[k]?) ∧ W.heap.size = w.heap.size ∧ W.ownsRow lo 5 1 (.slice (some ⟨g, 0, none⟩) 256 c3) 256 ((down t a).map bv) := by
  obtain ⟨hk, hf, hlg, hzg⟩ := own_cells ho
  have hka := hk a ha
  have hfa := hf a
  have kr := cells_row hr
  have hset := Lib.hid (own_set ho ha (UInt8.ofNat (cntN t a - 1)))
  have hc : cntN t a = (t[a]?.getD 0).toNat := rfl
  have hc2 := (t[a]?.getD 0).toNat_lt
  rw [← hc] at hka hc2
  have hT : Hid (down t a = t.set a (UInt8.ofNat (cntN t a - 1))) := rfl
  have hwv := u8_less h0 hc2
  generalize cntN t a = nv at *
  have hz1 : ((nv : Int) == 0) = false := by rw [beq_eq_false_iff_ne]; omega
  have hz2 : decide (nv = 0) = false := decide_eq_false (by omega)
  clear hk hf hc hc2 ho
  go_enter Try.func75, Try.ntmps75
  go_wp2_with fail
  refine bloose_ret rfl rfl ⟨rfl, Below.setCell (Below.refl _ _) (p := ⟨g, a, none⟩) hlg _, fun k hk => Below.heap_setCell _ _ _ _ hk, by simp, ?_⟩
  rw [hT.out]
  exact hset.out
theorem ddone_ret {R : Ending → World → Prop} {a : Act} {W : World} {b : Nat} {x0 x1 x2 x3 v : Value} (h4 : a.tmps[4]?.getD undef = .pointer (some ⟨b, 0, none⟩)) (h5 : a.tmps[5]?.getD undef = v) (hd : a.defers = [])
    (hrow : W.heap[b]? = some (.cells #[x0, x1, x2, x3] 28 (0, 0))) (hR : R (.returned (.tuple #[.agg #[x0, x1, x2, x3], v])) W) : bodyPost Try.prog Try.f73 R .ret a W := by
  refine bodyPost_ret (v := .tuple #[.agg #[x0, x1, x2, x3], v]) ?_ hd hR
  have k := cells_row hrow
  simp [results, Try.results73, go_sem, h4, h5, k]
theorem dloose_ret {R : Ending → World → Prop} {a : Act} {W : World} {b : Nat} {x0 x1 x2 x3 v : Value} (h4 : a.tmps[4]?.getD undef = .pointer (some ⟨b, 0, none⟩)) (h5 : a.tmps[5]?.getD undef = v) (hd : a.defers = [])
    (hrow : W.heap[b]? = some (.cells #[x0, x1, x2, x3] 28 (0, 0))) (hR : R (.returned (.tuple #[.agg #[x0, x1, x2, x3], v])) W) : bodyPost Try.prog Try.f45 R .ret a W := by
  refine bodyPost_ret (v := .tuple #[.agg #[x0, x1, x2, x3], v]) ?_ hd hR
  have k := cells_row hrow
  simp [results, Try.results45, go_sem, h4, h5, k]
theorem TwinT.set4 {lo lo' b : Nat} {S : Sto} {u : Value} {W : World} (h : TwinT lo S u W) (hl : lo' ≤ lo) (hb : b < lo) (x0 x1 x2 x3 : Value) : TwinT lo' S u ((((W.setCell ⟨b, 0, none⟩ x0).setCell ⟨b, 1, none⟩ x1).setCell ⟨b, 2, none⟩ x2).setCell ⟨b, 3, none⟩ x3) :=
  h.keep hl (by simp) fun b' hb' _ => (Below.heap_setCell _ _ _ _ (by simp; omega)).trans ((Below.heap_setCell _ _ _ _ (by simp; omega)).trans ((Below.heap_setCell _ _ _ _ (by simp; omega)).trans (Below.heap_setCell _ _ _ _ (by simp; omega))))
set_option maxRecDepth 100000 in
theorem dloose1_any (bat b lo : Nat) (v1 v2 v4 : Value) (g c3 : Nat) (t : List UInt8) (a : Nat) (ha : a < 256) (w : World) (hat : w.heap[bat]? = some (.cells #[.int .i64 (a : Int)] 3 (0, 0)))
    (hr : w.heap[b]? = some (.cells #[v1, v2, .slice (some ⟨g, 0, none⟩) 256 c3, v4] 169 (0, 0))) (ho : w.ownsRow lo 5 1 (.slice (some ⟨g, 0, none⟩) 256 c3) 256 (t.map bv)) (hbg : b ≠ g) (h0 : 0 < cntN t a) :
    Calls Try.prog 74 #[.pointer (some ⟨b, 0, none⟩), .pointer (some ⟨bat, 0, none⟩)] w fun e W => e = .returned (.int .i64 0) ∧ Below lo w W ∧ (∀ k, k ≠ g → W.heap[k]? = w.heap[k]?) ∧ W.heap.size = w.heap.size ∧ W.ownsRow lo 5 1 (.slice (some ⟨g, 0, none⟩) 256 c3) 256 ((down t a).map bv) := by
  have HB := Lib.hid (bloose_any b lo v1 v2 v4 g c3 t a ha w hr ho hbg h0)
  have ka := cells_row hat
  clear hr ho h0
  go_enter Try.func74, Try.ntmps74
  go_wp2_with fail
  refine HB.out.mono ?_
  clear HB
  rintro e W ⟨rfl, h1, h2, h3, h4⟩
  replace h1 := Lib.hid h1
  replace h2 := Lib.hid h2
  replace h3 := Lib.hid h3
  replace h4 := Lib.hid h4
  go_wp2_with fail
  go_ret
  exact ⟨rfl, h1.out, h2.out, h3.out, h4.out⟩
set_option maxHeartbeats 4000000 in
set_option maxRecDepth 100000 in
theorem ddone_any (A1 : Option Addr) (n1 c1 : Nat) (A2 : Option Addr) (n2 c2 : Nat) (A3 : Option Addr) (n3 c3 : Nat) (A4 : Option Addr) (n4 c4 : Nat) (S : Sto) (hS : storeMay S = true) (a : Nat) (ha : a < 256) (h0 : 0 < cntN S.now a) (bat : Nat) (w : World) (hat : w.heap[bat]? = some (.cells #[.int .i64 (a : Int)] 3 (0, 0))) (h : StoAt w w.heap.size (.slice A1 n1 c1) (.slice A2 n2 c2) (.slice A3 n3 c3) (.slice A4 n4 c4) S) :
    Calls Try.prog 73 #[storeV A1 n1 c1 A2 n2 c2 A3 n3 c3 A4 n4 c4, .func (.func 74) #[] #[.pointer (some ⟨bat, 0, none⟩)]] w (RetS (fun u W => ∃ v, u = .tuple #[v, .int .i64 0] ∧ TwinT w.heap.size (withNow S (down S.now a)) v W) w) := by
  obtain ⟨hl1, hl2, hl3, hl4⟩ := storeMay_len hS
  have HON := Lib.hid (fun W (hx : Ext w W) => on_own A1 n1 c1 A2 n2 c2 A3 n3 c3 A4 n4 c4 S (by omega) W (h.ext hx))
  have hn3 : n3 = 256 := by have := h.now.at_.1; omega
  have hst' : StoAt w w.heap.size (.slice A1 n1 c1) (.slice A2 n2 n2) (.slice A3 n3 c3) (.slice A4 n4 c4) S := ⟨h.bs, h.ws.clip, h.now, h.last⟩
  have hsh := Lib.hid (short_of_may hS)
  have hst := Lib.hid hst'
  subst hn3
  clear h hst' hl1 hl2 hl3 hl4
  replace hS := Lib.hid hS
  go_enter Try.func73, Try.ntmps73
  go_wp2_with fail
  generalize hw1 : (World.alloc (World.alloc w _) _) = w1
  have x1 : Ext w w1 := by rw [← hw1]; exact (Ext.alloc _ _).trans (Ext.alloc _ _)
  have ro1 : w1.heap[w.heap.size + 1]? = some (.cells #[.slice none 0 0, .slice none 0 0, .slice none 0 0, .slice none 0 0] 28 (0, 0)) := by rw [← hw1]; exact World.alloc_heap_at _ _ _ (by simp)
  clear hw1
  refine (HON.out w1 x1).mono ?_
  clear HON
  rintro e w2 ⟨u, rfl, ⟨bb, A3', c3', rfl, hbl, hrb, hown⟩, hB⟩
  have x2 : Ext w w2 := x1.trans hB
  have ro2 := row_ext ro1 hB
  have hs1 : w.heap.size + 1 < w1.heap.size := (Array.getElem?_eq_some_iff.1 ro1).1
  have hAu : ∃ g, A3' = some ⟨g, 0, none⟩ := by
    rcases hown.2 with ⟨e, h0⟩ | ⟨g, cap, cur, e, _⟩
    · cases e
    · cases e
      exact ⟨g, rfl⟩
  obtain ⟨g, rfl⟩ := hAu
  obtain ⟨hk, hf, hlg, hgz⟩ := own_cells hown
  have hbg : bb ≠ g := by
    rintro rfl
    rcases hown.2 with ⟨e, h0⟩ | ⟨g', cap, cur, e, hg', hrg, hc1, hc2, hc3, hc4⟩
    · cases e
    · cases e
      rw [hrb] at hrg
      simp only [Option.some.injEq, Obj.cells.injEq] at hrg
      exact absurd hrg.2.1 (by decide)
  have HL := dloose1_any bat bb w1.heap.size (.slice A1 n1 c1) (.slice A2 n2 n2) (.slice A4 n4 c4) g c3' S.now a ha w2 (row_ext hat x2) hrb hown hbg h0
  clear hB ro1 x1 hk hf
  replace hown := Lib.hid hown
  replace hrb := Lib.hid hrb
  go_wp2_with fail
  refine HL.mono ?_
  clear HL
  rintro e w3 ⟨rfl, hB3, hk3, hs3, hown3⟩
  have ro3 := (hk3 (w.heap.size + 1) (by omega)).trans ro2
  have hrb3 := (hk3 bb hbg).trans hrb.out
  have x3 : Ext w w3 := Below.trans x2 (Below.mono hB3 (by omega))
  have hst3 := (hst.out.below x3).more x3.size
  have HST := bstore_any bb A1 n1 c1 A2 n2 n2 (some ⟨g, 0, none⟩) 256 c3' A4 n4 c4 (withNow S (down S.now a)) ⟨hsh.out.bs, hsh.out.ws, hsh.out.be, hsh.out.we, by rw [down_len]; exact hsh.out.now, hsh.out.last⟩ w3 hrb3 ⟨hst3.bs, hst3.ws, Bys.of_own hown3, hst3.last⟩
  have zo3 : w.heap.size + 1 < w3.heap.size := (Array.getElem?_eq_some_iff.1 ro3).1
  clear hB3 hk3 hown3 hst3 ro2 x2 hrb3
  go_wp2_with fail
  refine HST.mono ?_
  clear HST
  rintro e w4 ⟨u, rfl, hu, hB⟩
  have x4 : Ext w w4 := x3.trans hB
  have ro4 := row_ext ro3 hB
  have ko4 := cells_row ro4
  have fo4 := frozen_row ro4
  have hK := fun x0 x1 x2 x3' => hu.set4 (b := w.heap.size + 1) (show w.heap.size ≤ w3.heap.size by omega) zo3 x0 x1 x2 x3'
  obtain ⟨BB, WW, gg, B3, d3, B4, d4, rfl, hD, hN, hL⟩ := hu
  replace hK := Lib.hid hK
  clear hB hD hN hL ro3 x3
  go_wp2_with fail
  exact ddone_ret (b := w.heap.size + 1) rfl rfl rfl (row4 ro4 _ _ _ _) ⟨_, rfl, ⟨_, rfl, hK.out _ _ _ _⟩, below4 x4 (by omega) _ _ _ _⟩
set_option maxHeartbeats 4000000 in
set_option maxRecDepth 100000 in
theorem dloose_any (A1 : Option Addr) (n1 c1 : Nat) (A2 : Option Addr) (n2 c2 : Nat) (A3 : Option Addr) (n3 c3 : Nat) (A4 : Option Addr) (n4 c4 : Nat) (S : Sto) (a : Int) (w : World) (h : StoAt w w.heap.size (.slice A1 n1 c1) (.slice A2 n2 c2) (.slice A3 n3 c3) (.slice A4 n4 c4) S) :
    Calls Try.prog 45 #[storeV A1 n1 c1 A2 n2 c2 A3 n3 c3 A4 n4 c4, .int .i64 a] w (RetS (StoQ (askR S a) (withNow S (down S.now a.toNat)) w.heap.size) w) := by
  have HA := Lib.hid (fun W (hx : Ext w W) => dpasked_any A1 n1 c1 A2 n2 c2 A3 n3 c3 A4 n4 c4 S a W (h.ext hx))
  replace h := Lib.hid h
  go_enter Try.func45, Try.ntmps45
  go_wp2_with fail
  generalize hw1 : (World.alloc (World.alloc (World.alloc w _) _) _) = w1
  have x1 : Ext w w1 := by rw [← hw1]; exact ((Ext.alloc _ _).trans (Ext.alloc _ _)).trans (Ext.alloc _ _)
  have rs1 : w1.heap[w.heap.size]? = some (.cells #[.slice A1 n1 c1, .slice A2 n2 c2, .slice A3 n3 c3, .slice A4 n4 c4] 28 (0, 0)) := by rw [← hw1]; exact (Below.heap_alloc _ _ _ (by simp; try omega)).trans ((Below.heap_alloc _ _ _ (by simp)).trans (World.alloc_heap_at _ _ _ rfl))
  have ra1 : w1.heap[w.heap.size + 1]? = some (.cells #[.int .i64 a] 3 (0, 0)) := by rw [← hw1]; exact (Below.heap_alloc _ _ _ (by simp)).trans (World.alloc_heap_at _ _ _ (by simp))
  have ro1 : w1.heap[w.heap.size + 2]? = some (.cells #[.slice none 0 0, .slice none 0 0, .slice none 0 0, .slice none 0 0] 28 (0, 0)) := by rw [← hw1]; exact World.alloc_heap_at _ _ _ (by simp)
  have kk1 := cells_row ra1
  have ks1 := cells_row rs1
  clear hw1
  go_wp2_with fail
  refine (HA.out w1 x1).mono ?_
  clear HA
  rintro e w2 ⟨rfl, hB⟩
  have x2 : Ext w w2 := x1.trans hB
  have rs2 := row_ext rs1 hB
  have ra2 := row_ext ra1 hB
  have ro2 := row_ext ro1 hB
  clear hB rs1 ro1 x1 ks1 kk1 ra1
  by_cases h0 : askR S a = 0
  · obtain ⟨hS, m, rfl, hm8, hm256, hnz⟩ := askR_ok h0
    have HD := ddone_any A1 n1 c1 A2 n2 c2 A3 n3 c3 A4 n4 c4 S hS m hm256 (Nat.pos_of_ne_zero hnz) (w.heap.size + 1) w2 ra2 (h.out.ext x2)
    have ks2 := cells_row rs2
    have h0' := Lib.hid h0
    rw [h0]
    replace hS := Lib.hid hS
    clear hnz h0
    go_wp2_with fail
    refine HD.mono ?_
    clear HD
    rintro e w3 ⟨u, rfl, ⟨v, rfl, hT⟩, hB⟩
    have x3 : Ext w w3 := x2.trans hB
    have ro3 := row_ext ro2 hB
    have zo2 : w.heap.size + 2 < w2.heap.size := (Array.getElem?_eq_some_iff.1 ro2).1
    have hK := fun x0 x1 x2 x3' => hT.set4 (b := w.heap.size + 2) (show w.heap.size ≤ w2.heap.size by omega) zo2 x0 x1 x2 x3'
    obtain ⟨BB, WW, gg, B3, d3, B4, d4, rfl, hD, hN, hL⟩ := hT
    have ko3 := cells_row ro3
    have fo3 := frozen_row ro3
    replace hK := Lib.hid hK
    clear hB hD hN hL ks2 rs2 ra2 ro2 x2
    go_wp2_with fail
    exact dloose_ret (b := w.heap.size + 2) rfl rfl rfl (row4 ro3 _ _ _ _) ⟨_, rfl, .inr ⟨h0'.out, _, rfl, hK.out _ _ _ _⟩, below4 x3 (by omega) _ _ _ _⟩
  · have hq := Lib.hid h0
    have hE : Hid (askR S a = askR S a) := rfl
    obtain ⟨er, her⟩ : ∃ er, askR S a = er := ⟨_, rfl⟩
    rw [her] at h0 ⊢
    have he : (er != 0) = true := by rw [bne_iff_ne]; exact h0
    have ko2 := cells_row ro2
    have fo2 := frozen_row ro2
    replace her := Lib.hid her
    clear h0
    go_wp2_with fail
    exact dloose_ret (b := w.heap.size + 2) rfl rfl rfl (row4 ro2 _ _ _ _) ⟨_, rfl, .inl ⟨hq.out, by rw [her.out]; rfl⟩, below4 x2 (by omega) _ _ _ _⟩
end Go.Proofs.Ytlgbjpihmkeopaa
/- Contracts: a pool's block that is referred to once more, or once less. -/
namespace Go.Proofs.Ytlgbjpihmkeopaa
set_option linter.unusedSimpArgs false
set_option linter.unusedVariables false
open Go.RowKit

abbrev pool0 : Value := .agg (poolCs (.slice none 0 0) (.slice none 0 0) (.slice none 0 0) (.slice none 0 0) 0 0 0 (.slice none 0 0))
def NewPl (lo : Nat) (S : Sto) (gen root next : Int) (dead : List Int) (u : Value) (W : World) : Prop := ∃ A1 c1 A2 c2 A3 c3 A4 c4 A5 c5, u = .agg (poolCs (.slice A1 S.bs.length c1) (.slice A2 S.ws.length c2) (.slice A3 S.now.length c3) (.slice A4 S.last.length c4) gen root next (.slice A5 dead.length c5)) ∧
  ∀ C : World, PosOn lo W C → StoAt C W.heap.size (.slice A1 S.bs.length c1) (.slice A2 S.ws.length c2) (.slice A3 S.now.length c3) (.slice A4 S.last.length c4) S ∧ Ints C W.heap.size (.slice A5 dead.length c5) dead
theorem Rd.pos {w C : World} {B size lo n c : Nat} {A : Option Addr} {xs : List Value} (h : Rd w B size A n xs) (hf : From lo (.slice A n c)) (hk : ∀ (q : Addr) (v : Value), lo ≤ q.block → q.block < B → w.cell? q = some v → C.cell? q = some v) : Rd C B size A n xs :=
  ⟨h.1, fun hn => by
    obtain ⟨b, off, rfl, hb, hc⟩ := h.2 hn
    exact ⟨b, off, rfl, hb, fun j u hu => hk _ _ (hf ⟨b, off, none⟩ n c rfl) hb (hc j u hu)⟩⟩
theorem Ints.pos {w C : World} {B lo : Nat} {v : Value} {l : List Int} (h : Ints w B v l) (hf : From lo v) (hk : ∀ (q : Addr) (v : Value), lo ≤ q.block → q.block < B → w.cell? q = some v → C.cell? q = some v) : Ints C B v l := by
  obtain ⟨A, c, e, hc, hm, hr⟩ := h
  subst e
  exact ⟨A, c, rfl, hc, hm, Rd.pos hr hf hk⟩
theorem TwinT.newSto {lo : Nat} {S : Sto} {u : Value} {W : World} (h : TwinT lo S u W) (hS : Short S) : NewSto lo S u W := by
  obtain ⟨A1, c1, A2, c2, A3, c3, A4, c4, e, hc⟩ := h.twin hS
  exact ⟨A1, c1, A2, c2, A3, c3, A4, c4, e, pos_of_eq (Φ := fun C => StoAt C W.heap.size _ _ _ _ S) (fun A C hAC hA => hA.some_ hAC) hc⟩
def outN (lo n : Nat) (l : List Int) : Outs := ⟨Option Addr × Nat, fun p => .slice p.1 n p.2, fun p W => Ints W W.heap.size (.slice p.1 n p.2) l ∧ From lo (.slice p.1 n p.2)⟩
theorem outN_f (lo n : Nat) (l : List Int) (A : Option Addr) (c : Nat) : (outN lo n l).f (A, c) = .slice A n c := rfl
theorem outN_stable (lo n : Nat) (l : List Int) : ∀ p, Stable ((outN lo n l).φ p) := fun p W W' he h => ⟨h.1.ext_ he, h.2⟩
def PoolR (er : Int) (S : Sto) (gen root next : Int) (dead : List Int) (lo : Nat) (u : Value) (W : World) : Prop := (er ≠ 0 ∧ u = .tuple #[pool0, .int .i64 er]) ∨ (er = 0 ∧ ∃ v, u = .tuple #[v, .int .i64 0] ∧ NewPl lo S gen root next dead v W)
def VolSQ (S : Sto) (gen root next : Int) (dead : List Int) (er : (Nat → Nat) → (Nat → Nat) → Int) (S' : Sto) (w : World) (e : Ending) (w' : World) : Prop := Below w.heap.size w w' ∧
  ((e = .returned (.tuple #[pool0, .int .i64 8]) ∧ ∀ vs, PoolB S root next dead vs → ∃ refs nodes, Counted S (rootsN root dead vs) refs nodes ∧ ¬ Enough S refs) ∨
    ∃ vs refs nodes u, PoolB S root next dead vs ∧ Counted S (rootsN root dead vs) refs nodes ∧ Enough S refs ∧ e = .returned u ∧ PoolR (er refs nodes) S' gen root next dead w.heap.size u w')
def vshareE (S : Sto) (a : Int) (refs nodes : Nat → Nat) : Int := if dataE S refs nodes a false ≠ 0 then dataE S refs nodes a false else shareE S a
def vlooseE (S : Sto) (a : Int) (refs nodes : Nat → Nat) : Int := if dataE S refs nodes a true ≠ 0 then dataE S refs nodes a true else askR S a

theorem askR_of_share {S : Sto} {a : Int} (h : shareE S a = 0) : askR S a = 0 := by
  unfold shareE at h
  split at h
  · rename_i h1; exact absurd h h1
  · rename_i h1; simpa using h1
theorem vol_short {S : Sto} {t : List UInt8} (h : storeMay S = true) (ht : t.length = S.now.length) : Short (withNow S t) := by
  have hs := short_of_may h
  exact ⟨hs.bs, hs.ws, hs.be, hs.we, by rw [ht]; exact hs.now, hs.last⟩

theorem vshare_ret {R : Ending → World → Prop} {a : Act} {W : World} {b : Nat} {x0 x1 x2 x3 x4 x5 x6 x7 v : Value} (h4 : a.tmps[4]?.getD undef = .pointer (some ⟨b, 0, none⟩)) (h5 : a.tmps[5]?.getD undef = v) (hd : a.defers = [])
    (hrow : W.heap[b]? = some (.cells #[x0, x1, x2, x3, x4, x5, x6, x7] 32 (0, 0))) (hR : R (.returned (.tuple #[.agg #[x0, x1, x2, x3, x4, x5, x6, x7], v])) W) : bodyPost Try.prog Try.f17 R .ret a W := by
  refine bodyPost_ret (v := .tuple #[.agg #[x0, x1, x2, x3, x4, x5, x6, x7], v]) ?_ hd hR
  have k := cells_row hrow
  simp [results, Try.results17, go_sem, h4, h5, k]
set_option maxHeartbeats 8000000 in
set_option maxRecDepth 100000 in
theorem vshare_any (A1 : Option Addr) (n1 c1 : Nat) (A2 : Option Addr) (n2 c2 : Nat) (A3 : Option Addr) (n3 c3 : Nat) (A4 : Option Addr) (n4 c4 : Nat) (gen root next : Int) (A5 : Option Addr) (c5 : Nat) (S : Sto) (dead : List Int) (a : Int) (w : World)
    (h : StoAt w w.heap.size (.slice A1 n1 c1) (.slice A2 n2 c2) (.slice A3 n3 c3) (.slice A4 n4 c4) S) (hd : Ints w w.heap.size (.slice A5 dead.length c5) dead) :
    Calls Try.prog 17 #[.agg (poolCs (.slice A1 n1 c1) (.slice A2 n2 c2) (.slice A3 n3 c3) (.slice A4 n4 c4) gen root next (.slice A5 dead.length c5)), .int .i64 a] w (VolSQ S gen root next dead (vshareE S a) (withNow S (turned S.now a.toNat 1)) w) := by
  have HD := Lib.hid (fun W (hx : Ext w W) => data_any A1 n1 c1 A2 n2 c2 A3 n3 c3 A4 n4 c4 gen root next A5 c5 S dead a false W (h.ext hx) (hd.ext_ hx))
  have HS := Lib.hid (fun W (hx : Ext w W) => rshare_any A1 n1 c1 A2 n2 c2 A3 n3 c3 A4 n4 c4 S a W (h.ext hx))
  replace h := Lib.hid h
  replace hd := Lib.hid hd
  go_enter Try.func17, Try.ntmps17
  go_wp2_with fail
  generalize hw1 : (World.alloc (World.alloc _ _) _) = w1
  have x1 : Ext w w1 := by rw [← hw1]; exact (Ext.alloc _ _).trans (Ext.alloc _ _)
  have rp1 : w1.heap[w.heap.size]? = some (.cells (poolCs (.slice A1 n1 c1) (.slice A2 n2 c2) (.slice A3 n3 c3) (.slice A4 n4 c4) gen root next (.slice A5 dead.length c5)) 32 (0, 0)) := by rw [← hw1]; exact (Below.heap_alloc _ _ _ (by simp)).trans (World.alloc_heap_at _ _ _ rfl)
  have ro1 : w1.heap[w.heap.size + 1]? = some (.cells (poolCs (.slice none 0 0) (.slice none 0 0) (.slice none 0 0) (.slice none 0 0) 0 0 0 (.slice none 0 0)) 32 (0, 0)) := by rw [← hw1]; exact World.alloc_heap_at _ _ _ (by simp)
  clear hw1
  refine (HD.out w1 x1).mono ?_
  clear HD
  rintro e w2 ⟨hB, hQ⟩
  have x2 : Ext w w2 := Ext.trans x1 hB
  have rp2 := row_ext rp1 hB
  have ro2 := row_ext ro1 hB
  clear hB rp1 ro1 x1
  have kp2 := cells_row rp2
  have ko2 := cells_row ro2
  have fo2 := frozen_row ro2
  rcases hQ with ⟨rfl, hno⟩ | ⟨vs, refs, nodes, hpool, hcnt, hen, rfl⟩
  · replace hno := Lib.hid hno
    go_wp2_with fail
    exact vshare_ret (b := w.heap.size + 1) rfl rfl rfl (row8 ro2 _ _ _ _ _ _ _ _) ⟨below8 x2 (by omega) _ _ _ _ _ _ _ _, .inl ⟨rfl, hno.out⟩⟩
  · replace hpool := Lib.hid hpool
    replace hcnt := Lib.hid hcnt
    replace hen := Lib.hid hen
    have hE0 := Lib.hid (show vshareE S a refs nodes = if dataE S refs nodes a false ≠ 0 then dataE S refs nodes a false else shareE S a from rfl)
    by_cases h0 : dataE S refs nodes a false = 0
    · rw [h0]
      replace h0 := Lib.hid h0
      go_wp2_with fail
      refine (HS.out w2 x2).mono ?_
      clear HS
      rintro e w3 ⟨u, rfl, hu, hB⟩
      have x3 : Ext w w3 := x2.trans hB
      have z23' := hB.size
      have rp3 := row_ext rp2 hB
      have ro3 := row_ext ro2 hB
      have kp3 := cells_row rp3
      have ko3 := cells_row ro3
      have ro2' := ro2
      have fo3 := frozen_row ro3
      clear rp2 ro2 kp2 ko2 fo2
      rcases hu with ⟨h1, rfl⟩ | ⟨h1, v, rfl, hv⟩
      · generalize shareE S a = er at *
        have he : (er != 0) = true := by rw [bne_iff_ne]; exact h1
        have hq := Lib.hid h1
        have zo3 : w.heap.size + 1 < w3.heap.size := (Array.getElem?_eq_some_iff.1 ro3).1
        clear h1
        go_wp2_with fail
        exact vshare_ret (b := w.heap.size + 1) rfl rfl rfl (row_ext (row8 ro3 _ _ _ _ _ _ _ _) (Ext.alloc _ _)) ⟨Below.alloc (below8 x3 (by omega) _ _ _ _ _ _ _ _) (by have := x3.size; simpa using this) _, .inr ⟨vs, refs, nodes, _, hpool.out, hcnt.out, hen.out, rfl, .inl ⟨by rw [hE0.out, if_neg (by simpa using h0.out)]; exact hq.out, by rw [hE0.out, if_neg (by simpa using h0.out)]; rfl⟩⟩⟩
      · have hsh : Short (withNow S (turned S.now a.toNat 1)) := vol_short (askR_ok (a := a) (by have := h1; first | exact askR_of_share this | exact this)).1 (by first | exact turned_len _ _ _ | exact down_len _ _)
        have hns := hv.newSto hsh
        obtain ⟨B1, d1, B2, d2, B3, d3, B4, d4, rfl, hns2⟩ := hns
        have hns : ∀ C : World, PosOn w2.heap.size w3 C → StoAt C w3.heap.size (.slice B1 S.bs.length d1) (.slice B2 S.ws.length d2) (.slice B3 (turned S.now a.toNat 1).length d3) (.slice B4 S.last.length d4) (withNow S (turned S.now a.toNat 1)) := hns2
        replace hns := Lib.hid hns
        clear hv hns2
        have z12 := x2.size
        have zo : w.heap.size + 1 < w2.heap.size := (Array.getElem?_eq_some_iff.1 ro2').1
        have hns0 := hns.out
        clear hns
        go_upto_region 7 with fail
        obtain ⟨nl, hnl⟩ : ∃ nl, (turned S.now a.toNat 1).length = nl := ⟨_, rfl⟩
        rw [hnl]
        rw [hnl] at hns0
        replace hnl := Lib.hid hnl
        replace hns0 := Lib.hid hns0
        have x4 : Ext w3 (w3.alloc (.cells #[.slice B1 S.bs.length d1, .slice B2 S.ws.length d2, .slice B3 nl d3, .slice B4 S.last.length d4] 28)) := Ext.alloc _ _
        have r4 : (w3.alloc (.cells #[.slice B1 S.bs.length d1, .slice B2 S.ws.length d2, .slice B3 nl d3, .slice B4 S.last.length d4] 28)).heap[w3.heap.size]? = _ := World.alloc_heap_at _ _ _ rfl
        generalize hw4 : w3.alloc _ = w4 at *
        clear hw4
        have rp4 := row_ext rp3 x4
        have ro4 := row_ext ro3 x4
        have gP : ∀ W, Ext w4 W → ∀ i, W.cell? ⟨w.heap.size, i, none⟩ = (poolCs (.slice A1 n1 c1) (.slice A2 n2 c2) (.slice A3 n3 c3) (.slice A4 n4 c4) gen root next (.slice A5 dead.length c5))[i]? := fun W h => cells_row (row_ext rp4 h)
        have gS : ∀ W, Ext w4 W → ∀ i, W.cell? ⟨w3.heap.size, i, none⟩ = #[.slice B1 S.bs.length d1, .slice B2 S.ws.length d2, .slice B3 nl d3, .slice B4 S.last.length d4][i]? := fun W h => cells_row (row_ext r4 h)
        have HI := Lib.hid (fun W (hW : Ext w4 W) => iclone_any (.slice A5 dead.length c5) dead (by have := hpool.out.few; omega) W (hd.out.ext_ ((x3.trans x4).trans hW)))
        clear kp3 ko3 fo3 rp3 ro3
        refine wp_region_free (outsAt [(3, outN w4.heap.size dead.length dead)]) 5 (by kernel_rfl) (by kernel_rfl) (by kernel_rfl) (by decide) (by kernel_rfl) (by kernel_rfl) ?st ?walk
        case st => exact outsAt_stable (by simp only [List.forall_mem_cons]; exact ⟨outN_stable _ _ _, fun _ h => by cases h⟩)
        case walk =>
          intro K hK
          dsimp only [List.take]
          repeat ((first | (refine free_plain ?_ (by rfl) (by rfl) (fun W hW _ => ⟨W, ?_, Ext.refl W⟩) ?_; rotate_left; (first | (go_simp; with_reducible rfl) | (go_simp; done))) | (refine free_skip (by rfl) ?_)); try simp only [Act.put, one_f, outB_f, outNew_f, outI_f, outN_f, List.setIfInBounds_toArray, List.set_cons_zero, List.set_cons_succ])
          refine free_hard (outN w4.heap.size dead.length dead) (by rfl) (by rfl) (fun W hW _ => ?_) (fun p => ?_)
          · refine hardAt_call ?_ ((HI.out W hW).mono fun e w' h => ?_)
            · go_simp
            obtain ⟨u, rfl, hu, hB⟩ := h
            obtain ⟨A', c', rfl, _, _⟩ := own_slice hu
            exact ⟨(A', c'), rfl, ⟨Ints.of_own hu, (From.of_own hu).mono hW.size⟩, hB⟩
          obtain ⟨B5, d5⟩ := p
          simp only [Act.put, one_f, outB_f, outNew_f, outI_f, outN_f, List.setIfInBounds_toArray, List.set_cons_zero, List.set_cons_succ]
          repeat ((first | (refine free_plain ?_ (by rfl) (by rfl) (fun W hW _ => ⟨W, ?_, Ext.refl W⟩) ?_; rotate_left; (first | (go_simp; with_reducible rfl) | (go_simp; done))) | (refine free_skip (by rfl) ?_)); try simp only [Act.put, one_f, outB_f, outNew_f, outI_f, outN_f, List.setIfInBounds_toArray, List.set_cons_zero, List.set_cons_succ])
          refine free_nil (hK _ _ fun W hW hF => ?_)
          have hI : Ints W W.heap.size (.slice B5 dead.length d5) dead ∧ From w4.heap.size (.slice B5 dead.length d5) := (hF 3).1
          clear hF hK gP gS
          dsimp only [List.drop]
          have zr := rp4
          have rp5 := row_ext rp4 hW
          have ro5 := row_ext ro4 hW
          have kp5 := cells_row rp5
          have fp5 := frozen_row rp5
          have ko5 := cells_row ro5
          have fo5 := frozen_row ro5
          have zp5 : w.heap.size < W.heap.size := (Array.getElem?_eq_some_iff.1 rp5).1
          have zo5 : w.heap.size + 1 < W.heap.size := (Array.getElem?_eq_some_iff.1 ro5).1
          replace hI := Lib.hid hI
          clear HI rp4 ro4 r4
          go_wp2_with fail
          generalize hWp : (((((W.setCell ⟨w.heap.size, 0, none⟩ _).setCell ⟨w.heap.size, 1, none⟩ _).setCell ⟨w.heap.size, 2, none⟩ _).setCell ⟨w.heap.size, 3, none⟩ _).setCell ⟨w.heap.size, 7, none⟩ _) = Wp
          have hop : ∀ k, k ≠ w.heap.size → Wp.heap[k]? = W.heap[k]? := fun k hk => by rw [← hWp, Below.heap_setCell _ _ _ _ hk, Below.heap_setCell _ _ _ _ hk, Below.heap_setCell _ _ _ _ hk, Below.heap_setCell _ _ _ _ hk, Below.heap_setCell _ _ _ _ hk]
          have zp : Wp.heap.size = W.heap.size := by rw [← hWp]; simp
          have xp : Below w.heap.size w Wp := by rw [← hWp]; exact Below.setCell (below4 ((x3.trans x4).trans hW) (b := w.heap.size) (Nat.le_refl _) _ _ _ _) (p := ⟨w.heap.size, 7, none⟩) (Nat.le_refl _) _
          clear hWp
          have rop : Wp.heap[w.heap.size + 1]? = _ := (hop _ (by omega)).trans ro5
          have z34 := x4.size
          have z4W := Below.size hW
          have z23 : w2.heap.size ≤ w3.heap.size := z23'
          refine vshare_ret (b := w.heap.size + 1) rfl rfl rfl (row8 rop _ _ _ _ _ _ _ _) ⟨below8 xp (by omega) _ _ _ _ _ _ _ _, .inr ⟨vs, refs, nodes, _, hpool.out, hcnt.out, hen.out, rfl, .inr ⟨by rw [hE0.out, if_neg (by simpa using h0.out)]; exact h1, _, rfl, B1, d1, B2, d2, B3, d3, B4, d4, B5, d5, by rw [← hnl.out], fun C hC => ?_⟩⟩⟩
          have hsz : ((((((((Wp.setCell ⟨w.heap.size + 1, 0, none⟩ (.slice B1 S.bs.length d1)).setCell ⟨w.heap.size + 1, 1, none⟩ (.slice B2 S.ws.length d2)).setCell ⟨w.heap.size + 1, 2, none⟩ (.slice B3 nl d3)).setCell ⟨w.heap.size + 1, 3, none⟩ (.slice B4 S.last.length d4)).setCell ⟨w.heap.size + 1, 4, none⟩ (.int .u32 gen)).setCell ⟨w.heap.size + 1, 5, none⟩ (.int .i64 root)).setCell ⟨w.heap.size + 1, 6, none⟩ (.int .u32 next)).setCell ⟨w.heap.size + 1, 7, none⟩ (.slice B5 dead.length d5)).heap.size = W.heap.size := by simp [zp]
          rw [hsz]
          have hsame := fun (k : Nat) (hk : w.heap.size + 1 < k) => (other8 (w := Wp) (show k ≠ w.heap.size + 1 by omega) (.slice B1 S.bs.length d1) (.slice B2 S.ws.length d2) (.slice B3 nl d3) (.slice B4 S.last.length d4) (.int .u32 gen) (.int .i64 root) (.int .u32 next) (.slice B5 dead.length d5)).trans (hop k (by omega))
          have q1 := hns0.out C fun q v h1 h2 h3 => hC q v (by omega) (by rw [hsz]; omega) ((World.cell?_of_block ((hsame q.block (by omega)).trans ((Below.block hW _ (by omega)).trans (x4.block _ (by omega))))).trans h3)
          have q2 := hI.out.1.pos hI.out.2 (C := C) fun q v h1 h2 h3 => hC q v (by omega) (by rw [hsz]; omega) ((World.cell?_of_block (hsame q.block (by omega))).trans h3)
          rw [← hnl.out] at q1
          exact ⟨q1.more (by omega), q2⟩
    · generalize dataE S refs nodes a false = er at *
      have he : (er != 0) = true := by rw [bne_iff_ne]; exact h0
      have hq := Lib.hid h0
      clear h0
      go_wp2_with fail
      exact vshare_ret (b := w.heap.size + 1) rfl rfl rfl (row8 ro2 _ _ _ _ _ _ _ _) ⟨below8 x2 (by omega) _ _ _ _ _ _ _ _, .inr ⟨vs, refs, nodes, _, hpool.out, hcnt.out, hen.out, rfl, .inl ⟨by rw [hE0.out, if_pos hq.out]; exact hq.out, by rw [hE0.out, if_pos hq.out]; rfl⟩⟩⟩
theorem vloose_ret {R : Ending → World → Prop} {a : Act} {W : World} {b : Nat} {x0 x1 x2 x3 x4 x5 x6 x7 v : Value} (h4 : a.tmps[4]?.getD undef = .pointer (some ⟨b, 0, none⟩)) (h5 : a.tmps[5]?.getD undef = v) (hd : a.defers = [])
    (hrow : W.heap[b]? = some (.cells #[x0, x1, x2, x3, x4, x5, x6, x7] 32 (0, 0))) (hR : R (.returned (.tuple #[.agg #[x0, x1, x2, x3, x4, x5, x6, x7], v])) W) : bodyPost Try.prog Try.f18 R .ret a W := by
  refine bodyPost_ret (v := .tuple #[.agg #[x0, x1, x2, x3, x4, x5, x6, x7], v]) ?_ hd hR
  have k := cells_row hrow
  simp [results, Try.results18, go_sem, h4, h5, k]
set_option maxHeartbeats 8000000 in
set_option maxRecDepth 100000 in
theorem vloose_any (A1 : Option Addr) (n1 c1 : Nat) (A2 : Option Addr) (n2 c2 : Nat) (A3 : Option Addr) (n3 c3 : Nat) (A4 : Option Addr) (n4 c4 : Nat) (gen root next : Int) (A5 : Option Addr) (c5 : Nat) (S : Sto) (dead : List Int) (a : Int) (w : World)
    (h : StoAt w w.heap.size (.slice A1 n1 c1) (.slice A2 n2 c2) (.slice A3 n3 c3) (.slice A4 n4 c4) S) (hd : Ints w w.heap.size (.slice A5 dead.length c5) dead) :
    Calls Try.prog 18 #[.agg (poolCs (.slice A1 n1 c1) (.slice A2 n2 c2) (.slice A3 n3 c3) (.slice A4 n4 c4) gen root next (.slice A5 dead.length c5)), .int .i64 a] w (VolSQ S gen root next dead (vlooseE S a) (withNow S (down S.now a.toNat)) w) := by
  have HD := Lib.hid (fun W (hx : Ext w W) => data_any A1 n1 c1 A2 n2 c2 A3 n3 c3 A4 n4 c4 gen root next A5 c5 S dead a true W (h.ext hx) (hd.ext_ hx))
  have HS := Lib.hid (fun W (hx : Ext w W) => dloose_any A1 n1 c1 A2 n2 c2 A3 n3 c3 A4 n4 c4 S a W (h.ext hx))
  replace h := Lib.hid h
  replace hd := Lib.hid hd
  go_enter Try.func18, Try.ntmps18
  go_wp2_with fail
  generalize hw1 : (World.alloc (World.alloc _ _) _) = w1
  have x1 : Ext w w1 := by rw [← hw1]; exact (Ext.alloc _ _).trans (Ext.alloc _ _)
  have rp1 : w1.heap[w.heap.size]? = some (.cells (poolCs (.slice A1 n1 c1) (.slice A2 n2 c2) (.slice A3 n3 c3) (.slice A4 n4 c4) gen root next (.slice A5 dead.length c5)) 32 (0, 0)) := by rw [← hw1]; exact (Below.heap_alloc _ _ _ (by simp)).trans (World.alloc_heap_at _ _ _ rfl)
  have ro1 : w1.heap[w.heap.size + 1]? = some (.cells (poolCs (.slice none 0 0) (.slice none 0 0) (.slice none 0 0) (.slice none 0 0) 0 0 0 (.slice none 0 0)) 32 (0, 0)) := by rw [← hw1]; exact World.alloc_heap_at _ _ _ (by simp)
  clear hw1
  refine (HD.out w1 x1).mono ?_
  clear HD
  rintro e w2 ⟨hB, hQ⟩
  have x2 : Ext w w2 := Ext.trans x1 hB
  have rp2 := row_ext rp1 hB
  have ro2 := row_ext ro1 hB
  clear hB rp1 ro1 x1
  have kp2 := cells_row rp2
  have ko2 := cells_row ro2
  have fo2 := frozen_row ro2
  rcases hQ with ⟨rfl, hno⟩ | ⟨vs, refs, nodes, hpool, hcnt, hen, rfl⟩
  · replace hno := Lib.hid hno
    go_wp2_with fail
    exact vloose_ret (b := w.heap.size + 1) rfl rfl rfl (row8 ro2 _ _ _ _ _ _ _ _) ⟨below8 x2 (by omega) _ _ _ _ _ _ _ _, .inl ⟨rfl, hno.out⟩⟩
  · replace hpool := Lib.hid hpool
    replace hcnt := Lib.hid hcnt
    replace hen := Lib.hid hen
    have hE0 := Lib.hid (show vlooseE S a refs nodes = if dataE S refs nodes a true ≠ 0 then dataE S refs nodes a true else askR S a from rfl)
    by_cases h0 : dataE S refs nodes a true = 0
    · rw [h0]
      replace h0 := Lib.hid h0
      go_wp2_with fail
      refine (HS.out w2 x2).mono ?_
      clear HS
      rintro e w3 ⟨u, rfl, hu, hB⟩
      have x3 : Ext w w3 := x2.trans hB
      have z23' := hB.size
      have rp3 := row_ext rp2 hB
      have ro3 := row_ext ro2 hB
      have kp3 := cells_row rp3
      have ko3 := cells_row ro3
      have ro2' := ro2
      have fo3 := frozen_row ro3
      clear rp2 ro2 kp2 ko2 fo2
      rcases hu with ⟨h1, rfl⟩ | ⟨h1, v, rfl, hv⟩
      · generalize askR S a = er at *
        have he : (er != 0) = true := by rw [bne_iff_ne]; exact h1
        have hq := Lib.hid h1
        have zo3 : w.heap.size + 1 < w3.heap.size := (Array.getElem?_eq_some_iff.1 ro3).1
        clear h1
        go_wp2_with fail
        exact vloose_ret (b := w.heap.size + 1) rfl rfl rfl (row_ext (row8 ro3 _ _ _ _ _ _ _ _) (Ext.alloc _ _)) ⟨Below.alloc (below8 x3 (by omega) _ _ _ _ _ _ _ _) (by have := x3.size; simpa using this) _, .inr ⟨vs, refs, nodes, _, hpool.out, hcnt.out, hen.out, rfl, .inl ⟨by rw [hE0.out, if_neg (by simpa using h0.out)]; exact hq.out, by rw [hE0.out, if_neg (by simpa using h0.out)]; rfl⟩⟩⟩
      · have hsh : Short (withNow S (down S.now a.toNat)) := vol_short (askR_ok (a := a) (by have := h1; first | exact askR_of_share this | exact this)).1 (by first | exact turned_len _ _ _ | exact down_len _ _)
        have hns := hv.newSto hsh
        obtain ⟨B1, d1, B2, d2, B3, d3, B4, d4, rfl, hns2⟩ := hns
        have hns : ∀ C : World, PosOn w2.heap.size w3 C → StoAt C w3.heap.size (.slice B1 S.bs.length d1) (.slice B2 S.ws.length d2) (.slice B3 (down S.now a.toNat).length d3) (.slice B4 S.last.length d4) (withNow S (down S.now a.toNat)) := hns2
        replace hns := Lib.hid hns
        clear hv hns2
        have z12 := x2.size
        have zo : w.heap.size + 1 < w2.heap.size := (Array.getElem?_eq_some_iff.1 ro2').1
        have hns0 := hns.out
        clear hns
        go_upto_region 7 with fail
        obtain ⟨nl, hnl⟩ : ∃ nl, (down S.now a.toNat).length = nl := ⟨_, rfl⟩
        rw [hnl]
        rw [hnl] at hns0
        replace hnl := Lib.hid hnl
        replace hns0 := Lib.hid hns0
        have x4 : Ext w3 (w3.alloc (.cells #[.slice B1 S.bs.length d1, .slice B2 S.ws.length d2, .slice B3 nl d3, .slice B4 S.last.length d4] 28)) := Ext.alloc _ _
        have r4 : (w3.alloc (.cells #[.slice B1 S.bs.length d1, .slice B2 S.ws.length d2, .slice B3 nl d3, .slice B4 S.last.length d4] 28)).heap[w3.heap.size]? = _ := World.alloc_heap_at _ _ _ rfl
        generalize hw4 : w3.alloc _ = w4 at *
        clear hw4
        have rp4 := row_ext rp3 x4
        have ro4 := row_ext ro3 x4
        have gP : ∀ W, Ext w4 W → ∀ i, W.cell? ⟨w.heap.size, i, none⟩ = (poolCs (.slice A1 n1 c1) (.slice A2 n2 c2) (.slice A3 n3 c3) (.slice A4 n4 c4) gen root next (.slice A5 dead.length c5))[i]? := fun W h => cells_row (row_ext rp4 h)
        have gS : ∀ W, Ext w4 W → ∀ i, W.cell? ⟨w3.heap.size, i, none⟩ = #[.slice B1 S.bs.length d1, .slice B2 S.ws.length d2, .slice B3 nl d3, .slice B4 S.last.length d4][i]? := fun W h => cells_row (row_ext r4 h)
        have HI := Lib.hid (fun W (hW : Ext w4 W) => iclone_any (.slice A5 dead.length c5) dead (by have := hpool.out.few; omega) W (hd.out.ext_ ((x3.trans x4).trans hW)))
        clear kp3 ko3 fo3 rp3 ro3
        refine wp_region_free (outsAt [(3, outN w4.heap.size dead.length dead)]) 5 (by kernel_rfl) (by kernel_rfl) (by kernel_rfl) (by decide) (by kernel_rfl) (by kernel_rfl) ?st ?walk
        case st => exact outsAt_stable (by simp only [List.forall_mem_cons]; exact ⟨outN_stable _ _ _, fun _ h => by cases h⟩)
        case walk =>
          intro K hK
          dsimp only [List.take]
          repeat ((first | (refine free_plain ?_ (by rfl) (by rfl) (fun W hW _ => ⟨W, ?_, Ext.refl W⟩) ?_; rotate_left; (first | (go_simp; with_reducible rfl) | (go_simp; done))) | (refine free_skip (by rfl) ?_)); try simp only [Act.put, one_f, outB_f, outNew_f, outI_f, outN_f, List.setIfInBounds_toArray, List.set_cons_zero, List.set_cons_succ])
          refine free_hard (outN w4.heap.size dead.length dead) (by rfl) (by rfl) (fun W hW _ => ?_) (fun p => ?_)
          · refine hardAt_call ?_ ((HI.out W hW).mono fun e w' h => ?_)
            · go_simp
            obtain ⟨u, rfl, hu, hB⟩ := h
            obtain ⟨A', c', rfl, _, _⟩ := own_slice hu
            exact ⟨(A', c'), rfl, ⟨Ints.of_own hu, (From.of_own hu).mono hW.size⟩, hB⟩
          obtain ⟨B5, d5⟩ := p
          simp only [Act.put, one_f, outB_f, outNew_f, outI_f, outN_f, List.setIfInBounds_toArray, List.set_cons_zero, List.set_cons_succ]
          repeat ((first | (refine free_plain ?_ (by rfl) (by rfl) (fun W hW _ => ⟨W, ?_, Ext.refl W⟩) ?_; rotate_left; (first | (go_simp; with_reducible rfl) | (go_simp; done))) | (refine free_skip (by rfl) ?_)); try simp only [Act.put, one_f, outB_f, outNew_f, outI_f, outN_f, List.setIfInBounds_toArray, List.set_cons_zero, List.set_cons_succ])
          refine free_nil (hK _ _ fun W hW hF => ?_)
          have hI : Ints W W.heap.size (.slice B5 dead.length d5) dead ∧ From w4.heap.size (.slice B5 dead.length d5) := (hF 3).1
          clear hF hK gP gS
          dsimp only [List.drop]
          have zr := rp4
          have rp5 := row_ext rp4 hW
          have ro5 := row_ext ro4 hW
          have kp5 := cells_row rp5
          have fp5 := frozen_row rp5
          have ko5 := cells_row ro5
          have fo5 := frozen_row ro5
          have zp5 : w.heap.size < W.heap.size := (Array.getElem?_eq_some_iff.1 rp5).1
          have zo5 : w.heap.size + 1 < W.heap.size := (Array.getElem?_eq_some_iff.1 ro5).1
          replace hI := Lib.hid hI
          clear HI rp4 ro4 r4
          go_wp2_with fail
          generalize hWp : (((((W.setCell ⟨w.heap.size, 0, none⟩ _).setCell ⟨w.heap.size, 1, none⟩ _).setCell ⟨w.heap.size, 2, none⟩ _).setCell ⟨w.heap.size, 3, none⟩ _).setCell ⟨w.heap.size, 7, none⟩ _) = Wp
          have hop : ∀ k, k ≠ w.heap.size → Wp.heap[k]? = W.heap[k]? := fun k hk => by rw [← hWp, Below.heap_setCell _ _ _ _ hk, Below.heap_setCell _ _ _ _ hk, Below.heap_setCell _ _ _ _ hk, Below.heap_setCell _ _ _ _ hk, Below.heap_setCell _ _ _ _ hk]
          have zp : Wp.heap.size = W.heap.size := by rw [← hWp]; simp
          have xp : Below w.heap.size w Wp := by rw [← hWp]; exact Below.setCell (below4 ((x3.trans x4).trans hW) (b := w.heap.size) (Nat.le_refl _) _ _ _ _) (p := ⟨w.heap.size, 7, none⟩) (Nat.le_refl _) _
          clear hWp
          have rop : Wp.heap[w.heap.size + 1]? = _ := (hop _ (by omega)).trans ro5
          have z34 := x4.size
          have z4W := Below.size hW
          have z23 : w2.heap.size ≤ w3.heap.size := z23'
          refine vloose_ret (b := w.heap.size + 1) rfl rfl rfl (row8 rop _ _ _ _ _ _ _ _) ⟨below8 xp (by omega) _ _ _ _ _ _ _ _, .inr ⟨vs, refs, nodes, _, hpool.out, hcnt.out, hen.out, rfl, .inr ⟨by rw [hE0.out, if_neg (by simpa using h0.out)]; exact h1, _, rfl, B1, d1, B2, d2, B3, d3, B4, d4, B5, d5, by rw [← hnl.out], fun C hC => ?_⟩⟩⟩
          have hsz : ((((((((Wp.setCell ⟨w.heap.size + 1, 0, none⟩ (.slice B1 S.bs.length d1)).setCell ⟨w.heap.size + 1, 1, none⟩ (.slice B2 S.ws.length d2)).setCell ⟨w.heap.size + 1, 2, none⟩ (.slice B3 nl d3)).setCell ⟨w.heap.size + 1, 3, none⟩ (.slice B4 S.last.length d4)).setCell ⟨w.heap.size + 1, 4, none⟩ (.int .u32 gen)).setCell ⟨w.heap.size + 1, 5, none⟩ (.int .i64 root)).setCell ⟨w.heap.size + 1, 6, none⟩ (.int .u32 next)).setCell ⟨w.heap.size + 1, 7, none⟩ (.slice B5 dead.length d5)).heap.size = W.heap.size := by simp [zp]
          rw [hsz]
          have hsame := fun (k : Nat) (hk : w.heap.size + 1 < k) => (other8 (w := Wp) (show k ≠ w.heap.size + 1 by omega) (.slice B1 S.bs.length d1) (.slice B2 S.ws.length d2) (.slice B3 nl d3) (.slice B4 S.last.length d4) (.int .u32 gen) (.int .i64 root) (.int .u32 next) (.slice B5 dead.length d5)).trans (hop k (by omega))
          have q1 := hns0.out C fun q v h1 h2 h3 => hC q v (by omega) (by rw [hsz]; omega) ((World.cell?_of_block ((hsame q.block (by omega)).trans ((Below.block hW _ (by omega)).trans (x4.block _ (by omega))))).trans h3)
          have q2 := hI.out.1.pos hI.out.2 (C := C) fun q v h1 h2 h3 => hC q v (by omega) (by rw [hsz]; omega) ((World.cell?_of_block (hsame q.block (by omega))).trans h3)
          rw [← hnl.out] at q1
          exact ⟨q1.more (by omega), q2⟩
    · generalize dataE S refs nodes a true = er at *
      have he : (er != 0) = true := by rw [bne_iff_ne]; exact h0
      have hq := Lib.hid h0
      clear h0
      go_wp2_with fail
      exact vloose_ret (b := w.heap.size + 1) rfl rfl rfl (row8 ro2 _ _ _ _ _ _ _ _) ⟨below8 x2 (by omega) _ _ _ _ _ _ _ _, .inr ⟨vs, refs, nodes, _, hpool.out, hcnt.out, hen.out, rfl, .inl ⟨by rw [hE0.out, if_pos hq.out]; exact hq.out, by rw [hE0.out, if_pos hq.out]; rfl⟩⟩⟩
end Go.Proofs.Ytlgbjpihmkeopaa
/- Contracts: what leaves no room is refused; the deferred closure of 'Lay'. -/
namespace Go.Proofs.Ytlgbjpihmkeopaa
set_option linter.unusedSimpArgs false
set_option linter.unusedVariables false
open Go.RowKit

def roomE (S : Sto) : Int := if storeMay S = true ∧ 16 ≤ (freeS S).length then 0 else 9
structure Two (bp be : Nat) (W W' : World) : Prop where
  os : W'.os = W.os
  tape : W'.tape = W.tape
  output : W'.output = W.output
  size : W.heap.size ≤ W'.heap.size
  same : ∀ k, k < W.heap.size → k ≠ bp → k ≠ be → W'.heap[k]? = W.heap[k]?
theorem Two.of_ext {bp be : Nat} {W W' : World} (h : Ext W W') : Two bp be W W' := ⟨h.os, h.tape, h.output, h.size, fun k hk _ _ => h.block k hk⟩
theorem Two.below {bp be B : Nat} {w0 W W' : World} (h : Two bp be W W') (hb : Below B w0 W) (h1 : B ≤ bp) (h2 : B ≤ be) (hB : B ≤ W.heap.size) : Below B w0 W' := hb.trans ⟨h.os, h.tape, h.output, h.size, fun k hk => h.same k (by omega) (by omega) (by omega)⟩
abbrev zeroCs : Array Value := poolCs (.slice none 0 0) (.slice none 0 0) (.slice none 0 0) (.slice none 0 0) 0 0 0 (.slice none 0 0)
theorem Two.trans {bp be : Nat} {A B C : World} (h : Two bp be A B) (k : Two bp be B C) : Two bp be A C := ⟨k.os.trans h.os, k.tape.trans h.tape, k.output.trans h.output, Nat.le_trans h.size k.size, fun i hi h1 h2 => (k.same i (Nat.lt_of_lt_of_le hi h.size) h1 h2).trans (h.same i hi h1 h2)⟩
theorem Two.setP {bp be : Nat} (A : World) (j : Nat) (v : Value) : Two bp be A (A.setCell ⟨bp, j, none⟩ v) := ⟨rfl, rfl, rfl, by simp, fun k _ hk _ => Below.heap_setCell _ _ _ _ hk⟩
theorem Two.setE {bp be : Nat} (A : World) (j : Nat) (v : Value) : Two bp be A (A.setCell ⟨be, j, none⟩ v) := ⟨rfl, rfl, rfl, by simp, fun k _ _ hk => Below.heap_setCell _ _ _ _ hk⟩
theorem Two.set8 {bp be : Nat} (w : World) (x0 x1 x2 x3 x4 x5 x6 x7 : Value) : Two bp be w ((((((((w.setCell ⟨bp, 0, none⟩ x0).setCell ⟨bp, 1, none⟩ x1).setCell ⟨bp, 2, none⟩ x2).setCell ⟨bp, 3, none⟩ x3).setCell ⟨bp, 4, none⟩ x4).setCell ⟨bp, 5, none⟩ x5).setCell ⟨bp, 6, none⟩ x6).setCell ⟨bp, 7, none⟩ x7) :=
  (Two.setP _ _ _).trans ((Two.setP _ _ _).trans ((Two.setP _ _ _).trans ((Two.setP _ _ _).trans ((Two.setP _ _ _).trans ((Two.setP _ _ _).trans ((Two.setP _ _ _).trans (Two.setP _ _ _)))))))
def RoomyQ (bp be : Nat) (cs : Array Value) (e : Int) (S : Sto) (W W' : World) : Prop := Two bp be W W' ∧
  ((e = 0 ∧ roomE S = 0 ∧ W'.heap[bp]? = some (.cells cs 32 (0, 0)) ∧ W'.heap[be]? = some (.cells #[.int .i64 0] 35 (0, 0))) ∨
    ∃ e', e' ≠ 0 ∧ ((e = 0 ∧ e' = roomE S) ∨ (e ≠ 0 ∧ e' = e)) ∧ W'.heap[bp]? = some (.cells zeroCs 32 (0, 0)) ∧ W'.heap[be]? = some (.cells #[.int .i64 e'] 35 (0, 0)))

set_option maxHeartbeats 4000000 in
set_option maxRecDepth 100000 in
theorem roomy_any (bp be : Nat) (hne : bp ≠ be) (A1 : Option Addr) (n1 c1 : Nat) (A2 : Option Addr) (n2 c2 : Nat) (A3 : Option Addr) (n3 c3 : Nat) (A4 : Option Addr) (n4 c4 : Nat) (gen root next : Int) (v5 : Value) (e : Int) (S : Sto) (w : World)
    (hp : w.heap[bp]? = some (.cells (poolCs (.slice A1 n1 c1) (.slice A2 n2 c2) (.slice A3 n3 c3) (.slice A4 n4 c4) gen root next v5) 32 (0, 0))) (he : w.heap[be]? = some (.cells #[.int .i64 e] 35 (0, 0)))
    (h : e = 0 → StoAt w w.heap.size (.slice A1 n1 c1) (.slice A2 n2 c2) (.slice A3 n3 c3) (.slice A4 n4 c4) S) :
    Calls Try.prog 39 #[.pointer (some ⟨bp, 0, none⟩), .pointer (some ⟨be, 0, none⟩)] w (fun x w' => x = .returned (.tuple #[]) ∧ RoomyQ bp be (poolCs (.slice A1 n1 c1) (.slice A2 n2 c2) (.slice A3 n3 c3) (.slice A4 n4 c4) gen root next v5) e S w w') := by
  have kp := cells_row hp
  have ke := cells_row he
  have fp := frozen_row hp
  have fe := frozen_row he
  have zp : bp < w.heap.size := (Array.getElem?_eq_some_iff.1 hp).1
  have ze : be < w.heap.size := (Array.getElem?_eq_some_iff.1 he).1
  by_cases h0 : e = 0
  · subst h0
    have HF := rfree_any A1 n1 c1 A2 n2 c2 A3 n3 c3 A4 n4 c4 S w (h rfl)
    clear h
    go_enter Try.func39, Try.ntmps39
    go_wp2_with fail
    refine HF.mono ?_
    rintro x w2 ⟨hB, hQ⟩
    have x2 : Ext w w2 := hB
    have hp2 := row_ext hp x2
    have he2 := row_ext he x2
    have kp2 := cells_row hp2
    have ke2 := cells_row he2
    have fp2 := frozen_row hp2
    have fe2 := frozen_row he2
    clear kp ke fp fe hB HF hp he
    rcases hQ with ⟨hm, rfl⟩ | ⟨hm, v, rfl, hown⟩
    · have hE : roomE S = 9 := by unfold roomE; rw [hm]; rfl
      replace hE := Lib.hid hE
      replace hm := Lib.hid hm
      have hne' : ¬ be = bp := fun e => hne e.symm
      go_wp2_with fail
      go_end0
      exact ⟨rfl, (Two.of_ext x2).trans ((Two.setE _ _ _).trans (Two.set8 _ _ _ _ _ _ _ _ _)), .inr ⟨9, by decide, .inl ⟨rfl, hE.out.symm⟩, row8 ((Below.heap_setCell _ _ _ _ hne).trans hp2) _ _ _ _ _ _ _ _, (other8 hne' _ _ _ _ _ _ _ _).trans (row_set he2 0 _)⟩⟩
    · obtain ⟨A, c, rfl, -, -⟩ := own_slice hown
      clear hown
      by_cases hl : (freeS S).length < 16
      · have hE : roomE S = 9 := by unfold roomE; rw [if_neg (by omega)]
        replace hE := Lib.hid hE
        have d1 : decide (((freeS S).length : Int) < 16) = true := decide_eq_true (by omega)
        have d2 : decide ((freeS S).length < 16) = true := decide_eq_true hl
        replace hl := Lib.hid hl
        replace hm := Lib.hid hm
        have hne' : ¬ be = bp := fun e => hne e.symm
        go_wp2_with fail
        go_end0
        exact ⟨rfl, (Two.of_ext x2).trans ((Two.setE _ _ _).trans (Two.set8 _ _ _ _ _ _ _ _ _)), .inr ⟨9, by decide, .inl ⟨rfl, hE.out.symm⟩, row8 ((Below.heap_setCell _ _ _ _ hne).trans hp2) _ _ _ _ _ _ _ _, (other8 hne' _ _ _ _ _ _ _ _).trans (row_set he2 0 _)⟩⟩
      · have hE : roomE S = 0 := by unfold roomE; rw [if_pos ⟨hm, by omega⟩]
        replace hE := Lib.hid hE
        have d1 : decide (((freeS S).length : Int) < 16) = false := decide_eq_false (by omega)
        have d2 : decide ((freeS S).length < 16) = false := decide_eq_false hl
        replace hl := Lib.hid hl
        replace hm := Lib.hid hm
        have hne' : ¬ be = bp := fun e => hne e.symm
        go_wp2_with fail
        go_end0
        exact ⟨rfl, Two.of_ext x2, .inl ⟨rfl, hE.out, hp2, he2⟩⟩
  · have b0 : (e == 0) = false := by rw [beq_eq_false_iff_ne]; exact h0
    have b1 : (e != 0) = true := by rw [bne_iff_ne]; exact h0
    have b2 : decide (e = 0) = false := decide_eq_false h0
    replace h0 := Lib.hid h0
    replace hne := Lib.hid hne
    clear h
    go_enter Try.func39, Try.ntmps39
    go_wp2_with fail
    go_end0
    exact ⟨rfl, Two.set8 _ _ _ _ _ _ _ _ _, .inr ⟨e, h0.out, .inr ⟨h0.out, rfl⟩, row8 hp _ _ _ _ _ _ _ _, (other8 (fun x => hne.out x.symm) _ _ _ _ _ _ _ _).trans he⟩⟩
end Go.Proofs.Ytlgbjpihmkeopaa
