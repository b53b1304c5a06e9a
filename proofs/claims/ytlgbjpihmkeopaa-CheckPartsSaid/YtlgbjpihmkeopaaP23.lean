/- Texts Commit, Uses, IWrite, NWrite, joined. -/
import Derived.Test.YtlgbjpihmkeopaaP05
import Derived.Test.YtlgbjpihmkeopaaP06
import Derived.Test.YtlgbjpihmkeopaaP14
import Derived.Test.YtlgbjpihmkeopaaP20
import Derived.Test.YtlgbjpihmkeopaaP22
/- Contracts: a commit. -/
namespace Go.Proofs.Ytlgbjpihmkeopaa
set_option linter.unusedSimpArgs false
set_option linter.unusedVariables false
open Go.RowKit

theorem smay_iff {S : Sto} : storeMay S = true ↔ diskMay S.bs S.ws = true ∧ tabMay S.now = true ∧ tabMay S.last = true := by unfold storeMay; simp [Bool.and_eq_true]
def CAskQ (S : Sto) (gen root next : Int) (dead : List Int) (w : World) (e : Ending) (w' : World) : Prop := Below w.heap.size w w' ∧
  ((∃ er : Int, er ≠ 0 ∧ e = .returned (.int .i64 er)) ∨ (e = .returned (.int .i64 0) ∧ gen ≠ 4294967295 ∧ ∃ vs refs nodes, PoolB S root next dead vs ∧ Counted S (rootsN root dead vs) refs nodes ∧ Enough S refs))
theorem cask_ret {R : Ending → World → Prop} {a : Act} {W : World} {u : Value} (h2 : a.tmps[2]?.getD undef = u) (hd : a.defers = []) (hR : R (.returned u) W) : bodyPost Try.prog Try.f32 R .ret a W := by
  refine bodyPost_ret (v := u) ?_ hd hR
  simp [results, Try.results32, go_sem, h2]
set_option maxHeartbeats 2000000 in
set_option maxRecDepth 100000 in
theorem cask_any (A1 : Option Addr) (n1 c1 : Nat) (A2 : Option Addr) (n2 c2 : Nat) (A3 : Option Addr) (n3 c3 : Nat) (A4 : Option Addr) (n4 c4 : Nat) (gen root next : Int) (A5 : Option Addr) (c5 : Nat) (S : Sto) (dead : List Int) (w : World)
    (h : StoAt w w.heap.size (.slice A1 n1 c1) (.slice A2 n2 c2) (.slice A3 n3 c3) (.slice A4 n4 c4) S) (hd : Ints w w.heap.size (.slice A5 dead.length c5) dead) :
    Calls Try.prog 32 #[.agg (poolCs (.slice A1 n1 c1) (.slice A2 n2 c2) (.slice A3 n3 c3) (.slice A4 n4 c4) gen root next (.slice A5 dead.length c5))] w (CAskQ S gen root next dead w) := by
  have HC := Lib.hid (fun W (hx : Ext w W) => pcheck_any A1 n1 c1 A2 n2 c2 A3 n3 c3 A4 n4 c4 gen root next A5 c5 S dead W (h.ext hx) (hd.ext_ hx))
  clear h hd
  go_enter Try.func32, Try.ntmps32
  go_wp2_with fail
  generalize hw1 : World.alloc w _ = w1
  have x1 : Ext w w1 := by rw [← hw1]; exact Ext.alloc _ _
  have r1 : w1.heap[w.heap.size]? = some (.cells (poolCs (.slice A1 n1 c1) (.slice A2 n2 c2) (.slice A3 n3 c3) (.slice A4 n4 c4) gen root next (.slice A5 dead.length c5)) 32 (0, 0)) := by rw [← hw1]; exact World.alloc_heap_at _ _ _ rfl
  clear hw1
  refine (HC.out w1 x1).mono ?_
  clear HC
  rintro e w2 ⟨hB, hQ⟩
  have x2 : Ext w w2 := Ext.trans x1 hB
  have r2 := row_ext r1 hB
  have k2 := cells_row r2
  clear hB r1 x1
  rcases hQ with ⟨rfl, -⟩ | ⟨rfl, hok⟩
  · go_wp2_with fail
    exact cask_ret rfl rfl ⟨x2, .inl ⟨8, by decide, rfl⟩⟩
  · by_cases hg : gen = 4294967295
    · have d1 : (gen == 4294967295) = true := by rw [beq_iff_eq]; exact hg
      replace hg := Lib.hid hg
      replace hok := Lib.hid hok
      go_wp2_with fail
      exact cask_ret rfl rfl ⟨x2, .inl ⟨9, by decide, rfl⟩⟩
    · have d1 : (gen == 4294967295) = false := by rw [beq_eq_false_iff_ne]; exact hg
      replace hg := Lib.hid hg
      replace hok := Lib.hid hok
      go_wp2_with fail
      exact cask_ret rfl rfl ⟨x2, .inr ⟨rfl, hg.out, hok.out⟩⟩
def CommitQ (S : Sto) (gen root next : Int) (dead : List Int) (w : World) (e : Ending) (w' : World) : Prop := Below w.heap.size w w' ∧
  ((∃ er : Int, er ≠ 0 ∧ e = .returned (.tuple #[pool0, .int .i64 er])) ∨
    ∃ vs refs nodes bs, PoolB S root next dead vs ∧ Counted S (rootsN root dead vs) refs nodes ∧ Enough S refs ∧ diskMay bs [] = true ∧ (∀ r : Nat, 8 ≤ r → r < 256 → seenD bs [] r = seenD S.bs S.ws r) ∧
      ∃ A1 c1 A2 c2 A3 c3 A4 c4 A5 c5, e = .returned (.tuple #[.agg (poolCs (.slice A1 bs.length c1) (.slice A2 0 c2) (.slice A3 S.now.length c3) (.slice A4 S.now.length c4) (gen + 1) root next (.slice A5 dead.length c5)), .int .i64 0]) ∧
        StoAt w' w'.heap.size (.slice A1 bs.length c1) (.slice A2 0 c2) (.slice A3 S.now.length c3) (.slice A4 S.now.length c4) ⟨bs, [], S.now, S.now⟩ ∧ Ints w' w'.heap.size (.slice A5 dead.length c5) dead)
def outSs (cs : Array Value) : Outs := ⟨Nat × Nat, fun p => .slice (some ⟨p.1, 0, none⟩) 3 3, fun p W => W.heap[p.1]? = some (.cells (stepsCs p.2) 122 (0, 0)) ∧ W.heap[p.2]? = some (.cells cs 32 (0, 0))⟩
theorem outSs_f (cs : Array Value) (a b : Nat) : (outSs cs).f (a, b) = .slice (some ⟨a, 0, none⟩) 3 3 := rfl
theorem outSs_stable (cs : Array Value) : ∀ p, Stable ((outSs cs).φ p) := fun p W W' he h => ⟨row_ext h.1 he, row_ext h.2 he⟩
theorem commit_ret {R : Ending → World → Prop} {a : Act} {W : World} {b : Nat} {x0 x1 x2 x3 x4 x5 x6 x7 v : Value} (h4 : a.tmps[2]?.getD undef = .pointer (some ⟨b, 0, none⟩)) (h5 : a.tmps[3]?.getD undef = v) (hd : a.defers = [])
    (hrow : W.heap[b]? = some (.cells #[x0, x1, x2, x3, x4, x5, x6, x7] 32 (0, 0))) (hR : R (.returned (.tuple #[.agg #[x0, x1, x2, x3, x4, x5, x6, x7], v])) W) : bodyPost Try.prog Try.f15 R .ret a W := by
  refine bodyPost_ret (v := .tuple #[.agg #[x0, x1, x2, x3, x4, x5, x6, x7], v]) ?_ hd hR
  have k := cells_row hrow
  simp [results, Try.results15, go_sem, h4, h5, k]
theorem good_roots {S : Sto} {root next : Int} {dead : List Int} {vs : List Vol} (hp : PoolB S root next dead vs) : (∃ r : Nat, root = (r : Int) ∧ 8 ≤ r ∧ r < 256) ∧ ∀ x ∈ dead, 8 ≤ x ∧ x < 256 := by
  have key : ∀ x ∈ root :: dead, ∃ r : Nat, x = (r : Int) ∧ 8 ≤ r ∧ r < 256 := fun x hx => by
    obtain ⟨n, e, h1, h2, _⟩ := okL_root (hp.ok x (List.mem_append_left _ hx))
    exact ⟨n, e, h1, h2⟩
  refine ⟨key root List.mem_cons_self, fun x hx => ?_⟩
  obtain ⟨n, e, h1, h2⟩ := key x (List.mem_cons_of_mem _ hx)
  omega
theorem Bys.posC {w C : World} {B lo : Nat} {v : Value} {l : List UInt8} (h : Bys w B v l) (hf : From lo v) (hk : ∀ (q : Addr) (v : Value), lo ≤ q.block → q.block < B → w.cell? q = some v → C.cell? q = some v) : Bys C B v l := by
  obtain ⟨A, c, e, hc, hm, hr⟩ := h
  subst e
  exact ⟨A, c, rfl, hc, hm, Rd.pos hr hf hk⟩
theorem DskZ.reads {lo n c m d : Nat} {A B : Option Addr} {bs : List (List UInt8)} {ws : List (Int × List UInt8)} {W : World} (h : DskZ lo (diskV A n c B m d) bs ws W) : Bls W W.heap.size (.slice A n c) bs ∧ Wrs W W.heap.size (.slice B m d) ws := by
  obtain ⟨A', c', B', d', ev, hc⟩ := h
  have := hc W fun _ _ _ _ h => h
  simp only [diskV, Array.mk.injEq, List.cons.injEq, Value.agg.injEq, Value.slice.injEq, and_true, true_and] at ev
  obtain ⟨⟨rfl, rfl, rfl⟩, rfl, rfl, rfl⟩ := ev
  exact this
set_option maxHeartbeats 8000000 in
set_option maxRecDepth 100000 in
theorem commit_any (A1 : Option Addr) (c1 : Nat) (A2 : Option Addr) (c2 : Nat) (A3 : Option Addr) (c3 : Nat) (A4 : Option Addr) (c4 : Nat) (gen next : Nat) (hg : gen < 4294967296) (hn : next < 4294967296) (root : Int) (A5 : Option Addr) (c5 : Nat) (S : Sto) (dead : List Int) (w : World)
    (h : StoAt w w.heap.size (.slice A1 S.bs.length c1) (.slice A2 S.ws.length c2) (.slice A3 S.now.length c3) (.slice A4 S.last.length c4) S) (hd : Ints w w.heap.size (.slice A5 dead.length c5) dead) :
    Calls Try.prog 15 #[.agg (poolCs (.slice A1 S.bs.length c1) (.slice A2 S.ws.length c2) (.slice A3 S.now.length c3) (.slice A4 S.last.length c4) gen root next (.slice A5 dead.length c5))] w (CommitQ S gen root next dead w) := by
  have HC := Lib.hid (fun W (hx : Ext w W) => cask_any A1 _ c1 A2 _ c2 A3 _ c3 A4 _ c4 gen root next A5 c5 S dead W (h.ext hx) (hd.ext_ hx))
  replace h := Lib.hid h
  replace hd := Lib.hid hd
  go_enter Try.func15, Try.ntmps15
  go_wp2_with fail
  generalize hw1 : (World.alloc (World.alloc _ _) _) = w1
  have x1 : Ext w w1 := by rw [← hw1]; exact (Ext.alloc _ _).trans (Ext.alloc _ _)
  have s1 : w1.heap.size = w.heap.size + 2 := by rw [← hw1]; simp
  have rp1 : w1.heap[w.heap.size]? = some (.cells (poolCs (.slice A1 S.bs.length c1) (.slice A2 S.ws.length c2) (.slice A3 S.now.length c3) (.slice A4 S.last.length c4) gen root next (.slice A5 dead.length c5)) 32 (0, 0)) := by rw [← hw1]; exact (Below.heap_alloc _ _ _ (by simp)).trans (World.alloc_heap_at _ _ _ rfl)
  have ro1 : w1.heap[w.heap.size + 1]? = some (.cells (poolCs (.slice none 0 0) (.slice none 0 0) (.slice none 0 0) (.slice none 0 0) 0 0 0 (.slice none 0 0)) 32 (0, 0)) := by rw [← hw1]; exact World.alloc_heap_at _ _ _ (by simp)
  clear hw1
  refine (HC.out w1 x1).mono ?_
  clear HC
  rintro e w2 ⟨hB, hQ⟩
  have x2 : Ext w w2 := x1.trans hB
  have rp2 := row_ext rp1 hB
  have ro2 := row_ext ro1 hB
  have s2 := Below.size hB
  clear hB rp1 ro1 x1
  have kp2 := cells_row rp2
  have ko2 := cells_row ro2
  have fo2 := frozen_row ro2
  rcases hQ with ⟨er, her, rfl⟩ | ⟨rfl, hgn, vs, refs, nodes, hpool, hcnt, hen⟩
  · have heb : (er != 0) = true := by rw [bne_iff_ne]; exact her
    replace her := Lib.hid her
    go_wp2_with fail
    exact commit_ret (b := w.heap.size + 1) rfl rfl rfl (row8 ro2 _ _ _ _ _ _ _ _) ⟨below8 x2 (by omega) _ _ _ _ _ _ _ _, .inl ⟨er, her.out, rfl⟩⟩
  · obtain ⟨⟨r, hr, hr8, hr256⟩, hdd⟩ := good_roots hpool
    have hS := hpool.may
    obtain ⟨hm1, hm2, hm3⟩ := smay_iff.1 hS
    have hfew := hpool.few
    have hgg : gen + 1 < 4294967296 := by omega
    have HA := Lib.hid (fun pb sb W (hx : Ext w2 W) hsb hp => ahead_any pb sb A1 c1 A2 c2 A3 c3 A4 S.last.length c4 S.bs S.ws hm1 S.now hm2 gen hgg r next hn hr8 hr256 A5 c5 dead hfew hdd W hsb hp (h.out.ext (x2.trans hx)).bs (h.out.ext (x2.trans hx)).ws (h.out.ext (x2.trans hx)).now (hd.out.ext_ (x2.trans hx)))
    subst hr
    have HT := Lib.hid (fun W (hx : Ext w2 W) => ptwin_any A1 _ c1 A2 _ c2 A3 _ c3 A4 _ c4 gen (r : Int) next A5 c5 S dead (short_of_may hS) (by omega) W (h.out.ext (x2.trans hx)) (hd.out.ext_ (x2.trans hx)))
    have hm1' := Lib.hid hm1
    have HS := Lib.hid (fun W => steps_any (.slice A1 S.bs.length c1) (.slice A2 S.ws.length c2) (.slice A3 S.now.length c3) (.slice A4 S.last.length c4) (.slice A5 dead.length c5) gen r next A1 A2 A3 A4 A5 _ c1 _ c2 _ c3 _ c4 _ c5 rfl rfl rfl rfl rfl W)
    have hnl : S.now.length < 1073741824 := by have := (storeMay_len hS).2.2.1; omega
    replace hnl := Lib.hid hnl
    replace hpool := Lib.hid hpool
    replace hcnt := Lib.hid hcnt
    replace hen := Lib.hid hen
    clear hS hm1 hm2 hm3 hfew hdd hgn
    go_upto_region 4 with fail
    have gP : ∀ W, extRel.r w2 W → ∀ i, W.cell? ⟨w.heap.size, i, none⟩ = (poolCs (.slice A1 S.bs.length c1) (.slice A2 S.ws.length c2) (.slice A3 S.now.length c3) (.slice A4 S.last.length c4) gen r next (.slice A5 dead.length c5))[i]? := fun W h => cells_row (row_ext rp2 h)
    refine region_start (by kernel_rfl) ?_
    refine any_edge 6 8 (by decide) (by rfl) (by rfl) (by kernel_rfl) (by rfl) (by kernel_rfl) (by kernel_rfl) (pure_extract (by rfl)) ?_
    dsimp only [addE, List.length_cons, List.length_nil]
    refine any_free (w := w2) extRel (outsAt [(2, outSs (poolCs (.slice A1 S.bs.length c1) (.slice A2 S.ws.length c2) (.slice A3 S.now.length c3) (.slice A4 S.last.length c4) gen r next (.slice A5 dead.length c5))), (3, outSt S.bs S.ws w2.heap.size), (7, outNew w2.heap.size 25 #[.slice none 0 0, .slice none 0 0])]) [true, true, true, true, true, true, true, true] 2 (by kernel_rfl) (by kernel_rfl) (by kernel_rfl) (by kernel_rfl) (by kernel_rfl) (by kernel_rfl) ?st (Rel.drew _ _) ?walk
    case st => exact outsAt_stableG (by simp only [List.forall_mem_cons]; exact ⟨fun p => stableG_ext (outSs_stable _ p), fun p => stableG_ext (outSt_stable _ _ _ p), fun p => stableG_ext (outNew_stable _ _ _ p), fun _ h => by cases h⟩)
    case walk =>
      intro K hK
      dsimp only [maskOps]
      repeat ((first | (refine free_plainM ?_ (by rfl) (by rfl) (fun W hW _ => ⟨W, ?_, Rel.refl _ W⟩) ?_; rotate_left; (first | (go_simp; with_reducible rfl) | (go_simp; done))) | (refine free_skipM (by rfl) ?_)); try simp only [Act.put, one_f, outB_f, outNew_f, outI_f, outSt_f, outSs_f, outNew_f, outNB_f, List.setIfInBounds_toArray, List.set_cons_zero, List.set_cons_succ])
      refine free_hardM (outSs (poolCs (.slice A1 S.bs.length c1) (.slice A2 S.ws.length c2) (.slice A3 S.now.length c3) (.slice A4 S.last.length c4) gen r next (.slice A5 dead.length c5))) (by rfl) (by rfl) (fun W hW _ => ?_) (fun p => ?_)
      · refine hardAt_callG ?_ ((HS.out W).mono fun e w' h => ?_)
        · go_simp
        obtain ⟨sb, rfl, g1, g2, hB⟩ := h
        exact ⟨(sb, W.heap.size), rfl, ⟨g1, g2⟩, hB⟩
      obtain ⟨sb, pb⟩ := p
      simp only [Act.put, one_f, outB_f, outNew_f, outI_f, outSt_f, outSs_f, outNew_f, outNB_f, List.setIfInBounds_toArray, List.set_cons_zero, List.set_cons_succ]
      repeat ((first | (refine free_plainM ?_ (by rfl) (by rfl) (fun W hW _ => ⟨W, ?_, Rel.refl _ W⟩) ?_; rotate_left; (first | (go_simp; with_reducible rfl) | (go_simp; done))) | (refine free_skipM (by rfl) ?_)); try simp only [Act.put, one_f, outB_f, outNew_f, outI_f, outSt_f, outSs_f, outNew_f, outNB_f, List.setIfInBounds_toArray, List.set_cons_zero, List.set_cons_succ])
      refine free_hardM (outSt S.bs S.ws w2.heap.size) (by rfl) (by rfl) (fun W hW hF => ?_) (fun p => ?_)
      · have hs := (hF 2 (by decide)).1
        have hW' : Ext w2 W := hW
        refine hardAt_callG ?_ ((HA.out pb sb W hW' hs.1 hs.2).mono fun e w' h => ?_)
        · go_simp
        obtain ⟨u, rfl, hu, hB⟩ := h
        have hu2 := hu.keep hW'.size (Nat.le_refl _) fun _ _ _ => rfl
        obtain ⟨A, n, c, B, m, d, er, rfl⟩ := hu.form
        exact ⟨(A, n, c, B, m, d, er), rfl, hu2, hB⟩
      obtain ⟨B1, n1, d1, B2, n2, d2, er⟩ := p
      simp only [Act.put, one_f, outB_f, outNew_f, outI_f, outSt_f, outSs_f, outNew_f, outNB_f, List.setIfInBounds_toArray, List.set_cons_zero, List.set_cons_succ]
      repeat ((first | (refine free_plainM ?_ (by rfl) (by rfl) (fun W hW _ => ⟨W, ?_, Rel.refl _ W⟩) ?_; rotate_left; (first | (go_simp; with_reducible rfl) | (go_simp; done))) | (refine free_skipM (by rfl) ?_)); try simp only [Act.put, one_f, outB_f, outNew_f, outI_f, outSt_f, outSs_f, outNew_f, outNB_f, List.setIfInBounds_toArray, List.set_cons_zero, List.set_cons_succ])
      refine free_hardM (outNew w2.heap.size 25 #[.slice none 0 0, .slice none 0 0]) (by rfl) (by rfl) (fun W hW _ => ?_) (fun (p5 : Nat) => ?_)
      · refine hardAt_newE ?_ (Below.size hW)
        go_simp
      simp only [Act.put, one_f, outB_f, outNew_f, outI_f, outSt_f, outSs_f, outNew_f, outNB_f, List.setIfInBounds_toArray, List.set_cons_zero, List.set_cons_succ]
      refine free_nilM (hK _ _ fun W hW hF => ?_)
      have hst : StepR S.bs S.ws w2.heap.size (.tuple #[diskV B1 n1 d1 B2 n2 d2, .int .i64 er]) W := (hF 3).1
      have hn5 : W.heap[p5]? = some (.cells #[.slice none 0 0, .slice none 0 0] 25 (0, 0)) ∧ w2.heap.size ≤ p5 := (hF 7).1
      replace hW : Ext w2 W := hW
      clear hF hK gP HA
      dsimp only [List.drop, List.length_cons, List.length_nil, Nat.reduceAdd, Nat.reduceSub]
      have rp := row_ext rp2 hW
      have ro := row_ext ro2 hW
      have ko := cells_row ro
      have fo := frozen_row ro
      have zW := Below.size hW
      have zo : w.heap.size + 1 < W.heap.size := (Array.getElem?_eq_some_iff.1 ro).1
      have xW : Ext w W := x2.trans hW
      obtain ⟨r5, l5⟩ := hn5
      have k5 := cells_row r5
      have f5 := frozen_row r5
      have z5 := (Array.getElem?_eq_some_iff.1 r5).1
      replace hst := Lib.hid hst
      go_upto_region 5 with fail
      generalize hw5 : (W.setCell ⟨p5, 0, none⟩ _).setCell ⟨p5, 1, none⟩ _ = w5
      have r55 : w5.heap[p5]? = some (.cells #[.slice B1 n1 d1, .slice B2 n2 d2] 25 (0, 0)) := by rw [← hw5]; exact row_set (row_set r5 0 _) 1 _
      have hk5 : ∀ k, k ≠ p5 → w5.heap[k]? = W.heap[k]? := fun k hk => by rw [← hw5]; exact other2 hk _ _
      have s5 : w5.heap.size = W.heap.size := by rw [← hw5]; simp
      have nn5 : ∀ q v, W.cell? q = some v → v ≠ .slice none 0 0 → w5.cell? q = some v := by rw [← hw5]; exact nn_box r5
      have x5 : Ext w2 w5 := by rw [← hw5]; exact below2 hW l5 _ _
      clear hw5 k5 f5 r5 ko fo
      have rp5 := row_ext rp2 x5
      have ro5 := row_ext ro2 x5
      have ko5 := cells_row ro5
      have fo5 := frozen_row ro5
      have k55 := cells_row r55
      have f55 := frozen_row r55
      have xw5 : Ext w w5 := x2.trans x5
      replace nn5 := Lib.hid nn5
      replace hk5 := Lib.hid hk5
      clear rp ro xW hW z5 zo zW
      refine QN_in ?_
      rcases hst.out with ⟨er', her, heq⟩ | ⟨v, bs1, ws1, heq, hz, hg1⟩
      · simp only [noDisk, diskV, Value.tuple.injEq, Array.mk.injEq, List.cons.injEq, Value.agg.injEq, Value.slice.injEq, Value.int.injEq, and_true, true_and] at heq
        have he : er = er' := heq.2
        clear heq
        subst he
        have heb : (er != 0) = true := by rw [bne_iff_ne]; exact her
        have hec : (er == 0) = false := by rw [beq_eq_false_iff_ne]; exact her
        replace her := Lib.hid her
        clear hst k55 f55 r55 rp5
        go_wp2_with fail
        exact commit_ret (b := w.heap.size + 1) rfl rfl rfl (row8 ro5 _ _ _ _ _ _ _ _) ⟨below8 xw5 (by omega) _ _ _ _ _ _ _ _, .inl ⟨er, her.out, rfl⟩⟩
      · have hz5 := hz.nn hg1.1 (Nat.le_refl _) (by omega) fun q v _ _ h hn => nn5.out q v h hn
        simp only [Value.tuple.injEq, Array.mk.injEq, List.cons.injEq, Value.int.injEq, and_true, true_and] at heq
        obtain ⟨rfl, rfl⟩ := heq
        obtain ⟨_, _, _, _, ev, hc5⟩ := hz5
        simp only [diskV, Array.mk.injEq, List.cons.injEq, Value.agg.injEq, Value.slice.injEq, and_true, true_and] at ev
        obtain ⟨⟨rfl, rfl, rfl⟩, rfl, rfl, rfl⟩ := ev
        obtain ⟨hb5, hd5⟩ := hc5 w5 fun _ _ _ _ h => h
        have HBar := Lib.hid (barrier_any B1 d1 B2 d2 bs1 ws1 hg1.1 w5 hb5 hd5)
        have hg2 := Lib.hid (hg1.trans (GoodD.settle hg1.1))
        have l5' := Lib.hid l5
        have s5' := Lib.hid s5
        clear hst hz hc5 hb5 hd5 hg1 nn5 hk5 l5 s5
        go_wp2_with fail
        refine HBar.out.mono ?_
        clear HBar
        rintro e w6 ⟨u, rfl, ⟨v, rfl, E1, e1, E2, e2, rfl, hz6⟩, hB⟩
        have x6 : Ext w2 w6 := Ext.trans x5 hB
        have r56 := row_ext r55 hB
        have s6 := Below.size hB
        have k56 := cells_row r56
        have f56 := frozen_row r56
        have z56 := (Array.getElem?_eq_some_iff.1 r56).1
        have kp6 := cells_row (row_ext rp5 hB)
        clear k55 f55 hB ko5 fo5 x5 xw5
        have hD6 : DskZ w5.heap.size (diskV E1 (settleL bs1 ws1).length e1 E2 0 e2) (settleL bs1 ws1) [] w6 := ⟨E1, e1, E2, e2, rfl, hz6⟩
        have np : w.heap.size < p5 := by have := l5'.out; omega
        replace hD6 := Lib.hid hD6
        clear hz6
        go_wp2_with fail
        generalize hw7 : (w6.setCell ⟨p5, 0, none⟩ _).setCell ⟨p5, 1, none⟩ _ = w7
        have r57 : w7.heap[p5]? = some (.cells #[.slice E1 (settleL bs1 ws1).length e1, .slice E2 0 e2] 25 (0, 0)) := by rw [← hw7]; exact row_set (row_set r56 0 _) 1 _
        have s7 : w7.heap.size = w6.heap.size := by rw [← hw7]; simp
        have x7 : Ext w2 w7 := by rw [← hw7]; exact below2 x6 l5'.out _ _
        have l55 := (Array.getElem?_eq_some_iff.1 r55).1
        have hD7 : DskZ w5.heap.size (diskV E1 (settleL bs1 ws1).length e1 E2 0 e2) (settleL bs1 ws1) [] w7 := hD6.out.keep (Nat.le_refl _) (by omega) fun k h1 h2 => by rw [← hw7]; exact other2 (by omega) _ _
        clear hw7 hD6 k56 f56 r56 kp6
        refine (HT.out w7 x7).mono ?_
        clear HT
        rintro e w8 ⟨u, rfl, ⟨T1, t1, T2, t2, T3, t3, T4, t4, T5, t5, rfl, hnp⟩, hB⟩
        have x8 : Ext w2 w8 := Ext.trans x7 hB
        have s8 := Below.size hB
        have rp8 := row_ext rp2 x8
        have ro8 := row_ext ro2 x8
        have r58 := row_ext r57 hB
        have hD8 := hD7.ext hB
        have xw8 : Ext w w8 := x2.trans x8
        have kp8 := cells_row rp8
        have fp8 := frozen_row rp8
        have zp8 := (Array.getElem?_eq_some_iff.1 rp8).1
        have zo8 := (Array.getElem?_eq_some_iff.1 ro8).1
        replace hnp := Lib.hid hnp
        replace hD8 := Lib.hid hD8
        clear hD7 hB x7 x6 x8
        go_upto_region 10 with fail
        generalize hw9 : (((((((w8.setCell ⟨w.heap.size, 0, none⟩ _).setCell ⟨w.heap.size, 1, none⟩ _).setCell ⟨w.heap.size, 2, none⟩ _).setCell ⟨w.heap.size, 3, none⟩ _).setCell ⟨w.heap.size, 4, none⟩ _).setCell ⟨w.heap.size, 5, none⟩ _).setCell ⟨w.heap.size, 6, none⟩ _).setCell ⟨w.heap.size, 7, none⟩ _ = w9
        have rp9 : w9.heap[w.heap.size]? = some (.cells #[.slice T1 S.bs.length t1, .slice T2 S.ws.length t2, .slice T3 S.now.length t3, .slice T4 S.last.length t4, .int .u32 (gen : Int), .int .i64 (r : Int), .int .u32 (next : Int), .slice T5 dead.length t5] 32 (0, 0)) := by rw [← hw9]; exact row8 rp8 _ _ _ _ _ _ _ _
        have hk9 : ∀ k, k ≠ w.heap.size → w9.heap[k]? = w8.heap[k]? := fun k hk => by rw [← hw9]; exact other8 hk _ _ _ _ _ _ _ _
        have s9 : w9.heap.size = w8.heap.size := by rw [← hw9]; simp
        have x9 : Ext w w9 := by rw [← hw9]; exact below8 xw8 (Nat.le_refl _) _ _ _ _ _ _ _ _
        clear hw9 kp8 fp8
        have r59 := (hk9 p5 (by omega)).trans r58
        have ro9 := (hk9 (w.heap.size + 1) (by omega)).trans ro8
        have hD9 : DskZ w5.heap.size (diskV E1 (settleL bs1 ws1).length e1 E2 0 e2) (settleL bs1 ws1) [] w9 := hD8.out.keep (Nat.le_refl _) (by omega) fun k h1 h2 => hk9 k (by omega)
        have hnow := (hnp.out w9 (posZ_blocks fun k h1 h2 => hk9 k (by omega))).1.now
        have HBC := Lib.hid (fun W (hx : Ext w9 W) => bclone_any (.slice T3 S.now.length t3) S.now hnl.out W (((hnow.more (Nat.le_of_eq s9.symm)).below hx).more hx.size))
        have gp : ∀ W, extRel.r w9 W → ∀ i, W.cell? ⟨w.heap.size, i, none⟩ = (#[.slice T1 S.bs.length t1, .slice T2 S.ws.length t2, .slice T3 S.now.length t3, .slice T4 S.last.length t4, .int .u32 (gen : Int), .int .i64 (r : Int), .int .u32 (next : Int), .slice T5 dead.length t5] : Array Value)[i]? := fun W h => cells_row (row_ext rp9 h)
        have g5 : ∀ W, extRel.r w9 W → ∀ i, W.cell? ⟨p5, i, none⟩ = #[.slice E1 (settleL bs1 ws1).length e1, .slice E2 0 e2][i]? := fun W h => cells_row (row_ext r59 h)
        replace hD9 := Lib.hid hD9
        replace hk9 := Lib.hid hk9
        clear hD8 hnow
        refine region_start (by kernel_rfl) ?_
        refine any_freeT (w := w9) extRel (outsAt [(4, outNB w9.heap.size S.now.length S.now)]) [true, true, true, true, true, true, true] 4 (by kernel_rfl) (by kernel_rfl) (by kernel_rfl) (by kernel_rfl) (by kernel_rfl) (by kernel_rfl) (by kernel_rfl) ?st2 (Rel.drew _ _) ?walk2
        case st2 => exact outsAt_stableG (by simp only [List.forall_mem_cons]; exact ⟨outNB_stableE _ _ _, fun _ h => by cases h⟩)
        case walk2 =>
          intro K hK
          dsimp only [maskOps]
          repeat ((first | (refine free_plainM ?_ (by rfl) (by rfl) (fun W hW _ => ⟨W, ?_, Rel.refl _ W⟩) ?_; rotate_left; (first | (go_simp; with_reducible rfl) | (go_simp; done))) | (refine free_skipM (by rfl) ?_)); try simp only [Act.put, one_f, outB_f, outNew_f, outI_f, outSt_f, outSs_f, outNew_f, outNB_f, List.setIfInBounds_toArray, List.set_cons_zero, List.set_cons_succ])
          refine free_hardM (outNB w9.heap.size S.now.length S.now) (by rfl) (by rfl) (fun W hW _ => ?_) (fun p => ?_)
          · have hW' : Ext w9 W := hW
            refine hardAt_callG ?_ ((HBC.out W hW').mono fun e w' h => ?_)
            · go_simp
            obtain ⟨u, rfl, hu, hB⟩ := h
            obtain ⟨A, c, rfl, _, _⟩ := own_slice hu
            exact ⟨(A, c), rfl, (NewB.of_own hu).mono hW'.size, hB⟩
          obtain ⟨L1, l1⟩ := p
          simp only [Act.put, one_f, outB_f, outNew_f, outI_f, outSt_f, outSs_f, outNew_f, outNB_f, List.setIfInBounds_toArray, List.set_cons_zero, List.set_cons_succ]
          repeat ((first | (refine free_plainM ?_ (by rfl) (by rfl) (fun W hW _ => ⟨W, ?_, Rel.refl _ W⟩) ?_; rotate_left; (first | (go_simp; with_reducible rfl) | (go_simp; done))) | (refine free_skipM (by rfl) ?_)); try simp only [Act.put, one_f, outB_f, outNew_f, outI_f, outSt_f, outSs_f, outNew_f, outNB_f, List.setIfInBounds_toArray, List.set_cons_zero, List.set_cons_succ])
          refine free_nilM (hK _ _ fun W hW hF => ?_)
          have hL : NewB w9.heap.size (.slice L1 S.now.length l1) S.now W := (hF 4).1
          replace hW : Ext w9 W := hW
          clear hF hK gp g5 HBC
          dsimp only [List.drop, List.length_cons, List.length_nil, Nat.reduceAdd, Nat.reduceSub]
          have rpW := row_ext rp9 hW
          have roW := row_ext ro9 hW
          have kpW := cells_row rpW
          have fpW := frozen_row rpW
          have zpW := (Array.getElem?_eq_some_iff.1 rpW).1
          have zoW := (Array.getElem?_eq_some_iff.1 roW).1
          have sW := Below.size hW
          have hDW := hD9.out.ext hW
          replace hDW := Lib.hid hDW
          replace hL := Lib.hid hL
          replace hW := Lib.hid hW
          go_upto_region 11 with fail
          generalize hw10 : ((W.setCell ⟨w.heap.size, 0, none⟩ _).setCell ⟨w.heap.size, 1, none⟩ _).setCell ⟨w.heap.size, 3, none⟩ _ = w10
          have rp10 := row_set (row_set (row_set rpW 0 (.slice E1 (settleL bs1 ws1).length e1)) 1 (.slice E2 0 e2)) 3 (.slice L1 S.now.length l1)
          rw [hw10] at rp10
          replace rp10 : w10.heap[w.heap.size]? = some (.cells #[.slice E1 (settleL bs1 ws1).length e1, .slice E2 0 e2, .slice T3 S.now.length t3, .slice L1 S.now.length l1, .int .u32 (gen : Int), .int .i64 (r : Int), .int .u32 (next : Int), .slice T5 dead.length t5] 32 (0, 0)) := rp10
          have hk10 : ∀ k, k ≠ w.heap.size → w10.heap[k]? = W.heap[k]? := fun k hk => by rw [← hw10]; exact (Below.heap_setCell _ _ _ _ hk).trans ((Below.heap_setCell _ _ _ _ hk).trans (Below.heap_setCell _ _ _ _ hk))
          have s10 : w10.heap.size = W.heap.size := by rw [← hw10]; simp
          have x10 : Ext w w10 := by rw [← hw10]; exact Below.setCell (Below.setCell (Below.setCell (x9.trans hW.out) (p := ⟨w.heap.size, 0, none⟩) (Nat.le_refl _) _) (p := ⟨w.heap.size, 1, none⟩) (Nat.le_refl _) _) (p := ⟨w.heap.size, 3, none⟩) (Nat.le_refl _) _
          clear hw10 kpW fpW
          have ro10 := (hk10 (w.heap.size + 1) (by omega)).trans roW
          have kp10 := cells_row rp10
          have fp10 := frozen_row rp10
          have ko10 := cells_row ro10
          have fo10 := frozen_row ro10
          have hgm : ((gen : Int) + 1) % 4294967296 = gen + 1 := by omega
          replace hk10 := Lib.hid hk10
          refine QN_in ?_
          go_wp2_with fail
          generalize hw11 : w10.setCell ⟨w.heap.size, 4, none⟩ _ = w11
          have hk11 : ∀ k, k ≠ w.heap.size → w11.heap[k]? = W.heap[k]? := fun k hk => by rw [← hw11]; exact (Below.heap_setCell _ _ _ _ hk).trans (hk10.out k hk)
          have s11 : w11.heap.size = W.heap.size := by rw [← hw11]; simp [s10]
          have x11 : Ext w w11 := by rw [← hw11]; exact Below.setCell x10 (p := ⟨w.heap.size, 4, none⟩) (Nat.le_refl _) _
          clear hw11
          have ro11 := (hk11 (w.heap.size + 1) (by omega)).trans roW
          refine commit_ret (b := w.heap.size + 1) rfl rfl rfl (row8 ro11 _ _ _ _ _ _ _ _) ⟨below8 x11 (by omega) _ _ _ _ _ _ _ _, .inr ⟨vs, refs, nodes, settleL bs1 ws1, hpool.out, hcnt.out, hen.out, hg2.out.1, hg2.out.2, E1, e1, E2, e2, T3, t3, L1, l1, T5, t5, rfl, ?_⟩⟩
          generalize hwf : (((((((w11.setCell ⟨w.heap.size + 1, 0, none⟩ _).setCell ⟨w.heap.size + 1, 1, none⟩ _).setCell ⟨w.heap.size + 1, 2, none⟩ _).setCell ⟨w.heap.size + 1, 3, none⟩ _).setCell ⟨w.heap.size + 1, 4, none⟩ _).setCell ⟨w.heap.size + 1, 5, none⟩ _).setCell ⟨w.heap.size + 1, 6, none⟩ _).setCell ⟨w.heap.size + 1, 7, none⟩ _ = wf
          have hkf : ∀ k, w.heap.size + 1 < k → wf.heap[k]? = W.heap[k]? := fun k hk => by rw [← hwf]; exact (other8 (by omega) _ _ _ _ _ _ _ _).trans (hk11 k (by omega))
          have sf : wf.heap.size = W.heap.size := by rw [← hwf]; simp [s11]
          clear hwf
          have s5'' := s5'.out
          have hd := (hDW.out.keep (Nat.le_refl _) (Nat.le_of_eq sf.symm) fun k h1 h2 => hkf k (by omega)).reads
          have hn := hnp.out wf (posZ_blocks fun k h1 h2 => (hkf k (by omega)).trans ((hW.out.block k (by omega)).trans (hk9.out k (by omega))))
          have hl := hL.out.1.posC hL.out.2.1 (C := wf) fun q v h1 h2 h3 => (World.cell?_of_block (hkf q.block (by omega))).trans h3
          exact ⟨⟨hd.1, hd.2, hn.1.now.more (by omega), hl.more (by omega)⟩, hn.2.more (by omega)⟩
end Go.Proofs.Ytlgbjpihmkeopaa
/- Contracts: what each block is. -/
namespace Go.Proofs.Ytlgbjpihmkeopaa
set_option linter.unusedSimpArgs false
set_option linter.unusedVariables false
open Go.RowKit

theorem uses_ret {R : Ending → World → Prop} {a : Act} {W : World} {u v : Value} (h2 : a.tmps[2]?.getD undef = u) (h3 : a.tmps[3]?.getD undef = v) (hd : a.defers = []) (hR : R (.returned (.tuple #[u, v])) W) : bodyPost Try.prog Try.f10 R .ret a W := by
  refine bodyPost_ret (v := .tuple #[u, v]) ?_ hd hR
  simp [results, Try.results10, go_sem, h2, h3]
structure U1 (S : Sto) (w3 : World) (ob : Nat) (i : Value) (wr : World) : Prop where
  ex : ∃ k : Nat, 8 ≤ k ∧ k ≤ 256 ∧ i = .int .i64 (k : Int) ∧ wr.heap[ob]? = some (.cells (arrB (useTo S k)).toArray 5 (0, 0)) ∧ Below ob w3 wr
structure U2 (S : Sto) (l : List Nat) (w3 : World) (ob : Nat) (i : Value) (wr : World) : Prop where
  ex : ∃ k : Nat, k ≤ l.length ∧ i = .int .i64 (k : Int) ∧ wr.heap[ob]? = some (.cells (arrB (useAt S (l.take k))).toArray 5 (0, 0)) ∧ Below ob w3 wr

set_option maxHeartbeats 2000000 in
set_option maxRecDepth 100000 in
theorem uses_any (A1 : Option Addr) (n1 c1 : Nat) (A2 : Option Addr) (n2 c2 : Nat) (A3 : Option Addr) (n3 c3 : Nat) (A4 : Option Addr) (n4 c4 : Nat) (gen root next : Int) (A5 : Option Addr) (c5 : Nat) (S : Sto) (dead : List Int) (w : World)
    (h : StoAt w w.heap.size (.slice A1 n1 c1) (.slice A2 n2 c2) (.slice A3 n3 c3) (.slice A4 n4 c4) S) (hd : Ints w w.heap.size (.slice A5 dead.length c5) dead) :
    Calls Try.prog 10 #[.agg (poolCs (.slice A1 n1 c1) (.slice A2 n2 c2) (.slice A3 n3 c3) (.slice A4 n4 c4) gen root next (.slice A5 dead.length c5))] w (UsesQ S root next dead w) := by
  have HT := Lib.hid (fun W (hx : Ext w W) => nodes_any A1 n1 c1 A2 n2 c2 A3 n3 c3 A4 n4 c4 gen root next A5 c5 S dead W (h.ext hx) (by
    obtain ⟨A, c, e, q1, q2, q3⟩ := hd
    exact ⟨A, c, e, q1, q2, (q3.below hx).more hx.size⟩))
  have HS := Lib.hid h
  clear h hd
  go_enter Try.func10, Try.ntmps10
  go_wp2_with fail
  generalize hw1 : World.alloc w _ = w1
  have x1 : Ext w w1 := by rw [← hw1]; exact Ext.alloc _ _
  have r1 : w1.heap[w.heap.size]? = some (.cells (poolCs (.slice A1 n1 c1) (.slice A2 n2 c2) (.slice A3 n3 c3) (.slice A4 n4 c4) gen root next (.slice A5 dead.length c5)) 32 (0, 0)) := by rw [← hw1]; exact World.alloc_heap_at _ _ _ rfl
  clear hw1
  refine (HT.out w1 x1).mono ?_
  clear HT
  rintro e w2 ⟨hB, hQ⟩
  have x2 : Below w.heap.size w w2 := Ext.trans x1 hB
  have r2 := row_ext r1 hB
  rcases hQ with ⟨rfl, hno⟩ | ⟨vs, refs, nodes, v, lo, rfl, hlo, hp, hc, he, own⟩
  · have HB : UsesQ S root next dead w (.returned (.tuple #[.slice none 0 0, .int .i64 8])) w2 := ⟨x2, .inl ⟨rfl, hno⟩⟩
    replace HB := Lib.hid HB
    clear hno hB
    go_wp2_with fail
    exact uses_ret rfl rfl rfl HB.out
  · obtain ⟨A, c, rfl, hc1, hc2⟩ := own_slice own
    have hrd := Rd.of_own own
    have hmk : ∀ w, (Instr.makeSlice 26 (.int .i64 256) (.int .i64 256)).run Try.prog w = .ok (.slice (some ⟨w.heap.size, 0, none⟩) 256 256) (w.alloc (.cells (arrB fun _ => 0).toArray 5)) := fun _ => by kernel_rfl
    have hl3 : S.now.length = 256 ∧ S.last.length = 256 := ⟨(storeMay_len hp.may).2.2.1, (storeMay_len hp.may).2.2.2⟩
    replace hp := Lib.hid hp
    replace hc := Lib.hid hc
    replace he := Lib.hid he
    replace own := Lib.hid own
    replace hB := Lib.hid hB
    clear hc1 hc2
    go_wp2_with fail
    generalize hw3 : World.alloc w2 _ = w3
    have x3 : Ext w2 w3 := by rw [← hw3]; exact Ext.alloc _ _
    have r3 : w3.heap[w2.heap.size]? = some (.cells (arrB (useTo S 8)).toArray 5 (0, 0)) := by rw [← hw3, useTo_zero]; exact World.alloc_heap_at _ _ _ rfl
    have p3 := row_ext r2 x3
    clear hw3 hmk
    have hx23 := x2.trans (Below.mono x3 x2.size)
    have hob1 : w.heap.size < w2.heap.size := (Array.getElem?_eq_some_iff.1 r2).1
    generalize hob : w2.heap.size = ob at *
    go_loopw [7] (fun i wr => U1 S w3 ob i wr) (fun i _ => 256 - (intOf i).toNat)
    case atStart => exact ⟨8, by omega, by omega, rfl, r3, Below.refl _ _⟩
    case round =>
      obtain ⟨k, hk8, hk, rfl, hr, hx⟩ := hrel.ex
      clear hrel
      have hxr : Below w.heap.size w wr := hx23.trans (Below.mono hx (by omega))
      have pr : wr.heap[w.heap.size]? = _ := (hx.block w.heap.size hob1).trans p3
      have kp := cells_row pr
      by_cases hlt : k < 256
      · have hS := HS.out.below hxr
        obtain ⟨A3', c3', e3, hm3, hm3', hr3⟩ := hS.now
        obtain ⟨A4', c4', e4, hm4, hm4', hr4⟩ := hS.last
        simp only [Value.slice.injEq] at e3 e4
        obtain ⟨rfl, rfl, rfl⟩ := e3
        obtain ⟨rfl, rfl, rfl⟩ := e4
        obtain ⟨b3, o3, rfl, hb3, hc3⟩ := hr3.2 (by omega)
        obtain ⟨b4, o4, rfl, hb4, hc4⟩ := hr4.2 (by omega)
        have d3 := hc3 k _ (by rw [List.getElem?_map, List.getElem?_eq_getElem (by omega)]; rfl)
        have d4 := hc4 k _ (by rw [List.getElem?_map, List.getElem?_eq_getElem (by omega)]; rfl)
        have hu : useD S k = if 0 < (S.now[k]'(by omega)).toNat then 4 else if 0 < (S.last[k]'(by omega)).toNat then 2 else 1 := by
          unfold useD
          rw [if_neg (by omega), List.getElem?_eq_getElem (by omega), List.getElem?_eq_getElem (by omega)]
          rfl
        have hst : ∀ n : Nat, useD S k = n → U1 S w3 ob (.int .i64 ((k : Int) + 1)) (wr.setCell ⟨ob, k, none⟩ (.int .u8 (n : Int))) := fun n hn =>
          ⟨k + 1, by omega, hlt, rfl, by rw [row_set hr k _, arrB_set _ hlt, useTo_succ S hlt, hn], Below.setCell hx (p := ⟨ob, k, none⟩) (Nat.le_refl _) _⟩
        replace hu := Lib.hid hu
        replace hst := Lib.hid hst
        have kr := cells_row hr
        have fr := frozen_row hr
        have hgk := arrB_get (useTo S k) hlt
        rw [← List.getElem?_toArray] at hgk
        generalize hq3 : (S.now[k]'(by omega)).toNat = q3 at *
        generalize hq4 : (S.last[k]'(by omega)).toNat = q4 at *
        have hwk := Lib.hid (IntWalk.wrap64_in ((k : Int) + 1) (by omega))
        clear hc3 hc4 hr3 hr4 kp
        have kp := cells_row pr
        rcases Nat.eq_zero_or_pos q3 with h3 | h3
        · have c31 : decide ((q3 : Int) > 0) = false := decide_eq_false (by omega)
          have c32 : decide (0 < q3) = false := decide_eq_false (by omega)
          rcases Nat.eq_zero_or_pos q4 with h4 | h4
          · have c41 : decide ((q4 : Int) > 0) = false := decide_eq_false (by omega)
            have c42 : decide (0 < q4) = false := decide_eq_false (by omega)
            have IR := Lib.hid (hst.out 1 (by rw [hu.out, if_neg (by omega), if_neg (by omega)]))
            replace h3 := Lib.hid h3
            replace h4 := Lib.hid h4
            go_wp2_with fail
            refine ⟨IR.out, ?_⟩
            simp [intOf]
            omega
          · have c41 : decide ((q4 : Int) > 0) = true := decide_eq_true (by omega)
            have c42 : decide (0 < q4) = true := decide_eq_true (by omega)
            have IR := Lib.hid (hst.out 2 (by rw [hu.out, if_neg (by omega), if_pos (by omega)]))
            replace h3 := Lib.hid h3
            replace h4 := Lib.hid h4
            go_wp2_with fail
            refine ⟨IR.out, ?_⟩
            simp [intOf]
            omega
        · have c31 : decide ((q3 : Int) > 0) = true := decide_eq_true (by omega)
          have c32 : decide (0 < q3) = true := decide_eq_true (by omega)
          have IR := Lib.hid (hst.out 4 (by rw [hu.out, if_pos (by omega)]))
          replace h3 := Lib.hid h3
          go_wp2_with fail
          refine ⟨IR.out, ?_⟩
          simp [intOf]
          omega
      · obtain rfl : k = 256 := by omega
        rw [useAt_nil] at hr
        have ht0 : useAt S ((metTo nodes 256).take 0) = useAt S [] := by rw [List.take_zero]
        rw [← ht0] at hr
        have I2 : U2 S (metTo nodes 256) w3 ob (.int .i64 0) wr := ⟨0, Nat.zero_le _, rfl, hr, hx⟩
        replace I2 := Lib.hid I2
        have hall := Lib.hid (useAt_all S nodes)
        have hml := metTo_len nodes 256
        have HL := Lib.hid (fun (k : Nat) (hk : k < (metTo nodes 256).length) => metTo_lt nodes hk)
        have HG := Lib.hid (fun (k : Nat) (hk : k < (metTo nodes 256).length) => intsV_get (metTo nodes 256) hk)
        have HSU := Lib.hid (fun (k : Nat) (hk : k < (metTo nodes 256).length) => useAt_succ S (metTo nodes 256) hk)
        have HTK := Lib.hid (List.take_length (l := metTo nodes 256))
        clear hr hx pr kp hxr ht0
        generalize metTo nodes 256 = nl at *
        go_wp2_with fail
        go_loopw [50] (fun i wq => U2 S nl w3 ob i wq) (fun i _ => nl.length - (intOf i).toNat)
        case atStart => exact I2.out
        case round =>
          obtain ⟨j, hj, rfl, hr, hx⟩ := hrel.ex
          clear hrel I2
          have hxr : Below w.heap.size w wr := hx23.trans (Below.mono hx (by omega))
          have kr := cells_row hr
          have fr := frozen_row hr
          by_cases hlt2 : j < nl.length
          · have hlt2' := hlt2
            obtain ⟨bn, on, rfl, hbn, hcn⟩ := hrd.2 (by omega)
            have dn := (hx.cell (p := ⟨bn, on + j, none⟩) hbn).trans ((Below.cell x3 (p := ⟨bn, on + j, none⟩) (by rw [hob]; exact hbn)).trans (hcn j _ (HG.out j hlt2)))
            have hl := HL.out j hlt2
            have hsu := Lib.hid (HSU.out j hlt2)
            have hgk := arrB_get (useAt S (nl.take j)) hl
            rw [← List.getElem?_toArray] at hgk
            have hwk := Lib.hid (IntWalk.wrap64_in ((j : Int) + 1) (by omega))
            generalize nl[j] = a at *
            have IR : U2 S nl w3 ob (.int .i64 ((j : Int) + 1)) (wr.setCell ⟨ob, a, none⟩ (.int .u8 (3 : Int))) := ⟨j + 1, hlt2', rfl, by
              rw [hsu.out]
              exact (row_set hr a _).trans (by rw [show (3 : Int) = ((3 : Nat) : Int) from rfl, arrB_set _ hl]), Below.setCell hx (p := ⟨ob, a, none⟩) (Nat.le_refl _) _⟩
            replace IR := Lib.hid IR
            clear hcn
            go_wp2_with fail
            refine ⟨IR.out, ?_⟩
            simp [intOf]
            omega
          · obtain rfl : j = nl.length := by omega
            rw [HTK.out, hall.out] at hr
            have HB : UsesQ S root next dead w (.returned (.tuple #[.slice (some ⟨ob, 0, none⟩) 256 256, .int .i64 0])) wr := ⟨hxr, .inr ⟨vs, refs, nodes, ob, rfl, by omega, hp.out, hc.out, he.out, hr⟩⟩
            replace HB := Lib.hid HB
            go_wp2_with fail
            exact uses_ret rfl rfl rfl HB.out
end Go.Proofs.Ytlgbjpihmkeopaa
/- Contracts: an item's bytes. -/
namespace Go.Proofs.Ytlgbjpihmkeopaa
set_option linter.unusedSimpArgs false
set_option linter.unusedVariables false
open Go.RowKit

set_option maxHeartbeats 4000000 in
set_option maxRecDepth 100000 in
theorem iwrite_any (x : It) (hx : ItOk x) (hb : itB x.r x.val.length = true) (A : Option Addr) (c : Nat) (w : World) (h : Bys w w.heap.size (.slice A x.val.length c) x.val) :
    Calls Try.prog 157 #[itemV x.k x.i x.o x.r A x.val.length c] w (RetS (IsB0 w.heap.size (12 + x.val.length) (itBytes x)) w) := by
  have HC := Lib.hid (fun W => icheck_any x.k x.i x.o x.r A x.val.length c W)
  rw [hb, show errOf true = 0 from rfl] at HC
  obtain ⟨kk, ki, ko, kr, l⟩ := x
  obtain ⟨⟨hk1, hk2⟩, ⟨hi1, hi2⟩, ⟨ho1, ho2⟩, ⟨hr1, hr2⟩, hl⟩ := hx
  dsimp only at *
  clear hb
  obtain ⟨k, rfl⟩ := Int.eq_ofNat_of_zero_le hk1
  obtain ⟨i, rfl⟩ := Int.eq_ofNat_of_zero_le hi1
  obtain ⟨o, rfl⟩ := Int.eq_ofNat_of_zero_le ho1
  obtain ⟨r, rfl⟩ := Int.eq_ofNat_of_zero_le hr1
  have HB : Hid (itBytes ⟨k, i, o, r, l⟩ = [[UInt8.ofNat k], bytesOf i 4, bytesOf o 4, bytesOf r 2, [UInt8.ofNat l.length], l].flatten) := by
    refine Lib.hid ?_
    simp [itBytes]
  have hkb : bv (UInt8.ofNat k) = .int .u8 (k : Int) := by simp [bv]; omega
  have hlb : bv (UInt8.ofNat l.length) = .int .u8 ((l.length : Nat) : Int) := by simp [bv]; omega
  have HL : Hid ([[UInt8.ofNat k], bytesOf i 4, bytesOf o 4, bytesOf r 2, [UInt8.ofNat l.length], l].flatten.length = 12 + l.length) := by
    refine Lib.hid ?_
    simp [bytesOf_len]
    omega
  have hcv : IntKind.u8.wrap ((l.length : Nat) : Int) = ((l.length : Nat) : Int) := by simp [IntKind.wrap, IntKind.bits, IntKind.signed]; omega
  replace hkb := Lib.hid hkb
  replace hlb := Lib.hid hlb
  replace h := Lib.hid h
  rw [HB.out]
  clear HB
  generalize hFL : [[UInt8.ofNat k], bytesOf i 4, bytesOf o 4, bytesOf r 2, [UInt8.ofNat l.length], l] = FL at *
  go_enter Try.func157, Try.ntmps157
  go_wp2_with fail
  generalize hw1 : World.alloc w _ = w1
  have x1 : Ext w w1 := by rw [← hw1]; exact Ext.alloc _ _
  have r1 : w1.heap[w.heap.size]? = some (.cells #[.int .u8 k, .int .u32 i, .int .u32 o, .int .i64 r, .slice A l.length c] 151 (0, 0)) := by rw [← hw1]; exact World.alloc_heap_at _ _ _ rfl
  clear hw1
  refine (HC.out w1).mono ?_
  rintro e w2 ⟨rfl, hB⟩
  have x2 : Ext w w2 := Ext.trans x1 hB
  have r2 := row_ext r1 hB
  have k2 := cells_row r2
  clear hB r1 x1 HC
  go_wp2_with fail
  refine (two_any r (by omega) _).mono ?_
  rintro e w3 ⟨u, rfl, ⟨u2, rfl, A2, c2, rfl, hb2, hf2⟩, hB⟩
  have x3 : Ext w w3 := Ext.trans x2 hB
  have r3 := row_ext r2 hB
  have z3 := x2.size
  clear hB k2 r2 x2
  go_wp2_with fail
  have hE : ∀ W, Ext w3 W → ∀ j, W.cell? ⟨w.heap.size, j, none⟩ = #[.int .u8 k, .int .u32 i, .int .u32 o, .int .i64 r, .slice A l.length c][j]? := fun W h => cells_row (row_ext r3 h)
  refine wp_region_free (outsAt [(3, outLit w3.heap.size 1 5 #[.int .u8 k]), (7, outB w3.heap.size 4 (bytesOf i 4)), (11, outB w3.heap.size 4 (bytesOf o 4)), (17, outLit w3.heap.size 1 5 #[.int .u8 (l.length : Nat)]), (20, outLitS w3.heap.size 6 26 (Reads FL)), (21, outB w3.heap.size (12 + l.length) FL.flatten)]) 22 (by kernel_rfl) (by kernel_rfl) (by kernel_rfl) (by decide) (by kernel_rfl) (by kernel_rfl) ?st ?walk
  case st => exact outsAt_stable (by simp only [List.forall_mem_cons]; exact ⟨outLit_stable _ _ _ _, outB_stable _ _ _, outB_stable _ _ _, outLit_stable _ _ _ _, outLitS_stable (Reads.stable _), outB_stable _ _ _, fun _ h => by cases h⟩)
  case walk =>
    intro K hK
    dsimp only [List.take]
    repeat ((first | (refine free_plain ?_ (by rfl) (by rfl) (fun W hW _ => ⟨W, ?_, Ext.refl W⟩) ?_; rotate_left; (first | (go_simp; with_reducible rfl) | (go_simp; done))) | (refine free_skip (by rfl) ?_)); try simp only [Act.put, one_f, outB_f, outNew_f, outI_f, outLit_f, outLitS_f, outB_f, List.setIfInBounds_toArray, List.set_cons_zero, List.set_cons_succ])
    refine free_hard (outLit w3.heap.size 1 5 #[.int .u8 k]) (by rfl) (by rfl) (fun W hW _ => ?_) (fun (p3 : Nat) => ?_)
    · refine hardAt_lit ?_ hW.size
      go_simp
    simp only [Act.put, one_f, outB_f, outNew_f, outI_f, outLit_f, outLitS_f, outB_f, List.setIfInBounds_toArray, List.set_cons_zero, List.set_cons_succ]
    repeat ((first | (refine free_plain ?_ (by rfl) (by rfl) (fun W hW _ => ⟨W, ?_, Ext.refl W⟩) ?_; rotate_left; (first | (go_simp; with_reducible rfl) | (go_simp; done))) | (refine free_skip (by rfl) ?_)); try simp only [Act.put, one_f, outB_f, outNew_f, outI_f, outLit_f, outLitS_f, outB_f, List.setIfInBounds_toArray, List.set_cons_zero, List.set_cons_succ])
    refine free_hard (outB w3.heap.size 4 (bytesOf i 4)) (by rfl) (by rfl) (fun W hW _ => ?_) (fun p7 => ?_)
    · refine hardAt_call ?_ ((four_any i (by omega) W).mono fun e w' h => ?_)
      · go_simp
      obtain ⟨u, rfl, ⟨A, c, rfl, h1, h2⟩, h3⟩ := h
      exact ⟨(A, c), rfl, ⟨h1, h2.mono hW.size⟩, h3⟩
    obtain ⟨A7, c7⟩ := p7
    simp only [Act.put, one_f, outB_f, outNew_f, outI_f, outLit_f, outLitS_f, outB_f, List.setIfInBounds_toArray, List.set_cons_zero, List.set_cons_succ]
    repeat ((first | (refine free_plain ?_ (by rfl) (by rfl) (fun W hW _ => ⟨W, ?_, Ext.refl W⟩) ?_; rotate_left; (first | (go_simp; with_reducible rfl) | (go_simp; done))) | (refine free_skip (by rfl) ?_)); try simp only [Act.put, one_f, outB_f, outNew_f, outI_f, outLit_f, outLitS_f, outB_f, List.setIfInBounds_toArray, List.set_cons_zero, List.set_cons_succ])
    refine free_hard (outB w3.heap.size 4 (bytesOf o 4)) (by rfl) (by rfl) (fun W hW _ => ?_) (fun p11 => ?_)
    · refine hardAt_call ?_ ((four_any o (by omega) W).mono fun e w' h => ?_)
      · go_simp
      obtain ⟨u, rfl, ⟨A, c, rfl, h1, h2⟩, h3⟩ := h
      exact ⟨(A, c), rfl, ⟨h1, h2.mono hW.size⟩, h3⟩
    obtain ⟨A11, c11⟩ := p11
    simp only [Act.put, one_f, outB_f, outNew_f, outI_f, outLit_f, outLitS_f, outB_f, List.setIfInBounds_toArray, List.set_cons_zero, List.set_cons_succ]
    repeat ((first | (refine free_plain ?_ (by rfl) (by rfl) (fun W hW _ => ⟨W, ?_, Ext.refl W⟩) ?_; rotate_left; (first | (go_simp; with_reducible rfl) | (go_simp; done))) | (refine free_skip (by rfl) ?_)); try simp only [Act.put, one_f, outB_f, outNew_f, outI_f, outLit_f, outLitS_f, outB_f, List.setIfInBounds_toArray, List.set_cons_zero, List.set_cons_succ])
    refine free_hard (outLit w3.heap.size 1 5 #[.int .u8 (l.length : Nat)]) (by rfl) (by rfl) (fun W hW _ => ?_) (fun (p17 : Nat) => ?_)
    · refine hardAt_lit ?_ hW.size
      go_simp
    simp only [Act.put, one_f, outB_f, outNew_f, outI_f, outLit_f, outLitS_f, outB_f, List.setIfInBounds_toArray, List.set_cons_zero, List.set_cons_succ]
    repeat ((first | (refine free_plain ?_ (by rfl) (by rfl) (fun W hW _ => ⟨W, ?_, Ext.refl W⟩) ?_; rotate_left; (first | (go_simp; with_reducible rfl) | (go_simp; done))) | (refine free_skip (by rfl) ?_)); try simp only [Act.put, one_f, outB_f, outNew_f, outI_f, outLit_f, outLitS_f, outB_f, List.setIfInBounds_toArray, List.set_cons_zero, List.set_cons_succ])
    refine free_hard (outLitS w3.heap.size 6 26 (Reads FL)) (by rfl) (by rfl) (fun W hW hp => ?_) (fun (p20 : Nat) => ?_)
    · obtain ⟨f3, _⟩ : W.heap[p3]? = some (.cells #[.int .u8 k] 5 (0, 0)) ∧ w3.heap.size ≤ p3 := (hp 3 (by decide)).1
      obtain ⟨f7, _⟩ : Bys W W.heap.size (.slice A7 4 c7) (bytesOf i 4) ∧ _ := (hp 7 (by decide)).1
      obtain ⟨f11, _⟩ : Bys W W.heap.size (.slice A11 4 c11) (bytesOf o 4) ∧ _ := (hp 11 (by decide)).1
      obtain ⟨f17, _⟩ : W.heap[p17]? = some (.cells #[.int .u8 (l.length : Nat)] 5 (0, 0)) ∧ w3.heap.size ≤ p17 := (hp 17 (by decide)).1
      have hR : Reads FL [.slice (some ⟨p3, 0, none⟩) 1 1, .slice A7 4 c7, .slice A11 4 c11, .slice A2 2 c2, .slice (some ⟨p17, 0, none⟩) 1 1, .slice A l.length c] W := by
        subst hFL
        rw [← hkb.out] at f3
        rw [← hlb.out] at f17
        refine ⟨rfl, fun j v m hv hl => ?_⟩
        rcases j with _ | _ | _ | _ | _ | _ | j
        · cases hv; cases hl; exact Bys.lit (l := [UInt8.ofNat k]) f3 (by simp [maxLen])
        · cases hv; cases hl; exact f7
        · cases hv; cases hl; exact f11
        · cases hv; cases hl; exact (hb2.below hW).more hW.size
        · cases hv; cases hl; exact Bys.lit (l := [UInt8.ofNat l.length]) f17 (by simp [maxLen])
        · cases hv; cases hl; exact (h.out.below (Ext.trans x3 hW)).more (Ext.trans x3 hW).size
        · simp at hv
      refine hardAt_litS (cs := #[.slice (some ⟨p3, 0, none⟩) 1 1, .slice A7 4 c7, .slice A11 4 c11, .slice A2 2 c2, .slice (some ⟨p17, 0, none⟩) 1 1, .slice A l.length c]) ?_ hW.size rfl ?_
      · go_simp
      · exact Reads.stable _ _ _ _ (Ext.alloc _ _) hR
    simp only [Act.put, one_f, outB_f, outNew_f, outI_f, outLit_f, outLitS_f, outB_f, List.setIfInBounds_toArray, List.set_cons_zero, List.set_cons_succ]
    refine free_hard (outB w3.heap.size (12 + l.length) FL.flatten) (by rfl) (by rfl) (fun W hW hp => ?_) (fun p21 => ?_)
    · obtain ⟨_, cs, hcs, hrow, hR⟩ := (hp 20 (by decide)).1
      have hFn : FL.length = 6 := by rw [← hFL]; rfl
      refine hardAt_call ?_ ((concat8_any (some ⟨p20, 0, none⟩) 6 6 cs.toList FL (by simpa using hcs) hFn W (Rd.row hrow 6 hcs) (fun i v l h1 h2 => hR.2 i v l h1 h2) (by omega) (by rw [HL.out]; omega)).mono fun e w' h => ?_)
      · go_simp
      rw [HL.out] at h
      exact outB_of_own h hW.size
    obtain ⟨A21, c21⟩ := p21
    simp only [Act.put, one_f, outB_f, outNew_f, outI_f, outLit_f, outLitS_f, outB_f, List.setIfInBounds_toArray, List.set_cons_zero, List.set_cons_succ]
    repeat ((first | (refine free_plain ?_ (by rfl) (by rfl) (fun W hW _ => ⟨W, ?_, Ext.refl W⟩) ?_; rotate_left; (first | (go_simp; with_reducible rfl) | (go_simp; done))) | (refine free_skip (by rfl) ?_)); try simp only [Act.put, one_f, outB_f, outNew_f, outI_f, outLit_f, outLitS_f, outB_f, List.setIfInBounds_toArray, List.set_cons_zero, List.set_cons_succ])
    refine free_nil (hK _ _ fun W hW hF => ?_)
    obtain ⟨f21, g21⟩ : Bys W W.heap.size (.slice A21 (12 + l.length) c21) FL.flatten ∧ From w3.heap.size (.slice A21 (12 + l.length) c21) := (hF 21).1
    clear hF hK hE
    have x4 : Ext w W := x3.trans hW
    dsimp only [List.drop]
    go_wp2
    refine bodyPost_ret (v := .tuple #[.slice A21 (12 + l.length) c21, .int .i64 0]) (by simp [results, Try.results157, go_sem]) rfl ⟨_, rfl, ⟨_, rfl, A21, c21, rfl, f21, g21.mono (by have := x3.size; omega)⟩, x4⟩
end Go.Proofs.Ytlgbjpihmkeopaa
/- Contracts: a node's block. -/
namespace Go.Proofs.Ytlgbjpihmkeopaa
set_option linter.unusedSimpArgs false
set_option linter.unusedVariables false
open Go.RowKit

def toldTo (lvl : Int) (n : Nat) (xs : List It) (k : Nat) : List UInt8 := 78 :: UInt8.ofNat lvl.toNat :: UInt8.ofNat n :: itsBytes (xs.take k)
theorem toldTo_succ (lvl : Int) (n : Nat) {xs : List It} {k : Nat} (hk : k < xs.length) : toldTo lvl n xs (k + 1) = toldTo lvl n xs k ++ itBytes xs[k] := by
  unfold toldTo itsBytes
  rw [List.take_succ_eq_append_getElem hk, List.flatMap_append]
  simp only [List.flatMap_cons, List.flatMap_nil, List.append_nil, List.cons_append]
theorem toldTo_all (lvl : Int) (xs : List It) : toldTo lvl xs.length xs xs.length = toldOf lvl xs := by unfold toldTo toldOf; rw [List.take_length]
theorem toldTo_len (lvl : Int) (n : Nat) {xs : List It} (k : Nat) (h : ∀ x ∈ xs, ItOk x) (hl : xs.length ≤ 5) : (toldTo lvl n xs k).length ≤ 123 := by
  have h1 := itsBytes_len (xs.take k) (fun x hx => h x (List.mem_of_mem_take hx))
  have h2 : (xs.take k).length ≤ xs.length := by rw [List.length_take]; omega
  unfold toldTo
  simp only [List.length_cons]
  omega
theorem nodeMay_items {lvl : Int} {xs : List It} (h : nodeMay lvl xs = true) : 0 ≤ lvl ∧ lvl < 6 ∧ xs.length ≤ 5 ∧ ∀ x ∈ xs, itB x.r x.val.length = true := by
  unfold nodeMay at h
  rw [Bool.and_eq_true] at h
  have h1 : 0 ≤ lvl ∧ lvl < 6 ∧ xs.length ≤ 5 ∧ (0 < lvl → xs.length ≠ 0) := of_decide_eq_true h.1
  refine ⟨h1.1, h1.2.1, h1.2.2.1, fun x hx => ?_⟩
  obtain ⟨i, hi, rfl⟩ := List.getElem_of_mem hx
  have h2 := List.all_eq_true.1 h.2 i (List.mem_range.2 hi)
  unfold chkAt at h2
  rw [List.getElem?_eq_getElem hi] at h2
  simp only [Bool.and_eq_true] at h2
  exact h2.1.1
theorem nwrite_ret {R : Ending → World → Prop} {a : Act} {W : World} {u v : Value} (h2 : a.tmps[2]?.getD undef = u) (h3 : a.tmps[3]?.getD undef = v) (hd : a.defers = []) (hR : R (.returned (.tuple #[u, v])) W) : bodyPost Try.prog Try.f140 R .ret a W := by
  refine bodyPost_ret (v := .tuple #[u, v]) ?_ hd hR
  simp [results, Try.results140, go_sem, h2, h3]
structure NWr (lvl : Int) (xs : List It) (w2 : World) (v i : Value) (wr : World) : Prop where
  ex : ∃ k : Nat, k ≤ xs.length ∧ i = .int .i64 (k : Int) ∧ wr.ownsRow w2.heap.size 5 1 v (toldTo lvl xs.length xs k).length ((toldTo lvl xs.length xs k).map bv) ∧ Ext w2 wr
set_option maxHeartbeats 4000000 in
set_option maxRecDepth 100000 in
theorem nwrite_any (lvl : Int) (A : Option Addr) (n c : Nat) (xs : List It) (w : World) (hx : Its w w.heap.size (.slice A n c) xs) (hm : nodeMay lvl xs = true) (ho : ∀ x ∈ xs, ItOk x) :
    Calls Try.prog 140 #[nodeV lvl A n c] w (RetS (IsB0 w.heap.size 128 (sealB (toldOf lvl xs))) w) := by
  have HC := Lib.hid (fun W (hW : Ext w W) => ncheck_all lvl A n c xs W (hx.ext hW))
  rw [hm, show errOf true = 0 from rfl] at HC
  obtain ⟨hl1, hl2, hl5, hib⟩ := nodeMay_items hm
  obtain ⟨hn, hcn, hcm, hA⟩ := hx.at_
  subst hn
  obtain ⟨L, rfl⟩ := Int.eq_ofNat_of_zero_le hl1
  have hcv : IntKind.u8.wrap ((xs.length : Nat) : Int) = ((xs.length : Nat) : Int) := by simp [IntKind.wrap, IntKind.bits, IntKind.signed]; omega
  have hcl : IntKind.u8.wrap (L : Int) = (L : Int) := by simp [IntKind.wrap, IntKind.bits, IntKind.signed]; omega
  have hcells : (toldTo (L : Int) xs.length xs 0).map bv = [.int .u8 78, .int .u8 (L : Int), .int .u8 (xs.length : Nat)] := by
    simp [toldTo, itsBytes, bv]
    omega
  have hX := Lib.hid hx
  have hO := Lib.hid ho
  have hI := Lib.hid hib
  clear hx ho hib hm
  go_enter Try.func140, Try.ntmps140
  go_wp2_with fail
  generalize hw1 : World.alloc w _ = w1
  have x1 : Ext w w1 := by rw [← hw1]; exact Ext.alloc _ _
  have r1 : w1.heap[w.heap.size]? = some (.cells #[.int .i64 L, .slice A xs.length c] 104 (0, 0)) := by rw [← hw1]; exact World.alloc_heap_at _ _ _ rfl
  clear hw1
  refine (HC.out w1 x1).mono ?_
  rintro e w2 ⟨rfl, hB⟩
  have x2 : Below w.heap.size w w2 := Ext.trans x1 hB
  have r2 := row_ext r1 hB
  have k2 := cells_row r2
  clear hB r1 x1 HC
  go_upto_region 5 with fail
  generalize hw3 : World.alloc w2 _ = w3
  have x3 : Ext w2 w3 := by rw [← hw3]; exact Ext.alloc _ _
  have o3 : w3.ownsRow w2.heap.size 5 1 (.slice (some ⟨w2.heap.size, 0, none⟩) 3 3) (toldTo (L : Int) xs.length xs 0).length ((toldTo (L : Int) xs.length xs 0).map bv) := by
    rw [hcells, ← hw3]
    exact World.ownsRow_lit (base := w2.heap.size) (e := 5) (size := 1) w2 #[.int .u8 78, .int .u8 (L : Int), .int .u8 (xs.length : Nat)] 3 (Nat.le_refl _) (by unfold maxLen; omega) rfl
  have r3 := row_ext r2 x3
  have k3 := cells_row r3
  clear hw3 k2 hcells
  have I0 : NWr (L : Int) xs w2 (.slice (some ⟨w2.heap.size, 0, none⟩) 3 3) (.int .i64 0) w3 := ⟨0, Nat.zero_le _, rfl, o3, x3⟩
  replace I0 := Lib.hid I0
  clear o3
  go_wp2_with fail
  clear k3 r3
  go_loopw [5, 26] (fun v i wr => NWr (L : Int) xs w2 v i wr) (fun _ i _ => xs.length - (intOf i).toNat)
  case atStart => exact I0.out
  case round =>
    obtain ⟨k, hk, rfl, own, xr⟩ := hrel.ex
    clear hrel I0
    by_cases hlt : k < xs.length
    · have hlt' := hlt
      obtain ⟨b, off, rfl, hb⟩ := hA (by omega)
      have xw : Ext w wr := Ext.trans x2 xr
      obtain ⟨A', c', d0, d1, d2, d3, d4, hby⟩ := (hX.out.ext xw).item k hlt'
      have hok := hO.out xs[k] (List.getElem_mem hlt')
      have hib := hI.out xs[k] (List.getElem_mem hlt')
      have hsu := Lib.hid (toldTo_succ (L : Int) xs.length hlt')
      have htl := toldTo_len (L : Int) xs.length k hO.out hl5
      have hvl : xs[k].val.length ≤ 12 := hok.2.2.2.2
      have HW := Lib.hid (fun W (hW : Ext wr W) => iwrite_any xs[k] hok hib A' c' W ((hby.below hW).more hW.size))
      generalize xs[k] = x at *
      replace own := Lib.hid own
      replace htl := Lib.hid htl
      clear hby hok hib
      go_wp2_with fail
      generalize hw4 : World.alloc wr _ = w4
      have x4 : Ext wr w4 := by rw [← hw4]; exact Ext.alloc _ _
      clear hw4 d0 d1 d2 d3 d4
      refine (HW.out w4 x4).mono ?_
      rintro e w5 ⟨u, rfl, ⟨u5, rfl, A5, c5, rfl, hb5, hf5⟩, hB⟩
      have x5 : Ext wr w5 := x4.trans hB
      have own5 := own_ext own.out x5
      clear hB x4 own
      obtain ⟨i0, hi, hz0, hz1, hz2⟩ := info_parts Try.info_u8
      obtain ⟨A6, c6, e6, hc6, hm6, hr6⟩ := hb5
      simp only [Value.slice.injEq] at e6
      obtain ⟨rfl, e7, rfl⟩ := e6
      go_wp2_with (at_builtin; refine wpList_stop ?_)
      refine Stopped.go (wpList_append_rd _ rfl (.tmp 35) (.tmp 36) 26 rfl w2.heap.size 5 i0 (.int .u8 0) 1 1 Try.underlying26 hi hz0 hz1 hz2 rfl (by decide) _ _ _ rfl own5 w5.heap.size A5 _ c5 ((itBytes x).map bv) rfl hr6 (bvs_one _) (by have := htl.out; omega) (by decide) (Nat.le_trans xr.size x5.size) ?_)
      intro v8 w8 own8 _ hB8 _
      have IR : NWr (L : Int) xs w2 v8 (.int .i64 ((k : Int) + 1)) w8 := ⟨k + 1, hlt', rfl, by
        rw [hsu.out, List.map_append, List.length_append]
        exact own8, Below.trans (Ext.trans xr x5) hB8⟩
      replace IR := Lib.hid IR
      clear own8 hB8 hi hz0 hz1 hz2 own5
      go_wp2_with fail
      refine ⟨IR.out, ?_⟩
      simp [intOf]
      omega
    · obtain rfl : k = xs.length := by omega
      rw [toldTo_all] at own
      have hl3 : (toldOf (L : Int) xs).length ≤ 124 := by
        have := toldTo_len (L : Int) xs.length xs.length hO.out hl5
        rw [toldTo_all] at this
        omega
      obtain ⟨A6, c6, e6, hc6, hm6, hr6⟩ := Bys.of_own own
      have hby := Bys.of_own own
      subst e6
      have HS := Lib.hid (seal_any A6 c6 (toldOf (L : Int) xs) hl3 wr hby)
      have xw : Below w.heap.size w wr := Ext.trans x2 xr
      clear hby hr6 own
      replace xr := Lib.hid xr
      go_wp2_with fail
      refine HS.out.mono ?_
      rintro e w7 ⟨u, rfl, ⟨u7, rfl, hI7⟩, hB⟩
      have x7 : Below w.heap.size w w7 := xw.trans (Below.mono hB xw.size)
      have hI8 : IsB0 w.heap.size 128 (sealB (toldOf (L : Int) xs)) (.tuple #[u7, .int .i64 0]) w7 := by
        obtain ⟨A', c', q1, q2, q3⟩ := hI7
        exact ⟨u7, rfl, A', c', q1, q2, q3.mono xw.size⟩
      clear hB hI7
      replace hI8 := Lib.hid hI8
      go_wp2_with fail
      exact nwrite_ret rfl rfl rfl ⟨_, rfl, hI8.out, x7⟩
end Go.Proofs.Ytlgbjpihmkeopaa
