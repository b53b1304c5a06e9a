/- Texts Take, Refs, Nodes, UsesW, FreeI, AskR, joined. -/
import Derived.ChangeKeysEq
import Derived.OrdersIn
import Derived.TacticsIn
import Derived.CallsIn
import Derived.Test.YtlgbjpihmkeopaaP06
import Derived.Test.YtlgbjpihmkeopaaP11
import Derived.Test.YtlgbjpihmkeopaaP13
/- Contracts: a pool's census. -/
namespace Go.Proofs.Ytlgbjpihmkeopaa
set_option linter.unusedSimpArgs false
set_option linter.unusedVariables false
open Go.RowKit

def outOn (lo B : Nat) (A1 : Option Addr) (n1 c1 : Nat) (A2 : Option Addr) (n2 : Nat) (n3 : Nat) (A4 : Option Addr) (n4 c4 : Nat) (S : Sto) : Outs := ⟨Nat, fun b => .pointer (some ⟨b, 0, none⟩), fun b W => ∃ A3' c3', OnB lo b (.slice A1 n1 c1) (.slice A2 n2 n2) (.slice A3' n3 c3') (.slice A4 n4 c4) S W ∧ From lo (.slice A3' n3 c3')⟩
theorem outOn_f (lo B : Nat) (A1 : Option Addr) (n1 c1 : Nat) (A2 : Option Addr) (n2 : Nat) (n3 : Nat) (A4 : Option Addr) (n4 c4 : Nat) (S : Sto) (b : Nat) : (outOn lo B A1 n1 c1 A2 n2 n3 A4 n4 c4 S).f b = .pointer (some ⟨b, 0, none⟩) := rfl
theorem outOn_stable (lo B : Nat) (A1 : Option Addr) (n1 c1 : Nat) (A2 : Option Addr) (n2 : Nat) (n3 : Nat) (A4 : Option Addr) (n4 c4 : Nat) (S : Sto) : ∀ p, Stable ((outOn lo B A1 n1 c1 A2 n2 n3 A4 n4 c4 S).φ p) := fun p W W' he ⟨A, c, ⟨h1, h2, h3⟩, h4⟩ => ⟨A, c, ⟨h1, row_ext h2 he, h3.ext he⟩, h4⟩
def outMap (lo : Nat) : Outs := ⟨Nat, fun b => .map (some b), fun b W => lo ≤ b ∧ b < W.heap.size ∧ MapAt W b fun _ => none⟩
theorem outMap_f (lo b : Nat) : (outMap lo).f b = .map (some b) := rfl
theorem outMap_stable (lo : Nat) : ∀ p, Stable ((outMap lo).φ p) := fun p W W' he ⟨h1, h2, h3⟩ => ⟨h1, Nat.lt_of_lt_of_le h2 he.size, h3.of_heap (he.block p h2)⟩

theorem run_mm (t : TypeId) (W : World) : (Instr.makeMap t none).run Try.prog W = .ok (.map (some W.heap.size)) (W.alloc (.map #[] 0)) := rfl
theorem run_bx (cs : Array Value) (t : TypeId) (W : World) : (Instr.box t (.agg cs)).run Try.prog W = .ok (.pointer (some ⟨W.heap.size, 0, none⟩)) (W.alloc (.cells cs t)) := rfl
theorem run_index_arr {cs : Array Value} {k : Nat} {v : Value} (hk : k < 256) (hv : cs[k]? = some v) (W : World) : (Instr.index 94 (.agg cs) (.int .i64 (k : Int))).run Try.prog W = .ok v W := by
  obtain ⟨i0, hi, hz0, hz1, hz2⟩ := info_parts Try.info_int
  have hp := run_part_plain (P := Try.prog) (w := W) (e := 3) (by kernel_rfl) hv
  have h0 : (0 : Int) ≤ (k : Int) ∧ (k : Int) < 256 := by omega
  simp [Instr.index, asIntOf, run_underlying Try.underlying94, h0, sizeOf, typeInfo, hi, hz1, hp, Sem.run_bind]
  intro hge
  omega
theorem take_ret {R : Ending → World → Prop} {a : Act} {W : World} {u v : Value} (h2 : a.tmps[2]?.getD undef = u) (h3 : a.tmps[3]?.getD undef = v) (hd : a.defers = []) (hR : R (.returned (.tuple #[u, v])) W) : bodyPost Try.prog Try.f48 R .ret a W := by
  refine bodyPost_ret (v := .tuple #[u, v]) ?_ hd hR
  simp [results, Try.results48, go_sem, h2, h3]
set_option maxHeartbeats 4000000 in
set_option maxRecDepth 100000 in
theorem take_any (A1 : Option Addr) (n1 c1 : Nat) (A2 : Option Addr) (n2 c2 : Nat) (A3 : Option Addr) (n3 c3 : Nat) (A4 : Option Addr) (n4 c4 : Nat) (gen root next : Int) (A5 : Option Addr) (c5 : Nat) (S : Sto) (dead : List Int) (w : World)
    (h : StoAt w w.heap.size (.slice A1 n1 c1) (.slice A2 n2 c2) (.slice A3 n3 c3) (.slice A4 n4 c4) S) (hd : Ints w w.heap.size (.slice A5 dead.length c5) dead) :
    Calls Try.prog 48 #[.agg (poolCs (.slice A1 n1 c1) (.slice A2 n2 c2) (.slice A3 n3 c3) (.slice A4 n4 c4) gen root next (.slice A5 dead.length c5))] w (TakeQ S root next dead w) := by
  have HCK := Lib.hid (fun W (hx : Ext w W) => rcheck_any A1 n1 c1 A2 n2 c2 A3 n3 c3 A4 n4 c4 S W (h.ext hx))
  have HNL : storeMay S = true → S.now.length < 1073741824 := fun hm => by have := (storeMay_len hm).2.2.1; omega
  have HON := Lib.hid (fun (hm : storeMay S = true) W (hx : Ext w W) => on_any A1 n1 c1 A2 n2 c2 A3 n3 c3 A4 n4 c4 S (HNL hm) W (h.ext hx))
  replace h := Lib.hid h
  replace hd := Lib.hid hd
  clear HNL
  go_enter Try.func48, Try.ntmps48
  go_wp2_with fail
  generalize hw1 : World.alloc w _ = w1
  have x1 : Ext w w1 := by rw [← hw1]; exact Ext.alloc _ _
  have p1 : w1.heap[w.heap.size]? = some (.cells (poolCs (.slice A1 n1 c1) (.slice A2 n2 c2) (.slice A3 n3 c3) (.slice A4 n4 c4) gen root next (.slice A5 dead.length c5)) 32 (0, 0)) := by rw [← hw1]; exact World.alloc_heap_at _ _ _ rfl
  clear hw1
  refine (HCK.out w1 x1).mono ?_
  rintro e w2 ⟨rfl, hB⟩
  have x2 := x1.trans hB
  have p2 := row_ext p1 hB
  have k2 := cells_row p2
  clear hB p1 x1 HCK
  rcases hmay : storeMay S with _ | _
  · unfold errOf
    have HB := Lib.hid (TakeQ.bad (S := S) (next := next) (root := root) (dead := dead) x2 (fun vs hp => by have := hp.may; rw [hmay] at this; cases this))
    replace hmay := Lib.hid hmay
    go_wp2_with fail
    exact take_ret rfl rfl rfl HB.out
  · unfold errOf
    rcases Nat.lt_or_ge 40 dead.length with h40 | h40
    · have hq : decide ((dead.length : Int) > 40) = true := decide_eq_true (by omega)
      have HB := Lib.hid (TakeQ.bad (S := S) (next := next) (root := root) (dead := dead) x2 (fun vs hp => by have := hp.few; omega))
      replace hmay := Lib.hid hmay
      go_wp2_with fail
      exact take_ret rfl rfl rfl HB.out
    · have hq : decide ((dead.length : Int) > 40) = false := decide_eq_false (by omega)
      have hmay' := Lib.hid hmay
      clear hmay
      go_wp2_with fail
      have gP : ∀ W, extRel.r w2 W → ∀ i, W.cell? ⟨w.heap.size, i, none⟩ = (poolCs (.slice A1 n1 c1) (.slice A2 n2 c2) (.slice A3 n3 c3) (.slice A4 n4 c4) gen root next (.slice A5 dead.length c5))[i]? := fun W h => cells_row (row_ext p2 h)
      have hz2 : w.heap.size < w2.heap.size := (Array.getElem?_eq_some_iff.1 p2).1
      refine region_start (by kernel_rfl) ?_
      refine any_freeT (w := w2) extRel (outsAt [(4, outOn w2.heap.size w2.heap.size A1 n1 c1 A2 n2 n3 A4 n4 c4 S), (5, outMap w2.heap.size)])
        [true, true, true, true, true, true, true] 2 (by kernel_rfl) (by kernel_rfl) (by kernel_rfl) (by kernel_rfl) (by kernel_rfl) (by kernel_rfl) (by kernel_rfl) ?st (Rel.drew _ _) ?walk
      case st => exact outsAt_stableG (by simp only [List.forall_mem_cons]; exact ⟨fun p => stableG_ext (outOn_stable _ _ _ _ _ _ _ _ _ _ _ _ p), fun p => stableG_ext (outMap_stable _ p), fun _ h => by cases h⟩)
      case walk =>
        intro K hK
        dsimp only [maskOps]
        repeat ((first | (refine free_plainM ?_ (by rfl) (by rfl) (fun W hW _ => ⟨W, ?_, Rel.refl _ W⟩) ?_; rotate_left; (first | (go_simp; with_reducible rfl) | (go_simp; done))) | (refine free_skipM (by rfl) ?_)); try simp only [Act.put, one_f, outB_f, outNew_f, outI_f, outNew_f, outOn_f, outMap_f, List.setIfInBounds_toArray, List.set_cons_zero, List.set_cons_succ])
        refine free_hardM (outOn w2.heap.size w2.heap.size A1 n1 c1 A2 n2 n3 A4 n4 c4 S) (by rfl) (by rfl) (fun W hW _ => ?_) (fun (bb : Nat) => ?_)
        · have hWx : Ext w2 W := hW
          refine hardAt_callG ?_ ((HON.out hmay'.out W (x2.trans hWx)).mono fun e w' h => ?_)
          · go_simp
          · obtain ⟨u, rfl, ⟨b, A3', c3', rfl, h1, h2⟩, h3⟩ := h
            exact ⟨b, rfl, ⟨A3', c3', ⟨Nat.le_trans hWx.size h1.1, h1.2⟩, h2.mono hWx.size⟩, h3⟩
        simp only [Act.put, one_f, outB_f, outNew_f, outI_f, outNew_f, outOn_f, outMap_f, List.setIfInBounds_toArray, List.set_cons_zero, List.set_cons_succ]
        refine free_hardM (outMap w2.heap.size) (by rfl) (by rfl) (fun W hW _ => ?_) (fun (mb : Nat) => ?_)
        · have hWx : Ext w2 W := hW
          have hmm := run_mm 93 W
          refine hardAt_valueG (u := .map (some W.heap.size)) (w' := W.alloc (.map #[] 0)) ?_ ⟨W.heap.size, rfl, ⟨hWx.size, by simp, MapAt.empty W⟩, Ext.alloc _ _⟩
          go_simp
        simp only [Act.put, one_f, outB_f, outNew_f, outI_f, outNew_f, outOn_f, outMap_f, List.setIfInBounds_toArray, List.set_cons_zero, List.set_cons_succ]
        refine free_plainM (.agg (ca0 (.slice A1 n1 c1) (.slice A2 n2 c2) (.slice A3 n3 c3) (.slice A4 n4 c4) bb mb)) (by rfl) (by rfl) (fun W hW _ => ⟨W, ?_, Rel.refl _ W⟩) ?_
        · go_simp
          exact ca_eq _ _ _ _ _ _
        simp only [Act.put, one_f, outB_f, outNew_f, outI_f, outNew_f, outOn_f, outMap_f, List.setIfInBounds_toArray, List.set_cons_zero, List.set_cons_succ]
        refine free_nilM (hK _ _ fun W hW hF => ?_)
        have hWx : Ext w2 W := hW
        have HO := (hF 4).1
        have HM := (hF 5).1
        clear hF hK gP
        change ∃ A3' c3', _ at HO
        change w2.heap.size ≤ mb ∧ mb < W.heap.size ∧ MapAt W mb _ at HM
        obtain ⟨A3', c3', hon, hfr⟩ := HO
        obtain ⟨hm1, hm2, hmap⟩ := HM
        obtain ⟨hb1, hrow, hst⟩ := hon
        have xW := x2.trans hWx
        have pW := row_ext p2 hWx
        dsimp only [List.drop, List.length_cons, List.length_nil]
        have hca := ca0_ar (.slice A1 n1 c1) (.slice A2 n2 c2) (.slice A3 n3 c3) (.slice A4 n4 c4) bb mb
        have hca0 : ∀ i, i < 6 → (ca0 (.slice A1 n1 c1) (.slice A2 n2 c2) (.slice A3 n3 c3) (.slice A4 n4 c4) bb mb)[i]? = (#[.slice A1 n1 c1, .slice A2 n2 c2, .slice A3 n3 c3, .slice A4 n4 c4, .pointer (some ⟨bb, 0, none⟩), .map (some mb)] : Array Value)[i]? := fun i hi => ca0_low _ _ _ _ _ _ hi
        generalize (ca0 (.slice A1 n1 c1) (.slice A2 n2 c2) (.slice A3 n3 c3) (.slice A4 n4 c4) bb mb) = ca at *
        have hbx := run_bx ca
        replace hca := Lib.hid hca
        replace hca0 := Lib.hid hca0
        clear hW hWx x2 p2
        go_wp2_with fail
        refine QN_in ?_
        have hcc : W.heap.size = W.heap.size := rfl
        obtain ⟨cb, hcb⟩ : ∃ cb, cb = W.heap.size := ⟨_, rfl⟩
        generalize hw3 : World.alloc W _ = w3
        have x3 : Ext W w3 := by rw [← hw3]; exact Ext.alloc _ _
        have r3 : w3.heap[cb]? = some (.cells ca 97 (0, 0)) := by rw [← hw3]; exact World.alloc_heap_at _ _ _ hcb
        have z3 : w3.heap.size = cb + 1 := by rw [← hw3, hcb]; simp
        clear hw3 hcc
        have hbb : bb < W.heap.size := (Array.getElem?_eq_some_iff.1 hrow).1
        have xw3 := xW.trans x3
        have hsw : w.heap.size ≤ w2.heap.size := by omega
        have C3 : Cen ⟨S, w.heap.size, w3.heap.size, cb, bb, mb, ca, .slice A1 n1 c1, .slice A2 n2 c2, .slice A3 n3 c3, .slice A4 n4 c4, .slice A1 n1 c1, .slice A2 n2 n2, .slice A3' n3 c3', .slice A4 n4 c4⟩ w3 (fun _ => none) := {
          row := r3
          c0 := hca0.out 0 (by omega)
          c1 := hca0.out 1 (by omega)
          c2 := hca0.out 2 (by omega)
          c3 := hca0.out 3 (by omega)
          c4 := hca0.out 4 (by omega)
          c5 := hca0.out 5 (by omega)
          map := hmap.of_heap (x3.block _ hm2)
          known := fun a v hv => by cases hv
          sto := h.out.below xw3
          on := row_ext hrow x3
          onb := (h.out.below xw3).bs
          onw := (h.out.below xw3).ws.clip
          onl := (h.out.below xw3).last
          onn := (hst.now.below x3).more x3.size
          onf := fun A n c e => by
            have hn := (Bys.at_ hst.now).2.2.2
            have hl := (storeMay_len hmay'.out).2.2.1
            have hn3 := (Bys.at_ hst.now).1
            obtain ⟨b, off, hA, hb⟩ := hn (by omega)
            have e' : Value.slice A3' n3 c3' = .slice (some A) n c := e
            rw [hA] at e'
            simp only [Value.slice.injEq, Option.some.injEq] at e'
            rw [← e'.1]
            show b ≠ cb
            omega
          low := by
            show cb < w3.heap.size ∧ bb < w3.heap.size ∧ mb < w3.heap.size ∧ cb ≠ mb ∧ bb ≠ mb ∧ w3.heap.size ≤ w3.heap.size ∧ w.heap.size ≤ cb ∧ w.heap.size ≤ bb ∧ w.heap.size ≤ mb ∧ cb ≠ bb
            have hne : bb ≠ mb := by
              rintro rfl
              obtain ⟨es, clock, h1, _⟩ := hmap
              rw [hrow] at h1
              cases h1
            omega
          may := hmay'.out }
        rw [← hcb]
        have pw3 := row_ext pW x3
        have hcw : w.heap.size ≤ cb := by omega
        have hw3 : w.heap.size < cb := by have := (Array.getElem?_eq_some_iff.1 pW).1; omega
        generalize hpp : (⟨S, w.heap.size, w3.heap.size, cb, bb, mb, ca, .slice A1 n1 c1, .slice A2 n2 c2, .slice A3 n3 c3, .slice A4 n4 c4, .slice A1 n1 c1, .slice A2 n2 n2, .slice A3' n3 c3', .slice A4 n4 c4⟩ : CP) = p at C3
        have pS : p.S = S := by rw [← hpp]
        have pcb : p.cb = cb := by rw [← hpp]
        have pmb : p.mb = mb := by rw [← hpp]
        have plo : p.lo = w3.heap.size := by rw [← hpp]
        have pca : p.ca = ca := by rw [← hpp]
        have hmb : w.heap.size < mb := by have := (Array.getElem?_eq_some_iff.1 pW).1; omega
        clear hpp hbx hmap hst hrow hfr pW x3 r3 z3 hb1 hm1 hm2 hbb hcb
        have kp := cells_row pw3
        go_wp2_with fail
        have HLR := learn_root p root w3 _ C3
        rw [pcb] at HLR
        refine HLR.mono ?_
        rintro e w4 ⟨v, g, rfl, ⟨lvl, A, n, c, fk, lk, rfl, hknown⟩, hgr, hm, hg, hn⟩
        have C4 := C3.after hgr hm hg hn
        rw [pS] at hknown ⊢
        have hz3 : cb < w3.heap.size := by rw [← pcb]; exact (Array.getElem?_eq_some_iff.1 C3.row).1
        have x4 : Below w.heap.size w w4 := xw3.grown hg (by omega) (fun q hq => by cases hq; rw [pmb]; omega)
        have pw4 := (hg.block w.heap.size (by omega) (by simp; omega)).trans pw3
        have z4 := hg.size
        have hcb4 : cb < w4.heap.size := by rw [← pcb]; exact (Array.getElem?_eq_some_iff.1 C4.row).1
        rcases hok : okL S (-1) root with _ | _
        · have HB := Lib.hid (fun W (hx : Ext w4 W) => TakeQ.bad (S := S) (next := next) (root := root) (dead := dead) (x4.trans (Below.mono hx (by omega))) (fun vs hp => by have := hp.top; rw [hok] at this; cases this))
          replace C4 := Lib.hid C4
          replace C3 := Lib.hid C3
          replace hok := Lib.hid hok
          clear hknown hgr hm hg hn HLR kp pw3 pw4
          go_wp2_with fail
          exact take_ret rfl rfl rfl (HB.out _ (Ext.alloc _ _))
        · obtain ⟨a, ha, htree⟩ := okL_root hok
          have hga := hknown hok
          rw [hok] at hga
          obtain ⟨n9, lv, xs, A', c', fk', lk', b', e9, -, -, hnode, hv, hits, hsp, hcl⟩ := C4.known _ _ hga
          rw [pS] at hnode hsp
          simp only [Value.agg.injEq, Array.mk.injEq, List.cons.injEq, Value.int.injEq, Value.bool.injEq, Value.slice.injEq, true_and, and_true] at hv
          obtain ⟨rfl, ⟨rfl, rfl, rfl⟩, -, -, -, -, -, -, rfl⟩ := hv
          have hmay9 := (nodeAt_may hnode).1
          have hxs := fun y hy => ((nodeAt_may hnode).2.1 y hy).1
          have hlen : xs.length ≤ 5 := by unfold nodeMay headB at hmay9; simp at hmay9; omega
          have hvo : volsOf S root next = volsGo next [] (itemsS S lv xs) := by
            unfold volsOf
            rw [e9, Int.toNat_natCast, hnode]
            show volsGo next [] (itemsS S (lv : Int).toNat xs) = _
            rw [Int.toNat_natCast]
          have hsp9 : (spanS S lv xs).isSome = true := hsp.1.symm
          have hcl9 : 0 < lv → ∀ y ∈ xs, (g y.r).isSome = true := hcl rfl
          replace C4 := Lib.hid C4
          replace C3 := Lib.hid C3
          replace hok := Lib.hid hok
          replace hits := Lib.hid hits
          replace hsp9 := Lib.hid hsp9
          replace hcl9 := Lib.hid hcl9
          replace hxs := Lib.hid hxs
          replace hvo := Lib.hid hvo
          replace hnode := Lib.hid hnode
          replace htree := Lib.hid htree
          replace hga := Lib.hid hga
          replace ha := Lib.hid ha
          replace e9 := Lib.hid e9
          have kp4 := cells_row pw4
          have hzw4 : w.heap.size < w4.heap.size := by omega
          clear hknown hgr hm hg hn HLR kp pw3 hsp hcl hmay9
          go_wp2_with fail
          generalize hw5 : World.alloc w4 _ = w5
          have x45 : Ext w4 w5 := by rw [← hw5]; exact Ext.alloc _ _
          clear hw5
          have x5 := x4.trans (Below.mono x45 (by omega))
          have pw5 := row_ext pw4 x45
          have C5 := C4.out.ext x45
          have hits5 := hits.out.keep x45.size (fun q _ hq => Below.cell x45 hq)
          have I5 : VolI p w5 w5 [] (.slice none 0 0) ca (fun _ => 0) (fun _ => 0) := by
            refine ⟨⟨Off.refl (Nat.le_refl _), ?_, hca.out, fun i _ => by rw [pca], (Array.getElem?_eq_some_iff.1 C5.row).1⟩, World.ownsRow_nil _ _ _ _⟩
            have := C5.row
            rwa [pca] at this
          have HV := vols_all p w5 g (fun _ => 0) (fun _ => 0) (.slice A1 n1 c1) (.slice A2 n2 c2) (.slice A3 n3 c3) (.slice A4 n4 c4) gen root next (.slice A5 dead.length c5) C5 lv xs A c [] (.slice none 0 0) ca w5 I5 (by simp) hxs.out hlen hits5 (by rw [pS]; exact hsp9.out) hcl9.out
          rw [pcb, pS] at HV
          refine HV.mono ?_
          rintro e w6 ⟨F6, hm6⟩
          clear HV I5
          have x6 : Below w.heap.size w w6 := ⟨F6.os.trans x5.os, F6.tape.trans x5.tape, F6.output.trans x5.output, Nat.le_trans x5.size F6.size, fun k hk => (F6.block k (Nat.lt_of_lt_of_le hk x5.size) (by omega) (by simp [Value.ownBlock])).trans (x5.block k hk)⟩
          have hz5 : w.heap.size < w5.heap.size := by have := x45.size; omega
          have hzw6 : w.heap.size < w6.heap.size := by have := F6.size; omega
          have hcb5 : cb < w5.heap.size := by have := x45.size; omega
          have hmb5 : mb < w5.heap.size := by have h1 := C3.out.low.2.2.1; rw [pmb, plo] at h1; have := x45.size; omega
          have hcb6 : cb < w6.heap.size := by have := x45.size; have := F6.size; omega
          have hmb6 : mb < w6.heap.size := by have h1 := C3.out.low.2.2.1; rw [pmb, plo] at h1; have := x45.size; have := F6.size; omega
          rcases hgo : volsGo next [] (itemsS S lv xs) with _ | vs
          · rw [hgo] at hm6
            obtain rfl : e = .returned (.int .i64 8) := hm6
            have HB := Lib.hid (TakeQ.bad (S := S) (next := next) (root := root) (dead := dead) x6 (fun vs hp => by have := hp.vols; rw [hvo.out, hgo] at this; cases this))
            clear kp4 pw4 pw5 F6 x45
            replace C5 := Lib.hid C5
            go_wp2_with fail
            exact take_ret rfl rfl rfl HB.out
          · rw [hgo] at hm6
            obtain ⟨rfl, vv, ca6, V6, N6⟩ := hm6
            clear N6
            have pw6 := (F6.block w.heap.size hz5 (by omega) (by simp [Value.ownBlock])).trans pw5
            have kp6 := cells_row pw6
            clear kp4 pw4 pw5 F6 x45
            replace C5 := Lib.hid C5
            replace V6 := Lib.hid V6
            replace hgo := Lib.hid hgo
            replace hits5 := Lib.hid hits5
            obtain ⟨i0, hi, hz0, hz1, hz2⟩ := info_parts Try.info_int
            go_wp2_with (at_builtin; refine wpList_stop ?_)
            have hda : Rd (w6.alloc (.cells #[.int .i64 root] 3)) w.heap.size 1 A5 dead.length (dead.map fun (a : Int) => Value.int .i64 a) := by
              obtain ⟨A', c', e, _, _, hr⟩ := hd.out
              cases e
              exact (hr.below x6).alloc (by omega) _
            have o7 : (w6.alloc (.cells #[.int .i64 root] 3)).ownsRow w6.heap.size 3 1 (.slice (some ⟨w6.heap.size, 0, none⟩) 1 1) 1 [.int .i64 root] := World.ownsRow_lit (base := w6.heap.size) (e := 3) (size := 1) w6 #[.int .i64 root] 1 (Nat.le_refl _) (by unfold maxLen; omega) rfl
            refine Stopped.go (wpList_append_rd _ rfl (.tmp 48) (.tmp 50) 30 rfl w6.heap.size 3 i0 (.int .i64 0) 1 8 Try.underlying30 hi hz0 hz1 hz2 rfl (by decide) _ 1 [.int .i64 root] rfl o7 w.heap.size A5 dead.length c5 (dead.map fun (a : Int) => Value.int .i64 a) rfl hda (by simp [Value.oneCell']) (by omega) (by decide) (by simp) ?_)
            intro v7 w7 o8 g7 hB7 hv7
            have x67 : Ext w6 w7 := Below.trans (Ext.alloc w6 _) hB7
            have I1 : R1 w6 root dead vs v7 (.int .i64 0) w7 := ⟨0, Nat.zero_le _, rfl, by
              have e : rowI (rootsTo root dead vs 0) = [.int .i64 root] ++ dead.map fun (a : Int) => Value.int .i64 a := by unfold rootsTo rowI; simp
              rw [e]
              exact o8, x67⟩
            have V7 := V6.out.ext x67
            have pw7 := row_ext pw6 x67
            obtain ⟨AV, cV, rfl, hcv1, hcv2⟩ := own_slice V7.own
            have kc7 : w7.cell? ⟨cb, 518, none⟩ = some (.slice AV vs.length cV) := by rw [← pcb, cells_row V7.t.row]; exact V7.t.ar.vol
            have hvs16 : vs.length ≤ 16 := volsGo_len next _ _ _ (by simp) hgo.out
            replace I1 := Lib.hid I1
            replace V7 := Lib.hid V7
            replace x67 := Lib.hid x67
            clear o7 o8 g7 hv7 hB7 hda hi hz0 hz1 hz2 hcv1 hcv2 kp6
            go_wp2_with fail
            clear kc7
            go_loopw [5, 57] (fun v i wr => R1 w6 root dead vs v i wr) (fun _ i _ => vs.length - (intOf i).toNat)
            case atStart => exact I1.out
            case round =>
              obtain ⟨k, hk, rfl, own, xr⟩ := hrel.ex
              clear I1
              by_cases hlt : k < vs.length
              · have hlt' := hlt
                obtain ⟨bv, offv, eA, hbv, hcel⟩ := (Rd.of_own (V6.out.ext xr).own).2 (by omega)
                subst eA
                obtain ⟨d0, d1, d2, d3⟩ := cellsV_at vs k hlt'
                replace d0 := hcel _ _ d0
                replace d1 := hcel _ _ d1
                replace d2 := hcel _ _ d2
                replace d3 := hcel _ _ d3
                have HSU := Lib.hid (rootsTo_succ root dead vs hlt')
                generalize vs[k] = u at *
                clear hcel
                rw [← Nat.add_assoc] at d1 d2 d3
                obtain ⟨AR, cR, rfl, hcr1, hcr2⟩ := own_slice own
                obtain ⟨i0, hi, hz0, hz1, hz2⟩ := info_parts Try.info_int
                replace own := Lib.hid own
                replace xr := Lib.hid xr
                clear hcr1 hcr2
                go_upto_region 11 with fail
                generalize hw9 : World.alloc wr _ = w9
                have x9 : Ext wr w9 := by rw [← hw9]; exact Ext.alloc _ _
                have u9 : w9.heap[wr.heap.size]? = some (.cells (vol4 u) 113 (0, 0)) := by rw [← hw9]; exact World.alloc_heap_at _ _ _ rfl
                have ku9 := cells_row u9
                clear hw9 d0 d1 d2 d3 u9
                go_wp2_with (at_builtin; refine wpList_stop ?_)
                refine Stopped.go (wpList_push _ rfl (.tmp 61) (.tmp 64) 30 rfl w6.heap.size 3 i0 (.int .i64 0) 1 8 Try.underlying30 hi hz0 hz1 hz2 rfl (by decide) _ _ _ rfl (own_ext own.out x9) #[.int .i64 u.root] rfl rfl (by simp [Value.oneCell']) (by omega) (by decide) (Nat.le_trans xr.out.size x9.size) ?_)
                intro v8 w8 own8 _ hB8 _
                have IR : R1 w6 root dead vs v8 (.int .i64 ((k : Int) + 1)) w8 := ⟨k + 1, hlt', rfl, by
                  rw [HSU.out, rowI_snoc]
                  exact own8, Below.trans (Below.trans xr.out (Below.mono x9 xr.out.size)) hB8⟩
                replace IR := Lib.hid IR
                clear own8 hB8 hi hz0 hz1 hz2
                go_wp2_with fail
                refine ⟨IR.out, ?_⟩
                simp [intOf]
                omega
              · have hke : k = vs.length := by omega
                subst hke
                have VW := V6.out.ext xr
                have CW := VW.t.cen C5.out
                have hRl : (rootsOf root dead vs).length = 1 + dead.length + vs.length := by rw [← rootsTo_all]; exact rootsTo_len root dead vs (Nat.le_refl _)
                rw [rootsTo_all, ← hRl] at own
                obtain ⟨AR, cR, rfl, hcr1, hcr2⟩ := own_slice own
                obtain ⟨N, hN⟩ : ∃ N, N = (rootsOf root dead vs).length := ⟨_, rfl⟩
                rw [← hN] at own hRl ⊢
                have I2 : R2 p wr (.slice AV vs.length cV) (rootsOf root dead vs) (.int .i64 0) wr := ⟨0, g, ca6, fun _ => 0, fun _ => 0, Nat.zero_le _, rfl, CW, VW.t.ar, Counted.zero _, (fun a ha => by cases ha), (fun r hr => by cases hr), Kept.refl _ _ _⟩
                have xw := x6.trans (Below.mono xr (by omega))
                have pwr := row_ext pw6 xr
                clear hcr1 hcr2
                replace I2 := Lib.hid I2
                replace CW := Lib.hid CW
                replace VW := Lib.hid VW
                replace own := Lib.hid own
                replace hRl := Lib.hid hRl
                replace hN := Lib.hid hN
                replace xw := Lib.hid xw
                replace pwr := Lib.hid pwr
                clear hrel
                generalize wr = w8 at *
                go_wp2_with fail
                go_loopw [2, 3, 69] (fun u v i wq => u = .pointer (some ⟨cb, 0, none⟩) ∧ v = .int .i64 0 ∧ R2 p w8 (.slice AV vs.length cV) (rootsOf root dead vs) i wq) (fun _ _ i _ => N - (intOf i).toNat)
                case atStart => exact ⟨rfl, rfl, I2.out⟩
                case round =>
                  obtain ⟨rfl, rfl, hrel⟩ := hrel
                  obtain ⟨k, g2, ca2, refs2, nodes2, hk2, rfl, C2, N2, M2, Q2, hall, K2⟩ := hrel.ex
                  clear I2
                  have hRL := hRl.out
                  have hN2 := hN.out
                  by_cases hlt2 : k < (rootsOf root dead vs).length
                  · have hlt3 : k < N := by omega
                    have hwk : wrap64 ((k : Int) + 1) = (k : Int) + 1 := IntWalk.wrap64_in _ (by omega)
                    replace hwk := Lib.hid hwk
                    obtain ⟨br, offr, eR, hbr, hcel⟩ := (Rd.of_own own.out).2 (by omega)
                    have hbr2 := (own_lt own.out)
                    subst eR
                    have hbr3 := hbr2 br rfl
                    have dk := hcel k _ (rowI_get _ k hlt2)
                    replace dk := (World.cell?_of_block (a := ⟨br, offr + k, none⟩) (K2.block br hbr (by rw [pcb]; omega) (by rw [pmb]; omega))).trans dk
                    have HTK := Lib.hid (List.take_succ_eq_append_getElem hlt2)
                    have HMM := Lib.hid (List.getElem_mem hlt2)
                    generalize (rootsOf root dead vs)[k] = r at *
                    have HT := tree_any (p.put ca2) (((rootsOf root dead vs).take k).map Int.toNat) (by rw [List.length_map, List.length_take]; omega) r wr g2 refs2 nodes2 _ C2 N2 M2 Q2
                    change Calls _ _ #[.pointer (some ⟨p.cb, 0, none⟩), .int .i64 r] wr _ at HT
                    rw [pcb] at HT
                    replace C2 := Lib.hid C2
                    replace N2 := Lib.hid N2
                    replace M2 := Lib.hid M2
                    replace Q2 := Lib.hid Q2
                    replace hall := Lib.hid hall
                    replace K2 := Lib.hid K2
                    replace hRL := Lib.hid hRL
                    replace hN2 := Lib.hid hN2
                    replace hlt2 := Lib.hid hlt2
                    replace HT := Lib.hid HT
                    clear hcel hbr2 hbr3
                    go_wp2_with fail
                    refine HT.out.mono ?_
                    rintro e w9 ⟨hE, t1, t2, t3, t4, t5, t6⟩
                    have K9 : Kept p.cb p.mb w8 w9 := K2.out.trans ⟨t1, t2, t3, t4, t5⟩
                    rcases hokr : okL p.S (-1) r with _ | _
                    · have x9 := K9.below xw.out (by have := (Array.getElem?_eq_some_iff.1 pwr.out).1; omega) (by rw [pcb]; omega) (by rw [pmb]; omega)
                      have HB := Lib.hid (TakeQ.bad (S := S) (next := next) (root := root) (dead := dead) x9 (fun vs' hp => by
                        have h1 := hp.vols
                        rw [hvo.out, hgo.out, Option.some.injEq] at h1
                        subst h1
                        have := hp.ok r HMM.out
                        rw [pS] at hokr
                        rw [hokr] at this
                        cases this))
                      obtain rfl : e = .returned (.int .i64 8) := hE.trans (by show Ending.returned (.int .i64 (if okL p.S (-1) r = true then 0 else 8)) = _; rw [hokr]; rfl)
                      replace hokr := Lib.hid hokr
                      clear t1 t2 t3 t4 t5 t6 K9 x9 hE
                      go_wp2_with fail
                      exact take_ret rfl rfl rfl HB.out
                    · obtain ⟨ca3, g3, refs3, nodes3, C9, hg9, N9, M9, Q9⟩ := t6 hokr
                      have IR : R2 p w8 (.slice AV vs.length cV) (rootsOf root dead vs) (.int .i64 ((k : Int) + 1)) w9 := by
                        refine ⟨k + 1, g3, ca3, refs3, nodes3, hlt2.out, rfl, C9, N9, ?_, ?_, ?_, K9⟩
                        · rw [HTK.out, List.map_append]; exact M9
                        · rw [HTK.out, List.map_append]; exact Q9
                        · intro r' hr'
                          rw [HTK.out] at hr'
                          rcases List.mem_append.1 hr' with h1 | h1
                          · exact hall.out r' h1
                          · rw [List.mem_singleton.1 h1]; exact hokr
                      replace IR := Lib.hid IR
                      obtain rfl : e = .returned (.int .i64 0) := hE.trans (by show Ending.returned (.int .i64 (if okL p.S (-1) r = true then 0 else 8)) = _; rw [hokr]; rfl)
                      replace hokr := Lib.hid hokr
                      clear hE t1 t2 t3 t4 t5 t6 K9 C9 hg9 N9 M9 Q9
                      go_wp2_with fail
                      rw [hwk.out]
                      refine ⟨⟨rfl, rfl, IR.out⟩, ?_⟩
                      simp [intOf]
                      omega
                  · have hke2 : k = (rootsOf root dead vs).length := by omega
                    have hlt3 : ¬ k < N := by omega
                    rw [hke2, List.take_length] at M2 Q2 hall
                    have k9 := cells_row C2.row
                    have hkN : k = N := by omega
                    replace hke2 := Lib.hid hke2
                    replace hall := Lib.hid hall
                    replace C2 := Lib.hid C2
                    replace M2 := Lib.hid M2
                    replace Q2 := Lib.hid Q2
                    replace K2 := Lib.hid K2
                    replace N2 := Lib.hid N2
                    clear hrel hk2 hlt2 hRL hN2
                    have hz8 : w.heap.size < w8.heap.size := (Array.getElem?_eq_some_iff.1 pwr.out).1
                    have x9 : Below w.heap.size w wr := K2.out.below xw.out (by omega) (by rw [pcb]; omega) (by rw [pmb]; omega)
                    have pw9 := (K2.out.block w.heap.size hz8 (by rw [pcb]; omega) (by rw [pmb]; omega)).trans pwr.out
                    have kp9 := cells_row pw9
                    have rc9 := C2.out.row
                    change wr.heap[p.cb]? = some (.cells ca2 _ _) at rc9
                    rw [pcb] at rc9
                    have hcc : ∀ j v, (arrI refs2)[j]? = some v → wr.cell? ⟨cb, 6 + j, none⟩ = some v := fun j v hj => by
                      obtain ⟨h1, rfl⟩ := arrI_lt hj
                      rw [cells_row rc9]
                      exact N2.out.ref j h1
                    have hst9 := h.out.below x9
                    obtain ⟨A'', c'', e3, hlc, hmc, hr3⟩ := hst9.now
                    have hl3 : S.now.length = 256 := (storeMay_len hmay'.out).2.2.1
                    have hnow : ∃ b3 o3, (Value.slice A3 n3 c3) = .slice (some ⟨b3, o3, none⟩) 256 c3 ∧ ∀ j, j < 256 → wr.cell? ⟨b3, o3 + j, none⟩ = some (.int .u8 ((S.now[j]?.getD 0).toNat : Int)) := by
                      rw [Value.slice.injEq] at e3
                      obtain ⟨rfl, hn3, rfl⟩ := e3
                      obtain ⟨b3, o3, hA3, _, hcel3⟩ := hr3.2 (by omega)
                      refine ⟨b3, o3, by rw [hA3, hn3, hl3], fun j hj => ?_⟩
                      exact hcel3 j _ (by rw [List.getElem?_map, List.getElem?_eq_getElem (by omega)]; rfl)
                    obtain ⟨b3, o3, eN, hcN⟩ := hnow
                    rw [eN] at kp9
                    replace hcN := Lib.hid hcN
                    replace x9 := Lib.hid x9
                    clear hst9 hr3 hlc hmc pw9 rc9
                    replace e3 := Lib.hid e3
                    replace eN := Lib.hid eN
                    go_upto_region 20 with fail
                    go_wp2_with (refine wpList_load_part rfl 94 (.tmp 82) rfl cb 6 rfl (arrI refs2) _ hcc Try.underlying94 rfl (by rw [show (arrI refs2).length = 256 by simp [arrI]]; kernel_rfl) ?_)
                    clear hcc
                    replace hkN := Lib.hid hkN
                    go_loopw [2, 3, 84] (fun u v i wq => u = .pointer (some ⟨cb, 0, none⟩) ∧ v = .int .i64 0 ∧ R3 S refs2 wr i wq) (fun _ _ i _ => 256 - (intOf i).toNat)
                    case atStart => exact ⟨rfl, rfl, 0, by omega, rfl, fun a h => absurd h (Nat.not_lt_zero _), rfl⟩
                    case round =>
                      obtain ⟨rfl, rfl, hrel⟩ := hrel
                      obtain ⟨q, hq3, rfl, hle, rfl⟩ := hrel.ex
                      clear hrel
                      have hcnt : Counted S (rootsN root dead vs) refs2 nodes2 := by have := M2.out; rw [pS] at this; exact this
                      have hpool : PoolB S root next dead vs := ⟨hmay'.out, h40, hok.out, hvo.out.trans hgo.out, fun r hr => by have := hall.out r hr; rwa [pS] at this⟩
                      by_cases hl4 : q < 256
                      · have dN := hcN.out q hl4
                        have hix := run_index_arr (cs := (arrI refs2).toArray) hl4 (v := .int .i64 (refs2 q)) (by rw [List.getElem?_toArray]; exact arrI_get refs2 hl4)
                        generalize hnv : (S.now[q]?.getD 0).toNat = nv at *
                        have hnv2 : nv < 256 := by rw [← hnv]; exact UInt8.toNat_lt _
                        have hwq := Lib.hid (IntWalk.wrap64_in ((q : Int) + 1) (by omega))
                        replace hnv := Lib.hid hnv
                        replace hle := Lib.hid hle
                        replace hcnt := Lib.hid hcnt
                        replace hpool := Lib.hid hpool
                        rcases Nat.lt_or_ge nv (refs2 q) with hg | hg
                        · have hc1 : decide ((refs2 q : Int) > (nv : Int)) = true := decide_eq_true (by omega)
                          have hc2 : decide (nv < refs2 q) = true := decide_eq_true hg
                          have HB : TakeQ S root next dead w (.returned (.tuple #[.pointer none, .int .i64 8])) wr := ⟨x9.out, .inl ⟨rfl, fun vs' hp => by
                            have h1 := hp.vols
                            rw [hvo.out, hgo.out, Option.some.injEq] at h1
                            subst h1
                            exact ⟨refs2, nodes2, hcnt.out, fun he => by have := he q hl4; rw [hnv.out] at this; omega⟩⟩⟩
                          replace HB := Lib.hid HB
                          replace hg := Lib.hid hg
                          generalize (arrI refs2).toArray = arr at *
                          go_wp2_with fail
                          exact take_ret rfl rfl rfl HB.out
                        · have hc1 : decide ((refs2 q : Int) > (nv : Int)) = false := decide_eq_false (by omega)
                          have hc2 : decide (nv < refs2 q) = false := decide_eq_false (by omega)
                          have IR : R3 S refs2 wr (.int .i64 ((q : Int) + 1)) wr := ⟨q + 1, hl4, rfl, fun a ha => by
                            rcases Nat.lt_or_ge a q with h1 | h1
                            · exact hle.out a h1
                            · obtain rfl : a = q := by omega
                              rw [hnv.out]
                              exact hg, rfl⟩
                          replace IR := Lib.hid IR
                          replace hg := Lib.hid hg
                          generalize (arrI refs2).toArray = arr at *
                          go_wp2_with fail
                          refine ⟨⟨rfl, rfl, IR.out⟩, ?_⟩
                          simp [intOf]
                          omega
                      · have hen : Enough S refs2 := fun a ha => hle a (by omega)
                        have HT : TakeQ S root next dead w (.returned (.tuple #[.pointer (some ⟨cb, 0, none⟩), .int .i64 0])) wr := ⟨x9.out, .inr ⟨vs, refs2, nodes2, cb, ca2, .slice AV vs.length cV, rfl, ⟨hpool, hcnt, hen, hcw, by rw [← pcb]; exact C2.out.row, N2.out, own_mono (own_kept VW.out.own K2.out (by rw [pcb]; exact hcb5) (by rw [pmb]; exact hmb5)) (by omega)⟩⟩⟩
                        replace HT := Lib.hid HT
                        replace hcnt := Lib.hid hcnt
                        replace hpool := Lib.hid hpool
                        replace hen := Lib.hid hen
                        replace hle := Lib.hid hle
                        go_wp2_with fail
                        exact take_ret rfl rfl rfl HT.out
end Go.Proofs.Ytlgbjpihmkeopaa
/- Contracts: how often a pool refers to each block. -/
namespace Go.Proofs.Ytlgbjpihmkeopaa
set_option linter.unusedSimpArgs false
set_option linter.unusedVariables false
open Go.RowKit

def RefsQ (S : Sto) (root next : Int) (dead : List Int) (w : World) (e : Ending) (w' : World) : Prop := Below w.heap.size w w' ∧
  ((e = .returned (.tuple #[.slice none 0 0, .int .i64 8]) ∧ ∀ vs, PoolB S root next dead vs → ∃ refs nodes, Counted S (rootsN root dead vs) refs nodes ∧ ¬ Enough S refs) ∨
    ∃ vs refs nodes cb ca vv lo, e = .returned (.tuple #[.slice (some ⟨cb, 6, none⟩) 256 256, .int .i64 0]) ∧ w.heap.size ≤ lo ∧ Taken S root next dead vs refs nodes lo cb ca vv w')

theorem refs_ret {R : Ending → World → Prop} {a : Act} {W : World} {u v : Value} (h2 : a.tmps[2]?.getD undef = u) (h3 : a.tmps[3]?.getD undef = v) (hd : a.defers = []) (hR : R (.returned (.tuple #[u, v])) W) : bodyPost Try.prog Try.f21 R .ret a W := by
  refine bodyPost_ret (v := .tuple #[u, v]) ?_ hd hR
  simp [results, Try.results21, go_sem, h2, h3]

set_option maxHeartbeats 2000000 in
set_option maxRecDepth 100000 in
theorem refs_any (A1 : Option Addr) (n1 c1 : Nat) (A2 : Option Addr) (n2 c2 : Nat) (A3 : Option Addr) (n3 c3 : Nat) (A4 : Option Addr) (n4 c4 : Nat) (gen root next : Int) (A5 : Option Addr) (c5 : Nat) (S : Sto) (dead : List Int) (w : World)
    (h : StoAt w w.heap.size (.slice A1 n1 c1) (.slice A2 n2 c2) (.slice A3 n3 c3) (.slice A4 n4 c4) S) (hd : Ints w w.heap.size (.slice A5 dead.length c5) dead) :
    Calls Try.prog 21 #[.agg (poolCs (.slice A1 n1 c1) (.slice A2 n2 c2) (.slice A3 n3 c3) (.slice A4 n4 c4) gen root next (.slice A5 dead.length c5))] w (RefsQ S root next dead w) := by
  have HT := Lib.hid (fun W (hx : Ext w W) => take_any A1 n1 c1 A2 n2 c2 A3 n3 c3 A4 n4 c4 gen root next A5 c5 S dead W (h.ext hx) (by
    obtain ⟨A, c, e, q1, q2, q3⟩ := hd
    exact ⟨A, c, e, q1, q2, (q3.below hx).more hx.size⟩))
  clear h hd
  go_enter Try.func21, Try.ntmps21
  go_wp2_with fail
  generalize hw1 : World.alloc w _ = w1
  have x1 : Ext w w1 := by rw [← hw1]; exact Ext.alloc _ _
  clear hw1
  refine (HT.out w1 x1).mono ?_
  rintro e w2 ⟨hB, hQ⟩
  have x2 : Below w.heap.size w w2 := Ext.trans x1 hB
  rcases hQ with ⟨rfl, hno⟩ | ⟨vs, refs, nodes, cb, ca, vv, rfl, hT⟩
  · have HB : RefsQ S root next dead w (.returned (.tuple #[.slice none 0 0, .int .i64 8])) w2 := ⟨x2, .inl ⟨rfl, hno⟩⟩
    replace HB := Lib.hid HB
    clear hno hB
    go_wp2_with fail
    exact refs_ret rfl rfl rfl HB.out
  · have HB : RefsQ S root next dead w (.returned (.tuple #[.slice (some ⟨cb, 6, none⟩) 256 256, .int .i64 0])) w2 := ⟨x2, .inr ⟨vs, refs, nodes, cb, ca, vv, _, rfl, x1.size, hT⟩⟩
    replace HB := Lib.hid HB
    clear hT hB
    go_wp2_with fail
    exact refs_ret rfl rfl rfl HB.out
end Go.Proofs.Ytlgbjpihmkeopaa
/- Contracts: the blocks of a pool's nodes. -/
namespace Go.Proofs.Ytlgbjpihmkeopaa
set_option linter.unusedSimpArgs false
set_option linter.unusedVariables false
open Go.RowKit

def metTo (nodes : Nat → Nat) (k : Nat) : List Nat := (List.range k).filter fun a => decide (0 < nodes a)
theorem metTo_succ (nodes : Nat → Nat) (k : Nat) : metTo nodes (k + 1) = if 0 < nodes k then metTo nodes k ++ [k] else metTo nodes k := by
  unfold metTo
  rw [List.range_succ, List.filter_append]
  by_cases h : 0 < nodes k
  · rw [if_pos h]; simp [h]
  · rw [if_neg h]; simp [h]
theorem metTo_len (nodes : Nat → Nat) (k : Nat) : (metTo nodes k).length ≤ k := by
  unfold metTo
  exact Nat.le_trans (List.length_filter_le _ _) (by simp)
def NodesQ (S : Sto) (root next : Int) (dead : List Int) (w : World) (e : Ending) (w' : World) : Prop := Below w.heap.size w w' ∧
  ((e = .returned (.tuple #[.slice none 0 0, .int .i64 8]) ∧ ∀ vs, PoolB S root next dead vs → ∃ refs nodes, Counted S (rootsN root dead vs) refs nodes ∧ ¬ Enough S refs) ∨
    ∃ vs refs nodes v lo, e = .returned (.tuple #[v, .int .i64 0]) ∧ w.heap.size ≤ lo ∧ PoolB S root next dead vs ∧ Counted S (rootsN root dead vs) refs nodes ∧ Enough S refs ∧ w'.ownsRow lo 3 1 v (metTo nodes 256).length (intsV (metTo nodes 256)))
structure N1 (nodes : Nat → Nat) (w2 : World) (v i : Value) (wr : World) : Prop where
  ex : ∃ k : Nat, k ≤ 256 ∧ i = .int .i64 (k : Int) ∧ wr.ownsRow w2.heap.size 3 1 v (metTo nodes k).length (intsV (metTo nodes k)) ∧ Ext w2 wr

theorem nodes_ret {R : Ending → World → Prop} {a : Act} {W : World} {u v : Value} (h2 : a.tmps[2]?.getD undef = u) (h3 : a.tmps[3]?.getD undef = v) (hd : a.defers = []) (hR : R (.returned (.tuple #[u, v])) W) : bodyPost Try.prog Try.f23 R .ret a W := by
  refine bodyPost_ret (v := .tuple #[u, v]) ?_ hd hR
  simp [results, Try.results23, go_sem, h2, h3]

set_option maxHeartbeats 2000000 in
set_option maxRecDepth 100000 in
theorem nodes_any (A1 : Option Addr) (n1 c1 : Nat) (A2 : Option Addr) (n2 c2 : Nat) (A3 : Option Addr) (n3 c3 : Nat) (A4 : Option Addr) (n4 c4 : Nat) (gen root next : Int) (A5 : Option Addr) (c5 : Nat) (S : Sto) (dead : List Int) (w : World)
    (h : StoAt w w.heap.size (.slice A1 n1 c1) (.slice A2 n2 c2) (.slice A3 n3 c3) (.slice A4 n4 c4) S) (hd : Ints w w.heap.size (.slice A5 dead.length c5) dead) :
    Calls Try.prog 23 #[.agg (poolCs (.slice A1 n1 c1) (.slice A2 n2 c2) (.slice A3 n3 c3) (.slice A4 n4 c4) gen root next (.slice A5 dead.length c5))] w (NodesQ S root next dead w) := by
  have HT := Lib.hid (fun W (hx : Ext w W) => take_any A1 n1 c1 A2 n2 c2 A3 n3 c3 A4 n4 c4 gen root next A5 c5 S dead W (h.ext hx) (by
    obtain ⟨A, c, e, q1, q2, q3⟩ := hd
    exact ⟨A, c, e, q1, q2, (q3.below hx).more hx.size⟩))
  clear h hd
  go_enter Try.func23, Try.ntmps23
  go_wp2_with fail
  generalize hw1 : World.alloc w _ = w1
  have x1 : Ext w w1 := by rw [← hw1]; exact Ext.alloc _ _
  clear hw1
  refine (HT.out w1 x1).mono ?_
  rintro e w2 ⟨hB, hQ⟩
  have x2 : Below w.heap.size w w2 := Ext.trans x1 hB
  rcases hQ with ⟨rfl, hno⟩ | ⟨vs, refs, nodes, cb, ca, vv, rfl, hT⟩
  · have HB : NodesQ S root next dead w (.returned (.tuple #[.slice none 0 0, .int .i64 8])) w2 := ⟨x2, .inl ⟨rfl, hno⟩⟩
    replace HB := Lib.hid HB
    clear hno hB
    go_wp2_with fail
    exact nodes_ret rfl rfl rfl HB.out
  · have hcc : ∀ j v, (arrI nodes)[j]? = some v → w2.cell? ⟨cb, 262 + j, none⟩ = some v := fun j v hj => by
      obtain ⟨h1, rfl⟩ := arrI_lt hj
      rw [cells_row hT.row]
      exact hT.ar.node j h1
    replace hT := Lib.hid hT
    clear hB
    go_wp2_with (refine wpList_load_part rfl 94 (.tmp 17) rfl cb 262 rfl (arrI nodes) _ hcc Try.underlying94 rfl (by rw [show (arrI nodes).length = 256 by simp [arrI]]; kernel_rfl) ?_)
    clear hcc
    go_loopw [2, 19] (fun v i wq => N1 nodes w2 v i wq) (fun _ i _ => 256 - (intOf i).toNat)
    case atStart => exact ⟨0, by omega, rfl, World.ownsRow_nil _ _ _ _, Ext.refl _⟩
    case round =>
      obtain ⟨k, hk, rfl, own, xr⟩ := hrel.ex
      clear hrel
      by_cases hlt : k < 256
      · have hix := run_index_arr (cs := (arrI nodes).toArray) hlt (v := .int .i64 (nodes k)) (by rw [List.getElem?_toArray]; exact arrI_get nodes hlt)
        have hml := metTo_len nodes k
        generalize (arrI nodes).toArray = arr at *
        obtain ⟨AR, cR, rfl, hcr1, hcr2⟩ := own_slice own
        clear hcr1 hcr2
        replace own := Lib.hid own
        replace xr := Lib.hid xr
        have hsu := Lib.hid (metTo_succ nodes k)
        rcases Nat.eq_zero_or_pos (nodes k) with h0 | h0
        · have hc1 : decide ((nodes k : Int) > 0) = false := decide_eq_false (by omega)
          have hc2 : decide (0 < nodes k) = false := decide_eq_false (by omega)
          have IR : N1 nodes w2 (.slice AR (metTo nodes k).length cR) (.int .i64 ((k : Int) + 1)) wr := ⟨k + 1, hlt, rfl, by rw [hsu.out, if_neg (by omega)]; exact own.out, xr.out⟩
          replace IR := Lib.hid IR
          replace h0 := Lib.hid h0
          go_wp2_with fail
          refine ⟨IR.out, ?_⟩
          simp [intOf]
          omega
        · have hc1 : decide ((nodes k : Int) > 0) = true := decide_eq_true (by omega)
          have hc2 : decide (0 < nodes k) = true := decide_eq_true h0
          obtain ⟨i0, hi, hz0, hz1, hz2⟩ := info_parts Try.info_int
          replace hml := Lib.hid hml
          replace h0 := Lib.hid h0
          go_wp2_with (at_builtin; refine wpList_stop ?_)
          refine Stopped.go (wpList_push _ rfl (.tmp 25) (.tmp 27) 30 rfl w2.heap.size 3 i0 (.int .i64 0) 1 8 Try.underlying30 hi hz0 hz1 hz2 rfl (by decide) _ _ _ rfl own.out #[.int .i64 (k : Int)] rfl rfl (by simp [Value.oneCell']) (by have := hml.out; omega) (by decide) xr.out.size ?_)
          intro v8 w8 own8 _ hB8 _
          have IR : N1 nodes w2 v8 (.int .i64 ((k : Int) + 1)) w8 := ⟨k + 1, hlt, rfl, by
            rw [hsu.out, if_pos h0.out, intsV_snoc, List.length_append, List.length_singleton]
            exact own8, Below.trans xr.out hB8⟩
          replace IR := Lib.hid IR
          clear own8 hB8 hi hz0 hz1 hz2
          go_wp2_with fail
          refine ⟨IR.out, ?_⟩
          simp [intOf]
          omega
      · obtain rfl : k = 256 := by omega
        have HB : NodesQ S root next dead w (.returned (.tuple #[_, .int .i64 0])) wr := ⟨x2.trans (Below.mono xr x2.size), .inr ⟨vs, refs, nodes, _, w2.heap.size, rfl, x2.size, hT.out.pool, hT.out.cnt, hT.out.enough, own⟩⟩
        replace HB := Lib.hid HB
        replace own := Lib.hid own
        replace xr := Lib.hid xr
        go_wp2_with fail
        exact nodes_ret rfl rfl rfl HB.out
end Go.Proofs.Ytlgbjpihmkeopaa
/- What each block is: plain words. -/
namespace Go.Proofs.Ytlgbjpihmkeopaa
set_option linter.unusedSimpArgs false
set_option linter.unusedVariables false
open Go.RowKit

def useD (S : Sto) (a : Nat) : Nat := if a < 8 then 0 else if 0 < (S.now[a]?.getD 0).toNat then 4 else if 0 < (S.last[a]?.getD 0).toNat then 2 else 1
def useB (S : Sto) (M : Nat → Bool) (a : Nat) : Nat := if M a = true then 3 else useD S a
def useTo (S : Sto) (k : Nat) (a : Nat) : Nat := if a < k then useD S a else 0
def useAt (S : Sto) (l : List Nat) (a : Nat) : Nat := if a ∈ l then 3 else useD S a
def arrB (f : Nat → Nat) : List Value := (List.range 256).map fun a => Value.int .u8 ((f a : Nat) : Int)
theorem arrB_get (f : Nat → Nat) {k : Nat} (h : k < 256) : (arrB f)[k]? = some (.int .u8 ((f k : Nat) : Int)) := by
  unfold arrB
  rw [List.getElem?_map, List.getElem?_range h]
  rfl
theorem arrB_congr {f g : Nat → Nat} (h : ∀ a, a < 256 → f a = g a) : arrB f = arrB g := by
  unfold arrB
  apply List.map_congr_left
  intro a ha
  rw [h a (List.mem_range.1 ha)]
theorem arrB_set (f : Nat → Nat) {a : Nat} (ha : a < 256) (n : Nat) : (arrB f).toArray.setIfInBounds a (.int .u8 (n : Int)) = (arrB fun b => if b = a then n else f b).toArray := by
  apply Array.ext_getElem?
  intro i
  rw [Array.getElem?_setIfInBounds, List.getElem?_toArray, List.getElem?_toArray]
  by_cases e : a = i
  · subst e
    rw [if_pos rfl, if_pos (by simp [arrB]; exact ha), arrB_get _ ha, if_pos rfl]
  · rw [if_neg e]
    rcases Nat.lt_or_ge i 256 with hi | hi
    · rw [arrB_get _ hi, arrB_get _ hi, if_neg (fun x => e x.symm)]
    · rw [List.getElem?_eq_none (by simp [arrB]; exact hi), List.getElem?_eq_none (by simp [arrB]; exact hi)]
theorem useTo_zero (S : Sto) : arrB (useTo S 8) = arrB fun _ => 0 := arrB_congr fun a _ => by
  unfold useTo useD
  split
  · rfl
  · rfl
theorem useTo_succ (S : Sto) {k : Nat} (hk : k < 256) : arrB (useTo S (k + 1)) = arrB fun b => if b = k then useD S k else useTo S k b := arrB_congr fun a _ => by
  unfold useTo
  by_cases e : a = k
  · subst e; rw [if_pos (by omega), if_pos rfl]
  · rw [if_neg e]
    by_cases h : a < k
    · rw [if_pos (by omega), if_pos h]
    · rw [if_neg (by omega), if_neg h]
theorem useAt_nil (S : Sto) : arrB (useTo S 256) = arrB (useAt S []) := arrB_congr fun a ha => by
  unfold useTo useAt
  rw [if_pos ha, if_neg (by simp)]
theorem useAt_succ (S : Sto) (l : List Nat) {k : Nat} (hk : k < l.length) : arrB (useAt S (l.take (k + 1))) = arrB fun b => if b = l[k] then 3 else useAt S (l.take k) b := arrB_congr fun a _ => by
  unfold useAt
  rw [List.take_succ_eq_append_getElem hk]
  by_cases e : a = l[k]
  · rw [if_pos (List.mem_append_right _ (List.mem_singleton.2 e)), if_pos e]
  · rw [if_neg e]
    by_cases h : a ∈ l.take k
    · rw [if_pos (List.mem_append_left _ h), if_pos h]
    · rw [if_neg (fun x => (List.mem_append.1 x).elim h fun x => e (List.mem_singleton.1 x)), if_neg h]
theorem useAt_all (S : Sto) (nodes : Nat → Nat) : arrB (useAt S (metTo nodes 256)) = arrB (useB S (metB nodes)) := arrB_congr fun a ha => by
  unfold useAt useB metTo metB
  by_cases h : 0 < nodes a
  · rw [if_pos (by simp [ha, h]), if_pos (by simp [h])]
  · rw [if_neg (by simp [h]), if_neg (by simp [h])]
theorem metTo_lt (nodes : Nat → Nat) {k : Nat} (hk : k < (metTo nodes 256).length) : (metTo nodes 256)[k] < 256 := by
  have h : ∀ x ∈ metTo nodes 256, x < 256 := by
    intro x hx
    unfold metTo at hx
    rw [List.mem_filter] at hx
    exact List.mem_range.1 hx.1
  exact h _ (List.getElem_mem hk)
theorem intsV_get (l : List Nat) {k : Nat} (hk : k < l.length) : (intsV l)[k]? = some (.int .i64 (l[k] : Int)) := by unfold intsV; rw [List.getElem?_map, List.getElem?_eq_getElem hk]; rfl
def UsesQ (S : Sto) (root next : Int) (dead : List Int) (w : World) (e : Ending) (w' : World) : Prop := Below w.heap.size w w' ∧
  ((e = .returned (.tuple #[.slice none 0 0, .int .i64 8]) ∧ ∀ vs, PoolB S root next dead vs → ∃ refs nodes, Counted S (rootsN root dead vs) refs nodes ∧ ¬ Enough S refs) ∨
    ∃ vs refs nodes ob, e = .returned (.tuple #[.slice (some ⟨ob, 0, none⟩) 256 256, .int .i64 0]) ∧ w.heap.size ≤ ob ∧ PoolB S root next dead vs ∧ Counted S (rootsN root dead vs) refs nodes ∧ Enough S refs ∧ w'.heap[ob]? = some (.cells (arrB (useB S (metB nodes))).toArray 5 (0, 0)))
end Go.Proofs.Ytlgbjpihmkeopaa
/- A region that draws its order, in a fence that lets all be called: one walk serves every order. -/
namespace Go.Proofs.Ytlgbjpihmkeopaa
set_option linter.unusedSimpArgs false
set_option linter.unusedVariables false
open Go.RowKit

structure WideF (F : Fence) : Prop where
  fn : ∀ f, F.fn f
  depth : ¬ F.depth.isSome = true
  call : ∀ {n : Nat} {P : Program} {f : FuncId} {args : Array Value} {w : World} {R : Ending → World → Prop}, Calls P f args w R → CallsIn F n P f args w R
theorem wideF : WideF Fence.wide := ⟨fun _ => trivial, fun h => (by cases h), fun h => callsIn_wide.2 h⟩
theorem wideF_round (l : Nat) : WideF (Fence.wide.inRound l) := ⟨fun _ => trivial, fun h => (by cases h), fun h => CallsIn.inRound l (callsIn_wide.2 h)⟩
def noDefer (ops : Array Oper) : Bool := ops.toList.all fun o => match o.op with | .defer _ => false | _ => true
theorem noDefer_spec {ops : Array Oper} (h : noDefer ops = true) {i : Nat} {o : Oper} (ho : ops[i]? = some o) : ∀ c, o.op ≠ .defer c := by
  intro c hc
  have h1 := List.all_eq_true.1 h o (by
    have := Array.mem_of_getElem? ho
    simpa using this)
  rw [hc] at h1
  cases h1
section
variable {F : Fence} {P : Program} {ops : Array Oper} {n : Nat}
theorem wpAnyIn_seq {Q' : Exit → Act → World → Prop} : ∀ (l : List Oper) (k : Nat) (listed : Array Bool) (a : Act) (W : World), (∀ j, j < l.length → l[j]? = ops[k + j]?) → seqB ops l.length k listed = true → wpListIn F n P ops Q' l a W → wpAnyIn F n P .any ops Q' l.length listed a W
  | [], _, _, _, _, _, hB, h => ⟨by simpa [seqB] using hB, h⟩
  | o :: l, k, listed, a, W, hl, hB, h => by
    simp only [List.length_cons, seqB, Bool.and_eq_true] at hB
    obtain ⟨hr, hB'⟩ := hB
    have hr' : Region.ready .any ops listed = [k] := by simpa using hr
    have h0 : ops[k]? = some o := by simpa using (hl 0 (by simp)).symm
    refine ⟨fun e => (by rw [hr'] at e; cases e), fun i hi => ?_⟩
    rw [hr'] at hi
    obtain rfl : i = k := by simpa using hi
    have hl' : ∀ j, j < l.length → l[j]? = ops[i + 1 + j]? := fun j hj => by have := hl (j + 1) (by simpa using hj); simpa [Nat.add_assoc, Nat.add_comm 1 j] using this
    refine wpOpIn_mono (fun a w hw => wpAnyIn_seq l (i + 1) _ a w hl' hB' hw) ?_
    unfold wpOpIn
    simp only [h0]
    exact h
end
section
variable {F0 : Fence} {R : Rel} {P : Program} {ops : Array Oper} {w0 : World} {n : Nat}
theorem wpOpIn_of_okayG (HF : WideF F0) (HN : noDefer ops = true) {H : Nat → Option Outs} {i : Nat} {o : Oper} {a : Act} {F : Facts} {K : Act → Facts → Prop} {K' : Act → World → Prop} {Q' : Exit → Act → World → Prop} {W : World} (hi : ops[i]? = some o)
    (hH : ∀ i h, H i = some h → ∀ p, StableG R (h.φ p)) (hst : ∀ k, StableG R (F k)) (hW : R.r w0 W) (hF : ∀ k, F k W)
    (hK : ∀ a' F' W', K a' F' → (∀ k, StableG R (F' k)) → R.r w0 W' → (∀ k, F' k W') → K' a' W') (h : FOpG R P ops w0 H i o K a F) : wpOpIn F0 n P ops Q' i K' a W := by
  obtain ⟨hh, hok, hn⟩ := h
  have go : ∀ p W', R.r W W' → hh.φ p W' → K' (a.put o.dst (hh.f p)) W' := fun p W' he hφ => by
    have hF' : ∀ k, upd F i o (hh.φ p) k W' := fun k => by
      unfold upd
      split
      · exact ⟨hφ, fun j _ => hst j _ _ he (hF j)⟩
      · exact hst k _ _ he (hF k)
    exact hK _ _ W' (hn p ⟨W', R.trans hW he, hF'⟩) (upd_stableG hst i o (hok.stable hH p)) (R.trans hW he) hF'
  unfold wpOpIn
  simp only [hi]
  rcases hok with ⟨x1, rfl⟩ | ⟨x1, x2, v, rfl, x3⟩ | ⟨x1, x2, x3⟩
  · simp only [x1, Bool.false_eq_true, if_false]
    exact ⟨fun f _ => HF.fn f, go () W (R.refl W) trivial⟩
  · simp only [x1, if_true]
    obtain ⟨w', hr, he⟩ := x3 W hW fun k _ => hF k
    refine ⟨fun f _ => HF.fn f, ?_⟩
    rw [Oper.semAt_eq _ _ _ (noDefer_spec HN hi), hr]
    exact go () w' he trivial
  · simp only [x1, if_true]
    have h3 := x3 W hW fun k _ => hF k
    unfold hardAtG at h3
    refine ⟨fun f _ => HF.fn f, ?_⟩
    rw [Oper.semAt_eq _ _ _ (noDefer_spec HN hi)]
    generalize (execOp a.eval o).run P W = r at *
    cases r with
    | ok m w' =>
      cases m <;> simp only [hardUponG] at h3 <;> simp only [Oper.uponIn]
      case value u =>
        obtain ⟨p, rfl, hp, he⟩ := h3
        exact go p w' he hp
      case skip =>
        obtain ⟨p, e, hp, he⟩ := h3
        have := go p w' he hp
        rwa [← e] at this
      case enter f args =>
        obtain ⟨he, hcl⟩ := h3
        refine ⟨fun h => absurd h HF.depth, HF.call (hcl.mono fun e w'' ⟨p, he1, hp, he2⟩ => ?_)⟩
        subst he1
        exact go p w'' (R.trans he he2) hp
    | halt x w' => simp only [hardUponG] at h3
theorem wpAnyIn_of_freeG (HF : WideF F0) (HN : noDefer ops = true) {H : Nat → Option Outs} (hH : ∀ i h, H i = some h → ∀ p, StableG R (h.φ p)) {L : Array Bool} {t : Nat} {Q : Act → Facts → Prop} {Q' : Exit → Act → World → Prop}
    (hQ : ∀ a F W, Q a F → R.r w0 W → (∀ k, F k W) → wpAnyIn F0 n P .any ops Q' t L a W) :
    ∀ (fuel : Nat) (listed : Array Bool) (a : Act) (F : Facts) (W : World), (∀ k, StableG R (F k)) → R.r w0 W → (∀ k, F k W) → wpAnyFG R P ops w0 H L Q fuel listed a F → wpAnyIn F0 n P .any ops Q' (fuel + t) listed a W
  | 0, listed, a, F, W, _, hW, hF, h => by
    rw [h.1, Nat.zero_add]
    exact hQ a F W h.2 hW hF
  | fuel + 1, listed, a, F, W, hst, hW, hF, h => by
    rw [show fuel + 1 + t = fuel + t + 1 by omega]
    refine ⟨fun h0 => absurd h0 h.1, fun i hi => ?_⟩
    obtain ⟨_, o, ho, _⟩ := mem_ready.1 hi
    exact wpOpIn_of_okayG HF HN ho hH hst hW hF (fun a' F' W' hk hst' hW' hF' => wpAnyIn_of_freeG HF HN hH hQ fuel _ a' F' W' hst' hW' hF' hk) (h.2 i hi o ho)
theorem wpIn_region_freeT {id : Nat} {l : List Oper} {Q : Exit → Act → World → Prop} {a : Act} {w : World} (R : Rel) (H : Nat → Option Outs) (M : List Bool) (t : Nat) (HF : WideF F0) (HN : noDefer l.toArray = true) (hm : P.follows .mixedOrders = true)
    (hs : Region.noSelect l.toArray = true) (ht : tailT l.toArray (listedTo l.length (l.length - t)) ((maskOps 0 l M).map (·.1)) = true) (hc0 : closedB l.toArray (Array.replicate l.length false) = true) (hB : lexMask l.toArray (listedTo l.length (l.length - t)) ((maskOps 0 l M).map (·.1)) (Array.replicate l.length false) = true)
    (hseq : seqB l.toArray t (l.length - t) (listedTo l.length (l.length - t)) = true) (hfu : l.length = (maskOps 0 l M).length + t) (htl : (l.drop (l.length - t)).length = t)
    (hH : ∀ i h, H i = some h → ∀ p, StableG R (h.φ p)) (hW : R.r w w.drew)
    (h : ∀ K : Act → Facts → Prop, (∀ a' F', (∀ W, R.r w W → (∀ k, F' k W) → wpListIn F0 n P l.toArray Q (l.drop (l.length - t)) a' W) → K a' F') → wpFreeM R P l.toArray w H K (maskOps 0 l M) a (fun _ _ => True)) : (Code.region id l.toArray true).wpIn F0 n P Q a w := by
  have h := h _ (fun a' F' hh => hh)
  refine wpIn_region_any hm ?_
  have key := wpAnyF_lexT (w0 := w) hH hs (fun _ _ h => h.step) (tailT_spec ht) (maskOps 0 l M) (Array.replicate l.length false) a (fun _ _ => True) (closedB_spec hc0) (fun x hx => by
    obtain ⟨j, h1, h2⟩ := maskOps_spec l M 0 x hx
    refine ⟨?_, List.mem_map.2 ⟨x, hx, rfl⟩⟩
    rw [h1, Nat.zero_add]
    simpa using h2) hB (fun _ _ _ _ _ => trivial) ⟨w.drew, hW, fun _ => trivial⟩ (fun _ _ _ => trivial) h
  have := wpAnyIn_of_freeG (n := n) (w0 := w) HF HN hH (t := t) (Q' := Q) (fun a F W hq hW hF => by
    have := wpAnyIn_seq (F := F0) (n := n) (l.drop (l.length - t)) (l.length - t) _ a W (fun j _ => by rw [List.getElem?_drop]; simp) (by rw [htl]; exact hseq) (hq W hW hF)
    rwa [htl] at this) _ _ _ _ w.drew (fun _ _ _ _ _ => trivial) hW (fun _ => trivial) key
  rw [← hfu] at this
  simpa using this
end
end Go.Proofs.Ytlgbjpihmkeopaa
/- Contracts: a block that has to be referred to; a pool that may be. -/
namespace Go.Proofs.Ytlgbjpihmkeopaa
set_option linter.unusedSimpArgs false
set_option linter.unusedVariables false
open Go.RowKit

def nowN (S : Sto) (a : Nat) : Nat := (S.now[a]?.getD 0).toNat
theorem now_at {S : Sto} (hS : storeMay S = true) {w : World} {B : Nat} {v : Value} (h : Bys w B v S.now) : ∃ b o c, v = .slice (some ⟨b, o, none⟩) 256 c ∧ b < B ∧ ∀ a, a < 256 → w.cell? ⟨b, o + a, none⟩ = some (.int .u8 (nowN S a : Int)) := by
  obtain ⟨-, -, hl, -⟩ := storeMay_len hS
  obtain ⟨A, c, e, hc, hm, hr⟩ := h
  obtain ⟨b, o, rfl, hb, hcell⟩ := hr.2 (by omega)
  rw [hl] at e
  exact ⟨b, o, c, e, hb, fun a ha => hcell a _ (by rw [List.getElem?_map, List.getElem?_eq_getElem (by omega)]; unfold nowN; rw [List.getElem?_eq_getElem (by omega)]; rfl)⟩
end Go.Proofs.Ytlgbjpihmkeopaa
