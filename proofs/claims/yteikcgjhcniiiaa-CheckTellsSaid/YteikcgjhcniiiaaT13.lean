/- Texts FreeT, Twin3, Twin8, Read8, joined. -/
import Derived.Test.YteikcgjhcniiiaaT05
import Derived.Test.YteikcgjhcniiiaaT12
/- A region that draws its order, told by one walk of the lexical order: the last operations may wait for the named ones by way of others. -/
namespace Go.Proofs.Yteikcgjhcniiiaa
set_option linter.unusedSimpArgs false
set_option linter.unusedVariables false
open Go.RowKit
section
variable {R : Rel}
section
variable {P : Program} {ops : Array Oper} {w0 : World}
/-- what is listed waits for nothing that is not -/
def Closed (ops : Array Oper) (listed : Array Bool) : Prop := ∀ (i : Nat) (o : Oper), ops[i]? = some o → listed.getD i false = true → ∀ k ∈ predsOf o, listed.getD k false = true
def closedB (ops : Array Oper) (listed : Array Bool) : Bool := (List.range ops.size).all fun i => !(listed.getD i false) || (match ops[i]? with | some o => (predsOf o).all fun k => listed.getD k false | none => true)
theorem closedB_spec {listed : Array Bool} (h : closedB ops listed = true) : Closed ops listed := by
  intro i o ho hi k hk
  have h1 := List.all_eq_true.1 h i (List.mem_range.2 (Array.getElem?_eq_some_iff.1 ho).1)
  rw [hi, ho] at h1
  simp only [Bool.not_true, Bool.false_or] at h1
  exact List.all_eq_true.1 h1 k hk
theorem ready_preds {listed : Array Bool} {j : Nat} (hj : j ∈ Region.ready .any ops listed) {o : Oper} (ho : ops[j]? = some o) : ∀ k ∈ predsOf o, listed.getD k false = true := by
  intro k hk
  obtain ⟨_, o', ho', hall⟩ := mem_ready.1 hj
  rw [ho] at ho'
  cases ho'
  obtain ⟨e, he, hei⟩ := List.mem_map.1 hk
  rw [List.mem_filter] at he
  rw [← hei]
  exact hall e (by simpa using he.1) he.2
theorem getD_set_keep {listed : Array Bool} {j k : Nat} (h : listed.getD k false = true) : (listed.setIfInBounds j true).getD k false = true := by
  rcases Nat.lt_or_ge k listed.size with h' | h'
  · simp only [Array.getD_eq_getD_getElem?, Array.getElem?_setIfInBounds] at h ⊢
    by_cases e : j = k
    · subst e; simp [h']
    · rw [if_neg e]; exact h
  · simp [Array.getElem?_eq_none h'] at h
theorem Closed.step {listed : Array Bool} {j : Nat} (h : Closed ops listed) (hj : j ∈ Region.ready .any ops listed) : Closed ops (listed.setIfInBounds j true) := by
  intro i o ho hi k hk
  by_cases e : i = j
  · subst e
    exact getD_set_keep (ready_preds hj ho k hk)
  · refine getD_set_keep (h i o ho ?_ k hk)
    simp only [Array.getD_eq_getD_getElem?, Array.getElem?_setIfInBounds] at hi ⊢
    rwa [if_neg (fun x => e x.symm)] at hi
/-- does j wait for k, by way of n others at most? -/
def waits (ops : Array Oper) : Nat → Nat → Nat → Bool
  | 0, _, _ => false
  | n + 1, j, k => match ops[j]? with
    | some o => (predsOf o).contains k || (predsOf o).any fun i => waits ops n i k
    | none => false
theorem waits_listed {listed : Array Bool} (h : Closed ops listed) : ∀ (n j k : Nat), (∀ o, ops[j]? = some o → ∀ i ∈ predsOf o, listed.getD i false = true) → waits ops n j k = true → listed.getD k false = true
  | 0, _, _, _, hw => by cases hw
  | n + 1, j, k, hp, hw => by
    unfold waits at hw
    split at hw
    · rename_i o ho
      rw [Bool.or_eq_true] at hw
      rcases hw with hw | hw
      · exact hp o ho k (by simpa using hw)
      · obtain ⟨i, hi, hw⟩ := List.any_eq_true.1 hw
        exact waits_listed h n i k (fun o' ho' => h i o' ho' (hp o ho i hi)) hw
    · cases hw
def tailT (ops : Array Oper) (L : Array Bool) (ks : List Nat) : Bool := (List.range ops.size).all fun j => L.getD j true || ks.all fun k => waits ops 9 j k
theorem tailT_spec {L : Array Bool} {ks : List Nat} (h : tailT ops L ks = true) : ∀ (listed : Array Bool) (j : Nat), Closed ops listed → j ∈ Region.ready .any ops listed → L.getD j true = false → ∀ k, k ∈ ks → listed.getD k false = true := by
  intro listed j hc hj hm k hk
  obtain ⟨_, o, ho, _⟩ := mem_ready.1 hj
  have h1 := List.all_eq_true.1 h j (List.mem_range.2 (Array.getElem?_eq_some_iff.1 ho).1)
  rw [hm, Bool.false_or] at h1
  exact waits_listed hc 9 j k (fun o' ho' => ready_preds hj ho') (List.all_eq_true.1 h1 k hk)
theorem wpAnyF_firstT {H : Nat → Option Outs} (hH : ∀ i h, H i = some h → ∀ p, StableG R (h.φ p)) {A : Nat → Prop} {Cl : Array Bool → Prop} {L : Array Bool} {Q : Act → Facts → Prop} {i : Nat} {oi : Oper} (hi : ops[i]? = some oi) (him : A i)
    (hsel : ∀ (j : Nat) (o : Oper) cs b, ops[j]? = some o → o.op ≠ .select cs b) (hcl : ∀ listed j, Cl listed → j ∈ Region.ready .any ops listed → Cl (listed.setIfInBounds j true)) (htail : ∀ (listed : Array Bool) (j : Nat), Cl listed → j ∈ Region.ready .any ops listed → L.getD j true = false → ∀ k, A k → listed.getD k false = true) :
    ∀ (fuel : Nat) (listed : Array Bool) (a : Act) (F : Facts), Cl listed →
      (∀ j oj, ops[j]? = some oj → j ≠ i → listed.getD j true = false → (∀ e ∈ oj.after, Region.binds .any e = true → e.on ≠ i) → oi.apart ops oj = true) →
      i ∈ Region.ready .any ops listed → (∀ k, StableG R (F k)) → ConsG R w0 F → (∀ k, listed.getD k true = false → ∀ W, F k W) →
      FOpG R P ops w0 H i oi (wpAnyFG R P ops w0 H L Q fuel (listed.setIfInBounds i true)) a F → wpAnyFG R P ops w0 H L Q (fuel + 1) listed a F := by
  intro fuel
  induction fuel with
  | zero =>
    intro listed a F hCl _ hr hst hc _ hop
    refine ⟨fun h => (by rw [h] at hr; cases hr), fun j hj oj hoj => ?_⟩
    by_cases hji : j = i
    · subst hji
      rw [hi] at hoj; cases hoj
      exact hop
    · exfalso
      obtain ⟨h, hok, hK⟩ := hop
      obtain ⟨p, hcp⟩ := hok.some_ hc hst
      have hmj : L.getD j true = false := by rw [← (hK p hcp).1]; exact (mem_ready.1 (ready_mono hj hji)).1
      have h1 := htail listed j hCl hj hmj i him
      have h0 := (mem_ready.1 hr).1
      rcases Nat.lt_or_ge i listed.size with h' | h'
      · simp [h'] at h0 h1; rw [h0] at h1; cases h1
      · simp [Array.getElem?_eq_none h'] at h1
  | succ fuel ih =>
    intro listed a F hCl hfree hr hst hc hun hop
    refine ⟨fun h => (by rw [h] at hr; cases hr), fun j hj oj hoj => ?_⟩
    by_cases hji : j = i
    · subst hji
      rw [hi] at hoj; cases hoj
      exact hop
    · obtain ⟨hjun, oj', hoj', hall⟩ := mem_ready.1 hj
      rw [hoj] at hoj'; cases hoj'
      obtain ⟨hiun, oi', hoi', halli⟩ := mem_ready.1 hr
      rw [hi] at hoi'; cases hoi'
      have bad : ∀ k, listed.getD k true = false → listed.getD k false = true → False := fun k h0 h1 => by
        rcases Nat.lt_or_ge k listed.size with h' | h'
        · simp [h'] at h0 h1; rw [h0] at h1; cases h1
        · simp [Array.getElem?_eq_none h'] at h1
      have hnot : ∀ e ∈ oj.after, Region.binds .any e = true → e.on ≠ i := fun e he hb heq => bad i hiun (heq ▸ hall e he hb)
      have hnot' : ∀ e ∈ oi.after, Region.binds .any e = true → e.on ≠ j := fun e he hb heq => bad j hjun (heq ▸ halli e he hb)
      have hpi : i ∉ predsOf oj := fun hin => by
        obtain ⟨e, he, hei⟩ := List.mem_map.1 hin
        rw [List.mem_filter] at he
        exact hnot e (by simpa using he.1) he.2 hei
      have hpj : j ∉ predsOf oi := fun hin => by
        obtain ⟨e, he, hei⟩ := List.mem_map.1 hin
        rw [List.mem_filter] at he
        exact hnot' e (by simpa using he.1) he.2 hei
      have hap := hfree j oj hoj hji hjun hnot
      have hsi : ∀ cs b, oi.op ≠ .select cs b := fun cs b => hsel i oi cs b hi
      have hsj : ∀ cs b, oj.op ≠ .select cs b := fun cs b => hsel j oj cs b hoj
      obtain ⟨h2, _⟩ := (Oper.apart_spec hap).2
      obtain ⟨hI, okI, hKI⟩ := hop
      obtain ⟨p0, hcp0⟩ := okI.some_ hc hst
      obtain ⟨hJ, okJ0, _⟩ := (hKI p0 hcp0).2 j (ready_mono hj hji) oj hoj
      have okJ : OkayG R P ops w0 H j oj a F hJ := (OkayG.move hap hsj hpi).1 okJ0
      refine ⟨hJ, okJ, fun q hcq => ?_⟩
      have stJ := okJ.stable hH q
      have hfree' : ∀ k ok, ops[k]? = some ok → k ≠ i → (listed.setIfInBounds j true).getD k true = false →
          (∀ e ∈ ok.after, Region.binds .any e = true → e.on ≠ i) → oi.apart ops ok = true := fun k ok hk hki hunk hno => by
        refine hfree k ok hk hki ?_ hno
        by_cases hjk : j = k
        · subst hjk; exact hjun
        · rw [getD_set_ne true hjk] at hunk; exact hunk
      refine ih (listed.setIfInBounds j true) _ _ (hcl _ _ hCl hj) hfree' (ready_mono hr (Ne.symm hji)) (upd_stableG hst j oj stJ) hcq ?_ ?_
      · intro k hk W
        by_cases hjk : j = k
        · subst hjk
          exfalso
          have hlt : j < listed.size := by
            rcases Nat.lt_or_ge j listed.size with h' | h'
            · exact h'
            · simp [Array.getElem?_eq_none h'] at hjun
          simp [hlt] at hk
        · rw [getD_set_ne true hjk] at hk
          have := hun k hk W
          unfold upd; rw [if_neg (fun e => hjk e.symm)]; exact this
      · refine ⟨hI, (OkayG.move' hap hsi hpj).2 okI, fun p hcp => ?_⟩
        have hcp' : ConsG R w0 (upd F i oi (hI.φ p)) := by
          obtain ⟨W, hW, hF⟩ := hcp
          refine ⟨W, hW, fun k => ?_⟩
          have hk := hF k
          by_cases hki : k = i
          · subst hki
            unfold upd at hk ⊢
            rw [if_pos rfl] at hk ⊢
            refine ⟨hk.1, fun l hl => ?_⟩
            have := hk.2 l hl
            rwa [if_neg (fun e => hpj (by rw [← e]; exact hl))] at this
          · by_cases hkj : k = j
            · subst hkj
              unfold upd; rw [if_neg hki]; exact hun k hjun W
            · unfold upd at hk ⊢
              rw [if_neg hki, if_neg hkj] at hk
              rw [if_neg hki]; exact hk
        obtain ⟨hJ', okJ', hKJ'⟩ := (hKI p hcp').2 j (ready_mono hj hji) oj hoj
        have okJ'' : OkayG R P ops w0 H j oj a F hJ' := (OkayG.move hap hsj hpi).1 okJ'
        have e := okJ''.unique hc okJ
        subst e
        have hq := hKJ' q (by rw [upd_comm F _ _ (Ne.symm hji) hpi hpj]; exact hcp)
        rw [Array.setIfInBounds_comm _ _ (fun e => hji e.symm), Act.put_comm a (hI.f p) (hJ'.f q) h2, upd_comm F _ _ (Ne.symm hji) hpi hpj] at hq
        exact hq

theorem wpAnyF_lexT {H : Nat → Option Outs} (hH : ∀ i h, H i = some h → ∀ p, StableG R (h.φ p)) {Cl : Array Bool → Prop} {L : Array Bool} {ks : List Nat} {Q : Act → Facts → Prop} (hs : Region.noSelect ops = true)
    (hcl : ∀ listed j, Cl listed → j ∈ Region.ready .any ops listed → Cl (listed.setIfInBounds j true)) (htail : ∀ (listed : Array Bool) (j : Nat), Cl listed → j ∈ Region.ready .any ops listed → L.getD j true = false → ∀ k, k ∈ ks → listed.getD k false = true) : ∀ (l : List (Nat × Oper)) (listed : Array Bool) (a : Act) (F : Facts), Cl listed → (∀ x ∈ l, ops[x.1]? = some x.2 ∧ x.1 ∈ ks) →
    lexMask ops L (l.map (·.1)) listed = true → (∀ k, StableG R (F k)) → ConsG R w0 F → (∀ j, listed.getD j true = false → ∀ W, F j W) → wpFreeM R P ops w0 H Q l a F → wpAnyFG R P ops w0 H L Q l.length listed a F
  | [], listed, a, F, _, _, hB, _, _, _, h => ⟨by simpa [lexMask] using hB, h⟩
  | (k, o) :: l, listed, a, F, hCl, hl, hB, hst, hc, hun, h => by
    obtain ⟨h0, hks⟩ := hl (k, o) (List.mem_cons_self)
    simp only [List.map_cons, lexMask, Bool.and_eq_true] at hB
    obtain ⟨⟨hr, hf⟩, hB'⟩ := hB
    have hrk : k ∈ Region.ready .any ops listed := by simpa using hr
    have hkun := (mem_ready.1 hrk).1
    refine wpAnyF_firstT (A := fun k => k ∈ ks) hH h0 hks (Region.noSelect_spec hs) hcl htail l.length listed a F hCl (Region.free_spec h0 hf) hrk hst hc hun ?_
    obtain ⟨hh, hok, hK⟩ := h
    refine ⟨hh, hok, fun p hcp => ?_⟩
    refine wpAnyF_lexT hH hs hcl htail l _ _ _ (hcl _ _ hCl hrk) (fun x hx => hl x (List.mem_cons_of_mem _ hx)) hB' (upd_stableG hst k o (hok.stable hH p)) hcp (fun j hj W => ?_) (hK p hcp)
    by_cases hjk : k = j
    · subst hjk
      have hlt : k < listed.size := by
        rcases Nat.lt_or_ge k listed.size with h' | h'
        · exact h'
        · simp [Array.getElem?_eq_none h'] at hkun
      simp [hlt] at hj
    · rw [getD_set_ne true hjk] at hj
      have := hun j hj W
      unfold upd
      rw [if_neg (fun e => hjk e.symm)]
      exact this

theorem any_freeT {l : List Oper} {Q : Exit → Act → World → Prop} {fuel : Nat} {listed : Array Bool} {a : Act} {w W : World} (R : Rel) (H : Nat → Option Outs) (M : List Bool) (t : Nat)
    (hs : Region.noSelect l.toArray = true) (ht : tailT l.toArray (listedTo l.length (l.length - t)) ((maskOps 0 l M).map (·.1)) = true) (hc0 : closedB l.toArray listed = true) (hB : lexMask l.toArray (listedTo l.length (l.length - t)) ((maskOps 0 l M).map (·.1)) listed = true)
    (hseq : seqB l.toArray t (l.length - t) (listedTo l.length (l.length - t)) = true) (hfu : fuel = (maskOps 0 l M).length + t) (htl : (l.drop (l.length - t)).length = t)
    (hH : ∀ i h, H i = some h → ∀ p, StableG R (h.φ p)) (hW : R.r w W)
    (h : ∀ K : Act → Facts → Prop, (∀ a' F', (∀ W, R.r w W → (∀ k, F' k W) → wpList P l.toArray Q (l.drop (l.length - t)) a' W) → K a' F') → wpFreeM R P l.toArray w H K (maskOps 0 l M) a (fun _ _ => True)) : wpAny P .any l.toArray Q fuel listed a W := by
  have h := h _ (fun a' F' hh => hh)
  subst hfu
  have key := wpAnyF_lexT (w0 := w) hH hs (fun _ _ h => h.step) (tailT_spec ht) (maskOps 0 l M) listed a (fun _ _ => True) (closedB_spec hc0) (fun x hx => by
    obtain ⟨j, h1, h2⟩ := maskOps_spec l M 0 x hx
    refine ⟨?_, List.mem_map.2 ⟨x, hx, rfl⟩⟩
    rw [h1, Nat.zero_add]
    simpa using h2) hB (fun _ _ _ _ _ => trivial) ⟨W, hW, fun _ => trivial⟩ (fun _ _ _ => trivial) h
  refine wpAny_of_freeG (w0 := w) hH (t := t) (Q' := Q) (fun a F W hq hW hF => ?_) _ _ _ _ W (fun _ _ _ _ _ => trivial) hW (fun _ => trivial) key
  have := wpAny_seq (l.drop (l.length - t)) (l.length - t) _ a W (fun j _ => by rw [List.getElem?_drop]; simp) (by rw [htl]; exact hseq) (hq W hW hF)
  rwa [htl] at this
end
end
end Go.Proofs.Yteikcgjhcniiiaa
/- Contracts: the twin of a disk. -/
namespace Go.Proofs.Yteikcgjhcniiiaa
set_option linter.unusedSimpArgs false
set_option linter.unusedVariables false
open Go.RowKit

set_option maxHeartbeats 2000000 in
set_option maxRecDepth 100000 in
theorem twin3_any (A1 : Option Addr) (n1 c1 : Nat) (A2 : Option Addr) (n2 c2 : Nat) (bs : List (List UInt8)) (ws : List (Int × List UInt8)) (hbl : bs.length < 1000000) (hwl : ws.length < 1000000) (hbe : ∀ l ∈ bs, l.length < 1000000) (hwe : ∀ p ∈ ws, p.2.length < 1000000) (w : World)
    (hb : Bls w w.heap.size (.slice A1 n1 c1) bs) (hw : Wrs w w.heap.size (.slice A2 n2 c2) ws) :
    Calls Try.prog 51 #[diskV A1 n1 c1 A2 n2 c2] w (RetS (fun u W => ∃ A1 c1 A2 c2, u = diskV A1 bs.length c1 A2 ws.length c2 ∧ ∀ W2 : World, (∀ q : Addr, w.heap.size ≤ q.block → q.block < W.heap.size → W2.cell? q = W.cell? q) → Bls W2 W.heap.size (.slice A1 bs.length c1) bs ∧ Wrs W2 W.heap.size (.slice A2 ws.length c2) ws) w) := by
  obtain ⟨e1, hc1, hm1, hA1⟩ := hb.at_
  obtain ⟨e2, hc2, hm2, hA2⟩ := hw.at_
  subst e1
  subst e2
  have HB := Lib.hid hb
  have HW := Lib.hid hw
  clear hb hw
  go_enter Try.func51, Try.ntmps51
  go_wp2_with fail
  generalize hw1 : (World.alloc (World.alloc (World.alloc _ _) _) _) = w1
  have x1 : Ext w w1 := by rw [← hw1]; exact ((Ext.alloc _ _).trans (Ext.alloc _ _)).trans (Ext.alloc _ _)
  have r1 : w1.heap[w.heap.size]? = some (.cells #[.slice A1 bs.length c1, .slice A2 ws.length c2] 25 (0, 0)) := by rw [← hw1]; exact (Below.heap_alloc _ _ _ (by simp; omega)).trans ((Below.heap_alloc _ _ _ (by simp)).trans (World.alloc_heap_at _ _ _ rfl))
  have q1 : w1.heap[w.heap.size + 1]? = some (.cells #[.slice none 0 0, .slice none 0 0] 25 (0, 0)) := by rw [← hw1]; exact (Below.heap_alloc _ _ _ (by simp)).trans (World.alloc_heap_at _ _ _ (by simp))
  have t1 : w1.heap[w.heap.size + 1 + 1]? = some (.cells #[.slice none 0 0, .slice none 0 0] 25 (0, 0)) := by rw [← hw1]; exact World.alloc_heap_at _ _ _ (by simp)
  clear hw1
  have I0 : TwB bs w1 (w.heap.size + 1 + 1) (.int .i64 0) w1 := ⟨0, [], none, 0, by omega, rfl, rfl, t1, RowX.nil _, Below.refl _ _⟩
  replace I0 := Lib.hid I0
  go_wp2_with fail
  go_loopw [4] (fun i wr => TwB bs w1 (w.heap.size + 1 + 1) i wr) (fun i _ => bs.length - (intOf i).toNat)
  case atStart => exact I0.out
  case round =>
    obtain ⟨k, ps, A, c, hk, rfl, hps, ht, hrow, hE⟩ := hrel.ex
    clear hrel I0
    have xw : Below w.heap.size w wr := Below.trans x1 (Below.mono hE (by omega))
    have rr := (hE.block w.heap.size (by omega)).trans r1
    have kr := cells_row rr
    by_cases hlt : k < bs.length
    · have hlt' := hlt
      have hpl : ps.length = k := by
        have := congrArg List.length hps
        rw [List.length_map, List.length_take] at this
        omega
      obtain ⟨b1, o1, rfl, hb1⟩ := hA1 (by omega)
      obtain ⟨A', c', hc, hby⟩ := (HB.out.below xw).get k hlt
      have hll := hbe bs[k] (List.getElem_mem hlt)
      have hsn : bs.take (k + 1) = bs.take k ++ [bs[k]] := List.take_succ_eq_append_getElem hlt
      generalize bs[k] = l at *
      have hvl := own_lt hrow.1
      have hap : Apart (.slice A k c) (.slice A' l.length c') := Apart.of_bys hby (fun g hg => by have := hvl g hg; omega)
      have hby' : Bys wr wr.heap.size (.slice A' l.length c') l := hby.more xw.size
      have hvd : (Value.slice A k c).ownBlock ≠ some w.heap.size := fun h => by have := hvl _ h; omega
      have hvt : (Value.slice A k c).ownBlock ≠ some (w.heap.size + 1 + 1) := fun h => by have := hvl _ h; omega
      have hvb : (Value.slice A k c).ownBlock ≠ some b1 := fun h => by have := hvl _ h; omega
      have zz : w.heap.size + 1 + 1 < wr.heap.size := (Array.getElem?_eq_some_iff.1 ht).1
      obtain ⟨RR, hRR⟩ : ∃ RR : Rel, RR = appX (w.heap.size + 1 + 1 + 1) 26 1 wr.heap.size (.slice A k c) ps.length (ps.flatMap fun p => gB p.1 p.2) (gB l) l := ⟨_, rfl⟩
      replace hRR := Lib.hid hRR
      have g1 : ∀ W, RR.r wr W → ∀ i, W.cell? ⟨w.heap.size, i, none⟩ = #[.slice (some ⟨b1, o1, none⟩) bs.length c1, .slice A2 ws.length c2][i]? := fun W h => cells_row (appX_row (hRR.out ▸ h) hvd rr)
      have g2 : ∀ W, RR.r wr W → ∀ i, W.cell? ⟨w.heap.size + 1 + 1, i, none⟩ = #[.slice A k c, .slice none 0 0][i]? := fun W h => cells_row (appX_row (hRR.out ▸ h) hvt ht)
      have g3 : ∀ W, RR.r wr W → W.cell? ⟨b1, o1 + k, none⟩ = some (.slice A' l.length c') := fun W h => appX_cell (hRR.out ▸ h) hvb hc
      have i1 : decide (k < bs.length) = true := decide_eq_true hlt
      replace hE := Lib.hid hE
      replace hsn := Lib.hid hsn
      replace hps := Lib.hid hps
      replace hpl := Lib.hid hpl
      clear hc
      go_wp2_with fail
      refine region_start (by kernel_rfl) ?_
      refine any_freeT (w := wr) RR (outsAt [(7, outB wr.heap.size l.length l), (8, outLitX wr.heap.size 26 (gB l) l), (9, outX (w.heap.size + 1 + 1 + 1) 26 1 wr.heap.size (.slice A k c) ps.length (ps.flatMap fun p => gB p.1 p.2) (gB l) l)])
        [true, true, true, true, true, true, true, true, true, true] 2 (by kernel_rfl) (by kernel_rfl) (by kernel_rfl) (by kernel_rfl) (by kernel_rfl) (by kernel_rfl) (by kernel_rfl) ?st (Rel.drew _ _) ?walk
      case st => rw [hRR.out]; exact outsAt_stableG (by simp only [List.forall_mem_cons]; exact ⟨outB_stableX (fun g hg => (hvl g hg).2), outLitX_stable (fun g hg => (hvl g hg).2), outX_stable, fun _ h => by cases h⟩)
      case walk =>
        intro K hK
        dsimp only [maskOps]
        repeat (first | (refine free_plainM ?_ (by rfl) (by rfl) (fun W hW _ => ⟨W, ?_, Rel.refl _ W⟩) ?_; rotate_left; (first | (go_simp; with_reducible rfl) | (go_simp; done)); try simp only [Act.put, one_f, outB_f, outNew_f, outI_f, outNew_f, outLitX_f, outX_f, outB_f, outW_f, List.setIfInBounds_toArray, List.set_cons_zero, List.set_cons_succ]) | (refine free_skipM (by rfl) ?_; simp only [Act.put, one_f, outB_f, outNew_f, outI_f, outNew_f, outLitX_f, outX_f, outB_f, outW_f, List.setIfInBounds_toArray, List.set_cons_zero, List.set_cons_succ]))
        first
          | (refine free_plainM (.pointer (some ⟨b1, o1 + k, none⟩)) (by rfl) (by rfl) (fun W hW _ => ⟨W, ?_, Rel.refl _ W⟩) ?_
             · go_simp
               rw [IntWalk.i64_in (k : Int) (by omega), if_pos (by omega)]
               simp
             simp only [Act.put, one_f, outB_f, outNew_f, outI_f, outNew_f, outLitX_f, outX_f, outB_f, outW_f, List.setIfInBounds_toArray, List.set_cons_zero, List.set_cons_succ])
          | skip
        repeat (first | (refine free_plainM ?_ (by rfl) (by rfl) (fun W hW _ => ⟨W, ?_, Rel.refl _ W⟩) ?_; rotate_left; (first | (go_simp; with_reducible rfl) | (go_simp; done)); try simp only [Act.put, one_f, outB_f, outNew_f, outI_f, outNew_f, outLitX_f, outX_f, outB_f, outW_f, List.setIfInBounds_toArray, List.set_cons_zero, List.set_cons_succ]) | (refine free_skipM (by rfl) ?_; simp only [Act.put, one_f, outB_f, outNew_f, outI_f, outNew_f, outLitX_f, outX_f, outB_f, outW_f, List.setIfInBounds_toArray, List.set_cons_zero, List.set_cons_succ]))
        refine free_hardM (outB wr.heap.size l.length l) (by rfl) (by rfl) (fun W hW _ => ?_) (fun p7 => ?_)
        · rw [hRR.out] at hW ⊢
          obtain ⟨p, w', hrun, h1, h2⟩ := run_twin (hby'.grown hW.1 hap) hll
          refine hardAt_valueG (u := .slice p.1 l.length p.2) (w' := w') ?_ ⟨p, rfl, ⟨h1.1, h1.2.mono hW.1.size⟩, appX_ext h2⟩
          exact exec_append (s := .const (.slice none 0 0)) (x := .tmp 19) rfl rfl rfl hrun
        obtain ⟨A7, c7⟩ := p7
        simp only [Act.put, one_f, outB_f, outNew_f, outI_f, outNew_f, outLitX_f, outX_f, outB_f, outW_f, List.setIfInBounds_toArray, List.set_cons_zero, List.set_cons_succ]
        refine free_hardM (outLitX wr.heap.size 26 (gB l) l) (by rfl) (by rfl) (fun W hW hp => ?_) (fun p8 => ?_)
        · rw [hRR.out] at hW ⊢
          have f7 := (hp 7 (by decide)).1
          refine hardAt_litX (A := A7) (c := c7) ?_ hW.1.size f7.1 f7.2
          go_simp
        simp only [Act.put, one_f, outB_f, outNew_f, outI_f, outNew_f, outLitX_f, outX_f, outB_f, outW_f, List.setIfInBounds_toArray, List.set_cons_zero, List.set_cons_succ]
        refine free_hardM (outX (w.heap.size + 1 + 1 + 1) 26 1 wr.heap.size (.slice A k c) ps.length (ps.flatMap fun p => gB p.1 p.2) (gB l) l) (by rfl) (by rfl) (fun W hW hp => ?_) (fun p9 => ?_)
        · rw [hRR.out] at hW ⊢
          obtain ⟨_, A8, c8, hcells, hB8, hF8⟩ := (hp 8 (by decide)).1
          obtain ⟨i0, hi, hz0, hz1, hz2⟩ := info_parts Try.info_bytes
          obtain ⟨v', w', hrun, hD, hR'⟩ := run_append_X (P := Try.prog) (lo := wr.heap.size) (f := gB l) (l := l) W 22 22 i0 _ 24 Try.underlying22 hi hz0 hz1 hz2 rfl (by decide) (hW.2.1 hrow.1) ⟨p8, 0, none⟩ A8 c8 rfl (row_adds hcells) (by simp [gB, Value.oneCell']) hB8 hF8 (fun g hg => (hvl g hg).2) (by have := hpl.out; omega) (by decide) (by have := hW.1.size; omega) hW.1.size
          have hsl := hD
          obtain ⟨_, _, hDD, _⟩ := hsl
          obtain ⟨A', c', rfl, _, _⟩ := own_slice hDD.1
          refine hardAt_valueG (u := .slice A' (ps.length + 1) c') (w' := w') ?_ ⟨(A', c'), rfl, hD, hR'⟩
          exact exec_append (s := .tmp 14) (x := .tmp 21) rfl rfl rfl hrun
        obtain ⟨A9, c9⟩ := p9
        simp only [Act.put, one_f, outB_f, outNew_f, outI_f, outNew_f, outLitX_f, outX_f, outB_f, outW_f, List.setIfInBounds_toArray, List.set_cons_zero, List.set_cons_succ]
        repeat (first | (refine free_plainM ?_ (by rfl) (by rfl) (fun W hW _ => ⟨W, ?_, Rel.refl _ W⟩) ?_; rotate_left; (first | (go_simp; with_reducible rfl) | (go_simp; done)); try simp only [Act.put, one_f, outB_f, outNew_f, outI_f, outNew_f, outLitX_f, outX_f, outB_f, outW_f, List.setIfInBounds_toArray, List.set_cons_zero, List.set_cons_succ]) | (refine free_skipM (by rfl) ?_; simp only [Act.put, one_f, outB_f, outNew_f, outI_f, outNew_f, outLitX_f, outX_f, outB_f, outW_f, List.setIfInBounds_toArray, List.set_cons_zero, List.set_cons_succ]))
        refine free_nilM (hK _ _ fun W hW hF => ?_)
        have hD : DoneX _ _ _ _ _ _ _ _ _ (.slice A9 (ps.length + 1) c9) W := (hF 9).1
        clear hF hK g1 g2 g3
        rw [hRR.out] at hW
        dsimp only [List.drop, List.length_cons, List.length_nil]
        have tW := appX_row hW hvt ht
        have kW := cells_row tW
        have fW := frozen_row tW
        obtain ⟨u, hrW⟩ := hrow.push l (by omega) rfl hD hW.1
        have hBW : Below (w.heap.size + 1 + 1) wr W := (Below.refl _ _).grown hW.1 (by omega) (fun g hg => by have := hvl g hg; omega)
        have hwk := Lib.hid (IntWalk.wrap64_in ((k : Int) + 1) (by omega))
        have IR : TwB bs w1 (w.heap.size + 1 + 1) (.int .i64 ((k : Int) + 1)) (W.setCell ⟨w.heap.size + 1 + 1, 0, none⟩ (.slice A9 (ps.length + 1) c9)) := by
          have hpl := hpl.out
          subst hpl
          exact ⟨ps.length + 1, ps ++ [(l, u)], A9, c9, by omega, rfl, by rw [List.map_append, hps.out, hsn.out]; rfl, row_set tW 0 _, hrW.setCell (p := ⟨w.heap.size + 1 + 1, 0, none⟩) (Nat.lt_succ_self _) (Nat.lt_succ_self _) _, Below.setCell (Below.trans hE.out hBW) (p := ⟨w.heap.size + 1 + 1, 0, none⟩) (Nat.le_refl _) _⟩
        replace IR := Lib.hid IR
        clear hrW hD hW hBW
        go_wp2
        refine QN_in ?_
        go_wp2_with fail
        try rw [hwk.out]
        refine ⟨IR.out, ?_⟩
        simp [intOf]
        omega
    · obtain rfl : k = bs.length := by omega
      rw [List.take_length] at hps
      have zz : w.heap.size + 1 + 1 < wr.heap.size := (Array.getElem?_eq_some_iff.1 ht).1
      have hv0 := own_lt hrow.1
      have hq0 := hrow.low
      have J0 : TwW bs ws w1 (w.heap.size + 1 + 1) (.int .i64 0) wr := ⟨0, ps, [], A, c, none, 0, wr.heap.size, by omega, rfl, hps, rfl, ht, hrow, RowX.nil _, ⟨zz, Nat.le_refl _⟩, fun g hg => (hv0 g hg).2, hq0, hE⟩
      generalize hwm : wr = wm at *
      clear hwm
      replace J0 := Lib.hid J0
      clear hrow hps ht hE hv0 hq0 hk zz hlt
      go_wp2_with fail
      go_loopw [5] (fun i wr => TwW bs ws w1 (w.heap.size + 1 + 1) i wr) (fun i _ => ws.length - (intOf i).toNat)
      case atStart => exact J0.out
      case round =>
        clear kr rr xw
        obtain ⟨k, qs, ps, A1', c1', A, c, base, hk, rfl, hqs, hps, ht, hqr, hrow, ⟨hbase, hbz⟩, hob, hqb, hE⟩ := hrel.ex
        clear hrel J0
        have xw : Below w.heap.size w wr := Below.trans x1 (Below.mono hE (by omega))
        have rr := (hE.block w.heap.size (by omega)).trans r1
        have kr := cells_row rr
        by_cases hlt : k < ws.length
        · have hlt' := hlt
          have hpl : ps.length = k := by
            have := congrArg List.length hps
            rw [List.length_map, List.length_take] at this
            omega
          obtain ⟨b2, o2, rfl, hb2⟩ := hA2 (by omega)
          obtain ⟨A', c', ha, hc, hby⟩ := (HW.out.below xw).get k hlt
          have hll := hwe ws[k] (List.getElem_mem hlt)
          have hsn : ws.take (k + 1) = ws.take k ++ [(ws[k].1, ws[k].2)] := List.take_succ_eq_append_getElem hlt
          generalize ws[k].1 = n at *
          generalize ws[k].2 = l at *
          have hvl := own_lt hrow.1
          have zz : w.heap.size + 1 + 1 < wr.heap.size := (Array.getElem?_eq_some_iff.1 ht).1
          have hap : Apart (.slice A k c) (.slice A' l.length c') := Apart.of_bys hby (fun g hg => by have := hvl g hg; omega)
          have hby' : Bys wr wr.heap.size (.slice A' l.length c') l := hby.more xw.size
          have hvd : (Value.slice A k c).ownBlock ≠ some w.heap.size := fun h => by have := hvl _ h; omega
          have hvt : (Value.slice A k c).ownBlock ≠ some (w.heap.size + 1 + 1) := fun h => by have := hvl _ h; omega
          have hvb : (Value.slice A k c).ownBlock ≠ some b2 := fun h => by have := hvl _ h; omega
          obtain ⟨RR, hRR⟩ : ∃ RR : Rel, RR = appX base 141 2 wr.heap.size (.slice A k c) ps.length (ps.flatMap fun p => gW p.1 p.2) (gW (n, l)) l := ⟨_, rfl⟩
          replace hRR := Lib.hid hRR
          have g1 : ∀ W, RR.r wr W → ∀ i, W.cell? ⟨w.heap.size, i, none⟩ = #[.slice A1 bs.length c1, .slice (some ⟨b2, o2, none⟩) ws.length c2][i]? := fun W h => cells_row (appX_row (hRR.out ▸ h) hvd rr)
          have g2 : ∀ W, RR.r wr W → ∀ i, W.cell? ⟨w.heap.size + 1 + 1, i, none⟩ = #[.slice A1' bs.length c1', .slice A k c][i]? := fun W h => cells_row (appX_row (hRR.out ▸ h) hvt ht)
          have g3 : ∀ W, RR.r wr W → W.cell? ⟨b2, o2 + k * 2, none⟩ = some (.int .i64 n) := fun W h => appX_cell (hRR.out ▸ h) hvb ha
          have g4 : ∀ W, RR.r wr W → W.cell? ⟨b2, o2 + k * 2 + 1, none⟩ = some (.slice A' l.length c') := fun W h => appX_cell (hRR.out ▸ h) hvb hc
          have i1 : decide (k < ws.length) = true := decide_eq_true hlt
          replace hE := Lib.hid hE
          replace hsn := Lib.hid hsn
          replace hps := Lib.hid hps
          replace hqs := Lib.hid hqs
          replace hpl := Lib.hid hpl
          replace hqr := Lib.hid hqr
          replace hqb := Lib.hid hqb
          replace hob := Lib.hid hob
          clear hc ha
          go_wp2_with fail
          refine region_start (by kernel_rfl) ?_
          refine any_freeT (w := wr) RR (outsAt [(14, outB wr.heap.size l.length l), (15, outW wr.heap.size n l), (16, outLitX wr.heap.size 141 (gW (n, l)) l), (17, outX base 141 2 wr.heap.size (.slice A k c) ps.length (ps.flatMap fun p => gW p.1 p.2) (gW (n, l)) l)])
            [true, true, true, true, true, true, true, true, true, true, true, true, true, true, true, true, true, true] 2 (by kernel_rfl) (by kernel_rfl) (by kernel_rfl) (by kernel_rfl) (by kernel_rfl) (by kernel_rfl) (by kernel_rfl) ?st (Rel.drew _ _) ?walk
          case st => rw [hRR.out]; exact outsAt_stableG (by simp only [List.forall_mem_cons]; exact ⟨outB_stableX (fun g hg => (hvl g hg).2), outW_stableX (fun g hg => (hvl g hg).2), outLitX_stable (fun g hg => (hvl g hg).2), outX_stable, fun _ h => by cases h⟩)
          case walk =>
            intro K hK
            dsimp only [maskOps]
            repeat (first | (refine free_plainM ?_ (by rfl) (by rfl) (fun W hW _ => ⟨W, ?_, Rel.refl _ W⟩) ?_; rotate_left; (first | (go_simp; with_reducible rfl) | (go_simp; done)); try simp only [Act.put, one_f, outB_f, outNew_f, outI_f, outNew_f, outLitX_f, outX_f, outB_f, outW_f, List.setIfInBounds_toArray, List.set_cons_zero, List.set_cons_succ]) | (refine free_skipM (by rfl) ?_; simp only [Act.put, one_f, outB_f, outNew_f, outI_f, outNew_f, outLitX_f, outX_f, outB_f, outW_f, List.setIfInBounds_toArray, List.set_cons_zero, List.set_cons_succ]))
            first
              | (refine free_plainM (.pointer (some ⟨b2, o2 + k * 2, none⟩)) (by rfl) (by rfl) (fun W hW _ => ⟨W, ?_, Rel.refl _ W⟩) ?_
                 · go_simp
                   rw [IntWalk.i64_in (k : Int) (by omega), if_pos (by omega)]
                   simp
                 simp only [Act.put, one_f, outB_f, outNew_f, outI_f, outNew_f, outLitX_f, outX_f, outB_f, outW_f, List.setIfInBounds_toArray, List.set_cons_zero, List.set_cons_succ])
              | skip
            repeat (first | (refine free_plainM ?_ (by rfl) (by rfl) (fun W hW _ => ⟨W, ?_, Rel.refl _ W⟩) ?_; rotate_left; (first | (go_simp; with_reducible rfl) | (go_simp; done)); try simp only [Act.put, one_f, outB_f, outNew_f, outI_f, outNew_f, outLitX_f, outX_f, outB_f, outW_f, List.setIfInBounds_toArray, List.set_cons_zero, List.set_cons_succ]) | (refine free_skipM (by rfl) ?_; simp only [Act.put, one_f, outB_f, outNew_f, outI_f, outNew_f, outLitX_f, outX_f, outB_f, outW_f, List.setIfInBounds_toArray, List.set_cons_zero, List.set_cons_succ]))
            first
              | (refine free_plainM (.pointer (some ⟨b2, o2 + k * 2, none⟩)) (by rfl) (by rfl) (fun W hW _ => ⟨W, ?_, Rel.refl _ W⟩) ?_
                 · go_simp
                   rw [IntWalk.i64_in (k : Int) (by omega), if_pos (by omega)]
                   simp
                 simp only [Act.put, one_f, outB_f, outNew_f, outI_f, outNew_f, outLitX_f, outX_f, outB_f, outW_f, List.setIfInBounds_toArray, List.set_cons_zero, List.set_cons_succ])
              | skip
            repeat (first | (refine free_plainM ?_ (by rfl) (by rfl) (fun W hW _ => ⟨W, ?_, Rel.refl _ W⟩) ?_; rotate_left; (first | (go_simp; with_reducible rfl) | (go_simp; done)); try simp only [Act.put, one_f, outB_f, outNew_f, outI_f, outNew_f, outLitX_f, outX_f, outB_f, outW_f, List.setIfInBounds_toArray, List.set_cons_zero, List.set_cons_succ]) | (refine free_skipM (by rfl) ?_; simp only [Act.put, one_f, outB_f, outNew_f, outI_f, outNew_f, outLitX_f, outX_f, outB_f, outW_f, List.setIfInBounds_toArray, List.set_cons_zero, List.set_cons_succ]))
            refine free_hardM (outB wr.heap.size l.length l) (by rfl) (by rfl) (fun W hW _ => ?_) (fun p7 => ?_)
            · rw [hRR.out] at hW ⊢
              obtain ⟨p, w', hrun, h1, h2⟩ := run_twin (hby'.grown hW.1 hap) hll
              refine hardAt_valueG (u := .slice p.1 l.length p.2) (w' := w') ?_ ⟨p, rfl, ⟨h1.1, h1.2.mono hW.1.size⟩, appX_ext h2⟩
              exact exec_append (s := .const (.slice none 0 0)) (x := .tmp 44) rfl rfl rfl hrun
            obtain ⟨A7, c7⟩ := p7
            simp only [Act.put, one_f, outB_f, outNew_f, outI_f, outNew_f, outLitX_f, outX_f, outB_f, outW_f, List.setIfInBounds_toArray, List.set_cons_zero, List.set_cons_succ]
            refine free_hardM (outW wr.heap.size n l) (by rfl) (by rfl) (fun W hW hp => ?_) (fun p7 => ?_)
            · rw [hRR.out] at hW ⊢
              have f7 := (hp 14 (by decide)).1
              refine hardAt_valueG (u := .agg #[.int .i64 n, .slice A7 l.length c7]) (w' := W) ?_ ⟨(A7, c7), rfl, f7, Rel.refl _ W⟩
              go_simp
            obtain ⟨A7, c7⟩ := p7
            simp only [Act.put, one_f, outB_f, outNew_f, outI_f, outNew_f, outLitX_f, outX_f, outB_f, outW_f, List.setIfInBounds_toArray, List.set_cons_zero, List.set_cons_succ]
            refine free_hardM (outLitX wr.heap.size 141 (gW (n, l)) l) (by rfl) (by rfl) (fun W hW hp => ?_) (fun p8 => ?_)
            · rw [hRR.out] at hW ⊢
              have f7 := (hp 15 (by decide)).1
              refine hardAt_litX (A := A7) (c := c7) ?_ hW.1.size f7.1 f7.2
              go_simp
            simp only [Act.put, one_f, outB_f, outNew_f, outI_f, outNew_f, outLitX_f, outX_f, outB_f, outW_f, List.setIfInBounds_toArray, List.set_cons_zero, List.set_cons_succ]
            refine free_hardM (outX base 141 2 wr.heap.size (.slice A k c) ps.length (ps.flatMap fun p => gW p.1 p.2) (gW (n, l)) l) (by rfl) (by rfl) (fun W hW hp => ?_) (fun p9 => ?_)
            · rw [hRR.out] at hW ⊢
              obtain ⟨_, A8, c8, hcells, hB8, hF8⟩ := (hp 16 (by decide)).1
              obtain ⟨i0, hi, hz0, hz1, hz2⟩ := info_parts Try.info_write
              obtain ⟨v', w', hrun, hD, hR'⟩ := run_append_X (P := Try.prog) (lo := wr.heap.size) (f := gW (n, l)) (l := l) W 23 23 i0 _ 32 Try.underlying23 hi hz0 hz1 hz2 rfl (by decide) (hW.2.1 hrow.1) ⟨p8, 0, none⟩ A8 c8 rfl (row_adds hcells) (by simp [gW, Value.oneCell']) hB8 hF8 (fun g hg => (hvl g hg).2) (by have := hpl.out; omega) (by decide) (by have := hW.1.size; omega) hW.1.size
              have hsl := hD
              obtain ⟨_, _, hDD, _⟩ := hsl
              obtain ⟨A', c', rfl, _, _⟩ := own_slice hDD.1
              refine hardAt_valueG (u := .slice A' (ps.length + 1) c') (w' := w') ?_ ⟨(A', c'), rfl, hD, hR'⟩
              exact exec_append (s := .tmp 32) (x := .tmp 47) rfl rfl rfl hrun
            obtain ⟨A9, c9⟩ := p9
            simp only [Act.put, one_f, outB_f, outNew_f, outI_f, outNew_f, outLitX_f, outX_f, outB_f, outW_f, List.setIfInBounds_toArray, List.set_cons_zero, List.set_cons_succ]
            repeat (first | (refine free_plainM ?_ (by rfl) (by rfl) (fun W hW _ => ⟨W, ?_, Rel.refl _ W⟩) ?_; rotate_left; (first | (go_simp; with_reducible rfl) | (go_simp; done)); try simp only [Act.put, one_f, outB_f, outNew_f, outI_f, outNew_f, outLitX_f, outX_f, outB_f, outW_f, List.setIfInBounds_toArray, List.set_cons_zero, List.set_cons_succ]) | (refine free_skipM (by rfl) ?_; simp only [Act.put, one_f, outB_f, outNew_f, outI_f, outNew_f, outLitX_f, outX_f, outB_f, outW_f, List.setIfInBounds_toArray, List.set_cons_zero, List.set_cons_succ]))
            refine free_nilM (hK _ _ fun W hW hF => ?_)
            have hD : DoneX _ _ _ _ _ _ _ _ _ (.slice A9 (ps.length + 1) c9) W := (hF 17).1
            clear hF hK g1 g2 g3 g4
            rw [hRR.out] at hW
            dsimp only [List.drop, List.length_cons, List.length_nil]
            have tW := appX_row hW hvt ht
            have kW := cells_row tW
            have fW := frozen_row tW
            obtain ⟨u, hrW⟩ := hrow.push (n, l) hbz rfl hD hW.1
            have hqW := hqr.out.other hW.1 (fun g hg h => by have := hvl g h; have := hob.out g hg; omega) (fun q hq a n c e hn h => by have := hvl _ h; have := hqb.out q hq a n c e hn; omega)
            have hBW : Below (w.heap.size + 1 + 1) wr W := (Below.refl _ _).grown hW.1 (by omega) (fun g hg => by have := hvl g hg; omega)
            have hwk := Lib.hid (IntWalk.wrap64_in ((k : Int) + 1) (by omega))
            have IR : TwW bs ws w1 (w.heap.size + 1 + 1) (.int .i64 ((k : Int) + 1)) (W.setCell ⟨w.heap.size + 1 + 1, 1, none⟩ (.slice A9 (ps.length + 1) c9)) := by
              have hpl := hpl.out
              subst hpl
              exact ⟨ps.length + 1, qs, ps ++ [((n, l), u)], A1', c1', A9, c9, base, by omega, rfl, hqs.out, by rw [List.map_append, hps.out, hsn.out]; rfl, row_set tW 1 _, hqW.setCell (p := ⟨w.heap.size + 1 + 1, 1, none⟩) (Nat.lt_succ_self _) (Nat.lt_succ_self _) _, hrW.setCell (p := ⟨w.heap.size + 1 + 1, 1, none⟩) hbase hbase _, ⟨hbase, by have := hW.1.size; simp; omega⟩, hob.out, hqb.out, Below.setCell (Below.trans hE.out hBW) (p := ⟨w.heap.size + 1 + 1, 1, none⟩) (Nat.le_refl _) _⟩
            replace IR := Lib.hid IR
            clear hrW hD hW hBW hqW
            go_wp2
            refine QN_in ?_
            go_wp2_with fail
            try rw [hwk.out]
            refine ⟨IR.out, ?_⟩
            simp [intOf]
            omega
        · obtain rfl : k = ws.length := by omega
          rw [List.take_length] at hps
          have zz : w.heap.size + 1 + 1 < wr.heap.size := (Array.getElem?_eq_some_iff.1 ht).1
          have q2 := (hE.block (w.heap.size + 1) (by omega)).trans q1
          have kt := cells_row ht
          have kq := cells_row q2
          have fq := frozen_row q2
          have hB1 := ((hqr.setCell (p := ⟨w.heap.size + 1, 0, none⟩) (by show w.heap.size + 1 < _; omega) (by show w.heap.size + 1 < _; omega) (.slice A1' bs.length c1')).setCell (p := ⟨w.heap.size + 1, 1, none⟩) (by show w.heap.size + 1 < _; omega) (by show w.heap.size + 1 < _; omega) (.slice A ws.length c))
          have hB2 := ((hrow.setCell (p := ⟨w.heap.size + 1, 0, none⟩) (by show w.heap.size + 1 < _; omega) (by show w.heap.size + 1 < _; omega) (.slice A1' bs.length c1')).setCell (p := ⟨w.heap.size + 1, 1, none⟩) (by show w.heap.size + 1 < _; omega) (by show w.heap.size + 1 < _; omega) (.slice A ws.length c))
          have rf := row_set (row_set q2 0 (.slice A1' bs.length c1')) 1 (.slice A ws.length c)
          have kf := cells_row rf
          have bf : Below w.heap.size w ((wr.setCell ⟨w.heap.size + 1, 0, none⟩ (.slice A1' bs.length c1')).setCell ⟨w.heap.size + 1, 1, none⟩ (.slice A ws.length c)) := Below.setCell (Below.setCell xw (p := ⟨w.heap.size + 1, 0, none⟩) (by show _ ≤ w.heap.size + 1; omega) _) (p := ⟨w.heap.size + 1, 1, none⟩) (by show _ ≤ w.heap.size + 1; omega) _
          replace hqr := Lib.hid hqr
          replace hrow := Lib.hid hrow
          replace hB1 := Lib.hid hB1
          replace hB2 := Lib.hid hB2
          replace hE := Lib.hid hE
          replace bf := Lib.hid bf
          replace kf := Lib.hid kf
          clear rf
          go_wp2
          have kf := kf.out
          exact bodyPost_ret (v := diskV A1' bs.length c1' A ws.length c) (by simp [results, Try.results51, go_sem, kf]) rfl ⟨_, rfl, ⟨A1', c1', A, c, rfl, fun W2 hk => ⟨hqs ▸ hB1.out.blsN (Nat.le_refl _) (fun q hq hz => hk q (by omega) hz), hps ▸ hB2.out.wrsN (Nat.le_refl _) (fun q hq hz => hk q (by omega) hz)⟩⟩, bf.out⟩
end Go.Proofs.Yteikcgjhcniiiaa
/- Contracts: the twin of a store. -/
namespace Go.Proofs.Yteikcgjhcniiiaa
set_option linter.unusedSimpArgs false
set_option linter.unusedVariables false
open Go.RowKit

/-- a disk that reads so, from block lo on -/
def outD (lo : Nat) (bs : List (List UInt8)) (ws : List (Int × List UInt8)) : Outs := ⟨(Option Addr × Nat) × (Option Addr × Nat), fun p => diskV p.1.1 bs.length p.1.2 p.2.1 ws.length p.2.2, fun p W => ∀ W2 : World, (∀ q : Addr, lo ≤ q.block → q.block < W.heap.size → W2.cell? q = W.cell? q) → Bls W2 W.heap.size (.slice p.1.1 bs.length p.1.2) bs ∧ Wrs W2 W.heap.size (.slice p.2.1 ws.length p.2.2) ws⟩
theorem outD_f (lo : Nat) (bs : List (List UInt8)) (ws : List (Int × List UInt8)) (A : Option Addr) (c : Nat) (B : Option Addr) (d : Nat) : (outD lo bs ws).f ((A, c), (B, d)) = diskV A bs.length c B ws.length d := rfl
theorem outD_stable (lo : Nat) (bs : List (List UInt8)) (ws : List (Int × List UInt8)) : ∀ p, StableG extRel ((outD lo bs ws).φ p) := fun p W W' he h W2 hk => by
  have he : Ext W W' := he
  have := h W2 (fun q h1 h2 => (hk q h1 (Nat.lt_of_lt_of_le h2 he.size)).trans (World.cell?_of_block (he.block q.block h2)))
  exact ⟨this.1.more he.size, this.2.more he.size⟩
theorem outB_stableE (lo n : Nat) (l : List UInt8) : ∀ p, StableG extRel ((outB lo n l).φ p) := fun p W W' he h => by
  have he : Ext W W' := he
  exact ⟨(h.1.below he).more he.size, h.2⟩
/-- no slice of it is too long to be copied -/
structure Short (S : Sto) : Prop where
  bs : S.bs.length < 1000000
  ws : S.ws.length < 1000000
  be : ∀ l ∈ S.bs, l.length < 1000000
  we : ∀ p ∈ S.ws, p.2.length < 1000000
  now : S.now.length < 1000000
  last : S.last.length < 1000000
/-- a store in new memory (from block lo on): it reads so wherever the cells from there on are the same -/
def TwinS (lo : Nat) (S : Sto) (u : Value) (W : World) : Prop := ∃ A1 c1 A2 c2 A3 c3 A4 c4, u = storeV A1 S.bs.length c1 A2 S.ws.length c2 A3 S.now.length c3 A4 S.last.length c4 ∧ ∀ W2 : World, (∀ q : Addr, lo ≤ q.block → q.block < W.heap.size → W2.cell? q = W.cell? q) → StoAt W2 W.heap.size (.slice A1 S.bs.length c1) (.slice A2 S.ws.length c2) (.slice A3 S.now.length c3) (.slice A4 S.last.length c4) S

set_option maxHeartbeats 2000000 in
set_option maxRecDepth 100000 in
theorem twin8_any (A1 : Option Addr) (n1 c1 : Nat) (A2 : Option Addr) (n2 c2 : Nat) (A3 : Option Addr) (c3 : Nat) (A4 : Option Addr) (c4 : Nat) (S : Sto) (hS : Short S) (w : World) (h : StoAt w w.heap.size (.slice A1 n1 c1) (.slice A2 n2 c2) (.slice A3 S.now.length c3) (.slice A4 S.last.length c4) S) :
    Calls Try.prog 23 #[storeV A1 n1 c1 A2 n2 c2 A3 S.now.length c3 A4 S.last.length c4] w (RetS (TwinS w.heap.size S) w) := by
  have HD := Lib.hid (fun W (hW : Ext w W) => twin3_any A1 n1 c1 A2 n2 c2 S.bs S.ws hS.bs hS.ws hS.be hS.we W (h.ext hW).bs (h.ext hW).ws)
  have HN := Lib.hid (fun W (hW : Ext w W) => run_twin (h.ext hW).now hS.now)
  have HL := Lib.hid (fun W (hW : Ext w W) => run_twin (h.ext hW).last hS.last)
  clear h hS
  go_enter Try.func23, Try.ntmps23
  go_wp2_with fail
  generalize hw1 : (World.alloc (World.alloc _ _) _) = w1
  have x1 : Ext w w1 := by rw [← hw1]; exact (Ext.alloc _ _).trans (Ext.alloc _ _)
  have r1 : w1.heap[w.heap.size]? = some (.cells #[.slice A1 n1 c1, .slice A2 n2 c2, .slice A3 S.now.length c3, .slice A4 S.last.length c4] 28 (0, 0)) := by rw [← hw1]; exact (Below.heap_alloc _ _ _ (by simp)).trans (World.alloc_heap_at _ _ _ rfl)
  have q1 : w1.heap[w.heap.size + 1]? = some (.cells #[.slice none 0 0, .slice none 0 0, .slice none 0 0, .slice none 0 0] 28 (0, 0)) := by rw [← hw1]; exact World.alloc_heap_at _ _ _ (by simp)
  clear hw1
  have g1 : ∀ W, extRel.r w1 W → ∀ i, W.cell? ⟨w.heap.size, i, none⟩ = #[.slice A1 n1 c1, .slice A2 n2 c2, .slice A3 S.now.length c3, .slice A4 S.last.length c4][i]? := fun W h => cells_row (row_ext r1 h)
  refine region_start (by kernel_rfl) ?_
  refine any_freeT (w := w1) extRel (outsAt [(2, outD w1.heap.size S.bs S.ws), (5, outB w1.heap.size S.now.length S.now), (8, outB w1.heap.size S.last.length S.last)])
    [true, true, true, true, true, true, true, true, true] 2 (by kernel_rfl) (by kernel_rfl) (by kernel_rfl) (by kernel_rfl) (by kernel_rfl) (by kernel_rfl) (by kernel_rfl) ?st (Rel.drew _ _) ?walk
  case st => exact outsAt_stableG (by simp only [List.forall_mem_cons]; exact ⟨outD_stable _ _ _, outB_stableE _ _ _, outB_stableE _ _ _, fun _ h => by cases h⟩)
  case walk =>
    intro K hK
    dsimp only [maskOps]
    repeat (first | (refine free_plainM ?_ (by rfl) (by rfl) (fun W hW _ => ⟨W, ?_, Rel.refl _ W⟩) ?_; rotate_left; (first | (go_simp; with_reducible rfl) | (go_simp; done)); try simp only [Act.put, one_f, outB_f, outNew_f, outI_f, outD_f, outB_f, List.setIfInBounds_toArray, List.set_cons_zero, List.set_cons_succ]) | (refine free_skipM (by rfl) ?_; simp only [Act.put, one_f, outB_f, outNew_f, outI_f, outD_f, outB_f, List.setIfInBounds_toArray, List.set_cons_zero, List.set_cons_succ]))
    refine free_hardM (outD w1.heap.size S.bs S.ws) (by rfl) (by rfl) (fun W hW _ => ?_) (fun p => ?_)
    · refine hardAt_callG ?_ ((HD.out W (Ext.trans x1 hW)).mono fun e w' h => ?_)
      · go_simp
      have hW : Ext w1 W := hW
      obtain ⟨u, rfl, ⟨B1, d1, B2, d2, rfl, h1⟩, hB⟩ := h
      exact ⟨((B1, d1), (B2, d2)), rfl, fun W2 hk => h1 W2 (fun q hq hz => hk q (Nat.le_trans hW.size hq) hz), hB⟩
    obtain ⟨⟨B1, d1⟩, ⟨B2, d2⟩⟩ := p
    simp only [Act.put, one_f, outB_f, outNew_f, outI_f, outD_f, outB_f, List.setIfInBounds_toArray, List.set_cons_zero, List.set_cons_succ]
    repeat (first | (refine free_plainM ?_ (by rfl) (by rfl) (fun W hW _ => ⟨W, ?_, Rel.refl _ W⟩) ?_; rotate_left; (first | (go_simp; with_reducible rfl) | (go_simp; done)); try simp only [Act.put, one_f, outB_f, outNew_f, outI_f, outD_f, outB_f, List.setIfInBounds_toArray, List.set_cons_zero, List.set_cons_succ]) | (refine free_skipM (by rfl) ?_; simp only [Act.put, one_f, outB_f, outNew_f, outI_f, outD_f, outB_f, List.setIfInBounds_toArray, List.set_cons_zero, List.set_cons_succ]))
    refine free_hardM (outB w1.heap.size S.now.length S.now) (by rfl) (by rfl) (fun W hW _ => ?_) (fun p => ?_)
    · have hW : Ext w1 W := hW
      obtain ⟨p, w', hrun, h1, h2⟩ := HN.out W (Ext.trans x1 hW)
      refine hardAt_valueG (u := .slice p.1 S.now.length p.2) (w' := w') ?_ ⟨p, rfl, ⟨h1.1, h1.2.mono hW.size⟩, h2⟩
      exact exec_append (s := .const (.slice none 0 0)) (x := .tmp 7) rfl rfl rfl hrun
    obtain ⟨B3, d3⟩ := p
    simp only [Act.put, one_f, outB_f, outNew_f, outI_f, outD_f, outB_f, List.setIfInBounds_toArray, List.set_cons_zero, List.set_cons_succ]
    repeat (first | (refine free_plainM ?_ (by rfl) (by rfl) (fun W hW _ => ⟨W, ?_, Rel.refl _ W⟩) ?_; rotate_left; (first | (go_simp; with_reducible rfl) | (go_simp; done)); try simp only [Act.put, one_f, outB_f, outNew_f, outI_f, outD_f, outB_f, List.setIfInBounds_toArray, List.set_cons_zero, List.set_cons_succ]) | (refine free_skipM (by rfl) ?_; simp only [Act.put, one_f, outB_f, outNew_f, outI_f, outD_f, outB_f, List.setIfInBounds_toArray, List.set_cons_zero, List.set_cons_succ]))
    refine free_hardM (outB w1.heap.size S.last.length S.last) (by rfl) (by rfl) (fun W hW _ => ?_) (fun p => ?_)
    · have hW : Ext w1 W := hW
      obtain ⟨p, w', hrun, h1, h2⟩ := HL.out W (Ext.trans x1 hW)
      refine hardAt_valueG (u := .slice p.1 S.last.length p.2) (w' := w') ?_ ⟨p, rfl, ⟨h1.1, h1.2.mono hW.size⟩, h2⟩
      exact exec_append (s := .const (.slice none 0 0)) (x := .tmp 10) rfl rfl rfl hrun
    obtain ⟨B4, d4⟩ := p
    simp only [Act.put, one_f, outB_f, outNew_f, outI_f, outD_f, outB_f, List.setIfInBounds_toArray, List.set_cons_zero, List.set_cons_succ]
    refine free_nilM (hK _ _ fun W hW hF => ?_)
    have hD := (hF 2).1
    have hN : Bys W W.heap.size (.slice B3 S.now.length d3) S.now ∧ From w1.heap.size (.slice B3 S.now.length d3) := (hF 5).1
    have hL : Bys W W.heap.size (.slice B4 S.last.length d4) S.last ∧ From w1.heap.size (.slice B4 S.last.length d4) := (hF 8).1
    clear hF hK g1
    have hW' : Ext w1 W := hW
    dsimp only [List.drop, List.length_cons, List.length_nil]
    have qW := row_ext q1 hW'
    have kW := cells_row qW
    have fW := frozen_row qW
    have hz : w.heap.size + 1 < w1.heap.size := (Array.getElem?_eq_some_iff.1 q1).1
    have rf := row_set (row_set (row_set (row_set qW 0 (.slice B1 S.bs.length d1)) 1 (.slice B2 S.ws.length d2)) 2 (.slice B3 S.now.length d3)) 3 (.slice B4 S.last.length d4)
    have bf : Below w.heap.size w ((((W.setCell ⟨w.heap.size + 1, 0, none⟩ (.slice B1 S.bs.length d1)).setCell ⟨w.heap.size + 1, 1, none⟩ (.slice B2 S.ws.length d2)).setCell ⟨w.heap.size + 1, 2, none⟩ (.slice B3 S.now.length d3)).setCell ⟨w.heap.size + 1, 3, none⟩ (.slice B4 S.last.length d4)) := by
      have xW : Below w.heap.size w W := Ext.trans x1 hW'
      exact Below.setCell (Below.setCell (Below.setCell (Below.setCell xW (p := ⟨w.heap.size + 1, 0, none⟩) (Nat.le_succ _) _) (p := ⟨w.heap.size + 1, 1, none⟩) (Nat.le_succ _) _) (p := ⟨w.heap.size + 1, 2, none⟩) (Nat.le_succ _) _) (p := ⟨w.heap.size + 1, 3, none⟩) (Nat.le_succ _) _
    have hsz : ((((W.setCell ⟨w.heap.size + 1, 0, none⟩ (.slice B1 S.bs.length d1)).setCell ⟨w.heap.size + 1, 1, none⟩ (.slice B2 S.ws.length d2)).setCell ⟨w.heap.size + 1, 2, none⟩ (.slice B3 S.now.length d3)).setCell ⟨w.heap.size + 1, 3, none⟩ (.slice B4 S.last.length d4)).heap.size = W.heap.size := by simp
    have hA : TwinS w.heap.size S (storeV B1 S.bs.length d1 B2 S.ws.length d2 B3 S.now.length d3 B4 S.last.length d4) ((((W.setCell ⟨w.heap.size + 1, 0, none⟩ (.slice B1 S.bs.length d1)).setCell ⟨w.heap.size + 1, 1, none⟩ (.slice B2 S.ws.length d2)).setCell ⟨w.heap.size + 1, 2, none⟩ (.slice B3 S.now.length d3)).setCell ⟨w.heap.size + 1, 3, none⟩ (.slice B4 S.last.length d4)) := by
      refine ⟨B1, d1, B2, d2, B3, d3, B4, d4, rfl, fun W2 hk => ?_⟩
      rw [hsz] at hk ⊢
      have hk' : ∀ q : Addr, w1.heap.size ≤ q.block → q.block < W.heap.size → W2.cell? q = W.cell? q := fun q hq hl => (hk q (by omega) hl).trans (World.cell?_of_block ((Below.heap_setCell _ _ _ _ (by show q.block ≠ w.heap.size + 1; omega)).trans ((Below.heap_setCell _ _ _ _ (by show q.block ≠ w.heap.size + 1; omega)).trans ((Below.heap_setCell _ _ _ _ (by show q.block ≠ w.heap.size + 1; omega)).trans (Below.heap_setCell _ _ _ _ (by show q.block ≠ w.heap.size + 1; omega))))))
      exact ⟨(hD W2 hk').1, (hD W2 hk').2, hN.1.keepN hN.2 hk', hL.1.keepN hL.2 hk'⟩
    have kf := Lib.hid (cells_row rf)
    replace hA := Lib.hid hA
    replace bf := Lib.hid bf
    clear rf hD hsz hN hL
    go_wp2
    refine QN_in ?_
    go_wp2
    have kf := kf.out
    exact bodyPost_ret (v := storeV B1 S.bs.length d1 B2 S.ws.length d2 B3 S.now.length d3 B4 S.last.length d4) (by simp [results, Try.results23, go_sem, kf]) rfl ⟨_, rfl, hA.out, bf.out⟩
end Go.Proofs.Yteikcgjhcniiiaa
/- Contracts: the document's node at a block of a store. -/
namespace Go.Proofs.Yteikcgjhcniiiaa
set_option linter.unusedSimpArgs false
set_option linter.unusedVariables false
open Go.RowKit

/-- the node at a block that is referred to -/
def nodeAt (S : Sto) (a : Nat) : Option (Int × List It) := if (S.now[a]?.getD 0).toNat = 0 then none else nodeRead (seenB S a)
/-- such a store has tables, blocks and writes as it has to -/
theorem storeMay_len {S : Sto} (h : storeMay S = true) : S.bs.length = 256 ∧ S.ws.length ≤ 4096 ∧ S.now.length = 256 ∧ S.last.length = 256 := by
  unfold storeMay diskMay headD tabMay at h
  simp at h
  omega
/-- what reading a node of a store tells: the node, and that it is one -/
def Node8P (lo : Nat) (q : Option (Int × List It)) (u : Value) (W : World) : Prop :=
  match q with
  | none => u = .tuple #[nodeV 0 none 0 0, .bool false]
  | some (lvl, xs) => ∃ A c, u = .tuple #[nodeV lvl A xs.length c, .bool true] ∧ ItsF lo W (.slice A xs.length c) xs

abbrev noNode8 : Value := .tuple #[nodeV 0 none 0 0, .bool false]

set_option maxHeartbeats 4000000 in
theorem read8_out (A1 : Option Addr) (n1 c1 : Nat) (A2 : Option Addr) (n2 c2 : Nat) (A3 : Option Addr) (n3 c3 : Nat) (A4 : Option Addr) (n4 c4 : Nat) (a : Int) (ha : a < 8 ∨ 256 ≤ a) (w : World) :
    Calls Try.prog 87 #[storeV A1 n1 c1 A2 n2 c2 A3 n3 c3 A4 n4 c4, .int .i64 a] w (RetS (Node8P w.heap.size none) w) := by
  go_enter Try.func87, Try.ntmps87
  go_wp2
  all_goals first | (exfalso; omega) | skip
  all_goals
    generalize hwf : (World.alloc _ _) = wf
    have rf : wf.heap[w.heap.size + 1]? = some (.cells #[.int .i64 0, .slice none 0 0] 107 (0, 0)) := by rw [← hwf]; exact World.alloc_heap_at _ _ _ (by simp)
    have bf : Below w.heap.size w wf := by rw [← hwf]; exact (by repeat' (first | with_reducible exact Below.refl _ _ | with_reducible assumption | with_reducible apply Below.drew | with_reducible apply below_drewN | with_reducible refine Below.alloc ?_ ?_ _ | with_reducible refine Below.setCell ?_ ?_ _ | (simp; done) | (simp; omega) | omega))
    have kf := cells_row rf
    exact bodyPost_ret (v := noNode8) (by simp [results, Try.results87, go_sem, kf]) rfl ⟨_, rfl, rfl, bf⟩

set_option maxHeartbeats 4000000 in
theorem read8_any (A1 : Option Addr) (n1 c1 : Nat) (A2 : Option Addr) (n2 c2 : Nat) (A3 : Option Addr) (n3 c3 : Nat) (A4 : Option Addr) (n4 c4 : Nat) (S : Sto) (hS : storeMay S = true) (a : Nat) (ha : 8 ≤ a) (ha2 : a < 256) (w : World) (h : StoAt w w.heap.size (.slice A1 n1 c1) (.slice A2 n2 c2) (.slice A3 n3 c3) (.slice A4 n4 c4) S) :
    Calls Try.prog 87 #[storeV A1 n1 c1 A2 n2 c2 A3 n3 c3 A4 n4 c4, .int .i64 (a : Int)] w (RetS (Node8P w.heap.size (nodeAt S a)) w) := by
  obtain ⟨hl1, hl2, hl3, hl4⟩ := storeMay_len hS
  obtain ⟨hn3, hc3, hm3, hA3⟩ := h.now.at_
  obtain ⟨b3, o3, rfl, hb3⟩ := hA3 (by omega)
  have hcell : w.cell? ⟨b3, o3 + a, none⟩ = some (.int .u8 ((S.now[a]?.getD 0).toNat : Int)) := by
    obtain ⟨A', c', e, _, _, hr⟩ := h.now
    cases e
    obtain ⟨b', off', e, _, hc⟩ := hr.2 (by omega)
    cases e
    exact hc a _ (by rw [List.getElem?_map, List.getElem?_eq_getElem (by omega)]; rfl)
  have hN : nodeAt S a = if (S.now[a]?.getD 0).toNat = 0 then none else nodeRead (seenB S a) := rfl
  rw [hN]
  have HS := Lib.hid (fun W (hW : Ext w W) => seen_any A1 n1 c1 A2 n2 c2 S a (by omega) hl2 W (h.ext hW).bs (h.ext hW).ws)
  have HR := Lib.hid (fun v W (hv : Bys W W.heap.size v (seenB S a)) => nreadr_any v (seenB S a) W hv)
  generalize seenB S a = l at *
  generalize (S.now[a]?.getD 0).toNat = nw at *
  generalize nodeRead l = R at *
  have hn : n3 = 256 := by rw [hn3, hl3]
  have hbw : b3 ≠ w.heap.size := by omega
  clear hN h hn3 hS hl1 hl2 hl3 hl4 hA3
  subst hn
  have hd1 : decide ((a : Int) < 8) = false := decide_eq_false (by omega)
  have hd2 : decide ((a : Int) ≥ 256) = false := decide_eq_false (by omega)
  by_cases h0 : nw = 0
  · subst h0
    rw [if_pos rfl]
    clear HS HR
    go_enter Try.func87, Try.ntmps87
    go_wp2
    generalize hwf : (World.alloc _ _) = wf
    have rf : wf.heap[w.heap.size + 1]? = some (.cells #[.int .i64 0, .slice none 0 0] 107 (0, 0)) := by rw [← hwf]; exact World.alloc_heap_at _ _ _ (by simp)
    have bf : Below w.heap.size w wf := by rw [← hwf]; exact (by repeat' (first | with_reducible exact Below.refl _ _ | with_reducible assumption | with_reducible apply Below.drew | with_reducible apply below_drewN | with_reducible refine Below.alloc ?_ ?_ _ | with_reducible refine Below.setCell ?_ ?_ _ | (simp; done) | (simp; omega) | omega))
    have kf := cells_row rf
    exact bodyPost_ret (v := noNode8) (by simp [results, Try.results87, go_sem, kf]) rfl ⟨_, rfl, rfl, bf⟩
  · rw [if_neg h0]
    have hne : ((nw : Int) == 0) = false := by rw [beq_eq_false_iff_ne]; omega
    clear h0
    go_enter Try.func87, Try.ntmps87
    go_wp2_with fail
    generalize hw1 : (World.alloc (World.alloc _ _) _) = w1
    have x1 : Ext w w1 := by rw [← hw1]; exact (Ext.alloc _ _).trans (Ext.alloc _ _)
    have q1 : w1.heap[w.heap.size + 1]? = some (.cells #[.int .i64 0, .slice none 0 0] 107 (0, 0)) := by rw [← hw1]; exact World.alloc_heap_at _ _ _ (by simp)
    clear hw1
    refine (HS.out _ x1).mono ?_
    rintro e w2 ⟨u, rfl, hu, hB⟩
    have x2 := x1.trans hB
    have q2 := row_ext q1 hB
    clear hB q1 HS
    go_wp2_with fail
    refine (HR.out _ _ hu).mono ?_
    clear HR hu
    rintro e w3 ⟨u3, rfl, hu3, hB⟩
    have x3 := x2.trans hB
    have q3 := row_ext q2 hB
    have s3 : w.heap.size + 1 < w3.heap.size := (Array.getElem?_eq_some_iff.1 q3).1
    have s2 : w.heap.size + 1 < w2.heap.size := (Array.getElem?_eq_some_iff.1 q2).1
    have k3 := cells_row q3
    have f3 := frozen_row q3
    have x3' : Below w.heap.size w w3 := x3
    clear hB q2
    rcases R with _ | ⟨lvl, xs⟩
    · obtain ⟨er, hne2, rfl⟩ := hu3
      have hne3 : (er == 0) = false := by rw [beq_eq_false_iff_ne]; exact hne2
      go_wp2
      generalize hwf : (World.alloc _ _) = wf
      have rf : wf.heap[w.heap.size + 1]? = some (.cells #[.int .i64 0, .slice none 0 0] 107 (0, 0)) := by rw [← hwf]; exact (Below.heap_alloc _ _ _ (by simpa using s3)).trans (row_set (row_set q3 0 _) 1 _)
      have bf : Below w.heap.size w wf := by rw [← hwf]; exact (by repeat' (first | with_reducible exact Below.refl _ _ | with_reducible assumption | with_reducible apply Below.drew | with_reducible apply below_drewN | with_reducible refine Below.alloc ?_ ?_ _ | with_reducible refine Below.setCell ?_ ?_ _ | (simp; done) | (simp; omega) | omega))
      have kf := cells_row rf
      exact bodyPost_ret (v := noNode8) (by simp [results, Try.results87, go_sem, kf, hne3]) rfl ⟨_, rfl, rfl, bf⟩
    · obtain ⟨A, c, rfl, hi⟩ := hu3
      go_wp2
      generalize hwf : (World.alloc _ _) = wf
      have rf : wf.heap[w.heap.size + 1]? = some (.cells #[.int .i64 lvl, .slice A xs.length c] 107 (0, 0)) := by rw [← hwf]; exact (Below.heap_alloc _ _ _ (by simpa using s3)).trans (row_set (row_set q3 0 _) 1 _)
      have bf : Below w.heap.size w wf := by rw [← hwf]; exact (by repeat' (first | with_reducible exact Below.refl _ _ | with_reducible assumption | with_reducible apply Below.drew | with_reducible apply below_drewN | with_reducible refine Below.alloc ?_ ?_ _ | with_reducible refine Below.setCell ?_ ?_ _ | (simp; done) | (simp; omega) | omega))
      have hfi : ItsF w2.heap.size wf (.slice A xs.length c) xs := by
        refine hi.keep (by rw [← hwf]; simp) (fun p h1 h2 => ?_)
        rw [← hwf, World.cell?_alloc_lt _ _ _ (by simpa using h2), World.cell?_setCell_other _ _ _ _ (fun e => by subst e; simp at h1; omega), World.cell?_setCell_other _ _ _ _ (fun e => by subst e; simp at h1; omega)]
      have kf := cells_row rf
      exact bodyPost_ret (v := .tuple #[nodeV lvl A xs.length c, .bool true]) (by simp [results, Try.results87, go_sem, kf]) rfl ⟨_, rfl, ⟨A, c, rfl, hfi.mono (by omega)⟩, bf⟩
end Go.Proofs.Yteikcgjhcniiiaa
