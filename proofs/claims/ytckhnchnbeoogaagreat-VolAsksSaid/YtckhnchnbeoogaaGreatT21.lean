/- Texts KMark, KItems, KAll, joined. -/
import Derived.Test.YtckhnchnbeoogaaGreatT10
import Derived.Test.YtckhnchnbeoogaaGreatT11
import Derived.Test.YtckhnchnbeoogaaGreatT17
import Derived.Test.YtckhnchnbeoogaaGreatT20
/- Contracts: the document counts by recursion. -/
namespace Go.Proofs.YtckhnchnbeoogaaGreat
set_option linter.unusedSimpArgs false
set_option linter.unusedVariables false
open Go.RowKit

theorem mark_ret {R : Ending → World → Prop} {a : Act} {W : World} (hd : a.defers = []) (hR : R (.returned (.tuple #[])) W) : bodyPost Tryz.prog Tryz.f108 R .ret a W := by
  refine bodyPost_ret (v := .tuple #[]) ?_ hd hR
  simp [results, Tryz.results108, go_sem]

set_option maxHeartbeats 4000000 in
set_option maxRecDepth 100000 in
theorem mark_any (p : KP) (h : Nat) (HM : ∀ h' : Nat, h = h' + 1 → MarkC p h') : MarkC p h := by
  intro a xs w f rb mb refs met C hK hT hn hf hR2 hr hm hF hC
  have ha2 : a < 256 := hT.2.1
  have hmc := arrI_get met ha2
  rw [← List.getElem?_toArray] at hmc
  have km := cells_row hm
  have fm := frozen_row hm
  by_cases h0 : met a = 0
  case neg =>
    have hd1 : decide ((met a : Int) > 0) = true := decide_eq_true (by omega)
    have hd2 : decide (0 < met a) = true := decide_eq_true (by omega)
    have HQ : MarkQ p rb mb a refs met w (.returned (.tuple #[])) w := ⟨rfl, Kept.refl _ _ _, refs, met, hr, hm, Mark.met (decide_eq_true (by omega))⟩
    replace HQ := Lib.hid HQ
    clear hK hT hn hf hR2 hr hm hF HM h0
    go_enter Tryz.func108, Tryz.ntmps108
    go_wp2
    exact mark_ret rfl HQ.out
  case pos =>
    have hd1 : decide ((met a : Int) > 0) = false := decide_eq_false (by omega)
    have hd2 : decide (0 < met a) = false := decide_eq_false (by omega)
    obtain ⟨v, hv⟩ := Option.isSome_iff_exists.1 hf
    obtain ⟨n, lvl, xs', A, c, fk, lk, b, e1, _, _, hn', rfl, hits, hspan, hclo⟩ := hK.known _ _ hv
    obtain rfl : a = n := by omega
    rw [hn] at hn'
    simp only [Option.some.injEq, Prod.mk.injEq] at hn'
    obtain ⟨e2, rfl⟩ := hn'
    obtain rfl : h = lvl := by omega
    have hsp : (spanS p.S h xs).isSome = true := by
      obtain ⟨_, _, l9, x9, h9, s9⟩ := hT
      rw [hn] at h9
      simp only [Option.some.injEq, Prod.mk.injEq] at h9
      obtain ⟨e9, rfl⟩ := h9
      obtain rfl : h = l9 := by omega
      exact s9
    have hkids : 0 < h → ∀ y ∈ xs, (f y.r).isSome = true := hclo (by rw [hspan.1, hsp])
    obtain ⟨hmay, hxs, -⟩ := nodeAt_may hn
    have hlen : xs.length ≤ 5 := by unfold nodeMay headB at hmay; simp at hmay; omega
    obtain ⟨k0, k1, -⟩ := hK.arr.cells ha2 (lvl := h) (A := A) (n := xs.length) (c := c) (fk := fk) (lk := lk) (d := true) (b := b) (by rw [hv]; rfl)
    have kk := cells_row hK.row
    have hlow := hK.low
    have hA := hits.its.at_.2.2.2
    have hset := row_set hm a (.int .i64 (1 : Nat))
    rw [arrI_set met ha2 1] at hset
    have hz1 : p.kb < w.heap.size := by omega
    have hz2 : p.sb < w.heap.size := by omega
    have hz3 : rb < w.heap.size := (Array.getElem?_eq_some_iff.1 hr).1
    have hz4 : mb < w.heap.size := (Array.getElem?_eq_some_iff.1 hm).1
    have n1 := hR2.km
    have n2 := hR2.sm
    have n3 := hR2.ne
    replace hset : (w.setCell ⟨mb, a, none⟩ (.int .i64 1)).heap[mb]? = some (.cells (arrI (met1 met a)).toArray 3 (0, 0)) := hset
    replace hK := Lib.hid hK
    replace hT := Lib.hid hT
    replace hn := Lib.hid hn
    replace hF := Lib.hid hF
    replace hits := Lib.hid hits
    replace hsp := Lib.hid hsp
    replace hkids := Lib.hid hkids
    replace hxs := Lib.hid hxs
    replace hR2 := Lib.hid hR2
    replace h0 := Lib.hid h0
    clear hv hclo hspan hmay hf e1 e2
    go_enter Tryz.func108, Tryz.ntmps108
    go_upto_region 3 with fail
    generalize hw1 : World.alloc (World.setCell w _ _) _ = w1
    have kp1 : Kept rb mb w w1 := by
      rw [← hw1]
      refine ⟨rfl, rfl, rfl, by simp, fun k hk h1 h2 => ?_⟩
      rw [Below.heap_alloc _ _ _ (by simpa using hk)]
      exact Below.heap_setCell _ _ _ _ h2
    have I0 : MkI p h xs A c a w rb mb refs met (.int .i64 0) w1 := by
      refine ⟨0, refs, met1 met a, refs, Nat.zero_le _, rfl, kp1, by rw [← hw1]; simp, by rw [← hw1]; exact World.alloc_heap_at _ _ _ (by simp), ?_, ?_, fun b => by rw [rsTo_zero]; rfl, ?_⟩
      · rw [← hw1, Below.heap_alloc _ _ _ (by simpa using hz3), Below.heap_setCell _ _ _ _ n3]
        exact hr
      · rw [← hw1, Below.heap_alloc _ _ _ (by simpa using hz4)]
        exact hset
      · rw [metB_met1, pushTo_zero]
        exact Mark.nil
    replace I0 := Lib.hid I0
    clear hw1 kp1 hset k0 k1 kk km fm hmc
    replace hr := Lib.hid (arrI_row hr)
    replace hm := Lib.hid (arrI_row hm)
    go_wp2_with fail
    go_loopw [9] (fun i wr => MkI p h xs A c a w rb mb refs met i wr) (fun i _ => xs.length - (intOf i).toNat)
    case atStart => exact I0.out
    case round =>
      obtain ⟨k, rfk, mtk, rk, hk, rfl, kp, hsz, rn, rr, rm, hrf, hmk⟩ := hrel.ex
      clear hrel I0
      have kn := cells_row rn
      by_cases hlt : k < xs.length
      · have hlt' := hlt
        obtain ⟨b9, off, rfl, hb9⟩ := hA (by omega)
        obtain ⟨A', c', -, -, -, d3, -, -⟩ := (kp.its hr.out hm.out hits.out).its.item k hlt'
        obtain ⟨⟨-, -, -, ⟨hr1, hr3⟩, -⟩, -⟩ := hxs.out xs[k] (List.getElem_mem hlt')
        have HMEM := Lib.hid (List.getElem_mem hlt')
        have HSK := Lib.hid (fun hh => pushTo_skip (lvl := h) hlt' hh)
        have HPU := Lib.hid (fun hh h' => pushTo_push (lvl := h) hlt' hh h')
        have HRS := Lib.hid (fun hh => rsTo_skip hlt' hh hrf)
        have HRB := Lib.hid (fun hh => rsTo_bump hlt' hh hrf)
        have hfew := Lib.hid (few_at hF.out hn.out h0.out ha2 hmk hrf)
        generalize hxk : xs[k] = x at d3 hr1 hr3 HMEM HSK HPU HRS HRB
        have HXE : Hid (xs[k] = x) := Lib.hid hxk
        clear hxk
        obtain ⟨r, hrr⟩ := Int.eq_ofNat_of_zero_le hr1
        rw [hrr] at d3 hr3
        have hr4 : r < 256 := by omega
        rw [hrr, Int.toNat_natCast] at HSK HPU HRS HRB
        clear hr1 hr3
        replace hrr := Lib.hid hrr
        replace hrf := Lib.hid hrf
        replace hmk := Lib.hid hmk
        have hc1 : decide (k < xs.length) = true := decide_eq_true hlt
        have hwk := Lib.hid (IntWalk.wrap64_in ((k : Int) + 1) (by omega))
        rcases Nat.eq_zero_or_pos r with hz | hz
        · have hq1 : ((r : Int) == 0) = true := by rw [beq_iff_eq]; omega
          have hq2 : decide (r = 0) = true := decide_eq_true hz
          have IR : MkI p h xs (some ⟨b9, off, none⟩) c a w rb mb refs met (.int .i64 ((k : Int) + 1)) wr := ⟨k + 1, rfk, mtk, rk, hlt', rfl, kp, hsz, rn, rr, rm, HRS.out hz, by rw [HSK.out (.inl hz)]; exact hmk.out⟩
          replace IR := Lib.hid IR
          replace hz := Lib.hid hz
          go_wp2_with fail
          try rw [hwk.out]
          refine ⟨IR.out, ?_⟩
          simp [intOf]
          omega
        · have hq1 : ((r : Int) == 0) = false := by rw [beq_eq_false_iff_ne]; omega
          have hq2 : decide (r = 0) = false := decide_eq_false (by omega)
          have hr00 : ¬ r = 0 := by omega
          have hgk := arrI_get rfk hr4
          rw [← List.getElem?_toArray] at hgk
          have kr := cells_row rr
          have fr := frozen_row rr
          have hw64 : wrap64 ((rfk r : Int) + 1) = (rfk r : Int) + 1 := IntWalk.wrap64_in _ (by
            have h1 := hfew.out r
            have h2 := rsum_all p.S (metB mtk) r
            omega)
          have hrf1 := HRB.out hr00
          have hfw := few_at hF.out hn.out h0.out ha2 hmk.out hrf1
          have kp3 := kp.set (b := rb) (i := r) (.inl rfl) (.int .i64 ((rfk r : Int) + 1))
          have rr3 := row_set rr r (.int .i64 ((rfk r : Int) + 1))
          rw [arrI_bump rfk hr4] at rr3
          have rm3 := (Below.heap_setCell wr ⟨rb, r, none⟩ (.int .i64 ((rfk r : Int) + 1)) mb (fun e => n3 e.symm)).trans rm
          have rn3 := (Below.heap_setCell wr ⟨rb, r, none⟩ (.int .i64 ((rfk r : Int) + 1)) w.heap.size (show w.heap.size ≠ rb by omega)).trans rn
          have hs3 : w.heap.size < (wr.setCell ⟨rb, r, none⟩ (.int .i64 ((rfk r : Int) + 1))).heap.size := by simpa using hsz
          replace hfw := Lib.hid hfw
          replace hrf1 := Lib.hid hrf1
          replace hr00 := Lib.hid hr00
          go_upto_region 8 with fail
          generalize hw3 : World.setCell wr _ _ = w3 at *
          clear hw3 kn kr fr hgk hz d3 hw64
          have kn := cells_row rn3
          rcases Nat.eq_zero_or_pos h with hv0 | hv0
          · have hq3 : decide ((h : Int) > 0) = false := decide_eq_false (by omega)
            have hq4 : decide (0 < h) = false := decide_eq_false (by omega)
            have IR : MkI p h xs (some ⟨b9, off, none⟩) c a w rb mb refs met (.int .i64 ((k : Int) + 1)) w3 := ⟨k + 1, bump rfk r, mtk, rk, hlt', rfl, kp3, hs3, rn3, rr3, rm3, hrf1.out, by rw [HSK.out (.inr hv0)]; exact hmk.out⟩
            replace IR := Lib.hid IR
            replace hv0 := Lib.hid hv0
            go_wp2_with fail
            try rw [hwk.out]
            refine ⟨IR.out, ?_⟩
            simp [intOf]
            omega
          · have hq3 : decide ((h : Int) > 0) = true := decide_eq_true (by omega)
            have hq4 : decide (0 < h) = true := decide_eq_true hv0
            obtain ⟨h', hh⟩ : ∃ h', h = h' + 1 := ⟨h - 1, by omega⟩
            have hone := span_one hsp.out x HMEM.out
            rw [hh] at hone
            obtain ⟨r', e5, e6, e7, ys, e8, e9⟩ := one_tree hone
            obtain rfl : r = r' := by have := hrr.out; omega
            have hKw := hK.out.kept kp3 hr.out hm.out ⟨hR2.out.kr, hR2.out.km, hR2.out.sr, hR2.out.sm, hR2.out.br, hR2.out.bm⟩
            have hfr := hkids.out hv0 x HMEM.out
            rw [hrr.out] at hfr
            have hCall := Lib.hid (HM h' hh r ys w3 f rb mb (bump rfk r) mtk C hKw ⟨e6, e7, h', ys, e8, e9⟩ e8 hfr hR2.out rr3 rm3 hfw.out hC)
            obtain ⟨A8, c8, -, -, -, d3, -, -⟩ := (kp3.its hr.out hm.out hits.out).its.item k hlt'
            rw [HXE.out, hrr.out] at d3
            replace hv0 := Lib.hid hv0
            clear hKw hfr hone e5 e6 e7 e8 e9 rr3 rm3 hh
            go_wp2_with fail
            refine hCall.out.mono ?_
            clear hCall
            rintro e w4 ⟨rfl, kp4, refs', met', rr4, rm4, hmk4⟩
            obtain ⟨hm5, hr5⟩ := hmk4.sub hrf1.out
            have kp5 := kp3.trans kp4
            have rn5 := (kp4.block w.heap.size hs3 (by omega) (by omega)).trans rn3
            have IR : MkI p h xs (some ⟨b9, off, none⟩) c a w rb mb refs met (.int .i64 ((k : Int) + 1)) w4 := ⟨k + 1, refs', met', _, hlt', rfl, kp5, Nat.lt_of_lt_of_le hs3 kp4.size, rn5, rr4, rm4, hr5, by
              rw [HPU.out hr00.out hv0.out]
              exact hmk.out.trans hm5⟩
            replace IR := Lib.hid IR
            clear rr4 rm4 hmk4 hm5 hr5 kp5 kp4 rn5
            go_wp2_with fail
            try rw [hwk.out]
            refine ⟨IR.out, ?_⟩
            simp [intOf]
            omega
      · have hke : k = xs.length := by omega
        subst hke
        have hkd : pushTo h xs xs.length = kidsS p.S a := by
          unfold pushTo kidsS
          rw [hn.out, rsTo_all hn.out]
          simp only
          by_cases hv : 0 < h
          · rw [if_pos hv, if_pos (by omega)]
          · rw [if_neg hv, if_neg (by omega)]
        rw [hkd] at hmk
        have HQ : MarkQ p rb mb a refs met w (.returned (.tuple #[])) wr := ⟨rfl, kp, rfk, mtk, rr, rm, Mark.up (decide_eq_false (by have := h0.out; omega)) ha2 hmk fun b => by rw [hrf b, rsTo_all hn.out]⟩
        replace HQ := Lib.hid HQ
        replace hmk := Lib.hid hmk
        replace hrf := Lib.hid hrf
        replace kp := Lib.hid kp
        clear rr rm hkd
        go_wp2
        exact mark_ret rfl HQ.out
theorem mark_all (p : KP) : ∀ h : Nat, MarkC p h
  | 0 => mark_any p 0 fun _ e => by omega
  | h + 1 => mark_any p (h + 1) fun h' e => by
    obtain rfl : h = h' := by omega
    exact mark_all p h
end Go.Proofs.YtckhnchnbeoogaaGreat
/- Contracts: the document's items of a tree. -/
namespace Go.Proofs.YtckhnchnbeoogaaGreat
set_option linter.unusedSimpArgs false
set_option linter.unusedVariables false
open Go.RowKit

def outIts (lo n : Nat) (xs : List It) : Outs := ⟨Option Addr × Nat, fun p => .slice p.1 n p.2, fun p W => ItsF lo W (.slice p.1 n p.2) xs⟩
theorem outIts_f (lo n : Nat) (xs : List It) (A : Option Addr) (c : Nat) : (outIts lo n xs).f (A, c) = .slice A n c := rfl
theorem outIts_stable (lo n : Nat) (xs : List It) : ∀ p, Stable ((outIts lo n xs).φ p) := fun p W W' he h => ItsF.ext h he
theorem hardAt_callE {P : Program} {o : Oper} {a : Act} {W : World} {hh : Outs} {f : FuncId} {args : Array Value} (hr : (execOp a.eval o).run P W = .ok (.enter f args) W)
    (hc : Calls P f args W fun e w'' => ∃ p, e = .returned (hh.f p) ∧ hh.φ p w'' ∧ Ext W w'') : hardAtG extRel P o a W hh := by
  unfold hardAtG; rw [hr]; exact ⟨Ext.refl W, hc⟩
theorem cells5_one {ps : List (It × Value)} (h : ∀ p ∈ ps, ∃ A c, p.2 = .slice A p.1.val.length c) : ∀ u ∈ cells5 ps, u.oneCell' = true := by
  induction ps with
  | nil => intro u hu; cases hu
  | cons p r ih =>
    intro u hu
    obtain ⟨A, c, e⟩ := h p (List.mem_cons_self)
    simp only [cells5, List.mem_cons] at hu
    rcases hu with rfl | rfl | rfl | rfl | rfl | hu
    · rfl
    · rfl
    · rfl
    · rfl
    · rw [e]; rfl
    · exact ih (fun q hq => h q (List.mem_cons_of_mem _ hq)) u hu
theorem Row5.extend {base lo lo2 : Nat} {w W : World} {v v' : Value} {ps qs : List (It × Value)} (h : Row5 base lo w v ps) (hq : ∀ p ∈ qs, ((∃ A c, p.2 = .slice A p.1.val.length c) ∧ From lo p.2) ∧ Bys w w.heap.size p.2 p.1.val ∧ Apart v p.2) (hl : lo2 = w.heap.size)
    (hown : W.ownsRow base 38 5 v' (ps.length + qs.length) (cells5 ps ++ cells5 qs)) (hD : v'.ownBlock = v.ownBlock ∨ ∃ g, v'.ownBlock = some g ∧ lo2 ≤ g) (hg : w.grownBy W v.ownBlock) : Row5 base lo W v' (ps ++ qs) := by
  subst hl
  refine ⟨by rw [cells5_append, List.length_append]; exact hown, ?_⟩
  have key : ∀ u l, Bys w w.heap.size u l → Apart v u → Bys W W.heap.size u l ∧ Apart v' u := by
    intro u l hu hau
    refine ⟨hu.grown hg hau, fun a n c e hn => ?_⟩
    rcases hD with h1 | ⟨g, h1, h2⟩
    · rw [h1]; exact hau a n c e hn
    · rw [h1]
      intro hx
      simp only [Option.some.injEq] at hx
      obtain ⟨A', c', e', _, _, hr⟩ := hu
      rw [e] at e'
      simp only [Value.slice.injEq] at e'
      obtain ⟨e1, e2, _⟩ := e'
      obtain ⟨b, off, e3, hbb, _⟩ := hr.2 (by omega)
      rw [← e1] at e3
      simp only [Option.some.injEq] at e3
      rw [e3] at hx
      simp at hx
      omega
  intro p hp
  rcases List.mem_append.1 hp with hp | hp
  · have := h.2 p hp
    exact ⟨this.1, key _ _ this.2.1 this.2.2⟩
  · have := hq p hp
    exact ⟨this.1, key _ _ this.2.1 this.2.2⟩
theorem items_len {S : Sto} : ∀ (h : Nat) (xs : List It), xs.length ≤ 5 → (itemsS S h xs).length ≤ 5 ^ (h + 1)
  | 0, xs, hl => by simpa [itemsS] using hl
  | h + 1, xs, hl => by
    rw [items_succ]
    have key : ∀ l : List It, (l.flatMap fun y => match nodeAt S y.r.toNat with | none => [] | some (_, ys) => itemsS S h ys).length ≤ l.length * 5 ^ (h + 1) := by
      intro l
      induction l with
      | nil => simp
      | cons y r ih =>
        rw [List.flatMap_cons, List.length_append, List.length_cons, Nat.add_mul, Nat.one_mul]
        have h1 : (match nodeAt S y.r.toNat with | none => [] | some (_, ys) => itemsS S h ys).length ≤ 5 ^ (h + 1) := by
          rcases hn : nodeAt S y.r.toNat with _ | ⟨lvl, ys⟩
          · simp
          · have hm := (nodeAt_may hn).1
            have : ys.length ≤ 5 := by unfold nodeMay headB at hm; simp at hm; omega
            exact items_len h ys this
        omega
    refine Nat.le_trans (key xs) ?_
    rw [Nat.pow_succ 5 (h + 1), Nat.mul_comm]
    exact Nat.mul_le_mul_left _ hl
def ItemsC (S : Sto) (h : Nat) : Prop := ∀ (a : Nat) (xs : List It) (A1 : Option Addr) (n1 c1 : Nat) (A2 : Option Addr) (n2 c2 : Nat) (A3 : Option Addr) (n3 c3 : Nat) (A4 : Option Addr) (n4 c4 : Nat) (w : World), storeMay S = true → StoAt w w.heap.size (.slice A1 n1 c1) (.slice A2 n2 c2) (.slice A3 n3 c3) (.slice A4 n4 c4) S → 8 ≤ a → a < 256 → nodeAt S a = some ((h : Int), xs) → (spanS S h xs).isSome = true →
  Calls Tryz.prog 63 #[storeV A1 n1 c1 A2 n2 c2 A3 n3 c3 A4 n4 c4, .int .i64 (a : Int)] w (RetS (fun v W => ∃ A c, v = .slice A (itemsS S h xs).length c ∧ ItsF w.heap.size W v (itemsS S h xs)) w)
structure ItI (S : Sto) (h : Nat) (xs : List It) (w2 : World) (v i : Value) (wr : World) : Prop where
  ex : ∃ (k : Nat) (ps : List (It × Value)), k ≤ xs.length ∧ i = .int .i64 (k : Int) ∧ Row5 w2.heap.size w2.heap.size wr v ps ∧ ps.map (·.1) = itemsS S h (xs.take k) ∧ Ext w2 wr
theorem items_ret {R : Ending → World → Prop} {a : Act} {W : World} {u : Value} (h2 : a.tmps[4]?.getD undef = u) (hd : a.defers = []) (hR : R (.returned u) W) : bodyPost Tryz.prog Tryz.f63 R .ret a W := by
  refine bodyPost_ret (v := u) ?_ hd hR
  simp [results, Tryz.results63, go_sem, h2]

set_option maxHeartbeats 4000000 in
set_option maxRecDepth 100000 in
theorem items_any (S : Sto) (h : Nat) (HI : ∀ h' : Nat, h = h' + 1 → ItemsC S h') : ItemsC S h := by
  intro a xs A1 n1 c1 A2 n2 c2 A3 n3 c3 A4 n4 c4 w hS hst ha ha2 hn hsp
  have hmay := (nodeAt_may hn).1
  have hxs := (nodeAt_may hn).2.1
  have hlen : xs.length ≤ 5 := by unfold nodeMay headB at hmay; simp at hmay; omega
  have hle5 : h ≤ 5 := by unfold nodeMay headB at hmay; simp at hmay; omega
  have HR := Lib.hid (fun W (hx : Ext w W) => read8_any A1 n1 c1 A2 n2 c2 A3 n3 c3 A4 n4 c4 S hS a ha ha2 W (hst.ext hx))
  rw [hn] at HR
  have HST := Lib.hid hst
  have HSM := Lib.hid hS
  replace hsp := Lib.hid hsp
  replace hxs := Lib.hid hxs
  clear hst hS hmay hn
  go_enter Tryz.func63, Tryz.ntmps63
  go_wp2_with fail
  generalize hw1 : World.alloc w _ = w1
  have x1 : Ext w w1 := by rw [← hw1]; exact Ext.alloc _ _
  have r1 : w1.heap[w.heap.size]? = some (.cells #[.slice A1 n1 c1, .slice A2 n2 c2, .slice A3 n3 c3, .slice A4 n4 c4] 28 (0, 0)) := by rw [← hw1]; exact World.alloc_heap_at _ _ _ rfl
  clear hw1
  refine (HR.out w1 x1).mono ?_
  clear HR
  rintro e w2 ⟨u, rfl, hu, hB⟩
  obtain ⟨A, c, rfl, hits⟩ := hu
  have x2 : Ext w w2 := x1.trans hB
  have r2 := row_ext r1 hB
  have z1 : w.heap.size < w1.heap.size := (Array.getElem?_eq_some_iff.1 r1).1
  have hitl := (hits.its.at_).2.2.2
  replace hits := Lib.hid hits
  clear hB r1 x1
  rcases Nat.eq_zero_or_pos h with hz | hz
  · have hd : ((h : Int) == 0) = true := by rw [beq_iff_eq]; omega
    have hd2 : decide (h = 0) = true := decide_eq_true hz
    have hit0 : itemsS S h xs = xs := by rw [hz]; rfl
    replace hz := Lib.hid hz
    replace hit0 := Lib.hid hit0
    go_wp2
    generalize hw3 : World.alloc w2 _ = w3
    have x3 : Ext w2 w3 := by rw [← hw3]; exact Ext.alloc _ _
    exact items_ret (u := .slice A xs.length c) rfl rfl ⟨_, rfl, ⟨A, c, by rw [hit0.out], by rw [hit0.out]; exact (hits.out.ext x3).mono (by omega)⟩, x2.trans x3⟩
  · have hd : ((h : Int) == 0) = false := by rw [beq_eq_false_iff_ne]; omega
    have hd2 : decide (h = 0) = false := decide_eq_false (by omega)
    obtain ⟨h', hh⟩ : ∃ h', h = h' + 1 := ⟨h - 1, by omega⟩
    have HIh := Lib.hid (HI h' hh)
    replace hh := Lib.hid hh
    replace hz := Lib.hid hz
    go_upto_region 4 with fail
    generalize hw3 : World.alloc w2 _ = w3
    have x3 : Ext w2 w3 := by rw [← hw3]; exact Ext.alloc _ _
    have rn : w3.heap[w2.heap.size]? = some (.cells #[.int .i64 h, .slice A xs.length c] 118 (0, 0)) := by rw [← hw3]; exact World.alloc_heap_at _ _ _ rfl
    have rs := row_ext r2 x3
    have I0 : ItI S h xs w3 (.slice none 0 0) (.int .i64 0) w3 := ⟨0, [], Nat.zero_le _, rfl, Row5.nil _ _ _, by rw [List.take_zero, items_nil]; rfl, Ext.refl _⟩
    replace I0 := Lib.hid I0
    have xw3 := x2.trans x3
    clear hw3 r2
    replace hits := Lib.hid (hits.out.ext x3)
    go_wp2_with fail
    go_loopw [7, 8] (fun v i wr => ItI S h xs w3 v i wr) (fun _ i _ => xs.length - (intOf i).toNat)
    case atStart => exact I0.out
    case round =>
      obtain ⟨k, ps, hk, rfl, R5, hps, xr⟩ := hrel.ex
      clear hrel I0
      have kn := cells_row (row_ext rn xr)
      have xwr := xw3.trans xr
      by_cases hlt : k < xs.length
      · have hlt' := hlt
        obtain ⟨b9, off, rfl, hb9⟩ := hitl (by omega)
        obtain ⟨A', c', -, -, -, d3, -, -⟩ := (hits.out.ext xr).its.item k hlt'
        have hone := span_one hsp.out xs[k] (List.getElem_mem hlt')
        rw [hh.out] at hone
        obtain ⟨r, e5, e6, e7, ys, e8, e9⟩ := one_tree hone
        have hnx : nodeAt S xs[k].r.toNat = some ((h' : Int), ys) := by rw [e5, Int.toNat_natCast]; exact e8
        have hsu := items_node (h := h') hlt' hnx
        rw [← hh.out] at hsu
        replace hsu := Lib.hid hsu
        have hgk := cells_row (row_ext rs xr)
        rw [e5] at d3
        have hCall := Lib.hid (fun W (hx : Ext wr W) => HIh.out r ys A1 n1 c1 A2 n2 c2 A3 n3 c3 A4 n4 c4 W HSM.out (HST.out.ext (xwr.trans hx)) e6 e7 e8 e9)
        have hyl := items_len (S := S) h' ys (by have hm := (nodeAt_may e8).1; unfold nodeMay headB at hm; simp at hm; omega)
        have hpl : ps.length ≤ 15625 := by
          have h1 : ps.length = (itemsS S h (xs.take k)).length := by rw [← hps, List.length_map]
          have h2 := items_len (S := S) h (xs.take k) (by rw [List.length_take]; omega)
          have h3 : 5 ^ (h + 1) ≤ 5 ^ 6 := Nat.pow_le_pow_right (by omega) (by omega)
          omega
        have hyl2 : (itemsS S h' ys).length ≤ 15625 := Nat.le_trans hyl (show 5 ^ (h' + 1) ≤ 5 ^ 6 from Nat.pow_le_pow_right (by omega) (by have := hh.out; omega))
        generalize hIT : itemsS S h' ys = its at *
        clear hnx e5 hone e8 e9 hIT hyl hgk
        obtain ⟨AR, cR, eR, hcr1, hcr2⟩ := own_slice R5.1
        have hc1 : decide (k < xs.length) = true := decide_eq_true hlt
        have hwk := Lib.hid (IntWalk.wrap64_in ((k : Int) + 1) (by omega))
        go_upto_region 8 with fail
        have gS : ∀ W, extRel.r wr W → ∀ i, W.cell? ⟨w.heap.size, i, none⟩ = #[.slice A1 n1 c1, .slice A2 n2 c2, .slice A3 n3 c3, .slice A4 n4 c4][i]? := fun W h => cells_row (row_ext (row_ext rs xr) h)
        have gN : ∀ W, extRel.r wr W → ∀ i, W.cell? ⟨w2.heap.size, i, none⟩ = #[.int .i64 h, .slice (some ⟨b9, off, none⟩) xs.length c][i]? := fun W h => cells_row (row_ext (row_ext rn xr) h)
        have gD : ∀ W, extRel.r wr W → W.cell? ⟨b9, off + k * 5 + 3, none⟩ = some (.int .i64 (r : Int)) := fun W h => Ext.cell h d3
        replace R5 := Lib.hid R5
        replace hps := Lib.hid hps
        refine region_start (by kernel_rfl) ?_
        refine any_freeT (w := wr) extRel (outsAt [(8, outIts wr.heap.size its.length its)]) [true, true, true, true, true, true, true, true, true] 2 (by kernel_rfl) (by kernel_rfl) (by kernel_rfl) (by kernel_rfl) (by kernel_rfl) (by kernel_rfl) (by kernel_rfl) ?st (Rel.drew _ _) ?walk
        case st => exact outsAt_stableG (by simp only [List.forall_mem_cons]; exact ⟨fun p => stableG_ext (outIts_stable _ _ _ p), fun _ h => by cases h⟩)
        case walk =>
          intro K hK
          dsimp only [maskOps]
          repeat ((first | (refine free_plainM ?_ (by rfl) (by rfl) (fun W hW _ => ⟨W, ?_, Rel.refl _ W⟩) ?_; rotate_left; (first | (go_simp; with_reducible rfl) | (go_simp; done))) | (refine free_skipM (by rfl) ?_)); try simp only [Act.put, one_f, outB_f, outNew_f, outI_f, outIts_f, List.setIfInBounds_toArray, List.set_cons_zero, List.set_cons_succ])
          refine free_hardM (outIts wr.heap.size its.length its) (by rfl) (by rfl) (fun W hW _ => ?_) (fun p8 => ?_)
          · have hWx : Ext wr W := hW
            refine hardAt_callE ?_ ((hCall.out W hWx).mono fun e w' hh => ?_)
            · go_simp
            obtain ⟨v, rfl, ⟨A8, c8, rfl, h8⟩, hx8⟩ := hh
            exact ⟨(A8, c8), rfl, h8.mono hWx.size, hx8⟩
          obtain ⟨A8, c8⟩ := p8
          simp only [Act.put, one_f, outB_f, outNew_f, outI_f, outIts_f, List.setIfInBounds_toArray, List.set_cons_zero, List.set_cons_succ]
          refine free_nilM (hK _ _ fun W hW hF => ?_)
          obtain hI8 : ItsF wr.heap.size W (.slice A8 its.length c8) its := (hF 8).1
          clear hF hK gS gN gD
          have hWx : Ext wr W := hW
          have R5W := R5.out.ext hWx
          obtain ⟨qs, q1, ⟨A9, c9, q2, q3, q4, q5⟩, q6, q7, q8⟩ := hI8
          simp only [Value.slice.injEq, true_and] at q2
          obtain ⟨rfl, rfl⟩ := q2
          obtain ⟨i0, hi, hz0, hz1, hz2⟩ := info_parts Tryz.info_item
          have hql : qs.length = its.length := by rw [← q1, List.length_map]
          have hown := R5W.1
          rw [eR] at hown
          dsimp only [List.drop, List.length_cons, List.length_nil]
          refine wpList_append_rd _ rfl (.tmp 27) (.tmp 35) 44 rfl w3.heap.size 38 i0 (.agg #[.int .u8 0, .int .u32 0, .int .u32 0, .int .i64 0, .slice none 0 0]) 5 48 Tryz.underlying44 hi hz0 hz1 hz2 rfl (by decide) _ _ _ (by exact rfl) hown W.heap.size A8 its.length c8 (cells5 qs) rfl q5 (cells5_one fun p hp => (q6 p hp).1) (by omega) (by decide) (Nat.le_trans xr.size hWx.size) ?_
          intro v8 w8 own8 hg8 hB8 hD8
          rw [← eR] at hg8 hD8
          have hown8 := own_lt R5.out.1
          have R8 := R5W.extend (qs := qs) (fun p hp => ⟨⟨(q6 p hp).1, (q8 p hp).mono xr.size⟩, (q6 p hp).2, Apart.of_from (q8 p hp) (fun g hg => (hown8 g hg).2)⟩) rfl (by rw [hql]; exact own8) hD8 hg8
          have IR : ItI S h xs w3 v8 (.int .i64 ((k : Int) + 1)) w8 := ⟨k + 1, ps ++ qs, hlt', rfl, R8, by rw [List.map_append, hps.out, q1, hsu.out], Below.trans (xr.trans hWx) hB8⟩
          replace IR := Lib.hid IR
          clear own8 hg8 hB8 hD8 R8 R5W hown hi hz0 hz1 hz2 q3 q4 q5
          go_wp2
          refine QN_in ?_
          go_wp2_with fail
          refine ⟨IR.out, ?_⟩
          simp [intOf]
          omega
      · obtain rfl : k = xs.length := by omega
        rw [List.take_length] at hps
        obtain ⟨hI, A', c', e'⟩ := R5.its (Nat.le_refl _)
        rw [hps] at hI
        have hpl : ps.length = (itemsS S h xs).length := by rw [← hps, List.length_map]
        have HQ : RetS (fun v W => ∃ A c, v = .slice A (itemsS S h xs).length c ∧ ItsF w.heap.size W v (itemsS S h xs)) w (.returned _) wr := ⟨_, rfl, ⟨A', c', e'.trans (by rw [hpl]), hI.mono xw3.size⟩, xwr⟩
        replace HQ := Lib.hid HQ
        replace R5 := Lib.hid R5
        replace hps := Lib.hid hps
        clear hI e'
        go_wp2
        exact items_ret rfl rfl HQ.out
theorem items_all (S : Sto) : ∀ h : Nat, ItemsC S h
  | 0 => items_any S 0 fun _ e => by omega
  | h + 1 => items_any S (h + 1) fun h' e => by
    obtain rfl : h = h' := by omega
    exact items_all S h
end Go.Proofs.YtckhnchnbeoogaaGreat
/- Contracts: the document's volumes of a pool. -/
namespace Go.Proofs.YtckhnchnbeoogaaGreat
set_option linter.unusedSimpArgs false
set_option linter.unusedVariables false
open Go.RowKit

theorem items_ok {S : Sto} : ∀ (h : Nat) (xs : List It), (∀ x ∈ xs, ItOk x) → ∀ y ∈ itemsS S h xs, ItOk y
  | 0, xs, hx, y, hy => hx y hy
  | h + 1, xs, _, y, hy => by
    rw [items_succ] at hy
    obtain ⟨z, hz, hy⟩ := List.mem_flatMap.1 hy
    rcases hn : nodeAt S z.r.toNat with _ | ⟨lvl, ys⟩
    · rw [hn] at hy; cases hy
    · rw [hn] at hy
      exact items_ok h ys (fun x hx => ((nodeAt_may hn).2.1 x hx).1) y hy
def AllQ (l : List It) (w : World) (e : Ending) (w' : World) : Prop := Below w.heap.size w w' ∧
  ((l.all isVol = false ∧ e = .returned (.tuple #[.slice none 0 0, .bool false])) ∨ (l.all isVol = true ∧ ∃ v, e = .returned (.tuple #[v, .bool true]) ∧ w'.ownsRow w.heap.size 70 4 v l.length (cellsV (l.map volAt))))
structure AlI (l : List It) (w3 : World) (v i : Value) (wr : World) : Prop where
  ex : ∃ k : Nat, k ≤ l.length ∧ i = .int .i64 (k : Int) ∧ (l.take k).all isVol = true ∧ wr.ownsRow w3.heap.size 70 4 v k (cellsV ((l.take k).map volAt)) ∧ Below w3.heap.size w3 wr
theorem all_ret {R : Ending → World → Prop} {a : Act} {W : World} {u v : Value} (h2 : a.tmps[2]?.getD undef = u) (h3 : a.tmps[3]?.getD undef = v) (hd : a.defers = []) (hR : R (.returned (.tuple #[u, v])) W) : bodyPost Tryz.prog Tryz.f107 R .ret a W := by
  refine bodyPost_ret (v := .tuple #[u, v]) ?_ hd hR
  simp [results, Tryz.results107, go_sem, h2, h3]

set_option maxHeartbeats 4000000 in
set_option maxRecDepth 100000 in
theorem all_any (A1 : Option Addr) (n1 c1 : Nat) (A2 : Option Addr) (n2 c2 : Nat) (A3 : Option Addr) (n3 c3 : Nat) (A4 : Option Addr) (n4 c4 : Nat) (gen next : Int) (dead : Value) (S : Sto) (a h : Nat) (xs : List It) (w : World) (hS : storeMay S = true)
    (hst : StoAt w w.heap.size (.slice A1 n1 c1) (.slice A2 n2 c2) (.slice A3 n3 c3) (.slice A4 n4 c4) S) (ha : 8 ≤ a) (ha2 : a < 256) (hn : nodeAt S a = some ((h : Int), xs)) (hsp : (spanS S h xs).isSome = true) :
    Calls Tryz.prog 107 #[.agg (poolCs (.slice A1 n1 c1) (.slice A2 n2 c2) (.slice A3 n3 c3) (.slice A4 n4 c4) gen (a : Int) next dead)] w (AllQ (itemsS S h xs) w) := by
  have HI := Lib.hid (fun W (hx : Ext w W) => items_all S h a xs A1 n1 c1 A2 n2 c2 A3 n3 c3 A4 n4 c4 W hS (hst.ext hx) ha ha2 hn hsp)
  have hok := items_ok (S := S) h xs (fun x hx => ((nodeAt_may hn).2.1 x hx).1)
  have hlen : (itemsS S h xs).length ≤ 15625 := by
    have hmay := (nodeAt_may hn).1
    have h1 : xs.length ≤ 5 := by unfold nodeMay headB at hmay; simp at hmay; omega
    have h2 : h ≤ 5 := by unfold nodeMay headB at hmay; simp at hmay; omega
    exact Nat.le_trans (items_len (S := S) h xs h1) (show 5 ^ (h + 1) ≤ 5 ^ 6 from Nat.pow_le_pow_right (by omega) (by omega))
  clear hst hn hsp hS
  generalize itemsS S h xs = l at *
  replace hok := Lib.hid hok
  go_enter Tryz.func107, Tryz.ntmps107
  go_wp2_with fail
  generalize hw1 : World.alloc w _ = w1
  have x1 : Ext w w1 := by rw [← hw1]; exact Ext.alloc _ _
  clear hw1
  refine (HI.out w1 x1).mono ?_
  clear HI
  rintro e w2 ⟨v, rfl, ⟨A, c, rfl, hits⟩, hB⟩
  have x2 : Ext w w2 := x1.trans hB
  have hA := hits.its.at_.2.2.2
  clear hB
  have I0 : AlI l w2 (.slice none 0 0) (.int .i64 0) w2 := ⟨0, Nat.zero_le _, rfl, rfl, World.ownsRow_nil _ _ _ _, Ext.refl _⟩
  replace I0 := Lib.hid I0
  replace hits := Lib.hid hits
  go_wp2_with fail
  go_loopw [5, 6] (fun v i wr => AlI l w2 v i wr) (fun _ i _ => l.length - (intOf i).toNat)
  case atStart => exact I0.out
  case round =>
    obtain ⟨k, hk, rfl, hall, own, xr⟩ := hrel.ex
    clear hrel I0
    have xwr : Below w.heap.size w wr := x2.trans xr
    by_cases hlt : k < l.length
    · have hlt' := hlt
      obtain ⟨b9, off, rfl, hb9⟩ := hA (by omega)
      obtain ⟨A', c', d0, d1, d2, d3, d4, hby⟩ := (hits.out.its.below xr).item k hlt'
      have hxk := hok.out l[k] (List.getElem_mem hlt')
      have HV := Lib.hid (fun W (hx : Ext wr W) => volumer_any l[k] hxk A' c' W (((hby.more xr.size).below hx).more hx.size))
      have hT := Lib.hid (all_take isVol l k hlt')
      have hBD := Lib.hid (@all_bad _ isVol l k hlt')
      have hTK := Lib.hid (List.take_succ_eq_append_getElem hlt')
      generalize l[k] = x at *
      clear hby hxk
      obtain ⟨AR, cR, rfl, hcr1, hcr2⟩ := own_slice own
      have hc1 : decide (k < l.length) = true := decide_eq_true hlt
      have hwk := Lib.hid (IntWalk.wrap64_in ((k : Int) + 1) (by omega))
      replace hall := Lib.hid hall
      replace own := Lib.hid own
      go_wp2_with fail
      refine (HV.out wr (Ext.refl _)).mono ?_
      clear HV
      rintro e w4 ⟨u, rfl, ⟨v', rfl, hv'⟩, hB4⟩
      have x4 : Ext wr w4 := hB4
      have own4 := own_ext own.out x4
      have xw4 := xwr.trans (Below.mono x4 xwr.size)
      clear hB4 d0 d1 d2 d3 d4
      rcases hiv : isVol x with _ | _
      · have HQ : AllQ l w (.returned (.tuple #[.slice none 0 0, .bool false])) (w4.alloc (.cells (vol4 v') 70)) := ⟨Below.alloc xw4 (by have := xw4.size; omega) _, .inl ⟨hBD.out hiv, rfl⟩⟩
        replace HQ := Lib.hid HQ
        clear own4 hv' hiv
        go_wp2_with fail
        exact all_ret rfl rfl rfl HQ.out
      · obtain rfl := hv' hiv
        obtain ⟨i0, hi, hz0, hz1, hz2⟩ := info_parts Tryz.info_vol
        replace hiv := Lib.hid hiv
        replace own4 := Lib.hid own4
        go_upto_region 9 with fail
        generalize hw5 : World.alloc w4 _ = w5
        have x5 : Ext w4 w5 := by rw [← hw5]; exact Ext.alloc _ _
        have r5 : w5.heap[w4.heap.size]? = some (.cells (vol4 (volAt x)) 70 (0, 0)) := by rw [← hw5]; exact World.alloc_heap_at _ _ _ rfl
        have own5 := Lib.hid (own_ext own4.out x5)
        have k5 := cells_row r5
        clear hw5 own4
        go_wp2_with (at_builtin; refine wpList_stop ?_)
        refine Stopped.go (wpList_push _ rfl (.tmp 30) (.tmp 32) 107 rfl w2.heap.size 70 i0 (.agg #[.int .u32 0, .int .i64 0, .bool false, .int .u32 0]) 4 24 Tryz.underlying107 hi hz0 hz1 hz2 rfl (by decide) _ _ _ rfl own5.out (vol4 (volAt x)) rfl rfl (by simp [Value.oneCell']) (by omega) (by decide) (Nat.le_trans xr.size (Nat.le_trans x4.size x5.size)) ?_)
        intro v8 w8 own8 _ hB8 _
        have IR : AlI l w2 v8 (.int .i64 ((k : Int) + 1)) w8 := ⟨k + 1, hlt', rfl, by rw [hT.out, hall.out, hiv.out]; rfl, by
          rw [hTK.out, List.map_append, List.map_singleton, cellsV_snoc]
          exact own8, Below.trans (Below.trans xr (Below.mono (Ext.trans x4 x5) xr.size)) hB8⟩
        replace IR := Lib.hid IR
        clear own8 hB8 hi hz0 hz1 hz2
        go_wp2_with fail
        refine ⟨IR.out, ?_⟩
        simp [intOf]
        omega
    · obtain rfl : k = l.length := by omega
      rw [List.take_length] at hall own
      have HQ : AllQ l w (.returned (.tuple #[_, .bool true])) wr := ⟨xwr, .inr ⟨hall, _, rfl, own_mono own x2.size⟩⟩
      replace HQ := Lib.hid HQ
      clear own hall
      go_wp2
      exact all_ret rfl rfl rfl HQ.out
end Go.Proofs.YtckhnchnbeoogaaGreat
