/- Texts Iter, Iter1, RangeL, RangeW, joined. -/
import Derived.RangeFuncNested
import Derived.RangeFuncCalls
import Derived.OwnWalkIn
import Derived.TacticsInMore
import Derived.Test.YtckhnchnbeoogaaGreatT27
/- Items in a row: the walk through a tree hands them out. -/
namespace Go.Proofs.YtckhnchnbeoogaaGreat
set_option linter.unusedSimpArgs false
set_option linter.unusedVariables false
open Go.RowKit Go.Shelf

attribute [local go_sem] Oper.semAt_some

theorem down_ret {R : Ending → World → Prop} {a : Act} {W : World} {b : Bool} (h6 : a.tmps[6]?.getD undef = .bool b) (hd : a.defers = []) (hR : R (.returned (.bool b)) W) : bodyPost Tryz.prog Tryz.f96 R .ret a W := by
  refine bodyPost_ret (v := .bool b) ?_ hd hR
  simp [results, Tryz.results96, go_sem, h6]

theorem wrap_next {k j : Nat} (hj : j = k + 1) (hk : k < 1000) : wrap64 ((k : Int) + 1) = (j : Int) ∧ IntKind.i64.wrap ((k : Int) + 1) = (j : Int) :=
  ⟨by rw [IntWalk.wrap64_in _ (by omega), hj]; rfl, by rw [IntWalk.i64_in _ (by omega), hj]; rfl⟩

set_option maxHeartbeats 8000000 in
set_option maxRecDepth 100000 in
theorem down_any (S : Sto) (hS : storeMay S = true) (k i o : Int) (lo l N bB bF bY bD bb : Nat) (M : World → Nat → Prop) (J Jx : List X3 → World → Prop) (A1 : Option Addr) (n1 c1 : Nat) (A2 : Option Addr) (n2 c2 : Nat) (A3 : Option Addr) (n3 c3 : Nat) (A4 : Option Addr) (n4 c4 : Nat) (E : World → Prop)
    (HC : IterC lo M J Jx l N) (HE : ∀ W, E W → EnvX S (k, i, o) M l bB bF bY bD bb (.slice A1 n1 c1) (.slice A2 n2 c2) (.slice A3 n3 c3) (.slice A4 n4 c4) W) (HEk : ∀ W W', E W → KeptX M W W' → E W') (HEl : ∀ W, E W → lo ≤ W.heap.size) (h : Nat)
    (HW : ∀ h' : Nat, h = h' + 1 → DownC S (k, i, o) M J Jx N bB bF bY bD E h') : DownC S (k, i, o) M J Jx N bB bF bY bD E h := by
  intro a xs pre w ha ha2 hn hsp hJ hE hN
  have hEnv := HE w hE
  have hBN := bnodez_any 0 bb A1 n1 c1 A2 n2 c2 A3 n3 c3 A4 n4 c4 S hS a ha ha2 w hEnv.on
  rw [hn] at hBN
  obtain ⟨hm1, hm2, -⟩ := nodeAt_may hn
  have hyl : xs.length ≤ 5 := by unfold nodeMay headB at hm1; simp at hm1; omega
  have kB := cells_row hEnv.b
  have HP := Lib.hid (fun j (hj : j + 1 < xs.length) (hl : lessK (k, i, o) (keyIt xs[j + 1]) = false) => from_past hsp hj hl)
  have HT := Lib.hid (fun h' (e : h = h' + 1) y (hy : y ∈ xs) => one_tree (S := S) (h := h') (y := y) (by have := span_one hsp y hy; rw [e] at this; exact this))
  replace hsp := Lib.hid hsp
  replace HC := Lib.hid HC
  replace HE := Lib.hid HE
  replace HEk := Lib.hid HEk
  replace HEl := Lib.hid (HEl w hE)
  replace HW := Lib.hid HW
  replace hJ := Lib.hid hJ
  replace hE := Lib.hid hE
  replace hN := Lib.hid hN
  clear hm1 hm2 hn hEnv
  go_enter Tryz.func96, Tryz.ntmps96
  go_wp2_with fail
  refine hBN.mono ?_
  clear hBN kB
  rintro e w1 ⟨u, rfl, ⟨A9, c9, rfl, hits, nzi⟩, hB⟩
  have x1 : Ext w w1 := hB
  have hA := hits.its.at_.2.2.2
  have hlowb : ∀ b off n c, Value.slice A9 xs.length c9 = .slice (some ⟨b, off, none⟩) n c → 0 < n → b < w1.heap.size := fun b off n c e hn => by
    simp only [Value.slice.injEq] at e
    obtain ⟨b6, o6, e6, e7⟩ := hA (by omega)
    rw [e.1] at e6
    simp only [Option.some.injEq, Addr.mk.injEq] at e6
    omega
  replace hlowb := Lib.hid hlowb
  replace nzi := Lib.hid nzi
  replace hits := Lib.hid hits
  replace x1 := Lib.hid x1
  clear hB
  go_wp2_with fail
  generalize hw2 : (World.alloc w1 _) = w2
  have x2 : Ext w w2 := by rw [← hw2]; exact x1.out.trans (Ext.alloc _ _)
  have rn2 : w2.heap[w1.heap.size]? = some (.cells #[.int .i64 h, .slice A9 xs.length c9] 118 (0, 0)) := by rw [← hw2]; exact World.alloc_heap_at _ _ _ rfl
  have hits2 : ItsF w.heap.size w2 (.slice A9 xs.length c9) xs := by rw [← hw2]; exact hits.out.ext (Ext.alloc _ _)
  have nzi2 : NzI w2 (.slice A9 xs.length c9) := by rw [← hw2]; exact nzi.out.ext (Ext.alloc _ _) hlowb.out
  have hsz : w.heap.size ≤ w1.heap.size := x1.out.size
  have hz2 : w2.heap.size = w1.heap.size + 1 := by rw [← hw2]; simp
  have J2 := Lib.hid ((HC.out.ext _ _ _ hJ.out x2).1)
  have K2 := Lib.hid (HC.out.kept hJ.out x2)
  have E2 := Lib.hid (HEk.out _ _ hE.out K2.out)
  have N2 := Lib.hid (fun b (hb : w.heap.size ≤ b) => HC.out.new hJ.out x2 hb)
  have kn2 := cells_row rn2
  replace hits2 := Lib.hid hits2
  replace nzi2 := Lib.hid nzi2
  replace hsz := Lib.hid hsz
  replace hz2 := Lib.hid hz2
  replace rn2 := Lib.hid rn2
  replace x2 := Lib.hid x2
  clear hw2
  go_wp2_with fail
  go_loopw [21] (fun iv wr => ∃ (kk : Nat) (ys : List X3), kk ≤ xs.length ∧ iv = .int .i64 (kk : Int) ∧ ys.map (·.1) = fromS S h (k, i, o) (xs.take kk) ∧ J (pre ++ ys) wr ∧ E wr ∧ KeptX M w2 wr) (fun iv _ => xs.length - (intOf iv).toNat)
  case atStart => exact ⟨0, [], by omega, rfl, by rw [List.take_zero, from_nil]; rfl, by rw [List.append_nil]; exact J2.out, E2.out, KeptX.refl _ _⟩
  case round =>
    obtain ⟨kk, ys, hk, rfl, hys, hJr, hEr, hKr⟩ := hrel
    clear kn2
    by_cases hlt : kk < xs.length
    · have hlt' := hlt
      obtain ⟨b, off, rfl, hb⟩ := hA (by omega)
      have hbl : w.heap.size ≤ b := its_from hits2.out b off xs.length c9 0 rfl (by omega)
      have hnb := N2.out b hbl
      have hbs : b < w2.heap.size := by have := hz2.out; omega
      obtain ⟨A', c', ⟨d0, d1, d2, d3, d4, hby⟩, hfr, hnz⟩ := its_fct hits2.out nzi2.out kk hlt'
      have hcl : ∀ j, wr.cell? ⟨b, j, none⟩ = w2.cell? ⟨b, j, none⟩ := fun j => hKr.cell (p := ⟨b, j, none⟩) hbs hnb
      rw [← hcl] at d0 d1 d2 d3 d4
      have hF : FctX M lo (xs[kk], A', c') wr := FctX.kept ⟨hby, hfr.mono HEl.out, fun b' o' e _ => N2.out b' (hfr ⟨b', o', none⟩ _ _ (by rw [show A' = some ⟨b', o', none⟩ from e])), hnz⟩ hKr
      have hrn := hKr.row (N2.out _ hsz.out) rn2.out
      have hEnv := HE.out wr hEr
      have hsu := from_take (S := S) (h := h) (K := (k, i, o)) hlt'
      obtain ⟨rest, hrest⟩ := from_split (S := S) (h := h) (K := (k, i, o)) (xs := xs) (kk + 1)
      have hlen := hN.out
      rw [← hrest, hsu, List.length_append, List.length_append, ← hys, List.length_map] at hlen
      have hTx := fun h' e => HT.out h' e xs[kk] (List.getElem_mem hlt')
      have hPx := HP.out kk
      have kn := cells_row hrn
      have kf := cells_row hEnv.f
      have zn : w1.heap.size < wr.heap.size := (Array.getElem?_eq_some_iff.1 hrn).1
      have zf : bF < wr.heap.size := (Array.getElem?_eq_some_iff.1 hEnv.f).1
      replace hEnv := Lib.hid hEnv
      have HCL := Lib.hid hcl
      clear hcl hby hfr hnz hnb hbs hbl
      replace hTx := Lib.hid hTx
      replace hPx := Lib.hid hPx
      replace hsu := Lib.hid hsu
      replace hrest := Lib.hid hrest
      replace hlen := Lib.hid hlen
      replace hF := Lib.hid hF
      replace hys := Lib.hid hys
      replace hJr := Lib.hid hJr
      replace hEr := Lib.hid hEr
      replace hKr := Lib.hid hKr
      replace hrn := Lib.hid hrn
      rcases Nat.eq_zero_or_pos h with h0 | h0
      · have hh1 : ((h : Int) == 0) = true := by rw [beq_iff_eq]; omega
        have hh2 : decide (h = 0) = true := decide_eq_true h0
        have hone := from_leaf S (k, i, o) xs[kk]
        rw [← h0] at hone
        clear hPx hTx HW HP HT
        generalize xs[kk] = x at *
        replace hone := Lib.hid hone
        replace h0 := Lib.hid h0
        have hkx : lessK (keyIt x) (k, i, o) = lessB x.k x.i x.o k i o := rfl
        rw [hkx] at hone
        have HLS := Lib.hid (fun W => less_any x.k x.i x.o k i o W)
        refine (wpIn_wide (n := 3)).1 ?_
        generalize lessB x.k x.i x.o k i o = L at *
        cases L
        · replace hone := Lib.hid hone
          gi_wp2_with fail
          refine ⟨trivial, (callsIn_wide.2 (HLS.out _)).mono ?_⟩
          rintro e w4 ⟨rfl, hB4⟩
          have xr4 : Ext wr w4 := (Ext.alloc _ _).trans hB4
          have ky := cells_row (row_ext hEnv.out.y xr4)
          have kx := cells_row (row_ext (World.alloc_heap_at wr _ _ rfl) hB4)
          have J4 := (HC.out.ext _ _ _ hJr.out xr4).1
          have K4 := HC.out.kept hJr.out xr4
          obtain ⟨fn, tm, asg, bdy, hy, hR⟩ := HC.out.yld (3 - 1) (pre ++ ys) (x, A', c') w4 J4 (hF.out.kept K4) (by have := hlen.out; rw [hone.out] at this; simp at this ⊢; omega)
          replace J4 := Lib.hid J4
          replace K4 := Lib.hid K4
          gi_wp2_with fail
          refine hR.mono ?_
          clear hR hy
          rintro e w5 (⟨rfl, hJ5, hk5⟩ | ⟨rfl, hJx5⟩)
          · have hk45 := K4.out.trans hk5
            have E5 := HEk.out _ _ hEr.out hk45
            have hy5 : (ys ++ [(x, A', c')]).map (·.1) = fromS S h (k, i, o) (xs.take (kk + 1)) := by rw [hsu.out, hone.out, List.map_append, hys.out]; simp
            have hw64 := Lib.hid (IntWalk.wrap64_in ((kk : Int) + 1) (by omega))
            rw [List.append_assoc] at hJ5
            replace hJ5 := Lib.hid hJ5
            replace E5 := Lib.hid E5
            replace hy5 := Lib.hid hy5
            replace hk45 := Lib.hid hk45
            clear hk5
            gi_wp2_with fail
            refine ⟨⟨kk + 1, ys ++ [(x, A', c')], hlt', rfl, hy5.out, hJ5.out, E5.out, hKr.out.trans hk45.out⟩, ?_⟩
            simp [intOf]
            omega
          · rw [List.append_assoc] at hJx5
            have hRES : DownR M J Jx pre (fromS S h (k, i, o) xs) w (.returned (.bool false)) w5 := .inr ⟨rfl, ys ++ [(x, A', c')], rest, by rw [← hrest.out, hsu.out, hone.out, List.map_append, hys.out]; simp, hJx5⟩
            replace hRES := Lib.hid hRES
            clear hJx5
            gi_wp2_with fail
            exact down_ret rfl rfl hRES.out
        · replace hone := Lib.hid hone
          gi_wp2_with fail
          refine ⟨trivial, (callsIn_wide.2 (HLS.out _)).mono ?_⟩
          rintro e w4 ⟨rfl, hB4⟩
          have xr4 : Ext wr w4 := (Ext.alloc _ _).trans hB4
          have J4 := Lib.hid ((HC.out.ext _ _ _ hJr.out xr4).1)
          have K4 := Lib.hid (HC.out.kept hJr.out xr4)
          have E4 := Lib.hid (HEk.out _ _ hEr.out K4.out)
          have hy4 : ys.map (·.1) = fromS S h (k, i, o) (xs.take (kk + 1)) := by rw [hsu.out, hone.out, hys.out]; simp
          replace hy4 := Lib.hid hy4
          have hw64 := Lib.hid (IntWalk.wrap64_in ((kk : Int) + 1) (by omega))
          gi_wp2_with fail
          refine ⟨fun _ h => (by cases h), ?_⟩
          gi_wp2_with fail
          refine ⟨⟨kk + 1, ys, hlt', rfl, hy4.out, J4.out, E4.out, hKr.out.trans K4.out⟩, ?_⟩
          simp [intOf]
          omega
      · have hh1 : ((h : Int) == 0) = false := by rw [beq_eq_false_iff_ne]; omega
        have hh2 : decide (h = 0) = false := decide_eq_false (by omega)
        obtain ⟨h', hh⟩ : ∃ h', h = h' + 1 := ⟨h - 1, by omega⟩
        obtain ⟨r, hr, hr8, hr256, zs, hnz2, hsz2⟩ := hTx.out h' hh
        have hnr : nodeAt S xs[kk].r.toNat = some ((h' : Int), zs) := by rw [hr, Int.toNat_natCast]; exact hnz2
        have hone := from_node (S := S) (K := (k, i, o)) (h := h') hnr
        rw [← hh] at hone
        obtain ⟨j, hj⟩ : ∃ j, j = kk + 1 := ⟨_, rfl⟩
        have hww := Lib.hid (wrap_next hj (by omega))
        have HDN := Lib.hid (fun W (hJ' : J (pre ++ ys) W) (hE' : E W) (hl : (pre ++ ys).length + (fromS S h' (k, i, o) zs).length ≤ N) => HW.out h' hh r zs (pre ++ ys) W hr8 hr256 hnz2 hsz2 hJ' hE' hl)
        have hll : (pre ++ ys).length + (fromS S h' (k, i, o) zs).length ≤ N := by have := hlen.out; rw [hone] at this; rw [List.length_append]; omega
        generalize hxx : xs[kk] = x at *
        rw [hr] at d3
        replace hone := Lib.hid hone
        replace h0 := Lib.hid h0
        replace hh := Lib.hid hh
        replace hxx := Lib.hid hxx
        replace hll := Lib.hid hll
        replace hr := Lib.hid hr
        replace hnz2 := Lib.hid hnz2
        clear hTx HW HT HP hnr hsz2
        go_wp2_with fail
        generalize hwa : (World.alloc wr _) = wa
        have xa : Ext wr wa := by rw [← hwa]; exact Ext.alloc _ _
        have ra : wa.heap[wr.heap.size]? = some (.cells #[.int .u8 x.k, .int .u32 x.i, .int .u32 x.o, .int .i64 r, .slice A' x.val.length c'] 38 (0, 0)) := by rw [← hwa]; exact World.alloc_heap_at _ _ _ rfl
        have rna := row_ext hrn.out xa
        have rfa := row_ext hEnv.out.f xa
        have rda := Lib.hid (row_ext hEnv.out.d xa)
        have gN : ∀ W, Ext wa W → W.cell? ⟨w1.heap.size, 1, none⟩ = some (.slice (some ⟨b, off, none⟩) xs.length c9) := fun W h => by rw [cells_row (row_ext rna h)]; rfl
        have gF : ∀ W, Ext wa W → ∀ i', W.cell? ⟨bF, i', none⟩ = #[.int .u8 k, .int .u32 i, .int .u32 o][i']? := fun W h => cells_row (row_ext rfa h)
        replace ra := Lib.hid ra
        by_cases hl : j < xs.length
        · obtain ⟨A2', c2', g0, g1, g2, -⟩ := hits2.out.its.item j hl
          rw [← HCL.out] at g0 g1 g2
          have hpast : lessK (k, i, o) (keyIt xs[j]) = false → fromS S h (k, i, o) [x] = [] := fun hq => by
            have := hPx.out (by omega) (by simpa only [← hj] using hq)
            rw [hxx.out] at this
            exact this
          have hkp : lessK (k, i, o) (keyIt xs[j]) = lessB k i o xs[j].k xs[j].i xs[j].o := rfl
          rw [hkp] at hpast
          generalize xs[j] = y at *
          clear hkp
          have HL := Lib.hid (fun W => less_any k i o y.k y.i y.o W)
          generalize lessB k i o y.k y.i y.o = L at *
          have p0 : ∀ W, Ext wa W → W.cell? ⟨b, off + j * 5, none⟩ = some (.int .u8 y.k) := fun W h => Ext.cell (xa.trans h) g0
          have p1 : ∀ W, Ext wa W → W.cell? ⟨b, off + j * 5 + 1, none⟩ = some (.int .u32 y.i) := fun W h => Ext.cell (xa.trans h) g1
          have p2 : ∀ W, Ext wa W → W.cell? ⟨b, off + j * 5 + 2, none⟩ = some (.int .u32 y.o) := fun W h => Ext.cell (xa.trans h) g2
          replace xa := Lib.hid xa
          replace hpast := Lib.hid hpast
          replace hj := Lib.hid hj
          have hjd : decide (j < xs.length) = true := decide_eq_true hl
          clear g0 g1 g2 hwa rna rfa kn kf
          refine wp_region_free (outsAt [(15, one (.bool L))]) 18 (by kernel_rfl) (by kernel_rfl) (by kernel_rfl) (by decide) (by kernel_rfl) (by kernel_rfl) ?st ?walk
          case st => exact outsAt_stable (by simp only [List.forall_mem_cons]; exact ⟨one_stable _, fun _ h => by cases h⟩)
          case walk =>
            intro K hK
            dsimp only [List.take]
            have hw65 := hww.out.2
            repeat ((first | (refine free_plain ?_ (by rfl) (by rfl) (fun W hW _ => ⟨W, ?_, Ext.refl W⟩) ?_; rotate_left; (first | (go_simp; with_reducible rfl) | (go_simp; done))) | (refine free_skip (by rfl) ?_)); try simp only [Act.put, one_f, outB_f, outNew_f, outI_f, List.setIfInBounds_toArray, List.set_cons_zero, List.set_cons_succ])
            clear hw65
            first
              | (refine free_plain (.pointer (some ⟨b, off + j * 5, none⟩)) (by rfl) (by rfl) (fun W hW _ => ⟨W, ?_, Ext.refl W⟩) ?_
                 · go_simp
                   rw [IntWalk.i64_in (j : Int) (by omega), if_pos (by omega)]
                   simp
                 simp only [Act.put, one_f, outB_f, outNew_f, outI_f, List.setIfInBounds_toArray, List.set_cons_zero, List.set_cons_succ])
              | skip
            repeat ((first | (refine free_plain ?_ (by rfl) (by rfl) (fun W hW _ => ⟨W, ?_, Ext.refl W⟩) ?_; rotate_left; (first | (go_simp; with_reducible rfl) | (go_simp; done))) | (refine free_skip (by rfl) ?_)); try simp only [Act.put, one_f, outB_f, outNew_f, outI_f, List.setIfInBounds_toArray, List.set_cons_zero, List.set_cons_succ])
            refine free_hard (one (.bool L)) (by rfl) (by rfl) (fun W hW _ => ?_) (fun p => ?_)
            · refine hardAt_call ?_ ((HL.out W).mono fun e w' h => ⟨(), h.1, trivial, h.2⟩)
              go_simp
            cases p
            simp only [Act.put, one_f, outB_f, outNew_f, outI_f, List.setIfInBounds_toArray, List.set_cons_zero, List.set_cons_succ]
            clear p0 p1 p2 HL
            cases L
            · repeat ((first | (refine free_plain ?_ (by rfl) (by rfl) (fun W hW _ => ⟨W, ?_, Ext.refl W⟩) ?_; rotate_left; (first | (go_simp; with_reducible rfl) | (go_simp; done))) | (refine free_skip (by rfl) ?_)); try simp only [Act.put, one_f, outB_f, outNew_f, outI_f, List.setIfInBounds_toArray, List.set_cons_zero, List.set_cons_succ])
              refine free_nil (hK _ _ fun W hW hF => ?_)
              clear hF hK
              dsimp only [List.drop]
              have JW := Lib.hid ((HC.out.ext _ _ _ hJr.out (xa.out.trans hW)).1)
              have KW := Lib.hid (HC.out.kept hJr.out (xa.out.trans hW))
              have EW := Lib.hid (HEk.out _ _ hEr.out KW.out)
              have hyW : ys.map (·.1) = fromS S h (k, i, o) (xs.take (kk + 1)) := by rw [hsu.out, hpast.out rfl, hys.out]; simp
              replace hyW := Lib.hid hyW
              clear hW gN gF
              go_wp2_with fail
              refine ⟨⟨kk + 1, ys, hlt', rfl, hyW.out, JW.out, EW.out, hKr.out.trans KW.out⟩, ?_⟩
              have := hj.out
              simp [intOf]
              omega
            · repeat ((first | (refine free_plain ?_ (by rfl) (by rfl) (fun W hW _ => ⟨W, ?_, Ext.refl W⟩) ?_; rotate_left; (first | (go_simp; with_reducible rfl) | (go_simp; done))) | (refine free_skip (by rfl) ?_)); try simp only [Act.put, one_f, outB_f, outNew_f, outI_f, List.setIfInBounds_toArray, List.set_cons_zero, List.set_cons_succ])
              refine free_nil (hK _ _ fun W hW hF => ?_)
              clear hF hK
              dsimp only [List.drop]
              have JW := Lib.hid ((HC.out.ext _ _ _ hJr.out (xa.out.trans hW)).1)
              have KW := Lib.hid (HC.out.kept hJr.out (xa.out.trans hW))
              have EW := Lib.hid (HEk.out _ _ hEr.out KW.out)
              have kd := cells_row (row_ext rda.out hW)
              have kx := cells_row (row_ext ra.out hW)
              clear hW gN gF
              go_wp2_with fail
              refine (HDN.out W JW.out EW.out hll.out).mono ?_
              rintro e w5 (⟨rfl, zs', hz1, hJ5, hk5⟩ | ⟨rfl, zs', rest', hz1, hJx5⟩)
              · have hk45 := KW.out.trans hk5
                have E5 := HEk.out _ _ hEr.out hk45
                have hy5 : (ys ++ zs').map (·.1) = fromS S h (k, i, o) (xs.take (kk + 1)) := by rw [hsu.out, hone.out, List.map_append, hys.out, hz1]
                rw [List.append_assoc] at hJ5
                replace hJ5 := Lib.hid hJ5
                replace E5 := Lib.hid E5
                replace hy5 := Lib.hid hy5
                replace hk45 := Lib.hid hk45
                replace hz1 := Lib.hid hz1
                clear hk5 kd kx
                go_wp2_with fail
                refine ⟨⟨kk + 1, ys ++ zs', hlt', rfl, hy5.out, hJ5.out, E5.out, hKr.out.trans hk45.out⟩, ?_⟩
                have := hj.out
                simp [intOf]
                omega
              · rw [List.append_assoc] at hJx5
                have hRES : DownR M J Jx pre (fromS S h (k, i, o) xs) w (.returned (.bool false)) w5 := .inr ⟨rfl, ys ++ zs', rest' ++ rest, by rw [← hrest.out, hsu.out, hone.out, List.map_append, hys.out, ← hz1]; simp, hJx5⟩
                replace hRES := Lib.hid hRES
                replace hz1 := Lib.hid hz1
                clear hJx5 kd kx
                go_wp2_with fail
                exact down_ret rfl rfl hRES.out
        · replace xa := Lib.hid xa
          replace hj := Lib.hid hj
          have hjd : decide (j < xs.length) = false := decide_eq_false hl
          clear hwa rna rfa kn kf
          refine wp_region_free (outsAt []) 18 (by kernel_rfl) (by kernel_rfl) (by kernel_rfl) (by decide) (by kernel_rfl) (by kernel_rfl) ?st ?walk
          case st => exact outsAt_stable (fun _ h => by cases h)
          case walk =>
            intro K hK
            dsimp only [List.take]
            have hw65 := hww.out.2
            repeat ((first | (refine free_plain ?_ (by rfl) (by rfl) (fun W hW _ => ⟨W, ?_, Ext.refl W⟩) ?_; rotate_left; (first | (go_simp; with_reducible rfl) | (go_simp; done))) | (refine free_skip (by rfl) ?_)); try simp only [Act.put, one_f, outB_f, outNew_f, outI_f, List.setIfInBounds_toArray, List.set_cons_zero, List.set_cons_succ])
            clear hw65
            refine free_nil (hK _ _ fun W hW hF => ?_)
            clear hF hK
            dsimp only [List.drop]
            have JW := Lib.hid ((HC.out.ext _ _ _ hJr.out (xa.out.trans hW)).1)
            have KW := Lib.hid (HC.out.kept hJr.out (xa.out.trans hW))
            have EW := Lib.hid (HEk.out _ _ hEr.out KW.out)
            have kd := cells_row (row_ext rda.out hW)
            have kx := cells_row (row_ext ra.out hW)
            clear hW gN gF
            go_wp2_with fail
            refine (HDN.out W JW.out EW.out hll.out).mono ?_
            rintro e w5 (⟨rfl, zs', hz1, hJ5, hk5⟩ | ⟨rfl, zs', rest', hz1, hJx5⟩)
            · have hk45 := KW.out.trans hk5
              have E5 := HEk.out _ _ hEr.out hk45
              have hy5 : (ys ++ zs').map (·.1) = fromS S h (k, i, o) (xs.take (kk + 1)) := by rw [hsu.out, hone.out, List.map_append, hys.out, hz1]
              rw [List.append_assoc] at hJ5
              replace hJ5 := Lib.hid hJ5
              replace E5 := Lib.hid E5
              replace hy5 := Lib.hid hy5
              replace hk45 := Lib.hid hk45
              replace hz1 := Lib.hid hz1
              clear hk5 kd kx
              go_wp2_with fail
              refine ⟨⟨kk + 1, ys ++ zs', hlt', rfl, hy5.out, hJ5.out, E5.out, hKr.out.trans hk45.out⟩, ?_⟩
              have := hj.out
              simp [intOf]
              omega
            · rw [List.append_assoc] at hJx5
              have hRES : DownR M J Jx pre (fromS S h (k, i, o) xs) w (.returned (.bool false)) w5 := .inr ⟨rfl, ys ++ zs', rest' ++ rest, by rw [← hrest.out, hsu.out, hone.out, List.map_append, hys.out, ← hz1]; simp, hJx5⟩
              replace hRES := Lib.hid hRES
              replace hz1 := Lib.hid hz1
              clear hJx5 kd kx
              go_wp2_with fail
              exact down_ret rfl rfl hRES.out
    · obtain rfl : kk = xs.length := by omega
      rw [List.take_length] at hys
      have hRES : DownR M J Jx pre (fromS S h (k, i, o) xs) w (.returned (.bool true)) wr := .inl ⟨rfl, ys, hys, hJr, K2.out.trans hKr⟩
      replace hRES := Lib.hid hRES
      replace hys := Lib.hid hys
      replace hJr := Lib.hid hJr
      replace hEr := Lib.hid hEr
      replace hKr := Lib.hid hKr
      go_wp2_with fail
      exact down_ret rfl rfl hRES.out
theorem down_all (S : Sto) (hS : storeMay S = true) (k i o : Int) (lo l N bB bF bY bD bb : Nat) (M : World → Nat → Prop) (J Jx : List X3 → World → Prop) (A1 : Option Addr) (n1 c1 : Nat) (A2 : Option Addr) (n2 c2 : Nat) (A3 : Option Addr) (n3 c3 : Nat) (A4 : Option Addr) (n4 c4 : Nat) (E : World → Prop)
    (HC : IterC lo M J Jx l N) (HE : ∀ W, E W → EnvX S (k, i, o) M l bB bF bY bD bb (.slice A1 n1 c1) (.slice A2 n2 c2) (.slice A3 n3 c3) (.slice A4 n4 c4) W) (HEk : ∀ W W', E W → KeptX M W W' → E W') (HEl : ∀ W, E W → lo ≤ W.heap.size) : ∀ h : Nat, DownC S (k, i, o) M J Jx N bB bF bY bD E h
  | 0 => down_any S hS k i o lo l N bB bF bY bD bb M J Jx A1 n1 c1 A2 n2 c2 A3 n3 c3 A4 n4 c4 E HC HE HEk HEl 0 fun _ e => by omega
  | h + 1 => down_any S hS k i o lo l N bB bF bY bD bb M J Jx A1 n1 c1 A2 n2 c2 A3 n3 c3 A4 n4 c4 E HC HE HEk HEl (h + 1) fun h' e => by
    obtain rfl : h = h' := by omega
    exact down_all S hS k i o lo l N bB bF bY bD bb M J Jx A1 n1 c1 A2 n2 c2 A3 n3 c3 A4 n4 c4 E HC HE HEk HEl h
end Go.Proofs.YtckhnchnbeoogaaGreat
/- Items in a row: what an iterator over a tree's items hands out. -/
namespace Go.Proofs.YtckhnchnbeoogaaGreat
set_option linter.unusedSimpArgs false
set_option linter.unusedVariables false
open Go.RowKit

set_option maxHeartbeats 4000000 in
set_option maxRecDepth 100000 in
theorem items1_any (S : Sto) (hS : storeMay S = true) (k i o : Int) (lo l N : Nat) (M : World → Nat → Prop) (J Jx : List X3 → World → Prop) (A1 : Option Addr) (n1 c1 : Nat) (A2 : Option Addr) (n2 c2 : Nat) (A3 : Option Addr) (n3 c3 : Nat) (A4 : Option Addr) (n4 c4 : Nat)
    (HC : IterC lo M J Jx l N) (bS bF bR : Nat) (w : World) (hlo : lo ≤ w.heap.size) (hst : StoAt w lo (.slice A1 n1 c1) (.slice A2 n2 c2) (.slice A3 n3 c3) (.slice A4 n4 c4) S)
    (hs : w.heap[bS]? = some (.cells #[.slice A1 n1 c1, .slice A2 n2 c2, .slice A3 n3 c3, .slice A4 n4 c4] 28 (0, 0))) (hf : w.heap[bF]? = some (.cells #[.int .u8 k, .int .u32 i, .int .u32 o] 34 (0, 0)))
    (a lvl : Nat) (xs : List It) (hr : w.heap[bR]? = some (.cells #[.int .i64 (a : Int)] 3 (0, 0))) (hnf : ¬ M w bF) (ha : 8 ≤ a) (ha2 : a < 256) (hn : nodeAt S a = some ((lvl : Int), xs)) (hsp : (spanS S lvl xs).isSome = true) (hN : (fromS S lvl (k, i, o) xs).length ≤ N) (hJ : J [] w) :
    Calls Tryz.prog 95 #[.func (.yield l) #[] #[], .pointer (some ⟨bS, 0, none⟩), .pointer (some ⟨bF, 0, none⟩), .pointer (some ⟨bR, 0, none⟩)] w fun e W' => (∃ v, e = .returned v) ∧ ((∃ ys : List X3, ys.map (·.1) = fromS S lvl (k, i, o) xs ∧ J ys W') ∨ ∃ (ys : List X3) (rest : List It), ys.map (·.1) ++ rest = fromS S lvl (k, i, o) xs ∧ Jx ys W') := by
  have HON := Lib.hid (fun W (hx : Ext w W) => on_any A1 n1 c1 A2 n2 c2 A3 n3 c3 A4 n4 c4 S (by have := (storeMay_len hS).2.2.1; omega) W ((hst.more hlo).ext hx))
  have hst' : StoAt w lo (.slice A1 n1 c1) (.slice A2 n2 n2) (.slice A3 n3 c3) (.slice A4 n4 c4) S := ⟨hst.bs, hst.ws.clip, hst.now, hst.last⟩
  have ks := cells_row hs
  have zs : bS < w.heap.size := (Array.getElem?_eq_some_iff.1 hs).1
  have zr : bR < w.heap.size := (Array.getElem?_eq_some_iff.1 hr).1
  replace hst := Lib.hid hst'
  replace hf := Lib.hid hf
  replace hr := Lib.hid hr
  replace hnf := Lib.hid hnf
  replace hn := Lib.hid hn
  replace hsp := Lib.hid hsp
  replace hN := Lib.hid hN
  replace hJ := Lib.hid hJ
  replace HC := Lib.hid HC
  replace hS := Lib.hid hS
  clear hst'
  go_enter Tryz.func95, Tryz.ntmps95
  go_wp2_with fail
  generalize hw1 : (World.alloc w _) = w1
  have x1 : Ext w w1 := by rw [← hw1]; exact Ext.alloc _ _
  have ry1 : w1.heap[w.heap.size]? = some (.cells #[.func (.yield l) #[] #[]] 172 (0, 0)) := by rw [← hw1]; exact World.alloc_heap_at _ _ _ rfl
  clear hw1
  refine (HON.out w1 x1).mono ?_
  clear HON
  rintro e w2 ⟨u, rfl, ⟨bb, A3', c3', rfl, hOn, hfr3⟩, hB⟩
  have x2 : Ext w w2 := x1.trans hB
  have ry2 := Lib.hid (row_ext ry1 hB)
  have hfr := Lib.hid (hfr3.mono x1.size)
  have hbb := Lib.hid (Nat.le_trans x1.size hOn.1)
  replace hOn := Lib.hid hOn
  have kr2 := cells_row (row_ext hr.out x2)
  have zr2 : bR < w2.heap.size := Nat.lt_of_lt_of_le zr x2.size
  clear hB ry1 x1 ks hfr3
  go_wp2_with fail
  generalize hw3 : (World.alloc (World.alloc w2 _) _) = w3
  have x23 : Ext w2 w3 := by rw [← hw3]; exact (Ext.alloc _ _).trans (Ext.alloc _ _)
  have rb3 : w3.heap[w2.heap.size]? = some (.cells #[.pointer (some ⟨bb, 0, none⟩)] 108 (0, 0)) := by rw [← hw3]; exact (Below.heap_alloc _ _ _ (by simp)).trans (World.alloc_heap_at _ _ _ rfl)
  have rd3 : w3.heap[w2.heap.size + 1]? = some (.cells #[.func (.func 96) #[] #[.pointer (some ⟨w2.heap.size, 0, none⟩), .pointer (some ⟨bF, 0, none⟩), .pointer (some ⟨w.heap.size, 0, none⟩), .pointer (some ⟨w2.heap.size + 1, 0, none⟩)]] 173 (0, 0)) := by rw [← hw3]; exact World.alloc_heap_at _ _ _ (by simp)
  have x3 : Ext w w3 := x2.trans x23
  have hw2s := x2.size
  have NW : ∀ b, w.heap.size ≤ b → ¬ M w3 b := fun b hb => HC.out.new hJ.out x3 hb
  have hB0 : ∀ W, KeptX M w3 W → Below lo w3 W := fun W hk => hk.below (Nat.le_trans hlo x3.size) fun b hb hm => absurd (HC.out.low _ _ hm) (by omega)
  have hst3 := hst.out.below (Below.mono x3 hlo)
  have hnow : Bys w3 w3.heap.size (.slice A3' n3 c3') S.now := (hOn.out.2.2.now.below x23).more x23.size
  have hbb3 := row_ext hOn.out.2.1 x23
  have ry3 := row_ext ry2.out x23
  have rf3 := row_ext hf.out x3
  have hnf3 : ¬ M w3 bF := fun h => hnf.out ((HC.out.ext _ _ _ hJ.out x3).2 _ h)
  have HE : ∀ W, KeptX M w3 W → EnvX S (k, i, o) M l w2.heap.size bF w.heap.size (w2.heap.size + 1) bb (.slice A1 n1 c1) (.slice A2 n2 n2) (.slice A3' n3 c3') (.slice A4 n4 c4) W := fun W hk => by
    have hS4 := hst3.below (hB0 W hk)
    have hsz : lo ≤ W.heap.size := by have := hk.size; have := x3.size; omega
    refine ⟨hk.row (NW _ (by omega)) rb3, hk.row hnf3 rf3, hk.row (NW _ (Nat.le_refl _)) ry3, hk.row (NW _ (by omega)) rd3, Nat.zero_le _, hk.row (NW _ hbb.out) hbb3, hS4.bs.more hsz, hS4.ws.more hsz, ?_, hS4.last.more hsz⟩
    exact (hnow.keepF fun q hq ⟨A, n, c, e, hb⟩ => hk.cell hq (NW _ (by rw [hb]; exact hfr.out A n c e))).more hk.size
  have HD := down_all S hS.out k i o lo l N w2.heap.size bF w.heap.size (w2.heap.size + 1) bb M J Jx A1 n1 c1 A2 n2 n2 A3' n3 c3' A4 n4 c4 (KeptX M w3) HC.out HE (fun W W' h1 h2 => h1.trans h2) (fun W hk => by have := hk.size; have := x3.size; omega) lvl
    a xs [] w3 ha ha2 hn.out hsp.out (HC.out.ext _ _ _ hJ.out x3).1 (KeptX.refl _ _) (by simpa using hN.out)
  refine HD.mono ?_
  clear HD HE NW hB0 hst3 hnow hbb3 ry3 rf3 hnf3 rb3 rd3 hw3
  rintro e w4 (⟨rfl, ys, hy, hJ4, -⟩ | ⟨rfl, ys, rest, hy, hJ4⟩)
  · rw [List.nil_append] at hJ4
    replace hJ4 := Lib.hid hJ4
    replace hy := Lib.hid hy
    go_wp2_with fail
    go_end0
    exact ⟨⟨_, rfl⟩, .inl ⟨ys, hy.out, hJ4.out⟩⟩
  · rw [List.nil_append] at hJ4
    replace hJ4 := Lib.hid hJ4
    replace hy := Lib.hid hy
    go_wp2_with fail
    go_end0
    exact ⟨⟨_, rfl⟩, .inr ⟨ys, rest, hy.out, hJ4.out⟩⟩
end Go.Proofs.YtckhnchnbeoogaaGreat
/- A range over items: the law, where a round is told what it is handed. -/
namespace Go.Proofs.YtckhnchnbeoogaaGreat
set_option linter.unusedSimpArgs false
set_option linter.unusedVariables false
open Go.RowKit

def MX (B : Nat) (M0 : World → Nat → Prop) (W : World) (b : Nat) : Prop := b = B ∨ b = B + 1 ∨ M0 W b
structure Tw (B : Nat) (W W' : World) : Prop where
  os : W'.os = W.os
  tape : W'.tape = W.tape
  output : W'.output = W.output
  size : W.heap.size ≤ W'.heap.size
  same : ∀ k, k < W.heap.size → k ≠ B → k ≠ B + 1 → W'.heap[k]? = W.heap[k]?
theorem Tw.of_ext {B : Nat} {W W' : World} (h : Ext W W') : Tw B W W' := ⟨h.os, h.tape, h.output, h.size, fun k hk _ _ => h.block k hk⟩
theorem Tw.put {B : Nat} (W : World) (o : Obj) : Tw B W (W.putObj (B + 1) o) := ⟨rfl, rfl, rfl, by simp [World.putObj], fun k _ _ h => World.putObj_heap_other h⟩
theorem Tw.row {B : Nat} {W W' : World} (h : Tw B W W') {b : Nat} {o : Obj} (h1 : b ≠ B) (h2 : b ≠ B + 1) (hr : W.heap[b]? = some o) : W'.heap[b]? = some o := (h.same b (Array.getElem?_eq_some_iff.1 hr).1 h1 h2).trans hr
def roundX (B : Nat) (M0 : World → Nat → Prop) (I Ix : List X3 → World → Prop) (xs : List X3) (W : World) : Exit → Act → World → Prop
  | .normal, _, W' => (KeptX (MX B M0) W W' ∧ W'.heap[B]? = W.heap[B]? ∧ W'.heap[B + 1]? = W.heap[B + 1]?) ∧ I xs W'
  | .exit id, _, W' => (W'.heap[B]? = W.heap[B]? ∧ W'.heap[B + 1]? = W.heap[B + 1]?) ∧ id = 0 ∧ Ix xs W'
  | _, _, _ => False

theorem wpListIn_stop {F : Fence} {n : Nat} {P : Program} {ops : Array Oper} {l : List Oper} {a : Act} {w : World} {Q : Exit → Act → World → Prop} (h : Stopped (wpListIn F n P ops Q l a w)) : wpListIn F n P ops Q l a w := h
theorem wpListIn_push {F : Fence} {nf : Nat} {P : Program} (w : World) {ops : Array Oper} {rest : List Oper} {o : Oper} {a : Act} {Q : Exit → Act → World → Prop} (hgd : o.guard = none) (s x : Operand) (t : TypeId)
    (ho : o.op = .call { callee := .builtin .append, args := #[s, x], argTypes := #[t, t] })
    (base : Nat) (e : TypeId) (i : TypeInfo) (z : Value) (size bytes : Nat) (ht : P.underlying t = some (.slice e)) (hi : P.info? e = some i) (hz : i.zero = some z)
    (hsize : i.size = size) (hby : i.bytes = bytes) (hzs : z.cells.size = size) (hsz : 0 < size)
    (v : Value) (n : Nat) (xs : List Value) (hs : a.eval s = v) (hown : w.ownsRow base e size v n xs) (cs : Array Value)
    (hx : a.eval x = .slice (some ⟨w.heap.size, 0, none⟩) 1 1) (hl : cs.size = size) (h1 : ∀ u ∈ cs.toList, u.oneCell' = true)
    (hn : n < 1073741824) (hbytes : bytes ≤ 65536) (hbase : base ≤ w.heap.size)
    (h : ∀ v' w', w'.ownsRow base e size v' (n + 1) (xs ++ cs.toList) → w.grownBy w' v.ownBlock → (v'.ownBlock = v.ownBlock ∨ ∃ g, v'.ownBlock = some g ∧ w.heap.size ≤ g) → wpListIn F nf P ops Q rest (a.put o.dst v') w') :
    wpListIn F nf P ops Q (o :: rest) a (w.alloc (.cells cs e)) := by
  refine wpListIn_plain hgd fun K hK => ?_
  have hb : (n + 1) * bytes ≤ 140737488355328 := Nat.le_trans (Nat.mul_le_mul_left _ hbytes) (by omega)
  have hm : n + 1 ≤ maxLen := by unfold maxLen; omega
  obtain ⟨v', w', hrun, h2, h3, _, h5⟩ := run_append_own_at (P := P) (w.alloc (.cells cs e)) base t o.type e i z size bytes ht hi hz hsize hby hzs hsz v n xs (hown.alloc _) ⟨w.heap.size, 0, none⟩ 1 1 cs.toList
    (by rw [Array.length_toList]; omega) (adds_new w cs e) h1 hm hb (by simp; omega)
  have hg : w.grownBy w' v.ownBlock := ⟨h3.os, h3.tape, h3.output, Nat.le_trans (by simp) h3.size, fun k hk hne => (h3.block k (by simp; omega) hne).trans (Below.heap_alloc w _ k hk)⟩
  unfold Oper.wpIn
  refine ⟨?_, ?_⟩
  · simp [Oper.about, ho, resolve, Target.leads, Sem.run_pure]
  · rw [Oper.semAt_plain F _ _ (by rw [ho]; intro c hc'; cases hc')]
    simp only [execOp, ho, resolve, invoke, builtin, Sem.run_bind, Sem.run_pure, Result.andThen_ok, List.map_toArray, List.map_cons, List.map_nil, hs, hx, hrun]
    exact hK _ _ (h v' w' h2 hg (h5.imp id fun e => ⟨_, e, by simp⟩))

theorem range_items {n : Nat} {g : Operand} {p : Tmp} {assign body : Code} {Q : Exit → Act → World → Prop} {a : Act} {w : World} (hn : 1 ≤ n)
    {gf : Nat} {lb : Array Value} (hg : a.eval g = .func (.func gf) #[] lb) (eg : ∀ args w, (callFunc gf args).run Tryz.prog w = .ok (.enter gf args) w)
    (lo N : Nat) (M0 : World → Nat → Prop) (I Ix : List X3 → World → Prop) (zs : List It) (hlo : lo ≤ w.heap.size) (hM : ∀ W b, M0 W b → lo ≤ b)
    (hI : ∀ pre W W', I pre W → Tw w.heap.size W W' → I pre W' ∧ ∀ b, M0 W' b → M0 W b) (hIx : ∀ pre W W', Ix pre W → Tw w.heap.size W W' → Ix pre W') (hlt : ∀ pre W b, I pre W → M0 W b → b < W.heap.size) (h0 : I [] w)
    (hiter : ∀ (J Jx : List X3 → World → Prop) (W : World), Ext w W → IterC lo (MX w.heap.size M0) J Jx (w.heap.size + 1) N → J [] W →
      CallsIn Fence.wide (n - 1) Tryz.prog gf (#[.func (.yield (w.heap.size + 1)) #[] #[]] ++ lb) W fun e W' => (∃ v, e = .returned v) ∧ ((∃ xs : List X3, xs.map (·.1) = zs ∧ J xs W') ∨ ∃ (xs : List X3) (rest : List It), xs.map (·.1) ++ rest = zs ∧ Jx xs W'))
    (a1 : Nat → X3 → Act) (ty : TypeId)
    (hassign : ∀ (m : Nat) (x : X3) (W : World) (K : Act → World → Prop), K (a1 W.heap.size x) (W.alloc (.cells (itemCs x.1 x.2.1 x.2.2) ty)) →
      assign.wpIn (Fence.wide.inRound (w.heap.size + 1)) m Tryz.prog (Exit.then K (fun _ _ _ => False)) { tmps := a.tmps.setIfInBounds p (encX x), defers := [] } W)
    (hbody : ∀ (m : Nat) (pre : List X3) (x : X3) (bx : Nat) (W : World), w.heap.size + 1 < bx → W.heap[bx]? = some (.cells (itemCs x.1 x.2.1 x.2.2) ty (0, 0)) → ¬ M0 W bx → I pre W → FctX (MX w.heap.size M0) lo x W → pre.length < N →
      body.wpIn (Fence.wide.inRound (w.heap.size + 1)) m Tryz.prog (roundX w.heap.size M0 I Ix (pre ++ [x]) W) (a1 bx x) W)
    (hdone : ∀ (xs : List X3) (W : World), xs.map (·.1) = zs → I xs W → W.heap[w.heap.size]? = some (.deferred (some [])) → Q .normal { a with defers := { target := .collected w.heap.size, args := #[] } :: a.defers } W)
    (hstop : ∀ (xs : List X3) (rest : List It) (W : World), xs.map (·.1) ++ rest = zs → Ix xs W → W.heap[w.heap.size]? = some (.deferred (some [])) → (Code.exit 0).wpIn Fence.wide n Tryz.prog Q { a with defers := { target := .collected w.heap.size, args := #[] } :: a.defers } W) :
    (Code.rangeFunc g #[p] assign body).wpIn Fence.wide n Tryz.prog Q a w := by
  obtain ⟨B, hB⟩ : ∃ B, B = w.heap.size := ⟨_, rfl⟩
  refine wpIn_rangeFunc fun fn hfn => ?_
  obtain ⟨R, hR⟩ : ∃ R : LoopState → Option Code → Loop, R = fun st pe => { state := st, pending := pe, fn, tmps := a.tmps, params := #[p], assign, body, defers := w.heap.size } := ⟨_, rfl⟩
  obtain ⟨W1, hW1⟩ : ∃ W1, (w.alloc (.deferred (some []))).alloc (.loop (R .ready none)) = W1 := ⟨_, rfl⟩
  have x1 : Ext w W1 := by rw [← hW1]; exact (Ext.alloc _ _).trans (Ext.alloc _ _)
  have hl1 : W1.heap[w.heap.size + 1]? = some (.loop (R .ready none)) := by
    rw [← hW1]
    have := World.alloc_heap_new (w.alloc (.deferred (some []))) (.loop (R .ready none))
    rwa [World.size_alloc] at this
  have hd1 : W1.heap[w.heap.size]? = some (.deferred (some [])) := by
    rw [← hW1]
    exact (Below.heap_alloc _ _ _ (by simp)).trans (World.alloc_heap_new w _)
  have hI1 := (hI [] w W1 h0 (Tw.of_ext x1)).1
  have KT : ∀ {pre : List X3} {W W' : World}, I pre W → Tw w.heap.size W W' → KeptX (MX w.heap.size M0) W W' := fun hi ht =>
    ⟨ht.os, ht.tape, ht.output, ht.size, fun b hb hm => ⟨ht.same b hb (fun e => hm (.inl e)) (fun e => hm (.inr (.inl e))), fun h => hm (by
      rcases h with h | h | h
      · exact .inl h
      · exact .inr (.inl h)
      · exact .inr (.inr ((hI _ _ _ hi ht).2 b h)))⟩⟩
  have HC : IterC lo (MX w.heap.size M0) (fun pre W => I pre W ∧ W.heap[w.heap.size + 1]? = some (.loop (R .ready none)) ∧ W.heap[w.heap.size]? = some (.deferred (some [])))
      (fun pre W => Ix pre W ∧ W.heap[w.heap.size + 1]? = some (.loop (R .done (some (.exit 0)))) ∧ W.heap[w.heap.size]? = some (.deferred (some []))) (w.heap.size + 1) N := by
    refine ⟨fun W b h => ?_, fun pre W b hJ h => ?_, fun pre W W' hJ hx => ⟨⟨(hI _ _ _ hJ.1 (Tw.of_ext hx)).1, row_ext hJ.2.1 hx, row_ext hJ.2.2 hx⟩, fun b h => ?_⟩, fun m pre x W hJ hF hN => ?_⟩
    · rcases h with rfl | rfl | h
      · exact hlo
      · omega
      · exact hM W b h
    · have := (Array.getElem?_eq_some_iff.1 hJ.2.1).1
      rcases h with rfl | rfl | h
      · omega
      · omega
      · exact hlt _ _ _ hJ.1 h
    · rcases h with h | h | h
      · exact .inl h
      · exact .inr (.inl h)
      · exact .inr (.inr ((hI _ _ _ hJ.1 (Tw.of_ext hx)).2 b h))
    · obtain ⟨hi, hl, hd⟩ := hJ
      have hy := run_yield (P := Tryz.prog) (args := #[encX x]) hl (by rw [hR]; rfl)
      rw [hR] at hy
      have hy' : (Instr.yield (w.heap.size + 1) #[encX x]).run Tryz.prog W = .ok (.round (w.heap.size + 1) fn (a.tmps.setIfInBounds p (encX x)) assign body) W := by rw [hy]; simp
      clear hy
      have hsz : w.heap.size + 1 < W.heap.size := (Array.getElem?_eq_some_iff.1 hl).1
      refine ⟨fn, _, assign, body, hy', roundIn_of_wpIn hfn ?_⟩
      refine hassign m x W _ ?_
      have xa : Ext W (W.alloc (.cells (itemCs x.1 x.2.1 x.2.2) ty)) := Ext.alloc _ _
      have ra : (W.alloc (.cells (itemCs x.1 x.2.1 x.2.2) ty)).heap[W.heap.size]? = some (.cells (itemCs x.1 x.2.1 x.2.2) ty (0, 0)) := World.alloc_heap_at _ _ _ rfl
      generalize W.alloc (.cells (itemCs x.1 x.2.1 x.2.2) ty) = Wa at *
      have hla := row_ext hl xa
      have hda := row_ext hd xa
      have hia := hI _ _ _ hi (Tw.of_ext xa)
      refine ⟨_, run_beginRound hla (by rw [hR]), ?_⟩
      have hla2 : (Wa.putObj (w.heap.size + 1) (.loop { R .ready none with state := .busy })).heap[w.heap.size + 1]? = some (.loop { R .ready none with state := .busy }) := World.putObj_heap_same (Array.getElem?_eq_some_iff.1 hla).1
      have hda2 : (Wa.putObj (w.heap.size + 1) (.loop { R .ready none with state := .busy })).heap[w.heap.size]? = some (.deferred (some [])) := (World.putObj_heap_other (by omega)).trans hda
      have tb := Tw.put (B := w.heap.size) Wa (.loop { R .ready none with state := .busy })
      have hib := hI _ _ _ hia.1 tb
      have rb : (Wa.putObj (w.heap.size + 1) (.loop { R .ready none with state := .busy })).heap[W.heap.size]? = _ := (World.putObj_heap_other (by omega)).trans ra
      have kb : KeptX (MX w.heap.size M0) W (Wa.putObj (w.heap.size + 1) (.loop { R .ready none with state := .busy })) := (KT hi (Tw.of_ext xa)).trans (KT hia.1 tb)
      have hnm : ¬ M0 (Wa.putObj (w.heap.size + 1) (.loop { R .ready none with state := .busy })) W.heap.size := fun h => by
        have := hlt _ _ _ hi (hia.2 _ (hib.2 _ h))
        omega
      generalize Wa.putObj (w.heap.size + 1) (.loop { R .ready none with state := .busy }) = Wb at *
      refine wpIn_mono (hbody m pre x W.heap.size Wb hsz rb hnm hib.1 (hF.kept kb) hN) ?_
      rintro e a3 W3 hp
      have fin : ∀ jump : Option Code, W3.heap[w.heap.size]? = Wb.heap[w.heap.size]? → W3.heap[w.heap.size + 1]? = Wb.heap[w.heap.size + 1]? →
          (Instr.endRound (w.heap.size + 1) jump).run Tryz.prog W3 = .ok (.bool jump.isNone) (W3.putObj (w.heap.size + 1) (.loop (R (if jump.isNone then .ready else .done) jump))) ∧
          (W3.putObj (w.heap.size + 1) (.loop (R (if jump.isNone then .ready else .done) jump))).heap[w.heap.size + 1]? = some (.loop (R (if jump.isNone then .ready else .done) jump)) ∧
          (W3.putObj (w.heap.size + 1) (.loop (R (if jump.isNone then .ready else .done) jump))).heap[w.heap.size]? = some (.deferred (some [])) := fun jump e1 e2 => by
        have hl3 := e2.trans hla2
        have h1 := run_endRound (P := Tryz.prog) jump hl3
        rw [hR] at h1 ⊢
        exact ⟨h1, World.putObj_heap_same (Array.getElem?_eq_some_iff.1 hl3).1, (World.putObj_heap_other (by omega)).trans (e1.trans hda2)⟩
      cases e with
      | normal =>
        obtain ⟨⟨hk3, e1, e2⟩, hi3⟩ := hp
        obtain ⟨f1, f2, f3⟩ := fin none e1 e2
        have t3 := Tw.put (B := w.heap.size) W3 (.loop (R .ready none))
        exact ⟨_, _, f1, .inl ⟨rfl, ⟨(hI _ _ _ hi3 t3).1, f2, f3⟩, (kb.trans hk3).trans (KT hi3 t3)⟩⟩
      | exit id =>
        obtain ⟨⟨e1, e2⟩, rfl, hi3⟩ := hp
        obtain ⟨f1, f2, f3⟩ := fin (some (.exit 0)) e1 e2
        exact ⟨_, _, f1, .inr ⟨rfl, hIx _ _ _ hi3 (Tw.put _ _), f2, f3⟩⟩
      | ret => exact hp.elim
      | goto t => exact hp.elim
      | panic ch => exact hp.elim
      | outgrown => exact hp.elim
  refine ⟨w.heap.size + 1, [{ target := .collected w.heap.size, args := #[] }], W1, { target := .fn (.func gf) lb, args := #[.func (.yield (w.heap.size + 1)) #[] #[]] }, W1, gf,
    #[.func (.yield (w.heap.size + 1)) #[] #[]] ++ lb, W1, ?_, ?_, ?_, ?_, fun _ => hn, ?_⟩
  · rw [← hW1, hR]; exact run_enterLoop_outer _ _ _ _ _
  · simp only [resolve, hg]
    simp [go_sem]
  · intro f' hf'
    exact trivial
  · simp [invoke, go_sem, eg]
  · refine (hiter _ _ W1 x1 HC ⟨hI1, hl1, hd1⟩).mono ?_
    rintro e W2 ⟨⟨v, rfl⟩, (⟨xs, hS, hi, hl, hd⟩ | ⟨xs, rest, hS, hi, hl, hd⟩)⟩
    · have h1 := run_endLoop (P := Tryz.prog) hl (by rw [hR]; simp)
      rw [hR] at h1
      exact ⟨none, _, h1, hdone xs _ hS (hI _ _ _ hi (Tw.put _ _)).1 ((World.putObj_heap_other (by omega)).trans hd)⟩
    · have h1 := run_endLoop (P := Tryz.prog) hl (by rw [hR]; simp)
      rw [hR] at h1
      exact ⟨some (.exit 0), _, h1, hstop xs rest _ hS (hIx _ _ _ hi (Tw.put _ _)) ((World.putObj_heap_other (by omega)).trans hd)⟩
end Go.Proofs.YtckhnchnbeoogaaGreat
/- Items between two keys: what a caller of the iterator has gathered. -/
namespace Go.Proofs.YtckhnchnbeoogaaGreat
set_option linter.unusedSimpArgs false
set_option linter.unusedVariables false
open Go.RowKit

theorem bys_blk {W W' : World} {v : Value} {l : List UInt8} (h : Bys W W.heap.size v l) (hs : W.heap.size ≤ W'.heap.size) (hk : ∀ b o n c, v = .slice (some ⟨b, o, none⟩) n c → 0 < l.length → W'.heap[b]? = W.heap[b]?) : Bys W' W'.heap.size v l := by
  obtain ⟨A, c, e, hc, hm, hr⟩ := h
  refine ⟨A, c, e, hc, hm, hr.1, fun hp => ?_⟩
  obtain ⟨b, off, rfl, hb, hcell⟩ := hr.2 hp
  exact ⟨b, off, rfl, by omega, fun j u hu => (World.cell?_of_block (w := W) (hk b off _ _ e hp)).trans (hcell j u hu)⟩
theorem own_blk {w w' : World} {base n size : Nat} {e : TypeId} {v : Value} {xs : List Value} (h : w.ownsRow base e size v n xs) (hk : ∀ g, v.ownBlock = some g → w'.heap[g]? = w.heap[g]?) : w'.ownsRow base e size v n xs :=
  ⟨h.1, h.2.imp id fun ⟨g, cap, cur, h1, h2, h3, h4⟩ => ⟨g, cap, cur, h1, h2, (hk g (by rw [h1]; rfl)).trans h3, h4⟩⟩
def M0 (lo : Nat) (W : World) (b : Nat) : Prop := b = lo + 3 ∨ ∃ v, W.cell? ⟨lo + 3, 0, none⟩ = some v ∧ v.ownBlock = some b ∧ lo ≤ b
structure RgI (lo B : Nat) (K : K3) (w : World) (pre : List X3) (v : Value) (W : World) : Prop where
  ro : W.heap[lo + 3]? = some (.cells #[v] 44 (0, 0))
  rt : W.heap[lo + 2]? = some (.cells #[.int .u8 K.1, .int .u32 K.2.1, .int .u32 K.2.2] 34 (0, 0))
  row : Row5 (B + 2) lo W v (pre.map fun x => (x.1, xVal x))
  nz : ∀ x ∈ pre, Nz W (xVal x)
  off : ∀ x ∈ pre, ∀ b o, x.2.1 = some ⟨b, o, none⟩ → 0 < x.1.val.length → b ≠ lo + 3 ∧ b ≠ B ∧ b ≠ B + 1
  le : ∀ x ∈ pre, lessK K (keyIt x.1) = false
  blw : Below lo w W
theorem nz_blk {W W' : World} {x : X3} (hb : Bys W W.heap.size (xVal x) x.1.val) (h : Nz W (xVal x)) (hk : ∀ b o, x.2.1 = some ⟨b, o, none⟩ → 0 < x.1.val.length → W'.heap[b]? = W.heap[b]?) : Nz W' (xVal x) := fun a n c e hn => by
  obtain ⟨cs, ty, hr⟩ := h a n c e hn
  obtain ⟨A, c', e1, -, -, h4⟩ := hb
  simp only [xVal, Value.slice.injEq] at e e1
  obtain ⟨b', off, e4, -, -⟩ := h4.2 (by omega)
  have e5 : a = ⟨b', off, none⟩ := by
    have : some a = some ⟨b', off, none⟩ := by rw [← e.1, e1.1, e4]
    exact Option.some.inj this
  subst e5
  exact ⟨cs, ty, (hk b' off e.1 (by omega)).trans hr⟩
theorem RgI.mem {lo B : Nat} {K : K3} {w W : World} {pre : List X3} {v : Value} (h : RgI lo B K w pre v W) {x : X3} (hx : x ∈ pre) : From lo (xVal x) ∧ Bys W W.heap.size (xVal x) x.1.val ∧ Apart v (xVal x) := by
  have := h.row.2 (x.1, xVal x) (List.mem_map.2 ⟨x, hx, rfl⟩)
  exact ⟨this.1.2, this.2.1, this.2.2⟩
theorem RgI.blk {lo B : Nat} {K : K3} {w W W' : World} {pre : List X3} {v : Value} (h : RgI lo B K w pre v W) (hB : lo + 3 < B) (hs : W.heap.size ≤ W'.heap.size) (hk : ∀ b, b < W.heap.size → b ≠ B → b ≠ B + 1 → W'.heap[b]? = W.heap[b]?) (hb : Below lo w W') : RgI lo B K w pre v W' := by
  have hbl : ∀ x ∈ pre, ∀ b o, x.2.1 = some ⟨b, o, none⟩ → 0 < x.1.val.length → W'.heap[b]? = W.heap[b]? := fun x hx b o e hp => by
    obtain ⟨-, h2, h3⟩ := h.off x hx b o e hp
    obtain ⟨-, hy, -⟩ := h.mem hx
    obtain ⟨A, c, e1, -, -, hr⟩ := hy
    obtain ⟨b', o', e4, e5, -⟩ := hr.2 hp
    simp only [xVal, Value.slice.injEq] at e1
    rw [e, e4] at e1
    simp only [Option.some.injEq, Addr.mk.injEq] at e1
    exact hk b (by omega) h2 h3
  have z3 := (Array.getElem?_eq_some_iff.1 h.ro).1
  refine ⟨(hk _ z3 (by omega) (by omega)).trans h.ro, (hk _ (by omega) (by omega) (by omega)).trans h.rt, ⟨own_blk h.row.1 fun g hg => ?_, fun p hp => ?_⟩, fun x hx => nz_blk (h.mem hx).2.1 (h.nz x hx) (hbl x hx), h.off, h.le, hb⟩
  · have := own_lt h.row.1 g hg
    exact hk g this.2 (by omega) (by omega)
  · obtain ⟨x, hx, rfl⟩ := List.mem_map.1 hp
    refine ⟨(h.row.2 _ hp).1, bys_blk (h.mem hx).2.1 hs (fun b o n c e hp' => hbl x hx b o ?_ hp'), (h.row.2 _ hp).2.2⟩
    simp only [xVal, Value.slice.injEq] at e
    exact e.1
theorem RgI.tw {lo B : Nat} {K : K3} {w W W' : World} {pre : List X3} {v : Value} (h : RgI lo B K w pre v W) (hB : lo + 3 < B) (ht : Tw B W W') : RgI lo B K w pre v W' ∧ ∀ b, M0 lo W' b → M0 lo W b := by
  have z3 := (Array.getElem?_eq_some_iff.1 h.ro).1
  refine ⟨h.blk hB ht.size ht.same ?_, fun b hb => ?_⟩
  · exact h.blw.trans ⟨ht.os, ht.tape, ht.output, ht.size, fun k hk => ht.same k (by omega) (by omega) (by omega)⟩
  · rcases hb with hb | ⟨v', h1, h2⟩
    · exact .inl hb
    · have hs : W'.heap[(⟨lo + 3, 0, none⟩ : Addr).block]? = W.heap[(⟨lo + 3, 0, none⟩ : Addr).block]? := ht.same (lo + 3) z3 (by omega) (by omega)
      rw [World.cell?_of_block hs] at h1
      exact .inr ⟨v', h1, h2⟩
theorem RgI.lt {lo B : Nat} {K : K3} {w W : World} {pre : List X3} {v : Value} (h : RgI lo B K w pre v W) {b : Nat} (hb : M0 lo W b) : b < W.heap.size := by
  rcases hb with rfl | ⟨v', h1, h2, -⟩
  · exact (Array.getElem?_eq_some_iff.1 h.ro).1
  · rw [cells_row h.ro] at h1
    cases h1
    exact (own_lt h.row.1 b h2).2
theorem RgI.push {lo B : Nat} {K : K3} {w W W' : World} {pre : List X3} {v v' : Value} (h : RgI lo B K w pre v W) (hB : lo + 3 < B) (hBW : B + 1 < W.heap.size) {x : X3} (hF : FctX (MX B (M0 lo)) lo x W) (hl : lessK K (keyIt x.1) = false)
    (hD : Done (B + 2) 38 5 W.heap.size v (pre.length + 1) (cells5 (pre.map fun x => (x.1, xVal x)) ++ item5 x.1 (xVal x)) v' W') (hg : W.grownBy W' v.ownBlock) :
    RgI lo B K w (pre ++ [x]) v' (W'.setCell ⟨lo + 3, 0, none⟩ v') ∧ (KeptX (MX B (M0 lo)) W (W'.setCell ⟨lo + 3, 0, none⟩ v') ∧ (W'.setCell ⟨lo + 3, 0, none⟩ v').heap[B]? = W.heap[B]? ∧ (W'.setCell ⟨lo + 3, 0, none⟩ v').heap[B + 1]? = W.heap[B + 1]?) := by
  have z3 := (Array.getElem?_eq_some_iff.1 h.ro).1
  have hvl := own_lt h.row.1
  have hxo : ∀ b o, x.2.1 = some ⟨b, o, none⟩ → 0 < x.1.val.length → b ≠ lo + 3 ∧ b ≠ B ∧ b ≠ B + 1 ∧ v.ownBlock ≠ some b := fun b o e hp => by
    have hm := hF.own b o e hp
    refine ⟨fun e => hm (.inr (.inr (.inl e))), fun e => hm (.inl e), fun e => hm (.inr (.inl e)), fun e' => hm (.inr (.inr (.inr ⟨v, cells_row h.ro 0, e', ?_⟩)))⟩
    have := hF.fr ⟨b, o, none⟩ _ _ (by rw [← e])
    exact this
  have hap : Apart v (xVal x) := fun a n c e hn => by
    obtain ⟨A, c', e1, -, -, h4⟩ := hF.by_
    simp only [xVal, Value.slice.injEq] at e e1
    obtain ⟨b', off, e4, -, -⟩ := h4.2 (by omega)
    have e5 : a = ⟨b', off, none⟩ := by
      have : some a = some ⟨b', off, none⟩ := by rw [← e.1, e1.1, e4]
      exact Option.some.inj this
    subst e5
    exact (hxo b' off e.1 (by omega)).2.2.2
  have hR := h.row.push x.1 x.2.1 x.2.2 hF.by_ hF.fr hap rfl (by rw [List.length_map]; exact hD) hg
  have hr3 : W'.heap[lo + 3]? = some (.cells #[v] 44 (0, 0)) := (hg.block _ z3 (fun e => by have := hvl _ e.symm; omega)).trans h.ro
  have hst : ∀ b, b < W.heap.size → b ≠ lo + 3 → v.ownBlock ≠ some b → (W'.setCell ⟨lo + 3, 0, none⟩ v').heap[b]? = W.heap[b]? := fun b hb h1 h2 => (Below.heap_setCell _ _ _ _ h1).trans (hg.block b hb fun e => h2 e.symm)
  have hoff : ∀ y ∈ pre ++ [x], ∀ b o, y.2.1 = some ⟨b, o, none⟩ → 0 < y.1.val.length → b ≠ lo + 3 ∧ b ≠ B ∧ b ≠ B + 1 := fun y hy b o e hp => by
    rcases List.mem_append.1 hy with hy | hy
    · exact h.off y hy b o e hp
    · obtain rfl : y = x := by simpa using hy
      exact ⟨(hxo b o e hp).1, (hxo b o e hp).2.1, (hxo b o e hp).2.2.1⟩
  have hsz : (W'.setCell ⟨lo + 3, 0, none⟩ v').heap.size = W'.heap.size := by simp
  refine ⟨⟨row_set hr3 0 _, (hst _ (by omega) (by omega) (fun e => by have := hvl _ e; omega)).trans h.rt, ?_, ?_, hoff, ?_, ?_⟩, ⟨?_, ?_⟩⟩
  · rw [List.map_append]
    refine ⟨own_setCell hR.1 (by simp; omega) _, fun p hp => ?_⟩
    have hp' := hR.2 p hp
    refine ⟨hp'.1, ?_, hp'.2.2⟩
    obtain ⟨y, hy, rfl⟩ : ∃ y ∈ pre ++ [x], (y.1, xVal y) = p := by
      rcases List.mem_append.1 hp with hp | hp
      · obtain ⟨y, hy, e⟩ := List.mem_map.1 hp
        exact ⟨y, List.mem_append_left _ hy, e⟩
      · exact ⟨x, by simp, (by simpa using hp : p = (x.1, xVal x)).symm⟩
    refine bys_blk hp'.2.1 (by simp) (fun b o n c e hp2 => Below.heap_setCell _ _ _ _ ?_)
    simp only [xVal, Value.slice.injEq] at e
    exact (hoff y hy b o e.1 hp2).1
  · have := nz_push h.row (fun p hp => by
      obtain ⟨y, hy, rfl⟩ := List.mem_map.1 hp
      exact h.nz y hy) (x := x.1) hF.nz hap hg ⟨lo + 3, 0, none⟩ v'
    intro y hy
    refine this (y.1, xVal y) ?_
    rcases List.mem_append.1 hy with hy | hy
    · exact List.mem_append_left _ (List.mem_map.2 ⟨y, hy, rfl⟩)
    · obtain rfl : y = x := by simpa using hy
      simp
  · intro y hy
    rcases List.mem_append.1 hy with hy | hy
    · exact h.le y hy
    · obtain rfl : y = x := by simpa using hy
      exact hl
  · exact h.blw.trans (Below.setCell ((Below.refl lo W).grown hg (by omega) (fun k hk => by have := hvl k hk; omega)) (p := ⟨lo + 3, 0, none⟩) (by simp) _)
  · refine ⟨hg.os, hg.tape, hg.output, by rw [hsz]; exact hg.size, fun b hb hm => ?_⟩
    have h1 : b ≠ lo + 3 := fun e => hm (.inr (.inr (.inl e)))
    have h2 : v.ownBlock ≠ some b := fun e => hm (.inr (.inr (.inr ⟨v, cells_row h.ro 0, e, by have := hvl b e; omega⟩)))
    refine ⟨hst b hb h1 h2, fun h' => ?_⟩
    rcases h' with h' | h' | h' | ⟨u, hu, h3, -⟩
    · exact hm (.inl h')
    · exact hm (.inr (.inl h'))
    · exact h1 h'
    · rw [cells_row (row_set hr3 0 v')] at hu
      cases hu
      replace h3 : v'.ownBlock = some b := h3
      rcases hD.2 with h4 | ⟨g, h4, h5⟩
      · exact h2 (h4 ▸ h3)
      · rw [h4] at h3
        cases h3
        omega
  · exact ⟨hst B (by omega) (by omega) (fun e => by have := hvl _ e; omega), hst (B + 1) hBW (by omega) (fun e => by have := hvl _ e; omega)⟩
theorem range_end {B : Nat} {K : K3} {w W : World} {pre : List X3} {v : Value} (h : RgI w.heap.size B K w pre v W) (hB : w.heap.size + 3 < B) (hD : W.heap[B]? = some (.deferred (some []))) (u : Value) :
    Row5 w.heap.size w.heap.size ((W.setCell ⟨w.heap.size + 3, 0, none⟩ u).putObj B (.deferred none)) v (pre.map fun x => (x.1, xVal x)) ∧ (∀ p ∈ pre.map fun x : X3 => (x.1, xVal x), Nz ((W.setCell ⟨w.heap.size + 3, 0, none⟩ u).putObj B (.deferred none)) p.2) ∧ Below w.heap.size w ((W.setCell ⟨w.heap.size + 3, 0, none⟩ u).putObj B (.deferred none)) := by
  have hk : ∀ b, b ≠ w.heap.size + 3 → b ≠ B → ((W.setCell ⟨w.heap.size + 3, 0, none⟩ u).putObj B (.deferred none)).heap[b]? = W.heap[b]? := fun b h1 h2 => (World.putObj_heap_other h2).trans (Below.heap_setCell _ _ _ _ h1)
  have hs : ((W.setCell ⟨w.heap.size + 3, 0, none⟩ u).putObj B (.deferred none)).heap.size = W.heap.size := by simp [World.putObj]
  have hbl : ∀ x ∈ pre, ∀ b o, x.2.1 = some ⟨b, o, none⟩ → 0 < x.1.val.length → ((W.setCell ⟨w.heap.size + 3, 0, none⟩ u).putObj B (.deferred none)).heap[b]? = W.heap[b]? := fun x hx b o e hp => hk b (h.off x hx b o e hp).1 (h.off x hx b o e hp).2.1
  refine ⟨⟨own_mono (own_blk h.row.1 fun g hg => ?_) (by omega), fun p hp => ?_⟩, fun p hp => ?_, ?_⟩
  · have := own_lt h.row.1 g hg
    exact hk g (by omega) (by omega)
  · obtain ⟨x, hx, rfl⟩ := List.mem_map.1 hp
    refine ⟨(h.row.2 _ hp).1, bys_blk (h.mem hx).2.1 (by rw [hs]; exact Nat.le_refl _) (fun b o n c e hp' => hbl x hx b o ?_ hp'), (h.row.2 _ hp).2.2⟩
    simp only [xVal, Value.slice.injEq] at e
    exact e.1
  · obtain ⟨x, hx, rfl⟩ := List.mem_map.1 hp
    exact nz_blk (h.mem hx).2.1 (h.nz x hx) (hbl x hx)
  · exact h.blw.trans ⟨rfl, rfl, rfl, by rw [hs]; exact Nat.le_refl _, fun k hk' => hk k (by omega) (by omega)⟩
end Go.Proofs.YtckhnchnbeoogaaGreat
