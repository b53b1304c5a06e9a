/- Texts RWrite, RPut, CloneS, Settle, Barrier, CSum, Steps, joined. -/
import Derived.Test.YtlgbjpihmkeopaaP03
import Derived.Test.YtlgbjpihmkeopaaP06
import Derived.Test.YtlgbjpihmkeopaaP07
import Derived.Test.YtlgbjpihmkeopaaP16
import Derived.Test.YtlgbjpihmkeopaaP18
import Derived.Test.YtlgbjpihmkeopaaP20
/- Contracts: a superblock's block. -/
namespace Go.Proofs.Ytlgbjpihmkeopaa
set_option linter.unusedSimpArgs false
set_option linter.unusedVariables false
open Go.RowKit

def outOw (lo : Nat) (l : List UInt8) : Outs := ⟨Option Addr × Nat, fun p => .slice p.1 l.length p.2, fun p W => W.ownsRow lo 5 1 (.slice p.1 l.length p.2) l.length (l.map bv)⟩
theorem outOw_f (lo : Nat) (l : List UInt8) (A : Option Addr) (c : Nat) : (outOw lo l).f (A, c) = .slice A l.length c := rfl
theorem outOw_stable (lo : Nat) (l : List UInt8) : ∀ p, Stable ((outOw lo l).φ p) := fun p W W' he h => own_ext h he
structure RwI (w : World) (B : Nat) (n : Nat) (v i : Value) (wr : World) : Prop where
  ex : ∃ (k : Nat) (l : List UInt8), k ≤ n ∧ i = .int .i64 (k : Int) ∧ l.length = 15 + 2 * k ∧ wr.ownsRow B 5 1 v l.length (l.map bv) ∧ B ≤ wr.heap.size ∧ Below w.heap.size w wr
set_option maxHeartbeats 4000000 in
set_option maxRecDepth 100000 in
theorem rwrite_in (g root next table : Nat) (hg : g < 4294967296) (hn : next < 4294967296) (ht : table < 4294967296) (A : Option Addr) (c : Nat) (dead : List Int) (hl : dead.length ≤ 40) (hall : ∀ x ∈ dead, 8 ≤ x ∧ x < 256) (hr8 : 8 ≤ root) (hr256 : root < 256) (w : World) (h : Ints w w.heap.size (.slice A dead.length c) dead) :
    Calls Try.prog 93 #[.agg (superCs g root next table A dead.length c)] w (RetS (fun u W => ∃ A' c' l, u = .tuple #[.slice A' 128 c', .int .i64 0] ∧ l.length = 128 ∧ Bys W W.heap.size (.slice A' 128 c') l) w) := by
  obtain ⟨i0, hi, hz0, hz1, hz2⟩ := info_parts Try.info_u8
  have HC := Lib.hid (fun W (hx : Ext w W) => rgcheck_in g root next table A c dead hl hall (by omega) (by omega) W (h.ext_ hx))
  have hlb : bv (UInt8.ofNat dead.length) = .int .u8 ((dead.length : Nat) : Int) := by simp [bv]; omega
  have hcv : IntKind.u8.wrap ((dead.length : Nat) : Int) = ((dead.length : Nat) : Int) := by simp [IntKind.wrap, IntKind.bits, IntKind.signed]; omega
  obtain ⟨FL, hFL⟩ : ∃ FL : List (List UInt8), FL = [bytesOf g 4, bytesOf root 2, bytesOf next 4, bytesOf table 4, [UInt8.ofNat dead.length]] := ⟨_, rfl⟩
  have HL : Hid (FL.flatten.length = 15) := Lib.hid (by rw [hFL]; simp [bytesOf_len])
  replace hlb := Lib.hid hlb
  replace h := Lib.hid h
  replace hall := Lib.hid hall
  go_enter Try.func93, Try.ntmps93
  go_wp2_with fail
  generalize hw1 : World.alloc w _ = w1
  have x1 : Ext w w1 := by rw [← hw1]; exact Ext.alloc _ _
  have r1 : w1.heap[w.heap.size]? = some (.cells (superCs g root next table A dead.length c) 128 (0, 0)) := by rw [← hw1]; exact World.alloc_heap_at _ _ _ rfl
  clear hw1
  refine (HC.out w1 x1).mono ?_
  rintro e w2 ⟨rfl, hB⟩
  have x2 : Ext w w2 := Ext.trans x1 hB
  have r2 := row_ext r1 hB
  have k2 := cells_row r2
  clear hB r1 x1 HC
  go_wp2_with fail
  refine (two_any root (by omega) _).mono ?_
  rintro e w3 ⟨u, rfl, ⟨u2, rfl, A2, c2, rfl, hb2, hf2⟩, hB⟩
  have x3 : Ext w w3 := Ext.trans x2 hB
  have r3 := row_ext r2 hB
  have z3 := x2.size
  have zr := (Array.getElem?_eq_some_iff.1 r3).1
  clear hB k2 r2 x2
  go_wp2_with fail
  have hE : ∀ W, Ext w3 W → ∀ j, W.cell? ⟨w.heap.size, j, none⟩ = (superCs g root next table A dead.length c)[j]? := fun W h => cells_row (row_ext r3 h)
  refine wp_region_free (outsAt [(2, outB w3.heap.size 4 (bytesOf g 4)), (6, outB w3.heap.size 4 (bytesOf next 4)), (9, outB w3.heap.size 4 (bytesOf table 4)), (14, outLit w3.heap.size 1 5 #[.int .u8 (dead.length : Nat)]), (15, outLitS w3.heap.size 5 26 (Reads FL)), (16, outOw w3.heap.size FL.flatten)]) 17 (by kernel_rfl) (by kernel_rfl) (by kernel_rfl) (by decide) (by kernel_rfl) (by kernel_rfl) ?st ?walk
  case st => exact outsAt_stable (by simp only [List.forall_mem_cons]; exact ⟨outB_stable _ _ _, outB_stable _ _ _, outB_stable _ _ _, outLit_stable _ _ _ _, outLitS_stable (Reads.stable _), outOw_stable _ _, fun _ h => by cases h⟩)
  case walk =>
    intro K hK
    dsimp only [List.take]
    repeat ((first | (refine free_plain ?_ (by rfl) (by rfl) (fun W hW _ => ⟨W, ?_, Ext.refl W⟩) ?_; rotate_left; (first | (go_simp; with_reducible rfl) | (go_simp; done))) | (refine free_skip (by rfl) ?_)); try simp only [Act.put, one_f, outB_f, outNew_f, outI_f, outLit_f, outLitS_f, outB_f, outOw_f, List.setIfInBounds_toArray, List.set_cons_zero, List.set_cons_succ])
    refine free_hard (outB w3.heap.size 4 (bytesOf g 4)) (by rfl) (by rfl) (fun W hW _ => ?_) (fun p7 => ?_)
    · refine hardAt_call ?_ ((four_any g hg W).mono fun e w' h => ?_)
      · go_simp
      obtain ⟨u, rfl, ⟨A, c, rfl, h1, h2⟩, h3⟩ := h
      exact ⟨(A, c), rfl, ⟨h1, h2.mono hW.size⟩, h3⟩
    obtain ⟨A7, c7⟩ := p7
    simp only [Act.put, one_f, outB_f, outNew_f, outI_f, outLit_f, outLitS_f, outB_f, outOw_f, List.setIfInBounds_toArray, List.set_cons_zero, List.set_cons_succ]
    repeat ((first | (refine free_plain ?_ (by rfl) (by rfl) (fun W hW _ => ⟨W, ?_, Ext.refl W⟩) ?_; rotate_left; (first | (go_simp; with_reducible rfl) | (go_simp; done))) | (refine free_skip (by rfl) ?_)); try simp only [Act.put, one_f, outB_f, outNew_f, outI_f, outLit_f, outLitS_f, outB_f, outOw_f, List.setIfInBounds_toArray, List.set_cons_zero, List.set_cons_succ])
    refine free_hard (outB w3.heap.size 4 (bytesOf next 4)) (by rfl) (by rfl) (fun W hW _ => ?_) (fun p11 => ?_)
    · refine hardAt_call ?_ ((four_any next hn W).mono fun e w' h => ?_)
      · go_simp
      obtain ⟨u, rfl, ⟨A, c, rfl, h1, h2⟩, h3⟩ := h
      exact ⟨(A, c), rfl, ⟨h1, h2.mono hW.size⟩, h3⟩
    obtain ⟨A11, c11⟩ := p11
    simp only [Act.put, one_f, outB_f, outNew_f, outI_f, outLit_f, outLitS_f, outB_f, outOw_f, List.setIfInBounds_toArray, List.set_cons_zero, List.set_cons_succ]
    repeat ((first | (refine free_plain ?_ (by rfl) (by rfl) (fun W hW _ => ⟨W, ?_, Ext.refl W⟩) ?_; rotate_left; (first | (go_simp; with_reducible rfl) | (go_simp; done))) | (refine free_skip (by rfl) ?_)); try simp only [Act.put, one_f, outB_f, outNew_f, outI_f, outLit_f, outLitS_f, outB_f, outOw_f, List.setIfInBounds_toArray, List.set_cons_zero, List.set_cons_succ])
    refine free_hard (outB w3.heap.size 4 (bytesOf table 4)) (by rfl) (by rfl) (fun W hW _ => ?_) (fun p12 => ?_)
    · refine hardAt_call ?_ ((four_any table ht W).mono fun e w' h => ?_)
      · go_simp
      obtain ⟨u, rfl, ⟨A, c, rfl, h1, h2⟩, h3⟩ := h
      exact ⟨(A, c), rfl, ⟨h1, h2.mono hW.size⟩, h3⟩
    obtain ⟨A12, c12⟩ := p12
    simp only [Act.put, one_f, outB_f, outNew_f, outI_f, outLit_f, outLitS_f, outB_f, outOw_f, List.setIfInBounds_toArray, List.set_cons_zero, List.set_cons_succ]
    repeat ((first | (refine free_plain ?_ (by rfl) (by rfl) (fun W hW _ => ⟨W, ?_, Ext.refl W⟩) ?_; rotate_left; (first | (go_simp; with_reducible rfl) | (go_simp; done))) | (refine free_skip (by rfl) ?_)); try simp only [Act.put, one_f, outB_f, outNew_f, outI_f, outLit_f, outLitS_f, outB_f, outOw_f, List.setIfInBounds_toArray, List.set_cons_zero, List.set_cons_succ])
    refine free_hard (outLit w3.heap.size 1 5 #[.int .u8 (dead.length : Nat)]) (by rfl) (by rfl) (fun W hW _ => ?_) (fun (p17 : Nat) => ?_)
    · refine hardAt_lit ?_ hW.size
      go_simp
    simp only [Act.put, one_f, outB_f, outNew_f, outI_f, outLit_f, outLitS_f, outB_f, outOw_f, List.setIfInBounds_toArray, List.set_cons_zero, List.set_cons_succ]
    repeat ((first | (refine free_plain ?_ (by rfl) (by rfl) (fun W hW _ => ⟨W, ?_, Ext.refl W⟩) ?_; rotate_left; (first | (go_simp; with_reducible rfl) | (go_simp; done))) | (refine free_skip (by rfl) ?_)); try simp only [Act.put, one_f, outB_f, outNew_f, outI_f, outLit_f, outLitS_f, outB_f, outOw_f, List.setIfInBounds_toArray, List.set_cons_zero, List.set_cons_succ])
    refine free_hard (outLitS w3.heap.size 5 26 (Reads FL)) (by rfl) (by rfl) (fun W hW hp => ?_) (fun (p20 : Nat) => ?_)
    · obtain ⟨f7, _⟩ : Bys W W.heap.size (.slice A7 4 c7) (bytesOf g 4) ∧ _ := (hp 2 (by decide)).1
      obtain ⟨f11, _⟩ : Bys W W.heap.size (.slice A11 4 c11) (bytesOf next 4) ∧ _ := (hp 6 (by decide)).1
      obtain ⟨f12, _⟩ : Bys W W.heap.size (.slice A12 4 c12) (bytesOf table 4) ∧ _ := (hp 9 (by decide)).1
      obtain ⟨f17, _⟩ : W.heap[p17]? = some (.cells #[.int .u8 (dead.length : Nat)] 5 (0, 0)) ∧ w3.heap.size ≤ p17 := (hp 14 (by decide)).1
      have hR : Reads FL [.slice A7 4 c7, .slice A2 2 c2, .slice A11 4 c11, .slice A12 4 c12, .slice (some ⟨p17, 0, none⟩) 1 1] W := by
        subst hFL
        rw [← hlb.out] at f17
        refine ⟨rfl, fun j v m hv hl => ?_⟩
        rcases j with _ | _ | _ | _ | _ | j
        · cases hv; cases hl; exact f7
        · cases hv; cases hl; exact (hb2.below hW).more hW.size
        · cases hv; cases hl; exact f11
        · cases hv; cases hl; exact f12
        · cases hv; cases hl; exact Bys.lit (l := [UInt8.ofNat dead.length]) f17 (by simp [maxLen])
        · simp at hv
      refine hardAt_litS (cs := #[.slice A7 4 c7, .slice A2 2 c2, .slice A11 4 c11, .slice A12 4 c12, .slice (some ⟨p17, 0, none⟩) 1 1]) ?_ hW.size rfl ?_
      · go_simp
      · exact Reads.stable _ _ _ _ (Ext.alloc _ _) hR
    simp only [Act.put, one_f, outB_f, outNew_f, outI_f, outLit_f, outLitS_f, outB_f, outOw_f, List.setIfInBounds_toArray, List.set_cons_zero, List.set_cons_succ]
    refine free_hard (outOw w3.heap.size FL.flatten) (by rfl) (by rfl) (fun W hW hp => ?_) (fun p21 => ?_)
    · obtain ⟨_, cs, hcs, hrow, hR⟩ := (hp 15 (by decide)).1
      have hFn : FL.length = 5 := by rw [hFL]; rfl
      refine hardAt_call ?_ ((concat8_any (some ⟨p20, 0, none⟩) 5 5 cs.toList FL (by simpa using hcs) hFn W (Rd.row hrow 5 hcs) (fun i v l h1 h2 => hR.2 i v l h1 h2) (by omega) (by rw [HL.out]; omega)).mono fun e w' h => ?_)
      · go_simp
      obtain ⟨u, rfl, hu, hB⟩ := h
      obtain ⟨A', c', rfl, _, _⟩ := own_slice hu
      exact ⟨(A', c'), rfl, own_mono hu hW.size, hB⟩
    obtain ⟨A21, c21⟩ := p21
    simp only [Act.put, one_f, outB_f, outNew_f, outI_f, outLit_f, outLitS_f, outB_f, outOw_f, List.setIfInBounds_toArray, List.set_cons_zero, List.set_cons_succ]
    repeat ((first | (refine free_plain ?_ (by rfl) (by rfl) (fun W hW _ => ⟨W, ?_, Ext.refl W⟩) ?_; rotate_left; (first | (go_simp; with_reducible rfl) | (go_simp; done))) | (refine free_skip (by rfl) ?_)); try simp only [Act.put, one_f, outB_f, outNew_f, outI_f, outLit_f, outLitS_f, outB_f, outOw_f, List.setIfInBounds_toArray, List.set_cons_zero, List.set_cons_succ])
    refine free_nil (hK _ _ fun W hW hF => ?_)
    have f21 : W.ownsRow w3.heap.size 5 1 (.slice A21 FL.flatten.length c21) FL.flatten.length (FL.flatten.map bv) := (hF 16).1
    clear hF hK hE
    have x4 : Ext w W := x3.trans hW
    have zW := Below.size hW
    have r4 := row_ext r3 hW
    have k4 := cells_row r4
    dsimp only [List.drop]
    rw [HL.out] at f21 ⊢
    have J0 : RwI w w3.heap.size dead.length (.slice A21 15 c21) (.int .i64 0) W := ⟨0, FL.flatten, Nat.zero_le _, rfl, HL.out, by rw [HL.out]; exact f21, zW, x4⟩
    replace J0 := Lib.hid J0
    clear f21 hW hcv hlb HL hFL
    go_wp2_with fail
    go_loopw [7, 43] (fun v i wr => RwI w w3.heap.size dead.length v i wr) (fun _ i _ => dead.length - (intOf i).toNat)
    case atStart => exact J0.out
    case round =>
      clear J0
      obtain ⟨k, l, hk, rfl, hll, hown, hBz, hx⟩ := hrel.ex
      obtain ⟨A9, c9, rfl, -, -⟩ := own_slice hown
      clear hrel
      have hl124 : l.length ≤ 124 := by omega
      replace hll := Lib.hid hll
      by_cases hlt : k < dead.length
      · obtain ⟨_, _, e, _, _, hr⟩ := h.out
        cases e
        obtain ⟨b, o, rfl, hb, hcell⟩ := hr.2 (by omega)
        have hcl := Below.cell hx (p := ⟨b, o + k, none⟩) hb
        rw [hcell k (.int .i64 dead[k]) (by rw [List.getElem?_map, List.getElem?_eq_getElem hlt]; rfl)] at hcl
        have hin := hall.out dead[k] (List.getElem_mem hlt)
        obtain ⟨m, hm⟩ := Int.eq_ofNat_of_zero_le (show 0 ≤ dead[k] by omega)
        have HT := Lib.hid (two_any m (by omega) wr)
        have hw := Lib.hid (IntWalk.wrap64_in ((k : Int) + 1) (by omega))
        have hd1 : decide (k < dead.length) = true := decide_eq_true hlt
        rw [hm] at hcl hin
        generalize dead[k] = y at *
        clear hcell hm k4
        replace hown := Lib.hid hown
        replace hx := Lib.hid hx
        go_wp2_with fail
        refine HT.out.mono ?_
        clear HT
        rintro e w5 ⟨u, rfl, ⟨u5, rfl, A5, c5, rfl, hb5, hf5⟩, hB⟩
        have e5l : (bytesOf m 2).length = 2 := bytesOf_len _ _
        obtain ⟨_, _, e5, _, _, hrd⟩ := hb5
        simp only [Value.slice.injEq] at e5
        obtain ⟨rfl, -, rfl⟩ := e5
        rw [e5l] at hrd
        have hown5 := Lib.hid (own_ext hown.out hB)
        have x5 := Lib.hid (hx.out.trans (Below.mono hB hx.out.size))
        have z5 := Lib.hid (Below.size hB)
        clear hB hown hx hcl
        go_wp2_with (at_builtin; refine wpList_stop ?_)
        refine Stopped.go (wpList_append_rd w5 rfl (.tmp 52) (.tmp 53) 26 rfl w3.heap.size 5 i0 (.int .u8 0) 1 1 Try.underlying26 hi hz0 hz1 hz2 rfl (by decide) (.slice A9 l.length c9) l.length (l.map bv) (by exact rfl) hown5.out w5.heap.size A5 2 c5 ((bytesOf m 2).map bv) (by exact rfl) hrd (bvs_one _) (by omega) (by decide) (Nat.le_trans hBz z5.out) ?_)
        intro v8 w8 own8 _ hB8 _
        obtain ⟨A10, c10, rfl, -, -⟩ := own_slice own8
        have IR : RwI w w3.heap.size dead.length (.slice A10 (l.length + 2) c10) (.int .i64 ((k : Int) + 1)) w8 := ⟨k + 1, l ++ bytesOf m 2, hlt, rfl, by rw [List.length_append, e5l, hll.out]; omega, by rw [List.length_append, e5l, List.map_append]; exact own8, Nat.le_trans (Nat.le_trans hBz z5.out) hB8.size, x5.out.trans (Below.mono hB8 (by omega))⟩
        replace IR := Lib.hid IR
        clear own8 hB8 hown5 x5 hrd
        go_wp2_with fail
        try rw [hw.out]
        refine ⟨IR.out, ?_⟩
        simp [intOf]
        omega
      · obtain rfl : k = dead.length := by omega
        have hd1 : decide (dead.length < dead.length) = false := decide_eq_false hlt
        have HS := Lib.hid (seal_any A9 c9 l hl124 wr (Bys.of_own hown))
        replace hx := Lib.hid hx
        clear hown
        go_wp2_with fail
        refine HS.out.mono ?_
        rintro e w5 ⟨u, rfl, ⟨u5, rfl, A5, c5, rfl, hb5, hf5⟩, hB⟩
        have x5 : Below w.heap.size w w5 := hx.out.trans (Below.mono hB hx.out.size)
        clear hB
        go_wp2_with fail
        exact bodyPost_ret (v := .tuple #[.slice A5 128 c5, .int .i64 0]) (by simp [results, Try.results93, go_sem]) rfl ⟨_, rfl, ⟨A5, c5, sealB l, rfl, sealB_len hl124, hb5⟩, x5⟩
end Go.Proofs.Ytlgbjpihmkeopaa
/- Contracts: a superblock put into the ring. -/
namespace Go.Proofs.Ytlgbjpihmkeopaa
set_option linter.unusedSimpArgs false
set_option linter.unusedVariables false
open Go.RowKit

theorem rput_ret {R : Ending → World → Prop} {a : Act} {W : World} {b : Nat} {x0 x1 v : Value} (h4 : a.tmps[4]?.getD undef = .pointer (some ⟨b, 0, none⟩)) (h5 : a.tmps[5]?.getD undef = v) (hd : a.defers = [])
    (hrow : W.heap[b]? = some (.cells #[x0, x1] 25 (0, 0))) (hR : R (.returned (.tuple #[.agg #[x0, x1], v])) W) : bodyPost Try.prog Try.f65 R .ret a W := by
  refine bodyPost_ret (v := .tuple #[.agg #[x0, x1], v]) ?_ hd hR
  have k := cells_row hrow
  simp [results, Try.results65, go_sem, h4, h5, k]
set_option maxHeartbeats 4000000 in
set_option maxRecDepth 100000 in
theorem rput_in (A1 : Option Addr) (c1 : Nat) (A2 : Option Addr) (c2 : Nat) (bs : List (List UInt8)) (ws : List (Int × List UInt8)) (hmay : diskMay bs ws = true) (g root next table : Nat) (hg : g < 4294967296) (hn : next < 4294967296) (ht : table < 4294967296) (A : Option Addr) (c : Nat) (dead : List Int) (hl : dead.length ≤ 40) (hall : ∀ x ∈ dead, 8 ≤ x ∧ x < 256) (hr8 : 8 ≤ root) (hr256 : root < 256) (w : World)
    (hb : Bls w w.heap.size (.slice A1 bs.length c1) bs) (hw : Wrs w w.heap.size (.slice A2 ws.length c2) ws) (h : Ints w w.heap.size (.slice A dead.length c) dead) :
    Calls Try.prog 65 #[diskV A1 bs.length c1 A2 ws.length c2, .agg (superCs g root next table A dead.length c)] w (RetS (StepR bs ws w.heap.size) w) := by
  have HC := Lib.hid (fun W (hx : Ext w W) => dcheck_any A1 _ c1 A2 _ c2 bs ws W ((hb.below hx).more hx.size) ((hw.below hx).more hx.size))
  rw [hmay, show errOf true = 0 from rfl] at HC
  have HW := Lib.hid (fun W (hx : Ext w W) => rwrite_in g root next table hg hn ht A c dead hl hall hr8 hr256 W (h.ext_ hx))
  have HD := Lib.hid (fun A' c' l W (hx : Ext w W) (hy : Bys W W.heap.size (.slice A' l.length c') l) => dwrite_any A1 _ c1 A2 _ c2 bs ws ((g % 4 : Nat) : Int) A' c' l W ((hb.below hx).more hx.size) ((hw.below hx).more hx.size) hy)
  have HL := Lib.hid (fun W => slot_any g hg W)
  have hg4 : ((g % 4 : Nat) : Int) < 8 := by omega
  replace hg4 := Lib.hid hg4
  clear hb hw h hall
  generalize hgm : g % 4 = gm at *
  clear hgm
  go_enter Try.func65, Try.ntmps65
  go_wp2_with fail
  generalize hw1 : (World.alloc (World.alloc _ _) _) = w1
  have x1 : Ext w w1 := by rw [← hw1]; exact ((Ext.alloc _ _).trans (Ext.alloc _ _)).trans (Ext.alloc _ _)
  have ra1 : w1.heap[w.heap.size]? = some (.cells #[.slice A1 bs.length c1, .slice A2 ws.length c2] 25 (0, 0)) := by rw [← hw1]; exact (Below.heap_alloc _ _ _ (by simp <;> omega)).trans ((Below.heap_alloc _ _ _ (by simp <;> omega)).trans (World.alloc_heap_at _ _ _ rfl))
  have rb1 : w1.heap[w.heap.size + 1]? = some (.cells (superCs g root next table A dead.length c) 128 (0, 0)) := by rw [← hw1]; exact (Below.heap_alloc _ _ _ (by simp <;> omega)).trans (World.alloc_heap_at _ _ _ (by simp))
  have rc1 : w1.heap[w.heap.size + 2]? = some (.cells #[.slice none 0 0, .slice none 0 0] 25 (0, 0)) := by rw [← hw1]; exact World.alloc_heap_at _ _ _ (by simp)
  clear hw1
  refine (HC.out w1 x1).mono ?_
  clear HC
  rintro e w2 ⟨rfl, hB⟩
  have x2 : Ext w w2 := x1.trans hB
  have ra2 := row_ext ra1 hB
  have rb2 := row_ext rb1 hB
  have rc2 := row_ext rc1 hB
  have kb2 := cells_row rb2
  clear hB ra1 rb1 rc1 x1
  go_wp2_with fail
  refine (HW.out w2 x2).mono ?_
  clear HW
  rintro e w3 ⟨u, rfl, ⟨A', c', l, rfl, hl128, hby⟩, hB⟩
  have x3 : Ext w w3 := x2.trans hB
  have ra3 := row_ext ra2 hB
  have rb3 := row_ext rb2 hB
  have rc3 := row_ext rc2 hB
  clear hB ra2 rb2 rc2 kb2
  replace hby := Lib.hid hby
  replace hl128 := Lib.hid hl128
  go_wp2_with fail
  have gA : ∀ W, Ext w3 W → ∀ j, W.cell? ⟨w.heap.size, j, none⟩ = #[.slice A1 bs.length c1, .slice A2 ws.length c2][j]? := fun W h => cells_row (row_ext ra3 h)
  have gB : ∀ W, Ext w3 W → ∀ j, W.cell? ⟨w.heap.size + 1, j, none⟩ = (superCs g root next table A dead.length c)[j]? := fun W h => cells_row (row_ext rb3 h)
  refine wp_region_free (outsAt [(3, one (.int .i64 ((gm : Nat) : Int))), (5, outSt bs ws w3.heap.size)]) 8 (by kernel_rfl) (by kernel_rfl) (by kernel_rfl) (by decide) (by kernel_rfl) (by kernel_rfl) ?st ?walk
  case st => exact outsAt_stable (by simp only [List.forall_mem_cons]; exact ⟨fun _ _ _ _ h => h, outSt_stable _ _ _, fun _ h => by cases h⟩)
  case walk =>
    intro K hK
    dsimp only [List.take]
    repeat ((first | (refine free_plain ?_ (by rfl) (by rfl) (fun W hW _ => ⟨W, ?_, Ext.refl W⟩) ?_; rotate_left; (first | (go_simp; with_reducible rfl) | (go_simp; done))) | (refine free_skip (by rfl) ?_)); try simp only [Act.put, one_f, outB_f, outNew_f, outI_f, one_f, outSt_f, List.setIfInBounds_toArray, List.set_cons_zero, List.set_cons_succ])
    refine free_hard (one (.int .i64 ((gm : Nat) : Int))) (by rfl) (by rfl) (fun W hW _ => ?_) (fun (p : Unit) => ?_)
    · refine hardAt_call ?_ ((HL.out W).mono fun e w' h => ?_)
      · go_simp
      obtain ⟨rfl, hB⟩ := h
      exact ⟨(), rfl, trivial, hB⟩
    simp only [Act.put, one_f, outB_f, outNew_f, outI_f, one_f, outSt_f, List.setIfInBounds_toArray, List.set_cons_zero, List.set_cons_succ]
    repeat ((first | (refine free_plain ?_ (by rfl) (by rfl) (fun W hW _ => ⟨W, ?_, Ext.refl W⟩) ?_; rotate_left; (first | (go_simp; with_reducible rfl) | (go_simp; done))) | (refine free_skip (by rfl) ?_)); try simp only [Act.put, one_f, outB_f, outNew_f, outI_f, one_f, outSt_f, List.setIfInBounds_toArray, List.set_cons_zero, List.set_cons_succ])
    refine free_hard (outSt bs ws w3.heap.size) (by rfl) (by rfl) (fun W hW _ => ?_) (fun p => ?_)
    · have hy := (hby.out.below hW).more (Below.size hW)
      have HC := HD.out A' c' l W (x3.trans hW) (by rw [hl128.out]; exact hy)
      rw [hl128.out] at HC
      refine hardAt_call ?_ (HC.mono fun e w' h => ?_)
      · go_simp
      obtain ⟨u, rfl, hu, hB⟩ := h
      have hs := step_write hg4.out hu
      obtain ⟨A, n, c, B, m, d, er, rfl⟩ := hs.form
      exact ⟨(A, n, c, B, m, d, er), rfl, hs.keep hW.size (Nat.le_refl _) fun _ _ _ => rfl, hB⟩
    obtain ⟨D1, m1, e1, D2, m2, e2, er⟩ := p
    simp only [Act.put, one_f, outB_f, outNew_f, outI_f, one_f, outSt_f, List.setIfInBounds_toArray, List.set_cons_zero, List.set_cons_succ]
    repeat ((first | (refine free_plain ?_ (by rfl) (by rfl) (fun W hW _ => ⟨W, ?_, Ext.refl W⟩) ?_; rotate_left; (first | (go_simp; with_reducible rfl) | (go_simp; done))) | (refine free_skip (by rfl) ?_)); try simp only [Act.put, one_f, outB_f, outNew_f, outI_f, one_f, outSt_f, List.setIfInBounds_toArray, List.set_cons_zero, List.set_cons_succ])
    refine free_nil (hK _ _ fun W hW hF => ?_)
    have hs : StepR bs ws w3.heap.size (.tuple #[diskV D1 m1 e1 D2 m2 e2, .int .i64 er]) W := (hF 5).1
    clear hF hK gA gB
    dsimp only [List.drop]
    have rc4 := row_ext rc3 hW
    have kc4 := cells_row rc4
    have fc4 := frozen_row rc4
    have x4 : Ext w W := x3.trans hW
    have zc := (Array.getElem?_eq_some_iff.1 rc4).1
    replace hs := Lib.hid hs
    clear hW
    go_wp2_with fail
    have rf := row_set (row_set rc4 0 (.slice D1 m1 e1)) 1 (.slice D2 m2 e2)
    have z3 := (Array.getElem?_eq_some_iff.1 rc3).1
    exact rput_ret (b := w.heap.size + 2) rfl rfl rfl rf ⟨_, rfl, hs.out.keep (show w.heap.size ≤ w3.heap.size by omega) (by simp) fun k (h1 : w3.heap.size ≤ k) h2 => (Below.heap_setCell _ _ _ _ (by show k ≠ w.heap.size + 1 + 1; omega)).trans (Below.heap_setCell _ _ _ _ (by show k ≠ w.heap.size + 1 + 1; omega)), Below.setCell (Below.setCell x4 (p := ⟨w.heap.size + 1 + 1, 0, none⟩) (by show w.heap.size ≤ w.heap.size + 1 + 1; omega) _) (p := ⟨w.heap.size + 1 + 1, 1, none⟩) (by show w.heap.size ≤ w.heap.size + 1 + 1; omega) _⟩
end Go.Proofs.Ytlgbjpihmkeopaa
/- Contracts: a slice of blocks cloned. -/
namespace Go.Proofs.Ytlgbjpihmkeopaa
set_option linter.unusedSimpArgs false
set_option linter.unusedVariables false
open Go.RowKit

set_option maxHeartbeats 1000000 in
set_option maxRecDepth 100000 in
theorem bsclone_any (A : Option Addr) (n c : Nat) (us : List Value) (hl : us.length = n) (hn : n < 1073741824) (ho : ∀ u ∈ us, u.oneCell' = true) (w : World) (hr : Rd w w.heap.size 1 A n us) :
    Calls Try.prog 95 #[.slice A n c] w (RetS (fun u w' => w'.ownsRow w.heap.size 26 1 u n us) w) := by
  obtain ⟨i0, hi, hz0, hz1, hz2⟩ := info_parts Try.info_bytes
  have qn : ∀ (w : World) (a : Option Addr) (n c n' c' : Nat), (binOp .eql 22 (.slice a n c) (.slice none n' c')).run Try.prog w = .ok (.bool a.isNone) w := fun w a n c n' c' => Lib.run_eql_slice_nil w _ _ a n c n' c' Try.underlying22
  rcases A with _ | ⟨b, off, p⟩
  · have h0 : us = [] := by
      rcases us with _ | ⟨x, r⟩
      · rfl
      · obtain ⟨b, off, h, _⟩ := hr.2 (by simp at hl; omega)
        cases h
    subst h0
    subst hl
    go_enter Try.func95, Try.ntmps95
    go_wp2
    go_ret
    exact ⟨_, rfl, World.ownsRow_nil _ _ _ _, Below.refl _ _⟩
  · go_enter Try.func95, Try.ntmps95
    go_wp2_with (at_builtin; refine wpList_stop ?_)
    refine Stopped.go (wpList_append_rd _ rfl (.tmp 5) (.tmp 6) 22 rfl w.heap.size 26 i0 (.slice none 0 0) 1 24 Try.underlying22 hi hz0 hz1 hz2 rfl (by decide) _ 0 [] rfl ?_ w.heap.size _ n c us (by exact rfl) ?_ ho (by omega) (by decide) (by simp) ?_)
    · exact World.ownsRow_lit w #[] 0 (Nat.le_refl _) (by simp [maxLen]) rfl
    · exact hr.keep fun p hp => World.cell?_alloc_lt w _ p hp
    · intro v' w' hown _ hb _
      simp only [Nat.zero_add, List.nil_append] at hown
      go_wp2
      go_ret
      exact ⟨_, rfl, hown, Below.trans ((Below.refl _ _).alloc (Nat.le_refl _) _) hb⟩
theorem own_setAt {W : World} {base n c g i : Nat} {e : TypeId} {xs : List Value} (h : W.ownsRow base e 1 (.slice (some ⟨g, 0, none⟩) n c) n xs) (v : Value) : (W.setCell ⟨g, i, none⟩ v).ownsRow base e 1 (.slice (some ⟨g, 0, none⟩) n c) n (xs.set i v) := by
  refine ⟨by rw [List.length_set]; exact h.1, ?_⟩
  rcases h.2 with ⟨e0, _⟩ | ⟨g', cap, cur, e0, hb, hg, hnc, hcm, hcs, htk⟩
  · cases e0
  · cases e0
    refine .inr ⟨g, c, cur.setIfInBounds i v, rfl, hb, row_set hg i v, hnc, hcm, by simpa using hcs, ?_⟩
    rw [← htk]
    apply List.ext_getElem?
    intro j
    simp only [List.getElem?_take, Array.toList_setIfInBounds, List.getElem?_set, List.length_take]
    split <;> split <;> simp_all <;> omega
end Go.Proofs.Ytlgbjpihmkeopaa
/- Contracts: all that waits made last. -/
namespace Go.Proofs.Ytlgbjpihmkeopaa
set_option linter.unusedSimpArgs false
set_option linter.unusedVariables false
open Go.RowKit

def BlkV (w : World) (us : List Value) (bs : List (List UInt8)) : Prop := us.length = bs.length ∧ ∀ (i : Nat) (u : Value) (l : List UInt8), us[i]? = some u → bs[i]? = some l → Bys w w.heap.size u l
theorem BlkV.set {w : World} {us : List Value} {bs : List (List UInt8)} (h : BlkV w us bs) {a : Nat} {u : Value} {l : List UInt8} (hu : Bys w w.heap.size u l) : BlkV w (us.set a u) (bs.set a l) := by
  refine ⟨by rw [List.length_set, List.length_set]; exact h.1, fun i v m hv hm => ?_⟩
  rw [List.getElem?_set] at hv hm
  have hl := h.1
  split at hv
  · rename_i e
    rw [if_pos e] at hm
    split at hv
    · rename_i h1
      rw [if_pos (by omega)] at hm
      cases hv
      cases hm
      exact hu
    · cases hv
  · rename_i e
    rw [if_neg e] at hm
    exact h.2 i v m hv hm
theorem BlkV.of {w : World} {v : Value} {bs : List (List UInt8)} (h : Bls w w.heap.size v bs) : ∃ us A c, v = .slice A bs.length c ∧ Rd w w.heap.size 1 A bs.length us ∧ BlkV w us bs ∧ ∀ u ∈ us, u.oneCell' = true := by
  obtain ⟨us, A, c, e, h1, h2, h3, h4⟩ := h
  have hl : us.length = bs.length := by simpa using h3.1
  refine ⟨us, A, c, e, h3, ⟨hl, h4⟩, fun u hu => ?_⟩
  obtain ⟨i, hi, rfl⟩ := List.mem_iff_getElem.1 hu
  obtain ⟨A', c', e', _⟩ := h4 i us[i] bs[i] (List.getElem?_eq_getElem hi) (List.getElem?_eq_getElem (by omega))
  rw [e']
  rfl
theorem BlkV.bls {w W : World} {A : Option Addr} {c : Nat} {us : List Value} {bs : List (List UInt8)} (h : BlkV w us bs) (hc : bs.length ≤ c) (hm : c ≤ maxLen) (hr : Rd W W.heap.size 1 A bs.length us) (hx : Ext w W) : Bls W W.heap.size (.slice A bs.length c) bs :=
  ⟨us, A, c, rfl, hc, hm, hr, fun i u l hu hl => ((h.2 i u l hu hl).below hx).more hx.size⟩
theorem settle_ret {R : Ending → World → Prop} {a : Act} {W : World} {b : Nat} {x0 x1 : Value} (h4 : a.tmps[4]?.getD undef = .pointer (some ⟨b, 0, none⟩)) (hd : a.defers = [])
    (hrow : W.heap[b]? = some (.cells #[x0, x1] 25 (0, 0))) (hR : R (.returned (.agg #[x0, x1])) W) : bodyPost Try.prog Try.f66 R .ret a W := by
  refine bodyPost_ret (v := .agg #[x0, x1]) ?_ hd hR
  have k := cells_row hrow
  simp [results, Try.results66, go_sem, h4, k]
structure SetI (w : World) (bs : List (List UInt8)) (ws : List (Int × List UInt8)) (B g cg t5 : Nat) (i : Value) (wr : World) : Prop where
  ex : ∃ (k : Nat) (us : List Value), k ≤ ws.length ∧ i = .int .i64 (k : Int) ∧ BlkV w us (settleL bs (ws.take k)) ∧ (∀ u ∈ us, u.oneCell' = true) ∧ wr.ownsRow B 26 1 (.slice (some ⟨g, 0, none⟩) 256 cg) 256 us ∧ wr.heap[t5]? = some (.cells #[.slice (some ⟨g, 0, none⟩) 256 cg, .slice none 0 0] 25 (0, 0)) ∧ wr.heap[w.heap.size + 1]? = some (.cells #[.slice none 0 0, .slice none 0 0] 25 (0, 0)) ∧ Below w.heap.size w wr
set_option maxHeartbeats 4000000 in
set_option maxRecDepth 100000 in
theorem settle_any (A1 : Option Addr) (n1 c1 : Nat) (A2 : Option Addr) (n2 c2 : Nat) (bs : List (List UInt8)) (ws : List (Int × List UInt8)) (hmay : diskMay bs ws = true) (w : World)
    (hb : Bls w w.heap.size (.slice A1 n1 c1) bs) (hw : Wrs w w.heap.size (.slice A2 n2 c2) ws) :
    Calls Try.prog 66 #[diskV A1 n1 c1 A2 n2 c2, .slice A2 n2 c2] w (RetS (fun u W => DskZ w.heap.size u (settleL bs ws) [] W) w) := by
  obtain ⟨us, A, c, e1, hr1, hV, hone⟩ := BlkV.of hb
  simp only [Value.slice.injEq] at e1
  obtain ⟨rfl, rfl, rfl⟩ := e1
  obtain ⟨e2, hc2, hm2, hA2⟩ := hw.at_
  subst e2
  have hsm := settle_may hmay
  obtain ⟨hl1, hl2, hl3, hl4⟩ := diskMay_short hsm
  have hlen := settle_len bs ws
  have hat : ∀ k (h : k < ws.length), 0 ≤ ws[k].1 ∧ ws[k].1 < 256 := fun k h => by
    unfold diskMay headD at hmay
    simp only [Bool.and_eq_true, decide_eq_true_eq, List.all_eq_true] at hmay
    have := hmay.2.2 ws[k] (List.getElem_mem _)
    unfold wrOk at this
    exact ⟨(of_decide_eq_true this).1, (of_decide_eq_true this).2.1⟩
  have h256 : bs.length = 256 ∧ ws.length ≤ 4096 := by
    unfold diskMay headD at hmay
    simp only [Bool.and_eq_true, decide_eq_true_eq] at hmay
    exact hmay.1.1 |> fun h => ⟨h, hmay.1.2⟩
  have HC := Lib.hid (fun W (hx : Ext w W) => bsclone_any A1 bs.length c1 us hV.1 (by omega) hone W ((hr1.below hx).more hx.size))
  have HW := Lib.hid hw
  rw [h256.1] at HC
  have HV := Lib.hid hV
  clear hb hw hr1 hV hmay
  rw [h256.1]
  go_enter Try.func66, Try.ntmps66
  go_wp2_with fail
  generalize hw1 : (World.alloc (World.alloc _ _) _) = w1
  have x1 : Ext w w1 := by rw [← hw1]; exact (Ext.alloc _ _).trans (Ext.alloc _ _)
  have s1 : w1.heap.size = w.heap.size + 2 := by rw [← hw1]; simp
  have q1 : w1.heap[w.heap.size + 1]? = some (.cells #[.slice none 0 0, .slice none 0 0] 25 (0, 0)) := by rw [← hw1]; exact World.alloc_heap_at _ _ _ (by simp)
  clear hw1
  refine (HC.out w1 x1).mono ?_
  clear HC
  rintro e w2 ⟨u, rfl, hown, hB⟩
  have x2 : Ext w w2 := x1.trans hB
  have q2 := row_ext q1 hB
  obtain ⟨g, cg, rfl⟩ : ∃ g cg, u = .slice (some ⟨g, 0, none⟩) 256 cg := by
    rcases hown.2 with ⟨_, h0⟩ | ⟨g, cap, cur, e, _⟩
    · omega
    · exact ⟨g, cap, e⟩
  have hgz := (own_lt hown) g rfl
  have s2 := Below.size hB
  clear hB q1 x1
  go_wp2_with fail
  generalize hw3 : World.alloc w2 _ = w3
  have x23 : Ext w2 w3 := by rw [← hw3]; exact Ext.alloc _ _
  have r3 : w3.heap[w2.heap.size]? = some (.cells #[.slice (some ⟨g, 0, none⟩) 256 cg, .slice none 0 0] 25 (0, 0)) := by rw [← hw3]; exact World.alloc_heap_at _ _ _ rfl
  have q3 := row_ext q2 x23
  clear hw3 q2
  have J0 : SetI w bs ws w1.heap.size g cg w2.heap.size (.int .i64 0) w3 := ⟨0, us, Nat.zero_le _, rfl, HV.out, hone, own_ext hown x23, r3, q3, x2.trans x23⟩
  replace J0 := Lib.hid J0
  have hsz := Lib.hid (show w.heap.size < w2.heap.size by omega)
  have hgz2 := Lib.hid (show g < w2.heap.size by omega)
  have h1w := Lib.hid (show w.heap.size + 2 ≤ w1.heap.size by omega)
  have hwl := h256.2
  have hgl := Lib.hid (show w1.heap.size ≤ g by exact (own_lt hown g rfl).1)
  clear hown x2 x23 r3 q3 hone s1 s2 hgz
  go_wp2_with fail
  go_loopw [14] (fun i wr => SetI w bs ws w1.heap.size g cg w2.heap.size i wr) (fun i _ => ws.length - (intOf i).toNat)
  case atStart => exact J0.out
  case round =>
    clear J0
    obtain ⟨k, us', hk, rfl, hV, hone, hown, ht5, ht4, hx⟩ := hrel.ex
    clear hrel
    by_cases hlt : k < ws.length
    · obtain ⟨b2, o2, rfl, hb2⟩ := hA2 (by omega)
      obtain ⟨A', c', hc1, hc2, hby⟩ := HW.out.get k hlt
      have hcx := Below.cell hx (p := ⟨b2, o2 + k * 2, none⟩) hb2 |>.trans hc1
      have hcy := Below.cell hx (p := ⟨b2, o2 + k * 2 + 1, none⟩) hb2 |>.trans hc2
      have hin := hat k hlt
      obtain ⟨a, ha⟩ := Int.eq_ofNat_of_zero_le hin.1
      have hst := settle_step bs hlt
      rw [ha] at hcx hin hst
      rw [Int.toNat_natCast] at hst
      have ha256 : a < 256 := by omega
      have hBV : BlkV w (us'.set a (.slice A' ws[k].2.length c')) (settleL bs (ws.take (k + 1))) := by rw [hst]; exact hV.set hby
      have hw := Lib.hid (IntWalk.wrap64_in ((k : Int) + 1) (by omega))
      have hd1 : decide (k < ws.length) = true := decide_eq_true hlt
      have hd2 : decide (a < 256) = true := decide_eq_true ha256
      have hone2 : Hid (∀ u ∈ us'.set a (.slice A' ws[k].2.length c'), u.oneCell' = true) := Lib.hid fun u hu => by
        rcases List.mem_or_eq_of_mem_set hu with h | h
        · exact hone u h
        · rw [h]; rfl
      have k5 := cells_row ht5
      have z5 : w2.heap.size < wr.heap.size := (Array.getElem?_eq_some_iff.1 ht5).1
      obtain ⟨ug, hug, hfg, zg⟩ : ∃ u, wr.cell? ⟨g, a, none⟩ = some u ∧ wr.frozen? ⟨g, a, none⟩ = false ∧ g < wr.heap.size := by
        rcases hown.2 with ⟨e, _⟩ | ⟨g', cap, cur, e, _, hg, hnc, _, hcs, _⟩
        · cases e
        · cases e
          exact ⟨cur[a]'(by omega), (cells_row hg a).trans (Array.getElem?_eq_getElem (by omega)), frozen_row hg a, (Array.getElem?_eq_some_iff.1 hg).1⟩
      replace ht5 := Lib.hid ht5
      replace ht4 := Lib.hid ht4
      generalize ws[k].2.length = ln at *
      replace hBV := Lib.hid hBV
      clear hst ha hby hc1 hc2 hV hone hin
      replace hown := Lib.hid hown
      replace hx := Lib.hid hx
      replace hat := Lib.hid hat
      go_wp2_with fail
      have ho6 := own_setAt (i := a) hown.out (.slice A' ln c')
      have ht6 := (Below.heap_setCell wr ⟨g, a, none⟩ (.slice A' ln c') w2.heap.size (by show w2.heap.size ≠ g; have := hgz2.out; omega)).trans ht5.out
      have ht46 := (Below.heap_setCell wr ⟨g, a, none⟩ (.slice A' ln c') (w.heap.size + 1) (by show w.heap.size + 1 ≠ g; have := hgl.out; have := h1w.out; omega)).trans ht4.out
      have hb6 : Below w.heap.size w (wr.setCell ⟨g, a, none⟩ (.slice A' ln c')) := Below.setCell hx.out (p := ⟨g, a, none⟩) (by show w.heap.size ≤ g; have := h1w.out; have := hgl.out; omega) _
      generalize wr.setCell ⟨g, a, none⟩ (.slice A' ln c') = w6 at *
      try rw [hw.out]
      refine ⟨⟨k + 1, us'.set a (.slice A' ln c'), hlt, rfl, hBV.out, hone2.out, own_ext ho6 (Ext.alloc _ _), row_ext ht6 (Ext.alloc _ _), row_ext ht46 (Ext.alloc _ _), Below.alloc hb6 hb6.size _⟩, ?_⟩
      simp [intOf]
      omega
    · obtain rfl : k = ws.length := by omega
      rw [List.take_length] at hV
      have hd1 : decide (ws.length < ws.length) = false := decide_eq_false hlt
      have k5 := cells_row ht5
      have hB9 : Bls wr wr.heap.size (.slice (some ⟨g, 0, none⟩) (settleL bs ws).length cg) (settleL bs ws) := hV.bls (by obtain ⟨_, _, e, h5, _⟩ := own_slice hown; cases e; omega) (by obtain ⟨_, _, e, _, h5⟩ := own_slice hown; cases e; exact h5) (by rw [hlen, h256.1]; exact Rd.of_own hown) hx
      have HT := Lib.hid (dtwin_any (some ⟨g, 0, none⟩) _ cg none 0 0 (settleL bs ws) [] (by omega) (by simp) hl3 hl4 wr hB9 ⟨[], rfl, ⟨none, 0, rfl, Nat.le_refl _, by simp [maxLen], Rd.none_⟩, fun p h => by cases h⟩)
      rw [hlen, h256.1] at HT
      replace ht4 := Lib.hid ht4
      replace hx := Lib.hid hx
      clear hown hV hB9
      go_wp2_with fail
      refine HT.out.mono ?_
      clear HT
      rintro e w9 ⟨BB, WW, gg, rfl, hT, hB⟩
      have x9 : Below w.heap.size w w9 := hx.out.trans (Below.mono hB hx.out.size)
      have r9 := row_ext ht4.out hB
      have k9 := cells_row r9
      have f9 := frozen_row r9
      have zz9 := hB.size
      replace hT := Lib.hid hT
      clear hB
      go_wp2_with fail
      have rf := row_set (row_set r9 0 (.slice (some ⟨BB, 0, none⟩) 256 256)) 1 (.slice (some ⟨WW, 0, none⟩) 0 1)
      refine settle_ret (b := w.heap.size + 1) rfl rfl rf ⟨_, rfl, ?_, Below.setCell (Below.setCell x9 (p := ⟨w.heap.size + 1, 0, none⟩) (Nat.le_succ _) _) (p := ⟨w.heap.size + 1, 1, none⟩) (Nat.le_succ _) _⟩
      have hz : DskZ wr.heap.size (diskV (some ⟨BB, 0, none⟩) 256 256 (some ⟨WW, 0, none⟩) 0 1) (settleL bs ws) [] w9 := by
        have := DskZ.of_twin hT.out (by omega) (by simp) hl3 hl4
        rw [hlen, h256.1] at this
        exact this
      exact hz.keep (Nat.le_trans (by omega) hx.out.size) (by simp) fun k h1 h2 => (Below.heap_setCell _ _ _ _ (by show k ≠ w.heap.size + 1; have := (Array.getElem?_eq_some_iff.1 ht4.out).1; omega)).trans (Below.heap_setCell _ _ _ _ (by show k ≠ w.heap.size + 1; have := (Array.getElem?_eq_some_iff.1 ht4.out).1; omega))
end Go.Proofs.Ytlgbjpihmkeopaa
/- Contracts: a barrier. -/
namespace Go.Proofs.Ytlgbjpihmkeopaa
set_option linter.unusedSimpArgs false
set_option linter.unusedVariables false
open Go.RowKit

theorem barrier_ret {R : Ending → World → Prop} {a : Act} {W : World} {b : Nat} {x0 x1 v : Value} (h4 : a.tmps[2]?.getD undef = .pointer (some ⟨b, 0, none⟩)) (h5 : a.tmps[3]?.getD undef = v) (hd : a.defers = [])
    (hrow : W.heap[b]? = some (.cells #[x0, x1] 25 (0, 0))) (hR : R (.returned (.tuple #[.agg #[x0, x1], v])) W) : bodyPost Try.prog Try.f35 R .ret a W := by
  refine bodyPost_ret (v := .tuple #[.agg #[x0, x1], v]) ?_ hd hR
  have k := cells_row hrow
  simp [results, Try.results35, go_sem, h4, h5, k]
set_option maxHeartbeats 2000000 in
set_option maxRecDepth 100000 in
theorem barrier_any (A1 : Option Addr) (c1 : Nat) (A2 : Option Addr) (c2 : Nat) (bs : List (List UInt8)) (ws : List (Int × List UInt8)) (hmay : diskMay bs ws = true) (w : World)
    (hb : Bls w w.heap.size (.slice A1 bs.length c1) bs) (hw : Wrs w w.heap.size (.slice A2 ws.length c2) ws) :
    Calls Try.prog 35 #[diskV A1 bs.length c1 A2 ws.length c2] w (RetS (fun u W => ∃ v, u = .tuple #[v, .int .i64 0] ∧ DskZ w.heap.size v (settleL bs ws) [] W) w) := by
  have HC := Lib.hid (fun W (hx : Ext w W) => dcheck_any A1 _ c1 A2 _ c2 bs ws W ((hb.below hx).more hx.size) ((hw.below hx).more hx.size))
  rw [hmay, show errOf true = 0 from rfl] at HC
  have HS := Lib.hid (fun W (hx : Ext w W) => settle_any A1 _ c1 A2 _ c2 bs ws hmay W ((hb.below hx).more hx.size) ((hw.below hx).more hx.size))
  clear hb hw hmay
  go_enter Try.func35, Try.ntmps35
  go_wp2_with fail
  generalize hw1 : (World.alloc (World.alloc _ _) _) = w1
  have x1 : Ext w w1 := by rw [← hw1]; exact (Ext.alloc _ _).trans (Ext.alloc _ _)
  have ra1 : w1.heap[w.heap.size]? = some (.cells #[.slice A1 bs.length c1, .slice A2 ws.length c2] 25 (0, 0)) := by rw [← hw1]; exact (Below.heap_alloc _ _ _ (by simp)).trans (World.alloc_heap_at _ _ _ rfl)
  have rb1 : w1.heap[w.heap.size + 1]? = some (.cells #[.slice none 0 0, .slice none 0 0] 25 (0, 0)) := by rw [← hw1]; exact World.alloc_heap_at _ _ _ (by simp)
  clear hw1
  refine (HC.out w1 x1).mono ?_
  clear HC
  rintro e w2 ⟨rfl, hB⟩
  have x2 : Ext w w2 := x1.trans hB
  have ra2 := row_ext ra1 hB
  have rb2 := row_ext rb1 hB
  have ka2 := cells_row ra2
  clear hB ra1 rb1 x1
  go_wp2_with fail
  refine (HS.out w2 x2).mono ?_
  clear HS
  rintro e w3 ⟨u, rfl, ⟨B1, d1, B2, d2, rfl, h1⟩, hB⟩
  have x3 : Ext w w3 := x2.trans hB
  have rb3 := row_ext rb2 hB
  have kb3 := cells_row rb3
  have fb3 := frozen_row rb3
  have zb3 := (Array.getElem?_eq_some_iff.1 rb3).1
  clear hB ka2
  have hD : DskZ w2.heap.size (diskV B1 (settleL bs ws).length d1 B2 0 d2) (settleL bs ws) [] w3 := ⟨B1, d1, B2, d2, rfl, h1⟩
  have z2 : w.heap.size + 1 < w2.heap.size := (Array.getElem?_eq_some_iff.1 rb2).1
  replace hD := Lib.hid hD
  clear h1
  go_wp2_with fail
  have rf := row_set (row_set rb3 0 (.slice B1 (settleL bs ws).length d1)) 1 (.slice B2 0 d2)
  have st : ∀ k, k ≠ w.heap.size + 1 → ((w3.setCell ⟨w.heap.size + 1, 0, none⟩ (.slice B1 (settleL bs ws).length d1)).setCell ⟨w.heap.size + 1, 1, none⟩ (.slice B2 0 d2)).heap[k]? = w3.heap[k]? := fun k hk => (Below.heap_setCell _ _ _ _ hk).trans (Below.heap_setCell _ _ _ _ hk)
  exact barrier_ret (b := w.heap.size + 1) rfl rfl rfl rf ⟨_, rfl, ⟨_, rfl, hD.out.keep (show w.heap.size ≤ w2.heap.size by omega) (by simp) fun k (h1 : w2.heap.size ≤ k) h2 => st k (by omega)⟩, Below.setCell (Below.setCell x3 (p := ⟨w.heap.size + 1, 0, none⟩) (Nat.le_succ _) _) (p := ⟨w.heap.size + 1, 1, none⟩) (Nat.le_succ _) _⟩
end Go.Proofs.Ytlgbjpihmkeopaa
/- Contracts: the sum of a table. -/
namespace Go.Proofs.Ytlgbjpihmkeopaa
set_option linter.unusedSimpArgs false
set_option linter.unusedVariables false
open Go.RowKit

set_option maxHeartbeats 200000 in
set_option maxRecDepth 100000 in
theorem csum_in (A : Option Addr) (c : Nat) (t : List UInt8) (ht : tabMay t = true) (w : World) (h : Bys w w.heap.size (.slice A t.length c) t) :
    Calls Try.prog 64 #[.slice A t.length c] w (Ret (.tuple #[.int .u32 (crc t : Int), .int .i64 0]) w) := by
  have HC := ccheck_any (.slice A t.length c) t w h
  rw [ht, show errOf true = 0 from rfl] at HC
  have htl : t.length = 256 := by unfold tabMay at ht; simp only [Bool.and_eq_true, decide_eq_true_eq] at ht; exact ht.1
  have HS := Lib.hid (fun W (hx : Ext w W) => sumof_any (.slice A t.length c) t W ((h.below hx).more hx.size) (by rw [htl]; decide))
  clear h ht htl
  generalize crc t = ct at *
  go_enter Try.func64, Try.ntmps64
  go_wp2_with fail
  refine HC.mono ?_
  clear HC
  rintro e w2 ⟨rfl, hB⟩
  replace hB := Lib.hid hB
  go_wp2_with fail
  refine (HS.out w2 hB.out).mono ?_
  clear HS
  rintro e w3 ⟨rfl, hB3⟩
  have x3 : Ext w w3 := Ext.trans hB.out hB3
  clear hB hB3
  go_wp2_with fail
  exact bodyPost_ret (v := .tuple #[.int .u32 (ct : Int), .int .i64 0]) (by simp [results, Try.results64, go_sem]) rfl ⟨rfl, x3⟩
end Go.Proofs.Ytlgbjpihmkeopaa
/- Contracts: a commit's steps. -/
namespace Go.Proofs.Ytlgbjpihmkeopaa
set_option linter.unusedSimpArgs false
set_option linter.unusedVariables false
open Go.RowKit

theorem one_bit (n : Nat) (hn : n < 9223372036854775808) : bits .and .i64 (n : Int) 1 = ((n % 2 : Nat) : Int) := by
  have e : (BitVec.ofInt 64 (n : Int)).toNat = n := by simp [BitVec.ofInt_natCast]; omega
  show IntKind.i64.wrap (((BitVec.ofInt 64 (n : Int) &&& BitVec.ofInt 64 1).toNat : Nat) : Int) = _
  rw [BitVec.toNat_and, e]
  have : (BitVec.ofInt 64 1).toNat = 1 := by decide
  rw [this, Nat.and_one_is_mod]
  have h2 : n % 2 < 2 := Nat.mod_lt _ (by omega)
  simp [IntKind.wrap, IntKind.bits, IntKind.signed]
  omega
theorem s1_ret {R : Ending → World → Prop} {a : Act} {W : World} {b : Nat} {x0 x1 v : Value} (h4 : a.tmps[2]?.getD undef = .pointer (some ⟨b, 0, none⟩)) (h5 : a.tmps[3]?.getD undef = v) (hd : a.defers = [])
    (hrow : W.heap[b]? = some (.cells #[x0, x1] 25 (0, 0))) (hR : R (.returned (.tuple #[.agg #[x0, x1], v])) W) : bodyPost Try.prog Try.f60 R .ret a W := by
  refine bodyPost_ret (v := .tuple #[.agg #[x0, x1], v]) ?_ hd hR
  have k := cells_row hrow
  simp [results, Try.results60, go_sem, h4, h5, k]
set_option maxHeartbeats 1000000 in
theorem s1_any (A1 : Option Addr) (n1 c1 : Nat) (A2 : Option Addr) (n2 c2 : Nat) (w : World) :
    Calls Try.prog 60 #[diskV A1 n1 c1 A2 n2 c2] w (Ret (.tuple #[diskV A1 n1 c1 A2 n2 c2, .int .i64 0]) w) := by
  go_enter Try.func60, Try.ntmps60
  go_wp2_with fail
  generalize hw1 : (World.alloc (World.alloc _ _) _) = w1
  have x1 : Ext w w1 := by rw [← hw1]; exact (Ext.alloc _ _).trans (Ext.alloc _ _)
  have r1 : w1.heap[w.heap.size + 1]? = some (.cells #[.slice A1 n1 c1, .slice A2 n2 c2] 25 (0, 0)) := by rw [← hw1]; exact World.alloc_heap_at _ _ _ (by simp)
  exact s1_ret (b := w.heap.size + 1) rfl rfl rfl r1 ⟨rfl, x1⟩
theorem s2_ret {R : Ending → World → Prop} {a : Act} {W : World} {b : Nat} {x0 x1 v : Value} (h4 : a.tmps[3]?.getD undef = .pointer (some ⟨b, 0, none⟩)) (h5 : a.tmps[4]?.getD undef = v) (hd : a.defers = [])
    (hrow : W.heap[b]? = some (.cells #[x0, x1] 25 (0, 0))) (hR : R (.returned (.tuple #[.agg #[x0, x1], v])) W) : bodyPost Try.prog Try.f61 R .ret a W := by
  refine bodyPost_ret (v := .tuple #[.agg #[x0, x1], v]) ?_ hd hR
  have k := cells_row hrow
  simp [results, Try.results61, go_sem, h4, h5, k]
theorem s3_ret {R : Ending → World → Prop} {a : Act} {W : World} {b : Nat} {x0 x1 v : Value} (h4 : a.tmps[3]?.getD undef = .pointer (some ⟨b, 0, none⟩)) (h5 : a.tmps[4]?.getD undef = v) (hd : a.defers = [])
    (hrow : W.heap[b]? = some (.cells #[x0, x1] 25 (0, 0))) (hR : R (.returned (.tuple #[.agg #[x0, x1], v])) W) : bodyPost Try.prog Try.f63 R .ret a W := by
  refine bodyPost_ret (v := .tuple #[.agg #[x0, x1], v]) ?_ hd hR
  have k := cells_row hrow
  simp [results, Try.results63, go_sem, h4, h5, k]
set_option maxHeartbeats 2000000 in
set_option maxRecDepth 100000 in
theorem s2_any (pb : Nat) (A1 : Option Addr) (c1 : Nat) (A2 : Option Addr) (c2 : Nat) (bs : List (List UInt8)) (ws : List (Int × List UInt8)) (hmay : diskMay bs ws = true) (P1 P2 P4 P5 : Value) (A3 : Option Addr) (c3 : Nat) (t : List UInt8) (ht : tabMay t = true) (gen : Nat) (hg : gen + 1 < 4294967296) (root next : Int) (w : World)
    (hp : w.heap[pb]? = some (.cells (poolCs P1 P2 (.slice A3 t.length c3) P4 gen root next P5) 32 (0, 0)))
    (hb : Bls w w.heap.size (.slice A1 bs.length c1) bs) (hw : Wrs w w.heap.size (.slice A2 ws.length c2) ws) (h : Bys w w.heap.size (.slice A3 t.length c3) t) :
    Calls Try.prog 61 #[diskV A1 bs.length c1 A2 ws.length c2, .pointer (some ⟨pb, 0, none⟩)] w (RetS (StepR bs ws w.heap.size) w) := by
  have HW := Lib.hid (fun side (hs : side < 2) W (hx : Ext w W) => cwrite_any A1 c1 A2 c2 bs ws hmay side hs A3 c3 t ht W ((hb.below hx).more hx.size) ((hw.below hx).more hx.size) ((h.below hx).more hx.size))
  have H1 : Hid (bits .and .i64 ((gen : Int) + 1) 1 = (((gen + 1) % 2 : Nat) : Int)) := Lib.hid (by have := one_bit (gen + 1) (by omega); rw [Int.natCast_add] at this; exact this)
  have hs2 := Lib.hid (Nat.mod_lt (gen + 1) (show 0 < 2 by omega))
  have zp := (Array.getElem?_eq_some_iff.1 hp).1
  have hgw : Hid (((gen : Int) + 1) % 4294967296 = ((gen + 1 : Nat) : Int)) := Lib.hid (by omega)
  have kp := cells_row hp
  clear hb hw h hmay ht
  go_enter Try.func61, Try.ntmps61
  go_wp2_with fail
  generalize hw1 : (World.alloc (World.alloc _ _) _) = w1
  have x1 : Ext w w1 := by rw [← hw1]; exact (Ext.alloc _ _).trans (Ext.alloc _ _)
  have r1 : w1.heap[w.heap.size + 1]? = some (.cells #[.slice none 0 0, .slice none 0 0] 25 (0, 0)) := by rw [← hw1]; exact World.alloc_heap_at _ _ _ (by simp)
  clear hw1
  rw [H1.out]
  refine (HW.out _ hs2.out w1 x1).mono ?_
  clear HW
  rintro e w2 ⟨u, rfl, hu, hB⟩
  have x2 : Ext w w2 := x1.trans hB
  have r2 := row_ext r1 hB
  have z1 := (Array.getElem?_eq_some_iff.1 r1).1
  obtain ⟨D1, m1, e1, D2, m2, e2, er, rfl⟩ := hu.form
  have k2 := cells_row r2
  have f2 := frozen_row r2
  have z2 := (Array.getElem?_eq_some_iff.1 r2).1
  replace hu := Lib.hid hu
  clear hB kp hp
  go_wp2_with fail
  have rf := row_set (row_set r2 0 (.slice D1 m1 e1)) 1 (.slice D2 m2 e2)
  exact s2_ret (b := w.heap.size + 1) rfl rfl rfl rf ⟨_, rfl, hu.out.keep (show w.heap.size ≤ w1.heap.size by omega) (by simp) fun k (h1 : w1.heap.size ≤ k) h2 => (Below.heap_setCell _ _ _ _ (by show k ≠ w.heap.size + 1; omega)).trans (Below.heap_setCell _ _ _ _ (by show k ≠ w.heap.size + 1; omega)), Below.setCell (Below.setCell x2 (p := ⟨w.heap.size + 1, 0, none⟩) (Nat.le_succ _) _) (p := ⟨w.heap.size + 1, 1, none⟩) (Nat.le_succ _) _⟩
set_option maxHeartbeats 2000000 in
set_option maxRecDepth 100000 in
theorem s3_any (pb : Nat) (A1 : Option Addr) (c1 : Nat) (A2 : Option Addr) (c2 : Nat) (bs : List (List UInt8)) (ws : List (Int × List UInt8)) (hmay : diskMay bs ws = true) (P1 P2 P4 : Value) (A3 : Option Addr) (c3 : Nat) (t : List UInt8) (ht : tabMay t = true) (gen : Nat) (hg : gen + 1 < 4294967296) (root next : Nat) (hn : next < 4294967296) (hr8 : 8 ≤ root) (hr256 : root < 256) (A5 : Option Addr) (c5 : Nat) (dead : List Int) (hl : dead.length ≤ 40) (hall : ∀ x ∈ dead, 8 ≤ x ∧ x < 256) (w : World)
    (hp : w.heap[pb]? = some (.cells (poolCs P1 P2 (.slice A3 t.length c3) P4 gen root next (.slice A5 dead.length c5)) 32 (0, 0)))
    (hb : Bls w w.heap.size (.slice A1 bs.length c1) bs) (hw : Wrs w w.heap.size (.slice A2 ws.length c2) ws) (h : Bys w w.heap.size (.slice A3 t.length c3) t) (hd : Ints w w.heap.size (.slice A5 dead.length c5) dead) :
    Calls Try.prog 63 #[diskV A1 bs.length c1 A2 ws.length c2, .pointer (some ⟨pb, 0, none⟩)] w (RetS (StepR bs ws w.heap.size) w) := by
  have HS := Lib.hid (fun W (hx : Ext w W) => csum_in A3 c3 t ht W ((h.below hx).more hx.size))
  have HW := Lib.hid (fun W (hx : Ext w W) => rput_in A1 c1 A2 c2 bs ws hmay (gen + 1) root next (crc t) hg hn (crc_lt t) A5 c5 dead hl hall hr8 hr256 W ((hb.below hx).more hx.size) ((hw.below hx).more hx.size) (hd.ext_ hx))
  have zp := (Array.getElem?_eq_some_iff.1 hp).1
  have hgw : Hid (((gen : Int) + 1) % 4294967296 = ((gen + 1 : Nat) : Int)) := Lib.hid (by omega)
  have HPR := Lib.hid (fun W (hx : Ext w W) => row_ext hp hx)
  have kp := cells_row hp
  clear hb hw h hmay ht hd hall
  generalize crc t = ct at *
  go_enter Try.func63, Try.ntmps63
  go_wp2_with fail
  generalize hw1 : (World.alloc (World.alloc _ _) _) = w1
  have x1 : Ext w w1 := by rw [← hw1]; exact (Ext.alloc _ _).trans (Ext.alloc _ _)
  have ra1 : w1.heap[w.heap.size]? = some (.cells #[.slice A1 bs.length c1, .slice A2 ws.length c2] 25 (0, 0)) := by rw [← hw1]; exact (Below.heap_alloc _ _ _ (by simp)).trans (World.alloc_heap_at _ _ _ rfl)
  have r1 : w1.heap[w.heap.size + 1]? = some (.cells #[.slice none 0 0, .slice none 0 0] 25 (0, 0)) := by rw [← hw1]; exact World.alloc_heap_at _ _ _ (by simp)
  clear hw1 kp
  refine (HS.out w1 x1).mono ?_
  clear HS
  rintro e w2 ⟨rfl, hB⟩
  have x2 : Ext w w2 := x1.trans hB
  have r2 := row_ext r1 hB
  have ra2 := row_ext ra1 hB
  have z2 := (Array.getElem?_eq_some_iff.1 r2).1
  have kp := cells_row (HPR.out w2 x2)
  have ka := cells_row ra2
  clear hB r1 ra1 x1
  go_wp2_with fail
  rw [show ((gen : Int) + 1) = ((gen + 1 : Nat) : Int) by omega]
  refine (HW.out w2 x2).mono ?_
  clear HW
  rintro e w3 ⟨u, rfl, hu, hB⟩
  have x3 : Ext w w3 := x2.trans hB
  have r3 := row_ext r2 hB
  obtain ⟨D1, m1, e1, D2, m2, e2, er, rfl⟩ := hu.form
  have k3 := cells_row r3
  have f3 := frozen_row r3
  have z3 := (Array.getElem?_eq_some_iff.1 r3).1
  replace hu := Lib.hid hu
  clear hB kp hp ka
  go_wp2_with fail
  have rf := row_set (row_set r3 0 (.slice D1 m1 e1)) 1 (.slice D2 m2 e2)
  exact s3_ret (b := w.heap.size + 1) rfl rfl rfl rf ⟨_, rfl, hu.out.keep (show w.heap.size ≤ w2.heap.size by omega) (by simp) fun k (h1 : w2.heap.size ≤ k) h2 => (Below.heap_setCell _ _ _ _ (by show k ≠ w.heap.size + 1; omega)).trans (Below.heap_setCell _ _ _ _ (by show k ≠ w.heap.size + 1; omega)), Below.setCell (Below.setCell x3 (p := ⟨w.heap.size + 1, 0, none⟩) (Nat.le_succ _) _) (p := ⟨w.heap.size + 1, 1, none⟩) (Nat.le_succ _) _⟩
end Go.Proofs.Ytlgbjpihmkeopaa
