/- scionrylaw31.CheckLays: the walk. -/
import Derived.Test.YtlgbjpihmkeopaaU22
import Derived.Test.YtlgbjpihmkeopaaU23
import Derived.Test.YtlgbjpihmkeopaaU24
import Derived.Test.YtlgbjpihmkeopaaV01
namespace Go.Proofs.Ytlgbjpihmkeopaa
set_option linter.unusedSimpArgs false
set_option linter.unusedVariables false
open Go.RowKit

def Lies (W : World) (s1 s2 s3 s4 s5 : Value) (S : Sto) (dead : List Int) : Prop := ∀ C, Ext W C → StoAt C C.heap.size s1 s2 s3 s4 S ∧ Ints C C.heap.size s5 dead
theorem lies_new {lo : Nat} {S : Sto} {dead : List Int} {s1 s2 s3 s4 s5 : Value} {W : World} (h : ∀ C : World, PosOn lo W C → StoAt C W.heap.size s1 s2 s3 s4 S ∧ Ints C W.heap.size s5 dead) : Lies W s1 s2 s3 s4 s5 S dead := fun C hC =>
  have := h C (posOn_blocks fun k _ hk => hC.block k hk)
  ⟨this.1.more hC.size, this.2.more hC.size⟩
theorem Lies.ext {s1 s2 s3 s4 s5 : Value} {S : Sto} {dead : List Int} {W W' : World} (h : Lies W s1 s2 s3 s4 s5 S dead) (hx : Ext W W') : Lies W' s1 s2 s3 s4 s5 S dead := fun C hC => h C (hx.trans hC)
theorem lay_shape {S : Sto} {gen root next : Int} {dead : List Int} {data : List UInt8} {w w' : World} {e : Ending} (h : VLayQ S gen root next dead data w e w') : Ext w w' ∧ ∃ (B1 : Option Addr) (m1 d1 : Nat) (B2 : Option Addr) (m2 d2 : Nat) (B3 : Option Addr) (m3 d3 : Nat) (B4 : Option Addr) (m4 d4 : Nat) (g r n : Int) (B5 : Option Addr) (m5 d5 : Nat) (a er : Int),
    e = .returned (.tuple #[.agg (poolCs (.slice B1 m1 d1) (.slice B2 m2 d2) (.slice B3 m3 d3) (.slice B4 m4 d4) g r n (.slice B5 m5 d5)), .int .i64 a, .int .i64 er]) ∧
    (er = 0 → layE S data = 0 ∧ a = (firstFree S : Int) ∧ g = gen ∧ r = root ∧ n = next ∧ m5 = dead.length ∧ Lies w' (.slice B1 m1 d1) (.slice B2 m2 d2) (.slice B3 m3 d3) (.slice B4 m4 d4) (.slice B5 m5 d5) (putAt S (firstFree S) (padB 128 data)) dead) := by
  refine ⟨h.1, ?_⟩
  rcases h.2 with ⟨rfl, _⟩ | ⟨vs, refs, nodes, _, _, _, ⟨h1, rfl⟩ | ⟨h1, v, rfl, A1, c1, A2, c2, A3, c3, A4, c4, A5, c5, rfl, hC⟩⟩
  · exact ⟨none, 0, 0, none, 0, 0, none, 0, 0, none, 0, 0, 0, 0, 0, none, 0, 0, 0, 8, rfl, fun h => by cases h⟩
  · exact ⟨none, 0, 0, none, 0, 0, none, 0, 0, none, 0, 0, 0, 0, 0, none, 0, 0, 0, _, rfl, fun h => absurd h h1⟩
  · exact ⟨A1, _, c1, A2, _, c2, A3, _, c3, A4, _, c4, gen, root, next, A5, _, c5, _, 0, rfl, fun _ => ⟨h1, rfl, rfl, rfl, rfl, rfl, lies_new hC⟩⟩
def PoolSh (S : Sto) (gen root next : Int) (dead : List Int) (w : World) (e : Ending) (w' : World) : Prop := Ext w w' ∧ ∃ (B1 : Option Addr) (m1 d1 : Nat) (B2 : Option Addr) (m2 d2 : Nat) (B3 : Option Addr) (m3 d3 : Nat) (B4 : Option Addr) (m4 d4 : Nat) (B5 : Option Addr) (d5 : Nat),
    e = .returned (.tuple #[.agg (poolCs (.slice B1 m1 d1) (.slice B2 m2 d2) (.slice B3 m3 d3) (.slice B4 m4 d4) gen root next (.slice B5 dead.length d5)), .int .i64 0]) ∧ Lies w' (.slice B1 m1 d1) (.slice B2 m2 d2) (.slice B3 m3 d3) (.slice B4 m4 d4) (.slice B5 dead.length d5) S dead
theorem pool_shape {lo : Nat} {S : Sto} {gen root next : Int} {dead : List Int} {w w' : World} {e : Ending} (hx : Ext w w') (h : ∃ v, e = .returned (.tuple #[v, .int .i64 0]) ∧ NewPl lo S gen root next dead v w') : PoolSh S gen root next dead w e w' := by
  obtain ⟨v, rfl, A1, c1, A2, c2, A3, c3, A4, c4, A5, c5, rfl, hC⟩ := h
  exact ⟨hx, A1, _, c1, A2, _, c2, A3, _, c3, A4, _, c4, A5, c5, rfl, lies_new hC⟩
theorem counts_shape {S : Sto} {root next : Int} {dead held : List Int} {w w' : World} {e : Ending} (h : CountsQ S root next dead held w e w') : Ext w w' ∧ ∃ (b : Bool) (n : Int), e = .returned (.tuple #[.bool b, .int .i64 n]) ∧ (b = true → n = 0 → ∃ vs refs nodes, Kn S root next dead vs refs nodes ∧ countsV S refs held = (true, 0)) := by
  refine ⟨h.1, ?_⟩
  rcases h.2 with ⟨rfl, _⟩ | ⟨vs, refs, nodes, h1, h2, h3, rfl⟩
  · exact ⟨false, 8, rfl, fun h => by cases h⟩
  · exact ⟨_, _, rfl, fun hb hn => ⟨vs, refs, nodes, ⟨h1, h2, h3⟩, Prod.ext hb hn⟩⟩

set_option maxHeartbeats 8000000 in
set_option maxRecDepth 100000 in
theorem clays_any (A1 : Option Addr) (c1 : Nat) (A2 : Option Addr) (c2 : Nat) (A3 : Option Addr) (c3 : Nat) (A4 : Option Addr) (c4 : Nat) (gen root next : Int) (A5 : Option Addr) (c5 : Nat) (S : Sto) (dead : List Int) (A6 : Option Addr) (c6 : Nat) (held : List Int) (A7 : Option Addr) (c7 : Nat) (data : List UInt8) (w : World)
    (h : StoAt w w.heap.size (.slice A1 S.bs.length c1) (.slice A2 S.ws.length c2) (.slice A3 S.now.length c3) (.slice A4 S.last.length c4) S) (hd : Ints w w.heap.size (.slice A5 dead.length c5) dead) (hh : Ints w w.heap.size (.slice A6 held.length c6) held) (hb : Bys w w.heap.size (.slice A7 data.length c7) data) :
    Calls Try.prog 5 #[.agg (poolCs (.slice A1 S.bs.length c1) (.slice A2 S.ws.length c2) (.slice A3 S.now.length c3) (.slice A4 S.last.length c4) gen root next (.slice A5 dead.length c5)), .slice A6 held.length c6, .slice A7 data.length c7] w (Ret (.bool true) w) := by
  have hp : Hid (∀ W, Below w.heap.size w W → StoAt W W.heap.size (.slice A1 S.bs.length c1) (.slice A2 S.ws.length c2) (.slice A3 S.now.length c3) (.slice A4 S.last.length c4) S) := Lib.hid fun W hW => (h.below hW).more hW.size
  have hpd := Lib.hid (fun W (hW : Ext w W) => hd.ext_ hW)
  have hph := Lib.hid (fun W (hW : Ext w W) => hh.ext_ hW)
  have hpb := Lib.hid (fun W (hW : Ext w W) => (hb.below hW).more hW.size)
  clear h hd hh hb
  go_enter Try.func5, Try.ntmps5
  go_wp2_with fail
  generalize hw1 : (World.alloc _ _) = w1
  have x1 : Ext w w1 := by rw [← hw1]; exact Ext.alloc _ _
  have r1 : w1.heap[w.heap.size]? = some (.cells (poolCs (.slice A1 S.bs.length c1) (.slice A2 S.ws.length c2) (.slice A3 S.now.length c3) (.slice A4 S.last.length c4) gen root next (.slice A5 dead.length c5)) 32 (0, 0)) := by rw [← hw1]; exact World.alloc_heap_at _ _ _ rfl
  clear hw1
  refine (alive_any w1).mono ?_
  rintro e w2 ⟨rfl, hB⟩
  have x2 : Ext w w2 := x1.trans hB
  have r2 := row_ext r1 hB
  have k2 := cells_row r2
  clear hB r1 x1
  go_wp2_with fail
  refine (great14_any _ _ _ _ _ _ _ _ _ _ _ _ _ _ _ _ _ _ S w2 (hp.out w2 x2)).mono ?_
  rintro e w3 ⟨rfl, hB⟩
  have x3 : Ext w w3 := x2.trans hB
  have r3 := row_ext r2 hB
  have k3 := cells_row r3
  clear hB r2 x2 k2
  cases hgr : greatP S dead.length
  case true =>
    go_wp2
    go_ret
    exact ⟨rfl, x3⟩
  case false =>
    clear hgr
    by_cases hh2 : 1000 < held.length
    · have d2 : decide ((held.length : Int) > 1000) = true := decide_eq_true (by omega)
      have d3 : decide (1000 < held.length) = true := decide_eq_true hh2
      go_wp2
      go_ret
      exact ⟨rfl, x3⟩
    · have d2 : decide ((held.length : Int) > 1000) = false := decide_eq_false (by omega)
      have d3 : decide (1000 < held.length) = false := decide_eq_false hh2
      have hle : held.length ≤ 1000 := by omega
      replace hh2 := Lib.hid hh2
      replace hle := Lib.hid hle
      by_cases hd2 : 1000 < data.length
      · have d4 : decide ((data.length : Int) > 1000) = true := decide_eq_true (by omega)
        have d5 : decide (1000 < data.length) = true := decide_eq_true hd2
        replace hd2 := Lib.hid hd2
        go_wp2
        go_ret
        exact ⟨rfl, x3⟩
      · have d4 : decide ((data.length : Int) > 1000) = false := decide_eq_false (by omega)
        have d5 : decide (1000 < data.length) = false := decide_eq_false hd2
        replace hd2 := Lib.hid hd2
        go_wp2_with fail
        refine (counts_any _ _ _ _ _ _ _ _ _ _ _ _ gen root next _ _ S dead _ _ held w3 (hp.out w3 x3) (hpd.out w3 x3) (hph.out w3 x3)).mono ?_
        intro e w4 hC
        obtain ⟨xB, ib, ie, rfl, hC1⟩ := counts_shape hC
        have x4 : Ext w w4 := x3.trans xB
        have r4 := row_ext r3 xB
        have k4 := cells_row r4
        replace hC1 := Lib.hid hC1
        clear hC xB r3 k3 x3
        go_wp2_with fail
        refine (vlay_any _ _ _ _ _ _ _ _ _ _ _ _ gen root next _ _ S dead _ _ data w4 (hp.out w4 x4) (hpd.out w4 x4) (hpb.out w4 x4)).mono ?_
        intro e w5 hL
        obtain ⟨xB, B1, m1, d1, B2, m2, d2', B3, m3, d3', B4, m4, d4', g, r, n, B5, m5, d5', at_, er, rfl, hL1⟩ := lay_shape hL
        have x5 : Ext w w5 := x4.trans xB
        have r5 := row_ext r4 xB
        replace hL1 := Lib.hid hL1
        clear hL xB r4 k4 x4
        by_cases hie : ie = 0
        · cases ib
          · subst hie
            go_wp2
            go_ret
            exact ⟨rfl, Ext.trans x5 (Ext.alloc _ _)⟩
          · by_cases her : er = 0
            · obtain ⟨vs, refs, nodes, hK, hcv⟩ := hC1.out rfl hie
              obtain ⟨hLE, rfl, hg, hr, hn, rfl, hLies⟩ := hL1.out her
              replace hg := hg.symm
              replace hr := hr.symm
              replace hn := hn.symm
              subst hg
              subst hr
              subst hn
              subst hie
              subst her
              have hP := lays_plain hK hcv hle.out hLE
              obtain ⟨i0, hi, hz0, hz1, hz2⟩ := info_parts Try.info_int
              obtain ⟨h8, h256⟩ : 8 ≤ firstFree S ∧ firstFree S < 256 := ⟨(layE_ok hLE).2.2.2.1, (layE_ok hLE).2.2.2.2.1⟩
              generalize firstFree S = ff at *
              obtain ⟨k1, k2, k3, p1, p2, p3, psh, plo, puse⟩ := hP
              generalize putAt S ff (padB 128 data) = S1 at *
              have HSh := Lib.hid (fun W (hW : Ext w5 W) => (vshare_any B1 m1 d1 B2 m2 d2' B3 m3 d3' B4 m4 d4' gen root next B5 d5' S1 dead (ff : Int) W (hLies W hW).1 (hLies W hW).2).mono fun e w' hQ => (show PoolSh (withNow S1 (turned S1.now ff 1)) gen root next dead W e w' from pool_shape hQ.1 (hQ.known k1.pool k1.cnt k1.en (fun n' hn => vshare_same hn _) psh)))
              have HLo := Lib.hid (fun W (hW : Ext w5 W) => (vloose_any B1 m1 d1 B2 m2 d2' B3 m3 d3' B4 m4 d4' gen root next B5 d5' S1 dead (ff : Int) W (hLies W hW).1 (hLies W hW).2).mono fun e w' hQ => (show PoolSh (withNow S1 (down S1.now ff)) gen root next dead W e w' from pool_shape hQ.1 (hQ.known k1.pool k1.cnt k1.en (fun n' hn => vloose_same hn _) plo)))
              have HU := Lib.hid (fun W (hW : Ext w5 W) => (uses_any B1 m1 d1 B2 m2 d2' B3 m3 d3' B4 m4 d4' gen root next B5 d5' S1 dead W (hLies W hW).1 (hLies W hW).2).mono fun e w' hQ => (show Ext W w' ∧ ∃ ob, e = .returned (.tuple #[.slice (some ⟨ob, 0, none⟩) 256 256, .int .i64 0]) ∧ W.heap.size ≤ ob ∧ w'.heap[ob]? = some (.cells (arrB (useB S1 (metB nodes))).toArray 5 (0, 0)) from ⟨hQ.1, hQ.known k1.pool k1.cnt k1.en⟩))
              have HC1 := Lib.hid (fun W (hW : Ext w5 W) A8 c8 (hI : Ints W W.heap.size (.slice A8 (held ++ [(ff : Int)]).length c8) (held ++ [(ff : Int)])) => (counts_any B1 m1 d1 B2 m2 d2' B3 m3 d3' B4 m4 d4' gen root next B5 d5' S1 dead A8 c8 (held ++ [(ff : Int)]) W (hLies W hW).1 (hLies W hW).2 hI).mono fun e w' hQ => (show Ret (.tuple #[.bool true, .int .i64 0]) W e w' from ⟨by have := hQ.known k1.pool k1.cnt k1.en; rw [p1] at this; exact this, hQ.1⟩))
              generalize withNow S1 (turned S1.now ff 1) = S2 at *
              generalize withNow S1 (down S1.now ff) = S3 at *
              have hR : Hid (∀ W, Ext w W → Rd W W.heap.size 1 A6 held.length (rowI held)) := Lib.hid fun W hW => by
                obtain ⟨A, c, e, _, _, q⟩ := hph.out W hW
                simp only [Value.slice.injEq, true_and] at e
                obtain ⟨rfl, rfl⟩ := e
                exact q
              replace k1 := Lib.hid k1
              replace k2 := Lib.hid k2
              replace k3 := Lib.hid k3
              replace p1 := Lib.hid p1
              replace p2 := Lib.hid p2
              replace p3 := Lib.hid p3
              replace puse := Lib.hid puse
              replace hLies := Lib.hid hLies
              clear hK hcv hC1 hL1 hLE psh plo
              go_wp2_with (at_builtin; refine wpList_stop ?_)
              generalize hw6 : World.alloc w5 _ = w6
              have x56 : Ext w5 w6 := by rw [← hw6]; exact Ext.alloc _ _
              have rq6 : w6.heap[w5.heap.size]? = some (.cells (poolCs (.slice B1 m1 d1) (.slice B2 m2 d2') (.slice B3 m3 d3') (.slice B4 m4 d4') gen root next (.slice B5 dead.length d5')) 32 (0, 0)) := by rw [← hw6]; exact World.alloc_heap_at _ _ _ rfl
              clear hw6
              refine Stopped.go (wpList_append_rd w6 rfl (.const (.slice none 0 0)) (.tmp 68) 30 rfl w6.heap.size 3 i0 (.int .i64 0) 1 8 Try.underlying30 hi hz0 hz1 hz2 rfl (by decide) (.slice none 0 0) 0 [] (by exact rfl) (World.ownsRow_nil _ _ _ _) w6.heap.size A6 held.length c6 (rowI held) (by exact rfl) (hR.out w6 (x5.trans x56)) (rowI_one held) (by have := hle.out; omega) (by decide) (Nat.le_refl _) ?_)
              intro v7 w7 own7 _ hB7 _
              simp only [Nat.zero_add, List.nil_append] at own7
              have x67 : Ext w6 w7 := hB7
              obtain ⟨A8, c8, rfl, -, -⟩ := own_slice own7
              clear hB7
              replace own7 := Lib.hid own7
              go_wp2_with (at_builtin; refine wpList_stop ?_)
              refine Stopped.go (wpList_push w7 rfl (.tmp 69) (.tmp 71) 30 rfl w6.heap.size 3 i0 (.int .i64 0) 1 8 Try.underlying30 hi hz0 hz1 hz2 rfl (by decide) (.slice A8 held.length c8) held.length (rowI held) (by exact rfl) own7.out #[.int .i64 (ff : Int)] (by exact rfl) rfl (by simp [Value.oneCell']) (by have := hle.out; omega) (by decide) x67.size ?_)
              intro v8 w8 own8 _ hB8 _
              have x68 : Ext w6 w8 := Below.trans x67 hB8
              have own8' : w8.ownsRow w6.heap.size 3 1 v8 (held ++ [(ff : Int)]).length (rowI (held ++ [(ff : Int)])) := by
                rw [rowI_snoc, List.length_append, List.length_singleton]
                exact own8
              obtain ⟨A9, c9, rfl, -, -⟩ := own_slice own8
              have x58 : Ext w5 w8 := x56.trans x68
              have rq8 := row_ext rq6 x68
              have kq8 := cells_row rq8
              replace own8' := Lib.hid own8'
              replace hi := Lib.hid hi
              clear own8 own7 hB8 x67 rq6
              go_wp2_with fail
              refine (HSh.out w8 x58).mono ?_
              rintro e w9 ⟨xB, C1, n1, f1, C2, n2, f2, C3, n3, f3, C4, n4, f4, C5, f5, rfl, hL2⟩
              have x59 : Ext w5 w9 := x58.trans xB
              have rq9 := row_ext rq8 xB
              have kq9 := cells_row rq9
              have zq9 : w5.heap.size < w9.heap.size := (Array.getElem?_eq_some_iff.1 rq9).1
              have own9 := own_ext own8'.out xB
              replace own9 := Lib.hid own9
              replace hL2 := Lib.hid hL2
              clear xB kq8 rq8 own8'
              go_wp2_with fail
              generalize hwa : World.alloc w9 _ = wa
              have x9a : Ext w9 wa := by rw [← hwa]; exact Ext.alloc _ _
              have rra : wa.heap[w9.heap.size]? = some (.cells (poolCs (.slice C1 n1 f1) (.slice C2 n2 f2) (.slice C3 n3 f3) (.slice C4 n4 f4) gen root next (.slice C5 dead.length f5)) 32 (0, 0)) := by rw [← hwa]; exact World.alloc_heap_at _ _ _ rfl
              clear hwa
              have x5a : Ext w5 wa := x59.trans x9a
              have rqa := row_ext rq9 x9a
              have owna := Lib.hid (own_ext own9.out x9a)
              clear rq9 kq9 own9
              refine (HLo.out wa x5a).mono ?_
              rintro e wb ⟨xB, D1, o1, y1, D2, o2, y2, D3, o3, y3, D4, o4, y4, D5, y5, rfl, hL3⟩
              have x5b : Ext w5 wb := x5a.trans xB
              have x9b : Ext w9 wb := x9a.trans xB
              have rqb := row_ext rqa xB
              have rrb := row_ext rra xB
              have kqb := cells_row rqb
              have zqb : w5.heap.size < wb.heap.size := (Array.getElem?_eq_some_iff.1 rqb).1
              have ownb := Lib.hid (own_ext owna.out xB)
              replace hL3 := Lib.hid hL3
              clear xB rqa rra owna
              go_wp2_with fail
              generalize hwc : World.alloc wb _ = wc
              have xbc : Ext wb wc := by rw [← hwc]; exact Ext.alloc _ _
              have rsc : wc.heap[wb.heap.size]? = some (.cells (poolCs (.slice D1 o1 y1) (.slice D2 o2 y2) (.slice D3 o3 y3) (.slice D4 o4 y4) gen root next (.slice D5 dead.length y5)) 32 (0, 0)) := by rw [← hwc]; exact World.alloc_heap_at _ _ _ rfl
              clear hwc
              have x5c : Ext w5 wc := x5b.trans xbc
              have rqc := row_ext rqb xbc
              have rrc := row_ext rrb xbc
              have ownc := own_ext ownb.out xbc
              have HC := HC1.out wc x5c A9 c9 (by rw [List.length_append, List.length_singleton]; exact Ints.of_own ownc)
              rw [List.length_append, List.length_singleton] at HC
              replace ownc := Lib.hid ownc
              clear rqb rrb kqb ownb
              refine HC.mono ?_
              clear HC
              rintro e wd ⟨rfl, xB⟩
              have x5d : Ext w5 wd := x5c.trans xB
              have x9d : Ext w9 wd := x9b.trans (xbc.trans xB)
              have xbd : Ext wb wd := xbc.trans xB
              have rqd := row_ext rqc xB
              have rrd := row_ext rrc xB
              have rsd := row_ext rsc xB
              have ownd := Lib.hid (own_ext ownc.out xB)
              clear xB rqc rrc rsc ownc
              have zr : w9.heap.size < wd.heap.size := (Array.getElem?_eq_some_iff.1 rrd).1
              obtain ⟨xs, hxs⟩ : ∃ xs, xs = rowI (held ++ [(ff : Int)]) := ⟨_, rfl⟩
              rw [← hxs] at ownd
              have hx1 : Hid (∀ u ∈ xs, u.oneCell' = true) := Lib.hid (by rw [hxs]; exact rowI_one _)
              have hxl : Hid (rowI (held ++ [(ff : Int)] ++ [(ff : Int)]) = xs ++ [.int .i64 (ff : Int)]) := Lib.hid (by rw [rowI_snoc, ← hxs])
              have HC2 := Lib.hid (fun W (hW : Ext w9 W) A8 c8 (hI : Ints W W.heap.size (.slice A8 (held ++ [(ff : Int)] ++ [(ff : Int)]).length c8) (held ++ [(ff : Int)] ++ [(ff : Int)])) => (counts_any C1 n1 f1 C2 n2 f2 C3 n3 f3 C4 n4 f4 gen root next C5 f5 S2 dead A8 c8 (held ++ [(ff : Int)] ++ [(ff : Int)]) W (hL2.out W hW).1 (hL2.out W hW).2 hI).mono fun e w' hQ => (show Ret (.tuple #[.bool true, .int .i64 0]) W e w' from ⟨by have := hQ.known k2.out.pool k2.out.cnt k2.out.en; rw [p2.out] at this; exact this, hQ.1⟩))
              have HC3 := Lib.hid (fun W (hW : Ext wb W) => (counts_any D1 o1 y1 D2 o2 y2 D3 o3 y3 D4 o4 y4 gen root next D5 y5 S3 dead A6 c6 held W (hL3.out W hW).1 (hL3.out W hW).2 (hph.out W (x5.trans (x5b.trans hW)))).mono fun e w' hQ => (show Ret (.tuple #[.bool true, .int .i64 0]) W e w' from ⟨by have := hQ.known k3.out.pool k3.out.cnt k3.out.en; rw [p3.out] at this; exact this, hQ.1⟩))
              replace hxs := Lib.hid hxs
              obtain ⟨RR, hRR⟩ : ∃ RR : Rel, RR = apI wd.heap.size 3 (held.length + 1) xs (.int .i64 (ff : Int)) := ⟨_, rfl⟩
              have g1 : ∀ W, RR.r wd W → ∀ i, W.cell? ⟨w9.heap.size, i, none⟩ = (poolCs (.slice C1 n1 f1) (.slice C2 n2 f2) (.slice C3 n3 f3) (.slice C4 n4 f4) gen root next (.slice C5 dead.length f5))[i]? := fun W h => cells_row (apI_row (hRR ▸ h) zr rrd)
              replace hRR := Lib.hid hRR
              go_wp2_with fail
              refine region_start (by kernel_rfl) ?_
              refine any_freeT (w := wd) RR (outsAt [(2, outOwnR wd.heap.size 3 (held.length + 1) xs), (4, outLit wd.heap.size 1 3 #[.int .i64 (ff : Int)]), (5, outOwnR wd.heap.size 3 (held.length + 1 + 1) (xs ++ [.int .i64 (ff : Int)])), (6, one (.tuple #[.bool true, .int .i64 0]))])
                [true, true, true, true, true, true, true, true, true, true, true, true] 0 (by kernel_rfl) (by kernel_rfl) (by kernel_rfl) (by kernel_rfl) (by kernel_rfl) (by kernel_rfl) (by kernel_rfl) ?st (Rel.drew _ _) ?walk
              case st => rw [hRR.out]; exact outsAt_stableG (by simp only [List.forall_mem_cons]; exact ⟨outOwnR_stable1 _ _ _ _ _, outLit_stableI _ _ _ _ _ _, outOwnR_stable2 _ _ _ _ _, one_stableG _, fun _ h => by cases h⟩)
              case walk =>
                intro K hK
                dsimp only [maskOps]
                repeat ((first | (refine free_plainM ?_ (by rfl) (by rfl) (fun W hW _ => ⟨W, ?_, Rel.refl _ W⟩) ?_; rotate_left; (first | (go_simp; with_reducible rfl) | (go_simp; done))) | (refine free_skipM (by rfl) ?_)); try simp only [Act.put, one_f, outB_f, outNew_f, outI_f, outOwnR_f, outLit_f, List.setIfInBounds_toArray, List.set_cons_zero, List.set_cons_succ])
                refine free_hardM (outOwnR wd.heap.size 3 (held.length + 1) xs) (by rfl) (by rfl) (fun W hW _ => ?_) (fun p => ?_)
                · rw [hRR.out] at hW ⊢
                  have hxW : Ext wd W := apI_below hW (Nat.le_refl _)
                  have hrd : Rd W W.heap.size 1 A9 (held.length + 1) xs := by
                    have h0 := own_ext ownd.out hxW
                    rw [List.length_append, List.length_singleton] at h0
                    exact Rd.of_own h0
                  obtain ⟨v', w', hrun, hown, hg, hB, _⟩ := run_append_rd (P := Try.prog) W W.heap.size 30 30 3 i0 (.int .i64 0) 1 8 Try.underlying30 hi.out hz0 hz1 hz2 rfl (by decide) (.slice none 0 0) 0 [] (World.ownsRow_nil _ _ _ _) W.heap.size A9 (held.length + 1) c9 xs hrd hx1.out (by have := hle.out; omega) (by decide) (Nat.le_refl _)
                  simp only [Nat.zero_add, List.nil_append] at hown
                  obtain ⟨A', c', rfl, _, _⟩ := own_slice hown
                  refine hardAt_valueG (u := .slice A' (held.length + 1) c') (w' := w') ?_ ⟨(A', c'), rfl, own_mono hown hW.1.2.2.2.1, apI_ext hB⟩
                  exact exec_append (s := .const (.slice none 0 0)) (x := .tmp 93) rfl rfl rfl hrun
                obtain ⟨A10, c10⟩ := p
                simp only [Act.put, one_f, outB_f, outNew_f, outI_f, outOwnR_f, outLit_f, List.setIfInBounds_toArray, List.set_cons_zero, List.set_cons_succ]
                repeat ((first | (refine free_plainM ?_ (by rfl) (by rfl) (fun W hW _ => ⟨W, ?_, Rel.refl _ W⟩) ?_; rotate_left; (first | (go_simp; with_reducible rfl) | (go_simp; done))) | (refine free_skipM (by rfl) ?_)); try simp only [Act.put, one_f, outB_f, outNew_f, outI_f, outOwnR_f, outLit_f, List.setIfInBounds_toArray, List.set_cons_zero, List.set_cons_succ])
                refine free_hardM (outLit wd.heap.size 1 3 #[.int .i64 (ff : Int)]) (by rfl) (by rfl) (fun W hW _ => ?_) (fun (q : Nat) => ?_)
                · rw [hRR.out] at hW ⊢
                  refine hardAt_valueG (u := .slice (some ⟨W.heap.size, 0, none⟩) 1 1) (w' := W.alloc (.cells #[.int .i64 (ff : Int)] 3)) ?_ ⟨W.heap.size, rfl, ⟨World.alloc_heap_at _ _ _ rfl, hW.1.2.2.2.1⟩, apI_ext (Ext.alloc _ _)⟩
                  go_simp
                simp only [Act.put, one_f, outB_f, outNew_f, outI_f, outOwnR_f, outLit_f, List.setIfInBounds_toArray, List.set_cons_zero, List.set_cons_succ]
                repeat ((first | (refine free_plainM ?_ (by rfl) (by rfl) (fun W hW _ => ⟨W, ?_, Rel.refl _ W⟩) ?_; rotate_left; (first | (go_simp; with_reducible rfl) | (go_simp; done))) | (refine free_skipM (by rfl) ?_)); try simp only [Act.put, one_f, outB_f, outNew_f, outI_f, outOwnR_f, outLit_f, List.setIfInBounds_toArray, List.set_cons_zero, List.set_cons_succ])
                refine free_hardM (outOwnR wd.heap.size 3 (held.length + 1 + 1) (xs ++ [.int .i64 (ff : Int)])) (by rfl) (by rfl) (fun W hW hp => ?_) (fun p => ?_)
                · rw [hRR.out] at hW ⊢
                  have q2 : W.ownsRow wd.heap.size 3 1 (.slice A10 (held.length + 1) c10) (held.length + 1) xs := (hp 2 (by decide)).1
                  have q4 : W.heap[q]? = some (.cells #[.int .i64 (ff : Int)] 3 (0, 0)) ∧ wd.heap.size ≤ q := (hp 4 (by decide)).1
                  obtain ⟨v', w', hrun, hown, hr'⟩ := run_append_apI (P := Try.prog) W 30 30 i0 (.int .i64 0) 8 Try.underlying30 hi.out hz0 hz1 hz2 rfl q2 q q4.1 rfl (by have := hle.out; omega) (by decide) hW.1.2.2.2.1
                  obtain ⟨A', c', rfl, _, _⟩ := own_slice hown
                  refine hardAt_valueG (u := .slice A' (held.length + 1 + 1) c') (w' := w') ?_ ⟨(A', c'), rfl, hown, hr'⟩
                  exact exec_append (s := .tmp 94) (x := .tmp 96) rfl rfl rfl hrun
                obtain ⟨A11, c11⟩ := p
                simp only [Act.put, one_f, outB_f, outNew_f, outI_f, outOwnR_f, outLit_f, List.setIfInBounds_toArray, List.set_cons_zero, List.set_cons_succ]
                repeat ((first | (refine free_plainM ?_ (by rfl) (by rfl) (fun W hW _ => ⟨W, ?_, Rel.refl _ W⟩) ?_; rotate_left; (first | (go_simp; with_reducible rfl) | (go_simp; done))) | (refine free_skipM (by rfl) ?_)); try simp only [Act.put, one_f, outB_f, outNew_f, outI_f, outOwnR_f, outLit_f, List.setIfInBounds_toArray, List.set_cons_zero, List.set_cons_succ])
                refine free_hardM (one (.tuple #[.bool true, .int .i64 0])) (by rfl) (by rfl) (fun W hW hp => ?_) (fun (p : Unit) => ?_)
                · rw [hRR.out] at hW ⊢
                  have q5 : W.ownsRow wd.heap.size 3 1 (.slice A11 (held.length + 1 + 1) c11) (held.length + 1 + 1) (xs ++ [.int .i64 (ff : Int)]) := (hp 5 (by decide)).1
                  have hxW : Ext wd W := apI_below hW (Nat.le_refl _)
                  have hl2 : (held ++ [(ff : Int)] ++ [(ff : Int)]).length = held.length + 1 + 1 := by simp
                  have hI : Ints W W.heap.size (.slice A11 (held ++ [(ff : Int)] ++ [(ff : Int)]).length c11) (held ++ [(ff : Int)] ++ [(ff : Int)]) := by
                    rw [← hxl.out, ← hl2] at q5
                    exact Ints.of_own q5
                  have HC := HC2.out W (x9d.trans hxW) A11 c11 hI
                  rw [hl2] at HC
                  refine hardAt_callG ?_ (HC.mono fun e w' hC => ?_)
                  · go_simp
                  exact ⟨(), hC.1, trivial, apI_ext hC.2⟩
                simp only [Act.put, one_f, outB_f, outNew_f, outI_f, outOwnR_f, outLit_f, List.setIfInBounds_toArray, List.set_cons_zero, List.set_cons_succ]
                repeat ((first | (refine free_plainM ?_ (by rfl) (by rfl) (fun W hW _ => ⟨W, ?_, Rel.refl _ W⟩) ?_; rotate_left; (first | (go_simp; with_reducible rfl) | (go_simp; done))) | (refine free_skipM (by rfl) ?_)); try simp only [Act.put, one_f, outB_f, outNew_f, outI_f, outOwnR_f, outLit_f, List.setIfInBounds_toArray, List.set_cons_zero, List.set_cons_succ])
                refine free_nilM (hK _ _ fun W hW hF => ?_)
                clear hF hK g1
                rw [hRR.out] at hW
                have hxW : Ext wd W := apI_below hW (Nat.le_refl _)
                have x5e : Ext w5 W := x5d.trans hxW
                have xbe : Ext wb W := xbd.trans hxW
                have rqe := row_ext rqd hxW
                have rse := row_ext rsd hxW
                have kqe := cells_row rqe
                have kse := cells_row rse
                clear hW hRR rqd rrd rsd HC2 ownd
                generalize W = we at *
                dsimp only [List.drop, List.length_cons, List.length_nil]
                go_wp2_with fail
                refine QN_in ?_
                go_wp2_with fail
                refine (HC3.out we xbe).mono ?_
                rintro e wf ⟨rfl, xB⟩
                have x5f : Ext w5 wf := x5e.trans xB
                have rqf := row_ext rqe xB
                have kqf := cells_row rqf
                clear xB rqe rse kqe kse HC3
                go_wp2_with fail
                refine (HU.out wf x5f).mono ?_
                rintro e wg ⟨xB, ob, rfl, hob, rob⟩
                have x5g : Ext w5 wg := x5f.trans xB
                have kob : wg.cell? ⟨ob, ff, none⟩ = some (.int .u8 4) := by
                  rw [cells_row rob, List.getElem?_toArray, arrB_get _ h256, puse.out]
                  rfl
                have dff : decide (ff < 256) = true := decide_eq_true h256
                clear xB rqf kqf HU rob
                go_wp2
                go_ret
                exact ⟨rfl, x5.trans x5g⟩
            · have b1 : (er != 0) = true := by rw [bne_iff_ne]; exact her
              subst hie
              replace her := Lib.hid her
              go_wp2
              go_ret
              exact ⟨rfl, Ext.trans x5 (Ext.alloc _ _)⟩
        · have b1 : (ie != 0) = true := by rw [bne_iff_ne]; exact hie
          replace hie := Lib.hid hie
          go_wp2
          go_ret
          exact ⟨rfl, Ext.trans x5 (Ext.alloc _ _)⟩
end Go.Proofs.Ytlgbjpihmkeopaa
