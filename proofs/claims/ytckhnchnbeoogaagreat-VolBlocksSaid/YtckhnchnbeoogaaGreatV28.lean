/- Texts DLay17, DData17, DShare17, DFree12, DLoose17, joined. -/
import Derived.Test.YtckhnchnbeoogaaGreatV13
import Derived.Test.YtckhnchnbeoogaaGreatV21
import Derived.Test.YtckhnchnbeoogaaGreatV22
import Derived.Test.YtckhnchnbeoogaaGreatV23
import Derived.Test.YtckhnchnbeoogaaGreatV24
import Derived.Test.YtckhnchnbeoogaaGreatV27
set_option linter.unusedSimpArgs false
set_option linter.unusedVariables false
namespace Go.Proofs.YtckhnchnbeoogaaGreat
open Go.RowKit
def TO (S:Sto) (data:List UInt8):Int:=if 128<data.length then 3 else if Qh S=[]∨4096≤S.ws.length then 9 else if 16≤(Qh (ZR S (qO S) (ZS 128 data))).length then 0 else 9
def DLayQ (S:Sto) (gen root next:Int) (dead:List Int) (data:List UInt8) (w:World) (e:Ending) (w':World):Prop:=Below w.heap.size w w' ∧
 ((e=.returned (.tuple #[ku,.int .i64 0,.int .i64 8])∧∀ vs,QM S root next dead vs→∃ refs met,Qr (QX S) (zi S) (zl root dead vs) (zv met) refs∧¬QY S refs) ∨
  ∃ vs refs met,QM S root next dead vs∧Qr (QX S) (zi S) (zl root dead vs) (zv met) refs∧QY S refs ∧
   ((TO S data≠0∧e=.returned (.tuple #[ku,.int .i64 0,.int .i64 (TO S data)]))∨(TO S data=0∧∃ A1 c1 A2 c2 A3 c3 A4 c4 A5 c5,e=.returned (.tuple #[.agg (qC (.slice A1 S.bs.length c1) (.slice A2 (S.ws.length+1) c2) (.slice A3 S.now.length c3) (.slice A4 S.last.length c4) gen root next (.slice A5 dead.length c5)),.int .i64 (qO S:Int),.int .i64 0]) ∧
    qH w' w'.heap.size (.slice A1 S.bs.length c1) (.slice A2 (S.ws.length+1) c2) (.slice A3 S.now.length c3) (.slice A4 S.last.length c4) (ZR S (qO S) (ZS 128 data))∧QF w' w'.heap.size (.slice A5 dead.length c5) dead)))
theorem kA {R:Ending→World→Prop} {a:Act} {W:World} {b:Nat} {x0 x1 x2 x3 x4 x5 x6 x7 u v:Value} (h4:a.tmps[4]?.getD undef=.pointer (some ⟨b,0,none⟩)) (h5:a.tmps[5]?.getD undef=u) (h6:a.tmps[6]?.getD undef=v) (hd:a.defers=[])
  (hrow:W.heap[b]?=some (.cells #[x0,x1,x2,x3,x4,x5,x6,x7] 32 (0,0))) (hR:R (.returned (.tuple #[.agg #[x0,x1,x2,x3,x4,x5,x6,x7],u,v])) W):bodyPost Tryz.prog Tryz.f15 R .ret a W:=by
 refine bodyPost_ret (v:=.tuple #[.agg #[x0,x1,x2,x3,x4,x5,x6,x7],u,v]) ?_ hd hR
 have k:=qa hrow
 simp[results,Tryz.results15,go_sem,h4,h5,h6,k]
def lenS17:Value→Nat
 | .slice _ n _=>n
 |_=>0
theorem qep {k:Nat} {l:List UInt8} (h:l.length≤k):ZS (k+1) l=ZS k l++[0]:=by
 unfold ZS
 rw[show k+1-l.length=(k-l.length)+1 by omega,List.replicate_succ',List.append_assoc]
theorem first_ge {S:Sto} (h:¬Qh S=[]):8≤qO S:=by
 have hmem:qO S∈zP S 256:=by
  show qO S∈Qh S
  unfold qO
  rcases hf:Qh S with _|⟨x,r⟩
  ·exact absurd hf h
  ·simp
 have h2:=(List.mem_filter.1 hmem).2
 unfold Je at h2
 simp only[Bool.and_eq_true,decide_eq_true_eq] at h2
 exact h2.1
structure PadI (w5:World) (data:List UInt8) (v:Value) (wr:World):Prop where
 ex:∃ k:Nat,data.length≤k∧k≤128∧wr.ownsRow w5.heap.size 5 1 v k ((ZS k data).map bv)∧Ext w5 wr
set_option maxHeartbeats 8000000 in
set_option maxRecDepth 100000 in
theorem dlay_any (A1:Option Addr) (c1:Nat) (A2:Option Addr) (c2:Nat) (A3:Option Addr) (c3:Nat) (A4:Option Addr) (c4:Nat) (gen root next:Int) (A5:Option Addr) (c5:Nat) (S:Sto) (dead:List Int) (A:Option Addr) (c:Nat) (data:List UInt8) (w:World)
  (h:qH w w.heap.size (.slice A1 S.bs.length c1) (.slice A2 S.ws.length c2) (.slice A3 S.now.length c3) (.slice A4 S.last.length c4) S) (hd:QF w w.heap.size (.slice A5 dead.length c5) dead) (hb:Bys w w.heap.size (.slice A data.length c) data) :
  Calls Tryz.prog 15 #[.agg (qC (.slice A1 S.bs.length c1) (.slice A2 S.ws.length c2) (.slice A3 S.now.length c3) (.slice A4 S.last.length c4) gen root next (.slice A5 dead.length c5)),.slice A data.length c] w (DLayQ S gen root next dead data w):=by
 have HM:=zH (fun W (hx:Ext w W)=>qeB A1 _ c1 A2 _ c2 A3 _ c3 A4 _ c4 gen root next A5 c5 S dead W (h.ext hx) (hd.ext_ hx))
 replace h:=zH h
 replace hd:=zH hd
 replace hb:=zH hb
 go_enter Tryz.func15,Tryz.ntmps15
 go_wp2_with fail
 generalize hw1:(World.alloc (World.alloc _ _) _)=w1
 have x1:Ext w w1:=by rw[←hw1];exact(Ext.alloc _ _).trans (Ext.alloc _ _)
 have rp1:w1.heap[w.heap.size]?=some (.cells (qC (.slice A1 S.bs.length c1) (.slice A2 S.ws.length c2) (.slice A3 S.now.length c3) (.slice A4 S.last.length c4) gen root next (.slice A5 dead.length c5)) 32 (0,0)):=by rw[←hw1];exact(Below.heap_alloc _ _ _ (by simp)).trans (World.alloc_heap_at _ _ _ rfl)
 have ro1:w1.heap[w.heap.size+1]?=some (.cells (qC (.slice none 0 0) (.slice none 0 0) (.slice none 0 0) (.slice none 0 0) 0 0 0 (.slice none 0 0)) 32 (0,0)):=by rw[←hw1];exact World.alloc_heap_at _ _ _ (by simp)
 clear hw1
 refine(HM.out w1 x1).mono ?_
 clear HM
 rintro e w2 ⟨hB,hQ⟩
 have x2:Ext w w2:=Ext.trans x1 hB
 have rp2:=qc rp1 hB
 have ro2:=qc ro1 hB
 clear hB rp1 ro1 x1
 have kp2:=qa rp2
 have ko2:=qa ro2
 have fo2:=qd ro2
 rcases hQ with ⟨rfl,hno⟩|⟨vs,refs,met,rfl,hpool,hm,hen⟩
 ·replace hno:=zH hno
  go_wp2_with fail
  exact kA (b:=w.heap.size+1) rfl rfl rfl rfl (jM ro2 _ _ _ _ _ _ _ _) ⟨zJ x2 (by omega) _ _ _ _ _ _ _ _,.inl ⟨rfl,hno.out⟩⟩
 ·have hS:=hpool.may
  replace hpool:=zH hpool
  replace hm:=zH hm
  replace hen:=zH hen
  by_cases hl:128<data.length
  ·have hE:TO S data=3:=if_pos hl
   have d1:decide ((data.length:Int)>128)=true:=decide_eq_true (by omega)
   have d2:decide (128<data.length)=true:=decide_eq_true hl
   replace hE:=zH hE
   replace hl:=zH hl
   replace hS:=zH hS
   go_wp2_with fail
   exact kA (b:=w.heap.size+1) rfl rfl rfl rfl (jM ro2 _ _ _ _ _ _ _ _) ⟨zJ x2 (by omega) _ _ _ _ _ _ _ _,.inr ⟨vs,refs,met,hpool.out,hm.out,hen.out,.inl ⟨by rw[hE.out];decide,by rw[hE.out];rfl⟩⟩⟩
  ·have d1:decide ((data.length:Int)>128)=false:=decide_eq_false (by omega)
   have d2:decide (128<data.length)=false:=decide_eq_false hl
   have hE0:=zH (show TO S data=_ from if_neg hl)
   have hl128:data.length≤128:=by omega
   replace hl:=zH hl
   replace hS:=zH hS
   obtain⟨i0,hi,hz0,hz1,hz2⟩:=info_parts Tryz.info_u8
   have hrd:Rd w2 w2.heap.size 1 A data.length (data.map bv):=by
    obtain⟨A',c',e,_,_,hr⟩:=hb.out
    simp only[Value.slice.injEq,true_and] at e
    obtain⟨rfl,rfl⟩:=e
    exact(hr.below x2).more x2.size
   go_wp2_with (at_builtin;refine qI ?_)
   refine Qc.go (qM w2 rfl (.const (.slice none 0 0)) (.tmp 20) 26 rfl w2.heap.size 5 i0 (.int .u8 0) 1 1 Tryz.underlying26 hi hz0 hz1 hz2 rfl (by decide) (.slice none 0 0) 0 [] (by exact rfl) (World.ownsRow_nil _ _ _ _) w2.heap.size A data.length c (data.map bv) (by exact rfl) hrd (zT data) (by omega) (by decide) (Nat.le_refl _) ?_)
   intro v w3 own _ hB _
   simp only[Nat.zero_add,List.nil_append] at own
   have x23:Ext w2 w3:=hB
   obtain⟨A8,c8,rfl,-,-⟩:=qw own
   replace own:=zH own
   clear hB hrd
   go_wp2_with fail
   go_loopw [7] (fun v wr=>PadI w2 data v wr) (fun v _=>128-lenS17 v)
   case atStart=>exact⟨data.length,Nat.le_refl _,hl128,by rw[show ZS data.length data=data by simp[ZS]];exact own.out,x23⟩
   case round =>
    obtain⟨k,hk1,hk2,own5,x5⟩:=hrel.ex
    obtain⟨A9,c9,rfl,-,-⟩:=qw own5
    clear hrel
    by_cases hlt:k<128
    ·have e1:decide ((k:Int)<128)=true:=decide_eq_true (by omega)
     have e2:decide (k<128)=true:=decide_eq_true hlt
     replace own5:=zH own5
     replace x5:=zH x5
     go_wp2_with (at_builtin;refine qI ?_)
     refine Qc.go (QP wr rfl (.tmp 25) (.tmp 26) 26 rfl w2.heap.size 5 i0 (.int .u8 0) 1 1 Tryz.underlying26 hi hz0 hz1 hz2 rfl (by decide) (.slice A9 k c9) k ((ZS k data).map bv) (by exact rfl) own5.out #[.int .u8 0] (by exact rfl) rfl (by simp[Value.oneCell']) (by omega) (by decide) x5.out.size ?_)
     intro v8 w8 own8 _ hB8 _
     obtain⟨A10,c10,rfl,-,-⟩:=qw own8
     have IR:PadI w2 data (.slice A10 (k+1) c10) w8:=⟨k+1,by omega,hlt,by rw[qep hk1,List.map_append];exact own8,Below.trans x5.out hB8⟩
     replace IR:=zH IR
     clear own8 hB8
     go_wp2_with fail
     refine⟨IR.out,?_⟩
     simp[lenS17]
     omega
    ·obtain rfl:k=128:=by omega
     replace own5:=zH own5
     have xr:Ext w wr:=x2.trans x5
     have rpr:=qc rp2 x5
     have ror:=qc ro2 x5
     have kpr:=qa rpr
     have kor:=qa ror
     have forr:=qd ror
     have zr:w.heap.size+1<wr.heap.size:=(zG.1 ror).1
     have zr2:w.heap.size+1<w2.heap.size:=(zG.1 ro2).1
     have hpl:(ZS 128 data).length=128:=TY hl128
     have HT:=qcN A1 c1 A2 c2 A3 c3 A4 c4 S hS.out A9 c9 (ZS 128 data) wr w.heap.size w2.heap.size wr.heap.size xr.size (Nat.le_refl _) (h.out.below xr) (fun C hC=>by have hb5:=Bys.of_own own5.out;rw[hpl];exact hb5.keepN (QD.of_own own5.out) (fun q h1 h2=>hC q (.inr ⟨h1,h2⟩)))
     rw[hpl] at HT
     replace HT:=zH HT
     replace hpl:=zH hpl
     replace x5:=zH x5
     clear kp2 ko2 fo2 rp2 ro2
     go_wp2_with fail
     refine HT.out.mono ?_
     clear HT
     rintro e w6 ⟨u,rfl,⟨B1,f1,B2,f2,B3,f3,B4,f4,n,rfl,hT⟩,hB⟩
     have x6:Ext w w6:=xr.trans hB
     have rp6:=qc rpr hB
     have ro6:=qc ror hB
     have kp6:=qa rp6
     have ko6:=qa ro6
     have fp6:=qd rp6
     have fo6:=qd ro6
     have z6:=hB.size
     have zp6:w.heap.size<w6.heap.size:=by omega
     have zo6:w.heap.size+1<w6.heap.size:=by omega
     replace hB:=zH hB
     clear rpr ror kpr kor forr
     by_cases hno:Qh S=[]∨4096≤S.ws.length
     ·have hE1:=zH (hE0.out.trans (if_pos hno))
      rw[if_pos hno]
      replace hno:=zH hno
      clear hT hE0
      go_wp2_with fail
      exact kA (b:=w.heap.size+1) rfl rfl rfl rfl (qc (jM ro6 _ _ _ _ _ _ _ _) (Ext.alloc _ _)) ⟨Below.alloc (zJ x6 (by omega) _ _ _ _ _ _ _ _) (by simpa using x6.size) _,.inr ⟨vs,refs,met,hpool.out,hm.out,hen.out,.inl ⟨by rw[hE1.out];decide,by rw[hE1.out];rfl⟩⟩⟩
     ·have hE1:=zH (hE0.out.trans (if_neg hno))
      obtain⟨rfl,hSt⟩:=hT hno
      rw[if_neg hno]
      replace hno:=zH hno
      replace hSt:=zH hSt
      replace hE1:=zH hE1.out
      clear hE0
      go_wp2_with fail
      generalize hW7:World.alloc _ _=w7
      have hs:=fun (A:World) (j:Nat) (v:Value) (k:Nat) (hk:k≠w.heap.size)=>Below.heap_setCell A ⟨w.heap.size,j,none⟩ v k hk
      have z7:w7.heap.size=w6.heap.size+1:=by rw[←hW7];simp
      have hsame:∀ k,k≠w.heap.size→k<w6.heap.size→w7.heap[k]?=w6.heap[k]?:=by
       intro k hk hk2
       rw[←hW7]
       refine(Below.heap_alloc _ _ _ (by simpa using hk2)).trans ?_
       rw[hs _ _ _ _ hk,hs _ _ _ _ hk,hs _ _ _ _ hk,hs _ _ _ _ hk]
      have x7:Ext w w7:=by rw[←hW7];exact Below.alloc (ZO x6 (Nat.le_refl _) _ _ _ _) (by simpa using x6.size) _
      have rp7:w7.heap[w.heap.size]?=some (.cells (qC (.slice B1 S.bs.length f1) (.slice B2 (S.ws.length+1) f2) (.slice B3 S.now.length f3) (.slice B4 S.last.length f4) gen root next (.slice A5 dead.length c5)) 32 (0,0)):=by
       rw[←hW7]
       exact(Below.heap_alloc _ _ _ (by simpa using zp6)).trans (qh (qh (qh (qh rp6 0 _) 1 _) 2 _) 3 _)
      have ro7:=(hsame _ (by omega) zo6).trans ro6
      clear hW7 hs rp6 ro6 kp6 ko6 fp6 fo6
      have hS7:=(hSt.out w7 (fun q hq=>by
       rcases hq with h1|⟨h1,h2⟩
       ·exact(Below.cell x7 h1).trans (Below.cell xr h1).symm
       ·exact(World.cell?_of_block (hsame q.block (by have:=x2.size;omega) (by omega))).trans (Below.cell hB.out h2)) (fun q v h1 h2 h3=>(World.cell?_of_block (hsame q.block (by omega) h2)).trans h3)).more (show w6.heap.size≤w7.heap.size by omega)
      have hS':qB (ZR S (qO S) (ZS 128 data))=true:=qds hS.out (first_ge (fun e=>hno.out (.inl e))) (Yw (fun e=>hno.out (.inl e))) hpl.out (fun e=>hno.out (.inr (by omega)))
      refine(qcL B1 S.bs.length f1 B2 (S.ws.length+1) f2 B3 S.now.length f3 B4 S.last.length f4 gen root next A5 dead.length c5 _ hS' w7 hS7).mono ?_
      replace hS7:=zH hS7
      rintro e w8 ⟨rfl,hB8⟩
      have ro8:=qc ro7 hB8
      have rp8:=qc rp7 hB8
      have x8:Ext w w8:=Ext.trans x7 hB8
      have hsame8:∀ o k,k≠w.heap.size→k<w6.heap.size→(w8.alloc o).heap[k]?=w6.heap[k]?:=fun o k h1 h2=>((Ext.alloc w8 o).block k (by have:=hB8.size;omega)).trans ((Below.block hB8 k (by omega)).trans (hsame k h1 h2))
      have z8:w7.heap.size≤w8.heap.size:=hB8.size
      replace hsame8:=zH hsame8
      replace hB8:=zH hB8
      have ro9:=fun o=>qc ro8 (Ext.alloc w8 o)
      have ko9:=fun o=>qa (ro9 o)
      have fo9:=fun o=>qd (ro9 o)
      clear rp8
      unfold qav
      by_cases hr:16≤(Qh (ZR S (qO S) (ZS 128 data))).length
      ·rw[if_pos hr]
       have hE2:=zH (hE1.out.trans (if_pos hr))
       replace hr:=zH hr
       clear hE1
       go_wp2_with fail
       refine kA (b:=w.heap.size+1) rfl rfl rfl rfl (jM (ro9 _) _ _ _ _ _ _ _ _) ⟨zJ (x8.trans (Ext.alloc _ _)) (by omega) _ _ _ _ _ _ _ _,.inr ⟨vs,refs,met,hpool.out,hm.out,hen.out,.inr ⟨hE2.out,B1,f1,B2,f2,B3,f3,B4,f4,A5,c5,rfl,?_,?_⟩⟩⟩
       ·refine(hSt.out _ (fun q hq=>?_) (fun q v h1 h2 h3=>?_)).more (by simp;omega)
        ·rcases hq with h1|⟨h1,h2⟩
         ·exact(Below.cell (zJ (x8.trans (Ext.alloc _ _)) (by omega) _ _ _ _ _ _ _ _) h1).trans (Below.cell xr h1).symm
         ·exact(World.cell?_of_block ((Jl (by omega) _ _ _ _ _ _ _ _).trans (hsame8.out _ q.block (by omega) (by omega)))).trans (Below.cell hB.out h2)
        ·exact(World.cell?_of_block ((Jl (by omega) _ _ _ _ _ _ _ _).trans (hsame8.out _ q.block (by omega) h2))).trans h3
       ·exact hd.out.ext_ (zJ (x8.trans (Ext.alloc _ _)) (by omega) _ _ _ _ _ _ _ _)
      ·rw[if_neg hr]
       have hE2:=zH (hE1.out.trans (if_neg hr))
       replace hr:=zH hr
       clear hE1
       go_wp2_with fail
       exact kA (b:=w.heap.size+1) rfl rfl rfl rfl (jM (ro9 _) _ _ _ _ _ _ _ _) ⟨zJ (x8.trans (Ext.alloc _ _)) (by omega) _ _ _ _ _ _ _ _,.inr ⟨vs,refs,met,hpool.out,hm.out,hen.out,.inl ⟨by rw[hE2.out];decide,by rw[hE2.out];rfl⟩⟩⟩
def GU (S:Sto) (root next:Int) (dead:List Int) (a:Int) (held:Bool) (w:World) (e:Ending) (w':World):Prop:=Below w.heap.size w w' ∧
 ((e=.returned (.int .i64 8)∧∀ vs,QM S root next dead vs→∃ refs met,Qr (QX S) (zi S) (zl root dead vs) (zv met) refs∧¬QY S refs) ∨
  ∃ vs refs met,QM S root next dead vs∧Qr (QX S) (zi S) (zl root dead vs) (zv met) refs∧QY S refs∧e=.returned (.int .i64 (Qk S refs met a held)))
theorem Vb {R:Ending→World→Prop} {a:Act} {W:World} {u:Value} (h6:a.tmps[6]?.getD undef=u) (hd:a.defers=[]) (hR:R (.returned u) W):bodyPost Tryz.prog Tryz.f43 R .ret a W:=by
 refine bodyPost_ret (v:=u) ?_ hd hR
 simp[results,Tryz.results43,go_sem,h6]
set_option maxHeartbeats 8000000 in
set_option maxRecDepth 100000 in
theorem YZ (A1:Option Addr) (n1 c1:Nat) (A2:Option Addr) (n2 c2:Nat) (A3:Option Addr) (n3 c3:Nat) (A4:Option Addr) (n4 c4:Nat) (gen root next:Int) (A5:Option Addr) (c5:Nat) (S:Sto) (dead:List Int) (a:Int) (held:Bool) (w:World)
  (h:qH w w.heap.size (.slice A1 n1 c1) (.slice A2 n2 c2) (.slice A3 n3 c3) (.slice A4 n4 c4) S) (hd:QF w w.heap.size (.slice A5 dead.length c5) dead) :
  Calls Tryz.prog 43 #[.agg (qC (.slice A1 n1 c1) (.slice A2 n2 c2) (.slice A3 n3 c3) (.slice A4 n4 c4) gen root next (.slice A5 dead.length c5)),.int .i64 a,.bool held] w (GU S root next dead a held w):=by
 have HT:=zH (fun W (hx:Ext w W)=>UU A1 n1 c1 A2 n2 c2 A3 n3 c3 A4 n4 c4 gen root next A5 c5 S dead W (h.ext hx) (hd.ext_ hx))
 have HS:=zH h
 clear h hd
 go_enter Tryz.func43,Tryz.ntmps43
 go_wp2_with fail
 generalize hw1:World.alloc w _=w1
 have x1:Ext w w1:=by rw[←hw1];exact Ext.alloc _ _
 have r1:w1.heap[w.heap.size]?=some (.cells (qC (.slice A1 n1 c1) (.slice A2 n2 c2) (.slice A3 n3 c3) (.slice A4 n4 c4) gen root next (.slice A5 dead.length c5)) 32 (0,0)):=by rw[←hw1];exact World.alloc_heap_at _ _ _ rfl
 clear hw1
 refine(HT.out w1 x1).mono ?_
 clear HT
 rintro e w2 ⟨hB,hQ⟩
 have x2:Ext w w2:=Ext.trans x1 hB
 have r2:=qc r1 hB
 have k2:=qa r2
 clear hB r1 x1
 rcases hQ with ⟨rfl,hno⟩|⟨vs,refs,met,rb,mb,rfl,hp,hm,rr,rm,z2,z3,z4⟩
 ·have HB:GU S root next dead a held w (.returned (.int .i64 8)) w2:=⟨x2,.inl ⟨rfl,fun vs hp=>absurd hp (hno vs)⟩⟩
  replace HB:=zH HB
  clear hno
  go_wp2_with fail
  exact Vb rfl rfl HB.out
 ·have HE:=zH (TM A1 n1 c1 A2 n2 c2 A3 n3 c3 A4 n4 c4 S rb refs w2 hp.may (HS.out.ext x2) rr)
  replace hp:=zH hp
  replace hm:=zH hm
  go_wp2_with fail
  refine HE.out.mono ?_
  clear HE
  rintro e w3 ⟨rfl,hB3⟩
  have x3:Ext w w3:=Ext.trans x2 hB3
  have rr3:=qc rr hB3
  have rm3:=qc rm hB3
  have r3:=qc r2 hB3
  clear hB3 rr rm r2 k2
  rcases hen:vE S refs with _|_
  ·have HB:GU S root next dead a held w (.returned (.int .i64 8)) w3:=⟨x3,.inl ⟨rfl,fun vs' hp'=>by
    obtain rfl:=hp.out.same hp'
    exact⟨refs,met,hm.out,fun he=>by have:=(jj S refs).2 he;rw[hen] at this;cases this⟩⟩⟩
   replace HB:=zH HB
   replace hen:=zH hen
   go_wp2_with fail
   exact Vb rfl rfl HB.out
  ·have hQ:∀ v W,Ext w3 W→Qk S refs met a held=v→GU S root next dead a held w (.returned (.int .i64 v)) W:=fun v W hW hv=>⟨x3.trans hW,.inr ⟨vs,refs,met,hp.out,hm.out,(jj S refs).1 hen,by rw[hv]⟩⟩
   replace hQ:=zH hQ
   replace hen:=zH hen
   by_cases hr:8≤a∧a<256
   ·obtain⟨m,rfl⟩:=Int.eq_ofNat_of_zero_le (show 0≤a by omega)
    have h8:8≤m:=by omega
    have h256:m<256:=by omega
    have hE:=qbL S refs met h8 h256 held
    have e1:decide ((m:Int)<8)=false:=decide_eq_false (by omega)
    have e2:decide ((m:Int)≥256)=false:=decide_eq_false (by omega)
    obtain⟨b3,o3,c3',e3,hb3,hc3⟩:=kG hp.out.may HS.out.now
    cases e3
    have hcn:=Ext.cell x3 (hc3 m h256)
    have hcm:w3.cell? ⟨mb,m,none⟩=some (.int .i64 (met m:Int)):=by rw[qa rm3,List.getElem?_toArray];exact Zn met h256
    have hcr:w3.cell? ⟨rb,m,none⟩=some (.int .i64 (refs m:Int)):=by rw[qa rr3,List.getElem?_toArray];exact Zn refs h256
    have hwn:zZ S m<256:=UInt8.toNat_lt _
    have hwn2:IntKind.i64.wrap (zZ S m:Int)=(zZ S m:Int):=IntWalk.i64_in _ (by omega)
    generalize zZ S m=nw at *
    generalize met m=mt at *
    generalize refs m=rf at *
    clear hr hc3 rm3 rr3
    have g0:∀ W,qu.r w3 W→∀ i,W.cell? ⟨w.heap.size,i,none⟩=(qC (.slice A1 n1 c1) (.slice A2 n2 c2) (.slice (some ⟨b3,o3,none⟩) 256 c3) (.slice A4 n4 c4) gen root next (.slice A5 dead.length c5))[i]?:=fun W h=>qa (qc r3 h)
    have g1:∀ W,qu.r w3 W→W.cell? ⟨b3,o3+m,none⟩=some (.int .u8 (nw:Int)):=fun W h=>Ext.cell h hcn
    have g2:∀ W,qu.r w3 W→W.cell? ⟨mb,m,none⟩=some (.int .i64 (mt:Int)):=fun W h=>Ext.cell h hcm
    have g3:∀ W,qu.r w3 W→W.cell? ⟨rb,m,none⟩=some (.int .i64 (rf:Int)):=fun W h=>Ext.cell h hcr
    clear hcn hcm hcr r3
    have hcases:(nw=0∧((nw:Int) == 0)=true∧Qk S refs met (m:Int) held=6)∨(nw≠0∧((nw:Int) == 0)=false∧((0<mt∧decide ((mt:Int)>0)=true∧decide (0<mt)=true∧Qk S refs met (m:Int) held=6)∨(¬0<mt∧decide ((mt:Int)>0)=false∧decide (0<mt)=false ∧
      ((held=false∧Qk S refs met (m:Int) held=0)∨(held=true∧((decide ((nw:Int)≤(rf:Int))=true∧decide (nw≤rf)=true∧Qk S refs met (m:Int) held=6)∨(decide ((nw:Int)≤(rf:Int))=false∧decide (nw≤rf)=false∧Qk S refs met (m:Int) held=0))))))):=by
     rw[hE]
     by_cases q1:nw=0
     ·exact .inl ⟨q1,by rw[beq_iff_eq];omega,if_pos (.inl q1)⟩
     ·refine .inr ⟨q1,by rw[beq_eq_false_iff_ne];omega,?_⟩
      by_cases q2:0<mt
      ·exact .inl ⟨q2,decide_eq_true (by omega),decide_eq_true q2,if_pos (.inr (.inl q2))⟩
      ·refine .inr ⟨q2,decide_eq_false (by omega),decide_eq_false q2,?_⟩
       cases held
       ·exact .inl ⟨rfl,if_neg (by rintro (h|h|⟨h,_⟩);exact q1 h;exact q2 h;cases h)⟩
       ·refine .inr ⟨rfl,?_⟩
        by_cases q3:nw≤rf
        ·exact .inl ⟨decide_eq_true (by omega),decide_eq_true q3,if_pos (.inr (.inr ⟨rfl,q3⟩))⟩
        ·exact .inr ⟨decide_eq_false (by omega),decide_eq_false q3,if_neg (by rintro (h|h|⟨_,h⟩);exact q1 h;exact q2 h;exact q3 h)⟩
    clear hE
    rcases hcases with ⟨q1,q2,hE⟩|⟨q1,q2,⟨q3,q4,q5,hE⟩|⟨q3,q4,q5,⟨rfl,hE⟩|⟨rfl,⟨q6,q7,hE⟩|⟨q6,q7,hE⟩⟩⟩⟩
    all_goals
     replace hE:=zH hE
     replace q1:=zH q1
     go_wp2_with fail
     refine qv (by kernel_rfl) ?_
     refine Qu (w:=w3) qu (qE []) (List.replicate 30 true) 1 (by kernel_rfl) (by kernel_rfl) (by kernel_rfl) (by kernel_rfl) (by kernel_rfl) (by kernel_rfl) (by kernel_rfl) ?st (Rel.drew _ _) ?walk
     case st=>exact qm (fun _ h=>by cases h)
     case walk =>
      intro K hK
      dsimp only[qz,List.replicate]
      repeat ((first|(refine qf ?_ (by rfl) (by rfl) (fun W hW _=>⟨W,?_,Rel.refl _ W⟩) ?_;rotate_left;(first|(go_simp;with_reducible rfl)|(go_simp;done)))|(refine qj (by rfl) ?_));try simp only[Act.put,qi,qe,qb,qg,zA,zB,zC])
      first
       |(refine qf (.pointer (some ⟨b3,o3+m,none⟩)) (by rfl) (by rfl) (fun W hW _=>⟨W,?_,Rel.refl _ W⟩) ?_
         ·go_simp
          intro hge
          exfalso
          omega
         simp only[Act.put,qi,qe,qb,qg,zA,zB,zC])
       |skip
      repeat ((first|(refine qf ?_ (by rfl) (by rfl) (fun W hW _=>⟨W,?_,Rel.refl _ W⟩) ?_;rotate_left;(first|(go_simp;with_reducible rfl)|(go_simp;done)))|(refine qj (by rfl) ?_));try simp only[Act.put,qi,qe,qb,qg,zA,zB,zC])
      first
       |(refine qf (.pointer (some ⟨mb,m,none⟩)) (by rfl) (by rfl) (fun W hW _=>⟨W,?_,Rel.refl _ W⟩) ?_
         ·go_simp
          intro hge
          exfalso
          omega
         simp only[Act.put,qi,qe,qb,qg,zA,zB,zC])
       |skip
      repeat ((first|(refine qf ?_ (by rfl) (by rfl) (fun W hW _=>⟨W,?_,Rel.refl _ W⟩) ?_;rotate_left;(first|(go_simp;with_reducible rfl)|(go_simp;done)))|(refine qj (by rfl) ?_));try simp only[Act.put,qi,qe,qb,qg,zA,zB,zC])
      first
       |(refine qf (.pointer (some ⟨b3,o3+m,none⟩)) (by rfl) (by rfl) (fun W hW _=>⟨W,?_,Rel.refl _ W⟩) ?_
         ·go_simp
          intro hge
          exfalso
          omega
         simp only[Act.put,qi,qe,qb,qg,zA,zB,zC])
       |skip
      repeat ((first|(refine qf ?_ (by rfl) (by rfl) (fun W hW _=>⟨W,?_,Rel.refl _ W⟩) ?_;rotate_left;(first|(go_simp;with_reducible rfl)|(go_simp;done)))|(refine qj (by rfl) ?_));try simp only[Act.put,qi,qe,qb,qg,zA,zB,zC])
      first
       |(refine qf (.pointer (some ⟨rb,m,none⟩)) (by rfl) (by rfl) (fun W hW _=>⟨W,?_,Rel.refl _ W⟩) ?_
         ·go_simp
          intro hge
          exfalso
          omega
         simp only[Act.put,qi,qe,qb,qg,zA,zB,zC])
       |skip
      repeat ((first|(refine qf ?_ (by rfl) (by rfl) (fun W hW _=>⟨W,?_,Rel.refl _ W⟩) ?_;rotate_left;(first|(go_simp;with_reducible rfl)|(go_simp;done)))|(refine qj (by rfl) ?_));try simp only[Act.put,qi,qe,qb,qg,zA,zB,zC])
      refine qD (hK _ _ fun W hW hF=>?_)
      have x4:Ext w3 W:=hW
      clear hF hK g0 g1 g2 g3 hW
      dsimp only[List.drop,List.length_cons,List.length_nil]
      go_wp2_with fail
      refine Qw ?_
      go_wp2_with fail
      exact Vb rfl rfl (hQ.out _ _ x4 hE.out)
   ·have hE:=zH (Ga (S:=S) (refs:=refs) (nodes:=met) hr held)
    by_cases h8:a<8
    ·have e1:decide (a<8)=true:=decide_eq_true h8
     replace hr:=zH hr
     go_wp2_with fail
     exact Vb rfl rfl (hQ.out _ _ (Ext.refl _) hE.out)
    ·have e1:decide (a<8)=false:=decide_eq_false h8
     have e2:decide (a≥256)=true:=decide_eq_true (by omega)
     replace hr:=zH hr
     go_wp2_with fail
     exact Vb rfl rfl (hQ.out _ _ (Ext.refl _) hE.out)
def Te (S:Sto) (a:Int) (refs met:Nat→Nat):Int:=if Qk S refs met a false≠0 then Qk S refs met a false else if zZ S a.toNat=255 then 70 else 0
def Ud (S:Sto) (gen root next:Int) (dead:List Int) (er:(Nat→Nat)→(Nat→Nat)→Int) (S':Sto) (w:World) (e:Ending) (w':World):Prop:=Below w.heap.size w w' ∧
 ((e=.returned (.tuple #[ku,.int .i64 8])∧∀ vs,QM S root next dead vs→∃ refs met,Qr (QX S) (zi S) (zl root dead vs) (zv met) refs∧¬QY S refs) ∨
  ∃ vs refs met,QM S root next dead vs∧Qr (QX S) (zi S) (zl root dead vs) (zv met) refs∧QY S refs ∧
   ((er refs met≠0∧e=.returned (.tuple #[ku,.int .i64 (er refs met)]))∨(er refs met=0∧∃ A1 c1 A2 c2 A3 c3 A4 c4 A5 c5,e=.returned (.tuple #[.agg (qC (.slice A1 S'.bs.length c1) (.slice A2 S'.ws.length c2) (.slice A3 S'.now.length c3) (.slice A4 S'.last.length c4) gen root next (.slice A5 dead.length c5)),.int .i64 0]) ∧
    qH w' w'.heap.size (.slice A1 S'.bs.length c1) (.slice A2 S'.ws.length c2) (.slice A3 S'.now.length c3) (.slice A4 S'.last.length c4) S'∧QF w' w'.heap.size (.slice A5 dead.length c5) dead)))
theorem Vl {R:Ending→World→Prop} {a:Act} {W:World} {b:Nat} {x0 x1 x2 x3 x4 x5 x6 x7 v:Value} (h4:a.tmps[4]?.getD undef=.pointer (some ⟨b,0,none⟩)) (h5:a.tmps[5]?.getD undef=v) (hd:a.defers=[])
  (hrow:W.heap[b]?=some (.cells #[x0,x1,x2,x3,x4,x5,x6,x7] 32 (0,0))) (hR:R (.returned (.tuple #[.agg #[x0,x1,x2,x3,x4,x5,x6,x7],v])) W):bodyPost Tryz.prog Tryz.f17 R .ret a W:=by
 refine bodyPost_ret (v:=.tuple #[.agg #[x0,x1,x2,x3,x4,x5,x6,x7],v]) ?_ hd hR
 have k:=qa hrow
 simp[results,Tryz.results17,go_sem,h4,h5,k]
theorem Ys {S:Sto} {refs met:Nat→Nat} {a:Int} {held:Bool} (h:Qk S refs met a held=0):∃ m:Nat,a=(m:Int)∧8≤m∧m<256∧zZ S m≠0:=by
 unfold Qk at h
 split at h
 ·rename_i hr
  split at h
  ·cases h
  ·rename_i h1
   obtain⟨m,rfl⟩:=Int.eq_ofNat_of_zero_le (show 0≤a by omega)
   exact⟨m,rfl,by omega,by omega,fun e=>h1 (.inl (by simpa using e))⟩
 ·cases h
set_option maxHeartbeats 8000000 in
set_option maxRecDepth 100000 in
theorem qdc (A1:Option Addr) (c1:Nat) (A2:Option Addr) (c2:Nat) (A3:Option Addr) (c3:Nat) (A4:Option Addr) (c4:Nat) (gen root next:Int) (A5:Option Addr) (c5:Nat) (S:Sto) (dead:List Int) (a:Int) (w:World)
  (h:qH w w.heap.size (.slice A1 S.bs.length c1) (.slice A2 S.ws.length c2) (.slice A3 S.now.length c3) (.slice A4 S.last.length c4) S) (hd:QF w w.heap.size (.slice A5 dead.length c5) dead) :
  Calls Tryz.prog 17 #[.agg (qC (.slice A1 S.bs.length c1) (.slice A2 S.ws.length c2) (.slice A3 S.now.length c3) (.slice A4 S.last.length c4) gen root next (.slice A5 dead.length c5)),.int .i64 a] w (Ud S gen root next dead (Te S a) (zL S (Zb S.now a.toNat 1)) w):=by
 have HD:=zH (fun W (hx:Ext w W)=>YZ A1 _ c1 A2 _ c2 A3 _ c3 A4 _ c4 gen root next A5 c5 S dead a false W (h.ext hx) (hd.ext_ hx))
 have HN:=zH (fun (hS:qB S=true) (m:Nat) (hm:m<S.now.length) (x:UInt8) W (hx:Ext w W)=>KQ A3 c3 S.now (zK hS).now m hm x W (h.ext hx).now)
 replace h:=zH h
 replace hd:=zH hd
 go_enter Tryz.func17,Tryz.ntmps17
 go_wp2_with fail
 generalize hw1:(World.alloc (World.alloc _ _) _)=w1
 have x1:Ext w w1:=by rw[←hw1];exact(Ext.alloc _ _).trans (Ext.alloc _ _)
 have rp1:w1.heap[w.heap.size]?=some (.cells (qC (.slice A1 S.bs.length c1) (.slice A2 S.ws.length c2) (.slice A3 S.now.length c3) (.slice A4 S.last.length c4) gen root next (.slice A5 dead.length c5)) 32 (0,0)):=by rw[←hw1];exact(Below.heap_alloc _ _ _ (by simp)).trans (World.alloc_heap_at _ _ _ rfl)
 have ro1:w1.heap[w.heap.size+1]?=some (.cells (qC (.slice none 0 0) (.slice none 0 0) (.slice none 0 0) (.slice none 0 0) 0 0 0 (.slice none 0 0)) 32 (0,0)):=by rw[←hw1];exact World.alloc_heap_at _ _ _ (by simp)
 clear hw1
 refine(HD.out w1 x1).mono ?_
 clear HD
 rintro e w2 ⟨hB,hQ⟩
 have x2:Ext w w2:=Ext.trans x1 hB
 have rp2:=qc rp1 hB
 have ro2:=qc ro1 hB
 clear hB rp1 ro1 x1
 have kp2:=qa rp2
 have ko2:=qa ro2
 have fo2:=qd ro2
 rcases hQ with ⟨rfl,hno⟩|⟨vs,refs,met,hpool,hm,hen,rfl⟩
 ·replace hno:=zH hno
  go_wp2_with fail
  exact Vl (b:=w.heap.size+1) rfl rfl rfl (jM ro2 _ _ _ _ _ _ _ _) ⟨zJ x2 (by omega) _ _ _ _ _ _ _ _,.inl ⟨rfl,hno.out⟩⟩
 ·have hS:=hpool.may
  replace hpool:=zH hpool
  replace hm:=zH hm
  replace hen:=zH hen
  have hE0:=zH (show Te S a refs met=if Qk S refs met a false≠0 then Qk S refs met a false else if zZ S a.toNat=255 then 70 else 0 from rfl)
  by_cases h0:Qk S refs met a false=0
  ·obtain⟨m,rfl,h8,h256,hnz⟩:=Ys h0
   obtain⟨b3,o3,c3',e3,hb3,hc3⟩:=kG hS h.out.now
   have hnl:=(qQ hS).2.2.1
   have hcn:=Ext.cell x2 (hc3 m h256)
   have hml:m<S.now.length:=by omega
   have e3':Value.slice A3 S.now.length c3=.slice (some ⟨b3,o3,none⟩) 256 c3':=e3
   simp only[Value.slice.injEq] at e3'
   obtain⟨rfl,-,rfl⟩:=e3'
   have hE1:=zH (hE0.out.trans (if_neg (by simpa using h0)))
   rw[h0,hnl]
   rw[hnl] at rp2
   replace kp2:=qa rp2
   have hE1':=hE1.out
   have hcnt:Kj S.now m=zZ S m:=rfl
   have htu:Zb S.now m 1=S.now.set m (UInt8.ofNat (zZ S m+1)):=rfl
   have hnw:zZ S m<256:=UInt8.toNat_lt _
   have hwv:IntKind.u8.wrap ((zZ S m:Int)+1)=(((UInt8.ofNat (zZ S m+1)).toNat:Nat):Int):=by rw[←qax];rfl
   replace h0:=zH h0
   have hnl2:(S.now.length:Int)=256:=by omega
   replace htu:=zH htu
   rw[Int.toNat_natCast] at hE1'
   generalize zZ S m=nw at *
   replace hS:=zH hS
   clear hc3 hnz hE0 hcnt hE1
   by_cases hf:nw=255
   ·have f1:((nw:Int) == 255)=true:=by rw[beq_iff_eq];omega
    have f2:decide (nw=255)=true:=decide_eq_true hf
    have hE2:=zH (hE1'.trans (if_pos hf))
    clear hE1'
    replace hf:=zH hf
    replace htu:=trivial
    go_wp2_with fail
    exact Vl (b:=w.heap.size+1) rfl rfl rfl (jM ro2 _ _ _ _ _ _ _ _) ⟨zJ x2 (by omega) _ _ _ _ _ _ _ _,.inr ⟨vs,refs,met,hpool.out,hm.out,hen.out,.inl ⟨by rw[hE2.out];decide,by rw[hE2.out];rfl⟩⟩⟩
   ·have f1:((nw:Int) == 255)=false:=by rw[beq_eq_false_iff_ne];omega
    have f2:decide (nw=255)=false:=decide_eq_false hf
    have hE2:=zH (hE1'.trans (if_neg hf))
    clear hE1'
    go_upto_region 6 with fail
    have g0:∀ W,qu.r w2 W→∀ i,W.cell? ⟨w.heap.size,i,none⟩=(qC (.slice A1 S.bs.length c1) (.slice A2 S.ws.length c2) (.slice (some ⟨b3,o3,none⟩) 256 c3) (.slice A4 S.last.length c4) gen root next (.slice A5 dead.length c5))[i]?:=fun W h=>qa (qc rp2 h)
    have g1:∀ W,qu.r w2 W→W.cell? ⟨b3,o3+m,none⟩=some (.int .u8 (nw:Int)):=fun W h=>Ext.cell h hcn
    clear hcn kp2 ko2 fo2
    refine qv (by kernel_rfl) ?_
    refine Qu (w:=w2) qu (qE [(11,ZA w2.heap.size 256 (S.now.set m (UInt8.ofNat (nw+1))))]) (List.replicate 14 true) 1 (by kernel_rfl) (by kernel_rfl) (by kernel_rfl) (by kernel_rfl) (by kernel_rfl) (by kernel_rfl) (by kernel_rfl) ?st (Rel.drew _ _) ?walk
    case st=>exact qm (by simp only[List.forall_mem_cons];exact⟨JF _ _ _,fun _ h=>by cases h⟩)
    case walk =>
     intro K hK
     dsimp only[qz,List.replicate]
     repeat ((first|(refine qf ?_ (by rfl) (by rfl) (fun W hW _=>⟨W,?_,Rel.refl _ W⟩) ?_;rotate_left;(first|(go_simp;with_reducible rfl)|(go_simp;done)))|(refine qj (by rfl) ?_));try simp only[Act.put,qi,qe,qb,qg,qe,zA,zB,zC])
     first
      |(refine qf (.pointer (some ⟨b3,o3+m,none⟩)) (by rfl) (by rfl) (fun W hW _=>⟨W,?_,Rel.refl _ W⟩) ?_
        ·go_simp
         intro hge
         exfalso
         omega
        simp only[Act.put,qi,qe,qb,qg,qe,zA,zB,zC])
      |skip
     repeat ((first|(refine qf ?_ (by rfl) (by rfl) (fun W hW _=>⟨W,?_,Rel.refl _ W⟩) ?_;rotate_left;(first|(go_simp;with_reducible rfl)|(go_simp;done)))|(refine qj (by rfl) ?_));try simp only[Act.put,qi,qe,qb,qg,qe,zA,zB,zC])
     refine qA (ZA w2.heap.size 256 (S.now.set m (UInt8.ofNat (nw+1)))) (by rfl) (by rfl) (fun W hW _=>?_) (fun p=>?_)
     ·have hxW:Ext w2 W:=hW
      have HC:=HN.out hS.out m hml (UInt8.ofNat (nw+1)) W (x2.trans hxW)
      rw[hnl] at HC
      refine Qg ?_ (HC.mono fun e w' h=>?_)
      ·go_simp
      obtain⟨u,rfl,hu,hB⟩:=h
      obtain⟨A',c',rfl,_,_⟩:=qw hu
      exact⟨(A',c'),rfl,⟨Bys.of_own hu,(QD.of_own hu).mono hxW.size⟩,hB⟩
     obtain⟨B3,d3⟩:=p
     simp only[Act.put,qi,qe,qb,qg,qe,zA,zB,zC]
     repeat ((first|(refine qf ?_ (by rfl) (by rfl) (fun W hW _=>⟨W,?_,Rel.refl _ W⟩) ?_;rotate_left;(first|(go_simp;with_reducible rfl)|(go_simp;done)))|(refine qj (by rfl) ?_));try simp only[Act.put,qi,qe,qb,qg,qe,zA,zB,zC])
     refine qD (hK _ _ fun W hW hF=>?_)
     have hN5:Bys W W.heap.size (.slice B3 256 d3) (S.now.set m (UInt8.ofNat (nw+1)))∧QD w2.heap.size (.slice B3 256 d3):=(hF 11).1
     have xW:Ext w2 W:=hW
     clear hF hK g0 g1 hW
     have rpW:=qc rp2 xW
     have roW:=qc ro2 xW
     have kpW:=qa rpW
     have fpW:=qd rpW
     have koW:=qa roW
     have foW:=qd roW
     have z2o:w.heap.size+1<w2.heap.size:=(zG.1 ro2).1
     have z2W:=xW.size
     have zpW:w.heap.size<W.heap.size:=by omega
     have zoW:w.heap.size+1<W.heap.size:=by omega
     replace hN5:=zH hN5
     dsimp only[List.drop,List.length_cons,List.length_nil]
     clear rp2 ro2
     go_wp2_with fail
     refine Qw ?_
     go_wp2_with fail
     have hop:=fun (k:Nat) (hk:k≠w.heap.size)=>Below.heap_setCell W ⟨w.heap.size,2,none⟩ (.slice B3 256 d3) k hk
     have xp:Below w.heap.size w (W.setCell ⟨w.heap.size,2,none⟩ (.slice B3 256 d3)):=Below.setCell (x2.trans xW) (p:=⟨w.heap.size,2,none⟩) (Nat.le_refl _) _
     have rop:=(hop (w.heap.size+1) (by omega)).trans roW
     have zp:(W.setCell ⟨w.heap.size,2,none⟩ (.slice B3 256 d3)).heap.size=W.heap.size:=by simp
     generalize hWp:World.setCell W ⟨w.heap.size,2,none⟩ _=Wp at *
     clear hWp
     have xf:=zJ xp (b:=w.heap.size+1) (by omega) (.slice A1 S.bs.length c1) (.slice A2 S.ws.length c2) (.slice B3 256 d3) (.slice A4 S.last.length c4) (.int .u32 gen) (.int .i64 root) (.int .u32 next) (.slice A5 dead.length c5)
     have hsame:=fun (k:Nat) (hk:w.heap.size+1<k)=>(Jl (w:=Wp) (show k≠w.heap.size+1 by omega) (.slice A1 S.bs.length c1) (.slice A2 S.ws.length c2) (.slice B3 256 d3) (.slice A4 S.last.length c4) (.int .u32 gen) (.int .i64 root) (.int .u32 next) (.slice A5 dead.length c5)).trans (hop k (by omega))
     refine Vl (b:=w.heap.size+1) rfl rfl rfl (jM rop _ _ _ _ _ _ _ _) ⟨xf,.inr ⟨vs,refs,met,hpool.out,hm.out,hen.out,.inr ⟨hE2.out,A1,c1,A2,c2,B3,d3,A4,c4,A5,c5,?_,?_,?_⟩⟩⟩
     ·rw[Int.toNat_natCast,show (zL S (Zb S.now m 1)).now.length=256 from (JS _ _ _).trans hnl];rfl
     ·have q1:=h.out.below xf
      have q3:=hN5.out.1.keepN hN5.out.2 fun q h1 h2=>World.cell?_of_block (hsame q.block (by omega))
      rw[Int.toNat_natCast]
      refine⟨q1.bs.more xf.size,q1.ws.more xf.size,?_,q1.last.more xf.size⟩
      rw[show (zL S (Zb S.now m 1)).now.length=256 from (JS _ _ _).trans hnl]
      show Bys _ _ _ (Zb S.now m 1)
      rw[htu.out]
      exact q3.more (by simp[zp])
     ·obtain⟨A',c',e,q1,q2,q3⟩:=hd.out
      exact⟨A',c',e,q1,q2,(q3.below xf).more xf.size⟩
  ·generalize hde:Qk S refs met a false=er at *
   have he:(er != 0)=true:=by rw[bne_iff_ne];exact h0
   have he2:(er == 0)=false:=by rw[beq_eq_false_iff_ne];exact h0
   have hq:=zH h0
   have hE1:=zH (hE0.out.trans (if_pos h0))
   clear h0 hE0
   go_wp2_with fail
   exact Vl (b:=w.heap.size+1) rfl rfl rfl (jM ro2 _ _ _ _ _ _ _ _) ⟨zJ x2 (by omega) _ _ _ _ _ _ _ _,.inr ⟨vs,refs,met,hpool.out,hm.out,hen.out,.inl ⟨by rw[hE1.out];exact hq.out,by rw[hE1.out];rfl⟩⟩⟩
theorem qcz {R:Ending→World→Prop} {a:Act} {W:World} {b:Nat} {x0 x1 x2 x3:Value} (h4:a.tmps[4]?.getD undef=.pointer (some ⟨b,0,none⟩)) (hd:a.defers=[])
  (hrow:W.heap[b]?=some (.cells #[x0,x1,x2,x3] 28 (0,0))) (hR:R (.returned (.agg #[x0,x1,x2,x3])) W):bodyPost Tryz.prog Tryz.f46 R .ret a W:=by
 refine bodyPost_ret (v:=.agg #[x0,x1,x2,x3]) ?_ hd hR
 have k:=qa hrow
 simp[results,Tryz.results46,go_sem,h4,k]
set_option maxHeartbeats 4000000 in
set_option maxRecDepth 100000 in
theorem qbF (A1:Option Addr) (n1 c1:Nat) (A2:Option Addr) (n2 c2:Nat) (A3:Option Addr) (c3:Nat) (A4:Option Addr) (n4 c4:Nat) (S:Sto) (hS:qB S=true) (m:Nat) (h256:m<256) (hnz:zZ S m≠0) (w:World) (h:Bys w w.heap.size (.slice A3 256 c3) S.now) :
  Calls Tryz.prog 46 #[Qy A1 n1 c1 A2 n2 c2 A3 256 c3 A4 n4 c4,.int .i64 (m:Int)] w (zE (fun u W=>∃ B3 d3,u=Qy A1 n1 c1 A2 n2 c2 B3 256 d3 A4 n4 c4∧∀ C:World,(∀ q:Addr,w.heap.size≤q.block→q.block<W.heap.size→C.cell? q=W.cell? q)→Bys C W.heap.size (.slice B3 256 d3) (Ve S.now m)) w):=by
 have hnl:=(qQ hS).2.2.1
 have hml:m<S.now.length:=by omega
 have HN:=zH (fun (x:UInt8) W (hx:Ext w W)=>KQ A3 c3 S.now (zK hS).now m hml x W (by rw[hnl];exact(h.below hx).more hx.size))
 obtain⟨b3,o3,c3',e3,hb3,hc3⟩:=kG hS h
 cases e3
 have hcn:=hc3 m h256
 have hnw:zZ S m<256:=UInt8.toNat_lt _
 have hwv:IntKind.u8.wrap ((zZ S m:Int)-1)=(((UInt8.ofNat (zZ S m-1)).toNat:Nat):Int):=qdy (by omega) hnw
 have hdn:=zH (show Ve S.now m=S.now.set m (UInt8.ofNat (zZ S m-1)) from rfl)
 generalize zZ S m=nw at *
 clear hc3 h
 go_enter Tryz.func46,Tryz.ntmps46
 go_wp2_with fail
 generalize hw1:(World.alloc (World.alloc _ _) _)=w1
 have x1:Ext w w1:=by rw[←hw1];exact(Ext.alloc _ _).trans (Ext.alloc _ _)
 have rs1:w1.heap[w.heap.size]?=some (.cells #[.slice A1 n1 c1,.slice A2 n2 c2,.slice (some ⟨b3,o3,none⟩) 256 c3,.slice A4 n4 c4] 28 (0,0)):=by rw[←hw1];exact(Below.heap_alloc _ _ _ (by simp)).trans (World.alloc_heap_at _ _ _ rfl)
 have ro1:w1.heap[w.heap.size+1]?=some (.cells #[.slice none 0 0,.slice none 0 0,.slice none 0 0,.slice none 0 0] 28 (0,0)):=by rw[←hw1];exact World.alloc_heap_at _ _ _ (by simp)
 have z1:w1.heap.size=w.heap.size+2:=by rw[←hw1];simp
 clear hw1
 have g0:∀ W,qu.r w1 W→∀ i,W.cell? ⟨w.heap.size,i,none⟩=#[.slice A1 n1 c1,.slice A2 n2 c2,.slice (some ⟨b3,o3,none⟩) 256 c3,.slice A4 n4 c4][i]?:=fun W h=>qa (qc rs1 h)
 have g1:∀ W,qu.r w1 W→W.cell? ⟨b3,o3+m,none⟩=some (.int .u8 (nw:Int)):=fun W h=>Ext.cell (x1.trans h) hcn
 clear hcn
 refine qv (by kernel_rfl) ?_
 refine Qu (w:=w1) qu (qE [(9,ZA w1.heap.size 256 (S.now.set m (UInt8.ofNat (nw-1))))]) (List.replicate 11 true) 1 (by kernel_rfl) (by kernel_rfl) (by kernel_rfl) (by kernel_rfl) (by kernel_rfl) (by kernel_rfl) (by kernel_rfl) ?st (Rel.drew _ _) ?walk
 case st=>exact qm (by simp only[List.forall_mem_cons];exact⟨JF _ _ _,fun _ h=>by cases h⟩)
 case walk =>
  intro K hK
  dsimp only[qz,List.replicate]
  repeat ((first|(refine qf ?_ (by rfl) (by rfl) (fun W hW _=>⟨W,?_,Rel.refl _ W⟩) ?_;rotate_left;(first|(go_simp;with_reducible rfl)|(go_simp;done)))|(refine qj (by rfl) ?_));try simp only[Act.put,qi,qe,qb,qg,qe,zA,zB,zC])
  first
   |(refine qf (.pointer (some ⟨b3,o3+m,none⟩)) (by rfl) (by rfl) (fun W hW _=>⟨W,?_,Rel.refl _ W⟩) ?_
     ·go_simp
      rw[IntWalk.i64_in (m:Int) (by omega),if_pos (by omega)]
      simp
     simp only[Act.put,qi,qe,qb,qg,qe,zA,zB,zC])
   |(refine qf (.pointer (some ⟨b3,o3+m,none⟩)) (by rfl) (by rfl) (fun W hW _=>⟨W,?_,Rel.refl _ W⟩) ?_
     ·go_simp
      intro hge
      exfalso
      omega
     simp only[Act.put,qi,qe,qb,qg,qe,zA,zB,zC])
   |skip
  repeat ((first|(refine qf ?_ (by rfl) (by rfl) (fun W hW _=>⟨W,?_,Rel.refl _ W⟩) ?_;rotate_left;(first|(go_simp;with_reducible rfl)|(go_simp;done)))|(refine qj (by rfl) ?_));try simp only[Act.put,qi,qe,qb,qg,qe,zA,zB,zC])
  refine qA (ZA w1.heap.size 256 (S.now.set m (UInt8.ofNat (nw-1)))) (by rfl) (by rfl) (fun W hW _=>?_) (fun p=>?_)
  ·have hxW:Ext w1 W:=hW
   have HC:=HN.out (UInt8.ofNat (nw-1)) W (x1.trans hxW)
   rw[hnl] at HC
   refine Qg ?_ (HC.mono fun e w' h=>?_)
   ·go_simp
   obtain⟨u,rfl,hu,hB⟩:=h
   obtain⟨A',c',rfl,_,_⟩:=qw hu
   exact⟨(A',c'),rfl,⟨Bys.of_own hu,(QD.of_own hu).mono hxW.size⟩,hB⟩
  obtain⟨B3,d3⟩:=p
  simp only[Act.put,qi,qe,qb,qg,qe,zA,zB,zC]
  repeat ((first|(refine qf ?_ (by rfl) (by rfl) (fun W hW _=>⟨W,?_,Rel.refl _ W⟩) ?_;rotate_left;(first|(go_simp;with_reducible rfl)|(go_simp;done)))|(refine qj (by rfl) ?_));try simp only[Act.put,qi,qe,qb,qg,qe,zA,zB,zC])
  refine qD (hK _ _ fun W hW hF=>?_)
  have hN5:Bys W W.heap.size (.slice B3 256 d3) (S.now.set m (UInt8.ofNat (nw-1)))∧QD w1.heap.size (.slice B3 256 d3):=(hF 9).1
  have xW:Ext w1 W:=hW
  clear hF hK g0 g1 hW
  have rsW:=qc rs1 xW
  have roW:=qc ro1 xW
  have ksW:=qa rsW
  have fsW:=qd rsW
  have koW:=qa roW
  have foW:=qd roW
  have z1W:=xW.size
  have zsW:w.heap.size<W.heap.size:=by omega
  have zoW:w.heap.size+1<W.heap.size:=by omega
  replace hN5:=zH hN5
  dsimp only[List.drop,List.length_cons,List.length_nil]
  clear rs1 ro1
  go_wp2_with fail
  refine Qw ?_
  go_wp2_with fail
  have hop:=fun (k:Nat) (hk:k≠w.heap.size)=>Below.heap_setCell W ⟨w.heap.size,2,none⟩ (.slice B3 256 d3) k hk
  have xp:Below w.heap.size w (W.setCell ⟨w.heap.size,2,none⟩ (.slice B3 256 d3)):=Below.setCell (x1.trans xW) (p:=⟨w.heap.size,2,none⟩) (Nat.le_refl _) _
  have rop:=(hop (w.heap.size+1) (by omega)).trans roW
  have zp:(W.setCell ⟨w.heap.size,2,none⟩ (.slice B3 256 d3)).heap.size=W.heap.size:=by simp
  generalize hWp:World.setCell W ⟨w.heap.size,2,none⟩ _=Wp at *
  clear hWp
  refine qcz (b:=w.heap.size+1) rfl rfl (TG rop _ _ _ _) ⟨_,rfl,⟨B3,d3,rfl,fun C hC=>?_⟩,ZO xp (by omega) _ _ _ _⟩
  have hsz:((((Wp.setCell ⟨w.heap.size+1,0,none⟩ (.slice A1 n1 c1)).setCell ⟨w.heap.size+1,1,none⟩ (.slice A2 n2 c2)).setCell ⟨w.heap.size+1,2,none⟩ (.slice B3 256 d3)).setCell ⟨w.heap.size+1,3,none⟩ (.slice A4 n4 c4)).heap.size=W.heap.size:=by simp[zp]
  have hs:=fun (A:World) (j:Nat) (v:Value) (k:Nat) (hk:k≠w.heap.size+1)=>Below.heap_setCell A ⟨w.heap.size+1,j,none⟩ v k hk
  rw[hsz,hdn.out]
  refine hN5.out.1.keepN hN5.out.2 fun q h1 h2=>(hC q (by omega) (by rw[hsz];exact h2)).trans (World.cell?_of_block ?_)
  rw[hs _ _ _ _ (by omega),hs _ _ _ _ (by omega),hs _ _ _ _ (by omega),hs _ _ _ _ (by omega)]
  exact hop q.block (by omega)
theorem Vh {R:Ending→World→Prop} {a:Act} {W:World} {b:Nat} {x0 x1 x2 x3 x4 x5 x6 x7 v:Value} (h4:a.tmps[4]?.getD undef=.pointer (some ⟨b,0,none⟩)) (h5:a.tmps[5]?.getD undef=v) (hd:a.defers=[])
  (hrow:W.heap[b]?=some (.cells #[x0,x1,x2,x3,x4,x5,x6,x7] 32 (0,0))) (hR:R (.returned (.tuple #[.agg #[x0,x1,x2,x3,x4,x5,x6,x7],v])) W):bodyPost Tryz.prog Tryz.f19 R .ret a W:=by
 refine bodyPost_ret (v:=.tuple #[.agg #[x0,x1,x2,x3,x4,x5,x6,x7],v]) ?_ hd hR
 have k:=qa hrow
 simp[results,Tryz.results19,go_sem,h4,h5,k]
set_option maxHeartbeats 8000000 in
set_option maxRecDepth 100000 in
theorem qaF (A1:Option Addr) (c1:Nat) (A2:Option Addr) (c2:Nat) (A3:Option Addr) (c3:Nat) (A4:Option Addr) (c4:Nat) (gen root next:Int) (A5:Option Addr) (c5:Nat) (S:Sto) (dead:List Int) (a:Int) (w:World)
  (h:qH w w.heap.size (.slice A1 S.bs.length c1) (.slice A2 S.ws.length c2) (.slice A3 S.now.length c3) (.slice A4 S.last.length c4) S) (hd:QF w w.heap.size (.slice A5 dead.length c5) dead) :
  Calls Tryz.prog 19 #[.agg (qC (.slice A1 S.bs.length c1) (.slice A2 S.ws.length c2) (.slice A3 S.now.length c3) (.slice A4 S.last.length c4) gen root next (.slice A5 dead.length c5)),.int .i64 a] w (Ud S gen root next dead (fun refs met=>Qk S refs met a true) (zL S (Ve S.now a.toNat)) w):=by
 have HD:=zH (fun W (hx:Ext w W)=>YZ A1 _ c1 A2 _ c2 A3 _ c3 A4 _ c4 gen root next A5 c5 S dead a true W (h.ext hx) (hd.ext_ hx))
 replace h:=zH h
 replace hd:=zH hd
 go_enter Tryz.func19,Tryz.ntmps19
 go_wp2_with fail
 generalize hw1:(World.alloc (World.alloc _ _) _)=w1
 have x1:Ext w w1:=by rw[←hw1];exact(Ext.alloc _ _).trans (Ext.alloc _ _)
 have rp1:w1.heap[w.heap.size]?=some (.cells (qC (.slice A1 S.bs.length c1) (.slice A2 S.ws.length c2) (.slice A3 S.now.length c3) (.slice A4 S.last.length c4) gen root next (.slice A5 dead.length c5)) 32 (0,0)):=by rw[←hw1];exact(Below.heap_alloc _ _ _ (by simp)).trans (World.alloc_heap_at _ _ _ rfl)
 have ro1:w1.heap[w.heap.size+1]?=some (.cells (qC (.slice none 0 0) (.slice none 0 0) (.slice none 0 0) (.slice none 0 0) 0 0 0 (.slice none 0 0)) 32 (0,0)):=by rw[←hw1];exact World.alloc_heap_at _ _ _ (by simp)
 clear hw1
 refine(HD.out w1 x1).mono ?_
 clear HD
 rintro e w2 ⟨hB,hQ⟩
 have x2:Ext w w2:=Ext.trans x1 hB
 have rp2:=qc rp1 hB
 have ro2:=qc ro1 hB
 clear hB rp1 ro1 x1
 have kp2:=qa rp2
 have ko2:=qa ro2
 have fo2:=qd ro2
 rcases hQ with ⟨rfl,hno⟩|⟨vs,refs,met,hpool,hm,hen,rfl⟩
 ·replace hno:=zH hno
  go_wp2_with fail
  exact Vh (b:=w.heap.size+1) rfl rfl rfl (jM ro2 _ _ _ _ _ _ _ _) ⟨zJ x2 (by omega) _ _ _ _ _ _ _ _,.inl ⟨rfl,hno.out⟩⟩
 ·have hS:=hpool.may
  replace hpool:=zH hpool
  replace hm:=zH hm
  replace hen:=zH hen
  by_cases h0:Qk S refs met a true=0
  ·obtain⟨m,rfl,h8,h256,hnz⟩:=Ys h0
   have hnl:=(qQ hS).2.2.1
   have HF:=zH (qbF A1 S.bs.length c1 A2 S.ws.length c2 A3 c3 A4 S.last.length c4 S hS m h256 hnz w2 (by have:=(h.out.ext x2).now;rw[hnl] at this;exact this))
   have hE:=zH h0
   rw[h0,hnl]
   rw[hnl] at rp2
   replace kp2:=qa rp2
   replace hS:=zH hS
   replace hnz:=zH hnz
   replace hnl:=zH hnl
   clear h0
   go_wp2_with fail
   refine HF.out.mono ?_
   clear HF
   rintro e w3 ⟨u,rfl,⟨B3,d3,rfl,hb3⟩,hB⟩
   have x23:Ext w2 w3:=hB
   have x3:Ext w w3:=x2.trans hB
   have rp3:=qc rp2 hB
   have ro3:=qc ro2 hB
   have kp3:=qa rp3
   have fp3:=qd rp3
   have ko3:=qa ro3
   have fo3:=qd ro3
   have z2o:w.heap.size+1<w2.heap.size:=(zG.1 ro2).1
   have z23:=x23.size
   have zp3:w.heap.size<w3.heap.size:=by omega
   have zo3:w.heap.size+1<w3.heap.size:=by omega
   replace hb3:=zH hb3
   clear hB rp2 ro2 kp2 ko2 fo2
   go_wp2_with fail
   have hop:∀ k,k≠w.heap.size→((((w3.setCell ⟨w.heap.size,0,none⟩ (.slice A1 S.bs.length c1)).setCell ⟨w.heap.size,1,none⟩ (.slice A2 S.ws.length c2)).setCell ⟨w.heap.size,2,none⟩ (.slice B3 256 d3)).setCell ⟨w.heap.size,3,none⟩ (.slice A4 S.last.length c4)).heap[k]?=w3.heap[k]?:=fun k hk=>by rw[Below.heap_setCell _ _ _ _ hk,Below.heap_setCell _ _ _ _ hk,Below.heap_setCell _ _ _ _ hk,Below.heap_setCell _ _ _ _ hk]
   have xp:Below w.heap.size w ((((w3.setCell ⟨w.heap.size,0,none⟩ (.slice A1 S.bs.length c1)).setCell ⟨w.heap.size,1,none⟩ (.slice A2 S.ws.length c2)).setCell ⟨w.heap.size,2,none⟩ (.slice B3 256 d3)).setCell ⟨w.heap.size,3,none⟩ (.slice A4 S.last.length c4)):=ZO x3 (b:=w.heap.size) (Nat.le_refl _) _ _ _ _
   have rop:=(hop (w.heap.size+1) (by omega)).trans ro3
   have zp:((((w3.setCell ⟨w.heap.size,0,none⟩ (.slice A1 S.bs.length c1)).setCell ⟨w.heap.size,1,none⟩ (.slice A2 S.ws.length c2)).setCell ⟨w.heap.size,2,none⟩ (.slice B3 256 d3)).setCell ⟨w.heap.size,3,none⟩ (.slice A4 S.last.length c4)).heap.size=w3.heap.size:=by simp
   generalize hWp:World.setCell (World.setCell (World.setCell (World.setCell w3 _ _) _ _) _ _) ⟨w.heap.size,3,none⟩ _=Wp at *
   clear hWp
   have xf:=zJ xp (b:=w.heap.size+1) (by omega) (.slice A1 S.bs.length c1) (.slice A2 S.ws.length c2) (.slice B3 256 d3) (.slice A4 S.last.length c4) (.int .u32 gen) (.int .i64 root) (.int .u32 next) (.slice A5 dead.length c5)
   have hsame:=fun (k:Nat) (hk:w.heap.size+1<k)=>(Jl (w:=Wp) (show k≠w.heap.size+1 by omega) (.slice A1 S.bs.length c1) (.slice A2 S.ws.length c2) (.slice B3 256 d3) (.slice A4 S.last.length c4) (.int .u32 gen) (.int .i64 root) (.int .u32 next) (.slice A5 dead.length c5)).trans (hop k (by omega))
   refine Vh (b:=w.heap.size+1) rfl rfl rfl (jM rop _ _ _ _ _ _ _ _) ⟨xf,.inr ⟨vs,refs,met,hpool.out,hm.out,hen.out,.inr ⟨hE.out,A1,c1,A2,c2,B3,d3,A4,c4,A5,c5,?_,?_,?_⟩⟩⟩
   ·rw[Int.toNat_natCast,show (zL S (Ve S.now m)).now.length=256 from (VT _ _).trans hnl.out];rfl
   ·have q1:=h.out.below xf
    have q3:=hb3.out _ fun q h1 h2=>World.cell?_of_block (hsame q.block (by omega))
    rw[Int.toNat_natCast]
    refine⟨q1.bs.more xf.size,q1.ws.more xf.size,?_,q1.last.more xf.size⟩
    rw[show (zL S (Ve S.now m)).now.length=256 from (VT _ _).trans hnl.out]
    exact q3.more (by simp[zp])
   ·obtain⟨A',c',e,q1,q2,q3⟩:=hd.out
    exact⟨A',c',e,q1,q2,(q3.below xf).more xf.size⟩
  ·have hE:=zH h0
   generalize hde:Qk S refs met a true=er at *
   have he:(er != 0)=true:=by rw[bne_iff_ne];exact h0
   have hq:=zH h0
   have hde2:=zH hde
   clear h0 hE hde
   go_wp2_with fail
   exact Vh (b:=w.heap.size+1) rfl rfl rfl (jM ro2 _ _ _ _ _ _ _ _) ⟨zJ x2 (by omega) _ _ _ _ _ _ _ _,.inr ⟨vs,refs,met,hpool.out,hm.out,hen.out,.inl ⟨by show Qk S refs met a true≠0;rw[hde2.out];exact hq.out,by show _=Ending.returned (.tuple #[ku,.int .i64 (Qk S refs met a true)]);rw[hde2.out];rfl⟩⟩⟩
end Go.Proofs.YtckhnchnbeoogaaGreat
