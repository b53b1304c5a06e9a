/- Texts DTaken, DRoom, KenW, joined. -/
import Derived.Test.YtckhnchnbeoogaaGreatV10
import Derived.Test.YtckhnchnbeoogaaGreatV15
import Derived.Test.YtckhnchnbeoogaaGreatV21
import Derived.Test.YtckhnchnbeoogaaGreatV22
import Derived.Test.YtckhnchnbeoogaaGreatV23
set_option linter.unusedSimpArgs false
set_option linter.unusedVariables false
namespace Go.Proofs.YtckhnchnbeoogaaGreat
open Go.RowKit
def outWt (w:World) (B D T lo:Nat) (A1:Option Addr) (n1 c1 n:Nat) (ws:List (Int×List UInt8)):qT:=⟨Option Addr×Nat,fun p=>.agg #[.slice A1 n1 c1,.slice p.1 n p.2],fun p W=>∀ C:World,XV B D T w C→PosOn lo W C→Wrs C W.heap.size (.slice p.1 n p.2) ws⟩
theorem JC (w:World) (B D T lo:Nat) (A1:Option Addr) (n1 c1 n:Nat) (ws:List (Int×List UInt8)) (A:Option Addr) (c:Nat):(outWt w B D T lo A1 n1 c1 n ws).f (A,c)=.agg #[.slice A1 n1 c1,.slice A n c]:=rfl
theorem GM (w:World) (B D T lo:Nat) (A1:Option Addr) (n1 c1 n:Nat) (ws:List (Int×List UInt8)):∀ p,QI ((outWt w B D T lo A1 n1 c1 n ws).φ p):=fun p W W' he h C h1 h2 =>
 (h C h1 fun q v g1 g2 g3=>h2 q v g1 (Nat.lt_of_lt_of_le g2 he.size) (Ext.cell he g3)).more he.size
def TakenQ (w:World) (B D T:Nat) (S:Sto) (data:List UInt8) (u:Value) (W:World):Prop:=∃ A1 c1 A2 c2 A3 c3 A4 c4 n,u=.tuple #[Qy A1 S.bs.length c1 A2 n c2 A3 S.now.length c3 A4 S.last.length c4,.int .i64 (if Qh S=[]∨4096≤S.ws.length then -1 else (qO S:Int))] ∧
 (¬(Qh S=[]∨4096≤S.ws.length)→n=S.ws.length+1∧∀ C:World,XV B D T w C→PosOn w.heap.size W C→qH C W.heap.size (.slice A1 S.bs.length c1) (.slice A2 n c2) (.slice A3 S.now.length c3) (.slice A4 S.last.length c4) (ZR S (qO S) data))
theorem Bys.pos {w C:World} {B lo:Nat} {v:Value} {l:List UInt8} (h:Bys w B v l) (hf:QD lo v) (hk:∀ (q:Addr) (v:Value),lo≤q.block→q.block<B→w.cell? q=some v→C.cell? q=some v):Bys C B v l:=by
 obtain⟨A,c,e,hc,hm,hr⟩:=h
 subst e
 exact⟨A,c,rfl,hc,hm,Rd.pos hr hf hk⟩
theorem Yw {S:Sto} (h:¬Qh S=[]):qO S<256:=by
 have hmem:qO S∈zP S 256:=by
  show qO S∈Qh S
  unfold qO
  rcases hf:Qh S with _|⟨x,r⟩
  ·exact absurd hf h
  ·simp
 simpa using (List.mem_filter.1 hmem).1
theorem Xl {P:Program} {o:Oper} {a:Act} {W:World} {B:Nat} {ty:TypeId} {y0 y1 y2 y3 x0 x1 x2 x3:Value} (h:W.heap[B]?=some (.cells #[y0,y1,y2,y3] ty (0,0)))
  (hr:(execOp a.eval o).run P W=.ok .skip ((((W.setCell ⟨B,0,none⟩ x0).setCell ⟨B,1,none⟩ x1).setCell ⟨B,2,none⟩ x2).setCell ⟨B,3,none⟩ x3)):Qp (ja B ty #[x0,x1,x2,x3]) P o a W (jA B ty #[x0,x1,x2,x3]):=
 kL hr (qk.trans (qk.trans (qk.trans qk))) (TG h _ _ _ _)
theorem YQ {R:Ending→World→Prop} {a:Act} {W:World} {b:Nat} {x0 x1 x2 x3 v:Value} (h4:a.tmps[4]?.getD undef=.pointer (some ⟨b,0,none⟩)) (h5:a.tmps[5]?.getD undef=v) (hd:a.defers=[])
  (hrow:W.heap[b]?=some (.cells #[x0,x1,x2,x3] 28 (0,0))) (hR:R (.returned (.tuple #[.agg #[x0,x1,x2,x3],v])) W):bodyPost Tryz.prog Tryz.f39 R .ret a W:=by
 refine bodyPost_ret (v:=.tuple #[.agg #[x0,x1,x2,x3],v]) ?_ hd hR
 have k:=qa hrow
 simp[results,Tryz.results39,go_sem,h4,h5,k]
set_option maxHeartbeats 8000000 in
set_option maxRecDepth 100000 in
theorem qcN (A1:Option Addr) (c1:Nat) (A2:Option Addr) (c2:Nat) (A3:Option Addr) (c3:Nat) (A4:Option Addr) (c4:Nat) (S:Sto) (hS:qB S=true) (A:Option Addr) (c:Nat) (data:List UInt8) (w:World) (B D T:Nat) (hB0:B≤w.heap.size) (hT0:T≤w.heap.size)
  (h:qH w B (.slice A1 S.bs.length c1) (.slice A2 S.ws.length c2) (.slice A3 S.now.length c3) (.slice A4 S.last.length c4) S) (hd:∀ C:World,XV B D T w C→Bys C w.heap.size (.slice A data.length c) data) :
  Calls Tryz.prog 39 #[Qy A1 S.bs.length c1 A2 S.ws.length c2 A3 S.now.length c3 A4 S.last.length c4,.slice A data.length c] w (zE (TakenQ w B D T S data) w):=by
 have HA:=zH (fun W (hx:Ext w W)=>GB A1 _ c1 A2 _ c2 A3 _ c3 A4 _ c4 S hS W ((h.below (Below.mono hx hB0)).more (Nat.le_trans hB0 hx.size)))
 have HW:=zH (fun (a:Int) W (hx:Ext w W)=>qcm A1 S.bs.length c1 A2 S.ws.length c2 S.ws (zK hS).ws a A c data W B D T (Nat.le_trans hB0 hx.size) (h.below (Below.mono hx hB0)).ws (fun C hC=>(hd C (hC.fwd hx hB0 hT0)).more hx.size))
 have HN:=zH (fun (a:Nat) (ha:a<S.now.length) W (hx:Ext w W)=>KQ A3 c3 S.now (zK hS).now a ha 1 W ((h.below (Below.mono hx hB0)).more (Nat.le_trans hB0 hx.size)).now)
 replace h:=zH h
 replace hd:=zH hd
 go_enter Tryz.func39,Tryz.ntmps39
 go_wp2_with fail
 generalize hw1:(World.alloc (World.alloc _ _) _)=w1
 have x1:Ext w w1:=by rw[←hw1];exact(Ext.alloc _ _).trans (Ext.alloc _ _)
 have rs1:w1.heap[w.heap.size]?=some (.cells #[.slice A1 S.bs.length c1,.slice A2 S.ws.length c2,.slice A3 S.now.length c3,.slice A4 S.last.length c4] 28 (0,0)):=by rw[←hw1];exact(Below.heap_alloc _ _ _ (by simp)).trans (World.alloc_heap_at _ _ _ rfl)
 have ro1:w1.heap[w.heap.size+1]?=some (.cells #[.slice none 0 0,.slice none 0 0,.slice none 0 0,.slice none 0 0] 28 (0,0)):=by rw[←hw1];exact World.alloc_heap_at _ _ _ (by simp)
 have z1:w1.heap.size=w.heap.size+2:=by rw[←hw1];simp
 clear hw1
 refine(HA.out w1 x1).mono ?_
 clear HA
 rintro e w2 ⟨v,rfl,hown,hB⟩
 have x2:Ext w w2:=x1.trans hB
 have rs2:=qc rs1 hB
 have ro2:=qc ro1 hB
 have ks2:=qa rs2
 have ko2:=qa ro2
 have fo2:=qd ro2
 have z2:w.heap.size+2≤w2.heap.size:=by have:=hB.size;omega
 clear hB rs1 ro1 x1
 by_cases hno:Qh S=[]
 ·obtain⟨AR,cR,rfl,-,-⟩:=qw hown
  have hl0:(Qh S).length=0:=by rw[hno];rfl
  have hQ:Hid ((if Qh S=[]∨4096≤S.ws.length then (-1:Int) else (qO S:Int))=-1):=zH (if_pos (.inl hno))
  rw[hl0]
  have hno2:=zH (show Qh S=[]∨4096≤S.ws.length from .inl hno)
  replace hno:=zH hno
  replace hl0:=zH hl0
  replace hown:=zH hown
  go_wp2_with fail
  exact YQ (b:=w.heap.size+1) rfl rfl rfl (TG ro2 _ _ _ _) ⟨_,rfl,⟨A1,c1,A2,c2,A3,c3,A4,c4,S.ws.length,by rw[hQ.out];rfl,fun hx=>absurd hno2.out hx⟩,ZO x2 (by omega) _ _ _ _⟩
 ·have hpos:0<(Qh S).length:=by rcases hf:Qh S with _|_;exact absurd hf hno;simp
  obtain⟨g,cR,rfl⟩:∃ g cR,v=.slice (some ⟨g,0,none⟩) (Qh S).length cR:=by
   rcases hown.2 with ⟨_,h0⟩|⟨g,cap,cur,e,_⟩
   ·omega
   ·exact⟨g,cap,e⟩
  have hl1:(((Qh S).length:Int) == 0)=false:=by rw[beq_eq_false_iff_ne];omega
  have hl2:decide ((Qh S).length=0)=false:=decide_eq_false (by omega)
  have hc0:w2.cell? ⟨g,0,none⟩=some (.int .i64 (qO S:Int)):=by
   have:=hown.cells (g:=g) rfl 0 (.int .i64 (qO S:Int)) (by
    unfold qO
    rcases hf:Qh S with _|⟨x,r⟩
    ·exact absurd hf hno
    ·rfl)
   exact this
  by_cases hw:4096≤S.ws.length
  ·have d1:decide ((S.ws.length:Int)≥4096)=true:=decide_eq_true (by omega)
   have d2:decide (4096≤S.ws.length)=true:=decide_eq_true hw
   have hQ:Hid ((if Qh S=[]∨4096≤S.ws.length then (-1:Int) else (qO S:Int))=-1):=zH (if_pos (.inr hw))
   have hno2:=zH (show Qh S=[]∨4096≤S.ws.length from .inr hw)
   replace hw:=zH hw
   replace hno:=zH hno
   replace hown:=zH hown
   replace hpos:=zH hpos
   clear hc0
   go_wp2_with fail
   exact YQ (b:=w.heap.size+1) rfl rfl rfl (TG ro2 _ _ _ _) ⟨_,rfl,⟨A1,c1,A2,c2,A3,c3,A4,c4,S.ws.length,by rw[hQ.out];rfl,fun hx=>absurd hno2.out hx⟩,ZO x2 (by omega) _ _ _ _⟩
  ·have d1:decide ((S.ws.length:Int)≥4096)=false:=decide_eq_false (by omega)
   have d2:decide (4096≤S.ws.length)=false:=decide_eq_false hw
   replace hw:=zH hw
   replace hno:=zH hno
   replace hown:=zH hown
   obtain⟨ff,hff⟩:∃ ff,qO S=ff:=⟨_,rfl⟩
   have hfl:ff<S.now.length:=by
    rw[←hff]
    have:=Yw hno.out
    have:=(qQ hS).2.2.1
    omega
   rw[hff] at hc0
   replace hff:=zH hff
   go_upto_region 4 with fail
   have gS:∀ W,Ext w2 W→∀ i,W.cell? ⟨w.heap.size,i,none⟩=#[.slice A1 S.bs.length c1,.slice A2 S.ws.length c2,.slice A3 S.now.length c3,.slice A4 S.last.length c4][i]?:=fun W h=>qa (qc rs2 h)
   have gL:∀ W,Ext w2 W→W.cell? ⟨g,0,none⟩=some (.int .i64 (ff:Int)):=fun W h=>Ext.cell h hc0
   replace x2:=zH x2
   clear ks2 ko2 fo2
   refine qG (qE [(6,outWt w B D T w2.heap.size A1 S.bs.length c1 (S.ws.length+1) (S.ws++[((ff:Int),data)]))]) 8 (by kernel_rfl) (by kernel_rfl) (by kernel_rfl) (by decide) (by kernel_rfl) (by kernel_rfl) ?st ?walk
   case st=>exact qJ (by simp only[List.forall_mem_cons];exact⟨GM _ _ _ _ _ _ _ _ _ _,fun _ h=>by cases h⟩)
   case walk =>
    intro K hK
    dsimp only[List.take]
    repeat ((first|(refine ql ?_ (by rfl) (by rfl) (fun W hW _=>⟨W,?_,Ext.refl W⟩) ?_;rotate_left;(first|(go_simp;with_reducible rfl)|(go_simp;done)))|(refine qt (by rfl) ?_));try simp only[Act.put,qi,qe,qb,qg,JC,qe,Qm,zA,zB,zC])
    refine qZ (outWt w B D T w2.heap.size A1 S.bs.length c1 (S.ws.length+1) (S.ws++[((ff:Int),data)])) (by rfl) (by rfl) (fun W hW _=>?_) (fun p=>?_)
    ·refine Qb ?_ ((HW.out (ff:Int) W (x2.out.trans hW)).mono fun e w' h=>?_)
     ·go_simp
     obtain⟨u,rfl,⟨A',c',rfl,hw'⟩,hB⟩:=h
     exact⟨(A',c'),rfl,fun C h1 h2=>hw' C (h1.back (x2.out.trans hW) hB0 hT0) fun q v g1 g2 g3=>h2 q v (Nat.le_trans hW.size g1) g2 g3,hB⟩
    obtain⟨B2,d2'⟩:=p
    simp only[Act.put,qi,qe,qb,qg,JC,qe,Qm,zA,zB,zC]
    repeat ((first|(refine ql ?_ (by rfl) (by rfl) (fun W hW _=>⟨W,?_,Ext.refl W⟩) ?_;rotate_left;(first|(go_simp;with_reducible rfl)|(go_simp;done)))|(refine qt (by rfl) ?_));try simp only[Act.put,qi,qe,qb,qg,JC,qe,Qm,zA,zB,zC])
    refine qP (hK _ _ fun W3 hW hF=>?_)
    have hWr:∀ C:World,XV B D T w C→PosOn w2.heap.size W3 C→Wrs C W3.heap.size (.slice B2 (S.ws.length+1) d2') (S.ws++[((ff:Int),data)]):=(hF 6).1
    clear hF hK gS gL
    dsimp only[List.drop]
    have x3:Ext w W3:=x2.out.trans hW
    have rs3:=qc rs2 hW
    have ro3:=qc ro2 hW
    have hc3:=Ext.cell hW hc0
    have ks3:=qa rs3
    have fs3:=qd rs3
    have zg:g<W3.heap.size:=World.block_lt_of_cell? W3 _ hc3
    have hge:w.heap.size+1<g:=by
     have h1:=(zY hown.out g rfl).1
     omega
    replace hWr:=zH hWr
    clear hW rs2 ro2 hc0 x2
    go_upto_region 5 with fail
    have hs4:=fun (k:Nat) (hk:k≠w.heap.size)=>(Below.heap_setCell (W3.setCell ⟨w.heap.size,0,none⟩ (.slice A1 S.bs.length c1)) ⟨w.heap.size,1,none⟩ (.slice B2 (S.ws.length+1) d2') k hk).trans (Below.heap_setCell W3 ⟨w.heap.size,0,none⟩ (.slice A1 S.bs.length c1) k hk)
    have rs4:=qh (qh rs3 0 (.slice A1 S.bs.length c1)) 1 (.slice B2 (S.ws.length+1) d2')
    have x4:Ext w ((W3.setCell ⟨w.heap.size,0,none⟩ (.slice A1 S.bs.length c1)).setCell ⟨w.heap.size,1,none⟩ (.slice B2 (S.ws.length+1) d2')):=Below.setCell (Below.setCell x3 (p:=⟨w.heap.size,0,none⟩) (by simp) _) (p:=⟨w.heap.size,1,none⟩) (by simp) _
    have ro4:=(hs4 (w.heap.size+1) (by omega)).trans ro3
    have hc4:=(World.cell?_of_block (a:=⟨g,0,none⟩) (hs4 g (by omega))).trans hc3
    have h34:∀ k,k≠w.heap.size→((W3.setCell ⟨w.heap.size,0,none⟩ (.slice A1 S.bs.length c1)).setCell ⟨w.heap.size,1,none⟩ (.slice B2 (S.ws.length+1) d2')).heap[k]?=W3.heap[k]?:=hs4
    have z4:((W3.setCell ⟨w.heap.size,0,none⟩ (.slice A1 S.bs.length c1)).setCell ⟨w.heap.size,1,none⟩ (.slice B2 (S.ws.length+1) d2')).heap.size=W3.heap.size:=by simp
    clear hs4
    generalize hW4:World.setCell (World.setCell W3 _ _) _ _=W4 at *
    clear hW4 ks3 fs3
    have gS:∀ W,Ext W4 W→∀ i,W.cell? ⟨w.heap.size,i,none⟩=#[.slice A1 S.bs.length c1,.slice B2 (S.ws.length+1) d2',.slice A3 S.now.length c3,.slice A4 S.last.length c4][i]?:=fun W h=>qa (qc rs4 h)
    have gL:∀ W,Ext W4 W→W.cell? ⟨g,0,none⟩=some (.int .i64 (ff:Int)):=fun W h=>Ext.cell h hc4
    replace h34:=zH h34
    replace x4:=zH x4
    clear rs3 ro3 hc3
    refine qG (qE [(5,ZA W4.heap.size S.now.length (S.now.set ff 1))]) 7 (by kernel_rfl) (by kernel_rfl) (by kernel_rfl) (by decide) (by kernel_rfl) (by kernel_rfl) ?st ?walk
    case st=>exact qJ (by simp only[List.forall_mem_cons];exact⟨ZG _ _ _,fun _ h=>by cases h⟩)
    case walk =>
     intro K hK
     dsimp only[List.take]
     repeat ((first|(refine ql ?_ (by rfl) (by rfl) (fun W hW _=>⟨W,?_,Ext.refl W⟩) ?_;rotate_left;(first|(go_simp;with_reducible rfl)|(go_simp;done)))|(refine qt (by rfl) ?_));try simp only[Act.put,qi,qe,qb,qg,JC,qe,Qm,zA,zB,zC])
     refine qZ (ZA W4.heap.size S.now.length (S.now.set ff 1)) (by rfl) (by rfl) (fun W hW _=>?_) (fun p=>?_)
     ·refine Qb ?_ ((HN.out ff hfl W (x4.out.trans hW)).mono fun e w' h=>?_)
      ·go_simp
      obtain⟨u,rfl,hu,hB⟩:=h
      obtain⟨A',c',rfl,_,_⟩:=qw hu
      exact⟨(A',c'),rfl,⟨by have:=Bys.of_own hu;exact this,(QD.of_own hu).mono hW.size⟩,hB⟩
     obtain⟨B3,d3⟩:=p
     simp only[Act.put,qi,qe,qb,qg,JC,qe,Qm,zA,zB,zC]
     repeat ((first|(refine ql ?_ (by rfl) (by rfl) (fun W hW _=>⟨W,?_,Ext.refl W⟩) ?_;rotate_left;(first|(go_simp;with_reducible rfl)|(go_simp;done)))|(refine qt (by rfl) ?_));try simp only[Act.put,qi,qe,qb,qg,JC,qe,Qm,zA,zB,zC])
     refine qP (hK _ _ fun W5 hW hF=>?_)
     have hN5:Bys W5 W5.heap.size (.slice B3 S.now.length d3) (S.now.set ff 1)∧QD W4.heap.size (.slice B3 S.now.length d3):=(hF 5).1
     clear hF hK gS gL
     dsimp only[List.drop]
     have x5:Ext w W5:=x4.out.trans hW
     have rs5:=qc rs4 hW
     have ro5:=qc ro4 hW
     have hc5:=Ext.cell hW hc4
     have ks5:=qa rs5
     have fs5:=qd rs5
     have h45:=zH (fun k (hk:k<W4.heap.size)=>Below.block hW k hk)
     have z45:=Below.size hW
     replace hN5:=zH hN5
     clear hW rs4 ro4 hc4 x4
     go_upto_region 6 with fail
     have hs6:=fun (k:Nat) (hk:k≠w.heap.size)=>Below.heap_setCell W5 ⟨w.heap.size,2,none⟩ (.slice B3 S.now.length d3) k hk
     have rs6:=qh rs5 2 (.slice B3 S.now.length d3)
     have x6:Ext w (W5.setCell ⟨w.heap.size,2,none⟩ (.slice B3 S.now.length d3)):=Below.setCell x5 (p:=⟨w.heap.size,2,none⟩) (by simp) _
     have ro6:=(hs6 (w.heap.size+1) (by omega)).trans ro5
     have hc6:=(World.cell?_of_block (a:=⟨g,0,none⟩) (hs6 g (by omega))).trans hc5
     have z6:(W5.setCell ⟨w.heap.size,2,none⟩ (.slice B3 S.now.length d3)).heap.size=W5.heap.size:=by simp
     generalize hW6:World.setCell W5 _ _=W6 at *
     clear hW6 ks5 fs5
     replace hs6:=zH hs6
     replace x6:=zH x6
     clear rs5 ro5 hc5
     have zg6:g<W6.heap.size:=World.block_lt_of_cell? W6 _ hc6
     obtain⟨csP,hcs⟩:∃ csP:Array Value,csP=#[.slice A1 S.bs.length c1,.slice B2 (S.ws.length+1) d2',.slice B3 S.now.length d3,.slice A4 S.last.length c4]:=⟨_,rfl⟩
     replace hcs:=zH hcs
     obtain⟨RR,hRR⟩:∃ RR:Rel,RR=ja (w.heap.size+1) 28 csP:=⟨_,rfl⟩
     replace hRR:=zH hRR
     have gS:∀ W,RR.r W6 W→∀ i,W.cell? ⟨w.heap.size,i,none⟩=#[.slice A1 S.bs.length c1,.slice B2 (S.ws.length+1) d2',.slice B3 S.now.length d3,.slice A4 S.last.length c4][i]?:=fun W h=>qa (ZZ (hRR.out ▸ h) (by omega) rs6)
     have gL:∀ W,RR.r W6 W→W.cell? ⟨g,0,none⟩=some (.int .i64 (ff:Int)):=fun W h=>qbJ (hRR.out ▸ h) (by simp;omega) hc6
     refine qv (by kernel_rfl) ?_
     refine Qu (w:=W6) RR (qE [(4,jA (w.heap.size+1) 28 csP)]) [true,true,true,true,true] 1 (by kernel_rfl) (by kernel_rfl) (by kernel_rfl) (by kernel_rfl) (by kernel_rfl) (by kernel_rfl) (by kernel_rfl) ?st (Rel.drew _ _) ?walk
     case st=>rw[hRR.out];exact qm (by simp only[List.forall_mem_cons];exact⟨JT,fun _ h=>by cases h⟩)
     case walk =>
      intro K hK
      dsimp only[qz]
      repeat ((first|(refine qf ?_ (by rfl) (by rfl) (fun W hW _=>⟨W,?_,Rel.refl _ W⟩) ?_;rotate_left;(first|(go_simp;with_reducible rfl)|(go_simp;done)))|(refine qj (by rfl) ?_));try simp only[Act.put,qi,qe,qb,qg,JC,qe,Qm,zA,zB,zC])
      refine qA (jA (w.heap.size+1) 28 csP) (by rfl) (by rfl) (fun W hW hp=>?_) (fun p=>?_)
      ·rw[hRR.out] at hW ⊢
       rw[hcs.out]
       have zo:w.heap.size+1<W.heap.size:=by have:=hW.1.size;have:=(zG.1 ro6).1;omega
       rcases Vx hW ro6 with h8|h8
       ·have k8:=qa h8
        have f8:=qd h8
        refine Xl h8 ?_
        go_simp
       ·rw[hcs.out] at h8
        have k8:=qa h8
        have f8:=qd h8
        refine Xl h8 ?_
        go_simp
      simp only[Act.put,qi,qe,qb,qg,JC,qe,Qm,zA,zB,zC]
      repeat ((first|(refine qf ?_ (by rfl) (by rfl) (fun W hW _=>⟨W,?_,Rel.refl _ W⟩) ?_;rotate_left;(first|(go_simp;with_reducible rfl)|(go_simp;done)))|(refine qj (by rfl) ?_));try simp only[Act.put,qi,qe,qb,qg,JC,qe,Qm,zA,zB,zC])
      refine qD (hK _ _ fun W7 hW7 hF=>?_)
      have ro7:W7.heap[w.heap.size+1]?=some (.cells csP 28 (0,0)):=(hF 4).1
      clear hF hK gS gL
      rw[hRR.out] at hW7
      have h67:=zH (fun (k:Nat) (hk:k<W6.heap.size) (hne:k≠w.heap.size+1)=>hW7.1.block k hk (fun e=>hne (by simpa using e)))
      have x7:Below w.heap.size w W7:=Below.trans x6.out (Vw hW7 (by omega) x6.out.size)
      have z67:=hW7.1.size
      rw[hcs.out] at ro7
      clear hW7 hRR rs6 ro6 hc6
      dsimp only[List.drop,List.length_cons,List.length_nil]
      go_wp2_with fail
      refine Qw ?_
      go_wp2_with fail
      have hmid:∀ k,w.heap.size+1<k→k<W5.heap.size→W7.heap[k]?=W5.heap[k]?:=fun k h1 h2=>(h67.out k (by omega) (by omega)).trans (hs6.out k (by omega))
      have hlo:∀ k,w.heap.size+1<k→k<W3.heap.size→W7.heap[k]?=W3.heap[k]?:=fun k h1 h2=>(hmid k h1 (by omega)).trans ((h45.out k (by omega)).trans (h34.out k (by omega)))
      have hz2:w.heap.size+2≤w2.heap.size:=z2
      have zW:=x7.size
      refine YQ (b:=w.heap.size+1) rfl rfl rfl ro7 ⟨_,rfl,⟨A1,c1,B2,d2',B3,d3,A4,c4,S.ws.length+1,?_,fun _=>⟨rfl,fun C hC1 hC2=>?_⟩⟩,x7⟩
      ·rw[if_neg (by rintro (h|h);exact hno.out h;exact hw.out h),hff.out];rfl
      ·have q1:=h.out.keep fun q hq=>hC1 q (.inl hq)
       have q2:=hWr.out C hC1 fun q v h1 h2 h3=>hC2 q v (by omega) (by omega) ((World.cell?_of_block (hlo q.block (by omega) h2)).trans h3)
       have q3:=hN5.out.1.pos hN5.out.2 (C:=C) fun q v h1 h2 h3=>hC2 q v (by omega) (by omega) ((World.cell?_of_block (hmid q.block (by omega) h2)).trans h3)
       rw[hff.out]
       exact⟨q1.bs.more (by omega),q2.more (by omega),q3.more (by omega),q1.last.more (by omega)⟩
set_option maxHeartbeats 2000000 in
set_option maxRecDepth 100000 in
theorem qem (A1:Option Addr) (n1 c1:Nat) (A2:Option Addr) (n2 c2:Nat) (A3:Option Addr) (n3 c3:Nat) (A4:Option Addr) (n4 c4:Nat) (gen root next:Int) (v5:Value) (S:Sto) (hS:qB S=true) (w:World) (h:qH w w.heap.size (.slice A1 n1 c1) (.slice A2 n2 c2) (.slice A3 n3 c3) (.slice A4 n4 c4) S) :
  Calls Tryz.prog 74 #[.agg (qC (.slice A1 n1 c1) (.slice A2 n2 c2) (.slice A3 n3 c3) (.slice A4 n4 c4) gen root next v5)] w (Ret (.bool (decide (16≤(Qh S).length))) w):=by
 have HA:=zH (fun W (hx:Ext w W)=>GB A1 n1 c1 A2 n2 c2 A3 n3 c3 A4 n4 c4 S hS W (h.ext hx))
 clear h
 go_enter Tryz.func74,Tryz.ntmps74
 go_wp2_with fail
 generalize hw1:(World.alloc w _)=w1
 have x1:Ext w w1:=by rw[←hw1];exact Ext.alloc _ _
 clear hw1
 refine(HA.out w1 x1).mono ?_
 rintro e w2 ⟨v,rfl,hown,hB⟩
 have x2:Ext w w2:=x1.trans hB
 obtain⟨AR,cR,rfl,-,-⟩:=qw hown
 clear hown hB
 generalize (Qh S).length=n at *
 have hd:(decide ((n:Int)≥16))=decide (16≤n):=decide_eq_decide.2 (by omega)
 go_wp2
 go_ret
 exact⟨by first|rfl|(rw[hd];done)|simp,x2⟩
def qav (S:Sto) (v:Value):Value:=if 16≤(Qh S).length then .tuple #[v,.int .i64 0] else .tuple #[ku,.int .i64 9]
theorem XG {R:Ending→World→Prop} {a:Act} {W:World} {b:Nat} {x0 x1 x2 x3 x4 x5 x6 x7 v:Value} (h4:a.tmps[4]?.getD undef=.pointer (some ⟨b,0,none⟩)) (h5:a.tmps[5]?.getD undef=v) (hd:a.defers=[])
  (hrow:W.heap[b]?=some (.cells #[x0,x1,x2,x3,x4,x5,x6,x7] 32 (0,0))) (hR:R (.returned (.tuple #[.agg #[x0,x1,x2,x3,x4,x5,x6,x7],v])) W):bodyPost Tryz.prog Tryz.f40 R .ret a W:=by
 refine bodyPost_ret (v:=.tuple #[.agg #[x0,x1,x2,x3,x4,x5,x6,x7],v]) ?_ hd hR
 have k:=qa hrow
 simp[results,Tryz.results40,go_sem,h4,h5,k]
set_option maxHeartbeats 2000000 in
set_option maxRecDepth 100000 in
theorem qcL (A1:Option Addr) (n1 c1:Nat) (A2:Option Addr) (n2 c2:Nat) (A3:Option Addr) (n3 c3:Nat) (A4:Option Addr) (n4 c4:Nat) (gen root next:Int) (A5:Option Addr) (n5 c5:Nat) (S:Sto) (hS:qB S=true) (w:World) (h:qH w w.heap.size (.slice A1 n1 c1) (.slice A2 n2 c2) (.slice A3 n3 c3) (.slice A4 n4 c4) S) :
  Calls Tryz.prog 40 #[.agg (qC (.slice A1 n1 c1) (.slice A2 n2 c2) (.slice A3 n3 c3) (.slice A4 n4 c4) gen root next (.slice A5 n5 c5)),.int .i64 0] w
   (Ret (qav S (.agg (qC (.slice A1 n1 c1) (.slice A2 n2 c2) (.slice A3 n3 c3) (.slice A4 n4 c4) gen root next (.slice A5 n5 c5)))) w):=by
 have HR:=zH (fun W (hx:Ext w W)=>qem A1 n1 c1 A2 n2 c2 A3 n3 c3 A4 n4 c4 gen root next (.slice A5 n5 c5) S hS W (h.ext hx))
 clear h
 go_enter Tryz.func40,Tryz.ntmps40
 go_wp2_with fail
 generalize hw1:(World.alloc (World.alloc _ _) _)=w1
 have x1:Ext w w1:=by rw[←hw1];exact(Ext.alloc _ _).trans (Ext.alloc _ _)
 have rp1:w1.heap[w.heap.size]?=some (.cells (qC (.slice A1 n1 c1) (.slice A2 n2 c2) (.slice A3 n3 c3) (.slice A4 n4 c4) gen root next (.slice A5 n5 c5)) 32 (0,0)):=by rw[←hw1];exact(Below.heap_alloc _ _ _ (by simp)).trans (World.alloc_heap_at _ _ _ rfl)
 have ro1:w1.heap[w.heap.size+1]?=some (.cells (qC (.slice none 0 0) (.slice none 0 0) (.slice none 0 0) (.slice none 0 0) 0 0 0 (.slice none 0 0)) 32 (0,0)):=by rw[←hw1];exact World.alloc_heap_at _ _ _ (by simp)
 clear hw1
 refine(HR.out w1 x1).mono ?_
 rintro e w2 ⟨rfl,hB⟩
 have x2:Ext w w2:=Ext.trans x1 hB
 have rp2:=qc rp1 hB
 have ro2:=qc ro1 hB
 have kp2:=qa rp2
 have ko2:=qa ro2
 have fo2:=qd ro2
 clear hB rp1 ro1 HR
 by_cases hl:16≤(Qh S).length
 ·rw[decide_eq_true hl]
  have hi:=zH (show qav S (.agg (qC (.slice A1 n1 c1) (.slice A2 n2 c2) (.slice A3 n3 c3) (.slice A4 n4 c4) gen root next (.slice A5 n5 c5)))=_ from if_pos hl)
  replace hl:=zH hl
  go_wp2_with fail
  exact XG (b:=w.heap.size+1) rfl rfl rfl (jM ro2 _ _ _ _ _ _ _ _) ⟨by rw[hi.out];rfl,zJ x2 (by omega) _ _ _ _ _ _ _ _⟩
 ·rw[decide_eq_false hl]
  have hi:=zH (show qav S (.agg (qC (.slice A1 n1 c1) (.slice A2 n2 c2) (.slice A3 n3 c3) (.slice A4 n4 c4) gen root next (.slice A5 n5 c5)))=_ from if_neg hl)
  replace hl:=zH hl
  go_wp2_with fail
  exact XG (b:=w.heap.size+1) rfl rfl rfl (jM ro2 _ _ _ _ _ _ _ _) ⟨by rw[hi.out];rfl,zJ x2 (by omega) _ _ _ _ _ _ _ _⟩
abbrev QV (lvl:Int) (A:Option Addr) (n c:Nat) (f l:K3) (d b:Bool):Array Value:=#[.int .i64 lvl,.slice A n c,.int .u8 f.1,.int .u32 f.2.1,.int .u32 f.2.2,.int .u8 l.1,.int .u32 l.2.1,.int .u32 l.2.2,.bool d,.bool b]
abbrev vg (lvl:Int) (A:Option Addr) (n c:Nat) (f l:K3) (d b:Bool):Value:=.agg (QV lvl A n c f l d b)
def Tz:Option Value→Array Value
 |some (.agg #[a0,a1,a2,a3,a4,a5,a6,a7,a8])=>#[a0,a1,a2,a3,a4,a5,a6,a7,.bool true,a8]
 |_=>QV 0 none 0 0 (0,0,0) (0,0,0) false false
theorem qbD (lvl:Int) (A:Option Addr) (n c:Nat) (f l:K3) (b:Bool):Tz (some (zh lvl A n c f l b))=QV lvl A n c f l true b:=rfl
def jN (w:World) (sb:Nat) (f:Int→Option Value):Prop:=∃ cs,w.heap[sb]?=some (.cells cs 185 (0,0))∧cs.size=2560∧∀ a j:Nat,a<256→j<10→cs[a*10+j]?=(Tz (f a))[j]?
theorem jN.of_heap {w w':World} {sb:Nat} {f:Int→Option Value} (h:jN w sb f) (he:w'.heap[sb]?=w.heap[sb]?):jN w' sb f:=by
 obtain⟨cs,h1,h2⟩:=h
 exact⟨cs,he.trans h1,h2⟩
theorem jN.cell {w:World} {sb:Nat} {f:Int→Option Value} (h:jN w sb f) {a j:Nat} (ha:a<256) (hj:j<10):w.cell? ⟨sb,a*10+j,none⟩=(Tz (f a))[j]?:=by
 obtain⟨cs,h1,h2,h3⟩:=h
 rw[qa h1,h3 a j ha hj]
theorem jN.cells {w:World} {sb:Nat} {f:Int→Option Value} (h:jN w sb f) {a:Nat} (ha:a<256) {lvl:Int} {A:Option Addr} {n c:Nat} {fk lk:K3} {d b:Bool} (hv:Tz (f a)=QV lvl A n c fk lk d b) :
  w.cell? ⟨sb,a*10,none⟩=some (.int .i64 lvl)∧w.cell? ⟨sb,a*10+1,none⟩=some (.slice A n c)∧w.cell? ⟨sb,a*10+2,none⟩=some (.int .u8 fk.1)∧w.cell? ⟨sb,a*10+3,none⟩=some (.int .u32 fk.2.1)∧w.cell? ⟨sb,a*10+4,none⟩=some (.int .u32 fk.2.2) ∧
   w.cell? ⟨sb,a*10+5,none⟩=some (.int .u8 lk.1)∧w.cell? ⟨sb,a*10+6,none⟩=some (.int .u32 lk.2.1)∧w.cell? ⟨sb,a*10+7,none⟩=some (.int .u32 lk.2.2)∧w.cell? ⟨sb,a*10+8,none⟩=some (.bool d)∧w.cell? ⟨sb,a*10+9,none⟩=some (.bool b):=by
 refine⟨(h.cell (j:=0) ha (by omega)).trans (by rw[hv];rfl),(h.cell ha (by omega)).trans (by rw[hv];rfl),(h.cell ha (by omega)).trans (by rw[hv];rfl),(h.cell ha (by omega)).trans (by rw[hv];rfl),(h.cell ha (by omega)).trans (by rw[hv];rfl),
  (h.cell ha (by omega)).trans (by rw[hv];rfl),(h.cell ha (by omega)).trans (by rw[hv];rfl),(h.cell ha (by omega)).trans (by rw[hv];rfl),(h.cell ha (by omega)).trans (by rw[hv];rfl),(h.cell ha (by omega)).trans (by rw[hv];rfl)⟩
theorem jN.some_cells {w:World} {sb:Nat} {f:Int→Option Value} (h:jN w sb f) {a:Nat} (ha:a<256):∃ u0 u1 u2 u3 u4 u5 u6 u7 u8 u9:Value,w.cell? ⟨sb,a*10,none⟩=some u0∧w.cell? ⟨sb,a*10+1,none⟩=some u1∧w.cell? ⟨sb,a*10+2,none⟩=some u2∧w.cell? ⟨sb,a*10+3,none⟩=some u3∧w.cell? ⟨sb,a*10+4,none⟩=some u4∧w.cell? ⟨sb,a*10+5,none⟩=some u5∧w.cell? ⟨sb,a*10+6,none⟩=some u6∧w.cell? ⟨sb,a*10+7,none⟩=some u7∧w.cell? ⟨sb,a*10+8,none⟩=some u8∧w.cell? ⟨sb,a*10+9,none⟩=some u9:=by
 obtain⟨cs,h1,h2,_⟩:=h
 have key:∀ j,j<10→w.cell? ⟨sb,a*10+j,none⟩=some (cs[a*10+j]!):=fun j hj=>by
  rw[qa h1,Array.getElem?_eq_getElem (by omega),getElem!_pos cs (a*10+j) (by omega)]
 exact⟨_,_,_,_,_,_,_,_,_,_,key 0 (by omega),key 1 (by omega),key 2 (by omega),key 3 (by omega),key 4 (by omega),key 5 (by omega),key 6 (by omega),key 7 (by omega),key 8 (by omega),key 9 (by omega)⟩
theorem jN.frozen {w:World} {sb:Nat} {f:Int→Option Value} (h:jN w sb f) (i:Nat):w.frozen? ⟨sb,i,none⟩=false:=by
 obtain⟨cs,h1,_⟩:=h
 exact qd h1 i
def set10 (w:World) (b o:Nat) (x0 x1 x2 x3 x4 x5 x6 x7 x8 x9:Value):World:=(((((((((w.setCell ⟨b,o,none⟩ x0).setCell ⟨b,o+1,none⟩ x1).setCell ⟨b,o+2,none⟩ x2).setCell ⟨b,o+3,none⟩ x3).setCell ⟨b,o+4,none⟩ x4).setCell ⟨b,o+5,none⟩ x5).setCell ⟨b,o+6,none⟩ x6).setCell ⟨b,o+7,none⟩ x7).setCell ⟨b,o+8,none⟩ x8).setCell ⟨b,o+9,none⟩ x9
theorem jN.put {w:World} {sb:Nat} {f:Int→Option Value} (h:jN w sb f) {a:Nat} (ha:a<256) {lvl:Int} {A:Option Addr} {n c:Nat} {fk lk:K3} {b:Bool} :
  jN (set10 w sb (a*10) (.int .i64 lvl) (.slice A n c) (.int .u8 fk.1) (.int .u32 fk.2.1) (.int .u32 fk.2.2) (.int .u8 lk.1) (.int .u32 lk.2.1) (.int .u32 lk.2.2) (.bool true) (.bool b)) sb (fun r=>if r=(a:Int) then some (zh lvl A n c fk lk b) else f r):=by
 obtain⟨cs,h1,h2,h3⟩:=h
 refine⟨_,qh (qh (qh (qh (qh (qh (qh (qh (qh (qh h1 (a*10) _) (a*10+1) _) (a*10+2) _) (a*10+3) _) (a*10+4) _) (a*10+5) _) (a*10+6) _) (a*10+7) _) (a*10+8) _) (a*10+9) _,by simp[h2],fun e j he hj=>?_⟩
 show _=(Tz (if (e:Int)=(a:Int) then some (zh lvl A n c fk lk b) else f e))[j]?
 by_cases hea:e=a
 ·subst hea
  rw[if_pos rfl,qbD]
  have:j=0∨j=1∨j=2∨j=3∨j=4∨j=5∨j=6∨j=7∨j=8∨j=9:=by omega
  rcases this with rfl|rfl|rfl|rfl|rfl|rfl|rfl|rfl|rfl|rfl
  all_goals
   simp only[Array.getElem?_setIfInBounds,Array.size_setIfInBounds,h2]
   repeat (first|rw[if_pos trivial]|rw[if_pos (by omega)]|rw[if_neg (by omega)])
   try rfl
 ·rw[if_neg (by omega),←h3 e j he hj]
  simp only[Array.getElem?_setIfInBounds,Array.size_setIfInBounds,h2]
  repeat rw[if_neg (by omega)]
theorem grown10 {w:World} {b o:Nat} (x0 x1 x2 x3 x4 x5 x6 x7 x8 x9:Value):w.grownBy (set10 w b o x0 x1 x2 x3 x4 x5 x6 x7 x8 x9) (some b):=
 qk.trans (qk.trans (qk.trans (qk.trans (qk.trans (qk.trans (qk.trans (qk.trans (qk.trans qk))))))))
structure KP where
 S:Sto
 B:Nat
 lo:Nat
 kb:Nat
 sb:Nat
 v1:Value
 v2:Value
 v3:Value
 v4:Value
structure Ken (p:KP) (w:World) (f:Int→Option Value):Prop where
 row:w.heap[p.kb]?=some (.cells #[p.v1,p.v2,p.v3,p.v4,.slice (some ⟨p.sb,0,none⟩) 256 256] 183 (0,0))
 arr:jN w p.sb f
 known:Ty p.S p.lo w f
 sto:qH w p.B p.v1 p.v2 p.v3 p.v4 p.S
 low:p.kb<p.lo∧p.sb<p.lo∧p.kb≠p.sb∧p.lo≤w.heap.size∧p.B≤p.kb∧p.B≤p.sb
 may:qB p.S=true
theorem Ken.ext {p:KP} {w w':World} {f:Int→Option Value} (h:Ken p w f) (hx:Ext w w'):Ken p w' f where
 row:=qc h.row hx
 arr:=h.arr.of_heap (hx.block _ (by have:=h.low;omega))
 known:=h.known.keep hx.size fun q hq=>Below.cell hx hq
 sto:=h.sto.keep fun q hq=>Below.cell hx (by have:=h.low;omega)
 low:=by have:=h.low;have:=hx.size;omega
 may:=h.may
theorem Ken.after {p:KP} {w w':World} {f g:Int→Option Value} (h:Ken p w f) (hgr:Zf f g) (hm:jN w' p.sb g) (hg:w.grownBy w' (some p.sb)) (hn:vV p.S w f g w'):Ken p w' g where
 row:=(hg.block _ (by have:=h.low;omega) (fun e=>by have:=h.low;simp at e;omega)).trans h.row
 arr:=hm
 known:=by
  intro a v hv
  rcases hf:f a with _|u
  ·exact(hn a v hv hf).keep (by have:=h.low;omega) (Nat.le_refl _) (fun _ _ _=>rfl) (fun _ h=>h)
  ·have:=hgr a u hf
   rw[hv] at this
   cases this
   exact(h.known a v hf).keep (Nat.le_refl _) hg.size (fun q h1 hq=>World.cell?_of_block (hg.block q.block hq (fun e=>by have:=h.low;simp at e;omega))) hgr.some_
 sto:=h.sto.keep fun q hq=>World.cell?_of_block (hg.block q.block (by have:=h.low;omega) (fun e=>by have:=h.low;simp at e;omega))
 low:=by have:=h.low;have:=hg.size;omega
 may:=h.may
def qai (p:KP) (L r:Int) (v:Value) (f:Int→Option Value):Prop:=∃ (lvl:Int) (A:Option Addr) (n c:Nat) (fk lk:K3) (d:Bool),v=vg lvl A n c fk lk d (okL p.S L r)∧(okL p.S L r=true→d=true∧f r=some (zh lvl A n c fk lk true))
def GoneP (p:KP) (h:Nat) (A:Option Addr) (c:Nat) (xs:List It) (v:Value) (f:Int→Option Value):Prop:=∃ (fk lk:K3) (b:Bool),v=vg h A xs.length c fk lk true b∧Zz p.S h xs fk lk b∧(b=true→0<h→∀ y∈xs,(f y.r).isSome=true)
def XR (p:KP) (f:Int→Option Value) (φ:Value→(Int→Option Value)→Prop) (w:World) (e:Ending) (w':World):Prop:=∃ v g,e=.returned v∧φ v g∧Zf f g∧jN w' p.sb g∧w.grownBy w' (some p.sb)∧vV p.S w f g w'
theorem XR.same {p:KP} {f:Int→Option Value} {φ:Value→(Int→Option Value)→Prop} {w w':World} {v:Value} (h:Ken p w f) (hx:Ext w w') (hφ:φ v f):XR p f φ w (.returned v) w':=
 ⟨v,f,rfl,hφ,Zf.refl _,(h.ext hx).arr,Qo hx _,vV.refl _ _ _ _⟩
def GoneC (p:KP) (h:Nat):Prop:=∀ (xs:List It) (A:Option Addr) (c:Nat) (w:World) (f:Int→Option Value),qR h xs=true→(∀ x∈xs,Yk x∧itB x.r x.val.length=true)→zU p.lo w (.slice A xs.length c) xs→Ken p w f →
 Calls Tryz.prog 133 #[.pointer (some ⟨p.kb,0,none⟩),Zv h A xs.length c] w (XR p f (GoneP p h A c xs) w)
def GN (p:KP) (L:Int) (root:Bool):Prop:=∀ (r:Int) (w:World) (f:Int→Option Value),Ken p w f →
 Calls Tryz.prog 106 #[.pointer (some ⟨p.kb,0,none⟩),.int .i64 r,.int .i64 L,.bool root] w (XR p f (qai p L r) w)
theorem Rd.keptInt {w w':World} {size n:Nat} {A:Option Addr} {us:List Value} (h:Rd w w.heap.size size A n us) (h0:0<n→∃ u,us[0]?=some u∧∀ k:Int,u≠.int .i64 k) (hs:w.heap.size≤w'.heap.size)
  (hk:∀ b,b<w.heap.size→w'.heap[b]?=w.heap[b]?∨∃ cs t,w.heap[b]?=some (.cells cs t (0,0))∧∀ (i:Nat) u,cs[i]?=some u→∃ k:Int,u=.int .i64 k):Rd w' w'.heap.size size A n us:=by
 refine⟨h.1,fun hn=>?_⟩
 obtain⟨b,off,rfl,hb,hcell⟩:=h.2 hn
 refine⟨b,off,rfl,Nat.lt_of_lt_of_le hb hs,fun j x hx=>?_⟩
 rcases hk b hb with e|⟨cs,t,h1,h2⟩
 ·exact(World.cell?_of_block (a:=⟨b,off+j,none⟩) e).trans (hcell j x hx)
 ·obtain⟨u,hu,hne⟩:=h0 hn
  have h3:=hcell 0 u hu
  rw[qa h1] at h3
  obtain⟨k,e⟩:=h2 _ u h3
  exact absurd e (hne k)
theorem zU.keptInt {lo:Nat} {w w':World} {v:Value} {xs:List It} (h:zU lo w v xs) (hs:w.heap.size≤w'.heap.size)
  (hk:∀ b,b<w.heap.size→w'.heap[b]?=w.heap[b]?∨∃ cs t,w.heap[b]?=some (.cells cs t (0,0))∧∀ (i:Nat) u,cs[i]?=some u→∃ k:Int,u=.int .i64 k):zU lo w' v xs:=by
 obtain⟨ps,h1,⟨A,c,e,h2,h3,h4⟩,h5,h6,h7⟩:=h
 refine⟨ps,h1,⟨A,c,e,h2,h3,h4.keptInt (fun hn=>?_) hs hk⟩,fun p hp=>⟨(h5 p hp).1,?_⟩,h6,h7⟩
 ·rcases ps with _|⟨p,r⟩
  ·subst h1;simp at hn
  ·exact⟨_,rfl,fun k e=>by cases e⟩
 ·obtain⟨_,A',c',e',g2,g3,g4⟩:=h5 p hp
  refine⟨A',c',e',g2,g3,g4.keptInt (fun hn=>?_) hs hk⟩
  rcases hl:p.1.val with _|⟨x,r⟩
  ·rw[hl] at hn;simp at hn
  ·exact⟨_,rfl,fun k e=>by cases e⟩
def Tt (w:World) (b:Nat):Prop:=∃ cs t,w.heap[b]?=some (.cells cs t (0,0))∧∀ (i:Nat) u,cs[i]?=some u→∃ k:Int,u=.int .i64 k
theorem Ken.kept {p:KP} {w w':World} {f:Int→Option Value} {rb mb:Nat} (h:Ken p w f) (hk:jZ rb mb w w') (h1:Tt w rb) (h2:Tt w mb) (h3:p.kb≠rb∧p.kb≠mb∧p.sb≠rb∧p.sb≠mb∧p.B≤rb∧p.B≤mb):Ken p w' f where
 row:=(hk.block _ (by have:=h.low;omega) h3.1 h3.2.1).trans h.row
 arr:=h.arr.of_heap (hk.block _ (by have:=h.low;omega) h3.2.2.1 h3.2.2.2.1)
 known:=by
  intro a v hv
  obtain⟨n,lvl,xs,A,c,fk,lk,b,q1,q2,q3,q4,q5,q6,q7,q8⟩:=h.known a v hv
  refine⟨n,lvl,xs,A,c,fk,lk,b,q1,q2,q3,q4,q5,q6.keptInt hk.size (fun b hb=>?_),q7,q8⟩
  by_cases e1:b=rb
  ·subst e1;exact .inr h1
  ·by_cases e2:b=mb
   ·subst e2;exact .inr h2
   ·exact .inl (hk.block b hb e1 e2)
 sto:=h.sto.keep fun q hq=>World.cell?_of_block (hk.block q.block (by have:=h.low;omega) (by omega) (by omega))
 low:=by have:=h.low;have:=hk.size;omega
 may:=h.may
theorem ZV {w:World} {b:Nat} {f:Nat→Nat} {t:TypeId} (h:w.heap[b]?=some (.cells (zk f).toArray t (0,0))):Tt w b:=
 ⟨_,t,h,fun i u hu=>⟨_,(qaj (f:=f) (by simpa using hu)).2⟩⟩
theorem qaZ (f:Nat→Nat) {a:Nat} (ha:a<256) (n:Nat):(zk f).toArray.setIfInBounds a (.int .i64 (n:Int))=(zk fun b=>if b=a then n else f b).toArray:=by
 apply Array.ext_getElem?
 intro i
 rw[Array.getElem?_setIfInBounds,List.getElem?_toArray,List.getElem?_toArray]
 by_cases e:a=i
 ·subst e
  rw[if_pos rfl,if_pos (by simp[zk];exact ha),Zn _ ha,if_pos rfl]
 ·rw[if_neg e]
  rcases Nat.lt_or_ge i 256 with hi|hi
  ·rw[Zn _ hi,Zn _ hi,if_neg (fun x=>e x.symm)]
  ·rw[List.getElem?_eq_none (by simp[zk];exact hi),List.getElem?_eq_none (by simp[zk];exact hi)]
end Go.Proofs.YtckhnchnbeoogaaGreat
