/- Texts DTwin, Read8, Bench, SetAll, RTwin, joined. -/
import Derived.Laws.MakeOwn
import Derived.Test.YtpbniokljofedaaGreatZA03
import Derived.Test.YtpbniokljofedaaGreatZA05
import Derived.Test.YtpbniokljofedaaGreatZA08
set_option linter.unusedSimpArgs false
set_option linter.unusedVariables false
namespace Go.Proofs.YtpbniokljofedaaGreat
open Go.RowKit
def Xe (lo n c:Nat) (ty:TypeId) (cs:Array Value):qO:=⟨Nat,fun b=>.slice (some ⟨b,0,none⟩) n c,fun b W=>W.heap[b]?=some (.cells cs ty (0,0))∧lo≤b⟩
theorem QF (lo n c:Nat) (ty:TypeId) (cs:Array Value) (b:Nat):(Xe lo n c ty cs).f b=.slice (some ⟨b,0,none⟩) n c:=rfl
theorem Vm (lo n c:Nat) (ty:TypeId) (cs:Array Value):∀ p,qA ql ((Xe lo n c ty cs).φ p):=fun p W W' he h=>⟨qc h.1 he,h.2⟩
def Xt (hb g o n:Nat) (cur:Array Value) (l:List UInt8):qO:=⟨Nat,fun _=>.slice (some ⟨g,o,none⟩) l.length l.length,fun o' W=>(0<n-l.length→o'=o+l.length)∧(n-l.length=0→o'=o)∧UW hb g o' (n-l.length) (Zb cur o l) W⟩
theorem zJ (hb g o n:Nat) (cur:Array Value) (l:List UInt8) (p:Nat):(Xt hb g o n cur l).f p=.slice (some ⟨g,o,none⟩) l.length l.length:=rfl
theorem YC (hb g o n:Nat) (cur:Array Value) (l:List UInt8):∀ p,qA ql ((Xt hb g o n cur l).φ p):=fun p W W' he ⟨h1,h2,h3⟩=>⟨h1,h2,⟨qc h3.box he,qc h3.row he,h3.ne,h3.fit,h3.few⟩⟩
theorem qcZ {T:Nat} (hT:T≤281474976710656) (w:World):(Instr.makeSlice 257 (.int .i64 (T:Int)) (.int .i64 (T:Int))).run Tryz.prog w=.ok (.slice (some ⟨w.heap.size,0,none⟩) T T) (w.alloc (.cells (madeCells #[.int .u8 0] T) 5)):=by
 obtain⟨i0,hi,hz0,hz1,hz2⟩:=info_parts Tryz.info_u8
 have h:=run_make (P:=Tryz.prog) w 257 5 i0 _ Tryz.underlying257 hi hz0 .i64 .i64 (T:Int) (T:Int) (by omega) (by omega) (by rw[hz2];omega) (by omega)
 rw[hz1,Int.toNat_natCast,Nat.mul_one] at h
 exact h
theorem Ya {n:Nat} (hn:n<1000000) (w:World):(Instr.makeSlice 22 (.int .i64 (n:Int)) (.int .i64 (n:Int))).run Tryz.prog w=.ok (.slice (some ⟨w.heap.size,0,none⟩) n n) (w.alloc (.cells (madeCells #[.slice none 0 0] n) 26)):=by
 obtain⟨i0,hi,hz0,hz1,hz2⟩:=info_parts Tryz.info_bytes
 have h:=run_make (P:=Tryz.prog) w 22 26 i0 _ Tryz.underlying22 hi hz0 .i64 .i64 (n:Int) (n:Int) (by omega) (by omega) (by rw[hz2];omega) (by omega)
 rw[hz1,Int.toNat_natCast,Nat.mul_one] at h
 exact h
theorem GL {n:Nat} (hn:n<1000000) (w:World):(Instr.makeSlice 23 (.int .i64 (n:Int)) (.int .i64 ((n:Int)+1))).run Tryz.prog w=.ok (.slice (some ⟨w.heap.size,0,none⟩) n (n+1)) (w.alloc (.cells (madeCells #[.int .i64 0,.slice none 0 0] ((n+1)*2)) 130)):=by
 obtain⟨i0,hi,hz0,hz1,hz2⟩:=info_parts Tryz.info_write
 have h:=run_make (P:=Tryz.prog) w 23 130 i0 _ Tryz.underlying23 hi hz0 .i64 .i64 (n:Int) ((n:Int)+1) (by omega) (by omega) (by rw[hz2];omega) (by omega)
 rw[hz1,Int.toNat_natCast,show ((n:Int)+1).toNat=n+1 by omega] at h
 exact h
structure TwI (bs:List (List UInt8)) (ws:List (Int×List UInt8)) (T lo:Nat) (w5:World) (hb g BB WW ob:Nat) (i:Value) (wr:World):Prop where
 ex:∃ k:Nat,k≤bs.length∧i=.int .i64 (k:Int)∧TwS bs ws T lo w5 hb g BB WW ob k 0 (jm (bs.take k)) wr
structure TwJ (bs:List (List UInt8)) (ws:List (Int×List UInt8)) (T lo:Nat) (w5:World) (hb g BB WW ob:Nat) (i:Value) (wr:World):Prop where
 ex:∃ k:Nat,k≤ws.length∧i=.int .i64 (k:Int)∧TwS bs ws T lo w5 hb g BB WW ob bs.length k (jm bs+jm ((ws.take k).map (·.2))) wr
theorem one_at {c:Nat} {hh:qO}:∀ i h,qG [(c,hh)] i=some h→i=c:=by
 intro i h e
 simp only[qG] at e
 split at e
 ·assumption
 ·cases e
set_option maxHeartbeats 4000000 in
set_option maxRecDepth 100000 in
theorem qel (A1:Option Addr) (n1 c1:Nat) (A2:Option Addr) (n2 c2:Nat) (bs:List (List UInt8)) (ws:List (Int×List UInt8)) (hbl:bs.length<1000000) (hwl:ws.length<1000000) (hbe:∀ l∈bs,l.length<1000000) (hwe:∀ p∈ws,p.2.length<1000000) (w:World)
  (hb:Bls w w.heap.size (.slice A1 n1 c1) bs) (hw:Wrs w w.heap.size (.slice A2 n2 c2) ws) :
  Calls Tryz.prog 171 #[kz A1 n1 c1 A2 n2 c2] w (fun e W=>∃ BB WW g,e=.returned (kz (some ⟨BB,0,none⟩) bs.length bs.length (some ⟨WW,0,none⟩) ws.length (ws.length+1))∧ZB w.heap.size bs ws BB WW g W∧Below w.heap.size w W):=by
 obtain⟨e1,hc1,hm1,hA1⟩:=hb.at_
 obtain⟨e2,hc2,hm2,hA2⟩:=hw.at_
 subst e1
 subst e2
 have HB:=zH hb
 have HW:=zH hw
 have hTb:jm bs≤1000000000000:=Nat.le_trans (qdo hbe) (by omega)
 have hTw:jm (ws.map (·.2))≤1000000000000:=Nat.le_trans (qdo (fun l hl=>by obtain⟨p,hp,rfl⟩:=List.mem_map.1 hl;exact hwe p hp)) (by rw[List.length_map];omega)
 clear hb hw hm1 hm2
 go_enter Tryz.func171,Tryz.ntmps171
 go_wp2_with fail
 generalize hw1:(World.alloc (World.alloc _ _) _)=w1
 have x1:Ext w w1:=by rw[←hw1];exact(Ext.alloc _ _).trans (Ext.alloc _ _)
 have r1:w1.heap[w.heap.size]?=some (.cells #[.slice A1 bs.length c1,.slice A2 ws.length c2] 25 (0,0)):=by rw[←hw1];exact(Below.heap_alloc _ _ _ (by simp)).trans (World.alloc_heap_at _ _ _ rfl)
 have q1:w1.heap[w.heap.size+1]?=some (.cells #[.slice none 0 0,.slice none 0 0] 25 (0,0)):=by rw[←hw1];exact World.alloc_heap_at _ _ _ (by simp)
 have z1:w1.heap.size=w.heap.size+2:=by rw[←hw1];simp
 clear hw1
 go_wp2_with fail
 go_loopw [3,17] (fun all i wr=>∃ k:Nat,k≤bs.length∧i=.int .i64 (k:Int)∧all=.int .i64 ((jm (bs.take k):Nat):Int)∧Ext w1 wr) (fun _ i _=>bs.length-(intOf i).toNat)
 case atStart=>exact⟨0,Nat.zero_le _,rfl,rfl,Ext.refl _⟩
 case round =>
  obtain⟨k,hk,rfl,rfl,hE⟩:=hrel
  have xw:Below w.heap.size w wr:=Ext.trans x1 hE
  have rr:=qc r1 hE
  have kr:=qa rr
  by_cases hlt:k<bs.length
  ·obtain⟨b1,o1,rfl,hb1⟩:=hA1 (by omega)
   obtain⟨A',c',hc,_⟩:=(HB.out.below xw).get k hlt
   have hsn:=kS hlt
   have hle:=Js bs (k+1)
   generalize bs[k].length=m at *
   generalize jm (bs.take k)=q at *
   have hwq:=zH (IntWalk.wrap64_in ((q:Int)+(m:Int)) (by omega))
   have hwk:=zH (IntWalk.wrap64_in ((k:Int)+1) (by omega))
   go_wp2_with fail
   refine⟨⟨k+1,by omega,by push_cast;rfl,by rw[hsn];push_cast;rfl,hE⟩,?_⟩
   simp[intOf]
   omega
  ·obtain rfl:k=bs.length:=by omega
   rw[List.take_length]
   generalize hwm:wr=wm at *
   clear hwm kr rr
   have r2:=qc r1 hE
   have q2:=qc q1 hE
   have k2:=qa r2
   obtain⟨tb,htb⟩:∃ tb,tb=jm bs:=⟨_,rfl⟩
   obtain⟨tw,htw⟩:∃ tw,tw=jm (ws.map (·.2)):=⟨_,rfl⟩
   rw[←htb] at hTb ⊢
   rw[←htw] at hTw
   replace htb:=zH htb
   replace htw:=zH htw
   go_wp2_with fail
   go_loopw [3,29] (fun all i wr=>∃ k:Nat,k≤ws.length∧i=.int .i64 (k:Int)∧all=.int .i64 ((tb+jm ((ws.take k).map (·.2)):Nat):Int)∧Ext wm wr) (fun _ i _=>ws.length-(intOf i).toNat)
   case atStart=>exact⟨0,Nat.zero_le _,rfl,rfl,Ext.refl _⟩
   case round =>
    obtain⟨k,hk,rfl,rfl,hE2⟩:=hrel
    have xw2:Below w.heap.size w wr:=Ext.trans xw hE2
    have rr:=qc r2 hE2
    have kr:=qa rr
    clear k2
    by_cases hlt:k<ws.length
    ·obtain⟨b2,o2,rfl,hb2⟩:=hA2 (by omega)
     obtain⟨A',c',ha,hc,_⟩:=(HW.out.below xw2).get k hlt
     have hsn:jm ((ws.take (k+1)).map (·.2))=jm ((ws.take k).map (·.2))+ws[k].2.length:=by
      rw[List.map_take,List.map_take,kS (by rw[List.length_map];exact hlt),List.getElem_map]
     have hle:jm ((ws.take (k+1)).map (·.2))≤tw:=by rw[htw.out,List.map_take];exact Js _ _
     generalize ws[k].2.length=m at *
     generalize ws[k].1=pn at *
     generalize jm ((ws.take k).map (·.2))=q at *
     have hwq:=zH (IntWalk.wrap64_in (((tb+q:Nat):Int)+(m:Int)) (by omega))
     have hwk:=zH (IntWalk.wrap64_in ((k:Int)+1) (by omega))
     go_wp2_with fail
     refine⟨⟨k+1,by omega,by push_cast;rfl,by rw[hsn];push_cast;rw[Int.add_assoc],hE2.trans (Ext.alloc _ _)⟩,?_⟩
     simp[intOf]
     omega
    ·obtain rfl:k=ws.length:=by omega
     rw[List.take_length,←htw.out]
     have hmk:=qcZ (T:=tb+tw) (by omega)
     obtain⟨T,hT⟩:∃ T,T=tb+tw:=⟨_,rfl⟩
     rw[←hT] at hmk ⊢
     have hT2:T≤2000000000000:=by omega
     replace hT:=zH hT
     go_wp2_with fail
     generalize hwn:World.alloc (World.alloc _ _) _=wn
     have x3:Ext wr wn:=by rw[←hwn];exact(Ext.alloc _ _).trans (Ext.alloc _ _)
     have g3:wn.heap[wr.heap.size]?=some (.cells (madeCells #[.int .u8 0] T) 5 (0,0)):=by rw[←hwn];exact(Below.heap_alloc _ _ _ (by simp)).trans (World.alloc_heap_at _ _ _ rfl)
     have b3:wn.heap[wr.heap.size+1]?=some (.cells #[.slice (some ⟨wr.heap.size,0,none⟩) T T] 257 (0,0)):=by rw[←hwn];exact World.alloc_heap_at _ _ _ (by simp)
     have zn0:wn.heap.size=wr.heap.size+2:=by rw[←hwn];simp
     clear hwn hmk
     have r3:=qc rr x3
     have q3:=qc (qc q2 hE2) x3
     have xw3:Ext w wn:=Ext.trans xw2 x3
     have k3:=qa r3
     have zr:=(zG.1 q2).1
     have zr2:=hE2.size
     have zn:wn.heap.size=wr.heap.size+2:=zn0
     clear kr rr r2 q2 r1 q1 x1 hE hE2 xw xw2
     generalize wr.heap.size=s0 at g3 b3 zn zr2 ⊢
     have zs0:w.heap.size+1<s0:=by omega
     clear zr zr2 zn0
     have g1:∀ W,ql.r wn W→∀ i,W.cell? ⟨w.heap.size,i,none⟩=#[.slice A1 bs.length c1,.slice A2 ws.length c2][i]?:=fun W h=>qa (qc r3 h)
     have hmkB:=Ya hbl
     have hmkW:=GL hwl
     have hi1:=zH (IntWalk.i64_in ((ws.length:Int)+1) (by omega))
     have hwm1:wrap64 ((ws.length:Int)+1)=(ws.length:Int)+1:=IntWalk.wrap64_in _ (by omega)
     go_wp2_with fail
     refine qm (by kernel_rfl) ?_
     refine qR (w:=wn) ql (qG [(3,Xe wn.heap.size bs.length bs.length 26 (madeCells #[.slice none 0 0] bs.length)),(11,Xe wn.heap.size ws.length (ws.length+1) 130 (madeCells #[.int .i64 0,.slice none 0 0] ((ws.length+1)*2))),(13,jg wn.heap.size 25 #[.slice none 0 0,.slice none 0 0])])
      [true,true,true,true,true,true,true,true,true,true,true,true,true,true] 1 (by kernel_rfl) (by kernel_rfl) (by kernel_rfl) (by kernel_rfl) (by kernel_rfl) (by kernel_rfl) (by kernel_rfl) ?st (Rel.drew _ _) ?walk
     case st=>exact qk (by simp only[List.forall_mem_cons];exact⟨Vm _ _ _ _ _,Vm _ _ _ _ _,fun p=>Qw (Zt _ _ _ p),fun _ h=>by cases h⟩)
     case walk =>
      intro K hK
      dsimp only[qp]
      repeat ((first|(refine qd ?_ (by rfl) (by rfl) (fun W hW _=>⟨W,?_,Rel.refl _ W⟩) ?_;rotate_left;(first|(go_simp;with_reducible rfl)|(go_simp;done)))|(refine qh (by rfl) ?_));try simp only[Act.put,qi,qe,qb,qf,QF,zJ,qb,zA,zB,zC])
      refine qy (Xe wn.heap.size bs.length bs.length 26 (madeCells #[.slice none 0 0] bs.length)) (by rfl) (by rfl) (fun W hW _=>?_) (fun (BB:Nat)=>?_)
      ·have hW:Ext wn W:=hW
       refine Zs (u:=.slice (some ⟨W.heap.size,0,none⟩) bs.length bs.length) (w':=W.alloc (.cells (madeCells #[.slice none 0 0] bs.length) 26)) ?_ ⟨W.heap.size,rfl,⟨World.alloc_heap_at _ _ _ rfl,hW.size⟩,Ext.alloc _ _⟩
       go_simp
      simp only[Act.put,qi,qe,qb,qf,QF,zJ,qb,zA,zB,zC]
      repeat ((first|(refine qd ?_ (by rfl) (by rfl) (fun W hW _=>⟨W,?_,Rel.refl _ W⟩) ?_;rotate_left;(first|(go_simp;with_reducible rfl)|(go_simp;done)))|(refine qh (by rfl) ?_));try simp only[Act.put,qi,qe,qb,qf,QF,zJ,qb,zA,zB,zC])
      refine qy (Xe wn.heap.size ws.length (ws.length+1) 130 (madeCells #[.int .i64 0,.slice none 0 0] ((ws.length+1)*2))) (by rfl) (by rfl) (fun W hW _=>?_) (fun (WW:Nat)=>?_)
      ·have hW:Ext wn W:=hW
       refine Zs (u:=.slice (some ⟨W.heap.size,0,none⟩) ws.length (ws.length+1)) (w':=W.alloc (.cells (madeCells #[.int .i64 0,.slice none 0 0] ((ws.length+1)*2)) 130)) ?_ ⟨W.heap.size,rfl,⟨World.alloc_heap_at _ _ _ rfl,hW.size⟩,Ext.alloc _ _⟩
       go_simp
       rw[hi1.out,hmkW]
       rfl
      simp only[Act.put,qi,qe,qb,qf,QF,zJ,qb,zA,zB,zC]
      repeat ((first|(refine qd ?_ (by rfl) (by rfl) (fun W hW _=>⟨W,?_,Rel.refl _ W⟩) ?_;rotate_left;(first|(go_simp;with_reducible rfl)|(go_simp;done)))|(refine qh (by rfl) ?_));try simp only[Act.put,qi,qe,qb,qf,QF,zJ,qb,zA,zB,zC])
      refine qy (jg wn.heap.size 25 #[.slice none 0 0,.slice none 0 0]) (by rfl) (by rfl) (fun W hW _=>?_) (fun (ob:Nat)=>?_)
      ·have hW:Ext wn W:=hW
       refine jh ?_ hW.size
       go_simp
      simp only[Act.put,qi,qe,qb,qf,QF,zJ,qb,zA,zB,zC]
      repeat ((first|(refine qd ?_ (by rfl) (by rfl) (fun W hW _=>⟨W,?_,Rel.refl _ W⟩) ?_;rotate_left;(first|(go_simp;with_reducible rfl)|(go_simp;done)))|(refine qh (by rfl) ?_));try simp only[Act.put,qi,qe,qb,qf,QF,zJ,qb,zA,zB,zC])
      refine qt (hK _ _ fun W hW hF=>?_)
      have hBB:W.heap[BB]?=some (.cells (madeCells #[.slice none 0 0] bs.length) 26 (0,0))∧wn.heap.size≤BB:=(hF 3).1
      have hWW:W.heap[WW]?=some (.cells (madeCells #[.int .i64 0,.slice none 0 0] ((ws.length+1)*2)) 130 (0,0))∧wn.heap.size≤WW:=(hF 11).1
      have hob:W.heap[ob]?=some (.cells #[.slice none 0 0,.slice none 0 0] 25 (0,0))∧wn.heap.size≤ob:=(hF 13).1
      have hW:Ext wn W:=hW
      have ko:=qa hob.1
      have fo:=qg hob.1
      clear hF hK g1 hmkB hmkW hwm1 k3
      dsimp only[List.drop,List.length_cons,List.length_nil]
      go_wp2
      refine Qn ?_
      have rob:=qj (qj hob.1 0 (.slice (some ⟨BB,0,none⟩) bs.length bs.length)) 1 (.slice (some ⟨WW,0,none⟩) ws.length (ws.length+1))
      have st:∀ b,b≠ob→((W.setCell ⟨ob,0,none⟩ (.slice (some ⟨BB,0,none⟩) bs.length bs.length)).setCell ⟨ob,1,none⟩ (.slice (some ⟨WW,0,none⟩) ws.length (ws.length+1))).heap[b]?=W.heap[b]?:=fun b hb=>(Below.heap_setCell _ _ _ _ hb).trans (Below.heap_setCell _ _ _ _ hb)
      have n1:BB≠ob:=qH hBB.1 hob.1 (by decide)
      have n2:WW≠ob:=qH hWW.1 hob.1 (by decide)
      have hob2:=hob.2
      have B5:Below s0 wn ((W.setCell ⟨ob,0,none⟩ (.slice (some ⟨BB,0,none⟩) bs.length bs.length)).setCell ⟨ob,1,none⟩ (.slice (some ⟨WW,0,none⟩) ws.length (ws.length+1))):=Below.setCell (Below.setCell (Below.mono hW (by omega)) (p:=⟨ob,0,none⟩) (by show s0≤ob;omega) _) (p:=⟨ob,1,none⟩) (by show s0≤ob;omega) _
      have T0:TwS bs ws T s0 wn (s0+1) s0 BB WW ob 0 0 0 ((W.setCell ⟨ob,0,none⟩ (.slice (some ⟨BB,0,none⟩) bs.length bs.length)).setCell ⟨ob,1,none⟩ (.slice (some ⟨WW,0,none⟩) ws.length (ws.length+1))):=
       ⟨B5,⟨by omega,by omega,by omega,by omega,by omega⟩,rob,⟨0,T,_,⟨(st _ (by omega)).trans (qc b3 hW),(st _ (by omega)).trans (qc g3 hW),by omega,by rw[size_madeCells];omega,by omega⟩,Nat.le_refl _,fun _=>rfl,by omega,size_madeCells _ _⟩,
        ⟨_,(st _ n1).trans hBB.1,size_madeCells _ _,fun _ _ _ h=>by omega⟩,⟨_,(st _ n2).trans hWW.1,size_madeCells _ _,fun _ _ _ h=>by omega⟩⟩
      generalize World.setCell (World.setCell W _ _) _ _=w6 at *
      clear n1 n2 hob2 rob st hob hWW hBB hW g3 b3 ko fo
      have r6:=(B5.block w.heap.size (by omega)).trans r3
      have q6:=(B5.block (w.heap.size+1) (by omega)).trans q3
      have xw6:Below w.heap.size w w6:=Below.trans xw3 (Below.mono B5 (by omega))
      have k6:=qa r6
      have I0:TwI bs ws T s0 wn (s0+1) s0 BB WW ob (.int .i64 0) w6:=⟨0,Nat.zero_le _,rfl,T0⟩
      replace I0:=zH I0
      have r3':=zH r3
      have q3':=zH q3
      clear B5 T0 r3 q3 x3 r6
      go_wp2_with fail
      go_loopw [57] (fun i wr=>TwI bs ws T s0 wn (s0+1) s0 BB WW ob i wr) (fun i _=>bs.length-(intOf i).toNat)
      case atStart=>exact I0.out
      case round =>
       obtain⟨k,hk,rfl,hTS⟩:=hrel.ex
       clear hrel I0 k6
       have xwr:Below w.heap.size w wr:=Below.trans xw3 (Below.mono hTS.below (by omega))
       have rr:=(hTS.below.block w.heap.size (by omega)).trans r3'.out
       have kr:=qa rr
       by_cases hlt:k<bs.length
       ·have hlt':=hlt
        obtain⟨b1,o1,rfl,hb1⟩:=hA1 (by omega)
        obtain⟨A',c',hc,hby⟩:=(HB.out.below xwr).get k hlt
        have hsn:=kS hlt
        have hle:=Js bs (k+1)
        have hgk:=List.getElem?_eq_getElem hlt
        generalize bs[k]=l at *
        obtain⟨o,n,cur,hH,q1,q2,q3,q4⟩:=hTS.heap
        have hln:l.length≤n:=by have:=hT.out;have:=htb.out;omega
        have hby':Bys wr wr.heap.size (.slice A' l.length c') l:=hby.more xwr.size
        have hout:=hTS.out
        have zob:=(zG.1 hout).1
        obtain⟨cb,rb,sb,_⟩:=hTS.bb
        have n1:ob≠s0+1:=qH hout hH.box (by decide)
        have n2:ob≠s0:=qH hout hH.row (by decide)
        have n3:BB≠s0+1:=qH rb hH.box (by decide)
        have n4:BB≠s0:=qH rb hH.row (by decide)
        have hle2:∀ a b,ql.r a b→(KG (s0+1) s0).r a b:=qdA
        obtain⟨RR,hRR⟩:∃ RR:Rel,RR=KG (s0+1) s0:=⟨_,rfl⟩
        rw[←hRR] at hle2
        have hle:=hle2
        have g1:∀ W,RR.r wr W→∀ i,W.cell? ⟨ob,i,none⟩=#[.slice (some ⟨BB,0,none⟩) bs.length bs.length,.slice (some ⟨WW,0,none⟩) ws.length (ws.length+1)][i]?:=fun W h=>qa (vx (hRR ▸ h) n1 n2 hout)
        replace hRR:=zH hRR
        replace hTS:=zH hTS
        replace hsn:=zH hsn
        replace hgk:=zH hgk
        replace hH:=zH hH
        replace rb:=zH rb
        clear q1 q2 q3 q4 hle2 hA2
        go_wp2_with fail
        refine qm (by kernel_rfl) ?_
        refine UR (w:=wr) ql RR 4 hle (qG [(4,Xt (s0+1) s0 o n cur l)]) [true,true,true,true,true,true] 1 (by kernel_rfl) (by kernel_rfl) (by kernel_rfl) (by kernel_rfl) (by kernel_rfl) (by kernel_rfl) (by kernel_rfl) ?st one_at (Rel.drew _ _) ?walk
        case st=>exact qk (by simp only[List.forall_mem_cons];exact⟨YC _ _ _ _ _ _,fun _ h=>by cases h⟩)
        case walk =>
         intro K hK
         dsimp only[qp]
         repeat ((first|(refine ZE hle ?_ (by rfl) (by rfl) (fun W hW _=>?_) ?_;rotate_left;(first|(go_simp;with_reducible rfl)|(go_simp;done)))|(refine jA (by rfl) ?_));try simp only[Act.put,qi,qe,qb,qf,QF,zJ,qb,zA,zB,zC])
         refine Ud (Xt (s0+1) s0 o n cur l) (by rfl) (by rfl) (fun W hW _=>?_) (fun (p:Nat)=>?_)
         ·have hW:Ext wr W:=hW
          refine Qe ?_ ((Tm (s0+1) s0 o n cur A' c' l hln W ⟨qc hH.out.box hW,qc hH.out.row hW,hH.out.ne,hH.out.fit,hH.out.few⟩ (hby'.below hW |>.more hW.size)).mono fun e w' h=>?_)
          ·go_simp
          obtain⟨o',rfl,h1,h2,h3,e1,e2,e3,e4,e5⟩:=h
          refine⟨o',rfl,⟨h1,h2,h3⟩,?_⟩
          rw[hRR.out]
          exact⟨e2,e3,e4,Nat.le_of_eq e1.symm,fun b _ h1 h2=>e5 b h1 h2⟩
         simp only[Act.put,qi,qe,qb,qf,QF,zJ,qb,zA,zB,zC]
         repeat ((first|(refine ZE hle ?_ (by rfl) (by rfl) (fun W hW _=>?_) ?_;rotate_left;(first|(go_simp;with_reducible rfl)|(go_simp;done)))|(refine jA (by rfl) ?_));try simp only[Act.put,qi,qe,qb,qf,QF,zJ,qb,zA,zB,zC])
         first
          |(refine ZE hle (.pointer (some ⟨BB,0+k,none⟩)) (by rfl) (by rfl) (fun W hW _=>?_) ?_
            ·go_simp
             rw[IntWalk.i64_in (k:Int) (by omega),if_pos (by omega)]
             simp
            simp only[Act.put,qi,qe,qb,qf,QF,zJ,qb,zA,zB,zC])
          |skip
         repeat ((first|(refine ZE hle ?_ (by rfl) (by rfl) (fun W hW _=>?_) ?_;rotate_left;(first|(go_simp;with_reducible rfl)|(go_simp;done)))|(refine jA (by rfl) ?_));try simp only[Act.put,qi,qe,qb,qf,QF,zJ,qb,zA,zB,zC])
         refine Gf (hK _ _ fun W hW hF=>?_)
         obtain⟨h1,h2,hH'⟩:(Xt (s0+1) s0 o n cur l).φ p W:=(hF 4).1
         clear hF hK g1
         rw[hRR.out] at hW
         dsimp only[List.drop,List.length_cons,List.length_nil]
         obtain⟨T1,hin⟩:=hTS.out.clone hH.out hln hW h1 h2 hH'
         have rB:=vx hW n3 n4 rb.out
         have kB:=qa rB k
         have fB:=qg rB k
         rw[Array.getElem?_eq_getElem (by omega)] at kB
         generalize cb[k]=u0 at *
         have T2:=T1.setB hgk.out hin
         rw[←hsn.out] at T2
         have IR:TwI bs ws T s0 wn (s0+1) s0 BB WW ob (.int .i64 ((k:Int)+1)) (W.setCell ⟨BB,k,none⟩ (.slice (some ⟨s0,o,none⟩) l.length l.length)):=⟨k+1,by omega,rfl,T2⟩
         replace IR:=zH IR
         have hwk:=zH (IntWalk.wrap64_in ((k:Int)+1) (by omega))
         clear T1 T2 hin hW h1 h2 hH' rB rb hTS hH hsn hgk
         go_wp2
         refine Qn ?_
         go_wp2_with fail
         try rw[hwk.out]
         refine⟨IR.out,?_⟩
         simp[intOf]
         omega
       ·obtain rfl:k=bs.length:=by omega
        rw[List.take_length] at hTS
        have J0:TwJ bs ws T s0 wn (s0+1) s0 BB WW ob (.int .i64 0) wr:=⟨0,Nat.zero_le _,rfl,hTS⟩
        replace J0:=zH J0
        generalize hwk:wr=wk at *
        clear hwk hTS xwr
        go_wp2_with fail
        go_loopw [72] (fun i wr=>TwJ bs ws T s0 wn (s0+1) s0 BB WW ob i wr) (fun i _=>ws.length-(intOf i).toNat)
        case atStart=>exact J0.out
        case round =>
         obtain⟨k,hk,rfl,hTS⟩:=hrel.ex
         clear hrel J0 kr rr
         have xwr:Below w.heap.size w wr:=Below.trans xw3 (Below.mono hTS.below (by omega))
         have rr:=(hTS.below.block w.heap.size (by omega)).trans r3'.out
         have kr:=qa rr
         by_cases hlt:k<ws.length
         ·have hlt':=hlt
          obtain⟨b2,o2,rfl,hb2⟩:=hA2 (by omega)
          obtain⟨A',c',ha,hc,hby⟩:=(HW.out.below xwr).get k hlt
          have hsn:jm ((ws.take (k+1)).map (·.2))=jm ((ws.take k).map (·.2))+ws[k].2.length:=by
           rw[List.map_take,List.map_take,kS (by rw[List.length_map];exact hlt),List.getElem_map]
          have hle:jm ((ws.take (k+1)).map (·.2))≤tw:=by rw[htw.out,List.map_take];exact Js _ _
          have hgk:=List.getElem?_eq_getElem hlt
          generalize ws[k]=pl at *
          obtain⟨pn,l⟩:=pl
          simp only at ha hc hby hsn
          go_upto_region 22 with fail
          generalize hwp:World.alloc wr _=wp
          have xp:Ext wr wp:=by rw[←hwp];exact Ext.alloc _ _
          have tp:wp.heap[wr.heap.size]?=some (.cells #[.int .i64 pn,.slice A' l.length c'] 130 (0,0)):=by rw[←hwp];exact World.alloc_heap_at _ _ _ rfl
          clear hwp
          have hls:s0≤wr.heap.size:=Nat.le_trans (Nat.le_trans (by omega) hTS.below.size) (Nat.le_refl _)
          have hTP:=hTS.ext xp hls
          obtain⟨o,n,cur,hH,q1,q2,q3,q4⟩:=hTP.heap
          have hln:l.length≤n:=by have:=hT.out;have:=htb.out;omega
          have hby':Bys wp wp.heap.size (.slice A' l.length c') l:=(hby.below (Below.mono xp xwr.size)).more (by have:=xp.size;have:=xwr.size;omega)
          have hout:=hTP.out
          obtain⟨cw,rw_,sw,_⟩:=hTP.ww
          have zhb:=(zG.1 ((hTS.heap).choose_spec.choose_spec.choose_spec.1.box)).1
          have zg:=(zG.1 ((hTS.heap).choose_spec.choose_spec.choose_spec.1.row)).1
          have zw:=(zG.1 (hTS.ww.choose_spec.1)).1
          have n1:ob≠s0+1:=qH hout hH.box (by decide)
          have n2:ob≠s0:=qH hout hH.row (by decide)
          have n3:WW≠s0+1:=qH rw_ hH.box (by decide)
          have n4:WW≠s0:=qH rw_ hH.row (by decide)
          have hle2:∀ a b,ql.r a b→(KG (s0+1) s0).r a b:=qdA
          obtain⟨RR,hRR⟩:∃ RR:Rel,RR=KG (s0+1) s0:=⟨_,rfl⟩
          rw[←hRR] at hle2
          have hle:=hle2
          generalize wr.heap.size=tt at tp hls zhb zg zw ⊢
          have g1:∀ W,RR.r wp W→∀ i,W.cell? ⟨ob,i,none⟩=#[.slice (some ⟨BB,0,none⟩) bs.length bs.length,.slice (some ⟨WW,0,none⟩) ws.length (ws.length+1)][i]?:=fun W h=>qa (vx (hRR ▸ h) n1 n2 hout)
          have g2:∀ W,RR.r wp W→∀ i,W.cell? ⟨tt,i,none⟩=#[.int .i64 pn,.slice A' l.length c'][i]?:=fun W h=>qa (vx (hRR ▸ h) (by omega) (by omega) tp)
          replace hRR:=zH hRR
          replace hTP:=zH hTP
          replace hsn:=zH hsn
          replace hgk:=zH hgk
          replace hH:=zH hH
          replace rw_:=zH rw_
          clear q1 q2 q3 q4 hle2 hTS hby ha hc hA1 tp xp rr kr
          refine qm (by kernel_rfl) ?_
          refine UR (w:=wp) ql RR 7 hle (qG [(7,Xt (s0+1) s0 o n cur l)]) [true,true,true,true,true,true,true,true,true,true] 1 (by kernel_rfl) (by kernel_rfl) (by kernel_rfl) (by kernel_rfl) (by kernel_rfl) (by kernel_rfl) (by kernel_rfl) ?st one_at (Rel.drew _ _) ?walk
          case st=>exact qk (by simp only[List.forall_mem_cons];exact⟨YC _ _ _ _ _ _,fun _ h=>by cases h⟩)
          case walk =>
           intro K hK
           dsimp only[qp]
           repeat ((first|(refine ZE hle ?_ (by rfl) (by rfl) (fun W hW _=>?_) ?_;rotate_left;(first|(go_simp;with_reducible rfl)|(go_simp;done)))|(refine jA (by rfl) ?_));try simp only[Act.put,qi,qe,qb,qf,QF,zJ,qb,zA,zB,zC])
           refine Ud (Xt (s0+1) s0 o n cur l) (by rfl) (by rfl) (fun W hW _=>?_) (fun (p:Nat)=>?_)
           ·have hW:Ext wp W:=hW
            refine Qe ?_ ((Tm (s0+1) s0 o n cur A' c' l hln W ⟨qc hH.out.box hW,qc hH.out.row hW,hH.out.ne,hH.out.fit,hH.out.few⟩ (hby'.below hW |>.more hW.size)).mono fun e w' h=>?_)
            ·go_simp
            obtain⟨o',rfl,h1,h2,h3,e1,e2,e3,e4,e5⟩:=h
            refine⟨o',rfl,⟨h1,h2,h3⟩,?_⟩
            rw[hRR.out]
            exact⟨e2,e3,e4,Nat.le_of_eq e1.symm,fun b _ h1 h2=>e5 b h1 h2⟩
           simp only[Act.put,qi,qe,qb,qf,QF,zJ,qb,zA,zB,zC]
           repeat ((first|(refine ZE hle ?_ (by rfl) (by rfl) (fun W hW _=>?_) ?_;rotate_left;(first|(go_simp;with_reducible rfl)|(go_simp;done)))|(refine jA (by rfl) ?_));try simp only[Act.put,qi,qe,qb,qf,QF,zJ,qb,zA,zB,zC])
           first
            |(refine ZE hle (.pointer (some ⟨WW,0+k*2,none⟩)) (by rfl) (by rfl) (fun W hW _=>?_) ?_
              ·go_simp
               rw[IntWalk.i64_in (k:Int) (by omega),if_pos (by omega)]
               simp
              simp only[Act.put,qi,qe,qb,qf,QF,zJ,qb,zA,zB,zC])
            |skip
           repeat ((first|(refine ZE hle ?_ (by rfl) (by rfl) (fun W hW _=>?_) ?_;rotate_left;(first|(go_simp;with_reducible rfl)|(go_simp;done)))|(refine jA (by rfl) ?_));try simp only[Act.put,qi,qe,qb,qf,QF,zJ,qb,zA,zB,zC])
           refine Gf (hK _ _ fun W hW hF=>?_)
           obtain⟨h1,h2,hH'⟩:(Xt (s0+1) s0 o n cur l).φ p W:=(hF 7).1
           clear hF hK g1 g2
           rw[hRR.out] at hW
           dsimp only[List.drop,List.length_cons,List.length_nil]
           obtain⟨T1,hin⟩:=hTP.out.clone hH.out hln hW h1 h2 hH'
           have rB:=vx hW n3 n4 rw_.out
           have kB:=qa rB (k*2)
           have kC:=qa rB (k*2+1)
           have fB:=qg rB
           rw[Array.getElem?_eq_getElem (by omega)] at kB kC
           generalize cw[k*2]=u0 at *
           generalize cw[k*2+1]=u1 at *
           have T2:=T1.setW hgk.out hin
           rw[Nat.add_assoc,←hsn.out] at T2
           have IR:TwJ bs ws T s0 wn (s0+1) s0 BB WW ob (.int .i64 ((k:Int)+1)) ((W.setCell ⟨WW,k*2,none⟩ (.int .i64 pn)).setCell ⟨WW,k*2+1,none⟩ (.slice (some ⟨s0,o,none⟩) l.length l.length)):=⟨k+1,by omega,rfl,T2⟩
           replace IR:=zH IR
           have hwk:=zH (IntWalk.wrap64_in ((k:Int)+1) (by omega))
           clear T1 T2 hin hW h1 h2 hH' rB rw_ hTP hH hsn hgk
           go_wp2
           refine Qn ?_
           go_wp2_with fail
           try rw[hwk.out]
           refine⟨IR.out,?_⟩
           simp[intOf]
           omega
         ·obtain rfl:k=ws.length:=by omega
          have DT:=hTS.done
          have qq:=(hTS.below.block (w.heap.size+1) (by omega)).trans q3'.out
          have kq:=qa qq
          have fq:=qg qq
          have ko:=qa hTS.out
          have zq:=(zG.1 qq).1
          have rf:=qj (qj qq 0 (.slice (some ⟨BB,0,none⟩) bs.length bs.length)) 1 (.slice (some ⟨WW,0,none⟩) ws.length (ws.length+1))
          have kf:=qa rf
          have bf:Below w.heap.size w ((wr.setCell ⟨w.heap.size+1,0,none⟩ (.slice (some ⟨BB,0,none⟩) bs.length bs.length)).setCell ⟨w.heap.size+1,1,none⟩ (.slice (some ⟨WW,0,none⟩) ws.length (ws.length+1))):=Below.setCell (Below.setCell xwr (p:=⟨w.heap.size+1,0,none⟩) (Nat.le_succ _) _) (p:=⟨w.heap.size+1,1,none⟩) (Nat.le_succ _) _
          have DF:ZB w.heap.size bs ws BB WW s0 ((wr.setCell ⟨w.heap.size+1,0,none⟩ (.slice (some ⟨BB,0,none⟩) bs.length bs.length)).setCell ⟨w.heap.size+1,1,none⟩ (.slice (some ⟨WW,0,none⟩) ws.length (ws.length+1))):=
           DT.keep (by omega) (by simp) (fun b h1 _=>(Below.heap_setCell _ _ _ _ (by show b≠w.heap.size+1;omega)).trans (Below.heap_setCell _ _ _ _ (by show b≠w.heap.size+1;omega)))
          replace kf:=zH kf
          replace bf:=zH bf
          replace DF:=zH DF
          clear rf DT hTS
          go_wp2
          have kf:=kf.out
          exact bodyPost_ret (v:=kz (some ⟨BB,0,none⟩) bs.length bs.length (some ⟨WW,0,none⟩) ws.length (ws.length+1)) (by simp[results,Tryz.results171,go_sem,kf]) rfl ⟨BB,WW,s0,rfl,DF.out,bf.out⟩
def qu (S:Sto) (a:Nat):Option (Int×List It):=if (S.now[a]?.getD 0).toNat=0 then none else QE (JK S a)
theorem qV {S:Sto} (h:qo S=true):S.bs.length=256∧S.ws.length≤4096∧S.now.length=256∧S.last.length=256:=by
 unfold qo Zz headD Qp at h
 simp at h
 omega
set_option maxHeartbeats 1000000 in
theorem qbC (A:Option Addr) (n c:Nat) (hn:n≤c) (hc:c≤maxLen) (w:World) :
  Calls Tryz.prog 122 #[.slice A n c] w (Ret (.slice A n n) w):=by
 unfold maxLen at hc
 go_enter Tryz.func122,Tryz.ntmps122
 have h1:(n:Int)≤(c:Int):=by omega
 have h2:(0:Int)≤(n:Int):=by omega
 go_wp2
 go_ret
 exact⟨rfl,Below.refl _ _⟩
def OnB (lo b:Nat) (v1 v2 v3 v4:Value) (S:Sto) (W:World):Prop:=lo≤b∧W.heap[b]?=some (.cells #[v1,v2,v3,v4] 191 (0,0))∧Qc W W.heap.size v1 v2 v3 v4 S
theorem Wrs.clip {w:World} {B:Nat} {A:Option Addr} {n c:Nat} {ws:List (Int×List UInt8)} (h:Wrs w B (.slice A n c) ws):Wrs w B (.slice A n n) ws:=by
 obtain⟨ps,e,⟨A',c',e1,e2,e3,hr⟩,hp⟩:=h
 cases e1
 exact⟨ps,e,⟨_,_,rfl,Nat.le_refl _,by omega,hr⟩,hp⟩
set_option maxHeartbeats 2000000 in
set_option maxRecDepth 100000 in
theorem on_any (A1:Option Addr) (n1 c1:Nat) (A2:Option Addr) (n2 c2:Nat) (A3:Option Addr) (n3 c3:Nat) (A4:Option Addr) (n4 c4:Nat) (S:Sto) (hl:S.now.length<1073741824) (w:World) (h:Qc w w.heap.size (.slice A1 n1 c1) (.slice A2 n2 c2) (.slice A3 n3 c3) (.slice A4 n4 c4) S) :
  Calls Tryz.prog 66 #[Qd A1 n1 c1 A2 n2 c2 A3 n3 c3 A4 n4 c4] w (zD (fun u W=>∃ b A3' c3',u=.pointer (some ⟨b,0,none⟩)∧OnB w.heap.size b (.slice A1 n1 c1) (.slice A2 n2 n2) (.slice A3' n3 c3') (.slice A4 n4 c4) S W∧zm w.heap.size (.slice A3' n3 c3')) w):=by
 have hn3:Hid (n3=S.now.length):=zH h.now.at_.1
 obtain⟨-,h2a,h2b,-⟩:=h.ws.at_
 have HC:=zH (fun W (hW:Ext w W)=>JI (.slice A3 n3 c3) S.now hl W (h.ext hW).now)
 replace h:=zH h
 go_enter Tryz.func66,Tryz.ntmps66
 go_wp2_with fail
 generalize hw1:(World.alloc _ _)=w1
 have x1:Ext w w1:=by rw[←hw1];exact Ext.alloc _ _
 have r1:w1.heap[w.heap.size]?=some (.cells #[.slice A1 n1 c1,.slice A2 n2 c2,.slice A3 n3 c3,.slice A4 n4 c4] 28 (0,0)):=by rw[←hw1];exact World.alloc_heap_at _ _ _ rfl
 clear hw1
 refine(HC.out _ x1).mono ?_
 rintro e w2 ⟨u,rfl,hu,hB⟩
 have x2:=x1.trans hB
 have r2:=qc r1 hB
 have hby:=Bys.of_own hu
 have hfr:=zm.of_own hu
 have s1:w.heap.size<w1.heap.size:=(zG.1 r1).1
 obtain⟨A3',c3',rfl,_,_⟩:=qJ hu
 have k2:=qa r2
 have f2:=qg r2
 clear hB r1 HC hu
 rw[←hn3.out] at hby hfr ⊢
 go_wp2_with fail
 have hby3:=hby.setCell hfr (p:=⟨w.heap.size,2,none⟩) s1 (.slice A3' n3 c3')
 generalize hw3:(World.setCell _ _ _)=w3 at *
 have x3:Ext w w3:=by rw[←hw3];exact Below.setCell x2 (p:=⟨w.heap.size,2,none⟩) (Nat.le_refl _) _
 have r3:w3.heap[w.heap.size]?=some (.cells #[.slice A1 n1 c1,.slice A2 n2 c2,.slice A3' n3 c3',.slice A4 n4 c4] 28 (0,0)):=by rw[←hw3];exact qj r2 2 _
 have hz3:w3.heap.size=w2.heap.size:=by rw[←hw3];simp
 rw[←hz3] at hby3
 clear hw3 k2 f2 r2 x2 hby
 refine(qbC A2 n2 c2 h2a h2b _).mono ?_
 rintro e w4 ⟨rfl,hB⟩
 have x4:=x3.trans hB
 have r4:=qc r3 hB
 have hby4:=(hby3.below hB).more hB.size
 have k4:=qa r4
 have f4:=qg r4
 have s4:w.heap.size<w4.heap.size:=(zG.1 r4).1
 clear hB r3 x3 hby3
 go_wp2
 have hfrw:zm w.heap.size (.slice A3' n3 c3'):=hfr.mono (by omega)
 have hby5:=hby4.setCell hfr (p:=⟨w.heap.size,1,none⟩) s1 (.slice A2 n2 n2)
 have bf:Below w.heap.size w ((w4.setCell ⟨w.heap.size,1,none⟩ (.slice A2 n2 n2)).alloc (.cells #[.slice A1 n1 c1,.slice A2 n2 n2,.slice A3' n3 c3',.slice A4 n4 c4] 191)):=by
  have x4':Below w.heap.size w w4:=x4
  exact(by repeat' (first|with_reducible exact Below.refl _ _|with_reducible assumption|with_reducible apply Below.drew|with_reducible apply qv|with_reducible refine Below.alloc ?_ ?_ _|with_reducible refine Below.setCell ?_ ?_ _|(simp;done)|(simp;omega)|omega))
 go_ret
 refine⟨_,rfl,⟨w4.heap.size,A3',c3',rfl,⟨by omega,World.alloc_heap_at _ _ _ (by simp),?_⟩,hfrw⟩,bf⟩
 have h0:=(h.out.below bf).more bf.size
 refine⟨h0.bs,h0.ws.clip,?_,h0.last⟩
 exact(hby5.below (Below.alloc (Below.refl _ _) (by simp) _)).more (by simp)
def JJ (w:World) (b:Nat):Nat→List Value→World
 |_,[]=>w
 |k,v :: r=>JJ (w.setCell ⟨b,k,none⟩ v) b (k+1) r
def kF (cs:Array Value):Nat→List Value→Array Value
 |_,[]=>cs
 |k,v :: r=>kF (cs.setIfInBounds k v) (k+1) r
theorem Zm {b g:Nat} (h:g≠b):∀ (vs:List Value) (w:World) (k:Nat),(JJ w b k vs).heap[g]?=w.heap[g]?
 | [],_,_=>rfl
 |_ :: r,w,k=>(Zm h r _ _).trans (Below.heap_setCell _ _ _ _ h)
theorem ZI {b:Nat}:∀ (vs:List Value) (w:World) (k:Nat),(JJ w b k vs).heap.size=w.heap.size
 | [],_,_=>rfl
 |_ :: r,w,k=>(ZI r _ _).trans (by simp)
theorem Zk {B b:Nat} {w0:World} (hB:B≤b):∀ (vs:List Value) (w:World) (k:Nat),Below B w0 w→Below B w0 (JJ w b k vs)
 | [],_,_,h=>h
 |v :: r,w,k,h=>Zk hB r _ _ (Below.setCell h (p:=⟨b,k,none⟩) hB v)
theorem jc {b:Nat} {t:TypeId}:∀ (vs:List Value) (w:World) (k:Nat) (cs:Array Value),w.heap[b]?=some (.cells cs t (0,0))→(JJ w b k vs).heap[b]?=some (.cells (kF cs k vs) t (0,0))
 | [],_,_,_,h=>h
 |v :: r,w,k,cs,h=>jc r _ _ _ (qj h k v)
def outDT (lo:Nat) (bs:List (List UInt8)) (ws:List (Int×List UInt8)):qO:=⟨Nat×Nat×Nat,fun p=>kz (some ⟨p.1,0,none⟩) bs.length bs.length (some ⟨p.2.1,0,none⟩) ws.length (ws.length+1),fun p W=>ZB lo bs ws p.1 p.2.1 p.2.2 W⟩
theorem Vo (lo:Nat) (bs:List (List UInt8)) (ws:List (Int×List UInt8)) (b c g:Nat):(outDT lo bs ws).f (b,c,g)=kz (some ⟨b,0,none⟩) bs.length bs.length (some ⟨c,0,none⟩) ws.length (ws.length+1):=rfl
theorem qad (lo:Nat) (bs:List (List UInt8)) (ws:List (Int×List UInt8)):∀ p,qA ql ((outDT lo bs ws).φ p):=fun p W W' he h=>by
 have he:Ext W W':=he
 exact ZB.keep h (Nat.le_refl _) he.size fun b _ hb=>he.block b hb
def Xb (lo:Nat) (l:List UInt8):qO:=⟨Option Addr×Nat,fun p=>.slice p.1 l.length p.2,fun p W=>W.ownsRow lo 5 1 (.slice p.1 l.length p.2) l.length (l.map bv)⟩
theorem vj (lo:Nat) (l:List UInt8) (A:Option Addr) (c:Nat):(Xb lo l).f (A,c)=.slice A l.length c:=rfl
theorem Km (lo:Nat) (l:List UInt8):∀ p,qA ql ((Xb lo l).φ p):=fun p W W' he h=>QJ h he
theorem zp {w w':World} {lo:Nat} {e:TypeId} {size:Nat} {v:Value} {n:Nat} {xs:List Value} (h:w.ownsRow lo e size v n xs) (hk:∀ b,lo≤b→b<w.heap.size→w'.heap[b]?=w.heap[b]?):w'.ownsRow lo e size v n xs:=
 ⟨h.1,h.2.imp id fun ⟨g,cap,cur,h1,h2,h3,h4⟩=>⟨g,cap,cur,h1,h2,(hk g h2 (zG.1 h3).1).trans h3,h4⟩⟩
def QH (lo:Nat) (S:Sto) (u:Value) (W:World):Prop:=∃ BB WW g A3 c3 A4 c4,u=Qd (some ⟨BB,0,none⟩) S.bs.length S.bs.length (some ⟨WW,0,none⟩) S.ws.length (S.ws.length+1) A3 S.now.length c3 A4 S.last.length c4∧ZB lo S.bs S.ws BB WW g W ∧
 W.ownsRow lo 5 1 (.slice A3 S.now.length c3) S.now.length (S.now.map bv)∧W.ownsRow lo 5 1 (.slice A4 S.last.length c4) S.last.length (S.last.map bv)
theorem QH.keep {lo lo':Nat} {S:Sto} {u:Value} {W W2:World} (h:QH lo S u W) (hl:lo'≤lo) (hs:W.heap.size≤W2.heap.size) (hk:∀ b,lo≤b→b<W.heap.size→W2.heap[b]?=W.heap[b]?):QH lo' S u W2:=by
 obtain⟨BB,WW,g,A3,c3,A4,c4,e,h1,h2,h3⟩:=h
 exact⟨BB,WW,g,A3,c3,A4,c4,e,h1.keep hl hs hk,Qu (zp h2 hk) hl,Qu (zp h3 hk) hl⟩
theorem Gi {w w':World} {lo:Nat} {e:TypeId} {size:Nat} {v:Value} {n:Nat} {xs:List Value} (h:w.ownsRow lo e size v n xs) {b1:Nat} {c1:Array Value} {t1:TypeId} (h1:w.heap[b1]?=some (.cells c1 t1 (0,0))) (ht:t1≠e) (hk:∀ b,lo≤b→b<w.heap.size→b≠b1→w'.heap[b]?=w.heap[b]?):w'.ownsRow lo e size v n xs:=
 ⟨h.1,h.2.imp id fun ⟨g,cap,cur,g1,g2,h3,h4⟩=>⟨g,cap,cur,g1,g2,(hk g g2 (zG.1 h3).1 (qH h3 h1 fun e=>ht e.symm)).trans h3,h4⟩⟩
theorem QH.keepT {lo lo':Nat} {S:Sto} {u:Value} {W W2:World} (h:QH lo S u W) (hl:lo'≤lo) (hs:W.heap.size≤W2.heap.size) {b1:Nat} {c1:Array Value} {t1:TypeId} (hr:W.heap[b1]?=some (.cells c1 t1 (0,0))) (ht:t1≠26∧t1≠130∧t1≠5) (hk:∀ b,lo≤b→b<W.heap.size→b≠b1→W2.heap[b]?=W.heap[b]?):QH lo' S u W2:=by
 obtain⟨BB,WW,g,A3,c3,A4,c4,e,h1,h2,h3⟩:=h
 exact⟨BB,WW,g,A3,c3,A4,c4,e,h1.keepT hl hs hr ht hk,Qu (Gi h2 hr ht.2.2 hk) hl,Qu (Gi h3 hr ht.2.2 hk) hl⟩
theorem QH.twin {lo:Nat} {S:Sto} {u:Value} {W:World} (h:QH lo S u W) (hS:Xz S):TwinS lo S u W:=by
 obtain⟨BB,WW,g,A3,c3,A4,c4,e,h1,h2,h3⟩:=h
 refine⟨_,_,_,_,A3,c3,A4,c4,e,fun W2 hk=>?_⟩
 obtain⟨k1,k2⟩:=h1.reads hS.bs hS.ws hS.be hS.we W2 hk
 exact⟨k1,k2,(Bys.of_own h2).keepN (zm.of_own h2) hk,(Bys.of_own h3).keepN (zm.of_own h3) hk⟩
theorem TwinS.sto {lo:Nat} {S:Sto} {u:Value} {W:World} (h:TwinS lo S u W):∃ A1 c1 A2 c2 A3 c3 A4 c4,u=Qd A1 S.bs.length c1 A2 S.ws.length c2 A3 S.now.length c3 A4 S.last.length c4∧Qc W W.heap.size (.slice A1 S.bs.length c1) (.slice A2 S.ws.length c2) (.slice A3 S.now.length c3) (.slice A4 S.last.length c4) S:=by
 obtain⟨A1,c1,A2,c2,A3,c3,A4,c4,e,h1⟩:=h
 exact⟨A1,c1,A2,c2,A3,c3,A4,c4,e,h1 W fun _ _ _=>rfl⟩
set_option maxHeartbeats 2000000 in
set_option maxRecDepth 100000 in
theorem qek (A1:Option Addr) (n1 c1:Nat) (A2:Option Addr) (n2 c2:Nat) (A3:Option Addr) (n3 c3:Nat) (A4:Option Addr) (n4 c4:Nat) (S:Sto) (hS:Xz S) (w:World) (h:Qc w w.heap.size (.slice A1 n1 c1) (.slice A2 n2 c2) (.slice A3 n3 c3) (.slice A4 n4 c4) S) :
  Calls Tryz.prog 152 #[Qd A1 n1 c1 A2 n2 c2 A3 n3 c3 A4 n4 c4] w (zD (QH w.heap.size S) w):=by
 have HD:=zH (fun W (hW:Ext w W)=>qel A1 n1 c1 A2 n2 c2 S.bs S.ws hS.bs hS.ws hS.be hS.we W (h.ext hW).bs (h.ext hW).ws)
 have HN:=zH (fun W (hW:Ext w W)=>JI _ S.now (by have:=hS.now;omega) W (h.ext hW).now)
 have HL:=zH (fun W (hW:Ext w W)=>JI _ S.last (by have:=hS.last;omega) W (h.ext hW).last)
 clear h hS
 go_enter Tryz.func152,Tryz.ntmps152
 go_wp2_with fail
 generalize hw1:(World.alloc (World.alloc _ _) _)=w1
 have x1:Ext w w1:=by rw[←hw1];exact(Ext.alloc _ _).trans (Ext.alloc _ _)
 have r1:w1.heap[w.heap.size]?=some (.cells #[.slice A1 n1 c1,.slice A2 n2 c2,.slice A3 n3 c3,.slice A4 n4 c4] 28 (0,0)):=by rw[←hw1];exact(Below.heap_alloc _ _ _ (by simp)).trans (World.alloc_heap_at _ _ _ rfl)
 have q1:w1.heap[w.heap.size+1]?=some (.cells #[.slice none 0 0,.slice none 0 0,.slice none 0 0,.slice none 0 0] 28 (0,0)):=by rw[←hw1];exact World.alloc_heap_at _ _ _ (by simp)
 clear hw1
 have g1:∀ W,ql.r w1 W→∀ i,W.cell? ⟨w.heap.size,i,none⟩=#[.slice A1 n1 c1,.slice A2 n2 c2,.slice A3 n3 c3,.slice A4 n4 c4][i]?:=fun W h=>qa (qc r1 h)
 refine qm (by kernel_rfl) ?_
 refine qR (w:=w1) ql (qG [(2,outDT w1.heap.size S.bs S.ws),(5,Xb w1.heap.size S.now),(8,Xb w1.heap.size S.last)])
  [true,true,true,true,true,true,true,true,true,true] 1 (by kernel_rfl) (by kernel_rfl) (by kernel_rfl) (by kernel_rfl) (by kernel_rfl) (by kernel_rfl) (by kernel_rfl) ?st (Rel.drew _ _) ?walk
 case st=>exact qk (by simp only[List.forall_mem_cons];exact⟨qad _ _ _,Km _ _,Km _ _,fun _ h=>by cases h⟩)
 case walk =>
  intro K hK
  dsimp only[qp]
  repeat ((first|(refine qd ?_ (by rfl) (by rfl) (fun W hW _=>⟨W,?_,Rel.refl _ W⟩) ?_;rotate_left;(first|(go_simp;with_reducible rfl)|(go_simp;done)))|(refine qh (by rfl) ?_));try simp only[Act.put,qi,qe,qb,qf,Vo,vj,zA,zB,zC])
  refine qy (outDT w1.heap.size S.bs S.ws) (by rfl) (by rfl) (fun W hW _=>?_) (fun p=>?_)
  ·refine Qe ?_ ((HD.out W (Ext.trans x1 hW)).mono fun e w' h=>?_)
   ·go_simp
   have hW:Ext w1 W:=hW
   obtain⟨b,c,g,rfl,h1,hB⟩:=h
   exact⟨(b,c,g),rfl,h1.keep hW.size (Nat.le_refl _) (fun _ _ _=>rfl),hB⟩
  obtain⟨bb,cc,gg⟩:=p
  simp only[Act.put,qi,qe,qb,qf,Vo,vj,zA,zB,zC]
  repeat ((first|(refine qd ?_ (by rfl) (by rfl) (fun W hW _=>⟨W,?_,Rel.refl _ W⟩) ?_;rotate_left;(first|(go_simp;with_reducible rfl)|(go_simp;done)))|(refine qh (by rfl) ?_));try simp only[Act.put,qi,qe,qb,qf,Vo,vj,zA,zB,zC])
  refine qy (Xb w1.heap.size S.now) (by rfl) (by rfl) (fun W hW _=>?_) (fun p=>?_)
  ·refine Qe ?_ ((HN.out W (Ext.trans x1 hW)).mono fun e w' h=>?_)
   ·go_simp
   have hW:Ext w1 W:=hW
   obtain⟨u,rfl,hu,hB⟩:=h
   obtain⟨A,c,rfl,_,_⟩:=qJ hu
   exact⟨(A,c),rfl,Qu hu hW.size,hB⟩
  obtain⟨B3,d3⟩:=p
  simp only[Act.put,qi,qe,qb,qf,Vo,vj,zA,zB,zC]
  repeat ((first|(refine qd ?_ (by rfl) (by rfl) (fun W hW _=>⟨W,?_,Rel.refl _ W⟩) ?_;rotate_left;(first|(go_simp;with_reducible rfl)|(go_simp;done)))|(refine qh (by rfl) ?_));try simp only[Act.put,qi,qe,qb,qf,Vo,vj,zA,zB,zC])
  refine qy (Xb w1.heap.size S.last) (by rfl) (by rfl) (fun W hW _=>?_) (fun p=>?_)
  ·refine Qe ?_ ((HL.out W (Ext.trans x1 hW)).mono fun e w' h=>?_)
   ·go_simp
   have hW:Ext w1 W:=hW
   obtain⟨u,rfl,hu,hB⟩:=h
   obtain⟨A,c,rfl,_,_⟩:=qJ hu
   exact⟨(A,c),rfl,Qu hu hW.size,hB⟩
  obtain⟨B4,d4⟩:=p
  simp only[Act.put,qi,qe,qb,qf,Vo,vj,zA,zB,zC]
  repeat ((first|(refine qd ?_ (by rfl) (by rfl) (fun W hW _=>⟨W,?_,Rel.refl _ W⟩) ?_;rotate_left;(first|(go_simp;with_reducible rfl)|(go_simp;done)))|(refine qh (by rfl) ?_));try simp only[Act.put,qi,qe,qb,qf,Vo,vj,zA,zB,zC])
  refine qt (hK _ _ fun W hW hF=>?_)
  have hD:ZB w1.heap.size S.bs S.ws bb cc gg W:=(hF 2).1
  have hN:W.ownsRow w1.heap.size 5 1 (.slice B3 S.now.length d3) S.now.length (S.now.map bv):=(hF 5).1
  have hL:W.ownsRow w1.heap.size 5 1 (.slice B4 S.last.length d4) S.last.length (S.last.map bv):=(hF 8).1
  have hW:Ext w1 W:=hW
  clear hF hK g1
  dsimp only[List.drop,List.length_cons,List.length_nil]
  have qW:=qc q1 hW
  have kW:=qa qW
  have fW:=qg qW
  have hz:w.heap.size+1<w1.heap.size:=(zG.1 q1).1
  have P5:∀ wx:World,wx=JJ W (w.heap.size+1) 0 [.slice (some ⟨bb,0,none⟩) S.bs.length S.bs.length,.slice (some ⟨cc,0,none⟩) S.ws.length (S.ws.length+1),.slice B3 S.now.length d3,.slice B4 S.last.length d4] →
    wx.heap[w.heap.size+1]?=some (.cells #[.slice (some ⟨bb,0,none⟩) S.bs.length S.bs.length,.slice (some ⟨cc,0,none⟩) S.ws.length (S.ws.length+1),.slice B3 S.now.length d3,.slice B4 S.last.length d4] 28 (0,0))∧Below w.heap.size w wx ∧
     QH w.heap.size S (Qd (some ⟨bb,0,none⟩) S.bs.length S.bs.length (some ⟨cc,0,none⟩) S.ws.length (S.ws.length+1) B3 S.now.length d3 B4 S.last.length d4) wx:=fun wx e=>by
   have hk:∀ b,w1.heap.size≤b→b<W.heap.size→wx.heap[b]?=W.heap[b]?:=fun b h1 _=>by rw[e];exact Zm (by omega) _ _ _
   have hs:W.heap.size≤wx.heap.size:=by rw[e,ZI];exact Nat.le_refl _
   refine⟨by rw[e];refine(jc _ _ _ _ qW).trans ?_;simp[kF],by rw[e];exact Zk (Nat.le_succ _) _ _ _ (Ext.trans x1 hW),bb,cc,gg,B3,d3,B4,d4,rfl,hD.keep (by omega) hs hk,Qu (zp hN hk) (by omega),Qu (zp hL hk) (by omega)⟩
  replace P5:=zH P5
  clear hD hN hL qW hW
  go_wp2
  refine Qn ?_
  go_wp2_with fail
  have P5:=P5.out
  generalize hw5:World.setCell (World.setCell (World.setCell (World.setCell W _ _) _ _) _ _) _ _=w5
  obtain⟨r5,x5,h5⟩:=P5 w5 hw5.symm
  clear P5 hw5
  have k5:=qa r5
  exact bodyPost_ret (v:=Qd (some ⟨bb,0,none⟩) S.bs.length S.bs.length (some ⟨cc,0,none⟩) S.ws.length (S.ws.length+1) B3 S.now.length d3 B4 S.last.length d4) (by simp[results,Tryz.results152,go_sem,k5]) rfl ⟨_,rfl,h5,x5⟩
set_option maxHeartbeats 1000000 in
set_option maxRecDepth 100000 in
theorem KU (b:Nat) (A1:Option Addr) (n1 c1:Nat) (A2:Option Addr) (n2 c2:Nat) (A3:Option Addr) (n3 c3:Nat) (A4:Option Addr) (n4 c4:Nat) (S:Sto) (hS:Xz S) (w:World) (hr:w.heap[b]?=some (.cells #[.slice A1 n1 c1,.slice A2 n2 c2,.slice A3 n3 c3,.slice A4 n4 c4] 191 (0,0)))
  (h:Qc w w.heap.size (.slice A1 n1 c1) (.slice A2 n2 c2) (.slice A3 n3 c3) (.slice A4 n4 c4) S) :
  Calls Tryz.prog 105 #[.pointer (some ⟨b,0,none⟩)] w (zD (QH w.heap.size S) w):=by
 have HT:=zH (fun W (hW:Ext w W)=>qek A1 n1 c1 A2 n2 c2 A3 n3 c3 A4 n4 c4 S hS W (h.ext hW))
 clear h hS
 have k0:=qa hr
 have zb:b<w.heap.size:=(zG.1 hr).1
 go_enter Tryz.func105,Tryz.ntmps105
 go_wp2_with fail
 generalize hw1:World.alloc _ _=w1
 have x1:Ext w w1:=by rw[←hw1];exact Ext.alloc _ _
 have q1:w1.heap[w.heap.size]?=some (.cells #[.slice none 0 0,.slice none 0 0,.slice none 0 0,.slice none 0 0] 28 (0,0)):=by rw[←hw1];exact World.alloc_heap_at _ _ _ (by simp)
 clear hw1 k0
 refine(HT.out w1 x1).mono ?_
 rintro e w2 ⟨u,rfl,hT,hB⟩
 have hB:Ext w1 w2:=hB
 have q2:=qc q1 hB
 have kq:=qa q2
 have fq:=qg q2
 have z1:w.heap.size<w1.heap.size:=(zG.1 q1).1
 obtain⟨BB,WW,g,B3,d3,B4,d4,rfl,hD,hN,hL⟩:=hT
 have P5:∀ wx:World,wx=JJ w2 w.heap.size 0 [.slice (some ⟨BB,0,none⟩) S.bs.length S.bs.length,.slice (some ⟨WW,0,none⟩) S.ws.length (S.ws.length+1),.slice B3 S.now.length d3,.slice B4 S.last.length d4] →
   wx.heap[w.heap.size]?=some (.cells #[.slice (some ⟨BB,0,none⟩) S.bs.length S.bs.length,.slice (some ⟨WW,0,none⟩) S.ws.length (S.ws.length+1),.slice B3 S.now.length d3,.slice B4 S.last.length d4] 28 (0,0))∧Below w.heap.size w wx ∧
    QH w.heap.size S (Qd (some ⟨BB,0,none⟩) S.bs.length S.bs.length (some ⟨WW,0,none⟩) S.ws.length (S.ws.length+1) B3 S.now.length d3 B4 S.last.length d4) wx:=fun wx e=>by
  have hk:∀ b,w1.heap.size≤b→b<w2.heap.size→wx.heap[b]?=w2.heap[b]?:=fun b h1 _=>by rw[e];exact Zm (by omega) _ _ _
  have hs:w2.heap.size≤wx.heap.size:=by rw[e,ZI];exact Nat.le_refl _
  refine⟨by rw[e];refine(jc _ _ _ _ q2).trans ?_;simp[kF],by rw[e];exact Zk (Nat.le_refl _) _ _ _ (x1.trans hB),BB,WW,g,B3,d3,B4,d4,rfl,hD.keep (by omega) hs hk,Qu (zp hN hk) (by omega),Qu (zp hL hk) (by omega)⟩
 replace P5:=zH P5
 clear hD hN hL q2 hB q1
 go_wp2_with fail
 have P5:=P5.out
 generalize hw5:World.setCell (World.setCell (World.setCell (World.setCell w2 _ _) _ _) _ _) _ _=w5
 obtain⟨r5,x5,h5⟩:=P5 w5 hw5.symm
 clear P5 hw5
 have k5:=qa r5
 exact bodyPost_ret (v:=Qd (some ⟨BB,0,none⟩) S.bs.length S.bs.length (some ⟨WW,0,none⟩) S.ws.length (S.ws.length+1) B3 S.now.length d3 B4 S.last.length d4) (by simp[results,Tryz.results105,go_sem,k5]) rfl ⟨_,rfl,h5,x5⟩
end Go.Proofs.YtpbniokljofedaaGreat
