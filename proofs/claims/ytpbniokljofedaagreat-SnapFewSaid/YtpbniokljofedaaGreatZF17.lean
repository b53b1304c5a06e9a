/- Texts DTwin, SetAll, RTwin, OnOwn, joined. -/
import Derived.Laws.MakeOwn
import Derived.Test.YtpbniokljofedaaGreatZF03
import Derived.Test.YtpbniokljofedaaGreatZF05
import Derived.Test.YtpbniokljofedaaGreatZF07
import Derived.Test.YtpbniokljofedaaGreatZF16
set_option linter.unusedSimpArgs false
set_option linter.unusedVariables false
set_option maxHeartbeats 8000000
namespace Go.Proofs.YtpbniokljofedaaGreat
open Go.RowKit
def Ut (lo n c:Nat) (ty:TypeId) (cs:Array Value):qS:=⟨Nat,fun b=>.slice (some ⟨b,0,none⟩) n c,fun b W=>W.heap[b]?=some (.cells cs ty (0,0))∧lo≤b⟩
theorem QX (lo n c:Nat) (ty:TypeId) (cs:Array Value) (b:Nat):(Ut lo n c ty cs).f b=.slice (some ⟨b,0,none⟩) n c:=rfl
theorem Ke (lo n c:Nat) (ty:TypeId) (cs:Array Value):∀ p,qD ql ((Ut lo n c ty cs).φ p):=fun p W W' he h=>⟨qb h.1 he,h.2⟩
def Ur (hb g o n:Nat) (cur:Array Value) (l:List UInt8):qS:=⟨Nat,fun _=>.slice (some ⟨g,o,none⟩) l.length l.length,fun o' W=>(0<n-l.length→o'=o+l.length)∧(n-l.length=0→o'=o)∧qaY hb g o' (n-l.length) (ZE cur o l) W⟩
theorem Zt (hb g o n:Nat) (cur:Array Value) (l:List UInt8) (p:Nat):(Ur hb g o n cur l).f p=.slice (some ⟨g,o,none⟩) l.length l.length:=rfl
theorem Tb (hb g o n:Nat) (cur:Array Value) (l:List UInt8):∀ p,qD ql ((Ur hb g o n cur l).φ p):=fun p W W' he ⟨h1,h2,h3⟩=>⟨h1,h2,⟨qb h3.box he,qb h3.row he,h3.ne,h3.fit,h3.few⟩⟩
theorem qgh {T:Nat} (hT:T≤281474976710656) (w:World):(Instr.makeSlice 257 (.int .i64 (T:Int)) (.int .i64 (T:Int))).run Tryz.prog w=.ok (.slice (some ⟨w.heap.size,0,none⟩) T T) (w.alloc (.cells (madeCells #[.int .u8 0] T) 5)):=by
 obtain⟨i0,hi,hz0,hz1,hz2⟩:=info_parts Tryz.info_u8
 have h:=run_make (P:=Tryz.prog) w 257 5 i0 _ Tryz.underlying257 hi hz0 .i64 .i64 (T:Int) (T:Int) (by omega) (by omega) (by rw[hz2];omega) (by omega)
 rw[hz1,Int.toNat_natCast,Nat.mul_one] at h
 exact h
theorem Tk {n:Nat} (hn:n<1000000) (w:World):(Instr.makeSlice 22 (.int .i64 (n:Int)) (.int .i64 (n:Int))).run Tryz.prog w=.ok (.slice (some ⟨w.heap.size,0,none⟩) n n) (w.alloc (.cells (madeCells #[.slice none 0 0] n) 26)):=by
 obtain⟨i0,hi,hz0,hz1,hz2⟩:=info_parts Tryz.info_bytes
 have h:=run_make (P:=Tryz.prog) w 22 26 i0 _ Tryz.underlying22 hi hz0 .i64 .i64 (n:Int) (n:Int) (by omega) (by omega) (by rw[hz2];omega) (by omega)
 rw[hz1,Int.toNat_natCast,Nat.mul_one] at h
 exact h
theorem qcK {n:Nat} (hn:n<1000000) (w:World):(Instr.makeSlice 23 (.int .i64 (n:Int)) (.int .i64 ((n:Int)+1))).run Tryz.prog w=.ok (.slice (some ⟨w.heap.size,0,none⟩) n (n+1)) (w.alloc (.cells (madeCells #[.int .i64 0,.slice none 0 0] ((n+1)*2)) 130)):=by
 obtain⟨i0,hi,hz0,hz1,hz2⟩:=info_parts Tryz.info_write
 have h:=run_make (P:=Tryz.prog) w 23 130 i0 _ Tryz.underlying23 hi hz0 .i64 .i64 (n:Int) ((n:Int)+1) (by omega) (by omega) (by rw[hz2];omega) (by omega)
 rw[hz1,Int.toNat_natCast,show ((n:Int)+1).toNat=n+1 by omega] at h
 exact h
structure TwI (bs:List (List UInt8)) (ws:List (Int×List UInt8)) (T lo:Nat) (w5:World) (hb g BB WW ob:Nat) (i:Value) (wr:World):Prop where
 ex:∃ k:Nat,k≤bs.length∧i=.int .i64 (k:Int)∧TwS bs ws T lo w5 hb g BB WW ob k 0 (Jn (bs.take k)) wr
structure TwJ (bs:List (List UInt8)) (ws:List (Int×List UInt8)) (T lo:Nat) (w5:World) (hb g BB WW ob:Nat) (i:Value) (wr:World):Prop where
 ex:∃ k:Nat,k≤ws.length∧i=.int .i64 (k:Int)∧TwS bs ws T lo w5 hb g BB WW ob bs.length k (Jn bs+Jn ((ws.take k).map (·.2))) wr
theorem one_at {c:Nat} {hh:qS}:∀ i h,qF [(c,hh)] i=some h→i=c:=by
 intro i h e
 simp only[qF] at e
 split at e
 ·assumption
 ·cases e
set_option maxRecDepth 100000 in
theorem qhF (A1:Option Addr) (n1 c1:Nat) (A2:Option Addr) (n2 c2:Nat) (bs:List (List UInt8)) (ws:List (Int×List UInt8)) (hbl:bs.length<1000000) (hwl:ws.length<1000000) (hbe:∀ l∈bs,l.length<1000000) (hwe:∀ p∈ws,p.2.length<1000000) (w:World)
  (hb:Bls w w.heap.size (.slice A1 n1 c1) bs) (hw:Wrs w w.heap.size (.slice A2 n2 c2) ws) :
  Calls Tryz.prog 171 #[KJ A1 n1 c1 A2 n2 c2] w (fun e W=>∃ BB WW g,e=.returned (KJ (some ⟨BB,0,none⟩) bs.length bs.length (some ⟨WW,0,none⟩) ws.length (ws.length+1))∧jW w.heap.size bs ws BB WW g W∧Below w.heap.size w W):=by
 obtain⟨e1,hc1,hm1,hA1⟩:=hb.at_
 obtain⟨e2,hc2,hm2,hA2⟩:=hw.at_
 subst e1
 subst e2
 have HB:=zH hb
 have HW:=zH hw
 have hTb:Jn bs≤1000000000000:=Nat.le_trans (qhq hbe) (by omega)
 have hTw:Jn (ws.map (·.2))≤1000000000000:=Nat.le_trans (qhq (fun l hl=>by obtain⟨p,hp,rfl⟩:=List.mem_map.1 hl;exact hwe p hp)) (by rw[List.length_map];omega)
 clear hb hw hm1 hm2
 go_enter Tryz.func171,Tryz.ntmps171
 go_wp2_with fail
 generalize hw1:(World.alloc (World.alloc _ _) _)=w1
 have x1:Ext w w1:=by rw[←hw1];exact(zN _ _).trans (zN _ _)
 have r1:w1.heap[w.heap.size]?=some (.cells #[.slice A1 bs.length c1,.slice A2 ws.length c2] 25 (0,0)):=by rw[←hw1];exact(zK _ _ _ (by simp)).trans (zI _ _ _ rfl)
 have q1:w1.heap[w.heap.size+1]?=some (.cells #[.slice none 0 0,.slice none 0 0] 25 (0,0)):=by rw[←hw1];exact zI _ _ _ (by simp)
 have z1:w1.heap.size=w.heap.size+2:=by rw[←hw1];simp
 clear hw1
 go_wp2_with fail
 go_loopw [3,17] (fun all i wr=>∃ k:Nat,k≤bs.length∧i=.int .i64 (k:Int)∧all=.int .i64 ((Jn (bs.take k):Nat):Int)∧Ext w1 wr) (fun _ i _=>bs.length-(intOf i).toNat)
 case atStart=>exact⟨0,Nat.zero_le _,rfl,rfl,Ext.refl _⟩
 case round =>
  obtain⟨k,hk,rfl,rfl,hE⟩:=hrel
  have xw:Below w.heap.size w wr:=Ext.trans x1 hE
  have rr:=qb r1 hE
  have kr:=qa rr
  by_cases hlt:k<bs.length
  ·obtain⟨b1,o1,rfl,hb1⟩:=hA1 (by omega)
   obtain⟨A',c',hc,_⟩:=(HB.out.below xw).get k hlt
   have hsn:=Yx hlt
   have hle:=vA bs (k+1)
   generalize bs[k].length=m at *
   generalize Jn (bs.take k)=q at *
   have hwq:=zH (IntWalk.wrap64_in ((q:Int)+(m:Int)) (by omega))
   have hwk:=zH (IntWalk.wrap64_in ((k:Int)+1) (by omega))
   go_wp2_with fail
   refine⟨⟨k+1,by omega,by push_cast;rfl,by rw[hsn];push_cast;rfl,hE⟩,?_⟩
   simp[intOf]
   omega
  ·obtain rfl:k=bs.length:=by omega
   rw[List.take_length]
   generalize hwm:wr=wm at *
   clear hwm kr rr
   have r2:=qb r1 hE
   have q2:=qb q1 hE
   have k2:=qa r2
   obtain⟨tb,htb⟩:∃ tb,tb=Jn bs:=⟨_,rfl⟩
   obtain⟨tw,htw⟩:∃ tw,tw=Jn (ws.map (·.2)):=⟨_,rfl⟩
   rw[←htb] at hTb ⊢
   rw[←htw] at hTw
   replace htb:=zH htb
   replace htw:=zH htw
   go_wp2_with fail
   go_loopw [3,29] (fun all i wr=>∃ k:Nat,k≤ws.length∧i=.int .i64 (k:Int)∧all=.int .i64 ((tb+Jn ((ws.take k).map (·.2)):Nat):Int)∧Ext wm wr) (fun _ i _=>ws.length-(intOf i).toNat)
   case atStart=>exact⟨0,Nat.zero_le _,rfl,rfl,Ext.refl _⟩
   case round =>
    obtain⟨k,hk,rfl,rfl,hE2⟩:=hrel
    have xw2:Below w.heap.size w wr:=Ext.trans xw hE2
    have rr:=qb r2 hE2
    have kr:=qa rr
    clear k2
    by_cases hlt:k<ws.length
    ·obtain⟨b2,o2,rfl,hb2⟩:=hA2 (by omega)
     obtain⟨A',c',ha,hc,_⟩:=(HW.out.below xw2).get k hlt
     have hsn:Jn ((ws.take (k+1)).map (·.2))=Jn ((ws.take k).map (·.2))+ws[k].2.length:=by
      rw[List.map_take,List.map_take,Yx (by rw[List.length_map];exact hlt),List.getElem_map]
     have hle:Jn ((ws.take (k+1)).map (·.2))≤tw:=by rw[htw.out,List.map_take];exact vA _ _
     generalize ws[k].2.length=m at *
     generalize ws[k].1=pn at *
     generalize Jn ((ws.take k).map (·.2))=q at *
     have hwq:=zH (IntWalk.wrap64_in (((tb+q:Nat):Int)+(m:Int)) (by omega))
     have hwk:=zH (IntWalk.wrap64_in ((k:Int)+1) (by omega))
     go_wp2_with fail
     refine⟨⟨k+1,by omega,by push_cast;rfl,by rw[hsn];push_cast;rw[Int.add_assoc],hE2.trans (zN _ _)⟩,?_⟩
     simp[intOf]
     omega
    ·obtain rfl:k=ws.length:=by omega
     rw[List.take_length,←htw.out]
     have hmk:=qgh (T:=tb+tw) (by omega)
     obtain⟨T,hT⟩:∃ T,T=tb+tw:=⟨_,rfl⟩
     rw[←hT] at hmk ⊢
     have hT2:T≤2000000000000:=by omega
     replace hT:=zH hT
     go_wp2_with fail
     generalize hwn:World.alloc (World.alloc _ _) _=wn
     have x3:Ext wr wn:=by rw[←hwn];exact(zN _ _).trans (zN _ _)
     have g3:wn.heap[wr.heap.size]?=some (.cells (madeCells #[.int .u8 0] T) 5 (0,0)):=by rw[←hwn];exact(zK _ _ _ (by simp)).trans (zI _ _ _ rfl)
     have b3:wn.heap[wr.heap.size+1]?=some (.cells #[.slice (some ⟨wr.heap.size,0,none⟩) T T] 257 (0,0)):=by rw[←hwn];exact zI _ _ _ (by simp)
     have zn0:wn.heap.size=wr.heap.size+2:=by rw[←hwn];simp
     clear hwn hmk
     have r3:=qb rr x3
     have q3:=qb (qb q2 hE2) x3
     have xw3:Ext w wn:=Ext.trans xw2 x3
     have k3:=qa r3
     have zr:=(zG.1 q2).1
     have zr2:=hE2.size
     have zn:wn.heap.size=wr.heap.size+2:=zn0
     clear kr rr r2 q2 r1 q1 x1 hE hE2 xw xw2
     generalize wr.heap.size=s0 at g3 b3 zn zr2 ⊢
     have zs0:w.heap.size+1<s0:=by omega
     clear zr zr2 zn0
     have g1:∀ W,ql.r wn W→∀ i,W.cell? ⟨w.heap.size,i,none⟩=#[.slice A1 bs.length c1,.slice A2 ws.length c2][i]?:=fun W h=>qa (qb r3 h)
     have hmkB:=Tk hbl
     have hmkW:=qcK hwl
     have hi1:=zH (IntWalk.i64_in ((ws.length:Int)+1) (by omega))
     have hwm1:wrap64 ((ws.length:Int)+1)=(ws.length:Int)+1:=IntWalk.wrap64_in _ (by omega)
     go_wp2_with fail
     refine qo (by kernel_rfl) ?_
     refine qO (w:=wn) ql (qF [(3,Ut wn.heap.size bs.length bs.length 26 (madeCells #[.slice none 0 0] bs.length)),(11,Ut wn.heap.size ws.length (ws.length+1) 130 (madeCells #[.int .i64 0,.slice none 0 0] ((ws.length+1)*2))),(13,jT wn.heap.size 25 #[.slice none 0 0,.slice none 0 0])])
      [true,true,true,true,true,true,true,true,true,true,true,true,true,true] 1 (by kernel_rfl) (by kernel_rfl) (by kernel_rfl) (by kernel_rfl) (by kernel_rfl) (by kernel_rfl) (by kernel_rfl) ?st (Rel.drew _ _) ?walk
     case st=>exact qk (by simp only[List.forall_mem_cons];exact⟨Ke _ _ _ _ _,Ke _ _ _ _ _,fun p=>QK (ZX _ _ _ p),fun _ h=>by cases h⟩)
     case walk =>
      intro K hK
      dsimp only[qp]
      repeat ((first|(refine qe ?_ (by rfl) (by rfl) (fun W hW _=>⟨W,?_,Rel.refl _ W⟩) ?_;rotate_left;(go_simp<;>with_reducible rfl))|(refine qh (by rfl) ?_));try simp only[Act.put,qj,qf,qc,qg,QX,Zt,qc,zA,zB,zC])
      refine qy (Ut wn.heap.size bs.length bs.length 26 (madeCells #[.slice none 0 0] bs.length)) (by rfl) (by rfl) (fun W hW _=>?_) (fun (BB:Nat)=>?_)
      ·have hW:Ext wn W:=hW
       refine ZW (u:=.slice (some ⟨W.heap.size,0,none⟩) bs.length bs.length) (w':=W.alloc (.cells (madeCells #[.slice none 0 0] bs.length) 26)) ?_ ⟨W.heap.size,rfl,⟨zI _ _ _ rfl,hW.size⟩,zN _ _⟩
       go_simp
      simp only[Act.put,qj,qf,qc,qg,QX,Zt,qc,zA,zB,zC]
      repeat ((first|(refine qe ?_ (by rfl) (by rfl) (fun W hW _=>⟨W,?_,Rel.refl _ W⟩) ?_;rotate_left;(go_simp<;>with_reducible rfl))|(refine qh (by rfl) ?_));try simp only[Act.put,qj,qf,qc,qg,QX,Zt,qc,zA,zB,zC])
      refine qy (Ut wn.heap.size ws.length (ws.length+1) 130 (madeCells #[.int .i64 0,.slice none 0 0] ((ws.length+1)*2))) (by rfl) (by rfl) (fun W hW _=>?_) (fun (WW:Nat)=>?_)
      ·have hW:Ext wn W:=hW
       refine ZW (u:=.slice (some ⟨W.heap.size,0,none⟩) ws.length (ws.length+1)) (w':=W.alloc (.cells (madeCells #[.int .i64 0,.slice none 0 0] ((ws.length+1)*2)) 130)) ?_ ⟨W.heap.size,rfl,⟨zI _ _ _ rfl,hW.size⟩,zN _ _⟩
       go_simp
       rw[hi1.out,hmkW]
       rfl
      simp only[Act.put,qj,qf,qc,qg,QX,Zt,qc,zA,zB,zC]
      repeat ((first|(refine qe ?_ (by rfl) (by rfl) (fun W hW _=>⟨W,?_,Rel.refl _ W⟩) ?_;rotate_left;(go_simp<;>with_reducible rfl))|(refine qh (by rfl) ?_));try simp only[Act.put,qj,qf,qc,qg,QX,Zt,qc,zA,zB,zC])
      refine qy (jT wn.heap.size 25 #[.slice none 0 0,.slice none 0 0]) (by rfl) (by rfl) (fun W hW _=>?_) (fun (ob:Nat)=>?_)
      ·have hW:Ext wn W:=hW
       refine jY ?_ hW.size
       go_simp
      simp only[Act.put,qj,qf,qc,qg,QX,Zt,qc,zA,zB,zC]
      repeat ((first|(refine qe ?_ (by rfl) (by rfl) (fun W hW _=>⟨W,?_,Rel.refl _ W⟩) ?_;rotate_left;(go_simp<;>with_reducible rfl))|(refine qh (by rfl) ?_));try simp only[Act.put,qj,qf,qc,qg,QX,Zt,qc,zA,zB,zC])
      refine qt (hK _ _ fun W hW hF=>?_)
      have hBB:W.heap[BB]?=some (.cells (madeCells #[.slice none 0 0] bs.length) 26 (0,0))∧wn.heap.size≤BB:=(hF 3).1
      have hWW:W.heap[WW]?=some (.cells (madeCells #[.int .i64 0,.slice none 0 0] ((ws.length+1)*2)) 130 (0,0))∧wn.heap.size≤WW:=(hF 11).1
      have hob:W.heap[ob]?=some (.cells #[.slice none 0 0,.slice none 0 0] 25 (0,0))∧wn.heap.size≤ob:=(hF 13).1
      have hW:Ext wn W:=hW
      have ko:=qa hob.1
      have fo:=qd hob.1
      clear hF hK g1 hmkB hmkW hwm1 k3
      dsimp only[List.drop,List.length_cons,List.length_nil]
      go_wp2
      refine Qm ?_
      have rob:=qi (qi hob.1 0 (.slice (some ⟨BB,0,none⟩) bs.length bs.length)) 1 (.slice (some ⟨WW,0,none⟩) ws.length (ws.length+1))
      have st:∀ b,b≠ob→((W.setCell ⟨ob,0,none⟩ (.slice (some ⟨BB,0,none⟩) bs.length bs.length)).setCell ⟨ob,1,none⟩ (.slice (some ⟨WW,0,none⟩) ws.length (ws.length+1))).heap[b]?=W.heap[b]?:=fun b hb=>(zJ _ _ _ _ hb).trans (zJ _ _ _ _ hb)
      have n1:BB≠ob:=qJ hBB.1 hob.1 (by decide)
      have n2:WW≠ob:=qJ hWW.1 hob.1 (by decide)
      have hob2:=hob.2
      have B5:Below s0 wn ((W.setCell ⟨ob,0,none⟩ (.slice (some ⟨BB,0,none⟩) bs.length bs.length)).setCell ⟨ob,1,none⟩ (.slice (some ⟨WW,0,none⟩) ws.length (ws.length+1))):=Below.setCell (Below.setCell (Below.mono hW (by omega)) (p:=⟨ob,0,none⟩) (by show s0≤ob;omega) _) (p:=⟨ob,1,none⟩) (by show s0≤ob;omega) _
      have T0:TwS bs ws T s0 wn (s0+1) s0 BB WW ob 0 0 0 ((W.setCell ⟨ob,0,none⟩ (.slice (some ⟨BB,0,none⟩) bs.length bs.length)).setCell ⟨ob,1,none⟩ (.slice (some ⟨WW,0,none⟩) ws.length (ws.length+1))):=
       ⟨B5,⟨by omega,by omega,by omega,by omega,by omega⟩,rob,⟨0,T,_,⟨(st _ (by omega)).trans (qb b3 hW),(st _ (by omega)).trans (qb g3 hW),by omega,by rw[size_madeCells];omega,by omega⟩,zM _,fun _=>rfl,by omega,size_madeCells _ _⟩,
        ⟨_,(st _ n1).trans hBB.1,size_madeCells _ _,fun _ _ _ h=>by omega⟩,⟨_,(st _ n2).trans hWW.1,size_madeCells _ _,fun _ _ _ h=>by omega⟩⟩
      generalize World.setCell (World.setCell W _ _) _ _=w6 at *
      clear n1 n2 hob2 rob st hob hWW hBB hW g3 b3 ko fo
      have r6:=(B5.block w.heap.size (by omega)).trans r3
      have q6:=(B5.block (w.heap.size+1) (by omega)).trans q3
      have xw6:Below w.heap.size w w6:=Below.trans xw3 (Below.mono B5 (by omega))
      have k6:=qa r6
      have I0:TwI bs ws T s0 wn (s0+1) s0 BB WW ob (.int .i64 0) w6:=⟨0,Nat.zero_le _,rfl,T0⟩
      replace I0:=zH I0
      have r3':=zH r3
      have q3':=zH q3
      clear B5 T0 r3 q3 x3 r6
      go_wp2_with fail
      go_loopw [57] (fun i wr=>TwI bs ws T s0 wn (s0+1) s0 BB WW ob i wr) (fun i _=>bs.length-(intOf i).toNat)
      case atStart=>exact I0.out
      case round =>
       obtain⟨k,hk,rfl,hTS⟩:=hrel.ex
       clear hrel I0 k6
       have xwr:Below w.heap.size w wr:=Below.trans xw3 (Below.mono hTS.below (by omega))
       have rr:=(hTS.below.block w.heap.size (by omega)).trans r3'.out
       have kr:=qa rr
       by_cases hlt:k<bs.length
       ·have hlt':=hlt
        obtain⟨b1,o1,rfl,hb1⟩:=hA1 (by omega)
        obtain⟨A',c',hc,hby⟩:=(HB.out.below xwr).get k hlt
        have hsn:=Yx hlt
        have hle:=vA bs (k+1)
        have hgk:=zL hlt
        generalize bs[k]=l at *
        obtain⟨o,n,cur,hH,q1,q2,q3,q4⟩:=hTS.heap
        have hln:l.length≤n:=by have:=hT.out;have:=htb.out;omega
        have hby':Bys wr wr.heap.size (.slice A' l.length c') l:=hby.more xwr.size
        have hout:=hTS.out
        have zob:=(zG.1 hout).1
        obtain⟨cb,rb,sb,_⟩:=hTS.bb
        have n1:ob≠s0+1:=qJ hout hH.box (by decide)
        have n2:ob≠s0:=qJ hout hH.row (by decide)
        have n3:BB≠s0+1:=qJ rb hH.box (by decide)
        have n4:BB≠s0:=qJ rb hH.row (by decide)
        have hle2:∀ a b,ql.r a b→(Xd (s0+1) s0).r a b:=qgG
        obtain⟨RR,hRR⟩:∃ RR:Rel,RR=Xd (s0+1) s0:=⟨_,rfl⟩
        rw[←hRR] at hle2
        have hle:=hle2
        have g1:∀ W,RR.r wr W→∀ i,W.cell? ⟨ob,i,none⟩=#[.slice (some ⟨BB,0,none⟩) bs.length bs.length,.slice (some ⟨WW,0,none⟩) ws.length (ws.length+1)][i]?:=fun W h=>qa (Vo (hRR ▸ h) n1 n2 hout)
        replace hRR:=zH hRR
        replace hTS:=zH hTS
        replace hsn:=zH hsn
        replace hgk:=zH hgk
        replace hH:=zH hH
        replace rb:=zH rb
        clear q1 q2 q3 q4 hle2 hA2
        go_wp2_with fail
        refine qo (by kernel_rfl) ?_
        refine qbb (w:=wr) ql RR 4 hle (qF [(4,Ur (s0+1) s0 o n cur l)]) [true,true,true,true,true,true] 1 (by kernel_rfl) (by kernel_rfl) (by kernel_rfl) (by kernel_rfl) (by kernel_rfl) (by kernel_rfl) (by kernel_rfl) ?st one_at (Rel.drew _ _) ?walk
        case st=>exact qk (by simp only[List.forall_mem_cons];exact⟨Tb _ _ _ _ _ _,fun _ h=>by cases h⟩)
        case walk =>
         intro K hK
         dsimp only[qp]
         repeat ((first|(refine jo hle ?_ (by rfl) (by rfl) (fun W hW _=>?_) ?_;rotate_left;(go_simp<;>with_reducible rfl))|(refine Jt (by rfl) ?_));try simp only[Act.put,qj,qf,qc,qg,QX,Zt,qc,zA,zB,zC])
         refine Gr (Ur (s0+1) s0 o n cur l) (by rfl) (by rfl) (fun W hW _=>?_) (fun (p:Nat)=>?_)
         ·have hW:Ext wr W:=hW
          refine Qg ?_ ((Gx (s0+1) s0 o n cur A' c' l hln W ⟨qb hH.out.box hW,qb hH.out.row hW,hH.out.ne,hH.out.fit,hH.out.few⟩ (hby'.below hW |>.more hW.size)).mono fun e w' h=>?_)
          ·go_simp
          obtain⟨o',rfl,h1,h2,h3,e1,e2,e3,e4,e5⟩:=h
          refine⟨o',rfl,⟨h1,h2,h3⟩,?_⟩
          rw[hRR.out]
          exact⟨e2,e3,e4,Nat.le_of_eq e1.symm,fun b _ h1 h2=>e5 b h1 h2⟩
         simp only[Act.put,qj,qf,qc,qg,QX,Zt,qc,zA,zB,zC]
         repeat ((first|(refine jo hle ?_ (by rfl) (by rfl) (fun W hW _=>?_) ?_;rotate_left;(go_simp<;>with_reducible rfl))|(refine Jt (by rfl) ?_));try simp only[Act.put,qj,qf,qc,qg,QX,Zt,qc,zA,zB,zC])
         first
          |(refine jo hle (.pointer (some ⟨BB,0+k,none⟩)) (by rfl) (by rfl) (fun W hW _=>?_) ?_
            ·go_simp
             rw[IntWalk.i64_in (k:Int) (by omega),if_pos (by omega)]
             simp
            simp only[Act.put,qj,qf,qc,qg,QX,Zt,qc,zA,zB,zC])
          |skip
         repeat ((first|(refine jo hle ?_ (by rfl) (by rfl) (fun W hW _=>?_) ?_;rotate_left;(go_simp<;>with_reducible rfl))|(refine Jt (by rfl) ?_));try simp only[Act.put,qj,qf,qc,qg,QX,Zt,qc,zA,zB,zC])
         refine qbj (hK _ _ fun W hW hF=>?_)
         obtain⟨h1,h2,hH'⟩:(Ur (s0+1) s0 o n cur l).φ p W:=(hF 4).1
         clear hF hK g1
         rw[hRR.out] at hW
         dsimp only[List.drop,List.length_cons,List.length_nil]
         obtain⟨T1,hin⟩:=hTS.out.clone hH.out hln hW h1 h2 hH'
         have rB:=Vo hW n3 n4 rb.out
         have kB:=qa rB k
         have fB:=qd rB k
         rw[Array.getElem?_eq_getElem (by omega)] at kB
         generalize cb[k]=u0 at *
         have T2:=T1.setB hgk.out hin
         rw[←hsn.out] at T2
         have IR:TwI bs ws T s0 wn (s0+1) s0 BB WW ob (.int .i64 ((k:Int)+1)) (W.setCell ⟨BB,k,none⟩ (.slice (some ⟨s0,o,none⟩) l.length l.length)):=⟨k+1,by omega,rfl,T2⟩
         replace IR:=zH IR
         have hwk:=zH (IntWalk.wrap64_in ((k:Int)+1) (by omega))
         clear T1 T2 hin hW h1 h2 hH' rB rb hTS hH hsn hgk
         go_wp2
         refine Qm ?_
         go_wp2_with fail
         try rw[hwk.out]
         refine⟨IR.out,?_⟩
         simp[intOf]
         omega
       ·obtain rfl:k=bs.length:=by omega
        rw[List.take_length] at hTS
        have J0:TwJ bs ws T s0 wn (s0+1) s0 BB WW ob (.int .i64 0) wr:=⟨0,Nat.zero_le _,rfl,hTS⟩
        replace J0:=zH J0
        generalize hwk:wr=wk at *
        clear hwk hTS xwr
        go_wp2_with fail
        go_loopw [72] (fun i wr=>TwJ bs ws T s0 wn (s0+1) s0 BB WW ob i wr) (fun i _=>ws.length-(intOf i).toNat)
        case atStart=>exact J0.out
        case round =>
         obtain⟨k,hk,rfl,hTS⟩:=hrel.ex
         clear hrel J0 kr rr
         have xwr:Below w.heap.size w wr:=Below.trans xw3 (Below.mono hTS.below (by omega))
         have rr:=(hTS.below.block w.heap.size (by omega)).trans r3'.out
         have kr:=qa rr
         by_cases hlt:k<ws.length
         ·have hlt':=hlt
          obtain⟨b2,o2,rfl,hb2⟩:=hA2 (by omega)
          obtain⟨A',c',ha,hc,hby⟩:=(HW.out.below xwr).get k hlt
          have hsn:Jn ((ws.take (k+1)).map (·.2))=Jn ((ws.take k).map (·.2))+ws[k].2.length:=by
           rw[List.map_take,List.map_take,Yx (by rw[List.length_map];exact hlt),List.getElem_map]
          have hle:Jn ((ws.take (k+1)).map (·.2))≤tw:=by rw[htw.out,List.map_take];exact vA _ _
          have hgk:=zL hlt
          generalize ws[k]=pl at *
          obtain⟨pn,l⟩:=pl
          simp only at ha hc hby hsn
          go_upto_region 22 with fail
          generalize hwp:World.alloc wr _=wp
          have xp:Ext wr wp:=by rw[←hwp];exact zN _ _
          have tp:wp.heap[wr.heap.size]?=some (.cells #[.int .i64 pn,.slice A' l.length c'] 130 (0,0)):=by rw[←hwp];exact zI _ _ _ rfl
          clear hwp
          have hls:s0≤wr.heap.size:=Nat.le_trans (Nat.le_trans (by omega) hTS.below.size) (zM _)
          have hTP:=hTS.ext xp hls
          obtain⟨o,n,cur,hH,q1,q2,q3,q4⟩:=hTP.heap
          have hln:l.length≤n:=by have:=hT.out;have:=htb.out;omega
          have hby':Bys wp wp.heap.size (.slice A' l.length c') l:=(hby.below (Below.mono xp xwr.size)).more (by have:=xp.size;have:=xwr.size;omega)
          have hout:=hTP.out
          obtain⟨cw,rw_,sw,_⟩:=hTP.ww
          have zhb:=(zG.1 ((hTS.heap).choose_spec.choose_spec.choose_spec.1.box)).1
          have zg:=(zG.1 ((hTS.heap).choose_spec.choose_spec.choose_spec.1.row)).1
          have zw:=(zG.1 (hTS.ww.choose_spec.1)).1
          have n1:ob≠s0+1:=qJ hout hH.box (by decide)
          have n2:ob≠s0:=qJ hout hH.row (by decide)
          have n3:WW≠s0+1:=qJ rw_ hH.box (by decide)
          have n4:WW≠s0:=qJ rw_ hH.row (by decide)
          have hle2:∀ a b,ql.r a b→(Xd (s0+1) s0).r a b:=qgG
          obtain⟨RR,hRR⟩:∃ RR:Rel,RR=Xd (s0+1) s0:=⟨_,rfl⟩
          rw[←hRR] at hle2
          have hle:=hle2
          generalize wr.heap.size=tt at tp hls zhb zg zw ⊢
          have g1:∀ W,RR.r wp W→∀ i,W.cell? ⟨ob,i,none⟩=#[.slice (some ⟨BB,0,none⟩) bs.length bs.length,.slice (some ⟨WW,0,none⟩) ws.length (ws.length+1)][i]?:=fun W h=>qa (Vo (hRR ▸ h) n1 n2 hout)
          have g2:∀ W,RR.r wp W→∀ i,W.cell? ⟨tt,i,none⟩=#[.int .i64 pn,.slice A' l.length c'][i]?:=fun W h=>qa (Vo (hRR ▸ h) (by omega) (by omega) tp)
          replace hRR:=zH hRR
          replace hTP:=zH hTP
          replace hsn:=zH hsn
          replace hgk:=zH hgk
          replace hH:=zH hH
          replace rw_:=zH rw_
          clear q1 q2 q3 q4 hle2 hTS hby ha hc hA1 tp xp rr kr
          refine qo (by kernel_rfl) ?_
          refine qbb (w:=wp) ql RR 7 hle (qF [(7,Ur (s0+1) s0 o n cur l)]) [true,true,true,true,true,true,true,true,true,true] 1 (by kernel_rfl) (by kernel_rfl) (by kernel_rfl) (by kernel_rfl) (by kernel_rfl) (by kernel_rfl) (by kernel_rfl) ?st one_at (Rel.drew _ _) ?walk
          case st=>exact qk (by simp only[List.forall_mem_cons];exact⟨Tb _ _ _ _ _ _,fun _ h=>by cases h⟩)
          case walk =>
           intro K hK
           dsimp only[qp]
           repeat ((first|(refine jo hle ?_ (by rfl) (by rfl) (fun W hW _=>?_) ?_;rotate_left;(go_simp<;>with_reducible rfl))|(refine Jt (by rfl) ?_));try simp only[Act.put,qj,qf,qc,qg,QX,Zt,qc,zA,zB,zC])
           refine Gr (Ur (s0+1) s0 o n cur l) (by rfl) (by rfl) (fun W hW _=>?_) (fun (p:Nat)=>?_)
           ·have hW:Ext wp W:=hW
            refine Qg ?_ ((Gx (s0+1) s0 o n cur A' c' l hln W ⟨qb hH.out.box hW,qb hH.out.row hW,hH.out.ne,hH.out.fit,hH.out.few⟩ (hby'.below hW |>.more hW.size)).mono fun e w' h=>?_)
            ·go_simp
            obtain⟨o',rfl,h1,h2,h3,e1,e2,e3,e4,e5⟩:=h
            refine⟨o',rfl,⟨h1,h2,h3⟩,?_⟩
            rw[hRR.out]
            exact⟨e2,e3,e4,Nat.le_of_eq e1.symm,fun b _ h1 h2=>e5 b h1 h2⟩
           simp only[Act.put,qj,qf,qc,qg,QX,Zt,qc,zA,zB,zC]
           repeat ((first|(refine jo hle ?_ (by rfl) (by rfl) (fun W hW _=>?_) ?_;rotate_left;(go_simp<;>with_reducible rfl))|(refine Jt (by rfl) ?_));try simp only[Act.put,qj,qf,qc,qg,QX,Zt,qc,zA,zB,zC])
           first
            |(refine jo hle (.pointer (some ⟨WW,0+k*2,none⟩)) (by rfl) (by rfl) (fun W hW _=>?_) ?_
              ·go_simp
               rw[IntWalk.i64_in (k:Int) (by omega),if_pos (by omega)]
               simp
              simp only[Act.put,qj,qf,qc,qg,QX,Zt,qc,zA,zB,zC])
            |skip
           repeat ((first|(refine jo hle ?_ (by rfl) (by rfl) (fun W hW _=>?_) ?_;rotate_left;(go_simp<;>with_reducible rfl))|(refine Jt (by rfl) ?_));try simp only[Act.put,qj,qf,qc,qg,QX,Zt,qc,zA,zB,zC])
           refine qbj (hK _ _ fun W hW hF=>?_)
           obtain⟨h1,h2,hH'⟩:(Ur (s0+1) s0 o n cur l).φ p W:=(hF 7).1
           clear hF hK g1 g2
           rw[hRR.out] at hW
           dsimp only[List.drop,List.length_cons,List.length_nil]
           obtain⟨T1,hin⟩:=hTP.out.clone hH.out hln hW h1 h2 hH'
           have rB:=Vo hW n3 n4 rw_.out
           have kB:=qa rB (k*2)
           have kC:=qa rB (k*2+1)
           have fB:=qd rB
           rw[Array.getElem?_eq_getElem (by omega)] at kB kC
           generalize cw[k*2]=u0 at *
           generalize cw[k*2+1]=u1 at *
           have T2:=T1.setW hgk.out hin
           rw[Nat.add_assoc,←hsn.out] at T2
           have IR:TwJ bs ws T s0 wn (s0+1) s0 BB WW ob (.int .i64 ((k:Int)+1)) ((W.setCell ⟨WW,k*2,none⟩ (.int .i64 pn)).setCell ⟨WW,k*2+1,none⟩ (.slice (some ⟨s0,o,none⟩) l.length l.length)):=⟨k+1,by omega,rfl,T2⟩
           replace IR:=zH IR
           have hwk:=zH (IntWalk.wrap64_in ((k:Int)+1) (by omega))
           clear T1 T2 hin hW h1 h2 hH' rB rw_ hTP hH hsn hgk
           go_wp2
           refine Qm ?_
           go_wp2_with fail
           try rw[hwk.out]
           refine⟨IR.out,?_⟩
           simp[intOf]
           omega
         ·obtain rfl:k=ws.length:=by omega
          have DT:=hTS.done
          have qq:=(hTS.below.block (w.heap.size+1) (by omega)).trans q3'.out
          have kq:=qa qq
          have fq:=qd qq
          have ko:=qa hTS.out
          have zq:=(zG.1 qq).1
          have rf:=qi (qi qq 0 (.slice (some ⟨BB,0,none⟩) bs.length bs.length)) 1 (.slice (some ⟨WW,0,none⟩) ws.length (ws.length+1))
          have kf:=qa rf
          have bf:Below w.heap.size w ((wr.setCell ⟨w.heap.size+1,0,none⟩ (.slice (some ⟨BB,0,none⟩) bs.length bs.length)).setCell ⟨w.heap.size+1,1,none⟩ (.slice (some ⟨WW,0,none⟩) ws.length (ws.length+1))):=Below.setCell (Below.setCell xwr (p:=⟨w.heap.size+1,0,none⟩) (Nat.le_succ _) _) (p:=⟨w.heap.size+1,1,none⟩) (Nat.le_succ _) _
          have DF:jW w.heap.size bs ws BB WW s0 ((wr.setCell ⟨w.heap.size+1,0,none⟩ (.slice (some ⟨BB,0,none⟩) bs.length bs.length)).setCell ⟨w.heap.size+1,1,none⟩ (.slice (some ⟨WW,0,none⟩) ws.length (ws.length+1))):=
           DT.keep (by omega) (by simp) (fun b h1 _=>(zJ _ _ _ _ (by show b≠w.heap.size+1;omega)).trans (zJ _ _ _ _ (by show b≠w.heap.size+1;omega)))
          replace kf:=zH kf
          replace bf:=zH bf
          replace DF:=zH DF
          clear rf DT hTS
          go_wp2
          have kf:=kf.out
          exact bodyPost_ret (v:=KJ (some ⟨BB,0,none⟩) bs.length bs.length (some ⟨WW,0,none⟩) ws.length (ws.length+1)) (by simp[results,Tryz.results171,go_sem,kf]) rfl ⟨BB,WW,s0,rfl,DF.out,bf.out⟩
def Vb (w:World) (b:Nat):Nat→List Value→World
 |_,[]=>w
 |k,v :: r=>Vb (w.setCell ⟨b,k,none⟩ v) b (k+1) r
def Yd (cs:Array Value):Nat→List Value→Array Value
 |_,[]=>cs
 |k,v :: r=>Yd (cs.setIfInBounds k v) (k+1) r
theorem ZQ {b g:Nat} (h:g≠b):∀ (vs:List Value) (w:World) (k:Nat),(Vb w b k vs).heap[g]?=w.heap[g]?
 | [],_,_=>rfl
 |_ :: r,w,k=>(ZQ h r _ _).trans (zJ _ _ _ _ h)
theorem jv {b:Nat}:∀ (vs:List Value) (w:World) (k:Nat),(Vb w b k vs).heap.size=w.heap.size
 | [],_,_=>rfl
 |_ :: r,w,k=>(jv r _ _).trans (by simp)
theorem ZP {B b:Nat} {w0:World} (hB:B≤b):∀ (vs:List Value) (w:World) (k:Nat),Below B w0 w→Below B w0 (Vb w b k vs)
 | [],_,_,h=>h
 |v :: r,w,k,h=>ZP hB r _ _ (Below.setCell h (p:=⟨b,k,none⟩) hB v)
theorem jV {b:Nat} {t:TypeId}:∀ (vs:List Value) (w:World) (k:Nat) (cs:Array Value),w.heap[b]?=some (.cells cs t (0,0))→(Vb w b k vs).heap[b]?=some (.cells (Yd cs k vs) t (0,0))
 | [],_,_,_,h=>h
 |v :: r,w,k,cs,h=>jV r _ _ _ (qi h k v)
def outDT (lo:Nat) (bs:List (List UInt8)) (ws:List (Int×List UInt8)):qS:=⟨Nat×Nat×Nat,fun p=>KJ (some ⟨p.1,0,none⟩) bs.length bs.length (some ⟨p.2.1,0,none⟩) ws.length (ws.length+1),fun p W=>jW lo bs ws p.1 p.2.1 p.2.2 W⟩
theorem Kd (lo:Nat) (bs:List (List UInt8)) (ws:List (Int×List UInt8)) (b c g:Nat):(outDT lo bs ws).f (b,c,g)=KJ (some ⟨b,0,none⟩) bs.length bs.length (some ⟨c,0,none⟩) ws.length (ws.length+1):=rfl
theorem qcu (lo:Nat) (bs:List (List UInt8)) (ws:List (Int×List UInt8)):∀ p,qD ql ((outDT lo bs ws).φ p):=fun p W W' he h=>by
 have he:Ext W W':=he
 exact jW.keep h (zM _) he.size fun b _ hb=>he.block b hb
def TH (lo:Nat) (l:List UInt8):qS:=⟨Option Addr×Nat,fun p=>.slice p.1 l.length p.2,fun p W=>W.ownsRow lo 5 1 (.slice p.1 l.length p.2) l.length (l.map bv)⟩
theorem vY (lo:Nat) (l:List UInt8) (A:Option Addr) (c:Nat):(TH lo l).f (A,c)=.slice A l.length c:=rfl
theorem YL (lo:Nat) (l:List UInt8):∀ p,qD ql ((TH lo l).φ p):=fun p W W' he h=>QP h he
theorem Zi {w w':World} {lo:Nat} {e:TypeId} {size:Nat} {v:Value} {n:Nat} {xs:List Value} (h:w.ownsRow lo e size v n xs) (hk:∀ b,lo≤b→b<w.heap.size→w'.heap[b]?=w.heap[b]?):w'.ownsRow lo e size v n xs:=
 ⟨h.1,h.2.imp id fun ⟨g,cap,cur,h1,h2,h3,h4⟩=>⟨g,cap,cur,h1,h2,(hk g h2 (zG.1 h3).1).trans h3,h4⟩⟩
def QC (lo:Nat) (S:Sto) (u:Value) (W:World):Prop:=∃ BB WW g A3 c3 A4 c4,u=qX (some ⟨BB,0,none⟩) S.bs.length S.bs.length (some ⟨WW,0,none⟩) S.ws.length (S.ws.length+1) A3 S.now.length c3 A4 S.last.length c4∧jW lo S.bs S.ws BB WW g W ∧
 W.ownsRow lo 5 1 (.slice A3 S.now.length c3) S.now.length (S.now.map bv)∧W.ownsRow lo 5 1 (.slice A4 S.last.length c4) S.last.length (S.last.map bv)
theorem QC.keep {lo lo':Nat} {S:Sto} {u:Value} {W W2:World} (h:QC lo S u W) (hl:lo'≤lo) (hs:W.heap.size≤W2.heap.size) (hk:∀ b,lo≤b→b<W.heap.size→W2.heap[b]?=W.heap[b]?):QC lo' S u W2:=by
 obtain⟨BB,WW,g,A3,c3,A4,c4,e,h1,h2,h3⟩:=h
 exact⟨BB,WW,g,A3,c3,A4,c4,e,h1.keep hl hs hk,QF (Zi h2 hk) hl,QF (Zi h3 hk) hl⟩
theorem qbC {w w':World} {lo:Nat} {e:TypeId} {size:Nat} {v:Value} {n:Nat} {xs:List Value} (h:w.ownsRow lo e size v n xs) {b1:Nat} {c1:Array Value} {t1:TypeId} (h1:w.heap[b1]?=some (.cells c1 t1 (0,0))) (ht:t1≠e) (hk:∀ b,lo≤b→b<w.heap.size→b≠b1→w'.heap[b]?=w.heap[b]?):w'.ownsRow lo e size v n xs:=
 ⟨h.1,h.2.imp id fun ⟨g,cap,cur,g1,g2,h3,h4⟩=>⟨g,cap,cur,g1,g2,(hk g g2 (zG.1 h3).1 (qJ h3 h1 fun e=>ht e.symm)).trans h3,h4⟩⟩
theorem QC.keepT {lo lo':Nat} {S:Sto} {u:Value} {W W2:World} (h:QC lo S u W) (hl:lo'≤lo) (hs:W.heap.size≤W2.heap.size) {b1:Nat} {c1:Array Value} {t1:TypeId} (hr:W.heap[b1]?=some (.cells c1 t1 (0,0))) (ht:t1≠26∧t1≠130∧t1≠5) (hk:∀ b,lo≤b→b<W.heap.size→b≠b1→W2.heap[b]?=W.heap[b]?):QC lo' S u W2:=by
 obtain⟨BB,WW,g,A3,c3,A4,c4,e,h1,h2,h3⟩:=h
 exact⟨BB,WW,g,A3,c3,A4,c4,e,h1.keepT hl hs hr ht hk,QF (qbC h2 hr ht.2.2 hk) hl,QF (qbC h3 hr ht.2.2 hk) hl⟩
set_option maxRecDepth 100000 in
theorem qbI (A1:Option Addr) (n1 c1:Nat) (A2:Option Addr) (n2 c2:Nat) (A3:Option Addr) (n3 c3:Nat) (A4:Option Addr) (n4 c4:Nat) (S:Sto) (hS:Xx S) (w:World) (h:qP w w.heap.size (.slice A1 n1 c1) (.slice A2 n2 c2) (.slice A3 n3 c3) (.slice A4 n4 c4) S) :
  Calls Tryz.prog 152 #[qX A1 n1 c1 A2 n2 c2 A3 n3 c3 A4 n4 c4] w (zo (QC w.heap.size S) w):=by
 have HD:=zH (fun W (hW:Ext w W)=>qhF A1 n1 c1 A2 n2 c2 S.bs S.ws hS.bs hS.ws hS.be hS.we W (h.ext hW).bs (h.ext hW).ws)
 have HN:=zH (fun W (hW:Ext w W)=>vP _ S.now (by have:=hS.now;omega) W (h.ext hW).now)
 have HL:=zH (fun W (hW:Ext w W)=>vP _ S.last (by have:=hS.last;omega) W (h.ext hW).last)
 clear h hS
 go_enter Tryz.func152,Tryz.ntmps152
 go_wp2_with fail
 generalize hw1:(World.alloc (World.alloc _ _) _)=w1
 have x1:Ext w w1:=by rw[←hw1];exact(zN _ _).trans (zN _ _)
 have r1:w1.heap[w.heap.size]?=some (.cells #[.slice A1 n1 c1,.slice A2 n2 c2,.slice A3 n3 c3,.slice A4 n4 c4] 28 (0,0)):=by rw[←hw1];exact(zK _ _ _ (by simp)).trans (zI _ _ _ rfl)
 have q1:w1.heap[w.heap.size+1]?=some (.cells #[.slice none 0 0,.slice none 0 0,.slice none 0 0,.slice none 0 0] 28 (0,0)):=by rw[←hw1];exact zI _ _ _ (by simp)
 clear hw1
 have g1:∀ W,ql.r w1 W→∀ i,W.cell? ⟨w.heap.size,i,none⟩=#[.slice A1 n1 c1,.slice A2 n2 c2,.slice A3 n3 c3,.slice A4 n4 c4][i]?:=fun W h=>qa (qb r1 h)
 refine qo (by kernel_rfl) ?_
 refine qO (w:=w1) ql (qF [(2,outDT w1.heap.size S.bs S.ws),(5,TH w1.heap.size S.now),(8,TH w1.heap.size S.last)])
  [true,true,true,true,true,true,true,true,true,true] 1 (by kernel_rfl) (by kernel_rfl) (by kernel_rfl) (by kernel_rfl) (by kernel_rfl) (by kernel_rfl) (by kernel_rfl) ?st (Rel.drew _ _) ?walk
 case st=>exact qk (by simp only[List.forall_mem_cons];exact⟨qcu _ _ _,YL _ _,YL _ _,fun _ h=>by cases h⟩)
 case walk =>
  intro K hK
  dsimp only[qp]
  repeat ((first|(refine qe ?_ (by rfl) (by rfl) (fun W hW _=>⟨W,?_,Rel.refl _ W⟩) ?_;rotate_left;(go_simp<;>with_reducible rfl))|(refine qh (by rfl) ?_));try simp only[Act.put,qj,qf,qc,qg,Kd,vY,zA,zB,zC])
  refine qy (outDT w1.heap.size S.bs S.ws) (by rfl) (by rfl) (fun W hW _=>?_) (fun p=>?_)
  ·refine Qg ?_ ((HD.out W (Ext.trans x1 hW)).mono fun e w' h=>?_)
   ·go_simp
   have hW:Ext w1 W:=hW
   obtain⟨b,c,g,rfl,h1,hB⟩:=h
   exact⟨(b,c,g),rfl,h1.keep hW.size (zM _) (fun _ _ _=>rfl),hB⟩
  obtain⟨bb,cc,gg⟩:=p
  simp only[Act.put,qj,qf,qc,qg,Kd,vY,zA,zB,zC]
  repeat ((first|(refine qe ?_ (by rfl) (by rfl) (fun W hW _=>⟨W,?_,Rel.refl _ W⟩) ?_;rotate_left;(go_simp<;>with_reducible rfl))|(refine qh (by rfl) ?_));try simp only[Act.put,qj,qf,qc,qg,Kd,vY,zA,zB,zC])
  refine qy (TH w1.heap.size S.now) (by rfl) (by rfl) (fun W hW _=>?_) (fun p=>?_)
  ·refine Qg ?_ ((HN.out W (Ext.trans x1 hW)).mono fun e w' h=>?_)
   ·go_simp
   have hW:Ext w1 W:=hW
   obtain⟨u,rfl,hu,hB⟩:=h
   obtain⟨A,c,rfl,_,_⟩:=qv hu
   exact⟨(A,c),rfl,QF hu hW.size,hB⟩
  obtain⟨B3,d3⟩:=p
  simp only[Act.put,qj,qf,qc,qg,Kd,vY,zA,zB,zC]
  repeat ((first|(refine qe ?_ (by rfl) (by rfl) (fun W hW _=>⟨W,?_,Rel.refl _ W⟩) ?_;rotate_left;(go_simp<;>with_reducible rfl))|(refine qh (by rfl) ?_));try simp only[Act.put,qj,qf,qc,qg,Kd,vY,zA,zB,zC])
  refine qy (TH w1.heap.size S.last) (by rfl) (by rfl) (fun W hW _=>?_) (fun p=>?_)
  ·refine Qg ?_ ((HL.out W (Ext.trans x1 hW)).mono fun e w' h=>?_)
   ·go_simp
   have hW:Ext w1 W:=hW
   obtain⟨u,rfl,hu,hB⟩:=h
   obtain⟨A,c,rfl,_,_⟩:=qv hu
   exact⟨(A,c),rfl,QF hu hW.size,hB⟩
  obtain⟨B4,d4⟩:=p
  simp only[Act.put,qj,qf,qc,qg,Kd,vY,zA,zB,zC]
  repeat ((first|(refine qe ?_ (by rfl) (by rfl) (fun W hW _=>⟨W,?_,Rel.refl _ W⟩) ?_;rotate_left;(go_simp<;>with_reducible rfl))|(refine qh (by rfl) ?_));try simp only[Act.put,qj,qf,qc,qg,Kd,vY,zA,zB,zC])
  refine qt (hK _ _ fun W hW hF=>?_)
  have hD:jW w1.heap.size S.bs S.ws bb cc gg W:=(hF 2).1
  have hN:W.ownsRow w1.heap.size 5 1 (.slice B3 S.now.length d3) S.now.length (S.now.map bv):=(hF 5).1
  have hL:W.ownsRow w1.heap.size 5 1 (.slice B4 S.last.length d4) S.last.length (S.last.map bv):=(hF 8).1
  have hW:Ext w1 W:=hW
  clear hF hK g1
  dsimp only[List.drop,List.length_cons,List.length_nil]
  have qW:=qb q1 hW
  have kW:=qa qW
  have fW:=qd qW
  have hz:w.heap.size+1<w1.heap.size:=(zG.1 q1).1
  have P5:∀ wx:World,wx=Vb W (w.heap.size+1) 0 [.slice (some ⟨bb,0,none⟩) S.bs.length S.bs.length,.slice (some ⟨cc,0,none⟩) S.ws.length (S.ws.length+1),.slice B3 S.now.length d3,.slice B4 S.last.length d4] →
    wx.heap[w.heap.size+1]?=some (.cells #[.slice (some ⟨bb,0,none⟩) S.bs.length S.bs.length,.slice (some ⟨cc,0,none⟩) S.ws.length (S.ws.length+1),.slice B3 S.now.length d3,.slice B4 S.last.length d4] 28 (0,0))∧Below w.heap.size w wx ∧
     QC w.heap.size S (qX (some ⟨bb,0,none⟩) S.bs.length S.bs.length (some ⟨cc,0,none⟩) S.ws.length (S.ws.length+1) B3 S.now.length d3 B4 S.last.length d4) wx:=fun wx e=>by
   have hk:∀ b,w1.heap.size≤b→b<W.heap.size→wx.heap[b]?=W.heap[b]?:=fun b h1 _=>by rw[e];exact ZQ (by omega) _ _ _
   have hs:W.heap.size≤wx.heap.size:=by rw[e,jv];exact zM _
   refine⟨by rw[e];refine(jV _ _ _ _ qW).trans ?_;simp[Yd],by rw[e];exact ZP (Nat.le_succ _) _ _ _ (Ext.trans x1 hW),bb,cc,gg,B3,d3,B4,d4,rfl,hD.keep (by omega) hs hk,QF (Zi hN hk) (by omega),QF (Zi hL hk) (by omega)⟩
  replace P5:=zH P5
  clear hD hN hL qW hW
  go_wp2
  refine Qm ?_
  go_wp2_with fail
  have P5:=P5.out
  generalize hw5:World.setCell (World.setCell (World.setCell (World.setCell W _ _) _ _) _ _) _ _=w5
  obtain⟨r5,x5,h5⟩:=P5 w5 hw5.symm
  clear P5 hw5
  have k5:=qa r5
  exact bodyPost_ret (v:=qX (some ⟨bb,0,none⟩) S.bs.length S.bs.length (some ⟨cc,0,none⟩) S.ws.length (S.ws.length+1) B3 S.now.length d3 B4 S.last.length d4) (by simp[results,Tryz.results152,go_sem,k5]) rfl ⟨_,rfl,h5,x5⟩
set_option maxRecDepth 100000 in
theorem kG (b:Nat) (A1:Option Addr) (n1 c1:Nat) (A2:Option Addr) (n2 c2:Nat) (A3:Option Addr) (n3 c3:Nat) (A4:Option Addr) (n4 c4:Nat) (S:Sto) (hS:Xx S) (w:World) (hr:w.heap[b]?=some (.cells #[.slice A1 n1 c1,.slice A2 n2 c2,.slice A3 n3 c3,.slice A4 n4 c4] 191 (0,0)))
  (h:qP w w.heap.size (.slice A1 n1 c1) (.slice A2 n2 c2) (.slice A3 n3 c3) (.slice A4 n4 c4) S) :
  Calls Tryz.prog 105 #[.pointer (some ⟨b,0,none⟩)] w (zo (QC w.heap.size S) w):=by
 have HT:=zH (fun W (hW:Ext w W)=>qbI A1 n1 c1 A2 n2 c2 A3 n3 c3 A4 n4 c4 S hS W (h.ext hW))
 clear h hS
 have k0:=qa hr
 have zb:b<w.heap.size:=(zG.1 hr).1
 go_enter Tryz.func105,Tryz.ntmps105
 go_wp2_with fail
 generalize hw1:World.alloc _ _=w1
 have x1:Ext w w1:=by rw[←hw1];exact zN _ _
 have q1:w1.heap[w.heap.size]?=some (.cells #[.slice none 0 0,.slice none 0 0,.slice none 0 0,.slice none 0 0] 28 (0,0)):=by rw[←hw1];exact zI _ _ _ (by simp)
 clear hw1 k0
 refine(HT.out w1 x1).mono ?_
 rintro e w2 ⟨u,rfl,hT,hB⟩
 have hB:Ext w1 w2:=hB
 have q2:=qb q1 hB
 have kq:=qa q2
 have fq:=qd q2
 have z1:w.heap.size<w1.heap.size:=(zG.1 q1).1
 obtain⟨BB,WW,g,B3,d3,B4,d4,rfl,hD,hN,hL⟩:=hT
 have P5:∀ wx:World,wx=Vb w2 w.heap.size 0 [.slice (some ⟨BB,0,none⟩) S.bs.length S.bs.length,.slice (some ⟨WW,0,none⟩) S.ws.length (S.ws.length+1),.slice B3 S.now.length d3,.slice B4 S.last.length d4] →
   wx.heap[w.heap.size]?=some (.cells #[.slice (some ⟨BB,0,none⟩) S.bs.length S.bs.length,.slice (some ⟨WW,0,none⟩) S.ws.length (S.ws.length+1),.slice B3 S.now.length d3,.slice B4 S.last.length d4] 28 (0,0))∧Below w.heap.size w wx ∧
    QC w.heap.size S (qX (some ⟨BB,0,none⟩) S.bs.length S.bs.length (some ⟨WW,0,none⟩) S.ws.length (S.ws.length+1) B3 S.now.length d3 B4 S.last.length d4) wx:=fun wx e=>by
  have hk:∀ b,w1.heap.size≤b→b<w2.heap.size→wx.heap[b]?=w2.heap[b]?:=fun b h1 _=>by rw[e];exact ZQ (by omega) _ _ _
  have hs:w2.heap.size≤wx.heap.size:=by rw[e,jv];exact zM _
  refine⟨by rw[e];refine(jV _ _ _ _ q2).trans ?_;simp[Yd],by rw[e];exact ZP (zM _) _ _ _ (x1.trans hB),BB,WW,g,B3,d3,B4,d4,rfl,hD.keep (by omega) hs hk,QF (Zi hN hk) (by omega),QF (Zi hL hk) (by omega)⟩
 replace P5:=zH P5
 clear hD hN hL q2 hB q1
 go_wp2_with fail
 have P5:=P5.out
 generalize hw5:World.setCell (World.setCell (World.setCell (World.setCell w2 _ _) _ _) _ _) _ _=w5
 obtain⟨r5,x5,h5⟩:=P5 w5 hw5.symm
 clear P5 hw5
 have k5:=qa r5
 exact bodyPost_ret (v:=qX (some ⟨BB,0,none⟩) S.bs.length S.bs.length (some ⟨WW,0,none⟩) S.ws.length (S.ws.length+1) B3 S.now.length d3 B4 S.last.length d4) (by simp[results,Tryz.results105,go_sem,k5]) rfl ⟨_,rfl,h5,x5⟩
theorem UY {w:World} {lo g n c k:Nat} {l:List UInt8} (h:w.ownsRow lo 5 1 (.slice (some ⟨g,0,none⟩) n c) n (l.map bv)) (hk:k<n) (x:UInt8):(w.setCell ⟨g,k,none⟩ (bv x)).ownsRow lo 5 1 (.slice (some ⟨g,0,none⟩) n c) n ((l.set k x).map bv):=by
 obtain⟨h1,h2⟩:=h
 rcases h2 with ⟨e,_⟩|⟨g',cap,cur,e,hg,hr,hc,hm,hs,ht⟩
 ·cases e
 ·cases e
  have hk2:k<cur.size:=by omega
  refine⟨by simpa using h1,.inr ⟨g,c,_,rfl,hg,qi hr k _,hc,hm,by simpa using hs,?_⟩⟩
  apply List.ext_getElem?
  intro i
  rw[List.map_set,←ht,List.getElem?_take,List.getElem?_set,List.getElem?_take]
  simp only[Nat.mul_one,Array.getElem?_toList,Array.getElem?_setIfInBounds,List.length_take,Array.length_toList]
  by_cases hi:i<n
  ·rw[if_pos hi,if_pos hi]
   by_cases e:k=i
   ·subst e
    rw[if_pos rfl,if_pos rfl,if_pos hk2,if_pos (by omega)]
   ·rw[if_neg e,if_neg e]
  ·rw[if_neg hi,if_neg hi,if_neg (by omega)]
theorem qel {w:World} {lo g n c b k:Nat} {l:List UInt8} {v:Value} (h:w.ownsRow lo 5 1 (.slice (some ⟨g,0,none⟩) n c) n (l.map bv)) (hg:g≠b):(w.setCell ⟨b,k,none⟩ v).ownsRow lo 5 1 (.slice (some ⟨g,0,none⟩) n c) n (l.map bv):=by
 obtain⟨h1,h2⟩:=h
 refine⟨h1,h2.imp id fun ⟨g',cap,cur,e,h3,h4,h5⟩=>?_⟩
 cases e
 exact⟨g,c,cur,rfl,h3,(zJ _ _ _ _ hg).trans h4,h5⟩
theorem Zc {w:World} {lo g n c:Nat} {l:List UInt8} (h:w.ownsRow lo 5 1 (.slice (some ⟨g,0,none⟩) n c) n (l.map bv)):(∀ k,k<n→w.cell? ⟨g,k,none⟩=some (.int .u8 ((l[k]?.getD 0).toNat:Int)))∧(∀ k,w.frozen? ⟨g,k,none⟩=false)∧lo≤g∧g<w.heap.size:=by
 have h1:=h.1
 obtain⟨h0,h2⟩:=h
 rcases h2 with ⟨e,_⟩|⟨g',cap,cur,e,hg,hr,hc,hm,hs,ht⟩
 ·cases e
 ·cases e
  refine⟨fun k hk=>?_,qd hr,hg,(zG.1 hr).1⟩
  have hl:l.length=n:=by simpa using h1
  have hkl:k<l.length:=by omega
  have e2:(l.map bv)[k]?=some (bv l[k]):=by rw[List.getElem?_map,zL hkl];rfl
  rw[←ht,List.getElem?_take,if_pos (by omega)] at e2
  have e3:cur[k]?=cur.toList[k]?:=by simp
  rw[qa hr,e3,e2,zL hkl]
  rfl
set_option maxRecDepth 100000 in
theorem qct (A1:Option Addr) (n1 c1:Nat) (A2:Option Addr) (n2 c2:Nat) (A3:Option Addr) (n3 c3:Nat) (A4:Option Addr) (n4 c4:Nat) (S:Sto) (hl:S.now.length<1073741824) (w:World) (h:qP w w.heap.size (.slice A1 n1 c1) (.slice A2 n2 c2) (.slice A3 n3 c3) (.slice A4 n4 c4) S) :
  Calls Tryz.prog 66 #[qX A1 n1 c1 A2 n2 c2 A3 n3 c3 A4 n4 c4] w (zo (fun u W=>∃ b A3' c3',u=.pointer (some ⟨b,0,none⟩)∧w.heap.size≤b∧W.heap[b]?=some (.cells #[.slice A1 n1 c1,.slice A2 n2 n2,.slice A3' n3 c3',.slice A4 n4 c4] 191 (0,0))∧W.ownsRow w.heap.size 5 1 (.slice A3' n3 c3') n3 (S.now.map bv)) w):=by
 have hn3:Hid (n3=S.now.length):=zH h.now.at_.1
 obtain⟨-,h2a,h2b,-⟩:=h.ws.at_
 have HC:=zH (fun W (hW:Ext w W)=>vP (.slice A3 n3 c3) S.now hl W (h.ext hW).now)
 clear h
 go_enter Tryz.func66,Tryz.ntmps66
 go_wp2_with fail
 generalize hw1:(World.alloc _ _)=w1
 have x1:Ext w w1:=by rw[←hw1];exact zN _ _
 have r1:w1.heap[w.heap.size]?=some (.cells #[.slice A1 n1 c1,.slice A2 n2 c2,.slice A3 n3 c3,.slice A4 n4 c4] 28 (0,0)):=by rw[←hw1];exact zI _ _ _ rfl
 clear hw1
 refine(HC.out _ x1).mono ?_
 rintro e w2 ⟨u,rfl,hu,hB⟩
 have x2:=x1.trans hB
 have r2:=qb r1 hB
 have s1:w.heap.size<w1.heap.size:=(zG.1 r1).1
 obtain⟨A3',c3',rfl,_,_⟩:=qv hu
 have k2:=qa r2
 have f2:=qd r2
 clear hB r1 HC
 rw[←hn3.out] at hu ⊢
 go_wp2_with fail
 have hu3:=Zi (w':=w2.setCell ⟨w.heap.size,2,none⟩ (.slice A3' n3 c3')) hu (fun b hb _=>zJ _ _ _ _ (by show b≠w.heap.size;omega))
 generalize hw3:(World.setCell _ _ _)=w3 at *
 have x3:Ext w w3:=by rw[←hw3];exact Below.setCell x2 (p:=⟨w.heap.size,2,none⟩) (zM _) _
 have r3:w3.heap[w.heap.size]?=some (.cells #[.slice A1 n1 c1,.slice A2 n2 c2,.slice A3' n3 c3',.slice A4 n4 c4] 28 (0,0)):=by rw[←hw3];exact qi r2 2 _
 clear hw3 k2 f2 r2 x2 hu
 refine(qdz A2 n2 c2 h2a h2b _).mono ?_
 rintro e w4 ⟨rfl,hB⟩
 have x4:=x3.trans hB
 have r4:=qb r3 hB
 have hu4:=QP hu3 hB
 have k4:=qa r4
 have f4:=qd r4
 have s4:w.heap.size<w4.heap.size:=(zG.1 r4).1
 clear hB r3 x3 hu3
 replace hu4:=zH hu4
 go_wp2
 have hu5:=Zi (w':=w4.setCell ⟨w.heap.size,1,none⟩ (.slice A2 n2 n2)) hu4.out (fun b hb _=>zJ _ _ _ _ (by show b≠w.heap.size;omega))
 have bf:Below w.heap.size w ((w4.setCell ⟨w.heap.size,1,none⟩ (.slice A2 n2 n2)).alloc (.cells #[.slice A1 n1 c1,.slice A2 n2 n2,.slice A3' n3 c3',.slice A4 n4 c4] 191)):=by
  have x4':Below w.heap.size w w4:=x4
  exact(by repeat' (first|with_reducible exact Below.refl _ _|with_reducible assumption|with_reducible apply Below.drew|with_reducible apply qA|with_reducible refine Below.alloc ?_ ?_ _|with_reducible refine Below.setCell ?_ ?_ _|(simp;done)|(simp;omega)|omega))
 go_ret
 exact⟨_,rfl,⟨w4.heap.size,A3',c3',rfl,by omega,zI _ _ _ (by simp),QF (QP hu5 (zN _ _)) (by omega)⟩,bf⟩
end Go.Proofs.YtpbniokljofedaaGreat
