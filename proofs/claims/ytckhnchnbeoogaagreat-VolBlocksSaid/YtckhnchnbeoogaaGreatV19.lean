/- Texts DTwin, SetAll, RTwin, OnOwn, Up, joined. -/
import Derived.Laws.MakeOwn
import Derived.Test.YtckhnchnbeoogaaGreatV03
import Derived.Test.YtckhnchnbeoogaaGreatV06
import Derived.Test.YtckhnchnbeoogaaGreatV10
import Derived.Test.YtckhnchnbeoogaaGreatV16
import Derived.Test.YtckhnchnbeoogaaGreatV18
set_option linter.unusedSimpArgs false
set_option linter.unusedVariables false
namespace Go.Proofs.YtckhnchnbeoogaaGreat
open Go.RowKit
def Gs (lo n c:Nat) (ty:TypeId) (cs:Array Value):qT:=⟨Nat,fun b=>.slice (some ⟨b,0,none⟩) n c,fun b W=>W.heap[b]?=some (.cells cs ty (0,0))∧lo≤b⟩
theorem Zg (lo n c:Nat) (ty:TypeId) (cs:Array Value) (b:Nat):(Gs lo n c ty cs).f b=.slice (some ⟨b,0,none⟩) n c:=rfl
theorem YN (lo n c:Nat) (ty:TypeId) (cs:Array Value):∀ p,qF qu ((Gs lo n c ty cs).φ p):=fun p W W' he h=>⟨qc h.1 he,h.2⟩
def XP (hb g o n:Nat) (cur:Array Value) (l:List UInt8):qT:=⟨Nat,fun _=>.slice (some ⟨g,o,none⟩) l.length l.length,fun o' W=>(0<n-l.length→o'=o+l.length)∧(n-l.length=0→o'=o)∧US hb g o' (n-l.length) (Zl cur o l) W⟩
theorem Zc (hb g o n:Nat) (cur:Array Value) (l:List UInt8) (p:Nat):(XP hb g o n cur l).f p=.slice (some ⟨g,o,none⟩) l.length l.length:=rfl
theorem YE (hb g o n:Nat) (cur:Array Value) (l:List UInt8):∀ p,qF qu ((XP hb g o n cur l).φ p):=fun p W W' he ⟨h1,h2,h3⟩=>⟨h1,h2,⟨qc h3.box he,qc h3.row he,h3.ne,h3.fit,h3.few⟩⟩
theorem qda {T:Nat} (hT:T≤281474976710656) (w:World):(Instr.makeSlice 215 (.int .i64 (T:Int)) (.int .i64 (T:Int))).run Tryz.prog w=.ok (.slice (some ⟨w.heap.size,0,none⟩) T T) (w.alloc (.cells (madeCells #[.int .u8 0] T) 5)):=by
 obtain⟨i0,hi,hz0,hz1,hz2⟩:=info_parts Tryz.info_u8
 have h:=run_make (P:=Tryz.prog) w 215 5 i0 _ Tryz.underlying215 hi hz0 .i64 .i64 (T:Int) (T:Int) (by omega) (by omega) (by rw[hz2];omega) (by omega)
 rw[hz1,Int.toNat_natCast,Nat.mul_one] at h
 exact h
theorem qad {n:Nat} (hn:n<1000000) (w:World):(Instr.makeSlice 22 (.int .i64 (n:Int)) (.int .i64 (n:Int))).run Tryz.prog w=.ok (.slice (some ⟨w.heap.size,0,none⟩) n n) (w.alloc (.cells (madeCells #[.slice none 0 0] n) 26)):=by
 obtain⟨i0,hi,hz0,hz1,hz2⟩:=info_parts Tryz.info_bytes
 have h:=run_make (P:=Tryz.prog) w 22 26 i0 _ Tryz.underlying22 hi hz0 .i64 .i64 (n:Int) (n:Int) (by omega) (by omega) (by rw[hz2];omega) (by omega)
 rw[hz1,Int.toNat_natCast,Nat.mul_one] at h
 exact h
theorem GV {n:Nat} (hn:n<1000000) (w:World):(Instr.makeSlice 23 (.int .i64 (n:Int)) (.int .i64 ((n:Int)+1))).run Tryz.prog w=.ok (.slice (some ⟨w.heap.size,0,none⟩) n (n+1)) (w.alloc (.cells (madeCells #[.int .i64 0,.slice none 0 0] ((n+1)*2)) 100)):=by
 obtain⟨i0,hi,hz0,hz1,hz2⟩:=info_parts Tryz.info_write
 have h:=run_make (P:=Tryz.prog) w 23 100 i0 _ Tryz.underlying23 hi hz0 .i64 .i64 (n:Int) ((n:Int)+1) (by omega) (by omega) (by rw[hz2];omega) (by omega)
 rw[hz1,Int.toNat_natCast,show ((n:Int)+1).toNat=n+1 by omega] at h
 exact h
structure TwI (bs:List (List UInt8)) (ws:List (Int×List UInt8)) (T lo:Nat) (w5:World) (hb g BB WW ob:Nat) (i:Value) (wr:World):Prop where
 ex:∃ k:Nat,k≤bs.length∧i=.int .i64 (k:Int)∧TwS bs ws T lo w5 hb g BB WW ob k 0 (jt (bs.take k)) wr
structure TwJ (bs:List (List UInt8)) (ws:List (Int×List UInt8)) (T lo:Nat) (w5:World) (hb g BB WW ob:Nat) (i:Value) (wr:World):Prop where
 ex:∃ k:Nat,k≤ws.length∧i=.int .i64 (k:Int)∧TwS bs ws T lo w5 hb g BB WW ob bs.length k (jt bs+jt ((ws.take k).map (·.2))) wr
theorem one_at {c:Nat} {hh:qT}:∀ i h,qE [(c,hh)] i=some h→i=c:=by
 intro i h e
 simp only[qE] at e
 split at e
 ·assumption
 ·cases e
set_option maxHeartbeats 4000000 in
set_option maxRecDepth 100000 in
theorem Gd (A1:Option Addr) (n1 c1:Nat) (A2:Option Addr) (n2 c2:Nat) (bs:List (List UInt8)) (ws:List (Int×List UInt8)) (hbl:bs.length<1000000) (hwl:ws.length<1000000) (hbe:∀ l∈bs,l.length<1000000) (hwe:∀ p∈ws,p.2.length<1000000) (w:World)
  (hb:Bls w w.heap.size (.slice A1 n1 c1) bs) (hw:Wrs w w.heap.size (.slice A2 n2 c2) ws) :
  Calls Tryz.prog 104 #[Zw A1 n1 c1 A2 n2 c2] w (fun e W=>∃ BB WW g,e=.returned (Zw (some ⟨BB,0,none⟩) bs.length bs.length (some ⟨WW,0,none⟩) ws.length (ws.length+1))∧jg w.heap.size bs ws BB WW g W∧Below w.heap.size w W):=by
 obtain⟨e1,hc1,hm1,hA1⟩:=hb.at_
 obtain⟨e2,hc2,hm2,hA2⟩:=hw.at_
 subst e1
 subst e2
 have HB:=zH hb
 have HW:=zH hw
 have hTb:jt bs≤1000000000000:=Nat.le_trans (qdn hbe) (by omega)
 have hTw:jt (ws.map (·.2))≤1000000000000:=Nat.le_trans (qdn (fun l hl=>by obtain⟨p,hp,rfl⟩:=List.mem_map.1 hl;exact hwe p hp)) (by rw[List.length_map];omega)
 clear hb hw hm1 hm2
 go_enter Tryz.func104,Tryz.ntmps104
 go_wp2_with fail
 generalize hw1:(World.alloc (World.alloc _ _) _)=w1
 have x1:Ext w w1:=by rw[←hw1];exact(Ext.alloc _ _).trans (Ext.alloc _ _)
 have r1:w1.heap[w.heap.size]?=some (.cells #[.slice A1 bs.length c1,.slice A2 ws.length c2] 25 (0,0)):=by rw[←hw1];exact(Below.heap_alloc _ _ _ (by simp)).trans (World.alloc_heap_at _ _ _ rfl)
 have q1:w1.heap[w.heap.size+1]?=some (.cells #[.slice none 0 0,.slice none 0 0] 25 (0,0)):=by rw[←hw1];exact World.alloc_heap_at _ _ _ (by simp)
 have z1:w1.heap.size=w.heap.size+2:=by rw[←hw1];simp
 clear hw1
 go_wp2_with fail
 go_loopw [3,17] (fun all i wr=>∃ k:Nat,k≤bs.length∧i=.int .i64 (k:Int)∧all=.int .i64 ((jt (bs.take k):Nat):Int)∧Ext w1 wr) (fun _ i _=>bs.length-(intOf i).toNat)
 case atStart=>exact⟨0,Nat.zero_le _,rfl,rfl,Ext.refl _⟩
 case round =>
  obtain⟨k,hk,rfl,rfl,hE⟩:=hrel
  have xw:Below w.heap.size w wr:=Ext.trans x1 hE
  have rr:=qc r1 hE
  have kr:=qa rr
  by_cases hlt:k<bs.length
  ·obtain⟨b1,o1,rfl,hb1⟩:=hA1 (by omega)
   obtain⟨A',c',hc,_⟩:=(HB.out.below xw).get k hlt
   have hsn:=Kb hlt
   have hle:=JH bs (k+1)
   generalize bs[k].length=m at *
   generalize jt (bs.take k)=q at *
   have hwq:=zH (IntWalk.wrap64_in ((q:Int)+(m:Int)) (by omega))
   have hwk:=zH (IntWalk.wrap64_in ((k:Int)+1) (by omega))
   go_wp2_with fail
   refine⟨⟨k+1,by omega,by push_cast;rfl,by rw[hsn];push_cast;rfl,hE⟩,?_⟩
   simp[intOf]
   omega
  ·obtain rfl:k=bs.length:=by omega
   rw[List.take_length]
   generalize hwm:wr=wm at *
   clear hwm kr rr
   have r2:=qc r1 hE
   have q2:=qc q1 hE
   have k2:=qa r2
   obtain⟨tb,htb⟩:∃ tb,tb=jt bs:=⟨_,rfl⟩
   obtain⟨tw,htw⟩:∃ tw,tw=jt (ws.map (·.2)):=⟨_,rfl⟩
   rw[←htb] at hTb ⊢
   rw[←htw] at hTw
   replace htb:=zH htb
   replace htw:=zH htw
   go_wp2_with fail
   go_loopw [3,29] (fun all i wr=>∃ k:Nat,k≤ws.length∧i=.int .i64 (k:Int)∧all=.int .i64 ((tb+jt ((ws.take k).map (·.2)):Nat):Int)∧Ext wm wr) (fun _ i _=>ws.length-(intOf i).toNat)
   case atStart=>exact⟨0,Nat.zero_le _,rfl,rfl,Ext.refl _⟩
   case round =>
    obtain⟨k,hk,rfl,rfl,hE2⟩:=hrel
    have xw2:Below w.heap.size w wr:=Ext.trans xw hE2
    have rr:=qc r2 hE2
    have kr:=qa rr
    clear k2
    by_cases hlt:k<ws.length
    ·obtain⟨b2,o2,rfl,hb2⟩:=hA2 (by omega)
     obtain⟨A',c',ha,hc,_⟩:=(HW.out.below xw2).get k hlt
     have hsn:jt ((ws.take (k+1)).map (·.2))=jt ((ws.take k).map (·.2))+ws[k].2.length:=by
      rw[List.map_take,List.map_take,Kb (by rw[List.length_map];exact hlt),List.getElem_map]
     have hle:jt ((ws.take (k+1)).map (·.2))≤tw:=by rw[htw.out,List.map_take];exact JH _ _
     generalize ws[k].2.length=m at *
     generalize ws[k].1=pn at *
     generalize jt ((ws.take k).map (·.2))=q at *
     have hwq:=zH (IntWalk.wrap64_in (((tb+q:Nat):Int)+(m:Int)) (by omega))
     have hwk:=zH (IntWalk.wrap64_in ((k:Int)+1) (by omega))
     go_wp2_with fail
     refine⟨⟨k+1,by omega,by push_cast;rfl,by rw[hsn];push_cast;rw[Int.add_assoc],hE2.trans (Ext.alloc _ _)⟩,?_⟩
     simp[intOf]
     omega
    ·obtain rfl:k=ws.length:=by omega
     rw[List.take_length,←htw.out]
     have hmk:=qda (T:=tb+tw) (by omega)
     obtain⟨T,hT⟩:∃ T,T=tb+tw:=⟨_,rfl⟩
     rw[←hT] at hmk ⊢
     have hT2:T≤2000000000000:=by omega
     replace hT:=zH hT
     go_wp2_with fail
     generalize hwn:World.alloc (World.alloc _ _) _=wn
     have x3:Ext wr wn:=by rw[←hwn];exact(Ext.alloc _ _).trans (Ext.alloc _ _)
     have g3:wn.heap[wr.heap.size]?=some (.cells (madeCells #[.int .u8 0] T) 5 (0,0)):=by rw[←hwn];exact(Below.heap_alloc _ _ _ (by simp)).trans (World.alloc_heap_at _ _ _ rfl)
     have b3:wn.heap[wr.heap.size+1]?=some (.cells #[.slice (some ⟨wr.heap.size,0,none⟩) T T] 215 (0,0)):=by rw[←hwn];exact World.alloc_heap_at _ _ _ (by simp)
     have zn0:wn.heap.size=wr.heap.size+2:=by rw[←hwn];simp
     clear hwn hmk
     have r3:=qc rr x3
     have q3:=qc (qc q2 hE2) x3
     have xw3:Ext w wn:=Ext.trans xw2 x3
     have k3:=qa r3
     have zr:=(zG.1 q2).1
     have zr2:=hE2.size
     have zn:wn.heap.size=wr.heap.size+2:=zn0
     clear kr rr r2 q2 r1 q1 x1 hE hE2 xw xw2
     generalize wr.heap.size=s0 at g3 b3 zn zr2 ⊢
     have zs0:w.heap.size+1<s0:=by omega
     clear zr zr2 zn0
     have g1:∀ W,qu.r wn W→∀ i,W.cell? ⟨w.heap.size,i,none⟩=#[.slice A1 bs.length c1,.slice A2 ws.length c2][i]?:=fun W h=>qa (qc r3 h)
     have hmkB:=qad hbl
     have hmkW:=GV hwl
     have hi1:=zH (IntWalk.i64_in ((ws.length:Int)+1) (by omega))
     have hwm1:wrap64 ((ws.length:Int)+1)=(ws.length:Int)+1:=IntWalk.wrap64_in _ (by omega)
     go_wp2_with fail
     refine qv (by kernel_rfl) ?_
     refine Qu (w:=wn) qu (qE [(3,Gs wn.heap.size bs.length bs.length 26 (madeCells #[.slice none 0 0] bs.length)),(11,Gs wn.heap.size ws.length (ws.length+1) 100 (madeCells #[.int .i64 0,.slice none 0 0] ((ws.length+1)*2))),(13,vk wn.heap.size 25 #[.slice none 0 0,.slice none 0 0])])
      [true,true,true,true,true,true,true,true,true,true,true,true,true,true] 1 (by kernel_rfl) (by kernel_rfl) (by kernel_rfl) (by kernel_rfl) (by kernel_rfl) (by kernel_rfl) (by kernel_rfl) ?st (Rel.drew _ _) ?walk
     case st=>exact qm (by simp only[List.forall_mem_cons];exact⟨YN _ _ _ _ _,YN _ _ _ _ _,fun p=>zD (jR _ _ _ p),fun _ h=>by cases h⟩)
     case walk =>
      intro K hK
      dsimp only[qz]
      repeat ((first|(refine qf ?_ (by rfl) (by rfl) (fun W hW _=>⟨W,?_,Rel.refl _ W⟩) ?_;rotate_left;(first|(go_simp;with_reducible rfl)|(go_simp;done)))|(refine qj (by rfl) ?_));try simp only[Act.put,qi,qe,qb,qg,Zg,Zc,qb,zA,zB,zC])
      refine qA (Gs wn.heap.size bs.length bs.length 26 (madeCells #[.slice none 0 0] bs.length)) (by rfl) (by rfl) (fun W hW _=>?_) (fun (BB:Nat)=>?_)
      ·have hW:Ext wn W:=hW
       refine Qa (u:=.slice (some ⟨W.heap.size,0,none⟩) bs.length bs.length) (w':=W.alloc (.cells (madeCells #[.slice none 0 0] bs.length) 26)) ?_ ⟨W.heap.size,rfl,⟨World.alloc_heap_at _ _ _ rfl,hW.size⟩,Ext.alloc _ _⟩
       go_simp
      simp only[Act.put,qi,qe,qb,qg,Zg,Zc,qb,zA,zB,zC]
      repeat ((first|(refine qf ?_ (by rfl) (by rfl) (fun W hW _=>⟨W,?_,Rel.refl _ W⟩) ?_;rotate_left;(first|(go_simp;with_reducible rfl)|(go_simp;done)))|(refine qj (by rfl) ?_));try simp only[Act.put,qi,qe,qb,qg,Zg,Zc,qb,zA,zB,zC])
      refine qA (Gs wn.heap.size ws.length (ws.length+1) 100 (madeCells #[.int .i64 0,.slice none 0 0] ((ws.length+1)*2))) (by rfl) (by rfl) (fun W hW _=>?_) (fun (WW:Nat)=>?_)
      ·have hW:Ext wn W:=hW
       refine Qa (u:=.slice (some ⟨W.heap.size,0,none⟩) ws.length (ws.length+1)) (w':=W.alloc (.cells (madeCells #[.int .i64 0,.slice none 0 0] ((ws.length+1)*2)) 100)) ?_ ⟨W.heap.size,rfl,⟨World.alloc_heap_at _ _ _ rfl,hW.size⟩,Ext.alloc _ _⟩
       go_simp
       rw[hi1.out,hmkW]
       rfl
      simp only[Act.put,qi,qe,qb,qg,Zg,Zc,qb,zA,zB,zC]
      repeat ((first|(refine qf ?_ (by rfl) (by rfl) (fun W hW _=>⟨W,?_,Rel.refl _ W⟩) ?_;rotate_left;(first|(go_simp;with_reducible rfl)|(go_simp;done)))|(refine qj (by rfl) ?_));try simp only[Act.put,qi,qe,qb,qg,Zg,Zc,qb,zA,zB,zC])
      refine qA (vk wn.heap.size 25 #[.slice none 0 0,.slice none 0 0]) (by rfl) (by rfl) (fun W hW _=>?_) (fun (ob:Nat)=>?_)
      ·have hW:Ext wn W:=hW
       refine vu ?_ hW.size
       go_simp
      simp only[Act.put,qi,qe,qb,qg,Zg,Zc,qb,zA,zB,zC]
      repeat ((first|(refine qf ?_ (by rfl) (by rfl) (fun W hW _=>⟨W,?_,Rel.refl _ W⟩) ?_;rotate_left;(first|(go_simp;with_reducible rfl)|(go_simp;done)))|(refine qj (by rfl) ?_));try simp only[Act.put,qi,qe,qb,qg,Zg,Zc,qb,zA,zB,zC])
      refine qD (hK _ _ fun W hW hF=>?_)
      have hBB:W.heap[BB]?=some (.cells (madeCells #[.slice none 0 0] bs.length) 26 (0,0))∧wn.heap.size≤BB:=(hF 3).1
      have hWW:W.heap[WW]?=some (.cells (madeCells #[.int .i64 0,.slice none 0 0] ((ws.length+1)*2)) 100 (0,0))∧wn.heap.size≤WW:=(hF 11).1
      have hob:W.heap[ob]?=some (.cells #[.slice none 0 0,.slice none 0 0] 25 (0,0))∧wn.heap.size≤ob:=(hF 13).1
      have hW:Ext wn W:=hW
      have ko:=qa hob.1
      have fo:=qd hob.1
      clear hF hK g1 hmkB hmkW hwm1 k3
      dsimp only[List.drop,List.length_cons,List.length_nil]
      go_wp2
      refine Qw ?_
      have rob:=qh (qh hob.1 0 (.slice (some ⟨BB,0,none⟩) bs.length bs.length)) 1 (.slice (some ⟨WW,0,none⟩) ws.length (ws.length+1))
      have st:∀ b,b≠ob→((W.setCell ⟨ob,0,none⟩ (.slice (some ⟨BB,0,none⟩) bs.length bs.length)).setCell ⟨ob,1,none⟩ (.slice (some ⟨WW,0,none⟩) ws.length (ws.length+1))).heap[b]?=W.heap[b]?:=fun b hb=>(Below.heap_setCell _ _ _ _ hb).trans (Below.heap_setCell _ _ _ _ hb)
      have n1:BB≠ob:=qX hBB.1 hob.1 (by decide)
      have n2:WW≠ob:=qX hWW.1 hob.1 (by decide)
      have hob2:=hob.2
      have B5:Below s0 wn ((W.setCell ⟨ob,0,none⟩ (.slice (some ⟨BB,0,none⟩) bs.length bs.length)).setCell ⟨ob,1,none⟩ (.slice (some ⟨WW,0,none⟩) ws.length (ws.length+1))):=Below.setCell (Below.setCell (Below.mono hW (by omega)) (p:=⟨ob,0,none⟩) (by show s0≤ob;omega) _) (p:=⟨ob,1,none⟩) (by show s0≤ob;omega) _
      have T0:TwS bs ws T s0 wn (s0+1) s0 BB WW ob 0 0 0 ((W.setCell ⟨ob,0,none⟩ (.slice (some ⟨BB,0,none⟩) bs.length bs.length)).setCell ⟨ob,1,none⟩ (.slice (some ⟨WW,0,none⟩) ws.length (ws.length+1))):=
       ⟨B5,⟨by omega,by omega,by omega,by omega,by omega⟩,rob,⟨0,T,_,⟨(st _ (by omega)).trans (qc b3 hW),(st _ (by omega)).trans (qc g3 hW),by omega,by rw[size_madeCells];omega,by omega⟩,Nat.le_refl _,fun _=>rfl,by omega,size_madeCells _ _⟩,
        ⟨_,(st _ n1).trans hBB.1,size_madeCells _ _,fun _ _ _ h=>by omega⟩,⟨_,(st _ n2).trans hWW.1,size_madeCells _ _,fun _ _ _ h=>by omega⟩⟩
      generalize World.setCell (World.setCell W _ _) _ _=w6 at *
      clear n1 n2 hob2 rob st hob hWW hBB hW g3 b3 ko fo
      have r6:=(B5.block w.heap.size (by omega)).trans r3
      have q6:=(B5.block (w.heap.size+1) (by omega)).trans q3
      have xw6:Below w.heap.size w w6:=Below.trans xw3 (Below.mono B5 (by omega))
      have k6:=qa r6
      have I0:TwI bs ws T s0 wn (s0+1) s0 BB WW ob (.int .i64 0) w6:=⟨0,Nat.zero_le _,rfl,T0⟩
      replace I0:=zH I0
      have r3':=zH r3
      have q3':=zH q3
      clear B5 T0 r3 q3 x3 r6
      go_wp2_with fail
      go_loopw [57] (fun i wr=>TwI bs ws T s0 wn (s0+1) s0 BB WW ob i wr) (fun i _=>bs.length-(intOf i).toNat)
      case atStart=>exact I0.out
      case round =>
       obtain⟨k,hk,rfl,hTS⟩:=hrel.ex
       clear hrel I0 k6
       have xwr:Below w.heap.size w wr:=Below.trans xw3 (Below.mono hTS.below (by omega))
       have rr:=(hTS.below.block w.heap.size (by omega)).trans r3'.out
       have kr:=qa rr
       by_cases hlt:k<bs.length
       ·have hlt':=hlt
        obtain⟨b1,o1,rfl,hb1⟩:=hA1 (by omega)
        obtain⟨A',c',hc,hby⟩:=(HB.out.below xwr).get k hlt
        have hsn:=Kb hlt
        have hle:=JH bs (k+1)
        have hgk:=List.getElem?_eq_getElem hlt
        generalize bs[k]=l at *
        obtain⟨o,n,cur,hH,q1,q2,q3,q4⟩:=hTS.heap
        have hln:l.length≤n:=by have:=hT.out;have:=htb.out;omega
        have hby':Bys wr wr.heap.size (.slice A' l.length c') l:=hby.more xwr.size
        have hout:=hTS.out
        have zob:=(zG.1 hout).1
        obtain⟨cb,rb,sb,_⟩:=hTS.bb
        have n1:ob≠s0+1:=qX hout hH.box (by decide)
        have n2:ob≠s0:=qX hout hH.row (by decide)
        have n3:BB≠s0+1:=qX rb hH.box (by decide)
        have n4:BB≠s0:=qX rb hH.row (by decide)
        have hle2:∀ a b,qu.r a b→(KH (s0+1) s0).r a b:=qdA
        obtain⟨RR,hRR⟩:∃ RR:Rel,RR=KH (s0+1) s0:=⟨_,rfl⟩
        rw[←hRR] at hle2
        have hle:=hle2
        have g1:∀ W,RR.r wr W→∀ i,W.cell? ⟨ob,i,none⟩=#[.slice (some ⟨BB,0,none⟩) bs.length bs.length,.slice (some ⟨WW,0,none⟩) ws.length (ws.length+1)][i]?:=fun W h=>qa (vp (hRR ▸ h) n1 n2 hout)
        replace hRR:=zH hRR
        replace hTS:=zH hTS
        replace hsn:=zH hsn
        replace hgk:=zH hgk
        replace hH:=zH hH
        replace rb:=zH rb
        clear q1 q2 q3 q4 hle2 hA2
        go_wp2_with fail
        refine qv (by kernel_rfl) ?_
        refine UW (w:=wr) qu RR 4 hle (qE [(4,XP (s0+1) s0 o n cur l)]) [true,true,true,true,true,true] 1 (by kernel_rfl) (by kernel_rfl) (by kernel_rfl) (by kernel_rfl) (by kernel_rfl) (by kernel_rfl) (by kernel_rfl) ?st one_at (Rel.drew _ _) ?walk
        case st=>exact qm (by simp only[List.forall_mem_cons];exact⟨YE _ _ _ _ _ _,fun _ h=>by cases h⟩)
        case walk =>
         intro K hK
         dsimp only[qz]
         repeat ((first|(refine ZF hle ?_ (by rfl) (by rfl) (fun W hW _=>?_) ?_;rotate_left;(first|(go_simp;with_reducible rfl)|(go_simp;done)))|(refine jK (by rfl) ?_));try simp only[Act.put,qi,qe,qb,qg,Zg,Zc,qb,zA,zB,zC])
         refine Um (XP (s0+1) s0 o n cur l) (by rfl) (by rfl) (fun W hW _=>?_) (fun (p:Nat)=>?_)
         ·have hW:Ext wr W:=hW
          refine Qg ?_ ((TU (s0+1) s0 o n cur A' c' l hln W ⟨qc hH.out.box hW,qc hH.out.row hW,hH.out.ne,hH.out.fit,hH.out.few⟩ (hby'.below hW |>.more hW.size)).mono fun e w' h=>?_)
          ·go_simp
          obtain⟨o',rfl,h1,h2,h3,e1,e2,e3,e4,e5⟩:=h
          refine⟨o',rfl,⟨h1,h2,h3⟩,?_⟩
          rw[hRR.out]
          exact⟨e2,e3,e4,Nat.le_of_eq e1.symm,fun b _ h1 h2=>e5 b h1 h2⟩
         simp only[Act.put,qi,qe,qb,qg,Zg,Zc,qb,zA,zB,zC]
         repeat ((first|(refine ZF hle ?_ (by rfl) (by rfl) (fun W hW _=>?_) ?_;rotate_left;(first|(go_simp;with_reducible rfl)|(go_simp;done)))|(refine jK (by rfl) ?_));try simp only[Act.put,qi,qe,qb,qg,Zg,Zc,qb,zA,zB,zC])
         first
          |(refine ZF hle (.pointer (some ⟨BB,0+k,none⟩)) (by rfl) (by rfl) (fun W hW _=>?_) ?_
            ·go_simp
             rw[IntWalk.i64_in (k:Int) (by omega),if_pos (by omega)]
             simp
            simp only[Act.put,qi,qe,qb,qg,Zg,Zc,qb,zA,zB,zC])
          |skip
         repeat ((first|(refine ZF hle ?_ (by rfl) (by rfl) (fun W hW _=>?_) ?_;rotate_left;(first|(go_simp;with_reducible rfl)|(go_simp;done)))|(refine jK (by rfl) ?_));try simp only[Act.put,qi,qe,qb,qg,Zg,Zc,qb,zA,zB,zC])
         refine Gp (hK _ _ fun W hW hF=>?_)
         obtain⟨h1,h2,hH'⟩:(XP (s0+1) s0 o n cur l).φ p W:=(hF 4).1
         clear hF hK g1
         rw[hRR.out] at hW
         dsimp only[List.drop,List.length_cons,List.length_nil]
         obtain⟨T1,hin⟩:=hTS.out.clone hH.out hln hW h1 h2 hH'
         have rB:=vp hW n3 n4 rb.out
         have kB:=qa rB k
         have fB:=qd rB k
         rw[Array.getElem?_eq_getElem (by omega)] at kB
         generalize cb[k]=u0 at *
         have T2:=T1.setB hgk.out hin
         rw[←hsn.out] at T2
         have IR:TwI bs ws T s0 wn (s0+1) s0 BB WW ob (.int .i64 ((k:Int)+1)) (W.setCell ⟨BB,k,none⟩ (.slice (some ⟨s0,o,none⟩) l.length l.length)):=⟨k+1,by omega,rfl,T2⟩
         replace IR:=zH IR
         have hwk:=zH (IntWalk.wrap64_in ((k:Int)+1) (by omega))
         clear T1 T2 hin hW h1 h2 hH' rB rb hTS hH hsn hgk
         go_wp2
         refine Qw ?_
         go_wp2_with fail
         try rw[hwk.out]
         refine⟨IR.out,?_⟩
         simp[intOf]
         omega
       ·obtain rfl:k=bs.length:=by omega
        rw[List.take_length] at hTS
        have J0:TwJ bs ws T s0 wn (s0+1) s0 BB WW ob (.int .i64 0) wr:=⟨0,Nat.zero_le _,rfl,hTS⟩
        replace J0:=zH J0
        generalize hwk:wr=wk at *
        clear hwk hTS xwr
        go_wp2_with fail
        go_loopw [72] (fun i wr=>TwJ bs ws T s0 wn (s0+1) s0 BB WW ob i wr) (fun i _=>ws.length-(intOf i).toNat)
        case atStart=>exact J0.out
        case round =>
         obtain⟨k,hk,rfl,hTS⟩:=hrel.ex
         clear hrel J0 kr rr
         have xwr:Below w.heap.size w wr:=Below.trans xw3 (Below.mono hTS.below (by omega))
         have rr:=(hTS.below.block w.heap.size (by omega)).trans r3'.out
         have kr:=qa rr
         by_cases hlt:k<ws.length
         ·have hlt':=hlt
          obtain⟨b2,o2,rfl,hb2⟩:=hA2 (by omega)
          obtain⟨A',c',ha,hc,hby⟩:=(HW.out.below xwr).get k hlt
          have hsn:jt ((ws.take (k+1)).map (·.2))=jt ((ws.take k).map (·.2))+ws[k].2.length:=by
           rw[List.map_take,List.map_take,Kb (by rw[List.length_map];exact hlt),List.getElem_map]
          have hle:jt ((ws.take (k+1)).map (·.2))≤tw:=by rw[htw.out,List.map_take];exact JH _ _
          have hgk:=List.getElem?_eq_getElem hlt
          generalize ws[k]=pl at *
          obtain⟨pn,l⟩:=pl
          simp only at ha hc hby hsn
          go_upto_region 22 with fail
          generalize hwp:World.alloc wr _=wp
          have xp:Ext wr wp:=by rw[←hwp];exact Ext.alloc _ _
          have tp:wp.heap[wr.heap.size]?=some (.cells #[.int .i64 pn,.slice A' l.length c'] 100 (0,0)):=by rw[←hwp];exact World.alloc_heap_at _ _ _ rfl
          clear hwp
          have hls:s0≤wr.heap.size:=Nat.le_trans (Nat.le_trans (by omega) hTS.below.size) (Nat.le_refl _)
          have hTP:=hTS.ext xp hls
          obtain⟨o,n,cur,hH,q1,q2,q3,q4⟩:=hTP.heap
          have hln:l.length≤n:=by have:=hT.out;have:=htb.out;omega
          have hby':Bys wp wp.heap.size (.slice A' l.length c') l:=(hby.below (Below.mono xp xwr.size)).more (by have:=xp.size;have:=xwr.size;omega)
          have hout:=hTP.out
          obtain⟨cw,rw_,sw,_⟩:=hTP.ww
          have zhb:=(zG.1 ((hTS.heap).choose_spec.choose_spec.choose_spec.1.box)).1
          have zg:=(zG.1 ((hTS.heap).choose_spec.choose_spec.choose_spec.1.row)).1
          have zw:=(zG.1 (hTS.ww.choose_spec.1)).1
          have n1:ob≠s0+1:=qX hout hH.box (by decide)
          have n2:ob≠s0:=qX hout hH.row (by decide)
          have n3:WW≠s0+1:=qX rw_ hH.box (by decide)
          have n4:WW≠s0:=qX rw_ hH.row (by decide)
          have hle2:∀ a b,qu.r a b→(KH (s0+1) s0).r a b:=qdA
          obtain⟨RR,hRR⟩:∃ RR:Rel,RR=KH (s0+1) s0:=⟨_,rfl⟩
          rw[←hRR] at hle2
          have hle:=hle2
          generalize wr.heap.size=tt at tp hls zhb zg zw ⊢
          have g1:∀ W,RR.r wp W→∀ i,W.cell? ⟨ob,i,none⟩=#[.slice (some ⟨BB,0,none⟩) bs.length bs.length,.slice (some ⟨WW,0,none⟩) ws.length (ws.length+1)][i]?:=fun W h=>qa (vp (hRR ▸ h) n1 n2 hout)
          have g2:∀ W,RR.r wp W→∀ i,W.cell? ⟨tt,i,none⟩=#[.int .i64 pn,.slice A' l.length c'][i]?:=fun W h=>qa (vp (hRR ▸ h) (by omega) (by omega) tp)
          replace hRR:=zH hRR
          replace hTP:=zH hTP
          replace hsn:=zH hsn
          replace hgk:=zH hgk
          replace hH:=zH hH
          replace rw_:=zH rw_
          clear q1 q2 q3 q4 hle2 hTS hby ha hc hA1 tp xp rr kr
          refine qv (by kernel_rfl) ?_
          refine UW (w:=wp) qu RR 7 hle (qE [(7,XP (s0+1) s0 o n cur l)]) [true,true,true,true,true,true,true,true,true,true] 1 (by kernel_rfl) (by kernel_rfl) (by kernel_rfl) (by kernel_rfl) (by kernel_rfl) (by kernel_rfl) (by kernel_rfl) ?st one_at (Rel.drew _ _) ?walk
          case st=>exact qm (by simp only[List.forall_mem_cons];exact⟨YE _ _ _ _ _ _,fun _ h=>by cases h⟩)
          case walk =>
           intro K hK
           dsimp only[qz]
           repeat ((first|(refine ZF hle ?_ (by rfl) (by rfl) (fun W hW _=>?_) ?_;rotate_left;(first|(go_simp;with_reducible rfl)|(go_simp;done)))|(refine jK (by rfl) ?_));try simp only[Act.put,qi,qe,qb,qg,Zg,Zc,qb,zA,zB,zC])
           refine Um (XP (s0+1) s0 o n cur l) (by rfl) (by rfl) (fun W hW _=>?_) (fun (p:Nat)=>?_)
           ·have hW:Ext wp W:=hW
            refine Qg ?_ ((TU (s0+1) s0 o n cur A' c' l hln W ⟨qc hH.out.box hW,qc hH.out.row hW,hH.out.ne,hH.out.fit,hH.out.few⟩ (hby'.below hW |>.more hW.size)).mono fun e w' h=>?_)
            ·go_simp
            obtain⟨o',rfl,h1,h2,h3,e1,e2,e3,e4,e5⟩:=h
            refine⟨o',rfl,⟨h1,h2,h3⟩,?_⟩
            rw[hRR.out]
            exact⟨e2,e3,e4,Nat.le_of_eq e1.symm,fun b _ h1 h2=>e5 b h1 h2⟩
           simp only[Act.put,qi,qe,qb,qg,Zg,Zc,qb,zA,zB,zC]
           repeat ((first|(refine ZF hle ?_ (by rfl) (by rfl) (fun W hW _=>?_) ?_;rotate_left;(first|(go_simp;with_reducible rfl)|(go_simp;done)))|(refine jK (by rfl) ?_));try simp only[Act.put,qi,qe,qb,qg,Zg,Zc,qb,zA,zB,zC])
           first
            |(refine ZF hle (.pointer (some ⟨WW,0+k*2,none⟩)) (by rfl) (by rfl) (fun W hW _=>?_) ?_
              ·go_simp
               rw[IntWalk.i64_in (k:Int) (by omega),if_pos (by omega)]
               simp
              simp only[Act.put,qi,qe,qb,qg,Zg,Zc,qb,zA,zB,zC])
            |skip
           repeat ((first|(refine ZF hle ?_ (by rfl) (by rfl) (fun W hW _=>?_) ?_;rotate_left;(first|(go_simp;with_reducible rfl)|(go_simp;done)))|(refine jK (by rfl) ?_));try simp only[Act.put,qi,qe,qb,qg,Zg,Zc,qb,zA,zB,zC])
           refine Gp (hK _ _ fun W hW hF=>?_)
           obtain⟨h1,h2,hH'⟩:(XP (s0+1) s0 o n cur l).φ p W:=(hF 7).1
           clear hF hK g1 g2
           rw[hRR.out] at hW
           dsimp only[List.drop,List.length_cons,List.length_nil]
           obtain⟨T1,hin⟩:=hTP.out.clone hH.out hln hW h1 h2 hH'
           have rB:=vp hW n3 n4 rw_.out
           have kB:=qa rB (k*2)
           have kC:=qa rB (k*2+1)
           have fB:=qd rB
           rw[Array.getElem?_eq_getElem (by omega)] at kB kC
           generalize cw[k*2]=u0 at *
           generalize cw[k*2+1]=u1 at *
           have T2:=T1.setW hgk.out hin
           rw[Nat.add_assoc,←hsn.out] at T2
           have IR:TwJ bs ws T s0 wn (s0+1) s0 BB WW ob (.int .i64 ((k:Int)+1)) ((W.setCell ⟨WW,k*2,none⟩ (.int .i64 pn)).setCell ⟨WW,k*2+1,none⟩ (.slice (some ⟨s0,o,none⟩) l.length l.length)):=⟨k+1,by omega,rfl,T2⟩
           replace IR:=zH IR
           have hwk:=zH (IntWalk.wrap64_in ((k:Int)+1) (by omega))
           clear T1 T2 hin hW h1 h2 hH' rB rw_ hTP hH hsn hgk
           go_wp2
           refine Qw ?_
           go_wp2_with fail
           try rw[hwk.out]
           refine⟨IR.out,?_⟩
           simp[intOf]
           omega
         ·obtain rfl:k=ws.length:=by omega
          have DT:=hTS.done
          have qq:=(hTS.below.block (w.heap.size+1) (by omega)).trans q3'.out
          have kq:=qa qq
          have fq:=qd qq
          have ko:=qa hTS.out
          have zq:=(zG.1 qq).1
          have rf:=qh (qh qq 0 (.slice (some ⟨BB,0,none⟩) bs.length bs.length)) 1 (.slice (some ⟨WW,0,none⟩) ws.length (ws.length+1))
          have kf:=qa rf
          have bf:Below w.heap.size w ((wr.setCell ⟨w.heap.size+1,0,none⟩ (.slice (some ⟨BB,0,none⟩) bs.length bs.length)).setCell ⟨w.heap.size+1,1,none⟩ (.slice (some ⟨WW,0,none⟩) ws.length (ws.length+1))):=Below.setCell (Below.setCell xwr (p:=⟨w.heap.size+1,0,none⟩) (Nat.le_succ _) _) (p:=⟨w.heap.size+1,1,none⟩) (Nat.le_succ _) _
          have DF:jg w.heap.size bs ws BB WW s0 ((wr.setCell ⟨w.heap.size+1,0,none⟩ (.slice (some ⟨BB,0,none⟩) bs.length bs.length)).setCell ⟨w.heap.size+1,1,none⟩ (.slice (some ⟨WW,0,none⟩) ws.length (ws.length+1))):=
           DT.keep (by omega) (by simp) (fun b h1 _=>(Below.heap_setCell _ _ _ _ (by show b≠w.heap.size+1;omega)).trans (Below.heap_setCell _ _ _ _ (by show b≠w.heap.size+1;omega)))
          replace kf:=zH kf
          replace bf:=zH bf
          replace DF:=zH DF
          clear rf DT hTS
          go_wp2
          have kf:=kf.out
          exact bodyPost_ret (v:=Zw (some ⟨BB,0,none⟩) bs.length bs.length (some ⟨WW,0,none⟩) ws.length (ws.length+1)) (by simp[results,Tryz.results104,go_sem,kf]) rfl ⟨BB,WW,s0,rfl,DF.out,bf.out⟩
def kJ (w:World) (b:Nat):Nat→List Value→World
 |_,[]=>w
 |k,v :: r=>kJ (w.setCell ⟨b,k,none⟩ v) b (k+1) r
def TQ (cs:Array Value):Nat→List Value→Array Value
 |_,[]=>cs
 |k,v :: r=>TQ (cs.setIfInBounds k v) (k+1) r
theorem JI {b g:Nat} (h:g≠b):∀ (vs:List Value) (w:World) (k:Nat),(kJ w b k vs).heap[g]?=w.heap[g]?
 | [],_,_=>rfl
 |_ :: r,w,k=>(JI h r _ _).trans (Below.heap_setCell _ _ _ _ h)
theorem vy {b:Nat}:∀ (vs:List Value) (w:World) (k:Nat),(kJ w b k vs).heap.size=w.heap.size
 | [],_,_=>rfl
 |_ :: r,w,k=>(vy r _ _).trans (by simp)
theorem JJ {B b:Nat} {w0:World} (hB:B≤b):∀ (vs:List Value) (w:World) (k:Nat),Below B w0 w→Below B w0 (kJ w b k vs)
 | [],_,_,h=>h
 |v :: r,w,k,h=>JJ hB r _ _ (Below.setCell h (p:=⟨b,k,none⟩) hB v)
theorem VB {b:Nat} {t:TypeId}:∀ (vs:List Value) (w:World) (k:Nat) (cs:Array Value),w.heap[b]?=some (.cells cs t (0,0))→(kJ w b k vs).heap[b]?=some (.cells (TQ cs k vs) t (0,0))
 | [],_,_,_,h=>h
 |v :: r,w,k,cs,h=>VB r _ _ _ (qh h k v)
def outDT (lo:Nat) (bs:List (List UInt8)) (ws:List (Int×List UInt8)):qT:=⟨Nat×Nat×Nat,fun p=>Zw (some ⟨p.1,0,none⟩) bs.length bs.length (some ⟨p.2.1,0,none⟩) ws.length (ws.length+1),fun p W=>jg lo bs ws p.1 p.2.1 p.2.2 W⟩
theorem Vk (lo:Nat) (bs:List (List UInt8)) (ws:List (Int×List UInt8)) (b c g:Nat):(outDT lo bs ws).f (b,c,g)=Zw (some ⟨b,0,none⟩) bs.length bs.length (some ⟨c,0,none⟩) ws.length (ws.length+1):=rfl
theorem qaq (lo:Nat) (bs:List (List UInt8)) (ws:List (Int×List UInt8)):∀ p,qF qu ((outDT lo bs ws).φ p):=fun p W W' he h=>by
 have he:Ext W W':=he
 exact jg.keep h (Nat.le_refl _) he.size fun b _ hb=>he.block b hb
def YV (lo:Nat) (l:List UInt8):qT:=⟨Option Addr×Nat,fun p=>.slice p.1 l.length p.2,fun p W=>W.ownsRow lo 5 1 (.slice p.1 l.length p.2) l.length (l.map bv)⟩
theorem JU (lo:Nat) (l:List UInt8) (A:Option Addr) (c:Nat):(YV lo l).f (A,c)=.slice A l.length c:=rfl
theorem Kr (lo:Nat) (l:List UInt8):∀ p,qF qu ((YV lo l).φ p):=fun p W W' he h=>QK h he
theorem Jf {w w':World} {lo:Nat} {e:TypeId} {size:Nat} {v:Value} {n:Nat} {xs:List Value} (h:w.ownsRow lo e size v n xs) (hk:∀ b,lo≤b→b<w.heap.size→w'.heap[b]?=w.heap[b]?):w'.ownsRow lo e size v n xs:=
 ⟨h.1,h.2.imp id fun ⟨g,cap,cur,h1,h2,h3,h4⟩=>⟨g,cap,cur,h1,h2,(hk g h2 (zG.1 h3).1).trans h3,h4⟩⟩
def jE (lo:Nat) (S:Sto) (u:Value) (W:World):Prop:=∃ BB WW g A3 c3 A4 c4,u=Qy (some ⟨BB,0,none⟩) S.bs.length S.bs.length (some ⟨WW,0,none⟩) S.ws.length (S.ws.length+1) A3 S.now.length c3 A4 S.last.length c4∧jg lo S.bs S.ws BB WW g W ∧
 W.ownsRow lo 5 1 (.slice A3 S.now.length c3) S.now.length (S.now.map bv)∧W.ownsRow lo 5 1 (.slice A4 S.last.length c4) S.last.length (S.last.map bv)
theorem jE.keep {lo lo':Nat} {S:Sto} {u:Value} {W W2:World} (h:jE lo S u W) (hl:lo'≤lo) (hs:W.heap.size≤W2.heap.size) (hk:∀ b,lo≤b→b<W.heap.size→W2.heap[b]?=W.heap[b]?):jE lo' S u W2:=by
 obtain⟨BB,WW,g,A3,c3,A4,c4,e,h1,h2,h3⟩:=h
 exact⟨BB,WW,g,A3,c3,A4,c4,e,h1.keep hl hs hk,QT (Jf h2 hk) hl,QT (Jf h3 hk) hl⟩
theorem jE.twin {lo:Nat} {S:Sto} {u:Value} {W:World} (h:jE lo S u W) (hS:kK S):qbB lo S u W:=by
 obtain⟨BB,WW,g,A3,c3,A4,c4,e,h1,h2,h3⟩:=h
 refine⟨_,_,_,_,A3,c3,A4,c4,e,fun W2 hk=>?_⟩
 obtain⟨k1,k2⟩:=h1.reads hS.bs hS.ws hS.be hS.we W2 hk
 exact⟨k1,k2,(Bys.of_own h2).keepN (QD.of_own h2) hk,(Bys.of_own h3).keepN (QD.of_own h3) hk⟩
theorem qbB.sto {lo:Nat} {S:Sto} {u:Value} {W:World} (h:qbB lo S u W):∃ A1 c1 A2 c2 A3 c3 A4 c4,u=Qy A1 S.bs.length c1 A2 S.ws.length c2 A3 S.now.length c3 A4 S.last.length c4∧qH W W.heap.size (.slice A1 S.bs.length c1) (.slice A2 S.ws.length c2) (.slice A3 S.now.length c3) (.slice A4 S.last.length c4) S:=by
 obtain⟨A1,c1,A2,c2,A3,c3,A4,c4,e,h1⟩:=h
 exact⟨A1,c1,A2,c2,A3,c3,A4,c4,e,h1 W fun _ _ _=>rfl⟩
set_option maxHeartbeats 2000000 in
set_option maxRecDepth 100000 in
theorem GC (A1:Option Addr) (n1 c1:Nat) (A2:Option Addr) (n2 c2:Nat) (A3:Option Addr) (n3 c3:Nat) (A4:Option Addr) (n4 c4:Nat) (S:Sto) (hS:kK S) (w:World) (h:qH w w.heap.size (.slice A1 n1 c1) (.slice A2 n2 c2) (.slice A3 n3 c3) (.slice A4 n4 c4) S) :
  Calls Tryz.prog 80 #[Qy A1 n1 c1 A2 n2 c2 A3 n3 c3 A4 n4 c4] w (zE (jE w.heap.size S) w):=by
 have HD:=zH (fun W (hW:Ext w W)=>Gd A1 n1 c1 A2 n2 c2 S.bs S.ws hS.bs hS.ws hS.be hS.we W (h.ext hW).bs (h.ext hW).ws)
 have HN:=zH (fun W (hW:Ext w W)=>Zh _ S.now (by have:=hS.now;omega) W (h.ext hW).now)
 have HL:=zH (fun W (hW:Ext w W)=>Zh _ S.last (by have:=hS.last;omega) W (h.ext hW).last)
 clear h hS
 go_enter Tryz.func80,Tryz.ntmps80
 go_wp2_with fail
 generalize hw1:(World.alloc (World.alloc _ _) _)=w1
 have x1:Ext w w1:=by rw[←hw1];exact(Ext.alloc _ _).trans (Ext.alloc _ _)
 have r1:w1.heap[w.heap.size]?=some (.cells #[.slice A1 n1 c1,.slice A2 n2 c2,.slice A3 n3 c3,.slice A4 n4 c4] 28 (0,0)):=by rw[←hw1];exact(Below.heap_alloc _ _ _ (by simp)).trans (World.alloc_heap_at _ _ _ rfl)
 have q1:w1.heap[w.heap.size+1]?=some (.cells #[.slice none 0 0,.slice none 0 0,.slice none 0 0,.slice none 0 0] 28 (0,0)):=by rw[←hw1];exact World.alloc_heap_at _ _ _ (by simp)
 clear hw1
 have g1:∀ W,qu.r w1 W→∀ i,W.cell? ⟨w.heap.size,i,none⟩=#[.slice A1 n1 c1,.slice A2 n2 c2,.slice A3 n3 c3,.slice A4 n4 c4][i]?:=fun W h=>qa (qc r1 h)
 refine qv (by kernel_rfl) ?_
 refine Qu (w:=w1) qu (qE [(2,outDT w1.heap.size S.bs S.ws),(5,YV w1.heap.size S.now),(8,YV w1.heap.size S.last)])
  [true,true,true,true,true,true,true,true,true,true] 1 (by kernel_rfl) (by kernel_rfl) (by kernel_rfl) (by kernel_rfl) (by kernel_rfl) (by kernel_rfl) (by kernel_rfl) ?st (Rel.drew _ _) ?walk
 case st=>exact qm (by simp only[List.forall_mem_cons];exact⟨qaq _ _ _,Kr _ _,Kr _ _,fun _ h=>by cases h⟩)
 case walk =>
  intro K hK
  dsimp only[qz]
  repeat ((first|(refine qf ?_ (by rfl) (by rfl) (fun W hW _=>⟨W,?_,Rel.refl _ W⟩) ?_;rotate_left;(first|(go_simp;with_reducible rfl)|(go_simp;done)))|(refine qj (by rfl) ?_));try simp only[Act.put,qi,qe,qb,qg,Vk,JU,zA,zB,zC])
  refine qA (outDT w1.heap.size S.bs S.ws) (by rfl) (by rfl) (fun W hW _=>?_) (fun p=>?_)
  ·refine Qg ?_ ((HD.out W (Ext.trans x1 hW)).mono fun e w' h=>?_)
   ·go_simp
   have hW:Ext w1 W:=hW
   obtain⟨b,c,g,rfl,h1,hB⟩:=h
   exact⟨(b,c,g),rfl,h1.keep hW.size (Nat.le_refl _) (fun _ _ _=>rfl),hB⟩
  obtain⟨bb,cc,gg⟩:=p
  simp only[Act.put,qi,qe,qb,qg,Vk,JU,zA,zB,zC]
  repeat ((first|(refine qf ?_ (by rfl) (by rfl) (fun W hW _=>⟨W,?_,Rel.refl _ W⟩) ?_;rotate_left;(first|(go_simp;with_reducible rfl)|(go_simp;done)))|(refine qj (by rfl) ?_));try simp only[Act.put,qi,qe,qb,qg,Vk,JU,zA,zB,zC])
  refine qA (YV w1.heap.size S.now) (by rfl) (by rfl) (fun W hW _=>?_) (fun p=>?_)
  ·refine Qg ?_ ((HN.out W (Ext.trans x1 hW)).mono fun e w' h=>?_)
   ·go_simp
   have hW:Ext w1 W:=hW
   obtain⟨u,rfl,hu,hB⟩:=h
   obtain⟨A,c,rfl,_,_⟩:=qw hu
   exact⟨(A,c),rfl,QT hu hW.size,hB⟩
  obtain⟨B3,d3⟩:=p
  simp only[Act.put,qi,qe,qb,qg,Vk,JU,zA,zB,zC]
  repeat ((first|(refine qf ?_ (by rfl) (by rfl) (fun W hW _=>⟨W,?_,Rel.refl _ W⟩) ?_;rotate_left;(first|(go_simp;with_reducible rfl)|(go_simp;done)))|(refine qj (by rfl) ?_));try simp only[Act.put,qi,qe,qb,qg,Vk,JU,zA,zB,zC])
  refine qA (YV w1.heap.size S.last) (by rfl) (by rfl) (fun W hW _=>?_) (fun p=>?_)
  ·refine Qg ?_ ((HL.out W (Ext.trans x1 hW)).mono fun e w' h=>?_)
   ·go_simp
   have hW:Ext w1 W:=hW
   obtain⟨u,rfl,hu,hB⟩:=h
   obtain⟨A,c,rfl,_,_⟩:=qw hu
   exact⟨(A,c),rfl,QT hu hW.size,hB⟩
  obtain⟨B4,d4⟩:=p
  simp only[Act.put,qi,qe,qb,qg,Vk,JU,zA,zB,zC]
  repeat ((first|(refine qf ?_ (by rfl) (by rfl) (fun W hW _=>⟨W,?_,Rel.refl _ W⟩) ?_;rotate_left;(first|(go_simp;with_reducible rfl)|(go_simp;done)))|(refine qj (by rfl) ?_));try simp only[Act.put,qi,qe,qb,qg,Vk,JU,zA,zB,zC])
  refine qD (hK _ _ fun W hW hF=>?_)
  have hD:jg w1.heap.size S.bs S.ws bb cc gg W:=(hF 2).1
  have hN:W.ownsRow w1.heap.size 5 1 (.slice B3 S.now.length d3) S.now.length (S.now.map bv):=(hF 5).1
  have hL:W.ownsRow w1.heap.size 5 1 (.slice B4 S.last.length d4) S.last.length (S.last.map bv):=(hF 8).1
  have hW:Ext w1 W:=hW
  clear hF hK g1
  dsimp only[List.drop,List.length_cons,List.length_nil]
  have qW:=qc q1 hW
  have kW:=qa qW
  have fW:=qd qW
  have hz:w.heap.size+1<w1.heap.size:=(zG.1 q1).1
  have P5:∀ wx:World,wx=kJ W (w.heap.size+1) 0 [.slice (some ⟨bb,0,none⟩) S.bs.length S.bs.length,.slice (some ⟨cc,0,none⟩) S.ws.length (S.ws.length+1),.slice B3 S.now.length d3,.slice B4 S.last.length d4] →
    wx.heap[w.heap.size+1]?=some (.cells #[.slice (some ⟨bb,0,none⟩) S.bs.length S.bs.length,.slice (some ⟨cc,0,none⟩) S.ws.length (S.ws.length+1),.slice B3 S.now.length d3,.slice B4 S.last.length d4] 28 (0,0))∧Below w.heap.size w wx ∧
     jE w.heap.size S (Qy (some ⟨bb,0,none⟩) S.bs.length S.bs.length (some ⟨cc,0,none⟩) S.ws.length (S.ws.length+1) B3 S.now.length d3 B4 S.last.length d4) wx:=fun wx e=>by
   have hk:∀ b,w1.heap.size≤b→b<W.heap.size→wx.heap[b]?=W.heap[b]?:=fun b h1 _=>by rw[e];exact JI (by omega) _ _ _
   have hs:W.heap.size≤wx.heap.size:=by rw[e,vy];exact Nat.le_refl _
   refine⟨by rw[e];refine(VB _ _ _ _ qW).trans ?_;simp[TQ],by rw[e];exact JJ (Nat.le_succ _) _ _ _ (Ext.trans x1 hW),bb,cc,gg,B3,d3,B4,d4,rfl,hD.keep (by omega) hs hk,QT (Jf hN hk) (by omega),QT (Jf hL hk) (by omega)⟩
  replace P5:=zH P5
  clear hD hN hL qW hW
  go_wp2
  refine Qw ?_
  go_wp2_with fail
  have P5:=P5.out
  generalize hw5:World.setCell (World.setCell (World.setCell (World.setCell W _ _) _ _) _ _) _ _=w5
  obtain⟨r5,x5,h5⟩:=P5 w5 hw5.symm
  clear P5 hw5
  have k5:=qa r5
  exact bodyPost_ret (v:=Qy (some ⟨bb,0,none⟩) S.bs.length S.bs.length (some ⟨cc,0,none⟩) S.ws.length (S.ws.length+1) B3 S.now.length d3 B4 S.last.length d4) (by simp[results,Tryz.results80,go_sem,k5]) rfl ⟨_,rfl,h5,x5⟩
set_option maxHeartbeats 1000000 in
set_option maxRecDepth 100000 in
theorem qca (b:Nat) (A1:Option Addr) (n1 c1:Nat) (A2:Option Addr) (n2 c2:Nat) (A3:Option Addr) (n3 c3:Nat) (A4:Option Addr) (n4 c4:Nat) (S:Sto) (hS:kK S) (w:World) (hr:w.heap[b]?=some (.cells #[.slice A1 n1 c1,.slice A2 n2 c2,.slice A3 n3 c3,.slice A4 n4 c4] 167 (0,0)))
  (h:qH w w.heap.size (.slice A1 n1 c1) (.slice A2 n2 c2) (.slice A3 n3 c3) (.slice A4 n4 c4) S) :
  Calls Tryz.prog 111 #[.pointer (some ⟨b,0,none⟩)] w (zE (jE w.heap.size S) w):=by
 have HT:=zH (fun W (hW:Ext w W)=>GC A1 n1 c1 A2 n2 c2 A3 n3 c3 A4 n4 c4 S hS W (h.ext hW))
 clear h hS
 have k0:=qa hr
 have zb:b<w.heap.size:=(zG.1 hr).1
 go_enter Tryz.func111,Tryz.ntmps111
 go_wp2_with fail
 generalize hw1:World.alloc _ _=w1
 have x1:Ext w w1:=by rw[←hw1];exact Ext.alloc _ _
 have q1:w1.heap[w.heap.size]?=some (.cells #[.slice none 0 0,.slice none 0 0,.slice none 0 0,.slice none 0 0] 28 (0,0)):=by rw[←hw1];exact World.alloc_heap_at _ _ _ (by simp)
 clear hw1 k0
 refine(HT.out w1 x1).mono ?_
 rintro e w2 ⟨u,rfl,hT,hB⟩
 have hB:Ext w1 w2:=hB
 have q2:=qc q1 hB
 have kq:=qa q2
 have fq:=qd q2
 have z1:w.heap.size<w1.heap.size:=(zG.1 q1).1
 obtain⟨BB,WW,g,B3,d3,B4,d4,rfl,hD,hN,hL⟩:=hT
 have P5:∀ wx:World,wx=kJ w2 w.heap.size 0 [.slice (some ⟨BB,0,none⟩) S.bs.length S.bs.length,.slice (some ⟨WW,0,none⟩) S.ws.length (S.ws.length+1),.slice B3 S.now.length d3,.slice B4 S.last.length d4] →
   wx.heap[w.heap.size]?=some (.cells #[.slice (some ⟨BB,0,none⟩) S.bs.length S.bs.length,.slice (some ⟨WW,0,none⟩) S.ws.length (S.ws.length+1),.slice B3 S.now.length d3,.slice B4 S.last.length d4] 28 (0,0))∧Below w.heap.size w wx ∧
    jE w.heap.size S (Qy (some ⟨BB,0,none⟩) S.bs.length S.bs.length (some ⟨WW,0,none⟩) S.ws.length (S.ws.length+1) B3 S.now.length d3 B4 S.last.length d4) wx:=fun wx e=>by
  have hk:∀ b,w1.heap.size≤b→b<w2.heap.size→wx.heap[b]?=w2.heap[b]?:=fun b h1 _=>by rw[e];exact JI (by omega) _ _ _
  have hs:w2.heap.size≤wx.heap.size:=by rw[e,vy];exact Nat.le_refl _
  refine⟨by rw[e];refine(VB _ _ _ _ q2).trans ?_;simp[TQ],by rw[e];exact JJ (Nat.le_refl _) _ _ _ (x1.trans hB),BB,WW,g,B3,d3,B4,d4,rfl,hD.keep (by omega) hs hk,QT (Jf hN hk) (by omega),QT (Jf hL hk) (by omega)⟩
 replace P5:=zH P5
 clear hD hN hL q2 hB q1
 go_wp2_with fail
 have P5:=P5.out
 generalize hw5:World.setCell (World.setCell (World.setCell (World.setCell w2 _ _) _ _) _ _) _ _=w5
 obtain⟨r5,x5,h5⟩:=P5 w5 hw5.symm
 clear P5 hw5
 have k5:=qa r5
 exact bodyPost_ret (v:=Qy (some ⟨BB,0,none⟩) S.bs.length S.bs.length (some ⟨WW,0,none⟩) S.ws.length (S.ws.length+1) B3 S.now.length d3 B4 S.last.length d4) (by simp[results,Tryz.results111,go_sem,k5]) rfl ⟨_,rfl,h5,x5⟩
theorem Ti {w:World} {lo g n c k:Nat} {l:List UInt8} (h:w.ownsRow lo 5 1 (.slice (some ⟨g,0,none⟩) n c) n (l.map bv)) (hk:k<n) (x:UInt8):(w.setCell ⟨g,k,none⟩ (bv x)).ownsRow lo 5 1 (.slice (some ⟨g,0,none⟩) n c) n ((l.set k x).map bv):=by
 obtain⟨h1,h2⟩:=h
 rcases h2 with ⟨e,_⟩|⟨g',cap,cur,e,hg,hr,hc,hm,hs,ht⟩
 ·cases e
 ·cases e
  have hk2:k<cur.size:=by omega
  refine⟨by simpa using h1,.inr ⟨g,c,_,rfl,hg,qh hr k _,hc,hm,by simpa using hs,?_⟩⟩
  apply List.ext_getElem?
  intro i
  rw[List.map_set,←ht,List.getElem?_take,List.getElem?_set,List.getElem?_take]
  simp only[Nat.mul_one,Array.getElem?_toList,Array.getElem?_setIfInBounds,List.length_take,Array.length_toList]
  by_cases hi:i<n
  ·rw[if_pos hi,if_pos hi]
   by_cases e:k=i
   ·subst e
    rw[if_pos rfl,if_pos rfl,if_pos hk2,if_pos (by omega)]
   ·rw[if_neg e,if_neg e]
  ·rw[if_neg hi,if_neg hi,if_neg (by omega)]
theorem vW {w:World} {lo g n c:Nat} {l:List UInt8} (h:w.ownsRow lo 5 1 (.slice (some ⟨g,0,none⟩) n c) n (l.map bv)):(∀ k,k<n→w.cell? ⟨g,k,none⟩=some (.int .u8 ((l[k]?.getD 0).toNat:Int)))∧(∀ k,w.frozen? ⟨g,k,none⟩=false)∧lo≤g∧g<w.heap.size:=by
 have h1:=h.1
 obtain⟨h0,h2⟩:=h
 rcases h2 with ⟨e,_⟩|⟨g',cap,cur,e,hg,hr,hc,hm,hs,ht⟩
 ·cases e
 ·cases e
  refine⟨fun k hk=>?_,qd hr,hg,(zG.1 hr).1⟩
  have hl:l.length=n:=by simpa using h1
  have hkl:k<l.length:=by omega
  have e2:(l.map bv)[k]?=some (bv l[k]):=by rw[List.getElem?_map,List.getElem?_eq_getElem hkl];rfl
  rw[←ht,List.getElem?_take,if_pos (by omega)] at e2
  have e3:cur[k]?=cur.toList[k]?:=by simp
  rw[qa hr,e3,e2,List.getElem?_eq_getElem hkl]
  rfl
set_option maxHeartbeats 2000000 in
set_option maxRecDepth 100000 in
theorem on_own (A1:Option Addr) (n1 c1:Nat) (A2:Option Addr) (n2 c2:Nat) (A3:Option Addr) (n3 c3:Nat) (A4:Option Addr) (n4 c4:Nat) (S:Sto) (hl:S.now.length<1073741824) (w:World) (h:qH w w.heap.size (.slice A1 n1 c1) (.slice A2 n2 c2) (.slice A3 n3 c3) (.slice A4 n4 c4) S) :
  Calls Tryz.prog 55 #[Qy A1 n1 c1 A2 n2 c2 A3 n3 c3 A4 n4 c4] w (zE (fun u W=>∃ b A3' c3',u=.pointer (some ⟨b,0,none⟩)∧w.heap.size≤b∧W.heap[b]?=some (.cells #[.slice A1 n1 c1,.slice A2 n2 n2,.slice A3' n3 c3',.slice A4 n4 c4] 167 (0,0))∧W.ownsRow w.heap.size 5 1 (.slice A3' n3 c3') n3 (S.now.map bv)) w):=by
 have hn3:Hid (n3=S.now.length):=zH h.now.at_.1
 obtain⟨-,h2a,h2b,-⟩:=h.ws.at_
 have HC:=zH (fun W (hW:Ext w W)=>Zh (.slice A3 n3 c3) S.now hl W (h.ext hW).now)
 clear h
 go_enter Tryz.func55,Tryz.ntmps55
 go_wp2_with fail
 generalize hw1:(World.alloc _ _)=w1
 have x1:Ext w w1:=by rw[←hw1];exact Ext.alloc _ _
 have r1:w1.heap[w.heap.size]?=some (.cells #[.slice A1 n1 c1,.slice A2 n2 c2,.slice A3 n3 c3,.slice A4 n4 c4] 28 (0,0)):=by rw[←hw1];exact World.alloc_heap_at _ _ _ rfl
 clear hw1
 refine(HC.out _ x1).mono ?_
 rintro e w2 ⟨u,rfl,hu,hB⟩
 have x2:=x1.trans hB
 have r2:=qc r1 hB
 have s1:w.heap.size<w1.heap.size:=(zG.1 r1).1
 obtain⟨A3',c3',rfl,_,_⟩:=qw hu
 have k2:=qa r2
 have f2:=qd r2
 clear hB r1 HC
 rw[←hn3.out] at hu ⊢
 go_wp2_with fail
 have hu3:=Jf (w':=w2.setCell ⟨w.heap.size,2,none⟩ (.slice A3' n3 c3')) hu (fun b hb _=>Below.heap_setCell _ _ _ _ (by show b≠w.heap.size;omega))
 generalize hw3:(World.setCell _ _ _)=w3 at *
 have x3:Ext w w3:=by rw[←hw3];exact Below.setCell x2 (p:=⟨w.heap.size,2,none⟩) (Nat.le_refl _) _
 have r3:w3.heap[w.heap.size]?=some (.cells #[.slice A1 n1 c1,.slice A2 n2 c2,.slice A3' n3 c3',.slice A4 n4 c4] 28 (0,0)):=by rw[←hw3];exact qh r2 2 _
 clear hw3 k2 f2 r2 x2 hu
 refine(qbk A2 n2 c2 h2a h2b _).mono ?_
 rintro e w4 ⟨rfl,hB⟩
 have x4:=x3.trans hB
 have r4:=qc r3 hB
 have hu4:=QK hu3 hB
 have k4:=qa r4
 have f4:=qd r4
 have s4:w.heap.size<w4.heap.size:=(zG.1 r4).1
 clear hB r3 x3 hu3
 replace hu4:=zH hu4
 go_wp2
 have hu5:=Jf (w':=w4.setCell ⟨w.heap.size,1,none⟩ (.slice A2 n2 n2)) hu4.out (fun b hb _=>Below.heap_setCell _ _ _ _ (by show b≠w.heap.size;omega))
 have bf:Below w.heap.size w ((w4.setCell ⟨w.heap.size,1,none⟩ (.slice A2 n2 n2)).alloc (.cells #[.slice A1 n1 c1,.slice A2 n2 n2,.slice A3' n3 c3',.slice A4 n4 c4] 167)):=by
  have x4':Below w.heap.size w w4:=x4
  exact(by repeat' (first|with_reducible exact Below.refl _ _|with_reducible assumption|with_reducible apply Below.drew|with_reducible apply qp|with_reducible refine Below.alloc ?_ ?_ _|with_reducible refine Below.setCell ?_ ?_ _|(simp;done)|(simp;omega)|omega))
 go_ret
 exact⟨_,rfl,⟨w4.heap.size,A3',c3',rfl,by omega,World.alloc_heap_at _ _ _ (by simp),QT (QK hu5 (Ext.alloc _ _)) (by omega)⟩,bf⟩
def Kj (t:List UInt8) (a:Nat):Nat:=(t[a]?.getD 0).toNat
def VD (t:List UInt8) (a:Int) (end_:Nat):Int:=if QJ t=true then (if 8≤a∧a<256 then (if Kj t a.toNat=end_ then 70 else 0) else 2) else 8
def Zb (t:List UInt8) (a by_:Nat):List UInt8:=t.set a (UInt8.ofNat (Kj t a+by_))
theorem JS (t:List UInt8) (a by_:Nat):(Zb t a by_).length=t.length:=by unfold Zb;simp
theorem qax (n:Nat):IntKind.u8.wrap (n:Int)=(((UInt8.ofNat n).toNat:Nat):Int):=by
 simp[IntKind.wrap,IntKind.bits,IntKind.signed]
def qbv (t:List UInt8) (a:Int) (by_ end_ lo:Nat) (u:Value) (W:World):Prop:=
 (VD t a end_≠0∧u=.tuple #[.slice none 0 0,.int .i64 (VD t a end_)]) ∨
  (VD t a end_=0∧∃ A c,u=.tuple #[.slice A 256 c,.int .i64 0]∧W.ownsRow lo 5 1 (.slice A 256 c) 256 ((Zb t a.toNat by_).map bv))
theorem qeu {t:List UInt8} (h:QJ t=false) (a:Int) (e:Nat):VD t a e=8:=by unfold VD;rw[h];simp
theorem qdY {t:List UInt8} (h:QJ t=true) {a:Int} (ha:¬(8≤a∧a<256)) (e:Nat):VD t a e=2:=by unfold VD;rw[if_pos h,if_neg ha]
theorem qaL {t:List UInt8} (h:QJ t=true) {a:Nat} (ha:8≤a) (ha2:a<256) (e:Nat):VD t (a:Int) e=if Kj t a=e then 70 else 0:=by
 unfold VD
 rw[if_pos h,if_pos (by omega),Int.toNat_natCast]
theorem kE {R:Ending→World→Prop} {a:Act} {W:World} {u v:Value} (h8:a.tmps[8]?.getD undef=u) (h9:a.tmps[9]?.getD undef=v) (hd:a.defers=[]) (hR:R (.returned (.tuple #[u,v])) W):bodyPost Tryz.prog Tryz.f110 R .ret a W:=by
 refine bodyPost_ret (v:=.tuple #[u,v]) ?_ hd hR
 simp[results,Tryz.results110,go_sem,h8,h9]
set_option maxHeartbeats 2000000 in
set_option maxRecDepth 100000 in
theorem turn_any (A:Option Addr) (n c:Nat) (t:List UInt8) (a:Int) (by_ end_:Nat) (w:World) (h:Bys w w.heap.size (.slice A n c) t) :
  Calls Tryz.prog 110 #[.slice A n c,.int .i64 a,.int .u8 (by_:Int),.int .u8 (end_:Int)] w (zE (qbv t a by_ end_ w.heap.size) w):=by
 have HC:=zH (KO (.slice A n c) t w h)
 have hby:=zH h
 go_enter Tryz.func110,Tryz.ntmps110
 go_wp2_with fail
 refine HC.out.mono ?_
 clear HC
 rintro e w2 ⟨rfl,hB⟩
 have x2:Ext w w2:=hB
 clear hB h
 rcases hS:QJ t with _|_
 ·have hq:=zH (qeu hS a end_)
  replace hS:=zH hS
  rw[ju rfl]
  go_wp2_with fail
  exact kE rfl rfl rfl ⟨_,rfl,.inl ⟨by rw[hq.out];decide,by rw[hq.out];rfl⟩,x2⟩
 ·rw[jw rfl]
  by_cases hr:8≤a∧a<256
  ·obtain⟨m,hma⟩:=Int.eq_ofNat_of_zero_le (show 0≤a by omega)
   subst hma
   have hm8:8≤m:=by omega
   have hm256:m<256:=by omega
   have hq:=qaL hS hm8 hm256 end_
   have hl:t.length=256:=by unfold QJ at hS;simp at hS;exact hS.1
   obtain⟨A',c',e,hc,hmx,hrd⟩:=hby.out
   obtain⟨b,o,rfl,hb,hcell⟩:=hrd.2 (by omega)
   simp only[Value.slice.injEq] at e
   obtain⟨rfl,e2,rfl⟩:=e
   obtain rfl:n=256:=by omega
   clear e2
   have hcn:w.cell? ⟨b,o+m,none⟩=some (.int .u8 (Kj t m:Int)):=hcell m _ (by rw[List.getElem?_map,List.getElem?_eq_getElem (by omega)];unfold Kj;rw[List.getElem?_eq_getElem (by omega)];rfl)
   have hcn2:=Ext.cell x2 hcn
   have d1:decide ((m:Int)<8)=false:=decide_eq_false (by omega)
   have d2:decide ((m:Int)≥256)=false:=decide_eq_false (by omega)
   have HCL:=zH (TK (.slice (some ⟨b,o,none⟩) 256 c) t (by omega) w2 ((hby.out.below x2).more x2.size))
   have hT:Hid (Zb t m by_=t.set m (UInt8.ofNat (Kj t m+by_))):=rfl
   clear hr hcell hrd hcn hc hmx
   generalize hnv:Kj t m=nv at *
   replace hnv:=zH hnv
   replace hl:=zH hl
   by_cases h0:nv=end_
   ·have hz1:((nv:Int) == (end_:Int))=true:=by rw[beq_iff_eq];omega
    have hz2:decide (nv=end_)=true:=decide_eq_true h0
    rw[if_pos h0] at hq
    replace hq:=zH hq
    replace h0:=zH h0
    replace hS:=zH hS
    go_wp2_with fail
    exact kE rfl rfl rfl ⟨_,rfl,.inl ⟨by rw[hq.out];decide,by rw[hq.out];rfl⟩,x2⟩
   ·have hz1:((nv:Int) == (end_:Int))=false:=by rw[beq_eq_false_iff_ne];omega
    have hz2:decide (nv=end_)=false:=decide_eq_false h0
    rw[if_neg h0] at hq
    replace hq:=zH hq
    replace h0:=zH h0
    replace hS:=zH hS
    go_wp2_with fail
    refine HCL.out.mono ?_
    clear HCL
    rintro e w3 ⟨u,rfl,hu,hB⟩
    rw[hl.out] at hu
    obtain⟨Au,cu,rfl,hcu,-⟩:=qw hu
    have x3:Ext w w3:=x2.trans hB
    have hAu:∃ g,Au=some ⟨g,0,none⟩:=by
     rcases hu.2 with ⟨e,h0⟩|⟨g,cap,cur,e,_⟩
     ·cases e
     ·cases e
      exact⟨g,rfl⟩
    obtain⟨g,rfl⟩:=hAu
    obtain⟨hk,hf,hlg,hgz⟩:=vW hu
    have hkm:=hk m hm256
    rw[show (t[m]?.getD 0).toNat=nv from hnv.out] at hkm
    have hfm:=hf m
    have hset:=zH (Ti hu hm256 (UInt8.ofNat (nv+by_)))
    have hwv:IntKind.u8.wrap ((nv:Int)+(by_:Int))=(((UInt8.ofNat (nv+by_)).toNat:Nat):Int):=by rw[←qax];rfl
    clear hk hf hu hB hcn2
    go_wp2_with fail
    exact kE rfl rfl rfl ⟨_,rfl,.inr ⟨hq.out,_,_,rfl,QT (by rw[Int.toNat_natCast,hT.out];exact hset.out) x2.size⟩,Below.setCell x3 (p:=⟨g,m,none⟩) (by have:=x2.size;simp;omega) _⟩
  ·have hq:=zH (qdY hS hr end_)
   replace hS:=zH hS
   by_cases h8:a<8
   ·have d1:decide (a<8)=true:=decide_eq_true h8
    replace hr:=zH hr
    go_wp2_with fail
    exact kE rfl rfl rfl ⟨_,rfl,.inl ⟨by rw[hq.out];decide,by rw[hq.out];rfl⟩,x2⟩
   ·have d1:decide (a<8)=false:=decide_eq_false h8
    have d2:decide (a≥256)=true:=decide_eq_true (by omega)
    replace hr:=zH hr
    go_wp2_with fail
    exact kE rfl rfl rfl ⟨_,rfl,.inl ⟨by rw[hq.out];decide,by rw[hq.out];rfl⟩,x2⟩
end Go.Proofs.YtckhnchnbeoogaaGreat
