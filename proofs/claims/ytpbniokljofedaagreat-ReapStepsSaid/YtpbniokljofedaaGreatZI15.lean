/- Texts DTwin, SetAll, RTwin, OnOwn, Up, DWrite, ShareR, joined. -/
import Derived.Laws.MakeOwn
import Derived.Test.YtpbniokljofedaaGreatZI14
set_option linter.unusedSimpArgs false
set_option linter.unusedVariables false
set_option maxHeartbeats 8000000
open Go.Proofs.Tryz
namespace Go.Proofs.YtpbniokljofedaaGreat
open Go.RowKit
def Uo (lo n c:Nat) (ty:TypeId) (cs:Array Value):qS:=⟨Nat,fun b=>.slice (some ⟨b,0,none⟩) n c,fun b W=>W.heap[b]?=some (.cells cs ty (0,0))/\lo<=b⟩
theorem QS (lo n c:Nat) (ty:TypeId) (cs:Array Value) (b:Nat):(Uo lo n c ty cs).f b=.slice (some ⟨b,0,none⟩) n c:=rfl
theorem kZ (lo n c:Nat) (ty:TypeId) (cs:Array Value):∀ p,qC qk ((Uo lo n c ty cs).φ p):=fun p W W' he h=>⟨qb h.1 he,h.2⟩
def Un (hb g o n:Nat) (cur:Array Value) (l:List UInt8):qS:=⟨Nat,fun _=>.slice (some ⟨g,o,none⟩) l.length l.length,fun o' W=>(0<n-l.length->o'=o+l.length)/\(n-l.length=0->o'=o)/\qaQ hb g o' (n-l.length) (ZD cur o l) W⟩
theorem Zr (hb g o n:Nat) (cur:Array Value) (l:List UInt8) (p:Nat):(Un hb g o n cur l).f p=.slice (some ⟨g,o,none⟩) l.length l.length:=rfl
theorem XT (hb g o n:Nat) (cur:Array Value) (l:List UInt8):∀ p,qC qk ((Un hb g o n cur l).φ p):=fun p W W' he ⟨h1,h2,h3⟩=>⟨h1,h2,⟨qb h3.box he,qb h3.row he,h3.ne,h3.fit,h3.few⟩⟩
theorem qfJ {T:Nat} (hT:T<=281474976710656) (w:World):(Instr.makeSlice 257 (.int .i64 (T:Int)) (.int .i64 (T:Int))).run prog w=.ok (.slice (some ⟨w.heap.size,0,none⟩) T T) (w.alloc (.cells (madeCells #[.int .u8 0] T) 5)):=by obtain⟨i0,hi,aY,aV,aX⟩:=info_parts Tryz.info_u8;have h:=run_make (P:=prog) w 257 5 i0 _ underlying257 hi aY .i64 .i64 (T:Int) (T:Int) zO zO (by rw[aX];omega) zO;rw[aV,Int.toNat_natCast,Nat.mul_one] at h;exact h
theorem Te {n:Nat} (hn:n<1000000) (w:World):(Instr.makeSlice 22 (.int .i64 (n:Int)) (.int .i64 (n:Int))).run prog w=.ok (.slice (some ⟨w.heap.size,0,none⟩) n n) (w.alloc (.cells (madeCells #[.slice none 0 0] n) 26)):=by obtain⟨i0,hi,aY,aV,aX⟩:=info_parts Tryz.info_bytes;have h:=run_make (P:=prog) w 22 26 i0 _ underlying22 hi aY .i64 .i64 (n:Int) (n:Int) zO zO (by rw[aX];omega) zO;rw[aV,Int.toNat_natCast,Nat.mul_one] at h;exact h
theorem qcr {n:Nat} (hn:n<1000000) (w:World):(Instr.makeSlice 23 (.int .i64 (n:Int)) (.int .i64 ((n:Int)+1))).run prog w=.ok (.slice (some ⟨w.heap.size,0,none⟩) n (n+1)) (w.alloc (.cells (madeCells #[.int .i64 0,.slice none 0 0] ((n+1)*2)) 130)):=by obtain⟨i0,hi,aY,aV,aX⟩:=info_parts Tryz.info_write;have h:=run_make (P:=prog) w 23 130 i0 _ underlying23 hi aY .i64 .i64 (n:Int) ((n:Int)+1) zO zO (by rw[aX];omega) zO;rw[aV,Int.toNat_natCast,show ((n:Int)+1).toNat=n+1 by omega] at h;exact h
structure TwI (bs:List (List UInt8)) (ws:List (Int×List UInt8)) (T lo:Nat) (w5:World) (hb g BB WW ob:Nat) (i:Value) (wr:World):Prop where
 ex:∃ k:Nat,k<=bs.length/\i=.int .i64 (k:Int)/\TwS bs ws T lo w5 hb g BB WW ob k 0 (Je (bs.take k)) wr
structure TwJ (bs:List (List UInt8)) (ws:List (Int×List UInt8)) (T lo:Nat) (w5:World) (hb g BB WW ob:Nat) (i:Value) (wr:World):Prop where
 ex:∃ k:Nat,k<=ws.length/\i=.int .i64 (k:Int)/\TwS bs ws T lo w5 hb g BB WW ob bs.length k (Je bs+Je ((ws.take k).map (·.2))) wr
theorem one_at {c:Nat} {hh:qS}:∀ i h,qD [(c,hh)] i=some h->i=c:=by
 intro i h e;simp only[qD] at e;split at e
 ·assumption
 ·cases e
set_option maxRecDepth 100000 in
theorem qgU (A1:Option Addr) (n1 c1:Nat) (A2:Option Addr) (n2 c2:Nat) (bs:List (List UInt8)) (ws:List (Int×List UInt8)) (cO:bs.length<1000000) (yM:ws.length<1000000) (hbe:∀ l∈bs,l.length<1000000) (hwe:∀ p∈ws,p.2.length<1000000) (w:World) (hb:Bls w w.heap.size (.slice A1 n1 c1) bs) (hw:Wrs w w.heap.size (.slice A2 n2 c2) ws):Calls prog 171 #[VK A1 n1 c1 A2 n2 c2] w (fun e W=>∃ BB WW g,e=.returned (VK (some ⟨BB,0,none⟩) bs.length bs.length (some ⟨WW,0,none⟩) ws.length (ws.length+1))/\jS w.heap.size bs ws BB WW g W/\Below w.heap.size w W):=by
 obtain⟨e1,dV,hm1,hA1⟩:=hb.at_;obtain⟨e2,az,iL,xU⟩:=hw.at_;subst e1;subst e2;have HB:=zH hb;have HW:=zH hw;have hTb:Je bs<=1000000000000:=Nat.le_trans (qgG hbe) zO;have hTw:Je (ws.map (·.2))<=1000000000000:=Nat.le_trans (qgG (fun l hl=>by obtain⟨p,hp,rfl⟩:=List.mem_map.1 hl;exact hwe p hp)) (by rw[List.length_map];omega);clear hb hw hm1 iL;go_enter func171,ntmps171;go_wp2_with fail;generalize aA:(World.alloc (World.alloc _ _) _)=w1;have x1:Ext w w1:=by rw[<-aA];exact(zN _ _).trans (zN _ _)
 have r1:w1.heap[w.heap.size]?=some (.cells #[.slice A1 bs.length c1,.slice A2 ws.length c2] 25 (0,0)):=by rw[<-aA];exact(zK _ _ _ zA3).trans (zI _ _ _ rfl)
 have q1:w1.heap[w.heap.size+1]?=some (.cells #[.slice none 0 0,.slice none 0 0] 25 (0,0)):=by rw[<-aA];exact zI _ _ _ zA3
 clear aA;go_wp2_with fail;go_loopw [3,17] (fun all i wr=>∃ k:Nat,k<=bs.length/\i=.int .i64 (k:Int)/\all=.int .i64 ((Je (bs.take k):Nat):Int)/\Ext w1 wr) (fun _ i _=>bs.length-(intOf i).toNat)
 case atStart=>exact⟨0,Nat.zero_le _,rfl,rfl,Ext.refl _⟩
 case round =>
  obtain⟨k,hk,rfl,rfl,hE⟩:=hrel;have xw:Below w.heap.size w wr:=Ext.trans x1 hE;have rr:=qb r1 hE;have kr:=qa rr;by_cases hlt:k<bs.length
  ·obtain⟨b1,o1,rfl,bD⟩:=hA1 zO;obtain⟨A',c',hc,_⟩:=(HB.out.below xw).get k hlt;have iO:=Yx hlt;have hle:=vp bs (k+1);generalize bs[k].length=m at *;generalize Je (bs.take k)=q at *;go_wp2_with fail;refine⟨⟨k+1,zO,by push_cast;rfl,by rw[iO];push_cast;rfl,hE⟩,?_⟩;simp[intOf];omega
  ·obtain rfl:k=bs.length:=zO;rw[List.take_length];generalize hwm:wr=wm at *;clear hwm kr rr;have r2:=qb r1 hE;have q2:=qb q1 hE;have k2:=qa r2;obtain⟨tb,htb⟩:∃ tb,tb=Je bs:=⟨_,rfl⟩
   obtain⟨tw,htw⟩:∃ tw,tw=Je (ws.map (·.2)):=⟨_,rfl⟩
   rw[<-htb] at hTb ⊢;rw[<-htw] at hTw;replace htb:=zH htb;replace htw:=zH htw;go_wp2_with fail;go_loopw [3,29] (fun all i wr=>∃ k:Nat,k<=ws.length/\i=.int .i64 (k:Int)/\all=.int .i64 ((tb+Je ((ws.take k).map (·.2)):Nat):Int)/\Ext wm wr) (fun _ i _=>ws.length-(intOf i).toNat)
   case atStart=>exact⟨0,Nat.zero_le _,rfl,rfl,Ext.refl _⟩
   case round =>
    obtain⟨k,hk,rfl,rfl,fQ⟩:=hrel;have xw2:Below w.heap.size w wr:=Ext.trans xw fQ;have rr:=qb r2 fQ;have kr:=qa rr;clear k2;by_cases hlt:k<ws.length
    ·obtain⟨b2,o2,rfl,bI⟩:=xU zO;obtain⟨A',c',ha,hc,_⟩:=(HW.out.below xw2).get k hlt;have iO:Je ((ws.take (k+1)).map (·.2))=Je ((ws.take k).map (·.2))+ws[k].2.length:=by rw[List.map_take,List.map_take,Yx (by rw[List.length_map];exact hlt),List.getElem_map]
     have hle:Je ((ws.take (k+1)).map (·.2))<=tw:=by rw[htw.out,List.map_take];exact vp _ _
     generalize ws[k].2.length=m at *;generalize ws[k].1=pn at *;generalize Je ((ws.take k).map (·.2))=q at *;go_wp2_with fail;refine⟨⟨k+1,zO,by push_cast;rfl,by rw[iO];push_cast;rw[Int.add_assoc],fQ.trans (zN _ _)⟩,?_⟩;simp[intOf];omega
    ·obtain rfl:k=ws.length:=zO;rw[List.take_length,<-htw.out];have hmk:=qfJ (T:=tb+tw) zO;obtain⟨T,hT⟩:∃ T,T=tb+tw:=⟨_,rfl⟩
     rw[<-hT] at hmk ⊢;have hT2:T<=2000000000000:=zO;replace hT:=zH hT;go_wp2_with fail;generalize hwn:World.alloc (World.alloc _ _) _=wn;have x3:Ext wr wn:=by rw[<-hwn];exact(zN _ _).trans (zN _ _)
     have g3:wn.heap[wr.heap.size]?=some (.cells (madeCells #[.int .u8 0] T) 5 (0,0)):=by rw[<-hwn];exact(zK _ _ _ zA3).trans (zI _ _ _ rfl)
     have b3:wn.heap[wr.heap.size+1]?=some (.cells #[.slice (some ⟨wr.heap.size,0,none⟩) T T] 257 (0,0)):=by rw[<-hwn];exact zI _ _ _ zA3
     have zn0:wn.heap.size=wr.heap.size+2:=by rw[<-hwn];simp
     clear hwn hmk;have r3:=qb rr x3;have q3:=qb (qb q2 fQ) x3;have xw3:Ext w wn:=Ext.trans xw2 x3;have k3:=qa r3;have zr:=(zG.1 q2).1;have zr2:=fQ.size;have zn:wn.heap.size=wr.heap.size+2:=zn0;clear kr rr r2 q2 r1 q1 x1 hE fQ xw xw2;generalize wr.heap.size=s0 at g3 b3 zn zr2 ⊢;have zs0:w.heap.size+1<s0:=zO;clear zr zr2 zn0;have g1:∀ W,qk.r wn W->∀ i,W.cell? ⟨w.heap.size,i,none⟩=#[.slice A1 bs.length c1,.slice A2 ws.length c2][i]?:=fun W h=>qa (qb r3 h);have hmkB:=Te cO;have hmkW:=qcr yM;have yT:=zH (IntWalk.i64_in ((ws.length:Int)+1) zO);have hwm1:wrap64 ((ws.length:Int)+1)=(ws.length:Int)+1:=IntWalk.wrap64_in _ zO;go_wp2_with fail;refine qm zQ ?_;refine qL (w:=wn) qk (qD [(3,Uo wn.heap.size bs.length bs.length 26 (madeCells #[.slice none 0 0] bs.length)),(11,Uo wn.heap.size ws.length (ws.length+1) 130 (madeCells #[.int .i64 0,.slice none 0 0] ((ws.length+1)*2))),(13,jO wn.heap.size 25 #[.slice none 0 0,.slice none 0 0])])
      [true,true,true,true,true,true,true,true,true,true,true,true,true,true] 1 zQ zQ zQ zQ zQ zQ zQ ?st (Rel.drew _ _) ?walk
     case st=>exact qj (by simp only[List.forall_mem_cons];exact⟨kZ _ _ _ _ _,kZ _ _ _ _ _,fun p=>QI (ZX _ _ _ p),fun _ h=>by cases h⟩)
     case walk =>
      intro K hK;dsimp only[qp];repeat ((first|(refine qd ?_ zA0 zA0 (fun W hW _=>⟨W,?_,Rel.refl _ W⟩) ?_;rotate_left;(go_simp<;>with_reducible rfl))|(refine qh zA0 ?_));try simp only[Act.put,ql,qf,qc,qg,QS,Zr,qc,zA,zB,zC])
      refine qw (Uo wn.heap.size bs.length bs.length 26 (madeCells #[.slice none 0 0] bs.length)) zA0 zA0 (fun W hW _=>?_) (fun (BB:Nat)=>?_)
      ·have hW:Ext wn W:=hW;refine ZW (u:=.slice (some ⟨W.heap.size,0,none⟩) bs.length bs.length) (w':=W.alloc (.cells (madeCells #[.slice none 0 0] bs.length) 26)) ?_ ⟨W.heap.size,rfl,⟨zI _ _ _ rfl,hW.size⟩,zN _ _⟩;go_simp
      simp only[Act.put,qf,qc,qg,QS,Zr,qc,zA,zB,zC];repeat ((first|(refine qd ?_ zA0 zA0 (fun W hW _=>⟨W,?_,Rel.refl _ W⟩) ?_;rotate_left;(go_simp<;>with_reducible rfl))|(refine qh zA0 ?_));try simp only[Act.put,ql,qf,qc,qg,QS,Zr,qc,zA,zB,zC])
      refine qw (Uo wn.heap.size ws.length (ws.length+1) 130 (madeCells #[.int .i64 0,.slice none 0 0] ((ws.length+1)*2))) zA0 zA0 (fun W hW _=>?_) (fun (WW:Nat)=>?_)
      ·have hW:Ext wn W:=hW;refine ZW (u:=.slice (some ⟨W.heap.size,0,none⟩) ws.length (ws.length+1)) (w':=W.alloc (.cells (madeCells #[.int .i64 0,.slice none 0 0] ((ws.length+1)*2)) 130)) ?_ ⟨W.heap.size,rfl,⟨zI _ _ _ rfl,hW.size⟩,zN _ _⟩;go_simp;rw[yT.out,hmkW];rfl
      simp only[Act.put,qf,qc,qg,QS,Zr,qc,zA,zB,zC];repeat ((first|(refine qd ?_ zA0 zA0 (fun W hW _=>⟨W,?_,Rel.refl _ W⟩) ?_;rotate_left;(go_simp<;>with_reducible rfl))|(refine qh zA0 ?_));try simp only[Act.put,ql,qf,qc,qg,QS,Zr,qc,zA,zB,zC])
      refine qw (jO wn.heap.size 25 #[.slice none 0 0,.slice none 0 0]) zA0 zA0 (fun W hW _=>?_) (fun (ob:Nat)=>?_)
      ·have hW:Ext wn W:=hW;refine jT ?_ hW.size;go_simp
      simp only[Act.put,qf,qc,qg,QS,Zr,qc,zA,zB,zC];repeat ((first|(refine qd ?_ zA0 zA0 (fun W hW _=>⟨W,?_,Rel.refl _ W⟩) ?_;rotate_left;(go_simp<;>with_reducible rfl))|(refine qh zA0 ?_));try simp only[Act.put,ql,qf,qc,qg,QS,Zr,qc,zA,zB,zC])
      refine qt (hK _ _ fun W hW hF=>?_);have hBB:W.heap[BB]?=some (.cells (madeCells #[.slice none 0 0] bs.length) 26 (0,0))/\wn.heap.size<=BB:=(hF 3).1;have hWW:W.heap[WW]?=some (.cells (madeCells #[.int .i64 0,.slice none 0 0] ((ws.length+1)*2)) 130 (0,0))/\wn.heap.size<=WW:=(hF 11).1;have hob:W.heap[ob]?=some (.cells #[.slice none 0 0,.slice none 0 0] 25 (0,0))/\wn.heap.size<=ob:=(hF 13).1;have hW:Ext wn W:=hW;have ko:=qa hob.1;have fo:=qe hob.1;clear hF hK g1 hmkB hmkW hwm1 k3;refine zB5 ?_;go_wp2;refine Qm ?_;have rob:=qi (qi hob.1 0 (.slice (some ⟨BB,0,none⟩) bs.length bs.length)) 1 (.slice (some ⟨WW,0,none⟩) ws.length (ws.length+1));have st:∀ b,b≠ob->((W.setCell ⟨ob,0,none⟩ (.slice (some ⟨BB,0,none⟩) bs.length bs.length)).setCell ⟨ob,1,none⟩ (.slice (some ⟨WW,0,none⟩) ws.length (ws.length+1))).heap[b]?=W.heap[b]?:=fun b hb=>(zJ _ _ _ _ hb).trans (zJ _ _ _ _ hb);have n1:BB≠ob:=qN hBB.1 hob.1 zA1;have n2:WW≠ob:=qN hWW.1 hob.1 zA1;have hob2:=hob.2;have B5:Below s0 wn ((W.setCell ⟨ob,0,none⟩ (.slice (some ⟨BB,0,none⟩) bs.length bs.length)).setCell ⟨ob,1,none⟩ (.slice (some ⟨WW,0,none⟩) ws.length (ws.length+1))):=Below.setCell (Below.setCell (Below.mono hW zO) (p:=⟨ob,0,none⟩) (by show s0<=ob;omega) _) (p:=⟨ob,1,none⟩) (by show s0<=ob;omega) _;have T0:TwS bs ws T s0 wn (s0+1) s0 BB WW ob 0 0 0 ((W.setCell ⟨ob,0,none⟩ (.slice (some ⟨BB,0,none⟩) bs.length bs.length)).setCell ⟨ob,1,none⟩ (.slice (some ⟨WW,0,none⟩) ws.length (ws.length+1))):=
       ⟨B5,⟨zO,zO,zO,zO,zO⟩,rob,⟨0,T,_,⟨(st _ zO).trans (qb b3 hW),(st _ zO).trans (qb g3 hW),zO,by rw[size_madeCells];omega,zO⟩,zM _,fun _=>rfl,zO,size_madeCells _ _⟩,
        ⟨_,(st _ n1).trans hBB.1,size_madeCells _ _,fun _ _ _ h=>zO⟩,⟨_,(st _ n2).trans hWW.1,size_madeCells _ _,fun _ _ _ h=>zO⟩⟩
      generalize World.setCell (World.setCell W _ _) _ _=w6 at *;clear n1 n2 hob2 rob st hob hWW hBB hW g3 b3 ko fo;have r6:=(B5.block w.heap.size zO).trans r3;have k6:=qa r6;have I0:TwI bs ws T s0 wn (s0+1) s0 BB WW ob (.int .i64 0) w6:=⟨0,Nat.zero_le _,rfl,T0⟩
      replace I0:=zH I0;have r3':=zH r3;have q3':=zH q3;clear B5 T0 r3 q3 x3 r6;go_wp2_with fail;go_loopw [57] (fun i wr=>TwI bs ws T s0 wn (s0+1) s0 BB WW ob i wr) (fun i _=>bs.length-(intOf i).toNat)
      case atStart=>exact I0.out
      case round =>
       obtain⟨k,hk,rfl,lG⟩:=hrel.ex;clear hrel I0 k6;have nT:Below w.heap.size w wr:=Below.trans xw3 (Below.mono lG.below zO);have rr:=(lG.below.block w.heap.size zO).trans r3'.out;have kr:=qa rr;by_cases hlt:k<bs.length
       ·have aJ:=hlt;obtain⟨b1,o1,rfl,bD⟩:=hA1 zO;obtain⟨A',c',hc,aT⟩:=(HB.out.below nT).get k hlt;have iO:=Yx hlt;have hle:=vp bs (k+1);have hgk:=zL hlt;generalize bs[k]=l at *;obtain⟨o,n,cur,hH,q1,q2,q3,q4⟩:=lG.heap;have hln:l.length<=n:=by have:=hT.out;have:=htb.out;omega
        have pU:Bys wr wr.heap.size (.slice A' l.length c') l:=aT.more nT.size;have uw:=lG.out;obtain⟨cb,rb,sb,_⟩:=lG.bb;have n1:ob≠s0+1:=qN uw hH.box zA1;have n2:ob≠s0:=qN uw hH.row zA1;have n3:BB≠s0+1:=qN rb hH.box zA1;have n4:BB≠s0:=qN rb hH.row zA1;have su:∀ a b,qk.r a b->(Xc (s0+1) s0).r a b:=qgd;obtain⟨RR,ak⟩:∃ RR:Rel,RR=Xc (s0+1) s0:=⟨_,rfl⟩
        rw[<-ak] at su;have hle:=su;have g1:∀ W,RR.r wr W->∀ i,W.cell? ⟨ob,i,none⟩=#[.slice (some ⟨BB,0,none⟩) bs.length bs.length,.slice (some ⟨WW,0,none⟩) ws.length (ws.length+1)][i]?:=fun W h=>qa (vZ (ak ▸ h) n1 n2 uw);replace ak:=zH ak;replace lG:=zH lG;replace iO:=zH iO;replace hgk:=zH hgk;replace hH:=zH hH;replace rb:=zH rb;clear q1 q2 q3 q4 su xU;go_wp2_with fail;refine qm zQ ?_;refine qaT (w:=wr) qk RR 4 hle (qD [(4,Un (s0+1) s0 o n cur l)]) [true,true,true,true,true,true] 1 zQ zQ zQ zQ zQ zQ zQ ?st one_at (Rel.drew _ _) ?walk
        case st=>exact qj (by simp only[List.forall_mem_cons];exact⟨XT _ _ _ _ _ _,fun _ h=>by cases h⟩)
        case walk =>
         intro K hK;dsimp only[qp];repeat ((first|(refine jj hle ?_ zA0 zA0 (fun W hW _=>?_) ?_;rotate_left;(go_simp<;>with_reducible rfl))|(refine Jm zA0 ?_));try simp only[Act.put,ql,qf,qc,qg,QS,Zr,qc,zA,zB,zC])
         refine Gh (Un (s0+1) s0 o n cur l) zA0 zA0 (fun W hW _=>?_) (fun (p:Nat)=>?_)
         ·have hW:Ext wr W:=hW;refine Qb ?_ ((Gk (s0+1) s0 o n cur A' c' l hln W ⟨qb hH.out.box hW,qb hH.out.row hW,hH.out.ne,hH.out.fit,hH.out.few⟩ (pU.below hW |>.more hW.size)).mono fun e w' h=>?_)
          ·go_simp
          obtain⟨o',rfl,h1,h2,h3,e1,e2,e3,e4,e5⟩:=h;refine⟨o',rfl,⟨h1,h2,h3⟩,?_⟩;rw[ak.out];exact⟨e2,e3,e4,Nat.le_of_eq e1.symm,fun b _ h1 h2=>e5 b h1 h2⟩
         simp only[Act.put,qf,qc,qg,QS,Zr,qc,zA,zB,zC];repeat ((first|(refine jj hle ?_ zA0 zA0 (fun W hW _=>?_) ?_;rotate_left;(go_simp<;>with_reducible rfl))|(refine Jm zA0 ?_));try simp only[Act.put,ql,qf,qc,qg,QS,Zr,qc,zA,zB,zC])
         first
          |(refine jj hle (.pointer (some ⟨BB,0+k,none⟩)) zA0 zA0 (fun W hW _=>?_) ?_
            ·go_simp;rw[IntWalk.i64_in (k:Int) zO,if_pos zO];simp
            simp only[Act.put,ql,qf,qc,qg,QS,Zr,qc,zA,zB,zC])
          |skip
         repeat ((first|(refine jj hle ?_ zA0 zA0 (fun W hW _=>?_) ?_;rotate_left;(go_simp<;>with_reducible rfl))|(refine Jm zA0 ?_));try simp only[Act.put,ql,qf,qc,qg,QS,Zr,qc,zA,zB,zC])
         refine qaY (hK _ _ fun W hW hF=>?_);obtain⟨h1,h2,hH'⟩:(Un (s0+1) s0 o n cur l).φ p W:=(hF 4).1;clear hF hK g1;rw[ak.out] at hW;refine zB5 ?_;obtain⟨T1,hin⟩:=lG.out.clone hH.out hln hW h1 h2 hH';have rB:=vZ hW n3 n4 rb.out;have kB:=qa rB k;have fB:=qe rB k;rw[Array.getElem?_eq_getElem zO] at kB;generalize cb[k]=u0 at *;have T2:=T1.setB hgk.out hin;rw[<-iO.out] at T2;have IR:TwI bs ws T s0 wn (s0+1) s0 BB WW ob (.int .i64 ((k:Int)+1)) (W.setCell ⟨BB,k,none⟩ (.slice (some ⟨s0,o,none⟩) l.length l.length)):=⟨k+1,zO,rfl,T2⟩
         replace IR:=zH IR;have uS:=zH (IntWalk.wrap64_in ((k:Int)+1) zO);clear T1 T2 hin hW h1 h2 hH' rB rb lG hH iO hgk;go_wp2;refine Qm ?_;go_wp2_with fail;try rw[uS.out]
         refine⟨IR.out,?_⟩;simp[intOf];omega
       ·obtain rfl:k=bs.length:=zO;rw[List.take_length] at lG;have J0:TwJ bs ws T s0 wn (s0+1) s0 BB WW ob (.int .i64 0) wr:=⟨0,Nat.zero_le _,rfl,lG⟩
        replace J0:=zH J0;generalize uS:wr=wk at *;clear uS lG nT;go_wp2_with fail;go_loopw [72] (fun i wr=>TwJ bs ws T s0 wn (s0+1) s0 BB WW ob i wr) (fun i _=>ws.length-(intOf i).toNat)
        case atStart=>exact J0.out
        case round =>
         obtain⟨k,hk,rfl,lG⟩:=hrel.ex;clear hrel J0 kr rr;have nT:Below w.heap.size w wr:=Below.trans xw3 (Below.mono lG.below zO);have rr:=(lG.below.block w.heap.size zO).trans r3'.out;have kr:=qa rr;by_cases hlt:k<ws.length
         ·have aJ:=hlt;obtain⟨b2,o2,rfl,bI⟩:=xU zO;obtain⟨A',c',ha,hc,aT⟩:=(HW.out.below nT).get k hlt;have iO:Je ((ws.take (k+1)).map (·.2))=Je ((ws.take k).map (·.2))+ws[k].2.length:=by rw[List.map_take,List.map_take,Yx (by rw[List.length_map];exact hlt),List.getElem_map]
          have hle:Je ((ws.take (k+1)).map (·.2))<=tw:=by rw[htw.out,List.map_take];exact vp _ _
          have hgk:=zL hlt;generalize ws[k]=pl at *;obtain⟨pn,l⟩:=pl;simp only at ha hc aT iO;go_upto_region 22 with fail;generalize hwp:World.alloc wr _=wp;have xp:Ext wr wp:=by rw[<-hwp];exact zN _ _
          have tp:wp.heap[wr.heap.size]?=some (.cells #[.int .i64 pn,.slice A' l.length c'] 130 (0,0)):=by rw[<-hwp];exact zI _ _ _ rfl
          clear hwp;have hls:s0<=wr.heap.size:=Nat.le_trans (Nat.le_trans zO lG.below.size) (zM _);have hTP:=lG.ext xp hls;obtain⟨o,n,cur,hH,q1,q2,q3,q4⟩:=hTP.heap;have hln:l.length<=n:=by have:=hT.out;have:=htb.out;omega
          have pU:Bys wp wp.heap.size (.slice A' l.length c') l:=(aT.below (Below.mono xp nT.size)).more (by have:=xp.size;have:=nT.size;omega);have uw:=hTP.out;obtain⟨cw,rw_,sw,_⟩:=hTP.ww;have zhb:=(zG.1 ((lG.heap).choose_spec.choose_spec.choose_spec.1.box)).1;have zg:=(zG.1 ((lG.heap).choose_spec.choose_spec.choose_spec.1.row)).1;have zw:=(zG.1 (lG.ww.choose_spec.1)).1;have n1:ob≠s0+1:=qN uw hH.box zA1;have n2:ob≠s0:=qN uw hH.row zA1;have n3:WW≠s0+1:=qN rw_ hH.box zA1;have n4:WW≠s0:=qN rw_ hH.row zA1;have su:∀ a b,qk.r a b->(Xc (s0+1) s0).r a b:=qgd;obtain⟨RR,ak⟩:∃ RR:Rel,RR=Xc (s0+1) s0:=⟨_,rfl⟩
          rw[<-ak] at su;have hle:=su;generalize wr.heap.size=tt at tp hls zhb zg zw ⊢;have g1:∀ W,RR.r wp W->∀ i,W.cell? ⟨ob,i,none⟩=#[.slice (some ⟨BB,0,none⟩) bs.length bs.length,.slice (some ⟨WW,0,none⟩) ws.length (ws.length+1)][i]?:=fun W h=>qa (vZ (ak ▸ h) n1 n2 uw);have g2:∀ W,RR.r wp W->∀ i,W.cell? ⟨tt,i,none⟩=#[.int .i64 pn,.slice A' l.length c'][i]?:=fun W h=>qa (vZ (ak ▸ h) zO zO tp);replace ak:=zH ak;replace hTP:=zH hTP;replace iO:=zH iO;replace hgk:=zH hgk;replace hH:=zH hH;replace rw_:=zH rw_;clear q1 q2 q3 q4 su lG aT ha hc hA1 tp xp rr kr;refine qm zQ ?_;refine qaT (w:=wp) qk RR 7 hle (qD [(7,Un (s0+1) s0 o n cur l)]) [true,true,true,true,true,true,true,true,true,true] 1 zQ zQ zQ zQ zQ zQ zQ ?st one_at (Rel.drew _ _) ?walk
          case st=>exact qj (by simp only[List.forall_mem_cons];exact⟨XT _ _ _ _ _ _,fun _ h=>by cases h⟩)
          case walk =>
           intro K hK;dsimp only[qp];repeat ((first|(refine jj hle ?_ zA0 zA0 (fun W hW _=>?_) ?_;rotate_left;(go_simp<;>with_reducible rfl))|(refine Jm zA0 ?_));try simp only[Act.put,ql,qf,qc,qg,QS,Zr,qc,zA,zB,zC])
           refine Gh (Un (s0+1) s0 o n cur l) zA0 zA0 (fun W hW _=>?_) (fun (p:Nat)=>?_)
           ·have hW:Ext wp W:=hW;refine Qb ?_ ((Gk (s0+1) s0 o n cur A' c' l hln W ⟨qb hH.out.box hW,qb hH.out.row hW,hH.out.ne,hH.out.fit,hH.out.few⟩ (pU.below hW |>.more hW.size)).mono fun e w' h=>?_)
            ·go_simp
            obtain⟨o',rfl,h1,h2,h3,e1,e2,e3,e4,e5⟩:=h;refine⟨o',rfl,⟨h1,h2,h3⟩,?_⟩;rw[ak.out];exact⟨e2,e3,e4,Nat.le_of_eq e1.symm,fun b _ h1 h2=>e5 b h1 h2⟩
           simp only[Act.put,qf,qc,qg,QS,Zr,qc,zA,zB,zC];repeat ((first|(refine jj hle ?_ zA0 zA0 (fun W hW _=>?_) ?_;rotate_left;(go_simp<;>with_reducible rfl))|(refine Jm zA0 ?_));try simp only[Act.put,ql,qf,qc,qg,QS,Zr,qc,zA,zB,zC])
           first
            |(refine jj hle (.pointer (some ⟨WW,0+k*2,none⟩)) zA0 zA0 (fun W hW _=>?_) ?_
              ·go_simp;rw[IntWalk.i64_in (k:Int) zO,if_pos zO];simp
              simp only[Act.put,ql,qf,qc,qg,QS,Zr,qc,zA,zB,zC])
            |skip
           repeat ((first|(refine jj hle ?_ zA0 zA0 (fun W hW _=>?_) ?_;rotate_left;(go_simp<;>with_reducible rfl))|(refine Jm zA0 ?_));try simp only[Act.put,ql,qf,qc,qg,QS,Zr,qc,zA,zB,zC])
           refine qaY (hK _ _ fun W hW hF=>?_);obtain⟨h1,h2,hH'⟩:(Un (s0+1) s0 o n cur l).φ p W:=(hF 7).1;clear hF hK g1 g2;rw[ak.out] at hW;refine zB5 ?_;obtain⟨T1,hin⟩:=hTP.out.clone hH.out hln hW h1 h2 hH';have rB:=vZ hW n3 n4 rw_.out;have kB:=qa rB (k*2);have kC:=qa rB (k*2+1);have fB:=qe rB;rw[Array.getElem?_eq_getElem zO] at kB kC;generalize cw[k*2]=u0 at *;generalize cw[k*2+1]=u1 at *;have T2:=T1.setW hgk.out hin;rw[Nat.add_assoc,<-iO.out] at T2;have IR:TwJ bs ws T s0 wn (s0+1) s0 BB WW ob (.int .i64 ((k:Int)+1)) ((W.setCell ⟨WW,k*2,none⟩ (.int .i64 pn)).setCell ⟨WW,k*2+1,none⟩ (.slice (some ⟨s0,o,none⟩) l.length l.length)):=⟨k+1,zO,rfl,T2⟩
           replace IR:=zH IR;have uS:=zH (IntWalk.wrap64_in ((k:Int)+1) zO);clear T1 T2 hin hW h1 h2 hH' rB rw_ hTP hH iO hgk;go_wp2;refine Qm ?_;go_wp2_with fail;try rw[uS.out]
           refine⟨IR.out,?_⟩;simp[intOf];omega
         ·obtain rfl:k=ws.length:=zO;have DT:=lG.done;have qq:=(lG.below.block (w.heap.size+1) zO).trans q3'.out;have kq:=qa qq;have fq:=qe qq;have ko:=qa lG.out;have rf:=qi (qi qq 0 (.slice (some ⟨BB,0,none⟩) bs.length bs.length)) 1 (.slice (some ⟨WW,0,none⟩) ws.length (ws.length+1));have kf:=qa rf;have bf:Below w.heap.size w ((wr.setCell ⟨w.heap.size+1,0,none⟩ (.slice (some ⟨BB,0,none⟩) bs.length bs.length)).setCell ⟨w.heap.size+1,1,none⟩ (.slice (some ⟨WW,0,none⟩) ws.length (ws.length+1))):=Below.setCell (Below.setCell nT (p:=⟨w.heap.size+1,0,none⟩) (Nat.le_succ _) _) (p:=⟨w.heap.size+1,1,none⟩) (Nat.le_succ _) _;have DF:jS w.heap.size bs ws BB WW s0 ((wr.setCell ⟨w.heap.size+1,0,none⟩ (.slice (some ⟨BB,0,none⟩) bs.length bs.length)).setCell ⟨w.heap.size+1,1,none⟩ (.slice (some ⟨WW,0,none⟩) ws.length (ws.length+1))):=
           DT.keep zO zA3 (fun b h1 _=>(zJ _ _ _ _ (by show b≠w.heap.size+1;omega)).trans (zJ _ _ _ _ (by show b≠w.heap.size+1;omega)))
          replace kf:=zH kf;replace bf:=zH bf;replace DF:=zH DF;clear rf DT lG;go_wp2;have kf:=kf.out;exact bodyPost_ret (v:=VK (some ⟨BB,0,none⟩) bs.length bs.length (some ⟨WW,0,none⟩) ws.length (ws.length+1)) (by simp[results,results171,go_sem,kf]) rfl ⟨BB,WW,s0,rfl,DF.out,bf.out⟩
def vR (w:World) (b:Nat):Nat->List Value->World
 |_,[]=>w
 |k,v :: r=>vR (w.setCell ⟨b,k,none⟩ v) b (k+1) r
def Yb (cs:Array Value):Nat->List Value->Array Value
 |_,[]=>cs
 |k,v :: r=>Yb (cs.setIfInBounds k v) (k+1) r
theorem ZO {b g:Nat} (h:g≠b):∀ (vs:List Value) (w:World) (k:Nat),(vR w b k vs).heap[g]?=w.heap[g]?
 | [],_,_=>rfl
 |_ :: r,w,k=>(ZO h r _ _).trans (zJ _ _ _ _ h)
theorem jp {b:Nat}:∀ (vs:List Value) (w:World) (k:Nat),(vR w b k vs).heap.size=w.heap.size
 | [],_,_=>rfl
 |_ :: r,w,k=>(jp r _ _).trans zA3
theorem ZN {B b:Nat} {w0:World} (hB:B<=b):∀ (vs:List Value) (w:World) (k:Nat),Below B w0 w->Below B w0 (vR w b k vs)
 | [],_,_,h=>h
 |v :: r,w,k,h=>ZN hB r _ _ (Below.setCell h (p:=⟨b,k,none⟩) hB v)
theorem jQ {b:Nat} {t:TypeId}:∀ (vs:List Value) (w:World) (k:Nat) (cs:Array Value),w.heap[b]?=some (.cells cs t (0,0))->(vR w b k vs).heap[b]?=some (.cells (Yb cs k vs) t (0,0))
 | [],_,_,_,h=>h
 |v :: r,w,k,cs,h=>jQ r _ _ _ (qi h k v)
def outDT (lo:Nat) (bs:List (List UInt8)) (ws:List (Int×List UInt8)):qS:=⟨Nat×Nat×Nat,fun p=>VK (some ⟨p.1,0,none⟩) bs.length bs.length (some ⟨p.2.1,0,none⟩) ws.length (ws.length+1),fun p W=>jS lo bs ws p.1 p.2.1 p.2.2 W⟩
theorem kX (lo:Nat) (bs:List (List UInt8)) (ws:List (Int×List UInt8)) (b c g:Nat):(outDT lo bs ws).f (b,c,g)=VK (some ⟨b,0,none⟩) bs.length bs.length (some ⟨c,0,none⟩) ws.length (ws.length+1):=rfl
theorem qce (lo:Nat) (bs:List (List UInt8)) (ws:List (Int×List UInt8)):∀ p,qC qk ((outDT lo bs ws).φ p):=fun p W W' he h=>by have he:Ext W W':=he;exact jS.keep h (zM _) he.size fun b _ hb=>he.block b hb
def Tz (lo:Nat) (l:List UInt8):qS:=⟨Option Addr×Nat,fun p=>.slice p.1 l.length p.2,fun p W=>W.ownsRow lo 5 1 (.slice p.1 l.length p.2) l.length (l.map bv)⟩
theorem vM (lo:Nat) (l:List UInt8) (A:Option Addr) (c:Nat):(Tz lo l).f (A,c)=.slice A l.length c:=rfl
theorem YJ (lo:Nat) (l:List UInt8):∀ p,qC qk ((Tz lo l).φ p):=fun p W W' he h=>QM h he
theorem Zh {w w':World} {lo:Nat} {e:TypeId} {size:Nat} {v:Value} {n:Nat} {xs:List Value} (h:w.ownsRow lo e size v n xs) (hk:∀ b,lo<=b->b<w.heap.size->w'.heap[b]?=w.heap[b]?):w'.ownsRow lo e size v n xs:=
 ⟨h.1,h.2.imp id fun ⟨g,cap,cur,h1,h2,h3,h4⟩=>⟨g,cap,cur,h1,h2,(hk g h2 (zG.1 h3).1).trans h3,h4⟩⟩
def QF (lo:Nat) (S:Sto) (u:Value) (W:World):Prop:=∃ BB WW g A3 c3 A4 c4,u=Qd (some ⟨BB,0,none⟩) S.bs.length S.bs.length (some ⟨WW,0,none⟩) S.ws.length (S.ws.length+1) A3 S.now.length c3 A4 S.last.length c4/\jS lo S.bs S.ws BB WW g W /\
 W.ownsRow lo 5 1 (.slice A3 S.now.length c3) S.now.length (S.now.map bv)/\W.ownsRow lo 5 1 (.slice A4 S.last.length c4) S.last.length (S.last.map bv)
theorem QF.keep {lo lo':Nat} {S:Sto} {u:Value} {W W2:World} (h:QF lo S u W) (hl:lo'<=lo) (hs:W.heap.size<=W2.heap.size) (hk:∀ b,lo<=b->b<W.heap.size->W2.heap[b]?=W.heap[b]?):QF lo' S u W2:=by obtain⟨BB,WW,g,A3,c3,A4,c4,e,h1,h2,h3⟩:=h;exact⟨BB,WW,g,A3,c3,A4,c4,e,h1.keep hl hs hk,Qw (Zh h2 hk) hl,Qw (Zh h3 hk) hl⟩
theorem qbn {w w':World} {lo:Nat} {e:TypeId} {size:Nat} {v:Value} {n:Nat} {xs:List Value} (h:w.ownsRow lo e size v n xs) {b1:Nat} {c1:Array Value} {t1:TypeId} (h1:w.heap[b1]?=some (.cells c1 t1 (0,0))) (ht:t1≠e) (hk:∀ b,lo<=b->b<w.heap.size->b≠b1->w'.heap[b]?=w.heap[b]?):w'.ownsRow lo e size v n xs:=
 ⟨h.1,h.2.imp id fun ⟨g,cap,cur,g1,g2,h3,h4⟩=>⟨g,cap,cur,g1,g2,(hk g g2 (zG.1 h3).1 (qN h3 h1 fun e=>ht e.symm)).trans h3,h4⟩⟩
theorem QF.keepT {lo lo':Nat} {S:Sto} {u:Value} {W W2:World} (h:QF lo S u W) (hl:lo'<=lo) (hs:W.heap.size<=W2.heap.size) {b1:Nat} {c1:Array Value} {t1:TypeId} (hr:W.heap[b1]?=some (.cells c1 t1 (0,0))) (ht:t1≠26/\t1≠130/\t1≠5) (hk:∀ b,lo<=b->b<W.heap.size->b≠b1->W2.heap[b]?=W.heap[b]?):QF lo' S u W2:=by obtain⟨BB,WW,g,A3,c3,A4,c4,e,h1,h2,h3⟩:=h;exact⟨BB,WW,g,A3,c3,A4,c4,e,h1.keepT hl hs hr ht hk,Qw (qbn h2 hr ht.2.2 hk) hl,Qw (qbn h3 hr ht.2.2 hk) hl⟩
set_option maxRecDepth 100000 in
theorem qhH (A1:Option Addr) (n1 c1:Nat) (A2:Option Addr) (n2 c2:Nat) (A3:Option Addr) (n3 c3:Nat) (A4:Option Addr) (n4 c4:Nat) (S:Sto) (hS:Xs S) (w:World) (h:qU w w.heap.size (.slice A1 n1 c1) (.slice A2 n2 c2) (.slice A3 n3 c3) (.slice A4 n4 c4) S):Calls prog 152 #[Qd A1 n1 c1 A2 n2 c2 A3 n3 c3 A4 n4 c4] w (QV (QF w.heap.size S) w):=by
 have HD:=zH (fun W (hW:Ext w W)=>qgU A1 n1 c1 A2 n2 c2 S.bs S.ws hS.bs hS.ws hS.be hS.we W (h.ext hW).bs (h.ext hW).ws);have HN:=zH (fun W (hW:Ext w W)=>vG _ S.now (by have:=hS.now;omega) W (h.ext hW).now);have HL:=zH (fun W (hW:Ext w W)=>vG _ S.last (by have:=hS.last;omega) W (h.ext hW).last);clear h hS;go_enter func152,ntmps152;go_wp2_with fail;generalize aA:(World.alloc (World.alloc _ _) _)=w1;have x1:Ext w w1:=by rw[<-aA];exact(zN _ _).trans (zN _ _)
 have r1:w1.heap[w.heap.size]?=some (.cells #[.slice A1 n1 c1,.slice A2 n2 c2,.slice A3 n3 c3,.slice A4 n4 c4] 28 (0,0)):=by rw[<-aA];exact(zK _ _ _ zA3).trans (zI _ _ _ rfl)
 have q1:w1.heap[w.heap.size+1]?=some (.cells #[.slice none 0 0,.slice none 0 0,.slice none 0 0,.slice none 0 0] 28 (0,0)):=by rw[<-aA];exact zI _ _ _ zA3
 clear aA;have g1:∀ W,qk.r w1 W->∀ i,W.cell? ⟨w.heap.size,i,none⟩=#[.slice A1 n1 c1,.slice A2 n2 c2,.slice A3 n3 c3,.slice A4 n4 c4][i]?:=fun W h=>qa (qb r1 h);refine qm zQ ?_;refine qL (w:=w1) qk (qD [(2,outDT w1.heap.size S.bs S.ws),(5,Tz w1.heap.size S.now),(8,Tz w1.heap.size S.last)])
  [true,true,true,true,true,true,true,true,true,true] 1 zQ zQ zQ zQ zQ zQ zQ ?st (Rel.drew _ _) ?walk
 case st=>exact qj (by simp only[List.forall_mem_cons];exact⟨qce _ _ _,YJ _ _,YJ _ _,fun _ h=>by cases h⟩)
 case walk =>
  intro K hK;dsimp only[qp];repeat ((first|(refine qd ?_ zA0 zA0 (fun W hW _=>⟨W,?_,Rel.refl _ W⟩) ?_;rotate_left;(go_simp<;>with_reducible rfl))|(refine qh zA0 ?_));try simp only[Act.put,ql,qf,qc,qg,kX,vM,zA,zB,zC])
  refine qw (outDT w1.heap.size S.bs S.ws) zA0 zA0 (fun W hW _=>?_) (fun p=>?_)
  ·refine Qb ?_ ((HD.out W (Ext.trans x1 hW)).mono fun e w' h=>?_)
   ·go_simp
   have hW:Ext w1 W:=hW;obtain⟨b,c,g,rfl,h1,hB⟩:=h;exact⟨(b,c,g),rfl,h1.keep hW.size (zM _) (fun _ _ _=>rfl),hB⟩
  obtain⟨bb,cc,gg⟩:=p;simp only[Act.put,qf,qc,qg,kX,vM,zA,zB,zC];repeat ((first|(refine qd ?_ zA0 zA0 (fun W hW _=>⟨W,?_,Rel.refl _ W⟩) ?_;rotate_left;(go_simp<;>with_reducible rfl))|(refine qh zA0 ?_));try simp only[Act.put,ql,qf,qc,qg,kX,vM,zA,zB,zC])
  refine qw (Tz w1.heap.size S.now) zA0 zA0 (fun W hW _=>?_) (fun p=>?_)
  ·refine Qb ?_ ((HN.out W (Ext.trans x1 hW)).mono fun e w' h=>?_)
   ·go_simp
   have hW:Ext w1 W:=hW;obtain⟨u,rfl,hu,hB⟩:=h;obtain⟨A,c,rfl,_,_⟩:=qy hu;exact⟨(A,c),rfl,Qw hu hW.size,hB⟩
  obtain⟨B3,d3⟩:=p;simp only[Act.put,qf,qc,qg,kX,vM,zA,zB,zC];repeat ((first|(refine qd ?_ zA0 zA0 (fun W hW _=>⟨W,?_,Rel.refl _ W⟩) ?_;rotate_left;(go_simp<;>with_reducible rfl))|(refine qh zA0 ?_));try simp only[Act.put,ql,qf,qc,qg,kX,vM,zA,zB,zC])
  refine qw (Tz w1.heap.size S.last) zA0 zA0 (fun W hW _=>?_) (fun p=>?_)
  ·refine Qb ?_ ((HL.out W (Ext.trans x1 hW)).mono fun e w' h=>?_)
   ·go_simp
   have hW:Ext w1 W:=hW;obtain⟨u,rfl,hu,hB⟩:=h;obtain⟨A,c,rfl,_,_⟩:=qy hu;exact⟨(A,c),rfl,Qw hu hW.size,hB⟩
  obtain⟨B4,d4⟩:=p;simp only[Act.put,qf,qc,qg,kX,vM,zA,zB,zC];repeat ((first|(refine qd ?_ zA0 zA0 (fun W hW _=>⟨W,?_,Rel.refl _ W⟩) ?_;rotate_left;(go_simp<;>with_reducible rfl))|(refine qh zA0 ?_));try simp only[Act.put,ql,qf,qc,qg,kX,vM,zA,zB,zC])
  refine qt (hK _ _ fun W hW hF=>?_);have hD:jS w1.heap.size S.bs S.ws bb cc gg W:=(hF 2).1;have hN:W.ownsRow w1.heap.size 5 1 (.slice B3 S.now.length d3) S.now.length (S.now.map bv):=(hF 5).1;have hL:W.ownsRow w1.heap.size 5 1 (.slice B4 S.last.length d4) S.last.length (S.last.map bv):=(hF 8).1;have hW:Ext w1 W:=hW;clear hF hK g1;refine zB5 ?_;have qW:=qb q1 hW;have kW:=qa qW;have fW:=qe qW;have hz:w.heap.size+1<w1.heap.size:=(zG.1 q1).1;have P5:∀ wx:World,wx=vR W (w.heap.size+1) 0 [.slice (some ⟨bb,0,none⟩) S.bs.length S.bs.length,.slice (some ⟨cc,0,none⟩) S.ws.length (S.ws.length+1),.slice B3 S.now.length d3,.slice B4 S.last.length d4] ->
    wx.heap[w.heap.size+1]?=some (.cells #[.slice (some ⟨bb,0,none⟩) S.bs.length S.bs.length,.slice (some ⟨cc,0,none⟩) S.ws.length (S.ws.length+1),.slice B3 S.now.length d3,.slice B4 S.last.length d4] 28 (0,0))/\Below w.heap.size w wx /\
     QF w.heap.size S (Qd (some ⟨bb,0,none⟩) S.bs.length S.bs.length (some ⟨cc,0,none⟩) S.ws.length (S.ws.length+1) B3 S.now.length d3 B4 S.last.length d4) wx:=fun wx e=>by
   have hk:∀ b,w1.heap.size<=b->b<W.heap.size->wx.heap[b]?=W.heap[b]?:=fun b h1 _=>by rw[e];exact ZO zO _ _ _
   have hs:W.heap.size<=wx.heap.size:=by rw[e,jp];exact zM _
   refine⟨by rw[e];refine(jQ _ _ _ _ qW).trans ?_;simp[Yb],by rw[e];exact ZN (Nat.le_succ _) _ _ _ (Ext.trans x1 hW),bb,cc,gg,B3,d3,B4,d4,rfl,hD.keep zO hs hk,Qw (Zh hN hk) zO,Qw (Zh hL hk) zO⟩
  replace P5:=zH P5;clear hD hN hL qW hW;go_wp2;refine Qm ?_;go_wp2_with fail;have P5:=P5.out;generalize aK:World.setCell (World.setCell (World.setCell (World.setCell W _ _) _ _) _ _) _ _=w5;obtain⟨r5,x5,h5⟩:=P5 w5 aK.symm;clear P5 aK;have k5:=qa r5;exact bodyPost_ret (v:=Qd (some ⟨bb,0,none⟩) S.bs.length S.bs.length (some ⟨cc,0,none⟩) S.ws.length (S.ws.length+1) B3 S.now.length d3 B4 S.last.length d4) (by simp[results,results152,go_sem,k5]) rfl ⟨_,rfl,h5,x5⟩
set_option maxRecDepth 100000 in
theorem vH (b:Nat) (A1:Option Addr) (n1 c1:Nat) (A2:Option Addr) (n2 c2:Nat) (A3:Option Addr) (n3 c3:Nat) (A4:Option Addr) (n4 c4:Nat) (S:Sto) (hS:Xs S) (w:World) (hr:w.heap[b]?=some (.cells #[.slice A1 n1 c1,.slice A2 n2 c2,.slice A3 n3 c3,.slice A4 n4 c4] 191 (0,0))) (h:qU w w.heap.size (.slice A1 n1 c1) (.slice A2 n2 c2) (.slice A3 n3 c3) (.slice A4 n4 c4) S):Calls prog 105 #[.pointer (some ⟨b,0,none⟩)] w (QV (QF w.heap.size S) w):=by
 have HT:=zH (fun W (hW:Ext w W)=>qhH A1 n1 c1 A2 n2 c2 A3 n3 c3 A4 n4 c4 S hS W (h.ext hW));clear h hS;have k0:=qa hr;have zb:b<w.heap.size:=(zG.1 hr).1;go_enter func105,ntmps105;go_wp2_with fail;generalize aA:World.alloc _ _=w1;have x1:Ext w w1:=by rw[<-aA];exact zN _ _
 have q1:w1.heap[w.heap.size]?=some (.cells #[.slice none 0 0,.slice none 0 0,.slice none 0 0,.slice none 0 0] 28 (0,0)):=by rw[<-aA];exact zI _ _ _ zA3
 clear aA k0;refine(HT.out w1 x1).mono ?_;rintro e w2 ⟨u,rfl,hT,hB⟩;have hB:Ext w1 w2:=hB;have q2:=qb q1 hB;have kq:=qa q2;have fq:=qe q2;have z1:w.heap.size<w1.heap.size:=(zG.1 q1).1;obtain⟨BB,WW,g,B3,d3,B4,d4,rfl,hD,hN,hL⟩:=hT;have P5:∀ wx:World,wx=vR w2 w.heap.size 0 [.slice (some ⟨BB,0,none⟩) S.bs.length S.bs.length,.slice (some ⟨WW,0,none⟩) S.ws.length (S.ws.length+1),.slice B3 S.now.length d3,.slice B4 S.last.length d4] ->
   wx.heap[w.heap.size]?=some (.cells #[.slice (some ⟨BB,0,none⟩) S.bs.length S.bs.length,.slice (some ⟨WW,0,none⟩) S.ws.length (S.ws.length+1),.slice B3 S.now.length d3,.slice B4 S.last.length d4] 28 (0,0))/\Below w.heap.size w wx /\
    QF w.heap.size S (Qd (some ⟨BB,0,none⟩) S.bs.length S.bs.length (some ⟨WW,0,none⟩) S.ws.length (S.ws.length+1) B3 S.now.length d3 B4 S.last.length d4) wx:=fun wx e=>by
  have hk:∀ b,w1.heap.size<=b->b<w2.heap.size->wx.heap[b]?=w2.heap[b]?:=fun b h1 _=>by rw[e];exact ZO zO _ _ _
  have hs:w2.heap.size<=wx.heap.size:=by rw[e,jp];exact zM _
  refine⟨by rw[e];refine(jQ _ _ _ _ q2).trans ?_;simp[Yb],by rw[e];exact ZN (zM _) _ _ _ (x1.trans hB),BB,WW,g,B3,d3,B4,d4,rfl,hD.keep zO hs hk,Qw (Zh hN hk) zO,Qw (Zh hL hk) zO⟩
 replace P5:=zH P5;clear hD hN hL q2 hB q1;go_wp2_with fail;have P5:=P5.out;generalize aK:World.setCell (World.setCell (World.setCell (World.setCell w2 _ _) _ _) _ _) _ _=w5;obtain⟨r5,x5,h5⟩:=P5 w5 aK.symm;clear P5 aK;have k5:=qa r5;exact bodyPost_ret (v:=Qd (some ⟨BB,0,none⟩) S.bs.length S.bs.length (some ⟨WW,0,none⟩) S.ws.length (S.ws.length+1) B3 S.now.length d3 B4 S.last.length d4) (by simp[results,results105,go_sem,k5]) rfl ⟨_,rfl,h5,x5⟩
theorem UP {w:World} {lo g n c k:Nat} {l:List UInt8} (h:w.ownsRow lo 5 1 (.slice (some ⟨g,0,none⟩) n c) n (l.map bv)) (hk:k<n) (x:UInt8):(w.setCell ⟨g,k,none⟩ (bv x)).ownsRow lo 5 1 (.slice (some ⟨g,0,none⟩) n c) n ((l.set k x).map bv):=by
 obtain⟨h1,h2⟩:=h;rcases h2 with ⟨e,_⟩|⟨g',cap,cur,e,hg,hr,hc,hm,hs,ht⟩
 ·cases e
 ·cases e;have hk2:k<cur.size:=zO;refine⟨by simpa using h1,.inr ⟨g,c,_,rfl,hg,qi hr k _,hc,hm,by simpa using hs,?_⟩⟩;apply List.ext_getElem?;intro i;rw[List.map_set,<-ht,List.getElem?_take,List.getElem?_set,List.getElem?_take];simp only[Nat.mul_one,Array.getElem?_toList,Array.getElem?_setIfInBounds,List.length_take,Array.length_toList];by_cases hi:i<n
  ·rw[if_pos hi,if_pos hi];by_cases e:k=i
   ·subst e;rw[if_pos rfl,if_pos rfl,if_pos hk2,if_pos zO]
   ·rw[if_neg e,if_neg e]
  ·rw[if_neg hi,if_neg hi,if_neg zO]
theorem qdW {w:World} {lo g n c b k:Nat} {l:List UInt8} {v:Value} (h:w.ownsRow lo 5 1 (.slice (some ⟨g,0,none⟩) n c) n (l.map bv)) (hg:g≠b):(w.setCell ⟨b,k,none⟩ v).ownsRow lo 5 1 (.slice (some ⟨g,0,none⟩) n c) n (l.map bv):=by obtain⟨h1,h2⟩:=h;refine⟨h1,h2.imp id fun ⟨g',cap,cur,e,h3,h4,h5⟩=>?_⟩;cases e;exact⟨g,c,cur,rfl,h3,(zJ _ _ _ _ hg).trans h4,h5⟩
theorem zm {w:World} {lo g n c:Nat} {l:List UInt8} (h:w.ownsRow lo 5 1 (.slice (some ⟨g,0,none⟩) n c) n (l.map bv)):(∀ k,k<n->w.cell? ⟨g,k,none⟩=some (.int .u8 ((l[k]?.getD 0).toNat:Int)))/\(∀ k,w.frozen? ⟨g,k,none⟩=false)/\lo<=g/\g<w.heap.size:=by
 have h1:=h.1;obtain⟨h0,h2⟩:=h;rcases h2 with ⟨e,_⟩|⟨g',cap,cur,e,hg,hr,hc,hm,hs,ht⟩
 ·cases e
 ·cases e;refine⟨fun k hk=>?_,qe hr,hg,(zG.1 hr).1⟩;have hl:l.length=n:=by simpa using h1
  have hkl:k<l.length:=zO;have e2:(l.map bv)[k]?=some (bv l[k]):=by rw[List.getElem?_map,zL hkl];rfl
  rw[<-ht,List.getElem?_take,if_pos zO] at e2;have e3:cur[k]?=cur.toList[k]?:=zA3;rw[qa hr,e3,e2,zL hkl];rfl
set_option maxRecDepth 100000 in
theorem GE (A1:Option Addr) (n1 c1:Nat) (A2:Option Addr) (n2 c2:Nat) (A3:Option Addr) (n3 c3:Nat) (A4:Option Addr) (n4 c4:Nat) (S:Sto) (hl:S.now.length<1073741824) (w:World) (h:qU w w.heap.size (.slice A1 n1 c1) (.slice A2 n2 c2) (.slice A3 n3 c3) (.slice A4 n4 c4) S):Calls prog 66 #[Qd A1 n1 c1 A2 n2 c2 A3 n3 c3 A4 n4 c4] w (QV (fun u W=>∃ b A3' c3',u=.pointer (some ⟨b,0,none⟩)/\w.heap.size<=b/\W.heap[b]?=some (.cells #[.slice A1 n1 c1,.slice A2 n2 n2,.slice A3' n3 c3',.slice A4 n4 c4] 191 (0,0))/\W.ownsRow w.heap.size 5 1 (.slice A3' n3 c3') n3 (S.now.map bv)) w):=by
 have wZ:Hid (n3=S.now.length):=zH h.now.at_.1;obtain⟨-,h2a,h2b,-⟩:=h.ws.at_;have HC:=zH (fun W (hW:Ext w W)=>vG (.slice A3 n3 c3) S.now hl W (h.ext hW).now);clear h;go_enter func66,ntmps66;go_wp2_with fail;generalize aA:(World.alloc _ _)=w1;have x1:Ext w w1:=by rw[<-aA];exact zN _ _
 have r1:w1.heap[w.heap.size]?=some (.cells #[.slice A1 n1 c1,.slice A2 n2 c2,.slice A3 n3 c3,.slice A4 n4 c4] 28 (0,0)):=by rw[<-aA];exact zI _ _ _ rfl
 clear aA;refine(HC.out _ x1).mono ?_;rintro e w2 ⟨u,rfl,hu,hB⟩;have x2:=x1.trans hB;have r2:=qb r1 hB;have s1:w.heap.size<w1.heap.size:=(zG.1 r1).1;obtain⟨A3',c3',rfl,_,_⟩:=qy hu;have k2:=qa r2;have f2:=qe r2;clear hB r1 HC;rw[<-wZ.out] at hu ⊢;go_wp2_with fail;have hu3:=Zh (w':=w2.setCell ⟨w.heap.size,2,none⟩ (.slice A3' n3 c3')) hu (fun b hb _=>zJ _ _ _ _ (by show b≠w.heap.size;omega));generalize aO:(World.setCell _ _ _)=w3 at *;have x3:Ext w w3:=by rw[<-aO];exact Below.setCell x2 (p:=⟨w.heap.size,2,none⟩) (zM _) _
 have r3:w3.heap[w.heap.size]?=some (.cells #[.slice A1 n1 c1,.slice A2 n2 c2,.slice A3' n3 c3',.slice A4 n4 c4] 28 (0,0)):=by rw[<-aO];exact qi r2 2 _
 clear aO k2 f2 r2 x2 hu;refine(qdh A2 n2 c2 h2a h2b _).mono ?_;rintro e w4 ⟨rfl,hB⟩;have x4:=x3.trans hB;have r4:=qb r3 hB;have hu4:=QM hu3 hB;have k4:=qa r4;have f4:=qe r4;have s4:w.heap.size<w4.heap.size:=(zG.1 r4).1;clear hB r3 x3 hu3;replace hu4:=zH hu4;go_wp2;have hu5:=Zh (w':=w4.setCell ⟨w.heap.size,1,none⟩ (.slice A2 n2 n2)) hu4.out (fun b hb _=>zJ _ _ _ _ (by show b≠w.heap.size;omega));have bf:Below w.heap.size w ((w4.setCell ⟨w.heap.size,1,none⟩ (.slice A2 n2 n2)).alloc (.cells #[.slice A1 n1 c1,.slice A2 n2 n2,.slice A3' n3 c3',.slice A4 n4 c4] 191)):=by have x4':Below w.heap.size w w4:=x4;exact(by repeat' (first|with_reducible exact Below.refl _ _|with_reducible assumption|with_reducible apply Below.drew|with_reducible apply qz|with_reducible refine Below.alloc ?_ ?_ _|with_reducible refine Below.setCell ?_ ?_ _|(simp;done)|(simp;omega)|omega))
 go_ret;exact⟨_,rfl,⟨w4.heap.size,A3',c3',rfl,zO,zI _ _ _ zA3,Qw (QM hu5 (zN _ _)) zO⟩,bf⟩
def qT (t:List UInt8) (a:Nat):Nat:=(t[a]?.getD 0).toNat
def Ye (t:List UInt8) (a by_:Nat):List UInt8:=t.set a (UInt8.ofNat (qT t a+by_))
theorem qgH (n:Nat):IntKind.u8.wrap (n:Int)=(((UInt8.ofNat n).toNat:Nat):Int):=by simp[IntKind.wrap,IntKind.bits,IntKind.signed]
theorem qas {bs:List (List UInt8)} {ws:List (Int×List UInt8)} (h:jd bs ws=true):bs.length<1000000/\ws.length<1000000/\(∀ l∈bs,l.length<1000000)/\∀ p∈ws,p.2.length<1000000:=by
 unfold jd headD at h;simp only[Bool.and_eq_true,decide_eq_true_eq,List.all_eq_true] at h;obtain⟨⟨h1,h2⟩,h3,h4⟩:=h;refine⟨zO,zO,fun l hl=>?_,fun p hp=>?_⟩
 ·have:=h3 l hl;unfold TP at this;have:=of_decide_eq_true this;omega
 ·have:=h4 p hp;unfold wrOk at this;have:=of_decide_eq_true this;omega
abbrev qu (S:Sto) (t:List UInt8):Sto:=⟨S.bs,S.ws,t,S.last⟩
abbrev sto0:Value:=Qd none 0 0 none 0 0 none 0 0 none 0 0
def qfM (S:Sto) (a:Int):Int:=if ZQ S a≠0 then ZQ S a else if ZE S a.toNat=255 then 70 else 0
def StoQ (e:Int) (S:Sto) (lo:Nat) (u:Value) (W:World):Prop:=(e≠0/\u=.tuple #[sto0,.int .i64 e])\/(e=0/\∃ v,u=.tuple #[v,.int .i64 0]/\QF lo S v W)
theorem za {S:Sto} (h:qo S=true):Xs S:=by
 obtain⟨h1,h2,h3,h4⟩:=qQ h;have hd:jd S.bs S.ws=true:=by unfold qo at h;simp at h;exact h.1
 obtain⟨d1,d2,d3,d4⟩:=qas hd;exact⟨d1,d2,d3,d4,zO,zO⟩
end Go.Proofs.YtpbniokljofedaaGreat
