/- Lemmas of the proof. -/
import Derived.Laws.MakeOwn
import Derived.Test.YtmeadnlmepcmbaaGreatZN10
set_option linter.all false
set_option maxHeartbeats 8000000
open Go.Proofs.Tryz
namespace Go.Proofs.YtmeadnlmepcmbaaGreat
open Go.RowKit
def qal (lo n c:Nat) (ty:TypeId) (cs:Array Value):Qe:=⟨Nat,fun b=>.slice (some ⟨b,0,none⟩) n c,fun b W=>W.heap[b]?=some (.cells cs ty (0,0))/\lo<=b⟩
theorem zX (lo n c:Nat) (ty:TypeId) (cs:Array Value) (b:Nat):(qal lo n c ty cs).f b=.slice (some ⟨b,0,none⟩) n c:=rfl
theorem Yn (lo n c:Nat) (ty:TypeId) (cs:Array Value):∀ p,qJ qm ((qal lo n c ty cs).φ p):=fun p W W' he h=>⟨qb h.1 he,h.2⟩
def qak (hb g o n:Nat) (cur:Array Value) (l:List UInt8):Qe:=⟨Nat,fun _=>.slice (some ⟨g,o,none⟩) l.length l.length,fun o' W=>(0<n-l.length->o'=o+l.length)/\(n-l.length=0->o'=o)/\qdi hb g o' (n-l.length) (jo cur o l) W⟩
theorem jb (hb g o n:Nat) (cur:Array Value) (l:List UInt8) (p:Nat):(qak hb g o n cur l).f p=.slice (some ⟨g,o,none⟩) l.length l.length:=rfl
theorem UD (hb g o n:Nat) (cur:Array Value) (l:List UInt8):∀ p,qJ qm ((qak hb g o n cur l).φ p):=fun p W W' he ⟨h1,h2,h3⟩=>⟨h1,h2,⟨qb h3.box he,qb h3.row he,h3.ne,h3.fit,h3.few⟩⟩
theorem qis {T:Nat} (hT:T<=281474976710656) (w:World):(Instr.makeSlice 273 (.int .i64 (T:Int)) (.int .i64 (T:Int))).run prog w=.ok (.slice (some ⟨w.heap.size,0,none⟩) T T) (w.alloc (.cells (madeCells #[.int .u8 0] T) 5)):=by obtain⟨i0,hi,hz0,hz1,hz2⟩:=info_parts Tryz.info_u8;have h:=run_make (P:=prog) w 273 5 i0 _ underlying273 hi hz0 .i64 .i64 (T:Int) (T:Int) zO zO (by rw[hz2];omega) zO;rw[hz1,Int.toNat_natCast,Nat.mul_one] at h;exact h
theorem UM {n:Nat} (hn:n<1000000) (w:World):(Instr.makeSlice 22 (.int .i64 (n:Int)) (.int .i64 (n:Int))).run prog w=.ok (.slice (some ⟨w.heap.size,0,none⟩) n n) (w.alloc (.cells (madeCells #[.slice none 0 0] n) 26)):=by obtain⟨i0,hi,hz0,hz1,hz2⟩:=info_parts Tryz.info_bytes;have h:=run_make (P:=prog) w 22 26 i0 _ underlying22 hi hz0 .i64 .i64 (n:Int) (n:Int) zO zO (by rw[hz2];omega) zO;rw[hz1,Int.toNat_natCast,Nat.mul_one] at h;exact h
theorem qeX {n:Nat} (hn:n<1000000) (w:World):(Instr.makeSlice 23 (.int .i64 (n:Int)) (.int .i64 ((n:Int)+1))).run prog w=.ok (.slice (some ⟨w.heap.size,0,none⟩) n (n+1)) (w.alloc (.cells (madeCells #[.int .i64 0,.slice none 0 0] ((n+1)*2)) 142)):=by obtain⟨i0,hi,hz0,hz1,hz2⟩:=info_parts Tryz.info_write;have h:=run_make (P:=prog) w 23 142 i0 _ underlying23 hi hz0 .i64 .i64 (n:Int) ((n:Int)+1) zO zO (by rw[hz2];omega) zO;rw[hz1,Int.toNat_natCast,show ((n:Int)+1).toNat=n+1 by omega] at h;exact h
structure TwI (bs:List (List UInt8)) (ws:List (Int×List UInt8)) (T lo:Nat) (w5:World) (hb g BB WW ob:Nat) (i:Value) (wr:World):Prop where
 ex:∃ k:Nat,k<=bs.length/\i=.int .i64 (k:Int)/\TwS bs ws T lo w5 hb g BB WW ob k 0 (vw (bs.take k)) wr
structure TwJ (bs:List (List UInt8)) (ws:List (Int×List UInt8)) (T lo:Nat) (w5:World) (hb g BB WW ob:Nat) (i:Value) (wr:World):Prop where
 ex:∃ k:Nat,k<=ws.length/\i=.int .i64 (k:Int)/\TwS bs ws T lo w5 hb g BB WW ob bs.length k (vw bs+vw ((ws.take k).map (·.2))) wr
theorem one_at {c:Nat} {hh:Qe}:∀ i h,qM [(c,hh)] i=some h->i=c:=by
 intro i h e;simp only[qM] at e;split at e
 ·assumption
 ·cases e
set_option maxRecDepth 100000 in
theorem qdq (A1 n1 c1 A2 n2 c2) (bs:List (List UInt8)) (ws:List (Int×List UInt8)) (hbl:bs.length<1000000) (hwl:ws.length<1000000) (hbe:∀ l∈bs,l.length<1000000) (hwe:∀ p∈ws,p.2.length<1000000) (w:World) (hb:Bls w w.heap.size (.slice A1 n1 c1) bs) (hw:Wrs w w.heap.size (.slice A2 n2 c2) ws):Calls prog 188 #[Va A1 n1 c1 A2 n2 c2] w (fun e W=>∃ BB WW g,e=.returned (Va (some ⟨BB,0,none⟩) bs.length bs.length (some ⟨WW,0,none⟩) ws.length (ws.length+1))/\jS w.heap.size bs ws BB WW g W/\Below w.heap.size w W):=by
 obtain⟨e1,hc1,hm1,hA1⟩:=hb.at_;obtain⟨e2,hc2,hm2,hA2⟩:=hw.at_;subst e1;subst e2;have HB:=zH hb;have HW:=zH hw;have hTb:vw bs<=1000000000000:=Nat.le_trans (qjA hbe) zO;have hTw:vw (ws.map (·.2))<=1000000000000:=Nat.le_trans (qjA (fun l hl=>by obtain⟨p,hp,rfl⟩:=List.mem_map.1 hl;exact hwe p hp)) (by rw[List.length_map];omega);clear hb hw hm1 hm2;go_enter func188,ntmps188;go_wp2_with fail;generalize hw1:(World.alloc (World.alloc _ _) _)=w1;have x1:Ext w w1:=by rw[<-hw1];exact(zN _ _).trans (zN _ _)
 have r1:w1.heap[w.heap.size]?=some (.cells #[.slice A1 bs.length c1,.slice A2 ws.length c2] 25 (0,0)):=by rw[<-hw1];exact(zK _ _ _ zA2).trans (zI _ _ _ rfl)
 have q1:w1.heap[w.heap.size+1]?=some (.cells #[.slice none 0 0,.slice none 0 0] 25 (0,0)):=by rw[<-hw1];exact zI _ _ _ zA2
 clear hw1;go_wp2_with fail;go_loopw [3,17] (fun all i wr=>∃ k:Nat,k<=bs.length/\i=.int .i64 (k:Int)/\all=.int .i64 ((vw (bs.take k):Nat):Int)/\Ext w1 wr) (fun _ i _=>bs.length-(intOf i).toNat)
 case atStart=>exact⟨0,Nat.zero_le _,rfl,rfl,Ext.refl _⟩
 case round =>
  obtain⟨k,hk,rfl,rfl,hE⟩:=hrel;have xw:Below w.heap.size w wr:=Ext.trans x1 hE;have rr:=qb r1 hE;have kr:=qa rr;by_cases hlt:k<bs.length
  ·obtain⟨b1,o1,rfl,hb1⟩:=hA1 zO;obtain⟨A',c',hc,_⟩:=(HB.out.below xw).get k hlt;have hsn:=XO hlt;have hle:=Vy bs (k+1);generalize bs[k].length=m at *;generalize vw (bs.take k)=q at *;go_wp2_with fail;refine⟨⟨k+1,zO,by push_cast;rfl,by rw[hsn];push_cast;rfl,hE⟩,?_⟩;simp[intOf];omega
  ·obtain rfl:k=bs.length:=zO;rw[List.take_length];generalize hwm:wr=wm at *;clear hwm kr rr;have r2:=qb r1 hE;have q2:=qb q1 hE;have k2:=qa r2;obtain⟨tb,htb⟩:∃ tb,tb=vw bs:=⟨_,rfl⟩
   obtain⟨tw,htw⟩:∃ tw,tw=vw (ws.map (·.2)):=⟨_,rfl⟩
   rw[<-htb] at hTb ⊢;rw[<-htw] at hTw;replace htb:=zH htb;replace htw:=zH htw;go_wp2_with fail;go_loopw [3,29] (fun all i wr=>∃ k:Nat,k<=ws.length/\i=.int .i64 (k:Int)/\all=.int .i64 ((tb+vw ((ws.take k).map (·.2)):Nat):Int)/\Ext wm wr) (fun _ i _=>ws.length-(intOf i).toNat)
   case atStart=>exact⟨0,Nat.zero_le _,rfl,rfl,Ext.refl _⟩
   case round =>
    obtain⟨k,hk,rfl,rfl,hE2⟩:=hrel;have xw2:Below w.heap.size w wr:=Ext.trans xw hE2;have rr:=qb r2 hE2;have kr:=qa rr;clear k2;by_cases hlt:k<ws.length
    ·obtain⟨b2,o2,rfl,hb2⟩:=hA2 zO;obtain⟨A',c',ha,hc,_⟩:=(HW.out.below xw2).get k hlt;have hsn:vw ((ws.take (k+1)).map (·.2))=vw ((ws.take k).map (·.2))+ws[k].2.length:=by rw[List.map_take,List.map_take,XO (by rw[List.length_map];exact hlt),List.getElem_map]
     have hle:vw ((ws.take (k+1)).map (·.2))<=tw:=by rw[htw.out,List.map_take];exact Vy _ _
     generalize ws[k].2.length=m at *;generalize ws[k].1=pn at *;generalize vw ((ws.take k).map (·.2))=q at *;go_wp2_with fail;refine⟨⟨k+1,zO,by push_cast;rfl,by rw[hsn];push_cast;rw[Int.add_assoc],hE2.trans (zN _ _)⟩,?_⟩;simp[intOf];omega
    ·obtain rfl:k=ws.length:=zO;rw[List.take_length,<-htw.out];have hmk:=qis (T:=tb+tw) zO;obtain⟨T,hT⟩:∃ T,T=tb+tw:=⟨_,rfl⟩
     rw[<-hT] at hmk ⊢;have hT2:T<=2000000000000:=zO;replace hT:=zH hT;go_wp2_with fail;generalize hwn:World.alloc (World.alloc _ _) _=wn;have x3:Ext wr wn:=by rw[<-hwn];exact(zN _ _).trans (zN _ _)
     have g3:wn.heap[wr.heap.size]?=some (.cells (madeCells #[.int .u8 0] T) 5 (0,0)):=by rw[<-hwn];exact(zK _ _ _ zA2).trans (zI _ _ _ rfl)
     have b3:wn.heap[wr.heap.size+1]?=some (.cells #[.slice (some ⟨wr.heap.size,0,none⟩) T T] 273 (0,0)):=by rw[<-hwn];exact zI _ _ _ zA2
     have zn0:wn.heap.size=wr.heap.size+2:=by rw[<-hwn];simp
     clear hwn hmk;have r3:=qb rr x3;have q3:=qb (qb q2 hE2) x3;have xw3:Ext w wn:=Ext.trans xw2 x3;have k3:=qa r3;have zr:=(zG.1 q2).1;have zr2:=hE2.size;have zn:wn.heap.size=wr.heap.size+2:=zn0;clear kr rr r2 q2 r1 q1 x1 hE hE2 xw xw2;generalize wr.heap.size=s0 at g3 b3 zn zr2 ⊢;have zs0:w.heap.size+1<s0:=zO;clear zr zr2 zn0;have g1:∀ W,qm.r wn W->∀ i,W.cell? ⟨w.heap.size,i,none⟩=#[.slice A1 bs.length c1,.slice A2 ws.length c2][i]?:=fun W h=>qa (qb r3 h);have hmkB:=UM hbl;have hmkW:=qeX hwl;have hi1:=zH (IntWalk.i64_in ((ws.length:Int)+1) zO);have hwm1:wrap64 ((ws.length:Int)+1)=(ws.length:Int)+1:=IntWalk.wrap64_in _ zO;go_wp2_with fail;refine qp zQ ?_;refine Qa (w:=wn) qm (qM [(3,qal wn.heap.size bs.length bs.length 26 (madeCells #[.slice none 0 0] bs.length)),(11,qal wn.heap.size ws.length (ws.length+1) 142 (madeCells #[.int .i64 0,.slice none 0 0] ((ws.length+1)*2))),(13,Zy wn.heap.size 25 #[.slice none 0 0,.slice none 0 0])])
      [true,true,true,true,true,true,true,true,true,true,true,true,true,true] 1 zQ zQ zQ zQ zQ zQ zQ ?st (Rel.drew _ _) ?walk
     case st=>exact qj (by simp only[List.forall_mem_cons];exact⟨Yn _ _ _ _ _,Yn _ _ _ _ _,fun p=>Qp (QY _ _ _ p),fun _ h=>by cases h⟩)
     case walk =>
      intro K hK;dsimp only[qw];refine zB8 ?_;refine qz (qal wn.heap.size bs.length bs.length 26 (madeCells #[.slice none 0 0] bs.length)) zA0 zA0 (fun W hW _=>?_) (fun (BB:Nat)=>?_)
      ·have hW:Ext wn W:=hW;refine ZD (u:=.slice (some ⟨W.heap.size,0,none⟩) bs.length bs.length) (w':=W.alloc (.cells (madeCells #[.slice none 0 0] bs.length) 26)) ?_ ⟨W.heap.size,rfl,⟨zI _ _ _ rfl,hW.size⟩,zN _ _⟩;go_simp
      refine zB8 ?_;refine qz (qal wn.heap.size ws.length (ws.length+1) 142 (madeCells #[.int .i64 0,.slice none 0 0] ((ws.length+1)*2))) zA0 zA0 (fun W hW _=>?_) (fun (WW:Nat)=>?_)
      ·have hW:Ext wn W:=hW;refine ZD (u:=.slice (some ⟨W.heap.size,0,none⟩) ws.length (ws.length+1)) (w':=W.alloc (.cells (madeCells #[.int .i64 0,.slice none 0 0] ((ws.length+1)*2)) 142)) ?_ ⟨W.heap.size,rfl,⟨zI _ _ _ rfl,hW.size⟩,zN _ _⟩;go_simp;rw[hi1.out,hmkW];rfl
      refine zB8 ?_;refine qz (Zy wn.heap.size 25 #[.slice none 0 0,.slice none 0 0]) zA0 zA0 (fun W hW _=>?_) (fun (ob:Nat)=>?_)
      ·have hW:Ext wn W:=hW;refine Zm ?_ hW.size;go_simp
      refine zB8 ?_;refine qA (hK _ _ fun W hW hF=>?_);have hBB:W.heap[BB]?=some (.cells (madeCells #[.slice none 0 0] bs.length) 26 (0,0))/\wn.heap.size<=BB:=(hF 3).1;have hWW:W.heap[WW]?=some (.cells (madeCells #[.int .i64 0,.slice none 0 0] ((ws.length+1)*2)) 142 (0,0))/\wn.heap.size<=WW:=(hF 11).1;have hob:W.heap[ob]?=some (.cells #[.slice none 0 0,.slice none 0 0] 25 (0,0))/\wn.heap.size<=ob:=(hF 13).1;have hW:Ext wn W:=hW;have ko:=qa hob.1;have fo:=qd hob.1;clear hF hK g1 hmkB hmkW hwm1 k3;refine zB4 ?_;go_wp2;refine Qw ?_;have rob:=qi (qi hob.1 0 (.slice (some ⟨BB,0,none⟩) bs.length bs.length)) 1 (.slice (some ⟨WW,0,none⟩) ws.length (ws.length+1));have st:∀ b,b≠ob->((W.setCell ⟨ob,0,none⟩ (.slice (some ⟨BB,0,none⟩) bs.length bs.length)).setCell ⟨ob,1,none⟩ (.slice (some ⟨WW,0,none⟩) ws.length (ws.length+1))).heap[b]?=W.heap[b]?:=fun b hb=>(zJ _ _ _ _ hb).trans (zJ _ _ _ _ hb);have n1:BB≠ob:=qR hBB.1 hob.1 zD;have n2:WW≠ob:=qR hWW.1 hob.1 zD;have hob2:=hob.2;have B5:Below s0 wn ((W.setCell ⟨ob,0,none⟩ (.slice (some ⟨BB,0,none⟩) bs.length bs.length)).setCell ⟨ob,1,none⟩ (.slice (some ⟨WW,0,none⟩) ws.length (ws.length+1))):=Below.setCell (Below.setCell (Below.mono hW zO) (p:=⟨ob,0,none⟩) (by show s0<=ob;omega) _) (p:=⟨ob,1,none⟩) (by show s0<=ob;omega) _;have T0:TwS bs ws T s0 wn (s0+1) s0 BB WW ob 0 0 0 ((W.setCell ⟨ob,0,none⟩ (.slice (some ⟨BB,0,none⟩) bs.length bs.length)).setCell ⟨ob,1,none⟩ (.slice (some ⟨WW,0,none⟩) ws.length (ws.length+1))):=
       ⟨B5,⟨zO,zO,zO,zO,zO⟩,rob,⟨0,T,_,⟨(st _ zO).trans (qb b3 hW),(st _ zO).trans (qb g3 hW),zO,by rw[size_madeCells];omega,zO⟩,zM _,fun _=>rfl,zO,size_madeCells _ _⟩,
        ⟨_,(st _ n1).trans hBB.1,size_madeCells _ _,fun _ _ _ h=>zO⟩,⟨_,(st _ n2).trans hWW.1,size_madeCells _ _,fun _ _ _ h=>zO⟩⟩
      generalize World.setCell (World.setCell W _ _) _ _=w6 at *;clear n1 n2 hob2 rob st hob hWW hBB hW g3 b3 ko fo;have r6:=(B5.block w.heap.size zO).trans r3;have k6:=qa r6;have I0:TwI bs ws T s0 wn (s0+1) s0 BB WW ob (.int .i64 0) w6:=⟨0,Nat.zero_le _,rfl,T0⟩
      replace I0:=zH I0;have r3':=zH r3;have q3':=zH q3;clear B5 T0 r3 q3 x3 r6;go_wp2_with fail;go_loopw [57] (fun i wr=>TwI bs ws T s0 wn (s0+1) s0 BB WW ob i wr) (fun i _=>bs.length-(intOf i).toNat)
      case atStart=>exact I0.out
      case round =>
       obtain⟨k,hk,rfl,hTS⟩:=hrel.ex;clear hrel I0 k6;have xwr:Below w.heap.size w wr:=Below.trans xw3 (Below.mono hTS.below zO);have rr:=(hTS.below.block w.heap.size zO).trans r3'.out;have kr:=qa rr;by_cases hlt:k<bs.length
       ·have hCJ:=hlt;obtain⟨b1,o1,rfl,hb1⟩:=hA1 zO;obtain⟨A',c',hc,hby⟩:=(HB.out.below xwr).get k hlt;have hsn:=XO hlt;have hle:=Vy bs (k+1);have hgk:=zL hlt;generalize bs[k]=l at *;obtain⟨o,n,cur,hH,q1,q2,q3,q4⟩:=hTS.heap;have hln:l.length<=n:=by have:=hT.out;have:=htb.out;omega
        have wZO:Bys wr wr.heap.size (.slice A' l.length c') l:=hby.more xwr.size;have wNF:=hTS.out;obtain⟨cb,rb,sb,_⟩:=hTS.bb;have n1:ob≠s0+1:=qR wNF hH.box zD;have n2:ob≠s0:=qR wNF hH.row zD;have n3:BB≠s0+1:=qR rb hH.box zD;have n4:BB≠s0:=qR rb hH.row zD;have wJR:∀ a b,qm.r a b->(Ty (s0+1) s0).r a b:=qiR;obtain⟨RR,hRR⟩:∃ RR:Rel,RR=Ty (s0+1) s0:=⟨_,rfl⟩
        rw[<-hRR] at wJR;have hle:=wJR;have g1:∀ W,RR.r wr W->∀ i,W.cell? ⟨ob,i,none⟩=#[.slice (some ⟨BB,0,none⟩) bs.length bs.length,.slice (some ⟨WW,0,none⟩) ws.length (ws.length+1)][i]?:=fun W h=>qa (kR (hRR ▸ h) n1 n2 wNF);replace hRR:=zH hRR;replace hTS:=zH hTS;replace hsn:=zH hsn;replace hgk:=zH hgk;replace hH:=zH hH;replace rb:=zH rb;clear q1 q2 q3 q4 wJR hA2;go_wp2_with fail;refine qp zQ ?_;refine qdl (w:=wr) qm RR 4 hle (qM [(4,qak (s0+1) s0 o n cur l)]) [true,true,true,true,true,true] 1 zQ zQ zQ zQ zQ zQ zQ ?st one_at (Rel.drew _ _) ?walk
        case st=>exact qj (by simp only[List.forall_mem_cons];exact⟨UD _ _ _ _ _ _,fun _ h=>by cases h⟩)
        case walk =>
         intro K hK;dsimp only[qw];refine zB9 ?_;refine qbp (qak (s0+1) s0 o n cur l) zA0 zA0 (fun W hW _=>?_) (fun (p:Nat)=>?_)
         ·have hW:Ext wr W:=hW;refine qV ?_ ((qbt (s0+1) s0 o n cur A' c' l hln W ⟨qb hH.out.box hW,qb hH.out.row hW,hH.out.ne,hH.out.fit,hH.out.few⟩ (wZO.below hW |>.more hW.size)).mono fun e w' h=>?_)
          ·go_simp
          obtain⟨o',rfl,h1,h2,h3,e1,e2,e3,e4,e5⟩:=h;refine⟨o',rfl,⟨h1,h2,h3⟩,?_⟩;rw[hRR.out];exact⟨e2,e3,e4,Nat.le_of_eq e1.symm,fun b _ h1 h2=>e5 b h1 h2⟩
         refine zB9 ?_
         first
          |(refine Jb hle (.pointer (some ⟨BB,0+k,none⟩)) zA0 zA0 (fun W hW _=>?_) ?_
            ·go_simp;rw[IntWalk.i64_in (k:Int) zO,if_pos zO];simp
            simp only[Act.put,qk,qf,qc,qg,zX,jb,zA,zB,zC])
          |skip
         refine zB9 ?_;refine qdr (hK _ _ fun W hW hF=>?_);obtain⟨h1,h2,hH'⟩:(qak (s0+1) s0 o n cur l).φ p W:=(hF 4).1;clear hF hK g1;rw[hRR.out] at hW;refine zB4 ?_;obtain⟨T1,hin⟩:=hTS.out.clone hH.out hln hW h1 h2 hH';have rB:=kR hW n3 n4 rb.out;have kB:=qa rB k;have fB:=qd rB k;rw[Array.getElem?_eq_getElem zO] at kB;generalize cb[k]=u0 at *;have T2:=T1.setB hgk.out hin;rw[<-hsn.out] at T2;have IR:TwI bs ws T s0 wn (s0+1) s0 BB WW ob (.int .i64 ((k:Int)+1)) (W.setCell ⟨BB,k,none⟩ (.slice (some ⟨s0,o,none⟩) l.length l.length)):=⟨k+1,zO,rfl,T2⟩
         replace IR:=zH IR;have hwk:=zH (IntWalk.wrap64_in ((k:Int)+1) zO);clear T1 T2 hin hW h1 h2 hH' rB rb hTS hH hsn hgk;go_wp2;refine Qw ?_;go_wp2_with fail;try rw[hwk.out]
         refine⟨IR.out,?_⟩;simp[intOf];omega
       ·obtain rfl:k=bs.length:=zO;rw[List.take_length] at hTS;have J0:TwJ bs ws T s0 wn (s0+1) s0 BB WW ob (.int .i64 0) wr:=⟨0,Nat.zero_le _,rfl,hTS⟩
        replace J0:=zH J0;generalize hwk:wr=wk at *;clear hwk hTS xwr;go_wp2_with fail;go_loopw [72] (fun i wr=>TwJ bs ws T s0 wn (s0+1) s0 BB WW ob i wr) (fun i _=>ws.length-(intOf i).toNat)
        case atStart=>exact J0.out
        case round =>
         obtain⟨k,hk,rfl,hTS⟩:=hrel.ex;clear hrel J0 kr rr;have xwr:Below w.heap.size w wr:=Below.trans xw3 (Below.mono hTS.below zO);have rr:=(hTS.below.block w.heap.size zO).trans r3'.out;have kr:=qa rr;by_cases hlt:k<ws.length
         ·have hCJ:=hlt;obtain⟨b2,o2,rfl,hb2⟩:=hA2 zO;obtain⟨A',c',ha,hc,hby⟩:=(HW.out.below xwr).get k hlt;have hsn:vw ((ws.take (k+1)).map (·.2))=vw ((ws.take k).map (·.2))+ws[k].2.length:=by rw[List.map_take,List.map_take,XO (by rw[List.length_map];exact hlt),List.getElem_map]
          have hle:vw ((ws.take (k+1)).map (·.2))<=tw:=by rw[htw.out,List.map_take];exact Vy _ _
          have hgk:=zL hlt;generalize ws[k]=pl at *;obtain⟨pn,l⟩:=pl;simp only at ha hc hby hsn;go_upto_region 22 with fail;generalize hwp:World.alloc wr _=wp;have xp:Ext wr wp:=by rw[<-hwp];exact zN _ _
          have tp:wp.heap[wr.heap.size]?=some (.cells #[.int .i64 pn,.slice A' l.length c'] 142 (0,0)):=by rw[<-hwp];exact zI _ _ _ rfl
          clear hwp;have hls:s0<=wr.heap.size:=Nat.le_trans (Nat.le_trans zO hTS.below.size) (zM _);have hTP:=hTS.ext xp hls;obtain⟨o,n,cur,hH,q1,q2,q3,q4⟩:=hTP.heap;have hln:l.length<=n:=by have:=hT.out;have:=htb.out;omega
          have wZO:Bys wp wp.heap.size (.slice A' l.length c') l:=(hby.below (Below.mono xp xwr.size)).more (by have:=xp.size;have:=xwr.size;omega);have wNF:=hTP.out;obtain⟨cw,rw_,sw,_⟩:=hTP.ww;have zhb:=(zG.1 ((hTS.heap).choose_spec.choose_spec.choose_spec.1.box)).1;have zg:=(zG.1 ((hTS.heap).choose_spec.choose_spec.choose_spec.1.row)).1;have zw:=(zG.1 (hTS.ww.choose_spec.1)).1;have n1:ob≠s0+1:=qR wNF hH.box zD;have n2:ob≠s0:=qR wNF hH.row zD;have n3:WW≠s0+1:=qR rw_ hH.box zD;have n4:WW≠s0:=qR rw_ hH.row zD;have wJR:∀ a b,qm.r a b->(Ty (s0+1) s0).r a b:=qiR;obtain⟨RR,hRR⟩:∃ RR:Rel,RR=Ty (s0+1) s0:=⟨_,rfl⟩
          rw[<-hRR] at wJR;have hle:=wJR;generalize wr.heap.size=tt at tp hls zhb zg zw ⊢;have g1:∀ W,RR.r wp W->∀ i,W.cell? ⟨ob,i,none⟩=#[.slice (some ⟨BB,0,none⟩) bs.length bs.length,.slice (some ⟨WW,0,none⟩) ws.length (ws.length+1)][i]?:=fun W h=>qa (kR (hRR ▸ h) n1 n2 wNF);have g2:∀ W,RR.r wp W->∀ i,W.cell? ⟨tt,i,none⟩=#[.int .i64 pn,.slice A' l.length c'][i]?:=fun W h=>qa (kR (hRR ▸ h) zO zO tp);replace hRR:=zH hRR;replace hTP:=zH hTP;replace hsn:=zH hsn;replace hgk:=zH hgk;replace hH:=zH hH;replace rw_:=zH rw_;clear q1 q2 q3 q4 wJR hTS hby ha hc hA1 tp xp rr kr;refine qp zQ ?_;refine qdl (w:=wp) qm RR 7 hle (qM [(7,qak (s0+1) s0 o n cur l)]) [true,true,true,true,true,true,true,true,true,true] 1 zQ zQ zQ zQ zQ zQ zQ ?st one_at (Rel.drew _ _) ?walk
          case st=>exact qj (by simp only[List.forall_mem_cons];exact⟨UD _ _ _ _ _ _,fun _ h=>by cases h⟩)
          case walk =>
           intro K hK;dsimp only[qw];refine zB9 ?_;refine qbp (qak (s0+1) s0 o n cur l) zA0 zA0 (fun W hW _=>?_) (fun (p:Nat)=>?_)
           ·have hW:Ext wp W:=hW;refine qV ?_ ((qbt (s0+1) s0 o n cur A' c' l hln W ⟨qb hH.out.box hW,qb hH.out.row hW,hH.out.ne,hH.out.fit,hH.out.few⟩ (wZO.below hW |>.more hW.size)).mono fun e w' h=>?_)
            ·go_simp
            obtain⟨o',rfl,h1,h2,h3,e1,e2,e3,e4,e5⟩:=h;refine⟨o',rfl,⟨h1,h2,h3⟩,?_⟩;rw[hRR.out];exact⟨e2,e3,e4,Nat.le_of_eq e1.symm,fun b _ h1 h2=>e5 b h1 h2⟩
           refine zB9 ?_
           first
            |(refine Jb hle (.pointer (some ⟨WW,0+k*2,none⟩)) zA0 zA0 (fun W hW _=>?_) ?_
              ·go_simp;rw[IntWalk.i64_in (k:Int) zO,if_pos zO];simp
              simp only[Act.put,qk,qf,qc,qg,zX,jb,zA,zB,zC])
            |skip
           refine zB9 ?_;refine qdr (hK _ _ fun W hW hF=>?_);obtain⟨h1,h2,hH'⟩:(qak (s0+1) s0 o n cur l).φ p W:=(hF 7).1;clear hF hK g1 g2;rw[hRR.out] at hW;refine zB4 ?_;obtain⟨T1,hin⟩:=hTP.out.clone hH.out hln hW h1 h2 hH';have rB:=kR hW n3 n4 rw_.out;have kB:=qa rB (k*2);have kC:=qa rB (k*2+1);have fB:=qd rB;rw[Array.getElem?_eq_getElem zO] at kB kC;generalize cw[k*2]=u0 at *;generalize cw[k*2+1]=u1 at *;have T2:=T1.setW hgk.out hin;rw[Nat.add_assoc,<-hsn.out] at T2;have IR:TwJ bs ws T s0 wn (s0+1) s0 BB WW ob (.int .i64 ((k:Int)+1)) ((W.setCell ⟨WW,k*2,none⟩ (.int .i64 pn)).setCell ⟨WW,k*2+1,none⟩ (.slice (some ⟨s0,o,none⟩) l.length l.length)):=⟨k+1,zO,rfl,T2⟩
           replace IR:=zH IR;have hwk:=zH (IntWalk.wrap64_in ((k:Int)+1) zO);clear T1 T2 hin hW h1 h2 hH' rB rw_ hTP hH hsn hgk;go_wp2;refine Qw ?_;go_wp2_with fail;try rw[hwk.out]
           refine⟨IR.out,?_⟩;simp[intOf];omega
         ·obtain rfl:k=ws.length:=zO;have DT:=hTS.done;have qq:=(hTS.below.block (w.heap.size+1) zO).trans q3'.out;have kq:=qa qq;have fq:=qd qq;have ko:=qa hTS.out;have rf:=qi (qi qq 0 (.slice (some ⟨BB,0,none⟩) bs.length bs.length)) 1 (.slice (some ⟨WW,0,none⟩) ws.length (ws.length+1));have kf:=qa rf;have bf:Below w.heap.size w ((wr.setCell ⟨w.heap.size+1,0,none⟩ (.slice (some ⟨BB,0,none⟩) bs.length bs.length)).setCell ⟨w.heap.size+1,1,none⟩ (.slice (some ⟨WW,0,none⟩) ws.length (ws.length+1))):=Below.setCell (Below.setCell xwr (p:=⟨w.heap.size+1,0,none⟩) (Nat.le_succ _) _) (p:=⟨w.heap.size+1,1,none⟩) (Nat.le_succ _) _;have DF:jS w.heap.size bs ws BB WW s0 ((wr.setCell ⟨w.heap.size+1,0,none⟩ (.slice (some ⟨BB,0,none⟩) bs.length bs.length)).setCell ⟨w.heap.size+1,1,none⟩ (.slice (some ⟨WW,0,none⟩) ws.length (ws.length+1))):=
           DT.keep zO zA2 (fun b h1 _=>(zJ _ _ _ _ (by show b≠w.heap.size+1;omega)).trans (zJ _ _ _ _ (by show b≠w.heap.size+1;omega)))
          replace kf:=zH kf;replace bf:=zH bf;replace DF:=zH DF;clear rf DT hTS;go_wp2;have kf:=kf.out;exact bodyPost_ret (v:=Va (some ⟨BB,0,none⟩) bs.length bs.length (some ⟨WW,0,none⟩) ws.length (ws.length+1)) (by simp[results,results188,go_sem,kf]) rfl ⟨BB,WW,s0,rfl,DF.out,bf.out⟩
def kj (w:World) (b:Nat):Nat->List Value->World
 |_,[]=>w
 |k,v :: r=>kj (w.setCell ⟨b,k,none⟩ v) b (k+1) r
def Xq (cs:Array Value):Nat->List Value->Array Value
 |_,[]=>cs
 |k,v :: r=>Xq (cs.setIfInBounds k v) (k+1) r
theorem jK {b g:Nat} (h:g≠b):∀ (vs:List Value) (w:World) (k:Nat),(kj w b k vs).heap[g]?=w.heap[g]?
 | [],_,_=>rfl
 |_ :: r,w,k=>(jK h r _ _).trans (zJ _ _ _ _ h)
theorem Jj {b:Nat}:∀ (vs:List Value) (w:World) (k:Nat),(kj w b k vs).heap.size=w.heap.size
 | [],_,_=>rfl
 |_ :: r,w,k=>(Jj r _ _).trans zA2
theorem jJ {B b:Nat} {w0:World} (hB:B<=b):∀ (vs:List Value) (w:World) (k:Nat),Below B w0 w->Below B w0 (kj w b k vs)
 | [],_,_,h=>h
 |v :: r,w,k,h=>jJ hB r _ _ (Below.setCell h (p:=⟨b,k,none⟩) hB v)
theorem JQ {b:Nat} {t:TypeId}:∀ (vs:List Value) (w:World) (k:Nat) (cs:Array Value),w.heap[b]?=some (.cells cs t (0,0))->(kj w b k vs).heap[b]?=some (.cells (Xq cs k vs) t (0,0))
 | [],_,_,_,h=>h
 |v :: r,w,k,cs,h=>JQ r _ _ _ (qi h k v)
def outDT (lo:Nat) (bs:List (List UInt8)) (ws:List (Int×List UInt8)):Qe:=⟨Nat×Nat×Nat,fun p=>Va (some ⟨p.1,0,none⟩) bs.length bs.length (some ⟨p.2.1,0,none⟩) ws.length (ws.length+1),fun p W=>jS lo bs ws p.1 p.2.1 p.2.2 W⟩
theorem Ym (lo:Nat) (bs:List (List UInt8)) (ws:List (Int×List UInt8)) (b c g:Nat):(outDT lo bs ws).f (b,c,g)=Va (some ⟨b,0,none⟩) bs.length bs.length (some ⟨c,0,none⟩) ws.length (ws.length+1):=rfl
theorem qeF (lo:Nat) (bs:List (List UInt8)) (ws:List (Int×List UInt8)):∀ p,qJ qm ((outDT lo bs ws).φ p):=fun p W W' he h=>by have he:Ext W W':=he;exact jS.keep h (zM _) he.size fun b _ hb=>he.block b hb
def Gv (lo:Nat) (l:List UInt8):Qe:=⟨OA×Nat,fun p=>.slice p.1 l.length p.2,fun p W=>W.ownsRow lo 5 1 (.slice p.1 l.length p.2) l.length (l.map bv)⟩
theorem VY (lo:Nat) (l:List UInt8) (A c):(Gv lo l).f (A,c)=.slice A l.length c:=rfl
theorem Tg (lo:Nat) (l:List UInt8):∀ p,qJ qm ((Gv lo l).φ p):=fun p W W' he h=>QR h he
theorem ZN {w w':World} {lo:Nat} {e:TypeId} {size:Nat} {v:Value} {n:Nat} {xs:List Value} (h:w.ownsRow lo e size v n xs) (hk:∀ b,lo<=b->b<w.heap.size->w'.heap[b]?=w.heap[b]?):w'.ownsRow lo e size v n xs:=
 ⟨h.1,h.2.imp id fun ⟨g,cap,cur,h1,h2,h3,h4⟩=>⟨g,cap,cur,h1,h2,(hk g h2 (zG.1 h3).1).trans h3,h4⟩⟩
def zl (lo:Nat) (S:Sto) (u:Value) (W:World):Prop:=∃ BB WW g A3 c3 A4 c4,u=Qk (some ⟨BB,0,none⟩) S.bs.length S.bs.length (some ⟨WW,0,none⟩) S.ws.length (S.ws.length+1) A3 S.now.length c3 A4 S.last.length c4/\jS lo S.bs S.ws BB WW g W /\
 W.ownsRow lo 5 1 (.slice A3 S.now.length c3) S.now.length (S.now.map bv)/\W.ownsRow lo 5 1 (.slice A4 S.last.length c4) S.last.length (S.last.map bv)
theorem zl.keep {lo lo':Nat} {S:Sto} {u:Value} {W W2:World} (h:zl lo S u W) (hl:lo'<=lo) (hs:W.heap.size<=W2.heap.size) (hk:∀ b,lo<=b->b<W.heap.size->W2.heap[b]?=W.heap[b]?):zl lo' S u W2:=by obtain⟨BB,WW,g,A3,c3,A4,c4,e,h1,h2,h3⟩:=h;exact⟨BB,WW,g,A3,c3,A4,c4,e,h1.keep hl hs hk,Qz (ZN h2 hk) hl,Qz (ZN h3 hk) hl⟩
theorem qdI {w w':World} {lo:Nat} {e:TypeId} {size:Nat} {v:Value} {n:Nat} {xs:List Value} (h:w.ownsRow lo e size v n xs) {b1:Nat} {c1:Array Value} {t1:TypeId} (h1:w.heap[b1]?=some (.cells c1 t1 (0,0))) (ht:t1≠e) (hk:∀ b,lo<=b->b<w.heap.size->b≠b1->w'.heap[b]?=w.heap[b]?):w'.ownsRow lo e size v n xs:=
 ⟨h.1,h.2.imp id fun ⟨g,cap,cur,g1,g2,h3,h4⟩=>⟨g,cap,cur,g1,g2,(hk g g2 (zG.1 h3).1 (qR h3 h1 fun e=>ht e.symm)).trans h3,h4⟩⟩
theorem zl.keepT {lo lo':Nat} {S:Sto} {u:Value} {W W2:World} (h:zl lo S u W) (hl:lo'<=lo) (hs:W.heap.size<=W2.heap.size) {b1:Nat} {c1:Array Value} {t1:TypeId} (hr:W.heap[b1]?=some (.cells c1 t1 (0,0))) (ht:t1≠26/\t1≠142/\t1≠5) (hk:∀ b,lo<=b->b<W.heap.size->b≠b1->W2.heap[b]?=W.heap[b]?):zl lo' S u W2:=by obtain⟨BB,WW,g,A3,c3,A4,c4,e,h1,h2,h3⟩:=h;exact⟨BB,WW,g,A3,c3,A4,c4,e,h1.keepT hl hs hr ht hk,Qz (qdI h2 hr ht.2.2 hk) hl,Qz (qdI h3 hr ht.2.2 hk) hl⟩
set_option maxRecDepth 100000 in
theorem qdU (A1 n1 c1 A2 n2 c2 A3 n3 c3 A4 n4 c4) (S:Sto) (hS:XY S) (w:World) (h:qZ w w.heap.size (.slice A1 n1 c1) (.slice A2 n2 c2) (.slice A3 n3 c3) (.slice A4 n4 c4) S):Calls prog 157 #[Qk A1 n1 c1 A2 n2 c2 A3 n3 c3 A4 n4 c4] w (zF (zl w.heap.size S) w):=by
 have HD:=zH (fun W (hW:Ext w W)=>qdq A1 n1 c1 A2 n2 c2 S.bs S.ws hS.bs hS.ws hS.be hS.we W (h.ext hW).bs (h.ext hW).ws);have HN:=zH (fun W (hW:Ext w W)=>jf _ S.now (by have:=hS.now;omega) W (h.ext hW).now);have HL:=zH (fun W (hW:Ext w W)=>jf _ S.last (by have:=hS.last;omega) W (h.ext hW).last);clear h hS;go_enter func157,ntmps157;go_wp2_with fail;generalize hw1:(World.alloc (World.alloc _ _) _)=w1;have x1:Ext w w1:=by rw[<-hw1];exact(zN _ _).trans (zN _ _)
 have r1:w1.heap[w.heap.size]?=some (.cells #[.slice A1 n1 c1,.slice A2 n2 c2,.slice A3 n3 c3,.slice A4 n4 c4] 28 (0,0)):=by rw[<-hw1];exact(zK _ _ _ zA2).trans (zI _ _ _ rfl)
 have q1:w1.heap[w.heap.size+1]?=some (.cells #[.slice none 0 0,.slice none 0 0,.slice none 0 0,.slice none 0 0] 28 (0,0)):=by rw[<-hw1];exact zI _ _ _ zA2
 clear hw1;have g1:∀ W,qm.r w1 W->∀ i,W.cell? ⟨w.heap.size,i,none⟩=#[.slice A1 n1 c1,.slice A2 n2 c2,.slice A3 n3 c3,.slice A4 n4 c4][i]?:=fun W h=>qa (qb r1 h);refine qp zQ ?_;refine Qa (w:=w1) qm (qM [(2,outDT w1.heap.size S.bs S.ws),(5,Gv w1.heap.size S.now),(8,Gv w1.heap.size S.last)])
  [true,true,true,true,true,true,true,true,true,true] 1 zQ zQ zQ zQ zQ zQ zQ ?st (Rel.drew _ _) ?walk
 case st=>exact qj (by simp only[List.forall_mem_cons];exact⟨qeF _ _ _,Tg _ _,Tg _ _,fun _ h=>by cases h⟩)
 case walk =>
  intro K hK;dsimp only[qw];refine zC0 ?_;refine qz (outDT w1.heap.size S.bs S.ws) zA0 zA0 (fun W hW _=>?_) (fun p=>?_)
  ·refine qV ?_ ((HD.out W (Ext.trans x1 hW)).mono fun e w' h=>?_)
   ·go_simp
   have hW:Ext w1 W:=hW;obtain⟨b,c,g,rfl,h1,hB⟩:=h;exact⟨(b,c,g),rfl,h1.keep hW.size (zM _) (fun _ _ _=>rfl),hB⟩
  obtain⟨bb,cc,gg⟩:=p;refine zC0 ?_;refine qz (Gv w1.heap.size S.now) zA0 zA0 (fun W hW _=>?_) (fun p=>?_)
  ·refine qV ?_ ((HN.out W (Ext.trans x1 hW)).mono fun e w' h=>?_)
   ·go_simp
   have hW:Ext w1 W:=hW;obtain⟨u,rfl,hu,hB⟩:=h;obtain⟨A,c,rfl,_,_⟩:=qB hu;exact⟨(A,c),rfl,Qz hu hW.size,hB⟩
  obtain⟨B3,d3⟩:=p;refine zC0 ?_;refine qz (Gv w1.heap.size S.last) zA0 zA0 (fun W hW _=>?_) (fun p=>?_)
  ·refine qV ?_ ((HL.out W (Ext.trans x1 hW)).mono fun e w' h=>?_)
   ·go_simp
   have hW:Ext w1 W:=hW;obtain⟨u,rfl,hu,hB⟩:=h;obtain⟨A,c,rfl,_,_⟩:=qB hu;exact⟨(A,c),rfl,Qz hu hW.size,hB⟩
  obtain⟨B4,d4⟩:=p;refine zC0 ?_;refine qA (hK _ _ fun W hW hF=>?_);have hD:jS w1.heap.size S.bs S.ws bb cc gg W:=(hF 2).1;have hN:W.ownsRow w1.heap.size 5 1 (.slice B3 S.now.length d3) S.now.length (S.now.map bv):=(hF 5).1;have hL:W.ownsRow w1.heap.size 5 1 (.slice B4 S.last.length d4) S.last.length (S.last.map bv):=(hF 8).1;have hW:Ext w1 W:=hW;clear hF hK g1;refine zB4 ?_;have qW:=qb q1 hW;have kW:=qa qW;have fW:=qd qW;have hz:w.heap.size+1<w1.heap.size:=(zG.1 q1).1;have P5:∀ wx:World,wx=kj W (w.heap.size+1) 0 [.slice (some ⟨bb,0,none⟩) S.bs.length S.bs.length,.slice (some ⟨cc,0,none⟩) S.ws.length (S.ws.length+1),.slice B3 S.now.length d3,.slice B4 S.last.length d4] ->
    wx.heap[w.heap.size+1]?=some (.cells #[.slice (some ⟨bb,0,none⟩) S.bs.length S.bs.length,.slice (some ⟨cc,0,none⟩) S.ws.length (S.ws.length+1),.slice B3 S.now.length d3,.slice B4 S.last.length d4] 28 (0,0))/\Below w.heap.size w wx /\
     zl w.heap.size S (Qk (some ⟨bb,0,none⟩) S.bs.length S.bs.length (some ⟨cc,0,none⟩) S.ws.length (S.ws.length+1) B3 S.now.length d3 B4 S.last.length d4) wx:=fun wx e=>by
   have hk:∀ b,w1.heap.size<=b->b<W.heap.size->wx.heap[b]?=W.heap[b]?:=fun b h1 _=>by rw[e];exact jK zO _ _ _
   have hs:W.heap.size<=wx.heap.size:=by rw[e,Jj];exact zM _
   refine⟨by rw[e];refine(JQ _ _ _ _ qW).trans ?_;simp[Xq],by rw[e];exact jJ (Nat.le_succ _) _ _ _ (Ext.trans x1 hW),bb,cc,gg,B3,d3,B4,d4,rfl,hD.keep zO hs hk,Qz (ZN hN hk) zO,Qz (ZN hL hk) zO⟩
  replace P5:=zH P5;clear hD hN hL qW hW;go_wp2;refine Qw ?_;go_wp2_with fail;have P5:=P5.out;generalize hw5:World.setCell (World.setCell (World.setCell (World.setCell W _ _) _ _) _ _) _ _=w5;obtain⟨r5,x5,h5⟩:=P5 w5 hw5.symm;clear P5 hw5;have k5:=qa r5;exact bodyPost_ret (v:=Qk (some ⟨bb,0,none⟩) S.bs.length S.bs.length (some ⟨cc,0,none⟩) S.ws.length (S.ws.length+1) B3 S.now.length d3 B4 S.last.length d4) (by simp[results,results157,go_sem,k5]) rfl ⟨_,rfl,h5,x5⟩
set_option maxRecDepth 100000 in
theorem VP (b:Nat) (A1:OA) (n1 c1:Nat) (A2:OA) (n2 c2:Nat) (A3:OA) (n3 c3:Nat) (A4:OA) (n4 c4:Nat) (S:Sto) (hS:XY S) (w:World) (hr:w.heap[b]?=some (.cells #[.slice A1 n1 c1,.slice A2 n2 c2,.slice A3 n3 c3,.slice A4 n4 c4] 223 (0,0))) (h:qZ w w.heap.size (.slice A1 n1 c1) (.slice A2 n2 c2) (.slice A3 n3 c3) (.slice A4 n4 c4) S):Calls prog 122 #[.pointer (some ⟨b,0,none⟩)] w (zF (zl w.heap.size S) w):=by
 have HT:=zH (fun W (hW:Ext w W)=>qdU A1 n1 c1 A2 n2 c2 A3 n3 c3 A4 n4 c4 S hS W (h.ext hW));clear h hS;have k0:=qa hr;have zb:b<w.heap.size:=(zG.1 hr).1;go_enter func122,ntmps122;go_wp2_with fail;generalize hw1:World.alloc _ _=w1;have x1:Ext w w1:=by rw[<-hw1];exact zN _ _
 have q1:w1.heap[w.heap.size]?=some (.cells #[.slice none 0 0,.slice none 0 0,.slice none 0 0,.slice none 0 0] 28 (0,0)):=by rw[<-hw1];exact zI _ _ _ zA2
 clear hw1 k0;refine(HT.out w1 x1).mono ?_;rintro e w2 ⟨u,rfl,hT,hB⟩;have hB:Ext w1 w2:=hB;have q2:=qb q1 hB;have kq:=qa q2;have fq:=qd q2;have z1:w.heap.size<w1.heap.size:=(zG.1 q1).1;obtain⟨BB,WW,g,B3,d3,B4,d4,rfl,hD,hN,hL⟩:=hT;have P5:∀ wx:World,wx=kj w2 w.heap.size 0 [.slice (some ⟨BB,0,none⟩) S.bs.length S.bs.length,.slice (some ⟨WW,0,none⟩) S.ws.length (S.ws.length+1),.slice B3 S.now.length d3,.slice B4 S.last.length d4] ->
   wx.heap[w.heap.size]?=some (.cells #[.slice (some ⟨BB,0,none⟩) S.bs.length S.bs.length,.slice (some ⟨WW,0,none⟩) S.ws.length (S.ws.length+1),.slice B3 S.now.length d3,.slice B4 S.last.length d4] 28 (0,0))/\Below w.heap.size w wx /\
    zl w.heap.size S (Qk (some ⟨BB,0,none⟩) S.bs.length S.bs.length (some ⟨WW,0,none⟩) S.ws.length (S.ws.length+1) B3 S.now.length d3 B4 S.last.length d4) wx:=fun wx e=>by
  have hk:∀ b,w1.heap.size<=b->b<w2.heap.size->wx.heap[b]?=w2.heap[b]?:=fun b h1 _=>by rw[e];exact jK zO _ _ _
  have hs:w2.heap.size<=wx.heap.size:=by rw[e,Jj];exact zM _
  refine⟨by rw[e];refine(JQ _ _ _ _ q2).trans ?_;simp[Xq],by rw[e];exact jJ (zM _) _ _ _ (x1.trans hB),BB,WW,g,B3,d3,B4,d4,rfl,hD.keep zO hs hk,Qz (ZN hN hk) zO,Qz (ZN hL hk) zO⟩
 replace P5:=zH P5;clear hD hN hL q2 hB q1;go_wp2_with fail;have P5:=P5.out;generalize hw5:World.setCell (World.setCell (World.setCell (World.setCell w2 _ _) _ _) _ _) _ _=w5;obtain⟨r5,x5,h5⟩:=P5 w5 hw5.symm;clear P5 hw5;have k5:=qa r5;exact bodyPost_ret (v:=Qk (some ⟨BB,0,none⟩) S.bs.length S.bs.length (some ⟨WW,0,none⟩) S.ws.length (S.ws.length+1) B3 S.now.length d3 B4 S.last.length d4) (by simp[results,results122,go_sem,k5]) rfl ⟨_,rfl,h5,x5⟩
theorem XG {w:World} {lo g n c k:Nat} {l:List UInt8} (h:w.ownsRow lo 5 1 (.slice (some ⟨g,0,none⟩) n c) n (l.map bv)) (hk:k<n) (x:UInt8):(w.setCell ⟨g,k,none⟩ (bv x)).ownsRow lo 5 1 (.slice (some ⟨g,0,none⟩) n c) n ((l.set k x).map bv):=by
 obtain⟨h1,h2⟩:=h;rcases h2 with ⟨e,_⟩|⟨g',cap,cur,e,hg,hr,hc,hm,hs,ht⟩
 ·cases e
 ·cases e;have hk2:k<cur.size:=zO;refine⟨by simpa using h1,.inr ⟨g,c,_,rfl,hg,qi hr k _,hc,hm,by simpa using hs,?_⟩⟩;apply List.ext_getElem?;intro i;rw[List.map_set,<-ht,List.getElem?_take,List.getElem?_set,List.getElem?_take];simp only[Nat.mul_one,Array.getElem?_toList,Array.getElem?_setIfInBounds,List.length_take,Array.length_toList];by_cases hi:i<n
  ·rw[if_pos hi,if_pos hi];by_cases e:k=i
   ·subst e;rw[if_pos rfl,if_pos rfl,if_pos hk2,if_pos zO]
   ·rw[if_neg e,if_neg e]
  ·rw[if_neg hi,if_neg hi,if_neg zO]
theorem qgF {w:World} {lo g n c b k:Nat} {l:List UInt8} {v:Value} (h:w.ownsRow lo 5 1 (.slice (some ⟨g,0,none⟩) n c) n (l.map bv)) (hg:g≠b):(w.setCell ⟨b,k,none⟩ v).ownsRow lo 5 1 (.slice (some ⟨g,0,none⟩) n c) n (l.map bv):=by obtain⟨h1,h2⟩:=h;refine⟨h1,h2.imp id fun ⟨g',cap,cur,e,h3,h4,h5⟩=>?_⟩;cases e;exact⟨g,c,cur,rfl,h3,(zJ _ _ _ _ hg).trans h4,h5⟩
theorem Za {w:World} {lo g n c:Nat} {l:List UInt8} (h:w.ownsRow lo 5 1 (.slice (some ⟨g,0,none⟩) n c) n (l.map bv)):(∀ k,k<n->w.cell? ⟨g,k,none⟩=some (.int .u8 ((l[k]?.getD 0).toNat:Int)))/\(∀ k,w.frozen? ⟨g,k,none⟩=false)/\lo<=g/\g<w.heap.size:=by
 have h1:=h.1;obtain⟨h0,h2⟩:=h;rcases h2 with ⟨e,_⟩|⟨g',cap,cur,e,hg,hr,hc,hm,hs,ht⟩
 ·cases e
 ·cases e;refine⟨fun k hk=>?_,qd hr,hg,(zG.1 hr).1⟩;have hl:l.length=n:=by simpa using h1
  have hkl:k<l.length:=zO;have e2:(l.map bv)[k]?=some (bv l[k]):=by rw[List.getElem?_map,zL hkl];rfl
  rw[<-ht,List.getElem?_take,if_pos zO] at e2;have e3:cur[k]?=cur.toList[k]?:=zA2;rw[qa hr,e3,e2,zL hkl];rfl
set_option maxRecDepth 100000 in
theorem qbL (A1 n1 c1 A2 n2 c2 A3 n3 c3 A4 n4 c4) (S:Sto) (hl:S.now.length<1073741824) (w:World) (h:qZ w w.heap.size (.slice A1 n1 c1) (.slice A2 n2 c2) (.slice A3 n3 c3) (.slice A4 n4 c4) S):Calls prog 109 #[Qk A1 n1 c1 A2 n2 c2 A3 n3 c3 A4 n4 c4] w (zF (fun u W=>∃ b A3' c3',u=.pointer (some ⟨b,0,none⟩)/\w.heap.size<=b/\W.heap[b]?=some (.cells #[.slice A1 n1 c1,.slice A2 n2 n2,.slice A3' n3 c3',.slice A4 n4 c4] 223 (0,0))/\W.ownsRow w.heap.size 5 1 (.slice A3' n3 c3') n3 (S.now.map bv)) w):=by
 have hn3:Hid (n3=S.now.length):=zH h.now.at_.1;obtain⟨-,h2a,h2b,-⟩:=h.ws.at_;have HC:=zH (fun W (hW:Ext w W)=>jf (.slice A3 n3 c3) S.now hl W (h.ext hW).now);clear h;go_enter func109,ntmps109;go_wp2_with fail;generalize hw1:(World.alloc _ _)=w1;have x1:Ext w w1:=by rw[<-hw1];exact zN _ _
 have r1:w1.heap[w.heap.size]?=some (.cells #[.slice A1 n1 c1,.slice A2 n2 c2,.slice A3 n3 c3,.slice A4 n4 c4] 28 (0,0)):=by rw[<-hw1];exact zI _ _ _ rfl
 clear hw1;refine(HC.out _ x1).mono ?_;rintro e w2 ⟨u,rfl,hu,hB⟩;have x2:=x1.trans hB;have r2:=qb r1 hB;have s1:w.heap.size<w1.heap.size:=(zG.1 r1).1;obtain⟨A3',c3',rfl,_,_⟩:=qB hu;have k2:=qa r2;have f2:=qd r2;clear hB r1 HC;rw[<-hn3.out] at hu ⊢;go_wp2_with fail;have hu3:=ZN (w':=w2.setCell ⟨w.heap.size,2,none⟩ (.slice A3' n3 c3')) hu (fun b hb _=>zJ _ _ _ _ (by show b≠w.heap.size;omega));generalize hw3:(World.setCell _ _ _)=w3 at *;have x3:Ext w w3:=by rw[<-hw3];exact Below.setCell x2 (p:=⟨w.heap.size,2,none⟩) (zM _) _
 have r3:w3.heap[w.heap.size]?=some (.cells #[.slice A1 n1 c1,.slice A2 n2 c2,.slice A3' n3 c3',.slice A4 n4 c4] 28 (0,0)):=by rw[<-hw3];exact qi r2 2 _
 clear hw3 k2 f2 r2 x2 hu;refine(qfO A2 n2 c2 h2a h2b _).mono ?_;rintro e w4 ⟨rfl,hB⟩;have x4:=x3.trans hB;have r4:=qb r3 hB;have hu4:=QR hu3 hB;have k4:=qa r4;have f4:=qd r4;have s4:w.heap.size<w4.heap.size:=(zG.1 r4).1;clear hB r3 x3 hu3;replace hu4:=zH hu4;go_wp2;have hu5:=ZN (w':=w4.setCell ⟨w.heap.size,1,none⟩ (.slice A2 n2 n2)) hu4.out (fun b hb _=>zJ _ _ _ _ (by show b≠w.heap.size;omega));have bf:Below w.heap.size w ((w4.setCell ⟨w.heap.size,1,none⟩ (.slice A2 n2 n2)).alloc (.cells #[.slice A1 n1 c1,.slice A2 n2 n2,.slice A3' n3 c3',.slice A4 n4 c4] 223)):=by have x4':Below w.heap.size w w4:=x4;exact(by repeat' (first|with_reducible exact Below.refl _ _|with_reducible assumption|with_reducible apply Below.drew|with_reducible apply qN|with_reducible refine Below.alloc ?_ ?_ _|with_reducible refine Below.setCell ?_ ?_ _|(simp;done)|(simp;omega)|omega))
 go_ret;exact⟨_,rfl,⟨w4.heap.size,A3',c3',rfl,zO,zI _ _ _ zA2,Qz (QR hu5 (zN _ _)) zO⟩,bf⟩
def qL (t:List UInt8) (a:Nat):Nat:=(t[a]?.getD 0).toNat
def YG (t:List UInt8) (a:Int) (end_:Nat):Int:=if Qt t=true then (if 8<=a/\a<256 then (if qL t a.toNat=end_ then 70 else 0) else 2) else 8
def jj (t:List UInt8) (a by_:Nat):List UInt8:=t.set a (UInt8.ofNat (qL t a+by_))
theorem qcp (t:List UInt8) (a by_:Nat):(jj t a by_).length=t.length:=by unfold jj;simp
theorem qfb (n:Nat):IntKind.u8.wrap (n:Int)=(((UInt8.ofNat n).toNat:Nat):Int):=by simp[IntKind.wrap,IntKind.bits,IntKind.signed]
def qfn (t:List UInt8) (a:Int) (by_ end_ lo:Nat) (u:Value) (W:World):Prop:=
 (YG t a end_≠0/\u=.tuple #[.slice none 0 0,.int .i64 (YG t a end_)]) \/
  (YG t a end_=0/\∃ A c,u=.tuple #[.slice A 256 c,.int .i64 0]/\W.ownsRow lo 5 1 (.slice A 256 c) 256 ((jj t a.toNat by_).map bv))
theorem qkE {t:List UInt8} (h:Qt t=false) (a:Int) (e:Nat):YG t a e=8:=by unfold YG;rw[h];simp
theorem qkF {t:List UInt8} (h:Qt t=true) {a:Int} (ha:¬(8<=a/\a<256)) (e:Nat):YG t a e=2:=by unfold YG;rw[if_pos h,if_neg ha]
theorem qhc {t:List UInt8} (h:Qt t=true) {a:Nat} (ha:8<=a) (ha2:a<256) (e:Nat):YG t (a:Int) e=if qL t a=e then 70 else 0:=by unfold YG;rw[if_pos h,if_pos zO,Int.toNat_natCast]
theorem Xr {R:Ending->World->Prop} {a:Act} {W:World} {u v:Value} (h8:a.tmps[8]?.getD undef=u) (h9:a.tmps[9]?.getD undef=v) (hd:a.defers=[]) (hR:R (.returned (.tuple #[u,v])) W):bodyPost prog Tryz.f191 R .ret a W:=by refine bodyPost_ret (v:=.tuple #[u,v]) ?_ hd hR;simp[results,results191,go_sem,h8,h9]
set_option maxRecDepth 100000 in
theorem turn_any (A n c) (t:List UInt8) (a:Int) (by_ end_:Nat) (w:World) (h:Bys w w.heap.size (.slice A n c) t):Calls prog 191 #[.slice A n c,.int .i64 a,.int .u8 (by_:Int),.int .u8 (end_:Int)] w (zF (qfn t a by_ end_ w.heap.size) w):=by
 have HC:=zH (Tx (.slice A n c) t w h);have hby:=zH h;go_enter func191,ntmps191;go_wp2_with fail;refine HC.out.mono ?_;clear HC;rintro e w2 ⟨rfl,hB⟩;have x2:Ext w w2:=hB;clear hB h;rcases hS:Qt t with _|_
 ·have hq:=zH (qkE hS a end_);replace hS:=zH hS;rw[Jl rfl];go_wp2_with fail;exact Xr rfl rfl rfl ⟨_,rfl,.inl ⟨by rw[hq.out];decide,by rw[hq.out];rfl⟩,x2⟩
 ·rw[JG rfl];by_cases hr:8<=a/\a<256
  ·obtain⟨m,hma⟩:=Int.eq_ofNat_of_zero_le (show 0<=a by omega);subst hma;have hm8:8<=m:=zO;have hNV:m<256:=zO;have hq:=qhc hS hm8 hNV end_;have hl:t.length=256:=by unfold Qt at hS;simp at hS;exact hS.1
   obtain⟨A',c',e,hc,hmx,hrd⟩:=hby.out;obtain⟨b,o,rfl,hb,hBX⟩:=hrd.2 zO;simp only[Value.slice.injEq] at e;obtain⟨rfl,e2,rfl⟩:=e;obtain rfl:n=256:=zO;clear e2;have hcn:w.cell? ⟨b,o+m,none⟩=some (.int .u8 (qL t m:Int)):=hBX m _ (by rw[List.getElem?_map,zL zO];unfold qL;rw[zL zO];rfl);have hcn2:=Ext.cell x2 hcn;have d1:decide ((m:Int)<8)=false:=decide_eq_false zO;have d2:decide ((m:Int)≥256)=false:=decide_eq_false zO;have HCL:=zH (TN (.slice (some ⟨b,o,none⟩) 256 c) t zO w2 ((hby.out.below x2).more x2.size));have hT:Hid (jj t m by_=t.set m (UInt8.ofNat (qL t m+by_))):=rfl;clear hr hBX hrd hcn hc hmx;generalize hnv:qL t m=nv at *;replace hnv:=zH hnv;replace hl:=zH hl;by_cases h0:nv=end_
   ·have hz1:((nv:Int) == (end_:Int))=true:=by rw[beq_iff_eq];omega
    have hz2:decide (nv=end_)=true:=decide_eq_true h0;rw[if_pos h0] at hq;replace hq:=zH hq;replace h0:=zH h0;replace hS:=zH hS;go_wp2_with fail;exact Xr rfl rfl rfl ⟨_,rfl,.inl ⟨by rw[hq.out];decide,by rw[hq.out];rfl⟩,x2⟩
   ·have hz1:((nv:Int) == (end_:Int))=false:=by rw[beq_eq_false_iff_ne];omega
    have hz2:decide (nv=end_)=false:=decide_eq_false h0;rw[if_neg h0] at hq;replace hq:=zH hq;replace h0:=zH h0;replace hS:=zH hS;go_wp2_with fail;refine HCL.out.mono ?_;clear HCL;rintro e w3 ⟨u,rfl,hu,hB⟩;rw[hl.out] at hu;obtain⟨Au,cu,rfl,hcu,-⟩:=qB hu;have x3:Ext w w3:=x2.trans hB;have hAu:∃ g,Au=some ⟨g,0,none⟩:=by
     rcases hu.2 with ⟨e,h0⟩|⟨g,cap,cur,e,_⟩
     ·cases e
     ·cases e;exact⟨g,rfl⟩
    obtain⟨g,rfl⟩:=hAu;obtain⟨hk,hf,hlg,hgz⟩:=Za hu;have hkm:=hk m hNV;rw[show (t[m]?.getD 0).toNat=nv from hnv.out] at hkm;have hfm:=hf m;have hTC:=zH (XG hu hNV (UInt8.ofNat (nv+by_)));have hwv:IntKind.u8.wrap ((nv:Int)+(by_:Int))=(((UInt8.ofNat (nv+by_)).toNat:Nat):Int):=by rw[<-qfb];rfl
    clear hk hf hu hB hcn2;go_wp2_with fail;exact Xr rfl rfl rfl ⟨_,rfl,.inr ⟨hq.out,_,_,rfl,Qz (by rw[Int.toNat_natCast,hT.out];exact hTC.out) x2.size⟩,Below.setCell x3 (p:=⟨g,m,none⟩) (by have:=x2.size;simp;omega) _⟩
  ·have hq:=zH (qkF hS hr end_);replace hS:=zH hS;by_cases h8:a<8
   ·have d1:decide (a<8)=true:=decide_eq_true h8;replace hr:=zH hr;go_wp2_with fail;exact Xr rfl rfl rfl ⟨_,rfl,.inl ⟨by rw[hq.out];decide,by rw[hq.out];rfl⟩,x2⟩
   ·have d1:decide (a<8)=false:=decide_eq_false h8;have d2:decide (a≥256)=true:=decide_eq_true zO;replace hr:=zH hr;go_wp2_with fail;exact Xr rfl rfl rfl ⟨_,rfl,.inl ⟨by rw[hq.out];decide,by rw[hq.out];rfl⟩,x2⟩
def XU (d:Bool) (a:Int):Int:=if d=true then (if 0<=a/\a<256 then 0 else 2) else 8
set_option maxRecDepth 100000 in
theorem qbd (A1 n1 c1 A2 n2 c2) (bs:List (List UInt8)) (ws:List (Int×List UInt8)) (a:Int) (w:World) (hb:Bls w w.heap.size (.slice A1 n1 c1) bs) (hw:Wrs w w.heap.size (.slice A2 n2 c2) ws):Calls prog 150 #[Va A1 n1 c1 A2 n2 c2,.int .i64 a] w (Ret (.int .i64 (XU (QM bs ws) a)) w):=by
 have HD:=zH (fun W (hW:Ext w W)=>qbf A1 n1 c1 A2 n2 c2 bs ws W ((hb.below hW).more hW.size) ((hw.below hW).more hW.size));clear hb hw;generalize QM bs ws=d at *;go_enter func150,ntmps150;go_wp2_with fail;generalize hw1:World.alloc _ _=w1;have x1:Ext w w1:=by rw[<-hw1];exact zN _ _
 clear hw1;refine(HD.out _ x1).mono ?_;rintro e w2 ⟨rfl,hB⟩;have x2:Ext w w2:=x1.trans hB;clear hB x1 HD;cases d
 ·go_wp2;go_ret;exact⟨rfl,x2⟩
 ·have h0:Hid (∀ n:Int,(if 0<=a/\a<256 then 0 else 2)=n->XU true a=n):=zH fun n h=>by unfold XU;rw[if_pos rfl];exact h
  rw[show Jz true=0 from rfl];by_cases h1:a<0
  ·go_wp2;go_ret;exact⟨Vx (h0.out _ (if_neg zO)).symm,x2⟩
  ·by_cases h2:a≥256
   ·go_wp2;go_ret;exact⟨Vx (h0.out _ (if_neg zO)).symm,x2⟩
   ·have d2:decide (256<=a)=false:=decide_eq_false zO;go_wp2;go_ret;exact⟨Vx (h0.out _ (if_pos zO)).symm,x2⟩
def NewDisk (lo:Nat) (bs:List (List UInt8)) (ws:List (Int×List UInt8)) (u:Value) (W:World):Prop:=∃ A1 c1 A2 c2,u=Va A1 bs.length c1 A2 ws.length c2/\∀ W2:World,(∀ q:Addr,lo<=q.block->q.block<W.heap.size->W2.cell? q=(thaw W).cell? q)->Bls W2 W.heap.size (.slice A1 bs.length c1) bs/\Wrs W2 W.heap.size (.slice A2 ws.length c2) ws
abbrev qeC (e:Int):Value:=.tuple #[Va none 0 0 none 0 0,.int .i64 e]
def JS (bs:List (List UInt8)) (ws:List (Int×List UInt8)) (a:Int) (data:List UInt8):Int:=
 if XU (QM bs ws) a≠0 then XU (QM bs ws) a else if data.length≠128 then 3 else if ws.length=4096 then 9 else 0
theorem jN {bs:List (List UInt8)} {ws:List (Int×List UInt8)} (h:QM bs ws=true):bs.length<1000000/\ws.length<1000000/\(∀ l∈bs,l.length<1000000)/\∀ p∈ws,p.2.length<1000000:=by
 unfold QM headD at h;simp only[Bool.and_eq_true,decide_eq_true_eq,List.all_eq_true] at h;obtain⟨⟨h1,h2⟩,h3,h4⟩:=h;refine⟨zO,zO,fun l hl=>?_,fun p hp=>?_⟩
 ·have:=h3 l hl;unfold GO at this;have:=of_decide_eq_true this;omega
 ·have:=h4 p hp;unfold wrOk at this;have:=of_decide_eq_true this;omega
theorem jS.waits {lo:Nat} {bs:List (List UInt8)} {ws:List (Int×List UInt8)} {BB WW g:Nat} {W:World} (h:jS lo bs ws BB WW g W) (h2:ws.length<1000000):∃ ps:List ((Int×List UInt8)×Value),ps.map (·.1)=ws/\W.ownsRow lo 142 2 (.slice (some ⟨WW,0,none⟩) ws.length (ws.length+1)) ws.length (zu ps)/\∀ p∈ps,∃ F,InG W g F p.2 p.1.2:=by
 obtain⟨cw,hw1,hw2,hw3⟩:=h.ww;have hq:∀ i,i<ws.length->∃ q:(Int×List UInt8)×Value,ws[i]?=some q.1/\(∃ F,InG W g F q.2 q.1.2)/\cw[i*2]?=some (.int .i64 q.1.1)/\cw[i*2+1]?=some q.2:=fun i hi=>by obtain⟨v,F,e1,e2,e3⟩:=hw3 i ws[i] (zL hi);exact⟨(ws[i],v),zL hi,⟨F,e3⟩,e1,e2⟩
 obtain⟨Q,hQ⟩:=Go.Deep.choose_lt (α:=(Int×List UInt8)×Value) (p:=fun i q=>ws[i]?=some q.1/\(∃ F,InG W g F q.2 q.1.2)/\cw[i*2]?=some (.int .i64 q.1.1)/\cw[i*2+1]?=some q.2) hq;refine⟨(List.range ws.length).map Q,?_,⟨by rw[KU];simp,.inr ⟨WW,ws.length+1,cw,rfl,h.los.2.1,hw1,zO,zA6,hw2,?_⟩⟩,fun p hp=>?_⟩
 ·apply List.ext_getElem?;intro i;rw[List.map_map,List.getElem?_map];rcases Nat.lt_or_ge i ws.length with hi|hi
  ·rw[List.getElem?_range hi,(hQ i hi).1];rfl
  ·rw[List.getElem?_eq_none (by simpa using hi),List.getElem?_eq_none hi];rfl
 ·apply List.ext_getElem?;intro j;rw[List.getElem?_take];by_cases hj:j<ws.length*2
  ·rw[if_pos hj];obtain⟨c0,c1⟩:=VF ((List.range ws.length).map Q) (j / 2) zA1;obtain⟨_,_,q0,q1⟩:=hQ (j / 2) zO;have e0:cw.toList[j]?=cw[j]?:=zA2;rw[e0];rcases(show j=j / 2*2\/j=j / 2*2+1 by omega) with e|e
   ·rw[show cw[j]?=cw[j / 2*2]? from congrArg (fun t=>cw[t]?) e,q0,show (zu ((List.range ws.length).map Q))[j]?=(zu ((List.range ws.length).map Q))[j / 2*2]? from congrArg (fun t=>(zu ((List.range ws.length).map Q))[t]?) e,c0];simp
   ·rw[show cw[j]?=cw[j / 2*2+1]? from congrArg (fun t=>cw[t]?) e,q1,show (zu ((List.range ws.length).map Q))[j]?=(zu ((List.range ws.length).map Q))[j / 2*2+1]? from congrArg (fun t=>(zu ((List.range ws.length).map Q))[t]?) e,c1];simp
  ·rw[if_neg hj,List.getElem?_eq_none (by rw[KU];simp;omega)]
 ·obtain⟨i,hi,rfl⟩:=List.mem_map.1 hp;exact(hQ i (List.mem_range.1 hi)).2.1
theorem Ta (ps:List ((Int×List UInt8)×Value)) (a:Int) (l:List UInt8) (u:Value):zu (ps++[((a,l),u)])=zu ps++gW (a,l) u:=by
 induction ps with
 |nil=>rfl
 |cons p r ih=>simp only[List.cons_append,zu,ih]
theorem jS.blocks {lo:Nat} {bs:List (List UInt8)} {ws:List (Int×List UInt8)} {BB WW g:Nat} {W:World} (h:jS lo bs ws BB WW g W) (h1:bs.length<1000000) (h3:∀ l∈bs,l.length<1000000) (W2:World) (hB:∀ j,W2.cell? ⟨BB,j,none⟩=W.cell? ⟨BB,j,none⟩) (hg:∀ j,W2.cell? ⟨g,j,none⟩=W.cell? ⟨g,j,none⟩):Bls W2 W.heap.size (.slice (some ⟨BB,0,none⟩) bs.length bs.length) bs:=by
 obtain⟨cb,hb1,hb2,hb3⟩:=h.bb;have z1:=(zG.1 hb1).1;have hm:∀ n,n<1000001->n<=maxLen:=fun n hn=>zA6;refine⟨cb.toList,_,_,rfl,zM _,hm _ zO,⟨by simp[hb2],fun _=>⟨BB,0,rfl,z1,fun j u hu=>?_⟩⟩,fun i u l hu hl=>?_⟩
 ·rw[Nat.zero_add,hB,qa hb1];simpa using hu
 ·obtain⟨v,F,e1,e2⟩:=hb3 i l hl;have:cb.toList[i]?=cb[i]?:=zA2;rw[this,e1] at hu;cases hu;exact(e2.cells hg).bys h.los.2.2.2.1 (hm _ (by have:=h3 l (List.mem_of_getElem? hl);omega))
set_option maxRecDepth 100000 in
theorem qhH (A1 n1 c1 A2 n2 c2) (bs:List (List UInt8)) (ws:List (Int×List UInt8)) (a:Int) (A c) (data:List UInt8) (w:World) (hb:Bls w w.heap.size (.slice A1 n1 c1) bs) (hw:Wrs w w.heap.size (.slice A2 n2 c2) ws) (hd:Bys w w.heap.size (.slice A data.length c) data):Calls prog 148 #[Va A1 n1 c1 A2 n2 c2,.int .i64 a,.slice A data.length c] w (zF (fun u W=>(JS bs ws a data≠0/\u=qeC (JS bs ws a data))\/(JS bs ws a data=0/\∃ v,u=.tuple #[v,.int .i64 0]/\NewDisk w.heap.size bs (ws++[(a,data)]) v W)) w):=by
 have HA:=zH (fun W (hW:Ext w W)=>qbd A1 n1 c1 A2 n2 c2 bs ws a W ((hb.below hW).more hW.size) ((hw.below hW).more hW.size));have HT:=zH (fun (h:QM bs ws=true) W (hW:Ext w W)=>qdq A1 n1 c1 A2 n2 c2 bs ws (jN h).1 (jN h).2.1 (jN h).2.2.1 (jN h).2.2.2 W ((hb.below hW).more hW.size) ((hw.below hW).more hW.size));have HC:=zH (fun (h:data.length=128) W (hW:Ext w W)=>jf (.slice A data.length c) data zO W ((hd.below hW).more hW.size));obtain⟨e2,hc2,hm2,-⟩:=hw.at_;subst e2;have hE:∀ e,e=XU (QM bs ws) a->JS bs ws a data=if e≠0 then e else if data.length≠128 then 3 else if ws.length=4096 then 9 else 0:=fun e h=>by subst h;rfl
 have hM:Hid (XU (QM bs ws) a=0->QM bs ws=true):=zH fun h=>by
  unfold XU at h;split at h
  ·assumption
  ·cases h
 clear hb hw hd hm2;obtain⟨ae,hae⟩:∃ ae,ae=XU (QM bs ws) a:=⟨_,rfl⟩
 rw[<-hae] at HA hM;replace hE:=zH (hE ae hae);clear hae;go_enter func148,ntmps148;go_wp2_with fail;generalize hw1:World.alloc (World.alloc _ _) _=w1;have x1:Ext w w1:=by rw[<-hw1];exact(zN _ _).trans (zN _ _)
 have r1:w1.heap[w.heap.size]?=some (.cells #[.slice A1 n1 c1,.slice A2 ws.length c2] 25 (0,0)):=by rw[<-hw1];exact(zK _ _ _ zA2).trans (zI _ _ _ rfl)
 have q1:w1.heap[w.heap.size+1]?=some (.cells #[.slice none 0 0,.slice none 0 0] 25 (0,0)):=by rw[<-hw1];exact zI _ _ _ zA2
 clear hw1;refine(HA.out w1 x1).mono ?_;rintro e w2 ⟨rfl,hB⟩;have x2:Ext w w2:=x1.trans hB;have r2:=qb r1 hB;have q2:=qb q1 hB;have k2:=qa r2;have kq:=qa q2;have fq:=qd q2;have zq:=(zG.1 q2).1;clear hB x1 HA r1 q1;by_cases h0:ae=0
 case neg =>
  have d0:(ae != 0)=true:=by simpa using h0
  have e0:Hid (JS bs ws a data=ae):=zH (by rw[hE.out,if_pos h0]);go_wp2_with fail;have rf:=qi (qi q2 0 (.slice none 0 0)) 1 (.slice none 0 0);have kf:=qa rf;have bf:Below w.heap.size w ((w2.setCell ⟨w.heap.size+1,0,none⟩ (.slice none 0 0)).setCell ⟨w.heap.size+1,1,none⟩ (.slice none 0 0)):=Below.setCell (Below.setCell x2 (p:=⟨w.heap.size+1,0,none⟩) (Nat.le_succ _) _) (p:=⟨w.heap.size+1,1,none⟩) (Nat.le_succ _) _;exact bodyPost_ret (v:=qeC ae) (by simp[results,results148,go_sem,kf]) rfl ⟨_,rfl,.inl ⟨by rw[e0.out];exact h0,by rw[e0.out]⟩,bf⟩
 case pos =>
  have hmay:=hM.out h0;rw[h0] at hE ⊢;clear h0 hM;by_cases h1:data.length=128
  case neg =>
   have d1:((data.length:Int) != 128)=true:=by rw[bne_iff_ne];omega
   have e0:Hid (JS bs ws a data=3):=zH (by rw[hE.out,if_neg zD,if_pos h1]);go_wp2_with fail;have rf:=qi (qi q2 0 (.slice none 0 0)) 1 (.slice none 0 0);have kf:=qa rf;have bf:Below w.heap.size w ((w2.setCell ⟨w.heap.size+1,0,none⟩ (.slice none 0 0)).setCell ⟨w.heap.size+1,1,none⟩ (.slice none 0 0)):=Below.setCell (Below.setCell x2 (p:=⟨w.heap.size+1,0,none⟩) (Nat.le_succ _) _) (p:=⟨w.heap.size+1,1,none⟩) (Nat.le_succ _) _;exact bodyPost_ret (v:=qeC 3) (by simp[results,results148,go_sem,kf]) rfl ⟨_,rfl,.inl ⟨by rw[e0.out];decide,by rw[e0.out]⟩,bf⟩
  case pos =>
   have d1:((data.length:Int) != 128)=false:=by rw[bne_eq_false_iff_eq];omega
   by_cases h2:ws.length=4096
   case pos =>
    have d2:((ws.length:Int) == 4096)=true:=by rw[beq_iff_eq];omega
    have e0:Hid (JS bs ws a data=9):=zH (by rw[hE.out,if_neg zD,if_neg zO,if_pos h2]);go_wp2_with fail;have rf:=qi (qi q2 0 (.slice none 0 0)) 1 (.slice none 0 0);have kf:=qa rf;have bf:Below w.heap.size w ((w2.setCell ⟨w.heap.size+1,0,none⟩ (.slice none 0 0)).setCell ⟨w.heap.size+1,1,none⟩ (.slice none 0 0)):=Below.setCell (Below.setCell x2 (p:=⟨w.heap.size+1,0,none⟩) (Nat.le_succ _) _) (p:=⟨w.heap.size+1,1,none⟩) (Nat.le_succ _) _;exact bodyPost_ret (v:=qeC 9) (by simp[results,results148,go_sem,kf]) rfl ⟨_,rfl,.inl ⟨by rw[e0.out];decide,by rw[e0.out]⟩,bf⟩
   case neg =>
    have d2:((ws.length:Int) == 4096)=false:=by rw[beq_eq_false_iff_ne];omega
    have e0:Hid (JS bs ws a data=0):=zH (by rw[hE.out,if_neg zD,if_neg zO,if_neg h2]);obtain⟨hbl,hwl,hbe,hwe⟩:=jN hmay;have HT2:=zH (HT.out hmay);have HC2:=zH (HC.out h1);clear HT HC;clear hE;go_wp2_with fail;refine(HT2.out w2 x2).mono ?_;rintro e w3 ⟨BB,WW,g,rfl,hD,hB⟩;have hB3:Ext w2 w3:=hB;have x3:Ext w w3:=x2.trans hB3;have r3:=qb r2 hB3;have q3:=qb q2 hB3;clear r2 q2 k2 kq fq hB HT2;go_wp2_with fail;generalize hw4:World.alloc w3 _=w4;have x34:Ext w3 w4:=by rw[<-hw4];exact zN _ _
    have t4:w4.heap[w3.heap.size]?=some (.cells #[.slice (some ⟨BB,0,none⟩) bs.length bs.length,.slice (some ⟨WW,0,none⟩) ws.length (ws.length+1)] 25 (0,0)):=by rw[<-hw4];exact zI _ _ _ rfl
    clear hw4;have hD4:=hD.keep (zM _) x34.size (fun b _ hb=>x34.block b hb);obtain⟨ps,hps,hBQ,hin⟩:=hD4.waits hwl;have hpl:ps.length=ws.length:=by rw[<-hps,List.length_map]
    obtain⟨l1,l2,l3,l4,l5,l6,l7⟩:=hD4.los;have r4:=qb r3 x34;have q4:=qb q3 x34;have x4:Ext w w4:=x3.trans x34;have z23:=hB3.size;have z34:=x34.size;have zt:=(zG.1 t4).1;have hWl:WW<w4.heap.size:=by obtain⟨_,h,_⟩:=hD4.ww;exact(zG.1 h).1
    have hBl:BB<w4.heap.size:=by obtain⟨_,h,_⟩:=hD4.bb;exact(zG.1 h).1
    have hW3:WW≠w3.heap.size:=by obtain⟨_,h,_⟩:=hD4.ww;exact qR h t4 zD
    have hB3':BB≠w3.heap.size:=by obtain⟨_,h,_⟩:=hD4.bb;exact qR h t4 zD
    have hg3:g<w3.heap.size:=hD.los.2.2.2.1;have hvl:∀ k,(Value.slice (some ⟨WW,0,none⟩) ws.length (ws.length+1)).ownBlock=some k->k=WW:=fun k hk=>by simp[Value.ownBlock] at hk;exact hk.symm
    have hv1:∀ k,(Value.slice (some ⟨WW,0,none⟩) ws.length (ws.length+1)).ownBlock=some k->k<w4.heap.size:=fun k hk=>by rw[hvl k hk];exact hWl
    obtain⟨i0,hi,hz0,hz1,hz2⟩:=info_parts Tryz.info_write;obtain⟨RR,hRR⟩:∃ RR:Rel,RR=appX w2.heap.size 142 2 w4.heap.size (.slice (some ⟨WW,0,none⟩) ws.length (ws.length+1)) ws.length (zu ps) (gW (a,data)) data:=⟨_,rfl⟩
    have g1:∀ W,RR.r w4 W->∀ i,W.cell? ⟨w3.heap.size,i,none⟩=#[.slice (some ⟨BB,0,none⟩) bs.length bs.length,.slice (some ⟨WW,0,none⟩) ws.length (ws.length+1)][i]?:=fun W h=>qa (TV (hRR ▸ h) (fun e=>hW3 (hvl _ e).symm) t4);replace hRR:=zH hRR;replace hD:=zH hD;replace hD4:=zH hD4;replace hBQ:=zH hBQ;replace hin:=zH hin;replace hps:=zH hps;clear hD;go_wp2_with fail;refine qp zQ ?_;refine Qa (w:=w4) RR (qM [(4,qbP w4.heap.size data.length data),(5,outW w4.heap.size a data),(6,UE w4.heap.size 142 (gW (a,data)) data),(7,outX w2.heap.size 142 2 w4.heap.size (.slice (some ⟨WW,0,none⟩) ws.length (ws.length+1)) ws.length (zu ps) (gW (a,data)) data)])
     [true,true,true,true,true,true,true,true,true] 1 zQ zQ zQ zQ zQ zQ zQ ?st (Rel.drew _ _) ?walk
    case st=>rw[hRR.out];exact qj (by simp only[List.forall_mem_cons];exact⟨qcT hv1,qeN hv1,qbO hv1,qgE,fun _ h=>by cases h⟩)
    case walk =>
     intro K hK;dsimp only[qw];refine zC1 ?_;refine qz (qbP w4.heap.size data.length data) zA0 zA0 (fun W hW _=>?_) (fun p7=>?_)
     ·rw[hRR.out] at hW ⊢;have hxW:Ext w W:=⟨hW.1.os.trans x4.os,hW.1.tape.trans x4.tape,hW.1.output.trans x4.output,Nat.le_trans x4.size hW.1.size,fun k hk=>(hW.1.block k (Nat.lt_of_lt_of_le hk x4.size) (fun e=>by have:=hvl k e.symm;have:=x2.size;omega)).trans (x4.block k hk)⟩
      refine qV ?_ ((HC2.out W hxW).mono fun e w' h=>?_)
      ·go_simp
      obtain⟨u,rfl,hu,hB⟩:=h;have h1:=IsB.of_own hu;obtain⟨A',c',rfl,_,_⟩:=qB hu;exact⟨(A',c'),rfl,(vy.of_own hu).mono hW.1.size,TU hB⟩
     obtain⟨A7,c7⟩:=p7;simp only[Act.put,qk,qf,qc,qg,VK,Gx,vS,Gw,zA,zB,zC];refine qz (outW w4.heap.size a data) zA0 zA0 (fun W hW hp=>?_) (fun p7=>?_)
     ·rw[hRR.out] at hW ⊢;have f7:=(hp 4 zD).1;refine ZD (u:=.agg #[.int .i64 a,.slice A7 data.length c7]) (w':=W) ?_ ⟨(A7,c7),rfl,f7,Rel.refl _ W⟩;go_simp
     obtain⟨A7,c7⟩:=p7;simp only[Act.put,qk,qf,qc,qg,VK,Gx,vS,Gw,zA,zB,zC];refine qz (UE w4.heap.size 142 (gW (a,data)) data) zA0 zA0 (fun W hW hp=>?_) (fun p8=>?_)
     ·rw[hRR.out] at hW ⊢;have f7:=(hp 5 zD).1;refine qgc (A:=A7) (c:=c7) ?_ hW.1.size f7;go_simp
     simp only[Act.put,qk,qf,qc,qg,VK,Gx,vS,Gw,zA,zB,zC];refine qz (outX w2.heap.size 142 2 w4.heap.size (.slice (some ⟨WW,0,none⟩) ws.length (ws.length+1)) ws.length (zu ps) (gW (a,data)) data) zA0 zA0 (fun W hW hp=>?_) (fun p9=>?_)
     ·rw[hRR.out] at hW ⊢;obtain⟨_,A8,c8,hLT,hB8⟩:=(hp 6 zD).1;obtain⟨v',w',hGG,hD,hR'⟩:=qeW (P:=prog) (lo:=w4.heap.size) (f:=gW (a,data)) (l:=data) W 23 23 i0 _ 32 underlying23 hi hz0 hz1 hz2 rfl zD (hW.2.1 hBQ.out) ⟨p8,0,none⟩ A8 c8 rfl (qcc hLT) (by simp[gW,Value.oneCell']) hB8 hv1 zO zD (by have:=hW.1.size;omega) hW.1.size;have hsl:=hD;obtain⟨_,_,hDD,_⟩:=hsl;obtain⟨A',c',rfl,_,_⟩:=qB hDD.1;refine ZD (u:=.slice A' (ws.length+1) c') (w':=w') ?_ ⟨(A',c'),rfl,hD,hR'⟩;exact YW (s:=.tmp 29) (x:=.tmp 34) rfl rfl rfl hGG
     obtain⟨A9,c9⟩:=p9;refine zC1 ?_;refine qA (hK _ _ fun W hW hF=>?_);have hDX:TS _ _ _ _ _ _ _ _ _ (.slice A9 (ws.length+1) c9) W:=(hF 7).1;clear hF hK g1;rw[hRR.out] at hW;refine zB4 ?_;have tW:=TV hW (fun e=>hW3 (hvl _ e).symm) t4;have qW:=TV hW (fun e=>by have:=hvl _ e;omega) q4;have kt:=qa tW;have ft:=qd tW;have kq:=qa qW;have fq:=qd qW;have zW:=hW.1.size;obtain⟨A10,c10,hDn,hBd,_⟩:=hDX;have hbW:Below w.heap.size w W:=⟨hW.1.os.trans x4.os,hW.1.tape.trans x4.tape,hW.1.output.trans x4.output,Nat.le_trans x4.size zW,fun k hk=>(hW.1.block k (by have:=x4.size;omega) (fun e=>by have:=hvl k e.symm;omega)).trans (x4.block k hk)⟩
     have hgW:∀ b,b<w4.heap.size->b≠WW->W.heap[b]?=w4.heap[b]?:=fun b h1 h2=>hW.1.block b h1 (fun e=>h2 (hvl b e.symm));replace hDn:=zH hDn;replace hBd:=zH hBd;replace hgW:=zH hgW;clear hW t4 q4 r4 r3 q3;go_wp2;refine Qw ?_;go_wp2_with fail;have hl1:(ws++[(a,data)]).length=ws.length+1:=zA2;have rf:=qi (qi ((zJ W ⟨w3.heap.size,1,none⟩ (.slice A9 (ws.length+1) c9) (w.heap.size+1) (by show w.heap.size+1≠w3.heap.size;omega)).trans qW) 0 (.slice (some ⟨BB,0,none⟩) bs.length bs.length)) 1 (.slice A9 (ws.length+1) c9);have kf:=qa rf;have st:∀ b,b≠w3.heap.size->b≠w.heap.size+1->(((W.setCell ⟨w3.heap.size,1,none⟩ (.slice A9 (ws.length+1) c9)).setCell ⟨w.heap.size+1,0,none⟩ (.slice (some ⟨BB,0,none⟩) bs.length bs.length)).setCell ⟨w.heap.size+1,1,none⟩ (.slice A9 (ws.length+1) c9)).heap[b]?=W.heap[b]?:=fun b h1 h2=>(zJ _ _ _ _ h2).trans ((zJ _ _ _ _ h2).trans (zJ _ _ _ _ h1));have hz:(((W.setCell ⟨w3.heap.size,1,none⟩ (.slice A9 (ws.length+1) c9)).setCell ⟨w.heap.size+1,0,none⟩ (.slice (some ⟨BB,0,none⟩) bs.length bs.length)).setCell ⟨w.heap.size+1,1,none⟩ (.slice A9 (ws.length+1) c9)).heap.size=W.heap.size:=zA2;have bf:Below w.heap.size w (((W.setCell ⟨w3.heap.size,1,none⟩ (.slice A9 (ws.length+1) c9)).setCell ⟨w.heap.size+1,0,none⟩ (.slice (some ⟨BB,0,none⟩) bs.length bs.length)).setCell ⟨w.heap.size+1,1,none⟩ (.slice A9 (ws.length+1) c9)):=Below.setCell (Below.setCell (Below.setCell hbW (p:=⟨w3.heap.size,1,none⟩) (by show w.heap.size<=w3.heap.size;omega) _) (p:=⟨w.heap.size+1,0,none⟩) (Nat.le_succ _) _) (p:=⟨w.heap.size+1,1,none⟩) (Nat.le_succ _) _;generalize World.setCell (World.setCell (World.setCell W _ _) _ _) _ _=wf at *;refine bodyPost_ret (v:=.tuple #[Va (some ⟨BB,0,none⟩) bs.length bs.length A9 (ws.length+1) c9,.int .i64 0]) (by simp[results,results148,go_sem,kf]) rfl ⟨_,rfl,.inr ⟨e0.out,_,rfl,some ⟨BB,0,none⟩,bs.length,A9,c9,by rw[hl1],fun W2 hk=>?_⟩,bf⟩;rw[hz] at hk ⊢;have hBX:∀ b,w.heap.size<=b->b<w4.heap.size->b≠WW->b≠w3.heap.size->b≠w.heap.size+1->∀ j,W2.cell? ⟨b,j,none⟩=(thaw w4).cell? ⟨b,j,none⟩:=fun b h1 h2 h3 h4 h5 j=>(hk ⟨b,j,none⟩ h1 (by show b<W.heap.size;omega)).trans ((Qu (q:=⟨b,j,none⟩) (st b h4 h5)).trans (Qu (q:=⟨b,j,none⟩) (hgW.out b h2 h3)));obtain⟨cg,hgr⟩:=hD4.out.gg;obtain⟨cb,hbr,-⟩:=hD4.out.bb;have hgc:=fun j=>(hBX g zO l4 (fun e=>l7 e.symm) zO zO j).trans (JW hgr j);refine⟨(hD4.out.blocks hbl hbe W2 (fun j=>(hBX BB zO hBl l5 hB3' zO j).trans (JW hbr j)) hgc).more zW,?_⟩;have hOw:=hDn.out.1;have hlt:=QZ hOw;have hA9:∀ k,(Value.slice A9 (ws.length+1) c9).ownBlock=some k->k≠w3.heap.size/\k≠w.heap.size+1:=fun k hk=>by
      have h1:=hlt k hk;rcases hDn.out.2 with h2|⟨q,h2,h3⟩
      ·have:=hvl k (h2 ▸ hk);omega
      ·have:k=q:=by rw[hk] at h2;exact Option.some.inj h2
       omega
     obtain⟨B9,d9,e9,hn9,hm9⟩:=qB hOw;cases e9;obtain⟨g9,cs9,t9,rfl,hr9⟩:∃ g9 cs9 t9,A9=some ⟨g9,0,none⟩/\W.heap[g9]?=some (.cells cs9 t9 (0,0)):=by
      rcases hOw.2 with ⟨_,h0⟩|⟨g9,_,_,e,_,hr9,_⟩
      ·omega
      ·cases e;exact⟨g9,_,_,rfl,hr9⟩
     refine⟨ps++[((a,data),.slice A10 data.length c10)],by rw[List.map_append,hps.out];rfl,⟨some ⟨g9,0,none⟩,c9,by rw[hl1],by rw[hl1];exact hn9,hm9,?_⟩,fun p hp=>?_⟩
     ·rw[hl1];have hR:=Rd.of_own hOw;refine⟨by rw[Ta];exact hR.1,fun hn=>?_⟩;obtain⟨b,off,eA,hb,hc⟩:=hR.2 hn;cases eA;have hbk:=hA9 g9 rfl;refine⟨g9,0,rfl,hb,fun j u hu=>?_⟩;rw[Ta] at hu;have h2:=hlt g9 rfl;exact(hk ⟨g9,0+j,none⟩ (by show w.heap.size<=g9;omega) hb).trans ((Qu (q:=⟨g9,0+j,none⟩) (st g9 hbk.1 hbk.2)).trans ((JW hr9 _).trans (hc j u hu)))
     ·rcases List.mem_append.1 hp with hp|hp
      ·obtain⟨F,hI⟩:=hin.out p hp;have hI2:=hI.cells hgc;have hp1:p.1∈ws:=by rw[<-hps.out];exact List.mem_map.2 ⟨p,hp,rfl⟩
       have hp2:=hwe _ hp1;have hby:=hI2.bys (B:=W.heap.size) zO zA6;obtain⟨o,e,_⟩:=hI;exact⟨⟨_,_,e⟩,hby⟩
      ·have:p=((a,data),.slice A10 data.length c10):=by simpa using hp
       subst this;refine⟨⟨A10,c10,rfl⟩,hBd.out.thaw.keepN hBd.out.from fun q h1 h2=>(hk q zO h2).trans (Qu (st q.block zO zO))⟩
end Go.Proofs.YtmeadnlmepcmbaaGreat
