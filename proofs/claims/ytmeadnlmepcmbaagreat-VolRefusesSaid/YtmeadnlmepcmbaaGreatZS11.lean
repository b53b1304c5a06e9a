/- Lemmas of the proof. -/
import Derived.Laws.MakeOwn
import Derived.Test.YtmeadnlmepcmbaaGreatZS10
set_option linter.all false
set_option maxHeartbeats 8000000
open Go.Proofs.Tryz
open Go.Value renaming slice→s,int→U,tuple→Jx
open Option renaming none→y,some→E
open Go.Obj renaming cells→F
open Bool renaming true→I
open Go renaming World→J,Value→M
open Go.World renaming setCell→O,alloc→Q
open Go.IntKind renaming i64→Z
namespace Go.Proofs.YtmeadnlmepcmbaaGreat
open Go.RowKit
variable {T n c lo lo' b1 g q B n':Nat}{hh:Qd}{w0 w w' W:World}{e t1:TypeId}{v u x0 x1 x2 x3:Value}{xs:List Value}{S:Sto}{c1:Array Value}{l:List UInt8}{R:Ending->World->Prop}{a:Act}{bs:List (List UInt8)}{ws:List (Int×List UInt8)}{X Y D D':Nat->Prop}{k k':Option Nat}
def qbv(lo n c:Nat)(ty:TypeId)(cs:Array M):Qd:=⟨Nat,λb=>s b n c,λb W=>W.heap[b]?=E (F cs ty)/\lo<=b⟩
theorem Zd(lo n c:Nat)(ty:TypeId)(cs:Array M)(b:Nat):(qbv lo n c ty cs).f b=s b n c:=rfl
theorem Xu(lo n c:Nat)(ty:TypeId)(cs:Array M):∀p,qU qp ((qbv lo n c ty cs).φ p):=λp W W' he h=>⟨qb h.1 he,h.2⟩
def qbu(hb g o n:Nat)(cur:Array M)(l:List UInt8):Qd:=⟨Nat,λ_=>s (g,o) l.length l.length,λo' W=>(0<n-l.length->o'=o+l.length)/\(n-l.length=0->o'=o)/\qet hb g o' (n-l.length) (jP cur o l) W⟩
theorem jn(hb g o n:Nat)(cur:Array M)(l:List UInt8)(p:Nat):(qbu hb g o n cur l).f p=s (g,o) l.length l.length:=rfl
theorem GQ(hb g o n:Nat)(cur:Array M)(l:List UInt8):∀p,qU qp ((qbu hb g o n cur l).φ p):=λp W W' he ⟨h1,h2,h3⟩=>⟨h1,h2,⟨qb h3.box he,qb h3.row he,h3.ne,h3.fit,h3.few⟩⟩
theorem qko(hT:T<=281474976710656)(w:J):(Instr.makeSlice 273 (T:Int) (U Z (T:Int))).run prog w=.ok (s w T T) (w.alloc (F (madeCells #[U .u8 0] T) 5)):=by obtain⟨i0,hi,hz0,hz1,hz2⟩:=info_parts Tryz.info_u8;have h:=run_make (P:=prog) w 273 5 i0 _ underlying273 hi hz0 Z Z (T:Int) (T:Int) zO zO (by rw[hz2];omega) zO;rw[hz1,Int.toNat_natCast,Nat.mul_one]at h;exact h
theorem qab(hn:n<1000000)(w:J):(Instr.makeSlice 22 (n:Int) (U Z (n:Int))).run prog w=.ok (s w n n) (w.alloc (F (madeCells #[s y 0 0] n) 26)):=by obtain⟨i0,hi,hz0,hz1,hz2⟩:=info_parts Tryz.info_bytes;have h:=run_make (P:=prog) w 22 26 i0 _ underlying22 hi hz0 Z Z (n:Int) (n:Int) zO zO (by rw[hz2];omega) zO;rw[hz1,Int.toNat_natCast,Nat.mul_one]at h;exact h
theorem qgy(hn:n<1000000)(w:J):(Instr.makeSlice 23 (n:Int) (U Z ((n:Int)+1))).run prog w=.ok (s w n (n+1)) (w.alloc (F (madeCells #[U Z 0,s y 0 0] ((n+1)*2)) 142)):=by obtain⟨i0,hi,hz0,hz1,hz2⟩:=info_parts Tryz.info_write;have h:=run_make (P:=prog) w 23 142 i0 _ underlying23 hi hz0 Z Z (n:Int) ((n:Int)+1) zO zO (by rw[hz2];omega) zO;rw[hz1,Int.toNat_natCast,show((n:Int)+1).toNat=n+1 by omega]at h;exact h
structure TwI(bs:List (List UInt8))(ws:List (Int×List UInt8))(T lo:Nat)(w5:J)(hb g BB WW ob:Nat)(i:M)(wr:J):Prop where
 ex:∃k:Nat,k<=bs.length/\i=U Z (k:Int)/\TwS bs ws T lo w5 hb g BB WW ob k 0 (Vd (bs.take k)) wr
structure TwJ(bs:List (List UInt8))(ws:List (Int×List UInt8))(T lo:Nat)(w5:J)(hb g BB WW ob:Nat)(i:M)(wr:J):Prop where
 ex:∃k:Nat,k<=ws.length/\i=U Z (k:Int)/\TwS bs ws T lo w5 hb g BB WW ob bs.length k (Vd bs+Vd ((ws.take k).map (·.2))) wr
theorem one_at:∀i h,qV [(c,hh)] i=E h->i=c:=by intro i h e;simp only[qV]at e;split at e;assumption;cases e
set_option maxRecDepth 100000 in
theorem qlU(A1 n1 c1 A2 n2 c2)(bs:List (List UInt8))(ws:List (Int×List UInt8))(hbl:bs.length<1000000)(hwl:ws.length<1000000)(hbe:∀l∈bs,l.length<1000000)(hwe:∀p∈ws,p.2.length<1000000)(w:J)(hb:Bls w w (s A1 n1 c1) bs)(hw:Wrs w w (s A2 n2 c2) ws):Calls prog 188 #[Te A1 n1 c1 A2 n2 c2] w (λe W=>∃BB WW g,e=.returned (Te (E ⟨BB,0,y⟩) bs.length bs.length (E ⟨WW,0,y⟩) ws.length (ws.length+1))/\vD w bs ws BB WW g W/\Below w w W):=by
 obtain⟨e1,hc1,hm1,hA1⟩:=hb.at_;obtain⟨e2,hc2,hm2,hA2⟩:=hw.at_;subst e1;subst e2;have HB:=zH hb;have HW:=zH hw;have hTb:Vd bs<=1000000000000:=Nat.le_trans (qlx hbe) zO;have hTw:Vd (ws.map (·.2))<=1000000000000:=Nat.le_trans (qlx (λl hl=>by obtain⟨p,hp,rfl⟩:=List.mem_map.1 hl;exact hwe p hp)) (by rw[List.length_map];omega);clear hb hw hm1 hm2;go_enter func188,ntmps188;go_wp2_with fail;generalize hw1:(Q (Q _ _) _)=w1;have x1:Ext w w1:=by rw[<-hw1];exact(zN _ _).trans (zN _ _)
 have r1:w1.heap[w.heap.size]?=E (F #[s A1 bs.length c1,s A2 ws.length c2] 25 (0,0)):=by rw[<-hw1];exact(zK _ _ _ zA3).trans (zI _ _ _ rfl)
 have q1:w1.heap[w.heap.size+1]?=E (F #[s y 0 0,s y 0 0] 25 (0,0)):=hw1▸zI _ _ _ zA3;clear hw1;go_wp2_with fail;go_loopw [3,17] (λall i wr=>∃k:Nat,k<=bs.length/\i=U Z (k:Int)/\all=U Z ((Vd (bs.take k):Nat):Int)/\Ext w1 wr) (λ_ i _=>bs.length-(intOf i).toNat)
 case atStart=>exact⟨0,Nat.zero_le _,rfl,rfl,Ext.refl _⟩
 case round=>
  obtain⟨k,hk,rfl,rfl,hE⟩:=hrel;have xw:Below w w wr:=Ext.trans x1 hE;have rr:=qb r1 hE;have kr:=qa rr;by_cases hlt:k<bs.length
  ·obtain⟨b1,o1,rfl,hb1⟩:=hA1 zO;obtain⟨A',c',hc,_⟩:=(HB.out.below xw).get k hlt;have hsn:=Uh hlt;have hle:=kX bs (k+1);generalize bs[k].length=m at*;generalize Vd (bs.take k)=q at*;go_wp2_with fail;refine⟨⟨k+1,zO,by push_cast;rfl,by rw[hsn];push_cast;rfl,hE⟩,?_⟩;simp[intOf];omega
  obtain rfl:k=bs.length:=zO;rw[List.take_length];generalize hwm:wr=wm at*;clear hwm kr rr;have r2:=qb r1 hE;have q2:=qb q1 hE;have k2:=qa r2;obtain⟨tb,htb⟩:∃tb,tb=Vd bs:=⟨_,rfl⟩
  obtain⟨tw,htw⟩:∃tw,tw=Vd (ws.map (·.2)):=⟨_,rfl⟩
  rw[<-htb]at hTb⊢;rw[<-htw]at hTw;replace⟨htb,htw⟩:=zH2 htb htw;go_wp2_with fail;go_loopw [3,29] (λall i wr=>∃k:Nat,k<=ws.length/\i=U Z (k:Int)/\all=U Z ((tb+Vd ((ws.take k).map (·.2)):Nat):Int)/\Ext wm wr) (λ_ i _=>ws.length-(intOf i).toNat)
  case atStart=>exact⟨0,Nat.zero_le _,rfl,rfl,Ext.refl _⟩
  case round=>
   obtain⟨k,hk,rfl,rfl,hE2⟩:=hrel;have xw2:Below w w wr:=Ext.trans xw hE2;have rr:=qb r2 hE2;have kr:=qa rr;clear k2;by_cases hlt:k<ws.length
   ·obtain⟨b2,o2,rfl,hb2⟩:=hA2 zO;obtain⟨A',c',ha,hc,_⟩:=(HW.out.below xw2).get k hlt;have hsn:Vd ((ws.take (k+1)).map (·.2))=Vd ((ws.take k).map (·.2))+ws[k].2.length:=by rw[List.map_take,List.map_take,Uh (by rw[List.length_map];exact hlt),List.getElem_map]
    have hle:Vd ((ws.take (k+1)).map (·.2))<=tw:=by rw[htw.out,List.map_take];exact kX _ _
    generalize ws[k].2.length=m at*;generalize ws[k].1=pn at*;generalize Vd ((ws.take k).map (·.2))=q at*;go_wp2_with fail;refine⟨⟨k+1,zO,by push_cast;rfl,by rw[hsn];push_cast;rw[Int.add_assoc],hE2.trans (zN _ _)⟩,?_⟩;simp[intOf];omega
   obtain rfl:k=ws.length:=zO;rw[List.take_length,<-htw.out];have hmk:=qko (T:=tb+tw) zO;obtain⟨T,hT⟩:∃T,T=tb+tw:=⟨_,rfl⟩
   rw[<-hT]at hmk⊢;have hT2:T<=2000000000000:=zO;replace hT:=zH hT;go_wp2_with fail;generalize hwn:Q (Q _ _) _=wn;have x3:Ext wr wn:=by rw[<-hwn];exact(zN _ _).trans (zN _ _)
   have g3:wn.heap[wr.heap.size]?=E (F (madeCells #[U .u8 0] T) 5 (0,0)):=by rw[<-hwn];exact(zK _ _ _ zA3).trans (zI _ _ _ rfl)
   have b3:wn.heap[wr.heap.size+1]?=E (F #[s wr T T] 273 (0,0)):=hwn▸zI _ _ _ zA3;have zn0:wn.heap.size=wr.heap.size+2:=by rw[<-hwn];simp
   clear hwn hmk;have r3:=qb rr x3;have q3:=qb (qb q2 hE2) x3;have xw3:Ext w wn:=Ext.trans xw2 x3;have k3:=qa r3;have zr:=(zG.1 q2).1;have zr2:=hE2.size;have zn:wn.heap.size=wr.heap.size+2:=zn0;clear kr rr r2 q2 r1 q1 x1 hE hE2 xw xw2;generalize wr.heap.size=s0 at g3 b3 zn zr2⊢;have zs0:w.heap.size+1<s0:=zO;clear zr zr2 zn0;have g1:∀W,qp.r wn W->∀i,W.cell? ⟨w,i,y⟩=#[s A1 bs.length c1,s A2 ws.length c2][i]?:=λW h=>qa (qb r3 h);have hmkB:=qab hbl;have hmkW:=qgy hwl;have hi1:=zH (IntWalk.i64_in ((ws.length:Int)+1) zO);have hwm1:wrap64 ((ws.length:Int)+1)=(ws.length:Int)+1:=IntWalk.wrap64_in _ zO;go_wp2_with fail;refine qw zQ ?_;refine Qb (w:=wn) qp (qV [(3,qbv wn.heap.size bs.length bs.length 26 (madeCells #[s y 0 0] bs.length)),(11,qbv wn.heap.size ws.length (ws.length+1) 142 (madeCells #[U Z 0,s y 0 0] ((ws.length+1)*2))),(13,jx wn.heap.size 25 #[s y 0 0,s y 0 0])])
    [I,I,I,I,I,I,I,I,I,I,I,I,I,I] 1 zQ zQ zQ zQ zQ zQ zQ ?st (Rel.drew _ _) ?walk
   case st=>exact ql (by simp only[List.forall_mem_cons];exact⟨Xu _ _ _ _ _,Xu _ _ _ _ _,λp=>QA (Zt _ _ _ p),λ_ h=>by cases h⟩)
   case walk=>
    intro K hK;dsimp only[qA];refine zB9 ?_;refine qH (qbv wn.heap.size bs.length bs.length 26 (madeCells #[s y 0 0] bs.length)) zA0 zA0 (λW hW _=>?_) (λ(BB:Nat)=>?_)
    ·have hW:Ext wn W:=hW;refine Jg (u:=s (E ⟨W.heap.size,0,y⟩) bs.length bs.length) (w':=W.alloc (F (madeCells #[s y 0 0] bs.length) 26)) ?_ ⟨W.heap.size,rfl,⟨zI _ _ _ rfl,hW.size⟩,zN _ _⟩;go_simp
    refine zB9 ?_;refine qH (qbv wn.heap.size ws.length (ws.length+1) 142 (madeCells #[U Z 0,s y 0 0] ((ws.length+1)*2))) zA0 zA0 (λW hW _=>?_) (λ(WW:Nat)=>?_)
    ·have hW:Ext wn W:=hW;refine Jg (u:=s (E ⟨W.heap.size,0,y⟩) ws.length (ws.length+1)) (w':=W.alloc (F (madeCells #[U Z 0,s y 0 0] ((ws.length+1)*2)) 142)) ?_ ⟨W.heap.size,rfl,⟨zI _ _ _ rfl,hW.size⟩,zN _ _⟩;go_simp;rw[hi1.out,hmkW];rfl
    refine zB9 ?_;refine qH (jx wn.heap.size 25 #[s y 0 0,s y 0 0]) zA0 zA0 (λW hW _=>?_) (λ(ob:Nat)=>?_)
    ·have hW:Ext wn W:=hW;refine jl ?_ hW.size;go_simp
    refine zB9 ?_;refine qF (hK _ _ λW hW hF=>?_);have hBB:W.heap[BB]?=E (F (madeCells #[s y 0 0] bs.length) 26 (0,0))/\wn.heap.size<=BB:=(hF 3).1;have hWW:W.heap[WW]?=E (F (madeCells #[U Z 0,s y 0 0] ((ws.length+1)*2)) 142 (0,0))/\wn.heap.size<=WW:=(hF 11).1;have hob:W.heap[ob]?=E (F #[s y 0 0,s y 0 0] 25 (0,0))/\wn.heap.size<=ob:=(hF 13).1;have hW:Ext wn W:=hW;have ko:=qa hob.1;have fo:=qd hob.1;clear hF hK g1 hmkB hmkW hwm1 k3;refine zB5 ?_;go_wp2;refine Qt ?_;have rob:=qj (qj hob.1 0 (s (E ⟨BB,0,y⟩) bs.length bs.length)) 1 (s (E ⟨WW,0,y⟩) ws.length (ws.length+1));have st:∀b,b≠ob->((W.setCell ob (s BB bs.length bs.length)).setCell (ob,1) (s WW ws.length (ws.length+1))).heap[b]?=W.heap[b]?:=λb hb=>(zJ _ _ _ _ hb).trans (zJ _ _ _ _ hb);have n1:BB≠ob:=qP hBB.1 hob.1 zA1;have n2:WW≠ob:=qP hWW.1 hob.1 zA1;have hob2:=hob.2;have B5:Below s0 wn ((W.setCell ob (s BB bs.length bs.length)).setCell (ob,1) (s WW ws.length (ws.length+1))):=Below.setCell (Below.setCell (Below.mono hW zO) (p:=⟨ob,0,y⟩) (by show s0<=ob;omega) _) (p:=⟨ob,1,y⟩) (by show s0<=ob;omega) _;have T0:TwS bs ws T s0 wn (s0+1) s0 BB WW ob 0 0 0 ((W.setCell ob (s BB bs.length bs.length)).setCell (ob,1) (s WW ws.length (ws.length+1))):=
     ⟨B5,⟨zO,zO,zO,zO,zO⟩,rob,⟨0,T,_,⟨(st _ zO).trans (qb b3 hW),(st _ zO).trans (qb g3 hW),zO,by rw[size_madeCells];omega,zO⟩,zM _,λ_=>rfl,zO,size_madeCells _ _⟩,
      ⟨_,(st _ n1).trans hBB.1,size_madeCells _ _,λ_ _ _ h=>zO⟩,⟨_,(st _ n2).trans hWW.1,size_madeCells _ _,λ_ _ _ h=>zO⟩⟩
    generalize O (O W _ _) _ _=w6 at*;clear n1 n2 hob2 rob st hob hWW hBB hW g3 b3 ko fo;have r6:=(B5.block w.heap.size zO).trans r3;have k6:=qa r6;have I0:TwI bs ws T s0 wn (s0+1) s0 BB WW ob (U Z 0) w6:=⟨0,Nat.zero_le _,rfl,T0⟩
    replace I0:=zH I0;have r3':=zH r3;have q3':=zH q3;clear B5 T0 r3 q3 x3 r6;go_wp2_with fail;go_loopw [57] (λi wr=>TwI bs ws T s0 wn (s0+1) s0 BB WW ob i wr) (λi _=>bs.length-(intOf i).toNat)
    case atStart=>exact I0.out
    case round=>
     obtain⟨k,hk,rfl,hTS⟩:=hrel.ex;clear hrel I0 k6;have xwr:Below w w wr:=Below.trans xw3 (Below.mono hTS.below zO);have rr:=(hTS.below.block w.heap.size zO).trans r3'.out;have kr:=qa rr;by_cases hlt:k<bs.length
     ·have hBP:=hlt;obtain⟨b1,o1,rfl,hb1⟩:=hA1 zO;obtain⟨A',c',hc,hby⟩:=(HB.out.below xwr).get k hlt;have hsn:=Uh hlt;have hle:=kX bs (k+1);have hgk:=zL hlt;generalize bs[k]=l at*;obtain⟨o,n,cur,hH,q1,q2,q3,q4⟩:=hTS.heap;have hln:l.length<=n:=by have:=hT.out;have:=htb.out;omega
      have wFD:Bys wr wr (s A' l.length c') l:=hby.more xwr.size;have hUR:=hTS.out;obtain⟨cb,rb,sb,_⟩:=hTS.bb;have n1:ob≠s0+1:=qP hUR hH.box zA1;have n2:ob≠s0:=qP hUR hH.row zA1;have n3:BB≠s0+1:=qP rb hH.box zA1;have n4:BB≠s0:=qP rb hH.row zA1;have hQD:∀a b,qp.r a b->(UR (s0+1) s0).r a b:=qkL;obtain⟨RR,hRR⟩:∃RR:Rel,RR=UR (s0+1) s0:=⟨_,rfl⟩
      rw[<-hRR]at hQD;have hle:=hQD;have g1:∀W,RR.r wr W->∀i,W.cell? ⟨ob,i,y⟩=#[s BB bs.length bs.length,s WW ws.length (ws.length+1)][i]?:=λW h=>qa (KS (hRR▸h) n1 n2 hUR);replace⟨hRR,hTS,hsn,hgk,hH,rb⟩:=zH6 hRR hTS hsn hgk hH rb;clear q1 q2 q3 q4 hQD hA2;go_wp2_with fail;refine qw zQ ?_;refine qev (w:=wr) qp RR 4 hle (qV [(4,qbu (s0+1) s0 o n cur l)]) [I,I,I,I,I,I] 1 zQ zQ zQ zQ zQ zQ zQ ?st one_at (Rel.drew _ _) ?walk
      case st=>exact ql (by simp only[List.forall_mem_cons];exact⟨GQ _ _ _ _ _ _,λ_ h=>by cases h⟩)
      case walk=>
       intro K hK;dsimp only[qA];refine zC0 ?_;refine qcz (qbu (s0+1) s0 o n cur l) zA0 zA0 (λW hW _=>?_) (λ(p:Nat)=>?_)
       ·have hW:Ext wr W:=hW;refine Qh ?_ ((qcF (s0+1) s0 o n cur A' c' l hln W ⟨qb hH.out.box hW,qb hH.out.row hW,hH.out.ne,hH.out.fit,hH.out.few⟩ (wFD.below hW |>.more hW.size)).mono λe w' h=>?_)
        ·go_simp
        obtain⟨o',rfl,h1,h2,h3,e1,e2,e3,e4,e5⟩:=h;refine⟨o',rfl,⟨h1,h2,h3⟩,?_⟩;rw[hRR.out];exact⟨e2,e3,e4,Nat.le_of_eq e1.symm,λb _ h1 h2=>e5 b h1 h2⟩
       refine zC0 ?_
       first
        |(refine Ju hle (.pointer (E ⟨BB,0+k,y⟩)) zA0 zA0 (λW hW _=>?_) ?_
          ·go_simp;rw[IntWalk.i64_in (k:Int) zO,if_pos zO];simp
          simp only[Act.put,qo,qf,qc,qh,Zd,jn,zA,zB,zC])
        |skip
       refine zC0 ?_;refine qeG (hK _ _ λW hW hF=>?_);obtain⟨h1,h2,hH'⟩:(qbu (s0+1) s0 o n cur l).φ p W:=(hF 4).1;clear hF hK g1;rw[hRR.out]at hW;refine zB5 ?_;obtain⟨T1,hin⟩:=hTS.out.clone hH.out hln hW h1 h2 hH';have rB:=KS hW n3 n4 rb.out;have kB:=qa rB k;have fB:=qd rB k;rw[Array.getElem?_eq_getElem zO]at kB;generalize cb[k]=u0 at*;have T2:=T1.setB hgk.out hin;rw[<-hsn.out]at T2;have IR:TwI bs ws T s0 wn (s0+1) s0 BB WW ob (U Z ((k:Int)+1)) (W.setCell (BB,k) (s (s0,o) l.length l.length)):=⟨k+1,zO,rfl,T2⟩
       replace IR:=zH IR;have hwk:=zH (IntWalk.wrap64_in ((k:Int)+1) zO);clear T1 T2 hin hW h1 h2 hH' rB rb hTS hH hsn hgk;go_wp2;refine Qt ?_;go_wp2_with fail;try rw[hwk.out]
       refine⟨IR.out,?_⟩;simp[intOf];omega
     obtain rfl:k=bs.length:=zO;rw[List.take_length]at hTS;have J0:TwJ bs ws T s0 wn (s0+1) s0 BB WW ob (U Z 0) wr:=⟨0,Nat.zero_le _,rfl,hTS⟩
     replace J0:=zH J0;generalize hwk:wr=wk at*;clear hwk hTS xwr;go_wp2_with fail;go_loopw [72] (λi wr=>TwJ bs ws T s0 wn (s0+1) s0 BB WW ob i wr) (λi _=>ws.length-(intOf i).toNat)
     case atStart=>exact J0.out
     case round=>
      obtain⟨k,hk,rfl,hTS⟩:=hrel.ex;clear hrel J0 kr rr;have xwr:Below w w wr:=Below.trans xw3 (Below.mono hTS.below zO);have rr:=(hTS.below.block w.heap.size zO).trans r3'.out;have kr:=qa rr;by_cases hlt:k<ws.length
      ·have hBP:=hlt;obtain⟨b2,o2,rfl,hb2⟩:=hA2 zO;obtain⟨A',c',ha,hc,hby⟩:=(HW.out.below xwr).get k hlt;have hsn:Vd ((ws.take (k+1)).map (·.2))=Vd ((ws.take k).map (·.2))+ws[k].2.length:=by rw[List.map_take,List.map_take,Uh (by rw[List.length_map];exact hlt),List.getElem_map]
       have hle:Vd ((ws.take (k+1)).map (·.2))<=tw:=by rw[htw.out,List.map_take];exact kX _ _
       have hgk:=zL hlt;generalize ws[k]=pl at*;obtain⟨pn,l⟩:=pl;simp only at ha hc hby hsn;go_upto_region 22 with fail;generalize hwp:Q wr _=wp;have xp:Ext wr wp:=hwp▸zN _ _;have tp:wp.heap[wr.heap.size]?=E (F #[U Z pn,s A' l.length c'] 142 (0,0)):=hwp▸zI _ _ _ rfl;clear hwp;have hls:s0<=wr.heap.size:=Nat.le_trans (Nat.le_trans zO hTS.below.size) (zM _);have hTP:=hTS.ext xp hls;obtain⟨o,n,cur,hH,q1,q2,q3,q4⟩:=hTP.heap;have hln:l.length<=n:=by have:=hT.out;have:=htb.out;omega
       have wFD:Bys wp wp (s A' l.length c') l:=(hby.below (Below.mono xp xwr.size)).more (by have:=xp.size;have:=xwr.size;omega);have hUR:=hTP.out;obtain⟨cw,rw_,sw,_⟩:=hTP.ww;have zhb:=(zG.1 ((hTS.heap).choose_spec.choose_spec.choose_spec.1.box)).1;have zg:=(zG.1 ((hTS.heap).choose_spec.choose_spec.choose_spec.1.row)).1;have zw:=(zG.1 (hTS.ww.choose_spec.1)).1;have n1:ob≠s0+1:=qP hUR hH.box zA1;have n2:ob≠s0:=qP hUR hH.row zA1;have n3:WW≠s0+1:=qP rw_ hH.box zA1;have n4:WW≠s0:=qP rw_ hH.row zA1;have hQD:∀a b,qp.r a b->(UR (s0+1) s0).r a b:=qkL;obtain⟨RR,hRR⟩:∃RR:Rel,RR=UR (s0+1) s0:=⟨_,rfl⟩
       rw[<-hRR]at hQD;have hle:=hQD;generalize wr.heap.size=tt at tp hls zhb zg zw⊢;have g1:∀W,RR.r wp W->∀i,W.cell? ⟨ob,i,y⟩=#[s BB bs.length bs.length,s WW ws.length (ws.length+1)][i]?:=λW h=>qa (KS (hRR▸h) n1 n2 hUR);have g2:∀W,RR.r wp W->∀i,W.cell? ⟨tt,i,y⟩=#[U Z pn,s A' l.length c'][i]?:=λW h=>qa (KS (hRR▸h) zO zO tp);replace⟨hRR,hTP,hsn,hgk,hH,rw_⟩:=zH6 hRR hTP hsn hgk hH rw_;clear q1 q2 q3 q4 hQD hTS hby ha hc hA1 tp xp rr kr;refine qw zQ ?_;refine qev (w:=wp) qp RR 7 hle (qV [(7,qbu (s0+1) s0 o n cur l)]) [I,I,I,I,I,I,I,I,I,I] 1 zQ zQ zQ zQ zQ zQ zQ ?st one_at (Rel.drew _ _) ?walk
       case st=>exact ql (by simp only[List.forall_mem_cons];exact⟨GQ _ _ _ _ _ _,λ_ h=>by cases h⟩)
       case walk=>
        intro K hK;dsimp only[qA];refine zC0 ?_;refine qcz (qbu (s0+1) s0 o n cur l) zA0 zA0 (λW hW _=>?_) (λ(p:Nat)=>?_)
        ·have hW:Ext wp W:=hW;refine Qh ?_ ((qcF (s0+1) s0 o n cur A' c' l hln W ⟨qb hH.out.box hW,qb hH.out.row hW,hH.out.ne,hH.out.fit,hH.out.few⟩ (wFD.below hW |>.more hW.size)).mono λe w' h=>?_)
         ·go_simp
         obtain⟨o',rfl,h1,h2,h3,e1,e2,e3,e4,e5⟩:=h;refine⟨o',rfl,⟨h1,h2,h3⟩,?_⟩;rw[hRR.out];exact⟨e2,e3,e4,Nat.le_of_eq e1.symm,λb _ h1 h2=>e5 b h1 h2⟩
        refine zC0 ?_
        first
         |(refine Ju hle (.pointer (E ⟨WW,0+k*2,y⟩)) zA0 zA0 (λW hW _=>?_) ?_
           ·go_simp;rw[IntWalk.i64_in (k:Int) zO,if_pos zO];simp
           simp only[Act.put,qo,qf,qc,qh,Zd,jn,zA,zB,zC])
         |skip
        refine zC0 ?_;refine qeG (hK _ _ λW hW hF=>?_);obtain⟨h1,h2,hH'⟩:(qbu (s0+1) s0 o n cur l).φ p W:=(hF 7).1;clear hF hK g1 g2;rw[hRR.out]at hW;refine zB5 ?_;obtain⟨T1,hin⟩:=hTP.out.clone hH.out hln hW h1 h2 hH';have rB:=KS hW n3 n4 rw_.out;have kB:=qa rB (k*2);have kC:=qa rB (k*2+1);have fB:=qd rB;rw[Array.getElem?_eq_getElem zO]at kB kC;generalize cw[k*2]=u0 at*;generalize cw[k*2+1]=u1 at*;have T2:=T1.setW hgk.out hin;rw[Nat.add_assoc,<-hsn.out]at T2;have IR:TwJ bs ws T s0 wn (s0+1) s0 BB WW ob (U Z ((k:Int)+1)) ((W.setCell (WW,k*2) (U Z pn)).setCell (WW,k*2+1) (s (s0,o) l.length l.length)):=⟨k+1,zO,rfl,T2⟩
        replace IR:=zH IR;have hwk:=zH (IntWalk.wrap64_in ((k:Int)+1) zO);clear T1 T2 hin hW h1 h2 hH' rB rw_ hTP hH hsn hgk;go_wp2;refine Qt ?_;go_wp2_with fail;try rw[hwk.out]
        refine⟨IR.out,?_⟩;simp[intOf];omega
      obtain rfl:k=ws.length:=zO;have DT:=hTS.done;have qq:=(hTS.below.block (w.heap.size+1) zO).trans q3'.out;have kq:=qa qq;have fq:=qd qq;have ko:=qa hTS.out;have rf:=qj (qj qq 0 (s (E ⟨BB,0,y⟩) bs.length bs.length)) 1 (s (E ⟨WW,0,y⟩) ws.length (ws.length+1));have kf:=qa rf;have bf:Below w w ((wr.setCell (w,1,0) (s BB bs.length bs.length)).setCell (w,1,1) (s WW ws.length (ws.length+1))):=Below.setCell (Below.setCell xwr (p:=⟨w.heap.size+1,0,y⟩) (Nat.le_succ _) _) (p:=⟨w.heap.size+1,1,y⟩) (Nat.le_succ _) _;have DF:vD w bs ws BB WW s0 ((wr.setCell (w,1,0) (s BB bs.length bs.length)).setCell (w,1,1) (s WW ws.length (ws.length+1))):=
       DT.keep zO zA3 (λb h1 _=>(zJ _ _ _ _ (by show b≠w.heap.size+1;omega)).trans (zJ _ _ _ _ (by show b≠w.heap.size+1;omega)))
      replace⟨kf,bf,DF⟩:=zH3 kf bf DF;clear rf DT hTS;go_wp2;have kf:=kf.out;exact bodyPost_ret (v:=Te (E ⟨BB,0,y⟩) bs.length bs.length (E ⟨WW,0,y⟩) ws.length (ws.length+1)) (by simp[results,results188,go_sem,kf]) rfl ⟨BB,WW,s0,rfl,DF.out,bf.out⟩
def KC(w:J)(b:Nat):Nat->List M->J
 |_,[]=>w
 |k,v::r=>KC (w.setCell (b,k) v) b (k+1) r
def TK(cs:Array M):Nat->List M->Array M
 |_,[]=>cs
 |k,v::r=>TK (cs.setIfInBounds k v) (k+1) r
theorem Ja{b g:Nat}(h:g≠b):∀(vs:List M)(w:J)(k:Nat),(KC w b k vs).heap[g]?=w.heap[g]?
 |[],_,_=>rfl
 |_::r,w,k=>(Ja h r _ _).trans (zJ _ _ _ _ h)
theorem JK{b:Nat}:∀(vs:List M)(w:J)(k:Nat),(KC w b k vs).heap.size=w
 |[],_,_=>rfl
 |_::r,w,k=>(JK r _ _).trans zA3
theorem jZ{B b:Nat}(hB:B<=b):∀(vs:List M)(w:J)(k:Nat),Below B w0 w->Below B w0 (KC w b k vs)
 |[],_,_,h=>h
 |v::r,w,k,h=>jZ hB r _ _ (Below.setCell h (p:=⟨b,k,y⟩) hB v)
theorem vA{b:Nat}{t:TypeId}:∀(vs:List M)(w:J)(k:Nat)(cs:Array M),w.heap[b]?=E (F cs t)->(KC w b k vs).heap[b]?=E (F (TK cs k vs) t)
 |[],_,_,_,h=>h
 |v::r,w,k,cs,h=>vA r _ _ _ (qj h k v)
def outDT(lo:Nat)(bs:List (List UInt8))(ws:List (Int×List UInt8)):Qd:=⟨Nat×Nat×Nat,λp=>Te p.1 bs.length bs.length p.2.1 ws.length (ws.length+1),λp W=>vD lo bs ws p.1 p.2.1 p.2.2 W⟩
theorem Xt(lo:Nat)(bs:List (List UInt8))(ws:List (Int×List UInt8))(b c g:Nat):(outDT lo bs ws).f (b,c,g)=Te b bs.length bs.length c ws.length (ws.length+1):=rfl
theorem qgf(lo:Nat)(bs:List (List UInt8))(ws:List (Int×List UInt8)):∀p,qU qp ((outDT lo bs ws).φ p):=λp W W' he h=>by have he:Ext W W':=he;exact vD.keep h (zM _) he.size λb _ hb=>he.block b hb
def qaH(lo:Nat)(l:List UInt8):Qd:=⟨OA×Nat,λp=>s p.1 l.length p.2,λp W=>W.ownsRow lo 5 1 (s p.1 l.length p.2) l.length (l.map bv)⟩
theorem Ky(lo:Nat)(l:List UInt8)(A c):(qaH lo l).f (A,c)=s A l.length c:=rfl
theorem Ux(lo:Nat)(l:List UInt8):∀p,qU qp ((qaH lo l).φ p):=λp W W' he h=>zX h he
theorem jb{size:Nat}(h:w.ownsRow lo e size v n xs)(hk:∀b,lo<=b->b<w.heap.size->w'.heap[b]?=w.heap[b]?):w'.ownsRow lo e size v n xs:=
 ⟨h.1,h.2.imp id λ⟨g,cap,cur,h1,h2,h3,h4⟩=>⟨g,cap,cur,h1,h2,(hk g h2 (zG.1 h3).1).trans h3,h4⟩⟩
def zm(lo:Nat)(S:Sto)(u:M)(W:J):Prop:=∃BB WW g A3 c3 A4 c4,u=Qp (E ⟨BB,0,y⟩) S.bs.length S.bs.length (E ⟨WW,0,y⟩) S.ws.length (S.ws.length+1) A3 S.now.length c3 A4 S.last.length c4/\vD lo S.bs S.ws BB WW g W /\
 W.ownsRow lo 5 1 (s A3 S.now.length c3) S.now.length (S.now.map bv)/\W.ownsRow lo 5 1 (s A4 S.last.length c4) S.last.length (S.last.map bv)
theorem zm.keep{W W2:J}(h:zm lo S u W)(hl:lo'<=lo)(hs:W.heap.size<=W2)(hk:∀b,lo<=b->b<W.heap.size->W2.heap[b]?=W.heap[b]?):zm lo' S u W2:=by obtain⟨BB,WW,g,A3,c3,A4,c4,e,h1,h2,h3⟩:=h;exact⟨BB,WW,g,A3,c3,A4,c4,e,h1.keep hl hs hk,QM (jb h2 hk) hl,QM (jb h3 hk) hl⟩
theorem qfd{size:Nat}(h:w.ownsRow lo e size v n xs)(h1:w.heap[b1]?=E (F c1 t1))(ht:t1≠e)(hk:∀b,lo<=b->b<w.heap.size->b≠b1->w'.heap[b]?=w.heap[b]?):w'.ownsRow lo e size v n xs:=
 ⟨h.1,h.2.imp id λ⟨g,cap,cur,g1,g2,h3,h4⟩=>⟨g,cap,cur,g1,g2,(hk g g2 (zG.1 h3).1 (qP h3 h1 λe=>ht e.symm)).trans h3,h4⟩⟩
theorem zm.keepT{W W2:J}(h:zm lo S u W)(hl:lo'<=lo)(hs:W.heap.size<=W2)(hr:W.heap[b1]?=E (F c1 t1))(ht:t1≠26/\t1≠142/\t1≠5)(hk:∀b,lo<=b->b<W.heap.size->b≠b1->W2.heap[b]?=W.heap[b]?):zm lo' S u W2:=by obtain⟨BB,WW,g,A3,c3,A4,c4,e,h1,h2,h3⟩:=h;exact⟨BB,WW,g,A3,c3,A4,c4,e,h1.keepT hl hs hr ht hk,QM (qfd h2 hr ht.2.2 hk) hl,QM (qfd h3 hr ht.2.2 hk) hl⟩
set_option maxRecDepth 100000 in
theorem qfl(A1 n1 c1 A2 n2 c2 A3 n3 c3 A4 n4 c4)(S:Sto)(hS:Gm S)(w:J)(h:Qi w w (s A1 n1 c1) (s A2 n2 c2) (s A3 n3 c3) (s A4 n4 c4) S):Calls prog 157 #[Qp A1 n1 c1 A2 n2 c2 A3 n3 c3 A4 n4 c4] w (zv (zm w S) w):=by
 have HD:=zH (λW (hW:Ext w W)=>qlU A1 n1 c1 A2 n2 c2 S.bs S.ws hS.bs hS.ws hS.be hS.we W (h.ext hW).bs (h.ext hW).ws);have HN:=zH (λW (hW:Ext w W)=>Kn _ S.now (by have:=hS.now;omega) W (h.ext hW).now);have HL:=zH (λW (hW:Ext w W)=>Kn _ S.last (by have:=hS.last;omega) W (h.ext hW).last);clear h hS;go_enter func157,ntmps157;go_wp2_with fail;generalize hw1:(Q (Q _ _) _)=w1;have x1:Ext w w1:=by rw[<-hw1];exact(zN _ _).trans (zN _ _)
 have r1:w1.heap[w.heap.size]?=E (F #[s A1 n1 c1,s A2 n2 c2,s A3 n3 c3,s A4 n4 c4] 28):=by rw[<-hw1];exact(zK _ _ _ zA3).trans (zI _ _ _ rfl)
 have q1:w1.heap[w.heap.size+1]?=E (F #[s y 0 0,s y 0 0,s y 0 0,s y 0 0] 28):=hw1▸zI _ _ _ zA3;clear hw1;have g1:∀W,qp.r w1 W->∀i,W.cell? ⟨w,i,y⟩=#[s A1 n1 c1,s A2 n2 c2,s A3 n3 c3,s A4 n4 c4][i]?:=λW h=>qa (qb r1 h);refine qw zQ ?_;refine Qb (w:=w1) qp (qV [(2,outDT w1.heap.size S.bs S.ws),(5,qaH w1.heap.size S.now),(8,qaH w1.heap.size S.last)])
  [I,I,I,I,I,I,I,I,I,I] 1 zQ zQ zQ zQ zQ zQ zQ ?st (Rel.drew _ _) ?walk
 case st=>exact ql (by simp only[List.forall_mem_cons];exact⟨qgf _ _ _,Ux _ _,Ux _ _,λ_ h=>by cases h⟩)
 case walk=>
  intro K hK;dsimp only[qA];refine zC1 ?_;refine qH (outDT w1.heap.size S.bs S.ws) zA0 zA0 (λW hW _=>?_) (λp=>?_)
  ·refine Qh ?_ ((HD.out W (Ext.trans x1 hW)).mono λe w' h=>?_)
   ·go_simp
   have hW:Ext w1 W:=hW;obtain⟨b,c,g,rfl,h1,hB⟩:=h;exact⟨(b,c,g),rfl,h1.keep hW.size (zM _) (λ_ _ _=>rfl),hB⟩
  obtain⟨bb,cc,gg⟩:=p;refine zC1 ?_;refine qH (qaH w1.heap.size S.now) zA0 zA0 (λW hW _=>?_) (λp=>?_)
  ·refine Qh ?_ ((HN.out W (Ext.trans x1 hW)).mono λe w' h=>?_)
   ·go_simp
   have hW:Ext w1 W:=hW;obtain⟨u,rfl,hu,hB⟩:=h;obtain⟨A,c,rfl,_,_⟩:=qM hu;exact⟨(A,c),rfl,QM hu hW.size,hB⟩
  obtain⟨B3,d3⟩:=p;refine zC1 ?_;refine qH (qaH w1.heap.size S.last) zA0 zA0 (λW hW _=>?_) (λp=>?_)
  ·refine Qh ?_ ((HL.out W (Ext.trans x1 hW)).mono λe w' h=>?_)
   ·go_simp
   have hW:Ext w1 W:=hW;obtain⟨u,rfl,hu,hB⟩:=h;obtain⟨A,c,rfl,_,_⟩:=qM hu;exact⟨(A,c),rfl,QM hu hW.size,hB⟩
  obtain⟨B4,d4⟩:=p;refine zC1 ?_;refine qF (hK _ _ λW hW hF=>?_);have hD:vD w1 S.bs S.ws bb cc gg W:=(hF 2).1;have hN:W.ownsRow w1 5 1 (s B3 S.now.length d3) S.now.length (S.now.map bv):=(hF 5).1;have hL:W.ownsRow w1 5 1 (s B4 S.last.length d4) S.last.length (S.last.map bv):=(hF 8).1;have hW:Ext w1 W:=hW;clear hF hK g1;refine zB5 ?_;have qW:=qb q1 hW;have kW:=qa qW;have fW:=qd qW;have hz:w.heap.size+1<w1:=(zG.1 q1).1;have P5:∀wx:J,wx=KC W (w.heap.size+1) 0 [s (E ⟨bb,0,y⟩) S.bs.length S.bs.length,s (E ⟨cc,0,y⟩) S.ws.length (S.ws.length+1),s B3 S.now.length d3,s B4 S.last.length d4] ->
    wx.heap[w.heap.size+1]?=E (F #[s (E ⟨bb,0,y⟩) S.bs.length S.bs.length,s (E ⟨cc,0,y⟩) S.ws.length (S.ws.length+1),s B3 S.now.length d3,s B4 S.last.length d4] 28 (0,0))/\Below w.heap.size w wx /\
     zm w.heap.size S (Qp (E ⟨bb,0,y⟩) S.bs.length S.bs.length (E ⟨cc,0,y⟩) S.ws.length (S.ws.length+1) B3 S.now.length d3 B4 S.last.length d4) wx:=λwx e=>by
   have hk:∀b,w1.heap.size<=b->b<W.heap.size->wx.heap[b]?=W.heap[b]?:=λb h1 _=>by rw[e];exact Ja zO _ _ _
   have hs:W.heap.size<=wx:=by rw[e,JK];exact zM _
   refine⟨by rw[e];refine(vA _ _ _ _ qW).trans ?_;simp[TK],by rw[e];exact jZ (Nat.le_succ _) _ _ _ (Ext.trans x1 hW),bb,cc,gg,B3,d3,B4,d4,rfl,hD.keep zO hs hk,QM (jb hN hk) zO,QM (jb hL hk) zO⟩
  replace P5:=zH P5;clear hD hN hL qW hW;go_wp2;refine Qt ?_;go_wp2_with fail;have P5:=P5.out;generalize hw5:O (O (O (O W _ _) _ _) _ _) _ _=w5;obtain⟨r5,x5,h5⟩:=P5 w5 hw5.symm;clear P5 hw5;have k5:=qa r5;exact bodyPost_ret (v:=Qp (E ⟨bb,0,y⟩) S.bs.length S.bs.length (E ⟨cc,0,y⟩) S.ws.length (S.ws.length+1) B3 S.now.length d3 B4 S.last.length d4) (by simp[results,results157,go_sem,k5]) rfl ⟨_,rfl,h5,x5⟩
set_option maxRecDepth 100000 in
theorem Ko(b:Nat)(A1:OA)(n1 c1:Nat)(A2:OA)(n2 c2:Nat)(A3:OA)(n3 c3:Nat)(A4:OA)(n4 c4:Nat)(S:Sto)(hS:Gm S)(w:J)(hr:w.heap[b]?=E (F #[s A1 n1 c1,s A2 n2 c2,s A3 n3 c3,s A4 n4 c4] 223))(h:Qi w w (s A1 n1 c1) (s A2 n2 c2) (s A3 n3 c3) (s A4 n4 c4) S):Calls prog 122 #[.pointer b] w (zv (zm w S) w):=by
 have HT:=zH (λW (hW:Ext w W)=>qfl A1 n1 c1 A2 n2 c2 A3 n3 c3 A4 n4 c4 S hS W (h.ext hW));clear h hS;have k0:=qa hr;have zb:b<w:=(zG.1 hr).1;go_enter func122,ntmps122;go_wp2_with fail;generalize hw1:Q _ _=w1;have x1:Ext w w1:=hw1▸zN _ _;have q1:w1.heap[w.heap.size]?=E (F #[s y 0 0,s y 0 0,s y 0 0,s y 0 0] 28):=hw1▸zI _ _ _ zA3;clear hw1 k0;refine(HT.out w1 x1).mono ?_;rintro e w2 ⟨u,rfl,hT,hB⟩;have hB:Ext w1 w2:=hB;have q2:=qb q1 hB;have kq:=qa q2;have fq:=qd q2;have z1:w.heap.size<w1:=(zG.1 q1).1;obtain⟨BB,WW,g,B3,d3,B4,d4,rfl,hD,hN,hL⟩:=hT;have P5:∀wx:J,wx=KC w2 w.heap.size 0 [s (E ⟨BB,0,y⟩) S.bs.length S.bs.length,s (E ⟨WW,0,y⟩) S.ws.length (S.ws.length+1),s B3 S.now.length d3,s B4 S.last.length d4] ->
   wx.heap[w.heap.size]?=E (F #[s (E ⟨BB,0,y⟩) S.bs.length S.bs.length,s (E ⟨WW,0,y⟩) S.ws.length (S.ws.length+1),s B3 S.now.length d3,s B4 S.last.length d4] 28 (0,0))/\Below w.heap.size w wx /\
    zm w.heap.size S (Qp (E ⟨BB,0,y⟩) S.bs.length S.bs.length (E ⟨WW,0,y⟩) S.ws.length (S.ws.length+1) B3 S.now.length d3 B4 S.last.length d4) wx:=λwx e=>by
  have hk:∀b,w1.heap.size<=b->b<w2.heap.size->wx.heap[b]?=w2.heap[b]?:=λb h1 _=>by rw[e];exact Ja zO _ _ _
  have hs:w2.heap.size<=wx:=by rw[e,JK];exact zM _
  refine⟨by rw[e];refine(vA _ _ _ _ q2).trans ?_;simp[TK],by rw[e];exact jZ (zM _) _ _ _ (x1.trans hB),BB,WW,g,B3,d3,B4,d4,rfl,hD.keep zO hs hk,QM (jb hN hk) zO,QM (jb hL hk) zO⟩
 replace P5:=zH P5;clear hD hN hL q2 hB q1;go_wp2_with fail;have P5:=P5.out;generalize hw5:O (O (O (O w2 _ _) _ _) _ _) _ _=w5;obtain⟨r5,x5,h5⟩:=P5 w5 hw5.symm;clear P5 hw5;have k5:=qa r5;exact bodyPost_ret (v:=Qp (E ⟨BB,0,y⟩) S.bs.length S.bs.length (E ⟨WW,0,y⟩) S.ws.length (S.ws.length+1) B3 S.now.length d3 B4 S.last.length d4) (by simp[results,results122,go_sem,k5]) rfl ⟨_,rfl,h5,x5⟩
theorem qcb{k:Nat}(h:w.ownsRow lo 5 1 (s g n c) n (l.map bv))(hk:k<n)(x:UInt8):(w.setCell (g,k) (bv x)).ownsRow lo 5 1 (s g n c) n ((l.set k x).map bv):=by
 obtain⟨h1,h2⟩:=h;rcases h2 with⟨e,_⟩|⟨g',cap,cur,e,hg,hr,hc,hm,hs,ht⟩
 cases e;cases e;have hk2:k<cur.size:=zO;refine⟨by simpa using h1,.inr ⟨g,c,_,rfl,hg,qj hr k _,hc,hm,by simpa using hs,?_⟩⟩;apply List.ext_getElem?;intro i;rw[List.map_set,<-ht,List.getElem?_take,List.getElem?_set,List.getElem?_take];simp only[Nat.mul_one,Array.getElem?_toList,Array.getElem?_setIfInBounds,List.length_take,Array.length_toList];by_cases hi:i<n;rw[if_pos hi,if_pos hi];by_cases e:k=i;subst e;rw[if_pos rfl,if_pos rfl,if_pos hk2,if_pos zO];rw[if_neg e,if_neg e];rw[if_neg hi,if_neg hi,if_neg zO]
theorem qiq{lo g n c b k:Nat}(h:w.ownsRow lo 5 1 (s g n c) n (l.map bv))(hg:g≠b):(w.setCell (b,k) v).ownsRow lo 5 1 (s g n c) n (l.map bv):=by obtain⟨h1,h2⟩:=h;refine⟨h1,h2.imp id λ⟨g',cap,cur,e,h3,h4,h5⟩=>?_⟩;cases e;exact⟨g,c,cur,rfl,h3,(zJ _ _ _ _ hg).trans h4,h5⟩
theorem ZT(h:w.ownsRow lo 5 1 (s g n c) n (l.map bv)):(∀k,k<n->w.cell? ⟨g,k,y⟩=E (U .u8 ((l[k]?.getD 0).toNat:Int)))/\(∀k,w.frozen? ⟨g,k,y⟩=false)/\lo<=g/\g<w:=by
 have h1:=h.1;obtain⟨h0,h2⟩:=h;rcases h2 with⟨e,_⟩|⟨g',cap,cur,e,hg,hr,hc,hm,hs,ht⟩
 cases e;cases e;refine⟨λk hk=>?_,qd hr,hg,(zG.1 hr).1⟩;have hl:l.length=n:=by simpa using h1
 have hkl:k<l.length:=zO;have e2:(l.map bv)[k]?=E (bv l[k]):=by rw[List.getElem?_map,zL hkl];rfl
 rw[<-ht,List.getElem?_take,if_pos zO]at e2;have e3:cur[k]?=cur.toList[k]?:=zA3;rw[qa hr,e3,e2,zL hkl];rfl
set_option maxRecDepth 100000 in
theorem qdf(A1 n1 c1 A2 n2 c2 A3 n3 c3 A4 n4 c4)(S:Sto)(hl:S.now.length<1073741824)(w:J)(h:Qi w w (s A1 n1 c1) (s A2 n2 c2) (s A3 n3 c3) (s A4 n4 c4) S):Calls prog 109 #[Qp A1 n1 c1 A2 n2 c2 A3 n3 c3 A4 n4 c4] w (zv (λu W=>∃b A3' c3',u=.pointer (E ⟨b,0,y⟩)/\w.heap.size<=b/\W.heap[b]?=E (F #[s A1 n1 c1,s A2 n2 n2,s A3' n3 c3',s A4 n4 c4] 223)/\W.ownsRow w 5 1 (s A3' n3 c3') n3 (S.now.map bv)) w):=by
 have hn3:Hid (n3=S.now.length):=zH h.now.at_.1;obtain⟨-,h2a,h2b,-⟩:=h.ws.at_;have HC:=zH (λW (hW:Ext w W)=>Kn (s A3 n3 c3) S.now hl W (h.ext hW).now);clear h;go_enter func109,ntmps109;go_wp2_with fail;generalize hw1:(Q _ _)=w1;have x1:Ext w w1:=hw1▸zN _ _;have r1:w1.heap[w.heap.size]?=E (F #[s A1 n1 c1,s A2 n2 c2,s A3 n3 c3,s A4 n4 c4] 28):=hw1▸zI _ _ _ rfl;clear hw1;refine(HC.out _ x1).mono ?_;rintro e w2 ⟨u,rfl,hu,hB⟩;have x2:=x1.trans hB;have r2:=qb r1 hB;have s1:w.heap.size<w1:=(zG.1 r1).1;obtain⟨A3',c3',rfl,_,_⟩:=qM hu;have k2:=qa r2;have f2:=qd r2;clear hB r1 HC;rw[<-hn3.out]at hu⊢;go_wp2_with fail;have hu3:=jb (w':=w2.setCell ⟨w.heap.size,2,y⟩ (s A3' n3 c3')) hu (λb hb _=>zJ _ _ _ _ (by show b≠w.heap.size;omega));generalize hw3:(O _ _ _)=w3 at*;have x3:Ext w w3:=hw3▸Below.setCell x2 (p:=⟨w.heap.size,2,y⟩) (zM _) _;have r3:w3.heap[w.heap.size]?=E (F #[s A1 n1 c1,s A2 n2 c2,s A3' n3 c3',s A4 n4 c4] 28):=hw3▸qj r2 2 _;clear hw3 k2 f2 r2 x2 hu;refine(qhr A2 n2 c2 h2a h2b _).mono ?_;rintro e w4 ⟨rfl,hB⟩;have x4:=x3.trans hB;have r4:=qb r3 hB;have hu4:=zX hu3 hB;have k4:=qa r4;have f4:=qd r4;have s4:w.heap.size<w4:=(zG.1 r4).1;clear hB r3 x3 hu3;replace hu4:=zH hu4;go_wp2;have hu5:=jb (w':=w4.setCell ⟨w.heap.size,1,y⟩ (s A2 n2 n2)) hu4.out (λb hb _=>zJ _ _ _ _ (by show b≠w.heap.size;omega));have bf:Below w w ((w4.setCell (w,1) (s A2 n2 n2)).alloc (F #[s A1 n1 c1,s A2 n2 n2,s A3' n3 c3',s A4 n4 c4] 223)):=by have x4':Below w w w4:=x4;exact(by repeat' (first|with_reducible exact Below.refl _ _|with_reducible assumption|with_reducible apply Below.drew|with_reducible apply qX|with_reducible refine Below.alloc ?_ ?_ _|with_reducible refine Below.setCell ?_ ?_ _|(simp;done)|(simp;omega)|omega))
 go_ret;exact⟨_,rfl,⟨w4.heap.size,A3',c3',rfl,zO,zI _ _ _ zA3,QM (zX hu5 (zN _ _)) zO⟩,bf⟩
def qO(t:List UInt8)(a:Nat):Nat:=(t[a]?.getD 0).toNat
def XM(t:List UInt8)(a:Int)(end_:Nat):Int:=if Qu t=I then(if 8<=a/\a<256 then(if qO t a.toNat=end_ then 70 else 0)else 2)else 8
def QB(t:List UInt8)(a by_:Nat):List UInt8:=t.set a (UInt8.ofNat (qO t a+by_))
theorem qkv(t:List UInt8)(a by_:Nat):(QB t a by_).length=t.length:=by unfold QB;simp
theorem qgC(n:Nat):IntKind.u8.wrap (n:Int)=(((UInt8.ofNat n).toNat:Nat):Int):=by simp[IntKind.wrap,IntKind.bits,IntKind.signed]
def qgQ(t:List UInt8)(a:Int)(by_ end_ lo:Nat)(u:M)(W:J):Prop:=
 (XM t a end_≠0/\u=Jx #[s y 0 0,U Z (XM t a end_)]) \/
  (XM t a end_=0/\∃A c,u=Jx #[s A 256 c,U Z 0]/\W.ownsRow lo 5 1 (s A 256 c) 256 ((QB t a.toNat by_).map bv))
theorem qmO{t:List UInt8}(h:Qu t=false)(a:Int)(e:Nat):XM t a e=8:=by unfold XM;rw[h];simp
theorem qmP{t:List UInt8}(h:Qu t=I){a:Int}(ha:¬(8<=a/\a<256))(e:Nat):XM t a e=2:=by unfold XM;rw[if_pos h,if_neg ha]
theorem qiM{t:List UInt8}(h:Qu t=I){a:Nat}(ha:8<=a)(ha2:a<256)(e:Nat):XM t (a:Int) e=if qO t a=e then 70 else 0:=by unfold XM;rw[if_pos h,if_pos zO,Int.toNat_natCast]
theorem TL(h8:a.tmps[8]?.getD undef=u)(h9:a.tmps[9]?.getD undef=v)(hd:a.defers=[])(hR:R (.returned (Jx #[u,v])) W):bodyPost prog Tryz.f191 R .ret a W:=by refine bodyPost_ret (v:=Jx #[u,v]) ?_ hd hR;simp[results,results191,go_sem,h8,h9]
set_option maxRecDepth 100000 in
theorem turn_any(A n c)(t:List UInt8)(a:Int)(by_ end_:Nat)(w:J)(h:Bys w w (s A n c) t):Calls prog 191 #[s A n c,a,U .u8 (by_:Int),U .u8 (end_:Int)] w (zv (qgQ t a by_ end_ w) w):=by
 have HC:=zH (UQ (s A n c) t w h);have hby:=zH h;go_enter func191,ntmps191;go_wp2_with fail;refine HC.out.mono ?_;clear HC;rintro e w2 ⟨rfl,hB⟩;have x2:Ext w w2:=hB;clear hB h;rcases hS:Qu t with _|_
 ·have hq:=zH (qmO hS a end_);replace hS:=zH hS;rw[vl rfl];go_wp2_with fail;exact TL rfl rfl rfl ⟨_,rfl,.inl ⟨by rw[hq.out];decide,by rw[hq.out];rfl⟩,x2⟩
 rw[vQ rfl];by_cases hr:8<=a/\a<256
 ·obtain⟨m,hma⟩:=Int.eq_ofNat_of_zero_le (show 0<=a by omega);subst hma;have hm8:8<=m:=zO;have hHG:m<256:=zO;have hq:=qiM hS hm8 hHG end_;have hl:t.length=256:=by unfold Qu at hS;simp at hS;exact hS.1
  obtain⟨A',c',e,hc,hmx,hrd⟩:=hby.out;obtain⟨b,o,rfl,hb,hAG⟩:=hrd.2 zO;simp only[Value.slice.injEq]at e;obtain⟨rfl,e2,rfl⟩:=e;obtain rfl:n=256:=zO;clear e2;have hcn:w.cell? (b,o+m)=E (U .u8 (qO t m:Int)):=hAG m _ (by rw[List.getElem?_map,zL zO];unfold qO;rw[zL zO];rfl);have hcn2:=Ext.cell x2 hcn;have d1:decide ((m:Int)<8)=false:=decide_eq_false zO;have d2:decide ((m:Int)≥256)=false:=decide_eq_false zO;have HCL:=zH (Gg (s (E ⟨b,o,y⟩) 256 c) t zO w2 ((hby.out.below x2).more x2.size));have hT:Hid (QB t m by_=t.set m (UInt8.ofNat (qO t m+by_))):=rfl;clear hr hAG hrd hcn hc hmx;generalize hnv:qO t m=nv at*;replace⟨hnv,hl⟩:=zH2 hnv hl;by_cases h0:nv=end_
  ·have hz1:((nv:Int)==(end_:Int))=I:=by rw[beq_iff_eq];omega
   have hz2:decide (nv=end_)=I:=decide_eq_true h0;rw[if_pos h0]at hq;replace⟨hq,h0,hS⟩:=zH3 hq h0 hS;go_wp2_with fail;exact TL rfl rfl rfl ⟨_,rfl,.inl ⟨by rw[hq.out];decide,by rw[hq.out];rfl⟩,x2⟩
  have hz1:((nv:Int)==(end_:Int))=false:=by rw[beq_eq_false_iff_ne];omega
  have hz2:decide (nv=end_)=false:=decide_eq_false h0;rw[if_neg h0]at hq;replace⟨hq,h0,hS⟩:=zH3 hq h0 hS;go_wp2_with fail;refine HCL.out.mono ?_;clear HCL;rintro e w3 ⟨u,rfl,hu,hB⟩;rw[hl.out]at hu;obtain⟨Au,cu,rfl,hcu,-⟩:=qM hu;have x3:Ext w w3:=x2.trans hB;have hAu:∃g,Au=E ⟨g,0,y⟩:=by
   rcases hu.2 with⟨e,h0⟩|⟨g,cap,cur,e,_⟩
   cases e;cases e;exact⟨g,rfl⟩
  obtain⟨g,rfl⟩:=hAu;obtain⟨hk,hf,hlg,hgz⟩:=ZT hu;have hkm:=hk m hHG;rw[show(t[m]?.getD 0).toNat=nv from hnv.out]at hkm;have hfm:=hf m;have hOP:=zH (qcb hu hHG (UInt8.ofNat (nv+by_)));have hwv:IntKind.u8.wrap ((nv:Int)+(by_:Int))=(((UInt8.ofNat (nv+by_)).toNat:Nat):Int):=by rw[<-qgC];rfl
  clear hk hf hu hB hcn2;go_wp2_with fail;exact TL rfl rfl rfl ⟨_,rfl,.inr ⟨hq.out,_,_,rfl,QM (by rw[Int.toNat_natCast,hT.out];exact hOP.out) x2.size⟩,Below.setCell x3 (p:=⟨g,m,y⟩) (by have:=x2.size;simp;omega) _⟩
 have hq:=zH (qmP hS hr end_);replace hS:=zH hS;by_cases h8:a<8
 ·have d1:decide (a<8)=I:=decide_eq_true h8;replace hr:=zH hr;go_wp2_with fail;exact TL rfl rfl rfl ⟨_,rfl,.inl ⟨by rw[hq.out];decide,by rw[hq.out];rfl⟩,x2⟩
 have d1:decide (a<8)=false:=decide_eq_false h8;have d2:decide (a≥256)=I:=decide_eq_true zO;replace hr:=zH hr;go_wp2_with fail;exact TL rfl rfl rfl ⟨_,rfl,.inl ⟨by rw[hq.out];decide,by rw[hq.out];rfl⟩,x2⟩
theorem qdV(h:Jl bs ws=I):bs.length<1000000/\ws.length<1000000/\(∀l∈bs,l.length<1000000)/\∀p∈ws,p.2.length<1000000:=by unfold Jl headD at h;simp only[Bool.and_eq_true,decide_eq_true_eq,List.all_eq_true]at h;obtain⟨⟨h1,h2⟩,h3,h4⟩:=h;refine⟨zO,zO,λl hl=>?_,λp hp=>?_⟩;have:=h3 l hl;unfold qaX at this;have:=of_decide_eq_true this;omega;have:=h4 p hp;unfold wrOk at this;have:=of_decide_eq_true this;omega
set_option maxRecDepth 100000 in
theorem up_any(A n c)(t:List UInt8)(a:Int)(w:J)(h:Bys w w (s A n c) t):Calls prog 156 #[s A n c,a] w (zv (qgQ t a 1 255 w) w):=by
 have HT:=zH (turn_any A n c t a 1 255 w h);clear h;go_enter func156,ntmps156;go_wp2_with fail;refine HT.out.mono ?_;clear HT;rintro e w2 ⟨u,rfl,hu,hB⟩;rcases hu with⟨h1,rfl⟩|⟨h1,A',c',rfl,hAD⟩
 ·have hB':Ext w w2:=hB;have hQ:=zH (⟨_,rfl,.inl ⟨h1,rfl⟩,hB'⟩:zv (qgQ t a 1 255 w.heap.size) w (.returned (Jx #[s y 0 0,U Z (XM t a 255)])) w2);generalize XM t a 255=er at*;replace h1:=zH h1;go_wp2_with fail;refine bodyPost_ret (v:=Jx #[s y 0 0,U Z er]) ?_ rfl hQ.out;simp[results,results156,go_sem]
 have hB':Ext w w2:=hB;have hQ:=zH (⟨_,rfl,.inr ⟨h1,A',c',rfl,hAD⟩,hB'⟩:zv (qgQ t a 1 255 w.heap.size) w (.returned (Jx #[s A' 256 c',U Z 0])) w2);replace h1:=zH h1;go_wp2_with fail;refine bodyPost_ret (v:=Jx #[s A' 256 c',U Z 0]) ?_ rfl hQ.out;simp[results,results156,go_sem]
abbrev qu(S:Sto)(t:List UInt8):Sto:=⟨S.bs,S.ws,t,S.last⟩
abbrev sto0:M:=Qp y 0 0 y 0 0 y 0 0 y 0 0
def zY(S:Sto)(a:Int):Int:=if Js S a≠0 then Js S a else if Zy S a.toNat=255 then 70 else 0
def StoQ(e:Int)(S:Sto)(lo:Nat)(u:M)(W:J):Prop:=(e≠0/\u=Jx #[sto0,e])\/(e=0/\∃v,u=Jx #[v,U Z 0]/\zm lo S v W)
theorem QY(h:qk S=I):Gm S:=by
 obtain⟨h1,h2,h3,h4⟩:=qZ h;have hd:Jl S.bs S.ws=I:=by unfold qk at h;simp at h;exact h.1
 obtain⟨d1,d2,d3,d4⟩:=qdV hd;exact⟨d1,d2,d3,d4,zO,zO⟩
theorem qkr(h:qk S=I):Qu S.now=I:=by unfold qk at h;simp at h;exact h.2.1
theorem qaO{b:Nat}(h4:a.tmps[4]?.getD undef=.pointer b)(h5:a.tmps[5]?.getD undef=v)(hd:a.defers=[])(hAH:W.heap[b]?=E (F #[x0,x1,x2,x3] 28))(hR:R (.returned (Jx #[.agg #[x0,x1,x2,x3],v])) W):bodyPost prog Tryz.f103 R .ret a W:=by refine bodyPost_ret (v:=Jx #[.agg #[x0,x1,x2,x3],v]) ?_ hd hR;have k:=qa hAH;simp[results,results103,go_sem,h4,h5,k]
set_option maxRecDepth 100000 in
theorem qdt(A1 n1 c1 A2 n2 c2 A3 n3 c3 A4 n4 c4)(S:Sto)(a:Int)(w:J)(h:Qi w w (s A1 n1 c1) (s A2 n2 c2) (s A3 n3 c3) (s A4 n4 c4) S):Calls prog 103 #[Qp A1 n1 c1 A2 n2 c2 A3 n3 c3 A4 n4 c4,a] w (zv (StoQ (zY S a) (qu S (QB S.now a.toNat 1)) w) w):=by
 have HA:=zH (λW (hx:Ext w W)=>qdm A1 n1 c1 A2 n2 c2 A3 n3 c3 A4 n4 c4 S a W (h.ext hx));have HU:=zH (λW (hx:Ext w W)=>up_any A3 n3 c3 S.now a W (h.ext hx).now);replace h:=zH h;go_enter func103,ntmps103;go_wp2_with fail;generalize hw1:(Q (Q w _) _)=w1;have x1:Ext w w1:=by rw[<-hw1];exact(zN _ _).trans (zN _ _)
 have rs1:w1.heap[w.heap.size]?=E (F #[s A1 n1 c1,s A2 n2 c2,s A3 n3 c3,s A4 n4 c4] 28):=by rw[<-hw1];exact(zK _ _ _ zA3).trans (zI _ _ _ rfl)
 have ro1:w1.heap[w.heap.size+1]?=E (F #[s y 0 0,s y 0 0,s y 0 0,s y 0 0] 28):=hw1▸zI _ _ _ zA3;clear hw1;refine(HA.out w1 x1).mono ?_;clear HA;rintro e w2 ⟨rfl,hB⟩;have x2:Ext w w2:=x1.trans hB;have rs2:=qb rs1 hB;have ro2:=qb ro1 hB;clear hB rs1 ro1 x1;by_cases h0:Js S a=0
 ·obtain⟨hS,m,rfl,hm8,hHG,hnz⟩:=KQ h0;have hE:zY S (m:Int)=if Zy S m=255 then 70 else 0:=by unfold zY;rw[if_neg (by simpa using h0),Int.toNat_natCast]
  have hT:XM S.now (m:Int) 255=if Zy S m=255 then 70 else 0:=qiM (qkr hS) hm8 hHG 255
  have hsh:=zH (QY hS);rw[h0];have ks2:=qa rs2;replace⟨h0,hS⟩:=zH2 h0 hS;rw[<-hE]at hT;replace hE:=zH hE;clear hnz;go_wp2_with fail;refine(HU.out w2 x2).mono ?_;clear HU;rintro e w3 ⟨u,rfl,hu,hB⟩;have x3:Ext w w3:=x2.trans hB;have rs3:=qb rs2 hB;have ro3:=qb ro2 hB;have ks3:=qa rs3;have z23:=hB.size;clear hB rs2 ro2 ks2;unfold qgQ at hu;rw[hT]at hu;rcases hu with⟨h1,rfl⟩|⟨h1,A',c',rfl,hAD⟩
  ·generalize zY S (m:Int)=er at*;have he:(er != 0)=I:=by rw[bne_iff_ne];exact h1
   have hq:=zH h1;have ko3:=qa ro3;have fo3:=qd ro3;clear h1 hT;go_wp2_with fail;exact qaO (b:=w.heap.size+1) rfl rfl rfl (KO ro3 _ _ _ _) ⟨_,rfl,.inl ⟨hq.out,rfl⟩,Zv x3 zO _ _ _ _⟩
  have hby:=Bys.of_own hAD;have HTW:=qfl A1 n1 c1 A2 n2 c2 A' 256 c' A4 n4 c4 (qu S (QB S.now m 1)) ⟨hsh.out.bs,hsh.out.ws,hsh.out.be,hsh.out.we,by rw[qkv];exact hsh.out.now,hsh.out.last⟩ w3 ⟨(h.out.ext x3).bs,(h.out.ext x3).ws,hby,(h.out.ext x3).last⟩;replace⟨hby,hAD,h1⟩:=zH3 hby hAD h1;go_wp2_with fail;refine HTW.mono ?_;clear HTW;rintro e w4 ⟨u,rfl,hu,hB⟩;have x4:Ext w w4:=x3.trans hB;have ro4:=qb ro3 hB;have ko4:=qa ro4;have fo4:=qd ro4;have zo3:w.heap.size+1<w3:=(zG.1 ro3).1;obtain⟨BB,WW,g,B3,d3,B4,d4,rfl,hD,hN,hL⟩:=hu;have hK:=λ(x0 x1 x2 x3':M)=>zm.keep (lo':=w.heap.size) (⟨BB,WW,g,B3,d3,B4,d4,rfl,hD,hN,hL⟩:zm w3.heap.size (qu S (QB S.now m 1)) _ w4) (W2:=(((w4.setCell ⟨w.heap.size+1,0,y⟩ x0).setCell ⟨w.heap.size+1,1,y⟩ x1).setCell ⟨w.heap.size+1,2,y⟩ x2).setCell ⟨w.heap.size+1,3,y⟩ x3') zO zA3 (λb hb _=>(zJ _ _ _ _ zA2).trans ((zJ _ _ _ _ zA2).trans ((zJ _ _ _ _ zA2).trans (zJ _ _ _ _ zA2))));replace hK:=zH hK;clear hB hD hN hL ks3 rs3 ro3;go_wp2_with fail;exact qaO (b:=w.heap.size+1) rfl rfl rfl (KO ro4 _ _ _ _) ⟨_,rfl,.inr ⟨h1.out,_,rfl,hK.out _ _ _ _⟩,Zv x4 zO _ _ _ _⟩
 have hE:zY S a=Js S a:=by unfold zY;rw[if_pos h0]
 generalize Js S a=er at*;have he:(er != 0)=I:=by rw[bne_iff_ne];exact h0
 have hq:=zH h0;have ko2:=qa ro2;have fo2:=qd ro2;replace hE:=zH hE;clear h0;go_wp2_with fail;exact qaO (b:=w.heap.size+1) rfl rfl rfl (KO ro2 _ _ _ _) ⟨_,rfl,.inl ⟨by rw[hE.out];exact hq.out,by rw[hE.out];rfl⟩,Zv x2 zO _ _ _ _⟩
def Vi(t:List UInt8)(a:Nat):List UInt8:=t.set a (UInt8.ofNat (qO t a-1))
theorem qly(h:0<n)(h2:n<256):IntKind.u8.wrap ((n:Int)-1)=(((UInt8.ofNat (n-1)).toNat:Nat):Int):=by rw[<-qgC];congr 1;omega
theorem qco(h4:a.tmps[4]?.getD undef=v)(hd:a.defers=[])(hR:R v W):bodyPost prog Tryz.f141 R .ret a W:=by refine bodyPost_ret (v:=v) ?_ hd hR;simp[results,results141,go_sem,h4]
theorem qeC{b:Nat}(h4:a.tmps[4]?.getD undef=.pointer b)(h5:a.tmps[5]?.getD undef=v)(hd:a.defers=[])(hAH:W.heap[b]?=E (F #[x0,x1,x2,x3] 28))(hR:R (.returned (Jx #[.agg #[x0,x1,x2,x3],v])) W):bodyPost prog Tryz.f139 R .ret a W:=by refine bodyPost_ret (v:=Jx #[.agg #[x0,x1,x2,x3],v]) ?_ hd hR;have k:=qa hAH;simp[results,results139,go_sem,h4,h5,k]
theorem zm.set4{lo lo' b:Nat}(h:zm lo S u W)(hl:lo'<=lo)(hb:b<lo)(x0 x1 x2 x3:M):zm lo' S u ((((W.setCell b x0).setCell (b,1) x1).setCell (b,2) x2).setCell (b,3) x3):=
 h.keep hl zA3 λb' hb' _=>(zJ _ _ _ _ zA2).trans ((zJ _ _ _ _ zA2).trans ((zJ _ _ _ _ zA2).trans (zJ _ _ _ _ zA2)))
def qY(X:Nat->Prop)(w C:J):Prop:=∀(q:Addr)(v:M),¬X q.block->w.cell? q=v->C.cell? q=v
section
variable {X Y:Nat->Prop} {w W C:World}
theorem qY.refl(X:Nat->Prop)(w:J):qY X w w:=λ_ _ _ h=>h
theorem qY.of_ext(h:Ext w C):qY X w C:=λ_ _ _ hv=>Ext.cell h hv
theorem qY.trans(h:qY X w W)(h':qY Y W C)(hY:∀k,k<w.heap.size->Y k->X k):qY X w C:=λq v hX hv=>h' q v (λhy=>hX (hY _ (World.block_lt_of_cell? w q hv) hy)) (h q v hX hv)
theorem qY.mono(h:qY X w C)(hX:∀k,k<w.heap.size->X k->Y k):qY Y w C:=λq v hY hv=>h q v (λhx=>hY (hX _ (World.block_lt_of_cell? w q hv) hx)) hv
theorem qY.set{p:Addr}(hp:X p.block)(u:M):qY X w (w.setCell p u):=λq v hX hv=>(World.cell?_setCell_other w p q u (λe=>by subst e;exact hX hp)).trans hv
theorem qY.of_heap(h:∀k,k<w.heap.size->¬X k->C.heap[k]?=w.heap[k]?):qY X w C:=λq v hX hv=>(World.cell?_of_block (h _ (World.block_lt_of_cell? w q hv) hX)).trans hv
theorem Rd.keepX{B size n:Nat}{A:OA}{xs:List M}(h:Rd w B size A n xs)(hs:0<size)(hk:qY X w C)(hX:∀k,k<B->¬X k):Rd C C size A n xs:=⟨h.1,λhn=>by
 obtain⟨b,off,e,hb,hc⟩:=h.2 hn;refine⟨b,off,e,?_,λj u hu=>hk _ _ (hX b hb) (hc j u hu)⟩;have hl:0<xs.length:=by rw[h.1];exact Nat.mul_pos hn hs
 exact World.block_lt_of_cell? C ⟨b,off+0,y⟩ (hk _ _ (hX b hb) (hc 0 _ (zL hl)))⟩
theorem Bys.keepX{B:Nat}{v:M}{l:List UInt8}(h:Bys w B v l)(hk:qY X w C)(hX:∀k,k<B->¬X k):Bys C C v l:=by obtain⟨A,c,e,hc,hm,hr⟩:=h;exact⟨A,c,e,hc,hm,hr.keepX zO hk hX⟩
end
def Kk(X:Nat->Prop)(w:J)(v:M)(xs:List It):Prop:=∀C,qY X w C->Its C C.heap.size v xs
theorem Kk.now{xs:List It}(h:Kk X w v xs):Its w w v xs:=h w (qY.refl _ _)
theorem Kk.trans{xs:List It}(h:Kk X w v xs)(hk:qY X w W)(hY:∀k,k<w.heap.size->Y k->X k):Kk Y W v xs:=λC hC=>h C (hk.trans hC hY)
theorem Zh{base size n:Nat}(h:w.ownsRow base e size v n xs)(hk:∀q,v.ownBlock=E q->w'.heap[q]?=w.heap[q]?):w'.ownsRow base e size v n xs:=
 ⟨h.1,h.2.imp id λ⟨g,cap,cur,e1,h3,h4,h5⟩=>⟨g,cap,cur,e1,h3,(hk g (by rw[e1];rfl)).trans h4,h5⟩⟩
theorem ZH{base size n:Nat}(h:w.ownsRow base e size v n xs)(hq:v.ownBlock=q):∃cur,w.heap[q]?=E (F cur e):=by
 rcases h.2 with⟨e1,_⟩|⟨g,cap,cur,e1,_,hg,_⟩
 rw[e1]at hq;cases hq;rw[e1]at hq;cases hq;exact⟨cur,hg⟩
def B3(b g:Nat)(k:Option Nat)(q:Nat):Prop:=q=b\/q=g\/k=q
def UJ(B:Nat)(D:Nat->Prop)(q:Nat):Prop:=B<=q/\¬D q
theorem UJ.keep(h:∀q,q<w.heap.size->q<B\/D q->W.heap[q]?=w.heap[q]?):qY (UJ B D) w W:=qY.of_heap λq hq hX=>h q hq (by
 by_cases hB:q<B;exact .inl hB
 ·right;by_cases hD:D q;exact hD
  ·exact absurd ⟨zO,hD⟩ hX)
def Yj(n:Nat)(D D':Nat->Prop):Prop:=∀q,D' q->D q\/n<=q
theorem Yj.refl(n:Nat)(D:Nat->Prop):Yj n D D:=λ_ h=>.inl h
theorem Yj.mono(h:Yj n D D')(hn:n'<=n):Yj n' D D':=λq hq=>(h q hq).imp id λh=>zO
theorem Yj.trans{D'':Nat->Prop}(h:Yj n D D')(h':Yj n' D' D'')(hn:n<=n'):Yj n D D'':=λq hq=>(h' q hq).elim (λh1=>h q h1) λh1=>.inr zO
structure Ql(lo b g:Nat)(k:Option Nat)(w W:J):Prop where
 below:Below lo w W
 rows:∀q,q<w.heap.size->¬B3 b g k q->W.heap[q]?=w.heap[q]?
def Zq(n:Nat)(k k':Option Nat):Prop:=∀q,k'=E q->k=E q\/n<=q
theorem Zq.refl(n:Nat)(k:Option Nat):Zq n k k:=λ_ h=>.inl h
theorem Zq.mono(h:Zq n k k')(hn:n'<=n):Zq n' k k':=λq hq=>(h q hq).imp id λh=>zO
theorem Zq.trans{k'':Option Nat}(h:Zq n k k')(h':Zq n' k' k'')(hn:n<=n'):Zq n k k'':=λq hq=>(h' q hq).elim (λh1=>h q h1) λh1=>.inr zO
section
variable {lo b g:Nat} {k k':Option Nat} {w W C:World}
theorem Ql.refl(lo b g:Nat)(k:Option Nat)(w:J):Ql lo b g k w w:=⟨Below.refl _ _,λ_ _ _=>rfl⟩
theorem Ql.of_ext(h:Ext w W)(hl:lo<=w):Ql lo b g k w W:=⟨Below.mono h hl,λq hq _=>Below.block h q hq⟩
theorem Ql.trans(h:Ql lo b g k w W)(h':Ql lo b g k' W C)(hk:Zq w k k'):Ql lo b g k w C:=⟨h.below.trans h'.below,λq hq hn=>(h'.rows q (by have:=h.below.size;omega) λhx=>hn (by
 rcases hx with e|e|e
 exact .inl e;exact .inr (.inl e)
 ·exact(hk q e).elim (λh=>.inr (.inr h)) λh=>zO)).trans (h.rows q hq hn)⟩
theorem Ql.keepX(h:Ql lo b g k w W):qY (B3 b g k) w W:=qY.of_heap λq hq hX=>h.rows q hq hX
theorem Ql.own(h:Ql lo b g k w W){base n size:Nat}{e:TypeId}{v:M}{xs:List M}(ho:w.ownsRow base e size v n xs)(hn:∀q,v.ownBlock=E q->¬B3 b g k q):W.ownsRow base e size v n xs:=Zh ho λq hq=>h.rows q (zl ho q hq).2 (hn q hq)
theorem Ql.row(h:Ql lo b g k w W){q:Nat}{o:Obj}(hr:w.heap[q]?=o)(hn:¬B3 b g k q):W.heap[q]?=o:=(h.rows q (zG.1 hr).1 hn).trans hr
theorem B3.of_new(hk:Zq w k k'):∀q,q<w.heap.size->B3 b g k' q->B3 b g k q:=λq hq hx=>by
 rcases hx with e|e|e
 exact .inl e;exact .inr (.inl e);exact(hk q e).elim (λh=>.inr (.inr h)) λh=>zO
end
def WsB(D:Nat->Prop)(B lo b g:Nat)(k:Option Nat)(v:M)(ws:List (Int×List UInt8))(w:J):Prop:=∃ps:List ((Int×List UInt8)×M),ps.map (·.1)=ws /\
 ((k=y/\ws.length<=maxLen/\∃A,v=s A ws.length ws.length/\Rd w B 2 A ws.length (jN ps))\/(∃q,k=E q/\v.ownBlock=E q/\w.ownsRow lo 142 2 v ws.length (jN ps))) /\
 ∀p∈ps,(∃A c,p.2=s A p.1.2.length c)/\∀C,qY (UJ B D) w C->Bys C C.heap.size p.2 p.1.2
theorem WsB.ext{B lo b g:Nat}(h:WsB D B lo b g k v ws w)(hx:Ext w W)(hB:B<=w):WsB D B lo b g k v ws W:=by
 obtain⟨ps,e,hw,hp⟩:=h;refine⟨ps,e,?_,λp hpm=>⟨(hp p hpm).1,λC hC=>(hp p hpm).2 C ((qY.of_ext hx).trans hC λ_ _ h=>h)⟩⟩;rcases hw with⟨e,hm,A,e2,hr⟩|⟨q,e,e2,how⟩
 exact .inl ⟨e,hm,A,e2,hr.below (Below.mono hx hB)⟩;exact .inr ⟨q,e,e2,Zh how λq' hq'=>Below.block hx q' (zl how q' hq').2⟩
theorem WsB.mono{B lo b g:Nat}(h:WsB D B lo b g k v ws w)(hD:∀q,D q->D' q):WsB D' B lo b g k v ws w:=by obtain⟨ps,e,hw,hp⟩:=h;exact⟨ps,e,hw,λp hpm=>⟨(hp p hpm).1,λC hC=>(hp p hpm).2 C (hC.mono λq _ hx=>⟨hx.1,λh=>hx.2 (hD q h)⟩)⟩⟩
structure Bch(D:Nat->Prop)(B lo b g:Nat)(k:Option Nat)(S:Sto)(w:J):Prop where
 lob:lo<=b
 blo:B<=lo
 dB:∀q,D q->lo<=q/\q<w.heap.size/\¬B3 b g k q
 ex:∃A1 n1 c1 v2 c3 A4 c4,w.heap[b]?=E (F #[s A1 n1 c1,v2,s g 256 c3,s A4 256 c4] 223)/\w.ownsRow lo 5 1 (s g 256 c3) 256 (S.now.map bv) /\
  WsB D B lo b g k v2 S.ws w/\Bls w B (s A1 n1 c1) S.bs/\Bys w B (s A4 256 c4) S.last
section
variable {D:Nat->Prop} {B lo b g:Nat} {k:Option Nat} {S:Sto} {w W:World}
theorem Bch.size(h:Bch D B lo b g k S w):lo<=b/\b<w/\lo<=g/\g<w/\g≠b/\lo<=w/\∀q,k=E q->lo<=q/\q<w.heap.size/\q≠b/\q≠g:=by
 have h1:=h.lob;obtain⟨A1,n1,c1,v2,c3,A4,c4,hr,ho,⟨ps,_,hw,_⟩,_,_⟩:=h.ex;have hb:=(zG.1 hr).1;obtain⟨_,_,hlg,hzg⟩:=ZT ho;obtain⟨cur,hg⟩:=ZH ho (q:=g) rfl;refine⟨h1,hb,hlg,hzg,qP hg hr zA1,zO,λq hq=>?_⟩;rcases hw with⟨e,_⟩|⟨q',e,e2,how⟩
 rw[e]at hq;cases hq;rw[e]at hq;cases hq;obtain⟨cur2,hq2⟩:=ZH how e2;have:=zl how _ e2;exact⟨this.1,this.2,qP hq2 hr zA1,qP hq2 hg zA1⟩
theorem Bch.b3(h:Bch D B lo b g k S w):∀q,B3 b g k q->lo<=q/\q<w.heap.size:=λq hq=>by
 obtain⟨h1,h2,h3,h4,_,_,h5⟩:=h.size;rcases hq with rfl|rfl|e
 exact⟨h1,h2⟩;exact⟨h3,h4⟩;exact⟨(h5 q e).1,(h5 q e).2.1⟩
theorem Bch.off(h:Bch D B lo b g k S w):∀q,q<B->¬B3 b g k q:=λq hq hx=>by have h1:=h.blo;have:=(h.b3 q hx).1;omega
theorem Bch.offk(h:Bch D B lo b g k S w):∀q,B3 b g k q->¬(q<B\/D q):=λq hx hq=>hq.elim (λh1=>h.off q h1 hx) λh1=>(h.dB q h1).2.2 hx
theorem Bch.keep(h:Bch D B lo b g k S w)(hB:Below B w W)(hr:∀q,B3 b g k q\/D q->W.heap[q]?=w.heap[q]?):Bch D B lo b g k S W:=by
 have hs:=hB.size;have hx:qY (UJ B D) w W:=UJ.keep λq hq h1=>h1.elim (λh1=>hB.block q h1) λh1=>hr q (.inr h1);obtain⟨A1,n1,c1,v2,c3,A4,c4,hro,ho,⟨ps,e,hw,hp⟩,h1,h4⟩:=h.ex;refine⟨h.lob,h.blo,λq hq=>⟨(h.dB q hq).1,by have:=(h.dB q hq).2.1;omega,(h.dB q hq).2.2⟩,A1,n1,c1,v2,c3,A4,c4,(hr _ (.inl (.inl rfl))).trans hro,Zh ho (λq hq=>by cases hq;exact hr _ (.inl (.inr (.inl rfl)))),⟨ps,e,?_,λp hpm=>⟨(hp p hpm).1,λC hC=>(hp p hpm).2 C (hx.trans hC λ_ _ h=>h)⟩⟩,h1.below hB,h4.below hB⟩;rcases hw with⟨e,hm,A,e2,hr⟩|⟨q,e,e2,how⟩
 exact .inl ⟨e,hm,A,e2,hr.below hB⟩;exact .inr ⟨q,e,e2,Zh how λq' hq'=>by rw[e2]at hq';cases hq';exact hr q (.inl (.inr (.inr e)))⟩
theorem Bch.ext(h:Bch D B lo b g k S w)(hx:Ext w W):Bch D B lo b g k S W:=by have h6:=h.size.2.2.2.2.2.1;have h1:=h.blo;exact h.keep (Below.mono hx zO) λq hq=>Below.block hx q (hq.elim (λh2=>(h.b3 q h2).2) λh2=>(h.dB q h2).2.1)
theorem Bch.keepX{X:Nat->Prop}(h:Bch D B lo b g k S w)(hB:Below B w W)(hr:∀q,q<w.heap.size->¬X q->W.heap[q]?=w.heap[q]?)(hX:∀q,B3 b g k q\/D q->¬X q):Bch D B lo b g k S W:=
 h.keep hB λq hq=>hr q (hq.elim (λh2=>(h.b3 q h2).2) λh2=>(h.dB q h2).2.1) (hX q hq)
theorem Bch.mono{D':Nat->Prop}(h:Bch D B lo b g k S w)(hD:∀q,D q->D' q)(hB:∀q,D' q->lo<=q/\q<w.heap.size/\¬B3 b g k q):Bch D' B lo b g k S w:=by obtain⟨A1,n1,c1,v2,c3,A4,c4,hro,ho,hw,h1,h4⟩:=h.ex;exact⟨h.lob,h.blo,hB,A1,n1,c1,v2,c3,A4,c4,hro,ho,hw.mono hD,h1,h4⟩
theorem Bch.count(h:Bch D B lo b g k S w){a:Nat}(ha:a<256)(x:UInt8):Bch D B lo b g k (qu S (S.now.set a x)) (w.setCell (g,a) (bv x))/\Ql lo b g k w (w.setCell (g,a) (bv x)):=by
 obtain⟨hlb,_,hlg,_,hgb,_,h5⟩:=h.size;have hbl:=h.blo;have hkd:=h.offk;obtain⟨A1,n1,c1,v2,c3,A4,c4,hr,ho,⟨ps,e,hw,hp⟩,h1,h4⟩:=h.ex;have hK:Ql lo b g k w (w.setCell (g,a) (bv x)):=⟨Below.setCell (Below.refl _ _) (p:=⟨g,a,y⟩) hlg _,λq _ hn=>zJ _ _ _ _ λe=>hn (.inr (.inl e))⟩
 have hX:qY (UJ B D) w (w.setCell (g,a) (bv x)):=UJ.keep λq _ hq=>zJ _ _ _ _ λe=>hkd g (.inr (.inl rfl)) (by have e':q=g:=e;exact e'▸hq);have hB:Below B w (w.setCell (g,a) (bv x)):=Below.setCell (Below.refl _ _) (p:=⟨g,a,y⟩) (by show B<=g;omega) _;refine⟨⟨hlb,hbl,λq hq=>by simpa using h.dB q hq,A1,n1,c1,v2,c3,A4,c4,(zJ _ _ _ _ λe=>hgb e.symm).trans hr,qcb ho ha x,⟨ps,e,?_,λp hpm=>⟨(hp p hpm).1,λC hC=>(hp p hpm).2 C (hX.trans hC λ_ _ h=>h)⟩⟩,h1.below hB,h4.below hB⟩,hK⟩;rcases hw with⟨e,hm,A,e2,hr⟩|⟨q,e,e2,how⟩
 exact .inl ⟨e,hm,A,e2,hr.below hB⟩;exact .inr ⟨q,e,e2,Zh how λq' hq'=>by rw[e2]at hq';cases hq';exact zJ _ _ _ _ (h5 q e).2.2.2⟩
theorem qhj(ps:List ((Int×List UInt8)×M))(p:(Int×List UInt8)×M):jN (ps++[p])=jN ps++[U Z p.1.1,p.2]:=by
 induction ps with
 |nil=>rfl
 |cons a r ih=>simp[jN,ih]
theorem Bch.sto(h:Bch D B lo b g k S w):∃A1 n1 c1 A2 n2 c2 c3 A4 c4,w.heap[b]?=E (F #[s A1 n1 c1,s A2 n2 c2,s g 256 c3,s A4 256 c4] 223)/\Qi w w (s A1 n1 c1) (s A2 n2 c2) (s g 256 c3) (s A4 256 c4) S:=by
 have h6:=h.size.2.2.2.2.2.1;have hbl:=h.blo;obtain⟨A1,n1,c1,v2,c3,A4,c4,hr,ho,⟨ps,e,hw,hp⟩,h1,h4⟩:=h.ex;have hv:∃A2 n2 c2,v2=s A2 n2 c2/\Wrs w w (s A2 n2 c2) S.ws:=by
  rcases hw with⟨_,hm,A,rfl,hrd⟩|⟨q,_,_,how⟩
  exact⟨A,_,_,rfl,ps,e,⟨A,_,rfl,zM _,hm,hrd.more zO⟩,λp hpm=>⟨(hp p hpm).1,(hp p hpm).2 w (qY.refl _ _)⟩⟩;obtain⟨A,c,rfl,hc1,hc2⟩:=qM how;exact⟨A,_,_,rfl,ps,e,⟨A,c,rfl,hc1,hc2,Rd.of_own how⟩,λp hpm=>⟨(hp p hpm).1,(hp p hpm).2 w (qY.refl _ _)⟩⟩
 obtain⟨A2,n2,c2,rfl,hW⟩:=hv;exact⟨A1,n1,c1,A2,n2,c2,c3,A4,c4,hr,h1.more zO,hW,Bys.of_own ho,h4.more zO⟩
end
end Go.Proofs.YtmeadnlmepcmbaaGreat
