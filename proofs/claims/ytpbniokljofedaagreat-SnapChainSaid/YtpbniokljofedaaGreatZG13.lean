/- Texts RTwin, OnOwn, IWrite, Pad, Seal, NWrite, Make0, joined. -/
import Derived.Test.YtpbniokljofedaaGreatZG01
import Derived.Test.YtpbniokljofedaaGreatZG03
import Derived.Test.YtpbniokljofedaaGreatZG05
import Derived.Test.YtpbniokljofedaaGreatZG06
import Derived.Test.YtpbniokljofedaaGreatZG07
import Derived.Test.YtpbniokljofedaaGreatZG11
import Derived.Test.YtpbniokljofedaaGreatZG12
set_option linter.unusedSimpArgs false
set_option linter.unusedVariables false
set_option maxHeartbeats 8000000
open Go.Proofs.Tryz
namespace Go.Proofs.YtpbniokljofedaaGreat
open Go.RowKit
def outDT (lo:Nat) (bs:List (List UInt8)) (ws:List (Int×List UInt8)):Qa:=⟨Nat×Nat×Nat,fun p=>YN (some ⟨p.1,0,none⟩) bs.length bs.length (some ⟨p.2.1,0,none⟩) ws.length (ws.length+1),fun p W=>Jz lo bs ws p.1 p.2.1 p.2.2 W⟩
theorem Yg (lo:Nat) (bs:List (List UInt8)) (ws:List (Int×List UInt8)) (b c g:Nat):(outDT lo bs ws).f (b,c,g)=YN (some ⟨b,0,none⟩) bs.length bs.length (some ⟨c,0,none⟩) ws.length (ws.length+1):=rfl
theorem qdX (lo:Nat) (bs:List (List UInt8)) (ws:List (Int×List UInt8)):∀ p,qJ qj ((outDT lo bs ws).φ p):=fun p W W' he h=>by have he:Ext W W':=he;exact Jz.keep h (zM _) he.size fun b _ hb=>he.block b hb
def Gd (lo:Nat) (l:List UInt8):Qa:=⟨Option Addr×Nat,fun p=>.slice p.1 l.length p.2,fun p W=>W.ownsRow lo 5 1 (.slice p.1 l.length p.2) l.length (l.map bv)⟩
theorem VJ (lo:Nat) (l:List UInt8) (A:Option Addr) (c:Nat):(Gd lo l).f (A,c)=.slice A l.length c:=rfl
theorem XR (lo:Nat) (l:List UInt8):∀ p,qJ qj ((Gd lo l).φ p):=fun p W W' he h=>za h he
theorem ZB {w w':World} {lo:Nat} {e:TypeId} {size:Nat} {v:Value} {n:Nat} {xs:List Value} (h:w.ownsRow lo e size v n xs) (hk:∀ b,lo<=b->b<w.heap.size->w'.heap[b]?=w.heap[b]?):w'.ownsRow lo e size v n xs:=
 ⟨h.1,h.2.imp id fun ⟨g,cap,cur,h1,h2,h3,h4⟩=>⟨g,cap,cur,h1,h2,(hk g h2 (zG.1 h3).1).trans h3,h4⟩⟩
def QP (lo:Nat) (S:Sto) (u:Value) (W:World):Prop:=∃ BB WW g A3 c3 A4 c4,u=Qd (some ⟨BB,0,none⟩) S.bs.length S.bs.length (some ⟨WW,0,none⟩) S.ws.length (S.ws.length+1) A3 S.now.length c3 A4 S.last.length c4/\Jz lo S.bs S.ws BB WW g W /\
 W.ownsRow lo 5 1 (.slice A3 S.now.length c3) S.now.length (S.now.map bv)/\W.ownsRow lo 5 1 (.slice A4 S.last.length c4) S.last.length (S.last.map bv)
theorem QP.keep {lo lo':Nat} {S:Sto} {u:Value} {W W2:World} (h:QP lo S u W) (hl:lo'<=lo) (hs:W.heap.size<=W2.heap.size) (hk:∀ b,lo<=b->b<W.heap.size->W2.heap[b]?=W.heap[b]?):QP lo' S u W2:=by obtain⟨BB,WW,g,A3,c3,A4,c4,e,h1,h2,h3⟩:=h;exact⟨BB,WW,g,A3,c3,A4,c4,e,h1.keep hl hs hk,QG (ZB h2 hk) hl,QG (ZB h3 hk) hl⟩
theorem qdf {w w':World} {lo:Nat} {e:TypeId} {size:Nat} {v:Value} {n:Nat} {xs:List Value} (h:w.ownsRow lo e size v n xs) {b1:Nat} {c1:Array Value} {t1:TypeId} (h1:w.heap[b1]?=some (.cells c1 t1 (0,0))) (ht:t1≠e) (hk:∀ b,lo<=b->b<w.heap.size->b≠b1->w'.heap[b]?=w.heap[b]?):w'.ownsRow lo e size v n xs:=
 ⟨h.1,h.2.imp id fun ⟨g,cap,cur,g1,g2,h3,h4⟩=>⟨g,cap,cur,g1,g2,(hk g g2 (zG.1 h3).1 (qR h3 h1 fun e=>ht e.symm)).trans h3,h4⟩⟩
theorem QP.keepT {lo lo':Nat} {S:Sto} {u:Value} {W W2:World} (h:QP lo S u W) (hl:lo'<=lo) (hs:W.heap.size<=W2.heap.size) {b1:Nat} {c1:Array Value} {t1:TypeId} (hr:W.heap[b1]?=some (.cells c1 t1 (0,0))) (ht:t1≠26/\t1≠130/\t1≠5) (hk:∀ b,lo<=b->b<W.heap.size->b≠b1->W2.heap[b]?=W.heap[b]?):QP lo' S u W2:=by obtain⟨BB,WW,g,A3,c3,A4,c4,e,h1,h2,h3⟩:=h;exact⟨BB,WW,g,A3,c3,A4,c4,e,h1.keepT hl hs hr ht hk,QG (qdf h2 hr ht.2.2 hk) hl,QG (qdf h3 hr ht.2.2 hk) hl⟩
set_option maxRecDepth 100000 in
theorem qdn (A1:Option Addr) (n1 c1:Nat) (A2:Option Addr) (n2 c2:Nat) (A3:Option Addr) (n3 c3:Nat) (A4:Option Addr) (n4 c4:Nat) (S:Sto) (hS:Gu S) (w:World) (h:qU w w.heap.size (.slice A1 n1 c1) (.slice A2 n2 c2) (.slice A3 n3 c3) (.slice A4 n4 c4) S):Calls prog 152 #[Qd A1 n1 c1 A2 n2 c2 A3 n3 c3 A4 n4 c4] w (Za (QP w.heap.size S) w):=by
 have HD:=zH (fun W (hW:Ext w W)=>qjF A1 n1 c1 A2 n2 c2 S.bs S.ws hS.bs hS.ws hS.be hS.we W (h.ext hW).bs (h.ext hW).ws);have HN:=zH (fun W (hW:Ext w W)=>VA _ S.now (by have:=hS.now;omega) W (h.ext hW).now);have HL:=zH (fun W (hW:Ext w W)=>VA _ S.last (by have:=hS.last;omega) W (h.ext hW).last);clear h hS;go_enter func152,ntmps152;go_wp2_with fail;generalize aA:(World.alloc (World.alloc _ _) _)=w1;have x1:Ext w w1:=by rw[<-aA];exact(zN _ _).trans (zN _ _)
 have r1:w1.heap[w.heap.size]?=some (.cells #[.slice A1 n1 c1,.slice A2 n2 c2,.slice A3 n3 c3,.slice A4 n4 c4] 28 (0,0)):=by rw[<-aA];exact(zK _ _ _ zA2).trans (zI _ _ _ rfl)
 have q1:w1.heap[w.heap.size+1]?=some (.cells #[.slice none 0 0,.slice none 0 0,.slice none 0 0,.slice none 0 0] 28 (0,0)):=by rw[<-aA];exact zI _ _ _ zA2
 clear aA;have g1:∀ W,qj.r w1 W->∀ i,W.cell? ⟨w.heap.size,i,none⟩=#[.slice A1 n1 c1,.slice A2 n2 c2,.slice A3 n3 c3,.slice A4 n4 c4][i]?:=fun W h=>qa (qb r1 h);refine qp zQ ?_;refine qQ (w:=w1) qj (qH [(2,outDT w1.heap.size S.bs S.ws),(5,Gd w1.heap.size S.now),(8,Gd w1.heap.size S.last)])
  [true,true,true,true,true,true,true,true,true,true] 1 zQ zQ zQ zQ zQ zQ zQ ?st (Rel.drew _ _) ?walk
 case st=>exact qk (by simp only[List.forall_mem_cons];exact⟨qdX _ _ _,XR _ _,XR _ _,fun _ h=>by cases h⟩)
 case walk =>
  intro K hK;dsimp only[qt];repeat ((first|(refine qd ?_ zA0 zA0 (fun W hW _=>⟨W,?_,Rel.refl _ W⟩) ?_;rotate_left;(go_simp<;>with_reducible rfl))|(refine qh zA0 ?_));try simp only[Act.put,ql,qg,qc,qf,Yg,VJ,zA,zB,zC])
  refine qw (outDT w1.heap.size S.bs S.ws) zA0 zA0 (fun W hW _=>?_) (fun p=>?_)
  ·refine Qi ?_ ((HD.out W (Ext.trans x1 hW)).mono fun e w' h=>?_)
   ·go_simp
   have hW:Ext w1 W:=hW;obtain⟨b,c,g,rfl,h1,hB⟩:=h;exact⟨(b,c,g),rfl,h1.keep hW.size (zM _) (fun _ _ _=>rfl),hB⟩
  obtain⟨bb,cc,gg⟩:=p;simp only[Act.put,qg,qc,qf,Yg,VJ,zA,zB,zC];repeat ((first|(refine qd ?_ zA0 zA0 (fun W hW _=>⟨W,?_,Rel.refl _ W⟩) ?_;rotate_left;(go_simp<;>with_reducible rfl))|(refine qh zA0 ?_));try simp only[Act.put,ql,qg,qc,qf,Yg,VJ,zA,zB,zC])
  refine qw (Gd w1.heap.size S.now) zA0 zA0 (fun W hW _=>?_) (fun p=>?_)
  ·refine Qi ?_ ((HN.out W (Ext.trans x1 hW)).mono fun e w' h=>?_)
   ·go_simp
   have hW:Ext w1 W:=hW;obtain⟨u,rfl,hu,hB⟩:=h;obtain⟨A,c,rfl,_,_⟩:=qz hu;exact⟨(A,c),rfl,QG hu hW.size,hB⟩
  obtain⟨B3,d3⟩:=p;simp only[Act.put,qg,qc,qf,Yg,VJ,zA,zB,zC];repeat ((first|(refine qd ?_ zA0 zA0 (fun W hW _=>⟨W,?_,Rel.refl _ W⟩) ?_;rotate_left;(go_simp<;>with_reducible rfl))|(refine qh zA0 ?_));try simp only[Act.put,ql,qg,qc,qf,Yg,VJ,zA,zB,zC])
  refine qw (Gd w1.heap.size S.last) zA0 zA0 (fun W hW _=>?_) (fun p=>?_)
  ·refine Qi ?_ ((HL.out W (Ext.trans x1 hW)).mono fun e w' h=>?_)
   ·go_simp
   have hW:Ext w1 W:=hW;obtain⟨u,rfl,hu,hB⟩:=h;obtain⟨A,c,rfl,_,_⟩:=qz hu;exact⟨(A,c),rfl,QG hu hW.size,hB⟩
  obtain⟨B4,d4⟩:=p;simp only[Act.put,qg,qc,qf,Yg,VJ,zA,zB,zC];repeat ((first|(refine qd ?_ zA0 zA0 (fun W hW _=>⟨W,?_,Rel.refl _ W⟩) ?_;rotate_left;(go_simp<;>with_reducible rfl))|(refine qh zA0 ?_));try simp only[Act.put,ql,qg,qc,qf,Yg,VJ,zA,zB,zC])
  refine qv (hK _ _ fun W hW hF=>?_);have hD:Jz w1.heap.size S.bs S.ws bb cc gg W:=(hF 2).1;have hN:W.ownsRow w1.heap.size 5 1 (.slice B3 S.now.length d3) S.now.length (S.now.map bv):=(hF 5).1;have hL:W.ownsRow w1.heap.size 5 1 (.slice B4 S.last.length d4) S.last.length (S.last.map bv):=(hF 8).1;have hW:Ext w1 W:=hW;clear hF hK g1;refine zB5 ?_;have qW:=qb q1 hW;have kW:=qa qW;have fW:=qe qW;have hz:w.heap.size+1<w1.heap.size:=(zG.1 q1).1;have P5:∀ wx:World,wx=VN W (w.heap.size+1) 0 [.slice (some ⟨bb,0,none⟩) S.bs.length S.bs.length,.slice (some ⟨cc,0,none⟩) S.ws.length (S.ws.length+1),.slice B3 S.now.length d3,.slice B4 S.last.length d4] ->
    wx.heap[w.heap.size+1]?=some (.cells #[.slice (some ⟨bb,0,none⟩) S.bs.length S.bs.length,.slice (some ⟨cc,0,none⟩) S.ws.length (S.ws.length+1),.slice B3 S.now.length d3,.slice B4 S.last.length d4] 28 (0,0))/\Below w.heap.size w wx /\
     QP w.heap.size S (Qd (some ⟨bb,0,none⟩) S.bs.length S.bs.length (some ⟨cc,0,none⟩) S.ws.length (S.ws.length+1) B3 S.now.length d3 B4 S.last.length d4) wx:=fun wx e=>by
   have hk:∀ b,w1.heap.size<=b->b<W.heap.size->wx.heap[b]?=W.heap[b]?:=fun b h1 _=>by rw[e];exact jn zO _ _ _
   have hs:W.heap.size<=wx.heap.size:=by rw[e,jU];exact zM _
   refine⟨by rw[e];refine(Jy _ _ _ _ qW).trans ?_;simp[Xk],by rw[e];exact jm (Nat.le_succ _) _ _ _ (Ext.trans x1 hW),bb,cc,gg,B3,d3,B4,d4,rfl,hD.keep zO hs hk,QG (ZB hN hk) zO,QG (ZB hL hk) zO⟩
  replace P5:=zH P5;clear hD hN hL qW hW;go_wp2;refine Qo ?_;go_wp2_with fail;have P5:=P5.out;generalize aV:World.setCell (World.setCell (World.setCell (World.setCell W _ _) _ _) _ _) _ _=w5;obtain⟨r5,x5,h5⟩:=P5 w5 aV.symm;clear P5 aV;have k5:=qa r5;exact bodyPost_ret (v:=Qd (some ⟨bb,0,none⟩) S.bs.length S.bs.length (some ⟨cc,0,none⟩) S.ws.length (S.ws.length+1) B3 S.now.length d3 B4 S.last.length d4) (by simp[results,results152,go_sem,k5]) rfl ⟨_,rfl,h5,x5⟩
set_option maxRecDepth 100000 in
theorem KJ (b:Nat) (A1:Option Addr) (n1 c1:Nat) (A2:Option Addr) (n2 c2:Nat) (A3:Option Addr) (n3 c3:Nat) (A4:Option Addr) (n4 c4:Nat) (S:Sto) (hS:Gu S) (w:World) (hr:w.heap[b]?=some (.cells #[.slice A1 n1 c1,.slice A2 n2 c2,.slice A3 n3 c3,.slice A4 n4 c4] 191 (0,0))) (h:qU w w.heap.size (.slice A1 n1 c1) (.slice A2 n2 c2) (.slice A3 n3 c3) (.slice A4 n4 c4) S):Calls prog 105 #[.pointer (some ⟨b,0,none⟩)] w (Za (QP w.heap.size S) w):=by
 have HT:=zH (fun W (hW:Ext w W)=>qdn A1 n1 c1 A2 n2 c2 A3 n3 c3 A4 n4 c4 S hS W (h.ext hW));clear h hS;have k0:=qa hr;have zb:b<w.heap.size:=(zG.1 hr).1;go_enter func105,ntmps105;go_wp2_with fail;generalize aA:World.alloc _ _=w1;have x1:Ext w w1:=by rw[<-aA];exact zN _ _
 have q1:w1.heap[w.heap.size]?=some (.cells #[.slice none 0 0,.slice none 0 0,.slice none 0 0,.slice none 0 0] 28 (0,0)):=by rw[<-aA];exact zI _ _ _ zA2
 clear aA k0;refine(HT.out w1 x1).mono ?_;rintro e w2 ⟨u,rfl,hT,hB⟩;have hB:Ext w1 w2:=hB;have q2:=qb q1 hB;have kq:=qa q2;have fq:=qe q2;have z1:w.heap.size<w1.heap.size:=(zG.1 q1).1;obtain⟨BB,WW,g,B3,d3,B4,d4,rfl,hD,hN,hL⟩:=hT;have P5:∀ wx:World,wx=VN w2 w.heap.size 0 [.slice (some ⟨BB,0,none⟩) S.bs.length S.bs.length,.slice (some ⟨WW,0,none⟩) S.ws.length (S.ws.length+1),.slice B3 S.now.length d3,.slice B4 S.last.length d4] ->
   wx.heap[w.heap.size]?=some (.cells #[.slice (some ⟨BB,0,none⟩) S.bs.length S.bs.length,.slice (some ⟨WW,0,none⟩) S.ws.length (S.ws.length+1),.slice B3 S.now.length d3,.slice B4 S.last.length d4] 28 (0,0))/\Below w.heap.size w wx /\
    QP w.heap.size S (Qd (some ⟨BB,0,none⟩) S.bs.length S.bs.length (some ⟨WW,0,none⟩) S.ws.length (S.ws.length+1) B3 S.now.length d3 B4 S.last.length d4) wx:=fun wx e=>by
  have hk:∀ b,w1.heap.size<=b->b<w2.heap.size->wx.heap[b]?=w2.heap[b]?:=fun b h1 _=>by rw[e];exact jn zO _ _ _
  have hs:w2.heap.size<=wx.heap.size:=by rw[e,jU];exact zM _
  refine⟨by rw[e];refine(Jy _ _ _ _ q2).trans ?_;simp[Xk],by rw[e];exact jm (zM _) _ _ _ (x1.trans hB),BB,WW,g,B3,d3,B4,d4,rfl,hD.keep zO hs hk,QG (ZB hN hk) zO,QG (ZB hL hk) zO⟩
 replace P5:=zH P5;clear hD hN hL q2 hB q1;go_wp2_with fail;have P5:=P5.out;generalize aV:World.setCell (World.setCell (World.setCell (World.setCell w2 _ _) _ _) _ _) _ _=w5;obtain⟨r5,x5,h5⟩:=P5 w5 aV.symm;clear P5 aV;have k5:=qa r5;exact bodyPost_ret (v:=Qd (some ⟨BB,0,none⟩) S.bs.length S.bs.length (some ⟨WW,0,none⟩) S.ws.length (S.ws.length+1) B3 S.now.length d3 B4 S.last.length d4) (by simp[results,results105,go_sem,k5]) rfl ⟨_,rfl,h5,x5⟩
theorem qaB {w:World} {lo g n c k:Nat} {l:List UInt8} (h:w.ownsRow lo 5 1 (.slice (some ⟨g,0,none⟩) n c) n (l.map bv)) (hk:k<n) (x:UInt8):(w.setCell ⟨g,k,none⟩ (bv x)).ownsRow lo 5 1 (.slice (some ⟨g,0,none⟩) n c) n ((l.set k x).map bv):=by
 obtain⟨h1,h2⟩:=h;rcases h2 with ⟨e,_⟩|⟨g',cap,cur,e,hg,hr,hc,hm,hs,ht⟩
 ·cases e
 ·cases e;have hk2:k<cur.size:=zO;refine⟨by simpa using h1,.inr ⟨g,c,_,rfl,hg,qi hr k _,hc,hm,by simpa using hs,?_⟩⟩;apply List.ext_getElem?;intro i;rw[List.map_set,<-ht,List.getElem?_take,List.getElem?_set,List.getElem?_take];simp only[Nat.mul_one,Array.getElem?_toList,Array.getElem?_setIfInBounds,List.length_take,Array.length_toList];by_cases hi:i<n
  ·rw[if_pos hi,if_pos hi];by_cases e:k=i
   ·subst e;rw[if_pos rfl,if_pos rfl,if_pos hk2,if_pos zO]
   ·rw[if_neg e,if_neg e]
  ·rw[if_neg hi,if_neg hi,if_neg zO]
theorem qfX {w:World} {lo g n c b k:Nat} {l:List UInt8} {v:Value} (h:w.ownsRow lo 5 1 (.slice (some ⟨g,0,none⟩) n c) n (l.map bv)) (hg:g≠b):(w.setCell ⟨b,k,none⟩ v).ownsRow lo 5 1 (.slice (some ⟨g,0,none⟩) n c) n (l.map bv):=by obtain⟨h1,h2⟩:=h;refine⟨h1,h2.imp id fun ⟨g',cap,cur,e,h3,h4,h5⟩=>?_⟩;cases e;exact⟨g,c,cur,rfl,h3,(zJ _ _ _ _ hg).trans h4,h5⟩
theorem Zu {w:World} {lo g n c:Nat} {l:List UInt8} (h:w.ownsRow lo 5 1 (.slice (some ⟨g,0,none⟩) n c) n (l.map bv)):(∀ k,k<n->w.cell? ⟨g,k,none⟩=some (.int .u8 ((l[k]?.getD 0).toNat:Int)))/\(∀ k,w.frozen? ⟨g,k,none⟩=false)/\lo<=g/\g<w.heap.size:=by
 have h1:=h.1;obtain⟨h0,h2⟩:=h;rcases h2 with ⟨e,_⟩|⟨g',cap,cur,e,hg,hr,hc,hm,hs,ht⟩
 ·cases e
 ·cases e;refine⟨fun k hk=>?_,qe hr,hg,(zG.1 hr).1⟩;have hl:l.length=n:=by simpa using h1
  have hkl:k<l.length:=zO;have e2:(l.map bv)[k]?=some (bv l[k]):=by rw[List.getElem?_map,zL hkl];rfl
  rw[<-ht,List.getElem?_take,if_pos zO] at e2;have e3:cur[k]?=cur.toList[k]?:=zA2;rw[qa hr,e3,e2,zL hkl];rfl
set_option maxRecDepth 100000 in
theorem qdV (A1:Option Addr) (n1 c1:Nat) (A2:Option Addr) (n2 c2:Nat) (A3:Option Addr) (n3 c3:Nat) (A4:Option Addr) (n4 c4:Nat) (S:Sto) (hl:S.now.length<1073741824) (w:World) (h:qU w w.heap.size (.slice A1 n1 c1) (.slice A2 n2 c2) (.slice A3 n3 c3) (.slice A4 n4 c4) S):Calls prog 66 #[Qd A1 n1 c1 A2 n2 c2 A3 n3 c3 A4 n4 c4] w (Za (fun u W=>∃ b A3' c3',u=.pointer (some ⟨b,0,none⟩)/\w.heap.size<=b/\W.heap[b]?=some (.cells #[.slice A1 n1 c1,.slice A2 n2 n2,.slice A3' n3 c3',.slice A4 n4 c4] 191 (0,0))/\W.ownsRow w.heap.size 5 1 (.slice A3' n3 c3') n3 (S.now.map bv)) w):=by
 have hn3:Hid (n3=S.now.length):=zH h.now.at_.1;obtain⟨-,h2a,h2b,-⟩:=h.ws.at_;have HC:=zH (fun W (hW:Ext w W)=>VA (.slice A3 n3 c3) S.now hl W (h.ext hW).now);clear h;go_enter func66,ntmps66;go_wp2_with fail;generalize aA:(World.alloc _ _)=w1;have x1:Ext w w1:=by rw[<-aA];exact zN _ _
 have r1:w1.heap[w.heap.size]?=some (.cells #[.slice A1 n1 c1,.slice A2 n2 c2,.slice A3 n3 c3,.slice A4 n4 c4] 28 (0,0)):=by rw[<-aA];exact zI _ _ _ rfl
 clear aA;refine(HC.out _ x1).mono ?_;rintro e w2 ⟨u,rfl,hu,hB⟩;have x2:=x1.trans hB;have r2:=qb r1 hB;have s1:w.heap.size<w1.heap.size:=(zG.1 r1).1;obtain⟨A3',c3',rfl,_,_⟩:=qz hu;have k2:=qa r2;have f2:=qe r2;clear hB r1 HC;rw[<-hn3.out] at hu ⊢;go_wp2_with fail;have hu3:=ZB (w':=w2.setCell ⟨w.heap.size,2,none⟩ (.slice A3' n3 c3')) hu (fun b hb _=>zJ _ _ _ _ (by show b≠w.heap.size;omega));generalize aO:(World.setCell _ _ _)=w3 at *;have x3:Ext w w3:=by rw[<-aO];exact Below.setCell x2 (p:=⟨w.heap.size,2,none⟩) (zM _) _
 have r3:w3.heap[w.heap.size]?=some (.cells #[.slice A1 n1 c1,.slice A2 n2 c2,.slice A3' n3 c3',.slice A4 n4 c4] 28 (0,0)):=by rw[<-aO];exact qi r2 2 _
 clear aO k2 f2 r2 x2 hu;refine(qfj A2 n2 c2 h2a h2b _).mono ?_;rintro e w4 ⟨rfl,hB⟩;have x4:=x3.trans hB;have r4:=qb r3 hB;have hu4:=za hu3 hB;have k4:=qa r4;have f4:=qe r4;have s4:w.heap.size<w4.heap.size:=(zG.1 r4).1;clear hB r3 x3 hu3;replace hu4:=zH hu4;go_wp2;have hu5:=ZB (w':=w4.setCell ⟨w.heap.size,1,none⟩ (.slice A2 n2 n2)) hu4.out (fun b hb _=>zJ _ _ _ _ (by show b≠w.heap.size;omega));have bf:Below w.heap.size w ((w4.setCell ⟨w.heap.size,1,none⟩ (.slice A2 n2 n2)).alloc (.cells #[.slice A1 n1 c1,.slice A2 n2 n2,.slice A3' n3 c3',.slice A4 n4 c4] 191)):=by have x4':Below w.heap.size w w4:=x4;exact(by repeat' (first|with_reducible exact Below.refl _ _|with_reducible assumption|with_reducible apply Below.drew|with_reducible apply qG|with_reducible refine Below.alloc ?_ ?_ _|with_reducible refine Below.setCell ?_ ?_ _|(simp;done)|(simp;omega)|omega))
 go_ret;exact⟨_,rfl,⟨w4.heap.size,A3',c3',rfl,zO,zI _ _ _ zA2,QG (za hu5 (zN _ _)) zO⟩,bf⟩
set_option maxRecDepth 100000 in
theorem qhv (x:It) (hx:Zm x) (hb:itB x.r x.val.length=true) (A:Option Addr) (c:Nat) (w:World) (h:Bys w w.heap.size (.slice A x.val.length c) x.val):Calls prog 177 #[kJ x.k x.i x.o x.r A x.val.length c] w (Za (IsB0 w.heap.size (12+x.val.length) (Zp x)) w):=by
 have HC:=zH (fun W=>Js x.k x.i x.o x.r A x.val.length c W);rw[hb,show JA true=0 from rfl] at HC;obtain⟨kk,ki,ko,kr,l⟩:=x;obtain⟨⟨hk1,hk2⟩,⟨uM,hi2⟩,⟨ho1,ho2⟩,⟨oH,hr2⟩,hl⟩:=hx;dsimp only at *;clear hb;obtain⟨k,rfl⟩:=Int.eq_ofNat_of_zero_le hk1;obtain⟨i,rfl⟩:=Int.eq_ofNat_of_zero_le uM;obtain⟨o,rfl⟩:=Int.eq_ofNat_of_zero_le ho1;obtain⟨r,rfl⟩:=Int.eq_ofNat_of_zero_le oH;have HB:Hid (Zp ⟨k,i,o,r,l⟩=[[UInt8.ofNat k],qB i 4,qB o 4,qB r 2,[UInt8.ofNat l.length],l].flatten):=by refine zH ?_;simp[Zp]
 have dX:bv (UInt8.ofNat k)=.int .u8 (k:Int):=by simp[bv];omega
 have mF:bv (UInt8.ofNat l.length)=.int .u8 ((l.length:Nat):Int):=by simp[bv];omega
 have HL:Hid ([[UInt8.ofNat k],qB i 4,qB o 4,qB r 2,[UInt8.ofNat l.length],l].flatten.length=12+l.length):=by refine zH ?_;simp[Qy];omega
 have hcv:IntKind.u8.wrap ((l.length:Nat):Int)=((l.length:Nat):Int):=by simp[IntKind.wrap,IntKind.bits,IntKind.signed];omega
 replace dX:=zH dX;replace mF:=zH mF;replace h:=zH h;rw[HB.out];clear HB;generalize hFL:[[UInt8.ofNat k],qB i 4,qB o 4,qB r 2,[UInt8.ofNat l.length],l]=FL at *;go_enter func177,ntmps177;go_wp2_with fail;generalize aA:World.alloc w _=w1;have x1:Ext w w1:=by rw[<-aA];exact zN _ _
 have r1:w1.heap[w.heap.size]?=some (.cells #[.int .u8 k,.int .u32 i,.int .u32 o,.int .i64 r,.slice A l.length c] 68 (0,0)):=by rw[<-aA];exact zI _ _ _ rfl
 clear aA;refine(HC.out w1).mono ?_;rintro e w2 ⟨rfl,hB⟩;have x2:Ext w w2:=Ext.trans x1 hB;have r2:=qb r1 hB;have k2:=qa r2;clear hB r1 x1 HC;go_wp2_with fail;refine(qeq r zO _).mono ?_;rintro e w3 ⟨u,rfl,⟨u2,rfl,A2,c2,rfl,bZ,hf2⟩,hB⟩;have x3:Ext w w3:=Ext.trans x2 hB;have r3:=qb r2 hB;clear hB k2 r2 x2;go_wp2_with fail;have hE:∀ W,Ext w3 W->∀ j,W.cell? ⟨w.heap.size,j,none⟩=#[.int .u8 k,.int .u32 i,.int .u32 o,.int .i64 r,.slice A l.length c][j]?:=fun W h=>qa (qb r3 h);refine QZ (qH [(3,jR w3.heap.size 1 5 #[.int .u8 k]),(7,YB w3.heap.size 4 (qB i 4)),(11,YB w3.heap.size 4 (qB o 4)),(17,jR w3.heap.size 1 5 #[.int .u8 (l.length:Nat)]),(20,Vl w3.heap.size 6 26 (vB FL)),(21,YB w3.heap.size (12+l.length) FL.flatten)]) 22 zQ zQ zQ zD zQ zQ ?st ?walk
 case st=>exact zm (by simp only[List.forall_mem_cons];exact⟨vx _ _ _ _,jQ _ _ _,jQ _ _ _,vx _ _ _ _,VI (vB.stable _),jQ _ _ _,fun _ h=>by cases h⟩)
 case walk =>
  intro K hK;dsimp only[List.take];repeat ((first|(refine qI ?_ zA0 zA0 (fun W hW _=>⟨W,?_,Ext.refl W⟩) ?_;rotate_left;(go_simp<;>with_reducible rfl))|(refine qV zA0 ?_));try simp only[Act.put,ql,qg,qc,qf,qS,Qm,qg,zA,zB,zC])
  refine QA (jR w3.heap.size 1 5 #[.int .u8 k]) zA0 zA0 (fun W hW _=>?_) (fun (p3:Nat)=>?_)
  ·refine KU ?_ hW.size;go_simp
  simp only[Act.put,qg,qc,qf,qS,Qm,qg,zA,zB,zC];repeat ((first|(refine qI ?_ zA0 zA0 (fun W hW _=>⟨W,?_,Ext.refl W⟩) ?_;rotate_left;(go_simp<;>with_reducible rfl))|(refine qV zA0 ?_));try simp only[Act.put,ql,qg,qc,qf,qS,Qm,qg,zA,zB,zC])
  refine QA (YB w3.heap.size 4 (qB i 4)) zA0 zA0 (fun W hW _=>?_) (fun p7=>?_)
  ·refine QT ?_ ((YP i zO W).mono fun e w' h=>?_)
   ·go_simp
   obtain⟨u,rfl,⟨A,c,rfl,h1,h2⟩,h3⟩:=h;exact⟨(A,c),rfl,⟨h1,h2.mono hW.size⟩,h3⟩
  obtain⟨A7,c7⟩:=p7;simp only[Act.put,qg,qc,qf,qS,Qm,qg,zA,zB,zC];repeat ((first|(refine qI ?_ zA0 zA0 (fun W hW _=>⟨W,?_,Ext.refl W⟩) ?_;rotate_left;(go_simp<;>with_reducible rfl))|(refine qV zA0 ?_));try simp only[Act.put,ql,qg,qc,qf,qS,Qm,qg,zA,zB,zC])
  refine QA (YB w3.heap.size 4 (qB o 4)) zA0 zA0 (fun W hW _=>?_) (fun p11=>?_)
  ·refine QT ?_ ((YP o zO W).mono fun e w' h=>?_)
   ·go_simp
   obtain⟨u,rfl,⟨A,c,rfl,h1,h2⟩,h3⟩:=h;exact⟨(A,c),rfl,⟨h1,h2.mono hW.size⟩,h3⟩
  obtain⟨A11,c11⟩:=p11;simp only[Act.put,qg,qc,qf,qS,Qm,qg,zA,zB,zC];repeat ((first|(refine qI ?_ zA0 zA0 (fun W hW _=>⟨W,?_,Ext.refl W⟩) ?_;rotate_left;(go_simp<;>with_reducible rfl))|(refine qV zA0 ?_));try simp only[Act.put,ql,qg,qc,qf,qS,Qm,qg,zA,zB,zC])
  refine QA (jR w3.heap.size 1 5 #[.int .u8 (l.length:Nat)]) zA0 zA0 (fun W hW _=>?_) (fun (p17:Nat)=>?_)
  ·refine KU ?_ hW.size;go_simp
  simp only[Act.put,qg,qc,qf,qS,Qm,qg,zA,zB,zC];repeat ((first|(refine qI ?_ zA0 zA0 (fun W hW _=>⟨W,?_,Ext.refl W⟩) ?_;rotate_left;(go_simp<;>with_reducible rfl))|(refine qV zA0 ?_));try simp only[Act.put,ql,qg,qc,qf,qS,Qm,qg,zA,zB,zC])
  refine QA (Vl w3.heap.size 6 26 (vB FL)) zA0 zA0 (fun W hW hp=>?_) (fun (p20:Nat)=>?_)
  ·obtain⟨f3,_⟩:W.heap[p3]?=some (.cells #[.int .u8 k] 5 (0,0))/\w3.heap.size<=p3:=(hp 3 zD).1;obtain⟨f7,_⟩:Bys W W.heap.size (.slice A7 4 c7) (qB i 4)/\_:=(hp 7 zD).1;obtain⟨f11,_⟩:Bys W W.heap.size (.slice A11 4 c11) (qB o 4)/\_:=(hp 11 zD).1;obtain⟨f17,_⟩:W.heap[p17]?=some (.cells #[.int .u8 (l.length:Nat)] 5 (0,0))/\w3.heap.size<=p17:=(hp 17 zD).1;have hR:vB FL [.slice (some ⟨p3,0,none⟩) 1 1,.slice A7 4 c7,.slice A11 4 c11,.slice A2 2 c2,.slice (some ⟨p17,0,none⟩) 1 1,.slice A l.length c] W:=by
    subst hFL;rw[<-dX.out] at f3;rw[<-mF.out] at f17;refine⟨rfl,fun j v m hv hl=>?_⟩;rcases j with _|_|_|_|_|_|j
    ·cases hv;cases hl;exact Bys.lit (l:=[UInt8.ofNat k]) f3 (by simp[maxLen])
    ·cases hv;cases hl;exact f7
    ·cases hv;cases hl;exact f11
    ·cases hv;cases hl;exact(bZ.below hW).more hW.size
    ·cases hv;cases hl;exact Bys.lit (l:=[UInt8.ofNat l.length]) f17 (by simp[maxLen])
    ·cases hv;cases hl;exact(h.out.below (Ext.trans x3 hW)).more (Ext.trans x3 hW).size
    ·simp at hv
   refine YT (cs:=#[.slice (some ⟨p3,0,none⟩) 1 1,.slice A7 4 c7,.slice A11 4 c11,.slice A2 2 c2,.slice (some ⟨p17,0,none⟩) 1 1,.slice A l.length c]) ?_ hW.size rfl ?_
   ·go_simp
   ·exact vB.stable _ _ _ _ (zN _ _) hR
  simp only[Act.put,qg,qc,qf,qS,Qm,qg,zA,zB,zC];refine QA (YB w3.heap.size (12+l.length) FL.flatten) zA0 zA0 (fun W hW hp=>?_) (fun p21=>?_)
  ·obtain⟨_,cs,dD,aF,hR⟩:=(hp 20 zD).1;have hFn:FL.length=6:=by rw[<-hFL];rfl
   refine QT ?_ ((kF (some ⟨p20,0,none⟩) 6 6 cs.toList FL (by simpa using dD) hFn W (Rd.row aF 6 dD) (fun i v l h1 h2=>hR.2 i v l h1 h2) zO (by rw[HL.out];omega)).mono fun e w' h=>?_)
   ·go_simp
   rw[HL.out] at h;exact Xe h hW.size
  obtain⟨A21,c21⟩:=p21;simp only[Act.put,qg,qc,qf,qS,Qm,qg,zA,zB,zC];repeat ((first|(refine qI ?_ zA0 zA0 (fun W hW _=>⟨W,?_,Ext.refl W⟩) ?_;rotate_left;(go_simp<;>with_reducible rfl))|(refine qV zA0 ?_));try simp only[Act.put,ql,qg,qc,qf,qS,Qm,qg,zA,zB,zC])
  refine Zg (hK _ _ fun W hW hF=>?_);obtain⟨f21,g21⟩:Bys W W.heap.size (.slice A21 (12+l.length) c21) FL.flatten/\Zo w3.heap.size (.slice A21 (12+l.length) c21):=(hF 21).1;clear hF hK hE;have x4:Ext w W:=x3.trans hW;dsimp only[List.drop];go_wp2;refine bodyPost_ret (v:=.tuple #[.slice A21 (12+l.length) c21,.int .i64 0]) (by simp[results,results177,go_sem]) rfl ⟨_,rfl,⟨_,rfl,A21,c21,rfl,f21,g21.mono (by have:=x3.size;omega)⟩,x4⟩
def Kf (n:Nat) (b:List UInt8):List UInt8:=b++List.replicate (n-b.length) 0
theorem Kz {n:Nat} {b:List UInt8} (h:b.length<=n):(Kf n b).length=n:=by simp[Kf];omega
theorem pad_row (n:Nat) (b:List UInt8):List.take 0 (List.map bv (List.replicate n 0)).toArray.toList++List.map bv b++List.drop (0+b.length) (List.map bv (List.replicate n 0)).toArray.toList=(Kf n b).map bv:=by simp[Kf,List.map_replicate,List.drop_replicate]
def Zh (b:List UInt8):List UInt8:=qB (crc (Kf 124 b)) 4++Kf 124 b
theorem vl {b:List UInt8} (h:b.length<=124):(Zh b).length=128:=by unfold Zh;rw[List.length_append,Qy,Kz h]
set_option maxRecDepth 100000 in
theorem seal_any (A:Option Addr) (c:Nat) (b:List UInt8) (hl:b.length<=124) (w:World) (h:Bys w w.heap.size (.slice A b.length c) b):Calls prog 178 #[.slice A b.length c] w (Za (IsB0 w.heap.size 128 (Zh b)) w):=by
 have hmk:∀ w,(Instr.makeSlice 26 (.int .i64 124) (.int .i64 124)).run prog w=.ok (.slice (some ⟨w.heap.size,0,none⟩) 124 124) (w.alloc (.cells ((List.replicate 124 (0:UInt8)).map bv).toArray 5)):=fun _=>zQ;have hsz:(Tryz.prog.info? 5).map (·.size)=some 1:=zQ;have hcr:crc (Kf 124 b)<4294967296:=qgV _;have hd:decide ((b.length:Int)>124)=false:=decide_eq_false zO;replace h:=zH h;go_enter func178,ntmps178;go_wp2_with fail;generalize aA:World.alloc w _=w1;have x1:Ext w w1:=by rw[<-aA];exact zN _ _
 have r1:w1.heap[w.heap.size]?=some (.cells ((List.replicate 124 (0:UInt8)).map bv).toArray 5 (0,0)):=by rw[<-aA];exact zI _ _ _ rfl
 clear aA hmk;have eQ:=Uw (P:=prog) w1 26 26 3 5 w.heap.size 0 124 124 A c b _ _ underlying26 hsz r1 (h.out.below x1) hl zA1;rw[eQ];clear eQ;have r2:=setRow_heap w1 w.heap.size _ (List.take 0 (List.map bv (List.replicate 124 0)).toArray.toList++List.map bv b++List.drop (0+b.length) (List.map bv (List.replicate 124 0)).toArray.toList).toArray _ _ r1;have x2:Below w.heap.size w (w1.setRow w.heap.size (List.take 0 (List.map bv (List.replicate 124 0)).toArray.toList++List.map bv b++List.drop (0+b.length) (List.map bv (List.replicate 124 0)).toArray.toList).toArray):=
  Below.grown x1 (UA _ _ _) x1.size (fun g e=>by cases e;exact zM _)
 generalize bT:w1.setRow w.heap.size (List.take 0 (List.map bv (List.replicate 124 0)).toArray.toList++List.map bv b++List.drop (0+b.length) (List.map bv (List.replicate 124 0)).toArray.toList).toArray=w2 at *;rw[pad_row] at r2;have hp:∀ W,Ext w2 W->Bys W W.heap.size (.slice (some ⟨w.heap.size,0,none⟩) 124 124) (Kf 124 b):=fun W hW=>by
  refine⟨_,124,by rw[Kz hl],Nat.le_of_eq (Kz hl),zA6,by rw[Kz hl];simp[Kz hl],fun _=>⟨w.heap.size,0,rfl,?_,fun j u hu=>?_⟩⟩
  ·have:=(zG.1 (qb r2 hW)).1;omega
  ·rw[Nat.zero_add,qa (qb r2 hW)];simpa using hu
 clear bT r1 x1;have HO:=zH (fun W (hW:Ext w2 W)=>qdr _ (Kf 124 b) W (hp W hW) (by rw[Kz hl];omega));replace hp:=zH hp;replace r2:=zH r2;go_wp2_with fail;refine(HO.out _ (Ext.refl _)).mono ?_;rintro e w3 ⟨rfl,wF⟩;have x3:Ext w2 w3:=wF;clear wF;have HF:=zH (YP (crc (Kf 124 b)) hcr w3);go_wp2_with fail;refine HF.out.mono ?_;rintro e w4 ⟨u4,rfl,⟨A4,c4,rfl,hu4,hf4⟩,bV⟩;have x4:Ext w2 w4:=x3.trans bV;clear HF bV;go_wp2_with fail;generalize aV:World.alloc w4 _=w5;have dP:Ext w4 w5:=by rw[<-aV];exact zN _ _
 have r5:w5.heap[w4.heap.size]?=some (.cells #[.slice A4 4 c4,.slice (some ⟨w.heap.size,0,none⟩) 124 124] 26 (0,0)):=by rw[<-aV];exact zI _ _ _ rfl
 clear aV;have x5:=x4.trans dP;have hfl:[qB (crc (Kf 124 b)) 4,Kf 124 b].flatten=Zh b:=by simp[Zh]
 have HC:=kF (some ⟨w4.heap.size,0,none⟩) 2 2 [.slice A4 4 c4,.slice (some ⟨w.heap.size,0,none⟩) 124 124] [qB (crc (Kf 124 b)) 4,Kf 124 b] rfl rfl w5 ⟨rfl,fun _=>⟨w4.heap.size,0,rfl,(zG.1 r5).1,fun j u hu=>by rw[Nat.zero_add,qa r5];simpa using hu⟩⟩
  (fun i v l hv hl'=>by
   rcases i with _|_|i
   ·cases hv;cases hl';exact(hu4.below dP).more dP.size
   ·cases hv;cases hl';exact hp.out w5 x5
   ·simp at hv) zO (by rw[hfl,vl hl];omega)
 rw[hfl,vl hl] at HC;replace HC:=zH HC;replace hu4:=zH hu4;go_wp2_with fail;refine HC.out.mono ?_;rintro e w6 ⟨u6,rfl,aB,dC⟩;have x6:Below w.heap.size w w6:=x2.trans (Below.mono (Ext.trans x5 dC) x2.size);have HI:=zH ((IsB.of_own aB));go_wp2_with fail;refine bodyPost_ret (v:=.tuple #[u6,.int .i64 0]) (by simp[results,results178,go_sem]) rfl ⟨_,rfl,⟨u6,rfl,?_⟩,x6⟩;obtain⟨A',c',h1,h2,h3⟩:=HI.out;exact⟨A',c',h1,h2,h3.mono (by have:=x2.size;have:=x5.size;omega)⟩
def vq (lvl:Int) (n:Nat) (xs:List It) (k:Nat):List UInt8:=78 :: UInt8.ofNat lvl.toNat :: UInt8.ofNat n :: QS (xs.take k)
theorem qgs (lvl:Int) (n:Nat) {xs:List It} {k:Nat} (hk:k<xs.length):vq lvl n xs (k+1)=vq lvl n xs k++Zp xs[k]:=by unfold vq QS;rw[List.take_succ_eq_append_getElem hk,List.flatMap_append];simp only[List.flatMap_cons,List.flatMap_nil,List.append_nil,List.cons_append]
theorem Yn (lvl:Int) (xs:List It):vq lvl xs.length xs xs.length=Qq lvl xs:=by unfold vq Qq;rw[List.take_length]
theorem Yo (lvl:Int) (n:Nat) {xs:List It} (k:Nat) (h:∀ x∈xs,Zm x) (hl:xs.length<=5):(vq lvl n xs k).length<=123:=by
 have h1:=KY (xs.take k) (fun x hx=>h x (List.mem_of_mem_take hx));have h2:(xs.take k).length<=xs.length:=by rw[List.length_take];omega
 unfold vq;simp only[List.length_cons];omega
theorem jx {lvl:Int} {xs:List It} (h:Qb lvl xs=true):0<=lvl/\lvl<6/\xs.length<=5/\∀ x∈xs,itB x.r x.val.length=true:=by unfold Qb at h;rw[Bool.and_eq_true] at h;have h1:0<=lvl/\lvl<6/\xs.length<=5/\(0<lvl->xs.length≠0):=of_decide_eq_true h.1;refine⟨h1.1,h1.2.1,h1.2.2.1,fun x hx=>?_⟩;obtain⟨i,hi,rfl⟩:=List.getElem_of_mem hx;have h2:=List.all_eq_true.1 h.2 i (List.mem_range.2 hi);unfold GB at h2;rw[zL hi] at h2;simp only[Bool.and_eq_true] at h2;exact h2.1.1
theorem qbo {R:Ending->World->Prop} {a:Act} {W:World} {u v:Value} (h2:a.tmps[2]?.getD undef=u) (h3:a.tmps[3]?.getD undef=v) (hd:a.defers=[]) (hR:R (.returned (.tuple #[u,v])) W):bodyPost prog Tryz.f167 R .ret a W:=by refine bodyPost_ret (v:=.tuple #[u,v]) ?_ hd hR;simp[results,results167,go_sem,h2,h3]
structure NWr (lvl:Int) (xs:List It) (w2:World) (v i:Value) (wr:World):Prop where
 ex:∃ k:Nat,k<=xs.length/\i=.int .i64 (k:Int)/\wr.ownsRow w2.heap.size 5 1 v (vq lvl xs.length xs k).length ((vq lvl xs.length xs k).map bv)/\Ext w2 wr
theorem qhM (lvl:Int) (A:Option Addr) (n c:Nat) (xs:List It) (w:World) (hx:Its w w.heap.size (.slice A n c) xs) (hm:Qb lvl xs=false):Calls prog 167 #[jE lvl A n c] w (Ret (.tuple #[.slice none 0 0,.int .i64 8]) w):=by
 have HC:=zH (fun W (hW:Ext w W)=>VH lvl A n c xs W (hx.ext hW));rw[hm,show JA false=8 from rfl] at HC;clear hx;go_enter func167,ntmps167;go_wp2_with fail;generalize aA:World.alloc w _=w1;have x1:Ext w w1:=by rw[<-aA];exact zN _ _
 clear aA;refine(HC.out w1 x1).mono ?_;rintro e w2 ⟨rfl,hB⟩;have x2:Below w.heap.size w w2:=Ext.trans x1 hB;clear hB;go_wp2;exact qbo rfl rfl rfl ⟨rfl,x2⟩
set_option maxRecDepth 100000 in
theorem qbn (lvl:Int) (A:Option Addr) (n c:Nat) (xs:List It) (w:World) (hx:Its w w.heap.size (.slice A n c) xs) (hm:Qb lvl xs=true) (ho:∀ x∈xs,Zm x):Calls prog 167 #[jE lvl A n c] w (Za (IsB0 w.heap.size 128 (Zh (Qq lvl xs))) w):=by
 have HC:=zH (fun W (hW:Ext w W)=>VH lvl A n c xs W (hx.ext hW));rw[hm,show JA true=0 from rfl] at HC;obtain⟨pR,yh,hl5,hib⟩:=jx hm;obtain⟨hn,lD,fH,hA⟩:=hx.at_;subst hn;obtain⟨L,rfl⟩:=Int.eq_ofNat_of_zero_le pR;have hcv:IntKind.u8.wrap ((xs.length:Nat):Int)=((xs.length:Nat):Int):=by simp[IntKind.wrap,IntKind.bits,IntKind.signed];omega
 have ai:IntKind.u8.wrap (L:Int)=(L:Int):=by simp[IntKind.wrap,IntKind.bits,IntKind.signed];omega
 have dQ:(vq (L:Int) xs.length xs 0).map bv=[.int .u8 78,.int .u8 (L:Int),.int .u8 (xs.length:Nat)]:=by simp[vq,QS,bv];omega
 have hX:=zH hx;have hO:=zH ho;have hI:=zH hib;clear hx ho hib hm;go_enter func167,ntmps167;go_wp2_with fail;generalize aA:World.alloc w _=w1;have x1:Ext w w1:=by rw[<-aA];exact zN _ _
 have r1:w1.heap[w.heap.size]?=some (.cells #[.int .i64 L,.slice A xs.length c] 49 (0,0)):=by rw[<-aA];exact zI _ _ _ rfl
 clear aA;refine(HC.out w1 x1).mono ?_;rintro e w2 ⟨rfl,hB⟩;have x2:Below w.heap.size w w2:=Ext.trans x1 hB;have r2:=qb r1 hB;have k2:=qa r2;clear hB r1 x1 HC;go_upto_region 5 with fail;generalize aO:World.alloc w2 _=w3;have x3:Ext w2 w3:=by rw[<-aO];exact zN _ _
 have o3:w3.ownsRow w2.heap.size 5 1 (.slice (some ⟨w2.heap.size,0,none⟩) 3 3) (vq (L:Int) xs.length xs 0).length ((vq (L:Int) xs.length xs 0).map bv):=by rw[dQ,<-aO];exact World.ownsRow_lit (base:=w2.heap.size) (e:=5) (size:=1) w2 #[.int .u8 78,.int .u8 (L:Int),.int .u8 (xs.length:Nat)] 3 (zM _) zA6 rfl
 have r3:=qb r2 x3;have k3:=qa r3;clear aO k2 dQ;have I0:NWr (L:Int) xs w2 (.slice (some ⟨w2.heap.size,0,none⟩) 3 3) (.int .i64 0) w3:=⟨0,Nat.zero_le _,rfl,o3,x3⟩
 replace I0:=zH I0;clear o3;go_wp2_with fail;clear k3 r3;go_loopw [5,26] (fun v i wr=>NWr (L:Int) xs w2 v i wr) (fun _ i _=>xs.length-(intOf i).toNat)
 case atStart=>exact I0.out
 case round =>
  obtain⟨k,hk,rfl,own,xr⟩:=hrel.ex;clear hrel I0;by_cases hlt:k<xs.length
  ·have aH:=hlt;obtain⟨b,off,rfl,hb⟩:=hA zO;have xw:Ext w wr:=Ext.trans x2 xr;obtain⟨A',c',d0,d1,d2,d3,d4,aQ⟩:=(hX.out.ext xw).item k aH;have hok:=hO.out xs[k] (List.getElem_mem aH);have hib:=hI.out xs[k] (List.getElem_mem aH);have mG:=zH (qgs (L:Int) xs.length aH);have nO:=Yo (L:Int) xs.length k hO.out hl5;have az:xs[k].val.length<=12:=hok.2.2.2.2;have HW:=zH (fun W (hW:Ext wr W)=>qhv xs[k] hok hib A' c' W ((aQ.below hW).more hW.size));generalize xs[k]=x at *;replace own:=zH own;replace nO:=zH nO;clear aQ hok hib;go_wp2_with fail;generalize hw4:World.alloc wr _=w4;have x4:Ext wr w4:=by rw[<-hw4];exact zN _ _
   clear hw4 d0 d1 d2 d3 d4;refine(HW.out w4 x4).mono ?_;rintro e w5 ⟨u,rfl,⟨u5,rfl,A5,c5,rfl,hb5,hf5⟩,hB⟩;have x5:Ext wr w5:=x4.trans hB;have own5:=za own.out x5;clear hB x4 own;obtain⟨i0,hi,ag,aU,aW⟩:=info_parts Tryz.info_u8;obtain⟨A6,c6,e6,hc6,pU,hr6⟩:=hb5;simp only[Value.slice.injEq] at e6;obtain⟨rfl,e7,rfl⟩:=e6;go_wp2_with (at_builtin;refine Qf ?_);refine QC.go (Qw _ rfl (.tmp 35) (.tmp 36) 26 rfl w2.heap.size 5 i0 (.int .u8 0) 1 1 underlying26 hi ag aU aW rfl zD _ _ _ rfl own5 w5.heap.size A5 _ c5 ((Zp x).map bv) rfl hr6 (TG _) (by have:=nO.out;omega) zD (Nat.le_trans xr.size x5.size) ?_);intro v8 w8 lh _ hB8 _;have IR:NWr (L:Int) xs w2 v8 (.int .i64 ((k:Int)+1)) w8:=⟨k+1,aH,rfl,by rw[mG.out,List.map_append,List.length_append];exact lh,Below.trans (Ext.trans xr x5) hB8⟩
   replace IR:=zH IR;clear lh hB8 hi ag aU aW own5;go_wp2_with fail;refine⟨IR.out,?_⟩;simp[intOf];omega
  ·obtain rfl:k=xs.length:=zO;rw[Yn] at own;have nC:(Qq (L:Int) xs).length<=124:=by have:=Yo (L:Int) xs.length xs.length hO.out hl5;rw[Yn] at this;omega
   obtain⟨A6,c6,e6,hc6,pU,hr6⟩:=Bys.of_own own;have aQ:=Bys.of_own own;subst e6;have HS:=zH (seal_any A6 c6 (Qq (L:Int) xs) nC wr aQ);have xw:Below w.heap.size w wr:=Ext.trans x2 xr;clear aQ hr6 own;replace xr:=zH xr;go_wp2_with fail;refine HS.out.mono ?_;rintro e w7 ⟨u,rfl,⟨u7,rfl,hI7⟩,hB⟩;have x7:Below w.heap.size w w7:=xw.trans (Below.mono hB xw.size);have hI8:IsB0 w.heap.size 128 (Zh (Qq (L:Int) xs)) (.tuple #[u7,.int .i64 0]) w7:=by obtain⟨A',c',q1,q2,q3⟩:=hI7;exact⟨u7,rfl,A',c',q1,q2,q3.mono xw.size⟩
   clear hB hI7;replace hI8:=zH hI8;go_wp2_with fail;exact qbo rfl rfl rfl ⟨_,rfl,hI8.out,x7⟩
set_option maxRecDepth 100000 in
theorem qgQ (b lo:Nat) (A1:Option Addr) (n1 c1:Nat) (g c3:Nat) (A4:Option Addr) (c4:Nat) (bs:List (List UInt8)) (now last:List UInt8) (hn:now.length=256) (hl:last.length=256) (hn8:now[8]?=some 0) (hl8:last[8]?=some 0) (w:World) (aP:lo<=b) (hr:w.heap[b]?=some (.cells #[.slice A1 n1 c1,.slice none 0 0,.slice (some ⟨g,0,none⟩) 256 c3,.slice A4 256 c4] 191 (0,0))) (ho:w.ownsRow lo 5 1 (.slice (some ⟨g,0,none⟩) 256 c3) 256 (now.map bv)) (hb:Bls w lo (.slice A1 n1 c1) bs) (ha:Bys w lo (.slice A4 256 c4) last):Calls prog 142 #[.pointer (some ⟨b,0,none⟩),jE 0 none 0 0] w (fun e W=>e=.returned (.tuple #[.int .i64 8,.int .i64 0])/\Below lo w W/\∃ A2 c2,W.heap[b]?=some (.cells #[.slice A1 n1 c1,.slice A2 1 c2,.slice (some ⟨g,0,none⟩) 256 c3,.slice A4 256 c4] 191 (0,0)) /\
   qU W W.heap.size (.slice A1 n1 c1) (.slice A2 1 c2) (.slice (some ⟨g,0,none⟩) 256 c3) (.slice A4 256 c4) ⟨bs,[(8,Zh (Qq 0 []))],now.set 8 1,last⟩):=by
 have oV:=(Zu ho).1 8 zO;rw[hn8] at oV;replace oV:w.cell? ⟨g,8,none⟩=some (.int .u8 0):=oV;obtain⟨_,uJ,yj,hzg⟩:=Zu ho;obtain⟨A,c,e,hac,_,har⟩:=ha;rw[hl] at e hac har;simp only[Value.slice.injEq,true_and] at e;obtain⟨rfl,rfl⟩:=e;obtain⟨b4,o4,rfl,rO,hc4⟩:=har.2 zO;have uP:w.cell? ⟨b4,o4+8,none⟩=some (.int .u8 0):=hc4 8 (bv 0) (by rw[List.getElem?_map,hl8];rfl);have zb:b<w.heap.size:=(zG.1 hr).1;have hW:=zH (fun W=>qbn 0 none 0 0 [] W (Its.nil W W.heap.size) zD (fun x hx=>by cases hx));go_enter func142,ntmps142;go_wp2_with fail;generalize aA:World.alloc _ _=w1;have x1:Ext w w1:=by rw[<-aA];exact zN _ _
 have p1:w1.heap[w.heap.size]?=some (.cells #[.int .i64 0,.slice none 0 0] 49 (0,0)):=by rw[<-aA];exact zI _ _ _ rfl
 clear aA;refine(hW.out w1).mono ?_;rintro e w2 ⟨u,rfl,⟨u,rfl,⟨A0,c0,rfl,hu,hf⟩⟩,hB⟩;have hB:Ext w1 w2:=hB;have x2:Ext w w2:=x1.trans hB;have p2:=qb p1 hB;have r2:=qb hr x2;have o2:=za ho x2;have kp:=qa p2;have kr:=qa r2;have fr:=qe r2;have kn:w2.cell? ⟨g,8,none⟩=some (.int .u8 0):=Ext.cell x2 oV;have z2:=x2.size;have z1:w.heap.size<w1.heap.size:=(zG.1 p1).1;have kl:w2.cell? ⟨b4,o4+8,none⟩=some (.int .u8 0):=Ext.cell x2 uP;clear hB x1 p1 oV uP hc4 hW;go_wp2_with fail;go_loopw [21] (fun i wr=>i=.int .i64 0/\wr=w2) (fun _ _=>0)
 case atStart=>exact⟨rfl,rfl⟩
 case round =>
  obtain⟨rfl,hw⟩:=hrel;replace hw:=hw.symm;subst hw;go_wp2_with fail;go_loopw [4] (fun i W=>i=.int .i64 8/\Ext w2 W) (fun _ _=>0)
  case atStart=>exact⟨rfl,Ext.refl _⟩
  case round =>
   obtain⟨rfl,hE⟩:=hrel;have g1:∀ W,qj.r wr W->∀ i,W.cell? ⟨b,i,none⟩=#[.slice A1 n1 c1,.slice none 0 0,.slice (some ⟨g,0,none⟩) 256 c3,.slice (some ⟨b4,o4,none⟩) 256 c4][i]?:=fun W h=>qa (qb (qb r2 hE) h);have g2:∀ W,qj.r wr W->W.cell? ⟨g,8,none⟩=some (.int .u8 0):=fun W h=>Ext.cell (hE.trans h) kn;have g3:∀ W,qj.r wr W->W.cell? ⟨b4,o4+8,none⟩=some (.int .u8 0):=fun W h=>Ext.cell (hE.trans h) kl;clear kp kr fr kn kl;go_wp2_with fail;refine qp zQ ?_;refine qQ (w:=wr) qj (qH []) [true,true,true,true,true,true,true,true,true,true,true,true,true,true,true,true,true,true,true,true,true,true] 0 zQ zQ zQ zQ zQ zQ zQ ?st (Rel.drew _ _) ?walk
   case st=>exact qk (fun _ h=>by cases h)
   case walk =>
    intro K hK;dsimp only[qt];repeat ((first|(refine qd ?_ zA0 zA0 (fun W hW _=>⟨W,?_,Rel.refl _ W⟩) ?_;rotate_left;(go_simp<;>with_reducible rfl))|(refine qh zA0 ?_));try simp only[Act.put,ql,qg,qc,qf,zp,zA,zB,zC])
    refine qv (hK _ _ fun W hW hF=>?_);have hW:Ext wr W:=hW;have x3:Ext w2 W:=hE.trans hW;clear hF hK g1 g2 g3 hE hW;refine zB5 ?_;have r3:=qb r2 x3;have o3:=za o2 x3;have kr:=qa r3;have fr:=qe r3;obtain⟨i0,hi,ag,aU,aW⟩:=info_parts Tryz.info_write;have z3:=x3.size;have hu3:=(hu.below x3).more x3.size;have xw3:Ext w W:=x2.trans x3;have x2z:=x2.size;clear r2 o2 x2 x3 hu p2;replace o3:=zH o3;replace hu3:=zH hu3;go_wp2;refine Qo ?_;go_wp2_with (at_builtin;refine Qf ?_);refine QC.go (jh _ rfl (.tmp 78) (.tmp 82) 23 rfl W.heap.size 130 i0 (.agg #[.int .i64 0,.slice none 0 0]) 2 32 underlying23 hi ag aU aW rfl zD _ 0 [] rfl (World.ownsRow_nil _ _ _ _) #[.int .i64 8,.slice A0 128 c0] rfl rfl zA7 zO zD (zM _) ?_);intro v4 w4 own4 _ bV _;have bV:Ext W w4:=bV;simp only[Nat.zero_add,List.nil_append] at own4;obtain⟨A2,c2,rfl,hc21,hc22⟩:=qz own4;have r4:=qb r3 bV;have kr4:=qa r4;have fr4:=qe r4;have o4':=za o3.out bV;have z5:=bV.size;have kg:=(Zu o4').1 8 zO;have fg:=(Zu o4').2.1 8;have hlt:=QM own4;have hbg:g≠b:=by
     intro e;subst e;obtain⟨_,h2⟩:=o4';rcases h2 with ⟨e,_⟩|⟨g',cap,cur,e,_,nM,_⟩
     ·cases e
     ·cases e;exact qR nM r4 zD rfl
    have z6:b<w2.heap.size:=by have:=x2z;omega
    replace own4:=zH own4;replace o4':=zH o4';have hf1:=hf.mono (lo':=w.heap.size) zO;clear r3 kr fr hc21 hc22;go_wp2_with fail;have st:∀ q,q≠b->q≠g->((w4.setCell ⟨b,1,none⟩ (.slice A2 1 c2)).setCell ⟨g,8,none⟩ (.int .u8 1)).heap[q]?=w4.heap[q]?:=fun q h1 h2=>(zJ _ _ _ _ h2).trans (zJ _ _ _ _ h1);have xw4:Ext w w4:=xw3.trans bV;have hB:Below lo w ((w4.setCell ⟨b,1,none⟩ (.slice A2 1 c2)).setCell ⟨g,8,none⟩ (.int .u8 1)):=Below.setCell (Below.setCell (Below.mono xw4 zO) (p:=⟨b,1,none⟩) aP _) (p:=⟨g,8,none⟩) yj _;have rf:=qi r4 1 (.slice A2 1 c2);have wV:=(zJ (w4.setCell ⟨b,1,none⟩ (.slice A2 1 c2)) ⟨g,8,none⟩ (.int .u8 1) b (fun e=>hbg e.symm)).trans rf;have of4:=qaB (qfX (k:=1) (v:=.slice A2 1 c2) o4'.out hbg) (k:=8) zO 1;have hz:((w4.setCell ⟨b,1,none⟩ (.slice A2 1 c2)).setCell ⟨g,8,none⟩ (.int .u8 1)).heap.size=w4.heap.size:=zA2;have ow:=ZB (w':=(w4.setCell ⟨b,1,none⟩ (.slice A2 1 c2)).setCell ⟨g,8,none⟩ (.int .u8 1)) own4.out (fun q h1 _=>st q zO zO);have hu4:Bys ((w4.setCell ⟨b,1,none⟩ (.slice A2 1 c2)).setCell ⟨g,8,none⟩ (.int .u8 1)) w4.heap.size (.slice A0 128 c0) (Zh (Qq 0 [])):=(((hu3.out.below bV).more bV.size).setCell hf1 (p:=⟨b,1,none⟩) zb _).setCell hf1 (p:=⟨g,8,none⟩) hzg _;have hsl:(Zh (Qq 0 [])).length=128:=vl zD;refine bodyPost_ret (v:=.tuple #[.int .i64 8,.int .i64 0]) (by simp[results,results142,go_sem]) rfl ⟨rfl,hB,A2,c2,wV,⟨?_,?_,?_,?_⟩⟩
    ·exact(hb.below hB).more zO
    ·rw[hz];refine⟨[((8,Zh (Qq 0 [])),.slice A0 128 c0)],rfl,?_,?_⟩
     ·obtain⟨A',c',e,q1,q2⟩:=qz ow;cases e;exact⟨A2,c2,rfl,q1,q2,by have:=Rd.of_own ow;rw[hz] at this;exact this⟩
     ·intro p hp;simp only[List.mem_singleton] at hp;subst hp;exact⟨⟨A0,c0,by rw[hsl]⟩,hu4⟩
    ·exact Bys.of_own of4
    ·have e1:Bys w lo (.slice (some ⟨b4,o4,none⟩) 256 c4) last:=⟨_,c4,by rw[hl],zO,by assumption,by rw[hl];exact har⟩
     exact(e1.below hB).more zO
end Go.Proofs.YtpbniokljofedaaGreat
