/- Texts RTwin, OnOwn, Up, DWrite, ShareR, LooseR, VolS, Unset0, Bch, IWrite, Pad, joined. -/
import Derived.Test.YtpbniokljofedaaGreatZH13
set_option linter.unusedSimpArgs false
set_option linter.unusedVariables false
set_option maxHeartbeats 8000000
open Go.Proofs.Tryz
namespace Go.Proofs.YtpbniokljofedaaGreat
open Go.RowKit
def outDT (lo:Nat) (bs:List (List UInt8)) (ws:List (Int×List UInt8)):qS:=⟨Nat×Nat×Nat,fun p=>Yv (some ⟨p.1,0,none⟩) bs.length bs.length (some ⟨p.2.1,0,none⟩) ws.length (ws.length+1),fun p W=>jQ lo bs ws p.1 p.2.1 p.2.2 W⟩
theorem kH (lo:Nat) (bs:List (List UInt8)) (ws:List (Int×List UInt8)) (b c g:Nat):(outDT lo bs ws).f (b,c,g)=Yv (some ⟨b,0,none⟩) bs.length bs.length (some ⟨c,0,none⟩) ws.length (ws.length+1):=rfl
theorem qbQ (lo:Nat) (bs:List (List UInt8)) (ws:List (Int×List UInt8)):∀ p,qB qk ((outDT lo bs ws).φ p):=fun p W W' he h=>by have he:Ext W W':=he;exact jQ.keep h (zM _) he.size fun b _ hb=>he.block b hb
def Tl (lo:Nat) (l:List UInt8):qS:=⟨Option Addr×Nat,fun p=>.slice p.1 l.length p.2,fun p W=>W.ownsRow lo 5 1 (.slice p.1 l.length p.2) l.length (l.map bv)⟩
theorem vI (lo:Nat) (l:List UInt8) (A:Option Addr) (c:Nat):(Tl lo l).f (A,c)=.slice A l.length c:=rfl
theorem YA (lo:Nat) (l:List UInt8):∀ p,qB qk ((Tl lo l).φ p):=fun p W W' he h=>QM h he
theorem Zf {w w':World} {lo:Nat} {e:TypeId} {size:Nat} {v:Value} {n:Nat} {xs:List Value} (h:w.ownsRow lo e size v n xs) (hk:∀ b,lo<=b->b<w.heap.size->w'.heap[b]?=w.heap[b]?):w'.ownsRow lo e size v n xs:=
 ⟨h.1,h.2.imp id fun ⟨g,cap,cur,h1,h2,h3,h4⟩=>⟨g,cap,cur,h1,h2,(hk g h2 (zG.1 h3).1).trans h3,h4⟩⟩
def QF (lo:Nat) (S:Sto) (u:Value) (W:World):Prop:=∃ BB WW g A3 c3 A4 c4,u=Qe (some ⟨BB,0,none⟩) S.bs.length S.bs.length (some ⟨WW,0,none⟩) S.ws.length (S.ws.length+1) A3 S.now.length c3 A4 S.last.length c4/\jQ lo S.bs S.ws BB WW g W /\
 W.ownsRow lo 5 1 (.slice A3 S.now.length c3) S.now.length (S.now.map bv)/\W.ownsRow lo 5 1 (.slice A4 S.last.length c4) S.last.length (S.last.map bv)
theorem QF.keep {lo lo':Nat} {S:Sto} {u:Value} {W W2:World} (h:QF lo S u W) (hl:lo'<=lo) (hs:W.heap.size<=W2.heap.size) (hk:∀ b,lo<=b->b<W.heap.size->W2.heap[b]?=W.heap[b]?):QF lo' S u W2:=by obtain⟨BB,WW,g,A3,c3,A4,c4,e,h1,h2,h3⟩:=h;exact⟨BB,WW,g,A3,c3,A4,c4,e,h1.keep hl hs hk,Qw (Zf h2 hk) hl,Qw (Zf h3 hk) hl⟩
theorem qba {w w':World} {lo:Nat} {e:TypeId} {size:Nat} {v:Value} {n:Nat} {xs:List Value} (h:w.ownsRow lo e size v n xs) {b1:Nat} {c1:Array Value} {t1:TypeId} (h1:w.heap[b1]?=some (.cells c1 t1 (0,0))) (ht:t1≠e) (hk:∀ b,lo<=b->b<w.heap.size->b≠b1->w'.heap[b]?=w.heap[b]?):w'.ownsRow lo e size v n xs:=
 ⟨h.1,h.2.imp id fun ⟨g,cap,cur,g1,g2,h3,h4⟩=>⟨g,cap,cur,g1,g2,(hk g g2 (zG.1 h3).1 (qM h3 h1 fun e=>ht e.symm)).trans h3,h4⟩⟩
theorem QF.keepT {lo lo':Nat} {S:Sto} {u:Value} {W W2:World} (h:QF lo S u W) (hl:lo'<=lo) (hs:W.heap.size<=W2.heap.size) {b1:Nat} {c1:Array Value} {t1:TypeId} (hr:W.heap[b1]?=some (.cells c1 t1 (0,0))) (ht:t1≠26/\t1≠130/\t1≠5) (hk:∀ b,lo<=b->b<W.heap.size->b≠b1->W2.heap[b]?=W.heap[b]?):QF lo' S u W2:=by obtain⟨BB,WW,g,A3,c3,A4,c4,e,h1,h2,h3⟩:=h;exact⟨BB,WW,g,A3,c3,A4,c4,e,h1.keepT hl hs hr ht hk,Qw (qba h2 hr ht.2.2 hk) hl,Qw (qba h3 hr ht.2.2 hk) hl⟩
set_option maxRecDepth 100000 in
theorem qho (A1:Option Addr) (n1 c1:Nat) (A2:Option Addr) (n2 c2:Nat) (A3:Option Addr) (n3 c3:Nat) (A4:Option Addr) (n4 c4:Nat) (S:Sto) (hS:Xh S) (w:World) (h:qX w w.heap.size (.slice A1 n1 c1) (.slice A2 n2 c2) (.slice A3 n3 c3) (.slice A4 n4 c4) S):Calls prog 152 #[Qe A1 n1 c1 A2 n2 c2 A3 n3 c3 A4 n4 c4] w (QV (QF w.heap.size S) w):=by
 have HD:=zH (fun W (hW:Ext w W)=>qgG A1 n1 c1 A2 n2 c2 S.bs S.ws hS.bs hS.ws hS.be hS.we W (h.ext hW).bs (h.ext hW).ws);have HN:=zH (fun W (hW:Ext w W)=>vC _ S.now (by have:=hS.now;omega) W (h.ext hW).now);have HL:=zH (fun W (hW:Ext w W)=>vC _ S.last (by have:=hS.last;omega) W (h.ext hW).last);clear h hS;go_enter func152,ntmps152;go_wp2_with fail;generalize aA:(World.alloc (World.alloc _ _) _)=w1;have x1:Ext w w1:=by rw[<-aA];exact(zN _ _).trans (zN _ _)
 have r1:w1.heap[w.heap.size]?=some (.cells #[.slice A1 n1 c1,.slice A2 n2 c2,.slice A3 n3 c3,.slice A4 n4 c4] 28 (0,0)):=by rw[<-aA];exact(zK _ _ _ zA3).trans (zI _ _ _ rfl)
 have q1:w1.heap[w.heap.size+1]?=some (.cells #[.slice none 0 0,.slice none 0 0,.slice none 0 0,.slice none 0 0] 28 (0,0)):=by rw[<-aA];exact zI _ _ _ zA3
 clear aA;have g1:∀ W,qk.r w1 W->∀ i,W.cell? ⟨w.heap.size,i,none⟩=#[.slice A1 n1 c1,.slice A2 n2 c2,.slice A3 n3 c3,.slice A4 n4 c4][i]?:=fun W h=>qa (qb r1 h);refine qo zQ ?_;refine qP (w:=w1) qk (qD [(2,outDT w1.heap.size S.bs S.ws),(5,Tl w1.heap.size S.now),(8,Tl w1.heap.size S.last)])
  [true,true,true,true,true,true,true,true,true,true] 1 zQ zQ zQ zQ zQ zQ zQ ?st (Rel.drew _ _) ?walk
 case st=>exact qj (by simp only[List.forall_mem_cons];exact⟨qbQ _ _ _,YA _ _,YA _ _,fun _ h=>by cases h⟩)
 case walk =>
  intro K hK;dsimp only[qp];repeat ((first|(refine qd ?_ zA0 zA0 (fun W hW _=>⟨W,?_,Rel.refl _ W⟩) ?_;rotate_left;(go_simp<;>with_reducible rfl))|(refine qh zA0 ?_));try simp only[Act.put,ql,qf,qc,qg,kH,vI,zA,zB,zC])
  refine qw (outDT w1.heap.size S.bs S.ws) zA0 zA0 (fun W hW _=>?_) (fun p=>?_)
  ·refine Qa ?_ ((HD.out W (Ext.trans x1 hW)).mono fun e w' h=>?_)
   ·go_simp
   have hW:Ext w1 W:=hW;obtain⟨b,c,g,rfl,h1,hB⟩:=h;exact⟨(b,c,g),rfl,h1.keep hW.size (zM _) (fun _ _ _=>rfl),hB⟩
  obtain⟨bb,cc,gg⟩:=p;simp only[Act.put,qf,qc,qg,kH,vI,zA,zB,zC];repeat ((first|(refine qd ?_ zA0 zA0 (fun W hW _=>⟨W,?_,Rel.refl _ W⟩) ?_;rotate_left;(go_simp<;>with_reducible rfl))|(refine qh zA0 ?_));try simp only[Act.put,ql,qf,qc,qg,kH,vI,zA,zB,zC])
  refine qw (Tl w1.heap.size S.now) zA0 zA0 (fun W hW _=>?_) (fun p=>?_)
  ·refine Qa ?_ ((HN.out W (Ext.trans x1 hW)).mono fun e w' h=>?_)
   ·go_simp
   have hW:Ext w1 W:=hW;obtain⟨u,rfl,hu,hB⟩:=h;obtain⟨A,c,rfl,_,_⟩:=qy hu;exact⟨(A,c),rfl,Qw hu hW.size,hB⟩
  obtain⟨B3,d3⟩:=p;simp only[Act.put,qf,qc,qg,kH,vI,zA,zB,zC];repeat ((first|(refine qd ?_ zA0 zA0 (fun W hW _=>⟨W,?_,Rel.refl _ W⟩) ?_;rotate_left;(go_simp<;>with_reducible rfl))|(refine qh zA0 ?_));try simp only[Act.put,ql,qf,qc,qg,kH,vI,zA,zB,zC])
  refine qw (Tl w1.heap.size S.last) zA0 zA0 (fun W hW _=>?_) (fun p=>?_)
  ·refine Qa ?_ ((HL.out W (Ext.trans x1 hW)).mono fun e w' h=>?_)
   ·go_simp
   have hW:Ext w1 W:=hW;obtain⟨u,rfl,hu,hB⟩:=h;obtain⟨A,c,rfl,_,_⟩:=qy hu;exact⟨(A,c),rfl,Qw hu hW.size,hB⟩
  obtain⟨B4,d4⟩:=p;simp only[Act.put,qf,qc,qg,kH,vI,zA,zB,zC];repeat ((first|(refine qd ?_ zA0 zA0 (fun W hW _=>⟨W,?_,Rel.refl _ W⟩) ?_;rotate_left;(go_simp<;>with_reducible rfl))|(refine qh zA0 ?_));try simp only[Act.put,ql,qf,qc,qg,kH,vI,zA,zB,zC])
  refine qu (hK _ _ fun W hW hF=>?_);have hD:jQ w1.heap.size S.bs S.ws bb cc gg W:=(hF 2).1;have hN:W.ownsRow w1.heap.size 5 1 (.slice B3 S.now.length d3) S.now.length (S.now.map bv):=(hF 5).1;have hL:W.ownsRow w1.heap.size 5 1 (.slice B4 S.last.length d4) S.last.length (S.last.map bv):=(hF 8).1;have hW:Ext w1 W:=hW;clear hF hK g1;refine zB5 ?_;have qW:=qb q1 hW;have kW:=qa qW;have fW:=qe qW;have hz:w.heap.size+1<w1.heap.size:=(zG.1 q1).1;have P5:∀ wx:World,wx=vL W (w.heap.size+1) 0 [.slice (some ⟨bb,0,none⟩) S.bs.length S.bs.length,.slice (some ⟨cc,0,none⟩) S.ws.length (S.ws.length+1),.slice B3 S.now.length d3,.slice B4 S.last.length d4] ->
    wx.heap[w.heap.size+1]?=some (.cells #[.slice (some ⟨bb,0,none⟩) S.bs.length S.bs.length,.slice (some ⟨cc,0,none⟩) S.ws.length (S.ws.length+1),.slice B3 S.now.length d3,.slice B4 S.last.length d4] 28 (0,0))/\Below w.heap.size w wx /\
     QF w.heap.size S (Qe (some ⟨bb,0,none⟩) S.bs.length S.bs.length (some ⟨cc,0,none⟩) S.ws.length (S.ws.length+1) B3 S.now.length d3 B4 S.last.length d4) wx:=fun wx e=>by
   have hk:∀ b,w1.heap.size<=b->b<W.heap.size->wx.heap[b]?=W.heap[b]?:=fun b h1 _=>by rw[e];exact ZM zO _ _ _
   have hs:W.heap.size<=wx.heap.size:=by rw[e,jp];exact zM _
   refine⟨by rw[e];refine(jO _ _ _ _ qW).trans ?_;simp[KM],by rw[e];exact ZL (Nat.le_succ _) _ _ _ (Ext.trans x1 hW),bb,cc,gg,B3,d3,B4,d4,rfl,hD.keep zO hs hk,Qw (Zf hN hk) zO,Qw (Zf hL hk) zO⟩
  replace P5:=zH P5;clear hD hN hL qW hW;go_wp2;refine Qo ?_;go_wp2_with fail;have P5:=P5.out;generalize aQ:World.setCell (World.setCell (World.setCell (World.setCell W _ _) _ _) _ _) _ _=w5;obtain⟨r5,x5,h5⟩:=P5 w5 aQ.symm;clear P5 aQ;have k5:=qa r5;exact bodyPost_ret (v:=Qe (some ⟨bb,0,none⟩) S.bs.length S.bs.length (some ⟨cc,0,none⟩) S.ws.length (S.ws.length+1) B3 S.now.length d3 B4 S.last.length d4) (by simp[results,results152,go_sem,k5]) rfl ⟨_,rfl,h5,x5⟩
set_option maxRecDepth 100000 in
theorem vD (b:Nat) (A1:Option Addr) (n1 c1:Nat) (A2:Option Addr) (n2 c2:Nat) (A3:Option Addr) (n3 c3:Nat) (A4:Option Addr) (n4 c4:Nat) (S:Sto) (hS:Xh S) (w:World) (hr:w.heap[b]?=some (.cells #[.slice A1 n1 c1,.slice A2 n2 c2,.slice A3 n3 c3,.slice A4 n4 c4] 191 (0,0))) (h:qX w w.heap.size (.slice A1 n1 c1) (.slice A2 n2 c2) (.slice A3 n3 c3) (.slice A4 n4 c4) S):Calls prog 105 #[.pointer (some ⟨b,0,none⟩)] w (QV (QF w.heap.size S) w):=by
 have HT:=zH (fun W (hW:Ext w W)=>qho A1 n1 c1 A2 n2 c2 A3 n3 c3 A4 n4 c4 S hS W (h.ext hW));clear h hS;have k0:=qa hr;have zb:b<w.heap.size:=(zG.1 hr).1;go_enter func105,ntmps105;go_wp2_with fail;generalize aA:World.alloc _ _=w1;have x1:Ext w w1:=by rw[<-aA];exact zN _ _
 have q1:w1.heap[w.heap.size]?=some (.cells #[.slice none 0 0,.slice none 0 0,.slice none 0 0,.slice none 0 0] 28 (0,0)):=by rw[<-aA];exact zI _ _ _ zA3
 clear aA k0;refine(HT.out w1 x1).mono ?_;rintro e w2 ⟨u,rfl,hT,hB⟩;have hB:Ext w1 w2:=hB;have q2:=qb q1 hB;have kq:=qa q2;have fq:=qe q2;have z1:w.heap.size<w1.heap.size:=(zG.1 q1).1;obtain⟨BB,WW,g,B3,d3,B4,d4,rfl,hD,hN,hL⟩:=hT;have P5:∀ wx:World,wx=vL w2 w.heap.size 0 [.slice (some ⟨BB,0,none⟩) S.bs.length S.bs.length,.slice (some ⟨WW,0,none⟩) S.ws.length (S.ws.length+1),.slice B3 S.now.length d3,.slice B4 S.last.length d4] ->
   wx.heap[w.heap.size]?=some (.cells #[.slice (some ⟨BB,0,none⟩) S.bs.length S.bs.length,.slice (some ⟨WW,0,none⟩) S.ws.length (S.ws.length+1),.slice B3 S.now.length d3,.slice B4 S.last.length d4] 28 (0,0))/\Below w.heap.size w wx /\
    QF w.heap.size S (Qe (some ⟨BB,0,none⟩) S.bs.length S.bs.length (some ⟨WW,0,none⟩) S.ws.length (S.ws.length+1) B3 S.now.length d3 B4 S.last.length d4) wx:=fun wx e=>by
  have hk:∀ b,w1.heap.size<=b->b<w2.heap.size->wx.heap[b]?=w2.heap[b]?:=fun b h1 _=>by rw[e];exact ZM zO _ _ _
  have hs:w2.heap.size<=wx.heap.size:=by rw[e,jp];exact zM _
  refine⟨by rw[e];refine(jO _ _ _ _ q2).trans ?_;simp[KM],by rw[e];exact ZL (zM _) _ _ _ (x1.trans hB),BB,WW,g,B3,d3,B4,d4,rfl,hD.keep zO hs hk,Qw (Zf hN hk) zO,Qw (Zf hL hk) zO⟩
 replace P5:=zH P5;clear hD hN hL q2 hB q1;go_wp2_with fail;have P5:=P5.out;generalize aQ:World.setCell (World.setCell (World.setCell (World.setCell w2 _ _) _ _) _ _) _ _=w5;obtain⟨r5,x5,h5⟩:=P5 w5 aQ.symm;clear P5 aQ;have k5:=qa r5;exact bodyPost_ret (v:=Qe (some ⟨BB,0,none⟩) S.bs.length S.bs.length (some ⟨WW,0,none⟩) S.ws.length (S.ws.length+1) B3 S.now.length d3 B4 S.last.length d4) (by simp[results,results105,go_sem,k5]) rfl ⟨_,rfl,h5,x5⟩
theorem UA {w:World} {lo g n c k:Nat} {l:List UInt8} (h:w.ownsRow lo 5 1 (.slice (some ⟨g,0,none⟩) n c) n (l.map bv)) (hk:k<n) (x:UInt8):(w.setCell ⟨g,k,none⟩ (bv x)).ownsRow lo 5 1 (.slice (some ⟨g,0,none⟩) n c) n ((l.set k x).map bv):=by
 obtain⟨h1,h2⟩:=h;rcases h2 with ⟨e,_⟩|⟨g',cap,cur,e,hg,hr,hc,hm,hs,ht⟩
 ·cases e
 ·cases e;have yx:k<cur.size:=zO;refine⟨by simpa using h1,.inr ⟨g,c,_,rfl,hg,qi hr k _,hc,hm,by simpa using hs,?_⟩⟩;apply List.ext_getElem?;intro i;rw[List.map_set,<-ht,List.getElem?_take,List.getElem?_set,List.getElem?_take];simp only[Nat.mul_one,Array.getElem?_toList,Array.getElem?_setIfInBounds,List.length_take,Array.length_toList];by_cases hi:i<n
  ·rw[if_pos hi,if_pos hi];by_cases e:k=i
   ·subst e;rw[if_pos rfl,if_pos rfl,if_pos yx,if_pos zO]
   ·rw[if_neg e,if_neg e]
  ·rw[if_neg hi,if_neg hi,if_neg zO]
theorem qdE {w:World} {lo g n c b k:Nat} {l:List UInt8} {v:Value} (h:w.ownsRow lo 5 1 (.slice (some ⟨g,0,none⟩) n c) n (l.map bv)) (hg:g≠b):(w.setCell ⟨b,k,none⟩ v).ownsRow lo 5 1 (.slice (some ⟨g,0,none⟩) n c) n (l.map bv):=by obtain⟨h1,h2⟩:=h;refine⟨h1,h2.imp id fun ⟨g',cap,cur,e,h3,h4,h5⟩=>?_⟩;cases e;exact⟨g,c,cur,rfl,h3,(zJ _ _ _ _ hg).trans h4,h5⟩
theorem zm {w:World} {lo g n c:Nat} {l:List UInt8} (h:w.ownsRow lo 5 1 (.slice (some ⟨g,0,none⟩) n c) n (l.map bv)):(∀ k,k<n->w.cell? ⟨g,k,none⟩=some (.int .u8 ((l[k]?.getD 0).toNat:Int)))/\(∀ k,w.frozen? ⟨g,k,none⟩=false)/\lo<=g/\g<w.heap.size:=by
 have h1:=h.1;obtain⟨h0,h2⟩:=h;rcases h2 with ⟨e,_⟩|⟨g',cap,cur,e,hg,hr,hc,hm,hs,ht⟩
 ·cases e
 ·cases e;refine⟨fun k hk=>?_,qe hr,hg,(zG.1 hr).1⟩;have hl:l.length=n:=by simpa using h1
  have hkl:k<l.length:=zO;have e2:(l.map bv)[k]?=some (bv l[k]):=by rw[List.getElem?_map,zL hkl];rfl
  rw[<-ht,List.getElem?_take,if_pos zO] at e2;have e3:cur[k]?=cur.toList[k]?:=zA3;rw[qa hr,e3,e2,zL hkl];rfl
set_option maxRecDepth 100000 in
theorem Gu (A1:Option Addr) (n1 c1:Nat) (A2:Option Addr) (n2 c2:Nat) (A3:Option Addr) (n3 c3:Nat) (A4:Option Addr) (n4 c4:Nat) (S:Sto) (hl:S.now.length<1073741824) (w:World) (h:qX w w.heap.size (.slice A1 n1 c1) (.slice A2 n2 c2) (.slice A3 n3 c3) (.slice A4 n4 c4) S):Calls prog 66 #[Qe A1 n1 c1 A2 n2 c2 A3 n3 c3 A4 n4 c4] w (QV (fun u W=>∃ b A3' c3',u=.pointer (some ⟨b,0,none⟩)/\w.heap.size<=b/\W.heap[b]?=some (.cells #[.slice A1 n1 c1,.slice A2 n2 n2,.slice A3' n3 c3',.slice A4 n4 c4] 191 (0,0))/\W.ownsRow w.heap.size 5 1 (.slice A3' n3 c3') n3 (S.now.map bv)) w):=by
 have xZ:Hid (n3=S.now.length):=zH h.now.at_.1;obtain⟨-,h2a,h2b,-⟩:=h.ws.at_;have HC:=zH (fun W (hW:Ext w W)=>vC (.slice A3 n3 c3) S.now hl W (h.ext hW).now);clear h;go_enter func66,ntmps66;go_wp2_with fail;generalize aA:(World.alloc _ _)=w1;have x1:Ext w w1:=by rw[<-aA];exact zN _ _
 have r1:w1.heap[w.heap.size]?=some (.cells #[.slice A1 n1 c1,.slice A2 n2 c2,.slice A3 n3 c3,.slice A4 n4 c4] 28 (0,0)):=by rw[<-aA];exact zI _ _ _ rfl
 clear aA;refine(HC.out _ x1).mono ?_;rintro e w2 ⟨u,rfl,hu,hB⟩;have x2:=x1.trans hB;have r2:=qb r1 hB;have s1:w.heap.size<w1.heap.size:=(zG.1 r1).1;obtain⟨A3',c3',rfl,_,_⟩:=qy hu;have k2:=qa r2;have f2:=qe r2;clear hB r1 HC;rw[<-xZ.out] at hu ⊢;go_wp2_with fail;have hu3:=Zf (w':=w2.setCell ⟨w.heap.size,2,none⟩ (.slice A3' n3 c3')) hu (fun b hb _=>zJ _ _ _ _ (by show b≠w.heap.size;omega));generalize aK:(World.setCell _ _ _)=w3 at *;have x3:Ext w w3:=by rw[<-aK];exact Below.setCell x2 (p:=⟨w.heap.size,2,none⟩) (zM _) _
 have r3:w3.heap[w.heap.size]?=some (.cells #[.slice A1 n1 c1,.slice A2 n2 c2,.slice A3' n3 c3',.slice A4 n4 c4] 28 (0,0)):=by rw[<-aK];exact qi r2 2 _
 clear aK k2 f2 r2 x2 hu;refine(qcS A2 n2 c2 h2a h2b _).mono ?_;rintro e w4 ⟨rfl,hB⟩;have x4:=x3.trans hB;have r4:=qb r3 hB;have hu4:=QM hu3 hB;have k4:=qa r4;have f4:=qe r4;have s4:w.heap.size<w4.heap.size:=(zG.1 r4).1;clear hB r3 x3 hu3;replace hu4:=zH hu4;go_wp2;have hu5:=Zf (w':=w4.setCell ⟨w.heap.size,1,none⟩ (.slice A2 n2 n2)) hu4.out (fun b hb _=>zJ _ _ _ _ (by show b≠w.heap.size;omega));have bf:Below w.heap.size w ((w4.setCell ⟨w.heap.size,1,none⟩ (.slice A2 n2 n2)).alloc (.cells #[.slice A1 n1 c1,.slice A2 n2 n2,.slice A3' n3 c3',.slice A4 n4 c4] 191)):=by have x4':Below w.heap.size w w4:=x4;exact(by repeat' (first|with_reducible exact Below.refl _ _|with_reducible assumption|with_reducible apply Below.drew|with_reducible apply qA|with_reducible refine Below.alloc ?_ ?_ _|with_reducible refine Below.setCell ?_ ?_ _|(simp;done)|(simp;omega)|omega))
 go_ret;exact⟨_,rfl,⟨w4.heap.size,A3',c3',rfl,zO,zI _ _ _ zA3,Qw (QM hu5 (zN _ _)) zO⟩,bf⟩
def Qd (t:List UInt8) (a:Nat):Nat:=(t[a]?.getD 0).toNat
def KQ (t:List UInt8) (a by_:Nat):List UInt8:=t.set a (UInt8.ofNat (Qd t a+by_))
theorem qgs (n:Nat):IntKind.u8.wrap (n:Int)=(((UInt8.ofNat n).toNat:Nat):Int):=by simp[IntKind.wrap,IntKind.bits,IntKind.signed]
theorem qaf {bs:List (List UInt8)} {ws:List (Int×List UInt8)} (h:jc bs ws=true):bs.length<1000000/\ws.length<1000000/\(∀ l∈bs,l.length<1000000)/\∀ p∈ws,p.2.length<1000000:=by
 unfold jc headD at h;simp only[Bool.and_eq_true,decide_eq_true_eq,List.all_eq_true] at h;obtain⟨⟨h1,h2⟩,h3,h4⟩:=h;refine⟨zO,zO,fun l hl=>?_,fun p hp=>?_⟩
 ·have:=h3 l hl;unfold Ty at this;have:=of_decide_eq_true this;omega
 ·have:=h4 p hp;unfold wrOk at this;have:=of_decide_eq_true this;omega
abbrev qt (S:Sto) (t:List UInt8):Sto:=⟨S.bs,S.ws,t,S.last⟩
abbrev sto0:Value:=Qe none 0 0 none 0 0 none 0 0 none 0 0
def qfw (S:Sto) (a:Int):Int:=if ZO S a≠0 then ZO S a else if ZD S a.toNat=255 then 70 else 0
def StoQ (e:Int) (S:Sto) (lo:Nat) (u:Value) (W:World):Prop:=(e≠0/\u=.tuple #[sto0,.int .i64 e])\/(e=0/\∃ v,u=.tuple #[v,.int .i64 0]/\QF lo S v W)
theorem za {S:Sto} (h:qm S=true):Xh S:=by
 obtain⟨h1,h2,h3,h4⟩:=qR h;have hd:jc S.bs S.ws=true:=by unfold qm at h;simp at h;exact h.1
 obtain⟨d1,d2,d3,d4⟩:=qaf hd;exact⟨d1,d2,d3,d4,zO,zO⟩
def ZZ (t:List UInt8) (a:Nat):List UInt8:=t.set a (UInt8.ofNat (Qd t a-1))
theorem down_len (t:List UInt8) (a:Nat):(ZZ t a).length=t.length:=by unfold ZZ;simp
theorem qcg {n:Nat} (h:0<n) (h2:n<256):IntKind.u8.wrap ((n:Int)-1)=(((UInt8.ofNat (n-1)).toNat:Nat):Int):=by rw[<-qgs];congr 1;omega
theorem YO {R:Ending->World->Prop} {a:Act} {W:World} {v:Value} (h4:a.tmps[4]?.getD undef=v) (hd:a.defers=[]) (hR:R (.returned v) W):bodyPost prog Tryz.f133 R .ret a W:=by refine bodyPost_ret (v:=v) ?_ hd hR;simp[results,results133,go_sem,h4]
set_option maxRecDepth 100000 in
theorem qeu (b lo:Nat) (v1 v2 v4:Value) (g c3:Nat) (t:List UInt8) (a:Nat) (ha:a<256) (w:World) (hr:w.heap[b]?=some (.cells #[v1,v2,.slice (some ⟨g,0,none⟩) 256 c3,v4] 191 (0,0))) (ho:w.ownsRow lo 5 1 (.slice (some ⟨g,0,none⟩) 256 c3) 256 (t.map bv)) (yh:b≠g) (h0:0<Qd t a):Calls prog 133 #[.pointer (some ⟨b,0,none⟩),.int .i64 (a:Int)] w fun e W=>e=.returned (.int .i64 0)/\Below lo w W/\(∀ k,k≠g->W.heap[k]?=w.heap[k]?)/\W.heap.size=w.heap.size/\W.ownsRow lo 5 1 (.slice (some ⟨g,0,none⟩) 256 c3) 256 ((ZZ t a).map bv):=by
 obtain⟨hk,hf,uV,hzg⟩:=zm ho;have hka:=hk a ha;have hfa:=hf a;have kr:=qa hr;have nR:=zH (UA ho ha (UInt8.ofNat (Qd t a-1)));have hc:Qd t a=(t[a]?.getD 0).toNat:=rfl;have bJ:=(t[a]?.getD 0).toNat_lt;rw[<-hc] at hka bJ;have hT:Hid (ZZ t a=t.set a (UInt8.ofNat (Qd t a-1))):=rfl;have hwv:=qcg h0 bJ;generalize Qd t a=nv at *;have aU:((nv:Int) == 0)=false:=by rw[beq_eq_false_iff_ne];omega
 clear hk hf hc bJ ho;go_enter func133,ntmps133;go_wp2_with fail;refine YO rfl rfl ⟨rfl,Below.setCell (Below.refl _ _) (p:=⟨g,a,none⟩) uV _,fun k hk=>zJ _ _ _ _ hk,zA3,?_⟩;rw[hT.out];exact nR.out
theorem qgE {R:Ending->World->Prop} {a:Act} {W:World} {b:Nat} {x0 x1 x2 x3 v:Value} (h4:a.tmps[4]?.getD undef=.pointer (some ⟨b,0,none⟩)) (h5:a.tmps[5]?.getD undef=v) (hd:a.defers=[]) (aC:W.heap[b]?=some (.cells #[x0,x1,x2,x3] 28 (0,0))) (hR:R (.returned (.tuple #[.agg #[x0,x1,x2,x3],v])) W):bodyPost prog Tryz.f130 R .ret a W:=by
 refine bodyPost_ret (v:=.tuple #[.agg #[x0,x1,x2,x3],v]) ?_ hd hR;have k:=qa aC;simp[results,results130,go_sem,h4,h5,k]
theorem UP {R:Ending->World->Prop} {a:Act} {W:World} {b:Nat} {x0 x1 x2 x3 v:Value} (h4:a.tmps[4]?.getD undef=.pointer (some ⟨b,0,none⟩)) (h5:a.tmps[5]?.getD undef=v) (hd:a.defers=[]) (aC:W.heap[b]?=some (.cells #[x0,x1,x2,x3] 28 (0,0))) (hR:R (.returned (.tuple #[.agg #[x0,x1,x2,x3],v])) W):bodyPost prog Tryz.f76 R .ret a W:=by
 refine bodyPost_ret (v:=.tuple #[.agg #[x0,x1,x2,x3],v]) ?_ hd hR;have k:=qa aC;simp[results,results76,go_sem,h4,h5,k]
theorem QF.set4 {lo lo' b:Nat} {S:Sto} {u:Value} {W:World} (h:QF lo S u W) (hl:lo'<=lo) (hb:b<lo) (x0 x1 x2 x3:Value):QF lo' S u ((((W.setCell ⟨b,0,none⟩ x0).setCell ⟨b,1,none⟩ x1).setCell ⟨b,2,none⟩ x2).setCell ⟨b,3,none⟩ x3):=
 h.keep hl zA3 fun b' hb' _=>(zJ _ _ _ _ zA2).trans ((zJ _ _ _ _ zA2).trans ((zJ _ _ _ _ zA2).trans (zJ _ _ _ _ zA2)))
set_option maxRecDepth 100000 in
theorem qcW (bat b lo:Nat) (v1 v2 v4:Value) (g c3:Nat) (t:List UInt8) (a:Nat) (ha:a<256) (w:World) (dW:w.heap[bat]?=some (.cells #[.int .i64 (a:Int)] 3 (0,0))) (hr:w.heap[b]?=some (.cells #[v1,v2,.slice (some ⟨g,0,none⟩) 256 c3,v4] 191 (0,0))) (ho:w.ownsRow lo 5 1 (.slice (some ⟨g,0,none⟩) 256 c3) 256 (t.map bv)) (yh:b≠g) (h0:0<Qd t a):Calls prog 132 #[.pointer (some ⟨b,0,none⟩),.pointer (some ⟨bat,0,none⟩)] w fun e W=>e=.returned (.int .i64 0)/\Below lo w W/\(∀ k,k≠g->W.heap[k]?=w.heap[k]?)/\W.heap.size=w.heap.size/\W.ownsRow lo 5 1 (.slice (some ⟨g,0,none⟩) 256 c3) 256 ((ZZ t a).map bv):=by
 have HB:=zH (qeu b lo v1 v2 v4 g c3 t a ha w hr ho yh h0);have ka:=qa dW;clear hr ho h0;go_enter func132,ntmps132;go_wp2_with fail;refine HB.out.mono ?_;clear HB;rintro e W ⟨rfl,h1,h2,h3,h4⟩;replace h1:=zH h1;replace h2:=zH h2;replace h3:=zH h3;replace h4:=zH h4;go_wp2_with fail;go_ret;exact⟨rfl,h1.out,h2.out,h3.out,h4.out⟩
set_option maxRecDepth 100000 in
theorem qgD (A1:Option Addr) (n1 c1:Nat) (A2:Option Addr) (n2 c2:Nat) (A3:Option Addr) (n3 c3:Nat) (A4:Option Addr) (n4 c4:Nat) (S:Sto) (hS:qm S=true) (a:Nat) (ha:a<256) (h0:0<Qd S.now a) (bat:Nat) (w:World) (dW:w.heap[bat]?=some (.cells #[.int .i64 (a:Int)] 3 (0,0))) (h:qX w w.heap.size (.slice A1 n1 c1) (.slice A2 n2 c2) (.slice A3 n3 c3) (.slice A4 n4 c4) S):Calls prog 130 #[Qe A1 n1 c1 A2 n2 c2 A3 n3 c3 A4 n4 c4,.func (.func 132) #[] #[.pointer (some ⟨bat,0,none⟩)]] w (QV (fun u W=>∃ v,u=.tuple #[v,.int .i64 0]/\QF w.heap.size (qt S (ZZ S.now a)) v W) w):=by
 obtain⟨nz,uU,mW,hl4⟩:=qR hS;have HON:=zH (fun W (hx:Ext w W)=>Gu A1 n1 c1 A2 n2 c2 A3 n3 c3 A4 n4 c4 S zO W (h.ext hx));have xZ:n3=256:=by have:=h.now.at_.1;omega
 have gJ:qX w w.heap.size (.slice A1 n1 c1) (.slice A2 n2 n2) (.slice A3 n3 c3) (.slice A4 n4 c4) S:=⟨h.bs,h.ws.clip,h.now,h.last⟩
 have iT:=zH (za hS);have aH:=zH gJ;subst xZ;clear h gJ nz uU mW hl4;replace hS:=zH hS;go_enter func130,ntmps130;go_wp2_with fail;generalize aA:(World.alloc (World.alloc w _) _)=w1;have x1:Ext w w1:=by rw[<-aA];exact(zN _ _).trans (zN _ _)
 have yO:w1.heap[w.heap.size+1]?=some (.cells #[.slice none 0 0,.slice none 0 0,.slice none 0 0,.slice none 0 0] 28 (0,0)):=by rw[<-aA];exact zI _ _ _ zA3
 clear aA;refine(HON.out w1 x1).mono ?_;clear HON;rintro e w2 ⟨u,rfl,⟨bb,A3',c3',rfl,dO,wO,aB⟩,hB⟩;have x2:Ext w w2:=x1.trans hB;have lF:=qb yO hB;have wP:w.heap.size+1<w1.heap.size:=(zG.1 yO).1;have hAu:∃ g,A3'=some ⟨g,0,none⟩:=by
  rcases aB.2 with ⟨e,h0⟩|⟨g,cap,cur,e,_⟩
  ·cases e
  ·cases e;exact⟨g,rfl⟩
 obtain⟨g,rfl⟩:=hAu;obtain⟨hk,hf,uV,hgz⟩:=zm aB;have yh:bb≠g:=by
  rintro rfl;rcases aB.2 with ⟨e,h0⟩|⟨g',cap,cur,e,hg',hrg,dS,bJ,rY,hc4⟩
  ·cases e
  ·cases e;rw[wO] at hrg;simp only[Option.some.injEq,Obj.cells.injEq] at hrg;exact absurd hrg.2.1 zA1
 have HL:=qcW bat bb w1.heap.size (.slice A1 n1 c1) (.slice A2 n2 n2) (.slice A4 n4 c4) g c3' S.now a ha w2 (qb dW x2) wO aB yh h0;clear hB yO x1 hk hf;replace aB:=zH aB;replace wO:=zH wO;go_wp2_with fail;refine HL.mono ?_;clear HL;rintro e w3 ⟨rfl,oQ,iO,hs3,dJ⟩;have oP:=(iO (w.heap.size+1) zO).trans lF;have hrb3:=(iO bb yh).trans wO.out;have x3:Ext w w3:=Below.trans x2 (Below.mono oQ zO);have hEO:=(aH.out.below x3).more x3.size;have HST:=vD bb A1 n1 c1 A2 n2 n2 (some ⟨g,0,none⟩) 256 c3' A4 n4 c4 (qt S (ZZ S.now a)) ⟨iT.out.bs,iT.out.ws,iT.out.be,iT.out.we,by rw[down_len];exact iT.out.now,iT.out.last⟩ w3 hrb3 ⟨hEO.bs,hEO.ws,Bys.of_own dJ,hEO.last⟩;have zo3:w.heap.size+1<w3.heap.size:=(zG.1 oP).1;clear oQ iO dJ hEO lF x2 hrb3;go_wp2_with fail;refine HST.mono ?_;clear HST;rintro e w4 ⟨u,rfl,hu,hB⟩;have x4:Ext w w4:=x3.trans hB;have ro4:=qb oP hB;have ko4:=qa ro4;have fo4:=qe ro4;have hK:=fun x0 x1 x2 x3'=>hu.set4 (b:=w.heap.size+1) (show w.heap.size<=w3.heap.size by omega) zo3 x0 x1 x2 x3';obtain⟨BB,WW,gg,B3,d3,B4,d4,rfl,hD,hN,hL⟩:=hu;replace hK:=zH hK;clear hB hD hN hL oP x3;go_wp2_with fail;exact qgE (b:=w.heap.size+1) rfl rfl rfl (Xd ro4 _ _ _ _) ⟨_,rfl,⟨_,rfl,hK.out _ _ _ _⟩,ZW x4 zO _ _ _ _⟩
set_option maxRecDepth 100000 in
theorem UO (A1:Option Addr) (n1 c1:Nat) (A2:Option Addr) (n2 c2:Nat) (A3:Option Addr) (n3 c3:Nat) (A4:Option Addr) (n4 c4:Nat) (S:Sto) (a:Int) (w:World) (h:qX w w.heap.size (.slice A1 n1 c1) (.slice A2 n2 c2) (.slice A3 n3 c3) (.slice A4 n4 c4) S):Calls prog 76 #[Qe A1 n1 c1 A2 n2 c2 A3 n3 c3 A4 n4 c4,.int .i64 a] w (QV (StoQ (ZO S a) (qt S (ZZ S.now a.toNat)) w.heap.size) w):=by
 have HA:=zH (fun W (hx:Ext w W)=>qcZ A1 n1 c1 A2 n2 c2 A3 n3 c3 A4 n4 c4 S a W (h.ext hx));replace h:=zH h;go_enter func76,ntmps76;go_wp2_with fail;generalize aA:(World.alloc (World.alloc (World.alloc w _) _) _)=w1;have x1:Ext w w1:=by rw[<-aA];exact((zN _ _).trans (zN _ _)).trans (zN _ _)
 have uH:w1.heap[w.heap.size]?=some (.cells #[.slice A1 n1 c1,.slice A2 n2 c2,.slice A3 n3 c3,.slice A4 n4 c4] 28 (0,0)):=by rw[<-aA];exact(zK _ _ _ (by simp;try omega)).trans ((zK _ _ _ zA3).trans (zI _ _ _ rfl))
 have uq:w1.heap[w.heap.size+1]?=some (.cells #[.int .i64 a] 3 (0,0)):=by rw[<-aA];exact(zK _ _ _ zA3).trans (zI _ _ _ zA3)
 have yO:w1.heap[w.heap.size+2]?=some (.cells #[.slice none 0 0,.slice none 0 0,.slice none 0 0,.slice none 0 0] 28 (0,0)):=by rw[<-aA];exact zI _ _ _ zA3
 have kk1:=qa uq;have ks1:=qa uH;clear aA;go_wp2_with fail;refine(HA.out w1 x1).mono ?_;clear HA;rintro e w2 ⟨rfl,hB⟩;have x2:Ext w w2:=x1.trans hB;have rs2:=qb uH hB;have uD:=qb uq hB;have lF:=qb yO hB;clear hB uH yO x1 ks1 kk1 uq;by_cases h0:ZO S a=0
 ·obtain⟨hS,m,rfl,hm8,hPX,nO⟩:=qbp h0;have HD:=qgD A1 n1 c1 A2 n2 c2 A3 n3 c3 A4 n4 c4 S hS m hPX (Nat.pos_of_ne_zero nO) (w.heap.size+1) w2 uD (h.out.ext x2);have ks2:=qa rs2;have h0':=zH h0;rw[h0];replace hS:=zH hS;clear nO h0;go_wp2_with fail;refine HD.mono ?_;clear HD;rintro e w3 ⟨u,rfl,⟨v,rfl,hT⟩,hB⟩;have x3:Ext w w3:=x2.trans hB;have oP:=qb lF hB;have zo2:w.heap.size+2<w2.heap.size:=(zG.1 lF).1;have hK:=fun x0 x1 x2 x3'=>hT.set4 (b:=w.heap.size+2) (show w.heap.size<=w2.heap.size by omega) zo2 x0 x1 x2 x3';obtain⟨BB,WW,gg,B3,d3,B4,d4,rfl,hD,hN,hL⟩:=hT;have ko3:=qa oP;have fo3:=qe oP;replace hK:=zH hK;clear hB hD hN hL ks2 rs2 uD lF x2;go_wp2_with fail;exact UP (b:=w.heap.size+2) rfl rfl rfl (Xd oP _ _ _ _) ⟨_,rfl,.inr ⟨h0'.out,_,rfl,hK.out _ _ _ _⟩,ZW x3 zO _ _ _ _⟩
 ·have hq:=zH h0;have hE:Hid (ZO S a=ZO S a):=rfl;obtain⟨er,xQ⟩:∃ er,ZO S a=er:=⟨_,rfl⟩
  rw[xQ] at h0 ⊢;have he:(er != 0)=true:=by rw[bne_iff_ne];exact h0
  have ko2:=qa lF;have fo2:=qe lF;replace xQ:=zH xQ;clear h0;go_wp2_with fail;exact UP (b:=w.heap.size+2) rfl rfl rfl (Xd lF _ _ _ _) ⟨_,rfl,.inl ⟨hq.out,by rw[xQ.out];rfl⟩,ZW x2 zO _ _ _ _⟩
abbrev Vg:Value:=.agg (qH (.slice none 0 0) (.slice none 0 0) (.slice none 0 0) (.slice none 0 0) 0 0 0 (.slice none 0 0))
def Jf (lo:Nat) (S:Sto) (gen root next:Int) (dead:List Int) (u:Value) (W:World):Prop:=∃ A1 c1 A2 c2 A3 c3 A4 c4 A5 c5,u=.agg (qH (.slice A1 S.bs.length c1) (.slice A2 S.ws.length c2) (.slice A3 S.now.length c3) (.slice A4 S.last.length c4) gen root next (.slice A5 dead.length c5)) /\
 ∀ C:World,PosZ lo W C->qX C W.heap.size (.slice A1 S.bs.length c1) (.slice A2 S.ws.length c2) (.slice A3 S.now.length c3) (.slice A4 S.last.length c4) S/\Zs C W.heap.size (.slice A5 dead.length c5) dead
theorem Rd.pos {w C:World} {B size lo n c:Nat} {A:Option Addr} {xs:List Value} (h:Rd w B size A n xs) (hf:Zb lo (.slice A n c)) (hk:∀ (q:Addr) (v:Value),lo<=q.block->q.block<B->w.cell? q=some v->C.cell? q=some v):Rd C B size A n xs:=
 ⟨h.1,fun hn=>by obtain⟨b,off,rfl,hb,hc⟩:=h.2 hn;exact⟨b,off,rfl,hb,fun j u hu=>hk _ _ (hf ⟨b,off,none⟩ n c rfl) hb (hc j u hu)⟩⟩
theorem Zs.pos {w C:World} {B lo:Nat} {v:Value} {l:List Int} (h:Zs w B v l) (hf:Zb lo v) (hk:∀ (q:Addr) (v:Value),lo<=q.block->q.block<B->w.cell? q=some v->C.cell? q=some v):Zs C B v l:=by obtain⟨A,c,e,hc,hm,hr⟩:=h;subst e;exact⟨A,c,rfl,hc,hm,Rd.pos hr hf hk⟩
theorem QF.newSto {lo:Nat} {S:Sto} {u:Value} {W:World} (h:QF lo S u W) (hS:Xh S):NewSto lo S u W:=by obtain⟨BB,WW,g,A3,c3,A4,c4,e,h1,h2,h3⟩:=h;refine⟨_,_,_,_,A3,c3,A4,c4,e,qhd (W:=thaw W) (Φ:=fun C=>qX C W.heap.size _ _ _ _ S) (fun A C hAC hA=>hA.some_ hAC) fun W2 hk=>?_⟩;obtain⟨k1,k2⟩:=h1.readsT hS.bs hS.ws hS.be hS.we W2 hk;exact⟨k1,k2,(Bys.of_ownT h2).keepN (Zb.of_own h2) hk,(Bys.of_ownT h3).keepN (Zb.of_own h3) hk⟩
theorem Zs.of_ownT {w:World} {base:Nat} {v:Value} {l:List Int} (h:w.ownsRow base 3 1 v l.length (vS l)):Zs (thaw w) w.heap.size v l:=by obtain⟨A,c,e,hc,hm,hr⟩:=Zs.of_own h;refine⟨A,c,e,hc,hm,hr.1,fun hn=>?_⟩;obtain⟨b,off,e2,hb,bU⟩:=hr.2 hn;obtain⟨cs,t,aC⟩:=Thaw.of_own h ⟨b,off,none⟩ l.length c (by rw[e,e2]) hn;exact⟨b,off,e2,hb,fun j u hu=>(VR aC _).trans (bU j u hu)⟩
def outN (lo n:Nat) (l:List Int):qS:=⟨Option Addr×Nat,fun p=>.slice p.1 n p.2,fun p W=>Zs (thaw W) W.heap.size (.slice p.1 n p.2) l/\Zb lo (.slice p.1 n p.2)⟩
theorem ja (lo n:Nat) (l:List Int) (A:Option Addr) (c:Nat):(outN lo n l).f (A,c)=.slice A n c:=rfl
theorem qdD (lo n:Nat) (l:List Int):∀ p,QJ ((outN lo n l).φ p):=fun p W W' he h=>⟨by have h1:=h.1;rw[<-VS W] at h1;have h2:=h1.ext_ (Ext.thaw he);rw[VS] at h2;exact h2,h.2⟩
theorem qeK {R:Ending->World->Prop} {a:Act} {W:World} {b:Nat} {x0 x1 x2 x3 x4 x5 x6 x7 v:Value} (h4:a.tmps[4]?.getD undef=.pointer (some ⟨b,0,none⟩)) (h5:a.tmps[5]?.getD undef=v) (hd:a.defers=[]) (aC:W.heap[b]?=some (.cells #[x0,x1,x2,x3,x4,x5,x6,x7] 32 (0,0))) (hR:R (.returned (.tuple #[.agg #[x0,x1,x2,x3,x4,x5,x6,x7],v])) W):bodyPost prog Tryz.f25 R .ret a W:=by
 refine bodyPost_ret (v:=.tuple #[.agg #[x0,x1,x2,x3,x4,x5,x6,x7],v]) ?_ hd hR;have k:=qa aC;simp[results,results25,go_sem,h4,h5,k]
def qZ (X:Nat->Prop) (w C:World):Prop:=∀ (q:Addr) (v:Value),¬X q.block->w.cell? q=some v->C.cell? q=some v
section
variable {X Y:Nat->Prop} {w W C:World}
theorem qZ.refl (X:Nat->Prop) (w:World):qZ X w w:=fun _ _ _ h=>h
theorem qZ.of_ext (h:Ext w C):qZ X w C:=fun _ _ _ hv=>Ext.cell h hv
theorem qZ.trans (h:qZ X w W) (h':qZ Y W C) (hY:∀ k,k<w.heap.size->Y k->X k):qZ X w C:=fun q v hX hv=>h' q v (fun hy=>hX (hY _ (World.block_lt_of_cell? w q hv) hy)) (h q v hX hv)
theorem qZ.mono (h:qZ X w C) (hX:∀ k,k<w.heap.size->X k->Y k):qZ Y w C:=fun q v hY hv=>h q v (fun hx=>hY (hX _ (World.block_lt_of_cell? w q hv) hx)) hv
theorem qZ.of_heap (h:∀ k,k<w.heap.size->¬X k->C.heap[k]?=w.heap[k]?):qZ X w C:=fun q v hX hv=>(World.cell?_of_block (h _ (World.block_lt_of_cell? w q hv) hX)).trans hv
theorem Rd.keepX {B size n:Nat} {A:Option Addr} {xs:List Value} (h:Rd w B size A n xs) (hs:0<size) (hk:qZ X w C) (hX:∀ k,k<B->¬X k):Rd C C.heap.size size A n xs:=⟨h.1,fun hn=>by
 obtain⟨b,off,e,hb,hc⟩:=h.2 hn;refine⟨b,off,e,?_,fun j u hu=>hk _ _ (hX b hb) (hc j u hu)⟩;have hl:0<xs.length:=by rw[h.1];exact Nat.mul_pos hn hs
 exact World.block_lt_of_cell? C ⟨b,off+0,none⟩ (hk _ _ (hX b hb) (hc 0 _ (zL hl)))⟩
theorem Bys.keepX {B:Nat} {v:Value} {l:List UInt8} (h:Bys w B v l) (hk:qZ X w C) (hX:∀ k,k<B->¬X k):Bys C C.heap.size v l:=by obtain⟨A,c,e,hc,hm,hr⟩:=h;exact⟨A,c,e,hc,hm,hr.keepX zO hk hX⟩
end
def JV (X:Nat->Prop) (w:World) (v:Value) (xs:List It):Prop:=∀ C,qZ X w C->Its C C.heap.size v xs
theorem JV.now {X:Nat->Prop} {w:World} {v:Value} {xs:List It} (h:JV X w v xs):Its w w.heap.size v xs:=h w (qZ.refl _ _)
theorem JV.trans {X Y:Nat->Prop} {w W:World} {v:Value} {xs:List It} (h:JV X w v xs) (hk:qZ X w W) (hY:∀ k,k<w.heap.size->Y k->X k):JV Y W v xs:=fun C hC=>h C (hk.trans hC hY)
theorem QA {w w':World} {base size n:Nat} {e:TypeId} {v:Value} {xs:List Value} (h:w.ownsRow base e size v n xs) (hk:∀ q,v.ownBlock=some q->w'.heap[q]?=w.heap[q]?):w'.ownsRow base e size v n xs:=
 ⟨h.1,h.2.imp id fun ⟨g,cap,cur,e1,h3,h4,h5⟩=>⟨g,cap,cur,e1,h3,(hk g (by rw[e1];rfl)).trans h4,h5⟩⟩
theorem Zj {w:World} {base size n:Nat} {e:TypeId} {v:Value} {xs:List Value} (h:w.ownsRow base e size v n xs) {q:Nat} (hq:v.ownBlock=some q):∃ cur,w.heap[q]?=some (.cells cur e (0,0)):=by
 rcases h.2 with ⟨e1,_⟩|⟨g,cap,cur,e1,_,hg,_⟩
 ·rw[e1] at hq;cases hq
 ·rw[e1] at hq;cases hq;exact⟨cur,hg⟩
def B3 (b g:Nat) (k:Option Nat) (q:Nat):Prop:=q=b\/q=g\/k=some q
def YI (B:Nat) (D:Nat->Prop) (q:Nat):Prop:=B<=q/\¬D q
theorem YI.keep {B:Nat} {D:Nat->Prop} {w W:World} (h:∀ q,q<w.heap.size->q<B\/D q->W.heap[q]?=w.heap[q]?):qZ (YI B D) w W:=qZ.of_heap fun q hq hX=>h q hq (by
 by_cases hB:q<B
 ·exact .inl hB
 ·right;by_cases hD:D q
  ·exact hD
  ·exact absurd ⟨zO,hD⟩ hX)
def Kg (n:Nat) (D D':Nat->Prop):Prop:=∀ q,D' q->D q\/n<=q
theorem Kg.refl (n:Nat) (D:Nat->Prop):Kg n D D:=fun _ h=>.inl h
theorem Kg.mono {n n':Nat} {D D':Nat->Prop} (h:Kg n D D') (hn:n'<=n):Kg n' D D':=fun q hq=>(h q hq).imp id fun h=>zO
theorem Kg.trans {n n':Nat} {D D' D'':Nat->Prop} (h:Kg n D D') (h':Kg n' D' D'') (hn:n<=n'):Kg n D D'':=fun q hq=>(h' q hq).elim (fun h1=>h q h1) fun h1=>.inr zO
structure qV (lo b g:Nat) (k:Option Nat) (w W:World):Prop where
 below:Below lo w W
 rows:∀ q,q<w.heap.size->¬B3 b g k q->W.heap[q]?=w.heap[q]?
def Zc (n:Nat) (k k':Option Nat):Prop:=∀ q,k'=some q->k=some q\/n<=q
theorem Zc.refl (n:Nat) (k:Option Nat):Zc n k k:=fun _ h=>.inl h
theorem Zc.mono {n n':Nat} {k k':Option Nat} (h:Zc n k k') (hn:n'<=n):Zc n' k k':=fun q hq=>(h q hq).imp id fun h=>zO
theorem Zc.trans {n n':Nat} {k k' k'':Option Nat} (h:Zc n k k') (h':Zc n' k' k'') (hn:n<=n'):Zc n k k'':=fun q hq=>(h' q hq).elim (fun h1=>h q h1) fun h1=>.inr zO
section
variable {lo b g:Nat} {k k':Option Nat} {w W C:World}
theorem qV.refl (lo b g:Nat) (k:Option Nat) (w:World):qV lo b g k w w:=⟨Below.refl _ _,fun _ _ _=>rfl⟩
theorem qV.of_ext (h:Ext w W) (hl:lo<=w.heap.size):qV lo b g k w W:=⟨Below.mono h hl,fun q hq _=>Below.block h q hq⟩
theorem qV.trans (h:qV lo b g k w W) (h':qV lo b g k' W C) (hk:Zc w.heap.size k k'):qV lo b g k w C:=⟨h.below.trans h'.below,fun q hq hn=>(h'.rows q (by have:=h.below.size;omega) fun hx=>hn (by
 rcases hx with e|e|e
 ·exact .inl e
 ·exact .inr (.inl e)
 ·exact(hk q e).elim (fun h=>.inr (.inr h)) fun h=>zO)).trans (h.rows q hq hn)⟩
theorem qV.keepX (h:qV lo b g k w W):qZ (B3 b g k) w W:=qZ.of_heap fun q hq hX=>h.rows q hq hX
theorem qV.own (h:qV lo b g k w W) {base n size:Nat} {e:TypeId} {v:Value} {xs:List Value} (ho:w.ownsRow base e size v n xs) (hn:∀ q,v.ownBlock=some q->¬B3 b g k q):W.ownsRow base e size v n xs:=QA ho fun q hq=>h.rows q (Ql ho q hq).2 (hn q hq)
theorem qV.row (h:qV lo b g k w W) {q:Nat} {o:Obj} (hr:w.heap[q]?=some o) (hn:¬B3 b g k q):W.heap[q]?=some o:=(h.rows q (zG.1 hr).1 hn).trans hr
theorem B3.of_new (hk:Zc w.heap.size k k'):∀ q,q<w.heap.size->B3 b g k' q->B3 b g k q:=fun q hq hx=>by
 rcases hx with e|e|e
 ·exact .inl e
 ·exact .inr (.inl e)
 ·exact(hk q e).elim (fun h=>.inr (.inr h)) fun h=>zO
end
def WsB (D:Nat->Prop) (B lo b g:Nat) (k:Option Nat) (v:Value) (ws:List (Int×List UInt8)) (w:World):Prop:=∃ ps:List ((Int×List UInt8)×Value),ps.map (·.1)=ws /\
 ((k=none/\ws.length<=maxLen/\∃ A,v=.slice A ws.length ws.length/\Rd w B 2 A ws.length (ZX ps))\/(∃ q,k=some q/\v.ownBlock=some q/\w.ownsRow lo 130 2 v ws.length (ZX ps))) /\
 ∀ p∈ps,(∃ A c,p.2=.slice A p.1.2.length c)/\∀ C,qZ (YI B D) w C->Bys C C.heap.size p.2 p.1.2
theorem WsB.ext {D:Nat->Prop} {B lo b g:Nat} {k:Option Nat} {v:Value} {ws:List (Int×List UInt8)} {w W:World} (h:WsB D B lo b g k v ws w) (hx:Ext w W) (hB:B<=w.heap.size):WsB D B lo b g k v ws W:=by
 obtain⟨ps,e,hw,hp⟩:=h;refine⟨ps,e,?_,fun p af=>⟨(hp p af).1,fun C hC=>(hp p af).2 C ((qZ.of_ext hx).trans hC fun _ _ h=>h)⟩⟩;rcases hw with ⟨e,hm,A,e2,hr⟩|⟨q,e,e2,how⟩
 ·exact .inl ⟨e,hm,A,e2,hr.below (Below.mono hx hB)⟩
 ·exact .inr ⟨q,e,e2,QA how fun q' oH=>Below.block hx q' (Ql how q' oH).2⟩
theorem WsB.mono {D D':Nat->Prop} {B lo b g:Nat} {k:Option Nat} {v:Value} {ws:List (Int×List UInt8)} {w:World} (h:WsB D B lo b g k v ws w) (hD:∀ q,D q->D' q):WsB D' B lo b g k v ws w:=by obtain⟨ps,e,hw,hp⟩:=h;exact⟨ps,e,hw,fun p af=>⟨(hp p af).1,fun C hC=>(hp p af).2 C (hC.mono fun q _ hx=>⟨hx.1,fun h=>hx.2 (hD q h)⟩)⟩⟩
structure Bch (D:Nat->Prop) (B lo b g:Nat) (k:Option Nat) (S:Sto) (w:World):Prop where
 lob:lo<=b
 blo:B<=lo
 dB:∀ q,D q->lo<=q/\q<w.heap.size/\¬B3 b g k q
 ex:∃ A1 n1 c1 v2 c3 A4 c4,w.heap[b]?=some (.cells #[.slice A1 n1 c1,v2,.slice (some ⟨g,0,none⟩) 256 c3,.slice A4 256 c4] 191 (0,0))/\w.ownsRow lo 5 1 (.slice (some ⟨g,0,none⟩) 256 c3) 256 (S.now.map bv) /\
  WsB D B lo b g k v2 S.ws w/\Bls w B (.slice A1 n1 c1) S.bs/\Bys w B (.slice A4 256 c4) S.last
section
variable {D:Nat->Prop} {B lo b g:Nat} {k:Option Nat} {S:Sto} {w W:World}
theorem Bch.size (h:Bch D B lo b g k S w):lo<=b/\b<w.heap.size/\lo<=g/\g<w.heap.size/\g≠b/\lo<=w.heap.size/\∀ q,k=some q->lo<=q/\q<w.heap.size/\q≠b/\q≠g:=by
 have h1:=h.lob;obtain⟨A1,n1,c1,v2,c3,A4,c4,hr,ho,⟨ps,_,hw,_⟩,_,_⟩:=h.ex;have hb:=(zG.1 hr).1;obtain⟨_,_,uV,hzg⟩:=zm ho;obtain⟨cur,hg⟩:=Zj ho (q:=g) rfl;refine⟨h1,hb,uV,hzg,qM hg hr zA1,zO,fun q hq=>?_⟩;rcases hw with ⟨e,_⟩|⟨q',e,e2,how⟩
 ·rw[e] at hq;cases hq
 ·rw[e] at hq;cases hq;obtain⟨cur2,mX⟩:=Zj how e2;have:=Ql how _ e2;exact⟨this.1,this.2,qM mX hr zA1,qM mX hg zA1⟩
theorem Bch.b3 (h:Bch D B lo b g k S w):∀ q,B3 b g k q->lo<=q/\q<w.heap.size:=fun q hq=>by
 obtain⟨h1,h2,h3,h4,_,_,h5⟩:=h.size;rcases hq with rfl|rfl|e
 ·exact⟨h1,h2⟩
 ·exact⟨h3,h4⟩
 ·exact⟨(h5 q e).1,(h5 q e).2.1⟩
theorem Bch.off (h:Bch D B lo b g k S w):∀ q,q<B->¬B3 b g k q:=fun q hq hx=>by have h1:=h.blo;have:=(h.b3 q hx).1;omega
theorem Bch.offk (h:Bch D B lo b g k S w):∀ q,B3 b g k q->¬(q<B\/D q):=fun q hx hq=>hq.elim (fun h1=>h.off q h1 hx) fun h1=>(h.dB q h1).2.2 hx
theorem Bch.keep (h:Bch D B lo b g k S w) (hB:Below B w W) (hr:∀ q,B3 b g k q\/D q->W.heap[q]?=w.heap[q]?):Bch D B lo b g k S W:=by
 have hs:=hB.size;have hx:qZ (YI B D) w W:=YI.keep fun q hq h1=>h1.elim (fun h1=>hB.block q h1) fun h1=>hr q (.inr h1);obtain⟨A1,n1,c1,v2,c3,A4,c4,lq,ho,⟨ps,e,hw,hp⟩,h1,h4⟩:=h.ex;refine⟨h.lob,h.blo,fun q hq=>⟨(h.dB q hq).1,by have:=(h.dB q hq).2.1;omega,(h.dB q hq).2.2⟩,A1,n1,c1,v2,c3,A4,c4,(hr _ (.inl (.inl rfl))).trans lq,QA ho (fun q hq=>by cases hq;exact hr _ (.inl (.inr (.inl rfl)))),⟨ps,e,?_,fun p af=>⟨(hp p af).1,fun C hC=>(hp p af).2 C (hx.trans hC fun _ _ h=>h)⟩⟩,h1.below hB,h4.below hB⟩;rcases hw with ⟨e,hm,A,e2,hr⟩|⟨q,e,e2,how⟩
 ·exact .inl ⟨e,hm,A,e2,hr.below hB⟩
 ·exact .inr ⟨q,e,e2,QA how fun q' oH=>by rw[e2] at oH;cases oH;exact hr q (.inl (.inr (.inr e)))⟩
theorem Bch.ext (h:Bch D B lo b g k S w) (hx:Ext w W):Bch D B lo b g k S W:=by have h6:=h.size.2.2.2.2.2.1;have h1:=h.blo;exact h.keep (Below.mono hx zO) fun q hq=>Below.block hx q (hq.elim (fun h2=>(h.b3 q h2).2) fun h2=>(h.dB q h2).2.1)
theorem Bch.keepX {X:Nat->Prop} (h:Bch D B lo b g k S w) (hB:Below B w W) (hr:∀ q,q<w.heap.size->¬X q->W.heap[q]?=w.heap[q]?) (hX:∀ q,B3 b g k q\/D q->¬X q):Bch D B lo b g k S W:=
 h.keep hB fun q hq=>hr q (hq.elim (fun h2=>(h.b3 q h2).2) fun h2=>(h.dB q h2).2.1) (hX q hq)
theorem Bch.mono {D':Nat->Prop} (h:Bch D B lo b g k S w) (hD:∀ q,D q->D' q) (hB:∀ q,D' q->lo<=q/\q<w.heap.size/\¬B3 b g k q):Bch D' B lo b g k S w:=by obtain⟨A1,n1,c1,v2,c3,A4,c4,lq,ho,hw,h1,h4⟩:=h.ex;exact⟨h.lob,h.blo,hB,A1,n1,c1,v2,c3,A4,c4,lq,ho,hw.mono hD,h1,h4⟩
theorem Bch.count (h:Bch D B lo b g k S w) {a:Nat} (ha:a<256) (x:UInt8):Bch D B lo b g k (qt S (S.now.set a x)) (w.setCell ⟨g,a,none⟩ (bv x))/\qV lo b g k w (w.setCell ⟨g,a,none⟩ (bv x)):=by
 obtain⟨lJ,_,uV,_,rE,_,h5⟩:=h.size;have dO:=h.blo;have hkd:=h.offk;obtain⟨A1,n1,c1,v2,c3,A4,c4,hr,ho,⟨ps,e,hw,hp⟩,h1,h4⟩:=h.ex;have hK:qV lo b g k w (w.setCell ⟨g,a,none⟩ (bv x)):=⟨Below.setCell (Below.refl _ _) (p:=⟨g,a,none⟩) uV _,fun q _ hn=>zJ _ _ _ _ fun e=>hn (.inr (.inl e))⟩
 have hX:qZ (YI B D) w (w.setCell ⟨g,a,none⟩ (bv x)):=YI.keep fun q _ hq=>zJ _ _ _ _ fun e=>hkd g (.inr (.inl rfl)) (by have e':q=g:=e;exact e' ▸ hq);have hB:Below B w (w.setCell ⟨g,a,none⟩ (bv x)):=Below.setCell (Below.refl _ _) (p:=⟨g,a,none⟩) (by show B<=g;omega) _;refine⟨⟨lJ,dO,fun q hq=>by simpa using h.dB q hq,A1,n1,c1,v2,c3,A4,c4,(zJ _ _ _ _ fun e=>rE e.symm).trans hr,UA ho ha x,⟨ps,e,?_,fun p af=>⟨(hp p af).1,fun C hC=>(hp p af).2 C (hX.trans hC fun _ _ h=>h)⟩⟩,h1.below hB,h4.below hB⟩,hK⟩;rcases hw with ⟨e,hm,A,e2,hr⟩|⟨q,e,e2,how⟩
 ·exact .inl ⟨e,hm,A,e2,hr.below hB⟩
 ·exact .inr ⟨q,e,e2,QA how fun q' oH=>by rw[e2] at oH;cases oH;exact zJ _ _ _ _ (h5 q e).2.2.2⟩
theorem qcM (ps:List ((Int×List UInt8)×Value)) (p:(Int×List UInt8)×Value):ZX (ps++[p])=ZX ps++[.int .i64 p.1.1,p.2]:=by
 induction ps with
 |nil=>rfl
 |cons a r ih=>simp[ZX,ih]
theorem Bch.sto (h:Bch D B lo b g k S w):∃ A1 n1 c1 A2 n2 c2 c3 A4 c4,w.heap[b]?=some (.cells #[.slice A1 n1 c1,.slice A2 n2 c2,.slice (some ⟨g,0,none⟩) 256 c3,.slice A4 256 c4] 191 (0,0))/\qX w w.heap.size (.slice A1 n1 c1) (.slice A2 n2 c2) (.slice (some ⟨g,0,none⟩) 256 c3) (.slice A4 256 c4) S:=by
 have h6:=h.size.2.2.2.2.2.1;have dO:=h.blo;obtain⟨A1,n1,c1,v2,c3,A4,c4,hr,ho,⟨ps,e,hw,hp⟩,h1,h4⟩:=h.ex;have hv:∃ A2 n2 c2,v2=.slice A2 n2 c2/\Wrs w w.heap.size (.slice A2 n2 c2) S.ws:=by
  rcases hw with ⟨_,hm,A,rfl,oI⟩|⟨q,_,_,how⟩
  ·exact⟨A,_,_,rfl,ps,e,⟨A,_,rfl,zM _,hm,oI.more zO⟩,fun p af=>⟨(hp p af).1,(hp p af).2 w (qZ.refl _ _)⟩⟩
  ·obtain⟨A,c,rfl,dS,bJ⟩:=qy how;exact⟨A,_,_,rfl,ps,e,⟨A,c,rfl,dS,bJ,Rd.of_own how⟩,fun p af=>⟨(hp p af).1,(hp p af).2 w (qZ.refl _ _)⟩⟩
 obtain⟨A2,n2,c2,rfl,hW⟩:=hv;exact⟨A1,n1,c1,A2,n2,c2,c3,A4,c4,hr,h1.more zO,hW,Bys.of_own ho,h4.more zO⟩
end
set_option maxRecDepth 100000 in
theorem qeS (x:It) (hx:jq x) (hb:itB x.r x.val.length=true) (A:Option Addr) (c:Nat) (w:World) (h:Bys w w.heap.size (.slice A x.val.length c) x.val):Calls prog 177 #[Va x.k x.i x.o x.r A x.val.length c] w (QV (IsB0 w.heap.size (12+x.val.length) (jY x)) w):=by
 have HC:=zH (fun W=>Jm x.k x.i x.o x.r A x.val.length c W);rw[hb,show Jg true=0 from rfl] at HC;obtain⟨kk,ki,ko,kr,l⟩:=x;obtain⟨⟨hk1,yx⟩,⟨yE,dD⟩,⟨ho1,ho2⟩,⟨lm,hr2⟩,hl⟩:=hx;dsimp only at *;clear hb;obtain⟨k,rfl⟩:=Int.eq_ofNat_of_zero_le hk1;obtain⟨i,rfl⟩:=Int.eq_ofNat_of_zero_le yE;obtain⟨o,rfl⟩:=Int.eq_ofNat_of_zero_le ho1;obtain⟨r,rfl⟩:=Int.eq_ofNat_of_zero_le lm;have HB:Hid (jY ⟨k,i,o,r,l⟩=[[UInt8.ofNat k],qz i 4,qz o 4,qz r 2,[UInt8.ofNat l.length],l].flatten):=by refine zH ?_;simp[jY]
 have bP:bv (UInt8.ofNat k)=.int .u8 (k:Int):=by simp[bv];omega
 have lJ:bv (UInt8.ofNat l.length)=.int .u8 ((l.length:Nat):Int):=by simp[bv];omega
 have HL:Hid ([[UInt8.ofNat k],qz i 4,qz o 4,qz r 2,[UInt8.ofNat l.length],l].flatten.length=12+l.length):=by refine zH ?_;simp[zF];omega
 have hcv:IntKind.u8.wrap ((l.length:Nat):Int)=((l.length:Nat):Int):=by simp[IntKind.wrap,IntKind.bits,IntKind.signed];omega
 replace bP:=zH bP;replace lJ:=zH lJ;replace h:=zH h;rw[HB.out];clear HB;generalize hFL:[[UInt8.ofNat k],qz i 4,qz o 4,qz r 2,[UInt8.ofNat l.length],l]=FL at *;go_enter func177,ntmps177;go_wp2_with fail;generalize aA:World.alloc w _=w1;have x1:Ext w w1:=by rw[<-aA];exact zN _ _
 have r1:w1.heap[w.heap.size]?=some (.cells #[.int .u8 k,.int .u32 i,.int .u32 o,.int .i64 r,.slice A l.length c] 68 (0,0)):=by rw[<-aA];exact zI _ _ _ rfl
 clear aA;refine(HC.out w1).mono ?_;rintro e w2 ⟨rfl,hB⟩;have x2:Ext w w2:=Ext.trans x1 hB;have r2:=qb r1 hB;have k2:=qa r2;clear hB r1 x1 HC;go_wp2_with fail;refine(qcf r zO _).mono ?_;rintro e w3 ⟨u,rfl,⟨u2,rfl,A2,c2,rfl,bI,hf2⟩,hB⟩;have x3:Ext w w3:=Ext.trans x2 hB;have r3:=qb r2 hB;clear hB k2 r2 x2;go_wp2_with fail;have hE:∀ W,Ext w3 W->∀ j,W.cell? ⟨w.heap.size,j,none⟩=#[.int .u8 k,.int .u32 i,.int .u32 o,.int .i64 r,.slice A l.length c][j]?:=fun W h=>qa (qb r3 h);refine zl (qD [(3,jm w3.heap.size 1 5 #[.int .u8 k]),(7,Kk w3.heap.size 4 (qz i 4)),(11,Kk w3.heap.size 4 (qz o 4)),(17,jm w3.heap.size 1 5 #[.int .u8 (l.length:Nat)]),(20,vd w3.heap.size 6 26 (JB FL)),(21,Kk w3.heap.size (12+l.length) FL.flatten)]) 22 zQ zQ zQ zA1 zQ zQ ?st ?walk
 case st=>exact zY (by simp only[List.forall_mem_cons];exact⟨Jw _ _ _ _,jl _ _ _,jl _ _ _,Jw _ _ _ _,vH (JB.stable _),jl _ _ _,fun _ h=>by cases h⟩)
 case walk =>
  intro K hK;dsimp only[List.take];repeat ((first|(refine qL ?_ zA0 zA0 (fun W hW _=>⟨W,?_,Ext.refl W⟩) ?_;rotate_left;(go_simp<;>with_reducible rfl))|(refine qT zA0 ?_));try simp only[Act.put,ql,qf,qc,qg,qN,Qj,qf,zA,zB,zC])
  refine Qx (jm w3.heap.size 1 5 #[.int .u8 k]) zA0 zA0 (fun W hW _=>?_) (fun (p3:Nat)=>?_)
  ·refine kz ?_ hW.size;go_simp
  simp only[Act.put,qf,qc,qg,qN,Qj,qf,zA,zB,zC];repeat ((first|(refine qL ?_ zA0 zA0 (fun W hW _=>⟨W,?_,Ext.refl W⟩) ?_;rotate_left;(go_simp<;>with_reducible rfl))|(refine qT zA0 ?_));try simp only[Act.put,ql,qf,qc,qg,qN,Qj,qf,zA,zB,zC])
  refine Qx (Kk w3.heap.size 4 (qz i 4)) zA0 zA0 (fun W hW _=>?_) (fun p7=>?_)
  ·refine QP ?_ ((Kr i zO W).mono fun e w' h=>?_)
   ·go_simp
   obtain⟨u,rfl,⟨A,c,rfl,h1,h2⟩,h3⟩:=h;exact⟨(A,c),rfl,⟨h1,h2.mono hW.size⟩,h3⟩
  obtain⟨A7,c7⟩:=p7;simp only[Act.put,qf,qc,qg,qN,Qj,qf,zA,zB,zC];repeat ((first|(refine qL ?_ zA0 zA0 (fun W hW _=>⟨W,?_,Ext.refl W⟩) ?_;rotate_left;(go_simp<;>with_reducible rfl))|(refine qT zA0 ?_));try simp only[Act.put,ql,qf,qc,qg,qN,Qj,qf,zA,zB,zC])
  refine Qx (Kk w3.heap.size 4 (qz o 4)) zA0 zA0 (fun W hW _=>?_) (fun p11=>?_)
  ·refine QP ?_ ((Kr o zO W).mono fun e w' h=>?_)
   ·go_simp
   obtain⟨u,rfl,⟨A,c,rfl,h1,h2⟩,h3⟩:=h;exact⟨(A,c),rfl,⟨h1,h2.mono hW.size⟩,h3⟩
  obtain⟨A11,c11⟩:=p11;simp only[Act.put,qf,qc,qg,qN,Qj,qf,zA,zB,zC];repeat ((first|(refine qL ?_ zA0 zA0 (fun W hW _=>⟨W,?_,Ext.refl W⟩) ?_;rotate_left;(go_simp<;>with_reducible rfl))|(refine qT zA0 ?_));try simp only[Act.put,ql,qf,qc,qg,qN,Qj,qf,zA,zB,zC])
  refine Qx (jm w3.heap.size 1 5 #[.int .u8 (l.length:Nat)]) zA0 zA0 (fun W hW _=>?_) (fun (p17:Nat)=>?_)
  ·refine kz ?_ hW.size;go_simp
  simp only[Act.put,qf,qc,qg,qN,Qj,qf,zA,zB,zC];repeat ((first|(refine qL ?_ zA0 zA0 (fun W hW _=>⟨W,?_,Ext.refl W⟩) ?_;rotate_left;(go_simp<;>with_reducible rfl))|(refine qT zA0 ?_));try simp only[Act.put,ql,qf,qc,qg,qN,Qj,qf,zA,zB,zC])
  refine Qx (vd w3.heap.size 6 26 (JB FL)) zA0 zA0 (fun W hW hp=>?_) (fun (p20:Nat)=>?_)
  ·obtain⟨f3,_⟩:W.heap[p3]?=some (.cells #[.int .u8 k] 5 (0,0))/\w3.heap.size<=p3:=(hp 3 zA1).1;obtain⟨f7,_⟩:Bys W W.heap.size (.slice A7 4 c7) (qz i 4)/\_:=(hp 7 zA1).1;obtain⟨f11,_⟩:Bys W W.heap.size (.slice A11 4 c11) (qz o 4)/\_:=(hp 11 zA1).1;obtain⟨f17,_⟩:W.heap[p17]?=some (.cells #[.int .u8 (l.length:Nat)] 5 (0,0))/\w3.heap.size<=p17:=(hp 17 zA1).1;have hR:JB FL [.slice (some ⟨p3,0,none⟩) 1 1,.slice A7 4 c7,.slice A11 4 c11,.slice A2 2 c2,.slice (some ⟨p17,0,none⟩) 1 1,.slice A l.length c] W:=by
    subst hFL;rw[<-bP.out] at f3;rw[<-lJ.out] at f17;refine⟨rfl,fun j v m hv hl=>?_⟩;rcases j with _|_|_|_|_|_|j
    ·cases hv;cases hl;exact Bys.lit (l:=[UInt8.ofNat k]) f3 (by simp[maxLen])
    ·cases hv;cases hl;exact f7
    ·cases hv;cases hl;exact f11
    ·cases hv;cases hl;exact(bI.below hW).more hW.size
    ·cases hv;cases hl;exact Bys.lit (l:=[UInt8.ofNat l.length]) f17 (by simp[maxLen])
    ·cases hv;cases hl;exact(h.out.below (Ext.trans x3 hW)).more (Ext.trans x3 hW).size
    ·simp at hv
   refine Ku (cs:=#[.slice (some ⟨p3,0,none⟩) 1 1,.slice A7 4 c7,.slice A11 4 c11,.slice A2 2 c2,.slice (some ⟨p17,0,none⟩) 1 1,.slice A l.length c]) ?_ hW.size rfl ?_
   ·go_simp
   ·exact JB.stable _ _ _ _ (zN _ _) hR
  simp only[Act.put,qf,qc,qg,qN,Qj,qf,zA,zB,zC];refine Qx (Kk w3.heap.size (12+l.length) FL.flatten) zA0 zA0 (fun W hW hp=>?_) (fun p21=>?_)
  ·obtain⟨_,cs,bU,aC,hR⟩:=(hp 20 zA1).1;have hFn:FL.length=6:=by rw[<-hFL];rfl
   refine QP ?_ ((vW (some ⟨p20,0,none⟩) 6 6 cs.toList FL (by simpa using bU) hFn W (Rd.row aC 6 bU) (fun i v l h1 h2=>hR.2 i v l h1 h2) zO (by rw[HL.out];omega)).mono fun e w' h=>?_)
   ·go_simp
   rw[HL.out] at h;exact KD h hW.size
  obtain⟨A21,c21⟩:=p21;simp only[Act.put,qf,qc,qg,qN,Qj,qf,zA,zB,zC];repeat ((first|(refine qL ?_ zA0 zA0 (fun W hW _=>⟨W,?_,Ext.refl W⟩) ?_;rotate_left;(go_simp<;>with_reducible rfl))|(refine qT zA0 ?_));try simp only[Act.put,ql,qf,qc,qg,qN,Qj,qf,zA,zB,zC])
  refine Zo (hK _ _ fun W hW hF=>?_);obtain⟨f21,g21⟩:Bys W W.heap.size (.slice A21 (12+l.length) c21) FL.flatten/\Zb w3.heap.size (.slice A21 (12+l.length) c21):=(hF 21).1;clear hF hK hE;have x4:Ext w W:=x3.trans hW;dsimp only[List.drop];go_wp2;refine bodyPost_ret (v:=.tuple #[.slice A21 (12+l.length) c21,.int .i64 0]) (by simp[results,results177,go_sem]) rfl ⟨_,rfl,⟨_,rfl,A21,c21,rfl,f21,g21.mono (by have:=x3.size;omega)⟩,x4⟩
def XN (n:Nat) (b:List UInt8):List UInt8:=b++List.replicate (n-b.length) 0
theorem VO {n:Nat} {b:List UInt8} (h:b.length<=n):(XN n b).length=n:=by simp[XN];omega
theorem pad_row (n:Nat) (b:List UInt8):List.take 0 (List.map bv (List.replicate n 0)).toArray.toList++List.map bv b++List.drop (0+b.length) (List.map bv (List.replicate n 0)).toArray.toList=(XN n b).map bv:=by simp[XN,List.map_replicate,List.drop_replicate]
end Go.Proofs.YtpbniokljofedaaGreat
