/- Texts RTwin, OnOwn, Up, DWrite, ShareR, LooseR, Bch, joined. -/
import Derived.Test.YtpbniokljofedaaGreatZE05
import Derived.Test.YtpbniokljofedaaGreatZE07
import Derived.Test.YtpbniokljofedaaGreatZE13
import Derived.Test.YtpbniokljofedaaGreatZE14
import Derived.Test.YtpbniokljofedaaGreatZE16
set_option linter.unusedSimpArgs false
set_option linter.unusedVariables false
set_option maxHeartbeats 8000000
set_option maxRecDepth 100000
namespace Go.Proofs.YtpbniokljofedaaGreat
open Go.RowKit
def outDT (lo:Nat) (bs:List (List UInt8)) (ws:List (Int×List UInt8)):qS:=⟨Nat×Nat×Nat,fun p=>YS (some ⟨p.1,0,none⟩) bs.length bs.length (some ⟨p.2.1,0,none⟩) ws.length (ws.length+1),fun p W=>Jh lo bs ws p.1 p.2.1 p.2.2 W⟩
theorem Kb (lo:Nat) (bs:List (List UInt8)) (ws:List (Int×List UInt8)) (b c g:Nat):(outDT lo bs ws).f (b,c,g)=YS (some ⟨b,0,none⟩) bs.length bs.length (some ⟨c,0,none⟩) ws.length (ws.length+1):=rfl
theorem qcB (lo:Nat) (bs:List (List UInt8)) (ws:List (Int×List UInt8)):∀ p,qD ql ((outDT lo bs ws).φ p):=fun p W W' he h=>by
 have he:Ext W W':=he
 exact Jh.keep h (zM _) he.size fun b _ hb=>he.block b hb
def TT (lo:Nat) (l:List UInt8):qS:=⟨Option Addr×Nat,fun p=>.slice p.1 l.length p.2,fun p W=>W.ownsRow lo 5 1 (.slice p.1 l.length p.2) l.length (l.map bv)⟩
theorem vT (lo:Nat) (l:List UInt8) (A:Option Addr) (c:Nat):(TT lo l).f (A,c)=.slice A l.length c:=rfl
theorem YI (lo:Nat) (l:List UInt8):∀ p,qD ql ((TT lo l).φ p):=fun p W W' he h=>QT h he
theorem Zn {w w':World} {lo:Nat} {e:TypeId} {size:Nat} {v:Value} {n:Nat} {xs:List Value} (h:w.ownsRow lo e size v n xs) (hk:∀ b,lo≤b→b<w.heap.size→w'.heap[b]?=w.heap[b]?):w'.ownsRow lo e size v n xs:=
 ⟨h.1,h.2.imp id fun ⟨g,cap,cur,h1,h2,h3,h4⟩=>⟨g,cap,cur,h1,h2,(hk g h2 (zG.1 h3).1).trans h3,h4⟩⟩
def QD (lo:Nat) (S:Sto) (u:Value) (W:World):Prop:=∃ BB WW g A3 c3 A4 c4,u=Qa (some ⟨BB,0,none⟩) S.bs.length S.bs.length (some ⟨WW,0,none⟩) S.ws.length (S.ws.length+1) A3 S.now.length c3 A4 S.last.length c4∧Jh lo S.bs S.ws BB WW g W ∧
 W.ownsRow lo 5 1 (.slice A3 S.now.length c3) S.now.length (S.now.map bv)∧W.ownsRow lo 5 1 (.slice A4 S.last.length c4) S.last.length (S.last.map bv)
theorem QD.keep {lo lo':Nat} {S:Sto} {u:Value} {W W2:World} (h:QD lo S u W) (hl:lo'≤lo) (hs:W.heap.size≤W2.heap.size) (hk:∀ b,lo≤b→b<W.heap.size→W2.heap[b]?=W.heap[b]?):QD lo' S u W2:=by
 obtain⟨BB,WW,g,A3,c3,A4,c4,e,h1,h2,h3⟩:=h
 exact⟨BB,WW,g,A3,c3,A4,c4,e,h1.keep hl hs hk,QE (Zn h2 hk) hl,QE (Zn h3 hk) hl⟩
theorem qbo {w w':World} {lo:Nat} {e:TypeId} {size:Nat} {v:Value} {n:Nat} {xs:List Value} (h:w.ownsRow lo e size v n xs) {b1:Nat} {c1:Array Value} {t1:TypeId} (h1:w.heap[b1]?=some (.cells c1 t1 (0,0))) (ht:t1≠e) (hk:∀ b,lo≤b→b<w.heap.size→b≠b1→w'.heap[b]?=w.heap[b]?):w'.ownsRow lo e size v n xs:=
 ⟨h.1,h.2.imp id fun ⟨g,cap,cur,g1,g2,h3,h4⟩=>⟨g,cap,cur,g1,g2,(hk g g2 (zG.1 h3).1 (qI h3 h1 fun e=>ht e.symm)).trans h3,h4⟩⟩
theorem QD.keepT {lo lo':Nat} {S:Sto} {u:Value} {W W2:World} (h:QD lo S u W) (hl:lo'≤lo) (hs:W.heap.size≤W2.heap.size) {b1:Nat} {c1:Array Value} {t1:TypeId} (hr:W.heap[b1]?=some (.cells c1 t1 (0,0))) (ht:t1≠26∧t1≠130∧t1≠5) (hk:∀ b,lo≤b→b<W.heap.size→b≠b1→W2.heap[b]?=W.heap[b]?):QD lo' S u W2:=by
 obtain⟨BB,WW,g,A3,c3,A4,c4,e,h1,h2,h3⟩:=h
 exact⟨BB,WW,g,A3,c3,A4,c4,e,h1.keepT hl hs hr ht hk,QE (qbo h2 hr ht.2.2 hk) hl,QE (qbo h3 hr ht.2.2 hk) hl⟩
theorem qbc (A1:Option Addr) (n1 c1:Nat) (A2:Option Addr) (n2 c2:Nat) (A3:Option Addr) (n3 c3:Nat) (A4:Option Addr) (n4 c4:Nat) (S:Sto) (hS:Uo S) (w:World) (h:qT w w.heap.size (.slice A1 n1 c1) (.slice A2 n2 c2) (.slice A3 n3 c3) (.slice A4 n4 c4) S) :
  Calls Tryz.prog 152 #[Qa A1 n1 c1 A2 n2 c2 A3 n3 c3 A4 n4 c4] w (zE (QD w.heap.size S) w):=by
 have HD:=zH (fun W (hW:Ext w W)=>qhA A1 n1 c1 A2 n2 c2 S.bs S.ws hS.bs hS.ws hS.be hS.we W (h.ext hW).bs (h.ext hW).ws)
 have HN:=zH (fun W (hW:Ext w W)=>vR _ S.now (by have:=hS.now;omega) W (h.ext hW).now)
 have HL:=zH (fun W (hW:Ext w W)=>vR _ S.last (by have:=hS.last;omega) W (h.ext hW).last)
 clear h hS
 go_enter Tryz.func152,Tryz.ntmps152
 go_wp2_with fail
 generalize hw1:(World.alloc (World.alloc _ _) _)=w1
 have x1:Ext w w1:=by rw[←hw1];exact(zN _ _).trans (zN _ _)
 have r1:w1.heap[w.heap.size]?=some (.cells #[.slice A1 n1 c1,.slice A2 n2 c2,.slice A3 n3 c3,.slice A4 n4 c4] 28 (0,0)):=by rw[←hw1];exact(zK _ _ _ (by simp)).trans (zI _ _ _ rfl)
 have q1:w1.heap[w.heap.size+1]?=some (.cells #[.slice none 0 0,.slice none 0 0,.slice none 0 0,.slice none 0 0] 28 (0,0)):=by rw[←hw1];exact zI _ _ _ (by simp)
 clear hw1
 have g1:∀ W,ql.r w1 W→∀ i,W.cell? ⟨w.heap.size,i,none⟩=#[.slice A1 n1 c1,.slice A2 n2 c2,.slice A3 n3 c3,.slice A4 n4 c4][i]?:=fun W h=>qa (qb r1 h)
 refine qm (by kernel_rfl) ?_
 refine qO (w:=w1) ql (qE [(2,outDT w1.heap.size S.bs S.ws),(5,TT w1.heap.size S.now),(8,TT w1.heap.size S.last)])
  [true,true,true,true,true,true,true,true,true,true] 1 (by kernel_rfl) (by kernel_rfl) (by kernel_rfl) (by kernel_rfl) (by kernel_rfl) (by kernel_rfl) (by kernel_rfl) ?st (Rel.drew _ _) ?walk
 case st=>exact qk (by simp only[List.forall_mem_cons];exact⟨qcB _ _ _,YI _ _,YI _ _,fun _ h=>by cases h⟩)
 case walk =>
  intro K hK
  dsimp only[qp]
  repeat ((first|(refine qe ?_ (by rfl) (by rfl) (fun W hW _=>⟨W,?_,Rel.refl _ W⟩) ?_;rotate_left;(first|(go_simp;with_reducible rfl)|(go_simp;done)))|(refine qh (by rfl) ?_));try simp only[Act.put,qj,qf,qc,qg,Kb,vT,zA,zB,zC])
  refine qv (outDT w1.heap.size S.bs S.ws) (by rfl) (by rfl) (fun W hW _=>?_) (fun p=>?_)
  ·refine Qc ?_ ((HD.out W (Ext.trans x1 hW)).mono fun e w' h=>?_)
   ·go_simp
   have hW:Ext w1 W:=hW
   obtain⟨b,c,g,rfl,h1,hB⟩:=h
   exact⟨(b,c,g),rfl,h1.keep hW.size (zM _) (fun _ _ _=>rfl),hB⟩
  obtain⟨bb,cc,gg⟩:=p
  simp only[Act.put,qj,qf,qc,qg,Kb,vT,zA,zB,zC]
  repeat ((first|(refine qe ?_ (by rfl) (by rfl) (fun W hW _=>⟨W,?_,Rel.refl _ W⟩) ?_;rotate_left;(first|(go_simp;with_reducible rfl)|(go_simp;done)))|(refine qh (by rfl) ?_));try simp only[Act.put,qj,qf,qc,qg,Kb,vT,zA,zB,zC])
  refine qv (TT w1.heap.size S.now) (by rfl) (by rfl) (fun W hW _=>?_) (fun p=>?_)
  ·refine Qc ?_ ((HN.out W (Ext.trans x1 hW)).mono fun e w' h=>?_)
   ·go_simp
   have hW:Ext w1 W:=hW
   obtain⟨u,rfl,hu,hB⟩:=h
   obtain⟨A,c,rfl,_,_⟩:=qw hu
   exact⟨(A,c),rfl,QE hu hW.size,hB⟩
  obtain⟨B3,d3⟩:=p
  simp only[Act.put,qj,qf,qc,qg,Kb,vT,zA,zB,zC]
  repeat ((first|(refine qe ?_ (by rfl) (by rfl) (fun W hW _=>⟨W,?_,Rel.refl _ W⟩) ?_;rotate_left;(first|(go_simp;with_reducible rfl)|(go_simp;done)))|(refine qh (by rfl) ?_));try simp only[Act.put,qj,qf,qc,qg,Kb,vT,zA,zB,zC])
  refine qv (TT w1.heap.size S.last) (by rfl) (by rfl) (fun W hW _=>?_) (fun p=>?_)
  ·refine Qc ?_ ((HL.out W (Ext.trans x1 hW)).mono fun e w' h=>?_)
   ·go_simp
   have hW:Ext w1 W:=hW
   obtain⟨u,rfl,hu,hB⟩:=h
   obtain⟨A,c,rfl,_,_⟩:=qw hu
   exact⟨(A,c),rfl,QE hu hW.size,hB⟩
  obtain⟨B4,d4⟩:=p
  simp only[Act.put,qj,qf,qc,qg,Kb,vT,zA,zB,zC]
  repeat ((first|(refine qe ?_ (by rfl) (by rfl) (fun W hW _=>⟨W,?_,Rel.refl _ W⟩) ?_;rotate_left;(first|(go_simp;with_reducible rfl)|(go_simp;done)))|(refine qh (by rfl) ?_));try simp only[Act.put,qj,qf,qc,qg,Kb,vT,zA,zB,zC])
  refine qt (hK _ _ fun W hW hF=>?_)
  have hD:Jh w1.heap.size S.bs S.ws bb cc gg W:=(hF 2).1
  have hN:W.ownsRow w1.heap.size 5 1 (.slice B3 S.now.length d3) S.now.length (S.now.map bv):=(hF 5).1
  have hL:W.ownsRow w1.heap.size 5 1 (.slice B4 S.last.length d4) S.last.length (S.last.map bv):=(hF 8).1
  have hW:Ext w1 W:=hW
  clear hF hK g1
  dsimp only[List.drop,List.length_cons,List.length_nil]
  have qW:=qb q1 hW
  have kW:=qa qW
  have fW:=qd qW
  have hz:w.heap.size+1<w1.heap.size:=(zG.1 q1).1
  have P5:∀ wx:World,wx=vW W (w.heap.size+1) 0 [.slice (some ⟨bb,0,none⟩) S.bs.length S.bs.length,.slice (some ⟨cc,0,none⟩) S.ws.length (S.ws.length+1),.slice B3 S.now.length d3,.slice B4 S.last.length d4] →
    wx.heap[w.heap.size+1]?=some (.cells #[.slice (some ⟨bb,0,none⟩) S.bs.length S.bs.length,.slice (some ⟨cc,0,none⟩) S.ws.length (S.ws.length+1),.slice B3 S.now.length d3,.slice B4 S.last.length d4] 28 (0,0))∧Below w.heap.size w wx ∧
     QD w.heap.size S (Qa (some ⟨bb,0,none⟩) S.bs.length S.bs.length (some ⟨cc,0,none⟩) S.ws.length (S.ws.length+1) B3 S.now.length d3 B4 S.last.length d4) wx:=fun wx e=>by
   have hk:∀ b,w1.heap.size≤b→b<W.heap.size→wx.heap[b]?=W.heap[b]?:=fun b h1 _=>by rw[e];exact ZV (by omega) _ _ _
   have hs:W.heap.size≤wx.heap.size:=by rw[e,jz];exact zM _
   refine⟨by rw[e];refine(Jb _ _ _ _ qW).trans ?_;simp[KK],by rw[e];exact ZU (Nat.le_succ _) _ _ _ (Ext.trans x1 hW),bb,cc,gg,B3,d3,B4,d4,rfl,hD.keep (by omega) hs hk,QE (Zn hN hk) (by omega),QE (Zn hL hk) (by omega)⟩
  replace P5:=zH P5
  clear hD hN hL qW hW
  go_wp2
  refine Qo ?_
  go_wp2_with fail
  have P5:=P5.out
  generalize hw5:World.setCell (World.setCell (World.setCell (World.setCell W _ _) _ _) _ _) _ _=w5
  obtain⟨r5,x5,h5⟩:=P5 w5 hw5.symm
  clear P5 hw5
  have k5:=qa r5
  exact bodyPost_ret (v:=Qa (some ⟨bb,0,none⟩) S.bs.length S.bs.length (some ⟨cc,0,none⟩) S.ws.length (S.ws.length+1) B3 S.now.length d3 B4 S.last.length d4) (by simp[results,Tryz.results152,go_sem,k5]) rfl ⟨_,rfl,h5,x5⟩
theorem Kh (b:Nat) (A1:Option Addr) (n1 c1:Nat) (A2:Option Addr) (n2 c2:Nat) (A3:Option Addr) (n3 c3:Nat) (A4:Option Addr) (n4 c4:Nat) (S:Sto) (hS:Uo S) (w:World) (hr:w.heap[b]?=some (.cells #[.slice A1 n1 c1,.slice A2 n2 c2,.slice A3 n3 c3,.slice A4 n4 c4] 191 (0,0)))
  (h:qT w w.heap.size (.slice A1 n1 c1) (.slice A2 n2 c2) (.slice A3 n3 c3) (.slice A4 n4 c4) S) :
  Calls Tryz.prog 105 #[.pointer (some ⟨b,0,none⟩)] w (zE (QD w.heap.size S) w):=by
 have HT:=zH (fun W (hW:Ext w W)=>qbc A1 n1 c1 A2 n2 c2 A3 n3 c3 A4 n4 c4 S hS W (h.ext hW))
 clear h hS
 have k0:=qa hr
 have zb:b<w.heap.size:=(zG.1 hr).1
 go_enter Tryz.func105,Tryz.ntmps105
 go_wp2_with fail
 generalize hw1:World.alloc _ _=w1
 have x1:Ext w w1:=by rw[←hw1];exact zN _ _
 have q1:w1.heap[w.heap.size]?=some (.cells #[.slice none 0 0,.slice none 0 0,.slice none 0 0,.slice none 0 0] 28 (0,0)):=by rw[←hw1];exact zI _ _ _ (by simp)
 clear hw1 k0
 refine(HT.out w1 x1).mono ?_
 rintro e w2 ⟨u,rfl,hT,hB⟩
 have hB:Ext w1 w2:=hB
 have q2:=qb q1 hB
 have kq:=qa q2
 have fq:=qd q2
 have z1:w.heap.size<w1.heap.size:=(zG.1 q1).1
 obtain⟨BB,WW,g,B3,d3,B4,d4,rfl,hD,hN,hL⟩:=hT
 have P5:∀ wx:World,wx=vW w2 w.heap.size 0 [.slice (some ⟨BB,0,none⟩) S.bs.length S.bs.length,.slice (some ⟨WW,0,none⟩) S.ws.length (S.ws.length+1),.slice B3 S.now.length d3,.slice B4 S.last.length d4] →
   wx.heap[w.heap.size]?=some (.cells #[.slice (some ⟨BB,0,none⟩) S.bs.length S.bs.length,.slice (some ⟨WW,0,none⟩) S.ws.length (S.ws.length+1),.slice B3 S.now.length d3,.slice B4 S.last.length d4] 28 (0,0))∧Below w.heap.size w wx ∧
    QD w.heap.size S (Qa (some ⟨BB,0,none⟩) S.bs.length S.bs.length (some ⟨WW,0,none⟩) S.ws.length (S.ws.length+1) B3 S.now.length d3 B4 S.last.length d4) wx:=fun wx e=>by
  have hk:∀ b,w1.heap.size≤b→b<w2.heap.size→wx.heap[b]?=w2.heap[b]?:=fun b h1 _=>by rw[e];exact ZV (by omega) _ _ _
  have hs:w2.heap.size≤wx.heap.size:=by rw[e,jz];exact zM _
  refine⟨by rw[e];refine(Jb _ _ _ _ q2).trans ?_;simp[KK],by rw[e];exact ZU (zM _) _ _ _ (x1.trans hB),BB,WW,g,B3,d3,B4,d4,rfl,hD.keep (by omega) hs hk,QE (Zn hN hk) (by omega),QE (Zn hL hk) (by omega)⟩
 replace P5:=zH P5
 clear hD hN hL q2 hB q1
 go_wp2_with fail
 have P5:=P5.out
 generalize hw5:World.setCell (World.setCell (World.setCell (World.setCell w2 _ _) _ _) _ _) _ _=w5
 obtain⟨r5,x5,h5⟩:=P5 w5 hw5.symm
 clear P5 hw5
 have k5:=qa r5
 exact bodyPost_ret (v:=Qa (some ⟨BB,0,none⟩) S.bs.length S.bs.length (some ⟨WW,0,none⟩) S.ws.length (S.ws.length+1) B3 S.now.length d3 B4 S.last.length d4) (by simp[results,Tryz.results105,go_sem,k5]) rfl ⟨_,rfl,h5,x5⟩
theorem UZ {w:World} {lo g n c k:Nat} {l:List UInt8} (h:w.ownsRow lo 5 1 (.slice (some ⟨g,0,none⟩) n c) n (l.map bv)) (hk:k<n) (x:UInt8):(w.setCell ⟨g,k,none⟩ (bv x)).ownsRow lo 5 1 (.slice (some ⟨g,0,none⟩) n c) n ((l.set k x).map bv):=by
 obtain⟨h1,h2⟩:=h
 rcases h2 with ⟨e,_⟩|⟨g',cap,cur,e,hg,hr,hc,hm,hs,ht⟩
 ·cases e
 ·cases e
  have hk2:k<cur.size:=by omega
  refine⟨by simpa using h1,.inr ⟨g,c,_,rfl,hg,qi hr k _,hc,hm,by simpa using hs,?_⟩⟩
  apply List.ext_getElem?
  intro i
  rw[List.map_set,←ht,List.getElem?_take,List.getElem?_set,List.getElem?_take]
  simp only[Nat.mul_one,Array.getElem?_toList,Array.getElem?_setIfInBounds,List.length_take,Array.length_toList]
  by_cases hi:i<n
  ·rw[if_pos hi,if_pos hi]
   by_cases e:k=i
   ·subst e
    rw[if_pos rfl,if_pos rfl,if_pos hk2,if_pos (by omega)]
   ·rw[if_neg e,if_neg e]
  ·rw[if_neg hi,if_neg hi,if_neg (by omega)]
theorem qcX {w:World} {lo g n c b k:Nat} {l:List UInt8} {v:Value} (h:w.ownsRow lo 5 1 (.slice (some ⟨g,0,none⟩) n c) n (l.map bv)) (hg:g≠b):(w.setCell ⟨b,k,none⟩ v).ownsRow lo 5 1 (.slice (some ⟨g,0,none⟩) n c) n (l.map bv):=by
 obtain⟨h1,h2⟩:=h
 refine⟨h1,h2.imp id fun ⟨g',cap,cur,e,h3,h4,h5⟩=>?_⟩
 cases e
 exact⟨g,c,cur,rfl,h3,(zJ _ _ _ _ hg).trans h4,h5⟩
theorem Zg {w:World} {lo g n c:Nat} {l:List UInt8} (h:w.ownsRow lo 5 1 (.slice (some ⟨g,0,none⟩) n c) n (l.map bv)):(∀ k,k<n→w.cell? ⟨g,k,none⟩=some (.int .u8 ((l[k]?.getD 0).toNat:Int)))∧(∀ k,w.frozen? ⟨g,k,none⟩=false)∧lo≤g∧g<w.heap.size:=by
 have h1:=h.1
 obtain⟨h0,h2⟩:=h
 rcases h2 with ⟨e,_⟩|⟨g',cap,cur,e,hg,hr,hc,hm,hs,ht⟩
 ·cases e
 ·cases e
  refine⟨fun k hk=>?_,qd hr,hg,(zG.1 hr).1⟩
  have hl:l.length=n:=by simpa using h1
  have hkl:k<l.length:=by omega
  have e2:(l.map bv)[k]?=some (bv l[k]):=by rw[List.getElem?_map,zL hkl];rfl
  rw[←ht,List.getElem?_take,if_pos (by omega)] at e2
  have e3:cur[k]?=cur.toList[k]?:=by simp
  rw[qa hr,e3,e2,zL hkl]
  rfl
theorem qbT (A1:Option Addr) (n1 c1:Nat) (A2:Option Addr) (n2 c2:Nat) (A3:Option Addr) (n3 c3:Nat) (A4:Option Addr) (n4 c4:Nat) (S:Sto) (hl:S.now.length<1073741824) (w:World) (h:qT w w.heap.size (.slice A1 n1 c1) (.slice A2 n2 c2) (.slice A3 n3 c3) (.slice A4 n4 c4) S) :
  Calls Tryz.prog 66 #[Qa A1 n1 c1 A2 n2 c2 A3 n3 c3 A4 n4 c4] w (zE (fun u W=>∃ b A3' c3',u=.pointer (some ⟨b,0,none⟩)∧w.heap.size≤b∧W.heap[b]?=some (.cells #[.slice A1 n1 c1,.slice A2 n2 n2,.slice A3' n3 c3',.slice A4 n4 c4] 191 (0,0))∧W.ownsRow w.heap.size 5 1 (.slice A3' n3 c3') n3 (S.now.map bv)) w):=by
 have hn3:Hid (n3=S.now.length):=zH h.now.at_.1
 obtain⟨-,h2a,h2b,-⟩:=h.ws.at_
 have HC:=zH (fun W (hW:Ext w W)=>vR (.slice A3 n3 c3) S.now hl W (h.ext hW).now)
 clear h
 go_enter Tryz.func66,Tryz.ntmps66
 go_wp2_with fail
 generalize hw1:(World.alloc _ _)=w1
 have x1:Ext w w1:=by rw[←hw1];exact zN _ _
 have r1:w1.heap[w.heap.size]?=some (.cells #[.slice A1 n1 c1,.slice A2 n2 c2,.slice A3 n3 c3,.slice A4 n4 c4] 28 (0,0)):=by rw[←hw1];exact zI _ _ _ rfl
 clear hw1
 refine(HC.out _ x1).mono ?_
 rintro e w2 ⟨u,rfl,hu,hB⟩
 have x2:=x1.trans hB
 have r2:=qb r1 hB
 have s1:w.heap.size<w1.heap.size:=(zG.1 r1).1
 obtain⟨A3',c3',rfl,_,_⟩:=qw hu
 have k2:=qa r2
 have f2:=qd r2
 clear hB r1 HC
 rw[←hn3.out] at hu ⊢
 go_wp2_with fail
 have hu3:=Zn (w':=w2.setCell ⟨w.heap.size,2,none⟩ (.slice A3' n3 c3')) hu (fun b hb _=>zJ _ _ _ _ (by show b≠w.heap.size;omega))
 generalize hw3:(World.setCell _ _ _)=w3 at *
 have x3:Ext w w3:=by rw[←hw3];exact Below.setCell x2 (p:=⟨w.heap.size,2,none⟩) (zM _) _
 have r3:w3.heap[w.heap.size]?=some (.cells #[.slice A1 n1 c1,.slice A2 n2 c2,.slice A3' n3 c3',.slice A4 n4 c4] 28 (0,0)):=by rw[←hw3];exact qi r2 2 _
 clear hw3 k2 f2 r2 x2 hu
 refine(qcT A2 n2 c2 h2a h2b _).mono ?_
 rintro e w4 ⟨rfl,hB⟩
 have x4:=x3.trans hB
 have r4:=qb r3 hB
 have hu4:=QT hu3 hB
 have k4:=qa r4
 have f4:=qd r4
 have s4:w.heap.size<w4.heap.size:=(zG.1 r4).1
 clear hB r3 x3 hu3
 replace hu4:=zH hu4
 go_wp2
 have hu5:=Zn (w':=w4.setCell ⟨w.heap.size,1,none⟩ (.slice A2 n2 n2)) hu4.out (fun b hb _=>zJ _ _ _ _ (by show b≠w.heap.size;omega))
 have bf:Below w.heap.size w ((w4.setCell ⟨w.heap.size,1,none⟩ (.slice A2 n2 n2)).alloc (.cells #[.slice A1 n1 c1,.slice A2 n2 n2,.slice A3' n3 c3',.slice A4 n4 c4] 191)):=by
  have x4':Below w.heap.size w w4:=x4
  exact(by repeat' (first|with_reducible exact Below.refl _ _|with_reducible assumption|with_reducible apply Below.drew|with_reducible apply qC|with_reducible refine Below.alloc ?_ ?_ _|with_reducible refine Below.setCell ?_ ?_ _|(simp;done)|(simp;omega)|omega))
 go_ret
 exact⟨_,rfl,⟨w4.heap.size,A3',c3',rfl,by omega,zI _ _ _ (by simp),QE (QT hu5 (zN _ _)) (by omega)⟩,bf⟩
def Qj (t:List UInt8) (a:Nat):Nat:=(t[a]?.getD 0).toNat
def Kr (t:List UInt8) (a:Int) (end_:Nat):Int:=if Ql t=true then (if 8≤a∧a<256 then (if Qj t a.toNat=end_ then 70 else 0) else 2) else 8
def jg (t:List UInt8) (a by_:Nat):List UInt8:=t.set a (UInt8.ofNat (Qj t a+by_))
theorem qfo (t:List UInt8) (a by_:Nat):(jg t a by_).length=t.length:=by unfold jg;simp
theorem qcG (n:Nat):IntKind.u8.wrap (n:Int)=(((UInt8.ofNat n).toNat:Nat):Int):=by
 simp[IntKind.wrap,IntKind.bits,IntKind.signed]
def qdb (t:List UInt8) (a:Int) (by_ end_ lo:Nat) (u:Value) (W:World):Prop:=
 (Kr t a end_≠0∧u=.tuple #[.slice none 0 0,.int .i64 (Kr t a end_)]) ∨
  (Kr t a end_=0∧∃ A c,u=.tuple #[.slice A 256 c,.int .i64 0]∧W.ownsRow lo 5 1 (.slice A 256 c) 256 ((jg t a.toNat by_).map bv))
theorem qhX {t:List UInt8} (h:Ql t=false) (a:Int) (e:Nat):Kr t a e=8:=by unfold Kr;rw[h];simp
theorem qil {t:List UInt8} (h:Ql t=true) {a:Int} (ha:¬(8≤a∧a<256)) (e:Nat):Kr t a e=2:=by unfold Kr;rw[if_pos h,if_neg ha]
theorem qeD {t:List UInt8} (h:Ql t=true) {a:Nat} (ha:8≤a) (ha2:a<256) (e:Nat):Kr t (a:Int) e=if Qj t a=e then 70 else 0:=by
 unfold Kr
 rw[if_pos h,if_pos (by omega),Int.toNat_natCast]
theorem KH {R:Ending→World→Prop} {a:Act} {W:World} {u v:Value} (h8:a.tmps[8]?.getD undef=u) (h9:a.tmps[9]?.getD undef=v) (hd:a.defers=[]) (hR:R (.returned (.tuple #[u,v])) W):bodyPost Tryz.prog Tryz.f173 R .ret a W:=by
 refine bodyPost_ret (v:=.tuple #[u,v]) ?_ hd hR
 simp[results,Tryz.results173,go_sem,h8,h9]
theorem turn_any (A:Option Addr) (n c:Nat) (t:List UInt8) (a:Int) (by_ end_:Nat) (w:World) (h:Bys w w.heap.size (.slice A n c) t) :
  Calls Tryz.prog 173 #[.slice A n c,.int .i64 a,.int .u8 (by_:Int),.int .u8 (end_:Int)] w (zE (qdb t a by_ end_ w.heap.size) w):=by
 have HC:=zH (Xa (.slice A n c) t w h)
 have hby:=zH h
 go_enter Tryz.func173,Tryz.ntmps173
 go_wp2_with fail
 refine HC.out.mono ?_
 clear HC
 rintro e w2 ⟨rfl,hB⟩
 have x2:Ext w w2:=hB
 clear hB h
 rcases hS:Ql t with _|_
 ·have hq:=zH (qhX hS a end_)
  replace hS:=zH hS
  rw[jU rfl]
  go_wp2_with fail
  exact KH rfl rfl rfl ⟨_,rfl,.inl ⟨by rw[hq.out];decide,by rw[hq.out];rfl⟩,x2⟩
 ·rw[Jv rfl]
  by_cases hr:8≤a∧a<256
  ·obtain⟨m,hma⟩:=Int.eq_ofNat_of_zero_le (show 0≤a by omega)
   subst hma
   have hm8:8≤m:=by omega
   have hm256:m<256:=by omega
   have hq:=qeD hS hm8 hm256 end_
   have hl:t.length=256:=by unfold Ql at hS;simp at hS;exact hS.1
   obtain⟨A',c',e,hc,hmx,hrd⟩:=hby.out
   obtain⟨b,o,rfl,hb,hcell⟩:=hrd.2 (by omega)
   simp only[Value.slice.injEq] at e
   obtain⟨rfl,e2,rfl⟩:=e
   obtain rfl:n=256:=by omega
   clear e2
   have hcn:w.cell? ⟨b,o+m,none⟩=some (.int .u8 (Qj t m:Int)):=hcell m _ (by rw[List.getElem?_map,zL (by omega)];unfold Qj;rw[zL (by omega)];rfl)
   have hcn2:=Ext.cell x2 hcn
   have d1:decide ((m:Int)<8)=false:=decide_eq_false (by omega)
   have d2:decide ((m:Int)≥256)=false:=decide_eq_false (by omega)
   have HCL:=zH (Xl (.slice (some ⟨b,o,none⟩) 256 c) t (by omega) w2 ((hby.out.below x2).more x2.size))
   have hT:Hid (jg t m by_=t.set m (UInt8.ofNat (Qj t m+by_))):=rfl
   clear hr hcell hrd hcn hc hmx
   generalize hnv:Qj t m=nv at *
   replace hnv:=zH hnv
   replace hl:=zH hl
   by_cases h0:nv=end_
   ·have hz1:((nv:Int) == (end_:Int))=true:=by rw[beq_iff_eq];omega
    have hz2:decide (nv=end_)=true:=decide_eq_true h0
    rw[if_pos h0] at hq
    replace hq:=zH hq
    replace h0:=zH h0
    replace hS:=zH hS
    go_wp2_with fail
    exact KH rfl rfl rfl ⟨_,rfl,.inl ⟨by rw[hq.out];decide,by rw[hq.out];rfl⟩,x2⟩
   ·have hz1:((nv:Int) == (end_:Int))=false:=by rw[beq_eq_false_iff_ne];omega
    have hz2:decide (nv=end_)=false:=decide_eq_false h0
    rw[if_neg h0] at hq
    replace hq:=zH hq
    replace h0:=zH h0
    replace hS:=zH hS
    go_wp2_with fail
    refine HCL.out.mono ?_
    clear HCL
    rintro e w3 ⟨u,rfl,hu,hB⟩
    rw[hl.out] at hu
    obtain⟨Au,cu,rfl,hcu,-⟩:=qw hu
    have x3:Ext w w3:=x2.trans hB
    have hAu:∃ g,Au=some ⟨g,0,none⟩:=by
     rcases hu.2 with ⟨e,h0⟩|⟨g,cap,cur,e,_⟩
     ·cases e
     ·cases e
      exact⟨g,rfl⟩
    obtain⟨g,rfl⟩:=hAu
    obtain⟨hk,hf,hlg,hgz⟩:=Zg hu
    have hkm:=hk m hm256
    rw[show (t[m]?.getD 0).toNat=nv from hnv.out] at hkm
    have hfm:=hf m
    have hset:=zH (UZ hu hm256 (UInt8.ofNat (nv+by_)))
    have hwv:IntKind.u8.wrap ((nv:Int)+(by_:Int))=(((UInt8.ofNat (nv+by_)).toNat:Nat):Int):=by rw[←qcG];rfl
    clear hk hf hu hB hcn2
    go_wp2_with fail
    exact KH rfl rfl rfl ⟨_,rfl,.inr ⟨hq.out,_,_,rfl,QE (by rw[Int.toNat_natCast,hT.out];exact hset.out) x2.size⟩,Below.setCell x3 (p:=⟨g,m,none⟩) (by have:=x2.size;simp;omega) _⟩
  ·have hq:=zH (qil hS hr end_)
   replace hS:=zH hS
   by_cases h8:a<8
   ·have d1:decide (a<8)=true:=decide_eq_true h8
    replace hr:=zH hr
    go_wp2_with fail
    exact KH rfl rfl rfl ⟨_,rfl,.inl ⟨by rw[hq.out];decide,by rw[hq.out];rfl⟩,x2⟩
   ·have d1:decide (a<8)=false:=decide_eq_false h8
    have d2:decide (a≥256)=true:=decide_eq_true (by omega)
    replace hr:=zH hr
    go_wp2_with fail
    exact KH rfl rfl rfl ⟨_,rfl,.inl ⟨by rw[hq.out];decide,by rw[hq.out];rfl⟩,x2⟩
theorem qaW {bs:List (List UInt8)} {ws:List (Int×List UInt8)} (h:jp bs ws=true):bs.length<1000000∧ws.length<1000000∧(∀ l∈bs,l.length<1000000)∧∀ p∈ws,p.2.length<1000000:=by
 unfold jp headD at h
 simp only[Bool.and_eq_true,decide_eq_true_eq,List.all_eq_true] at h
 obtain⟨⟨h1,h2⟩,h3,h4⟩:=h
 refine⟨by omega,by omega,fun l hl=>?_,fun p hp=>?_⟩
 ·have:=h3 l hl
  unfold Ud at this
  have:=of_decide_eq_true this
  omega
 ·have:=h4 p hp
  unfold wrOk at this
  have:=of_decide_eq_true this
  omega
theorem up_any (A:Option Addr) (n c:Nat) (t:List UInt8) (a:Int) (w:World) (h:Bys w w.heap.size (.slice A n c) t) :
  Calls Tryz.prog 159 #[.slice A n c,.int .i64 a] w (zE (qdb t a 1 255 w.heap.size) w):=by
 have HT:=zH (turn_any A n c t a 1 255 w h)
 clear h
 go_enter Tryz.func159,Tryz.ntmps159
 go_wp2_with fail
 refine HT.out.mono ?_
 clear HT
 rintro e w2 ⟨u,rfl,hu,hB⟩
 rcases hu with ⟨h1,rfl⟩|⟨h1,A',c',rfl,hown⟩
 ·have hB':Ext w w2:=hB
  have hQ:=zH (⟨_,rfl,.inl ⟨h1,rfl⟩,hB'⟩:zE (qdb t a 1 255 w.heap.size) w (.returned (.tuple #[.slice none 0 0,.int .i64 (Kr t a 255)])) w2)
  generalize Kr t a 255=er at *
  replace h1:=zH h1
  go_wp2_with fail
  refine bodyPost_ret (v:=.tuple #[.slice none 0 0,.int .i64 er]) ?_ rfl hQ.out
  simp[results,Tryz.results159,go_sem]
 ·have hB':Ext w w2:=hB
  have hQ:=zH (⟨_,rfl,.inr ⟨h1,A',c',rfl,hown⟩,hB'⟩:zE (qdb t a 1 255 w.heap.size) w (.returned (.tuple #[.slice A' 256 c',.int .i64 0])) w2)
  replace h1:=zH h1
  go_wp2_with fail
  refine bodyPost_ret (v:=.tuple #[.slice A' 256 c',.int .i64 0]) ?_ rfl hQ.out
  simp[results,Tryz.results159,go_sem]
abbrev qy (S:Sto) (t:List UInt8):Sto:=⟨S.bs,S.ws,t,S.last⟩
abbrev sto0:Value:=Qa none 0 0 none 0 0 none 0 0 none 0 0
def Qm (S:Sto) (a:Int):Int:=if Ji S a≠0 then Ji S a else if zO S a.toNat=255 then 70 else 0
def StoQ (e:Int) (S:Sto) (lo:Nat) (u:Value) (W:World):Prop:=(e≠0∧u=.tuple #[sto0,.int .i64 e])∨(e=0∧∃ v,u=.tuple #[v,.int .i64 0]∧QD lo S v W)
theorem QJ {S:Sto} (h:qo S=true):Uo S:=by
 obtain⟨h1,h2,h3,h4⟩:=qV h
 have hd:jp S.bs S.ws=true:=by unfold qo at h;simp at h;exact h.1
 obtain⟨d1,d2,d3,d4⟩:=qaW hd
 exact⟨d1,d2,d3,d4,by omega,by omega⟩
theorem qfj {S:Sto} (h:qo S=true):Ql S.now=true:=by unfold qo at h;simp at h;exact h.2.1
theorem TH {R:Ending→World→Prop} {a:Act} {W:World} {b:Nat} {x0 x1 x2 x3 v:Value} (h4:a.tmps[4]?.getD undef=.pointer (some ⟨b,0,none⟩)) (h5:a.tmps[5]?.getD undef=v) (hd:a.defers=[])
  (hrow:W.heap[b]?=some (.cells #[x0,x1,x2,x3] 28 (0,0))) (hR:R (.returned (.tuple #[.agg #[x0,x1,x2,x3],v])) W):bodyPost Tryz.prog Tryz.f117 R .ret a W:=by
 refine bodyPost_ret (v:=.tuple #[.agg #[x0,x1,x2,x3],v]) ?_ hd hR
 have k:=qa hrow
 simp[results,Tryz.results117,go_sem,h4,h5,k]
theorem Gj (A1:Option Addr) (n1 c1:Nat) (A2:Option Addr) (n2 c2:Nat) (A3:Option Addr) (n3 c3:Nat) (A4:Option Addr) (n4 c4:Nat) (S:Sto) (a:Int) (w:World) (h:qT w w.heap.size (.slice A1 n1 c1) (.slice A2 n2 c2) (.slice A3 n3 c3) (.slice A4 n4 c4) S) :
  Calls Tryz.prog 117 #[Qa A1 n1 c1 A2 n2 c2 A3 n3 c3 A4 n4 c4,.int .i64 a] w (zE (StoQ (Qm S a) (qy S (jg S.now a.toNat 1)) w.heap.size) w):=by
 have HA:=zH (fun W (hx:Ext w W)=>qam A1 n1 c1 A2 n2 c2 A3 n3 c3 A4 n4 c4 S a W (h.ext hx))
 have HU:=zH (fun W (hx:Ext w W)=>up_any A3 n3 c3 S.now a W (h.ext hx).now)
 replace h:=zH h
 go_enter Tryz.func117,Tryz.ntmps117
 go_wp2_with fail
 generalize hw1:(World.alloc (World.alloc w _) _)=w1
 have x1:Ext w w1:=by rw[←hw1];exact(zN _ _).trans (zN _ _)
 have rs1:w1.heap[w.heap.size]?=some (.cells #[.slice A1 n1 c1,.slice A2 n2 c2,.slice A3 n3 c3,.slice A4 n4 c4] 28 (0,0)):=by rw[←hw1];exact(zK _ _ _ (by simp)).trans (zI _ _ _ rfl)
 have ro1:w1.heap[w.heap.size+1]?=some (.cells #[.slice none 0 0,.slice none 0 0,.slice none 0 0,.slice none 0 0] 28 (0,0)):=by rw[←hw1];exact zI _ _ _ (by simp)
 clear hw1
 refine(HA.out w1 x1).mono ?_
 clear HA
 rintro e w2 ⟨rfl,hB⟩
 have x2:Ext w w2:=x1.trans hB
 have rs2:=qb rs1 hB
 have ro2:=qb ro1 hB
 clear hB rs1 ro1 x1
 by_cases h0:Ji S a=0
 ·obtain⟨hS,m,rfl,hm8,hm256,hnz⟩:=Yq h0
  have hE:Qm S (m:Int)=if zO S m=255 then 70 else 0:=by unfold Qm;rw[if_neg (by simpa using h0),Int.toNat_natCast]
  have hT:Kr S.now (m:Int) 255=if zO S m=255 then 70 else 0:=qeD (qfj hS) hm8 hm256 255
  have hsh:=zH (QJ hS)
  rw[h0]
  have ks2:=qa rs2
  replace h0:=zH h0
  replace hS:=zH hS
  rw[←hE] at hT
  replace hE:=zH hE
  clear hnz
  go_wp2_with fail
  refine(HU.out w2 x2).mono ?_
  clear HU
  rintro e w3 ⟨u,rfl,hu,hB⟩
  have x3:Ext w w3:=x2.trans hB
  have rs3:=qb rs2 hB
  have ro3:=qb ro2 hB
  have ks3:=qa rs3
  have z23:=hB.size
  clear hB rs2 ro2 ks2
  unfold qdb at hu
  rw[hT] at hu
  rcases hu with ⟨h1,rfl⟩|⟨h1,A',c',rfl,hown⟩
  ·generalize Qm S (m:Int)=er at *
   have he:(er != 0)=true:=by rw[bne_iff_ne];exact h1
   have hq:=zH h1
   have ko3:=qa ro3
   have fo3:=qd ro3
   clear h1 hT
   go_wp2_with fail
   exact TH (b:=w.heap.size+1) rfl rfl rfl (vw ro3 _ _ _ _) ⟨_,rfl,.inl ⟨hq.out,rfl⟩,zy x3 (by omega) _ _ _ _⟩
  ·have hby:=Bys.of_own hown
   have HTW:=qbc A1 n1 c1 A2 n2 c2 A' 256 c' A4 n4 c4 (qy S (jg S.now m 1)) ⟨hsh.out.bs,hsh.out.ws,hsh.out.be,hsh.out.we,by rw[qfo];exact hsh.out.now,hsh.out.last⟩ w3 ⟨(h.out.ext x3).bs,(h.out.ext x3).ws,hby,(h.out.ext x3).last⟩
   replace hby:=zH hby
   replace hown:=zH hown
   replace h1:=zH h1
   go_wp2_with fail
   refine HTW.mono ?_
   clear HTW
   rintro e w4 ⟨u,rfl,hu,hB⟩
   have x4:Ext w w4:=x3.trans hB
   have ro4:=qb ro3 hB
   have ko4:=qa ro4
   have fo4:=qd ro4
   have zo3:w.heap.size+1<w3.heap.size:=(zG.1 ro3).1
   obtain⟨BB,WW,g,B3,d3,B4,d4,rfl,hD,hN,hL⟩:=hu
   have hK:=fun (x0 x1 x2 x3':Value)=>QD.keep (lo':=w.heap.size) (⟨BB,WW,g,B3,d3,B4,d4,rfl,hD,hN,hL⟩:QD w3.heap.size (qy S (jg S.now m 1)) _ w4) (W2:=(((w4.setCell ⟨w.heap.size+1,0,none⟩ x0).setCell ⟨w.heap.size+1,1,none⟩ x1).setCell ⟨w.heap.size+1,2,none⟩ x2).setCell ⟨w.heap.size+1,3,none⟩ x3') (by omega) (by simp) (fun b hb _=>(zJ _ _ _ _ (by simp;omega)).trans ((zJ _ _ _ _ (by simp;omega)).trans ((zJ _ _ _ _ (by simp;omega)).trans (zJ _ _ _ _ (by simp;omega)))))
   replace hK:=zH hK
   clear hB hD hN hL ks3 rs3 ro3
   go_wp2_with fail
   exact TH (b:=w.heap.size+1) rfl rfl rfl (vw ro4 _ _ _ _) ⟨_,rfl,.inr ⟨h1.out,_,rfl,hK.out _ _ _ _⟩,zy x4 (by omega) _ _ _ _⟩
 ·have hE:Qm S a=Ji S a:=by unfold Qm;rw[if_pos h0]
  generalize Ji S a=er at *
  have he:(er != 0)=true:=by rw[bne_iff_ne];exact h0
  have hq:=zH h0
  have ko2:=qa ro2
  have fo2:=qd ro2
  replace hE:=zH hE
  clear h0
  go_wp2_with fail
  exact TH (b:=w.heap.size+1) rfl rfl rfl (vw ro2 _ _ _ _) ⟨_,rfl,.inl ⟨by rw[hE.out];exact hq.out,by rw[hE.out];rfl⟩,zy x2 (by omega) _ _ _ _⟩
def kh (t:List UInt8) (a:Nat):List UInt8:=t.set a (UInt8.ofNat (Qj t a-1))
theorem qgM {n:Nat} (h:0<n) (h2:n<256):IntKind.u8.wrap ((n:Int)-1)=(((UInt8.ofNat (n-1)).toNat:Nat):Int):=by
 rw[←qcG]
 congr 1
 omega
theorem GZ {R:Ending→World→Prop} {a:Act} {W:World} {v:Value} (h4:a.tmps[4]?.getD undef=v) (hd:a.defers=[]) (hR:R (.returned v) W):bodyPost Tryz.prog Tryz.f133 R .ret a W:=by
 refine bodyPost_ret (v:=v) ?_ hd hR
 simp[results,Tryz.results133,go_sem,h4]
theorem qbw {R:Ending→World→Prop} {a:Act} {W:World} {b:Nat} {x0 x1 x2 x3 v:Value} (h4:a.tmps[4]?.getD undef=.pointer (some ⟨b,0,none⟩)) (h5:a.tmps[5]?.getD undef=v) (hd:a.defers=[])
  (hrow:W.heap[b]?=some (.cells #[x0,x1,x2,x3] 28 (0,0))) (hR:R (.returned (.tuple #[.agg #[x0,x1,x2,x3],v])) W):bodyPost Tryz.prog Tryz.f130 R .ret a W:=by
 refine bodyPost_ret (v:=.tuple #[.agg #[x0,x1,x2,x3],v]) ?_ hd hR
 have k:=qa hrow
 simp[results,Tryz.results130,go_sem,h4,h5,k]
theorem QD.set4 {lo lo' b:Nat} {S:Sto} {u:Value} {W:World} (h:QD lo S u W) (hl:lo'≤lo) (hb:b<lo) (x0 x1 x2 x3:Value):QD lo' S u ((((W.setCell ⟨b,0,none⟩ x0).setCell ⟨b,1,none⟩ x1).setCell ⟨b,2,none⟩ x2).setCell ⟨b,3,none⟩ x3):=
 h.keep hl (by simp) fun b' hb' _=>(zJ _ _ _ _ (by simp;omega)).trans ((zJ _ _ _ _ (by simp;omega)).trans ((zJ _ _ _ _ (by simp;omega)).trans (zJ _ _ _ _ (by simp;omega))))
def Qd (X:Nat→Prop) (w C:World):Prop:=∀ (q:Addr) (v:Value),¬X q.block→w.cell? q=some v→C.cell? q=some v
section
variable {X Y:Nat→Prop} {w W C:World}
theorem Qd.refl (X:Nat→Prop) (w:World):Qd X w w:=fun _ _ _ h=>h
theorem Qd.of_ext (h:Ext w C):Qd X w C:=fun _ _ _ hv=>Ext.cell h hv
theorem Qd.trans (h:Qd X w W) (h':Qd Y W C) (hY:∀ k,k<w.heap.size→Y k→X k):Qd X w C:=fun q v hX hv=>h' q v (fun hy=>hX (hY _ (World.block_lt_of_cell? w q hv) hy)) (h q v hX hv)
theorem Qd.mono (h:Qd X w C) (hX:∀ k,k<w.heap.size→X k→Y k):Qd Y w C:=fun q v hY hv=>h q v (fun hx=>hY (hX _ (World.block_lt_of_cell? w q hv) hx)) hv
theorem Qd.of_heap (h:∀ k,k<w.heap.size→¬X k→C.heap[k]?=w.heap[k]?):Qd X w C:=fun q v hX hv=>(World.cell?_of_block (h _ (World.block_lt_of_cell? w q hv) hX)).trans hv
theorem Rd.keepX {B size n:Nat} {A:Option Addr} {xs:List Value} (h:Rd w B size A n xs) (hs:0<size) (hk:Qd X w C) (hX:∀ k,k<B→¬X k):Rd C C.heap.size size A n xs:=⟨h.1,fun hn=>by
 obtain⟨b,off,e,hb,hc⟩:=h.2 hn
 refine⟨b,off,e,?_,fun j u hu=>hk _ _ (hX b hb) (hc j u hu)⟩
 have hl:0<xs.length:=by rw[h.1];exact Nat.mul_pos hn hs
 exact World.block_lt_of_cell? C ⟨b,off+0,none⟩ (hk _ _ (hX b hb) (hc 0 _ (zL hl)))⟩
theorem Bys.keepX {B:Nat} {v:Value} {l:List UInt8} (h:Bys w B v l) (hk:Qd X w C) (hX:∀ k,k<B→¬X k):Bys C C.heap.size v l:=by
 obtain⟨A,c,e,hc,hm,hr⟩:=h
 exact⟨A,c,e,hc,hm,hr.keepX (by omega) hk hX⟩
end
def Vl (X:Nat→Prop) (w:World) (v:Value) (xs:List It):Prop:=∀ C,Qd X w C→Its C C.heap.size v xs
theorem Vl.now {X:Nat→Prop} {w:World} {v:Value} {xs:List It} (h:Vl X w v xs):Its w w.heap.size v xs:=h w (Qd.refl _ _)
theorem Vl.trans {X Y:Nat→Prop} {w W:World} {v:Value} {xs:List It} (h:Vl X w v xs) (hk:Qd X w W) (hY:∀ k,k<w.heap.size→Y k→X k):Vl Y W v xs:=fun C hC=>h C (hk.trans hC hY)
theorem Zb {w w':World} {base size n:Nat} {e:TypeId} {v:Value} {xs:List Value} (h:w.ownsRow base e size v n xs) (hk:∀ q,v.ownBlock=some q→w'.heap[q]?=w.heap[q]?):w'.ownsRow base e size v n xs:=
 ⟨h.1,h.2.imp id fun ⟨g,cap,cur,e1,h3,h4,h5⟩=>⟨g,cap,cur,e1,h3,(hk g (by rw[e1];rfl)).trans h4,h5⟩⟩
theorem ZK {w:World} {base size n:Nat} {e:TypeId} {v:Value} {xs:List Value} (h:w.ownsRow base e size v n xs) {q:Nat} (hq:v.ownBlock=some q):∃ cur,w.heap[q]?=some (.cells cur e (0,0)):=by
 rcases h.2 with ⟨e1,_⟩|⟨g,cap,cur,e1,_,hg,_⟩
 ·rw[e1] at hq;cases hq
 ·rw[e1] at hq
  cases hq
  exact⟨cur,hg⟩
def B3 (b g:Nat) (k:Option Nat) (q:Nat):Prop:=q=b∨q=g∨k=some q
def Xk (B:Nat) (D:Nat→Prop) (q:Nat):Prop:=B≤q∧¬D q
theorem Xk.keep {B:Nat} {D:Nat→Prop} {w W:World} (h:∀ q,q<w.heap.size→q<B∨D q→W.heap[q]?=w.heap[q]?):Qd (Xk B D) w W:=Qd.of_heap fun q hq hX=>h q hq (by
 by_cases hB:q<B
 ·exact .inl hB
 ·right
  by_cases hD:D q
  ·exact hD
  ·exact absurd ⟨by omega,hD⟩ hX)
def Ks (n:Nat) (D D':Nat→Prop):Prop:=∀ q,D' q→D q∨n≤q
theorem Ks.refl (n:Nat) (D:Nat→Prop):Ks n D D:=fun _ h=>.inl h
theorem Ks.mono {n n':Nat} {D D':Nat→Prop} (h:Ks n D D') (hn:n'≤n):Ks n' D D':=fun q hq=>(h q hq).imp id fun h=>by omega
theorem Ks.trans {n n':Nat} {D D' D'':Nat→Prop} (h:Ks n D D') (h':Ks n' D' D'') (hn:n≤n'):Ks n D D'':=fun q hq=>(h' q hq).elim (fun h1=>h q h1) fun h1=>.inr (by omega)
structure qY (lo b g:Nat) (k:Option Nat) (w W:World):Prop where
 below:Below lo w W
 rows:∀ q,q<w.heap.size→¬B3 b g k q→W.heap[q]?=w.heap[q]?
def Zl (n:Nat) (k k':Option Nat):Prop:=∀ q,k'=some q→k=some q∨n≤q
theorem Zl.refl (n:Nat) (k:Option Nat):Zl n k k:=fun _ h=>.inl h
theorem Zl.mono {n n':Nat} {k k':Option Nat} (h:Zl n k k') (hn:n'≤n):Zl n' k k':=fun q hq=>(h q hq).imp id fun h=>by omega
theorem Zl.trans {n n':Nat} {k k' k'':Option Nat} (h:Zl n k k') (h':Zl n' k' k'') (hn:n≤n'):Zl n k k'':=fun q hq=>(h' q hq).elim (fun h1=>h q h1) fun h1=>.inr (by omega)
section
variable {lo b g:Nat} {k k':Option Nat} {w W C:World}
theorem qY.refl (lo b g:Nat) (k:Option Nat) (w:World):qY lo b g k w w:=⟨Below.refl _ _,fun _ _ _=>rfl⟩
theorem qY.of_ext (h:Ext w W) (hl:lo≤w.heap.size):qY lo b g k w W:=⟨Below.mono h hl,fun q hq _=>Below.block h q hq⟩
theorem qY.trans (h:qY lo b g k w W) (h':qY lo b g k' W C) (hk:Zl w.heap.size k k'):qY lo b g k w C:=⟨h.below.trans h'.below,fun q hq hn=>(h'.rows q (by have:=h.below.size;omega) fun hx=>hn (by
 rcases hx with e|e|e
 ·exact .inl e
 ·exact .inr (.inl e)
 ·exact(hk q e).elim (fun h=>.inr (.inr h)) fun h=>by omega)).trans (h.rows q hq hn)⟩
theorem qY.keepX (h:qY lo b g k w W):Qd (B3 b g k) w W:=Qd.of_heap fun q hq hX=>h.rows q hq hX
theorem qY.own (h:qY lo b g k w W) {base n size:Nat} {e:TypeId} {v:Value} {xs:List Value} (ho:w.ownsRow base e size v n xs) (hn:∀ q,v.ownBlock=some q→¬B3 b g k q):W.ownsRow base e size v n xs:=Zb ho fun q hq=>h.rows q (QV ho q hq).2 (hn q hq)
theorem qY.row (h:qY lo b g k w W) {q:Nat} {o:Obj} (hr:w.heap[q]?=some o) (hn:¬B3 b g k q):W.heap[q]?=some o:=(h.rows q (zG.1 hr).1 hn).trans hr
theorem B3.of_new (hk:Zl w.heap.size k k'):∀ q,q<w.heap.size→B3 b g k' q→B3 b g k q:=fun q hq hx=>by
 rcases hx with e|e|e
 ·exact .inl e
 ·exact .inr (.inl e)
 ·exact(hk q e).elim (fun h=>.inr (.inr h)) fun h=>by omega
end
def WsB (D:Nat→Prop) (B lo b g:Nat) (k:Option Nat) (v:Value) (ws:List (Int×List UInt8)) (w:World):Prop:=∃ ps:List ((Int×List UInt8)×Value),ps.map (·.1)=ws ∧
 ((k=none∧ws.length≤maxLen∧∃ A,v=.slice A ws.length ws.length∧Rd w B 2 A ws.length (jj ps))∨(∃ q,k=some q∧v.ownBlock=some q∧w.ownsRow lo 130 2 v ws.length (jj ps))) ∧
 ∀ p∈ps,(∃ A c,p.2=.slice A p.1.2.length c)∧∀ C,Qd (Xk B D) w C→Bys C C.heap.size p.2 p.1.2
theorem WsB.ext {D:Nat→Prop} {B lo b g:Nat} {k:Option Nat} {v:Value} {ws:List (Int×List UInt8)} {w W:World} (h:WsB D B lo b g k v ws w) (hx:Ext w W) (hB:B≤w.heap.size):WsB D B lo b g k v ws W:=by
 obtain⟨ps,e,hw,hp⟩:=h
 refine⟨ps,e,?_,fun p hpm=>⟨(hp p hpm).1,fun C hC=>(hp p hpm).2 C ((Qd.of_ext hx).trans hC fun _ _ h=>h)⟩⟩
 rcases hw with ⟨e,hm,A,e2,hr⟩|⟨q,e,e2,how⟩
 ·exact .inl ⟨e,hm,A,e2,hr.below (Below.mono hx hB)⟩
 ·exact .inr ⟨q,e,e2,Zb how fun q' hq'=>Below.block hx q' (QV how q' hq').2⟩
theorem WsB.mono {D D':Nat→Prop} {B lo b g:Nat} {k:Option Nat} {v:Value} {ws:List (Int×List UInt8)} {w:World} (h:WsB D B lo b g k v ws w) (hD:∀ q,D q→D' q):WsB D' B lo b g k v ws w:=by
 obtain⟨ps,e,hw,hp⟩:=h
 exact⟨ps,e,hw,fun p hpm=>⟨(hp p hpm).1,fun C hC=>(hp p hpm).2 C (hC.mono fun q _ hx=>⟨hx.1,fun h=>hx.2 (hD q h)⟩)⟩⟩
structure Bch (D:Nat→Prop) (B lo b g:Nat) (k:Option Nat) (S:Sto) (w:World):Prop where
 lob:lo≤b
 blo:B≤lo
 dB:∀ q,D q→lo≤q∧q<w.heap.size∧¬B3 b g k q
 ex:∃ A1 n1 c1 v2 c3 A4 c4,w.heap[b]?=some (.cells #[.slice A1 n1 c1,v2,.slice (some ⟨g,0,none⟩) 256 c3,.slice A4 256 c4] 191 (0,0))∧w.ownsRow lo 5 1 (.slice (some ⟨g,0,none⟩) 256 c3) 256 (S.now.map bv) ∧
  WsB D B lo b g k v2 S.ws w∧Bls w B (.slice A1 n1 c1) S.bs∧Bys w B (.slice A4 256 c4) S.last
section
variable {D:Nat→Prop} {B lo b g:Nat} {k:Option Nat} {S:Sto} {w W:World}
theorem Bch.size (h:Bch D B lo b g k S w):lo≤b∧b<w.heap.size∧lo≤g∧g<w.heap.size∧g≠b∧lo≤w.heap.size∧∀ q,k=some q→lo≤q∧q<w.heap.size∧q≠b∧q≠g:=by
 have h1:=h.lob
 obtain⟨A1,n1,c1,v2,c3,A4,c4,hr,ho,⟨ps,_,hw,_⟩,_,_⟩:=h.ex
 have hb:=(zG.1 hr).1
 obtain⟨_,_,hlg,hzg⟩:=Zg ho
 obtain⟨cur,hg⟩:=ZK ho (q:=g) rfl
 refine⟨h1,hb,hlg,hzg,qI hg hr (by decide),by omega,fun q hq=>?_⟩
 rcases hw with ⟨e,_⟩|⟨q',e,e2,how⟩
 ·rw[e] at hq;cases hq
 ·rw[e] at hq
  cases hq
  obtain⟨cur2,hq2⟩:=ZK how e2
  have:=QV how _ e2
  exact⟨this.1,this.2,qI hq2 hr (by decide),qI hq2 hg (by decide)⟩
theorem Bch.b3 (h:Bch D B lo b g k S w):∀ q,B3 b g k q→lo≤q∧q<w.heap.size:=fun q hq=>by
 obtain⟨h1,h2,h3,h4,_,_,h5⟩:=h.size
 rcases hq with rfl|rfl|e
 ·exact⟨h1,h2⟩
 ·exact⟨h3,h4⟩
 ·exact⟨(h5 q e).1,(h5 q e).2.1⟩
theorem Bch.off (h:Bch D B lo b g k S w):∀ q,q<B→¬B3 b g k q:=fun q hq hx=>by
 have h1:=h.blo
 have:=(h.b3 q hx).1
 omega
theorem Bch.offk (h:Bch D B lo b g k S w):∀ q,B3 b g k q→¬(q<B∨D q):=fun q hx hq=>hq.elim (fun h1=>h.off q h1 hx) fun h1=>(h.dB q h1).2.2 hx
theorem Bch.keep (h:Bch D B lo b g k S w) (hB:Below B w W) (hr:∀ q,B3 b g k q∨D q→W.heap[q]?=w.heap[q]?):Bch D B lo b g k S W:=by
 have hs:=hB.size
 have hx:Qd (Xk B D) w W:=Xk.keep fun q hq h1=>h1.elim (fun h1=>hB.block q h1) fun h1=>hr q (.inr h1)
 obtain⟨A1,n1,c1,v2,c3,A4,c4,hro,ho,⟨ps,e,hw,hp⟩,h1,h4⟩:=h.ex
 refine⟨h.lob,h.blo,fun q hq=>⟨(h.dB q hq).1,by have:=(h.dB q hq).2.1;omega,(h.dB q hq).2.2⟩,A1,n1,c1,v2,c3,A4,c4,(hr _ (.inl (.inl rfl))).trans hro,Zb ho (fun q hq=>by cases hq;exact hr _ (.inl (.inr (.inl rfl)))),⟨ps,e,?_,fun p hpm=>⟨(hp p hpm).1,fun C hC=>(hp p hpm).2 C (hx.trans hC fun _ _ h=>h)⟩⟩,h1.below hB,h4.below hB⟩
 rcases hw with ⟨e,hm,A,e2,hr⟩|⟨q,e,e2,how⟩
 ·exact .inl ⟨e,hm,A,e2,hr.below hB⟩
 ·exact .inr ⟨q,e,e2,Zb how fun q' hq'=>by
   rw[e2] at hq'
   cases hq'
   exact hr q (.inl (.inr (.inr e)))⟩
theorem Bch.ext (h:Bch D B lo b g k S w) (hx:Ext w W):Bch D B lo b g k S W:=by
 have h6:=h.size.2.2.2.2.2.1
 have h1:=h.blo
 exact h.keep (Below.mono hx (by omega)) fun q hq=>Below.block hx q (hq.elim (fun h2=>(h.b3 q h2).2) fun h2=>(h.dB q h2).2.1)
theorem Bch.keepX {X:Nat→Prop} (h:Bch D B lo b g k S w) (hB:Below B w W) (hr:∀ q,q<w.heap.size→¬X q→W.heap[q]?=w.heap[q]?) (hX:∀ q,B3 b g k q∨D q→¬X q):Bch D B lo b g k S W:=
 h.keep hB fun q hq=>hr q (hq.elim (fun h2=>(h.b3 q h2).2) fun h2=>(h.dB q h2).2.1) (hX q hq)
theorem Bch.mono {D':Nat→Prop} (h:Bch D B lo b g k S w) (hD:∀ q,D q→D' q) (hB:∀ q,D' q→lo≤q∧q<w.heap.size∧¬B3 b g k q):Bch D' B lo b g k S w:=by
 obtain⟨A1,n1,c1,v2,c3,A4,c4,hro,ho,hw,h1,h4⟩:=h.ex
 exact⟨h.lob,h.blo,hB,A1,n1,c1,v2,c3,A4,c4,hro,ho,hw.mono hD,h1,h4⟩
theorem Bch.count (h:Bch D B lo b g k S w) {a:Nat} (ha:a<256) (x:UInt8):Bch D B lo b g k (qy S (S.now.set a x)) (w.setCell ⟨g,a,none⟩ (bv x))∧qY lo b g k w (w.setCell ⟨g,a,none⟩ (bv x)):=by
 obtain⟨hlb,_,hlg,_,hgb,_,h5⟩:=h.size
 have hbl:=h.blo
 have hkd:=h.offk
 obtain⟨A1,n1,c1,v2,c3,A4,c4,hr,ho,⟨ps,e,hw,hp⟩,h1,h4⟩:=h.ex
 have hK:qY lo b g k w (w.setCell ⟨g,a,none⟩ (bv x)):=⟨Below.setCell (Below.refl _ _) (p:=⟨g,a,none⟩) hlg _,fun q _ hn=>zJ _ _ _ _ fun e=>hn (.inr (.inl e))⟩
 have hX:Qd (Xk B D) w (w.setCell ⟨g,a,none⟩ (bv x)):=Xk.keep fun q _ hq=>zJ _ _ _ _ fun e=>hkd g (.inr (.inl rfl)) (by have e':q=g:=e;exact e' ▸ hq)
 have hB:Below B w (w.setCell ⟨g,a,none⟩ (bv x)):=Below.setCell (Below.refl _ _) (p:=⟨g,a,none⟩) (by show B≤g;omega) _
 refine⟨⟨hlb,hbl,fun q hq=>by simpa using h.dB q hq,A1,n1,c1,v2,c3,A4,c4,(zJ _ _ _ _ fun e=>hgb e.symm).trans hr,UZ ho ha x,⟨ps,e,?_,fun p hpm=>⟨(hp p hpm).1,fun C hC=>(hp p hpm).2 C (hX.trans hC fun _ _ h=>h)⟩⟩,h1.below hB,h4.below hB⟩,hK⟩
 rcases hw with ⟨e,hm,A,e2,hr⟩|⟨q,e,e2,how⟩
 ·exact .inl ⟨e,hm,A,e2,hr.below hB⟩
 ·exact .inr ⟨q,e,e2,Zb how fun q' hq'=>by
   rw[e2] at hq'
   cases hq'
   exact zJ _ _ _ _ (h5 q e).2.2.2⟩
theorem qdl (ps:List ((Int×List UInt8)×Value)) (p:(Int×List UInt8)×Value):jj (ps++[p])=jj ps++[.int .i64 p.1.1,p.2]:=by
 induction ps with
 |nil=>rfl
 |cons a r ih=>simp[jj,ih]
theorem Bch.sto (h:Bch D B lo b g k S w):∃ A1 n1 c1 A2 n2 c2 c3 A4 c4,w.heap[b]?=some (.cells #[.slice A1 n1 c1,.slice A2 n2 c2,.slice (some ⟨g,0,none⟩) 256 c3,.slice A4 256 c4] 191 (0,0))∧qT w w.heap.size (.slice A1 n1 c1) (.slice A2 n2 c2) (.slice (some ⟨g,0,none⟩) 256 c3) (.slice A4 256 c4) S:=by
 have h6:=h.size.2.2.2.2.2.1
 have hbl:=h.blo
 obtain⟨A1,n1,c1,v2,c3,A4,c4,hr,ho,⟨ps,e,hw,hp⟩,h1,h4⟩:=h.ex
 have hv:∃ A2 n2 c2,v2=.slice A2 n2 c2∧Wrs w w.heap.size (.slice A2 n2 c2) S.ws:=by
  rcases hw with ⟨_,hm,A,rfl,hrd⟩|⟨q,_,_,how⟩
  ·exact⟨A,_,_,rfl,ps,e,⟨A,_,rfl,zM _,hm,hrd.more (by omega)⟩,fun p hpm=>⟨(hp p hpm).1,(hp p hpm).2 w (Qd.refl _ _)⟩⟩
  ·obtain⟨A,c,rfl,hc1,hc2⟩:=qw how
   exact⟨A,_,_,rfl,ps,e,⟨A,c,rfl,hc1,hc2,Rd.of_own how⟩,fun p hpm=>⟨(hp p hpm).1,(hp p hpm).2 w (Qd.refl _ _)⟩⟩
 obtain⟨A2,n2,c2,rfl,hW⟩:=hv
 exact⟨A1,n1,c1,A2,n2,c2,c3,A4,c4,hr,h1.more (by omega),hW,Bys.of_own ho,h4.more (by omega)⟩
end
end Go.Proofs.YtpbniokljofedaaGreat
