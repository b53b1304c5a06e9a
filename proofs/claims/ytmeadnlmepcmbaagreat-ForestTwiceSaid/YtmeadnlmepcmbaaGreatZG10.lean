/- Lemmas of the proof. -/
import Derived.Test.YtmeadnlmepcmbaaGreatZG09
set_option linter.all false
set_option maxHeartbeats 8000000
open Go.Proofs.Tryz
namespace Go.Proofs.YtmeadnlmepcmbaaGreat
open Go.RowKit
def outDT(lo:Nat)(bs:List (List UInt8))(ws:List (Int×List UInt8)):qZ:=⟨Nat×Nat×Nat,λp=>Xu (some ⟨p.1,0,none⟩) bs.length bs.length (some ⟨p.2.1,0,none⟩) ws.length (ws.length+1),λp W=>JV lo bs ws p.1 p.2.1 p.2.2 W⟩
theorem YR(lo:Nat)(bs:List (List UInt8))(ws:List (Int×List UInt8))(b c g:Nat):(outDT lo bs ws).f (b,c,g)=Xu (some ⟨b,0,none⟩) bs.length bs.length (some ⟨c,0,none⟩) ws.length (ws.length+1):=rfl
theorem qfd(lo:Nat)(bs:List (List UInt8))(ws:List (Int×List UInt8)):∀p,qS qj ((outDT lo bs ws).φ p):=λp W W' he h=>by have he:Ext W W':=he;exact JV.keep h (zM _) he.size λb _ hb=>he.block b hb
def GQ(lo:Nat)(l:List UInt8):qZ:=⟨OA×Nat,λp=>.slice p.1 l.length p.2,λp W=>W.ownsRow lo 5 1 (.slice p.1 l.length p.2) l.length (l.map bv)⟩
theorem Kg(lo:Nat)(l:List UInt8)(A c):(GQ lo l).f (A,c)=.slice A l.length c:=rfl
theorem TE(lo:Nat)(l:List UInt8):∀p,qS qj ((GQ lo l).φ p):=λp W W' he h=>zh h he
theorem ZL{w w':World}{lo:Nat}{e:TypeId}{size:Nat}{v:Value}{n:Nat}{xs:List Value}(h:w.ownsRow lo e size v n xs)(hk:∀b,lo<=b->b<w.heap.size->w'.heap[b]?=w.heap[b]?):w'.ownsRow lo e size v n xs:=
 ⟨h.1,h.2.imp id λ⟨g,cap,cur,h1,h2,h3,h4⟩=>⟨g,cap,cur,h1,h2,(hk g h2 (zG.1 h3).1).trans h3,h4⟩⟩
def zp(lo:Nat)(S:Sto)(u:Value)(W:World):Prop:=∃BB WW g A3 c3 A4 c4,u=Qp (some ⟨BB,0,none⟩) S.bs.length S.bs.length (some ⟨WW,0,none⟩) S.ws.length (S.ws.length+1) A3 S.now.length c3 A4 S.last.length c4/\JV lo S.bs S.ws BB WW g W /\
 W.ownsRow lo 5 1 (.slice A3 S.now.length c3) S.now.length (S.now.map bv)/\W.ownsRow lo 5 1 (.slice A4 S.last.length c4) S.last.length (S.last.map bv)
theorem zp.keep{lo lo':Nat}{S:Sto}{u:Value}{W W2:World}(h:zp lo S u W)(hl:lo'<=lo)(hs:W.heap.size<=W2.heap.size)(hk:∀b,lo<=b->b<W.heap.size->W2.heap[b]?=W.heap[b]?):zp lo' S u W2:=by obtain⟨BB,WW,g,A3,c3,A4,c4,e,h1,h2,h3⟩:=h;exact⟨BB,WW,g,A3,c3,A4,c4,e,h1.keep hl hs hk,QB (ZL h2 hk) hl,QB (ZL h3 hk) hl⟩
theorem qeg{w w':World}{lo:Nat}{e:TypeId}{size:Nat}{v:Value}{n:Nat}{xs:List Value}(h:w.ownsRow lo e size v n xs){b1:Nat}{c1:Array Value}{t1:TypeId}(h1:w.heap[b1]?=some (.cells c1 t1 (0,0)))(ht:t1≠e)(hk:∀b,lo<=b->b<w.heap.size->b≠b1->w'.heap[b]?=w.heap[b]?):w'.ownsRow lo e size v n xs:=
 ⟨h.1,h.2.imp id λ⟨g,cap,cur,g1,g2,h3,h4⟩=>⟨g,cap,cur,g1,g2,(hk g g2 (zG.1 h3).1 (qL h3 h1 λe=>ht e.symm)).trans h3,h4⟩⟩
theorem zp.keepT{lo lo':Nat}{S:Sto}{u:Value}{W W2:World}(h:zp lo S u W)(hl:lo'<=lo)(hs:W.heap.size<=W2.heap.size){b1:Nat}{c1:Array Value}{t1:TypeId}(hr:W.heap[b1]?=some (.cells c1 t1 (0,0)))(ht:t1≠26/\t1≠142/\t1≠5)(hk:∀b,lo<=b->b<W.heap.size->b≠b1->W2.heap[b]?=W.heap[b]?):zp lo' S u W2:=by obtain⟨BB,WW,g,A3,c3,A4,c4,e,h1,h2,h3⟩:=h;exact⟨BB,WW,g,A3,c3,A4,c4,e,h1.keepT hl hs hr ht hk,QB (qeg h2 hr ht.2.2 hk) hl,QB (qeg h3 hr ht.2.2 hk) hl⟩
set_option maxRecDepth 100000 in
theorem qln(A1 n1 c1 A2 n2 c2 A3 n3 c3 A4 n4 c4)(S:Sto)(hS:Uv S)(w:World)(h:Qq w w.heap.size (.slice A1 n1 c1) (.slice A2 n2 c2) (.slice A3 n3 c3) (.slice A4 n4 c4) S):Calls prog 157 #[Qp A1 n1 c1 A2 n2 c2 A3 n3 c3 A4 n4 c4] w (zm (zp w.heap.size S) w):=by
 have HD:=zH (λW (hW:Ext w W)=>qku A1 n1 c1 A2 n2 c2 S.bs S.ws hS.bs hS.ws hS.be hS.we W (h.ext hW).bs (h.ext hW).ws);have HN:=zH (λW (hW:Ext w W)=>kR _ S.now (by have:=hS.now;omega) W (h.ext hW).now);have HL:=zH (λW (hW:Ext w W)=>kR _ S.last (by have:=hS.last;omega) W (h.ext hW).last);clear h hS;go_enter func157,ntmps157;go_wp2_with fail;generalize hw1:(World.alloc (World.alloc _ _) _)=w1;have x1:Ext w w1:=by rw[<-hw1];exact(zN _ _).trans (zN _ _)
 have r1:w1.heap[w.heap.size]?=some (.cells #[.slice A1 n1 c1,.slice A2 n2 c2,.slice A3 n3 c3,.slice A4 n4 c4] 28 (0,0)):=by rw[<-hw1];exact(zK _ _ _ zA3).trans (zI _ _ _ rfl)
 have q1:w1.heap[w.heap.size+1]?=some (.cells #[.slice none 0 0,.slice none 0 0,.slice none 0 0,.slice none 0 0] 28 (0,0)):=by rw[<-hw1];exact zI _ _ _ zA3
 clear hw1;have g1:∀W,qj.r w1 W->∀i,W.cell? ⟨w.heap.size,i,none⟩=#[.slice A1 n1 c1,.slice A2 n2 c2,.slice A3 n3 c3,.slice A4 n4 c4][i]?:=λW h=>qa (qb r1 h);refine qt zQ ?_;refine qX (w:=w1) qj (qQ [(2,outDT w1.heap.size S.bs S.ws),(5,GQ w1.heap.size S.now),(8,GQ w1.heap.size S.last)])
  [true,true,true,true,true,true,true,true,true,true] 1 zQ zQ zQ zQ zQ zQ zQ ?st (Rel.drew _ _) ?walk
 case st=>exact qi (by simp only[List.forall_mem_cons];exact⟨qfd _ _ _,TE _ _,TE _ _,λ_ h=>by cases h⟩)
 case walk=>
  intro K hK;dsimp only[qw];refine zC1 ?_;refine qH (outDT w1.heap.size S.bs S.ws) zA0 zA0 (λW hW _=>?_) (λp=>?_)
  ·refine Qi ?_ ((HD.out W (Ext.trans x1 hW)).mono λe w' h=>?_)
   ·go_simp
   have hW:Ext w1 W:=hW;obtain⟨b,c,g,rfl,h1,hB⟩:=h;exact⟨(b,c,g),rfl,h1.keep hW.size (zM _) (λ_ _ _=>rfl),hB⟩
  obtain⟨bb,cc,gg⟩:=p;refine zC1 ?_;refine qH (GQ w1.heap.size S.now) zA0 zA0 (λW hW _=>?_) (λp=>?_)
  ·refine Qi ?_ ((HN.out W (Ext.trans x1 hW)).mono λe w' h=>?_)
   ·go_simp
   have hW:Ext w1 W:=hW;obtain⟨u,rfl,hu,hB⟩:=h;obtain⟨A,c,rfl,_,_⟩:=qG hu;exact⟨(A,c),rfl,QB hu hW.size,hB⟩
  obtain⟨B3,d3⟩:=p;refine zC1 ?_;refine qH (GQ w1.heap.size S.last) zA0 zA0 (λW hW _=>?_) (λp=>?_)
  ·refine Qi ?_ ((HL.out W (Ext.trans x1 hW)).mono λe w' h=>?_)
   ·go_simp
   have hW:Ext w1 W:=hW;obtain⟨u,rfl,hu,hB⟩:=h;obtain⟨A,c,rfl,_,_⟩:=qG hu;exact⟨(A,c),rfl,QB hu hW.size,hB⟩
  obtain⟨B4,d4⟩:=p;refine zC1 ?_;refine qD (hK _ _ λW hW hF=>?_);have hD:JV w1.heap.size S.bs S.ws bb cc gg W:=(hF 2).1;have hN:W.ownsRow w1.heap.size 5 1 (.slice B3 S.now.length d3) S.now.length (S.now.map bv):=(hF 5).1;have hL:W.ownsRow w1.heap.size 5 1 (.slice B4 S.last.length d4) S.last.length (S.last.map bv):=(hF 8).1;have hW:Ext w1 W:=hW;clear hF hK g1;refine zB6 ?_;have qW:=qb q1 hW;have kW:=qa qW;have fW:=qg qW;have hz:w.heap.size+1<w1.heap.size:=(zG.1 q1).1;have P5:∀wx:World,wx=Kj W (w.heap.size+1) 0 [.slice (some ⟨bb,0,none⟩) S.bs.length S.bs.length,.slice (some ⟨cc,0,none⟩) S.ws.length (S.ws.length+1),.slice B3 S.now.length d3,.slice B4 S.last.length d4] ->
    wx.heap[w.heap.size+1]?=some (.cells #[.slice (some ⟨bb,0,none⟩) S.bs.length S.bs.length,.slice (some ⟨cc,0,none⟩) S.ws.length (S.ws.length+1),.slice B3 S.now.length d3,.slice B4 S.last.length d4] 28 (0,0))/\Below w.heap.size w wx /\
     zp w.heap.size S (Qp (some ⟨bb,0,none⟩) S.bs.length S.bs.length (some ⟨cc,0,none⟩) S.ws.length (S.ws.length+1) B3 S.now.length d3 B4 S.last.length d4) wx:=λwx e=>by
   have hk:∀b,w1.heap.size<=b->b<W.heap.size->wx.heap[b]?=W.heap[b]?:=λb h1 _=>by rw[e];exact jE zO _ _ _
   have hs:W.heap.size<=wx.heap.size:=by rw[e,Jo];exact zM _
   refine⟨by rw[e];refine(JT _ _ _ _ qW).trans ?_;simp[XX],by rw[e];exact jD (Nat.le_succ _) _ _ _ (Ext.trans x1 hW),bb,cc,gg,B3,d3,B4,d4,rfl,hD.keep zO hs hk,QB (ZL hN hk) zO,QB (ZL hL hk) zO⟩
  replace P5:=zH P5;clear hD hN hL qW hW;go_wp2;refine Qn ?_;go_wp2_with fail;have P5:=P5.out;generalize hw5:World.setCell (World.setCell (World.setCell (World.setCell W _ _) _ _) _ _) _ _=w5;obtain⟨r5,x5,h5⟩:=P5 w5 hw5.symm;clear P5 hw5;have k5:=qa r5;exact bodyPost_ret (v:=Qp (some ⟨bb,0,none⟩) S.bs.length S.bs.length (some ⟨cc,0,none⟩) S.ws.length (S.ws.length+1) B3 S.now.length d3 B4 S.last.length d4) (by simp[results,results157,go_sem,k5]) rfl ⟨_,rfl,h5,x5⟩
set_option maxRecDepth 100000 in
theorem Yz(b:Nat)(A1:OA)(n1 c1:Nat)(A2:OA)(n2 c2:Nat)(A3:OA)(n3 c3:Nat)(A4:OA)(n4 c4:Nat)(S:Sto)(hS:Uv S)(w:World)(hr:w.heap[b]?=some (.cells #[.slice A1 n1 c1,.slice A2 n2 c2,.slice A3 n3 c3,.slice A4 n4 c4] 223 (0,0)))(h:Qq w w.heap.size (.slice A1 n1 c1) (.slice A2 n2 c2) (.slice A3 n3 c3) (.slice A4 n4 c4) S):Calls prog 122 #[.pointer (some ⟨b,0,none⟩)] w (zm (zp w.heap.size S) w):=by
 have HT:=zH (λW (hW:Ext w W)=>qln A1 n1 c1 A2 n2 c2 A3 n3 c3 A4 n4 c4 S hS W (h.ext hW));clear h hS;have k0:=qa hr;have zb:b<w.heap.size:=(zG.1 hr).1;go_enter func122,ntmps122;go_wp2_with fail;generalize hw1:World.alloc _ _=w1;have x1:Ext w w1:=by rw[<-hw1];exact zN _ _
 have q1:w1.heap[w.heap.size]?=some (.cells #[.slice none 0 0,.slice none 0 0,.slice none 0 0,.slice none 0 0] 28 (0,0)):=by rw[<-hw1];exact zI _ _ _ zA3
 clear hw1 k0;refine(HT.out w1 x1).mono ?_;rintro e w2 ⟨u,rfl,hT,hB⟩;have hB:Ext w1 w2:=hB;have q2:=qb q1 hB;have kq:=qa q2;have fq:=qg q2;have z1:w.heap.size<w1.heap.size:=(zG.1 q1).1;obtain⟨BB,WW,g,B3,d3,B4,d4,rfl,hD,hN,hL⟩:=hT;have P5:∀wx:World,wx=Kj w2 w.heap.size 0 [.slice (some ⟨BB,0,none⟩) S.bs.length S.bs.length,.slice (some ⟨WW,0,none⟩) S.ws.length (S.ws.length+1),.slice B3 S.now.length d3,.slice B4 S.last.length d4] ->
   wx.heap[w.heap.size]?=some (.cells #[.slice (some ⟨BB,0,none⟩) S.bs.length S.bs.length,.slice (some ⟨WW,0,none⟩) S.ws.length (S.ws.length+1),.slice B3 S.now.length d3,.slice B4 S.last.length d4] 28 (0,0))/\Below w.heap.size w wx /\
    zp w.heap.size S (Qp (some ⟨BB,0,none⟩) S.bs.length S.bs.length (some ⟨WW,0,none⟩) S.ws.length (S.ws.length+1) B3 S.now.length d3 B4 S.last.length d4) wx:=λwx e=>by
  have hk:∀b,w1.heap.size<=b->b<w2.heap.size->wx.heap[b]?=w2.heap[b]?:=λb h1 _=>by rw[e];exact jE zO _ _ _
  have hs:w2.heap.size<=wx.heap.size:=by rw[e,Jo];exact zM _
  refine⟨by rw[e];refine(JT _ _ _ _ q2).trans ?_;simp[XX],by rw[e];exact jD (zM _) _ _ _ (x1.trans hB),BB,WW,g,B3,d3,B4,d4,rfl,hD.keep zO hs hk,QB (ZL hN hk) zO,QB (ZL hL hk) zO⟩
 replace P5:=zH P5;clear hD hN hL q2 hB q1;go_wp2_with fail;have P5:=P5.out;generalize hw5:World.setCell (World.setCell (World.setCell (World.setCell w2 _ _) _ _) _ _) _ _=w5;obtain⟨r5,x5,h5⟩:=P5 w5 hw5.symm;clear P5 hw5;have k5:=qa r5;exact bodyPost_ret (v:=Qp (some ⟨BB,0,none⟩) S.bs.length S.bs.length (some ⟨WW,0,none⟩) S.ws.length (S.ws.length+1) B3 S.now.length d3 B4 S.last.length d4) (by simp[results,results122,go_sem,k5]) rfl ⟨_,rfl,h5,x5⟩
theorem qfk{w:World}{lo g n c k:Nat}{l:List UInt8}(h:w.ownsRow lo 5 1 (.slice (some ⟨g,0,none⟩) n c) n (l.map bv))(hk:k<n)(x:UInt8):(w.setCell ⟨g,k,none⟩ (bv x)).ownsRow lo 5 1 (.slice (some ⟨g,0,none⟩) n c) n ((l.set k x).map bv):=by
 obtain⟨h1,h2⟩:=h;rcases h2 with⟨e,_⟩|⟨g',cap,cur,e,hg,hr,hc,hm,hs,ht⟩
 ·cases e
 ·cases e;have hk2:k<cur.size:=zO;refine⟨by simpa using h1,.inr ⟨g,c,_,rfl,hg,qo hr k _,hc,hm,by simpa using hs,?_⟩⟩;apply List.ext_getElem?;intro i;rw[List.map_set,<-ht,List.getElem?_take,List.getElem?_set,List.getElem?_take];simp only[Nat.mul_one,Array.getElem?_toList,Array.getElem?_setIfInBounds,List.length_take,Array.length_toList];by_cases hi:i<n
  ·rw[if_pos hi,if_pos hi];by_cases e:k=i
   ·subst e;rw[if_pos rfl,if_pos rfl,if_pos hk2,if_pos zO]
   ·rw[if_neg e,if_neg e]
  ·rw[if_neg hi,if_neg hi,if_neg zO]
theorem qgZ{w:World}{lo g n c b k:Nat}{l:List UInt8}{v:Value}(h:w.ownsRow lo 5 1 (.slice (some ⟨g,0,none⟩) n c) n (l.map bv))(hg:g≠b):(w.setCell ⟨b,k,none⟩ v).ownsRow lo 5 1 (.slice (some ⟨g,0,none⟩) n c) n (l.map bv):=by obtain⟨h1,h2⟩:=h;refine⟨h1,h2.imp id λ⟨g',cap,cur,e,h3,h4,h5⟩=>?_⟩;cases e;exact⟨g,c,cur,rfl,h3,(zJ _ _ _ _ hg).trans h4,h5⟩
theorem ZW{w:World}{lo g n c:Nat}{l:List UInt8}(h:w.ownsRow lo 5 1 (.slice (some ⟨g,0,none⟩) n c) n (l.map bv)):(∀k,k<n->w.cell? ⟨g,k,none⟩=some (.int .u8 ((l[k]?.getD 0).toNat:Int)))/\(∀k,w.frozen? ⟨g,k,none⟩=false)/\lo<=g/\g<w.heap.size:=by
 have h1:=h.1;obtain⟨h0,h2⟩:=h;rcases h2 with⟨e,_⟩|⟨g',cap,cur,e,hg,hr,hc,hm,hs,ht⟩
 ·cases e
 ·cases e;refine⟨λk hk=>?_,qg hr,hg,(zG.1 hr).1⟩;have hl:l.length=n:=by simpa using h1
  have hkl:k<l.length:=zO;have e2:(l.map bv)[k]?=some (bv l[k]):=by rw[List.getElem?_map,zL hkl];rfl
  rw[<-ht,List.getElem?_take,if_pos zO]at e2;have e3:cur[k]?=cur.toList[k]?:=zA3;rw[qa hr,e3,e2,zL hkl];rfl
set_option maxRecDepth 100000 in
theorem qfb(A1 n1 c1 A2 n2 c2 A3 n3 c3 A4 n4 c4)(S:Sto)(hl:S.now.length<1073741824)(w:World)(h:Qq w w.heap.size (.slice A1 n1 c1) (.slice A2 n2 c2) (.slice A3 n3 c3) (.slice A4 n4 c4) S):Calls prog 109 #[Qp A1 n1 c1 A2 n2 c2 A3 n3 c3 A4 n4 c4] w (zm (λu W=>∃b A3' c3',u=.pointer (some ⟨b,0,none⟩)/\w.heap.size<=b/\W.heap[b]?=some (.cells #[.slice A1 n1 c1,.slice A2 n2 n2,.slice A3' n3 c3',.slice A4 n4 c4] 223 (0,0))/\W.ownsRow w.heap.size 5 1 (.slice A3' n3 c3') n3 (S.now.map bv)) w):=by
 have hn3:Hid (n3=S.now.length):=zH h.now.at_.1;obtain⟨-,h2a,h2b,-⟩:=h.ws.at_;have HC:=zH (λW (hW:Ext w W)=>kR (.slice A3 n3 c3) S.now hl W (h.ext hW).now);clear h;go_enter func109,ntmps109;go_wp2_with fail;generalize hw1:(World.alloc _ _)=w1;have x1:Ext w w1:=by rw[<-hw1];exact zN _ _
 have r1:w1.heap[w.heap.size]?=some (.cells #[.slice A1 n1 c1,.slice A2 n2 c2,.slice A3 n3 c3,.slice A4 n4 c4] 28 (0,0)):=by rw[<-hw1];exact zI _ _ _ rfl
 clear hw1;refine(HC.out _ x1).mono ?_;rintro e w2 ⟨u,rfl,hu,hB⟩;have x2:=x1.trans hB;have r2:=qb r1 hB;have s1:w.heap.size<w1.heap.size:=(zG.1 r1).1;obtain⟨A3',c3',rfl,_,_⟩:=qG hu;have k2:=qa r2;have f2:=qg r2;clear hB r1 HC;rw[<-hn3.out]at hu⊢;go_wp2_with fail;have hu3:=ZL (w':=w2.setCell ⟨w.heap.size,2,none⟩ (.slice A3' n3 c3')) hu (λb hb _=>zJ _ _ _ _ (by show b≠w.heap.size;omega));generalize hw3:(World.setCell _ _ _)=w3 at*;have x3:Ext w w3:=by rw[<-hw3];exact Below.setCell x2 (p:=⟨w.heap.size,2,none⟩) (zM _) _
 have r3:w3.heap[w.heap.size]?=some (.cells #[.slice A1 n1 c1,.slice A2 n2 c2,.slice A3' n3 c3',.slice A4 n4 c4] 28 (0,0)):=by rw[<-hw3];exact qo r2 2 _
 clear hw3 k2 f2 r2 x2 hu;refine(qgl A2 n2 c2 h2a h2b _).mono ?_;rintro e w4 ⟨rfl,hB⟩;have x4:=x3.trans hB;have r4:=qb r3 hB;have hu4:=zh hu3 hB;have k4:=qa r4;have f4:=qg r4;have s4:w.heap.size<w4.heap.size:=(zG.1 r4).1;clear hB r3 x3 hu3;replace hu4:=zH hu4;go_wp2;have hu5:=ZL (w':=w4.setCell ⟨w.heap.size,1,none⟩ (.slice A2 n2 n2)) hu4.out (λb hb _=>zJ _ _ _ _ (by show b≠w.heap.size;omega));have bf:Below w.heap.size w ((w4.setCell ⟨w.heap.size,1,none⟩ (.slice A2 n2 n2)).alloc (.cells #[.slice A1 n1 c1,.slice A2 n2 n2,.slice A3' n3 c3',.slice A4 n4 c4] 223)):=by have x4':Below w.heap.size w w4:=x4;exact(by repeat' (first|with_reducible exact Below.refl _ _|with_reducible assumption|with_reducible apply Below.drew|with_reducible apply qR|with_reducible refine Below.alloc ?_ ?_ _|with_reducible refine Below.setCell ?_ ?_ _|(simp;done)|(simp;omega)|omega))
 go_ret;exact⟨_,rfl,⟨w4.heap.size,A3',c3',rfl,zO,zI _ _ _ zA3,QB (zh hu5 (zN _ _)) zO⟩,bf⟩
def qP(t:List UInt8)(a:Nat):Nat:=(t[a]?.getD 0).toNat
def QZ(t:List UInt8)(a by_:Nat):List UInt8:=t.set a (UInt8.ofNat (qP t a+by_))
theorem qkf(n:Nat):IntKind.u8.wrap (n:Int)=(((UInt8.ofNat n).toNat:Nat):Int):=by simp[IntKind.wrap,IntKind.bits,IntKind.signed]
theorem qdb{bs:List (List UInt8)}{ws:List (Int×List UInt8)}(h:jV bs ws=true):bs.length<1000000/\ws.length<1000000/\(∀l∈bs,l.length<1000000)/\∀p∈ws,p.2.length<1000000:=by
 unfold jV headD at h;simp only[Bool.and_eq_true,decide_eq_true_eq,List.all_eq_true]at h;obtain⟨⟨h1,h2⟩,h3,h4⟩:=h;refine⟨zO,zO,λl hl=>?_,λp hp=>?_⟩
 ·have:=h3 l hl;unfold qai at this;have:=of_decide_eq_true this;omega
 ·have:=h4 p hp;unfold wrOk at this;have:=of_decide_eq_true this;omega
abbrev qv(S:Sto)(t:List UInt8):Sto:=⟨S.bs,S.ws,t,S.last⟩
theorem jF{S:Sto}(h:qm S=true):Uv S:=by
 obtain⟨h1,h2,h3,h4⟩:=Qb h;have hd:jV S.bs S.ws=true:=by unfold qm at h;simp at h;exact h.1
 obtain⟨d1,d2,d3,d4⟩:=qdb hd;exact⟨d1,d2,d3,d4,zO,zO⟩
def vM(t:List UInt8)(a:Nat):List UInt8:=t.set a (UInt8.ofNat (qP t a-1))
theorem qke{n:Nat}(h:0<n)(h2:n<256):IntKind.u8.wrap ((n:Int)-1)=(((UInt8.ofNat (n-1)).toNat:Nat):Int):=by rw[<-qkf];congr 1;omega
theorem qbu{R:Ending->World->Prop}{a:Act}{W:World}{v:Value}(h4:a.tmps[4]?.getD undef=v)(hd:a.defers=[])(hR:R (.returned v) W):bodyPost prog Tryz.f141 R .ret a W:=by refine bodyPost_ret (v:=v) ?_ hd hR;simp[results,results141,go_sem,h4]
theorem zp.set4{lo lo' b:Nat}{S:Sto}{u:Value}{W:World}(h:zp lo S u W)(hl:lo'<=lo)(hb:b<lo)(x0 x1 x2 x3:Value):zp lo' S u ((((W.setCell ⟨b,0,none⟩ x0).setCell ⟨b,1,none⟩ x1).setCell ⟨b,2,none⟩ x2).setCell ⟨b,3,none⟩ x3):=
 h.keep hl zA3 λb' hb' _=>(zJ _ _ _ _ zA2).trans ((zJ _ _ _ _ zA2).trans ((zJ _ _ _ _ zA2).trans (zJ _ _ _ _ zA2)))
abbrev qaK:Value:=.agg (Qk (.slice none 0 0) (.slice none 0 0) (.slice none 0 0) (.slice none 0 0) 0 0 0 (.slice none 0 0))
def Xo(lo:Nat)(S:Sto)(gen root next:Int)(dead:List Int)(u:Value)(W:World):Prop:=∃A1 c1 A2 c2 A3 c3 A4 c4 A5 c5,u=.agg (Qk (.slice A1 S.bs.length c1) (.slice A2 S.ws.length c2) (.slice A3 S.now.length c3) (.slice A4 S.last.length c4) gen root next (.slice A5 dead.length c5)) /\
 ∀C:World,PosZ lo W C->Qq C W.heap.size (.slice A1 S.bs.length c1) (.slice A2 S.ws.length c2) (.slice A3 S.now.length c3) (.slice A4 S.last.length c4) S/\jH C W.heap.size (.slice A5 dead.length c5) dead
theorem Rd.pos{w C:World}{B size lo n c:Nat}{A:OA}{xs:List Value}(h:Rd w B size A n xs)(hf:Zw lo (.slice A n c))(hk:∀(q:Addr)(v:Value),lo<=q.block->q.block<B->w.cell? q=some v->C.cell? q=some v):Rd C B size A n xs:=
 ⟨h.1,λhn=>by obtain⟨b,off,rfl,hb,hc⟩:=h.2 hn;exact⟨b,off,rfl,hb,λj u hu=>hk _ _ (hf ⟨b,off,none⟩ n c rfl) hb (hc j u hu)⟩⟩
theorem jH.pos{w C:World}{B lo:Nat}{v:Value}{l:List Int}(h:jH w B v l)(hf:Zw lo v)(hk:∀(q:Addr)(v:Value),lo<=q.block->q.block<B->w.cell? q=some v->C.cell? q=some v):jH C B v l:=by obtain⟨A,c,e,hc,hm,hr⟩:=h;subst e;exact⟨A,c,rfl,hc,hm,Rd.pos hr hf hk⟩
theorem zp.newSto{lo:Nat}{S:Sto}{u:Value}{W:World}(h:zp lo S u W)(hS:Uv S):NewSto lo S u W:=by obtain⟨BB,WW,g,A3,c3,A4,c4,e,h1,h2,h3⟩:=h;refine⟨_,_,_,_,A3,c3,A4,c4,e,qkX (W:=thaw W) (Φ:=λC=>Qq C W.heap.size _ _ _ _ S) (λA C hAC hA=>hA.some_ hAC) λW2 hk=>?_⟩;obtain⟨k1,k2⟩:=h1.readsT hS.bs hS.ws hS.be hS.we W2 hk;exact⟨k1,k2,(Bys.of_ownT h2).keepN (Zw.of_own h2) hk,(Bys.of_ownT h3).keepN (Zw.of_own h3) hk⟩
theorem jH.of_ownT{w:World}{base:Nat}{v:Value}{l:List Int}(h:w.ownsRow base 3 1 v l.length (GV l)):jH (thaw w) w.heap.size v l:=by obtain⟨A,c,e,hc,hm,hr⟩:=jH.of_own h;refine⟨A,c,e,hc,hm,hr.1,λhn=>?_⟩;obtain⟨b,off,e2,hb,hcs⟩:=hr.2 hn;obtain⟨cs,t,hBT⟩:=Thaw.of_own h ⟨b,off,none⟩ l.length c (by rw[e,e2]) hn;exact⟨b,off,e2,hb,λj u hu=>(Yq hBT _).trans (hcs j u hu)⟩
def outN(lo n:Nat)(l:List Int):qZ:=⟨OA×Nat,λp=>.slice p.1 n p.2,λp W=>jH (thaw W) W.heap.size (.slice p.1 n p.2) l/\Zw lo (.slice p.1 n p.2)⟩
theorem ZU(lo n:Nat)(l:List Int)(A c):(outN lo n l).f (A,c)=.slice A n c:=rfl
theorem qaJ(lo n:Nat)(l:List Int):∀p,QV ((outN lo n l).φ p):=λp W W' he h=>⟨by have h1:=h.1;rw[<-Yr W]at h1;have h2:=h1.ext_ (Ext.thaw he);rw[Yr]at h2;exact h2,h.2⟩
theorem Uc{R:Ending->World->Prop}{a:Act}{W:World}{b:Nat}{x0 x1 x2 x3 x4 x5 x6 x7 v:Value}(h4:a.tmps[4]?.getD undef=.pointer (some ⟨b,0,none⟩))(h5:a.tmps[5]?.getD undef=v)(hd:a.defers=[])(hBT:W.heap[b]?=some (.cells #[x0,x1,x2,x3,x4,x5,x6,x7] 32 (0,0)))(hR:R (.returned (.tuple #[.agg #[x0,x1,x2,x3,x4,x5,x6,x7],v])) W):bodyPost prog Tryz.f18 R .ret a W:=by
 refine bodyPost_ret (v:=.tuple #[.agg #[x0,x1,x2,x3,x4,x5,x6,x7],v]) ?_ hd hR;have k:=qa hBT;simp[results,results18,go_sem,h4,h5,k]
theorem Yi(a b:K3):qV a b=true↔(a.1<b.1\/(a.1=b.1/\(a.2.1<b.2.1\/(a.2.1=b.2.1/\a.2.2<b.2.2)))):=by simp[qV,JD]
theorem Yj(a b:K3):qV a b=false↔¬(a.1<b.1\/(a.1=b.1/\(a.2.1<b.2.1\/(a.2.1=b.2.1/\a.2.2<b.2.2)))):=by rw[<-Bool.not_eq_true,Yi]
def leK(a b:K3):Prop:=qV b a=false
theorem UO(a:K3):leK a a:=by unfold leK;rw[Yj];omega
theorem GL{a b c:K3}(h:leK a b)(h':qV b c=true):qV a c=true:=by unfold leK at h;rw[Yj]at h;rw[Yi]at*;omega
theorem XG{a b c:K3}(h:qV a b=true)(h':leK b c):qV a c=true:=by unfold leK at h';rw[Yj]at h';rw[Yi]at*;omega
theorem kG{a b:K3}(h:qV a b=true):leK a b:=by unfold leK;rw[Yj];rw[Yi]at h;omega
theorem JF{a b c:K3}(h:qV a b=true)(h':qV b c=true):qV a c=true:=XG h (kG h')
theorem YL(a:K3):qV a a=false:=UO a
theorem qeU{a b:K3}(h:leK a b)(h':leK b a):a=b:=by obtain⟨a1,a2,a3⟩:=a;obtain⟨b1,b2,b3⟩:=b;unfold leK at*;rw[Yj]at*;simp only[Prod.mk.injEq]at*;omega
structure Srt(f l:K3)(ys:List It):Prop where
 ord:ys.Pairwise λa b=>qV (qp a) (qp b)=true
 low:∀x∈ys,leK f (qp x)
 high:∀x∈ys,leK (qp x) l
 le:leK f l
theorem Srt.append{f l f' l':K3}{ys zs:List It}(h:Srt f l ys)(h':Srt f' l' zs)(hl:qV l f'=true):Srt f l' (ys++zs):=
 ⟨List.pairwise_append.2 ⟨h.ord,h'.ord,λa ha b hb=>GL (h.high a ha) (XG hl (h'.low b hb))⟩,
  λx hx=>(List.mem_append.1 hx).elim (h.low x) λhx=>kG (GL h.le (XG hl (h'.low x hx))),
  λx hx=>(List.mem_append.1 hx).elim (λhx=>kG (GL (h.high x hx) (XG hl h'.le))) (h'.high x),
  kG (GL h.le (XG hl h'.le))⟩
theorem Srt.one(x:It){l:K3}(h:leK (qp x) l):Srt (qp x) l [x]:=
 ⟨List.pairwise_singleton _ _,λy hy=>by rw[List.mem_singleton.1 hy];exact UO _,λy hy=>by rw[List.mem_singleton.1 hy];exact h,h⟩
theorem Qd{S:Sto}:∀(h:Nat)(xs ys:List It),qu S h (xs++ys)=qu S h xs++qu S h ys
 |0,_,_=>rfl
 |h+1,xs,ys=>by rw[zu,zu,zu,List.flatMap_append]
theorem TH(S:Sto)(h:Nat)(H1:∀y f l,jv S h y=some (f,l)->Srt f l (qu S h [y]))(xs:List It):∀(k:Nat)(_:k<=xs.length)(p:K3×K3),qz S h (xs.take k)=some (some p)->Srt p.1 p.2 (qu S h (xs.take k))/\Srt p.1 p.2 (xs.take k):=by
 intro k;induction k with
 |zero=>intro _ p e;rw[List.take_zero]at e;cases e
 |succ k ih=>
  intro hk p e;have hlt:k<xs.length:=hk;rw[Jp hlt]at e;unfold jO at e;rw[List.take_succ_eq_append_getElem hlt,Qd];rcases hO:jv S h xs[k]with _|⟨f,l⟩
  ·rw[hO]at e;rcases hA:qz S h (xs.take k)with _|a
   ·rw[hA]at e;cases e
   ·rw[hA]at e;cases e
  ·have h1:=H1 _ _ _ hO;rw[hO]at e;rcases hA:qz S h (xs.take k)with _|_|q
   ·rw[hA]at e;cases e
   ·obtain rfl:k=0:=by
     rcases Nat.eq_zero_or_pos k with h0|h0
     ·exact h0
     ·exact absurd hA (Zm h0 zO)
    rw[hA]at e;simp only at e;split at e
    ·rename_i hf;cases e;subst hf;rw[List.take_zero,jQ];exact⟨h1,Srt.one _ h1.le⟩
    ·cases e
   ·obtain⟨i1,i2⟩:=ih zO q hA;rw[hA]at e;simp only at e;split at e
    ·rename_i hf;split at e
     ·rename_i hl;cases e;subst hf;exact⟨i1.append h1 hl,i2.append (Srt.one _ h1.le) hl⟩
     ·cases e
    ·cases e
theorem qfc(S:Sto):∀(h:Nat)(y:It)(f l:K3),jv S h y=some (f,l)->Srt f l (qu S h [y])
 |0,y,f,l,e=>by
  unfold jv at e;split at e
  ·cases e;exact Srt.one y (UO _)
  ·cases e
 |h+1,y,f,l,e=>by
  rw[vk]at e;unfold Va at e;split at e
  ·rcases hn:qk S y.r.toNat with _|⟨lvl,xs⟩
   ·rw[hn]at e;cases e
   ·rw[hn]at e;simp only at e;split at e
    ·rcases hs:qz S h xs with _|_|q
     ·rw[hs]at e;cases e
     ·rw[hs]at e;cases e
     ·rw[hs]at e;cases e;have:=(TH S h (qfc S h) xs xs.length (zM _) _ (by rw[List.take_length];exact hs)).1;rw[List.take_length]at this;rw[zu];simp only[List.flatMap_cons,List.flatMap_nil,List.append_nil,hn];exact this
    ·cases e
  ·cases e
theorem Gq{S:Sto}{h:Nat}{xs:List It}{p:K3×K3}(hs:qz S h xs=some (some p)):Srt p.1 p.2 (qu S h xs)/\Srt p.1 p.2 xs:=by
 have:=TH S h (qfc S h) xs xs.length (zM _) p (by rw[List.take_length];exact hs)
 rwa [List.take_length]at this
theorem ZN{S:Sto}{h:Nat}{xs:List It}(hs:(qz S h xs).isSome=true):(qu S h xs).Pairwise (λa b=>qV (qp a) (qp b)=true)/\xs.Pairwise (λa b=>qV (qp a) (qp b)=true):=by
 rcases hq:qz S h xs with _|_|p
 ·rw[hq]at hs;cases hs
 ·rcases Nat.eq_zero_or_pos xs.length with h0|h0
  ·obtain rfl:=List.eq_nil_of_length_eq_zero h0;rw[jQ];exact⟨List.Pairwise.nil,List.Pairwise.nil⟩
  ·exact absurd (by rw[List.take_length];exact hq) (Zm (S:=S) (h:=h) h0 (zM xs.length))
 ·exact⟨(Gq hq).1.ord,(Gq hq).2.ord⟩
theorem KU{xs:List It}(h:xs.Pairwise λa b=>qV (qp a) (qp b)=true){i j:Nat}(hij:i<j)(hj:j<xs.length):qV (qp (xs[i]'(by omega))) (qp xs[j])=true:=List.pairwise_iff_getElem.1 h i j _ hj hij
theorem vE{S:Sto}{h:Nat}{xs:List It}(hs:(qz S h xs).isSome=true)(k:Nat):(qz S h (xs.take k)).isSome=true:=by
 rcases hq:qz S h (xs.take k)with _|q
 ·rw[qer hq]at hs;cases hs
 ·rfl
theorem qkV{S:Sto}{h:Nat}{xs:List It}(hs:(qz S h xs).isSome=true){i:Nat}(hi:i+1<xs.length){k:K3}(hk:qV k (qp xs[i+1])=false):∀x∈qu S h [xs[i]],qV (qp x) k=true:=by
 intro x hx;have h2:=vE hs (i+1+1);rw[Jp hi]at h2;unfold jO at h2;rcases hA:qz S h (xs.take (i+1))with _|_|q
 ·rw[hA]at h2;cases h2
 ·exact absurd hA (Zm zO zO)
 ·have hm:=(Gq hA).1.high x (by rw[List.take_succ_eq_append_getElem zO,Qd];exact List.mem_append_right _ hx);rw[hA]at h2;rcases hO:jv S h xs[i+1]with _|⟨f,l⟩
  ·rw[hO]at h2;cases h2
  ·rw[hO]at h2;simp only at h2;split at h2
   ·rename_i hf;split at h2
    ·rename_i hl;rw[hf]at hl;exact GL hm (XG hl hk)
    ·cases h2
   ·cases h2
def QS(S:Sto)(h:Nat)(from_:K3)(xs:List It):List It:=(qu S h xs).filter λx=>!qV (qp x) from_
theorem qas{S:Sto}{h:Nat}{k:K3}(xs ys:List It):QS S h k (xs++ys)=QS S h k xs++QS S h k ys:=by unfold QS;rw[Qd,List.filter_append]
theorem qkB{S:Sto}{h:Nat}{xs:List It}(hs:(qz S h xs).isSome=true){i:Nat}(hi:i+1<xs.length){k:K3}(hk:qV k (qp xs[i+1])=false):QS S h k [xs[i]]=[]:=by unfold QS;rw[List.filter_eq_nil_iff];intro x hx;simp[qkV hs hi hk x hx]
def Vt(S:Sto)(h:Nat)(a b:K3)(xs:List It):List It:=(qu S h xs).filter λx=>!qV (qp x) a&&!qV b (qp x)
theorem qbt(S:Sto)(h:Nat)(a b:K3)(xs:List It):Vt S h a b xs=(QS S h a xs).filter λx=>!qV b (qp x):=by unfold Vt QS;rw[List.filter_filter];congr 1;funext x;rw[Bool.and_comm]
theorem from_ord{S:Sto}{h:Nat}{xs:List It}{k:K3}(hs:(qz S h xs).isSome=true):(QS S h k xs).Pairwise λa b=>qV (qp a) (qp b)=true:=(ZN hs).1.sublist List.filter_sublist
theorem qgc{S:Sto}{h:Nat}{a b:K3}{xs:List It}(hb:∀x∈QS S h a xs,qV b (qp x)=false):Vt S h a b xs=QS S h a xs:=by rw[qbt,List.filter_eq_self];intro x hx;simp[hb x hx]
theorem qeK{S:Sto}{h:Nat}{a b:K3}{xs pre rest:List It}{x:It}(hs:(qz S h xs).isSome=true)(he:QS S h a xs=pre++x::rest)(hp:∀y∈pre,qV b (qp y)=false)(hx:qV b (qp x)=true):Vt S h a b xs=pre:=by
 have ho:=from_ord (k:=a) hs;rw[he]at ho;obtain⟨-,o2,-⟩:=List.pairwise_append.1 ho;rw[List.pairwise_cons]at o2;rw[qbt,he,List.filter_append];have e1:pre.filter (λx=>!qV b (qp x))=pre:=by rw[List.filter_eq_self];intro y hy;simp[hp y hy]
 have e2:(x::rest).filter (λx=>!qV b (qp x))=[]:=by
  rw[List.filter_eq_nil_iff];intro y hy;rcases List.mem_cons.1 hy with rfl|hy
  ·simp[hx]
  ·simp[JF hx (o2.1 y hy)]
 rw[e1,e2,List.append_nil]
def qA(xs:List It)(k:K3):Nat:=(xs.filter λx=>qV (qp x) k).length
theorem Jm(xs:List It)(k:K3):qA xs k<=xs.length:=List.length_filter_le _ _
theorem qiO{xs:List It}{k:K3}{i:Nat}(h:i<xs.length):qA (xs.take (i+1)) k=qA (xs.take i) k+(if qV (qp xs[i]) k=true then 1 else 0):=by
 unfold qA;rw[List.take_succ_eq_append_getElem h,List.filter_append,List.length_append];congr 1;by_cases hl:qV (qp xs[i]) k=true
 ·rw[if_pos hl];simp[hl]
 ·rw[if_neg hl];simp[hl]
theorem Jl:∀{xs:List It}{k:K3},xs.Pairwise (λa b=>qV (qp a) (qp b)=true)->∀i (h:i<xs.length),(qV (qp xs[i]) k=true↔i<qA xs k)
 |[],_,_,i,h=>absurd h (Nat.not_lt_zero _)
 |x::r,k,ho,i,h=>by
  rw[List.pairwise_cons]at ho;by_cases hx:qV (qp x) k=true
  ·have e:qA (x::r) k=qA r k+1:=by simp[qA,hx]
   cases i with
   |zero=>simp[hx,e]
   |succ i=>rw[e];have:=Jl (k:=k) ho.2 i (by simpa using h);simpa using this
  ·have hCV:∀y∈r,qV (qp y) k=false:=λy hy=>by
    rcases hz:qV (qp y) k with _|_
    ·rfl
    ·exact absurd (JF (ho.1 y hy) hz) hx
   have e:qA (x::r) k=0:=by
    unfold qA;have:r.filter (λx=>qV (qp x) k)=[]:=by rw[List.filter_eq_nil_iff];intro y hy;simp[hCV y hy]
    simp[hx,this]
   rw[e];cases i with
   |zero=>simp[hx]
   |succ i=>
    have hi:i<r.length:=by simpa using h
    simp[hCV r[i] (List.getElem_mem hi)]
theorem qct{p:It->Bool}{xs:List It}{i:Nat}(h:i<xs.length)(hp:p xs[i]=true)(hn:∀j (hj:j<xs.length),i<j->p xs[j]=false):xs.reverse.find? p=some xs[i]:=by
 have e:xs=xs.take i++xs[i]::xs.drop (i+1):=by rw[<-List.drop_eq_getElem_cons h,List.take_append_drop]
 have e2:xs.reverse=(xs.drop (i+1)).reverse++xs[i]::(xs.take i).reverse:=by
  conv=>lhs;rw[e]
  simp
 rw[e2,List.find?_append];have e3:(xs.drop (i+1)).reverse.find? p=none:=by rw[List.find?_eq_none];intro y hy;rw[List.mem_reverse]at hy;obtain⟨j,hj,rfl⟩:=List.mem_iff_getElem.1 hy;rw[List.length_drop]at hj;rw[List.getElem_drop];simp[hn (i+1+j) zO zO]
 rw[e3,List.find?_cons_of_pos hp];rfl
theorem qhj{p:It->Bool}{xs:List It}(hn:∀j (hj:j<xs.length),p xs[j]=false):xs.reverse.find? p=none:=by rw[List.find?_eq_none];intro y hy;rw[List.mem_reverse]at hy;obtain⟨j,hj,rfl⟩:=List.mem_iff_getElem.1 hy;simp[hn j hj]
def Yf(xs:List It)(k:K3):Option It:=xs.reverse.find? λx=>!qV k (qp x)
def qgJ(xs:List It)(k:K3):Option It:=xs.reverse.find? λx=>decide (qp x=k)
def Vc(S:Sto)(k:K3):Nat->List It->Option It
 |0,xs=>qgJ xs k
 |h+1,xs=>match Yf xs k with
  |none=>none
  |some y=>match qk S y.r.toNat with
   |none=>none
   |some (_,ys)=>Vc S k h ys
theorem qgX(S:Sto)(k:K3)(xs:List It):Vc S k 0 xs=qgJ xs k:=rfl
theorem XL{S:Sto}{k:K3}{h:Nat}{xs ys:List It}{y:It}{lvl:Int}(hd:Yf xs k=some y)(hn:qk S y.r.toNat=some (lvl,ys)):Vc S k (h+1) xs=Vc S k h ys:=by show(match Yf xs k with|none=>none|some y=>match qk S y.r.toNat with|none=>none|some (_,ys)=>Vc S k h ys)=_;rw[hd];simp only;rw[hn]
theorem qgV{S:Sto}{k:K3}{h:Nat}{xs:List It}(hd:Yf xs k=none):Vc S k (h+1) xs=none:=by show(match Yf xs k with|none=>none|some y=>match qk S y.r.toNat with|none=>none|some (_,ys)=>Vc S k h ys)=_;rw[hd]
section
variable {xs:List It} {k:K3} (ho:xs.Pairwise fun a b=>qV (qp a) (qp b)=true)
include ho
theorem leaf_is(hp:qA xs k<xs.length)(he:qp (xs[qA xs k]'hp)=k):qgJ xs k=some xs[qA xs k]:=by refine qct hp (by simp[he]) λj hj hlt=>?_;have:=KU ho hlt hj;rw[he]at this;rw[decide_eq_false_iff_not];intro h;rw[h,YL]at this;cases this
theorem qjK(hn:∀hp:qA xs k<xs.length,qp (xs[qA xs k]'hp)≠k):qgJ xs k=none:=by
 refine qhj λj hj=>?_;rw[decide_eq_false_iff_not];intro h;have h1:¬j<qA xs k:=λhl=>by have:=(Jl (k:=k) ho j hj).2 hl;rw[h,YL]at this;cases this
 have h2:¬qA xs k<j:=λhl=>by have h3:=KU ho hl hj;rw[h]at h3;exact absurd ((Jl (k:=k) ho _ zO).1 h3) (Nat.lt_irrefl _)
 have h4:qA xs k=j:=zO;subst h4;exact hn hj h
theorem qjC(hp:qA xs k<xs.length)(he:qp (xs[qA xs k]'hp)=k):Yf xs k=some xs[qA xs k]:=by refine qct hp (by simp[he,YL]) λj hj hlt=>?_;have:=KU ho hlt hj;rw[he]at this;simp[this]
theorem qjD(h0:qA xs k=0)(hn:∀hp:qA xs k<xs.length,qp (xs[qA xs k]'hp)≠k):Yf xs k=none:=by
 refine qhj λj hj=>?_;have h1:qV (qp xs[j]) k=false:=by
  rcases hz:qV (qp xs[j]) k with _|_
  ·rfl
  ·have:=(Jl ho j hj).1 hz;omega
 rcases hz:qV k (qp xs[j])with _|_
 ·have he:qp xs[j]=k:=qeU hz h1;rcases Nat.eq_zero_or_pos j with hj0|hj0
  ·subst hj0;exact absurd (by simpa [h0]using he) (hn zO)
  ·have h3:=KU ho (i:=0) hj0 hj;rw[he]at h3;have:=(Jl ho 0 zO).1 h3;omega
 ·simp
theorem qao(h0:0<qA xs k)(hn:∀hp:qA xs k<xs.length,qp (xs[qA xs k]'hp)≠k):Yf xs k=some (xs[qA xs k-1]'(by have:=Jm xs k;omega)):=by
 have hle:=Jm xs k;refine qct zO ?_ λj hj hlt=>?_
 ·have:=(Jl (k:=k) ho (qA xs k-1) zO).2 zO;have h2:qV k (qp (xs[qA xs k-1]'(by omega)))=false:=kG this;simp[h2]
 ·have h1:qV (qp xs[j]) k=false:=by
   rcases hz:qV (qp xs[j]) k with _|_
   ·rfl
   ·have:=(Jl ho j hj).1 hz;omega
  rcases hz:qV k (qp xs[j])with _|_
  ·have he:qp xs[j]=k:=qeU hz h1;by_cases hjp:qA xs k=j
   ·subst hjp;exact absurd he (hn hj)
   ·have h3:=KU ho (show qA xs k<j by omega) hj;rw[he]at h3;have:=(Jl ho _ zO).1 h3;omega
  ·simp
end
theorem qkG{S:Sto}:∀{h:Nat}{xs:List It}{x:It},x∈qu S h xs->∃(j:Nat)(hj:j<xs.length),x∈qu S h [xs[j]]
 |0,xs,x,hx=>by obtain⟨j,hj,rfl⟩:=List.mem_iff_getElem.1 hx;exact⟨j,hj,List.mem_singleton.2 rfl⟩
 |h+1,xs,x,hx=>by rw[zu]at hx;obtain⟨y,hy,hx⟩:=List.mem_flatMap.1 hx;obtain⟨j,hj,rfl⟩:=List.mem_iff_getElem.1 hy;exact⟨j,hj,by rw[zu];exact List.mem_flatMap.2 ⟨_,List.mem_singleton.2 rfl,hx⟩⟩
theorem one_low{S:Sto}{h:Nat}{xs:List It}(hs:(qz S h xs).isSome=true){j:Nat}(hj:j<xs.length){x:It}(hx:x∈qu S h [xs[j]]):leK (qp xs[j]) (qp x):=by
 have h2:=vE hs (j+1);rw[Jp hj]at h2;unfold jO at h2;rcases hA:qz S h (xs.take j)with _|a
 ·rw[hA]at h2;cases h2
 ·rcases hO:jv S h xs[j]with _|⟨f,l⟩
  ·rw[hA,hO]at h2;cases h2
  ·rw[hA,hO]at h2;simp only at h2;split at h2
   ·rename_i hf;subst hf;exact(qfc S h _ _ _ hO).low x hx
   ·cases h2
theorem items_lt{S:Sto}{h:Nat}{xs:List It}(hs:(qz S h xs).isSome=true){i:Nat}(hi:i<xs.length){x:It}(hx:x∈qu S h (xs.take i)):qV (qp x) (qp xs[i])=true:=by
 rcases Nat.eq_zero_or_pos i with h0|h0
 ·subst h0;rw[List.take_zero,jQ]at hx;cases hx
 ·obtain⟨j,rfl⟩:∃j,i=j+1:=⟨i-1,zO⟩
  have h2:=vE hs (j+1+1);rw[Jp hi]at h2;unfold jO at h2;rcases hA:qz S h (xs.take (j+1))with _|_|q
  ·rw[hA]at h2;cases h2
  ·exact absurd hA (Zm zO zO)
  ·have hm:=(Gq hA).1.high x hx;rw[hA]at h2;rcases hO:jv S h xs[j+1]with _|⟨f,l⟩
   ·rw[hO]at h2;cases h2
   ·rw[hO]at h2;simp only at h2;split at h2
    ·rename_i hf;split at h2
     ·rename_i hl;rw[hf]at hl;exact GL hm hl
     ·cases h2
    ·cases h2
def qbo(f l:K3)(ys:List It):Prop:=(∃a r,ys=a::r/\qp a=f)/\∃r b,ys=r++[b]/\qp b=l
theorem qbo.one(x:It):qbo (qp x) (qp x) [x]:=⟨⟨x,[],rfl,rfl⟩,[],x,rfl,rfl⟩
theorem qbo.append{f l f' l':K3}{ys zs:List It}(h:qbo f l ys)(h':qbo f' l' zs):qbo f l' (ys++zs):=by obtain⟨⟨a,r,rfl,ha⟩,-⟩:=h;obtain⟨-,r',b,rfl,hb⟩:=h';exact⟨⟨a,_,rfl,ha⟩,(a::r)++r',b,zA3,hb⟩
theorem Tq{one:It->Option (K3×K3)}{acc:Option (Option (K3×K3))}{y:It}{q:Option (K3×K3)}(h:jO one acc y=some q):∃l,one y=some (qp y,l)/\((acc=some none/\q=some (qp y,l))\/∃f l0,acc=some (some (f,l0))/\qV l0 (qp y)=true/\q=some (f,l)):=by
 unfold jO at h;split at h
 ·cases h
 ·split at h
  ·cases h
  ·rename_i f l ho;split at h
   ·rename_i hf;subst hf;refine⟨l,ho,?_⟩;split at h
    ·cases h;exact .inl ⟨rfl,rfl⟩
    ·rename_i f0 l0;split at h
     ·rename_i hl;cases h;exact .inr ⟨f0,l0,rfl,hl,rfl⟩
     ·cases h
   ·cases h
theorem Kk(S:Sto)(h:Nat)(xs:List It)(y:It):qz S h (xs++[y])=jO (jv S h) (qz S h xs) y:=by unfold qz;rw[List.foldl_append];rfl
theorem Gp(xs:List It):xs=[]\/∃r y,xs=r++[y]:=by
 rcases List.eq_nil_or_concat xs with h|⟨r,y,h⟩
 ·exact .inl h
 ·exact .inr ⟨r,y,by rw[h,List.concat_eq_append]⟩
section
variable {S:Sto} {h:Nat}
theorem YW(H1:∀y f l,jv S h y=some (f,l)->qbo f l (qu S h [y])):∀(n:Nat)(xs:List It),xs.length=n->∀f l,qz S h xs=some (some (f,l))->qbo f l (qu S h xs)
 |0,xs,hn,f,l,e=>by obtain rfl:=List.eq_nil_of_length_eq_zero hn;cases e
 |n+1,xs,hn,f,l,e=>by
  rcases Gp xs with rfl|⟨r,y,rfl⟩
  ·simp at hn
  ·rw[Kk]at e;obtain⟨ly,ho,⟨wML,hq⟩|⟨f0,l0,wML,hl,hq⟩⟩:=Tq e
   ·have hr:r=[]:=by
     rcases Gp r with rfl|⟨r',y',rfl⟩
     ·rfl
     ·exfalso;rw[Kk]at wML;obtain⟨_,_,⟨_,e2⟩|⟨_,_,_,_,e2⟩⟩:=Tq wML<;>cases e2
    subst hr;cases hq;exact H1 _ _ _ ho
   ·cases hq;have hr:=YW H1 n r (by simpa using hn) f l0 wML;rw[Qd];exact hr.append (H1 _ _ _ ho)
end
theorem UV(S:Sto):∀(h:Nat)(y:It)(f l:K3),jv S h y=some (f,l)->qbo f l (qu S h [y])
 |0,y,f,l,e=>by
  unfold jv at e;split at e
  ·cases e;exact qbo.one y
  ·cases e
 |h+1,y,f,l,e=>by
  unfold jv at e;split at e
  ·split at e
   ·cases e
   ·rename_i lvl xs hn;split at e
    ·have e':(qz S h xs).getD none=some (f,l):=e;have hs:qz S h xs=some (some (f,l)):=by
      rcases hq:qz S h xs with _|q
      ·rw[hq]at e';cases e'
      ·rw[hq]at e';exact congrArg some e'
     have:=YW (UV S h) _ xs rfl f l hs;simp only[qu,List.flatMap_cons,List.flatMap_nil,List.append_nil,hn];exact this
    ·cases e
  ·cases e
theorem qet{S:Sto}{h:Nat}{xs:List It}{f l:K3}(e:qz S h xs=some (some (f,l))):qbo f l (qu S h xs):=YW (UV S h) _ xs rfl f l e
def VK(S:Sto)(h:Nat)(xs:List It):Prop:=∀y∈xs,∃l,jv S h y=some (qp y,l)
theorem qes{S:Sto}{h:Nat}:∀(n:Nat)(xs:List It),xs.length=n->(qz S h xs).isSome=true->VK S h xs
 |0,xs,hn,_=>by obtain rfl:=List.eq_nil_of_length_eq_zero hn;intro y hy;cases hy
 |n+1,xs,hn,e=>by
  rcases Gp xs with rfl|⟨r,y,rfl⟩
  ·simp at hn
  ·obtain⟨q,e⟩:=Option.isSome_iff_exists.1 e;rw[Kk]at e;obtain⟨l,ho,ha⟩:=Tq e;have hr:(qz S h r).isSome=true:=by rcases ha with⟨ha,_⟩|⟨_,_,ha,_⟩<;>rw[ha]<;>rfl
   intro z hz;rcases List.mem_append.1 hz with hz|hz
   ·exact qes n r (by simpa using hn) hr z hz
   ·rw[List.mem_singleton.1 hz];exact⟨l,ho⟩
theorem qjY{S:Sto}{h:Nat}:∀(n:Nat)(xs:List It),xs.length=n->VK S h xs->(qu S h xs).Pairwise (λa b=>qV (qp a) (qp b)=true)->(qz S h xs).isSome=true
 |0,xs,hn,_,_=>by obtain rfl:=List.eq_nil_of_length_eq_zero hn;rfl
 |n+1,xs,hn,he,hp=>by
  rcases Gp xs with rfl|⟨r,y,rfl⟩
  ·simp at hn
  ·rw[Qd]at hp;obtain⟨hp1,-,hp3⟩:=List.pairwise_append.1 hp;have hr:=qjY n r (by simpa using hn) (λz hz=>he z (List.mem_append_left _ hz)) hp1;obtain⟨l,ho⟩:=he y zA3;obtain⟨q,hq⟩:=Option.isSome_iff_exists.1 hr;rw[Kk,hq];unfold jO;rw[ho];simp only[if_true];rcases q with _|⟨f0,l0⟩
   ·rfl
   ·obtain⟨-,r1,b,e1,hb⟩:=qet hq;obtain⟨⟨a,r2,e2,ha⟩,-⟩:=UV S h y _ _ ho;have hl:qV l0 (qp y)=true:=by rw[<-hb,<-ha];exact hp3 b (by rw[e1];simp) a (by rw[e2];simp)
    simp only[hl,if_true];rfl
theorem QQ{S:Sto}{h:Nat}{xs:List It}:(qz S h xs).isSome=true↔VK S h xs/\(qu S h xs).Pairwise (λa b=>qV (qp a) (qp b)=true):=
 ⟨λe=>⟨qes _ xs rfl e,(ZN e).1⟩,λe=>qjY _ xs rfl e.1 e.2⟩
set_option maxRecDepth 100000 in
theorem qix(x:It)(hx:QY x)(hb:itB x.r x.val.length=true)(A c)(w:World)(h:Bys w w.heap.size (.slice A x.val.length c) x.val):Calls prog 203 #[KE x.k x.i x.o x.r A x.val.length c] w (zm (IsB0 w.heap.size (12+x.val.length) (ZE x)) w):=by
 have HC:=zH (λW=>vZ x.k x.i x.o x.r A x.val.length c W);rw[hb,show vO true=0 from rfl]at HC;obtain⟨kk,ki,ko,kr,l⟩:=x;obtain⟨⟨hk1,hk2⟩,⟨hi1,hi2⟩,⟨ho1,ho2⟩,⟨hr1,hr2⟩,hl⟩:=hx;dsimp only at*;clear hb;obtain⟨k,rfl⟩:=Int.eq_ofNat_of_zero_le hk1;obtain⟨i,rfl⟩:=Int.eq_ofNat_of_zero_le hi1;obtain⟨o,rfl⟩:=Int.eq_ofNat_of_zero_le ho1;obtain⟨r,rfl⟩:=Int.eq_ofNat_of_zero_le hr1;have HB:Hid (ZE ⟨k,i,o,r,l⟩=[[UInt8.ofNat k],qM i 4,qM o 4,qM r 2,[UInt8.ofNat l.length],l].flatten):=by refine zH ?_;simp[ZE]
 have hkb:bv (UInt8.ofNat k)=.int .u8 (k:Int):=by simp[bv];omega
 have hlb:bv (UInt8.ofNat l.length)=.int .u8 ((l.length:Nat):Int):=by simp[bv];omega
 have HL:Hid ([[UInt8.ofNat k],qM i 4,qM o 4,qM r 2,[UInt8.ofNat l.length],l].flatten.length=12+l.length):=by refine zH ?_;simp[QD];omega
 have hcv:IntKind.u8.wrap ((l.length:Nat):Int)=((l.length:Nat):Int):=by simp[IntKind.wrap,IntKind.bits,IntKind.signed];omega
 replace⟨hkb,hlb,h⟩:=zH3 hkb hlb h;rw[HB.out];clear HB;generalize hFL:[[UInt8.ofNat k],qM i 4,qM o 4,qM r 2,[UInt8.ofNat l.length],l]=FL at*;go_enter func203,ntmps203;go_wp2_with fail;generalize hw1:World.alloc w _=w1;have x1:Ext w w1:=by rw[<-hw1];exact zN _ _
 have r1:w1.heap[w.heap.size]?=some (.cells #[.int .u8 k,.int .u32 i,.int .u32 o,.int .i64 r,.slice A l.length c] 51 (0,0)):=by rw[<-hw1];exact zI _ _ _ rfl
 clear hw1;refine(HC.out w1).mono ?_;rintro e w2 ⟨rfl,hB⟩;have x2:Ext w w2:=Ext.trans x1 hB;have r2:=qb r1 hB;have k2:=qa r2;clear hB r1 x1 HC;go_wp2_with fail;refine(qfz r zO _).mono ?_;rintro e w3 ⟨u,rfl,⟨u2,rfl,A2,c2,rfl,hb2,hf2⟩,hB⟩;have x3:Ext w w3:=Ext.trans x2 hB;have r3:=qb r2 hB;clear hB k2 r2 x2;go_wp2_with fail;have hE:∀W,Ext w3 W->∀j,W.cell? ⟨w.heap.size,j,none⟩=#[.int .u8 k,.int .u32 i,.int .u32 o,.int .i64 r,.slice A l.length c][j]?:=λW h=>qa (qb r3 h);refine za (qQ [(3,jg w3.heap.size 1 5 #[.int .u8 k]),(7,Xj w3.heap.size 4 (qM i 4)),(11,Xj w3.heap.size 4 (qM o 4)),(17,jg w3.heap.size 1 5 #[.int .u8 (l.length:Nat)]),(20,VY w3.heap.size 6 26 (Vr FL)),(21,Xj w3.heap.size (12+l.length) FL.flatten)]) 22 zQ zQ zQ zA1 zQ zQ ?st ?walk
 case st=>exact zo (by simp only[List.forall_mem_cons];exact⟨jS _ _ _ _,Ji _ _ _,Ji _ _ _,jS _ _ _ _,Kf (Vr.stable _),Ji _ _ _,λ_ h=>by cases h⟩)
 case walk=>
  intro K hK;dsimp only[List.take];refine zC2 ?_;refine QH (jg w3.heap.size 1 5 #[.int .u8 k]) zA0 zA0 (λW hW _=>?_) (λ(p3:Nat)=>?_)
  ·refine YH ?_ hW.size;go_simp
  refine zC2 ?_;refine QH (Xj w3.heap.size 4 (qM i 4)) zA0 zA0 (λW hW _=>?_) (λp7=>?_)
  ·refine QW ?_ ((Xw i zO W).mono λe w' h=>?_)
   ·go_simp
   obtain⟨u,rfl,⟨A,c,rfl,h1,h2⟩,h3⟩:=h;exact⟨(A,c),rfl,⟨h1,h2.mono hW.size⟩,h3⟩
  obtain⟨A7,c7⟩:=p7;refine zC2 ?_;refine QH (Xj w3.heap.size 4 (qM o 4)) zA0 zA0 (λW hW _=>?_) (λp11=>?_)
  ·refine QW ?_ ((Xw o zO W).mono λe w' h=>?_)
   ·go_simp
   obtain⟨u,rfl,⟨A,c,rfl,h1,h2⟩,h3⟩:=h;exact⟨(A,c),rfl,⟨h1,h2.mono hW.size⟩,h3⟩
  obtain⟨A11,c11⟩:=p11;refine zC2 ?_;refine QH (jg w3.heap.size 1 5 #[.int .u8 (l.length:Nat)]) zA0 zA0 (λW hW _=>?_) (λ(p17:Nat)=>?_)
  ·refine YH ?_ hW.size;go_simp
  refine zC2 ?_;refine QH (VY w3.heap.size 6 26 (Vr FL)) zA0 zA0 (λW hW hp=>?_) (λ(p20:Nat)=>?_)
  ·obtain⟨f3,_⟩:W.heap[p3]?=some (.cells #[.int .u8 k] 5 (0,0))/\w3.heap.size<=p3:=(hp 3 zA1).1;obtain⟨f7,_⟩:Bys W W.heap.size (.slice A7 4 c7) (qM i 4)/\_:=(hp 7 zA1).1;obtain⟨f11,_⟩:Bys W W.heap.size (.slice A11 4 c11) (qM o 4)/\_:=(hp 11 zA1).1;obtain⟨f17,_⟩:W.heap[p17]?=some (.cells #[.int .u8 (l.length:Nat)] 5 (0,0))/\w3.heap.size<=p17:=(hp 17 zA1).1;have hR:Vr FL [.slice (some ⟨p3,0,none⟩) 1 1,.slice A7 4 c7,.slice A11 4 c11,.slice A2 2 c2,.slice (some ⟨p17,0,none⟩) 1 1,.slice A l.length c] W:=by
    subst hFL;rw[<-hkb.out]at f3;rw[<-hlb.out]at f17;refine⟨rfl,λj v m hv hl=>?_⟩;rcases j with _|_|_|_|_|_|j
    ·cases hv;cases hl;exact Bys.lit (l:=[UInt8.ofNat k]) f3 (by simp[maxLen])
    ·cases hv;cases hl;exact f7
    ·cases hv;cases hl;exact f11
    ·cases hv;cases hl;exact(hb2.below hW).more hW.size
    ·cases hv;cases hl;exact Bys.lit (l:=[UInt8.ofNat l.length]) f17 (by simp[maxLen])
    ·cases hv;cases hl;exact(h.out.below (Ext.trans x3 hW)).more (Ext.trans x3 hW).size
    ·simp at hv
   refine XA (cs:=#[.slice (some ⟨p3,0,none⟩) 1 1,.slice A7 4 c7,.slice A11 4 c11,.slice A2 2 c2,.slice (some ⟨p17,0,none⟩) 1 1,.slice A l.length c]) ?_ hW.size rfl ?_
   ·go_simp
   ·exact Vr.stable _ _ _ _ (zN _ _) hR
  simp only[Act.put,qe,qc,qf,qy,Qv,zA,zB,zC];refine QH (Xj w3.heap.size (12+l.length) FL.flatten) zA0 zA0 (λW hW hp=>?_) (λp21=>?_)
  ·obtain⟨_,cs,hcs,hBT,hR⟩:=(hp 20 zA1).1;have hFn:FL.length=6:=by rw[<-hFL];rfl
   refine QW ?_ ((Kw (some ⟨p20,0,none⟩) 6 6 cs.toList FL (by simpa using hcs) hFn W (Rd.row hBT 6 hcs) (λi v l h1 h2=>hR.2 i v l h1 h2) zO (by rw[HL.out];omega)).mono λe w' h=>?_)
   ·go_simp
   rw[HL.out]at h;exact XM h hW.size
  obtain⟨A21,c21⟩:=p21;refine zC2 ?_;refine Zq (hK _ _ λW hW hF=>?_);obtain⟨f21,g21⟩:Bys W W.heap.size (.slice A21 (12+l.length) c21) FL.flatten/\Zw w3.heap.size (.slice A21 (12+l.length) c21):=(hF 21).1;clear hF hK hE;have x4:Ext w W:=x3.trans hW;dsimp only[List.drop];go_wp2;refine bodyPost_ret (v:=.tuple #[.slice A21 (12+l.length) c21,.int .i64 0]) (by simp[results,results203,go_sem]) rfl ⟨_,rfl,⟨_,rfl,A21,c21,rfl,f21,g21.mono (by have:=x3.size;omega)⟩,x4⟩
def KY(n:Nat)(b:List UInt8):List UInt8:=b++List.replicate (n-b.length) 0
theorem Yn{n:Nat}{b:List UInt8}(h:b.length<=n):(KY n b).length=n:=by simp[KY];omega
theorem pad_row(n:Nat)(b:List UInt8):List.take 0 (List.map bv (List.replicate n 0)).toArray.toList++List.map bv b++List.drop (0+b.length) (List.map bv (List.replicate n 0)).toArray.toList=(KY n b).map bv:=by simp[KY,List.map_replicate,List.drop_replicate]
def Zi(b:List UInt8):List UInt8:=qM (crc (KY 124 b)) 4++KY 124 b
theorem Vf{b:List UInt8}(h:b.length<=124):(Zi b).length=128:=by unfold Zi;rw[List.length_append,QD,Yn h]
set_option maxRecDepth 100000 in
theorem seal_any(A c)(b:List UInt8)(hl:b.length<=124)(w:World)(h:Bys w w.heap.size (.slice A b.length c) b):Calls prog 204 #[.slice A b.length c] w (zm (IsB0 w.heap.size 128 (Zi b)) w):=by
 have hmk:∀w,(Instr.makeSlice 26 (.int .i64 124) (.int .i64 124)).run prog w=.ok (.slice (some ⟨w.heap.size,0,none⟩) 124 124) (w.alloc (.cells ((List.replicate 124 (0:UInt8)).map bv).toArray 5)):=λ_=>zQ;have hsz:(Tryz.prog.info? 5).map (·.size)=some 1:=zQ;have hcr:crc (KY 124 b)<4294967296:=qib _;have hd:decide ((b.length:Int)>124)=false:=decide_eq_false zO;replace h:=zH h;go_enter func204,ntmps204;go_wp2_with fail;generalize hw1:World.alloc w _=w1;have x1:Ext w w1:=by rw[<-hw1];exact zN _ _
 have r1:w1.heap[w.heap.size]?=some (.cells ((List.replicate 124 (0:UInt8)).map bv).toArray 5 (0,0)):=by rw[<-hw1];exact zI _ _ _ rfl
 clear hw1 hmk;have hcp:=Gk (P:=prog) w1 26 26 3 5 w.heap.size 0 124 124 A c b _ _ underlying26 hsz r1 (h.out.below x1) hl zA2;rw[hcp];clear hcp;have r2:=setRow_heap w1 w.heap.size _ (List.take 0 (List.map bv (List.replicate 124 0)).toArray.toList++List.map bv b++List.drop (0+b.length) (List.map bv (List.replicate 124 0)).toArray.toList).toArray _ _ r1;have x2:Below w.heap.size w (w1.setRow w.heap.size (List.take 0 (List.map bv (List.replicate 124 0)).toArray.toList++List.map bv b++List.drop (0+b.length) (List.map bv (List.replicate 124 0)).toArray.toList).toArray):=
  Below.grown x1 (Gn _ _ _) x1.size (λg e=>by cases e;exact zM _)
 generalize hw2:w1.setRow w.heap.size (List.take 0 (List.map bv (List.replicate 124 0)).toArray.toList++List.map bv b++List.drop (0+b.length) (List.map bv (List.replicate 124 0)).toArray.toList).toArray=w2 at*;rw[pad_row]at r2;have hp:∀W,Ext w2 W->Bys W W.heap.size (.slice (some ⟨w.heap.size,0,none⟩) 124 124) (KY 124 b):=λW hW=>by
  refine⟨_,124,by rw[Yn hl],Nat.le_of_eq (Yn hl),zA7,by rw[Yn hl];simp[Yn hl],λ_=>⟨w.heap.size,0,rfl,?_,λj u hu=>?_⟩⟩
  ·have:=(zG.1 (qb r2 hW)).1;omega
  ·rw[Nat.zero_add,qa (qb r2 hW)];simpa using hu
 clear hw2 r1 x1;have HO:=zH (λW (hW:Ext w2 W)=>qev _ (KY 124 b) W (hp W hW) (by rw[Yn hl];omega));replace⟨hp,r2⟩:=zH2 hp r2;go_wp2_with fail;refine(HO.out _ (Ext.refl _)).mono ?_;rintro e w3 ⟨rfl,hB3⟩;have x3:Ext w2 w3:=hB3;clear hB3;have HF:=zH (Xw (crc (KY 124 b)) hcr w3);go_wp2_with fail;refine HF.out.mono ?_;rintro e w4 ⟨u4,rfl,⟨A4,c4,rfl,hu4,hf4⟩,hB4⟩;have x4:Ext w2 w4:=x3.trans hB4;clear HF hB4;go_wp2_with fail;generalize hw5:World.alloc w4 _=w5;have x45:Ext w4 w5:=by rw[<-hw5];exact zN _ _
 have r5:w5.heap[w4.heap.size]?=some (.cells #[.slice A4 4 c4,.slice (some ⟨w.heap.size,0,none⟩) 124 124] 26 (0,0)):=by rw[<-hw5];exact zI _ _ _ rfl
 clear hw5;have x5:=x4.trans x45;have hfl:[qM (crc (KY 124 b)) 4,KY 124 b].flatten=Zi b:=by simp[Zi]
 have HC:=Kw (some ⟨w4.heap.size,0,none⟩) 2 2 [.slice A4 4 c4,.slice (some ⟨w.heap.size,0,none⟩) 124 124] [qM (crc (KY 124 b)) 4,KY 124 b] rfl rfl w5 ⟨rfl,λ_=>⟨w4.heap.size,0,rfl,(zG.1 r5).1,λj u hu=>by rw[Nat.zero_add,qa r5];simpa using hu⟩⟩
  (λi v l hv hl'=>by
   rcases i with _|_|i
   ·cases hv;cases hl';exact(hu4.below x45).more x45.size
   ·cases hv;cases hl';exact hp.out w5 x5
   ·simp at hv) zO (by rw[hfl,Vf hl];omega)
 rw[hfl,Vf hl]at HC;replace⟨HC,hu4⟩:=zH2 HC hu4;go_wp2_with fail;refine HC.out.mono ?_;rintro e w6 ⟨u6,rfl,hAE,hB6⟩;have x6:Below w.heap.size w w6:=x2.trans (Below.mono (Ext.trans x5 hB6) x2.size);have HI:=zH ((IsB.of_own hAE));go_wp2_with fail;refine bodyPost_ret (v:=.tuple #[u6,.int .i64 0]) (by simp[results,results204,go_sem]) rfl ⟨_,rfl,⟨u6,rfl,?_⟩,x6⟩;obtain⟨A',c',h1,h2,h3⟩:=HI.out;exact⟨A',c',h1,h2,h3.mono (by have:=x2.size;have:=x5.size;omega)⟩
def Vh(lvl:Int)(n:Nat)(xs:List It)(k:Nat):List UInt8:=78::UInt8.ofNat lvl.toNat::UInt8.ofNat n::QU (xs.take k)
theorem qhv(lvl:Int)(n:Nat){xs:List It}{k:Nat}(hk:k<xs.length):Vh lvl n xs (k+1)=Vh lvl n xs k++ZE xs[k]:=by unfold Vh QU;rw[List.take_succ_eq_append_getElem hk,List.flatMap_append];simp only[List.flatMap_cons,List.flatMap_nil,List.append_nil,List.cons_append]
theorem YY(lvl:Int)(xs:List It):Vh lvl xs.length xs xs.length=Qx lvl xs:=by unfold Vh Qx;rw[List.take_length]
theorem YZ(lvl:Int)(n:Nat){xs:List It}(k:Nat)(h:∀x∈xs,QY x)(hl:xs.length<=5):(Vh lvl n xs k).length<=123:=by
 have h1:=YJ (xs.take k) (λx hx=>h x (List.mem_of_mem_take hx));have h2:(xs.take k).length<=xs.length:=by rw[List.length_take];omega
 unfold Vh;simp only[List.length_cons];omega
theorem jR{lvl:Int}{xs:List It}(h:Qj lvl xs=true):0<=lvl/\lvl<6/\xs.length<=5/\∀x∈xs,itB x.r x.val.length=true:=by unfold Qj at h;rw[Bool.and_eq_true]at h;have h1:0<=lvl/\lvl<6/\xs.length<=5/\(0<lvl->xs.length≠0):=of_decide_eq_true h.1;refine⟨h1.1,h1.2.1,h1.2.2.1,λx hx=>?_⟩;obtain⟨i,hi,rfl⟩:=List.getElem_of_mem hx;have h2:=List.all_eq_true.1 h.2 i (List.mem_range.2 hi);unfold qam at h2;rw[zL hi]at h2;simp only[Bool.and_eq_true]at h2;exact h2.1.1
theorem qcl{R:Ending->World->Prop}{a:Act}{W:World}{u v:Value}(h2:a.tmps[2]?.getD undef=u)(h3:a.tmps[3]?.getD undef=v)(hd:a.defers=[])(hR:R (.returned (.tuple #[u,v])) W):bodyPost prog Tryz.f195 R .ret a W:=by refine bodyPost_ret (v:=.tuple #[u,v]) ?_ hd hR;simp[results,results195,go_sem,h2,h3]
structure NWr(lvl:Int)(xs:List It)(w2:World)(v i:Value)(wr:World):Prop where
 ex:∃k:Nat,k<=xs.length/\i=.int .i64 (k:Int)/\wr.ownsRow w2.heap.size 5 1 v (Vh lvl xs.length xs k).length ((Vh lvl xs.length xs k).map bv)/\Ext w2 wr
theorem qiK(lvl:Int)(A n c)(xs:List It)(w:World)(hx:Its w w.heap.size (.slice A n c) xs)(hm:Qj lvl xs=false):Calls prog 195 #[jL lvl A n c] w (Ret (.tuple #[.slice none 0 0,.int .i64 8]) w):=by
 have HC:=zH (λW (hW:Ext w W)=>Ke lvl A n c xs W (hx.ext hW));rw[hm,show vO false=8 from rfl]at HC;clear hx;go_enter func195,ntmps195;go_wp2_with fail;generalize hw1:World.alloc w _=w1;have x1:Ext w w1:=by rw[<-hw1];exact zN _ _
 clear hw1;refine(HC.out w1 x1).mono ?_;rintro e w2 ⟨rfl,hB⟩;have x2:Below w.heap.size w w2:=Ext.trans x1 hB;clear hB;go_wp2;exact qcl rfl rfl rfl ⟨rfl,x2⟩
set_option maxRecDepth 100000 in
theorem qck(lvl:Int)(A n c)(xs:List It)(w:World)(hx:Its w w.heap.size (.slice A n c) xs)(hm:Qj lvl xs=true)(ho:∀x∈xs,QY x):Calls prog 195 #[jL lvl A n c] w (zm (IsB0 w.heap.size 128 (Zi (Qx lvl xs))) w):=by
 have HC:=zH (λW (hW:Ext w W)=>Ke lvl A n c xs W (hx.ext hW));rw[hm,show vO true=0 from rfl]at HC;obtain⟨hl1,hl2,hl5,hib⟩:=jR hm;obtain⟨hn,hcn,hcm,hA⟩:=hx.at_;subst hn;obtain⟨L,rfl⟩:=Int.eq_ofNat_of_zero_le hl1;have hcv:IntKind.u8.wrap ((xs.length:Nat):Int)=((xs.length:Nat):Int):=by simp[IntKind.wrap,IntKind.bits,IntKind.signed];omega
 have hcl:IntKind.u8.wrap (L:Int)=(L:Int):=by simp[IntKind.wrap,IntKind.bits,IntKind.signed];omega
 have hJW:(Vh (L:Int) xs.length xs 0).map bv=[.int .u8 78,.int .u8 (L:Int),.int .u8 (xs.length:Nat)]:=by simp[Vh,QU,bv];omega
 have hX:=zH hx;have hO:=zH ho;have hI:=zH hib;clear hx ho hib hm;go_enter func195,ntmps195;go_wp2_with fail;generalize hw1:World.alloc w _=w1;have x1:Ext w w1:=by rw[<-hw1];exact zN _ _
 have r1:w1.heap[w.heap.size]?=some (.cells #[.int .i64 L,.slice A xs.length c] 113 (0,0)):=by rw[<-hw1];exact zI _ _ _ rfl
 clear hw1;refine(HC.out w1 x1).mono ?_;rintro e w2 ⟨rfl,hB⟩;have x2:Below w.heap.size w w2:=Ext.trans x1 hB;have r2:=qb r1 hB;have k2:=qa r2;clear hB r1 x1 HC;go_upto_region 5 with fail;generalize hw3:World.alloc w2 _=w3;have x3:Ext w2 w3:=by rw[<-hw3];exact zN _ _
 have o3:w3.ownsRow w2.heap.size 5 1 (.slice (some ⟨w2.heap.size,0,none⟩) 3 3) (Vh (L:Int) xs.length xs 0).length ((Vh (L:Int) xs.length xs 0).map bv):=by rw[hJW,<-hw3];exact World.ownsRow_lit (base:=w2.heap.size) (e:=5) (size:=1) w2 #[.int .u8 78,.int .u8 (L:Int),.int .u8 (xs.length:Nat)] 3 (zM _) zA7 rfl
 have r3:=qb r2 x3;have k3:=qa r3;clear hw3 k2 hJW;have I0:NWr (L:Int) xs w2 (.slice (some ⟨w2.heap.size,0,none⟩) 3 3) (.int .i64 0) w3:=⟨0,Nat.zero_le _,rfl,o3,x3⟩
 replace I0:=zH I0;clear o3;go_wp2_with fail;clear k3 r3;go_loopw [5,26] (λv i wr=>NWr (L:Int) xs w2 v i wr) (λ_ i _=>xs.length-(intOf i).toNat)
 case atStart=>exact I0.out
 case round=>
  obtain⟨k,hk,rfl,own,xr⟩:=hrel.ex;clear hrel I0;by_cases hlt:k<xs.length
  ·have hCB:=hlt;obtain⟨b,off,rfl,hb⟩:=hA zO;have xw:Ext w wr:=Ext.trans x2 xr;obtain⟨A',c',d0,d1,d2,d3,d4,hby⟩:=(hX.out.ext xw).item k hCB;have hok:=hO.out xs[k] (List.getElem_mem hCB);have hib:=hI.out xs[k] (List.getElem_mem hCB);have hsu:=zH (qhv (L:Int) xs.length hCB);have htl:=YZ (L:Int) xs.length k hO.out hl5;have hvl:xs[k].val.length<=12:=hok.2.2.2.2;have HW:=zH (λW (hW:Ext wr W)=>qix xs[k] hok hib A' c' W ((hby.below hW).more hW.size));generalize xs[k]=x at*;replace⟨own,htl⟩:=zH2 own htl;clear hby hok hib;go_wp2_with fail;generalize hw4:World.alloc wr _=w4;have x4:Ext wr w4:=by rw[<-hw4];exact zN _ _
   clear hw4 d0 d1 d2 d3 d4;refine(HW.out w4 x4).mono ?_;rintro e w5 ⟨u,rfl,⟨u5,rfl,A5,c5,rfl,hb5,hf5⟩,hB⟩;have x5:Ext wr w5:=x4.trans hB;have own5:=zh own.out x5;clear hB x4 own;obtain⟨i0,hi,hz0,hz1,hz2⟩:=info_parts Tryz.info_u8;obtain⟨A6,c6,e6,hc6,hm6,hr6⟩:=hb5;simp only[Value.slice.injEq]at e6;obtain⟨rfl,e7,rfl⟩:=e6;go_wp2_with (at_builtin;refine qY ?_);refine Qm.go (Qw _ rfl (.tmp 35) (.tmp 36) 26 rfl w2.heap.size 5 i0 (.int .u8 0) 1 1 underlying26 hi hz0 hz1 hz2 rfl zA1 _ _ _ rfl own5 w5.heap.size A5 _ c5 ((ZE x).map bv) rfl hr6 (Uz _) (by have:=htl.out;omega) zA1 (Nat.le_trans xr.size x5.size) ?_);intro v8 w8 own8 _ hB8 _;have IR:NWr (L:Int) xs w2 v8 (.int .i64 ((k:Int)+1)) w8:=⟨k+1,hCB,rfl,by rw[hsu.out,List.map_append,List.length_append];exact own8,Below.trans (Ext.trans xr x5) hB8⟩
   replace IR:=zH IR;clear own8 hB8 hi hz0 hz1 hz2 own5;go_wp2_with fail;refine⟨IR.out,?_⟩;simp[intOf];omega
  ·obtain rfl:k=xs.length:=zO;rw[YY]at own;have hl3:(Qx (L:Int) xs).length<=124:=by have:=YZ (L:Int) xs.length xs.length hO.out hl5;rw[YY]at this;omega
   obtain⟨A6,c6,e6,hc6,hm6,hr6⟩:=Bys.of_own own;have hby:=Bys.of_own own;subst e6;have HS:=zH (seal_any A6 c6 (Qx (L:Int) xs) hl3 wr hby);have xw:Below w.heap.size w wr:=Ext.trans x2 xr;clear hby hr6 own;replace xr:=zH xr;go_wp2_with fail;refine HS.out.mono ?_;rintro e w7 ⟨u,rfl,⟨u7,rfl,hI7⟩,hB⟩;have x7:Below w.heap.size w w7:=xw.trans (Below.mono hB xw.size);have hI8:IsB0 w.heap.size 128 (Zi (Qx (L:Int) xs)) (.tuple #[u7,.int .i64 0]) w7:=by obtain⟨A',c',q1,q2,q3⟩:=hI7;exact⟨u7,rfl,A',c',q1,q2,q3.mono xw.size⟩
   clear hB hI7;replace hI8:=zH hI8;go_wp2_with fail;exact qcl rfl rfl rfl ⟨_,rfl,hI8.out,x7⟩
set_option maxRecDepth 100000 in
theorem qhX(b lo:Nat)(A1:OA)(n1 c1:Nat)(g c3:Nat)(A4:OA)(c4:Nat)(bs:List (List UInt8))(now last:List UInt8)(hn:now.length=256)(hl:last.length=256)(hn8:now[8]?=some 0)(hl8:last[8]?=some 0)(w:World)(hlo:lo<=b)(hr:w.heap[b]?=some (.cells #[.slice A1 n1 c1,.slice none 0 0,.slice (some ⟨g,0,none⟩) 256 c3,.slice A4 256 c4] 223 (0,0)))(ho:w.ownsRow lo 5 1 (.slice (some ⟨g,0,none⟩) 256 c3) 256 (now.map bv))(hb:Bls w lo (.slice A1 n1 c1) bs)(ha:Bys w lo (.slice A4 256 c4) last):Calls prog 165 #[.pointer (some ⟨b,0,none⟩),jL 0 none 0 0] w (λe W=>e=.returned (.tuple #[.int .i64 8,.int .i64 0])/\Below lo w W/\∃A2 c2,W.heap[b]?=some (.cells #[.slice A1 n1 c1,.slice A2 1 c2,.slice (some ⟨g,0,none⟩) 256 c3,.slice A4 256 c4] 223 (0,0)) /\
   Qq W W.heap.size (.slice A1 n1 c1) (.slice A2 1 c2) (.slice (some ⟨g,0,none⟩) 256 c3) (.slice A4 256 c4) ⟨bs,[(8,Zi (Qx 0 []))],now.set 8 1,last⟩):=by
 have hkn:=(ZW ho).1 8 zO;rw[hn8]at hkn;replace hkn:w.cell? ⟨g,8,none⟩=some (.int .u8 0):=hkn;obtain⟨_,hfn,hlg,hzg⟩:=ZW ho;obtain⟨A,c,e,hac,_,har⟩:=ha;rw[hl]at e hac har;simp only[Value.slice.injEq,true_and]at e;obtain⟨rfl,rfl⟩:=e;obtain⟨b4,o4,rfl,hb4,hc4⟩:=har.2 zO;have hk4:w.cell? ⟨b4,o4+8,none⟩=some (.int .u8 0):=hc4 8 (bv 0) (by rw[List.getElem?_map,hl8];rfl);have zb:b<w.heap.size:=(zG.1 hr).1;have hW:=zH (λW=>qck 0 none 0 0 [] W (Its.nil W W.heap.size) zA1 (λx hx=>by cases hx));go_enter func165,ntmps165;go_wp2_with fail;generalize hw1:World.alloc _ _=w1;have x1:Ext w w1:=by rw[<-hw1];exact zN _ _
 have p1:w1.heap[w.heap.size]?=some (.cells #[.int .i64 0,.slice none 0 0] 113 (0,0)):=by rw[<-hw1];exact zI _ _ _ rfl
 clear hw1;refine(hW.out w1).mono ?_;rintro e w2 ⟨u,rfl,⟨u,rfl,⟨A0,c0,rfl,hu,hf⟩⟩,hB⟩;have hB:Ext w1 w2:=hB;have x2:Ext w w2:=x1.trans hB;have p2:=qb p1 hB;have r2:=qb hr x2;have o2:=zh ho x2;have kp:=qa p2;have kr:=qa r2;have fr:=qg r2;have kn:w2.cell? ⟨g,8,none⟩=some (.int .u8 0):=Ext.cell x2 hkn;have z2:=x2.size;have z1:w.heap.size<w1.heap.size:=(zG.1 p1).1;have kl:w2.cell? ⟨b4,o4+8,none⟩=some (.int .u8 0):=Ext.cell x2 hk4;clear hB x1 p1 hkn hk4 hc4 hW;go_wp2_with fail;go_loopw [21] (λi wr=>i=.int .i64 0/\wr=w2) (λ_ _=>0)
 case atStart=>exact⟨rfl,rfl⟩
 case round=>
  obtain⟨rfl,hw⟩:=hrel;replace hw:=hw.symm;subst hw;go_wp2_with fail;go_loopw [4] (λi W=>i=.int .i64 8/\Ext w2 W) (λ_ _=>0)
  case atStart=>exact⟨rfl,Ext.refl _⟩
  case round=>
   obtain⟨rfl,hE⟩:=hrel;have g1:∀W,qj.r wr W->∀i,W.cell? ⟨b,i,none⟩=#[.slice A1 n1 c1,.slice none 0 0,.slice (some ⟨g,0,none⟩) 256 c3,.slice (some ⟨b4,o4,none⟩) 256 c4][i]?:=λW h=>qa (qb (qb r2 hE) h);have g2:∀W,qj.r wr W->W.cell? ⟨g,8,none⟩=some (.int .u8 0):=λW h=>Ext.cell (hE.trans h) kn;have g3:∀W,qj.r wr W->W.cell? ⟨b4,o4+8,none⟩=some (.int .u8 0):=λW h=>Ext.cell (hE.trans h) kl;clear kp kr fr kn kl;go_wp2_with fail;refine qt zQ ?_;refine qX (w:=wr) qj (qQ []) [true,true,true,true,true,true,true,true,true,true,true,true,true,true,true,true,true,true,true,true,true,true] 0 zQ zQ zQ zQ zQ zQ zQ ?st (Rel.drew _ _) ?walk
   case st=>exact qi (λ_ h=>by cases h)
   case walk=>
    intro K hK;dsimp only[qw];refine zC3 ?_;refine qD (hK _ _ λW hW hF=>?_);have hW:Ext wr W:=hW;have x3:Ext w2 W:=hE.trans hW;clear hF hK g1 g2 g3 hE hW;refine zB6 ?_;have r3:=qb r2 x3;have o3:=zh o2 x3;have kr:=qa r3;have fr:=qg r3;obtain⟨i0,hi,hz0,hz1,hz2⟩:=info_parts Tryz.info_write;have z3:=x3.size;have hu3:=(hu.below x3).more x3.size;have xw3:Ext w W:=x2.trans x3;have x2z:=x2.size;clear r2 o2 x2 x3 hu p2;replace⟨o3,hu3⟩:=zH2 o3 hu3;go_wp2;refine Qn ?_;go_wp2_with (at_builtin;refine qY ?_);refine Qm.go (zZ _ rfl (.tmp 78) (.tmp 82) 23 rfl W.heap.size 142 i0 (.agg #[.int .i64 0,.slice none 0 0]) 2 32 underlying23 hi hz0 hz1 hz2 rfl zA1 _ 0 [] rfl (World.ownsRow_nil _ _ _ _) #[.int .i64 8,.slice A0 128 c0] rfl rfl zA8 zO zA1 (zM _) ?_);intro v4 w4 own4 _ hB4 _;have hB4:Ext W w4:=hB4;simp only[Nat.zero_add,List.nil_append]at own4;obtain⟨A2,c2,rfl,hc21,hc22⟩:=qG own4;have r4:=qb r3 hB4;have kr4:=qa r4;have fr4:=qg r4;have o4':=zh o3.out hB4;have z5:=hB4.size;have kg:=(ZW o4').1 8 zO;have fg:=(ZW o4').2.1 8;have hlt:=QM own4;have hbg:g≠b:=by
     intro e;subst e;obtain⟨_,h2⟩:=o4';rcases h2 with⟨e,_⟩|⟨g',cap,cur,e,_,hr',_⟩
     ·cases e
     ·cases e;exact qL hr' r4 zA1 rfl
    have z6:b<w2.heap.size:=by have:=x2z;omega
    replace⟨own4,o4'⟩:=zH2 own4 o4';have hf1:=hf.mono (lo':=w.heap.size) zO;clear r3 kr fr hc21 hc22;go_wp2_with fail;have st:∀q,q≠b->q≠g->((w4.setCell ⟨b,1,none⟩ (.slice A2 1 c2)).setCell ⟨g,8,none⟩ (.int .u8 1)).heap[q]?=w4.heap[q]?:=λq h1 h2=>(zJ _ _ _ _ h2).trans (zJ _ _ _ _ h1);have xw4:Ext w w4:=xw3.trans hB4;have hB:Below lo w ((w4.setCell ⟨b,1,none⟩ (.slice A2 1 c2)).setCell ⟨g,8,none⟩ (.int .u8 1)):=Below.setCell (Below.setCell (Below.mono xw4 zO) (p:=⟨b,1,none⟩) hlo _) (p:=⟨g,8,none⟩) hlg _;have rf:=qo r4 1 (.slice A2 1 c2);have rf2:=(zJ (w4.setCell ⟨b,1,none⟩ (.slice A2 1 c2)) ⟨g,8,none⟩ (.int .u8 1) b (λe=>hbg e.symm)).trans rf;have of4:=qfk (qgZ (k:=1) (v:=.slice A2 1 c2) o4'.out hbg) (k:=8) zO 1;have hz:((w4.setCell ⟨b,1,none⟩ (.slice A2 1 c2)).setCell ⟨g,8,none⟩ (.int .u8 1)).heap.size=w4.heap.size:=zA3;have ow:=ZL (w':=(w4.setCell ⟨b,1,none⟩ (.slice A2 1 c2)).setCell ⟨g,8,none⟩ (.int .u8 1)) own4.out (λq h1 _=>st q zO zO);have hu4:Bys ((w4.setCell ⟨b,1,none⟩ (.slice A2 1 c2)).setCell ⟨g,8,none⟩ (.int .u8 1)) w4.heap.size (.slice A0 128 c0) (Zi (Qx 0 [])):=(((hu3.out.below hB4).more hB4.size).setCell hf1 (p:=⟨b,1,none⟩) zb _).setCell hf1 (p:=⟨g,8,none⟩) hzg _;have hsl:(Zi (Qx 0 [])).length=128:=Vf zA1;refine bodyPost_ret (v:=.tuple #[.int .i64 8,.int .i64 0]) (by simp[results,results165,go_sem]) rfl ⟨rfl,hB,A2,c2,rf2,⟨?_,?_,?_,?_⟩⟩
    ·exact(hb.below hB).more zO
    ·rw[hz];refine⟨[((8,Zi (Qx 0 [])),.slice A0 128 c0)],rfl,?_,?_⟩
     ·obtain⟨A',c',e,q1,q2⟩:=qG ow;cases e;exact⟨A2,c2,rfl,q1,q2,by have:=Rd.of_own ow;rw[hz]at this;exact this⟩
     ·intro p hp;simp only[List.mem_singleton]at hp;subst hp;exact⟨⟨A0,c0,by rw[hsl]⟩,hu4⟩
    ·exact Bys.of_own of4
    ·have e1:Bys w lo (.slice (some ⟨b4,o4,none⟩) 256 c4) last:=⟨_,c4,by rw[hl],zO,by assumption,by rw[hl];exact har⟩
     exact(e1.below hB).more zO
end Go.Proofs.YtmeadnlmepcmbaaGreat
