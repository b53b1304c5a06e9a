/- Lemmas of the proof. -/
import Derived.Test.YtmeadnlmepcmbaaGreatZT09
set_option linter.all false
set_option maxHeartbeats 8000000
open Go.Proofs.Tryz
open Go.Value renaming slice→s,int→O,tuple→U,pointer→Y
open Option renaming some→D,none→E
open Bool renaming true→F,false→X
open Go.World renaming alloc→I,setCell→M
open Go.Obj renaming cells→J
open Go renaming World→Q,Value→Z
namespace Go.Proofs.YtmeadnlmepcmbaaGreat
open Go.RowKit
variable {w w' W C:World}{lo n lo' b1 g c B base h i j:Nat}{e:TypeId}{v u x0 x1 x2 x3:Value}{S:Sto}{c1:Array Value}{l:List UInt8}{bs:List (List UInt8)}{ws:List (Int×List UInt8)}{R:Ending->World->Prop}{a:Act}{A:OA}{f f' l' k:K3}{ys zs xs:List It}{x y:It}{p:It->Bool}{lvl:Int}{acc:Option (Option (K3×K3))}{q:Option (K3×K3)}
def outDT(lo:Nat)(bs:List (List UInt8))(ws:List (Int×List UInt8)):Qb:=⟨Nat×Nat×Nat,λp=>XV p.1 bs.length bs.length p.2.1 ws.length (ws.length+1),λp W=>vq lo bs ws p.1 p.2.1 p.2.2 W⟩
theorem Xq(lo:Nat)(bs:List (List UInt8))(ws:List (Int×List UInt8))(b c g:Nat):(outDT lo bs ws).f (b,c,g)=XV b bs.length bs.length c ws.length (ws.length+1):=rfl
theorem qgd(lo:Nat)(bs:List (List UInt8))(ws:List (Int×List UInt8)):∀p,qS qm ((outDT lo bs ws).φ p):=λp W W' he h=>by have he:Ext W W':=he;exact vq.keep h (zM _) he.size λb _ hb=>he.block b hb
def qaG(lo:Nat)(l:List UInt8):Qb:=⟨OA×Nat,λp=>s p.1 l.length p.2,λp W=>W.ownsRow lo 5 1 (s p.1 l.length p.2) l.length (l.map bv)⟩
theorem Kv(lo:Nat)(l:List UInt8)(A c):(qaG lo l).f (A,c)=s A l.length c:=rfl
theorem Uq(lo:Nat)(l:List UInt8):∀p,qS qm ((qaG lo l).φ p):=λp W W' he h=>zu h he
theorem ZZ{size:Nat}{xs:List Z}(h:w.ownsRow lo e size v n xs)(hk:∀b,lo<=b->b<w.heap.size->w'.heap[b]?=w.heap[b]?):w'.ownsRow lo e size v n xs:=
 ⟨h.1,h.2.imp id λ⟨g,cap,cur,h1,h2,h3,h4⟩=>⟨g,cap,cur,h1,h2,(hk g h2 (zG.1 h3).1).trans h3,h4⟩⟩
def QY(lo:Nat)(S:Sto)(u:Z)(W:Q):Prop:=∃BB WW g A3 c3 A4 c4,u=Qo (D ⟨BB,0,E⟩) S.bs.length S.bs.length (D ⟨WW,0,E⟩) S.ws.length (S.ws.length+1) A3 S.now.length c3 A4 S.last.length c4/\vq lo S.bs S.ws BB WW g W /\
 W.ownsRow lo 5 1 (s A3 S.now.length c3) S.now.length (S.now.map bv)/\W.ownsRow lo 5 1 (s A4 S.last.length c4) S.last.length (S.last.map bv)
theorem QY.keep{W W2:Q}(h:QY lo S u W)(hl:lo'<=lo)(hs:W.heap.size<=W2)(hk:∀b,lo<=b->b<W.heap.size->W2.heap[b]?=W.heap[b]?):QY lo' S u W2:=by obtain⟨BB,WW,g,A3,c3,A4,c4,e,h1,h2,h3⟩:=h;exact⟨BB,WW,g,A3,c3,A4,c4,e,h1.keep hl hs hk,QC (ZZ h2 hk) hl,QC (ZZ h3 hk) hl⟩
theorem qfb{size:Nat}{xs:List Z}(h:w.ownsRow lo e size v n xs){t1:TypeId}(h1:w.heap[b1]?=D (J c1 t1))(ht:t1≠e)(hk:∀b,lo<=b->b<w.heap.size->b≠b1->w'.heap[b]?=w.heap[b]?):w'.ownsRow lo e size v n xs:=
 ⟨h.1,h.2.imp id λ⟨g,cap,cur,g1,g2,h3,h4⟩=>⟨g,cap,cur,g1,g2,(hk g g2 (zG.1 h3).1 (qM h3 h1 λe=>ht e.symm)).trans h3,h4⟩⟩
theorem QY.keepT{W W2:Q}(h:QY lo S u W)(hl:lo'<=lo)(hs:W.heap.size<=W2){t1:TypeId}(hr:W.heap[b1]?=D (J c1 t1))(ht:t1≠26/\t1≠142/\t1≠5)(hk:∀b,lo<=b->b<W.heap.size->b≠b1->W2.heap[b]?=W.heap[b]?):QY lo' S u W2:=by obtain⟨BB,WW,g,A3,c3,A4,c4,e,h1,h2,h3⟩:=h;exact⟨BB,WW,g,A3,c3,A4,c4,e,h1.keepT hl hs hr ht hk,QC (qfb h2 hr ht.2.2 hk) hl,QC (qfb h3 hr ht.2.2 hk) hl⟩
set_option maxRecDepth 100000 in
theorem qmH(A1 n1 c1 A2 n2 c2 A3 n3 c3 A4 n4 c4)(S:Sto)(hS:Gf S)(w:Q)(h:Qh w w (s A1 n1 c1) (s A2 n2 c2) (s A3 n3 c3) (s A4 n4 c4) S):Calls prog 157 #[Qo A1 n1 c1 A2 n2 c2 A3 n3 c3 A4 n4 c4] w (zZ (QY w S) w):=by
 have HD:=zH (λW (hW:Ext w W)=>qlN A1 n1 c1 A2 n2 c2 S.bs S.ws hS.bs hS.ws hS.be hS.we W (h.ext hW).bs (h.ext hW).ws);have HN:=zH (λW (hW:Ext w W)=>Kj _ S.now (by have:=hS.now;omega) W (h.ext hW).now);have HL:=zH (λW (hW:Ext w W)=>Kj _ S.last (by have:=hS.last;omega) W (h.ext hW).last);clear h hS;go_enter func157,ntmps157;go_wp2_with fail;generalize aA:(I (I _ _) _)=w1;have x1:Ext w w1:=by rw[<-aA];exact(zN _ _).trans (zN _ _)
 have r1:w1.heap[w.heap.size]?=D (J #[s A1 n1 c1,s A2 n2 c2,s A3 n3 c3,s A4 n4 c4] 28):=by rw[<-aA];exact(zK _ _ _ zA3).trans (zI _ _ _ rfl)
 have q1:w1.heap[w.heap.size+1]?=D (J #[s E 0 0,s E 0 0,s E 0 0,s E 0 0] 28):=aA▸zI _ _ _ zA3;clear aA;have g1:∀W,qm.r w1 W->∀i,W.cell? ⟨w,i,E⟩=#[s A1 n1 c1,s A2 n2 c2,s A3 n3 c3,s A4 n4 c4][i]?:=λW h=>qa (qb r1 h);refine qt zQ ?_;refine qY (w:=w1) qm (qP [(2,outDT w1.heap.size S.bs S.ws),(5,qaG w1.heap.size S.now),(8,qaG w1.heap.size S.last)])
  [F,F,F,F,F,F,F,F,F,F] 1 zQ zQ zQ zQ zQ zQ zQ ?st (Rel.drew _ _) ?walk
 case st=>exact qk (by simp only[List.forall_mem_cons];exact⟨qgd _ _ _,Uq _ _,Uq _ _,λ_ h=>by cases h⟩)
 case walk=>
  intro K hK;dsimp only[qv];refine zC1 ?_;refine qH (outDT w1.heap.size S.bs S.ws) zA0 zA0 (λW hW _=>?_) (λp=>?_)
  ·refine Qk ?_ ((HD.out W (Ext.trans x1 hW)).mono λe w' h=>?_)
   ·go_simp
   have hW:Ext w1 W:=hW;obtain⟨b,c,g,rfl,h1,hB⟩:=h;exact⟨(b,c,g),rfl,h1.keep hW.size (zM _) (λ_ _ _=>rfl),hB⟩
  obtain⟨bb,cc,gg⟩:=p;refine zC1 ?_;refine qH (qaG w1.heap.size S.now) zA0 zA0 (λW hW _=>?_) (λp=>?_)
  ·refine Qk ?_ ((HN.out W (Ext.trans x1 hW)).mono λe w' h=>?_)
   ·go_simp
   have hW:Ext w1 W:=hW;obtain⟨u,rfl,hu,hB⟩:=h;obtain⟨A,c,rfl,_,_⟩:=qC hu;exact⟨(A,c),rfl,QC hu hW.size,hB⟩
  obtain⟨B3,d3⟩:=p;refine zC1 ?_;refine qH (qaG w1.heap.size S.last) zA0 zA0 (λW hW _=>?_) (λp=>?_)
  ·refine Qk ?_ ((HL.out W (Ext.trans x1 hW)).mono λe w' h=>?_)
   ·go_simp
   have hW:Ext w1 W:=hW;obtain⟨u,rfl,hu,hB⟩:=h;obtain⟨A,c,rfl,_,_⟩:=qC hu;exact⟨(A,c),rfl,QC hu hW.size,hB⟩
  obtain⟨B4,d4⟩:=p;refine zC1 ?_;refine qB (hK _ _ λW hW hF=>?_);have hD:vq w1 S.bs S.ws bb cc gg W:=(hF 2).1;have hN:W.ownsRow w1 5 1 (s B3 S.now.length d3) S.now.length (S.now.map bv):=(hF 5).1;have hL:W.ownsRow w1 5 1 (s B4 S.last.length d4) S.last.length (S.last.map bv):=(hF 8).1;have hW:Ext w1 W:=hW;clear hF hK g1;refine zB6 ?_;have qW:=qb q1 hW;have kW:=qa qW;have fW:=qe qW;have hz:w.heap.size+1<w1:=(zG.1 q1).1;have P5:∀wx:Q,wx=Ky W (w.heap.size+1) 0 [s (D ⟨bb,0,E⟩) S.bs.length S.bs.length,s (D ⟨cc,0,E⟩) S.ws.length (S.ws.length+1),s B3 S.now.length d3,s B4 S.last.length d4] ->
    wx.heap[w.heap.size+1]?=D (J #[s (D ⟨bb,0,E⟩) S.bs.length S.bs.length,s (D ⟨cc,0,E⟩) S.ws.length (S.ws.length+1),s B3 S.now.length d3,s B4 S.last.length d4] 28 (0,0))/\Below w.heap.size w wx /\
     QY w.heap.size S (Qo (D ⟨bb,0,E⟩) S.bs.length S.bs.length (D ⟨cc,0,E⟩) S.ws.length (S.ws.length+1) B3 S.now.length d3 B4 S.last.length d4) wx:=λwx e=>by
   have hk:∀b,w1.heap.size<=b->b<W.heap.size->wx.heap[b]?=W.heap[b]?:=λb h1 _=>by rw[e];exact jT zO _ _ _
   have hs:W.heap.size<=wx:=by rw[e,Jy];exact zM _
   refine⟨by rw[e];refine(vn _ _ _ _ qW).trans ?_;simp[TA],by rw[e];exact jS (Nat.le_succ _) _ _ _ (Ext.trans x1 hW),bb,cc,gg,B3,d3,B4,d4,rfl,hD.keep zO hs hk,QC (ZZ hN hk) zO,QC (ZZ hL hk) zO⟩
  replace P5:=zH P5;clear hD hN hL qW hW;go_wp2;refine Qq ?_;go_wp2_with fail;have P5:=P5.out;generalize aS:M (M (M (M W _ _) _ _) _ _) _ _=w5;obtain⟨r5,x5,h5⟩:=P5 w5 aS.symm;clear P5 aS;have k5:=qa r5;exact bodyPost_ret (v:=Qo (D ⟨bb,0,E⟩) S.bs.length S.bs.length (D ⟨cc,0,E⟩) S.ws.length (S.ws.length+1) B3 S.now.length d3 B4 S.last.length d4) (by simp[results,results157,go_sem,k5]) rfl ⟨_,rfl,h5,x5⟩
set_option maxRecDepth 100000 in
theorem Kk(b:Nat)(A1:OA)(n1 c1:Nat)(A2:OA)(n2 c2:Nat)(A3:OA)(n3 c3:Nat)(A4:OA)(n4 c4:Nat)(S:Sto)(hS:Gf S)(w:Q)(hr:w.heap[b]?=D (J #[s A1 n1 c1,s A2 n2 c2,s A3 n3 c3,s A4 n4 c4] 223))(h:Qh w w (s A1 n1 c1) (s A2 n2 c2) (s A3 n3 c3) (s A4 n4 c4) S):Calls prog 122 #[Y b] w (zZ (QY w S) w):=by
 have HT:=zH (λW (hW:Ext w W)=>qmH A1 n1 c1 A2 n2 c2 A3 n3 c3 A4 n4 c4 S hS W (h.ext hW));clear h hS;have k0:=qa hr;have zb:b<w:=(zG.1 hr).1;go_enter func122,ntmps122;go_wp2_with fail;generalize aA:I _ _=w1;have x1:Ext w w1:=aA▸zN _ _;have q1:w1.heap[w.heap.size]?=D (J #[s E 0 0,s E 0 0,s E 0 0,s E 0 0] 28):=aA▸zI _ _ _ zA3;clear aA k0;refine(HT.out w1 x1).mono ?_;rintro e w2 ⟨u,rfl,hT,hB⟩;have hB:Ext w1 w2:=hB;have q2:=qb q1 hB;have kq:=qa q2;have fq:=qe q2;have z1:w.heap.size<w1:=(zG.1 q1).1;obtain⟨BB,WW,g,B3,d3,B4,d4,rfl,hD,hN,hL⟩:=hT;have P5:∀wx:Q,wx=Ky w2 w.heap.size 0 [s (D ⟨BB,0,E⟩) S.bs.length S.bs.length,s (D ⟨WW,0,E⟩) S.ws.length (S.ws.length+1),s B3 S.now.length d3,s B4 S.last.length d4] ->
   wx.heap[w.heap.size]?=D (J #[s (D ⟨BB,0,E⟩) S.bs.length S.bs.length,s (D ⟨WW,0,E⟩) S.ws.length (S.ws.length+1),s B3 S.now.length d3,s B4 S.last.length d4] 28 (0,0))/\Below w.heap.size w wx /\
    QY w.heap.size S (Qo (D ⟨BB,0,E⟩) S.bs.length S.bs.length (D ⟨WW,0,E⟩) S.ws.length (S.ws.length+1) B3 S.now.length d3 B4 S.last.length d4) wx:=λwx e=>by
  have hk:∀b,w1.heap.size<=b->b<w2.heap.size->wx.heap[b]?=w2.heap[b]?:=λb h1 _=>by rw[e];exact jT zO _ _ _
  have hs:w2.heap.size<=wx:=by rw[e,Jy];exact zM _
  refine⟨by rw[e];refine(vn _ _ _ _ q2).trans ?_;simp[TA],by rw[e];exact jS (zM _) _ _ _ (x1.trans hB),BB,WW,g,B3,d3,B4,d4,rfl,hD.keep zO hs hk,QC (ZZ hN hk) zO,QC (ZZ hL hk) zO⟩
 replace P5:=zH P5;clear hD hN hL q2 hB q1;go_wp2_with fail;have P5:=P5.out;generalize aS:M (M (M (M w2 _ _) _ _) _ _) _ _=w5;obtain⟨r5,x5,h5⟩:=P5 w5 aS.symm;clear P5 aS;have k5:=qa r5;exact bodyPost_ret (v:=Qo (D ⟨BB,0,E⟩) S.bs.length S.bs.length (D ⟨WW,0,E⟩) S.ws.length (S.ws.length+1) B3 S.now.length d3 B4 S.last.length d4) (by simp[results,results122,go_sem,k5]) rfl ⟨_,rfl,h5,x5⟩
theorem qbW{k:Nat}(h:w.ownsRow lo 5 1 (s g n c) n (l.map bv))(hk:k<n)(x:UInt8):(w.setCell (g,k) (bv x)).ownsRow lo 5 1 (s g n c) n ((l.set k x).map bv):=by
 obtain⟨h1,h2⟩:=h;rcases h2 with⟨e,_⟩|⟨g',cap,cur,e,hg,hr,hc,hm,hs,ht⟩
 cases e;cases e;have yx:k<cur.size:=zO;refine⟨by simpa using h1,.inr ⟨g,c,_,rfl,hg,qi hr k _,hc,hm,by simpa using hs,?_⟩⟩;apply List.ext_getElem?;intro i;rw[List.map_set,<-ht,List.getElem?_take,List.getElem?_set,List.getElem?_take];simp only[Nat.mul_one,Array.getElem?_toList,Array.getElem?_setIfInBounds,List.length_take,Array.length_toList];by_cases hi:i<n;rw[if_pos hi,if_pos hi];by_cases e:k=i;subst e;rw[if_pos rfl,if_pos rfl,if_pos yx,if_pos zO];rw[if_neg e,if_neg e];rw[if_neg hi,if_neg hi,if_neg zO]
theorem qij{lo g n c b k:Nat}(h:w.ownsRow lo 5 1 (s g n c) n (l.map bv))(hg:g≠b):(w.setCell (b,k) v).ownsRow lo 5 1 (s g n c) n (l.map bv):=by obtain⟨h1,h2⟩:=h;refine⟨h1,h2.imp id λ⟨g',cap,cur,e,h3,h4,h5⟩=>?_⟩;cases e;exact⟨g,c,cur,rfl,h3,(zJ _ _ _ _ hg).trans h4,h5⟩
theorem ZI(h:w.ownsRow lo 5 1 (s g n c) n (l.map bv)):(∀k,k<n->w.cell? ⟨g,k,E⟩=D (O .u8 ((l[k]?.getD 0).toNat:Int)))/\(∀k,w.frozen? ⟨g,k,E⟩=X)/\lo<=g/\g<w:=by
 have h1:=h.1;obtain⟨h0,h2⟩:=h;rcases h2 with⟨e,_⟩|⟨g',cap,cur,e,hg,hr,hc,hm,hs,ht⟩
 cases e;cases e;refine⟨λk hk=>?_,qe hr,hg,(zG.1 hr).1⟩;have hl:l.length=n:=by simpa using h1
 have hkl:k<l.length:=zO;have e2:(l.map bv)[k]?=D (bv l[k]):=by rw[List.getElem?_map,zL hkl];rfl
 rw[<-ht,List.getElem?_take,if_pos zO]at e2;have e3:cur[k]?=cur.toList[k]?:=zA3;rw[qa hr,e3,e2,zL hkl];rfl
set_option maxRecDepth 100000 in
theorem qdc(A1 n1 c1 A2 n2 c2 A3 n3 c3 A4 n4 c4)(S:Sto)(hl:S.now.length<1073741824)(w:Q)(h:Qh w w (s A1 n1 c1) (s A2 n2 c2) (s A3 n3 c3) (s A4 n4 c4) S):Calls prog 109 #[Qo A1 n1 c1 A2 n2 c2 A3 n3 c3 A4 n4 c4] w (zZ (λu W=>∃b A3' c3',u=Y (D ⟨b,0,E⟩)/\w.heap.size<=b/\W.heap[b]?=D (J #[s A1 n1 c1,s A2 n2 n2,s A3' n3 c3',s A4 n4 c4] 223)/\W.ownsRow w 5 1 (s A3' n3 c3') n3 (S.now.map bv)) w):=by
 have wK:Hid (n3=S.now.length):=zH h.now.at_.1;obtain⟨-,h2a,h2b,-⟩:=h.ws.at_;have HC:=zH (λW (hW:Ext w W)=>Kj (s A3 n3 c3) S.now hl W (h.ext hW).now);clear h;go_enter func109,ntmps109;go_wp2_with fail;generalize aA:(I _ _)=w1;have x1:Ext w w1:=aA▸zN _ _;have r1:w1.heap[w.heap.size]?=D (J #[s A1 n1 c1,s A2 n2 c2,s A3 n3 c3,s A4 n4 c4] 28):=aA▸zI _ _ _ rfl;clear aA;refine(HC.out _ x1).mono ?_;rintro e w2 ⟨u,rfl,hu,hB⟩;have x2:=x1.trans hB;have r2:=qb r1 hB;have s1:w.heap.size<w1:=(zG.1 r1).1;obtain⟨A3',c3',rfl,_,_⟩:=qC hu;have k2:=qa r2;have f2:=qe r2;clear hB r1 HC;rw[<-wK.out]at hu⊢;go_wp2_with fail;have hu3:=ZZ (w':=w2.setCell ⟨w.heap.size,2,E⟩ (s A3' n3 c3')) hu (λb hb _=>zJ _ _ _ _ (by show b≠w.heap.size;omega));generalize aP:(M _ _ _)=w3 at*;have x3:Ext w w3:=aP▸Below.setCell x2 (p:=⟨w.heap.size,2,E⟩) (zM _) _;have r3:w3.heap[w.heap.size]?=D (J #[s A1 n1 c1,s A2 n2 c2,s A3' n3 c3',s A4 n4 c4] 28):=aP▸qi r2 2 _;clear aP k2 f2 r2 x2 hu;refine(qhp A2 n2 c2 h2a h2b _).mono ?_;rintro e w4 ⟨rfl,hB⟩;have x4:=x3.trans hB;have r4:=qb r3 hB;have hu4:=zu hu3 hB;have k4:=qa r4;have f4:=qe r4;have s4:w.heap.size<w4:=(zG.1 r4).1;clear hB r3 x3 hu3;replace hu4:=zH hu4;go_wp2;have hu5:=ZZ (w':=w4.setCell ⟨w.heap.size,1,E⟩ (s A2 n2 n2)) hu4.out (λb hb _=>zJ _ _ _ _ (by show b≠w.heap.size;omega));have bf:Below w w ((w4.setCell (w,1) (s A2 n2 n2)).alloc (J #[s A1 n1 c1,s A2 n2 n2,s A3' n3 c3',s A4 n4 c4] 223)):=by have x4':Below w w w4:=x4;exact(by repeat' (first|with_reducible exact Below.refl _ _|with_reducible assumption|with_reducible apply Below.drew|with_reducible apply qT|with_reducible refine Below.alloc ?_ ?_ _|with_reducible refine Below.setCell ?_ ?_ _|(simp;done)|(simp;omega)|omega))
 go_ret;exact⟨_,rfl,⟨w4.heap.size,A3',c3',rfl,zO,zI _ _ _ zA3,QC (zu hu5 (zN _ _)) zO⟩,bf⟩
def qL(t:List UInt8)(a:Nat):Nat:=(t[a]?.getD 0).toNat
def zj(t:List UInt8)(a by_:Nat):List UInt8:=t.set a (UInt8.ofNat (qL t a+by_))
theorem qlw(n:Nat):IntKind.u8.wrap (n:Int)=(((UInt8.ofNat n).toNat:Nat):Int):=by simp[IntKind.wrap,IntKind.bits,IntKind.signed]
theorem qdT(h:Jh bs ws=F):bs.length<1000000/\ws.length<1000000/\(∀l∈bs,l.length<1000000)/\∀p∈ws,p.2.length<1000000:=by unfold Jh headD at h;simp only[Bool.and_eq_true,decide_eq_true_eq,List.all_eq_true]at h;obtain⟨⟨h1,h2⟩,h3,h4⟩:=h;refine⟨zO,zO,λl hl=>?_,λp hp=>?_⟩;have:=h3 l hl;unfold qaX at this;have:=of_decide_eq_true this;omega;have:=h4 p hp;unfold wrOk at this;have:=of_decide_eq_true this;omega
abbrev qp(S:Sto)(t:List UInt8):Sto:=⟨S.bs,S.ws,t,S.last⟩
abbrev sto0:Z:=Qo E 0 0 E 0 0 E 0 0 E 0 0
def qkm(S:Sto)(a:Int):Int:=if Jj S a≠0 then Jj S a else if js S a.toNat=255 then 70 else 0
def StoQ(e:Int)(S:Sto)(lo:Nat)(u:Z)(W:Q):Prop:=(e≠0/\u=U #[sto0,e])\/(e=0/\∃v,u=U #[v,O .i64 0]/\QY lo S v W)
theorem Zw(h:qj S=F):Gf S:=by
 obtain⟨h1,h2,h3,h4⟩:=qZ h;have hd:Jh S.bs S.ws=F:=by unfold qj at h;simp at h;exact h.1
 obtain⟨d1,d2,d3,d4⟩:=qdT hd;exact⟨d1,d2,d3,d4,zO,zO⟩
def jf(t:List UInt8)(a:Nat):List UInt8:=t.set a (UInt8.ofNat (qL t a-1))
theorem down_len(t:List UInt8)(a:Nat):(jf t a).length=t.length:=by unfold jf;simp
theorem qgA(h:0<n)(h2:n<256):IntKind.u8.wrap ((n:Int)-1)=(((UInt8.ofNat (n-1)).toNat:Nat):Int):=by rw[<-qlw];congr 1;omega
theorem UF(h4:a.tmps[4]?.getD undef=v)(hd:a.defers=[])(hR:R v W):bodyPost prog Tryz.f141 R .ret a W:=by refine bodyPost_ret (v:=v) ?_ hd hR;simp[results,results141,go_sem,h4]
set_option maxRecDepth 100000 in
theorem qjb(b lo:Nat)(v1 v2 v4:Z)(g c3:Nat)(t:List UInt8)(a:Nat)(ha:a<256)(w:Q)(hr:w.heap[b]?=D (J #[v1,v2,s g 256 c3,v4] 223))(ho:w.ownsRow lo 5 1 (s g 256 c3) 256 (t.map bv))(hbg:b≠g)(h0:0<qL t a):Calls prog 141 #[Y b,(a:Int)] w λe W=>e=.returned (O .i64 0)/\Below lo w W/\(∀k,k≠g->W.heap[k]?=w.heap[k]?)/\W.heap.size=w/\W.ownsRow lo 5 1 (s g 256 c3) 256 ((jf t a).map bv):=by
 obtain⟨hk,hf,yK,xC⟩:=ZI ho;have hka:=hk a ha;have hfa:=hf a;have kr:=qa hr;have rM:=zH (qbW ho ha (UInt8.ofNat (qL t a-1)));have hc:qL t a=(t[a]?.getD 0).toNat:=rfl;have au:=(t[a]?.getD 0).toNat_lt;rw[<-hc]at hka au;have hT:Hid (jf t a=t.set a (UInt8.ofNat (qL t a-1))):=rfl;have hwv:=qgA h0 au;generalize qL t a=nv at*;have aT:((nv:Int)==0)=X:=by rw[beq_eq_false_iff_ne];omega
 clear hk hf hc au ho;go_enter func141,ntmps141;go_wp2_with fail;refine UF rfl rfl ⟨rfl,Below.setCell (Below.refl _ _) (p:=⟨g,a,E⟩) yK _,λk hk=>zJ _ _ _ _ hk,zA3,?_⟩;rw[hT.out];exact rM.out
theorem qlJ{b:Nat}(h4:a.tmps[4]?.getD undef=Y b)(h5:a.tmps[5]?.getD undef=v)(hd:a.defers=[])(aC:W.heap[b]?=D (J #[x0,x1,x2,x3] 28))(hR:R (.returned (U #[.agg #[x0,x1,x2,x3],v])) W):bodyPost prog Tryz.f139 R .ret a W:=by refine bodyPost_ret (v:=U #[.agg #[x0,x1,x2,x3],v]) ?_ hd hR;have k:=qa aC;simp[results,results139,go_sem,h4,h5,k]
theorem qcq{b:Nat}(h4:a.tmps[4]?.getD undef=Y b)(h5:a.tmps[5]?.getD undef=v)(hd:a.defers=[])(aC:W.heap[b]?=D (J #[x0,x1,x2,x3] 28))(hR:R (.returned (U #[.agg #[x0,x1,x2,x3],v])) W):bodyPost prog Tryz.f75 R .ret a W:=by refine bodyPost_ret (v:=U #[.agg #[x0,x1,x2,x3],v]) ?_ hd hR;have k:=qa aC;simp[results,results75,go_sem,h4,h5,k]
theorem QY.set4{lo lo' b:Nat}(h:QY lo S u W)(hl:lo'<=lo)(hb:b<lo)(x0 x1 x2 x3:Z):QY lo' S u ((((W.setCell b x0).setCell (b,1) x1).setCell (b,2) x2).setCell (b,3) x3):=
 h.keep hl zA3 λb' hb' _=>(zJ _ _ _ _ zA2).trans ((zJ _ _ _ _ zA2).trans ((zJ _ _ _ _ zA2).trans (zJ _ _ _ _ zA2)))
set_option maxRecDepth 100000 in
theorem qhy(bat b lo:Nat)(v1 v2 v4:Z)(g c3:Nat)(t:List UInt8)(a:Nat)(ha:a<256)(w:Q)(dO:w.heap[bat]?=D (J #[(a:Int)] 3))(hr:w.heap[b]?=D (J #[v1,v2,s g 256 c3,v4] 223))(ho:w.ownsRow lo 5 1 (s g 256 c3) 256 (t.map bv))(hbg:b≠g)(h0:0<qL t a):Calls prog 140 #[Y b,Y bat] w λe W=>e=.returned (O .i64 0)/\Below lo w W/\(∀k,k≠g->W.heap[k]?=w.heap[k]?)/\W.heap.size=w/\W.ownsRow lo 5 1 (s g 256 c3) 256 ((jf t a).map bv):=by have HB:=zH (qjb b lo v1 v2 v4 g c3 t a ha w hr ho hbg h0);have ka:=qa dO;clear hr ho h0;go_enter func140,ntmps140;go_wp2_with fail;refine HB.out.mono ?_;clear HB;rintro e W ⟨rfl,h1,h2,h3,h4⟩;replace⟨h1,h2,h3,h4⟩:=zH4 h1 h2 h3 h4;go_wp2_with fail;go_ret;exact⟨rfl,h1.out,h2.out,h3.out,h4.out⟩
set_option maxRecDepth 100000 in
theorem qlI(A1 n1 c1 A2 n2 c2 A3 n3 c3 A4 n4 c4)(S:Sto)(hS:qj S=F)(a:Nat)(ha:a<256)(h0:0<qL S.now a)(bat:Nat)(w:Q)(dO:w.heap[bat]?=D (J #[(a:Int)] 3))(h:Qh w w (s A1 n1 c1) (s A2 n2 c2) (s A3 n3 c3) (s A4 n4 c4) S):Calls prog 139 #[Qo A1 n1 c1 A2 n2 c2 A3 n3 c3 A4 n4 c4,.func (.func 140) #[] #[Y bat]] w (zZ (λu W=>∃v,u=U #[v,O .i64 0]/\QY w (qp S (jf S.now a)) v W) w):=by
 obtain⟨lq,pX,lu,hl4⟩:=qZ hS;have HON:=zH (λW (hx:Ext w W)=>qdc A1 n1 c1 A2 n2 c2 A3 n3 c3 A4 n4 c4 S zO W (h.ext hx));have wK:n3=256:=by have:=h.now.at_.1;omega
 have eQ:Qh w w (s A1 n1 c1) (s A2 n2 n2) (s A3 n3 c3) (s A4 n4 c4) S:=⟨h.bs,h.ws.clip,h.now,h.last⟩
 have gG:=zH (Zw hS);have aJ:=zH eQ;subst wK;clear h eQ lq pX lu hl4;replace hS:=zH hS;go_enter func139,ntmps139;go_wp2_with fail;generalize aA:(I (I w _) _)=w1;have x1:Ext w w1:=by rw[<-aA];exact(zN _ _).trans (zN _ _)
 have ro1:w1.heap[w.heap.size+1]?=D (J #[s E 0 0,s E 0 0,s E 0 0,s E 0 0] 28):=aA▸zI _ _ _ zA3;clear aA;refine(HON.out w1 x1).mono ?_;clear HON;rintro e w2 ⟨u,rfl,⟨bb,A3',c3',rfl,cZ,hrb,aB⟩,hB⟩;have x2:Ext w w2:=x1.trans hB;have ro2:=qb ro1 hB;have uG:w.heap.size+1<w1:=(zG.1 ro1).1;have hAu:∃g,A3'=D ⟨g,0,E⟩:=by
  rcases aB.2 with⟨e,h0⟩|⟨g,cap,cur,e,_⟩
  cases e;cases e;exact⟨g,rfl⟩
 obtain⟨g,rfl⟩:=hAu;obtain⟨hk,hf,yK,hgz⟩:=ZI aB;have hbg:bb≠g:=by
  rintro rfl;rcases aB.2 with⟨e,h0⟩|⟨g',cap,cur,e,hg',hrg,dP,au,su,hc4⟩
  cases e;cases e;rw[hrb]at hrg;simp only[Option.some.injEq,Obj.cells.injEq]at hrg;exact absurd hrg.2.1 zA1
 have HL:=qhy bat bb w1.heap.size (s A1 n1 c1) (s A2 n2 n2) (s A4 n4 c4) g c3' S.now a ha w2 (qb dO x2) hrb aB hbg h0;clear hB ro1 x1 hk hf;replace⟨aB,hrb⟩:=zH2 aB hrb;go_wp2_with fail;refine HL.mono ?_;clear HL;rintro e w3 ⟨rfl,sS,gy,hs3,dG⟩;have ro3:=(gy (w.heap.size+1) zO).trans ro2;have hrb3:=(gy bb hbg).trans hrb.out;have x3:Ext w w3:=Below.trans x2 (Below.mono sS zO);have lN:=(aJ.out.below x3).more x3.size;have HST:=Kk bb A1 n1 c1 A2 n2 n2 (D ⟨g,0,E⟩) 256 c3' A4 n4 c4 (qp S (jf S.now a)) ⟨gG.out.bs,gG.out.ws,gG.out.be,gG.out.we,by rw[down_len];exact gG.out.now,gG.out.last⟩ w3 hrb3 ⟨lN.bs,lN.ws,Bys.of_own dG,lN.last⟩;have zo3:w.heap.size+1<w3:=(zG.1 ro3).1;clear sS gy dG lN ro2 x2 hrb3;go_wp2_with fail;refine HST.mono ?_;clear HST;rintro e w4 ⟨u,rfl,hu,hB⟩;have x4:Ext w w4:=x3.trans hB;have ro4:=qb ro3 hB;have ko4:=qa ro4;have fo4:=qe ro4;have hK:=λx0 x1 x2 x3'=>hu.set4 (b:=w.heap.size+1) (show w.heap.size<=w3.heap.size by omega) zo3 x0 x1 x2 x3';obtain⟨BB,WW,gg,B3,d3,B4,d4,rfl,hD,hN,hL⟩:=hu;replace hK:=zH hK;clear hB hD hN hL ro3 x3;go_wp2_with fail;exact qlJ (b:=w.heap.size+1) rfl rfl rfl (UX ro4 _ _ _ _) ⟨_,rfl,⟨_,rfl,hK.out _ _ _ _⟩,Je x4 zO _ _ _ _⟩
set_option maxRecDepth 100000 in
theorem qcp(A1 n1 c1 A2 n2 c2 A3 n3 c3 A4 n4 c4)(S:Sto)(a:Int)(w:Q)(h:Qh w w (s A1 n1 c1) (s A2 n2 c2) (s A3 n3 c3) (s A4 n4 c4) S):Calls prog 75 #[Qo A1 n1 c1 A2 n2 c2 A3 n3 c3 A4 n4 c4,a] w (zZ (StoQ (Jj S a) (qp S (jf S.now a.toNat)) w) w):=by
 have HA:=zH (λW (hx:Ext w W)=>qhB A1 n1 c1 A2 n2 c2 A3 n3 c3 A4 n4 c4 S a W (h.ext hx));replace h:=zH h;go_enter func75,ntmps75;go_wp2_with fail;generalize aA:(I (I (I w _) _) _)=w1;have x1:Ext w w1:=by rw[<-aA];exact((zN _ _).trans (zN _ _)).trans (zN _ _)
 have rs1:w1.heap[w.heap.size]?=D (J #[s A1 n1 c1,s A2 n2 c2,s A3 n3 c3,s A4 n4 c4] 28):=by rw[<-aA];exact(zK _ _ _ (by simp;try omega)).trans ((zK _ _ _ zA3).trans (zI _ _ _ rfl))
 have ra1:w1.heap[w.heap.size+1]?=D (J #[a] 3):=by rw[<-aA];exact(zK _ _ _ zA3).trans (zI _ _ _ zA3)
 have ro1:w1.heap[w.heap.size+2]?=D (J #[s E 0 0,s E 0 0,s E 0 0,s E 0 0] 28):=aA▸zI _ _ _ zA3;have kk1:=qa ra1;have ks1:=qa rs1;clear aA;go_wp2_with fail;refine(HA.out w1 x1).mono ?_;clear HA;rintro e w2 ⟨rfl,hB⟩;have x2:Ext w w2:=x1.trans hB;have rs2:=qb rs1 hB;have ra2:=qb ra1 hB;have ro2:=qb ro1 hB;clear hB rs1 ro1 x1 ks1 kk1 ra1;by_cases h0:Jj S a=0
 ·obtain⟨hS,m,rfl,hm8,hTJ,nY⟩:=qfC h0;have HD:=qlI A1 n1 c1 A2 n2 c2 A3 n3 c3 A4 n4 c4 S hS m hTJ (Nat.pos_of_ne_zero nY) (w.heap.size+1) w2 ra2 (h.out.ext x2);have ks2:=qa rs2;have h0':=zH h0;rw[h0];replace hS:=zH hS;clear nY h0;go_wp2_with fail;refine HD.mono ?_;clear HD;rintro e w3 ⟨u,rfl,⟨v,rfl,hT⟩,hB⟩;have x3:Ext w w3:=x2.trans hB;have ro3:=qb ro2 hB;have zo2:w.heap.size+2<w2:=(zG.1 ro2).1;have hK:=λx0 x1 x2 x3'=>hT.set4 (b:=w.heap.size+2) (show w.heap.size<=w2.heap.size by omega) zo2 x0 x1 x2 x3';obtain⟨BB,WW,gg,B3,d3,B4,d4,rfl,hD,hN,hL⟩:=hT;have ko3:=qa ro3;have fo3:=qe ro3;replace hK:=zH hK;clear hB hD hN hL ks2 rs2 ra2 ro2 x2;go_wp2_with fail;exact qcq (b:=w.heap.size+2) rfl rfl rfl (UX ro3 _ _ _ _) ⟨_,rfl,.inr ⟨h0'.out,_,rfl,hK.out _ _ _ _⟩,Je x3 zO _ _ _ _⟩
 have hq:=zH h0;have hE:Hid (Jj S a=Jj S a):=rfl;obtain⟨er,yu⟩:∃er,Jj S a=er:=⟨_,rfl⟩
 rw[yu]at h0⊢;have he:(er != 0)=F:=by rw[bne_iff_ne];exact h0
 have ko2:=qa ro2;have fo2:=qe ro2;replace yu:=zH yu;clear h0;go_wp2_with fail;exact qcq (b:=w.heap.size+2) rfl rfl rfl (UX ro2 _ _ _ _) ⟨_,rfl,.inl ⟨hq.out,by rw[yu.out];rfl⟩,Je x2 zO _ _ _ _⟩
abbrev vP:Z:=.agg (qR (s E 0 0) (s E 0 0) (s E 0 0) (s E 0 0) 0 0 0 (s E 0 0))
def vB(lo:Nat)(S:Sto)(gen root next:Int)(dead:List Int)(u:Z)(W:Q):Prop:=∃A1 c1 A2 c2 A3 c3 A4 c4 A5 c5,u=.agg (qR (s A1 S.bs.length c1) (s A2 S.ws.length c2) (s A3 S.now.length c3) (s A4 S.last.length c4) gen root next (s A5 dead.length c5)) /\
 ∀C:Q,PosZ lo W C->Qh C W (s A1 S.bs.length c1) (s A2 S.ws.length c2) (s A3 S.now.length c3) (s A4 S.last.length c4) S/\ZS C W (s A5 dead.length c5) dead
theorem Rd.pos{B size lo n c:Nat}{xs:List Z}(h:Rd w B size A n xs)(hf:ZK lo (s A n c))(hk:∀(q:Addr)(v:Z),lo<=q.block->q.block<B->w.cell? q=v->C.cell? q=v):Rd C B size A n xs:=
 ⟨h.1,λhn=>by obtain⟨b,off,rfl,hb,hc⟩:=h.2 hn;exact⟨b,off,rfl,hb,λj u hu=>hk _ _ (hf ⟨b,off,E⟩ n c rfl) hb (hc j u hu)⟩⟩
theorem ZS.pos{l:List Int}(h:ZS w B v l)(hf:ZK lo v)(hk:∀(q:Addr)(v:Z),lo<=q.block->q.block<B->w.cell? q=v->C.cell? q=v):ZS C B v l:=by obtain⟨A,c,e,hc,hm,hr⟩:=h;subst e;exact⟨A,c,rfl,hc,hm,Rd.pos hr hf hk⟩
theorem QY.newSto(h:QY lo S u W)(hS:Gf S):NewSto lo S u W:=by obtain⟨BB,WW,g,A3,c3,A4,c4,e,h1,h2,h3⟩:=h;refine⟨_,_,_,_,A3,c3,A4,c4,e,qmr (W:=thaw W) (Φ:=λC=>Qh C W.heap.size _ _ _ _ S) (λA C hAC hA=>hA.some_ hAC) λW2 hk=>?_⟩;obtain⟨k1,k2⟩:=h1.readsT hS.bs hS.ws hS.be hS.we W2 hk;exact⟨k1,k2,(Bys.of_ownT h2).keepN (ZK.of_own h2) hk,(Bys.of_ownT h3).keepN (ZK.of_own h3) hk⟩
theorem ZS.of_ownT{l:List Int}(h:w.ownsRow base 3 1 v l.length (Vq l)):ZS (thaw w) w v l:=by obtain⟨A,c,e,hc,hm,hr⟩:=ZS.of_own h;refine⟨A,c,e,hc,hm,hr.1,λhn=>?_⟩;obtain⟨b,off,e2,hb,ay⟩:=hr.2 hn;obtain⟨cs,t,aC⟩:=Thaw.of_own h ⟨b,off,E⟩ l.length c (by rw[e,e2]) hn;exact⟨b,off,e2,hb,λj u hu=>(YN aC _).trans (ay j u hu)⟩
def outN(lo n:Nat)(l:List Int):Qb:=⟨OA×Nat,λp=>s p.1 n p.2,λp W=>ZS (thaw W) W (s p.1 n p.2) l/\ZK lo (s p.1 n p.2)⟩
theorem Jf(lo n:Nat)(l:List Int)(A c):(outN lo n l).f (A,c)=s A n c:=rfl
theorem qii(lo n:Nat)(l:List Int):∀p,za ((outN lo n l).φ p):=λp W W' he h=>⟨by have h1:=h.1;rw[<-YO W]at h1;have h2:=h1.ext_ (Ext.thaw he);rw[YO]at h2;exact h2,h.2⟩
theorem UN{b:Nat}{x0 x1 x2 x3 x4 x5 x6 x7 v:Z}(h4:a.tmps[4]?.getD undef=Y b)(h5:a.tmps[5]?.getD undef=v)(hd:a.defers=[])(aC:W.heap[b]?=D (J #[x0,x1,x2,x3,x4,x5,x6,x7] 32))(hR:R (.returned (U #[.agg #[x0,x1,x2,x3,x4,x5,x6,x7],v])) W):bodyPost prog Tryz.f18 R .ret a W:=by refine bodyPost_ret (v:=U #[.agg #[x0,x1,x2,x3,x4,x5,x6,x7],v]) ?_ hd hR;have k:=qa aC;simp[results,results18,go_sem,h4,h5,k]
theorem Yz(a b:K3):Qg a b=F↔(a.1<b.1\/(a.1=b.1/\(a.2.1<b.2.1\/(a.2.1=b.2.1/\a.2.2<b.2.2)))):=by simp[Qg,vJ]
theorem YA(a b:K3):Qg a b=X↔¬(a.1<b.1\/(a.1=b.1/\(a.2.1<b.2.1\/(a.2.1=b.2.1/\a.2.2<b.2.2)))):=by rw[<-Bool.not_eq_true,Yz]
def leK(a b:K3):Prop:=Qg b a=X
theorem Gx(a:K3):leK a a:=by unfold leK;rw[YA];omega
theorem qaA{a b c:K3}(h:leK a b)(h':Qg b c=F):Qg a c=F:=by unfold leK at h;rw[YA]at h;rw[Yz]at*;omega
theorem Th{a b c:K3}(h:Qg a b=F)(h':leK b c):Qg a c=F:=by unfold leK at h';rw[YA]at h';rw[Yz]at*;omega
theorem Kc{a b:K3}(h:Qg a b=F):leK a b:=by unfold leK;rw[YA];rw[Yz]at h;omega
theorem qcP{a b c:K3}(h:Qg a b=F)(h':Qg b c=F):Qg a c=F:=Th h (Kc h')
theorem Xi(a:K3):Qg a a=X:=Gx a
theorem qjL{a b:K3}(h:leK a b)(h':leK b a):a=b:=by obtain⟨a1,a2,a3⟩:=a;obtain⟨b1,b2,b3⟩:=b;unfold leK at*;rw[YA]at*;simp only[Prod.mk.injEq]at*;omega
structure Srt(f l:K3)(ys:List It):Prop where
 ord:ys.Pairwise λa b=>Qg (qw a) (qw b)=F
 low:∀x∈ys,leK f (qw x)
 high:∀x∈ys,leK (qw x) l
 le:leK f l
theorem Srt.append{l:K3}(h:Srt f l ys)(h':Srt f' l' zs)(hl:Qg l f'=F):Srt f l' (ys++zs):=
 ⟨List.pairwise_append.2 ⟨h.ord,h'.ord,λa ha b hb=>qaA (h.high a ha) (Th hl (h'.low b hb))⟩,
  λx hx=>(List.mem_append.1 hx).elim (h.low x) λhx=>Kc (qaA h.le (Th hl (h'.low x hx))),
  λx hx=>(List.mem_append.1 hx).elim (λhx=>Kc (qaA (h.high x hx) (Th hl h'.le))) (h'.high x),
  Kc (qaA h.le (Th hl h'.le))⟩
theorem Srt.one(x:It){l:K3}(h:leK (qw x) l):Srt (qw x) l [x]:=
 ⟨List.pairwise_singleton _ _,λy hy=>by rw[List.mem_singleton.1 hy];exact Gx _,λy hy=>by rw[List.mem_singleton.1 hy];exact h,h⟩
theorem Ql:∀(h:Nat)(xs ys:List It),qu S h (xs++ys)=qu S h xs++qu S h ys
 |0,_,_=>rfl
 |h+1,xs,ys=>by rw[Ze,Ze,Ze,List.flatMap_append]
theorem Uu(S:Sto)(h:Nat)(H1:∀y f l,jA S h y=D (f,l)->Srt f l (qu S h [y]))(xs:List It):∀(k:Nat)(_:k<=xs.length)(p:K3×K3),qz S h (xs.take k)=D (D p)->Srt p.1 p.2 (qu S h (xs.take k))/\Srt p.1 p.2 (xs.take k):=by
 intro k;induction k with
 |zero=>intro _ p e;rw[List.take_zero]at e;cases e
 |succ k ih=>
  intro hk p e;have hlt:k<xs.length:=hk;rw[Jz hlt]at e;unfold jP at e;rw[List.take_succ_eq_append_getElem hlt,Ql];rcases hO:jA S h xs[k]with _|⟨f,l⟩
  rw[hO]at e;rcases hA:qz S h (xs.take k)with _|a
  rw[hA]at e;cases e;rw[hA]at e;cases e;have h1:=H1 _ _ _ hO;rw[hO]at e;rcases hA:qz S h (xs.take k)with _|_|q
  rw[hA]at e;cases e;obtain rfl:k=0:=by
   rcases Nat.eq_zero_or_pos k with h0|h0
   exact h0;exact absurd hA (Zx h0 zO)
  rw[hA]at e;simp only at e;split at e;rename_i hf;cases e;subst hf;rw[List.take_zero,Ja];exact⟨h1,Srt.one _ h1.le⟩;cases e;obtain⟨i1,i2⟩:=ih zO q hA;rw[hA]at e;simp only at e;split at e;rename_i hf;split at e;rename_i hl;cases e;subst hf;exact⟨i1.append h1 hl,i2.append (Srt.one _ h1.le) hl⟩;cases e;cases e
theorem qgc(S:Sto):∀(h:Nat)(y:It)(f l:K3),jA S h y=D (f,l)->Srt f l (qu S h [y])
 |0,y,f,l,e=>by unfold jA at e;split at e;cases e;exact Srt.one y (Gx _);cases e
 |h+1,y,f,l,e=>by
  rw[Jc]at e;unfold vI at e;split at e;rcases hn:qo S y.r.toNat with _|⟨lvl,xs⟩
  rw[hn]at e;cases e;rw[hn]at e;simp only at e;split at e;rcases hs:qz S h xs with _|_|q
  rw[hs]at e;cases e;rw[hs]at e;cases e;rw[hs]at e;cases e;have:=(Uu S h (qgc S h) xs xs.length (zM _) _ (by rw[List.take_length];exact hs)).1;rw[List.take_length]at this;rw[Ze];simp only[List.flatMap_cons,List.flatMap_nil,List.append_nil,hn];exact this;cases e;cases e
theorem qad{p:K3×K3}(hs:qz S h xs=D (D p)):Srt p.1 p.2 (qu S h xs)/\Srt p.1 p.2 xs:=by
 have:=Uu S h (qgc S h) xs xs.length (zM _) p (by rw[List.take_length];exact hs)
 rwa [List.take_length]at this
theorem jI(hs:(qz S h xs).isSome=F):(qu S h xs).Pairwise (λa b=>Qg (qw a) (qw b)=F)/\xs.Pairwise (λa b=>Qg (qw a) (qw b)=F):=by
 rcases hq:qz S h xs with _|_|p
 rw[hq]at hs;cases hs;rcases Nat.eq_zero_or_pos xs.length with h0|h0
 obtain rfl:=List.eq_nil_of_length_eq_zero h0;rw[Ja];exact⟨List.Pairwise.nil,List.Pairwise.nil⟩;exact absurd (by rw[List.take_length];exact hq) (Zx (S:=S) (h:=h) h0 (zM xs.length));exact⟨(qad hq).1.ord,(qad hq).2.ord⟩
theorem Tm(h:xs.Pairwise λa b=>Qg (qw a) (qw b)=F)(hij:i<j)(hj:j<xs.length):Qg (qw (xs[i]'(by omega))) (qw xs[j])=F:=List.pairwise_iff_getElem.1 h i j _ hj hij
theorem vS(hs:(qz S h xs).isSome=F)(k:Nat):(qz S h (xs.take k)).isSome=F:=by
 rcases hq:qz S h (xs.take k)with _|q
 rw[qfm hq]at hs;cases hs;rfl
theorem qmp(hs:(qz S h xs).isSome=F)(hi:i+1<xs.length)(hk:Qg k (qw xs[i+1])=X):∀x∈qu S h [xs[i]],Qg (qw x) k=F:=by
 intro x hx;have h2:=vS hs (i+1+1);rw[Jz hi]at h2;unfold jP at h2;rcases hA:qz S h (xs.take (i+1))with _|_|q
 rw[hA]at h2;cases h2;exact absurd hA (Zx zO zO);have hm:=(qad hA).1.high x (by rw[List.take_succ_eq_append_getElem zO,Ql];exact List.mem_append_right _ hx);rw[hA]at h2;rcases hO:jA S h xs[i+1]with _|⟨f,l⟩
 rw[hO]at h2;cases h2;rw[hO]at h2;simp only at h2;split at h2;rename_i hf;split at h2;rename_i hl;rw[hf]at hl;exact qaA hm (Th hl hk);cases h2;cases h2
def QZ(S:Sto)(h:Nat)(from_:K3)(xs:List It):List It:=(qu S h xs).filter λx=>!Qg (qw x) from_
theorem qbf(xs ys:List It):QZ S h k (xs++ys)=QZ S h k xs++QZ S h k ys:=by unfold QZ;rw[Ql,List.filter_append]
theorem qlU(hs:(qz S h xs).isSome=F)(hi:i+1<xs.length)(hk:Qg k (qw xs[i+1])=X):QZ S h k [xs[i]]=[]:=by unfold QZ;rw[List.filter_eq_nil_iff];intro x hx;simp[qmp hs hi hk x hx]
def VG(S:Sto)(h:Nat)(a b:K3)(xs:List It):List It:=(qu S h xs).filter λx=>!Qg (qw x) a&&!Qg b (qw x)
theorem qch(S:Sto)(h:Nat)(a b:K3)(xs:List It):VG S h a b xs=(QZ S h a xs).filter λx=>!Qg b (qw x):=by unfold VG QZ;rw[List.filter_filter];congr 1;funext x;rw[Bool.and_comm]
theorem from_ord(hs:(qz S h xs).isSome=F):(QZ S h k xs).Pairwise λa b=>Qg (qw a) (qw b)=F:=(jI hs).1.sublist List.filter_sublist
theorem qhf{a b:K3}(hb:∀x∈QZ S h a xs,Qg b (qw x)=X):VG S h a b xs=QZ S h a xs:=by rw[qch,List.filter_eq_self];intro x hx;simp[hb x hx]
theorem qfL{a b:K3}{pre rest:List It}(hs:(qz S h xs).isSome=F)(he:QZ S h a xs=pre++x::rest)(hp:∀y∈pre,Qg b (qw y)=X)(hx:Qg b (qw x)=F):VG S h a b xs=pre:=by
 have ho:=from_ord (k:=a) hs;rw[he]at ho;obtain⟨-,o2,-⟩:=List.pairwise_append.1 ho;rw[List.pairwise_cons]at o2;rw[qch,he,List.filter_append];have e1:pre.filter (λx=>!Qg b (qw x))=pre:=by rw[List.filter_eq_self];intro y hy;simp[hp y hy]
 have e2:(x::rest).filter (λx=>!Qg b (qw x))=[]:=by
  rw[List.filter_eq_nil_iff];intro y hy;rcases List.mem_cons.1 hy with rfl|hy
  simp[hx];simp[qcP hx (o2.1 y hy)]
 rw[e1,e2,List.append_nil]
def qF(xs:List It)(k:K3):Nat:=(xs.filter λx=>Qg (qw x) k).length
theorem JR(xs:List It)(k:K3):qF xs k<=xs.length:=List.length_filter_le _ _
theorem qjW(h:i<xs.length):qF (xs.take (i+1)) k=qF (xs.take i) k+(if Qg (qw xs[i]) k=F then 1 else 0):=by unfold qF;rw[List.take_succ_eq_append_getElem h,List.filter_append,List.length_append];congr 1;by_cases hl:Qg (qw xs[i]) k=F;rw[if_pos hl];simp[hl];rw[if_neg hl];simp[hl]
theorem JQ:∀{xs:List It}{k:K3},xs.Pairwise (λa b=>Qg (qw a) (qw b)=F)->∀i (h:i<xs.length),(Qg (qw xs[i]) k=F↔i<qF xs k)
 |[],_,_,i,h=>absurd h (Nat.not_lt_zero _)
 |x::r,k,ho,i,h=>by
  rw[List.pairwise_cons]at ho;by_cases hx:Qg (qw x) k=F;have e:qF (x::r) k=qF r k+1:=by simp[qF,hx]
  cases i with
  |zero=>simp[hx,e]
  |succ i=>rw[e];have:=JQ (k:=k) ho.2 i (by simpa using h);simpa using this
  have aW:∀y∈r,Qg (qw y) k=X:=λy hy=>by
   rcases hz:Qg (qw y) k with _|_
   rfl;exact absurd (qcP (ho.1 y hy) hz) hx
  have e:qF (x::r) k=0:=by
   unfold qF;have:r.filter (λx=>Qg (qw x) k)=[]:=by rw[List.filter_eq_nil_iff];intro y hy;simp[aW y hy]
   simp[hx,this]
  rw[e];cases i with
  |zero=>simp[hx]
  |succ i=>
   have hi:i<r.length:=by simpa using h
   simp[aW r[i] (List.getElem_mem hi)]
theorem qdj(h:i<xs.length)(hp:p xs[i]=F)(hn:∀j (hj:j<xs.length),i<j->p xs[j]=X):xs.reverse.find? p=D xs[i]:=by
 have e:xs=xs.take i++xs[i]::xs.drop (i+1):=by rw[<-List.drop_eq_getElem_cons h,List.take_append_drop]
 have e2:xs.reverse=(xs.drop (i+1)).reverse++xs[i]::(xs.take i).reverse:=by
  conv=>lhs;rw[e]
  simp
 rw[e2,List.find?_append];have e3:(xs.drop (i+1)).reverse.find? p=E:=by rw[List.find?_eq_none];intro y hy;rw[List.mem_reverse]at hy;obtain⟨j,hj,rfl⟩:=List.mem_iff_getElem.1 hy;rw[List.length_drop]at hj;rw[List.getElem_drop];simp[hn (i+1+j) zO zO]
 rw[e3,List.find?_cons_of_pos hp];rfl
theorem qir(hn:∀j (hj:j<xs.length),p xs[j]=X):xs.reverse.find? p=E:=by rw[List.find?_eq_none];intro y hy;rw[List.mem_reverse]at hy;obtain⟨j,hj,rfl⟩:=List.mem_iff_getElem.1 hy;simp[hn j hj]
def Yw(xs:List It)(k:K3):Option It:=xs.reverse.find? λx=>!Qg k (qw x)
def qhQ(xs:List It)(k:K3):Option It:=xs.reverse.find? λx=>decide (qw x=k)
def Vm(S:Sto)(k:K3):Nat->List It->Option It
 |0,xs=>qhQ xs k
 |h+1,xs=>match Yw xs k with
  |none=>E
  |some y=>match qo S y.r.toNat with
   |none=>E
   |some (_,ys)=>Vm S k h ys
theorem qig(S:Sto)(k:K3)(xs:List It):Vm S k 0 xs=qhQ xs k:=rfl
theorem Tl(hd:Yw xs k=y)(hn:qo S y.r.toNat=D (lvl,ys)):Vm S k (h+1) xs=Vm S k h ys:=by show(match Yw xs k with|none=>E|some y=>match qo S y.r.toNat with|none=>E|some (_,ys)=>Vm S k h ys)=_;rw[hd];simp only;rw[hn]
theorem qid(hd:Yw xs k=E):Vm S k (h+1) xs=E:=by show(match Yw xs k with|none=>E|some y=>match qo S y.r.toNat with|none=>E|some (_,ys)=>Vm S k h ys)=_;rw[hd]
section
variable {xs:List It} {k:K3} (ho:xs.Pairwise fun a b=>Qg (qw a) (qw b)=true)
include ho
theorem leaf_is(hp:qF xs k<xs.length)(he:qw (xs[qF xs k]'hp)=k):qhQ xs k=D xs[qF xs k]:=by refine qdj hp (by simp[he]) λj hj hlt=>?_;have:=Tm ho hlt hj;rw[he]at this;rw[decide_eq_false_iff_not];intro h;rw[h,Xi]at this;cases this
theorem qkX(hn:∀hp:qF xs k<xs.length,qw (xs[qF xs k]'hp)≠k):qhQ xs k=E:=by
 refine qir λj hj=>?_;rw[decide_eq_false_iff_not];intro h;have h1:¬j<qF xs k:=λhl=>by have:=(JQ (k:=k) ho j hj).2 hl;rw[h,Xi]at this;cases this
 have h2:¬qF xs k<j:=λhl=>by have h3:=Tm ho hl hj;rw[h]at h3;exact absurd ((JQ (k:=k) ho _ zO).1 h3) (Nat.lt_irrefl _)
 have h4:qF xs k=j:=zO;subst h4;exact hn hj h
theorem qkO(hp:qF xs k<xs.length)(he:qw (xs[qF xs k]'hp)=k):Yw xs k=D xs[qF xs k]:=by refine qdj hp (by simp[he,Xi]) λj hj hlt=>?_;have:=Tm ho hlt hj;rw[he]at this;simp[this]
theorem qkP(h0:qF xs k=0)(hn:∀hp:qF xs k<xs.length,qw (xs[qF xs k]'hp)≠k):Yw xs k=E:=by
 refine qir λj hj=>?_;have h1:Qg (qw xs[j]) k=X:=by
  rcases hz:Qg (qw xs[j]) k with _|_
  rfl;have:=(JQ ho j hj).1 hz;omega
 rcases hz:Qg k (qw xs[j])with _|_
 have he:qw xs[j]=k:=qjL hz h1;rcases Nat.eq_zero_or_pos j with hj0|hj0
 subst hj0;exact absurd (by simpa [h0]using he) (hn zO);have h3:=Tm ho (i:=0) hj0 hj;rw[he]at h3;have:=(JQ ho 0 zO).1 h3;omega;simp
theorem qbc(h0:0<qF xs k)(hn:∀hp:qF xs k<xs.length,qw (xs[qF xs k]'hp)≠k):Yw xs k=D (xs[qF xs k-1]'(by have:=JR xs k;omega)):=by
 have hle:=JR xs k;refine qdj zO ?_ λj hj hlt=>?_;have:=(JQ (k:=k) ho (qF xs k-1) zO).2 zO;have h2:Qg k (qw (xs[qF xs k-1]'(by omega)))=X:=Kc this;simp[h2];have h1:Qg (qw xs[j]) k=X:=by
  rcases hz:Qg (qw xs[j]) k with _|_
  rfl;have:=(JQ ho j hj).1 hz;omega
 rcases hz:Qg k (qw xs[j])with _|_
 have he:qw xs[j]=k:=qjL hz h1;by_cases hjp:qF xs k=j;subst hjp;exact absurd he (hn hj);have h3:=Tm ho (show qF xs k<j by omega) hj;rw[he]at h3;have:=(JQ ho _ zO).1 h3;omega;simp
end
theorem qma:∀{h:Nat}{xs:List It}{x:It},x∈qu S h xs->∃(j:Nat)(hj:j<xs.length),x∈qu S h [xs[j]]
 |0,xs,x,hx=>by obtain⟨j,hj,rfl⟩:=List.mem_iff_getElem.1 hx;exact⟨j,hj,List.mem_singleton.2 rfl⟩
 |h+1,xs,x,hx=>by rw[Ze]at hx;obtain⟨y,hy,hx⟩:=List.mem_flatMap.1 hx;obtain⟨j,hj,rfl⟩:=List.mem_iff_getElem.1 hy;exact⟨j,hj,by rw[Ze];exact List.mem_flatMap.2 ⟨_,List.mem_singleton.2 rfl,hx⟩⟩
theorem one_low(hs:(qz S h xs).isSome=F)(hj:j<xs.length)(hx:x∈qu S h [xs[j]]):leK (qw xs[j]) (qw x):=by
 have h2:=vS hs (j+1);rw[Jz hj]at h2;unfold jP at h2;rcases hA:qz S h (xs.take j)with _|a
 rw[hA]at h2;cases h2;rcases hO:jA S h xs[j]with _|⟨f,l⟩
 rw[hA,hO]at h2;cases h2;rw[hA,hO]at h2;simp only at h2;split at h2;rename_i hf;subst hf;exact(qgc S h _ _ _ hO).low x hx;cases h2
theorem items_lt(hs:(qz S h xs).isSome=F)(hi:i<xs.length)(hx:x∈qu S h (xs.take i)):Qg (qw x) (qw xs[i])=F:=by
 rcases Nat.eq_zero_or_pos i with h0|h0
 subst h0;rw[List.take_zero,Ja]at hx;cases hx;obtain⟨j,rfl⟩:∃j,i=j+1:=⟨i-1,zO⟩
 have h2:=vS hs (j+1+1);rw[Jz hi]at h2;unfold jP at h2;rcases hA:qz S h (xs.take (j+1))with _|_|q
 rw[hA]at h2;cases h2;exact absurd hA (Zx zO zO);have hm:=(qad hA).1.high x hx;rw[hA]at h2;rcases hO:jA S h xs[j+1]with _|⟨f,l⟩
 rw[hO]at h2;cases h2;rw[hO]at h2;simp only at h2;split at h2;rename_i hf;split at h2;rename_i hl;rw[hf]at hl;exact qaA hm hl;cases h2;cases h2
def qcb(f l:K3)(ys:List It):Prop:=(∃a r,ys=a::r/\qw a=f)/\∃r b,ys=r++[b]/\qw b=l
theorem qcb.one(x:It):qcb (qw x) (qw x) [x]:=⟨⟨x,[],rfl,rfl⟩,[],x,rfl,rfl⟩
theorem qcb.append{l:K3}(h:qcb f l ys)(h':qcb f' l' zs):qcb f l' (ys++zs):=by obtain⟨⟨a,r,rfl,ha⟩,-⟩:=h;obtain⟨-,r',b,rfl,hb⟩:=h';exact⟨⟨a,_,rfl,ha⟩,(a::r)++r',b,zA3,hb⟩
theorem Ub{one:It->Option (K3×K3)}(h:jP one acc y=D q):∃l,one y=D (qw y,l)/\((acc=D E/\q=D (qw y,l))\/∃f l0,acc=D (D (f,l0))/\Qg l0 (qw y)=F/\q=D (f,l)):=by unfold jP at h;split at h;cases h;split at h;cases h;rename_i f l ho;split at h;rename_i hf;subst hf;refine⟨l,ho,?_⟩;split at h;cases h;exact .inl ⟨rfl,rfl⟩;rename_i f0 l0;split at h;rename_i hl;cases h;exact .inr ⟨f0,l0,rfl,hl,rfl⟩;cases h;cases h
theorem Kz(S:Sto)(h:Nat)(xs:List It)(y:It):qz S h (xs++[y])=jP (jA S h) (qz S h xs) y:=by unfold qz;rw[List.foldl_append];rfl
theorem qac(xs:List It):xs=[]\/∃r y,xs=r++[y]:=by
 rcases List.eq_nil_or_concat xs with h|⟨r,y,h⟩
 exact .inl h;exact .inr ⟨r,y,by rw[h,List.concat_eq_append]⟩
section
variable {S:Sto} {h:Nat}
theorem Xw(H1:∀y f l,jA S h y=D (f,l)->qcb f l (qu S h [y])):∀(n:Nat)(xs:List It),xs.length=n->∀f l,qz S h xs=D (D (f,l))->qcb f l (qu S h xs)
 |0,xs,hn,f,l,e=>by obtain rfl:=List.eq_nil_of_length_eq_zero hn;cases e
 |n+1,xs,hn,f,l,e=>by
  rcases qac xs with rfl|⟨r,y,rfl⟩
  simp at hn;rw[Kz]at e;obtain⟨ly,ho,⟨hGW,hq⟩|⟨f0,l0,hGW,hl,hq⟩⟩:=Ub e;have hr:r=[]:=by
   rcases qac r with rfl|⟨r',y',rfl⟩
   rfl;exfalso;rw[Kz]at hGW;obtain⟨_,_,⟨_,e2⟩|⟨_,_,_,_,e2⟩⟩:=Ub hGW<;>cases e2
  subst hr;cases hq;exact H1 _ _ _ ho;cases hq;have hr:=Xw H1 n r (by simpa using hn) f l0 hGW;rw[Ql];exact hr.append (H1 _ _ _ ho)
end
theorem GH(S:Sto):∀(h:Nat)(y:It)(f l:K3),jA S h y=D (f,l)->qcb f l (qu S h [y])
 |0,y,f,l,e=>by unfold jA at e;split at e;cases e;exact qcb.one y;cases e
 |h+1,y,f,l,e=>by
  unfold jA at e;split at e;split at e;cases e;rename_i lvl xs hn;split at e;have e':(qz S h xs).getD E=D (f,l):=e;have hs:qz S h xs=D (D (f,l)):=by
   rcases hq:qz S h xs with _|q
   rw[hq]at e';cases e';rw[hq]at e';exact congrArg D e'
  have:=Xw (GH S h) _ xs rfl f l hs;simp only[qu,List.flatMap_cons,List.flatMap_nil,List.append_nil,hn];exact this;cases e;cases e
theorem qfo{l:K3}(e:qz S h xs=D (D (f,l))):qcb f l (qu S h xs):=Xw (GH S h) _ xs rfl f l e
def VZ(S:Sto)(h:Nat)(xs:List It):Prop:=∀y∈xs,∃l,jA S h y=D (qw y,l)
theorem qfn{S:Sto}{h:Nat}:∀(n:Nat)(xs:List It),xs.length=n->(qz S h xs).isSome=F->VZ S h xs
 |0,xs,hn,_=>by obtain rfl:=List.eq_nil_of_length_eq_zero hn;intro y hy;cases hy
 |n+1,xs,hn,e=>by
  rcases qac xs with rfl|⟨r,y,rfl⟩
  simp at hn;obtain⟨q,e⟩:=Option.isSome_iff_exists.1 e;rw[Kz]at e;obtain⟨l,ho,ha⟩:=Ub e;have hr:(qz S h r).isSome=F:=by rcases ha with⟨ha,_⟩|⟨_,_,ha,_⟩<;>rw[ha]<;>rfl
  intro z hz;rcases List.mem_append.1 hz with hz|hz
  exact qfn n r (by simpa using hn) hr z hz;rw[List.mem_singleton.1 hz];exact⟨l,ho⟩
theorem qlq{S:Sto}{h:Nat}:∀(n:Nat)(xs:List It),xs.length=n->VZ S h xs->(qu S h xs).Pairwise (λa b=>Qg (qw a) (qw b)=F)->(qz S h xs).isSome=F
 |0,xs,hn,_,_=>by obtain rfl:=List.eq_nil_of_length_eq_zero hn;rfl
 |n+1,xs,hn,he,hp=>by
  rcases qac xs with rfl|⟨r,y,rfl⟩
  simp at hn;rw[Ql]at hp;obtain⟨oM,-,hp3⟩:=List.pairwise_append.1 hp;have hr:=qlq n r (by simpa using hn) (λz hz=>he z (List.mem_append_left _ hz)) oM;obtain⟨l,ho⟩:=he y zA3;obtain⟨q,hq⟩:=Option.isSome_iff_exists.1 hr;rw[Kz,hq];unfold jP;rw[ho];simp only[if_true];rcases q with _|⟨f0,l0⟩
  rfl;obtain⟨-,r1,b,e1,hb⟩:=qfo hq;obtain⟨⟨a,r2,e2,ha⟩,-⟩:=GH S h y _ _ ho;have hl:Qg l0 (qw y)=F:=by rw[<-hb,<-ha];exact hp3 b (by rw[e1];simp) a (by rw[e2];simp)
  simp only[hl,if_true];rfl
theorem ZF:(qz S h xs).isSome=F↔VZ S h xs/\(qu S h xs).Pairwise (λa b=>Qg (qw a) (qw b)=F):=
 ⟨λe=>⟨qfn _ xs rfl e,(jI e).1⟩,λe=>qlq _ xs rfl e.1 e.2⟩
set_option maxRecDepth 100000 in
theorem qjH(x:It)(hx:Zb x)(hb:itB x.r x.val.length=F)(A c)(w:Q)(h:Bys w w (s A x.val.length c) x.val):Calls prog 203 #[KR x.k x.i x.o x.r A x.val.length c] w (zZ (IsB0 w (12+x.val.length) (ZP x)) w):=by
 have HC:=zH (λW=>Vj x.k x.i x.o x.r A x.val.length c W);rw[hb,show Va F=0 from rfl]at HC;obtain⟨kk,ki,ko,kr,l⟩:=x;obtain⟨⟨hk1,yx⟩,⟨hi1,dK⟩,⟨ho1,ho2⟩,⟨oP,sH⟩,hl⟩:=hx;dsimp only at*;clear hb;obtain⟨k,rfl⟩:=Int.eq_ofNat_of_zero_le hk1;obtain⟨i,rfl⟩:=Int.eq_ofNat_of_zero_le hi1;obtain⟨o,rfl⟩:=Int.eq_ofNat_of_zero_le ho1;obtain⟨r,rfl⟩:=Int.eq_ofNat_of_zero_le oP;have HB:Hid (ZP ⟨k,i,o,r,l⟩=[[UInt8.ofNat k],qQ i 4,qQ o 4,qQ r 2,[UInt8.ofNat l.length],l].flatten):=by refine zH ?_;simp[ZP]
 have ai:bv (UInt8.ofNat k)=O .u8 (k:Int):=by simp[bv];omega
 have fZ:bv (UInt8.ofNat l.length)=O .u8 ((l.length:Nat):Int):=by simp[bv];omega
 have HL:Hid ([[UInt8.ofNat k],qQ i 4,qQ o 4,qQ r 2,[UInt8.ofNat l.length],l].flatten.length=12+l.length):=by refine zH ?_;simp[QU];omega
 have hcv:IntKind.u8.wrap ((l.length:Nat):Int)=((l.length:Nat):Int):=by simp[IntKind.wrap,IntKind.bits,IntKind.signed];omega
 replace⟨ai,fZ,h⟩:=zH3 ai fZ h;rw[HB.out];clear HB;generalize hFL:[[UInt8.ofNat k],qQ i 4,qQ o 4,qQ r 2,[UInt8.ofNat l.length],l]=FL at*;go_enter func203,ntmps203;go_wp2_with fail;generalize aA:I w _=w1;have x1:Ext w w1:=aA▸zN _ _;have r1:w1.heap[w.heap.size]?=D (J #[O .u8 k,O .u32 i,O .u32 o,r,s A l.length c] 51):=aA▸zI _ _ _ rfl;clear aA;refine(HC.out w1).mono ?_;rintro e w2 ⟨rfl,hB⟩;have x2:Ext w w2:=Ext.trans x1 hB;have r2:=qb r1 hB;have k2:=qa r2;clear hB r1 x1 HC;go_wp2_with fail;refine(qgz r zO _).mono ?_;rintro e w3 ⟨u,rfl,⟨u2,rfl,A2,c2,rfl,bP,yD⟩,hB⟩;have x3:Ext w w3:=Ext.trans x2 hB;have r3:=qb r2 hB;clear hB k2 r2 x2;go_wp2_with fail;have hE:∀W,Ext w3 W->∀j,W.cell? ⟨w,j,E⟩=#[O .u8 k,O .u32 i,O .u32 o,r,s A l.length c][j]?:=λW h=>qa (qb r3 h);refine zX (qP [(3,ju w3.heap.size 1 5 #[O .u8 k]),(7,XL w3.heap.size 4 (qQ i 4)),(11,XL w3.heap.size 4 (qQ o 4)),(17,ju w3.heap.size 1 5 #[O .u8 (l.length:Nat)]),(20,kG w3.heap.size 6 26 (VD FL)),(21,XL w3.heap.size (12+l.length) FL.flatten)]) 22 zQ zQ zQ zA1 zQ zQ ?st ?walk
 case st=>exact Zc (by simp only[List.forall_mem_cons];exact⟨Jd _ _ _ _,Jt _ _ _,Jt _ _ _,Jd _ _ _ _,Ku (VD.stable _),Jt _ _ _,λ_ h=>by cases h⟩)
 case walk=>
  intro K hK;dsimp only[List.take];refine zC2 ?_;refine QM (ju w3.heap.size 1 5 #[O .u8 k]) zA0 zA0 (λW hW _=>?_) (λ(p3:Nat)=>?_)
  ·refine Xe ?_ hW.size;go_simp
  refine zC2 ?_;refine QM (XL w3.heap.size 4 (qQ i 4)) zA0 zA0 (λW hW _=>?_) (λp7=>?_)
  ·refine zl ?_ ((XX i zO W).mono λe w' h=>?_)
   ·go_simp
   obtain⟨u,rfl,⟨A,c,rfl,h1,h2⟩,h3⟩:=h;exact⟨(A,c),rfl,⟨h1,h2.mono hW.size⟩,h3⟩
  obtain⟨A7,c7⟩:=p7;refine zC2 ?_;refine QM (XL w3.heap.size 4 (qQ o 4)) zA0 zA0 (λW hW _=>?_) (λp11=>?_)
  ·refine zl ?_ ((XX o zO W).mono λe w' h=>?_)
   ·go_simp
   obtain⟨u,rfl,⟨A,c,rfl,h1,h2⟩,h3⟩:=h;exact⟨(A,c),rfl,⟨h1,h2.mono hW.size⟩,h3⟩
  obtain⟨A11,c11⟩:=p11;refine zC2 ?_;refine QM (ju w3.heap.size 1 5 #[O .u8 (l.length:Nat)]) zA0 zA0 (λW hW _=>?_) (λ(p17:Nat)=>?_)
  ·refine Xe ?_ hW.size;go_simp
  refine zC2 ?_;refine QM (kG w3.heap.size 6 26 (VD FL)) zA0 zA0 (λW hW hp=>?_) (λ(p20:Nat)=>?_)
  ·obtain⟨f3,_⟩:W.heap[p3]?=D (J #[O .u8 k] 5)/\w3.heap.size<=p3:=(hp 3 zA1).1;obtain⟨f7,_⟩:Bys W W (s A7 4 c7) (qQ i 4)/\_:=(hp 7 zA1).1;obtain⟨f11,_⟩:Bys W W (s A11 4 c11) (qQ o 4)/\_:=(hp 11 zA1).1;obtain⟨f17,_⟩:W.heap[p17]?=D (J #[O .u8 (l.length:Nat)] 5)/\w3.heap.size<=p17:=(hp 17 zA1).1;have hR:VD FL [s p3 1 1,s A7 4 c7,s A11 4 c11,s A2 2 c2,s p17 1 1,s A l.length c] W:=by
    subst hFL;rw[<-ai.out]at f3;rw[<-fZ.out]at f17;refine⟨rfl,λj v m hv hl=>?_⟩;rcases j with _|_|_|_|_|_|j
    cases hv;cases hl;exact Bys.lit (l:=[UInt8.ofNat k]) f3 (by simp[maxLen]);cases hv;cases hl;exact f7;cases hv;cases hl;exact f11;cases hv;cases hl;exact(bP.below hW).more hW.size;cases hv;cases hl;exact Bys.lit (l:=[UInt8.ofNat l.length]) f17 (by simp[maxLen]);cases hv;cases hl;exact(h.out.below (Ext.trans x3 hW)).more (Ext.trans x3 hW).size;simp at hv
   refine Td (cs:=#[s (D ⟨p3,0,E⟩) 1 1,s A7 4 c7,s A11 4 c11,s A2 2 c2,s (D ⟨p17,0,E⟩) 1 1,s A l.length c]) ?_ hW.size rfl ?_
   ·go_simp
   exact VD.stable _ _ _ _ (zN _ _) hR
  simp only[Act.put,qf,qc,qg,qy,Qx,zA,zB,zC];refine QM (XL w3.heap.size (12+l.length) FL.flatten) zA0 zA0 (λW hW hp=>?_) (λp21=>?_)
  ·obtain⟨_,cs,ay,aC,hR⟩:=(hp 20 zA1).1;have hFn:FL.length=6:=by rw[<-hFL];rfl
   refine zl ?_ ((KJ (D ⟨p20,0,E⟩) 6 6 cs.toList FL (by simpa using ay) hFn W (Rd.row aC 6 ay) (λi v l h1 h2=>hR.2 i v l h1 h2) zO (by rw[HL.out];omega)).mono λe w' h=>?_)
   ·go_simp
   rw[HL.out]at h;exact Tn h hW.size
  obtain⟨A21,c21⟩:=p21;refine zC2 ?_;refine ZB (hK _ _ λW hW hF=>?_);obtain⟨f21,g21⟩:Bys W W (s A21 (12+l.length) c21) FL.flatten/\ZK w3 (s A21 (12+l.length) c21):=(hF 21).1;clear hF hK hE;have x4:Ext w W:=x3.trans hW;dsimp only[List.drop];go_wp2;refine bodyPost_ret (v:=U #[s A21 (12+l.length) c21,O .i64 0]) (by simp[results,results203,go_sem]) rfl ⟨_,rfl,⟨_,rfl,A21,c21,rfl,f21,g21.mono (by have:=x3.size;omega)⟩,x4⟩
def Yl(n:Nat)(b:List UInt8):List UInt8:=b++List.replicate (n-b.length) 0
theorem YJ{b:List UInt8}(h:b.length<=n):(Yl n b).length=n:=by simp[Yl];omega
theorem pad_row(n:Nat)(b:List UInt8):List.take 0 (List.map bv (List.replicate n 0)).toArray.toList++List.map bv b++List.drop (0+b.length) (List.map bv (List.replicate n 0)).toArray.toList=(Yl n b).map bv:=by simp[Yl,List.map_replicate,List.drop_replicate]
def Zo(b:List UInt8):List UInt8:=qQ (crc (Yl 124 b)) 4++Yl 124 b
theorem Vr{b:List UInt8}(h:b.length<=124):(Zo b).length=128:=by unfold Zo;rw[List.length_append,QU,YJ h]
set_option maxRecDepth 100000 in
theorem seal_any(A c)(b:List UInt8)(hl:b.length<=124)(w:Q)(h:Bys w w (s A b.length c) b):Calls prog 204 #[s A b.length c] w (zZ (IsB0 w 128 (Zo b)) w):=by
 have hmk:∀w,(Instr.makeSlice 26 (O .i64 124) (O .i64 124)).run prog w=.ok (s (D ⟨w.heap.size,0,E⟩) 124 124) (w.alloc (J ((List.replicate 124 (0:UInt8)).map bv).toArray 5)):=λ_=>zQ;have hsz:(Tryz.prog.info? 5).map (·.size)=D 1:=zQ;have hcr:crc (Yl 124 b)<4294967296:=qjf _;have hd:decide ((b.length:Int)>124)=X:=decide_eq_false zO;replace h:=zH h;go_enter func204,ntmps204;go_wp2_with fail;generalize aA:I w _=w1;have x1:Ext w w1:=aA▸zN _ _;have r1:w1.heap[w.heap.size]?=D (J ((List.replicate 124 (0:UInt8)).map bv).toArray 5 (0,0)):=aA▸zI _ _ _ rfl;clear aA hmk;have dU:=GX (P:=prog) w1 26 26 3 5 w.heap.size 0 124 124 A c b _ _ underlying26 hsz r1 (h.out.below x1) hl zA2;rw[dU];clear dU;have r2:=setRow_heap w1 w.heap.size _ (List.take 0 (List.map bv (List.replicate 124 0)).toArray.toList++List.map bv b++List.drop (0+b.length) (List.map bv (List.replicate 124 0)).toArray.toList).toArray _ _ r1;have x2:Below w w (w1.setRow w (List.take 0 (List.map bv (List.replicate 124 0)).toArray.toList++List.map bv b++List.drop (0+b.length) (List.map bv (List.replicate 124 0)).toArray.toList).toArray):=
  Below.grown x1 (qab _ _ _) x1.size (λg e=>by cases e;exact zM _)
 generalize cO:w1.setRow w.heap.size (List.take 0 (List.map bv (List.replicate 124 0)).toArray.toList++List.map bv b++List.drop (0+b.length) (List.map bv (List.replicate 124 0)).toArray.toList).toArray=w2 at*;rw[pad_row]at r2;have hp:∀W,Ext w2 W->Bys W W.heap.size (s w 124 124) (Yl 124 b):=λW hW=>by refine⟨_,124,by rw[YJ hl],Nat.le_of_eq (YJ hl),zA7,by rw[YJ hl];simp[YJ hl],λ_=>⟨w.heap.size,0,rfl,?_,λj u hu=>?_⟩⟩;have:=(zG.1 (qb r2 hW)).1;omega;rw[Nat.zero_add,qa (qb r2 hW)];simpa using hu
 clear cO r1 x1;have HO:=zH (λW (hW:Ext w2 W)=>qfq _ (Yl 124 b) W (hp W hW) (by rw[YJ hl];omega));replace⟨hp,r2⟩:=zH2 hp r2;go_wp2_with fail;refine(HO.out _ (Ext.refl _)).mono ?_;rintro e w3 ⟨rfl,sS⟩;have x3:Ext w2 w3:=sS;clear sS;have HF:=zH (XX (crc (Yl 124 b)) hcr w3);go_wp2_with fail;refine HF.out.mono ?_;rintro e w4 ⟨u4,rfl,⟨A4,c4,rfl,hu4,hf4⟩,dM⟩;have x4:Ext w2 w4:=x3.trans dM;clear HF dM;go_wp2_with fail;generalize aS:I w4 _=w5;have x45:Ext w4 w5:=aS▸zN _ _;have r5:w5.heap[w4.heap.size]?=D (J #[s A4 4 c4,s w 124 124] 26):=aS▸zI _ _ _ rfl;clear aS;have x5:=x4.trans x45;have hfl:[qQ (crc (Yl 124 b)) 4,Yl 124 b].flatten=Zo b:=by simp[Zo]
 have HC:=KJ (D ⟨w4.heap.size,0,E⟩) 2 2 [s A4 4 c4,s (D ⟨w.heap.size,0,E⟩) 124 124] [qQ (crc (Yl 124 b)) 4,Yl 124 b] rfl rfl w5 ⟨rfl,λ_=>⟨w4.heap.size,0,rfl,(zG.1 r5).1,λj u hu=>by rw[Nat.zero_add,qa r5];simpa using hu⟩⟩
  (λi v l hv xJ=>by
   rcases i with _|_|i
   cases hv;cases xJ;exact(hu4.below x45).more x45.size;cases hv;cases xJ;exact hp.out w5 x5
   ·simp at hv) zO (by rw[hfl,Vr hl];omega)
 rw[hfl,Vr hl]at HC;replace⟨HC,hu4⟩:=zH2 HC hu4;go_wp2_with fail;refine HC.out.mono ?_;rintro e w6 ⟨u6,rfl,aB,fU⟩;have x6:Below w w w6:=x2.trans (Below.mono (Ext.trans x5 fU) x2.size);have HI:=zH ((IsB.of_own aB));go_wp2_with fail;refine bodyPost_ret (v:=U #[u6,O .i64 0]) (by simp[results,results204,go_sem]) rfl ⟨_,rfl,⟨u6,rfl,?_⟩,x6⟩;obtain⟨A',c',h1,h2,h3⟩:=HI.out;exact⟨A',c',h1,h2,h3.mono (by have:=x2.size;have:=x5.size;omega)⟩
def Vt(lvl:Int)(n:Nat)(xs:List It)(k:Nat):List UInt8:=78::UInt8.ofNat lvl.toNat::UInt8.ofNat n::zh (xs.take k)
theorem qiD(lvl:Int)(n:Nat){k:Nat}(hk:k<xs.length):Vt lvl n xs (k+1)=Vt lvl n xs k++ZP xs[k]:=by unfold Vt zh;rw[List.take_succ_eq_append_getElem hk,List.flatMap_append];simp only[List.flatMap_cons,List.flatMap_nil,List.append_nil,List.cons_append]
theorem Xz(lvl:Int)(xs:List It):Vt lvl xs.length xs xs.length=QA lvl xs:=by unfold Vt QA;rw[List.take_length]
theorem XA(lvl:Int)(n:Nat)(k:Nat)(h:∀x∈xs,Zb x)(hl:xs.length<=5):(Vt lvl n xs k).length<=123:=by
 have h1:=Xg (xs.take k) (λx hx=>h x (List.mem_of_mem_take hx));have h2:(xs.take k).length<=xs.length:=by rw[List.length_take];omega
 unfold Vt;simp only[List.length_cons];omega
theorem Jb(h:Qj lvl xs=F):0<=lvl/\lvl<6/\xs.length<=5/\∀x∈xs,itB x.r x.val.length=F:=by unfold Qj at h;rw[Bool.and_eq_true]at h;have h1:0<=lvl/\lvl<6/\xs.length<=5/\(0<lvl->xs.length≠0):=of_decide_eq_true h.1;refine⟨h1.1,h1.2.1,h1.2.2.1,λx hx=>?_⟩;obtain⟨i,hi,rfl⟩:=List.getElem_of_mem hx;have h2:=List.all_eq_true.1 h.2 i (List.mem_range.2 hi);unfold qba at h2;rw[zL hi]at h2;simp only[Bool.and_eq_true]at h2;exact h2.1.1
theorem qdb(h2:a.tmps[2]?.getD undef=u)(h3:a.tmps[3]?.getD undef=v)(hd:a.defers=[])(hR:R (.returned (U #[u,v])) W):bodyPost prog Tryz.f195 R .ret a W:=by refine bodyPost_ret (v:=U #[u,v]) ?_ hd hR;simp[results,results195,go_sem,h2,h3]
structure NWr(lvl:Int)(xs:List It)(w2:Q)(v i:Z)(wr:Q):Prop where
 ex:∃k:Nat,k<=xs.length/\i=O .i64 (k:Int)/\wr.ownsRow w2 5 1 v (Vt lvl xs.length xs k).length ((Vt lvl xs.length xs k).map bv)/\Ext w2 wr
theorem qjU(lvl:Int)(A n c)(xs:List It)(w:Q)(hx:Its w w (s A n c) xs)(hm:Qj lvl xs=X):Calls prog 195 #[jW lvl A n c] w (Ret (U #[s E 0 0,O .i64 8]) w):=by have HC:=zH (λW (hW:Ext w W)=>Kt lvl A n c xs W (hx.ext hW));rw[hm,show Va X=8 from rfl]at HC;clear hx;go_enter func195,ntmps195;go_wp2_with fail;generalize aA:I w _=w1;have x1:Ext w w1:=aA▸zN _ _;clear aA;refine(HC.out w1 x1).mono ?_;rintro e w2 ⟨rfl,hB⟩;have x2:Below w w w2:=Ext.trans x1 hB;clear hB;go_wp2;exact qdb rfl rfl rfl ⟨rfl,x2⟩
set_option maxRecDepth 100000 in
theorem qda(lvl:Int)(A n c)(xs:List It)(w:Q)(hx:Its w w (s A n c) xs)(hm:Qj lvl xs=F)(ho:∀x∈xs,Zb x):Calls prog 195 #[jW lvl A n c] w (zZ (IsB0 w 128 (Zo (QA lvl xs))) w):=by
 have HC:=zH (λW (hW:Ext w W)=>Kt lvl A n c xs W (hx.ext hW));rw[hm,show Va F=0 from rfl]at HC;obtain⟨lq,pX,hl5,hib⟩:=Jb hm;obtain⟨hn,di,eP,hA⟩:=hx.at_;subst hn;obtain⟨L,rfl⟩:=Int.eq_ofNat_of_zero_le lq;have hcv:IntKind.u8.wrap ((xs.length:Nat):Int)=((xs.length:Nat):Int):=by simp[IntKind.wrap,IntKind.bits,IntKind.signed];omega
 have az:IntKind.u8.wrap (L:Int)=(L:Int):=by simp[IntKind.wrap,IntKind.bits,IntKind.signed];omega
 have eH:(Vt (L:Int) xs.length xs 0).map bv=[O .u8 78,O .u8 (L:Int),O .u8 (xs.length:Nat)]:=by simp[Vt,zh,bv];omega
 have hX:=zH hx;have hO:=zH ho;have hI:=zH hib;clear hx ho hib hm;go_enter func195,ntmps195;go_wp2_with fail;generalize aA:I w _=w1;have x1:Ext w w1:=aA▸zN _ _;have r1:w1.heap[w.heap.size]?=D (J #[L,s A xs.length c] 113):=aA▸zI _ _ _ rfl;clear aA;refine(HC.out w1 x1).mono ?_;rintro e w2 ⟨rfl,hB⟩;have x2:Below w w w2:=Ext.trans x1 hB;have r2:=qb r1 hB;have k2:=qa r2;clear hB r1 x1 HC;go_upto_region 5 with fail;generalize aP:I w2 _=w3;have x3:Ext w2 w3:=aP▸zN _ _;have o3:w3.ownsRow w2 5 1 (s w2 3 3) (Vt (L:Int) xs.length xs 0).length ((Vt (L:Int) xs.length xs 0).map bv):=by rw[eH,<-aP];exact World.ownsRow_lit (base:=w2.heap.size) (e:=5) (size:=1) w2 #[O .u8 78,O .u8 (L:Int),O .u8 (xs.length:Nat)] 3 (zM _) zA7 rfl
 have r3:=qb r2 x3;have k3:=qa r3;clear aP k2 eH;have I0:NWr (L:Int) xs w2 (s w2 3 3) (O .i64 0) w3:=⟨0,Nat.zero_le _,rfl,o3,x3⟩
 replace I0:=zH I0;clear o3;go_wp2_with fail;clear k3 r3;go_loopw [5,26] (λv i wr=>NWr (L:Int) xs w2 v i wr) (λ_ i _=>xs.length-(intOf i).toNat)
 case atStart=>exact I0.out
 case round=>
  obtain⟨k,hk,rfl,own,xr⟩:=hrel.ex;clear hrel I0;by_cases hlt:k<xs.length
  ·have aO:=hlt;obtain⟨b,off,rfl,hb⟩:=hA zO;have xw:Ext w wr:=Ext.trans x2 xr;obtain⟨A',c',d0,d1,d2,d3,d4,af⟩:=(hX.out.ext xw).item k aO;have hok:=hO.out xs[k] (List.getElem_mem aO);have hib:=hI.out xs[k] (List.getElem_mem aO);have rO:=zH (qiD (L:Int) xs.length aO);have mO:=XA (L:Int) xs.length k hO.out hl5;have ax:xs[k].val.length<=12:=hok.2.2.2.2;have HW:=zH (λW (hW:Ext wr W)=>qjH xs[k] hok hib A' c' W ((af.below hW).more hW.size));generalize xs[k]=x at*;replace⟨own,mO⟩:=zH2 own mO;clear af hok hib;go_wp2_with fail;generalize hw4:I wr _=w4;have x4:Ext wr w4:=hw4▸zN _ _;clear hw4 d0 d1 d2 d3 d4;refine(HW.out w4 x4).mono ?_;rintro e w5 ⟨u,rfl,⟨u5,rfl,A5,c5,rfl,hb5,hf5⟩,hB⟩;have x5:Ext wr w5:=x4.trans hB;have own5:=zu own.out x5;clear hB x4 own;obtain⟨i0,hi,aZ,aT,aX⟩:=info_parts Tryz.info_u8;obtain⟨A6,c6,e6,hc6,ry,hr6⟩:=hb5;simp only[Value.slice.injEq]at e6;obtain⟨rfl,e7,rfl⟩:=e6;go_wp2_with (at_builtin;refine qV ?_);refine Qm.go (QB _ rfl (.tmp 35) (.tmp 36) 26 rfl w2.heap.size 5 i0 (O .u8 0) 1 1 underlying26 hi aZ aT aX rfl zA1 _ _ _ rfl own5 w5.heap.size A5 _ c5 ((ZP x).map bv) rfl hr6 (Gi _) (by have:=mO.out;omega) zA1 (Nat.le_trans xr.size x5.size) ?_);intro v8 w8 own8 _ hB8 _;have IR:NWr (L:Int) xs w2 v8 (O .i64 ((k:Int)+1)) w8:=⟨k+1,aO,rfl,by rw[rO.out,List.map_append,List.length_append];exact own8,Below.trans (Ext.trans xr x5) hB8⟩
   replace IR:=zH IR;clear own8 hB8 hi aZ aT aX own5;go_wp2_with fail;refine⟨IR.out,?_⟩;simp[intOf];omega
  obtain rfl:k=xs.length:=zO;rw[Xz]at own;have lu:(QA (L:Int) xs).length<=124:=by have:=XA (L:Int) xs.length xs.length hO.out hl5;rw[Xz]at this;omega
  obtain⟨A6,c6,e6,hc6,ry,hr6⟩:=Bys.of_own own;have af:=Bys.of_own own;subst e6;have HS:=zH (seal_any A6 c6 (QA (L:Int) xs) lu wr af);have xw:Below w w wr:=Ext.trans x2 xr;clear af hr6 own;replace xr:=zH xr;go_wp2_with fail;refine HS.out.mono ?_;rintro e w7 ⟨u,rfl,⟨u7,rfl,hI7⟩,hB⟩;have x7:Below w w w7:=xw.trans (Below.mono hB xw.size);have hI8:IsB0 w 128 (Zo (QA (L:Int) xs)) (U #[u7,O .i64 0]) w7:=by obtain⟨A',c',q1,q2,q3⟩:=hI7;exact⟨u7,rfl,A',c',q1,q2,q3.mono xw.size⟩
  clear hB hI7;replace hI8:=zH hI8;go_wp2_with fail;exact qdb rfl rfl rfl ⟨_,rfl,hI8.out,x7⟩
end Go.Proofs.YtmeadnlmepcmbaaGreat
