/- Lemmas of the proof. -/
import Derived.Test.YtmeadnlmepcmbaaGreatZT03
set_option linter.all false
set_option maxHeartbeats 8000000
open Go.Proofs.Tryz
open Go.Value renaming slice→y,int→D
open Go.World renaming setCell→E,alloc→Oa
open Go.IntKind renaming u32→F,i64→X
open Option renaming some→I,none→M
open Go renaming Value→O,World→Y
open Go.Obj renaming cells→Q
open Bool renaming false→U,true→Z
namespace Go.Proofs.YtmeadnlmepcmbaaGreat
open Go.RowKit
variable {lo n lo' n' B j base m B' c k:Nat}{ty e:TypeId}{φ:List Value->World->Prop}{P:Program}{o:Oper}{a:Act}{W w w':World}{cs:Array Value}{l:List UInt8}{vs:Nat->Option Value}{v v1 v2 v3 v4:Value}{x:It}{xs ys:List Value}{bs:List (List UInt8)}{A:OA}{ws:List (Int×List UInt8)}{α:Type}
structure Vol where
 id:Int
 root:Int
 fz:Bool
 frm:Int
deriving DecidableEq
def QS(v:Vol):List UInt8:=qQ v.root.toNat 2++[if v.fz then 1 else 0]++qQ v.frm.toNat 4
theorem kO(v:Vol):(QS v).length=7:=by simp[QS,QU]
def JG(x:It):Vol:=⟨x.i,ZH x.val 0 2,decide ((x.val[2]?.getD 0).toNat=1),ZH x.val 3 4⟩
def Ks(x:It):Bool:=decide (x.val.length=7)&&XJ 1 x.i 0 0 x.k x.i x.o x.r (QS (JG x)) x.val
abbrev vV(v:Vol):O:=.agg #[D F v.id,D X v.root,.bool v.fz,D F v.frm]
def qeu(v:Vol):Prop:=(0<=v.id/\v.id<4294967296)/\(0<=v.root/\v.root<65536)/\(0<=v.frm/\v.frm<4294967296)
def kG(lo n:Nat)(ty:TypeId)(φ:List O->Y->Prop):Qb:=⟨Nat,λb=>y b n n,λb W=>lo<=b/\∃cs:Array O,cs.size=n/\W.heap[b]?=I (Q cs ty)/\φ cs.toList W⟩
theorem Qx(lo n:Nat)(ty:TypeId)(φ:List O->Y->Prop)(b:Nat):(kG lo n ty φ).f b=y b n n:=rfl
theorem Ku(hφ:∀l,za (φ l)):∀p,za ((kG lo n ty φ).φ p):=λp W W' he ⟨h1,cs,h2,h3,h4⟩=>
 ⟨h1,cs,h2,(Below.block he p (zG.1 h3).1).trans h3,hφ _ _ _ he h4⟩
theorem Td(hr:(execOp a.eval o).run P W=.ok (.value (y W n' n')) (W.alloc (Q cs ty)))(aQ:lo'<=W)(hn:cs.size=n')(hφ:φ cs.toList (W.alloc (Q cs ty))):vG P o a W (kG lo' n' ty φ):=by unfold vG;rw[hr];exact⟨W.heap.size,rfl,⟨aQ,cs,hn,zI _ _ _ rfl,hφ⟩,zN _ _⟩
def VD(ls:List (List UInt8))(vs:List O)(W:Y):Prop:=vs.length=ls.length/\∀(i:Nat)(v:O)(l:List UInt8),vs[i]?=v->ls[i]?=l->Bys W W v l
theorem VD.stable(ls:List (List UInt8))(vs:List O):za (VD ls vs):=λ_ _ he h=>⟨h.1,λi v l h1 h2=>((h.2 i v l h1 h2).below he).more he.size⟩
theorem Bys.lit{b:Nat}(h:W.heap[b]?=I (Q (l.map bv).toArray ty (0,0)))(hl:l.length<=maxLen):Bys W W (y b l.length l.length) l:=
 ⟨_,_,rfl,zM _,hl,zA3,λ_=>⟨b,0,rfl,(zG.1 h).1,λj u hu=>by rw[qa h];simpa using hu⟩⟩
theorem Rd.row{b:Nat}(h:W.heap[b]?=I (Q cs ty))(n:Nat)(hn:cs.size=n):Rd W W 1 b n cs.toList:=
 ⟨by simp[hn],λ_=>⟨b,0,rfl,(zG.1 h).1,λj u hu=>by rw[qa h];simpa using hu⟩⟩
set_option maxRecDepth 100000 in
theorem qlc(v:Vol)(hv:qeu v)(w:Y):Calls prog 66 #[vV v] w (zZ (IsI w 1 v.id 0 0 (QS v)) w):=by
 obtain⟨vi,vr,vf,vm⟩:=v;obtain⟨⟨hi1,dK⟩,⟨oP,sH⟩,⟨hm1,iR⟩⟩:=hv;dsimp only at*;obtain⟨r,rfl⟩:=Int.eq_ofNat_of_zero_le oP;obtain⟨m,rfl⟩:=Int.eq_ofNat_of_zero_le hm1;have HB:Hid (QS ⟨vi,r,vf,m⟩=[qQ r 2,[if vf then 1 else 0],qQ m 4].flatten):=by refine zH ?_;simp[QS]
 have HL:Hid ((QS ⟨vi,r,vf,m⟩).length=7):=zH (kO _);have l2:=QU 2 r;have l4:=QU 4 m;replace⟨l2,l4⟩:=zH2 l2 l4;generalize QS ⟨vi,r,vf,m⟩=vb at*;cases vf
 ·go_enter func66,ntmps66;go_wp2_with fail;generalize aA:(Oa (Oa _ _) _)=w1;have b1:Ext w w1:=by rw[<-aA];exact(zN _ _).trans (zN _ _)
  have r1:w1.heap[w.heap.size]?=I (Q #[D F vi,r,.bool U,D F m] 36):=by rw[<-aA];exact(zK _ _ _ zA3).trans (zI _ _ _ rfl)
  have q1:w1.heap[w.heap.size+1]?=I (Q #[D .u8 0,D F 0,D F 0,D X 0,y M 0 0] 51):=aA▸zI _ _ _ zA3;clear aA;refine(qgz r zO _).mono ?_;rintro e w2 ⟨u,rfl,⟨u2,rfl,A2,c2,rfl,bP,yD⟩,hB⟩;have b2:Ext w w2:=Ext.trans b1 hB;have r2:=qb r1 hB;have q2:=qb q1 hB;have k2:=qa r2;have s2:w.heap.size+1<w2:=(zG.1 q2).1;clear hB b1 r1 q1;go_wp2;have hE:∀W,Ext w2 W->∀j,W.cell? ⟨w,j,M⟩=#[D F vi,r,.bool U,D F m][j]?:=λW h=>qa (qb r2 h);clear k2;refine zX (qP [(5,ju w2.heap.size 1 5 #[D .u8 0]),(8,XL w2.heap.size 4 (qQ m 4)),(9,kG w2.heap.size 3 26 (VD [qQ r 2,[0],qQ m 4])),(10,XL w2.heap.size 7 vb)]) 12 zQ zQ zQ zA1 zQ zQ ?st ?walk
  case st=>exact Zc (by simp only[List.forall_mem_cons];exact⟨Jd _ _ _ _,Jt _ _ _,Ku (VD.stable _),Jt _ _ _,λ_ h=>by cases h⟩)
  case walk=>
   intro K hK;dsimp only[List.take];refine zB4 ?_;refine QM (ju w2.heap.size 1 5 #[D .u8 0]) zA0 zA0 (λW hW _=>?_) (λ(p5:Nat)=>?_)
   ·refine Xe ?_ hW.size;go_simp
   refine zB4 ?_;refine QM (XL w2.heap.size 4 (qQ m 4)) zA0 zA0 (λW hW _=>?_) (λp8=>?_)
   ·refine zl ?_ ((XX m zO W).mono λe w' h=>?_)
    ·go_simp
    obtain⟨u,rfl,⟨A,c,rfl,h1,h2⟩,h3⟩:=h;exact⟨(A,c),rfl,⟨h1,h2.mono hW.size⟩,h3⟩
   obtain⟨A8,c8⟩:=p8;simp only[Act.put,qf,qc,qg,qy,Qx,QT,zA,zB,zC];refine QM (kG w2.heap.size 3 26 (VD [qQ r 2,[0],qQ m 4])) zA0 zA0 (λW hW hp=>?_) (λ(p9:Nat)=>?_)
   ·have f5:=(hp 5 zA1).1;have f8:=(hp 8 zA1).1;obtain⟨f5,_⟩:W.heap[p5]?=I (Q #[D .u8 0] 5)/\w2.heap.size<=p5:=f5;obtain⟨f8,_⟩:Bys W W (y A8 4 c8) (qQ m 4)/\_:=f8;have hR:VD [qQ r 2,[0],qQ m 4] [y A2 2 c2,y p5 1 1,y A8 4 c8] W:=by
     refine⟨rfl,λi v l hv hl=>?_⟩;have hMQ:Bys W W (y p5 1 1) [(0:UInt8)]:=Bys.lit (l:=[(0:UInt8)]) f5 (by simp[maxLen]);rcases i with _|_|_|i
     simp at hv hl;subst hv;subst hl;exact(bP.below hW).more hW.size;simp at hv hl;subst hv;subst hl;exact hMQ;simp at hv hl;subst hv;subst hl;exact f8;simp at hv
    refine Td (cs:=#[y A2 2 c2,y (I ⟨p5,0,M⟩) 1 1,y A8 4 c8]) ?_ hW.size rfl ?_
    ·go_simp
    exact VD.stable _ _ _ _ (zN _ _) hR
   simp only[Act.put,qf,qc,qg,qy,Qx,QT,zA,zB,zC];refine QM (XL w2.heap.size 7 vb) zA0 zA0 (λW hW hp=>?_) (λp10=>?_)
   ·obtain⟨_,cs,ay,aC,hR⟩:=(hp 9 zA1).1;have hlen:[qQ r 2,[(0:UInt8)],qQ m 4].flatten.length=7:=by simp[l2.out,l4.out]
    refine zl ?_ ((KJ (I ⟨p9,0,M⟩) 3 3 cs.toList [qQ r 2,[0],qQ m 4] (by simpa using ay) rfl W (Rd.row aC 3 ay) (λi v l h1 h2=>hR.2 i v l h1 h2) zO zO).mono λe w' h=>?_)
    ·go_simp
    rw[hlen]at h;obtain⟨p,h1,h2,h3⟩:=Tn h hW.size;have HB':=HB.out;simp only[Bool.false_eq_true,if_false]at HB';rw[<-HB']at h1 h2;exact⟨p,h1,h2,h3⟩
   obtain⟨A10,c10⟩:=p10;refine zB4 ?_;refine ZB (hK _ _ λW hW hF=>?_);obtain⟨f10,g10⟩:Bys W W (y A10 7 c10) vb/\ZK w2 (y A10 7 c10):=(hF 10).1;clear hF hK hE;have b3:Ext w W:=b2.trans hW;have q3:=qb q2 hW;have kq:=qa q3;have fq:=qe q3;dsimp only[List.drop];go_wp2;have mV:w.heap.size+1<w2:=s2;have af:=((((f10.setCell g10 (p:=⟨w.heap.size+1,0,M⟩) mV (D .u8 1)).setCell g10 (p:=⟨w.heap.size+1,1,M⟩) mV (D F vi)).setCell g10 (p:=⟨w.heap.size+1,2,M⟩) mV (D F 0)).setCell g10 (p:=⟨w.heap.size+1,3,M⟩) mV (D X 0)).setCell g10 (p:=⟨w.heap.size+1,4,M⟩) mV (y A10 7 c10);have rf:=qi (qi (qi (qi (qi q3 0 (D .u8 1)) 1 (D F vi)) 2 (D F 0)) 3 (D X 0)) 4 (y A10 7 c10);have b3':Below w w W:=b3;have bf:Below w w (((((W.setCell (w,1,0) (D .u8 1)).setCell (w,1,1) (D F vi)).setCell (w,1,2) (D F 0)).setCell (w,1,3) (D X 0)).setCell (w,1,4) (y A10 7 c10)):=zA5;have hsz:(((((W.setCell (w,1,0) (D .u8 1)).setCell (w,1,1) (D F vi)).setCell (w,1,2) (D F 0)).setCell (w,1,3) (D X 0)).setCell (w,1,4) (y A10 7 c10)).heap.size=W:=zA3;generalize ah:(E (E (E (E (E W _ _) _ _) _ _) _ _) _ _)=wf at*;have kf:=qa rf;rw[<-hsz]at af;exact bodyPost_ret (v:=KR 1 vi 0 0 A10 7 c10) (by simp[results,results66,go_sem,kf]) rfl ⟨_,rfl,⟨A10,c10,by rw[HL.out],by rw[HL.out];exact af,by rw[HL.out];exact g10.mono zO⟩,bf⟩
 go_enter func66,ntmps66;go_wp2_with fail;generalize aA:(Oa (Oa _ _) _)=w1;have b1:Ext w w1:=by rw[<-aA];exact(zN _ _).trans (zN _ _)
 have r1:w1.heap[w.heap.size]?=I (Q #[D F vi,r,.bool Z,D F m] 36):=by rw[<-aA];exact(zK _ _ _ zA3).trans (zI _ _ _ rfl)
 have q1:w1.heap[w.heap.size+1]?=I (Q #[D .u8 0,D F 0,D F 0,D X 0,y M 0 0] 51):=aA▸zI _ _ _ zA3;clear aA;refine(qgz r zO _).mono ?_;rintro e w2 ⟨u,rfl,⟨u2,rfl,A2,c2,rfl,bP,yD⟩,hB⟩;have b2:Ext w w2:=Ext.trans b1 hB;have r2:=qb r1 hB;have q2:=qb q1 hB;have k2:=qa r2;have s2:w.heap.size+1<w2:=(zG.1 q2).1;clear hB b1 r1 q1;go_wp2;have hE:∀W,Ext w2 W->∀j,W.cell? ⟨w,j,M⟩=#[D F vi,r,.bool Z,D F m][j]?:=λW h=>qa (qb r2 h);clear k2;refine zX (qP [(5,ju w2.heap.size 1 5 #[D .u8 1]),(8,XL w2.heap.size 4 (qQ m 4)),(9,kG w2.heap.size 3 26 (VD [qQ r 2,[1],qQ m 4])),(10,XL w2.heap.size 7 vb)]) 12 zQ zQ zQ zA1 zQ zQ ?st ?walk
 case st=>exact Zc (by simp only[List.forall_mem_cons];exact⟨Jd _ _ _ _,Jt _ _ _,Ku (VD.stable _),Jt _ _ _,λ_ h=>by cases h⟩)
 case walk=>
  intro K hK;dsimp only[List.take];refine zB4 ?_;refine QM (ju w2.heap.size 1 5 #[D .u8 1]) zA0 zA0 (λW hW _=>?_) (λ(p5:Nat)=>?_)
  ·refine Xe ?_ hW.size;go_simp
  refine zB4 ?_;refine QM (XL w2.heap.size 4 (qQ m 4)) zA0 zA0 (λW hW _=>?_) (λp8=>?_)
  ·refine zl ?_ ((XX m zO W).mono λe w' h=>?_)
   ·go_simp
   obtain⟨u,rfl,⟨A,c,rfl,h1,h2⟩,h3⟩:=h;exact⟨(A,c),rfl,⟨h1,h2.mono hW.size⟩,h3⟩
  obtain⟨A8,c8⟩:=p8;simp only[Act.put,qf,qc,qg,qy,Qx,QT,zA,zB,zC];refine QM (kG w2.heap.size 3 26 (VD [qQ r 2,[1],qQ m 4])) zA0 zA0 (λW hW hp=>?_) (λ(p9:Nat)=>?_)
  ·have f5:=(hp 5 zA1).1;have f8:=(hp 8 zA1).1;obtain⟨f5,_⟩:W.heap[p5]?=I (Q #[D .u8 1] 5)/\w2.heap.size<=p5:=f5;obtain⟨f8,_⟩:Bys W W (y A8 4 c8) (qQ m 4)/\_:=f8;have hR:VD [qQ r 2,[1],qQ m 4] [y A2 2 c2,y p5 1 1,y A8 4 c8] W:=by
    refine⟨rfl,λi v l hv hl=>?_⟩;have hMQ:Bys W W (y p5 1 1) [(1:UInt8)]:=Bys.lit (l:=[(1:UInt8)]) f5 (by simp[maxLen]);rcases i with _|_|_|i
    simp at hv hl;subst hv;subst hl;exact(bP.below hW).more hW.size;simp at hv hl;subst hv;subst hl;exact hMQ;simp at hv hl;subst hv;subst hl;exact f8;simp at hv
   refine Td (cs:=#[y A2 2 c2,y (I ⟨p5,0,M⟩) 1 1,y A8 4 c8]) ?_ hW.size rfl ?_
   ·go_simp
   exact VD.stable _ _ _ _ (zN _ _) hR
  simp only[Act.put,qf,qc,qg,qy,Qx,QT,zA,zB,zC];refine QM (XL w2.heap.size 7 vb) zA0 zA0 (λW hW hp=>?_) (λp10=>?_)
  ·obtain⟨_,cs,ay,aC,hR⟩:=(hp 9 zA1).1;have hlen:[qQ r 2,[(1:UInt8)],qQ m 4].flatten.length=7:=by simp[l2.out,l4.out]
   refine zl ?_ ((KJ (I ⟨p9,0,M⟩) 3 3 cs.toList [qQ r 2,[1],qQ m 4] (by simpa using ay) rfl W (Rd.row aC 3 ay) (λi v l h1 h2=>hR.2 i v l h1 h2) zO zO).mono λe w' h=>?_)
   ·go_simp
   rw[hlen]at h;obtain⟨p,h1,h2,h3⟩:=Tn h hW.size;have HB':=HB.out;simp only[if_false,if_true]at HB';rw[<-HB']at h1 h2;exact⟨p,h1,h2,h3⟩
  obtain⟨A10,c10⟩:=p10;refine zB4 ?_;refine ZB (hK _ _ λW hW hF=>?_);obtain⟨f10,g10⟩:Bys W W (y A10 7 c10) vb/\ZK w2 (y A10 7 c10):=(hF 10).1;clear hF hK hE;have b3:Ext w W:=b2.trans hW;have q3:=qb q2 hW;have kq:=qa q3;have fq:=qe q3;dsimp only[List.drop];go_wp2;have mV:w.heap.size+1<w2:=s2;have af:=((((f10.setCell g10 (p:=⟨w.heap.size+1,0,M⟩) mV (D .u8 1)).setCell g10 (p:=⟨w.heap.size+1,1,M⟩) mV (D F vi)).setCell g10 (p:=⟨w.heap.size+1,2,M⟩) mV (D F 0)).setCell g10 (p:=⟨w.heap.size+1,3,M⟩) mV (D X 0)).setCell g10 (p:=⟨w.heap.size+1,4,M⟩) mV (y A10 7 c10);have rf:=qi (qi (qi (qi (qi q3 0 (D .u8 1)) 1 (D F vi)) 2 (D F 0)) 3 (D X 0)) 4 (y A10 7 c10);have b3':Below w w W:=b3;have bf:Below w w (((((W.setCell (w,1,0) (D .u8 1)).setCell (w,1,1) (D F vi)).setCell (w,1,2) (D F 0)).setCell (w,1,3) (D X 0)).setCell (w,1,4) (y A10 7 c10)):=zA5;have hsz:(((((W.setCell (w,1,0) (D .u8 1)).setCell (w,1,1) (D F vi)).setCell (w,1,2) (D F 0)).setCell (w,1,3) (D X 0)).setCell (w,1,4) (y A10 7 c10)).heap.size=W:=zA3;generalize ah:(E (E (E (E (E W _ _) _ _) _ _) _ _) _ _)=wf at*;have kf:=qa rf;rw[<-hsz]at af;exact bodyPost_ret (v:=KR 1 vi 0 0 A10 7 c10) (by simp[results,results66,go_sem,kf]) rfl ⟨_,rfl,⟨A10,c10,by rw[HL.out],by rw[HL.out];exact af,by rw[HL.out];exact g10.mono zO⟩,bf⟩
def qm:Rel where
 rel:=Ext
 refl':=Ext.refl
 trans':=Ext.trans
 drew':=Ext.drew
theorem Qr{φ:Y->Prop}(h:za φ):qS qm φ:=λW W' he=>h W W' he
theorem Jq(hr:(execOp a.eval o).run P W=.ok (.value (.pointer W)) (W.alloc (Q cs ty)))(aQ:lo'<=W):Qs qm P o a W (Ju lo' ty cs):=by unfold Qs;rw[hr];exact⟨W.heap.size,rfl,⟨zI _ _ _ rfl,aQ⟩,zN _ _⟩
def Vv(B:Nat)(ty:TypeId)(vs:Nat->Option O):Rel where
 rel W W':=W.grownBy W' (I B)/\∀cs,W.heap[B]?=I (Q cs ty)->∃cs',W'.heap[B]?=I (Q cs' ty)/\cs'.size=cs.size/\∀j,cs'[j]?=cs[j]?\/(vs j≠M/\cs'[j]?=vs j)
 refl' W:=⟨World.grownBy.refl _ _,λcs h=>⟨cs,h,rfl,λ_=>.inl rfl⟩⟩
 trans' h k:=⟨h.1.trans k.1,λcs hc=>by
  obtain⟨c1,h1,h2,h3⟩:=h.2 cs hc;obtain⟨c2,k1,k2,k3⟩:=k.2 c1 h1;refine⟨c2,k1,k2.trans h2,λj=>?_⟩;rcases k3 j with e|e
  rw[e];exact h3 j
  ·exact .inr e⟩
 drew' W:=⟨⟨rfl,rfl,rfl,zM _,λ_ _ _=>rfl⟩,λcs h=>⟨cs,h,rfl,λ_=>.inl rfl⟩⟩
section
variable {B:Nat} {ty:TypeId} {vs:Nat->Option Value}
theorem qaY{W W':Y}(h:Ext W W'):(Vv B ty vs).r W W':=⟨QP h _,λcs hc=>⟨cs,qb hc h,rfl,λ_=>.inl rfl⟩⟩
theorem Gj{W W':Y}(h:(Vv B ty vs).r W W'){p:Addr}{u:O}(hp:p.block≠B)(hc:W.cell? p=u):W'.cell? p=u:=
 World.grownBy.cell h.1 hc (λx=>hp (by simpa using x))
theorem ZA{W W':Y}(h:(Vv B ty vs).r W W'){b:Nat}{o:Obj}(hp:b≠B)(hc:W.heap[b]?=o):W'.heap[b]?=o:=
 (h.1.block b (zG.1 hc).1 (λx=>hp (by simpa using x))).trans hc
theorem qhi{W:Y}{cs:Array O}{j:Nat}{v:O}(h:W.heap[B]?=I (Q cs ty))(hv:vs j=v)(hj:j<cs.size):(Vv B ty vs).r W (W.setCell (B,j) v)/\(W.setCell (B,j) v).cell? (B,j)=v:=by have hr:=qi h j v;refine⟨⟨⟨rfl,rfl,rfl,zA3,λk _ hk=>zJ _ _ _ _ (λe=>hk (by simp at e;rw[e]))⟩,λcs' hc=>?_⟩,?_⟩;rw[h]at hc;simp only[Option.some.injEq,Obj.cells.injEq,and_true]at hc;subst hc;refine⟨_,hr,zA3,λk=>?_⟩;by_cases hk:j=k;subst hk;exact .inr ⟨by rw[hv];simp,by rw[hv];simp[hj]⟩;exact .inl (by simp[hk]);rw[qa hr];simp[hj]
end
def Vn(B:Nat)(ty:TypeId)(j:Nat)(v:O):Qb:=⟨Unit,λ_=>undef,λ_ W=>∃cs,W.heap[B]?=I (Q cs ty)/\cs[j]?=v⟩
theorem jX(B:Nat)(ty:TypeId)(j:Nat)(v:O)(u:Unit):(Vn B ty j v).f u=undef:=rfl
theorem JP(hv:vs j=v):∀p,qS (Vv B ty vs) ((Vn B ty j v).φ p):=by
 intro p W W' he ⟨cs,h1,h2⟩;obtain⟨c',k1,_,k3⟩:=he.2 cs h1;refine⟨c',k1,?_⟩;rcases k3 j with e|e
 rw[e];exact h2;rw[e.2];exact hv
theorem Kr(h0:w.heap[B]?=I (Q cs ty))(hW:(Vv B ty vs).r w W)(hv:vs j=v)(hj:j<cs.size)(hr:(∀i,W.frozen? ⟨B,i,M⟩=U)->(∃u,W.cell? (B,j)=I u)->(execOp a.eval o).run P W=.ok .skip (W.setCell (B,j) v)):Qs (Vv B ty vs) P o a W (Vn B ty j v):=by obtain⟨c',k1,k2,k3⟩:=hW.2 cs h0;obtain⟨g1,g2⟩:=qhi (vs:=vs) k1 hv zO;refine JA (hr (qe k1) ⟨_,by rw[qa k1,Array.getElem?_eq_getElem zO]⟩) ⟨(),rfl,?_,g1⟩;exact⟨_,qi k1 j v,by rw[Array.getElem?_setIfInBounds];simp[k2,hj]⟩
section
variable {B:Nat} {ty:TypeId} {cs:Array Value}
end
theorem QO{b j:Nat}:w.grownBy (w.setCell (b,j) v) (I b):=⟨rfl,rfl,rfl,zA3,λk _ hk=>zJ _ _ _ _ (λe=>hk (by simp at e;rw[e]))⟩
def qeW(lo:Nat)(k i o r:Int)(n:Nat)(l:List UInt8):Qb:=⟨OA×Nat,λp=>.agg #[D .u8 k,D F i,D F o,r,y p.1 n p.2],λp W=>Bys W W (y p.1 n p.2) l/\ZK lo (y p.1 n p.2)⟩
theorem jc(lo:Nat)(k i o r:Int)(n:Nat)(l:List UInt8)(A c):(qeW lo k i o r n l).f (A,c)=.agg #[D .u8 k,D F i,D F o,r,y A n c]:=rfl
theorem QD{b j:Nat}(h:w.heap[b]?=I (Q cs ty))(hv:cs[j]?=v):Ext w (w.setCell (b,j) v):=by
 refine⟨rfl,rfl,rfl,zA3,λk _=>?_⟩;by_cases hk:k=b;subst hk;rw[qi h j v,h];obtain⟨hj,e⟩:=zG.1 hv;have:cs.setIfInBounds j v=cs:=by apply Array.ext_getElem?;intro i;rw[Array.getElem?_setIfInBounds];split;rename_i hi;rw[<-hi];simp[hj,e];rfl
 rw[this];exact zJ _ _ _ _ hk
def VolP(x:It)(u:O)(_:Y):Prop:=∃v',u=.tuple #[vV v',.bool (Ks x)]/\(Ks x=Z->v'=JG x)
theorem qbi(h:x.val.length<7):Ks x=U:=by unfold Ks;rw[decide_eq_false zO];rfl
theorem qjB(h:7<=x.val.length):Ks x=XJ 1 x.i 0 0 x.k x.i x.o x.r (QS (JG x)) x.val:=by
 unfold Ks;by_cases h7:x.val.length=7;rw[decide_eq_true h7,Bool.true_and];rw[decide_eq_false h7,Bool.false_and]
 symm
 unfold XJ;rw[decide_eq_false];rintro⟨_,_,_,_,e⟩;have:=congrArg List.length e;rw[kO]at this;omega
theorem qiH(hx:Zb x)(h:7<=x.val.length):qeu (JG x):=by have r0:=VP (l:=x.val) (a:=0) (k:=2) zO;have r3:=VP (l:=x.val) (a:=3) (k:=4) zO;exact⟨hx.2.1,⟨r0.1,r0.2⟩,⟨r3.1,r3.2⟩⟩
set_option maxRecDepth 100000 in
theorem qkw(x:It)(hx:Zb x)(A c)(w:Y)(h:Bys w w (y A x.val.length c) x.val):Calls prog 162 #[KR x.k x.i x.o x.r A x.val.length c] w (zZ (VolP x) w):=by
 have H2:∀W,Ext w W->_:=λW hW=>qcz _ x.val 0 zO W ((h.below hW).more hW.size);have H4:∀W,Ext w W->_:=λW hW=>KM _ x.val 3 zO W ((h.below hW).more hW.size);replace⟨H2,H4⟩:=zH2 H2 H4;have HV:=zH h;have hcat:=h.at_;clear h;have aF:∀j,(hj:j<x.val.length)->∃b off,A=I ⟨b,off,M⟩/\w.cell? ⟨b,off+j,M⟩=I (D .u8 (x.val[j].toNat:Int)):=by intro j hj;obtain⟨A',c',e,_,_,hr⟩:=HV.out;cases e;obtain⟨b,off,rfl,hb,hc⟩:=hr.2 zO;exact⟨b,off,rfl,hc j _ (by rw[List.getElem?_map,zL hj];rfl)⟩
 replace aF:=zH aF;have HN2:Hid (UU x.val 0 2=if 2<=x.val.length then 0 else 8):=zH (by unfold UU;rw[Nat.zero_add]);have HN4:Hid (UU x.val 3 4=if 7<=x.val.length then 0 else 8):=zH (by unfold UU;rfl);have HVA:Hid (JG x=⟨x.i,ZH x.val 0 2,decide ((x.val[2]?.getD 0).toNat=1),ZH x.val 3 4⟩):=rfl;have HP0:Hid (x.val.length<7->∀W,VolP x (.tuple #[vV ⟨0,0,U,0⟩,.bool U]) W):=zH (λh W=>⟨_,by rw[qbi h],λh'=>by rw[qbi h]at h';cases h'⟩);have HP1:Hid (7<=x.val.length->∀W,VolP x (.tuple #[vV (JG x),.bool (XJ 1 x.i 0 0 x.k x.i x.o x.r (QS (JG x)) x.val)]) W):=zH (λh W=>⟨_,by rw[qjB h],λ_=>rfl⟩);have HON:=zH (λh=>qlc (JG x) (qiH hx h));replace hx:=zH hx;generalize hva:JG x=va at*;replace hva:=zH hva;generalize ZH x.val 0 2=n2 at*;generalize ZH x.val 3 4=n4 at*;generalize UU x.val 0 2=e2 at*;generalize UU x.val 3 4=e4 at*;go_enter func162,ntmps162;go_wp2_with fail;generalize aA:(Oa (Oa _ _) _)=w1;have b1:Ext w w1:=by rw[<-aA];exact(zN _ _).trans (zN _ _)
 have r1:w1.heap[w.heap.size]?=I (Q #[D .u8 x.k,D F x.i,D F x.o,D X x.r,y A x.val.length c] 51):=by rw[<-aA];exact(zK _ _ _ zA3).trans (zI _ _ _ rfl)
 have q1:w1.heap[w.heap.size+1]?=I (Q #[D F x.i,D X 0,.bool U,D F 0] 36):=aA▸zI _ _ _ zA3;clear aA;refine(H2.out _ b1).mono ?_;rintro e w2 ⟨rfl,hB⟩;have b2:Ext w w2:=Ext.trans b1 hB;have r2:=qb r1 hB;have q2:=qb q1 hB;have k2:=qa r2;clear hB b1 r1 q1 H2;go_wp2_with fail;clear k2;refine(H4.out _ b2).mono ?_;rintro e w3 ⟨rfl,hB⟩;have b3:Ext w w3:=Ext.trans b2 hB;have r3:=qb r2 hB;have q3:=qb q2 hB;have s3:w.heap.size+1<w3:=(zG.1 q3).1;have k3:=qa r3;have kq3:=qa q3;have fq3:=qe q3;clear hB b2 r2 q2 H4;by_cases h7:7<=x.val.length
 ·obtain rfl:e2=0:=by rw[HN2.out,if_pos zO]
  obtain rfl:e4=0:=by rw[HN4.out,if_pos h7]
  obtain⟨b,off,rfl,au⟩:=aF.out 2 zO;have e2':(x.val[2]?.getD 0).toNat=x.val[2].toNat:=by rw[zL zO];rfl
  rw[e2']at HVA;clear HN2 HN4 HP0 aF e2';generalize x.val[2].toNat=p2 at*;go_wp2;obtain⟨RR,aV⟩:∃RR:Rel,RR=Vv (↑w+1) 36 (λj=>if j=1 then I (D X n2)else if j=2 then I (.bool (decide (p2=1)))else if j=3 then I (D F n4)else M):=⟨_,rfl⟩
  replace aV:=zH aV;have g1:∀W,RR.r w3 W->W.cell? (w,4)=I (y (b,off) x.val.length c):=λW h=>Gj (aV.out▸h) zA3 (by rw[k3];rfl);have hbw:b≠w+1:=by have:=World.block_lt_of_cell? w _ au;simp at this;omega
  have g2:∀W,RR.r w3 W->W.cell? (b,off+2)=I (D .u8 (p2:Int)):=λW h=>Gj (aV.out▸h) hbw (Ext.cell b3 au);have oh:((p2:Int)==1)=decide (p2=1):=by rw[Bool.eq_iff_iff];simp;omega
  have i2:(2:Int)<(x.val.length:Int):=zO;refine qt zQ ?_;refine ji (w:=w3) RR (qP [(8,Vn (w.heap.size+1) 36 1 (D X n2)),(10,Vn (w.heap.size+1) 36 2 (.bool (decide (p2=1)))),(12,Vn (w.heap.size+1) 36 3 (D F n4))])
   [Z,Z,Z,Z,Z,Z,Z,Z,Z,Z,Z,Z,Z] 0 zQ zQ zQ zQ zQ zQ ?st (Rel.drew _ _) ?walk
  case st=>rw[aV.out];exact qk (by simp only[List.forall_mem_cons];exact⟨JP rfl,JP rfl,JP rfl,λ_ h=>by cases h⟩)
  case walk=>
   intro K hK;dsimp only[qv];refine zB5 ?_;refine qH (Vn (w.heap.size+1) 36 1 (D X n2)) zA0 zA0 (λW hW _=>?_) (λp=>?_)
   ·rw[aV.out]at hW⊢;refine Kr (j:=1) q3 hW rfl zA3 (λhf hu=>?_);obtain⟨u,hu⟩:=hu;go_simp
   cases p;refine zB5 ?_;refine qH (Vn (w.heap.size+1) 36 2 (.bool (decide (p2=1)))) zA0 zA0 (λW hW _=>?_) (λp=>?_)
   ·rw[aV.out]at hW⊢;refine Kr (j:=2) q3 hW rfl zA3 (λhf hu=>?_);obtain⟨u,hu⟩:=hu;go_simp
   cases p;refine zB5 ?_;refine qH (Vn (w.heap.size+1) 36 3 (D F n4)) zA0 zA0 (λW hW _=>?_) (λp=>?_)
   ·rw[aV.out]at hW⊢;refine Kr (j:=3) q3 hW rfl zA3 (λhf hu=>?_);obtain⟨u,hu⟩:=hu;go_simp
   cases p;refine zB5 ?_;refine qB (hK _ _ λW0 hW hF=>?_);have f1:=(hF 8).1;have f2:=(hF 10).1;have f3:=(hF 12).1;clear hF hK g1 g2;rw[aV.out]at hW;have r4:=ZA hW zA3 r3;obtain⟨cs,q4,ay,hcv⟩:=hW.2 _ q3;obtain rfl:cs=#[D F x.i,n2,.bool (decide (p2=1)),D F n4]:=by
    have e0:=hcv 0;simp at e0;obtain⟨c1,h1,h1'⟩:=f1;obtain⟨c2,h2,h2'⟩:=f2;obtain⟨c3,h3,h3'⟩:=f3;rw[q4]at h1 h2 h3;simp only[Option.some.injEq,Obj.cells.injEq,and_true]at h1 h2 h3;subst h1;subst h2;apply Array.ext_getElem?;intro j;rcases j with _|_|_|_|j
    rw[e0];rfl;exact h1';exact h2';rw[<-h3]at h3';exact h3';rw[Array.getElem?_eq_none (by rw[ay];simp),Array.getElem?_eq_none zA3]
   have bW:Below w w W0:=Below.trans b3 ((Below.refl _ _).grown hW.1 zO (λg hg=>by simp at hg;omega));refine zB6 ?_;go_wp2;refine Qq ?_;go_wp2;have HO:=zH (HON.out h7);have HP:=HP1.out h7;have hvbl:=kO va;have hvx:=(HV.out.below bW).more bW.size;have ea:=HVA.out;clear HON HP1 HVA hva HV;subst ea;dsimp only at HO HP;generalize QS _=vb at*;replace HO:=zH HO.out;have HSM:=zH (λA c W (hA:Bys W W.heap.size (y A 7 c) vb) (hW2:Ext W0 W)=>qeK 1 x.i 0 0 x.k x.i x.o x.r A (I ⟨b,off,M⟩) 7 c x.val.length _ vb x.val W hA ((hvx.below hW2).more hW2.size));generalize XJ 1 x.i 0 0 x.k x.i x.o x.r vb x.val=S at*;have hr5:∀W',Ext W0 W'->∀j,W'.cell? ⟨w,j,M⟩=#[D .u8 x.k,D F x.i,D F x.o,D X x.r,y (b,off) x.val.length c][j]?:=λW' h=>qa (qb r4 h);have hq5:∀W',Ext W0 W'->∀j,W'.cell? ⟨w.heap.size+1,j,M⟩=#[D F x.i,n2,.bool (decide (p2=1)),D F n4][j]?:=λW' h=>qa (qb q4 h);replace HP:=zH HP;generalize hdp:decide (p2=1)=fz at*;clear hdp;refine qt zQ ?_;refine ji (w:=W0) qm (qP [(2,outI 1 x.i 0 0 7 vb),(4,one (.bool S)),(5,one undef)])
    [Z,Z,Z,Z,Z,Z] 1 zQ zQ zQ zQ zQ zQ ?st (Rel.drew _ _) ?walk
   case st=>exact qk (by simp only[List.forall_mem_cons];exact⟨λp=>Qr (qih _ _ _ _ _ _ p),λp=>Qr (ZM _ p),λp=>Qr (ZM _ p),λ_ h=>by cases h⟩)
   case walk=>
    intro K hK;dsimp only[qv];have hr6:∀W',qm.r W0 W'->∀j,W'.cell? ⟨w,j,M⟩=#[D .u8 x.k,D F x.i,D F x.o,D X x.r,y (b,off) x.val.length c][j]?:=hr5;have hq6:∀W',qm.r W0 W'->∀j,W'.cell? ⟨w.heap.size+1,j,M⟩=#[D F x.i,n2,.bool fz,D F n4][j]?:=hq5;refine zB5 ?_;refine qH (outI 1 x.i 0 0 7 vb) zA0 zA0 (λW hW _=>?_) (λp=>?_)
    ·refine Qk ?_ ((HO.out W).mono λe w' h=>?_)
     ·go_simp
     obtain⟨u,rfl,⟨A,c,rfl,h1,h2⟩,h3⟩:=h;rw[hvbl]at h1⊢;exact⟨(A,c),rfl,h1,h3⟩
    obtain⟨A2,c2⟩:=p;refine zB5 ?_;refine qH (one (.bool S)) zA0 zA0 (λW hW hp=>?_) (λp=>?_)
    ·have f2:Bys W W (y A2 7 c2) vb:=(hp 2 zA1).1;refine Qk ?_ ((HSM.out A2 c2 W f2 hW).mono λe w' h=>⟨(),h.1,trivial,h.2⟩);go_simp
    cases p;simp only[Act.put,ql,qc,qg,jX,zA,zB,zC];refine qH (one undef) zA0 zA0 (λW hW hp=>?_) (λp=>?_)
    ·have q5:=qb q4 hW;have f5:=qe q5;have e0:=QD q5 (j:=0) rfl;have e1:=QD (qb q5 e0) (j:=1) rfl;have e2:=QD (qb (qb q5 e0) e1) (j:=2) rfl;have e3:=QD (qb (qb (qb q5 e0) e1) e2) (j:=3) rfl;refine JA (w':=(((W.setCell ⟨w.heap.size+1,0,M⟩ (D F x.i)).setCell ⟨w.heap.size+1,1,M⟩ (D X n2)).setCell ⟨w.heap.size+1,2,M⟩ (.bool fz)).setCell ⟨w.heap.size+1,3,M⟩ (D F n4)) ?_ ⟨(),rfl,trivial,e0.trans (e1.trans (e2.trans e3))⟩;go_simp
    cases p;simp only[Act.put,qf,qc,qg,jX,zA,zB,zC];refine qB (hK _ _ λW hW hF=>?_);clear hF hK hr6 hq6 hr5 hq5;have bZ:Ext W0 W:=hW;have q5:=qb q4 bZ;have k5:=qa q5;refine zB6 ?_;go_wp2;refine Qq ?_;go_wp2;exact bodyPost_ret (v:=.tuple #[vV ⟨x.i,n2,fz,n4⟩,.bool S]) (by simp[results,results162,go_sem,k5]) rfl ⟨_,rfl,HP.out W,Below.trans bW (Below.mono bZ (by have:=bW.size;omega))⟩
 have h4:e4=8:=by rw[HN4.out,if_neg h7]
 have h2:e2=0\/e2=8:=by rw[HN2.out];split<;>simp
 have hp:=HP0.out zO;replace hp:=zH hp;subst h4;clear HN2 HN4 HP0 HP1 HON aF HVA;have b3':Below w w w3:=b3;rcases h2 with rfl|rfl
 ·go_wp2;have rf:=qi (qi (qi (qi q3 0 (D F 0)) 1 (D X 0)) 2 (.bool U)) 3 (D F 0);have bf:Below w w ((((w3.setCell (w,1,0) (D F 0)).setCell (w,1,1) (D X 0)).setCell (w,1,2) (.bool U)).setCell (w,1,3) (D F 0)):=zA5;generalize ah:(E (E (E (E w3 _ _) _ _) _ _) _ _)=wf at*;have kf:=qa rf;exact bodyPost_ret (v:=.tuple #[vV ⟨0,0,U,0⟩,.bool U]) (by simp[results,results162,go_sem,kf]) rfl ⟨_,rfl,hp.out wf,bf⟩
 go_wp2;have rf:=qi (qi (qi (qi q3 0 (D F 0)) 1 (D X 0)) 2 (.bool U)) 3 (D F 0);have bf:Below w w ((((w3.setCell (w,1,0) (D F 0)).setCell (w,1,1) (D X 0)).setCell (w,1,2) (.bool U)).setCell (w,1,3) (D F 0)):=zA5;generalize ah:(E (E (E (E w3 _ _) _ _) _ _) _ _)=wf at*;have kf:=qa rf;exact bodyPost_ret (v:=.tuple #[vV ⟨0,0,U,0⟩,.bool U]) (by simp[results,results162,go_sem,kf]) rfl ⟨_,rfl,hp.out wf,bf⟩
def GJ(base:Nat)(e:TypeId)(size lo:Nat)(v:O)(m:Nat)(ys:List O):Qb:=⟨OA×Nat,λp=>y p.1 m p.2,λp W=>Done base e size lo v m ys (y p.1 m p.2) W⟩
theorem vk(base:Nat)(e:TypeId)(size lo:Nat)(v:O)(m:Nat)(ys:List O)(A c):(GJ base e size lo v m ys).f (A,c)=y A m c:=rfl
theorem qbP{size lo:Nat}:∀p,qS (Yg base e size lo v n xs m ys) ((GJ base e size lo v m ys).φ p):=λp _ _ he h=>he.2.2 _ h

def Bls(w:Y)(B:Nat)(v:O)(bs:List (List UInt8)):Prop:=
 ∃vs A c,v=y A bs.length c/\bs.length<=c/\c<=maxLen/\Rd w B 1 A bs.length vs/\∀(i:Nat)(u:O)(l:List UInt8),vs[i]?=u->bs[i]?=l->Bys w B u l
theorem Bls.below(h:Bls w B v bs)(hb:Below B w w'):Bls w' B v bs:=by obtain⟨vs,A,c,e,h1,h2,h3,h4⟩:=h;exact⟨vs,A,c,e,h1,h2,h3.below hb,λi u l hu hl=>(h4 i u l hu hl).below hb⟩
theorem Bls.more(h:Bls w B v bs)(hb:B<=B'):Bls w B' v bs:=by obtain⟨vs,A,c,e,h1,h2,h3,h4⟩:=h;exact⟨vs,A,c,e,h1,h2,h3.more hb,λi u l hu hl=>(h4 i u l hu hl).more hb⟩
theorem Bls.at_(h:Bls w B (y A n c) bs):n=bs.length/\n<=c/\c<=maxLen/\(0<n->∃b off,A=I ⟨b,off,M⟩/\b<B):=by obtain⟨vs,A',c',e,h1,h2,h3,_⟩:=h;cases e;refine⟨rfl,h1,h2,λhn=>?_⟩;obtain⟨b,off,e,hb,_⟩:=h3.2 hn;exact⟨b,off,e,hb⟩
theorem Bls.get{B b off n c:Nat}(h:Bls w B (y (b,off) n c) bs)(i:Nat)(hi:i<bs.length):∃A' c',w.cell? (b,off+i)=I (y A' bs[i].length c')/\Bys w B (y A' bs[i].length c') bs[i]:=by
 obtain⟨vs,A',c',e,h1,h2,h3,h4⟩:=h;cases e;have hv:i<vs.length:=by rw[h3.len1];exact hi
 obtain⟨b',off',e,hb,hc⟩:=h3.2 zO;cases e;have af:=h4 i vs[i] bs[i] (zL hv) (zL hi);obtain⟨A2,c2,e2,g1,g2,g3⟩:=af;exact⟨A2,c2,by rw[<-e2];exact hc i _ (zL hv),A2,c2,rfl,g1,g2,g3⟩
def jF:List ((Int×List UInt8)×O)->List O
 |[]=>[]
 |p::r=>D X p.1.1::p.2::jF r
theorem YV(ps:List ((Int×List UInt8)×O)):(jF ps).length=ps.length*2:=by
 induction ps with
 |nil=>rfl
 |cons p r ih=>simp[jF,ih];omega
theorem Yt(ps:List ((Int×List UInt8)×O)):∀i (h:i<ps.length),(jF ps)[i*2]?=I (D X ps[i].1.1)/\(jF ps)[i*2+1]?=I ps[i].2:=by
 induction ps with
 |nil=>intro i h;simp at h
 |cons p r ih=>
  intro i h;rcases i with _|i
  simp[jF];have:=ih i (by simpa using h);rw[show(i+1)*2=i*2+2 by omega];simpa [jF]using this
def Wrs(w:Y)(B:Nat)(v:O)(ws:List (Int×List UInt8)):Prop:=
 ∃ps:List ((Int×List UInt8)×O),ps.map (·.1)=ws/\(∃A c,v=y A ws.length c/\ws.length<=c/\c<=maxLen/\Rd w B 2 A ws.length (jF ps))/\∀p∈ps,(∃A c,p.2=y A p.1.2.length c)/\Bys w B p.2 p.1.2
theorem Wrs.below(h:Wrs w B v ws)(hb:Below B w w'):Wrs w' B v ws:=by obtain⟨ps,e,⟨A,c,e1,e2,e3,hr⟩,hp⟩:=h;exact⟨ps,e,⟨A,c,e1,e2,e3,hr.below hb⟩,λp h=>⟨(hp p h).1,(hp p h).2.below hb⟩⟩
theorem Wrs.more(h:Wrs w B v ws)(hb:B<=B'):Wrs w B' v ws:=by obtain⟨ps,e,⟨A,c,e1,e2,e3,hr⟩,hp⟩:=h;exact⟨ps,e,⟨A,c,e1,e2,e3,hr.more hb⟩,λp h=>⟨(hp p h).1,(hp p h).2.more hb⟩⟩
theorem Wrs.at_(h:Wrs w B (y A n c) ws):n=ws.length/\n<=c/\c<=maxLen/\(0<n->∃b off,A=I ⟨b,off,M⟩/\b<B):=by obtain⟨ps,e,⟨A',c',e1,e2,e3,hr⟩,hp⟩:=h;cases e1;refine⟨rfl,e2,e3,λhn=>?_⟩;obtain⟨b,off,e,hb,_⟩:=hr.2 hn;exact⟨b,off,e,hb⟩
theorem Wrs.get{B b off n c:Nat}(h:Wrs w B (y (b,off) n c) ws)(i:Nat)(hi:i<ws.length):∃A' c',w.cell? (b,off+i*2)=I (D X ws[i].1)/\w.cell? (b,off+i*2+1)=I (y A' ws[i].2.length c')/\Bys w B (y A' ws[i].2.length c') ws[i].2:=by
 obtain⟨ps,e,⟨A,c',e1,e2,e3,hr⟩,hp⟩:=h;cases e1;subst e;have fF:i<ps.length:=by simpa using hi
 obtain⟨b',off',e,hb,hc⟩:=hr.2 zO;cases e;obtain⟨c0,c1⟩:=Yt ps i fF;obtain⟨⟨A',c',e5⟩,af⟩:=hp ps[i] (List.getElem_mem fF);rw[e5]at c1 af;refine⟨A',c',?_⟩;simp only[List.getElem_map];exact⟨hc _ _ c0,by rw[Nat.add_assoc];exact hc _ _ c1,af⟩
def qaX(l:List UInt8):Bool:=decide (l.length=128)
def wrOk(x:Int×List UInt8):Bool:=decide (0<=x.1/\x.1<256/\x.2.length=128)
def headD(n m:Nat):Bool:=decide (n=256/\m<=4096)
def Jh(bs:List (List UInt8))(ws:List (Int×List UInt8)):Bool:=headD bs.length ws.length&&(bs.all qaX&&ws.all wrOk)
theorem qgV(f:α->Bool)(l:List α)(k:Nat)(h:k<l.length):(l.take (k+1)).all f=((l.take k).all f&&f l[k]):=by rw[List.take_succ_eq_append_getElem h,List.all_append];simp only[List.all_cons,List.all_nil,Bool.and_true]
theorem qkE{α:Type}{f:α->Bool}{l:List α}{k:Nat}(h:k<l.length)(hf:f l[k]=U):l.all f=U:=by rw[List.all_eq_false];exact⟨_,List.getElem_mem h,by simp[hf]⟩
abbrev XV(A1:OA)(n1 c1:Nat)(A2:OA)(n2 c2:Nat):O:=.agg #[y A1 n1 c1,y A2 n2 c2]
theorem qjh(A1 n1 c1 A2 n2 c2)(bs:List (List UInt8))(ws:List (Int×List UInt8))(w:Y)(hb:Bls w w (y A1 n1 c1) bs)(hw:Wrs w w (y A2 n2 c2) ws):Calls prog 158 #[XV A1 n1 c1 A2 n2 c2] w (Ret (D X (Va (Jh bs ws))) w):=by
 obtain⟨e1,dP,hm1,hA1⟩:=hb.at_;obtain⟨e2,au,iR,hA2⟩:=hw.at_;subst e1;subst e2;by_cases hh:headD bs.length ws.length=Z
 case neg=>
  have hM:Jh bs ws=U:=by unfold Jh;rw[show headD bs.length ws.length=U by simpa using hh];rfl
  rw[hM];have hh':¬(bs.length=256/\ws.length<=4096):=by simpa [headD]using hh
  clear hM hb hw hA1 hA2 hh;generalize bs.length=n1 at*;generalize ws.length=n2 at*;go_enter func158,ntmps158;go_wp2;all_goals try simp only[beq_iff_eq,beq_eq_false_iff_ne,ne_eq,bne_iff_ne,bne_eq_false_iff_eq]at*
  all_goals first|(exfalso;omega)|skip
  all_goals go_ret
  all_goals exact⟨rfl,zA5⟩
 case pos=>
  have hM:Jh bs ws=(bs.all qaX&&ws.all wrOk):=by unfold Jh;rw[hh];rfl
  have hh':bs.length=256/\ws.length<=4096:=by simpa [headD]using hh
  obtain⟨eY,uS⟩:=hh';rw[hM];clear hM hh;have HB:=zH hb;have HW:=zH hw;have HTB:=zH (qgV qaX bs);have HTW:=zH (qgV wrOk ws);have HBB:=zH (λk h=>@qkE _ qaX bs k h);have HBW:=zH (λk h=>@qkE _ wrOk ws k h);have HE1:Hid (bs.take bs.length=bs):=zH (List.take_length);have HE2:Hid (ws.take ws.length=ws):=zH (List.take_length);obtain⟨b1,o1,rfl,bg⟩:=hA1 zO;clear hb hw hA1;have hsm:bs.length<1000:=zO;replace eY:=zH eY;have hd1:((bs.length:Int)!=256)=U:=by rw[bne_eq_false_iff_eq,eY.out];rfl
  have hd2:decide ((ws.length:Int)>4096)=U:=decide_eq_false zO;go_enter func158,ntmps158;go_wp2;generalize aA:(Oa _ _)=w1;have x1:Ext w w1:=aA▸zN _ _;have r1:w1.heap[w.heap.size]?=I (Q #[y (b1,o1) bs.length c1,y A2 ws.length c2] 25):=aA▸zI _ _ _ rfl;clear aA;go_loopw [20] (λi wr=>∃k:Nat,k<=bs.length/\i=D X (k:Int)/\(bs.take k).all qaX=Z/\Ext w1 wr) (λi _=>bs.length-(intOf i).toNat)
  case atStart=>exact⟨0,zO,rfl,rfl,Ext.refl _⟩
  case round=>
   obtain⟨k,hk,rfl,hok,hE⟩:=hrel;have hEw:=x1.trans hE;by_cases hlt:k<bs.length
   ·have aO:=hlt;obtain⟨A',c',hc,_⟩:=((HB.out.below hEw).more hEw.size).get k hlt;have ht:=HTB.out k hlt;have hbd:=HBB.out k hlt;rw[hok,Bool.true_and]at ht;replace⟨ht,hbd⟩:=zH2 ht hbd;have hbo:qaX bs[k]=decide (bs[k].length=128):=rfl;replace hbo:=zH hbo;generalize qaX bs[k]=q at*;generalize bs[k].length=m at*;by_cases hm:m=128
    ·obtain rfl:q=Z:=by rw[hbo.out,decide_eq_true hm]
     subst hm;go_wp2;go_roundw
     case rel=>exact⟨k+1,zO,by go_num,ht.out,hE⟩
     case measure=>simp[intOf];omega
    obtain rfl:q=U:=by rw[hbo.out,decide_eq_false hm]
    have aH:((m:Int)!=128)=Z:=by rw[bne_iff_ne];omega
    have hf:=hbd.out rfl;go_wp2;go_ret;exact⟨by first|rfl|(rw[hf];rfl),hEw⟩
   obtain rfl:k=bs.length:=zO;rw[HE1.out]at hok;rw[hok];have rr:=qb r1 hE;have kr:=qa rr;clear HB HTB HBB r1 hd1 hd2;go_wp2;clear kr;go_loopw [31] (λi wq=>∃k:Nat,k<=ws.length/\i=D X (k:Int)/\(ws.take k).all wrOk=Z/\Ext wr wq) (λi _=>ws.length-(intOf i).toNat)
   case atStart=>exact⟨0,zO,rfl,rfl,Ext.refl _⟩
   case round=>
    obtain⟨j,hj,rfl,hBK,mr⟩:=hrel;have hEq:=hEw.trans mr;by_cases hlt2:j<ws.length
    ·have hTG:=hlt2;obtain⟨b2,o2,rfl,bP⟩:=hA2 zO;obtain⟨A',c',hca,xI,_⟩:=((HW.out.below hEq).more hEq.size).get j hlt2;have ht:=HTW.out j hlt2;have hbd:=HBW.out j hlt2;rw[hBK,Bool.true_and]at ht;replace⟨ht,hbd⟩:=zH2 ht hbd;have hbo:wrOk ws[j]=decide (0<=ws[j].1/\ws[j].1<256/\ws[j].2.length=128):=rfl;replace hbo:=zH hbo;generalize wrOk ws[j]=q at*;generalize ws[j].1=a at*;generalize ws[j].2.length=m at*;by_cases hm:0<=a/\a<256/\m=128
     ·obtain rfl:q=Z:=by rw[hbo.out,decide_eq_true hm]
      obtain⟨ha1,bC,rfl⟩:=hm;have hda:decide (a<0)=U:=decide_eq_false zO;have hdb:decide (a≥256)=U:=decide_eq_false zO;go_wp2;go_roundw
      case rel=>exact⟨j+1,zO,by go_num,ht.out,mr.trans (zN _ _)⟩
      case measure=>simp[intOf];omega
     obtain rfl:q=U:=by rw[hbo.out,decide_eq_false hm]
     have hf:=hbd.out rfl;go_wp2;all_goals try simp only[beq_iff_eq,beq_eq_false_iff_ne,ne_eq,bne_iff_ne,bne_eq_false_iff_eq]at*
     all_goals first
      |(exfalso;omega)
      |(go_ret
        exact⟨by first|rfl|(rw[hf];rfl),Below.alloc hEq (by have:=hEq.size;omega) _⟩)
    obtain rfl:j=ws.length:=zO;rw[HE2.out]at hBK;go_wp2;go_ret;exact⟨by first|rfl|(rw[hok];rfl)|(rw[hBK];rfl)|(rw[hok,hBK];rfl),hEq⟩
def QX(t:List UInt8):Bool:=decide (t.length=256)&&KE (t.take 8)
theorem Bys.take(h:Bys w B (y A m c) l)(hk:k<=l.length):Bys w B (y A k c) (l.take k):=by
 obtain⟨A',c',e,hc,hm,hr⟩:=h;cases e;have hl:(l.take k).length=k:=zA2;refine⟨_,_,by rw[hl],by rw[hl];omega,hm,?_⟩;rw[hl];have:=hr.take hk
 rwa [Nat.mul_one,<-List.map_take]at this
theorem qck(v:O)(t:List UInt8)(w:Y)(h:Bys w w v t):Calls prog 159 #[v] w (Ret (D X (Va (QX t))) w):=by
 obtain⟨A,m,c,rfl⟩:∃A m c,v=y A m c:=by obtain⟨A,c,e,_⟩:=h;exact⟨_,_,_,e⟩
 obtain⟨e1,hc,hm,hA⟩:=h.at_;subst e1;by_cases h256:t.length=256
 ·have hT:QX t=KE (t.take 8):=by unfold QX;rw[decide_eq_true h256,Bool.true_and]
  rw[hT];have HM:=zH (λW (hW:Ext w W)=>qiC (y A 8 c) (t.take 8) zA2 zA2 W (((h.take (k:=8) zO).below hW).more hW.size));have hz:=qcS (t.take 8);have yN:=qfX (t.take 8);generalize Ti (t.take 8)=mx at*;generalize KE (t.take 8)=z at*;clear hT h;have hc8:(8:Int)<=(c:Int):=zO;have hd1:((t.length:Int)!=256)=U:=by rw[bne_eq_false_iff_eq];omega
  clear h256;go_enter func159,ntmps159;go_wp2_with fail;refine(HM.out _ (Ext.refl _)).mono ?_;rintro e w2 ⟨rfl,hB⟩;clear HM;cases z
  ·have hm0:0<mx:=by simpa using hz
   go_wp2;go_ret;exact⟨rfl,hB⟩
  obtain rfl:mx=0:=by simpa using hz
  go_wp2;go_ret;exact⟨rfl,hB⟩
 have hT:QX t=U:=by unfold QX;rw[decide_eq_false h256];rfl
 rw[hT];have eY:((t.length:Int)!=256)=Z:=by rw[bne_iff_ne];omega
 go_enter func159,ntmps159;go_wp2;go_ret;exact⟨rfl,Below.refl _ _⟩
structure Sto where
 bs:List (List UInt8)
 ws:List (Int×List UInt8)
 now:List UInt8
 last:List UInt8
def qj(S:Sto):Bool:=Jh S.bs S.ws&&(QX S.now&&QX S.last)
abbrev Qo(A1:OA)(n1 c1:Nat)(A2:OA)(n2 c2:Nat)(A3:OA)(n3 c3:Nat)(A4:OA)(n4 c4:Nat):O:=.agg #[y A1 n1 c1,y A2 n2 c2,y A3 n3 c3,y A4 n4 c4]
structure Qh(w:Y)(B:Nat)(v1 v2 v3 v4:O)(S:Sto):Prop where
 bs:Bls w B v1 S.bs
 ws:Wrs w B v2 S.ws
 now:Bys w B v3 S.now
 last:Bys w B v4 S.last
theorem Qh.below{S:Sto}(h:Qh w B v1 v2 v3 v4 S)(hb:Below B w w'):Qh w' B v1 v2 v3 v4 S:=⟨h.bs.below hb,h.ws.below hb,h.now.below hb,h.last.below hb⟩
theorem Qh.more{S:Sto}(h:Qh w B v1 v2 v3 v4 S)(hb:B<=B'):Qh w B' v1 v2 v3 v4 S:=⟨h.bs.more hb,h.ws.more hb,h.now.more hb,h.last.more hb⟩
theorem Qh.ext{S:Sto}(h:Qh w w v1 v2 v3 v4 S)(hx:Ext w w'):Qh w' w' v1 v2 v3 v4 S:=(h.below hx).more hx.size
theorem vl(A1 n1 c1 A2 n2 c2 A3 n3 c3 A4 n4 c4)(S:Sto)(w:Y)(h:Qh w w (y A1 n1 c1) (y A2 n2 c2) (y A3 n3 c3) (y A4 n4 c4) S):Calls prog 108 #[Qo A1 n1 c1 A2 n2 c2 A3 n3 c3 A4 n4 c4] w (Ret (D X (Va (qj S))) w):=by
 have HD:=zH (λW (hW:Ext w W)=>qjh A1 n1 c1 A2 n2 c2 S.bs S.ws W (h.ext hW).bs (h.ext hW).ws);have HN:=zH (λW (hW:Ext w W)=>qck (y A3 n3 c3) S.now W (h.ext hW).now);have HL:=zH (λW (hW:Ext w W)=>qck (y A4 n4 c4) S.last W (h.ext hW).last);have hS:qj S=(Jh S.bs S.ws&&(QX S.now&&QX S.last)):=rfl;rw[hS];clear hS h;generalize Jh S.bs S.ws=d at*;generalize QX S.now=n at*;generalize QX S.last=l at*;go_enter func108,ntmps108;go_wp2_with fail;generalize aA:(Oa _ _)=w1;have x1:Ext w w1:=aA▸zN _ _;have r1:w1.heap[w.heap.size]?=I (Q #[y A1 n1 c1,y A2 n2 c2,y A3 n3 c3,y A4 n4 c4] 28):=aA▸zI _ _ _ rfl;clear aA;refine(HD.out _ x1).mono ?_;rintro e w2 ⟨rfl,hB⟩;have x2:=x1.trans hB;have r2:=qb r1 hB;have k2:=qa r2;clear hB r1 x1 HD;cases d
 ·go_wp2;go_ret;exact⟨rfl,x2⟩
 go_wp2_with fail;refine(HN.out _ x2).mono ?_;rintro e w3 ⟨rfl,hB⟩;have x3:=x2.trans hB;have r3:=qb r2 hB;have k3:=qa r3;clear hB r2 x2 k2 HN;cases n
 ·go_wp2;go_ret;exact⟨rfl,x3⟩
 go_wp2_with fail;refine(HL.out _ x3).mono ?_;rintro e w4 ⟨rfl,hB⟩;have x4:=x3.trans hB;clear hB r3 x3 k3 HL;cases l;all_goals
  go_wp2;go_ret;exact⟨rfl,x4⟩
def jQ(ws:List (Int×List UInt8))(a:Int):Option (List UInt8):=(ws.reverse.find? λp=>p.1==a).map (·.2)
def Ji(S:Sto)(a:Nat):List UInt8:=match jQ S.ws a with|some l=>l|none=>S.bs[a]?.getD []
theorem KS{a:Int}(h:k<ws.length):jQ (ws.take (k+1)) a=if ws[k].1=a then I ws[k].2 else jQ (ws.take k) a:=by
 unfold jQ;rw[List.take_succ_eq_append_getElem h,List.reverse_append,List.reverse_singleton,List.singleton_append,List.find?_cons];by_cases h1:ws[k].1=a;rw[if_pos h1];simp[h1];rw[if_neg h1];have:(ws[k].1==a)=U:=by simpa using h1
 rw[this]
def qo(S:Sto)(a:Nat):Option (Int×List It):=if(S.now[a]?.getD 0).toNat=0 then M else QL (Ji S a)
theorem qZ{S:Sto}(h:qj S=Z):S.bs.length=256/\S.ws.length<=4096/\S.now.length=256/\S.last.length=256:=by unfold qj Jh headD QX at h;simp at h;omega
theorem qhp(A n c)(hn:n<=c)(hc:c<=maxLen)(w:Y):Calls prog 160 #[y A n c] w (Ret (y A n n) w):=by unfold maxLen at hc;go_enter func160,ntmps160;have h1:(n:Int)<=(c:Int):=zO;have h2:(0:Int)<=(n:Int):=zO;go_wp2;go_ret;exact⟨rfl,Below.refl _ _⟩
def OnB(lo b:Nat)(v1 v2 v3 v4:O)(S:Sto)(W:Y):Prop:=lo<=b/\W.heap[b]?=I (Q #[v1,v2,v3,v4] 223)/\Qh W W v1 v2 v3 v4 S
theorem Wrs.clip(h:Wrs w B (y A n c) ws):Wrs w B (y A n n) ws:=by obtain⟨ps,e,⟨A',c',e1,e2,e3,hr⟩,hp⟩:=h;cases e1;exact⟨ps,e,⟨_,_,rfl,zM _,zO,hr⟩,hp⟩
set_option maxRecDepth 100000 in
theorem qgb(A1 n1 c1 A2 n2 c2 A3 n3 c3 A4 n4 c4)(S:Sto)(hl:S.now.length<1073741824)(w:Y)(h:Qh w w (y A1 n1 c1) (y A2 n2 c2) (y A3 n3 c3) (y A4 n4 c4) S):Calls prog 109 #[Qo A1 n1 c1 A2 n2 c2 A3 n3 c3 A4 n4 c4] w (zZ (λu W=>∃b A3' c3',u=.pointer (I ⟨b,0,M⟩)/\OnB w b (y A1 n1 c1) (y A2 n2 n2) (y A3' n3 c3') (y A4 n4 c4) S W/\ZK w (y A3' n3 c3')) w):=by
 have wK:Hid (n3=S.now.length):=zH h.now.at_.1;obtain⟨-,h2a,h2b,-⟩:=h.ws.at_;have HC:=zH (λW (hW:Ext w W)=>Kj (y A3 n3 c3) S.now hl W (h.ext hW).now);replace h:=zH h;go_enter func109,ntmps109;go_wp2_with fail;generalize aA:(Oa _ _)=w1;have x1:Ext w w1:=aA▸zN _ _;have r1:w1.heap[w.heap.size]?=I (Q #[y A1 n1 c1,y A2 n2 c2,y A3 n3 c3,y A4 n4 c4] 28):=aA▸zI _ _ _ rfl;clear aA;refine(HC.out _ x1).mono ?_;rintro e w2 ⟨u,rfl,hu,hB⟩;have x2:=x1.trans hB;have r2:=qb r1 hB;have af:=Bys.of_own hu;have hfr:=ZK.of_own hu;have s1:w.heap.size<w1:=(zG.1 r1).1;obtain⟨A3',c3',rfl,_,_⟩:=qC hu;have k2:=qa r2;have f2:=qe r2;clear hB r1 HC hu;rw[<-wK.out]at af hfr⊢;go_wp2_with fail;have hLR:=af.setCell hfr (p:=⟨w.heap.size,2,M⟩) s1 (y A3' n3 c3');generalize aP:(E _ _ _)=w3 at*;have x3:Ext w w3:=aP▸Below.setCell x2 (p:=⟨w.heap.size,2,M⟩) (zM _) _;have r3:w3.heap[w.heap.size]?=I (Q #[y A1 n1 c1,y A2 n2 c2,y A3' n3 c3',y A4 n4 c4] 28):=aP▸qi r2 2 _;have hz3:w3.heap.size=w2:=by rw[<-aP];simp
 rw[<-hz3]at hLR;clear aP k2 f2 r2 x2 af;refine(qhp A2 n2 c2 h2a h2b _).mono ?_;rintro e w4 ⟨rfl,hB⟩;have x4:=x3.trans hB;have r4:=qb r3 hB;have hby4:=(hLR.below hB).more hB.size;have k4:=qa r4;have f4:=qe r4;have s4:w.heap.size<w4:=(zG.1 r4).1;clear hB r3 x3 hLR;go_wp2;have hfrw:ZK w (y A3' n3 c3'):=hfr.mono zO;have hLS:=hby4.setCell hfr (p:=⟨w.heap.size,1,M⟩) s1 (y A2 n2 n2);have bf:Below w w ((w4.setCell (w,1) (y A2 n2 n2)).alloc (Q #[y A1 n1 c1,y A2 n2 n2,y A3' n3 c3',y A4 n4 c4] 223)):=by have x4':Below w w w4:=x4;exact(by repeat' (first|with_reducible exact Below.refl _ _|with_reducible assumption|with_reducible apply Below.drew|with_reducible apply qT|with_reducible refine Below.alloc ?_ ?_ _|with_reducible refine Below.setCell ?_ ?_ _|(simp;done)|(simp;omega)|omega))
 go_ret;refine⟨_,rfl,⟨w4.heap.size,A3',c3',rfl,⟨zO,zI _ _ _ zA3,?_⟩,hfrw⟩,bf⟩;have h0:=(h.out.below bf).more bf.size;refine⟨h0.bs,h0.ws.clip,?_,h0.last⟩;exact(hLS.below (Below.alloc (Below.refl _ _) zA3 _)).more zA3
end Go.Proofs.YtmeadnlmepcmbaaGreat
namespace Go.Proofs.YtmeadnlmepcmbaaGreat
open Go.RowKit Go.Shelf
attribute [local go_sem] Oper.semAt_some
variable {W W':World}{v:Value}
abbrev Sl:Type:=OA×Nat×Nat
abbrev sv(s:Sl):O:=y s.1 s.2.1 s.2.2
abbrev W2:Type:=Int×Sl
abbrev w2z:W2:=(0,M,0,0)
set_option maxRecDepth 100000 in
theorem backW_in(n:Nat)(hn:1<=n)(l Bs b off len cap:Nat)(us:List W2)(bT:len<1099511627776)(J Jx:List (Nat×W2)->Y->Prop)(hY:∀pre x W,J pre W->pre.length<len->YieldAt Fence.wide (n-1) prog l #[D X (x.1:Int),.agg #[D X x.2.1,sv x.2.2]] W λe W'=>
   (e=.returned (.bool Z)/\J (pre++[x]) W'/\Qw Bs b W W')\/(e=.returned (.bool U)/\Jx (pre++[x]) W'))
  (W:Y) (ik:W.cell? Bs=I (y (b,off) len cap)) (hc:∀i,i<len->W.cell? ⟨b,off+i*2,M⟩=I (D X (us[i]?.getD w2z).1)/\W.cell? ⟨b,off+i*2+1,M⟩=I (sv (us[i]?.getD w2z).2)) (h0:J [] W) :
  CallsIn Fence.wide n prog 189 #[.func (.yield l) #[] #[],.pointer Bs] W λe W'=>(∃v,e=.returned v) /\
   ((∃ys,ys=jb (λj=>(len-1-j,us[len-1-j]?.getD w2z)) len/\J ys W')\/(∃pre,(∃k,k<=len/\pre=jb (λj=>(len-1-j,us[len-1-j]?.getD w2z)) k)/\Jx pre W')):=by
 refine callsIn_of_wp func189 rfl trivial ?_ rfl;simp only[ntmps189,List.size_toArray,List.length_cons,List.length_nil,Nat.reduceAdd,Nat.reduceSub,Array.replicate_succ,Array.replicate_zero,List.push_toArray,List.append_toArray,List.nil_append,List.cons_append]
 gi_wp2
 gi_loopw [3] (λi wr=>∃k:Nat,k<=len/\i=D X ((len:Int)-1-k)/\J (jb (λj=>(len-1-j,us[len-1-j]?.getD w2z)) k) wr/\Qw Bs b W wr)
  (λi _=>(intOf i+1).toNat)
 case atStart=>exact⟨0,Nat.zero_le _,zA3,h0,Qw.refl _ _ _⟩
 case round=>
  obtain⟨k,hk,rfl,iI,dR⟩:=hrel;have hBr:wr.cell? Bs=I (y (b,off) len cap):=(World.cell?_of_block (w:=W) dR.1).trans ik;by_cases hlt:k<len
  ·have oH:=(World.cell?_of_block (w:=W) (a:=⟨b,off+(len-1-k)*2,M⟩) dR.2).trans (hc (len-1-k) zO).1;have yt:=(World.cell?_of_block (w:=W) (a:=⟨b,off+(len-1-k)*2+1,M⟩) dR.2).trans (hc (len-1-k) zO).2;obtain⟨fn,tmps,assign,body,hy,hR⟩:=hY _ (len-1-k,us[len-1-k]?.getD w2z) wr iI (by rw[ZG];exact hlt);dsimp only at hy;obtain⟨i,hi⟩:∃i:Nat,len-1-k=i:=⟨_,rfl⟩
   have dK:(len:Int)-1-k=(i:Int):=zO;have hil:i<len:=zO;have hik:k+i+1<=len/\len<=k+i+1:=zO;have HU:=zH (Vu (λj=>(len-1-j,us[len-1-j]?.getD w2z)) k);obtain⟨u,hu⟩:∃u,us[i]?.getD w2z=u:=⟨_,rfl⟩
   rw[hi]at oH yt hy hR;rw[hu]at oH yt hy hR;rw[dK];clear dK;have HE:=zH hu;clear hu;have HI:=zH hi;clear hi
   gi_wp2
   refine hR.mono ?_;rintro e W3 (⟨rfl,hJ3,gy⟩|⟨rfl,lY⟩)
   ·gi_wp2
    go_roundw
    case rel=>exact⟨k+1,zO,by go_num,by rw[HU.out,HI.out,HE.out];exact hJ3,dR.t gy⟩
    case measure=>simp[intOf]
   gi_wp2
   refine bodyPost_ret (results_none rfl _ _ _) rfl ?_;exact⟨⟨_,rfl⟩,.inr ⟨_,⟨k+1,zO,by rw[HU.out,HI.out,HE.out]⟩,lY⟩⟩
  obtain rfl:k=len:=zO
  gi_wp2
  go_end0;exact⟨⟨_,rfl⟩,.inl ⟨_,rfl,iI⟩⟩
set_option maxRecDepth 100000 in
theorem qfF(n l Bs c:Nat)(A:OA)(J:List (Nat×W2)->Y->Prop)(W:Y)(ik:W.cell? Bs=I (y A 0 c))(h0:J [] W):CallsIn Fence.wide n prog 189 #[.func (.yield l) #[] #[],.pointer Bs] W λe W'=>(∃v,e=.returned v)/\J [] W':=by
 refine callsIn_of_wp func189 rfl trivial ?_ rfl;simp only[ntmps189,List.size_toArray,List.length_cons,List.length_nil,Nat.reduceAdd,Nat.reduceSub,Array.replicate_succ,Array.replicate_zero,List.push_toArray,List.append_toArray,List.nil_append,List.cons_append]
 gi_wp2
 gi_loopw [3] (λi wr=>i=D X (-1)/\J [] wr) (λ_ _=>0)
 case atStart=>exact⟨rfl,h0⟩
 case round=>
  obtain⟨rfl,iI⟩:=hrel
  gi_wp2
  go_end0;exact⟨⟨_,rfl⟩,iI⟩
def UC(us:List W2)(k:Nat):List (Nat×W2):=jb (λj=>(us.length-1-j,us[us.length-1-j]?.getD w2z)) k
def SW(W:Y)(Bs b:Nat)(v:O)(us:List W2):Prop:=
 W.cell? Bs=v/\((us=[]/\∃A c,v=y A 0 c)\/∃off cap,v=y (I ⟨b,off,M⟩) us.length cap/\∀i,i<us.length->W.cell? ⟨b,off+i*2,M⟩=I (D X (us[i]?.getD w2z).1)/\W.cell? ⟨b,off+i*2+1,M⟩=I (sv (us[i]?.getD w2z).2))
theorem SW.keep{Bs b:Nat}{us:List W2}(h:SW W Bs b v us)(hk:Qw Bs b W W'):SW W' Bs b v us:=by
 refine⟨(World.cell?_of_block (w:=W) hk.1).trans h.1,?_⟩;rcases h.2 with h|⟨off,cap,e,hc⟩
 exact .inl h;exact .inr ⟨off,cap,e,λi hi=>⟨(World.cell?_of_block (w:=W) hk.2).trans (hc i hi).1,(World.cell?_of_block (w:=W) hk.2).trans (hc i hi).2⟩⟩
theorem qhb(n:Nat)(hn:1<=n)(Bs b:Nat)(v:O)(us:List W2)(bT:us.length<1099511627776)(w:Y)(ik:Bs<w)(hb:b<w)(hS:SW w Bs b v us):SeqStopsK Fence.wide n prog 189 #[.pointer Bs] (λx:Nat×W2=>#[(x.1:Int),.agg #[D X x.2.1,sv x.2.2]]) (Qw Bs b) (λys=>ys=UC us us.length)
   (λpre=>∃k,k<=us.length/\pre=UC us k) us.length w:=λl J Jx W hW _ _ hY h0=>by
 obtain⟨hc,h⟩:=hS.keep (Qw.below hW ik hb);rcases h with⟨rfl,A,c,rfl⟩|⟨off,cap,rfl,ay⟩
 exact(qfF n l Bs c A J W hc h0).mono λe W' ⟨he,hj⟩=>⟨he,.inl ⟨_,rfl,hj⟩⟩
 exact backW_in n hn l Bs b off us.length cap us bT J Jx hY W hc ay h0
theorem Um(A m c)(w:Y):Calls prog 151 #[y A m c] w (λe w'=>e=.returned (.func (.func 189) #[] #[.pointer w])/\w'=w.alloc (Q #[y A m c] 23)):=by go_enter func151,ntmps151;go_wp2;go_ret;exact⟨rfl,rfl⟩
end Go.Proofs.YtmeadnlmepcmbaaGreat
