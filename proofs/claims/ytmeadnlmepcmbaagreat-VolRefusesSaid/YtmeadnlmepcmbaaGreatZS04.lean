/- Lemmas of the proof. -/
import Derived.Test.YtmeadnlmepcmbaaGreatZS03
set_option linter.all false
set_option maxHeartbeats 8000000
open Go.Proofs.Tryz
open Go.Value renaming slice→y,int→D
open Go.World renaming setCell→E,alloc→Oa
open Go.IntKind renaming u32→F,i64→X
open Option renaming some→I,none→O
open Go renaming Value→M,World→Y
open Go.Obj renaming cells→Q
open Bool renaming false→U,true→Z
namespace Go.Proofs.YtmeadnlmepcmbaaGreat
open Go.RowKit
variable {lo n lo' n' B j base m B' c k:Nat}{ty e:TypeId}{φ:List Value->World->Prop}{P:Program}{o:Oper}{a:Act}{W w w':World}{l:List UInt8}{vs:Nat->Option Value}{v v1 v2 v3 v4:Value}{x:It}{xs ys:List Value}{bs:List (List UInt8)}{A:OA}{ws:List (Int×List UInt8)}{α:Type}
structure Vol where
 id:Int
 root:Int
 fz:Bool
 frm:Int
deriving DecidableEq
def QR(v:Vol):List UInt8:=qT v.root.toNat 2++[if v.fz then 1 else 0]++qT v.frm.toNat 4
theorem kZ(v:Vol):(QR v).length=7:=by simp[QR,QV]
def YS(x:It):Vol:=⟨x.i,ZE x.val 0 2,decide ((x.val[2]?.getD 0).toNat=1),ZE x.val 3 4⟩
def Gu(x:It):Bool:=decide (x.val.length=7)&&qbz 1 x.i 0 0 x.k x.i x.o x.r (QR (YS x)) x.val
abbrev Ve(v:Vol):M:=.agg #[D F v.id,D X v.root,.bool v.fz,D F v.frm]
def XH(v:Vol):Prop:=(0<=v.id/\v.id<4294967296)/\(0<=v.root/\v.root<65536)/\(0<=v.frm/\v.frm<4294967296)
def kQ(lo n:Nat)(ty:TypeId)(φ:List M->Y->Prop):Qd:=⟨Nat,λb=>y b n n,λb W=>lo<=b/\∃cs:Array M,cs.size=n/\W.heap[b]?=I (Q cs ty)/\φ cs.toList W⟩
theorem Qz(lo n:Nat)(ty:TypeId)(φ:List M->Y->Prop)(b:Nat):(kQ lo n ty φ).f b=y b n n:=rfl
theorem Kx(hφ:∀l,zy (φ l)):∀p,zy ((kQ lo n ty φ).φ p):=λp W W' he ⟨h1,cs,h2,h3,h4⟩=>
 ⟨h1,cs,h2,(Below.block he p (zG.1 h3).1).trans h3,hφ _ _ _ he h4⟩
theorem Tl{cs:Array M}(hr:(execOp a.eval o).run P W=.ok (.value (y W n' n')) (W.alloc (Q cs ty)))(hlo:lo'<=W)(hn:cs.size=n')(hφ:φ cs.toList (W.alloc (Q cs ty))):vS P o a W (kQ lo' n' ty φ):=by unfold vS;rw[hr];exact⟨W.heap.size,rfl,⟨hlo,cs,hn,zI _ _ _ rfl,hφ⟩,zN _ _⟩
def VI(ls:List (List UInt8))(vs:List M)(W:Y):Prop:=vs.length=ls.length/\∀(i:Nat)(v:M)(l:List UInt8),vs[i]?=v->ls[i]?=l->Bys W W v l
theorem VI.stable(ls:List (List UInt8))(vs:List M):zy (VI ls vs):=λ_ _ he h=>⟨h.1,λi v l h1 h2=>((h.2 i v l h1 h2).below he).more he.size⟩
theorem Bys.lit{b:Nat}(h:W.heap[b]?=I (Q (l.map bv).toArray ty (0,0)))(hl:l.length<=maxLen):Bys W W (y b l.length l.length) l:=
 ⟨_,_,rfl,zM _,hl,zA3,λ_=>⟨b,0,rfl,(zG.1 h).1,λj u hu=>by rw[qa h];simpa using hu⟩⟩
theorem Rd.row{b:Nat}{cs:Array M}(h:W.heap[b]?=I (Q cs ty))(n:Nat)(hn:cs.size=n):Rd W W 1 b n cs.toList:=
 ⟨by simp[hn],λ_=>⟨b,0,rfl,(zG.1 h).1,λj u hu=>by rw[qa h];simpa using hu⟩⟩
set_option maxRecDepth 100000 in
theorem qlf(v:Vol)(hv:XH v)(w:Y):Calls prog 66 #[Ve v] w (zv (IsI w 1 v.id 0 0 (QR v)) w):=by
 obtain⟨vi,vr,vf,vm⟩:=v;obtain⟨⟨hi1,hi2⟩,⟨hr1,hr2⟩,⟨hm1,hm2⟩⟩:=hv;dsimp only at*;obtain⟨r,rfl⟩:=Int.eq_ofNat_of_zero_le hr1;obtain⟨m,rfl⟩:=Int.eq_ofNat_of_zero_le hm1;have HB:Hid (QR ⟨vi,r,vf,m⟩=[qT r 2,[if vf then 1 else 0],qT m 4].flatten):=by refine zH ?_;simp[QR]
 have HL:Hid ((QR ⟨vi,r,vf,m⟩).length=7):=zH (kZ _);have l2:=QV 2 r;have l4:=QV 4 m;replace⟨l2,l4⟩:=zH2 l2 l4;generalize QR ⟨vi,r,vf,m⟩=vb at*;cases vf
 ·go_enter func66,ntmps66;go_wp2_with fail;generalize hw1:(Oa (Oa _ _) _)=w1;have b1:Ext w w1:=by rw[<-hw1];exact(zN _ _).trans (zN _ _)
  have r1:w1.heap[w.heap.size]?=I (Q #[D F vi,r,.bool U,D F m] 36):=by rw[<-hw1];exact(zK _ _ _ zA3).trans (zI _ _ _ rfl)
  have q1:w1.heap[w.heap.size+1]?=I (Q #[D .u8 0,D F 0,D F 0,D X 0,y O 0 0] 51):=hw1▸zI _ _ _ zA3;clear hw1;refine(qgB r zO _).mono ?_;rintro e w2 ⟨u,rfl,⟨u2,rfl,A2,c2,rfl,hb2,hf2⟩,hB⟩;have b2:Ext w w2:=Ext.trans b1 hB;have r2:=qb r1 hB;have q2:=qb q1 hB;have k2:=qa r2;have s2:w.heap.size+1<w2:=(zG.1 q2).1;clear hB b1 r1 q1;go_wp2;have hE:∀W,Ext w2 W->∀j,W.cell? ⟨w,j,O⟩=#[D F vi,r,.bool U,D F m][j]?:=λW h=>qa (qb r2 h);clear k2;refine ZC (qV [(5,ZY w2.heap.size 1 5 #[D .u8 0]),(8,XQ w2.heap.size 4 (qT m 4)),(9,kQ w2.heap.size 3 26 (VI [qT r 2,[0],qT m 4])),(10,XQ w2.heap.size 7 vb)]) 12 zQ zQ zQ zA1 zQ zQ ?st ?walk
  case st=>exact ZR (by simp only[List.forall_mem_cons];exact⟨jw _ _ _ _,JF _ _ _,Kx (VI.stable _),JF _ _ _,λ_ h=>by cases h⟩)
  case walk=>
   intro K hK;dsimp only[List.take];refine zB3 ?_;refine QT (ZY w2.heap.size 1 5 #[D .u8 0]) zA0 zA0 (λW hW _=>?_) (λ(p5:Nat)=>?_)
   ·refine Xg ?_ hW.size;go_simp
   refine zB3 ?_;refine QT (XQ w2.heap.size 4 (qT m 4)) zA0 zA0 (λW hW _=>?_) (λp8=>?_)
   ·refine Za ?_ ((Tg m zO W).mono λe w' h=>?_)
    ·go_simp
    obtain⟨u,rfl,⟨A,c,rfl,h1,h2⟩,h3⟩:=h;exact⟨(A,c),rfl,⟨h1,h2.mono hW.size⟩,h3⟩
   obtain⟨A8,c8⟩:=p8;simp only[Act.put,qf,qc,qh,qv,Qz,QU,zA,zB,zC];refine QT (kQ w2.heap.size 3 26 (VI [qT r 2,[0],qT m 4])) zA0 zA0 (λW hW hp=>?_) (λ(p9:Nat)=>?_)
   ·have f5:=(hp 5 zA1).1;have f8:=(hp 8 zA1).1;obtain⟨f5,_⟩:W.heap[p5]?=I (Q #[D .u8 0] 5)/\w2.heap.size<=p5:=f5;obtain⟨f8,_⟩:Bys W W (y A8 4 c8) (qT m 4)/\_:=f8;have hR:VI [qT r 2,[0],qT m 4] [y A2 2 c2,y p5 1 1,y A8 4 c8] W:=by
     refine⟨rfl,λi v l hv hl=>?_⟩;have wGG:Bys W W (y p5 1 1) [(0:UInt8)]:=Bys.lit (l:=[(0:UInt8)]) f5 (by simp[maxLen]);rcases i with _|_|_|i
     simp at hv hl;subst hv;subst hl;exact(hb2.below hW).more hW.size;simp at hv hl;subst hv;subst hl;exact wGG;simp at hv hl;subst hv;subst hl;exact f8;simp at hv
    refine Tl (cs:=#[y A2 2 c2,y (I ⟨p5,0,O⟩) 1 1,y A8 4 c8]) ?_ hW.size rfl ?_
    ·go_simp
    exact VI.stable _ _ _ _ (zN _ _) hR
   simp only[Act.put,qf,qc,qh,qv,Qz,QU,zA,zB,zC];refine QT (XQ w2.heap.size 7 vb) zA0 zA0 (λW hW hp=>?_) (λp10=>?_)
   ·obtain⟨_,cs,hcs,hAH,hR⟩:=(hp 9 zA1).1;have hlen:[qT r 2,[(0:UInt8)],qT m 4].flatten.length=7:=by simp[l2.out,l4.out]
    refine Za ?_ ((KU (I ⟨p9,0,O⟩) 3 3 cs.toList [qT r 2,[0],qT m 4] (by simpa using hcs) rfl W (Rd.row hAH 3 hcs) (λi v l h1 h2=>hR.2 i v l h1 h2) zO zO).mono λe w' h=>?_)
    ·go_simp
    rw[hlen]at h;obtain⟨p,h1,h2,h3⟩:=Tv h hW.size;have HB':=HB.out;simp only[Bool.false_eq_true,if_false]at HB';rw[<-HB']at h1 h2;exact⟨p,h1,h2,h3⟩
   obtain⟨A10,c10⟩:=p10;refine zB3 ?_;refine jk (hK _ _ λW hW hF=>?_);obtain⟨f10,g10⟩:Bys W W (y A10 7 c10) vb/\ZV w2 (y A10 7 c10):=(hF 10).1;clear hF hK hE;have b3:Ext w W:=b2.trans hW;have q3:=qb q2 hW;have kq:=qa q3;have fq:=qd q3;dsimp only[List.drop];go_wp2;have hgt:w.heap.size+1<w2:=s2;have hby:=((((f10.setCell g10 (p:=⟨w.heap.size+1,0,O⟩) hgt (D .u8 1)).setCell g10 (p:=⟨w.heap.size+1,1,O⟩) hgt (D F vi)).setCell g10 (p:=⟨w.heap.size+1,2,O⟩) hgt (D F 0)).setCell g10 (p:=⟨w.heap.size+1,3,O⟩) hgt (D X 0)).setCell g10 (p:=⟨w.heap.size+1,4,O⟩) hgt (y A10 7 c10);have rf:=qj (qj (qj (qj (qj q3 0 (D .u8 1)) 1 (D F vi)) 2 (D F 0)) 3 (D X 0)) 4 (y A10 7 c10);have b3':Below w w W:=b3;have bf:Below w w (((((W.setCell (w,1,0) (D .u8 1)).setCell (w,1,1) (D F vi)).setCell (w,1,2) (D F 0)).setCell (w,1,3) (D X 0)).setCell (w,1,4) (y A10 7 c10)):=zA5;have hsz:(((((W.setCell (w,1,0) (D .u8 1)).setCell (w,1,1) (D F vi)).setCell (w,1,2) (D F 0)).setCell (w,1,3) (D X 0)).setCell (w,1,4) (y A10 7 c10)).heap.size=W:=zA3;generalize hwf:(E (E (E (E (E W _ _) _ _) _ _) _ _) _ _)=wf at*;have kf:=qa rf;rw[<-hsz]at hby;exact bodyPost_ret (v:=Yc 1 vi 0 0 A10 7 c10) (by simp[results,results66,go_sem,kf]) rfl ⟨_,rfl,⟨A10,c10,by rw[HL.out],by rw[HL.out];exact hby,by rw[HL.out];exact g10.mono zO⟩,bf⟩
 go_enter func66,ntmps66;go_wp2_with fail;generalize hw1:(Oa (Oa _ _) _)=w1;have b1:Ext w w1:=by rw[<-hw1];exact(zN _ _).trans (zN _ _)
 have r1:w1.heap[w.heap.size]?=I (Q #[D F vi,r,.bool Z,D F m] 36):=by rw[<-hw1];exact(zK _ _ _ zA3).trans (zI _ _ _ rfl)
 have q1:w1.heap[w.heap.size+1]?=I (Q #[D .u8 0,D F 0,D F 0,D X 0,y O 0 0] 51):=hw1▸zI _ _ _ zA3;clear hw1;refine(qgB r zO _).mono ?_;rintro e w2 ⟨u,rfl,⟨u2,rfl,A2,c2,rfl,hb2,hf2⟩,hB⟩;have b2:Ext w w2:=Ext.trans b1 hB;have r2:=qb r1 hB;have q2:=qb q1 hB;have k2:=qa r2;have s2:w.heap.size+1<w2:=(zG.1 q2).1;clear hB b1 r1 q1;go_wp2;have hE:∀W,Ext w2 W->∀j,W.cell? ⟨w,j,O⟩=#[D F vi,r,.bool Z,D F m][j]?:=λW h=>qa (qb r2 h);clear k2;refine ZC (qV [(5,ZY w2.heap.size 1 5 #[D .u8 1]),(8,XQ w2.heap.size 4 (qT m 4)),(9,kQ w2.heap.size 3 26 (VI [qT r 2,[1],qT m 4])),(10,XQ w2.heap.size 7 vb)]) 12 zQ zQ zQ zA1 zQ zQ ?st ?walk
 case st=>exact ZR (by simp only[List.forall_mem_cons];exact⟨jw _ _ _ _,JF _ _ _,Kx (VI.stable _),JF _ _ _,λ_ h=>by cases h⟩)
 case walk=>
  intro K hK;dsimp only[List.take];refine zB3 ?_;refine QT (ZY w2.heap.size 1 5 #[D .u8 1]) zA0 zA0 (λW hW _=>?_) (λ(p5:Nat)=>?_)
  ·refine Xg ?_ hW.size;go_simp
  refine zB3 ?_;refine QT (XQ w2.heap.size 4 (qT m 4)) zA0 zA0 (λW hW _=>?_) (λp8=>?_)
  ·refine Za ?_ ((Tg m zO W).mono λe w' h=>?_)
   ·go_simp
   obtain⟨u,rfl,⟨A,c,rfl,h1,h2⟩,h3⟩:=h;exact⟨(A,c),rfl,⟨h1,h2.mono hW.size⟩,h3⟩
  obtain⟨A8,c8⟩:=p8;simp only[Act.put,qf,qc,qh,qv,Qz,QU,zA,zB,zC];refine QT (kQ w2.heap.size 3 26 (VI [qT r 2,[1],qT m 4])) zA0 zA0 (λW hW hp=>?_) (λ(p9:Nat)=>?_)
  ·have f5:=(hp 5 zA1).1;have f8:=(hp 8 zA1).1;obtain⟨f5,_⟩:W.heap[p5]?=I (Q #[D .u8 1] 5)/\w2.heap.size<=p5:=f5;obtain⟨f8,_⟩:Bys W W (y A8 4 c8) (qT m 4)/\_:=f8;have hR:VI [qT r 2,[1],qT m 4] [y A2 2 c2,y p5 1 1,y A8 4 c8] W:=by
    refine⟨rfl,λi v l hv hl=>?_⟩;have wGG:Bys W W (y p5 1 1) [(1:UInt8)]:=Bys.lit (l:=[(1:UInt8)]) f5 (by simp[maxLen]);rcases i with _|_|_|i
    simp at hv hl;subst hv;subst hl;exact(hb2.below hW).more hW.size;simp at hv hl;subst hv;subst hl;exact wGG;simp at hv hl;subst hv;subst hl;exact f8;simp at hv
   refine Tl (cs:=#[y A2 2 c2,y (I ⟨p5,0,O⟩) 1 1,y A8 4 c8]) ?_ hW.size rfl ?_
   ·go_simp
   exact VI.stable _ _ _ _ (zN _ _) hR
  simp only[Act.put,qf,qc,qh,qv,Qz,QU,zA,zB,zC];refine QT (XQ w2.heap.size 7 vb) zA0 zA0 (λW hW hp=>?_) (λp10=>?_)
  ·obtain⟨_,cs,hcs,hAH,hR⟩:=(hp 9 zA1).1;have hlen:[qT r 2,[(1:UInt8)],qT m 4].flatten.length=7:=by simp[l2.out,l4.out]
   refine Za ?_ ((KU (I ⟨p9,0,O⟩) 3 3 cs.toList [qT r 2,[1],qT m 4] (by simpa using hcs) rfl W (Rd.row hAH 3 hcs) (λi v l h1 h2=>hR.2 i v l h1 h2) zO zO).mono λe w' h=>?_)
   ·go_simp
   rw[hlen]at h;obtain⟨p,h1,h2,h3⟩:=Tv h hW.size;have HB':=HB.out;simp only[if_false,if_true]at HB';rw[<-HB']at h1 h2;exact⟨p,h1,h2,h3⟩
  obtain⟨A10,c10⟩:=p10;refine zB3 ?_;refine jk (hK _ _ λW hW hF=>?_);obtain⟨f10,g10⟩:Bys W W (y A10 7 c10) vb/\ZV w2 (y A10 7 c10):=(hF 10).1;clear hF hK hE;have b3:Ext w W:=b2.trans hW;have q3:=qb q2 hW;have kq:=qa q3;have fq:=qd q3;dsimp only[List.drop];go_wp2;have hgt:w.heap.size+1<w2:=s2;have hby:=((((f10.setCell g10 (p:=⟨w.heap.size+1,0,O⟩) hgt (D .u8 1)).setCell g10 (p:=⟨w.heap.size+1,1,O⟩) hgt (D F vi)).setCell g10 (p:=⟨w.heap.size+1,2,O⟩) hgt (D F 0)).setCell g10 (p:=⟨w.heap.size+1,3,O⟩) hgt (D X 0)).setCell g10 (p:=⟨w.heap.size+1,4,O⟩) hgt (y A10 7 c10);have rf:=qj (qj (qj (qj (qj q3 0 (D .u8 1)) 1 (D F vi)) 2 (D F 0)) 3 (D X 0)) 4 (y A10 7 c10);have b3':Below w w W:=b3;have bf:Below w w (((((W.setCell (w,1,0) (D .u8 1)).setCell (w,1,1) (D F vi)).setCell (w,1,2) (D F 0)).setCell (w,1,3) (D X 0)).setCell (w,1,4) (y A10 7 c10)):=zA5;have hsz:(((((W.setCell (w,1,0) (D .u8 1)).setCell (w,1,1) (D F vi)).setCell (w,1,2) (D F 0)).setCell (w,1,3) (D X 0)).setCell (w,1,4) (y A10 7 c10)).heap.size=W:=zA3;generalize hwf:(E (E (E (E (E W _ _) _ _) _ _) _ _) _ _)=wf at*;have kf:=qa rf;rw[<-hsz]at hby;exact bodyPost_ret (v:=Yc 1 vi 0 0 A10 7 c10) (by simp[results,results66,go_sem,kf]) rfl ⟨_,rfl,⟨A10,c10,by rw[HL.out],by rw[HL.out];exact hby,by rw[HL.out];exact g10.mono zO⟩,bf⟩
def qp:Rel where
 rel:=Ext
 refl':=Ext.refl
 trans':=Ext.trans
 drew':=Ext.drew
theorem QA{φ:Y->Prop}(h:zy φ):qU qp φ:=λW W' he=>h W W' he
theorem jl{cs:Array M}(hr:(execOp a.eval o).run P W=.ok (.value (.pointer W)) (W.alloc (Q cs ty)))(hlo:lo'<=W):Qw qp P o a W (jx lo' ty cs):=by unfold Qw;rw[hr];exact⟨W.heap.size,rfl,⟨zI _ _ _ rfl,hlo⟩,zN _ _⟩
def VB(B:Nat)(ty:TypeId)(vs:Nat->Option M):Rel where
 rel W W':=W.grownBy W' (I B)/\∀cs,W.heap[B]?=I (Q cs ty)->∃cs',W'.heap[B]?=I (Q cs' ty)/\cs'.size=cs.size/\∀j,cs'[j]?=cs[j]?\/(vs j≠O/\cs'[j]?=vs j)
 refl' W:=⟨World.grownBy.refl _ _,λcs h=>⟨cs,h,rfl,λ_=>.inl rfl⟩⟩
 trans' h k:=⟨h.1.trans k.1,λcs hc=>by
  obtain⟨c1,h1,h2,h3⟩:=h.2 cs hc;obtain⟨c2,k1,k2,k3⟩:=k.2 c1 h1;refine⟨c2,k1,k2.trans h2,λj=>?_⟩;rcases k3 j with e|e
  rw[e];exact h3 j
  ·exact .inr e⟩
 drew' W:=⟨⟨rfl,rfl,rfl,zM _,λ_ _ _=>rfl⟩,λcs h=>⟨cs,h,rfl,λ_=>.inl rfl⟩⟩
section
variable {B:Nat} {ty:TypeId} {vs:Nat->Option Value}
theorem qaY{W W':Y}(h:Ext W W'):(VB B ty vs).r W W':=⟨ZN h _,λcs hc=>⟨cs,qb hc h,rfl,λ_=>.inl rfl⟩⟩
theorem Gq{W W':Y}(h:(VB B ty vs).r W W'){p:Addr}{u:M}(hp:p.block≠B)(hc:W.cell? p=u):W'.cell? p=u:=
 World.grownBy.cell h.1 hc (λx=>hp (by simpa using x))
theorem Zw{W W':Y}(h:(VB B ty vs).r W W'){b:Nat}{o:Obj}(hp:b≠B)(hc:W.heap[b]?=o):W'.heap[b]?=o:=
 (h.1.block b (zG.1 hc).1 (λx=>hp (by simpa using x))).trans hc
theorem qhi{W:Y}{cs:Array M}{j:Nat}{v:M}(h:W.heap[B]?=I (Q cs ty))(hv:vs j=v)(hj:j<cs.size):(VB B ty vs).r W (W.setCell (B,j) v)/\(W.setCell (B,j) v).cell? (B,j)=v:=by have hr:=qj h j v;refine⟨⟨⟨rfl,rfl,rfl,zA3,λk _ hk=>zJ _ _ _ _ (λe=>hk (by simp at e;rw[e]))⟩,λcs' hc=>?_⟩,?_⟩;rw[h]at hc;simp only[Option.some.injEq,Obj.cells.injEq,and_true]at hc;subst hc;refine⟨_,hr,zA3,λk=>?_⟩;by_cases hk:j=k;subst hk;exact .inr ⟨by rw[hv];simp,by rw[hv];simp[hj]⟩;exact .inl (by simp[hk]);rw[qa hr];simp[hj]
end
def Vv(B:Nat)(ty:TypeId)(j:Nat)(v:M):Qd:=⟨Unit,λ_=>undef,λ_ W=>∃cs,W.heap[B]?=I (Q cs ty)/\cs[j]?=v⟩
theorem Jd(B:Nat)(ty:TypeId)(j:Nat)(v:M)(u:Unit):(Vv B ty j v).f u=undef:=rfl
theorem vd(hv:vs j=v):∀p,qU (VB B ty vs) ((Vv B ty j v).φ p):=by
 intro p W W' he ⟨cs,h1,h2⟩;obtain⟨c',k1,_,k3⟩:=he.2 cs h1;refine⟨c',k1,?_⟩;rcases k3 j with e|e
 rw[e];exact h2;rw[e.2];exact hv
theorem Kt{cs:Array M}(h0:w.heap[B]?=I (Q cs ty))(hW:(VB B ty vs).r w W)(hv:vs j=v)(hj:j<cs.size)(hr:(∀i,W.frozen? ⟨B,i,O⟩=U)->(∃u,W.cell? (B,j)=I u)->(execOp a.eval o).run P W=.ok .skip (W.setCell (B,j) v)):Qw (VB B ty vs) P o a W (Vv B ty j v):=by obtain⟨c',k1,k2,k3⟩:=hW.2 cs h0;obtain⟨g1,g2⟩:=qhi (vs:=vs) k1 hv zO;refine JM (hr (qd k1) ⟨_,by rw[qa k1,Array.getElem?_eq_getElem zO]⟩) ⟨(),rfl,?_,g1⟩;exact⟨_,qj k1 j v,by rw[Array.getElem?_setIfInBounds];simp[k2,hj]⟩
section
variable {B:Nat} {ty:TypeId} {cs:Array Value}
end
theorem QP{b j:Nat}:w.grownBy (w.setCell (b,j) v) (I b):=⟨rfl,rfl,rfl,zA3,λk _ hk=>zJ _ _ _ _ (λe=>hk (by simp at e;rw[e]))⟩
def qeZ(lo:Nat)(k i o r:Int)(n:Nat)(l:List UInt8):Qd:=⟨OA×Nat,λp=>.agg #[D .u8 k,D F i,D F o,r,y p.1 n p.2],λp W=>Bys W W (y p.1 n p.2) l/\ZV lo (y p.1 n p.2)⟩
theorem jh(lo:Nat)(k i o r:Int)(n:Nat)(l:List UInt8)(A c):(qeZ lo k i o r n l).f (A,c)=.agg #[D .u8 k,D F i,D F o,r,y A n c]:=rfl
theorem QI{b j:Nat}{cs:Array M}(h:w.heap[b]?=I (Q cs ty))(hv:cs[j]?=v):Ext w (w.setCell (b,j) v):=by
 refine⟨rfl,rfl,rfl,zA3,λk _=>?_⟩;by_cases hk:k=b;subst hk;rw[qj h j v,h];obtain⟨hj,e⟩:=zG.1 hv;have:cs.setIfInBounds j v=cs:=by apply Array.ext_getElem?;intro i;rw[Array.getElem?_setIfInBounds];split;rename_i hi;rw[<-hi];simp[hj,e];rfl
 rw[this];exact zJ _ _ _ _ hk
def VolP(x:It)(u:M)(_:Y):Prop:=∃v',u=.tuple #[Ve v',.bool (Gu x)]/\(Gu x=Z->v'=YS x)
theorem qbi(h:x.val.length<7):Gu x=U:=by unfold Gu;rw[decide_eq_false zO];rfl
theorem qjL(h:7<=x.val.length):Gu x=qbz 1 x.i 0 0 x.k x.i x.o x.r (QR (YS x)) x.val:=by
 unfold Gu;by_cases h7:x.val.length=7;rw[decide_eq_true h7,Bool.true_and];rw[decide_eq_false h7,Bool.false_and]
 symm
 unfold qbz;rw[decide_eq_false];rintro⟨_,_,_,_,e⟩;have:=congrArg List.length e;rw[kZ]at this;omega
theorem qiQ(hx:QW x)(h:7<=x.val.length):XH (YS x):=by have r0:=VS (l:=x.val) (a:=0) (k:=2) zO;have r3:=VS (l:=x.val) (a:=3) (k:=4) zO;exact⟨hx.2.1,⟨r0.1,r0.2⟩,⟨r3.1,r3.2⟩⟩
set_option maxRecDepth 100000 in
theorem qky(x:It)(hx:QW x)(A c)(w:Y)(h:Bys w w (y A x.val.length c) x.val):Calls prog 162 #[Yc x.k x.i x.o x.r A x.val.length c] w (zv (VolP x) w):=by
 have H2:∀W,Ext w W->_:=λW hW=>qcE _ x.val 0 zO W ((h.below hW).more hW.size);have H4:∀W,Ext w W->_:=λW hW=>KZ _ x.val 3 zO W ((h.below hW).more hW.size);replace⟨H2,H4⟩:=zH2 H2 H4;have HV:=zH h;have hcat:=h.at_;clear h;have hAG:∀j,(hj:j<x.val.length)->∃b off,A=I ⟨b,off,O⟩/\w.cell? ⟨b,off+j,O⟩=I (D .u8 (x.val[j].toNat:Int)):=by intro j hj;obtain⟨A',c',e,_,_,hr⟩:=HV.out;cases e;obtain⟨b,off,rfl,hb,hc⟩:=hr.2 zO;exact⟨b,off,rfl,hc j _ (by rw[List.getElem?_map,zL hj];rfl)⟩
 replace hAG:=zH hAG;have HN2:Hid (Gd x.val 0 2=if 2<=x.val.length then 0 else 8):=zH (by unfold Gd;rw[Nat.zero_add]);have HN4:Hid (Gd x.val 3 4=if 7<=x.val.length then 0 else 8):=zH (by unfold Gd;rfl);have HVA:Hid (YS x=⟨x.i,ZE x.val 0 2,decide ((x.val[2]?.getD 0).toNat=1),ZE x.val 3 4⟩):=rfl;have HP0:Hid (x.val.length<7->∀W,VolP x (.tuple #[Ve ⟨0,0,U,0⟩,.bool U]) W):=zH (λh W=>⟨_,by rw[qbi h],λh'=>by rw[qbi h]at h';cases h'⟩);have HP1:Hid (7<=x.val.length->∀W,VolP x (.tuple #[Ve (YS x),.bool (qbz 1 x.i 0 0 x.k x.i x.o x.r (QR (YS x)) x.val)]) W):=zH (λh W=>⟨_,by rw[qjL h],λ_=>rfl⟩);have HON:=zH (λh=>qlf (YS x) (qiQ hx h));replace hx:=zH hx;generalize hva:YS x=va at*;replace hva:=zH hva;generalize ZE x.val 0 2=n2 at*;generalize ZE x.val 3 4=n4 at*;generalize Gd x.val 0 2=e2 at*;generalize Gd x.val 3 4=e4 at*;go_enter func162,ntmps162;go_wp2_with fail;generalize hw1:(Oa (Oa _ _) _)=w1;have b1:Ext w w1:=by rw[<-hw1];exact(zN _ _).trans (zN _ _)
 have r1:w1.heap[w.heap.size]?=I (Q #[D .u8 x.k,D F x.i,D F x.o,D X x.r,y A x.val.length c] 51):=by rw[<-hw1];exact(zK _ _ _ zA3).trans (zI _ _ _ rfl)
 have q1:w1.heap[w.heap.size+1]?=I (Q #[D F x.i,D X 0,.bool U,D F 0] 36):=hw1▸zI _ _ _ zA3;clear hw1;refine(H2.out _ b1).mono ?_;rintro e w2 ⟨rfl,hB⟩;have b2:Ext w w2:=Ext.trans b1 hB;have r2:=qb r1 hB;have q2:=qb q1 hB;have k2:=qa r2;clear hB b1 r1 q1 H2;go_wp2_with fail;clear k2;refine(H4.out _ b2).mono ?_;rintro e w3 ⟨rfl,hB⟩;have b3:Ext w w3:=Ext.trans b2 hB;have r3:=qb r2 hB;have q3:=qb q2 hB;have s3:w.heap.size+1<w3:=(zG.1 q3).1;have k3:=qa r3;have kq3:=qa q3;have fq3:=qd q3;clear hB b2 r2 q2 H4;by_cases h7:7<=x.val.length
 ·obtain rfl:e2=0:=by rw[HN2.out,if_pos zO]
  obtain rfl:e4=0:=by rw[HN4.out,if_pos h7]
  obtain⟨b,off,rfl,hc2⟩:=hAG.out 2 zO;have e2':(x.val[2]?.getD 0).toNat=x.val[2].toNat:=by rw[zL zO];rfl
  rw[e2']at HVA;clear HN2 HN4 HP0 hAG e2';generalize x.val[2].toNat=p2 at*;go_wp2;obtain⟨RR,hRR⟩:∃RR:Rel,RR=VB (↑w+1) 36 (λj=>if j=1 then I (D X n2)else if j=2 then I (.bool (decide (p2=1)))else if j=3 then I (D F n4)else O):=⟨_,rfl⟩
  replace hRR:=zH hRR;have g1:∀W,RR.r w3 W->W.cell? (w,4)=I (y (b,off) x.val.length c):=λW h=>Gq (hRR.out▸h) zA3 (by rw[k3];rfl);have hbw:b≠w+1:=by have:=World.block_lt_of_cell? w _ hc2;simp at this;omega
  have g2:∀W,RR.r w3 W->W.cell? (b,off+2)=I (D .u8 (p2:Int)):=λW h=>Gq (hRR.out▸h) hbw (Ext.cell b3 hc2);have hq1:((p2:Int)==1)=decide (p2=1):=by rw[Bool.eq_iff_iff];simp;omega
  have i2:(2:Int)<(x.val.length:Int):=zO;refine qw zQ ?_;refine jj (w:=w3) RR (qV [(8,Vv (w.heap.size+1) 36 1 (D X n2)),(10,Vv (w.heap.size+1) 36 2 (.bool (decide (p2=1)))),(12,Vv (w.heap.size+1) 36 3 (D F n4))])
   [Z,Z,Z,Z,Z,Z,Z,Z,Z,Z,Z,Z,Z] 0 zQ zQ zQ zQ zQ zQ ?st (Rel.drew _ _) ?walk
  case st=>rw[hRR.out];exact ql (by simp only[List.forall_mem_cons];exact⟨vd rfl,vd rfl,vd rfl,λ_ h=>by cases h⟩)
  case walk=>
   intro K hK;dsimp only[qA];refine zB4 ?_;refine qH (Vv (w.heap.size+1) 36 1 (D X n2)) zA0 zA0 (λW hW _=>?_) (λp=>?_)
   ·rw[hRR.out]at hW⊢;refine Kt (j:=1) q3 hW rfl zA3 (λhf hu=>?_);obtain⟨u,hu⟩:=hu;go_simp
   cases p;refine zB4 ?_;refine qH (Vv (w.heap.size+1) 36 2 (.bool (decide (p2=1)))) zA0 zA0 (λW hW _=>?_) (λp=>?_)
   ·rw[hRR.out]at hW⊢;refine Kt (j:=2) q3 hW rfl zA3 (λhf hu=>?_);obtain⟨u,hu⟩:=hu;go_simp
   cases p;refine zB4 ?_;refine qH (Vv (w.heap.size+1) 36 3 (D F n4)) zA0 zA0 (λW hW _=>?_) (λp=>?_)
   ·rw[hRR.out]at hW⊢;refine Kt (j:=3) q3 hW rfl zA3 (λhf hu=>?_);obtain⟨u,hu⟩:=hu;go_simp
   cases p;refine zB4 ?_;refine qF (hK _ _ λW0 hW hF=>?_);have f1:=(hF 8).1;have f2:=(hF 10).1;have f3:=(hF 12).1;clear hF hK g1 g2;rw[hRR.out]at hW;have r4:=Zw hW zA3 r3;obtain⟨cs,q4,hcs,hcv⟩:=hW.2 _ q3;obtain rfl:cs=#[D F x.i,n2,.bool (decide (p2=1)),D F n4]:=by
    have e0:=hcv 0;simp at e0;obtain⟨c1,h1,h1'⟩:=f1;obtain⟨c2,h2,h2'⟩:=f2;obtain⟨c3,h3,h3'⟩:=f3;rw[q4]at h1 h2 h3;simp only[Option.some.injEq,Obj.cells.injEq,and_true]at h1 h2 h3;subst h1;subst h2;apply Array.ext_getElem?;intro j;rcases j with _|_|_|_|j
    rw[e0];rfl;exact h1';exact h2';rw[<-h3]at h3';exact h3';rw[Array.getElem?_eq_none (by rw[hcs];simp),Array.getElem?_eq_none zA3]
   have bW:Below w w W0:=Below.trans b3 ((Below.refl _ _).grown hW.1 zO (λg hg=>by simp at hg;omega));refine zB5 ?_;go_wp2;refine Qt ?_;go_wp2;have HO:=zH (HON.out h7);have HP:=HP1.out h7;have hvbl:=kZ va;have hvx:=(HV.out.below bW).more bW.size;have ea:=HVA.out;clear HON HP1 HVA hva HV;subst ea;dsimp only at HO HP;generalize QR _=vb at*;replace HO:=zH HO.out;have HSM:=zH (λA c W (hA:Bys W W.heap.size (y A 7 c) vb) (hW2:Ext W0 W)=>qmc 1 x.i 0 0 x.k x.i x.o x.r A (I ⟨b,off,O⟩) 7 c x.val.length _ vb x.val W hA ((hvx.below hW2).more hW2.size));generalize qbz 1 x.i 0 0 x.k x.i x.o x.r vb x.val=S at*;have hr5:∀W',Ext W0 W'->∀j,W'.cell? ⟨w,j,O⟩=#[D .u8 x.k,D F x.i,D F x.o,D X x.r,y (b,off) x.val.length c][j]?:=λW' h=>qa (qb r4 h);have hq5:∀W',Ext W0 W'->∀j,W'.cell? ⟨w.heap.size+1,j,O⟩=#[D F x.i,n2,.bool (decide (p2=1)),D F n4][j]?:=λW' h=>qa (qb q4 h);replace HP:=zH HP;generalize hdp:decide (p2=1)=fz at*;clear hdp;refine qw zQ ?_;refine jj (w:=W0) qp (qV [(2,outI 1 x.i 0 0 7 vb),(4,one (.bool S)),(5,one undef)])
    [Z,Z,Z,Z,Z,Z] 1 zQ zQ zQ zQ zQ zQ ?st (Rel.drew _ _) ?walk
   case st=>exact ql (by simp only[List.forall_mem_cons];exact⟨λp=>QA (qio _ _ _ _ _ _ p),λp=>QA (jv _ p),λp=>QA (jv _ p),λ_ h=>by cases h⟩)
   case walk=>
    intro K hK;dsimp only[qA];have hr6:∀W',qp.r W0 W'->∀j,W'.cell? ⟨w,j,O⟩=#[D .u8 x.k,D F x.i,D F x.o,D X x.r,y (b,off) x.val.length c][j]?:=hr5;have hq6:∀W',qp.r W0 W'->∀j,W'.cell? ⟨w.heap.size+1,j,O⟩=#[D F x.i,n2,.bool fz,D F n4][j]?:=hq5;refine zB4 ?_;refine qH (outI 1 x.i 0 0 7 vb) zA0 zA0 (λW hW _=>?_) (λp=>?_)
    ·refine Qh ?_ ((HO.out W).mono λe w' h=>?_)
     ·go_simp
     obtain⟨u,rfl,⟨A,c,rfl,h1,h2⟩,h3⟩:=h;rw[hvbl]at h1⊢;exact⟨(A,c),rfl,h1,h3⟩
    obtain⟨A2,c2⟩:=p;refine zB4 ?_;refine qH (one (.bool S)) zA0 zA0 (λW hW hp=>?_) (λp=>?_)
    ·have f2:Bys W W (y A2 7 c2) vb:=(hp 2 zA1).1;refine Qh ?_ ((HSM.out A2 c2 W f2 hW).mono λe w' h=>⟨(),h.1,trivial,h.2⟩);go_simp
    cases p;simp only[Act.put,qo,qc,qh,Jd,zA,zB,zC];refine qH (one undef) zA0 zA0 (λW hW hp=>?_) (λp=>?_)
    ·have q5:=qb q4 hW;have f5:=qd q5;have e0:=QI q5 (j:=0) rfl;have e1:=QI (qb q5 e0) (j:=1) rfl;have e2:=QI (qb (qb q5 e0) e1) (j:=2) rfl;have e3:=QI (qb (qb (qb q5 e0) e1) e2) (j:=3) rfl;refine JM (w':=(((W.setCell ⟨w.heap.size+1,0,O⟩ (D F x.i)).setCell ⟨w.heap.size+1,1,O⟩ (D X n2)).setCell ⟨w.heap.size+1,2,O⟩ (.bool fz)).setCell ⟨w.heap.size+1,3,O⟩ (D F n4)) ?_ ⟨(),rfl,trivial,e0.trans (e1.trans (e2.trans e3))⟩;go_simp
    cases p;simp only[Act.put,qf,qc,qh,Jd,zA,zB,zC];refine qF (hK _ _ λW hW hF=>?_);clear hF hK hr6 hq6 hr5 hq5;have hW':Ext W0 W:=hW;have q5:=qb q4 hW';have k5:=qa q5;refine zB5 ?_;go_wp2;refine Qt ?_;go_wp2;exact bodyPost_ret (v:=.tuple #[Ve ⟨x.i,n2,fz,n4⟩,.bool S]) (by simp[results,results162,go_sem,k5]) rfl ⟨_,rfl,HP.out W,Below.trans bW (Below.mono hW' (by have:=bW.size;omega))⟩
 have h4:e4=8:=by rw[HN4.out,if_neg h7]
 have h2:e2=0\/e2=8:=by rw[HN2.out];split<;>simp
 have hp:=HP0.out zO;replace hp:=zH hp;subst h4;clear HN2 HN4 HP0 HP1 HON hAG HVA;have b3':Below w w w3:=b3;rcases h2 with rfl|rfl
 ·go_wp2;have rf:=qj (qj (qj (qj q3 0 (D F 0)) 1 (D X 0)) 2 (.bool U)) 3 (D F 0);have bf:Below w w ((((w3.setCell (w,1,0) (D F 0)).setCell (w,1,1) (D X 0)).setCell (w,1,2) (.bool U)).setCell (w,1,3) (D F 0)):=zA5;generalize hwf:(E (E (E (E w3 _ _) _ _) _ _) _ _)=wf at*;have kf:=qa rf;exact bodyPost_ret (v:=.tuple #[Ve ⟨0,0,U,0⟩,.bool U]) (by simp[results,results162,go_sem,kf]) rfl ⟨_,rfl,hp.out wf,bf⟩
 go_wp2;have rf:=qj (qj (qj (qj q3 0 (D F 0)) 1 (D X 0)) 2 (.bool U)) 3 (D F 0);have bf:Below w w ((((w3.setCell (w,1,0) (D F 0)).setCell (w,1,1) (D X 0)).setCell (w,1,2) (.bool U)).setCell (w,1,3) (D F 0)):=zA5;generalize hwf:(E (E (E (E w3 _ _) _ _) _ _) _ _)=wf at*;have kf:=qa rf;exact bodyPost_ret (v:=.tuple #[Ve ⟨0,0,U,0⟩,.bool U]) (by simp[results,results162,go_sem,kf]) rfl ⟨_,rfl,hp.out wf,bf⟩
def GP(base:Nat)(e:TypeId)(size lo:Nat)(v:M)(m:Nat)(ys:List M):Qd:=⟨OA×Nat,λp=>y p.1 m p.2,λp W=>Done base e size lo v m ys (y p.1 m p.2) W⟩
theorem vy(base:Nat)(e:TypeId)(size lo:Nat)(v:M)(m:Nat)(ys:List M)(A c):(GP base e size lo v m ys).f (A,c)=y A m c:=rfl
theorem qbR{size lo:Nat}:∀p,qU (Ym base e size lo v n xs m ys) ((GP base e size lo v m ys).φ p):=λp _ _ he h=>he.2.2 _ h

def Bls(w:Y)(B:Nat)(v:M)(bs:List (List UInt8)):Prop:=
 ∃vs A c,v=y A bs.length c/\bs.length<=c/\c<=maxLen/\Rd w B 1 A bs.length vs/\∀(i:Nat)(u:M)(l:List UInt8),vs[i]?=u->bs[i]?=l->Bys w B u l
theorem Bls.below(h:Bls w B v bs)(hb:Below B w w'):Bls w' B v bs:=by obtain⟨vs,A,c,e,h1,h2,h3,h4⟩:=h;exact⟨vs,A,c,e,h1,h2,h3.below hb,λi u l hu hl=>(h4 i u l hu hl).below hb⟩
theorem Bls.more(h:Bls w B v bs)(hb:B<=B'):Bls w B' v bs:=by obtain⟨vs,A,c,e,h1,h2,h3,h4⟩:=h;exact⟨vs,A,c,e,h1,h2,h3.more hb,λi u l hu hl=>(h4 i u l hu hl).more hb⟩
theorem Bls.at_(h:Bls w B (y A n c) bs):n=bs.length/\n<=c/\c<=maxLen/\(0<n->∃b off,A=I ⟨b,off,O⟩/\b<B):=by obtain⟨vs,A',c',e,h1,h2,h3,_⟩:=h;cases e;refine⟨rfl,h1,h2,λhn=>?_⟩;obtain⟨b,off,e,hb,_⟩:=h3.2 hn;exact⟨b,off,e,hb⟩
theorem Bls.get{B b off n c:Nat}(h:Bls w B (y (b,off) n c) bs)(i:Nat)(hi:i<bs.length):∃A' c',w.cell? (b,off+i)=I (y A' bs[i].length c')/\Bys w B (y A' bs[i].length c') bs[i]:=by
 obtain⟨vs,A',c',e,h1,h2,h3,h4⟩:=h;cases e;have hv:i<vs.length:=by rw[h3.len1];exact hi
 obtain⟨b',off',e,hb,hc⟩:=h3.2 zO;cases e;have hby:=h4 i vs[i] bs[i] (zL hv) (zL hi);obtain⟨A2,c2,e2,g1,g2,g3⟩:=hby;exact⟨A2,c2,by rw[<-e2];exact hc i _ (zL hv),A2,c2,rfl,g1,g2,g3⟩
def jN:List ((Int×List UInt8)×M)->List M
 |[]=>[]
 |p::r=>D X p.1.1::p.2::jN r
theorem YZ(ps:List ((Int×List UInt8)×M)):(jN ps).length=ps.length*2:=by
 induction ps with
 |nil=>rfl
 |cons p r ih=>simp[jN,ih];omega
theorem Yy(ps:List ((Int×List UInt8)×M)):∀i (h:i<ps.length),(jN ps)[i*2]?=I (D X ps[i].1.1)/\(jN ps)[i*2+1]?=I ps[i].2:=by
 induction ps with
 |nil=>intro i h;simp at h
 |cons p r ih=>
  intro i h;rcases i with _|i
  simp[jN];have:=ih i (by simpa using h);rw[show(i+1)*2=i*2+2 by omega];simpa [jN]using this
def Wrs(w:Y)(B:Nat)(v:M)(ws:List (Int×List UInt8)):Prop:=
 ∃ps:List ((Int×List UInt8)×M),ps.map (·.1)=ws/\(∃A c,v=y A ws.length c/\ws.length<=c/\c<=maxLen/\Rd w B 2 A ws.length (jN ps))/\∀p∈ps,(∃A c,p.2=y A p.1.2.length c)/\Bys w B p.2 p.1.2
theorem Wrs.below(h:Wrs w B v ws)(hb:Below B w w'):Wrs w' B v ws:=by obtain⟨ps,e,⟨A,c,e1,e2,e3,hr⟩,hp⟩:=h;exact⟨ps,e,⟨A,c,e1,e2,e3,hr.below hb⟩,λp h=>⟨(hp p h).1,(hp p h).2.below hb⟩⟩
theorem Wrs.more(h:Wrs w B v ws)(hb:B<=B'):Wrs w B' v ws:=by obtain⟨ps,e,⟨A,c,e1,e2,e3,hr⟩,hp⟩:=h;exact⟨ps,e,⟨A,c,e1,e2,e3,hr.more hb⟩,λp h=>⟨(hp p h).1,(hp p h).2.more hb⟩⟩
theorem Wrs.at_(h:Wrs w B (y A n c) ws):n=ws.length/\n<=c/\c<=maxLen/\(0<n->∃b off,A=I ⟨b,off,O⟩/\b<B):=by obtain⟨ps,e,⟨A',c',e1,e2,e3,hr⟩,hp⟩:=h;cases e1;refine⟨rfl,e2,e3,λhn=>?_⟩;obtain⟨b,off,e,hb,_⟩:=hr.2 hn;exact⟨b,off,e,hb⟩
theorem Wrs.get{B b off n c:Nat}(h:Wrs w B (y (b,off) n c) ws)(i:Nat)(hi:i<ws.length):∃A' c',w.cell? (b,off+i*2)=I (D X ws[i].1)/\w.cell? (b,off+i*2+1)=I (y A' ws[i].2.length c')/\Bys w B (y A' ws[i].2.length c') ws[i].2:=by
 obtain⟨ps,e,⟨A,c',e1,e2,e3,hr⟩,hp⟩:=h;cases e1;subst e;have hi':i<ps.length:=by simpa using hi
 obtain⟨b',off',e,hb,hc⟩:=hr.2 zO;cases e;obtain⟨c0,c1⟩:=Yy ps i hi';obtain⟨⟨A',c',e5⟩,hby⟩:=hp ps[i] (List.getElem_mem hi');rw[e5]at c1 hby;refine⟨A',c',?_⟩;simp only[List.getElem_map];exact⟨hc _ _ c0,by rw[Nat.add_assoc];exact hc _ _ c1,hby⟩
def qaX(l:List UInt8):Bool:=decide (l.length=128)
def wrOk(x:Int×List UInt8):Bool:=decide (0<=x.1/\x.1<256/\x.2.length=128)
def headD(n m:Nat):Bool:=decide (n=256/\m<=4096)
def Jl(bs:List (List UInt8))(ws:List (Int×List UInt8)):Bool:=headD bs.length ws.length&&(bs.all qaX&&ws.all wrOk)
theorem qgW(f:α->Bool)(l:List α)(k:Nat)(h:k<l.length):(l.take (k+1)).all f=((l.take k).all f&&f l[k]):=by rw[List.take_succ_eq_append_getElem h,List.all_append];simp only[List.all_cons,List.all_nil,Bool.and_true]
theorem qkG{α:Type}{f:α->Bool}{l:List α}{k:Nat}(h:k<l.length)(hf:f l[k]=U):l.all f=U:=by rw[List.all_eq_false];exact⟨_,List.getElem_mem h,by simp[hf]⟩
abbrev Te(A1:OA)(n1 c1:Nat)(A2:OA)(n2 c2:Nat):M:=.agg #[y A1 n1 c1,y A2 n2 c2]
theorem qjs(A1 n1 c1 A2 n2 c2)(bs:List (List UInt8))(ws:List (Int×List UInt8))(w:Y)(hb:Bls w w (y A1 n1 c1) bs)(hw:Wrs w w (y A2 n2 c2) ws):Calls prog 158 #[Te A1 n1 c1 A2 n2 c2] w (Ret (D X (JQ (Jl bs ws))) w):=by
 obtain⟨e1,hc1,hm1,hA1⟩:=hb.at_;obtain⟨e2,hc2,hm2,hA2⟩:=hw.at_;subst e1;subst e2;by_cases hh:headD bs.length ws.length=Z
 case neg=>
  have hM:Jl bs ws=U:=by unfold Jl;rw[show headD bs.length ws.length=U by simpa using hh];rfl
  rw[hM];have hh':¬(bs.length=256/\ws.length<=4096):=by simpa [headD]using hh
  clear hM hb hw hA1 hA2 hh;generalize bs.length=n1 at*;generalize ws.length=n2 at*;go_enter func158,ntmps158;go_wp2;all_goals try simp only[beq_iff_eq,beq_eq_false_iff_ne,ne_eq,bne_iff_ne,bne_eq_false_iff_eq]at*
  all_goals first|(exfalso;omega)|skip
  all_goals go_ret
  all_goals exact⟨rfl,zA5⟩
 case pos=>
  have hM:Jl bs ws=(bs.all qaX&&ws.all wrOk):=by unfold Jl;rw[hh];rfl
  have hh':bs.length=256/\ws.length<=4096:=by simpa [headD]using hh
  obtain⟨hn1,hn2⟩:=hh';rw[hM];clear hM hh;have HB:=zH hb;have HW:=zH hw;have HTB:=zH (qgW qaX bs);have HTW:=zH (qgW wrOk ws);have HBB:=zH (λk h=>@qkG _ qaX bs k h);have HBW:=zH (λk h=>@qkG _ wrOk ws k h);have HE1:Hid (bs.take bs.length=bs):=zH (List.take_length);have HE2:Hid (ws.take ws.length=ws):=zH (List.take_length);obtain⟨b1,o1,rfl,hb1⟩:=hA1 zO;clear hb hw hA1;have hsm:bs.length<1000:=zO;replace hn1:=zH hn1;have hd1:((bs.length:Int)!=256)=U:=by rw[bne_eq_false_iff_eq,hn1.out];rfl
  have hd2:decide ((ws.length:Int)>4096)=U:=decide_eq_false zO;go_enter func158,ntmps158;go_wp2;generalize hw1:(Oa _ _)=w1;have x1:Ext w w1:=hw1▸zN _ _;have r1:w1.heap[w.heap.size]?=I (Q #[y (b1,o1) bs.length c1,y A2 ws.length c2] 25):=hw1▸zI _ _ _ rfl;clear hw1;go_loopw [20] (λi wr=>∃k:Nat,k<=bs.length/\i=D X (k:Int)/\(bs.take k).all qaX=Z/\Ext w1 wr) (λi _=>bs.length-(intOf i).toNat)
  case atStart=>exact⟨0,zO,rfl,rfl,Ext.refl _⟩
  case round=>
   obtain⟨k,hk,rfl,hok,hE⟩:=hrel;have hEw:=x1.trans hE;by_cases hlt:k<bs.length
   ·have hBP:=hlt;obtain⟨A',c',hc,_⟩:=((HB.out.below hEw).more hEw.size).get k hlt;have ht:=HTB.out k hlt;have hbd:=HBB.out k hlt;rw[hok,Bool.true_and]at ht;replace⟨ht,hbd⟩:=zH2 ht hbd;have hbo:qaX bs[k]=decide (bs[k].length=128):=rfl;replace hbo:=zH hbo;generalize qaX bs[k]=q at*;generalize bs[k].length=m at*;by_cases hm:m=128
    ·obtain rfl:q=Z:=by rw[hbo.out,decide_eq_true hm]
     subst hm;go_wp2;go_roundw
     case rel=>exact⟨k+1,zO,by go_num,ht.out,hE⟩
     case measure=>simp[intOf];omega
    obtain rfl:q=U:=by rw[hbo.out,decide_eq_false hm]
    have hne:((m:Int)!=128)=Z:=by rw[bne_iff_ne];omega
    have hf:=hbd.out rfl;go_wp2;go_ret;exact⟨by first|rfl|(rw[hf];rfl),hEw⟩
   obtain rfl:k=bs.length:=zO;rw[HE1.out]at hok;rw[hok];have rr:=qb r1 hE;have kr:=qa rr;clear HB HTB HBB r1 hd1 hd2;go_wp2;clear kr;go_loopw [31] (λi wq=>∃k:Nat,k<=ws.length/\i=D X (k:Int)/\(ws.take k).all wrOk=Z/\Ext wr wq) (λi _=>ws.length-(intOf i).toNat)
   case atStart=>exact⟨0,zO,rfl,rfl,Ext.refl _⟩
   case round=>
    obtain⟨j,hj,rfl,wCM,hE2⟩:=hrel;have hEq:=hEw.trans hE2;by_cases hlt2:j<ws.length
    ·have wLJ:=hlt2;obtain⟨b2,o2,rfl,hb2⟩:=hA2 zO;obtain⟨A',c',hca,hcb,_⟩:=((HW.out.below hEq).more hEq.size).get j hlt2;have ht:=HTW.out j hlt2;have hbd:=HBW.out j hlt2;rw[wCM,Bool.true_and]at ht;replace⟨ht,hbd⟩:=zH2 ht hbd;have hbo:wrOk ws[j]=decide (0<=ws[j].1/\ws[j].1<256/\ws[j].2.length=128):=rfl;replace hbo:=zH hbo;generalize wrOk ws[j]=q at*;generalize ws[j].1=a at*;generalize ws[j].2.length=m at*;by_cases hm:0<=a/\a<256/\m=128
     ·obtain rfl:q=Z:=by rw[hbo.out,decide_eq_true hm]
      obtain⟨ha1,ha2,rfl⟩:=hm;have hda:decide (a<0)=U:=decide_eq_false zO;have hdb:decide (a≥256)=U:=decide_eq_false zO;go_wp2;go_roundw
      case rel=>exact⟨j+1,zO,by go_num,ht.out,hE2.trans (zN _ _)⟩
      case measure=>simp[intOf];omega
     obtain rfl:q=U:=by rw[hbo.out,decide_eq_false hm]
     have hf:=hbd.out rfl;go_wp2;all_goals try simp only[beq_iff_eq,beq_eq_false_iff_ne,ne_eq,bne_iff_ne,bne_eq_false_iff_eq]at*
     all_goals first
      |(exfalso;omega)
      |(go_ret
        exact⟨by first|rfl|(rw[hf];rfl),Below.alloc hEq (by have:=hEq.size;omega) _⟩)
    obtain rfl:j=ws.length:=zO;rw[HE2.out]at wCM;go_wp2;go_ret;exact⟨by first|rfl|(rw[hok];rfl)|(rw[wCM];rfl)|(rw[hok,wCM];rfl),hEq⟩
def Qu(t:List UInt8):Bool:=decide (t.length=256)&&kJ (t.take 8)
theorem Bys.take(h:Bys w B (y A m c) l)(hk:k<=l.length):Bys w B (y A k c) (l.take k):=by
 obtain⟨A',c',e,hc,hm,hr⟩:=h;cases e;have hl:(l.take k).length=k:=zA2;refine⟨_,_,by rw[hl],by rw[hl];omega,hm,?_⟩;rw[hl];have:=hr.take hk
 rwa [Nat.mul_one,<-List.map_take]at this
theorem UQ(v:M)(t:List UInt8)(w:Y)(h:Bys w w v t):Calls prog 159 #[v] w (Ret (D X (JQ (Qu t))) w):=by
 obtain⟨A,m,c,rfl⟩:∃A m c,v=y A m c:=by obtain⟨A,c,e,_⟩:=h;exact⟨_,_,_,e⟩
 obtain⟨e1,hc,hm,hA⟩:=h.at_;subst e1;by_cases h256:t.length=256
 ·have hT:Qu t=kJ (t.take 8):=by unfold Qu;rw[decide_eq_true h256,Bool.true_and]
  rw[hT];have HM:=zH (λW (hW:Ext w W)=>qiK (y A 8 c) (t.take 8) zA2 zA2 W (((h.take (k:=8) zO).below hW).more hW.size));have hz:=qcW (t.take 8);have hml:=qga (t.take 8);generalize Tr (t.take 8)=mx at*;generalize kJ (t.take 8)=z at*;clear hT h;have hc8:(8:Int)<=(c:Int):=zO;have hd1:((t.length:Int)!=256)=U:=by rw[bne_eq_false_iff_eq];omega
  clear h256;go_enter func159,ntmps159;go_wp2_with fail;refine(HM.out _ (Ext.refl _)).mono ?_;rintro e w2 ⟨rfl,hB⟩;clear HM;cases z
  ·have hm0:0<mx:=by simpa using hz
   go_wp2;go_ret;exact⟨rfl,hB⟩
  obtain rfl:mx=0:=by simpa using hz
  go_wp2;go_ret;exact⟨rfl,hB⟩
 have hT:Qu t=U:=by unfold Qu;rw[decide_eq_false h256];rfl
 rw[hT];have hn1:((t.length:Int)!=256)=Z:=by rw[bne_iff_ne];omega
 go_enter func159,ntmps159;go_wp2;go_ret;exact⟨rfl,Below.refl _ _⟩
structure Sto where
 bs:List (List UInt8)
 ws:List (Int×List UInt8)
 now:List UInt8
 last:List UInt8
def qk(S:Sto):Bool:=Jl S.bs S.ws&&(Qu S.now&&Qu S.last)
abbrev Qp(A1:OA)(n1 c1:Nat)(A2:OA)(n2 c2:Nat)(A3:OA)(n3 c3:Nat)(A4:OA)(n4 c4:Nat):M:=.agg #[y A1 n1 c1,y A2 n2 c2,y A3 n3 c3,y A4 n4 c4]
structure Qi(w:Y)(B:Nat)(v1 v2 v3 v4:M)(S:Sto):Prop where
 bs:Bls w B v1 S.bs
 ws:Wrs w B v2 S.ws
 now:Bys w B v3 S.now
 last:Bys w B v4 S.last
theorem Qi.below{S:Sto}(h:Qi w B v1 v2 v3 v4 S)(hb:Below B w w'):Qi w' B v1 v2 v3 v4 S:=⟨h.bs.below hb,h.ws.below hb,h.now.below hb,h.last.below hb⟩
theorem Qi.more{S:Sto}(h:Qi w B v1 v2 v3 v4 S)(hb:B<=B'):Qi w B' v1 v2 v3 v4 S:=⟨h.bs.more hb,h.ws.more hb,h.now.more hb,h.last.more hb⟩
theorem Qi.ext{S:Sto}(h:Qi w w v1 v2 v3 v4 S)(hx:Ext w w'):Qi w' w' v1 v2 v3 v4 S:=(h.below hx).more hx.size
theorem vz(A1 n1 c1 A2 n2 c2 A3 n3 c3 A4 n4 c4)(S:Sto)(w:Y)(h:Qi w w (y A1 n1 c1) (y A2 n2 c2) (y A3 n3 c3) (y A4 n4 c4) S):Calls prog 108 #[Qp A1 n1 c1 A2 n2 c2 A3 n3 c3 A4 n4 c4] w (Ret (D X (JQ (qk S))) w):=by
 have HD:=zH (λW (hW:Ext w W)=>qjs A1 n1 c1 A2 n2 c2 S.bs S.ws W (h.ext hW).bs (h.ext hW).ws);have HN:=zH (λW (hW:Ext w W)=>UQ (y A3 n3 c3) S.now W (h.ext hW).now);have HL:=zH (λW (hW:Ext w W)=>UQ (y A4 n4 c4) S.last W (h.ext hW).last);have hS:qk S=(Jl S.bs S.ws&&(Qu S.now&&Qu S.last)):=rfl;rw[hS];clear hS h;generalize Jl S.bs S.ws=d at*;generalize Qu S.now=n at*;generalize Qu S.last=l at*;go_enter func108,ntmps108;go_wp2_with fail;generalize hw1:(Oa _ _)=w1;have x1:Ext w w1:=hw1▸zN _ _;have r1:w1.heap[w.heap.size]?=I (Q #[y A1 n1 c1,y A2 n2 c2,y A3 n3 c3,y A4 n4 c4] 28):=hw1▸zI _ _ _ rfl;clear hw1;refine(HD.out _ x1).mono ?_;rintro e w2 ⟨rfl,hB⟩;have x2:=x1.trans hB;have r2:=qb r1 hB;have k2:=qa r2;clear hB r1 x1 HD;cases d
 ·go_wp2;go_ret;exact⟨rfl,x2⟩
 go_wp2_with fail;refine(HN.out _ x2).mono ?_;rintro e w3 ⟨rfl,hB⟩;have x3:=x2.trans hB;have r3:=qb r2 hB;have k3:=qa r3;clear hB r2 x2 k2 HN;cases n
 ·go_wp2;go_ret;exact⟨rfl,x3⟩
 go_wp2_with fail;refine(HL.out _ x3).mono ?_;rintro e w4 ⟨rfl,hB⟩;have x4:=x3.trans hB;clear hB r3 x3 k3 HL;cases l;all_goals
  go_wp2;go_ret;exact⟨rfl,x4⟩
def jW(ws:List (Int×List UInt8))(a:Int):Option (List UInt8):=(ws.reverse.find? λp=>p.1==a).map (·.2)
def Jm(S:Sto)(a:Nat):List UInt8:=match jW S.ws a with|some l=>l|none=>S.bs[a]?.getD []
theorem Yd{a:Int}(h:k<ws.length):jW (ws.take (k+1)) a=if ws[k].1=a then I ws[k].2 else jW (ws.take k) a:=by
 unfold jW;rw[List.take_succ_eq_append_getElem h,List.reverse_append,List.reverse_singleton,List.singleton_append,List.find?_cons];by_cases h1:ws[k].1=a;rw[if_pos h1];simp[h1];rw[if_neg h1];have:(ws[k].1==a)=U:=by simpa using h1
 rw[this]
def qm(S:Sto)(a:Nat):Option (Int×List It):=if(S.now[a]?.getD 0).toNat=0 then O else QO (Jm S a)
theorem qZ{S:Sto}(h:qk S=Z):S.bs.length=256/\S.ws.length<=4096/\S.now.length=256/\S.last.length=256:=by unfold qk Jl headD Qu at h;simp at h;omega
theorem qhr(A n c)(hn:n<=c)(hc:c<=maxLen)(w:Y):Calls prog 160 #[y A n c] w (Ret (y A n n) w):=by unfold maxLen at hc;go_enter func160,ntmps160;have h1:(n:Int)<=(c:Int):=zO;have h2:(0:Int)<=(n:Int):=zO;go_wp2;go_ret;exact⟨rfl,Below.refl _ _⟩
def OnB(lo b:Nat)(v1 v2 v3 v4:M)(S:Sto)(W:Y):Prop:=lo<=b/\W.heap[b]?=I (Q #[v1,v2,v3,v4] 223)/\Qi W W v1 v2 v3 v4 S
theorem Wrs.clip(h:Wrs w B (y A n c) ws):Wrs w B (y A n n) ws:=by obtain⟨ps,e,⟨A',c',e1,e2,e3,hr⟩,hp⟩:=h;cases e1;exact⟨ps,e,⟨_,_,rfl,zM _,zO,hr⟩,hp⟩
set_option maxRecDepth 100000 in
theorem qke(A1 n1 c1 A2 n2 c2 A3 n3 c3 A4 n4 c4)(S:Sto)(hl:S.now.length<1073741824)(w:Y)(h:Qi w w (y A1 n1 c1) (y A2 n2 c2) (y A3 n3 c3) (y A4 n4 c4) S):Calls prog 109 #[Qp A1 n1 c1 A2 n2 c2 A3 n3 c3 A4 n4 c4] w (zv (λu W=>∃b A3' c3',u=.pointer (I ⟨b,0,O⟩)/\OnB w b (y A1 n1 c1) (y A2 n2 n2) (y A3' n3 c3') (y A4 n4 c4) S W/\ZV w (y A3' n3 c3')) w):=by
 have hn3:Hid (n3=S.now.length):=zH h.now.at_.1;obtain⟨-,h2a,h2b,-⟩:=h.ws.at_;have HC:=zH (λW (hW:Ext w W)=>Kn (y A3 n3 c3) S.now hl W (h.ext hW).now);replace h:=zH h;go_enter func109,ntmps109;go_wp2_with fail;generalize hw1:(Oa _ _)=w1;have x1:Ext w w1:=hw1▸zN _ _;have r1:w1.heap[w.heap.size]?=I (Q #[y A1 n1 c1,y A2 n2 c2,y A3 n3 c3,y A4 n4 c4] 28):=hw1▸zI _ _ _ rfl;clear hw1;refine(HC.out _ x1).mono ?_;rintro e w2 ⟨u,rfl,hu,hB⟩;have x2:=x1.trans hB;have r2:=qb r1 hB;have hby:=Bys.of_own hu;have hfr:=ZV.of_own hu;have s1:w.heap.size<w1:=(zG.1 r1).1;obtain⟨A3',c3',rfl,_,_⟩:=qM hu;have k2:=qa r2;have f2:=qd r2;clear hB r1 HC hu;rw[<-hn3.out]at hby hfr⊢;go_wp2_with fail;have wFE:=hby.setCell hfr (p:=⟨w.heap.size,2,O⟩) s1 (y A3' n3 c3');generalize hw3:(E _ _ _)=w3 at*;have x3:Ext w w3:=hw3▸Below.setCell x2 (p:=⟨w.heap.size,2,O⟩) (zM _) _;have r3:w3.heap[w.heap.size]?=I (Q #[y A1 n1 c1,y A2 n2 c2,y A3' n3 c3',y A4 n4 c4] 28):=hw3▸qj r2 2 _;have hz3:w3.heap.size=w2:=by rw[<-hw3];simp
 rw[<-hz3]at wFE;clear hw3 k2 f2 r2 x2 hby;refine(qhr A2 n2 c2 h2a h2b _).mono ?_;rintro e w4 ⟨rfl,hB⟩;have x4:=x3.trans hB;have r4:=qb r3 hB;have hby4:=(wFE.below hB).more hB.size;have k4:=qa r4;have f4:=qd r4;have s4:w.heap.size<w4:=(zG.1 r4).1;clear hB r3 x3 wFE;go_wp2;have hfrw:ZV w (y A3' n3 c3'):=hfr.mono zO;have wFF:=hby4.setCell hfr (p:=⟨w.heap.size,1,O⟩) s1 (y A2 n2 n2);have bf:Below w w ((w4.setCell (w,1) (y A2 n2 n2)).alloc (Q #[y A1 n1 c1,y A2 n2 n2,y A3' n3 c3',y A4 n4 c4] 223)):=by have x4':Below w w w4:=x4;exact(by repeat' (first|with_reducible exact Below.refl _ _|with_reducible assumption|with_reducible apply Below.drew|with_reducible apply qX|with_reducible refine Below.alloc ?_ ?_ _|with_reducible refine Below.setCell ?_ ?_ _|(simp;done)|(simp;omega)|omega))
 go_ret;refine⟨_,rfl,⟨w4.heap.size,A3',c3',rfl,⟨zO,zI _ _ _ zA3,?_⟩,hfrw⟩,bf⟩;have h0:=(h.out.below bf).more bf.size;refine⟨h0.bs,h0.ws.clip,?_,h0.last⟩;exact(wFF.below (Below.alloc (Below.refl _ _) zA3 _)).more zA3
end Go.Proofs.YtmeadnlmepcmbaaGreat
namespace Go.Proofs.YtmeadnlmepcmbaaGreat
open Go.RowKit Go.Shelf
attribute [local go_sem] Oper.semAt_some
variable {W W':World}{v:Value}
abbrev Sl:Type:=OA×Nat×Nat
abbrev sv(s:Sl):M:=y s.1 s.2.1 s.2.2
abbrev W2:Type:=Int×Sl
abbrev w2z:W2:=(0,O,0,0)
set_option maxRecDepth 100000 in
theorem backW_in(n:Nat)(hn:1<=n)(l Bs b off len cap:Nat)(us:List W2)(hDE:len<1099511627776)(J Jx:List (Nat×W2)->Y->Prop)(hY:∀pre x W,J pre W->pre.length<len->YieldAt Fence.wide (n-1) prog l #[D X (x.1:Int),.agg #[D X x.2.1,sv x.2.2]] W λe W'=>
   (e=.returned (.bool Z)/\J (pre++[x]) W'/\Qx Bs b W W')\/(e=.returned (.bool U)/\Jx (pre++[x]) W'))
  (W:Y) (hBs:W.cell? Bs=I (y (b,off) len cap)) (hc:∀i,i<len->W.cell? ⟨b,off+i*2,O⟩=I (D X (us[i]?.getD w2z).1)/\W.cell? ⟨b,off+i*2+1,O⟩=I (sv (us[i]?.getD w2z).2)) (h0:J [] W) :
  CallsIn Fence.wide n prog 189 #[.func (.yield l) #[] #[],.pointer Bs] W λe W'=>(∃v,e=.returned v) /\
   ((∃ys,ys=jf (λj=>(len-1-j,us[len-1-j]?.getD w2z)) len/\J ys W')\/(∃pre,(∃k,k<=len/\pre=jf (λj=>(len-1-j,us[len-1-j]?.getD w2z)) k)/\Jx pre W')):=by
 refine callsIn_of_wp func189 rfl trivial ?_ rfl;simp only[ntmps189,List.size_toArray,List.length_cons,List.length_nil,Nat.reduceAdd,Nat.reduceSub,Array.replicate_succ,Array.replicate_zero,List.push_toArray,List.append_toArray,List.nil_append,List.cons_append]
 gi_wp2
 gi_loopw [3] (λi wr=>∃k:Nat,k<=len/\i=D X ((len:Int)-1-k)/\J (jf (λj=>(len-1-j,us[len-1-j]?.getD w2z)) k) wr/\Qx Bs b W wr)
  (λi _=>(intOf i+1).toNat)
 case atStart=>exact⟨0,Nat.zero_le _,zA3,h0,Qx.refl _ _ _⟩
 case round=>
  obtain⟨k,hk,rfl,hJs,hnx⟩:=hrel;have hBr:wr.cell? Bs=I (y (b,off) len cap):=(World.cell?_of_block (w:=W) hnx.1).trans hBs;by_cases hlt:k<len
  ·have hcx:=(World.cell?_of_block (w:=W) (a:=⟨b,off+(len-1-k)*2,O⟩) hnx.2).trans (hc (len-1-k) zO).1;have hcy:=(World.cell?_of_block (w:=W) (a:=⟨b,off+(len-1-k)*2+1,O⟩) hnx.2).trans (hc (len-1-k) zO).2;obtain⟨fn,tmps,assign,body,hy,hR⟩:=hY _ (len-1-k,us[len-1-k]?.getD w2z) wr hJs (by rw[ZA];exact hlt);dsimp only at hy;obtain⟨i,hi⟩:∃i:Nat,len-1-k=i:=⟨_,rfl⟩
   have hi2:(len:Int)-1-k=(i:Int):=zO;have hil:i<len:=zO;have hik:k+i+1<=len/\len<=k+i+1:=zO;have HU:=zH (VA (λj=>(len-1-j,us[len-1-j]?.getD w2z)) k);obtain⟨u,hu⟩:∃u,us[i]?.getD w2z=u:=⟨_,rfl⟩
   rw[hi]at hcx hcy hy hR;rw[hu]at hcx hcy hy hR;rw[hi2];clear hi2;have HE:=zH hu;clear hu;have HI:=zH hi;clear hi
   gi_wp2
   refine hR.mono ?_;rintro e W3 (⟨rfl,hJ3,hk3⟩|⟨rfl,hKP⟩)
   ·gi_wp2
    go_roundw
    case rel=>exact⟨k+1,zO,by go_num,by rw[HU.out,HI.out,HE.out];exact hJ3,hnx.t hk3⟩
    case measure=>simp[intOf]
   gi_wp2
   refine bodyPost_ret (results_none rfl _ _ _) rfl ?_;exact⟨⟨_,rfl⟩,.inr ⟨_,⟨k+1,zO,by rw[HU.out,HI.out,HE.out]⟩,hKP⟩⟩
  obtain rfl:k=len:=zO
  gi_wp2
  go_end0;exact⟨⟨_,rfl⟩,.inl ⟨_,rfl,hJs⟩⟩
set_option maxRecDepth 100000 in
theorem qfI(n l Bs c:Nat)(A:OA)(J:List (Nat×W2)->Y->Prop)(W:Y)(hBs:W.cell? Bs=I (y A 0 c))(h0:J [] W):CallsIn Fence.wide n prog 189 #[.func (.yield l) #[] #[],.pointer Bs] W λe W'=>(∃v,e=.returned v)/\J [] W':=by
 refine callsIn_of_wp func189 rfl trivial ?_ rfl;simp only[ntmps189,List.size_toArray,List.length_cons,List.length_nil,Nat.reduceAdd,Nat.reduceSub,Array.replicate_succ,Array.replicate_zero,List.push_toArray,List.append_toArray,List.nil_append,List.cons_append]
 gi_wp2
 gi_loopw [3] (λi wr=>i=D X (-1)/\J [] wr) (λ_ _=>0)
 case atStart=>exact⟨rfl,h0⟩
 case round=>
  obtain⟨rfl,hJs⟩:=hrel
  gi_wp2
  go_end0;exact⟨⟨_,rfl⟩,hJs⟩
def UN(us:List W2)(k:Nat):List (Nat×W2):=jf (λj=>(us.length-1-j,us[us.length-1-j]?.getD w2z)) k
def SW(W:Y)(Bs b:Nat)(v:M)(us:List W2):Prop:=
 W.cell? Bs=v/\((us=[]/\∃A c,v=y A 0 c)\/∃off cap,v=y (I ⟨b,off,O⟩) us.length cap/\∀i,i<us.length->W.cell? ⟨b,off+i*2,O⟩=I (D X (us[i]?.getD w2z).1)/\W.cell? ⟨b,off+i*2+1,O⟩=I (sv (us[i]?.getD w2z).2))
theorem SW.keep{Bs b:Nat}{us:List W2}(h:SW W Bs b v us)(hk:Qx Bs b W W'):SW W' Bs b v us:=by
 refine⟨(World.cell?_of_block (w:=W) hk.1).trans h.1,?_⟩;rcases h.2 with h|⟨off,cap,e,hc⟩
 exact .inl h;exact .inr ⟨off,cap,e,λi hi=>⟨(World.cell?_of_block (w:=W) hk.2).trans (hc i hi).1,(World.cell?_of_block (w:=W) hk.2).trans (hc i hi).2⟩⟩
theorem qhb(n:Nat)(hn:1<=n)(Bs b:Nat)(v:M)(us:List W2)(hDE:us.length<1099511627776)(w:Y)(hBs:Bs<w)(hb:b<w)(hS:SW w Bs b v us):SeqStopsK Fence.wide n prog 189 #[.pointer Bs] (λx:Nat×W2=>#[(x.1:Int),.agg #[D X x.2.1,sv x.2.2]]) (Qx Bs b) (λys=>ys=UN us us.length)
   (λpre=>∃k,k<=us.length/\pre=UN us k) us.length w:=λl J Jx W hW _ _ hY h0=>by
 obtain⟨hc,h⟩:=hS.keep (Qx.below hW hBs hb);rcases h with⟨rfl,A,c,rfl⟩|⟨off,cap,rfl,hcs⟩
 exact(qfI n l Bs c A J W hc h0).mono λe W' ⟨he,hj⟩=>⟨he,.inl ⟨_,rfl,hj⟩⟩
 exact backW_in n hn l Bs b off us.length cap us hDE J Jx hY W hc hcs h0
theorem Ut(A m c)(w:Y):Calls prog 151 #[y A m c] w (λe w'=>e=.returned (.func (.func 189) #[] #[.pointer w])/\w'=w.alloc (Q #[y A m c] 23)):=by go_enter func151,ntmps151;go_wp2;go_ret;exact⟨rfl,rfl⟩
end Go.Proofs.YtmeadnlmepcmbaaGreat
