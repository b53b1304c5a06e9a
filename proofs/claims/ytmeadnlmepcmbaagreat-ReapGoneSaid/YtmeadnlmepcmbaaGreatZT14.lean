/- Lemmas of the proof. -/
import Derived.Laws.EntriesVeiled
import Derived.Test.YtmeadnlmepcmbaaGreatZT13
set_option linter.all false
set_option maxHeartbeats 8000000
open Go.Proofs.Tryz
open Go.Value renaming slice→F,int→M,pointer→Z,tuple→Oi
open Option renaming some→I,none→O
open Bool renaming true→Q,false→Oh
open Go.Obj renaming cells→Y
open Go.World renaming setCell→Oa,alloc→Ob
open Go renaming World→Oc,Value→Og
open Go.IntKind renaming i64→Od,u32→Oe
open Go.Ending renaming returned→Of
namespace Go.Proofs.YtmeadnlmepcmbaaGreat
open Go.RowKit
variable {cs:Array Value}{w w0 W wr:World}{ty:TypeId}{S:Sto}{h k c a B n1 c1 n2 c2 n3 c3 n4 c4 c3':Nat}{xs held:List It}{v1 v2 v3 v4 v u:Value}{A A1 A2 A3 A4 A3':OA}{fk lk fk' lk' f:K3}{y:It}{p:K3×K3}{l:List UInt8}{R:Ending->World->Prop}{bo:Bool}{q:Int×List It}{lvl e:Int}{s:Stp}
abbrev sp7(f l:K3)(b:Bool):Array Og:=#[M .u8 f.1,M Oe f.2.1,M Oe f.2.2,M .u8 l.1,M Oe l.2.1,M Oe l.2.2,.bool b]
theorem set7(hs:cs.size=7)(x0 x1 x2 x3 x4 x5 x6:Og):((((((cs.setIfInBounds 0 x0).setIfInBounds 1 x1).setIfInBounds 2 x2).setIfInBounds 3 x3).setIfInBounds 4 x4).setIfInBounds 5 x5).setIfInBounds 6 x6=#[x0,x1,x2,x3,x4,x5,x6]:=by
 apply Array.ext_getElem?;intro j;by_cases hj:j<7;have:j=0\/j=1\/j=2\/j=3\/j=4\/j=5\/j=6:=zO;rcases this with rfl|rfl|rfl|rfl|rfl|rfl|rfl<;>simp[hs]
 rw[Array.getElem?_eq_none zA2,Array.getElem?_eq_none zA2]
theorem row7{b:Nat}(h:w.heap[b]?=I (Y cs ty))(hs:cs.size=7)(x0 x1 x2 x3 x4 x5 x6:Og):(((((((w.setCell b x0).setCell (b,1) x1).setCell (b,2) x2).setCell (b,3) x3).setCell (b,4) x4).setCell (b,5) x5).setCell (b,6) x6).heap[b]?=I (Y #[x0,x1,x2,x3,x4,x5,x6] ty):=by have:=qi (qi (qi (qi (qi (qi (qi h 0 x0) 1 x1) 2 x2) 3 x3) 4 x4) 5 x5) 6 x6;rw[this,set7 hs]
theorem qfK{B b:Nat}(h:Below B w0 w)(hb:B<=b)(x0 x1 x2 x3 x4 x5 x6:Og):Below B w0 (((((((w.setCell b x0).setCell (b,1) x1).setCell (b,2) x2).setCell (b,3) x3).setCell (b,4) x4).setCell (b,5) x5).setCell (b,6) x6):=
 Below.setCell (Below.setCell (Below.setCell (Below.setCell (Below.setCell (Below.setCell (Below.setCell h (p:=⟨b,0,O⟩) hb _) (p:=⟨b,1,O⟩) hb _) (p:=⟨b,2,O⟩) hb _) (p:=⟨b,3,O⟩) hb _) (p:=⟨b,4,O⟩) hb _) (p:=⟨b,5,O⟩) hb _) (p:=⟨b,6,O⟩) hb _
theorem qkk(hs:(qz S h xs).isSome=Q)(hk:k<xs.length):∃l,jA S h xs[k]=I (qw xs[k],l)/\∀f0 l0,(0<k->qz S h (xs.take k)=I (I (f0,l0)))->(0<k->Qg l0 (qw xs[k])=Q)/\qz S h (xs.take (k+1))=I (I (if k=0 then qw xs[k]else f0,l)):=by
 have h2:=vS hs (k+1);rw[Jz hk]at h2⊢;unfold jP at h2⊢;rcases hA:qz S h (xs.take k)with _|a
 rw[hA]at h2;cases h2;rcases hO:jA S h xs[k]with _|⟨f,l⟩
 rw[hA,hO]at h2;cases h2;rw[hA,hO]at h2;simp only at h2;split at h2;rename_i hf;subst hf;refine⟨l,rfl,λf0 l0 hp=>?_⟩;simp only[if_true];rcases a with _|⟨f1,l1⟩
 obtain rfl:k=0:=by
  rcases Nat.eq_zero_or_pos k with h0|h0
  exact h0;exact absurd hA (Zx h0 zO)
 exact⟨λh=>absurd h (Nat.lt_irrefl 0),rfl⟩;have h0:0<k:=by
  rcases Nat.eq_zero_or_pos k with h0|h0
  subst h0;rw[List.take_zero]at hA;cases hA;exact h0
 have:=hp h0;cases this;simp only at h2;split at h2;rename_i hl;exact⟨λ_=>hl,by rw[if_neg zO];simp[hl]⟩;cases h2;cases h2
theorem one_now:∀{h:Nat}{y:It},(jA S h y).isSome=Q->y.r=0\/0<(S.now[y.r.toNat]?.getD 0).toNat
 |0,y,h=>by unfold jA at h;split at h;assumption;cases h
 |h+1,y,hy=>by obtain⟨b,e,-,-,xs,hn,-⟩:=Qz hy;refine .inr ?_;rw[e,Int.toNat_natCast];unfold qo at hn;split at hn;cases hn;omega
structure FEnv(S:Sto)(bS bB bW bb:Nat)(v1 v2 v3 v4 u1 u2 u3 u4:Og)(w:Oc):Prop where
 s:w.heap[bS]?=I (Y #[v1,v2,v3,v4] 28)
 b:w.heap[bB]?=I (Y #[Z bb] 92)
 f:w.heap[bW]?=I (Y #[.func (.func 173) #[] #[Z bS,Z bB,Z bW]] 240)
 n:Bys w w v3 S.now
 on:OnB 0 bb u1 u2 u3 u4 S w
theorem OnB.ext{lo b:Nat}(h:OnB lo b v1 v2 v3 v4 S w)(hx:Ext w W):OnB lo b v1 v2 v3 v4 S W:=⟨h.1,qb h.2.1 hx,h.2.2.ext hx⟩
theorem FEnv.ext{bS bB bW bb:Nat}{u1 u2 u3 u4:Og}(h:FEnv S bS bB bW bb v1 v2 v3 v4 u1 u2 u3 u4 w)(hx:Ext w W):FEnv S bS bB bW bb v1 v2 v3 v4 u1 u2 u3 u4 W:=
 ⟨qb h.s hx,qb h.b hx,qb h.f hx,(h.n.below hx).more hx.size,h.on.ext hx⟩
structure WkI(S:Sto)(h:Nat)(xs:List It)(A:OA)(c:Nat)(w wr:Oc)(k:Nat)(fk lk:K3)(b:Bool):Prop where
 rn:wr.heap[w.heap.size]?=I (Y #[h,F A xs.length c] 113)
 rr:wr.heap[w.heap.size+1]?=I (Y (sp7 (0,0,0) (0,0,0) Oh) 242 (0,0))
 rx:wr.heap[w.heap.size+2]?=I (Y (sp7 fk lk b) 242)
 sp:0<k->qz S h (xs.take k)=I (I (fk,lk))/\b=Q
 xt:Ext w wr
theorem WkI.ext{b:Bool}(H:WkI S h xs A c w wr k fk lk b)(hx:Ext wr W):WkI S h xs A c w W k fk lk b:=
 ⟨qb H.rn hx,qb H.rr hx,qb H.rx hx,H.sp,H.xt.trans hx⟩
theorem WkI.low{b:Bool}{q:Nat}(H:WkI S h xs A c w wr k fk lk b)(hx:Below q wr W)(hq:w.heap.size+2<q):WkI S h xs A c w W k fk lk b:=
 ⟨(hx.block _ zO).trans H.rn,(hx.block _ zO).trans H.rr,(hx.block _ zO).trans H.rx,H.sp,Below.trans H.xt (Below.mono hx zO)⟩
theorem WkI.set{b:Bool}(H:WkI S h xs A c w wr k fk lk b)(hb:∀j,j≠w.heap.size+1+1->W.heap[j]?=wr.heap[j]?)(hB:Below w w W)(hx:W.heap[w.heap.size+1+1]?=I (Y (sp7 fk' lk' Q) 242))(hs:qz S h (xs.take (k+1))=I (I (fk',lk'))):WkI S h xs A c w W (k+1) fk' lk' Q:=
 ⟨(hb _ zO).trans H.rn,(hb _ zO).trans H.rr,hx,λ_=>⟨hs,rfl⟩,hB⟩
theorem WkI.set7{b:Bool}(H:WkI S h xs A c w wr k fk lk b)(hs:qz S h (xs.take (k+1))=I (I (fk',lk'))):WkI S h xs A c w (((((((wr.setCell ⟨w.heap.size+1+1,0,O⟩ (M .u8 fk'.1)).setCell ⟨w.heap.size+1+1,1,O⟩ (M Oe fk'.2.1)).setCell ⟨w.heap.size+1+1,2,O⟩ (M Oe fk'.2.2)).setCell ⟨w.heap.size+1+1,3,O⟩ (M .u8 lk'.1)).setCell ⟨w.heap.size+1+1,4,O⟩ (M Oe lk'.2.1)).setCell ⟨w.heap.size+1+1,5,O⟩ (M Oe lk'.2.2)).setCell ⟨w.heap.size+1+1,6,O⟩ (.bool Q)) (k+1) fk' lk' Q:=
 H.set (λj hj=>(zJ _ _ _ _ hj).trans ((zJ _ _ _ _ hj).trans ((zJ _ _ _ _ hj).trans ((zJ _ _ _ _ hj).trans ((zJ _ _ _ _ hj).trans ((zJ _ _ _ _ hj).trans (zJ _ _ _ _ hj)))))))
  (qfK H.xt zO _ _ _ _ _ _ _) (row7 H.rx rfl _ _ _ _ _ _ _) hs
theorem WkI.set4{b:Bool}(H:WkI S h xs A c w wr k fk lk b)(hs:qz S h (xs.take (k+1))=I (I (fk,lk'))):WkI S h xs A c w ((((wr.setCell ⟨w.heap.size+1+1,3,O⟩ (M .u8 lk'.1)).setCell ⟨w.heap.size+1+1,4,O⟩ (M Oe lk'.2.1)).setCell ⟨w.heap.size+1+1,5,O⟩ (M Oe lk'.2.2)).setCell ⟨w.heap.size+1+1,6,O⟩ (.bool Q)) (k+1) fk lk' Q:=
 H.set (λj hj=>(zJ _ _ _ _ hj).trans ((zJ _ _ _ _ hj).trans ((zJ _ _ _ _ hj).trans (zJ _ _ _ _ hj))))
  (Below.setCell (Below.setCell (Below.setCell (Below.setCell H.xt (p:=⟨w.heap.size+1+1,3,O⟩) zA2 _) (p:=⟨w.heap.size+1+1,4,O⟩) zA2 _) (p:=⟨w.heap.size+1+1,5,O⟩) zA2 _) (p:=⟨w.heap.size+1+1,6,O⟩) zA2 _)
  (qi (qi (qi (qi H.rx 3 _) 4 _) 5 _) 6 _) hs
theorem one_span(e:jA S (h+1) y=p):∃(b:Nat)(ys:List It),y.r=(b:Int)/\8<=b/\b<256/\qo S b=I ((h:Int),ys)/\qz S h ys=I (I p):=by
 obtain⟨b,hb,h1,h2,ys,hn,-⟩:=Qz (by rw[e];rfl:(jA S (h+1) y).isSome=Q);refine⟨b,ys,hb,h1,h2,hn,?_⟩;rw[Jc]at e;unfold vI at e;rw[if_pos zO,hb,Int.toNat_natCast,hn]at e;simp only[if_true]at e;rcases hs:qz S h ys with _|_|q
 rw[hs]at e;cases e;rw[hs]at e;cases e;rw[hs]at e;cases e;rfl
def WalkC(S:Sto)(bS bB bW bb:Nat)(v1 v2 v3 v4 u1 u2 u3 u4:Og)(h:Nat):Prop:=
 ∀(xs:List It)(A:OA)(c:Nat)(f l:K3)(lo:Nat)(w:Oc),FEnv S bS bB bW bb v1 v2 v3 v4 u1 u2 u3 u4 w->h<=5->xs.length<=5->(∀x∈xs,0<=x.r/\x.r<256)->ZO lo w (F A xs.length c) xs->qz S h xs=I (I (f,l)) ->
  Calls prog 173 #[jW h A xs.length c,Z bS,Z bB,Z bW] w (Ret (.agg (sp7 f l Q)) w)
theorem qhh{B b o n c:Nat}(h:Bys w B (F (b,o) n c) l)(ha:a<l.length):w.cell? (b,o+a)=I (M .u8 ((l[a]?.getD 0).toNat:Int)):=by obtain⟨A',c',e,_,_,hr⟩:=h;rw[Value.slice.injEq]at e;obtain⟨rfl,_,rfl⟩:=e;obtain⟨b',off',e,_,hc⟩:=hr.2 zO;simp only[Option.some.injEq,Addr.mk.injEq,and_true]at e;obtain⟨rfl,rfl⟩:=e;exact hc a _ (by rw[List.getElem?_map,zL zO];rfl)
theorem qic(hS:qj S=Q)(h:Bys w B v S.now):∃b3 o3 c3,v=F (I ⟨b3,o3,O⟩) 256 c3/\256<=c3/\c3<=maxLen:=by obtain⟨-,-,lu,-⟩:=qZ hS;have hn:=h;obtain⟨A3,c3,e3,-⟩:=h;rw[e3]at hn;obtain⟨_,su,nU,hA3⟩:=hn.at_;obtain⟨b3,o3,rfl,_⟩:=hA3 zO;rw[lu]at e3 su;exact⟨b3,o3,c3,e3,su,nU⟩
theorem qlW{a:Act}{b:Nat}{l:K3}(h4:a.tmps[5]?.getD undef=Z b)(hd:a.defers=[])(aC:W.heap[b]?=I (Y (sp7 f l bo) 242))(hR:R (Of (.agg (sp7 f l bo))) W):bodyPost prog Tryz.f173 R .ret a W:=by refine bodyPost_ret (v:=.agg (sp7 f l bo)) ?_ hd hR;have k:=qa aC;simp[results,results173,go_sem,h4,k]
set_option maxRecDepth 100000 in
theorem qiN(S:Sto)(hS:qj S=Q)(bS bB bW bb:Nat)(v1 v2 v3 v4:Og)(A1:OA)(n1 c1:Nat)(A2:OA)(n2 c2:Nat)(A3:OA)(n3 c3:Nat)(A4:OA)(n4 c4:Nat)(h:Nat)(HW:∀h':Nat,h=h'+1->WalkC S bS bB bW bb v1 v2 v3 v4 (F A1 n1 c1) (F A2 n2 c2) (F A3 n3 c3) (F A4 n4 c4) h'):WalkC S bS bB bW bb v1 v2 v3 v4 (F A1 n1 c1) (F A2 n2 c2) (F A3 n3 c3) (F A4 n4 c4) h:=by
 intro xs A c f l lo w hE hh5 hlen pG aG aK;obtain⟨b3,o3,d3,e3,hd3,nU⟩:=qic hS hE.n;subst e3;have hDZ:S.now.length=256:=(qZ hS).2.2.1;obtain⟨-,dP,au,hA⟩:=aG.its.at_;have hss:(qz S h xs).isSome=Q:=by rw[aK];rfl
 replace aG:=zH aG;have HG:=zH (λk hk=>qkk hss (k:=k) hk);have HN:=zH (λy hy=>one_now (Qt hss y hy));have HT:=zH (λh' (e:h=h'+1) y (hy:y∈xs)=>Qz (S:=S) (h:=h') (y:=y) (by have:=Qt hss y hy;rw[e]at this;exact this));replace⟨aK,hss,hE,pG,hh5,hDZ⟩:=zH6 aK hss hE pG hh5 hDZ;replace hS:=zH hS;go_enter func173,ntmps173;go_wp2;generalize aA:(Ob (Ob _ _) _)=w1;have x1:Ext w w1:=by rw[<-aA];exact((zN _ _).trans (zN _ _)).trans (zN _ _)
 have H1:WkI S h xs A c w w1 0 (0,0,0) (0,0,0) Oh:=by refine⟨?_,?_,?_,λh0=>absurd h0 (Nat.lt_irrefl 0),x1⟩;rw[<-aA];exact(zK _ _ _ zA2).trans ((zK _ _ _ zA3).trans (zI _ _ _ rfl));rw[<-aA];exact(zK _ _ _ zA3).trans (zI _ _ _ zA3);rw[<-aA];exact zI _ _ _ zA3
 clear aA x1;replace H1:=zH H1;go_loopw [15] (λi wr=>∃(k:Nat)(fk lk:K3)(b:Bool),k<=xs.length/\i=M Od (k:Int)/\WkI S h xs A c w wr k fk lk b) (λi _=>xs.length-(intOf i).toNat)
 case atStart=>exact⟨0,_,_,_,zO,rfl,H1.out⟩
 case round=>
  obtain⟨k,fk,lk,bk,hk,rfl,HR⟩:=hrel;clear H1;have xr:=HR.xt;have rnr:=HR.rn;have rxr:=HR.rx;have rrr:=HR.rr;have z2:w.heap.size+2<wr:=(zG.1 rxr).1;by_cases hlt:k<xs.length
  ·have aO:=hlt;obtain⟨b,off,rfl,hb⟩:=hA zO;obtain⟨A',c',d0,d1,d2,d3',d4,-⟩:=(aG.out.ext xr).its.item k aO;have hxk:=pG.out xs[k] (List.getElem_mem aO);have hnk:=HN.out xs[k] (List.getElem_mem aO);obtain⟨l1,hone,hgo⟩:=HG.out k aO;obtain⟨g1,g2⟩:=hgo fk lk (λh0=>(HR.sp h0).1);have HTk:=zH (λh' e=>HT.out h' e xs[k] (List.getElem_mem aO));generalize xs[k]=x at*;obtain⟨hFD,hFE⟩:=hxk;obtain⟨r,hr⟩:=Int.eq_ofNat_of_zero_le hFD;rw[hr]at d3' hFE;have sH:r<256:=zO;rw[hr,Int.toNat_natCast]at hnk;have hfN:=λW (hx:Ext wr W)=>qhh ((hE.out.ext (xr.trans hx)).n) (a:=r) (by have:=hDZ.out;omega);have hnr:(S.now[r]?.getD 0).toNat=(S.now[r]?.getD 0).toNat:=rfl;generalize mY:(S.now[r]?.getD 0).toNat=nv at*;clear hnr;have hr0:(((r:Int)==0)=Q/\decide (r=0)=Q)\/(((r:Int)==0)=Oh/\decide (r=0)=Oh/\decide (0<nv)=Q):=by
    rcases Nat.eq_zero_or_pos r with h0|h0
    subst h0;exact .inl ⟨zA1,zA1⟩;exact .inr ⟨by rw[beq_eq_false_iff_ne];omega,decide_eq_false zO,decide_eq_true zO⟩
   replace⟨hr,mY,hone,g1,g2,hnk⟩:=zH6 hr mY hone g1 g2 hnk;unfold maxLen at nU;clear hFD hFE hgo;have knr:=qa rnr;have kxr:=qa rxr;replace hfN:=zH hfN;go_wp2_with fail;generalize iO:(Ob _ _)=wa;have xa:Ext wr wa:=iO▸zN _ _;have ra:wa.heap[wr.heap.size]?=I (Y #[M .u8 x.k,M Oe x.i,M Oe x.o,r,F A' x.val.length c'] 51):=iO▸zI _ _ _ rfl;clear iO d0 d1 d2 d3' d4;have Ea:=hE.out.ext (xr.trans xa);have gC:∀W,qm.r wa W->W.cell? (bS,2)=I (F (b3,o3) 256 d3):=λW h=>by rw[qa (qb Ea.s h)];rfl
   have gN:∀W,qm.r wa W->W.cell? (b3,o3+r)=I (M .u8 (nv:Int)):=λW h=>hfN.out W (xa.trans h);have gI:∀W,qm.r wa W->∀i,W.cell? ⟨wr,i,O⟩=#[M .u8 x.k,M Oe x.i,M Oe x.o,r,F A' x.val.length c'][i]?:=λW h=>qa (qb ra h);clear knr kxr hfN;refine qt zQ ?_;refine ji (w:=wa) qm (qP [(17,Ju wa.heap.size 242 (sp7 (0,0,0) (0,0,0) Oh))]) [Q,Q,Q,Q,Q,Q,Q,Q,Q,Q,Q,Q,Q,Q,Q,Q,Q,Q] 1 zQ zQ zQ zQ zQ zQ ?st (Rel.drew _ _) ?walk
   case st=>exact qk (by simp only[List.forall_mem_cons];exact⟨λp=>Qr (jv _ _ _ p),λ_ h=>by cases h⟩)
   case walk=>
    intro K hK;dsimp only[qv];rcases hr0 with⟨oh,hq2⟩|⟨oh,hq2,nZ⟩
    all_goals
     refine zB7 ?_;try (
      refine qd (Z (I ⟨b3,o3+r,O⟩)) zA0 zA0 (λW hW _=>⟨W,?_,Rel.refl _ W⟩) ?_
      ·go_simp;intro lg;exfalso;omega
      simp only[Act.put,qf,qc,qg,zA,zB,zC])
     refine zB7 ?_;refine qH (Ju wa.heap.size 242 (sp7 (0,0,0) (0,0,0) Oh)) zA0 zA0 (λW hW _=>?_) (λ(p8:Nat)=>?_)
     ·refine Jq ?_ (Below.size hW);go_simp
     simp only[Act.put,qf,qc,qg,zA,zB,zC];refine qB (hK _ _ λW hW hF=>?_);obtain⟨f8,aQ⟩:W.heap[p8]?=I (Y (sp7 (0,0,0) (0,0,0) Oh) 242 (0,0))/\wa.heap.size<=p8:=(hF 17).1;clear hF hK gC gN gI;have bZ:Ext wa W:=hW;refine zB6 ?_;have k8:=qa f8;have h8:=qe f8;go_wp2;refine Qq ?_;have x5:Ext wa _:=qfK bZ aQ (M .u8 x.k) (M Oe x.i) (M Oe x.o) (M .u8 x.k) (M Oe x.i) (M Oe x.o) (.bool Q);have r8:=row7 f8 rfl (M .u8 x.k) (M Oe x.i) (M Oe x.o) (M .u8 x.k) (M Oe x.i) (M Oe x.o) (.bool Q);generalize aS:(Oa (Oa (Oa (Oa (Oa (Oa (Oa W _ _) _ _) _ _) _ _) _ _) _ _) _ _)=w5 at*;clear aS k8 h8 f8 hW bZ oh hq2;have H5:=HR.ext (xa.trans x5);have r5:=qb ra x5;have z8:wr.heap.size<p8:=Nat.lt_of_lt_of_le (zG.1 ra).1 aQ;have z8':p8<w5:=(zG.1 r8).1;have kn5:=qa H5.rn;rcases Nat.eq_zero_or_pos h with hz|hz
     case' inl=>
      have hd2:decide (0<h)=Oh:=decide_eq_false zO;have lq:l1=qw x:=by have:=hone.out;rw[hz]at this;unfold jA at this;split at this;cases this;rfl;cases this
      have H7:=H5;replace r8:w5.heap[p8]?=I (Y (sp7 (qw x) l1 Q) 242 (0,0)):=by rw[lq];exact r8
      replace⟨hz,lq,H5,H7⟩:=zH4 hz lq H5 H7;clear rnr rxr rrr;go_upto_region 11 with fail
     case' inr=>
      obtain⟨h',hh⟩:∃h',h=h'+1:=⟨h-1,zO⟩
      have dP:(h':Int)=(h:Int)-1:=zO;obtain⟨b',ys,e1,e2,e3,e4,e5⟩:=one_span (by rw[<-hh];exact hone.out);have hrb:r=b':=by have:=hr.out;omega
      subst hrb;have hd2:decide (0<h)=Q:=decide_eq_true hz;have lV:wrap64 ((h:Int)-1)=(h:Int)-1:=IntWalk.wrap64_in _ (by have:=hh5.out;omega);replace lV:=zH lV;obtain⟨hm1,iR,-⟩:=qI e4;have ni:ys.length<=5:=by unfold Qj ZV at hm1;simp at hm1;omega
      have hyn:0<ys.length:=by
       rcases Nat.eq_zero_or_pos ys.length with h0|h0
       obtain rfl:=List.eq_nil_of_length_eq_zero h0;cases e5;exact h0
      have hHW:=zH (λW (hx:Ext w5 W) A9 c9 lo9 (hi9:ZO lo9 W (F A9 ys.length c9) ys)=>HW h' hh ys A9 c9 (qw x) l1 lo9 W (hE.out.ext ((xr.trans (xa.trans x5)).trans hx)) (by have:=hh5.out;omega) ni (λy hy=>(iR y hy).1.2.2.2.1) hi9 e5);have uM:=zH (Ve 0 bb A1 n1 c1 A2 n2 c2 A3 n3 c3 A4 n4 c4 S hS.out r e2 e3 w5 (hE.out.ext (xr.trans (xa.trans x5))).on);rw[e4]at uM;have hy1:((ys.length:Int)==0)=Oh:=by rw[beq_eq_false_iff_ne];omega
      have kb5:=qa (hE.out.ext (xr.trans (xa.trans x5))).b;have ki5:=qa r5;replace⟨hh,hz,H5,e4,e5,dP⟩:=zH6 hh hz H5 e4 e5 dP;clear rnr rxr rrr hm1 iR ni hyn e1 e2 e3;go_wp2_with fail;refine uM.out.mono ?_;clear uM;rintro e w6 ⟨u,rfl,hu,fU⟩;obtain⟨A9,c9,rfl,oK⟩:=hu;rw[dP.out];have H6:=H5.out.ext fU;have r86:=qb r8 fU;have r56:=qb r5 fU;have E6:=hE.out.ext ((xr.trans (xa.trans x5)).trans fU);have kn6:=qa H6.rn;have kf6:=qa E6.f;have z6:p8<w6:=(zG.1 r86).1;have z66:=(zG.1 H6.rn).1;have zf6:=(zG.1 E6.f).1;replace⟨H6,E6,oK⟩:=zH3 H6 E6 oK;have hw64':=lV.out;clear r8 r5 ki5 kb5 kn5 x5;go_wp2_with fail;generalize lX:(Ob w6 _)=w7;have x7:Ext w6 w7:=lX▸zN _ _;clear lX;have iP:=hHW.out w7 (Ext.trans fU x7) A9 c9 _ (oK.out.ext x7);rw[dP.out]at iP;refine iP.mono ?_;clear iP hHW;rintro e w8 ⟨rfl,hB8⟩;have x8:Ext w6 w8:=x7.trans hB8;have H8:=H6.out.ext x8;have r88:=qb r86 x8;have r58:=qb r56 x8;have b8:=row7 r88 rfl (M .u8 (qw x).1) (M Oe (qw x).2.1) (M Oe (qw x).2.2) (M .u8 l1.1) (M Oe l1.2.1) (M Oe l1.2.2) (.bool Q);have x9:∀q≤p8,Below q w8 _:=λq hq=>qfK (Below.refl q w8) hq (M .u8 (qw x).1) (M Oe (qw x).2.1) (M Oe (qw x).2.2) (M .u8 l1.1) (M Oe l1.2.1) (M Oe l1.2.2) (.bool Q);have f8:=qe r88;have k8:=qa r88;have z8:w.heap.size+2<p8:=zO;clear r86 r56 kn6 kf6;replace⟨hz,H8⟩:=zH2 hz.out H8;go_upto_region 11 with fail;have H7:=H8.out.low (x9 p8 (zM _)) z8;have r5:=((x9 p8 (zM _)).block wr.heap.size zO).trans r58;clear x9 r88 r58 f8 k8;generalize hw9:(Oa (Oa (Oa (Oa (Oa (Oa (Oa w8 _ _) _ _) _ _) _ _) _ _) _ _) _ _)=w9 at*;clear hw9 z8' hB8 x8 fU x7 z6 z66 zf6;have r8:w9.heap[p8]?=I (Y (sp7 (qw x) l1 Q) 242 (0,0)):=b8;clear b8;replace H7:=zH H7
     all_goals
      replace HR:=zH HR;clear xa;have kn7:=qa H7.out.rn;have kx7:=qa H7.out.rx;have fx7:=qe H7.out.rx;have k8:=qa r8;have k5:=qa r5;rcases Nat.eq_zero_or_pos k with tY|tY
      ·have hk1:decide ((k:Int)>0)=Oh:=decide_eq_false zO;have yx:((k:Int)==0)=Q:=by rw[beq_iff_eq];omega
       have pR:decide (0<k)=Oh:=decide_eq_false zO;have HN:=g2.out;rw[if_pos tY]at HN;have HR9:=H7.out.set7 HN;replace⟨HN,tY⟩:=zH2 HN tY;dsimp only[qw]at HR9;replace HR9:=zH HR9;clear hk;go_wp2_with fail;refine⟨⟨k+1,(x.k,x.i,x.o),l1,Q,aO,rfl,HR9.out⟩,?_⟩;simp[intOf];omega
      have hk1:decide ((k:Int)>0)=Q:=decide_eq_true zO;have yx:((k:Int)==0)=Oh:=by rw[beq_eq_false_iff_ne];omega
      have pR:decide (0<k)=Q:=decide_eq_true tY;have HN:=g2.out;rw[if_neg zO]at HN;replace HN:=zH HN;have hls:vJ lk.1 lk.2.1 lk.2.2 x.k x.i x.o=Q:=g1.out tY;replace⟨hls,tY⟩:=zH2 hls tY;clear hk;go_wp2_with fail;refine(VN lk.1 lk.2.1 lk.2.2 x.k x.i x.o _).mono ?_;rintro e wl ⟨rfl,hB⟩;rw[hls.out];have H8':=H7.out.ext hB;have kx8:=qa H8'.rx;have fx8:=qe H8'.rx;have k88:=qa (qb r8 hB);have HR9:=zH (H8'.set4 HN.out);replace H8':=zH H8';clear kn7 kx7 fx7 k8 k5 hB r8 r5;go_wp2_with fail;refine⟨⟨k+1,fk,l1,Q,aO,rfl,HR9.out⟩,?_⟩;simp[intOf];omega
  have nT:k=xs.length:=zO;have hx0:0<xs.length:=by
   rcases Nat.eq_zero_or_pos xs.length with h0|h0
   have:=aK.out;rw[List.eq_nil_of_length_eq_zero h0]at this;cases this;exact h0
  obtain⟨uG,rfl⟩:=HR.sp zO;rw[nT,List.take_length,aK.out]at uG;simp only[Option.some.injEq,Prod.mk.injEq]at uG;obtain⟨rfl,rfl⟩:=uG;have kx:=qa rxr;have kr:=qa rrr;have fr:=qe rrr;have rr:=zH rrr;have xrh:=zH xr;replace⟨HR,nT⟩:=zH2 HR nT;clear rxr rnr rrr xr;go_wp2;exact qlW (b:=w.heap.size+1) rfl rfl (row7 rr.out rfl _ _ _ _ _ _ _) ⟨rfl,qfK xrh.out zO _ _ _ _ _ _ _⟩
theorem qiM(S:Sto)(hS:qj S=Q)(bS bB bW bb:Nat)(v1 v2 v3 v4:Og)(A1 n1 c1 A2 n2 c2 A3 n3 c3 A4 n4 c4):∀h:Nat,WalkC S bS bB bW bb v1 v2 v3 v4 (F A1 n1 c1) (F A2 n2 c2) (F A3 n3 c3) (F A4 n4 c4) h
 |0=>qiN S hS bS bB bW bb v1 v2 v3 v4 A1 n1 c1 A2 n2 c2 A3 n3 c3 A4 n4 c4 0 λ_ e=>zO
 |h+1=>qiN S hS bS bB bW bb v1 v2 v3 v4 A1 n1 c1 A2 n2 c2 A3 n3 c3 A4 n4 c4 (h+1) λh' e=>by obtain rfl:h=h':=zO;exact qiM S hS bS bB bW bb v1 v2 v3 v4 A1 n1 c1 A2 n2 c2 A3 n3 c3 A4 n4 c4 h
theorem now_pos(h:qo S a=q):0<(S.now[a]?.getD 0).toNat:=by unfold qo at h;split at h;cases h;omega
theorem qlQ(f l:K3)(b:Bool)(w:Oc):(Instr.field 242 (.agg (sp7 f l b)) 2).run prog w=.ok (.bool b) w:=zQ
theorem qct{a:Act}(h4:a.tmps[4]?.getD undef=u)(h5:a.tmps[5]?.getD undef=v)(hd:a.defers=[])(hR:R (Of (Oi #[u,v])) W):bodyPost prog Tryz.f125 R .ret a W:=by refine bodyPost_ret (v:=Oi #[u,v]) ?_ hd hR;simp[results,results125,go_sem,h4,h5]
set_option maxRecDepth 100000 in
theorem qhE(A1 n1 c1 A2 n2 c2 A3 n3 c3 A4 n4 c4)(S:Sto)(hS:qj S=Q)(a:Nat)(hT:ZN S a)(w:Oc)(aJ:Qh w w (F A1 n1 c1) (F A2 n2 c2) (F A3 n3 c3) (F A4 n4 c4) S):Calls prog 125 #[Qo A1 n1 c1 A2 n2 c2 A3 n3 c3 A4 n4 c4,(a:Int)] w (zZ (λu _=>∃(lvl:Nat)(xs:List It),qo S a=I ((lvl:Int),xs)/\lvl<=5/\u=Oi #[M Od ((lvl:Int)+1),M Od 0]) w):=by
 obtain⟨ha,bC,lvl,xs,hn,aK⟩:=hT;have dA:=now_pos hn;obtain⟨hm1,iR,-⟩:=qI hn;have iG:xs.length<=5:=by unfold Qj ZV at hm1;simp at hm1;omega
 have hll:lvl<=5:=by unfold Qj ZV at hm1;simp at hm1;omega
 have lu:S.now.length=256:=(qZ hS).2.2.1;obtain⟨b3,o3,d3,e3,hd3,nU⟩:=qic hS aJ.now;simp only[Value.slice.injEq]at e3;obtain⟨rfl,rfl,rfl⟩:=e3;have aF:=qhh aJ.now (a:=a) zO;have HCK:=zH (λW (hx:Ext w W)=>vl A1 n1 c1 A2 n2 c2 (I ⟨b3,o3,O⟩) 256 c3 A4 n4 c4 S W (aJ.ext hx));have HON:=zH (λW (hx:Ext w W)=>qgb A1 n1 c1 A2 n2 c2 (I ⟨b3,o3,O⟩) 256 c3 A4 n4 c4 S zO W (aJ.ext hx));have HST:=zH aJ;have ha3:decide ((a:Int)<8)=Oh:=decide_eq_false zO;have ha5:decide ((a:Int)≥256)=Oh:=decide_eq_false zO;have ha8:(a:Int)<256:=zO;generalize mY:(S.now[a]?.getD 0).toNat=nv at*;have eY:((nv:Int)==0)=Oh:=by rw[beq_eq_false_iff_ne];omega
 replace⟨mY,hm1,iR,hn,aK,hS⟩:=zH6 mY hm1 iR hn aK hS;replace⟨nU,lu⟩:=zH2 nU lu;have hwr:Hid (wrap64 ((lvl:Int)+1)=(lvl:Int)+1):=zH (IntWalk.wrap64_in _ zO);replace hll:=zH hll;clear aJ dA;go_enter func125,ntmps125;go_wp2_with fail;generalize aA:(Ob _ _)=w1;have x1:Ext w w1:=aA▸zN _ _;have r1:w1.heap[w.heap.size]?=I (Y #[F A1 n1 c1,F A2 n2 c2,F (b3,o3) 256 c3,F A4 n4 c4] 28):=aA▸zI _ _ _ rfl;clear aA;refine(HCK.out w1 x1).mono ?_;clear HCK;rintro e w2 ⟨rfl,hB⟩;have x2:Ext w w2:=x1.trans hB;have r2:=qb r1 hB;rw[hS.out,show Va Q=0 from rfl];have k2:=qa r2;have au:=Ext.cell x2 aF;clear r1 hB x1 aF;go_wp2_with fail;refine(HON.out w2 x2).mono ?_;clear HON;rintro e w3 ⟨u,rfl,⟨bb,A3',c3',rfl,xk,-⟩,hB⟩;have x3:Ext w w3:=Ext.trans x2 hB;have r3:=qb r2 hB;clear k2 au r2 x2 hB;replace xk:=zH xk;go_wp2_with fail;generalize hw4:(Ob w3 _)=w4;have x34:Ext w3 w4:=hw4▸zN _ _;have rb4:w4.heap[w3.heap.size]?=I (Y #[Z bb] 92):=hw4▸zI _ _ _ rfl;have rs4:=qb r3 x34;have hOn4:=zH (xk.out.ext x34);have x4:Ext w w4:=x3.trans x34;clear hw4;have uM:=Ve 0 bb A1 n1 c1 A2 n2 n2 A3' 256 c3' A4 n4 c4 S hS.out a ha bC w4 ⟨Nat.zero_le _,(xk.out.ext x34).2⟩;rw[hn.out]at uM;refine uM.mono ?_;clear uM;rintro e w5 ⟨u,rfl,⟨A9,c9,rfl,aG⟩,hB⟩;have mi:Ext w4 w5:=hB;have rs5:=qb rs4 mi;have rb5:=qb rb4 mi;have hOn5:=zH (hOn4.out.ext mi);have x5:Ext w w5:=x4.trans mi;replace aG:=zH aG;clear rs4 rb4 hB mi x34 x4 x3 hOn4 xk r3;rcases Nat.eq_zero_or_pos xs.length with h0|h0
 ·have hx1:decide ((xs.length:Int)>0)=Oh:=decide_eq_false zO;have hx2:decide (0<xs.length)=Oh:=decide_eq_false zO;replace h0:=zH h0;go_wp2_with fail;exact qct (u:=M Od ((lvl:Int)+1)) (by show Value.int Od (wrap64 _)=_;rw[hwr.out]) rfl rfl ⟨_,rfl,⟨lvl,xs,hn.out,hll.out,rfl⟩,x5.trans ((zN _ _).trans (zN _ _))⟩
 have hx1:decide ((xs.length:Int)>0)=Q:=decide_eq_true zO;have hx2:decide (0<xs.length)=Q:=decide_eq_true h0;obtain⟨⟨f,l⟩,hfl⟩:∃p,qz S lvl xs=I (I p):=by
  rcases hq:qz S lvl xs with _|_|p
  have:=aK.out;rw[hq]at this;cases this;exact absurd (by rw[List.take_length];exact hq) (Zx (S:=S) (h:=lvl) h0 (zM xs.length));exact⟨p,rfl⟩
 replace⟨h0,hfl⟩:=zH2 h0 hfl;go_wp2_with fail;generalize mg:(Ob (Ob w5 _) _)=w6;have x56:Ext w5 w6:=by rw[<-mg];exact(zN _ _).trans (zN _ _)
 have rf6:w6.heap[w5.heap.size+1]?=I (Y #[.func (.func 173) #[] #[Z w,Z w3,Z (w5,1,0)]] 240):=mg▸zI _ _ _ zA3;have rn6:w6.heap[w5.heap.size]?=I (Y #[lvl,F A9 xs.length c9] 113):=by rw[<-mg];exact(zK _ _ _ zA3).trans (zI _ _ _ rfl)
 clear mg;have x6:Ext w w6:=x5.trans x56;have iP:=qiM S hS.out w.heap.size w3.heap.size (w5.heap.size+1) bb (F A1 n1 c1) (F A2 n2 c2) (F (I ⟨b3,o3,O⟩) 256 c3) (F A4 n4 c4) A1 n1 c1 A2 n2 n2 A3' 256 c3' A4 n4 c4 lvl xs A9 c9 f l _ w6
  ⟨qb rs5 x56,qb rb5 x56,rf6,(HST.out.ext x6).now,⟨Nat.zero_le _,(hOn5.out.ext x56).2⟩⟩ hll.out iG (λy hy=>(iR.out y hy).1.2.2.2.1) (aG.out.ext x56) hfl.out
 refine iP.mono ?_;clear iP;rintro e w7 ⟨rfl,hB⟩;have rn7:=qb rn6 hB;have kn7:=qa rn7;have x7:=zH (x6.trans hB);clear rs5 rb5 rf6 rn6 hB x6 x56 x5;have hfi:=qlQ;go_wp2_with fail;exact qct (u:=M Od ((lvl:Int)+1)) (by show Value.int Od (wrap64 _)=_;rw[hwr.out]) rfl rfl ⟨_,rfl,⟨lvl,xs,hn.out,hll.out,rfl⟩,x7.out⟩
theorem YZ(A1 n1 c1 A2 n2 c2 A3 n3 c3 A4 n4 c4)(S:Sto)(hS:qj S=Q)(a:Nat)(hT:ZN S a)(w:Oc)(aJ:Qh w w (F A1 n1 c1) (F A2 n2 c2) (F A3 n3 c3) (F A4 n4 c4) S):Calls prog 125 #[Qo A1 n1 c1 A2 n2 c2 A3 n3 c3 A4 n4 c4,(a:Int)] w (zZ (λu _=>∃m:Int,u=Oi #[m,M Od 0]) w):=
 (qhE A1 n1 c1 A2 n2 c2 A3 n3 c3 A4 n4 c4 S hS a hT w aJ).mono λe w' ⟨u,he,⟨_,_,_,_,hu⟩,hB⟩=>⟨u,he,⟨_,hu⟩,hB⟩
def qan(S:Sto)(x:It):Int:=if itB x.r x.val.length=Q then(if x.r≠0/\js S x.r.toNat=0 then 6 else 0)else 8
abbrev itV(x:It)(A:OA)(c:Nat):Og:=.agg #[M .u8 x.k,M Oe x.i,M Oe x.o,M Od x.r,F A x.val.length c]
set_option maxRecDepth 100000 in
theorem qjV(A1 n1 c1 A2 n2 c2 A3 n3 c3 A4 n4 c4)(S:Sto)(hS:qj S=Q)(a lvl:Nat)(xs:List It)(ha:8<=a)(bC:a<256)(hn:qo S a=I ((lvl:Int),xs))(aK:(qz S lvl xs).isSome=Q)(x:It)(Ax:OA)(cx:Nat)(w:Oc)(aJ:Qh w w (F A1 n1 c1) (F A2 n2 c2) (F A3 n3 c3) (F A4 n4 c4) S):Calls prog 126 #[Qo A1 n1 c1 A2 n2 c2 A3 n3 c3 A4 n4 c4,(a:Int),itV x Ax cx] w (Ret (M Od (qan S x)) w):=by
 have HCK:=zH (λW (hx:Ext w W)=>YZ A1 n1 c1 A2 n2 c2 A3 n3 c3 A4 n4 c4 S hS a ⟨ha,bC,lvl,xs,hn,aK⟩ W (aJ.ext hx));have HIC:=zH (λW=>Vj x.k x.i x.o x.r Ax x.val.length cx W);have hBE:=qcW hS aJ.now;obtain⟨b3,o3,cc3,e3,dC,gy⟩:=hBE;simp only[Value.slice.injEq]at e3;obtain⟨rfl,rfl,rfl⟩:=e3;have gy:=zH gy;obtain⟨q,hq⟩:∃q,qan S x=q:=⟨_,rfl⟩
 rw[hq];replace hq:=zH hq;clear aJ hn aK ha bC;go_enter func126,ntmps126;go_wp2_with fail;generalize aA:(Ob (Ob w _) _)=w1;have x1:Ext w w1:=by rw[<-aA];exact(zN _ _).trans (zN _ _)
 have rs1:w1.heap[w.heap.size]?=I (Y #[F A1 n1 c1,F A2 n2 c2,F (b3,o3) 256 c3,F A4 n4 c4] 28):=by rw[<-aA];exact(zK _ _ _ zA3).trans (zI _ _ _ rfl)
 have ri1:w1.heap[w.heap.size+1]?=I (Y #[M .u8 x.k,M Oe x.i,M Oe x.o,M Od x.r,F Ax x.val.length cx] 51):=aA▸zI _ _ _ zA3;clear aA;refine(HCK.out w1 x1).mono ?_;clear HCK;rintro e w2 ⟨u,rfl,⟨m,rfl⟩,hB⟩;have x2:Ext w w2:=Ext.trans x1 hB;have rs2:=qb rs1 hB;have ri2:=qb ri1 hB;have ki2:=qa ri2;clear rs1 ri1 hB x1;go_wp2_with fail;refine(HIC.out w2).mono ?_;clear HIC;rintro e w3 ⟨rfl,hB⟩;have x3:Ext w w3:=Ext.trans x2 hB;have rs3:=qb rs2 hB;have ri3:=qb ri2 hB;have ki3:=qa ri3;have ks3:=qa rs3;clear rs2 ri2 hB x2 ki2;cases hit:itB x.r x.val.length
 ·have hqq:q=8:=by rw[<-hq.out];unfold qan;rw[hit];rfl
  subst hqq;rw[vF rfl];go_wp2_with fail;go_ret;exact⟨rfl,x3⟩
 have hrr:x.r=0\/(8<=x.r/\x.r<256):=by unfold itB at hit;simp at hit;exact hit.1
 have hqq:Hid (q=if x.r≠0/\js S x.r.toNat=0 then 6 else 0):=zH (by rw[<-hq.out];unfold qan;rw[if_pos hit]);rw[show Va Q=0 from rfl];replace hit:=zH hit;clear hq;rcases hrr with hr0|oP
 ·have hq0:=zH (show q=0 by rw[hqq.out,if_neg (λh=>h.1 hr0)]);rw[hr0]at ki3;clear hqq rs3 ri3;go_wp2_with fail;go_ret;exact⟨by rw[hq0.out];rfl,x3⟩
 obtain⟨r,hra⟩:∃r:Nat,x.r=(r:Int):=⟨x.r.toNat,zO⟩
 have mf:r<256:=zO;have iw:8<=r:=zO;have hkr:=Ext.cell x3 (gy.out r mf);rw[hra]at ki3;rw[hra,Int.toNat_natCast]at hqq;have aX:((r:Int)!=0)=Q:=by rw[bne_iff_ne];omega
 generalize js S r=nv at*;clear hra oP rs3 ri3;by_cases h0:nv=0
 ·have hq0:=zH (show q=6 by rw[hqq.out,if_pos ⟨zO,h0⟩]);subst h0;clear hqq;go_wp2_with fail;go_ret;exact⟨by rw[hq0.out];rfl,x3⟩
 have hq0:=zH (show q=0 by rw[hqq.out,if_neg (λh=>h0 h.2)]);have hy1:((nv:Int)==0)=Oh:=by rw[beq_eq_false_iff_ne];omega
 replace h0:=zH h0;clear hqq;go_wp2_with fail;go_ret;exact⟨by rw[hq0.out];rfl,x3⟩
theorem Xb(k:K3):∀(ps qs:List Stp)(up:List It)(S:Sto),JF k (ps++qs) up S=match JF k ps up S with
  |.error e=>.error e
  |.ok (up',S')=>JF k qs up' S'
 |[],qs,up,S=>rfl
 |(lvl,xs,p)::ps,qs,up,S=>by
  simp only[List.cons_append,JF];rcases Qy S (lvl:Int) (ZE xs p (YF k lvl xs) up) up with e|⟨up',S'⟩
  rfl;exact Xb k ps qs up' S'
theorem qlZ(k:K3)(s:Stp)(up:List It)(S:Sto):JF k [s] up S=Qy S (s.1:Int) (ZE s.2.1 s.2.2 (YF k s.1 s.2.1) up) up:=by obtain⟨lvl,xs,p⟩:=s;simp only[JF];rcases Qy S (lvl:Int) (ZE xs p (YF k lvl xs) up) up with e|⟨up',S'⟩<;>rfl
theorem UR:∀{l:List Nat}{t:List UInt8}{e:Int},looseL l t=.error e->e≠0
 |[],t,e,h=>by cases h
 |a::l,t,e,h=>by by_cases ha:a=0;subst ha;rw[jk]at h;exact UR h;by_cases h0:qL t a=0;rw[jR ha h0]at h;cases h;decide;rw[jj ha h0]at h;exact UR h
theorem qeS{lvl:Int}:∀{ps:List (List It)}{S:Sto}{e:Int},makeL lvl ps S=.error e->e≠0
 |[],S,e,h=>by cases h
 |p::ps,S,e,h=>by simp only[makeL]at h;split at h;rename_i e' h';cases h;exact YC h';split at h;rename_i e' h';cases h;exact qeS h';cases h
theorem Vf{l:List It}(h:Qy S lvl l held=.error e):e≠0:=by unfold Qy at h;split at h;rename_i e' h';cases h;exact qeS h';split at h;rename_i e' h';cases h;exact UR h';cases h
structure qgQ(k:K3)(s:Stp):Prop where
 may:Qj (s.1:Int) s.2.1=Q
 its:∀x∈s.2.1,Zb x/\itB x.r x.val.length=Q
 len:s.2.1.length<=5
 le:s.2.2<=s.2.1.length
 lt:0<s.1->s.2.2<s.2.1.length
 zero:s.1=0->s.2.2=qF s.2.1 k
theorem qgD{S:Sto}{k:K3}:∀(h:Nat){a:Nat}{xs:List It},qo S a=I ((h:Int),xs)->(qz S h xs).isSome=Q->∀s∈jJ S k h xs,qgQ k s
 |0,a,xs,hn,hs,s,hm=>by
  rw[YR]at hm;obtain rfl:s=(0,xs,qF xs k):=by simpa using hm
  obtain⟨m1,m2,_⟩:=qI hn;exact⟨m1,m2,(zY hn).2.2,JR xs k,λh=>absurd h (Nat.lt_irrefl 0),λ_=>rfl⟩
 |h+1,a,xs,hn,hs,s,hm=>by
  obtain⟨m1,m2,_⟩:=qI hn;have hx:=kF m1 zO;obtain⟨b,e1,-,-,zs,e4,e5⟩:=Qz (Qt hs _ (List.getElem_mem (zy (k:=k) hx)));rw[vX (zL (zy hx)) (by rw[e1,Int.toNat_natCast];exact e4)]at hm;rcases List.mem_cons.1 hm with rfl|hm
  exact⟨m1,m2,(zY hn).2.2,Nat.le_of_lt (zy hx),λ_=>zy hx,λh=>by cases h⟩;exact qgD h e4 e5 s hm
theorem many_ok{k:K3}(h:qgQ k s):(YF k s.1 s.2.1=0\/YF k s.1 s.2.1=1)/\s.2.2+YF k s.1 s.2.1<=s.2.1.length:=by
 have hle:=h.le;unfold YF;split;exact⟨.inl rfl,zO⟩;rename_i hc;refine⟨.inr rfl,?_⟩;rcases Nat.eq_zero_or_pos s.1 with h0|h0
 rw[h.zero h0]at hle⊢;by_cases hl:qF s.2.1 k<s.2.1.length;omega;exact absurd ⟨h0,KO hl⟩ hc;have:=h.lt h0;omega
theorem Bch.of_on{B lo b:Nat}(hB:B<=lo)(hS:qj S=Q)(aJ:Qh W B (F A1 n1 c1) (F A2 n2 c2) (F A3 n3 c3) (F A4 n4 c4) S)(aQ:lo<=b)(hr:W.heap[b]?=I (Y #[F A1 n1 c1,F A2 n2 n2,F A3' n3 c3',F A4 n4 c4] 223))(ho:W.ownsRow lo 5 1 (F A3' n3 c3') n3 (S.now.map bv)):∃g,Bch (λ_=>False) B lo b g O S W:=by
 obtain⟨lq,pX,lu,hl4⟩:=qZ hS;have e3:=aJ.now.at_.1;have e4:=aJ.last.at_.1;obtain rfl:n3=256:=zO;obtain rfl:n4=256:=zO;obtain⟨g,rfl⟩:∃g,A3'=I ⟨g,0,O⟩:=by
  rcases ho.2 with⟨_,h0⟩|⟨g,_,_,e,_⟩
  cases h0;cases e;exact⟨g,rfl⟩
 refine⟨g,aQ,hB,λq h=>h.elim,A1,n1,c1,F A2 n2 n2,c3',A4,c4,hr,ho,?_,aJ.bs,aJ.last⟩;obtain⟨ps,e,⟨A,c,e2,h1,h2,sJ⟩,hp⟩:=aJ.ws;simp only[Value.slice.injEq]at e2;obtain⟨rfl,rfl,rfl⟩:=e2;refine⟨ps,e,.inl ⟨rfl,zO,A2,rfl,sJ⟩,λp ag=>⟨(hp p ag).1,λC hC=>(hp p ag).2.keepX hC λq hq hx=>by have:=hx.1;omega⟩⟩
def qaI(S:Sto)(L:Nat)(xs:List It)(x:It):Except Int (List It×Sto):=
 if qbE (qw x) (jJ S (qw x) L xs)=Q then .error 120 else
 match JF (qw x) (jJ S (qw x) L xs).reverse [x] S with
 |.error e=>.error e
 |.ok (up,S1)=>if 1<up.length then Qy S1 ((jJ S (qw x) L xs).length:Int) up up else .ok (up,S1)
def ku(up:List It):Nat:=match up with
 |[]=>0
 |y::_=>y.r.toNat
theorem qgo(S:Sto)(L:Nat)(xs:List It)(root:Nat)(x:It):putX S L xs root x=match qaI S L xs x with
  |.error e=>.error e
  |.ok (up,S2)=>match QK S2 (-1) S2.now root with
   |none=>.error 8
   |some t=>.ok (ku up,qp S2 t):=by
 unfold putX qaI;by_cases ht:qbE (qw x) (jJ S (qw x) L xs)=Q;rw[if_pos ht,if_pos ht];rw[if_neg ht,if_neg ht];rcases JF (qw x) (jJ S (qw x) L xs).reverse [x] S with e|⟨up,S1⟩
 rfl;simp only;generalize(if 1<up.length then Qy S1 ((jJ S (qw x) L xs).length:Int) up up else Except.ok (up,S1))=r;rcases r with e|⟨up',S2⟩
 rfl;simp only;rcases QK S2 (-1) S2.now root with _|t<;>rfl
def qaJ(S:Sto)(L:Nat)(xs:List It)(root:Nat)(x:It):Except Int (Nat×Sto):=if qan S x=0 then putX S L xs root x else .error (qan S x)
def PutQ(lo:Nat)(q:Except Int (Nat×Sto))(u:Og)(W:Oc):Prop:=match q with
 |.error e=>u=Oi #[Qo O 0 0 O 0 0 O 0 0 O 0 0,M Od 0,e]
 |.ok (r,S')=>∃v,u=Oi #[v,(r:Int),M Od 0]/\QY lo S' v W
end Go.Proofs.YtmeadnlmepcmbaaGreat
namespace Go.Proofs.YtmeadnlmepcmbaaGreat
open Go.RowKit Go.Shelf
attribute [local go_sem] Oper.semAt_some
variable {ws:List (Int×List UInt8)}{a:Int}{k x lo n:Nat}{pre:List Nat}{w w' W W':World}{e:TypeId}{v:Value}{xs:List Value}
set_option maxRecDepth 100000 in
theorem backN_in(n:Nat)(hn:1<=n)(l Bs b off len cap:Nat)(us:List W2)(bT:len<1099511627776)(J Jx:List Nat->Oc->Prop)(hY:∀pre (x:Nat) W,J pre W->pre.length<len->YieldAt Fence.wide (n-1) prog l #[(x:Int),.agg #[M Od (us[x]?.getD w2z).1,sv (us[x]?.getD w2z).2]] W λe W'=>
   (e=Of (.bool Q)/\J (pre++[x]) W'/\Qw Bs b W W')\/(e=Of (.bool Oh)/\Jx (pre++[x]) W'))
  (W:Oc) (ik:W.cell? Bs=I (F (b,off) len cap)) (hc:∀i,i<len->W.cell? ⟨b,off+i*2,O⟩=I (M Od (us[i]?.getD w2z).1)/\W.cell? ⟨b,off+i*2+1,O⟩=I (sv (us[i]?.getD w2z).2)) (h0:J [] W) :
  CallsIn Fence.wide n prog 189 #[.func (.yield l) #[] #[],Z Bs] W λe W'=>(∃v,e=Of v) /\
   ((∃ys,ys=jb (λj=>len-1-j) len/\J ys W')\/(∃pre,(∃k,k<=len/\pre=jb (λj=>len-1-j) k)/\Jx pre W')):=by
 refine callsIn_of_wp func189 rfl trivial ?_ rfl;simp only[ntmps189,List.size_toArray,List.length_cons,List.length_nil,Nat.reduceAdd,Nat.reduceSub,Array.replicate_succ,Array.replicate_zero,List.push_toArray,List.append_toArray,List.nil_append,List.cons_append]
 gi_wp2
 gi_loopw [3] (λi wr=>∃k:Nat,k<=len/\i=M Od ((len:Int)-1-k)/\J (jb (λj=>len-1-j) k) wr/\Qw Bs b W wr)
  (λi _=>(intOf i+1).toNat)
 case atStart=>exact⟨0,Nat.zero_le _,zA3,h0,Qw.refl _ _ _⟩
 case round=>
  obtain⟨k,hk,rfl,iI,dR⟩:=hrel;have hBr:wr.cell? Bs=I (F (b,off) len cap):=(World.cell?_of_block (w:=W) dR.1).trans ik;by_cases hlt:k<len
  ·have oH:=(World.cell?_of_block (w:=W) (a:=⟨b,off+(len-1-k)*2,O⟩) dR.2).trans (hc (len-1-k) zO).1;have yt:=(World.cell?_of_block (w:=W) (a:=⟨b,off+(len-1-k)*2+1,O⟩) dR.2).trans (hc (len-1-k) zO).2;obtain⟨fn,tmps,assign,body,hy,hR⟩:=hY _ (len-1-k) wr iI (by rw[ZG];exact hlt);try dsimp only at hy
   obtain⟨i,hi⟩:∃i:Nat,len-1-k=i:=⟨_,rfl⟩
   have dK:(len:Int)-1-k=(i:Int):=zO;have hil:i<len:=zO;have hik:k+i+1<=len/\len<=k+i+1:=zO;have HU:=zH (Vu (λj=>len-1-j) k);obtain⟨u,hu⟩:∃u,us[i]?.getD w2z=u:=⟨_,rfl⟩
   rw[hi]at oH yt hy hR;rw[hu]at oH yt hy;rw[dK];clear dK;clear hu;have HI:=zH hi;clear hi
   gi_wp2
   refine hR.mono ?_;rintro e W3 (⟨rfl,hJ3,gy⟩|⟨rfl,lY⟩)
   ·gi_wp2
    go_roundw
    case rel=>exact⟨k+1,zO,by go_num,by rw[HU.out,HI.out];exact hJ3,dR.t gy⟩
    case measure=>simp[intOf]
   gi_wp2
   refine bodyPost_ret (results_none rfl _ _ _) rfl ?_;exact⟨⟨_,rfl⟩,.inr ⟨_,⟨k+1,zO,by rw[HU.out,HI.out]⟩,lY⟩⟩
  obtain rfl:k=len:=zO
  gi_wp2
  go_end0;exact⟨⟨_,rfl⟩,.inl ⟨_,rfl,iI⟩⟩
set_option maxRecDepth 100000 in
theorem qfE(n l Bs c:Nat)(A:OA)(J:List Nat->Oc->Prop)(W:Oc)(ik:W.cell? Bs=I (F A 0 c))(h0:J [] W):CallsIn Fence.wide n prog 189 #[.func (.yield l) #[] #[],Z Bs] W λe W'=>(∃v,e=Of v)/\J [] W':=by
 refine callsIn_of_wp func189 rfl trivial ?_ rfl;simp only[ntmps189,List.size_toArray,List.length_cons,List.length_nil,Nat.reduceAdd,Nat.reduceSub,Array.replicate_succ,Array.replicate_zero,List.push_toArray,List.append_toArray,List.nil_append,List.cons_append]
 gi_wp2
 gi_loopw [3] (λi wr=>i=M Od (-1)/\J [] wr) (λ_ _=>0)
 case atStart=>exact⟨rfl,h0⟩
 case round=>
  obtain⟨rfl,iI⟩:=hrel
  gi_wp2
  go_end0;exact⟨⟨_,rfl⟩,iI⟩
theorem qha(n:Nat)(hn:1<=n)(Bs b:Nat)(v:Og)(us:List W2)(bT:us.length<1099511627776)(w:Oc)(ik:Bs<w)(hb:b<w)(hS:SW w Bs b v us):SeqStopsK Fence.wide n prog 189 #[Z Bs] (λx:Nat=>#[(x:Int),.agg #[M Od (us[x]?.getD w2z).1,sv (us[x]?.getD w2z).2]]) (Qw Bs b) (λys=>ys=jb (λj=>us.length-1-j) us.length)
   (λpre=>∃k,k<=us.length/\pre=jb (λj=>us.length-1-j) k) us.length w:=λl J Jx W hW _ _ hY h0=>by
 obtain⟨hc,h⟩:=hS.keep (Qw.below hW ik hb);rcases h with⟨rfl,A,c,rfl⟩|⟨off,cap,rfl,ay⟩
 exact(qfE n l Bs c A J W hc h0).mono λe W' ⟨he,hj⟩=>⟨he,.inl ⟨_,rfl,hj⟩⟩
 exact backN_in n hn l Bs b off us.length cap us bT J Jx hY W hc ay h0
def atN(ws:List (Int×List UInt8))(j:Nat):Int:=((ws[j]?).map (·.1)).getD 0
def datN(ws:List (Int×List UInt8))(j:Nat):List UInt8:=((ws[j]?).map (·.2)).getD []
theorem Ue(n k j:Nat)(h:j<k):(jb (λi=>n-1-i) k)[j]?=I (n-1-j):=by unfold jb;rw[List.getElem?_map,List.getElem?_range h];rfl
theorem Gu:∀(d m:Nat),m+d=ws.length->(∀i,m<=i->i<ws.length->atN ws i≠a)->jQ ws a=jQ (ws.take m) a:=by
 intro d;induction d with
 |zero=>intro m hm _;rw[show m=ws.length by omega,List.take_length]
 |succ d ih=>
  intro m hm h;have aH:=h m (zM _) zO;unfold atN at aH;rw[zL zO]at aH;rw[ih (m+1) zO (λi hi hl=>h i zO hl),KS zO];exact if_neg aH
theorem qiX(hk:k<=ws.length)(he:pre++[x]=jb (λj=>ws.length-1-j) k)(hx:atN ws x=a)(hp:∀y∈pre,atN ws y≠a):jQ ws a=I (datN ws x):=by
 have hl:pre.length+1=k:=by have:=congrArg List.length he;simpa [jb]using this
 have hxk:x=ws.length-1-pre.length:=by have h1:=Ue ws.length k pre.length zO;rw[<-he]at h1;simpa using h1
 have iG:x<ws.length:=zO;rw[Gu (ws:=ws) (a:=a) pre.length (x+1) zO (λi h1 h2=>by have h3:=Ue ws.length k (ws.length-1-i) zO;rw[<-he,List.getElem?_append_left zO,show ws.length-1-(ws.length-1-i)=i by omega]at h3;exact hp _ (List.mem_of_getElem? h3)),KS iG];unfold atN at hx;unfold datN;rw[zL iG]at hx⊢;exact if_pos hx
theorem qiW(hp:∀y∈jb (λj=>ws.length-1-j) ws.length,atN ws y≠a):jQ ws a=O:=by rw[Gu (ws:=ws) (a:=a) ws.length 0 zA3 (λi _ h2=>by have h3:=Ue ws.length ws.length (ws.length-1-i) zO;rw[show ws.length-1-(ws.length-1-i)=i by omega]at h3;exact hp _ (List.mem_of_getElem? h3))];rfl
theorem Yk{size:Nat}(h:w.ownsRow lo e size v n xs)(hk:Qe w w'):w'.ownsRow lo e size v n xs:=
 ⟨h.1,h.2.imp id λ⟨g,cap,cur,h1,h2,h3,h4⟩=>⟨g,cap,cur,h1,h2,hk.row h3,h4⟩⟩
abbrev Us:Type:=Stp×Sl
abbrev usz:Us:=((0,[],0),(O,0,0))
set_option maxRecDepth 100000 in
theorem backs_in(n:Nat)(hn:1<=n)(l Bs b off len cap:Nat)(us:List Us)(bT:len<1099511627776)(J Jx:List Nat->Oc->Prop)(hY:∀pre (x:Nat) W,J pre W->pre.length<len->YieldAt Fence.wide (n-1) prog l #[(x:Int),.agg #[M Od ((us[x]?.getD usz).1.1:Int),sv (us[x]?.getD usz).2,M Od ((us[x]?.getD usz).1.2.2:Int)]] W λe W'=>
   (e=Of (.bool Q)/\J (pre++[x]) W'/\Qw Bs b W W')\/(e=Of (.bool Oh)/\Jx (pre++[x]) W'))
  (W:Oc) (ik:W.cell? Bs=I (F (b,off) len cap)) (hc:∀i,i<len->W.cell? ⟨b,off+i*3,O⟩=I (M Od ((us[i]?.getD usz).1.1:Int))/\W.cell? ⟨b,off+i*3+1,O⟩=I (sv (us[i]?.getD usz).2)/\W.cell? ⟨b,off+i*3+2,O⟩=I (M Od ((us[i]?.getD usz).1.2.2:Int))) (h0:J [] W) :
  CallsIn Fence.wide n prog 176 #[.func (.yield l) #[] #[],Z Bs] W λe W'=>(∃v,e=Of v) /\
   ((∃ys,ys=jb (λj=>len-1-j) len/\J ys W')\/(∃pre,(∃k,k<=len/\pre=jb (λj=>len-1-j) k)/\Jx pre W')):=by
 refine callsIn_of_wp func176 rfl trivial ?_ rfl;simp only[ntmps176,List.size_toArray,List.length_cons,List.length_nil,Nat.reduceAdd,Nat.reduceSub,Array.replicate_succ,Array.replicate_zero,List.push_toArray,List.append_toArray,List.nil_append,List.cons_append]
 gi_wp2
 gi_loopw [3] (λi wr=>∃k:Nat,k<=len/\i=M Od ((len:Int)-1-k)/\J (jb (λj=>len-1-j) k) wr/\Qw Bs b W wr)
  (λi _=>(intOf i+1).toNat)
 case atStart=>exact⟨0,Nat.zero_le _,zA3,h0,Qw.refl _ _ _⟩
 case round=>
  obtain⟨k,hk,rfl,iI,dR⟩:=hrel;have hBr:wr.cell? Bs=I (F (b,off) len cap):=(World.cell?_of_block (w:=W) dR.1).trans ik;by_cases hlt:k<len
  ·obtain⟨fn,tmps,assign,body,hy,hR⟩:=hY _ (len-1-k) wr iI (by rw[ZG];exact hlt);have dX:=(World.cell?_of_block (w:=W) (a:=⟨b,off+(len-1-k)*3,O⟩) dR.2).trans (hc (len-1-k) zO).1;have dP:=(World.cell?_of_block (w:=W) (a:=⟨b,off+(len-1-k)*3+1,O⟩) dR.2).trans (hc (len-1-k) zO).2.1;have au:=(World.cell?_of_block (w:=W) (a:=⟨b,off+(len-1-k)*3+2,O⟩) dR.2).trans (hc (len-1-k) zO).2.2;try dsimp only at hy
   obtain⟨i,hi⟩:∃i:Nat,len-1-k=i:=⟨_,rfl⟩
   have dK:(len:Int)-1-k=(i:Int):=zO;have hil:i<len:=zO;have hik:k+i+1<=len/\len<=k+i+1:=zO;have HU:=zH (Vu (λj=>len-1-j) k);obtain⟨u,hu⟩:∃u,us[i]?.getD usz=u:=⟨_,rfl⟩
   rw[hi]at dX dP au hy hR;rw[hu]at dX dP au hy;rw[dK];clear dK;clear hu;have HI:=zH hi;clear hi
   gi_wp2
   refine hR.mono ?_;rintro e W3 (⟨rfl,hJ3,gy⟩|⟨rfl,lY⟩)
   ·gi_wp2
    go_roundw
    case rel=>exact⟨k+1,zO,by go_num,by rw[HU.out,HI.out];exact hJ3,dR.t gy⟩
    case measure=>simp[intOf]
   gi_wp2
   refine bodyPost_ret (results_none rfl _ _ _) rfl ?_;exact⟨⟨_,rfl⟩,.inr ⟨_,⟨k+1,zO,by rw[HU.out,HI.out]⟩,lY⟩⟩
  obtain rfl:k=len:=zO
  gi_wp2
  go_end0;exact⟨⟨_,rfl⟩,.inl ⟨_,rfl,iI⟩⟩
set_option maxRecDepth 100000 in
theorem qfI(n l Bs c:Nat)(A:OA)(J:List Nat->Oc->Prop)(W:Oc)(ik:W.cell? Bs=I (F A 0 c))(h0:J [] W):CallsIn Fence.wide n prog 176 #[.func (.yield l) #[] #[],Z Bs] W λe W'=>(∃v,e=Of v)/\J [] W':=by
 refine callsIn_of_wp func176 rfl trivial ?_ rfl;simp only[ntmps176,List.size_toArray,List.length_cons,List.length_nil,Nat.reduceAdd,Nat.reduceSub,Array.replicate_succ,Array.replicate_zero,List.push_toArray,List.append_toArray,List.nil_append,List.cons_append]
 gi_wp2
 gi_loopw [3] (λi wr=>i=M Od (-1)/\J [] wr) (λ_ _=>0)
 case atStart=>exact⟨rfl,h0⟩
 case round=>
  obtain⟨rfl,iI⟩:=hrel
  gi_wp2
  go_end0;exact⟨⟨_,rfl⟩,iI⟩
def SWs(W:Oc)(Bs b:Nat)(v:Og)(us:List Us):Prop:=
 W.cell? Bs=v/\((us=[]/\∃A c,v=F A 0 c)\/∃off cap,v=F (I ⟨b,off,O⟩) us.length cap/\∀i,i<us.length->W.cell? ⟨b,off+i*3,O⟩=I (M Od ((us[i]?.getD usz).1.1:Int))/\W.cell? ⟨b,off+i*3+1,O⟩=I (sv (us[i]?.getD usz).2)/\W.cell? ⟨b,off+i*3+2,O⟩=I (M Od ((us[i]?.getD usz).1.2.2:Int)))
theorem SWs.keep{Bs b:Nat}{us:List Us}(h:SWs W Bs b v us)(hk:Qw Bs b W W'):SWs W' Bs b v us:=by
 refine⟨(World.cell?_of_block (w:=W) hk.1).trans h.1,?_⟩;rcases h.2 with h|⟨off,cap,e,hc⟩
 exact .inl h;exact .inr ⟨off,cap,e,λi hi=>⟨(World.cell?_of_block (w:=W) hk.2).trans (hc i hi).1,(World.cell?_of_block (w:=W) hk.2).trans (hc i hi).2.1,(World.cell?_of_block (w:=W) hk.2).trans (hc i hi).2.2⟩⟩
theorem qhe(n:Nat)(hn:1<=n)(Bs b:Nat)(v:Og)(us:List Us)(bT:us.length<1099511627776)(w:Oc)(ik:Bs<w)(hb:b<w)(hS:SWs w Bs b v us):SeqStopsK Fence.wide n prog 176 #[Z Bs] (λx:Nat=>#[(x:Int),.agg #[M Od ((us[x]?.getD usz).1.1:Int),sv (us[x]?.getD usz).2,M Od ((us[x]?.getD usz).1.2.2:Int)]]) (Qw Bs b) (λys=>ys=jb (λj=>us.length-1-j) us.length)
   (λpre=>∃k,k<=us.length/\pre=jb (λj=>us.length-1-j) k) us.length w:=λl J Jx W hW _ _ hY h0=>by
 obtain⟨hc,h⟩:=hS.keep (Qw.below hW ik hb);rcases h with⟨rfl,A,c,rfl⟩|⟨off,cap,rfl,ay⟩
 exact(qfI n l Bs c A J W hc h0).mono λe W' ⟨he,hj⟩=>⟨he,.inl ⟨_,rfl,hj⟩⟩
 exact backs_in n hn l Bs b off us.length cap us bT J Jx hY W hc ay h0
theorem qdQ(A m c)(w:Oc):Calls prog 129 #[F A m c] w (λe w'=>e=Of (.func (.func 176) #[] #[Z w])/\w'=w.alloc (Y #[F A m c] 180)):=by go_enter func129,ntmps129;go_wp2;go_ret;exact⟨rfl,rfl⟩
end Go.Proofs.YtmeadnlmepcmbaaGreat
namespace Go.Proofs.YtmeadnlmepcmbaaGreat
open Go.RowKit
variable {X D:Nat->Prop}{w W w3 C:World}{lo n j U E:Nat}{v xv sv_ u x0 x1 x2 x3:Value}{ps:List (It×Value)}{k:Option Nat}{S S':Sto}{l:List Stp}{K:K3}{x:It}{pre:List Nat}{lvl e:Int}{up:List It}{ty1 ty2:TypeId}{R:Ending->World->Prop}{a:Act}
section
variable {w W:World}
theorem Rd.ck{B size n:Nat}{A:OA}{xs:List Og}(h:Rd w B size A n xs)(hk:Qe w W):Rd W B size A n xs:=⟨h.1,λhn=>by obtain⟨b,off,e,hb,hc⟩:=h.2 hn;exact⟨b,off,e,hb,λj u hu=>hk.cell (hc j u hu)⟩⟩
theorem Bys.ck{B:Nat}{v:Og}{l:List UInt8}(h:Bys w B v l)(hk:Qe w W):Bys W B v l:=by obtain⟨A,c,e,hc,hm,hr⟩:=h;exact⟨A,c,e,hc,hm,hr.ck hk⟩
theorem Bls.ck{B:Nat}{v:Og}{bs:List (List UInt8)}(h:Bls w B v bs)(hk:Qe w W):Bls W B v bs:=by obtain⟨vs,A,c,e,h1,h2,h3,h4⟩:=h;exact⟨vs,A,c,e,h1,h2,h3.ck hk,λi u l hu hl=>(h4 i u l hu hl).ck hk⟩
theorem qU.of_ck(X:Nat->Prop)(hk:Qe w W):qU X w W:=λ_ _ _ hv=>hk.cell hv
theorem Bch.ck{D:Nat->Prop}{B lo b g:Nat}{k:Option Nat}{S:Sto}(h:Bch D B lo b g k S w)(hk:Qe w W):Bch D B lo b g k S W:=by
 obtain⟨A1,n1,c1,v2,c3,A4,c4,oQ,ho,⟨ps,e,hw,hp⟩,h1,h4⟩:=h.ex;refine⟨h.lob,h.blo,λq hq=>⟨(h.dB q hq).1,by have:=(h.dB q hq).2.1;have:=hk.size;omega,(h.dB q hq).2.2⟩,A1,n1,c1,v2,c3,A4,c4,hk.row oQ,Yk ho hk,⟨ps,e,?_,λp ag=>⟨(hp p ag).1,λC hC=>(hp p ag).2 C ((qU.of_ck _ hk).trans hC λ_ _ h=>h)⟩⟩,h1.ck hk,h4.ck hk⟩;rcases hw with⟨e,hm,A,e2,hr⟩|⟨q,e,e2,how⟩
 exact .inl ⟨e,hm,A,e2,hr.ck hk⟩;exact .inr ⟨q,e,e2,Yk how hk⟩
end
theorem Kh.of_own(ho:w.ownsRow lo 51 5 v n (qD ps))(hl:ps.length=n)(hX:∀q,v.ownBlock=I q->¬X q)(hp:∀p∈ps,(∃A c,p.2=F A p.1.val.length c)/\∀C,qU X w C->Bys C C.heap.size p.2 p.1.val):Kh X w v (ps.map (·.1)):=λC hC=>by
 have sJ:∀A c,v=F A n c->Rd C C 5 A n (qD ps):=λA c e=>by
  refine⟨ho.1,λhn=>?_⟩;rcases ho.2 with⟨_,h0⟩|⟨g,cap,cur,hv,hb,hg,fQ,_,hsz,mM⟩
  omega;have aH:¬X g:=hX g (by rw[hv];rfl);rw[hv]at e;cases e;have hc:∀j u,(qD ps)[j]?=I u->w.cell? ⟨g,0+j,O⟩=I u:=λj u hu=>by rw[Nat.zero_add,qa hg,<-Array.getElem?_toList];rw[<-mM,List.getElem?_take]at hu;split at hu;exact hu;cases hu
  have tq:0<(qD ps).length:=by rw[ho.1];omega
  exact⟨g,0,rfl,World.block_lt_of_cell? C ⟨g,0+0,O⟩ (hC _ _ aH (hc 0 _ (zL tq))),λj u hu=>hC _ _ aH (hc j u hu)⟩
 obtain⟨A,c,rfl,h1,h2⟩:=qC ho;subst hl;exact⟨ps,rfl,⟨A,c,by rw[List.length_map],by rw[List.length_map];exact h1,h2,by rw[List.length_map];exact sJ A c rfl⟩,λp ag=>⟨(hp p ag).1,(hp p ag).2 C hC⟩⟩
theorem Bch.others{B lo b g:Nat}(h:Bch D B lo b g k S w)(hk:Qi lo b g k w W):KeepsOthers w W:=⟨hk.below.size,λq o hq ho=>by
 refine hk.row hq λhx=>?_;obtain⟨A1,n1,c1,v2,c3,A4,c4,oQ,aj,⟨ps,_,hw,_⟩,_,_⟩:=h.ex;have key:∀cs ty fr,w.heap[q]?=I (Y cs ty fr)->False:=λcs ty fr hc=>by rw[hc]at hq;cases hq;cases ho
 rcases hx with rfl|rfl|e
 exact key _ _ _ oQ;obtain⟨cur,hg⟩:=ZD aj rfl;exact key _ _ _ hg
 ·rcases hw with⟨e1,_⟩|⟨q',e1,e2,how⟩
  rw[e1]at e;cases e
  ·rw[e1]at e;cases e;obtain⟨cur,hg⟩:=ZD how e2;exact key _ _ _ hg⟩
def sAt(l:List Stp)(x:Nat):Stp:=l[x]?.getD (0,[],0)
theorem sAt_ok{k:K3}(h:∀s∈l,qgQ k s)(x:Nat):qgQ k (sAt l x):=by
 unfold sAt;rcases hx:l[x]? with _|s
 exact⟨zA1,(λy hy=>by cases hy),Nat.zero_le _,zM _,λh=>absurd h (Nat.lt_irrefl 0),λ_=>rfl⟩;exact h s (List.mem_of_getElem? hx)
theorem GZ(l:List Stp)(k:Nat)(hk:k<=l.length):(jb (λj=>l.length-1-j) k).map (sAt l)=l.reverse.take k:=by apply List.ext_getElem?;intro i;unfold jb;rw[List.getElem?_map,List.getElem?_map,List.getElem?_take];by_cases hi:i<k;rw[List.getElem?_range hi,if_pos hi,List.getElem?_reverse zO];simp only[Option.map_some,sAt];rw[zL zO];simp;rw[List.getElem?_eq_none zA2,if_neg hi];rfl
structure PutI(K:K3)(l:List Stp)(S:Sto)(x:It)(B0 lo b g UB TB SB w2:Nat)(w3:Oc)(xv sv_:Og)(pre:List Nat)(W:Oc):Prop where
 ex:∃(ups:List It)(S':Sto)(k':Option Nat)(D':Nat->Prop)(Au:OA)(cu:Nat)(bM:List (It×Og)),JF K (pre.map (sAt l)) [x] S=.ok (ups,S')/\qj S'=Q/\0<ups.length/\ups.length<=2/\bM.map (·.1)=ups /\
  (∀y∈ups,Zb y/\(y.r=0\/8<=y.r)/\y.r<256)/\(∀p∈bM,(∃A c,p.2=F A p.1.val.length c)/\Bys W B0 p.2 p.1.val)/\W.heap[UB]?=I (Y #[F Au ups.length cu] 55)/\W.ownsRow 0 51 5 (F Au ups.length cu) ups.length (qD bM)/\Bch D' B0 lo b g k' S' W
 rx:W.heap[B0+1]?=I (Y #[M .u8 x.k,M Oe x.i,M Oe x.o,M Od x.r,xv] 51)
 r2:W.heap[B0+2]?=I (Y #[F O 0 0,F O 0 0,F O 0 0,F O 0 0] 28)
 r3:W.heap[B0+3]?=I (Y #[M Od 0] 3)
 r4:W.heap[B0+4]?=I (Y #[M Od 0] 37)
 rT:W.heap[TB]?=I (Y #[Z b] 92)
 rS:W.heap[SB]?=I (Y #[sv_] 180)
 kx:qU (λq=>q<w2) w3 W
theorem PutI.ck{B0 lo b g UB TB SB w2:Nat}(h:PutI K l S x B0 lo b g UB TB SB w2 w3 xv sv_ pre w)(hk:Qe w W):PutI K l S x B0 lo b g UB TB SB w2 w3 xv sv_ pre W:=by obtain⟨ups,S',k',D',Au,cu,bM,h1,h2,h3,h4,h5,h6,h7,h8,h9,h10⟩:=h.ex;exact⟨⟨ups,S',k',D',Au,cu,bM,h1,h2,h3,h4,h5,h6,λp hp=>⟨(h7 p hp).1,(h7 p hp).2.ck hk⟩,hk.row h8,Yk h9 hk,h10.ck hk⟩,hk.row h.rx,hk.row h.r2,hk.row h.r3,hk.row h.r4,hk.row h.rT,hk.row h.rS,h.kx.trans (qU.of_ck _ hk) λ_ _ h=>h⟩
theorem Kl{l held:List It}(hl:∀x∈l,Zb x)(hh:∀x∈held,(x.r=0\/8<=x.r)/\x.r<256)(hS:qj S=Q)(e:Qy S lvl l held=.ok (up,S')):qj S'=Q/\(0<up.length/\up.length<=2)/\∀y∈up,Zb y/\(8<=y.r/\y.r<256)/\y.val=[]:=by unfold Qy at e;split at e;cases e;rename_i up1 S1 e1;split at e;cases e;rename_i t e2;cases e;obtain⟨h1,h2,h3⟩:=qaC (Tq hl) hS e1;refine⟨vL h1 (vd (λa ha=>by obtain⟨x,hx,rfl⟩:=List.mem_map.1 ha;have:=hh x hx;omega) (Qd.1 h1).2.1 e2),?_,λy hy=>?_⟩;rw[h2];unfold ZQ;split<;>simp;obtain⟨⟨f,k1,k8,k9⟩,k2,p,hp,k3⟩:=h3 y hy;have:=qfU (Tq hl p hp);rw[<-k3]at this;obtain⟨a1,a2,a3⟩:=this;exact⟨⟨a1,a2,a3,by rw[k1];omega,by rw[k2];simp⟩,zO,k2⟩
theorem qjy{k:K3}{ps:List Stp}(h:JF k (ps.take j) up S=.error e):JF k ps up S=.error e:=by have:ps=ps.take j++ps.drop j:=(List.take_append_drop _ _).symm;rw[this,Xb,h]
theorem vR{u0 v0:Og}(hU:W.heap[U]?=I (Y #[u0] ty1))(hE:W.heap[E]?=I (Y #[v0] ty2))(aH:U≠E)(hC:C=(W.setCell U u).setCell E v):C.heap[U]?=I (Y #[u] ty1)/\C.heap[E]?=I (Y #[v] ty2)/\(∀k,k≠U->k≠E->C.heap[k]?=W.heap[k]?)/\C.heap.size=W/\KeepsOthers W C/\∀{B:Nat}{w0:Oc},B<=U->B<=E->Below B w0 W->Below B w0 C:=by subst hC;have hs:=λ(A:Oc)(b j:Nat)(v:Og)(k:Nat)(hk:k≠b)=>zJ A ⟨b,j,O⟩ v k hk;refine⟨?_,?_,λk h1 h2=>?_,zA3,(KeepsOthers.setCell _ _ _).trans (KeepsOthers.setCell _ _ _),λh1 h2 h=>Below.setCell (Below.setCell h (p:=⟨U,0,O⟩) h1 _) (p:=⟨E,0,O⟩) h2 _⟩;rw[hs _ _ _ _ _ aH];exact qi hU 0 u;refine qi (t:=ty2) (cs:=#[v0]) ?_ 0 v;rw[hs _ _ _ _ _ (λe=>aH e.symm)];exact hE;rw[hs _ _ _ _ _ h2,hs _ _ _ _ _ h1]
def qeY(lo:Nat)(S:Sto):Qb:=⟨(Nat×Nat)×(OA×Nat)×(OA×Nat),λp=>Qo p.1.1 S.bs.length S.bs.length p.1.2 S.ws.length (S.ws.length+1) p.2.1.1 S.now.length p.2.1.2 p.2.2.1 S.last.length p.2.2.2,λp W=>QY lo S (Qo p.1.1 S.bs.length S.bs.length p.1.2 S.ws.length (S.ws.length+1) p.2.1.1 S.now.length p.2.1.2 p.2.2.1 S.last.length p.2.2.2) W⟩
theorem Qc(lo:Nat)(S:Sto)(b c:Nat)(A3:OA)(c3:Nat)(A4:OA)(c4:Nat):(qeY lo S).f ((b,c),(A3,c3),(A4,c4))=Qo b S.bs.length S.bs.length c S.ws.length (S.ws.length+1) A3 S.now.length c3 A4 S.last.length c4:=rfl
structure PutD(q:Except Int (List It×Sto))(B0 lo b g UB TB D:Nat)(w W:Oc):Prop where
 ex:∃(ups:List It)(S':Sto)(k':Option Nat)(D':Nat->Prop)(Au:OA)(cu:Nat)(bM:List (It×Og)),q=.ok (ups,S')/\qj S'=Q/\0<ups.length/\bM.map (·.1)=ups /\
  W.heap[UB]?=I (Y #[F Au ups.length cu] 55)/\W.ownsRow 0 51 5 (F Au ups.length cu) ups.length (qD bM)/\Bch D' B0 lo b g k' S' W/\∀y∈ups,(y.r=0\/8<=y.r)/\y.r<256
 r2:W.heap[B0+2]?=I (Y #[F O 0 0,F O 0 0,F O 0 0,F O 0 0] 28)
 r3:W.heap[B0+3]?=I (Y #[M Od 0] 3)
 r4:W.heap[B0+4]?=I (Y #[M Od 0] 37)
 rT:W.heap[TB]?=I (Y #[Z b] 92)
 hK:W.heap[D]?=I (.deferred (I []))
 below:Below B0 w W
theorem Bch.kept{B lo b g:Nat}(h:Bch D B lo b g k S w)(hB:Below B w W)(hr:∀q,lo<=q->q<w.heap.size->W.heap[q]?=w.heap[q]?):Bch D B lo b g k S W:=
 h.keep hB λq hq=>hq.elim (λh2=>hr q (h.b3 q h2).1 (h.b3 q h2).2) λh2=>hr q (h.dB q h2).1 (h.dB q h2).2.1
def jB(lo n:Nat)(us:List Og):Qb:=⟨OA×Nat,λp=>F p.1 n p.2,λp W=>W.ownsRow lo 51 5 (F p.1 n p.2) n us⟩
theorem qE(lo n:Nat)(us:List Og)(A c):(jB lo n us).f (A,c)=F A n c:=rfl
theorem ZX(lo n:Nat)(us:List Og):∀p,qS qm ((jB lo n us).φ p):=λp W W' he h=>by have he:Ext W W':=he;have h:W.ownsRow lo 51 5 (F p.1 n p.2) n us:=h;exact QQ h λq hq=>Below.block he q (Qn h q hq).2
def Xl(S:Sto):Except Int (Nat×Sto):=if qj S=Q then Zg S 0 []else .error 8
def MadeQ(lo:Nat)(q:Except Int (Nat×Sto))(u:Og)(W:Oc):Prop:=match q with
 |.error e=>u=Oi #[Qo O 0 0 O 0 0 O 0 0 O 0 0,M Od 0,e]
 |.ok (r,S')=>∃v,u=Oi #[v,(r:Int),M Od 0]/\QY lo S' v W
theorem Kh.nil(X:Nat->Prop)(w:Oc):Kh X w (F O 0 0) []:=λC _=>Its.nil C _
theorem GE{r:Nat}(h:Xl S=.ok (r,S')):qj S=Q/\Zg S 0 []=.ok (r,S')/\qj S'=Q/\8<=r/\r<256:=by unfold Xl at h;split at h;rename_i hS;obtain⟨h1,h2,h3,_⟩:=YD (λx hx=>by cases hx) hS h;exact⟨hS,h,h1,h2,h3⟩;cases h
theorem qau{b:Nat}(h4:a.tmps[4]?.getD undef=Z b)(h5:a.tmps[5]?.getD undef=u)(h6:a.tmps[6]?.getD undef=v)(hd:a.defers=[])(aC:W.heap[b]?=I (Y #[x0,x1,x2,x3] 28))(hR:R (Of (Oi #[.agg #[x0,x1,x2,x3],u,v])) W):bodyPost prog Tryz.f155 R .ret a W:=by refine bodyPost_ret (v:=Oi #[.agg #[x0,x1,x2,x3],u,v]) ?_ hd hR;have k:=qa aC;simp[results,results155,go_sem,h4,h5,h6,k]
theorem qik{b:Nat}(h4:a.tmps[2]?.getD undef=Z b)(h5:a.tmps[3]?.getD undef=u)(h6:a.tmps[4]?.getD undef=v)(hd:a.defers=[])(aC:W.heap[b]?=I (Y #[x0,x1,x2,x3] 28))(hR:R (Of (Oi #[.agg #[x0,x1,x2,x3],u,v])) W):bodyPost prog Tryz.f102 R .ret a W:=by refine bodyPost_ret (v:=Oi #[.agg #[x0,x1,x2,x3],u,v]) ?_ hd hR;have k:=qa aC;simp[results,results102,go_sem,h4,h5,h6,k]
set_option maxRecDepth 100000 in
theorem qlM(A1 n1 c1 A2 n2 c2 A3 n3 c3 A4 n4 c4)(S:Sto)(w:Oc)(h:Qh w w (F A1 n1 c1) (F A2 n2 c2) (F A3 n3 c3) (F A4 n4 c4) S):Calls prog 155 #[Qo A1 n1 c1 A2 n2 c2 A3 n3 c3 A4 n4 c4,jW 0 O 0 0] w (zZ (MadeQ w (Xl S)) w):=by
 have HC:=zH (λW (hW:Ext w W)=>vl A1 n1 c1 A2 n2 c2 A3 n3 c3 A4 n4 c4 S W (h.ext hW));have HN:=zH (λW=>Kt 0 O 0 0 [] W (Its.nil W W.heap.size));rw[show Qj 0 []=Q from rfl,show Va Q=0 from rfl]at HN;have HO:=zH (λ(hS:qj S=Q) W (hW:Ext w W)=>qdc A1 n1 c1 A2 n2 c2 A3 n3 c3 A4 n4 c4 S (by have:=(qZ hS).2.2.1;omega) W (h.ext hW));replace h:=zH h;go_enter func155,ntmps155;go_wp2_with fail;generalize aA:Ob (Ob (Ob _ _) _) _=w1;have x1:Ext w w1:=by rw[<-aA];exact((zN _ _).trans (zN _ _)).trans (zN _ _)
 have r1:w1.heap[w.heap.size]?=I (Y #[F A1 n1 c1,F A2 n2 c2,F A3 n3 c3,F A4 n4 c4] 28):=by rw[<-aA];exact(zK _ _ _ zA2).trans ((zK _ _ _ zA3).trans (zI _ _ _ rfl))
 have p1:w1.heap[w.heap.size+1]?=I (Y #[M Od 0,F O 0 0] 113):=by rw[<-aA];exact(zK _ _ _ zA3).trans (zI _ _ _ zA3)
 have q1:w1.heap[w.heap.size+1+1]?=I (Y #[F O 0 0,F O 0 0,F O 0 0,F O 0 0] 28):=aA▸zI _ _ _ zA3;clear aA;refine(HC.out w1 x1).mono ?_;rintro e w2 ⟨rfl,hB⟩;have x2:Ext w w2:=x1.trans hB;have r2:=qb r1 hB;have p2:=qb p1 hB;have q2:=qb q1 hB;have kp:=qa p2;have kq:=qa q2;have fq:=qe q2;have zq2:w.heap.size+1+1<w2:=(zG.1 q2).1;clear r1 p1 q1 x1 hB HC;rcases hS:qj S with _|_
 ·have hq:=zH (show Xl S=.error 8 by unfold Xl;rw[hS];rfl);rw[vF rfl];replace hS:=zH hS;go_wp2_with fail;exact qau (b:=w.heap.size+2) rfl rfl rfl rfl (UX q2 _ _ _ _) ⟨_,rfl,by rw[hq.out];rfl,Je x2 zO _ _ _ _⟩
 have hq:=zH (show Xl S=Zg S 0 []by unfold Xl;rw[if_pos hS]);rw[Vx rfl];have HOS:=zH (HO.out hS);replace hS:=zH hS;clear HO;go_wp2_with fail;refine(HN.out w2).mono ?_;rintro e w3 ⟨rfl,hB⟩;have x3:Ext w w3:=x2.trans hB;have r3:=qb r2 hB;have p3:=qb p2 hB;have q3:=qb q2 hB;have kr:=qa r3;clear r2 p2 q2 x2 hB HN kp kq fq zq2;go_wp2_with fail;refine(HOS.out w3 x3).mono ?_;rintro e w4 ⟨u,rfl,⟨b,P3,d3,rfl,aQ,aC,aB⟩,hB⟩;have dM:Ext w3 w4:=hB;have x4:Ext w w4:=x3.trans dM;have p4:=qb p3 dM;have q4:=qb q3 dM;have kp:=qa p4;have z3:=x3.size;obtain⟨g,iy⟩:=Bch.of_on (B:=w.heap.size) z3 hS.out (h.out.below x4) aQ aC aB;have HM:=zH (qao (λ_=>False) w.heap.size w3.heap.size b g O S 0 O 0 0 [] (λx hx=>by cases hx) (qZ hS.out).2.1 w4 iy (Kh.nil _ _));replace iy:=zH iy;clear hB aC aB r3 p3 q3 kr HOS;go_wp2_with fail;refine HM.out.mono ?_;clear HM;rintro e w5 ⟨ai,aI⟩;have nB:∀{q cs ty fr},w4.heap[q]?=I (Y cs ty fr)->ty≠223->ty≠5->ty≠142->¬B3 b g O q:=λhr h1 h2 h3=>iy.out.notB3 hr h1 h2 h3;have q5:=ai.row q4 (nB q4 zA1 zA1 zA1);have x5:Below w w w5:=Below.trans (B:=w.heap.size) x4 (Below.mono ai.below z3);have kq:=qa q5;have fq:=qe q5;have zq5:w.heap.size+1+1<w5:=(zG.1 q5).1;clear nB ai kp p4 q4;rcases hmx:Zg S 0 []with er|⟨f,S'⟩
 ·rw[hmx]at aI;obtain rfl:=aI;have rD:(er != 0)=Q:=by rw[bne_iff_ne];exact YC hmx
  replace hmx:=zH hmx;go_wp2_with fail;exact qau (b:=w.heap.size+2) rfl rfl rfl rfl (UX q5 _ _ _ _) ⟨_,rfl,by rw[hq.out,hmx.out];rfl,Je x5 zO _ _ _ _⟩
 rw[hmx]at aI;obtain⟨rfl,k',D',ug,hND,bn⟩:=aI;have gG:Gf S':=Zw (YD (λx hx=>by cases hx) hS.out hmx).1;obtain⟨E1,m1,e1,E2,m2,e2,e3,E4,e4,hrb,hsb⟩:=bn.sto;have HT:=zH (Kk b E1 m1 e1 E2 m2 e2 (I ⟨g,0,O⟩) 256 e3 E4 256 e4 S' gG w5 hrb hsb);replace hmx:=zH hmx;clear bn hrb hsb gG kq fq ug hND;go_wp2_with fail;refine HT.out.mono ?_;rintro e w6 ⟨u,rfl,hT,hB⟩;have fU:Ext w5 w6:=hB;have x6:Below w w w6:=x5.trans (Below.mono fU x5.size);have q6:=qb q5 fU;have kq:=qa q6;have fq:=qe q6;obtain⟨BB,WW,gg,B3,d3',B4,d4,rfl,-⟩:=id hT;replace hT:=zH hT;clear HT hB q5;go_wp2_with fail;refine qau (b:=w.heap.size+2) rfl rfl rfl rfl (UX q6 _ _ _ _) ⟨_,rfl,?_,Je x6 zO _ _ _ _⟩;rw[hq.out,hmx.out];exact⟨_,rfl,QY.set4 hT.out zO zO _ _ _ _⟩
set_option maxRecDepth 100000 in
theorem pnew_any(A1 n1 c1 A2 n2 c2 A3 n3 c3 A4 n4 c4)(S:Sto)(w:Oc)(h:Qh w w (F A1 n1 c1) (F A2 n2 c2) (F A3 n3 c3) (F A4 n4 c4) S):Calls prog 102 #[Qo A1 n1 c1 A2 n2 c2 A3 n3 c3 A4 n4 c4] w (zZ (MadeQ w (Xl S)) w):=by
 have HM:=zH (λW (hW:Ext w W)=>qlM A1 n1 c1 A2 n2 c2 A3 n3 c3 A4 n4 c4 S W (h.ext hW));clear h;go_enter func102,ntmps102;go_wp2_with fail;generalize aA:Ob (Ob _ _) _=w1;have x1:Ext w w1:=by rw[<-aA];exact(zN _ _).trans (zN _ _)
 have q1:w1.heap[w.heap.size+1]?=I (Y #[F O 0 0,F O 0 0,F O 0 0,F O 0 0] 28):=aA▸zI _ _ _ zA3;clear aA;refine(HM.out w1 x1).mono ?_;clear HM;rintro e w6 ⟨u,rfl,hu,hB⟩;have fU:Ext w1 w6:=hB;have x6:Below w w w6:=x1.trans fU;have q6:=qb q1 fU;have kq:=qa q6;have fq:=qe q6;have z1:=(zG.1 q1).1;rcases hq:Xl S with er|⟨r,S'⟩
 ·rw[hq]at hu;obtain rfl:u=_:=hu;replace hq:=zH hq;clear hB q1;go_wp2_with fail;exact qik (b:=w.heap.size+1) rfl rfl rfl rfl (UX q6 _ _ _ _) ⟨_,rfl,by rw[hq.out];rfl,Je x6 zO _ _ _ _⟩
 rw[hq]at hu;obtain⟨v,rfl,hT⟩:=hu;obtain⟨BB,WW,gg,B3,d3',B4,d4,rfl,-⟩:=id hT;replace⟨hT,hq⟩:=zH2 hT hq;clear hB q1;go_wp2_with fail;refine qik (b:=w.heap.size+1) rfl rfl rfl rfl (UX q6 _ _ _ _) ⟨_,rfl,?_,Je x6 zO _ _ _ _⟩;rw[hq.out];exact⟨_,rfl,QY.set4 hT.out zO zO _ _ _ _⟩
theorem qmI(S:Sto)(a:Nat)(data:List UInt8):Ji (vz S a data) a=data:=by
 have h:jQ (S.ws++[((a:Int),data)]) (a:Int)=data:=by unfold jQ;rw[List.reverse_append,List.reverse_singleton,List.singleton_append,List.find?_cons];simp
 unfold Ji vz;simp only;rw[h]
theorem qib{a:Nat}(ha:a<S.now.length)(data:List UInt8):qo (vz S a data) a=QL data:=by
 unfold qo;rw[qmI];have:(vz S a data).now[a]?=I 1:=by show(S.now.set a 1)[a]?=I 1;rw[List.getElem?_set_self ha]
 rw[this];rfl
theorem qjm:QL (Zo (QA 0 []))=I (0,[]):=by decide +kernel
theorem new_node{r:Nat}(h:Xl S=.ok (r,S')):qo S' r=I (0,[]):=by obtain⟨hS,hm,_,h8,h256⟩:=GE h;obtain⟨t,_,_,_,_,_,_,rfl,ht⟩:=GD hS hm;rw[qib (by show r<t.length;rw[Xx ht];exact h256),qjm]
theorem new_tree{r:Nat}(h:Xl S=.ok (r,S')):okL S' (-1) (r:Int)=Q:=by obtain⟨_,_,_,h8,h256⟩:=GE h;unfold okL;rw[if_pos zO,Int.toNat_natCast,new_node h];rfl
end Go.Proofs.YtmeadnlmepcmbaaGreat
