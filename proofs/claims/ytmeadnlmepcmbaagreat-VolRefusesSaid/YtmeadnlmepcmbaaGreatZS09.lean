/- Lemmas of the proof. -/
import Derived.Laws.EntriesVeiled
import Derived.WalkMore
import Derived.Test.YtmeadnlmepcmbaaGreatZS08
set_option linter.all false
set_option maxHeartbeats 8000000
open Go.Proofs.Tryz
open Go.Value renaming slice→D,int→E,pointer→Z,tuple→Oc
open Bool renaming true→F,false→U
open Option renaming some→I,none→Q
open Go.World renaming alloc→J,setCell→O
open Go.Obj renaming cells→M
open Go.IntKind renaming u32→X,i64→Jx
open Go renaming Value→Y,World→Oa
open Go.Ending renaming returned→Ob
namespace Go.Proofs.YtmeadnlmepcmbaaGreat
open Go.RowKit
variable {w w0 W wr:World}{ty:TypeId}{S:Sto}{h k c B j i lo base B':Nat}{xs ys:List It}{A:OA}{fk lk fk' lk' f:K3}{y x:It}{p:K3×K3}{l:List UInt8}{v u:Value}{R:Ending->World->Prop}{a:Act}{bo:Bool}{q:Int×List It}{vs:List Vol}{id root next:Int}{dead:List Int}
abbrev sp7(f l:K3)(b:Bool):Array Y:=#[E .u8 f.1,E X f.2.1,E X f.2.2,E .u8 l.1,E X l.2.1,E X l.2.2,.bool b]
theorem set7{cs:Array Y}(hs:cs.size=7)(x0 x1 x2 x3 x4 x5 x6:Y):((((((cs.setIfInBounds 0 x0).setIfInBounds 1 x1).setIfInBounds 2 x2).setIfInBounds 3 x3).setIfInBounds 4 x4).setIfInBounds 5 x5).setIfInBounds 6 x6=#[x0,x1,x2,x3,x4,x5,x6]:=by
 apply Array.ext_getElem?;intro j;by_cases hj:j<7;have:j=0\/j=1\/j=2\/j=3\/j=4\/j=5\/j=6:=zO;rcases this with rfl|rfl|rfl|rfl|rfl|rfl|rfl<;>simp[hs]
 rw[Array.getElem?_eq_none zA2,Array.getElem?_eq_none zA2]
theorem row7{b:Nat}{cs:Array Y}(h:w.heap[b]?=I (M cs ty))(hs:cs.size=7)(x0 x1 x2 x3 x4 x5 x6:Y):(((((((w.setCell b x0).setCell (b,1) x1).setCell (b,2) x2).setCell (b,3) x3).setCell (b,4) x4).setCell (b,5) x5).setCell (b,6) x6).heap[b]?=I (M #[x0,x1,x2,x3,x4,x5,x6] ty):=by have:=qj (qj (qj (qj (qj (qj (qj h 0 x0) 1 x1) 2 x2) 3 x3) 4 x4) 5 x5) 6 x6;rw[this,set7 hs]
theorem qfN{B b:Nat}(h:Below B w0 w)(hb:B<=b)(x0 x1 x2 x3 x4 x5 x6:Y):Below B w0 (((((((w.setCell b x0).setCell (b,1) x1).setCell (b,2) x2).setCell (b,3) x3).setCell (b,4) x4).setCell (b,5) x5).setCell (b,6) x6):=
 Below.setCell (Below.setCell (Below.setCell (Below.setCell (Below.setCell (Below.setCell (Below.setCell h (p:=⟨b,0,Q⟩) hb _) (p:=⟨b,1,Q⟩) hb _) (p:=⟨b,2,Q⟩) hb _) (p:=⟨b,3,Q⟩) hb _) (p:=⟨b,4,Q⟩) hb _) (p:=⟨b,5,Q⟩) hb _) (p:=⟨b,6,Q⟩) hb _
theorem qkn(hs:(qC S h xs).isSome=F)(hk:k<xs.length):∃l,ju S h xs[k]=I (qz xs[k],l)/\∀f0 l0,(0<k->qC S h (xs.take k)=I (I (f0,l0)))->(0<k->Qm l0 (qz xs[k])=F)/\qC S h (xs.take (k+1))=I (I (if k=0 then qz xs[k]else f0,l)):=by
 have h2:=KE hs (k+1);rw[vC hk]at h2⊢;unfold Jf at h2⊢;rcases hA:qC S h (xs.take k)with _|a
 rw[hA]at h2;cases h2;rcases hO:ju S h xs[k]with _|⟨f,l⟩
 rw[hA,hO]at h2;cases h2;rw[hA,hO]at h2;simp only at h2;split at h2;rename_i hf;subst hf;refine⟨l,rfl,λf0 l0 hp=>?_⟩;simp only[if_true];rcases a with _|⟨f1,l1⟩
 obtain rfl:k=0:=by
  rcases Nat.eq_zero_or_pos k with h0|h0
  exact h0;exact absurd hA (ZS h0 zO)
 exact⟨λh=>absurd h (Nat.lt_irrefl 0),rfl⟩;have h0:0<k:=by
  rcases Nat.eq_zero_or_pos k with h0|h0
  subst h0;rw[List.take_zero]at hA;cases hA;exact h0
 have:=hp h0;cases this;simp only at h2;split at h2;rename_i hl;exact⟨λ_=>hl,by rw[if_neg zO];simp[hl]⟩;cases h2;cases h2
theorem one_now:∀{h:Nat}{y:It},(ju S h y).isSome=F->y.r=0\/0<(S.now[y.r.toNat]?.getD 0).toNat
 |0,y,h=>by unfold ju at h;split at h;assumption;cases h
 |h+1,y,hy=>by obtain⟨b,e,-,-,xs,hn,-⟩:=QH hy;refine .inr ?_;rw[e,Int.toNat_natCast];unfold qm at hn;split at hn;cases hn;omega
structure FEnv(S:Sto)(bS bB bW bb:Nat)(v1 v2 v3 v4 u1 u2 u3 u4:Y)(w:Oa):Prop where
 s:w.heap[bS]?=I (M #[v1,v2,v3,v4] 28)
 b:w.heap[bB]?=I (M #[Z bb] 92)
 f:w.heap[bW]?=I (M #[.func (.func 173) #[] #[Z bS,Z bB,Z bW]] 240)
 n:Bys w w v3 S.now
 on:OnB 0 bb u1 u2 u3 u4 S w
theorem OnB.ext{lo b:Nat}{v1 v2 v3 v4:Y}(h:OnB lo b v1 v2 v3 v4 S w)(hx:Ext w W):OnB lo b v1 v2 v3 v4 S W:=⟨h.1,qb h.2.1 hx,h.2.2.ext hx⟩
theorem FEnv.ext{bS bB bW bb:Nat}{v1 v2 v3 v4 u1 u2 u3 u4:Y}(h:FEnv S bS bB bW bb v1 v2 v3 v4 u1 u2 u3 u4 w)(hx:Ext w W):FEnv S bS bB bW bb v1 v2 v3 v4 u1 u2 u3 u4 W:=
 ⟨qb h.s hx,qb h.b hx,qb h.f hx,(h.n.below hx).more hx.size,h.on.ext hx⟩
structure WkI(S:Sto)(h:Nat)(xs:List It)(A:OA)(c:Nat)(w wr:Oa)(k:Nat)(fk lk:K3)(b:Bool):Prop where
 rn:wr.heap[w.heap.size]?=I (M #[h,D A xs.length c] 113)
 rr:wr.heap[w.heap.size+1]?=I (M (sp7 (0,0,0) (0,0,0) U) 242 (0,0))
 rx:wr.heap[w.heap.size+2]?=I (M (sp7 fk lk b) 242)
 sp:0<k->qC S h (xs.take k)=I (I (fk,lk))/\b=F
 xt:Ext w wr
theorem WkI.ext{b:Bool}(H:WkI S h xs A c w wr k fk lk b)(hx:Ext wr W):WkI S h xs A c w W k fk lk b:=
 ⟨qb H.rn hx,qb H.rr hx,qb H.rx hx,H.sp,H.xt.trans hx⟩
theorem WkI.low{b:Bool}{q:Nat}(H:WkI S h xs A c w wr k fk lk b)(hx:Below q wr W)(hq:w.heap.size+2<q):WkI S h xs A c w W k fk lk b:=
 ⟨(hx.block _ zO).trans H.rn,(hx.block _ zO).trans H.rr,(hx.block _ zO).trans H.rx,H.sp,Below.trans H.xt (Below.mono hx zO)⟩
theorem WkI.set{b:Bool}(H:WkI S h xs A c w wr k fk lk b)(hb:∀j,j≠w.heap.size+1+1->W.heap[j]?=wr.heap[j]?)(hB:Below w w W)(hx:W.heap[w.heap.size+1+1]?=I (M (sp7 fk' lk' F) 242))(hs:qC S h (xs.take (k+1))=I (I (fk',lk'))):WkI S h xs A c w W (k+1) fk' lk' F:=
 ⟨(hb _ zO).trans H.rn,(hb _ zO).trans H.rr,hx,λ_=>⟨hs,rfl⟩,hB⟩
theorem WkI.set7{b:Bool}(H:WkI S h xs A c w wr k fk lk b)(hs:qC S h (xs.take (k+1))=I (I (fk',lk'))):WkI S h xs A c w (((((((wr.setCell ⟨w.heap.size+1+1,0,Q⟩ (E .u8 fk'.1)).setCell ⟨w.heap.size+1+1,1,Q⟩ (E X fk'.2.1)).setCell ⟨w.heap.size+1+1,2,Q⟩ (E X fk'.2.2)).setCell ⟨w.heap.size+1+1,3,Q⟩ (E .u8 lk'.1)).setCell ⟨w.heap.size+1+1,4,Q⟩ (E X lk'.2.1)).setCell ⟨w.heap.size+1+1,5,Q⟩ (E X lk'.2.2)).setCell ⟨w.heap.size+1+1,6,Q⟩ (.bool F)) (k+1) fk' lk' F:=
 H.set (λj hj=>(zJ _ _ _ _ hj).trans ((zJ _ _ _ _ hj).trans ((zJ _ _ _ _ hj).trans ((zJ _ _ _ _ hj).trans ((zJ _ _ _ _ hj).trans ((zJ _ _ _ _ hj).trans (zJ _ _ _ _ hj)))))))
  (qfN H.xt zO _ _ _ _ _ _ _) (row7 H.rx rfl _ _ _ _ _ _ _) hs
theorem WkI.set4{b:Bool}(H:WkI S h xs A c w wr k fk lk b)(hs:qC S h (xs.take (k+1))=I (I (fk,lk'))):WkI S h xs A c w ((((wr.setCell ⟨w.heap.size+1+1,3,Q⟩ (E .u8 lk'.1)).setCell ⟨w.heap.size+1+1,4,Q⟩ (E X lk'.2.1)).setCell ⟨w.heap.size+1+1,5,Q⟩ (E X lk'.2.2)).setCell ⟨w.heap.size+1+1,6,Q⟩ (.bool F)) (k+1) fk lk' F:=
 H.set (λj hj=>(zJ _ _ _ _ hj).trans ((zJ _ _ _ _ hj).trans ((zJ _ _ _ _ hj).trans (zJ _ _ _ _ hj))))
  (Below.setCell (Below.setCell (Below.setCell (Below.setCell H.xt (p:=⟨w.heap.size+1+1,3,Q⟩) zA2 _) (p:=⟨w.heap.size+1+1,4,Q⟩) zA2 _) (p:=⟨w.heap.size+1+1,5,Q⟩) zA2 _) (p:=⟨w.heap.size+1+1,6,Q⟩) zA2 _)
  (qj (qj (qj (qj H.rx 3 _) 4 _) 5 _) 6 _) hs
theorem one_span(e:ju S (h+1) y=p):∃(b:Nat)(ys:List It),y.r=(b:Int)/\8<=b/\b<256/\qm S b=I ((h:Int),ys)/\qC S h ys=I (I p):=by
 obtain⟨b,hb,h1,h2,ys,hn,-⟩:=QH (by rw[e];rfl:(ju S (h+1) y).isSome=F);refine⟨b,ys,hb,h1,h2,hn,?_⟩;rw[Ji]at e;unfold vT at e;rw[if_pos zO,hb,Int.toNat_natCast,hn]at e;simp only[if_true]at e;rcases hs:qC S h ys with _|_|q
 rw[hs]at e;cases e;rw[hs]at e;cases e;rw[hs]at e;cases e;rfl
def WalkC(S:Sto)(bS bB bW bb:Nat)(v1 v2 v3 v4 u1 u2 u3 u4:Y)(h:Nat):Prop:=
 ∀(xs:List It)(A:OA)(c:Nat)(f l:K3)(lo:Nat)(w:Oa),FEnv S bS bB bW bb v1 v2 v3 v4 u1 u2 u3 u4 w->h<=5->xs.length<=5->(∀x∈xs,0<=x.r/\x.r<256)->jr lo w (D A xs.length c) xs->qC S h xs=I (I (f,l)) ->
  Calls prog 173 #[Jc h A xs.length c,Z bS,Z bB,Z bW] w (Ret (.agg (sp7 f l F)) w)
theorem qhg{B b o n c:Nat}(h:Bys w B (D (b,o) n c) l){a:Nat}(ha:a<l.length):w.cell? (b,o+a)=I (E .u8 ((l[a]?.getD 0).toNat:Int)):=by obtain⟨A',c',e,_,_,hr⟩:=h;rw[Value.slice.injEq]at e;obtain⟨rfl,_,rfl⟩:=e;obtain⟨b',off',e,_,hc⟩:=hr.2 zO;simp only[Option.some.injEq,Addr.mk.injEq,and_true]at e;obtain⟨rfl,rfl⟩:=e;exact hc a _ (by rw[List.getElem?_map,zL zO];rfl)
theorem qik(hS:qk S=F)(h:Bys w B v S.now):∃b3 o3 c3,v=D (I ⟨b3,o3,Q⟩) 256 c3/\256<=c3/\c3<=maxLen:=by obtain⟨-,-,hl3,-⟩:=qZ hS;have hn:=h;obtain⟨A3,c3,e3,-⟩:=h;rw[e3]at hn;obtain⟨_,hc3,hm3,hA3⟩:=hn.at_;obtain⟨b3,o3,rfl,_⟩:=hA3 zO;rw[hl3]at e3 hc3;exact⟨b3,o3,c3,e3,hc3,hm3⟩
theorem qlY{b:Nat}{l:K3}(h4:a.tmps[5]?.getD undef=Z b)(hd:a.defers=[])(hAH:W.heap[b]?=I (M (sp7 f l bo) 242))(hR:R (Ob (.agg (sp7 f l bo))) W):bodyPost prog Tryz.f173 R .ret a W:=by refine bodyPost_ret (v:=.agg (sp7 f l bo)) ?_ hd hR;have k:=qa hAH;simp[results,results173,go_sem,h4,k]
set_option maxRecDepth 100000 in
theorem qiX(S:Sto)(hS:qk S=F)(bS bB bW bb:Nat)(v1 v2 v3 v4:Y)(A1:OA)(n1 c1:Nat)(A2:OA)(n2 c2:Nat)(A3:OA)(n3 c3:Nat)(A4:OA)(n4 c4:Nat)(h:Nat)(HW:∀h':Nat,h=h'+1->WalkC S bS bB bW bb v1 v2 v3 v4 (D A1 n1 c1) (D A2 n2 c2) (D A3 n3 c3) (D A4 n4 c4) h'):WalkC S bS bB bW bb v1 v2 v3 v4 (D A1 n1 c1) (D A2 n2 c2) (D A3 n3 c3) (D A4 n4 c4) h:=by
 intro xs A c f l lo w hE hh5 hlen hxr hBE hsp;obtain⟨b3,o3,d3,e3,hd3,hm3⟩:=qik hS hE.n;subst e3;have hYR:S.now.length=256:=(qZ hS).2.2.1;obtain⟨-,hc1,hc2,hA⟩:=hBE.its.at_;have hss:(qC S h xs).isSome=F:=by rw[hsp];rfl
 replace hBE:=zH hBE;have HG:=zH (λk hk=>qkn hss (k:=k) hk);have HN:=zH (λy hy=>one_now (QC hss y hy));have HT:=zH (λh' (e:h=h'+1) y (hy:y∈xs)=>QH (S:=S) (h:=h') (y:=y) (by have:=QC hss y hy;rw[e]at this;exact this));replace⟨hsp,hss,hE,hxr,hh5,hYR⟩:=zH6 hsp hss hE hxr hh5 hYR;replace hS:=zH hS;go_enter func173,ntmps173;go_wp2;generalize hw1:(J (J _ _) _)=w1;have x1:Ext w w1:=by rw[<-hw1];exact((zN _ _).trans (zN _ _)).trans (zN _ _)
 have H1:WkI S h xs A c w w1 0 (0,0,0) (0,0,0) U:=by refine⟨?_,?_,?_,λh0=>absurd h0 (Nat.lt_irrefl 0),x1⟩;rw[<-hw1];exact(zK _ _ _ zA2).trans ((zK _ _ _ zA3).trans (zI _ _ _ rfl));rw[<-hw1];exact(zK _ _ _ zA3).trans (zI _ _ _ zA3);rw[<-hw1];exact zI _ _ _ zA3
 clear hw1 x1;replace H1:=zH H1;go_loopw [15] (λi wr=>∃(k:Nat)(fk lk:K3)(b:Bool),k<=xs.length/\i=E Jx (k:Int)/\WkI S h xs A c w wr k fk lk b) (λi _=>xs.length-(intOf i).toNat)
 case atStart=>exact⟨0,_,_,_,zO,rfl,H1.out⟩
 case round=>
  obtain⟨k,fk,lk,bk,hk,rfl,HR⟩:=hrel;clear H1;have xr:=HR.xt;have rnr:=HR.rn;have rxr:=HR.rx;have rrr:=HR.rr;have z2:w.heap.size+2<wr:=(zG.1 rxr).1;by_cases hlt:k<xs.length
  ·have hBP:=hlt;obtain⟨b,off,rfl,hb⟩:=hA zO;obtain⟨A',c',d0,d1,d2,d3',d4,-⟩:=(hBE.out.ext xr).its.item k hBP;have hxk:=hxr.out xs[k] (List.getElem_mem hBP);have hnk:=HN.out xs[k] (List.getElem_mem hBP);obtain⟨l1,hone,hgo⟩:=HG.out k hBP;obtain⟨g1,g2⟩:=hgo fk lk (λh0=>(HR.sp h0).1);have HTk:=zH (λh' e=>HT.out h' e xs[k] (List.getElem_mem hBP));generalize xs[k]=x at*;obtain⟨hZL,hZM⟩:=hxk;obtain⟨r,hr⟩:=Int.eq_ofNat_of_zero_le hZL;rw[hr]at d3' hZM;have hr2:r<256:=zO;rw[hr,Int.toNat_natCast]at hnk;have hfN:=λW (hx:Ext wr W)=>qhg ((hE.out.ext (xr.trans hx)).n) (a:=r) (by have:=hYR.out;omega);have hnr:(S.now[r]?.getD 0).toNat=(S.now[r]?.getD 0).toNat:=rfl;generalize hnv:(S.now[r]?.getD 0).toNat=nv at*;clear hnr;have hr0:(((r:Int)==0)=F/\decide (r=0)=F)\/(((r:Int)==0)=U/\decide (r=0)=U/\decide (0<nv)=F):=by
    rcases Nat.eq_zero_or_pos r with h0|h0
    subst h0;exact .inl ⟨zA1,zA1⟩;exact .inr ⟨by rw[beq_eq_false_iff_ne];omega,decide_eq_false zO,decide_eq_true zO⟩
   replace⟨hr,hnv,hone,g1,g2,hnk⟩:=zH6 hr hnv hone g1 g2 hnk;unfold maxLen at hm3;clear hZL hZM hgo;have knr:=qa rnr;have kxr:=qa rxr;replace hfN:=zH hfN;go_wp2_with fail;generalize hwa:(J _ _)=wa;have xa:Ext wr wa:=hwa▸zN _ _;have ra:wa.heap[wr.heap.size]?=I (M #[E .u8 x.k,E X x.i,E X x.o,r,D A' x.val.length c'] 51):=hwa▸zI _ _ _ rfl;clear hwa d0 d1 d2 d3' d4;have Ea:=hE.out.ext (xr.trans xa);have gC:∀W,qp.r wa W->W.cell? (bS,2)=I (D (b3,o3) 256 d3):=λW h=>by rw[qa (qb Ea.s h)];rfl
   have gN:∀W,qp.r wa W->W.cell? (b3,o3+r)=I (E .u8 (nv:Int)):=λW h=>hfN.out W (xa.trans h);have gI:∀W,qp.r wa W->∀i,W.cell? ⟨wr,i,Q⟩=#[E .u8 x.k,E X x.i,E X x.o,r,D A' x.val.length c'][i]?:=λW h=>qa (qb ra h);clear knr kxr hfN;refine qw zQ ?_;refine jj (w:=wa) qp (qV [(17,jx wa.heap.size 242 (sp7 (0,0,0) (0,0,0) U))]) [F,F,F,F,F,F,F,F,F,F,F,F,F,F,F,F,F,F] 1 zQ zQ zQ zQ zQ zQ ?st (Rel.drew _ _) ?walk
   case st=>exact ql (by simp only[List.forall_mem_cons];exact⟨λp=>QA (Zt _ _ _ p),λ_ h=>by cases h⟩)
   case walk=>
    intro K hK;dsimp only[qA];rcases hr0 with⟨hq1,hq2⟩|⟨hq1,hq2,hq3⟩
    all_goals
     refine zB6 ?_;try (
      refine qe (Z (I ⟨b3,o3+r,Q⟩)) zA0 zA0 (λW hW _=>⟨W,?_,Rel.refl _ W⟩) ?_
      ·go_simp;intro hge;exfalso;omega
      simp only[Act.put,qf,qc,qh,zA,zB,zC])
     refine zB6 ?_;refine qH (jx wa.heap.size 242 (sp7 (0,0,0) (0,0,0) U)) zA0 zA0 (λW hW _=>?_) (λ(p8:Nat)=>?_)
     ·refine jl ?_ (Below.size hW);go_simp
     simp only[Act.put,qf,qc,qh,zA,zB,zC];refine qF (hK _ _ λW hW hF=>?_);obtain⟨f8,hlo⟩:W.heap[p8]?=I (M (sp7 (0,0,0) (0,0,0) U) 242 (0,0))/\wa.heap.size<=p8:=(hF 17).1;clear hF hK gC gN gI;have hW':Ext wa W:=hW;refine zB5 ?_;have k8:=qa f8;have h8:=qd f8;go_wp2;refine Qt ?_;have x5:Ext wa _:=qfN hW' hlo (E .u8 x.k) (E X x.i) (E X x.o) (E .u8 x.k) (E X x.i) (E X x.o) (.bool F);have r8:=row7 f8 rfl (E .u8 x.k) (E X x.i) (E X x.o) (E .u8 x.k) (E X x.i) (E X x.o) (.bool F);generalize hw5:(O (O (O (O (O (O (O W _ _) _ _) _ _) _ _) _ _) _ _) _ _)=w5 at*;clear hw5 k8 h8 f8 hW hW' hq1 hq2;have H5:=HR.ext (xa.trans x5);have r5:=qb ra x5;have z8:wr.heap.size<p8:=Nat.lt_of_lt_of_le (zG.1 ra).1 hlo;have z8':p8<w5:=(zG.1 r8).1;have kn5:=qa H5.rn;rcases Nat.eq_zero_or_pos h with hz|hz
     case' inl=>
      have hd2:decide (0<h)=U:=decide_eq_false zO;have hl1:l1=qz x:=by have:=hone.out;rw[hz]at this;unfold ju at this;split at this;cases this;rfl;cases this
      have H7:=H5;replace r8:w5.heap[p8]?=I (M (sp7 (qz x) l1 F) 242 (0,0)):=by rw[hl1];exact r8
      replace⟨hz,hl1,H5,H7⟩:=zH4 hz hl1 H5 H7;clear rnr rxr rrr;go_upto_region 11 with fail
     case' inr=>
      obtain⟨h',hh⟩:∃h',h=h'+1:=⟨h-1,zO⟩
      have hc1:(h':Int)=(h:Int)-1:=zO;obtain⟨b',ys,e1,e2,e3,e4,e5⟩:=one_span (by rw[<-hh];exact hone.out);have hrb:r=b':=by have:=hr.out;omega
      subst hrb;have hd2:decide (0<h)=F:=decide_eq_true hz;have hLF:wrap64 ((h:Int)-1)=(h:Int)-1:=IntWalk.wrap64_in _ (by have:=hh5.out;omega);replace hLF:=zH hLF;obtain⟨hm1,hm2,-⟩:=qJ e4;have hyl:ys.length<=5:=by unfold Qq Jy at hm1;simp at hm1;omega
      have hyn:0<ys.length:=by
       rcases Nat.eq_zero_or_pos ys.length with h0|h0
       obtain rfl:=List.eq_nil_of_length_eq_zero h0;cases e5;exact h0
      have hHW:=zH (λW (hx:Ext w5 W) A9 c9 lo9 (hi9:jr lo9 W (D A9 ys.length c9) ys)=>HW h' hh ys A9 c9 (qz x) l1 lo9 W (hE.out.ext ((xr.trans (xa.trans x5)).trans hx)) (by have:=hh5.out;omega) hyl (λy hy=>(hm2 y hy).1.2.2.2.1) hi9 e5);have hBN:=zH (Vn 0 bb A1 n1 c1 A2 n2 c2 A3 n3 c3 A4 n4 c4 S hS.out r e2 e3 w5 (hE.out.ext (xr.trans (xa.trans x5))).on);rw[e4]at hBN;have hy1:((ys.length:Int)==0)=U:=by rw[beq_eq_false_iff_ne];omega
      have kb5:=qa (hE.out.ext (xr.trans (xa.trans x5))).b;have ki5:=qa r5;replace⟨hh,hz,H5,e4,e5,hc1⟩:=zH6 hh hz H5 e4 e5 hc1;clear rnr rxr rrr hm1 hm2 hyl hyn e1 e2 e3;go_wp2_with fail;refine hBN.out.mono ?_;clear hBN;rintro e w6 ⟨u,rfl,hu,hB6⟩;obtain⟨A9,c9,rfl,hMS⟩:=hu;rw[hc1.out];have H6:=H5.out.ext hB6;have r86:=qb r8 hB6;have r56:=qb r5 hB6;have E6:=hE.out.ext ((xr.trans (xa.trans x5)).trans hB6);have kn6:=qa H6.rn;have kf6:=qa E6.f;have z6:p8<w6:=(zG.1 r86).1;have z66:=(zG.1 H6.rn).1;have zf6:=(zG.1 E6.f).1;replace⟨H6,E6,hMS⟩:=zH3 H6 E6 hMS;have hw64':=hLF.out;clear r8 r5 ki5 kb5 kn5 x5;go_wp2_with fail;generalize hw7:(J w6 _)=w7;have x7:Ext w6 w7:=hw7▸zN _ _;clear hw7;have hJJ:=hHW.out w7 (Ext.trans hB6 x7) A9 c9 _ (hMS.out.ext x7);rw[hc1.out]at hJJ;refine hJJ.mono ?_;clear hJJ hHW;rintro e w8 ⟨rfl,hB8⟩;have x8:Ext w6 w8:=x7.trans hB8;have H8:=H6.out.ext x8;have r88:=qb r86 x8;have r58:=qb r56 x8;have b8:=row7 r88 rfl (E .u8 (qz x).1) (E X (qz x).2.1) (E X (qz x).2.2) (E .u8 l1.1) (E X l1.2.1) (E X l1.2.2) (.bool F);have x9:∀q≤p8,Below q w8 _:=λq hq=>qfN (Below.refl q w8) hq (E .u8 (qz x).1) (E X (qz x).2.1) (E X (qz x).2.2) (E .u8 l1.1) (E X l1.2.1) (E X l1.2.2) (.bool F);have f8:=qd r88;have k8:=qa r88;have z8:w.heap.size+2<p8:=zO;clear r86 r56 kn6 kf6;replace⟨hz,H8⟩:=zH2 hz.out H8;go_upto_region 11 with fail;have H7:=H8.out.low (x9 p8 (zM _)) z8;have r5:=((x9 p8 (zM _)).block wr.heap.size zO).trans r58;clear x9 r88 r58 f8 k8;generalize hw9:(O (O (O (O (O (O (O w8 _ _) _ _) _ _) _ _) _ _) _ _) _ _)=w9 at*;clear hw9 z8' hB8 x8 hB6 x7 z6 z66 zf6;have r8:w9.heap[p8]?=I (M (sp7 (qz x) l1 F) 242 (0,0)):=b8;clear b8;replace H7:=zH H7
     all_goals
      replace HR:=zH HR;clear xa;have kn7:=qa H7.out.rn;have kx7:=qa H7.out.rx;have fx7:=qd H7.out.rx;have k8:=qa r8;have k5:=qa r5;rcases Nat.eq_zero_or_pos k with hk0|hk0
      ·have hk1:decide ((k:Int)>0)=U:=decide_eq_false zO;have hk2:((k:Int)==0)=F:=by rw[beq_iff_eq];omega
       have hk4:decide (0<k)=U:=decide_eq_false zO;have HN:=g2.out;rw[if_pos hk0]at HN;have HR9:=H7.out.set7 HN;replace⟨HN,hk0⟩:=zH2 HN hk0;dsimp only[qz]at HR9;replace HR9:=zH HR9;clear hk;go_wp2_with fail;refine⟨⟨k+1,(x.k,x.i,x.o),l1,F,hBP,rfl,HR9.out⟩,?_⟩;simp[intOf];omega
      have hk1:decide ((k:Int)>0)=F:=decide_eq_true zO;have hk2:((k:Int)==0)=U:=by rw[beq_eq_false_iff_ne];omega
      have hk4:decide (0<k)=F:=decide_eq_true hk0;have HN:=g2.out;rw[if_neg zO]at HN;replace HN:=zH HN;have hls:YE lk.1 lk.2.1 lk.2.2 x.k x.i x.o=F:=g1.out hk0;replace⟨hls,hk0⟩:=zH2 hls hk0;clear hk;go_wp2_with fail;refine(Tq lk.1 lk.2.1 lk.2.2 x.k x.i x.o _).mono ?_;rintro e wl ⟨rfl,hB⟩;rw[hls.out];have H8':=H7.out.ext hB;have kx8:=qa H8'.rx;have fx8:=qd H8'.rx;have k88:=qa (qb r8 hB);have HR9:=zH (H8'.set4 HN.out);replace H8':=zH H8';clear kn7 kx7 fx7 k8 k5 hB r8 r5;go_wp2_with fail;refine⟨⟨k+1,fk,l1,F,hBP,rfl,HR9.out⟩,?_⟩;simp[intOf];omega
  have hke:k=xs.length:=zO;have hx0:0<xs.length:=by
   rcases Nat.eq_zero_or_pos xs.length with h0|h0
   have:=hsp.out;rw[List.eq_nil_of_length_eq_zero h0]at this;cases this;exact h0
  obtain⟨hs1,rfl⟩:=HR.sp zO;rw[hke,List.take_length,hsp.out]at hs1;simp only[Option.some.injEq,Prod.mk.injEq]at hs1;obtain⟨rfl,rfl⟩:=hs1;have kx:=qa rxr;have kr:=qa rrr;have fr:=qd rrr;have rr:=zH rrr;have xrh:=zH xr;replace⟨HR,hke⟩:=zH2 HR hke;clear rxr rnr rrr xr;go_wp2;exact qlY (b:=w.heap.size+1) rfl rfl (row7 rr.out rfl _ _ _ _ _ _ _) ⟨rfl,qfN xrh.out zO _ _ _ _ _ _ _⟩
theorem qiW(S:Sto)(hS:qk S=F)(bS bB bW bb:Nat)(v1 v2 v3 v4:Y)(A1 n1 c1 A2 n2 c2 A3 n3 c3 A4 n4 c4):∀h:Nat,WalkC S bS bB bW bb v1 v2 v3 v4 (D A1 n1 c1) (D A2 n2 c2) (D A3 n3 c3) (D A4 n4 c4) h
 |0=>qiX S hS bS bB bW bb v1 v2 v3 v4 A1 n1 c1 A2 n2 c2 A3 n3 c3 A4 n4 c4 0 λ_ e=>zO
 |h+1=>qiX S hS bS bB bW bb v1 v2 v3 v4 A1 n1 c1 A2 n2 c2 A3 n3 c3 A4 n4 c4 (h+1) λh' e=>by obtain rfl:h=h':=zO;exact qiW S hS bS bB bW bb v1 v2 v3 v4 A1 n1 c1 A2 n2 c2 A3 n3 c3 A4 n4 c4 h
theorem now_pos{a:Nat}(h:qm S a=q):0<(S.now[a]?.getD 0).toNat:=by unfold qm at h;split at h;cases h;omega
theorem qlV(f l:K3)(b:Bool)(w:Oa):(Instr.field 242 (.agg (sp7 f l b)) 2).run prog w=.ok (.bool b) w:=zQ
theorem qcw(h4:a.tmps[4]?.getD undef=u)(h5:a.tmps[5]?.getD undef=v)(hd:a.defers=[])(hR:R (Ob (Oc #[u,v])) W):bodyPost prog Tryz.f125 R .ret a W:=by refine bodyPost_ret (v:=Oc #[u,v]) ?_ hd hR;simp[results,results125,go_sem,h4,h5]
set_option maxRecDepth 100000 in
theorem qhF(A1 n1 c1 A2 n2 c2 A3 n3 c3 A4 n4 c4)(S:Sto)(hS:qk S=F)(a:Nat)(hT:Zp S a)(w:Oa)(hst:Qi w w (D A1 n1 c1) (D A2 n2 c2) (D A3 n3 c3) (D A4 n4 c4) S):Calls prog 125 #[Qp A1 n1 c1 A2 n2 c2 A3 n3 c3 A4 n4 c4,(a:Int)] w (zv (λu _=>∃(lvl:Nat)(xs:List It),qm S a=I ((lvl:Int),xs)/\lvl<=5/\u=Oc #[E Jx ((lvl:Int)+1),E Jx 0]) w):=by
 obtain⟨ha,ha2,lvl,xs,hn,hsp⟩:=hT;have hEJ:=now_pos hn;obtain⟨hm1,hm2,-⟩:=qJ hn;have hxl:xs.length<=5:=by unfold Qq Jy at hm1;simp at hm1;omega
 have hll:lvl<=5:=by unfold Qq Jy at hm1;simp at hm1;omega
 have hl3:S.now.length=256:=(qZ hS).2.2.1;obtain⟨b3,o3,d3,e3,hd3,hm3⟩:=qik hS hst.now;simp only[Value.slice.injEq]at e3;obtain⟨rfl,rfl,rfl⟩:=e3;have hAG:=qhg hst.now (a:=a) zO;have HCK:=zH (λW (hx:Ext w W)=>vz A1 n1 c1 A2 n2 c2 (I ⟨b3,o3,Q⟩) 256 c3 A4 n4 c4 S W (hst.ext hx));have HON:=zH (λW (hx:Ext w W)=>qke A1 n1 c1 A2 n2 c2 (I ⟨b3,o3,Q⟩) 256 c3 A4 n4 c4 S zO W (hst.ext hx));have HST:=zH hst;have ha3:decide ((a:Int)<8)=U:=decide_eq_false zO;have ha5:decide ((a:Int)≥256)=U:=decide_eq_false zO;have ha8:(a:Int)<256:=zO;generalize hnv:(S.now[a]?.getD 0).toNat=nv at*;have hn1:((nv:Int)==0)=U:=by rw[beq_eq_false_iff_ne];omega
 replace⟨hnv,hm1,hm2,hn,hsp,hS⟩:=zH6 hnv hm1 hm2 hn hsp hS;replace⟨hm3,hl3⟩:=zH2 hm3 hl3;have hwr:Hid (wrap64 ((lvl:Int)+1)=(lvl:Int)+1):=zH (IntWalk.wrap64_in _ zO);replace hll:=zH hll;clear hst hEJ;go_enter func125,ntmps125;go_wp2_with fail;generalize hw1:(J _ _)=w1;have x1:Ext w w1:=hw1▸zN _ _;have r1:w1.heap[w.heap.size]?=I (M #[D A1 n1 c1,D A2 n2 c2,D (b3,o3) 256 c3,D A4 n4 c4] 28):=hw1▸zI _ _ _ rfl;clear hw1;refine(HCK.out w1 x1).mono ?_;clear HCK;rintro e w2 ⟨rfl,hB⟩;have x2:Ext w w2:=x1.trans hB;have r2:=qb r1 hB;rw[hS.out,show JQ F=0 from rfl];have k2:=qa r2;have hc2:=Ext.cell x2 hAG;clear r1 hB x1 hAG;go_wp2_with fail;refine(HON.out w2 x2).mono ?_;clear HON;rintro e w3 ⟨u,rfl,⟨bb,A3',c3',rfl,hOn,-⟩,hB⟩;have x3:Ext w w3:=Ext.trans x2 hB;have r3:=qb r2 hB;clear k2 hc2 r2 x2 hB;replace hOn:=zH hOn;go_wp2_with fail;generalize hw4:(J w3 _)=w4;have x34:Ext w3 w4:=hw4▸zN _ _;have rb4:w4.heap[w3.heap.size]?=I (M #[Z bb] 92):=hw4▸zI _ _ _ rfl;have rs4:=qb r3 x34;have hOn4:=zH (hOn.out.ext x34);have x4:Ext w w4:=x3.trans x34;clear hw4;have hBN:=Vn 0 bb A1 n1 c1 A2 n2 n2 A3' 256 c3' A4 n4 c4 S hS.out a ha ha2 w4 ⟨Nat.zero_le _,(hOn.out.ext x34).2⟩;rw[hn.out]at hBN;refine hBN.mono ?_;clear hBN;rintro e w5 ⟨u,rfl,⟨A9,c9,rfl,hBE⟩,hB⟩;have hB':Ext w4 w5:=hB;have rs5:=qb rs4 hB';have rb5:=qb rb4 hB';have hOn5:=zH (hOn4.out.ext hB');have x5:Ext w w5:=x4.trans hB';replace hBE:=zH hBE;clear rs4 rb4 hB hB' x34 x4 x3 hOn4 hOn r3;rcases Nat.eq_zero_or_pos xs.length with h0|h0
 ·have hx1:decide ((xs.length:Int)>0)=U:=decide_eq_false zO;have hx2:decide (0<xs.length)=U:=decide_eq_false zO;replace h0:=zH h0;go_wp2_with fail;exact qcw (u:=E Jx ((lvl:Int)+1)) (by show Value.int Jx (wrap64 _)=_;rw[hwr.out]) rfl rfl ⟨_,rfl,⟨lvl,xs,hn.out,hll.out,rfl⟩,x5.trans ((zN _ _).trans (zN _ _))⟩
 have hx1:decide ((xs.length:Int)>0)=F:=decide_eq_true zO;have hx2:decide (0<xs.length)=F:=decide_eq_true h0;obtain⟨⟨f,l⟩,hfl⟩:∃p,qC S lvl xs=I (I p):=by
  rcases hq:qC S lvl xs with _|_|p
  have:=hsp.out;rw[hq]at this;cases this;exact absurd (by rw[List.take_length];exact hq) (ZS (S:=S) (h:=lvl) h0 (zM xs.length));exact⟨p,rfl⟩
 replace⟨h0,hfl⟩:=zH2 h0 hfl;go_wp2_with fail;generalize hw6:(J (J w5 _) _)=w6;have x56:Ext w5 w6:=by rw[<-hw6];exact(zN _ _).trans (zN _ _)
 have rf6:w6.heap[w5.heap.size+1]?=I (M #[.func (.func 173) #[] #[Z w,Z w3,Z (w5,1,0)]] 240):=hw6▸zI _ _ _ zA3;have rn6:w6.heap[w5.heap.size]?=I (M #[lvl,D A9 xs.length c9] 113):=by rw[<-hw6];exact(zK _ _ _ zA3).trans (zI _ _ _ rfl)
 clear hw6;have x6:Ext w w6:=x5.trans x56;have hJJ:=qiW S hS.out w.heap.size w3.heap.size (w5.heap.size+1) bb (D A1 n1 c1) (D A2 n2 c2) (D (I ⟨b3,o3,Q⟩) 256 c3) (D A4 n4 c4) A1 n1 c1 A2 n2 n2 A3' 256 c3' A4 n4 c4 lvl xs A9 c9 f l _ w6
  ⟨qb rs5 x56,qb rb5 x56,rf6,(HST.out.ext x6).now,⟨Nat.zero_le _,(hOn5.out.ext x56).2⟩⟩ hll.out hxl (λy hy=>(hm2.out y hy).1.2.2.2.1) (hBE.out.ext x56) hfl.out
 refine hJJ.mono ?_;clear hJJ;rintro e w7 ⟨rfl,hB⟩;have rn7:=qb rn6 hB;have kn7:=qa rn7;have x7:=zH (x6.trans hB);clear rs5 rb5 rf6 rn6 hB x6 x56 x5;have hfi:=qlV;go_wp2_with fail;exact qcw (u:=E Jx ((lvl:Int)+1)) (by show Value.int Jx (wrap64 _)=_;rw[hwr.out]) rfl rfl ⟨_,rfl,⟨lvl,xs,hn.out,hll.out,rfl⟩,x7.out⟩
theorem UV(A1 n1 c1 A2 n2 c2 A3 n3 c3 A4 n4 c4)(S:Sto)(hS:qk S=F)(a:Nat)(hT:Zp S a)(w:Oa)(hst:Qi w w (D A1 n1 c1) (D A2 n2 c2) (D A3 n3 c3) (D A4 n4 c4) S):Calls prog 125 #[Qp A1 n1 c1 A2 n2 c2 A3 n3 c3 A4 n4 c4,(a:Int)] w (zv (λu _=>∃m:Int,u=Oc #[m,E Jx 0]) w):=
 (qhF A1 n1 c1 A2 n2 c2 A3 n3 c3 A4 n4 c4 S hS a hT w hst).mono λe w' ⟨u,he,⟨_,_,_,_,hu⟩,hB⟩=>⟨u,he,⟨_,hu⟩,hB⟩
theorem qmd:∀{h:Nat}{xs:List It}{x:It},x∈qy S h xs->∃(j:Nat)(hj:j<xs.length),x∈qy S h [xs[j]]
 |0,xs,x,hx=>by obtain⟨j,hj,rfl⟩:=List.mem_iff_getElem.1 hx;exact⟨j,hj,List.mem_singleton.2 rfl⟩
 |h+1,xs,x,hx=>by rw[ZG]at hx;obtain⟨y,hy,hx⟩:=List.mem_flatMap.1 hx;obtain⟨j,hj,rfl⟩:=List.mem_iff_getElem.1 hy;exact⟨j,hj,by rw[ZG];exact List.mem_flatMap.2 ⟨_,List.mem_singleton.2 rfl,hx⟩⟩
theorem one_low(hs:(qC S h xs).isSome=F)(hj:j<xs.length)(hx:x∈qy S h [xs[j]]):leK (qz xs[j]) (qz x):=by
 have h2:=KE hs (j+1);rw[vC hj]at h2;unfold Jf at h2;rcases hA:qC S h (xs.take j)with _|a
 rw[hA]at h2;cases h2;rcases hO:ju S h xs[j]with _|⟨f,l⟩
 rw[hA,hO]at h2;cases h2;rw[hA,hO]at h2;simp only at h2;split at h2;rename_i hf;subst hf;exact(qge S h _ _ _ hO).low x hx;cases h2
theorem items_lt(hs:(qC S h xs).isSome=F)(hi:i<xs.length)(hx:x∈qy S h (xs.take i)):Qm (qz x) (qz xs[i])=F:=by
 rcases Nat.eq_zero_or_pos i with h0|h0
 subst h0;rw[List.take_zero,JN]at hx;cases hx;obtain⟨j,rfl⟩:∃j,i=j+1:=⟨i-1,zO⟩
 have h2:=KE hs (j+1+1);rw[vC hi]at h2;unfold Jf at h2;rcases hA:qC S h (xs.take (j+1))with _|_|q
 rw[hA]at h2;cases h2;exact absurd hA (ZS zO zO);have hm:=(qdB hA).1.high x hx;rw[hA]at h2;rcases hO:ju S h xs[j+1]with _|⟨f,l⟩
 rw[hO]at h2;cases h2;rw[hO]at h2;simp only at h2;split at h2;rename_i hf;split at h2;rename_i hl;rw[hf]at hl;exact qcK hm hl;cases h2;cases h2
theorem qlT{k:K3}(h:kI xs k=y):∃(i:Nat)(hi:i<xs.length),xs[i]=y/\Qm k (qz y)=U/\∀j (hj:j<xs.length),i<j->Qm k (qz xs[j])=F:=by unfold kI at h;rw[List.find?_eq_some_iff_getElem]at h;obtain⟨h1,i,hi,h2,h3⟩:=h;rw[List.length_reverse]at hi;refine⟨xs.length-1-i,zO,?_,by simpa using h1,λj hj hlt=>?_⟩;rw[List.getElem_reverse]at h2;exact h2;have:=h3 (xs.length-1-j) zO;rw[List.getElem_reverse]at this;simp only[show xs.length-1-(xs.length-1-j)=j by omega]at this;simpa using this
abbrev qaB(x:It)(A:OA)(c:Nat):Array Y:=#[E .u8 x.k,E X x.i,E X x.o,E Jx x.r,D A x.val.length c]
abbrev To:Array Y:=#[E .u8 0,E X 0,E X 0,E Jx 0,D Q 0 0]
def qgN(lo:Nat)(q:Option It)(u:Y)(W:Oa):Prop:=match q with
 |none=>u=Oc #[.agg To,E Jx 6]
 |some x=>∃A c,u=Oc #[.agg (qaB x A c),E Jx 0]/\Bys W W (D A x.val.length c) x.val/\ZV lo (D A x.val.length c)
theorem qdZ{lo b off n c:Nat}(h:jr lo w (D (b,off) n c) xs)(i:Nat)(hi:i<xs.length):∃A' c',ItAt w w b (off+i*5) xs[i] A' c'/\ZV lo (D A' xs[i].val.length c'):=by
 obtain⟨ps,rfl,⟨A,c1,e,_,_,hr⟩,hp,hf,hg⟩:=h;cases e;have hi':i<ps.length:=by simpa using hi
 obtain⟨b',off',e,hb,hc⟩:=hr.2 zO;cases e;obtain⟨c0,c1,c2,c3,c4⟩:=Vs ps i hi';have hgi:=hg ps[i] (List.getElem_mem hi');obtain⟨⟨A',c',e5⟩,hby⟩:=hp ps[i] (List.getElem_mem hi');rw[e5]at c4 hby hgi;refine⟨A',c',?_,by simpa using hgi⟩;simp only[List.getElem_map];refine⟨hc _ _ c0,?_,?_,?_,?_,hby⟩;rw[Nat.add_assoc];exact hc _ _ c1;rw[Nat.add_assoc];exact hc _ _ c2;rw[Nat.add_assoc];exact hc _ _ c3;rw[Nat.add_assoc];exact hc _ _ c4
def vF(S:Sto)(i:Y):Nat:=match qm S (intOf i).toNat with
 |some (l,_)=>l.toNat
 |none=>0
theorem VR{r h:Nat}(hn:qm S r=I ((h:Int),ys)):vF S (r:Int)=h:=by unfold vF intOf;simp only[Int.toNat_natCast];rw[hn];simp
structure FnI(S:Sto)(K:K3)(q:Option It)(w2:Oa)(i:Y)(wr:Oa):Prop where
 ex:∃(h r:Nat)(ys:List It),i=E Jx (r:Int)/\8<=r/\r<256/\qm S r=I ((h:Int),ys)/\(qC S h ys).isSome=F/\oneT S K h ys=q/\Ext w2 wr
theorem qax{b:Nat}{cs:Array Y}(h6:a.tmps[6]?.getD undef=Z b)(h7:a.tmps[7]?.getD undef=v)(hd:a.defers=[])(hAH:W.heap[b]?=I (M cs 51))(hs:∃x0 x1 x2 x3 x4,cs=#[x0,x1,x2,x3,x4])(hR:R (Ob (Oc #[.agg cs,v])) W):bodyPost prog Tryz.f87 R .ret a W:=by refine bodyPost_ret (v:=Oc #[.agg cs,v]) ?_ hd hR;have k:=qa hAH;obtain⟨x0,x1,x2,x3,x4,rfl⟩:=hs;simp[results,results87,go_sem,h6,h7,k]
theorem row5{b:Nat}{y0 y1 y2 y3 y4:Y}(h:w.heap[b]?=I (M #[y0,y1,y2,y3,y4] ty))(x0 x1 x2 x3 x4:Y):(((((w.setCell b x0).setCell (b,1) x1).setCell (b,2) x2).setCell (b,3) x3).setCell (b,4) x4).heap[b]?=I (M #[x0,x1,x2,x3,x4] ty):=qj (qj (qj (qj (qj h 0 x0) 1 x1) 2 x2) 3 x3) 4 x4
theorem Tb{B b:Nat}(h:Below B w0 w)(hb:B<=b)(x0 x1 x2 x3 x4:Y):Below B w0 (((((w.setCell b x0).setCell (b,1) x1).setCell (b,2) x2).setCell (b,3) x3).setCell (b,4) x4):=
 Below.setCell (Below.setCell (Below.setCell (Below.setCell (Below.setCell h (p:=⟨b,0,Q⟩) hb _) (p:=⟨b,1,Q⟩) hb _) (p:=⟨b,2,Q⟩) hb _) (p:=⟨b,3,Q⟩) hb _) (p:=⟨b,4,Q⟩) hb _
theorem its_set5{lo b:Nat}(h:jr lo w v xs)(hb:b<lo)(x0 x1 x2 x3 x4:Y):jr lo (((((w.setCell b x0).setCell (b,1) x1).setCell (b,2) x2).setCell (b,3) x3).setCell (b,4) x4) v xs:=by
 refine h.keep zA3 (λq hq _=>?_);have hne:∀j,(⟨b,j,Q⟩:Addr)≠q:=λj e=>by subst e;simp at hq;omega
 rw[World.cell?_setCell_other _ _ _ _ (hne _),World.cell?_setCell_other _ _ _ _ (hne _),World.cell?_setCell_other _ _ _ _ (hne _),World.cell?_setCell_other _ _ _ _ (hne _),World.cell?_setCell_other _ _ _ _ (hne _)]
theorem bys_set5{b lo:Nat}(h:Bys w w v l)(hf:ZV lo v)(hb:b<lo)(x0 x1 x2 x3 x4:Y):Bys (((((w.setCell b x0).setCell (b,1) x1).setCell (b,2) x2).setCell (b,3) x3).setCell (b,4) x4) (((((w.setCell b x0).setCell (b,1) x1).setCell (b,2) x2).setCell (b,3) x3).setCell (b,4) x4).heap.size v l:=by have:=((((h.setCell hf (p:=⟨b,0,Q⟩) hb x0).setCell hf (p:=⟨b,1,Q⟩) hb x1).setCell hf (p:=⟨b,2,Q⟩) hb x2).setCell hf (p:=⟨b,3,Q⟩) hb x3).setCell hf (p:=⟨b,4,Q⟩) hb x4;refine this.more ?_;simp
theorem its_cell{lo b:Nat}(_:jr lo w v xs){q:Addr}(hb:b<lo)(x0 x1 x2 x3 x4:Y)(hq:lo<=q.block):(((((w.setCell b x0).setCell (b,1) x1).setCell (b,2) x2).setCell (b,3) x3).setCell (b,4) x4).cell? q=w.cell? q:=by
 have hne:∀j,(⟨b,j,Q⟩:Addr)≠q:=λj e=>by subst e;simp at hq;omega
 rw[World.cell?_setCell_other _ _ _ _ (hne _),World.cell?_setCell_other _ _ _ _ (hne _),World.cell?_setCell_other _ _ _ _ (hne _),World.cell?_setCell_other _ _ _ _ (hne _),World.cell?_setCell_other _ _ _ _ (hne _)]
set_option maxRecDepth 100000 in
theorem qeF(A1 n1 c1 A2 n2 c2 A3 n3 c3 A4 n4 c4)(S:Sto)(hS:qk S=F)(a lvl:Nat)(xs:List It)(ha:8<=a)(ha2:a<256)(hn:qm S a=I ((lvl:Int),xs))(hsp:(qC S lvl xs).isSome=F)(k i o:Int)(w:Oa)(hst:Qi w w (D A1 n1 c1) (D A2 n2 c2) (D A3 n3 c3) (D A4 n4 c4) S):Calls prog 87 #[Qp A1 n1 c1 A2 n2 c2 A3 n3 c3 A4 n4 c4,(a:Int),Xk k i o] w (zv (qgN w (oneT S (k,i,o) lvl xs)) w):=by
 have HCK:=zH (λW (hx:Ext w W)=>UV A1 n1 c1 A2 n2 c2 A3 n3 c3 A4 n4 c4 S hS a ⟨ha,ha2,lvl,xs,hn,hsp⟩ W (hst.ext hx));have HON:=zH (λW (hx:Ext w W)=>qke A1 n1 c1 A2 n2 c2 A3 n3 c3 A4 n4 c4 S (by have:=(qZ hS).2.2.1;omega) W (hst.ext hx));obtain⟨q,hq⟩:∃q,oneT S (k,i,o) lvl xs=q:=⟨_,rfl⟩
 rw[hq];have HI0:∀W,FnI S (k,i,o) q W (a:Int) W:=λW=>⟨lvl,a,xs,rfl,ha,ha2,hn,hsp,hq,Ext.refl _⟩
 replace⟨HI0,hS⟩:=zH2 HI0 hS;clear hst hn hsp hq ha ha2;go_enter func87,ntmps87;go_wp2_with fail;generalize hw1:(J (J (J w _) _) _)=w1;have x1:Ext w w1:=by rw[<-hw1];exact((zN _ _).trans (zN _ _)).trans (zN _ _)
 have rs1:w1.heap[w.heap.size]?=I (M #[D A1 n1 c1,D A2 n2 c2,D A3 n3 c3,D A4 n4 c4] 28):=by rw[<-hw1];exact(zK _ _ _ zA2).trans ((zK _ _ _ zA3).trans (zI _ _ _ rfl))
 have rk1:w1.heap[w.heap.size+1]?=I (M #[E .u8 k,E X i,E X o] 49):=by rw[<-hw1];exact(zK _ _ _ zA3).trans (zI _ _ _ zA3)
 have ri1:w1.heap[w.heap.size+2]?=I (M To 51):=hw1▸zI _ _ _ zA3;clear hw1;have ks1:=qa rs1;go_step3;go_wp2_with fail;refine(HCK.out w1 x1).mono ?_;clear HCK;rintro e w2 ⟨u,rfl,⟨m,rfl⟩,hB⟩;have x2:Ext w w2:=Ext.trans x1 hB;have rs2:=qb rs1 hB;have rk2:=qb rk1 hB;have ri2:=qb ri1 hB;clear rs1 rk1 ri1 hB x1 ks1;have ks2:=qa rs2;go_wp2_with fail;refine(HON.out w2 x2).mono ?_;clear HON;rintro e w3 ⟨u,rfl,⟨bb,A3',c3',rfl,hOn,-⟩,hB⟩;have x3:Ext w w3:=Ext.trans x2 hB;have rk3:=qb rk2 hB;have ri3:=qb ri2 hB;clear rs2 rk2 ri2 hB x2 ks2;replace hOn:=zH hOn;have I0:=zH (HI0.out w3);clear HI0;go_wp2_with fail;go_step3;go_wp2_with fail;go_loopw [10] (λj wr=>FnI S (k,i,o) q w3 j wr) (λj _=>vF S j)
 case atStart=>exact I0.out
 case round=>
  obtain⟨h,r,ys,rfl,h8,h256,hn,hsp,hq,xr⟩:=hrel.ex;clear I0 hrel;have hlv:=VR hn;obtain⟨hm1,hm2,-⟩:=qJ hn;have hyl:ys.length<=5:=by unfold Qq Jy at hm1;simp at hm1;omega
  have hQI:=(jd hsp).2;have hBN:=Vn 0 bb A1 n1 c1 A2 n2 n2 A3' n3 c3' A4 n4 c4 S hS.out r h8 h256 wr ⟨Nat.zero_le _,(hOn.out.ext xr).2⟩;rw[hn]at hBN;have xwr:=x3.trans xr;have rkr:=qb rk3 xr;have rir:=qb ri3 xr;have zr:w.heap.size+2<wr:=(zG.1 rir).1;replace⟨hlv,hsp,hn,hq,hm2,hQI⟩:=zH6 hlv hsp hn hq hm2 hQI;clear hm1;go_wp2_with fail;refine hBN.mono ?_;clear hBN;rintro e w4 ⟨u,rfl,⟨A9,c9,rfl,hBE⟩,hB⟩;have hB':Ext wr w4:=hB;have x4:=xwr.trans hB';have rk4:=qb rkr hB';have ri4:=qb rir hB';have z4:w.heap.size+2<w4:=(zG.1 ri4).1;have kk4:=qa rk4;have z41:w.heap.size+1<w4:=zO;replace hBE:=zH hBE;replace xr:=zH (xr.trans hB');clear rkr rir hB hB' xwr;go_wp2_with fail;generalize hw5:(J w4 _)=w5;have x5:Ext w4 w5:=hw5▸zN _ _;have rn5:w5.heap[w4.heap.size]?=I (M #[h,D A9 ys.length c9] 113):=hw5▸zI _ _ _ rfl;clear hw5;refine(qaI (h:Int) A9 c9 ys k i o _ w5 hyl (hBE.out.ext x5)).mono ?_;rintro e w6 ⟨rfl,hB⟩;have x56:Ext w4 w6:=x5.trans hB;have rn6:=qb rn5 hB;have ri6:=qb ri4 x56;have kn6:=qa rn6;have fi6:=qd ri6;have ki6:=qa ri6;have hGL:=zH (hBE.out.ext x56);replace xr:=zH (xr.out.trans x56);replace x4:=zH (x4.trans x56);clear rn5 x5 hB x56 rk4 ri4 kk4 z4 z41;have hA:=hGL.out.its.at_.2.2.2;have hMY:=JI ys (k,i,o);have hIT:=zH (λj (hj:j<ys.length) b9 off (he:A9=I ⟨b9,off,Q⟩)=>by have:=hGL.out.its;rw[he]at this;exact this.item j hj);obtain⟨ie,hie⟩:∃ie,kD ys (k,i,o)=ie:=⟨_,rfl⟩
  obtain⟨p,hp⟩:∃p,qD ys (k,i,o)=p:=⟨_,rfl⟩
  have hT:ie=F->∃hp:qD ys (k,i,o)<ys.length,qz (ys[qD ys (k,i,o)]'hp)=(k,i,o):=λh0=>by rw[h0]at hie;by_cases hl:qD ys (k,i,o)<ys.length;rw[vn hl]at hie;exact⟨hl,of_decide_eq_true hie⟩;rw[kO hl]at hie;cases hie
  have hF:ie=U->∀hp:qD ys (k,i,o)<ys.length,qz (ys[qD ys (k,i,o)]'hp)≠(k,i,o):=λh0 hl=>by rw[h0,vn hl]at hie;exact of_decide_eq_false hie
  rw[hie,hp];rw[hp]at hMY;have hT':=zH hT;have hF':=zH hF;replace⟨hp,hie⟩:=zH2 hp hie;clear hT hF;have HREL:=zH (λ(x:It)(hx:x∈ys)(hd:kI ys (k,i,o)=I x)(h':Nat)(hh:h=h'+1)=>by
   have h1:=QC hsp.out x hx;rw[hh]at h1;obtain⟨b,e1,e2,e3,zs,e4,e5⟩:=QH h1;have e6:qm S x.r.toNat=I ((h':Int),zs):=by rw[e1,Int.toNat_natCast];exact e4
   have e7:oneT S (k,i,o) h' zs=q:=by rw[<-Kw hd e6,<-hh];exact hq.out
   have e8:vF S (b:Int)<vF S (r:Int):=by rw[VR e4,hlv.out];omega
   exact(⟨b,e1,⟨⟨h',b,zs,rfl,e2,e3,e4,e5,e7,xr.out⟩⟩,e8⟩:∃b:Nat,x.r=(b:Int)/\FnI S (k,i,o) q w3 (E Jx (b:Int)) w6/\vF S (E Jx (b:Int))<vF S (E Jx (r:Int))))
  rcases Nat.eq_zero_or_pos h with h0|h0
  ·have hh1:((h:Int)==0)=F:=by rw[beq_iff_eq];omega
   clear HREL;cases ie
   ·have hz:q=Q:=by rw[<-hq.out,h0,qim,qlc hQI.out (hF'.out rfl)]
    replace⟨h0,hz⟩:=zH2 h0 hz;clear hA hMY;go_wp2_with fail;exact qax (b:=w.heap.size+2) rfl rfl rfl (row5 ri6 _ _ _ _ _) ⟨_,_,_,_,_,rfl⟩ ⟨_,rfl,by rw[hz.out];rfl,Tb x4.out zO _ _ _ _ _⟩
   obtain⟨hpl,hke⟩:=hT'.out rfl;have hz:q=I ys[qD ys (k,i,o)]:=by rw[<-hq.out,h0,qim,leaf_is hQI.out hpl hke]
   obtain⟨b9,off,rfl,hb9⟩:=hA zO;obtain⟨A',c',d0,d1,d2,d3,d4,-⟩:=hIT.out _ hpl b9 off rfl;have hfr:=zH (λj=>Gy hGL.out b9 off ys.length c9 j rfl zO);have hI5:=λx0 x1 x2 x3 x4=>qdZ (its_set5 hGL.out (b:=w.heap.size+1+1) zO x0 x1 x2 x3 x4) _ hpl;have hpp:=hp.out;generalize ys[qD ys (k,i,o)]=x at*;simp only[hpp]at hpl d0 d1 d2 d3 d4 hI5;replace⟨h0,hz,hI5,hke⟩:=zH4 h0 hz hI5 hke;clear hA hMY hpp hb9;go_wp2_with fail;obtain⟨A'',c'',⟨-,-,-,-,g4,gb⟩,gf⟩:=hI5.out (E .u8 x.k) (E X x.i) (E X x.o) (E Jx x.r) (D A' x.val.length c');have wMM:=its_cell hGL.out (b:=w.heap.size+1+1) (q:=⟨b9,off+p*5+4,Q⟩) zO (E .u8 x.k) (E X x.i) (E X x.o) (E Jx x.r) (D A' x.val.length c') (hfr.out 0);rw[wMM,d4]at g4;simp only[Option.some.injEq,Value.slice.injEq,true_and]at g4;obtain⟨rfl,rfl⟩:=g4;exact qax (b:=w.heap.size+2) rfl rfl rfl (row5 ri6 _ _ _ _ _) ⟨_,_,_,_,_,rfl⟩ ⟨_,rfl,by rw[hz.out];exact⟨A',c',rfl,gb,gf.mono zO⟩,Tb x4.out zO _ _ _ _ _⟩
  have hh1:((h:Int)==0)=U:=by rw[beq_eq_false_iff_ne];omega
  obtain⟨h',hh⟩:∃h',h=h'+1:=⟨h-1,zO⟩
  replace⟨hh,h0⟩:=zH2 hh h0;cases ie
  ·rcases Nat.eq_zero_or_pos p with hp0|hp0
   ·have hz:q=Q:=by rw[<-hq.out,hh.out,qil (qkU hQI.out (by rw[hp.out];exact hp0) (hF'.out rfl))]
    have hp1:((p:Int)==0)=F:=by rw[beq_iff_eq];omega
    replace⟨hp0,hz⟩:=zH2 hp0 hz;clear hA hMY HREL;go_wp2_with fail;exact qax (b:=w.heap.size+2) rfl rfl rfl (row5 ri6 _ _ _ _ _) ⟨_,_,_,_,_,rfl⟩ ⟨_,rfl,by rw[hz.out];rfl,Tb x4.out zO _ _ _ _ _⟩
   have hd:=qbc hQI.out (by rw[hp.out];exact hp0) (hF'.out rfl);have hp1:((p:Int)==0)=U:=by rw[beq_eq_false_iff_ne];omega
   have hp2:decide (p=0)=U:=decide_eq_false zO;simp only[hp.out]at hd;obtain⟨b',e1,e2,e3⟩:=HREL.out _ (List.getElem_mem _) hd h' hh.out;obtain⟨x,hx⟩:∃x,ys[p-1]'(by omega)=x:=⟨_,rfl⟩
   rw[hx]at hd e1;obtain⟨p',rfl⟩:∃p',p=p'+1:=⟨p-1,zO⟩
   obtain⟨b9,off,rfl,hb9⟩:=hA zO;obtain⟨A',c',-,-,-,d3,-,-⟩:=hIT.out p' zO b9 off rfl;simp only[Nat.add_sub_cancel]at hx;rw[hx,e1]at d3;replace hx:=zH hx;have hLF:wrap64 (((p'+1:Nat):Int)-1)=(p':Int):=by rw[IntWalk.wrap64_in _ zO];omega
   have hlt:p'<ys.length:=zO;replace hLF:=hLF;replace⟨hd,e1,e2,e3⟩:=zH4 hd e1 e2 e3;clear hA HREL;replace⟨hMY,hp0⟩:=zH2 hMY hp0;go_wp2_with fail;exact⟨e2.out,e3.out⟩
  obtain⟨hpl,hke⟩:=hT'.out rfl;have hd:=qkT hQI.out hpl hke;obtain⟨b',e1,e2,e3⟩:=HREL.out _ (List.getElem_mem _) hd h' hh.out;obtain⟨b9,off,rfl,hb9⟩:=hA zO;obtain⟨A',c',-,-,-,d3,-,-⟩:=hIT.out _ hpl b9 off rfl;rw[e1]at d3;have hpp:=hp.out;simp only[hpp]at hpl d3;replace⟨hd,hke,e1,e2,e3⟩:=zH5 hd hke e1 e2 e3;clear hA HREL hMY hpp;obtain⟨pz,hp1,hp2⟩:∃pz:Bool,((p:Int)==0)=pz/\decide (p=0)=pz:=by
   rcases Nat.eq_zero_or_pos p with hp0|hp0
   exact⟨F,by rw[beq_iff_eq];omega,decide_eq_true hp0⟩;exact⟨U,by rw[beq_eq_false_iff_ne];omega,decide_eq_false zO⟩
  cases pz;all_goals
   go_wp2_with fail;exact⟨e2.out,e3.out⟩
def KY(S:Sto)(root:Int)(K:K3):Option It:=match qm S root.toNat with
 |none=>Q
 |some (lvl,xs)=>oneT S K lvl.toNat xs
def Kl(S:Sto)(root next:Int)(dead:List Int)(vs:List Vol):Prop:=∃refs nodes,Qy S root next dead vs/\Qk S (Qo root dead vs) refs nodes/\QQ S refs
def QS(S:Sto)(root next:Int)(dead:List Int):Prop:=∀vs,Qy S root next dead vs->∃refs nodes,Qk S (Qo root dead vs) refs nodes/\¬QQ S refs
theorem vL{v:Vol}(h:zF vs id=v):v∈vs:=List.mem_of_find?_eq_some h
theorem Ub(h:Qy S root next dead vs){v:Vol}(hv:v∈vs):∃a:Nat,v.root=(a:Int)/\Zp S a:=
 JE (h.ok v.root (by unfold ZF;exact List.mem_append_right _ (List.mem_map.2 ⟨v,hv,rfl⟩)))
def qaq(S:Sto)(root next:Int)(dead:List Int)(id:Int)(K:K3)(w:Oa)(e:Ending)(w':Oa):Prop:=Below w w w' /\
 ((e=Ob (Oc #[.agg To,E Jx 8])/\QS S root next dead) \/
  ∃vs u,Kl S root next dead vs/\e=Ob u/\match zF vs id with
   |none=>u=Oc #[.agg To,E Jx 6]
   |some v=>qgN w (KY S v.root K) u w')
theorem Uk{b:Nat}{cs:Array Y}(h6:a.tmps[6]?.getD undef=Z b)(h7:a.tmps[7]?.getD undef=v)(hd:a.defers=[])(hAH:W.heap[b]?=I (M cs 51))(hs:∃x0 x1 x2 x3 x4,cs=#[x0,x1,x2,x3,x4])(hR:R (Ob (Oc #[.agg cs,v])) W):bodyPost prog Tryz.f32 R .ret a W:=by refine bodyPost_ret (v:=Oc #[.agg cs,v]) ?_ hd hR;have k:=qa hAH;obtain⟨x0,x1,x2,x3,x4,rfl⟩:=hs;simp[results,results32,go_sem,h6,h7,k]
set_option maxRecDepth 100000 in
theorem qfw(A1 n1 c1 A2 n2 c2 A3 n3 c3 A4 n4 c4)(gen root next:Int)(A5 c5)(S:Sto)(dead:List Int)(id k i o:Int)(w:Oa)(h:Qi w w (D A1 n1 c1) (D A2 n2 c2) (D A3 n3 c3) (D A4 n4 c4) S)(hd:ZM w w (D A5 dead.length c5) dead):Calls prog 32 #[.agg (qQ (D A1 n1 c1) (D A2 n2 c2) (D A3 n3 c3) (D A4 n4 c4) gen root next (D A5 dead.length c5)),E X id,Xk k i o] w (qaq S root next dead id (k,i,o) w):=by
 have HT:=zH (λW (hx:Ext w W)=>qcC A1 n1 c1 A2 n2 c2 A3 n3 c3 A4 n4 c4 gen root next A5 c5 S dead id W (h.ext hx) (by obtain⟨A,c,e,q1,q2,q3⟩:=hd;exact⟨A,c,e,q1,q2,(q3.below hx).more hx.size⟩));have HF:=zH (λW (hx:Ext w W) (hS:qk S=F) a lvl xs ha ha2 hn hsp=>qeF A1 n1 c1 A2 n2 c2 A3 n3 c3 A4 n4 c4 S hS a lvl xs ha ha2 hn hsp k i o W (h.ext hx));clear h hd;go_enter func32,ntmps32;go_wp2_with fail;generalize hw1:(J (J (J w _) _) _)=w1;have x1:Ext w w1:=by rw[<-hw1];exact((zN _ _).trans (zN _ _)).trans (zN _ _)
 have rp1:w1.heap[w.heap.size]?=I (M (qQ (D A1 n1 c1) (D A2 n2 c2) (D A3 n3 c3) (D A4 n4 c4) gen root next (D A5 dead.length c5)) 32 (0,0)):=by rw[<-hw1];exact(zK _ _ _ zA2).trans ((zK _ _ _ zA3).trans (zI _ _ _ rfl))
 have rk1:w1.heap[w.heap.size+1]?=I (M #[E .u8 k,E X i,E X o] 49):=by rw[<-hw1];exact(zK _ _ _ zA3).trans (zI _ _ _ zA3)
 have ri1:w1.heap[w.heap.size+2]?=I (M To 51):=hw1▸zI _ _ _ zA3;clear hw1;refine(HT.out w1 x1).mono ?_;clear HT;rintro e w2 ⟨hB,hQ⟩;have x2:Ext w w2:=Ext.trans x1 hB;have rp2:=qb rp1 hB;have rk2:=qb rk1 hB;have ri2:=qb ri1 hB;have z2:w.heap.size+2<w2:=(zG.1 ri2).1;have z20:w.heap.size<w2:=zO;have z21:w.heap.size+1<w2:=zO;clear hB x1 rp1 rk1 ri1;rcases hQ with⟨rfl,hno⟩|⟨vs,refs,nodes,hp,hcn,hen,rfl⟩
 ·replace hno:=zH hno;have ki2:=qa ri2;have fi2:=qd ri2;go_wp2_with fail;exact Uk (b:=w.heap.size+2) (cs:=To) rfl rfl rfl ((zK _ _ _ zA2).trans (row5 ri2 _ _ _ _ _)) ⟨_,_,_,_,_,rfl⟩ ⟨Below.alloc (Tb x2 zO _ _ _ _ _) zA2 _,.inl ⟨rfl,hno.out⟩⟩
 have hok:=zH (⟨refs,nodes,hp,hcn,hen⟩:Kl S root next dead vs);replace hp:=zH hp;clear hcn hen;rcases hv:zF vs id with _|v
 ·unfold volQ;replace hv:=zH hv;have ki2:=qa ri2;have fi2:=qd ri2;go_wp2_with fail;exact Uk (b:=w.heap.size+2) (cs:=To) rfl rfl rfl ((zK _ _ _ zA2).trans (row5 ri2 _ _ _ _ _)) ⟨_,_,_,_,_,rfl⟩ ⟨Below.alloc (Tb x2 zO _ _ _ _ _) zA2 _,.inr ⟨vs,_,hok.out,rfl,by rw[hv.out];rfl⟩⟩
 unfold volQ;obtain⟨a,ha,ht⟩:=Ub hp.out (vL hv);obtain⟨h8,h256,lvl,xs,hn,hsp⟩:=ht;have hfs:KY S v.root (k,i,o)=oneT S (k,i,o) lvl xs:=by unfold KY;rw[ha,Int.toNat_natCast,hn];simp
 have HFF:=zH (λW hx=>HF.out W hx hp.out.may a lvl xs h8 h256 hn hsp);have kp2:=qa rp2;have kk2:=qa rk2;replace⟨hv,hfs,ha⟩:=zH3 hv hfs ha;clear hn hsp HF;go_wp2_with fail;generalize hw3:(J w2 _)=w3;have x23:Ext w2 w3:=hw3▸zN _ _;clear hw3;have hJJ:=HFF.out w3 (x2.trans x23);rw[<-ha.out]at hJJ;refine hJJ.mono ?_;clear hJJ HFF;rintro e w4 ⟨u,rfl,hu,hB⟩;have x4:Ext w w4:=(x2.trans x23).trans hB;have ri4:=qb (qb ri2 x23) hB;have ki4:=qa ri4;have fi4:=qd ri4;have z3:w.heap.size+2<w3:=(zG.1 (qb ri2 x23)).1;have z4:w.heap.size+2<w4:=(zG.1 ri4).1;replace x4:=zH x4;clear kp2 kk2 rp2 rk2 ri2 hB x23 x2 z2 z20 z21;rcases hq:oneT S (k,i,o) lvl xs with _|x
 ·rw[hq]at hu hfs;obtain rfl:u=Oc #[.agg To,E Jx 6]:=hu;replace hq:=zH hq;go_wp2_with fail;exact Uk (b:=w.heap.size+2) (cs:=To) rfl rfl rfl (row5 ri4 _ _ _ _ _) ⟨_,_,_,_,_,rfl⟩ ⟨Tb x4.out zO _ _ _ _ _,.inr ⟨vs,_,hok.out,rfl,by rw[hv.out];show qgN _ (KY S v.root (k,i,o)) _ _;rw[hfs.out];rfl⟩⟩
 rw[hq]at hu hfs;obtain⟨A,c,rfl,hby,hfr⟩:=hu;replace⟨hq,hby,hfr⟩:=zH3 hq hby hfr;go_wp2_with fail;exact Uk (b:=w.heap.size+2) (cs:=qaB x A c) rfl rfl rfl (row5 ri4 _ _ _ _ _) ⟨_,_,_,_,_,rfl⟩ ⟨Tb x4.out zO _ _ _ _ _,.inr ⟨vs,_,hok.out,rfl,by rw[hv.out];show qgN _ (KY S v.root (k,i,o)) _ _;rw[hfs.out];exact⟨A,c,rfl,bys_set5 hby.out hfr.out z3 _ _ _ _ _,hfr.out.mono zO⟩⟩⟩
def Zy(S:Sto)(a:Nat):Nat:=(S.now[a]?.getD 0).toNat
def Js(S:Sto)(a:Int):Int:=if qk S=F then(if 8<=a/\a<256 then(if Zy S a.toNat=0 then 6 else 0)else 2)else 8
theorem qgX(h:qk S=U)(a:Int):Js S a=8:=by unfold Js;rw[h];simp
theorem qgY(h:qk S=F){a:Int}(ha:¬(8<=a/\a<256)):Js S a=2:=by unfold Js;rw[if_pos h,if_neg ha]
theorem qbW(h:qk S=F){a:Nat}(ha:8<=a)(ha2:a<256):Js S (a:Int)=if Zy S a=0 then 6 else 0:=by unfold Js;rw[if_pos h,if_pos zO,Int.toNat_natCast]
theorem KQ{a:Int}(h:Js S a=0):qk S=F/\∃n:Nat,a=(n:Int)/\8<=n/\n<256/\Zy S n≠0:=by unfold Js at h;split at h;rename_i hm;split at h;rename_i hr;split at h;cases h;rename_i hn;obtain⟨n,hna⟩:=Int.eq_ofNat_of_zero_le (show 0<=a by omega);subst hna;exact⟨hm,n,rfl,zO,zO,by simpa using hn⟩;cases h;cases h
theorem qaG(hS:qk S=F)(h:Bys w B v S.now):∃b o c,v=D (I ⟨b,o,Q⟩) 256 c/\b<B/\∀a,a<256->w.cell? ⟨b,o+a,Q⟩=I (E .u8 (Zy S a:Int)):=by obtain⟨-,-,hl,-⟩:=qZ hS;obtain⟨A,c,e,hc,hm,hr⟩:=h;obtain⟨b,o,rfl,hb,hAG⟩:=hr.2 zO;rw[hl]at e;exact⟨b,o,c,e,hb,λa ha=>hAG a _ (by rw[List.getElem?_map,zL zO];unfold Zy;rw[zL zO];rfl)⟩
set_option maxRecDepth 100000 in
theorem qdm(A1 n1 c1 A2 n2 c2 A3 n3 c3 A4 n4 c4)(S:Sto)(a:Int)(w:Oa)(h:Qi w w (D A1 n1 c1) (D A2 n2 c2) (D A3 n3 c3) (D A4 n4 c4) S):Calls prog 135 #[Qp A1 n1 c1 A2 n2 c2 A3 n3 c3 A4 n4 c4,a] w (Ret (E Jx (Js S a)) w):=by
 have HC:=zH (λW (hx:Ext w W)=>vz A1 n1 c1 A2 n2 c2 A3 n3 c3 A4 n4 c4 S W (h.ext hx));replace h:=zH h;go_enter func135,ntmps135;go_wp2_with fail;generalize hw1:(J w _)=w1;have x1:Ext w w1:=hw1▸zN _ _;have r1:w1.heap[w.heap.size]?=I (M #[D A1 n1 c1,D A2 n2 c2,D A3 n3 c3,D A4 n4 c4] 28):=hw1▸zI _ _ _ rfl;clear hw1;refine(HC.out w1 x1).mono ?_;clear HC;rintro e w2 ⟨rfl,hB⟩;have x2:Ext w w2:=x1.trans hB;have r2:=qb r1 hB;clear hB r1 x1;rcases hS:qk S with _|_
 ·have hq:=zH (qgX hS a);replace hS:=zH hS;rw[vl rfl];go_wp2_with fail;go_ret;exact⟨by rw[hq.out];rfl,x2⟩
 rw[vQ rfl];by_cases hr:8<=a/\a<256
 ·obtain⟨n,hna⟩:=Int.eq_ofNat_of_zero_le (show 0<=a by omega);subst hna;have hn8:8<=n:=zO;have hSH:n<256:=zO;have hq:=qbW hS hn8 hSH;obtain⟨b,o,c,e3,hb,hAG⟩:=qaG hS h.out.now;have hcn:=Ext.cell x2 (hAG n hSH);generalize Zy S n=nw at*;cases e3;have k2:=qa r2;have d1:decide ((n:Int)<8)=U:=decide_eq_false zO;have d2:decide ((n:Int)≥256)=U:=decide_eq_false zO;clear hr hAG;replace hS:=zH hS;rcases Nat.eq_zero_or_pos nw with h0|h0
  ·have hz1:((nw:Int)==0)=F:=by rw[beq_iff_eq];omega
   have hz2:decide (nw=0)=F:=decide_eq_true h0;rw[if_pos h0]at hq;replace⟨hq,h0⟩:=zH2 hq h0;go_wp2_with fail;go_ret;exact⟨by rw[hq.out];rfl,x2⟩
  have hz1:((nw:Int)==0)=U:=by rw[beq_eq_false_iff_ne];omega
  have hz2:decide (nw=0)=U:=decide_eq_false zO;rw[if_neg zO]at hq;replace⟨hq,h0⟩:=zH2 hq h0;go_wp2_with fail;go_ret;exact⟨by rw[hq.out];rfl,x2⟩
 have hq:=zH (qgY hS hr);replace hS:=zH hS;by_cases h8:a<8
 ·have d1:decide (a<8)=F:=decide_eq_true h8;replace hr:=zH hr;go_wp2_with fail;go_ret;exact⟨by rw[hq.out];rfl,x2⟩
 have d1:decide (a<8)=U:=decide_eq_false h8;have d2:decide (a≥256)=F:=decide_eq_true zO;replace hr:=zH hr;go_wp2_with fail;go_ret;exact⟨by rw[hq.out];rfl,x2⟩
set_option maxRecDepth 100000 in
theorem qhC(A1 n1 c1 A2 n2 c2 A3 n3 c3 A4 n4 c4)(S:Sto)(a:Int)(w:Oa)(h:Qi w w (D A1 n1 c1) (D A2 n2 c2) (D A3 n3 c3) (D A4 n4 c4) S):Calls prog 138 #[Qp A1 n1 c1 A2 n2 c2 A3 n3 c3 A4 n4 c4,a] w (Ret (E Jx (Js S a)) w):=by
 have HC:=zH (λW (hx:Ext w W)=>vz A1 n1 c1 A2 n2 c2 A3 n3 c3 A4 n4 c4 S W (h.ext hx));replace h:=zH h;go_enter func138,ntmps138;go_wp2_with fail;generalize hw1:(J w _)=w1;have x1:Ext w w1:=hw1▸zN _ _;have r1:w1.heap[w.heap.size]?=I (M #[D A1 n1 c1,D A2 n2 c2,D A3 n3 c3,D A4 n4 c4] 28):=hw1▸zI _ _ _ rfl;clear hw1;refine(HC.out w1 x1).mono ?_;clear HC;rintro e w2 ⟨rfl,hB⟩;have x2:Ext w w2:=x1.trans hB;have r2:=qb r1 hB;clear hB r1 x1;rcases hS:qk S with _|_
 ·have hq:=zH (qgX hS a);replace hS:=zH hS;rw[vl rfl];go_wp2_with fail;go_ret;exact⟨by rw[hq.out];rfl,x2⟩
 rw[vQ rfl];by_cases hr:8<=a/\a<256
 ·obtain⟨n,hna⟩:=Int.eq_ofNat_of_zero_le (show 0<=a by omega);subst hna;have hn8:8<=n:=zO;have hSH:n<256:=zO;have hq:=qbW hS hn8 hSH;obtain⟨b,o,c,e3,hb,hAG⟩:=qaG hS h.out.now;have hcn:=Ext.cell x2 (hAG n hSH);generalize Zy S n=nw at*;cases e3;have k2:=qa r2;have d1:decide ((n:Int)<8)=U:=decide_eq_false zO;have d2:decide ((n:Int)≥256)=U:=decide_eq_false zO;clear hr hAG;replace hS:=zH hS;rcases Nat.eq_zero_or_pos nw with h0|h0
  ·have hz1:((nw:Int)==0)=F:=by rw[beq_iff_eq];omega
   have hz2:decide (nw=0)=F:=decide_eq_true h0;rw[if_pos h0]at hq;replace⟨hq,h0⟩:=zH2 hq h0;go_wp2_with fail;go_ret;exact⟨by rw[hq.out];rfl,x2⟩
  have hz1:((nw:Int)==0)=U:=by rw[beq_eq_false_iff_ne];omega
  have hz2:decide (nw=0)=U:=decide_eq_false zO;rw[if_neg zO]at hq;replace⟨hq,h0⟩:=zH2 hq h0;go_wp2_with fail;go_ret;exact⟨by rw[hq.out];rfl,x2⟩
 have hq:=zH (qgY hS hr);replace hS:=zH hS;by_cases h8:a<8
 ·have d1:decide (a<8)=F:=decide_eq_true h8;replace hr:=zH hr;go_wp2_with fail;go_ret;exact⟨by rw[hq.out];rfl,x2⟩
 have d1:decide (a<8)=U:=decide_eq_false h8;have d2:decide (a≥256)=F:=decide_eq_true zO;replace hr:=zH hr;go_wp2_with fail;go_ret;exact⟨by rw[hq.out];rfl,x2⟩
set_option maxRecDepth 100000 in
theorem qmQ(v:Vol)(bi:Nat)(id:Int)(q1 q2 q3:Y)(w:Oa)(h:w.heap[bi]?=I (M #[E X id,q1,q2,q3] 36)):Calls prog 124 #[Ve v,Z bi] w (Ret (.bool (decide (v.id=id))) w):=by
 have ki:=qa h;have zi:bi<w:=(zG.1 h).1;clear h;go_enter func124,ntmps124;by_cases he:v.id=id
 ·have h1:(v.id==id)=F:=by rw[beq_iff_eq];exact he
  rw[decide_eq_true he];replace he:=zH he;go_wp2;go_ret;exact⟨rfl,zN _ _⟩
 have h1:(v.id==id)=U:=by rw[beq_eq_false_iff_ne];exact he
 rw[decide_eq_false he];replace he:=zH he;go_wp2;go_ret;exact⟨rfl,zN _ _⟩
set_option maxRecDepth 100000 in
theorem qkw(A c)(vs:List Vol)(hl:vs.length<=16)(bi:Nat)(id:Int)(q1 q2 q3:Y)(w:Oa)(h:w.heap[bi]?=I (M #[E X id,q1,q2,q3] 36))(hr:Rd w w 4 A vs.length (jO vs)):Calls prog 60 #[D A vs.length c,.func (.func 124) #[] #[Z bi]] w (zv (λu _=>VolIx vs id u) w):=by
 replace hr:=zH hr;go_enter func60,ntmps60;go_wp2_with fail;go_loopw [8] (λi wr=>∃k:Nat,k<=vs.length/\i=E Jx (k:Int)/\Ext w wr/\∀j (hj:j<vs.length),j<k->vs[j].id≠id) (λi _=>vs.length-(intOf i).toNat)
 case atStart=>exact⟨0,Nat.zero_le _,rfl,Ext.refl _,λj _ hj=>absurd hj (Nat.not_lt_zero _)⟩
 case round=>
  obtain⟨k,hk,rfl,xr,hno⟩:=hrel;replace hno:=zH hno;by_cases hlt:k<vs.length
  ·obtain⟨bv,offv,rfl,hbv,hBZ⟩:=hr.out.2 zO;obtain⟨d0,d1,d2,d3⟩:=TR vs k hlt;replace d0:=Ext.cell xr (hBZ _ _ d0);replace d1:=Ext.cell xr (hBZ _ _ d1);replace d2:=Ext.cell xr (hBZ _ _ d2);replace d3:=Ext.cell xr (hBZ _ _ d3);have HAT:=zH (λhe=>qiR (id:=id) hlt he λi hi hik=>hno.out i hi hik);have HNO:=zH (λ(he:vs[k].id≠id) j (hj:j<vs.length) (hjk:j<k+1)=>by
    rcases Nat.lt_or_ge j k with h1|h1
    exact hno.out j hj h1
    ·obtain rfl:j=k:=zO;exact he)
   generalize vs[k]=u at*;rw[<-Nat.add_assoc]at d1 d2 d3;clear hBZ;have hLF:=zH (IntWalk.wrap64_in ((k:Int)+1) zO);have hV:=qmQ u bi id q1 q2 q3 wr (qb h xr);go_wp2_with fail;refine hV.mono ?_;rintro e w2 ⟨rfl,hB⟩;clear d0 d1 d2 d3 hV;by_cases he:u.id=id
   ·rw[decide_eq_true he];have HQ:=zH (HAT.out he);clear HAT HNO;replace he:=zH he;go_wp2_with fail;refine bodyPost_ret (v:=E Jx (k:Int)) ?_ rfl ⟨_,rfl,HQ.out,Ext.trans xr hB⟩;simp[results,results60,go_sem]
   rw[decide_eq_false he];have HQ:=zH (HNO.out he);clear HAT HNO;replace he:=zH he;have hw1:=hLF.out;go_wp2_with fail;refine⟨⟨k+1,hlt,rfl,Ext.trans xr hB,λj hj hjk=>HQ.out j hj hjk⟩,?_⟩;simp[intOf];omega
  obtain rfl:k=vs.length:=zO;have HQ:=zH (qdH (id:=id) λi hi=>hno.out i hi hi);go_wp2_with fail;refine bodyPost_ret (v:=E Jx (-1)) ?_ rfl ⟨_,rfl,HQ.out,xr⟩;simp[results,results60,go_sem]
set_option maxRecDepth 100000 in
theorem vhas_any(A c)(vs:List Vol)(hl:vs.length<=16)(bi:Nat)(id:Int)(q1 q2 q3:Y)(w:Oa)(h:w.heap[bi]?=I (M #[E X id,q1,q2,q3] 36))(hr:Rd w w 4 A vs.length (jO vs)):Calls prog 123 #[D A vs.length c,.func (.func 124) #[] #[Z bi]] w (Ret (.bool (zF vs id).isSome) w):=by
 have HV:=zH (qkw A c vs hl bi id q1 q2 q3 w h hr);clear h hr;go_enter func123,ntmps123;go_wp2_with fail;refine HV.out.mono ?_;clear HV;rintro e w2 ⟨u,rfl,hu,hB⟩;rcases hu with⟨j,hj,rfl,hv⟩|⟨rfl,hv⟩
 ·have e1:decide ((j:Int)≥0)=F:=decide_eq_true zO;replace hv:=zH hv;go_wp2;go_ret;exact⟨by rw[hv.out];rfl,hB⟩
 replace hv:=zH hv;go_wp2;go_ret;exact⟨by rw[hv.out];rfl,hB⟩
theorem Tryz.info_bytes:(Tryz.prog.info? 26).map (λi=>(i.zero,i.size,i.bytes))=I (I (D Q 0 0),1,24):=zQ
theorem Tryz.info_write:(Tryz.prog.info? 142).map (λi=>(i.zero,i.size,i.bytes))=I (I (.agg #[E Jx 0,D Q 0 0]),2,32):=zQ
abbrev gB(_:List UInt8)(u:Y):List Y:=[u]
theorem Rd.keepN{B size lo n c:Nat}{xs:List Y}(h:Rd w B size A n xs)(hf:ZV lo (D A n c))(hk:∀q:Addr,lo<=q.block->q.block<B->W.cell? q=w.cell? q):Rd W B size A n xs:=
 ⟨h.1,λhn=>by obtain⟨b,off,e,hb,hc⟩:=h.2 hn;subst e;exact⟨b,off,rfl,hb,λj u hu=>(hk ⟨b,off+j,Q⟩ (hf ⟨b,off,Q⟩ n c rfl) hb).trans (hc j u hu)⟩⟩
theorem Bys.keepN(h:Bys w B v l)(hf:ZV lo v)(hk:∀q:Addr,lo<=q.block->q.block<B->W.cell? q=w.cell? q):Bys W B v l:=by obtain⟨A,c,e,hc,hm,hr⟩:=h;subst e;exact⟨A,c,rfl,hc,hm,hr.keepN hf hk⟩
def qfC(S:Sto)(root next:Int)(dead:List Int)(w:Oa)(e:Ending)(w':Oa):Prop:=Below w w w' /\
 ((e=Ob (E Jx 8)/\∀vs,Qy S root next dead vs->∃refs nodes,Qk S (Qo root dead vs) refs nodes/\¬QQ S refs) \/
  (e=Ob (E Jx 0)/\∃vs refs nodes,Qy S root next dead vs/\Qk S (Qo root dead vs) refs nodes/\QQ S refs))
theorem qdj(h2:a.tmps[2]?.getD undef=u)(hd:a.defers=[])(hR:R u W):bodyPost prog Tryz.f52 R .ret a W:=by refine bodyPost_ret (v:=u) ?_ hd hR;simp[results,results52,go_sem,h2]
set_option maxRecDepth 100000 in
theorem qkg(A1 n1 c1 A2 n2 c2 A3 n3 c3 A4 n4 c4)(gen root next:Int)(A5 c5)(S:Sto)(dead:List Int)(w:Oa)(h:Qi w w (D A1 n1 c1) (D A2 n2 c2) (D A3 n3 c3) (D A4 n4 c4) S)(hd:ZM w w (D A5 dead.length c5) dead):Calls prog 52 #[.agg (qQ (D A1 n1 c1) (D A2 n2 c2) (D A3 n3 c3) (D A4 n4 c4) gen root next (D A5 dead.length c5))] w (qfC S root next dead w):=by
 have HT:=zH (λW (hx:Ext w W)=>YN A1 n1 c1 A2 n2 c2 A3 n3 c3 A4 n4 c4 gen root next A5 c5 S dead W (h.ext hx) (by obtain⟨A,c,e,q1,q2,q3⟩:=hd;exact⟨A,c,e,q1,q2,(q3.below hx).more hx.size⟩));clear h hd;go_enter func52,ntmps52;go_wp2_with fail;generalize hw1:J w _=w1;have x1:Ext w w1:=hw1▸zN _ _;clear hw1;refine(HT.out w1 x1).mono ?_;rintro e w2 ⟨hB,hQ⟩;have x2:Below w w w2:=Ext.trans x1 hB;rcases hQ with⟨rfl,hno⟩|⟨vs,refs,nodes,cb,ca,vv,rfl,hT⟩
 ·have HB:qfC S root next dead w (Ob (E Jx 8)) w2:=⟨x2,.inl ⟨rfl,hno⟩⟩
  replace HB:=zH HB;clear hno hB;go_wp2_with fail;exact qdj rfl rfl HB.out
 have HB:qfC S root next dead w (Ob (E Jx 0)) w2:=⟨x2,.inr ⟨rfl,vs,refs,nodes,hT.pool,hT.cnt,hT.enough⟩⟩
 replace HB:=zH HB;clear hT hB;go_wp2_with fail;exact qdj rfl rfl HB.out
theorem rowI_one(l:List Int):∀u∈qaK l,u.oneCell'=F:=by intro u hu;obtain⟨a,_,rfl⟩:=List.mem_map.1 hu;rfl
theorem ZM.of_own{l:List Int}(h:w.ownsRow base 3 1 v l.length (qaK l)):ZM w w v l:=by
 obtain⟨A,c,rfl,hc,hm⟩:=qM h;refine⟨A,c,rfl,hc,hm,zA3,λhn=>?_⟩;rcases h.2 with⟨_,h0⟩|⟨g,cap,cur,e,_,hr,_⟩
 omega;simp only[Value.slice.injEq]at e;obtain⟨rfl,-,rfl⟩:=e;exact⟨g,0,rfl,(zG.1 hr).1,λj u hu=>by have h5:=h.cells (g:=g) rfl j u hu;rw[Nat.zero_add];unfold Addr.add at h5;split at h5<;>simp_all⟩
theorem ZM.more{l:List Int}(h:ZM w B v l)(hb:B<=B'):ZM w B' v l:=by obtain⟨A,c,e,hc,hm,hr⟩:=h;exact⟨A,c,e,hc,hm,hr.more hb⟩
theorem ZM.ext_{l:List Int}(h:ZM w w v l)(hx:Ext w W):ZM W W v l:=by obtain⟨A,c,e,hc,hm,hr⟩:=h;exact⟨A,c,e,hc,hm,(hr.below hx).more hx.size⟩
set_option maxRecDepth 100000 in
theorem qjI(v:Y)(l:List Int)(hl:l.length<1073741824)(w:Oa)(h:ZM w w v l):Calls prog 63 #[v] w (zv (λu w'=>w'.ownsRow w 3 1 u l.length (qaK l)) w):=by
 obtain⟨i0,hi,hz0,hz1,hz2⟩:=info_parts Tryz.info_int;obtain⟨A,c,rfl,hc,hm,hr⟩:=h;have qn:∀(w:Oa)(a:OA)(n c n' c':Nat),(binOp .eql 30 (D a n c) (D Q n' c')).run prog w=.ok (.bool a.isNone) w:=λw a n c n' c'=>Lib.run_eql_slice_nil w _ _ a n c n' c' underlying30;rcases A with _|⟨b,off,p⟩
 ·have h0:l=[]:=by
   rcases l with _|⟨x,r⟩
   rfl;obtain⟨b,off,h,_⟩:=hr.2 zA3;cases h
  subst h0;go_enter func63,ntmps63;go_wp2;go_ret;exact⟨_,rfl,World.ownsRow_nil _ _ _ _,Below.refl _ _⟩
 go_enter func63,ntmps63;go_wp2_with (at_builtin;refine Qa ?_);refine Qs.go (QG _ rfl (.tmp 5) (.tmp 6) 30 rfl w.heap.size 3 i0 (E Jx 0) 1 8 underlying30 hi hz0 hz1 hz2 rfl zA1 _ 0 [] rfl ?_ w.heap.size _ l.length c (qaK l) zE ?_ (rowI_one l) zO zA1 zA3 ?_);exact World.ownsRow_lit w #[] 0 (zM _) (by simp[maxLen]) rfl;exact hr.keep λp hp=>World.cell?_alloc_lt w _ p hp;intro v' w' hAD _ hb _;simp only[Nat.zero_add,List.nil_append]at hAD;go_wp2;go_ret;exact⟨_,rfl,hAD,Below.trans ((Below.refl _ _).alloc (zM _) _) hb⟩
end Go.Proofs.YtmeadnlmepcmbaaGreat
