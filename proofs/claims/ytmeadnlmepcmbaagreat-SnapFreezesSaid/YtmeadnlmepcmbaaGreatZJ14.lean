/- Lemmas of the proof. -/
import Derived.Laws.EntriesVeiled
import Derived.Test.YtmeadnlmepcmbaaGreatZJ13
set_option linter.all false
set_option maxHeartbeats 8000000
open Go.Proofs.Tryz
namespace Go.Proofs.YtmeadnlmepcmbaaGreat
open Go.RowKit
abbrev sp7 (f l:K3) (b:Bool):Array Value:=#[.int .u8 f.1,.int .u32 f.2.1,.int .u32 f.2.2,.int .u8 l.1,.int .u32 l.2.1,.int .u32 l.2.2,.bool b]
theorem set7 {cs:Array Value} (hs:cs.size=7) (x0 x1 x2 x3 x4 x5 x6:Value) : ((((((cs.setIfInBounds 0 x0).setIfInBounds 1 x1).setIfInBounds 2 x2).setIfInBounds 3 x3).setIfInBounds 4 x4).setIfInBounds 5 x5).setIfInBounds 6 x6=#[x0,x1,x2,x3,x4,x5,x6]:=by
 apply Array.ext_getElem?;intro j;by_cases hj:j<7
 ·have:j=0\/j=1\/j=2\/j=3\/j=4\/j=5\/j=6:=zO;rcases this with rfl|rfl|rfl|rfl|rfl|rfl|rfl <;> simp[hs]
 ·rw[Array.getElem?_eq_none zA1,Array.getElem?_eq_none zA1]
theorem row7 {w:World} {b:Nat} {ty:TypeId} {cs:Array Value} (h:w.heap[b]?=some (.cells cs ty (0,0))) (hs:cs.size=7) (x0 x1 x2 x3 x4 x5 x6:Value) : (((((((w.setCell ⟨b,0,none⟩ x0).setCell ⟨b,1,none⟩ x1).setCell ⟨b,2,none⟩ x2).setCell ⟨b,3,none⟩ x3).setCell ⟨b,4,none⟩ x4).setCell ⟨b,5,none⟩ x5).setCell ⟨b,6,none⟩ x6).heap[b]?=some (.cells #[x0,x1,x2,x3,x4,x5,x6] ty (0,0)):=by
 have:=qi (qi (qi (qi (qi (qi (qi h 0 x0) 1 x1) 2 x2) 3 x3) 4 x4) 5 x5) 6 x6;rw[this,set7 hs]
theorem qel {w0 w:World} {B b:Nat} (h:Below B w0 w) (hb:B<=b) (x0 x1 x2 x3 x4 x5 x6:Value):Below B w0 (((((((w.setCell ⟨b,0,none⟩ x0).setCell ⟨b,1,none⟩ x1).setCell ⟨b,2,none⟩ x2).setCell ⟨b,3,none⟩ x3).setCell ⟨b,4,none⟩ x4).setCell ⟨b,5,none⟩ x5).setCell ⟨b,6,none⟩ x6):=
 Below.setCell (Below.setCell (Below.setCell (Below.setCell (Below.setCell (Below.setCell (Below.setCell h (p:=⟨b,0,none⟩) hb _) (p:=⟨b,1,none⟩) hb _) (p:=⟨b,2,none⟩) hb _) (p:=⟨b,3,none⟩) hb _) (p:=⟨b,4,none⟩) hb _) (p:=⟨b,5,none⟩) hb _) (p:=⟨b,6,none⟩) hb _
theorem qiC {S:Sto} {h:Nat} {xs:List It} (hs:(qD S h xs).isSome=true) {k:Nat} (hk:k<xs.length) : ∃ l,jB S h xs[k]=some (qo xs[k],l)/\∀ f0 l0,(0<k->qD S h (xs.take k)=some (some (f0,l0)))->(0<k->qP l0 (qo xs[k])=true)/\qD S h (xs.take (k+1))=some (some (if k=0 then qo xs[k] else f0,l)):=by
 have h2:=vw hs (k+1);rw[Jk hk] at h2 ⊢;unfold jR at h2 ⊢;rcases hA:qD S h (xs.take k) with _|a
 ·rw[hA] at h2;cases h2
 ·rcases hO:jB S h xs[k] with _|⟨f,l⟩
  ·rw[hA,hO] at h2;cases h2
  ·rw[hA,hO] at h2;simp only at h2;split at h2
   ·rename_i hf;subst hf;refine⟨l,rfl,fun f0 l0 hp=>?_⟩;simp only[if_true];rcases a with _|⟨f1,l1⟩
    ·obtain rfl:k=0:=by
      rcases Nat.eq_zero_or_pos k with h0|h0
      ·exact h0
      ·exact absurd hA (Zj h0 zO)
     exact⟨fun h=>absurd h (Nat.lt_irrefl 0),rfl⟩
    ·have h0:0<k:=by
      rcases Nat.eq_zero_or_pos k with h0|h0
      ·subst h0;rw[List.take_zero] at hA;cases hA
      ·exact h0
     have:=hp h0;cases this;simp only at h2;split at h2
     ·rename_i hl;exact⟨fun _=>hl,by rw[if_neg zO];simp[hl]⟩
     ·cases h2
   ·cases h2
theorem one_now {S:Sto}:∀ {h:Nat} {y:It},(jB S h y).isSome=true->y.r=0\/0<(S.now[y.r.toNat]?.getD 0).toNat
 |0,y,h=>by
  unfold jB at h;split at h
  ·assumption
  ·cases h
 |h+1,y,hy=>by
  obtain⟨b,e,-,-,xs,hn,-⟩:=ZF hy;refine .inr ?_;rw[e,Int.toNat_natCast];unfold qt at hn;split at hn
  ·cases hn
  ·omega
structure FEnv (S:Sto) (bS bB bW bb:Nat) (v1 v2 v3 v4 u1 u2 u3 u4:Value) (w:World):Prop where
 s:w.heap[bS]?=some (.cells #[v1,v2,v3,v4] 28 (0,0))
 b:w.heap[bB]?=some (.cells #[.pointer (some ⟨bb,0,none⟩)] 92 (0,0))
 f:w.heap[bW]?=some (.cells #[.func (.func 173) #[] #[.pointer (some ⟨bS,0,none⟩),.pointer (some ⟨bB,0,none⟩),.pointer (some ⟨bW,0,none⟩)]] 240 (0,0))
 n:Bys w w.heap.size v3 S.now
 on:OnB 0 bb u1 u2 u3 u4 S w
theorem OnB.ext {lo b:Nat} {v1 v2 v3 v4:Value} {S:Sto} {w W:World} (h:OnB lo b v1 v2 v3 v4 S w) (hx:Ext w W):OnB lo b v1 v2 v3 v4 S W:=⟨h.1,qb h.2.1 hx,h.2.2.ext hx⟩
theorem FEnv.ext {S:Sto} {bS bB bW bb:Nat} {v1 v2 v3 v4 u1 u2 u3 u4:Value} {w W:World} (h:FEnv S bS bB bW bb v1 v2 v3 v4 u1 u2 u3 u4 w) (hx:Ext w W):FEnv S bS bB bW bb v1 v2 v3 v4 u1 u2 u3 u4 W:=
 ⟨qb h.s hx,qb h.b hx,qb h.f hx,(h.n.below hx).more hx.size,h.on.ext hx⟩
structure WkI (S:Sto) (h:Nat) (xs:List It) (A:OA) (c:Nat) (w wr:World) (k:Nat) (fk lk:K3) (b:Bool):Prop where
 rn:wr.heap[w.heap.size]?=some (.cells #[.int .i64 h,.slice A xs.length c] 113 (0,0))
 rr:wr.heap[w.heap.size+1]?=some (.cells (sp7 (0,0,0) (0,0,0) false) 242 (0,0))
 rx:wr.heap[w.heap.size+2]?=some (.cells (sp7 fk lk b) 242 (0,0))
 sp:0<k->qD S h (xs.take k)=some (some (fk,lk))/\b=true
 xt:Ext w wr
theorem WkI.ext {S:Sto} {h:Nat} {xs:List It} {A:OA} {c:Nat} {w wr W:World} {k:Nat} {fk lk:K3} {b:Bool} (H:WkI S h xs A c w wr k fk lk b) (hx:Ext wr W):WkI S h xs A c w W k fk lk b:=
 ⟨qb H.rn hx,qb H.rr hx,qb H.rx hx,H.sp,H.xt.trans hx⟩
theorem WkI.low {S:Sto} {h:Nat} {xs:List It} {A:OA} {c:Nat} {w wr W:World} {k:Nat} {fk lk:K3} {b:Bool} {q:Nat} (H:WkI S h xs A c w wr k fk lk b) (hx:Below q wr W) (hq:w.heap.size+2<q):WkI S h xs A c w W k fk lk b:=
 ⟨(hx.block _ zO).trans H.rn,(hx.block _ zO).trans H.rr,(hx.block _ zO).trans H.rx,H.sp,Below.trans H.xt (Below.mono hx zO)⟩
theorem WkI.set {S:Sto} {h:Nat} {xs:List It} {A:OA} {c:Nat} {w wr W:World} {k:Nat} {fk lk fk' lk':K3} {b:Bool} (H:WkI S h xs A c w wr k fk lk b) (hb:∀ j,j≠w.heap.size+1+1->W.heap[j]?=wr.heap[j]?) (hB:Below w.heap.size w W) (hx:W.heap[w.heap.size+1+1]?=some (.cells (sp7 fk' lk' true) 242 (0,0))) (hs:qD S h (xs.take (k+1))=some (some (fk',lk'))):WkI S h xs A c w W (k+1) fk' lk' true:=
 ⟨(hb _ zO).trans H.rn,(hb _ zO).trans H.rr,hx,fun _=>⟨hs,rfl⟩,hB⟩
theorem WkI.set7 {S:Sto} {h:Nat} {xs:List It} {A:OA} {c:Nat} {w wr:World} {k:Nat} {fk lk fk' lk':K3} {b:Bool} (H:WkI S h xs A c w wr k fk lk b) (hs:qD S h (xs.take (k+1))=some (some (fk',lk'))):WkI S h xs A c w (((((((wr.setCell ⟨w.heap.size+1+1,0,none⟩ (.int .u8 fk'.1)).setCell ⟨w.heap.size+1+1,1,none⟩ (.int .u32 fk'.2.1)).setCell ⟨w.heap.size+1+1,2,none⟩ (.int .u32 fk'.2.2)).setCell ⟨w.heap.size+1+1,3,none⟩ (.int .u8 lk'.1)).setCell ⟨w.heap.size+1+1,4,none⟩ (.int .u32 lk'.2.1)).setCell ⟨w.heap.size+1+1,5,none⟩ (.int .u32 lk'.2.2)).setCell ⟨w.heap.size+1+1,6,none⟩ (.bool true)) (k+1) fk' lk' true:=
 H.set (fun j hj=>(zJ _ _ _ _ hj).trans ((zJ _ _ _ _ hj).trans ((zJ _ _ _ _ hj).trans ((zJ _ _ _ _ hj).trans ((zJ _ _ _ _ hj).trans ((zJ _ _ _ _ hj).trans (zJ _ _ _ _ hj)))))))
  (qel H.xt zO _ _ _ _ _ _ _) (row7 H.rx rfl _ _ _ _ _ _ _) hs
theorem WkI.set4 {S:Sto} {h:Nat} {xs:List It} {A:OA} {c:Nat} {w wr:World} {k:Nat} {fk lk lk':K3} {b:Bool} (H:WkI S h xs A c w wr k fk lk b) (hs:qD S h (xs.take (k+1))=some (some (fk,lk'))):WkI S h xs A c w ((((wr.setCell ⟨w.heap.size+1+1,3,none⟩ (.int .u8 lk'.1)).setCell ⟨w.heap.size+1+1,4,none⟩ (.int .u32 lk'.2.1)).setCell ⟨w.heap.size+1+1,5,none⟩ (.int .u32 lk'.2.2)).setCell ⟨w.heap.size+1+1,6,none⟩ (.bool true)) (k+1) fk lk' true:=
 H.set (fun j hj=>(zJ _ _ _ _ hj).trans ((zJ _ _ _ _ hj).trans ((zJ _ _ _ _ hj).trans (zJ _ _ _ _ hj))))
  (Below.setCell (Below.setCell (Below.setCell (Below.setCell H.xt (p:=⟨w.heap.size+1+1,3,none⟩) zA1 _) (p:=⟨w.heap.size+1+1,4,none⟩) zA1 _) (p:=⟨w.heap.size+1+1,5,none⟩) zA1 _) (p:=⟨w.heap.size+1+1,6,none⟩) zA1 _)
  (qi (qi (qi (qi H.rx 3 _) 4 _) 5 _) 6 _) hs
theorem one_span {S:Sto} {h:Nat} {y:It} {p:K3×K3} (e:jB S (h+1) y=some p):∃ (b:Nat) (ys:List It),y.r=(b:Int)/\8<=b/\b<256/\qt S b=some ((h:Int),ys)/\qD S h ys=some (some p):=by
 obtain⟨b,hb,h1,h2,ys,hn,-⟩:=ZF (by rw[e];rfl:(jB S (h+1) y).isSome=true);refine⟨b,ys,hb,h1,h2,hn,?_⟩;rw[VM] at e;unfold Vn at e;rw[if_pos zO,hb,Int.toNat_natCast,hn] at e;simp only[if_true] at e;rcases hs:qD S h ys with _|_|q
 ·rw[hs] at e;cases e
 ·rw[hs] at e;cases e
 ·rw[hs] at e;cases e;rfl
def WalkC (S:Sto) (bS bB bW bb:Nat) (v1 v2 v3 v4 u1 u2 u3 u4:Value) (h:Nat):Prop:=
 ∀ (xs:List It) (A:OA) (c:Nat) (f l:K3) (lo:Nat) (w:World),FEnv S bS bB bW bb v1 v2 v3 v4 u1 u2 u3 u4 w->h<=5->xs.length<=5->(∀ x∈xs,0<=x.r/\x.r<256)->ZL lo w (.slice A xs.length c) xs->qD S h xs=some (some (f,l)) ->
  Calls prog 173 #[jP h A xs.length c,.pointer (some ⟨bS,0,none⟩),.pointer (some ⟨bB,0,none⟩),.pointer (some ⟨bW,0,none⟩)] w (Ret (.agg (sp7 f l true)) w)
theorem qfC {w:World} {B b o n c:Nat} {l:List UInt8} (h:Bys w B (.slice (some ⟨b,o,none⟩) n c) l) {a:Nat} (ha:a<l.length):w.cell? ⟨b,o+a,none⟩=some (.int .u8 ((l[a]?.getD 0).toNat:Int)):=by obtain⟨A',c',e,_,_,hr⟩:=h;rw[Value.slice.injEq] at e;obtain⟨rfl,_,rfl⟩:=e;obtain⟨b',off',e,_,hc⟩:=hr.2 zO;simp only[Option.some.injEq,Addr.mk.injEq,and_true] at e;obtain⟨rfl,rfl⟩:=e;exact hc a _ (by rw[List.getElem?_map,zL zO];rfl)
theorem qgy {S:Sto} (hS:ql S=true) {w:World} {B:Nat} {v:Value} (h:Bys w B v S.now):∃ b3 o3 c3,v=.slice (some ⟨b3,o3,none⟩) 256 c3/\256<=c3/\c3<=maxLen:=by obtain⟨-,-,mQ,-⟩:=Qc hS;have hn:=h;obtain⟨A3,c3,e3,-⟩:=h;rw[e3] at hn;obtain⟨_,tu,wH,hA3⟩:=hn.at_;obtain⟨b3,o3,rfl,_⟩:=hA3 zO;rw[mQ] at e3 tu;exact⟨b3,o3,c3,e3,tu,wH⟩
theorem qks {R:Ending->World->Prop} {a:Act} {W:World} {b:Nat} {f l:K3} {bo:Bool} (h4:a.tmps[5]?.getD undef=.pointer (some ⟨b,0,none⟩)) (hd:a.defers=[]) (aF:W.heap[b]?=some (.cells (sp7 f l bo) 242 (0,0))) (hR:R (.returned (.agg (sp7 f l bo))) W):bodyPost prog Tryz.f173 R .ret a W:=by
 refine bodyPost_ret (v:=.agg (sp7 f l bo)) ?_ hd hR;have k:=qa aF;simp[results,results173,go_sem,h4,k]
set_option maxRecDepth 100000 in
theorem qho (S:Sto) (hS:ql S=true) (bS bB bW bb:Nat) (v1 v2 v3 v4:Value) (A1:OA) (n1 c1:Nat) (A2:OA) (n2 c2:Nat) (A3:OA) (n3 c3:Nat) (A4:OA) (n4 c4:Nat) (h:Nat) (HW:∀ h':Nat,h=h'+1->WalkC S bS bB bW bb v1 v2 v3 v4 (.slice A1 n1 c1) (.slice A2 n2 c2) (.slice A3 n3 c3) (.slice A4 n4 c4) h'):WalkC S bS bB bW bb v1 v2 v3 v4 (.slice A1 n1 c1) (.slice A2 n2 c2) (.slice A3 n3 c3) (.slice A4 n4 c4) h:=by
 intro xs A c f l lo w hE hh5 hlen nN aK aN;obtain⟨b3,o3,d3,e3,hd3,wH⟩:=qgy hS hE.n;subst e3;have hAJ:S.now.length=256:=(Qc hS).2.2.1;obtain⟨-,dE,bG,hA⟩:=aK.its.at_;have hss:(qD S h xs).isSome=true:=by rw[aN];rfl
 replace aK:=zH aK;have HG:=zH (fun k hk=>qiC hss (k:=k) hk);have HN:=zH (fun y hy=>one_now (ZU hss y hy));have HT:=zH (fun h' (e:h=h'+1) y (hy:y∈xs)=>ZF (S:=S) (h:=h') (y:=y) (by have:=ZU hss y hy;rw[e] at this;exact this));replace aN:=zH aN;replace hss:=zH hss;replace hE:=zH hE;replace nN:=zH nN;replace hh5:=zH hh5;replace hAJ:=zH hAJ;replace hS:=zH hS;go_enter func173,ntmps173;go_wp2;generalize aA:(World.alloc (World.alloc _ _) _)=w1;have x1:Ext w w1:=by rw[<-aA];exact((zN _ _).trans (zN _ _)).trans (zN _ _)
 have H1:WkI S h xs A c w w1 0 (0,0,0) (0,0,0) false:=by
  refine⟨?_,?_,?_,fun h0=>absurd h0 (Nat.lt_irrefl 0),x1⟩
  ·rw[<-aA];exact(zK _ _ _ zA1).trans ((zK _ _ _ zA2).trans (zI _ _ _ rfl))
  ·rw[<-aA];exact(zK _ _ _ zA2).trans (zI _ _ _ zA2)
  ·rw[<-aA];exact zI _ _ _ zA2
 clear aA x1;replace H1:=zH H1;go_loopw [15] (fun i wr=>∃ (k:Nat) (fk lk:K3) (b:Bool),k<=xs.length/\i=.int .i64 (k:Int)/\WkI S h xs A c w wr k fk lk b) (fun i _=>xs.length-(intOf i).toNat)
 case atStart=>exact⟨0,_,_,_,zO,rfl,H1.out⟩
 case round =>
  obtain⟨k,fk,lk,bk,hk,rfl,HR⟩:=hrel;clear H1;have xr:=HR.xt;have rnr:=HR.rn;have rxr:=HR.rx;have rrr:=HR.rr;have z2:w.heap.size+2<wr.heap.size:=(zG.1 rxr).1;by_cases hlt:k<xs.length
  ·have aI:=hlt;obtain⟨b,off,rfl,hb⟩:=hA zO;obtain⟨A',c',d0,d1,d2,d3',d4,-⟩:=(aK.out.ext xr).its.item k aI;have hxk:=nN.out xs[k] (List.getElem_mem aI);have hnk:=HN.out xs[k] (List.getElem_mem aI);obtain⟨l1,hone,hgo⟩:=HG.out k aI;obtain⟨g1,g2⟩:=hgo fk lk (fun h0=>(HR.sp h0).1);have HTk:=zH (fun h' e=>HT.out h' e xs[k] (List.getElem_mem aI));generalize xs[k]=x at *;obtain⟨hAZ,hBA⟩:=hxk;obtain⟨r,hr⟩:=Int.eq_ofNat_of_zero_le hAZ;rw[hr] at d3' hBA;have hr2:r<256:=zO;rw[hr,Int.toNat_natCast] at hnk;have hfN:=fun W (hx:Ext wr W)=>qfC ((hE.out.ext (xr.trans hx)).n) (a:=r) (by have:=hAJ.out;omega);have hnr:(S.now[r]?.getD 0).toNat=(S.now[r]?.getD 0).toNat:=rfl;generalize gm:(S.now[r]?.getD 0).toNat=nv at *;clear hnr;have hr0:(((r:Int) == 0)=true/\decide (r=0)=true)\/(((r:Int) == 0)=false/\decide (r=0)=false/\decide (0<nv)=true):=by
    rcases Nat.eq_zero_or_pos r with h0|h0
    ·subst h0;exact .inl ⟨zD,zD⟩
    ·exact .inr ⟨by rw[beq_eq_false_iff_ne];omega,decide_eq_false zO,decide_eq_true zO⟩
   replace hr:=zH hr;replace gm:=zH gm;replace hone:=zH hone;replace g1:=zH g1;replace g2:=zH g2;replace hnk:=zH hnk;unfold maxLen at wH;clear hAZ hBA hgo;have knr:=qa rnr;have kxr:=qa rxr;replace hfN:=zH hfN;go_wp2_with fail;generalize lM:(World.alloc _ _)=wa;have xa:Ext wr wa:=by rw[<-lM];exact zN _ _
   have ra:wa.heap[wr.heap.size]?=some (.cells #[.int .u8 x.k,.int .u32 x.i,.int .u32 x.o,.int .i64 r,.slice A' x.val.length c'] 51 (0,0)):=by rw[<-lM];exact zI _ _ _ rfl
   clear lM d0 d1 d2 d3' d4;have Ea:=hE.out.ext (xr.trans xa);have gC:∀ W,qj.r wa W->W.cell? ⟨bS,2,none⟩=some (.slice (some ⟨b3,o3,none⟩) 256 d3):=fun W h=>by rw[qa (qb Ea.s h)];rfl
   have gN:∀ W,qj.r wa W->W.cell? ⟨b3,o3+r,none⟩=some (.int .u8 (nv:Int)):=fun W h=>hfN.out W (xa.trans h);have gI:∀ W,qj.r wa W->∀ i,W.cell? ⟨wr.heap.size,i,none⟩=#[.int .u8 x.k,.int .u32 x.i,.int .u32 x.o,.int .i64 r,.slice A' x.val.length c'][i]?:=fun W h=>qa (qb ra h);clear knr kxr hfN;refine qp zQ ?_;refine ZO (w:=wa) qj (qH [(17,JM wa.heap.size 242 (sp7 (0,0,0) (0,0,0) false))]) [true,true,true,true,true,true,true,true,true,true,true,true,true,true,true,true,true,true] 1 zQ zQ zQ zQ zQ zQ ?st (Rel.drew _ _) ?walk
   case st=>exact qk (by simp only[List.forall_mem_cons];exact⟨fun p=>QS (jG _ _ _ p),fun _ h=>by cases h⟩)
   case walk =>
    intro K hK;dsimp only[qu];rcases hr0 with ⟨xZ,nY⟩|⟨xZ,nY,nJ⟩
    all_goals
     refine zB6 ?_;try (
      refine qd (.pointer (some ⟨b3,o3+r,none⟩)) zA0 zA0 (fun W hW _=>⟨W,?_,Rel.refl _ W⟩) ?_
      ·go_simp;intro ig;exfalso;omega
      simp only[Act.put,qf,qc,qg,zA,zB,zC])
     refine zB6 ?_;refine qy (JM wa.heap.size 242 (sp7 (0,0,0) (0,0,0) false)) zA0 zA0 (fun W hW _=>?_) (fun (p8:Nat)=>?_)
     ·refine JR ?_ (Below.size hW);go_simp
     simp only[Act.put,qf,qc,qg,zA,zB,zC];refine qv (hK _ _ fun W hW hF=>?_);obtain⟨f8,aQ⟩:W.heap[p8]?=some (.cells (sp7 (0,0,0) (0,0,0) false) 242 (0,0))/\wa.heap.size<=p8:=(hF 17).1;clear hF hK gC gN gI;have au:Ext wa W:=hW;refine zB5 ?_;have k8:=qa f8;have h8:=qe f8;go_wp2;refine Qr ?_;have x5:Ext wa _:=qel au aQ (.int .u8 x.k) (.int .u32 x.i) (.int .u32 x.o) (.int .u8 x.k) (.int .u32 x.i) (.int .u32 x.o) (.bool true);have r8:=row7 f8 rfl (.int .u8 x.k) (.int .u32 x.i) (.int .u32 x.o) (.int .u8 x.k) (.int .u32 x.i) (.int .u32 x.o) (.bool true);generalize aT:(World.setCell (World.setCell (World.setCell (World.setCell (World.setCell (World.setCell (World.setCell W _ _) _ _) _ _) _ _) _ _) _ _) _ _)=w5 at *;clear aT k8 h8 f8 hW au xZ nY;have H5:=HR.ext (xa.trans x5);have r5:=qb ra x5;have z8:wr.heap.size<p8:=Nat.lt_of_lt_of_le (zG.1 ra).1 aQ;have z8':p8<w5.heap.size:=(zG.1 r8).1;have kn5:=qa H5.rn;rcases Nat.eq_zero_or_pos h with hz|hz
     case' inl =>
      have hd2:decide (0<h)=false:=decide_eq_false zO;have oD:l1=qo x:=by
       have:=hone.out;rw[hz] at this;unfold jB at this;split at this
       ·cases this;rfl
       ·cases this
      have H7:=H5;replace r8:w5.heap[p8]?=some (.cells (sp7 (qo x) l1 true) 242 (0,0)):=by rw[oD];exact r8
      replace hz:=zH hz;replace oD:=zH oD;replace H5:=zH H5;replace H7:=zH H7;clear rnr rxr rrr;go_upto_region 11 with fail
     case' inr =>
      obtain⟨h',hh⟩:∃ h',h=h'+1:=⟨h-1,zO⟩
      have dE:(h':Int)=(h:Int)-1:=zO;obtain⟨b',ys,e1,e2,e3,e4,e5⟩:=one_span (by rw[<-hh];exact hone.out);have hrb:r=b':=by have:=hr.out;omega
      subst hrb;have hd2:decide (0<h)=true:=decide_eq_true hz;have iM:wrap64 ((h:Int)-1)=(h:Int)-1:=IntWalk.wrap64_in _ (by have:=hh5.out;omega);replace iM:=zH iM;obtain⟨hm1,iw,-⟩:=qM e4;have yB:ys.length<=5:=by unfold Qf ja at hm1;simp at hm1;omega
      have hyn:0<ys.length:=by
       rcases Nat.eq_zero_or_pos ys.length with h0|h0
       ·obtain rfl:=List.eq_nil_of_length_eq_zero h0;cases e5
       ·exact h0
      have hHW:=zH (fun W (hx:Ext w5 W) A9 c9 lo9 (hi9:ZL lo9 W (.slice A9 ys.length c9) ys)=>HW h' hh ys A9 c9 (qo x) l1 lo9 W (hE.out.ext ((xr.trans (xa.trans x5)).trans hx)) (by have:=hh5.out;omega) yB (fun y hy=>(iw y hy).1.2.2.2.1) hi9 e5);have pq:=zH (Kz 0 bb A1 n1 c1 A2 n2 c2 A3 n3 c3 A4 n4 c4 S hS.out r e2 e3 w5 (hE.out.ext (xr.trans (xa.trans x5))).on);rw[e4] at pq;have hy1:((ys.length:Int) == 0)=false:=by rw[beq_eq_false_iff_ne];omega
      have kb5:=qa (hE.out.ext (xr.trans (xa.trans x5))).b;have ki5:=qa r5;replace hh:=zH hh;replace hz:=zH hz;replace H5:=zH H5;replace e4:=zH e4;replace e5:=zH e5;replace dE:=zH dE;clear rnr rxr rrr hm1 iw yB hyn e1 e2 e3;go_wp2_with fail;refine pq.out.mono ?_;clear pq;rintro e w6 ⟨u,rfl,hu,bz⟩;obtain⟨A9,c9,rfl,mM⟩:=hu;rw[dE.out];have H6:=H5.out.ext bz;have r86:=qb r8 bz;have r56:=qb r5 bz;have E6:=hE.out.ext ((xr.trans (xa.trans x5)).trans bz);have kn6:=qa H6.rn;have kf6:=qa E6.f;have z6:p8<w6.heap.size:=(zG.1 r86).1;have z66:=(zG.1 H6.rn).1;have zf6:=(zG.1 E6.f).1;replace H6:=zH H6;replace E6:=zH E6;replace mM:=zH mM;have hw64':=iM.out;clear r8 r5 ki5 kb5 kn5 x5;go_wp2_with fail;generalize gp:(World.alloc w6 _)=w7;have x7:Ext w6 w7:=by rw[<-gp];exact zN _ _
      clear gp;have dK:=hHW.out w7 (Ext.trans bz x7) A9 c9 _ (mM.out.ext x7);rw[dE.out] at dK;refine dK.mono ?_;clear dK hHW;rintro e w8 ⟨rfl,yT⟩;have x8:Ext w6 w8:=x7.trans yT;have H8:=H6.out.ext x8;have r88:=qb r86 x8;have r58:=qb r56 x8;have b8:=row7 r88 rfl (.int .u8 (qo x).1) (.int .u32 (qo x).2.1) (.int .u32 (qo x).2.2) (.int .u8 l1.1) (.int .u32 l1.2.1) (.int .u32 l1.2.2) (.bool true);have x9:∀ q≤p8,Below q w8 _:=fun q hq=>qel (Below.refl q w8) hq (.int .u8 (qo x).1) (.int .u32 (qo x).2.1) (.int .u32 (qo x).2.2) (.int .u8 l1.1) (.int .u32 l1.2.1) (.int .u32 l1.2.2) (.bool true);have f8:=qe r88;have k8:=qa r88;have z8:w.heap.size+2<p8:=zO;clear r86 r56 kn6 kf6;replace hz:=zH hz.out;replace H8:=zH H8;go_upto_region 11 with fail;have H7:=H8.out.low (x9 p8 (zM _)) z8;have r5:=((x9 p8 (zM _)).block wr.heap.size zO).trans r58;clear x9 r88 r58 f8 k8;generalize yA:(World.setCell (World.setCell (World.setCell (World.setCell (World.setCell (World.setCell (World.setCell w8 _ _) _ _) _ _) _ _) _ _) _ _) _ _)=w9 at *;clear yA z8' yT x8 bz x7 z6 z66 zf6;have r8:w9.heap[p8]?=some (.cells (sp7 (qo x) l1 true) 242 (0,0)):=b8;clear b8;replace H7:=zH H7
     all_goals
      replace HR:=zH HR;clear xa;have kn7:=qa H7.out.rn;have kx7:=qa H7.out.rx;have fx7:=qe H7.out.rx;have k8:=qa r8;have k5:=qa r5;rcases Nat.eq_zero_or_pos k with oh|oh
      ·have hk1:decide ((k:Int)>0)=false:=decide_eq_false zO;have hk2:((k:Int) == 0)=true:=by rw[beq_iff_eq];omega
       have sJ:decide (0<k)=false:=decide_eq_false zO;have HN:=g2.out;rw[if_pos oh] at HN;have HR9:=H7.out.set7 HN;replace HN:=zH HN;replace oh:=zH oh;dsimp only[qo] at HR9;replace HR9:=zH HR9;clear hk;go_wp2_with fail;refine⟨⟨k+1,(x.k,x.i,x.o),l1,true,aI,rfl,HR9.out⟩,?_⟩;simp[intOf];omega
      ·have hk1:decide ((k:Int)>0)=true:=decide_eq_true zO;have hk2:((k:Int) == 0)=false:=by rw[beq_eq_false_iff_ne];omega
       have sJ:decide (0<k)=true:=decide_eq_true oh;have HN:=g2.out;rw[if_neg zO] at HN;replace HN:=zH HN;have hls:Jv lk.1 lk.2.1 lk.2.2 x.k x.i x.o=true:=g1.out oh;replace hls:=zH hls;replace oh:=zH oh;clear hk;go_wp2_with fail;refine(vY lk.1 lk.2.1 lk.2.2 x.k x.i x.o _).mono ?_;rintro e wl ⟨rfl,hB⟩;rw[hls.out];have H8':=H7.out.ext hB;have kx8:=qa H8'.rx;have fx8:=qe H8'.rx;have k88:=qa (qb r8 hB);have HR9:=zH (H8'.set4 HN.out);replace H8':=zH H8';clear kn7 kx7 fx7 k8 k5 hB r8 r5;go_wp2_with fail;refine⟨⟨k+1,fk,l1,true,aI,rfl,HR9.out⟩,?_⟩;simp[intOf];omega
  ·have lU:k=xs.length:=zO;have hx0:0<xs.length:=by
    rcases Nat.eq_zero_or_pos xs.length with h0|h0
    ·have:=aN.out;rw[List.eq_nil_of_length_eq_zero h0] at this;cases this
    ·exact h0
   obtain⟨xk,rfl⟩:=HR.sp zO;rw[lU,List.take_length,aN.out] at xk;simp only[Option.some.injEq,Prod.mk.injEq] at xk;obtain⟨rfl,rfl⟩:=xk;have kx:=qa rxr;have kr:=qa rrr;have fr:=qe rrr;have rr:=zH rrr;have xrh:=zH xr;replace HR:=zH HR;replace lU:=zH lU;clear rxr rnr rrr xr;go_wp2;exact qks (b:=w.heap.size+1) rfl rfl (row7 rr.out rfl _ _ _ _ _ _ _) ⟨rfl,qel xrh.out zO _ _ _ _ _ _ _⟩
theorem qhn (S:Sto) (hS:ql S=true) (bS bB bW bb:Nat) (v1 v2 v3 v4:Value) (A1 n1 c1 A2 n2 c2 A3 n3 c3 A4 n4 c4) : ∀ h:Nat,WalkC S bS bB bW bb v1 v2 v3 v4 (.slice A1 n1 c1) (.slice A2 n2 c2) (.slice A3 n3 c3) (.slice A4 n4 c4) h
 |0=>qho S hS bS bB bW bb v1 v2 v3 v4 A1 n1 c1 A2 n2 c2 A3 n3 c3 A4 n4 c4 0 fun _ e=>zO
 |h+1=>qho S hS bS bB bW bb v1 v2 v3 v4 A1 n1 c1 A2 n2 c2 A3 n3 c3 A4 n4 c4 (h+1) fun h' e=>by obtain rfl:h=h':=zO;exact qhn S hS bS bB bW bb v1 v2 v3 v4 A1 n1 c1 A2 n2 c2 A3 n3 c3 A4 n4 c4 h
theorem now_pos {S:Sto} {a:Nat} {q:Int×List It} (h:qt S a=some q):0<(S.now[a]?.getD 0).toNat:=by
 unfold qt at h;split at h
 ·cases h
 ·omega
theorem qkm (f l:K3) (b:Bool) (w:World):(Instr.field 242 (.agg (sp7 f l b)) 2).run prog w=.ok (.bool b) w:=zQ
theorem qbx {R:Ending->World->Prop} {a:Act} {W:World} {u v:Value} (h4:a.tmps[4]?.getD undef=u) (h5:a.tmps[5]?.getD undef=v) (hd:a.defers=[]) (hR:R (.returned (.tuple #[u,v])) W):bodyPost prog Tryz.f125 R .ret a W:=by refine bodyPost_ret (v:=.tuple #[u,v]) ?_ hd hR;simp[results,results125,go_sem,h4,h5]
set_option maxRecDepth 100000 in
theorem qfW (A1 n1 c1 A2 n2 c2 A3 n3 c3 A4 n4 c4) (S:Sto) (hS:ql S=true) (a:Nat) (hT:jj S a) (w:World) (aH:qV w w.heap.size (.slice A1 n1 c1) (.slice A2 n2 c2) (.slice A3 n3 c3) (.slice A4 n4 c4) S):Calls prog 125 #[Qe A1 n1 c1 A2 n2 c2 A3 n3 c3 A4 n4 c4,.int .i64 (a:Int)] w (Zg (fun u _=>∃ (lvl:Nat) (xs:List It),qt S a=some ((lvl:Int),xs)/\lvl<=5/\u=.tuple #[.int .i64 ((lvl:Int)+1),.int .i64 0]) w):=by
 obtain⟨ha,ak,lvl,xs,hn,aN⟩:=hT;have dZ:=now_pos hn;obtain⟨hm1,iw,-⟩:=qM hn;have fC:xs.length<=5:=by unfold Qf ja at hm1;simp at hm1;omega
 have hll:lvl<=5:=by unfold Qf ja at hm1;simp at hm1;omega
 have mQ:S.now.length=256:=(Qc hS).2.2.1;obtain⟨b3,o3,d3,e3,hd3,wH⟩:=qgy hS aH.now;simp only[Value.slice.injEq] at e3;obtain⟨rfl,rfl,rfl⟩:=e3;have aC:=qfC aH.now (a:=a) zO;have HCK:=zH (fun W (hx:Ext w W)=>JN A1 n1 c1 A2 n2 c2 (some ⟨b3,o3,none⟩) 256 c3 A4 n4 c4 S W (aH.ext hx));have HON:=zH (fun W (hx:Ext w W)=>qeA A1 n1 c1 A2 n2 c2 (some ⟨b3,o3,none⟩) 256 c3 A4 n4 c4 S zO W (aH.ext hx));have HST:=zH aH;have ha3:decide ((a:Int)<8)=false:=decide_eq_false zO;have ha5:decide ((a:Int)≥256)=false:=decide_eq_false zO;have ha8:(a:Int)<256:=zO;generalize gm:(S.now[a]?.getD 0).toNat=nv at *;have lW:((nv:Int) == 0)=false:=by rw[beq_eq_false_iff_ne];omega
 replace gm:=zH gm;replace hm1:=zH hm1;replace iw:=zH iw;replace hn:=zH hn;replace aN:=zH aN;replace hS:=zH hS;replace wH:=zH wH;replace mQ:=zH mQ;have hwr:Hid (wrap64 ((lvl:Int)+1)=(lvl:Int)+1):=zH (IntWalk.wrap64_in _ zO);replace hll:=zH hll;clear aH dZ;go_enter func125,ntmps125;go_wp2_with fail;generalize aA:(World.alloc _ _)=w1;have x1:Ext w w1:=by rw[<-aA];exact zN _ _
 have r1:w1.heap[w.heap.size]?=some (.cells #[.slice A1 n1 c1,.slice A2 n2 c2,.slice (some ⟨b3,o3,none⟩) 256 c3,.slice A4 n4 c4] 28 (0,0)):=by rw[<-aA];exact zI _ _ _ rfl
 clear aA;refine(HCK.out w1 x1).mono ?_;clear HCK;rintro e w2 ⟨rfl,hB⟩;have x2:Ext w w2:=x1.trans hB;have r2:=qb r1 hB;rw[hS.out,show JQ true=0 from rfl];have k2:=qa r2;have bG:=Ext.cell x2 aC;clear r1 hB x1 aC;go_wp2_with fail;refine(HON.out w2 x2).mono ?_;clear HON;rintro e w3 ⟨u,rfl,⟨bb,A3',c3',rfl,uO,-⟩,hB⟩;have x3:Ext w w3:=Ext.trans x2 hB;have r3:=qb r2 hB;clear k2 bG r2 x2 hB;replace uO:=zH uO;go_wp2_with fail;generalize hw4:(World.alloc w3 _)=w4;have x34:Ext w3 w4:=by rw[<-hw4];exact zN _ _
 have rb4:w4.heap[w3.heap.size]?=some (.cells #[.pointer (some ⟨bb,0,none⟩)] 92 (0,0)):=by rw[<-hw4];exact zI _ _ _ rfl
 have rs4:=qb r3 x34;have hOn4:=zH (uO.out.ext x34);have x4:Ext w w4:=x3.trans x34;clear hw4;have pq:=Kz 0 bb A1 n1 c1 A2 n2 n2 A3' 256 c3' A4 n4 c4 S hS.out a ha ak w4 ⟨Nat.zero_le _,(uO.out.ext x34).2⟩;rw[hn.out] at pq;refine pq.mono ?_;clear pq;rintro e w5 ⟨u,rfl,⟨A9,c9,rfl,aK⟩,hB⟩;have iR:Ext w4 w5:=hB;have rs5:=qb rs4 iR;have rb5:=qb rb4 iR;have hOn5:=zH (hOn4.out.ext iR);have x5:Ext w w5:=x4.trans iR;replace aK:=zH aK;clear rs4 rb4 hB iR x34 x4 x3 hOn4 uO r3;rcases Nat.eq_zero_or_pos xs.length with h0|h0
 ·have hx1:decide ((xs.length:Int)>0)=false:=decide_eq_false zO;have yS:decide (0<xs.length)=false:=decide_eq_false zO;replace h0:=zH h0;go_wp2_with fail;exact qbx (u:=.int .i64 ((lvl:Int)+1)) (by show Value.int .i64 (wrap64 _)=_;rw[hwr.out]) rfl rfl ⟨_,rfl,⟨lvl,xs,hn.out,hll.out,rfl⟩,x5.trans ((zN _ _).trans (zN _ _))⟩
 ·have hx1:decide ((xs.length:Int)>0)=true:=decide_eq_true zO;have yS:decide (0<xs.length)=true:=decide_eq_true h0;obtain⟨⟨f,l⟩,hfl⟩:∃ p,qD S lvl xs=some (some p):=by
   rcases hq:qD S lvl xs with _|_|p
   ·have:=aN.out;rw[hq] at this;cases this
   ·exact absurd (by rw[List.take_length];exact hq) (Zj (S:=S) (h:=lvl) h0 (zM xs.length))
   ·exact⟨p,rfl⟩
  replace h0:=zH h0;replace hfl:=zH hfl;go_wp2_with fail;generalize dS:(World.alloc (World.alloc w5 _) _)=w6;have x56:Ext w5 w6:=by rw[<-dS];exact(zN _ _).trans (zN _ _)
  have rf6:w6.heap[w5.heap.size+1]?=some (.cells #[.func (.func 173) #[] #[.pointer (some ⟨w.heap.size,0,none⟩),.pointer (some ⟨w3.heap.size,0,none⟩),.pointer (some ⟨w5.heap.size+1,0,none⟩)]] 240 (0,0)):=by rw[<-dS];exact zI _ _ _ zA2
  have rn6:w6.heap[w5.heap.size]?=some (.cells #[.int .i64 lvl,.slice A9 xs.length c9] 113 (0,0)):=by rw[<-dS];exact(zK _ _ _ zA2).trans (zI _ _ _ rfl)
  clear dS;have x6:Ext w w6:=x5.trans x56;have dK:=qhn S hS.out w.heap.size w3.heap.size (w5.heap.size+1) bb (.slice A1 n1 c1) (.slice A2 n2 c2) (.slice (some ⟨b3,o3,none⟩) 256 c3) (.slice A4 n4 c4) A1 n1 c1 A2 n2 n2 A3' 256 c3' A4 n4 c4 lvl xs A9 c9 f l _ w6
   ⟨qb rs5 x56,qb rb5 x56,rf6,(HST.out.ext x6).now,⟨Nat.zero_le _,(hOn5.out.ext x56).2⟩⟩ hll.out fC (fun y hy=>(iw.out y hy).1.2.2.2.1) (aK.out.ext x56) hfl.out
  refine dK.mono ?_;clear dK;rintro e w7 ⟨rfl,hB⟩;have rn7:=qb rn6 hB;have kn7:=qa rn7;have x7:=zH (x6.trans hB);clear rs5 rb5 rf6 rn6 hB x6 x56 x5;have hfi:=qkm;go_wp2_with fail;exact qbx (u:=.int .i64 ((lvl:Int)+1)) (by show Value.int .i64 (wrap64 _)=_;rw[hwr.out]) rfl rfl ⟨_,rfl,⟨lvl,xs,hn.out,hll.out,rfl⟩,x7.out⟩
theorem Yj (A1 n1 c1 A2 n2 c2 A3 n3 c3 A4 n4 c4) (S:Sto) (hS:ql S=true) (a:Nat) (hT:jj S a) (w:World) (aH:qV w w.heap.size (.slice A1 n1 c1) (.slice A2 n2 c2) (.slice A3 n3 c3) (.slice A4 n4 c4) S):Calls prog 125 #[Qe A1 n1 c1 A2 n2 c2 A3 n3 c3 A4 n4 c4,.int .i64 (a:Int)] w (Zg (fun u _=>∃ m:Int,u=.tuple #[.int .i64 m,.int .i64 0]) w):=
 (qfW A1 n1 c1 A2 n2 c2 A3 n3 c3 A4 n4 c4 S hS a hT w aH).mono fun e w' ⟨u,he,⟨_,_,_,_,hu⟩,hB⟩=>⟨u,he,⟨_,hu⟩,hB⟩
def TA (S:Sto) (x:It):Int:=if itB x.r x.val.length=true then (if x.r≠0/\Zo S x.r.toNat=0 then 6 else 0) else 8
abbrev itV (x:It) (A:OA) (c:Nat):Value:=.agg #[.int .u8 x.k,.int .u32 x.i,.int .u32 x.o,.int .i64 x.r,.slice A x.val.length c]
set_option maxRecDepth 100000 in
theorem qiv (A1 n1 c1 A2 n2 c2 A3 n3 c3 A4 n4 c4) (S:Sto) (hS:ql S=true) (a lvl:Nat) (xs:List It) (ha:8<=a) (ak:a<256) (hn:qt S a=some ((lvl:Int),xs)) (aN:(qD S lvl xs).isSome=true) (x:It) (Ax:OA) (cx:Nat) (w:World) (aH:qV w w.heap.size (.slice A1 n1 c1) (.slice A2 n2 c2) (.slice A3 n3 c3) (.slice A4 n4 c4) S):Calls prog 126 #[Qe A1 n1 c1 A2 n2 c2 A3 n3 c3 A4 n4 c4,.int .i64 (a:Int),itV x Ax cx] w (Ret (.int .i64 (TA S x)) w):=by
 have HCK:=zH (fun W (hx:Ext w W)=>Yj A1 n1 c1 A2 n2 c2 A3 n3 c3 A4 n4 c4 S hS a ⟨ha,ak,lvl,xs,hn,aN⟩ W (aH.ext hx));have HIC:=zH (fun W=>JI x.k x.i x.o x.r Ax x.val.length cx W);have xU:=GE hS aH.now;obtain⟨b3,o3,cc3,e3,dJ,nH⟩:=xU;simp only[Value.slice.injEq] at e3;obtain⟨rfl,rfl,rfl⟩:=e3;have nH:=zH nH;obtain⟨q,hq⟩:∃ q,TA S x=q:=⟨_,rfl⟩
 rw[hq];replace hq:=zH hq;clear aH hn aN ha ak;go_enter func126,ntmps126;go_wp2_with fail;generalize aA:(World.alloc (World.alloc w _) _)=w1;have x1:Ext w w1:=by rw[<-aA];exact(zN _ _).trans (zN _ _)
 have rs1:w1.heap[w.heap.size]?=some (.cells #[.slice A1 n1 c1,.slice A2 n2 c2,.slice (some ⟨b3,o3,none⟩) 256 c3,.slice A4 n4 c4] 28 (0,0)):=by rw[<-aA];exact(zK _ _ _ zA2).trans (zI _ _ _ rfl)
 have ri1:w1.heap[w.heap.size+1]?=some (.cells #[.int .u8 x.k,.int .u32 x.i,.int .u32 x.o,.int .i64 x.r,.slice Ax x.val.length cx] 51 (0,0)):=by rw[<-aA];exact zI _ _ _ zA2
 clear aA;refine(HCK.out w1 x1).mono ?_;clear HCK;rintro e w2 ⟨u,rfl,⟨m,rfl⟩,hB⟩;have x2:Ext w w2:=Ext.trans x1 hB;have rs2:=qb rs1 hB;have ri2:=qb ri1 hB;have ki2:=qa ri2;clear rs1 ri1 hB x1;go_wp2_with fail;refine(HIC.out w2).mono ?_;clear HIC;rintro e w3 ⟨rfl,hB⟩;have x3:Ext w w3:=Ext.trans x2 hB;have rs3:=qb rs2 hB;have ri3:=qb ri2 hB;have ki3:=qa ri3;have ks3:=qa rs3;clear rs2 ri2 hB x2 ki2;cases hit:itB x.r x.val.length
 ·have hqq:q=8:=by rw[<-hq.out];unfold TA;rw[hit];rfl
  subst hqq;rw[JE rfl];go_wp2_with fail;go_ret;exact⟨rfl,x3⟩
 ·have yO:x.r=0\/(8<=x.r/\x.r<256):=by unfold itB at hit;simp at hit;exact hit.1
  have hqq:Hid (q=if x.r≠0/\Zo S x.r.toNat=0 then 6 else 0):=zH (by rw[<-hq.out];unfold TA;rw[if_pos hit]);rw[show JQ true=0 from rfl];replace hit:=zH hit;clear hq;rcases yO with hr0|nK
  ·have hq0:=zH (show q=0 by rw[hqq.out,if_neg (fun h=>h.1 hr0)]);rw[hr0] at ki3;clear hqq rs3 ri3;go_wp2_with fail;go_ret;exact⟨by rw[hq0.out];rfl,x3⟩
  ·obtain⟨r,hra⟩:∃ r:Nat,x.r=(r:Int):=⟨x.r.toNat,zO⟩
   have oI:r<256:=zO;have oJ:8<=r:=zO;have hkr:=Ext.cell x3 (nH.out r oI);rw[hra] at ki3;rw[hra,Int.toNat_natCast] at hqq;have aW:((r:Int) != 0)=true:=by rw[bne_iff_ne];omega
   generalize Zo S r=nv at *;clear hra nK rs3 ri3;by_cases h0:nv=0
   ·have hq0:=zH (show q=6 by rw[hqq.out,if_pos ⟨zO,h0⟩]);subst h0;clear hqq;go_wp2_with fail;go_ret;exact⟨by rw[hq0.out];rfl,x3⟩
   ·have hq0:=zH (show q=0 by rw[hqq.out,if_neg (fun h=>h0 h.2)]);have hy1:((nv:Int) == 0)=false:=by rw[beq_eq_false_iff_ne];omega
    replace h0:=zH h0;clear hqq;go_wp2_with fail;go_ret;exact⟨by rw[hq0.out];rfl,x3⟩
theorem vl (k:K3):∀ (ps qs:List Stp) (up:List It) (S:Sto),jo k (ps++qs) up S=match jo k ps up S with
  | .error e=>.error e
  | .ok (up',S')=>jo k qs up' S'
 | [],qs,up,S=>rfl
 |(lvl,xs,p) :: ps,qs,up,S=>by
  simp only[List.cons_append,jo];rcases QU S (lvl:Int) (Vt xs p (Jp k lvl xs) up) up with e|⟨up',S'⟩
  ·rfl
  ·exact vl k ps qs up' S'
theorem KE (k:K3) (s:Stp) (up:List It) (S:Sto):jo k [s] up S=QU S (s.1:Int) (Vt s.2.1 s.2.2 (Jp k s.1 s.2.1) up) up:=by obtain⟨lvl,xs,p⟩:=s;simp only[jo];rcases QU S (lvl:Int) (Vt xs p (Jp k lvl xs) up) up with e|⟨up',S'⟩ <;> rfl
theorem TR:∀ {l:List Nat} {t:List UInt8} {e:Int},looseL l t=.error e->e≠0
 | [],t,e,h=>by cases h
 |a :: l,t,e,h=>by
  by_cases ha:a=0
  ·subst ha;rw[jr] at h;exact TR h
  ·by_cases h0:qN t a=0
   ·rw[Jd ha h0] at h;cases h;decide
   ·rw[jq ha h0] at h;exact TR h
theorem qdB {lvl:Int}:∀ {ps:List (List It)} {S:Sto} {e:Int},makeL lvl ps S=.error e->e≠0
 | [],S,e,h=>by cases h
 |p :: ps,S,e,h=>by
  simp only[makeL] at h;split at h
  ·rename_i e' h';cases h;exact XM h'
  ·split at h
   ·rename_i e' h';cases h;exact qdB h'
   ·cases h
theorem Yd {S:Sto} {lvl:Int} {l held:List It} {e:Int} (h:QU S lvl l held=.error e):e≠0:=by
 unfold QU at h;split at h
 ·rename_i e' h';cases h;exact qdB h'
 ·split at h
  ·rename_i e' h';cases h;exact TR h'
  ·cases h
structure qfn (k:K3) (s:Stp):Prop where
 may:Qf (s.1:Int) s.2.1=true
 its:∀ x∈s.2.1,zu x/\itB x.r x.val.length=true
 len:s.2.1.length<=5
 le:s.2.2<=s.2.1.length
 lt:0<s.1->s.2.2<s.2.1.length
 zero:s.1=0->s.2.2=qA s.2.1 k
theorem qiT {S:Sto} {k:K3}:∀ (h:Nat) {a:Nat} {xs:List It},qt S a=some ((h:Int),xs)->(qD S h xs).isSome=true->∀ s∈kI S k h xs,qfn k s
 |0,a,xs,hn,hs,s,hm=>by
  rw[Gf] at hm;obtain rfl:s=(0,xs,qA xs k):=by simpa using hm
  obtain⟨m1,m2,_⟩:=qM hn;exact⟨m1,m2,(jw hn).2.2,JB xs k,fun h=>absurd h (Nat.lt_irrefl 0),fun _=>rfl⟩
 |h+1,a,xs,hn,hs,s,hm=>by
  obtain⟨m1,m2,_⟩:=qM hn;have hx:=UF m1 zO;obtain⟨b,e1,-,-,zs,e4,e5⟩:=ZF (ZU hs _ (List.getElem_mem (jH (k:=k) hx)));rw[XB (zL (jH hx)) (by rw[e1,Int.toNat_natCast];exact e4)] at hm;rcases List.mem_cons.1 hm with rfl|hm
  ·exact⟨m1,m2,(jw hn).2.2,Nat.le_of_lt (jH hx),fun _=>jH hx,fun h=>by cases h⟩
  ·exact qiT h e4 e5 s hm
theorem many_ok {k:K3} {s:Stp} (h:qfn k s):(Jp k s.1 s.2.1=0\/Jp k s.1 s.2.1=1)/\s.2.2+Jp k s.1 s.2.1<=s.2.1.length:=by
 have hle:=h.le;unfold Jp;split
 ·exact⟨.inl rfl,zO⟩
 ·rename_i hc;refine⟨.inr rfl,?_⟩;rcases Nat.eq_zero_or_pos s.1 with h0|h0
  ·rw[h.zero h0] at hle ⊢;by_cases hl:qA s.2.1 k<s.2.1.length
   ·omega
   ·exact absurd ⟨h0,XK hl⟩ hc
  ·have:=h.lt h0;omega
theorem Bch.of_on {B lo b:Nat} {A1:OA} {n1 c1:Nat} {A2:OA} {n2 c2:Nat} {A3:OA} {n3 c3:Nat} {A4:OA} {n4 c4:Nat} {A3':OA} {c3':Nat} {S:Sto} {W:World} (hB:B<=lo) (hS:ql S=true) (aH:qV W B (.slice A1 n1 c1) (.slice A2 n2 c2) (.slice A3 n3 c3) (.slice A4 n4 c4) S) (aQ:lo<=b) (hr:W.heap[b]?=some (.cells #[.slice A1 n1 c1,.slice A2 n2 n2,.slice A3' n3 c3',.slice A4 n4 c4] 223 (0,0))) (ho:W.ownsRow lo 5 1 (.slice A3' n3 c3') n3 (S.now.map bv)):∃ g,Bch (fun _=>False) B lo b g none S W:=by
 obtain⟨oD,xO,mQ,hl4⟩:=Qc hS;have e3:=aH.now.at_.1;have e4:=aH.last.at_.1;obtain rfl:n3=256:=zO;obtain rfl:n4=256:=zO;obtain⟨g,rfl⟩:∃ g,A3'=some ⟨g,0,none⟩:=by
  rcases ho.2 with ⟨_,h0⟩|⟨g,_,_,e,_⟩
  ·cases h0
  ·cases e;exact⟨g,rfl⟩
 refine⟨g,aQ,hB,fun q h=>h.elim,A1,n1,c1,.slice A2 n2 n2,c3',A4,c4,hr,ho,?_,aH.bs,aH.last⟩;obtain⟨ps,e,⟨A,c,e2,h1,h2,pM⟩,hp⟩:=aH.ws;simp only[Value.slice.injEq] at e2;obtain⟨rfl,rfl,rfl⟩:=e2;refine⟨ps,e,.inl ⟨rfl,zO,A2,rfl,pM⟩,fun p af=>⟨(hp p af).1,fun C hC=>(hp p af).2.keepX hC fun q hq hx=>by have:=hx.1;omega⟩⟩
def GJ (S:Sto) (L:Nat) (xs:List It) (x:It):Except Int (List It×Sto):=
 if qaG (qo x) (kI S (qo x) L xs)=true then .error 120 else
 match jo (qo x) (kI S (qo x) L xs).reverse [x] S with
 | .error e=>.error e
 | .ok (up,S1)=>if 1<up.length then QU S1 ((kI S (qo x) L xs).length:Int) up up else .ok (up,S1)
def YB (up:List It):Nat:=match up with
 | []=>0
 |y :: _=>y.r.toNat
theorem qeO (S:Sto) (L:Nat) (xs:List It) (root:Nat) (x:It):putX S L xs root x=match GJ S L xs x with
  | .error e=>.error e
  | .ok (up,S2)=>match QH S2 (-1) S2.now root with
   |none=>.error 8
   |some t=>.ok (YB up,qw S2 t):=by
 unfold putX GJ;by_cases ht:qaG (qo x) (kI S (qo x) L xs)=true
 ·rw[if_pos ht,if_pos ht]
 ·rw[if_neg ht,if_neg ht];rcases jo (qo x) (kI S (qo x) L xs).reverse [x] S with e|⟨up,S1⟩
  ·rfl
  ·simp only;generalize (if 1<up.length then QU S1 ((kI S (qo x) L xs).length:Int) up up else Except.ok (up,S1))=r;rcases r with e|⟨up',S2⟩
   ·rfl
   ·simp only;rcases QH S2 (-1) S2.now root with _|t <;> rfl
def Tc (S:Sto) (L:Nat) (xs:List It) (root:Nat) (x:It):Except Int (Nat×Sto):=if TA S x=0 then putX S L xs root x else .error (TA S x)
def PutQ (lo:Nat) (q:Except Int (Nat×Sto)) (u:Value) (W:World):Prop:=match q with
 | .error e=>u=.tuple #[Qe none 0 0 none 0 0 none 0 0 none 0 0,.int .i64 0,.int .i64 e]
 | .ok (r,S')=>∃ v,u=.tuple #[v,.int .i64 (r:Int),.int .i64 0]/\QM lo S' v W
end Go.Proofs.YtmeadnlmepcmbaaGreat
namespace Go.Proofs.YtmeadnlmepcmbaaGreat
open Go.RowKit Go.Shelf
attribute [local go_sem] Oper.semAt_some
set_option maxRecDepth 100000 in
theorem backN_in (n:Nat) (hn:1<=n) (l Bs b off len cap:Nat) (us:List W2) (bH:len<1099511627776) (J Jx:List Nat->World->Prop) (hY:∀ pre (x:Nat) W,J pre W->pre.length<len->YieldAt Fence.wide (n-1) prog l #[.int .i64 (x:Int),.agg #[.int .i64 (us[x]?.getD w2z).1,sv (us[x]?.getD w2z).2]] W fun e W' =>
   (e=.returned (.bool true)/\J (pre++[x]) W'/\QA Bs b W W')\/(e=.returned (.bool false)/\Jx (pre++[x]) W'))
  (W:World) (lQ:W.cell? ⟨Bs,0,none⟩=some (.slice (some ⟨b,off,none⟩) len cap)) (hc:∀ i,i<len->W.cell? ⟨b,off+i*2,none⟩=some (.int .i64 (us[i]?.getD w2z).1)/\W.cell? ⟨b,off+i*2+1,none⟩=some (sv (us[i]?.getD w2z).2)) (h0:J [] W) :
  CallsIn Fence.wide n prog 189 #[.func (.yield l) #[] #[],.pointer (some ⟨Bs,0,none⟩)] W fun e W'=>(∃ v,e=.returned v) /\
   ((∃ ys,ys=jl (fun j=>len-1-j) len/\J ys W')\/(∃ pre,(∃ k,k<=len/\pre=jl (fun j=>len-1-j) k)/\Jx pre W')):=by
 refine callsIn_of_wp func189 rfl trivial ?_ rfl;simp only[ntmps189,List.size_toArray,List.length_cons,List.length_nil,Nat.reduceAdd,Nat.reduceSub,Array.replicate_succ,Array.replicate_zero,List.push_toArray,List.append_toArray,List.nil_append,List.cons_append]
 gi_wp2
 gi_loopw [3] (fun i wr=>∃ k:Nat,k<=len/\i=.int .i64 ((len:Int)-1-k)/\J (jl (fun j=>len-1-j) k) wr/\QA Bs b W wr)
  (fun i _=>(intOf i+1).toNat)
 case atStart=>exact⟨0,Nat.zero_le _,zA2,h0,QA.refl _ _ _⟩
 case round =>
  obtain⟨k,hk,rfl,iO,dX⟩:=hrel;have hBr:wr.cell? ⟨Bs,0,none⟩=some (.slice (some ⟨b,off,none⟩) len cap):=(World.cell?_of_block (w:=W) dX.1).trans lQ;by_cases hlt:k<len
  ·have uB:=(World.cell?_of_block (w:=W) (a:=⟨b,off+(len-1-k)*2,none⟩) dX.2).trans (hc (len-1-k) zO).1;have hcy:=(World.cell?_of_block (w:=W) (a:=⟨b,off+(len-1-k)*2+1,none⟩) dX.2).trans (hc (len-1-k) zO).2;obtain⟨fn,tmps,assign,body,hy,hR⟩:=hY _ (len-1-k) wr iO (by rw[ZA];exact hlt);try dsimp only at hy
   obtain⟨i,hi⟩:∃ i:Nat,len-1-k=i:=⟨_,rfl⟩
   have hi2:(len:Int)-1-k=(i:Int):=zO;have hil:i<len:=zO;have hik:k+i+1<=len/\len<=k+i+1:=zO;have HU:=zH (VP (fun j=>len-1-j) k);obtain⟨u,hu⟩:∃ u,us[i]?.getD w2z=u:=⟨_,rfl⟩
   rw[hi] at uB hcy hy hR;rw[hu] at uB hcy hy;rw[hi2];clear hi2;clear hu;have HI:=zH hi;clear hi
   gi_wp2
   refine hR.mono ?_;rintro e W3 (⟨rfl,yX,nH⟩|⟨rfl,lm⟩)
   ·gi_wp2
    go_roundw
    case rel=>exact⟨k+1,zO,by go_num,by rw[HU.out,HI.out];exact yX,dX.t nH⟩
    case measure=>simp[intOf]
   ·gi_wp2
    refine bodyPost_ret (results_none rfl _ _ _) rfl ?_;exact⟨⟨_,rfl⟩,.inr ⟨_,⟨k+1,zO,by rw[HU.out,HI.out]⟩,lm⟩⟩
  ·obtain rfl:k=len:=zO
   gi_wp2
   go_end0;exact⟨⟨_,rfl⟩,.inl ⟨_,rfl,iO⟩⟩
set_option maxRecDepth 100000 in
theorem qeg (n l Bs c:Nat) (A:OA) (J:List Nat->World->Prop) (W:World) (lQ:W.cell? ⟨Bs,0,none⟩=some (.slice A 0 c)) (h0:J [] W):CallsIn Fence.wide n prog 189 #[.func (.yield l) #[] #[],.pointer (some ⟨Bs,0,none⟩)] W fun e W'=>(∃ v,e=.returned v)/\J [] W':=by
 refine callsIn_of_wp func189 rfl trivial ?_ rfl;simp only[ntmps189,List.size_toArray,List.length_cons,List.length_nil,Nat.reduceAdd,Nat.reduceSub,Array.replicate_succ,Array.replicate_zero,List.push_toArray,List.append_toArray,List.nil_append,List.cons_append]
 gi_wp2
 gi_loopw [3] (fun i wr=>i=.int .i64 (-1)/\J [] wr) (fun _ _=>0)
 case atStart=>exact⟨rfl,h0⟩
 case round =>
  obtain⟨rfl,iO⟩:=hrel
  gi_wp2
  go_end0;exact⟨⟨_,rfl⟩,iO⟩
theorem qfw (n:Nat) (hn:1<=n) (Bs b:Nat) (v:Value) (us:List W2) (bH:us.length<1099511627776) (w:World) (lQ:Bs<w.heap.size) (hb:b<w.heap.size) (hS:SW w Bs b v us):SeqStopsK Fence.wide n prog 189 #[.pointer (some ⟨Bs,0,none⟩)] (fun x:Nat=>#[.int .i64 (x:Int),.agg #[.int .i64 (us[x]?.getD w2z).1,sv (us[x]?.getD w2z).2]]) (QA Bs b) (fun ys=>ys=jl (fun j=>us.length-1-j) us.length)
   (fun pre=>∃ k,k<=us.length/\pre=jl (fun j=>us.length-1-j) k) us.length w:=fun l J Jx W hW _ _ hY h0=>by
 obtain⟨hc,h⟩:=hS.keep (QA.below hW lQ hb);rcases h with ⟨rfl,A,c,rfl⟩|⟨off,cap,rfl,dA⟩
 ·exact(qeg n l Bs c A J W hc h0).mono fun e W' ⟨he,hj⟩=>⟨he,.inl ⟨_,rfl,hj⟩⟩
 ·exact backN_in n hn l Bs b off us.length cap us bH J Jx hY W hc dA h0
def atN (ws:List (Int×List UInt8)) (j:Nat):Int:=((ws[j]?).map (·.1)).getD 0
def datN (ws:List (Int×List UInt8)) (j:Nat):List UInt8:=((ws[j]?).map (·.2)).getD []
theorem XX (n k j:Nat) (h:j<k):(jl (fun i=>n-1-i) k)[j]?=some (n-1-j):=by unfold jl;rw[List.getElem?_map,List.getElem?_range h];rfl
theorem Uv {ws:List (Int×List UInt8)} {a:Int}:∀ (d m:Nat),m+d=ws.length->(∀ i,m<=i->i<ws.length->atN ws i≠a)->jv ws a=jv (ws.take m) a:=by
 intro d;induction d with
 |zero=>intro m hm _;rw[show m=ws.length by omega,List.take_length]
 |succ d ih =>
  intro m hm h;have aG:=h m (zM _) zO;unfold atN at aG;rw[zL zO] at aG;rw[ih (m+1) zO (fun i hi hl=>h i zO hl),Kf zO];exact if_neg aG
theorem qhy {ws:List (Int×List UInt8)} {a:Int} {k:Nat} {pre:List Nat} {x:Nat} (hk:k<=ws.length) (he:pre++[x]=jl (fun j=>ws.length-1-j) k) (hx:atN ws x=a) (hp:∀ y∈pre,atN ws y≠a):jv ws a=some (datN ws x):=by
 have hl:pre.length+1=k:=by have:=congrArg List.length he;simpa [jl] using this
 have hxk:x=ws.length-1-pre.length:=by have h1:=XX ws.length k pre.length zO;rw[<-he] at h1;simpa using h1
 have fC:x<ws.length:=zO;rw[Uv (ws:=ws) (a:=a) pre.length (x+1) zO (fun i h1 h2=>by have h3:=XX ws.length k (ws.length-1-i) zO;rw[<-he,List.getElem?_append_left zO,show ws.length-1-(ws.length-1-i)=i by omega] at h3;exact hp _ (List.mem_of_getElem? h3)),Kf fC];unfold atN at hx;unfold datN;rw[zL fC] at hx ⊢;exact if_pos hx
theorem qhx {ws:List (Int×List UInt8)} {a:Int} (hp:∀ y∈jl (fun j=>ws.length-1-j) ws.length,atN ws y≠a):jv ws a=none:=by rw[Uv (ws:=ws) (a:=a) ws.length 0 zA2 (fun i _ h2=>by have h3:=XX ws.length ws.length (ws.length-1-i) zO;rw[show ws.length-1-(ws.length-1-i)=i by omega] at h3;exact hp _ (List.mem_of_getElem? h3))];rfl
theorem Kr {w w':World} {lo:Nat} {e:TypeId} {size:Nat} {v:Value} {n:Nat} {xs:List Value} (h:w.ownsRow lo e size v n xs) (hk:Qo w w'):w'.ownsRow lo e size v n xs:=
 ⟨h.1,h.2.imp id fun ⟨g,cap,cur,h1,h2,h3,h4⟩=>⟨g,cap,cur,h1,h2,hk.row h3,h4⟩⟩
abbrev Us:Type:=Stp×Sl
abbrev usz:Us:=((0,[],0),(none,0,0))
set_option maxRecDepth 100000 in
theorem backs_in (n:Nat) (hn:1<=n) (l Bs b off len cap:Nat) (us:List Us) (bH:len<1099511627776) (J Jx:List Nat->World->Prop) (hY:∀ pre (x:Nat) W,J pre W->pre.length<len->YieldAt Fence.wide (n-1) prog l #[.int .i64 (x:Int),.agg #[.int .i64 ((us[x]?.getD usz).1.1:Int),sv (us[x]?.getD usz).2,.int .i64 ((us[x]?.getD usz).1.2.2:Int)]] W fun e W' =>
   (e=.returned (.bool true)/\J (pre++[x]) W'/\QA Bs b W W')\/(e=.returned (.bool false)/\Jx (pre++[x]) W'))
  (W:World) (lQ:W.cell? ⟨Bs,0,none⟩=some (.slice (some ⟨b,off,none⟩) len cap)) (hc:∀ i,i<len->W.cell? ⟨b,off+i*3,none⟩=some (.int .i64 ((us[i]?.getD usz).1.1:Int))/\W.cell? ⟨b,off+i*3+1,none⟩=some (sv (us[i]?.getD usz).2)/\W.cell? ⟨b,off+i*3+2,none⟩=some (.int .i64 ((us[i]?.getD usz).1.2.2:Int))) (h0:J [] W) :
  CallsIn Fence.wide n prog 176 #[.func (.yield l) #[] #[],.pointer (some ⟨Bs,0,none⟩)] W fun e W'=>(∃ v,e=.returned v) /\
   ((∃ ys,ys=jl (fun j=>len-1-j) len/\J ys W')\/(∃ pre,(∃ k,k<=len/\pre=jl (fun j=>len-1-j) k)/\Jx pre W')):=by
 refine callsIn_of_wp func176 rfl trivial ?_ rfl;simp only[ntmps176,List.size_toArray,List.length_cons,List.length_nil,Nat.reduceAdd,Nat.reduceSub,Array.replicate_succ,Array.replicate_zero,List.push_toArray,List.append_toArray,List.nil_append,List.cons_append]
 gi_wp2
 gi_loopw [3] (fun i wr=>∃ k:Nat,k<=len/\i=.int .i64 ((len:Int)-1-k)/\J (jl (fun j=>len-1-j) k) wr/\QA Bs b W wr)
  (fun i _=>(intOf i+1).toNat)
 case atStart=>exact⟨0,Nat.zero_le _,zA2,h0,QA.refl _ _ _⟩
 case round =>
  obtain⟨k,hk,rfl,iO,dX⟩:=hrel;have hBr:wr.cell? ⟨Bs,0,none⟩=some (.slice (some ⟨b,off,none⟩) len cap):=(World.cell?_of_block (w:=W) dX.1).trans lQ;by_cases hlt:k<len
  ·obtain⟨fn,tmps,assign,body,hy,hR⟩:=hY _ (len-1-k) wr iO (by rw[ZA];exact hlt);have dQ:=(World.cell?_of_block (w:=W) (a:=⟨b,off+(len-1-k)*3,none⟩) dX.2).trans (hc (len-1-k) zO).1;have dE:=(World.cell?_of_block (w:=W) (a:=⟨b,off+(len-1-k)*3+1,none⟩) dX.2).trans (hc (len-1-k) zO).2.1;have bG:=(World.cell?_of_block (w:=W) (a:=⟨b,off+(len-1-k)*3+2,none⟩) dX.2).trans (hc (len-1-k) zO).2.2;try dsimp only at hy
   obtain⟨i,hi⟩:∃ i:Nat,len-1-k=i:=⟨_,rfl⟩
   have hi2:(len:Int)-1-k=(i:Int):=zO;have hil:i<len:=zO;have hik:k+i+1<=len/\len<=k+i+1:=zO;have HU:=zH (VP (fun j=>len-1-j) k);obtain⟨u,hu⟩:∃ u,us[i]?.getD usz=u:=⟨_,rfl⟩
   rw[hi] at dQ dE bG hy hR;rw[hu] at dQ dE bG hy;rw[hi2];clear hi2;clear hu;have HI:=zH hi;clear hi
   gi_wp2
   refine hR.mono ?_;rintro e W3 (⟨rfl,yX,nH⟩|⟨rfl,lm⟩)
   ·gi_wp2
    go_roundw
    case rel=>exact⟨k+1,zO,by go_num,by rw[HU.out,HI.out];exact yX,dX.t nH⟩
    case measure=>simp[intOf]
   ·gi_wp2
    refine bodyPost_ret (results_none rfl _ _ _) rfl ?_;exact⟨⟨_,rfl⟩,.inr ⟨_,⟨k+1,zO,by rw[HU.out,HI.out]⟩,lm⟩⟩
  ·obtain rfl:k=len:=zO
   gi_wp2
   go_end0;exact⟨⟨_,rfl⟩,.inl ⟨_,rfl,iO⟩⟩
set_option maxRecDepth 100000 in
theorem qej (n l Bs c:Nat) (A:OA) (J:List Nat->World->Prop) (W:World) (lQ:W.cell? ⟨Bs,0,none⟩=some (.slice A 0 c)) (h0:J [] W):CallsIn Fence.wide n prog 176 #[.func (.yield l) #[] #[],.pointer (some ⟨Bs,0,none⟩)] W fun e W'=>(∃ v,e=.returned v)/\J [] W':=by
 refine callsIn_of_wp func176 rfl trivial ?_ rfl;simp only[ntmps176,List.size_toArray,List.length_cons,List.length_nil,Nat.reduceAdd,Nat.reduceSub,Array.replicate_succ,Array.replicate_zero,List.push_toArray,List.append_toArray,List.nil_append,List.cons_append]
 gi_wp2
 gi_loopw [3] (fun i wr=>i=.int .i64 (-1)/\J [] wr) (fun _ _=>0)
 case atStart=>exact⟨rfl,h0⟩
 case round =>
  obtain⟨rfl,iO⟩:=hrel
  gi_wp2
  go_end0;exact⟨⟨_,rfl⟩,iO⟩
def SWs (W:World) (Bs b:Nat) (v:Value) (us:List Us):Prop:=
 W.cell? ⟨Bs,0,none⟩=some v/\((us=[]/\∃ A c,v=.slice A 0 c)\/∃ off cap,v=.slice (some ⟨b,off,none⟩) us.length cap/\∀ i,i<us.length->W.cell? ⟨b,off+i*3,none⟩=some (.int .i64 ((us[i]?.getD usz).1.1:Int))/\W.cell? ⟨b,off+i*3+1,none⟩=some (sv (us[i]?.getD usz).2)/\W.cell? ⟨b,off+i*3+2,none⟩=some (.int .i64 ((us[i]?.getD usz).1.2.2:Int)))
theorem SWs.keep {W W':World} {Bs b:Nat} {v:Value} {us:List Us} (h:SWs W Bs b v us) (hk:QA Bs b W W'):SWs W' Bs b v us:=by
 refine⟨(World.cell?_of_block (w:=W) hk.1).trans h.1,?_⟩;rcases h.2 with h|⟨off,cap,e,hc⟩
 ·exact .inl h
 ·exact .inr ⟨off,cap,e,fun i hi=>⟨(World.cell?_of_block (w:=W) hk.2).trans (hc i hi).1,(World.cell?_of_block (w:=W) hk.2).trans (hc i hi).2.1,(World.cell?_of_block (w:=W) hk.2).trans (hc i hi).2.2⟩⟩
theorem qfz (n:Nat) (hn:1<=n) (Bs b:Nat) (v:Value) (us:List Us) (bH:us.length<1099511627776) (w:World) (lQ:Bs<w.heap.size) (hb:b<w.heap.size) (hS:SWs w Bs b v us):SeqStopsK Fence.wide n prog 176 #[.pointer (some ⟨Bs,0,none⟩)] (fun x:Nat=>#[.int .i64 (x:Int),.agg #[.int .i64 ((us[x]?.getD usz).1.1:Int),sv (us[x]?.getD usz).2,.int .i64 ((us[x]?.getD usz).1.2.2:Int)]]) (QA Bs b) (fun ys=>ys=jl (fun j=>us.length-1-j) us.length)
   (fun pre=>∃ k,k<=us.length/\pre=jl (fun j=>us.length-1-j) k) us.length w:=fun l J Jx W hW _ _ hY h0=>by
 obtain⟨hc,h⟩:=hS.keep (QA.below hW lQ hb);rcases h with ⟨rfl,A,c,rfl⟩|⟨off,cap,rfl,dA⟩
 ·exact(qej n l Bs c A J W hc h0).mono fun e W' ⟨he,hj⟩=>⟨he,.inl ⟨_,rfl,hj⟩⟩
 ·exact backs_in n hn l Bs b off us.length cap us bH J Jx hY W hc dA h0
theorem qcE (A m c) (w:World):Calls prog 129 #[.slice A m c] w (fun e w'=>e=.returned (.func (.func 176) #[] #[.pointer (some ⟨w.heap.size,0,none⟩)])/\w'=w.alloc (.cells #[.slice A m c] 180)):=by
 go_enter func129,ntmps129;go_wp2;go_ret;exact⟨rfl,rfl⟩
end Go.Proofs.YtmeadnlmepcmbaaGreat
namespace Go.Proofs.YtmeadnlmepcmbaaGreat
open Go.RowKit
section
variable {w W:World}
theorem Rd.ck {B size n:Nat} {A:OA} {xs:List Value} (h:Rd w B size A n xs) (hk:Qo w W):Rd W B size A n xs:=⟨h.1,fun hn=>by obtain⟨b,off,e,hb,hc⟩:=h.2 hn;exact⟨b,off,e,hb,fun j u hu=>hk.cell (hc j u hu)⟩⟩
theorem Bys.ck {B:Nat} {v:Value} {l:List UInt8} (h:Bys w B v l) (hk:Qo w W):Bys W B v l:=by obtain⟨A,c,e,hc,hm,hr⟩:=h;exact⟨A,c,e,hc,hm,hr.ck hk⟩
theorem Bls.ck {B:Nat} {v:Value} {bs:List (List UInt8)} (h:Bls w B v bs) (hk:Qo w W):Bls W B v bs:=by obtain⟨vs,A,c,e,h1,h2,h3,h4⟩:=h;exact⟨vs,A,c,e,h1,h2,h3.ck hk,fun i u l hu hl=>(h4 i u l hu hl).ck hk⟩
theorem Ql.of_ck (X:Nat->Prop) (hk:Qo w W):Ql X w W:=fun _ _ _ hv=>hk.cell hv
theorem Bch.ck {D:Nat->Prop} {B lo b g:Nat} {k:Option Nat} {S:Sto} (h:Bch D B lo b g k S w) (hk:Qo w W):Bch D B lo b g k S W:=by
 obtain⟨A1,n1,c1,v2,c3,A4,c4,uo,ho,⟨ps,e,hw,hp⟩,h1,h4⟩:=h.ex;refine⟨h.lob,h.blo,fun q hq=>⟨(h.dB q hq).1,by have:=(h.dB q hq).2.1;have:=hk.size;omega,(h.dB q hq).2.2⟩,A1,n1,c1,v2,c3,A4,c4,hk.row uo,Kr ho hk,⟨ps,e,?_,fun p af=>⟨(hp p af).1,fun C hC=>(hp p af).2 C ((Ql.of_ck _ hk).trans hC fun _ _ h=>h)⟩⟩,h1.ck hk,h4.ck hk⟩;rcases hw with ⟨e,hm,A,e2,hr⟩|⟨q,e,e2,how⟩
 ·exact .inl ⟨e,hm,A,e2,hr.ck hk⟩
 ·exact .inr ⟨q,e,e2,Kr how hk⟩
end
theorem kM.of_own {X:Nat->Prop} {w:World} {lo n:Nat} {v:Value} {ps:List (It×Value)} (ho:w.ownsRow lo 51 5 v n (Qa ps)) (hl:ps.length=n) (hX:∀ q,v.ownBlock=some q->¬X q) (hp:∀ p∈ps,(∃ A c,p.2=.slice A p.1.val.length c)/\∀ C,Ql X w C->Bys C C.heap.size p.2 p.1.val):kM X w v (ps.map (·.1)):=fun C hC=>by
 have pM:∀ A c,v=.slice A n c->Rd C C.heap.size 5 A n (Qa ps):=fun A c e=>by
  refine⟨ho.1,fun hn=>?_⟩;rcases ho.2 with ⟨_,h0⟩|⟨g,cap,cur,hv,hb,hg,gZ,_,hsz,nM⟩
  ·omega
  ·have aG:¬X g:=hX g (by rw[hv];rfl);rw[hv] at e;cases e;have hc:∀ j u,(Qa ps)[j]?=some u->w.cell? ⟨g,0+j,none⟩=some u:=fun j u hu=>by
    rw[Nat.zero_add,qa hg,<-Array.getElem?_toList];rw[<-nM,List.getElem?_take] at hu;split at hu
    ·exact hu
    ·cases hu
   have hl0:0<(Qa ps).length:=by rw[ho.1];omega
   exact⟨g,0,rfl,World.block_lt_of_cell? C ⟨g,0+0,none⟩ (hC _ _ aG (hc 0 _ (zL hl0))),fun j u hu=>hC _ _ aG (hc j u hu)⟩
 obtain⟨A,c,rfl,h1,h2⟩:=qE ho;subst hl;exact⟨ps,rfl,⟨A,c,by rw[List.length_map],by rw[List.length_map];exact h1,h2,by rw[List.length_map];exact pM A c rfl⟩,fun p af=>⟨(hp p af).1,(hp p af).2 C hC⟩⟩
theorem Bch.others {D:Nat->Prop} {B lo b g:Nat} {k:Option Nat} {S:Sto} {w W:World} (h:Bch D B lo b g k S w) (hk:Qg lo b g k w W):KeepsOthers w W:=⟨hk.below.size,fun q o hq ho=>by
 refine hk.row hq fun hx=>?_;obtain⟨A1,n1,c1,v2,c3,A4,c4,uo,aX,⟨ps,_,hw,_⟩,_,_⟩:=h.ex;have key:∀ cs ty fr,w.heap[q]?=some (.cells cs ty fr)->False:=fun cs ty fr hc=>by rw[hc] at hq;cases hq;cases ho
 rcases hx with rfl|rfl|e
 ·exact key _ _ _ uo
 ·obtain⟨cur,hg⟩:=jh aX rfl;exact key _ _ _ hg
 ·rcases hw with ⟨e1,_⟩|⟨q',e1,e2,how⟩
  ·rw[e1] at e;cases e
  ·rw[e1] at e;cases e;obtain⟨cur,hg⟩:=jh how e2;exact key _ _ _ hg⟩
def sAt (l:List Stp) (x:Nat):Stp:=l[x]?.getD (0,[],0)
theorem sAt_ok {k:K3} {l:List Stp} (h:∀ s∈l,qfn k s) (x:Nat):qfn k (sAt l x):=by
 unfold sAt;rcases hx:l[x]? with _|s
 ·exact⟨zD,(fun y hy=>by cases hy),Nat.zero_le _,zM _,fun h=>absurd h (Nat.lt_irrefl 0),fun _=>rfl⟩
 ·exact h s (List.mem_of_getElem? hx)
theorem qgW (l:List Stp) (k:Nat) (hk:k<=l.length):(jl (fun j=>l.length-1-j) k).map (sAt l)=l.reverse.take k:=by
 apply List.ext_getElem?;intro i;unfold jl;rw[List.getElem?_map,List.getElem?_map,List.getElem?_take];by_cases hi:i<k
 ·rw[List.getElem?_range hi,if_pos hi,List.getElem?_reverse zO];simp only[Option.map_some,sAt];rw[zL zO];simp
 ·rw[List.getElem?_eq_none zA1,if_neg hi];rfl
structure PutI (K:K3) (l:List Stp) (S:Sto) (x:It) (B0 lo b g UB TB SB w2:Nat) (w3:World) (xv sv_:Value) (pre:List Nat) (W:World):Prop where
 ex:∃ (ups:List It) (S':Sto) (k':Option Nat) (D':Nat->Prop) (Au:OA) (cu:Nat) (ax:List (It×Value)),jo K (pre.map (sAt l)) [x] S=.ok (ups,S')/\ql S'=true/\0<ups.length/\ups.length<=2/\ax.map (·.1)=ups /\
  (∀ y∈ups,zu y/\(y.r=0\/8<=y.r)/\y.r<256)/\(∀ p∈ax,(∃ A c,p.2=.slice A p.1.val.length c)/\Bys W B0 p.2 p.1.val)/\W.heap[UB]?=some (.cells #[.slice Au ups.length cu] 55 (0,0))/\W.ownsRow 0 51 5 (.slice Au ups.length cu) ups.length (Qa ax)/\Bch D' B0 lo b g k' S' W
 rx:W.heap[B0+1]?=some (.cells #[.int .u8 x.k,.int .u32 x.i,.int .u32 x.o,.int .i64 x.r,xv] 51 (0,0))
 r2:W.heap[B0+2]?=some (.cells #[.slice none 0 0,.slice none 0 0,.slice none 0 0,.slice none 0 0] 28 (0,0))
 r3:W.heap[B0+3]?=some (.cells #[.int .i64 0] 3 (0,0))
 r4:W.heap[B0+4]?=some (.cells #[.int .i64 0] 37 (0,0))
 rT:W.heap[TB]?=some (.cells #[.pointer (some ⟨b,0,none⟩)] 92 (0,0))
 rS:W.heap[SB]?=some (.cells #[sv_] 180 (0,0))
 kx:Ql (fun q=>q<w2) w3 W
theorem PutI.ck {K:K3} {l:List Stp} {S:Sto} {x:It} {B0 lo b g UB TB SB w2:Nat} {w3:World} {xv sv_:Value} {pre:List Nat} {w W:World} (h:PutI K l S x B0 lo b g UB TB SB w2 w3 xv sv_ pre w) (hk:Qo w W):PutI K l S x B0 lo b g UB TB SB w2 w3 xv sv_ pre W:=by obtain⟨ups,S',k',D',Au,cu,ax,h1,h2,h3,h4,h5,h6,h7,h8,h9,h10⟩:=h.ex;exact⟨⟨ups,S',k',D',Au,cu,ax,h1,h2,h3,h4,h5,h6,fun p hp=>⟨(h7 p hp).1,(h7 p hp).2.ck hk⟩,hk.row h8,Kr h9 hk,h10.ck hk⟩,hk.row h.rx,hk.row h.r2,hk.row h.r3,hk.row h.r4,hk.row h.rT,hk.row h.rS,h.kx.trans (Ql.of_ck _ hk) fun _ _ h=>h⟩
theorem Ye {S S':Sto} {lvl:Int} {l held up:List It} (hl:∀ x∈l,zu x) (hh:∀ x∈held,(x.r=0\/8<=x.r)/\x.r<256) (hS:ql S=true) (e:QU S lvl l held=.ok (up,S')):ql S'=true/\(0<up.length/\up.length<=2)/\∀ y∈up,zu y/\(8<=y.r/\y.r<256)/\y.val=[]:=by
 unfold QU at e;split at e
 ·cases e
 ·rename_i up1 S1 e1;split at e
  ·cases e
  ·rename_i t e2;cases e;obtain⟨h1,h2,h3⟩:=GB (Xt hl) hS e1;refine⟨UG h1 (JK (fun a ha=>by obtain⟨x,hx,rfl⟩:=List.mem_map.1 ha;have:=hh x hx;omega) (qG.1 h1).2.1 e2),?_,fun y hy=>?_⟩
   ·rw[h2];unfold Zq;split <;> simp
   ·obtain⟨⟨f,k1,k8,k9⟩,k2,p,hp,k3⟩:=h3 y hy;have:=qjs (Xt hl p hp);rw[<-k3] at this;obtain⟨a1,a2,a3⟩:=this;exact⟨⟨a1,a2,a3,by rw[k1];omega,by rw[k2];simp⟩,zO,k2⟩
theorem qhU {k:K3} {ps:List Stp} {j:Nat} {up:List It} {S:Sto} {e:Int} (h:jo k (ps.take j) up S=.error e):jo k ps up S=.error e:=by have:ps=ps.take j++ps.drop j:=(List.take_append_drop _ _).symm;rw[this,vl,h]
theorem Ga {W C:World} {U E:Nat} {u v u0 v0:Value} {ty1 ty2:TypeId} (hU:W.heap[U]?=some (.cells #[u0] ty1 (0,0))) (hE:W.heap[E]?=some (.cells #[v0] ty2 (0,0))) (aG:U≠E) (hC:C=(W.setCell ⟨U,0,none⟩ u).setCell ⟨E,0,none⟩ v):C.heap[U]?=some (.cells #[u] ty1 (0,0))/\C.heap[E]?=some (.cells #[v] ty2 (0,0))/\(∀ k,k≠U->k≠E->C.heap[k]?=W.heap[k]?)/\C.heap.size=W.heap.size/\KeepsOthers W C/\∀ {B:Nat} {w0:World},B<=U->B<=E->Below B w0 W->Below B w0 C:=by
 subst hC;have hs:=fun (A:World) (b j:Nat) (v:Value) (k:Nat) (hk:k≠b)=>zJ A ⟨b,j,none⟩ v k hk;refine⟨?_,?_,fun k h1 h2=>?_,zA2,(KeepsOthers.setCell _ _ _).trans (KeepsOthers.setCell _ _ _),fun h1 h2 h=>Below.setCell (Below.setCell h (p:=⟨U,0,none⟩) h1 _) (p:=⟨E,0,none⟩) h2 _⟩
 ·rw[hs _ _ _ _ _ aG];exact qi hU 0 u
 ·refine qi (t:=ty2) (cs:=#[v0]) ?_ 0 v;rw[hs _ _ _ _ _ (fun e=>aG e.symm)];exact hE
 ·rw[hs _ _ _ _ _ h2,hs _ _ _ _ _ h1]
def outTw (lo:Nat) (S:Sto):Qd:=⟨(Nat×Nat)×(OA×Nat)×(OA×Nat),fun p=>Qe (some ⟨p.1.1,0,none⟩) S.bs.length S.bs.length (some ⟨p.1.2,0,none⟩) S.ws.length (S.ws.length+1) p.2.1.1 S.now.length p.2.1.2 p.2.2.1 S.last.length p.2.2.2,fun p W=>QM lo S (Qe (some ⟨p.1.1,0,none⟩) S.bs.length S.bs.length (some ⟨p.1.2,0,none⟩) S.ws.length (S.ws.length+1) p.2.1.1 S.now.length p.2.1.2 p.2.2.1 S.last.length p.2.2.2) W⟩
theorem QG (lo:Nat) (S:Sto) (b c:Nat) (A3:OA) (c3:Nat) (A4:OA) (c4:Nat):(outTw lo S).f ((b,c),(A3,c3),(A4,c4))=Qe (some ⟨b,0,none⟩) S.bs.length S.bs.length (some ⟨c,0,none⟩) S.ws.length (S.ws.length+1) A3 S.now.length c3 A4 S.last.length c4:=rfl
structure PutD (q:Except Int (List It×Sto)) (B0 lo b g UB TB D:Nat) (w W:World):Prop where
 ex:∃ (ups:List It) (S':Sto) (k':Option Nat) (D':Nat->Prop) (Au:OA) (cu:Nat) (ax:List (It×Value)),q=.ok (ups,S')/\ql S'=true/\0<ups.length/\ax.map (·.1)=ups /\
  W.heap[UB]?=some (.cells #[.slice Au ups.length cu] 55 (0,0))/\W.ownsRow 0 51 5 (.slice Au ups.length cu) ups.length (Qa ax)/\Bch D' B0 lo b g k' S' W/\∀ y∈ups,(y.r=0\/8<=y.r)/\y.r<256
 r2:W.heap[B0+2]?=some (.cells #[.slice none 0 0,.slice none 0 0,.slice none 0 0,.slice none 0 0] 28 (0,0))
 r3:W.heap[B0+3]?=some (.cells #[.int .i64 0] 3 (0,0))
 r4:W.heap[B0+4]?=some (.cells #[.int .i64 0] 37 (0,0))
 rT:W.heap[TB]?=some (.cells #[.pointer (some ⟨b,0,none⟩)] 92 (0,0))
 hK:W.heap[D]?=some (.deferred (some []))
 below:Below B0 w W
theorem Bch.kept {D:Nat->Prop} {B lo b g:Nat} {k:Option Nat} {S:Sto} {w W:World} (h:Bch D B lo b g k S w) (hB:Below B w W) (hr:∀ q,lo<=q->q<w.heap.size->W.heap[q]?=w.heap[q]?):Bch D B lo b g k S W:=
 h.keep hB fun q hq=>hq.elim (fun h2=>hr q (h.b3 q h2).1 (h.b3 q h2).2) fun h2=>hr q (h.dB q h2).1 (h.dB q h2).2.1
def qbe (lo n:Nat) (us:List Value):Qd:=⟨OA×Nat,fun p=>.slice p.1 n p.2,fun p W=>W.ownsRow lo 51 5 (.slice p.1 n p.2) n us⟩
theorem Qx (lo n:Nat) (us:List Value) (A c):(qbe lo n us).f (A,c)=.slice A n c:=rfl
theorem qbX (lo n:Nat) (us:List Value):∀ p,qL qj ((qbe lo n us).φ p):=fun p W W' he h=>by have he:Ext W W':=he;have h:W.ownsRow lo 51 5 (.slice p.1 n p.2) n us:=h;exact Zx h fun q hq=>Below.block he q (QP h q hq).2
def Yt (S:Sto):Except Int (Nat×Sto):=if ql S=true then Zz S 0 [] else .error 8
def MadeQ (lo:Nat) (q:Except Int (Nat×Sto)) (u:Value) (W:World):Prop:=match q with
 | .error e=>u=.tuple #[Qe none 0 0 none 0 0 none 0 0 none 0 0,.int .i64 0,.int .i64 e]
 | .ok (r,S')=>∃ v,u=.tuple #[v,.int .i64 (r:Int),.int .i64 0]/\QM lo S' v W
theorem kM.nil (X:Nat->Prop) (w:World):kM X w (.slice none 0 0) []:=fun C _=>Its.nil C _
theorem UH {S S':Sto} {r:Nat} (h:Yt S=.ok (r,S')):ql S=true/\Zz S 0 []=.ok (r,S')/\ql S'=true/\8<=r/\r<256:=by
 unfold Yt at h;split at h
 ·rename_i hS;obtain⟨h1,h2,h3,_⟩:=KL (fun x hx=>by cases hx) hS h;exact⟨hS,h,h1,h2,h3⟩
 ·cases h
theorem Gs {R:Ending->World->Prop} {a:Act} {W:World} {b:Nat} {x0 x1 x2 x3 u v:Value} (h4:a.tmps[4]?.getD undef=.pointer (some ⟨b,0,none⟩)) (h5:a.tmps[5]?.getD undef=u) (h6:a.tmps[6]?.getD undef=v) (hd:a.defers=[]) (aF:W.heap[b]?=some (.cells #[x0,x1,x2,x3] 28 (0,0))) (hR:R (.returned (.tuple #[.agg #[x0,x1,x2,x3],u,v])) W):bodyPost prog Tryz.f155 R .ret a W:=by
 refine bodyPost_ret (v:=.tuple #[.agg #[x0,x1,x2,x3],u,v]) ?_ hd hR;have k:=qa aF;simp[results,results155,go_sem,h4,h5,h6,k]
theorem qgF {R:Ending->World->Prop} {a:Act} {W:World} {b:Nat} {x0 x1 x2 x3 u v:Value} (h4:a.tmps[2]?.getD undef=.pointer (some ⟨b,0,none⟩)) (h5:a.tmps[3]?.getD undef=u) (h6:a.tmps[4]?.getD undef=v) (hd:a.defers=[]) (aF:W.heap[b]?=some (.cells #[x0,x1,x2,x3] 28 (0,0))) (hR:R (.returned (.tuple #[.agg #[x0,x1,x2,x3],u,v])) W):bodyPost prog Tryz.f102 R .ret a W:=by
 refine bodyPost_ret (v:=.tuple #[.agg #[x0,x1,x2,x3],u,v]) ?_ hd hR;have k:=qa aF;simp[results,results102,go_sem,h4,h5,h6,k]
set_option maxRecDepth 100000 in
theorem qki (A1 n1 c1 A2 n2 c2 A3 n3 c3 A4 n4 c4) (S:Sto) (w:World) (h:qV w w.heap.size (.slice A1 n1 c1) (.slice A2 n2 c2) (.slice A3 n3 c3) (.slice A4 n4 c4) S):Calls prog 155 #[Qe A1 n1 c1 A2 n2 c2 A3 n3 c3 A4 n4 c4,jP 0 none 0 0] w (Zg (MadeQ w.heap.size (Yt S)) w):=by
 have HC:=zH (fun W (hW:Ext w W)=>JN A1 n1 c1 A2 n2 c2 A3 n3 c3 A4 n4 c4 S W (h.ext hW));have HN:=zH (fun W=>VY 0 none 0 0 [] W (Its.nil W W.heap.size));rw[show Qf 0 []=true from rfl,show JQ true=0 from rfl] at HN;have HO:=zH (fun (hS:ql S=true) W (hW:Ext w W)=>qeB A1 n1 c1 A2 n2 c2 A3 n3 c3 A4 n4 c4 S (by have:=(Qc hS).2.2.1;omega) W (h.ext hW));replace h:=zH h;go_enter func155,ntmps155;go_wp2_with fail;generalize aA:World.alloc (World.alloc (World.alloc _ _) _) _=w1;have x1:Ext w w1:=by rw[<-aA];exact((zN _ _).trans (zN _ _)).trans (zN _ _)
 have r1:w1.heap[w.heap.size]?=some (.cells #[.slice A1 n1 c1,.slice A2 n2 c2,.slice A3 n3 c3,.slice A4 n4 c4] 28 (0,0)):=by rw[<-aA];exact(zK _ _ _ zA1).trans ((zK _ _ _ zA2).trans (zI _ _ _ rfl))
 have p1:w1.heap[w.heap.size+1]?=some (.cells #[.int .i64 0,.slice none 0 0] 113 (0,0)):=by rw[<-aA];exact(zK _ _ _ zA2).trans (zI _ _ _ zA2)
 have q1:w1.heap[w.heap.size+1+1]?=some (.cells #[.slice none 0 0,.slice none 0 0,.slice none 0 0,.slice none 0 0] 28 (0,0)):=by rw[<-aA];exact zI _ _ _ zA2
 clear aA;refine(HC.out w1 x1).mono ?_;rintro e w2 ⟨rfl,hB⟩;have x2:Ext w w2:=x1.trans hB;have r2:=qb r1 hB;have p2:=qb p1 hB;have q2:=qb q1 hB;have kp:=qa p2;have kq:=qa q2;have fq:=qe q2;have zq2:w.heap.size+1+1<w2.heap.size:=(zG.1 q2).1;clear r1 p1 q1 x1 hB HC;rcases hS:ql S with _|_
 ·have hq:=zH (show Yt S=.error 8 by unfold Yt;rw[hS];rfl);rw[JE rfl];replace hS:=zH hS;go_wp2_with fail;exact Gs (b:=w.heap.size+2) rfl rfl rfl rfl (VC q2 _ _ _ _) ⟨_,rfl,by rw[hq.out];rfl,Zl x2 zO _ _ _ _⟩
 ·have hq:=zH (show Yt S=Zz S 0 [] by unfold Yt;rw[if_pos hS]);rw[vj rfl];have HOS:=zH (HO.out hS);replace hS:=zH hS;clear HO;go_wp2_with fail;refine(HN.out w2).mono ?_;rintro e w3 ⟨rfl,hB⟩;have x3:Ext w w3:=x2.trans hB;have r3:=qb r2 hB;have p3:=qb p2 hB;have q3:=qb q2 hB;have kr:=qa r3;clear r2 p2 q2 x2 hB HN kp kq fq zq2;go_wp2_with fail;refine(HOS.out w3 x3).mono ?_;rintro e w4 ⟨u,rfl,⟨b,P3,d3,rfl,aQ,aF,aB⟩,hB⟩;have bT:Ext w3 w4:=hB;have x4:Ext w w4:=x3.trans bT;have p4:=qb p3 bT;have q4:=qb q3 bT;have kp:=qa p4;have z3:=x3.size;obtain⟨g,gy⟩:=Bch.of_on (B:=w.heap.size) z3 hS.out (h.out.below x4) aQ aF aB;have HM:=zH (qdh (fun _=>False) w.heap.size w3.heap.size b g none S 0 none 0 0 [] (fun x hx=>by cases hx) (Qc hS.out).2.1 w4 gy (kM.nil _ _));replace gy:=zH gy;clear hB aF aB r3 p3 q3 kr HOS;go_wp2_with fail;refine HM.out.mono ?_;clear HM;rintro e w5 ⟨dU,aP⟩;have nB:∀ {q cs ty fr},w4.heap[q]?=some (.cells cs ty fr)->ty≠223->ty≠5->ty≠142->¬B3 b g none q:=fun hr h1 h2 h3=>gy.out.notB3 hr h1 h2 h3;have q5:=dU.row q4 (nB q4 zD zD zD);have x5:Below w.heap.size w w5:=Below.trans (B:=w.heap.size) x4 (Below.mono dU.below z3);have kq:=qa q5;have fq:=qe q5;have zq5:w.heap.size+1+1<w5.heap.size:=(zG.1 q5).1;clear nB dU kp p4 q4;rcases hmx:Zz S 0 [] with er|⟨f,S'⟩
  ·rw[hmx] at aP;obtain rfl:=aP;have hne0:(er != 0)=true:=by rw[bne_iff_ne];exact XM hmx
   replace hmx:=zH hmx;go_wp2_with fail;exact Gs (b:=w.heap.size+2) rfl rfl rfl rfl (VC q5 _ _ _ _) ⟨_,rfl,by rw[hq.out,hmx.out];rfl,Zl x5 zO _ _ _ _⟩
  ·rw[hmx] at aP;obtain⟨rfl,k',D',hNk,hND,bg⟩:=aP;have dw:GZ S':=QV (KL (fun x hx=>by cases hx) hS.out hmx).1;obtain⟨E1,m1,e1,E2,m2,e2,e3,E4,e4,hrb,hsb⟩:=bg.sto;have HT:=zH (Yc b E1 m1 e1 E2 m2 e2 (some ⟨g,0,none⟩) 256 e3 E4 256 e4 S' dw w5 hrb hsb);replace hmx:=zH hmx;clear bg hrb hsb dw kq fq hNk hND;go_wp2_with fail;refine HT.out.mono ?_;rintro e w6 ⟨u,rfl,hT,hB⟩;have bz:Ext w5 w6:=hB;have x6:Below w.heap.size w w6:=x5.trans (Below.mono bz x5.size);have q6:=qb q5 bz;have kq:=qa q6;have fq:=qe q6;obtain⟨BB,WW,gg,B3,d3',B4,d4,rfl,-⟩:=id hT;replace hT:=zH hT;clear HT hB q5;go_wp2_with fail;refine Gs (b:=w.heap.size+2) rfl rfl rfl rfl (VC q6 _ _ _ _) ⟨_,rfl,?_,Zl x6 zO _ _ _ _⟩;rw[hq.out,hmx.out];exact⟨_,rfl,QM.set4 hT.out zO zO _ _ _ _⟩
set_option maxRecDepth 100000 in
theorem pnew_any (A1 n1 c1 A2 n2 c2 A3 n3 c3 A4 n4 c4) (S:Sto) (w:World) (h:qV w w.heap.size (.slice A1 n1 c1) (.slice A2 n2 c2) (.slice A3 n3 c3) (.slice A4 n4 c4) S):Calls prog 102 #[Qe A1 n1 c1 A2 n2 c2 A3 n3 c3 A4 n4 c4] w (Zg (MadeQ w.heap.size (Yt S)) w):=by
 have HM:=zH (fun W (hW:Ext w W)=>qki A1 n1 c1 A2 n2 c2 A3 n3 c3 A4 n4 c4 S W (h.ext hW));clear h;go_enter func102,ntmps102;go_wp2_with fail;generalize aA:World.alloc (World.alloc _ _) _=w1;have x1:Ext w w1:=by rw[<-aA];exact(zN _ _).trans (zN _ _)
 have q1:w1.heap[w.heap.size+1]?=some (.cells #[.slice none 0 0,.slice none 0 0,.slice none 0 0,.slice none 0 0] 28 (0,0)):=by rw[<-aA];exact zI _ _ _ zA2
 clear aA;refine(HM.out w1 x1).mono ?_;clear HM;rintro e w6 ⟨u,rfl,hu,hB⟩;have bz:Ext w1 w6:=hB;have x6:Below w.heap.size w w6:=x1.trans bz;have q6:=qb q1 bz;have kq:=qa q6;have fq:=qe q6;have z1:=(zG.1 q1).1;rcases hq:Yt S with er|⟨r,S'⟩
 ·rw[hq] at hu;obtain rfl:u=_:=hu;replace hq:=zH hq;clear hB q1;go_wp2_with fail;exact qgF (b:=w.heap.size+1) rfl rfl rfl rfl (VC q6 _ _ _ _) ⟨_,rfl,by rw[hq.out];rfl,Zl x6 zO _ _ _ _⟩
 ·rw[hq] at hu;obtain⟨v,rfl,hT⟩:=hu;obtain⟨BB,WW,gg,B3,d3',B4,d4,rfl,-⟩:=id hT;replace hT:=zH hT;replace hq:=zH hq;clear hB q1;go_wp2_with fail;refine qgF (b:=w.heap.size+1) rfl rfl rfl rfl (VC q6 _ _ _ _) ⟨_,rfl,?_,Zl x6 zO _ _ _ _⟩;rw[hq.out];exact⟨_,rfl,QM.set4 hT.out zO zO _ _ _ _⟩
theorem qkZ (S:Sto) (a:Nat) (data:List UInt8):Ji (JV S a data) a=data:=by
 have h:jv (S.ws++[((a:Int),data)]) (a:Int)=some data:=by unfold jv;rw[List.reverse_append,List.reverse_singleton,List.singleton_append,List.find?_cons];simp
 unfold Ji JV;simp only;rw[h]
theorem qgx {S:Sto} {a:Nat} (ha:a<S.now.length) (data:List UInt8):qt (JV S a data) a=QI data:=by
 unfold qt;rw[qkZ];have:(JV S a data).now[a]?=some 1:=by show (S.now.set a 1)[a]?=some 1;rw[List.getElem?_set_self ha]
 rw[this];rfl
theorem qhK:QI (Ze (Qu 0 []))=some (0,[]):=by decide +kernel
theorem new_node {S S':Sto} {r:Nat} (h:Yt S=.ok (r,S')):qt S' r=some (0,[]):=by obtain⟨hS,hm,_,h8,h256⟩:=UH h;obtain⟨t,_,_,_,_,_,_,rfl,ht⟩:=UE hS hm;rw[qgx (by show r<t.length;rw[YE ht];exact h256),qhK]
theorem new_tree {S S':Sto} {r:Nat} (h:Yt S=.ok (r,S')):okL S' (-1) (r:Int)=true:=by obtain⟨_,_,_,h8,h256⟩:=UH h;unfold okL;rw[if_pos zO,Int.toNat_natCast,new_node h];rfl
end Go.Proofs.YtmeadnlmepcmbaaGreat
