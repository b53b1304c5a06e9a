/- Lemmas of the proof. -/
import Derived.Laws.EntriesVeiled
import Derived.WalkMore
import Derived.Test.YtmeadnlmepcmbaaGreatZN08
set_option linter.all false
set_option maxHeartbeats 8000000
open Go.Proofs.Tryz
namespace Go.Proofs.YtmeadnlmepcmbaaGreat
open Go.RowKit
abbrev sp7 (f l:K3) (b:Bool):Array Value:=#[.int .u8 f.1,.int .u32 f.2.1,.int .u32 f.2.2,.int .u8 l.1,.int .u32 l.2.1,.int .u32 l.2.2,.bool b]
theorem set7 {cs:Array Value} (hs:cs.size=7) (x0 x1 x2 x3 x4 x5 x6:Value) : ((((((cs.setIfInBounds 0 x0).setIfInBounds 1 x1).setIfInBounds 2 x2).setIfInBounds 3 x3).setIfInBounds 4 x4).setIfInBounds 5 x5).setIfInBounds 6 x6=#[x0,x1,x2,x3,x4,x5,x6]:=by
 apply Array.ext_getElem?;intro j;by_cases hj:j<7
 ·have:j=0\/j=1\/j=2\/j=3\/j=4\/j=5\/j=6:=zO;rcases this with rfl|rfl|rfl|rfl|rfl|rfl|rfl <;> simp[hs]
 ·rw[Array.getElem?_eq_none zA1,Array.getElem?_eq_none zA1]
theorem row7 {w:World} {b:Nat} {ty:TypeId} {cs:Array Value} (h:w.heap[b]?=some (.cells cs ty (0,0))) (hs:cs.size=7) (x0 x1 x2 x3 x4 x5 x6:Value) : (((((((w.setCell ⟨b,0,none⟩ x0).setCell ⟨b,1,none⟩ x1).setCell ⟨b,2,none⟩ x2).setCell ⟨b,3,none⟩ x3).setCell ⟨b,4,none⟩ x4).setCell ⟨b,5,none⟩ x5).setCell ⟨b,6,none⟩ x6).heap[b]?=some (.cells #[x0,x1,x2,x3,x4,x5,x6] ty (0,0)):=by
 have:=qi (qi (qi (qi (qi (qi (qi h 0 x0) 1 x1) 2 x2) 3 x3) 4 x4) 5 x5) 6 x6;rw[this,set7 hs]
theorem qeo {w0 w:World} {B b:Nat} (h:Below B w0 w) (hb:B<=b) (x0 x1 x2 x3 x4 x5 x6:Value):Below B w0 (((((((w.setCell ⟨b,0,none⟩ x0).setCell ⟨b,1,none⟩ x1).setCell ⟨b,2,none⟩ x2).setCell ⟨b,3,none⟩ x3).setCell ⟨b,4,none⟩ x4).setCell ⟨b,5,none⟩ x5).setCell ⟨b,6,none⟩ x6):=
 Below.setCell (Below.setCell (Below.setCell (Below.setCell (Below.setCell (Below.setCell (Below.setCell h (p:=⟨b,0,none⟩) hb _) (p:=⟨b,1,none⟩) hb _) (p:=⟨b,2,none⟩) hb _) (p:=⟨b,3,none⟩) hb _) (p:=⟨b,4,none⟩) hb _) (p:=⟨b,5,none⟩) hb _) (p:=⟨b,6,none⟩) hb _
theorem qiq {S:Sto} {h:Nat} {xs:List It} (hs:(qG S h xs).isSome=true) {k:Nat} (hk:k<xs.length) : ∃ l,jv S h xs[k]=some (qt xs[k],l)/\∀ f0 l0,(0<k->qG S h (xs.take k)=some (some (f0,l0)))->(0<k->Qh l0 (qt xs[k])=true)/\qG S h (xs.take (k+1))=some (some (if k=0 then qt xs[k] else f0,l)):=by
 have h2:=kD hs (k+1);rw[JR hk] at h2 ⊢;unfold jV at h2 ⊢;rcases hA:qG S h (xs.take k) with _|a
 ·rw[hA] at h2;cases h2
 ·rcases hO:jv S h xs[k] with _|⟨f,l⟩
  ·rw[hA,hO] at h2;cases h2
  ·rw[hA,hO] at h2;simp only at h2;split at h2
   ·rename_i hf;subst hf;refine⟨l,rfl,fun f0 l0 hp=>?_⟩;simp only[if_true];rcases a with _|⟨f1,l1⟩
    ·obtain rfl:k=0:=by
      rcases Nat.eq_zero_or_pos k with h0|h0
      ·exact h0
      ·exact absurd hA (ZG h0 zO)
     exact⟨fun h=>absurd h (Nat.lt_irrefl 0),rfl⟩
    ·have h0:0<k:=by
      rcases Nat.eq_zero_or_pos k with h0|h0
      ·subst h0;rw[List.take_zero] at hA;cases hA
      ·exact h0
     have:=hp h0;cases this;simp only at h2;split at h2
     ·rename_i hl;exact⟨fun _=>hl,by rw[if_neg zO];simp[hl]⟩
     ·cases h2
   ·cases h2
theorem one_now {S:Sto}:∀ {h:Nat} {y:It},(jv S h y).isSome=true->y.r=0\/0<(S.now[y.r.toNat]?.getD 0).toNat
 |0,y,h=>by
  unfold jv at h;split at h
  ·assumption
  ·cases h
 |h+1,y,hy=>by
  obtain⟨b,e,-,-,xs,hn,-⟩:=ZM hy;refine .inr ?_;rw[e,Int.toNat_natCast];unfold qu at hn;split at hn
  ·cases hn
  ·omega
structure FEnv (S:Sto) (bS bB bW bb:Nat) (v1 v2 v3 v4 u1 u2 u3 u4:Value) (w:World):Prop where
 s:w.heap[bS]?=some (.cells #[v1,v2,v3,v4] 28 (0,0))
 b:w.heap[bB]?=some (.cells #[.pointer (some ⟨bb,0,none⟩)] 92 (0,0))
 f:w.heap[bW]?=some (.cells #[.func (.func 173) #[] #[.pointer (some ⟨bS,0,none⟩),.pointer (some ⟨bB,0,none⟩),.pointer (some ⟨bW,0,none⟩)]] 240 (0,0))
 n:Bys w w.heap.size v3 S.now
 on:OnB 0 bb u1 u2 u3 u4 S w
theorem OnB.ext {lo b:Nat} {v1 v2 v3 v4:Value} {S:Sto} {w W:World} (h:OnB lo b v1 v2 v3 v4 S w) (hx:Ext w W):OnB lo b v1 v2 v3 v4 S W:=⟨h.1,qb h.2.1 hx,h.2.2.ext hx⟩
theorem FEnv.ext {S:Sto} {bS bB bW bb:Nat} {v1 v2 v3 v4 u1 u2 u3 u4:Value} {w W:World} (h:FEnv S bS bB bW bb v1 v2 v3 v4 u1 u2 u3 u4 w) (hx:Ext w W):FEnv S bS bB bW bb v1 v2 v3 v4 u1 u2 u3 u4 W:=
 ⟨qb h.s hx,qb h.b hx,qb h.f hx,(h.n.below hx).more hx.size,h.on.ext hx⟩
structure WkI (S:Sto) (h:Nat) (xs:List It) (A:OA) (c:Nat) (w wr:World) (k:Nat) (fk lk:K3) (b:Bool):Prop where
 rn:wr.heap[w.heap.size]?=some (.cells #[.int .i64 h,.slice A xs.length c] 113 (0,0))
 rr:wr.heap[w.heap.size+1]?=some (.cells (sp7 (0,0,0) (0,0,0) false) 242 (0,0))
 rx:wr.heap[w.heap.size+2]?=some (.cells (sp7 fk lk b) 242 (0,0))
 sp:0<k->qG S h (xs.take k)=some (some (fk,lk))/\b=true
 xt:Ext w wr
theorem WkI.ext {S:Sto} {h:Nat} {xs:List It} {A:OA} {c:Nat} {w wr W:World} {k:Nat} {fk lk:K3} {b:Bool} (H:WkI S h xs A c w wr k fk lk b) (hx:Ext wr W):WkI S h xs A c w W k fk lk b:=
 ⟨qb H.rn hx,qb H.rr hx,qb H.rx hx,H.sp,H.xt.trans hx⟩
theorem WkI.low {S:Sto} {h:Nat} {xs:List It} {A:OA} {c:Nat} {w wr W:World} {k:Nat} {fk lk:K3} {b:Bool} {q:Nat} (H:WkI S h xs A c w wr k fk lk b) (hx:Below q wr W) (hq:w.heap.size+2<q):WkI S h xs A c w W k fk lk b:=
 ⟨(hx.block _ zO).trans H.rn,(hx.block _ zO).trans H.rr,(hx.block _ zO).trans H.rx,H.sp,Below.trans H.xt (Below.mono hx zO)⟩
theorem WkI.set {S:Sto} {h:Nat} {xs:List It} {A:OA} {c:Nat} {w wr W:World} {k:Nat} {fk lk fk' lk':K3} {b:Bool} (H:WkI S h xs A c w wr k fk lk b) (hb:∀ j,j≠w.heap.size+1+1->W.heap[j]?=wr.heap[j]?) (hB:Below w.heap.size w W) (hx:W.heap[w.heap.size+1+1]?=some (.cells (sp7 fk' lk' true) 242 (0,0))) (hs:qG S h (xs.take (k+1))=some (some (fk',lk'))):WkI S h xs A c w W (k+1) fk' lk' true:=
 ⟨(hb _ zO).trans H.rn,(hb _ zO).trans H.rr,hx,fun _=>⟨hs,rfl⟩,hB⟩
theorem WkI.set7 {S:Sto} {h:Nat} {xs:List It} {A:OA} {c:Nat} {w wr:World} {k:Nat} {fk lk fk' lk':K3} {b:Bool} (H:WkI S h xs A c w wr k fk lk b) (hs:qG S h (xs.take (k+1))=some (some (fk',lk'))):WkI S h xs A c w (((((((wr.setCell ⟨w.heap.size+1+1,0,none⟩ (.int .u8 fk'.1)).setCell ⟨w.heap.size+1+1,1,none⟩ (.int .u32 fk'.2.1)).setCell ⟨w.heap.size+1+1,2,none⟩ (.int .u32 fk'.2.2)).setCell ⟨w.heap.size+1+1,3,none⟩ (.int .u8 lk'.1)).setCell ⟨w.heap.size+1+1,4,none⟩ (.int .u32 lk'.2.1)).setCell ⟨w.heap.size+1+1,5,none⟩ (.int .u32 lk'.2.2)).setCell ⟨w.heap.size+1+1,6,none⟩ (.bool true)) (k+1) fk' lk' true:=
 H.set (fun j hj=>(zJ _ _ _ _ hj).trans ((zJ _ _ _ _ hj).trans ((zJ _ _ _ _ hj).trans ((zJ _ _ _ _ hj).trans ((zJ _ _ _ _ hj).trans ((zJ _ _ _ _ hj).trans (zJ _ _ _ _ hj)))))))
  (qeo H.xt zO _ _ _ _ _ _ _) (row7 H.rx rfl _ _ _ _ _ _ _) hs
theorem WkI.set4 {S:Sto} {h:Nat} {xs:List It} {A:OA} {c:Nat} {w wr:World} {k:Nat} {fk lk lk':K3} {b:Bool} (H:WkI S h xs A c w wr k fk lk b) (hs:qG S h (xs.take (k+1))=some (some (fk,lk'))):WkI S h xs A c w ((((wr.setCell ⟨w.heap.size+1+1,3,none⟩ (.int .u8 lk'.1)).setCell ⟨w.heap.size+1+1,4,none⟩ (.int .u32 lk'.2.1)).setCell ⟨w.heap.size+1+1,5,none⟩ (.int .u32 lk'.2.2)).setCell ⟨w.heap.size+1+1,6,none⟩ (.bool true)) (k+1) fk lk' true:=
 H.set (fun j hj=>(zJ _ _ _ _ hj).trans ((zJ _ _ _ _ hj).trans ((zJ _ _ _ _ hj).trans (zJ _ _ _ _ hj))))
  (Below.setCell (Below.setCell (Below.setCell (Below.setCell H.xt (p:=⟨w.heap.size+1+1,3,none⟩) zA1 _) (p:=⟨w.heap.size+1+1,4,none⟩) zA1 _) (p:=⟨w.heap.size+1+1,5,none⟩) zA1 _) (p:=⟨w.heap.size+1+1,6,none⟩) zA1 _)
  (qi (qi (qi (qi H.rx 3 _) 4 _) 5 _) 6 _) hs
theorem one_span {S:Sto} {h:Nat} {y:It} {p:K3×K3} (e:jv S (h+1) y=some p):∃ (b:Nat) (ys:List It),y.r=(b:Int)/\8<=b/\b<256/\qu S b=some ((h:Int),ys)/\qG S h ys=some (some p):=by
 obtain⟨b,hb,h1,h2,ys,hn,-⟩:=ZM (by rw[e];rfl:(jv S (h+1) y).isSome=true);refine⟨b,ys,hb,h1,h2,hn,?_⟩;rw[JV] at e;unfold vI at e;rw[if_pos zO,hb,Int.toNat_natCast,hn] at e;simp only[if_true] at e;rcases hs:qG S h ys with _|_|q
 ·rw[hs] at e;cases e
 ·rw[hs] at e;cases e
 ·rw[hs] at e;cases e;rfl
def WalkC (S:Sto) (bS bB bW bb:Nat) (v1 v2 v3 v4 u1 u2 u3 u4:Value) (h:Nat):Prop:=
 ∀ (xs:List It) (A:OA) (c:Nat) (f l:K3) (lo:Nat) (w:World),FEnv S bS bB bW bb v1 v2 v3 v4 u1 u2 u3 u4 w->h<=5->xs.length<=5->(∀ x∈xs,0<=x.r/\x.r<256)->je lo w (.slice A xs.length c) xs->qG S h xs=some (some (f,l)) ->
  Calls prog 173 #[jU h A xs.length c,.pointer (some ⟨bS,0,none⟩),.pointer (some ⟨bB,0,none⟩),.pointer (some ⟨bW,0,none⟩)] w (Ret (.agg (sp7 f l true)) w)
theorem qfD {w:World} {B b o n c:Nat} {l:List UInt8} (h:Bys w B (.slice (some ⟨b,o,none⟩) n c) l) {a:Nat} (ha:a<l.length):w.cell? ⟨b,o+a,none⟩=some (.int .u8 ((l[a]?.getD 0).toNat:Int)):=by obtain⟨A',c',e,_,_,hr⟩:=h;rw[Value.slice.injEq] at e;obtain⟨rfl,_,rfl⟩:=e;obtain⟨b',off',e,_,hc⟩:=hr.2 zO;simp only[Option.some.injEq,Addr.mk.injEq,and_true] at e;obtain⟨rfl,rfl⟩:=e;exact hc a _ (by rw[List.getElem?_map,zL zO];rfl)
theorem qgz {S:Sto} (hS:ql S=true) {w:World} {B:Nat} {v:Value} (h:Bys w B v S.now):∃ b3 o3 c3,v=.slice (some ⟨b3,o3,none⟩) 256 c3/\256<=c3/\c3<=maxLen:=by obtain⟨-,-,hl3,-⟩:=qX hS;have hn:=h;obtain⟨A3,c3,e3,-⟩:=h;rw[e3] at hn;obtain⟨_,hc3,hm3,hA3⟩:=hn.at_;obtain⟨b3,o3,rfl,_⟩:=hA3 zO;rw[hl3] at e3 hc3;exact⟨b3,o3,c3,e3,hc3,hm3⟩
theorem qjW {R:Ending->World->Prop} {a:Act} {W:World} {b:Nat} {f l:K3} {bo:Bool} (h4:a.tmps[5]?.getD undef=.pointer (some ⟨b,0,none⟩)) (hd:a.defers=[]) (hCA:W.heap[b]?=some (.cells (sp7 f l bo) 242 (0,0))) (hR:R (.returned (.agg (sp7 f l bo))) W):bodyPost prog Tryz.f173 R .ret a W:=by
 refine bodyPost_ret (v:=.agg (sp7 f l bo)) ?_ hd hR;have k:=qa hCA;simp[results,results173,go_sem,h4,k]
set_option maxRecDepth 100000 in
theorem qhk (S:Sto) (hS:ql S=true) (bS bB bW bb:Nat) (v1 v2 v3 v4:Value) (A1:OA) (n1 c1:Nat) (A2:OA) (n2 c2:Nat) (A3:OA) (n3 c3:Nat) (A4:OA) (n4 c4:Nat) (h:Nat) (HW:∀ h':Nat,h=h'+1->WalkC S bS bB bW bb v1 v2 v3 v4 (.slice A1 n1 c1) (.slice A2 n2 c2) (.slice A3 n3 c3) (.slice A4 n4 c4) h'):WalkC S bS bB bW bb v1 v2 v3 v4 (.slice A1 n1 c1) (.slice A2 n2 c2) (.slice A3 n3 c3) (.slice A4 n4 c4) h:=by
 intro xs A c f l lo w hE hh5 hlen hxr hCL hsp;obtain⟨b3,o3,d3,e3,hd3,hm3⟩:=qgz hS hE.n;subst e3;have wSY:S.now.length=256:=(qX hS).2.2.1;obtain⟨-,hc1,hc2,hA⟩:=hCL.its.at_;have hss:(qG S h xs).isSome=true:=by rw[hsp];rfl
 replace hCL:=zH hCL;have HG:=zH (fun k hk=>qiq hss (k:=k) hk);have HN:=zH (fun y hy=>one_now (ZP hss y hy));have HT:=zH (fun h' (e:h=h'+1) y (hy:y∈xs)=>ZM (S:=S) (h:=h') (y:=y) (by have:=ZP hss y hy;rw[e] at this;exact this));replace hsp:=zH hsp;replace hss:=zH hss;replace hE:=zH hE;replace hxr:=zH hxr;replace hh5:=zH hh5;replace wSY:=zH wSY;replace hS:=zH hS;go_enter func173,ntmps173;go_wp2;generalize hw1:(World.alloc (World.alloc _ _) _)=w1;have x1:Ext w w1:=by rw[<-hw1];exact((zN _ _).trans (zN _ _)).trans (zN _ _)
 have H1:WkI S h xs A c w w1 0 (0,0,0) (0,0,0) false:=by
  refine⟨?_,?_,?_,fun h0=>absurd h0 (Nat.lt_irrefl 0),x1⟩
  ·rw[<-hw1];exact(zK _ _ _ zA1).trans ((zK _ _ _ zA2).trans (zI _ _ _ rfl))
  ·rw[<-hw1];exact(zK _ _ _ zA2).trans (zI _ _ _ zA2)
  ·rw[<-hw1];exact zI _ _ _ zA2
 clear hw1 x1;replace H1:=zH H1;go_loopw [15] (fun i wr=>∃ (k:Nat) (fk lk:K3) (b:Bool),k<=xs.length/\i=.int .i64 (k:Int)/\WkI S h xs A c w wr k fk lk b) (fun i _=>xs.length-(intOf i).toNat)
 case atStart=>exact⟨0,_,_,_,zO,rfl,H1.out⟩
 case round =>
  obtain⟨k,fk,lk,bk,hk,rfl,HR⟩:=hrel;clear H1;have xr:=HR.xt;have rnr:=HR.rn;have rxr:=HR.rx;have rrr:=HR.rr;have z2:w.heap.size+2<wr.heap.size:=(zG.1 rxr).1;by_cases hlt:k<xs.length
  ·have hCJ:=hlt;obtain⟨b,off,rfl,hb⟩:=hA zO;obtain⟨A',c',d0,d1,d2,d3',d4,-⟩:=(hCL.out.ext xr).its.item k hCJ;have hxk:=hxr.out xs[k] (List.getElem_mem hCJ);have hnk:=HN.out xs[k] (List.getElem_mem hCJ);obtain⟨l1,hone,hgo⟩:=HG.out k hCJ;obtain⟨g1,g2⟩:=hgo fk lk (fun h0=>(HR.sp h0).1);have HTk:=zH (fun h' e=>HT.out h' e xs[k] (List.getElem_mem hCJ));generalize xs[k]=x at *;obtain⟨wTM,wTN⟩:=hxk;obtain⟨r,hr⟩:=Int.eq_ofNat_of_zero_le wTM;rw[hr] at d3' wTN;have hr2:r<256:=zO;rw[hr,Int.toNat_natCast] at hnk;have hfN:=fun W (hx:Ext wr W)=>qfD ((hE.out.ext (xr.trans hx)).n) (a:=r) (by have:=wSY.out;omega);have hnr:(S.now[r]?.getD 0).toNat=(S.now[r]?.getD 0).toNat:=rfl;generalize hnv:(S.now[r]?.getD 0).toNat=nv at *;clear hnr;have hr0:(((r:Int) == 0)=true/\decide (r=0)=true)\/(((r:Int) == 0)=false/\decide (r=0)=false/\decide (0<nv)=true):=by
    rcases Nat.eq_zero_or_pos r with h0|h0
    ·subst h0;exact .inl ⟨zD,zD⟩
    ·exact .inr ⟨by rw[beq_eq_false_iff_ne];omega,decide_eq_false zO,decide_eq_true zO⟩
   replace hr:=zH hr;replace hnv:=zH hnv;replace hone:=zH hone;replace g1:=zH g1;replace g2:=zH g2;replace hnk:=zH hnk;unfold maxLen at hm3;clear wTM wTN hgo;have knr:=qa rnr;have kxr:=qa rxr;replace hfN:=zH hfN;go_wp2_with fail;generalize hwa:(World.alloc _ _)=wa;have xa:Ext wr wa:=by rw[<-hwa];exact zN _ _
   have ra:wa.heap[wr.heap.size]?=some (.cells #[.int .u8 x.k,.int .u32 x.i,.int .u32 x.o,.int .i64 r,.slice A' x.val.length c'] 51 (0,0)):=by rw[<-hwa];exact zI _ _ _ rfl
   clear hwa d0 d1 d2 d3' d4;have Ea:=hE.out.ext (xr.trans xa);have gC:∀ W,qm.r wa W->W.cell? ⟨bS,2,none⟩=some (.slice (some ⟨b3,o3,none⟩) 256 d3):=fun W h=>by rw[qa (qb Ea.s h)];rfl
   have gN:∀ W,qm.r wa W->W.cell? ⟨b3,o3+r,none⟩=some (.int .u8 (nv:Int)):=fun W h=>hfN.out W (xa.trans h);have gI:∀ W,qm.r wa W->∀ i,W.cell? ⟨wr.heap.size,i,none⟩=#[.int .u8 x.k,.int .u32 x.i,.int .u32 x.o,.int .i64 r,.slice A' x.val.length c'][i]?:=fun W h=>qa (qb ra h);clear knr kxr hfN;refine qp zQ ?_;refine ZY (w:=wa) qm (qM [(17,Zy wa.heap.size 242 (sp7 (0,0,0) (0,0,0) false))]) [true,true,true,true,true,true,true,true,true,true,true,true,true,true,true,true,true,true] 1 zQ zQ zQ zQ zQ zQ ?st (Rel.drew _ _) ?walk
   case st=>exact qj (by simp only[List.forall_mem_cons];exact⟨fun p=>Qp (QY _ _ _ p),fun _ h=>by cases h⟩)
   case walk =>
    intro K hK;dsimp only[qw];rcases hr0 with ⟨hq1,hq2⟩|⟨hq1,hq2,hq3⟩
    all_goals
     refine zB5 ?_;try (
      refine qe (.pointer (some ⟨b3,o3+r,none⟩)) zA0 zA0 (fun W hW _=>⟨W,?_,Rel.refl _ W⟩) ?_
      ·go_simp;intro hge;exfalso;omega
      simp only[Act.put,qf,qc,qg,zA,zB,zC])
     refine zB5 ?_;refine qz (Zy wa.heap.size 242 (sp7 (0,0,0) (0,0,0) false)) zA0 zA0 (fun W hW _=>?_) (fun (p8:Nat)=>?_)
     ·refine Zm ?_ (Below.size hW);go_simp
     simp only[Act.put,qf,qc,qg,zA,zB,zC];refine qA (hK _ _ fun W hW hF=>?_);obtain⟨f8,hlo⟩:W.heap[p8]?=some (.cells (sp7 (0,0,0) (0,0,0) false) 242 (0,0))/\wa.heap.size<=p8:=(hF 17).1;clear hF hK gC gN gI;have hW':Ext wa W:=hW;refine zB4 ?_;have k8:=qa f8;have h8:=qd f8;go_wp2;refine Qw ?_;have x5:Ext wa _:=qeo hW' hlo (.int .u8 x.k) (.int .u32 x.i) (.int .u32 x.o) (.int .u8 x.k) (.int .u32 x.i) (.int .u32 x.o) (.bool true);have r8:=row7 f8 rfl (.int .u8 x.k) (.int .u32 x.i) (.int .u32 x.o) (.int .u8 x.k) (.int .u32 x.i) (.int .u32 x.o) (.bool true);generalize hw5:(World.setCell (World.setCell (World.setCell (World.setCell (World.setCell (World.setCell (World.setCell W _ _) _ _) _ _) _ _) _ _) _ _) _ _)=w5 at *;clear hw5 k8 h8 f8 hW hW' hq1 hq2;have H5:=HR.ext (xa.trans x5);have r5:=qb ra x5;have z8:wr.heap.size<p8:=Nat.lt_of_lt_of_le (zG.1 ra).1 hlo;have z8':p8<w5.heap.size:=(zG.1 r8).1;have kn5:=qa H5.rn;rcases Nat.eq_zero_or_pos h with hz|hz
     case' inl =>
      have hd2:decide (0<h)=false:=decide_eq_false zO;have hl1:l1=qt x:=by
       have:=hone.out;rw[hz] at this;unfold jv at this;split at this
       ·cases this;rfl
       ·cases this
      have H7:=H5;replace r8:w5.heap[p8]?=some (.cells (sp7 (qt x) l1 true) 242 (0,0)):=by rw[hl1];exact r8
      replace hz:=zH hz;replace hl1:=zH hl1;replace H5:=zH H5;replace H7:=zH H7;clear rnr rxr rrr;go_upto_region 11 with fail
     case' inr =>
      obtain⟨h',hh⟩:∃ h',h=h'+1:=⟨h-1,zO⟩
      have hc1:(h':Int)=(h:Int)-1:=zO;obtain⟨b',ys,e1,e2,e3,e4,e5⟩:=one_span (by rw[<-hh];exact hone.out);have hrb:r=b':=by have:=hr.out;omega
      subst hrb;have hd2:decide (0<h)=true:=decide_eq_true hz;have hXI:wrap64 ((h:Int)-1)=(h:Int)-1:=IntWalk.wrap64_in _ (by have:=hh5.out;omega);replace hXI:=zH hXI;obtain⟨hm1,hm2,-⟩:=qQ e4;have hyl:ys.length<=5:=by unfold Qn Jq at hm1;simp at hm1;omega
      have hyn:0<ys.length:=by
       rcases Nat.eq_zero_or_pos ys.length with h0|h0
       ·obtain rfl:=List.eq_nil_of_length_eq_zero h0;cases e5
       ·exact h0
      have hHW:=zH (fun W (hx:Ext w5 W) A9 c9 lo9 (hi9:je lo9 W (.slice A9 ys.length c9) ys)=>HW h' hh ys A9 c9 (qt x) l1 lo9 W (hE.out.ext ((xr.trans (xa.trans x5)).trans hx)) (by have:=hh5.out;omega) hyl (fun y hy=>(hm2 y hy).1.2.2.2.1) hi9 e5);have hBN:=zH (Kv 0 bb A1 n1 c1 A2 n2 c2 A3 n3 c3 A4 n4 c4 S hS.out r e2 e3 w5 (hE.out.ext (xr.trans (xa.trans x5))).on);rw[e4] at hBN;have hy1:((ys.length:Int) == 0)=false:=by rw[beq_eq_false_iff_ne];omega
      have kb5:=qa (hE.out.ext (xr.trans (xa.trans x5))).b;have ki5:=qa r5;replace hh:=zH hh;replace hz:=zH hz;replace H5:=zH H5;replace e4:=zH e4;replace e5:=zH e5;replace hc1:=zH hc1;clear rnr rxr rrr hm1 hm2 hyl hyn e1 e2 e3;go_wp2_with fail;refine hBN.out.mono ?_;clear hBN;rintro e w6 ⟨u,rfl,hu,hB6⟩;obtain⟨A9,c9,rfl,wBX⟩:=hu;rw[hc1.out];have H6:=H5.out.ext hB6;have r86:=qb r8 hB6;have r56:=qb r5 hB6;have E6:=hE.out.ext ((xr.trans (xa.trans x5)).trans hB6);have kn6:=qa H6.rn;have kf6:=qa E6.f;have z6:p8<w6.heap.size:=(zG.1 r86).1;have z66:=(zG.1 H6.rn).1;have zf6:=(zG.1 E6.f).1;replace H6:=zH H6;replace E6:=zH E6;replace wBX:=zH wBX;have hw64':=hXI.out;clear r8 r5 ki5 kb5 kn5 x5;go_wp2_with fail;generalize hw7:(World.alloc w6 _)=w7;have x7:Ext w6 w7:=by rw[<-hw7];exact zN _ _
      clear hw7;have hTD:=hHW.out w7 (Ext.trans hB6 x7) A9 c9 _ (wBX.out.ext x7);rw[hc1.out] at hTD;refine hTD.mono ?_;clear hTD hHW;rintro e w8 ⟨rfl,hB8⟩;have x8:Ext w6 w8:=x7.trans hB8;have H8:=H6.out.ext x8;have r88:=qb r86 x8;have r58:=qb r56 x8;have b8:=row7 r88 rfl (.int .u8 (qt x).1) (.int .u32 (qt x).2.1) (.int .u32 (qt x).2.2) (.int .u8 l1.1) (.int .u32 l1.2.1) (.int .u32 l1.2.2) (.bool true);have x9:∀ q≤p8,Below q w8 _:=fun q hq=>qeo (Below.refl q w8) hq (.int .u8 (qt x).1) (.int .u32 (qt x).2.1) (.int .u32 (qt x).2.2) (.int .u8 l1.1) (.int .u32 l1.2.1) (.int .u32 l1.2.2) (.bool true);have f8:=qd r88;have k8:=qa r88;have z8:w.heap.size+2<p8:=zO;clear r86 r56 kn6 kf6;replace hz:=zH hz.out;replace H8:=zH H8;go_upto_region 11 with fail;have H7:=H8.out.low (x9 p8 (zM _)) z8;have r5:=((x9 p8 (zM _)).block wr.heap.size zO).trans r58;clear x9 r88 r58 f8 k8;generalize hw9:(World.setCell (World.setCell (World.setCell (World.setCell (World.setCell (World.setCell (World.setCell w8 _ _) _ _) _ _) _ _) _ _) _ _) _ _)=w9 at *;clear hw9 z8' hB8 x8 hB6 x7 z6 z66 zf6;have r8:w9.heap[p8]?=some (.cells (sp7 (qt x) l1 true) 242 (0,0)):=b8;clear b8;replace H7:=zH H7
     all_goals
      replace HR:=zH HR;clear xa;have kn7:=qa H7.out.rn;have kx7:=qa H7.out.rx;have fx7:=qd H7.out.rx;have k8:=qa r8;have k5:=qa r5;rcases Nat.eq_zero_or_pos k with hk0|hk0
      ·have hk1:decide ((k:Int)>0)=false:=decide_eq_false zO;have hk2:((k:Int) == 0)=true:=by rw[beq_iff_eq];omega
       have hk4:decide (0<k)=false:=decide_eq_false zO;have HN:=g2.out;rw[if_pos hk0] at HN;have HR9:=H7.out.set7 HN;replace HN:=zH HN;replace hk0:=zH hk0;dsimp only[qt] at HR9;replace HR9:=zH HR9;clear hk;go_wp2_with fail;refine⟨⟨k+1,(x.k,x.i,x.o),l1,true,hCJ,rfl,HR9.out⟩,?_⟩;simp[intOf];omega
      ·have hk1:decide ((k:Int)>0)=true:=decide_eq_true zO;have hk2:((k:Int) == 0)=false:=by rw[beq_eq_false_iff_ne];omega
       have hk4:decide (0<k)=true:=decide_eq_true hk0;have HN:=g2.out;rw[if_neg zO] at HN;replace HN:=zH HN;have hls:KC lk.1 lk.2.1 lk.2.2 x.k x.i x.o=true:=g1.out hk0;replace hls:=zH hls;replace hk0:=zH hk0;clear hk;go_wp2_with fail;refine(Xf lk.1 lk.2.1 lk.2.2 x.k x.i x.o _).mono ?_;rintro e wl ⟨rfl,hB⟩;rw[hls.out];have H8':=H7.out.ext hB;have kx8:=qa H8'.rx;have fx8:=qd H8'.rx;have k88:=qa (qb r8 hB);have HR9:=zH (H8'.set4 HN.out);replace H8':=zH H8';clear kn7 kx7 fx7 k8 k5 hB r8 r5;go_wp2_with fail;refine⟨⟨k+1,fk,l1,true,hCJ,rfl,HR9.out⟩,?_⟩;simp[intOf];omega
  ·have hke:k=xs.length:=zO;have hx0:0<xs.length:=by
    rcases Nat.eq_zero_or_pos xs.length with h0|h0
    ·have:=hsp.out;rw[List.eq_nil_of_length_eq_zero h0] at this;cases this
    ·exact h0
   obtain⟨hs1,rfl⟩:=HR.sp zO;rw[hke,List.take_length,hsp.out] at hs1;simp only[Option.some.injEq,Prod.mk.injEq] at hs1;obtain⟨rfl,rfl⟩:=hs1;have kx:=qa rxr;have kr:=qa rrr;have fr:=qd rrr;have rr:=zH rrr;have xrh:=zH xr;replace HR:=zH HR;replace hke:=zH hke;clear rxr rnr rrr xr;go_wp2;exact qjW (b:=w.heap.size+1) rfl rfl (row7 rr.out rfl _ _ _ _ _ _ _) ⟨rfl,qeo xrh.out zO _ _ _ _ _ _ _⟩
theorem qhj (S:Sto) (hS:ql S=true) (bS bB bW bb:Nat) (v1 v2 v3 v4:Value) (A1 n1 c1 A2 n2 c2 A3 n3 c3 A4 n4 c4) : ∀ h:Nat,WalkC S bS bB bW bb v1 v2 v3 v4 (.slice A1 n1 c1) (.slice A2 n2 c2) (.slice A3 n3 c3) (.slice A4 n4 c4) h
 |0=>qhk S hS bS bB bW bb v1 v2 v3 v4 A1 n1 c1 A2 n2 c2 A3 n3 c3 A4 n4 c4 0 fun _ e=>zO
 |h+1=>qhk S hS bS bB bW bb v1 v2 v3 v4 A1 n1 c1 A2 n2 c2 A3 n3 c3 A4 n4 c4 (h+1) fun h' e=>by obtain rfl:h=h':=zO;exact qhj S hS bS bB bW bb v1 v2 v3 v4 A1 n1 c1 A2 n2 c2 A3 n3 c3 A4 n4 c4 h
theorem now_pos {S:Sto} {a:Nat} {q:Int×List It} (h:qu S a=some q):0<(S.now[a]?.getD 0).toNat:=by
 unfold qu at h;split at h
 ·cases h
 ·omega
theorem qjT (f l:K3) (b:Bool) (w:World):(Instr.field 242 (.agg (sp7 f l b)) 2).run prog w=.ok (.bool b) w:=zQ
theorem qbk {R:Ending->World->Prop} {a:Act} {W:World} {u v:Value} (h4:a.tmps[4]?.getD undef=u) (h5:a.tmps[5]?.getD undef=v) (hd:a.defers=[]) (hR:R (.returned (.tuple #[u,v])) W):bodyPost prog Tryz.f125 R .ret a W:=by refine bodyPost_ret (v:=.tuple #[u,v]) ?_ hd hR;simp[results,results125,go_sem,h4,h5]
set_option maxRecDepth 100000 in
theorem qfX (A1 n1 c1 A2 n2 c2 A3 n3 c3 A4 n4 c4) (S:Sto) (hS:ql S=true) (a:Nat) (hT:ZX S a) (w:World) (hst:qZ w w.heap.size (.slice A1 n1 c1) (.slice A2 n2 c2) (.slice A3 n3 c3) (.slice A4 n4 c4) S):Calls prog 125 #[Qk A1 n1 c1 A2 n2 c2 A3 n3 c3 A4 n4 c4,.int .i64 (a:Int)] w (zF (fun u _=>∃ (lvl:Nat) (xs:List It),qu S a=some ((lvl:Int),xs)/\lvl<=5/\u=.tuple #[.int .i64 ((lvl:Int)+1),.int .i64 0]) w):=by
 obtain⟨ha,ha2,lvl,xs,hn,hsp⟩:=hT;have hRF:=now_pos hn;obtain⟨hm1,hm2,-⟩:=qQ hn;have hxl:xs.length<=5:=by unfold Qn Jq at hm1;simp at hm1;omega
 have hll:lvl<=5:=by unfold Qn Jq at hm1;simp at hm1;omega
 have hl3:S.now.length=256:=(qX hS).2.2.1;obtain⟨b3,o3,d3,e3,hd3,hm3⟩:=qgz hS hst.now;simp only[Value.slice.injEq] at e3;obtain⟨rfl,rfl,rfl⟩:=e3;have hBX:=qfD hst.now (a:=a) zO;have HCK:=zH (fun W (hx:Ext w W)=>Ji A1 n1 c1 A2 n2 c2 (some ⟨b3,o3,none⟩) 256 c3 A4 n4 c4 S W (hst.ext hx));have HON:=zH (fun W (hx:Ext w W)=>qij A1 n1 c1 A2 n2 c2 (some ⟨b3,o3,none⟩) 256 c3 A4 n4 c4 S zO W (hst.ext hx));have HST:=zH hst;have ha3:decide ((a:Int)<8)=false:=decide_eq_false zO;have ha5:decide ((a:Int)≥256)=false:=decide_eq_false zO;have ha8:(a:Int)<256:=zO;generalize hnv:(S.now[a]?.getD 0).toNat=nv at *;have hn1:((nv:Int) == 0)=false:=by rw[beq_eq_false_iff_ne];omega
 replace hnv:=zH hnv;replace hm1:=zH hm1;replace hm2:=zH hm2;replace hn:=zH hn;replace hsp:=zH hsp;replace hS:=zH hS;replace hm3:=zH hm3;replace hl3:=zH hl3;have hwr:Hid (wrap64 ((lvl:Int)+1)=(lvl:Int)+1):=zH (IntWalk.wrap64_in _ zO);replace hll:=zH hll;clear hst hRF;go_enter func125,ntmps125;go_wp2_with fail;generalize hw1:(World.alloc _ _)=w1;have x1:Ext w w1:=by rw[<-hw1];exact zN _ _
 have r1:w1.heap[w.heap.size]?=some (.cells #[.slice A1 n1 c1,.slice A2 n2 c2,.slice (some ⟨b3,o3,none⟩) 256 c3,.slice A4 n4 c4] 28 (0,0)):=by rw[<-hw1];exact zI _ _ _ rfl
 clear hw1;refine(HCK.out w1 x1).mono ?_;clear HCK;rintro e w2 ⟨rfl,hB⟩;have x2:Ext w w2:=x1.trans hB;have r2:=qb r1 hB;rw[hS.out,show Jz true=0 from rfl];have k2:=qa r2;have hc2:=Ext.cell x2 hBX;clear r1 hB x1 hBX;go_wp2_with fail;refine(HON.out w2 x2).mono ?_;clear HON;rintro e w3 ⟨u,rfl,⟨bb,A3',c3',rfl,hOn,-⟩,hB⟩;have x3:Ext w w3:=Ext.trans x2 hB;have r3:=qb r2 hB;clear k2 hc2 r2 x2 hB;replace hOn:=zH hOn;go_wp2_with fail;generalize hw4:(World.alloc w3 _)=w4;have x34:Ext w3 w4:=by rw[<-hw4];exact zN _ _
 have rb4:w4.heap[w3.heap.size]?=some (.cells #[.pointer (some ⟨bb,0,none⟩)] 92 (0,0)):=by rw[<-hw4];exact zI _ _ _ rfl
 have rs4:=qb r3 x34;have hOn4:=zH (hOn.out.ext x34);have x4:Ext w w4:=x3.trans x34;clear hw4;have hBN:=Kv 0 bb A1 n1 c1 A2 n2 n2 A3' 256 c3' A4 n4 c4 S hS.out a ha ha2 w4 ⟨Nat.zero_le _,(hOn.out.ext x34).2⟩;rw[hn.out] at hBN;refine hBN.mono ?_;clear hBN;rintro e w5 ⟨u,rfl,⟨A9,c9,rfl,hCL⟩,hB⟩;have hB':Ext w4 w5:=hB;have rs5:=qb rs4 hB';have rb5:=qb rb4 hB';have hOn5:=zH (hOn4.out.ext hB');have x5:Ext w w5:=x4.trans hB';replace hCL:=zH hCL;clear rs4 rb4 hB hB' x34 x4 x3 hOn4 hOn r3;rcases Nat.eq_zero_or_pos xs.length with h0|h0
 ·have hx1:decide ((xs.length:Int)>0)=false:=decide_eq_false zO;have hx2:decide (0<xs.length)=false:=decide_eq_false zO;replace h0:=zH h0;go_wp2_with fail;exact qbk (u:=.int .i64 ((lvl:Int)+1)) (by show Value.int .i64 (wrap64 _)=_;rw[hwr.out]) rfl rfl ⟨_,rfl,⟨lvl,xs,hn.out,hll.out,rfl⟩,x5.trans ((zN _ _).trans (zN _ _))⟩
 ·have hx1:decide ((xs.length:Int)>0)=true:=decide_eq_true zO;have hx2:decide (0<xs.length)=true:=decide_eq_true h0;obtain⟨⟨f,l⟩,hfl⟩:∃ p,qG S lvl xs=some (some p):=by
   rcases hq:qG S lvl xs with _|_|p
   ·have:=hsp.out;rw[hq] at this;cases this
   ·exact absurd (by rw[List.take_length];exact hq) (ZG (S:=S) (h:=lvl) h0 (zM xs.length))
   ·exact⟨p,rfl⟩
  replace h0:=zH h0;replace hfl:=zH hfl;go_wp2_with fail;generalize hw6:(World.alloc (World.alloc w5 _) _)=w6;have x56:Ext w5 w6:=by rw[<-hw6];exact(zN _ _).trans (zN _ _)
  have rf6:w6.heap[w5.heap.size+1]?=some (.cells #[.func (.func 173) #[] #[.pointer (some ⟨w.heap.size,0,none⟩),.pointer (some ⟨w3.heap.size,0,none⟩),.pointer (some ⟨w5.heap.size+1,0,none⟩)]] 240 (0,0)):=by rw[<-hw6];exact zI _ _ _ zA2
  have rn6:w6.heap[w5.heap.size]?=some (.cells #[.int .i64 lvl,.slice A9 xs.length c9] 113 (0,0)):=by rw[<-hw6];exact(zK _ _ _ zA2).trans (zI _ _ _ rfl)
  clear hw6;have x6:Ext w w6:=x5.trans x56;have hTD:=qhj S hS.out w.heap.size w3.heap.size (w5.heap.size+1) bb (.slice A1 n1 c1) (.slice A2 n2 c2) (.slice (some ⟨b3,o3,none⟩) 256 c3) (.slice A4 n4 c4) A1 n1 c1 A2 n2 n2 A3' 256 c3' A4 n4 c4 lvl xs A9 c9 f l _ w6
   ⟨qb rs5 x56,qb rb5 x56,rf6,(HST.out.ext x6).now,⟨Nat.zero_le _,(hOn5.out.ext x56).2⟩⟩ hll.out hxl (fun y hy=>(hm2.out y hy).1.2.2.2.1) (hCL.out.ext x56) hfl.out
  refine hTD.mono ?_;clear hTD;rintro e w7 ⟨rfl,hB⟩;have rn7:=qb rn6 hB;have kn7:=qa rn7;have x7:=zH (x6.trans hB);clear rs5 rb5 rf6 rn6 hB x6 x56 x5;have hfi:=qjT;go_wp2_with fail;exact qbk (u:=.int .i64 ((lvl:Int)+1)) (by show Value.int .i64 (wrap64 _)=_;rw[hwr.out]) rfl rfl ⟨_,rfl,⟨lvl,xs,hn.out,hll.out,rfl⟩,x7.out⟩
theorem TD (A1 n1 c1 A2 n2 c2 A3 n3 c3 A4 n4 c4) (S:Sto) (hS:ql S=true) (a:Nat) (hT:ZX S a) (w:World) (hst:qZ w w.heap.size (.slice A1 n1 c1) (.slice A2 n2 c2) (.slice A3 n3 c3) (.slice A4 n4 c4) S):Calls prog 125 #[Qk A1 n1 c1 A2 n2 c2 A3 n3 c3 A4 n4 c4,.int .i64 (a:Int)] w (zF (fun u _=>∃ m:Int,u=.tuple #[.int .i64 m,.int .i64 0]) w):=
 (qfX A1 n1 c1 A2 n2 c2 A3 n3 c3 A4 n4 c4 S hS a hT w hst).mono fun e w' ⟨u,he,⟨_,_,_,_,hu⟩,hB⟩=>⟨u,he,⟨_,hu⟩,hB⟩
theorem qka {S:Sto}:∀ {h:Nat} {xs:List It} {x:It},x∈qI S h xs->∃ (j:Nat) (hj:j<xs.length),x∈qI S h [xs[j]]
 |0,xs,x,hx=>by obtain⟨j,hj,rfl⟩:=List.mem_iff_getElem.1 hx;exact⟨j,hj,List.mem_singleton.2 rfl⟩
 |h+1,xs,x,hx=>by rw[Zx] at hx;obtain⟨y,hy,hx⟩:=List.mem_flatMap.1 hx;obtain⟨j,hj,rfl⟩:=List.mem_iff_getElem.1 hy;exact⟨j,hj,by rw[Zx];exact List.mem_flatMap.2 ⟨_,List.mem_singleton.2 rfl,hx⟩⟩
theorem one_low {S:Sto} {h:Nat} {xs:List It} (hs:(qG S h xs).isSome=true) {j:Nat} (hj:j<xs.length) {x:It} (hx:x∈qI S h [xs[j]]):leK (qt xs[j]) (qt x):=by
 have h2:=kD hs (j+1);rw[JR hj] at h2;unfold jV at h2;rcases hA:qG S h (xs.take j) with _|a
 ·rw[hA] at h2;cases h2
 ·rcases hO:jv S h xs[j] with _|⟨f,l⟩
  ·rw[hA,hO] at h2;cases h2
  ·rw[hA,hO] at h2;simp only at h2;split at h2
   ·rename_i hf;subst hf;exact(qeE S h _ _ _ hO).low x hx
   ·cases h2
theorem items_lt {S:Sto} {h:Nat} {xs:List It} (hs:(qG S h xs).isSome=true) {i:Nat} (hi:i<xs.length) {x:It} (hx:x∈qI S h (xs.take i)):Qh (qt x) (qt xs[i])=true:=by
 rcases Nat.eq_zero_or_pos i with h0|h0
 ·subst h0;rw[List.take_zero,vH] at hx;cases hx
 ·obtain⟨j,rfl⟩:∃ j,i=j+1:=⟨i-1,zO⟩
  have h2:=kD hs (j+1+1);rw[JR hi] at h2;unfold jV at h2;rcases hA:qG S h (xs.take (j+1)) with _|_|q
  ·rw[hA] at h2;cases h2
  ·exact absurd hA (ZG zO zO)
  ·have hm:=(qcm hA).1.high x hx;rw[hA] at h2;rcases hO:jv S h xs[j+1] with _|⟨f,l⟩
   ·rw[hO] at h2;cases h2
   ·rw[hO] at h2;simp only at h2;split at h2
    ·rename_i hf;split at h2
     ·rename_i hl;rw[hf] at hl;exact qbw hm hl
     ·cases h2
    ·cases h2
abbrev Gm (x:It) (A:OA) (c:Nat):Array Value:=#[.int .u8 x.k,.int .u32 x.i,.int .u32 x.o,.int .i64 x.r,.slice A x.val.length c]
abbrev Vp:Array Value:=#[.int .u8 0,.int .u32 0,.int .u32 0,.int .i64 0,.slice none 0 0]
def qfk (lo:Nat) (q:Option It) (u:Value) (W:World):Prop:=match q with
 |none=>u=.tuple #[.agg Vp,.int .i64 6]
 |some x=>∃ A c,u=.tuple #[.agg (Gm x A c),.int .i64 0]/\Bys W W.heap.size (.slice A x.val.length c) x.val/\Zv lo (.slice A x.val.length c)
theorem qcN {w:World} {lo b off n c:Nat} {xs:List It} (h:je lo w (.slice (some ⟨b,off,none⟩) n c) xs) (i:Nat) (hi:i<xs.length):∃ A' c',ItAt w w.heap.size b (off+i*5) xs[i] A' c'/\Zv lo (.slice A' xs[i].val.length c'):=by
 obtain⟨ps,rfl,⟨A,c1,e,_,_,hr⟩,hp,hf,hg⟩:=h;cases e;have hi':i<ps.length:=by simpa using hi
 obtain⟨b',off',e,hb,hc⟩:=hr.2 zO;cases e;obtain⟨c0,c1,c2,c3,c4⟩:=VG ps i hi';have hgi:=hg ps[i] (List.getElem_mem hi');obtain⟨⟨A',c',e5⟩,hby⟩:=hp ps[i] (List.getElem_mem hi');rw[e5] at c4 hby hgi;refine⟨A',c',?_,by simpa using hgi⟩;simp only[List.getElem_map];refine⟨hc _ _ c0,?_,?_,?_,?_,hby⟩
 ·rw[Nat.add_assoc];exact hc _ _ c1
 ·rw[Nat.add_assoc];exact hc _ _ c2
 ·rw[Nat.add_assoc];exact hc _ _ c3
 ·rw[Nat.add_assoc];exact hc _ _ c4
def YE (S:Sto) (i:Value):Nat:=match qu S (intOf i).toNat with
 |some (l,_)=>l.toNat
 |none=>0
theorem Ur {S:Sto} {r h:Nat} {ys:List It} (hn:qu S r=some ((h:Int),ys)):YE S (.int .i64 (r:Int))=h:=by unfold YE intOf;simp only[Int.toNat_natCast];rw[hn];simp
structure FnI (S:Sto) (K:K3) (q:Option It) (w2:World) (i:Value) (wr:World):Prop where
 ex:∃ (h r:Nat) (ys:List It),i=.int .i64 (r:Int)/\8<=r/\r<256/\qu S r=some ((h:Int),ys)/\(qG S h ys).isSome=true/\Uy S K h ys=q/\Ext w2 wr
theorem Gj {R:Ending->World->Prop} {a:Act} {W:World} {b:Nat} {cs:Array Value} {v:Value} (h6:a.tmps[6]?.getD undef=.pointer (some ⟨b,0,none⟩)) (h7:a.tmps[7]?.getD undef=v) (hd:a.defers=[]) (hCA:W.heap[b]?=some (.cells cs 51 (0,0))) (hs:∃ x0 x1 x2 x3 x4,cs=#[x0,x1,x2,x3,x4]) (hR:R (.returned (.tuple #[.agg cs,v])) W):bodyPost prog Tryz.f87 R .ret a W:=by
 refine bodyPost_ret (v:=.tuple #[.agg cs,v]) ?_ hd hR;have k:=qa hCA;obtain⟨x0,x1,x2,x3,x4,rfl⟩:=hs;simp[results,results87,go_sem,h6,h7,k]
theorem row5 {w:World} {b:Nat} {ty:TypeId} {y0 y1 y2 y3 y4:Value} (h:w.heap[b]?=some (.cells #[y0,y1,y2,y3,y4] ty (0,0))) (x0 x1 x2 x3 x4:Value) : (((((w.setCell ⟨b,0,none⟩ x0).setCell ⟨b,1,none⟩ x1).setCell ⟨b,2,none⟩ x2).setCell ⟨b,3,none⟩ x3).setCell ⟨b,4,none⟩ x4).heap[b]?=some (.cells #[x0,x1,x2,x3,x4] ty (0,0)):=qi (qi (qi (qi (qi h 0 x0) 1 x1) 2 x2) 3 x3) 4 x4
theorem Km {w0 w:World} {B b:Nat} (h:Below B w0 w) (hb:B<=b) (x0 x1 x2 x3 x4:Value):Below B w0 (((((w.setCell ⟨b,0,none⟩ x0).setCell ⟨b,1,none⟩ x1).setCell ⟨b,2,none⟩ x2).setCell ⟨b,3,none⟩ x3).setCell ⟨b,4,none⟩ x4):=
 Below.setCell (Below.setCell (Below.setCell (Below.setCell (Below.setCell h (p:=⟨b,0,none⟩) hb _) (p:=⟨b,1,none⟩) hb _) (p:=⟨b,2,none⟩) hb _) (p:=⟨b,3,none⟩) hb _) (p:=⟨b,4,none⟩) hb _
theorem its_set5 {w:World} {lo b:Nat} {v:Value} {xs:List It} (h:je lo w v xs) (hb:b<lo) (x0 x1 x2 x3 x4:Value):je lo (((((w.setCell ⟨b,0,none⟩ x0).setCell ⟨b,1,none⟩ x1).setCell ⟨b,2,none⟩ x2).setCell ⟨b,3,none⟩ x3).setCell ⟨b,4,none⟩ x4) v xs:=by
 refine h.keep zA2 (fun q hq _=>?_);have hne:∀ j,(⟨b,j,none⟩:Addr)≠q:=fun j e=>by subst e;simp at hq;omega
 rw[World.cell?_setCell_other _ _ _ _ (hne _),World.cell?_setCell_other _ _ _ _ (hne _),World.cell?_setCell_other _ _ _ _ (hne _),World.cell?_setCell_other _ _ _ _ (hne _),World.cell?_setCell_other _ _ _ _ (hne _)]
theorem bys_set5 {w:World} {b lo:Nat} {v:Value} {l:List UInt8} (h:Bys w w.heap.size v l) (hf:Zv lo v) (hb:b<lo) (x0 x1 x2 x3 x4:Value):Bys (((((w.setCell ⟨b,0,none⟩ x0).setCell ⟨b,1,none⟩ x1).setCell ⟨b,2,none⟩ x2).setCell ⟨b,3,none⟩ x3).setCell ⟨b,4,none⟩ x4) (((((w.setCell ⟨b,0,none⟩ x0).setCell ⟨b,1,none⟩ x1).setCell ⟨b,2,none⟩ x2).setCell ⟨b,3,none⟩ x3).setCell ⟨b,4,none⟩ x4).heap.size v l:=by
 have:=((((h.setCell hf (p:=⟨b,0,none⟩) hb x0).setCell hf (p:=⟨b,1,none⟩) hb x1).setCell hf (p:=⟨b,2,none⟩) hb x2).setCell hf (p:=⟨b,3,none⟩) hb x3).setCell hf (p:=⟨b,4,none⟩) hb x4;refine this.more ?_;simp
theorem its_cell {w:World} {lo b:Nat} {v:Value} {xs:List It} (_:je lo w v xs) {q:Addr} (hb:b<lo) (x0 x1 x2 x3 x4:Value) (hq:lo<=q.block) : (((((w.setCell ⟨b,0,none⟩ x0).setCell ⟨b,1,none⟩ x1).setCell ⟨b,2,none⟩ x2).setCell ⟨b,3,none⟩ x3).setCell ⟨b,4,none⟩ x4).cell? q=w.cell? q:=by
 have hne:∀ j,(⟨b,j,none⟩:Addr)≠q:=fun j e=>by subst e;simp at hq;omega
 rw[World.cell?_setCell_other _ _ _ _ (hne _),World.cell?_setCell_other _ _ _ _ (hne _),World.cell?_setCell_other _ _ _ _ (hne _),World.cell?_setCell_other _ _ _ _ (hne _),World.cell?_setCell_other _ _ _ _ (hne _)]
set_option maxRecDepth 100000 in
theorem qjS (A1 n1 c1 A2 n2 c2 A3 n3 c3 A4 n4 c4) (S:Sto) (hS:ql S=true) (a lvl:Nat) (xs:List It) (ha:8<=a) (ha2:a<256) (hn:qu S a=some ((lvl:Int),xs)) (hsp:(qG S lvl xs).isSome=true) (k i o:Int) (w:World) (hst:qZ w w.heap.size (.slice A1 n1 c1) (.slice A2 n2 c2) (.slice A3 n3 c3) (.slice A4 n4 c4) S):Calls prog 87 #[Qk A1 n1 c1 A2 n2 c2 A3 n3 c3 A4 n4 c4,.int .i64 (a:Int),Xd k i o] w (zF (qfk w.heap.size (Uy S (k,i,o) lvl xs)) w):=by
 have HCK:=zH (fun W (hx:Ext w W)=>TD A1 n1 c1 A2 n2 c2 A3 n3 c3 A4 n4 c4 S hS a ⟨ha,ha2,lvl,xs,hn,hsp⟩ W (hst.ext hx));have HON:=zH (fun W (hx:Ext w W)=>qij A1 n1 c1 A2 n2 c2 A3 n3 c3 A4 n4 c4 S (by have:=(qX hS).2.2.1;omega) W (hst.ext hx));obtain⟨q,hq⟩:∃ q,Uy S (k,i,o) lvl xs=q:=⟨_,rfl⟩
 rw[hq];have HI0:∀ W,FnI S (k,i,o) q W (.int .i64 (a:Int)) W:=fun W=>⟨lvl,a,xs,rfl,ha,ha2,hn,hsp,hq,Ext.refl _⟩
 replace HI0:=zH HI0;replace hS:=zH hS;clear hst hn hsp hq ha ha2;go_enter func87,ntmps87;go_wp2_with fail;generalize hw1:(World.alloc (World.alloc (World.alloc w _) _) _)=w1;have x1:Ext w w1:=by rw[<-hw1];exact((zN _ _).trans (zN _ _)).trans (zN _ _)
 have rs1:w1.heap[w.heap.size]?=some (.cells #[.slice A1 n1 c1,.slice A2 n2 c2,.slice A3 n3 c3,.slice A4 n4 c4] 28 (0,0)):=by rw[<-hw1];exact(zK _ _ _ zA1).trans ((zK _ _ _ zA2).trans (zI _ _ _ rfl))
 have rk1:w1.heap[w.heap.size+1]?=some (.cells #[.int .u8 k,.int .u32 i,.int .u32 o] 49 (0,0)):=by rw[<-hw1];exact(zK _ _ _ zA2).trans (zI _ _ _ zA2)
 have ri1:w1.heap[w.heap.size+2]?=some (.cells Vp 51 (0,0)):=by rw[<-hw1];exact zI _ _ _ zA2
 clear hw1;have ks1:=qa rs1;go_step3;go_wp2_with fail;refine(HCK.out w1 x1).mono ?_;clear HCK;rintro e w2 ⟨u,rfl,⟨m,rfl⟩,hB⟩;have x2:Ext w w2:=Ext.trans x1 hB;have rs2:=qb rs1 hB;have rk2:=qb rk1 hB;have ri2:=qb ri1 hB;clear rs1 rk1 ri1 hB x1 ks1;have ks2:=qa rs2;go_wp2_with fail;refine(HON.out w2 x2).mono ?_;clear HON;rintro e w3 ⟨u,rfl,⟨bb,A3',c3',rfl,hOn,-⟩,hB⟩;have x3:Ext w w3:=Ext.trans x2 hB;have rk3:=qb rk2 hB;have ri3:=qb ri2 hB;clear rs2 rk2 ri2 hB x2 ks2;replace hOn:=zH hOn;have I0:=zH (HI0.out w3);clear HI0;go_wp2_with fail;go_step3;go_wp2_with fail;go_loopw [10] (fun j wr=>FnI S (k,i,o) q w3 j wr) (fun j _=>YE S j)
 case atStart=>exact I0.out
 case round =>
  obtain⟨h,r,ys,rfl,h8,h256,hn,hsp,hq,xr⟩:=hrel.ex;clear I0 hrel;have hlv:=Ur hn;obtain⟨hm1,hm2,-⟩:=qQ hn;have hyl:ys.length<=5:=by unfold Qn Jq at hm1;simp at hm1;omega
  have wIG:=(kz hsp).2;have hBN:=Kv 0 bb A1 n1 c1 A2 n2 n2 A3' n3 c3' A4 n4 c4 S hS.out r h8 h256 wr ⟨Nat.zero_le _,(hOn.out.ext xr).2⟩;rw[hn] at hBN;have xwr:=x3.trans xr;have rkr:=qb rk3 xr;have rir:=qb ri3 xr;have zr:w.heap.size+2<wr.heap.size:=(zG.1 rir).1;replace hlv:=zH hlv;replace hsp:=zH hsp;replace hn:=zH hn;replace hq:=zH hq;replace hm2:=zH hm2;replace wIG:=zH wIG;clear hm1;go_wp2_with fail;refine hBN.mono ?_;clear hBN;rintro e w4 ⟨u,rfl,⟨A9,c9,rfl,hCL⟩,hB⟩;have hB':Ext wr w4:=hB;have x4:=xwr.trans hB';have rk4:=qb rkr hB';have ri4:=qb rir hB';have z4:w.heap.size+2<w4.heap.size:=(zG.1 ri4).1;have kk4:=qa rk4;have z41:w.heap.size+1<w4.heap.size:=zO;replace hCL:=zH hCL;replace xr:=zH (xr.trans hB');clear rkr rir hB hB' xwr;go_wp2_with fail;generalize hw5:(World.alloc w4 _)=w5;have x5:Ext w4 w5:=by rw[<-hw5];exact zN _ _
  have rn5:w5.heap[w4.heap.size]?=some (.cells #[.int .i64 h,.slice A9 ys.length c9] 113 (0,0)):=by rw[<-hw5];exact zI _ _ _ rfl
  clear hw5;refine(qdK (h:Int) A9 c9 ys k i o _ w5 hyl (hCL.out.ext x5)).mono ?_;rintro e w6 ⟨rfl,hB⟩;have x56:Ext w4 w6:=x5.trans hB;have rn6:=qb rn5 hB;have ri6:=qb ri4 x56;have kn6:=qa rn6;have fi6:=qd ri6;have ki6:=qa ri6;have hVJ:=zH (hCL.out.ext x56);replace xr:=zH (xr.out.trans x56);replace x4:=zH (x4.trans x56);clear rn5 x5 hB x56 rk4 ri4 kk4 z4 z41;have hA:=hVJ.out.its.at_.2.2.2;have wII:=JD ys (k,i,o);have hIT:=zH (fun j (hj:j<ys.length) b9 off (he:A9=some ⟨b9,off,none⟩)=>by have:=hVJ.out.its;rw[he] at this;exact this.item j hj);obtain⟨ie,hie⟩:∃ ie,Yb ys (k,i,o)=ie:=⟨_,rfl⟩
  obtain⟨p,hp⟩:∃ p,qD ys (k,i,o)=p:=⟨_,rfl⟩
  have hT:ie=true->∃ hp:qD ys (k,i,o)<ys.length,qt (ys[qD ys (k,i,o)]'hp)=(k,i,o):=fun h0=>by
   rw[h0] at hie;by_cases hl:qD ys (k,i,o)<ys.length
   ·rw[Kb hl] at hie;exact⟨hl,of_decide_eq_true hie⟩
   ·rw[XA hl] at hie;cases hie
  have hF:ie=false->∀ hp:qD ys (k,i,o)<ys.length,qt (ys[qD ys (k,i,o)]'hp)≠(k,i,o):=fun h0 hl=>by rw[h0,Kb hl] at hie;exact of_decide_eq_false hie
  rw[hie,hp];rw[hp] at wII;have hT':=zH hT;have hF':=zH hF;replace hp:=zH hp;replace hie:=zH hie;clear hT hF;have HREL:=zH (fun (x:It) (hx:x∈ys) (hd:Uc ys (k,i,o)=some x) (h':Nat) (hh:h=h'+1)=>by
   have h1:=ZP hsp.out x hx;rw[hh] at h1;obtain⟨b,e1,e2,e3,zs,e4,e5⟩:=ZM h1;have e6:qu S x.r.toNat=some ((h':Int),zs):=by rw[e1,Int.toNat_natCast];exact e4
   have e7:Uy S (k,i,o) h' zs=q:=by rw[<-one_down hd e6,<-hh];exact hq.out
   have e8:YE S (.int .i64 (b:Int))<YE S (.int .i64 (r:Int)):=by rw[Ur e4,hlv.out];omega
   exact(⟨b,e1,⟨⟨h',b,zs,rfl,e2,e3,e4,e5,e7,xr.out⟩⟩,e8⟩:∃ b:Nat,x.r=(b:Int)/\FnI S (k,i,o) q w3 (.int .i64 (b:Int)) w6/\YE S (.int .i64 (b:Int))<YE S (.int .i64 (r:Int))))
  rcases Nat.eq_zero_or_pos h with h0|h0
  ·have hh1:((h:Int) == 0)=true:=by rw[beq_iff_eq];omega
   clear HREL;cases ie
   ·have hz:q=none:=by rw[<-hq.out,h0,qgB,leaf_no wIG.out (hF'.out rfl)]
    replace h0:=zH h0;replace hz:=zH hz;clear hA wII;go_wp2_with fail;exact Gj (b:=w.heap.size+2) rfl rfl rfl (row5 ri6 _ _ _ _ _) ⟨_,_,_,_,_,rfl⟩ ⟨_,rfl,by rw[hz.out];rfl,Km x4.out zO _ _ _ _ _⟩
   ·obtain⟨hpl,hke⟩:=hT'.out rfl;have hz:q=some ys[qD ys (k,i,o)]:=by rw[<-hq.out,h0,qgB,leaf_is wIG.out hpl hke]
    obtain⟨b9,off,rfl,hb9⟩:=hA zO;obtain⟨A',c',d0,d1,d2,d3,d4,-⟩:=hIT.out _ hpl b9 off rfl;have hfr:=zH (fun j=>Uh hVJ.out b9 off ys.length c9 j rfl zO);have hI5:=fun x0 x1 x2 x3 x4=>qcN (its_set5 hVJ.out (b:=w.heap.size+1+1) zO x0 x1 x2 x3 x4) _ hpl;have hpp:=hp.out;generalize ys[qD ys (k,i,o)]=x at *;simp only[hpp] at hpl d0 d1 d2 d3 d4 hI5;replace h0:=zH h0;replace hz:=zH hz;replace hI5:=zH hI5;replace hke:=zH hke;clear hA wII hpp hb9;go_wp2_with fail;obtain⟨A'',c'',⟨-,-,-,-,g4,gb⟩,gf⟩:=hI5.out (.int .u8 x.k) (.int .u32 x.i) (.int .u32 x.o) (.int .i64 x.r) (.slice A' x.val.length c');have wCO:=its_cell hVJ.out (b:=w.heap.size+1+1) (q:=⟨b9,off+p*5+4,none⟩) zO (.int .u8 x.k) (.int .u32 x.i) (.int .u32 x.o) (.int .i64 x.r) (.slice A' x.val.length c') (hfr.out 0);rw[wCO,d4] at g4;simp only[Option.some.injEq,Value.slice.injEq,true_and] at g4;obtain⟨rfl,rfl⟩:=g4;exact Gj (b:=w.heap.size+2) rfl rfl rfl (row5 ri6 _ _ _ _ _) ⟨_,_,_,_,_,rfl⟩ ⟨_,rfl,by rw[hz.out];exact⟨A',c',rfl,gb,gf.mono zO⟩,Km x4.out zO _ _ _ _ _⟩
  ·have hh1:((h:Int) == 0)=false:=by rw[beq_eq_false_iff_ne];omega
   obtain⟨h',hh⟩:∃ h',h=h'+1:=⟨h-1,zO⟩
   replace hh:=zH hh;replace h0:=zH h0;cases ie
   ·rcases Nat.eq_zero_or_pos p with hp0|hp0
    ·have hz:q=none:=by rw[<-hq.out,hh.out,one_none (down_no wIG.out (by rw[hp.out];exact hp0) (hF'.out rfl))]
     have hp1:((p:Int) == 0)=true:=by rw[beq_iff_eq];omega
     replace hp0:=zH hp0;replace hz:=zH hz;clear hA wII HREL;go_wp2_with fail;exact Gj (b:=w.heap.size+2) rfl rfl rfl (row5 ri6 _ _ _ _ _) ⟨_,_,_,_,_,rfl⟩ ⟨_,rfl,by rw[hz.out];rfl,Km x4.out zO _ _ _ _ _⟩
    ·have hd:=qfU wIG.out (by rw[hp.out];exact hp0) (hF'.out rfl);have hp1:((p:Int) == 0)=false:=by rw[beq_eq_false_iff_ne];omega
     have hp2:decide (p=0)=false:=decide_eq_false zO;simp only[hp.out] at hd;obtain⟨b',e1,e2,e3⟩:=HREL.out _ (List.getElem_mem _) hd h' hh.out;obtain⟨x,hx⟩:∃ x,ys[p-1]'(by omega)=x:=⟨_,rfl⟩
     rw[hx] at hd e1;obtain⟨p',rfl⟩:∃ p',p=p'+1:=⟨p-1,zO⟩
     obtain⟨b9,off,rfl,hb9⟩:=hA zO;obtain⟨A',c',-,-,-,d3,-,-⟩:=hIT.out p' zO b9 off rfl;simp only[Nat.add_sub_cancel] at hx;rw[hx,e1] at d3;replace hx:=zH hx;have hXI:wrap64 (((p'+1:Nat):Int)-1)=(p':Int):=by rw[IntWalk.wrap64_in _ zO];omega
     have hlt:p'<ys.length:=zO;replace hXI:=hXI;replace hd:=zH hd;replace e1:=zH e1;replace e2:=zH e2;replace e3:=zH e3;clear hA HREL;replace wII:=zH wII;replace hp0:=zH hp0;go_wp2_with fail;exact⟨e2.out,e3.out⟩
   ·obtain⟨hpl,hke⟩:=hT'.out rfl;have hd:=down_is wIG.out hpl hke;obtain⟨b',e1,e2,e3⟩:=HREL.out _ (List.getElem_mem _) hd h' hh.out;obtain⟨b9,off,rfl,hb9⟩:=hA zO;obtain⟨A',c',-,-,-,d3,-,-⟩:=hIT.out _ hpl b9 off rfl;rw[e1] at d3;have hpp:=hp.out;simp only[hpp] at hpl d3;replace hd:=zH hd;replace hke:=zH hke;replace e1:=zH e1;replace e2:=zH e2;replace e3:=zH e3;clear hA HREL wII hpp;obtain⟨pz,hp1,hp2⟩:∃ pz:Bool,((p:Int) == 0)=pz/\decide (p=0)=pz:=by
     rcases Nat.eq_zero_or_pos p with hp0|hp0
     ·exact⟨true,by rw[beq_iff_eq];omega,decide_eq_true hp0⟩
     ·exact⟨false,by rw[beq_eq_false_iff_ne];omega,decide_eq_false zO⟩
    cases pz;all_goals
     go_wp2_with fail;exact⟨e2.out,e3.out⟩
def Tc (S:Sto) (root:Int) (K:K3):Option It:=match qu S root.toNat with
 |none=>none
 |some (lvl,xs)=>Uy S K lvl.toNat xs
def qaU (S:Sto) (root next:Int) (dead:List Int) (vs:List Vol):Prop:=∃ refs nodes,Qo S root next dead vs/\qY S (Qj root dead vs) refs nodes/\QB S refs
def Zp (S:Sto) (root next:Int) (dead:List Int):Prop:=∀ vs,Qo S root next dead vs->∃ refs nodes,qY S (Qj root dead vs) refs nodes/\¬QB S refs
theorem XS {vs:List Vol} {id:Int} {v:Vol} (h:ZQ vs id=some v):v∈vs:=List.mem_of_find?_eq_some h
theorem qdQ {S:Sto} {root next:Int} {dead:List Int} {vs:List Vol} (h:Qo S root next dead vs) {v:Vol} (hv:v∈vs):∃ a:Nat,v.root=(a:Int)/\ZX S a:=
 vn (h.ok v.root (by unfold ZU;exact List.mem_append_right _ (List.mem_map.2 ⟨v,hv,rfl⟩)))
def Ge (S:Sto) (root next:Int) (dead:List Int) (id:Int) (K:K3) (w:World) (e:Ending) (w':World):Prop:=Below w.heap.size w w' /\
 ((e=.returned (.tuple #[.agg Vp,.int .i64 8])/\Zp S root next dead) \/
  ∃ vs u,qaU S root next dead vs/\e=.returned u/\match ZQ vs id with
   |none=>u=.tuple #[.agg Vp,.int .i64 6]
   |some v=>qfk w.heap.size (Tc S v.root K) u w')
theorem XR {R:Ending->World->Prop} {a:Act} {W:World} {b:Nat} {cs:Array Value} {v:Value} (h6:a.tmps[6]?.getD undef=.pointer (some ⟨b,0,none⟩)) (h7:a.tmps[7]?.getD undef=v) (hd:a.defers=[]) (hCA:W.heap[b]?=some (.cells cs 51 (0,0))) (hs:∃ x0 x1 x2 x3 x4,cs=#[x0,x1,x2,x3,x4]) (hR:R (.returned (.tuple #[.agg cs,v])) W):bodyPost prog Tryz.f32 R .ret a W:=by
 refine bodyPost_ret (v:=.tuple #[.agg cs,v]) ?_ hd hR;have k:=qa hCA;obtain⟨x0,x1,x2,x3,x4,rfl⟩:=hs;simp[results,results32,go_sem,h6,h7,k]
set_option maxRecDepth 100000 in
theorem GG (A1 n1 c1 A2 n2 c2 A3 n3 c3 A4 n4 c4) (gen root next:Int) (A5 c5) (S:Sto) (dead:List Int) (id k i o:Int) (w:World) (h:qZ w w.heap.size (.slice A1 n1 c1) (.slice A2 n2 c2) (.slice A3 n3 c3) (.slice A4 n4 c4) S) (hd:Zw w w.heap.size (.slice A5 dead.length c5) dead):Calls prog 32 #[.agg (qC (.slice A1 n1 c1) (.slice A2 n2 c2) (.slice A3 n3 c3) (.slice A4 n4 c4) gen root next (.slice A5 dead.length c5)),.int .u32 id,Xd k i o] w (Ge S root next dead id (k,i,o) w):=by
 have HT:=zH (fun W (hx:Ext w W)=>qga A1 n1 c1 A2 n2 c2 A3 n3 c3 A4 n4 c4 gen root next A5 c5 S dead id W (h.ext hx) (by obtain⟨A,c,e,q1,q2,q3⟩:=hd;exact⟨A,c,e,q1,q2,(q3.below hx).more hx.size⟩));have HF:=zH (fun W (hx:Ext w W) (hS:ql S=true) a lvl xs ha ha2 hn hsp=>qjS A1 n1 c1 A2 n2 c2 A3 n3 c3 A4 n4 c4 S hS a lvl xs ha ha2 hn hsp k i o W (h.ext hx));clear h hd;go_enter func32,ntmps32;go_wp2_with fail;generalize hw1:(World.alloc (World.alloc (World.alloc w _) _) _)=w1;have x1:Ext w w1:=by rw[<-hw1];exact((zN _ _).trans (zN _ _)).trans (zN _ _)
 have rp1:w1.heap[w.heap.size]?=some (.cells (qC (.slice A1 n1 c1) (.slice A2 n2 c2) (.slice A3 n3 c3) (.slice A4 n4 c4) gen root next (.slice A5 dead.length c5)) 32 (0,0)):=by rw[<-hw1];exact(zK _ _ _ zA1).trans ((zK _ _ _ zA2).trans (zI _ _ _ rfl))
 have rk1:w1.heap[w.heap.size+1]?=some (.cells #[.int .u8 k,.int .u32 i,.int .u32 o] 49 (0,0)):=by rw[<-hw1];exact(zK _ _ _ zA2).trans (zI _ _ _ zA2)
 have ri1:w1.heap[w.heap.size+2]?=some (.cells Vp 51 (0,0)):=by rw[<-hw1];exact zI _ _ _ zA2
 clear hw1;refine(HT.out w1 x1).mono ?_;clear HT;rintro e w2 ⟨hB,hQ⟩;have x2:Ext w w2:=Ext.trans x1 hB;have rp2:=qb rp1 hB;have rk2:=qb rk1 hB;have ri2:=qb ri1 hB;have z2:w.heap.size+2<w2.heap.size:=(zG.1 ri2).1;have z20:w.heap.size<w2.heap.size:=zO;have z21:w.heap.size+1<w2.heap.size:=zO;clear hB x1 rp1 rk1 ri1;rcases hQ with ⟨rfl,hno⟩|⟨vs,refs,nodes,hp,hcn,hen,rfl⟩
 ·replace hno:=zH hno;have ki2:=qa ri2;have fi2:=qd ri2;go_wp2_with fail;exact XR (b:=w.heap.size+2) (cs:=Vp) rfl rfl rfl ((zK _ _ _ zA1).trans (row5 ri2 _ _ _ _ _)) ⟨_,_,_,_,_,rfl⟩ ⟨Below.alloc (Km x2 zO _ _ _ _ _) zA1 _,.inl ⟨rfl,hno.out⟩⟩
 ·have hok:=zH (⟨refs,nodes,hp,hcn,hen⟩:qaU S root next dead vs);replace hp:=zH hp;clear hcn hen;rcases hv:ZQ vs id with _|v
  ·unfold volQ;replace hv:=zH hv;have ki2:=qa ri2;have fi2:=qd ri2;go_wp2_with fail;exact XR (b:=w.heap.size+2) (cs:=Vp) rfl rfl rfl ((zK _ _ _ zA1).trans (row5 ri2 _ _ _ _ _)) ⟨_,_,_,_,_,rfl⟩ ⟨Below.alloc (Km x2 zO _ _ _ _ _) zA1 _,.inr ⟨vs,_,hok.out,rfl,by rw[hv.out];rfl⟩⟩
  ·unfold volQ;obtain⟨a,ha,ht⟩:=qdQ hp.out (XS hv);obtain⟨h8,h256,lvl,xs,hn,hsp⟩:=ht;have hfs:Tc S v.root (k,i,o)=Uy S (k,i,o) lvl xs:=by unfold Tc;rw[ha,Int.toNat_natCast,hn];simp
   have HFF:=zH (fun W hx=>HF.out W hx hp.out.may a lvl xs h8 h256 hn hsp);have kp2:=qa rp2;have kk2:=qa rk2;replace hv:=zH hv;replace hfs:=zH hfs;replace ha:=zH ha;clear hn hsp HF;go_wp2_with fail;generalize hw3:(World.alloc w2 _)=w3;have x23:Ext w2 w3:=by rw[<-hw3];exact zN _ _
   clear hw3;have hTD:=HFF.out w3 (x2.trans x23);rw[<-ha.out] at hTD;refine hTD.mono ?_;clear hTD HFF;rintro e w4 ⟨u,rfl,hu,hB⟩;have x4:Ext w w4:=(x2.trans x23).trans hB;have ri4:=qb (qb ri2 x23) hB;have ki4:=qa ri4;have fi4:=qd ri4;have z3:w.heap.size+2<w3.heap.size:=(zG.1 (qb ri2 x23)).1;have z4:w.heap.size+2<w4.heap.size:=(zG.1 ri4).1;replace x4:=zH x4;clear kp2 kk2 rp2 rk2 ri2 hB x23 x2 z2 z20 z21;rcases hq:Uy S (k,i,o) lvl xs with _|x
   ·rw[hq] at hu hfs;obtain rfl:u=.tuple #[.agg Vp,.int .i64 6]:=hu;replace hq:=zH hq;go_wp2_with fail;exact XR (b:=w.heap.size+2) (cs:=Vp) rfl rfl rfl (row5 ri4 _ _ _ _ _) ⟨_,_,_,_,_,rfl⟩ ⟨Km x4.out zO _ _ _ _ _,.inr ⟨vs,_,hok.out,rfl,by rw[hv.out];show qfk _ (Tc S v.root (k,i,o)) _ _;rw[hfs.out];rfl⟩⟩
   ·rw[hq] at hu hfs;obtain⟨A,c,rfl,hby,hfr⟩:=hu;replace hq:=zH hq;replace hby:=zH hby;replace hfr:=zH hfr;go_wp2_with fail;exact XR (b:=w.heap.size+2) (cs:=Gm x A c) rfl rfl rfl (row5 ri4 _ _ _ _ _) ⟨_,_,_,_,_,rfl⟩ ⟨Km x4.out zO _ _ _ _ _,.inr ⟨vs,_,hok.out,rfl,by rw[hv.out];show qfk _ (Tc S v.root (k,i,o)) _ _;rw[hfs.out];exact⟨A,c,rfl,bys_set5 hby.out hfr.out z3 _ _ _ _ _,hfr.out.mono zO⟩⟩⟩
def Zo (S:Sto) (a:Nat):Nat:=(S.now[a]?.getD 0).toNat
def jt (S:Sto) (a:Int):Int:=if ql S=true then (if 8<=a/\a<256 then (if Zo S a.toNat=0 then 6 else 0) else 2) else 8
theorem qfv {S:Sto} (h:ql S=false) (a:Int):jt S a=8:=by unfold jt;rw[h];simp
theorem qfw {S:Sto} (h:ql S=true) {a:Int} (ha:¬(8<=a/\a<256)):jt S a=2:=by unfold jt;rw[if_pos h,if_neg ha]
theorem qeh {S:Sto} (h:ql S=true) {a:Nat} (ha:8<=a) (ha2:a<256):jt S (a:Int)=if Zo S a=0 then 6 else 0:=by unfold jt;rw[if_pos h,if_pos zO,Int.toNat_natCast]
theorem Vt {S:Sto} {a:Int} (h:jt S a=0):ql S=true/\∃ n:Nat,a=(n:Int)/\8<=n/\n<256/\Zo S n≠0:=by
 unfold jt at h;split at h
 ·rename_i hm;split at h
  ·rename_i hr;split at h
   ·cases h
   ·rename_i hn;obtain⟨n,hna⟩:=Int.eq_ofNat_of_zero_le (show 0<=a by omega);subst hna;exact⟨hm,n,rfl,zO,zO,by simpa using hn⟩
  ·cases h
 ·cases h
theorem Gu {S:Sto} (hS:ql S=true) {w:World} {B:Nat} {v:Value} (h:Bys w B v S.now):∃ b o c,v=.slice (some ⟨b,o,none⟩) 256 c/\b<B/\∀ a,a<256->w.cell? ⟨b,o+a,none⟩=some (.int .u8 (Zo S a:Int)):=by obtain⟨-,-,hl,-⟩:=qX hS;obtain⟨A,c,e,hc,hm,hr⟩:=h;obtain⟨b,o,rfl,hb,hBX⟩:=hr.2 zO;rw[hl] at e;exact⟨b,o,c,e,hb,fun a ha=>hBX a _ (by rw[List.getElem?_map,zL zO];unfold Zo;rw[zL zO];rfl)⟩
set_option maxRecDepth 100000 in
theorem qbY (A1 n1 c1 A2 n2 c2 A3 n3 c3 A4 n4 c4) (S:Sto) (a:Int) (w:World) (h:qZ w w.heap.size (.slice A1 n1 c1) (.slice A2 n2 c2) (.slice A3 n3 c3) (.slice A4 n4 c4) S):Calls prog 135 #[Qk A1 n1 c1 A2 n2 c2 A3 n3 c3 A4 n4 c4,.int .i64 a] w (Ret (.int .i64 (jt S a)) w):=by
 have HC:=zH (fun W (hx:Ext w W)=>Ji A1 n1 c1 A2 n2 c2 A3 n3 c3 A4 n4 c4 S W (h.ext hx));replace h:=zH h;go_enter func135,ntmps135;go_wp2_with fail;generalize hw1:(World.alloc w _)=w1;have x1:Ext w w1:=by rw[<-hw1];exact zN _ _
 have r1:w1.heap[w.heap.size]?=some (.cells #[.slice A1 n1 c1,.slice A2 n2 c2,.slice A3 n3 c3,.slice A4 n4 c4] 28 (0,0)):=by rw[<-hw1];exact zI _ _ _ rfl
 clear hw1;refine(HC.out w1 x1).mono ?_;clear HC;rintro e w2 ⟨rfl,hB⟩;have x2:Ext w w2:=x1.trans hB;have r2:=qb r1 hB;clear hB r1 x1;rcases hS:ql S with _|_
 ·have hq:=zH (qfv hS a);replace hS:=zH hS;rw[Jl rfl];go_wp2_with fail;go_ret;exact⟨by rw[hq.out];rfl,x2⟩
 ·rw[JG rfl];by_cases hr:8<=a/\a<256
  ·obtain⟨n,hna⟩:=Int.eq_ofNat_of_zero_le (show 0<=a by omega);subst hna;have hn8:8<=n:=zO;have wKF:n<256:=zO;have hq:=qeh hS hn8 wKF;obtain⟨b,o,c,e3,hb,hBX⟩:=Gu hS h.out.now;have hcn:=Ext.cell x2 (hBX n wKF);generalize Zo S n=nw at *;cases e3;have k2:=qa r2;have d1:decide ((n:Int)<8)=false:=decide_eq_false zO;have d2:decide ((n:Int)≥256)=false:=decide_eq_false zO;clear hr hBX;replace hS:=zH hS;rcases Nat.eq_zero_or_pos nw with h0|h0
   ·have hz1:((nw:Int) == 0)=true:=by rw[beq_iff_eq];omega
    have hz2:decide (nw=0)=true:=decide_eq_true h0;rw[if_pos h0] at hq;replace hq:=zH hq;replace h0:=zH h0;go_wp2_with fail;go_ret;exact⟨by rw[hq.out];rfl,x2⟩
   ·have hz1:((nw:Int) == 0)=false:=by rw[beq_eq_false_iff_ne];omega
    have hz2:decide (nw=0)=false:=decide_eq_false zO;rw[if_neg zO] at hq;replace hq:=zH hq;replace h0:=zH h0;go_wp2_with fail;go_ret;exact⟨by rw[hq.out];rfl,x2⟩
  ·have hq:=zH (qfw hS hr);replace hS:=zH hS;by_cases h8:a<8
   ·have d1:decide (a<8)=true:=decide_eq_true h8;replace hr:=zH hr;go_wp2_with fail;go_ret;exact⟨by rw[hq.out];rfl,x2⟩
   ·have d1:decide (a<8)=false:=decide_eq_false h8;have d2:decide (a≥256)=true:=decide_eq_true zO;replace hr:=zH hr;go_wp2_with fail;go_ret;exact⟨by rw[hq.out];rfl,x2⟩
set_option maxRecDepth 100000 in
theorem GU (A1 n1 c1 A2 n2 c2 A3 n3 c3 A4 n4 c4) (S:Sto) (a:Int) (w:World) (h:qZ w w.heap.size (.slice A1 n1 c1) (.slice A2 n2 c2) (.slice A3 n3 c3) (.slice A4 n4 c4) S):Calls prog 138 #[Qk A1 n1 c1 A2 n2 c2 A3 n3 c3 A4 n4 c4,.int .i64 a] w (Ret (.int .i64 (jt S a)) w):=by
 have HC:=zH (fun W (hx:Ext w W)=>Ji A1 n1 c1 A2 n2 c2 A3 n3 c3 A4 n4 c4 S W (h.ext hx));replace h:=zH h;go_enter func138,ntmps138;go_wp2_with fail;generalize hw1:(World.alloc w _)=w1;have x1:Ext w w1:=by rw[<-hw1];exact zN _ _
 have r1:w1.heap[w.heap.size]?=some (.cells #[.slice A1 n1 c1,.slice A2 n2 c2,.slice A3 n3 c3,.slice A4 n4 c4] 28 (0,0)):=by rw[<-hw1];exact zI _ _ _ rfl
 clear hw1;refine(HC.out w1 x1).mono ?_;clear HC;rintro e w2 ⟨rfl,hB⟩;have x2:Ext w w2:=x1.trans hB;have r2:=qb r1 hB;clear hB r1 x1;rcases hS:ql S with _|_
 ·have hq:=zH (qfv hS a);replace hS:=zH hS;rw[Jl rfl];go_wp2_with fail;go_ret;exact⟨by rw[hq.out];rfl,x2⟩
 ·rw[JG rfl];by_cases hr:8<=a/\a<256
  ·obtain⟨n,hna⟩:=Int.eq_ofNat_of_zero_le (show 0<=a by omega);subst hna;have hn8:8<=n:=zO;have wKF:n<256:=zO;have hq:=qeh hS hn8 wKF;obtain⟨b,o,c,e3,hb,hBX⟩:=Gu hS h.out.now;have hcn:=Ext.cell x2 (hBX n wKF);generalize Zo S n=nw at *;cases e3;have k2:=qa r2;have d1:decide ((n:Int)<8)=false:=decide_eq_false zO;have d2:decide ((n:Int)≥256)=false:=decide_eq_false zO;clear hr hBX;replace hS:=zH hS;rcases Nat.eq_zero_or_pos nw with h0|h0
   ·have hz1:((nw:Int) == 0)=true:=by rw[beq_iff_eq];omega
    have hz2:decide (nw=0)=true:=decide_eq_true h0;rw[if_pos h0] at hq;replace hq:=zH hq;replace h0:=zH h0;go_wp2_with fail;go_ret;exact⟨by rw[hq.out];rfl,x2⟩
   ·have hz1:((nw:Int) == 0)=false:=by rw[beq_eq_false_iff_ne];omega
    have hz2:decide (nw=0)=false:=decide_eq_false zO;rw[if_neg zO] at hq;replace hq:=zH hq;replace h0:=zH h0;go_wp2_with fail;go_ret;exact⟨by rw[hq.out];rfl,x2⟩
  ·have hq:=zH (qfw hS hr);replace hS:=zH hS;by_cases h8:a<8
   ·have d1:decide (a<8)=true:=decide_eq_true h8;replace hr:=zH hr;go_wp2_with fail;go_ret;exact⟨by rw[hq.out];rfl,x2⟩
   ·have d1:decide (a<8)=false:=decide_eq_false h8;have d2:decide (a≥256)=true:=decide_eq_true zO;replace hr:=zH hr;go_wp2_with fail;go_ret;exact⟨by rw[hq.out];rfl,x2⟩
set_option maxRecDepth 100000 in
theorem qkG (v:Vol) (bi:Nat) (id:Int) (q1 q2 q3:Value) (w:World) (h:w.heap[bi]?=some (.cells #[.int .u32 id,q1,q2,q3] 36 (0,0))):Calls prog 124 #[VA v,.pointer (some ⟨bi,0,none⟩)] w (Ret (.bool (decide (v.id=id))) w):=by
 have ki:=qa h;have zi:bi<w.heap.size:=(zG.1 h).1;clear h;go_enter func124,ntmps124;by_cases he:v.id=id
 ·have h1:(v.id == id)=true:=by rw[beq_iff_eq];exact he
  rw[decide_eq_true he];replace he:=zH he;go_wp2;go_ret;exact⟨rfl,zN _ _⟩
 ·have h1:(v.id == id)=false:=by rw[beq_eq_false_iff_ne];exact he
  rw[decide_eq_false he];replace he:=zH he;go_wp2;go_ret;exact⟨rfl,zN _ _⟩
set_option maxRecDepth 100000 in
theorem qiD (A c) (vs:List Vol) (hl:vs.length<=16) (bi:Nat) (id:Int) (q1 q2 q3:Value) (w:World) (h:w.heap[bi]?=some (.cells #[.int .u32 id,q1,q2,q3] 36 (0,0))) (hr:Rd w w.heap.size 4 A vs.length (jl vs)):Calls prog 60 #[.slice A vs.length c,.func (.func 124) #[] #[.pointer (some ⟨bi,0,none⟩)]] w (zF (fun u _=>VolIx vs id u) w):=by
 replace hr:=zH hr;go_enter func60,ntmps60;go_wp2_with fail;go_loopw [8] (fun i wr=>∃ k:Nat,k<=vs.length/\i=.int .i64 (k:Int)/\Ext w wr/\∀ j (hj:j<vs.length),j<k->vs[j].id≠id) (fun i _=>vs.length-(intOf i).toNat)
 case atStart=>exact⟨0,Nat.zero_le _,rfl,Ext.refl _,fun j _ hj=>absurd hj (Nat.not_lt_zero _)⟩
 case round =>
  obtain⟨k,hk,rfl,xr,hno⟩:=hrel;replace hno:=zH hno;by_cases hlt:k<vs.length
  ·obtain⟨bv,offv,rfl,hbv,hDL⟩:=hr.out.2 zO;obtain⟨d0,d1,d2,d3⟩:=Xw vs k hlt;replace d0:=Ext.cell xr (hDL _ _ d0);replace d1:=Ext.cell xr (hDL _ _ d1);replace d2:=Ext.cell xr (hDL _ _ d2);replace d3:=Ext.cell xr (hDL _ _ d3);have HAT:=zH (fun he=>qhg (id:=id) hlt he fun i hi hik=>hno.out i hi hik);have HNO:=zH (fun (he:vs[k].id≠id) j (hj:j<vs.length) (hjk:j<k+1)=>by
    rcases Nat.lt_or_ge j k with h1|h1
    ·exact hno.out j hj h1
    ·obtain rfl:j=k:=zO;exact he)
   generalize vs[k]=u at *;rw[<-Nat.add_assoc] at d1 d2 d3;clear hDL;have hXI:=zH (IntWalk.wrap64_in ((k:Int)+1) zO);have hV:=qkG u bi id q1 q2 q3 wr (qb h xr);go_wp2_with fail;refine hV.mono ?_;rintro e w2 ⟨rfl,hB⟩;clear d0 d1 d2 d3 hV;by_cases he:u.id=id
   ·rw[decide_eq_true he];have HQ:=zH (HAT.out he);clear HAT HNO;replace he:=zH he;go_wp2_with fail;refine bodyPost_ret (v:=.int .i64 (k:Int)) ?_ rfl ⟨_,rfl,HQ.out,Ext.trans xr hB⟩;simp[results,results60,go_sem]
   ·rw[decide_eq_false he];have HQ:=zH (HNO.out he);clear HAT HNO;replace he:=zH he;have hw1:=hXI.out;go_wp2_with fail;refine⟨⟨k+1,hlt,rfl,Ext.trans xr hB,fun j hj hjk=>HQ.out j hj hjk⟩,?_⟩;simp[intOf];omega
  ·obtain rfl:k=vs.length:=zO;have HQ:=zH (qcu (id:=id) fun i hi=>hno.out i hi hi);go_wp2_with fail;refine bodyPost_ret (v:=.int .i64 (-1)) ?_ rfl ⟨_,rfl,HQ.out,xr⟩;simp[results,results60,go_sem]
set_option maxRecDepth 100000 in
theorem vhas_any (A c) (vs:List Vol) (hl:vs.length<=16) (bi:Nat) (id:Int) (q1 q2 q3:Value) (w:World) (h:w.heap[bi]?=some (.cells #[.int .u32 id,q1,q2,q3] 36 (0,0))) (hr:Rd w w.heap.size 4 A vs.length (jl vs)):Calls prog 123 #[.slice A vs.length c,.func (.func 124) #[] #[.pointer (some ⟨bi,0,none⟩)]] w (Ret (.bool (ZQ vs id).isSome) w):=by
 have HV:=zH (qiD A c vs hl bi id q1 q2 q3 w h hr);clear h hr;go_enter func123,ntmps123;go_wp2_with fail;refine HV.out.mono ?_;clear HV;rintro e w2 ⟨u,rfl,hu,hB⟩;rcases hu with ⟨j,hj,rfl,hv⟩|⟨rfl,hv⟩
 ·have e1:decide ((j:Int)≥0)=true:=decide_eq_true zO;replace hv:=zH hv;go_wp2;go_ret;exact⟨by rw[hv.out];rfl,hB⟩
 ·replace hv:=zH hv;go_wp2;go_ret;exact⟨by rw[hv.out];rfl,hB⟩
theorem Tryz.info_bytes:(Tryz.prog.info? 26).map (fun i=>(i.zero,i.size,i.bytes))=some (some (.slice none 0 0),1,24):=zQ
theorem Tryz.info_write:(Tryz.prog.info? 142).map (fun i=>(i.zero,i.size,i.bytes))=some (some (.agg #[.int .i64 0,.slice none 0 0]),2,32):=zQ
abbrev gB (_:List UInt8) (u:Value):List Value:=[u]
abbrev gW (p:Int×List UInt8) (u:Value):List Value:=[.int .i64 p.1,u]
theorem Rd.keepN {w W:World} {B size lo n c:Nat} {A:OA} {xs:List Value} (h:Rd w B size A n xs) (hf:Zv lo (.slice A n c)) (hk:∀ q:Addr,lo<=q.block->q.block<B->W.cell? q=w.cell? q):Rd W B size A n xs:=
 ⟨h.1,fun hn=>by obtain⟨b,off,e,hb,hc⟩:=h.2 hn;subst e;exact⟨b,off,rfl,hb,fun j u hu=>(hk ⟨b,off+j,none⟩ (hf ⟨b,off,none⟩ n c rfl) hb).trans (hc j u hu)⟩⟩
theorem Bys.keepN {w W:World} {B lo:Nat} {v:Value} {l:List UInt8} (h:Bys w B v l) (hf:Zv lo v) (hk:∀ q:Addr,lo<=q.block->q.block<B->W.cell? q=w.cell? q):Bys W B v l:=by obtain⟨A,c,e,hc,hm,hr⟩:=h;subst e;exact⟨A,c,rfl,hc,hm,hr.keepN hf hk⟩
def outW (lo:Nat) (n:Int) (l:List UInt8):Qe:=⟨OA×Nat,fun p=>.agg #[.int .i64 n,.slice p.1 l.length p.2],fun p W=>vy lo (.slice p.1 l.length p.2) l W⟩
theorem Gw (lo:Nat) (n:Int) (l:List UInt8) (A c):(outW lo n l).f (A,c)=.agg #[.int .i64 n,.slice A l.length c]:=rfl
theorem qeN {base:Nat} {e:TypeId} {size lo:Nat} {v:Value} {n:Nat} {xs:List Value} {f:Value->List Value} {l:List UInt8} {lo':Nat} {m:Int} {l':List UInt8} (hlo:∀ g,v.ownBlock=some g->g<lo'):∀ p,qJ (appX base e size lo v n xs f l) ((outW lo' m l').φ p):=fun p _ _ he h =>
 vy.grown h he.1 (vB.of_from h.2.1 hlo)
theorem qgc {P:Program} {base:Nat} {e:TypeId} {size lo:Nat} {v:Value} {n:Nat} {xs:List Value} {f:Value->List Value} {l:List UInt8} {o:Oper} {a:Act} {W:World} {lo':Nat} {ty:TypeId} {A:OA} {c:Nat} (hr:(execOp a.eval o).run P W=.ok (.value (.slice (some ⟨W.heap.size,0,none⟩) 1 1)) (W.alloc (.cells (f (.slice A l.length c)).toArray ty))) (hlo:lo'<=W.heap.size) (hb:vy lo' (.slice A l.length c) l W):QA (appX base e size lo v n xs f l) P o a W (UE lo' ty f l):=by
 unfold QA;rw[hr];exact⟨W.heap.size,rfl,⟨hlo,A,c,zI _ _ _ rfl,hb.ext (zN _ _)⟩,TU (zN _ _)⟩
def qed (S:Sto) (root next:Int) (dead:List Int) (w:World) (e:Ending) (w':World):Prop:=Below w.heap.size w w' /\
 ((e=.returned (.int .i64 8)/\∀ vs,Qo S root next dead vs->∃ refs nodes,qY S (Qj root dead vs) refs nodes/\¬QB S refs) \/
  (e=.returned (.int .i64 0)/\∃ vs refs nodes,Qo S root next dead vs/\qY S (Qj root dead vs) refs nodes/\QB S refs))
theorem qbV {R:Ending->World->Prop} {a:Act} {W:World} {u:Value} (h2:a.tmps[2]?.getD undef=u) (hd:a.defers=[]) (hR:R (.returned u) W):bodyPost prog Tryz.f52 R .ret a W:=by refine bodyPost_ret (v:=u) ?_ hd hR;simp[results,results52,go_sem,h2]
set_option maxRecDepth 100000 in
theorem qbU (A1 n1 c1 A2 n2 c2 A3 n3 c3 A4 n4 c4) (gen root next:Int) (A5 c5) (S:Sto) (dead:List Int) (w:World) (h:qZ w w.heap.size (.slice A1 n1 c1) (.slice A2 n2 c2) (.slice A3 n3 c3) (.slice A4 n4 c4) S) (hd:Zw w w.heap.size (.slice A5 dead.length c5) dead):Calls prog 52 #[.agg (qC (.slice A1 n1 c1) (.slice A2 n2 c2) (.slice A3 n3 c3) (.slice A4 n4 c4) gen root next (.slice A5 dead.length c5))] w (qed S root next dead w):=by
 have HT:=zH (fun W (hx:Ext w W)=>KI A1 n1 c1 A2 n2 c2 A3 n3 c3 A4 n4 c4 gen root next A5 c5 S dead W (h.ext hx) (by obtain⟨A,c,e,q1,q2,q3⟩:=hd;exact⟨A,c,e,q1,q2,(q3.below hx).more hx.size⟩));clear h hd;go_enter func52,ntmps52;go_wp2_with fail;generalize hw1:World.alloc w _=w1;have x1:Ext w w1:=by rw[<-hw1];exact zN _ _
 clear hw1;refine(HT.out w1 x1).mono ?_;rintro e w2 ⟨hB,hQ⟩;have x2:Below w.heap.size w w2:=Ext.trans x1 hB;rcases hQ with ⟨rfl,hno⟩|⟨vs,refs,nodes,cb,ca,vv,rfl,hT⟩
 ·have HB:qed S root next dead w (.returned (.int .i64 8)) w2:=⟨x2,.inl ⟨rfl,hno⟩⟩
  replace HB:=zH HB;clear hno hB;go_wp2_with fail;exact qbV rfl rfl HB.out
 ·have HB:qed S root next dead w (.returned (.int .i64 0)) w2:=⟨x2,.inr ⟨rfl,vs,refs,nodes,hT.pool,hT.cnt,hT.enough⟩⟩
  replace HB:=zH HB;clear hT hB;go_wp2_with fail;exact qbV rfl rfl HB.out
theorem rowI_one (l:List Int):∀ u∈GA l,u.oneCell'=true:=by intro u hu;obtain⟨a,_,rfl⟩:=List.mem_map.1 hu;rfl
theorem Zw.of_own {w:World} {base:Nat} {v:Value} {l:List Int} (h:w.ownsRow base 3 1 v l.length (GA l)):Zw w w.heap.size v l:=by
 obtain⟨A,c,rfl,hc,hm⟩:=qB h;refine⟨A,c,rfl,hc,hm,zA2,fun hn=>?_⟩;rcases h.2 with ⟨_,h0⟩|⟨g,cap,cur,e,_,hr,_⟩
 ·omega
 ·simp only[Value.slice.injEq] at e;obtain⟨rfl,-,rfl⟩:=e;exact⟨g,0,rfl,(zG.1 hr).1,fun j u hu=>by have h5:=h.cells (g:=g) rfl j u hu;rw[Nat.zero_add];unfold Addr.add at h5;split at h5 <;> simp_all⟩
theorem Zw.more {w:World} {B B':Nat} {v:Value} {l:List Int} (h:Zw w B v l) (hb:B<=B'):Zw w B' v l:=by obtain⟨A,c,e,hc,hm,hr⟩:=h;exact⟨A,c,e,hc,hm,hr.more hb⟩
theorem Zw.ext_ {w W:World} {v:Value} {l:List Int} (h:Zw w w.heap.size v l) (hx:Ext w W):Zw W W.heap.size v l:=by obtain⟨A,c,e,hc,hm,hr⟩:=h;exact⟨A,c,e,hc,hm,(hr.below hx).more hx.size⟩
set_option maxRecDepth 100000 in
theorem TG (v:Value) (l:List Int) (hl:l.length<1073741824) (w:World) (h:Zw w w.heap.size v l):Calls prog 63 #[v] w (zF (fun u w'=>w'.ownsRow w.heap.size 3 1 u l.length (GA l)) w):=by
 obtain⟨i0,hi,hz0,hz1,hz2⟩:=info_parts Tryz.info_int;obtain⟨A,c,rfl,hc,hm,hr⟩:=h;have qn:∀ (w:World) (a:OA) (n c n' c':Nat),(binOp .eql 30 (.slice a n c) (.slice none n' c')).run prog w=.ok (.bool a.isNone) w:=fun w a n c n' c'=>Lib.run_eql_slice_nil w _ _ a n c n' c' underlying30;rcases A with _|⟨b,off,p⟩
 ·have h0:l=[]:=by
   rcases l with _|⟨x,r⟩
   ·rfl
   ·obtain⟨b,off,h,_⟩:=hr.2 zA2;cases h
  subst h0;go_enter func63,ntmps63;go_wp2;go_ret;exact⟨_,rfl,World.ownsRow_nil _ _ _ _,Below.refl _ _⟩
 ·go_enter func63,ntmps63;go_wp2_with (at_builtin;refine Qg ?_);refine QI.go (QF _ rfl (.tmp 5) (.tmp 6) 30 rfl w.heap.size 3 i0 (.int .i64 0) 1 8 underlying30 hi hz0 hz1 hz2 rfl zD _ 0 [] rfl ?_ w.heap.size _ l.length c (GA l) zE ?_ (rowI_one l) zO zD zA2 ?_)
  ·exact World.ownsRow_lit w #[] 0 (zM _) (by simp[maxLen]) rfl
  ·exact hr.keep fun p hp=>World.cell?_alloc_lt w _ p hp
  ·intro v' w' hBQ _ hb _;simp only[Nat.zero_add,List.nil_append] at hBQ;go_wp2;go_ret;exact⟨_,rfl,hBQ,Below.trans ((Below.refl _ _).alloc (zM _) _) hb⟩
end Go.Proofs.YtmeadnlmepcmbaaGreat
