/- Texts FWalkW, FWalk, FCheck, PAsk, PutW, BackN, DRead, joined. -/
import Derived.Laws.EntriesVeiled
import Derived.Test.YtpbniokljofedaaGreatZG07
import Derived.Test.YtpbniokljofedaaGreatZG13
import Derived.Test.YtpbniokljofedaaGreatZG16
import Derived.Test.YtpbniokljofedaaGreatZG17
import Derived.Test.YtpbniokljofedaaGreatZG19
import Derived.Test.YtpbniokljofedaaGreatZG20
set_option linter.unusedSimpArgs false
set_option linter.unusedVariables false
set_option maxHeartbeats 8000000
open Go.Proofs.Tryz
namespace Go.Proofs.YtpbniokljofedaaGreat
open Go.RowKit
abbrev sp7 (f l:K3) (b:Bool):Array Value:=#[.int .u8 f.1,.int .u32 f.2.1,.int .u32 f.2.2,.int .u8 l.1,.int .u32 l.2.1,.int .u32 l.2.2,.bool b]
theorem set7 {cs:Array Value} (hs:cs.size=7) (x0 x1 x2 x3 x4 x5 x6:Value) : ((((((cs.setIfInBounds 0 x0).setIfInBounds 1 x1).setIfInBounds 2 x2).setIfInBounds 3 x3).setIfInBounds 4 x4).setIfInBounds 5 x5).setIfInBounds 6 x6=#[x0,x1,x2,x3,x4,x5,x6]:=by
 apply Array.ext_getElem?;intro j;by_cases hj:j<7
 ·have:j=0\/j=1\/j=2\/j=3\/j=4\/j=5\/j=6:=zO;rcases this with rfl|rfl|rfl|rfl|rfl|rfl|rfl <;> simp[hs]
 ·rw[Array.getElem?_eq_none zA1,Array.getElem?_eq_none zA1]
theorem row7 {w:World} {b:Nat} {ty:TypeId} {cs:Array Value} (h:w.heap[b]?=some (.cells cs ty (0,0))) (hs:cs.size=7) (x0 x1 x2 x3 x4 x5 x6:Value) : (((((((w.setCell ⟨b,0,none⟩ x0).setCell ⟨b,1,none⟩ x1).setCell ⟨b,2,none⟩ x2).setCell ⟨b,3,none⟩ x3).setCell ⟨b,4,none⟩ x4).setCell ⟨b,5,none⟩ x5).setCell ⟨b,6,none⟩ x6).heap[b]?=some (.cells #[x0,x1,x2,x3,x4,x5,x6] ty (0,0)):=by
 have:=qi (qi (qi (qi (qi (qi (qi h 0 x0) 1 x1) 2 x2) 3 x3) 4 x4) 5 x5) 6 x6;rw[this,set7 hs]
theorem qdC {w0 w:World} {B b:Nat} (h:Below B w0 w) (hb:B<=b) (x0 x1 x2 x3 x4 x5 x6:Value):Below B w0 (((((((w.setCell ⟨b,0,none⟩ x0).setCell ⟨b,1,none⟩ x1).setCell ⟨b,2,none⟩ x2).setCell ⟨b,3,none⟩ x3).setCell ⟨b,4,none⟩ x4).setCell ⟨b,5,none⟩ x5).setCell ⟨b,6,none⟩ x6):=
 Below.setCell (Below.setCell (Below.setCell (Below.setCell (Below.setCell (Below.setCell (Below.setCell h (p:=⟨b,0,none⟩) hb _) (p:=⟨b,1,none⟩) hb _) (p:=⟨b,2,none⟩) hb _) (p:=⟨b,3,none⟩) hb _) (p:=⟨b,4,none⟩) hb _) (p:=⟨b,5,none⟩) hb _) (p:=⟨b,6,none⟩) hb _
theorem qhW {S:Sto} {h:Nat} {xs:List It} (hs:(qD S h xs).isSome=true) {k:Nat} (hk:k<xs.length) : ∃ l,jr S h xs[k]=some (qo xs[k],l)/\∀ f0 l0,(0<k->qD S h (xs.take k)=some (some (f0,l0)))->(0<k->qM l0 (qo xs[k])=true)/\qD S h (xs.take (k+1))=some (some (if k=0 then qo xs[k] else f0,l)):=by
 have h2:=JT hs (k+1);rw[jV hk] at h2 ⊢;unfold jF at h2 ⊢;rcases hA:qD S h (xs.take k) with _|a
 ·rw[hA] at h2;cases h2
 ·rcases hO:jr S h xs[k] with _|⟨f,l⟩
  ·rw[hA,hO] at h2;cases h2
  ·rw[hA,hO] at h2;simp only at h2;split at h2
   ·rename_i hf;subst hf;refine⟨l,rfl,fun f0 l0 hp=>?_⟩;simp only[if_true];rcases a with _|⟨f1,l1⟩
    ·obtain rfl:k=0:=by
      rcases Nat.eq_zero_or_pos k with h0|h0
      ·exact h0
      ·exact absurd hA (Zd h0 zO)
     exact⟨fun h=>absurd h (Nat.lt_irrefl 0),rfl⟩
    ·have h0:0<k:=by
      rcases Nat.eq_zero_or_pos k with h0|h0
      ·subst h0;rw[List.take_zero] at hA;cases hA
      ·exact h0
     have:=hp h0;cases this;simp only at h2;split at h2
     ·rename_i hl;exact⟨fun _=>hl,by rw[if_neg zO];simp[hl]⟩
     ·cases h2
   ·cases h2
theorem one_now {S:Sto}:∀ {h:Nat} {y:It},(jr S h y).isSome=true->y.r=0\/0<(S.now[y.r.toNat]?.getD 0).toNat
 |0,y,h=>by
  unfold jr at h;split at h
  ·assumption
  ·cases h
 |h+1,y,hy=>by
  obtain⟨b,e,-,-,xs,hn,-⟩:=ZZ hy;refine .inr ?_;rw[e,Int.toNat_natCast];unfold qu at hn;split at hn
  ·cases hn
  ·omega
structure FEnv (S:Sto) (bS bB bW bb:Nat) (v1 v2 v3 v4 u1 u2 u3 u4:Value) (w:World):Prop where
 s:w.heap[bS]?=some (.cells #[v1,v2,v3,v4] 28 (0,0))
 b:w.heap[bB]?=some (.cells #[.pointer (some ⟨bb,0,none⟩)] 80 (0,0))
 f:w.heap[bW]?=some (.cells #[.func (.func 68) #[] #[.pointer (some ⟨bS,0,none⟩),.pointer (some ⟨bB,0,none⟩),.pointer (some ⟨bW,0,none⟩)]] 112 (0,0))
 n:Bys w w.heap.size v3 S.now
 on:OnB 0 bb u1 u2 u3 u4 S w
theorem OnB.ext {lo b:Nat} {v1 v2 v3 v4:Value} {S:Sto} {w W:World} (h:OnB lo b v1 v2 v3 v4 S w) (hx:Ext w W):OnB lo b v1 v2 v3 v4 S W:=⟨h.1,qb h.2.1 hx,h.2.2.ext hx⟩
theorem FEnv.ext {S:Sto} {bS bB bW bb:Nat} {v1 v2 v3 v4 u1 u2 u3 u4:Value} {w W:World} (h:FEnv S bS bB bW bb v1 v2 v3 v4 u1 u2 u3 u4 w) (hx:Ext w W):FEnv S bS bB bW bb v1 v2 v3 v4 u1 u2 u3 u4 W:=
 ⟨qb h.s hx,qb h.b hx,qb h.f hx,(h.n.below hx).more hx.size,h.on.ext hx⟩
structure WkI (S:Sto) (h:Nat) (xs:List It) (A:Option Addr) (c:Nat) (w wr:World) (k:Nat) (fk lk:K3) (b:Bool):Prop where
 rn:wr.heap[w.heap.size]?=some (.cells #[.int .i64 h,.slice A xs.length c] 49 (0,0))
 rr:wr.heap[w.heap.size+1]?=some (.cells (sp7 (0,0,0) (0,0,0) false) 114 (0,0))
 rx:wr.heap[w.heap.size+2]?=some (.cells (sp7 fk lk b) 114 (0,0))
 sp:0<k->qD S h (xs.take k)=some (some (fk,lk))/\b=true
 xt:Ext w wr
theorem WkI.ext {S:Sto} {h:Nat} {xs:List It} {A:Option Addr} {c:Nat} {w wr W:World} {k:Nat} {fk lk:K3} {b:Bool} (H:WkI S h xs A c w wr k fk lk b) (hx:Ext wr W):WkI S h xs A c w W k fk lk b:=
 ⟨qb H.rn hx,qb H.rr hx,qb H.rx hx,H.sp,H.xt.trans hx⟩
theorem WkI.low {S:Sto} {h:Nat} {xs:List It} {A:Option Addr} {c:Nat} {w wr W:World} {k:Nat} {fk lk:K3} {b:Bool} {q:Nat} (H:WkI S h xs A c w wr k fk lk b) (hx:Below q wr W) (hq:w.heap.size+2<q):WkI S h xs A c w W k fk lk b:=
 ⟨(hx.block _ zO).trans H.rn,(hx.block _ zO).trans H.rr,(hx.block _ zO).trans H.rx,H.sp,Below.trans H.xt (Below.mono hx zO)⟩
theorem WkI.set {S:Sto} {h:Nat} {xs:List It} {A:Option Addr} {c:Nat} {w wr W:World} {k:Nat} {fk lk ng lk':K3} {b:Bool} (H:WkI S h xs A c w wr k fk lk b) (hb:∀ j,j≠w.heap.size+1+1->W.heap[j]?=wr.heap[j]?) (hB:Below w.heap.size w W) (hx:W.heap[w.heap.size+1+1]?=some (.cells (sp7 ng lk' true) 114 (0,0))) (hs:qD S h (xs.take (k+1))=some (some (ng,lk'))):WkI S h xs A c w W (k+1) ng lk' true:=
 ⟨(hb _ zO).trans H.rn,(hb _ zO).trans H.rr,hx,fun _=>⟨hs,rfl⟩,hB⟩
theorem WkI.set7 {S:Sto} {h:Nat} {xs:List It} {A:Option Addr} {c:Nat} {w wr:World} {k:Nat} {fk lk ng lk':K3} {b:Bool} (H:WkI S h xs A c w wr k fk lk b) (hs:qD S h (xs.take (k+1))=some (some (ng,lk'))):WkI S h xs A c w (((((((wr.setCell ⟨w.heap.size+1+1,0,none⟩ (.int .u8 ng.1)).setCell ⟨w.heap.size+1+1,1,none⟩ (.int .u32 ng.2.1)).setCell ⟨w.heap.size+1+1,2,none⟩ (.int .u32 ng.2.2)).setCell ⟨w.heap.size+1+1,3,none⟩ (.int .u8 lk'.1)).setCell ⟨w.heap.size+1+1,4,none⟩ (.int .u32 lk'.2.1)).setCell ⟨w.heap.size+1+1,5,none⟩ (.int .u32 lk'.2.2)).setCell ⟨w.heap.size+1+1,6,none⟩ (.bool true)) (k+1) ng lk' true:=
 H.set (fun j hj=>(zJ _ _ _ _ hj).trans ((zJ _ _ _ _ hj).trans ((zJ _ _ _ _ hj).trans ((zJ _ _ _ _ hj).trans ((zJ _ _ _ _ hj).trans ((zJ _ _ _ _ hj).trans (zJ _ _ _ _ hj)))))))
  (qdC H.xt zO _ _ _ _ _ _ _) (row7 H.rx rfl _ _ _ _ _ _ _) hs
theorem WkI.set4 {S:Sto} {h:Nat} {xs:List It} {A:Option Addr} {c:Nat} {w wr:World} {k:Nat} {fk lk lk':K3} {b:Bool} (H:WkI S h xs A c w wr k fk lk b) (hs:qD S h (xs.take (k+1))=some (some (fk,lk'))):WkI S h xs A c w ((((wr.setCell ⟨w.heap.size+1+1,3,none⟩ (.int .u8 lk'.1)).setCell ⟨w.heap.size+1+1,4,none⟩ (.int .u32 lk'.2.1)).setCell ⟨w.heap.size+1+1,5,none⟩ (.int .u32 lk'.2.2)).setCell ⟨w.heap.size+1+1,6,none⟩ (.bool true)) (k+1) fk lk' true:=
 H.set (fun j hj=>(zJ _ _ _ _ hj).trans ((zJ _ _ _ _ hj).trans ((zJ _ _ _ _ hj).trans (zJ _ _ _ _ hj))))
  (Below.setCell (Below.setCell (Below.setCell (Below.setCell H.xt (p:=⟨w.heap.size+1+1,3,none⟩) zA1 _) (p:=⟨w.heap.size+1+1,4,none⟩) zA1 _) (p:=⟨w.heap.size+1+1,5,none⟩) zA1 _) (p:=⟨w.heap.size+1+1,6,none⟩) zA1 _)
  (qi (qi (qi (qi H.rx 3 _) 4 _) 5 _) 6 _) hs
theorem one_span {S:Sto} {h:Nat} {y:It} {p:K3×K3} (e:jr S (h+1) y=some p):∃ (b:Nat) (ys:List It),y.r=(b:Int)/\8<=b/\b<256/\qu S b=some ((h:Int),ys)/\qD S h ys=some (some p):=by
 obtain⟨b,hb,h1,h2,ys,hn,-⟩:=ZZ (by rw[e];rfl:(jr S (h+1) y).isSome=true);refine⟨b,ys,hb,h1,h2,hn,?_⟩;rw[Vv] at e;unfold Va at e;rw[if_pos zO,hb,Int.toNat_natCast,hn] at e;simp only[if_true] at e;rcases hs:qD S h ys with _|_|q
 ·rw[hs] at e;cases e
 ·rw[hs] at e;cases e
 ·rw[hs] at e;cases e;rfl
def WalkC (S:Sto) (bS bB bW bb:Nat) (v1 v2 v3 v4 u1 u2 u3 u4:Value) (h:Nat):Prop:=
 ∀ (xs:List It) (A:Option Addr) (c:Nat) (f l:K3) (lo:Nat) (w:World),FEnv S bS bB bW bb v1 v2 v3 v4 u1 u2 u3 u4 w->h<=5->xs.length<=5->(∀ x∈xs,0<=x.r/\x.r<256)->ZE lo w (.slice A xs.length c) xs->qD S h xs=some (some (f,l)) ->
  Calls prog 68 #[jE h A xs.length c,.pointer (some ⟨bS,0,none⟩),.pointer (some ⟨bB,0,none⟩),.pointer (some ⟨bW,0,none⟩)] w (Ret (.agg (sp7 f l true)) w)
theorem qeY {w:World} {B b o n c:Nat} {l:List UInt8} (h:Bys w B (.slice (some ⟨b,o,none⟩) n c) l) {a:Nat} (ha:a<l.length):w.cell? ⟨b,o+a,none⟩=some (.int .u8 ((l[a]?.getD 0).toNat:Int)):=by obtain⟨A',c',e,_,_,hr⟩:=h;rw[Value.slice.injEq] at e;obtain⟨rfl,_,rfl⟩:=e;obtain⟨b',off',e,_,hc⟩:=hr.2 zO;simp only[Option.some.injEq,Addr.mk.injEq,and_true] at e;obtain⟨rfl,rfl⟩:=e;exact hc a _ (by rw[List.getElem?_map,zL zO];rfl)
theorem qfR {S:Sto} (hS:qm S=true) {w:World} {B:Nat} {v:Value} (h:Bys w B v S.now):∃ b3 o3 c3,v=.slice (some ⟨b3,o3,none⟩) 256 c3/\256<=c3/\c3<=maxLen:=by obtain⟨-,-,nC,-⟩:=Qc hS;have hn:=h;obtain⟨A3,c3,e3,-⟩:=h;rw[e3] at hn;obtain⟨_,wG,yC,hA3⟩:=hn.at_;obtain⟨b3,o3,rfl,_⟩:=hA3 zO;rw[nC] at e3 wG;exact⟨b3,o3,c3,e3,wG,yC⟩
theorem qjO {R:Ending->World->Prop} {a:Act} {W:World} {b:Nat} {f l:K3} {bo:Bool} (h4:a.tmps[5]?.getD undef=.pointer (some ⟨b,0,none⟩)) (hd:a.defers=[]) (aF:W.heap[b]?=some (.cells (sp7 f l bo) 114 (0,0))) (hR:R (.returned (.agg (sp7 f l bo))) W):bodyPost prog Tryz.f68 R .ret a W:=by
 refine bodyPost_ret (v:=.agg (sp7 f l bo)) ?_ hd hR;have k:=qa aF;simp[results,results68,go_sem,h4,k]
set_option maxRecDepth 100000 in
theorem qgE (S:Sto) (hS:qm S=true) (bS bB bW bb:Nat) (v1 v2 v3 v4:Value) (A1:Option Addr) (n1 c1:Nat) (A2:Option Addr) (n2 c2:Nat) (A3:Option Addr) (n3 c3:Nat) (A4:Option Addr) (n4 c4:Nat) (h:Nat) (HW:∀ h':Nat,h=h'+1->WalkC S bS bB bW bb v1 v2 v3 v4 (.slice A1 n1 c1) (.slice A2 n2 c2) (.slice A3 n3 c3) (.slice A4 n4 c4) h'):WalkC S bS bB bW bb v1 v2 v3 v4 (.slice A1 n1 c1) (.slice A2 n2 c2) (.slice A3 n3 c3) (.slice A4 n4 c4) h:=by
 intro xs A c f l lo w hE hh5 hlen oJ aJ aN;obtain⟨b3,o3,d3,e3,hd3,yC⟩:=qfR hS hE.n;subst e3;have hDA:S.now.length=256:=(Qc hS).2.2.1;obtain⟨-,dV,bP,hA⟩:=aJ.its.at_;have hss:(qD S h xs).isSome=true:=by rw[aN];rfl
 replace aJ:=zH aJ;have HG:=zH (fun k hk=>qhW hss (k:=k) hk);have HN:=zH (fun y hy=>one_now (jv hss y hy));have HT:=zH (fun h' (e:h=h'+1) y (hy:y∈xs)=>ZZ (S:=S) (h:=h') (y:=y) (by have:=jv hss y hy;rw[e] at this;exact this));replace aN:=zH aN;replace hss:=zH hss;replace hE:=zH hE;replace oJ:=zH oJ;replace hh5:=zH hh5;replace hDA:=zH hDA;replace hS:=zH hS;go_enter func68,ntmps68;go_wp2;generalize aA:(World.alloc (World.alloc _ _) _)=w1;have x1:Ext w w1:=by rw[<-aA];exact((zN _ _).trans (zN _ _)).trans (zN _ _)
 have H1:WkI S h xs A c w w1 0 (0,0,0) (0,0,0) false:=by
  refine⟨?_,?_,?_,fun h0=>absurd h0 (Nat.lt_irrefl 0),x1⟩
  ·rw[<-aA];exact(zK _ _ _ zA1).trans ((zK _ _ _ zA2).trans (zI _ _ _ rfl))
  ·rw[<-aA];exact(zK _ _ _ zA2).trans (zI _ _ _ zA2)
  ·rw[<-aA];exact zI _ _ _ zA2
 clear aA x1;replace H1:=zH H1;go_loopw [15] (fun i wr=>∃ (k:Nat) (fk lk:K3) (b:Bool),k<=xs.length/\i=.int .i64 (k:Int)/\WkI S h xs A c w wr k fk lk b) (fun i _=>xs.length-(intOf i).toNat)
 case atStart=>exact⟨0,_,_,_,zO,rfl,H1.out⟩
 case round =>
  obtain⟨k,fk,lk,bk,hk,rfl,HR⟩:=hrel;clear H1;have xr:=HR.xt;have rnr:=HR.rn;have rxr:=HR.rx;have wW:=HR.rr;have z2:w.heap.size+2<wr.heap.size:=(zG.1 rxr).1;by_cases hlt:k<xs.length
  ·have aH:=hlt;obtain⟨b,off,rfl,hb⟩:=hA zO;obtain⟨A',c',d0,d1,d2,tY,d4,-⟩:=(aJ.out.ext xr).its.item k aH;have hxk:=oJ.out xs[k] (List.getElem_mem aH);have hnk:=HN.out xs[k] (List.getElem_mem aH);obtain⟨l1,hone,hgo⟩:=HG.out k aH;obtain⟨g1,g2⟩:=hgo fk lk (fun h0=>(HR.sp h0).1);have HTk:=zH (fun h' e=>HT.out h' e xs[k] (List.getElem_mem aH));generalize xs[k]=x at *;obtain⟨hDV,hDW⟩:=hxk;obtain⟨r,hr⟩:=Int.eq_ofNat_of_zero_le hDV;rw[hr] at tY hDW;have hr2:r<256:=zO;rw[hr,Int.toNat_natCast] at hnk;have hfN:=fun W (hx:Ext wr W)=>qeY ((hE.out.ext (xr.trans hx)).n) (a:=r) (by have:=hDA.out;omega);have hnr:(S.now[r]?.getD 0).toNat=(S.now[r]?.getD 0).toNat:=rfl;generalize gZ:(S.now[r]?.getD 0).toNat=nv at *;clear hnr;have hr0:(((r:Int) == 0)=true/\decide (r=0)=true)\/(((r:Int) == 0)=false/\decide (r=0)=false/\decide (0<nv)=true):=by
    rcases Nat.eq_zero_or_pos r with h0|h0
    ·subst h0;exact .inl ⟨zD,zD⟩
    ·exact .inr ⟨by rw[beq_eq_false_iff_ne];omega,decide_eq_false zO,decide_eq_true zO⟩
   replace hr:=zH hr;replace gZ:=zH gZ;replace hone:=zH hone;replace g1:=zH g1;replace g2:=zH g2;replace hnk:=zH hnk;unfold maxLen at yC;clear hDV hDW hgo;have knr:=qa rnr;have kxr:=qa rxr;replace hfN:=zH hfN;go_wp2_with fail;generalize lg:(World.alloc _ _)=wa;have xa:Ext wr wa:=by rw[<-lg];exact zN _ _
   have ra:wa.heap[wr.heap.size]?=some (.cells #[.int .u8 x.k,.int .u32 x.i,.int .u32 x.o,.int .i64 r,.slice A' x.val.length c'] 68 (0,0)):=by rw[<-lg];exact zI _ _ _ rfl
   clear lg d0 d1 d2 tY d4;have Ea:=hE.out.ext (xr.trans xa);have gC:∀ W,qj.r wa W->W.cell? ⟨bS,2,none⟩=some (.slice (some ⟨b3,o3,none⟩) 256 d3):=fun W h=>by rw[qa (qb Ea.s h)];rfl
   have gN:∀ W,qj.r wa W->W.cell? ⟨b3,o3+r,none⟩=some (.int .u8 (nv:Int)):=fun W h=>hfN.out W (xa.trans h);have gI:∀ W,qj.r wa W->∀ i,W.cell? ⟨wr.heap.size,i,none⟩=#[.int .u8 x.k,.int .u32 x.i,.int .u32 x.o,.int .i64 r,.slice A' x.val.length c'][i]?:=fun W h=>qa (qb ra h);clear knr kxr hfN;refine qp zQ ?_;refine ZH (w:=wa) qj (qH [(17,jS wa.heap.size 114 (sp7 (0,0,0) (0,0,0) false))]) [true,true,true,true,true,true,true,true,true,true,true,true,true,true,true,true,true,true] 1 zQ zQ zQ zQ zQ zQ ?st (Rel.drew _ _) ?walk
   case st=>exact qk (by simp only[List.forall_mem_cons];exact⟨fun p=>QI (ZP _ _ _ p),fun _ h=>by cases h⟩)
   case walk =>
    intro K hK;dsimp only[qt];rcases hr0 with ⟨yx,og⟩|⟨yx,og,oG⟩
    all_goals
     repeat ((first|(refine qd ?_ zA0 zA0 (fun W hW _=>⟨W,?_,Rel.refl _ W⟩) ?_;rotate_left;(go_simp<;>with_reducible rfl))|(refine qh zA0 ?_));try simp only[Act.put,ql,qg,qc,qf,qc,zA,zB,zC])
     try (
      refine qd (.pointer (some ⟨b3,o3+r,none⟩)) zA0 zA0 (fun W hW _=>⟨W,?_,Rel.refl _ W⟩) ?_
      ·go_simp;intro lG;exfalso;omega
      simp only[Act.put,qg,qc,qf,qc,zA,zB,zC])
     repeat ((first|(refine qd ?_ zA0 zA0 (fun W hW _=>⟨W,?_,Rel.refl _ W⟩) ?_;rotate_left;(go_simp<;>with_reducible rfl))|(refine qh zA0 ?_));try simp only[Act.put,ql,qg,qc,qf,qc,zA,zB,zC])
     refine qw (jS wa.heap.size 114 (sp7 (0,0,0) (0,0,0) false)) zA0 zA0 (fun W hW _=>?_) (fun (p8:Nat)=>?_)
     ·refine jN ?_ (Below.size hW);go_simp
     simp only[Act.put,qg,qc,qf,qc,zA,zB,zC];refine qv (hK _ _ fun W hW hF=>?_);obtain⟨f8,aP⟩:W.heap[p8]?=some (.cells (sp7 (0,0,0) (0,0,0) false) 114 (0,0))/\wa.heap.size<=p8:=(hF 17).1;clear hF hK gC gN gI;have ak:Ext wa W:=hW;refine zB5 ?_;have k8:=qa f8;have h8:=qe f8;go_wp2;refine Qo ?_;have x5:Ext wa _:=qdC ak aP (.int .u8 x.k) (.int .u32 x.i) (.int .u32 x.o) (.int .u8 x.k) (.int .u32 x.i) (.int .u32 x.o) (.bool true);have r8:=row7 f8 rfl (.int .u8 x.k) (.int .u32 x.i) (.int .u32 x.o) (.int .u8 x.k) (.int .u32 x.i) (.int .u32 x.o) (.bool true);generalize aV:(World.setCell (World.setCell (World.setCell (World.setCell (World.setCell (World.setCell (World.setCell W _ _) _ _) _ _) _ _) _ _) _ _) _ _)=w5 at *;clear aV k8 h8 f8 hW ak yx og;have H5:=HR.ext (xa.trans x5);have r5:=qb ra x5;have z8:wr.heap.size<p8:=Nat.lt_of_lt_of_le (zG.1 ra).1 aP;have z8':p8<w5.heap.size:=(zG.1 r8).1;have kn5:=qa H5.rn;rcases Nat.eq_zero_or_pos h with hz|hz
     case' inl =>
      have hd2:decide (0<h)=false:=decide_eq_false zO;have pR:l1=qo x:=by
       have:=hone.out;rw[hz] at this;unfold jr at this;split at this
       ·cases this;rfl
       ·cases this
      have H7:=H5;replace r8:w5.heap[p8]?=some (.cells (sp7 (qo x) l1 true) 114 (0,0)):=by rw[pR];exact r8
      replace hz:=zH hz;replace pR:=zH pR;replace H5:=zH H5;replace H7:=zH H7;clear rnr rxr wW;go_upto_region 11 with fail
     case' inr =>
      obtain⟨h',hh⟩:∃ h',h=h'+1:=⟨h-1,zO⟩
      have dV:(h':Int)=(h:Int)-1:=zO;obtain⟨b',ys,e1,e2,e3,e4,e5⟩:=one_span (by rw[<-hh];exact hone.out);have hrb:r=b':=by have:=hr.out;omega
      subst hrb;have hd2:decide (0<h)=true:=decide_eq_true hz;have iM:wrap64 ((h:Int)-1)=(h:Int)-1:=IntWalk.wrap64_in _ (by have:=hh5.out;omega);replace iM:=zH iM;obtain⟨hm1,lJ,-⟩:=qN e4;have hyl:ys.length<=5:=by unfold Qb ZR at hm1;simp at hm1;omega
      have hyn:0<ys.length:=by
       rcases Nat.eq_zero_or_pos ys.length with h0|h0
       ·obtain rfl:=List.eq_nil_of_length_eq_zero h0;cases e5
       ·exact h0
      have hHW:=zH (fun W (hx:Ext w5 W) A9 c9 lo9 (hi9:ZE lo9 W (.slice A9 ys.length c9) ys)=>HW h' hh ys A9 c9 (qo x) l1 lo9 W (hE.out.ext ((xr.trans (xa.trans x5)).trans hx)) (by have:=hh5.out;omega) hyl (fun y hy=>(lJ y hy).1.2.2.2.1) hi9 e5);have su:=zH (Kn 0 bb A1 n1 c1 A2 n2 c2 A3 n3 c3 A4 n4 c4 S hS.out r e2 e3 w5 (hE.out.ext (xr.trans (xa.trans x5))).on);rw[e4] at su;have hy1:((ys.length:Int) == 0)=false:=by rw[beq_eq_false_iff_ne];omega
      have kb5:=qa (hE.out.ext (xr.trans (xa.trans x5))).b;have ki5:=qa r5;replace hh:=zH hh;replace hz:=zH hz;replace H5:=zH H5;replace e4:=zH e4;replace e5:=zH e5;replace dV:=zH dV;clear rnr rxr wW hm1 lJ hyl hyn e1 e2 e3;go_wp2_with fail;refine su.out.mono ?_;clear su;rintro e w6 ⟨u,rfl,hu,dC⟩;obtain⟨A9,c9,rfl,mg⟩:=hu;rw[dV.out];have H6:=H5.out.ext dC;have r86:=qb r8 dC;have r56:=qb r5 dC;have E6:=hE.out.ext ((xr.trans (xa.trans x5)).trans dC);have kn6:=qa H6.rn;have kf6:=qa E6.f;have z6:p8<w6.heap.size:=(zG.1 r86).1;have z66:=(zG.1 H6.rn).1;have zf6:=(zG.1 E6.f).1;replace H6:=zH H6;replace E6:=zH E6;replace mg:=zH mg;have hw64':=iM.out;clear r8 r5 ki5 kb5 kn5 x5;go_wp2_with fail;generalize gp:(World.alloc w6 _)=w7;have x7:Ext w6 w7:=by rw[<-gp];exact zN _ _
      clear gp;have dL:=hHW.out w7 (Ext.trans dC x7) A9 c9 _ (mg.out.ext x7);rw[dV.out] at dL;refine dL.mono ?_;clear dL hHW;rintro e w8 ⟨rfl,hB8⟩;have x8:Ext w6 w8:=x7.trans hB8;have H8:=H6.out.ext x8;have r88:=qb r86 x8;have r58:=qb r56 x8;have b8:=row7 r88 rfl (.int .u8 (qo x).1) (.int .u32 (qo x).2.1) (.int .u32 (qo x).2.2) (.int .u8 l1.1) (.int .u32 l1.2.1) (.int .u32 l1.2.2) (.bool true);have x9:∀ q≤p8,Below q w8 _:=fun q hq=>qdC (Below.refl q w8) hq (.int .u8 (qo x).1) (.int .u32 (qo x).2.1) (.int .u32 (qo x).2.2) (.int .u8 l1.1) (.int .u32 l1.2.1) (.int .u32 l1.2.2) (.bool true);have f8:=qe r88;have k8:=qa r88;have z8:w.heap.size+2<p8:=zO;clear r86 r56 kn6 kf6;replace hz:=zH hz.out;replace H8:=zH H8;go_upto_region 11 with fail;have H7:=H8.out.low (x9 p8 (zM _)) z8;have r5:=((x9 p8 (zM _)).block wr.heap.size zO).trans r58;clear x9 r88 r58 f8 k8;generalize yF:(World.setCell (World.setCell (World.setCell (World.setCell (World.setCell (World.setCell (World.setCell w8 _ _) _ _) _ _) _ _) _ _) _ _) _ _)=w9 at *;clear yF z8' hB8 x8 dC x7 z6 z66 zf6;have r8:w9.heap[p8]?=some (.cells (sp7 (qo x) l1 true) 114 (0,0)):=b8;clear b8;replace H7:=zH H7
     all_goals
      replace HR:=zH HR;clear xa;have kn7:=qa H7.out.rn;have kx7:=qa H7.out.rx;have fx7:=qe H7.out.rx;have k8:=qa r8;have k5:=qa r5;rcases Nat.eq_zero_or_pos k with rX|rX
      ·have hk1:decide ((k:Int)>0)=false:=decide_eq_false zO;have hk2:((k:Int) == 0)=true:=by rw[beq_iff_eq];omega
       have uP:decide (0<k)=false:=decide_eq_false zO;have HN:=g2.out;rw[if_pos rX] at HN;have HR9:=H7.out.set7 HN;replace HN:=zH HN;replace rX:=zH rX;dsimp only[qo] at HR9;replace HR9:=zH HR9;clear hk;go_wp2_with fail;refine⟨⟨k+1,(x.k,x.i,x.o),l1,true,aH,rfl,HR9.out⟩,?_⟩;simp[intOf];omega
      ·have hk1:decide ((k:Int)>0)=true:=decide_eq_true zO;have hk2:((k:Int) == 0)=false:=by rw[beq_eq_false_iff_ne];omega
       have uP:decide (0<k)=true:=decide_eq_true rX;have HN:=g2.out;rw[if_neg zO] at HN;replace HN:=zH HN;have hls:Jh lk.1 lk.2.1 lk.2.2 x.k x.i x.o=true:=g1.out rX;replace hls:=zH hls;replace rX:=zH rX;clear hk;go_wp2_with fail;refine(vK lk.1 lk.2.1 lk.2.2 x.k x.i x.o _).mono ?_;rintro e wl ⟨rfl,hB⟩;rw[hls.out];have H8':=H7.out.ext hB;have kx8:=qa H8'.rx;have fx8:=qe H8'.rx;have k88:=qa (qb r8 hB);have HR9:=zH (H8'.set4 HN.out);replace H8':=zH H8';clear kn7 kx7 fx7 k8 k5 hB r8 r5;go_wp2_with fail;refine⟨⟨k+1,fk,l1,true,aH,rfl,HR9.out⟩,?_⟩;simp[intOf];omega
  ·have mD:k=xs.length:=zO;have hx0:0<xs.length:=by
    rcases Nat.eq_zero_or_pos xs.length with h0|h0
    ·have:=aN.out;rw[List.eq_nil_of_length_eq_zero h0] at this;cases this
    ·exact h0
   obtain⟨hs1,rfl⟩:=HR.sp zO;rw[mD,List.take_length,aN.out] at hs1;simp only[Option.some.injEq,Prod.mk.injEq] at hs1;obtain⟨rfl,rfl⟩:=hs1;have kx:=qa rxr;have kr:=qa wW;have fr:=qe wW;have rr:=zH wW;have xrh:=zH xr;replace HR:=zH HR;replace mD:=zH mD;clear rxr rnr wW xr;go_wp2;exact qjO (b:=w.heap.size+1) rfl rfl (row7 rr.out rfl _ _ _ _ _ _ _) ⟨rfl,qdC xrh.out zO _ _ _ _ _ _ _⟩
theorem qgD (S:Sto) (hS:qm S=true) (bS bB bW bb:Nat) (v1 v2 v3 v4:Value) (A1:Option Addr) (n1 c1:Nat) (A2:Option Addr) (n2 c2:Nat) (A3:Option Addr) (n3 c3:Nat) (A4:Option Addr) (n4 c4:Nat) : ∀ h:Nat,WalkC S bS bB bW bb v1 v2 v3 v4 (.slice A1 n1 c1) (.slice A2 n2 c2) (.slice A3 n3 c3) (.slice A4 n4 c4) h
 |0=>qgE S hS bS bB bW bb v1 v2 v3 v4 A1 n1 c1 A2 n2 c2 A3 n3 c3 A4 n4 c4 0 fun _ e=>zO
 |h+1=>qgE S hS bS bB bW bb v1 v2 v3 v4 A1 n1 c1 A2 n2 c2 A3 n3 c3 A4 n4 c4 (h+1) fun h' e=>by obtain rfl:h=h':=zO;exact qgD S hS bS bB bW bb v1 v2 v3 v4 A1 n1 c1 A2 n2 c2 A3 n3 c3 A4 n4 c4 h
theorem now_pos {S:Sto} {a:Nat} {q:Int×List It} (h:qu S a=some q):0<(S.now[a]?.getD 0).toNat:=by
 unfold qu at h;split at h
 ·cases h
 ·omega
theorem qjI (f l:K3) (b:Bool) (w:World):(Instr.field 114 (.agg (sp7 f l b)) 2).run prog w=.ok (.bool b) w:=zQ
theorem qaT {R:Ending->World->Prop} {a:Act} {W:World} {u v:Value} (h4:a.tmps[4]?.getD undef=u) (h5:a.tmps[5]?.getD undef=v) (hd:a.defers=[]) (hR:R (.returned (.tuple #[u,v])) W):bodyPost prog Tryz.f29 R .ret a W:=by refine bodyPost_ret (v:=.tuple #[u,v]) ?_ hd hR;simp[results,results29,go_sem,h4,h5]
set_option maxRecDepth 100000 in
theorem qft (A1:Option Addr) (n1 c1:Nat) (A2:Option Addr) (n2 c2:Nat) (A3:Option Addr) (n3 c3:Nat) (A4:Option Addr) (n4 c4:Nat) (S:Sto) (hS:qm S=true) (a:Nat) (hT:VU S a) (w:World) (aI:qU w w.heap.size (.slice A1 n1 c1) (.slice A2 n2 c2) (.slice A3 n3 c3) (.slice A4 n4 c4) S):Calls prog 29 #[Qd A1 n1 c1 A2 n2 c2 A3 n3 c3 A4 n4 c4,.int .i64 (a:Int)] w (Za (fun u _=>∃ (lvl:Nat) (xs:List It),qu S a=some ((lvl:Int),xs)/\lvl<=5/\u=.tuple #[.int .i64 ((lvl:Int)+1),.int .i64 0]) w):=by
 obtain⟨ha,aj,lvl,xs,hn,aN⟩:=hT;have di:=now_pos hn;obtain⟨hm1,lJ,-⟩:=qN hn;have gu:xs.length<=5:=by unfold Qb ZR at hm1;simp at hm1;omega
 have hll:lvl<=5:=by unfold Qb ZR at hm1;simp at hm1;omega
 have nC:S.now.length=256:=(Qc hS).2.2.1;obtain⟨b3,o3,d3,e3,hd3,yC⟩:=qfR hS aI.now;simp only[Value.slice.injEq] at e3;obtain⟨rfl,rfl,rfl⟩:=e3;have aC:=qeY aI.now (a:=a) zO;have HCK:=zH (fun W (hx:Ext w W)=>Jw A1 n1 c1 A2 n2 c2 (some ⟨b3,o3,none⟩) 256 c3 A4 n4 c4 S W (aI.ext hx));have HON:=zH (fun W (hx:Ext w W)=>qdU A1 n1 c1 A2 n2 c2 (some ⟨b3,o3,none⟩) 256 c3 A4 n4 c4 S zO W (aI.ext hx));have HST:=zH aI;have ha3:decide ((a:Int)<8)=false:=decide_eq_false zO;have ha5:decide ((a:Int)≥256)=false:=decide_eq_false zO;have ha8:(a:Int)<256:=zO;generalize gZ:(S.now[a]?.getD 0).toNat=nv at *;have oD:((nv:Int) == 0)=false:=by rw[beq_eq_false_iff_ne];omega
 replace gZ:=zH gZ;replace hm1:=zH hm1;replace lJ:=zH lJ;replace hn:=zH hn;replace aN:=zH aN;replace hS:=zH hS;replace yC:=zH yC;replace nC:=zH nC;have hwr:Hid (wrap64 ((lvl:Int)+1)=(lvl:Int)+1):=zH (IntWalk.wrap64_in _ zO);replace hll:=zH hll;clear aI di;go_enter func29,ntmps29;go_wp2_with fail;generalize aA:(World.alloc _ _)=w1;have x1:Ext w w1:=by rw[<-aA];exact zN _ _
 have r1:w1.heap[w.heap.size]?=some (.cells #[.slice A1 n1 c1,.slice A2 n2 c2,.slice (some ⟨b3,o3,none⟩) 256 c3,.slice A4 n4 c4] 28 (0,0)):=by rw[<-aA];exact zI _ _ _ rfl
 clear aA;refine(HCK.out w1 x1).mono ?_;clear HCK;rintro e w2 ⟨rfl,hB⟩;have x2:Ext w w2:=x1.trans hB;have r2:=qb r1 hB;rw[hS.out,show JA true=0 from rfl];have k2:=qa r2;have bP:=Ext.cell x2 aC;clear r1 hB x1 aC;go_wp2_with fail;refine(HON.out w2 x2).mono ?_;clear HON;rintro e w3 ⟨u,rfl,⟨bb,A3',c3',rfl,wu,-⟩,hB⟩;have x3:Ext w w3:=Ext.trans x2 hB;have r3:=qb r2 hB;clear k2 bP r2 x2 hB;replace wu:=zH wu;go_wp2_with fail;generalize hw4:(World.alloc w3 _)=w4;have x34:Ext w3 w4:=by rw[<-hw4];exact zN _ _
 have rb4:w4.heap[w3.heap.size]?=some (.cells #[.pointer (some ⟨bb,0,none⟩)] 80 (0,0)):=by rw[<-hw4];exact zI _ _ _ rfl
 have rs4:=qb r3 x34;have hOn4:=zH (wu.out.ext x34);have x4:Ext w w4:=x3.trans x34;clear hw4;have su:=Kn 0 bb A1 n1 c1 A2 n2 n2 A3' 256 c3' A4 n4 c4 S hS.out a ha aj w4 ⟨Nat.zero_le _,(wu.out.ext x34).2⟩;rw[hn.out] at su;refine su.mono ?_;clear su;rintro e w5 ⟨u,rfl,⟨A9,c9,rfl,aJ⟩,hB⟩;have iW:Ext w4 w5:=hB;have rs5:=qb rs4 iW;have rb5:=qb rb4 iW;have hOn5:=zH (hOn4.out.ext iW);have x5:Ext w w5:=x4.trans iW;replace aJ:=zH aJ;clear rs4 rb4 hB iW x34 x4 x3 hOn4 wu r3;rcases Nat.eq_zero_or_pos xs.length with h0|h0
 ·have hx1:decide ((xs.length:Int)>0)=false:=decide_eq_false zO;have hx2:decide (0<xs.length)=false:=decide_eq_false zO;replace h0:=zH h0;go_wp2_with fail;exact qaT (u:=.int .i64 ((lvl:Int)+1)) (by show Value.int .i64 (wrap64 _)=_;rw[hwr.out]) rfl rfl ⟨_,rfl,⟨lvl,xs,hn.out,hll.out,rfl⟩,x5.trans ((zN _ _).trans (zN _ _))⟩
 ·have hx1:decide ((xs.length:Int)>0)=true:=decide_eq_true zO;have hx2:decide (0<xs.length)=true:=decide_eq_true h0;obtain⟨⟨f,l⟩,hfl⟩:∃ p,qD S lvl xs=some (some p):=by
   rcases hq:qD S lvl xs with _|_|p
   ·have:=aN.out;rw[hq] at this;cases this
   ·exact absurd (by rw[List.take_length];exact hq) (Zd (S:=S) (h:=lvl) h0 (zM xs.length))
   ·exact⟨p,rfl⟩
  replace h0:=zH h0;replace hfl:=zH hfl;go_wp2_with fail;generalize ik:(World.alloc (World.alloc w5 _) _)=w6;have oM:Ext w5 w6:=by rw[<-ik];exact(zN _ _).trans (zN _ _)
  have rf6:w6.heap[w5.heap.size+1]?=some (.cells #[.func (.func 68) #[] #[.pointer (some ⟨w.heap.size,0,none⟩),.pointer (some ⟨w3.heap.size,0,none⟩),.pointer (some ⟨w5.heap.size+1,0,none⟩)]] 112 (0,0)):=by rw[<-ik];exact zI _ _ _ zA2
  have rn6:w6.heap[w5.heap.size]?=some (.cells #[.int .i64 lvl,.slice A9 xs.length c9] 49 (0,0)):=by rw[<-ik];exact(zK _ _ _ zA2).trans (zI _ _ _ rfl)
  clear ik;have x6:Ext w w6:=x5.trans oM;have dL:=qgD S hS.out w.heap.size w3.heap.size (w5.heap.size+1) bb (.slice A1 n1 c1) (.slice A2 n2 c2) (.slice (some ⟨b3,o3,none⟩) 256 c3) (.slice A4 n4 c4) A1 n1 c1 A2 n2 n2 A3' 256 c3' A4 n4 c4 lvl xs A9 c9 f l _ w6
   ⟨qb rs5 oM,qb rb5 oM,rf6,(HST.out.ext x6).now,⟨Nat.zero_le _,(hOn5.out.ext oM).2⟩⟩ hll.out gu (fun y hy=>(lJ.out y hy).1.2.2.2.1) (aJ.out.ext oM) hfl.out
  refine dL.mono ?_;clear dL;rintro e w7 ⟨rfl,hB⟩;have rn7:=qb rn6 hB;have kn7:=qa rn7;have x7:=zH (x6.trans hB);clear rs5 rb5 rf6 rn6 hB x6 oM x5;have hfi:=qjI;go_wp2_with fail;exact qaT (u:=.int .i64 ((lvl:Int)+1)) (by show Value.int .i64 (wrap64 _)=_;rw[hwr.out]) rfl rfl ⟨_,rfl,⟨lvl,xs,hn.out,hll.out,rfl⟩,x7.out⟩
theorem KS (A1:Option Addr) (n1 c1:Nat) (A2:Option Addr) (n2 c2:Nat) (A3:Option Addr) (n3 c3:Nat) (A4:Option Addr) (n4 c4:Nat) (S:Sto) (hS:qm S=true) (a:Nat) (hT:VU S a) (w:World) (aI:qU w w.heap.size (.slice A1 n1 c1) (.slice A2 n2 c2) (.slice A3 n3 c3) (.slice A4 n4 c4) S):Calls prog 29 #[Qd A1 n1 c1 A2 n2 c2 A3 n3 c3 A4 n4 c4,.int .i64 (a:Int)] w (Za (fun u _=>∃ m:Int,u=.tuple #[.int .i64 m,.int .i64 0]) w):=
 (qft A1 n1 c1 A2 n2 c2 A3 n3 c3 A4 n4 c4 S hS a hT w aI).mono fun e w' ⟨u,he,⟨_,_,_,_,hu⟩,hB⟩=>⟨u,he,⟨_,hu⟩,hB⟩
def Td (S:Sto) (x:It):Int:=if itB x.r x.val.length=true then (if x.r≠0/\Zj S x.r.toNat=0 then 6 else 0) else 8
abbrev itV (x:It) (A:Option Addr) (c:Nat):Value:=.agg #[.int .u8 x.k,.int .u32 x.i,.int .u32 x.o,.int .i64 x.r,.slice A x.val.length c]
set_option maxRecDepth 100000 in
theorem qhO (A1:Option Addr) (n1 c1:Nat) (A2:Option Addr) (n2 c2:Nat) (A3:Option Addr) (n3 c3:Nat) (A4:Option Addr) (n4 c4:Nat) (S:Sto) (hS:qm S=true) (a lvl:Nat) (xs:List It) (ha:8<=a) (aj:a<256) (hn:qu S a=some ((lvl:Int),xs)) (aN:(qD S lvl xs).isSome=true) (x:It) (Ax:Option Addr) (cx:Nat) (w:World) (aI:qU w w.heap.size (.slice A1 n1 c1) (.slice A2 n2 c2) (.slice A3 n3 c3) (.slice A4 n4 c4) S):Calls prog 97 #[Qd A1 n1 c1 A2 n2 c2 A3 n3 c3 A4 n4 c4,.int .i64 (a:Int),itV x Ax cx] w (Ret (.int .i64 (Td S x)) w):=by
 have HCK:=zH (fun W (hx:Ext w W)=>KS A1 n1 c1 A2 n2 c2 A3 n3 c3 A4 n4 c4 S hS a ⟨ha,aj,lvl,xs,hn,aN⟩ W (aI.ext hx));have HIC:=zH (fun W=>Js x.k x.i x.o x.r Ax x.val.length cx W);have yu:=Gc hS aI.now;obtain⟨b3,o3,cc3,e3,dK,oC⟩:=yu;simp only[Value.slice.injEq] at e3;obtain⟨rfl,rfl,rfl⟩:=e3;have oC:=zH oC;obtain⟨q,hq⟩:∃ q,Td S x=q:=⟨_,rfl⟩
 rw[hq];replace hq:=zH hq;clear aI hn aN ha aj;go_enter func97,ntmps97;go_wp2_with fail;generalize aA:(World.alloc (World.alloc w _) _)=w1;have x1:Ext w w1:=by rw[<-aA];exact(zN _ _).trans (zN _ _)
 have tX:w1.heap[w.heap.size]?=some (.cells #[.slice A1 n1 c1,.slice A2 n2 c2,.slice (some ⟨b3,o3,none⟩) 256 c3,.slice A4 n4 c4] 28 (0,0)):=by rw[<-aA];exact(zK _ _ _ zA2).trans (zI _ _ _ rfl)
 have ri1:w1.heap[w.heap.size+1]?=some (.cells #[.int .u8 x.k,.int .u32 x.i,.int .u32 x.o,.int .i64 x.r,.slice Ax x.val.length cx] 68 (0,0)):=by rw[<-aA];exact zI _ _ _ zA2
 clear aA;refine(HCK.out w1 x1).mono ?_;clear HCK;rintro e w2 ⟨u,rfl,⟨m,rfl⟩,hB⟩;have x2:Ext w w2:=Ext.trans x1 hB;have xh:=qb tX hB;have pG:=qb ri1 hB;have ki2:=qa pG;clear tX ri1 hB x1;go_wp2_with fail;refine(HIC.out w2).mono ?_;clear HIC;rintro e w3 ⟨rfl,hB⟩;have x3:Ext w w3:=Ext.trans x2 hB;have rs3:=qb xh hB;have ri3:=qb pG hB;have ki3:=qa ri3;have ks3:=qa rs3;clear xh pG hB x2 ki2;cases hit:itB x.r x.val.length
 ·have hqq:q=8:=by rw[<-hq.out];unfold Td;rw[hit];rfl
  subst hqq;rw[Jp rfl];go_wp2_with fail;go_ret;exact⟨rfl,x3⟩
 ·have hrr:x.r=0\/(8<=x.r/\x.r<256):=by unfold itB at hit;simp at hit;exact hit.1
  have hqq:Hid (q=if x.r≠0/\Zj S x.r.toNat=0 then 6 else 0):=zH (by rw[<-hq.out];unfold Td;rw[if_pos hit]);rw[show JA true=0 from rfl];replace hit:=zH hit;clear hq;rcases hrr with hr0|oH
  ·have hq0:=zH (show q=0 by rw[hqq.out,if_neg (fun h=>h.1 hr0)]);rw[hr0] at ki3;clear hqq rs3 ri3;go_wp2_with fail;go_ret;exact⟨by rw[hq0.out];rfl,x3⟩
  ·obtain⟨r,hra⟩:∃ r:Nat,x.r=(r:Int):=⟨x.r.toNat,zO⟩
   have pY:r<256:=zO;have pg:8<=r:=zO;have hkr:=Ext.cell x3 (oC.out r pY);rw[hra] at ki3;rw[hra,Int.toNat_natCast] at hqq;have aW:((r:Int) != 0)=true:=by rw[bne_iff_ne];omega
   generalize Zj S r=nv at *;clear hra oH rs3 ri3;by_cases h0:nv=0
   ·have hq0:=zH (show q=6 by rw[hqq.out,if_pos ⟨zO,h0⟩]);subst h0;clear hqq;go_wp2_with fail;go_ret;exact⟨by rw[hq0.out];rfl,x3⟩
   ·have hq0:=zH (show q=0 by rw[hqq.out,if_neg (fun h=>h0 h.2)]);have hy1:((nv:Int) == 0)=false:=by rw[beq_eq_false_iff_ne];omega
    replace h0:=zH h0;clear hqq;go_wp2_with fail;go_ret;exact⟨by rw[hq0.out];rfl,x3⟩
theorem Vh (k:K3):∀ (ps qs:List Stp) (up:List It) (S:Sto),jp k (ps++qs) up S=match jp k ps up S with
  | .error e=>.error e
  | .ok (up',S')=>jp k qs up' S'
 | [],qs,up,S=>rfl
 |(lvl,xs,p) :: ps,qs,up,S=>by
  simp only[List.cons_append,jp];rcases QW S (lvl:Int) (VL xs p (JE k lvl xs) up) up with e|⟨up',S'⟩
  ·rfl
  ·exact Vh k ps qs up' S'
theorem UX (k:K3) (s:Stp) (up:List It) (S:Sto):jp k [s] up S=QW S (s.1:Int) (VL s.2.1 s.2.2 (JE k s.1 s.2.1) up) up:=by obtain⟨lvl,xs,p⟩:=s;simp only[jp];rcases QW S (lvl:Int) (VL xs p (JE k lvl xs) up) up with e|⟨up',S'⟩ <;> rfl
theorem Ts:∀ {l:List Nat} {t:List UInt8} {e:Int},QJ l t=.error e->e≠0
 | [],t,e,h=>by cases h
 |a :: l,t,e,h=>by
  by_cases ha:a=0
  ·subst ha;rw[JD] at h;exact Ts h
  ·by_cases h0:qZ t a=0
   ·rw[vk ha h0] at h;cases h;decide
   ·rw[JC ha h0] at h;exact Ts h
theorem qcW {lvl:Int}:∀ {ps:List (List It)} {S:Sto} {e:Int},jf lvl ps S=.error e->e≠0
 | [],S,e,h=>by cases h
 |p :: ps,S,e,h=>by
  simp only[jf] at h;split at h
  ·rename_i e' h';cases h;exact Xu h'
  ·split at h
   ·rename_i e' h';cases h;exact qcW h'
   ·cases h
theorem KK {S:Sto} {lvl:Int} {l held:List It} {e:Int} (h:QW S lvl l held=.error e):e≠0:=by
 unfold QW at h;split at h
 ·rename_i e' h';cases h;exact qcW h'
 ·split at h
  ·rename_i e' h';cases h;exact Ts h'
  ·cases h
structure qeJ (k:K3) (s:Stp):Prop where
 may:Qb (s.1:Int) s.2.1=true
 its:∀ x∈s.2.1,Zm x/\itB x.r x.val.length=true
 len:s.2.1.length<=5
 le:s.2.2<=s.2.1.length
 lt:0<s.1->s.2.2<s.2.1.length
 zero:s.1=0->s.2.2=qA s.2.1 k
theorem qiq {S:Sto} {k:K3}:∀ (h:Nat) {a:Nat} {xs:List It},qu S a=some ((h:Int),xs)->(qD S h xs).isSome=true->∀ s∈km S k h xs,qeJ k s
 |0,a,xs,hn,hs,s,hm=>by
  rw[qbR] at hm;obtain rfl:s=(0,xs,qA xs k):=by simpa using hm
  obtain⟨m1,m2,_⟩:=qN hn;exact⟨m1,m2,(jl hn).2.2,Jl xs k,fun h=>absurd h (Nat.lt_irrefl 0),fun _=>rfl⟩
 |h+1,a,xs,hn,hs,s,hm=>by
  obtain⟨m1,m2,_⟩:=qN hn;have hx:=qaw m1 zO;obtain⟨b,e1,-,-,zs,e4,e5⟩:=ZZ (jv hs _ (List.getElem_mem (jY (k:=k) hx)));rw[UH (zL (jY hx)) (by rw[e1,Int.toNat_natCast];exact e4)] at hm;rcases List.mem_cons.1 hm with rfl|hm
  ·exact⟨m1,m2,(jl hn).2.2,Nat.le_of_lt (jY hx),fun _=>jY hx,fun h=>by cases h⟩
  ·exact qiq h e4 e5 s hm
theorem many_ok {k:K3} {s:Stp} (h:qeJ k s):(JE k s.1 s.2.1=0\/JE k s.1 s.2.1=1)/\s.2.2+JE k s.1 s.2.1<=s.2.1.length:=by
 have hle:=h.le;unfold JE;split
 ·exact⟨.inl rfl,zO⟩
 ·rename_i hc;refine⟨.inr rfl,?_⟩;rcases Nat.eq_zero_or_pos s.1 with h0|h0
  ·rw[h.zero h0] at hle ⊢;by_cases hl:qA s.2.1 k<s.2.1.length
   ·omega
   ·exact absurd ⟨h0,Xt hl⟩ hc
  ·have:=h.lt h0;omega
theorem Bch.of_on {B lo b:Nat} {A1:Option Addr} {n1 c1:Nat} {A2:Option Addr} {n2 c2:Nat} {A3:Option Addr} {n3 c3:Nat} {A4:Option Addr} {n4 c4:Nat} {A3':Option Addr} {c3':Nat} {S:Sto} {W:World} (hB:B<=lo) (hS:qm S=true) (aI:qU W B (.slice A1 n1 c1) (.slice A2 n2 c2) (.slice A3 n3 c3) (.slice A4 n4 c4) S) (aP:lo<=b) (hr:W.heap[b]?=some (.cells #[.slice A1 n1 c1,.slice A2 n2 n2,.slice A3' n3 c3',.slice A4 n4 c4] 191 (0,0))) (ho:W.ownsRow lo 5 1 (.slice A3' n3 c3') n3 (S.now.map bv)):∃ g,Bch (fun _=>False) B lo b g none S W:=by
 obtain⟨pR,yh,nC,hl4⟩:=Qc hS;have e3:=aI.now.at_.1;have e4:=aI.last.at_.1;obtain rfl:n3=256:=zO;obtain rfl:n4=256:=zO;obtain⟨g,rfl⟩:∃ g,A3'=some ⟨g,0,none⟩:=by
  rcases ho.2 with ⟨_,h0⟩|⟨g,_,_,e,_⟩
  ·cases h0
  ·cases e;exact⟨g,rfl⟩
 refine⟨g,aP,hB,fun q h=>h.elim,A1,n1,c1,.slice A2 n2 n2,c3',A4,c4,hr,ho,?_,aI.bs,aI.last⟩;obtain⟨ps,e,⟨A,c,e2,h1,h2,oh⟩,hp⟩:=aI.ws;simp only[Value.slice.injEq] at e2;obtain⟨rfl,rfl,rfl⟩:=e2;refine⟨ps,e,.inl ⟨rfl,zO,A2,rfl,oh⟩,fun p af=>⟨(hp p af).1,fun C hC=>(hp p af).2.keepX hC fun q hq hx=>by have:=hx.1;omega⟩⟩
def Gg (S:Sto) (L:Nat) (xs:List It) (x:It):Except Int (List It×Sto):=
 if qab (qo x) (km S (qo x) L xs)=true then .error 120 else
 match jp (qo x) (km S (qo x) L xs).reverse [x] S with
 | .error e=>.error e
 | .ok (up,S1)=>if 1<up.length then QW S1 ((km S (qo x) L xs).length:Int) up up else .ok (up,S1)
def Yk (up:List It):Nat:=match up with
 | []=>0
 |y :: _=>y.r.toNat
theorem qek (S:Sto) (L:Nat) (xs:List It) (root:Nat) (x:It):putX S L xs root x=match Gg S L xs x with
  | .error e=>.error e
  | .ok (up,S2)=>match QQ S2 (-1) S2.now root with
   |none=>.error 8
   |some t=>.ok (Yk up,qy S2 t):=by
 unfold putX Gg;by_cases ht:qab (qo x) (km S (qo x) L xs)=true
 ·rw[if_pos ht,if_pos ht]
 ·rw[if_neg ht,if_neg ht];rcases jp (qo x) (km S (qo x) L xs).reverse [x] S with e|⟨up,S1⟩
  ·rfl
  ·simp only;generalize (if 1<up.length then QW S1 ((km S (qo x) L xs).length:Int) up up else Except.ok (up,S1))=r;rcases r with e|⟨up',S2⟩
   ·rfl
   ·simp only;rcases QQ S2 (-1) S2.now root with _|t <;> rfl
def Tx (S:Sto) (L:Nat) (xs:List It) (root:Nat) (x:It):Except Int (Nat×Sto):=if Td S x=0 then putX S L xs root x else .error (Td S x)
def PutQ (lo:Nat) (q:Except Int (Nat×Sto)) (u:Value) (W:World):Prop:=match q with
 | .error e=>u=.tuple #[Qd none 0 0 none 0 0 none 0 0 none 0 0,.int .i64 0,.int .i64 e]
 | .ok (r,S')=>∃ v,u=.tuple #[v,.int .i64 (r:Int),.int .i64 0]/\QP lo S' v W
end Go.Proofs.YtpbniokljofedaaGreat
namespace Go.Proofs.YtpbniokljofedaaGreat
open Go.RowKit Go.Shelf
attribute [local go_sem] Oper.semAt_some
set_option maxRecDepth 100000 in
theorem backN_in (n:Nat) (hn:1<=n) (l Bs b off len cap:Nat) (us:List W2) (bI:len<1099511627776) (J Jx:List Nat->World->Prop) (hY:∀ pre (x:Nat) W,J pre W->pre.length<len->YieldAt Fence.wide (n-1) prog l #[.int .i64 (x:Int),.agg #[.int .i64 (us[x]?.getD w2z).1,sv (us[x]?.getD w2z).2]] W fun e W' =>
   (e=.returned (.bool true)/\J (pre++[x]) W'/\Qx Bs b W W')\/(e=.returned (.bool false)/\Jx (pre++[x]) W'))
  (W:World) (lm:W.cell? ⟨Bs,0,none⟩=some (.slice (some ⟨b,off,none⟩) len cap)) (hc:∀ i,i<len->W.cell? ⟨b,off+i*2,none⟩=some (.int .i64 (us[i]?.getD w2z).1)/\W.cell? ⟨b,off+i*2+1,none⟩=some (sv (us[i]?.getD w2z).2)) (h0:J [] W) :
  CallsIn Fence.wide n prog 141 #[.func (.yield l) #[] #[],.pointer (some ⟨Bs,0,none⟩)] W fun e W'=>(∃ v,e=.returned v) /\
   ((∃ ys,ys=jc (fun j=>len-1-j) len/\J ys W')\/(∃ pre,(∃ k,k<=len/\pre=jc (fun j=>len-1-j) k)/\Jx pre W')):=by
 refine callsIn_of_wp func141 rfl trivial ?_ rfl;simp only[ntmps141,List.size_toArray,List.length_cons,List.length_nil,Nat.reduceAdd,Nat.reduceSub,Array.replicate_succ,Array.replicate_zero,List.push_toArray,List.append_toArray,List.nil_append,List.cons_append]
 gi_wp2
 gi_loopw [3] (fun i wr=>∃ k:Nat,k<=len/\i=.int .i64 ((len:Int)-1-k)/\J (jc (fun j=>len-1-j) k) wr/\Qx Bs b W wr)
  (fun i _=>(intOf i+1).toNat)
 case atStart=>exact⟨0,Nat.zero_le _,zA2,h0,Qx.refl _ _ _⟩
 case round =>
  obtain⟨k,hk,rfl,iQ,cZ⟩:=hrel;have hBr:wr.cell? ⟨Bs,0,none⟩=some (.slice (some ⟨b,off,none⟩) len cap):=(World.cell?_of_block (w:=W) cZ.1).trans lm;by_cases hlt:k<len
  ·have wI:=(World.cell?_of_block (w:=W) (a:=⟨b,off+(len-1-k)*2,none⟩) cZ.2).trans (hc (len-1-k) zO).1;have hcy:=(World.cell?_of_block (w:=W) (a:=⟨b,off+(len-1-k)*2+1,none⟩) cZ.2).trans (hc (len-1-k) zO).2;obtain⟨fn,tmps,assign,body,hy,hR⟩:=hY _ (len-1-k) wr iQ (by rw[Zt];exact hlt);try dsimp only at hy
   obtain⟨i,hi⟩:∃ i:Nat,len-1-k=i:=⟨_,rfl⟩
   have hi2:(len:Int)-1-k=(i:Int):=zO;have hil:i<len:=zO;have hik:k+i+1<=len/\len<=k+i+1:=zO;have HU:=zH (Vy (fun j=>len-1-j) k);obtain⟨u,hu⟩:∃ u,us[i]?.getD w2z=u:=⟨_,rfl⟩
   rw[hi] at wI hcy hy hR;rw[hu] at wI hcy hy;rw[hi2];clear hi2;clear hu;have HI:=zH hi;clear hi
   gi_wp2
   refine hR.mono ?_;rintro e W3 (⟨rfl,hJ3,oC⟩|⟨rfl,mV⟩)
   ·gi_wp2
    go_roundw
    case rel=>exact⟨k+1,zO,by go_num,by rw[HU.out,HI.out];exact hJ3,cZ.t oC⟩
    case measure=>simp[intOf]
   ·gi_wp2
    refine bodyPost_ret (results_none rfl _ _ _) rfl ?_;exact⟨⟨_,rfl⟩,.inr ⟨_,⟨k+1,zO,by rw[HU.out,HI.out]⟩,mV⟩⟩
  ·obtain rfl:k=len:=zO
   gi_wp2
   go_end0;exact⟨⟨_,rfl⟩,.inl ⟨_,rfl,iQ⟩⟩
set_option maxRecDepth 100000 in
theorem qdx (n l Bs c:Nat) (A:Option Addr) (J:List Nat->World->Prop) (W:World) (lm:W.cell? ⟨Bs,0,none⟩=some (.slice A 0 c)) (h0:J [] W):CallsIn Fence.wide n prog 141 #[.func (.yield l) #[] #[],.pointer (some ⟨Bs,0,none⟩)] W fun e W'=>(∃ v,e=.returned v)/\J [] W':=by
 refine callsIn_of_wp func141 rfl trivial ?_ rfl;simp only[ntmps141,List.size_toArray,List.length_cons,List.length_nil,Nat.reduceAdd,Nat.reduceSub,Array.replicate_succ,Array.replicate_zero,List.push_toArray,List.append_toArray,List.nil_append,List.cons_append]
 gi_wp2
 gi_loopw [3] (fun i wr=>i=.int .i64 (-1)/\J [] wr) (fun _ _=>0)
 case atStart=>exact⟨rfl,h0⟩
 case round =>
  obtain⟨rfl,iQ⟩:=hrel
  gi_wp2
  go_end0;exact⟨⟨_,rfl⟩,iQ⟩
theorem qeS (n:Nat) (hn:1<=n) (Bs b:Nat) (v:Value) (us:List W2) (bI:us.length<1099511627776) (w:World) (lm:Bs<w.heap.size) (hb:b<w.heap.size) (hS:SW w Bs b v us):SeqStopsK Fence.wide n prog 141 #[.pointer (some ⟨Bs,0,none⟩)] (fun x:Nat=>#[.int .i64 (x:Int),.agg #[.int .i64 (us[x]?.getD w2z).1,sv (us[x]?.getD w2z).2]]) (Qx Bs b) (fun ys=>ys=jc (fun j=>us.length-1-j) us.length)
   (fun pre=>∃ k,k<=us.length/\pre=jc (fun j=>us.length-1-j) k) us.length w:=fun l J Jx W hW _ _ hY h0=>by
 obtain⟨hc,h⟩:=hS.keep (Qx.below hW lm hb);rcases h with ⟨rfl,A,c,rfl⟩|⟨off,cap,rfl,dD⟩
 ·exact(qdx n l Bs c A J W hc h0).mono fun e W' ⟨he,hj⟩=>⟨he,.inl ⟨_,rfl,hj⟩⟩
 ·exact backN_in n hn l Bs b off us.length cap us bI J Jx hY W hc dD h0
def atN (ws:List (Int×List UInt8)) (j:Nat):Int:=((ws[j]?).map (·.1)).getD 0
def datN (ws:List (Int×List UInt8)) (j:Nat):List UInt8:=((ws[j]?).map (·.2)).getD []
theorem XD (n k j:Nat) (h:j<k):(jc (fun i=>n-1-i) k)[j]?=some (n-1-j):=by unfold jc;rw[List.getElem?_map,List.getElem?_range h];rfl
theorem TV {ws:List (Int×List UInt8)} {a:Int}:∀ (d m:Nat),m+d=ws.length->(∀ i,m<=i->i<ws.length->atN ws i≠a)->jk ws a=jk (ws.take m) a:=by
 intro d;induction d with
 |zero=>intro m hm _;rw[show m=ws.length by omega,List.take_length]
 |succ d ih =>
  intro m hm h;have aG:=h m (zM _) zO;unfold atN at aG;rw[zL zO] at aG;rw[ih (m+1) zO (fun i hi hl=>h i zO hl),kK zO];exact if_neg aG
theorem qgO {ws:List (Int×List UInt8)} {a:Int} {k:Nat} {pre:List Nat} {x:Nat} (hk:k<=ws.length) (he:pre++[x]=jc (fun j=>ws.length-1-j) k) (hx:atN ws x=a) (hp:∀ y∈pre,atN ws y≠a):jk ws a=some (datN ws x):=by
 have hl:pre.length+1=k:=by have:=congrArg List.length he;simpa [jc] using this
 have hxk:x=ws.length-1-pre.length:=by have h1:=XD ws.length k pre.length zO;rw[<-he] at h1;simpa using h1
 have gu:x<ws.length:=zO;rw[TV (ws:=ws) (a:=a) pre.length (x+1) zO (fun i h1 h2=>by have h3:=XD ws.length k (ws.length-1-i) zO;rw[<-he,List.getElem?_append_left zO,show ws.length-1-(ws.length-1-i)=i by omega] at h3;exact hp _ (List.mem_of_getElem? h3)),kK gu];unfold atN at hx;unfold datN;rw[zL gu] at hx ⊢;exact if_pos hx
theorem qgN {ws:List (Int×List UInt8)} {a:Int} (hp:∀ y∈jc (fun j=>ws.length-1-j) ws.length,atN ws y≠a):jk ws a=none:=by rw[TV (ws:=ws) (a:=a) ws.length 0 zA2 (fun i _ h2=>by have h3:=XD ws.length ws.length (ws.length-1-i) zO;rw[show ws.length-1-(ws.length-1-i)=i by omega] at h3;exact hp _ (List.mem_of_getElem? h3))];rfl
theorem Ke {w w':World} {lo:Nat} {e:TypeId} {size:Nat} {v:Value} {n:Nat} {xs:List Value} (h:w.ownsRow lo e size v n xs) (hk:Ql w w'):w'.ownsRow lo e size v n xs:=
 ⟨h.1,h.2.imp id fun ⟨g,cap,cur,h1,h2,h3,h4⟩=>⟨g,cap,cur,h1,h2,hk.row h3,h4⟩⟩
end Go.Proofs.YtpbniokljofedaaGreat
