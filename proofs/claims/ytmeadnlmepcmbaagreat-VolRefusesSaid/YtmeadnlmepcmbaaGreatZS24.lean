/- Lemmas of the proof. -/
import Derived.Test.YtmeadnlmepcmbaaGreatZS22
import Derived.Test.YtmeadnlmepcmbaaGreatZS23
set_option linter.all false
set_option maxHeartbeats 8000000
open Go.Proofs.Tryz
open Go.Value renaming slice→E,int→M,pointer→Jx
open Option renaming some→F,none→O
open Go.Obj renaming cells→I
open Go.World renaming setCell→J,alloc→Q
open Go.IntKind renaming i64→U
open Bool renaming true→Z
namespace Go.Proofs.YtmeadnlmepcmbaaGreat
open Go.RowKit Go.Shelf
attribute [local go_sem] Oper.semAt_some
variable {R:Ending->World->Prop}{a:Act}{W V:World}{x0 x1 x2 x3 y z s:Value}{us us':List Value}{e:Ending}
theorem del_ret{n b:Nat}(h4:a.tmps[6]?.getD undef=Jx (F ⟨b+1+1,0,O⟩))(h5:a.tmps[7]?.getD undef=Jx (F ⟨b+1+1+1,0,O⟩))(h6:a.tmps[8]?.getD undef=Jx (F ⟨b+1+1+1+1,0,O⟩))(hd:a.defers=[])(r4:W.heap[b+2]?=F (I #[x0,x1,x2,x3] 28 (0,0)))(r5:W.heap[b+3]?=F (I #[y] 3 (0,0)))(r6:W.heap[b+4]?=F (I #[z] 37 (0,0)))(hR:R (.returned (.tuple #[.agg #[x0,x1,x2,x3],y,z])) W):bodyPostM Fence.wide n prog Tryz.f62 R .ret a W:=by
 have k4:=qa r4;have k5:=qa r5;have k6:=qa r6;change LeavesInM Fence.wide n prog Tryz.f62 a.tmps R a.defers .returning W;rw[hd];refine⟨.tuple #[.agg #[x0,x1,x2,x3],y,z],?_,hR⟩;simp[results,results62,go_sem,h4,h5,h6,k4,k5,k6]
theorem Td{n b D:Nat}(h4:a.tmps[6]?.getD undef=Jx (F ⟨b+1+1,0,O⟩))(h5:a.tmps[7]?.getD undef=Jx (F ⟨b+1+1+1,0,O⟩))(h6:a.tmps[8]?.getD undef=Jx (F ⟨b+1+1+1+1,0,O⟩))(hd:a.defers=[{target:=.collected D,args:=#[]}])(hK:W.heap[D]?=F (.deferred (F [])))(hD:b+4<D)(r4:W.heap[b+2]?=F (I #[x0,x1,x2,x3] 28 (0,0)))(r5:W.heap[b+3]?=F (I #[y] 3 (0,0)))(r6:W.heap[b+4]?=F (I #[z] 37 (0,0)))(hR:R (.returned (.tuple #[.agg #[x0,x1,x2,x3],y,z])) (W.putObj D (.deferred O))):bodyPostM Fence.wide n prog Tryz.f62 R .ret a W:=by
 have k4:=qa ((World.putObj_heap_other (o:=.deferred O) (show b+2≠D by omega)).trans r4);have k5:=qa ((World.putObj_heap_other (o:=.deferred O) (show b+3≠D by omega)).trans r5);have k6:=qa ((World.putObj_heap_other (o:=.deferred O) (show b+4≠D by omega)).trans r6);change LeavesInM Fence.wide n prog Tryz.f62 a.tmps R a.defers .returning W;rw[hd];refine⟨zA3,.inl ⟨_,_,rfl,run_takeDeferred hK,.tuple #[.agg #[x0,x1,x2,x3],y,z],?_,hR⟩⟩;simp[results,results62,go_sem,h4,h5,h6,k4,k5,k6]
def Ya(lo:Nat):Rel where
 rel W W':=W.heap.size<=W'.heap.size/\(lo<=W.heap.size->Below lo W W')/\∀(q:Nat)(ty:TypeId)(cs:Array Value),W.heap[q]?=F (I cs ty (0,0))->ty≠51->W'.heap[q]?=F (I cs ty (0,0))
 refl' w:=⟨zM _,λ_=>Below.refl _ _,λ_ _ _ h _=>h⟩
 trans' h k:=⟨Nat.le_trans h.1 k.1,λhl=>Below.trans (h.2.1 hl) (k.2.1 (Nat.le_trans hl h.1)),λq ty cs hq hc=>k.2.2 q ty cs (h.2.2 q ty cs hq hc) hc⟩
 drew' w:=⟨zM _,λ_=>Below.drew (Below.refl _ _),λ_ _ _ h _=>h⟩
theorem qeL(lo:Nat):∀W W':World,qp.r W W'->(Ya lo).r W W':=λW W' h=>by have h:Ext W W':=h;exact⟨h.size,λhl=>Below.mono h hl,λq _ _ hc _=>(Below.block h q (zG.1 hc).1).trans hc⟩
theorem qcG{lo m n:Nat}(ho:V.ownsRow lo 51 5 s m us')(h:Vh lo s n us V e W):(Ya lo).r V W:=by obtain⟨u,-,-,hB,hk⟩:=h;refine⟨hB.size,λ_=>hB,λq ty cs hc ht=>(hk q (zG.1 hc).1 λe=>?_).trans hc⟩;obtain⟨cur,hg⟩:=ZH ho e;rw[hc]at hg;simp only[Option.some.injEq,Obj.cells.injEq]at hg;exact ht hg.2.1
set_option maxRecDepth 100000 in
theorem del_any(A1 n1 c1 A2 n2 c2 A3 n3 c3 A4 n4 c4)(S:Sto)(hS:qk S=Z)(a lvl:Nat)(xs:List It)(ha:8<=a)(ha2:a<256)(hn:qm S a=F ((lvl:Int),xs))(hsp:(qC S lvl xs).isSome=Z)(k i o:Int)(w:World)(hst:Qi w w.heap.size (E A1 n1 c1) (E A2 n2 c2) (E A3 n3 c3) (E A4 n4 c4) S):Calls prog 62 #[Qp A1 n1 c1 A2 n2 c2 A3 n3 c3 A4 n4 c4,M U (a:Int),Xk k i o] w (zv (PutQ w.heap.size (XP S lvl xs a (k,i,o))) w):=by
 have HF:=zH (λW (hx:Ext w W)=>qeF A1 n1 c1 A2 n2 c2 A3 n3 c3 A4 n4 c4 S hS a lvl xs ha ha2 hn hsp k i o W (hst.ext hx));have HO:=zH (λW (hx:Ext w W)=>qdf A1 n1 c1 A2 n2 c2 A3 n3 c3 A4 n4 c4 S (by have:=(qZ hS).2.2.1;omega) W (hst.ext hx));have HW:=zH (λ(h1:(oneT S (k,i,o) lvl xs).isSome=Z) W (hx:Ext w W)=>dway_any A1 n1 c1 A2 n2 c2 A3 n3 c3 A4 n4 c4 S hS a lvl xs ha ha2 hn hsp k i o h1 W (hst.ext hx));obtain⟨q,hq⟩:∃q,XP S lvl xs a (k,i,o)=q:=⟨_,rfl⟩
 rw[hq];replace hq:=zH hq;obtain⟨l,hl⟩:∃l,jA S (k,i,o) lvl xs=l:=⟨_,rfl⟩
 have hwo:=qgG (k:=(k,i,o)) lvl hn hsp;have hwr:=qiZ (k:=(k,i,o)) lvl hn hsp;have hwv:=qlA (k:=(k,i,o)) lvl hn hsp;have hwl:=VH (k:=(k,i,o)) lvl (qJ hn).1 hsp;have hwf:=zH (qiY (k:=(k,i,o)) lvl hn hsp);have hdI:=zH (λl hs S' h1=>Ks (k:=(k,i,o)) (l:=l) (hs:=hs) (S':=S') hS lvl hn hsp h1);have hl6:lvl<6:=by have:=Zc hn;omega
 rw[hl]at HW hwo hwl hwr hwv hwf hdI;have hYS:=zH hl6;replace hl:=zH hl;replace hwo:=zH hwo;replace hwr:=zH hwr;replace hwv:=zH hwv;replace hwl:=zH hwl;replace hS:=zH hS;replace hst:=zH hst;have haH:=zH (And.intro ha ha2);clear hn hsp ha ha2 hl6;refine(callsIn_wide (n:=3)).1 ?_;refine callsIn_of_wp_marks func62 rfl trivial ?_ rfl;simp only[ntmps62,List.size_toArray,List.length_cons,List.length_nil,Nat.reduceAdd,Nat.reduceSub,Array.replicate_succ,Array.replicate_zero,List.push_toArray,List.append_toArray,List.nil_append,List.cons_append];refine wpIn_wide.2 ?_;go_wp2_with fail;generalize hw1:(Q (Q (Q (Q (Q w _) _) _) _) _)=w1;have x1:Ext w w1:=by rw[<-hw1];exact((((zN _ _).trans (zN _ _)).trans (zN _ _)).trans (zN _ _)).trans (zN _ _)
 have ra1:w1.heap[w.heap.size]?=F (I #[E A1 n1 c1,E A2 n2 c2,E A3 n3 c3,E A4 n4 c4] 28 (0,0)):=by rw[<-hw1];exact(zK _ _ _ zA4).trans ((zK _ _ _ zA4).trans ((zK _ _ _ zA4).trans ((zK _ _ _ zA4).trans (zI _ _ _ rfl))))
 have rb1:w1.heap[w.heap.size+1]?=F (I #[M .u8 k,M .u32 i,M .u32 o] 49 (0,0)):=by rw[<-hw1];exact(zK _ _ _ zA4).trans ((zK _ _ _ zA4).trans ((zK _ _ _ zA4).trans (zI _ _ _ zA3)))
 have rc1:w1.heap[w.heap.size+2]?=F (I #[E O 0 0,E O 0 0,E O 0 0,E O 0 0] 28 (0,0)):=by rw[<-hw1];exact(zK _ _ _ zA4).trans ((zK _ _ _ zA4).trans (zI _ _ _ zA3))
 have rd1:w1.heap[w.heap.size+3]?=F (I #[M U 0] 3 (0,0)):=by rw[<-hw1];exact(zK _ _ _ zA4).trans (zI _ _ _ zA3)
 have re1:w1.heap[w.heap.size+4]?=F (I #[M U 0] 37 (0,0)):=by rw[<-hw1];exact zI _ _ _ zA3
 have s1:Hid (w.heap.size+5<=w1.heap.size):=zH (by rw[<-hw1];simp);clear hw1;have ka1:=qa ra1;have kb1:=qa rb1;go_step3;go_wp2_with fail;refine(HF.out w1 x1).mono ?_;clear HF;rintro e w2 ⟨u,rfl,hfq,hB⟩;have x2:Ext w w2:=x1.trans hB;have s2:=zH (Nat.le_trans s1.out hB.size);have ra2:=qb ra1 hB;have rb2:=qb rb1 hB;have rc2:=qb rc1 hB;have rd2:=qb rd1 hB;have re2:=qb re1 hB;clear hB ra1 rb1 rc1 rd1 re1 ka1 kb1 x1;rcases h1t:oneT S (k,i,o) lvl xs with _|x
 ·rw[h1t]at hfq;obtain rfl:=hfq;have hqe:=zH (show q=.error 6 by rw[<-hq.out];unfold XP;rw[h1t];rfl);replace h1t:=zH h1t;have kc2:=qa rc2;have kd2:=qa rd2;have ke2:=qa re2;have fc2:=qd rc2;have fd2:=qd rd2;have fe2:=qd re2;clear HW HO hq hwf hdI ra2 rb2;go_upto_region 2 with fail;generalize hw3:Q w2 _=w3;have x23:Ext w2 w3:=by rw[<-hw3];exact zN _ _
  have x3:Ext w w3:=x2.trans x23;have rc3:=qb rc2 x23;have rd3:=qb rd2 x23;have re3:=qb re2 x23;clear hw3 kc2 kd2 ke2 fc2 fd2 fe2 rc2 rd2 re2;have kc3:=qa rc3;have kd3:=qa rd3;have ke3:=qa re3;have fc3:=qd rc3;have fd3:=qd rd3;have fe3:=qd re3;go_wp2_with fail;obtain⟨g4,g5,g6,hb,-⟩:=YM rc3 rd3 re3 rfl;exact del_ret rfl rfl rfl rfl g4 g5 g6 ⟨_,rfl,by rw[hqe.out];rfl,hb zO x3⟩
 ·rw[h1t]at hfq;obtain⟨Ay,cy,rfl,-,-⟩:=hfq;have h1s:(oneT S (k,i,o) lvl xs).isSome=Z:=by rw[h1t];rfl
  have hq1:Hid (q=qcs S lvl xs a (k,i,o)):=zH (by rw[<-hq.out];unfold XP;rw[h1t];rfl);have HW2:=zH (HW.out h1s);have hdI2:=zH (λl hs S'=>hdI.out l hs S' h1s);obtain⟨ys,hlf,hpl⟩:=hwf.out h1s;replace h1t:=zH h1t;replace hlf:=zH hlf;clear HW hdI hwf hq h1s;obtain⟨pl,hplE⟩:∃pl,qD ys (k,i,o)=pl:=⟨_,rfl⟩
  rw[hplE]at hlf hpl;clear hplE;go_upto_region 4 with fail;generalize hw3:Q w2 _=w3;have x23:Ext w2 w3:=by rw[<-hw3];exact zN _ _
  have x3:Ext w w3:=x2.trans x23;have zw5:=zH (Nat.le_trans s2.out x23.size);have ra3:=qb ra2 x23;have rb3:=qb rb2 x23;have rc3:=qb rc2 x23;have rd3:=qb rd2 x23;have re3:=qb re2 x23;have ka3:=qa ra3;have kb3:=qa rb3;clear hw3 ra2 rb2 rc2 rd2 re2 x2 x23;go_wp2_with fail;refine(HW2.out w3 x3).mono ?_;clear HW2;rintro e w4 ⟨u,rfl,hSE,hB⟩;have x34:Ext w3 w4:=hB;have x4:Ext w w4:=x3.trans x34;have rc4:=qb rc3 hB;have rd4:=qb rd3 hB;have re4:=qb re3 hB;have ra4:=qb ra3 hB;have ka4:=qa ra4;obtain⟨ps,hps,⟨As,cs,rfl,wHA,wCU,hsr⟩,hpi⟩:=hSE;obtain⟨b2,o2,rfl,hb2,hc2⟩:=(hsr w4 (qY.refl _ _)).2 (by have:=hwl.out;omega);have hcs:Hid ((lvl:Int)<=(cs:Int)):=zH (by have:=hwl.out;omega);replace hc2:=zH hc2;replace hpi:=zH hpi;replace hps:=zH hps;clear hB ra3 rb3 rc3 rd3 re3 ka3 kb3 hsr wHA wCU;have hZI:ps.length=lvl+1:=by rw[<-hwl.out,<-hps.out,List.length_map]
  obtain⟨ips,hFJ,hie⟩:=hpi.out _ (List.getElem_mem (show lvl<ps.length by omega));have hplv:ps[lvl].1=(0,ys,pl):=by rw[<-hlf.out,<-hps.out];unfold sAt;rw[List.getElem?_map,zL zO];rfl
  obtain⟨g0,g1,g2⟩:=Kd ps lvl zO;obtain⟨A9,c9,e9⟩:=hie.shape hFJ;rw[hplv]at g0 g2 hFJ e9;rw[e9]at g1 hie;simp only at g0 g1 g2 hFJ hie;have d0:=hc2.out _ _ g0;have d1:=hc2.out _ _ g1;have d2:=hc2.out _ _ g2;rw[<-Nat.add_assoc]at d1 d2;have hy5:ys.length<=5:=by have h9:=hwo.out (sAt l lvl) (by unfold sAt;rw[zL (by have:=hwl.out;omega)];exact List.getElem_mem _);have:=h9.len;rw[hlf.out]at this;exact this
  have hwl1:(l.length:Int)-1=(lvl:Int):=by have:=hwl.out;omega
  have hwl2:(lvl:Int)<(l.length:Int):=by have:=hwl.out;omega
  have wDE:wrap64 (lvl:Int)=(lvl:Int):=IntWalk.wrap64_in _ (by have:=hYS.out;omega);clear g0 g1 g2 e9;go_upto_region 5 with fail;generalize hw5:Q w4 _=w5;have x45:Ext w4 w5:=by rw[<-hw5];exact zN _ _
  have x5:Ext w w5:=x4.trans x45;have rl5:w5.heap[w4.heap.size]?=F (I #[E (F ⟨b2,o2,O⟩) l.length cs] 160 (0,0)):=by rw[<-hw5];exact zI _ _ _ rfl
  have kl5:=qa rl5;have d05:=Ext.cell x45 d0;have d15:=Ext.cell x45 d1;have d25:=Ext.cell x45 d2;clear hw5 d0 d1 d2;go_upto_region 6 with fail;replace wDE:=zH wDE;generalize hw6:Q w5 _=w6;have x56:Ext w5 w6:=by rw[<-hw6];exact zN _ _
  have x6:Ext w w6:=x5.trans x56;have rf6:w6.heap[w5.heap.size]?=F (I #[M U 0,E A9 ys.length c9,M U (pl:Int)] 163 (0,0)):=by rw[<-hw6];exact zI _ _ _ rfl
  have z56:w5.heap.size<w6.heap.size:=(zG.1 rf6).1;have x46:Ext w4 w6:=x45.trans x56;have x36:Ext w3 w6:=x34.trans x46;clear hw6 d05 d15 d25 kl5;have hipl:ips.length=ys.length:=by rw[<-hFJ,List.length_map]
  have one1:∀u∈qG ips,u.oneCell'=Z:=Kq ips λp hp=>by obtain⟨A,c,e⟩:=(hie.2 p hp).1;rw[e];rfl
  have HCl:Hid (∀W,Ext w6 W->Calls prog 115 #[E A9 ys.length c9] W (zv (λu w'=>w'.ownsRow W.heap.size 51 5 u ys.length (qG ips)) W)):=zH λW hW=>by obtain⟨⟨A,c,e,_,_,hr⟩,_⟩:=hie;rw[hipl]at e hr;cases e;exact Yb A9 ys.length c9 (qG ips) zO one1 W (hr W (qY.of_ext (x46.trans hW)))
  obtain⟨us,hus⟩:∃us,us=(qG ips).take (pl*5)++(qG ips).drop ((pl+1)*5):=⟨_,rfl⟩
  have HDl:Hid (∀(V:World)(Ac:OA)(cc:Nat),w6.heap.size<=V.heap.size->V.ownsRow w6.heap.size 51 5 (E Ac ys.length cc) ys.length (qG ips)->Calls prog 114 #[E Ac ys.length cc,M U (pl:Int),M U ((pl:Int)+1)] V (λe W=>Vh w6.heap.size (E Ac ys.length cc) (ys.length-1) us V e W)):=zH λV Ac cc hV ho=>by have H:=qbA w6.heap.size _ ys.length pl (qG ips) V ho hpl zO (λu hu=>one1 u (List.mem_of_mem_drop hu)) hV;rw[show((pl+1:Nat):Int)=(pl:Int)+1 by omega]at H;rw[hus];exact H.mono λe W h=>h.1
  replace hus:=zH hus;obtain⟨RR,hRR⟩:∃RR:Rel,RR=Ya w6.heap.size:=⟨_,rfl⟩
  have hle:∀a b,qp.r a b->RR.r a b:=by rw[hRR];exact qeL _
  have g12:∀W,RR.r w6 W->∀i,W.cell? ⟨w5.heap.size,i,O⟩=#[M U 0,E A9 ys.length c9,M U (pl:Int)][i]?:=λW h=>qa ((hRR▸h:(Ya w6.heap.size).r w6 W).2.2 _ _ _ rf6 zA1);have hwp:IntKind.i64.wrap ((pl:Int)+1)=(pl:Int)+1:=by rw[IntKind.wrap_i64];omega
  have hyH:=zH hy5;have hplH:=zH hpl;replace hRR:=zH hRR;clear hy5 hpl;refine qw zQ ?_;refine qew (w:=w6) qp RR 9 (λi=>i != 3) hle (qV [(3,jI w6.heap.size ys.length (qG ips)),(9,jI w6.heap.size (ys.length-1) us),(10,jx w6.heap.size 55 #[E O 0 0])]) (List.replicate 11 Z) 1 zQ zQ zQ zQ zQ zQ zQ zQ ?st (Rel.drew _ _) ?walk
  case st=>exact GS (by simp only[List.forall_mem_cons];exact⟨λp=>⟨ZZ _ _ _ p,λ_ h=>by cases h⟩,λp=>⟨ZZ _ _ _ p,λh=>absurd rfl h⟩,λ(p:Nat)=>⟨QA (Zt _ _ _ p),λ_ _ W W' hr h=>by have h:W.heap[p]?=F (I #[E O 0 0] 55 (0,0))/\w6.heap.size<=p:=h;rw[hRR.out]at hr;exact⟨hr.2.2 _ _ _ h.1 zA1,h.2⟩⟩,λ_ h=>by cases h⟩)
  case walk=>
   intro K hK;dsimp only[qA,List.replicate];refine zC8 ?_;refine Xe (jI w6.heap.size ys.length (qG ips)) zA0 zA0 zA1 (λW hW _=>?_) (λp3=>?_)
   ·have hW:Ext w6 W:=(hRR.out▸hW:(Ya w6.heap.size).r w6 W).2.1 (zM _);refine Qh ?_ ((HCl.out W hW).mono λe w' h=>?_)
    ·go_simp
    obtain⟨u,rfl,hu,hB⟩:=h;obtain⟨Ac,cc,rfl,_,_⟩:=qM hu;exact⟨(Ac,cc),rfl,QM hu hW.size,hB⟩
   obtain⟨Ac,cc⟩:=p3;refine zC8 ?_;refine qcA (jI w6.heap.size (ys.length-1) us) zA0 zA0 (λW hW hp=>?_) (λp9=>?_)
   ·have hW:Ext w6 W:=hW;have ho:W.ownsRow w6.heap.size 51 5 (E Ac ys.length cc) ys.length (qG ips):=hp 3 zA1;refine Qh ?_ ((HDl.out W Ac cc hW.size ho).mono λe w' h=>?_)
    ·go_simp
    have hR:=qcG ho h;obtain⟨u,rfl,hu,-⟩:=h;obtain⟨Ad,cd,rfl,_,_⟩:=qM hu;exact⟨(Ad,cd),rfl,hu,by rw[hRR.out];exact hR⟩
   obtain⟨Ad,cd⟩:=p9;refine zC8 ?_;refine Xe (jx w6.heap.size 55 #[E O 0 0]) zA0 zA0 zA1 (λW hW _=>?_) (λ(p10:Nat)=>?_)
   ·have hW:Ext w6 W:=(hRR.out▸hW:(Ya w6.heap.size).r w6 W).2.1 (zM _);refine jl ?_ hW.size;go_simp
   refine zC8 ?_;refine qeH (hK _ _ λW hW hF=>?_);have ho:W.ownsRow w6.heap.size 51 5 (E Ad (ys.length-1) cd) (ys.length-1) us:=hF 9 rfl;obtain⟨f10,hl10⟩:W.heap[p10]?=F (I #[E O 0 0] 55 (0,0))/\w6.heap.size<=p10:=hF 10 rfl;have x6W:Ext w6 W:=(hRR.out▸hW:(Ya w6.heap.size).r w6 W).2.1 (zM _);clear hF hK g12 HCl HDl hW hle;refine zB8 ?_;have k10:=qa f10;have h10:=qd f10;have z10:=(zG.1 f10).1;go_wp2;refine Qt ?_;generalize hw7:J W _ _=w7;have x67:Ext w6 w7:=by rw[<-hw7];exact Below.setCell x6W (p:=⟨p10,0,O⟩) hl10 _
   have x7:Ext w w7:=x6.trans x67;have rL7:w7.heap[p10]?=F (I #[E Ad (ys.length-1) cd] 55 (0,0)):=by rw[<-hw7];exact qj f10 0 _
   have ho7:w7.ownsRow w6.heap.size 51 5 (E Ad (ys.length-1) cd) (ys.length-1) us:=Zh ho λq hq=>by obtain⟨cur,hc⟩:=ZH ho hq;rw[<-hw7];exact zJ _ _ _ _ (qP hc f10 zA1)
   replace ho7:=zH ho7;have x47:=x46.trans x67;have ra7:=qb ra4 x47;have rc7:=qb rc4 x47;have rd7:=qb rd4 x47;have re7:=qb re4 x47;have rl7:=qb rl5 (x56.trans x67);clear hw7 f10 k10 h10 z10 ho x6W ra4 rc4 rd4 re4 rl5 rf6 ka4 hwp;go_upto_region 8 with fail;generalize hw8:Q w7 _=w8;have x78:Ext w7 w8:=by rw[<-hw8];exact zN _ _
   have x8:Ext w w8:=x7.trans x78;have rh8:w8.heap[w7.heap.size]?=F (I #[M U 0] 3 (0,0)):=by rw[<-hw8];exact zI _ _ _ rfl
   have ra8:=qb ra7 x78;have rc8:=qb rc7 x78;have rd8:=qb rd7 x78;have re8:=qb re7 x78;have rl8:=qb rl7 x78;have rL8:=qb rL7 x78;have ka8:=qa ra8;have zL7:p10<w7.heap.size:=(zG.1 rL7).1;have zH8:w7.heap.size<w8.heap.size:=(zG.1 rh8).1;clear hw8 ra7 rc7 rd7 re7 rl7 rL7;go_wp2_with fail;refine(HO.out w8 x8).mono ?_;clear HO;rintro e w9 ⟨u,rfl,⟨b,A3',c3',rfl,hlo,hAH,hAD⟩,hB⟩;have x89:Ext w8 w9:=hB;have x9:Ext w w9:=x8.trans x89;obtain⟨g,hGK⟩:=Bch.of_on (B:=w.heap.size) x8.size hS.out (hst.out.below x9) hlo hAH hAD;have rc9:=qb rc8 hB;have rd9:=qb rd8 hB;have re9:=qb re8 hB;have rl9:=qb rl8 hB;have rL9:=qb rL8 hB;have rh9:=qb rh8 hB;replace hGK:=zH hGK;clear hB rc8 rd8 re8 rl8 rL8 rh8 ra8 ka8 hAH hAD;go_wp2_with fail;generalize wHK:Q w9 _=w10;have xA:Ext w9 w10:=by rw[<-wHK];exact zN _ _
   have rt10:w10.heap[w9.heap.size]?=F (I #[Jx (F ⟨b,0,O⟩)] 92 (0,0)):=by rw[<-wHK];exact zI _ _ _ rfl
   have rl10:=qb rl9 xA;have kl10:=qa rl10;clear wHK;have hl0:(0:Int)<=(lvl:Int):=Int.natCast_nonneg _;have wMW:=wDE.out;have wBP:=hcs.out;refine wp_label ?_;go_wp2_with fail;refine(qdR (F ⟨b2,o2,O⟩) lvl cs w10).mono ?_;rintro e wB ⟨rfl,rfl⟩;clear wMW wBP;go_wp2_with fail;generalize hGS:Q w10 _=w11;have xB:Ext w10 w11:=by rw[<-hGS];exact zN _ _
   have s11:w10.heap.size<w11.heap.size:=by rw[<-hGS];simp
   have rS11:w11.heap[w10.heap.size]?=F (I #[E (F ⟨b2,o2,O⟩) lvl cs] 160 (0,0)):=by rw[<-hGS];exact zI _ _ _ rfl
   clear hGS kl10 hl0;have x911:=xA.trans xB;have x11:Ext w w11:=x9.trans x911;have x711:=(x78.trans x89).trans x911;have x411:=x47.trans x711;obtain⟨us2,wHG⟩:∃us2:List Ud,us2=(ps.take lvl).map λp=>((p.1,kV p.2):Ud):=⟨_,rfl⟩
   have hul:us2.length=lvl:=by rw[wHG,List.length_map,List.length_take];omega
   have hNI:∀i (hi:i<ps.length),i<lvl->us2[i]?.getD udz=(ps[i].1,kV ps[i].2):=λi hi hil=>by rw[wHG,List.getElem?_map,List.getElem?_take,if_pos hil,zL hi];rfl
   have hsv:∀i (hi:i<ps.length),sv (kV ps[i].2)=ps[i].2:=λi hi=>by obtain⟨ips,_,⟨⟨A,c,e,_⟩,_⟩⟩:=hpi.out ps[i] (List.getElem_mem hi);rw[e];rfl
   have hPY:∀j,j<lvl->∃ips A c,sv (us2[j]?.getD udz).2=E A (sAt l j).2.1.length c/\(us2[j]?.getD udz).1=sAt l j/\ips.map (·.1)=(sAt l j).2.1/\jK (λq=>q<w3.heap.size) w4 (sv (us2[j]?.getD udz).2) ips:=λj hjl=>by
    have hj:j<ps.length:=zO;obtain⟨ips,e1,he⟩:=hpi.out ps[j] (List.getElem_mem hj);have hx:ps[j].1=sAt l j:=by unfold sAt;rw[<-hps.out,List.getElem?_map,zL hj];rfl
    obtain⟨A,c,e⟩:=he.shape e1;rw[hNI j hj hjl];simp only;rw[hsv j hj];rw[hx]at e e1;exact⟨ips,A,c,e,hx,e1,he⟩
   have hSW:SWd w11 w10.heap.size b2 (E (F ⟨b2,o2,O⟩) lvl cs) us2:=by refine⟨by rw[qa rS11];rfl,.inr ⟨o2,cs,by rw[hul],λi hi=>?_⟩⟩;have hi':i<ps.length:=zO;obtain⟨g0,g1,g2⟩:=Kd ps i hi';rw[hNI i hi' zO];simp only;rw[hsv i hi'];exact⟨Ext.cell x411 (hc2.out _ _ g0),by rw[Nat.add_assoc];exact Ext.cell x411 (hc2.out _ _ g1),by rw[Nat.add_assoc];exact Ext.cell x411 (hc2.out _ _ g2)⟩
   obtain⟨l0,hl0⟩:∃l0,l0=Ze ys pl 1 []:=⟨_,rfl⟩
   obtain⟨lps,wCB⟩:∃lps,lps=ips.take pl++ips.drop (pl+1):=⟨_,rfl⟩
   have hlm:lps.map (·.1)=l0:=by rw[wCB,hl0,List.map_append,List.map_take,List.map_drop,hFJ];unfold Ze;simp
   have hYU:l0.length=ys.length-1:=by have:=TF (xs:=ys) (up:=[]) (q:=pl) (m:=1) (by have:=hplH.out;omega);rw[<-hl0]at this;simp only[List.length_nil]at this;omega
   have husc:us=qG lps:=by rw[hus.out,wCB,Zr,VL,VK]
   have z36:=x36.size;have z03:=x3.size;have z5w:w.heap.size+5<=w3.heap.size:=zw5.out;have zLq:=(zG.1 rL9).1;have z7:=x67.size;have hVF:Hid (∀kk,(∀q,B3 b g kk q->w8.heap.size<=q)->∀q,q<w4.heap.size->XD w.heap.size b g p10 w7.heap.size kk q->q<w3.heap.size):=zH λkk hb q hq hX=>by
    have z44:=x46.size;have z77:=x78.size;rcases hX with hX|hX|hX|hX
    ·omega
    ·omega
    ·omega
    ·have:=hb q hX;omega
   have hI0:DelV l l0 S w.heap.size w8.heap.size b g p10 w7.heap.size w9.heap.size w10.heap.size w4.heap.size w3.heap.size w4 (E (F ⟨b2,o2,O⟩) lvl cs) [] w11:=by
    refine⟨⟨l0,[],S,O,_,Ad,cd,lps,rfl,hS.out,by rw[hYU];have:=hyH.out;omega,hlm,λy hy=>?_,.inl rfl,?_,by rw[hYU];exact qb rL9 x911,qb rh9 x911,hGK.out.ext x911⟩,qb rc9 x911,qb rd9 x911,qb re9 x911,qb rt10 xB,⟨_,_,qb rl9 x911⟩,rS11,qY.of_ext x411⟩
    ·have h9:=(hwo.out (sAt l lvl) (by unfold sAt;rw[zL (by have:=hwl.out;omega)];exact List.getElem_mem _)).its;rw[hlf.out]at h9;rw[hl0]at hy;unfold Ze at hy;simp only[List.append_nil]at hy;rcases List.mem_append.1 hy with hy|hy
     ·exact(h9 y (List.mem_of_mem_take hy)).1
     ·exact(h9 y (List.mem_of_mem_drop hy)).1
    ·rw[hYU];have hUP:=ho7.out;rw[husc]at hUP;have hUP:=Zh (w':=w11) hUP λq hq=>Below.block x711 q (zl hUP q hq).2;refine jK.of_own hUP (by rw[<-hYU,<-hlm,List.length_map]) (λq hq hX=>?_) λp hp=>?_
     ·obtain⟨cur,hc⟩:=ZH hUP hq;have hq6:=(zl hUP q hq).1;rcases hX with hX|hX|hX|hX
      ·omega
      ·subst hX;rw[qb rL9 x911]at hc;simp only[Option.some.injEq,Obj.cells.injEq]at hc;exact absurd hc.2.1 zA1
      ·subst hX;rw[qb rh9 x911]at hc;simp only[Option.some.injEq,Obj.cells.injEq]at hc;exact absurd hc.2.1 zA1
      ·exact(hGK.out.ext x911).notB3 hc zA1 zA1 zA1 hX
     ·have hpm:p∈ips:=by
       rw[wCB]at hp;rcases List.mem_append.1 hp with hp|hp
       ·exact List.mem_of_mem_take hp
       ·exact List.mem_of_mem_drop hp
      refine⟨(hie.2 p hpm).1,λC hC=>(hie.2 p hpm).2 C ((qY.of_ext (X:=λq=>q<w3.heap.size) x411).trans hC λq hq hX=>?_)⟩;have z44:=x46.size;have z77:=x78.size;rcases hX with hX|hX|hX|hX
      ·omega
      ·omega
      ·omega
      ·have:=(hGK.out.b3 q hX).1;omega
   have hus2H:=hul;replace hI0:=zH hI0;replace hPY:=zH hPY;replace hl0:=zH hl0;have zb2:b2<w10.heap.size:=by have:=(((x46.trans x67).trans x78).trans x89).size;have:=xA.size;omega
   have hlvl:lvl<1099511627776:=by have:=hYS.out;omega
   clear husc wHG hNI hsv hc2 hpi hps hZI hplv wCB hlm hYU rc9 rd9 re9 rl9 rL9 rh9 rt10 rl10 rS11 hipl one1 hie hFJ;generalize hJG:({tmps:=_,defers:=_}:Act)=act;refine(wpIn_wide (n:=3)).1 ?_;refine wpIn_rangeFunc_ownH rfl zO (gf:=163) (lb:=#[Jx (F ⟨w10.heap.size,0,O⟩)]) (by rw[<-hJG];rfl) trivial (enters_of func163 zQ rfl)
    (qhc (3-1) zO w10.heap.size b2 _ us2 (by rw[hul];exact hlvl) w11 s11 zO hSW) Qx.t (Qx.b s11 zO) (Below.refl _ _) (λ_=>rfl)
    (λpre W'=>(∃Wb,DelV l l0 S w.heap.size w8.heap.size b g p10 w7.heap.size w9.heap.size w10.heap.size w4.heap.size w3.heap.size w4 (E (F ⟨b2,o2,O⟩) lvl cs) (pre.map (·.1)) Wb/\Qj Wb W')/\Below w.heap.size w W')
    (λc pre W'=>(∃er Wb,c=.ret/\jB ((pre.map (·.1)).map (sAt l)) l0 [] S=.error er/\(Wb.heap[w.heap.size+2]?=F (I #[E O 0 0,E O 0 0,E O 0 0,E O 0 0] 28 (0,0))/\Wb.heap[w.heap.size+3]?=F (I #[M U 0] 3 (0,0))/\Wb.heap[w.heap.size+4]?=F (I #[M U er] 37 (0,0)))/\Qj Wb W')/\Below w.heap.size w W')
    (OwnFrom.and (λs A C row hs hg hr=>by obtain⟨Wb,h1,h2⟩:=hs;exact⟨Wb,h1,h2.grown hg λr e=>(hr r e).2⟩) (ownFrom_below (zM _) x11.size))
    (λc=>OwnFrom.and (λs A C row hs hg hr=>by obtain⟨er,Wb,h1,h2,h3,h4⟩:=hs;exact⟨er,Wb,h1,h2,h3,h4.grown hg λr e=>(hr r e).2⟩) (ownFrom_below (zM _) x11.size))
    ⟨⟨w11,hI0.out,Qj.refl _⟩,x11⟩
    (λ(j:{j:Nat // j<us2.length}) a' W'=>∃t17,a'=((((({tmps:=act.tmps,defers:=[]}:Act).put (F 64) (M U (j.1:Int))).put (F 65) (.agg #[M U ((us2[j.1]?.getD udz).1.1:Int),sv (us2[j.1]?.getD udz).2,M U ((us2[j.1]?.getD udz).1.2.2:Int)])).put (F 16) (M U (j.1:Int))).put (F 17) (Jx (F ⟨t17,0,O⟩)))/\W'.heap[t17]?=F (I #[M U ((us2[j.1]?.getD udz).1.1:Int),sv (us2[j.1]?.getD udz).2,M U ((us2[j.1]?.getD udz).1.2.2:Int)] 163 (0,0)))
    (λx a' s A C row hs hg hr=>by obtain⟨t17,e,h⟩:=hs;exact⟨t17,e,QL (β:=Unit) _ _ _ _ () A C row h hg hr⟩) ?assign ?body ?done ?stop
   case assign=>
    rintro l' pre j W' K ⟨⟨Wb,hPI,hck⟩,i4⟩ hK;subst hJG;have z4:=i4.size;have hPW:=hPI.ck hck;have zS:=(zG.1 hPW.rS).1;have zb2':b2<W'.heap.size:=zO
    gi_wp2
    exact hK _ _ ((KeepsOthers.alloc _ _).from _) ⟨zK _ _ _ zS,zK _ _ _ zb2'⟩ ⟨⟨_,hPW,Qj.of_ext (zN _ _)⟩,Below.alloc i4 z4 _⟩ ⟨W'.heap.size,rfl,zI _ _ _ rfl⟩
   case body=>
    rintro l' pre ⟨j,hj0⟩ a' W' hll ⟨rr,hlp⟩ ⟨⟨Wb,hPI,hck⟩,i4⟩ ⟨t17,rfl,hQJ⟩ _;subst hJG;have hPW:=hPI.ck hck;have hjl:j<lvl:=by rw[<-hul];exact hj0
    simp only at hQJ;simp only[Act.put,zA,zB,zC];obtain⟨ips,A8,c8,e9,e10,e11,hie⟩:=hPY.out j hjl;have hsm:sAt l j∈l:=by unfold sAt;rw[zL (by have:=hwl.out;omega)];exact List.getElem_mem _
    have hWO:=hwo.out _ hsm;have hWr:=hwr.out _ hsm;have hWv:=hwv.out j zO;have hPV:=zH (λ(ls hs:List It)(S':Sto)(h:jB ((pre.map (·.1)).map (sAt l)) l0 [] S=.ok (ls,hs,S'))=>(by rw[List.map_append,List.map_append];exact qju h:jB (((pre++[(⟨j,hj0⟩:{j:Nat // j<us2.length})]).map (·.1)).map (sAt l)) l0 [] S=JU S' (sAt l j) ls hs));obtain⟨s9,hs9⟩:∃s9,sAt l j=s9:=⟨_,rfl⟩
    rw[hs9]at e9 e10 e11 hWO hPV hWr hWv;clear hs9 hsm;generalize us2[j]?.getD udz=u9 at*;obtain⟨v9,sl9⟩:=u9;simp only at e9 e10 hQJ hie;subst e10;obtain⟨lv,zs,pz⟩:=v9;simp only at e9 e11 hQJ hPV hWr hWv;rw[e9]at hQJ hie⊢;obtain⟨hWm,hWi,hWl,hUB,hRM,-⟩:=hWO;simp only at hWm hWi hWl hUB hRM;have hpz:pz<zs.length:=hRM zO;have hWr:=hWr zO;obtain⟨ls,hs,S',k',D',Al,cl,lps,hgr,hS',hSB,hlm,hSA,hhs,hlE,hrL,hrH,hbc⟩:=hPW.ex;have hga:=hPV.out _ _ _ hgr;have zW3:w3.heap.size<=w4.heap.size:=x34.size;have zt:=(zG.1 hQJ).1;clear hUB hRM hPV hgr e9 hPI hck;have hit:=hie.trans hPW.kx λq _ h=>h;have hzl:ips.length=zs.length:=by rw[<-e11,List.length_map]
    have one1:∀u∈qG ips,u.oneCell'=Z:=Kq ips λp hp=>by obtain⟨A,c,e⟩:=(hie.2 p hp).1;rw[e];rfl
    have HCl:Hid (∀W,Ext W' W->Calls prog 115 #[E A8 zs.length c8] W (zv (λu w'=>w'.ownsRow W.heap.size 51 5 u zs.length (qG ips)) W)):=zH λW hW=>by obtain⟨⟨A,c,e,_,_,hr⟩,_⟩:=hit;rw[hzl]at e hr;cases e;exact Yb A8 zs.length c8 (qG ips) zO one1 W (hr W (qY.of_ext hW))
    have kL:=qa hrL;have zL0:=(zG.1 hrL).1;have hz5:=zH hWl;have e11H:=zH e11;have hUA:=zH hWi;have hHQ:=zH hPW;have hPQ:=zH hbc;have hlEH:=zH hlE;have hYL:=zH hit;have hKU:=zH hie;have wFQ:=zH hga;have hUN:=zH hlm;have wLH:=zH hSA;have hhsH:=zH hhs;have hTZ:=zH hS';have hWrH:=zH hWr;have hWmH:=zH hWm;have wDY:=zH hSB;have hWvH:=zH hWv;have hjlH:=zH hjl;have hpzH:=zH hpz;have hzlH:=zH hzl;have one1H:=zH one1;clear hWl e11 hWi hPW hbc hlE hit hie hga hlm hSA hhs hS' hWr hWm hSB hWv hjl hzl one1 hlp;by_cases hlz:ls=[]
    ·have wGH:ls.length=0:=by rw[hlz];rfl
     rw[wGH]at kL;replace hlz:=zH hlz;replace wGH:=zH wGH;have hpz5:pz<5:=by have:=hz5.out;omega
     clear hpz
     gi_upto_region 13 with fail
     have g17:∀W,qp.r W' W->∀i,W.cell? ⟨t17,i,O⟩=#[M U (lv:Int),E A8 zs.length c8,M U (pz:Int)][i]?:=λW h=>qa (qb hQJ h);have hwp:IntKind.i64.wrap ((pz:Int)+1)=(pz:Int)+1:=by rw[IntKind.wrap_i64];omega
     refine zu qp (qV [(3,jI W'.heap.size zs.length (qG ips))]) (List.replicate 9 Z) 3 (vM l') zQ zQ zQ zQ zQ zQ zQ zQ zQ ?st (Rel.drew _ _) ?walk
     case st=>exact ql (by simp only[List.forall_mem_cons];exact⟨ZZ _ _ _,λ_ h=>by cases h⟩)
     case walk=>
      intro K hK;dsimp only[qA,List.replicate];refine zC9 ?_;refine qH (jI W'.heap.size zs.length (qG ips)) zA0 zA0 (λW hW _=>?_) (λp=>?_)
      ·have hW':Ext W' W:=hW;refine Qh ?_ ((HCl.out W hW').mono λe w' h=>?_)
       ·go_simp
       obtain⟨u,rfl,hu,hB⟩:=h;obtain⟨Ac,cc,rfl,_,_⟩:=qM hu;exact⟨(Ac,cc),rfl,QM hu hW'.size,hB⟩
      obtain⟨Ac,cc⟩:=p;refine zC9 ?_;refine qF (hK _ _ λV hV hF=>?_);have hoV:V.ownsRow W'.heap.size 51 5 (E Ac zs.length cc) zs.length (qG ips):=(hF 3).1;clear hF hK g17;have hV:Ext W' V:=hV;refine zB8 ?_;have HD:=zH (qbA W'.heap.size _ zs.length pz (qG ips) V hoV hpzH.out (by have:=hz5.out;omega) (λu hu=>one1H.out u (List.mem_of_mem_drop hu)) hV.size);rw[show((pz+1:Nat):Int)=(pz:Int)+1 by omega]at HD;clear HCl
      gi_wp2_with fail
      refine⟨trivial,(CallsIn.inRound _ (callsIn_wide.2 HD.out)).mono ?_⟩;clear HD;rintro e w9' ⟨⟨v9,rfl,ho9,hB9,-⟩,-⟩;have x9':Ext W' w9':=Below.trans hV hB9;obtain⟨Ad',cd',rfl,-,-⟩:=qM ho9;have rL':=qb hrL x9';have rH':=qb hrH x9';have kL':=qa rL';have kH':=qa rH';have fL':=qd rL';have fH':=qd rH';have zL':=(zG.1 rL').1;have zH':=(zG.1 rH').1;have hne:p10≠w7.heap.size:=qP rL' rH' zA1;have hQF:w7.heap.size≠p10:=λe=>hne e.symm;have ho9H:=zH ho9;clear hoV hB9 hV ho9 kL hrL hrH
      gi_wp2_with fail
      generalize hwE:J (J w9' _ _) _ _=wE;have hPW:=hHQ.out;have z46:=x46.size;obtain⟨A3,c3,rC3⟩:=hPW.rC;have e8:(Ze zs pz 1 []).length=zs.length-1:=by have:=TF (xs:=zs) (up:=[]) (q:=pz) (m:=1) (by have:=hpzH.out;omega);simp only[List.length_nil]at this;omega
      have e7:qG (ips.take pz++ips.drop (pz+1))=(qG ips).take (pz*5)++(qG ips).drop ((pz+1)*5):=by rw[Zr,VL,VK]
      rw[<-e7]at ho9H;have hNx:=qeD (v:=E Ad' (zs.length-1) cd') (ls:=Ze zs pz 1 []) (hs:=[]) (wFQ.out.trans (by unfold JU;rw[if_pos hlz.out])) hTZ.out (by rw[e8];have:=hz5.out;omega) (by unfold Ze;rw[List.map_append,List.map_take,List.map_drop,e11H.out,List.append_nil]) (λy hy=>by
       unfold Ze at hy;simp only[List.append_nil]at hy;rcases List.mem_append.1 hy with hy|hy
       ·exact(hUA.out y (List.mem_of_mem_take hy)).1
       ·exact(hUA.out y (List.mem_of_mem_drop hy)).1) (.inl rfl) ho9H.out e8.symm (by have:=hPW.kx;have:=(zG.1 hPW.r4).1;omega) (λp hp=>?_) rL' rH' (hPQ.out.ext x9') (qb hPW.r2 x9') (qb hPW.r3 x9') (qb hPW.r4 x9') (qb hPW.rT x9') ⟨A3,c3,qb rC3 x9'⟩ (qb hPW.rS x9') (hPW.kx.trans (qY.of_ext (X:=λq=>q<w3.heap.size) x9') λ_ _ h=>h) zO zO zO zO zO zO hwE.symm
      ·obtain⟨n1,n2,n3,n4,n5⟩:=hNx;have zS:=(zG.1 hPW.rS).1;exact⟨((KeepsOthers.of_ext x9').trans n2).from _,⟨n4.trans (x9'.block _ zO),(n5 _ zO).trans (x9'.block _ zO)⟩,⟨wE,n1,Qj.refl _⟩,n3 (i4.trans (Below.mono x9' i4.size))⟩
      ·have hpm:p∈ips:=by
        rcases List.mem_append.1 hp with hp|hp
        ·exact List.mem_of_mem_take hp
        ·exact List.mem_of_mem_drop hp
       exact⟨(hKU.out.2 p hpm).1,λC hC=>(hKU.out.2 p hpm).2 C ((hPW.kx.trans (qY.of_ext (X:=λq=>q<w3.heap.size) x9') λ_ _ h=>h).trans hC (hVF.out k' λq hq=>(hPQ.out.b3 q hq).1))⟩
    ·have hlz1:((ls.length:Int)==0)=false:=by rw[beq_eq_false_iff_ne];have:=List.length_pos_iff.2 hlz;omega
     have hlz2:decide (ls.length=0)=false:=decide_eq_false (by have:=List.length_pos_iff.2 hlz;omega);have hlz3:¬ls.length=0:=by have:=List.length_pos_iff.2 hlz;omega
     obtain⟨⟨jt,jp,jm⟩,hjx⟩:∃t,Zx S' zs pz ls=t:=⟨_,rfl⟩
     have hXs:∀q,XD w.heap.size b g p10 w7.heap.size k' q->q<W'.heap.size:=λq hq=>by
      have:=(zG.1 hHQ.out.r4).1;have:=(zG.1 hrL).1;have:=(zG.1 hrH).1;rcases hq with hq|hq|hq|hq
      ·omega
      ·omega
      ·omega
      ·exact(hPQ.out.b3 q hq).2
     have HJ:=zH (qlR D' w.heap.size w8.heap.size b g k' S' hTZ.out (XD w.heap.size b g p10 w7.heap.size k') (lv:Int) zs pz hpz hz5.out hWrH.out A8 c8 ls wDY.out Al cl lps hUN.out W' hPQ.out hXs (by have:=hYL.out.its (qY.refl _ _);rw[e11H.out]at this;exact this) hlEH.out);rw[hjx]at HJ;have k17:=qa hQJ;have kT:=qa hHQ.out.rT;replace hlz:=zH hlz;replace hXs:=zH hXs;clear HCl
     gi_wp2_with fail
     refine⟨trivial,(CallsIn.inRound _ (callsIn_wide.2 HJ.out)).mono ?_⟩;clear HJ;rintro e w20 ⟨u,rfl,⟨vj,jps,rfl,hjE,hjm⟩,hB20⟩;have x20:Ext W' w20:=hB20;obtain⟨Aj,cj,rfl⟩:=hjE.shape hjm;have rT20:=qb hHQ.out.rT x20;have kT20:=qa rT20;clear hB20 k17 kT kL
     gi_upto_region 15 with fail
     generalize wHL:Q w20 _=w21;have x201:Ext w20 w21:=by rw[<-wHL];exact zN _ _
     have x21:Ext W' w21:=x20.trans x201;have rp21:w21.heap[w20.heap.size]?=F (I #[M U (jp:Int),M U (jm:Int)] 170 (0,0)):=by rw[<-wHL];exact zI _ _ _ rfl
     clear wHL kT20 rT20;obtain⟨hjn,hWA,hWB,hUJ⟩:=qme (S:=S') (xs:=zs) (l:=ls) hpz wDY.out;have hUI:=joinX_ok (S:=S') (xs:=zs) (p:=pz) wLH.out;rw[hjx]at hjn hWA hWB hUJ hUI;simp only at hjn hWA hWB hUJ hUI;have hUJ:=hUJ hlz.out;have hRZ:=hjE.trans (qY.of_ext x201) λ_ _ h=>h;have hRN:=hPQ.out.ext x21;have HSn:=zH (qbd D' w.heap.size w8.heap.size b g k' S' ((lv:Int)-1) Aj _ cj jt hUI hWB (qZ hTZ.out).2.1 hs hhsH.out w21 hRN (λC hC=>by have:=hRZ.its (C:=C) (hC.mono λq _ h=>.inr (.inr (.inr h)));rw[hjm]at this;exact this));obtain⟨A3,c3,rC21⟩:=hHQ.out.rC;replace rC21:=qb rC21 x21;have rT21:=qb hHQ.out.rT x21;have rH21:=qb hrH x21;have kC21:=qa rC21;have kT21:=qa rT21;have kH21:=qa rH21;have hq1:(l.length:Int)-2=(lvl:Int)-1:=zO;have hq2:(lvl:Int)-1-(j:Int)=(lv:Int)-1:=by have:=hWvH.out;have:=hjlH.out;omega
     have hq3:wrap64 ((lvl:Int)-1)=(lvl:Int)-1:=IntWalk.wrap64_in _ (by have:=hYS.out;omega);have hq4:wrap64 ((lv:Int)-1)=(lv:Int)-1:=IntWalk.wrap64_in _ (by have:=hWvH.out;have:=hYS.out;omega);replace hRZ:=zH hRZ;replace hRN:=zH hRN;replace hUI:=zH hUI;replace hWB:=zH hWB;replace hjn:=zH hjn;replace hWA:=zH hWA;replace hjm:=zH hjm;replace hUJ:=zH hUJ;clear hjE
     gi_wp2_with fail
     refine⟨trivial,(CallsIn.inRound _ (callsIn_wide.2 HSn.out)).mono ?_⟩;clear HSn;intro e w22 hsq;obtain⟨hkb,hAP⟩:=hsq.split hUI.out hWB.out hhsH.out hTZ.out;clear hsq;have nB:∀{q cs ty fr},w21.heap[q]?=F (I cs ty fr)->ty≠223->ty≠5->ty≠142->¬B3 b g k' q:=λhr h1 h2 h3=>hRN.out.notB3 hr h1 h2 h3;have r221:=qb hHQ.out.r2 x21;have r321:=qb hHQ.out.r3 x21;have r421:=qb hHQ.out.r4 x21;have rS21:=qb hHQ.out.rS x21;have rL21:=qb hrL x21;have r1721:=qb hQJ x21;have r222:=hkb.row r221 (nB r221 zA1 zA1 zA1);have r322:=hkb.row r321 (nB r321 zA1 zA1 zA1);have r422:=hkb.row r421 (nB r421 zA1 zA1 zA1);have rT22:=hkb.row rT21 (nB rT21 zA1 zA1 zA1);have rC22:=hkb.row rC21 (nB rC21 zA1 zA1 zA1);have rS22:=hkb.row rS21 (nB rS21 zA1 zA1 zA1);have rL22:=hkb.row rL21 (nB rL21 zA1 zA1 zA1);have rH22:=hkb.row rH21 (nB rH21 zA1 zA1 zA1);have rp22:=hkb.row rp21 (nB rp21 zA1 zA1 zA1);have r1722:=hkb.row r1721 (nB r1721 zA1 zA1 zA1);have hko:=(KeepsOthers.of_ext x21).trans (hRN.out.others hkb);have s28:w.heap.size<=w8.heap.size:=x8.size;have wAY:=(i4.trans (Below.mono x21 i4.size)).trans (Below.mono hkb.below s28);have hOX:=(hHQ.out.kx.trans (qY.of_ext (X:=λq=>q<w3.heap.size) x21) λ_ _ h=>h).trans hkb.keepX λq hq hX=>hVF.out k' (λq hq=>(hPQ.out.b3 q hq).1) q hq (.inr (.inr (.inr hX)));have hkr:=λq (h:q<w4.heap.size)=>hkb.rows q (by have:=x21.size;have:=x46.size;omega) λhx=>by have:=(hPQ.out.b3 q hx).1;have:=x46.size;have:=x67.size;have:=x78.size;omega
     have hVH:=hRZ.out.trans (hkb.keepX.mono (Y:=XD w.heap.size b g p10 w7.heap.size k') λq _ hX=>.inr (.inr (.inr hX))) λ_ _ h=>h;replace hko:=zH hko;replace wAY:=zH wAY;replace hOX:=zH hOX;replace hkr:=zH hkr;replace hVH:=zH hVH;clear nB hkb r221 r321 r421 rS21 rL21 r1721 rT21 rC21 rp21 rH21 kC21 kT21 kH21 hq1 hq2 hq3 hq4 hQJ;rcases hAP with⟨er,v,hbx,hne,rfl⟩|⟨f,S2,k2,D2,hbx,hf,hS2,rfl,hNk,hND,hYB⟩
     ·have hga:=zH (wFQ.out.trans (by unfold JU;rw[if_neg hlz.out,hjx];simp only;rw[hbx.out]:JU S' (lv,zs,pz) ls hs=.error er));have hZA:(er != 0)=Z:=by rw[bne_iff_ne];exact hne
      have k222:=qa r222;have k322:=qa r322;have k422:=qa r422;have f222:=qd r222;have f322:=qd r322;have f422:=qd r422;clear hbx hVH hRZ rT22 rC22 rS22 rL22 rH22 rp22 r1722
      gi_wp2_with fail
      obtain⟨g4,g5,g6,hb,-,hk,hko2⟩:=YM (w:=w) r222 r322 r422 rfl;exact⟨(hko.out.trans hko2).from _,⟨er,_,rfl,hga.out,⟨g4,g5,g6⟩,Qj.refl _⟩,hb zO wAY.out⟩
     ·have hga:=zH (wFQ.out.trans (by unfold JU;rw[if_neg hlz.out,hjx];simp only;rw[hbx.out]:JU S' (lv,zs,pz) ls hs=.ok (Ze zs jp jm [jG (jF jt) f],[jG (jF jt) f],S2)));obtain⟨⟨A',c',e',-,-,hrj⟩,-⟩:=hVH.out;have hjl:jps.length=jt.length:=by rw[<-hjm.out,List.length_map]
      have hj0:0<jt.length:=List.length_pos_iff.2 hUJ.out;rw[hjl]at e' hrj;cases e';obtain⟨bj,oj,rfl,hbj,hcj⟩:=(hrj w22 (qY.refl _ _)).2 zO;obtain⟨g0,g1,g2,-,-⟩:=Vs jps 0 zO;obtain⟨y0,hy0⟩:∃y0,jps[0].1=y0:=⟨_,rfl⟩
      have hYN:Hid (jF jt=(y0.k,y0.i,y0.o)):=zH (by
       have:jt=y0::jt.tail:=by
        rcases jps with _|⟨p,ps⟩
        ·simp at hjl;omega
        ·rw[<-hjm.out,<-hy0];rfl
       rw[this];rfl)
      rw[hy0]at g0 g1 g2;have d0:=hcj _ _ g0;have d1:=hcj _ _ g1;have d2:=hcj _ _ g2;simp only[Nat.zero_mul,Nat.zero_add,Nat.add_zero]at d0 d1 d2;have hj1:(0:Int)<(jt.length:Int):=zO;replace hjl:=zH hjl;replace hy0:=zH hy0;replace hcj:=zH hcj;clear hbx g0 g1 g2 hrj
      gi_upto_region 18 with fail
      gi_upto_region 19 with fail
      generalize wHM:Q w22 _=w23;have x23':Ext w22 w23:=by rw[<-wHM];exact zN _ _
      have ro23:w23.heap[w22.heap.size]?=F (I #[M .u8 y0.k,M .u32 y0.i,M .u32 y0.o,M U (f:Int),E O 0 0] 51 (0,0)):=by rw[<-wHM];exact zI _ _ _ rfl
      clear wHM d0 d1 d2 hcj;have wLE:=zH (hOX.out.trans (qY.of_ext (X:=λq=>q<w3.heap.size) x23') λ_ _ h=>h);have HCl:Hid (∀W,Ext w23 W->Calls prog 115 #[E A8 zs.length c8] W (zv (λu w'=>w'.ownsRow W.heap.size 51 5 u zs.length (qG ips)) W)):=zH λW hW=>by obtain⟨⟨A,c,e,_,_,hr⟩,_⟩:=hKU.out;rw[hzlH.out]at e hr;cases e;exact Yb A8 zs.length c8 (qG ips) (by have:=hz5.out;omega) one1H.out W (hr W (wLE.out.trans (qY.of_ext (X:=λq=>q<w3.heap.size) hW) λ_ _ h=>h))
      obtain⟨ocs,wCL⟩:∃ocs:Array Value,ocs=#[M .u8 y0.k,M .u32 y0.i,M .u32 y0.o,M U (f:Int),E O 0 0]:=⟨_,rfl⟩
      obtain⟨us,hus⟩:∃us,us=(qG ips).take (jp*5)++ocs.toList++(qG ips).drop ((jp+jm)*5):=⟨_,rfl⟩
      have HRp:Hid (∀(V:World)(Ac:OA)(cc p:Nat),Ext w23 V->V.ownsRow w23.heap.size 51 5 (E Ac zs.length cc) zs.length (qG ips)->V.heap[p]?=F (I ocs 51 (0,0))->Calls prog 119 #[E Ac zs.length cc,M U (jp:Int),M U ((jp:Int)+(jm:Int)),E (F ⟨p,0,O⟩) 1 1] V (Vh w23.heap.size (E Ac zs.length cc) (zs.length-jm+1) us V)):=zH λV Ac cc p hV ho hp=>by have H:=qgw w23.heap.size _ zs.length jp jm (qG ips) p ocs V ho hp (by rw[wCL];rfl) hWA.out (by have:=hz5.out;omega) hjn.out one1H.out (by rw[wCL];intro u hu;simp only[List.mem_cons,List.not_mem_nil,or_false]at hu;rcases hu with rfl|rfl|rfl|rfl|rfl<;>rfl) hV.size;rw[hus];rw[Int.natCast_add]at H;exact H
      have hwq:IntKind.i64.wrap ((jp:Int)+(jm:Int))=(jp:Int)+(jm:Int):=by rw[IntKind.wrap_i64];have:=hjn.out;have:=hz5.out;omega
      obtain⟨RR,hRR⟩:∃RR:Rel,RR=Ya w23.heap.size:=⟨_,rfl⟩
      have hle:∀a b,qp.r a b->RR.r a b:=by rw[hRR];exact qeL _
      have g17:∀W,RR.r w23 W->∀i,W.cell? ⟨t17,i,O⟩=#[M U (lv:Int),E A8 zs.length c8,M U (pz:Int)][i]?:=λW h=>qa (qb (qb r1722 x23') ((hRR▸h:(Ya w23.heap.size).r w23 W).2.1 (zM _)));have gp:∀W,RR.r w23 W->∀i,W.cell? ⟨w20.heap.size,i,O⟩=#[M U (jp:Int),M U (jm:Int)][i]?:=λW h=>qa (qb (qb rp22 x23') ((hRR▸h:(Ya w23.heap.size).r w23 W).2.1 (zM _)));have go:∀W,RR.r w23 W->∀i,W.cell? ⟨w22.heap.size,i,O⟩=#[M .u8 y0.k,M .u32 y0.i,M .u32 y0.o,M U (f:Int),E O 0 0][i]?:=λW h=>qa (qb ro23 ((hRR▸h:(Ya w23.heap.size).r w23 W).2.1 (zM _)));replace hRR:=zH hRR;replace hus:=zH hus;refine qiD zQ zQ ?_;refine ZJ 14 16 (M U (f:Int)) zQ zA6 zQ zQ zQ zA0 (λW=>?_) ?_
      ·go_simp
      simp only[Act.put,qo,qf,qc,qh,qI,qv,Qe,qL,qN,zA,zB,zC];refine qew (w:=w23) qp RR 13 (λi=>i != 3&&i != 12) hle (qV [(3,jI w23.heap.size zs.length (qG ips)),(12,ZY w23.heap.size 1 51 ocs),(13,jI w23.heap.size (zs.length-jm+1) us)]) [Z,Z,Z,Z,Z,Z,Z,Z,Z,Z,Z,Z,Z,Z,false] 2 zQ zQ zQ zQ zQ zQ zQ zQ ?st (Rel.drew _ _) ?walk
      case st=>exact GS (by simp only[List.forall_mem_cons];exact⟨λp=>⟨ZZ _ _ _ p,λ_ h=>by cases h⟩,λp=>⟨QA (jw _ _ _ _ p),λ_ h=>by cases h⟩,λp=>⟨ZZ _ _ _ p,λh=>absurd rfl h⟩,λ_ h=>by cases h⟩)
      case walk=>
       intro K hK;dsimp only[qA,List.replicate];refine zC8 ?_;refine Xe (jI w23.heap.size zs.length (qG ips)) zA0 zA0 zA1 (λW hW _=>?_) (λp3=>?_)
       ·have hW:Ext w23 W:=(hRR.out▸hW:(Ya w23.heap.size).r w23 W).2.1 (zM _);refine Qh ?_ ((HCl.out W hW).mono λe w' h=>?_)
        ·go_simp
        obtain⟨u,rfl,hu,hB⟩:=h;obtain⟨Ac,cc,rfl,_,_⟩:=qM hu;exact⟨(Ac,cc),rfl,QM hu hW.size,hB⟩
       obtain⟨Ac,cc⟩:=p3;refine zC8 ?_;refine Xe (ZY w23.heap.size 1 51 ocs) zA0 zA0 zA1 (λW hW _=>?_) (λ(p12:Nat)=>?_)
       ·have hW:Ext w23 W:=(hRR.out▸hW:(Ya w23.heap.size).r w23 W).2.1 (zM _);unfold Qw;rw[wCL];go_simp;exact⟨W.heap.size,rfl,⟨zI _ _ _ rfl,hW.size⟩,zN _ _⟩
       refine zC8 ?_;refine qcA (jI w23.heap.size (zs.length-jm+1) us) zA0 zA0 (λW hW hp=>?_) (λp13=>?_)
       ·have hW:Ext w23 W:=hW;have ho:W.ownsRow w23.heap.size 51 5 (E Ac zs.length cc) zs.length (qG ips):=hp 3 zA1;obtain⟨f12,_⟩:W.heap[p12]?=F (I ocs 51 (0,0))/\w23.heap.size<=p12:=hp 12 zA1;refine Qh ?_ ((HRp.out W Ac cc p12 hW ho f12).mono λe w' h=>?_)
        ·go_simp
        have hR:=qcG ho h;obtain⟨u,rfl,hu,-⟩:=h;obtain⟨Ad,cd,rfl,_,_⟩:=qM hu;exact⟨(Ad,cd),rfl,hu,by rw[hRR.out];exact hR⟩
       obtain⟨Ad',cd'⟩:=p13;refine zC8 ?_;refine qeH (hK _ _ λV hV hF=>?_);have hoV:V.ownsRow w23.heap.size 51 5 (E Ad' (zs.length-jm+1) cd') (zs.length-jm+1) us:=hF 13 rfl;have x23V:Ext w23 V:=(hRR.out▸hV:(Ya w23.heap.size).r w23 V).2.1 (zM _);clear hF hK g17 gp go HCl HRp hV hle;refine zB8 ?_;have x22V:=x23'.trans x23V;have rLV:=qb rL22 x22V;have rHV:=qb rH22 x22V;have kL':=qa rLV;have kH':=qa rHV;have fL':=qd rLV;have fH':=qd rHV;have zL':=(zG.1 rLV).1;have zH':=(zG.1 rHV).1;have hne:p10≠w7.heap.size:=qP rLV rHV zA1;have hQF:w7.heap.size≠p10:=λe=>hne e.symm;have hoVH:=zH hoV;clear hoV;go_wp2;refine Qt ?_
       gi_wp2_with fail
       generalize hwE:J (J V _ _) _ _=wE;have hPW:=hHQ.out;have z46:=x46.size;have z2V:=x22V.size;have e8:(Ze zs jp jm [jG (jF jt) f]).length=zs.length-jm+1:=by have:=TF (xs:=zs) (up:=[jG (jF jt) f]) (q:=jp) (m:=jm) hjn.out;simp only[List.length_singleton]at this;have:=hjn.out;omega
       have e7:qG (ips.take jp++[(jG (jF jt) f,E O 0 0)]++ips.drop (jp+jm))=us:=by rw[hus.out,Zr,Zr,VL,VK,wCL,hYN.out];rfl
       rw[<-e7]at hoVH;have hmIt:QW (jG (jF jt) f)/\True:=⟨?_,trivial⟩
       have hNx:=qeD (v:=E Ad' (zs.length-jm+1) cd') (ls:=Ze zs jp jm [jG (jF jt) f]) (hs:=[jG (jF jt) f]) hga.out hS2 (by rw[e8];have:=hz5.out;have:=hWA.out;have:=hjn.out;omega) (by unfold Ze;rw[List.map_append,List.map_append,List.map_take,List.map_drop,e11H.out];rfl) (λy hy=>by
        unfold Ze at hy;rcases List.mem_append.1 hy with hy|hy
        ·rcases List.mem_append.1 hy with hy|hy
         ·exact(hUA.out y (List.mem_of_mem_take hy)).1
         ·rw[List.mem_singleton.1 hy];exact hmIt.1
        ·exact(hUA.out y (List.mem_of_mem_drop hy)).1) (.inr ⟨_,rfl,by unfold jG;simp only;omega⟩) hoVH.out e8.symm (by have:=x21.size;have:=(zG.1 hPW.r4).1;have:=(zG.1 r422).1;have:=x23'.size;omega) (λp hp=>?_) rLV rHV (hYB.ext x22V) (qb r222 x22V) (qb r322 x22V) (qb r422 x22V) (qb rT22 x22V) ⟨A3,c3,qb rC22 x22V⟩ (qb rS22 x22V) (hOX.out.trans (qY.of_ext (X:=λq=>q<w3.heap.size) x22V) λ_ _ h=>h) zO zO zO zO zO zO hwE.symm
       ·obtain⟨n1,n2,n3,n4,n5⟩:=hNx;have zS:=(zG.1 rS22).1;have zS2:=(zG.1 hPW.rS).1;have s28:w.heap.size<=w22.heap.size:=by have:=(zG.1 r422).1;omega
        exact⟨((hko.out.trans (KeepsOthers.of_ext x22V)).trans n2).from _,⟨n4.trans ((qb rS22 x22V).trans hPW.rS.symm),(n5 _ zO).trans ((x22V.block _ zO).trans ((hkr.out _ zO).trans (x21.block _ zO)))⟩,⟨wE,n1,Qj.refl _⟩,n3 (wAY.out.trans (Below.mono x22V s28))⟩
       ·rcases List.mem_append.1 hp with hp|hp
        ·rcases List.mem_append.1 hp with hp|hp
         ·have hpm:=List.mem_of_mem_take hp;exact⟨(hKU.out.2 p hpm).1,λC hC=>(hKU.out.2 p hpm).2 C ((hOX.out.trans (qY.of_ext (X:=λq=>q<w3.heap.size) x22V) λ_ _ h=>h).trans hC (hVF.out k2 λq hq=>(hYB.b3 q hq).1))⟩
         ·rw[List.mem_singleton.1 hp];exact⟨⟨O,0,rfl⟩,λC _=>⟨O,0,rfl,zM _,zA7,Rd.none_⟩⟩
        ·have hpm:=List.mem_of_mem_drop hp;exact⟨(hKU.out.2 p hpm).1,λC hC=>(hKU.out.2 p hpm).2 C ((hOX.out.trans (qY.of_ext (X:=λq=>q<w3.heap.size) x22V) λ_ _ h=>h).trans hC (hVF.out k2 λq hq=>(hYB.b3 q hq).1))⟩
       ·obtain⟨k1,k2,k3⟩:=qfW hUI.out;exact⟨k1,k2,k3,by unfold jG;simp only;omega,by unfold jG;simp only[List.length_nil];omega⟩
   case done=>
    rintro D zs W hD hzs ⟨⟨Wb,hPI,hck⟩,i4⟩ hK;subst hJG;have hPW:=hPI.ck hck;obtain⟨ls,hs,S',k',D',Al,cl,lps,hgr,hS',hSB,hlm,hSA,hhs,hlE,hrL,hrH,hbc⟩:=hPW.ex;rw[hzs,hul]at hgr;have wDB:(jf (λj=>lvl-1-j) lvl).map (sAt l)=(l.take lvl).reverse:=by
     have hlt:(l.take lvl).length=lvl:=by rw[List.length_take];have:=hwl.out;omega
     have h1:=qac (l.take lvl) lvl zO;rw[hlt,List.take_of_length_le (l:=(l.take lvl).reverse) (by rw[List.length_reverse];omega)]at h1;rw[<-h1];refine List.map_congr_left λj hj=>?_;obtain⟨q,hq,rfl⟩:=List.mem_map.1 hj;have:=List.mem_range.1 hq;exact(qiG zO).symm
    rw[wDB]at hgr;have hdg:qbN (k,i,o) l.reverse S=.ok (ls,hs,S'):=by rw[qhx hwl.out,hlf.out,<-hl0.out,hgr]
    have hDI:=zH (hdI2.out ls hs S' hdg);obtain⟨LV,hLV⟩:∃LV:Int,LV=if ls=[]then 0 else(lvl:Int):=⟨_,rfl⟩
    have hpre:Hid (Kz S lvl xs (k,i,o)=match Qr S' LV ls hs with
     |.error e=>.error e
     |.ok (up,S2)=>Zo 7 S2 (kE up)):=zH (by
      unfold Kz;rw[hl.out,hdg,hLV];have:((l.length-1:Nat):Int)=(lvl:Int):=by have:=hwl.out;omega
      simp only[this]<;>rfl)
    have hHS:=zH (qbd D' w.heap.size w8.heap.size b g k' S' LV Al _ cl ls hSA hSB (qZ hS').2.1 hs hhs W hbc (λC hC=>by have:=hlE.its (C:=C) (hC.mono λq _ h=>.inr (.inr (.inr h)));rw[hlm]at this;exact this));obtain⟨A3,c3,rC⟩:=hPW.rC;have rW2:=hPW.r2;have rW3:=hPW.r3;have rW4:=hPW.r4;have rWT:=hPW.rT;have kL:=qa hrL;have kH:=qa hrH;have kC:=qa rC;have kT:=qa rWT;have zz:w.heap.size+4<w11.heap.size:=(zG.1 hI0.out.r4).1;have hwl4:=wDE.out;replace hbc:=zH hbc;replace hlE:=zH hlE;replace hSA:=zH hSA;replace hhs:=zH hhs;replace hlm:=zH hlm;replace hS':=zH hS';replace hSB:=zH hSB;have hLV':=zH hLV;replace hLV:=zH hLV;replace hzs:=zH hzs;clear hgr hdg hPW hPI hck wDB hPY;go_upto_if 128 with fail;go_cut [23]from 125 (λs wx=>s=M U LV/\wx=W)
    case first=>
     by_cases hlz:ls=[]
     ·have e1:((ls.length:Int)==0)=Z:=by rw[hlz];rfl
      have e2:decide (ls.length=0)=Z:=by rw[hlz];rfl
      have e3:ls.length=0:=by rw[hlz];rfl
      have hv:=hLV.out;rw[if_pos hlz]at hv;replace hlz:=zH hlz;replace hv:=zH hv;go_wp2_with fail;go_meet
      case rel=>exact⟨by rw[hv.out],rfl⟩
     ·have e1:((ls.length:Int)==0)=false:=by rw[beq_eq_false_iff_ne];have:=List.length_pos_iff.2 hlz;omega
      have e2:decide (ls.length=0)=false:=decide_eq_false (by have:=List.length_pos_iff.2 hlz;omega);have e3:¬ls.length=0:=by have:=List.length_pos_iff.2 hlz;omega
      have hv:=hLV.out;rw[if_neg hlz]at hv;replace hlz:=zH hlz;replace hv:=zH hv;go_wp2_with fail;go_meet
      case rel=>exact⟨by rw[hv.out,hwl4],rfl⟩
    case rest=>
     obtain⟨rfl,rfl⟩:=hcut;go_wp2_with fail;refine hHS.out.mono ?_;clear hHS;intro e V1 hsq;obtain⟨hkb,hAP⟩:=hsq.split hSA.out hSB.out hhs.out hS'.out;clear hsq;have nB:∀{q cs ty fr},wc.heap[q]?=F (I cs ty fr)->ty≠223->ty≠5->ty≠142->¬B3 b g k' q:=λhr h1 h2 h3=>hbc.out.notB3 hr h1 h2 h3;have rcV:=hkb.row rW2 (nB rW2 zA1 zA1 zA1);have rdV:=hkb.row rW3 (nB rW3 zA1 zA1 zA1);have reV:=hkb.row rW4 (nB rW4 zA1 zA1 zA1);have rtV:=hkb.row rWT (nB rWT zA1 zA1 zA1);have KV:=(hbc.out.others hkb).same D _ hK rfl;have xV:Ext w V1:=Below.trans i4 (Below.mono hkb.below x8.size);have zV1:=hkb.below.size;have kdV:=qa rdV;have keV:=qa reV;have fdV:=qd rdV;have feV:=qd reV;have zlo:w.heap.size+5<=w8.heap.size:=by have:=x78.size;omega
     have zD:w.heap.size+4<D:=zO;clear nB hkb rW2 rW3 rW4 hrL hrH rC rWT kL kH kC kT hK i4 hwl4 hlE hSA hlm hSB hLV;rcases hAP with⟨er,v,hbx,hne,rfl⟩|⟨f,S2,k2,D2,hbx,hf,hS2,rfl,hNk,hND,hb1⟩
     ·have hqe:=zH (show q=.error er by rw[hq1.out];unfold qcs;rw[hpre.out,hbx.out]);have hZA:(er != 0)=Z:=by rw[bne_iff_ne];exact hne
      clear hbx hpre;go_upto_region 25 with fail;generalize hw1:J (J V1 _ _) _ _=V2;obtain⟨t1,t2,t3,t4,t5,t6⟩:=Vc (C:=V2) rdV reV zO hw1.symm;clear hw1 kdV keV fdV feV;have rc2:=(t3 (w.heap.size+2) zO zO).trans rcV;have KV2:=t5.same D _ KV rfl;have xV2:Ext w V2:=t6 zO zO xV;replace xV2:=zH xV2;clear t3 t4 t5 t6 xV;have xV2s:=xV2.out.size;have q4z:w.heap.size+4<V2.heap.size:=(zG.1 t2).1;obtain⟨RR,hRR⟩:∃RR:Rel,RR=VB (w.heap.size+3) 3 (λj=>if j=0 then F (M U 0)else O):=⟨_,rfl⟩
      replace hRR:=zH hRR;have gE:∀W,RR.r V2 W->∀i,W.cell? ⟨w.heap.size+1+1+1+1,i,O⟩=#[M U er][i]?:=λW h=>qa (Zw (hRR.out▸h) zO t2);refine qw zQ ?_;refine Qb (w:=V2) RR (qV [(2,jo),(3,Vv (w.heap.size+3) 3 0 (M U 0))]) (List.replicate 4 Z) 1 zQ zQ zQ zQ zQ zQ zQ ?st (Rel.drew _ _) ?walk
      case st=>rw[hRR.out];exact ql (by simp only[List.forall_mem_cons];exact⟨ja,vd rfl,λ_ h=>by cases h⟩)
      case walk=>
       intro K hK;dsimp only[qA,List.replicate];refine zC9 ?_;refine qH jo zA0 zA0 (λV hV _=>?_) (λ(p:Unit)=>?_)
       ·rw[hRR.out]at hV⊢;have q8:=Zw hV (show w.heap.size+2≠w.heap.size+3 by omega) rc2;have k8:=qa q8;have f8:=qd q8;have z8:=(zG.1 q8).1;refine JM ?_ ⟨(),rfl,trivial,qaY (same4 q8)⟩;clear hV gE;go_simp
       refine zC9 ?_;refine qH (Vv (w.heap.size+3) 3 0 (M U 0)) zA0 zA0 (λV hV _=>?_) (λ(p:Unit)=>?_)
       ·rw[hRR.out]at hV⊢;obtain⟨cs,q8,hcs,-⟩:=hV.2 _ t1;refine Kt t1 hV rfl zA3 λhf ⟨u,hu⟩=>?_;have hf0:=hf 0;have z8:=(zG.1 q8).1;clear hV gE q8;go_simp
       refine zC9 ?_;refine qF (hK _ _ λV hV hF=>?_);have hRT:∃cs,V.heap[w.heap.size+3]?=F (I cs 3 (0,0))/\cs[0]?=F (M U 0):=(hF 3).1;clear hF hK gE;rw[hRR.out]at hV;have q2:=Zw hV (show w.heap.size+2≠w.heap.size+3 by omega) rc2;have q4:=Zw hV (show w.heap.size+4≠w.heap.size+3 by omega) t2;have qK:=Zw hV (show D≠w.heap.size+3 by omega) KV2;have q3:V.heap[w.heap.size+3]?=F (I #[M U 0] 3 (0,0)):=by
        obtain⟨cs,h1,h2⟩:=hRT;obtain⟨cs',k1,k2,-⟩:=hV.2 _ t1;rw[h1]at k1;cases k1;rcases cs with⟨l⟩
        match l,k2,h2 with
        |[v],_,h2=>simp at h2;rw[h1,h2]
       have bV:Below w.heap.size w V:=Below.trans xV2.out ((Below.refl _ _).grown hV.1 zO (λg hg=>by simp at hg;omega));clear hRT hV hRR;refine zB8 ?_;have ke:=qa q4;have fe:=qd q4;have ze:w.heap.size+1+1+1+1<V.heap.size:=(zG.1 q4).1;go_wp2;refine Qt ?_;go_wp2_with fail;have hV2:=qfm q4;have qKV:=qb qK hV2;exact Td rfl rfl rfl rfl qKV zD (qb q2 hV2) (qb q3 hV2) (qb q4 hV2) ⟨_,rfl,by rw[hqe.out];rfl,(bV.trans (Below.mono hV2 bV.size)).trans (belowK_b (w:=w) (zM _) _ D _ _ zO qKV rfl rfl)⟩
     ·obtain⟨H,its,hH,hn2,hEZ⟩:=qkS hDI.out (by rw[<-hLV'.out];exact hbx.out) rfl;have hLQ:=zH (show Kz S lvl xs (k,i,o)=Zo 7 S2 f by rw[hpre.out,hbx.out];rfl);replace hb1:=zH hb1;clear hbx hpre hNk hND hDI hhs;go_upto_region 24 with fail;generalize hw1:J (J V1 _ _) _ _=V2;obtain⟨t1,t2,t3,t4,t5,t6⟩:=Vc (C:=V2) rdV reV zO hw1.symm;clear hw1 kdV keV fdV feV;have zb1:=(zG.1 rtV).1;have hb2:=hb1.out.kept (t6 zO zO (Below.refl _ _)) λq h _=>t3 q zO zO;have HL:=zH (qjw D2 w.heap.size w8.heap.size b g k2 S2 hS2 f hf.1 hf.2 H its hn2 hEZ 7 (by have:=hYS.out;omega) V2 hb2);have xV2:Ext w V2:=t6 zO zO xV;have rc2:=(t3 (w.heap.size+2) zO zO).trans rcV;have rt2:=(t3 w9.heap.size zO zO).trans rtV;have KV2:=t5.same D _ KV rfl;have kd:=qa t1;have ke:=qa t2;have kt:=qa rt2;replace hb2:=zH hb2;replace hn2:=zH hn2;replace hEZ:=zH hEZ;clear hb1 rcV rdV reV rtV KV xV t3 t5 t6;go_wp2_with fail;refine HL.out.mono ?_;clear HL;rintro e V3 ⟨hkb,hlq⟩;have nB:∀{q cs ty fr},V2.heap[q]?=F (I cs ty fr)->ty≠223->ty≠5->ty≠142->¬B3 b g k2 q:=λhr h1 h2 h3=>hb2.out.notB3 hr h1 h2 h3;have rc3:=hkb.row rc2 (nB rc2 zA1 zA1 zA1);have rd3:=hkb.row t1 (nB t1 zA1 zA1 zA1);have re3:=hkb.row t2 (nB t2 zA1 zA1 zA1);have rt3:=hkb.row rt2 (nB rt2 zA1 zA1 zA1);have K3:=(hb2.out.others hkb).same D _ KV2 rfl;have xV3:Ext w V3:=Below.trans xV2 (Below.mono hkb.below x8.size);have kd3:=qa rd3;have ke3:=qa re3;have fd3:=qd rd3;have fe3:=qd re3;have zz3:=hkb.below.size;clear nB hkb kd ke kt rc2 rt2 t1 t2 t4 KV2 hb2 xV2;rcases hlx:Zo 7 S2 f with er|⟨f3,S3⟩
      ·rw[hlx]at hlq;obtain⟨hne,v,rfl⟩:=hlq;have hqe:=zH (show q=.error er by rw[hq1.out];unfold qcs;rw[hLQ.out,hlx]);have hZA:(er != 0)=Z:=by rw[bne_iff_ne];exact hne
       replace hlx:=zH hlx;clear hLQ;go_upto_region 28 with fail;generalize hw1:J (J V3 _ _) _ _=V4;obtain⟨t1,t2,t3,t4,t5,t6⟩:=Vc (C:=V4) rd3 re3 zO hw1.symm;clear hw1 kd3 ke3 fd3 fe3;have rc2:=(t3 (w.heap.size+2) zO zO).trans rc3;have KV2:=t5.same D _ K3 rfl;have xV2:Ext w V4:=t6 zO zO xV3;replace xV2:=zH xV2;clear t3 t4 t5 t6 xV3;have xV2s:=xV2.out.size;have q4z:w.heap.size+4<V4.heap.size:=(zG.1 t2).1;obtain⟨RR,hRR⟩:∃RR:Rel,RR=VB (w.heap.size+3) 3 (λj=>if j=0 then F (M U 0)else O):=⟨_,rfl⟩
       replace hRR:=zH hRR;have gE:∀W,RR.r V4 W->∀i,W.cell? ⟨w.heap.size+1+1+1+1,i,O⟩=#[M U er][i]?:=λW h=>qa (Zw (hRR.out▸h) zO t2);refine qw zQ ?_;refine Qb (w:=V4) RR (qV [(2,jo),(3,Vv (w.heap.size+3) 3 0 (M U 0))]) (List.replicate 4 Z) 1 zQ zQ zQ zQ zQ zQ zQ ?st (Rel.drew _ _) ?walk
       case st=>rw[hRR.out];exact ql (by simp only[List.forall_mem_cons];exact⟨ja,vd rfl,λ_ h=>by cases h⟩)
       case walk=>
        intro K hK;dsimp only[qA,List.replicate];refine zC9 ?_;refine qH jo zA0 zA0 (λV hV _=>?_) (λ(p:Unit)=>?_)
        ·rw[hRR.out]at hV⊢;have q8:=Zw hV (show w.heap.size+2≠w.heap.size+3 by omega) rc2;have k8:=qa q8;have f8:=qd q8;have z8:=(zG.1 q8).1;refine JM ?_ ⟨(),rfl,trivial,qaY (same4 q8)⟩;clear hV gE;go_simp
        refine zC9 ?_;refine qH (Vv (w.heap.size+3) 3 0 (M U 0)) zA0 zA0 (λV hV _=>?_) (λ(p:Unit)=>?_)
        ·rw[hRR.out]at hV⊢;obtain⟨cs,q8,hcs,-⟩:=hV.2 _ t1;refine Kt t1 hV rfl zA3 λhf ⟨u,hu⟩=>?_;have hf0:=hf 0;have z8:=(zG.1 q8).1;clear hV gE q8;go_simp
        refine zC9 ?_;refine qF (hK _ _ λV hV hF=>?_);have hRT:∃cs,V.heap[w.heap.size+3]?=F (I cs 3 (0,0))/\cs[0]?=F (M U 0):=(hF 3).1;clear hF hK gE;rw[hRR.out]at hV;have q2:=Zw hV (show w.heap.size+2≠w.heap.size+3 by omega) rc2;have q4:=Zw hV (show w.heap.size+4≠w.heap.size+3 by omega) t2;have qK:=Zw hV (show D≠w.heap.size+3 by omega) KV2;have q3:V.heap[w.heap.size+3]?=F (I #[M U 0] 3 (0,0)):=by
         obtain⟨cs,h1,h2⟩:=hRT;obtain⟨cs',k1,k2,-⟩:=hV.2 _ t1;rw[h1]at k1;cases k1;rcases cs with⟨l⟩
         match l,k2,h2 with
         |[v],_,h2=>simp at h2;rw[h1,h2]
        have bV:Below w.heap.size w V:=Below.trans xV2.out ((Below.refl _ _).grown hV.1 zO (λg hg=>by simp at hg;omega));clear hRT hV hRR;refine zB8 ?_;have ke:=qa q4;have fe:=qd q4;have ze:w.heap.size+1+1+1+1<V.heap.size:=(zG.1 q4).1;go_wp2;refine Qt ?_;go_wp2_with fail;have hV2:=qfm q4;have qKV:=qb qK hV2;exact Td rfl rfl rfl rfl qKV zD (qb q2 hV2) (qb q3 hV2) (qb q4 hV2) ⟨_,rfl,by rw[hqe.out];rfl,(bV.trans (Below.mono hV2 bV.size)).trans (belowK_b (w:=w) (zM _) _ D _ _ zO qKV rfl rfl)⟩
      ·rw[hlx]at hlq;obtain⟨hS3,hf3,rfl,hb3⟩:=hlq;have hMZ:=zH (show q=match QD S3 (-1) S3.now a with
        |none=>.error 8
        |some t=>.ok (f3,qu S3 t) by
        rw[hq1.out];unfold qcs;rw[hLQ.out,hlx]<;>rfl)
       replace hlx:=zH hlx;replace hb3:=zH hb3;clear hLQ;go_upto_region 27 with fail;generalize hw1:J (J V3 _ _) _ _=V4;obtain⟨t1,t2,t3,t4,t5,t6⟩:=Vc (C:=V4) rd3 re3 zO hw1.symm;clear hw1 kd3 ke3 fd3 fe3;have zb3:=(zG.1 rt3).1;have hb4:=hb3.out.kept (t6 zO zO (Below.refl _ _)) λq h _=>t3 q zO zO;have HL:=zH (YY D2 w.heap.size w8.heap.size b g k2 S3 hS3 a haH.out.1 haH.out.2 V4 hb4);have xV4:Ext w V4:=t6 zO zO xV3;have rc4:=(t3 (w.heap.size+2) zO zO).trans rc3;have rt4:=(t3 w9.heap.size zO zO).trans rt3;have K4:=t5.same D _ K3 rfl;have kd:=qa t1;have ke:=qa t2;have kt:=qa rt4;replace hb4:=zH hb4;clear hb3 rc3 rd3 re3 rt3 K3 xV3 t3 t5 t6;go_wp2_with fail;refine HL.out.mono ?_;clear HL;rintro e w10' ⟨hkb,hlq⟩;have nB:∀{q cs ty fr},V4.heap[q]?=F (I cs ty fr)->ty≠223->ty≠5->ty≠142->¬B3 b g k2 q:=λhr h1 h2 h3=>hb4.out.notB3 hr h1 h2 h3;have r210:=hkb.row rc4 (nB rc4 zA1 zA1 zA1);have r310:=hkb.row t1 (nB t1 zA1 zA1 zA1);have r410:=hkb.row t2 (nB t2 zA1 zA1 zA1);have rT10:=hkb.row rt4 (nB rt4 zA1 zA1 zA1);have hOB:=(hb4.out.others hkb).same D _ K4 rfl;have hEV:Below w.heap.size w w10':=Below.trans xV4 (Below.mono hkb.below x8.size);have z410:=hkb.below.size;replace hEV:=zH hEV;clear nB hkb hb4 rc4 t1 t2 rt4 K4 kd ke kt xV4;rcases hlv:QD S3 (-1) S3.now a with _|t
       ·rw[hlv]at hlq;obtain rfl:=hlq;have hqe:=zH (show q=.error 8 by rw[hMZ.out,hlv]);have kc:=qa r210;have kd:=qa r310;have ke:=qa r410;have fc:=qd r210;have fd:=qd r310;have fe:=qd r410;replace hlv:=zH hlv;clear hMZ;go_wp2_with fail;obtain⟨g4,g5,g6,hb,-,hk,-⟩:=YM r210 r310 r410 rfl;have qK:=(hk D zO).trans hOB;exact Td rfl rfl rfl rfl qK zD g4 g5 g6 ⟨_,rfl,by rw[hqe.out];rfl,(hb zO hEV.out).trans (belowK_b (w:=w) (zM _) _ D _ _ zO qK rfl rfl)⟩
       ·rw[hlv]at hlq;obtain⟨rfl,hGJ⟩:=hlq;have hqe:=zH (show q=.ok (f3,qu S3 t)by rw[hMZ.out,hlv]);have hsh:Gm (qu S3 t):=QY (vX hS3 (JC haH.out.1 (qE.1 hS3).2.1 hlv));replace hlv:=zH hlv;clear hMZ;go_upto_region 32 with fail;have zz:w.heap.size+4<D:=zO;have hOJ:w.heap.size+2<w10'.heap.size:=zO;have hHS:=zH (λW (h:(vB (w.heap.size+2) 28 (Zg w10'.heap.size (qu S3 t)) (Zg.keep hOJ)).r w10' W)=>by have h1:=hGJ.kept (kR h (B0:=w.heap.size) zO zO) (λq h1 h2=>Xy h h2 zO);obtain⟨A1,n1,c1,A2,n2,c2,c3,A4,c4,hr,hs⟩:=h1.sto;exact Ko b A1 n1 c1 A2 n2 c2 _ _ c3 A4 _ c4 (qu S3 t) hsh W hr hs);obtain⟨RR,hRR⟩:∃RR:Rel,RR=vB (w.heap.size+2) 28 (Zg w10'.heap.size (qu S3 t)) (Zg.keep hOJ):=⟨_,rfl⟩
        replace hRR:=zH hRR;obtain⟨SF,hSF⟩:∃SF,qu S3 t=SF:=⟨_,rfl⟩
        rw[hSF]at hGJ hsh hHS hRR;replace hSF:=zH hSF;have gT:∀W,RR.r w10' W->∀i,W.cell? ⟨w9.heap.size,i,O⟩=#[Jx (F ⟨b,0,O⟩)][i]?:=λW h=>qa (jy (hRR.out▸h) zO rT10);have gI:∀W,RR.r w10' W->∀i,W.cell? ⟨w.heap.size+1+1+1,i,O⟩=#[M U (f3:Int)][i]?:=λW h=>qa (jy (hRR.out▸h) zO r310);refine qw zQ ?_;refine Qb (w:=w10') RR (qV [(1,qfa w10'.heap.size SF),(3,Ye (w.heap.size+2) 28 (Zg w10'.heap.size SF))]) (List.replicate 4 Z) 2 zQ zQ zQ zQ zQ zQ zQ ?st (Rel.drew _ _) ?walk
        case st=>rw[hRR.out];exact ql (by simp only[List.forall_mem_cons];exact⟨Uy hOJ,Tx,λ_ h=>by cases h⟩)
        case walk=>
         intro K hK;dsimp only[qA,List.replicate];refine zC9 ?_;refine qH (qfa w10'.heap.size SF) zA0 zA0 (λW hW _=>?_) (λp=>?_)
         ·rw[hRR.out]at hW⊢;refine Qh ?_ ((hHS.out W hW).mono λe w' h=>?_)
          ·go_simp
          obtain⟨v,rfl,hT,hB⟩:=h;obtain⟨BB,WW,gg,A3',c3',A4',c4',rfl,-⟩:=id hT;exact⟨((BB,WW),(A3',c3'),(A4',c4')),rfl,zm.keep hT hW.1.size (zM _) (λ_ _ _=>rfl),qdu hB⟩
         obtain⟨⟨BB,WW⟩,⟨A3',c3'⟩,⟨A4',c4'⟩⟩:=p;refine zC9 ?_;refine qH (Ye (w.heap.size+2) 28 (Zg w10'.heap.size SF)) zA0 zA0 (λW hW hp=>?_) (λ(p:Unit)=>?_)
         ·have hT:zm w10'.heap.size SF (Qp (F ⟨BB,0,O⟩) SF.bs.length SF.bs.length (F ⟨WW,0,O⟩) SF.ws.length (SF.ws.length+1) A3' SF.now.length c3' A4' SF.last.length c4') W:=(hp 1 zA1).1;rw[hRR.out]at hW⊢;have hr0:=qiN hOJ hW r210;obtain⟨u0,u1,u2,u3,q8⟩:=id hr0;have k8:=qa q8;have f8:=qd q8;have z8:=(zG.1 q8).1;refine qbh hOJ hr0 hT ?_;clear hT hr0;go_simp
         refine zC9 ?_;refine qF (hK _ _ λV hV hF=>?_);have hRT:∃cs,V.heap[w.heap.size+2]?=F (I cs 28 (0,0))/\Zg w10'.heap.size SF cs V:=(hF 3).1;clear hF hK gT gI hHS;rw[hRR.out]at hV;obtain⟨cs,q2,x0,x1,x2,x3,rfl,hTw⟩:=hRT;have q3:=jy hV (show w.heap.size+3≠w.heap.size+2 by omega) r310;have q4:=jy hV (show w.heap.size+4≠w.heap.size+2 by omega) r410;have qK:=jy hV (show D≠w.heap.size+2 by omega) hOB;have xV:=kR hV (B0:=w.heap.size) zO zO;have zV:=hV.1.size;have kd:=qa q3;have ke:=qa q4;have fd:=qd q3;have fe:=qd q4;have zd:w.heap.size+1+1+1<V.heap.size:=zO;have ze:w.heap.size+1+1+1+1<V.heap.size:=zO;replace hTw:=zH hTw;clear hV hRR;refine zB8 ?_;go_wp2;refine Qt ?_;go_wp2_with fail;generalize hwf:J (J V _ _) _ _=wf;obtain⟨t1,t2,t3,t4,t5,t6⟩:=Vc (C:=wf) q3 q4 zO hwf.symm;clear hwf;have qKf:=t5.same D _ qK rfl;refine Td rfl rfl rfl rfl qKf zz ((t3 _ zO zO).trans q2) t1 t2 ⟨_,rfl,?_,(t6 zO zO (Below.trans hEV.out xV)).trans (belowK_b (w:=w) (zM _) _ D _ _ zO qKf rfl rfl)⟩;rw[hqe.out,hSF.out];refine⟨_,rfl,zm.keep hTw.out zO (by simp[World.putObj,t4]) λk h1 h2=>?_⟩;exact(World.putObj_heap_other (by have:=(zG.1 hOB).1;omega)).trans (t3 k zO zO)
   case stop=>
    rintro D cc pre W hD ⟨kk,hkk,hpre⟩ ⟨⟨er,Wb,rfl,hgx,⟨g4,g5,g6⟩,hCK⟩,hB⟩ hK;rw[hpre]at hgx;rw[hul]at hkk hgx;have wDB:(jf (λj=>lvl-1-j) kk).map (sAt l)=(l.take lvl).reverse.take kk:=by
     have hlt:(l.take lvl).length=lvl:=by rw[List.length_take];have:=hwl.out;omega
     have h1:=qac (l.take lvl) kk zO;rw[hlt]at h1;rw[<-h1];refine List.map_congr_left λj hj=>?_;obtain⟨q,hq,rfl⟩:=List.mem_map.1 hj;have:=List.mem_range.1 hq;exact(qiG zO).symm
    rw[wDB]at hgx;have hqe:=zH (show q=.error er by rw[hq1.out];unfold qcs Kz;rw[hl.out,qhx hwl.out,hlf.out,<-hl0.out,qjv hgx]);subst hJG;have zz:w.heap.size+4<w11.heap.size:=(zG.1 hI0.out.r4).1
    gi_wp2_with fail
    have hOC:Below w.heap.size w (W.putObj D (.deferred O)):=hB.trans (belowK_b (w:=w) (zM _) W D _ _ zO hK rfl rfl);exact Td rfl rfl rfl rfl hK zO (hCK.row g4) (hCK.row g5) (hCK.row g6) ⟨_,rfl,by rw[hqe.out];rfl,hOC⟩
end Go.Proofs.YtmeadnlmepcmbaaGreat
namespace Go.Proofs.YtmeadnlmepcmbaaGreat
open Go.RowKit
variable {S S':Sto}{L root h f:Nat}{xs:List It}{k:K3}{e:Int}{y:It}
theorem qeE:∀{ps:List Stp}{l hs:List It}{S:Sto}{e:Int},jB ps l hs S=.error e->e≠0
 |[],l,hs,S,e,h=>by cases h
 |s::ps,l,hs,S,e,h=>by
  simp only[jB]at h;split at h
  ·rename_i e1 h1;cases h;unfold JU at h1;split at h1
   ·cases h1
   ·split at h1
    ·rename_i e2 h2;cases h1;exact Vo h2
    ·cases h1
  ·exact qeE h
theorem qcR:∀{n:Nat}{S:Sto}{f:Nat}{e:Int},Zo n S f=.error e->e≠0
 |0,S,f,e,h=>by cases h
 |n+1,S,f,e,h=>by
  simp only[Zo]at h;split at h
  ·cases h;decide
  ·split at h
   ·split at h
    ·cases h
    ·split at h
     ·rename_i e1 h1;cases h;exact qdw h1
     ·split at h
      ·cases h;decide
      ·exact qcR h
   ·cases h
theorem delY_err(h:XP S L xs root k=.error e):e≠0:=by
 unfold XP at h;split at h
 ·unfold qcs at h;split at h
  ·rename_i e1 h1;cases h;unfold Kz qbN at h1;split at h1
   ·rename_i e2 h2;cases h1;exact qeE h2
   ·split at h1
    ·rename_i e2 h2;cases h1;exact Vo h2
    ·exact qcR h1
  ·split at h
   ·cases h;decide
   ·cases h
 ·cases h;decide
theorem Ga{t t':List UInt8}(hS:qk S=Z)(hf:8<=f)(hn:qm S f=F (((h+1:Nat):Int),[y]))(hl:XJ S (h+1) [y])(e:Zz S.now y.r.toNat=.ok t)(e':QD (qu S t) (-1) t f=F t'):∃(b:Nat)(zs:List It),y.r=(b:Int)/\8<=b/\b<256/\b≠f/\qk (qu S t)=Z/\qk (qu S t')=Z/\t=QB S.now b 1/\qm S b=F ((h:Int),zs)/\XJ S h zs/\∀q (l:Int) nd,q≠f->qm S q=F (l,nd)->qm (qu S t') q=F (l,nd):=by
 obtain⟨b,zs,e1,h8,h256,hb,hlb⟩:=hl y rfl;rw[e1,Int.toNat_natCast]at e;have hbf:b≠f:=λe=>by subst e;rw[hb]at hn;simp only[Option.some.injEq,Prod.mk.injEq]at hn;omega
 have hSt:qk (qu S t)=Z:=vX hS (Gh (.inr h8) (qE.1 hS).2.1 e);obtain⟨k1,k2⟩:=qcT (h:=h) (qZ hS).2.2.1 hn e1 h8 h256 hbf (qaF hb) e e';exact⟨b,zs,e1,h8,h256,hbf,hSt,vX hS (JC hf (qE.1 hSt).2.1 e'),k1,hb,hlb,k2⟩
theorem qcS:∀{n:Nat}{S S':Sto}{f r:Nat}{H:Nat}{its:List It},qk S=Z->8<=f->f<256->qm S f=F ((H:Int),its)->XJ S H its->Zo n S f=.ok (r,S')->qk S'=Z/\8<=r/\r<256
 |0,S,S',f,r,H,its,hS,h8,h256,hn,hl,e=>by cases e;exact⟨hS,h8,h256⟩
 |n+1,S,S',f,r,H,its,hS,h8,h256,hn,hl,e=>by
  simp only[Zo,hn]at e;split at e
  ·rename_i y;split at e
   ·cases e;exact⟨hS,h8,h256⟩
   ·rename_i h0;obtain⟨h,rfl⟩:∃h,H=h+1:=⟨H-1,zO⟩
    split at e
    ·cases e
    ·rename_i t ht;split at e
     ·cases e
     ·rename_i t' ht';obtain⟨b,zs,e1,k8,k256,kb,kt,kt',-,hb,hlb,hk⟩:=Ga hS h8 hn hl ht ht';rw[e1,Int.toNat_natCast]at e;refine qcS kt' k8 k256 (hk b _ _ kb hb) (GH h (λr l nd hlt hr=>hk r l nd (λe=>?_) hr) hlb) e;subst e;rw[hn]at hr;simp only[Option.some.injEq,Prod.mk.injEq]at hr;omega
  ·cases e;exact⟨hS,h8,h256⟩
theorem qkk{L a r:Nat}(hS:qk S=Z)(hn:qm S a=F ((L:Int),xs))(hsp:(qC S L xs).isSome=Z)(h1:(oneT S k L xs).isSome=Z)(e:Kz S L xs k=.ok (r,S')):qk S'=Z/\8<=r/\r<256:=by
 have hwl:=VH (k:=k) L (qJ hn).1 hsp;unfold Kz at e;split at e
 ·cases e
 ·rename_i l hs S1 hg;have hI:=Ks hS L hn hsp h1 hg;have hLV:(((jA S k L xs).length-1:Nat):Int)=(L:Int):=zO;rw[hLV]at e;split at e
  ·cases e
  ·rename_i up S2 hb;have hf:=Vp (S:=S1) (lvl:=if l=[]then 0 else(L:Int)) (hs:=hs) hI.len;have:∃f:Nat,up=[jG (jF l) f]:=by
    rw[hb]at hf;split at hf
    ·cases hf
    ·split at hf
     ·cases hf
     ·cases hf;exact⟨_,rfl⟩
   obtain⟨f,rfl⟩:=this;have hmay:=jV (λx hx=>(hI.ok x hx).1) hI.held hI.may hb;obtain⟨H,its,hH,hn2,hEZ⟩:=qkS hI hb rfl;have h8:=hmay.2.2.2 _ List.mem_cons_self;unfold jG at h8;simp only at h8;exact qcS hmay.1 zO zO hn2 hEZ e
theorem qhy{L a r:Nat}(hS:qk S=Z)(ha:8<=a)(hn:qm S a=F ((L:Int),xs))(hsp:(qC S L xs).isSome=Z)(e:XP S L xs a k=.ok (r,S')):qk S'=Z/\8<=r/\r<256:=by
 unfold XP at e;split at e
 ·rename_i h1;unfold qcs at e;split at e
  ·cases e
  ·rename_i g S3 e3;obtain⟨k1,k2,k3⟩:=qkk hS hn hsp h1 e3;split at e
   ·cases e
   ·rename_i t ht;cases e;exact⟨vX k1 (JC ha (qE.1 k1).2.1 ht),k2,k3⟩
 ·cases e
end Go.Proofs.YtmeadnlmepcmbaaGreat
