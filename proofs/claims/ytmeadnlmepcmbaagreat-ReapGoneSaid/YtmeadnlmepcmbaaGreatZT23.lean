/- Lemmas of the proof. -/
import Derived.Test.YtmeadnlmepcmbaaGreatZT21
import Derived.Test.YtmeadnlmepcmbaaGreatZT22
set_option linter.all false
set_option maxHeartbeats 8000000
open Go.Proofs.Tryz
open Go.Value renaming slice→E,int→M,pointer→Jx
open Option renaming some→F,none→O
open Go.Obj renaming cells→I
open Go.World renaming setCell→J,alloc→Q
open Go.IntKind renaming i64→U
open Bool renaming true→Z
namespace Go.Proofs.YtmeadnlmepcmbaaGreat
open Go.RowKit Go.Shelf
attribute [local go_sem] Oper.semAt_some
variable {R:Ending->World->Prop}{a:Act}{W V:World}{x0 x1 x2 x3 y z s:Value}{us us':List Value}{e:Ending}
theorem del_ret{n b:Nat}(h4:a.tmps[6]?.getD undef=Jx (b+1+1,0))(h5:a.tmps[7]?.getD undef=Jx (b+1+1+1,0))(h6:a.tmps[8]?.getD undef=Jx (b+1+1+1+1,0))(hd:a.defers=[])(r4:W.heap[b+2]?=F (I #[x0,x1,x2,x3] 28))(r5:W.heap[b+3]?=F (I #[y] 3))(r6:W.heap[b+4]?=F (I #[z] 37))(hR:R (.returned (.tuple #[.agg #[x0,x1,x2,x3],y,z])) W):bodyPostM Fence.wide n prog Tryz.f62 R .ret a W:=by have k4:=qa r4;have k5:=qa r5;have k6:=qa r6;change LeavesInM Fence.wide n prog Tryz.f62 a.tmps R a.defers .returning W;rw[hd];refine⟨.tuple #[.agg #[x0,x1,x2,x3],y,z],?_,hR⟩;simp[results,results62,go_sem,h4,h5,h6,k4,k5,k6]
theorem Yv{n b D:Nat}(h4:a.tmps[6]?.getD undef=Jx (b+1+1,0))(h5:a.tmps[7]?.getD undef=Jx (b+1+1+1,0))(h6:a.tmps[8]?.getD undef=Jx (b+1+1+1+1,0))(hd:a.defers=[{target:=.collected D,args:=#[]}])(hK:W.heap[D]?=F (.deferred (F [])))(hD:b+4<D)(r4:W.heap[b+2]?=F (I #[x0,x1,x2,x3] 28))(r5:W.heap[b+3]?=F (I #[y] 3))(r6:W.heap[b+4]?=F (I #[z] 37))(hR:R (.returned (.tuple #[.agg #[x0,x1,x2,x3],y,z])) (W.putObj D (.deferred O))):bodyPostM Fence.wide n prog Tryz.f62 R .ret a W:=by have k4:=qa ((World.putObj_heap_other (o:=.deferred O) (show b+2≠D by omega)).trans r4);have k5:=qa ((World.putObj_heap_other (o:=.deferred O) (show b+3≠D by omega)).trans r5);have k6:=qa ((World.putObj_heap_other (o:=.deferred O) (show b+4≠D by omega)).trans r6);change LeavesInM Fence.wide n prog Tryz.f62 a.tmps R a.defers .returning W;rw[hd];refine⟨zA3,.inl ⟨_,_,rfl,run_takeDeferred hK,.tuple #[.agg #[x0,x1,x2,x3],y,z],?_,hR⟩⟩;simp[results,results62,go_sem,h4,h5,h6,k4,k5,k6]
def KP(lo:Nat):Rel where
 rel W W':=W.heap.size<=W'/\(lo<=W->Below lo W W')/\∀(q:Nat)(ty:TypeId)(cs:Array Value),W.heap[q]?=F (I cs ty)->ty≠51->W'.heap[q]?=F (I cs ty)
 refl' w:=⟨zM _,λ_=>Below.refl _ _,λ_ _ _ h _=>h⟩
 trans' h k:=⟨Nat.le_trans h.1 k.1,λhl=>Below.trans (h.2.1 hl) (k.2.1 (Nat.le_trans hl h.1)),λq ty cs hq hc=>k.2.2 q ty cs (h.2.2 q ty cs hq hc) hc⟩
 drew' w:=⟨zM _,λ_=>Below.drew (Below.refl _ _),λ_ _ _ h _=>h⟩
theorem qeL(lo:Nat):∀W W':World,qm.r W W'->(KP lo).r W W':=λW W' h=>by have h:Ext W W':=h;exact⟨h.size,λhl=>Below.mono h hl,λq _ _ hc _=>(Below.block h q (zG.1 hc).1).trans hc⟩
theorem qcB{lo m n:Nat}(ho:V.ownsRow lo 51 5 s m us')(h:vY lo s n us V e W):(KP lo).r V W:=by obtain⟨u,-,-,hB,hk⟩:=h;refine⟨hB.size,λ_=>hB,λq ty cs hc ht=>(hk q (zG.1 hc).1 λe=>?_).trans hc⟩;obtain⟨cur,hg⟩:=ZD ho e;rw[hc]at hg;simp only[Option.some.injEq,Obj.cells.injEq]at hg;exact ht hg.2.1
set_option maxRecDepth 100000 in
theorem del_any (A1 n1 c1 A2 n2 c2 A3 n3 c3 A4 n4 c4) (S:Sto) (hS:qj S=true) (a lvl:Nat) (xs:List It) (ha:8<=a) (bC:a<256) (hn:qo S a=some ((lvl:Int),xs)) (aK:(qz S lvl xs).isSome=true) (k i o:Int) (w:World) (aJ:Qh w w.heap.size (.slice A1 n1 c1) (.slice A2 n2 c2) (.slice A3 n3 c3) (.slice A4 n4 c4) S):Calls prog 62 #[Qo A1 n1 c1 A2 n2 c2 A3 n3 c3 A4 n4 c4,.int .i64 (a:Int),Uh k i o] w (zZ (PutQ w.heap.size (XT S lvl xs a (k,i,o))) w):=by
 have HF:=zH (fun W (hx:Ext w W)=>qlP A1 n1 c1 A2 n2 c2 A3 n3 c3 A4 n4 c4 S hS a lvl xs ha bC hn aK k i o W (aJ.ext hx));have HO:=zH (fun W (hx:Ext w W)=>qdc A1 n1 c1 A2 n2 c2 A3 n3 c3 A4 n4 c4 S (by have:=(qZ hS).2.2.1;omega) W (aJ.ext hx));have HW:=zH (fun (h1:(Vm S (k,i,o) lvl xs).isSome=true) W (hx:Ext w W)=>dway_any A1 n1 c1 A2 n2 c2 A3 n3 c3 A4 n4 c4 S hS a lvl xs ha bC hn aK k i o h1 W (aJ.ext hx));obtain⟨q,hq⟩:∃ q,XT S lvl xs a (k,i,o)=q:=⟨_,rfl⟩
 rw[hq];replace hq:=zH hq;obtain⟨l,hl⟩:∃ l,jJ S (k,i,o) lvl xs=l:=⟨_,rfl⟩
 have hwo:=qgD (k:=(k,i,o)) lvl hn aK;have hwr:=qiP (k:=(k,i,o)) lvl hn aK;have hwv:=qlx (k:=(k,i,o)) lvl hn aK;have ig:=Yb (k:=(k,i,o)) lvl (qI hn).1 aK;have ah:=zH (qiO (k:=(k,i,o)) lvl hn aK);have hdI:=zH (fun l hs S' h1=>Kp (k:=(k,i,o)) (l:=l) (hs:=hs) (S':=S') hS lvl hn aK h1);have hl6:lvl<6:=by have:=zY hn;omega
 rw[hl] at HW hwo ig hwr hwv ah hdI;have hEC:=zH hl6;replace hl:=zH hl;replace hwo:=zH hwo;replace hwr:=zH hwr;replace hwv:=zH hwv;replace ig:=zH ig;replace hS:=zH hS;replace aJ:=zH aJ;have haH:=zH (And.intro ha bC);clear hn aK ha bC hl6;refine(callsIn_wide (n:=3)).1 ?_;refine callsIn_of_wp_marks func62 rfl trivial ?_ rfl;simp only[ntmps62,List.size_toArray,List.length_cons,List.length_nil,Nat.reduceAdd,Nat.reduceSub,Array.replicate_succ,Array.replicate_zero,List.push_toArray,List.append_toArray,List.nil_append,List.cons_append];refine wpIn_wide.2 ?_;go_wp2_with fail;generalize aA:(World.alloc (World.alloc (World.alloc (World.alloc (World.alloc w _) _) _) _) _)=w1;have x1:Ext w w1:=by rw[<-aA];exact((((zN _ _).trans (zN _ _)).trans (zN _ _)).trans (zN _ _)).trans (zN _ _)
 have ra1:w1.heap[w.heap.size]?=some (.cells #[.slice A1 n1 c1,.slice A2 n2 c2,.slice A3 n3 c3,.slice A4 n4 c4] 28 (0,0)):=by rw[<-aA];exact(zK _ _ _ zA4).trans ((zK _ _ _ zA4).trans ((zK _ _ _ zA4).trans ((zK _ _ _ zA4).trans (zI _ _ _ rfl))))
 have rb1:w1.heap[w.heap.size+1]?=some (.cells #[.int .u8 k,.int .u32 i,.int .u32 o] 49 (0,0)):=by rw[<-aA];exact(zK _ _ _ zA4).trans ((zK _ _ _ zA4).trans ((zK _ _ _ zA4).trans (zI _ _ _ zA3)))
 have rc1:w1.heap[w.heap.size+2]?=some (.cells #[.slice none 0 0,.slice none 0 0,.slice none 0 0,.slice none 0 0] 28 (0,0)):=by rw[<-aA];exact(zK _ _ _ zA4).trans ((zK _ _ _ zA4).trans (zI _ _ _ zA3))
 have rd1:w1.heap[w.heap.size+3]?=some (.cells #[.int .i64 0] 3 (0,0)):=by rw[<-aA];exact(zK _ _ _ zA4).trans (zI _ _ _ zA3)
 have re1:w1.heap[w.heap.size+4]?=some (.cells #[.int .i64 0] 37 (0,0)):=by rw[<-aA];exact zI _ _ _ zA3
 have s1:Hid (w.heap.size+5<=w1.heap.size):=zH (by rw[<-aA];simp);clear aA;have ka1:=qa ra1;have kb1:=qa rb1;go_step3;go_wp2_with fail;refine(HF.out w1 x1).mono ?_;clear HF;rintro e w2 ⟨u,rfl,hfq,hB⟩;have x2:Ext w w2:=x1.trans hB;have s2:=zH (Nat.le_trans s1.out hB.size);have ra2:=qb ra1 hB;have rb2:=qb rb1 hB;have rc2:=qb rc1 hB;have rd2:=qb rd1 hB;have re2:=qb re1 hB;clear hB ra1 rb1 rc1 rd1 re1 ka1 kb1 x1;rcases h1t:Vm S (k,i,o) lvl xs with _|x
 ·rw[h1t] at hfq;obtain rfl:=hfq;have lK:=zH (show q=.error 6 by rw[<-hq.out];unfold XT;rw[h1t];rfl);replace h1t:=zH h1t;have kc2:=qa rc2;have kd2:=qa rd2;have ke2:=qa re2;have fc2:=qe rc2;have fd2:=qe rd2;have fe2:=qe re2;clear HW HO hq ah hdI ra2 rb2;go_upto_region 2 with fail;generalize aP:World.alloc w2 _=w3;have x23:Ext w2 w3:=by rw[<-aP];exact zN _ _
  have x3:Ext w w3:=x2.trans x23;have rc3:=qb rc2 x23;have rd3:=qb rd2 x23;have re3:=qb re2 x23;clear aP kc2 kd2 ke2 fc2 fd2 fe2 rc2 rd2 re2;have kc3:=qa rc3;have kd3:=qa rd3;have ke3:=qa re3;have fc3:=qe rc3;have fd3:=qe rd3;have fe3:=qe re3;go_wp2_with fail;obtain⟨g4,g5,g6,hb,-⟩:=YK rc3 rd3 re3 rfl;exact del_ret rfl rfl rfl rfl g4 g5 g6 ⟨_,rfl,by rw[lK.out];rfl,hb zO x3⟩
 ·rw[h1t] at hfq;obtain⟨Ay,cy,rfl,-,-⟩:=hfq;have h1s:(Vm S (k,i,o) lvl xs).isSome=true:=by rw[h1t];rfl
  have oh:Hid (q=delX S lvl xs a (k,i,o)):=zH (by rw[<-hq.out];unfold XT;rw[h1t];rfl);have HW2:=zH (HW.out h1s);have hdI2:=zH (fun l hs S'=>hdI.out l hs S' h1s);obtain⟨ys,hlf,bz⟩:=ah.out h1s;replace h1t:=zH h1t;replace hlf:=zH hlf;clear HW hdI ah hq h1s;obtain⟨pl,hplE⟩:∃ pl,qF ys (k,i,o)=pl:=⟨_,rfl⟩
  rw[hplE] at hlf bz;clear hplE;go_upto_region 4 with fail;generalize aP:World.alloc w2 _=w3;have x23:Ext w2 w3:=by rw[<-aP];exact zN _ _
  have x3:Ext w w3:=x2.trans x23;have zw5:=zH (Nat.le_trans s2.out x23.size);have ra3:=qb ra2 x23;have rb3:=qb rb2 x23;have rc3:=qb rc2 x23;have rd3:=qb rd2 x23;have re3:=qb re2 x23;have ka3:=qa ra3;have kb3:=qa rb3;clear aP ra2 rb2 rc2 rd2 re2 x2 x23;go_wp2_with fail;refine(HW2.out w3 x3).mono ?_;clear HW2;rintro e w4 ⟨u,rfl,hSE,hB⟩;have x34:Ext w3 w4:=hB;have x4:Ext w w4:=x3.trans x34;have rc4:=qb rc3 hB;have rd4:=qb rd3 hB;have re4:=qb re3 hB;have ra4:=qb ra3 hB;have ka4:=qa ra4;obtain⟨ps,bM,⟨As,cs,rfl,hNQ,hIS,hsr⟩,eF⟩:=hSE;obtain⟨b2,o2,rfl,bP,au⟩:=(hsr w4 (qU.refl _ _)).2 (by have:=ig.out;omega);have ay:Hid ((lvl:Int)<=(cs:Int)):=zH (by have:=ig.out;omega);replace au:=zH au;replace eF:=zH eF;replace bM:=zH bM;clear hB ra3 rb3 rc3 rd3 re3 ka3 kb3 hsr hNQ hIS;have hEZ:ps.length=lvl+1:=by rw[<-ig.out,<-bM.out,List.length_map]
  obtain⟨ips,dY,dn⟩:=eF.out _ (List.getElem_mem (show lvl<ps.length by omega));have hplv:ps[lvl].1=(0,ys,pl):=by rw[<-hlf.out,<-bM.out];unfold sAt;rw[List.getElem?_map,zL zO];rfl
  obtain⟨g0,g1,g2⟩:=kX ps lvl zO;obtain⟨A9,c9,e9⟩:=dn.shape dY;rw[hplv] at g0 g2 dY e9;rw[e9] at g1 dn;simp only at g0 g1 g2 dY dn;have d0:=au.out _ _ g0;have d1:=au.out _ _ g1;have d2:=au.out _ _ g2;rw[<-Nat.add_assoc] at d1 d2;have xU:ys.length<=5:=by have h9:=hwo.out (sAt l lvl) (by unfold sAt;rw[zL (by have:=ig.out;omega)];exact List.getElem_mem _);have:=h9.len;rw[hlf.out] at this;exact this
  have hwl1:(l.length:Int)-1=(lvl:Int):=by have:=ig.out;omega
  have hwl2:(lvl:Int)<(l.length:Int):=by have:=ig.out;omega
  have hJF:wrap64 (lvl:Int)=(lvl:Int):=IntWalk.wrap64_in _ (by have:=hEC.out;omega);clear g0 g1 g2 e9;go_upto_region 5 with fail;generalize aS:World.alloc w4 _=w5;have x45:Ext w4 w5:=by rw[<-aS];exact zN _ _
  have x5:Ext w w5:=x4.trans x45;have rl5:w5.heap[w4.heap.size]?=some (.cells #[.slice (some ⟨b2,o2,none⟩) l.length cs] 160 (0,0)):=by rw[<-aS];exact zI _ _ _ rfl
  have kl5:=qa rl5;have d05:=Ext.cell x45 d0;have d15:=Ext.cell x45 d1;have d25:=Ext.cell x45 d2;clear aS d0 d1 d2;go_upto_region 6 with fail;replace hJF:=zH hJF;generalize mg:World.alloc w5 _=w6;have x56:Ext w5 w6:=by rw[<-mg];exact zN _ _
  have x6:Ext w w6:=x5.trans x56;have rf6:w6.heap[w5.heap.size]?=some (.cells #[.int .i64 0,.slice A9 ys.length c9,.int .i64 (pl:Int)] 163 (0,0)):=by rw[<-mg];exact zI _ _ _ rfl
  have z56:w5.heap.size<w6.heap.size:=(zG.1 rf6).1;have x46:Ext w4 w6:=x45.trans x56;have x36:Ext w3 w6:=x34.trans x46;clear mg d05 d15 d25 kl5;have hipl:ips.length=ys.length:=by rw[<-dY,List.length_map]
  have one1:∀ u∈qD ips,u.oneCell'=true:=Kn ips fun p hp=>by obtain⟨A,c,e⟩:=(dn.2 p hp).1;rw[e];rfl
  have HCl:Hid (∀ W,Ext w6 W->Calls prog 115 #[.slice A9 ys.length c9] W (zZ (fun u w'=>w'.ownsRow W.heap.size 51 5 u ys.length (qD ips)) W)):=zH fun W hW=>by obtain⟨⟨A,c,e,_,_,hr⟩,_⟩:=dn;rw[hipl] at e hr;cases e;exact KQ A9 ys.length c9 (qD ips) zO one1 W (hr W (qU.of_ext (x46.trans hW)))
  obtain⟨us,nO⟩:∃ us,us=(qD ips).take (pl*5)++(qD ips).drop ((pl+1)*5):=⟨_,rfl⟩
  have HDl:Hid (∀ (V:World) (Ac:OA) (cc:Nat),w6.heap.size<=V.heap.size->V.ownsRow w6.heap.size 51 5 (.slice Ac ys.length cc) ys.length (qD ips)->Calls prog 114 #[.slice Ac ys.length cc,.int .i64 (pl:Int),.int .i64 ((pl:Int)+1)] V (fun e W=>vY w6.heap.size (.slice Ac ys.length cc) (ys.length-1) us V e W)):=zH fun V Ac cc hV ho=>by have H:=qbB w6.heap.size _ ys.length pl (qD ips) V ho bz zO (fun u hu=>one1 u (List.mem_of_mem_drop hu)) hV;rw[show ((pl+1:Nat):Int)=(pl:Int)+1 by omega] at H;rw[nO];exact H.mono fun e W h=>h.1
  replace nO:=zH nO;obtain⟨RR,aV⟩:∃ RR:Rel,RR=KP w6.heap.size:=⟨_,rfl⟩
  have hle:∀ a b,qm.r a b->RR.r a b:=by rw[aV];exact qeL _
  have g12:∀ W,RR.r w6 W->∀ i,W.cell? ⟨w5.heap.size,i,none⟩=#[.int .i64 0,.slice A9 ys.length c9,.int .i64 (pl:Int)][i]?:=fun W h=>qa ((aV ▸ h:(KP w6.heap.size).r w6 W).2.2 _ _ _ rf6 zA1);have hwp:IntKind.i64.wrap ((pl:Int)+1)=(pl:Int)+1:=by rw[IntKind.wrap_i64];omega
  have hyH:=zH xU;have hplH:=zH bz;replace aV:=zH aV;clear xU bz;refine qt zQ ?_;refine qew (w:=w6) qm RR 9 (fun i=>i != 3) hle (qP [(3,jB w6.heap.size ys.length (qD ips)),(9,jB w6.heap.size (ys.length-1) us),(10,Ju w6.heap.size 55 #[.slice none 0 0])]) (List.replicate 11 true) 1 zQ zQ zQ zQ zQ zQ zQ zQ ?st (Rel.drew _ _) ?walk
  case st=>exact GN (by simp only[List.forall_mem_cons];exact⟨fun p=>⟨ZX _ _ _ p,fun _ h=>by cases h⟩,fun p=>⟨ZX _ _ _ p,fun h=>absurd rfl h⟩,fun (p:Nat)=>⟨Qr (jv _ _ _ p),fun _ _ W W' hr h=>by have h:W.heap[p]?=some (.cells #[.slice none 0 0] 55 (0,0))/\w6.heap.size<=p:=h;rw[aV.out] at hr;exact⟨hr.2.2 _ _ _ h.1 zA1,h.2⟩⟩,fun _ h=>by cases h⟩)
  case walk =>
   intro K hK;dsimp only[qv,List.replicate];refine zC9 ?_;refine Xa (jB w6.heap.size ys.length (qD ips)) zA0 zA0 zA1 (fun W hW _=>?_) (fun p3=>?_)
   ·have hW:Ext w6 W:=(aV.out ▸ hW:(KP w6.heap.size).r w6 W).2.1 (zM _);refine Qk ?_ ((HCl.out W hW).mono fun e w' h=>?_)
    ·go_simp
    obtain⟨u,rfl,hu,hB⟩:=h;obtain⟨Ac,cc,rfl,_,_⟩:=qC hu;exact⟨(Ac,cc),rfl,QC hu hW.size,hB⟩
   obtain⟨Ac,cc⟩:=p3;refine zC9 ?_;refine qcx (jB w6.heap.size (ys.length-1) us) zA0 zA0 (fun W hW hp=>?_) (fun p9=>?_)
   ·have hW:Ext w6 W:=hW;have ho:W.ownsRow w6.heap.size 51 5 (.slice Ac ys.length cc) ys.length (qD ips):=hp 3 zA1;refine Qk ?_ ((HDl.out W Ac cc hW.size ho).mono fun e w' h=>?_)
    ·go_simp
    have hR:=qcB ho h;obtain⟨u,rfl,hu,-⟩:=h;obtain⟨Ad,cd,rfl,_,_⟩:=qC hu;exact⟨(Ad,cd),rfl,hu,by rw[aV.out];exact hR⟩
   obtain⟨Ad,cd⟩:=p9;refine zC9 ?_;refine Xa (Ju w6.heap.size 55 #[.slice none 0 0]) zA0 zA0 zA1 (fun W hW _=>?_) (fun (p10:Nat)=>?_)
   ·have hW:Ext w6 W:=(aV.out ▸ hW:(KP w6.heap.size).r w6 W).2.1 (zM _);refine Jq ?_ hW.size;go_simp
   refine zC9 ?_;refine qeF (hK _ _ fun W hW hF=>?_);have ho:W.ownsRow w6.heap.size 51 5 (.slice Ad (ys.length-1) cd) (ys.length-1) us:=hF 9 rfl;obtain⟨f10,hl10⟩:W.heap[p10]?=some (.cells #[.slice none 0 0] 55 (0,0))/\w6.heap.size<=p10:=hF 10 rfl;have x6W:Ext w6 W:=(aV.out ▸ hW:(KP w6.heap.size).r w6 W).2.1 (zM _);clear hF hK g12 HCl HDl hW hle;refine zC4 ?_;have k10:=qa f10;have h10:=qe f10;have z10:=(zG.1 f10).1;go_wp2;refine Qq ?_;generalize lX:World.setCell W _ _=w7;have x67:Ext w6 w7:=by rw[<-lX];exact Below.setCell x6W (p:=⟨p10,0,none⟩) hl10 _
   have x7:Ext w w7:=x6.trans x67;have rL7:w7.heap[p10]?=some (.cells #[.slice Ad (ys.length-1) cd] 55 (0,0)):=by rw[<-lX];exact qi f10 0 _
   have ho7:w7.ownsRow w6.heap.size 51 5 (.slice Ad (ys.length-1) cd) (ys.length-1) us:=QQ ho fun q hq=>by obtain⟨cur,hc⟩:=ZD ho hq;rw[<-lX];exact zJ _ _ _ _ (qM hc f10 zA1)
   replace ho7:=zH ho7;have x47:=x46.trans x67;have ra7:=qb ra4 x47;have rc7:=qb rc4 x47;have rd7:=qb rd4 x47;have re7:=qb re4 x47;have rl7:=qb rl5 (x56.trans x67);clear lX f10 k10 h10 z10 ho x6W ra4 rc4 rd4 re4 rl5 rf6 ka4 hwp;go_upto_region 8 with fail;generalize xR:World.alloc w7 _=w8;have x78:Ext w7 w8:=by rw[<-xR];exact zN _ _
   have x8:Ext w w8:=x7.trans x78;have rh8:w8.heap[w7.heap.size]?=some (.cells #[.int .i64 0] 3 (0,0)):=by rw[<-xR];exact zI _ _ _ rfl
   have ra8:=qb ra7 x78;have rc8:=qb rc7 x78;have rd8:=qb rd7 x78;have re8:=qb re7 x78;have rl8:=qb rl7 x78;have rL8:=qb rL7 x78;have ka8:=qa ra8;have zL7:p10<w7.heap.size:=(zG.1 rL7).1;have zH8:w7.heap.size<w8.heap.size:=(zG.1 rh8).1;clear xR ra7 rc7 rd7 re7 rl7 rL7;go_wp2_with fail;refine(HO.out w8 x8).mono ?_;clear HO;rintro e w9 ⟨u,rfl,⟨b,A3',c3',rfl,aQ,aC,aB⟩,hB⟩;have x89:Ext w8 w9:=hB;have x9:Ext w w9:=x8.trans x89;obtain⟨g,iy⟩:=Bch.of_on (B:=w.heap.size) x8.size hS.out (aJ.out.below x9) aQ aC aB;have rc9:=qb rc8 hB;have rd9:=qb rd8 hB;have re9:=qb re8 hB;have rl9:=qb rl8 hB;have rL9:=qb rL8 hB;have rh9:=qb rh8 hB;replace iy:=zH iy;clear hB rc8 rd8 re8 rl8 rL8 rh8 ra8 ka8 aC aB;go_wp2_with fail;generalize hNX:World.alloc w9 _=w10;have xA:Ext w9 w10:=by rw[<-hNX];exact zN _ _
   have rt10:w10.heap[w9.heap.size]?=some (.cells #[.pointer (some ⟨b,0,none⟩)] 92 (0,0)):=by rw[<-hNX];exact zI _ _ _ rfl
   have rl10:=qb rl9 xA;have kl10:=qa rl10;clear hNX;have tq:(0:Int)<=(lvl:Int):=Int.natCast_nonneg _;have hVO:=hJF.out;have hHE:=ay.out;refine wp_label ?_;go_wp2_with fail;refine(qdO (some ⟨b2,o2,none⟩) lvl cs w10).mono ?_;rintro e wB ⟨rfl,rfl⟩;clear hVO hHE;go_wp2_with fail;generalize iM:World.alloc w10 _=w11;have xB:Ext w10 w11:=by rw[<-iM];exact zN _ _
   have s11:w10.heap.size<w11.heap.size:=by rw[<-iM];simp
   have rS11:w11.heap[w10.heap.size]?=some (.cells #[.slice (some ⟨b2,o2,none⟩) lvl cs] 160 (0,0)):=by rw[<-iM];exact zI _ _ _ rfl
   clear iM kl10 tq;have x911:=xA.trans xB;have x11:Ext w w11:=x9.trans x911;have x711:=(x78.trans x89).trans x911;have x411:=x47.trans x711;obtain⟨us2,hNT⟩:∃ us2:List Ud,us2=(ps.take lvl).map fun p=>((p.1,kK p.2):Ud):=⟨_,rfl⟩
   have iT:us2.length=lvl:=by rw[hNT,List.length_map,List.length_take];omega
   have oZ:∀ i (hi:i<ps.length),i<lvl->us2[i]?.getD udz=(ps[i].1,kK ps[i].2):=fun i hi hil=>by rw[hNT,List.getElem?_map,List.getElem?_take,if_pos hil,zL hi];rfl
   have mJ:∀ i (hi:i<ps.length),sv (kK ps[i].2)=ps[i].2:=fun i hi=>by obtain⟨ips,_,⟨⟨A,c,e,_⟩,_⟩⟩:=eF.out ps[i] (List.getElem_mem hi);rw[e];rfl
   have tX:∀ j,j<lvl->∃ ips A c,sv (us2[j]?.getD udz).2=.slice A (sAt l j).2.1.length c/\(us2[j]?.getD udz).1=sAt l j/\ips.map (·.1)=(sAt l j).2.1/\jD (fun q=>q<w3.heap.size) w4 (sv (us2[j]?.getD udz).2) ips:=fun j mW=>by
    have hj:j<ps.length:=zO;obtain⟨ips,e1,he⟩:=eF.out ps[j] (List.getElem_mem hj);have hx:ps[j].1=sAt l j:=by unfold sAt;rw[<-bM.out,List.getElem?_map,zL hj];rfl
    obtain⟨A,c,e⟩:=he.shape e1;rw[oZ j hj mW];simp only;rw[mJ j hj];rw[hx] at e e1;exact⟨ips,A,c,e,hx,e1,he⟩
   have hSW:SWd w11 w10.heap.size b2 (.slice (some ⟨b2,o2,none⟩) lvl cs) us2:=by refine⟨by rw[qa rS11];rfl,.inr ⟨o2,cs,by rw[iT],fun i hi=>?_⟩⟩;have fF:i<ps.length:=zO;obtain⟨g0,g1,g2⟩:=kX ps i fF;rw[oZ i fF zO];simp only;rw[mJ i fF];exact⟨Ext.cell x411 (au.out _ _ g0),by rw[Nat.add_assoc];exact Ext.cell x411 (au.out _ _ g1),by rw[Nat.add_assoc];exact Ext.cell x411 (au.out _ _ g2)⟩
   obtain⟨l0,tq⟩:∃ l0,l0=ZE ys pl 1 []:=⟨_,rfl⟩
   obtain⟨lps,hHV⟩:∃ lps,lps=ips.take pl++ips.drop (pl+1):=⟨_,rfl⟩
   have xK:lps.map (·.1)=l0:=by rw[hHV,tq,List.map_append,List.map_take,List.map_drop,dY];unfold ZE;simp
   have hEF:l0.length=ys.length-1:=by have:=Tx (xs:=ys) (up:=[]) (q:=pl) (m:=1) (by have:=hplH.out;omega);rw[<-tq] at this;simp only[List.length_nil] at this;omega
   have husc:us=qD lps:=by rw[nO.out,hHV,Zt,VI,VH]
   have z36:=x36.size;have z03:=x3.size;have z5w:w.heap.size+5<=w3.heap.size:=zw5.out;have zLq:=(zG.1 rL9).1;have z7:=x67.size;have yj:Hid (∀ kk,(∀ q,B3 b g kk q->w8.heap.size<=q)->∀ q,q<w4.heap.size->XD w.heap.size b g p10 w7.heap.size kk q->q<w3.heap.size):=zH fun kk hb q hq hX=>by
    have z44:=x46.size;have z77:=x78.size;rcases hX with hX|hX|hX|hX
    ·omega
    ·omega
    ·omega
    ·have:=hb q hX;omega
   have xG:DelV l l0 S w.heap.size w8.heap.size b g p10 w7.heap.size w9.heap.size w10.heap.size w4.heap.size w3.heap.size w4 (.slice (some ⟨b2,o2,none⟩) lvl cs) [] w11:=by
    refine⟨⟨l0,[],S,none,_,Ad,cd,lps,rfl,hS.out,by rw[hEF];have:=hyH.out;omega,xK,fun y hy=>?_,.inl rfl,?_,by rw[hEF];exact qb rL9 x911,qb rh9 x911,iy.out.ext x911⟩,qb rc9 x911,qb rd9 x911,qb re9 x911,qb rt10 xB,⟨_,_,qb rl9 x911⟩,rS11,qU.of_ext x411⟩
    ·have h9:=(hwo.out (sAt l lvl) (by unfold sAt;rw[zL (by have:=ig.out;omega)];exact List.getElem_mem _)).its;rw[hlf.out] at h9;rw[tq] at hy;unfold ZE at hy;simp only[List.append_nil] at hy;rcases List.mem_append.1 hy with hy|hy
     ·exact(h9 y (List.mem_of_mem_take hy)).1
     ·exact(h9 y (List.mem_of_mem_drop hy)).1
    ·rw[hEF];have yQ:=ho7.out;rw[husc] at yQ;have yQ:=QQ (w':=w11) yQ fun q hq=>Below.block x711 q (Qn yQ q hq).2;refine jD.of_own yQ (by rw[<-hEF,<-xK,List.length_map]) (fun q hq hX=>?_) fun p hp=>?_
     ·obtain⟨cur,hc⟩:=ZD yQ hq;have hq6:=(Qn yQ q hq).1;rcases hX with hX|hX|hX|hX
      ·omega
      ·subst hX;rw[qb rL9 x911] at hc;simp only[Option.some.injEq,Obj.cells.injEq] at hc;exact absurd hc.2.1 zA1
      ·subst hX;rw[qb rh9 x911] at hc;simp only[Option.some.injEq,Obj.cells.injEq] at hc;exact absurd hc.2.1 zA1
      ·exact(iy.out.ext x911).notB3 hc zA1 zA1 zA1 hX
     ·have ag:p∈ips:=by
       rw[hHV] at hp;rcases List.mem_append.1 hp with hp|hp
       ·exact List.mem_of_mem_take hp
       ·exact List.mem_of_mem_drop hp
      refine⟨(dn.2 p ag).1,fun C hC=>(dn.2 p ag).2 C ((qU.of_ext (X:=fun q=>q<w3.heap.size) x411).trans hC fun q hq hX=>?_)⟩;have z44:=x46.size;have z77:=x78.size;rcases hX with hX|hX|hX|hX
      ·omega
      ·omega
      ·omega
      ·have:=(iy.out.b3 q hX).1;omega
   have hus2H:=iT;replace xG:=zH xG;replace tX:=zH tX;replace tq:=zH tq;have zb2:b2<w10.heap.size:=by have:=(((x46.trans x67).trans x78).trans x89).size;have:=xA.size;omega
   have hlvl:lvl<1099511627776:=by have:=hEC.out;omega
   clear husc hNT oZ mJ au eF bM hEZ hplv hHV xK hEF rc9 rd9 re9 rl9 rL9 rh9 rt10 rl10 rS11 hipl one1 dn dY;generalize iJ:({ tmps:=_,defers:=_ }:Act)=act;refine(wpIn_wide (n:=3)).1 ?_;refine wpIn_rangeFunc_ownH rfl zO (gf:=163) (lb:=#[.pointer (some ⟨w10.heap.size,0,none⟩)]) (by rw[<-iJ];rfl) trivial (enters_of func163 zQ rfl)
    (qhc (3-1) zO w10.heap.size b2 _ us2 (by rw[iT];exact hlvl) w11 s11 zO hSW) Qw.t (Qw.b s11 zO) (Below.refl _ _) (fun _=>rfl)
    (fun pre W'=>(∃ Wb,DelV l l0 S w.heap.size w8.heap.size b g p10 w7.heap.size w9.heap.size w10.heap.size w4.heap.size w3.heap.size w4 (.slice (some ⟨b2,o2,none⟩) lvl cs) (pre.map (·.1)) Wb/\Qe Wb W')/\Below w.heap.size w W')
    (fun c pre W'=>(∃ er Wb,c=.ret/\jM ((pre.map (·.1)).map (sAt l)) l0 [] S=.error er/\(Wb.heap[w.heap.size+2]?=some (.cells #[.slice none 0 0,.slice none 0 0,.slice none 0 0,.slice none 0 0] 28 (0,0))/\Wb.heap[w.heap.size+3]?=some (.cells #[.int .i64 0] 3 (0,0))/\Wb.heap[w.heap.size+4]?=some (.cells #[.int .i64 er] 37 (0,0)))/\Qe Wb W')/\Below w.heap.size w W')
    (OwnFrom.and (fun s A C row hs hg hr=>by obtain⟨Wb,h1,h2⟩:=hs;exact⟨Wb,h1,h2.grown hg fun r e=>(hr r e).2⟩) (ownFrom_below (zM _) x11.size))
    (fun c=>OwnFrom.and (fun s A C row hs hg hr=>by obtain⟨er,Wb,h1,h2,h3,h4⟩:=hs;exact⟨er,Wb,h1,h2,h3,h4.grown hg fun r e=>(hr r e).2⟩) (ownFrom_below (zM _) x11.size))
    ⟨⟨w11,xG.out,Qe.refl _⟩,x11⟩
    (fun (j:{ j:Nat // j<us2.length }) a' W'=>∃ t17,a'=((((({ tmps:=act.tmps,defers:=[] }:Act).put (some 64) (.int .i64 (j.1:Int))).put (some 65) (.agg #[.int .i64 ((us2[j.1]?.getD udz).1.1:Int),sv (us2[j.1]?.getD udz).2,.int .i64 ((us2[j.1]?.getD udz).1.2.2:Int)])).put (some 16) (.int .i64 (j.1:Int))).put (some 17) (.pointer (some ⟨t17,0,none⟩)))/\W'.heap[t17]?=some (.cells #[.int .i64 ((us2[j.1]?.getD udz).1.1:Int),sv (us2[j.1]?.getD udz).2,.int .i64 ((us2[j.1]?.getD udz).1.2.2:Int)] 163 (0,0)))
    (fun x a' s A C row hs hg hr=>by obtain⟨t17,e,h⟩:=hs;exact⟨t17,e,QF (β:=Unit) _ _ _ _ () A C row h hg hr⟩) ?assign ?body ?done ?stop
   case assign =>
    rintro l' pre j W' K ⟨⟨Wb,xm,lC⟩,i4⟩ hK;subst iJ;have z4:=i4.size;have dS:=xm.ck lC;have zS:=(zG.1 dS.rS).1;have zb2':b2<W'.heap.size:=zO
    gi_wp2
    exact hK _ _ ((KeepsOthers.alloc _ _).from _) ⟨zK _ _ _ zS,zK _ _ _ zb2'⟩ ⟨⟨_,dS,Qe.of_ext (zN _ _)⟩,Below.alloc i4 z4 _⟩ ⟨W'.heap.size,rfl,zI _ _ _ rfl⟩
   case body =>
    rintro l' pre ⟨j,hj0⟩ a' W' hll ⟨rr,hlp⟩ ⟨⟨Wb,xm,lC⟩,i4⟩ ⟨t17,rfl,uD⟩ _;subst iJ;have dS:=xm.ck lC;have mW:j<lvl:=by rw[<-iT];exact hj0
    simp only at uD;simp only[Act.put,zA,zB,zC];obtain⟨ips,A8,c8,e9,e10,e11,dn⟩:=tX.out j mW;have hsm:sAt l j∈l:=by unfold sAt;rw[zL (by have:=ig.out;omega)];exact List.getElem_mem _
    have hWO:=hwo.out _ hsm;have hWr:=hwr.out _ hsm;have hWv:=hwv.out j zO;have tV:=zH (fun (ls hs:List It) (S':Sto) (h:jM ((pre.map (·.1)).map (sAt l)) l0 [] S=.ok (ls,hs,S'))=>(by rw[List.map_append,List.map_append];exact qji h:jM (((pre++[(⟨j,hj0⟩:{ j:Nat // j<us2.length })]).map (·.1)).map (sAt l)) l0 [] S=JZ S' (sAt l j) ls hs));obtain⟨s9,hs9⟩:∃ s9,sAt l j=s9:=⟨_,rfl⟩
    rw[hs9] at e9 e10 e11 hWO tV hWr hWv;clear hs9 hsm;generalize us2[j]?.getD udz=u9 at *;obtain⟨v9,sl9⟩:=u9;simp only at e9 e10 uD dn;subst e10;obtain⟨lv,zs,pz⟩:=v9;simp only at e9 e11 uD tV hWr hWv;rw[e9] at uD dn ⊢;obtain⟨hWm,hWi,hWl,xx,uj,-⟩:=hWO;simp only at hWm hWi hWl xx uj;have hpz:pz<zs.length:=uj zO;have hWr:=hWr zO;obtain⟨ls,hs,S',k',D',Al,cl,lps,bU,fO,wH,xK,wG,yE,hlE,hrL,hrH,bn⟩:=dS.ex;have hga:=tV.out _ _ _ bU;have zW3:w3.heap.size<=w4.heap.size:=x34.size;have zt:=(zG.1 uD).1;clear xx uj tV bU e9 xm lC;have hit:=dn.trans dS.kx fun q _ h=>h;have hzl:ips.length=zs.length:=by rw[<-e11,List.length_map]
    have one1:∀ u∈qD ips,u.oneCell'=true:=Kn ips fun p hp=>by obtain⟨A,c,e⟩:=(dn.2 p hp).1;rw[e];rfl
    have HCl:Hid (∀ W,Ext W' W->Calls prog 115 #[.slice A8 zs.length c8] W (zZ (fun u w'=>w'.ownsRow W.heap.size 51 5 u zs.length (qD ips)) W)):=zH fun W hW=>by obtain⟨⟨A,c,e,_,_,hr⟩,_⟩:=hit;rw[hzl] at e hr;cases e;exact KQ A8 zs.length c8 (qD ips) zO one1 W (hr W (qU.of_ext hW))
    have kL:=qa hrL;have zL0:=(zG.1 hrL).1;have pI:=zH hWl;have e11H:=zH e11;have xu:=zH hWi;have fM:=zH dS;have sZ:=zH bn;have hlEH:=zH hlE;have hDT:=zH hit;have lm:=zH dn;have hMD:=zH hga;have yM:=zH xK;have hTE:=zH wG;have hhsH:=zH yE;have xn:=zH fO;have hWrH:=zH hWr;have hWmH:=zH hWm;have hKL:=zH wH;have hWvH:=zH hWv;have hjlH:=zH mW;have hpzH:=zH hpz;have hzlH:=zH hzl;have one1H:=zH one1;clear hWl e11 hWi dS bn hlE hit dn hga xK wG yE fO hWr hWm wH hWv mW hzl one1 hlp;by_cases hlz:ls=[]
    ·have hMS:ls.length=0:=by rw[hlz];rfl
     rw[hMS] at kL;replace hlz:=zH hlz;replace hMS:=zH hMS;have hpz5:pz<5:=by have:=pI.out;omega
     clear hpz
     gi_upto_region 13 with fail
     have g17:∀ W,qm.r W' W->∀ i,W.cell? ⟨t17,i,none⟩=#[.int .i64 (lv:Int),.slice A8 zs.length c8,.int .i64 (pz:Int)][i]?:=fun W h=>qa (qb uD h);have hwp:IntKind.i64.wrap ((pz:Int)+1)=(pz:Int)+1:=by rw[IntKind.wrap_i64];omega
     refine zv qm (qP [(3,jB W'.heap.size zs.length (qD ips))]) (List.replicate 9 true) 3 (vA l') zQ zQ zQ zQ zQ zQ zQ zQ zQ ?st (Rel.drew _ _) ?walk
     case st=>exact qk (by simp only[List.forall_mem_cons];exact⟨ZX _ _ _,fun _ h=>by cases h⟩)
     case walk =>
      intro K hK;dsimp only[qv,List.replicate];refine zD0 ?_;refine qH (jB W'.heap.size zs.length (qD ips)) zA0 zA0 (fun W hW _=>?_) (fun p=>?_)
      ·have bZ:Ext W' W:=hW;refine Qk ?_ ((HCl.out W bZ).mono fun e w' h=>?_)
       ·go_simp
       obtain⟨u,rfl,hu,hB⟩:=h;obtain⟨Ac,cc,rfl,_,_⟩:=qC hu;exact⟨(Ac,cc),rfl,QC hu bZ.size,hB⟩
      obtain⟨Ac,cc⟩:=p;refine zD0 ?_;refine qB (hK _ _ fun V hV hF=>?_);have hoV:V.ownsRow W'.heap.size 51 5 (.slice Ac zs.length cc) zs.length (qD ips):=(hF 3).1;clear hF hK g17;have hV:Ext W' V:=hV;refine zC4 ?_;have HD:=zH (qbB W'.heap.size _ zs.length pz (qD ips) V hoV hpzH.out (by have:=pI.out;omega) (fun u hu=>one1H.out u (List.mem_of_mem_drop hu)) hV.size);rw[show ((pz+1:Nat):Int)=(pz:Int)+1 by omega] at HD;clear HCl
      gi_wp2_with fail
      refine⟨trivial,(CallsIn.inRound _ (callsIn_wide.2 HD.out)).mono ?_⟩;clear HD;rintro e w9' ⟨⟨v9,rfl,ho9,hB9,-⟩,-⟩;have x9':Ext W' w9':=Below.trans hV hB9;obtain⟨Ad',cd',rfl,-,-⟩:=qC ho9;have rL':=qb hrL x9';have rH':=qb hrH x9';have kL':=qa rL';have kH':=qa rH';have fL':=qe rL';have fH':=qe rH';have zL':=(zG.1 rL').1;have zH':=(zG.1 rH').1;have aH:p10≠w7.heap.size:=qM rL' rH' zA1;have hEQ:w7.heap.size≠p10:=fun e=>aH e.symm;have ho9H:=zH ho9;clear hoV hB9 hV ho9 kL hrL hrH
      gi_wp2_with fail
      generalize hwE:World.setCell (World.setCell w9' _ _) _ _=wE;have dS:=fM.out;have z46:=x46.size;obtain⟨A3,c3,rC3⟩:=dS.rC;have e8:(ZE zs pz 1 []).length=zs.length-1:=by have:=Tx (xs:=zs) (up:=[]) (q:=pz) (m:=1) (by have:=hpzH.out;omega);simp only[List.length_nil] at this;omega
      have e7:qD (ips.take pz++ips.drop (pz+1))=(qD ips).take (pz*5)++(qD ips).drop ((pz+1)*5):=by rw[Zt,VI,VH]
      rw[<-e7] at ho9H;have hNx:=qeC (v:=.slice Ad' (zs.length-1) cd') (ls:=ZE zs pz 1 []) (hs:=[]) (hMD.out.trans (by unfold JZ;rw[if_pos hlz.out])) xn.out (by rw[e8];have:=pI.out;omega) (by unfold ZE;rw[List.map_append,List.map_take,List.map_drop,e11H.out,List.append_nil]) (fun y hy=>by
       unfold ZE at hy;simp only[List.append_nil] at hy;rcases List.mem_append.1 hy with hy|hy
       ·exact(xu.out y (List.mem_of_mem_take hy)).1
       ·exact(xu.out y (List.mem_of_mem_drop hy)).1) (.inl rfl) ho9H.out e8.symm (by have:=dS.kx;have:=(zG.1 dS.r4).1;omega) (fun p hp=>?_) rL' rH' (sZ.out.ext x9') (qb dS.r2 x9') (qb dS.r3 x9') (qb dS.r4 x9') (qb dS.rT x9') ⟨A3,c3,qb rC3 x9'⟩ (qb dS.rS x9') (dS.kx.trans (qU.of_ext (X:=fun q=>q<w3.heap.size) x9') fun _ _ h=>h) zO zO zO zO zO zO hwE.symm
      ·obtain⟨n1,n2,n3,n4,n5⟩:=hNx;have zS:=(zG.1 dS.rS).1;exact⟨((KeepsOthers.of_ext x9').trans n2).from _,⟨n4.trans (x9'.block _ zO),(n5 _ zO).trans (x9'.block _ zO)⟩,⟨wE,n1,Qe.refl _⟩,n3 (i4.trans (Below.mono x9' i4.size))⟩
      ·have ag:p∈ips:=by
        rcases List.mem_append.1 hp with hp|hp
        ·exact List.mem_of_mem_take hp
        ·exact List.mem_of_mem_drop hp
       exact⟨(lm.out.2 p ag).1,fun C hC=>(lm.out.2 p ag).2 C ((dS.kx.trans (qU.of_ext (X:=fun q=>q<w3.heap.size) x9') fun _ _ h=>h).trans hC (yj.out k' fun q hq=>(sZ.out.b3 q hq).1))⟩
    ·have hlz1:((ls.length:Int) == 0)=false:=by rw[beq_eq_false_iff_ne];have:=List.length_pos_iff.2 hlz;omega
     have hlz2:decide (ls.length=0)=false:=decide_eq_false (by have:=List.length_pos_iff.2 hlz;omega);have hlz3:¬ls.length=0:=by have:=List.length_pos_iff.2 hlz;omega
     obtain⟨⟨jt,jp,jm⟩,hjx⟩:∃ t,ZC S' zs pz ls=t:=⟨_,rfl⟩
     have hXs:∀ q,XD w.heap.size b g p10 w7.heap.size k' q->q<W'.heap.size:=fun q hq=>by
      have:=(zG.1 fM.out.r4).1;have:=(zG.1 hrL).1;have:=(zG.1 hrH).1;rcases hq with hq|hq|hq|hq
      ·omega
      ·omega
      ·omega
      ·exact(sZ.out.b3 q hq).2
     have HJ:=zH (qlL D' w.heap.size w8.heap.size b g k' S' xn.out (XD w.heap.size b g p10 w7.heap.size k') (lv:Int) zs pz hpz pI.out hWrH.out A8 c8 ls hKL.out Al cl lps yM.out W' sZ.out hXs (by have:=hDT.out.its (qU.refl _ _);rw[e11H.out] at this;exact this) hlEH.out);rw[hjx] at HJ;have k17:=qa uD;have kT:=qa fM.out.rT;replace hlz:=zH hlz;replace hXs:=zH hXs;clear HCl
     gi_wp2_with fail
     refine⟨trivial,(CallsIn.inRound _ (callsIn_wide.2 HJ.out)).mono ?_⟩;clear HJ;rintro e w20 ⟨u,rfl,⟨vj,jps,rfl,fP,hjm⟩,hB20⟩;have x20:Ext W' w20:=hB20;obtain⟨Aj,cj,rfl⟩:=fP.shape hjm;have rT20:=qb fM.out.rT x20;have kT20:=qa rT20;clear hB20 k17 kT kL
     gi_upto_region 15 with fail
     generalize hNY:World.alloc w20 _=w21;have x201:Ext w20 w21:=by rw[<-hNY];exact zN _ _
     have x21:Ext W' w21:=x20.trans x201;have rp21:w21.heap[w20.heap.size]?=some (.cells #[.int .i64 (jp:Int),.int .i64 (jm:Int)] 170 (0,0)):=by rw[<-hNY];exact zI _ _ _ rfl
     clear hNY kT20 rT20;obtain⟨hjn,hAX,hAY,yH⟩:=qmb (S:=S') (xs:=zs) (l:=ls) hpz hKL.out;have yG:=joinX_ok (S:=S') (xs:=zs) (p:=pz) hTE.out;rw[hjx] at hjn hAX hAY yH yG;simp only at hjn hAX hAY yH yG;have yH:=yH hlz.out;have wF:=fP.trans (qU.of_ext x201) fun _ _ h=>h;have uk:=sZ.out.ext x21;have HSn:=zH (qbd D' w.heap.size w8.heap.size b g k' S' ((lv:Int)-1) Aj _ cj jt yG hAY (qZ xn.out).2.1 hs hhsH.out w21 uk (fun C hC=>by have:=wF.its (C:=C) (hC.mono fun q _ h=>.inr (.inr (.inr h)));rw[hjm] at this;exact this));obtain⟨A3,c3,rC21⟩:=fM.out.rC;replace rC21:=qb rC21 x21;have rT21:=qb fM.out.rT x21;have rH21:=qb hrH x21;have kC21:=qa rC21;have kT21:=qa rT21;have kH21:=qa rH21;have oh:(l.length:Int)-2=(lvl:Int)-1:=zO;have hq2:(lvl:Int)-1-(j:Int)=(lv:Int)-1:=by have:=hWvH.out;have:=hjlH.out;omega
     have nZ:wrap64 ((lvl:Int)-1)=(lvl:Int)-1:=IntWalk.wrap64_in _ (by have:=hEC.out;omega);have hq4:wrap64 ((lv:Int)-1)=(lv:Int)-1:=IntWalk.wrap64_in _ (by have:=hWvH.out;have:=hEC.out;omega);replace wF:=zH wF;replace uk:=zH uk;replace yG:=zH yG;replace hAY:=zH hAY;replace hjn:=zH hjn;replace hAX:=zH hAX;replace hjm:=zH hjm;replace yH:=zH yH;clear fP
     gi_wp2_with fail
     refine⟨trivial,(CallsIn.inRound _ (callsIn_wide.2 HSn.out)).mono ?_⟩;clear HSn;intro e w22 hsq;obtain⟨ai,aI⟩:=hsq.split yG.out hAY.out hhsH.out xn.out;clear hsq;have nB:∀ {q cs ty fr},w21.heap[q]?=some (.cells cs ty fr)->ty≠223->ty≠5->ty≠142->¬B3 b g k' q:=fun hr h1 h2 h3=>uk.out.notB3 hr h1 h2 h3;have r221:=qb fM.out.r2 x21;have r321:=qb fM.out.r3 x21;have r421:=qb fM.out.r4 x21;have rS21:=qb fM.out.rS x21;have rL21:=qb hrL x21;have r1721:=qb uD x21;have r222:=ai.row r221 (nB r221 zA1 zA1 zA1);have r322:=ai.row r321 (nB r321 zA1 zA1 zA1);have r422:=ai.row r421 (nB r421 zA1 zA1 zA1);have rT22:=ai.row rT21 (nB rT21 zA1 zA1 zA1);have rC22:=ai.row rC21 (nB rC21 zA1 zA1 zA1);have rS22:=ai.row rS21 (nB rS21 zA1 zA1 zA1);have rL22:=ai.row rL21 (nB rL21 zA1 zA1 zA1);have rH22:=ai.row rH21 (nB rH21 zA1 zA1 zA1);have rp22:=ai.row rp21 (nB rp21 zA1 zA1 zA1);have r1722:=ai.row r1721 (nB r1721 zA1 zA1 zA1);have hko:=(KeepsOthers.of_ext x21).trans (uk.out.others ai);have s28:w.heap.size<=w8.heap.size:=x8.size;have hGO:=(i4.trans (Below.mono x21 i4.size)).trans (Below.mono ai.below s28);have ru:=(fM.out.kx.trans (qU.of_ext (X:=fun q=>q<w3.heap.size) x21) fun _ _ h=>h).trans ai.keepX fun q hq hX=>yj.out k' (fun q hq=>(sZ.out.b3 q hq).1) q hq (.inr (.inr (.inr hX)));have hkr:=fun q (h:q<w4.heap.size)=>ai.rows q (by have:=x21.size;have:=x46.size;omega) fun hx=>by have:=(sZ.out.b3 q hx).1;have:=x46.size;have:=x67.size;have:=x78.size;omega
     have yw:=wF.out.trans (ai.keepX.mono (Y:=XD w.heap.size b g p10 w7.heap.size k') fun q _ hX=>.inr (.inr (.inr hX))) fun _ _ h=>h;replace hko:=zH hko;replace hGO:=zH hGO;replace ru:=zH ru;replace hkr:=zH hkr;replace yw:=zH yw;clear nB ai r221 r321 r421 rS21 rL21 r1721 rT21 rC21 rp21 rH21 kC21 kT21 kH21 oh hq2 nZ hq4 uD;rcases aI with ⟨er,v,gm,aH,rfl⟩|⟨f,S2,k2,D2,gm,hf,uO,rfl,ug,hND,hDF⟩
     ·have hga:=zH (hMD.out.trans (by unfold JZ;rw[if_neg hlz.out,hjx];simp only;rw[gm.out]:JZ S' (lv,zs,pz) ls hs=.error er));have rD:(er != 0)=true:=by rw[bne_iff_ne];exact aH
      have k222:=qa r222;have k322:=qa r322;have k422:=qa r422;have f222:=qe r222;have f322:=qe r322;have f422:=qe r422;clear gm yw wF rT22 rC22 rS22 rL22 rH22 rp22 r1722
      gi_wp2_with fail
      obtain⟨g4,g5,g6,hb,-,hk,hko2⟩:=YK (w:=w) r222 r322 r422 rfl;exact⟨(hko.out.trans hko2).from _,⟨er,_,rfl,hga.out,⟨g4,g5,g6⟩,Qe.refl _⟩,hb zO hGO.out⟩
     ·have hga:=zH (hMD.out.trans (by unfold JZ;rw[if_neg hlz.out,hjx];simp only;rw[gm.out]:JZ S' (lv,zs,pz) ls hs=.ok (ZE zs jp jm [jz (jy jt) f],[jz (jy jt) f],S2)));obtain⟨⟨A',c',e',-,-,hrj⟩,-⟩:=yw.out;have mW:jps.length=jt.length:=by rw[<-hjm.out,List.length_map]
      have hj0:0<jt.length:=List.length_pos_iff.2 yH.out;rw[mW] at e' hrj;cases e';obtain⟨bj,oj,rfl,hbj,hcj⟩:=(hrj w22 (qU.refl _ _)).2 zO;obtain⟨g0,g1,g2,-,-⟩:=vt jps 0 zO;obtain⟨y0,hy0⟩:∃ y0,jps[0].1=y0:=⟨_,rfl⟩
      have hDU:Hid (jy jt=(y0.k,y0.i,y0.o)):=zH (by
       have:jt=y0 :: jt.tail:=by
        rcases jps with _|⟨p,ps⟩
        ·simp at mW;omega
        ·rw[<-hjm.out,<-hy0];rfl
       rw[this];rfl)
      rw[hy0] at g0 g1 g2;have d0:=hcj _ _ g0;have d1:=hcj _ _ g1;have d2:=hcj _ _ g2;simp only[Nat.zero_mul,Nat.zero_add,Nat.add_zero] at d0 d1 d2;have hj1:(0:Int)<(jt.length:Int):=zO;replace mW:=zH mW;replace hy0:=zH hy0;replace hcj:=zH hcj;clear gm g0 g1 g2 hrj
      gi_upto_region 18 with fail
      gi_upto_region 19 with fail
      generalize hNZ:World.alloc w22 _=w23;have x23':Ext w22 w23:=by rw[<-hNZ];exact zN _ _
      have ro23:w23.heap[w22.heap.size]?=some (.cells #[.int .u8 y0.k,.int .u32 y0.i,.int .u32 y0.o,.int .i64 (f:Int),.slice none 0 0] 51 (0,0)):=by rw[<-hNZ];exact zI _ _ _ rfl
      clear hNZ d0 d1 d2 hcj;have hSX:=zH (ru.out.trans (qU.of_ext (X:=fun q=>q<w3.heap.size) x23') fun _ _ h=>h);have HCl:Hid (∀ W,Ext w23 W->Calls prog 115 #[.slice A8 zs.length c8] W (zZ (fun u w'=>w'.ownsRow W.heap.size 51 5 u zs.length (qD ips)) W)):=zH fun W hW=>by obtain⟨⟨A,c,e,_,_,hr⟩,_⟩:=lm.out;rw[hzlH.out] at e hr;cases e;exact KQ A8 zs.length c8 (qD ips) (by have:=pI.out;omega) one1H.out W (hr W (hSX.out.trans (qU.of_ext (X:=fun q=>q<w3.heap.size) hW) fun _ _ h=>h))
      obtain⟨ocs,hII⟩:∃ ocs:Array Value,ocs=#[.int .u8 y0.k,.int .u32 y0.i,.int .u32 y0.o,.int .i64 (f:Int),.slice none 0 0]:=⟨_,rfl⟩
      obtain⟨us,nO⟩:∃ us,us=(qD ips).take (jp*5)++ocs.toList++(qD ips).drop ((jp+jm)*5):=⟨_,rfl⟩
      have HRp:Hid (∀ (V:World) (Ac:OA) (cc p:Nat),Ext w23 V->V.ownsRow w23.heap.size 51 5 (.slice Ac zs.length cc) zs.length (qD ips)->V.heap[p]?=some (.cells ocs 51 (0,0))->Calls prog 119 #[.slice Ac zs.length cc,.int .i64 (jp:Int),.int .i64 ((jp:Int)+(jm:Int)),.slice (some ⟨p,0,none⟩) 1 1] V (vY w23.heap.size (.slice Ac zs.length cc) (zs.length-jm+1) us V)):=zH fun V Ac cc p hV ho hp=>by have H:=qgu w23.heap.size _ zs.length jp jm (qD ips) p ocs V ho hp (by rw[hII];rfl) hAX.out (by have:=pI.out;omega) hjn.out one1H.out (by rw[hII];intro u hu;simp only[List.mem_cons,List.not_mem_nil,or_false] at hu;rcases hu with rfl|rfl|rfl|rfl|rfl <;> rfl) hV.size;rw[nO];rw[Int.natCast_add] at H;exact H
      have hwq:IntKind.i64.wrap ((jp:Int)+(jm:Int))=(jp:Int)+(jm:Int):=by rw[IntKind.wrap_i64];have:=hjn.out;have:=pI.out;omega
      obtain⟨RR,aV⟩:∃ RR:Rel,RR=KP w23.heap.size:=⟨_,rfl⟩
      have hle:∀ a b,qm.r a b->RR.r a b:=by rw[aV];exact qeL _
      have g17:∀ W,RR.r w23 W->∀ i,W.cell? ⟨t17,i,none⟩=#[.int .i64 (lv:Int),.slice A8 zs.length c8,.int .i64 (pz:Int)][i]?:=fun W h=>qa (qb (qb r1722 x23') ((aV ▸ h:(KP w23.heap.size).r w23 W).2.1 (zM _)));have gp:∀ W,RR.r w23 W->∀ i,W.cell? ⟨w20.heap.size,i,none⟩=#[.int .i64 (jp:Int),.int .i64 (jm:Int)][i]?:=fun W h=>qa (qb (qb rp22 x23') ((aV ▸ h:(KP w23.heap.size).r w23 W).2.1 (zM _)));have go:∀ W,RR.r w23 W->∀ i,W.cell? ⟨w22.heap.size,i,none⟩=#[.int .u8 y0.k,.int .u32 y0.i,.int .u32 y0.o,.int .i64 (f:Int),.slice none 0 0][i]?:=fun W h=>qa (qb ro23 ((aV ▸ h:(KP w23.heap.size).r w23 W).2.1 (zM _)));replace aV:=zH aV;replace nO:=zH nO;refine qit zQ zQ ?_;refine Zz 14 16 (.int .i64 (f:Int)) zQ zA6 zQ zQ zQ zA0 (fun W=>?_) ?_
      ·go_simp
      simp only[Act.put,ql,qf,qc,qg,qE,qy,Qc,qG,qJ,zA,zB,zC];refine qew (w:=w23) qm RR 13 (fun i=>i != 3 && i != 12) hle (qP [(3,jB w23.heap.size zs.length (qD ips)),(12,ju w23.heap.size 1 51 ocs),(13,jB w23.heap.size (zs.length-jm+1) us)]) [true,true,true,true,true,true,true,true,true,true,true,true,true,true,false] 2 zQ zQ zQ zQ zQ zQ zQ zQ ?st (Rel.drew _ _) ?walk
      case st=>exact GN (by simp only[List.forall_mem_cons];exact⟨fun p=>⟨ZX _ _ _ p,fun _ h=>by cases h⟩,fun p=>⟨Qr (Jd _ _ _ _ p),fun _ h=>by cases h⟩,fun p=>⟨ZX _ _ _ p,fun h=>absurd rfl h⟩,fun _ h=>by cases h⟩)
      case walk =>
       intro K hK;dsimp only[qv,List.replicate];refine zC9 ?_;refine Xa (jB w23.heap.size zs.length (qD ips)) zA0 zA0 zA1 (fun W hW _=>?_) (fun p3=>?_)
       ·have hW:Ext w23 W:=(aV.out ▸ hW:(KP w23.heap.size).r w23 W).2.1 (zM _);refine Qk ?_ ((HCl.out W hW).mono fun e w' h=>?_)
        ·go_simp
        obtain⟨u,rfl,hu,hB⟩:=h;obtain⟨Ac,cc,rfl,_,_⟩:=qC hu;exact⟨(Ac,cc),rfl,QC hu hW.size,hB⟩
       obtain⟨Ac,cc⟩:=p3;refine zC9 ?_;refine Xa (ju w23.heap.size 1 51 ocs) zA0 zA0 zA1 (fun W hW _=>?_) (fun (p12:Nat)=>?_)
       ·have hW:Ext w23 W:=(aV.out ▸ hW:(KP w23.heap.size).r w23 W).2.1 (zM _);unfold Qs;rw[hII];go_simp;exact⟨W.heap.size,rfl,⟨zI _ _ _ rfl,hW.size⟩,zN _ _⟩
       refine zC9 ?_;refine qcx (jB w23.heap.size (zs.length-jm+1) us) zA0 zA0 (fun W hW hp=>?_) (fun p13=>?_)
       ·have hW:Ext w23 W:=hW;have ho:W.ownsRow w23.heap.size 51 5 (.slice Ac zs.length cc) zs.length (qD ips):=hp 3 zA1;obtain⟨f12,_⟩:W.heap[p12]?=some (.cells ocs 51 (0,0))/\w23.heap.size<=p12:=hp 12 zA1;refine Qk ?_ ((HRp.out W Ac cc p12 hW ho f12).mono fun e w' h=>?_)
        ·go_simp
        have hR:=qcB ho h;obtain⟨u,rfl,hu,-⟩:=h;obtain⟨Ad,cd,rfl,_,_⟩:=qC hu;exact⟨(Ad,cd),rfl,hu,by rw[aV.out];exact hR⟩
       obtain⟨Ad',cd'⟩:=p13;refine zC9 ?_;refine qeF (hK _ _ fun V hV hF=>?_);have hoV:V.ownsRow w23.heap.size 51 5 (.slice Ad' (zs.length-jm+1) cd') (zs.length-jm+1) us:=hF 13 rfl;have x23V:Ext w23 V:=(aV.out ▸ hV:(KP w23.heap.size).r w23 V).2.1 (zM _);clear hF hK g17 gp go HCl HRp hV hle;refine zC4 ?_;have x22V:=x23'.trans x23V;have rLV:=qb rL22 x22V;have rHV:=qb rH22 x22V;have kL':=qa rLV;have kH':=qa rHV;have fL':=qe rLV;have fH':=qe rHV;have zL':=(zG.1 rLV).1;have zH':=(zG.1 rHV).1;have aH:p10≠w7.heap.size:=qM rLV rHV zA1;have hEQ:w7.heap.size≠p10:=fun e=>aH e.symm;have hoVH:=zH hoV;clear hoV;go_wp2;refine Qq ?_
       gi_wp2_with fail
       generalize hwE:World.setCell (World.setCell V _ _) _ _=wE;have dS:=fM.out;have z46:=x46.size;have z2V:=x22V.size;have e8:(ZE zs jp jm [jz (jy jt) f]).length=zs.length-jm+1:=by have:=Tx (xs:=zs) (up:=[jz (jy jt) f]) (q:=jp) (m:=jm) hjn.out;simp only[List.length_singleton] at this;have:=hjn.out;omega
       have e7:qD (ips.take jp++[(jz (jy jt) f,.slice none 0 0)]++ips.drop (jp+jm))=us:=by rw[nO.out,Zt,Zt,VI,VH,hII,hDU.out];rfl
       rw[<-e7] at hoVH;have hmIt:Zb (jz (jy jt) f)/\True:=⟨?_,trivial⟩
       have hNx:=qeC (v:=.slice Ad' (zs.length-jm+1) cd') (ls:=ZE zs jp jm [jz (jy jt) f]) (hs:=[jz (jy jt) f]) hga.out uO (by rw[e8];have:=pI.out;have:=hAX.out;have:=hjn.out;omega) (by unfold ZE;rw[List.map_append,List.map_append,List.map_take,List.map_drop,e11H.out];rfl) (fun y hy=>by
        unfold ZE at hy;rcases List.mem_append.1 hy with hy|hy
        ·rcases List.mem_append.1 hy with hy|hy
         ·exact(xu.out y (List.mem_of_mem_take hy)).1
         ·rw[List.mem_singleton.1 hy];exact hmIt.1
        ·exact(xu.out y (List.mem_of_mem_drop hy)).1) (.inr ⟨_,rfl,by unfold jz;simp only;omega⟩) hoVH.out e8.symm (by have:=x21.size;have:=(zG.1 dS.r4).1;have:=(zG.1 r422).1;have:=x23'.size;omega) (fun p hp=>?_) rLV rHV (hDF.ext x22V) (qb r222 x22V) (qb r322 x22V) (qb r422 x22V) (qb rT22 x22V) ⟨A3,c3,qb rC22 x22V⟩ (qb rS22 x22V) (ru.out.trans (qU.of_ext (X:=fun q=>q<w3.heap.size) x22V) fun _ _ h=>h) zO zO zO zO zO zO hwE.symm
       ·obtain⟨n1,n2,n3,n4,n5⟩:=hNx;have zS:=(zG.1 rS22).1;have zS2:=(zG.1 dS.rS).1;have s28:w.heap.size<=w22.heap.size:=by have:=(zG.1 r422).1;omega
        exact⟨((hko.out.trans (KeepsOthers.of_ext x22V)).trans n2).from _,⟨n4.trans ((qb rS22 x22V).trans dS.rS.symm),(n5 _ zO).trans ((x22V.block _ zO).trans ((hkr.out _ zO).trans (x21.block _ zO)))⟩,⟨wE,n1,Qe.refl _⟩,n3 (hGO.out.trans (Below.mono x22V s28))⟩
       ·rcases List.mem_append.1 hp with hp|hp
        ·rcases List.mem_append.1 hp with hp|hp
         ·have ag:=List.mem_of_mem_take hp;exact⟨(lm.out.2 p ag).1,fun C hC=>(lm.out.2 p ag).2 C ((ru.out.trans (qU.of_ext (X:=fun q=>q<w3.heap.size) x22V) fun _ _ h=>h).trans hC (yj.out k2 fun q hq=>(hDF.b3 q hq).1))⟩
         ·rw[List.mem_singleton.1 hp];exact⟨⟨none,0,rfl⟩,fun C _=>⟨none,0,rfl,zM _,zA7,Rd.none_⟩⟩
        ·have ag:=List.mem_of_mem_drop hp;exact⟨(lm.out.2 p ag).1,fun C hC=>(lm.out.2 p ag).2 C ((ru.out.trans (qU.of_ext (X:=fun q=>q<w3.heap.size) x22V) fun _ _ h=>h).trans hC (yj.out k2 fun q hq=>(hDF.b3 q hq).1))⟩
       ·obtain⟨k1,k2,k3⟩:=qfU yG.out;exact⟨k1,k2,k3,by unfold jz;simp only;omega,by unfold jz;simp only[List.length_nil];omega⟩
   case done =>
    rintro D zs W hD sQ ⟨⟨Wb,xm,lC⟩,i4⟩ hK;subst iJ;have dS:=xm.ck lC;obtain⟨ls,hs,S',k',D',Al,cl,lps,bU,fO,wH,xK,wG,yE,hlE,hrL,hrH,bn⟩:=dS.ex;rw[sQ,iT] at bU;have hJC:(jb (fun j=>lvl-1-j) lvl).map (sAt l)=(l.take lvl).reverse:=by
     have hlt:(l.take lvl).length=lvl:=by rw[List.length_take];have:=ig.out;omega
     have h1:=GZ (l.take lvl) lvl zO;rw[hlt,List.take_of_length_le (l:=(l.take lvl).reverse) (by rw[List.length_reverse];omega)] at h1;rw[<-h1];refine List.map_congr_left fun j hj=>?_;obtain⟨q,hq,rfl⟩:=List.mem_map.1 hj;have:=List.mem_range.1 hq;exact(qiv zO).symm
    rw[hJC] at bU;have hdg:qco (k,i,o) l.reverse S=.ok (ls,hs,S'):=by rw[qhv ig.out,hlf.out,<-tq.out,bU]
    have hDI:=zH (hdI2.out ls hs S' hdg);obtain⟨LV,hLV⟩:∃ LV:Int,LV=if ls=[] then 0 else (lvl:Int):=⟨_,rfl⟩
    have hpre:Hid (Ym S lvl xs (k,i,o)=match Qy S' LV ls hs with
     | .error e=>.error e
     | .ok (up,S2)=>ZL 7 S2 (ku up)):=zH (by
      unfold Ym;rw[hl.out,hdg,hLV];have:((l.length-1:Nat):Int)=(lvl:Int):=by have:=ig.out;omega
      simp only[this] <;> rfl)
    have hHS:=zH (qbd D' w.heap.size w8.heap.size b g k' S' LV Al _ cl ls wG wH (qZ fO).2.1 hs yE W bn (fun C hC=>by have:=hlE.its (C:=C) (hC.mono fun q _ h=>.inr (.inr (.inr h)));rw[xK] at this;exact this));obtain⟨A3,c3,rC⟩:=dS.rC;have rW2:=dS.r2;have rW3:=dS.r3;have rW4:=dS.r4;have rWT:=dS.rT;have kL:=qa hrL;have kH:=qa hrH;have kC:=qa rC;have kT:=qa rWT;have zz:w.heap.size+4<w11.heap.size:=(zG.1 xG.out.r4).1;have hwl4:=hJF.out;replace bn:=zH bn;replace hlE:=zH hlE;replace wG:=zH wG;replace yE:=zH yE;replace xK:=zH xK;replace fO:=zH fO;replace wH:=zH wH;have hLV':=zH hLV;replace hLV:=zH hLV;replace sQ:=zH sQ;clear bU hdg dS xm lC hJC tX;go_upto_if 128 with fail;go_cut [23] from 125 (fun s wx=>s=.int .i64 LV/\wx=W)
    case first =>
     by_cases hlz:ls=[]
     ·have e1:((ls.length:Int) == 0)=true:=by rw[hlz];rfl
      have e2:decide (ls.length=0)=true:=by rw[hlz];rfl
      have e3:ls.length=0:=by rw[hlz];rfl
      have hv:=hLV.out;rw[if_pos hlz] at hv;replace hlz:=zH hlz;replace hv:=zH hv;go_wp2_with fail;go_meet
      case rel=>exact⟨by rw[hv.out],rfl⟩
     ·have e1:((ls.length:Int) == 0)=false:=by rw[beq_eq_false_iff_ne];have:=List.length_pos_iff.2 hlz;omega
      have e2:decide (ls.length=0)=false:=decide_eq_false (by have:=List.length_pos_iff.2 hlz;omega);have e3:¬ls.length=0:=by have:=List.length_pos_iff.2 hlz;omega
      have hv:=hLV.out;rw[if_neg hlz] at hv;replace hlz:=zH hlz;replace hv:=zH hv;go_wp2_with fail;go_meet
      case rel=>exact⟨by rw[hv.out,hwl4],rfl⟩
    case rest =>
     obtain⟨rfl,rfl⟩:=hcut;go_wp2_with fail;refine hHS.out.mono ?_;clear hHS;intro e V1 hsq;obtain⟨ai,aI⟩:=hsq.split wG.out wH.out yE.out fO.out;clear hsq;have nB:∀ {q cs ty fr},wc.heap[q]?=some (.cells cs ty fr)->ty≠223->ty≠5->ty≠142->¬B3 b g k' q:=fun hr h1 h2 h3=>bn.out.notB3 hr h1 h2 h3;have rcV:=ai.row rW2 (nB rW2 zA1 zA1 zA1);have rdV:=ai.row rW3 (nB rW3 zA1 zA1 zA1);have reV:=ai.row rW4 (nB rW4 zA1 zA1 zA1);have rtV:=ai.row rWT (nB rWT zA1 zA1 zA1);have KV:=(bn.out.others ai).same D _ hK rfl;have xV:Ext w V1:=Below.trans i4 (Below.mono ai.below x8.size);have zV1:=ai.below.size;have kdV:=qa rdV;have keV:=qa reV;have fdV:=qe rdV;have feV:=qe reV;have zlo:w.heap.size+5<=w8.heap.size:=by have:=x78.size;omega
     have zD:w.heap.size+4<D:=zO;clear nB ai rW2 rW3 rW4 hrL hrH rC rWT kL kH kC kT hK i4 hwl4 hlE wG xK wH hLV;rcases aI with ⟨er,v,gm,aH,rfl⟩|⟨f,S2,k2,D2,gm,hf,uO,rfl,ug,hND,bg⟩
     ·have lK:=zH (show q=.error er by rw[oh.out];unfold delX;rw[hpre.out,gm.out]);have rD:(er != 0)=true:=by rw[bne_iff_ne];exact aH
      clear gm hpre;go_upto_region 25 with fail;generalize aA:World.setCell (World.setCell V1 _ _) _ _=V2;obtain⟨t1,t2,t3,t4,t5,t6⟩:=vR (C:=V2) rdV reV zO aA.symm;clear aA kdV keV fdV feV;have rc2:=(t3 (w.heap.size+2) zO zO).trans rcV;have KV2:=t5.same D _ KV rfl;have xV2:Ext w V2:=t6 zO zO xV;replace xV2:=zH xV2;clear t3 t4 t5 t6 xV;have xV2s:=xV2.out.size;have q4z:w.heap.size+4<V2.heap.size:=(zG.1 t2).1;obtain⟨RR,aV⟩:∃ RR:Rel,RR=Vv (w.heap.size+3) 3 (fun j=>if j=0 then some (.int .i64 0) else none):=⟨_,rfl⟩
      replace aV:=zH aV;have gE:∀ W,RR.r V2 W->∀ i,W.cell? ⟨w.heap.size+1+1+1+1,i,none⟩=#[.int .i64 er][i]?:=fun W h=>qa (ZA (aV.out ▸ h) zO t2);refine qt zQ ?_;refine qY (w:=V2) RR (qP [(2,jn),(3,Vn (w.heap.size+3) 3 0 (.int .i64 0))]) (List.replicate 4 true) 1 zQ zQ zQ zQ zQ zQ zQ ?st (Rel.drew _ _) ?walk
      case st=>rw[aV.out];exact qk (by simp only[List.forall_mem_cons];exact⟨ZY,JP rfl,fun _ h=>by cases h⟩)
      case walk =>
       intro K hK;dsimp only[qv,List.replicate];refine zD0 ?_;refine qH jn zA0 zA0 (fun V hV _=>?_) (fun (p:Unit)=>?_)
       ·rw[aV.out] at hV ⊢;have q8:=ZA hV (show w.heap.size+2≠w.heap.size+3 by omega) rc2;have k8:=qa q8;have f8:=qe q8;have z8:=(zG.1 q8).1;refine JA ?_ ⟨(),rfl,trivial,qaY (same4 q8)⟩;clear hV gE;go_simp
       refine zD0 ?_;refine qH (Vn (w.heap.size+3) 3 0 (.int .i64 0)) zA0 zA0 (fun V hV _=>?_) (fun (p:Unit)=>?_)
       ·rw[aV.out] at hV ⊢;obtain⟨cs,q8,ay,-⟩:=hV.2 _ t1;refine Kr t1 hV rfl zA3 fun hf ⟨u,hu⟩=>?_;have hf0:=hf 0;have z8:=(zG.1 q8).1;clear hV gE q8;go_simp
       refine zD0 ?_;refine qB (hK _ _ fun V hV hF=>?_);have hRT:∃ cs,V.heap[w.heap.size+3]?=some (.cells cs 3 (0,0))/\cs[0]?=some (.int .i64 0):=(hF 3).1;clear hF hK gE;rw[aV.out] at hV;have q2:=ZA hV (show w.heap.size+2≠w.heap.size+3 by omega) rc2;have q4:=ZA hV (show w.heap.size+4≠w.heap.size+3 by omega) t2;have qK:=ZA hV (show D≠w.heap.size+3 by omega) KV2;have q3:V.heap[w.heap.size+3]?=some (.cells #[.int .i64 0] 3 (0,0)):=by
        obtain⟨cs,h1,h2⟩:=hRT;obtain⟨cs',k1,k2,-⟩:=hV.2 _ t1;rw[h1] at k1;cases k1;rcases cs with ⟨l⟩
        match l,k2,h2 with
        | [v],_,h2=>simp at h2;rw[h1,h2]
       have bV:Below w.heap.size w V:=Below.trans xV2.out ((Below.refl _ _).grown hV.1 zO (fun g hg=>by simp at hg;omega));clear hRT hV aV;refine zC4 ?_;have ke:=qa q4;have fe:=qe q4;have ze:w.heap.size+1+1+1+1<V.heap.size:=(zG.1 q4).1;go_wp2;refine Qq ?_;go_wp2_with fail;have oD:=qfl q4;have qKV:=qb qK oD;exact Yv rfl rfl rfl rfl qKV zD (qb q2 oD) (qb q3 oD) (qb q4 oD) ⟨_,rfl,by rw[lK.out];rfl,(bV.trans (Below.mono oD bV.size)).trans (belowK_b (w:=w) (zM _) _ D _ _ zO qKV rfl rfl)⟩
     ·obtain⟨H,its,hH,uS,dI⟩:=qkN hDI.out (by rw[<-hLV'.out];exact gm.out) rfl;have mZ:=zH (show Ym S lvl xs (k,i,o)=ZL 7 S2 f by rw[hpre.out,gm.out];rfl);replace bg:=zH bg;clear gm hpre ug hND hDI yE;go_upto_region 24 with fail;generalize aA:World.setCell (World.setCell V1 _ _) _ _=V2;obtain⟨t1,t2,t3,t4,t5,t6⟩:=vR (C:=V2) rdV reV zO aA.symm;clear aA kdV keV fdV feV;have zb1:=(zG.1 rtV).1;have bP:=bg.out.kept (t6 zO zO (Below.refl _ _)) fun q h _=>t3 q zO zO;have HL:=zH (qjk D2 w.heap.size w8.heap.size b g k2 S2 uO f hf.1 hf.2 H its uS dI 7 (by have:=hEC.out;omega) V2 bP);have xV2:Ext w V2:=t6 zO zO xV;have rc2:=(t3 (w.heap.size+2) zO zO).trans rcV;have rt2:=(t3 w9.heap.size zO zO).trans rtV;have KV2:=t5.same D _ KV rfl;have kd:=qa t1;have ke:=qa t2;have kt:=qa rt2;replace bP:=zH bP;replace uS:=zH uS;replace dI:=zH dI;clear bg rcV rdV reV rtV KV xV t3 t5 t6;go_wp2_with fail;refine HL.out.mono ?_;clear HL;rintro e V3 ⟨ai,hlq⟩;have nB:∀ {q cs ty fr},V2.heap[q]?=some (.cells cs ty fr)->ty≠223->ty≠5->ty≠142->¬B3 b g k2 q:=fun hr h1 h2 h3=>bP.out.notB3 hr h1 h2 h3;have rc3:=ai.row rc2 (nB rc2 zA1 zA1 zA1);have rd3:=ai.row t1 (nB t1 zA1 zA1 zA1);have re3:=ai.row t2 (nB t2 zA1 zA1 zA1);have rt3:=ai.row rt2 (nB rt2 zA1 zA1 zA1);have K3:=(bP.out.others ai).same D _ KV2 rfl;have xV3:Ext w V3:=Below.trans xV2 (Below.mono ai.below x8.size);have kd3:=qa rd3;have ke3:=qa re3;have fd3:=qe rd3;have fe3:=qe re3;have zz3:=ai.below.size;clear nB ai kd ke kt rc2 rt2 t1 t2 t4 KV2 bP xV2;rcases hlx:ZL 7 S2 f with er|⟨f3,S3⟩
      ·rw[hlx] at hlq;obtain⟨aH,v,rfl⟩:=hlq;have lK:=zH (show q=.error er by rw[oh.out];unfold delX;rw[mZ.out,hlx]);have rD:(er != 0)=true:=by rw[bne_iff_ne];exact aH
       replace hlx:=zH hlx;clear mZ;go_upto_region 28 with fail;generalize aA:World.setCell (World.setCell V3 _ _) _ _=V4;obtain⟨t1,t2,t3,t4,t5,t6⟩:=vR (C:=V4) rd3 re3 zO aA.symm;clear aA kd3 ke3 fd3 fe3;have rc2:=(t3 (w.heap.size+2) zO zO).trans rc3;have KV2:=t5.same D _ K3 rfl;have xV2:Ext w V4:=t6 zO zO xV3;replace xV2:=zH xV2;clear t3 t4 t5 t6 xV3;have xV2s:=xV2.out.size;have q4z:w.heap.size+4<V4.heap.size:=(zG.1 t2).1;obtain⟨RR,aV⟩:∃ RR:Rel,RR=Vv (w.heap.size+3) 3 (fun j=>if j=0 then some (.int .i64 0) else none):=⟨_,rfl⟩
       replace aV:=zH aV;have gE:∀ W,RR.r V4 W->∀ i,W.cell? ⟨w.heap.size+1+1+1+1,i,none⟩=#[.int .i64 er][i]?:=fun W h=>qa (ZA (aV.out ▸ h) zO t2);refine qt zQ ?_;refine qY (w:=V4) RR (qP [(2,jn),(3,Vn (w.heap.size+3) 3 0 (.int .i64 0))]) (List.replicate 4 true) 1 zQ zQ zQ zQ zQ zQ zQ ?st (Rel.drew _ _) ?walk
       case st=>rw[aV.out];exact qk (by simp only[List.forall_mem_cons];exact⟨ZY,JP rfl,fun _ h=>by cases h⟩)
       case walk =>
        intro K hK;dsimp only[qv,List.replicate];refine zD0 ?_;refine qH jn zA0 zA0 (fun V hV _=>?_) (fun (p:Unit)=>?_)
        ·rw[aV.out] at hV ⊢;have q8:=ZA hV (show w.heap.size+2≠w.heap.size+3 by omega) rc2;have k8:=qa q8;have f8:=qe q8;have z8:=(zG.1 q8).1;refine JA ?_ ⟨(),rfl,trivial,qaY (same4 q8)⟩;clear hV gE;go_simp
        refine zD0 ?_;refine qH (Vn (w.heap.size+3) 3 0 (.int .i64 0)) zA0 zA0 (fun V hV _=>?_) (fun (p:Unit)=>?_)
        ·rw[aV.out] at hV ⊢;obtain⟨cs,q8,ay,-⟩:=hV.2 _ t1;refine Kr t1 hV rfl zA3 fun hf ⟨u,hu⟩=>?_;have hf0:=hf 0;have z8:=(zG.1 q8).1;clear hV gE q8;go_simp
        refine zD0 ?_;refine qB (hK _ _ fun V hV hF=>?_);have hRT:∃ cs,V.heap[w.heap.size+3]?=some (.cells cs 3 (0,0))/\cs[0]?=some (.int .i64 0):=(hF 3).1;clear hF hK gE;rw[aV.out] at hV;have q2:=ZA hV (show w.heap.size+2≠w.heap.size+3 by omega) rc2;have q4:=ZA hV (show w.heap.size+4≠w.heap.size+3 by omega) t2;have qK:=ZA hV (show D≠w.heap.size+3 by omega) KV2;have q3:V.heap[w.heap.size+3]?=some (.cells #[.int .i64 0] 3 (0,0)):=by
         obtain⟨cs,h1,h2⟩:=hRT;obtain⟨cs',k1,k2,-⟩:=hV.2 _ t1;rw[h1] at k1;cases k1;rcases cs with ⟨l⟩
         match l,k2,h2 with
         | [v],_,h2=>simp at h2;rw[h1,h2]
        have bV:Below w.heap.size w V:=Below.trans xV2.out ((Below.refl _ _).grown hV.1 zO (fun g hg=>by simp at hg;omega));clear hRT hV aV;refine zC4 ?_;have ke:=qa q4;have fe:=qe q4;have ze:w.heap.size+1+1+1+1<V.heap.size:=(zG.1 q4).1;go_wp2;refine Qq ?_;go_wp2_with fail;have oD:=qfl q4;have qKV:=qb qK oD;exact Yv rfl rfl rfl rfl qKV zD (qb q2 oD) (qb q3 oD) (qb q4 oD) ⟨_,rfl,by rw[lK.out];rfl,(bV.trans (Below.mono oD bV.size)).trans (belowK_b (w:=w) (zM _) _ D _ _ zO qKV rfl rfl)⟩
      ·rw[hlx] at hlq;obtain⟨hS3,hf3,rfl,dC⟩:=hlq;have oO:=zH (show q=match QK S3 (-1) S3.now a with
        |none=>.error 8
        |some t=>.ok (f3,qp S3 t) by
        rw[oh.out];unfold delX;rw[mZ.out,hlx] <;> rfl)
       replace hlx:=zH hlx;replace dC:=zH dC;clear mZ;go_upto_region 27 with fail;generalize aA:World.setCell (World.setCell V3 _ _) _ _=V4;obtain⟨t1,t2,t3,t4,t5,t6⟩:=vR (C:=V4) rd3 re3 zO aA.symm;clear aA kd3 ke3 fd3 fe3;have zb3:=(zG.1 rt3).1;have lW:=dC.out.kept (t6 zO zO (Below.refl _ _)) fun q h _=>t3 q zO zO;have HL:=zH (UE D2 w.heap.size w8.heap.size b g k2 S3 hS3 a haH.out.1 haH.out.2 V4 lW);have xV4:Ext w V4:=t6 zO zO xV3;have rc4:=(t3 (w.heap.size+2) zO zO).trans rc3;have rt4:=(t3 w9.heap.size zO zO).trans rt3;have K4:=t5.same D _ K3 rfl;have kd:=qa t1;have ke:=qa t2;have kt:=qa rt4;replace lW:=zH lW;clear dC rc3 rd3 re3 rt3 K3 xV3 t3 t5 t6;go_wp2_with fail;refine HL.out.mono ?_;clear HL;rintro e w10' ⟨ai,hlq⟩;have nB:∀ {q cs ty fr},V4.heap[q]?=some (.cells cs ty fr)->ty≠223->ty≠5->ty≠142->¬B3 b g k2 q:=fun hr h1 h2 h3=>lW.out.notB3 hr h1 h2 h3;have r210:=ai.row rc4 (nB rc4 zA1 zA1 zA1);have r310:=ai.row t1 (nB t1 zA1 zA1 zA1);have r410:=ai.row t2 (nB t2 zA1 zA1 zA1);have rT10:=ai.row rt4 (nB rt4 zA1 zA1 zA1);have pK:=(lW.out.others ai).same D _ K4 rfl;have eG:Below w.heap.size w w10':=Below.trans xV4 (Below.mono ai.below x8.size);have z410:=ai.below.size;replace eG:=zH eG;clear nB ai lW rc4 t1 t2 rt4 K4 kd ke kt xV4;rcases hlv:QK S3 (-1) S3.now a with _|t
       ·rw[hlv] at hlq;obtain rfl:=hlq;have lK:=zH (show q=.error 8 by rw[oO.out,hlv]);have kc:=qa r210;have kd:=qa r310;have ke:=qa r410;have fc:=qe r210;have fd:=qe r310;have fe:=qe r410;replace hlv:=zH hlv;clear oO;go_wp2_with fail;obtain⟨g4,g5,g6,hb,-,hk,-⟩:=YK r210 r310 r410 rfl;have qK:=(hk D zO).trans pK;exact Yv rfl rfl rfl rfl qK zD g4 g5 g6 ⟨_,rfl,by rw[lK.out];rfl,(hb zO eG.out).trans (belowK_b (w:=w) (zM _) _ D _ _ zO qK rfl rfl)⟩
       ·rw[hlv] at hlq;obtain⟨rfl,eu⟩:=hlq;have lK:=zH (show q=.ok (f3,qp S3 t) by rw[oO.out,hlv]);have gG:Gf (qp S3 t):=Zw (vL hS3 (Vk haH.out.1 (Qd.1 hS3).2.1 hlv));replace hlv:=zH hlv;clear oO;go_upto_region 32 with fail;have zz:w.heap.size+4<D:=zO;have pg:w.heap.size+2<w10'.heap.size:=zO;have hHS:=zH (fun W (h:(vp (w.heap.size+2) 28 (Zi w10'.heap.size (qp S3 t)) (Zi.keep pg)).r w10' W)=>by have h1:=eu.kept (kJ h (B0:=w.heap.size) zO zO) (fun q h1 h2=>Xv h h2 zO);obtain⟨A1,n1,c1,A2,n2,c2,c3,A4,c4,hr,hs⟩:=h1.sto;exact Kk b A1 n1 c1 A2 n2 c2 _ _ c3 A4 _ c4 (qp S3 t) gG W hr hs);obtain⟨RR,aV⟩:∃ RR:Rel,RR=vp (w.heap.size+2) 28 (Zi w10'.heap.size (qp S3 t)) (Zi.keep pg):=⟨_,rfl⟩
        replace aV:=zH aV;obtain⟨SF,hSF⟩:∃ SF,qp S3 t=SF:=⟨_,rfl⟩
        rw[hSF] at eu gG hHS aV;replace hSF:=zH hSF;have gT:∀ W,RR.r w10' W->∀ i,W.cell? ⟨w9.heap.size,i,none⟩=#[.pointer (some ⟨b,0,none⟩)][i]?:=fun W h=>qa (jw (aV.out ▸ h) zO rT10);have gI:∀ W,RR.r w10' W->∀ i,W.cell? ⟨w.heap.size+1+1+1,i,none⟩=#[.int .i64 (f3:Int)][i]?:=fun W h=>qa (jw (aV.out ▸ h) zO r310);refine qt zQ ?_;refine qY (w:=w10') RR (qP [(1,qeY w10'.heap.size SF),(3,KU (w.heap.size+2) 28 (Zi w10'.heap.size SF))]) (List.replicate 4 true) 2 zQ zQ zQ zQ zQ zQ zQ ?st (Rel.drew _ _) ?walk
        case st=>rw[aV.out];exact qk (by simp only[List.forall_mem_cons];exact⟨Ur pg,Tp,fun _ h=>by cases h⟩)
        case walk =>
         intro K hK;dsimp only[qv,List.replicate];refine zD0 ?_;refine qH (qeY w10'.heap.size SF) zA0 zA0 (fun W hW _=>?_) (fun p=>?_)
         ·rw[aV.out] at hW ⊢;refine Qk ?_ ((hHS.out W hW).mono fun e w' h=>?_)
          ·go_simp
          obtain⟨v,rfl,hT,hB⟩:=h;obtain⟨BB,WW,gg,A3',c3',A4',c4',rfl,-⟩:=id hT;exact⟨((BB,WW),(A3',c3'),(A4',c4')),rfl,QY.keep hT hW.1.size (zM _) (fun _ _ _=>rfl),qdo hB⟩
         obtain⟨⟨BB,WW⟩,⟨A3',c3'⟩,⟨A4',c4'⟩⟩:=p;refine zD0 ?_;refine qH (KU (w.heap.size+2) 28 (Zi w10'.heap.size SF)) zA0 zA0 (fun W hW hp=>?_) (fun (p:Unit)=>?_)
         ·have hT:QY w10'.heap.size SF (Qo (some ⟨BB,0,none⟩) SF.bs.length SF.bs.length (some ⟨WW,0,none⟩) SF.ws.length (SF.ws.length+1) A3' SF.now.length c3' A4' SF.last.length c4') W:=(hp 1 zA1).1;rw[aV.out] at hW ⊢;have hr0:=qiE pg hW r210;obtain⟨u0,u1,u2,u3,q8⟩:=id hr0;have k8:=qa q8;have f8:=qe q8;have z8:=(zG.1 q8).1;refine qbh pg hr0 hT ?_;clear hT hr0;go_simp
         refine zD0 ?_;refine qB (hK _ _ fun V hV hF=>?_);have hRT:∃ cs,V.heap[w.heap.size+2]?=some (.cells cs 28 (0,0))/\Zi w10'.heap.size SF cs V:=(hF 3).1;clear hF hK gT gI hHS;rw[aV.out] at hV;obtain⟨cs,q2,x0,x1,x2,x3,rfl,hTw⟩:=hRT;have q3:=jw hV (show w.heap.size+3≠w.heap.size+2 by omega) r310;have q4:=jw hV (show w.heap.size+4≠w.heap.size+2 by omega) r410;have qK:=jw hV (show D≠w.heap.size+2 by omega) pK;have xV:=kJ hV (B0:=w.heap.size) zO zO;have zV:=hV.1.size;have kd:=qa q3;have ke:=qa q4;have fd:=qe q3;have fe:=qe q4;have zd:w.heap.size+1+1+1<V.heap.size:=zO;have ze:w.heap.size+1+1+1+1<V.heap.size:=zO;replace hTw:=zH hTw;clear hV aV;refine zC4 ?_;go_wp2;refine Qq ?_;go_wp2_with fail;generalize ah:World.setCell (World.setCell V _ _) _ _=wf;obtain⟨t1,t2,t3,t4,t5,t6⟩:=vR (C:=wf) q3 q4 zO ah.symm;clear ah;have qKf:=t5.same D _ qK rfl;refine Yv rfl rfl rfl rfl qKf zz ((t3 _ zO zO).trans q2) t1 t2 ⟨_,rfl,?_,(t6 zO zO (Below.trans eG.out xV)).trans (belowK_b (w:=w) (zM _) _ D _ _ zO qKf rfl rfl)⟩;rw[lK.out,hSF.out];refine⟨_,rfl,QY.keep hTw.out zO (by simp[World.putObj,t4]) fun k h1 h2=>?_⟩;exact(World.putObj_heap_other (by have:=(zG.1 pK).1;omega)).trans (t3 k zO zO)
   case stop =>
    rintro D cc pre W hD ⟨kk,hkk,hpre⟩ ⟨⟨er,Wb,rfl,hgx,⟨g4,g5,g6⟩,hCK⟩,hB⟩ hK;rw[hpre] at hgx;rw[iT] at hkk hgx;have hJC:(jb (fun j=>lvl-1-j) kk).map (sAt l)=(l.take lvl).reverse.take kk:=by
     have hlt:(l.take lvl).length=lvl:=by rw[List.length_take];have:=ig.out;omega
     have h1:=GZ (l.take lvl) kk zO;rw[hlt] at h1;rw[<-h1];refine List.map_congr_left fun j hj=>?_;obtain⟨q,hq,rfl⟩:=List.mem_map.1 hj;have:=List.mem_range.1 hq;exact(qiv zO).symm
    rw[hJC] at hgx;have lK:=zH (show q=.error er by rw[oh.out];unfold delX Ym;rw[hl.out,qhv ig.out,hlf.out,<-tq.out,qjj hgx]);subst iJ;have zz:w.heap.size+4<w11.heap.size:=(zG.1 xG.out.r4).1
    gi_wp2_with fail
    have pM:Below w.heap.size w (W.putObj D (.deferred none)):=hB.trans (belowK_b (w:=w) (zM _) W D _ _ zO hK rfl rfl);exact Yv rfl rfl rfl rfl hK zO (hCK.row g4) (hCK.row g5) (hCK.row g6) ⟨_,rfl,by rw[lK.out];rfl,pM⟩
end Go.Proofs.YtmeadnlmepcmbaaGreat
namespace Go.Proofs.YtmeadnlmepcmbaaGreat
open Go.RowKit
variable {S S':Sto}{L root h f:Nat}{xs:List It}{k:K3}{e:Int}{y:It}
theorem qeD:∀{ps:List Stp}{l hs:List It}{S:Sto}{e:Int},jM ps l hs S=.error e->e≠0
 |[],l,hs,S,e,h=>by cases h
 |s::ps,l,hs,S,e,h=>by simp only[jM]at h;split at h;rename_i e1 h1;cases h;unfold JZ at h1;split at h1;cases h1;split at h1;rename_i e2 h2;cases h1;exact Vf h2;cases h1;exact qeD h
theorem qcM:∀{n:Nat}{S:Sto}{f:Nat}{e:Int},ZL n S f=.error e->e≠0
 |0,S,f,e,h=>by cases h
 |n+1,S,f,e,h=>by simp only[ZL]at h;split at h;cases h;decide;split at h;split at h;cases h;split at h;rename_i e1 h1;cases h;exact qdq h1;split at h;cases h;decide;exact qcM h;cases h
theorem delY_err(h:XT S L xs root k=.error e):e≠0:=by unfold XT at h;split at h;unfold delX at h;split at h;rename_i e1 h1;cases h;unfold Ym qco at h1;split at h1;rename_i e2 h2;cases h1;exact qeD h2;split at h1;rename_i e2 h2;cases h1;exact Vf h2;exact qcM h1;split at h;cases h;decide;cases h;cases h;decide
theorem US{t t':List UInt8}(hS:qj S=Z)(hf:8<=f)(hn:qo S f=F (((h+1:Nat):Int),[y]))(hl:XG S (h+1) [y])(e:ZR S.now y.r.toNat=.ok t)(e':QK (qp S t) (-1) t f=t'):∃(b:Nat)(zs:List It),y.r=(b:Int)/\8<=b/\b<256/\b≠f/\qj (qp S t)=Z/\qj (qp S t')=Z/\t=zj S.now b 1/\qo S b=F ((h:Int),zs)/\XG S h zs/\∀q (l:Int) nd,q≠f->qo S q=F (l,nd)->qo (qp S t') q=F (l,nd):=by
 obtain⟨b,zs,e1,h8,h256,hb,fZ⟩:=hl y rfl;rw[e1,Int.toNat_natCast]at e;have hbf:b≠f:=λe=>by subst e;rw[hb]at hn;simp only[Option.some.injEq,Prod.mk.injEq]at hn;omega
 have hSt:qj (qp S t)=Z:=vL hS (UY (.inr h8) (Qd.1 hS).2.1 e);obtain⟨k1,k2⟩:=qcO (h:=h) (qZ hS).2.2.1 hn e1 h8 h256 hbf (qaD hb) e e';exact⟨b,zs,e1,h8,h256,hbf,hSt,vL hS (Vk hf (Qd.1 hSt).2.1 e'),k1,hb,fZ,k2⟩
theorem qcN:∀{n:Nat}{S S':Sto}{f r:Nat}{H:Nat}{its:List It},qj S=Z->8<=f->f<256->qo S f=F ((H:Int),its)->XG S H its->ZL n S f=.ok (r,S')->qj S'=Z/\8<=r/\r<256
 |0,S,S',f,r,H,its,hS,h8,h256,hn,hl,e=>by cases e;exact⟨hS,h8,h256⟩
 |n+1,S,S',f,r,H,its,hS,h8,h256,hn,hl,e=>by
  simp only[ZL,hn]at e;split at e;rename_i y;split at e;cases e;exact⟨hS,h8,h256⟩;rename_i h0;obtain⟨h,rfl⟩:∃h,H=h+1:=⟨H-1,zO⟩
  split at e;cases e;rename_i t ht;split at e;cases e;rename_i t' ht';obtain⟨b,zs,e1,k8,k256,kb,kt,kt',-,hb,fZ,hk⟩:=US hS h8 hn hl ht ht';rw[e1,Int.toNat_natCast]at e;refine qcN kt' k8 k256 (hk b _ _ kb hb) (GB h (λr l nd hlt hr=>hk r l nd (λe=>?_) hr) fZ) e;subst e;rw[hn]at hr;simp only[Option.some.injEq,Prod.mk.injEq]at hr;omega;cases e;exact⟨hS,h8,h256⟩
theorem qka{L a r:Nat}(hS:qj S=Z)(hn:qo S a=F ((L:Int),xs))(aK:(qz S L xs).isSome=Z)(h1:(Vm S k L xs).isSome=Z)(e:Ym S L xs k=.ok (r,S')):qj S'=Z/\8<=r/\r<256:=by
 have ig:=Yb (k:=k) L (qI hn).1 aK;unfold Ym at e;split at e;cases e;rename_i l hs S1 hg;have hI:=Kp hS L hn aK h1 hg;have hLV:(((jJ S k L xs).length-1:Nat):Int)=(L:Int):=zO;rw[hLV]at e;split at e;cases e;rename_i up S2 hb;have hf:=Vg (S:=S1) (lvl:=if l=[]then 0 else(L:Int)) (hs:=hs) hI.len;have:∃f:Nat,up=[jz (jy l) f]:=by rw[hb]at hf;split at hf;cases hf;split at hf;cases hf;cases hf;exact⟨_,rfl⟩
 obtain⟨f,rfl⟩:=this;have hmay:=Km (λx hx=>(hI.ok x hx).1) hI.held hI.may hb;obtain⟨H,its,hH,uS,dI⟩:=qkN hI hb rfl;have h8:=hmay.2.2.2 _ List.mem_cons_self;unfold jz at h8;simp only at h8;exact qcN hmay.1 zO zO uS dI e
theorem qhw{L a r:Nat}(hS:qj S=Z)(ha:8<=a)(hn:qo S a=F ((L:Int),xs))(aK:(qz S L xs).isSome=Z)(e:XT S L xs a k=.ok (r,S')):qj S'=Z/\8<=r/\r<256:=by unfold XT at e;split at e;rename_i h1;unfold delX at e;split at e;cases e;rename_i g S3 e3;obtain⟨k1,k2,k3⟩:=qka hS hn aK h1 e3;split at e;cases e;rename_i t ht;cases e;exact⟨vL k1 (Vk ha (Qd.1 k1).2.1 ht),k2,k3⟩;cases e
def unE(S:Sto)(root id:Int):Except Int (Nat×Sto):=match qo S root.toNat with
 |none=>.error 8
 |some (lvl,xs)=>XT S lvl.toNat xs root.toNat (1,id,0)
def UnErr(S:Sto)(root next:Int)(dead:List Int)(id er:Int):Prop:=(er=8/\QI S root next dead)\/∃vs,Zy S root next dead vs/\((er=6/\zF vs id=O)\/∃v,zF vs id=F v/\unE S root id=.error er)
end Go.Proofs.YtmeadnlmepcmbaaGreat
