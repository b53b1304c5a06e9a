/- Texts Del1, VFind, FHas, FAsked, PutM, joined. -/
import Derived.Test.YtpbniokljofedaaGreatZI27
set_option linter.unusedSimpArgs false
set_option linter.unusedVariables false
set_option maxHeartbeats 8000000
open Go.Proofs.Tryz
namespace Go.Proofs.YtpbniokljofedaaGreat
open Go.RowKit Go.Shelf
attribute [local go_sem] Oper.semAt_some
theorem qdq {R:Ending->World->Prop} {a:Act} {W:World} {u v:Value} (h4:a.tmps[8]?.getD undef=u) (h5:a.tmps[9]?.getD undef=v) (hd:a.defers=[]) (hR:R (.returned (.tuple #[u,v])) W):bodyPost prog Tryz.f114 R .ret a W:=by refine bodyPost_ret (v:=.tuple #[u,v]) ?_ hd hR;simp[results,results114,go_sem,h4,h5]
set_option maxRecDepth 100000 in
theorem qbO (D:Nat->Prop) (B lo b g:Nat) (k:Option Nat) (S:Sto) (lvl:Int) (A:Option Addr) (n c:Nat) (its:List It) (mJ:∀ x∈its,jq x) (xI:S.ws.length<=4096) (w:World) (h:Bch D B lo b g k S w) (hx:JZ (B3 b g k) w (.slice A n c) its) {f:Nat} {S1:Sto} (hm:zh S lvl its=.ok (f,S1)):Calls prog 114 #[.pointer (some ⟨b,0,none⟩),.int .i64 lvl,.slice A n c,.int .i64 0] w (VH D B lo b g k S lvl its w):=by
 have HM:=zH (Tq D B lo b g k S lvl A n c its mJ xI w h hx);clear h hx;go_enter func114,ntmps114;go_wp2_with fail;refine HM.out.mono ?_;clear HM;intro e W hQ;obtain⟨hk,hq⟩:=hQ;rw[hm] at hq;obtain⟨rfl,hq⟩:=hq;have hQ:Hid (VH D B lo b g k S lvl its w (.returned (.tuple #[.int .i64 (f:Int),.int .i64 0])) W):=zH ⟨hk,by rw[hm];exact⟨rfl,hq⟩⟩;clear hk hq;go_wp2_with fail;exact qdq rfl rfl rfl hQ.out
theorem qeT {R:Ending->World->Prop} {a:Act} {W:World} {u v:Value} (h4:a.tmps[4]?.getD undef=u) (h5:a.tmps[5]?.getD undef=v) (hd:a.defers=[]) (hR:R (.returned (.tuple #[u,v])) W):bodyPost prog Tryz.f115 R .ret a W:=by refine bodyPost_ret (v:=.tuple #[u,v]) ?_ hd hR;simp[results,results115,go_sem,h4,h5]
set_option maxRecDepth 100000 in
theorem qdm (D:Nat->Prop) (B lo b g:Nat) (k:Option Nat) (S:Sto) (hS:qo S=true) (f:Nat) (hf:8<=f) (hf2:f<256) (its:List It) (hn:qv S f=some (0,its)) (w:World) (h:Bch D B lo b g k S w):Calls prog 115 #[.pointer (some ⟨b,0,none⟩),.int .i64 (f:Int)] w (Ret (.tuple #[.int .i64 (f:Int),.int .i64 0]) w):=by
 have ik:=h.size.1;have HN:=zH (by obtain⟨A1',n1',c1',A2',n2',c2',c3',A4',eP,lY,gm⟩:=h.sto;exact vy lo b A1' n1' c1' A2' n2' c2' _ 256 c3' A4' 256 eP S hS f hf hf2 w ⟨ik,lY,gm⟩:Calls prog 67 #[.pointer (some ⟨b,0,none⟩),.int .i64 (f:Int)] w (QV (UV w.heap.size (qv S f)) w));rw[hn] at HN;clear h hn hS;go_enter func115,ntmps115;go_wp2_with fail;go_loopw [1,4,5] (fun v x y wr=>v=.int .i64 (f:Int)/\wr=w) (fun _ _ _ _=>0)
 case atStart=>exact⟨rfl,rfl⟩
 case round =>
  obtain⟨rfl,hwr⟩:=hrel;rw[<-hwr] at HN ⊢;clear hwr;go_wp2_with fail;refine HN.out.mono ?_;clear HN;rintro e w2 ⟨u,rfl,⟨A9,c9,rfl,aG⟩,hB⟩;have x2:Ext wr w2:=hB;clear aG hB;go_wp2_with fail;generalize aO:World.alloc w2 _=w3;have x3:Ext wr w3:=by rw[<-aO];exact x2.trans (zN _ _)
  have r3:w3.heap[w2.heap.size]?=some (.cells #[.int .i64 0,.slice A9 its.length c9] 49 (0,0)):=by rw[<-aO];exact zI _ _ _ rfl
  have k3:=qa r3;clear aO x2;go_wp2_with fail;exact qeT rfl rfl rfl ⟨rfl,x3⟩
theorem del_retD {n b D:Nat} {R:Ending->World->Prop} {a:Act} {W:World} {x0 x1 x2 x3 y z:Value} (h4:a.tmps[6]?.getD undef=.pointer (some ⟨b+1+1,0,none⟩)) (h5:a.tmps[7]?.getD undef=.pointer (some ⟨b+1+1+1,0,none⟩)) (h6:a.tmps[8]?.getD undef=.pointer (some ⟨b+1+1+1+1,0,none⟩)) (hd:a.defers=[{ target:=.collected D,args:=#[] }]) (hK:W.heap[D]?=some (.deferred (some []))) (hD:b+4<D) (r4:W.heap[b+2]?=some (.cells #[x0,x1,x2,x3] 28 (0,0))) (r5:W.heap[b+3]?=some (.cells #[y] 3 (0,0))) (r6:W.heap[b+4]?=some (.cells #[z] 36 (0,0))) (hR:R (.returned (.tuple #[.agg #[x0,x1,x2,x3],y,z])) (W.putObj D (.deferred none))):bodyPostM Fence.wide n prog Tryz.f57 R .ret a W:=by
 have k4:=qa ((World.putObj_heap_other (o:=.deferred none) (show b+2≠D by omega)).trans r4);have k5:=qa ((World.putObj_heap_other (o:=.deferred none) (show b+3≠D by omega)).trans r5);have k6:=qa ((World.putObj_heap_other (o:=.deferred none) (show b+4≠D by omega)).trans r6);change LeavesInM Fence.wide n prog Tryz.f57 a.tmps R a.defers .returning W;rw[hd];refine⟨zA3,.inl ⟨_,_,rfl,run_takeDeferred hK,.tuple #[.agg #[x0,x1,x2,x3],y,z],?_,hR⟩⟩;simp[results,results57,go_sem,h4,h5,h6,k4,k5,k6]
set_option maxRecDepth 100000 in
theorem del1_any (A1:Option Addr) (n1 c1:Nat) (A2:Option Addr) (n2 c2:Nat) (A3:Option Addr) (n3 c3:Nat) (A4:Option Addr) (n4 c4:Nat) (S:Sto) (hS:qo S=true) (a:Nat) (xs:List It) (ha:8<=a) (bK:a<256) (hn:qv S a=some (((0:Nat):Int),xs)) (aU:(Qg S 0 xs).isSome=true) (k i o:Int) (x:It) (hx:XQ S (k,i,o) 0 xs=some x) (hp:qG xs (k,i,o)=0) (hx1:xs.length=1) {f:Nat} {S1:Sto} {t:List UInt8} (hm:zh S 0 []=.ok (f,S1)) (hf:qv S1 f=some (0,[])) (ht:Qz S1 (-1) S1.now a=some t) (w:World) (aH:qU w w.heap.size (.slice A1 n1 c1) (.slice A2 n2 c2) (.slice A3 n3 c3) (.slice A4 n4 c4) S):Calls prog 57 #[Qd A1 n1 c1 A2 n2 c2 A3 n3 c3 A4 n4 c4,.int .i64 (a:Int),keyV k i o] w (QV (PutQ w.heap.size (.ok (f,qu S1 t))) w):=by
 have HF:=zH (fun W (hx:Ext w W)=>qgW A1 n1 c1 A2 n2 c2 A3 n3 c3 A4 n4 c4 S hS a 0 xs ha bK hn aU k i o W (aH.ext hx));have HW:=zH (fun W (hx:Ext w W)=>qgV A1 n1 c1 A2 n2 c2 A3 n3 c3 A4 n4 c4 S hS a xs ha bK hn k i o W (aH.ext hx));have HO:=zH (fun W (hx:Ext w W)=>GE A1 n1 c1 A2 n2 c2 A3 n3 c3 A4 n4 c4 S (by have:=(qQ hS).2.2.1;omega) W (aH.ext hx));rw[hp] at HW;rw[hx] at HF;have wH:xs.length<=5:=by have:=zt hn;omega
 replace hm:=zH hm;replace hf:=zH hf;replace ht:=zH ht;replace hS:=zH hS;replace aH:=zH aH;clear hx aU hn hp;refine(callsIn_wide (n:=3)).1 ?_;refine callsIn_of_wp_marks func57 rfl trivial ?_ rfl;simp only[ntmps57,List.size_toArray,List.length_cons,List.length_nil,Nat.reduceAdd,Nat.reduceSub,Array.replicate_succ,Array.replicate_zero,List.push_toArray,List.append_toArray,List.nil_append,List.cons_append];refine wpIn_wide.2 ?_;go_wp2_with fail;generalize aA:(World.alloc (World.alloc (World.alloc (World.alloc (World.alloc w _) _) _) _) _)=w1;have x1:Ext w w1:=by rw[<-aA];exact((((zN _ _).trans (zN _ _)).trans (zN _ _)).trans (zN _ _)).trans (zN _ _)
 have s1:w.heap.size+5<=w1.heap.size:=by rw[<-aA];simp
 have wK:w1.heap[w.heap.size]?=some (.cells #[.slice A1 n1 c1,.slice A2 n2 c2,.slice A3 n3 c3,.slice A4 n4 c4] 28 (0,0)):=by rw[<-aA];exact(zK _ _ _ zA4).trans ((zK _ _ _ zA4).trans ((zK _ _ _ zA4).trans ((zK _ _ _ zA4).trans (zI _ _ _ rfl))))
 have rb1:w1.heap[w.heap.size+1]?=some (.cells #[.int .u8 k,.int .u32 i,.int .u32 o] 66 (0,0)):=by rw[<-aA];exact(zK _ _ _ zA4).trans ((zK _ _ _ zA4).trans ((zK _ _ _ zA4).trans (zI _ _ _ zA3)))
 have rc1:w1.heap[w.heap.size+2]?=some (.cells #[.slice none 0 0,.slice none 0 0,.slice none 0 0,.slice none 0 0] 28 (0,0)):=by rw[<-aA];exact(zK _ _ _ zA4).trans ((zK _ _ _ zA4).trans (zI _ _ _ zA3))
 have rd1:w1.heap[w.heap.size+3]?=some (.cells #[.int .i64 0] 3 (0,0)):=by rw[<-aA];exact(zK _ _ _ zA4).trans (zI _ _ _ zA3)
 have re1:w1.heap[w.heap.size+4]?=some (.cells #[.int .i64 0] 36 (0,0)):=by rw[<-aA];exact zI _ _ _ zA3
 clear aA;have ka1:=qa wK;have kb1:=qa rb1;go_step3;go_wp2_with fail;refine(HF.out w1 x1).mono ?_;clear HF;rintro e w2 ⟨u,rfl,⟨Ay,cy,rfl,-,-⟩,hB⟩;have x2:Ext w w2:=x1.trans hB;have rO:=qb wK hB;have pF:=qb rb1 hB;have ry:=qb rc1 hB;have uU:=qb rd1 hB;have re2:=qb re1 hB;clear hB wK rb1 rc1 rd1 re1 ka1 kb1 x1;go_upto_region 4 with fail;generalize aO:World.alloc w2 _=w3;have dJ:Ext w2 w3:=by rw[<-aO];exact zN _ _
 have x3:Ext w w3:=x2.trans dJ;have ra3:=qb rO dJ;have uG:=qb pF dJ;have lh:=qb ry dJ;have nC:=qb uU dJ;have yg:=qb re2 dJ;have ka3:=qa ra3;have kb3:=qa uG;clear aO rO pF ry uU re2 x2 dJ;go_wp2_with fail;refine(HW.out w3 x3).mono ?_;clear HW;rintro e w4 ⟨u,rfl,⟨q,cq,A9,c9,rfl,hql,hq⟩,hB⟩;have x4:Ext w w4:=x3.trans hB;have sD:=qb lh hB;have xJ:=qb nC hB;have re4:=qb yg hB;have ra4:=qb ra3 hB;have ka4:=qa ra4;replace hq:=zH hq;clear hB ra3 uG lh nC yg ka3 kb3;go_upto_region 5 with fail;generalize aK:World.alloc w4 _=w5;have af:Ext w4 w5:=by rw[<-aK];exact zN _ _
 have x5:Ext w w5:=x4.trans af;have rl5:w5.heap[w4.heap.size]?=some (.cells #[.slice (some ⟨q,0,none⟩) 1 cq] 168 (0,0)):=by rw[<-aK];exact zI _ _ _ rfl
 clear aK;have kl5:=qa rl5;have hq5:=hq.out w5 (Qa.of_ext af);obtain⟨q0,q1,q2,q3⟩:=hq5;go_upto_region 6 with fail;generalize nO:World.alloc w5 _=w6;have dW:Ext w5 w6:=by rw[<-nO];exact zN _ _
 have x6:Ext w w6:=x5.trans dW;have rf6:w6.heap[w5.heap.size]?=some (.cells #[.int .i64 0,.slice A9 1 c9,.int .i64 0] 171 (0,0)):=by rw[<-nO];exact zI _ _ _ rfl
 have z56:w5.heap.size<w6.heap.size:=(zG.1 rf6).1;clear nO;obtain⟨ax,lL,⟨A',c',e,-,-,oV⟩,hbv⟩:=q3.below dW;have bU:ax.length=xs.length:=by rw[<-lL,List.length_map]
 cases e;have one1:=Xb ax fun y hy=>by obtain⟨A,c,e⟩:=(hbv y hy).1;rw[e];rfl
 rw[hx1] at oV;have HCl:Hid (∀ W,Below w6.heap.size w6 W->Calls prog 102 #[.slice A9 1 c9] W (QV (fun u w'=>w'.ownsRow W.heap.size 68 5 u 1 (qP ax)) W)):=zH fun W hW =>
  Ub A9 1 c9 (qP ax) zO one1 W (((oV.more dW.size).below hW).more hW.size)
 have HDl:Hid (∀ (V:World) (Ac:Option Addr) (cc:Nat) (us:List Value),w6.heap.size<=V.heap.size->V.ownsRow w6.heap.size 68 5 (.slice Ac 1 cc) 1 us->Calls prog 111 #[.slice Ac 1 cc,.int .i64 0,.int .i64 1] V (fun e W=>VG w6.heap.size (.slice Ac 1 cc) 0 [] V e W/\SzK w6.heap.size V W)):=zH fun V Ac cc us hV ho=>by have hl:=ho.1;have hd:us.drop 5=[]:=List.drop_eq_nil_of_le zO;have H:=qej w6.heap.size _ 1 0 us V ho zA1 zA1 (by simp only[Nat.zero_add,Nat.one_mul,hd];intro u hu;cases hu) hV;simp only[Nat.zero_add,Nat.one_mul,Nat.zero_mul,hd,List.take_zero,List.append_nil,Nat.sub_self] at H;exact H
 have g12:∀ W,(qbv w6.heap.size).r w6 W->∀ i,W.cell? ⟨w5.heap.size,i,none⟩=#[.int .i64 0,.slice A9 1 c9,.int .i64 0][i]?:=fun W h=>qa ((Below.block h.1 _ z56).trans rf6);refine qm zQ ?_;refine qL (w:=w6) (qbv w6.heap.size) (qD [(3,Ty w6.heap.size 1),(9,Ty w6.heap.size 0),(10,qcd w6.heap.size 47)]) (List.replicate 11 true) 1 zQ zQ zQ zQ zQ zQ zQ ?st (Rel.drew _ _) ?walk
 case st=>exact qj (by simp only[List.forall_mem_cons];exact⟨YI _ _,YI _ _,qaz _ _,fun _ h=>by cases h⟩)
 case walk =>
  intro K hK;dsimp only[qp,List.replicate];repeat ((first|(refine qd ?_ zA0 zA0 (fun W hW _=>⟨W,?_,Rel.refl _ W⟩) ?_;rotate_left;(go_simp<;>with_reducible rfl))|(refine qh zA0 ?_));try simp only[Act.put,ql,qf,qc,qg,ZS,ZT,Qn,qR,zA,zB,zC])
  refine qw (Ty w6.heap.size 1) zA0 zA0 (fun W hW _=>?_) (fun p3=>?_)
  ·refine Qb ?_ ((HCl.out W hW.1).mono fun e w' h=>?_)
   ·go_simp
   obtain⟨u,rfl,hu,hB⟩:=h;obtain⟨Ac,cc,rfl,_,_⟩:=qy hu;exact⟨(Ac,cc),rfl,⟨_,Qw hu hW.1.size⟩,qbw hB hW.1.size⟩
  obtain⟨Ac,cc⟩:=p3;simp only[Act.put,ql,qf,qc,qg,ZS,ZT,Qn,qR,zA,zB,zC];repeat ((first|(refine qd ?_ zA0 zA0 (fun W hW _=>⟨W,?_,Rel.refl _ W⟩) ?_;rotate_left;(go_simp<;>with_reducible rfl))|(refine qh zA0 ?_));try simp only[Act.put,ql,qf,qc,qg,ZS,ZT,Qn,qR,zA,zB,zC])
  refine qw (Ty w6.heap.size 0) zA0 zA0 (fun W hW hp=>?_) (fun p9=>?_)
  ·obtain⟨us,ho⟩:=(hp 3 zA1).1;refine Qb ?_ ((HDl.out W Ac cc us hW.1.size ho).mono fun e w' h=>?_)
   ·go_simp;decide
   obtain⟨⟨u,rfl,hu,hB,-⟩,hz⟩:=h;obtain⟨Ad,cd,rfl,_,_⟩:=qy hu;exact⟨(Ad,cd),rfl,⟨_,hu⟩,hB,hz⟩
  obtain⟨Ad,cd⟩:=p9;simp only[Act.put,ql,qf,qc,qg,ZS,ZT,Qn,qR,zA,zB,zC];repeat ((first|(refine qd ?_ zA0 zA0 (fun W hW _=>⟨W,?_,Rel.refl _ W⟩) ?_;rotate_left;(go_simp<;>with_reducible rfl))|(refine qh zA0 ?_));try simp only[Act.put,ql,qf,qc,qg,ZS,ZT,Qn,qR,zA,zB,zC])
  refine qw (qcd w6.heap.size 47) zA0 zA0 (fun W hW _=>?_) (fun (p10:Nat)=>?_)
  ·have hr:∀ o,(qbv w6.heap.size).r W (W.alloc o):=fun o=>qbw (zN _ _) hW.1.size;unfold QC;go_simp;exact⟨W.heap.size,rfl,⟨hW.1.size,_,zI _ _ _ rfl⟩,hr _⟩
  simp only[Act.put,ql,qf,qc,qg,ZS,ZT,Qn,qR,zA,zB,zC];repeat ((first|(refine qd ?_ zA0 zA0 (fun W hW _=>⟨W,?_,Rel.refl _ W⟩) ?_;rotate_left;(go_simp<;>with_reducible rfl))|(refine qh zA0 ?_));try simp only[Act.put,ql,qf,qc,qg,ZS,ZT,Qn,qR,zA,zB,zC])
  refine qt (hK _ _ fun W hW hF=>?_);obtain⟨us,ho⟩:∃ us,W.ownsRow w6.heap.size 68 5 (.slice Ad 0 cd) 0 us:=(hF 9).1;obtain⟨hl10,v10,f10⟩:w6.heap.size<=p10/\∃ v,W.heap[p10]?=some (.cells #[v] 47 (0,0)):=(hF 10).1;clear hF hK g12 HCl HDl;have x6W:Below w.heap.size w W:=Below.trans x6 (Below.mono hW.1 x6.size);have rbW:∀ q,q<w6.heap.size->W.heap[q]?=w6.heap[q]?:=fun q hq=>Below.block hW.1 q hq;have zW:=hW.1.size;refine zC3 ?_;have k10:=qa f10;have h10:=qe f10;have z10:=(zG.1 f10).1;go_wp2;refine Qm ?_;generalize gu:World.setCell W _ _=w7;have rL7:w7.heap[p10]?=some (.cells #[.slice Ad 0 cd] 47 (0,0)):=by rw[<-gu];exact qi f10 0 _
  have rq:∀ q',q'<w6.heap.size->w7.heap[q']?=w6.heap[q']?:=fun q' oU=>by rw[<-gu];exact(zJ _ _ _ _ zA2).trans (rbW q' oU)
  have x7:Ext w w7:=by rw[<-gu];exact Below.setCell x6W (by have:=x6.size;simp;omega) _
  have z67:w6.heap.size<=w7.heap.size:=by rw[<-gu];simpa using zW
  have yP:=af.trans dW;have eG:cd<=maxLen:=by obtain⟨A,c,e,h1,h2⟩:=qy ho;cases e;exact h2
  have z46:=yP.size;have z4:w.heap.size+4<w4.heap.size:=(zG.1 re4).1;have z45:w4.heap.size<w5.heap.size:=(zG.1 rl5).1;have ra7:=(rq _ zO).trans (qb ra4 yP);have rc7:=(rq _ zO).trans (qb sD yP);have rd7:=(rq _ zO).trans (qb xJ yP);have re7:=(rq _ zO).trans (qb re4 yP);have rl7:=(rq _ zO).trans (qb rl5 dW);clear gu rbW x6W f10 k10 h10 z10 ho ra4 sD xJ re4 rl5 kl5 ka4 q0 q1 q2 q3 hq rf6 oV one1 hbv yP af dW x5 x4 x3;go_upto_region 8 with fail;generalize yY:World.alloc w7 _=w8;have oH:Ext w7 w8:=by rw[<-yY];exact zN _ _
  have x8:Ext w w8:=x7.trans oH;have rh8:w8.heap[w7.heap.size]?=some (.cells #[.int .i64 0] 3 (0,0)):=by rw[<-yY];exact zI _ _ _ rfl
  have ra8:=qb ra7 oH;have rc8:=qb rc7 oH;have rd8:=qb rd7 oH;have re8:=qb re7 oH;have rl8:=qb rl7 oH;have ze8:w.heap.size+4<w8.heap.size:=(zG.1 re8).1;have rL8:=qb rL7 oH;have ka8:=qa ra8;clear yY ra7 rc7 rd7 re7 rl7 rL7 x7;go_wp2_with fail;refine(HO.out w8 x8).mono ?_;clear HO;rintro e w9 ⟨u,rfl,⟨b,A3',c3',rfl,aP,aC,aB⟩,hB⟩;have x89:Ext w8 w9:=hB;have x9:Ext w w9:=x8.trans x89;obtain⟨g,iJ⟩:=Bch.of_on (B:=w.heap.size) x8.size hS.out (aH.out.below x9) aP aC aB;have rc9:=qb rc8 hB;have rd9:=qb rd8 hB;have re9:=qb re8 hB;have rl9:=qb rl8 hB;have rL9:=qb rL8 hB;have rh9:=qb rh8 hB;replace iJ:=zH iJ;clear hB rc8 rd8 re8 rl8 rL8 rh8 ra8 ka8 aC aB;go_wp2_with fail;generalize hLB:World.alloc w9 _=w10;have xA:Ext w9 w10:=by rw[<-hLB];exact zN _ _
  have rt10:w10.heap[w9.heap.size]?=some (.cells #[.pointer (some ⟨b,0,none⟩)] 80 (0,0)):=by rw[<-hLB];exact zI _ _ _ rfl
  have kl10:=qa (qb rl9 xA);clear hLB;refine wp_label ?_;go_wp2_with fail;refine(qao (some ⟨q,0,none⟩) 0 cq w10).mono ?_;rintro e wB ⟨rfl,rfl⟩;go_wp2_with fail;generalize fE:World.alloc w10 _=gz;have xB:Ext w10 gz:=by rw[<-fE];exact zN _ _
  have s11:w10.heap.size<gz.heap.size:=by rw[<-fE];simp
  have rS11:gz.heap[w10.heap.size]?=some (.cells #[.slice (some ⟨q,0,none⟩) 0 cq] 168 (0,0)):=by rw[<-fE];exact zI _ _ _ rfl
  clear fE;have hMD:=xA.trans xB;have x11:Ext w gz:=x9.trans hMD;have hSW:SWd gz w10.heap.size 0 (.slice (some ⟨q,0,none⟩) 0 cq) []:=⟨by rw[qa rS11];rfl,.inl ⟨rfl,_,_,rfl⟩⟩
  generalize fU:({ tmps:=_,defers:=_ }:Act)=act;refine(wpIn_wide (n:=3)).1 ?_;refine wpIn_rangeFunc_ownH rfl zO (gf:=154) (lb:=#[.pointer (some ⟨w10.heap.size,0,none⟩)]) (by rw[<-fU];rfl) trivial (enters_of func154 zQ rfl)
   (qcT (3-1) zO w10.heap.size 0 _ [] zA3 gz s11 zO hSW) Qi.t (Qi.b s11 zO) (Below.refl _ _) (fun _=>rfl)
   (fun _ W'=>Below gz.heap.size gz W') (fun _ _ _=>False)
   (ownFrom_below (zM _) (zM _))
   (fun c=>fun _ _ _ _ h=>h.elim)
   (Below.refl _ _)
   (fun _ _ _=>True)
   (fun _ _ _ _ _ _ _ _ _=>trivial) ?assign ?body ?done ?stop
  case body=>rintro l' pre j a' W' hll hl hi _ hlt;simp at hlt
  case stop=>rintro D cc pre W hD _ h;exact h.elim
  case assign =>
   rintro l' pre j W' K i4 hK;subst fU;have z4:=i4.size
   gi_wp2
   exact hK _ _ ((KeepsOthers.alloc _ _).from _) ⟨zK _ _ _ zO,zK _ _ _ zO⟩ (Below.alloc i4 z4 _) trivial
  case done =>
   rintro D ys W hD yZ hIV hK;subst fU;have x9W:Ext w9 W:=hMD.trans hIV;have xW:Ext w W:=x9.trans x9W;have rcW:=qb rc9 x9W;have rdW:=qb rd9 x9W;have reW:=qb re9 x9W;have rLW:=qb rL9 x9W;have rhW:=qb rh9 x9W;have rlW:=qb rl9 x9W;have rtW:=qb rt10 (xB.trans hIV);have hbW:=iJ.out.ext x9W;have zW9:=x9W.size;have z89:=x89.size;have z11:w9.heap.size<=gz.heap.size:=hMD.size;have zD:=(zG.1 hK).1;have ze9:w.heap.size+4<w9.heap.size:=(zG.1 re9).1;have hX:JZ (B3 b g none) W (.slice Ad 0 cd) []:=fun C hC=>⟨[],rfl,⟨Ad,cd,rfl,Nat.zero_le _,eG,⟨rfl,fun h=>absurd h zA1⟩⟩,fun p hp=>by cases hp⟩
   have HS:=zH (qbO _ w.heap.size _ b g none S 0 Ad 0 cd [] (fun _ h=>by cases h) (qQ hS.out).2.1 W hbW hX hm.out);have kL:=qa rLW;have kh:=qa rhW;have kl:=qa rlW;have kt:=qa rtW;have nB:∀ {q cs ty fr},W.heap[q]?=some (.cells cs ty fr)->ty≠191->ty≠5->ty≠130->¬B3 b g none q:=fun hr h1 h2 h3=>hbW.notB3 hr h1 h2 h3;have hbWH:=zH hbW;clear hX kl10 rc9 rd9 re9 rL9 rh9 rl9 rt10 hIV x11 xA xB x89 oH iJ;go_wp2_with fail;refine HS.out.mono ?_;clear HS;rintro e V1 ⟨bQ,hq⟩;rw[hm.out] at hq;obtain⟨rfl,k',D',yQ,hND,bD⟩:=hq;have rcV:=bQ.row rcW (nB rcW zA1 zA1 zA1);have rdV:=bQ.row rdW (nB rdW zA1 zA1 zA1);have reV:=bQ.row reW (nB reW zA1 zA1 zA1);have rtV:=bQ.row rtW (nB rtW zA1 zA1 zA1);have KV:=(hbWH.out.others bQ).same D _ hK rfl;have xV:Ext w V1:=Below.trans xW (Below.mono bQ.below x8.size);have zV1:=bQ.below.size;have kdV:=qa rdV;have keV:=qa reV;have fdV:=qe rdV;have feV:=qe reV;replace bD:=zH bD;clear nB bQ yQ hND rcW rdW reW rLW rhW rlW rtW kL kh kl kt hbW hbWH hK xW x9W;go_upto_region 24 with fail;generalize aA:World.setCell (World.setCell V1 _ _) _ _=V2;obtain⟨t1,t2,t3,t4,t5,t6⟩:=Vl (C:=V2) rdV reV zO aA.symm;clear aA kdV keV fdV feV;obtain⟨hS1,hf8,hQF,-⟩:=vB (fun _ h=>by cases h) hS.out hm.out;have zb1:=(zG.1 rtV).1;have bI:=bD.out.kept (t6 zO zO (Below.refl _ _)) fun q h _=>t3 q zO zO;have HL:=zH (qdm D' w.heap.size _ b g k' S1 hS1 f hf8 hQF [] hf.out V2 bI);have xV2:Ext w V2:=t6 zO zO xV;have rcV2:=(t3 (w.heap.size+2) zO zO).trans rcV;have hMA:=(t3 w9.heap.size zO zO).trans rtV;have KV2:=t5.same D _ KV rfl;have kd:=qa t1;have ke:=qa t2;have kt:=qa hMA;replace bI:=zH bI;clear bD rcV rdV reV rtV KV xV t3 t5 t6;go_wp2_with fail;refine HL.out.mono ?_;clear HL;rintro e V3 ⟨rfl,hB⟩;have dJ:Ext V2 V3:=hB;have xV3:Ext w V3:=xV2.trans dJ;have lh:=qb rcV2 hB;have nC:=qb t1 hB;have yg:=qb t2 hB;have rt3:=qb hMA hB;have K3:=(Below.block dJ D (zG.1 KV2).1).trans KV2;have dF:=zH (bI.out.ext dJ);have kd3:=qa nC;have ke3:=qa yg;have fd3:=qe nC;have fe3:=qe yg;clear hB kd ke kt rcV2 hMA t1 t2 t4 KV2 bI xV2 dJ;go_upto_region 27 with fail;generalize aA:World.setCell (World.setCell V3 _ _) _ _=V4;obtain⟨t1,t2,t3,t4,t5,t6⟩:=Vl (C:=V4) nC yg zO aA.symm;clear aA kd3 ke3 fd3 fe3;have zb3:=(zG.1 rt3).1;have iI:=dF.out.kept (t6 zO zO (Below.refl _ _)) fun q h _=>t3 q zO zO;have HL:=zH (UX D' w.heap.size _ b g k' S1 hS1 a ha bK V4 iI);have xV4:Ext w V4:=t6 zO zO xV3;have sD:=(t3 (w.heap.size+2) zO zO).trans lh;have rt4:=(t3 w9.heap.size zO zO).trans rt3;have K4:=t5.same D _ K3 rfl;have kd:=qa t1;have ke:=qa t2;have kt:=qa rt4;replace iI:=zH iI;clear dF lh nC yg rt3 K3 xV3 t3 t5 t6;go_wp2_with fail;refine HL.out.mono ?_;clear HL;rintro e w10 ⟨bQ,hq⟩;rw[ht.out] at hq;obtain⟨rfl,dU⟩:=hq;have nB:∀ {q cs ty fr},V4.heap[q]?=some (.cells cs ty fr)->ty≠191->ty≠5->ty≠130->¬B3 b g k' q:=fun hr h1 h2 h3=>iI.out.notB3 hr h1 h2 h3;have iT:=bQ.row sD (nB sD zA1 zA1 zA1);have iU:=bQ.row t1 (nB t1 zA1 zA1 zA1);have dh:=bQ.row t2 (nB t2 zA1 zA1 zA1);have uF:=bQ.row rt4 (nB rt4 zA1 zA1 zA1);have pK:=(iI.out.others bQ).same D _ K4 rfl;have dS:Below w.heap.size w w10:=Below.trans xV4 (Below.mono bQ.below x8.size);have z410:=bQ.below.size;have iy:Xs (qu S1 t):=za (Yo hS1 (kO ha (qZ.1 hS1).2.1 ht.out));replace dS:=zH dS;clear nB bQ iI sD t1 t2 rt4 K4 kd ke kt xV4;go_upto_region 32 with fail;have zz:w.heap.size+4<D:=zO;have ng:w.heap.size+2<w10.heap.size:=zO;have hHS:=zH (fun W (h:(jR (w.heap.size+2) 28 (QW w10.heap.size (qu S1 t)) (QW.keep ng)).r w10 W)=>by have h1:=dU.kept (vn h (B0:=w.heap.size) zO zO) (fun q h1 h2=>Kg h h2 zO);obtain⟨A1,n1,c1,A2,n2,c2,c3,A4,c4,hr,hs⟩:=h1.sto;exact vH b A1 n1 c1 A2 n2 c2 _ _ c3 A4 _ c4 (qu S1 t) iy W hr hs);obtain⟨RR,ak⟩:∃ RR:Rel,RR=jR (w.heap.size+2) 28 (QW w10.heap.size (qu S1 t)) (QW.keep ng):=⟨_,rfl⟩
   replace ak:=zH ak;obtain⟨SF,hSF⟩:∃ SF,qu S1 t=SF:=⟨_,rfl⟩
   rw[hSF] at dU iy hHS ak;replace hSF:=zH hSF;have gT:∀ W,RR.r w10 W->∀ i,W.cell? ⟨w9.heap.size,i,none⟩=#[.pointer (some ⟨b,0,none⟩)][i]?:=fun W h=>qa (Zx (ak.out ▸ h) zO uF);have gI:∀ W,RR.r w10 W->∀ i,W.cell? ⟨w.heap.size+1+1+1,i,none⟩=#[.int .i64 (f:Int)][i]?:=fun W h=>qa (Zx (ak.out ▸ h) zO iU);refine qm zQ ?_;refine qL (w:=w10) RR (qD [(1,qbk w10.heap.size SF),(3,Vg (w.heap.size+2) 28 (QW w10.heap.size SF))]) (List.replicate 4 true) 2 zQ zQ zQ zQ zQ zQ zQ ?st (Rel.drew _ _) ?walk
   case st=>rw[ak.out];exact qj (by simp only[List.forall_mem_cons];exact⟨YK ng,KT,fun _ h=>by cases h⟩)
   case walk =>
    intro K hK;dsimp only[qp,List.replicate];repeat ((first|(refine qd ?_ zA0 zA0 (fun W hW _=>⟨W,?_,Rel.refl _ W⟩) ?_;rotate_left;(go_simp<;>with_reducible rfl))|(refine qh zA0 ?_));try simp only[Act.put,ql,qf,qc,qg,ZS,ZT,Qn,qR,zA,zB,zC])
    refine qw (qbk w10.heap.size SF) zA0 zA0 (fun W hW _=>?_) (fun p=>?_)
    ·rw[ak.out] at hW ⊢;refine Qb ?_ ((hHS.out W hW).mono fun e w' h=>?_)
     ·go_simp
     obtain⟨v,rfl,hT,hB⟩:=h;obtain⟨BB,WW,gg,A3',c3',A4',eP,rfl,-⟩:=id hT;exact⟨((BB,WW),(A3',c3'),(A4',eP)),rfl,QF.keep hT hW.1.size (zM _) (fun _ _ _=>rfl),GU hB⟩
    obtain⟨⟨BB,WW⟩,⟨A3',c3'⟩,⟨A4',eP⟩⟩:=p;simp only[Act.put,ql,qf,qc,qg,ZS,ZT,Qn,qR,zA,zB,zC];repeat ((first|(refine qd ?_ zA0 zA0 (fun W hW _=>⟨W,?_,Rel.refl _ W⟩) ?_;rotate_left;(go_simp<;>with_reducible rfl))|(refine qh zA0 ?_));try simp only[Act.put,ql,qf,qc,qg,ZS,ZT,Qn,qR,zA,zB,zC])
    refine qw (Vg (w.heap.size+2) 28 (QW w10.heap.size SF)) zA0 zA0 (fun W hW hp=>?_) (fun (p:Unit)=>?_)
    ·have hT:QF w10.heap.size SF (Qd (some ⟨BB,0,none⟩) SF.bs.length SF.bs.length (some ⟨WW,0,none⟩) SF.ws.length (SF.ws.length+1) A3' SF.now.length c3' A4' SF.last.length eP) W:=(hp 1 zA1).1;rw[ak.out] at hW ⊢;have hr0:=qes ng hW iT;obtain⟨u0,u1,u2,u3,q8⟩:=id hr0;have k8:=qa q8;have f8:=qe q8;have z8:=(zG.1 q8).1;refine TY ng hr0 hT ?_;clear hT hr0;go_simp
    simp only[Act.put,ql,qf,qc,qg,ZS,ZT,Qn,qR,zA,zB,zC];repeat ((first|(refine qd ?_ zA0 zA0 (fun W hW _=>⟨W,?_,Rel.refl _ W⟩) ?_;rotate_left;(go_simp<;>with_reducible rfl))|(refine qh zA0 ?_));try simp only[Act.put,ql,qf,qc,qg,ZS,ZT,Qn,qR,zA,zB,zC])
    refine qt (hK _ _ fun V hV hF=>?_);have hRT:∃ cs,V.heap[w.heap.size+2]?=some (.cells cs 28 (0,0))/\QW w10.heap.size SF cs V:=(hF 3).1;clear hF hK gT gI hHS;rw[ak.out] at hV;obtain⟨cs,q2,x0,x1,x2,x3,rfl,hTw⟩:=hRT;have q3:=Zx hV (show w.heap.size+3≠w.heap.size+2 by omega) iU;have q4:=Zx hV (show w.heap.size+4≠w.heap.size+2 by omega) dh;have qK:=Zx hV (show D≠w.heap.size+2 by omega) pK;have xV:=vn hV (B0:=w.heap.size) zO zO;have zV:=hV.1.size;have kd:=qa q3;have ke:=qa q4;have fd:=qe q3;have fe:=qe q4;have zd:w.heap.size+1+1+1<V.heap.size:=zO;have ze:w.heap.size+1+1+1+1<V.heap.size:=zO;replace hTw:=zH hTw;clear hV ak;refine zC3 ?_;go_wp2;refine Qm ?_;go_wp2_with fail;generalize aZ:World.setCell (World.setCell V _ _) _ _=wf;obtain⟨t1,t2,t3,t4,t5,t6⟩:=Vl (C:=wf) q3 q4 zO aZ.symm;clear aZ;have qKf:=t5.same D _ qK rfl;refine del_retD rfl rfl rfl rfl qKf zz ((t3 _ zO zO).trans q2) t1 t2 ⟨_,rfl,?_,(t6 zO zO (Below.trans dS.out xV)).trans (belowK_b (w:=w) (zM _) _ D _ _ zO qKf rfl rfl)⟩;rw[hSF.out];refine⟨_,rfl,QF.keep hTw.out zO (by simp[World.putObj,t4]) fun k h1 h2=>?_⟩;exact(World.putObj_heap_other (by have:=(zG.1 pK).1;omega)).trans (t3 k zO zO)
end Go.Proofs.YtpbniokljofedaaGreat
namespace Go.Proofs.YtpbniokljofedaaGreat
open Go.RowKit
def qeF (S:Sto) (root next:Int) (dead:List Int) (vs:List Vol):Prop:=∃ refs nodes,zY S root next dead vs/\Qr S (zF root dead vs) refs nodes/\Zu S refs
def zv (S:Sto) (root next:Int) (dead:List Int):Prop:=∀ vs,zY S root next dead vs->∃ refs nodes,Qr S (zF root dead vs) refs nodes/\¬Zu S refs
set_option maxRecDepth 100000 in
theorem qhN (v:Vol) (bi:Nat) (id:Int) (q1 q2 q3:Value) (w:World) (h:w.heap[bi]?=some (.cells #[.int .u32 id,q1,q2,q3] 40 (0,0))):Calls prog 96 #[VC v,.pointer (some ⟨bi,0,none⟩)] w (Ret (.bool (decide (v.id=id))) w):=by
 have ki:=qa h;have zi:bi<w.heap.size:=(zG.1 h).1;clear h;go_enter func96,ntmps96;by_cases he:v.id=id
 ·have h1:(v.id == id)=true:=by rw[beq_iff_eq];exact he
  rw[decide_eq_true he];replace he:=zH he;go_wp2;go_ret;exact⟨rfl,zN _ _⟩
 ·have h1:(v.id == id)=false:=by rw[beq_eq_false_iff_ne];exact he
  rw[decide_eq_false he];replace he:=zH he;go_wp2;go_ret;exact⟨rfl,zN _ _⟩
set_option maxRecDepth 100000 in
theorem qfS (A:Option Addr) (c:Nat) (vs:List Vol) (hl:vs.length<=16) (bi:Nat) (id:Int) (q1 q2 q3:Value) (w:World) (h:w.heap[bi]?=some (.cells #[.int .u32 id,q1,q2,q3] 40 (0,0))) (hr:Rd w w.heap.size 4 A vs.length (ZB vs)):Calls prog 46 #[.slice A vs.length c,.func (.func 96) #[] #[.pointer (some ⟨bi,0,none⟩)]] w (QV (fun u _=>VolIx vs id u) w):=by
 replace hr:=zH hr;go_enter func46,ntmps46;go_wp2_with fail;go_loopw [8] (fun i wr=>∃ k:Nat,k<=vs.length/\i=.int .i64 (k:Int)/\Ext w wr/\∀ j (hj:j<vs.length),j<k->vs[j].id≠id) (fun i _=>vs.length-(intOf i).toNat)
 case atStart=>exact⟨0,Nat.zero_le _,rfl,Ext.refl _,fun j _ hj=>absurd hj (Nat.not_lt_zero _)⟩
 case round =>
  obtain⟨k,hk,rfl,xr,bT⟩:=hrel;replace bT:=zH bT;by_cases hlt:k<vs.length
  ·obtain⟨bv,uD,rfl,hbv,aS⟩:=hr.out.2 zO;obtain⟨d0,d1,d2,d3⟩:=Yi vs k hlt;replace d0:=Ext.cell xr (aS _ _ d0);replace d1:=Ext.cell xr (aS _ _ d1);replace d2:=Ext.cell xr (aS _ _ d2);replace d3:=Ext.cell xr (aS _ _ d3);have HAT:=zH (fun he=>qeu (id:=id) hlt he fun i hi hik=>bT.out i hi hik);have HNO:=zH (fun (he:vs[k].id≠id) j (hj:j<vs.length) (hjk:j<k+1)=>by
    rcases Nat.lt_or_ge j k with h1|h1
    ·exact bT.out j hj h1
    ·obtain rfl:j=k:=zO;exact he)
   generalize vs[k]=u at *;rw[<-Nat.add_assoc] at d1 d2 d3;clear aS;have iQ:=zH (IntWalk.wrap64_in ((k:Int)+1) zO);have hV:=qhN u bi id q1 q2 q3 wr (qb h xr);go_wp2_with fail;refine hV.mono ?_;rintro e w2 ⟨rfl,hB⟩;clear d0 d1 d2 d3 hV;by_cases he:u.id=id
   ·rw[decide_eq_true he];have HQ:=zH (HAT.out he);clear HAT HNO;replace he:=zH he;go_wp2_with fail;refine bodyPost_ret (v:=.int .i64 (k:Int)) ?_ rfl ⟨_,rfl,HQ.out,Ext.trans xr hB⟩;simp[results,results46,go_sem]
   ·rw[decide_eq_false he];have HQ:=zH (HNO.out he);clear HAT HNO;replace he:=zH he;have aA:=iQ.out;go_wp2_with fail;refine⟨⟨k+1,hlt,rfl,Ext.trans xr hB,fun j hj hjk=>HQ.out j hj hjk⟩,?_⟩;simp[intOf];omega
  ·obtain rfl:k=vs.length:=zO;have HQ:=zH (qae (id:=id) fun i hi=>bT.out i hi hi);go_wp2_with fail;refine bodyPost_ret (v:=.int .i64 (-1)) ?_ rfl ⟨_,rfl,HQ.out,xr⟩;simp[results,results46,go_sem]
set_option maxRecDepth 100000 in
theorem vhas_any (A:Option Addr) (c:Nat) (vs:List Vol) (hl:vs.length<=16) (bi:Nat) (id:Int) (q1 q2 q3:Value) (w:World) (h:w.heap[bi]?=some (.cells #[.int .u32 id,q1,q2,q3] 40 (0,0))) (hr:Rd w w.heap.size 4 A vs.length (ZB vs)):Calls prog 95 #[.slice A vs.length c,.func (.func 96) #[] #[.pointer (some ⟨bi,0,none⟩)]] w (Ret (.bool (JY vs id).isSome) w):=by
 have HV:=zH (qfS A c vs hl bi id q1 q2 q3 w h hr);clear h hr;go_enter func95,ntmps95;go_wp2_with fail;refine HV.out.mono ?_;clear HV;rintro e w2 ⟨u,rfl,hu,hB⟩;rcases hu with ⟨j,hj,rfl,hv⟩|⟨rfl,hv⟩
 ·have e1:decide ((j:Int)≥0)=true:=decide_eq_true zO;replace hv:=zH hv;go_wp2;go_ret;exact⟨by rw[hv.out];rfl,hB⟩
 ·replace hv:=zH hv;go_wp2;go_ret;exact⟨by rw[hv.out];rfl,hB⟩
def ZJ (S:Sto) (next:Int) (v:Vol) (vs:List Vol) (refs:Nat->Nat):Int:=if v.id=0\/next<=v.id\/v.root<8\/256<=v.root then 2 else if (JY vs v.id).isSome=false/\16<=vs.length then 9 else
 if ZE S v.root.toNat<=refs v.root.toNat then 6 else if okL S (-1) v.root=true then 0 else 8
def FAskQ (S:Sto) (root next:Int) (dead:List Int) (v:Vol) (w:World) (e:Ending) (w':World):Prop:=Below w.heap.size w w' /\
 ((e=.returned (.int .i64 8)/\zv S root next dead) \/
  ∃ vs refs nodes,zY S root next dead vs/\Qr S (zF root dead vs) refs nodes/\Zu S refs/\e=.returned (.int .i64 (ZJ S next v vs refs)))
theorem JE {R:Ending->World->Prop} {a:Act} {W:World} {u:Value} (h4:a.tmps[4]?.getD undef=u) (hd:a.defers=[]) (hR:R (.returned u) W):bodyPost prog Tryz.f53 R .ret a W:=by refine bodyPost_ret (v:=u) ?_ hd hR;simp[results,results53,go_sem,h4]
theorem vols_len {S:Sto} {root next:Int} {dead:List Int} {vs:List Vol} (h:zY S root next dead vs):vs.length<=16:=by
 have hv:=h.vols;unfold TK at hv;split at hv
 ·cases hv
 ·exact vV _ _ _ _ zA3 hv
set_option maxRecDepth 100000 in
theorem qeW (A1:Option Addr) (n1 c1:Nat) (A2:Option Addr) (n2 c2:Nat) (A3:Option Addr) (n3 c3:Nat) (A4:Option Addr) (n4 c4:Nat) (gen root next:Int) (A5:Option Addr) (c5:Nat) (S:Sto) (dead:List Int) (v:Vol) (hT:8<=v.root->v.root<256->ZE S v.root.toNat≠0->okL S (-1) v.root=true) (w:World) (h:qU w w.heap.size (.slice A1 n1 c1) (.slice A2 n2 c2) (.slice A3 n3 c3) (.slice A4 n4 c4) S) (hd:Zk w w.heap.size (.slice A5 dead.length c5) dead):Calls prog 53 #[.agg (qB (.slice A1 n1 c1) (.slice A2 n2 c2) (.slice A3 n3 c3) (.slice A4 n4 c4) gen root next (.slice A5 dead.length c5)),VC v] w (FAskQ S root next dead v w):=by
 have HT:=zH (fun W (hx:Ext w W)=>Tg A1 n1 c1 A2 n2 c2 A3 n3 c3 A4 n4 c4 gen root next A5 c5 S dead W (h.ext hx) (hd.ext_ hx));have HC:=zH (fun (hS:qo S=true) a hT W (hx:Ext w W)=>Xf A1 n1 c1 A2 n2 c2 A3 n3 c3 A4 n4 c4 S hS a hT W (h.ext hx));replace h:=zH h;replace hT:=zH hT;clear hd;go_enter func53,ntmps53;go_wp2_with fail;generalize aA:(World.alloc (World.alloc w _) _)=w1;have x1:Ext w w1:=by rw[<-aA];exact(zN _ _).trans (zN _ _)
 have nR:w1.heap[w.heap.size]?=some (.cells (qB (.slice A1 n1 c1) (.slice A2 n2 c2) (.slice A3 n3 c3) (.slice A4 n4 c4) gen root next (.slice A5 dead.length c5)) 32 (0,0)):=by rw[<-aA];exact(zK _ _ _ zA3).trans (zI _ _ _ rfl)
 have rv1:w1.heap[w.heap.size+1]?=some (.cells #[.int .u32 v.id,.int .i64 v.root,.bool v.fz,.int .u32 v.frm] 40 (0,0)):=by rw[<-aA];exact zI _ _ _ zA3
 clear aA;refine(HT.out w1 x1).mono ?_;clear HT;rintro e w2 ⟨hB,hQ⟩;have x2:Ext w w2:=Ext.trans x1 hB;have lU:=qb nR hB;have uY:=qb rv1 hB;have kp2:=qa lU;have kv2:=qa uY;clear hB x1 nR rv1;rcases hQ with ⟨rfl,bT⟩|⟨vs,refs,nodes,cb,ca,vv,rfl,wV⟩
 ·replace bT:=zH bT;go_wp2_with fail;exact JE rfl rfl ⟨x2,.inl ⟨rfl,bT.out⟩⟩
 ·have hvs:=vols_len wV.pool;have hQ:=fun E (hh:ZJ S next v vs refs=E) W (hx:Ext w W)=>(⟨hx,.inr ⟨vs,refs,nodes,wV.pool,wV.cnt,wV.enough,by rw[hh]⟩⟩:FAskQ S root next dead v w (.returned (.int .i64 E)) W)
  replace hQ:=zH hQ;obtain⟨AV,cV,rfl,hJK,hJL⟩:=qy wV.own;have kc:w2.cell? ⟨cb,518,none⟩=some (.slice AV vs.length cV):=by rw[qa wV.row];exact wV.ar.vol
  have HH:=zH (vhas_any AV cV vs hvs (w.heap.size+1) v.id _ _ _ w2 uY (Rd.of_own wV.own));replace wV:=zH wV;by_cases h1:v.id=0
  ·have d1:(v.id == 0)=true:=by rw[beq_iff_eq];exact h1
   have hE:=zH (show ZJ S next v vs refs=2 by unfold ZJ;rw[if_pos (.inl h1)]);replace h1:=zH h1;go_wp2_with fail;exact JE rfl rfl (hQ.out _ hE.out _ x2)
  have d1:(v.id == 0)=false:=by rw[beq_eq_false_iff_ne];exact h1
  by_cases h2:next<=v.id
  ·have d3:decide (v.id≥next)=true:=decide_eq_true h2;have hE:=zH (show ZJ S next v vs refs=2 by unfold ZJ;rw[if_pos (.inr (.inl h2))]);replace h1:=zH h1;replace h2:=zH h2;go_wp2_with fail;exact JE rfl rfl (hQ.out _ hE.out _ x2)
  have d3:decide (v.id≥next)=false:=decide_eq_false h2;by_cases h3:v.root<8
  ·have d5:decide (v.root<8)=true:=decide_eq_true h3;have hE:=zH (show ZJ S next v vs refs=2 by unfold ZJ;rw[if_pos (.inr (.inr (.inl h3)))]);replace h1:=zH h1;replace h2:=zH h2;replace h3:=zH h3;go_wp2_with fail;exact JE rfl rfl (hQ.out _ hE.out _ x2)
  have d5:decide (v.root<8)=false:=decide_eq_false h3;by_cases h4:256<=v.root
  ·have d6:decide (v.root≥256)=true:=decide_eq_true h4;have hE:=zH (show ZJ S next v vs refs=2 by unfold ZJ;rw[if_pos (.inr (.inr (.inr h4)))]);replace h1:=zH h1;replace h2:=zH h2;replace h3:=zH h3;replace h4:=zH h4;go_wp2_with fail;exact JE rfl rfl (hQ.out _ hE.out _ x2)
  have d6:decide (v.root≥256)=false:=decide_eq_false h4;have d7:decide (256<=v.root)=false:=decide_eq_false h4;have hE1:=zH (show ZJ S next v vs refs=if (JY vs v.id).isSome=false/\16<=vs.length then 9 else if ZE S v.root.toNat<=refs v.root.toNat then 6 else if okL S (-1) v.root=true then 0 else 8 by unfold ZJ;rw[if_neg (by rintro (h|h|h|h);exact h1 h;exact h2 h;exact h3 h;exact h4 h)]);obtain⟨r,hr⟩:∃ r:Nat,v.root=(r:Int):=⟨v.root.toNat,zO⟩
  have tY:8<=r:=zO;have xC:r<256:=zO;have hto:v.root.toNat=r:=zO;rw[hr] at uY kv2 d5 d6 d7;rw[hto] at hE1 hT;have hT2:=zH (hT.out zO zO);clear hT h3 h4 hto;replace h1:=zH h1;replace h2:=zH h2;replace hr:=zH hr;go_wp2_with fail;refine HH.out.mono ?_;clear HH;rintro e w3 ⟨rfl,hB⟩;have x3:Ext w w3:=Ext.trans x2 hB;have gy:=qb lU hB;have rv3:=qb uY hB;have kc3:=Ext.cell hB kc;have lh:=qb wV.out.row hB;clear lU uY kp2 kv2 kc x2 hB;have hsome:Hid ((JY vs v.id).isSome=(JY vs v.id).isSome):=zH rfl;generalize (JY vs v.id).isSome=there at *;have hJY:Hid (there=false/\16<=vs.length\/¬(there=false/\16<=vs.length)):=zH (Classical.em _);rcases hJY.out with ⟨rfl,wQ⟩|wQ
  ·have e1:decide ((vs.length:Int)≥16)=true:=decide_eq_true zO;have hE:=zH (show ZJ S next v vs refs=9 by rw[hE1.out,if_pos ⟨rfl,wQ⟩]);replace wQ:=zH wQ;clear hJY;go_wp2_with fail;exact JE rfl rfl (hQ.out _ hE.out _ x3)
  have fQ:=zH (show ZJ S next v vs refs=if ZE S r<=refs r then 6 else if okL S (-1) v.root=true then 0 else 8 by rw[hE1.out,if_neg wQ]);have HB:there=true\/(there=false/\decide ((vs.length:Int)≥16)=false/\decide (16<=vs.length)=false):=by
   cases there
   ·right;have:¬16<=vs.length:=fun h=>wQ ⟨rfl,h⟩;exact⟨rfl,decide_eq_false zO,decide_eq_false this⟩
   ·exact .inl rfl
  clear hE1 hJY wQ;obtain⟨b3,o3,d3',e3,dF,aF⟩:=Gz wV.out.pool.may h.out.now;simp only[Value.slice.injEq] at e3;obtain⟨rfl,rfl,rfl⟩:=e3;have lW:=Ext.cell x3 (aF r xC);have hrf:=(qa lh (6+r)).trans (wV.out.ar.ref r xC);have hwn:=zH (IntWalk.wrap64_in (ZE S r:Int) (by have:=(S.now[r]?.getD 0).toNat_lt;unfold ZE;omega));have hwn2:=zH (show IntKind.i64.wrap (ZE S r:Int)=(ZE S r:Int) by rw[IntKind.wrap_i64];have:=(S.now[r]?.getD 0).toNat_lt;unfold ZE;omega);have HCK:=zH (fun (aN:ZE S r≠0) W (hx:Ext w W)=>by
   obtain⟨a,ha,ht⟩:=VU (hT2.out aN);obtain rfl:r=a:=by have:=hr.out;omega
   exact HC.out wV.out.pool.may r ht W hx)
  clear aF HC;generalize hnw:ZE S r=nw at *;generalize hrfe:refs r=rf at *;replace hnw:=zH hnw;replace hrfe:=zH hrfe;have gP:∀ W,qk.r w3 W->∀ i,W.cell? ⟨w.heap.size,i,none⟩=(qB (.slice A1 n1 c1) (.slice A2 n2 c2) (.slice (some ⟨b3,o3,none⟩) 256 c3) (.slice A4 n4 c4) gen root next (.slice A5 dead.length c5))[i]?:=fun W h=>qa (qb gy h);have gV:∀ W,qk.r w3 W->∀ i,W.cell? ⟨w.heap.size+1,i,none⟩=#[.int .u32 v.id,.int .i64 (r:Int),.bool v.fz,.int .u32 v.frm][i]?:=fun W h=>qa (qb rv3 h);have gN:∀ W,qk.r w3 W->W.cell? ⟨b3,o3+r,none⟩=some (.int .u8 (nw:Int)):=fun W h=>Ext.cell h lW;have gR:∀ W,qk.r w3 W->W.cell? ⟨cb,6+r,none⟩=some (.int .i64 (rf:Int)):=fun W h=>Ext.cell h hrf;clear lh;rcases HB with rfl|⟨rfl,e1,e2⟩
  all_goals
   go_upto_region 9 with fail;refine qm zQ ?_;refine qL (w:=w3) qk (qD []) (List.replicate 16 true) 0 zQ zQ zQ zQ zQ zQ zQ ?st (Rel.drew _ _) ?walk
   case st=>exact qj (fun _ h=>by cases h)
   case walk =>
    intro K hK;dsimp only[qp,List.replicate];have hw':=hwn.out;have fM:=hwn2.out;repeat ((first|(refine qd ?_ zA0 zA0 (fun W hW _=>⟨W,?_,Rel.refl _ W⟩) ?_;rotate_left;(go_simp<;>with_reducible rfl))|(refine qh zA0 ?_));try simp only[Act.put,ql,qf,qc,qg,zA,zB,zC])
    first
     |(refine qd (.pointer (some ⟨b3,o3+r,none⟩)) zA0 zA0 (fun W hW _=>⟨W,?_,Rel.refl _ W⟩) ?_
       ·go_simp;intro iD;exfalso;omega
       simp only[Act.put,qf,qc,qg,zA,zB,zC])
     |skip
    repeat ((first|(refine qd ?_ zA0 zA0 (fun W hW _=>⟨W,?_,Rel.refl _ W⟩) ?_;rotate_left;(go_simp<;>with_reducible rfl))|(refine qh zA0 ?_));try simp only[Act.put,ql,qf,qc,qg,zA,zB,zC])
    first
     |(refine qd (.pointer (some ⟨cb,6+r,none⟩)) zA0 zA0 (fun W hW _=>⟨W,?_,Rel.refl _ W⟩) ?_
       ·go_simp;intro iD;exfalso;omega
       simp only[Act.put,qf,qc,qg,zA,zB,zC])
     |skip
    repeat ((first|(refine qd ?_ zA0 zA0 (fun W hW _=>⟨W,?_,Rel.refl _ W⟩) ?_;rotate_left;(go_simp<;>with_reducible rfl))|(refine qh zA0 ?_));try simp only[Act.put,ql,qf,qc,qg,zA,zB,zC])
    refine qt (hK _ _ fun V hV hF=>?_);clear hF hK gP gV gN gR;have hV:Ext w3 V:=hV;refine zC3 ?_;have x4:=x3.trans hV;have kp4:=qa (qb gy hV);have kv4:=qa (qb rv3 hV);clear gy rv3 hw';clear fM;go_wp2;refine Qm ?_;by_cases hle:nw<=rf
    ·have f1:decide ((nw:Int)<=(rf:Int))=true:=decide_eq_true zO;have hE:=zH (show ZJ S next v vs refs=6 by rw[fQ.out,if_pos hle]);replace hle:=zH hle;go_wp2_with fail;exact JE rfl rfl (hQ.out _ hE.out _ x4)
    ·have f1:decide ((nw:Int)<=(rf:Int))=false:=decide_eq_false zO;have hE:=zH (show ZJ S next v vs refs=0 by rw[fQ.out,if_neg hle,if_pos (hT2.out zO)]);have HC4:=zH (HCK.out zO V x4);replace hle:=zH hle;clear HCK;go_wp2_with fail;refine HC4.out.mono ?_;clear HC4;rintro e w5 ⟨u,rfl,⟨m,rfl⟩,hB⟩;go_wp2_with fail;exact JE rfl rfl (hQ.out _ hE.out _ (x4.trans hB))
def UpOk (y:It):Prop:=jq y/\(y.r=0\/8<=y.r)/\y.r<256
theorem replL_ok {ys up:List It} {p m:Nat} (h1:∀ y∈ys,jq y) (h2:∀ y∈up,jq y):∀ y∈Ko ys p m up,jq y:=fun y hy=>by
 unfold Ko at hy;rcases List.mem_append.1 hy with hy|hy
 ·rcases List.mem_append.1 hy with hy|hy
  ·exact h1 y (List.mem_of_mem_take hy)
  ·exact h2 y hy
 ·exact h1 y (List.mem_of_mem_drop hy)
theorem qbb {k:K3}:∀ {ps:List Stp} {up up':List It} {S S':Sto},(∀ s∈ps,qcH k s)->(∀ y∈up,UpOk y)->qo S=true->ju k ps up S=.ok (up',S')->qo S'=true/\(∀ y∈up',UpOk y)/\(ps≠[]->0<up'.length/\up'.length<=2/\∀ y∈up',8<=y.r/\y.val=[])
 | [],up,up',S,S',_,hu,hS,e=>by cases e;exact⟨hS,hu,fun h=>absurd rfl h⟩
 |(lvl,xs,p) :: ps,up,up',S,S',hw,hu,hS,e=>by
  have hw0:=hw _ List.mem_cons_self;simp only[ju] at e;split at e
  ·cases e
  ·rename_i up1 S1 e1;obtain⟨h1,h2,h3⟩:=kE (replL_ok (fun y hy=>(hw0.its y hy).1) fun y hy=>(hu y hy).1) (fun y hy=>(hu y hy).2) hS e1;have hu1:∀ y∈up1,UpOk y:=fun y hy=>⟨(h3 y hy).1,.inr (h3 y hy).2.1.1,(h3 y hy).2.1.2⟩
   obtain⟨g1,g2,g3⟩:=qbb (fun s hs=>hw s (List.mem_cons_of_mem _ hs)) hu1 h1 e;refine⟨g1,g2,fun _=>?_⟩;by_cases hp:ps=[]
   ·subst hp;cases e;exact⟨h2.1,h2.2,fun y hy=>⟨(h3 y hy).2.1.1,(h3 y hy).2.2⟩⟩
   ·exact g3 hp
theorem askP_up {S:Sto} {x:It} (hx:jq x) (h:Tp S x=0):UpOk x:=by
 unfold Tp at h;split at h
 ·rename_i h1;unfold itB at h1;simp only[decide_eq_true_eq] at h1;have:=hx.2.2.2.1;exact⟨hx,zO,zO⟩
 ·cases h
theorem preX_may {S S2:Sto} {lvl a:Nat} {xs up:List It} {x:It} (hS:qo S=true) (hn:qv S a=some ((lvl:Int),xs)) (aU:(Qg S lvl xs).isSome=true) (hx:UpOk x) (e:TC S lvl xs x=.ok (up,S2)):qo S2=true/\0<up.length/\∀ y∈up,UpOk y/\8<=y.r:=by
 have yM:=qcw (k:=qE x) lvl (Qc hn).1 aU;unfold TC at e;split at e
 ·cases e
 ·split at e
  ·cases e
  ·rename_i up1 S1 e1;obtain⟨h1,h2,h3⟩:=qbb (fun s hs=>qfV lvl hn aU s (List.mem_reverse.1 hs)) (fun y hy=>by rw[List.mem_singleton.1 hy];exact hx) hS e1;obtain⟨h4,h5,h6⟩:=h3 (fun e=>by have:=congrArg List.length e;simp[yM] at this);split at e
   ·obtain⟨k1,k2,k3⟩:=kE (fun y hy=>(h2 y hy).1) (fun y hy=>(h2 y hy).2) h1 e;exact⟨k1,k2.1,fun y hy=>⟨⟨(k3 y hy).1,.inr (k3 y hy).2.1.1,(k3 y hy).2.1.2⟩,(k3 y hy).2.1.1⟩⟩
   ·cases e;exact⟨h1,h4,fun y hy=>⟨h2 y hy,(h6 y hy).1⟩⟩
theorem putY_may {S S':Sto} {lvl a r:Nat} {xs:List It} {x:It} (hS:qo S=true) (ha:8<=a) (hn:qv S a=some ((lvl:Int),xs)) (aU:(Qg S lvl xs).isSome=true) (hx:jq x) (e:TD S lvl xs a x=.ok (r,S')):qo S'=true/\8<=r/\r<256:=by
 unfold TD at e;split at e
 ·rename_i h0;rw[qco] at e;split at e
  ·cases e
  ·rename_i up S2 e2;obtain⟨h1,h2,h3⟩:=preX_may hS hn aU (askP_up hx h0) e2;split at e
   ·cases e
   ·rename_i t ht;simp only[Except.ok.injEq,Prod.mk.injEq] at e;obtain⟨rfl,rfl⟩:=e;obtain⟨y,ys,rfl⟩:∃ y ys,up=y :: ys:=by
     cases up with
     |nil=>simp at h2
     |cons y ys=>exact⟨y,ys,rfl⟩
    obtain⟨h4,h5⟩:=h3 y List.mem_cons_self;have h6:=h4.2.2;exact⟨Yo h1 (kO ha (qZ.1 h1).2.1 ht),by simp only[Ke];omega,by simp only[Ke];omega⟩
 ·cases e
theorem qba {k:K3}:∀ {ps:List Stp} {up:List It} {S:Sto} {e:Int},ju k ps up S=.error e->e≠0
 | [],up,S,e,h=>by cases h
 |(lvl,xs,p) :: ps,up,S,e,h=>by
  simp only[ju] at h;split at h
  ·rename_i e1 h1;cases h;exact kD h1
  ·exact qba h
theorem preX_err {S:Sto} {lvl:Nat} {xs:List It} {x:It} {e:Int} (h:TC S lvl xs x=.error e):e≠0:=by
 unfold TC at h;split at h
 ·cases h;decide
 ·split at h
  ·rename_i e1 h1;cases h;exact qba h1
  ·split at h
   ·exact kD h
   ·cases h
theorem putY_err {S:Sto} {lvl a:Nat} {xs:List It} {x:It} {e:Int} (h:TD S lvl xs a x=.error e):e≠0:=by
 unfold TD at h;split at h
 ·rw[qco] at h;split at h
  ·rename_i e1 h1;cases h;exact preX_err h1
  ·split at h
   ·cases h;decide
   ·cases h
 ·rename_i h0;cases h;exact h0
end Go.Proofs.YtpbniokljofedaaGreat
