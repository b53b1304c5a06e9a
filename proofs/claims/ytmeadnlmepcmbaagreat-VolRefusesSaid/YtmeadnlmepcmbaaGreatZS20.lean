/- Lemmas of the proof. -/
import Derived.Test.YtmeadnlmepcmbaaGreatZS19
set_option linter.all false
set_option maxHeartbeats 8000000
open Go.Proofs.Tryz
open Go.Value renaming slice→s,pointer→O,int→U,tuple→Y
open Go.World renaming setCell→E,alloc→Jx
open Option renaming some→F,none→J
open Go.Obj renaming cells→I
open Bool renaming true→M
open Go.Ending renaming returned→Q
open Go renaming World→Z
namespace Go.Proofs.YtmeadnlmepcmbaaGreat
open Go.RowKit
variable {S S':Sto}{a lo lo' B h n f:Nat}{R:Ending->World->Prop}{W w w' W' C:World}{x0 x1 x2 x3 u x4 x5 x6 x7 v5:Value}{gen root next er lvl:Int}{dead:List Int}{v:Vol}{e:Ending}{ty:TypeId}{X:Nat->Prop}{o:Obj}{tmps:Array Value}{P:Except Int (Nat×Sto)}{ys zs xs p l:List It}{acc:Option (Option (K3×K3))}{y x:It}{q:Option (K3×K3)}{k:K3}
def Vu(S:Sto)(a:Nat):Except Int Sto:=match QD S (-1) S.now a with
 |none=>.error 8
 |some t=>.ok (qu S t)
def jX(S:Sto)(a:Int):Except Int Sto:=if Js S a=0 then Vu S a.toNat else .error (Js S a)
theorem qhV(h:QD S (-1) S.now a=J):Vu S a=.error 8:=by unfold Vu;rw[h]
theorem qhW{t:List UInt8}(h:QD S (-1) S.now a=t):Vu S a=.ok (qu S t):=by unfold Vu;rw[h]
def StoE(q:Except Int Sto)(lo:Nat)(u:Value)(W:Z):Prop:=match q with
 |.error e=>u=Y #[Qp J 0 0 J 0 0 J 0 0 J 0 0,e]
 |.ok S'=>∃v,u=Y #[v,U .i64 0]/\zm lo S' v W
theorem qjT{a:Int}(h:Js S a≠0):jX S a=.error (Js S a):=by unfold jX;rw[if_neg h]
theorem qmj(h:Js S a=0):jX S a=Vu S a:=by unfold jX;rw[if_pos h,Int.toNat_natCast]
theorem UU{a:Act}{b:Nat}{v:Value}(h4:a.tmps[4]?.getD undef=O b)(h5:a.tmps[5]?.getD undef=v)(hd:a.defers=[])(hAH:W.heap[b]?=F (I #[x0,x1,x2,x3] 28))(hR:R (Q (Y #[.agg #[x0,x1,x2,x3],v])) W):bodyPost prog Tryz.f80 R .ret a W:=by refine bodyPost_ret (v:=Y #[.agg #[x0,x1,x2,x3],v]) ?_ hd hR;have k:=qa hAH;simp[results,results80,go_sem,h4,h5,k]
set_option maxRecDepth 100000 in
theorem qhB(D:Nat->Prop)(B lo b g:Nat)(k:Option Nat)(S:Sto)(hS:qk S=M)(a:Nat)(ha:8<=a)(ha2:a<256)(bat:Nat)(w:Z)(hat:w.heap[bat]?=F (I #[(a:Int)] 3))(h:Bch D B lo b g k S w):Calls prog 142 #[O b,O bat] w (Jn D B lo b g k S a w):=by
 have HB:=zH (YY D B lo b g k S hS a ha ha2 w h);have ka:=qa hat;clear h;go_enter func142,ntmps142;go_wp2_with fail;refine HB.out.mono ?_;clear HB;intro e W hQ;obtain⟨er,rfl⟩:∃er,e=Q (U .i64 er):=by obtain⟨_,hc⟩:=hQ;split at hc;exact⟨_,hc⟩;exact⟨_,hc.1⟩
 replace hQ:=zH hQ;go_wp2_with fail;go_ret;exact hQ.out
set_option maxRecDepth 100000 in
theorem qjt(A1 n1 c1 A2 n2 c2 A3 n3 c3 A4 n4 c4)(S:Sto)(hS:qk S=M)(a:Nat)(ha:8<=a)(ha2:a<256)(bat:Nat)(w:Z)(hat:w.heap[bat]?=F (I #[(a:Int)] 3))(h:Qi w w (s A1 n1 c1) (s A2 n2 c2) (s A3 n3 c3) (s A4 n4 c4) S):Calls prog 139 #[Qp A1 n1 c1 A2 n2 c2 A3 n3 c3 A4 n4 c4,.func (.func 142) #[] #[O bat]] w (zv (StoE (Vu S a) w) w):=by
 obtain⟨q,hq⟩:∃q,Vu S a=q:=⟨_,rfl⟩
 rw[hq];replace hq:=zH hq;have HON:=zH (λW (hx:Ext w W)=>qdf A1 n1 c1 A2 n2 c2 A3 n3 c3 A4 n4 c4 S (by have:=(qZ hS).2.2.1;omega) W (h.ext hx));replace⟨h,hS⟩:=zH2 h hS;go_enter func139,ntmps139;go_wp2_with fail;generalize hw1:(Jx (Jx w _) _)=w1;have x1:Ext w w1:=by rw[<-hw1];exact(zN _ _).trans (zN _ _)
 have ro1:w1.heap[w.heap.size+1]?=F (I #[s J 0 0,s J 0 0,s J 0 0,s J 0 0] 28):=hw1▸zI _ _ _ zA3;clear hw1;refine(HON.out w1 x1).mono ?_;clear HON;rintro e w2 ⟨u,rfl,⟨b,P3,d3,rfl,hlo,hAH,hAD⟩,hB⟩;have x12:Ext w1 w2:=hB;have x2:Ext w w2:=x1.trans x12;have ro2:=qb ro1 x12;obtain⟨g,hGK⟩:=Bch.of_on (B:=w.heap.size) x1.size hS.out (h.out.below x2) hlo hAH hAD;have HL:=zH (qhB (λ_=>False) w.heap.size w1.heap.size b g J S hS.out a ha ha2 bat w2 (qb hat x2) hGK);have nB:¬B3 b g J (↑w+1):=hGK.notB3 ro2 zA1 zA1 zA1;replace hGK:=zH hGK;clear hB ro1 hAH hAD;go_wp2_with fail;refine HL.out.mono ?_;clear HL;rintro e w3 ⟨hK,hQ⟩;have ro3:=hK.row ro2 nB;have x3:Below w w w3:=Below.trans x2 (Below.mono hK.below x1.size);have zo3:=(zG.1 ro3).1;have ko3:=qa ro3;have fo3:=qd ro3;clear hK nB ro2 hGK;rcases hl:QD S (-1) S.now a with _|t
 ·rw[hl]at hQ;obtain rfl:=hQ;obtain rfl:q=.error 8:=by rw[<-hq.out,qhV hl]
  clear hl hq;go_wp2_with fail;exact qeC (b:=w.heap.size+1) rfl rfl rfl (KO ro3 _ _ _ _) ⟨_,rfl,rfl,Zv x3 zO _ _ _ _⟩
 rw[hl]at hQ;obtain⟨rfl,hb3⟩:=hQ;have hq2:=zH (show q=.ok (qu S t)by rw[<-hq.out,qhW hl]);obtain⟨E1,m1,e1,E2,m2,e2,e3,E4,e4,hrb,hsb⟩:=hb3.sto;have hsh:Gm (qu S t):=QY (qE.2 ⟨(qE.1 hS.out).1,JC ha (qE.1 hS.out).2.1 hl,(qE.1 hS.out).2.2⟩);have HT:=zH (Ko b E1 m1 e1 E2 m2 e2 (F ⟨g,0,J⟩) 256 e3 E4 256 e4 (qu S t) hsh w3 hrb hsb);replace hl:=zH hl;clear hb3 hrb hsb hsh ko3 fo3;go_wp2_with fail;refine HT.out.mono ?_;clear HT;rintro e w4 ⟨u,rfl,hu,hB⟩;have hB4:Ext w3 w4:=hB;have x4:Below w w w4:=x3.trans (Below.mono hB4 x3.size);have ro4:=qb ro3 hB4;have ko4:=qa ro4;have fo4:=qd ro4;have hK:=λx0 x1 x2 x3'=>hu.set4 (b:=w.heap.size+1) (show w.heap.size<=w3.heap.size by omega) zo3 x0 x1 x2 x3';obtain⟨BB,WW,gg,B3,d3,B4,d4,rfl,-⟩:=id hu;replace⟨hK,hu⟩:=zH2 hK hu;clear hB ro3 x3;go_wp2_with fail;exact qeC (b:=w.heap.size+1) rfl rfl rfl (KO ro4 _ _ _ _) ⟨_,rfl,by rw[hq2.out];exact⟨_,rfl,hK.out _ _ _ _⟩,Zv x4 zO _ _ _ _⟩
set_option maxRecDepth 100000 in
theorem qct(A1 n1 c1 A2 n2 c2 A3 n3 c3 A4 n4 c4)(S:Sto)(a:Int)(w:Z)(h:Qi w w (s A1 n1 c1) (s A2 n2 c2) (s A3 n3 c3) (s A4 n4 c4) S):Calls prog 80 #[Qp A1 n1 c1 A2 n2 c2 A3 n3 c3 A4 n4 c4,a] w (zv (StoE (jX S a) w) w):=by
 have HA:=zH (λW (hx:Ext w W)=>qhC A1 n1 c1 A2 n2 c2 A3 n3 c3 A4 n4 c4 S a W (h.ext hx));obtain⟨q,hq⟩:∃q,jX S a=q:=⟨_,rfl⟩
 rw[hq];replace⟨hq,h⟩:=zH2 hq h;go_enter func80,ntmps80;go_wp2_with fail;generalize hw1:(Jx (Jx (Jx w _) _) _)=w1;have x1:Ext w w1:=by rw[<-hw1];exact((zN _ _).trans (zN _ _)).trans (zN _ _)
 have rs1:w1.heap[w.heap.size]?=F (I #[s A1 n1 c1,s A2 n2 c2,s A3 n3 c3,s A4 n4 c4] 28):=by rw[<-hw1];exact(zK _ _ _ (by simp;try omega)).trans ((zK _ _ _ zA3).trans (zI _ _ _ rfl))
 have ra1:w1.heap[w.heap.size+1]?=F (I #[a] 3):=by rw[<-hw1];exact(zK _ _ _ zA3).trans (zI _ _ _ zA3)
 have ro1:w1.heap[w.heap.size+2]?=F (I #[s J 0 0,s J 0 0,s J 0 0,s J 0 0] 28):=hw1▸zI _ _ _ zA3;have kk1:=qa ra1;have ks1:=qa rs1;clear hw1;go_wp2_with fail;refine(HA.out w1 x1).mono ?_;clear HA;rintro e w2 ⟨rfl,hB⟩;have x2:Ext w w2:=x1.trans hB;have rs2:=qb rs1 hB;have ra2:=qb ra1 hB;have ro2:=qb ro1 hB;clear hB rs1 ro1 x1 ks1 kk1 ra1;by_cases h0:Js S a=0
 ·obtain⟨hS,m,rfl,hm8,hHG,hnz⟩:=KQ h0;have HD:=qjt A1 n1 c1 A2 n2 c2 A3 n3 c3 A4 n4 c4 S hS m hm8 hHG (w.heap.size+1) w2 ra2 (h.out.ext x2);have ks2:=qa rs2;rw[(show Vu S m=q by rw[<-hq.out,qmj h0])]at HD;rw[h0];replace hS:=zH hS;clear hnz h0 hq;go_wp2_with fail;refine HD.mono ?_;clear HD;rintro e w3 ⟨u,rfl,hT,hB⟩;have x3:Ext w w3:=x2.trans hB;have ro3:=qb ro2 hB;have zo2:w.heap.size+2<w2:=(zG.1 ro2).1;have ko3:=qa ro3;have fo3:=qd ro3;clear hB ks2 rs2 ra2 ro2 x2;rcases q with er|S'
  ·obtain rfl:=hT;go_wp2_with fail;exact UU (b:=w.heap.size+2) rfl rfl rfl (KO ro3 _ _ _ _) ⟨_,rfl,rfl,Zv x3 zO _ _ _ _⟩
  obtain⟨v,rfl,hT⟩:=hT;have hK:=λx0 x1 x2 x3'=>hT.set4 (b:=w.heap.size+2) (show w.heap.size<=w2.heap.size by omega) zo2 x0 x1 x2 x3';obtain⟨BB,WW,gg,B3,d3,B4,d4,rfl,hD,hN,hL⟩:=hT;replace hK:=zH hK;clear hD hN hL;go_wp2_with fail;exact UU (b:=w.heap.size+2) rfl rfl rfl (KO ro3 _ _ _ _) ⟨_,rfl,⟨_,rfl,hK.out _ _ _ _⟩,Zv x3 zO _ _ _ _⟩
 obtain⟨er,her⟩:∃er,Js S a=er:=⟨_,rfl⟩
 obtain rfl:q=.error er:=by rw[<-hq.out,qjT h0,her]
 rw[her]at h0⊢;have he:(er != 0)=M:=by rw[bne_iff_ne];exact h0
 have ko2:=qa ro2;have fo2:=qd ro2;clear her hq h0;go_wp2_with fail;exact UU (b:=w.heap.size+2) rfl rfl rfl (KO ro2 _ _ _ _) ⟨_,rfl,rfl,Zv x2 zO _ _ _ _⟩
def UL(S:Sto)(root next:Int)(dead:List Int)(v:Vol)(er:Int):Prop:=(er=8/\QS S root next dead)\/∃vs refs nodes,Qy S root next dead vs/\Qk S (Qo root dead vs) refs nodes/\QQ S refs /\
 (jC S next v vs refs=er\/(jC S next v vs refs=0/\(setE S root v=.error er\/(er=8/\∃r S',setE S root v=.ok (r,S')/\QS S' (r:Int) next dead))))
def qaV(S:Sto)(root next:Int)(dead:List Int)(v:Vol)(r:Nat)(S':Sto)(vs':List Vol):Prop:=∃vs refs nodes,Qy S root next dead vs/\Qk S (Qo root dead vs) refs nodes/\QQ S refs /\
 jC S next v vs refs=0/\setE S root v=.ok (r,S')/\Kl S' (r:Int) next dead vs'
theorem SetQ.split(h:SetQ S gen root next dead v w e w'):Below w w w'/\((∃er,er≠0/\e=Q (Y #[Tz,U .i64 er])/\UL S root next dead v er) \/
   ∃r S' vs' u,qaV S root next dead v r S' vs'/\e=Q (Y #[u,U .i64 0])/\Jp w S' gen (r:Int) next dead u w'):=by
 obtain⟨hB,h⟩:=h;refine⟨hB,?_⟩;rcases h with⟨rfl,hb⟩|⟨vs,refs,nodes,hp,hc,he,h⟩
 exact .inl ⟨8,zA1,rfl,.inl ⟨rfl,hb⟩⟩;rcases h with⟨er,h0,e1,h⟩|⟨r,S',vs',u,h1,h2,h3,h4,h5⟩
 exact .inl ⟨er,h0,e1,.inr ⟨vs,refs,nodes,hp,hc,he,h⟩⟩;exact .inr ⟨r,S',vs',u,⟨vs,refs,nodes,hp,hc,he,h1,h2,h3⟩,h4,h5⟩
theorem Jp.sto(h:Jp lo S gen root next dead u W):∃A1 c1 A2 c2 A3 c3 A4 c4 A5 c5,u=.agg (qQ (s A1 S.bs.length c1) (s A2 S.ws.length c2) (s A3 S.now.length c3) (s A4 S.last.length c4) gen root next (s A5 dead.length c5)) /\
  Qi W W (s A1 S.bs.length c1) (s A2 S.ws.length c2) (s A3 S.now.length c3) (s A4 S.last.length c4) S/\ZM W W (s A5 dead.length c5) dead:=by
 obtain⟨A1,c1,A2,c2,A3,c3,A4,c4,A5,c5,e,h⟩:=h;exact⟨A1,c1,A2,c2,A3,c3,A4,c4,A5,c5,e,h W λq v h1 h2 h3=>(qaP h3).1⟩
theorem Jp.keep(h:Jp lo S gen root next dead u W)(hl:lo'<=lo)(hs:W.heap.size<=W')(hk:∀k,lo<=k->k<W.heap.size->W'.heap[k]?=W.heap[k]?):Jp lo' S gen root next dead u W':=by obtain⟨A1,c1,A2,c2,A3,c3,A4,c4,A5,c5,e,h⟩:=h;refine⟨A1,c1,A2,c2,A3,c3,A4,c4,A5,c5,e,λC hC=>?_⟩;obtain⟨h1,h2⟩:=h C λq v h1 h2 h3=>hC q v zO zO ((jz (hk q.block h1 h2)).trans h3);exact⟨h1.more hs,h2.more hs⟩
theorem same8{b:Nat}(h:w.heap[b]?=F (I #[x0,x1,x2,x3,x4,x5,x6,x7] ty)):Ext w ((((((((w.setCell b x0).setCell (b,1) x1).setCell (b,2) x2).setCell (b,3) x3).setCell (b,4) x4).setCell (b,5) x5).setCell (b,6) x6).setCell (b,7) x7):=by have e0:=QI (j:=0) (v:=x0) h rfl;have h0:=qb h e0;have e1:=QI (j:=1) (v:=x1) h0 rfl;have h1:=qb h0 e1;have e2:=QI (j:=2) (v:=x2) h1 rfl;have h2:=qb h1 e2;have e3:=QI (j:=3) (v:=x3) h2 rfl;have h3:=qb h2 e3;have e4:=QI (j:=4) (v:=x4) h3 rfl;have h4:=qb h3 e4;have e5:=QI (j:=5) (v:=x5) h4 rfl;have h5:=qb h4 e5;have e6:=QI (j:=6) (v:=x6) h5 rfl;have h6:=qb h5 e6;exact((((((e0.trans e1).trans e2).trans e3).trans e4).trans e5).trans e6).trans (QI (j:=7) (v:=x7) h6 rfl)
structure Sets(X:Nat->Prop)(W C:Z):Prop where
 os:C.os=W.os
 tape:C.tape=W.tape
 output:C.output=W.output
 size:C.heap.size=W
 same:∀k,¬X k->C.heap[k]?=W.heap[k]?
theorem Sets.refl(X:Nat->Prop)(W:Z):Sets X W W:=⟨rfl,rfl,rfl,rfl,λ_ _=>rfl⟩
theorem Sets.set(h:Sets X W C){b:Nat}(j:Nat)(hb:X b)(v:Value):Sets X W (C.setCell (b,j) v):=⟨h.os,h.tape,h.output,by simpa using h.size,λk hk=>(zJ _ _ _ _ λe=>hk (by have e':k=b:=e;rw[e'];exact hb)).trans (h.same k hk)⟩
theorem Sets.row(h:Sets X W C){b:Nat}(hr:W.heap[b]?=o)(hb:¬X b):C.heap[b]?=o:=(h.same b hb).trans hr
theorem Sets.below(h:Sets X W C)(hB:Below B w W)(hX:∀k,X k->B<=k):Below B w C:=hB.trans ⟨h.os,h.tape,h.output,by rw[h.size];exact zM _,λk hk=>h.same k λhx=>by have:=hX k hx;omega⟩
set_option maxRecDepth 100000 in
theorem qdp(bp be:Nat)(hne:bp≠be)(A1 n1 c1 A2 n2 c2 A3 n3 c3 A4 n4 c4)(gen root next:Int)(v5:Value)(e:Int)(S:Sto)(u:FrameMode)(w:Z)(hp:w.heap[bp]?=F (I (qQ (s A1 n1 c1) (s A2 n2 c2) (s A3 n3 c3) (s A4 n4 c4) gen root next v5) 32 (0,0)))(he:w.heap[be]?=F (I #[e] 37))(h:e=0->Qi w w (s A1 n1 c1) (s A2 n2 c2) (s A3 n3 c3) (s A4 n4 c4) S):CallsD prog 89 #[O bp,O be] u w (λx u' w'=>u'=u/\x=Q (Y #[])/\RoomyQ bp be (qQ (s A1 n1 c1) (s A2 n2 c2) (s A3 n3 c3) (s A4 n4 c4) gen root next v5) e S w w'):=by
 have kp:=qa hp;have ke:=qa he;have fp:=qd hp;have fe:=qd he;by_cases h0:e=0
 ·subst h0;have HF:=qfg A1 n1 c1 A2 n2 c2 A3 n3 c3 A4 n4 c4 S w (h rfl);clear h;go_enter_d func89,ntmps89;go_wp2_with fail;refine HF.mono ?_;rintro x w2 ⟨hB,hQ⟩;have x2:Ext w w2:=hB;have hp2:=qb hp x2;have he2:=qb he x2;have kp2:=qa hp2;have ke2:=qa he2;have fp2:=qd hp2;have fe2:=qd he2;clear kp ke fp fe hB HF hp he;rcases hQ with⟨hm,rfl⟩|⟨hm,v,rfl,hAD⟩
  ·have hE:jc S=9:=by unfold jc;rw[hm];rfl
   replace⟨hE,hm⟩:=zH2 hE hm;have hQF:¬be=bp:=λe=>hne e.symm;go_wp2_with fail;go_end0;exact⟨rfl,(Two.of_ext x2).trans ((Two.setE _ _ _).trans (Two.set8 _ _ _ _ _ _ _ _ _)),.inr ⟨9,zA1,.inl ⟨rfl,hE.out.symm⟩,VV ((zJ _ _ _ _ hne).trans hp2) _ _ _ _ _ _ _ _,(jY hQF _ _ _ _ _ _ _ _).trans (qj he2 0 _)⟩⟩
  obtain⟨A,c,rfl,-,-⟩:=qM hAD;clear hAD;by_cases hl:(ZK S).length<16
  ·have hE:jc S=9:=by unfold jc;rw[if_neg zO]
   replace hE:=zH hE;have d1:decide (((ZK S).length:Int)<16)=M:=decide_eq_true zO;replace⟨hl,hm⟩:=zH2 hl hm;have hQF:¬be=bp:=λe=>hne e.symm;go_wp2_with fail;go_end0;exact⟨rfl,(Two.of_ext x2).trans ((Two.setE _ _ _).trans (Two.set8 _ _ _ _ _ _ _ _ _)),.inr ⟨9,zA1,.inl ⟨rfl,hE.out.symm⟩,VV ((zJ _ _ _ _ hne).trans hp2) _ _ _ _ _ _ _ _,(jY hQF _ _ _ _ _ _ _ _).trans (qj he2 0 _)⟩⟩
  have hE:jc S=0:=by unfold jc;rw[if_pos ⟨hm,zO⟩]
  replace hE:=zH hE;have d1:decide (((ZK S).length:Int)<16)=false:=decide_eq_false zO;replace⟨hl,hm⟩:=zH2 hl hm;go_wp2_with fail;go_end0;exact⟨rfl,Two.of_ext x2,.inl ⟨rfl,hE.out,hp2,he2⟩⟩
 have b0:(e==0)=false:=by rw[beq_eq_false_iff_ne];exact h0
 have b1:(e != 0)=M:=by rw[bne_iff_ne];exact h0
 replace⟨h0,hne⟩:=zH2 h0 hne;clear h;go_enter_d func89,ntmps89;go_wp2_with fail;go_end0;exact⟨rfl,Two.set8 _ _ _ _ _ _ _ _ _,.inr ⟨e,h0.out,.inr ⟨h0.out,rfl⟩,VV hp _ _ _ _ _ _ _ _,(jY (λx=>hne.out x.symm) _ _ _ _ _ _ _ _).trans he⟩⟩
def Um(S:Sto)(a:Nat)(x:It):Except Int (Nat×Sto):=match qm S a with
 |none=>.error 8
 |some (lvl,xs)=>XR S lvl.toNat xs a x
def Zf(S:Sto)(a:Int):Sto:=qu S (QB S.now a.toNat 1)
def TG(v:Vol)(r:Nat):Vol:=⟨v.id,(r:Int),v.fz,v.frm⟩
def JT(S:Sto)(root next:Int)(dead:List Int)(v:Vol)(P:Except Int (Nat×Sto))(er:Int):Prop:=zY S v.root=er\/(zY S v.root=0/\(P=.error er\/∃r2 S2,P=.ok (r2,S2) /\
 (UL S2 root next dead (TG v r2) er\/∃r3 S3 vs3,qaV S2 root next dead (TG v r2) r3 S3 vs3/\(jX S3 v.root=.error er\/∃S4,jX S3 v.root=.ok S4/\jc S4=er))))
def ChgQ(S:Sto)(gen root next:Int)(dead:List Int)(v:Vol)(P:Except Int (Nat×Sto))(w:Z)(e:Ending)(w':Z):Prop:=Below w w w' /\
 ((∃er,er≠0/\e=Q (Y #[Tz,U .i64 er])/\JT S root next dead v P er) \/
  ∃r2 S2 r3 S3 vs3 S4 u,zY S v.root=0/\P=.ok (r2,S2)/\qaV S2 root next dead (TG v r2) r3 S3 vs3/\jX S3 v.root=.ok S4/\jc S4=0 /\
   e=Q (Y #[u,U .i64 0])/\Jp w S4 gen (r3:Int) next dead u w')
theorem qkM{b:Nat}{z:Value}(h4:tmps[8]?.getD undef=O (b+1+1+1,0))(h5:tmps[9]?.getD undef=O (b+1+1+1+1,0))(r4:W.heap[b+3]?=F (I #[x0,x1,x2,x3,x4,x5,x6,x7] 32))(r6:W.heap[b+4]?=F (I #[z] 37))(hR:R (Q (Y #[.agg #[x0,x1,x2,x3,x4,x5,x6,x7],z])) W):Leaves prog Tryz.f84 tmps R [] .returning W:=by have k4:=qa r4;have k6:=qa r6;refine⟨Y #[.agg #[x0,x1,x2,x3,x4,x5,x6,x7],z],?_,hR⟩;simp[results,results84,go_sem,h4,h5,k4,k6]
theorem qho{b:Nat}(A1 n1 c1 A2 n2 c2 A3 n3 c3 A4 n4 c4)(gen root next:Int)(v5:Value)(e:Int)(S:Sto)(h4:tmps[8]?.getD undef=O (b+1+1+1,0))(h5:tmps[9]?.getD undef=O (b+1+1+1+1,0))(r4:W.heap[b+3]?=F (I (qQ (s A1 n1 c1) (s A2 n2 c2) (s A3 n3 c3) (s A4 n4 c4) gen root next v5) 32 (0,0)))(r6:W.heap[b+4]?=F (I #[e] 37))(h:e=0->Qi W W (s A1 n1 c1) (s A2 n2 c2) (s A3 n3 c3) (s A4 n4 c4) S)(hR1:e=0->jc S=0->∀W',Two (b+3) (b+4) W W'->R (Q (Y #[.agg (qQ (s A1 n1 c1) (s A2 n2 c2) (s A3 n3 c3) (s A4 n4 c4) gen root next v5),U .i64 0])) W')(hR2:∀e' W',e'≠0->((e=0/\e'=jc S)\/(e≠0/\e'=e))->Two (b+3) (b+4) W W'->R (Q (Y #[Tz,U .i64 e'])) W'):bodyPostD prog Tryz.f84 R .ret {tmps:=tmps,defers:=[{target:=.fn (.func 89) #[],args:=#[O (b+1+1+1,0),O (b+1+1+1+1,0)]}]} W:=by refine leaves_cons (f:=89) (args:=#[O (F ⟨b+1+1+1,0,J⟩),O (F ⟨b+1+1+1+1,0,J⟩)]) zA3 (by simp[go_sem]) ?_;refine(qdp (b+3) (b+4) zO A1 n1 c1 A2 n2 c2 A3 n3 c3 A4 n4 c4 gen root next v5 e S .returning W r4 r6 h).mono ?_;rintro x u' w' ⟨rfl,rfl,hT,⟨h0,hE,g4,g6⟩|⟨e',h0,hE,g4,g6⟩⟩;exact qkM h4 h5 g4 g6 (hR1 h0 hE w' hT);exact qkM h4 h5 g4 g6 (hR2 e' w' h0 hE hT)
theorem qbX{E1 E2 E3 E4:OA}{m1 e1 m2 e2 m3 e3 m4 e4:Nat}{g9 t9 n9:Int}(hne:er≠0)(hc:JT S root next dead v P er)(h4:tmps[8]?.getD undef=O (F ⟨w.heap.size+1+1+1,0,J⟩))(h5:tmps[9]?.getD undef=O (F ⟨w.heap.size+1+1+1+1,0,J⟩))(r4:W.heap[w.heap.size+3]?=F (I (qQ (s E1 m1 e1) (s E2 m2 e2) (s E3 m3 e3) (s E4 m4 e4) g9 t9 n9 v5) 32 (0,0)))(r6:W.heap[w.heap.size+4]?=F (I #[er] 37))(hB:Ext w W):bodyPostD prog Tryz.f84 (ChgQ S gen root next dead v P w) .ret {tmps:=tmps,defers:=[{target:=.fn (.func 89) #[],args:=#[O (F ⟨w.heap.size+1+1+1,0,J⟩),O (F ⟨w.heap.size+1+1+1+1,0,J⟩)]}]} W:=by
 refine qho E1 m1 e1 E2 m2 e2 E3 m3 e3 E4 m4 e4 g9 t9 n9 v5 er S h4 h5 r4 r6 (λh=>absurd h hne) (λh=>absurd h hne) (λe' W' h0 hE hT=>?_);obtain rfl:e'=er:=by
  rcases hE with⟨h,_⟩|⟨_,h⟩
  exact absurd h hne;exact h
 have z:=(zG.1 r4).1;exact⟨hT.below hB zO zO zO,.inl ⟨e',hne,rfl,hc⟩⟩
section
variable {W C:World} {b:Nat} {u0 u1 u2 u3 u4 u5 u6 u7 x0 x1 x2 x3 x4 x5 x6 x7 y0 y1 y2 y3 z ev q0:Value} {tyP tyV ty2 ty3:TypeId} {cs ds:Array Value}
theorem st5(rp:W.heap[b]?=F (I #[u0,u1,u2,u3,u4,u5,u6,u7] tyP))(re:W.heap[b+4]?=F (I #[q0] ty3))(hC:((((W.setCell b x0).setCell (b,1) x1).setCell (b,2) x2).setCell (b,3) x3).setCell (b+1+1+1+1,0) ev=C):C.heap[b]?=F (I #[x0,x1,x2,x3,u4,u5,u6,u7] tyP)/\C.heap[b+4]?=F (I #[ev] ty3)/\C.heap.size=W/\(∀{w0:Z},w0.heap.size<=b->Ext w0 W->Ext w0 C)/\∀k,k≠b->k≠b+4->C.heap[k]?=W.heap[k]?:=by
 subst hC;have hs:=λ(A:Z)(b j:Nat)(v:Value)(k:Nat)(hk:k≠b)=>zJ A ⟨b,j,J⟩ v k hk;have r1:=qj (qj (qj (qj rp 0 x0) 1 x1) 2 x2) 3 x3;have o1:∀k,k≠b->((((W.setCell b x0).setCell (b,1) x1).setCell (b,2) x2).setCell (b,3) x3).heap[k]?=W.heap[k]?:=λk hk=>by rw[hs _ _ _ _ _ hk,hs _ _ _ _ _ hk,hs _ _ _ _ _ hk,hs _ _ _ _ _ hk]
 refine⟨?_,qj (t:=ty3) (cs:=#[q0]) ((o1 _ zO).trans re) 0 ev,zA3,λhb hx=>?_,λk h1 h2=>by rw[hs _ _ _ _ _ zO,o1 k h1]⟩;rw[hs _ _ _ _ _ zO];exact r1;exact Below.setCell (Zv hx (b:=b) hb _ _ _ _) (p:=⟨b+1+1+1+1,0,J⟩) zA2 _
theorem st6(rp:W.heap[b]?=F (I #[u0,u1,u2,u3,u4,u5,u6,u7] tyP))(rv:W.heap[b+1]?=F (I #[y0,y1,y2,y3] tyV))(re:W.heap[b+4]?=F (I #[q0] ty3))(hC:(((((W.setCell b x0).setCell (b,1) x1).setCell (b,2) x2).setCell (b,3) x3).setCell (b+1,1) z).setCell (b+1+1+1+1,0) ev=C):C.heap[b]?=F (I #[x0,x1,x2,x3,u4,u5,u6,u7] tyP)/\C.heap[b+1]?=F (I #[y0,z,y2,y3] tyV)/\C.heap[b+4]?=F (I #[ev] ty3)/\C.heap.size=W/\(∀{w0:Z},w0.heap.size<=b->Ext w0 W->Ext w0 C)/\∀k,k≠b->k≠b+1->k≠b+4->C.heap[k]?=W.heap[k]?:=by
 subst hC;have hs:=λ(A:Z)(b j:Nat)(v:Value)(k:Nat)(hk:k≠b)=>zJ A ⟨b,j,J⟩ v k hk;have r1:=qj (qj (qj (qj rp 0 x0) 1 x1) 2 x2) 3 x3;have o1:∀k,k≠b->((((W.setCell b x0).setCell (b,1) x1).setCell (b,2) x2).setCell (b,3) x3).heap[k]?=W.heap[k]?:=λk hk=>by rw[hs _ _ _ _ _ hk,hs _ _ _ _ _ hk,hs _ _ _ _ _ hk,hs _ _ _ _ _ hk]
 refine⟨?_,?_,?_,zA3,λhb hx=>?_,λk h1 h2 h3=>by rw[hs _ _ _ _ _ zO,hs _ _ _ _ _ h2,o1 k h1]⟩;rw[hs _ _ _ _ _ zO,hs _ _ _ _ _ zO];exact r1;rw[hs _ _ _ _ _ zO];exact qj (t:=tyV) (cs:=#[y0,y1,y2,y3]) ((o1 _ zO).trans rv) 1 z;exact qj (t:=ty3) (cs:=#[q0]) (by rw[hs _ _ _ _ _ zO];exact(o1 _ zO).trans re) 0 ev;exact Below.setCell (Below.setCell (Zv hx (b:=b) hb _ _ _ _) (p:=⟨b+1,1,J⟩) zA2 _) (p:=⟨b+1+1+1+1,0,J⟩) zA2 _
theorem st9{p:Nat}(hp4:p≠b+4)(hbp:b<=p)(rp:W.heap[p]?=F (I #[u0,u1,u2,u3,u4,u5,u6,u7] tyP))(re:W.heap[b+4]?=F (I #[q0] ty3))(hC:((((((((W.setCell p x0).setCell (p,1) x1).setCell (p,2) x2).setCell (p,3) x3).setCell (p,4) x4).setCell (p,5) x5).setCell (p,6) x6).setCell (p,7) x7).setCell (b+1+1+1+1,0) ev=C):C.heap[p]?=F (I #[x0,x1,x2,x3,x4,x5,x6,x7] tyP)/\C.heap[b+4]?=F (I #[ev] ty3)/\C.heap.size=W/\(∀{w0:Z},w0.heap.size<=b->Ext w0 W->Ext w0 C)/\∀k,k≠p->k≠b+4->C.heap[k]?=W.heap[k]?:=by subst hC;have hs:=λ(A:Z)(b j:Nat)(v:Value)(k:Nat)(hk:k≠b)=>zJ A ⟨b,j,J⟩ v k hk;refine⟨?_,?_,zA3,λhb hx=>?_,λk h1 h2=>by rw[hs _ _ _ _ _ zO,jY h1]⟩;rw[hs _ _ _ _ _ zO];exact VV rp _ _ _ _ _ _ _ _;exact qj (t:=ty3) (cs:=#[q0]) (by rw[jY zO];exact re) 0 ev;exact Below.setCell (jM hx (b:=p) zO _ _ _ _ _ _ _ _) (p:=⟨b+1+1+1+1,0,J⟩) zA2 _
end
theorem qcN{a:Int}(hS:qk S=M)(h:jX S a=.ok S'):qk S'=M:=by unfold jX at h;split at h;rename_i h0;obtain⟨_,m,rfl,h8,h256,-⟩:=KQ h0;rw[Int.toNat_natCast]at h;unfold Vu at h;split at h;cases h;rename_i t ht;cases h;exact qE.2 ⟨(qE.1 hS).1,JC h8 (qE.1 hS).2.1 ht,(qE.1 hS).2.2⟩;cases h
set_option maxRecDepth 100000 in
theorem qiO(A1 n1 c1 A2 n2 c2 A3 n3 c3 A4 n4 c4)(gen root next:Int)(A5 c5)(S:Sto)(dead:List Int)(v:Vol)(hvo:XH v)(x:It)(hxo:QW x)(Ax:OA)(cx:Nat)(htr:zY S v.root=0->Zp (Zf S v.root) v.root.toNat)(hT2:zY S v.root=0->∀r2 S2,Um (Zf S v.root) v.root.toNat x=.ok (r2,S2)->okL S2 (-1) (r2:Int)=M)(w:Z)(h:Qi w w (s A1 n1 c1) (s A2 n2 c2) (s A3 n3 c3) (s A4 n4 c4) S)(hd:ZM w w (s A5 dead.length c5) dead)(hxv:Bys w w (s Ax x.val.length cx) x.val):Calls prog 84 #[.agg (qQ (s A1 n1 c1) (s A2 n2 c2) (s A3 n3 c3) (s A4 n4 c4) gen root next (s A5 dead.length c5)),Ve v,.func (.func 65) #[] #[],itV x Ax cx] w (ChgQ S gen root next dead v (Um (Zf S v.root) v.root.toNat x) w):=by
 have HS:=zH (λW (hx:Ext w W)=>qdt A1 n1 c1 A2 n2 c2 A3 n3 c3 A4 n4 c4 S v.root W (h.ext hx));obtain⟨P,hP⟩:∃P,Um (Zf S v.root) v.root.toNat x=P:=⟨_,rfl⟩
 rw[hP]at hT2⊢;replace⟨hP,h,hd,hxv,htr,hT2⟩:=zH6 hP h hd hxv htr hT2;replace⟨hxo,hvo⟩:=zH2 hxo hvo;go_enter_defers func84,ntmps84;go_wp2_with fail;generalize hw1:Jx _ _=w1;have x1:Ext w w1:=by rw[<-hw1];exact((((zN _ _).trans (zN _ _)).trans (zN _ _)).trans (zN _ _)).trans (zN _ _)
 have rp1:w1.heap[w.heap.size]?=F (I (qQ (s A1 n1 c1) (s A2 n2 c2) (s A3 n3 c3) (s A4 n4 c4) gen root next (s A5 dead.length c5)) 32 (0,0)):=by rw[<-hw1];exact(zK _ _ _ zA4).trans ((zK _ _ _ zA4).trans ((zK _ _ _ zA4).trans ((zK _ _ _ zA4).trans (zI _ _ _ rfl))))
 have rv1:w1.heap[w.heap.size+1]?=F (I #[U .u32 v.id,U .i64 v.root,.bool v.fz,U .u32 v.frm] 36):=by rw[<-hw1];exact(zK _ _ _ zA4).trans ((zK _ _ _ zA4).trans ((zK _ _ _ zA4).trans (zI _ _ _ zA3)))
 have rx1:w1.heap[w.heap.size+2]?=F (I #[U .u8 x.k,U .u32 x.i,U .u32 x.o,U .i64 x.r,s Ax x.val.length cx] 51):=by rw[<-hw1];exact(zK _ _ _ zA4).trans ((zK _ _ _ zA4).trans (zI _ _ _ zA3))
 have ro1:w1.heap[w.heap.size+3]?=F (I XF 32):=by rw[<-hw1];exact(zK _ _ _ zA4).trans (zI _ _ _ zA3)
 have re1:w1.heap[w.heap.size+4]?=F (I #[U .i64 0] 37):=hw1▸zI _ _ _ zA3;have s1:w1.heap.size=w+5:=by rw[<-hw1];simp
 clear hw1;refine(HS.out w1 x1).mono ?_;clear HS;rintro e w2 ⟨u,rfl,hQ,hB⟩;have x2:Ext w w2:=x1.trans hB;have rp2:=qb rp1 hB;have rv2:=qb rv1 hB;have rx2:=qb rx1 hB;have ro2:=qb ro1 hB;have re2:=qb re1 hB;have z12:=hB.size;have kp2:=qa rp2;have kv2:=qa rv2;have kx2:=qa rx2;have ko2:=qa ro2;have ke2:=qa re2;have fp2:=qd rp2;have fv2:=qd rv2;have fo2:=qd ro2;have fe2:=qd re2;clear hB rp1 rv1 rx1 ro1 re1 x1;rcases hQ with⟨hne,rfl⟩|⟨h0,vv,rfl,hT⟩
 ·obtain⟨er,her⟩:∃er,zY S v.root=er:=⟨_,rfl⟩
  rw[her]at hne⊢;have hnb:(er != 0)=M:=by rw[bne_iff_ne];exact hne
  replace⟨hne,her⟩:=zH2 hne her;go_wp2_with fail;obtain⟨rp3,re3,z3,xe3,o3⟩:=st5 (b:=w.heap.size) (x0:=s J 0 0) (x1:=s J 0 0) (x2:=s J 0 0) (x3:=s J 0 0) (ev:=U .i64 er) rp2 re2 rfl;obtain⟨ro4,re4,z4,xe4,o4⟩:=st9 (b:=w.heap.size) (p:=w.heap.size+3) zO zO ((o3 _ zO zO).trans ro2) re3 rfl;exact qbX hne.out (.inl her.out) rfl rfl ro4 re4 (xe4 (zM _) (xe3 (zM _) x2))
 obtain⟨a,lvl,xs,hra,ha8,hYA,hn,hsp⟩:∃(a lvl:Nat)(xs:List It),v.root=(a:Int)/\8<=a/\a<256/\qm (Zf S v.root) a=F ((lvl:Int),xs)/\(qC (Zf S v.root) lvl xs).isSome=M:=by obtain⟨h8,h256,lvl,xs,h1,h2⟩:=htr.out h0;exact⟨v.root.toNat,lvl,xs,zO,h8,h256,h1,h2⟩
 have hMN:qk (Zf S v.root)=M:=by
  obtain⟨hS,m,hm,h8,h256,-⟩:=KQ (show Js S v.root=0 by
   unfold zY at h0;split at h0;rename_i hh;exact absurd h0 hh
   ·rename_i hh;exact Classical.not_not.1 hh)
  exact qE.2 ⟨(qE.1 hS).1,(show Qu (QB S.now v.root.toNat 1)=M by rw[hm,Int.toNat_natCast];exact je (qE.1 hS).2.1 h8 _),(qE.1 hS).2.2⟩
 change zm w1.heap.size (Zf S v.root) vv w2 at hT;obtain⟨S1,hS1⟩:∃S1,Zf S v.root=S1:=⟨_,rfl⟩
 have hP1:=hP.out;rw[hS1]at hT hn hsp hMN hP1;replace hS1:=zH hS1;have hPe:P=XR S1 lvl xs a x:=by rw[<-hP1];unfold Um;rw[hra,Int.toNat_natCast,hn];rfl
 obtain⟨BB,WW,gg,B3,d3,B4,d4,rfl,-⟩:=id hT;have hns:=zH (vG (hT.newSto (QY hMN)));have HPx:=zH (λW hst hb=>qll (F ⟨BB,0,J⟩) S1.bs.length S1.bs.length (F ⟨WW,0,J⟩) S1.ws.length (S1.ws.length+1) B3 S1.now.length d3 B4 S1.last.length d4 S1 hMN a lvl xs ha8 hYA hn hsp x hxo.out Ax cx W hst hb);rw[<-hPe]at HPx;have hpm:=zH (λr S' (he:P=.ok (r,S'))=>qiw hMN ha8 hn hsp hxo.out (hPe▸he));have hpe:=zH (λer (he:P=.error er)=>qiv (hPe▸he));have h0':=zH h0;have hraH:=zH hra;rw[<-hra]at HPx;clear hT h0 hn hsp hPe hMN hP1 hra;go_wp2_with fail;generalize hw3:E (E (E (E (E w2 _ _) _ _) _ _) _ _) _ _=w3;obtain⟨rp3,re3,z3,xe3,o3⟩:=st5 (b:=w.heap.size) rp2 re2 hw3;have x3:=xe3 (zM _) x2;have rv3:=(o3 (w.heap.size+1) zO zO).trans rv2;have ro3:=(o3 (w.heap.size+3) zO zO).trans ro2;have hZT:=(hns.out w3 (jU λk h1 h2=>o3 k zO zO)).more (show w2.heap.size<=w3.heap.size by omega);have HP2:=HPx.out w3 hZT ((hxv.out.below x3).more x3.size);clear hw3 rp2 rv2 rx2 ro2 re2 kp2 kv2 kx2 ko2 ke2 fp2 fv2 fo2 fe2 xe3 hZT hns HPx o3;refine HP2.mono ?_;clear HP2;rintro e w4 ⟨u,rfl,hM,hB⟩;have x4:Ext w w4:=x3.trans hB;have rp4:=qb rp3 hB;have rv4:=qb rv3 hB;have ro4:=qb ro3 hB;have re4:=qb re3 hB;have z34:=hB.size;have kp4:=qa rp4;have kv4:=qa rv4;have ko4:=qa ro4;have ke4:=qa re4;have fp4:=qd rp4;have fv4:=qd rv4;have fo4:=qd ro4;have fe4:=qd re4;replace q0:w.heap.size<w4.heap.size:=zO;replace q1:w.heap.size+1<w4.heap.size:=zO;replace q3:w.heap.size+1+1+1<w4.heap.size:=zO;replace q4:w.heap.size+1+1+1+1<w4.heap.size:=zO;clear hB rp3 rv3 ro3 re3;rcases hq:P with er|⟨r2,S2⟩
 ·rw[hq]at hM;obtain rfl:=hM;have hne:=hpe.out er hq;have hnb:(er != 0)=M:=by rw[bne_iff_ne];exact hne
  have hce:Hid (JT S root next dead v P er):=zH (.inr ⟨h0'.out,.inl hq⟩);replace⟨hne,hq⟩:=zH2 hne hq;go_wp2_with fail;obtain⟨rp5,rv5,re5,z5,xe5,o5⟩:=st6 (b:=w.heap.size) (x0:=s J 0 0) (x1:=s J 0 0) (x2:=s J 0 0) (x3:=s J 0 0) (z:=U .i64 0) (ev:=U .i64 er) rp4 rv4 re4 rfl;obtain⟨ro6,re6,z6,xe6,o6⟩:=st9 (b:=w.heap.size) (p:=w.heap.size+3) zO zO ((o5 _ zO zO zO).trans ro4) re5 rfl;exact qbX hne.out hce.out rfl rfl ro6 re6 (xe6 (zM _) (xe5 (zM _) x4))
 rw[hq]at hM;obtain⟨vv,rfl,hT⟩:=hM;obtain⟨BB2,WW2,gg2,C3,g3,C4,g4,rfl,-⟩:=id hT;have hns:=zH (vG (hT.newSto (QY (hpm.out r2 S2 hq).1)));have hGQ:=zH (hT2.out h0'.out r2 S2 hq);have hr8:=(hpm.out r2 S2 hq).2;have hq':=zH hq;clear hT hq;go_wp2_with fail;generalize hw5:E (E (E (E (E (E w4 _ _) _ _) _ _) _ _) _ _) _ _=w5;obtain⟨rp5,rv5,re5,z5,xe5,o5⟩:=st6 (b:=w.heap.size) rp4 rv4 re4 hw5;have x5:=xe5 (zM _) x4;have ro5:=(o5 (w.heap.size+3) zO zO zO).trans ro4;have hNE:=(hns.out w5 (jU λk h1 h2=>o5 k zO zO zO)).more (show w4.heap.size<=w5.heap.size by omega);have hMG:XH (TG v r2):=⟨hvo.out.1,by simp only[TG];omega,hvo.out.2.2⟩
 have HS:=qcB (F ⟨BB2,0,J⟩) S2.bs.length S2.bs.length (F ⟨WW2,0,J⟩) S2.ws.length (S2.ws.length+1) C3 S2.now.length g3 C4 S2.last.length g4 gen root next A5 c5 S2 dead (TG v r2) hMG (λ_ _ _=>hGQ.out) w5 hNE (hd.out.ext_ x5)
 clear hw5 rp4 rv4 ro4 re4 kp4 kv4 ko4 ke4 fp4 fv4 fo4 fe4 xe5 hNE hns hGQ hMG o5;refine HS.mono ?_;clear HS;intro e w6 hQS;obtain⟨hB6,hS6⟩:=hQS.split;have x6:Ext w w6:=x5.trans hB6;have rp6:=qb rp5 hB6;have ro6:=qb ro5 hB6;have re6:=qb re5 hB6;have z56:=hB6.size;have kp6:=qa rp6;have ko6:=qa ro6;have ke6:=qa re6;have fp6:=qd rp6;have fo6:=qd ro6;have fe6:=qd re6;replace q0:w.heap.size<w6.heap.size:=zO;replace q3:w.heap.size+1+1+1<w6.heap.size:=zO;replace q4:w.heap.size+1+1+1+1<w6.heap.size:=zO;clear hQS hB6 rp5 rv5 ro5 re5 q1;rcases hS6 with⟨er,hne,rfl,hE⟩|⟨r3,S3,vs3,u,hO,rfl,hN⟩
 ·have hnb:(er != 0)=M:=by rw[bne_iff_ne];exact hne
  have hce:Hid (JT S root next dead v P er):=zH (.inr ⟨h0'.out,.inr ⟨r2,S2,hq'.out,.inl hE⟩⟩);replace hne:=zH hne;clear hE;go_wp2_with fail;obtain⟨rp7,re7,z7,xe7,o7⟩:=st9 (b:=w.heap.size) (p:=w.heap.size) (x0:=s J 0 0) (x1:=s J 0 0) (x2:=s J 0 0) (x3:=s J 0 0) (x4:=U .u32 0) (x5:=U .i64 0) (x6:=U .u32 0) (x7:=s J 0 0) (ev:=U .i64 er) zO zO rp6 re6 rfl;obtain⟨ro8,re8,z8,xe8,o8⟩:=st9 (b:=w.heap.size) (p:=w.heap.size+3) zO zO ((o7 _ zO zO).trans ro6) re7 rfl;exact qbX hne.out hce.out rfl rfl ro8 re8 (xe8 (zM _) (xe7 (zM _) x6))
 obtain⟨E1,e1,E2,e2,E3,e3,E4,e4,E5,e5,rfl,hcl⟩:=id hN;go_wp2_with fail;generalize hw7:E (E (E (E (E (E (E (E (E w6 _ _) _ _) _ _) _ _) _ _) _ _) _ _) _ _) _ _=w7;obtain⟨rp7,re7,z7,xe7,o7⟩:=st9 (b:=w.heap.size) (p:=w.heap.size) zO zO rp6 re6 hw7;have x7:=xe7 (zM _) x6;have ro7:=(o7 (w.heap.size+3) zO zO).trans ro6;obtain⟨hZU,wFV⟩:=hcl w7 (jU λk h1 h2=>o7 k zO zO);have HLv:=qct E1 _ e1 E2 _ e2 E3 _ e3 E4 _ e4 S3 v.root w7 (hZU.more zO);have wFI:=zH hcl;have o7H:=zH o7;clear hw7 rp6 ro6 re6 kp6 ko6 ke6 fp6 fo6 fe6 xe7 o7 hZU wFV hcl;replace⟨hN,hO⟩:=zH2 hN hO;refine HLv.mono ?_;clear HLv;rintro e w8 ⟨u,rfl,hL,hB⟩;have x78:Ext w7 w8:=hB;have x8:Ext w w8:=x7.trans hB;have rp8:=qb rp7 hB;have ro8:=qb ro7 hB;have re8:=qb re7 hB;have z78:=hB.size;have kp8:=qa rp8;have ko8:=qa ro8;have ke8:=qa re8;have fp8:=qd rp8;have fo8:=qd ro8;have fe8:=qd re8;replace q0:w.heap.size<w8.heap.size:=zO;replace q3:w.heap.size+1+1+1<w8.heap.size:=zO;replace q4:w.heap.size+1+1+1+1<w8.heap.size:=zO;clear hB rp7 ro7 re7;rcases hl:jX S3 v.root with er|S4
 ·rw[hl]at hL;obtain rfl:=hL;have hne:er≠0:=by unfold jX at hl;split at hl;unfold Vu at hl;split at hl;cases hl;decide;cases hl;rename_i hh;cases hl;exact hh
  have hce:Hid (JT S root next dead v P er):=zH (.inr ⟨h0'.out,.inr ⟨r2,S2,hq'.out,.inr ⟨r3,S3,vs3,hO.out,.inl hl⟩⟩⟩);replace⟨hne,hl⟩:=zH2 hne hl;go_wp2_with fail;obtain⟨rp9,re9,z9,xe9,o9⟩:=st5 (b:=w.heap.size) (x0:=s J 0 0) (x1:=s J 0 0) (x2:=s J 0 0) (x3:=s J 0 0) (ev:=U .i64 er) rp8 re8 rfl;obtain⟨roA,reA,zA,xeA,oA⟩:=st9 (b:=w.heap.size) (p:=w.heap.size+3) zO zO ((o9 _ zO zO).trans ro8) re9 rfl;exact qbX hne.out hce.out rfl rfl roA reA (xeA (zM _) (xe9 (zM _) x8))
 rw[hl]at hL;obtain⟨vv,rfl,hT⟩:=hL;obtain⟨BB4,WW4,gg4,G3,h3,G4,h4,rfl,-⟩:=id hT;have hSC:qk S4=M:=by obtain⟨_,_,_,_,_,_,_,_,refs9,nodes9,hp9,_⟩:=hO.out;exact qcN hp9.may hl
 have wGS:=zH (vG (hT.newSto (QY hSC)));replace hl:=zH hl;clear hT hSC;go_wp2_with fail;obtain⟨rp9,re9,z9,xe9,o9⟩:=st5 (b:=w.heap.size) (x0:=s (F ⟨BB4,0,J⟩) S4.bs.length S4.bs.length) (x1:=s (F ⟨WW4,0,J⟩) S4.ws.length (S4.ws.length+1)) (x2:=s G3 S4.now.length h3) (x3:=s G4 S4.last.length h4) (ev:=U .i64 0) rp8 re8 rfl;have roP:=(o9 (w.heap.size+3) zO zO).trans ro8;generalize hw9:E (E (E (E (E w8 _ _) _ _) _ _) _ _) _ _=w9 at*;generalize hwf:E (E (E (E (E (E (E (E (E w9 _ _) _ _) _ _) _ _) _ _) _ _) _ _) _ _) _ _=Wf;obtain⟨roA,reA,zA,xeA,oA⟩:=st9 (b:=w.heap.size) (p:=w.heap.size+3) zO zO roP re9 hwf;have yf:=xeA (zM _) (xe9 (zM _) x8);clear hwf hw9;have hk8:∀k,w7.heap.size<=k->k<w8.heap.size->Wf.heap[k]?=w8.heap[k]?:=λk h1 h2=>(oA k zO zO).trans (o9 k zO zO);have hk6:∀k,w5.heap.size<=k->k<w6.heap.size->Wf.heap[k]?=w6.heap[k]?:=λk h1 h2=>(oA k zO zO).trans ((o9 k zO zO).trans ((Below.block x78 k zO).trans (o7H.out k zO zO)));have x5s:=x5.size;have hN4:Jp w5 S4 gen (r3:Int) next dead (.agg (qQ (s BB4 S4.bs.length S4.bs.length) (s WW4 S4.ws.length (S4.ws.length+1)) (s G3 S4.now.length h3) (s G4 S4.last.length h4) gen (r3:Int) next (s E5 dead.length e5))) Wf:=
  ⟨_,_,_,_,_,_,_,_,_,_,rfl,λC hC=>⟨(wGS.out C λq v h1 h2 h3=>hC q v zO zO ((jz (hk8 q.block h1 h2)).trans h3)).more zO,((wFI.out C λq v h1 h2 h3=>hC q v zO zO ((jz (hk6 q.block h1 h2)).trans h3)).2.more zO)⟩⟩
 refine qho _ _ _ _ _ _ _ _ _ _ _ _ gen (r3:Int) next (s E5 dead.length e5) 0 S4 rfl rfl roA reA (λ_=>?_) (λ_ hE W' hT=>?_) (λe' W' h0 hE hT=>?_)
 obtain⟨F1,f1,F2,f2,F3,f3,F4,f4,F5,f5,ee,hst,hin⟩:=hN4.sto;simp only[qQ,Value.agg.injEq,Array.mk.injEq,List.cons.injEq,Value.slice.injEq,true_and,and_true]at ee;obtain⟨⟨rfl,rfl⟩,⟨rfl,rfl⟩,⟨rfl,rfl⟩,⟨rfl,rfl⟩,rfl,rfl⟩:=ee;exact hst;exact⟨hT.below yf zO zO zO,.inr ⟨r2,S2,r3,S3,vs3,S4,_,h0'.out,hq'.out,hO.out,hl.out,hE,rfl,hN4.keep x5s hT.size λk h1 h2=>hT.same k h2 zO zO⟩⟩;refine⟨hT.below yf zO zO zO,.inl ⟨e',h0,rfl,.inr ⟨h0'.out,.inr ⟨r2,S2,hq'.out,.inr ⟨r3,S3,vs3,hO.out,.inr ⟨S4,hl.out,?_⟩⟩⟩⟩⟩⟩;rcases hE with⟨_,h⟩|⟨h,_⟩
 exact h.symm;exact absurd rfl h
def qci(f l:K3)(ys:List It):Prop:=(∃a r,ys=a::r/\qz a=f)/\∃r b,ys=r++[b]/\qz b=l
theorem qci.one(x:It):qci (qz x) (qz x) [x]:=⟨⟨x,[],rfl,rfl⟩,[],x,rfl,rfl⟩
theorem qci.append{f l f' l':K3}(h:qci f l ys)(h':qci f' l' zs):qci f l' (ys++zs):=by obtain⟨⟨a,r,rfl,ha⟩,-⟩:=h;obtain⟨-,r',b,rfl,hb⟩:=h';exact⟨⟨a,_,rfl,ha⟩,(a::r)++r',b,zA3,hb⟩
theorem Ug{one:It->Option (K3×K3)}(h:Jf one acc y=F q):∃l,one y=F (qz y,l)/\((acc=F J/\q=F (qz y,l))\/∃f l0,acc=F (F (f,l0))/\Qm l0 (qz y)=M/\q=F (f,l)):=by unfold Jf at h;split at h;cases h;split at h;cases h;rename_i f l ho;split at h;rename_i hf;subst hf;refine⟨l,ho,?_⟩;split at h;cases h;exact .inl ⟨rfl,rfl⟩;rename_i f0 l0;split at h;rename_i hl;cases h;exact .inr ⟨f0,l0,rfl,hl,rfl⟩;cases h;cases h
theorem KD(S:Sto)(h:Nat)(xs:List It)(y:It):qC S h (xs++[y])=Jf (ju S h) (qC S h xs) y:=by unfold qC;rw[List.foldl_append];rfl
theorem qaf(xs:List It):xs=[]\/∃r y,xs=r++[y]:=by
 rcases List.eq_nil_or_concat xs with h|⟨r,y,h⟩
 exact .inl h;exact .inr ⟨r,y,by rw[h,List.concat_eq_append]⟩
section
variable {S:Sto} {h:Nat}
theorem Xz(H1:∀y f l,ju S h y=F (f,l)->qci f l (qy S h [y])):∀(n:Nat)(xs:List It),xs.length=n->∀f l,qC S h xs=F (F (f,l))->qci f l (qy S h xs)
 |0,xs,hn,f,l,e=>by obtain rfl:=List.eq_nil_of_length_eq_zero hn;cases e
 |n+1,xs,hn,f,l,e=>by
  rcases qaf xs with rfl|⟨r,y,rfl⟩
  simp at hn;rw[KD]at e;obtain⟨ly,ho,⟨wBG,hq⟩|⟨f0,l0,wBG,hl,hq⟩⟩:=Ug e;have hr:r=[]:=by
   rcases qaf r with rfl|⟨r',y',rfl⟩
   rfl;exfalso;rw[KD]at wBG;obtain⟨_,_,⟨_,e2⟩|⟨_,_,_,_,e2⟩⟩:=Ug wBG<;>cases e2
  subst hr;cases hq;exact H1 _ _ _ ho;cases hq;have hr:=Xz H1 n r (by simpa using hn) f l0 wBG;rw[Qc];exact hr.append (H1 _ _ _ ho)
end
theorem GM(S:Sto):∀(h:Nat)(y:It)(f l:K3),ju S h y=F (f,l)->qci f l (qy S h [y])
 |0,y,f,l,e=>by unfold ju at e;split at e;cases e;exact qci.one y;cases e
 |h+1,y,f,l,e=>by
  unfold ju at e;split at e;split at e;cases e;rename_i lvl xs hn;split at e;have e':(qC S h xs).getD J=F (f,l):=e;have hs:qC S h xs=F (F (f,l)):=by
   rcases hq:qC S h xs with _|q
   rw[hq]at e';cases e';rw[hq]at e';exact congrArg F e'
  have:=Xz (GM S h) _ xs rfl f l hs;simp only[qy,List.flatMap_cons,List.flatMap_nil,List.append_nil,hn];exact this;cases e;cases e
theorem qfr{f l:K3}(e:qC S h xs=F (F (f,l))):qci f l (qy S h xs):=Xz (GM S h) _ xs rfl f l e
def ku(S:Sto)(h:Nat)(xs:List It):Prop:=∀y∈xs,∃l,ju S h y=F (qz y,l)
theorem qfq:∀(n:Nat)(xs:List It),xs.length=n->(qC S h xs).isSome=M->ku S h xs
 |0,xs,hn,_=>by obtain rfl:=List.eq_nil_of_length_eq_zero hn;intro y hy;cases hy
 |n+1,xs,hn,e=>by
  rcases qaf xs with rfl|⟨r,y,rfl⟩
  simp at hn;obtain⟨q,e⟩:=Option.isSome_iff_exists.1 e;rw[KD]at e;obtain⟨l,ho,ha⟩:=Ug e;have hr:(qC S h r).isSome=M:=by rcases ha with⟨ha,_⟩|⟨_,_,ha,_⟩<;>rw[ha]<;>rfl
  intro z hz;rcases List.mem_append.1 hz with hz|hz
  exact qfq n r (by simpa using hn) hr z hz;rw[List.mem_singleton.1 hz];exact⟨l,ho⟩
theorem qlt:∀(n:Nat)(xs:List It),xs.length=n->ku S h xs->(qy S h xs).Pairwise (λa b=>Qm (qz a) (qz b)=M)->(qC S h xs).isSome=M
 |0,xs,hn,_,_=>by obtain rfl:=List.eq_nil_of_length_eq_zero hn;rfl
 |n+1,xs,hn,he,hp=>by
  rcases qaf xs with rfl|⟨r,y,rfl⟩
  simp at hn;rw[Qc]at hp;obtain⟨hp1,-,hp3⟩:=List.pairwise_append.1 hp;have hr:=qlt n r (by simpa using hn) (λz hz=>he z (List.mem_append_left _ hz)) hp1;obtain⟨l,ho⟩:=he y zA3;obtain⟨q,hq⟩:=Option.isSome_iff_exists.1 hr;rw[KD,hq];unfold Jf;rw[ho];simp only[if_true];rcases q with _|⟨f0,l0⟩
  rfl;obtain⟨-,r1,b,e1,hb⟩:=qfr hq;obtain⟨⟨a,r2,e2,ha⟩,-⟩:=GM S h y _ _ ho;have hl:Qm l0 (qz y)=M:=by rw[<-hb,<-ha];exact hp3 b (by rw[e1];simp) a (by rw[e2];simp)
  simp only[hl,if_true];rfl
theorem QJ:(qC S h xs).isSome=M↔ku S h xs/\(qy S h xs).Pairwise (λa b=>Qm (qz a) (qz b)=M):=
 ⟨λe=>⟨qfq _ xs rfl e,(jd e).1⟩,λe=>qlt _ xs rfl e.1 e.2⟩
theorem qbt(k:Nat):∀n,n<256^k->vH (qT n k)=n:=by
 induction k with
 |zero=>intro n h;simp at h;subst h;rfl
 |succ k ih=>
  intro n h;simp only[qT,vH];rw[ih (n/256) (by rw[Nat.div_lt_iff_lt_mul zO];rw[Nat.pow_succ]at h;exact h)];simp[UInt8.toNat_ofNat'];omega
theorem qaQ(h:n<256):(UInt8.ofNat n).toNat=n:=by simp[UInt8.toNat_ofNat'];omega
theorem qdb{l A r:List UInt8}{k:Nat}(h:l.drop a=A++r)(hA:A=qT n k)(hn:n<256^k)(hl:a+k<=l.length):ZE l a k=(n:Int):=by unfold ZE;rw[if_pos hl,h,List.take_left' (by rw[hA,QV]),hA,qbt k n hn]
theorem TT{l A r:List UInt8}{k:Nat}(h:l.drop a=A++r)(hk:A.length=k):l.drop (a+k)=r:=by rw[<-List.drop_drop,h,List.drop_left' hk]
theorem item_rt(h:QW x)(hb:itB x.r x.val.length=M)(r:List UInt8):Zj (ZO x++r)=F (x,12+x.val.length):=by
 obtain⟨⟨k0,k1⟩,⟨i0,i1⟩,⟨o0,o1⟩,⟨r0,r1⟩,hv⟩:=h;obtain⟨k,i,o,rr,v⟩:=x;obtain⟨k,rfl⟩:=Int.eq_ofNat_of_zero_le k0;obtain⟨i,rfl⟩:=Int.eq_ofNat_of_zero_le i0;obtain⟨o,rfl⟩:=Int.eq_ofNat_of_zero_le o0;obtain⟨rr,rfl⟩:=Int.eq_ofNat_of_zero_le r0;simp only at k1 i1 o1 r1 hv hb⊢;have hlen:(ZO ⟨(k:Int),(i:Int),(o:Int),(rr:Int),v⟩++r).length=12+v.length+r.length:=by rw[List.length_append,Tn]
 have d1:(ZO ⟨(k:Int),(i:Int),(o:Int),(rr:Int),v⟩++r).drop 1=qT i 4++(qT o 4++(qT rr 2++(UInt8.ofNat v.length::(v++r)))):=by simp[ZO,List.append_assoc]
 have e0:(ZO ⟨(k:Int),(i:Int),(o:Int),(rr:Int),v⟩++r)[0]?.getD 0=UInt8.ofNat k:=by simp[ZO]
 generalize ZO ⟨(k:Int),(i:Int),(o:Int),(rr:Int),v⟩++r=l at*;have d5:l.drop 5=_:=TT (k:=4) d1 (QV _ _);have d9:l.drop 9=_:=TT (k:=4) d5 (QV _ _);have d11:l.drop 11=_:=TT (k:=2) d9 (QV _ _);have d12:l.drop 12=v++r:=by rw[show 12=11+1 from rfl,<-List.drop_drop,d11];rfl
 have e11:l[11]?.getD 0=UInt8.ofNat v.length:=by
  have:l[11]?=(l.drop 11)[0]?:=by rw[List.getElem?_drop]
  rw[this,d11];rfl
 have hsz:Vy l=12+v.length:=by unfold Vy;rw[e11,qaQ zO]
 have hit:qbP l=⟨(k:Int),(i:Int),(o:Int),(rr:Int),v⟩:=by unfold qbP;rw[e0,qaQ zO,qdb d1 rfl zO zO,qdb d5 rfl zO zO,qdb d9 rfl zO zO,d12,hsz,List.take_left' zO]
 unfold Zj;rw[hit,hsz,if_neg zO];simp only[Nat.add_sub_cancel_left];rw[if_pos hb]
theorem its_rt(h:∀x∈xs,QW x/\itB x.r x.val.length=M)(r:List UInt8):∀k,k<=xs.length->zp (zo xs++r) k=F (xs.take k,zo (xs.drop k)++r)
 |0,_=>by simp[zp]
 |k+1,hk=>by
  have hk':k<xs.length:=zO;have hx:=h xs[k] (List.getElem_mem hk');have e:zo (xs.drop k)=ZO xs[k]++zo (xs.drop (k+1)):=by
   conv=>lhs;rw[List.drop_eq_getElem_cons hk']
   unfold zo;rw[List.flatMap_cons]
  have hr:Zj (zo (xs.drop k)++r)=F (xs[k],12+xs[k].val.length):=by rw[e,List.append_assoc];exact item_rt hx.1 hx.2 _
  rw[Gv (its_rt h r k zO) hr,List.take_succ_eq_append_getElem hk',e,List.append_assoc,List.drop_left' (Tn _)]
theorem node_rt(hm:Qq lvl xs=M)(hok:∀x∈xs,QW x):QO (Zm (QF lvl xs))=F (lvl,xs):=by
 obtain⟨h0,h6,h5,hit⟩:=Jh hm;obtain⟨L,rfl⟩:=Int.eq_ofNat_of_zero_le h0;have htl:(QF (L:Int) xs).length<=124:=by have:=Xi xs hok;unfold QF;simp only[List.length_cons];omega
 have hlen:(Zm (QF (L:Int) xs)).length=128:=Vx htl;have d0:(Zm (QF (L:Int) xs)).drop 0=qT (crc (Ys 124 (QF (L:Int) xs))) 4++Ys 124 (QF (L:Int) xs):=by simp[Zm]
 have d4:(Zm (QF (L:Int) xs)).drop 4=Ys 124 (QF (L:Int) xs):=by have:=TT (k:=4) d0 (QV _ _);simpa using this
 have ht4:(Zm (QF (L:Int) xs)).take 4=qT (crc (Ys 124 (QF (L:Int) xs))) 4:=by unfold Zm;exact List.take_left' (QV _ _)
 have hKJ:qbB (Zm (QF (L:Int) xs))=M:=by unfold qbB;rw[ht4,d4,qbt 4 _ (by have:=qjq (Ys 124 (QF (L:Int) xs));omega)];simp
 obtain⟨z,hz,hzz⟩:∃z,Ys 124 (QF (L:Int) xs)=78::UInt8.ofNat L::UInt8.ofNat xs.length::(zo xs++z)/\kJ z=M:=⟨List.replicate (124-(QF (L:Int) xs).length) 0,by simp[Ys,QF],by simp[kJ]⟩
 rw[hz]at d4;have g:∀j:Nat,(Zm (QF (L:Int) xs))[4+j]?=(78::UInt8.ofNat L::UInt8.ofNat xs.length::(zo xs++z))[j]?:=λj=>by rw[<-d4,List.getElem?_drop]
 have g4:=g 0;have g5:=g 1;have g6:=g 2;have d7:(Zm (QF (L:Int) xs)).drop 7=zo xs++z:=by rw[show 7=4+3 from rfl,<-List.drop_drop,d4];rfl
 simp only[Nat.add_zero,Nat.reduceAdd,List.getElem?_cons_zero,List.getElem?_cons_succ]at g4 g5 g6;rw[qbs hlen hKJ,g4,g5,g6,d7];simp only[Option.getD_some];rw[qaQ (show L<256 by omega),qaQ (show xs.length<256 by omega)];have hr:=its_rt (λx hx=>⟨hok x hx,hit x hx⟩) z xs.length (zM _);rw[List.take_length,List.drop_length]at hr;have e78:(78:UInt8).toNat=78:=rfl;rw[e78,qbr h5 hr,if_pos ⟨hm,by simpa [zo]using hzz⟩]
theorem SM.trans{S1 S2 S3:Sto}(h:SM S1 S2)(h':SM S2 S3):SM S1 S3:=⟨λr nd e=>h'.node r nd (h.node r nd e),λr e=>h'.pos r (h.pos r e)⟩
theorem kM(t:List UInt8)(ha:a<t.length)(v:UInt8)(b:Nat):qO (t.set a v) b=if b=a then v.toNat else qO t b:=by unfold qO;by_cases h:b=a;subst h;rw[if_pos rfl,List.getElem?_set_self ha];rfl;rw[if_neg h,List.getElem?_set_ne (Ne.symm h)]
theorem cnt_lt{t:List UInt8}(h:qO t a≠0):a<t.length:=by apply Classical.byContradiction;intro hn;exact h (by unfold qO;rw[List.getElem?_eq_none zO];rfl)
theorem cnt_u8(t:List UInt8)(a:Nat):qO t a<256:=UInt8.toNat_lt _
theorem Gi:∀{l:List Nat}{t t':List UInt8},ZI l t=.ok t'->∀b,b≠0->qO t' b=qO t b+l.count b
 |[],t,t',h,b,_=>by simp only[ZI]at h;cases h;simp
 |a::r,t,t',h,b,hb=>by simp only[ZI]at h;split at h;cases h;rename_i t1 h1;rw[Gi h b hb,List.count_cons];unfold Zz at h1;split at h1;rename_i h0;cases h1;rw[if_neg zA2];omega;split at h1;cases h1;split at h1;cases h1;rename_i h2 h3;cases h1;have hu:=cnt_u8 t a;unfold QB;rw[kM t (cnt_lt h2),qaQ zO];by_cases e:b=a;subst e;simp;omega;rw[if_neg e,if_neg zA2];omega
theorem UY:∀{l:List Nat}{t t':List UInt8},looseL l t=.ok t'->∀b,b≠0->qO t' b+l.count b=qO t b
 |[],t,t',h,b,_=>by simp only[looseL]at h;cases h;simp
 |a::r,t,t',h,b,hb=>by simp only[looseL]at h;rw[List.count_cons];split at h;rename_i h0;rw[if_neg zA2];exact UY h b hb;split at h;cases h;rename_i h0 h2;have:=UY h b hb;have hu:=cnt_u8 t a;unfold Vi at this;rw[kM t (cnt_lt h2),qaQ zO]at this;by_cases e:b=a;subst e;rw[if_pos rfl]at this;simp;omega;rw[if_neg e]at this;rw[if_neg zA2];omega
theorem now0(hS:qk S=M):qO S.now 0=0:=qbC (qE.1 hS).2.1
theorem span_nil(e:qC S h xs=F J):xs=[]:=by
 rcases qaf xs with rfl|⟨r,y,rfl⟩
 rfl;exfalso;rw[KD]at e;obtain⟨_,_,⟨_,e2⟩|⟨_,_,_,_,e2⟩⟩:=Ug e<;>cases e2
theorem YI(hS:qk S=M)(hio:∀x∈p,QW x)(hsp:(qC S h p).isSome=M)(e:Zb S (h:Int) p=.ok (f,S')):SM S S'/\qk S'=M/\(∀b,b≠0->qO S.now b+(qB p).count b<=qO S'.now b)/\qm S' f=F ((h:Int),p)/\8<=f/\f<256:=by
 obtain⟨t,hm,ht,hw,h8,hf,hfb,rfl,htm⟩:=GJ hS e;have hmay:=(YH hio hS e).1;have hl:=KF htm;have hc:=Gi ht;have h0:qO t f=0:=by unfold jD at hfb;simp only[Bool.and_eq_true,decide_eq_true_eq]at hfb;exact hfb.2.1
 have s1:SM S (qu S t):=qgA λr hr=>by by_cases hr0:r=0;subst hr0;have:=now0 hS;unfold qO at this;omega;have:=hc r hr0;unfold qO at this;omega
 have s2:SM (qu S t) (vI (qu S t) f (Zm (QF (h:Int) p))):=sm_put _ h0 (by show f<t.length;omega);refine⟨s1.trans s2,hmay,λb hb=>?_,?_,h8,hf⟩;show _<=qO (t.set f 1) b;rw[kM t zO];have:=hc b hb;split;rename_i e;subst e;have e1:(1:UInt8).toNat=1:=rfl;omega;omega;rw[qij (show f<t.length by omega)];exact node_rt hm hio
theorem made_one(hn:qm S f=F ((h:Int),p))(h8:8<=f)(hf:f<256)(hsp:(qC S h p).isSome=M)(hne:p≠[]):(∃l,ju S (h+1) (jG (jF p) f)=F (qz (jG (jF p) f),l))/\qy S (h+1) [jG (jF p) f]=qy S h p:=by
 have hr:(jG (jF p) f).r=(f:Int):=rfl;have hk:qz (jG (jF p) f)=jF p:=rfl;constructor;rcases hq:qC S h p with _|_|⟨f0,l0⟩
 rw[hq]at hsp;cases hsp;exact absurd (span_nil hq) hne;refine⟨l0,?_⟩;have hf0:f0=jF p:=by
  obtain⟨x,r,rfl⟩:∃x r,p=x::r:=by
   cases p with
   |nil=>exact absurd rfl hne
   |cons x r=>exact⟨x,r,rfl⟩
  obtain⟨⟨a,r1,e1,ha⟩,-⟩:=qfr hq;obtain⟨l,ho⟩:=(QJ.1 hsp).1 x List.mem_cons_self;obtain⟨⟨a2,r2,e2,ha2⟩,-⟩:=GM S h x _ _ ho;have:qy S h (x::r)=qy S h [x]++qy S h r:=Qc h [x] r;rw[this,e2,List.cons_append,List.cons.injEq]at e1;rw[<-ha,<-e1.1,ha2];rfl
 rw[Ji,hr,hk];unfold vT;rw[if_pos zO];simp only[Int.toNat_natCast,hn,if_true,hq,Option.getD_some,hf0];simp only[qy,List.flatMap_cons,List.flatMap_nil,List.append_nil,hr,Int.toNat_natCast,hn]
theorem SM.each(hm:SM S S')(e:ku S h xs):ku S' h xs:=λy hy=>by obtain⟨l,ho⟩:=e y hy;exact⟨l,hm.one h y _ ho⟩
theorem jT(h1:ku S h xs)(h2:ku S h ys):ku S h (xs++ys):=λy hy=>(List.mem_append.1 hy).elim (h1 y) (h2 y)
theorem qcU:∀{ps:List (List It)}{S S':Sto}{up:List It},(∀p∈ps,p≠[]/\(∀x∈p,QW x)/\(qC S h p).isSome=M)->qk S=M->makeL (h:Int) ps S=.ok (up,S') ->
  SM S S'/\qk S'=M/\(∀b,b≠0->qO S.now b+(qB ps.flatten).count b<=qO S'.now b)/\ku S' (h+1) up/\qy S' (h+1) up=qy S h ps.flatten
 |[],S,S',up,_,hS,e=>by cases e;exact⟨⟨λ_ _ e=>e,λ_ e=>e⟩,hS,λb _=>by simp[qB],λy hy=>(List.not_mem_nil hy).elim,by simp[JN]⟩
 |p::ps,S,S',up,hp,hS,e=>by
  simp only[makeL]at e;split at e;cases e;rename_i f S1 e1;obtain⟨hne,hio,hsp⟩:=hp p List.mem_cons_self;obtain⟨m1,hS1,hc1,hn1,h8,hf⟩:=YI hS hio hsp e1;split at e;cases e;rename_i up1 S2 e2;cases e;obtain⟨m2,hS2,hc2,he2,hi2⟩:=qcU (λq hq=>⟨(hp q (List.mem_cons_of_mem _ hq)).1,(hp q (List.mem_cons_of_mem _ hq)).2.1,m1.spanOk (hp q (List.mem_cons_of_mem _ hq)).2.2⟩) hS1 e2;have hsp2:=m2.spanOk (m1.spanOk hsp);obtain⟨ho,hi⟩:=made_one (m2.node _ _ hn1) h8 hf hsp2 hne;refine⟨m1.trans m2,hS2,λb hb=>?_,?_,?_⟩;have:=hc1 b hb;have:=hc2 b hb;simp only[List.flatten_cons,qB,List.map_append,List.count_append]at*;omega;intro y hy;rcases List.mem_cons.1 hy with rfl|hy
  exact ho;exact he2 y hy;have e3:jG (jF p) f::up1=[jG (jF p) f]++up1:=rfl;rw[e3,Qc,hi,hi2,List.flatten_cons,Qc,(m1.trans m2).items h p hsp];congr 1;have:∀qs:List (List It),(∀q∈qs,(qC S h q).isSome=M)->qy S1 h qs.flatten=qy S h qs.flatten:=λqs=>by
   induction qs with
   |nil=>intro _;simp[JN]
   |cons q qs ih=>
    intro hq;rw[List.flatten_cons,Qc,Qc,m1.items h q (hq q List.mem_cons_self),ih λq' hq'=>hq q' (List.mem_cons_of_mem _ hq')]
  exact this ps λq hq=>(hp q (List.mem_cons_of_mem _ hq)).2.2
theorem each_pos(e:ku S h xs)(hx:x∈xs)(h0:x.r.toNat≠0):0<qO S.now x.r.toNat:=by
 obtain⟨l,ho⟩:=e x hx;cases h with
 |zero=>
  unfold ju at ho;split at ho;rename_i hc;rcases hc with hc|hc
  rw[hc]at h0;exact absurd rfl h0;exact hc;cases ho
 |succ h=>
  unfold ju at ho;split at ho;split at ho;cases ho;rename_i hn;unfold qm at hn;split at hn;cases hn;rename_i hc;unfold qO;omega;cases ho
theorem qdi(l:List It):(Zi l).flatten=l:=by unfold Zi;split<;>simp
theorem vk(e:(qC S h (xs++ys++zs)).isSome=M):(qC S h ys).isSome=M:=by obtain⟨h1,h2⟩:=QJ.1 e;rw[Qc,Qc]at h2;exact QJ.2 ⟨λy hy=>h1 y (by simp[hy]),(List.pairwise_append.1 (List.pairwise_append.1 h2).1).2.1⟩
theorem Vq{l held up:List It}(hS:qk S=M)(hl:∀x∈l,QW x)(hh:∀x∈held,itB x.r x.val.length=M)(wHC:∀b,b≠0->(qB held).count b<=(qB l).count b)(hne:l≠[])(hsp:(qC S h l).isSome=M)(e:Qr S (h:Int) l held=.ok (up,S')):SM S S'/\qk S'=M/\(qC S' (h+1) up).isSome=M/\qy S' (h+1) up=qy S h l/\up≠[]:=by
 have hmay:=jV hl hh hS e;unfold Qr at e;split at e;cases e;rename_i up1 S1 e1;split at e;cases e;rename_i t e2;cases e;have hp:∀p∈Zi l,p≠[]/\(∀x∈p,QW x)/\(qC S h p).isSome=M:=λp hp=>by
  refine⟨?_,Ty hl p hp,?_⟩;intro hn;subst hn;unfold Zi at hp;split at hp;rename_i h5;simp only[List.mem_cons,List.not_mem_nil,or_false]at hp;rcases hp with hp|hp
  have:=congrArg List.length hp;simp at this;omega;have:=congrArg List.length hp;simp at this;omega;simp only[List.mem_cons,List.not_mem_nil,or_false]at hp;exact hne hp.symm;unfold Zi at hp;split at hp;simp only[List.mem_cons,List.not_mem_nil,or_false]at hp;rcases hp with rfl|rfl
  exact vk (xs:=[]) (zs:=l.drop 3) (by simpa using hsp);exact vk (xs:=l.take 3) (zs:=[]) (by simpa using hsp);simp only[List.mem_cons,List.not_mem_nil,or_false]at hp;subst hp;exact hsp
 obtain⟨m1,hS1,hc,he,hi⟩:=qcU hp hS e1;rw[qdi]at hc hi;have hlc:=UY e2;have m2:SM S1 (qu S1 t):=qgA λr hr=>by
  show 0<qO t r;have hr':0<qO S1.now r:=hr;by_cases hr0:r=0;subst hr0;have:=now0 hS1;omega;have h1:=hc r hr0;have h2:=hlc r hr0;have h3:=wHC r hr0;by_cases hz:(qB l).count r=0;omega;obtain⟨x,hx,hxr⟩:∃x∈l,x.r.toNat=r:=by have:=List.count_pos_iff.1 (Nat.pos_of_ne_zero hz);unfold qB at this;simpa using this
  have:=each_pos (QJ.1 hsp).1 hx zO;rw[hxr]at this;omega
 have hQI:(qy S1 (h+1) up).Pairwise (λa b=>Qm (qz a) (qz b)=M):=by rw[hi];exact(QJ.1 hsp).2
 have hs1:(qC S1 (h+1) up).isSome=M:=QJ.2 ⟨he,hQI⟩;refine⟨m1.trans m2,hmay.1,m2.spanOk hs1,?_,?_⟩;rw[m2.items (h+1) up hs1,hi];intro hn;have h2:=hmay.2.1;rw[hn]at h2;unfold Zi at h2;split at h2<;>simp at h2
def KM(k:K3)(x:It)(l:List It):List It:=(l.filter λy=>Qm (qz y) k)++[x]++l.filter λy=>Qm k (qz y)
abbrev Ord(l:List It):Prop:=l.Pairwise λa b=>Qm (qz a) (qz b)=M
theorem VQ(k:K3):Qm k k=false:=Xl k
theorem qbZ(h:Ord l):Ord (KM (qz x) x l):=by
 unfold KM;refine List.pairwise_append.2 ⟨List.pairwise_append.2 ⟨h.sublist List.filter_sublist,List.pairwise_singleton _ _,λa ha b hb=>?_⟩,h.sublist List.filter_sublist,λa ha b hb=>?_⟩;rw[List.mem_singleton.1 hb];exact(List.mem_filter.1 ha).2;have h2:=(List.mem_filter.1 hb).2;rcases List.mem_append.1 ha with ha|ha
 exact vU (List.mem_filter.1 ha).2 h2;rw[List.mem_singleton.1 ha];exact h2
theorem qkY{A B C:List It}(hA:∀y∈A,Qm (qz y) k=M)(hC:∀y∈C,Qm k (qz y)=M):KM k x (A++B++C)=A++KM k x B++C:=by
 have a1:A.filter (λy=>Qm (qz y) k)=A:=List.filter_eq_self.2 hA;have a2:A.filter (λy=>Qm k (qz y))=[]:=List.filter_eq_nil_iff.2 λy hy e=>by have:=vU (hA y hy) e;rw[VQ]at this;cases this
 have c1:C.filter (λy=>Qm k (qz y))=C:=List.filter_eq_self.2 hC;have c2:C.filter (λy=>Qm (qz y) k)=[]:=List.filter_eq_nil_iff.2 λy hy e=>by have:=vU (hC y hy) e;rw[VQ]at this;cases this
 unfold KM;simp only[List.filter_append,a1,a2,c1,c2,List.append_nil,List.nil_append,List.append_assoc]
theorem qhU(h:Ord xs):Ze xs (qD xs k) (JS k 0 xs) [x]=KM k x xs:=by
 have hp:=λi hi=>JH (k:=k) h i hi;have hle:=JI xs k;have e1:xs.take (qD xs k)=xs.filter λy=>Qm (qz y) k:=by
  conv=>rhs;rw[<-List.take_append_drop (qD xs k) xs]
  rw[List.filter_append,List.filter_eq_self.2,List.filter_eq_nil_iff.2,List.append_nil];intro y hy e;obtain⟨i,hi,rfl⟩:=List.mem_iff_getElem.1 hy;rw[List.length_drop]at hi;rw[List.getElem_drop]at e;have:=(hp _ zO).1 e;omega;intro y hy;obtain⟨i,hi,rfl⟩:=List.mem_iff_getElem.1 hy;rw[List.length_take]at hi;rw[List.getElem_take];exact(hp _ zO).2 zO
 have hk:∀i (hi:i<xs.length),Qm k (qz xs[i])=M↔qD xs k+JS k 0 xs<=i:=λi hi=>by
  unfold JS;by_cases hlt:qD xs k<xs.length;rw[vn hlt];by_cases he:qz xs[qD xs k]=k;rw[if_neg (by simp[he])];constructor;intro e;apply Classical.byContradiction;intro hn;by_cases hi2:i<qD xs k;have:=vU e ((hp i hi).2 hi2);rw[VQ]at this;cases this;obtain rfl:i=qD xs k:=zO;rw[he,VQ]at e;cases e;intro hi2;have:=Yq h (i:=qD xs k) (j:=i) zO hi
  rwa [he]at this
  rw[if_pos (by simp[he])];have hge:Qm (qz xs[qD xs k]) k=false:=by rw[<-Bool.not_eq_true];intro e;have:=(hp _ hlt).1 e;omega
  have hgt:Qm k (qz xs[qD xs k])=M:=by
   rcases hq:Qm k (qz xs[qD xs k])with _|_
   exact absurd (qfX hq hge) he;rfl
  constructor;intro e;apply Classical.byContradiction;intro hn;have:=vU e ((hp i hi).2 zO);rw[VQ]at this;cases this;intro hi2;by_cases hi3:i=qD xs k;subst hi3;exact hgt;exact vU hgt (Yq h zO hi);rw[kO hlt,if_pos zA3];constructor;intro e;have:=vU e ((hp i hi).2 zO);rw[VQ]at this;cases this;intro hi2;omega
 have e2:xs.drop (qD xs k+JS k 0 xs)=xs.filter λy=>Qm k (qz y):=by
  conv=>rhs;rw[<-List.take_append_drop (qD xs k+JS k 0 xs) xs]
  rw[List.filter_append,List.filter_eq_nil_iff.2,List.filter_eq_self.2,List.nil_append];intro y hy;obtain⟨i,hi,rfl⟩:=List.mem_iff_getElem.1 hy;rw[List.length_drop]at hi;rw[List.getElem_drop];exact(hk _ zO).2 zO;intro y hy e;obtain⟨i,hi,rfl⟩:=List.mem_iff_getElem.1 hy;rw[List.length_take]at hi;rw[List.getElem_take]at e;have:=(hk _ zO).1 e;omega
 unfold Ze KM;rw[e1,e2]
end Go.Proofs.YtmeadnlmepcmbaaGreat
