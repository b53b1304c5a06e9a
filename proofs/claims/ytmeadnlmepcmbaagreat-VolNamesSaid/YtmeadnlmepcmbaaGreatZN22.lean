/- Lemmas of the proof. -/
import Derived.Test.YtmeadnlmepcmbaaGreatZN21
set_option linter.all false
set_option maxHeartbeats 8000000
open Go.Proofs.Tryz
namespace Go.Proofs.YtmeadnlmepcmbaaGreat
open Go.RowKit
def VT (S:Sto) (a:Nat):Except Int Sto:=match QL S (-1) S.now a with
 |none=>.error 8
 |some t=>.ok (qy S t)
def JM (S:Sto) (a:Int):Except Int Sto:=if jt S a=0 then VT S a.toNat else .error (jt S a)
theorem qgn {S:Sto} {a:Nat} (h:QL S (-1) S.now a=none):VT S a=.error 8:=by unfold VT;rw[h]
theorem qgo {S:Sto} {a:Nat} {t:List UInt8} (h:QL S (-1) S.now a=some t):VT S a=.ok (qy S t):=by unfold VT;rw[h]
def StoE (q:Except Int Sto) (lo:Nat) (u:Value) (W:World):Prop:=match q with
 | .error e=>u=.tuple #[Qk none 0 0 none 0 0 none 0 0 none 0 0,.int .i64 e]
 | .ok S'=>∃ v,u=.tuple #[v,.int .i64 0]/\zl lo S' v W
theorem qhX {S:Sto} {a:Int} (h:jt S a≠0):JM S a=.error (jt S a):=by unfold JM;rw[if_neg h]
theorem qkf {S:Sto} {a:Nat} (h:jt S a=0):JM S a=VT S a:=by unfold JM;rw[if_pos h,Int.toNat_natCast]
theorem TC {R:Ending->World->Prop} {a:Act} {W:World} {b:Nat} {x0 x1 x2 x3 v:Value} (h4:a.tmps[4]?.getD undef=.pointer (some ⟨b,0,none⟩)) (h5:a.tmps[5]?.getD undef=v) (hd:a.defers=[]) (hCA:W.heap[b]?=some (.cells #[x0,x1,x2,x3] 28 (0,0))) (hR:R (.returned (.tuple #[.agg #[x0,x1,x2,x3],v])) W):bodyPost prog Tryz.f80 R .ret a W:=by
 refine bodyPost_ret (v:=.tuple #[.agg #[x0,x1,x2,x3],v]) ?_ hd hR;have k:=qa hCA;simp[results,results80,go_sem,h4,h5,k]
set_option maxRecDepth 100000 in
theorem qfS (D:Nat->Prop) (B lo b g:Nat) (k:Option Nat) (S:Sto) (hS:ql S=true) (a:Nat) (ha:8<=a) (ha2:a<256) (bat:Nat) (w:World) (hat:w.heap[bat]?=some (.cells #[.int .i64 (a:Int)] 3 (0,0))) (h:Bch D B lo b g k S w):Calls prog 142 #[.pointer (some ⟨b,0,none⟩),.pointer (some ⟨bat,0,none⟩)] w (jW D B lo b g k S a w):=by
 have HB:=zH (qba D B lo b g k S hS a ha ha2 w h);have ka:=qa hat;clear h;go_enter func142,ntmps142;go_wp2_with fail;refine HB.out.mono ?_;clear HB;intro e W hQ;obtain⟨er,rfl⟩:∃ er,e=.returned (.int .i64 er):=by
  obtain⟨_,hc⟩:=hQ;split at hc
  ·exact⟨_,hc⟩
  ·exact⟨_,hc.1⟩
 replace hQ:=zH hQ;go_wp2_with fail;go_ret;exact hQ.out
set_option maxRecDepth 100000 in
theorem qhD (A1 n1 c1 A2 n2 c2 A3 n3 c3 A4 n4 c4) (S:Sto) (hS:ql S=true) (a:Nat) (ha:8<=a) (ha2:a<256) (bat:Nat) (w:World) (hat:w.heap[bat]?=some (.cells #[.int .i64 (a:Int)] 3 (0,0))) (h:qZ w w.heap.size (.slice A1 n1 c1) (.slice A2 n2 c2) (.slice A3 n3 c3) (.slice A4 n4 c4) S):Calls prog 139 #[Qk A1 n1 c1 A2 n2 c2 A3 n3 c3 A4 n4 c4,.func (.func 142) #[] #[.pointer (some ⟨bat,0,none⟩)]] w (zF (StoE (VT S a) w.heap.size) w):=by
 obtain⟨q,hq⟩:∃ q,VT S a=q:=⟨_,rfl⟩
 rw[hq];replace hq:=zH hq;have HON:=zH (fun W (hx:Ext w W)=>qbL A1 n1 c1 A2 n2 c2 A3 n3 c3 A4 n4 c4 S (by have:=(qX hS).2.2.1;omega) W (h.ext hx));replace h:=zH h;replace hS:=zH hS;go_enter func139,ntmps139;go_wp2_with fail;generalize hw1:(World.alloc (World.alloc w _) _)=w1;have x1:Ext w w1:=by rw[<-hw1];exact(zN _ _).trans (zN _ _)
 have ro1:w1.heap[w.heap.size+1]?=some (.cells #[.slice none 0 0,.slice none 0 0,.slice none 0 0,.slice none 0 0] 28 (0,0)):=by rw[<-hw1];exact zI _ _ _ zA2
 clear hw1;refine(HON.out w1 x1).mono ?_;clear HON;rintro e w2 ⟨u,rfl,⟨b,P3,d3,rfl,hlo,hCA,hBQ⟩,hB⟩;have x12:Ext w1 w2:=hB;have x2:Ext w w2:=x1.trans x12;have ro2:=qb ro1 x12;obtain⟨g,hUE⟩:=Bch.of_on (B:=w.heap.size) x1.size hS.out (h.out.below x2) hlo hCA hBQ;have HL:=zH (qfS (fun _=>False) w.heap.size w1.heap.size b g none S hS.out a ha ha2 bat w2 (qb hat x2) hUE);have nB:¬B3 b g none (w.heap.size+1):=hUE.notB3 ro2 zD zD zD;replace hUE:=zH hUE;clear hB ro1 hCA hBQ;go_wp2_with fail;refine HL.out.mono ?_;clear HL;rintro e w3 ⟨hK,hQ⟩;have ro3:=hK.row ro2 nB;have x3:Below w.heap.size w w3:=Below.trans x2 (Below.mono hK.below x1.size);have zo3:=(zG.1 ro3).1;have ko3:=qa ro3;have fo3:=qd ro3;clear hK nB ro2 hUE;rcases hl:QL S (-1) S.now a with _|t
 ·rw[hl] at hQ;obtain rfl:=hQ;obtain rfl:q=.error 8:=by rw[<-hq.out,qgn hl]
  clear hl hq;go_wp2_with fail;exact Gh (b:=w.heap.size+1) rfl rfl rfl (Vn ro3 _ _ _ _) ⟨_,rfl,rfl,zm x3 zO _ _ _ _⟩
 ·rw[hl] at hQ;obtain⟨rfl,hb3⟩:=hQ;have hq2:=zH (show q=.ok (qy S t) by rw[<-hq.out,qgo hl]);obtain⟨E1,m1,e1,E2,m2,e2,e3,E4,e4,hrb,hsb⟩:=hb3.sto;have hsh:XY (qy S t):=QS (qF.2 ⟨(qF.1 hS.out).1,Ye ha (qF.1 hS.out).2.1 hl,(qF.1 hS.out).2.2⟩);have HT:=zH (VP b E1 m1 e1 E2 m2 e2 (some ⟨g,0,none⟩) 256 e3 E4 256 e4 (qy S t) hsh w3 hrb hsb);replace hl:=zH hl;clear hb3 hrb hsb hsh ko3 fo3;go_wp2_with fail;refine HT.out.mono ?_;clear HT;rintro e w4 ⟨u,rfl,hu,hB⟩;have hB4:Ext w3 w4:=hB;have x4:Below w.heap.size w w4:=x3.trans (Below.mono hB4 x3.size);have ro4:=qb ro3 hB4;have ko4:=qa ro4;have fo4:=qd ro4;have hK:=fun x0 x1 x2 x3'=>hu.set4 (b:=w.heap.size+1) (show w.heap.size<=w3.heap.size by omega) zo3 x0 x1 x2 x3';obtain⟨BB,WW,gg,B3,d3,B4,d4,rfl,-⟩:=id hu;replace hK:=zH hK;replace hu:=zH hu;clear hB ro3 x3;go_wp2_with fail;exact Gh (b:=w.heap.size+1) rfl rfl rfl (Vn ro4 _ _ _ _) ⟨_,rfl,by rw[hq2.out];exact⟨_,rfl,hK.out _ _ _ _⟩,zm x4 zO _ _ _ _⟩
set_option maxRecDepth 100000 in
theorem qhE (A1 n1 c1 A2 n2 c2 A3 n3 c3 A4 n4 c4) (S:Sto) (a:Int) (w:World) (h:qZ w w.heap.size (.slice A1 n1 c1) (.slice A2 n2 c2) (.slice A3 n3 c3) (.slice A4 n4 c4) S):Calls prog 80 #[Qk A1 n1 c1 A2 n2 c2 A3 n3 c3 A4 n4 c4,.int .i64 a] w (zF (StoE (JM S a) w.heap.size) w):=by
 have HA:=zH (fun W (hx:Ext w W)=>GU A1 n1 c1 A2 n2 c2 A3 n3 c3 A4 n4 c4 S a W (h.ext hx));obtain⟨q,hq⟩:∃ q,JM S a=q:=⟨_,rfl⟩
 rw[hq];replace hq:=zH hq;replace h:=zH h;go_enter func80,ntmps80;go_wp2_with fail;generalize hw1:(World.alloc (World.alloc (World.alloc w _) _) _)=w1;have x1:Ext w w1:=by rw[<-hw1];exact((zN _ _).trans (zN _ _)).trans (zN _ _)
 have rs1:w1.heap[w.heap.size]?=some (.cells #[.slice A1 n1 c1,.slice A2 n2 c2,.slice A3 n3 c3,.slice A4 n4 c4] 28 (0,0)):=by rw[<-hw1];exact(zK _ _ _ (by simp;try omega)).trans ((zK _ _ _ zA2).trans (zI _ _ _ rfl))
 have ra1:w1.heap[w.heap.size+1]?=some (.cells #[.int .i64 a] 3 (0,0)):=by rw[<-hw1];exact(zK _ _ _ zA2).trans (zI _ _ _ zA2)
 have ro1:w1.heap[w.heap.size+2]?=some (.cells #[.slice none 0 0,.slice none 0 0,.slice none 0 0,.slice none 0 0] 28 (0,0)):=by rw[<-hw1];exact zI _ _ _ zA2
 have kk1:=qa ra1;have ks1:=qa rs1;clear hw1;go_wp2_with fail;refine(HA.out w1 x1).mono ?_;clear HA;rintro e w2 ⟨rfl,hB⟩;have x2:Ext w w2:=x1.trans hB;have rs2:=qb rs1 hB;have ra2:=qb ra1 hB;have ro2:=qb ro1 hB;clear hB rs1 ro1 x1 ks1 kk1 ra1;by_cases h0:jt S a=0
 ·obtain⟨hS,m,rfl,hm8,hNV,hnz⟩:=Vt h0;have HD:=qhD A1 n1 c1 A2 n2 c2 A3 n3 c3 A4 n4 c4 S hS m hm8 hNV (w.heap.size+1) w2 ra2 (h.out.ext x2);have ks2:=qa rs2;rw[(show VT S m=q by rw[<-hq.out,qkf h0])] at HD;rw[h0];replace hS:=zH hS;clear hnz h0 hq;go_wp2_with fail;refine HD.mono ?_;clear HD;rintro e w3 ⟨u,rfl,hT,hB⟩;have x3:Ext w w3:=x2.trans hB;have ro3:=qb ro2 hB;have zo2:w.heap.size+2<w2.heap.size:=(zG.1 ro2).1;have ko3:=qa ro3;have fo3:=qd ro3;clear hB ks2 rs2 ra2 ro2 x2;rcases q with er|S'
  ·obtain rfl:=hT;go_wp2_with fail;exact TC (b:=w.heap.size+2) rfl rfl rfl (Vn ro3 _ _ _ _) ⟨_,rfl,rfl,zm x3 zO _ _ _ _⟩
  ·obtain⟨v,rfl,hT⟩:=hT;have hK:=fun x0 x1 x2 x3'=>hT.set4 (b:=w.heap.size+2) (show w.heap.size<=w2.heap.size by omega) zo2 x0 x1 x2 x3';obtain⟨BB,WW,gg,B3,d3,B4,d4,rfl,hD,hN,hL⟩:=hT;replace hK:=zH hK;clear hD hN hL;go_wp2_with fail;exact TC (b:=w.heap.size+2) rfl rfl rfl (Vn ro3 _ _ _ _) ⟨_,rfl,⟨_,rfl,hK.out _ _ _ _⟩,zm x3 zO _ _ _ _⟩
 ·obtain⟨er,her⟩:∃ er,jt S a=er:=⟨_,rfl⟩
  obtain rfl:q=.error er:=by rw[<-hq.out,qhX h0,her]
  rw[her] at h0 ⊢;have he:(er != 0)=true:=by rw[bne_iff_ne];exact h0
  have ko2:=qa ro2;have fo2:=qd ro2;clear her hq h0;go_wp2_with fail;exact TC (b:=w.heap.size+2) rfl rfl rfl (Vn ro2 _ _ _ _) ⟨_,rfl,rfl,zm x2 zO _ _ _ _⟩
def qaW (S:Sto) (root next:Int) (dead:List Int) (v:Vol) (er:Int):Prop:=(er=8/\Zp S root next dead)\/∃ vs refs nodes,Qo S root next dead vs/\qY S (Qj root dead vs) refs nodes/\QB S refs /\
 (jz S next v vs refs=er\/(jz S next v vs refs=0/\(setE S root v=.error er\/(er=8/\∃ r S',setE S root v=.ok (r,S')/\Zp S' (r:Int) next dead))))
def GK (S:Sto) (root next:Int) (dead:List Int) (v:Vol) (r:Nat) (S':Sto) (vs':List Vol):Prop:=∃ vs refs nodes,Qo S root next dead vs/\qY S (Qj root dead vs) refs nodes/\QB S refs /\
 jz S next v vs refs=0/\setE S root v=.ok (r,S')/\qaU S' (r:Int) next dead vs'
theorem SetQ.split {S:Sto} {gen root next:Int} {dead:List Int} {v:Vol} {w w':World} {e:Ending} (h:SetQ S gen root next dead v w e w'):Below w.heap.size w w' /\ ((∃ er,er≠0/\e=.returned (.tuple #[vE,.int .i64 er])/\qaW S root next dead v er) \/
   ∃ r S' vs' u,GK S root next dead v r S' vs'/\e=.returned (.tuple #[u,.int .i64 0])/\jx w.heap.size S' gen (r:Int) next dead u w'):=by
 obtain⟨hB,h⟩:=h;refine⟨hB,?_⟩;rcases h with ⟨rfl,hb⟩|⟨vs,refs,nodes,hp,hc,he,h⟩
 ·exact .inl ⟨8,zD,rfl,.inl ⟨rfl,hb⟩⟩
 ·rcases h with ⟨er,h0,e1,h⟩|⟨r,S',vs',u,h1,h2,h3,h4,h5⟩
  ·exact .inl ⟨er,h0,e1,.inr ⟨vs,refs,nodes,hp,hc,he,h⟩⟩
  ·exact .inr ⟨r,S',vs',u,⟨vs,refs,nodes,hp,hc,he,h1,h2,h3⟩,h4,h5⟩
theorem jx.sto {lo:Nat} {S:Sto} {gen root next:Int} {dead:List Int} {u:Value} {W:World} (h:jx lo S gen root next dead u W):∃ A1 c1 A2 c2 A3 c3 A4 c4 A5 c5,u=.agg (qC (.slice A1 S.bs.length c1) (.slice A2 S.ws.length c2) (.slice A3 S.now.length c3) (.slice A4 S.last.length c4) gen root next (.slice A5 dead.length c5)) /\
  qZ W W.heap.size (.slice A1 S.bs.length c1) (.slice A2 S.ws.length c2) (.slice A3 S.now.length c3) (.slice A4 S.last.length c4) S/\Zw W W.heap.size (.slice A5 dead.length c5) dead:=by
 obtain⟨A1,c1,A2,c2,A3,c3,A4,c4,A5,c5,e,h⟩:=h;exact⟨A1,c1,A2,c2,A3,c3,A4,c4,A5,c5,e,h W fun q v h1 h2 h3=>(XN h3).1⟩
theorem jx.keep {lo lo':Nat} {S:Sto} {gen root next:Int} {dead:List Int} {u:Value} {W W':World} (h:jx lo S gen root next dead u W) (hl:lo'<=lo) (hs:W.heap.size<=W'.heap.size) (hk:∀ k,lo<=k->k<W.heap.size->W'.heap[k]?=W.heap[k]?):jx lo' S gen root next dead u W':=by obtain⟨A1,c1,A2,c2,A3,c3,A4,c4,A5,c5,e,h⟩:=h;refine⟨A1,c1,A2,c2,A3,c3,A4,c4,A5,c5,e,fun C hC=>?_⟩;obtain⟨h1,h2⟩:=h C fun q v h1 h2 h3=>hC q v zO zO ((Qu (hk q.block h1 h2)).trans h3);exact⟨h1.more hs,h2.more hs⟩
theorem same8 {w:World} {b:Nat} {x0 x1 x2 x3 x4 x5 x6 x7:Value} {ty:TypeId} (h:w.heap[b]?=some (.cells #[x0,x1,x2,x3,x4,x5,x6,x7] ty (0,0))):Ext w ((((((((w.setCell ⟨b,0,none⟩ x0).setCell ⟨b,1,none⟩ x1).setCell ⟨b,2,none⟩ x2).setCell ⟨b,3,none⟩ x3).setCell ⟨b,4,none⟩ x4).setCell ⟨b,5,none⟩ x5).setCell ⟨b,6,none⟩ x6).setCell ⟨b,7,none⟩ x7):=by have e0:=Qx (j:=0) (v:=x0) h rfl;have h0:=qb h e0;have e1:=Qx (j:=1) (v:=x1) h0 rfl;have h1:=qb h0 e1;have e2:=Qx (j:=2) (v:=x2) h1 rfl;have h2:=qb h1 e2;have e3:=Qx (j:=3) (v:=x3) h2 rfl;have h3:=qb h2 e3;have e4:=Qx (j:=4) (v:=x4) h3 rfl;have h4:=qb h3 e4;have e5:=Qx (j:=5) (v:=x5) h4 rfl;have h5:=qb h4 e5;have e6:=Qx (j:=6) (v:=x6) h5 rfl;have h6:=qb h5 e6;exact((((((e0.trans e1).trans e2).trans e3).trans e4).trans e5).trans e6).trans (Qx (j:=7) (v:=x7) h6 rfl)
structure Sets (X:Nat->Prop) (W C:World):Prop where
 os:C.os=W.os
 tape:C.tape=W.tape
 output:C.output=W.output
 size:C.heap.size=W.heap.size
 same:∀ k,¬X k->C.heap[k]?=W.heap[k]?
theorem Sets.refl (X:Nat->Prop) (W:World):Sets X W W:=⟨rfl,rfl,rfl,rfl,fun _ _=>rfl⟩
theorem Sets.set {X:Nat->Prop} {W C:World} (h:Sets X W C) {b:Nat} (j:Nat) (hb:X b) (v:Value):Sets X W (C.setCell ⟨b,j,none⟩ v):=⟨h.os,h.tape,h.output,by simpa using h.size,fun k hk=>(zJ _ _ _ _ fun e=>hk (by have e':k=b:=e;rw[e'];exact hb)).trans (h.same k hk)⟩
theorem Sets.row {X:Nat->Prop} {W C:World} (h:Sets X W C) {b:Nat} {o:Obj} (hr:W.heap[b]?=some o) (hb:¬X b):C.heap[b]?=some o:=(h.same b hb).trans hr
theorem Sets.below {X:Nat->Prop} {W C w:World} {B:Nat} (h:Sets X W C) (hB:Below B w W) (hX:∀ k,X k->B<=k):Below B w C:=hB.trans ⟨h.os,h.tape,h.output,by rw[h.size];exact zM _,fun k hk=>h.same k fun hx=>by have:=hX k hx;omega⟩
set_option maxRecDepth 100000 in
theorem qip (bp be:Nat) (hne:bp≠be) (A1 n1 c1 A2 n2 c2 A3 n3 c3 A4 n4 c4) (gen root next:Int) (v5:Value) (e:Int) (S:Sto) (u:FrameMode) (w:World) (hp:w.heap[bp]?=some (.cells (qC (.slice A1 n1 c1) (.slice A2 n2 c2) (.slice A3 n3 c3) (.slice A4 n4 c4) gen root next v5) 32 (0,0))) (he:w.heap[be]?=some (.cells #[.int .i64 e] 37 (0,0))) (h:e=0->qZ w w.heap.size (.slice A1 n1 c1) (.slice A2 n2 c2) (.slice A3 n3 c3) (.slice A4 n4 c4) S):CallsD prog 89 #[.pointer (some ⟨bp,0,none⟩),.pointer (some ⟨be,0,none⟩)] u w (fun x u' w'=>u'=u/\x=.returned (.tuple #[])/\RoomyQ bp be (qC (.slice A1 n1 c1) (.slice A2 n2 c2) (.slice A3 n3 c3) (.slice A4 n4 c4) gen root next v5) e S w w'):=by
 have kp:=qa hp;have ke:=qa he;have fp:=qd hp;have fe:=qd he;by_cases h0:e=0
 ·subst h0;have HF:=qdN A1 n1 c1 A2 n2 c2 A3 n3 c3 A4 n4 c4 S w (h rfl);clear h;go_enter_d func89,ntmps89;go_wp2_with fail;refine HF.mono ?_;rintro x w2 ⟨hB,hQ⟩;have x2:Ext w w2:=hB;have hp2:=qb hp x2;have he2:=qb he x2;have kp2:=qa hp2;have ke2:=qa he2;have fp2:=qd hp2;have fe2:=qd he2;clear kp ke fp fe hB HF hp he;rcases hQ with ⟨hm,rfl⟩|⟨hm,v,rfl,hBQ⟩
  ·have hE:Zt S=9:=by unfold Zt;rw[hm];rfl
   replace hE:=zH hE;replace hm:=zH hm;have wMZ:¬be=bp:=fun e=>hne e.symm;go_wp2_with fail;go_end0;exact⟨rfl,(Two.of_ext x2).trans ((Two.setE _ _ _).trans (Two.set8 _ _ _ _ _ _ _ _ _)),.inr ⟨9,zD,.inl ⟨rfl,hE.out.symm⟩,vA ((zJ _ _ _ _ hne).trans hp2) _ _ _ _ _ _ _ _,(jI wMZ _ _ _ _ _ _ _ _).trans (qi he2 0 _)⟩⟩
  ·obtain⟨A,c,rfl,-,-⟩:=qB hBQ;clear hBQ;by_cases hl:(Zc S).length<16
   ·have hE:Zt S=9:=by unfold Zt;rw[if_neg zO]
    replace hE:=zH hE;have d1:decide (((Zc S).length:Int)<16)=true:=decide_eq_true zO;replace hl:=zH hl;replace hm:=zH hm;have wMZ:¬be=bp:=fun e=>hne e.symm;go_wp2_with fail;go_end0;exact⟨rfl,(Two.of_ext x2).trans ((Two.setE _ _ _).trans (Two.set8 _ _ _ _ _ _ _ _ _)),.inr ⟨9,zD,.inl ⟨rfl,hE.out.symm⟩,vA ((zJ _ _ _ _ hne).trans hp2) _ _ _ _ _ _ _ _,(jI wMZ _ _ _ _ _ _ _ _).trans (qi he2 0 _)⟩⟩
   ·have hE:Zt S=0:=by unfold Zt;rw[if_pos ⟨hm,zO⟩]
    replace hE:=zH hE;have d1:decide (((Zc S).length:Int)<16)=false:=decide_eq_false zO;replace hl:=zH hl;replace hm:=zH hm;go_wp2_with fail;go_end0;exact⟨rfl,Two.of_ext x2,.inl ⟨rfl,hE.out,hp2,he2⟩⟩
 ·have b0:(e == 0)=false:=by rw[beq_eq_false_iff_ne];exact h0
  have b1:(e != 0)=true:=by rw[bne_iff_ne];exact h0
  replace h0:=zH h0;replace hne:=zH hne;clear h;go_enter_d func89,ntmps89;go_wp2_with fail;go_end0;exact⟨rfl,Two.set8 _ _ _ _ _ _ _ _ _,.inr ⟨e,h0.out,.inr ⟨h0.out,rfl⟩,vA hp _ _ _ _ _ _ _ _,(jI (fun x=>hne.out x.symm) _ _ _ _ _ _ _ _).trans he⟩⟩
def UJ (S:Sto) (a:Nat) (x:It):Except Int (Nat×Sto):=match qu S a with
 |none=>.error 8
 |some (lvl,xs)=>XW S lvl.toNat xs a x
def Jr (S:Sto) (a:Int):Sto:=qy S (jj S.now a.toNat 1)
def qan (v:Vol) (r:Nat):Vol:=⟨v.id,(r:Int),v.fz,v.frm⟩
def YN (S:Sto) (root next:Int) (dead:List Int) (v:Vol) (P:Except Int (Nat×Sto)) (er:Int):Prop:=Zn S v.root=er\/(Zn S v.root=0/\(P=.error er\/∃ r2 S2,P=.ok (r2,S2) /\
 (qaW S2 root next dead (qan v r2) er\/∃ r3 S3 vs3,GK S2 root next dead (qan v r2) r3 S3 vs3/\(JM S3 v.root=.error er\/∃ S4,JM S3 v.root=.ok S4/\Zt S4=er))))
def ChgQ (S:Sto) (gen root next:Int) (dead:List Int) (v:Vol) (P:Except Int (Nat×Sto)) (w:World) (e:Ending) (w':World):Prop:=Below w.heap.size w w' /\
 ((∃ er,er≠0/\e=.returned (.tuple #[vE,.int .i64 er])/\YN S root next dead v P er) \/
  ∃ r2 S2 r3 S3 vs3 S4 u,Zn S v.root=0/\P=.ok (r2,S2)/\GK S2 root next dead (qan v r2) r3 S3 vs3/\JM S3 v.root=.ok S4/\Zt S4=0 /\
   e=.returned (.tuple #[u,.int .i64 0])/\jx w.heap.size S4 gen (r3:Int) next dead u w')
theorem qiS {R:Ending->World->Prop} {tmps:Array Value} {W:World} {b:Nat} {x0 x1 x2 x3 x4 x5 x6 x7 z:Value} (h4:tmps[8]?.getD undef=.pointer (some ⟨b+1+1+1,0,none⟩)) (h5:tmps[9]?.getD undef=.pointer (some ⟨b+1+1+1+1,0,none⟩)) (r4:W.heap[b+3]?=some (.cells #[x0,x1,x2,x3,x4,x5,x6,x7] 32 (0,0))) (r6:W.heap[b+4]?=some (.cells #[z] 37 (0,0))) (hR:R (.returned (.tuple #[.agg #[x0,x1,x2,x3,x4,x5,x6,x7],z])) W):Leaves prog Tryz.f84 tmps R [] .returning W:=by
 have k4:=qa r4;have k6:=qa r6;refine⟨.tuple #[.agg #[x0,x1,x2,x3,x4,x5,x6,x7],z],?_,hR⟩;simp[results,results84,go_sem,h4,h5,k4,k6]
theorem qfL {R:Ending->World->Prop} {tmps:Array Value} {W:World} {b:Nat} (A1 n1 c1 A2 n2 c2 A3 n3 c3 A4 n4 c4) (gen root next:Int) (v5:Value) (e:Int) (S:Sto) (h4:tmps[8]?.getD undef=.pointer (some ⟨b+1+1+1,0,none⟩)) (h5:tmps[9]?.getD undef=.pointer (some ⟨b+1+1+1+1,0,none⟩)) (r4:W.heap[b+3]?=some (.cells (qC (.slice A1 n1 c1) (.slice A2 n2 c2) (.slice A3 n3 c3) (.slice A4 n4 c4) gen root next v5) 32 (0,0))) (r6:W.heap[b+4]?=some (.cells #[.int .i64 e] 37 (0,0))) (h:e=0->qZ W W.heap.size (.slice A1 n1 c1) (.slice A2 n2 c2) (.slice A3 n3 c3) (.slice A4 n4 c4) S) (hR1:e=0->Zt S=0->∀ W',Two (b+3) (b+4) W W'->R (.returned (.tuple #[.agg (qC (.slice A1 n1 c1) (.slice A2 n2 c2) (.slice A3 n3 c3) (.slice A4 n4 c4) gen root next v5),.int .i64 0])) W') (hR2:∀ e' W',e'≠0->((e=0/\e'=Zt S)\/(e≠0/\e'=e))->Two (b+3) (b+4) W W'->R (.returned (.tuple #[vE,.int .i64 e'])) W'):bodyPostD prog Tryz.f84 R .ret { tmps:=tmps,defers:=[{ target:=.fn (.func 89) #[],args:=#[.pointer (some ⟨b+1+1+1,0,none⟩),.pointer (some ⟨b+1+1+1+1,0,none⟩)] }] } W:=by
 refine leaves_cons (f:=89) (args:=#[.pointer (some ⟨b+1+1+1,0,none⟩),.pointer (some ⟨b+1+1+1+1,0,none⟩)]) zA2 (by simp[go_sem]) ?_;refine(qip (b+3) (b+4) zO A1 n1 c1 A2 n2 c2 A3 n3 c3 A4 n4 c4 gen root next v5 e S .returning W r4 r6 h).mono ?_;rintro x u' w' ⟨rfl,rfl,hT,⟨h0,hE,g4,g6⟩|⟨e',h0,hE,g4,g6⟩⟩
 ·exact qiS h4 h5 g4 g6 (hR1 h0 hE w' hT)
 ·exact qiS h4 h5 g4 g6 (hR2 e' w' h0 hE hT)
theorem qaI {tmps:Array Value} {w W:World} {S:Sto} {gen root next:Int} {dead:List Int} {v:Vol} {P:Except Int (Nat×Sto)} {er:Int} {E1 E2 E3 E4:OA} {m1 e1 m2 e2 m3 e3 m4 e4:Nat} {g9 t9 n9:Int} {v5:Value} (hne:er≠0) (hc:YN S root next dead v P er) (h4:tmps[8]?.getD undef=.pointer (some ⟨w.heap.size+1+1+1,0,none⟩)) (h5:tmps[9]?.getD undef=.pointer (some ⟨w.heap.size+1+1+1+1,0,none⟩)) (r4:W.heap[w.heap.size+3]?=some (.cells (qC (.slice E1 m1 e1) (.slice E2 m2 e2) (.slice E3 m3 e3) (.slice E4 m4 e4) g9 t9 n9 v5) 32 (0,0))) (r6:W.heap[w.heap.size+4]?=some (.cells #[.int .i64 er] 37 (0,0))) (hB:Ext w W):bodyPostD prog Tryz.f84 (ChgQ S gen root next dead v P w) .ret { tmps:=tmps,defers:=[{ target:=.fn (.func 89) #[],args:=#[.pointer (some ⟨w.heap.size+1+1+1,0,none⟩),.pointer (some ⟨w.heap.size+1+1+1+1,0,none⟩)] }] } W:=by
 refine qfL E1 m1 e1 E2 m2 e2 E3 m3 e3 E4 m4 e4 g9 t9 n9 v5 er S h4 h5 r4 r6 (fun h=>absurd h hne) (fun h=>absurd h hne) (fun e' W' h0 hE hT=>?_);obtain rfl:e'=er:=by
  rcases hE with ⟨h,_⟩|⟨_,h⟩
  ·exact absurd h hne
  ·exact h
 have z:=(zG.1 r4).1;exact⟨hT.below hB zO zO zO,.inl ⟨e',hne,rfl,hc⟩⟩
section
variable {W C:World} {b:Nat} {u0 u1 u2 u3 u4 u5 u6 u7 x0 x1 x2 x3 x4 x5 x6 x7 y0 y1 y2 y3 z ev q0:Value} {tyP tyV ty2 ty3:TypeId} {cs ds:Array Value}
theorem st5 (rp:W.heap[b]?=some (.cells #[u0,u1,u2,u3,u4,u5,u6,u7] tyP (0,0))) (re:W.heap[b+4]?=some (.cells #[q0] ty3 (0,0))) (hC:((((W.setCell ⟨b,0,none⟩ x0).setCell ⟨b,1,none⟩ x1).setCell ⟨b,2,none⟩ x2).setCell ⟨b,3,none⟩ x3).setCell ⟨b+1+1+1+1,0,none⟩ ev=C):C.heap[b]?=some (.cells #[x0,x1,x2,x3,u4,u5,u6,u7] tyP (0,0))/\C.heap[b+4]?=some (.cells #[ev] ty3 (0,0))/\C.heap.size=W.heap.size/\(∀ {w0:World},w0.heap.size<=b->Ext w0 W->Ext w0 C)/\∀ k,k≠b->k≠b+4->C.heap[k]?=W.heap[k]?:=by
 subst hC;have hs:=fun (A:World) (b j:Nat) (v:Value) (k:Nat) (hk:k≠b)=>zJ A ⟨b,j,none⟩ v k hk;have r1:=qi (qi (qi (qi rp 0 x0) 1 x1) 2 x2) 3 x3;have o1:∀ k,k≠b->((((W.setCell ⟨b,0,none⟩ x0).setCell ⟨b,1,none⟩ x1).setCell ⟨b,2,none⟩ x2).setCell ⟨b,3,none⟩ x3).heap[k]?=W.heap[k]?:=fun k hk=>by rw[hs _ _ _ _ _ hk,hs _ _ _ _ _ hk,hs _ _ _ _ _ hk,hs _ _ _ _ _ hk]
 refine⟨?_,qi (t:=ty3) (cs:=#[q0]) ((o1 _ zO).trans re) 0 ev,zA2,fun hb hx=>?_,fun k h1 h2=>by rw[hs _ _ _ _ _ zO,o1 k h1]⟩
 ·rw[hs _ _ _ _ _ zO];exact r1
 ·exact Below.setCell (zm hx (b:=b) hb _ _ _ _) (p:=⟨b+1+1+1+1,0,none⟩) zA1 _
theorem st6 (rp:W.heap[b]?=some (.cells #[u0,u1,u2,u3,u4,u5,u6,u7] tyP (0,0))) (rv:W.heap[b+1]?=some (.cells #[y0,y1,y2,y3] tyV (0,0))) (re:W.heap[b+4]?=some (.cells #[q0] ty3 (0,0))) (hC:(((((W.setCell ⟨b,0,none⟩ x0).setCell ⟨b,1,none⟩ x1).setCell ⟨b,2,none⟩ x2).setCell ⟨b,3,none⟩ x3).setCell ⟨b+1,1,none⟩ z).setCell ⟨b+1+1+1+1,0,none⟩ ev=C):C.heap[b]?=some (.cells #[x0,x1,x2,x3,u4,u5,u6,u7] tyP (0,0))/\C.heap[b+1]?=some (.cells #[y0,z,y2,y3] tyV (0,0))/\C.heap[b+4]?=some (.cells #[ev] ty3 (0,0))/\C.heap.size=W.heap.size/\(∀ {w0:World},w0.heap.size<=b->Ext w0 W->Ext w0 C)/\∀ k,k≠b->k≠b+1->k≠b+4->C.heap[k]?=W.heap[k]?:=by
 subst hC;have hs:=fun (A:World) (b j:Nat) (v:Value) (k:Nat) (hk:k≠b)=>zJ A ⟨b,j,none⟩ v k hk;have r1:=qi (qi (qi (qi rp 0 x0) 1 x1) 2 x2) 3 x3;have o1:∀ k,k≠b->((((W.setCell ⟨b,0,none⟩ x0).setCell ⟨b,1,none⟩ x1).setCell ⟨b,2,none⟩ x2).setCell ⟨b,3,none⟩ x3).heap[k]?=W.heap[k]?:=fun k hk=>by rw[hs _ _ _ _ _ hk,hs _ _ _ _ _ hk,hs _ _ _ _ _ hk,hs _ _ _ _ _ hk]
 refine⟨?_,?_,?_,zA2,fun hb hx=>?_,fun k h1 h2 h3=>by rw[hs _ _ _ _ _ zO,hs _ _ _ _ _ h2,o1 k h1]⟩
 ·rw[hs _ _ _ _ _ zO,hs _ _ _ _ _ zO];exact r1
 ·rw[hs _ _ _ _ _ zO];exact qi (t:=tyV) (cs:=#[y0,y1,y2,y3]) ((o1 _ zO).trans rv) 1 z
 ·exact qi (t:=ty3) (cs:=#[q0]) (by rw[hs _ _ _ _ _ zO];exact(o1 _ zO).trans re) 0 ev
 ·exact Below.setCell (Below.setCell (zm hx (b:=b) hb _ _ _ _) (p:=⟨b+1,1,none⟩) zA1 _) (p:=⟨b+1+1+1+1,0,none⟩) zA1 _
theorem st9 {p:Nat} (hp4:p≠b+4) (hbp:b<=p) (rp:W.heap[p]?=some (.cells #[u0,u1,u2,u3,u4,u5,u6,u7] tyP (0,0))) (re:W.heap[b+4]?=some (.cells #[q0] ty3 (0,0))) (hC:((((((((W.setCell ⟨p,0,none⟩ x0).setCell ⟨p,1,none⟩ x1).setCell ⟨p,2,none⟩ x2).setCell ⟨p,3,none⟩ x3).setCell ⟨p,4,none⟩ x4).setCell ⟨p,5,none⟩ x5).setCell ⟨p,6,none⟩ x6).setCell ⟨p,7,none⟩ x7).setCell ⟨b+1+1+1+1,0,none⟩ ev=C):C.heap[p]?=some (.cells #[x0,x1,x2,x3,x4,x5,x6,x7] tyP (0,0))/\C.heap[b+4]?=some (.cells #[ev] ty3 (0,0))/\C.heap.size=W.heap.size/\(∀ {w0:World},w0.heap.size<=b->Ext w0 W->Ext w0 C)/\∀ k,k≠p->k≠b+4->C.heap[k]?=W.heap[k]?:=by
 subst hC;have hs:=fun (A:World) (b j:Nat) (v:Value) (k:Nat) (hk:k≠b)=>zJ A ⟨b,j,none⟩ v k hk;refine⟨?_,?_,zA2,fun hb hx=>?_,fun k h1 h2=>by rw[hs _ _ _ _ _ zO,jI h1]⟩
 ·rw[hs _ _ _ _ _ zO];exact vA rp _ _ _ _ _ _ _ _
 ·exact qi (t:=ty3) (cs:=#[q0]) (by rw[jI zO];exact re) 0 ev
 ·exact Below.setCell (ZV hx (b:=p) zO _ _ _ _ _ _ _ _) (p:=⟨b+1+1+1+1,0,none⟩) zA1 _
end
theorem qhY {S S':Sto} {a:Int} (hS:ql S=true) (h:JM S a=.ok S'):ql S'=true:=by
 unfold JM at h;split at h
 ·rename_i h0;obtain⟨_,m,rfl,h8,h256,-⟩:=Vt h0;rw[Int.toNat_natCast] at h;unfold VT at h;split at h
  ·cases h
  ·rename_i t ht;cases h;exact qF.2 ⟨(qF.1 hS).1,Ye h8 (qF.1 hS).2.1 ht,(qF.1 hS).2.2⟩
 ·cases h
set_option maxRecDepth 100000 in
theorem qhd (A1 n1 c1 A2 n2 c2 A3 n3 c3 A4 n4 c4) (gen root next:Int) (A5 c5) (S:Sto) (dead:List Int) (v:Vol) (hvo:TT v) (x:It) (hxo:zy x) (Ax:OA) (cx:Nat) (htr:Zn S v.root=0->ZX (Jr S v.root) v.root.toNat) (hT2:Zn S v.root=0->∀ r2 S2,UJ (Jr S v.root) v.root.toNat x=.ok (r2,S2)->okL S2 (-1) (r2:Int)=true) (w:World) (h:qZ w w.heap.size (.slice A1 n1 c1) (.slice A2 n2 c2) (.slice A3 n3 c3) (.slice A4 n4 c4) S) (hd:Zw w w.heap.size (.slice A5 dead.length c5) dead) (hxv:Bys w w.heap.size (.slice Ax x.val.length cx) x.val):Calls prog 84 #[.agg (qC (.slice A1 n1 c1) (.slice A2 n2 c2) (.slice A3 n3 c3) (.slice A4 n4 c4) gen root next (.slice A5 dead.length c5)),VA v,.func (.func 65) #[] #[],itV x Ax cx] w (ChgQ S gen root next dead v (UJ (Jr S v.root) v.root.toNat x) w):=by
 have HS:=zH (fun W (hx:Ext w W)=>qir A1 n1 c1 A2 n2 c2 A3 n3 c3 A4 n4 c4 S v.root W (h.ext hx));obtain⟨P,hP⟩:∃ P,UJ (Jr S v.root) v.root.toNat x=P:=⟨_,rfl⟩
 rw[hP] at hT2 ⊢;replace hP:=zH hP;replace h:=zH h;replace hd:=zH hd;replace hxv:=zH hxv;replace htr:=zH htr;replace hT2:=zH hT2;replace hxo:=zH hxo;replace hvo:=zH hvo;go_enter_defers func84,ntmps84;go_wp2_with fail;generalize hw1:World.alloc _ _=w1;have x1:Ext w w1:=by rw[<-hw1];exact((((zN _ _).trans (zN _ _)).trans (zN _ _)).trans (zN _ _)).trans (zN _ _)
 have rp1:w1.heap[w.heap.size]?=some (.cells (qC (.slice A1 n1 c1) (.slice A2 n2 c2) (.slice A3 n3 c3) (.slice A4 n4 c4) gen root next (.slice A5 dead.length c5)) 32 (0,0)):=by rw[<-hw1];exact(zK _ _ _ zA3).trans ((zK _ _ _ zA3).trans ((zK _ _ _ zA3).trans ((zK _ _ _ zA3).trans (zI _ _ _ rfl))))
 have rv1:w1.heap[w.heap.size+1]?=some (.cells #[.int .u32 v.id,.int .i64 v.root,.bool v.fz,.int .u32 v.frm] 36 (0,0)):=by rw[<-hw1];exact(zK _ _ _ zA3).trans ((zK _ _ _ zA3).trans ((zK _ _ _ zA3).trans (zI _ _ _ zA2)))
 have rx1:w1.heap[w.heap.size+2]?=some (.cells #[.int .u8 x.k,.int .u32 x.i,.int .u32 x.o,.int .i64 x.r,.slice Ax x.val.length cx] 51 (0,0)):=by rw[<-hw1];exact(zK _ _ _ zA3).trans ((zK _ _ _ zA3).trans (zI _ _ _ zA2))
 have ro1:w1.heap[w.heap.size+3]?=some (.cells YC 32 (0,0)):=by rw[<-hw1];exact(zK _ _ _ zA3).trans (zI _ _ _ zA2)
 have re1:w1.heap[w.heap.size+4]?=some (.cells #[.int .i64 0] 37 (0,0)):=by rw[<-hw1];exact zI _ _ _ zA2
 have s1:w1.heap.size=w.heap.size+5:=by rw[<-hw1];simp
 clear hw1;refine(HS.out w1 x1).mono ?_;clear HS;rintro e w2 ⟨u,rfl,hQ,hB⟩;have x2:Ext w w2:=x1.trans hB;have rp2:=qb rp1 hB;have rv2:=qb rv1 hB;have rx2:=qb rx1 hB;have ro2:=qb ro1 hB;have re2:=qb re1 hB;have z12:=hB.size;have kp2:=qa rp2;have kv2:=qa rv2;have kx2:=qa rx2;have ko2:=qa ro2;have ke2:=qa re2;have fp2:=qd rp2;have fv2:=qd rv2;have fo2:=qd ro2;have fe2:=qd re2;clear hB rp1 rv1 rx1 ro1 re1 x1;rcases hQ with ⟨hne,rfl⟩|⟨h0,vv,rfl,hT⟩
 ·obtain⟨er,her⟩:∃ er,Zn S v.root=er:=⟨_,rfl⟩
  rw[her] at hne ⊢;have hnb:(er != 0)=true:=by rw[bne_iff_ne];exact hne
  replace hne:=zH hne;replace her:=zH her;go_wp2_with fail;obtain⟨rp3,re3,z3,xe3,o3⟩:=st5 (b:=w.heap.size) (x0:=.slice none 0 0) (x1:=.slice none 0 0) (x2:=.slice none 0 0) (x3:=.slice none 0 0) (ev:=.int .i64 er) rp2 re2 rfl;obtain⟨ro4,re4,z4,xe4,o4⟩:=st9 (b:=w.heap.size) (p:=w.heap.size+3) zO zO ((o3 _ zO zO).trans ro2) re3 rfl;exact qaI hne.out (.inl her.out) rfl rfl ro4 re4 (xe4 (zM _) (xe3 (zM _) x2))
 ·obtain⟨a,lvl,xs,hra,ha8,xDZ,hn,hsp⟩:∃ (a lvl:Nat) (xs:List It),v.root=(a:Int)/\8<=a/\a<256/\qu (Jr S v.root) a=some ((lvl:Int),xs)/\(qG (Jr S v.root) lvl xs).isSome=true:=by obtain⟨h8,h256,lvl,xs,h1,h2⟩:=htr.out h0;exact⟨v.root.toNat,lvl,xs,zO,h8,h256,h1,h2⟩
  have wRL:ql (Jr S v.root)=true:=by
   obtain⟨hS,m,hm,h8,h256,-⟩:=Vt (show jt S v.root=0 by
    unfold Zn at h0;split at h0
    ·rename_i hh;exact absurd h0 hh
    ·rename_i hh;exact Classical.not_not.1 hh)
   exact qF.2 ⟨(qF.1 hS).1,(show Qt (jj S.now v.root.toNat 1)=true by rw[hm,Int.toNat_natCast];exact ji (qF.1 hS).2.1 h8 _),(qF.1 hS).2.2⟩
  change zl w1.heap.size (Jr S v.root) vv w2 at hT;obtain⟨S1,hS1⟩:∃ S1,Jr S v.root=S1:=⟨_,rfl⟩
  have hP1:=hP.out;rw[hS1] at hT hn hsp wRL hP1;replace hS1:=zH hS1;have hPe:P=XW S1 lvl xs a x:=by rw[<-hP1];unfold UJ;rw[hra,Int.toNat_natCast,hn];rfl
  obtain⟨BB,WW,gg,B3,d3,B4,d4,rfl,-⟩:=id hT;have hns:=zH (KG (hT.newSto (QS wRL)));have HPx:=zH (fun W hst hb=>qjq (some ⟨BB,0,none⟩) S1.bs.length S1.bs.length (some ⟨WW,0,none⟩) S1.ws.length (S1.ws.length+1) B3 S1.now.length d3 B4 S1.last.length d4 S1 wRL a lvl xs ha8 xDZ hn hsp x hxo.out Ax cx W hst hb);rw[<-hPe] at HPx;have hpm:=zH (fun r S' (he:P=.ok (r,S'))=>qgL wRL ha8 hn hsp hxo.out (hPe ▸ he));have hpe:=zH (fun er (he:P=.error er)=>qgK (hPe ▸ he));have h0':=zH h0;have hraH:=zH hra;rw[<-hra] at HPx;clear hT h0 hn hsp hPe wRL hP1 hra;go_wp2_with fail;generalize hw3:World.setCell (World.setCell (World.setCell (World.setCell (World.setCell w2 _ _) _ _) _ _) _ _) _ _=w3;obtain⟨rp3,re3,z3,xe3,o3⟩:=st5 (b:=w.heap.size) rp2 re2 hw3;have x3:=xe3 (zM _) x2;have rv3:=(o3 (w.heap.size+1) zO zO).trans rv2;have ro3:=(o3 (w.heap.size+3) zO zO).trans ro2;have wNK:=(hns.out w3 (Vf fun k h1 h2=>o3 k zO zO)).more (show w2.heap.size<=w3.heap.size by omega);have HP2:=HPx.out w3 wNK ((hxv.out.below x3).more x3.size);clear hw3 rp2 rv2 rx2 ro2 re2 kp2 kv2 kx2 ko2 ke2 fp2 fv2 fo2 fe2 xe3 wNK hns HPx o3;refine HP2.mono ?_;clear HP2;rintro e w4 ⟨u,rfl,hM,hB⟩;have x4:Ext w w4:=x3.trans hB;have rp4:=qb rp3 hB;have rv4:=qb rv3 hB;have ro4:=qb ro3 hB;have re4:=qb re3 hB;have z34:=hB.size;have kp4:=qa rp4;have kv4:=qa rv4;have ko4:=qa ro4;have ke4:=qa re4;have fp4:=qd rp4;have fv4:=qd rv4;have fo4:=qd ro4;have fe4:=qd re4;replace q0:w.heap.size<w4.heap.size:=zO;replace q1:w.heap.size+1<w4.heap.size:=zO;replace q3:w.heap.size+1+1+1<w4.heap.size:=zO;replace q4:w.heap.size+1+1+1+1<w4.heap.size:=zO;clear hB rp3 rv3 ro3 re3;rcases hq:P with er|⟨r2,S2⟩
  ·rw[hq] at hM;obtain rfl:=hM;have hne:=hpe.out er hq;have hnb:(er != 0)=true:=by rw[bne_iff_ne];exact hne
   have hce:Hid (YN S root next dead v P er):=zH (.inr ⟨h0'.out,.inl hq⟩);replace hne:=zH hne;replace hq:=zH hq;go_wp2_with fail;obtain⟨rp5,rv5,re5,z5,xe5,o5⟩:=st6 (b:=w.heap.size) (x0:=.slice none 0 0) (x1:=.slice none 0 0) (x2:=.slice none 0 0) (x3:=.slice none 0 0) (z:=.int .i64 0) (ev:=.int .i64 er) rp4 rv4 re4 rfl;obtain⟨ro6,re6,z6,xe6,o6⟩:=st9 (b:=w.heap.size) (p:=w.heap.size+3) zO zO ((o5 _ zO zO zO).trans ro4) re5 rfl;exact qaI hne.out hce.out rfl rfl ro6 re6 (xe6 (zM _) (xe5 (zM _) x4))
  ·rw[hq] at hM;obtain⟨vv,rfl,hT⟩:=hM;obtain⟨BB2,WW2,gg2,C3,g3,C4,g4,rfl,-⟩:=id hT;have hns:=zH (KG (hT.newSto (QS (hpm.out r2 S2 hq).1)));have hTH:=zH (hT2.out h0'.out r2 S2 hq);have hr8:=(hpm.out r2 S2 hq).2;have hq':=zH hq;clear hT hq;go_wp2_with fail;generalize hw5:World.setCell (World.setCell (World.setCell (World.setCell (World.setCell (World.setCell w4 _ _) _ _) _ _) _ _) _ _) _ _=w5;obtain⟨rp5,rv5,re5,z5,xe5,o5⟩:=st6 (b:=w.heap.size) rp4 rv4 re4 hw5;have x5:=xe5 (zM _) x4;have ro5:=(o5 (w.heap.size+3) zO zO zO).trans ro4;have wLM:=(hns.out w5 (Vf fun k h1 h2=>o5 k zO zO zO)).more (show w4.heap.size<=w5.heap.size by omega);have wPX:TT (qan v r2):=⟨hvo.out.1,by simp only[qan];omega,hvo.out.2.2⟩
   have HS:=qfZ (some ⟨BB2,0,none⟩) S2.bs.length S2.bs.length (some ⟨WW2,0,none⟩) S2.ws.length (S2.ws.length+1) C3 S2.now.length g3 C4 S2.last.length g4 gen root next A5 c5 S2 dead (qan v r2) wPX (fun _ _ _=>hTH.out) w5 wLM (hd.out.ext_ x5)
   clear hw5 rp4 rv4 ro4 re4 kp4 kv4 ko4 ke4 fp4 fv4 fo4 fe4 xe5 wLM hns hTH wPX o5;refine HS.mono ?_;clear HS;intro e w6 hQS;obtain⟨hB6,hS6⟩:=hQS.split;have x6:Ext w w6:=x5.trans hB6;have rp6:=qb rp5 hB6;have ro6:=qb ro5 hB6;have re6:=qb re5 hB6;have z56:=hB6.size;have kp6:=qa rp6;have ko6:=qa ro6;have ke6:=qa re6;have fp6:=qd rp6;have fo6:=qd ro6;have fe6:=qd re6;replace q0:w.heap.size<w6.heap.size:=zO;replace q3:w.heap.size+1+1+1<w6.heap.size:=zO;replace q4:w.heap.size+1+1+1+1<w6.heap.size:=zO;clear hQS hB6 rp5 rv5 ro5 re5 q1;rcases hS6 with ⟨er,hne,rfl,hE⟩|⟨r3,S3,vs3,u,hO,rfl,hN⟩
   ·have hnb:(er != 0)=true:=by rw[bne_iff_ne];exact hne
    have hce:Hid (YN S root next dead v P er):=zH (.inr ⟨h0'.out,.inr ⟨r2,S2,hq'.out,.inl hE⟩⟩);replace hne:=zH hne;clear hE;go_wp2_with fail;obtain⟨rp7,re7,z7,xe7,o7⟩:=st9 (b:=w.heap.size) (p:=w.heap.size) (x0:=.slice none 0 0) (x1:=.slice none 0 0) (x2:=.slice none 0 0) (x3:=.slice none 0 0) (x4:=.int .u32 0) (x5:=.int .i64 0) (x6:=.int .u32 0) (x7:=.slice none 0 0) (ev:=.int .i64 er) zO zO rp6 re6 rfl;obtain⟨ro8,re8,z8,xe8,o8⟩:=st9 (b:=w.heap.size) (p:=w.heap.size+3) zO zO ((o7 _ zO zO).trans ro6) re7 rfl;exact qaI hne.out hce.out rfl rfl ro8 re8 (xe8 (zM _) (xe7 (zM _) x6))
   ·obtain⟨E1,e1,E2,e2,E3,e3,E4,e4,E5,e5,rfl,hcl⟩:=id hN;go_wp2_with fail;generalize hw7:World.setCell (World.setCell (World.setCell (World.setCell (World.setCell (World.setCell (World.setCell (World.setCell (World.setCell w6 _ _) _ _) _ _) _ _) _ _) _ _) _ _) _ _) _ _=w7;obtain⟨rp7,re7,z7,xe7,o7⟩:=st9 (b:=w.heap.size) (p:=w.heap.size) zO zO rp6 re6 hw7;have x7:=xe7 (zM _) x6;have ro7:=(o7 (w.heap.size+3) zO zO).trans ro6;obtain⟨hst7,hin7⟩:=hcl w7 (Vf fun k h1 h2=>o7 k zO zO);have HLv:=qhE E1 _ e1 E2 _ e2 E3 _ e3 E4 _ e4 S3 v.root w7 (hst7.more zO);have hclH:=zH hcl;have o7H:=zH o7;clear hw7 rp6 ro6 re6 kp6 ko6 ke6 fp6 fo6 fe6 xe7 o7 hst7 hin7 hcl;replace hN:=zH hN;replace hO:=zH hO;refine HLv.mono ?_;clear HLv;rintro e w8 ⟨u,rfl,hL,hB⟩;have x78:Ext w7 w8:=hB;have x8:Ext w w8:=x7.trans hB;have rp8:=qb rp7 hB;have ro8:=qb ro7 hB;have re8:=qb re7 hB;have z78:=hB.size;have kp8:=qa rp8;have ko8:=qa ro8;have ke8:=qa re8;have fp8:=qd rp8;have fo8:=qd ro8;have fe8:=qd re8;replace q0:w.heap.size<w8.heap.size:=zO;replace q3:w.heap.size+1+1+1<w8.heap.size:=zO;replace q4:w.heap.size+1+1+1+1<w8.heap.size:=zO;clear hB rp7 ro7 re7;rcases hl:JM S3 v.root with er|S4
    ·rw[hl] at hL;obtain rfl:=hL;have hne:er≠0:=by
      unfold JM at hl;split at hl
      ·unfold VT at hl;split at hl
       ·cases hl;decide
       ·cases hl
      ·rename_i hh;cases hl;exact hh
     have hce:Hid (YN S root next dead v P er):=zH (.inr ⟨h0'.out,.inr ⟨r2,S2,hq'.out,.inr ⟨r3,S3,vs3,hO.out,.inl hl⟩⟩⟩);replace hne:=zH hne;replace hl:=zH hl;go_wp2_with fail;obtain⟨rp9,re9,z9,xe9,o9⟩:=st5 (b:=w.heap.size) (x0:=.slice none 0 0) (x1:=.slice none 0 0) (x2:=.slice none 0 0) (x3:=.slice none 0 0) (ev:=.int .i64 er) rp8 re8 rfl;obtain⟨roA,reA,zA,xeA,oA⟩:=st9 (b:=w.heap.size) (p:=w.heap.size+3) zO zO ((o9 _ zO zO).trans ro8) re9 rfl;exact qaI hne.out hce.out rfl rfl roA reA (xeA (zM _) (xe9 (zM _) x8))
    ·rw[hl] at hL;obtain⟨vv,rfl,hT⟩:=hL;obtain⟨BB4,WW4,gg4,G3,h3,G4,h4,rfl,-⟩:=id hT;have wXW:ql S4=true:=by obtain⟨_,_,_,_,_,_,_,_,refs9,nodes9,hp9,_⟩:=hO.out;exact qhY hp9.may hl
     have hns4:=zH (KG (hT.newSto (QS wXW)));replace hl:=zH hl;clear hT wXW;go_wp2_with fail;obtain⟨rp9,re9,z9,xe9,o9⟩:=st5 (b:=w.heap.size) (x0:=.slice (some ⟨BB4,0,none⟩) S4.bs.length S4.bs.length) (x1:=.slice (some ⟨WW4,0,none⟩) S4.ws.length (S4.ws.length+1)) (x2:=.slice G3 S4.now.length h3) (x3:=.slice G4 S4.last.length h4) (ev:=.int .i64 0) rp8 re8 rfl;have roP:=(o9 (w.heap.size+3) zO zO).trans ro8;generalize hw9:World.setCell (World.setCell (World.setCell (World.setCell (World.setCell w8 _ _) _ _) _ _) _ _) _ _=w9 at *;generalize hwf:World.setCell (World.setCell (World.setCell (World.setCell (World.setCell (World.setCell (World.setCell (World.setCell (World.setCell w9 _ _) _ _) _ _) _ _) _ _) _ _) _ _) _ _) _ _=Wf;obtain⟨roA,reA,zA,xeA,oA⟩:=st9 (b:=w.heap.size) (p:=w.heap.size+3) zO zO roP re9 hwf;have yf:=xeA (zM _) (xe9 (zM _) x8);clear hwf hw9;have hk8:∀ k,w7.heap.size<=k->k<w8.heap.size->Wf.heap[k]?=w8.heap[k]?:=fun k h1 h2=>(oA k zO zO).trans (o9 k zO zO);have hk6:∀ k,w5.heap.size<=k->k<w6.heap.size->Wf.heap[k]?=w6.heap[k]?:=fun k h1 h2=>(oA k zO zO).trans ((o9 k zO zO).trans ((Below.block x78 k zO).trans (o7H.out k zO zO)));have x5s:=x5.size;have hN4:jx w5.heap.size S4 gen (r3:Int) next dead (.agg (qC (.slice (some ⟨BB4,0,none⟩) S4.bs.length S4.bs.length) (.slice (some ⟨WW4,0,none⟩) S4.ws.length (S4.ws.length+1)) (.slice G3 S4.now.length h3) (.slice G4 S4.last.length h4) gen (r3:Int) next (.slice E5 dead.length e5))) Wf:=
      ⟨_,_,_,_,_,_,_,_,_,_,rfl,fun C hC=>⟨(hns4.out C fun q v h1 h2 h3=>hC q v zO zO ((Qu (hk8 q.block h1 h2)).trans h3)).more zO,((hclH.out C fun q v h1 h2 h3=>hC q v zO zO ((Qu (hk6 q.block h1 h2)).trans h3)).2.more zO)⟩⟩
     refine qfL _ _ _ _ _ _ _ _ _ _ _ _ gen (r3:Int) next (.slice E5 dead.length e5) 0 S4 rfl rfl roA reA (fun _=>?_) (fun _ hE W' hT=>?_) (fun e' W' h0 hE hT=>?_)
     ·obtain⟨F1,f1,F2,f2,F3,f3,F4,f4,F5,f5,ee,hst,hin⟩:=hN4.sto;simp only[qC,Value.agg.injEq,Array.mk.injEq,List.cons.injEq,Value.slice.injEq,true_and,and_true] at ee;obtain⟨⟨rfl,rfl⟩,⟨rfl,rfl⟩,⟨rfl,rfl⟩,⟨rfl,rfl⟩,rfl,rfl⟩:=ee;exact hst
     ·exact⟨hT.below yf zO zO zO,.inr ⟨r2,S2,r3,S3,vs3,S4,_,h0'.out,hq'.out,hO.out,hl.out,hE,rfl,hN4.keep x5s hT.size fun k h1 h2=>hT.same k h2 zO zO⟩⟩
     ·refine⟨hT.below yf zO zO zO,.inl ⟨e',h0,rfl,.inr ⟨h0'.out,.inr ⟨r2,S2,hq'.out,.inr ⟨r3,S3,vs3,hO.out,.inr ⟨S4,hl.out,?_⟩⟩⟩⟩⟩⟩;rcases hE with ⟨_,h⟩|⟨h,_⟩
      ·exact h.symm
      ·exact absurd rfl h
def openV:Option Vol->Value
 |none=>.tuple #[VA qaF,.int .i64 6]
 |some v=>.tuple #[VA v,.int .i64 (if v.fz=true then 170 else 0)]
def OpenQ (S:Sto) (root next:Int) (dead:List Int) (id:Int) (w:World) (e:Ending) (w':World):Prop:=Below w.heap.size w w' /\
 ((e=.returned (.tuple #[VA qaF,.int .i64 8])/\Zp S root next dead) \/
  ∃ vs refs nodes,Qo S root next dead vs/\qY S (Qj root dead vs) refs nodes/\QB S refs/\e=.returned (openV (ZQ vs id)))
theorem qbM {R:Ending->World->Prop} {a:Act} {W:World} {b:Nat} {x0 x1 x2 x3 v:Value} (h4:a.tmps[4]?.getD undef=.pointer (some ⟨b,0,none⟩)) (h5:a.tmps[5]?.getD undef=v) (hd:a.defers=[]) (hCA:W.heap[b]?=some (.cells #[x0,x1,x2,x3] 36 (0,0))) (hR:R (.returned (.tuple #[.agg #[x0,x1,x2,x3],v])) W):bodyPost prog Tryz.f82 R .ret a W:=by
 refine bodyPost_ret (v:=.tuple #[.agg #[x0,x1,x2,x3],v]) ?_ hd hR;have k:=qa hCA;simp[results,results82,go_sem,h4,h5,k]
set_option maxRecDepth 100000 in
theorem qkI (A1 n1 c1 A2 n2 c2 A3 n3 c3 A4 n4 c4) (gen root next:Int) (A5 c5) (S:Sto) (dead:List Int) (id:Int) (w:World) (h:qZ w w.heap.size (.slice A1 n1 c1) (.slice A2 n2 c2) (.slice A3 n3 c3) (.slice A4 n4 c4) S) (hd:Zw w w.heap.size (.slice A5 dead.length c5) dead):Calls prog 82 #[.agg (qC (.slice A1 n1 c1) (.slice A2 n2 c2) (.slice A3 n3 c3) (.slice A4 n4 c4) gen root next (.slice A5 dead.length c5)),.int .u32 id] w (OpenQ S root next dead id w):=by
 have HV:=zH (fun W (hx:Ext w W)=>qga A1 n1 c1 A2 n2 c2 A3 n3 c3 A4 n4 c4 gen root next A5 c5 S dead id W (h.ext hx) (hd.ext_ hx));clear h hd;go_enter func82,ntmps82;go_wp2_with fail;generalize hw1:World.alloc (World.alloc w _) _=w1;have x1:Ext w w1:=by rw[<-hw1];exact(zN _ _).trans (zN _ _)
 have r1:w1.heap[w.heap.size+1]?=some (.cells #[.int .u32 0,.int .i64 0,.bool false,.int .u32 0] 36 (0,0)):=by rw[<-hw1];exact zI _ _ _ zA2
 clear hw1;refine(HV.out w1 x1).mono ?_;clear HV;rintro e w2 ⟨hB,hQ⟩;have x2:Ext w w2:=x1.trans hB;have r2:=qb r1 hB;have k2:=qa r2;have f2:=qd r2;have z2:=(zG.1 r2).1;clear hB r1;obtain⟨u,er,rfl,hu⟩:∃ (u:Vol) (er:Int),e=.returned (.tuple #[VA u,.int .i64 er])/\((er=8/\u=qaF/\Zp S root next dead)\/∃ vs refs nodes,Qo S root next dead vs/\qY S (Qj root dead vs) refs nodes/\QB S refs/\((er=6/\u=qaF/\ZQ vs id=none)\/(er=0/\ZQ vs id=some u))):=by
  rcases hQ with ⟨rfl,hb⟩|⟨vs,refs,nodes,hp,hc,he,rfl⟩
  ·exact⟨qaF,8,rfl,.inl ⟨rfl,rfl,hb⟩⟩
  ·rcases hv:ZQ vs id with _|u
   ·exact⟨qaF,6,rfl,.inr ⟨vs,refs,nodes,hp,hc,he,.inl ⟨rfl,rfl,hv⟩⟩⟩
   ·exact⟨u,0,rfl,.inr ⟨vs,refs,nodes,hp,hc,he,.inr ⟨rfl,hv⟩⟩⟩
 clear hQ;obtain⟨ui,ur,uf,um⟩:=u;unfold VA;by_cases h0:er=0
 ·subst h0;obtain⟨vs,refs,nodes,hp,hc,he,hv⟩:∃ vs refs nodes,Qo S root next dead vs/\qY S (Qj root dead vs) refs nodes/\QB S refs/\ZQ vs id=some ⟨ui,ur,uf,um⟩:=by
   rcases hu with ⟨h,_⟩|⟨vs,refs,nodes,hp,hc,he,⟨h,_⟩|⟨_,hv⟩⟩
   ·cases h
   ·cases h
   ·exact⟨vs,refs,nodes,hp,hc,he,hv⟩
  replace hp:=zH hp;replace hc:=zH hc;replace he:=zH he;replace hv:=zH hv;clear hu;cases uf
  ·go_wp2_with fail;exact qbM (b:=w.heap.size+1) rfl rfl rfl (qb (Vn r2 _ _ _ _) (zN _ _)) ⟨Below.alloc (zm x2 zO _ _ _ _) (by have:=x2.size;simpa using this) _,.inr ⟨vs,refs,nodes,hp.out,hc.out,he.out,by rw[hv.out];rfl⟩⟩
  ·go_wp2_with fail;exact qbM (b:=w.heap.size+1) rfl rfl rfl (qb (Vn r2 _ _ _ _) (zN _ _)) ⟨Below.alloc (zm x2 zO _ _ _ _) (by have:=x2.size;simpa using this) _,.inr ⟨vs,refs,nodes,hp.out,hc.out,he.out,by rw[hv.out];rfl⟩⟩
 ·have hb:(er == 0)=false:=by rw[beq_eq_false_iff_ne];exact h0
  have hb2:decide (er=0)=false:=decide_eq_false h0;replace h0:=zH h0;replace hu:=zH hu;go_wp2_with fail;refine qbM (b:=w.heap.size+1) rfl rfl rfl (qb (Vn r2 _ _ _ _) (zN _ _)) ⟨Below.alloc (zm x2 zO _ _ _ _) (by have:=x2.size;simpa using this) _,?_⟩;rcases hu.out with ⟨rfl,he,hb⟩|⟨vs,refs,nodes,hp,hc,he,⟨rfl,hu,hv⟩|⟨h,_⟩⟩
  ·cases he;exact .inl ⟨rfl,hb⟩
  ·cases hu;exact .inr ⟨vs,refs,nodes,hp,hc,he,by rw[hv];rfl⟩
  ·exact absurd h h0.out

theorem qdv {S:Sto}:∀ (h:Nat) (xs:List It),(∀ x∈xs,zy x)->∀ y∈qI S h xs,zy y
 |0,xs,hx,y,hy=>hx y hy
 |h+1,xs,_,y,hy=>by
  rw[Zx] at hy;obtain⟨z,hz,hy⟩:=List.mem_flatMap.1 hy;rcases hn:qu S z.r.toNat with _|⟨lvl,ys⟩
  ·rw[hn] at hy;cases hy
  ·rw[hn] at hy;exact qdv h ys (fun x hx=>((qQ hn).2.1 x hx).1) y hy
theorem vols_okV {S:Sto} {root next:Int} {dead:List Int} {vs:List Vol} (h:Qo S root next dead vs):∀ v∈vs,TT v:=fun v hv=>by
 obtain⟨a,rfl,h8,h256,lvl,xs,hn,hs⟩:=vn h.top;have hvs:=h.vols;unfold TR at hvs;rw[show ((a:Nat):Int).toNat=a from rfl,hn] at hvs;simp only[Int.toNat_natCast] at hvs;rw[qcv _ _ _ zA2] at hvs;split at hvs
 ·rename_i hc;simp only[Option.some.injEq,List.nil_append] at hvs;rw[<-hvs] at hv;obtain⟨x,hx,rfl⟩:=List.mem_map.1 hv;have h1:=qdv (S:=S) lvl xs (fun y hy=>((qQ hn).2.1 y hy).1) x hx;have h2:=List.all_eq_true.1 hc.1 x hx;unfold JI Ud at h2;simp only[Bool.and_eq_true,decide_eq_true_eq] at h2;exact qhf h1 zO
 ·cases hvs
theorem Zp.no {S:Sto} {root next:Int} {dead:List Int} {vs:List Vol} {refs nodes:Nat->Nat} (h:Zp S root next dead) (hp:Qo S root next dead vs) (hc:qY S (Qj root dead vs) refs nodes) (he:QB S refs):False:=by obtain⟨r,n,h1,h2⟩:=h vs hp;obtain⟨_,e⟩:=jX.same h1.mkd hc.mkd;subst e;exact h2 he
theorem vY.stack {ks rs:Nat->List Nat} {R:List Nat} {M:Nat->Bool} {refs:Nat->Nat} {s s':List Nat} (h:vY ks rs R M refs s) (hs:∀ x,x∈s↔x∈s'):vY ks rs R M refs s':=
 ⟨h.reach,fun a ha=>h.stk a ((hs a).2 ha),fun a ha=>(h.root a ha).imp id (hs a).1,fun a ha b hb=>(h.kids a ha b hb).imp id (hs b).1,h.sum⟩
def qav (S:Sto):Nat->List Nat->List Nat->List Nat->Option (List Nat×List Nat)
 |_,[],met,refs=>some (met,refs)
 |0,_ :: _,_,_=>none
 |f+1,a :: s,met,refs=>if met.contains a then qav S f s met refs else if a<256 then qav S f (Zq S a++s) (a :: met) (QU S a++refs) else none
def qbD (met:List Nat):Nat->Bool:=fun a=>met.contains a
theorem qkk (a:Nat) (met:List Nat):qbD (a :: met)=vJ (qbD met) a:=by
 funext b;unfold qbD vJ;by_cases h:b=a
 ·subst h;simp
 ·rw[if_neg h];simp[h]
theorem qcw {S:Sto} {R:List Nat}:∀ (f:Nat) (s met refs:List Nat) {met' refs':List Nat},vY (Zq S) (QU S) R (qbD met) (fun b=>refs.count b) s->qav S f s met refs=some (met',refs')->vY (Zq S) (QU S) R (qbD met') (fun b=>refs'.count b) []
 |0,[],met,refs,met',refs',h,e=>by simp only[qav,Option.some.injEq,Prod.mk.injEq] at e;obtain⟨rfl,rfl⟩:=e;exact h
 |f+1,[],met,refs,met',refs',h,e=>by simp only[qav,Option.some.injEq,Prod.mk.injEq] at e;obtain⟨rfl,rfl⟩:=e;exact h
 |0,_ :: _,met,refs,met',refs',h,e=>by cases e
 |f+1,a :: s,met,refs,met',refs',h,e=>by
  have h1:vY (Zq S) (QU S) R (qbD met) (fun b=>refs.count b) (s++[a]):=h.stack fun x=>by simp[or_comm]
  simp only[qav] at e;split at e
  ·rename_i hm;exact qcw f s met refs (h1.again hm) e
  ·rename_i hm;split at e
   ·rename_i hl;have h2:=h1.new (refs':=fun b=>(QU S a++refs).count b) (by unfold qbD;simpa using hm) hl (fun b=>by simp only[List.count_append];omega);rw[<-qkk] at h2;exact qcw f _ _ _ (h2.stack fun x=>by simp[or_comm]) e
   ·cases e
theorem vY.start (ks rs:Nat->List Nat) (R:List Nat):vY ks rs R (qbD []) (fun b=>R.count b) R:=by
 have h0:∀ b n,Ju rs (qbD []) b n=0:=fun b n=>by
  induction n with
  |zero=>rfl
  |succ n ih=>unfold Ju;rw[ih];rfl
 exact { reach:=fun a h=>(by cases h),stk:=fun a ha=>.base ha,root:=fun a ha=>.inr ha,kids:=fun a h=>(by cases h),sum:=fun b=>by rw[h0];rfl }
def vl (met:List Nat):Nat->Nat:=fun a=>if met.contains a then 1 else 0
theorem qif (met:List Nat):vz (vl met)=qbD met:=by funext a;unfold vz vl qbD;cases met.contains a <;> rfl
theorem qhz {S:Sto} {R met refs:List Nat} {f:Nat} (hR:R≠[]) (h:qav S f R [] R=some (met,refs)):qY S R (fun b=>refs.count b) (vl met):=by
 have h1:=qcw f R [] R (vY.start _ _ R) h;refine⟨jX.walk.2 (by rw[qif];exact h1),fun a=>?_⟩;have h2:=qcq (vz (vl met)) 256;have h3:vl met a<=1:=by unfold vl;split <;> omega
 have h4:0<R.length:=List.length_pos_iff.2 hR;omega
def vp (S:Sto) (root next:Int) (dead:List Int):Option (List Vol×List Nat×List Nat):=
 if ql S && decide (dead.length<=40) && okL S (-1) root then match TR S root next with
  |none=>none
  |some vs=>if (ZU root dead vs).all (fun r=>okL S (-1) r) then match qav S 2000 (Qj root dead vs) [] (Qj root dead vs) with
   |none=>none
   |some (met,refs)=>if qes S (fun b=>refs.count b) then some (vs,met,refs) else none
   else none
 else none
theorem JE {S:Sto} {root next:Int} {dead:List Int} {vs:List Vol} {met refs:List Nat} (h:vp S root next dead=some (vs,met,refs)):Qo S root next dead vs/\qY S (Qj root dead vs) (fun b=>refs.count b) (vl met)/\QB S (fun b=>refs.count b):=by
 unfold vp at h;split at h
 ·rename_i h1;simp only[Bool.and_eq_true,decide_eq_true_eq] at h1;split at h
  ·cases h
  ·rename_i vs' hv;split at h
   ·rename_i h2;split at h
    ·cases h
    ·rename_i met' refs' hw;split at h
     ·rename_i h3;simp only[Option.some.injEq,Prod.mk.injEq] at h;obtain⟨rfl,rfl,rfl⟩:=h;exact⟨⟨h1.1.1,h1.1.2,h1.2,hv,fun r hr=>List.all_eq_true.1 h2 r hr⟩,qhz (by unfold Qj ZU;simp) hw,(qfW _ _).1 h3⟩
     ·cases h
   ·cases h
 ·cases h
theorem Qo.unique {S:Sto} {root next:Int} {dead:List Int} {vs vs':List Vol} {refs nodes refs' nodes':Nat->Nat} (h:Qo S root next dead vs) (hc:qY S (Qj root dead vs) refs nodes) (h':Qo S root next dead vs') (hc':qY S (Qj root dead vs') refs' nodes'):vs'=vs/\refs'=refs/\vz nodes'=vz nodes:=by obtain rfl:=Qo.same h h';obtain⟨e1,e2⟩:=jX.same hc'.mkd hc.mkd;exact⟨rfl,e2,e1⟩
def ChgOk (S:Sto) (root next:Int) (dead:List Int) (v:Vol) (P:Except Int (Nat×Sto)) (r3:Nat) (S4:Sto):Prop:=∃ r2 S2 S3 vs3,Zn S v.root=0/\P=.ok (r2,S2)/\GK S2 root next dead (qan v r2) r3 S3 vs3/\JM S3 v.root=.ok S4/\Zt S4=0
theorem ChgQ.split {S:Sto} {gen root next:Int} {dead:List Int} {v:Vol} {P:Except Int (Nat×Sto)} {w w':World} {e:Ending} (h:ChgQ S gen root next dead v P w e w'):Below w.heap.size w w' /\ ((∃ er,er≠0/\e=.returned (.tuple #[vE,.int .i64 er])/\YN S root next dead v P er)\/∃ r3 S4 u,ChgOk S root next dead v P r3 S4/\e=.returned (.tuple #[u,.int .i64 0])/\jx w.heap.size S4 gen (r3:Int) next dead u w'):=by
 obtain⟨hB,h⟩:=h;refine⟨hB,h.imp id fun ⟨r2,S2,r3,S3,vs3,S4,u,h1,h2,h3,h4,h5,h6,h7⟩=>⟨r3,S4,u,⟨r2,S2,S3,vs3,h1,h2,h3,h4,h5⟩,h6,h7⟩⟩
theorem qev {S:Sto} {a:Int} (h:Zn S a=0):ql S=true/\SM S (Jr S a)/\ql (Jr S a)=true:=by
 have h0:jt S a=0:=by
  unfold Zn at h;split at h
  ·rename_i hh;exact absurd h hh
  ·rename_i hh;exact Classical.not_not.1 hh
 obtain⟨hS,m,hm,h8,h256,-⟩:=Vt h0;have h255:Zo S m≠255:=fun e=>by unfold Zn at h;rw[if_neg (by rw[h0];simp),hm,Int.toNat_natCast,if_pos e] at h;cases h
 have hc:qL S.now m=Zo S m:=rfl;have hl:=(qX hS).2.2.1;refine⟨hS,qix fun r hr=>?_,qF.2 ⟨(qF.1 hS).1,(show Qt (jj S.now a.toNat 1)=true by rw[hm,Int.toNat_natCast];exact ji (qF.1 hS).2.1 h8 _),(qF.1 hS).2.2⟩⟩;rw[hm,Int.toNat_natCast];unfold jj;by_cases e:r=m
 ·subst e;rw[List.getElem?_set_self zO];have h2:=Xx S.now r;simp only[Option.getD_some];rw[UInt8.toNat_ofNat'];omega
 ·rw[List.getElem?_set_ne zO];exact hr
theorem Ky {S:Sto} {refs nodes nodes':Nat->Nat} (h:vz nodes'=vz nodes) (a:Int) (held:Bool):QX S refs nodes' a held=QX S refs nodes a held:=by
 have h1:(0<nodes' a.toNat)↔(0<nodes a.toNat):=by have:=congrFun h a.toNat;unfold vz at this;exact decide_eq_decide.1 this
 unfold QX;simp only[h1]
def KQ (S:Sto) (root next:Int) (dead:List Int) (id:Int) (x:It) (er:Int):Prop:=(er=8/\Zp S root next dead)\/∃ vs refs nodes,Qo S root next dead vs/\qY S (Qj root dead vs) refs nodes/\QB S refs /\
 ((er=6/\ZQ vs id=none)\/∃ v,ZQ vs id=some v/\((er=170/\v.fz=true)\/(v.fz=false/\((er=8/\itB x.r x.val.length=false)\/(itB x.r x.val.length=true /\
  ((er=6/\x.r≠0/\QX S refs nodes x.r true≠0)\/((x.r=0\/QX S refs nodes x.r true=0)/\YN S root next dead v (UJ (Jr S v.root) v.root.toNat x) er)))))))
def VPutOk (S:Sto) (root next:Int) (dead:List Int) (id:Int) (x:It) (r3:Nat) (S4:Sto):Prop:=∃ vs refs nodes v,Qo S root next dead vs/\qY S (Qj root dead vs) refs nodes/\QB S refs /\
 ZQ vs id=some v/\v.fz=false/\itB x.r x.val.length=true/\(x.r=0\/QX S refs nodes x.r true=0)/\ChgOk S root next dead v (UJ (Jr S v.root) v.root.toNat x) r3 S4
def qfo (S:Sto) (gen root next:Int) (dead:List Int) (id:Int) (x:It) (w:World) (e:Ending) (w':World):Prop:=Below w.heap.size w w' /\
 ((∃ er,er≠0/\e=.returned (.tuple #[vE,.int .i64 er])/\KQ S root next dead id x er) \/
  ∃ r3 S4 u,VPutOk S root next dead id x r3 S4/\e=.returned (.tuple #[u,.int .i64 0])/\jx w.heap.size S4 gen (r3:Int) next dead u w')
theorem kI {R:Ending->World->Prop} {a:Act} {W:World} {b:Nat} {x0 x1 x2 x3 x4 x5 x6 x7 v:Value} (h4:a.tmps[6]?.getD undef=.pointer (some ⟨b,0,none⟩)) (h5:a.tmps[7]?.getD undef=v) (hd:a.defers=[]) (hCA:W.heap[b]?=some (.cells #[x0,x1,x2,x3,x4,x5,x6,x7] 32 (0,0))) (hR:R (.returned (.tuple #[.agg #[x0,x1,x2,x3,x4,x5,x6,x7],v])) W):bodyPost prog Tryz.f27 R .ret a W:=by
 refine bodyPost_ret (v:=.tuple #[.agg #[x0,x1,x2,x3,x4,x5,x6,x7],v]) ?_ hd hR;have k:=qa hCA;simp[results,results27,go_sem,h4,h5,k]
set_option maxRecDepth 100000 in
theorem qkJ (A1 n1 c1 A2 n2 c2 A3 n3 c3 A4 n4 c4) (gen root next:Int) (A5 c5) (S:Sto) (dead:List Int) (id:Int) (x:It) (hxo:itB x.r x.val.length=true->zy x) (Ax:OA) (cx:Nat) (hT2:∀ vs refs nodes v,Qo S root next dead vs->qY S (Qj root dead vs) refs nodes->QB S refs->ZQ vs id=some v->v.fz=false->(x.r=0\/QX S refs nodes x.r true=0)->Zn S v.root=0->∀ r2 S2,UJ (Jr S v.root) v.root.toNat x=.ok (r2,S2)->okL S2 (-1) (r2:Int)=true) (w:World) (h:qZ w w.heap.size (.slice A1 n1 c1) (.slice A2 n2 c2) (.slice A3 n3 c3) (.slice A4 n4 c4) S) (hd:Zw w w.heap.size (.slice A5 dead.length c5) dead) (hxv:Bys w w.heap.size (.slice Ax x.val.length cx) x.val):Calls prog 27 #[.agg (qC (.slice A1 n1 c1) (.slice A2 n2 c2) (.slice A3 n3 c3) (.slice A4 n4 c4) gen root next (.slice A5 dead.length c5)),.int .u32 id,itV x Ax cx] w (qfo S gen root next dead id x w):=by
 have HO:=zH (fun W (hx:Ext w W)=>qkI A1 n1 c1 A2 n2 c2 A3 n3 c3 A4 n4 c4 gen root next A5 c5 S dead id W (h.ext hx) (hd.ext_ hx));have HI:=zH (fun W=>JL x.k x.i x.o x.r Ax x.val.length cx W);have HD:=zH (fun W (hx:Ext w W)=>qbe A1 n1 c1 A2 n2 c2 A3 n3 c3 A4 n4 c4 gen root next A5 c5 S dead x.r true W (h.ext hx) (hd.ext_ hx));replace h:=zH h;replace hd:=zH hd;replace hxv:=zH hxv;replace hT2:=zH hT2;replace hxo:=zH hxo;go_enter func27,ntmps27;go_wp2_with fail;generalize hw1:World.alloc (World.alloc (World.alloc w _) _) _=w1;have x1:Ext w w1:=by rw[<-hw1];exact((zN _ _).trans (zN _ _)).trans (zN _ _)
 have rp1:w1.heap[w.heap.size]?=some (.cells (qC (.slice A1 n1 c1) (.slice A2 n2 c2) (.slice A3 n3 c3) (.slice A4 n4 c4) gen root next (.slice A5 dead.length c5)) 32 (0,0)):=by rw[<-hw1];exact(zK _ _ _ zA3).trans ((zK _ _ _ zA3).trans (zI _ _ _ rfl))
 have rx1:w1.heap[w.heap.size+1]?=some (.cells #[.int .u8 x.k,.int .u32 x.i,.int .u32 x.o,.int .i64 x.r,.slice Ax x.val.length cx] 51 (0,0)):=by rw[<-hw1];exact(zK _ _ _ zA3).trans (zI _ _ _ zA2)
 have ro1:w1.heap[w.heap.size+2]?=some (.cells YC 32 (0,0)):=by rw[<-hw1];exact zI _ _ _ zA2
 clear hw1;refine(HO.out w1 x1).mono ?_;clear HO;rintro e w2 ⟨hB,hQ⟩;have x2:Ext w w2:=x1.trans hB;have rp2:=qb rp1 hB;have rx2:=qb rx1 hB;have ro2:=qb ro1 hB;have kp2:=qa rp2;have kx2:=qa rx2;have ko2:=qa ro2;have fo2:=qd ro2;have z1:=(zG.1 rx2).1;have z2:w.heap.size+1+1<w2.heap.size:=(zG.1 ro2).1;clear hB rp1 rx1 ro1;obtain⟨u,er,rfl,hu⟩:∃ (u:Vol) (er:Int),e=.returned (.tuple #[VA u,.int .i64 er])/\((er≠0/\KQ S root next dead id x er)\/(er=0/\∃ vs refs nodes,Qo S root next dead vs/\qY S (Qj root dead vs) refs nodes/\QB S refs/\ZQ vs id=some u/\u.fz=false)):=by
  rcases hQ with ⟨rfl,hb⟩|⟨vs,refs,nodes,hp,hc,he,rfl⟩
  ·exact⟨qaF,8,rfl,.inl ⟨zD,.inl ⟨rfl,hb⟩⟩⟩
  ·rcases hv:ZQ vs id with _|u
   ·exact⟨qaF,6,rfl,.inl ⟨zD,.inr ⟨vs,refs,nodes,hp,hc,he,.inl ⟨rfl,hv⟩⟩⟩⟩
   ·rcases hf:u.fz with _|_
    ·exact⟨u,0,by simp[openV,hf],.inr ⟨rfl,vs,refs,nodes,hp,hc,he,hv,hf⟩⟩
    ·exact⟨u,170,by simp[openV,hf],.inl ⟨zD,.inr ⟨vs,refs,nodes,hp,hc,he,.inr ⟨u,hv,.inl ⟨rfl,hf⟩⟩⟩⟩⟩
 clear hQ;obtain⟨ui,ur,uf,um⟩:=u;unfold VA;rcases hu with ⟨h0,hE⟩|⟨rfl,vs,refs,nodes,hp,hc,he,hv,hfz⟩
 ·have hnb:(er != 0)=true:=by rw[bne_iff_ne];exact h0
  replace h0:=zH h0;replace hE:=zH hE;go_wp2_with fail;exact kI (b:=w.heap.size+2) rfl rfl rfl (qb (vA ro2 _ _ _ _ _ _ _ _) (zN _ _)) ⟨Below.alloc (ZV x2 zO _ _ _ _ _ _ _ _) (by have:=x2.size;simpa using this) _,.inl ⟨er,h0.out,rfl,hE.out⟩⟩
 ·obtain rfl:uf=false:=hfz;have hE:Hid (∀ er,((er=8/\itB x.r x.val.length=false)\/(itB x.r x.val.length=true/\((er=6/\x.r≠0/\QX S refs nodes x.r true≠0)\/((x.r=0\/QX S refs nodes x.r true=0)/\YN S root next dead ⟨ui,ur,false,um⟩ (UJ (Jr S ur) ur.toNat x) er))))->KQ S root next dead id x er):=zH fun er hh=>.inr ⟨vs,refs,nodes,hp,hc,he,.inr ⟨_,hv,.inr ⟨rfl,hh⟩⟩⟩;have wPX:Hid (TT ⟨ui,ur,false,um⟩):=zH (vols_okV hp _ (XS hv));have xGJ:Hid (okL S (-1) ur=true):=zH (hp.ok ur (by unfold ZU;exact List.mem_append_right _ (List.mem_map.2 ⟨_,XS hv,rfl⟩)));have HC:=zH (fun W (hx:Ext w W) (hi:itB x.r x.val.length=true) hx2=>qhd A1 n1 c1 A2 n2 c2 A3 n3 c3 A4 n4 c4 gen root next A5 c5 S dead ⟨ui,ur,false,um⟩ wPX.out x (hxo.out hi) Ax cx (fun hsh=>by obtain⟨_,hsm,_⟩:=qev hsh;obtain⟨a,ha,ht⟩:=vn (hsm.okL xGJ.out);have ha':ur=(a:Int):=ha;simp only[ha',Int.toNat_natCast] at ht ⊢;exact ht) hx2 W (h.out.ext hx) (hd.out.ext_ hx) ((hxv.out.below hx).more hx.size));replace hp:=zH hp;replace hc:=zH hc;replace he:=zH he;replace hv:=zH hv;go_wp2_with fail;generalize hw3:World.alloc w2 _=w3;have x23:Ext w2 w3:=by rw[<-hw3];exact zN _ _
  have x3:Ext w w3:=x2.trans x23;have rv3:w3.heap[w2.heap.size]?=some (.cells #[.int .u32 ui,.int .i64 ur,.bool false,.int .u32 um] 36 (0,0)):=by rw[<-hw3];exact zI _ _ _ zA2
  have rp3:=qb rp2 x23;have rx3:=qb rx2 x23;have ro3:=qb ro2 x23;clear hw3 rp2 rx2 ro2 kp2 kx2 ko2 fo2;refine(HI.out w3).mono ?_;clear HI;rintro e w4 ⟨rfl,hB⟩;have x4:Ext w w4:=x3.trans hB;have rv4:=qb rv3 hB;have rp4:=qb rp3 hB;have rx4:=qb rx3 hB;have ro4:=qb ro3 hB;have kv4:=qa rv4;have kp4:=qa rp4;have kx4:=qa rx4;have ko4:=qa ro4;have fo4:=qd ro4;replace z2:w.heap.size+1+1<w4.heap.size:=(zG.1 ro4).1;clear hB rv3 rp3 rx3 ro3 x23;rcases hib:itB x.r x.val.length with _|_
  ·rw[show Jz false=8 from rfl];have hE8:Hid (KQ S root next dead id x 8):=zH (hE.out 8 (.inl ⟨rfl,hib⟩));replace hib:=zH hib;go_wp2_with fail;exact kI (b:=w.heap.size+2) rfl rfl rfl (vA ro4 _ _ _ _ _ _ _ _) ⟨ZV x4 zO _ _ _ _ _ _ _ _,.inl ⟨8,zD,rfl,hE8.out⟩⟩
  ·rw[show Jz true=0 from rfl];have wMR:=zH hib;clear hib;have wWH:Hid ((x.r=0\/QX S refs nodes x.r true=0)->∀ r2 S2,UJ (Jr S ur) ur.toNat x=.ok (r2,S2)->Zn S ur=0->okL S2 (-1) (r2:Int)=true):=zH fun hor r2 S2 hq hsh=>hT2.out vs refs nodes ⟨ui,ur,false,um⟩ hp.out hc.out he.out hv.out rfl hor hsh r2 S2 hq;have hCI:∀ W,Ext w W->(x.r=0\/QX S refs nodes x.r true=0)->W.heap[w.heap.size]?=some (.cells (qC (.slice A1 n1 c1) (.slice A2 n2 c2) (.slice A3 n3 c3) (.slice A4 n4 c4) gen root next (.slice A5 dead.length c5)) 32 (0,0))->True:=fun _ _ _ _=>trivial;clear hCI;by_cases hr0:x.r=0
   ·have b1:(x.r != 0)=false:=by rw[bne_eq_false_iff_eq];exact hr0
    have hor:Hid (x.r=0\/QX S refs nodes x.r true=0):=zH (.inl hr0);replace hr0:=zH hr0;clear HD;go_wp2_with fail;refine(HC.out w4 x4 wMR.out (fun hsh r2 S2 hq=>wWH.out hor.out r2 S2 hq hsh)).mono ?_;clear HC;intro e w6 hQS;obtain⟨hB6,hS6⟩:=hQS.split;have x6:Ext w w6:=x4.trans hB6;have ro6:=qb ro4 hB6;have ko6:=qa ro6;have fo6:=qd ro6;clear hQS hB6;rcases hS6 with ⟨er,hne,rfl,hCE⟩|⟨r3,S4,u,hO,rfl,hN⟩
    ·have hEr:Hid (KQ S root next dead id x er):=zH (hE.out er (.inr ⟨wMR.out,.inr ⟨hor.out,hCE⟩⟩));replace hne:=zH hne;clear hCE;go_wp2_with fail;exact kI (b:=w.heap.size+2) rfl rfl rfl (vA ro6 _ _ _ _ _ _ _ _) ⟨ZV x6 zO _ _ _ _ _ _ _ _,.inl ⟨er,hne.out,rfl,hEr.out⟩⟩
    ·obtain⟨E1,e1,E2,e2,E3,e3,E4,e4,E5,e5,rfl,-⟩:=_root_.id hN;replace hN:=zH hN;replace hO:=zH hO;go_wp2_with fail;exact kI (b:=w.heap.size+2) rfl rfl rfl (vA ro6 _ _ _ _ _ _ _ _) ⟨ZV x6 zO _ _ _ _ _ _ _ _,.inr ⟨r3,S4,_,⟨vs,refs,nodes,_,hp.out,hc.out,he.out,hv.out,rfl,wMR.out,hor.out,hO.out⟩,rfl,hN.out.keep x4.size zA2 fun k h1 h2=>jI zO _ _ _ _ _ _ _ _⟩⟩
   ·have b1:(x.r != 0)=true:=by rw[bne_iff_ne];exact hr0
    replace hr0:=zH hr0;go_wp2_with fail;refine(HD.out w4 x4).mono ?_;clear HD;rintro e w5 ⟨hB,hQ⟩;have x5:Ext w w5:=x4.trans hB;have rv5:=qb rv4 hB;have rp5:=qb rp4 hB;have rx5:=qb rx4 hB;have ro5:=qb ro4 hB;have kv5:=qa rv5;have kp5:=qa rp5;have kx5:=qa rx5;have ko5:=qa ro5;have fo5:=qd ro5;have z5:w.heap.size+1+1<w5.heap.size:=(zG.1 ro5).1;clear hB rv4 rp4 rx4 ro4 kv4 kp4 kx4 ko4 fo4;rcases hQ with ⟨rfl,hJM⟩|⟨vs',refs',nodes',hp',hc',he',rfl⟩
    ·exact(Zp.no hJM hp.out hc.out he.out).elim
    ·obtain⟨rfl,rfl,hmet⟩:=Qo.unique hp.out hc.out hp' hc';have hdn:QX S refs' nodes' x.r true=QX S refs' nodes x.r true:=Ky hmet _ _;rw[hdn];clear hp' hc' he' hmet hdn;by_cases hd0:QX S refs' nodes x.r true=0
     ·rw[hd0];have hor:Hid (x.r=0\/QX S refs' nodes x.r true=0):=zH (.inr hd0);replace hd0:=zH hd0;go_wp2_with fail;refine(HC.out w5 x5 wMR.out (fun hsh r2 S2 hq=>wWH.out hor.out r2 S2 hq hsh)).mono ?_;clear HC;intro e w6 hQS;obtain⟨hB6,hS6⟩:=hQS.split;have x6:Ext w w6:=x5.trans hB6;have ro6:=qb ro5 hB6;have ko6:=qa ro6;have fo6:=qd ro6;clear hQS hB6;rcases hS6 with ⟨er,hne,rfl,hCE⟩|⟨r3,S4,u,hO,rfl,hN⟩
      ·have hEr:Hid (KQ S root next dead id x er):=zH (hE.out er (.inr ⟨wMR.out,.inr ⟨hor.out,hCE⟩⟩));replace hne:=zH hne;clear hCE;go_wp2_with fail;exact kI (b:=w.heap.size+2) rfl rfl rfl (vA ro6 _ _ _ _ _ _ _ _) ⟨ZV x6 zO _ _ _ _ _ _ _ _,.inl ⟨er,hne.out,rfl,hEr.out⟩⟩
      ·obtain⟨E1,e1,E2,e2,E3,e3,E4,e4,E5,e5,rfl,-⟩:=_root_.id hN;replace hN:=zH hN;replace hO:=zH hO;go_wp2_with fail;exact kI (b:=w.heap.size+2) rfl rfl rfl (vA ro6 _ _ _ _ _ _ _ _) ⟨ZV x6 zO _ _ _ _ _ _ _ _,.inr ⟨r3,S4,_,⟨vs',refs',nodes,_,hp.out,hc.out,he.out,hv.out,rfl,wMR.out,hor.out,hO.out⟩,rfl,hN.out.keep x5.size zA2 fun k h1 h2=>jI zO _ _ _ _ _ _ _ _⟩⟩
     ·have hE6:Hid (KQ S root next dead id x 6):=zH (hE.out 6 (.inr ⟨wMR.out,.inl ⟨rfl,hr0.out,hd0⟩⟩));obtain⟨ed,hed⟩:∃ ed,QX S refs' nodes x.r true=ed:=⟨_,rfl⟩
      rw[hed] at hd0 ⊢;have hnb:(ed != 0)=true:=by rw[bne_iff_ne];exact hd0
      replace hd0:=zH hd0;replace hed:=zH hed;go_wp2_with fail;exact kI (b:=w.heap.size+2) rfl rfl rfl (vA ro5 _ _ _ _ _ _ _ _) ⟨ZV x5 zO _ _ _ _ _ _ _ _,.inl ⟨6,zD,rfl,hE6.out⟩⟩

structure PV where
 E1:OA
 m1:Nat
 e1:Nat
 E2:OA
 m2:Nat
 e2:Nat
 E3:OA
 m3:Nat
 e3:Nat
 E4:OA
 m4:Nat
 e4:Nat
 g:Int
 t:Int
 n:Int
 E5:OA
 m5:Nat
 e5:Nat
abbrev PV.cs (p:PV):Array Value:=qC (.slice p.E1 p.m1 p.e1) (.slice p.E2 p.m2 p.e2) (.slice p.E3 p.m3 p.e3) (.slice p.E4 p.m4 p.e4) p.g p.t p.n (.slice p.E5 p.m5 p.e5)

section
variable {gb:Nat} {c0 c1 c2 c3 c4 c5 c6 c7:Value} {er:Int}
end

def CreEnd (bp be ba:Nat) (cs:Array Value) (a e:Int) (S:Sto) (W W':World):Prop:=vX bp be ba W W' /\
 ((e=0/\Zt S=0/\W'.heap[bp]?=some (.cells cs 32 (0,0))/\W'.heap[be]?=some (.cells #[.int .i64 0] 37 (0,0))/\W'.heap[ba]?=some (.cells #[.int .u32 a] 29 (0,0))) \/
  ∃ e',e'≠0/\((e=0/\e'=Zt S)\/(e≠0/\e'=e))/\W'.heap[bp]?=some (.cells YC 32 (0,0))/\W'.heap[be]?=some (.cells #[.int .i64 e'] 37 (0,0))/\W'.heap[ba]?=some (.cells #[.int .u32 0] 29 (0,0)))
set_option maxRecDepth 100000 in
theorem cre1_any (bp be ba:Nat) (h12:bp≠be) (h13:bp≠ba) (h23:be≠ba) (A1 n1 c1 A2 n2 c2 A3 n3 c3 A4 n4 c4) (gen root next:Int) (v5:Value) (a e:Int) (S:Sto) (u:FrameMode) (w:World) (hp:w.heap[bp]?=some (.cells (qC (.slice A1 n1 c1) (.slice A2 n2 c2) (.slice A3 n3 c3) (.slice A4 n4 c4) gen root next v5) 32 (0,0))) (he:w.heap[be]?=some (.cells #[.int .i64 e] 37 (0,0))) (ha:w.heap[ba]?=some (.cells #[.int .u32 a] 29 (0,0))) (h:e=0->qZ w w.heap.size (.slice A1 n1 c1) (.slice A2 n2 c2) (.slice A3 n3 c3) (.slice A4 n4 c4) S):CallsD prog 101 #[.pointer (some ⟨bp,0,none⟩),.pointer (some ⟨be,0,none⟩),.pointer (some ⟨ba,0,none⟩)] u w (fun x u' w'=>u'=u/\x=.returned (.tuple #[])/\CreEnd bp be ba (qC (.slice A1 n1 c1) (.slice A2 n2 c2) (.slice A3 n3 c3) (.slice A4 n4 c4) gen root next v5) a e S w w'):=by
 have HR:=qdP bp be h12 A1 n1 c1 A2 n2 c2 A3 n3 c3 A4 n4 c4 gen root next v5 e S w hp he h
 clear h hp he;go_enter_d func101,ntmps101;go_wp2_with fail;refine HR.mono ?_;rintro x w2 ⟨rfl,hT,⟨h0,hE,hp2,he2⟩|⟨e',h0,hE,hp2,he2⟩⟩
 ·have ha2:=(hT.same ba (zG.1 ha).1 (Ne.symm h13) (Ne.symm h23)).trans ha;have ke2:=qa he2;have hz:=zH h0;clear h0;go_wp2_with fail;go_end0;exact⟨rfl,vX.of_two hT,.inl ⟨hz.out,hE,hp2,he2,ha2⟩⟩
 ·have ha2:=(hT.same ba (zG.1 ha).1 (Ne.symm h13) (Ne.symm h23)).trans ha;have ke2:=qa he2;have ka2:=qa ha2;have fa2:=qd ha2;have b1:(e' != 0)=true:=by rw[bne_iff_ne];exact h0
  replace h0:=zH h0;replace hE:=zH hE;go_wp2_with fail;go_end0;exact⟨rfl,(vX.of_two hT).set _,.inr ⟨e',h0.out,hE.out,(zJ _ _ _ _ h13).trans hp2,(zJ _ _ _ _ h23).trans he2,qi ha2 0 _⟩⟩
end Go.Proofs.YtmeadnlmepcmbaaGreat
