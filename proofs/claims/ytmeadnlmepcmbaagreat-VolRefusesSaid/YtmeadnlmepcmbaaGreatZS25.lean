/- Lemmas of the proof. -/
import Derived.Test.YtmeadnlmepcmbaaGreatZS24
set_option linter.all false
set_option maxHeartbeats 8000000
open Go.Proofs.Tryz
open Go.Value renaming slice→j,int→J,pointer→Q,tuple→Y
open Go.World renaming setCell→D,alloc→Oa
open Bool renaming true→E,false→Jx
open Option renaming some→F,none→I
open Go.Ending renaming returned→O
open Go.Obj renaming cells→U
open Go.IntKind renaming i64→Z
open Go renaming World→Ob
namespace Go.Proofs.YtmeadnlmepcmbaaGreat
open Go.RowKit
variable {tmps:Array Value}{W w w':World}{x0 x1 x2 x3 x4 x5 x6 x7 v5:Value}{S S' S2 S1:Sto}{gen root next er:Int}{dead:List Int}{v:Vol}{P:Except Int (Nat×Sto)}{ks rs:Nat->List Nat}{R s s' met R':List Nat}{M:Nat->Bool}{refs nodes nodes':Nat->Nat}{f a h:Nat}{vs vs':List Vol}{e:Ending}{p l xs hs:List It}{x:It}
def qbO(S:Sto)(a:Nat)(k:K3):Except Int (Nat×Sto):=match qm S a with
 |none=>.error 8
 |some (lvl,xs)=>XP S lvl.toNat xs a k
theorem qhn{R:Ending->Ob->Prop}{b:Nat}{z:Value}(h4:tmps[8]?.getD undef=Q (F ⟨b+1+1+1,0,I⟩))(h5:tmps[9]?.getD undef=Q (F ⟨b+1+1+1+1,0,I⟩))(r4:W.heap[b+3]?=F (U #[x0,x1,x2,x3,x4,x5,x6,x7] 32 (0,0)))(r6:W.heap[b+4]?=F (U #[z] 37 (0,0)))(hR:R (O (Y #[.agg #[x0,x1,x2,x3,x4,x5,x6,x7],z])) W):Leaves prog Tryz.f92 tmps R [] .returning W:=by
 have k4:=qa r4;have k6:=qa r6;refine⟨Y #[.agg #[x0,x1,x2,x3,x4,x5,x6,x7],z],?_,hR⟩;simp[results,results92,go_sem,h4,h5,k4,k6]
theorem qey{R:Ending->Ob->Prop}{b:Nat}(A1 n1 c1 A2 n2 c2 A3 n3 c3 A4 n4 c4)(gen root next:Int)(v5:Value)(e:Int)(S:Sto)(h4:tmps[8]?.getD undef=Q (F ⟨b+1+1+1,0,I⟩))(h5:tmps[9]?.getD undef=Q (F ⟨b+1+1+1+1,0,I⟩))(r4:W.heap[b+3]?=F (U (qQ (j A1 n1 c1) (j A2 n2 c2) (j A3 n3 c3) (j A4 n4 c4) gen root next v5) 32 (0,0)))(r6:W.heap[b+4]?=F (U #[J Z e] 37 (0,0)))(h:e=0->Qi W W.heap.size (j A1 n1 c1) (j A2 n2 c2) (j A3 n3 c3) (j A4 n4 c4) S)(hR1:e=0->jc S=0->∀W',Two (b+3) (b+4) W W'->R (O (Y #[.agg (qQ (j A1 n1 c1) (j A2 n2 c2) (j A3 n3 c3) (j A4 n4 c4) gen root next v5),J Z 0])) W')(hR2:∀e' W',e'≠0->((e=0/\e'=jc S)\/(e≠0/\e'=e))->Two (b+3) (b+4) W W'->R (O (Y #[Tz,J Z e'])) W'):bodyPostD prog Tryz.f92 R .ret {tmps:=tmps,defers:=[{target:=.fn (.func 89) #[],args:=#[Q (F ⟨b+1+1+1,0,I⟩),Q (F ⟨b+1+1+1+1,0,I⟩)]}]} W:=by
 refine leaves_cons (f:=89) (args:=#[Q (F ⟨b+1+1+1,0,I⟩),Q (F ⟨b+1+1+1+1,0,I⟩)]) zA3 (by simp[go_sem]) ?_;refine(qdp (b+3) (b+4) zO A1 n1 c1 A2 n2 c2 A3 n3 c3 A4 n4 c4 gen root next v5 e S .returning W r4 r6 h).mono ?_;rintro x u' w' ⟨rfl,rfl,hT,⟨h0,hE,g4,g6⟩|⟨e',h0,hE,g4,g6⟩⟩
 ·exact qhn h4 h5 g4 g6 (hR1 h0 hE w' hT)
 ·exact qhn h4 h5 g4 g6 (hR2 e' w' h0 hE hT)
theorem Gr{E1 E2 E3 E4:OA}{m1 e1 m2 e2 m3 e3 m4 e4:Nat}{g9 t9 n9:Int}(hne:er≠0)(hc:JT S root next dead v P er)(h4:tmps[8]?.getD undef=Q (F ⟨w.heap.size+1+1+1,0,I⟩))(h5:tmps[9]?.getD undef=Q (F ⟨w.heap.size+1+1+1+1,0,I⟩))(r4:W.heap[w.heap.size+3]?=F (U (qQ (j E1 m1 e1) (j E2 m2 e2) (j E3 m3 e3) (j E4 m4 e4) g9 t9 n9 v5) 32 (0,0)))(r6:W.heap[w.heap.size+4]?=F (U #[J Z er] 37 (0,0)))(hB:Ext w W):bodyPostD prog Tryz.f92 (ChgQ S gen root next dead v P w) .ret {tmps:=tmps,defers:=[{target:=.fn (.func 89) #[],args:=#[Q (F ⟨w.heap.size+1+1+1,0,I⟩),Q (F ⟨w.heap.size+1+1+1+1,0,I⟩)]}]} W:=by
 refine qey E1 m1 e1 E2 m2 e2 E3 m3 e3 E4 m4 e4 g9 t9 n9 v5 er S h4 h5 r4 r6 (λh=>absurd h hne) (λh=>absurd h hne) (λe' W' h0 hE hT=>?_);obtain rfl:e'=er:=by
  rcases hE with⟨h,_⟩|⟨_,h⟩
  ·exact absurd h hne
  ·exact h
 have z:=(zG.1 r4).1;exact⟨hT.below hB zO zO zO,.inl ⟨e',hne,rfl,hc⟩⟩
set_option maxRecDepth 100000 in
theorem qgD(A1 n1 c1 A2 n2 c2 A3 n3 c3 A4 n4 c4)(gen root next:Int)(A5 c5)(S:Sto)(dead:List Int)(v:Vol)(hvo:XH v)(k i o:Int)(htr:zY S v.root=0->Zp (Zf S v.root) v.root.toNat)(hT2:zY S v.root=0->∀r2 S2,qbO (Zf S v.root) v.root.toNat (k,i,o)=.ok (r2,S2)->okL S2 (-1) (r2:Int)=E)(w:Ob)(h:Qi w w.heap.size (j A1 n1 c1) (j A2 n2 c2) (j A3 n3 c3) (j A4 n4 c4) S)(hd:ZM w w.heap.size (j A5 dead.length c5) dead):Calls prog 92 #[.agg (qQ (j A1 n1 c1) (j A2 n2 c2) (j A3 n3 c3) (j A4 n4 c4) gen root next (j A5 dead.length c5)),Ve v,.func (.func 62) #[] #[],Xk k i o] w (ChgQ S gen root next dead v (qbO (Zf S v.root) v.root.toNat (k,i,o)) w):=by
 have HS:=zH (λW (hx:Ext w W)=>qdt A1 n1 c1 A2 n2 c2 A3 n3 c3 A4 n4 c4 S v.root W (h.ext hx));obtain⟨P,hP⟩:∃P,qbO (Zf S v.root) v.root.toNat (k,i,o)=P:=⟨_,rfl⟩
 rw[hP]at hT2⊢;replace hP:=zH hP;replace h:=zH h;replace hd:=zH hd;replace htr:=zH htr;replace hT2:=zH hT2;replace hvo:=zH hvo;go_enter_defers func92,ntmps92;go_wp2_with fail;generalize hw1:Oa _ _=w1;have x1:Ext w w1:=by rw[<-hw1];exact((((zN _ _).trans (zN _ _)).trans (zN _ _)).trans (zN _ _)).trans (zN _ _)
 have rp1:w1.heap[w.heap.size]?=F (U (qQ (j A1 n1 c1) (j A2 n2 c2) (j A3 n3 c3) (j A4 n4 c4) gen root next (j A5 dead.length c5)) 32 (0,0)):=by rw[<-hw1];exact(zK _ _ _ zA4).trans ((zK _ _ _ zA4).trans ((zK _ _ _ zA4).trans ((zK _ _ _ zA4).trans (zI _ _ _ rfl))))
 have rv1:w1.heap[w.heap.size+1]?=F (U #[J .u32 v.id,J Z v.root,.bool v.fz,J .u32 v.frm] 36 (0,0)):=by rw[<-hw1];exact(zK _ _ _ zA4).trans ((zK _ _ _ zA4).trans ((zK _ _ _ zA4).trans (zI _ _ _ zA3)))
 have rx1:w1.heap[w.heap.size+2]?=F (U #[J .u8 k,J .u32 i,J .u32 o] 49 (0,0)):=by rw[<-hw1];exact(zK _ _ _ zA4).trans ((zK _ _ _ zA4).trans (zI _ _ _ zA3))
 have ro1:w1.heap[w.heap.size+3]?=F (U XF 32 (0,0)):=by rw[<-hw1];exact(zK _ _ _ zA4).trans (zI _ _ _ zA3)
 have re1:w1.heap[w.heap.size+4]?=F (U #[J Z 0] 37 (0,0)):=by rw[<-hw1];exact zI _ _ _ zA3
 have s1:w1.heap.size=w.heap.size+5:=by rw[<-hw1];simp
 clear hw1;refine(HS.out w1 x1).mono ?_;clear HS;rintro e w2 ⟨u,rfl,hQ,hB⟩;have x12:Ext w1 w2:=hB;have x2:Ext w w2:=x1.trans hB;have rp2:=qb rp1 hB;have rv2:=qb rv1 hB;have rx2:=qb rx1 hB;have ro2:=qb ro1 hB;have re2:=qb re1 hB;have z12:=hB.size;have kp2:=qa rp2;have kv2:=qa rv2;have kx2:=qa rx2;have ko2:=qa ro2;have ke2:=qa re2;have fp2:=qd rp2;have fv2:=qd rv2;have fo2:=qd ro2;have fe2:=qd re2;have q0:w.heap.size<w2.heap.size:=zO;have q1:w.heap.size+1<w2.heap.size:=zO;have q2:w.heap.size+1+1<w2.heap.size:=zO;have q3:w.heap.size+1+1+1<w2.heap.size:=zO;have q4:w.heap.size+1+1+1+1<w2.heap.size:=zO;clear hB rp1 rv1 rx1 ro1 re1 x1;rcases hQ with⟨hne,rfl⟩|⟨h0,vv,rfl,hT⟩
 ·obtain⟨er,her⟩:∃er,zY S v.root=er:=⟨_,rfl⟩
  rw[her]at hne⊢;have hnb:(er != 0)=E:=by rw[bne_iff_ne];exact hne
  replace hne:=zH hne;replace her:=zH her;go_wp2_with fail;obtain⟨rp3,re3,z3,xe3,o3⟩:=st5 (b:=w.heap.size) (x0:=j I 0 0) (x1:=j I 0 0) (x2:=j I 0 0) (x3:=j I 0 0) (ev:=J Z er) rp2 re2 rfl;obtain⟨ro4,re4,z4,xe4,o4⟩:=st9 (b:=w.heap.size) (p:=w.heap.size+3) zO zO ((o3 _ zO zO).trans ro2) re3 rfl;exact Gr hne.out (.inl her.out) rfl rfl ro4 re4 (xe4 (zM _) (xe3 (zM _) x2))
 ·obtain⟨a,lvl,xs,hra,ha8,hYA,hn,hsp⟩:∃(a lvl:Nat)(xs:List It),v.root=(a:Int)/\8<=a/\a<256/\qm (Zf S v.root) a=F ((lvl:Int),xs)/\(qC (Zf S v.root) lvl xs).isSome=E:=by obtain⟨h8,h256,lvl,xs,h1,h2⟩:=htr.out h0;exact⟨v.root.toNat,lvl,xs,zO,h8,h256,h1,h2⟩
  have hMN:qk (Zf S v.root)=E:=by
   obtain⟨hS,m,hm,h8,h256,-⟩:=KQ (show Js S v.root=0 by
    unfold zY at h0;split at h0
    ·rename_i hh;exact absurd h0 hh
    ·rename_i hh;exact Classical.not_not.1 hh)
   exact qE.2 ⟨(qE.1 hS).1,(show Qu (QB S.now v.root.toNat 1)=E by rw[hm,Int.toNat_natCast];exact je (qE.1 hS).2.1 h8 _),(qE.1 hS).2.2⟩
  change zm w1.heap.size (Zf S v.root) vv w2 at hT;obtain⟨S1,hS1⟩:∃S1,Zf S v.root=S1:=⟨_,rfl⟩
  have hP1:=hP.out;rw[hS1]at hT hn hsp hMN hP1;replace hS1:=zH hS1;have hPe:P=XP S1 lvl xs a (k,i,o):=by rw[<-hP1];unfold qbO;rw[hra,Int.toNat_natCast,hn];rfl
  obtain⟨BB,WW,gg,B3,d3,B4,d4,rfl,-⟩:=id hT;have hns:=zH (vG (hT.newSto (QY hMN)));have HPx:=zH (λW hst=>del_any (F ⟨BB,0,I⟩) S1.bs.length S1.bs.length (F ⟨WW,0,I⟩) S1.ws.length (S1.ws.length+1) B3 S1.now.length d3 B4 S1.last.length d4 S1 hMN a lvl xs ha8 hYA hn hsp k i o W hst);rw[<-hPe]at HPx;have hpm:=zH (λr S' (he:P=.ok (r,S'))=>qhy hMN ha8 hn hsp (hPe▸he));have hpe:=zH (λer (he:P=.error er)=>delY_err (hPe▸he));have h0':=zH h0;have hraH:=zH hra;rw[<-hra]at HPx;clear hT h0 hn hsp hPe hMN hP1 hra;go_wp2_with fail;generalize hw3:D (D (D (D (D w2 _ _) _ _) _ _) _ _) _ _=w3;obtain⟨rp3,re3,z3,xe3,o3⟩:=st5 (b:=w.heap.size) rp2 re2 hw3;have x3:=xe3 (zM _) x2;have rv3:=(o3 (w.heap.size+1) zO zO).trans rv2;have ro3:=(o3 (w.heap.size+3) zO zO).trans ro2;have hZT:=(hns.out w3 (jU λk h1 h2=>o3 k zO zO)).more (show w2.heap.size<=w3.heap.size by omega);have HP2:=HPx.out w3 hZT;clear hw3 rp2 rv2 rx2 ro2 re2 kp2 kv2 kx2 ko2 ke2 fp2 fv2 fo2 fe2 xe3 hZT hns HPx o3;refine HP2.mono ?_;clear HP2;rintro e w4 ⟨u,rfl,hM,hB⟩;have x34:Ext w3 w4:=hB;have x4:Ext w w4:=x3.trans hB;have rp4:=qb rp3 hB;have rv4:=qb rv3 hB;have ro4:=qb ro3 hB;have re4:=qb re3 hB;have z34:=hB.size;have kp4:=qa rp4;have kv4:=qa rv4;have ko4:=qa ro4;have ke4:=qa re4;have fp4:=qd rp4;have fv4:=qd rv4;have fo4:=qd ro4;have fe4:=qd re4;replace q0:w.heap.size<w4.heap.size:=zO;replace q1:w.heap.size+1<w4.heap.size:=zO;replace q3:w.heap.size+1+1+1<w4.heap.size:=zO;replace q4:w.heap.size+1+1+1+1<w4.heap.size:=zO;clear hB rp3 rv3 ro3 re3;rcases hq:P with er|⟨r2,S2⟩
  ·rw[hq]at hM;obtain rfl:=hM;have hne:=hpe.out er hq;have hnb:(er != 0)=E:=by rw[bne_iff_ne];exact hne
   have hce:Hid (JT S root next dead v P er):=zH (.inr ⟨h0'.out,.inl hq⟩);replace hne:=zH hne;replace hq:=zH hq;go_wp2_with fail;obtain⟨rp5,rv5,re5,z5,xe5,o5⟩:=st6 (b:=w.heap.size) (x0:=j I 0 0) (x1:=j I 0 0) (x2:=j I 0 0) (x3:=j I 0 0) (z:=J Z 0) (ev:=J Z er) rp4 rv4 re4 rfl;obtain⟨ro6,re6,z6,xe6,o6⟩:=st9 (b:=w.heap.size) (p:=w.heap.size+3) zO zO ((o5 _ zO zO zO).trans ro4) re5 rfl;exact Gr hne.out hce.out rfl rfl ro6 re6 (xe6 (zM _) (xe5 (zM _) x4))
  ·rw[hq]at hM;obtain⟨vv,rfl,hT⟩:=hM;obtain⟨BB2,WW2,gg2,C3,g3,C4,g4,rfl,-⟩:=id hT;have hns:=zH (vG (hT.newSto (QY (hpm.out r2 S2 hq).1)));have hGQ:=zH (hT2.out h0'.out r2 S2 hq);have hr8:=(hpm.out r2 S2 hq).2;have hq':=zH hq;clear hT hq;go_wp2_with fail;generalize hw5:D (D (D (D (D (D w4 _ _) _ _) _ _) _ _) _ _) _ _=w5;obtain⟨rp5,rv5,re5,z5,xe5,o5⟩:=st6 (b:=w.heap.size) rp4 rv4 re4 hw5;have x5:=xe5 (zM _) x4;have ro5:=(o5 (w.heap.size+3) zO zO zO).trans ro4;have hNE:=(hns.out w5 (jU λk h1 h2=>o5 k zO zO zO)).more (show w4.heap.size<=w5.heap.size by omega);have hMG:XH (TG v r2):=⟨hvo.out.1,by simp only[TG];omega,hvo.out.2.2⟩
   have HS:=qcB (F ⟨BB2,0,I⟩) S2.bs.length S2.bs.length (F ⟨WW2,0,I⟩) S2.ws.length (S2.ws.length+1) C3 S2.now.length g3 C4 S2.last.length g4 gen root next A5 c5 S2 dead (TG v r2) hMG (λ_ _ _=>hGQ.out) w5 hNE (hd.out.ext_ x5)
   clear hw5 rp4 rv4 ro4 re4 kp4 kv4 ko4 ke4 fp4 fv4 fo4 fe4 xe5 hNE hns hGQ hMG o5;refine HS.mono ?_;clear HS;intro e w6 hQS;obtain⟨hB6,hS6⟩:=hQS.split;have x6:Ext w w6:=x5.trans hB6;have rp6:=qb rp5 hB6;have ro6:=qb ro5 hB6;have re6:=qb re5 hB6;have z56:=hB6.size;have kp6:=qa rp6;have ko6:=qa ro6;have ke6:=qa re6;have fp6:=qd rp6;have fo6:=qd ro6;have fe6:=qd re6;replace q0:w.heap.size<w6.heap.size:=zO;replace q3:w.heap.size+1+1+1<w6.heap.size:=zO;replace q4:w.heap.size+1+1+1+1<w6.heap.size:=zO;clear hQS hB6 rp5 rv5 ro5 re5 q1;rcases hS6 with⟨er,hne,rfl,hE⟩|⟨r3,S3,vs3,u,hO,rfl,hN⟩
   ·have hnb:(er != 0)=E:=by rw[bne_iff_ne];exact hne
    have hce:Hid (JT S root next dead v P er):=zH (.inr ⟨h0'.out,.inr ⟨r2,S2,hq'.out,.inl hE⟩⟩);replace hne:=zH hne;clear hE;go_wp2_with fail;obtain⟨rp7,re7,z7,xe7,o7⟩:=st9 (b:=w.heap.size) (p:=w.heap.size) (x0:=j I 0 0) (x1:=j I 0 0) (x2:=j I 0 0) (x3:=j I 0 0) (x4:=J .u32 0) (x5:=J Z 0) (x6:=J .u32 0) (x7:=j I 0 0) (ev:=J Z er) zO zO rp6 re6 rfl;obtain⟨ro8,re8,z8,xe8,o8⟩:=st9 (b:=w.heap.size) (p:=w.heap.size+3) zO zO ((o7 _ zO zO).trans ro6) re7 rfl;exact Gr hne.out hce.out rfl rfl ro8 re8 (xe8 (zM _) (xe7 (zM _) x6))
   ·obtain⟨E1,e1,E2,e2,E3,e3,E4,e4,E5,e5,rfl,hcl⟩:=id hN;go_wp2_with fail;generalize hw7:D (D (D (D (D (D (D (D (D w6 _ _) _ _) _ _) _ _) _ _) _ _) _ _) _ _) _ _=w7;obtain⟨rp7,re7,z7,xe7,o7⟩:=st9 (b:=w.heap.size) (p:=w.heap.size) zO zO rp6 re6 hw7;have x7:=xe7 (zM _) x6;have ro7:=(o7 (w.heap.size+3) zO zO).trans ro6;obtain⟨hZU,wFV⟩:=hcl w7 (jU λk h1 h2=>o7 k zO zO);have HLv:=qct E1 _ e1 E2 _ e2 E3 _ e3 E4 _ e4 S3 v.root w7 (hZU.more zO);have wFI:=zH hcl;have o7H:=zH o7;clear hw7 rp6 ro6 re6 kp6 ko6 ke6 fp6 fo6 fe6 xe7 o7 hZU wFV hcl;replace hN:=zH hN;replace hO:=zH hO;refine HLv.mono ?_;clear HLv;rintro e w8 ⟨u,rfl,hL,hB⟩;have x78:Ext w7 w8:=hB;have x8:Ext w w8:=x7.trans hB;have rp8:=qb rp7 hB;have ro8:=qb ro7 hB;have re8:=qb re7 hB;have z78:=hB.size;have kp8:=qa rp8;have ko8:=qa ro8;have ke8:=qa re8;have fp8:=qd rp8;have fo8:=qd ro8;have fe8:=qd re8;replace q0:w.heap.size<w8.heap.size:=zO;replace q3:w.heap.size+1+1+1<w8.heap.size:=zO;replace q4:w.heap.size+1+1+1+1<w8.heap.size:=zO;clear hB rp7 ro7 re7;rcases hl:jX S3 v.root with er|S4
    ·rw[hl]at hL;obtain rfl:=hL;have hne:er≠0:=by
      unfold jX at hl;split at hl
      ·unfold Vu at hl;split at hl
       ·cases hl;decide
       ·cases hl
      ·rename_i hh;cases hl;exact hh
     have hce:Hid (JT S root next dead v P er):=zH (.inr ⟨h0'.out,.inr ⟨r2,S2,hq'.out,.inr ⟨r3,S3,vs3,hO.out,.inl hl⟩⟩⟩);replace hne:=zH hne;replace hl:=zH hl;go_wp2_with fail;obtain⟨rp9,re9,z9,xe9,o9⟩:=st5 (b:=w.heap.size) (x0:=j I 0 0) (x1:=j I 0 0) (x2:=j I 0 0) (x3:=j I 0 0) (ev:=J Z er) rp8 re8 rfl;obtain⟨roA,reA,zA,xeA,oA⟩:=st9 (b:=w.heap.size) (p:=w.heap.size+3) zO zO ((o9 _ zO zO).trans ro8) re9 rfl;exact Gr hne.out hce.out rfl rfl roA reA (xeA (zM _) (xe9 (zM _) x8))
    ·rw[hl]at hL;obtain⟨vv,rfl,hT⟩:=hL;obtain⟨BB4,WW4,gg4,G3,h3,G4,h4,rfl,-⟩:=id hT;have hSC:qk S4=E:=by obtain⟨_,_,_,_,_,_,_,_,refs9,nodes9,hp9,_⟩:=hO.out;exact qcN hp9.may hl
     have wGS:=zH (vG (hT.newSto (QY hSC)));replace hl:=zH hl;clear hT hSC;go_wp2_with fail;obtain⟨rp9,re9,z9,xe9,o9⟩:=st5 (b:=w.heap.size) (x0:=j (F ⟨BB4,0,I⟩) S4.bs.length S4.bs.length) (x1:=j (F ⟨WW4,0,I⟩) S4.ws.length (S4.ws.length+1)) (x2:=j G3 S4.now.length h3) (x3:=j G4 S4.last.length h4) (ev:=J Z 0) rp8 re8 rfl;have roP:=(o9 (w.heap.size+3) zO zO).trans ro8;generalize hw9:D (D (D (D (D w8 _ _) _ _) _ _) _ _) _ _=w9 at*;generalize hwf:D (D (D (D (D (D (D (D (D w9 _ _) _ _) _ _) _ _) _ _) _ _) _ _) _ _) _ _=Wf;obtain⟨roA,reA,zA,xeA,oA⟩:=st9 (b:=w.heap.size) (p:=w.heap.size+3) zO zO roP re9 hwf;have yf:=xeA (zM _) (xe9 (zM _) x8);clear hwf hw9;have hk8:∀k,w7.heap.size<=k->k<w8.heap.size->Wf.heap[k]?=w8.heap[k]?:=λk h1 h2=>(oA k zO zO).trans (o9 k zO zO);have hk6:∀k,w5.heap.size<=k->k<w6.heap.size->Wf.heap[k]?=w6.heap[k]?:=λk h1 h2=>(oA k zO zO).trans ((o9 k zO zO).trans ((Below.block x78 k zO).trans (o7H.out k zO zO)));have x5s:=x5.size;have hN4:Jp w5.heap.size S4 gen (r3:Int) next dead (.agg (qQ (j (F ⟨BB4,0,I⟩) S4.bs.length S4.bs.length) (j (F ⟨WW4,0,I⟩) S4.ws.length (S4.ws.length+1)) (j G3 S4.now.length h3) (j G4 S4.last.length h4) gen (r3:Int) next (j E5 dead.length e5))) Wf:=
      ⟨_,_,_,_,_,_,_,_,_,_,rfl,λC hC=>⟨(wGS.out C λq v h1 h2 h3=>hC q v zO zO ((jz (hk8 q.block h1 h2)).trans h3)).more zO,((wFI.out C λq v h1 h2 h3=>hC q v zO zO ((jz (hk6 q.block h1 h2)).trans h3)).2.more zO)⟩⟩
     refine qey _ _ _ _ _ _ _ _ _ _ _ _ gen (r3:Int) next (j E5 dead.length e5) 0 S4 rfl rfl roA reA (λ_=>?_) (λ_ hE W' hT=>?_) (λe' W' h0 hE hT=>?_)
     ·obtain⟨F1,f1,F2,f2,F3,f3,F4,f4,F5,f5,ee,hst,hin⟩:=hN4.sto;simp only[qQ,Value.agg.injEq,Array.mk.injEq,List.cons.injEq,Value.slice.injEq,true_and,and_true]at ee;obtain⟨⟨rfl,rfl⟩,⟨rfl,rfl⟩,⟨rfl,rfl⟩,⟨rfl,rfl⟩,rfl,rfl⟩:=ee;exact hst
     ·exact⟨hT.below yf zO zO zO,.inr ⟨r2,S2,r3,S3,vs3,S4,_,h0'.out,hq'.out,hO.out,hl.out,hE,rfl,hN4.keep x5s hT.size λk h1 h2=>hT.same k h2 zO zO⟩⟩
     ·refine⟨hT.below yf zO zO zO,.inl ⟨e',h0,rfl,.inr ⟨h0'.out,.inr ⟨r2,S2,hq'.out,.inr ⟨r3,S3,vs3,hO.out,.inr ⟨S4,hl.out,?_⟩⟩⟩⟩⟩⟩;rcases hE with⟨_,h⟩|⟨h,_⟩
      ·exact h.symm
      ·exact absurd rfl h
def qin:Option Vol->Value
 |none=>Y #[Ve Un,J Z 6]
 |some v=>Y #[Ve v,J Z (if v.fz=E then 170 else 0)]
def OpenQ(S:Sto)(root next:Int)(dead:List Int)(id:Int)(w:Ob)(e:Ending)(w':Ob):Prop:=Below w.heap.size w w' /\
 ((e=O (Y #[Ve Un,J Z 8])/\QS S root next dead) \/
  ∃vs refs nodes,Qy S root next dead vs/\Qk S (Qo root dead vs) refs nodes/\QQ S refs/\e=O (qin (zF vs id)))
theorem qdg{R:Ending->Ob->Prop}{a:Act}{b:Nat}{v:Value}(h4:a.tmps[4]?.getD undef=Q (F ⟨b,0,I⟩))(h5:a.tmps[5]?.getD undef=v)(hd:a.defers=[])(hAH:W.heap[b]?=F (U #[x0,x1,x2,x3] 36 (0,0)))(hR:R (O (Y #[.agg #[x0,x1,x2,x3],v])) W):bodyPost prog Tryz.f82 R .ret a W:=by
 refine bodyPost_ret (v:=Y #[.agg #[x0,x1,x2,x3],v]) ?_ hd hR;have k:=qa hAH;simp[results,results82,go_sem,h4,h5,k]
set_option maxRecDepth 100000 in
theorem qfy(A1 n1 c1 A2 n2 c2 A3 n3 c3 A4 n4 c4)(gen root next:Int)(A5 c5)(S:Sto)(dead:List Int)(id:Int)(w:Ob)(h:Qi w w.heap.size (j A1 n1 c1) (j A2 n2 c2) (j A3 n3 c3) (j A4 n4 c4) S)(hd:ZM w w.heap.size (j A5 dead.length c5) dead):Calls prog 82 #[.agg (qQ (j A1 n1 c1) (j A2 n2 c2) (j A3 n3 c3) (j A4 n4 c4) gen root next (j A5 dead.length c5)),J .u32 id] w (OpenQ S root next dead id w):=by
 have HV:=zH (λW (hx:Ext w W)=>qcC A1 n1 c1 A2 n2 c2 A3 n3 c3 A4 n4 c4 gen root next A5 c5 S dead id W (h.ext hx) (hd.ext_ hx));clear h hd;go_enter func82,ntmps82;go_wp2_with fail;generalize hw1:Oa (Oa w _) _=w1;have x1:Ext w w1:=by rw[<-hw1];exact(zN _ _).trans (zN _ _)
 have r1:w1.heap[w.heap.size+1]?=F (U #[J .u32 0,J Z 0,.bool Jx,J .u32 0] 36 (0,0)):=by rw[<-hw1];exact zI _ _ _ zA3
 clear hw1;refine(HV.out w1 x1).mono ?_;clear HV;rintro e w2 ⟨hB,hQ⟩;have x2:Ext w w2:=x1.trans hB;have r2:=qb r1 hB;have k2:=qa r2;have f2:=qd r2;have z2:=(zG.1 r2).1;clear hB r1;obtain⟨u,er,rfl,hu⟩:∃(u:Vol)(er:Int),e=O (Y #[Ve u,J Z er])/\((er=8/\u=Un/\QS S root next dead)\/∃vs refs nodes,Qy S root next dead vs/\Qk S (Qo root dead vs) refs nodes/\QQ S refs/\((er=6/\u=Un/\zF vs id=I)\/(er=0/\zF vs id=F u))):=by
  rcases hQ with⟨rfl,hb⟩|⟨vs,refs,nodes,hp,hc,he,rfl⟩
  ·exact⟨Un,8,rfl,.inl ⟨rfl,rfl,hb⟩⟩
  ·rcases hv:zF vs id with _|u
   ·exact⟨Un,6,rfl,.inr ⟨vs,refs,nodes,hp,hc,he,.inl ⟨rfl,rfl,hv⟩⟩⟩
   ·exact⟨u,0,rfl,.inr ⟨vs,refs,nodes,hp,hc,he,.inr ⟨rfl,hv⟩⟩⟩
 clear hQ;obtain⟨ui,ur,uf,um⟩:=u;unfold Ve;by_cases h0:er=0
 ·subst h0;obtain⟨vs,refs,nodes,hp,hc,he,hv⟩:∃vs refs nodes,Qy S root next dead vs/\Qk S (Qo root dead vs) refs nodes/\QQ S refs/\zF vs id=F ⟨ui,ur,uf,um⟩:=by
   rcases hu with⟨h,_⟩|⟨vs,refs,nodes,hp,hc,he,⟨h,_⟩|⟨_,hv⟩⟩
   ·cases h
   ·cases h
   ·exact⟨vs,refs,nodes,hp,hc,he,hv⟩
  replace hp:=zH hp;replace hc:=zH hc;replace he:=zH he;replace hv:=zH hv;clear hu;cases uf
  ·go_wp2_with fail;exact qdg (b:=w.heap.size+1) rfl rfl rfl (qb (KO r2 _ _ _ _) (zN _ _)) ⟨Below.alloc (Zv x2 zO _ _ _ _) (by have:=x2.size;simpa using this) _,.inr ⟨vs,refs,nodes,hp.out,hc.out,he.out,by rw[hv.out];rfl⟩⟩
  ·go_wp2_with fail;exact qdg (b:=w.heap.size+1) rfl rfl rfl (qb (KO r2 _ _ _ _) (zN _ _)) ⟨Below.alloc (Zv x2 zO _ _ _ _) (by have:=x2.size;simpa using this) _,.inr ⟨vs,refs,nodes,hp.out,hc.out,he.out,by rw[hv.out];rfl⟩⟩
 ·have hb:(er==0)=Jx:=by rw[beq_eq_false_iff_ne];exact h0
  have hb2:decide (er=0)=Jx:=decide_eq_false h0;replace h0:=zH h0;replace hu:=zH hu;go_wp2_with fail;refine qdg (b:=w.heap.size+1) rfl rfl rfl (qb (KO r2 _ _ _ _) (zN _ _)) ⟨Below.alloc (Zv x2 zO _ _ _ _) (by have:=x2.size;simpa using this) _,?_⟩;rcases hu.out with⟨rfl,he,hb⟩|⟨vs,refs,nodes,hp,hc,he,⟨rfl,hu,hv⟩|⟨h,_⟩⟩
  ·cases he;exact .inl ⟨rfl,hb⟩
  ·cases hu;exact .inr ⟨vs,refs,nodes,hp,hc,he,by rw[hv];rfl⟩
  ·exact absurd h h0.out
theorem VJ.stack(h:VJ ks rs R M refs s)(hs:∀x,x∈s↔x∈s'):VJ ks rs R M refs s':=
 ⟨h.reach,λa ha=>h.stk a ((hs a).2 ha),λa ha=>(h.root a ha).imp id (hs a).1,λa ha b hb=>(h.kids a ha b hb).imp id (hs b).1,h.sum⟩
def qbG(S:Sto):Nat->List Nat->List Nat->List Nat->Option (List Nat×List Nat)
 |_,[],met,refs=>F (met,refs)
 |0,_::_,_,_=>I
 |f+1,a::s,met,refs=>if met.contains a then qbG S f s met refs else if a<256 then qbG S f (ZD S a++s) (a::met) (QZ S a++refs)else I
def qcX(met:List Nat):Nat->Bool:=λa=>met.contains a
theorem qmo(a:Nat)(met:List Nat):qcX (a::met)=vY (qcX met) a:=by
 funext b;unfold qcX vY;by_cases h:b=a
 ·subst h;simp
 ·rw[if_neg h];simp[h]
theorem qdJ{S:Sto}{R:List Nat}:∀(f:Nat)(s met refs:List Nat){met' refs':List Nat},VJ (ZD S) (QZ S) R (qcX met) (λb=>refs.count b) s->qbG S f s met refs=F (met',refs')->VJ (ZD S) (QZ S) R (qcX met') (λb=>refs'.count b) []
 |0,[],met,refs,met',refs',h,e=>by simp only[qbG,Option.some.injEq,Prod.mk.injEq]at e;obtain⟨rfl,rfl⟩:=e;exact h
 |f+1,[],met,refs,met',refs',h,e=>by simp only[qbG,Option.some.injEq,Prod.mk.injEq]at e;obtain⟨rfl,rfl⟩:=e;exact h
 |0,_::_,met,refs,met',refs',h,e=>by cases e
 |f+1,a::s,met,refs,met',refs',h,e=>by
  have h1:VJ (ZD S) (QZ S) R (qcX met) (λb=>refs.count b) (s++[a]):=h.stack λx=>by simp[or_comm]
  simp only[qbG]at e;split at e
  ·rename_i hm;exact qdJ f s met refs (h1.again hm) e
  ·rename_i hm;split at e
   ·rename_i hl;have h2:=h1.new (refs':=λb=>(QZ S a++refs).count b) (by unfold qcX;simpa using hm) hl (λb=>by simp only[List.count_append];omega);rw[<-qmo]at h2;exact qdJ f _ _ _ (h2.stack λx=>by simp[or_comm]) e
   ·cases e
theorem VJ.start(ks rs:Nat->List Nat)(R:List Nat):VJ ks rs R (qcX []) (λb=>R.count b) R:=by
 have h0:∀b n,JX rs (qcX []) b n=0:=λb n=>by
  induction n with
  |zero=>rfl
  |succ n ih=>unfold JX;rw[ih];rfl
 exact {reach:=λa h=>(by cases h),stk:=λa ha=>.base ha,root:=λa ha=>.inr ha,kids:=λa h=>(by cases h),sum:=λb=>by rw[h0];rfl}
def Gc(met:List Nat):Nat->Nat:=λa=>if met.contains a then 1 else 0
theorem qka(met:List Nat):Vj (Gc met)=qcX met:=by funext a;unfold Vj Gc qcX;cases met.contains a<;>rfl
theorem qjo{refs:List Nat}(hR:R≠[])(h:qbG S f R [] R=F (met,refs)):Qk S R (λb=>refs.count b) (Gc met):=by
 have h1:=qdJ f R [] R (VJ.start _ _ R) h;refine⟨Jo.walk.2 (by rw[qka];exact h1),λa=>?_⟩;have h2:=qdF (Vj (Gc met)) 256;have h3:Gc met a<=1:=by unfold Gc;split<;>omega
 have h4:0<R.length:=List.length_pos_iff.2 hR;omega
def XK(S:Sto)(root next:Int)(dead:List Int):Option (List Vol×List Nat×List Nat):=
 if qk S&&decide (dead.length<=40)&&okL S (-1) root then match Gl S root next with
  |none=>I
  |some vs=>if(ZF root dead vs).all (λr=>okL S (-1) r)then match qbG S 2000 (Qo root dead vs) [] (Qo root dead vs) with
   |none=>I
   |some (met,refs)=>if qfR S (λb=>refs.count b)then F (vs,met,refs)else I
   else I
 else I
theorem YL{refs:List Nat}(h:XK S root next dead=F (vs,met,refs)):Qy S root next dead vs/\Qk S (Qo root dead vs) (λb=>refs.count b) (Gc met)/\QQ S (λb=>refs.count b):=by
 unfold XK at h;split at h
 ·rename_i h1;simp only[Bool.and_eq_true,decide_eq_true_eq]at h1;split at h
  ·cases h
  ·rename_i vs' hv;split at h
   ·rename_i h2;split at h
    ·cases h
    ·rename_i met' refs' hw;split at h
     ·rename_i h3;simp only[Option.some.injEq,Prod.mk.injEq]at h;obtain⟨rfl,rfl,rfl⟩:=h;exact⟨⟨h1.1.1,h1.1.2,h1.2,hv,λr hr=>List.all_eq_true.1 h2 r hr⟩,qjo (by unfold Qo ZF;simp) hw,(qhE _ _).1 h3⟩
     ·cases h
   ·cases h
 ·cases h
theorem Qy.unique{refs':Nat->Nat}(h:Qy S root next dead vs)(hc:Qk S (Qo root dead vs) refs nodes)(h':Qy S root next dead vs')(hc':Qk S (Qo root dead vs') refs' nodes'):vs'=vs/\refs'=refs/\Vj nodes'=Vj nodes:=by obtain rfl:=Qy.same h h';obtain⟨e1,e2⟩:=Jo.same hc'.mkd hc.mkd;exact⟨rfl,e2,e1⟩
def ChgOk(S:Sto)(root next:Int)(dead:List Int)(v:Vol)(P:Except Int (Nat×Sto))(r3:Nat)(S4:Sto):Prop:=∃r2 S2 S3 vs3,zY S v.root=0/\P=.ok (r2,S2)/\qaV S2 root next dead (TG v r2) r3 S3 vs3/\jX S3 v.root=.ok S4/\jc S4=0
theorem ChgQ.split(h:ChgQ S gen root next dead v P w e w'):Below w.heap.size w w'/\((∃er,er≠0/\e=O (Y #[Tz,J Z er])/\JT S root next dead v P er)\/∃r3 S4 u,ChgOk S root next dead v P r3 S4/\e=O (Y #[u,J Z 0])/\Jp w.heap.size S4 gen (r3:Int) next dead u w'):=by
 obtain⟨hB,h⟩:=h;refine⟨hB,h.imp id λ⟨r2,S2,r3,S3,vs3,S4,u,h1,h2,h3,h4,h5,h6,h7⟩=>⟨r3,S4,u,⟨r2,S2,S3,vs3,h1,h2,h3,h4,h5⟩,h6,h7⟩⟩
theorem TU{a:Int}(h:zY S a=0):qk S=E/\SM S (Zf S a)/\qk (Zf S a)=E:=by
 have h0:Js S a=0:=by
  unfold zY at h;split at h
  ·rename_i hh;exact absurd h hh
  ·rename_i hh;exact Classical.not_not.1 hh
 obtain⟨hS,m,hm,h8,h256,-⟩:=KQ h0;have hNY:Zy S m≠255:=λe=>by unfold zY at h;rw[if_neg (by rw[h0];simp),hm,Int.toNat_natCast,if_pos e]at h;cases h
 have hc:qO S.now m=Zy S m:=rfl;have hl:=(qZ hS).2.2.1;refine⟨hS,qgA λr hr=>?_,qE.2 ⟨(qE.1 hS).1,(show Qu (QB S.now a.toNat 1)=E by rw[hm,Int.toNat_natCast];exact je (qE.1 hS).2.1 h8 _),(qE.1 hS).2.2⟩⟩;rw[hm,Int.toNat_natCast];unfold QB;by_cases e:r=m
 ·subst e;rw[List.getElem?_set_self zO];have h2:=KT S.now r;simp only[Option.getD_some];rw[UInt8.toNat_ofNat'];omega
 ·rw[List.getElem?_set_ne zO];exact hr
theorem qlN(h:Vj nodes'=Vj nodes)(a:Int)(held:Bool):jS S refs nodes' a held=jS S refs nodes a held:=by
 have h1:(0<nodes' a.toNat)↔(0<nodes a.toNat):=by have:=congrFun h a.toNat;unfold Vj at this;exact decide_eq_decide.1 this
 unfold jS;simp only[h1]
def YX(S:Sto)(root next:Int)(dead:List Int)(id:Int)(x:It)(er:Int):Prop:=(er=8/\QS S root next dead)\/∃vs refs nodes,Qy S root next dead vs/\Qk S (Qo root dead vs) refs nodes/\QQ S refs /\
 ((er=6/\zF vs id=I)\/∃v,zF vs id=F v/\((er=170/\v.fz=E)\/(v.fz=Jx/\((er=8/\itB x.r x.val.length=Jx)\/(itB x.r x.val.length=E /\
  ((er=6/\x.r≠0/\jS S refs nodes x.r E≠0)\/((x.r=0\/jS S refs nodes x.r E=0)/\JT S root next dead v (Um (Zf S v.root) v.root.toNat x) er)))))))
def VPutOk(S:Sto)(root next:Int)(dead:List Int)(id:Int)(x:It)(r3:Nat)(S4:Sto):Prop:=∃vs refs nodes v,Qy S root next dead vs/\Qk S (Qo root dead vs) refs nodes/\QQ S refs /\
 zF vs id=F v/\v.fz=Jx/\itB x.r x.val.length=E/\(x.r=0\/jS S refs nodes x.r E=0)/\ChgOk S root next dead v (Um (Zf S v.root) v.root.toNat x) r3 S4
def qgR(S:Sto)(gen root next:Int)(dead:List Int)(id:Int)(x:It)(w:Ob)(e:Ending)(w':Ob):Prop:=Below w.heap.size w w' /\
 ((∃er,er≠0/\e=O (Y #[Tz,J Z er])/\YX S root next dead id x er) \/
  ∃r3 S4 u,VPutOk S root next dead id x r3 S4/\e=O (Y #[u,J Z 0])/\Jp w.heap.size S4 gen (r3:Int) next dead u w')
theorem KJ{R:Ending->Ob->Prop}{a:Act}{b:Nat}{v:Value}(h4:a.tmps[6]?.getD undef=Q (F ⟨b,0,I⟩))(h5:a.tmps[7]?.getD undef=v)(hd:a.defers=[])(hAH:W.heap[b]?=F (U #[x0,x1,x2,x3,x4,x5,x6,x7] 32 (0,0)))(hR:R (O (Y #[.agg #[x0,x1,x2,x3,x4,x5,x6,x7],v])) W):bodyPost prog Tryz.f27 R .ret a W:=by
 refine bodyPost_ret (v:=Y #[.agg #[x0,x1,x2,x3,x4,x5,x6,x7],v]) ?_ hd hR;have k:=qa hAH;simp[results,results27,go_sem,h4,h5,k]
set_option maxRecDepth 100000 in
theorem qmR(A1 n1 c1 A2 n2 c2 A3 n3 c3 A4 n4 c4)(gen root next:Int)(A5 c5)(S:Sto)(dead:List Int)(id:Int)(x:It)(hxo:itB x.r x.val.length=E->QW x)(Ax:OA)(cx:Nat)(hT2:∀vs refs nodes v,Qy S root next dead vs->Qk S (Qo root dead vs) refs nodes->QQ S refs->zF vs id=F v->v.fz=Jx->(x.r=0\/jS S refs nodes x.r E=0)->zY S v.root=0->∀r2 S2,Um (Zf S v.root) v.root.toNat x=.ok (r2,S2)->okL S2 (-1) (r2:Int)=E)(w:Ob)(h:Qi w w.heap.size (j A1 n1 c1) (j A2 n2 c2) (j A3 n3 c3) (j A4 n4 c4) S)(hd:ZM w w.heap.size (j A5 dead.length c5) dead)(hxv:Bys w w.heap.size (j Ax x.val.length cx) x.val):Calls prog 27 #[.agg (qQ (j A1 n1 c1) (j A2 n2 c2) (j A3 n3 c3) (j A4 n4 c4) gen root next (j A5 dead.length c5)),J .u32 id,itV x Ax cx] w (qgR S gen root next dead id x w):=by
 have HO:=zH (λW (hx:Ext w W)=>qfy A1 n1 c1 A2 n2 c2 A3 n3 c3 A4 n4 c4 gen root next A5 c5 S dead id W (h.ext hx) (hd.ext_ hx));have HI:=zH (λW=>Jz x.k x.i x.o x.r Ax x.val.length cx W);have HD:=zH (λW (hx:Ext w W)=>data_any A1 n1 c1 A2 n2 c2 A3 n3 c3 A4 n4 c4 gen root next A5 c5 S dead x.r E W (h.ext hx) (hd.ext_ hx));replace h:=zH h;replace hd:=zH hd;replace hxv:=zH hxv;replace hT2:=zH hT2;replace hxo:=zH hxo;go_enter func27,ntmps27;go_wp2_with fail;generalize hw1:Oa (Oa (Oa w _) _) _=w1;have x1:Ext w w1:=by rw[<-hw1];exact((zN _ _).trans (zN _ _)).trans (zN _ _)
 have rp1:w1.heap[w.heap.size]?=F (U (qQ (j A1 n1 c1) (j A2 n2 c2) (j A3 n3 c3) (j A4 n4 c4) gen root next (j A5 dead.length c5)) 32 (0,0)):=by rw[<-hw1];exact(zK _ _ _ zA4).trans ((zK _ _ _ zA4).trans (zI _ _ _ rfl))
 have rx1:w1.heap[w.heap.size+1]?=F (U #[J .u8 x.k,J .u32 x.i,J .u32 x.o,J Z x.r,j Ax x.val.length cx] 51 (0,0)):=by rw[<-hw1];exact(zK _ _ _ zA4).trans (zI _ _ _ zA3)
 have ro1:w1.heap[w.heap.size+2]?=F (U XF 32 (0,0)):=by rw[<-hw1];exact zI _ _ _ zA3
 clear hw1;refine(HO.out w1 x1).mono ?_;clear HO;rintro e w2 ⟨hB,hQ⟩;have x2:Ext w w2:=x1.trans hB;have rp2:=qb rp1 hB;have rx2:=qb rx1 hB;have ro2:=qb ro1 hB;have kp2:=qa rp2;have kx2:=qa rx2;have ko2:=qa ro2;have fo2:=qd ro2;have z1:=(zG.1 rx2).1;have z2:w.heap.size+1+1<w2.heap.size:=(zG.1 ro2).1;clear hB rp1 rx1 ro1;obtain⟨u,er,rfl,hu⟩:∃(u:Vol)(er:Int),e=O (Y #[Ve u,J Z er])/\((er≠0/\YX S root next dead id x er)\/(er=0/\∃vs refs nodes,Qy S root next dead vs/\Qk S (Qo root dead vs) refs nodes/\QQ S refs/\zF vs id=F u/\u.fz=Jx)):=by
  rcases hQ with⟨rfl,hb⟩|⟨vs,refs,nodes,hp,hc,he,rfl⟩
  ·exact⟨Un,8,rfl,.inl ⟨zA1,.inl ⟨rfl,hb⟩⟩⟩
  ·rcases hv:zF vs id with _|u
   ·exact⟨Un,6,rfl,.inl ⟨zA1,.inr ⟨vs,refs,nodes,hp,hc,he,.inl ⟨rfl,hv⟩⟩⟩⟩
   ·rcases hf:u.fz with _|_
    ·exact⟨u,0,by simp[qin,hf],.inr ⟨rfl,vs,refs,nodes,hp,hc,he,hv,hf⟩⟩
    ·exact⟨u,170,by simp[qin,hf],.inl ⟨zA1,.inr ⟨vs,refs,nodes,hp,hc,he,.inr ⟨u,hv,.inl ⟨rfl,hf⟩⟩⟩⟩⟩
 clear hQ;obtain⟨ui,ur,uf,um⟩:=u;unfold Ve;rcases hu with⟨h0,hE⟩|⟨rfl,vs,refs,nodes,hp,hc,he,hv,hfz⟩
 ·have hnb:(er != 0)=E:=by rw[bne_iff_ne];exact h0
  replace h0:=zH h0;replace hE:=zH hE;go_wp2_with fail;exact KJ (b:=w.heap.size+2) rfl rfl rfl (qb (VV ro2 _ _ _ _ _ _ _ _) (zN _ _)) ⟨Below.alloc (jM x2 zO _ _ _ _ _ _ _ _) (by have:=x2.size;simpa using this) _,.inl ⟨er,h0.out,rfl,hE.out⟩⟩
 ·obtain rfl:uf=Jx:=hfz;have hE:Hid (∀er,((er=8/\itB x.r x.val.length=Jx)\/(itB x.r x.val.length=E/\((er=6/\x.r≠0/\jS S refs nodes x.r E≠0)\/((x.r=0\/jS S refs nodes x.r E=0)/\JT S root next dead ⟨ui,ur,Jx,um⟩ (Um (Zf S ur) ur.toNat x) er))))->YX S root next dead id x er):=zH λer hh=>.inr ⟨vs,refs,nodes,hp,hc,he,.inr ⟨_,hv,.inr ⟨rfl,hh⟩⟩⟩;have hMG:Hid (XH ⟨ui,ur,Jx,um⟩):=zH (qiU hp _ (vL hv));have hVO:Hid (okL S (-1) ur=E):=zH (hp.ok ur (by unfold ZF;exact List.mem_append_right _ (List.mem_map.2 ⟨_,vL hv,rfl⟩)));have HC:=zH (λW (hx:Ext w W) (hi:itB x.r x.val.length=E) hx2=>qiO A1 n1 c1 A2 n2 c2 A3 n3 c3 A4 n4 c4 gen root next A5 c5 S dead ⟨ui,ur,Jx,um⟩ hMG.out x (hxo.out hi) Ax cx (λhsh=>by obtain⟨_,hsm,_⟩:=TU hsh;obtain⟨a,ha,ht⟩:=JE (hsm.okL hVO.out);have ha':ur=(a:Int):=ha;simp only[ha',Int.toNat_natCast]at ht⊢;exact ht) hx2 W (h.out.ext hx) (hd.out.ext_ hx) ((hxv.out.below hx).more hx.size));replace hp:=zH hp;replace hc:=zH hc;replace he:=zH he;replace hv:=zH hv;go_wp2_with fail;generalize hw3:Oa w2 _=w3;have x23:Ext w2 w3:=by rw[<-hw3];exact zN _ _
  have x3:Ext w w3:=x2.trans x23;have rv3:w3.heap[w2.heap.size]?=F (U #[J .u32 ui,J Z ur,.bool Jx,J .u32 um] 36 (0,0)):=by rw[<-hw3];exact zI _ _ _ zA3
  have rp3:=qb rp2 x23;have rx3:=qb rx2 x23;have ro3:=qb ro2 x23;clear hw3 rp2 rx2 ro2 kp2 kx2 ko2 fo2;refine(HI.out w3).mono ?_;clear HI;rintro e w4 ⟨rfl,hB⟩;have x4:Ext w w4:=x3.trans hB;have rv4:=qb rv3 hB;have rp4:=qb rp3 hB;have rx4:=qb rx3 hB;have ro4:=qb ro3 hB;have kv4:=qa rv4;have kp4:=qa rp4;have kx4:=qa rx4;have ko4:=qa ro4;have fo4:=qd ro4;replace z2:w.heap.size+1+1<w4.heap.size:=(zG.1 ro4).1;clear hB rv3 rp3 rx3 ro3 x23;rcases hib:itB x.r x.val.length with _|_
  ·rw[show JQ Jx=8 from rfl];have hE8:Hid (YX S root next dead id x 8):=zH (hE.out 8 (.inl ⟨rfl,hib⟩));replace hib:=zH hib;go_wp2_with fail;exact KJ (b:=w.heap.size+2) rfl rfl rfl (VV ro4 _ _ _ _ _ _ _ _) ⟨jM x4 zO _ _ _ _ _ _ _ _,.inl ⟨8,zA1,rfl,hE8.out⟩⟩
  ·rw[show JQ E=0 from rfl];have hUG:=zH hib;clear hib;have wCV:Hid ((x.r=0\/jS S refs nodes x.r E=0)->∀r2 S2,Um (Zf S ur) ur.toNat x=.ok (r2,S2)->zY S ur=0->okL S2 (-1) (r2:Int)=E):=zH λhor r2 S2 hq hsh=>hT2.out vs refs nodes ⟨ui,ur,Jx,um⟩ hp.out hc.out he.out hv.out rfl hor hsh r2 S2 hq;have hBM:∀W,Ext w W->(x.r=0\/jS S refs nodes x.r E=0)->W.heap[w.heap.size]?=F (U (qQ (j A1 n1 c1) (j A2 n2 c2) (j A3 n3 c3) (j A4 n4 c4) gen root next (j A5 dead.length c5)) 32 (0,0))->True:=λ_ _ _ _=>trivial;clear hBM;by_cases hr0:x.r=0
   ·have b1:(x.r != 0)=Jx:=by rw[bne_eq_false_iff_eq];exact hr0
    have hor:Hid (x.r=0\/jS S refs nodes x.r E=0):=zH (.inl hr0);replace hr0:=zH hr0;clear HD;go_wp2_with fail;refine(HC.out w4 x4 hUG.out (λhsh r2 S2 hq=>wCV.out hor.out r2 S2 hq hsh)).mono ?_;clear HC;intro e w6 hQS;obtain⟨hB6,hS6⟩:=hQS.split;have x6:Ext w w6:=x4.trans hB6;have ro6:=qb ro4 hB6;have ko6:=qa ro6;have fo6:=qd ro6;clear hQS hB6;rcases hS6 with⟨er,hne,rfl,hCE⟩|⟨r3,S4,u,hO,rfl,hN⟩
    ·have hEr:Hid (YX S root next dead id x er):=zH (hE.out er (.inr ⟨hUG.out,.inr ⟨hor.out,hCE⟩⟩));replace hne:=zH hne;clear hCE;go_wp2_with fail;exact KJ (b:=w.heap.size+2) rfl rfl rfl (VV ro6 _ _ _ _ _ _ _ _) ⟨jM x6 zO _ _ _ _ _ _ _ _,.inl ⟨er,hne.out,rfl,hEr.out⟩⟩
    ·obtain⟨E1,e1,E2,e2,E3,e3,E4,e4,E5,e5,rfl,-⟩:=_root_.id hN;replace hN:=zH hN;replace hO:=zH hO;go_wp2_with fail;exact KJ (b:=w.heap.size+2) rfl rfl rfl (VV ro6 _ _ _ _ _ _ _ _) ⟨jM x6 zO _ _ _ _ _ _ _ _,.inr ⟨r3,S4,_,⟨vs,refs,nodes,_,hp.out,hc.out,he.out,hv.out,rfl,hUG.out,hor.out,hO.out⟩,rfl,hN.out.keep x4.size zA3 λk h1 h2=>jY zO _ _ _ _ _ _ _ _⟩⟩
   ·have b1:(x.r != 0)=E:=by rw[bne_iff_ne];exact hr0
    replace hr0:=zH hr0;go_wp2_with fail;refine(HD.out w4 x4).mono ?_;clear HD;rintro e w5 ⟨hB,hQ⟩;have x5:Ext w w5:=x4.trans hB;have rv5:=qb rv4 hB;have rp5:=qb rp4 hB;have rx5:=qb rx4 hB;have ro5:=qb ro4 hB;have kv5:=qa rv5;have kp5:=qa rp5;have kx5:=qa rx5;have ko5:=qa ro5;have fo5:=qd ro5;have z5:w.heap.size+1+1<w5.heap.size:=(zG.1 ro5).1;clear hB rv4 rp4 rx4 ro4 kv4 kp4 kx4 ko4 fo4;rcases hQ with⟨rfl,hEN⟩|⟨vs',refs',nodes',hp',hc',he',rfl⟩
    ·exact(QS.no hEN hp.out hc.out he.out).elim
    ·obtain⟨rfl,rfl,hmet⟩:=Qy.unique hp.out hc.out hp' hc';have hdn:jS S refs' nodes' x.r E=jS S refs' nodes x.r E:=qlN hmet _ _;rw[hdn];clear hp' hc' he' hmet hdn;by_cases hd0:jS S refs' nodes x.r E=0
     ·rw[hd0];have hor:Hid (x.r=0\/jS S refs' nodes x.r E=0):=zH (.inr hd0);replace hd0:=zH hd0;go_wp2_with fail;refine(HC.out w5 x5 hUG.out (λhsh r2 S2 hq=>wCV.out hor.out r2 S2 hq hsh)).mono ?_;clear HC;intro e w6 hQS;obtain⟨hB6,hS6⟩:=hQS.split;have x6:Ext w w6:=x5.trans hB6;have ro6:=qb ro5 hB6;have ko6:=qa ro6;have fo6:=qd ro6;clear hQS hB6;rcases hS6 with⟨er,hne,rfl,hCE⟩|⟨r3,S4,u,hO,rfl,hN⟩
      ·have hEr:Hid (YX S root next dead id x er):=zH (hE.out er (.inr ⟨hUG.out,.inr ⟨hor.out,hCE⟩⟩));replace hne:=zH hne;clear hCE;go_wp2_with fail;exact KJ (b:=w.heap.size+2) rfl rfl rfl (VV ro6 _ _ _ _ _ _ _ _) ⟨jM x6 zO _ _ _ _ _ _ _ _,.inl ⟨er,hne.out,rfl,hEr.out⟩⟩
      ·obtain⟨E1,e1,E2,e2,E3,e3,E4,e4,E5,e5,rfl,-⟩:=_root_.id hN;replace hN:=zH hN;replace hO:=zH hO;go_wp2_with fail;exact KJ (b:=w.heap.size+2) rfl rfl rfl (VV ro6 _ _ _ _ _ _ _ _) ⟨jM x6 zO _ _ _ _ _ _ _ _,.inr ⟨r3,S4,_,⟨vs',refs',nodes,_,hp.out,hc.out,he.out,hv.out,rfl,hUG.out,hor.out,hO.out⟩,rfl,hN.out.keep x5.size zA3 λk h1 h2=>jY zO _ _ _ _ _ _ _ _⟩⟩
     ·have hE6:Hid (YX S root next dead id x 6):=zH (hE.out 6 (.inr ⟨hUG.out,.inl ⟨rfl,hr0.out,hd0⟩⟩));obtain⟨ed,hed⟩:∃ed,jS S refs' nodes x.r E=ed:=⟨_,rfl⟩
      rw[hed]at hd0⊢;have hnb:(ed != 0)=E:=by rw[bne_iff_ne];exact hd0
      replace hd0:=zH hd0;replace hed:=zH hed;go_wp2_with fail;exact KJ (b:=w.heap.size+2) rfl rfl rfl (VV ro5 _ _ _ _ _ _ _ _) ⟨jM x5 zO _ _ _ _ _ _ _ _,.inl ⟨6,zA1,rfl,hE6.out⟩⟩


theorem Tp(S:Sto)(a b:Nat)(h:b∈ZD S a):b∈QZ S a:=by
 unfold ZD at h;split at h
 ·cases h
 ·split at h
  ·exact h
  ·cases h
theorem KB{rs rs':Nat->List Nat}{M:Nat->Bool}(h:∀a,M a=E->rs' a=rs a)(b:Nat):∀n,JX rs' M b n=JX rs M b n
 |0=>rfl
 |n+1=>by
  unfold JX;rw[KB h b n];by_cases hn:M n=E
  ·rw[if_pos hn,if_pos hn,h n hn]
  ·rw[if_neg hn,if_neg hn]
structure zj(S:Sto)(R:List Nat)(M:Nat->Bool):Prop where
 cov:Cov (ZD S) (QZ S) S.now R M
 nd:∀a,M a=E->(qm S a).isSome=E
theorem Yh(h:qm S' a=qm S a):QZ S' a=QZ S a/\ZD S' a=ZD S a:=by
 have e:QZ S' a=QZ S a:=by unfold QZ;rw[h]
 refine⟨e,?_⟩;unfold ZD;rw[h,e]
theorem zj.perm(h:zj S R M)(hc:∀b,0<b->R'.count b<=R.count b):zj S R' M:=⟨h.cov.perm hc,h.nd⟩
theorem zj.fell{t:List UInt8}(h:Cov (ZD S) (QZ S) t R M)(hn:∀a,M a=E->(qm S a).isSome=E)(hle:∀a,qO t a<=qO S.now a):zj (qu S t) R M:=by have he:∀a,M a=E->qm (qu S t) a=qm S a:=λa ha=>Xr (h.live a ha) (hle a);refine⟨⟨λa ha b hb=>h.kid a ha b (by rw[<-(Yh (he a ha)).2];exact hb),Tp _,λb hb=>?_,h.live,h.low⟩,λa ha=>by rw[he a ha];exact hn a ha⟩;rw[KB (λa ha=>(Yh (he a ha)).1)];exact h.cnt b hb
theorem zj.leave{t:List UInt8}(h:zj S (a::R) M)(hM:M a=E)(e:QD S (-1) S.now a=F t):∃M',zj (qu S t) R M'/\YW R M M':=by obtain⟨M',h1,h2⟩:=Cov.leaveF 7 (-1) h.cov hM e;exact⟨M',zj.fell h1 (λa ha=>h.nd a (h2.le a ha)) (YC S 7 (-1) S.now a t e),h2⟩
theorem zj.make(hc:zj S R M)(hS:qk S=E)(hio:∀x∈p,QW x)(hsp:(qC S h p).isSome=E)(hk:0<h->∀r∈qB p,M r=E)(e:Zb S (h:Int) p=.ok (f,S')):zj S' (f::R) (vY M f)/\SM S S':=by
 obtain⟨hsm,hmay,-,hn,h8,hf⟩:=YI hS hio hsp e;obtain⟨t,hm,ht,hw,-,-,hfb,rfl,htm⟩:=GJ hS e;have hl:=KF htm;have hsh:=Gi ht;have h0:qO t f=0:=by unfold jD at hfb;simp only[Bool.and_eq_true,decide_eq_true_eq]at hfb;exact hfb.2.1
 have hcn:∀b,qO (vI (qu S t) f (Zm (QF (h:Int) p))).now b=if b=f then 1 else qO t b:=λb=>by show qO (t.set f 1) b=_;rw[kM t zO];rfl
 have hMf:M f=Jx:=by
  rcases hx:M f with _|_
  ·rfl
  ·have h1:=hc.cov.live f hx;have h2:=hsh f zO;omega
 have hne:∀a,M a=E->a≠f:=λa ha e=>by rw[e,hMf]at ha;cases ha
 have hVP:∀a,M a=E->qm (vI (qu S t) f (Zm (QF (h:Int) p))) a=qm S a:=λa ha=>by obtain⟨nd,hnd⟩:=Option.isSome_iff_exists.1 (hc.nd a ha);rw[hnd];exact hsm.node a nd hnd
 have hVM:∀a,vY M f a=E->a=f\/M a=E:=λa ha=>by
  unfold vY at ha;split at ha
  ·rename_i e;exact .inl e
  ·exact .inr ha
 have hin:∀a,M a=E->vY M f a=E:=λa ha=>by unfold vY;rw[if_neg (hne a ha)];exact ha
 refine⟨⟨⟨λa ha b hb=>?_,Tp _,λb hb=>?_,λa ha=>?_,λa ha=>?_⟩,λa ha=>?_⟩,hsm⟩
 ·rcases hVM a ha with rfl|ha
  ·obtain⟨h1,y,hy,e,hb0⟩:=qcJ hn hb;exact hin b (hk h1 b (by rw[e];exact List.mem_map.2 ⟨y,hy,rfl⟩))
  ·exact hin b (hc.cov.kid a ha b (by rw[<-(Yh (hVP a ha)).2];exact hb))
 ·rw[Ue hMf,if_pos hf,KB (λa ha=>(Yh (hVP a ha)).1),<-Xx hn hb,hcn b];have h1:=hc.cov.cnt b hb;have h2:=hsh b zO;by_cases e:b=f
  ·subst e;rw[List.count_cons_self,if_pos rfl];omega
  ·rw[List.count_cons_of_ne (λx=>e x.symm),if_neg e];omega
 ·rw[hcn a];rcases hVM a ha with rfl|ha
  ·rw[if_pos rfl];omega
  ·rw[if_neg (hne a ha)];have h1:=hc.cov.live a ha;have h2:=hsh a (by have:=(hc.cov.low a ha).1;omega);omega
 ·rcases hVM a ha with rfl|ha
  ·omega
  ·exact hc.cov.low a ha
 ·rcases hVM a ha with rfl|ha
  ·rw[hn];rfl
  ·rw[hVP a ha];exact hc.nd a ha
section
variable {ks rs:Nat->List Nat} {R:List Nat} {M:Nat->Bool}
theorem Cov.loose'{t:List UInt8}{b:Nat}(h:Cov ks rs t (b::R) M)(hb:0<b)(hp:0<JX rs M b 256):Cov ks rs (Vi t b) R M:=by
 have h1:=h.cnt b hb;rw[List.count_cons_self]at h1;have hne:qO t b≠0:=zO;refine⟨h.kid,h.sub,λc hc=>?_,λc hcM=>?_,h.low⟩
 ·rw[Kr hne c];split
  ·rename_i e;subst e;omega
  ·rename_i e;have:=h.cnt c hc
   rwa [List.count_cons_of_ne (λx=>e x.symm)]at this
 ·rw[Kr hne c];split
  ·rename_i e;subst e;omega
  ·exact h.live c hcM
theorem Cov.looseL':∀{l:List Nat}{t t':List UInt8},Cov ks rs t (l++R) M->(∀b∈l,b≠0->0<JX rs M b 256)->Go.Proofs.YtmeadnlmepcmbaaGreat.looseL l t=.ok t'->Cov ks rs t' R M
 |[],t,t',h,_,e=>by cases e;exact h
 |a::l,t,t',h,hp,e=>by
  by_cases ha:a=0
  ·subst ha;rw[ZQ]at e;exact Cov.looseL' (h.perm λb hb=>by rw[List.cons_append,List.count_cons_of_ne zO];exact zM _) (λb hb=>hp b (List.mem_cons_of_mem _ hb)) e
  ·by_cases h0:qO t a=0
   ·rw[js ha h0]at e;cases e
   ·rw[ZP ha h0]at e;exact Cov.looseL' (Cov.loose' (R:=l++R) h zO (hp a List.mem_cons_self ha)) (λb hb=>hp b (List.mem_cons_of_mem _ hb)) e
end
theorem vJ(hn:qm S f=F ((h:Int),p)){r:Nat}(hr:r∈qB p)(h0:r≠0):r∈QZ S f:=by have:=Xx hn (show 0<r by omega);have hp:=List.count_pos_iff.2 hr;exact List.count_pos_iff.1 zO
theorem zj.makeL:∀{ps:List (List It)}{S S':Sto}{up:List It}{R:List Nat}{M:Nat->Bool},(∀p∈ps,(∀x∈p,QW x)/\(qC S h p).isSome=E)->(0<h->∀p∈ps,∀r∈qB p,M r=E)->qk S=E->zj S R M->Go.Proofs.YtmeadnlmepcmbaaGreat.makeL (h:Int) ps S=.ok (up,S') -> ∃M',zj S' (qB up++R) M'/\(∀a,M a=E->M' a=E)/\(∀r∈qB up,M' r=E)/\SM S S'/\qk S'=E/\∀p∈ps,∀r∈qB p,r≠0->∃f,M' f=E/\r∈QZ S' f
 |[],S,S',up,R,M,_,_,hS,hc,e=>by cases e;exact⟨M,hc,λ_ h=>h,λr hr=>by simp[qB]at hr,⟨λ_ _ e=>e,λ_ e=>e⟩,hS,λp hp=>by cases hp⟩
 |p::ps,S,S',up,R,M,hp,hk,hS,hc,e=>by
  simp only[Go.Proofs.YtmeadnlmepcmbaaGreat.makeL]at e;split at e
  ·cases e
  ·rename_i f S1 e1;obtain⟨hio,hsp⟩:=hp p List.mem_cons_self;obtain⟨m1,hS1,-,hn1,h8,hf⟩:=YI hS hio hsp e1;obtain⟨hc1,-⟩:=hc.make hS hio hsp (λh0=>hk h0 p List.mem_cons_self) e1;split at e
   ·cases e
   ·rename_i up1 S2 e2;cases e;have hin:∀a,M a=E->vY M f a=E:=λa ha=>by unfold vY;split<;>simp_all
    obtain⟨M2,h2,k2,r2,m2,hS2,q2⟩:=zj.makeL (λq hq=>⟨(hp q (List.mem_cons_of_mem _ hq)).1,m1.spanOk (hp q (List.mem_cons_of_mem _ hq)).2⟩) (λh0 q hq r hr=>hin r (hk h0 q (List.mem_cons_of_mem _ hq) r hr)) hS1 hc1 e2;have hfM:M2 f=E:=k2 f (by simp[vY]);have hrf:(jG (jF p) f).r.toNat=f:=by show((f:Int)).toNat=f;omega
    refine⟨M2,h2.perm λb _=>?_,λa ha=>k2 a (hin a ha),λr hr=>?_,m1.trans m2,hS2,λq hq r hr h0=>?_⟩
    ·simp only[qB,List.map_cons,hrf,List.cons_append,List.count_append,List.count_cons];omega
    ·simp only[qB,List.map_cons,hrf,List.mem_cons]at hr;rcases hr with rfl|hr
     ·exact hfM
     ·exact r2 r hr
    ·rcases List.mem_cons.1 hq with rfl|hq
     ·exact⟨f,hfM,vJ (m2.node _ _ hn1) hr h0⟩
     ·exact q2 q hq r hr h0
theorem qfe(hp:p∈Zi l):∃a b,l=a++p++b:=by
 unfold Zi at hp;split at hp
 ·simp only[List.mem_cons,List.not_mem_nil,or_false]at hp;rcases hp with rfl|rfl
  ·exact⟨[],l.drop 3,zA3⟩
  ·exact⟨l.take 3,[],zA3⟩
 ·simp only[List.mem_cons,List.not_mem_nil,or_false]at hp;subst hp;exact⟨[],[],zA3⟩
theorem zj.build{l held up:List It}(hc:zj S (qB held++R) M)(hS:qk S=E)(hl:∀x∈l,QW x)(hsp:(qC S h l).isSome=E)(wHC:∀r∈qB held,r∈qB l)(hk:0<h->∀r∈qB l,M r=E)(e:Qr S (h:Int) l held=.ok (up,S')):∃M',zj S' (qB up++R) M'/\(∀a,M a=E->M' a=E)/\(∀r∈qB up,M' r=E):=by
 unfold Qr at e;split at e
 ·cases e
 ·rename_i up1 S1 e1;split at e
  ·cases e
  ·rename_i t e2;cases e;obtain⟨M1,h1,k1,r1,m1,hS1,q1⟩:=zj.makeL (λp hp=>by
    obtain⟨a,b,rfl⟩:=qfe hp;exact⟨λx hx=>hl x (by simp[hx]),vk hsp⟩) (λh0 p hp r hr=>by
    obtain⟨a,b,rfl⟩:=qfe hp;exact hk h0 r (by unfold qB at*;simp only[List.map_append,List.mem_append];exact .inl (.inr hr))) hS hc e1
   have h1':zj S1 (qB held++(qB up++R)) M1:=h1.perm λb _=>by simp only[List.count_append];omega
   have h2:=h1'.cov.looseL' (λb hb h0=>by have hbl:=wHC b hb;rw[<-qdi l]at hbl;obtain⟨x,hx,ex⟩:=List.mem_map.1 hbl;obtain⟨p,hp,hxp⟩:=List.mem_flatten.1 hx;obtain⟨f,hf1,hf2⟩:=q1 p hp b (List.mem_map.2 ⟨x,hxp,ex⟩) h0;exact GZ hf1 hf2 (h1.cov.low f hf1).2) e2;exact⟨M1,zj.fell h2 h1.nd (Kg e2).2,k1,r1⟩
theorem qhJ{S:Sto}{x:It}{R:List Nat}(hS:qk S=E)(hx:qcm S x):∀(h:Nat){a:Nat}{xs up:List It}{S':Sto}{M:Nat->Bool},qm S a=F ((h:Int),xs)->(qC S h xs).isSome=E->zj S (qB [x]++R) M->M a=E->jE (qz x) (jA S (qz x) h xs).reverse [x] S=.ok (up,S') -> ∃M',zj S' (qB up++R) M'/\(∀a,M a=E->M' a=E)/\∀r∈qB up,M' r=E
 |0,a,xs,up,S',M,hn,hs,hc,hM,e=>by
  rw[kj,List.reverse_singleton,YA]at e;simp only at e;have ho:Ord xs:=(jd hs).2;rw[qhU ho]at e;have hmx:=(qJ hn).2.1;have hIE:∀y∈KM (qz x) x xs,y=x\/y∈xs:=λy hy=>by
   unfold KM at hy;simp only[List.mem_append,List.mem_filter,List.mem_singleton]at hy;rcases hy with(hy|hy)|hy
   ·exact .inr hy.1
   ·exact .inl hy
   ·exact .inr hy.1
  have hl:∀y∈KM (qz x) x xs,QW y:=λy hy=>by
   rcases hIE y hy with rfl|hy
   ·exact hx.ok
   ·exact(hmx y hy).1
  have hsp:(qC S 0 (KM (qz x) x xs)).isSome=E:=QJ.2 ⟨λy hy=>by
   rcases hIE y hy with rfl|hy
   ·exact⟨_,hx.one⟩
   ·exact(QJ.1 hs).1 y hy,qbZ ho⟩
  exact hc.build (h:=0) hS hl hsp (λr hr=>by obtain⟨y,hy,rfl⟩:=List.mem_map.1 hr;rw[List.mem_singleton.1 hy];exact List.mem_map.2 ⟨x,by unfold KM;simp,rfl⟩) (λh=>absurd h zO) e
 |h+1,a,xs,up,S',M,hn,hs,hc,hM,e=>by
  have h0:=vW (qJ hn).1 zO;have hlt:=za (k:=qz x) h0;obtain⟨b,e1,hb8,-,zs,e4,e5⟩:=QH (QC hs _ (List.getElem_mem hlt));have hnb:qm S (xs[QE xs (qz x)].r).toNat=F ((h:Int),zs):=by rw[e1,Int.toNat_natCast];exact e4
  have wGD:∀y∈xs,M y.r.toNat=E:=λy hy=>hc.cov.kid a hM _ (by rw[TX hn zO];obtain⟨c,f1,f8,-⟩:=QH (QC hs y hy);exact vJ hn (List.mem_map.2 ⟨y,hy,rfl⟩) (by rw[f1,Int.toNat_natCast];omega));have hMb:M b=E:=by
   have:=wGD _ (List.getElem_mem hlt)
   rwa [e1,Int.toNat_natCast]at this
  rw[JL (zL hlt) hnb,List.reverse_cons,vR]at e;split at e
  ·cases e
  ·rename_i up1 S1 eg;obtain⟨m1,hS1,hSQ,hi1,hKB,hKG⟩:=Xf hS hx h e4 e5 eg;obtain⟨M1,hc1,k1,r1⟩:=qhJ hS hx h e4 e5 hc hMb eg;rw[YA]at e;simp only at e;have hm1:JS (qz x) (h+1) xs=1:=by unfold JS;rw[if_neg zO]
   rw[hm1]at e;unfold Ze at e;obtain⟨hA,hC⟩:=XA (k:=qz x) hs h0;have hmx:=(qJ hn).2.1;generalize hp:QE xs (qz x)=p at*;have hFF:xs=xs.take p++[xs[p]]++xs.drop (p+1):=by rw[List.append_assoc,List.singleton_append,List.getElem_cons_drop,List.take_append_drop]
   have hs':=hs;rw[hFF]at hs';have hsA:(qC S (h+1) (xs.take p)).isSome=E:=vk (xs:=[]) (ys:=xs.take p) (zs:=[xs[p]]++xs.drop (p+1)) (by rw[List.nil_append,<-List.append_assoc];exact hs');have hsC:(qC S (h+1) (xs.drop (p+1))).isSome=E:=vk (xs:=xs.take p++[xs[p]]) (ys:=xs.drop (p+1)) (zs:=[]) (by rw[List.append_nil];exact hs');have hB:qy S (h+1) [xs[p]]=qy S h zs:=by simp only[qy,List.flatMap_cons,List.flatMap_nil,List.append_nil,hnb]
   have hPX:qy S1 (h+1) (xs.take p++up1++xs.drop (p+1))=KM (qz x) x (qy S (h+1) xs):=by
    conv=>rhs;rw[hFF,Qc,Qc,qkY hA hC,hB,<-hi1]
    rw[Qc,Qc,m1.items _ _ hsA,m1.items _ _ hsC]
   have hl:∀y∈xs.take p++up1++xs.drop (p+1),QW y:=λy hy=>by
    rcases List.mem_append.1 hy with hy|hy
    ·rcases List.mem_append.1 hy with hy|hy
     ·exact(hmx y (List.mem_of_mem_take hy)).1
     ·exact(hKG y hy).1
    ·exact(hmx y (List.mem_of_mem_drop hy)).1
   have hsp:(qC S1 (h+1) (xs.take p++up1++xs.drop (p+1))).isSome=E:=QJ.2 ⟨jT (jT (m1.each (QJ.1 hsA).1) (QJ.1 hSQ).1) (m1.each (QJ.1 hsC).1),by rw[hPX];exact qbZ (jd hs).1⟩;obtain⟨M2,hc2,k2,r2⟩:=hc1.build (h:=h+1) hS1 hl hsp (λr hr=>by
    obtain⟨y,hy,rfl⟩:=List.mem_map.1 hr;exact List.mem_map.2 ⟨y,by simp[hy],rfl⟩) (λ_ r hr=>by
    obtain⟨y,hy,rfl⟩:=List.mem_map.1 hr;rcases List.mem_append.1 hy with hy|hy
    ·rcases List.mem_append.1 hy with hy|hy
     ·exact k1 _ (wGD y (List.mem_of_mem_take hy))
     ·exact r1 _ (List.mem_map.2 ⟨y,hy,rfl⟩)
    ·exact k1 _ (wGD y (List.mem_of_mem_drop hy))) e
   exact⟨M2,hc2,λa ha=>k2 a (k1 a ha),r2⟩
theorem put_cov{h a r:Nat}(hS:qk S=E)(hx:qcm S x)(hn:qm S a=F ((h:Int),xs))(hs:(qC S h xs).isSome=E)(hc:zj S (qB [x]++a::R) M)(hM:M a=E)(e:putX S h xs a x=.ok (r,S')):∃M',zj S' (r::R) M'/\M' r=E/\∀b∈R,M b=E->M' b=E:=by
 unfold putX at e;split at e
 ·cases e
 ·split at e
  ·cases e
  ·rename_i up S1 eg;obtain⟨m1,hS1,hSQ,hi1,hKB,hKG⟩:=Xf hS hx h hn hs eg;obtain⟨M1,hc1,k1,r1⟩:=qhJ hS hx h hn hs hc hM eg;have hwl:=VH (k:=qz x) h (qJ hn).1 hs;split at e
   ·cases e
   ·rename_i up2 S2 eb;split at e
    ·cases e
    ·rename_i t hl;cases e;have hBM:∀{y:It}{S2:Sto}{t:List UInt8}{M2:Nat->Bool},QD S2 (-1) S2.now a=F t->zj S2 (qB [y]++a::R) M2->(∀a,M a=E->M2 a=E)->(∀r∈qB [y],M2 r=E)->∃M',zj (qu S2 t) (y.r.toNat::R) M'/\M' y.r.toNat=E/\∀b∈R,M b=E->M' b=E:=λ{y S2 t M2} hl h2 k2 r2=>by
      have h3:zj S2 (a::(y.r.toNat::R)) M2:=h2.perm λb _=>by simp only[qB,List.map_cons,List.map_nil,List.cons_append,List.nil_append,List.count_cons];omega
      obtain⟨M3,h4,l4⟩:=h3.leave (k2 a hM) hl;exact⟨M3,h4,l4.keep _ List.mem_cons_self (r2 _ (by simp[qB])),λb hb hMb=>l4.keep b (List.mem_cons_of_mem _ hb) (k2 b hMb)⟩
     split at eb
     ·rename_i hlen;rw[hwl]at eb;have hmay:=jV (λy hy=>(hKG y hy).1) (λy hy=>(hKG y hy).2) hS1 eb;have hup:up.length<=2:=qaA eg zA3;obtain⟨y,hy⟩:∃y,up2=[y]:=by have h1:=hmay.2.1;unfold Zi at h1;rw[if_neg zO]at h1;exact List.length_eq_one_iff.1 (by simpa using h1)
      obtain⟨M2,h2,k2,r2⟩:=hc1.build (h:=h+1) hS1 (λy hy=>(hKG y hy).1) hSQ (λr hr=>hr) (λ_ r hr=>r1 r hr) eb;subst hy;exact hBM hl h2 (λa ha=>k2 a (k1 a ha)) r2
     ·cases eb;rename_i hlen;obtain⟨y,hy⟩:∃y,up=[y]:=List.length_eq_one_iff.1 (by have:=List.length_pos_iff.2 hKB;omega);subst hy;exact hBM hl hc1 k1 r1
theorem qfk{rs:Nat->List Nat}{M:Nat->Bool}{b:Nat}(h:∀a,M a=E->b∉rs a):∀n,JX rs M b n=0
 |0=>rfl
 |n+1=>by
  unfold JX;rw[qfk h n];split
  ·rename_i hn;rw[List.count_eq_zero.2 (h n hn)]
  ·rfl
theorem qmA{a b:Nat}(h:b∈QZ S a):0<b/\b<256:=by
 unfold QZ at h;split at h
 ·cases h
 ·rename_i lvl xs hn;obtain⟨h1,h2⟩:=List.mem_filter.1 h;have:=(YJ hn b h1).2;simp only[bne_iff_ne,ne_eq]at h2;omega
theorem qii(h:(qm S a).isSome=E):qO S.now a≠0:=λe=>by
 have e2:qm S a=if qO S.now a=0 then I else QO (Jm S a):=rfl
 rw[e2,if_pos e]at h;cases h
theorem zj.of(hp:Qy S root next dead vs)(hc:Qk S (Qo root dead vs) refs nodes)(he:QQ S refs):zj S (Qo root dead vs) (Vj nodes):=by
 have htr:∀a,Vj nodes a=E->Zp S a:=λa ha=>qkl (R:=(· ∈ Qo root dead vs)) hp.trees (hc.mkd.reach a ha);have hnd:∀a,Vj nodes a=E->(qm S a).isSome=E:=λa ha=>by obtain⟨-,-,lvl,xs,hn,-⟩:=htr a ha;rw[hn];rfl
 refine⟨⟨hc.mkd.kids,Tp S,λb hb=>?_,λa ha=>qii (hnd a ha),λa ha=>?_⟩,hnd⟩
 ·rw[<-hc.mkd.sum b];by_cases h2:b<256
  ·exact he b h2
  ·have h1:(Qo root dead vs).count b=0:=List.count_eq_zero.2 λh=>by have:=(hp.trees b h).2.1;omega
   have h3:JX (QZ S) (Vj nodes) b 256=0:=qfk (λa _ h=>by have:=(qmA h).2;omega) _;rw[hc.mkd.sum b];omega
 ·obtain⟨h8,h256,-⟩:=htr a ha;omega
theorem zj.held{a:Int}(h:zj S R M)(hs:zY S a=0):zj (Zf S a) (a.toNat::R) M:=by
 have hsm:=(TU hs).2.1;have h0:Js S a=0:=by
  unfold zY at hs;split at hs
  ·rename_i hh;exact absurd hs hh
  ·rename_i hh;exact Classical.not_not.1 hh
 obtain⟨hS,m,rfl,h8,h256,-⟩:=KQ h0;have hNY:Zy S m≠255:=λe=>by unfold zY at hs;rw[if_neg (by rw[h0];simp),Int.toNat_natCast,if_pos e]at hs;cases hs
 have hl:=(qZ hS).2.2.1;have hcn:∀b,qO (Zf S (m:Int)).now b=qO S.now b+if b=m then 1 else 0:=λb=>by
  show qO (QB S.now (m:Int).toNat 1) b=_;rw[Int.toNat_natCast];unfold QB;rw[kM _ zO];split
  ·rename_i e;subst e;have h2:=KT S.now b;have h3:qO S.now b≠255:=hNY;rw[UInt8.toNat_ofNat'];omega
  ·rfl
 have hnd:∀a,M a=E->qm (Zf S (m:Int)) a=qm S a:=λa ha=>by obtain⟨nd,hn⟩:=Option.isSome_iff_exists.1 (h.nd a ha);rw[hn];exact hsm.node a nd hn
 rw[Int.toNat_natCast];refine⟨⟨λa ha b hb=>h.cov.kid a ha b (by rw[<-(Yh (hnd a ha)).2];exact hb),Tp _,λb hb=>?_,λa ha=>?_,h.cov.low⟩,λa ha=>by rw[hnd a ha];exact h.nd a ha⟩
 ·have h1:=h.cov.cnt b hb;rw[KB (λa ha=>(Yh (hnd a ha)).1),hcn,List.count_cons];by_cases e:b=m
  ·subst e;simp only[beq_self_eq_true,if_true];omega
  ·rw[if_neg e,if_neg (by simpa using λx=>e x.symm)];omega
 ·rw[hcn];have:=h.cov.live a ha;omega
theorem UX{α β:Type}{f g:β->α->β}:∀(l:List α)(a:β),(∀a,∀b∈l,f a b=g a b)->l.foldl f a=l.foldl g a
 |[],_,_=>rfl
 |x::l,a,h=>by rw[List.foldl_cons,List.foldl_cons,h a x List.mem_cons_self];exact UX l _ λa b hb=>h a b (List.mem_cons_of_mem _ hb)
theorem zj.span{t:List UInt8}(h:zj (qu S2 t) R M)(hle:∀b,qO t b<=qO S2.now b):∀(H:Nat){a:Nat}{ys:List It},M a=E->qm S2 a=F ((H:Int),ys)->(qC S2 H ys).isSome=E->qC (qu S2 t) H ys=qC S2 H ys:=by
 have hnd:∀a,M a=E->qm (qu S2 t) a=qm S2 a:=λa ha=>Xr (h.cov.live a ha) (hle a);have hf:∀{H:Nat}{ys:List It},(∀y∈ys,ju (qu S2 t) H y=ju S2 H y)->qC (qu S2 t) H ys=qC S2 H ys:=λ{H ys} hy=>by unfold qC;refine UX _ _ λa y hm=>?_;unfold Jf;rw[hy y hm]
 intro H;induction H with
 |zero=>
  intro a ys hM hn hs;refine hf λy hy=>?_;have h1:=QC hs y hy;have h2:=(qJ hn).2.1 y hy;have hit:=h2.2;unfold itB at hit;rw[decide_eq_true_eq]at hit;unfold ju at h1⊢;split at h1
  ·rename_i hc;rw[if_pos hc,if_pos];by_cases hr:y.r=0
   ·exact .inl hr
   ·right;have hm:y.r.toNat∈QZ (qu S2 t) a:=vJ ((hnd a hM).trans hn) (List.mem_map.2 ⟨y,hy,rfl⟩) zO;have h3:=GZ hM hm (h.cov.low a hM).2;have h4:=h.cov.cnt y.r.toNat zO;show 0<qO t _;have h5:qO (qu S2 t).now y.r.toNat=qO t y.r.toNat:=rfl;omega
  ·cases h1
 |succ H ih=>
  intro a ys hM hn hs;refine hf λy hy=>?_;obtain⟨b,e1,h8,h256,zs,e4,e5⟩:=QH (QC hs y hy);have hMb:M b=E:=by
   have:=h.cov.kid a hM y.r.toNat (by rw[TX ((hnd a hM).trans hn) zO];exact vJ ((hnd a hM).trans hn) (List.mem_map.2 ⟨y,hy,rfl⟩) (by rw[e1,Int.toNat_natCast];omega))
   rwa [e1,Int.toNat_natCast]at this
  have h3:=ih hMb e4 e5;rw[Ji,Ji];unfold vT;rw[e1,Int.toNat_natCast,hnd b hMb,e4];simp only[h3]
theorem zj.tree{t:List UInt8}(h:zj (qu S2 t) R M)(hle:∀b,qO t b<=qO S2.now b)(hM:M a=E)(ht:Zp S2 a):Zp (qu S2 t) a:=by obtain⟨h8,h256,lvl,xs,hn,hs⟩:=ht;exact⟨h8,h256,lvl,xs,(Xr (h.cov.live a hM) (hle a)).trans hn,by rw[h.span hle lvl hM hn hs];exact hs⟩
theorem qhP(hc:zj S R M)(hM:M a=E)(hn:qm S a=F (((h+1:Nat):Int),xs))(hsp:(qC S (h+1) xs).isSome=E):∀y∈xs,M y.r.toNat=E:=λy hy=>hc.cov.kid a hM _ (by rw[TX hn zO];obtain⟨c,f1,f8,-⟩:=QH (QC hsp y hy);exact vJ hn (List.mem_map.2 ⟨y,hy,rfl⟩) (by rw[f1,Int.toNat_natCast];omega))
theorem qiz(h:∀y∈l,M y.r.toNat=E):∀r∈qB l,M r=E:=λr hr=>by obtain⟨y,hy,rfl⟩:=List.mem_map.1 hr;exact h y hy
theorem qez(h:∀b,b≠0->(qB hs).count b<=(qB l).count b){r:Nat}(h0:r≠0)(hr:r∈qB hs):r∈qB l:=List.count_pos_iff.1 (Nat.lt_of_lt_of_le (List.count_pos_iff.2 hr) (h r h0))
theorem qmr(hs:(qC S (h+1) xs).isSome=E)(m:SM S S1)(hc:zj S1 R M)(hx:∀y∈xs,M y.r.toNat=E)(i:Nat)(h0:0<h):∀y∈ZX S1 xs i,M y.r.toNat=E:=by
 rcases Nat.lt_or_ge i xs.length with hi|hi
 ·obtain⟨b,e1,-,-,zs,e4,e5⟩:=QH (QC hs _ (List.getElem_mem hi));have hn:qm S xs[i].r.toNat=F ((h:Int),zs):=by rw[e1,Int.toNat_natCast];exact e4
  have hn1:=m.node _ _ hn;have e:ZX S1 xs i=zs:=by unfold ZX;rw[zL hi];simp only[hn1]
  rw[e];obtain⟨h',rfl⟩:∃h',h=h'+1:=⟨h-1,zO⟩
  exact qhP hc (hx _ (List.getElem_mem hi)) hn1 (m.spanOk e5)
 ·have e:ZX S1 xs i=[]:=by unfold ZX;rw[List.getElem?_eq_none hi]
  rw[e];intro y hy;cases hy
theorem join_met{p:Nat}(hs:(qC S (h+1) xs).isSome=E)(m:SM S S1)(hc:zj S1 R M)(hx:∀y∈xs,M y.r.toNat=E)(h0:0<h)(hl:∀y∈l,M y.r.toNat=E):∀y∈(Zx S1 xs p l).1,M y.r.toNat=E:=by
 have hN:=λi=>qmr hs m hc hx i h0;unfold Zx;intro y hy;split at hy
 ·split at hy
  ·exact hl y hy
  ·split at hy
   ·exact hl y hy
   ·exact(List.mem_append.1 hy).elim (hN _ y) (hl y)
 ·split at hy
  ·exact hl y hy
  ·exact(List.mem_append.1 hy).elim (hl y) (hN _ y)
theorem qhw{S:Sto}{k:K3}{R:List Nat}(hS:qk S=E):∀(h:Nat){a:Nat}{xs l hs:List It}{S':Sto}{M:Nat->Bool},qm S a=F ((h:Int),xs)->(qC S h xs).isSome=E->(oneT S k h xs).isSome=E->zj S R M->M a=E->qbN k (jA S k h xs).reverse S=.ok (l,hs,S') -> ∃M',zj S' (qB hs++R) M'/\(∀a,M a=E->M' a=E)/\(0<h->∀y∈l,M' y.r.toNat=E)/\∀r∈qB hs,r≠0
 |0,a,xs,l,hs,S',M,hn,hsp,h1,hc,hM,e=>by rw[kj,List.reverse_singleton]at e;simp only[qbN,List.tail_cons,jB,qcL]at e;cases e;exact⟨M,hc,λ_ h=>h,λh=>absurd h (Nat.lt_irrefl 0),λr hr=>by cases hr⟩
 |h+1,a,xs,l,hs,S',M,hn,hsp,h1,hc,hM,e=>by
  have h0:=vW (qJ hn).1 zO;have hlt:=za (k:=k) h0;obtain⟨b,e1,-,-,zs,e4,e5⟩:=QH (QC hsp _ (List.getElem_mem hlt));have hnb:qm S (xs[QE xs k].r).toNat=F ((h:Int),zs):=by rw[e1,Int.toNat_natCast];exact e4
  have hd:=(Uf (jd hsp).2 h0 (TZ h1)).1;rw[Kw hd hnb]at h1;have hxm:=qhP hc hM hn hsp;have hMb:M b=E:=by
   have:=hxm _ (List.getElem_mem hlt)
   rwa [e1,Int.toNat_natCast]at this
  rw[JL (zL hlt) hnb,List.reverse_cons]at e;obtain⟨s,r,hr⟩:∃s r,(jA S k h zs).reverse=s::r:=by
   rcases hq:(jA S k h zs).reverse with _|⟨s,r⟩
   ·have:=congrArg List.length hq;rw[List.length_reverse,VH h (qJ e4).1 e5]at this;cases this
   ·exact⟨s,r,rfl⟩
  have e':qbN k (jA S k h zs).reverse S=jB r (qcL (s::r)) [] S:=by rw[hr];rfl
  rw[hr]at e;have e'':jB (r++[(h+1,xs,QE xs k)]) (qcL (s::r)) [] S=.ok (l,hs,S'):=e;rw[vO]at e'';split at e''
  ·cases e''
  ·rename_i l1 hs1 S1 hg;rw[qav]at e'';have hI:=Ks hS h e4 e5 h1 (e'.trans hg);obtain⟨M1,c1,k1,r1,z1⟩:=qhw hS h e4 e5 h1 hc hMb (e'.trans hg);obtain⟨hA,hC⟩:=XA (k:=k) hsp zO;have hmx:=(qJ hn).2.1;have hB:qy S (h+1) [xs[QE xs k]]=qy S h zs:=by simp only[qy,List.flatMap_cons,List.flatMap_nil,List.append_nil,hnb]
   clear e e' hd hnb e1;generalize QE xs k=p at*;have hx1:∀y∈xs,M1 y.r.toNat=E:=λy hy=>k1 _ (hxm y hy);unfold JU at e'';split at e''
   ·rename_i hl;cases e'';refine⟨M1,c1.perm λb _=>by simp only[List.count_append,qB,List.map_nil,List.count_nil];omega,k1,λ_ y hy=>?_,λr hr=>by cases hr⟩;rcases List.mem_append.1 hy with hy|hy
    ·rcases List.mem_append.1 hy with hy|hy
     ·exact hx1 y (List.mem_of_mem_take hy)
     ·cases hy
    ·exact hx1 y (List.mem_of_mem_drop hy)
   ·rename_i hl;split at e''
    ·cases e''
    ·rename_i up S3 hb;simp only[Except.ok.injEq,Prod.mk.injEq]at e'';obtain⟨f1,f2,f3⟩:=e'';subst f1 f2 f3;have hi:=hI.items;rw[<-hB]at hi;obtain⟨A,X,C,j1,j2,j3,j4,j5,j6,j7,j8,j9,j10,j11,j12,j13⟩:=qcI (k:=k) hsp hlt hI.sm hI.span hi hA hC hI.ok hI.len;simp only at hb;rw[show(((h+1:Nat):Int)-1)=(h:Int)by omega]at hb;obtain⟨M2,c2,k2,r2⟩:=c1.build (h:=h) hI.may (λy hy=>(j8 y hy).1) j6 (λr hr=>qez (λb hb=>Nat.le_trans (hI.sub b hb) (j9 b)) (z1 r hr) hr) (λh0=>qiz (join_met hsp hI.sm c1 hx1 h0 (r1 h0))) hb;have hmay:=jV (λy hy=>(j8 y hy).1) hI.held hI.may hb;refine⟨M2,c2,λa ha=>k2 a (k1 a ha),λ_ y hy=>?_,λr hr=>?_⟩
     ·rcases List.mem_append.1 hy with hy|hy
      ·rcases List.mem_append.1 hy with hy|hy
       ·exact k2 _ (hx1 y (List.mem_of_mem_take hy))
       ·exact r2 _ (List.mem_map.2 ⟨y,hy,rfl⟩)
      ·exact k2 _ (hx1 y (List.mem_of_mem_drop hy))
     ·obtain⟨y,hy,rfl⟩:=List.mem_map.1 hr;have:=(hmay.2.2.2 y hy).1;omega
theorem zj.share{t:List UInt8}(h:zj S R M)(hl:S.now.length=256)(h0:a≠0)(ha:a<256)(e:Zz S.now a=.ok t):zj (qu S t) (a::R) M/\SM S (qu S t)/\∀b,qO t b=qO S.now b+if b=a then 1 else 0:=by
 unfold Zz at e;rw[if_neg h0]at e;split at e
 ·cases e
 ·rename_i h1;split at e
  ·cases e
  ·rename_i hNY;cases e;have hcn:∀b,qO (QB S.now a 1) b=qO S.now b+if b=a then 1 else 0:=λb=>by
    unfold QB;rw[kM _ zO];split
    ·rename_i e;subst e;have h2:=KT S.now b;rw[UInt8.toNat_ofNat'];omega
    ·rfl
   have hsm:SM S (qu S (QB S.now a 1)):=qgA λr hr=>by have:=hcn r;unfold qO at this;omega
   refine⟨⟨⟨λc hc b hb=>h.cov.kid c hc b ?_,Tp _,λb hb=>?_,λc hc=>?_,h.cov.low⟩,λc hc=>?_⟩,hsm,hcn⟩
   ·obtain⟨nd,hn⟩:=Option.isSome_iff_exists.1 (h.nd c hc);rw[<-(Yh ((hsm.node c nd hn).trans hn.symm)).2];exact hb
   ·rw[KB (rs:=QZ S) (rs':=QZ (qu S (QB S.now a 1))) (λc hc=>by obtain⟨nd,hn⟩:=Option.isSome_iff_exists.1 (h.nd c hc);exact(Yh ((hsm.node c nd hn).trans hn.symm)).1)];have h3:=h.cov.cnt b hb;have h4:=hcn b;show _<=qO (QB S.now a 1) b;rw[h4,List.count_cons];by_cases e:b=a
    ·subst e;simp only[beq_self_eq_true,if_true];omega
    ·rw[if_neg e,if_neg (by simpa using λx=>e x.symm)];omega
   ·have h3:=h.cov.live c hc;have h4:=hcn c;show qO (QB S.now a 1) c≠0;omega
   ·obtain⟨nd,hn⟩:=Option.isSome_iff_exists.1 (h.nd c hc);rw[hsm.node c nd hn];rfl
end Go.Proofs.YtmeadnlmepcmbaaGreat
