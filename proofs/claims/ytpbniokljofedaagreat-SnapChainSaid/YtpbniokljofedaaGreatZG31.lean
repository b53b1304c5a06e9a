/- Texts VPut, SnapG, SnapS, SnapE, joined. -/
import Derived.Test.YtpbniokljofedaaGreatZG20
import Derived.Test.YtpbniokljofedaaGreatZG29
import Derived.Test.YtpbniokljofedaaGreatZG30
set_option linter.unusedSimpArgs false
set_option linter.unusedVariables false
set_option maxHeartbeats 8000000
open Go.Proofs.Tryz
namespace Go.Proofs.YtpbniokljofedaaGreat
open Go.RowKit
def ChgOk (S:Sto) (root next:Int) (dead:List Int) (v:Vol) (P:Except Int (Nat×Sto)) (r3:Nat) (S4:Sto):Prop:=∃ r2 S2 S3 vs3,QO S v.root=0/\P=.ok (r2,S2)/\kz S2 root next dead (GX v r2) r3 S3 vs3/\Jd S3 v.root=.ok S4/\zt S4=0
theorem ChgQ.split {S:Sto} {gen root next:Int} {dead:List Int} {v:Vol} {P:Except Int (Nat×Sto)} {w w':World} {e:Ending} (h:ChgQ S gen root next dead v P w e w'):Below w.heap.size w w' /\ ((∃ er,er≠0/\e=.returned (.tuple #[JG,.int .i64 er])/\YE S root next dead v P er)\/∃ r3 S4 u,ChgOk S root next dead v P r3 S4/\e=.returned (.tuple #[u,.int .i64 0])/\Jf w.heap.size S4 gen (r3:Int) next dead u w'):=by
 obtain⟨hB,h⟩:=h;refine⟨hB,h.imp id fun ⟨r2,S2,r3,S3,vs3,S4,u,h1,h2,h3,h4,h5,h6,h7⟩=>⟨r3,S4,u,⟨r2,S2,S3,vs3,h1,h2,h3,h4,h5⟩,h6,h7⟩⟩
theorem qdM {S:Sto} {a:Int} (h:QO S a=0):qm S=true/\SM S (QE S a)/\qm (QE S a)=true:=by
 have h0:JJ S a=0:=by
  unfold QO at h;split at h
  ·rename_i hh;exact absurd h hh
  ·rename_i hh;exact Classical.not_not.1 hh
 obtain⟨hS,m,hm,h8,h256,-⟩:=Xp h0;have h255:Zj S m≠255:=fun e=>by unfold QO at h;rw[if_neg (by rw[h0];simp),hm,Int.toNat_natCast,if_pos e] at h;cases h
 have hc:qZ S.now m=Zj S m:=rfl;have hl:=(Qc hS).2.2.1;refine⟨hS,qie fun r hr=>?_,qE.2 ⟨(qE.1 hS).1,(show Qn (jo S.now a.toNat 1)=true by rw[hm,Int.toNat_natCast];exact ZQ (qE.1 hS).2.1 h8 _),(qE.1 hS).2.2⟩⟩;rw[hm,Int.toNat_natCast];unfold jo;by_cases e:r=m
 ·subst e;rw[List.getElem?_set_self zO];have h2:=qau S.now r;simp only[Option.getD_some];rw[UInt8.toNat_ofNat'];omega
 ·rw[List.getElem?_set_ne zO];exact hr
theorem qjC {S:Sto} {refs nodes nodes':Nat->Nat} (h:VF nodes'=VF nodes) (a:Int) (held:Bool):jZ S refs nodes' a held=jZ S refs nodes a held:=by
 have h1:(0<nodes' a.toNat)↔(0<nodes a.toNat):=by have:=congrFun h a.toNat;unfold VF at this;exact decide_eq_decide.1 this
 unfold jZ;simp only[h1]
def KI (S:Sto) (root next:Int) (dead:List Int) (id:Int) (x:It) (er:Int):Prop:=(er=8/\zj S root next dead)\/∃ vs refs nodes,Qg S root next dead vs/\qX S (Qs root dead vs) refs nodes/\QF S refs /\
 ((er=6/\Qr vs id=none)\/∃ v,Qr vs id=some v/\((er=170/\v.fz=true)\/(v.fz=false/\((er=8/\itB x.r x.val.length=false)\/(itB x.r x.val.length=true /\
  ((er=6/\x.r≠0/\jZ S refs nodes x.r true≠0)\/((x.r=0\/jZ S refs nodes x.r true=0)/\YE S root next dead v (qap (QE S v.root) v.root.toNat x) er)))))))
def VPutOk (S:Sto) (root next:Int) (dead:List Int) (id:Int) (x:It) (r3:Nat) (S4:Sto):Prop:=∃ vs refs nodes v,Qg S root next dead vs/\qX S (Qs root dead vs) refs nodes/\QF S refs /\
 Qr vs id=some v/\v.fz=false/\itB x.r x.val.length=true/\(x.r=0\/jZ S refs nodes x.r true=0)/\ChgOk S root next dead v (qap (QE S v.root) v.root.toNat x) r3 S4
def VPutQ (S:Sto) (gen root next:Int) (dead:List Int) (id:Int) (x:It) (w:World) (e:Ending) (w':World):Prop:=Below w.heap.size w w' /\
 ((∃ er,er≠0/\e=.returned (.tuple #[JG,.int .i64 er])/\KI S root next dead id x er) \/
  ∃ r3 S4 u,VPutOk S root next dead id x r3 S4/\e=.returned (.tuple #[u,.int .i64 0])/\Jf w.heap.size S4 gen (r3:Int) next dead u w')
theorem VX {R:Ending->World->Prop} {a:Act} {W:World} {b:Nat} {x0 x1 x2 x3 x4 x5 x6 x7 v:Value} (h4:a.tmps[6]?.getD undef=.pointer (some ⟨b,0,none⟩)) (h5:a.tmps[7]?.getD undef=v) (hd:a.defers=[]) (aF:W.heap[b]?=some (.cells #[x0,x1,x2,x3,x4,x5,x6,x7] 32 (0,0))) (hR:R (.returned (.tuple #[.agg #[x0,x1,x2,x3,x4,x5,x6,x7],v])) W):bodyPost prog Tryz.f31 R .ret a W:=by
 refine bodyPost_ret (v:=.tuple #[.agg #[x0,x1,x2,x3,x4,x5,x6,x7],v]) ?_ hd hR;have k:=qa aF;simp[results,results31,go_sem,h4,h5,k]
set_option maxRecDepth 100000 in
theorem vput_any (A1:Option Addr) (n1 c1:Nat) (A2:Option Addr) (n2 c2:Nat) (A3:Option Addr) (n3 c3:Nat) (A4:Option Addr) (n4 c4:Nat) (gen root next:Int) (A5:Option Addr) (c5:Nat) (S:Sto) (dead:List Int) (id:Int) (x:It) (tK:Zm x) (Ax:Option Addr) (cx:Nat) (hT2:∀ vs v,Qg S root next dead vs->Qr vs id=some v->QO S v.root=0->∀ r2 S2,qap (QE S v.root) v.root.toNat x=.ok (r2,S2)->okL S2 (-1) (r2:Int)=true) (w:World) (h:qU w w.heap.size (.slice A1 n1 c1) (.slice A2 n2 c2) (.slice A3 n3 c3) (.slice A4 n4 c4) S) (hd:Zw w w.heap.size (.slice A5 dead.length c5) dead) (hxv:Bys w w.heap.size (.slice Ax x.val.length cx) x.val):Calls prog 31 #[.agg (qF (.slice A1 n1 c1) (.slice A2 n2 c2) (.slice A3 n3 c3) (.slice A4 n4 c4) gen root next (.slice A5 dead.length c5)),.int .u32 id,itV x Ax cx] w (VPutQ S gen root next dead id x w):=by
 have HO:=zH (fun W (hx:Ext w W)=>qkJ A1 n1 c1 A2 n2 c2 A3 n3 c3 A4 n4 c4 gen root next A5 c5 S dead id W (h.ext hx) (hd.ext_ hx));have HI:=zH (fun W=>Js x.k x.i x.o x.r Ax x.val.length cx W);have HD:=zH (fun W (hx:Ext w W)=>data_any A1 n1 c1 A2 n2 c2 A3 n3 c3 A4 n4 c4 gen root next A5 c5 S dead x.r true W (h.ext hx) (hd.ext_ hx));replace h:=zH h;replace hd:=zH hd;replace hxv:=zH hxv;replace hT2:=zH hT2;replace tK:=zH tK;go_enter func31,ntmps31;go_wp2_with fail;generalize aA:World.alloc (World.alloc (World.alloc w _) _) _=w1;have x1:Ext w w1:=by rw[<-aA];exact((zN _ _).trans (zN _ _)).trans (zN _ _)
 have lQ:w1.heap[w.heap.size]?=some (.cells (qF (.slice A1 n1 c1) (.slice A2 n2 c2) (.slice A3 n3 c3) (.slice A4 n4 c4) gen root next (.slice A5 dead.length c5)) 32 (0,0)):=by rw[<-aA];exact(zK _ _ _ zA3).trans ((zK _ _ _ zA3).trans (zI _ _ _ rfl))
 have rx1:w1.heap[w.heap.size+1]?=some (.cells #[.int .u8 x.k,.int .u32 x.i,.int .u32 x.o,.int .i64 x.r,.slice Ax x.val.length cx] 68 (0,0)):=by rw[<-aA];exact(zK _ _ _ zA3).trans (zI _ _ _ zA2)
 have iP:w1.heap[w.heap.size+2]?=some (.cells Kl 32 (0,0)):=by rw[<-aA];exact zI _ _ _ zA2
 clear aA;refine(HO.out w1 x1).mono ?_;clear HO;rintro e w2 ⟨hB,hQ⟩;have x2:Ext w w2:=x1.trans hB;have eP:=qb lQ hB;have rx2:=qb rx1 hB;have dA:=qb iP hB;have uy:=qa eP;have kx2:=qa rx2;have ko2:=qa dA;have fo2:=qe dA;have z1:=(zG.1 rx2).1;have z2:w.heap.size+1+1<w2.heap.size:=(zG.1 dA).1;clear hB lQ rx1 iP;obtain⟨u,er,rfl,hu⟩:∃ (u:Vol) (er:Int),e=.returned (.tuple #[jB u,.int .i64 er])/\((er≠0/\KI S root next dead id x er)\/(er=0/\∃ vs refs nodes,Qg S root next dead vs/\qX S (Qs root dead vs) refs nodes/\QF S refs/\Qr vs id=some u/\u.fz=false)):=by
  rcases hQ with ⟨rfl,hb⟩|⟨vs,refs,nodes,hp,hc,he,rfl⟩
  ·exact⟨XI,8,rfl,.inl ⟨zD,.inl ⟨rfl,hb⟩⟩⟩
  ·rcases hv:Qr vs id with _|u
   ·exact⟨XI,6,rfl,.inl ⟨zD,.inr ⟨vs,refs,nodes,hp,hc,he,.inl ⟨rfl,hv⟩⟩⟩⟩
   ·rcases hf:u.fz with _|_
    ·exact⟨u,0,by simp[openV,hf],.inr ⟨rfl,vs,refs,nodes,hp,hc,he,hv,hf⟩⟩
    ·exact⟨u,170,by simp[openV,hf],.inl ⟨zD,.inr ⟨vs,refs,nodes,hp,hc,he,.inr ⟨u,hv,.inl ⟨rfl,hf⟩⟩⟩⟩⟩
 clear hQ;obtain⟨ui,ur,uf,um⟩:=u;unfold jB;rcases hu with ⟨h0,hE⟩|⟨rfl,vs,refs,nodes,hp,hc,he,hv,hfz⟩
 ·have lL:(er != 0)=true:=by rw[bne_iff_ne];exact h0
  replace h0:=zH h0;replace hE:=zH hE;go_wp2_with fail;exact VX (b:=w.heap.size+2) rfl rfl rfl (qb (jG dA _ _ _ _ _ _ _ _) (zN _ _)) ⟨Below.alloc (zl x2 zO _ _ _ _ _ _ _ _) (by have:=x2.size;simpa using this) _,.inl ⟨er,h0.out,rfl,hE.out⟩⟩
 ·obtain rfl:uf=false:=hfz;have hE:Hid (∀ er,((er=8/\itB x.r x.val.length=false)\/(itB x.r x.val.length=true/\((er=6/\x.r≠0/\jZ S refs nodes x.r true≠0)\/((x.r=0\/jZ S refs nodes x.r true=0)/\YE S root next dead ⟨ui,ur,false,um⟩ (qap (QE S ur) ur.toNat x) er))))->KI S root next dead id x er):=zH fun er hh=>.inr ⟨vs,refs,nodes,hp,hc,he,.inr ⟨_,hv,.inr ⟨rfl,hh⟩⟩⟩;have sN:Hid (vD ⟨ui,ur,false,um⟩):=zH (UG hp _ (JI hv));have pq:Hid (okL S (-1) ur=true):=zH (hp.ok ur (by unfold Zl;exact List.mem_append_right _ (List.mem_map.2 ⟨_,JI hv,rfl⟩)));have HC:=zH (fun W (hx:Ext w W) hx2=>qgu A1 n1 c1 A2 n2 c2 A3 n3 c3 A4 n4 c4 gen root next A5 c5 S dead ⟨ui,ur,false,um⟩ sN.out x tK.out Ax cx (fun fK=>by obtain⟨_,hsm,_⟩:=qdM fK;obtain⟨a,ha,ht⟩:=ZY (hsm.okL pq.out);have ha':ur=(a:Int):=ha;simp only[ha',Int.toNat_natCast] at ht ⊢;exact ht) hx2 W (h.out.ext hx) (hd.out.ext_ hx) ((hxv.out.below hx).more hx.size));replace hp:=zH hp;replace hc:=zH hc;replace he:=zH he;replace hv:=zH hv;go_wp2_with fail;generalize aO:World.alloc w2 _=w3;have dO:Ext w2 w3:=by rw[<-aO];exact zN _ _
  have x3:Ext w w3:=x2.trans dO;have rv3:w3.heap[w2.heap.size]?=some (.cells #[.int .u32 ui,.int .i64 ur,.bool false,.int .u32 um] 40 (0,0)):=by rw[<-aO];exact zI _ _ _ zA2
  have nX:=qb eP dO;have rx3:=qb rx2 dO;have dY:=qb dA dO;clear aO eP rx2 dA uy kx2 ko2 fo2;refine(HI.out w3).mono ?_;clear HI;rintro e w4 ⟨rfl,hB⟩;have x4:Ext w w4:=x3.trans hB;have pJ:=qb rv3 hB;have nY:=qb nX hB;have rx4:=qb rx3 hB;have fE:=qb dY hB;have kv4:=qa pJ;have kp4:=qa nY;have kx4:=qa rx4;have ko4:=qa fE;have fo4:=qe fE;replace z2:w.heap.size+1+1<w4.heap.size:=(zG.1 fE).1;clear hB rv3 nX rx3 dY dO;rcases hib:itB x.r x.val.length with _|_
  ·rw[show JA false=8 from rfl];have hE8:Hid (KI S root next dead id x 8):=zH (hE.out 8 (.inl ⟨rfl,hib⟩));replace hib:=zH hib;go_wp2_with fail;exact VX (b:=w.heap.size+2) rfl rfl rfl (jG fE _ _ _ _ _ _ _ _) ⟨zl x4 zO _ _ _ _ _ _ _ _,.inl ⟨8,zD,rfl,hE8.out⟩⟩
  ·rw[show JA true=0 from rfl];have hCT:=zH hib;clear hib;have hHV:Hid (∀ r2 S2,qap (QE S ur) ur.toNat x=.ok (r2,S2)->QO S ur=0->okL S2 (-1) (r2:Int)=true):=zH fun r2 S2 hq fK=>hT2.out vs ⟨ui,ur,false,um⟩ hp.out hv.out fK r2 S2 hq;have aK:∀ W,Ext w W->(x.r=0\/jZ S refs nodes x.r true=0)->W.heap[w.heap.size]?=some (.cells (qF (.slice A1 n1 c1) (.slice A2 n2 c2) (.slice A3 n3 c3) (.slice A4 n4 c4) gen root next (.slice A5 dead.length c5)) 32 (0,0))->True:=fun _ _ _ _=>trivial;clear aK;by_cases hr0:x.r=0
   ·have b1:(x.r != 0)=false:=by rw[bne_eq_false_iff_eq];exact hr0
    have hor:Hid (x.r=0\/jZ S refs nodes x.r true=0):=zH (.inl hr0);replace hr0:=zH hr0;clear HD;go_wp2_with fail;refine(HC.out w4 x4 (fun fK r2 S2 hq=>hHV.out r2 S2 hq fK)).mono ?_;clear HC;intro e w6 hQS;obtain⟨dC,hS6⟩:=hQS.split;have x6:Ext w w6:=x4.trans dC;have gJ:=qb fE dC;have ko6:=qa gJ;have fo6:=qe gJ;clear hQS dC;rcases hS6 with ⟨er,aG,rfl,hCE⟩|⟨r3,S4,u,hO,rfl,hN⟩
    ·have ny:Hid (KI S root next dead id x er):=zH (hE.out er (.inr ⟨hCT.out,.inr ⟨hor.out,hCE⟩⟩));replace aG:=zH aG;clear hCE;go_wp2_with fail;exact VX (b:=w.heap.size+2) rfl rfl rfl (jG gJ _ _ _ _ _ _ _ _) ⟨zl x6 zO _ _ _ _ _ _ _ _,.inl ⟨er,aG.out,rfl,ny.out⟩⟩
    ·obtain⟨E1,e1,E2,e2,E3,e3,E4,e4,E5,e5,rfl,-⟩:=_root_.id hN;replace hN:=zH hN;replace hO:=zH hO;go_wp2_with fail;exact VX (b:=w.heap.size+2) rfl rfl rfl (jG gJ _ _ _ _ _ _ _ _) ⟨zl x6 zO _ _ _ _ _ _ _ _,.inr ⟨r3,S4,_,⟨vs,refs,nodes,_,hp.out,hc.out,he.out,hv.out,rfl,hCT.out,hor.out,hO.out⟩,rfl,hN.out.keep x4.size zA2 fun k h1 h2=>jz zO _ _ _ _ _ _ _ _⟩⟩
   ·have b1:(x.r != 0)=true:=by rw[bne_iff_ne];exact hr0
    replace hr0:=zH hr0;go_wp2_with fail;refine(HD.out w4 x4).mono ?_;clear HD;rintro e w5 ⟨hB,hQ⟩;have x5:Ext w w5:=x4.trans hB;have yI:=qb pJ hB;have sS:=qb nY hB;have rx5:=qb rx4 hB;have xg:=qb fE hB;have kv5:=qa yI;have kp5:=qa sS;have kx5:=qa rx5;have ko5:=qa xg;have fo5:=qe xg;have z5:w.heap.size+1+1<w5.heap.size:=(zG.1 xg).1;clear hB pJ nY rx4 fE kv4 kp4 kx4 ko4 fo4;rcases hQ with ⟨rfl,ae⟩|⟨vs',refs',nodes',gm,uF,he',rfl⟩
    ·exact(zj.no ae hp.out hc.out he.out).elim
    ·obtain⟨rfl,rfl,hmet⟩:=Qg.unique hp.out hc.out gm uF;have hdn:jZ S refs' nodes' x.r true=jZ S refs' nodes x.r true:=qjC hmet _ _;rw[hdn];clear gm uF he' hmet hdn;by_cases hd0:jZ S refs' nodes x.r true=0
     ·rw[hd0];have hor:Hid (x.r=0\/jZ S refs' nodes x.r true=0):=zH (.inr hd0);replace hd0:=zH hd0;go_wp2_with fail;refine(HC.out w5 x5 (fun fK r2 S2 hq=>hHV.out r2 S2 hq fK)).mono ?_;clear HC;intro e w6 hQS;obtain⟨dC,hS6⟩:=hQS.split;have x6:Ext w w6:=x5.trans dC;have gJ:=qb xg dC;have ko6:=qa gJ;have fo6:=qe gJ;clear hQS dC;rcases hS6 with ⟨er,aG,rfl,hCE⟩|⟨r3,S4,u,hO,rfl,hN⟩
      ·have ny:Hid (KI S root next dead id x er):=zH (hE.out er (.inr ⟨hCT.out,.inr ⟨hor.out,hCE⟩⟩));replace aG:=zH aG;clear hCE;go_wp2_with fail;exact VX (b:=w.heap.size+2) rfl rfl rfl (jG gJ _ _ _ _ _ _ _ _) ⟨zl x6 zO _ _ _ _ _ _ _ _,.inl ⟨er,aG.out,rfl,ny.out⟩⟩
      ·obtain⟨E1,e1,E2,e2,E3,e3,E4,e4,E5,e5,rfl,-⟩:=_root_.id hN;replace hN:=zH hN;replace hO:=zH hO;go_wp2_with fail;exact VX (b:=w.heap.size+2) rfl rfl rfl (jG gJ _ _ _ _ _ _ _ _) ⟨zl x6 zO _ _ _ _ _ _ _ _,.inr ⟨r3,S4,_,⟨vs',refs',nodes,_,hp.out,hc.out,he.out,hv.out,rfl,hCT.out,hor.out,hO.out⟩,rfl,hN.out.keep x5.size zA2 fun k h1 h2=>jz zO _ _ _ _ _ _ _ _⟩⟩
     ·have hE6:Hid (KI S root next dead id x 6):=zH (hE.out 6 (.inr ⟨hCT.out,.inl ⟨rfl,hr0.out,hd0⟩⟩));obtain⟨ed,hed⟩:∃ ed,jZ S refs' nodes x.r true=ed:=⟨_,rfl⟩
      rw[hed] at hd0 ⊢;have lL:(ed != 0)=true:=by rw[bne_iff_ne];exact hd0
      replace hd0:=zH hd0;replace hed:=zH hed;go_wp2_with fail;exact VX (b:=w.heap.size+2) rfl rfl rfl (jG xg _ _ _ _ _ _ _ _) ⟨zl x5 zO _ _ _ _ _ _ _ _,.inl ⟨6,zD,rfl,hE6.out⟩⟩
abbrev Zy (b:Nat) (W W':World):Prop:=Two b b W W'
theorem Zy.below {b B:Nat} {w0 W W':World} (h:Zy b W W') (hb:Below B w0 W) (h1:B<=b) (hB:B<=W.heap.size):Below B w0 W':=Two.below h hb h1 h1 hB
theorem Zy.of_ext {b:Nat} {W W':World} (h:Ext W W'):Zy b W W':=Two.of_ext h
theorem Zy.trans {b:Nat} {A B C:World} (h:Zy b A B) (k:Zy b B C):Zy b A C:=Two.trans h k
theorem Zy.set {b:Nat} (A:World) (j:Nat) (v:Value):Zy b A (A.setCell ⟨b,j,none⟩ v):=⟨rfl,rfl,rfl,zA2,fun k _ hk _=>zJ _ _ _ _ hk⟩
theorem Zy.row {b:Nat} {W W':World} (h:Zy b W W') {k:Nat} {o:Obj} (hr:W.heap[k]?=some o) (hk:k≠b):W'.heap[k]?=some o:=(h.same k (zG.1 hr).1 hk hk).trans hr
abbrev jM (a1 a2 a3 a4:Value) (gen root next:Int) (v5:Value) (e:Int):Array Value:=#[a1,a2,a3,a4,.int .u32 gen,.int .i64 root,.int .u32 next,v5,.int .i64 e]
def qdZ (e:Int):Qa:=⟨Unit,fun _=>.tuple #[Qd none 0 0 none 0 0 none 0 0 none 0 0,.int .i64 e],fun _ _=>True⟩
theorem vN (e:Int) (u:Unit):(qdZ e).f u=.tuple #[Qd none 0 0 none 0 0 none 0 0 none 0 0,.int .i64 e]:=rfl
theorem qci (e:Int) {R:Rel}:∀ p,qJ R ((qdZ e).φ p):=fun _ _ _ _ _=>trivial
def qef (lo:Nat) (S:Sto):Qa:=⟨(Nat×Nat)×(Option Addr×Nat)×(Option Addr×Nat),fun p=>.tuple #[Qd (some ⟨p.1.1,0,none⟩) S.bs.length S.bs.length (some ⟨p.1.2,0,none⟩) S.ws.length (S.ws.length+1) p.2.1.1 S.now.length p.2.1.2 p.2.2.1 S.last.length p.2.2.2,.int .i64 0],
 fun p W=>QP lo S (Qd (some ⟨p.1.1,0,none⟩) S.bs.length S.bs.length (some ⟨p.1.2,0,none⟩) S.ws.length (S.ws.length+1) p.2.1.1 S.now.length p.2.1.2 p.2.2.1 S.last.length p.2.2.2) W⟩
theorem vO (lo:Nat) (S:Sto) (b c:Nat) (A3:Option Addr) (c3:Nat) (A4:Option Addr) (c4:Nat):(qef lo S).f ((b,c),(A3,c3),(A4,c4))=.tuple #[Qd (some ⟨b,0,none⟩) S.bs.length S.bs.length (some ⟨c,0,none⟩) S.ws.length (S.ws.length+1) A3 S.now.length c3 A4 S.last.length c4,.int .i64 0]:=rfl
theorem qcm (lo:Nat) (S:Sto):∀ p,qJ qj ((qef lo S).φ p):=fun p W W' he h=>by have he:Ext W W':=he;exact QP.keep h (zM _) he.size fun b _ hb=>he.block b hb
def GStoQ (gb:Nat) (gen root next:Int) (v5:Value) (q:Except Int Sto) (w W:World):Prop:=Zy gb w W/\match q with
 | .error e=>W.heap[gb]?=some (.cells (jM (.slice none 0 0) (.slice none 0 0) (.slice none 0 0) (.slice none 0 0) gen root next v5 e) 105 (0,0))
 | .ok S'=>∃ x0 x1 x2 x3,W.heap[gb]?=some (.cells (jM x0 x1 x2 x3 gen root next v5 0) 105 (0,0))/\QP w.heap.size S' (.agg #[x0,x1,x2,x3]) W
theorem gst5 {W C:World} {b:Nat} {u0 u1 u2 u3 u4 u5 u6 u7 u8 x0 x1 x2 x3 ev:Value} {ty:TypeId} (rp:W.heap[b]?=some (.cells #[u0,u1,u2,u3,u4,u5,u6,u7,u8] ty (0,0))) (hC:((((W.setCell ⟨b,0,none⟩ x0).setCell ⟨b,1,none⟩ x1).setCell ⟨b,2,none⟩ x2).setCell ⟨b,3,none⟩ x3).setCell ⟨b,8,none⟩ ev=C):C.heap[b]?=some (.cells #[x0,x1,x2,x3,u4,u5,u6,u7,ev] ty (0,0))/\Zy b W C/\C.heap.size=W.heap.size:=by
 subst hC;exact⟨qi (qi (qi (qi (qi rp 0 x0) 1 x1) 2 x2) 3 x3) 8 ev,((((Zy.set _ _ _).trans (Zy.set _ _ _)).trans (Zy.set _ _ _)).trans (Zy.set _ _ _)).trans (Zy.set _ _ _),zA2⟩
def TQ (S:Sto) (a:Int):Except Int Sto:=if QO S a=0 then .ok (QE S a) else .error (QO S a)
set_option maxRecDepth 100000 in
theorem qjR (gb:Nat) (A1:Option Addr) (n1 c1:Nat) (A2:Option Addr) (n2 c2:Nat) (A3:Option Addr) (n3 c3:Nat) (A4:Option Addr) (n4 c4:Nat) (gen root next:Int) (v5:Value) (S:Sto) (v:Vol) (w:World) (hr:w.heap[gb]?=some (.cells (jM (.slice A1 n1 c1) (.slice A2 n2 c2) (.slice A3 n3 c3) (.slice A4 n4 c4) gen root next v5 0) 105 (0,0))) (h:qU w w.heap.size (.slice A1 n1 c1) (.slice A2 n2 c2) (.slice A3 n3 c3) (.slice A4 n4 c4) S):Calls prog 62 #[.pointer (some ⟨gb,0,none⟩),jB v] w (fun e W=>e=.returned (.tuple #[])/\GStoQ gb gen root next v5 (TQ S v.root) w W):=by
 have HS:=zH (fun W (hx:Ext w W)=>qbC A1 n1 c1 A2 n2 c2 A3 n3 c3 A4 n4 c4 S v.root W (h.ext hx));have zg:=(zG.1 hr).1;clear h;go_enter func62,ntmps62;have kr:=qa hr;go_wp2_with fail;generalize aA:World.alloc w _=w1;have x1:Ext w w1:=by rw[<-aA];exact zN _ _
 have wC:=qb hr x1;have wX:w1.heap[w.heap.size]?=some (.cells #[.int .u32 v.id,.int .i64 v.root,.bool v.fz,.int .u32 v.frm] 40 (0,0)):=by rw[<-aA];exact zI _ _ _ zA2
 clear aA kr hr;have gR:∀ W,qj.r w1 W->∀ i,W.cell? ⟨gb,i,none⟩=(jM (.slice A1 n1 c1) (.slice A2 n2 c2) (.slice A3 n3 c3) (.slice A4 n4 c4) gen root next v5 0)[i]?:=fun W h=>qa (qb wC h);have gV:∀ W,qj.r w1 W->∀ i,W.cell? ⟨w.heap.size,i,none⟩=#[.int .u32 v.id,.int .i64 v.root,.bool v.fz,.int .u32 v.frm][i]?:=fun W h=>qa (qb wX h);by_cases h0:QO S v.root=0
 ·replace h0:=zH h0;refine qp zQ ?_;refine vF 16 12 zE zQ rfl rfl zQ zQ zQ zQ ?_;dsimp only[jq,Array.push,List.push_toArray,List.concat_eq_append];refine zF 1 19 (.pointer (some ⟨gb,0,none⟩)) zQ zA5 zQ zQ zQ zA0 (fun W=>?_) ?_
  ·go_simp
  simp only[Act.put,qg,qc,qf,QD,vN,vO,zA,zB,zC];refine qQ (w:=w1) qj (qH [(9,qef w1.heap.size (QE S v.root))]) ([true,false]++List.replicate 14 true) 4 zQ zQ zQ zQ zQ zQ zQ ?st (Rel.drew _ _) ?walk
  case st=>exact qk (by simp only[List.forall_mem_cons];exact⟨qcm _ _,fun _ h=>by cases h⟩)
  case walk =>
   intro K hK;dsimp only[qt,List.replicate,List.cons_append,List.nil_append];repeat ((first|(refine qd ?_ zA0 zA0 (fun W hW _=>⟨W,?_,Rel.refl _ W⟩) ?_;rotate_left;(go_simp<;>with_reducible rfl))|(refine qh zA0 ?_));try simp only[Act.put,ql,qg,qc,qf,QD,vN,vO,zA,zB,zC])
   refine qw (qef w1.heap.size (QE S v.root)) zA0 zA0 (fun W hW _=>?_) (fun p=>?_)
   ·have hW:Ext w1 W:=hW;refine Qi ?_ ((HS.out W (x1.trans hW)).mono fun e w' hh=>?_)
    ·go_simp
    obtain⟨u,rfl,hu,hB⟩:=hh;rcases hu with ⟨h,_⟩|⟨_,vv,rfl,hT⟩
    ·exact absurd h0.out h
    ·have hT:QP W.heap.size (QE S v.root) vv w':=hT;obtain⟨BB,WW,gg,A3',c3',A4',gy,rfl,-⟩:=_root_.id hT;exact⟨((BB,WW),(A3',c3'),(A4',gy)),rfl,QP.keep hT hW.size (zM _) (fun _ _ _=>rfl),hB⟩
   obtain⟨⟨BB,WW⟩,⟨A3',c3'⟩,⟨A4',gy⟩⟩:=p;simp only[Act.put,qg,qc,qf,QD,vN,vO,zA,zB,zC];repeat ((first|(refine qd ?_ zA0 zA0 (fun W hW _=>⟨W,?_,Rel.refl _ W⟩) ?_;rotate_left;(go_simp<;>with_reducible rfl))|(refine qh zA0 ?_));try simp only[Act.put,ql,qg,qc,qf,QD,vN,vO,zA,zB,zC])
   refine qv (hK _ _ fun W hW hF=>?_);have hT:QP w1.heap.size (QE S v.root) (Qd (some ⟨BB,0,none⟩) (QE S v.root).bs.length (QE S v.root).bs.length (some ⟨WW,0,none⟩) (QE S v.root).ws.length ((QE S v.root).ws.length+1) A3' (QE S v.root).now.length c3' A4' (QE S v.root).last.length gy) W:=(hF 9).1;replace hT:=zH hT;clear hF hK gR gV;have hW:Ext w1 W:=hW;refine zC4 ?_;have rW:=qb wC hW;have kW:=qa rW;have fW:=qe rW;have x2:Ext w W:=x1.trans hW;go_wp2;refine Qo ?_;go_wp2_with fail;go_end0;obtain⟨r9,t9,z9⟩:=gst5 (x0:=.slice (some ⟨BB,0,none⟩) (QE S v.root).bs.length (QE S v.root).bs.length) (x1:=.slice (some ⟨WW,0,none⟩) (QE S v.root).ws.length ((QE S v.root).ws.length+1)) (x2:=.slice A3' (QE S v.root).now.length c3') (x3:=.slice A4' (QE S v.root).last.length gy) (ev:=.int .i64 0) rW rfl;refine⟨rfl,(Zy.of_ext x2).trans t9,?_⟩;have hq:TQ S v.root=.ok (QE S v.root):=by unfold TQ;rw[if_pos h0.out]
   rw[hq];refine⟨_,_,_,_,r9,QP.keep hT.out (by have:=x1.size;omega) zO fun k h1 h2=>t9.same k h2 (by have:=x1.size;omega) (by have:=x1.size;omega)⟩
 ·obtain⟨er,lu⟩:∃ er,QO S v.root=er:=⟨_,rfl⟩
  replace lu:=zH lu;have aG:=zH h0;clear h0;refine qp zQ ?_;refine vF 16 12 zE zQ rfl rfl zQ zQ zQ zQ ?_;dsimp only[jq,Array.push,List.push_toArray,List.concat_eq_append];refine zF 1 19 (.pointer (some ⟨gb,0,none⟩)) zQ zA5 zQ zQ zQ zA0 (fun W=>?_) ?_
  ·go_simp
  simp only[Act.put,qg,qc,qf,QD,vN,vO,zA,zB,zC];refine qQ (w:=w1) qj (qH [(9,qdZ er)]) ([true,false]++List.replicate 14 true) 4 zQ zQ zQ zQ zQ zQ zQ ?st (Rel.drew _ _) ?walk
  case st=>exact qk (by simp only[List.forall_mem_cons];exact⟨qci er,fun _ h=>by cases h⟩)
  case walk =>
   intro K hK;dsimp only[qt,List.replicate,List.cons_append,List.nil_append];repeat ((first|(refine qd ?_ zA0 zA0 (fun W hW _=>⟨W,?_,Rel.refl _ W⟩) ?_;rotate_left;(go_simp<;>with_reducible rfl))|(refine qh zA0 ?_));try simp only[Act.put,ql,qg,qc,qf,QD,vN,vO,zA,zB,zC])
   refine qw (qdZ er) zA0 zA0 (fun W hW _=>?_) (fun (p:Unit)=>?_)
   ·have hW:Ext w1 W:=hW;refine Qi ?_ ((HS.out W (x1.trans hW)).mono fun e w' hh=>?_)
    ·go_simp
    obtain⟨u,rfl,hu,hB⟩:=hh;rcases hu with ⟨_,rfl⟩|⟨h,_⟩
    ·rw[lu.out];exact⟨(),rfl,trivial,hB⟩
    ·exact absurd h aG.out
   simp only[Act.put,qg,qc,qf,QD,vN,vO,zA,zB,zC];repeat ((first|(refine qd ?_ zA0 zA0 (fun W hW _=>⟨W,?_,Rel.refl _ W⟩) ?_;rotate_left;(go_simp<;>with_reducible rfl))|(refine qh zA0 ?_));try simp only[Act.put,ql,qg,qc,qf,QD,vN,vO,zA,zB,zC])
   refine qv (hK _ _ fun W hW hF=>?_);clear hF hK gR gV;have hW:Ext w1 W:=hW;refine zC4 ?_;have rW:=qb wC hW;have kW:=qa rW;have fW:=qe rW;have x2:Ext w W:=x1.trans hW;go_wp2;refine Qo ?_;go_wp2_with fail;go_end0;obtain⟨r9,t9,z9⟩:=gst5 (x0:=.slice none 0 0) (x1:=.slice none 0 0) (x2:=.slice none 0 0) (x3:=.slice none 0 0) (ev:=.int .i64 er) rW rfl;refine⟨rfl,(Zy.of_ext x2).trans t9,?_⟩;have hq:TQ S v.root=.error er:=by unfold TQ;rw[if_neg aG.out,lu.out]
   rw[hq];exact r9
structure PV where
 E1:Option Addr
 m1:Nat
 e1:Nat
 E2:Option Addr
 m2:Nat
 e2:Nat
 E3:Option Addr
 m3:Nat
 e3:Nat
 E4:Option Addr
 m4:Nat
 e4:Nat
 g:Int
 t:Int
 n:Int
 E5:Option Addr
 m5:Nat
 e5:Nat
abbrev PV.cs (p:PV):Array Value:=qF (.slice p.E1 p.m1 p.e1) (.slice p.E2 p.m2 p.e2) (.slice p.E3 p.m3 p.e3) (.slice p.E4 p.m4 p.e4) p.g p.t p.n (.slice p.E5 p.m5 p.e5)
def PV.zero:PV:=⟨none,0,0,none,0,0,none,0,0,none,0,0,0,0,0,none,0,0⟩
def SetR (lo:Nat) (S:Sto) (gen root next:Int) (dead:List Int) (v:Vol) (p:PV) (er:Int) (W:World):Prop:=(er≠0/\p=PV.zero/\YJ S root next dead v er)\/(er=0/\∃ r S' vs',kz S root next dead v r S' vs'/\Jf lo S' gen (r:Int) next dead (.agg p.cs) W)
theorem SetR.keep {lo lo':Nat} {S:Sto} {gen root next:Int} {dead:List Int} {v:Vol} {p:PV} {er:Int} {W W':World} (h:SetR lo S gen root next dead v p er W) (hl:lo'<=lo) (hs:W.heap.size<=W'.heap.size) (hk:∀ k,lo<=k->k<W.heap.size->W'.heap[k]?=W.heap[k]?):SetR lo' S gen root next dead v p er W':=
 h.imp id fun ⟨h0,r,S',vs',h1,h2⟩=>⟨h0,r,S',vs',h1,h2.keep hl hs hk⟩
theorem SetQ.r {S:Sto} {gen root next:Int} {dead:List Int} {v:Vol} {w w':World} {e:Ending} (h:SetQ S gen root next dead v w e w'):Below w.heap.size w w'/\∃ p er,e=.returned (.tuple #[.agg (PV.cs p),.int .i64 er])/\SetR w.heap.size S gen root next dead v p er w':=by
 obtain⟨hB,h⟩:=h.split;refine⟨hB,?_⟩;rcases h with ⟨er,h0,rfl,hE⟩|⟨r,S2,vs',u,hO,rfl,hN⟩
 ·exact⟨PV.zero,er,rfl,.inl ⟨h0,rfl,hE⟩⟩
 ·obtain⟨E1,e1,E2,e2,E3,e3,E4,e4,E5,e5,rfl,-⟩:=_root_.id hN;exact⟨⟨E1,_,e1,E2,_,e2,E3,_,e3,E4,_,e4,gen,r,next,E5,_,e5⟩,0,rfl,.inr ⟨rfl,r,S2,vs',hO,hN⟩⟩
def outPS (lo:Nat) (S:Sto) (gen root next:Int) (dead:List Int) (v:Vol):Qa:=⟨PV×Int,fun p=>.tuple #[.agg p.1.cs,.int .i64 p.2],fun p W=>SetR lo S gen root next dead v p.1 p.2 W⟩
theorem qaz (lo:Nat) (S:Sto) (gen root next:Int) (dead:List Int) (v:Vol) (p:PV) (er:Int):(outPS lo S gen root next dead v).f (p,er)=.tuple #[.agg p.cs,.int .i64 er]:=rfl
theorem qec (lo:Nat) (S:Sto) (gen root next:Int) (dead:List Int) (v:Vol):∀ p,qJ qj ((outPS lo S gen root next dead v).φ p):=fun p W W' he h=>by have he:Ext W W':=he;exact SetR.keep h (zM _) he.size fun b _ hb=>he.block b hb
abbrev PV.gcs (p:PV) (e:Int):Array Value:=jM (.slice p.E1 p.m1 p.e1) (.slice p.E2 p.m2 p.e2) (.slice p.E3 p.m3 p.e3) (.slice p.E4 p.m4 p.e4) p.g p.t p.n (.slice p.E5 p.m5 p.e5) e
def GSetQ (gb:Nat) (S:Sto) (gen root next:Int) (dead:List Int) (v:Vol) (w W:World):Prop:=Zy gb w W/\∃ p er,W.heap[gb]?=some (.cells (PV.gcs p er) 105 (0,0))/\SetR w.heap.size S gen root next dead v p er W
theorem turn4 (A:World) (b i0 i1 i2 i3:Nat) (x0 x1 x2 x3:Value):Zy b A ((((A.setCell ⟨b,i0,none⟩ x0).setCell ⟨b,i1,none⟩ x1).setCell ⟨b,i2,none⟩ x2).setCell ⟨b,i3,none⟩ x3):=
 (((Zy.set A i0 x0).trans (Zy.set _ i1 x1)).trans (Zy.set _ i2 x2)).trans (Zy.set _ i3 x3)
theorem two4 (A:World) (b g i0 i1 i2 i3:Nat) (x0 x1 x2 x3:Value):Two b g A ((((A.setCell ⟨b,i0,none⟩ x0).setCell ⟨b,i1,none⟩ x1).setCell ⟨b,i2,none⟩ x2).setCell ⟨b,i3,none⟩ x3):=
 (((Two.setP A i0 x0).trans (Two.setP _ i1 x1)).trans (Two.setP _ i2 x2)).trans (Two.setP _ i3 x3)
theorem gst9 {W C:World} {b:Nat} {u0 u1 u2 u3 u4 u5 u6 u7 u8 x0 x1 x2 x3 x4 x5 x6 x7 ev:Value} {ty:TypeId} (rp:W.heap[b]?=some (.cells #[u0,u1,u2,u3,u4,u5,u6,u7,u8] ty (0,0))) (hC:((((((((W.setCell ⟨b,0,none⟩ x0).setCell ⟨b,1,none⟩ x1).setCell ⟨b,2,none⟩ x2).setCell ⟨b,3,none⟩ x3).setCell ⟨b,4,none⟩ x4).setCell ⟨b,5,none⟩ x5).setCell ⟨b,6,none⟩ x6).setCell ⟨b,7,none⟩ x7).setCell ⟨b,8,none⟩ ev=C):C.heap[b]?=some (.cells #[x0,x1,x2,x3,x4,x5,x6,x7,ev] ty (0,0))/\Zy b W C/\C.heap.size=W.heap.size:=by
 subst hC;have t8:=(turn4 W b 0 1 2 3 x0 x1 x2 x3).trans (turn4 _ b 4 5 6 7 x4 x5 x6 x7);have t9:=t8.trans (Zy.set _ 8 ev);have hz:((((((((((W.setCell ⟨b,0,none⟩ x0).setCell ⟨b,1,none⟩ x1).setCell ⟨b,2,none⟩ x2).setCell ⟨b,3,none⟩ x3).setCell ⟨b,4,none⟩ x4).setCell ⟨b,5,none⟩ x5).setCell ⟨b,6,none⟩ x6).setCell ⟨b,7,none⟩ x7).setCell ⟨b,8,none⟩ ev)).heap.size=W.heap.size:=zA2;have r4:((((W.setCell ⟨b,0,none⟩ x0).setCell ⟨b,1,none⟩ x1).setCell ⟨b,2,none⟩ x2).setCell ⟨b,3,none⟩ x3).heap[b]?=some (.cells #[x0,x1,x2,x3,u4,u5,u6,u7,u8] ty (0,0)):=qi (qi (qi (qi rp 0 x0) 1 x1) 2 x2) 3 x3;generalize (((W.setCell ⟨b,0,none⟩ x0).setCell ⟨b,1,none⟩ x1).setCell ⟨b,2,none⟩ x2).setCell ⟨b,3,none⟩ x3=W4 at *;have r8:((((W4.setCell ⟨b,4,none⟩ x4).setCell ⟨b,5,none⟩ x5).setCell ⟨b,6,none⟩ x6).setCell ⟨b,7,none⟩ x7).heap[b]?=some (.cells #[x0,x1,x2,x3,x4,x5,x6,x7,u8] ty (0,0)):=qi (qi (qi (qi r4 4 x4) 5 x5) 6 x6) 7 x7;have r9:(((((W4.setCell ⟨b,4,none⟩ x4).setCell ⟨b,5,none⟩ x5).setCell ⟨b,6,none⟩ x6).setCell ⟨b,7,none⟩ x7).setCell ⟨b,8,none⟩ ev).heap[b]?=some (.cells #[x0,x1,x2,x3,x4,x5,x6,x7,ev] ty (0,0)):=qi r8 8 ev;exact⟨r9,t9,hz⟩
theorem gfin {W C:World} {vb gb:Nat} {u0 u1 u2 u3 u4 u5 u6 u7 u8 y0 y1 y2 y3 x0 x1 x2 x3 ev:Value} {ty tyV:TypeId} (rg:W.heap[gb]?=some (.cells #[u0,u1,u2,u3,u4,u5,u6,u7,u8] ty (0,0))) (rv:W.heap[vb]?=some (.cells #[y0,y1,y2,y3] tyV (0,0))) (aG:vb≠gb) (hC:((((((((W.setCell ⟨vb,0,none⟩ x0).setCell ⟨vb,1,none⟩ x1).setCell ⟨vb,2,none⟩ x2).setCell ⟨vb,3,none⟩ x3).setCell ⟨gb,8,none⟩ ev).setCell ⟨vb,0,none⟩ x0).setCell ⟨vb,1,none⟩ x1).setCell ⟨vb,2,none⟩ x2).setCell ⟨vb,3,none⟩ x3=C):C.heap[vb]?=some (.cells #[x0,x1,x2,x3] tyV (0,0))/\C.heap[gb]?=some (.cells #[u0,u1,u2,u3,u4,u5,u6,u7,ev] ty (0,0))/\Two vb gb W C:=by
 obtain⟨W4,h4⟩:∃ W4,(((W.setCell ⟨vb,0,none⟩ x0).setCell ⟨vb,1,none⟩ x1).setCell ⟨vb,2,none⟩ x2).setCell ⟨vb,3,none⟩ x3=W4:=⟨_,rfl⟩
 have t4:=two4 W vb gb 0 1 2 3 x0 x1 x2 x3;have r4:=Vm rv x0 x1 x2 x3;have zg:=(zG.1 rg).1;have zv:=(zG.1 rv).1;have o4:W4.heap[gb]?=W.heap[gb]?:=by rw[<-h4,zJ _ _ _ _ (Ne.symm aG),zJ _ _ _ _ (Ne.symm aG),zJ _ _ _ _ (Ne.symm aG),zJ _ _ _ _ (Ne.symm aG)]
 rw[h4] at hC t4 r4;have g4:=qi (o4.trans rg) 8 ev;have v4:=(zJ W4 ⟨gb,8,none⟩ ev vb aG).trans r4;have t5:=t4.trans (Two.setE W4 8 ev);generalize W4.setCell ⟨gb,8,none⟩ ev=W5 at *;have t9:=two4 W5 vb gb 0 1 2 3 x0 x1 x2 x3;have r9:=Vm v4 x0 x1 x2 x3;have o9:C.heap[gb]?=W5.heap[gb]?:=by rw[<-hC,zJ _ _ _ _ (Ne.symm aG),zJ _ _ _ _ (Ne.symm aG),zJ _ _ _ _ (Ne.symm aG),zJ _ _ _ _ (Ne.symm aG)]
 rw[hC] at t9 r9;exact⟨r9,o9.trans g4,t5.trans t9⟩
set_option maxRecDepth 100000 in
theorem gset_any (gb:Nat) (A1:Option Addr) (n1 c1:Nat) (A2:Option Addr) (n2 c2:Nat) (A3:Option Addr) (n3 c3:Nat) (A4:Option Addr) (n4 c4:Nat) (gen root next:Int) (A5:Option Addr) (c5:Nat) (S:Sto) (dead:List Int) (v:Vol) (hv:vD v) (hT:8<=v.root->v.root<256->Zj S v.root.toNat≠0->okL S (-1) v.root=true) (w:World) (hr:w.heap[gb]?=some (.cells (jM (.slice A1 n1 c1) (.slice A2 n2 c2) (.slice A3 n3 c3) (.slice A4 n4 c4) gen root next (.slice A5 dead.length c5) 0) 105 (0,0))) (h:qU w w.heap.size (.slice A1 n1 c1) (.slice A2 n2 c2) (.slice A3 n3 c3) (.slice A4 n4 c4) S) (hd:Zw w w.heap.size (.slice A5 dead.length c5) dead):Calls prog 63 #[.pointer (some ⟨gb,0,none⟩),jB v] w (fun e W=>e=.returned (.tuple #[])/\GSetQ gb S gen root next dead v w W):=by
 have HS:=zH (fun W (hx:Ext w W)=>qaX A1 n1 c1 A2 n2 c2 A3 n3 c3 A4 n4 c4 gen root next A5 c5 S dead v hv hT W (h.ext hx) (hd.ext_ hx));have zg:=(zG.1 hr).1;clear h hT hd;go_enter func63,ntmps63;have kr:=qa hr;go_wp2_with fail;generalize aA:World.alloc w _=w1;have x1:Ext w w1:=by rw[<-aA];exact zN _ _
 have wC:=qb hr x1;have wX:w1.heap[w.heap.size]?=some (.cells #[.int .u32 v.id,.int .i64 v.root,.bool v.fz,.int .u32 v.frm] 40 (0,0)):=by rw[<-aA];exact zI _ _ _ zA2
 clear aA kr hr;have gR:∀ W,qj.r w1 W->∀ i,W.cell? ⟨gb,i,none⟩=(jM (.slice A1 n1 c1) (.slice A2 n2 c2) (.slice A3 n3 c3) (.slice A4 n4 c4) gen root next (.slice A5 dead.length c5) 0)[i]?:=fun W h=>qa (qb wC h);have gV:∀ W,qj.r w1 W->∀ i,W.cell? ⟨w.heap.size,i,none⟩=#[.int .u32 v.id,.int .i64 v.root,.bool v.fz,.int .u32 v.frm][i]?:=fun W h=>qa (qb wX h);refine qp zQ ?_;refine vF 13 10 zE zQ rfl rfl zQ zQ zQ zQ ?_;dsimp only[jq,Array.push,List.push_toArray,List.concat_eq_append];refine zF 1 16 (.pointer (some ⟨gb,0,none⟩)) zQ zA5 zQ zQ zQ zA0 (fun W=>?_) ?_
 ·go_simp
 simp only[Act.put,qg,qc,qf,qaz,zA,zB,zC];refine qQ (w:=w1) qj (qH [(7,outPS w1.heap.size S gen root next dead v)]) ([true,false]++List.replicate 11 true) 4 zQ zQ zQ zQ zQ zQ zQ ?st (Rel.drew _ _) ?walk
 case st=>exact qk (by simp only[List.forall_mem_cons];exact⟨qec _ _ _ _ _ _ _,fun _ h=>by cases h⟩)
 case walk =>
  intro K hK;dsimp only[qt,List.replicate,List.cons_append,List.nil_append];repeat ((first|(refine qd ?_ zA0 zA0 (fun W hW _=>⟨W,?_,Rel.refl _ W⟩) ?_;rotate_left;(go_simp<;>with_reducible rfl))|(refine qh zA0 ?_));try simp only[Act.put,ql,qg,qc,qf,qaz,zA,zB,zC])
  refine qw (outPS w1.heap.size S gen root next dead v) zA0 zA0 (fun W hW _=>?_) (fun p=>?_)
  ·have hW:Ext w1 W:=hW;refine Qi ?_ ((HS.out W (x1.trans hW)).mono fun e w' hh=>?_)
   ·go_simp
   obtain⟨hB,p,er,rfl,hR⟩:=hh.r;exact⟨(p,er),rfl,hR.keep hW.size (zM _) (fun _ _ _=>rfl),hB⟩
  obtain⟨p,er⟩:=p;simp only[Act.put,qg,qc,qf,qaz,zA,zB,zC];repeat ((first|(refine qd ?_ zA0 zA0 (fun W hW _=>⟨W,?_,Rel.refl _ W⟩) ?_;rotate_left;(go_simp<;>with_reducible rfl))|(refine qh zA0 ?_));try simp only[Act.put,ql,qg,qc,qf,qaz,zA,zB,zC])
  refine qv (hK _ _ fun W hW hF=>?_);have hR:SetR w1.heap.size S gen root next dead v p er W:=(hF 7).1
  replace hR:=zH hR;clear hF hK gR gV;have hW:Ext w1 W:=hW;refine zC4 ?_;have rW:=qb wC hW;have kW:=qa rW;have fW:=qe rW;have x2:Ext w W:=x1.trans hW;have z1:=x1.size;go_wp2;refine Qo ?_;go_wp2_with fail;go_end0;generalize aY:World.setCell _ _ _=Wf;obtain⟨r9,t9,z9⟩:=gst9 rW aY;exact⟨rfl,(Zy.of_ext x2).trans t9,p,er,r9,hR.out.keep zO zO fun k h1 h2=>t9.same k h2 zO zO⟩
theorem qjQ {R:Ending->World->Prop} {a:Act} {W:World} {b:Nat} {x0 x1 x2 x3:Value} (h4:a.tmps[4]?.getD undef=.pointer (some ⟨b,0,none⟩)) (hd:a.defers=[]) (aF:W.heap[b]?=some (.cells #[x0,x1,x2,x3] 40 (0,0))) (hR:R (.returned (.agg #[x0,x1,x2,x3])) W):bodyPost prog Tryz.f61 R .ret a W:=by
 refine bodyPost_ret (v:=.agg #[x0,x1,x2,x3]) ?_ hd hR;have k:=qa aF;simp[results,results61,go_sem,h4,k]
def FindR (S:Sto) (root next:Int) (dead:List Int) (id:Int) (u:Vol) (er:Int):Prop:=(er=8/\u=XI/\zj S root next dead)\/∃ vs refs nodes,Qg S root next dead vs/\qX S (Qs root dead vs) refs nodes/\QF S refs/\((er=6/\u=XI/\Qr vs id=none)\/(er=0/\Qr vs id=some u))
set_option maxRecDepth 100000 in
theorem qjP (gb:Nat) (A1:Option Addr) (n1 c1:Nat) (A2:Option Addr) (n2 c2:Nat) (A3:Option Addr) (n3 c3:Nat) (A4:Option Addr) (n4 c4:Nat) (gen root next:Int) (A5:Option Addr) (c5:Nat) (S:Sto) (dead:List Int) (id e0:Int) (w:World) (hr:w.heap[gb]?=some (.cells (jM (.slice A1 n1 c1) (.slice A2 n2 c2) (.slice A3 n3 c3) (.slice A4 n4 c4) gen root next (.slice A5 dead.length c5) e0) 105 (0,0))) (h:qU w w.heap.size (.slice A1 n1 c1) (.slice A2 n2 c2) (.slice A3 n3 c3) (.slice A4 n4 c4) S) (hd:Zw w w.heap.size (.slice A5 dead.length c5) dead):Calls prog 61 #[.pointer (some ⟨gb,0,none⟩),.int .u32 id] w (fun e W=>∃ u er,e=.returned (jB u)/\FindR S root next dead id u er/\Zy gb w W/\W.heap[gb]?=some (.cells (jM (.slice A1 n1 c1) (.slice A2 n2 c2) (.slice A3 n3 c3) (.slice A4 n4 c4) gen root next (.slice A5 dead.length c5) er) 105 (0,0))):=by
 have HV:=zH (fun W (hx:Ext w W)=>Kr A1 n1 c1 A2 n2 c2 A3 n3 c3 A4 n4 c4 gen root next A5 c5 S dead id W (h.ext hx) (hd.ext_ hx));have zg:=(zG.1 hr).1;clear h hd;go_enter func61,ntmps61;have kr:=qa hr;go_wp2_with fail;generalize aA:World.alloc w _=w1;have x1:Ext w w1:=by rw[<-aA];exact zN _ _
 have r1:w1.heap[w.heap.size]?=some (.cells #[.int .u32 0,.int .i64 0,.bool false,.int .u32 0] 40 (0,0)):=by rw[<-aA];exact zI _ _ _ zA2
 have wC:=qb hr x1;clear aA kr hr;refine(HV.out w1 x1).mono ?_;clear HV;rintro e w2 ⟨hB,hQ⟩;have x2:Ext w w2:=x1.trans hB;have r2:=qb r1 hB;have rg2:=qb wC hB;have k2:=qa r2;have f2:=qe r2;have z2:=(zG.1 r2).1;have kg2:=qa rg2;have fg2:=qe rg2;clear hB r1 wC;obtain⟨u,er,rfl,hu⟩:∃ (u:Vol) (er:Int),e=.returned (.tuple #[jB u,.int .i64 er])/\FindR S root next dead id u er:=by
  rcases hQ with ⟨rfl,hb⟩|⟨vs,refs,nodes,hp,hc,he,rfl⟩
  ·exact⟨XI,8,rfl,.inl ⟨rfl,rfl,hb⟩⟩
  ·rcases hv:Qr vs id with _|u
   ·exact⟨XI,6,rfl,.inr ⟨vs,refs,nodes,hp,hc,he,.inl ⟨rfl,rfl,hv⟩⟩⟩
   ·exact⟨u,0,rfl,.inr ⟨vs,refs,nodes,hp,hc,he,.inr ⟨rfl,hv⟩⟩⟩
 clear hQ;replace hu:=zH hu;obtain⟨ui,ur,uf,um⟩:=u;unfold jB;go_wp2_with fail;generalize aY:World.setCell _ _ _=Wf;obtain⟨g1,g2,g3⟩:=gfin rg2 r2 zO aY;clear aY;have x2s:=x2.size;exact qjQ rfl rfl g1 ⟨⟨ui,ur,uf,um⟩,er,rfl,hu.out,⟨g3.os.trans x2.os,g3.tape.trans x2.tape,g3.output.trans x2.output,Nat.le_trans x2s g3.size,fun k hk h1 _=>(g3.same k zO zO h1).trans (Below.block x2 k hk)⟩,g2⟩
def Yz (p:PV) (er:Int) (S:Sto):Value:=if er≠0 then .tuple #[JG,.int .i64 er] else if zt S=0 then .tuple #[.agg p.cs,.int .i64 0] else .tuple #[JG,.int .i64 9]
theorem TP {R:Ending->World->Prop} {a:Act} {W:World} {b:Nat} {x0 x1 x2 x3 x4 x5 x6 x7 v:Value} (h4:a.tmps[2]?.getD undef=.pointer (some ⟨b,0,none⟩)) (h5:a.tmps[3]?.getD undef=v) (hd:a.defers=[]) (aF:W.heap[b]?=some (.cells #[x0,x1,x2,x3,x4,x5,x6,x7] 32 (0,0))) (hR:R (.returned (.tuple #[.agg #[x0,x1,x2,x3,x4,x5,x6,x7],v])) W):bodyPost prog Tryz.f64 R .ret a W:=by
 refine bodyPost_ret (v:=.tuple #[.agg #[x0,x1,x2,x3,x4,x5,x6,x7],v]) ?_ hd hR;have k:=qa aF;simp[results,results64,go_sem,h4,h5,k]
set_option maxRecDepth 100000 in
theorem TO (gb:Nat) (p:PV) (er:Int) (S:Sto) (w:World) (hr:w.heap[gb]?=some (.cells (PV.gcs p er) 105 (0,0))) (h:er=0->qU w w.heap.size (.slice p.E1 p.m1 p.e1) (.slice p.E2 p.m2 p.e2) (.slice p.E3 p.m3 p.e3) (.slice p.E4 p.m4 p.e4) S):Calls prog 64 #[.pointer (some ⟨gb,0,none⟩)] w (Ret (Yz p er S) w):=by
 have HF:=zH (fun (h0:er=0) W (hx:Ext w W)=>Gh p.E1 p.m1 p.e1 p.E2 p.m2 p.e2 p.E3 p.m3 p.e3 p.E4 p.m4 p.e4 S W ((h h0).ext hx));have zg:=(zG.1 hr).1;have hE1:=zH (fun h0:er≠0=>(by unfold Yz;rw[if_pos h0]:Yz p er S=.tuple #[JG,.int .i64 er]));have gQ:=zH (fun (h0:er=0) (h1:zt S=0)=>(by unfold Yz;rw[if_neg (by simp[h0]),if_pos h1]:Yz p er S=.tuple #[.agg p.cs,.int .i64 0]));have hE3:=zH (fun (h0:er=0) (h1:¬zt S=0)=>(by unfold Yz;rw[if_neg (by simp[h0]),if_neg h1]:Yz p er S=.tuple #[JG,.int .i64 9]));obtain⟨V,hV⟩:∃ V,Yz p er S=V:=⟨_,rfl⟩
 rw[hV] at hE1 gQ hE3 ⊢;obtain⟨E1,m1,e1,E2,m2,e2,E3,m3,e3,E4,m4,e4,g,t,n,E5,m5,e5⟩:=p;simp only[PV.gcs,PV.cs] at hr HF gQ;clear h hV;go_enter func64,ntmps64;have kr:=qa hr;by_cases h0:er=0
 ·subst h0;have HF0:=zH (HF.out rfl);have hE2':=zH (gQ.out rfl);have hE3':=zH (hE3.out rfl);clear HF hE1 gQ hE3;go_wp2_with fail;generalize aA:World.alloc w _=w1;have x1:Ext w w1:=by rw[<-aA];exact zN _ _
  have iP:w1.heap[w.heap.size]?=some (.cells Kl 32 (0,0)):=by rw[<-aA];exact zI _ _ _ zA2
  have wC:=qb hr x1;clear aA kr hr;refine(HF0.out w1 x1).mono ?_;clear HF0;rintro e w2 ⟨hB,hQ⟩;have x2:Ext w w2:=x1.trans hB;have dA:=qb iP hB;have rg2:=qb wC hB;have ko2:=qa dA;have fo2:=qe dA;have kg2:=qa rg2;clear hB iP wC;rcases hQ with ⟨hm,rfl⟩|⟨hm,v,rfl,aB⟩
  ·have hE:Hid (V=.tuple #[JG,.int .i64 9]):=zH (hE3'.out (by unfold zt;rw[if_neg (by simp[hm])];decide));replace hm:=zH hm;go_wp2_with fail;exact TP (b:=w.heap.size) rfl rfl rfl (jG dA _ _ _ _ _ _ _ _) ⟨by rw[hE.out];rfl,zl x2 (zM _) _ _ _ _ _ _ _ _⟩
  ·obtain⟨A,c,rfl,-,-⟩:=qz aB;clear aB;by_cases hl:(Zb S).length<16
   ·have hE:Hid (V=.tuple #[JG,.int .i64 9]):=zH (hE3'.out (by unfold zt;rw[if_neg zO];decide));have d1:decide (((Zb S).length:Int)<16)=true:=decide_eq_true zO;replace hm:=zH hm;replace hl:=zH hl;go_wp2_with fail;exact TP (b:=w.heap.size) rfl rfl rfl (jG dA _ _ _ _ _ _ _ _) ⟨by rw[hE.out];rfl,zl x2 (zM _) _ _ _ _ _ _ _ _⟩
   ·have hE:=zH (hE2'.out (by unfold zt;rw[if_pos ⟨hm,zO⟩]));have d1:decide (((Zb S).length:Int)<16)=false:=decide_eq_false zO;replace hm:=zH hm;replace hl:=zH hl;go_wp2_with fail;exact TP (b:=w.heap.size) rfl rfl rfl (jG dA _ _ _ _ _ _ _ _) ⟨by rw[hE.out];rfl,zl x2 (zM _) _ _ _ _ _ _ _ _⟩
 ·have hE:=zH (hE1.out h0);have lL:(er != 0)=true:=by rw[bne_iff_ne];exact h0
  replace h0:=zH h0;clear HF hE1 gQ hE3;go_upto_region 2 with fail;generalize aA:World.alloc w _=w1;have x1:Ext w w1:=by rw[<-aA];exact zN _ _
  have iP:w1.heap[w.heap.size]?=some (.cells Kl 32 (0,0)):=by rw[<-aA];exact zI _ _ _ zA2
  have wC:=qb hr x1;clear aA kr hr;have gR:∀ W,qj.r w1 W->∀ i,W.cell? ⟨gb,i,none⟩=(jM (.slice E1 m1 e1) (.slice E2 m2 e2) (.slice E3 m3 e3) (.slice E4 m4 e4) g t n (.slice E5 m5 e5) er)[i]?:=fun W h=>qa (qb wC h);refine qp zQ ?_;refine qQ (w:=w1) qj (qH [(5,ZL)]) (List.replicate 6 true) 1 zQ zQ zQ zQ zQ zQ zQ ?st (Rel.drew _ _) ?walk
  case st=>exact qk (by simp only[List.forall_mem_cons];exact⟨ZA,fun _ h=>by cases h⟩)
  case walk =>
   intro K hK;dsimp only[qt,List.replicate];repeat ((first|(refine qd ?_ zA0 zA0 (fun W hW _=>⟨W,?_,Rel.refl _ W⟩) ?_;rotate_left;(go_simp<;>with_reducible rfl))|(refine qh zA0 ?_));try simp only[Act.put,ql,qg,qc,qf,Ge,zA,zB,zC])
   refine qw ZL zA0 zA0 (fun W hW _=>?_) (fun (p:Unit)=>?_)
   ·have hW:Ext w1 W:=hW;have r8:=qb iP hW;have k8:=qa r8;have f8:=qe r8;refine jO ?_ (same8 r8);clear gR;go_simp
   simp only[Act.put,qg,qc,qf,Ge,zA,zB,zC];repeat ((first|(refine qd ?_ zA0 zA0 (fun W hW _=>⟨W,?_,Rel.refl _ W⟩) ?_;rotate_left;(go_simp<;>with_reducible rfl))|(refine qh zA0 ?_));try simp only[Act.put,ql,qg,qc,qf,Ge,zA,zB,zC])
   refine qv (hK _ _ fun W hW hF=>?_);clear hF hK gR;have hW:Ext w1 W:=hW;refine zC4 ?_;have x2:Ext w W:=x1.trans hW;have dA:=qb iP hW;go_wp2;refine Qo ?_;go_wp2_with fail;exact TP (b:=w.heap.size) rfl rfl rfl dA ⟨by rw[hE.out];rfl,x2⟩
end Go.Proofs.YtpbniokljofedaaGreat
