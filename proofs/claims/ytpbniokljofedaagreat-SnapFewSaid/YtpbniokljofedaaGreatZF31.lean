/- Texts VPut, FewW, SnapG, SnapS, SnapE, joined. -/
import Derived.Test.YtpbniokljofedaaGreatZF21
import Derived.Test.YtpbniokljofedaaGreatZF28
import Derived.Test.YtpbniokljofedaaGreatZF30
set_option linter.unusedSimpArgs false
set_option linter.unusedVariables false
set_option maxHeartbeats 8000000
namespace Go.Proofs.YtpbniokljofedaaGreat
open Go.RowKit
def ChgOk (S:Sto) (root next:Int) (dead:List Int) (v:Vol) (P:Except Int (Nat×Sto)) (r3:Nat) (S4:Sto):Prop:=∃ r2 S2 S3 vs3,QB S v.root=0∧P=.ok (r2,S2)∧Kk S2 root next dead (Uv v r2) r3 S3 vs3∧jQ S3 v.root=.ok S4∧za S4=0
theorem ChgQ.split {S:Sto} {gen root next:Int} {dead:List Int} {v:Vol} {P:Except Int (Nat×Sto)} {w w':World} {e:Ending} (h:ChgQ S gen root next dead v P w e w'):Below w.heap.size w w' ∧
  ((∃ er,er≠0∧e=.returned (.tuple #[Jb,.int .i64 er])∧KA S root next dead v P er)∨∃ r3 S4 u,ChgOk S root next dead v P r3 S4∧e=.returned (.tuple #[u,.int .i64 0])∧jE w.heap.size S4 gen (r3:Int) next dead u w'):=by
 obtain⟨hB,h⟩:=h
 refine⟨hB,h.imp id fun ⟨r2,S2,r3,S3,vs3,S4,u,h1,h2,h3,h4,h5,h6,h7⟩=>⟨r3,S4,u,⟨r2,S2,S3,vs3,h1,h2,h3,h4,h5⟩,h6,h7⟩⟩
theorem qch {S:Sto} {a:Int} (h:QB S a=0):qm S=true∧SM S (Qv S a)∧qm (Qv S a)=true:=by
 have h0:Jd S a=0:=by
  unfold QB at h
  split at h
  ·rename_i hh;exact absurd h hh
  ·rename_i hh;exact Classical.not_not.1 hh
 obtain⟨hS,m,hm,h8,h256,-⟩:=Yi h0
 have h255:zE S m≠255:=fun e=>by
  unfold QB at h
  rw[if_neg (by rw[h0];simp),hm,Int.toNat_natCast,if_pos e] at h
  cases h
 have hc:Qh S.now m=zE S m:=rfl
 have hl:=(qU hS).2.2.1
 refine⟨hS,sm_now fun r hr=>?_,qz.2 ⟨(qz.1 hS).1,(show Qj (jc S.now a.toNat 1)=true by rw[hm,Int.toNat_natCast];exact ZA (qz.1 hS).2.1 h8 _),(qz.1 hS).2.2⟩⟩
 rw[hm,Int.toNat_natCast]
 unfold jc
 by_cases e:r=m
 ·subst e
  rw[List.getElem?_set_self (by omega)]
  have h2:=UQ S.now r
  simp only[Option.getD_some]
  rw[UInt8.toNat_ofNat']
  omega
 ·rw[List.getElem?_set_ne (by omega)]
  exact hr
theorem qhC {S:Sto} {refs nodes nodes':Nat→Nat} (h:vU nodes'=vU nodes) (a:Int) (held:Bool):jy S refs nodes' a held=jy S refs nodes a held:=by
 have h1:(0<nodes' a.toNat)↔(0<nodes a.toNat):=by
  have:=congrFun h a.toNat
  unfold vU at this
  exact decide_eq_decide.1 this
 unfold jy
 simp only[h1]
def kF (S:Sto) (root next:Int) (dead:List Int) (id:Int) (x:It) (er:Int):Prop:=(er=8∧zF S root next dead)∨∃ vs refs nodes,Ql S root next dead vs∧qR S (Qw root dead vs) refs nodes∧QD S refs ∧
 ((er=6∧zm vs id=none)∨∃ v,zm vs id=some v∧((er=170∧v.fz=true)∨(v.fz=false∧((er=8∧itB x.r x.val.length=false)∨(itB x.r x.val.length=true ∧
  ((er=6∧x.r≠0∧jy S refs nodes x.r true≠0)∨((x.r=0∨jy S refs nodes x.r true=0)∧KA S root next dead v (UL (Qv S v.root) v.root.toNat x) er)))))))
def VPutOk (S:Sto) (root next:Int) (dead:List Int) (id:Int) (x:It) (r3:Nat) (S4:Sto):Prop:=∃ vs refs nodes v,Ql S root next dead vs∧qR S (Qw root dead vs) refs nodes∧QD S refs ∧
 zm vs id=some v∧v.fz=false∧itB x.r x.val.length=true∧(x.r=0∨jy S refs nodes x.r true=0)∧ChgOk S root next dead v (UL (Qv S v.root) v.root.toNat x) r3 S4
def VPutQ (S:Sto) (gen root next:Int) (dead:List Int) (id:Int) (x:It) (w:World) (e:Ending) (w':World):Prop:=Below w.heap.size w w' ∧
 ((∃ er,er≠0∧e=.returned (.tuple #[Jb,.int .i64 er])∧kF S root next dead id x er) ∨
  ∃ r3 S4 u,VPutOk S root next dead id x r3 S4∧e=.returned (.tuple #[u,.int .i64 0])∧jE w.heap.size S4 gen (r3:Int) next dead u w')
theorem Vi {R:Ending→World→Prop} {a:Act} {W:World} {b:Nat} {x0 x1 x2 x3 x4 x5 x6 x7 v:Value} (h4:a.tmps[6]?.getD undef=.pointer (some ⟨b,0,none⟩)) (h5:a.tmps[7]?.getD undef=v) (hd:a.defers=[])
  (hrow:W.heap[b]?=some (.cells #[x0,x1,x2,x3,x4,x5,x6,x7] 32 (0,0))) (hR:R (.returned (.tuple #[.agg #[x0,x1,x2,x3,x4,x5,x6,x7],v])) W):bodyPost Tryz.prog Tryz.f31 R .ret a W:=by
 refine bodyPost_ret (v:=.tuple #[.agg #[x0,x1,x2,x3,x4,x5,x6,x7],v]) ?_ hd hR
 have k:=qa hrow
 simp[results,Tryz.results31,go_sem,h4,h5,k]
set_option maxRecDepth 100000 in
theorem vput_any (A1:Option Addr) (n1 c1:Nat) (A2:Option Addr) (n2 c2:Nat) (A3:Option Addr) (n3 c3:Nat) (A4:Option Addr) (n4 c4:Nat) (gen root next:Int) (A5:Option Addr) (c5:Nat) (S:Sto) (dead:List Int) (id:Int) (x:It) (hxo:ZY x) (Ax:Option Addr) (cx:Nat)
  (hT2:∀ vs v,Ql S root next dead vs→zm vs id=some v→QB S v.root=0→∀ r2 S2,UL (Qv S v.root) v.root.toNat x=.ok (r2,S2)→okL S2 (-1) (r2:Int)=true) (w:World)
  (h:qP w w.heap.size (.slice A1 n1 c1) (.slice A2 n2 c2) (.slice A3 n3 c3) (.slice A4 n4 c4) S) (hd:Zn w w.heap.size (.slice A5 dead.length c5) dead) (hxv:Bys w w.heap.size (.slice Ax x.val.length cx) x.val) :
  Calls Tryz.prog 31 #[.agg (qC (.slice A1 n1 c1) (.slice A2 n2 c2) (.slice A3 n3 c3) (.slice A4 n4 c4) gen root next (.slice A5 dead.length c5)),.int .u32 id,itV x Ax cx] w (VPutQ S gen root next dead id x w):=by
 have HO:=zH (fun W (hx:Ext w W)=>qiz A1 n1 c1 A2 n2 c2 A3 n3 c3 A4 n4 c4 gen root next A5 c5 S dead id W (h.ext hx) (hd.ext_ hx))
 have HI:=zH (fun W=>jP x.k x.i x.o x.r Ax x.val.length cx W)
 have HD:=zH (fun W (hx:Ext w W)=>data_any A1 n1 c1 A2 n2 c2 A3 n3 c3 A4 n4 c4 gen root next A5 c5 S dead x.r true W (h.ext hx) (hd.ext_ hx))
 replace h:=zH h
 replace hd:=zH hd
 replace hxv:=zH hxv
 replace hT2:=zH hT2
 replace hxo:=zH hxo
 go_enter Tryz.func31,Tryz.ntmps31
 go_wp2_with fail
 generalize hw1:World.alloc (World.alloc (World.alloc w _) _) _=w1
 have x1:Ext w w1:=by rw[←hw1];exact((zN _ _).trans (zN _ _)).trans (zN _ _)
 have rp1:w1.heap[w.heap.size]?=some (.cells (qC (.slice A1 n1 c1) (.slice A2 n2 c2) (.slice A3 n3 c3) (.slice A4 n4 c4) gen root next (.slice A5 dead.length c5)) 32 (0,0)):=by rw[←hw1];exact(zK _ _ _ (by simp <;> omega)).trans ((zK _ _ _ (by simp <;> omega)).trans (zI _ _ _ rfl))
 have rx1:w1.heap[w.heap.size+1]?=some (.cells #[.int .u8 x.k,.int .u32 x.i,.int .u32 x.o,.int .i64 x.r,.slice Ax x.val.length cx] 68 (0,0)):=by rw[←hw1];exact(zK _ _ _ (by simp <;> omega)).trans (zI _ _ _ (by simp))
 have ro1:w1.heap[w.heap.size+2]?=some (.cells VK 32 (0,0)):=by rw[←hw1];exact zI _ _ _ (by simp)
 clear hw1
 refine(HO.out w1 x1).mono ?_
 clear HO
 rintro e w2 ⟨hB,hQ⟩
 have x2:Ext w w2:=x1.trans hB
 have rp2:=qb rp1 hB
 have rx2:=qb rx1 hB
 have ro2:=qb ro1 hB
 have kp2:=qa rp2
 have kx2:=qa rx2
 have ko2:=qa ro2
 have fo2:=qd ro2
 have z0:=(zG.1 rp2).1
 have z1:=(zG.1 rx2).1
 have z2:w.heap.size+1+1<w2.heap.size:=(zG.1 ro2).1
 clear hB rp1 rx1 ro1
 obtain⟨u,er,rfl,hu⟩:∃ (u:Vol) (er:Int),e=.returned (.tuple #[jK u,.int .i64 er])∧((er≠0∧kF S root next dead id x er)∨(er=0∧∃ vs refs nodes,Ql S root next dead vs∧qR S (Qw root dead vs) refs nodes∧QD S refs∧zm vs id=some u∧u.fz=false)):=by
  rcases hQ with ⟨rfl,hb⟩|⟨vs,refs,nodes,hp,hc,he,rfl⟩
  ·exact⟨YB,8,rfl,.inl ⟨by decide,.inl ⟨rfl,hb⟩⟩⟩
  ·rcases hv:zm vs id with _|u
   ·exact⟨YB,6,rfl,.inl ⟨by decide,.inr ⟨vs,refs,nodes,hp,hc,he,.inl ⟨rfl,hv⟩⟩⟩⟩
   ·rcases hf:u.fz with _|_
    ·exact⟨u,0,by simp[openV,hf],.inr ⟨rfl,vs,refs,nodes,hp,hc,he,hv,hf⟩⟩
    ·exact⟨u,170,by simp[openV,hf],.inl ⟨by decide,.inr ⟨vs,refs,nodes,hp,hc,he,.inr ⟨u,hv,.inl ⟨rfl,hf⟩⟩⟩⟩⟩
 clear hQ
 obtain⟨ui,ur,uf,um⟩:=u
 unfold jK
 rcases hu with ⟨h0,hE⟩|⟨rfl,vs,refs,nodes,hp,hc,he,hv,hfz⟩
 ·have hnb:(er != 0)=true:=by rw[bne_iff_ne];exact h0
  replace h0:=zH h0
  replace hE:=zH hE
  go_wp2_with fail
  exact Vi (b:=w.heap.size+2) rfl rfl rfl (qb (jj ro2 _ _ _ _ _ _ _ _) (zN _ _)) ⟨Below.alloc (QV x2 (by omega) _ _ _ _ _ _ _ _) (by have:=x2.size;simpa using this) _,.inl ⟨er,h0.out,rfl,hE.out⟩⟩
 ·obtain rfl:uf=false:=hfz
  have hE:Hid (∀ er,((er=8∧itB x.r x.val.length=false)∨(itB x.r x.val.length=true∧((er=6∧x.r≠0∧jy S refs nodes x.r true≠0)∨((x.r=0∨jy S refs nodes x.r true=0)∧KA S root next dead ⟨ui,ur,false,um⟩ (UL (Qv S ur) ur.toNat x) er))))→kF S root next dead id x er):=zH fun er hh=>.inr ⟨vs,refs,nodes,hp,hc,he,.inr ⟨_,hv,.inr ⟨rfl,hh⟩⟩⟩
  have hvok:Hid (VM ⟨ui,ur,false,um⟩):=zH (qeQ hp _ (ky hv))
  have hroot:Hid (okL S (-1) ur=true):=zH (hp.ok ur (by unfold Zl;exact List.mem_append_right _ (List.mem_map.2 ⟨_,ky hv,rfl⟩)))
  have HC:=zH (fun W (hx:Ext w W) hx2=>qeK A1 n1 c1 A2 n2 c2 A3 n3 c3 A4 n4 c4 gen root next A5 c5 S dead ⟨ui,ur,false,um⟩ hvok.out x hxo.out Ax cx (fun hsh=>by
   obtain⟨_,hsm,_⟩:=qch hsh
   obtain⟨a,ha,ht⟩:=JN (hsm.okL hroot.out)
   have ha':ur=(a:Int):=ha
   simp only[ha',Int.toNat_natCast] at ht ⊢
   exact ht) hx2 W (h.out.ext hx) (hd.out.ext_ hx) ((hxv.out.below hx).more hx.size))
  replace hp:=zH hp
  replace hc:=zH hc
  replace he:=zH he
  replace hv:=zH hv
  go_wp2_with fail
  generalize hw3:World.alloc w2 _=w3
  have x23:Ext w2 w3:=by rw[←hw3];exact zN _ _
  have x3:Ext w w3:=x2.trans x23
  have rv3:w3.heap[w2.heap.size]?=some (.cells #[.int .u32 ui,.int .i64 ur,.bool false,.int .u32 um] 40 (0,0)):=by rw[←hw3];exact zI _ _ _ (by simp)
  have rp3:=qb rp2 x23
  have rx3:=qb rx2 x23
  have ro3:=qb ro2 x23
  clear hw3 rp2 rx2 ro2 kp2 kx2 ko2 fo2
  refine(HI.out w3).mono ?_
  clear HI
  rintro e w4 ⟨rfl,hB⟩
  have x4:Ext w w4:=x3.trans hB
  have rv4:=qb rv3 hB
  have rp4:=qb rp3 hB
  have rx4:=qb rx3 hB
  have ro4:=qb ro3 hB
  have kv4:=qa rv4
  have kp4:=qa rp4
  have kx4:=qa rx4
  have ko4:=qa ro4
  have fo4:=qd ro4
  replace z2:w.heap.size+1+1<w4.heap.size:=(zG.1 ro4).1
  clear hB rv3 rp3 rx3 ro3 x23
  rcases hib:itB x.r x.val.length with _|_
  ·rw[show jX false=8 from rfl]
   have hE8:Hid (kF S root next dead id x 8):=zH (hE.out 8 (.inl ⟨rfl,hib⟩))
   replace hib:=zH hib
   go_wp2_with fail
   exact Vi (b:=w.heap.size+2) rfl rfl rfl (jj ro4 _ _ _ _ _ _ _ _) ⟨QV x4 (by omega) _ _ _ _ _ _ _ _,.inl ⟨8,by decide,rfl,hE8.out⟩⟩
  ·rw[show jX true=0 from rfl]
   have hibH:=zH hib
   clear hib
   have hsh2:Hid (∀ r2 S2,UL (Qv S ur) ur.toNat x=.ok (r2,S2)→QB S ur=0→okL S2 (-1) (r2:Int)=true):=zH fun r2 S2 hq hsh=>hT2.out vs ⟨ui,ur,false,um⟩ hp.out hv.out hsh r2 S2 hq
   have hfin:∀ W,Ext w W→(x.r=0∨jy S refs nodes x.r true=0)→W.heap[w.heap.size]?=some (.cells (qC (.slice A1 n1 c1) (.slice A2 n2 c2) (.slice A3 n3 c3) (.slice A4 n4 c4) gen root next (.slice A5 dead.length c5)) 32 (0,0))→True:=fun _ _ _ _=>trivial
   clear hfin
   by_cases hr0:x.r=0
   ·have b1:(x.r != 0)=false:=by rw[bne_eq_false_iff_eq];exact hr0
    have b2:decide (x.r=0)=true:=decide_eq_true hr0
    have hor:Hid (x.r=0∨jy S refs nodes x.r true=0):=zH (.inl hr0)
    replace hr0:=zH hr0
    clear HD
    go_wp2_with fail
    refine(HC.out w4 x4 (fun hsh r2 S2 hq=>hsh2.out r2 S2 hq hsh)).mono ?_
    clear HC
    intro e w6 hQS
    obtain⟨hB6,hS6⟩:=hQS.split
    have x6:Ext w w6:=x4.trans hB6
    have ro6:=qb ro4 hB6
    have ko6:=qa ro6
    have fo6:=qd ro6
    have z6:w.heap.size+1+1<w6.heap.size:=(zG.1 ro6).1
    have hlow:=x6.size
    clear hQS hB6
    rcases hS6 with ⟨er,hne,rfl,hCE⟩|⟨r3,S4,u,hO,rfl,hN⟩
    ·have hEr:Hid (kF S root next dead id x er):=zH (hE.out er (.inr ⟨hibH.out,.inr ⟨hor.out,hCE⟩⟩))
     replace hne:=zH hne
     clear hCE
     go_wp2_with fail
     exact Vi (b:=w.heap.size+2) rfl rfl rfl (jj ro6 _ _ _ _ _ _ _ _) ⟨QV x6 (by omega) _ _ _ _ _ _ _ _,.inl ⟨er,hne.out,rfl,hEr.out⟩⟩
    ·obtain⟨E1,e1,E2,e2,E3,e3,E4,e4,E5,e5,rfl,-⟩:=_root_.id hN
     replace hN:=zH hN
     replace hO:=zH hO
     have z96:w.heap.size+2<w4.heap.size:=(zG.1 ro4).1
     go_wp2_with fail
     exact Vi (b:=w.heap.size+2) rfl rfl rfl (jj ro6 _ _ _ _ _ _ _ _) ⟨QV x6 (by omega) _ _ _ _ _ _ _ _,.inr ⟨r3,S4,_,⟨vs,refs,nodes,_,hp.out,hc.out,he.out,hv.out,rfl,hibH.out,hor.out,hO.out⟩,rfl,hN.out.keep x4.size (by simp) fun k h1 h2=>ja (by omega) _ _ _ _ _ _ _ _⟩⟩
   ·have b1:(x.r != 0)=true:=by rw[bne_iff_ne];exact hr0
    have b2:decide (x.r=0)=false:=decide_eq_false hr0
    replace hr0:=zH hr0
    go_wp2_with fail
    refine(HD.out w4 x4).mono ?_
    clear HD
    rintro e w5 ⟨hB,hQ⟩
    have x5:Ext w w5:=x4.trans hB
    have rv5:=qb rv4 hB
    have rp5:=qb rp4 hB
    have rx5:=qb rx4 hB
    have ro5:=qb ro4 hB
    have kv5:=qa rv5
    have kp5:=qa rp5
    have kx5:=qa rx5
    have ko5:=qa ro5
    have fo5:=qd ro5
    have z5:w.heap.size+1+1<w5.heap.size:=(zG.1 ro5).1
    clear hB rv4 rp4 rx4 ro4 kv4 kp4 kx4 ko4 fo4
    rcases hQ with ⟨rfl,hbad⟩|⟨vs',refs',nodes',hp',hc',he',rfl⟩
    ·exact(zF.no hbad hp.out hc.out he.out).elim
    ·obtain⟨rfl,rfl,hmet⟩:=Ql.unique hp.out hc.out hp' hc'
     have hdn:jy S refs' nodes' x.r true=jy S refs' nodes x.r true:=qhC hmet _ _
     rw[hdn]
     clear hp' hc' he' hmet hdn
     by_cases hd0:jy S refs' nodes x.r true=0
     ·rw[hd0]
      have hor:Hid (x.r=0∨jy S refs' nodes x.r true=0):=zH (.inr hd0)
      replace hd0:=zH hd0
      go_wp2_with fail
      refine(HC.out w5 x5 (fun hsh r2 S2 hq=>hsh2.out r2 S2 hq hsh)).mono ?_
      clear HC
      intro e w6 hQS
      obtain⟨hB6,hS6⟩:=hQS.split
      have x6:Ext w w6:=x5.trans hB6
      have ro6:=qb ro5 hB6
      have ko6:=qa ro6
      have fo6:=qd ro6
      have z6:w.heap.size+1+1<w6.heap.size:=(zG.1 ro6).1
      have hlow:=x6.size
      clear hQS hB6
      rcases hS6 with ⟨er,hne,rfl,hCE⟩|⟨r3,S4,u,hO,rfl,hN⟩
      ·have hEr:Hid (kF S root next dead id x er):=zH (hE.out er (.inr ⟨hibH.out,.inr ⟨hor.out,hCE⟩⟩))
       replace hne:=zH hne
       clear hCE
       go_wp2_with fail
       exact Vi (b:=w.heap.size+2) rfl rfl rfl (jj ro6 _ _ _ _ _ _ _ _) ⟨QV x6 (by omega) _ _ _ _ _ _ _ _,.inl ⟨er,hne.out,rfl,hEr.out⟩⟩
      ·obtain⟨E1,e1,E2,e2,E3,e3,E4,e4,E5,e5,rfl,-⟩:=_root_.id hN
       replace hN:=zH hN
       replace hO:=zH hO
       have z96:w.heap.size+2<w5.heap.size:=(zG.1 ro5).1
       go_wp2_with fail
       exact Vi (b:=w.heap.size+2) rfl rfl rfl (jj ro6 _ _ _ _ _ _ _ _) ⟨QV x6 (by omega) _ _ _ _ _ _ _ _,.inr ⟨r3,S4,_,⟨vs',refs',nodes,_,hp.out,hc.out,he.out,hv.out,rfl,hibH.out,hor.out,hO.out⟩,rfl,hN.out.keep x5.size (by simp) fun k h1 h2=>ja (by omega) _ _ _ _ _ _ _ _⟩⟩
     ·have hE6:Hid (kF S root next dead id x 6):=zH (hE.out 6 (.inr ⟨hibH.out,.inl ⟨rfl,hr0.out,hd0⟩⟩))
      obtain⟨ed,hed⟩:∃ ed,jy S refs' nodes x.r true=ed:=⟨_,rfl⟩
      rw[hed] at hd0 ⊢
      have hnb:(ed != 0)=true:=by rw[bne_iff_ne];exact hd0
      replace hd0:=zH hd0
      replace hed:=zH hed
      go_wp2_with fail
      exact Vi (b:=w.heap.size+2) rfl rfl rfl (jj ro5 _ _ _ _ _ _ _ _) ⟨QV x5 (by omega) _ _ _ _ _ _ _ _,.inl ⟨6,by decide,rfl,hE6.out⟩⟩
theorem makeX_ws {S S':Sto} {lvl:Int} {its:List It} {r:Nat} (h:zX S lvl its=.ok (r,S')):S'.ws.length=S.ws.length+1:=by
 unfold zX at h
 split at h
 ·split at h
  ·cases h
  ·split at h
   ·cases h
   ·cases h
    simp[Kp,qw]
 ·cases h
theorem qdW (lvl:Int):∀ (ps:List (List It)) (S:Sto) (up:List It) (S':Sto),ZT lvl ps S=.ok (up,S')→S'.ws.length=S.ws.length+ps.length∧up.length=ps.length
 | [],S,up,S',h=>by
  simp only[ZT] at h
  cases h
  exact⟨rfl,rfl⟩
 |p :: r,S,up,S',h=>by
  simp only[ZT] at h
  split at h
  ·cases h
  ·rename_i f S1 hm
   split at h
   ·cases h
   ·rename_i up1 S2 hl
    cases h
    have h1:=makeX_ws hm
    obtain⟨h2,h3⟩:=qdW lvl r S1 up1 _ hl
    simp only[List.length_cons]
    omega
theorem qbd {S S':Sto} {lvl:Int} {l held up:List It} (h:QW S lvl l held=.ok (up,S')):S'.ws.length≤S.ws.length+2∧up.length≤2∧(l.length≤5→S'.ws.length≤S.ws.length+1):=by
 unfold QW at h
 split at h
 ·cases h
 ·rename_i up1 S1 hm
  split at h
  ·cases h
  ·rename_i t hl
   cases h
   obtain⟨h1,h2⟩:=qdW _ _ _ _ _ hm
   unfold vy at h1 h2
   show S1.ws.length≤_∧_∧(_→S1.ws.length≤_)
   split at h1 <;> rename_i h5
   ·rw[if_pos h5] at h2
    simp only[List.length_cons,List.length_nil] at h1 h2
    omega
   ·rw[if_neg h5] at h2
    simp only[List.length_cons,List.length_nil] at h1 h2
    omega
theorem qdJ (k:K3):∀ (l:List (Nat×List It×Nat)) (up:List It) (S:Sto) (up':List It) (S':Sto),up.length≤2→ZR k l up S=.ok (up',S')→S'.ws.length≤S.ws.length+2*l.length∧up'.length≤2
 | [],up,S,up',S',h0,h=>by
  simp only[ZR] at h
  cases h
  exact⟨by simp,h0⟩
 |(lvl,xs,p) :: r,up,S,up',S',h0,h=>by
  simp only[ZR] at h
  split at h
  ·cases h
  ·rename_i up1 S1 hb
   obtain⟨h1,h2,-⟩:=qbd hb
   obtain⟨h3,h4⟩:=qdJ k r up1 S1 up' S' h2 h
   simp only[List.length_cons]
   omega
theorem qbP (S:Sto) (k:K3):∀ (h:Nat) (xs:List It),(vD S k h xs).length≤h+1
 |0,xs=>by simp[vD]
 |h+1,xs=>by
  unfold vD
  simp only[List.length_cons]
  split
  ·simp
  ·split
   ·simp
   ·rename_i ys _
    have:=qbP S k h ys
    omega
theorem putX_ws {S S':Sto} {L root r:Nat} {xs:List It} {x:It} (h:putX S L xs root x=.ok (r,S')):S'.ws.length≤S.ws.length+(2*(L+1)+1):=by
 have hw:=qbP S (qE x) L xs
 unfold putX at h
 split at h
 ·cases h
 ·split at h
  ·cases h
  ·rename_i up S1 hg
   obtain⟨h1,h2⟩:=qdJ _ _ _ _ _ _ (by simp) hg
   rw[List.length_reverse] at h1
   split at h
   ·cases h
   ·rename_i up2 S2 hb
    split at h
    ·cases h
    ·rename_i t hl
     cases h
     show S2.ws.length≤_
     split at hb
     ·obtain⟨-,-,h3⟩:=qbd hb
      have:=h3 (by omega)
      omega
     ·cases hb
      omega
theorem setE_ws {S S':Sto} {root:Int} {v:Vol} {r:Nat} (h:setE S root v=.ok (r,S')) {lvl:Nat} {xs:List It} (hn:qu S root.toNat=some ((lvl:Int),xs)):S'.ws.length≤S.ws.length+(2*(lvl+1)+1):=by
 unfold setE at h
 rw[hn] at h
 simp only[Xr,Int.toNat_natCast] at h
 split at h
 ·exact putX_ws h
 ·cases h
theorem held_ws {S S':Sto} {a root:Int} {v:Vol} {r:Nat} (h0:QB S a=0) (h:setE (Qv S a) root v=.ok (r,S')) {lvl:Nat} {xs:List It} (hn:qu S root.toNat=some ((lvl:Int),xs)):S'.ws.length≤S.ws.length+(2*(lvl+1)+1):=
 setE_ws h ((qch h0).2.1.node _ _ hn)
abbrev Zf (b:Nat) (W W':World):Prop:=Two b b W W'
theorem Zf.below {b B:Nat} {w0 W W':World} (h:Zf b W W') (hb:Below B w0 W) (h1:B≤b) (hB:B≤W.heap.size):Below B w0 W':=Two.below h hb h1 h1 hB
theorem Zf.of_ext {b:Nat} {W W':World} (h:Ext W W'):Zf b W W':=Two.of_ext h
theorem Zf.trans {b:Nat} {A B C:World} (h:Zf b A B) (k:Zf b B C):Zf b A C:=Two.trans h k
theorem Zf.set {b:Nat} (A:World) (j:Nat) (v:Value):Zf b A (A.setCell ⟨b,j,none⟩ v):=⟨rfl,rfl,rfl,by simp,fun k _ hk _=>zJ _ _ _ _ hk⟩
theorem Zf.row {b:Nat} {W W':World} (h:Zf b W W') {k:Nat} {o:Obj} (hr:W.heap[k]?=some o) (hk:k≠b):W'.heap[k]?=some o:=(h.same k (zG.1 hr).1 hk hk).trans hr
abbrev jp (a1 a2 a3 a4:Value) (gen root next:Int) (v5:Value) (e:Int):Array Value:=#[a1,a2,a3,a4,.int .u32 gen,.int .i64 root,.int .u32 next,v5,.int .i64 e]
def qcw (e:Int):qS:=⟨Unit,fun _=>.tuple #[qX none 0 0 none 0 0 none 0 0 none 0 0,.int .i64 e],fun _ _=>True⟩
theorem JO (e:Int) (u:Unit):(qcw e).f u=.tuple #[qX none 0 0 none 0 0 none 0 0 none 0 0,.int .i64 e]:=rfl
theorem qaH (e:Int) {R:Rel}:∀ p,qD R ((qcw e).φ p):=fun _ _ _ _ _=>trivial
def qcC (lo:Nat) (S:Sto):qS:=⟨(Nat×Nat)×(Option Addr×Nat)×(Option Addr×Nat),fun p=>.tuple #[qX (some ⟨p.1.1,0,none⟩) S.bs.length S.bs.length (some ⟨p.1.2,0,none⟩) S.ws.length (S.ws.length+1) p.2.1.1 S.now.length p.2.1.2 p.2.2.1 S.last.length p.2.2.2,.int .i64 0],
 fun p W=>QC lo S (qX (some ⟨p.1.1,0,none⟩) S.bs.length S.bs.length (some ⟨p.1.2,0,none⟩) S.ws.length (S.ws.length+1) p.2.1.1 S.now.length p.2.1.2 p.2.2.1 S.last.length p.2.2.2) W⟩
theorem JP (lo:Nat) (S:Sto) (b c:Nat) (A3:Option Addr) (c3:Nat) (A4:Option Addr) (c4:Nat):(qcC lo S).f ((b,c),(A3,c3),(A4,c4))=.tuple #[qX (some ⟨b,0,none⟩) S.bs.length S.bs.length (some ⟨c,0,none⟩) S.ws.length (S.ws.length+1) A3 S.now.length c3 A4 S.last.length c4,.int .i64 0]:=rfl
theorem qaL (lo:Nat) (S:Sto):∀ p,qD ql ((qcC lo S).φ p):=fun p W W' he h=>by
 have he:Ext W W':=he
 exact QC.keep h (zM _) he.size fun b _ hb=>he.block b hb
def GStoQ (gb:Nat) (gen root next:Int) (v5:Value) (q:Except Int Sto) (w W:World):Prop:=Zf gb w W∧match q with
 | .error e=>W.heap[gb]?=some (.cells (jp (.slice none 0 0) (.slice none 0 0) (.slice none 0 0) (.slice none 0 0) gen root next v5 e) 105 (0,0))
 | .ok S'=>∃ x0 x1 x2 x3,W.heap[gb]?=some (.cells (jp x0 x1 x2 x3 gen root next v5 0) 105 (0,0))∧QC w.heap.size S' (.agg #[x0,x1,x2,x3]) W
theorem gst5 {W C:World} {b:Nat} {u0 u1 u2 u3 u4 u5 u6 u7 u8 x0 x1 x2 x3 ev:Value} {ty:TypeId} (rp:W.heap[b]?=some (.cells #[u0,u1,u2,u3,u4,u5,u6,u7,u8] ty (0,0)))
  (hC:((((W.setCell ⟨b,0,none⟩ x0).setCell ⟨b,1,none⟩ x1).setCell ⟨b,2,none⟩ x2).setCell ⟨b,3,none⟩ x3).setCell ⟨b,8,none⟩ ev=C) :
  C.heap[b]?=some (.cells #[x0,x1,x2,x3,u4,u5,u6,u7,ev] ty (0,0))∧Zf b W C∧C.heap.size=W.heap.size:=by
 subst hC
 exact⟨qi (qi (qi (qi (qi rp 0 x0) 1 x1) 2 x2) 3 x3) 8 ev,((((Zf.set _ _ _).trans (Zf.set _ _ _)).trans (Zf.set _ _ _)).trans (Zf.set _ _ _)).trans (Zf.set _ _ _),by simp⟩
def XG (S:Sto) (a:Int):Except Int Sto:=if QB S a=0 then .ok (Qv S a) else .error (QB S a)
set_option maxRecDepth 100000 in
theorem qhM (gb:Nat) (A1:Option Addr) (n1 c1:Nat) (A2:Option Addr) (n2 c2:Nat) (A3:Option Addr) (n3 c3:Nat) (A4:Option Addr) (n4 c4:Nat) (gen root next:Int) (v5:Value) (S:Sto) (v:Vol) (w:World)
  (hr:w.heap[gb]?=some (.cells (jp (.slice A1 n1 c1) (.slice A2 n2 c2) (.slice A3 n3 c3) (.slice A4 n4 c4) gen root next v5 0) 105 (0,0))) (h:qP w w.heap.size (.slice A1 n1 c1) (.slice A2 n2 c2) (.slice A3 n3 c3) (.slice A4 n4 c4) S) :
  Calls Tryz.prog 62 #[.pointer (some ⟨gb,0,none⟩),jK v] w (fun e W=>e=.returned (.tuple #[])∧GStoQ gb gen root next v5 (XG S v.root) w W):=by
 have HS:=zH (fun W (hx:Ext w W)=>qaa A1 n1 c1 A2 n2 c2 A3 n3 c3 A4 n4 c4 S v.root W (h.ext hx))
 have zg:=(zG.1 hr).1
 clear h
 go_enter Tryz.func62,Tryz.ntmps62
 have kr:=qa hr
 go_wp2_with fail
 generalize hw1:World.alloc w _=w1
 have x1:Ext w w1:=by rw[←hw1];exact zN _ _
 have rg1:=qb hr x1
 have rv1:w1.heap[w.heap.size]?=some (.cells #[.int .u32 v.id,.int .i64 v.root,.bool v.fz,.int .u32 v.frm] 40 (0,0)):=by rw[←hw1];exact zI _ _ _ (by simp)
 clear hw1 kr hr
 have gR:∀ W,ql.r w1 W→∀ i,W.cell? ⟨gb,i,none⟩=(jp (.slice A1 n1 c1) (.slice A2 n2 c2) (.slice A3 n3 c3) (.slice A4 n4 c4) gen root next v5 0)[i]?:=fun W h=>qa (qb rg1 h)
 have gV:∀ W,ql.r w1 W→∀ i,W.cell? ⟨w.heap.size,i,none⟩=#[.int .u32 v.id,.int .i64 v.root,.bool v.fz,.int .u32 v.frm][i]?:=fun W h=>qa (qb rv1 h)
 by_cases h0:QB S v.root=0
 ·replace h0:=zH h0
  refine qo (by kernel_rfl) ?_
  refine vN 16 12 (by exact rfl) (by kernel_rfl) rfl rfl (by kernel_rfl) (by kernel_rfl) (by kernel_rfl) (by kernel_rfl) ?_
  dsimp only[jf,Array.push,List.push_toArray,List.concat_eq_append]
  refine zh 1 19 (.pointer (some ⟨gb,0,none⟩)) (by kernel_rfl) (by simp only[List.getElem?_toArray,List.getElem?_cons_succ,List.getElem?_cons_zero];exact rfl) (by kernel_rfl) (by kernel_rfl) (by kernel_rfl) (by rfl) (fun W=>?_) ?_
  ·go_simp
  simp only[Act.put,qj,qf,qc,qg,Qu,JO,JP,zA,zB,zC]
  refine qO (w:=w1) ql (qF [(9,qcC w1.heap.size (Qv S v.root))]) ([true,false]++List.replicate 14 true) 4 (by kernel_rfl) (by kernel_rfl) (by kernel_rfl) (by kernel_rfl) (by kernel_rfl) (by kernel_rfl) (by kernel_rfl) ?st (Rel.drew _ _) ?walk
  case st=>exact qk (by simp only[List.forall_mem_cons];exact⟨qaL _ _,fun _ h=>by cases h⟩)
  case walk =>
   intro K hK
   dsimp only[qp,List.replicate,List.cons_append,List.nil_append]
   repeat ((first|(refine qe ?_ (by rfl) (by rfl) (fun W hW _=>⟨W,?_,Rel.refl _ W⟩) ?_;rotate_left;(go_simp<;>with_reducible rfl))|(refine qh (by rfl) ?_));try simp only[Act.put,qj,qf,qc,qg,Qu,JO,JP,zA,zB,zC])
   refine qy (qcC w1.heap.size (Qv S v.root)) (by rfl) (by rfl) (fun W hW _=>?_) (fun p=>?_)
   ·have hW:Ext w1 W:=hW
    refine Qg ?_ ((HS.out W (x1.trans hW)).mono fun e w' hh=>?_)
    ·go_simp
    obtain⟨u,rfl,hu,hB⟩:=hh
    rcases hu with ⟨h,_⟩|⟨_,vv,rfl,hT⟩
    ·exact absurd h0.out h
    ·have hT:QC W.heap.size (Qv S v.root) vv w':=hT
     obtain⟨BB,WW,gg,A3',c3',A4',c4',rfl,-⟩:=_root_.id hT
     exact⟨((BB,WW),(A3',c3'),(A4',c4')),rfl,QC.keep hT hW.size (zM _) (fun _ _ _=>rfl),hB⟩
   obtain⟨⟨BB,WW⟩,⟨A3',c3'⟩,⟨A4',c4'⟩⟩:=p
   simp only[Act.put,qj,qf,qc,qg,Qu,JO,JP,zA,zB,zC]
   repeat ((first|(refine qe ?_ (by rfl) (by rfl) (fun W hW _=>⟨W,?_,Rel.refl _ W⟩) ?_;rotate_left;(go_simp<;>with_reducible rfl))|(refine qh (by rfl) ?_));try simp only[Act.put,qj,qf,qc,qg,Qu,JO,JP,zA,zB,zC])
   refine qt (hK _ _ fun W hW hF=>?_)
   have hT:QC w1.heap.size (Qv S v.root) (qX (some ⟨BB,0,none⟩) (Qv S v.root).bs.length (Qv S v.root).bs.length (some ⟨WW,0,none⟩) (Qv S v.root).ws.length ((Qv S v.root).ws.length+1) A3' (Qv S v.root).now.length c3' A4' (Qv S v.root).last.length c4') W:=(hF 9).1
   replace hT:=zH hT
   clear hF hK gR gV
   have hW:Ext w1 W:=hW
   dsimp only[List.drop,List.length_cons,List.length_nil,Nat.reduceAdd,Nat.reduceSub]
   have rW:=qb rg1 hW
   have zW:=(zG.1 rW).1
   have kW:=qa rW
   have fW:=qd rW
   have x2:Ext w W:=x1.trans hW
   have z2:=x2.size
   go_wp2
   refine Qm ?_
   go_wp2_with fail
   go_end0
   obtain⟨r9,t9,z9⟩:=gst5 (x0:=.slice (some ⟨BB,0,none⟩) (Qv S v.root).bs.length (Qv S v.root).bs.length) (x1:=.slice (some ⟨WW,0,none⟩) (Qv S v.root).ws.length ((Qv S v.root).ws.length+1)) (x2:=.slice A3' (Qv S v.root).now.length c3') (x3:=.slice A4' (Qv S v.root).last.length c4') (ev:=.int .i64 0) rW rfl
   refine⟨rfl,(Zf.of_ext x2).trans t9,?_⟩
   have hq:XG S v.root=.ok (Qv S v.root):=by unfold XG;rw[if_pos h0.out]
   rw[hq]
   refine⟨_,_,_,_,r9,QC.keep hT.out (by have:=x1.size;omega) (by omega) fun k h1 h2=>t9.same k h2 (by have:=x1.size;omega) (by have:=x1.size;omega)⟩
 ·obtain⟨er,her⟩:∃ er,QB S v.root=er:=⟨_,rfl⟩
  replace her:=zH her
  have hne:=zH h0
  clear h0
  refine qo (by kernel_rfl) ?_
  refine vN 16 12 (by exact rfl) (by kernel_rfl) rfl rfl (by kernel_rfl) (by kernel_rfl) (by kernel_rfl) (by kernel_rfl) ?_
  dsimp only[jf,Array.push,List.push_toArray,List.concat_eq_append]
  refine zh 1 19 (.pointer (some ⟨gb,0,none⟩)) (by kernel_rfl) (by simp only[List.getElem?_toArray,List.getElem?_cons_succ,List.getElem?_cons_zero];exact rfl) (by kernel_rfl) (by kernel_rfl) (by kernel_rfl) (by rfl) (fun W=>?_) ?_
  ·go_simp
  simp only[Act.put,qj,qf,qc,qg,Qu,JO,JP,zA,zB,zC]
  refine qO (w:=w1) ql (qF [(9,qcw er)]) ([true,false]++List.replicate 14 true) 4 (by kernel_rfl) (by kernel_rfl) (by kernel_rfl) (by kernel_rfl) (by kernel_rfl) (by kernel_rfl) (by kernel_rfl) ?st (Rel.drew _ _) ?walk
  case st=>exact qk (by simp only[List.forall_mem_cons];exact⟨qaH er,fun _ h=>by cases h⟩)
  case walk =>
   intro K hK
   dsimp only[qp,List.replicate,List.cons_append,List.nil_append]
   repeat ((first|(refine qe ?_ (by rfl) (by rfl) (fun W hW _=>⟨W,?_,Rel.refl _ W⟩) ?_;rotate_left;(go_simp<;>with_reducible rfl))|(refine qh (by rfl) ?_));try simp only[Act.put,qj,qf,qc,qg,Qu,JO,JP,zA,zB,zC])
   refine qy (qcw er) (by rfl) (by rfl) (fun W hW _=>?_) (fun (p:Unit)=>?_)
   ·have hW:Ext w1 W:=hW
    refine Qg ?_ ((HS.out W (x1.trans hW)).mono fun e w' hh=>?_)
    ·go_simp
    obtain⟨u,rfl,hu,hB⟩:=hh
    rcases hu with ⟨_,rfl⟩|⟨h,_⟩
    ·rw[her.out]
     exact⟨(),rfl,trivial,hB⟩
    ·exact absurd h hne.out
   simp only[Act.put,qj,qf,qc,qg,Qu,JO,JP,zA,zB,zC]
   repeat ((first|(refine qe ?_ (by rfl) (by rfl) (fun W hW _=>⟨W,?_,Rel.refl _ W⟩) ?_;rotate_left;(go_simp<;>with_reducible rfl))|(refine qh (by rfl) ?_));try simp only[Act.put,qj,qf,qc,qg,Qu,JO,JP,zA,zB,zC])
   refine qt (hK _ _ fun W hW hF=>?_)
   clear hF hK gR gV
   have hW:Ext w1 W:=hW
   dsimp only[List.drop,List.length_cons,List.length_nil,Nat.reduceAdd,Nat.reduceSub]
   have rW:=qb rg1 hW
   have zW:=(zG.1 rW).1
   have kW:=qa rW
   have fW:=qd rW
   have x2:Ext w W:=x1.trans hW
   have z2:=x2.size
   go_wp2
   refine Qm ?_
   go_wp2_with fail
   go_end0
   obtain⟨r9,t9,z9⟩:=gst5 (x0:=.slice none 0 0) (x1:=.slice none 0 0) (x2:=.slice none 0 0) (x3:=.slice none 0 0) (ev:=.int .i64 er) rW rfl
   refine⟨rfl,(Zf.of_ext x2).trans t9,?_⟩
   have hq:XG S v.root=.error er:=by unfold XG;rw[if_neg hne.out,her.out]
   rw[hq]
   exact r9
structure PV where
 E1:Option Addr
 m1:Nat
 e1:Nat
 E2:Option Addr
 m2:Nat
 e2:Nat
 E3:Option Addr
 m3:Nat
 e3:Nat
 E4:Option Addr
 m4:Nat
 e4:Nat
 g:Int
 t:Int
 n:Int
 E5:Option Addr
 m5:Nat
 e5:Nat
abbrev PV.cs (p:PV):Array Value:=qC (.slice p.E1 p.m1 p.e1) (.slice p.E2 p.m2 p.e2) (.slice p.E3 p.m3 p.e3) (.slice p.E4 p.m4 p.e4) p.g p.t p.n (.slice p.E5 p.m5 p.e5)
def PV.zero:PV:=⟨none,0,0,none,0,0,none,0,0,none,0,0,0,0,0,none,0,0⟩
def SetR (lo:Nat) (S:Sto) (gen root next:Int) (dead:List Int) (v:Vol) (p:PV) (er:Int) (W:World):Prop:=(er≠0∧p=PV.zero∧KF S root next dead v er)∨(er=0∧∃ r S' vs',Kk S root next dead v r S' vs'∧jE lo S' gen (r:Int) next dead (.agg p.cs) W)
theorem SetR.keep {lo lo':Nat} {S:Sto} {gen root next:Int} {dead:List Int} {v:Vol} {p:PV} {er:Int} {W W':World} (h:SetR lo S gen root next dead v p er W) (hl:lo'≤lo) (hs:W.heap.size≤W'.heap.size) (hk:∀ k,lo≤k→k<W.heap.size→W'.heap[k]?=W.heap[k]?):SetR lo' S gen root next dead v p er W':=
 h.imp id fun ⟨h0,r,S',vs',h1,h2⟩=>⟨h0,r,S',vs',h1,h2.keep hl hs hk⟩
theorem SetQ.r {S:Sto} {gen root next:Int} {dead:List Int} {v:Vol} {w w':World} {e:Ending} (h:SetQ S gen root next dead v w e w'):Below w.heap.size w w'∧∃ p er,e=.returned (.tuple #[.agg (PV.cs p),.int .i64 er])∧SetR w.heap.size S gen root next dead v p er w':=by
 obtain⟨hB,h⟩:=h.split
 refine⟨hB,?_⟩
 rcases h with ⟨er,h0,rfl,hE⟩|⟨r,S2,vs',u,hO,rfl,hN⟩
 ·exact⟨PV.zero,er,rfl,.inl ⟨h0,rfl,hE⟩⟩
 ·obtain⟨E1,e1,E2,e2,E3,e3,E4,e4,E5,e5,rfl,-⟩:=_root_.id hN
  exact⟨⟨E1,_,e1,E2,_,e2,E3,_,e3,E4,_,e4,gen,r,next,E5,_,e5⟩,0,rfl,.inr ⟨rfl,r,S2,vs',hO,hN⟩⟩
def outPS (lo:Nat) (S:Sto) (gen root next:Int) (dead:List Int) (v:Vol):qS:=⟨PV×Int,fun p=>.tuple #[.agg p.1.cs,.int .i64 p.2],fun p W=>SetR lo S gen root next dead v p.1 p.2 W⟩
theorem UW (lo:Nat) (S:Sto) (gen root next:Int) (dead:List Int) (v:Vol) (p:PV) (er:Int):(outPS lo S gen root next dead v).f (p,er)=.tuple #[.agg p.cs,.int .i64 er]:=rfl
theorem qcz (lo:Nat) (S:Sto) (gen root next:Int) (dead:List Int) (v:Vol):∀ p,qD ql ((outPS lo S gen root next dead v).φ p):=fun p W W' he h=>by
 have he:Ext W W':=he
 exact SetR.keep h (zM _) he.size fun b _ hb=>he.block b hb
abbrev PV.gcs (p:PV) (e:Int):Array Value:=jp (.slice p.E1 p.m1 p.e1) (.slice p.E2 p.m2 p.e2) (.slice p.E3 p.m3 p.e3) (.slice p.E4 p.m4 p.e4) p.g p.t p.n (.slice p.E5 p.m5 p.e5) e
def GSetQ (gb:Nat) (S:Sto) (gen root next:Int) (dead:List Int) (v:Vol) (w W:World):Prop:=Zf gb w W∧∃ p er,W.heap[gb]?=some (.cells (PV.gcs p er) 105 (0,0))∧SetR w.heap.size S gen root next dead v p er W
theorem turn4 (A:World) (b i0 i1 i2 i3:Nat) (x0 x1 x2 x3:Value):Zf b A ((((A.setCell ⟨b,i0,none⟩ x0).setCell ⟨b,i1,none⟩ x1).setCell ⟨b,i2,none⟩ x2).setCell ⟨b,i3,none⟩ x3):=
 (((Zf.set A i0 x0).trans (Zf.set _ i1 x1)).trans (Zf.set _ i2 x2)).trans (Zf.set _ i3 x3)
theorem two4 (A:World) (b g i0 i1 i2 i3:Nat) (x0 x1 x2 x3:Value):Two b g A ((((A.setCell ⟨b,i0,none⟩ x0).setCell ⟨b,i1,none⟩ x1).setCell ⟨b,i2,none⟩ x2).setCell ⟨b,i3,none⟩ x3):=
 (((Two.setP A i0 x0).trans (Two.setP _ i1 x1)).trans (Two.setP _ i2 x2)).trans (Two.setP _ i3 x3)
theorem gst9 {W C:World} {b:Nat} {u0 u1 u2 u3 u4 u5 u6 u7 u8 x0 x1 x2 x3 x4 x5 x6 x7 ev:Value} {ty:TypeId} (rp:W.heap[b]?=some (.cells #[u0,u1,u2,u3,u4,u5,u6,u7,u8] ty (0,0)))
  (hC:((((((((W.setCell ⟨b,0,none⟩ x0).setCell ⟨b,1,none⟩ x1).setCell ⟨b,2,none⟩ x2).setCell ⟨b,3,none⟩ x3).setCell ⟨b,4,none⟩ x4).setCell ⟨b,5,none⟩ x5).setCell ⟨b,6,none⟩ x6).setCell ⟨b,7,none⟩ x7).setCell ⟨b,8,none⟩ ev=C) :
  C.heap[b]?=some (.cells #[x0,x1,x2,x3,x4,x5,x6,x7,ev] ty (0,0))∧Zf b W C∧C.heap.size=W.heap.size:=by
 subst hC
 have t8:=(turn4 W b 0 1 2 3 x0 x1 x2 x3).trans (turn4 _ b 4 5 6 7 x4 x5 x6 x7)
 have t9:=t8.trans (Zf.set _ 8 ev)
 have hz:((((((((((W.setCell ⟨b,0,none⟩ x0).setCell ⟨b,1,none⟩ x1).setCell ⟨b,2,none⟩ x2).setCell ⟨b,3,none⟩ x3).setCell ⟨b,4,none⟩ x4).setCell ⟨b,5,none⟩ x5).setCell ⟨b,6,none⟩ x6).setCell ⟨b,7,none⟩ x7).setCell ⟨b,8,none⟩ ev)).heap.size=W.heap.size:=by simp
 have r4:((((W.setCell ⟨b,0,none⟩ x0).setCell ⟨b,1,none⟩ x1).setCell ⟨b,2,none⟩ x2).setCell ⟨b,3,none⟩ x3).heap[b]?=some (.cells #[x0,x1,x2,x3,u4,u5,u6,u7,u8] ty (0,0)):=qi (qi (qi (qi rp 0 x0) 1 x1) 2 x2) 3 x3
 generalize (((W.setCell ⟨b,0,none⟩ x0).setCell ⟨b,1,none⟩ x1).setCell ⟨b,2,none⟩ x2).setCell ⟨b,3,none⟩ x3=W4 at *
 have r8:((((W4.setCell ⟨b,4,none⟩ x4).setCell ⟨b,5,none⟩ x5).setCell ⟨b,6,none⟩ x6).setCell ⟨b,7,none⟩ x7).heap[b]?=some (.cells #[x0,x1,x2,x3,x4,x5,x6,x7,u8] ty (0,0)):=qi (qi (qi (qi r4 4 x4) 5 x5) 6 x6) 7 x7
 have r9:(((((W4.setCell ⟨b,4,none⟩ x4).setCell ⟨b,5,none⟩ x5).setCell ⟨b,6,none⟩ x6).setCell ⟨b,7,none⟩ x7).setCell ⟨b,8,none⟩ ev).heap[b]?=some (.cells #[x0,x1,x2,x3,x4,x5,x6,x7,ev] ty (0,0)):=qi r8 8 ev
 exact⟨r9,t9,hz⟩
theorem gfin {W C:World} {vb gb:Nat} {u0 u1 u2 u3 u4 u5 u6 u7 u8 y0 y1 y2 y3 x0 x1 x2 x3 ev:Value} {ty tyV:TypeId} (rg:W.heap[gb]?=some (.cells #[u0,u1,u2,u3,u4,u5,u6,u7,u8] ty (0,0))) (rv:W.heap[vb]?=some (.cells #[y0,y1,y2,y3] tyV (0,0))) (hne:vb≠gb)
  (hC:((((((((W.setCell ⟨vb,0,none⟩ x0).setCell ⟨vb,1,none⟩ x1).setCell ⟨vb,2,none⟩ x2).setCell ⟨vb,3,none⟩ x3).setCell ⟨gb,8,none⟩ ev).setCell ⟨vb,0,none⟩ x0).setCell ⟨vb,1,none⟩ x1).setCell ⟨vb,2,none⟩ x2).setCell ⟨vb,3,none⟩ x3=C) :
  C.heap[vb]?=some (.cells #[x0,x1,x2,x3] tyV (0,0))∧C.heap[gb]?=some (.cells #[u0,u1,u2,u3,u4,u5,u6,u7,ev] ty (0,0))∧Two vb gb W C:=by
 obtain⟨W4,h4⟩:∃ W4,(((W.setCell ⟨vb,0,none⟩ x0).setCell ⟨vb,1,none⟩ x1).setCell ⟨vb,2,none⟩ x2).setCell ⟨vb,3,none⟩ x3=W4:=⟨_,rfl⟩
 have t4:=two4 W vb gb 0 1 2 3 x0 x1 x2 x3
 have r4:=vz rv x0 x1 x2 x3
 have zg:=(zG.1 rg).1
 have zv:=(zG.1 rv).1
 have o4:W4.heap[gb]?=W.heap[gb]?:=by rw[←h4,zJ _ _ _ _ (Ne.symm hne),zJ _ _ _ _ (Ne.symm hne),zJ _ _ _ _ (Ne.symm hne),zJ _ _ _ _ (Ne.symm hne)]
 rw[h4] at hC t4 r4
 have g4:=qi (o4.trans rg) 8 ev
 have v4:=(zJ W4 ⟨gb,8,none⟩ ev vb hne).trans r4
 have t5:=t4.trans (Two.setE W4 8 ev)
 generalize W4.setCell ⟨gb,8,none⟩ ev=W5 at *
 have t9:=two4 W5 vb gb 0 1 2 3 x0 x1 x2 x3
 have r9:=vz v4 x0 x1 x2 x3
 have o9:C.heap[gb]?=W5.heap[gb]?:=by rw[←hC,zJ _ _ _ _ (Ne.symm hne),zJ _ _ _ _ (Ne.symm hne),zJ _ _ _ _ (Ne.symm hne),zJ _ _ _ _ (Ne.symm hne)]
 rw[hC] at t9 r9
 exact⟨r9,o9.trans g4,t5.trans t9⟩
set_option maxRecDepth 100000 in
theorem gset_any (gb:Nat) (A1:Option Addr) (n1 c1:Nat) (A2:Option Addr) (n2 c2:Nat) (A3:Option Addr) (n3 c3:Nat) (A4:Option Addr) (n4 c4:Nat) (gen root next:Int) (A5:Option Addr) (c5:Nat) (S:Sto) (dead:List Int) (v:Vol) (hv:VM v) (hT:8≤v.root→v.root<256→zE S v.root.toNat≠0→okL S (-1) v.root=true) (w:World)
  (hr:w.heap[gb]?=some (.cells (jp (.slice A1 n1 c1) (.slice A2 n2 c2) (.slice A3 n3 c3) (.slice A4 n4 c4) gen root next (.slice A5 dead.length c5) 0) 105 (0,0))) (h:qP w w.heap.size (.slice A1 n1 c1) (.slice A2 n2 c2) (.slice A3 n3 c3) (.slice A4 n4 c4) S) (hd:Zn w w.heap.size (.slice A5 dead.length c5) dead) :
  Calls Tryz.prog 63 #[.pointer (some ⟨gb,0,none⟩),jK v] w (fun e W=>e=.returned (.tuple #[])∧GSetQ gb S gen root next dead v w W):=by
 have HS:=zH (fun W (hx:Ext w W)=>Gs A1 n1 c1 A2 n2 c2 A3 n3 c3 A4 n4 c4 gen root next A5 c5 S dead v hv hT W (h.ext hx) (hd.ext_ hx))
 have zg:=(zG.1 hr).1
 clear h hT hd
 go_enter Tryz.func63,Tryz.ntmps63
 have kr:=qa hr
 go_wp2_with fail
 generalize hw1:World.alloc w _=w1
 have x1:Ext w w1:=by rw[←hw1];exact zN _ _
 have rg1:=qb hr x1
 have rv1:w1.heap[w.heap.size]?=some (.cells #[.int .u32 v.id,.int .i64 v.root,.bool v.fz,.int .u32 v.frm] 40 (0,0)):=by rw[←hw1];exact zI _ _ _ (by simp)
 clear hw1 kr hr
 have gR:∀ W,ql.r w1 W→∀ i,W.cell? ⟨gb,i,none⟩=(jp (.slice A1 n1 c1) (.slice A2 n2 c2) (.slice A3 n3 c3) (.slice A4 n4 c4) gen root next (.slice A5 dead.length c5) 0)[i]?:=fun W h=>qa (qb rg1 h)
 have gV:∀ W,ql.r w1 W→∀ i,W.cell? ⟨w.heap.size,i,none⟩=#[.int .u32 v.id,.int .i64 v.root,.bool v.fz,.int .u32 v.frm][i]?:=fun W h=>qa (qb rv1 h)
 refine qo (by kernel_rfl) ?_
 refine vN 13 10 (by exact rfl) (by kernel_rfl) rfl rfl (by kernel_rfl) (by kernel_rfl) (by kernel_rfl) (by kernel_rfl) ?_
 dsimp only[jf,Array.push,List.push_toArray,List.concat_eq_append]
 refine zh 1 16 (.pointer (some ⟨gb,0,none⟩)) (by kernel_rfl) (by simp only[List.getElem?_toArray,List.getElem?_cons_succ,List.getElem?_cons_zero];exact rfl) (by kernel_rfl) (by kernel_rfl) (by kernel_rfl) (by rfl) (fun W=>?_) ?_
 ·go_simp
 simp only[Act.put,qj,qf,qc,qg,UW,zA,zB,zC]
 refine qO (w:=w1) ql (qF [(7,outPS w1.heap.size S gen root next dead v)]) ([true,false]++List.replicate 11 true) 4 (by kernel_rfl) (by kernel_rfl) (by kernel_rfl) (by kernel_rfl) (by kernel_rfl) (by kernel_rfl) (by kernel_rfl) ?st (Rel.drew _ _) ?walk
 case st=>exact qk (by simp only[List.forall_mem_cons];exact⟨qcz _ _ _ _ _ _ _,fun _ h=>by cases h⟩)
 case walk =>
  intro K hK
  dsimp only[qp,List.replicate,List.cons_append,List.nil_append]
  repeat ((first|(refine qe ?_ (by rfl) (by rfl) (fun W hW _=>⟨W,?_,Rel.refl _ W⟩) ?_;rotate_left;(go_simp<;>with_reducible rfl))|(refine qh (by rfl) ?_));try simp only[Act.put,qj,qf,qc,qg,UW,zA,zB,zC])
  refine qy (outPS w1.heap.size S gen root next dead v) (by rfl) (by rfl) (fun W hW _=>?_) (fun p=>?_)
  ·have hW:Ext w1 W:=hW
   refine Qg ?_ ((HS.out W (x1.trans hW)).mono fun e w' hh=>?_)
   ·go_simp
   obtain⟨hB,p,er,rfl,hR⟩:=hh.r
   exact⟨(p,er),rfl,hR.keep hW.size (zM _) (fun _ _ _=>rfl),hB⟩
  obtain⟨p,er⟩:=p
  simp only[Act.put,qj,qf,qc,qg,UW,zA,zB,zC]
  repeat ((first|(refine qe ?_ (by rfl) (by rfl) (fun W hW _=>⟨W,?_,Rel.refl _ W⟩) ?_;rotate_left;(go_simp<;>with_reducible rfl))|(refine qh (by rfl) ?_));try simp only[Act.put,qj,qf,qc,qg,UW,zA,zB,zC])
  refine qt (hK _ _ fun W hW hF=>?_)
  have hR:SetR w1.heap.size S gen root next dead v p er W:=(hF 7).1
  replace hR:=zH hR
  clear hF hK gR gV
  have hW:Ext w1 W:=hW
  dsimp only[List.drop,List.length_cons,List.length_nil,Nat.reduceAdd,Nat.reduceSub]
  have rW:=qb rg1 hW
  have zW:=(zG.1 rW).1
  have kW:=qa rW
  have fW:=qd rW
  have x2:Ext w W:=x1.trans hW
  have z2:=x2.size
  have z1:=x1.size
  go_wp2
  refine Qm ?_
  go_wp2_with fail
  go_end0
  generalize hwf:World.setCell _ _ _=Wf
  obtain⟨r9,t9,z9⟩:=gst9 rW hwf
  exact⟨rfl,(Zf.of_ext x2).trans t9,p,er,r9,hR.out.keep (by omega) (by omega) fun k h1 h2=>t9.same k h2 (by omega) (by omega)⟩
theorem qhL {R:Ending→World→Prop} {a:Act} {W:World} {b:Nat} {x0 x1 x2 x3:Value} (h4:a.tmps[4]?.getD undef=.pointer (some ⟨b,0,none⟩)) (hd:a.defers=[])
  (hrow:W.heap[b]?=some (.cells #[x0,x1,x2,x3] 40 (0,0))) (hR:R (.returned (.agg #[x0,x1,x2,x3])) W):bodyPost Tryz.prog Tryz.f61 R .ret a W:=by
 refine bodyPost_ret (v:=.agg #[x0,x1,x2,x3]) ?_ hd hR
 have k:=qa hrow
 simp[results,Tryz.results61,go_sem,h4,k]
def FindR (S:Sto) (root next:Int) (dead:List Int) (id:Int) (u:Vol) (er:Int):Prop:=(er=8∧u=YB∧zF S root next dead)∨∃ vs refs nodes,Ql S root next dead vs∧qR S (Qw root dead vs) refs nodes∧QD S refs∧((er=6∧u=YB∧zm vs id=none)∨(er=0∧zm vs id=some u))
set_option maxRecDepth 100000 in
theorem qhK (gb:Nat) (A1:Option Addr) (n1 c1:Nat) (A2:Option Addr) (n2 c2:Nat) (A3:Option Addr) (n3 c3:Nat) (A4:Option Addr) (n4 c4:Nat) (gen root next:Int) (A5:Option Addr) (c5:Nat) (S:Sto) (dead:List Int) (id e0:Int) (w:World)
  (hr:w.heap[gb]?=some (.cells (jp (.slice A1 n1 c1) (.slice A2 n2 c2) (.slice A3 n3 c3) (.slice A4 n4 c4) gen root next (.slice A5 dead.length c5) e0) 105 (0,0))) (h:qP w w.heap.size (.slice A1 n1 c1) (.slice A2 n2 c2) (.slice A3 n3 c3) (.slice A4 n4 c4) S) (hd:Zn w w.heap.size (.slice A5 dead.length c5) dead) :
  Calls Tryz.prog 61 #[.pointer (some ⟨gb,0,none⟩),.int .u32 id] w (fun e W=>∃ u er,e=.returned (jK u)∧FindR S root next dead id u er∧Zf gb w W∧W.heap[gb]?=some (.cells (jp (.slice A1 n1 c1) (.slice A2 n2 c2) (.slice A3 n3 c3) (.slice A4 n4 c4) gen root next (.slice A5 dead.length c5) er) 105 (0,0))):=by
 have HV:=zH (fun W (hx:Ext w W)=>Gt A1 n1 c1 A2 n2 c2 A3 n3 c3 A4 n4 c4 gen root next A5 c5 S dead id W (h.ext hx) (hd.ext_ hx))
 have zg:=(zG.1 hr).1
 clear h hd
 go_enter Tryz.func61,Tryz.ntmps61
 have kr:=qa hr
 go_wp2_with fail
 generalize hw1:World.alloc w _=w1
 have x1:Ext w w1:=by rw[←hw1];exact zN _ _
 have r1:w1.heap[w.heap.size]?=some (.cells #[.int .u32 0,.int .i64 0,.bool false,.int .u32 0] 40 (0,0)):=by rw[←hw1];exact zI _ _ _ (by simp)
 have rg1:=qb hr x1
 clear hw1 kr hr
 refine(HV.out w1 x1).mono ?_
 clear HV
 rintro e w2 ⟨hB,hQ⟩
 have x2:Ext w w2:=x1.trans hB
 have r2:=qb r1 hB
 have rg2:=qb rg1 hB
 have k2:=qa r2
 have f2:=qd r2
 have z2:=(zG.1 r2).1
 have kg2:=qa rg2
 have fg2:=qd rg2
 have zg2:=(zG.1 rg2).1
 clear hB r1 rg1
 obtain⟨u,er,rfl,hu⟩:∃ (u:Vol) (er:Int),e=.returned (.tuple #[jK u,.int .i64 er])∧FindR S root next dead id u er:=by
  rcases hQ with ⟨rfl,hb⟩|⟨vs,refs,nodes,hp,hc,he,rfl⟩
  ·exact⟨YB,8,rfl,.inl ⟨rfl,rfl,hb⟩⟩
  ·rcases hv:zm vs id with _|u
   ·exact⟨YB,6,rfl,.inr ⟨vs,refs,nodes,hp,hc,he,.inl ⟨rfl,rfl,hv⟩⟩⟩
   ·exact⟨u,0,rfl,.inr ⟨vs,refs,nodes,hp,hc,he,.inr ⟨rfl,hv⟩⟩⟩
 clear hQ
 replace hu:=zH hu
 obtain⟨ui,ur,uf,um⟩:=u
 unfold jK
 go_wp2_with fail
 generalize hwf:World.setCell _ _ _=Wf
 obtain⟨g1,g2,g3⟩:=gfin rg2 r2 (by omega) hwf
 clear hwf
 have x2s:=x2.size
 exact qhL rfl rfl g1 ⟨⟨ui,ur,uf,um⟩,er,rfl,hu.out,⟨g3.os.trans x2.os,g3.tape.trans x2.tape,g3.output.trans x2.output,Nat.le_trans x2s g3.size,fun k hk h1 _=>(g3.same k (by omega) (by omega) h1).trans (Below.block x2 k hk)⟩,g2⟩
def Kw (p:PV) (er:Int) (S:Sto):Value:=if er≠0 then .tuple #[Jb,.int .i64 er] else if za S=0 then .tuple #[.agg p.cs,.int .i64 0] else .tuple #[Jb,.int .i64 9]
theorem XF {R:Ending→World→Prop} {a:Act} {W:World} {b:Nat} {x0 x1 x2 x3 x4 x5 x6 x7 v:Value} (h4:a.tmps[2]?.getD undef=.pointer (some ⟨b,0,none⟩)) (h5:a.tmps[3]?.getD undef=v) (hd:a.defers=[])
  (hrow:W.heap[b]?=some (.cells #[x0,x1,x2,x3,x4,x5,x6,x7] 32 (0,0))) (hR:R (.returned (.tuple #[.agg #[x0,x1,x2,x3,x4,x5,x6,x7],v])) W):bodyPost Tryz.prog Tryz.f64 R .ret a W:=by
 refine bodyPost_ret (v:=.tuple #[.agg #[x0,x1,x2,x3,x4,x5,x6,x7],v]) ?_ hd hR
 have k:=qa hrow
 simp[results,Tryz.results64,go_sem,h4,h5,k]
set_option maxRecDepth 100000 in
theorem XE (gb:Nat) (p:PV) (er:Int) (S:Sto) (w:World) (hr:w.heap[gb]?=some (.cells (PV.gcs p er) 105 (0,0)))
  (h:er=0→qP w w.heap.size (.slice p.E1 p.m1 p.e1) (.slice p.E2 p.m2 p.e2) (.slice p.E3 p.m3 p.e3) (.slice p.E4 p.m4 p.e4) S) :
  Calls Tryz.prog 64 #[.pointer (some ⟨gb,0,none⟩)] w (Ret (Kw p er S) w):=by
 have HF:=zH (fun (h0:er=0) W (hx:Ext w W)=>TL p.E1 p.m1 p.e1 p.E2 p.m2 p.e2 p.E3 p.m3 p.e3 p.E4 p.m4 p.e4 S W ((h h0).ext hx))
 have zg:=(zG.1 hr).1
 have hE1:=zH (fun h0:er≠0=>(by unfold Kw;rw[if_pos h0]:Kw p er S=.tuple #[Jb,.int .i64 er]))
 have hE2:=zH (fun (h0:er=0) (h1:za S=0)=>(by unfold Kw;rw[if_neg (by simp[h0]),if_pos h1]:Kw p er S=.tuple #[.agg p.cs,.int .i64 0]))
 have hE3:=zH (fun (h0:er=0) (h1:¬za S=0)=>(by unfold Kw;rw[if_neg (by simp[h0]),if_neg h1]:Kw p er S=.tuple #[Jb,.int .i64 9]))
 obtain⟨V,hV⟩:∃ V,Kw p er S=V:=⟨_,rfl⟩
 rw[hV] at hE1 hE2 hE3 ⊢
 obtain⟨E1,m1,e1,E2,m2,e2,E3,m3,e3,E4,m4,e4,g,t,n,E5,m5,e5⟩:=p
 simp only[PV.gcs,PV.cs] at hr HF hE2
 clear h hV
 go_enter Tryz.func64,Tryz.ntmps64
 have kr:=qa hr
 by_cases h0:er=0
 ·subst h0
  have HF0:=zH (HF.out rfl)
  have hE2':=zH (hE2.out rfl)
  have hE3':=zH (hE3.out rfl)
  clear HF hE1 hE2 hE3
  go_wp2_with fail
  generalize hw1:World.alloc w _=w1
  have x1:Ext w w1:=by rw[←hw1];exact zN _ _
  have ro1:w1.heap[w.heap.size]?=some (.cells VK 32 (0,0)):=by rw[←hw1];exact zI _ _ _ (by simp)
  have rg1:=qb hr x1
  clear hw1 kr hr
  refine(HF0.out w1 x1).mono ?_
  clear HF0
  rintro e w2 ⟨hB,hQ⟩
  have x2:Ext w w2:=x1.trans hB
  have ro2:=qb ro1 hB
  have rg2:=qb rg1 hB
  have ko2:=qa ro2
  have fo2:=qd ro2
  have zo2:=(zG.1 ro2).1
  have kg2:=qa rg2
  clear hB ro1 rg1
  rcases hQ with ⟨hm,rfl⟩|⟨hm,v,rfl,hown⟩
  ·have hE:Hid (V=.tuple #[Jb,.int .i64 9]):=zH (hE3'.out (by unfold za;rw[if_neg (by simp[hm])];decide))
   replace hm:=zH hm
   go_wp2_with fail
   exact XF (b:=w.heap.size) rfl rfl rfl (jj ro2 _ _ _ _ _ _ _ _) ⟨by rw[hE.out];rfl,QV x2 (zM _) _ _ _ _ _ _ _ _⟩
  ·obtain⟨A,c,rfl,-,-⟩:=qv hown
   clear hown
   by_cases hl:(QQ S).length<16
   ·have hE:Hid (V=.tuple #[Jb,.int .i64 9]):=zH (hE3'.out (by unfold za;rw[if_neg (by omega)];decide))
    have d1:decide (((QQ S).length:Int)<16)=true:=decide_eq_true (by omega)
    have d2:decide ((QQ S).length<16)=true:=decide_eq_true hl
    replace hm:=zH hm
    replace hl:=zH hl
    go_wp2_with fail
    exact XF (b:=w.heap.size) rfl rfl rfl (jj ro2 _ _ _ _ _ _ _ _) ⟨by rw[hE.out];rfl,QV x2 (zM _) _ _ _ _ _ _ _ _⟩
   ·have hE:=zH (hE2'.out (by unfold za;rw[if_pos ⟨hm,by omega⟩]))
    have d1:decide (((QQ S).length:Int)<16)=false:=decide_eq_false (by omega)
    have d2:decide ((QQ S).length<16)=false:=decide_eq_false hl
    replace hm:=zH hm
    replace hl:=zH hl
    go_wp2_with fail
    exact XF (b:=w.heap.size) rfl rfl rfl (jj ro2 _ _ _ _ _ _ _ _) ⟨by rw[hE.out];rfl,QV x2 (zM _) _ _ _ _ _ _ _ _⟩
 ·have hE:=zH (hE1.out h0)
  have hnb:(er != 0)=true:=by rw[bne_iff_ne];exact h0
  replace h0:=zH h0
  clear HF hE1 hE2 hE3
  go_upto_region 2 with fail
  generalize hw1:World.alloc w _=w1
  have x1:Ext w w1:=by rw[←hw1];exact zN _ _
  have ro1:w1.heap[w.heap.size]?=some (.cells VK 32 (0,0)):=by rw[←hw1];exact zI _ _ _ (by simp)
  have rg1:=qb hr x1
  clear hw1 kr hr
  have gR:∀ W,ql.r w1 W→∀ i,W.cell? ⟨gb,i,none⟩=(jp (.slice E1 m1 e1) (.slice E2 m2 e2) (.slice E3 m3 e3) (.slice E4 m4 e4) g t n (.slice E5 m5 e5) er)[i]?:=fun W h=>qa (qb rg1 h)
  refine qo (by kernel_rfl) ?_
  refine qO (w:=w1) ql (qF [(5,Zu)]) (List.replicate 6 true) 1 (by kernel_rfl) (by kernel_rfl) (by kernel_rfl) (by kernel_rfl) (by kernel_rfl) (by kernel_rfl) (by kernel_rfl) ?st (Rel.drew _ _) ?walk
  case st=>exact qk (by simp only[List.forall_mem_cons];exact⟨Zh,fun _ h=>by cases h⟩)
  case walk =>
   intro K hK
   dsimp only[qp,List.replicate]
   repeat ((first|(refine qe ?_ (by rfl) (by rfl) (fun W hW _=>⟨W,?_,Rel.refl _ W⟩) ?_;rotate_left;(go_simp<;>with_reducible rfl))|(refine qh (by rfl) ?_));try simp only[Act.put,qj,qf,qc,qg,TJ,zA,zB,zC])
   refine qy Zu (by rfl) (by rfl) (fun W hW _=>?_) (fun (p:Unit)=>?_)
   ·have hW:Ext w1 W:=hW
    have r8:=qb ro1 hW
    have k8:=qa r8
    have f8:=qd r8
    have z8:=(zG.1 r8).1
    refine jq ?_ (same8 r8)
    clear gR
    go_simp
   simp only[Act.put,qj,qf,qc,qg,TJ,zA,zB,zC]
   repeat ((first|(refine qe ?_ (by rfl) (by rfl) (fun W hW _=>⟨W,?_,Rel.refl _ W⟩) ?_;rotate_left;(go_simp<;>with_reducible rfl))|(refine qh (by rfl) ?_));try simp only[Act.put,qj,qf,qc,qg,TJ,zA,zB,zC])
   refine qt (hK _ _ fun W hW hF=>?_)
   clear hF hK gR
   have hW:Ext w1 W:=hW
   dsimp only[List.drop,List.length_cons,List.length_nil,Nat.reduceAdd,Nat.reduceSub]
   have x2:Ext w W:=x1.trans hW
   have ro2:=qb ro1 hW
   go_wp2
   refine Qm ?_
   go_wp2_with fail
   exact XF (b:=w.heap.size) rfl rfl rfl ro2 ⟨by rw[hE.out];rfl,x2⟩
end Go.Proofs.YtpbniokljofedaaGreat
