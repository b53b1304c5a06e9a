/- Texts Unset1, RDel, ReapW, joined. -/
import Derived.Test.YtpbniokljofedaaGreatZI30
set_option linter.unusedSimpArgs false
set_option linter.unusedVariables false
set_option maxHeartbeats 8000000
open Go.Proofs.Tryz
namespace Go.Proofs.YtpbniokljofedaaGreat
open Go.RowKit
set_option maxRecDepth 100000 in
theorem qdz (A:Option Addr) (c:Nat) (w:World):Calls prog 56 #[.slice A 0 c] w (QV (fun u W=>∃ A',u=.slice A' 0 0/\W.ownsRow w.heap.size 3 1 (.slice A' 0 0) 0 []) w):=by
 obtain⟨i0,hi,aY,aV,aX⟩:=info_parts Tryz.info_int;have qn:∀ (w:World) (a:Option Addr) (n c n' c':Nat),(binOp .eql 30 (.slice a n c) (.slice none n' c')).run prog w=.ok (.bool a.isNone) w:=fun w a n c n' c'=>Lib.run_eql_slice_nil w _ _ a n c n' c' underlying30;rcases A with _|ad
 ·go_enter func56,ntmps56;go_wp2;go_ret;exact⟨_,rfl,⟨none,rfl,World.ownsRow_nil _ _ _ _⟩,Below.refl _ _⟩
 ·have ho:(w.alloc (.cells #[] 3)).ownsRow w.heap.size 3 1 (.slice (some ⟨w.heap.size,0,none⟩) 0 0) 0 []:=World.ownsRow_lit w #[] 0 (zM _) (by simp[maxLen]) rfl;have hg:(w.alloc (.cells #[] 3)).heap[w.heap.size]?=some (.cells #[] 3 (0,0)):=zI _ _ _ rfl;have au:∀ ty,(Builtin.append_ #[30,30] ty #[.slice (some ⟨w.heap.size,0,none⟩) 0 0,.slice (some ad) 0 c]).run prog (w.alloc (.cells #[] 3))=.ok (.slice (some ⟨w.heap.size,0,none⟩) 0 0) (w.alloc (.cells #[] 3)):=fun ty=>by have h0:=run_append_room (P:=prog) (w.alloc (.cells #[] 3)) 30 ty 3 i0 underlying30 hi w.heap.size 0 0 #[] hg ad 0 c [] zA3 (fun j u h=>by simp at h) (fun u h=>by cases h) (zM _) zA3;rw[h0];simp[setRow_self _ _ _ _ _ hg]
  have hx:=zH (zN w (.cells #[] 3));replace ho:=zH ho;clear hg;go_enter func56,ntmps56;go_wp2_with (at_builtin;refine qI ?_);refine Qh.go (Lib.wpList_append_run _ rfl _ _ _ _ rfl _ _ zE zE _ _ (au _) ?_);clear au;go_wp2_with fail;go_ret;exact⟨_,rfl,⟨_,rfl,ho.out⟩,hx.out⟩
def UN (lo:Nat):qS:=⟨Option Addr,fun A=>.slice A 0 0,fun A W=>W.ownsRow lo 3 1 (.slice A 0 0) 0 []⟩
theorem Yr (lo:Nat) (A:Option Addr):(UN lo).f A=.slice A 0 0:=rfl
theorem GH (lo:Nat):∀ p,qC qk ((UN lo).φ p):=fun p W W' he h=>QA (show W.ownsRow lo 3 1 (.slice p 0 0) 0 [] from h) fun q hq=>Below.block (show Ext W W' from he) q (Ql (show W.ownsRow lo 3 1 (.slice p 0 0) 0 [] from h) q hq).2
def NewP0 (lo:Nat) (S:Sto) (gen root next:Int) (u:Value) (W:World):Prop:=∃ A1 c1 A2 c2 A3 c3 A4 c4 A5,u=.agg (qB (.slice A1 S.bs.length c1) (.slice A2 S.ws.length c2) (.slice A3 S.now.length c3) (.slice A4 S.last.length c4) gen root next (.slice A5 0 0)) /\
 (∀ C,PosZ lo W C->qU C W.heap.size (.slice A1 S.bs.length c1) (.slice A2 S.ws.length c2) (.slice A3 S.now.length c3) (.slice A4 S.last.length c4) S)/\W.ownsRow lo 3 1 (.slice A5 0 0) 0 []
set_option maxRecDepth 100000 in
theorem qdu (A1:Option Addr) (n1 c1:Nat) (A2:Option Addr) (n2 c2:Nat) (A3:Option Addr) (n3 c3:Nat) (A4:Option Addr) (n4 c4:Nat) (gen next:Int) (A5:Option Addr) (c5:Nat) (S:Sto) (id:Int) (hS:qo S=true) (a:Nat) (xs:List It) (ha:8<=a) (bK:a<256) (hn:qv S a=some (((0:Nat):Int),xs)) (aU:(Qg S 0 xs).isSome=true) (x:It) (hx:XQ S (1,id,0) 0 xs=some x) (hp:qG xs (1,id,0)=0) (hx1:xs.length=1) {f:Nat} {S1:Sto} {t:List UInt8} (hm:zh S 0 []=.ok (f,S1)) (hf:qv S1 f=some (0,[])) (ht:Qz S1 (-1) S1.now a=some t) (w:World) (h:qU w w.heap.size (.slice A1 n1 c1) (.slice A2 n2 c2) (.slice A3 n3 c3) (.slice A4 n4 c4) S) (hd:Zk w w.heap.size (.slice A5 0 c5) []) (v:Vol) (hq:∀ W e W',qaS S (a:Int) next [] id W e W'->e=.returned (.tuple #[VC v,.int .i64 0])):Calls prog 25 #[.agg (qB (.slice A1 n1 c1) (.slice A2 n2 c2) (.slice A3 n3 c3) (.slice A4 n4 c4) gen (a:Int) next (.slice A5 0 c5)),.int .u32 id] w (QV (fun u W=>∃ v,u=.tuple #[v,.int .i64 0]/\NewP0 w.heap.size (qu S1 t) gen (f:Int) next v W) w):=by
 have HV:=zH (fun W (hx:Ext w W)=>qdv A1 n1 c1 A2 n2 c2 A3 n3 c3 A4 n4 c4 gen (a:Int) next A5 c5 S [] id W (h.ext hx) (hd.ext_ hx));have HD:=zH (fun W (hW:Ext w W)=>del1_any A1 n1 c1 A2 n2 c2 A3 n3 c3 A4 n4 c4 S hS a xs ha bK hn aU 1 id 0 x hx hp hx1 hm hf ht W (h.ext hW));have HI:=zH (qdz A5 c5);obtain⟨hS1,-,-,-⟩:=vB (fun _ h=>by cases h) hS hm;have iy:Xs (qu S1 t):=za (Yo hS1 (kO ha (qZ.1 hS1).2.1 ht));obtain⟨SF,hSF⟩:∃ SF,qu S1 t=SF:=⟨_,rfl⟩
 rw[hSF] at HD iy ⊢;replace hq:=zH hq;clear h hd hm hf ht hS1 hSF hn aU hx hp hx1 ha bK hS;go_enter func25,ntmps25;go_wp2_with fail;generalize aA:World.alloc (World.alloc w _) _=w1;have x1:Ext w w1:=by rw[<-aA];exact(zN _ _).trans (zN _ _)
 have nR:w1.heap[w.heap.size]?=some (.cells (qB (.slice A1 n1 c1) (.slice A2 n2 c2) (.slice A3 n3 c3) (.slice A4 n4 c4) gen (a:Int) next (.slice A5 0 c5)) 32 (0,0)):=by rw[<-aA];exact(zK _ _ _ zA3).trans (zI _ _ _ rfl)
 have r1:w1.heap[w.heap.size+1]?=some (.cells (qB (.slice none 0 0) (.slice none 0 0) (.slice none 0 0) (.slice none 0 0) 0 0 0 (.slice none 0 0)) 32 (0,0)):=by rw[<-aA];exact zI _ _ _ zA3
 clear aA;refine(HV.out w1 x1).mono ?_;clear HV;intro e w2 hQ;have hB:Ext w1 w2:=hQ.1;obtain rfl:=hq.out _ _ _ hQ;have x2:Ext w w2:=x1.trans hB;have lU:=qb nR hB;have r2:=qb r1 hB;clear hq hQ hB r1 nR x1;unfold VC;go_upto_region 4 with fail;generalize aO:World.alloc w2 _=w3;have dJ:Ext w2 w3:=by rw[<-aO];exact zN _ _
 have x3:Ext w w3:=x2.trans dJ;have gy:=qb lU dJ;have r3:=qb r2 dJ;have kp3:=qa gy;have zr3:w.heap.size+1<w3.heap.size:=(zG.1 r3).1;clear aO lU r2 dJ x2;go_wp2_with fail;refine(HD.out w3 x3).mono ?_;clear HD;rintro e w4 ⟨u,rfl,⟨v4,rfl,hT⟩,hB⟩;have x4:Ext w w4:=x3.trans hB;have lD:=qb gy hB;have r4:=qb r3 hB;have z34:=hB.size;obtain⟨BB,WW,gg,A3',c3',A4',eP,rfl,-⟩:=(show _ from hT)
 have lN:=VT (hT.newSto iy);replace lN:=zH lN;clear hB gy r3 kp3 hT;go_upto_region 7 with fail;generalize aK:World.alloc w4 _=w5;have af:Ext w4 w5:=by rw[<-aK];exact zN _ _
 have x5:Ext w w5:=x4.trans af;have rs5:w5.heap[w4.heap.size]?=some (.cells #[.slice (some ⟨BB,0,none⟩) SF.bs.length SF.bs.length,.slice (some ⟨WW,0,none⟩) SF.ws.length (SF.ws.length+1),.slice A3' SF.now.length c3',.slice A4' SF.last.length eP] 28 (0,0)):=by rw[<-aK];exact zI _ _ _ rfl
 have lm:=qb lD af;have r5:=qb r4 af;have z45:=af.size;clear aK lD r4;have gP:∀ W,qk.r w5 W->∀ i,W.cell? ⟨w.heap.size,i,none⟩=(qB (.slice A1 n1 c1) (.slice A2 n2 c2) (.slice A3 n3 c3) (.slice A4 n4 c4) gen (a:Int) next (.slice A5 0 c5))[i]?:=fun W h=>qa (qb lm h);obtain⟨nb,ru⟩:∃ nb,SF.bs.length=nb:=⟨_,rfl⟩
 obtain⟨nw,hnw⟩:∃ nw,SF.ws.length=nw:=⟨_,rfl⟩
 obtain⟨nn,ny⟩:∃ nn,SF.now.length=nn:=⟨_,rfl⟩
 obtain⟨nl,yD⟩:∃ nl,SF.last.length=nl:=⟨_,rfl⟩
 rw[ru,hnw,ny,yD] at lN rs5 ⊢;have bn:=zH (And.intro ru (And.intro hnw (And.intro ny yD)));clear ru hnw ny yD;have gS:∀ W,qk.r w5 W->∀ i,W.cell? ⟨w4.heap.size,i,none⟩=#[.slice (some ⟨BB,0,none⟩) nb nb,.slice (some ⟨WW,0,none⟩) nw (nw+1),.slice A3' nn c3',.slice A4' nl eP][i]?:=fun W h=>qa (qb rs5 h);refine qm zQ ?_;refine zu 1 10 (.int .i64 (f:Int)) zQ zA6 zQ zQ zQ zA0 (fun W=>?_) ?_
 ·go_simp
 simp only[Act.put,ql,qf,qc,qg,Yr,zA,zB,zC];refine qL (w:=w5) qk (qD [(4,UN w5.heap.size)]) [true,false,true,true,true,true] 5 zQ zQ zQ zQ zQ zQ zQ ?st (Rel.drew _ _) ?walk
 case st=>exact qj (by simp only[List.forall_mem_cons];exact⟨GH _,fun _ h=>by cases h⟩)
 case walk =>
  intro K hK;dsimp only[qp,List.replicate];repeat ((first|(refine qd ?_ zA0 zA0 (fun W hW _=>⟨W,?_,Rel.refl _ W⟩) ?_;rotate_left;(go_simp<;>with_reducible rfl))|(refine qh zA0 ?_));try simp only[Act.put,ql,qf,qc,qg,Yr,zA,zB,zC])
  refine qw (UN w5.heap.size) zA0 zA0 (fun W hW _=>?_) (fun (B5:Option Addr)=>?_)
  ·have hW:Ext w5 W:=hW;refine Qb ?_ ((HI.out W).mono fun e w' h=>?_)
   ·go_simp
   obtain⟨u,rfl,⟨A',rfl,hu⟩,hB⟩:=h;exact⟨A',rfl,Qw hu hW.size,hB⟩
  simp only[Act.put,ql,qf,qc,qg,Yr,zA,zB,zC];repeat ((first|(refine qd ?_ zA0 zA0 (fun W hW _=>⟨W,?_,Rel.refl _ W⟩) ?_;rotate_left;(go_simp<;>with_reducible rfl))|(refine qh zA0 ?_));try simp only[Act.put,ql,qf,qc,qg,Yr,zA,zB,zC])
  refine qt (hK _ _ fun V hV hF=>?_);have hI:V.ownsRow w5.heap.size 3 1 (.slice B5 0 0) 0 []:=(hF 4).1;clear hF hK gP gS HI;have hV:Ext w5 V:=hV;refine zC3 ?_;have rP:=qb lm hV;have r6:=qb r5 hV;have kp6:=qa rP;have fp6:=qe rP;have zp6:w.heap.size<V.heap.size:=(zG.1 rP).1;replace hI:=zH hI;clear lm r5 rs5;go_wp2;refine Qm ?_;generalize nO:World.setCell (World.setCell (World.setCell (World.setCell (World.setCell (World.setCell V _ _) _ _) _ _) _ _) _ _) _ _=w6;obtain⟨rp7,o7,z7,b7⟩:=qel rP nO.symm;clear nO kp6 fp6;have r7:=(o7 (w.heap.size+1) zO).trans r6;have x7:Below w.heap.size w w6:=b7 (zM _) (Below.trans x5 (Below.mono hV x5.size));have hzV:=hV.size;have kp7:=qa rp7;have ko7:=qa r7;have fo7:=qe r7;have zo7:w.heap.size+1<w6.heap.size:=(zG.1 r7).1;have z3:=x3.size;clear rP r6;go_wp2_with fail;refine qfb (b:=w.heap.size+1) rfl rfl rfl (Kf r7 _ _ _ _ _ _ _ _) ⟨_,rfl,⟨_,rfl,some ⟨BB,0,none⟩,nb,some ⟨WW,0,none⟩,nw+1,A3',c3',A4',eP,B5,?_,fun C hC=>?_,?_⟩,jz x7 zO _ _ _ _ _ _ _ _⟩
  ·rw[bn.out.1,bn.out.2.1,bn.out.2.2.1,bn.out.2.2.2]
  ·rw[bn.out.1,bn.out.2.1,bn.out.2.2.1,bn.out.2.2.2];rw[Kq];have hs:=fun (k:Nat) (hk:k≠w.heap.size+1)=>jM (w:=w6) hk (.slice (some ⟨BB,0,none⟩) nb nb) (.slice (some ⟨WW,0,none⟩) nw (nw+1)) (.slice A3' nn c3') (.slice A4' nl eP) (.int .u32 gen) (.int .i64 (f:Int)) (.int .u32 next) (.slice B5 0 0);have q1:=lN.out C fun q u h1 h2 h3=>hC q u zO (by rw[Kq];omega) ((QR ((hs q.block zO).trans ((o7 q.block zO).trans ((hV.block q.block zO).trans (af.block q.block h2))))).trans h3);exact q1.more zO
  ·refine Qw (QA hI.out fun q hq=>?_) zO;have hl:=Ql hI.out q hq;exact(jM (w:=w6) (b:=w.heap.size+1) zO _ _ _ _ _ _ _ _).trans (o7 q zO)
theorem rdel_ret {R:Ending->World->Prop} {a:Act} {W:World} {b:Nat} {x0 x1 x2 x3 x4 x5 x6 x7 v:Value} (h4:a.tmps[4]?.getD undef=.pointer (some ⟨b,0,none⟩)) (h5:a.tmps[5]?.getD undef=v) (hd:a.defers=[]) (aC:W.heap[b]?=some (.cells #[x0,x1,x2,x3,x4,x5,x6,x7] 32 (0,0))) (hR:R (.returned (.tuple #[.agg #[x0,x1,x2,x3,x4,x5,x6,x7],v])) W):bodyPost prog Tryz.f36 R .ret a W:=by
 refine bodyPost_ret (v:=.tuple #[.agg #[x0,x1,x2,x3,x4,x5,x6,x7],v]) ?_ hd hR;have k:=qa aC;simp[results,results36,go_sem,h4,h5,k]
theorem qhq {W:World} {lo:Nat} {A:Option Addr} (h:W.ownsRow lo 3 1 (.slice A 0 0) 0 []):∀ q u,W.cell? q=some u->(Value.slice A 0 0).ownBlock≠some q.block:=fun q u hq he=>by
 obtain⟨cur,hc⟩:=Zl h he;obtain⟨-,⟨e,-⟩|⟨g,cap,cs,e,-,hg,h1,-,h3,-⟩⟩:=h
 ·cases e;cases he
 ·cases e;have e1:q.block=g:=by simpa [Value.ownBlock] using he.symm
  unfold World.cell? at hq;rw[e1,hg] at hq;have:cs=#[]:=Array.eq_empty_of_size_eq_zero zO;subst this;simp at hq
set_option maxRecDepth 100000 in
theorem qhw (A1:Option Addr) (n1 c1:Nat) (A2:Option Addr) (n2 c2:Nat) (A3:Option Addr) (n3 c3:Nat) (A4:Option Addr) (n4 c4:Nat) (gen root next:Int) (A5:Option Addr) (c5:Nat) (S SF:Sto) (f:Int) (id:Int) (w:World) (h:qU w w.heap.size (.slice A1 n1 c1) (.slice A2 n2 c2) (.slice A3 n3 c3) (.slice A4 n4 c4) S) (hd:Zk w w.heap.size (.slice A5 0 c5) []) (v:Vol) (hq:∀ W e W',qaS S root next [] id W e W'->e=.returned (.tuple #[VC v,.int .i64 0])) (HU:∀ W,Ext w W->Calls prog 25 #[.agg (qB (.slice A1 n1 c1) (.slice A2 n2 c2) (.slice A3 n3 c3) (.slice A4 n4 c4) gen root next (.slice A5 0 c5)),.int .u32 id] W (QV (fun u W'=>∃ v,u=.tuple #[v,.int .i64 0]/\NewP0 W.heap.size SF gen f next v W') W)):Calls prog 36 #[.agg (qB (.slice A1 n1 c1) (.slice A2 n2 c2) (.slice A3 n3 c3) (.slice A4 n4 c4) gen root next (.slice A5 0 c5)),.int .u32 id] w (QV (fun u W=>∃ v',u=.tuple #[v',.int .i64 0]/\Jg w.heap.size SF gen f next [v.root] v' W) w):=by
 obtain⟨i0,hi,aY,aV,aX⟩:=info_parts Tryz.info_int;have HV:=zH (fun W (hx:Ext w W)=>qdv A1 n1 c1 A2 n2 c2 A3 n3 c3 A4 n4 c4 gen root next A5 c5 S [] id W (h.ext hx) (hd.ext_ hx));replace hq:=zH hq;replace HU:=zH HU;replace hi:=zH hi;clear h hd;go_enter func36,ntmps36;go_wp2_with fail;generalize aA:World.alloc (World.alloc w _) _=w1;have x1:Ext w w1:=by rw[<-aA];exact(zN _ _).trans (zN _ _)
 have nR:w1.heap[w.heap.size]?=some (.cells (qB (.slice A1 n1 c1) (.slice A2 n2 c2) (.slice A3 n3 c3) (.slice A4 n4 c4) gen root next (.slice A5 0 c5)) 32 (0,0)):=by rw[<-aA];exact(zK _ _ _ zA3).trans (zI _ _ _ rfl)
 have r1:w1.heap[w.heap.size+1]?=some (.cells (qB (.slice none 0 0) (.slice none 0 0) (.slice none 0 0) (.slice none 0 0) 0 0 0 (.slice none 0 0)) 32 (0,0)):=by rw[<-aA];exact zI _ _ _ zA3
 clear aA;refine(HV.out w1 x1).mono ?_;clear HV;intro e w2 hQ;have hB:Ext w1 w2:=hQ.1;obtain rfl:=hq.out _ _ _ hQ;have x2:Ext w w2:=x1.trans hB;have lU:=qb nR hB;have r2:=qb r1 hB;clear hq hQ hB r1 nR x1;unfold VC;go_upto_region 4 with fail;generalize aO:World.alloc w2 _=w3;have dJ:Ext w2 w3:=by rw[<-aO];exact zN _ _
 have x3:Ext w w3:=x2.trans dJ;have rv3:w3.heap[w2.heap.size]?=some (.cells #[.int .u32 v.id,.int .i64 v.root,.bool v.fz,.int .u32 v.frm] 40 (0,0)):=by rw[<-aO];exact zI _ _ _ rfl
 have gy:=qb lU dJ;have r3:=qb r2 dJ;have kp3:=qa gy;have x2s:=zH (show w.heap.size+1<w2.heap.size from (zG.1 r2).1);have hz3:=zH (show w.heap.size+1<w3.heap.size from (zG.1 r3).1);clear aO lU r2 dJ x2;go_wp2_with fail;refine(HU.out w3 x3).mono ?_;clear HU;rintro e w4 ⟨u,rfl,⟨v4,rfl,A1',c1',A2',c2',A3',c3',A4',eP,A5',rfl,hS,ho⟩,hB⟩;have x4:Ext w w4:=x3.trans hB;have lD:=qb gy hB;have r4:=qb r3 hB;have rv4:=qb rv3 hB;have z34:=hB.size;have kp4:=qa lD;have fp4:=qe lD;have zp4:=(zG.1 lD).1;replace hS:=zH hS;replace ho:=zH ho;clear hB gy r3 rv3 kp3;go_upto_region 9 with fail;generalize aK:World.setCell (World.setCell (World.setCell (World.setCell (World.setCell (World.setCell (World.setCell (World.setCell w4 _ _) _ _) _ _) _ _) _ _) _ _) _ _) _ _=w5;have lm:=Kf lD (.slice A1' SF.bs.length c1') (.slice A2' SF.ws.length c2') (.slice A3' SF.now.length c3') (.slice A4' SF.last.length eP) (.int .u32 gen) (.int .i64 f) (.int .u32 next) (.slice A5' 0 0);have o5:∀ k,k≠w.heap.size->w5.heap[k]?=w4.heap[k]?:=fun k hk=>by rw[<-aK];exact jM hk _ _ _ _ _ _ _ _
 have z5:w5.heap.size=w4.heap.size:=by rw[<-aK];exact Kq
 have x5:Below w.heap.size w w5:=by rw[<-aK];exact jz x4 (zM _) _ _ _ _ _ _ _ _
 rw[aK] at lm;have z3:w.heap.size+1<w3.heap.size:=hz3.out;have r5:=(o5 (w.heap.size+1) zO).trans r4;have rv5:=(o5 w2.heap.size (by have:=x2s.out;omega)).trans rv4;have ho5:=QA ho.out fun q hq=>o5 q (by have:=(Ql ho.out q hq).1;omega);have aN:=qhq ho5;have kp5:=qa lm;have kv5:=qa rv5;have z45:w3.heap.size<=w5.heap.size:=zO;have z5H:=zH z5;clear aK lD r4 rv4 kp4 fp4 zp4 z5;go_wp2_with (at_builtin;refine qI ?_);refine Qh.go (Zc w5 rfl (.tmp 34) (.tmp 37) 30 rfl w3.heap.size 3 i0 _ 1 8 underlying30 hi.out aY aV aX rfl zA1 (.slice A5' 0 0) 0 [] zE ho5 #[.int .i64 v.root] zE rfl zA8 zO zA1 zO ?_);intro v' w6 aB hg hB dQ;obtain⟨A7,c7,rfl,-,-⟩:=qy aB;have rY:∀ q,q<w5.heap.size->(Value.slice A5' 0 0).ownBlock≠some q->w6.heap[q]?=w5.heap[q]?:=fun q h1 h2=>hg.block q h1 fun e=>h2 e.symm;have hlt:∀ q,(Value.slice A5' 0 0).ownBlock=some q->w3.heap.size<=q:=fun q hq=>(Ql ho5 q hq).1;have hz5:=hB.size;have rP:=(rY _ zO fun e=>by have:=hlt _ e;omega).trans lm;have r6:=(rY _ zO fun e=>by have:=hlt _ e;omega).trans r5;have x6:Below w.heap.size w w6:=Below.trans x5 (Below.mono hB zO);have kp6:=qa rP;have fp6:=qe rP;have ko6:=qa r6;have fo6:=qe r6;have zp6:=(zG.1 rP).1;have zo6:w.heap.size+1<w6.heap.size:=(zG.1 r6).1;replace aB:=zH aB;replace rY:=zH rY;replace aN:=zH aN;replace hlt:=zH hlt;clear hg hB dQ ho5 kp5 kv5 lm r5 rv5 ho;go_wp2_with fail;have aZ:=fun (k:Nat) (h1:k≠w.heap.size) (h2:k≠w.heap.size+1)=>(jM (w:=w6.setCell ⟨w.heap.size,7,none⟩ (.slice A7 1 c7)) (b:=w.heap.size+1) h2 (.slice A1' SF.bs.length c1') (.slice A2' SF.ws.length c2') (.slice A3' SF.now.length c3') (.slice A4' SF.last.length eP) (.int .u32 gen) (.int .i64 f) (.int .u32 next) (.slice A7 1 c7)).trans (zJ _ _ _ _ h1);refine rdel_ret (b:=w.heap.size+1) rfl rfl rfl (Kf ((zJ _ _ _ _ zA3).trans r6) _ _ _ _ _ _ _ _) ⟨_,rfl,⟨_,rfl,A1',c1',A2',c2',A3',c3',A4',eP,A7,c7,rfl,fun C hC=>?_⟩,jz (Below.setCell x6 (p:=⟨w.heap.size,7,none⟩) (zM _) _) zO _ _ _ _ _ _ _ _⟩;have z5:=z5H.out;have z3:=hz3.out;have q1:=hS.out C fun q u h1 h2 h3=>by have e5:(thaw w5).cell? q=some u:=(QR (o5 q.block zO)).trans h3;have e6:(thaw w6).cell? q=some u:=(QR (rY.out q.block zO (aN.out q u (Yw e5).1))).trans e5;exact hC q u zO (by rw[Kq];simp;omega) ((QR (aZ q.block zO zO)).trans e6)
 have q2:=(Zk.of_ownT (l:=[v.root]) aB.out).pos (Ze.of_own aB.out) (C:=C) fun q u h1 h2 h3=>hC q u zO (by rw[Kq];simpa using h2) ((QR (aZ q.block zO zO)).trans h3);rw[Kq];exact⟨q1.more zA2,q2.more zA3⟩
def ja (T:Sto) (a:Int):Except Int Sto:=if ZQ T a=0 then .ok (qu T (ZL T.now a.toNat)) else .error (ZQ T a)
theorem VQ {T:Sto} {a:Int} (h:ZQ T a=0):ja T a=.ok (qu T (ZL T.now a.toNat)):=by unfold ja;rw[if_pos h]
theorem Gr {T:Sto} {a:Int} (h:ZQ T a≠0):ja T a=.error (ZQ T a):=by unfold ja;rw[if_neg h]
def Tc (lvl:Int) (gone:Bool) (q:List Int×Except Int Sto) (x:It):List Int×Except Int Sto:=match q.2 with
 | .error _=>q
 | .ok T=>if gone=false\/x.r=0 then q else if 0<lvl then (q.1++[x.r],q.2) else (q.1,ja T x.r)
def VX (lvl:Int) (gone:Bool) (xs:List It) (q:List Int×Except Int Sto):List Int×Except Int Sto:=xs.foldl (Tc lvl gone) q
def errI:Except Int Sto->Int
 | .error e=>e
 | .ok _=>0
def Kn (S:Sto) (ini:List Int) (a:Nat):Except Int (List Int×Sto):=match qv S a with
 |none=>.error 8
 |some (lvl,xs)=>match VX lvl (decide (qT S.now a=1)) xs (ini,ja S (a:Int)) with
  |(_,.error _)=>.error 8
  |(D,.ok T)=>if 40<D.length then .error 9 else .ok (D,T)
theorem qfF (lvl:Int) (gone:Bool) (xs:List It) (k:Nat) (hk:k<xs.length) (q:List Int×Except Int Sto):VX lvl gone (xs.take (k+1)) q=Tc lvl gone (VX lvl gone (xs.take k) q) xs[k]:=by unfold VX;rw[<-List.take_append_getElem hk,List.foldl_append];rfl
theorem qhx (lvl:Int) (gone:Bool) (D:List Int) (e:Int) (x:It):Tc lvl gone (D,.error e) x=(D,.error e):=rfl
theorem GN (lvl:Int) {gone:Bool} (D:List Int) (T:Sto) {x:It} (h:gone=false\/x.r=0):Tc lvl gone (D,.ok T) x=(D,.ok T):=by unfold Tc;simp only;rw[if_pos h]
theorem GM {lvl:Int} {gone:Bool} (D:List Int) (T:Sto) {x:It} (h:¬(gone=false\/x.r=0)) (hl:0<lvl):Tc lvl gone (D,.ok T) x=(D++[x.r],.ok T):=by unfold Tc;simp only;rw[if_neg h,if_pos hl]
theorem GL {lvl:Int} {gone:Bool} (D:List Int) (T:Sto) {x:It} (h:¬(gone=false\/x.r=0)) (hl:¬0<lvl):Tc lvl gone (D,.ok T) x=(D,ja T x.r):=by unfold Tc;simp only;rw[if_neg h,if_neg hl]
theorem Gs {T T':Sto} {a:Int} (hT:qo T=true) (h:ja T a=.ok T'):qo T'=true:=by
 by_cases h0:ZQ T a=0
 ·rw[VQ h0] at h;cases h;obtain⟨_,m,rfl,hm8,_,_⟩:=qbC h0;exact may_now hT hm8 _
 ·rw[Gr h0] at h;cases h
def Xr (S:Sto) (gen root next:Int) (dead:List Int) (w:World) (e:Ending) (w':World):Prop:=Below w.heap.size w w' /\
 ((e=.returned (.tuple #[vN,.int .i64 8])/\zv S root next dead) \/
  ∃ vs refs nodes,zY S root next dead vs/\Qr S (zF root dead vs) refs nodes/\Zu S refs /\
   ((dead=[]/\e=.returned (.tuple #[vN,.int .i64 6]))\/∃ (ini:List Int) (a:Nat),dead=ini++[(a:Int)] /\
    match Kn S ini a with
    | .error er=>e=.returned (.tuple #[vN,.int .i64 er])
    | .ok (D,T)=>∃ u,e=.returned (.tuple #[u,.int .i64 0])/\Jg w.heap.size T gen root next D u w'))
structure RpC (S:Sto) (lvl:Int) (xs:List It) (gone:Bool) (ini:List Int) (a:Nat) (v1 v2 v3 v4 v5 v6 v7:Value) (pb sb lo m:Nat) (w wL:World) (k:Nat) (D:List Int) (q:Except Int Sto) (A5:Option Addr) (c5:Nat) (u0 u1 u2 u3:Value) (wr:World):Prop where
 le:k<=xs.length
 eq:VX lvl gone (xs.take k) (ini,ja S (a:Int))=(D,q)
 few:D.length<=40+k
 pool:wr.heap[pb]?=some (.cells #[v1,v2,v3,v4,v5,v6,v7,.slice A5 D.length c5] 32 (0,0))
 own:wr.ownsRow lo 3 1 (.slice A5 D.length c5) D.length (vQ D)
 box:wr.heap[sb]?=some (.cells #[u0,u1,u2,u3] 28 (0,0))
 err:∀ er,q=.error er->er≠0
 ok:∀ T,q=.ok T->qo T=true/\QF lo T (.agg #[u0,u1,u2,u3]) wr
 at_:∀ g,(Value.slice A5 D.length c5).ownBlock=some g->g<m\/wL.heap.size<=g
 kept:∀ p,m<=p->p<wL.heap.size->p≠sb->wr.heap[p]?=wL.heap[p]?
 size:wL.heap.size<=wr.heap.size
 bel:Below w.heap.size w wr
 out:pb+1<wL.heap.size/\wr.heap[pb+1]?=wL.heap[pb+1]?
theorem QF.ext' {lo:Nat} {S:Sto} {u:Value} {W W2:World} (h:QF lo S u W) (hx:Ext W W2):QF lo S u W2:=h.keep (zM _) hx.size fun b _ h2=>Below.block hx b h2
theorem RpC.next {S:Sto} {lvl:Int} {xs:List It} {gone:Bool} {ini:List Int} {a:Nat} {v1 v2 v3 v4 v5 v6 v7:Value} {pb sb lo m:Nat} {w wL:World} {k:Nat} {D:List Int} {q:Except Int Sto} {A5:Option Addr} {c5:Nat} {u0 u1 u2 u3:Value} {wr wr':World} (h:RpC S lvl xs gone ini a v1 v2 v3 v4 v5 v6 v7 pb sb lo m w wL k D q A5 c5 u0 u1 u2 u3 wr) (hx:Ext wr wr') {j:Nat} (hj:j<=xs.length) (hkj:k<=j) (he:VX lvl gone (xs.take j) (ini,ja S (a:Int))=(D,q)):RpC S lvl xs gone ini a v1 v2 v3 v4 v5 v6 v7 pb sb lo m w wL j D q A5 c5 u0 u1 u2 u3 wr':=
 ⟨hj,he,Nat.le_trans h.few (Nat.add_le_add_left hkj _),qb h.pool hx,QA h.own fun q hq=>Below.block hx q (Ql h.own q hq).2,qb h.box hx,h.err,fun T e=>⟨(h.ok T e).1,(h.ok T e).2.ext' hx⟩,h.at_,
  fun p h1 h2 h3=>(Below.block hx p (Nat.lt_of_lt_of_le h2 h.size)).trans (h.kept p h1 h2 h3),Nat.le_trans h.size hx.size,Below.trans h.bel (Below.mono hx h.bel.size),h.out.1,(Below.block hx _ (Nat.lt_of_lt_of_le h.out.1 h.size)).trans h.out.2⟩
theorem RpC.more {S:Sto} {lvl:Int} {xs:List It} {gone:Bool} {ini:List Int} {a:Nat} {v1 v2 v3 v4 v5 v6 v7:Value} {pb sb lo m:Nat} {w wL:World} {k:Nat} {D:List Int} {A5:Option Addr} {c5:Nat} {u0 u1 u2 u3:Value} {T:Sto} {wr wa w6:World} {x:Int} {A7:Option Addr} {c7:Nat} (h:RpC S lvl xs gone ini a v1 v2 v3 v4 v5 v6 v7 pb sb lo m w wL k D (.ok T) A5 c5 u0 u1 u2 u3 wr) (hx:Ext wr wa) (hp:pb+1<lo) (fD:w.heap.size<=pb) (hlm:lo<=m) (hms:m<=sb) (hsL:sb<wL.heap.size) (aB:w6.ownsRow lo 3 1 (.slice A7 (D.length+1) c7) (D.length+1) (vQ D++[.int .i64 x])) (hg:wa.grownBy w6 (Value.slice A5 D.length c5).ownBlock) (hB:Below lo wa w6) (dQ:(Value.slice A7 (D.length+1) c7).ownBlock=(Value.slice A5 D.length c5).ownBlock\/∃ g,(Value.slice A7 (D.length+1) c7).ownBlock=some g/\wa.heap.size<=g) (hk:k<xs.length) (he:VX lvl gone (xs.take (k+1)) (ini,ja S (a:Int))=(D++[x],.ok T)):RpC S lvl xs gone ini a v1 v2 v3 v4 v5 v6 v7 pb sb lo m w wL (k+1) (D++[x]) (.ok T) A7 c7 u0 u1 u2 u3 (w6.setCell ⟨pb,7,none⟩ (.slice A7 (D.length+1) c7)):=by
 have hl:(D++[x]).length=D.length+1:=zA3;have hs:=h.size;have oq:=hx.size;have fO:=hB.size;have ho:∀ q,(Value.slice A5 D.length c5).ownBlock=some q->lo<=q/\(q<m\/wL.heap.size<=q):=fun q hq=>⟨(Ql h.own q hq).1,h.at_ q hq⟩
 have nU:∀ q,q<wr.heap.size->(Value.slice A5 D.length c5).ownBlock≠some q->q≠pb->(w6.setCell ⟨pb,7,none⟩ (.slice A7 (D.length+1) c7)).heap[q]?=wr.heap[q]?:=fun q h1 h2 h3 =>
  (zJ _ _ _ _ h3).trans ((hg.block q zO fun e=>h2 e.symm).trans (Below.block hx q h1))
 have hpw:=(zG.1 h.pool).1;refine⟨zO,he,by have:=h.few;omega,?_,?_,?_,h.err,fun T' e=>⟨(h.ok T' e).1,?_⟩,fun g hq=>?_,fun p h1 h2 h3=>?_,zA2,?_,h.out.1,(nU (pb+1) (by have:=h.out.1;omega) (fun e=>by have:=(ho _ e).1;omega) zO).trans h.out.2⟩
 ·rw[hl];exact qi ((hg.block pb zO fun e=>by have:=(ho pb e.symm).1;omega).trans (qb h.pool hx)) 7 _
 ·rw[hl,show vQ (D++[x])=vQ D++[.int .i64 x] by simp[vQ]];exact QA aB fun q hq=>zJ _ _ _ _ (by have:=(Ql aB q hq).1;simp;omega)
 ·exact(nU sb zO (fun e=>by have:=ho sb e;omega) zO).trans h.box
 ·rcases hob:(Value.slice A5 D.length c5).ownBlock with _|g
  ·exact(h.ok T' e).2.keep (zM _) zA2 fun b h1 h2=>nU b h2 (by rw[hob];simp) zO
  ·obtain⟨cur,hc⟩:=Zl h.own hob;exact(h.ok T' e).2.keepT (zM _) zA2 hc zA1 fun b h1 h2 h3=>nU b h2 (by rw[hob];intro e;exact h3 (by simpa using e.symm)) zO
 ·rw[hl] at hq;rcases dQ with e|⟨g',e1,e2⟩
  ·exact(ho g (by rw[<-e];exact hq)).2
  ·rw[e1] at hq;cases hq;exact .inr zO
 ·exact(nU p zO (fun e=>by have:=ho p e;omega) zO).trans (h.kept p h1 h2 h3)
 ·exact Below.setCell (Below.trans h.bel (Below.trans (Below.mono hx h.bel.size) (Below.mono hB zO))) (p:=⟨pb,7,none⟩) fD _
theorem RpC.loose {S:Sto} {lvl:Int} {xs:List It} {gone:Bool} {ini:List Int} {a:Nat} {v1 v2 v3 v4 v5 v6 v7:Value} {pb sb lo m:Nat} {w wL:World} {k:Nat} {D:List Int} {A5:Option Addr} {c5:Nat} {u0 u1 u2 u3:Value} {T:Sto} {q':Except Int Sto} {wr wc:World} {x0 x1 x2 x3:Value} {lo':Nat} (h:RpC S lvl xs gone ini a v1 v2 v3 v4 v5 v6 v7 pb sb lo m w wL k D (.ok T) A5 c5 u0 u1 u2 u3 wr) (hx:Ext wr wc) (hp:pb+1<lo) (fD:w.heap.size<=pb) (hlm:lo<=m) (hms:m<=sb) (hsL:sb<wL.heap.size) (aP:wL.heap.size<=lo') (hk:k<xs.length) (he:VX lvl gone (xs.take (k+1)) (ini,ja S (a:Int))=(D,q')) (h1:∀ er,q'=.error er->er≠0) (h2:∀ T',q'=.ok T'->qo T'=true/\QF lo' T' (.agg #[x0,x1,x2,x3]) wc):RpC S lvl xs gone ini a v1 v2 v3 v4 v5 v6 v7 pb sb lo m w wL (k+1) D q' A5 c5 x0 x1 x2 x3 ((((wc.setCell ⟨sb,0,none⟩ x0).setCell ⟨sb,1,none⟩ x1).setCell ⟨sb,2,none⟩ x2).setCell ⟨sb,3,none⟩ x3):=by
 have hs:=h.size;have oq:=hx.size;have ho:∀ q,(Value.slice A5 D.length c5).ownBlock=some q->lo<=q/\q<wr.heap.size/\(q<m\/wL.heap.size<=q):=fun q hq=>⟨(Ql h.own q hq).1,(Ql h.own q hq).2,h.at_ q hq⟩
 have nU:∀ q,q<wr.heap.size->q≠sb->((((wc.setCell ⟨sb,0,none⟩ x0).setCell ⟨sb,1,none⟩ x1).setCell ⟨sb,2,none⟩ x2).setCell ⟨sb,3,none⟩ x3).heap[q]?=wr.heap[q]?:=fun q h1 h2=>by have hs:=fun (A:World) (j:Nat) (v:Value)=>zJ A ⟨sb,j,none⟩ v q h2;rw[hs,hs,hs,hs];exact Below.block hx q h1
 have hpw:=(zG.1 h.pool).1;refine⟨zO,he,by have:=h.few;omega,(nU pb hpw zO).trans h.pool,QA h.own fun q hq=>nU q (ho q hq).2.1 (by have:=ho q hq;omega),Xn (qb h.box hx) _ _ _ _,h1,fun T' e=>⟨(h2 T' e).1,(h2 T' e).2.set4 zO zO _ _ _ _⟩,h.at_,fun p h3 h4 h5=>(nU p zO h5).trans (h.kept p h3 h4 h5),zA2,ZY (Below.trans h.bel (Below.mono hx h.bel.size)) zO _ _ _ _,h.out.1,(nU (pb+1) (by have:=h.out.1;omega) zO).trans h.out.2⟩
structure RpI (S:Sto) (lvl:Int) (xs:List It) (gone:Bool) (ini:List Int) (a:Nat) (v1 v2 v3 v4 v5 v6 v7:Value) (pb sb lo m:Nat) (w wL:World) (e i:Value) (wr:World):Prop where
 ex:∃ (k:Nat) (D:List Int) (q:Except Int Sto) (A5:Option Addr) (c5:Nat) (u0 u1 u2 u3:Value),i=.int .i64 (k:Int)/\e=.int .i64 (errI q)/\RpC S lvl xs gone ini a v1 v2 v3 v4 v5 v6 v7 pb sb lo m w wL k D q A5 c5 u0 u1 u2 u3 wr
end Go.Proofs.YtpbniokljofedaaGreat
