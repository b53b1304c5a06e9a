/- Lemmas of the proof. -/
import Derived.Defers
import Derived.Test.YtmeadnlmepcmbaaGreatZS13
set_option linter.all false
set_option maxHeartbeats 8000000
open Go.Proofs.Tryz
open Go.Value renaming slice→F,int→U,tuple→Of
open Bool renaming true→I,false→Oe
open Option renaming some→O,none→Oa
open Go.Ending renaming returned→Q
open Go.Obj renaming cells→Y
open Go renaming World→Z,Value→Ob
open Go.IntKind renaming i64→Oc
open Go.World renaming alloc→Od
namespace Go.Proofs.YtmeadnlmepcmbaaGreat
open Go.RowKit
variable {S S':Sto}{refs nodes:Nat->Nat}{a B lo base bp be ba f n1 c1 n2 c2 n3 c3 n4 c4 c3':Nat}{R:Ending->World->Prop}{W w C W' w0:World}{u v:Value}{A A1 A2 A3 A4 A3':OA}{xs:List Value}{l:List Int}{ty2 ty3:TypeId}{lvl er e:Int}{p:List It}{D:Nat->Prop}{k:Option Nat}{s:Stp}
def jS(S:Sto)(refs nodes:Nat->Nat)(a:Int)(held:Bool):Int:=if 8<=a/\a<256 then(if Zy S a.toNat=0\/0<nodes a.toNat\/(held=I/\Zy S a.toNat<=refs a.toNat)then 6 else 0)else 2
theorem qlO{a:Int}(h:¬(8<=a/\a<256))(held:Bool):jS S refs nodes a held=2:=by unfold jS;rw[if_neg h]
theorem dataE_in(S:Sto)(refs nodes:Nat->Nat)(h8:8<=a)(h:a<256)(held:Bool):jS S refs nodes (a:Int) held=if Zy S a=0\/0<nodes a\/(held=I/\Zy S a<=refs a)then 6 else 0:=by unfold jS;rw[if_pos zO,Int.toNat_natCast]
theorem mem_met(h:a<256):a∈Ku nodes 256↔0<nodes a:=by unfold Ku;simp[h]
def DataQ(S:Sto)(root next:Int)(dead:List Int)(a:Int)(held:Bool)(w:Z)(e:Ending)(w':Z):Prop:=Below w w w' /\
 ((e=Q (U Oc 8)/\∀vs,Qy S root next dead vs->∃refs nodes,Qk S (Qo root dead vs) refs nodes/\¬QQ S refs) \/
  ∃vs refs nodes,Qy S root next dead vs/\Qk S (Qo root dead vs) refs nodes/\QQ S refs/\e=Q (U Oc (jS S refs nodes a held)))
theorem VM{a:Act}(h6:a.tmps[6]?.getD undef=u)(hd:a.defers=[])(hR:R u W):bodyPost prog Tryz.f83 R .ret a W:=by refine bodyPost_ret (v:=u) ?_ hd hR;simp[results,results83,go_sem,h6]
theorem qbe{R:List Nat}{refs' nodes':Nat->Nat}(h:Qk S R refs nodes)(h':Qk S R refs' nodes'):refs=refs':=(Jo.same h.mkd h'.mkd).2
set_option maxRecDepth 100000 in
theorem data_any(A1 n1 c1 A2 n2 c2 A3 n3 c3 A4 n4 c4)(gen root next:Int)(A5 c5)(S:Sto)(dead:List Int)(a:Int)(held:Bool)(w:Z)(h:Qi w w (F A1 n1 c1) (F A2 n2 c2) (F A3 n3 c3) (F A4 n4 c4) S)(hd:ZM w w (F A5 dead.length c5) dead):Calls prog 83 #[.agg (qQ (F A1 n1 c1) (F A2 n2 c2) (F A3 n3 c3) (F A4 n4 c4) gen root next (F A5 dead.length c5)),a,.bool held] w (DataQ S root next dead a held w):=by
 have HI:=λW (hx:Ext w W)=>(show ZM W W.heap.size (F A5 dead.length c5) dead by obtain⟨A,c,e,q1,q2,q3⟩:=hd;exact⟨A,c,e,q1,q2,(q3.below hx).more hx.size⟩)
 have HR:=zH (λW (hx:Ext w W)=>refs_any A1 n1 c1 A2 n2 c2 A3 n3 c3 A4 n4 c4 gen root next A5 c5 S dead W (h.ext hx) (HI W hx));have HN:=zH (λW (hx:Ext w W)=>qms A1 n1 c1 A2 n2 c2 A3 n3 c3 A4 n4 c4 gen root next A5 c5 S dead W (h.ext hx) (HI W hx));replace h:=zH h;clear hd HI;go_enter func83,ntmps83;go_wp2_with fail;generalize hw1:(Od w _)=w1;have x1:Ext w w1:=hw1▸zN _ _;have rp1:w1.heap[w.heap.size]?=O (Y (qQ (F A1 n1 c1) (F A2 n2 c2) (F A3 n3 c3) (F A4 n4 c4) gen root next (F A5 dead.length c5)) 32 (0,0)):=hw1▸zI _ _ _ rfl;clear hw1;refine(HR.out w1 x1).mono ?_;clear HR;rintro e w2 ⟨hB,hQ⟩;have x2:Ext w w2:=Ext.trans x1 hB;have rp2:=qb rp1 hB;clear hB rp1 x1;rcases hQ with⟨rfl,hno⟩|⟨vs,refs,nodes,cb,ca,vv,lo,rfl,hlo,hT⟩
 ·replace hno:=zH hno;go_wp2_with fail;exact VM rfl rfl ⟨x2,.inl ⟨rfl,hno.out⟩⟩
 have kp2:=qa rp2;replace hT:=zH hT;go_wp2_with fail;refine(HN.out w2 x2).mono ?_;clear HN;rintro e w3 ⟨hB,hQ⟩;have x3:Ext w w3:=Ext.trans x2 hB;have rp3:=qb rp2 hB;have rc3:=qb hT.out.row hB;clear hB rp2 x2 kp2;rcases hQ with⟨rfl,hno⟩|⟨vs',refs',nodes',v,lo',rfl,hlo',hp',hc',he',hAD⟩
 obtain⟨refs',nodes',hc',hn'⟩:=hno vs hT.out.pool;exact absurd (qbe hT.out.cnt hc'▸hT.out.enough) hn';obtain rfl:=Qy.same hT.out.pool hp';obtain rfl:=qbe hT.out.cnt hc';obtain⟨An,cn,rfl,-,-⟩:=qM hAD;by_cases hr:8<=a/\a<256
 ·obtain⟨m,hma⟩:=Int.eq_ofNat_of_zero_le (show 0<=a by omega);subst hma;have hm8:8<=m:=zO;have hHG:m<256:=zO;have hE:=dataE_in S refs nodes' hm8 hHG held;obtain⟨b,o,c,e3,hb,hAG⟩:=qaG hp'.may h.out.now;have hcn:=Ext.cell x3 (hAG m hHG);have hrf:=(qa rc3 (6+m)).trans (hT.out.ar.ref m hHG);have hIE:=mem_met (nodes:=nodes') hHG;have HH:=has_any An cn (Ku nodes' 256) (Nat.le_trans (qeU _ _) zO) m w3 (Rd.of_own hAD);cases e3;have kp3:=qa rp3;have d1:decide ((m:Int)<8)=Oe:=decide_eq_false zO;have d2:decide ((m:Int)≥256)=Oe:=decide_eq_false zO;have hQ:=λE (hh:jS S refs nodes' (m:Int) held=E)=>(⟨x3,.inr ⟨vs,refs,nodes',hp',hc',he',by rw[hh]⟩⟩:DataQ S root next dead (m:Int) held w (Q (U Oc E)) w3)
  replace hQ:=zH hQ;have hwn:=zH (IntWalk.wrap64_in (Zy S m:Int) (by have:=(S.now[m]?.getD 0).toNat_lt;unfold Zy;omega));generalize Zy S m=nw at*;generalize refs m=rf at*;clear hT hp' hc' he' hAD hAG hr rc3;by_cases h0:nw=0
  ·have z1:((nw:Int)==0)=I:=by rw[beq_iff_eq];omega
   have z2:decide (nw=0)=I:=decide_eq_true h0;rw[if_pos (.inl h0)]at hE;replace⟨hE,h0,hIE⟩:=zH3 hE h0 hIE;have hw':=hwn.out;go_wp2_with fail;exact VM rfl rfl (hQ.out _ hE.out)
  have z1:((nw:Int)==0)=Oe:=by rw[beq_eq_false_iff_ne];omega
  have z2:decide (nw=0)=Oe:=decide_eq_false h0;by_cases hm:m∈Ku nodes' 256
  ·rw[decide_eq_true hm]at HH;rw[if_pos (.inr (.inl (hIE.1 hm)))]at hE;replace⟨hE,h0,hIE,hm⟩:=zH4 hE h0 hIE hm;have hw':=hwn.out;go_wp2_with fail;refine HH.mono ?_;rintro e w4 ⟨rfl,rfl⟩;go_wp2_with fail;exact VM rfl rfl (hQ.out _ hE.out)
  rw[decide_eq_false hm]at HH;have hm':¬0<nodes' m:=λh=>hm (hIE.2 h);replace⟨hIE,hm⟩:=zH2 hIE hm;cases held
  ·rw[if_neg (λh=>by rcases h with h|h|⟨h,h'⟩;exact h0 h;exact hm' h;cases h)]at hE;replace⟨hE,h0,hm'⟩:=zH3 hE h0 hm';have hw':=hwn.out;go_wp2_with fail;refine HH.mono ?_;rintro e w4 ⟨rfl,rfl⟩;go_wp2_with fail;exact VM rfl rfl (hQ.out _ hE.out)
  by_cases hle:nw<=rf
  ·have z3:decide ((nw:Int)<=(rf:Int))=I:=decide_eq_true zO;have z4:decide (nw<=rf)=I:=decide_eq_true hle;rw[if_pos (.inr (.inr ⟨rfl,hle⟩))]at hE;replace⟨hE,h0,hm',hle⟩:=zH4 hE h0 hm' hle;have hw':=hwn.out;go_wp2_with fail;refine HH.mono ?_;rintro e w4 ⟨rfl,rfl⟩;go_wp2_with fail;exact VM rfl rfl (hQ.out _ hE.out)
  have z3:decide ((nw:Int)<=(rf:Int))=Oe:=decide_eq_false zO;have z4:decide (nw<=rf)=Oe:=decide_eq_false hle;rw[if_neg (λh=>by rcases h with h|h|⟨h',h⟩;exact h0 h;exact hm' h;exact hle h)]at hE;replace⟨hE,h0,hm',hle⟩:=zH4 hE h0 hm' hle;have hw':=hwn.out;go_wp2_with fail;refine HH.mono ?_;rintro e w4 ⟨rfl,rfl⟩;go_wp2_with fail;exact VM rfl rfl (hQ.out _ hE.out)
 have hE:=zH (qlO (S:=S) (refs:=refs) (nodes:=nodes') hr held);have hQ:=λE (hh:jS S refs nodes' a held=E)=>(⟨x3,.inr ⟨vs,refs,nodes',hp',hc',he',by rw[hh]⟩⟩:DataQ S root next dead a held w (Q (U Oc E)) w3)
 replace hQ:=zH hQ;clear hT hp' hc' he' hAD rc3;by_cases h8:a<8
 ·have d1:decide (a<8)=I:=decide_eq_true h8;replace hr:=zH hr;go_wp2_with fail;exact VM rfl rfl (hQ.out _ hE.out)
 have d1:decide (a<8)=Oe:=decide_eq_false h8;have d2:decide (a≥256)=I:=decide_eq_true zO;replace hr:=zH hr;go_wp2_with fail;exact VM rfl rfl (hQ.out _ hE.out)
abbrev Tz:Ob:=.agg (qQ (F Oa 0 0) (F Oa 0 0) (F Oa 0 0) (F Oa 0 0) 0 0 0 (F Oa 0 0))
def Jp(lo:Nat)(S:Sto)(gen root next:Int)(dead:List Int)(u:Ob)(W:Z):Prop:=∃A1 c1 A2 c2 A3 c3 A4 c4 A5 c5,u=.agg (qQ (F A1 S.bs.length c1) (F A2 S.ws.length c2) (F A3 S.now.length c3) (F A4 S.last.length c4) gen root next (F A5 dead.length c5)) /\
 ∀C:Z,PosZ lo W C->Qi C W (F A1 S.bs.length c1) (F A2 S.ws.length c2) (F A3 S.now.length c3) (F A4 S.last.length c4) S/\ZM C W (F A5 dead.length c5) dead
theorem Rd.pos{B size lo n c:Nat}(h:Rd w B size A n xs)(hf:ZV lo (F A n c))(hk:∀(q:Addr)(v:Ob),lo<=q.block->q.block<B->w.cell? q=v->C.cell? q=v):Rd C B size A n xs:=
 ⟨h.1,λhn=>by obtain⟨b,off,rfl,hb,hc⟩:=h.2 hn;exact⟨b,off,rfl,hb,λj u hu=>hk _ _ (hf ⟨b,off,Oa⟩ n c rfl) hb (hc j u hu)⟩⟩
theorem ZM.pos(h:ZM w B v l)(hf:ZV lo v)(hk:∀(q:Addr)(v:Ob),lo<=q.block->q.block<B->w.cell? q=v->C.cell? q=v):ZM C B v l:=by obtain⟨A,c,e,hc,hm,hr⟩:=h;subst e;exact⟨A,c,rfl,hc,hm,Rd.pos hr hf hk⟩
theorem zm.newSto(h:zm lo S u W)(hS:Gm S):NewSto lo S u W:=by obtain⟨BB,WW,g,A3,c3,A4,c4,e,h1,h2,h3⟩:=h;refine⟨_,_,_,_,A3,c3,A4,c4,e,qmw (W:=thaw W) (Φ:=λC=>Qi C W.heap.size _ _ _ _ S) (λA C hAC hA=>hA.some_ hAC) λW2 hk=>?_⟩;obtain⟨k1,k2⟩:=h1.readsT hS.bs hS.ws hS.be hS.we W2 hk;exact⟨k1,k2,(Bys.of_ownT h2).keepN (ZV.of_own h2) hk,(Bys.of_ownT h3).keepN (ZV.of_own h3) hk⟩
theorem ZM.of_ownT(h:w.ownsRow base 3 1 v l.length (qaK l)):ZM (thaw w) w v l:=by obtain⟨A,c,e,hc,hm,hr⟩:=ZM.of_own h;refine⟨A,c,e,hc,hm,hr.1,λhn=>?_⟩;obtain⟨b,off,e2,hb,hcs⟩:=hr.2 hn;obtain⟨cs,t,hAH⟩:=Thaw.of_own h ⟨b,off,Oa⟩ l.length c (by rw[e,e2]) hn;exact⟨b,off,e2,hb,λj u hu=>(YO hAH _).trans (hcs j u hu)⟩
def outN(lo n:Nat)(l:List Int):Qd:=⟨OA×Nat,λp=>F p.1 n p.2,λp W=>ZM (thaw W) W (F p.1 n p.2) l/\ZV lo (F p.1 n p.2)⟩
theorem Jj(lo n:Nat)(l:List Int)(A c):(outN lo n l).f (A,c)=F A n c:=rfl
theorem qip(lo n:Nat)(l:List Int):∀p,zy ((outN lo n l).φ p):=λp W W' he h=>⟨by have h1:=h.1;rw[<-YP W]at h1;have h2:=h1.ext_ (Ext.thaw he);rw[YP]at h2;exact h2,h.2⟩
def jc(S:Sto):Int:=if qk S=I/\16<=(ZK S).length then 0 else 9
structure Two(bp be:Nat)(W W':Z):Prop where
 os:W'.os=W.os
 tape:W'.tape=W.tape
 output:W'.output=W.output
 size:W.heap.size<=W'
 same:∀k,k<W.heap.size->k≠bp->k≠be->W'.heap[k]?=W.heap[k]?
theorem Two.of_ext(h:Ext W W'):Two bp be W W':=⟨h.os,h.tape,h.output,h.size,λk hk _ _=>h.block k hk⟩
theorem Two.below(h:Two bp be W W')(hb:Below B w0 W)(h1:B<=bp)(h2:B<=be)(hB:B<=W):Below B w0 W':=hb.trans ⟨h.os,h.tape,h.output,h.size,λk hk=>h.same k zO zO zO⟩
abbrev XF:Array Ob:=qQ (F Oa 0 0) (F Oa 0 0) (F Oa 0 0) (F Oa 0 0) 0 0 0 (F Oa 0 0)
theorem Two.trans{A B:Z}(h:Two bp be A B)(k:Two bp be B C):Two bp be A C:=⟨k.os.trans h.os,k.tape.trans h.tape,k.output.trans h.output,Nat.le_trans h.size k.size,λi hi h1 h2=>(k.same i (Nat.lt_of_lt_of_le hi h.size) h1 h2).trans (h.same i hi h1 h2)⟩
theorem Two.setP(A:Z)(j:Nat)(v:Ob):Two bp be A (A.setCell (bp,j) v):=⟨rfl,rfl,rfl,zA3,λk _ hk _=>zJ _ _ _ _ hk⟩
theorem Two.setE(A:Z)(j:Nat)(v:Ob):Two bp be A (A.setCell (be,j) v):=⟨rfl,rfl,rfl,zA3,λk _ _ hk=>zJ _ _ _ _ hk⟩
theorem Two.set8(w:Z)(x0 x1 x2 x3 x4 x5 x6 x7:Ob):Two bp be w ((((((((w.setCell bp x0).setCell (bp,1) x1).setCell (bp,2) x2).setCell (bp,3) x3).setCell (bp,4) x4).setCell (bp,5) x5).setCell (bp,6) x6).setCell (bp,7) x7):=
 (Two.setP _ _ _).trans ((Two.setP _ _ _).trans ((Two.setP _ _ _).trans ((Two.setP _ _ _).trans ((Two.setP _ _ _).trans ((Two.setP _ _ _).trans ((Two.setP _ _ _).trans (Two.setP _ _ _)))))))
def RoomyQ(bp be:Nat)(cs:Array Ob)(e:Int)(S:Sto)(W W':Z):Prop:=Two bp be W W' /\
 ((e=0/\jc S=0/\W'.heap[bp]?=O (Y cs 32)/\W'.heap[be]?=O (Y #[U Oc 0] 37)) \/
  ∃e',e'≠0/\((e=0/\e'=jc S)\/(e≠0/\e'=e))/\W'.heap[bp]?=O (Y XF 32)/\W'.heap[be]?=O (Y #[U Oc e'] 37))
set_option maxRecDepth 100000 in
theorem qmC(bp be:Nat)(hne:bp≠be)(A1 n1 c1 A2 n2 c2 A3 n3 c3 A4 n4 c4)(gen root next:Int)(v5:Ob)(e:Int)(S:Sto)(w:Z)(hp:w.heap[bp]?=O (Y (qQ (F A1 n1 c1) (F A2 n2 c2) (F A3 n3 c3) (F A4 n4 c4) gen root next v5) 32 (0,0)))(he:w.heap[be]?=O (Y #[e] 37))(h:e=0->Qi w w (F A1 n1 c1) (F A2 n2 c2) (F A3 n3 c3) (F A4 n4 c4) S):Calls prog 89 #[.pointer bp,.pointer be] w (λx w'=>x=Q (Of #[])/\RoomyQ bp be (qQ (F A1 n1 c1) (F A2 n2 c2) (F A3 n3 c3) (F A4 n4 c4) gen root next v5) e S w w'):=by
 have kp:=qa hp;have ke:=qa he;have fp:=qd hp;have fe:=qd he;by_cases h0:e=0
 ·subst h0;have HF:=qfg A1 n1 c1 A2 n2 c2 A3 n3 c3 A4 n4 c4 S w (h rfl);clear h;go_enter func89,ntmps89;go_wp2_with fail;refine HF.mono ?_;rintro x w2 ⟨hB,hQ⟩;have x2:Ext w w2:=hB;have hp2:=qb hp x2;have he2:=qb he x2;have kp2:=qa hp2;have ke2:=qa he2;have fp2:=qd hp2;have fe2:=qd he2;clear kp ke fp fe hB HF hp he;rcases hQ with⟨hm,rfl⟩|⟨hm,v,rfl,hAD⟩
  ·have hE:jc S=9:=by unfold jc;rw[hm];rfl
   replace⟨hE,hm⟩:=zH2 hE hm;have hQF:¬be=bp:=λe=>hne e.symm;go_wp2_with fail;go_end0;exact⟨rfl,(Two.of_ext x2).trans ((Two.setE _ _ _).trans (Two.set8 _ _ _ _ _ _ _ _ _)),.inr ⟨9,zA1,.inl ⟨rfl,hE.out.symm⟩,VV ((zJ _ _ _ _ hne).trans hp2) _ _ _ _ _ _ _ _,(jY hQF _ _ _ _ _ _ _ _).trans (qj he2 0 _)⟩⟩
  obtain⟨A,c,rfl,-,-⟩:=qM hAD;clear hAD;by_cases hl:(ZK S).length<16
  ·have hE:jc S=9:=by unfold jc;rw[if_neg zO]
   replace hE:=zH hE;have d1:decide (((ZK S).length:Int)<16)=I:=decide_eq_true zO;replace⟨hl,hm⟩:=zH2 hl hm;have hQF:¬be=bp:=λe=>hne e.symm;go_wp2_with fail;go_end0;exact⟨rfl,(Two.of_ext x2).trans ((Two.setE _ _ _).trans (Two.set8 _ _ _ _ _ _ _ _ _)),.inr ⟨9,zA1,.inl ⟨rfl,hE.out.symm⟩,VV ((zJ _ _ _ _ hne).trans hp2) _ _ _ _ _ _ _ _,(jY hQF _ _ _ _ _ _ _ _).trans (qj he2 0 _)⟩⟩
  have hE:jc S=0:=by unfold jc;rw[if_pos ⟨hm,zO⟩]
  replace hE:=zH hE;have d1:decide (((ZK S).length:Int)<16)=Oe:=decide_eq_false zO;replace⟨hl,hm⟩:=zH2 hl hm;go_wp2_with fail;go_end0;exact⟨rfl,Two.of_ext x2,.inl ⟨rfl,hE.out,hp2,he2⟩⟩
 have b0:(e==0)=Oe:=by rw[beq_eq_false_iff_ne];exact h0
 have b1:(e != 0)=I:=by rw[bne_iff_ne];exact h0
 replace⟨h0,hne⟩:=zH2 h0 hne;clear h;go_enter func89,ntmps89;go_wp2_with fail;go_end0;exact⟨rfl,Two.set8 _ _ _ _ _ _ _ _ _,.inr ⟨e,h0.out,.inr ⟨h0.out,rfl⟩,VV hp _ _ _ _ _ _ _ _,(jY (λx=>hne.out x.symm) _ _ _ _ _ _ _ _).trans he⟩⟩
structure XG(bp be ba:Nat)(W W':Z):Prop where
 os:W'.os=W.os
 tape:W'.tape=W.tape
 output:W'.output=W.output
 size:W.heap.size<=W'
 same:∀k,k<W.heap.size->k≠bp->k≠be->k≠ba->W'.heap[k]?=W.heap[k]?
theorem XG.of_two(h:Two bp be W W'):XG bp be ba W W':=⟨h.os,h.tape,h.output,h.size,λk hk h1 h2 _=>h.same k hk h1 h2⟩
theorem XG.set(h:XG bp be ba W W')(v:Ob):XG bp be ba W (W'.setCell ba v):=⟨h.os,h.tape,h.output,by simpa using h.size,λk hk h1 h2 h3=>(zJ _ _ _ _ h3).trans (h.same k hk h1 h2 h3)⟩
theorem XG.below(h:XG bp be ba W W')(hb:Below B w0 W)(h1:B<=bp)(h2:B<=be)(h3:B<=ba)(hB:B<=W):Below B w0 W':=hb.trans ⟨h.os,h.tape,h.output,h.size,λk hk=>h.same k zO zO zO zO⟩
theorem GC{b:Nat}{x0 x1 x2 x3 x4 x5 x6 x7 y z u0 u1 u2 u3 u4 u5 u6 u7 p q:Ob}{ty1:TypeId}(r4:W.heap[b+1]?=O (Y #[u0,u1,u2,u3,u4,u5,u6,u7] ty1))(r5:W.heap[b+2]?=O (Y #[p] ty2))(r6:W.heap[b+3]?=O (Y #[q] ty3))(hC:C=((((((((((W.setCell (b+1,0) x0).setCell (b+1,1) x1).setCell (b+1,2) x2).setCell (b+1,3) x3).setCell (b+1,4) x4).setCell (b+1,5) x5).setCell (b+1,6) x6).setCell (b+1,7) x7).setCell (b+1+1,0) y).setCell (b+1+1+1,0) z)):C.heap[b+1]?=O (Y #[x0,x1,x2,x3,x4,x5,x6,x7] ty1)/\C.heap[b+2]?=O (Y #[y] ty2)/\C.heap[b+3]?=O (Y #[z] ty3)/\(∀{B:Nat}{w0:Z},B<=b+1->Below B w0 W->Below B w0 C)/\C.heap.size=W/\(∀k,k≠b+1->k≠b+2->k≠b+3->C.heap[k]?=W.heap[k]?):=by subst hC;have hs:=λ(A:Z)(b j:Nat)(v:Ob)(k:Nat)(hk:k≠b)=>zJ A ⟨b,j,Oa⟩ v k hk;refine⟨?_,?_,?_,λhB h=>?_,zA3,λk h1 h2 h3=>?_⟩;rw[hs _ _ _ _ _ zO,hs _ _ _ _ _ zO];exact VV r4 x0 x1 x2 x3 x4 x5 x6 x7;rw[hs _ _ _ _ _ zO];refine qj (t:=ty2) (cs:=#[p]) ?_ 0 y;rw[jY zO];exact r5;refine qj (t:=ty3) (cs:=#[q]) ?_ 0 z;rw[hs _ _ _ _ _ zO,jY zO];exact r6;exact Below.setCell (Below.setCell (jM h (b:=b+1) zO x0 x1 x2 x3 x4 x5 x6 x7) (p:=⟨b+1+1,0,Oa⟩) zA2 _) (p:=⟨b+1+1+1,0,Oa⟩) zA2 _;rw[hs _ _ _ _ _ zO,hs _ _ _ _ _ zO,jY zO]
theorem two_rows{b:Nat}{p q p0 q0:Ob}(r5:W.heap[b+2]?=O (Y #[p0] ty2))(r6:W.heap[b+3]?=O (Y #[q0] ty3))(hC:(W.setCell (b+1+1,0) p).setCell (b+1+1+1,0) q=C):C.heap[b+2]?=O (Y #[p] ty2)/\C.heap[b+3]?=O (Y #[q] ty3)/\(∀{B:Nat}{w0:Z},B<=b+1->Below B w0 W->Below B w0 C)/\C.heap.size=W/\(∀k,k≠b+2->k≠b+3->C.heap[k]?=W.heap[k]?):=by subst hC;have hs:=λ(A:Z)(b j:Nat)(v:Ob)(k:Nat)(hk:k≠b)=>zJ A ⟨b,j,Oa⟩ v k hk;refine⟨?_,?_,λhB h=>?_,zA3,λk h2 h3=>?_⟩;rw[hs _ _ _ _ _ zO];exact qj (t:=ty2) (cs:=#[p0]) r5 0 p;refine qj (t:=ty3) (cs:=#[q0]) ?_ 0 q;rw[hs _ _ _ _ _ zO];exact r6;exact Below.setCell (Below.setCell h (p:=⟨b+1+1,0,Oa⟩) zA2 _) (p:=⟨b+1+1+1,0,Oa⟩) zA2 _;rw[hs _ _ _ _ _ zO,hs _ _ _ _ _ zO]
theorem qhR(ws:List (Int×List UInt8))(a r:Int)(l:List UInt8)(h:a≠r):jW (ws++[(a,l)]) r=jW ws r:=by
 unfold jW;rw[List.reverse_append,List.reverse_singleton,List.singleton_append,List.find?_cons];have:(a==r)=Oe:=by rw[beq_eq_false_iff_ne];exact h
 simp only[this]
theorem seen_put(S:Sto){a r:Nat}(l:List UInt8)(h:r≠a):Jm (vI S a l) r=Jm S r:=by unfold Jm vI;simp only;rw[qhR _ _ _ _ (show(a:Int)≠(r:Int)by omega)]
theorem qle(t:List UInt8){a r:Nat}(v:UInt8)(h:r≠a):(t.set a v)[r]?.getD 0=t[r]?.getD 0:=by rw[List.getElem?_set_ne (Ne.symm h)]
theorem qkb(t:List UInt8)(v:UInt8)(h:a<t.length):(t.set a v)[a]?.getD 0=v:=by rw[List.getElem?_set_self h];rfl
theorem sm_put(l:List UInt8)(h0:Zy S a=0)(hl:a<S.now.length):SM S (vI S a l) where
 node r nd e:=by by_cases hr:r=a;subst hr;unfold qm at e;rw[if_pos (show(S.now[r]?.getD 0).toNat=0 from h0)]at e;cases e;unfold qm at e⊢;rw[seen_put S l hr,show(vI S a l).now[r]?.getD 0=S.now[r]?.getD 0 from qle _ _ hr];exact e
 pos r h:=by by_cases hr:r=a;subst hr;rw[show(vI S r l).now[r]?.getD 0=1 from qkb _ _ hl];decide;rw[show(vI S a l).now[r]?.getD 0=S.now[r]?.getD 0 from qle _ _ hr];exact h
theorem qgA{t:List UInt8}(h:∀r:Nat,0<(S.now[r]?.getD 0).toNat->0<(t[r]?.getD 0).toNat):SM S (qu S t) where
 node r nd e:=by unfold qm at e⊢;split at e;cases e;rename_i h1;rw[if_neg (by have:=h r zO;simp only;omega)];exact e
 pos:=h
theorem je{t:List UInt8}(h:Qu t=I)(ha:8<=a)(v:UInt8):Qu (t.set a v)=I:=by unfold Qu at*;simp only[Bool.and_eq_true,decide_eq_true_eq]at*;refine⟨by rw[List.length_set];exact h.1,?_⟩;rw[List.take_set_of_le ha];exact h.2
theorem qE:qk S=I↔Jl S.bs S.ws=I/\Qu S.now=I/\Qu S.last=I:=by unfold qk;simp[Bool.and_eq_true]
theorem may_put(h:qk S=I)(ha:8<=a)(ha2:a<256){l:List UInt8}(hl:l.length=128)(hw:S.ws.length≠4096):qk (vI S a l)=I:=by obtain⟨h1,h2,h3⟩:=qE.1 h;refine qE.2 ⟨?_,je h2 ha 1,h3⟩;unfold Jl headD at*;simp only[Bool.and_eq_true,decide_eq_true_eq,vI,List.length_append,List.length_singleton,List.all_append,List.all_cons,List.all_nil,Bool.and_true]at*;obtain⟨⟨g1,g2⟩,g3,g4⟩:=h1;refine⟨⟨g1,zO⟩,g3,g4,?_⟩;unfold wrOk;exact decide_eq_true ⟨zA3,zA2,hl⟩
theorem qdX(h:¬ZK S=[]):zZ S<256:=by
 have hIE:zZ S∈JV S 256:=by
  show zZ S∈ZK S;unfold zZ;rcases hf:ZK S with _|⟨x,r⟩
  exact absurd hf h;simp
 simpa using(List.mem_filter.1 hIE).1
theorem KF{t:List UInt8}(h:Qu t=I):t.length=256:=by unfold Qu at h;simp only[Bool.and_eq_true,decide_eq_true_eq]at h;exact h.1
theorem qbC{t:List UInt8}(h:Qu t=I):qO t 0=0:=by
 have hl:=KF h;unfold Qu at h;simp only[Bool.and_eq_true]at h;rcases t with _|⟨x,r⟩
 simp at hl;have:=h.2;simp[kJ]at this;simp[qO,this.1]
theorem Gh{t t':List UInt8}(ha:a=0\/8<=a)(h:Qu t=I)(e:Zz t a=.ok t'):Qu t'=I:=by unfold Zz at e;split at e;cases e;exact h;split at e;cases e;split at e;cases e;cases e;exact je h zO _
theorem qdy:∀{l:List Nat}{t t':List UInt8},(∀a∈l,a=0\/8<=a)->Qu t=I->ZI l t=.ok t'->Qu t'=I
 |[],t,t',_,h,e=>by cases e;exact h
 |a::l,t,t',hl,h,e=>by simp only[ZI]at e;split at e;cases e;rename_i t1 e1;exact qdy (λb hb=>hl b (List.mem_cons_of_mem _ hb)) (Gh (hl a List.mem_cons_self) h e1) e
theorem vx:∀{l:List Nat}{t t':List UInt8},(∀a∈l,a=0\/8<=a)->Qu t=I->looseL l t=.ok t'->Qu t'=I
 |[],t,t',_,h,e=>by cases e;exact h
 |a::l,t,t',hl,h,e=>by by_cases ha:a=0;subst ha;rw[ZQ]at e;exact vx (λb hb=>hl b (List.mem_cons_of_mem _ hb)) h e;by_cases h0:qO t a=0;rw[js ha h0]at e;cases e;rw[ZP ha h0]at e;exact vx (λb hb=>hl b (List.mem_cons_of_mem _ hb)) (je h (by have:=hl a List.mem_cons_self;omega) _) e
theorem qgs{its:List It}(h:∀x∈its,itB x.r x.val.length=I):∀a∈qB its,(a=0\/8<=a)/\a<256:=λa ha=>by obtain⟨x,hx,rfl⟩:=List.mem_map.1 ha;have:=h x hx;unfold itB at this;simp only[decide_eq_true_eq]at this;omega
theorem YJ{xs:List It}(h:qm S a=O (lvl,xs)):∀r∈qB xs,(r=0\/8<=r)/\r<256:=qgs λx hx=>((qJ h).2.1 x hx).2
theorem GJ{its:List It}(hS:qk S=I)(h:Zb S lvl its=.ok (f,S')):∃t,Qq lvl its=I/\ZI (qB its) S.now=.ok t/\S.ws.length≠4096/\8<=f/\f<256/\jD (qu S t) f=I/\S'=vI (qu S t) f (Zm (QF lvl its))/\Qu t=I:=by
 unfold Zb at h;split at h;rename_i hm;split at h;cases h;rename_i t ht;split at h;cases h;rename_i hn;cases h;have h1:ZK (qu S t)≠[]:=λe=>hn (.inl e);have hIE:zZ (qu S t)∈ZK (qu S t):=by
  unfold zZ;cases e:ZK (qu S t) with
  |nil=>exact absurd e h1
  |cons a l=>exact List.mem_cons_self
 have hfb:jD (qu S t) (zZ (qu S t))=I:=by have:=List.mem_filter.1 (show zZ (qu S t)∈(List.range 256).filter (jD (qu S t))from hIE);exact this.2
 have h8:8<=zZ (qu S t):=by unfold jD at hfb;simp only[Bool.and_eq_true,decide_eq_true_eq]at hfb;exact hfb.1
 exact⟨t,hm,ht,λe=>hn (.inr e),h8,qdX h1,hfb,rfl,qdy (λa ha=>(qgs (Jh hm).2.2.2 a ha).1) (qE.1 hS).2.1 ht⟩;cases h
theorem YH{its:List It}(hio:∀x∈its,QW x)(hS:qk S=I)(h:Zb S lvl its=.ok (f,S')):qk S'=I/\8<=f/\f<256/\S'.ws.length<=4096:=by obtain⟨t,hm,ht,hw,h8,hf,hfb,rfl,htm⟩:=GJ hS h;have hl:(Zm (QF lvl its)).length=128:=Vx (by have:=XE lvl its.length its.length hio (Jh hm).2.2.1;rw[XC]at this;omega);have h1:=may_put (S:=qu S t) (qE.2 ⟨(qE.1 hS).1,htm,(qE.1 hS).2.2⟩) h8 hf hl hw;exact⟨h1,h8,hf,(qZ h1).2.1⟩
theorem vX(hS:qk S=I){t:List UInt8}(ht:Qu t=I):qk (qu S t)=I:=qE.2 ⟨(qE.1 hS).1,ht,(qE.1 hS).2.2⟩
theorem qcO:∀(h:Nat){lvl:Int}{t t':List UInt8}{a:Nat},(8<=a\/qO t a=0)->Qu t=I->leaveF S h lvl t a=t'->Qu t'=I
 |0,lvl,t,t',a,_,_,e=>by cases e
 |h+1,lvl,t,t',a,ha,ht,e=>by
  rw[vE]at e;split at e;cases e;rename_i h0;have ha8:8<=a:=zO;split at e;cases e;exact je ht ha8 _;split at e;cases e;rename_i l xs hn;have hr:=YJ hn;have ht0:=je ht ha8 0;split at e;cases e;split at e;have key:∀(rs:List Nat),(∀r∈rs,(r=0\/8<=r)/\r<256)->∀(o:Option (List UInt8)),(∀u,o=O u->Qu u=I)->rs.foldl (λacc r=>acc.bind λt=>leaveF S h (l-1) t r) o=t'->Qu t'=I:=by
   intro rs;induction rs with
   |nil=>intro _ o ho e;exact ho _ e
   |cons r rs ih=>
    intro hrs o ho e;rw[List.foldl_cons]at e;refine ih (λq hq=>hrs q (List.mem_cons_of_mem _ hq)) _ (λu hu=>?_) e;cases o with
    |none=>cases hu
    |some t1=>
     have h1:=ho t1 rfl;refine qcO h (a:=r) ?_ h1 hu;rcases(hrs r List.mem_cons_self).1 with rfl|h8
     right;exact qbC h1;exact .inl h8
  exact key _ hr _ (λu hu=>by cases hu;exact ht0) e;split at e;cases e;rename_i t1 e1;cases e;exact vx (λa ha=>(hr a ha).1) ht0 e1
theorem JC{t t':List UInt8}(ha:8<=a)(ht:Qu t=I)(e:QD S lvl t a=t'):Qu t'=I:=qcO 7 (.inl ha) ht e
theorem qaE:∀{ps:List (List It)}{S S':Sto}{up:List It},(∀p∈ps,∀x∈p,QW x)->qk S=I->makeL lvl ps S=.ok (up,S')->qk S'=I/\up.length=ps.length/\∀y∈up,(∃f:Nat,y.r=(f:Int)/\8<=f/\f<256)/\y.val=[]/\∃p∈ps,qz y=jF p
 |[],S,S',up,_,hS,e=>by cases e;exact⟨hS,rfl,λy hy=>by cases hy⟩
 |p::ps,S,S',up,hp,hS,e=>by
  simp only[makeL]at e;split at e;cases e;rename_i f S1 e1;obtain⟨h1,h8,hf,_⟩:=YH (hp p List.mem_cons_self) hS e1;split at e;cases e;rename_i up1 S2 e2;cases e;obtain⟨g1,g2,g3⟩:=qaE (λq hq=>hp q (List.mem_cons_of_mem _ hq)) h1 e2;refine⟨g1,by simp[g2],λy hy=>?_⟩;rcases List.mem_cons.1 hy with rfl|hy
  exact⟨⟨f,rfl,h8,hf⟩,rfl,p,List.mem_cons_self,rfl⟩;obtain⟨k1,k2,q,hq,k3⟩:=g3 y hy;exact⟨k1,k2,q,List.mem_cons_of_mem _ hq,k3⟩
theorem Ty{l:List It}(h:∀x∈l,QW x):∀p∈Zi l,∀x∈p,QW x:=λp hp x hx=>by
 unfold Zi at hp;split at hp;simp only[List.mem_cons,List.not_mem_nil,or_false]at hp;rcases hp with rfl|rfl
 exact h x (List.mem_of_mem_take hx);exact h x (List.mem_of_mem_drop hx);simp only[List.mem_cons,List.not_mem_nil,or_false]at hp;subst hp;exact h x hx
theorem qfW(h:∀x∈p,QW x):(0<=(jF p).1/\(jF p).1<256)/\(0<=(jF p).2.1/\(jF p).2.1<4294967296)/\(0<=(jF p).2.2/\(jF p).2.2<4294967296):=by
 cases p with
 |nil=>exact⟨⟨zA1,zA1⟩,⟨zA1,zA1⟩,zA1,zA1⟩
 |cons x r=>
  obtain⟨h1,h2,h3,_⟩:=h x List.mem_cons_self;exact⟨h1,h2,h3⟩
theorem jV{l held up:List It}(hl:∀x∈l,QW x)(hh:∀x∈held,itB x.r x.val.length=I)(hS:qk S=I)(e:Qr S lvl l held=.ok (up,S')):qk S'=I/\up.length=(Zi l).length/\(∀y∈up,QW y/\itB y.r y.val.length=I)/\∀y∈up,8<=y.r/\y.r<256:=by unfold Qr at e;split at e;cases e;rename_i up1 S1 e1;split at e;cases e;rename_i t e2;cases e;obtain⟨h1,h2,h3⟩:=qaE (Ty hl) hS e1;refine⟨vX h1 (vx (λa ha=>(qgs hh a ha).1) (qE.1 h1).2.1 e2),h2,λy hy=>?_,λy hy=>?_⟩;obtain⟨⟨f,k1,k8,k9⟩,k2,p,hp,k3⟩:=h3 y hy;have:=qfW (Ty hl p hp);rw[<-k3]at this;obtain⟨a1,a2,a3⟩:=this;exact⟨⟨a1,a2,a3,by rw[k1];omega,by rw[k2];simp⟩,by unfold itB;rw[k1,k2];simp;omega⟩;obtain⟨⟨f,k1,k8,k9⟩,_⟩:=h3 y hy;omega
def XT(D:Nat->Prop)(B lo b g:Nat)(k:Option Nat)(S:Sto)(lvl:Int)(l held:List It)(w:Z)(e:Ending)(W:Z):Prop:=Ql lo b g k w W /\
 match Qr S lvl l held with
 |.error er=>e=Q (Of #[F Oa 0 0,er])
 |.ok (up,S')=>∃k' D' A c,e=Q (Of #[F A up.length c,U Oc 0])/\Zq w k k'/\Yj w D D'/\Bch D' B lo b g k' S' W/\qk S'=I/\W.ownsRow w 51 5 (F A up.length c) up.length (qG (upV up))/\∀q,(Value.slice A up.length c).ownBlock=O q->¬D' q
theorem XT.bad{B lo b g:Nat}{l held:List It}(h:Qr S lvl l held=.error er)(hB:Ql lo b g k w W):XT D B lo b g k S lvl l held w (Q (Of #[F Oa 0 0,er])) W:=by refine⟨hB,?_⟩;rw[h]
structure BdI(D:Nat->Prop)(B lo b g:Nat)(k:Option Nat)(S:Sto)(lvl:Int)(ps:List (List It))(P:Nat)(pv:List Ob)(w:Z)(v i:Ob)(wr:Z):Prop where
 ex:∃(j:Nat)(ups:List It)(S':Sto)(k':Option Nat)(D':Nat->Prop)(Av:OA)(cv:Nat),j<=ps.length/\i=U Oc (j:Int)/\v=F Av j cv/\ups.length=j/\makeL lvl (ps.take j) S=.ok (ups,S')/\qk S'=I/\Zq w k k'/\Yj w D D'/\Bch D' B lo b g k' S' wr/\Ql lo b g k w wr /\
  wr.ownsRow w 51 5 (F Av j cv) j (qG (upV ups))/\(∀q,(Value.slice Av j cv).ownBlock=O q->¬D' q/\P<q)/\wr.heap[P]?=O (Y pv.toArray 55)/\P<wr
structure HdI(D:Nat->Prop)(B lo b g:Nat)(k:Option Nat)(S:Sto)(held:List It)(vu:Ob)(wm:Z)(v i:Ob)(wr:Z):Prop where
 ex:∃(j:Nat)(t:List UInt8),v=vu/\j<=held.length/\i=U Oc (j:Int)/\looseL (qB (held.take j)) S.now=.ok t/\Bch D B lo b g k (qu S t) wr/\Ql lo b g k wm wr
theorem qas{a:Act}(h8:a.tmps[8]?.getD undef=u)(h9:a.tmps[9]?.getD undef=v)(hd:a.defers=[])(hR:R (Q (Of #[u,v])) W):bodyPost prog Tryz.f130 R .ret a W:=by refine bodyPost_ret (v:=Of #[u,v]) ?_ hd hR;simp[results,results130,go_sem,h8,h9]
set_option maxRecDepth 100000 in
theorem qex(D:Nat->Prop)(B lo b g:Nat)(k:Option Nat)(S:Sto)(hS:qk S=I)(lvl:Int)(A n c)(its:List It)(hio:∀x∈its,QW x)(hn0:0<its.length)(hn1:its.length<=100)(loh:Nat)(vh:Ob)(hps:List (It×Ob))(held:List It)(hhm:hps.map (·.1)=held)(hh1:∀p∈hps,∃A c,p.2=F A p.1.val.length c)(hhr:∀x∈held,(x.r=0\/8<=x.r)/\x.r<256)(hhl:held.length<=100)(w:Z)(h:Bch D B lo b g k S w)(hx:Kk (B3 b g k) w (F A n c) its)(hho:w.ownsRow loh 51 5 vh held.length (qG hps)):Calls prog 130 #[.pointer b,lvl,F A n c,vh] w (XT D B lo b g k S lvl its held w):=by
 obtain⟨hlb,hzb,hlg,hzg,hgb,hlw,hkq⟩:=h.size;obtain⟨hnn,hnc,hcm,hA⟩:=hx.now.at_;subst hnn;obtain⟨bi,off,rfl,hbi⟩:=hA zO;obtain⟨Ah,ch,rfl,hcc1,hcc2⟩:=qM hho;clear hA hkq;replace⟨h,hx,hio,hcm,hcc2,hho⟩:=zH6 h hx hio hcm hcc2 hho;rcases Nat.lt_or_ge 5 its.length with h5|h5
 case' inl=>
  have hpo:=zH (show Zi its=[its.take 3,its.drop 3]by unfold Zi;exact if_pos h5);have e5:decide ((5:Int)<(its.length:Int))=I:=decide_eq_true zO;go_enter func130,ntmps130;go_upto_region 3 with fail;generalize hw0:Od _ _=w0;have x0:Ext w w0:=hw0▸zN _ _;have z0:w.heap.size<w0:=by rw[<-hw0];simp
  clear hw0;refine qw zQ ?_;refine Qb (w:=w0) qp (qV []) (List.replicate 4 I) 2 zQ zQ zQ zQ zQ zQ zQ ?st (Rel.drew _ _) ?walk
  case' st=>exact ql (λ_ h=>by cases h)
  case' walk=>
   intro K hK;dsimp only[qA,List.replicate];refine zC3 ?_;refine qe (F (O ⟨bi,off,Oa⟩) 3 c) zA0 zA0 (λW hW _=>⟨W,?_,Rel.refl _ W⟩) ?_
   ·go_simp;intro hc3;exfalso;omega
   refine zC3 ?_;refine qe (F (O ⟨bi,off+3*5,Oa⟩) (its.length-3) (c-3)) zA0 zA0 (λW hW _=>⟨W,?_,Rel.refl _ W⟩) ?_
   ·go_simp;rw[if_pos zO,if_neg zO]
   refine zC3 ?_;refine qF (hK _ _ λW hW hF=>?_);clear hF hK;have hW:Ext w0 W:=hW;refine zB8 ?_;go_wp2;refine Qt ?_;go_wp2_with fail;have x1:Ext w (W.alloc (Y #[F (bi,off) 3 c,F (bi,off+15) (its.length-3) (c-3)] 55)):=(x0.trans hW).trans (zN _ _);have zP0:w.heap.size<=W:=(x0.trans hW).size;obtain⟨ps,hpe⟩:∃ps,ps=[its.take 3,its.drop 3]:=⟨_,rfl⟩
   obtain⟨pv,hpv⟩:∃pv:List Ob,pv=[F (bi,off) 3 c,F (bi,off+15) (its.length-3) (c-3)]:=⟨_,rfl⟩
   have hpl:ps.length=2:=by rw[hpe];rfl
   have hel:Hid (∀j (hj:j<ps.length),∃bj oj cj,pv[j]?=O (F (O ⟨bj,oj,Oa⟩) ps[j].length cj)/\Kk (B3 b g k) w (F (O ⟨bj,oj,Oa⟩) ps[j].length cj) ps[j]/\0<ps[j].length/\∀x∈ps[j],QW x):=zH λj hj=>by
    have e3:(its.take 3).length=3:=by rw[List.length_take];omega
    rcases j with _|_|j
    subst hpe hpv;refine⟨bi,off,c,?_,?_,?_,λx hxm=>hio.out x (List.mem_of_mem_take hxm)⟩;simp only[List.getElem_cons_zero,e3];rfl;simp only[List.getElem_cons_zero,e3];exact hx.out.take zO;simp only[List.getElem_cons_zero,e3];omega;subst hpe hpv;refine⟨bi,off+15,c-3,?_,?_,?_,λx hxm=>hio.out x (List.mem_of_mem_drop hxm)⟩;simp only[List.getElem_cons_succ,List.getElem_cons_zero,List.length_drop];rfl;simp only[List.getElem_cons_succ,List.getElem_cons_zero,List.length_drop];exact hx.out.drop (k:=3) zO;simp only[List.getElem_cons_succ,List.getElem_cons_zero,List.length_drop];omega;omega
   have hPr:(W.alloc (Y #[F (bi,off) 3 c,F (bi,off+15) (its.length-3) (c-3)] 55)).heap[W.heap.size]?=O (Y pv.toArray 55):=by rw[hpv];exact zI _ _ _ rfl
   have wGW:=zH (hpo.out.trans hpe.symm);clear hpe hpv hpo h5 e5 x0 z0 hW;generalize Od W _=w1 at*;generalize W.heap.size=P at*;generalize Value.slice (O ⟨bi,off+15,Oa⟩) (its.length-3) (c-3)=v26;generalize Value.slice (O ⟨bi,off,Oa⟩) 3 c=v24;generalize Value.slice (O ⟨w.heap.size,0,Oa⟩) 1 1=v19
 case' inr=>
  have hpo:=zH (show Zi its=[its]by unfold Zi;exact if_neg zO);have e5:decide ((5:Int)<(its.length:Int))=Oe:=decide_eq_false zO;go_enter func130,ntmps130;go_wp2_with fail;have x1:Ext w (w.alloc (Y #[F (bi,off) its.length c] 55)):=zN _ _;obtain⟨ps,hpe⟩:∃ps,ps=[its]:=⟨_,rfl⟩
  obtain⟨pv,hpv⟩:∃pv:List Ob,pv=[F (bi,off) its.length c]:=⟨_,rfl⟩
  have hpl:ps.length=1:=by rw[hpe];rfl
  have hel:Hid (∀j (hj:j<ps.length),∃bj oj cj,pv[j]?=O (F (O ⟨bj,oj,Oa⟩) ps[j].length cj)/\Kk (B3 b g k) w (F (O ⟨bj,oj,Oa⟩) ps[j].length cj) ps[j]/\0<ps[j].length/\∀x∈ps[j],QW x):=zH λj hj=>by
   rcases j with _|j
   subst hpe hpv;exact⟨bi,off,c,rfl,hx.out,hn0,hio.out⟩;omega
  have hPr:(w.alloc (Y #[F (bi,off) its.length c] 55)).heap[w.heap.size]?=O (Y pv.toArray 55):=by rw[hpv];exact zI _ _ _ rfl
  have wGW:=zH (hpo.out.trans hpe.symm);obtain⟨P,hPP⟩:∃P,P=w.heap.size:=⟨_,rfl⟩
  rw[<-hPP]at hPr;clear hpe hpv hpo h5 e5;generalize Od w _=w1 at*;have zP0:w.heap.size<=P:=zO;simp only[<-hPP];clear hPP
 all_goals
  clear hx hio hbi hnc hcm;go_loopw [8,30] (λv i wr=>BdI D B lo b g k S lvl ps P pv w v i wr) (λ_ i _=>ps.length-(intOf i).toNat)
  case atStart=>exact⟨0,[],S,k,D,Oa,0,Nat.zero_le _,rfl,rfl,rfl,rfl,hS,Zq.refl _ _,Yj.refl _ _,h.out.ext x1,Ql.of_ext x1 hlw,World.ownsRow_nil _ _ _ _,(λq hq=>by cases hq),hPr,(zG.1 hPr).1⟩
  case round=>
   obtain⟨j,ups,S',k',D',Av,cv,hj,rfl,rfl,hul,hml,hS',hNk,hND,hbc,hbk,hAD,hoD,hPw,hPz⟩:=hrel.ex;clear hrel hPr;have hws:=(qZ hS').2.1;by_cases hlt:j<ps.length
   ·obtain⟨bj,oj,cj,hpvj,hxj,hEJ,wFW⟩:=hel.out j hlt;have kP:wr.cell? (P,j)=O (F (bj,oj) ps[j].length cj):=by rw[qa hPw];simpa using hpvj
    have hxr:=hxj.trans hbk.keepX (B3.of_new hNk);have HM:=zH (qar D' B lo b g k' S' lvl (O ⟨bj,oj,Oa⟩) ps[j].length cj ps[j] wFW hws wr hbc hxr);have hEN:=zH (λe h1=>qmk hlt (e:=e) hml h1);have hCP:=zH (λf S'' h1=>qjW hlt (f:=f) (S'':=S'') hml h1);have hmay:=zH (λf S'' (h1:Zb S' lvl ps[j]=.ok (f,S''))=>(YH wFW hS' h1).1);have hxr:=zH hxr;have d1:∀M:Int,M=(ps.length:Int)->decide ((j:Int)<M)=I:=λM hM=>decide_eq_true zO;have d3:∀M:Nat,M=ps.length->j<M:=λM hM=>zO
    first
     |(have d2:=d1 2 (by rw[hpl];rfl);have hjn:=d3 2 hpl.symm)
     |(have d2:=d1 1 (by rw[hpl];rfl);have hjn:=d3 1 hpl.symm)
    have hj1:=zH (IntWalk.wrap64_in ((j:Int)+1) zO);replace hpl:=zH hpl;generalize ps[j]=p at*;generalize hnj:p.length=nj at*;replace hnj:=zH hnj;clear hpvj wFW hxj d1 d3 hml hS' hws;go_wp2_with fail;refine HM.out.mono ?_;clear HM;rintro e wM ⟨hkM,hAP⟩;have zwr:=hbk.below.size;have zM:=hkM.below.size;have nB:∀{q cs ty fr},wr.heap[q]?=O (Y cs ty fr)->ty≠223->ty≠5->ty≠142->¬B3 b g k' q:=λhr h1 h2 h3=>hbc.notB3 hr h1 h2 h3;have hVN:=hkM.own hAD (λq hq=>by obtain⟨cur,hc⟩:=ZH hAD hq;exact nB hc zA1 zA1 zA1);have hPM:=hkM.row hPw (nB hPw zA1 zA1 zA1);have hOW:=hbk.trans hkM hNk;rcases hmx:Zb S' lvl p with er|⟨f,S''⟩
    ·rw[hmx]at hAP;have hq:=zH (show Qr S lvl its held=.error er by unfold Qr;rw[wGW.out,hEN.out er hmx]);have hne:(er != 0)=I:=by rw[bne_iff_ne];exact YG hmx
     have hAP:e=Q (Of #[U Oc 0,er]):=hAP;subst hAP;clear hCP hmay hEN hmx hVN hPM hAD hPw hoD nB hbc hkM hel kP;replace hOW:=zH hOW;go_wp2_with fail;exact qas rfl rfl rfl (XT.bad hq.out hOW.out)
    rw[hmx]at hAP;obtain⟨rfl,k'',D'',hN2,hD2,hb2⟩:e=Q (Of #[(f:Int),U Oc 0])/\∃k'' D'',Zq wr k' k''/\Yj wr D' D''/\Bch D'' B lo b g k'' S'' wM:=hAP;have hml2:=hCP.out f S'' hmx;have hS2:=hmay.out f S'' hmx;obtain⟨A',c',g0,g1,g2,-,-,-⟩:=((hxr.out.trans hkM.keepX (B3.of_new hN2)).now).item 0 (by rw[hnj.out];exact hEJ);have hk0:jF p=((p[0]'(by rw[hnj.out];exact hEJ)).k,(p[0]'(by rw[hnj.out];exact hEJ)).i,(p[0]'(by rw[hnj.out];exact hEJ)).o):=by
     have h0:0<p.length:=by rw[hnj.out];exact hEJ
     rcases p with _|⟨y,r⟩
     simp at h0;rfl
    generalize p[0]'(by rw[hnj.out];exact hEJ)=y at*;simp only[Nat.zero_mul,Nat.add_zero]at g0 g1 g2;have hN':Zq w k k'':=hNk.trans hN2 zO;have hDn':Yj w D D'':=hND.trans hD2 zO;have hoq:∀q,(Value.slice Av j cv).ownBlock=O q->w.heap.size<=q/\q<wr.heap.size:=λq hq=>zl hAD q hq;have hBM:∀(v':Ob)(W:Z),W.ownsRow w.heap.size 51 5 v' (j+1) (qG (upV ups)++[U .u8 y.k,U .u32 y.i,U .u32 y.o,U Oc (f:Int),F Oa 0 0])->wM.grownBy W (Value.slice Av j cv).ownBlock->Below w.heap.size wM W->(v'.ownBlock=(Value.slice Av j cv).ownBlock\/∃g,v'.ownBlock=O g/\wM.heap.size<=g) ->
      BdI D B lo b g k S lvl ps P pv w v' (U Oc ((j:Int)+1)) W:=λv' W hBV hg hB hat=>by
     obtain⟨A7,c7,rfl,-,-⟩:=qM hBV;have hAH:∀q,q<wM.heap.size->¬OwnX (F Av j cv) q->W.heap[q]?=wM.heap[q]?:=λq hq hX=>hg.block q hq λe=>hX e.symm;have hbl:=hb2.blo;have hzW:=hg.size;have hDq:∀q,(Value.slice Av j cv).ownBlock=O q->¬D'' q:=λq hq hd=>(hD2 q hd).elim (λh1=>(hoD q hq).1 h1) λh1=>by have:=(hoq q hq).2;omega
     refine⟨j+1,ups++[jG (jF p) f],S'',k'',D'',A7,c7,zO,rfl,rfl,by simp[hul],hml2,hS2,hN',hDn',?_,?_,?_,?_,?_,zO⟩;refine hb2.keepX (X:=OwnX (F Av j cv)) (Below.mono hB zO) hAH (λq hq hX=>?_);rcases hq with hq|hq
     obtain⟨cur,hc⟩:=ZH hVN (show _=O q from hX);exact hb2.notB3 hc zA1 zA1 zA1 hq;exact hDq q hX hq;refine⟨hOW.below.trans (Below.mono hB hlw),λq hq hn=>(hAH q zO λhX=>?_).trans (hOW.rows q hq hn)⟩;have:=(hoq q hX).1;omega;rw[upV_item];have:jG (jF p) f=⟨y.k,y.i,y.o,(f:Int),[]⟩:=by rw[hk0];rfl
     rw[this];exact hBV;intro q hq;rcases hat with e1|⟨g',e1,e2⟩
     rw[e1]at hq;exact⟨hDq q hq,(hoD q hq).2⟩;rw[e1]at hq;obtain rfl:g'=q:=by simpa using hq
     exact⟨λhd=>by have:=(hb2.dB g' hd).2.1;omega,zO⟩;refine(hAH P zO λhX=>?_).trans hPM;have:=(hoD P hX).2;omega
    replace hBM:=zH hBM;obtain⟨i0,hi,hz0,hz1,hz2⟩:=info_parts Tryz.info_item;have hzz:w.heap.size<=wM:=zO;clear hCP hmay hEN hmx hPM hAD hPw hoD nB hbc hkM hel kP hoq hb2 hN2 hD2 hml2 hS2 hOW hN' hDn' hk0;go_wp2_with (at_builtin;refine Qa ?_);refine Qs.go (ZB wM rfl (.tmp 45) (.tmp 52) 55 rfl w.heap.size 51 i0 _ 5 48 underlying55 hi hz0 hz1 hz2 rfl zA1 (F Av j cv) j (qG (upV ups)) zE hVN #[U .u8 y.k,U .u32 y.i,U .u32 y.o,U Oc (f:Int),F Oa 0 0] zE rfl zA8 zO zA1 hzz ?_);intro v' W hBV hg hB hat;have hF:=zH (hBM.out v' W hBV hg hB hat);clear hBM hBV hg hB hat hVN hi;go_wp2_with fail;try rw[hj1.out]
    refine⟨hF.out,?_⟩;simp[intOf];omega
   obtain rfl:j=ps.length:=zO;rw[List.take_length]at hml;have d1:∀M:Int,M=(ps.length:Int)->decide (((ps.length:Nat):Int)<M)=Oe:=λM hM=>decide_eq_false zO
   first
    |have d2:=d1 2 (by rw[hpl];rfl)
    |have d2:=d1 1 (by rw[hpl];rfl)
   replace hpl:=zH hpl;have hbX:Hid (Qr S lvl its held=match looseL (qB held) S'.now with
    |.error e=>.error e
    |.ok t=>.ok (ups,qu S' t)):=zH (by unfold Qr;simp only[wGW.out,hml]<;>rfl)
   have hhm':=hho.out;have wBT:=hbk.own hho.out (λq hq=>by obtain⟨cur,hc⟩:=ZH hho.out hq;exact h.out.notB3 hc zA1 zA1 zA1);clear hPw hPz hel hml d1 hhm';replace⟨hbk,hAD,hoD,hbc⟩:=zH4 hbk hAD hoD hbc;generalize hwm:wr=wm at*;clear hwm;go_wp2_with fail;go_loopw [8,57] (λv i wr=>HdI D' B lo b g k' S' held (F Av ps.length cv) wm v i wr) (λ_ i _=>held.length-(intOf i).toNat)
   case atStart=>exact⟨0,S'.now,rfl,Nat.zero_le _,rfl,rfl,hbc.out,Ql.refl _ _ _ _ _⟩
   case round=>
    obtain⟨j,t,rfl,hj,rfl,hlo,hbt,hbm⟩:=hrel.ex;clear hrel;have hkA:=zH (hbk.out.trans hbm hNk);by_cases hlt:j<held.length
    ·have hlp:j<hps.length:=by rw[<-hhm,List.length_map]at hlt;exact hlt
     have hor:=hbm.own wBT (λq hq=>by obtain⟨cur,hc⟩:=ZH wBT hq;exact hbc.out.notB3 hc zA1 zA1 zA1);obtain⟨bh,offh,rfl,hbh,hch⟩:=(Rd.of_own hor).2 zO;obtain⟨g0,g1,g2,g3,g4⟩:=Vs hps j hlp;replace g0:=hch _ _ g0;replace g1:=hch _ _ g1;replace g2:=hch _ _ g2;replace g3:=hch _ _ g3;replace g4:=hch _ _ g4;rw[<-Nat.add_assoc]at g1 g2 g3 g4;obtain⟨Ax,cx,hx2⟩:=hh1 hps[j] (List.getElem_mem hlp);have hxe:hps[j].1=held[j]:=by simp only[<-hhm,List.getElem_map]
     rw[hx2]at g4;rw[hxe]at g0 g1 g2 g3 g4;have hrr:=hhr held[j] (List.getElem_mem hlt);have hEN:=zH (λh0 h1=>qcP hlt hlo h0 h1);have hCP:=zH (λh0 h1=>qbp hlt hlo h0 h1);have hIZ:=zH (λh0=>qbq hlt hlo h0);generalize held[j]=x at*;have hj1:=zH (IntWalk.wrap64_in ((j:Int)+1) zO);obtain⟨a,hra⟩:∃a:Nat,x.r=(a:Int):=⟨x.r.toNat,zO⟩
     have ha9:a<256:=zO;have hsa:(x.r).toNat=a:=zO;rw[hra]at g3;rw[hsa]at hEN hCP hIZ;have hz:=hbt.size.2.2.2.2.2.1;have HL:=zH (λW (hW:Ext wr W)=>Tc D' B lo b g k' (qu S' t) a ha9 W (hbt.ext hW));replace⟨hbt,hbm⟩:=zH2 hbt hbm;clear hch hx2 hxe hor hra hsa hrr hlo wBT hlp;rcases Nat.eq_zero_or_pos a with ha0|ha0
     ·subst ha0;have hF:HdI D' B lo b g k' S' held (F Av ps.length cv) wm (F Av ps.length cv) (U Oc ((j:Int)+1)) (wr.alloc (Y #[U .u8 x.k,U .u32 x.i,U .u32 x.o,U Oc 0,F Ax x.val.length cx] 51)):=⟨j+1,t,rfl,zO,rfl,hIZ.out rfl,hbt.out.ext (zN _ _),hbm.out.trans (Ql.of_ext (zN _ _) hz) (Zq.refl _ _)⟩
      replace hF:=zH hF;clear hEN hCP hIZ HL;go_wp2_with fail;try rw[hj1.out]
      refine⟨hF.out,?_⟩;simp[intOf];omega
     have hza:((a:Int)==0)=Oe:=by rw[beq_eq_false_iff_ne];omega
     replace ha0:=zH ha0;go_wp2_with fail;generalize hwa:Od _ _=wa;have xa:Ext wr wa:=hwa▸zN _ _;clear hwa g0 g1 g2 g3 g4;refine(HL.out wa xa).mono ?_;clear HL;rintro e wl ⟨hkl,hAP⟩;have hQA:=hbm.out.trans ((Ql.of_ext xa hz).trans hkl (Zq.refl _ _)) (Zq.refl _ _);rcases hAP with⟨hc0,rfl⟩|⟨hc0,rfl,hbl⟩
     ·have hq:=zH (show Qr S lvl its held=.error 6 by rw[hbX.out,hEN.out (by have:=ha0.out;omega) hc0]);have hkB:=zH (hbk.out.trans hQA hNk);clear hbX hEN hCP hIZ hkl hQA hc0 hkA;go_wp2_with fail;exact qas rfl rfl rfl (XT.bad hq.out hkB.out)
     have hF:HdI D' B lo b g k' S' held (F Av ps.length cv) wm (F Av ps.length cv) (U Oc ((j:Int)+1)) wl:=⟨j+1,_,rfl,zO,rfl,hCP.out (by have:=ha0.out;omega) hc0,hbl,hQA⟩
     replace hF:=zH hF;clear hbX hEN hCP hIZ hkl hQA hc0 hbl hkA;go_wp2_with fail;try rw[hj1.out]
     refine⟨hF.out,?_⟩;simp[intOf];omega
    obtain rfl:j=held.length:=zO;rw[List.take_length]at hlo;have hq:Qr S lvl its held=.ok (ups,qu S' t):=by rw[hbX.out,hlo]
    have hPB:=vX hS' (vx (λa ha=>by obtain⟨x,hxm,rfl⟩:=List.mem_map.1 ha;have:=hhr x hxm;omega) (qE.1 hS').2.1 hlo);have hor:=hbm.own hAD.out (λq hq=>by obtain⟨cur,hc⟩:=ZH hAD.out hq;exact hbc.out.notB3 hc zA1 zA1 zA1);have hR:XT D B lo b g k S lvl its held w (Q (Of #[F Av ps.length cv,U Oc 0])) wr:=by refine⟨hkA.out,?_⟩;rw[hq];refine⟨k',D',Av,cv,by rw[hul],hNk,hND,hbt,hPB,?_,?_⟩;rw[hul];exact hor;rw[hul];exact λq hq=>(hoD.out q hq).1
    replace hR:=zH hR;clear hor hPB hq hbt hbm hlo hbX hkA wBT;go_wp2_with fail;exact qas rfl rfl rfl hR.out
def Jn(D:Nat->Prop)(B lo b g:Nat)(k:Option Nat)(S:Sto)(a:Nat)(w:Z)(e:Ending)(W:Z):Prop:=Ql lo b g k w W /\
 match QD S (-1) S.now a with
 |none=>e=Q (U Oc 8)
 |some t=>e=Q (U Oc 0)/\Bch D B lo b g k (qu S t) W
theorem Jn.bad{B lo b g:Nat}(h:QD S (-1) S.now a=Oa)(hB:Ql lo b g k w W):Jn D B lo b g k S a w (Q (U Oc 8)) W:=by refine⟨hB,?_⟩;rw[h]
theorem Jn.good{B lo b g:Nat}{t:List UInt8}(h:QD S (-1) S.now a=t)(hB:Ql lo b g k w W)(hb:Bch D B lo b g k (qu S t) W):Jn D B lo b g k S a w (Q (U Oc 0)) W:=by refine⟨hB,?_⟩;rw[h];exact⟨rfl,hb⟩
structure L0I(D:Nat->Prop)(B lo b g:Nat)(k:Option Nat)(S:Sto)(t0:List UInt8)(xs:List It)(wB:Z)(v i:Ob)(wr:Z):Prop where
 ex:∃(j:Nat)(t:List UInt8),v=U Oc 0/\j<=xs.length/\i=U Oc (j:Int)/\looseL (qB (xs.take j)) t0=.ok t/\Bch D B lo b g k (qu S t) wr/\Ql lo b g k wB wr
theorem Bch.fresh{B lo b g:Nat}(h0:Bch D B lo b g k S w0)(h:Bch D B lo b g k S' w)(hx:Below w0 w W):Bch D B lo b g k S' W:=by have h6:=h0.size.2.2.2.2.2.1;have h1:=h0.blo;exact h.keep (Below.mono hx zO) λq hq=>hx.block q (hq.elim (λh2=>(h0.b3 q h2).2) λh2=>(h0.dB q h2).2.1)
def Ta(S:Sto)(x:It):Int:=if itB x.r x.val.length=I then(if x.r≠0/\Zy S x.r.toNat=0 then 6 else 0)else 8
abbrev itV(x:It)(A:OA)(c:Nat):Ob:=.agg #[U .u8 x.k,U .u32 x.i,U .u32 x.o,U Oc x.r,F A x.val.length c]
set_option maxRecDepth 100000 in
theorem qkf(A1 n1 c1 A2 n2 c2 A3 n3 c3 A4 n4 c4)(S:Sto)(hS:qk S=I)(a lvl:Nat)(xs:List It)(ha:8<=a)(ha2:a<256)(hn:qm S a=O ((lvl:Int),xs))(hsp:(qC S lvl xs).isSome=I)(x:It)(Ax:OA)(cx:Nat)(w:Z)(hst:Qi w w (F A1 n1 c1) (F A2 n2 c2) (F A3 n3 c3) (F A4 n4 c4) S):Calls prog 126 #[Qp A1 n1 c1 A2 n2 c2 A3 n3 c3 A4 n4 c4,(a:Int),itV x Ax cx] w (Ret (U Oc (Ta S x)) w):=by
 have HCK:=zH (λW (hx:Ext w W)=>UV A1 n1 c1 A2 n2 c2 A3 n3 c3 A4 n4 c4 S hS a ⟨ha,ha2,lvl,xs,hn,hsp⟩ W (hst.ext hx));have HIC:=zH (λW=>Jz x.k x.i x.o x.r Ax x.val.length cx W);have wGR:=qaG hS hst.now;obtain⟨b3,o3,cc3,e3,hb3,hk3⟩:=wGR;simp only[Value.slice.injEq]at e3;obtain⟨rfl,rfl,rfl⟩:=e3;have hk3:=zH hk3;obtain⟨q,hq⟩:∃q,Ta S x=q:=⟨_,rfl⟩
 rw[hq];replace hq:=zH hq;clear hst hn hsp ha ha2;go_enter func126,ntmps126;go_wp2_with fail;generalize hw1:(Od (Od w _) _)=w1;have x1:Ext w w1:=by rw[<-hw1];exact(zN _ _).trans (zN _ _)
 have rs1:w1.heap[w.heap.size]?=O (Y #[F A1 n1 c1,F A2 n2 c2,F (b3,o3) 256 c3,F A4 n4 c4] 28):=by rw[<-hw1];exact(zK _ _ _ zA3).trans (zI _ _ _ rfl)
 have ri1:w1.heap[w.heap.size+1]?=O (Y #[U .u8 x.k,U .u32 x.i,U .u32 x.o,U Oc x.r,F Ax x.val.length cx] 51):=hw1▸zI _ _ _ zA3;clear hw1;refine(HCK.out w1 x1).mono ?_;clear HCK;rintro e w2 ⟨u,rfl,⟨m,rfl⟩,hB⟩;have x2:Ext w w2:=Ext.trans x1 hB;have rs2:=qb rs1 hB;have ri2:=qb ri1 hB;have ki2:=qa ri2;clear rs1 ri1 hB x1;go_wp2_with fail;refine(HIC.out w2).mono ?_;clear HIC;rintro e w3 ⟨rfl,hB⟩;have x3:Ext w w3:=Ext.trans x2 hB;have rs3:=qb rs2 hB;have ri3:=qb ri2 hB;have ki3:=qa ri3;have ks3:=qa rs3;clear rs2 ri2 hB x2 ki2;cases hit:itB x.r x.val.length
 ·have hqq:q=8:=by rw[<-hq.out];unfold Ta;rw[hit];rfl
  subst hqq;rw[vl rfl];go_wp2_with fail;go_ret;exact⟨rfl,x3⟩
 have hrr:x.r=0\/(8<=x.r/\x.r<256):=by unfold itB at hit;simp at hit;exact hit.1
 have hqq:Hid (q=if x.r≠0/\Zy S x.r.toNat=0 then 6 else 0):=zH (by rw[<-hq.out];unfold Ta;rw[if_pos hit]);rw[show JQ I=0 from rfl];replace hit:=zH hit;clear hq;rcases hrr with hr0|hr1
 ·have hq0:=zH (show q=0 by rw[hqq.out,if_neg (λh=>h.1 hr0)]);rw[hr0]at ki3;clear hqq rs3 ri3;go_wp2_with fail;go_ret;exact⟨by rw[hq0.out];rfl,x3⟩
 obtain⟨r,hra⟩:∃r:Nat,x.r=(r:Int):=⟨x.r.toNat,zO⟩
 have hPE:r<256:=zO;have hr8:8<=r:=zO;have hkr:=Ext.cell x3 (hk3.out r hPE);rw[hra]at ki3;rw[hra,Int.toNat_natCast]at hqq;have hz2:((r:Int)!=0)=I:=by rw[bne_iff_ne];omega
 generalize Zy S r=nv at*;clear hra hr1 rs3 ri3;by_cases h0:nv=0
 ·have hq0:=zH (show q=6 by rw[hqq.out,if_pos ⟨zO,h0⟩]);subst h0;clear hqq;go_wp2_with fail;go_ret;exact⟨by rw[hq0.out];rfl,x3⟩
 have hq0:=zH (show q=0 by rw[hqq.out,if_neg (λh=>h0 h.2)]);have hy1:((nv:Int)==0)=Oe:=by rw[beq_eq_false_iff_ne];omega
 replace h0:=zH h0;clear hqq;go_wp2_with fail;go_ret;exact⟨by rw[hq0.out];rfl,x3⟩
theorem vR(k:K3):∀(ps qs:List Stp)(up:List It)(S:Sto),jE k (ps++qs) up S=match jE k ps up S with
  |.error e=>.error e
  |.ok (up',S')=>jE k qs up' S'
 |[],qs,up,S=>rfl
 |(lvl,xs,p)::ps,qs,up,S=>by
  simp only[List.cons_append,jE];rcases Qr S (lvl:Int) (Ze xs p (JS k lvl xs) up) up with e|⟨up',S'⟩
  rfl;exact vR k ps qs up' S'
theorem YA(k:K3)(s:Stp)(up:List It)(S:Sto):jE k [s] up S=Qr S (s.1:Int) (Ze s.2.1 s.2.2 (JS k s.1 s.2.1) up) up:=by obtain⟨lvl,xs,p⟩:=s;simp only[jE];rcases Qr S (lvl:Int) (Ze xs p (JS k lvl xs) up) up with e|⟨up',S'⟩<;>rfl
theorem UZ:∀{l:List Nat}{t:List UInt8}{e:Int},looseL l t=.error e->e≠0
 |[],t,e,h=>by cases h
 |a::l,t,e,h=>by by_cases ha:a=0;subst ha;rw[ZQ]at h;exact UZ h;by_cases h0:qO t a=0;rw[js ha h0]at h;cases h;decide;rw[ZP ha h0]at h;exact UZ h
theorem qeT:∀{ps:List (List It)}{S:Sto}{e:Int},makeL lvl ps S=.error e->e≠0
 |[],S,e,h=>by cases h
 |p::ps,S,e,h=>by simp only[makeL]at h;split at h;rename_i e' h';cases h;exact YG h';split at h;rename_i e' h';cases h;exact qeT h';cases h
theorem Vo{l held:List It}(h:Qr S lvl l held=.error e):e≠0:=by unfold Qr at h;split at h;rename_i e' h';cases h;exact qeT h';split at h;rename_i e' h';cases h;exact UZ h';cases h
structure qgS(k:K3)(s:Stp):Prop where
 may:Qq (s.1:Int) s.2.1=I
 its:∀x∈s.2.1,QW x/\itB x.r x.val.length=I
 len:s.2.1.length<=5
 le:s.2.2<=s.2.1.length
 lt:0<s.1->s.2.2<s.2.1.length
 zero:s.1=0->s.2.2=qD s.2.1 k
theorem qgG{k:K3}:∀(h:Nat){a:Nat}{xs:List It},qm S a=O ((h:Int),xs)->(qC S h xs).isSome=I->∀s∈jA S k h xs,qgS k s
 |0,a,xs,hn,hs,s,hm=>by
  rw[kj]at hm;obtain rfl:s=(0,xs,qD xs k):=by simpa using hm
  obtain⟨m1,m2,_⟩:=qJ hn;exact⟨m1,m2,(Zc hn).2.2,JI xs k,λh=>absurd h (Nat.lt_irrefl 0),λ_=>rfl⟩
 |h+1,a,xs,hn,hs,s,hm=>by
  obtain⟨m1,m2,_⟩:=qJ hn;have hx:=vW m1 zO;obtain⟨b,e1,-,-,zs,e4,e5⟩:=QH (QC hs _ (List.getElem_mem (za (k:=k) hx)));rw[JL (zL (za hx)) (by rw[e1,Int.toNat_natCast];exact e4)]at hm;rcases List.mem_cons.1 hm with rfl|hm
  exact⟨m1,m2,(Zc hn).2.2,Nat.le_of_lt (za hx),λ_=>za hx,λh=>by cases h⟩;exact qgG h e4 e5 s hm
theorem many_ok{k:K3}(h:qgS k s):(JS k s.1 s.2.1=0\/JS k s.1 s.2.1=1)/\s.2.2+JS k s.1 s.2.1<=s.2.1.length:=by
 have hle:=h.le;unfold JS;split;exact⟨.inl rfl,zO⟩;rename_i hc;refine⟨.inr rfl,?_⟩;rcases Nat.eq_zero_or_pos s.1 with h0|h0
 rw[h.zero h0]at hle⊢;by_cases hl:qD s.2.1 k<s.2.1.length;omega;exact absurd ⟨h0,kO hl⟩ hc;have:=h.lt h0;omega
theorem Bch.of_on{B lo b:Nat}(hB:B<=lo)(hS:qk S=I)(hst:Qi W B (F A1 n1 c1) (F A2 n2 c2) (F A3 n3 c3) (F A4 n4 c4) S)(hlo:lo<=b)(hr:W.heap[b]?=O (Y #[F A1 n1 c1,F A2 n2 n2,F A3' n3 c3',F A4 n4 c4] 223))(ho:W.ownsRow lo 5 1 (F A3' n3 c3') n3 (S.now.map bv)):∃g,Bch (λ_=>False) B lo b g Oa S W:=by
 obtain⟨hl1,hl2,hl3,hl4⟩:=qZ hS;have e3:=hst.now.at_.1;have e4:=hst.last.at_.1;obtain rfl:n3=256:=zO;obtain rfl:n4=256:=zO;obtain⟨g,rfl⟩:∃g,A3'=O ⟨g,0,Oa⟩:=by
  rcases ho.2 with⟨_,h0⟩|⟨g,_,_,e,_⟩
  cases h0;cases e;exact⟨g,rfl⟩
 refine⟨g,hlo,hB,λq h=>h.elim,A1,n1,c1,F A2 n2 n2,c3',A4,c4,hr,ho,?_,hst.bs,hst.last⟩;obtain⟨ps,e,⟨A,c,e2,h1,h2,hrd⟩,hp⟩:=hst.ws;simp only[Value.slice.injEq]at e2;obtain⟨rfl,rfl,rfl⟩:=e2;refine⟨ps,e,.inl ⟨rfl,zO,A2,rfl,hrd⟩,λp hpm=>⟨(hp p hpm).1,λC hC=>(hp p hpm).2.keepX hC λq hq hx=>by have:=hx.1;omega⟩⟩
def Gf(S:Sto)(L:Nat)(xs:List It)(x:It):Except Int (List It×Sto):=
 if qbD (qz x) (jA S (qz x) L xs)=I then .error 120 else
 match jE (qz x) (jA S (qz x) L xs).reverse [x] S with
 |.error e=>.error e
 |.ok (up,S1)=>if 1<up.length then Qr S1 ((jA S (qz x) L xs).length:Int) up up else .ok (up,S1)
def kE(up:List It):Nat:=match up with
 |[]=>0
 |y::_=>y.r.toNat
theorem qcd(S:Sto)(L:Nat)(xs:List It)(root:Nat)(x:It):putX S L xs root x=match Gf S L xs x with
  |.error e=>.error e
  |.ok (up,S2)=>match QD S2 (-1) S2.now root with
   |none=>.error 8
   |some t=>.ok (kE up,qu S2 t):=by
 unfold putX Gf;by_cases ht:qbD (qz x) (jA S (qz x) L xs)=I;rw[if_pos ht,if_pos ht];rw[if_neg ht,if_neg ht];rcases jE (qz x) (jA S (qz x) L xs).reverse [x] S with e|⟨up,S1⟩
 rfl;simp only;generalize(if 1<up.length then Qr S1 ((jA S (qz x) L xs).length:Int) up up else Except.ok (up,S1))=r;rcases r with e|⟨up',S2⟩
 rfl;simp only;rcases QD S2 (-1) S2.now root with _|t<;>rfl
def XR(S:Sto)(L:Nat)(xs:List It)(root:Nat)(x:It):Except Int (Nat×Sto):=if Ta S x=0 then putX S L xs root x else .error (Ta S x)
def PutQ(lo:Nat)(q:Except Int (Nat×Sto))(u:Ob)(W:Z):Prop:=match q with
 |.error e=>u=Of #[Qp Oa 0 0 Oa 0 0 Oa 0 0 Oa 0 0,U Oc 0,e]
 |.ok (r,S')=>∃v,u=Of #[v,(r:Int),U Oc 0]/\zm lo S' v W
end Go.Proofs.YtmeadnlmepcmbaaGreat
namespace Go.Proofs.YtmeadnlmepcmbaaGreat
open Go.RowKit Go.Shelf
attribute [local go_sem] Oper.semAt_some
variable {ws:List (Int×List UInt8)}{a:Int}{k x lo n:Nat}{pre:List Nat}{w w':World}{e:TypeId}{v:Value}{xs:List Value}
set_option maxRecDepth 100000 in
theorem backN_in(n:Nat)(hn:1<=n)(l Bs b off len cap:Nat)(us:List W2)(hDE:len<1099511627776)(J Jx:List Nat->Z->Prop)(hY:∀pre (x:Nat) W,J pre W->pre.length<len->YieldAt Fence.wide (n-1) prog l #[(x:Int),.agg #[U Oc (us[x]?.getD w2z).1,sv (us[x]?.getD w2z).2]] W λe W'=>
   (e=Q (.bool I)/\J (pre++[x]) W'/\Qx Bs b W W')\/(e=Q (.bool Oe)/\Jx (pre++[x]) W'))
  (W:Z) (hBs:W.cell? Bs=O (F (b,off) len cap)) (hc:∀i,i<len->W.cell? ⟨b,off+i*2,Oa⟩=O (U Oc (us[i]?.getD w2z).1)/\W.cell? ⟨b,off+i*2+1,Oa⟩=O (sv (us[i]?.getD w2z).2)) (h0:J [] W) :
  CallsIn Fence.wide n prog 189 #[.func (.yield l) #[] #[],.pointer Bs] W λe W'=>(∃v,e=Q v) /\
   ((∃ys,ys=jf (λj=>len-1-j) len/\J ys W')\/(∃pre,(∃k,k<=len/\pre=jf (λj=>len-1-j) k)/\Jx pre W')):=by
 refine callsIn_of_wp func189 rfl trivial ?_ rfl;simp only[ntmps189,List.size_toArray,List.length_cons,List.length_nil,Nat.reduceAdd,Nat.reduceSub,Array.replicate_succ,Array.replicate_zero,List.push_toArray,List.append_toArray,List.nil_append,List.cons_append]
 gi_wp2
 gi_loopw [3] (λi wr=>∃k:Nat,k<=len/\i=U Oc ((len:Int)-1-k)/\J (jf (λj=>len-1-j) k) wr/\Qx Bs b W wr)
  (λi _=>(intOf i+1).toNat)
 case atStart=>exact⟨0,Nat.zero_le _,zA3,h0,Qx.refl _ _ _⟩
 case round=>
  obtain⟨k,hk,rfl,hJs,hnx⟩:=hrel;have hBr:wr.cell? Bs=O (F (b,off) len cap):=(World.cell?_of_block (w:=W) hnx.1).trans hBs;by_cases hlt:k<len
  ·have hcx:=(World.cell?_of_block (w:=W) (a:=⟨b,off+(len-1-k)*2,Oa⟩) hnx.2).trans (hc (len-1-k) zO).1;have hcy:=(World.cell?_of_block (w:=W) (a:=⟨b,off+(len-1-k)*2+1,Oa⟩) hnx.2).trans (hc (len-1-k) zO).2;obtain⟨fn,tmps,assign,body,hy,hR⟩:=hY _ (len-1-k) wr hJs (by rw[ZA];exact hlt);try dsimp only at hy
   obtain⟨i,hi⟩:∃i:Nat,len-1-k=i:=⟨_,rfl⟩
   have hi2:(len:Int)-1-k=(i:Int):=zO;have hil:i<len:=zO;have hik:k+i+1<=len/\len<=k+i+1:=zO;have HU:=zH (VA (λj=>len-1-j) k);obtain⟨u,hu⟩:∃u,us[i]?.getD w2z=u:=⟨_,rfl⟩
   rw[hi]at hcx hcy hy hR;rw[hu]at hcx hcy hy;rw[hi2];clear hi2;clear hu;have HI:=zH hi;clear hi
   gi_wp2
   refine hR.mono ?_;rintro e W3 (⟨rfl,hJ3,hk3⟩|⟨rfl,hKP⟩)
   ·gi_wp2
    go_roundw
    case rel=>exact⟨k+1,zO,by go_num,by rw[HU.out,HI.out];exact hJ3,hnx.t hk3⟩
    case measure=>simp[intOf]
   gi_wp2
   refine bodyPost_ret (results_none rfl _ _ _) rfl ?_;exact⟨⟨_,rfl⟩,.inr ⟨_,⟨k+1,zO,by rw[HU.out,HI.out]⟩,hKP⟩⟩
  obtain rfl:k=len:=zO
  gi_wp2
  go_end0;exact⟨⟨_,rfl⟩,.inl ⟨_,rfl,hJs⟩⟩
set_option maxRecDepth 100000 in
theorem qfH(n l Bs c:Nat)(A:OA)(J:List Nat->Z->Prop)(W:Z)(hBs:W.cell? Bs=O (F A 0 c))(h0:J [] W):CallsIn Fence.wide n prog 189 #[.func (.yield l) #[] #[],.pointer Bs] W λe W'=>(∃v,e=Q v)/\J [] W':=by
 refine callsIn_of_wp func189 rfl trivial ?_ rfl;simp only[ntmps189,List.size_toArray,List.length_cons,List.length_nil,Nat.reduceAdd,Nat.reduceSub,Array.replicate_succ,Array.replicate_zero,List.push_toArray,List.append_toArray,List.nil_append,List.cons_append]
 gi_wp2
 gi_loopw [3] (λi wr=>i=U Oc (-1)/\J [] wr) (λ_ _=>0)
 case atStart=>exact⟨rfl,h0⟩
 case round=>
  obtain⟨rfl,hJs⟩:=hrel
  gi_wp2
  go_end0;exact⟨⟨_,rfl⟩,hJs⟩
theorem qha(n:Nat)(hn:1<=n)(Bs b:Nat)(v:Ob)(us:List W2)(hDE:us.length<1099511627776)(w:Z)(hBs:Bs<w)(hb:b<w)(hS:SW w Bs b v us):SeqStopsK Fence.wide n prog 189 #[.pointer Bs] (λx:Nat=>#[(x:Int),.agg #[U Oc (us[x]?.getD w2z).1,sv (us[x]?.getD w2z).2]]) (Qx Bs b) (λys=>ys=jf (λj=>us.length-1-j) us.length)
   (λpre=>∃k,k<=us.length/\pre=jf (λj=>us.length-1-j) k) us.length w:=λl J Jx W hW _ _ hY h0=>by
 obtain⟨hc,h⟩:=hS.keep (Qx.below hW hBs hb);rcases h with⟨rfl,A,c,rfl⟩|⟨off,cap,rfl,hcs⟩
 exact(qfH n l Bs c A J W hc h0).mono λe W' ⟨he,hj⟩=>⟨he,.inl ⟨_,rfl,hj⟩⟩
 exact backN_in n hn l Bs b off us.length cap us hDE J Jx hY W hc hcs h0
def atN(ws:List (Int×List UInt8))(j:Nat):Int:=((ws[j]?).map (·.1)).getD 0
def datN(ws:List (Int×List UInt8))(j:Nat):List UInt8:=((ws[j]?).map (·.2)).getD []
theorem Uj(n k j:Nat)(h:j<k):(jf (λi=>n-1-i) k)[j]?=O (n-1-j):=by unfold jf;rw[List.getElem?_map,List.getElem?_range h];rfl
theorem GA:∀(d m:Nat),m+d=ws.length->(∀i,m<=i->i<ws.length->atN ws i≠a)->jW ws a=jW (ws.take m) a:=by
 intro d;induction d with
 |zero=>intro m hm _;rw[show m=ws.length by omega,List.take_length]
 |succ d ih=>
  intro m hm h;have hne:=h m (zM _) zO;unfold atN at hne;rw[zL zO]at hne;rw[ih (m+1) zO (λi hi hl=>h i zO hl),Yd zO];exact if_neg hne
theorem qji(hk:k<=ws.length)(he:pre++[x]=jf (λj=>ws.length-1-j) k)(hx:atN ws x=a)(hp:∀y∈pre,atN ws y≠a):jW ws a=O (datN ws x):=by
 have hl:pre.length+1=k:=by have:=congrArg List.length he;simpa [jf]using this
 have hxk:x=ws.length-1-pre.length:=by have h1:=Uj ws.length k pre.length zO;rw[<-he]at h1;simpa using h1
 have hxl:x<ws.length:=zO;rw[GA (ws:=ws) (a:=a) pre.length (x+1) zO (λi h1 h2=>by have h3:=Uj ws.length k (ws.length-1-i) zO;rw[<-he,List.getElem?_append_left zO,show ws.length-1-(ws.length-1-i)=i by omega]at h3;exact hp _ (List.mem_of_getElem? h3)),Yd hxl];unfold atN at hx;unfold datN;rw[zL hxl]at hx⊢;exact if_pos hx
theorem qjh(hp:∀y∈jf (λj=>ws.length-1-j) ws.length,atN ws y≠a):jW ws a=Oa:=by rw[GA (ws:=ws) (a:=a) ws.length 0 zA3 (λi _ h2=>by have h3:=Uj ws.length ws.length (ws.length-1-i) zO;rw[show ws.length-1-(ws.length-1-i)=i by omega]at h3;exact hp _ (List.mem_of_getElem? h3))];rfl
theorem Yr{size:Nat}(h:w.ownsRow lo e size v n xs)(hk:Qj w w'):w'.ownsRow lo e size v n xs:=
 ⟨h.1,h.2.imp id λ⟨g,cap,cur,h1,h2,h3,h4⟩=>⟨g,cap,cur,h1,h2,hk.row h3,h4⟩⟩
end Go.Proofs.YtmeadnlmepcmbaaGreat
