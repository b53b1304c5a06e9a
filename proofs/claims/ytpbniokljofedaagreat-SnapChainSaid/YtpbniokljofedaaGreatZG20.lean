/- Texts Data, VolS, Roomy, Lay1, Lay, PutS, MayE, Build, Leave0, joined. -/
import Derived.Defers
import Derived.Test.YtpbniokljofedaaGreatZG10
import Derived.Test.YtpbniokljofedaaGreatZG11
import Derived.Test.YtpbniokljofedaaGreatZG13
import Derived.Test.YtpbniokljofedaaGreatZG16
import Derived.Test.YtpbniokljofedaaGreatZG17
import Derived.Test.YtpbniokljofedaaGreatZG18
import Derived.Test.YtpbniokljofedaaGreatZG19
set_option linter.unusedSimpArgs false
set_option linter.unusedVariables false
set_option maxHeartbeats 8000000
open Go.Proofs.Tryz
namespace Go.Proofs.YtpbniokljofedaaGreat
open Go.RowKit
def jZ (S:Sto) (refs nodes:Nat->Nat) (a:Int) (held:Bool):Int:=if 8<=a/\a<256 then (if Zj S a.toNat=0\/0<nodes a.toNat\/(held=true/\Zj S a.toNat<=refs a.toNat) then 6 else 0) else 2
theorem qjD {S:Sto} {refs nodes:Nat->Nat} {a:Int} (h:¬(8<=a/\a<256)) (held:Bool):jZ S refs nodes a held=2:=by unfold jZ;rw[if_neg h]
theorem dataE_in (S:Sto) (refs nodes:Nat->Nat) {a:Nat} (h8:8<=a) (h:a<256) (held:Bool):jZ S refs nodes (a:Int) held=if Zj S a=0\/0<nodes a\/(held=true/\Zj S a<=refs a) then 6 else 0:=by unfold jZ;rw[if_pos zO,Int.toNat_natCast]
theorem mem_met {nodes:Nat->Nat} {a:Nat} (h:a<256):a∈VG nodes 256↔0<nodes a:=by unfold VG;simp[h]
def DataQ (S:Sto) (root next:Int) (dead:List Int) (a:Int) (held:Bool) (w:World) (e:Ending) (w':World):Prop:=Below w.heap.size w w' /\
 ((e=.returned (.int .i64 8)/\∀ vs,Qg S root next dead vs->∃ refs nodes,qX S (Qs root dead vs) refs nodes/\¬QF S refs) \/
  ∃ vs refs nodes,Qg S root next dead vs/\qX S (Qs root dead vs) refs nodes/\QF S refs/\e=.returned (.int .i64 (jZ S refs nodes a held)))
theorem vH {R:Ending->World->Prop} {a:Act} {W:World} {u:Value} (h6:a.tmps[6]?.getD undef=u) (hd:a.defers=[]) (hR:R (.returned u) W):bodyPost prog Tryz.f73 R .ret a W:=by refine bodyPost_ret (v:=u) ?_ hd hR;simp[results,results73,go_sem,h6]
theorem GD {S:Sto} {R:List Nat} {refs refs' nodes nodes':Nat->Nat} (h:qX S R refs nodes) (h':qX S R refs' nodes'):refs=refs':=(jI.same h.mkd h'.mkd).2
set_option maxRecDepth 100000 in
theorem data_any (A1:Option Addr) (n1 c1:Nat) (A2:Option Addr) (n2 c2:Nat) (A3:Option Addr) (n3 c3:Nat) (A4:Option Addr) (n4 c4:Nat) (gen root next:Int) (A5:Option Addr) (c5:Nat) (S:Sto) (dead:List Int) (a:Int) (held:Bool) (w:World) (h:qU w w.heap.size (.slice A1 n1 c1) (.slice A2 n2 c2) (.slice A3 n3 c3) (.slice A4 n4 c4) S) (hd:Zw w w.heap.size (.slice A5 dead.length c5) dead):Calls prog 73 #[.agg (qF (.slice A1 n1 c1) (.slice A2 n2 c2) (.slice A3 n3 c3) (.slice A4 n4 c4) gen root next (.slice A5 dead.length c5)),.int .i64 a,.bool held] w (DataQ S root next dead a held w):=by
 have HI:=fun W (hx:Ext w W)=>(show Zw W W.heap.size (.slice A5 dead.length c5) dead by obtain⟨A,c,e,q1,q2,q3⟩:=hd;exact⟨A,c,e,q1,q2,(q3.below hx).more hx.size⟩)
 have HR:=zH (fun W (hx:Ext w W)=>refs_any A1 n1 c1 A2 n2 c2 A3 n3 c3 A4 n4 c4 gen root next A5 c5 S dead W (h.ext hx) (HI W hx));have HN:=zH (fun W (hx:Ext w W)=>qkg A1 n1 c1 A2 n2 c2 A3 n3 c3 A4 n4 c4 gen root next A5 c5 S dead W (h.ext hx) (HI W hx));replace h:=zH h;clear hd HI;go_enter func73,ntmps73;go_wp2_with fail;generalize aA:(World.alloc w _)=w1;have x1:Ext w w1:=by rw[<-aA];exact zN _ _
 have lQ:w1.heap[w.heap.size]?=some (.cells (qF (.slice A1 n1 c1) (.slice A2 n2 c2) (.slice A3 n3 c3) (.slice A4 n4 c4) gen root next (.slice A5 dead.length c5)) 32 (0,0)):=by rw[<-aA];exact zI _ _ _ rfl
 clear aA;refine(HR.out w1 x1).mono ?_;clear HR;rintro e w2 ⟨hB,hQ⟩;have x2:Ext w w2:=Ext.trans x1 hB;have eP:=qb lQ hB;clear hB lQ x1;rcases hQ with ⟨rfl,aX⟩|⟨vs,refs,nodes,cb,ca,vv,lo,rfl,aP,hT⟩
 ·replace aX:=zH aX;go_wp2_with fail;exact vH rfl rfl ⟨x2,.inl ⟨rfl,aX.out⟩⟩
 ·have uy:=qa eP;replace hT:=zH hT;go_wp2_with fail;refine(HN.out w2 x2).mono ?_;clear HN;rintro e w3 ⟨hB,hQ⟩;have x3:Ext w w3:=Ext.trans x2 hB;have nX:=qb eP hB;have oK:=qb hT.out.row hB;clear hB eP x2 uy;rcases hQ with ⟨rfl,aX⟩|⟨vs',refs',nodes',v,lo',rfl,hlo',gm,uF,he',aB⟩
  ·obtain⟨refs',nodes',uF,hn'⟩:=aX vs hT.out.pool;exact absurd (GD hT.out.cnt uF ▸ hT.out.enough) hn'
  ·obtain rfl:=Qg.same hT.out.pool gm;obtain rfl:=GD hT.out.cnt uF;obtain⟨An,cn,rfl,-,-⟩:=qz aB;by_cases hr:8<=a/\a<256
   ·obtain⟨m,hma⟩:=Int.eq_ofNat_of_zero_le (show 0<=a by omega);subst hma;have wJ:8<=m:=zO;have dw:m<256:=zO;have hE:=dataE_in S refs nodes' wJ dw held;obtain⟨b,o,c,e3,hb,aC⟩:=Gc gm.may h.out.now;have lD:=Ext.cell x3 (aC m dw);have hrf:=(qa oK (6+m)).trans (hT.out.ar.ref m dw);have fZ:=mem_met (nodes:=nodes') dw;have HH:=has_any An cn (VG nodes' 256) (Nat.le_trans (qcX _ _) zO) m w3 (Rd.of_own aB);cases e3;have kp3:=qa nX;have d1:decide ((m:Int)<8)=false:=decide_eq_false zO;have d2:decide ((m:Int)≥256)=false:=decide_eq_false zO;have hQ:=fun E (hh:jZ S refs nodes' (m:Int) held=E)=>(⟨x3,.inr ⟨vs,refs,nodes',gm,uF,he',by rw[hh]⟩⟩:DataQ S root next dead (m:Int) held w (.returned (.int .i64 E)) w3)
    replace hQ:=zH hQ;have yG:=zH (IntWalk.wrap64_in (Zj S m:Int) (by have:=(S.now[m]?.getD 0).toNat_lt;unfold Zj;omega));generalize Zj S m=nw at *;generalize refs m=rf at *;clear hT gm uF he' aB aC hr oK;by_cases h0:nw=0
    ·have z1:((nw:Int) == 0)=true:=by rw[beq_iff_eq];omega
     have z2:decide (nw=0)=true:=decide_eq_true h0;rw[if_pos (.inl h0)] at hE;replace hE:=zH hE;replace h0:=zH h0;replace fZ:=zH fZ;have hw':=yG.out;go_wp2_with fail;exact vH rfl rfl (hQ.out _ hE.out)
    ·have z1:((nw:Int) == 0)=false:=by rw[beq_eq_false_iff_ne];omega
     have z2:decide (nw=0)=false:=decide_eq_false h0;by_cases hm:m∈VG nodes' 256
     ·rw[decide_eq_true hm] at HH;rw[if_pos (.inr (.inl (fZ.1 hm)))] at hE;replace hE:=zH hE;replace h0:=zH h0;replace fZ:=zH fZ;replace hm:=zH hm;have hw':=yG.out;go_wp2_with fail;refine HH.mono ?_;rintro e w4 ⟨rfl,rfl⟩;go_wp2_with fail;exact vH rfl rfl (hQ.out _ hE.out)
     ·rw[decide_eq_false hm] at HH;have hm':¬0<nodes' m:=fun h=>hm (fZ.2 h);replace fZ:=zH fZ;replace hm:=zH hm;cases held
      ·rw[if_neg (fun h=>by rcases h with h|h|⟨h,h'⟩;exact h0 h;exact hm' h;cases h)] at hE;replace hE:=zH hE;replace h0:=zH h0;replace hm':=zH hm';have hw':=yG.out;go_wp2_with fail;refine HH.mono ?_;rintro e w4 ⟨rfl,rfl⟩;go_wp2_with fail;exact vH rfl rfl (hQ.out _ hE.out)
      ·by_cases hle:nw<=rf
       ·have z3:decide ((nw:Int)<=(rf:Int))=true:=decide_eq_true zO;have z4:decide (nw<=rf)=true:=decide_eq_true hle;rw[if_pos (.inr (.inr ⟨rfl,hle⟩))] at hE;replace hE:=zH hE;replace h0:=zH h0;replace hm':=zH hm';replace hle:=zH hle;have hw':=yG.out;go_wp2_with fail;refine HH.mono ?_;rintro e w4 ⟨rfl,rfl⟩;go_wp2_with fail;exact vH rfl rfl (hQ.out _ hE.out)
       ·have z3:decide ((nw:Int)<=(rf:Int))=false:=decide_eq_false zO;have z4:decide (nw<=rf)=false:=decide_eq_false hle;rw[if_neg (fun h=>by rcases h with h|h|⟨h',h⟩;exact h0 h;exact hm' h;exact hle h)] at hE;replace hE:=zH hE;replace h0:=zH h0;replace hm':=zH hm';replace hle:=zH hle;have hw':=yG.out;go_wp2_with fail;refine HH.mono ?_;rintro e w4 ⟨rfl,rfl⟩;go_wp2_with fail;exact vH rfl rfl (hQ.out _ hE.out)
   ·have hE:=zH (qjD (S:=S) (refs:=refs) (nodes:=nodes') hr held);have hQ:=fun E (hh:jZ S refs nodes' a held=E)=>(⟨x3,.inr ⟨vs,refs,nodes',gm,uF,he',by rw[hh]⟩⟩:DataQ S root next dead a held w (.returned (.int .i64 E)) w3)
    replace hQ:=zH hQ;clear hT gm uF he' aB oK;by_cases h8:a<8
    ·have d1:decide (a<8)=true:=decide_eq_true h8;replace hr:=zH hr;go_wp2_with fail;exact vH rfl rfl (hQ.out _ hE.out)
    ·have d1:decide (a<8)=false:=decide_eq_false h8;have d2:decide (a≥256)=true:=decide_eq_true zO;replace hr:=zH hr;go_wp2_with fail;exact vH rfl rfl (hQ.out _ hE.out)
abbrev JG:Value:=.agg (qF (.slice none 0 0) (.slice none 0 0) (.slice none 0 0) (.slice none 0 0) 0 0 0 (.slice none 0 0))
def Jf (lo:Nat) (S:Sto) (gen root next:Int) (dead:List Int) (u:Value) (W:World):Prop:=∃ A1 c1 A2 c2 A3 c3 A4 c4 A5 c5,u=.agg (qF (.slice A1 S.bs.length c1) (.slice A2 S.ws.length c2) (.slice A3 S.now.length c3) (.slice A4 S.last.length c4) gen root next (.slice A5 dead.length c5)) /\
 ∀ C:World,PosZ lo W C->qU C W.heap.size (.slice A1 S.bs.length c1) (.slice A2 S.ws.length c2) (.slice A3 S.now.length c3) (.slice A4 S.last.length c4) S/\Zw C W.heap.size (.slice A5 dead.length c5) dead
theorem Rd.pos {w C:World} {B size lo n c:Nat} {A:Option Addr} {xs:List Value} (h:Rd w B size A n xs) (hf:Zo lo (.slice A n c)) (hk:∀ (q:Addr) (v:Value),lo<=q.block->q.block<B->w.cell? q=some v->C.cell? q=some v):Rd C B size A n xs:=
 ⟨h.1,fun hn=>by obtain⟨b,off,rfl,hb,hc⟩:=h.2 hn;exact⟨b,off,rfl,hb,fun j u hu=>hk _ _ (hf ⟨b,off,none⟩ n c rfl) hb (hc j u hu)⟩⟩
theorem Zw.pos {w C:World} {B lo:Nat} {v:Value} {l:List Int} (h:Zw w B v l) (hf:Zo lo v) (hk:∀ (q:Addr) (v:Value),lo<=q.block->q.block<B->w.cell? q=some v->C.cell? q=some v):Zw C B v l:=by obtain⟨A,c,e,hc,hm,hr⟩:=h;subst e;exact⟨A,c,rfl,hc,hm,Rd.pos hr hf hk⟩
theorem QP.newSto {lo:Nat} {S:Sto} {u:Value} {W:World} (h:QP lo S u W) (hS:Gu S):NewSto lo S u W:=by obtain⟨BB,WW,g,A3,c3,A4,c4,e,h1,h2,h3⟩:=h;refine⟨_,_,_,_,A3,c3,A4,c4,e,qkl (W:=thaw W) (Φ:=fun C=>qU C W.heap.size _ _ _ _ S) (fun A C hAC hA=>hA.some_ hAC) fun W2 hk=>?_⟩;obtain⟨k1,k2⟩:=h1.readsT hS.bs hS.ws hS.be hS.we W2 hk;exact⟨k1,k2,(Bys.of_ownT h2).keepN (Zo.of_own h2) hk,(Bys.of_ownT h3).keepN (Zo.of_own h3) hk⟩
theorem Zw.of_ownT {w:World} {base:Nat} {v:Value} {l:List Int} (h:w.ownsRow base 3 1 v l.length (Gj l)):Zw (thaw w) w.heap.size v l:=by obtain⟨A,c,e,hc,hm,hr⟩:=Zw.of_own h;refine⟨A,c,e,hc,hm,hr.1,fun hn=>?_⟩;obtain⟨b,off,e2,hb,dD⟩:=hr.2 hn;obtain⟨cs,t,aF⟩:=Thaw.of_own h ⟨b,off,none⟩ l.length c (by rw[e,e2]) hn;exact⟨b,off,e2,hb,fun j u hu=>(KC aF _).trans (dD j u hu)⟩
def outN (lo n:Nat) (l:List Int):Qa:=⟨Option Addr×Nat,fun p=>.slice p.1 n p.2,fun p W=>Zw (thaw W) W.heap.size (.slice p.1 n p.2) l/\Zo lo (.slice p.1 n p.2)⟩
theorem jA (lo n:Nat) (l:List Int) (A:Option Addr) (c:Nat):(outN lo n l).f (A,c)=.slice A n c:=rfl
theorem qfW (lo n:Nat) (l:List Int):∀ p,QV ((outN lo n l).φ p):=fun p W W' he h=>⟨by have h1:=h.1;rw[<-KD W] at h1;have h2:=h1.ext_ (Ext.thaw he);rw[KD] at h2;exact h2,h.2⟩
def zt (S:Sto):Int:=if qm S=true/\16<=(Zb S).length then 0 else 9
structure Two (bp be:Nat) (W W':World):Prop where
 os:W'.os=W.os
 tape:W'.tape=W.tape
 output:W'.output=W.output
 size:W.heap.size<=W'.heap.size
 same:∀ k,k<W.heap.size->k≠bp->k≠be->W'.heap[k]?=W.heap[k]?
theorem Two.of_ext {bp be:Nat} {W W':World} (h:Ext W W'):Two bp be W W':=⟨h.os,h.tape,h.output,h.size,fun k hk _ _=>h.block k hk⟩
theorem Two.below {bp be B:Nat} {w0 W W':World} (h:Two bp be W W') (hb:Below B w0 W) (h1:B<=bp) (h2:B<=be) (hB:B<=W.heap.size):Below B w0 W':=hb.trans ⟨h.os,h.tape,h.output,h.size,fun k hk=>h.same k zO zO zO⟩
abbrev Kl:Array Value:=qF (.slice none 0 0) (.slice none 0 0) (.slice none 0 0) (.slice none 0 0) 0 0 0 (.slice none 0 0)
theorem Two.trans {bp be:Nat} {A B C:World} (h:Two bp be A B) (k:Two bp be B C):Two bp be A C:=⟨k.os.trans h.os,k.tape.trans h.tape,k.output.trans h.output,Nat.le_trans h.size k.size,fun i hi h1 h2=>(k.same i (Nat.lt_of_lt_of_le hi h.size) h1 h2).trans (h.same i hi h1 h2)⟩
theorem Two.setP {bp be:Nat} (A:World) (j:Nat) (v:Value):Two bp be A (A.setCell ⟨bp,j,none⟩ v):=⟨rfl,rfl,rfl,zA2,fun k _ hk _=>zJ _ _ _ _ hk⟩
theorem Two.setE {bp be:Nat} (A:World) (j:Nat) (v:Value):Two bp be A (A.setCell ⟨be,j,none⟩ v):=⟨rfl,rfl,rfl,zA2,fun k _ _ hk=>zJ _ _ _ _ hk⟩
theorem Two.set8 {bp be:Nat} (w:World) (x0 x1 x2 x3 x4 x5 x6 x7:Value):Two bp be w ((((((((w.setCell ⟨bp,0,none⟩ x0).setCell ⟨bp,1,none⟩ x1).setCell ⟨bp,2,none⟩ x2).setCell ⟨bp,3,none⟩ x3).setCell ⟨bp,4,none⟩ x4).setCell ⟨bp,5,none⟩ x5).setCell ⟨bp,6,none⟩ x6).setCell ⟨bp,7,none⟩ x7):=
 (Two.setP _ _ _).trans ((Two.setP _ _ _).trans ((Two.setP _ _ _).trans ((Two.setP _ _ _).trans ((Two.setP _ _ _).trans ((Two.setP _ _ _).trans ((Two.setP _ _ _).trans (Two.setP _ _ _)))))))
def RoomyQ (bp be:Nat) (cs:Array Value) (e:Int) (S:Sto) (W W':World):Prop:=Two bp be W W' /\
 ((e=0/\zt S=0/\W'.heap[bp]?=some (.cells cs 32 (0,0))/\W'.heap[be]?=some (.cells #[.int .i64 0] 36 (0,0))) \/
  ∃ e',e'≠0/\((e=0/\e'=zt S)\/(e≠0/\e'=e))/\W'.heap[bp]?=some (.cells Kl 32 (0,0))/\W'.heap[be]?=some (.cells #[.int .i64 e'] 36 (0,0)))
set_option maxRecDepth 100000 in
theorem qkt (bp be:Nat) (aG:bp≠be) (A1:Option Addr) (n1 c1:Nat) (A2:Option Addr) (n2 c2:Nat) (A3:Option Addr) (n3 c3:Nat) (A4:Option Addr) (n4 c4:Nat) (gen root next:Int) (v5:Value) (e:Int) (S:Sto) (w:World) (hp:w.heap[bp]?=some (.cells (qF (.slice A1 n1 c1) (.slice A2 n2 c2) (.slice A3 n3 c3) (.slice A4 n4 c4) gen root next v5) 32 (0,0))) (he:w.heap[be]?=some (.cells #[.int .i64 e] 36 (0,0))) (h:e=0->qU w w.heap.size (.slice A1 n1 c1) (.slice A2 n2 c2) (.slice A3 n3 c3) (.slice A4 n4 c4) S):Calls prog 127 #[.pointer (some ⟨bp,0,none⟩),.pointer (some ⟨be,0,none⟩)] w (fun x w'=>x=.returned (.tuple #[])/\RoomyQ bp be (qF (.slice A1 n1 c1) (.slice A2 n2 c2) (.slice A3 n3 c3) (.slice A4 n4 c4) gen root next v5) e S w w'):=by
 have kp:=qa hp;have ke:=qa he;have fp:=qe hp;have fe:=qe he;by_cases h0:e=0
 ·subst h0;have HF:=Gh A1 n1 c1 A2 n2 c2 A3 n3 c3 A4 n4 c4 S w (h rfl);clear h;go_enter func127,ntmps127;go_wp2_with fail;refine HF.mono ?_;rintro x w2 ⟨hB,hQ⟩;have x2:Ext w w2:=hB;have dS:=qb hp x2;have fJ:=qb he x2;have uy:=qa dS;have ke2:=qa fJ;have fp2:=qe dS;have fe2:=qe fJ;clear kp ke fp fe hB HF hp he;rcases hQ with ⟨hm,rfl⟩|⟨hm,v,rfl,aB⟩
  ·have hE:zt S=9:=by unfold zt;rw[hm];rfl
   replace hE:=zH hE;replace hm:=zH hm;have rq:¬be=bp:=fun e=>aG e.symm;go_wp2_with fail;go_end0;exact⟨rfl,(Two.of_ext x2).trans ((Two.setE _ _ _).trans (Two.set8 _ _ _ _ _ _ _ _ _)),.inr ⟨9,zD,.inl ⟨rfl,hE.out.symm⟩,jG ((zJ _ _ _ _ aG).trans dS) _ _ _ _ _ _ _ _,(jz rq _ _ _ _ _ _ _ _).trans (qi fJ 0 _)⟩⟩
  ·obtain⟨A,c,rfl,-,-⟩:=qz aB;clear aB;by_cases hl:(Zb S).length<16
   ·have hE:zt S=9:=by unfold zt;rw[if_neg zO]
    replace hE:=zH hE;have d1:decide (((Zb S).length:Int)<16)=true:=decide_eq_true zO;replace hl:=zH hl;replace hm:=zH hm;have rq:¬be=bp:=fun e=>aG e.symm;go_wp2_with fail;go_end0;exact⟨rfl,(Two.of_ext x2).trans ((Two.setE _ _ _).trans (Two.set8 _ _ _ _ _ _ _ _ _)),.inr ⟨9,zD,.inl ⟨rfl,hE.out.symm⟩,jG ((zJ _ _ _ _ aG).trans dS) _ _ _ _ _ _ _ _,(jz rq _ _ _ _ _ _ _ _).trans (qi fJ 0 _)⟩⟩
   ·have hE:zt S=0:=by unfold zt;rw[if_pos ⟨hm,zO⟩]
    replace hE:=zH hE;have d1:decide (((Zb S).length:Int)<16)=false:=decide_eq_false zO;replace hl:=zH hl;replace hm:=zH hm;go_wp2_with fail;go_end0;exact⟨rfl,Two.of_ext x2,.inl ⟨rfl,hE.out,dS,fJ⟩⟩
 ·have b0:(e == 0)=false:=by rw[beq_eq_false_iff_ne];exact h0
  have b1:(e != 0)=true:=by rw[bne_iff_ne];exact h0
  replace h0:=zH h0;replace aG:=zH aG;clear h;go_enter func127,ntmps127;go_wp2_with fail;go_end0;exact⟨rfl,Two.set8 _ _ _ _ _ _ _ _ _,.inr ⟨e,h0.out,.inr ⟨h0.out,rfl⟩,jG hp _ _ _ _ _ _ _ _,(jz (fun x=>aG.out x.symm) _ _ _ _ _ _ _ _).trans he⟩⟩
structure Yr (bp be ba:Nat) (W W':World):Prop where
 os:W'.os=W.os
 tape:W'.tape=W.tape
 output:W'.output=W.output
 size:W.heap.size<=W'.heap.size
 same:∀ k,k<W.heap.size->k≠bp->k≠be->k≠ba->W'.heap[k]?=W.heap[k]?
theorem Yr.of_two {bp be ba:Nat} {W W':World} (h:Two bp be W W'):Yr bp be ba W W':=⟨h.os,h.tape,h.output,h.size,fun k hk h1 h2 _=>h.same k hk h1 h2⟩
theorem Yr.set {bp be ba:Nat} {W W':World} (h:Yr bp be ba W W') (v:Value):Yr bp be ba W (W'.setCell ⟨ba,0,none⟩ v):=⟨h.os,h.tape,h.output,by simpa using h.size,fun k hk h1 h2 h3=>(zJ _ _ _ _ h3).trans (h.same k hk h1 h2 h3)⟩
theorem Yr.below {bp be ba B:Nat} {w0 W W':World} (h:Yr bp be ba W W') (hb:Below B w0 W) (h1:B<=bp) (h2:B<=be) (h3:B<=ba) (hB:B<=W.heap.size):Below B w0 W':=hb.trans ⟨h.os,h.tape,h.output,h.size,fun k hk=>h.same k zO zO zO zO⟩
theorem TY {W:World} {b:Nat} {x0 x1 x2 x3 x4 x5 x6 x7 y z u0 u1 u2 u3 u4 u5 u6 u7 p q:Value} {yJ oL iU:TypeId} (r4:W.heap[b+1]?=some (.cells #[u0,u1,u2,u3,u4,u5,u6,u7] yJ (0,0))) (r5:W.heap[b+2]?=some (.cells #[p] oL (0,0))) (r6:W.heap[b+3]?=some (.cells #[q] iU (0,0))) {C:World} (hC:C=((((((((((W.setCell ⟨b+1,0,none⟩ x0).setCell ⟨b+1,1,none⟩ x1).setCell ⟨b+1,2,none⟩ x2).setCell ⟨b+1,3,none⟩ x3).setCell ⟨b+1,4,none⟩ x4).setCell ⟨b+1,5,none⟩ x5).setCell ⟨b+1,6,none⟩ x6).setCell ⟨b+1,7,none⟩ x7).setCell ⟨b+1+1,0,none⟩ y).setCell ⟨b+1+1+1,0,none⟩ z)):C.heap[b+1]?=some (.cells #[x0,x1,x2,x3,x4,x5,x6,x7] yJ (0,0))/\C.heap[b+2]?=some (.cells #[y] oL (0,0))/\C.heap[b+3]?=some (.cells #[z] iU (0,0))/\(∀ {B:Nat} {w0:World},B<=b+1->Below B w0 W->Below B w0 C)/\C.heap.size=W.heap.size/\(∀ k,k≠b+1->k≠b+2->k≠b+3->C.heap[k]?=W.heap[k]?):=by
 subst hC;have hs:=fun (A:World) (b j:Nat) (v:Value) (k:Nat) (hk:k≠b)=>zJ A ⟨b,j,none⟩ v k hk;refine⟨?_,?_,?_,fun hB h=>?_,zA2,fun k h1 h2 h3=>?_⟩
 ·rw[hs _ _ _ _ _ zO,hs _ _ _ _ _ zO];exact jG r4 x0 x1 x2 x3 x4 x5 x6 x7
 ·rw[hs _ _ _ _ _ zO];refine qi (t:=oL) (cs:=#[p]) ?_ 0 y;rw[jz zO];exact r5
 ·refine qi (t:=iU) (cs:=#[q]) ?_ 0 z;rw[hs _ _ _ _ _ zO,jz zO];exact r6
 ·exact Below.setCell (Below.setCell (zl h (b:=b+1) zO x0 x1 x2 x3 x4 x5 x6 x7) (p:=⟨b+1+1,0,none⟩) zA1 _) (p:=⟨b+1+1+1,0,none⟩) zA1 _
 ·rw[hs _ _ _ _ _ zO,hs _ _ _ _ _ zO,jz zO]
theorem two_rows {W:World} {b:Nat} {p q p0 q0:Value} {oL iU:TypeId} (r5:W.heap[b+2]?=some (.cells #[p0] oL (0,0))) (r6:W.heap[b+3]?=some (.cells #[q0] iU (0,0))) {C:World} (hC:(W.setCell ⟨b+1+1,0,none⟩ p).setCell ⟨b+1+1+1,0,none⟩ q=C):C.heap[b+2]?=some (.cells #[p] oL (0,0))/\C.heap[b+3]?=some (.cells #[q] iU (0,0))/\(∀ {B:Nat} {w0:World},B<=b+1->Below B w0 W->Below B w0 C)/\C.heap.size=W.heap.size/\(∀ k,k≠b+2->k≠b+3->C.heap[k]?=W.heap[k]?):=by
 subst hC;have hs:=fun (A:World) (b j:Nat) (v:Value) (k:Nat) (hk:k≠b)=>zJ A ⟨b,j,none⟩ v k hk;refine⟨?_,?_,fun hB h=>?_,zA2,fun k h2 h3=>?_⟩
 ·rw[hs _ _ _ _ _ zO];exact qi (t:=oL) (cs:=#[p0]) r5 0 p
 ·refine qi (t:=iU) (cs:=#[q0]) ?_ 0 q;rw[hs _ _ _ _ _ zO];exact r6
 ·exact Below.setCell (Below.setCell h (p:=⟨b+1+1,0,none⟩) zA1 _) (p:=⟨b+1+1+1,0,none⟩) zA1 _
 ·rw[hs _ _ _ _ _ zO,hs _ _ _ _ _ zO]
theorem qfE (ws:List (Int×List UInt8)) (a r:Int) (l:List UInt8) (h:a≠r):jk (ws++[(a,l)]) r=jk ws r:=by
 unfold jk;rw[List.reverse_append,List.reverse_singleton,List.singleton_append,List.find?_cons];have:(a == r)=false:=by rw[beq_eq_false_iff_ne];exact h
 simp only[this]
theorem seen_put (S:Sto) {a r:Nat} (l:List UInt8) (h:r≠a):Jb (vc S a l) r=Jb S r:=by unfold Jb vc;simp only;rw[qfE _ _ _ _ (show (a:Int)≠(r:Int) by omega)]
theorem qiU (t:List UInt8) {a r:Nat} (v:UInt8) (h:r≠a):(t.set a v)[r]?.getD 0=t[r]?.getD 0:=by rw[List.getElem?_set_ne (Ne.symm h)]
theorem qhK (t:List UInt8) {a:Nat} (v:UInt8) (h:a<t.length):(t.set a v)[a]?.getD 0=v:=by rw[List.getElem?_set_self h];rfl
theorem sm_put {S:Sto} {a:Nat} (l:List UInt8) (h0:Zj S a=0) (hl:a<S.now.length):SM S (vc S a l) where
 node r nd e:=by
  by_cases hr:r=a
  ·subst hr;unfold qu at e;rw[if_pos (show (S.now[r]?.getD 0).toNat=0 from h0)] at e;cases e
  ·unfold qu at e ⊢;rw[seen_put S l hr,show (vc S a l).now[r]?.getD 0=S.now[r]?.getD 0 from qiU _ _ hr];exact e
 pos r h:=by
  by_cases hr:r=a
  ·subst hr;rw[show (vc S r l).now[r]?.getD 0=1 from qhK _ _ hl];decide
  ·rw[show (vc S a l).now[r]?.getD 0=S.now[r]?.getD 0 from qiU _ _ hr];exact h
theorem qie {S:Sto} {t:List UInt8} (h:∀ r:Nat,0<(S.now[r]?.getD 0).toNat->0<(t[r]?.getD 0).toNat):SM S (qy S t) where
 node r nd e:=by
  unfold qu at e ⊢;split at e
  ·cases e
  ·rename_i h1;rw[if_neg (by have:=h r zO;simp only;omega)];exact e
 pos:=h
theorem ZQ {t:List UInt8} {a:Nat} (h:Qn t=true) (ha:8<=a) (v:UInt8):Qn (t.set a v)=true:=by unfold Qn at *;simp only[Bool.and_eq_true,decide_eq_true_eq] at *;refine⟨by rw[List.length_set];exact h.1,?_⟩;rw[List.take_set_of_le ha];exact h.2
theorem qE {S:Sto}:qm S=true↔jD S.bs S.ws=true/\Qn S.now=true/\Qn S.last=true:=by unfold qm;simp[Bool.and_eq_true]
theorem may_put {S:Sto} (h:qm S=true) {a:Nat} (ha:8<=a) (aj:a<256) {l:List UInt8} (hl:l.length=128) (hw:S.ws.length≠4096):qm (vc S a l)=true:=by obtain⟨h1,h2,h3⟩:=qE.1 h;refine qE.2 ⟨?_,ZQ h2 ha 1,h3⟩;unfold jD headD at *;simp only[Bool.and_eq_true,decide_eq_true_eq,vc,List.length_append,List.length_singleton,List.all_append,List.all_cons,List.all_nil,Bool.and_true] at *;obtain⟨⟨g1,g2⟩,g3,g4⟩:=h1;refine⟨⟨g1,zO⟩,g3,g4,?_⟩;unfold wrOk;exact decide_eq_true ⟨zA2,zA1,hl⟩
theorem qcd {S:Sto} (h:¬Zb S=[]):zh S<256:=by
 have fZ:zh S∈Jc S 256:=by
  show zh S∈Zb S;unfold zh;rcases hf:Zb S with _|⟨x,r⟩
  ·exact absurd hf h
  ·simp
 simpa using (List.mem_filter.1 fZ).1
theorem Tz {t:List UInt8} (h:Qn t=true):t.length=256:=by unfold Qn at h;simp only[Bool.and_eq_true,decide_eq_true_eq] at h;exact h.1
theorem qaa {t:List UInt8} (h:Qn t=true):qZ t 0=0:=by
 have hl:=Tz h;unfold Qn at h;simp only[Bool.and_eq_true] at h;rcases t with _|⟨x,r⟩
 ·simp at hl
 ·have:=h.2;simp[VZ] at this;simp[qZ,this.1]
theorem qic {t t':List UInt8} {a:Nat} (ha:a=0\/8<=a) (h:Qn t=true) (e:JR t a=.ok t'):Qn t'=true:=by
 unfold JR at e;split at e
 ·cases e;exact h
 ·split at e
  ·cases e
  ·split at e
   ·cases e
   ·cases e;exact ZQ h zO _
theorem qbJ:∀ {l:List Nat} {t t':List UInt8},(∀ a∈l,a=0\/8<=a)->Qn t=true->ZC l t=.ok t'->Qn t'=true
 | [],t,t',_,h,e=>by cases e;exact h
 |a :: l,t,t',hl,h,e=>by
  simp only[ZC] at e;split at e
  ·cases e
  ·rename_i t1 e1;exact qbJ (fun b hb=>hl b (List.mem_cons_of_mem _ hb)) (qic (hl a List.mem_cons_self) h e1) e
theorem Ju:∀ {l:List Nat} {t t':List UInt8},(∀ a∈l,a=0\/8<=a)->Qn t=true->QJ l t=.ok t'->Qn t'=true
 | [],t,t',_,h,e=>by cases e;exact h
 |a :: l,t,t',hl,h,e=>by
  by_cases ha:a=0
  ·subst ha;rw[JD] at e;exact Ju (fun b hb=>hl b (List.mem_cons_of_mem _ hb)) h e
  ·by_cases h0:qZ t a=0
   ·rw[vk ha h0] at e;cases e
   ·rw[JC ha h0] at e;exact Ju (fun b hb=>hl b (List.mem_cons_of_mem _ hb)) (ZQ h (by have:=hl a List.mem_cons_self;omega) _) e
theorem qem {its:List It} (h:∀ x∈its,itB x.r x.val.length=true):∀ a∈qT its,(a=0\/8<=a)/\a<256:=fun a ha=>by obtain⟨x,hx,rfl⟩:=List.mem_map.1 ha;have:=h x hx;unfold itB at this;simp only[decide_eq_true_eq] at this;omega
theorem Xv {S:Sto} {a:Nat} {lvl:Int} {xs:List It} (h:qu S a=some (lvl,xs)):∀ r∈qT xs,(r=0\/8<=r)/\r<256:=qem fun x hx=>((qN h).2.1 x hx).2
theorem qbg {S S':Sto} {lvl:Int} {its:List It} {f:Nat} (hS:qm S=true) (h:Zz S lvl its=.ok (f,S')):∃ t,Qb lvl its=true/\ZC (qT its) S.now=.ok t/\S.ws.length≠4096/\8<=f/\f<256/\ZV (qy S t) f=true/\S'=vc (qy S t) f (Zh (Qq lvl its))/\Qn t=true:=by
 unfold Zz at h;split at h
 ·rename_i hm;split at h
  ·cases h
  ·rename_i t ht;split at h
   ·cases h
   ·rename_i hn;cases h;have h1:Zb (qy S t)≠[]:=fun e=>hn (.inl e);have fZ:zh (qy S t)∈Zb (qy S t):=by
     unfold zh;cases e:Zb (qy S t) with
     |nil=>exact absurd e h1
     |cons a l=>exact List.mem_cons_self
    have y9:ZV (qy S t) (zh (qy S t))=true:=by have:=List.mem_filter.1 (show zh (qy S t)∈(List.range 256).filter (ZV (qy S t)) from fZ);exact this.2
    have h8:8<=zh (qy S t):=by unfold ZV at y9;simp only[Bool.and_eq_true,decide_eq_true_eq] at y9;exact y9.1
    exact⟨t,hm,ht,fun e=>hn (.inr e),h8,qcd h1,y9,rfl,qbJ (fun a ha=>(qem (jx hm).2.2.2 a ha).1) (qE.1 hS).2.1 ht⟩
 ·cases h
theorem Ky {S S':Sto} {lvl:Int} {its:List It} {f:Nat} (lH:∀ x∈its,Zm x) (hS:qm S=true) (h:Zz S lvl its=.ok (f,S')):qm S'=true/\8<=f/\f<256/\S'.ws.length<=4096:=by obtain⟨t,hm,ht,hw,h8,hf,y9,rfl,htm⟩:=qbg hS h;have hl:(Zh (Qq lvl its)).length=128:=vl (by have:=Yo lvl its.length its.length lH (jx hm).2.2.1;rw[Yn] at this;omega);have h1:=may_put (S:=qy S t) (qE.2 ⟨(qE.1 hS).1,htm,(qE.1 hS).2.2⟩) h8 hf hl hw;exact⟨h1,h8,hf,(Qc h1).2.1⟩
theorem Ue {S:Sto} (hS:qm S=true) {t:List UInt8} (ht:Qn t=true):qm (qy S t)=true:=qE.2 ⟨(qE.1 hS).1,ht,(qE.1 hS).2.2⟩
theorem qbd {S:Sto}:∀ (h:Nat) {lvl:Int} {t t':List UInt8} {a:Nat},(8<=a\/qZ t a=0)->Qn t=true->Vb S h lvl t a=some t'->Qn t'=true
 |0,lvl,t,t',a,_,_,e=>by cases e
 |h+1,lvl,t,t',a,ha,ht,e=>by
  rw[vJ] at e;split at e
  ·cases e
  ·rename_i h0;have ha8:8<=a:=zO;split at e
   ·cases e;exact ZQ ht ha8 _
   ·split at e
    ·cases e
    ·rename_i l xs hn;have hr:=Xv hn;have ht0:=ZQ ht ha8 0;split at e
     ·cases e
     ·split at e
      ·have key:∀ (rs:List Nat),(∀ r∈rs,(r=0\/8<=r)/\r<256)->∀ (o:Option (List UInt8)),(∀ u,o=some u->Qn u=true)->rs.foldl (fun acc r=>acc.bind fun t=>Vb S h (l-1) t r) o=some t'->Qn t'=true:=by
        intro rs;induction rs with
        |nil=>intro _ o ho e;exact ho _ e
        |cons r rs ih =>
         intro hrs o ho e;rw[List.foldl_cons] at e;refine ih (fun q hq=>hrs q (List.mem_cons_of_mem _ hq)) _ (fun u hu=>?_) e;cases o with
         |none=>cases hu
         |some t1 =>
          have h1:=ho t1 rfl;refine qbd h (a:=r) ?_ h1 hu;rcases(hrs r List.mem_cons_self).1 with rfl|h8
          ·right;exact qaa h1
          ·exact .inl h8
       exact key _ hr _ (fun u hu=>by cases hu;exact ht0) e
      ·split at e
       ·cases e
       ·rename_i t1 e1;cases e;exact Ju (fun a ha=>(hr a ha).1) ht0 e1
theorem Ya {S:Sto} {lvl:Int} {t t':List UInt8} {a:Nat} (ha:8<=a) (ht:Qn t=true) (e:QQ S lvl t a=some t'):Qn t'=true:=qbd 7 (.inl ha) ht e
theorem Gb {lvl:Int}:∀ {ps:List (List It)} {S S':Sto} {up:List It},(∀ p∈ps,∀ x∈p,Zm x)->qm S=true->jf lvl ps S=.ok (up,S')->qm S'=true/\up.length=ps.length/\∀ y∈up,(∃ f:Nat,y.r=(f:Int)/\8<=f/\f<256)/\y.val=[]/\∃ p∈ps,qo y=kj p
 | [],S,S',up,_,hS,e=>by cases e;exact⟨hS,rfl,fun y hy=>by cases hy⟩
 |p :: ps,S,S',up,hp,hS,e=>by
  simp only[jf] at e;split at e
  ·cases e
  ·rename_i f S1 e1;obtain⟨h1,h8,hf,_⟩:=Ky (hp p List.mem_cons_self) hS e1;split at e
   ·cases e
   ·rename_i xk S2 e2;cases e;obtain⟨g1,g2,g3⟩:=Gb (fun q hq=>hp q (List.mem_cons_of_mem _ hq)) h1 e2;refine⟨g1,by simp[g2],fun y hy=>?_⟩;rcases List.mem_cons.1 hy with rfl|hy
    ·exact⟨⟨f,rfl,h8,hf⟩,rfl,p,List.mem_cons_self,rfl⟩
    ·obtain⟨k1,k2,q,hq,k3⟩:=g3 y hy;exact⟨k1,k2,q,List.mem_cons_of_mem _ hq,k3⟩
theorem Xg {l:List It} (h:∀ x∈l,Zm x):∀ p∈ZM l,∀ x∈p,Zm x:=fun p hp x hx=>by
 unfold ZM at hp;split at hp
 ·simp only[List.mem_cons,List.not_mem_nil,or_false] at hp;rcases hp with rfl|rfl
  ·exact h x (List.mem_of_mem_take hx)
  ·exact h x (List.mem_of_mem_drop hx)
 ·simp only[List.mem_cons,List.not_mem_nil,or_false] at hp;subst hp;exact h x hx
theorem qiQ {p:List It} (h:∀ x∈p,Zm x):(0<=(kj p).1/\(kj p).1<256)/\(0<=(kj p).2.1/\(kj p).2.1<4294967296)/\(0<=(kj p).2.2/\(kj p).2.2<4294967296):=by
 cases p with
 |nil=>exact⟨⟨zD,zD⟩,⟨zD,zD⟩,zD,zD⟩
 |cons x r =>
  obtain⟨h1,h2,h3,_⟩:=h x List.mem_cons_self;exact⟨h1,h2,h3⟩
theorem KM {S S':Sto} {lvl:Int} {l held up:List It} (hl:∀ x∈l,Zm x) (hh:∀ x∈held,itB x.r x.val.length=true) (hS:qm S=true) (e:QW S lvl l held=.ok (up,S')):qm S'=true/\up.length=(ZM l).length/\(∀ y∈up,Zm y/\itB y.r y.val.length=true)/\∀ y∈up,8<=y.r/\y.r<256:=by
 unfold QW at e;split at e
 ·cases e
 ·rename_i xk S1 e1;split at e
  ·cases e
  ·rename_i t e2;cases e;obtain⟨h1,h2,h3⟩:=Gb (Xg hl) hS e1;refine⟨Ue h1 (Ju (fun a ha=>(qem hh a ha).1) (qE.1 h1).2.1 e2),h2,fun y hy=>?_,fun y hy=>?_⟩
   ·obtain⟨⟨f,k1,k8,k9⟩,k2,p,hp,k3⟩:=h3 y hy;have:=qiQ (Xg hl p hp);rw[<-k3] at this;obtain⟨a1,a2,a3⟩:=this;exact⟨⟨a1,a2,a3,by rw[k1];omega,by rw[k2];simp⟩,by unfold itB;rw[k1,k2];simp;omega⟩
   ·obtain⟨⟨f,k1,k8,k9⟩,_⟩:=h3 y hy;omega
def YD (D:Nat->Prop) (B lo b g:Nat) (k:Option Nat) (S:Sto) (lvl:Int) (l held:List It) (w:World) (e:Ending) (W:World):Prop:=Qe lo b g k w W /\
 match QW S lvl l held with
 | .error er=>e=.returned (.tuple #[.slice none 0 0,.int .i64 er])
 | .ok (up,S')=>∃ k' D' A c,e=.returned (.tuple #[.slice A up.length c,.int .i64 0])/\Zx w.heap.size k k'/\Yx w.heap.size D D'/\Bch D' B lo b g k' S' W/\qm S'=true/\W.ownsRow w.heap.size 68 5 (.slice A up.length c) up.length (qY (upV up))/\∀ q,(Value.slice A up.length c).ownBlock=some q->¬D' q
theorem YD.bad {D:Nat->Prop} {B lo b g:Nat} {k:Option Nat} {S:Sto} {lvl:Int} {l held:List It} {w W:World} {er:Int} (h:QW S lvl l held=.error er) (hB:Qe lo b g k w W):YD D B lo b g k S lvl l held w (.returned (.tuple #[.slice none 0 0,.int .i64 er])) W:=by refine⟨hB,?_⟩;rw[h]
structure BdI (D:Nat->Prop) (B lo b g:Nat) (k:Option Nat) (S:Sto) (lvl:Int) (ps:List (List It)) (P:Nat) (pv:List Value) (w:World) (v i:Value) (wr:World):Prop where
 ex:∃ (j:Nat) (ups:List It) (S':Sto) (k':Option Nat) (D':Nat->Prop) (Av:Option Addr) (cv:Nat),j<=ps.length/\i=.int .i64 (j:Int)/\v=.slice Av j cv/\ups.length=j/\jf lvl (ps.take j) S=.ok (ups,S')/\qm S'=true/\Zx w.heap.size k k'/\Yx w.heap.size D D'/\Bch D' B lo b g k' S' wr/\Qe lo b g k w wr /\
  wr.ownsRow w.heap.size 68 5 (.slice Av j cv) j (qY (upV ups))/\(∀ q,(Value.slice Av j cv).ownBlock=some q->¬D' q/\P<q)/\wr.heap[P]?=some (.cells pv.toArray 47 (0,0))/\P<wr.heap.size
structure HdI (D:Nat->Prop) (B lo b g:Nat) (k:Option Nat) (S:Sto) (held:List It) (vu:Value) (wm:World) (v i:Value) (wr:World):Prop where
 ex:∃ (j:Nat) (t:List UInt8),v=vu/\j<=held.length/\i=.int .i64 (j:Int)/\QJ (qT (held.take j)) S.now=.ok t/\Bch D B lo b g k (qy S t) wr/\Qe lo b g k wm wr
theorem UR {R:Ending->World->Prop} {a:Act} {W:World} {u v:Value} (h8:a.tmps[8]?.getD undef=u) (h9:a.tmps[9]?.getD undef=v) (hd:a.defers=[]) (hR:R (.returned (.tuple #[u,v])) W):bodyPost prog Tryz.f103 R .ret a W:=by refine bodyPost_ret (v:=.tuple #[u,v]) ?_ hd hR;simp[results,results103,go_sem,h8,h9]
set_option maxRecDepth 100000 in
theorem qcG (D:Nat->Prop) (B lo b g:Nat) (k:Option Nat) (S:Sto) (hS:qm S=true) (lvl:Int) (A:Option Addr) (n c:Nat) (its:List It) (lH:∀ x∈its,Zm x) (hn0:0<its.length) (oD:its.length<=100) (loh:Nat) (vh:Value) (au:List (It×Value)) (held:List It) (tH:au.map (·.1)=held) (hh1:∀ p∈au,∃ A c,p.2=.slice A p.1.val.length c) (hhr:∀ x∈held,(x.r=0\/8<=x.r)/\x.r<256) (hhl:held.length<=100) (w:World) (h:Bch D B lo b g k S w) (hx:kh (B3 b g k) w (.slice A n c) its) (hho:w.ownsRow loh 68 5 vh held.length (qY au)):Calls prog 103 #[.pointer (some ⟨b,0,none⟩),.int .i64 lvl,.slice A n c,vh] w (YD D B lo b g k S lvl its held w):=by
 obtain⟨mF,hzb,yj,hzg,hgb,xH,yB⟩:=h.size;obtain⟨yt,iI,fH,hA⟩:=hx.now.at_;subst yt;obtain⟨bi,off,rfl,hbi⟩:=hA zO;obtain⟨Ah,ch,rfl,hcc1,hcc2⟩:=qz hho;clear hA yB;replace h:=zH h;replace hx:=zH hx;replace lH:=zH lH;replace fH:=zH fH;replace hcc2:=zH hcc2;replace hho:=zH hho;rcases Nat.lt_or_ge 5 its.length with h5|h5
 case' inl =>
  have hpo:=zH (show ZM its=[its.take 3,its.drop 3] by unfold ZM;exact if_pos h5);have e5:decide ((5:Int)<(its.length:Int))=true:=decide_eq_true zO;go_enter func103,ntmps103;go_upto_region 3 with fail;generalize hw0:World.alloc _ _=w0;have x0:Ext w w0:=by rw[<-hw0];exact zN _ _
  have z0:w.heap.size<w0.heap.size:=by rw[<-hw0];simp
  clear hw0;refine qp zQ ?_;refine qQ (w:=w0) qj (qH []) (List.replicate 4 true) 2 zQ zQ zQ zQ zQ zQ zQ ?st (Rel.drew _ _) ?walk
  case' st=>exact qk (fun _ h=>by cases h)
  case' walk =>
   intro K hK;dsimp only[qt,List.replicate];repeat ((first|(refine qd ?_ zA0 zA0 (fun W hW _=>⟨W,?_,Rel.refl _ W⟩) ?_;rotate_left;(go_simp<;>with_reducible rfl))|(refine qh zA0 ?_));try simp only[Act.put,ql,qg,qc,qf,qc,qS,zA,zB,zC])
   refine qd (.slice (some ⟨bi,off,none⟩) 3 c) zA0 zA0 (fun W hW _=>⟨W,?_,Rel.refl _ W⟩) ?_
   ·go_simp;intro wG;exfalso;omega
   simp only[Act.put,qg,qc,qf,qc,qS,zA,zB,zC];repeat ((first|(refine qd ?_ zA0 zA0 (fun W hW _=>⟨W,?_,Rel.refl _ W⟩) ?_;rotate_left;(go_simp<;>with_reducible rfl))|(refine qh zA0 ?_));try simp only[Act.put,ql,qg,qc,qf,qc,qS,zA,zB,zC])
   refine qd (.slice (some ⟨bi,off+3*5,none⟩) (its.length-3) (c-3)) zA0 zA0 (fun W hW _=>⟨W,?_,Rel.refl _ W⟩) ?_
   ·go_simp;rw[if_pos zO,if_neg zO]
   simp only[Act.put,qg,qc,qf,qc,qS,zA,zB,zC];repeat ((first|(refine qd ?_ zA0 zA0 (fun W hW _=>⟨W,?_,Rel.refl _ W⟩) ?_;rotate_left;(go_simp<;>with_reducible rfl))|(refine qh zA0 ?_));try simp only[Act.put,ql,qg,qc,qf,qc,qS,zA,zB,zC])
   refine qv (hK _ _ fun W hW hF=>?_);clear hF hK;have hW:Ext w0 W:=hW;refine zC4 ?_;go_wp2;refine Qo ?_;go_wp2_with fail;have x1:Ext w (W.alloc (.cells #[.slice (some ⟨bi,off,none⟩) 3 c,.slice (some ⟨bi,off+15,none⟩) (its.length-3) (c-3)] 47)):=(x0.trans hW).trans (zN _ _);have zP0:w.heap.size<=W.heap.size:=(x0.trans hW).size;obtain⟨ps,wO⟩:∃ ps,ps=[its.take 3,its.drop 3]:=⟨_,rfl⟩
   obtain⟨pv,uY⟩:∃ pv:List Value,pv=[.slice (some ⟨bi,off,none⟩) 3 c,.slice (some ⟨bi,off+15,none⟩) (its.length-3) (c-3)]:=⟨_,rfl⟩
   have bQ:ps.length=2:=by rw[wO];rfl
   have hel:Hid (∀ j (hj:j<ps.length),∃ bj oj cj,pv[j]?=some (.slice (some ⟨bj,oj,none⟩) ps[j].length cj)/\kh (B3 b g k) w (.slice (some ⟨bj,oj,none⟩) ps[j].length cj) ps[j]/\0<ps[j].length/\∀ x∈ps[j],Zm x):=zH fun j hj=>by
    have e3:(its.take 3).length=3:=by rw[List.length_take];omega
    rcases j with _|_|j
    ·subst wO uY;refine⟨bi,off,c,?_,?_,?_,fun x hxm=>lH.out x (List.mem_of_mem_take hxm)⟩
     ·simp only[List.getElem_cons_zero,e3];rfl
     ·simp only[List.getElem_cons_zero,e3];exact hx.out.take zO
     ·simp only[List.getElem_cons_zero,e3];omega
    ·subst wO uY;refine⟨bi,off+15,c-3,?_,?_,?_,fun x hxm=>lH.out x (List.mem_of_mem_drop hxm)⟩
     ·simp only[List.getElem_cons_succ,List.getElem_cons_zero,List.length_drop];rfl
     ·simp only[List.getElem_cons_succ,List.getElem_cons_zero,List.length_drop];exact hx.out.drop (k:=3) zO
     ·simp only[List.getElem_cons_succ,List.getElem_cons_zero,List.length_drop];omega
    ·omega
   have hPr:(W.alloc (.cells #[.slice (some ⟨bi,off,none⟩) 3 c,.slice (some ⟨bi,off+15,none⟩) (its.length-3) (c-3)] 47)).heap[W.heap.size]?=some (.cells pv.toArray 47 (0,0)):=by rw[uY];exact zI _ _ _ rfl
   have hMZ:=zH (hpo.out.trans wO.symm);clear wO uY hpo h5 e5 x0 z0 hW;generalize World.alloc W _=w1 at *;generalize W.heap.size=P at *;generalize Value.slice (some ⟨bi,off+15,none⟩) (its.length-3) (c-3)=v26;generalize Value.slice (some ⟨bi,off,none⟩) 3 c=v24;generalize Value.slice (some ⟨w.heap.size,0,none⟩) 1 1=v19
 case' inr =>
  have hpo:=zH (show ZM its=[its] by unfold ZM;exact if_neg zO);have e5:decide ((5:Int)<(its.length:Int))=false:=decide_eq_false zO;go_enter func103,ntmps103;go_wp2_with fail;have x1:Ext w (w.alloc (.cells #[.slice (some ⟨bi,off,none⟩) its.length c] 47)):=zN _ _;obtain⟨ps,wO⟩:∃ ps,ps=[its]:=⟨_,rfl⟩
  obtain⟨pv,uY⟩:∃ pv:List Value,pv=[.slice (some ⟨bi,off,none⟩) its.length c]:=⟨_,rfl⟩
  have bQ:ps.length=1:=by rw[wO];rfl
  have hel:Hid (∀ j (hj:j<ps.length),∃ bj oj cj,pv[j]?=some (.slice (some ⟨bj,oj,none⟩) ps[j].length cj)/\kh (B3 b g k) w (.slice (some ⟨bj,oj,none⟩) ps[j].length cj) ps[j]/\0<ps[j].length/\∀ x∈ps[j],Zm x):=zH fun j hj=>by
   rcases j with _|j
   ·subst wO uY;exact⟨bi,off,c,rfl,hx.out,hn0,lH.out⟩
   ·omega
  have hPr:(w.alloc (.cells #[.slice (some ⟨bi,off,none⟩) its.length c] 47)).heap[w.heap.size]?=some (.cells pv.toArray 47 (0,0)):=by rw[uY];exact zI _ _ _ rfl
  have hMZ:=zH (hpo.out.trans wO.symm);obtain⟨P,hPP⟩:∃ P,P=w.heap.size:=⟨_,rfl⟩
  rw[<-hPP] at hPr;clear wO uY hpo h5 e5;generalize World.alloc w _=w1 at *;have zP0:w.heap.size<=P:=zO;simp only[<-hPP];clear hPP
 all_goals
  clear hx lH hbi iI fH;go_loopw [8,30] (fun v i wr=>BdI D B lo b g k S lvl ps P pv w v i wr) (fun _ i _=>ps.length-(intOf i).toNat)
  case atStart=>exact⟨0,[],S,k,D,none,0,Nat.zero_le _,rfl,rfl,rfl,rfl,hS,Zx.refl _ _,Yx.refl _ _,h.out.ext x1,Qe.of_ext x1 xH,World.ownsRow_nil _ _ _ _,(fun q hq=>by cases hq),hPr,(zG.1 hPr).1⟩
  case round =>
   obtain⟨j,ups,S',k',D',Av,cv,hj,rfl,rfl,mJ,rZ,tC,hNk,hND,bz,lT,aB,hoD,hPw,hPz⟩:=hrel.ex;clear hrel hPr;have hws:=(Qc tC).2.1;by_cases hlt:j<ps.length
   ·obtain⟨bj,oj,cj,hpvj,hxj,di,hLZ⟩:=hel.out j hlt;have kP:wr.cell? ⟨P,j,none⟩=some (.slice (some ⟨bj,oj,none⟩) ps[j].length cj):=by rw[qa hPw];simpa using hpvj
    have oJ:=hxj.trans lT.keepX (B3.of_new hNk);have HM:=zH (qcF D' B lo b g k' S' lvl (some ⟨bj,oj,none⟩) ps[j].length cj ps[j] hLZ hws wr bz oJ);have ae:=zH (fun e h1=>qka hlt (e:=e) rZ h1);have aZ:=zH (fun f S'' h1=>qhD hlt (f:=f) (S'':=S'') rZ h1);have hmay:=zH (fun f S'' (h1:Zz S' lvl ps[j]=.ok (f,S''))=>(Ky hLZ tC h1).1);have oJ:=zH oJ;have d1:∀ M:Int,M=(ps.length:Int)->decide ((j:Int)<M)=true:=fun M hM=>decide_eq_true zO;have d3:∀ M:Nat,M=ps.length->j<M:=fun M hM=>zO
    first
     |(have d2:=d1 2 (by rw[bQ];rfl);have hjn:=d3 2 bQ.symm)
     |(have d2:=d1 1 (by rw[bQ];rfl);have hjn:=d3 1 bQ.symm)
    have hj1:=zH (IntWalk.wrap64_in ((j:Int)+1) zO);replace bQ:=zH bQ;generalize ps[j]=p at *;generalize hnj:p.length=nj at *;replace hnj:=zH hnj;clear hpvj hLZ hxj d1 d3 rZ tC hws;go_wp2_with fail;refine HM.out.mono ?_;clear HM;rintro e wM ⟨hkM,aT⟩;have zwr:=lT.below.size;have zM:=hkM.below.size;have nB:∀ {q cs ty fr},wr.heap[q]?=some (.cells cs ty fr)->ty≠191->ty≠5->ty≠130->¬B3 b g k' q:=fun hr h1 h2 h3=>bz.notB3 hr h1 h2 h3;have yD:=hkM.own aB (fun q hq=>by obtain⟨cur,hc⟩:=ja aB hq;exact nB hc zD zD zD);have hPM:=hkM.row hPw (nB hPw zD zD zD);have pO:=lT.trans hkM hNk;rcases hmx:Zz S' lvl p with er|⟨f,S''⟩
    ·rw[hmx] at aT;have hq:=zH (show QW S lvl its held=.error er by unfold QW;rw[hMZ.out,ae.out er hmx]);have aG:(er != 0)=true:=by rw[bne_iff_ne];exact Xu hmx
     have aT:e=.returned (.tuple #[.int .i64 0,.int .i64 er]):=aT;subst aT;clear aZ hmay ae hmx yD hPM aB hPw hoD nB bz hkM hel kP;replace pO:=zH pO;go_wp2_with fail;exact UR rfl rfl rfl (YD.bad hq.out pO.out)
    ·rw[hmx] at aT;obtain⟨rfl,k'',D'',yR,hD2,bZ⟩:e=.returned (.tuple #[.int .i64 (f:Int),.int .i64 0])/\∃ k'' D'',Zx wr.heap.size k' k''/\Yx wr.heap.size D' D''/\Bch D'' B lo b g k'' S'' wM:=aT;have hml2:=aZ.out f S'' hmx;have hS2:=hmay.out f S'' hmx;obtain⟨A',c',g0,g1,g2,-,-,-⟩:=((oJ.out.trans hkM.keepX (B3.of_new yR)).now).item 0 (by rw[hnj.out];exact di);have rX:kj p=((p[0]'(by rw[hnj.out];exact di)).k,(p[0]'(by rw[hnj.out];exact di)).i,(p[0]'(by rw[hnj.out];exact di)).o):=by
      have h0:0<p.length:=by rw[hnj.out];exact di
      rcases p with _|⟨y,r⟩
      ·simp at h0
      ·rfl
     generalize p[0]'(by rw[hnj.out];exact di)=y at *;simp only[Nat.zero_mul,Nat.add_zero] at g0 g1 g2;have hN':Zx w.heap.size k k'':=hNk.trans yR zO;have hDn':Yx w.heap.size D D'':=hND.trans hD2 zO;have hoq:∀ q,(Value.slice Av j cv).ownBlock=some q->w.heap.size<=q/\q<wr.heap.size:=fun q hq=>QM aB q hq;have aK:∀ (v':Value) (W:World),W.ownsRow w.heap.size 68 5 v' (j+1) (qY (upV ups)++[.int .u8 y.k,.int .u32 y.i,.int .u32 y.o,.int .i64 (f:Int),.slice none 0 0])->wM.grownBy W (Value.slice Av j cv).ownBlock->Below w.heap.size wM W->(v'.ownBlock=(Value.slice Av j cv).ownBlock\/∃ g,v'.ownBlock=some g/\wM.heap.size<=g) ->
       BdI D B lo b g k S lvl ps P pv w v' (.int .i64 ((j:Int)+1)) W:=fun v' W ah hg hB fG=>by
      obtain⟨A7,c7,rfl,-,-⟩:=qz ah;have aF:∀ q,q<wM.heap.size->¬OwnX (.slice Av j cv) q->W.heap[q]?=wM.heap[q]?:=fun q hq hX=>hg.block q hq fun e=>hX e.symm;have dJ:=bZ.blo;have hzW:=hg.size;have hDq:∀ q,(Value.slice Av j cv).ownBlock=some q->¬D'' q:=fun q hq hd=>(hD2 q hd).elim (fun h1=>(hoD q hq).1 h1) fun h1=>by have:=(hoq q hq).2;omega
      refine⟨j+1,ups++[qan (kj p) f],S'',k'',D'',A7,c7,zO,rfl,rfl,by simp[mJ],hml2,hS2,hN',hDn',?_,?_,?_,?_,?_,zO⟩
      ·refine bZ.keepX (X:=OwnX (.slice Av j cv)) (Below.mono hB zO) aF (fun q hq hX=>?_);rcases hq with hq|hq
       ·obtain⟨cur,hc⟩:=ja yD (show _=some q from hX);exact bZ.notB3 hc zD zD zD hq
       ·exact hDq q hX hq
      ·refine⟨pO.below.trans (Below.mono hB xH),fun q hq hn=>(aF q zO fun hX=>?_).trans (pO.rows q hq hn)⟩;have:=(hoq q hX).1;omega
      ·rw[upV_item];have:qan (kj p) f=⟨y.k,y.i,y.o,(f:Int),[]⟩:=by rw[rX];rfl
       rw[this];exact ah
      ·intro q hq;rcases fG with e1|⟨g',e1,e2⟩
       ·rw[e1] at hq;exact⟨hDq q hq,(hoD q hq).2⟩
       ·rw[e1] at hq;obtain rfl:g'=q:=by simpa using hq
        exact⟨fun hd=>by have:=(bZ.dB g' hd).2.1;omega,zO⟩
      ·refine(aF P zO fun hX=>?_).trans hPM;have:=(hoD P hX).2;omega
     replace aK:=zH aK;obtain⟨i0,hi,ag,aU,aW⟩:=info_parts Tryz.info_item;have hzz:w.heap.size<=wM.heap.size:=zO;clear aZ hmay ae hmx hPM aB hPw hoD nB bz hkM hel kP hoq bZ yR hD2 hml2 hS2 pO hN' hDn' rX;go_wp2_with (at_builtin;refine Qf ?_);refine QC.go (jh wM rfl (.tmp 45) (.tmp 52) 47 rfl w.heap.size 68 i0 _ 5 48 underlying47 hi ag aU aW rfl zD (.slice Av j cv) j (qY (upV ups)) zE yD #[.int .u8 y.k,.int .u32 y.i,.int .u32 y.o,.int .i64 (f:Int),.slice none 0 0] zE rfl zA7 zO zD hzz ?_);intro v' W ah hg hB fG;have hF:=zH (aK.out v' W ah hg hB fG);clear aK ah hg hB fG yD hi;go_wp2_with fail;try rw[hj1.out]
     refine⟨hF.out,?_⟩;simp[intOf];omega
   ·obtain rfl:j=ps.length:=zO;rw[List.take_length] at rZ;have d1:∀ M:Int,M=(ps.length:Int)->decide (((ps.length:Nat):Int)<M)=false:=fun M hM=>decide_eq_false zO
    first
     |have d2:=d1 2 (by rw[bQ];rfl)
     |have d2:=d1 1 (by rw[bQ];rfl)
    replace bQ:=zH bQ;have hbX:Hid (QW S lvl its held=match QJ (qT held) S'.now with
     | .error e=>.error e
     | .ok t=>.ok (ups,qy S' t)):=zH (by unfold QW;simp only[hMZ.out,rZ] <;> rfl)
    have hhm':=hho.out;have hGU:=lT.own hho.out (fun q hq=>by obtain⟨cur,hc⟩:=ja hho.out hq;exact h.out.notB3 hc zD zD zD);clear hPw hPz hel rZ d1 hhm';replace lT:=zH lT;replace aB:=zH aB;replace hoD:=zH hoD;replace bz:=zH bz;generalize hwm:wr=wm at *;clear hwm;go_wp2_with fail;go_loopw [8,57] (fun v i wr=>HdI D' B lo b g k' S' held (.slice Av ps.length cv) wm v i wr) (fun _ i _=>held.length-(intOf i).toNat)
    case atStart=>exact⟨0,S'.now,rfl,Nat.zero_le _,rfl,rfl,bz.out,Qe.refl _ _ _ _ _⟩
    case round =>
     obtain⟨j,t,rfl,hj,rfl,aP,rP,lq⟩:=hrel.ex;clear hrel;have hkA:=zH (lT.out.trans lq hNk);by_cases hlt:j<held.length
     ·have hlp:j<au.length:=by rw[<-tH,List.length_map] at hlt;exact hlt
      have hor:=lq.own hGU (fun q hq=>by obtain⟨cur,hc⟩:=ja hGU hq;exact bz.out.notB3 hc zD zD zD);obtain⟨bh,offh,rfl,hbh,hch⟩:=(Rd.of_own hor).2 zO;obtain⟨g0,g1,g2,g3,g4⟩:=ve au j hlp;replace g0:=hch _ _ g0;replace g1:=hch _ _ g1;replace g2:=hch _ _ g2;replace g3:=hch _ _ g3;replace g4:=hch _ _ g4;rw[<-Nat.add_assoc] at g1 g2 g3 g4;obtain⟨Ax,cx,hx2⟩:=hh1 au[j] (List.getElem_mem hlp);have hxe:au[j].1=held[j]:=by simp only[<-tH,List.getElem_map]
      rw[hx2] at g4;rw[hxe] at g0 g1 g2 g3 g4;have hrr:=hhr held[j] (List.getElem_mem hlt);have ae:=zH (fun h0 h1=>qbe hlt aP h0 h1);have aZ:=zH (fun h0 h1=>GP hlt aP h0 h1);have fC:=zH (fun h0=>GQ hlt aP h0);generalize held[j]=x at *;have hj1:=zH (IntWalk.wrap64_in ((j:Int)+1) zO);obtain⟨a,hra⟩:∃ a:Nat,x.r=(a:Int):=⟨x.r.toNat,zO⟩
      have ha9:a<256:=zO;have hsa:(x.r).toNat=a:=zO;rw[hra] at g3;rw[hsa] at ae aZ fC;have hz:=rP.size.2.2.2.2.2.1;have HL:=zH (fun W (hW:Ext wr W)=>Gx D' B lo b g k' (qy S' t) a ha9 W (rP.ext hW));replace rP:=zH rP;replace lq:=zH lq;clear hch hx2 hxe hor hra hsa hrr aP hGU hlp;rcases Nat.eq_zero_or_pos a with yS|yS
      ·subst yS;have hF:HdI D' B lo b g k' S' held (.slice Av ps.length cv) wm (.slice Av ps.length cv) (.int .i64 ((j:Int)+1)) (wr.alloc (.cells #[.int .u8 x.k,.int .u32 x.i,.int .u32 x.o,.int .i64 0,.slice Ax x.val.length cx] 68)):=⟨j+1,t,rfl,zO,rfl,fC.out rfl,rP.out.ext (zN _ _),lq.out.trans (Qe.of_ext (zN _ _) hz) (Zx.refl _ _)⟩
       replace hF:=zH hF;clear ae aZ fC HL;go_wp2_with fail;try rw[hj1.out]
       refine⟨hF.out,?_⟩;simp[intOf];omega
      ·have hza:((a:Int) == 0)=false:=by rw[beq_eq_false_iff_ne];omega
       replace yS:=zH yS;go_wp2_with fail;generalize lg:World.alloc _ _=wa;have xa:Ext wr wa:=by rw[<-lg];exact zN _ _
       clear lg g0 g1 g2 g3 g4;refine(HL.out wa xa).mono ?_;clear HL;rintro e wl ⟨hkl,aT⟩;have rY:=lq.out.trans ((Qe.of_ext xa hz).trans hkl (Zx.refl _ _)) (Zx.refl _ _);rcases aT with ⟨dU,rfl⟩|⟨dU,rfl,dJ⟩
       ·have hq:=zH (show QW S lvl its held=.error 6 by rw[hbX.out,ae.out (by have:=yS.out;omega) dU]);have yc:=zH (lT.out.trans rY hNk);clear hbX ae aZ fC hkl rY dU hkA;go_wp2_with fail;exact UR rfl rfl rfl (YD.bad hq.out yc.out)
       ·have hF:HdI D' B lo b g k' S' held (.slice Av ps.length cv) wm (.slice Av ps.length cv) (.int .i64 ((j:Int)+1)) wl:=⟨j+1,_,rfl,zO,rfl,aZ.out (by have:=yS.out;omega) dU,dJ,rY⟩
        replace hF:=zH hF;clear hbX ae aZ fC hkl rY dU dJ hkA;go_wp2_with fail;try rw[hj1.out]
        refine⟨hF.out,?_⟩;simp[intOf];omega
     ·obtain rfl:j=held.length:=zO;rw[List.take_length] at aP;have hq:QW S lvl its held=.ok (ups,qy S' t):=by rw[hbX.out,aP]
      have pV:=Ue tC (Ju (fun a ha=>by obtain⟨x,hxm,rfl⟩:=List.mem_map.1 ha;have:=hhr x hxm;omega) (qE.1 tC).2.1 aP);have hor:=lq.own aB.out (fun q hq=>by obtain⟨cur,hc⟩:=ja aB.out hq;exact bz.out.notB3 hc zD zD zD);have hR:YD D B lo b g k S lvl its held w (.returned (.tuple #[.slice Av ps.length cv,.int .i64 0])) wr:=by
       refine⟨hkA.out,?_⟩;rw[hq];refine⟨k',D',Av,cv,by rw[mJ],hNk,hND,rP,pV,?_,?_⟩
       ·rw[mJ];exact hor
       ·rw[mJ];exact fun q hq=>(hoD.out q hq).1
      replace hR:=zH hR;clear hor pV hq rP lq aP hbX hkA hGU;go_wp2_with fail;exact UR rfl rfl rfl hR.out
def jH (D:Nat->Prop) (B lo b g:Nat) (k:Option Nat) (S:Sto) (a:Nat) (w:World) (e:Ending) (W:World):Prop:=Qe lo b g k w W /\
 match QQ S (-1) S.now a with
 |none=>e=.returned (.int .i64 8)
 |some t=>e=.returned (.int .i64 0)/\Bch D B lo b g k (qy S t) W
theorem jH.bad {D:Nat->Prop} {B lo b g:Nat} {k:Option Nat} {S:Sto} {a:Nat} {w W:World} (h:QQ S (-1) S.now a=none) (hB:Qe lo b g k w W):jH D B lo b g k S a w (.returned (.int .i64 8)) W:=by refine⟨hB,?_⟩;rw[h]
theorem jH.good {D:Nat->Prop} {B lo b g:Nat} {k:Option Nat} {S:Sto} {a:Nat} {t:List UInt8} {w W:World} (h:QQ S (-1) S.now a=some t) (hB:Qe lo b g k w W) (hb:Bch D B lo b g k (qy S t) W):jH D B lo b g k S a w (.returned (.int .i64 0)) W:=by refine⟨hB,?_⟩;rw[h];exact⟨rfl,hb⟩
structure L0I (D:Nat->Prop) (B lo b g:Nat) (k:Option Nat) (S:Sto) (t0:List UInt8) (xs:List It) (wB:World) (v i:Value) (wr:World):Prop where
 ex:∃ (j:Nat) (t:List UInt8),v=.int .i64 0/\j<=xs.length/\i=.int .i64 (j:Int)/\QJ (qT (xs.take j)) t0=.ok t/\Bch D B lo b g k (qy S t) wr/\Qe lo b g k wB wr
theorem Bch.fresh {D:Nat->Prop} {B lo b g:Nat} {k:Option Nat} {S:Sto} {w0 w W:World} (h0:Bch D B lo b g k S w0) {S':Sto} (h:Bch D B lo b g k S' w) (hx:Below w0.heap.size w W):Bch D B lo b g k S' W:=by have h6:=h0.size.2.2.2.2.2.1;have h1:=h0.blo;exact h.keep (Below.mono hx zO) fun q hq=>hx.block q (hq.elim (fun h2=>(h0.b3 q h2).2) fun h2=>(h0.dB q h2).2.1)
end Go.Proofs.YtpbniokljofedaaGreat
