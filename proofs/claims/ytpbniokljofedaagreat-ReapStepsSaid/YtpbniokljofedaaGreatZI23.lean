/- Texts PutI, PutD, Once, Way, Tall, LeaveW, LoopM, LoopD, joined. -/
import Derived.Deep.LoopGhost
import Derived.Test.YtpbniokljofedaaGreatZI22
set_option linter.unusedSimpArgs false
set_option linter.unusedVariables false
set_option maxHeartbeats 8000000
open Go.Proofs.Tryz
namespace Go.Proofs.YtpbniokljofedaaGreat
open Go.RowKit
section
variable {w W:World}
theorem Rd.ck {B size n:Nat} {A:Option Addr} {xs:List Value} (h:Rd w B size A n xs) (hk:Qf w W):Rd W B size A n xs:=⟨h.1,fun hn=>by obtain⟨b,off,e,hb,hc⟩:=h.2 hn;exact⟨b,off,e,hb,fun j u hu=>hk.cell (hc j u hu)⟩⟩
theorem Bys.ck {B:Nat} {v:Value} {l:List UInt8} (h:Bys w B v l) (hk:Qf w W):Bys W B v l:=by obtain⟨A,c,e,hc,hm,hr⟩:=h;exact⟨A,c,e,hc,hm,hr.ck hk⟩
theorem Bls.ck {B:Nat} {v:Value} {bs:List (List UInt8)} (h:Bls w B v bs) (hk:Qf w W):Bls W B v bs:=by obtain⟨vs,A,c,e,h1,h2,h3,h4⟩:=h;exact⟨vs,A,c,e,h1,h2,h3.ck hk,fun i u l hu hl=>(h4 i u l hu hl).ck hk⟩
theorem Qa.of_ck (X:Nat->Prop) (hk:Qf w W):Qa X w W:=fun _ _ _ hv=>hk.cell hv
theorem Bch.ck {D:Nat->Prop} {B lo b g:Nat} {k:Option Nat} {S:Sto} (h:Bch D B lo b g k S w) (hk:Qf w W):Bch D B lo b g k S W:=by
 obtain⟨A1,n1,c1,v2,c3,A4,c4,mY,ho,⟨ps,e,hw,hp⟩,h1,h4⟩:=h.ex;refine⟨h.lob,h.blo,fun q hq=>⟨(h.dB q hq).1,by have:=(h.dB q hq).2.1;have:=hk.size;omega,(h.dB q hq).2.2⟩,A1,n1,c1,v2,c3,A4,c4,hk.row mY,Vz ho hk,⟨ps,e,?_,fun p ai=>⟨(hp p ai).1,fun C hC=>(hp p ai).2 C ((Qa.of_ck _ hk).trans hC fun _ _ h=>h)⟩⟩,h1.ck hk,h4.ck hk⟩;rcases hw with ⟨e,hm,A,e2,hr⟩|⟨q,e,e2,how⟩
 ·exact .inl ⟨e,hm,A,e2,hr.ck hk⟩
 ·exact .inr ⟨q,e,e2,Vz how hk⟩
end
theorem JZ.of_own {X:Nat->Prop} {w:World} {lo n:Nat} {v:Value} {ps:List (It×Value)} (ho:w.ownsRow lo 68 5 v n (qP ps)) (hl:ps.length=n) (hX:∀ q,v.ownBlock=some q->¬X q) (hp:∀ p∈ps,(∃ A c,p.2=.slice A p.1.val.length c)/\∀ C,Qa X w C->Bys C C.heap.size p.2 p.1.val):JZ X w v (ps.map (·.1)):=fun C hC=>by
 have oV:∀ A c,v=.slice A n c->Rd C C.heap.size 5 A n (qP ps):=fun A c e=>by
  refine⟨ho.1,fun hn=>?_⟩;rcases ho.2 with ⟨_,h0⟩|⟨g,cap,cur,hv,hb,hg,fP,_,hsz,nN⟩
  ·omega
  ·have aN:¬X g:=hX g (by rw[hv];rfl);rw[hv] at e;cases e;have hc:∀ j u,(qP ps)[j]?=some u->w.cell? ⟨g,0+j,none⟩=some u:=fun j u hu=>by
    rw[Nat.zero_add,qa hg,<-Array.getElem?_toList];rw[<-nN,List.getElem?_take] at hu;split at hu
    ·exact hu
    ·cases hu
   have hl0:0<(qP ps).length:=by rw[ho.1];omega
   exact⟨g,0,rfl,World.block_lt_of_cell? C ⟨g,0+0,none⟩ (hC _ _ aN (hc 0 _ (zL hl0))),fun j u hu=>hC _ _ aN (hc j u hu)⟩
 obtain⟨A,c,rfl,h1,h2⟩:=qy ho;subst hl;exact⟨ps,rfl,⟨A,c,by rw[List.length_map],by rw[List.length_map];exact h1,h2,by rw[List.length_map];exact oV A c rfl⟩,fun p ai=>⟨(hp p ai).1,(hp p ai).2 C hC⟩⟩
theorem Bch.others {D:Nat->Prop} {B lo b g:Nat} {k:Option Nat} {S:Sto} {w W:World} (h:Bch D B lo b g k S w) (hk:qY lo b g k w W):KeepsOthers w W:=⟨hk.below.size,fun q o hq ho=>by
 refine hk.row hq fun hx=>?_;obtain⟨A1,n1,c1,v2,c3,A4,c4,mY,bT,⟨ps,_,hw,_⟩,_,_⟩:=h.ex;have key:∀ cs ty fr,w.heap[q]?=some (.cells cs ty fr)->False:=fun cs ty fr hc=>by rw[hc] at hq;cases hq;cases ho
 rcases hx with rfl|rfl|e
 ·exact key _ _ _ mY
 ·obtain⟨cur,hg⟩:=Zl bT rfl;exact key _ _ _ hg
 ·rcases hw with ⟨e1,_⟩|⟨q',e1,e2,how⟩
  ·rw[e1] at e;cases e
  ·rw[e1] at e;cases e;obtain⟨cur,hg⟩:=Zl how e2;exact key _ _ _ hg⟩
def sAt (l:List Stp) (x:Nat):Stp:=l[x]?.getD (0,[],0)
theorem sAt_ok {k:K3} {l:List Stp} (h:∀ s∈l,qcH k s) (x:Nat):qcH k (sAt l x):=by
 unfold sAt;rcases hx:l[x]? with _|s
 ·exact⟨zA1,(fun y hy=>by cases hy),Nat.zero_le _,zM _,fun h=>absurd h (Nat.lt_irrefl 0),fun _=>rfl⟩
 ·exact h s (List.mem_of_getElem? hx)
theorem qei (l:List Stp) (k:Nat) (hk:k<=l.length):(Zn (fun j=>l.length-1-j) k).map (sAt l)=l.reverse.take k:=by
 apply List.ext_getElem?;intro i;unfold Zn;rw[List.getElem?_map,List.getElem?_map,List.getElem?_take];by_cases hi:i<k
 ·rw[List.getElem?_range hi,if_pos hi,List.getElem?_reverse zO];simp only[Option.map_some,sAt];rw[zL zO];simp
 ·rw[List.getElem?_eq_none zA2,if_neg hi];rfl
structure PutI (K:K3) (l:List Stp) (S:Sto) (x:It) (B0 lo b g UB TB SB w2:Nat) (w3:World) (xv sv_:Value) (pre:List Nat) (W:World):Prop where
 ex:∃ (ups:List It) (S':Sto) (k':Option Nat) (D':Nat->Prop) (Au:Option Addr) (cu:Nat) (cZ:List (It×Value)),ju K (pre.map (sAt l)) [x] S=.ok (ups,S')/\qo S'=true/\0<ups.length/\ups.length<=2/\cZ.map (·.1)=ups /\
  (∀ y∈ups,jq y/\(y.r=0\/8<=y.r)/\y.r<256)/\(∀ p∈cZ,(∃ A c,p.2=.slice A p.1.val.length c)/\Bys W B0 p.2 p.1.val)/\W.heap[UB]?=some (.cells #[.slice Au ups.length cu] 47 (0,0))/\W.ownsRow 0 68 5 (.slice Au ups.length cu) ups.length (qP cZ)/\Bch D' B0 lo b g k' S' W
 rx:W.heap[B0+1]?=some (.cells #[.int .u8 x.k,.int .u32 x.i,.int .u32 x.o,.int .i64 x.r,xv] 68 (0,0))
 r2:W.heap[B0+2]?=some (.cells #[.slice none 0 0,.slice none 0 0,.slice none 0 0,.slice none 0 0] 28 (0,0))
 r3:W.heap[B0+3]?=some (.cells #[.int .i64 0] 3 (0,0))
 r4:W.heap[B0+4]?=some (.cells #[.int .i64 0] 36 (0,0))
 rT:W.heap[TB]?=some (.cells #[.pointer (some ⟨b,0,none⟩)] 80 (0,0))
 rS:W.heap[SB]?=some (.cells #[sv_] 153 (0,0))
 kx:Qa (fun q=>q<w2) w3 W
theorem PutI.ck {K:K3} {l:List Stp} {S:Sto} {x:It} {B0 lo b g UB TB SB w2:Nat} {w3:World} {xv sv_:Value} {pre:List Nat} {w W:World} (h:PutI K l S x B0 lo b g UB TB SB w2 w3 xv sv_ pre w) (hk:Qf w W):PutI K l S x B0 lo b g UB TB SB w2 w3 xv sv_ pre W:=by obtain⟨ups,S',k',D',Au,cu,cZ,h1,h2,h3,h4,h5,h6,h7,h8,h9,h10⟩:=h.ex;exact⟨⟨ups,S',k',D',Au,cu,cZ,h1,h2,h3,h4,h5,h6,fun p hp=>⟨(h7 p hp).1,(h7 p hp).2.ck hk⟩,hk.row h8,Vz h9 hk,h10.ck hk⟩,hk.row h.rx,hk.row h.r2,hk.row h.r3,hk.row h.r4,hk.row h.rT,hk.row h.rS,h.kx.trans (Qa.of_ck _ hk) fun _ _ h=>h⟩
theorem kE {S S':Sto} {lvl:Int} {l held up:List It} (hl:∀ x∈l,jq x) (hh:∀ x∈held,(x.r=0\/8<=x.r)/\x.r<256) (hS:qo S=true) (e:QZ S lvl l held=.ok (up,S')):qo S'=true/\(0<up.length/\up.length<=2)/\∀ y∈up,jq y/\(8<=y.r/\y.r<256)/\y.val=[]:=by
 unfold QZ at e;split at e
 ·cases e
 ·rename_i up1 S1 e1;split at e
  ·cases e
  ·rename_i t e2;cases e;obtain⟨h1,h2,h3⟩:=qbf (qdX hl) hS e1;refine⟨Yo h1 (Jp (fun a ha=>by obtain⟨x,hx,rfl⟩:=List.mem_map.1 ha;have:=hh x hx;omega) (qZ.1 h1).2.1 e2),?_,fun y hy=>?_⟩
   ·rw[h2];unfold Vi;split <;> simp
   ·obtain⟨⟨f,k1,k8,k9⟩,k2,p,hp,k3⟩:=h3 y hy;have:=key0_ok (qdX hl p hp);rw[<-k3] at this;obtain⟨a1,a2,a3⟩:=this;exact⟨⟨a1,a2,a3,by rw[k1];omega,by rw[k2];simp⟩,zO,k2⟩
theorem qff {k:K3} {ps:List Stp} {j:Nat} {up:List It} {S:Sto} {e:Int} (h:ju k (ps.take j) up S=.error e):ju k ps up S=.error e:=by have:ps=ps.take j++ps.drop j:=(List.take_append_drop _ _).symm;rw[this,kJ,h]
theorem Vl {W C:World} {U E:Nat} {u v u0 v0:Value} {xO nS:TypeId} (hU:W.heap[U]?=some (.cells #[u0] xO (0,0))) (hE:W.heap[E]?=some (.cells #[v0] nS (0,0))) (aN:U≠E) (hC:C=(W.setCell ⟨U,0,none⟩ u).setCell ⟨E,0,none⟩ v):C.heap[U]?=some (.cells #[u] xO (0,0))/\C.heap[E]?=some (.cells #[v] nS (0,0))/\(∀ k,k≠U->k≠E->C.heap[k]?=W.heap[k]?)/\C.heap.size=W.heap.size/\KeepsOthers W C/\∀ {B:Nat} {w0:World},B<=U->B<=E->Below B w0 W->Below B w0 C:=by
 subst hC;have hs:=fun (A:World) (b j:Nat) (v:Value) (k:Nat) (hk:k≠b)=>zJ A ⟨b,j,none⟩ v k hk;refine⟨?_,?_,fun k h1 h2=>?_,zA3,(KeepsOthers.setCell _ _ _).trans (KeepsOthers.setCell _ _ _),fun h1 h2 h=>Below.setCell (Below.setCell h (p:=⟨U,0,none⟩) h1 _) (p:=⟨E,0,none⟩) h2 _⟩
 ·rw[hs _ _ _ _ _ aN];exact qi hU 0 u
 ·refine qi (t:=nS) (cs:=#[v0]) ?_ 0 v;rw[hs _ _ _ _ _ (fun e=>aN e.symm)];exact hE
 ·rw[hs _ _ _ _ _ h2,hs _ _ _ _ _ h1]
def qbk (lo:Nat) (S:Sto):qS:=⟨(Nat×Nat)×(Option Addr×Nat)×(Option Addr×Nat),fun p=>Qd (some ⟨p.1.1,0,none⟩) S.bs.length S.bs.length (some ⟨p.1.2,0,none⟩) S.ws.length (S.ws.length+1) p.2.1.1 S.now.length p.2.1.2 p.2.2.1 S.last.length p.2.2.2,fun p W=>QF lo S (Qd (some ⟨p.1.1,0,none⟩) S.bs.length S.bs.length (some ⟨p.1.2,0,none⟩) S.ws.length (S.ws.length+1) p.2.1.1 S.now.length p.2.1.2 p.2.2.1 S.last.length p.2.2.2) W⟩
theorem Qn (lo:Nat) (S:Sto) (b c:Nat) (A3:Option Addr) (c3:Nat) (A4:Option Addr) (c4:Nat):(qbk lo S).f ((b,c),(A3,c3),(A4,c4))=Qd (some ⟨b,0,none⟩) S.bs.length S.bs.length (some ⟨c,0,none⟩) S.ws.length (S.ws.length+1) A3 S.now.length c3 A4 S.last.length c4:=rfl
structure PutD (q:Except Int (List It×Sto)) (B0 lo b g UB TB D:Nat) (w W:World):Prop where
 ex:∃ (ups:List It) (S':Sto) (k':Option Nat) (D':Nat->Prop) (Au:Option Addr) (cu:Nat) (cZ:List (It×Value)),q=.ok (ups,S')/\qo S'=true/\0<ups.length/\cZ.map (·.1)=ups /\
  W.heap[UB]?=some (.cells #[.slice Au ups.length cu] 47 (0,0))/\W.ownsRow 0 68 5 (.slice Au ups.length cu) ups.length (qP cZ)/\Bch D' B0 lo b g k' S' W/\∀ y∈ups,(y.r=0\/8<=y.r)/\y.r<256
 r2:W.heap[B0+2]?=some (.cells #[.slice none 0 0,.slice none 0 0,.slice none 0 0,.slice none 0 0] 28 (0,0))
 r3:W.heap[B0+3]?=some (.cells #[.int .i64 0] 3 (0,0))
 r4:W.heap[B0+4]?=some (.cells #[.int .i64 0] 36 (0,0))
 rT:W.heap[TB]?=some (.cells #[.pointer (some ⟨b,0,none⟩)] 80 (0,0))
 hK:W.heap[D]?=some (.deferred (some []))
 below:Below B0 w W
theorem Bch.kept {D:Nat->Prop} {B lo b g:Nat} {k:Option Nat} {S:Sto} {w W:World} (h:Bch D B lo b g k S w) (hB:Below B w W) (hr:∀ q,lo<=q->q<w.heap.size->W.heap[q]?=w.heap[q]?):Bch D B lo b g k S W:=
 h.keep hB fun q hq=>hq.elim (fun h2=>hr q (h.b3 q h2).1 (h.b3 q h2).2) fun h2=>hr q (h.dB q h2).1 (h.dB q h2).2.1
def jt:qS:=⟨Unit,fun _=>undef,fun _ _=>True⟩
theorem Qk (u:Unit):jt.f u=undef:=rfl
theorem jo {R:Rel}:∀ p,qC R (jt.φ p):=fun _ _ _ _ _=>trivial
theorem JF {P:Program} {o:Oper} {a:Act} {W W':World} (hr:(execOp a.eval o).run P W=.ok .skip W') (hx:Ext W W'):QC qk P o a W jt:=vj hr ⟨(),rfl,trivial,hx⟩
theorem same1 {w:World} {b:Nat} {x0:Value} {ty:TypeId} (h:w.heap[b]?=some (.cells #[x0] ty (0,0))):Ext w (w.setCell ⟨b,0,none⟩ x0):=Qo h rfl
theorem same4 {w:World} {b:Nat} {x0 x1 x2 x3:Value} {ty:TypeId} (h:w.heap[b]?=some (.cells #[x0,x1,x2,x3] ty (0,0))):Ext w ((((w.setCell ⟨b,0,none⟩ x0).setCell ⟨b,1,none⟩ x1).setCell ⟨b,2,none⟩ x2).setCell ⟨b,3,none⟩ x3):=by have e0:=Qo (j:=0) (v:=x0) h rfl;have h0:=qb h e0;have e1:=Qo (j:=1) (v:=x1) h0 rfl;have h1:=qb h0 e1;have e2:=Qo (j:=2) (v:=x2) h1 rfl;have h2:=qb h1 e2;exact((e0.trans e1).trans e2).trans (Qo (j:=3) (v:=x3) h2 rfl)
def jR (B:Nat) (ty:TypeId) (Φ:Array Value->World->Prop) (hΦ:∀ cs W W',W.grownBy W' (some B)->Φ cs W->Φ cs W'):Rel where
 rel W W':=W.grownBy W' (some B)/\(B<W.heap.size->W'.heap[B]?=W.heap[B]?\/∃ cs,W'.heap[B]?=some (.cells cs ty (0,0))/\Φ cs W')
 refl' W:=⟨World.grownBy.refl _ _,fun _=>.inl rfl⟩
 trans' h k:=⟨h.1.trans k.1,fun hb=>by
  rcases k.2 (Nat.lt_of_lt_of_le hb h.1.size) with e|e
  ·rw[e];rcases h.2 hb with e1|⟨cs,e1,e2⟩
   ·exact .inl e1
   ·exact .inr ⟨cs,e1,hΦ _ _ _ k.1 e2⟩
  ·exact .inr e⟩
 drew' W:=⟨⟨rfl,rfl,rfl,zM _,fun _ _ _=>rfl⟩,fun _=>.inl rfl⟩
section
variable {B:Nat} {ty:TypeId} {Φ:Array Value->World->Prop} {hΦ:∀ cs W W',W.grownBy W' (some B)->Φ cs W->Φ cs W'}
theorem GU {W W':World} (h:Ext W W'):(jR B ty Φ hΦ).r W W':=⟨zy h _,fun hb=>.inl (h.block B hb)⟩
theorem Zx {W W':World} (h:(jR B ty Φ hΦ).r W W') {b:Nat} {o:Obj} (hp:b≠B) (hc:W.heap[b]?=some o):W'.heap[b]?=some o:=
 (h.1.block b (zG.1 hc).1 (fun x=>hp (by simpa using x))).trans hc
theorem GV {W W':World} (h:(jR B ty Φ hΦ).r W W') {o:Obj} (hc:W.heap[B]?=some o):W'.heap[B]?=some o\/∃ cs,W'.heap[B]?=some (.cells cs ty (0,0))/\Φ cs W':=by
 have:=h.2 (zG.1 hc).1
 rwa [hc] at this
theorem vn {W W':World} {B0:Nat} (h:(jR B ty Φ hΦ).r W W') (h1:B0<=B) (h2:B0<=W.heap.size):Below B0 W W':=(Below.refl _ _).grown h.1 h2 (fun g hg=>by simp at hg;omega)
theorem Kg {W W':World} (h:(jR B ty Φ hΦ).r W W') {k:Nat} (hk:k<W.heap.size) (hp:k≠B):W'.heap[k]?=W.heap[k]?:=h.1.block k hk fun x=>hp (by simpa using x)
theorem YK {lo:Nat} {S:Sto} (hB:B<lo):∀ p,qC (jR B ty Φ hΦ) ((qbk lo S).φ p):=fun p W W' he h =>
 QF.keep h (zM _) he.1.size fun b h1 hb=>Kg he hb zO
def Vg (B:Nat) (ty:TypeId) (Φ:Array Value->World->Prop):qS:=⟨Unit,fun _=>undef,fun _ W=>∃ cs,W.heap[B]?=some (.cells cs ty (0,0))/\Φ cs W⟩
theorem qR (u:Unit):(Vg B ty Φ).f u=undef:=rfl
theorem KT:∀ p,qC (jR B ty Φ hΦ) ((Vg B ty Φ).φ p):=fun _ W W' he ⟨cs,h1,h2⟩=>by
 rcases GV he h1 with e|e
 ·exact⟨cs,e,hΦ _ _ _ he.1 h2⟩
 ·exact e
theorem qdx {P:Program} {o:Oper} {a:Act} {W w':World} {cs:Array Value} (hr:(execOp a.eval o).run P W=.ok .skip w') (hg:W.grownBy w' (some B)) (hw:w'.heap[B]?=some (.cells cs ty (0,0))) (hp:Φ cs W):QC (jR B ty Φ hΦ) P o a W (Vg B ty Φ):=
 vj hr ⟨(),rfl,⟨cs,hw,hΦ _ _ _ hg hp⟩,hg,fun _=>.inr ⟨cs,hw,hΦ _ _ _ hg hp⟩⟩
end
def QW (lo:Nat) (S:Sto) (cs:Array Value) (W:World):Prop:=∃ x0 x1 x2 x3,cs=#[x0,x1,x2,x3]/\QF lo S (.agg cs) W
theorem QW.keep {lo:Nat} {S:Sto} {B:Nat} (hB:B<lo):∀ cs W W',W.grownBy W' (some B)->QW lo S cs W->QW lo S cs W':=fun cs W W' hg h=>by obtain⟨x0,x1,x2,x3,e,hT⟩:=h;exact⟨x0,x1,x2,x3,e,QF.keep hT (zM _) hg.size fun k h1 hk=>hg.block k hk fun e=>by simp at e;omega⟩
theorem TY {P:Program} {o:Oper} {a:Act} {W:World} {lo B:Nat} {S:Sto} {ty:TypeId} {x0 x1 x2 x3:Value} (hB:B<lo) (h:∃ u0 u1 u2 u3,W.heap[B]?=some (.cells #[u0,u1,u2,u3] ty (0,0))) (hT:QF lo S (.agg #[x0,x1,x2,x3]) W) (hr:(execOp a.eval o).run P W=.ok .skip ((((W.setCell ⟨B,0,none⟩ x0).setCell ⟨B,1,none⟩ x1).setCell ⟨B,2,none⟩ x2).setCell ⟨B,3,none⟩ x3)):QC (jR B ty (QW lo S) (QW.keep hB)) P o a W (Vg B ty (QW lo S)):=by
 obtain⟨u0,u1,u2,u3,h⟩:=h;exact qdx hr (Qv.trans (Qv.trans (Qv.trans Qv))) (Xn h x0 x1 x2 x3) ⟨x0,x1,x2,x3,rfl,hT⟩
theorem qes {W W':World} {lo B:Nat} {S:Sto} {ty:TypeId} (hB:B<lo) {u0 u1 u2 u3:Value} (h:(jR B ty (QW lo S) (QW.keep hB)).r W W') (hc:W.heap[B]?=some (.cells #[u0,u1,u2,u3] ty (0,0))):∃ u0 u1 u2 u3,W'.heap[B]?=some (.cells #[u0,u1,u2,u3] ty (0,0)):=by
 rcases GV h hc with e|⟨cs,e,x0,x1,x2,x3,rfl,_⟩
 ·exact⟨_,_,_,_,e⟩
 ·exact⟨_,_,_,_,e⟩
structure WyI (S:Sto) (K:K3) (full:List Stp) (lo:Nat) (w1:World) (v i:Value) (wr:World):Prop where
 ex:∃ (h r:Nat) (ys:List It) (pre:List Stp) (Av:Option Addr) (cv:Nat),v=.slice Av pre.length cv/\i=.int .i64 (r:Int)/\8<=r/\r<256/\qv S r=some ((h:Int),ys)/\(Qg S h ys).isSome=true/\full=pre++VD S K h ys/\pre.length+h<6/\jK lo wr v pre/\Below lo w1 wr
set_option maxRecDepth 100000 in
theorem way_any (A1:Option Addr) (n1 c1:Nat) (A2:Option Addr) (n2 c2:Nat) (A3:Option Addr) (n3 c3:Nat) (A4:Option Addr) (n4 c4:Nat) (S:Sto) (hS:qo S=true) (a lvl:Nat) (xs:List It) (ha:8<=a) (bK:a<256) (hn:qv S a=some ((lvl:Int),xs)) (aU:(Qg S lvl xs).isSome=true) (k i o:Int) (w:World) (aH:qU w w.heap.size (.slice A1 n1 c1) (.slice A2 n2 c2) (.slice A3 n3 c3) (.slice A4 n4 c4) S):Calls prog 98 #[Qd A1 n1 c1 A2 n2 c2 A3 n3 c3 A4 n4 c4,.int .i64 (a:Int),keyV k i o] w (QV (fun u W=>YU w.heap.size W u (VD S (k,i,o) lvl xs)) w):=by
 obtain⟨i0,hi,aY,aV,aX⟩:=info_parts Tryz.info_step;obtain⟨full,gJ⟩:∃ full,VD S (k,i,o) lvl xs=full:=⟨_,rfl⟩
 rw[gJ];have hl6:lvl<6:=by have:=zt hn;omega
 have HI0:=zH (fun W=>(⟨⟨lvl,a,xs,[],none,0,rfl,rfl,ha,bK,hn,aU,gJ.symm,by simpa using hl6,jK.nil _ _,Below.refl _ _⟩⟩:WyI S (k,i,o) full W.heap.size W (.slice none 0 0) (.int .i64 (a:Int)) W));have HN:=zH (fun (r:Nat) W (hx:Ext w W)=>Yt A1 n1 c1 A2 n2 c2 A3 n3 c3 A4 n4 c4 S (r:Int) W (aH.ext hx));replace hS:=zH hS;replace hi:=zH hi;clear aH hn aU gJ ha bK hl6;go_enter func98,ntmps98;go_wp2_with fail;generalize aA:(World.alloc (World.alloc w _) _)=w1;have x1:Ext w w1:=by rw[<-aA];exact(zN _ _).trans (zN _ _)
 have uX:w1.heap[w.heap.size]?=some (.cells #[.slice A1 n1 c1,.slice A2 n2 c2,.slice A3 n3 c3,.slice A4 n4 c4] 28 (0,0)):=by rw[<-aA];exact(zK _ _ _ zA3).trans (zI _ _ _ rfl)
 have rk1:w1.heap[w.heap.size+1]?=some (.cells #[.int .u8 k,.int .u32 i,.int .u32 o] 66 (0,0)):=by rw[<-aA];exact zI _ _ _ zA3
 have z1:w.heap.size<=w1.heap.size:=by rw[<-aA];simp;omega
 clear aA;have I0:=zH (HI0.out w1);clear HI0;go_wp2_with fail;go_loopw [6,7] (fun v j wr=>WyI S (k,i,o) full w1.heap.size w1 v j wr) (fun _ j _=>Km S j)
 case atStart=>exact I0.out
 case round =>
  obtain⟨h,r,ys,pre,Av,cv,rfl,rfl,h8,h256,hn,aU,gJ,hlen,hso,xr⟩:=hrel.ex;clear I0 hrel;have hlv:=XM hn;obtain⟨hm1,iL,-⟩:=Qc hn;have wH:ys.length<=5:=by unfold Qe jv at hm1;simp at hm1;omega
  have eH:0<h->0<ys.length:=fun h0=>qbZ hm1 h0;have xr1:Ext w1 wr:=xr;have HNr:=HN.out r wr (x1.trans xr1);rw[show ZQ S (r:Int)=0 by rw[Xu hS.out h8 h256,if_neg (show ¬ZE S r=0 from fun e=>by unfold qv at hn;rw[if_pos (show (S.now[r]?.getD 0).toNat=0 from e)] at hn;cases hn)],if_pos rfl,Int.toNat_natCast,hn] at HNr;have rsr:=qb uX xr1;have rkr:=qb rk1 xr1;have ksr:=qa rsr;replace aU:=zH aU;replace hn:=zH hn;replace iL:=zH iL;replace gJ:=zH gJ;replace hso:=zH hso;replace hlv:=zH hlv;replace eH:=zH eH;clear hm1;go_wp2_with fail;refine HNr.mono ?_;clear HNr;rintro e w4 ⟨u,rfl,⟨A9,c9,rfl,aG⟩,hB⟩;have hB:Ext wr w4:=hB;have xx4:Ext w1 w4:=xr1.trans hB;have yh:=qb rkr hB;have so4:=zH (hso.out.ext hB);have z4:w.heap.size+1<w4.heap.size:=(zG.1 yh).1;have kk4:=qa yh;have zwr:w1.heap.size<=wr.heap.size:=xr.size;have z4r:wr.heap.size<=w4.heap.size:=hB.size;replace aG:=zH aG;have hso':Hid (∀ q,(Value.slice Av pre.length cv).ownBlock=some q->q<wr.heap.size):=zH fun q hq=>by obtain⟨ps,-,ho,-⟩:=hso.out;exact(Ql ho q hq).2
  clear hB rsr rkr ksr hso xr xr1;go_wp2_with fail;generalize aK:(World.alloc w4 _)=w5;have af:Ext w4 w5:=by rw[<-aK];exact zN _ _
  have uV:w5.heap[w4.heap.size]?=some (.cells #[.int .i64 h,.slice A9 ys.length c9] 49 (0,0)):=by rw[<-aK];exact zI _ _ _ rfl
  clear aK;have rk5:=qb yh af;have kn5:=qa uV;have kk5:=qa rk5;clear kk4;go_wp2_with fail;refine(TA (h:Int) A9 c9 ys k i o _ w5 wH (aG.out.ext af)).mono ?_;rintro e w6 ⟨rfl,hB⟩;have dW:Ext w4 w6:=af.trans hB;have wO:=qb uV hB;have kn6:=qa wO;have dm:=zH (aG.out.ext dW);have xx6:Ext w1 w6:=xx4.trans dW;have so6:=zH (so4.out.ext dW);clear uV af hB dW yh rk5 kk5 kn5 xx4 aG so4;obtain⟨ax,lL,hsx⟩:=dm.out.toE (X:=OwnL w1.heap.size (.slice Av pre.length cv)) (fun q hq hx=>hx.elim (fun h1=>by have:=hso'.out q h1;omega) fun h1=>zO);replace hsx:=zH hsx;replace lL:=zH lL;have hA:=dm.out.its.at_.2.2.2;clear dm;obtain⟨ie,iZ⟩:∃ ie,Kv ys (k,i,o)=ie:=⟨_,rfl⟩
  obtain⟨p,hp⟩:∃ p,qG ys (k,i,o)=p:=⟨_,rfl⟩
  have rD:=JJ ys (k,i,o);rw[iZ,hp];rw[hp] at rD;obtain⟨ps,e0,ho,iF⟩:=so6.out;have bP:∀ W':World,w6.grownBy W' (Value.slice Av pre.length cv).ownBlock->Qa (OwnL w1.heap.size (.slice Av pre.length cv)) w6 W':=fun W' hg=>Qa.of_heap fun q hq hX=>hg.block q hq fun e=>hX (.inl e.symm);replace iF:=zH iF;replace bP:=zH bP;clear so6;rcases Nat.eq_zero_or_pos h with h0|h0
  ·have hh1:((h:Int) == 0)=true:=by rw[beq_iff_eq];omega
   have hh2:decide (h=0)=true:=decide_eq_true h0;have hf2:full=pre++[(0,ys,p)]:=by rw[gJ.out,h0,qez,hp]
   subst h0;replace hf2:=zH hf2;clear hA eH iZ hp;go_wp2_with (at_builtin;refine qI ?_);refine Qh.go (Zc w6 rfl (.tmp 28) (.tmp 32) 153 rfl w1.heap.size 160 i0 _ 3 40 underlying153 hi.out aY aV aX rfl zA1 (.slice Av pre.length cv) pre.length (ZZ ps) zE ho #[.int .i64 0,.slice A9 ys.length c9,.int .i64 (p:Int)] zE rfl zA8 zO zA1 xx6.size ?_);intro v' W' aW hg hB dQ;have hF:jK w1.heap.size W' v' (pre++[(0,ys,p)]):=jK.push (s:=(0,ys,p)) xx6.size e0 iF.out lL.out hsx.out aW hg dQ;have xX:Ext w W':=x1.trans (Below.trans xx6 hB);replace hF:=zH hF;replace xX:=zH xX;clear aW hg dQ hB;go_wp2_with fail;go_ret;exact⟨_,rfl,by rw[hf2.out];exact hF.out.toE.mono z1,xX.out⟩
  ·have hh1:((h:Int) == 0)=false:=by rw[beq_eq_false_iff_ne];omega
   obtain⟨h',hh⟩:∃ h',h=h'+1:=⟨h-1,zO⟩
   obtain⟨j,hj⟩:∃ j,Yc ys (k,i,o)=j:=⟨_,rfl⟩
   have hjl:j<ys.length:=by rw[<-hj];exact Js (eH.out h0)
   obtain⟨b',e1,f8,f256,zs,e4,e5⟩:=Jb (h:=h') (by rw[<-hh];exact JO aU.out _ (List.getElem_mem hjl));have hfl:full=(pre++[(h,ys,j)])++VD S (k,i,o) h' zs:=by rw[gJ.out,hh,qag (by rw[hj];exact zL hjl) (by rw[e1,Int.toNat_natCast];exact e4),hj,List.append_assoc];rfl
   have hms:Km S (.int .i64 (b':Int))<Km S (.int .i64 (r:Int)):=by rw[XM e4,hlv.out];omega
   obtain⟨b9,off,rfl,hb9⟩:=hA zO;have aI:∀ (v':Value) (W':World),w6.ownsRow w1.heap.size 160 3 (.slice Av pre.length cv) pre.length (ZZ ps)->W'.ownsRow w1.heap.size 160 3 v' (pre.length+1) (ZZ ps++[.int .i64 (h:Int),.slice (some ⟨b9,off,none⟩) ys.length c9,.int .i64 (j:Int)])->w6.grownBy W' (Value.slice Av pre.length cv).ownBlock->(v'.ownBlock=(Value.slice Av pre.length cv).ownBlock\/∃ g,v'.ownBlock=some g/\w6.heap.size<=g)->Below w1.heap.size w6 W' ->
     WyI S (k,i,o) full w1.heap.size w1 v' (.int .i64 (b':Int)) W'/\Km S (.int .i64 (b':Int))<Km S (.int .i64 (r:Int)):=fun v' W' _ aW hg dQ hB=>by
    obtain⟨A7,c7,rfl,-,-⟩:=qy aW;have hF:jK w1.heap.size W' (.slice A7 (pre.length+1) c7) (pre++[(h,ys,j)]):=jK.push (s:=(h,ys,j)) xx6.size e0 iF.out lL.out hsx.out aW hg dQ;exact⟨⟨h',b',zs,_,A7,c7,zA3,rfl,f8,f256,e4,e5,hfl,zA2,hF,Below.trans xx6 hB⟩,hms⟩
   have hit:∀ W':World,w6.grownBy W' (Value.slice Av pre.length cv).ownBlock->W'.cell? ⟨b9,off+j*5+3,none⟩=some (.int .i64 (b':Int))/\W'.heap[w4.heap.size]?=some (.cells #[.int .i64 (h:Int),.slice (some ⟨b9,off,none⟩) ys.length c9] 49 (0,0)):=fun W' hg=>by obtain⟨A',c',-,-,-,d3,-,-⟩:=(show Its W' W'.heap.size (.slice (some ⟨b9,off,none⟩) ys.length c9) ys by have:=hsx.out.its (bP.out W' hg);rw[lL.out] at this;exact this).item j hjl;rw[e1] at d3;refine⟨d3,(hg.block _ (zG.1 wO).1 fun e=>?_).trans wO⟩;have:=hso'.out _ e.symm;omega
   replace aI:=zH aI;replace hit:=zH hit;replace eH:=zH eH;replace hh:=zH hh;clear hA hfl hms e4 e5 aU hn gJ hlv iF bP;have aQ:(ie=true/\p=j)\/(ie=false/\max (0:Int) ((p:Int)-1)=(j:Int)):=by
    unfold Yc at hj;rw[iZ,hp] at hj;cases ie
    ·right;refine⟨rfl,?_⟩;simp only[Bool.false_eq_true,if_false] at hj;omega
    ·left;exact⟨rfl,by simpa using hj⟩
   clear iZ hp hj;rcases aQ with ⟨rfl,rfl⟩|⟨rfl,hmax⟩
   ·go_wp2_with (at_builtin;refine qI ?_);refine Qh.go (Zc w6 rfl (.tmp 39) (.tmp 43) 153 rfl w1.heap.size 160 i0 _ 3 40 underlying153 hi.out aY aV aX rfl zA1 (.slice Av pre.length cv) pre.length (ZZ ps) zE ho #[.int .i64 (h:Int),.slice (some ⟨b9,off,none⟩) ys.length c9,.int .i64 (p:Int)] zE rfl zA8 zO zA1 xx6.size ?_);intro v' W' aW hg hB dQ;obtain⟨d3,rnW⟩:=hit.out W' hg;have knW:=qa rnW;have hF:=zH (aI.out v' W' ho aW hg dQ hB);clear aI hit aW hg dQ hB ho;go_wp2_with fail;exact hF.out
   ·go_wp2_with (at_builtin;refine qI ?_);refine Qh.go (Zc w6 rfl (.tmp 39) (.tmp 43) 153 rfl w1.heap.size 160 i0 _ 3 40 underlying153 hi.out aY aV aX rfl zA1 (.slice Av pre.length cv) pre.length (ZZ ps) zE ho #[.int .i64 (h:Int),.slice (some ⟨b9,off,none⟩) ys.length c9,.int .i64 (j:Int)] zE rfl zA8 zO zA1 xx6.size ?_);intro v' W' aW hg hB dQ;obtain⟨d3,rnW⟩:=hit.out W' hg;have knW:=qa rnW;have hF:=zH (aI.out v' W' ho aW hg dQ hB);clear aI hit aW hg dQ hB ho;go_wp2_with fail;exact hF.out
def km (s:Stp):Bool:=decide (s.2.1.length<5)
def ThinIx (l:List Stp) (u:Value):Prop:=(∃ j:Nat,u=.int .i64 (j:Int)/\l.any km=true)\/(u=.int .i64 (-1)/\l.any km=false)
set_option maxRecDepth 100000 in
theorem qhL (lvl p:Int) (A:Option Addr) (n c:Nat) (w:World):Calls prog 145 #[.agg #[.int .i64 lvl,.slice A n c,.int .i64 p]] w (Ret (.bool (decide (n<5))) w):=by
 go_enter func145,ntmps145;by_cases h:n<5
 ·have h1:decide ((n:Int)<5)=true:=decide_eq_true zO;rw[decide_eq_true h];replace h:=zH h;go_wp2;go_ret;exact⟨rfl,zN _ _⟩
 ·have h1:decide ((n:Int)<5)=false:=decide_eq_false zO;rw[decide_eq_false h];replace h:=zH h;go_wp2;go_ret;exact⟨rfl,zN _ _⟩
set_option maxRecDepth 100000 in
theorem qhM (v:Value) (l:List Stp) (hl:l.length<=100) (w:World) (h:Vq w.heap.size w v l):Calls prog 168 #[v,.func (.func 145) #[] #[]] w (QV (fun u _=>ThinIx l u) w):=by
 obtain⟨ps,cZ,⟨A,c,rfl,dV,az,hr⟩,iF⟩:=h;have bU:ps.length=l.length:=by rw[<-cZ,List.length_map]
 replace hr:=zH hr;replace az:=zH az;go_enter func168,ntmps168;go_wp2_with fail;go_loopw [8] (fun i wr=>∃ k:Nat,k<=l.length/\i=.int .i64 (k:Int)/\Ext w wr/\(l.take k).any km=false) (fun i _=>l.length-(intOf i).toNat)
 case atStart=>exact⟨0,Nat.zero_le _,rfl,Ext.refl _,rfl⟩
 case round =>
  obtain⟨k,hk,rfl,xr,bT⟩:=hrel;replace bT:=zH bT;by_cases hlt:k<l.length
  ·obtain⟨bv,uD,rfl,hbv,aS⟩:=hr.out.2 zO;have hkp:k<ps.length:=zO;obtain⟨d0,d1,d2⟩:=Yh ps k hkp;replace d0:=Ext.cell xr (aS _ _ d0);replace d1:=Ext.cell xr (aS _ _ d1);replace d2:=Ext.cell xr (aS _ _ d2);rw[<-Nat.add_assoc] at d1 d2;obtain⟨Ax,cx,hx2⟩:=(iF ps[k] (List.getElem_mem hkp)).1;have hxe:ps[k].1=l[k]:=by simp only[<-cZ,List.getElem_map]
   rw[hx2,hxe] at d1;rw[hxe] at d0 d2;have HAT:=zH (fun (he:km l[k]=true)=>show l.any km=true from List.any_eq_true.2 ⟨l[k],List.getElem_mem hlt,he⟩);have HNO:=zH (fun (he:km l[k]=false)=>show (l.take (k+1)).any km=false by rw[List.take_succ_eq_append_getElem hlt,List.any_append,bT.out];simp[he]);unfold km at HAT HNO;generalize l[k]=u at *;obtain⟨ul,uxs,up⟩:=u;dsimp only at d0 d1 d2 HAT HNO;clear aS hx2 hxe;have iQ:=zH (IntWalk.wrap64_in ((k:Int)+1) zO);have hV:=qhL (ul:Int) (up:Int) Ax uxs.length cx wr;go_wp2_with fail;refine hV.mono ?_;rintro e w2 ⟨rfl,hB⟩;clear d0 d1 d2 hV;by_cases he:uxs.length<5
   ·rw[decide_eq_true he];have HQ:=zH (HAT.out (decide_eq_true he));clear HAT HNO;replace he:=zH he;go_wp2_with fail;refine bodyPost_ret (v:=.int .i64 (k:Int)) ?_ rfl ⟨_,rfl,.inl ⟨k,rfl,HQ.out⟩,Ext.trans xr hB⟩;simp[results,results168,go_sem]
   ·rw[decide_eq_false he];have HQ:=zH (HNO.out (decide_eq_false he));clear HAT HNO;replace he:=zH he;have aA:=iQ.out;go_wp2_with fail;refine⟨⟨k+1,hlt,rfl,Ext.trans xr hB,HQ.out⟩,?_⟩;simp[intOf];omega
  ·obtain rfl:k=l.length:=zO;have HQ:=zH (show l.any km=false by have:=bT.out;rwa [List.take_length] at this);go_wp2_with fail;refine bodyPost_ret (v:=.int .i64 (-1)) ?_ rfl ⟨_,rfl,.inr ⟨rfl,HQ.out⟩,xr⟩;simp[results,results168,go_sem]
set_option maxRecDepth 100000 in
theorem thin_any (v:Value) (l:List Stp) (hl:l.length<=100) (w:World) (h:Vq w.heap.size w v l):Calls prog 144 #[v,.func (.func 145) #[] #[]] w (Ret (.bool (l.any km)) w):=by
 have HX:=qhM v l hl w h;clear h;go_enter func144,ntmps144;go_wp2_with fail;refine HX.mono ?_;rintro e w2 ⟨u,rfl,hu,hB⟩;rcases hu with ⟨j,rfl,hj⟩|⟨rfl,hj⟩
 ·have hd:decide ((0:Int)<=(j:Int))=true:=decide_eq_true zO;go_wp2_with fail;go_ret;exact⟨by rw[hj];rfl,hB⟩
 ·go_wp2_with fail;go_ret;exact⟨by rw[hj];rfl,hB⟩
set_option maxRecDepth 100000 in
theorem tall_any (v:Value) (l:List Stp) (hl:l.length<=100) (hl0:0<l.length) (k i o:Int) (hl5:∀ s∈l,s.2.1.length<=5) (w:World) (h:Vq w.heap.size w v l):Calls prog 99 #[v,keyV k i o] w (Ret (.bool (Ut (k,i,o) l)) w):=by
 have HT:=zH (fun W (hx:Ext w W)=>thin_any v l hl W ((h.below hx).more hx.size));obtain⟨ps,cZ,⟨A,c,rfl,dV,az,hr⟩,iF⟩:=h;have bU:ps.length=l.length:=by rw[<-cZ,List.length_map]
 obtain⟨bv,uD,rfl,hbv,aS⟩:=hr.2 hl0;obtain⟨m,hm⟩:∃ m,l.length=m+1:=⟨l.length-1,zO⟩
 have hmp:m<ps.length:=zO;have ut:m<l.length:=zO;obtain⟨d0,d1,d2⟩:=Yh ps m hmp;replace d0:=aS _ _ d0;replace d1:=aS _ _ d1;replace d2:=aS _ _ d2;rw[<-Nat.add_assoc] at d1 d2;obtain⟨⟨Ax,cx,hx2⟩,aG⟩:=iF ps[m] (List.getElem_mem hmp);have hxe:ps[m].1=l[m]:=by simp only[<-cZ,List.getElem_map]
 rw[hx2,hxe] at d1 aG;rw[hxe] at d0;have hHD:l.getLast?=some l[m]:=by rw[List.getLast?_eq_getElem?,hm,Nat.add_sub_cancel];exact zL ut
 have hq:Ut (k,i,o) l=(decide (l.length=6) && !(l.any km) && !(Kv l[m].2.1 (k,i,o))):=by unfold Ut;rw[hHD];simp only;congr 2;rw[Bool.eq_iff_iff];simp[List.all_eq_true,km]
 have hu5:=hl5 l[m] (List.getElem_mem ut);rw[hq];generalize l[m]=u at *;obtain⟨ul,uxs,up⟩:=u;dsimp only at d0 d1 aG hu5 ⊢;have HP:=zH (fun W (hx:Ext w W)=>GK (ul:Int) Ax cx uxs k i o W hu5 ((aG.below hx).more hx.size));clear hq hHD aS hr hx2 hxe iF aG d2 cZ;replace hm:=zH hm;generalize l.any km=bt at *;generalize Kv uxs (k,i,o)=bi at *;generalize qG uxs (k,i,o)=pn at *;replace az:=zH az;go_enter func99,ntmps99;go_wp2_with fail;generalize aA:World.alloc _ _=w1;have x1:Ext w w1:=by rw[<-aA];exact zN _ _
 have r1:w1.heap[w.heap.size]?=some (.cells #[.int .u8 k,.int .u32 i,.int .u32 o] 66 (0,0)):=by rw[<-aA];exact zI _ _ _ rfl
 clear aA;refine(HT.out w1 x1).mono ?_;clear HT;rintro e w2 ⟨rfl,hB⟩;have x2:Ext w w2:=x1.trans hB;have r2:=qb r1 hB;clear r1 hB x1;go_upto_region 2 with fail;have g0:∀ W,qk.r w2 W->W.cell? ⟨bv,uD+m*3,none⟩=some (.int .i64 (ul:Int)):=fun W h=>Ext.cell (x2.trans h) d0;have g1:∀ W,qk.r w2 W->W.cell? ⟨bv,uD+m*3+1,none⟩=some (.slice Ax uxs.length cx):=fun W h=>Ext.cell (x2.trans h) d1;have g2:∀ W,qk.r w2 W->∀ i_1,W.cell? ⟨w.heap.size,i_1,none⟩=#[.int .u8 k,.int .u32 i,.int .u32 o][i_1]?:=fun W h=>qa (qb r2 h);clear d0 d1;have yM:=zH (show IntKind.i64.wrap ((l.length:Int)-1)=(m:Int) by rw[IntKind.wrap_i64];have:=hm.out;omega);refine qm zQ ?_;refine qL (w:=w2) qk (qD [(8,one (.tuple #[.int .i64 (pn:Int),.bool bi]))]) (List.replicate 14 true) 0 zQ zQ zQ zQ zQ zQ zQ ?st (Rel.drew _ _) ?walk
 case st=>exact qj (by simp only[List.forall_mem_cons];exact⟨qdS _,fun _ h=>by cases h⟩)
 case walk =>
  intro K hK;dsimp only[qp,List.replicate];repeat ((first|(refine qd ?_ zA0 zA0 (fun W hW _=>⟨W,?_,Rel.refl _ W⟩) ?_;rotate_left;(go_simp<;>with_reducible rfl))|(refine qh zA0 ?_));try simp only[Act.put,ql,qf,qc,qg,zA,zB,zC])
  refine qd (.pointer (some ⟨bv,uD+m*3,none⟩)) zA0 zA0 (fun W hW _=>⟨W,?_,Rel.refl _ W⟩) ?_
  ·go_simp;rw[yM.out,if_pos zO];simp
  simp only[Act.put,qf,qc,qg,zA,zB,zC];repeat ((first|(refine qd ?_ zA0 zA0 (fun W hW _=>⟨W,?_,Rel.refl _ W⟩) ?_;rotate_left;(go_simp<;>with_reducible rfl))|(refine qh zA0 ?_));try simp only[Act.put,ql,qf,qc,qg,zA,zB,zC])
  refine qw (one _) zA0 zA0 (fun W hW _=>?_) (fun (_:Unit)=>?_)
  ·have ay:Ext w2 W:=hW;refine Qb ?_ ((HP.out W (x2.trans ay)).mono fun e w' h=>⟨(),h.1,trivial,h.2⟩);go_simp
  simp only[Act.put,ql,qc,qg,zA,zB,zC];repeat ((first|(refine qd ?_ zA0 zA0 (fun W hW _=>⟨W,?_,Rel.refl _ W⟩) ?_;rotate_left;(go_simp<;>with_reducible rfl))|(refine qh zA0 ?_));try simp only[Act.put,ql,qf,qc,qg,zA,zB,zC])
  refine qt (hK _ _ fun W hW hF=>?_);clear hF hK;have hW:Ext w2 W:=hW;have xW:Ext w W:=x2.trans hW;refine zC3 ?_;go_wp2;refine Qm ?_;clear HP g0 g1 g2 r2;by_cases h6:l.length=6
  ·have e6:((l.length:Int) == 6)=true:=by rw[beq_iff_eq];omega
   have d6:=decide_eq_true h6;replace h6:=zH h6;cases bt
   ·cases bi;all_goals
     go_wp2_with fail;go_ret;exact⟨by rw[d6];rfl,xW⟩
   ·go_wp2_with fail;go_ret;exact⟨by rw[d6];rfl,xW⟩
  ·have e6:((l.length:Int) == 6)=false:=by rw[beq_eq_false_iff_ne];omega
   have d6:=decide_eq_false h6;replace h6:=zH h6;go_wp2_with fail;go_ret;exact⟨by rw[d6];rfl,xW⟩
def JV:List UInt8->Nat
 | []=>0
 |x :: r=>x.toNat+JV r
theorem qab:∀ (t:List UInt8) (a:Nat) (x:UInt8),a<t.length->JV (t.set a x)+qT t a=JV t+x.toNat
 | [],a,x,h=>by simp at h
 |y :: r,0,x,h=>by simp[JV,qT];omega
 |y :: r,a+1,x,h=>by
  have:=qab r a x (by simpa using h);simp only[zC,JV];have e:qT (y :: r) (a+1)=qT r a:=by simp[qT]
  rw[e];omega
theorem Xy {t:List UInt8} {a:Nat} (h:t.length<=a):qT t a=0:=by unfold qT;rw[List.getElem?_eq_none h];rfl
theorem Vs {t:List UInt8} {a:Nat} (h:a<t.length) (x:UInt8):qT (t.set a x) a=x.toNat:=by unfold qT;rw[List.getElem?_set_self h];rfl
theorem KC {t:List UInt8} {a j:Nat} (h:j≠a) (x:UInt8):qT (t.set a x) j=qT t j:=by unfold qT;rw[List.getElem?_set_ne zO]
theorem UI (t:List UInt8) (a:Nat):qT t a<256:=(t[a]?.getD 0).toNat_lt
theorem Gc {t:List UInt8} {a:Nat} (h:qT t a≠0):JV (ZL t a)+1=JV t:=by
 have hl:a<t.length:=by
  by_cases h1:a<t.length
  ·exact h1
  ·exact absurd (Xy zO) h
 have e:=qab t a (UInt8.ofNat (qT t a-1)) hl;have h2:=UI t a;have h3:(UInt8.ofNat (qT t a-1)).toNat=qT t a-1:=by rw[UInt8.toNat_ofNat'];omega
 unfold ZL;omega
theorem qbN (t:List UInt8) (a j:Nat):qT (ZL t a) j<=qT t j:=by
 unfold ZL;by_cases hj:j=a
 ·subst hj;by_cases hl:j<t.length
  ·rw[Vs hl];have h2:=UI t j;rw[UInt8.toNat_ofNat'];omega
  ·rw[Xy (by simpa using hl)];omega
 ·rw[KC hj];omega
theorem Tl {t:List UInt8} {a:Nat} (h:qT t a=1):JV (t.set a 0)+1=JV t:=by
 have hl:a<t.length:=by
  by_cases h1:a<t.length
  ·exact h1
  ·rw[Xy zO] at h;cases h
 have e:=qab t a 0 hl;rw[h] at e;simpa using e
theorem zero_le (t:List UInt8) (a j:Nat):qT (t.set a 0) j<=qT t j:=by
 by_cases hj:j=a
 ·subst hj;by_cases hl:j<t.length
  ·rw[Vs hl];simp
  ·rw[Xy (by simpa using hl)];omega
 ·rw[KC hj];omega
theorem Ym:∀ {l:List Nat} {t t':List UInt8},QG l t=.ok t'->JV t'<=JV t/\∀ j,qT t' j<=qT t j
 | [],t,t',e=>by cases e;exact⟨zM _,fun _=>zM _⟩
 |a :: l,t,t',e=>by
  by_cases ha:a=0
  ·subst ha;rw[jV] at e;exact Ym e
  ·by_cases h0:qT t a=0
   ·rw[Jo ha h0] at e;cases e
   ·rw[jU ha h0] at e;obtain⟨h1,h2⟩:=Ym e;have:=Gc h0;exact⟨zO,fun j=>Nat.le_trans (h2 j) (qbN t a j)⟩
theorem qfv {S:Sto} {t:List UInt8} {a:Nat} (h:qT t a≠0) (hle:qT t a<=qT S.now a):qv (qu S t) a=qv S a:=by
 have e1:qv (qu S t) a=if qT t a=0 then none else QD (Jd S a):=rfl
 have e2:qv S a=if qT S.now a=0 then none else QD (Jd S a):=rfl
 rw[e1,e2,if_neg h,if_neg zO]
theorem qfw {S:Sto} {a:Nat} {lvl:Int} {xs:List It} (h:qv S a=some (lvl,xs)) (hl:0<lvl):∀ r∈qX xs,8<=r/\r<256:=fun r hr=>by
 have h1:=Yp h r hr;obtain⟨x,hx,rfl⟩:=List.mem_map.1 hr;have hm:=(Qc h).1;have mJ:=((Qc h).2.1 x hx).1.2.2.2.1.1;unfold Qe at hm;simp only[Bool.and_eq_true] at hm;obtain⟨i,hi,e⟩:=List.mem_iff_getElem.1 hx;have h2:=List.all_eq_true.1 hm.2 i (List.mem_range.2 hi);unfold TU at h2;rw[zL hi] at h2;simp only[Bool.and_eq_true] at h2;have h3:=h2.2;rw[e,decide_eq_true hl] at h3;have h4:x.r≠0:=by intro h5;rw[h5] at h3;simp at h3
 omega
structure LvI (S:Sto) (a:Nat) (st:List (Nat×Int)) (t:List UInt8):Prop where
 eq:Qz S (-1) S.now a=jL S st.reverse t
 may:QB t=true
 le:∀ j,qT t j<=qT S.now j
 few:st.length+5*JV t<=5*JV S.now+1
 at_:∀ p∈st,8<=p.1/\p.1<256/\-1<=p.2/\p.2<6
theorem qfq (S:Sto) (x:Nat×Int) (t:List UInt8):jL S [x] t=Qz S x.2 t x.1:=by unfold jL;cases Qz S x.2 t x.1 <;> rfl
theorem LvI.start {S:Sto} (hS:qo S=true) {a:Nat} (ha:8<=a) (bK:a<256):LvI S a [(a,-1)] S.now:=by
 refine⟨(qfq S (a,-1) S.now).symm,(qZ.1 hS).2.1,fun _=>zM _,zA2,fun p hp=>?_⟩;obtain rfl:p=(a,-1):=by simpa using hp
 exact⟨ha,bK,zA3,zA3⟩
theorem LvI.done {S:Sto} {a:Nat} {t:List UInt8} (h:LvI S a [] t):Qz S (-1) S.now a=some t:=h.eq
section
variable {S:Sto} {a:Nat} {s:List (Nat×Int)} {x:Nat×Int} {t:List UInt8}
theorem LvI.eq' (h:LvI S a (s++[x]) t):Qz S (-1) S.now a=match Qz S x.2 t x.1 with
  |none=>none
  |some t'=>jL S s.reverse t':=by
 rw[h.eq,List.reverse_append];rfl
theorem LvI.top (h:LvI S a (s++[x]) t):8<=x.1/\x.1<256/\-1<=x.2/\x.2<6:=h.at_ x zA3
theorem LvI.bad0 (h:LvI S a (s++[x]) t) (h0:qT t x.1=0):Qz S (-1) S.now a=none:=by rw[h.eq',KK,if_pos h0]
theorem LvI.more (h:LvI S a (s++[x]) t) (h1:1<qT t x.1):LvI S a s (ZL t x.1):=by have hd:=Gc (t:=t) (a:=x.1) zO;have hf:=h.few;simp only[List.length_append,List.length_cons,List.length_nil] at hf;refine⟨?_,ZP h.may h.top.1 _,fun j=>Nat.le_trans (qbN t x.1 j) (h.le j),zO,fun p hp=>h.at_ p (by simp[hp])⟩;rw[h.eq',KK,if_neg zO,if_pos h1]
theorem LvI.one (h:LvI S a (s++[x]) t) (h1:qT t x.1=1):Qz S (-1) S.now a=match (match qv S x.1 with
  |none=>none
  |some (l,xs)=>if 0<=x.2/\l≠x.2 then none else if 0<l then jL S ((qX xs).map fun r=>(r,l-1)) (t.set x.1 0) else
   match QG (qX xs) (t.set x.1 0) with
   | .error _=>none
   | .ok t'=>some t') with
  |none=>none
  |some t'=>jL S s.reverse t':=by
 rw[h.eq',KK,if_neg zO,if_neg zO] <;> rfl
theorem LvI.none_ (h:LvI S a (s++[x]) t) (h1:qT t x.1=1) (hn:qv S x.1=none):Qz S (-1) S.now a=none:=by rw[h.one h1,hn]
theorem LvI.level (h:LvI S a (s++[x]) t) (h1:qT t x.1=1) {l:Int} {xs:List It} (hn:qv S x.1=some (l,xs)) (h0:0<=x.2) (hl:l≠x.2):Qz S (-1) S.now a=none:=by rw[h.one h1,hn];simp only;rw[if_pos ⟨h0,hl⟩]
theorem LvI.push (h:LvI S a (s++[x]) t) (h1:qT t x.1=1) {l:Int} {xs:List It} (hn:qv S x.1=some (l,xs)) (h0:¬(0<=x.2/\l≠x.2)) (hl:0<l):LvI S a (s++((qX xs).map fun r=>(r,l-1)).reverse) (t.set x.1 0):=by
 have hd:=Tl h1;have hf:=h.few;have h6:=zt hn;have hlen:(qX xs).length=xs.length:=by unfold qX;simp
 simp only[List.length_append,List.length_cons,List.length_nil] at hf;refine⟨?_,ZP h.may h.top.1 _,fun j=>Nat.le_trans (zero_le t x.1 j) (h.le j),by simp only[List.length_append,List.length_reverse,List.length_map];omega,fun p hp=>?_⟩
 ·rw[h.one h1,hn,List.reverse_append,List.reverse_reverse,YH];simp only;rw[if_neg h0,if_pos hl] <;> rfl
 ·rcases List.mem_append.1 hp with hp|hp
  ·exact h.at_ p (by simp[hp])
  ·obtain⟨r,hr,rfl⟩:=List.mem_map.1 (List.mem_reverse.1 hp);have:=qfw hn hl r hr;exact⟨this.1,this.2,by simp only;omega,by simp only;omega⟩
theorem LvI.leafBad (h:LvI S a (s++[x]) t) (h1:qT t x.1=1) {l:Int} {xs:List It} (hn:qv S x.1=some (l,xs)) (h0:¬(0<=x.2/\l≠x.2)) (hl:¬0<l) {e:Int} (he:QG (qX xs) (t.set x.1 0)=.error e):Qz S (-1) S.now a=none:=by rw[h.one h1,hn];simp only;rw[if_neg h0,if_neg hl,he]
theorem LvI.leaf (h:LvI S a (s++[x]) t) (h1:qT t x.1=1) {l:Int} {xs:List It} (hn:qv S x.1=some (l,xs)) (h0:¬(0<=x.2/\l≠x.2)) (hl:¬0<l) {t':List UInt8} (he:QG (qX xs) (t.set x.1 0)=.ok t'):LvI S a s t':=by have hd:=Tl h1;obtain⟨hs,hj⟩:=Ym he;have hf:=h.few;simp only[List.length_append,List.length_cons,List.length_nil] at hf;refine⟨?_,Jp (fun b hb=>(Yp hn b hb).1) (ZP h.may h.top.1 _) he,fun j=>Nat.le_trans (hj j) (Nat.le_trans (zero_le t x.1 j) (h.le j)),zO,fun p hp=>h.at_ p (by simp[hp])⟩;rw[h.one h1,hn];simp only;rw[if_neg h0,if_neg hl,he]
end
def mixL:List Bool->Nat->List Value->(Nat->Value)->List Value
 | [],_,l,_=>l
 |_ :: _,_,[],_=>[]
 |b :: m,i,x :: r,g=>(bif b then g i else x) :: mixL m (i+1) r g
def Gv (D:Nat):Deferred:={ target:=.collected D,args:=#[] }
theorem qcA {P:Program} {Q:Exit->Act->World->Prop} {tm:List Value} {w:World} {c:Code} (mask:List Bool) (n₀:Nat) (rel:Nat->(Nat->Value)->List Nat->World->Prop) (h₀:rel n₀ (fun i=>tm.getD i undef) [] w) (hmix:mixL mask 0 tm (fun i=>tm.getD i undef)=tm) (round:∀ (n:Nat) (g:Nat->Value) (Ds:List Nat) (wr:World) (K:Act->World->Prop),rel n g Ds wr->(∀ (n':Nat) (g':Nat->Value) (Ds':List Nat) (w':World),n'<n->rel n' g' Ds' w'->K { tmps:=(mixL mask 0 tm g').toArray,defers:=Ds'.map Gv } w')->c.wp P (Exit.then K Q) { tmps:=(mixL mask 0 tm g).toArray,defers:=Ds.map Gv } wr) : (Code.loop c).wp P Q { tmps:=tm.toArray,defers:=[] } w:=by
 refine wp_loop_ghost (fun n a w=>∃ g Ds,a={ tmps:=(mixL mask 0 tm g).toArray,defers:=Ds.map Gv }/\rel n g Ds w) n₀ ⟨_,[],by rw[hmix];rfl,h₀⟩ ?_;rintro n a wr ⟨g,Ds,rfl,h⟩;exact round n g Ds wr _ h fun n' g' Ds' w' hlt hr=>⟨n',hlt,g',Ds',rfl,hr⟩
theorem Gy {mask:List Bool} {tm:List Value} {n:Nat} {rel:Nat->(Nat->Value)->List Nat->World->Prop} {K:Act->World->Prop} (hK:∀ (n':Nat) (g':Nat->Value) (Ds':List Nat) (w':World),n'<n->rel n' g' Ds' w'->K { tmps:=(mixL mask 0 tm g').toArray,defers:=Ds'.map Gv } w') {l:List Value} {df:List Deferred} {w':World} (n':Nat) (hlt:n'<n) (Ds':List Nat) (hdf:df=Ds'.map Gv) (nY:l=mixL mask 0 tm (fun i=>l.getD i undef)) (hr:rel n' (fun i=>l.getD i undef) Ds' w'):K { tmps:=l.toArray,defers:=df } w':=by
 have:=hK n' _ Ds' w' hlt hr;rw[<-nY] at this
 rwa [hdf]
structure jc (lo:Nat) (Ds:List Nat) (w:World):Prop where
 nodup:Ds.Nodup
 at_:∀ D∈Ds,lo<=D/\w.heap[D]?=some (.deferred (some []))
theorem jc.nil (lo:Nat) (w:World):jc lo [] w:=⟨List.nodup_nil,fun _ h=>by cases h⟩
theorem jc.keep {lo:Nat} {Ds:List Nat} {w W:World} (h:jc lo Ds w) (hk:∀ (q:Nat) (o:Obj),w.heap[q]?=some o->o.isCells=false->W.heap[q]?=some o):jc lo Ds W:=⟨h.nodup,fun D hD=>⟨(h.at_ D hD).1,hk D _ (h.at_ D hD).2 rfl⟩⟩
theorem jc.cons {lo:Nat} {Ds:List Nat} {w W:World} (h:jc lo Ds w) (hk:∀ (q:Nat) (o:Obj),w.heap[q]?=some o->o.isCells=false->W.heap[q]?=some o) {D:Nat} (hD:w.heap.size<=D) (hl:lo<=D) (hr:W.heap[D]?=some (.deferred (some []))):jc lo (D :: Ds) W:=by
 have h1:=h.keep hk;refine⟨List.nodup_cons.2 ⟨fun hm=>?_,h1.nodup⟩,fun q hq=>?_⟩
 ·have:=(zG.1 (h.at_ D hm).2).1;omega
 ·rcases List.mem_cons.1 hq with rfl|hq
  ·exact⟨hl,hr⟩
  ·exact h1.at_ q hq
theorem XJ {F:Fence} {n:Nat} {P:Program} {fn:Func} {tmps:Array Value} {R:Ending->World->Prop} {lo:Nat}:∀ (Ds:List Nat) (W:World),jc lo Ds W -> (∀ W',(∀ q,q∉Ds->W'.heap[q]?=W.heap[q]?)->W'.heap.size=W.heap.size->W'.os=W.os->W'.tape=W.tape->W'.output=W.output->LeavesIn F n P fn tmps R [] .returning W')->LeavesInM F n P fn tmps R (Ds.map Gv) .returning W
 | [],W,_,h=>h W (fun _ _=>rfl) rfl rfl rfl rfl
 |D :: Ds,W,hm,h=>by
  refine⟨zA3,.inl ⟨D,_,rfl,run_takeDeferred (hm.at_ D List.mem_cons_self).2,?_⟩⟩;have hnd:=List.nodup_cons.1 hm.nodup;refine XJ (lo:=lo) Ds (W.putObj D (.deferred none)) ⟨hnd.2,fun q hq=>⟨(hm.at_ q (List.mem_cons_of_mem _ hq)).1,(World.putObj_heap_other (o:=.deferred none) (fun e=>by subst e;exact hnd.1 hq)).trans (hm.at_ q (List.mem_cons_of_mem _ hq)).2⟩⟩ ?_;intro W' h1 h2 h3 h4 h5;refine h W' (fun q hq=>?_) ?_ ?_ ?_ ?_
  ·exact(h1 q fun hx=>hq (List.mem_cons_of_mem _ hx)).trans (World.putObj_heap_other (o:=.deferred none) fun e=>hq (by rw[e];exact List.mem_cons_self))
  ·rw[h2];simp
  ·rw[h3];rfl
  ·rw[h4];rfl
  ·rw[h5];rfl
end Go.Proofs.YtpbniokljofedaaGreat
