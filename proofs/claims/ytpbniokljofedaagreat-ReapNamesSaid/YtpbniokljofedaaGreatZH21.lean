/- Texts Once, Way, Tall, LeaveW, LoopM, LoopD, BackI, joined. -/
import Derived.Deep.LoopGhost
import Derived.Test.YtpbniokljofedaaGreatZH20
set_option linter.unusedSimpArgs false
set_option linter.unusedVariables false
set_option maxHeartbeats 8000000
open Go.Proofs.Tryz
namespace Go.Proofs.YtpbniokljofedaaGreat
open Go.RowKit
def jt:qS:=⟨Unit,fun _=>undef,fun _ _=>True⟩
theorem Qk (u:Unit):jt.f u=undef:=rfl
theorem jo {R:Rel}:∀ p,qB R (jt.φ p):=fun _ _ _ _ _=>trivial
theorem JE {P:Program} {o:Oper} {a:Act} {W W':World} (hr:(execOp a.eval o).run P W=.ok .skip W') (hx:Ext W W'):QC qk P o a W jt:=JY hr ⟨(),rfl,trivial,hx⟩
theorem same1 {w:World} {b:Nat} {x0:Value} {ty:TypeId} (h:w.heap[b]?=some (.cells #[x0] ty (0,0))):Ext w (w.setCell ⟨b,0,none⟩ x0):=Qn h rfl
theorem same4 {w:World} {b:Nat} {x0 x1 x2 x3:Value} {ty:TypeId} (h:w.heap[b]?=some (.cells #[x0,x1,x2,x3] ty (0,0))):Ext w ((((w.setCell ⟨b,0,none⟩ x0).setCell ⟨b,1,none⟩ x1).setCell ⟨b,2,none⟩ x2).setCell ⟨b,3,none⟩ x3):=by have e0:=Qn (j:=0) (v:=x0) h rfl;have h0:=qb h e0;have e1:=Qn (j:=1) (v:=x1) h0 rfl;have h1:=qb h0 e1;have e2:=Qn (j:=2) (v:=x2) h1 rfl;have h2:=qb h1 e2;exact((e0.trans e1).trans e2).trans (Qn (j:=3) (v:=x3) h2 rfl)
def jP (B:Nat) (ty:TypeId) (Φ:Array Value->World->Prop) (hΦ:∀ cs W W',W.grownBy W' (some B)->Φ cs W->Φ cs W'):Rel where
 rel W W':=W.grownBy W' (some B)/\(B<W.heap.size->W'.heap[B]?=W.heap[B]?\/∃ cs,W'.heap[B]?=some (.cells cs ty (0,0))/\Φ cs W')
 refl' W:=⟨World.grownBy.refl _ _,fun _=>.inl rfl⟩
 trans' h k:=⟨h.1.trans k.1,fun hb=>by
  rcases k.2 (Nat.lt_of_lt_of_le hb h.1.size) with e|e
  ·rw[e];rcases h.2 hb with e1|⟨cs,e1,e2⟩
   ·exact .inl e1
   ·exact .inr ⟨cs,e1,hΦ _ _ _ k.1 e2⟩
  ·exact .inr e⟩
 drew' W:=⟨⟨rfl,rfl,rfl,zM _,fun _ _ _=>rfl⟩,fun _=>.inl rfl⟩
section
variable {B:Nat} {ty:TypeId} {Φ:Array Value->World->Prop} {hΦ:∀ cs W W',W.grownBy W' (some B)->Φ cs W->Φ cs W'}
theorem GJ {W W':World} (h:Ext W W'):(jP B ty Φ hΦ).r W W':=⟨zv h _,fun hb=>.inl (h.block B hb)⟩
theorem Zv {W W':World} (h:(jP B ty Φ hΦ).r W W') {b:Nat} {o:Obj} (hp:b≠B) (hc:W.heap[b]?=some o):W'.heap[b]?=some o:=
 (h.1.block b (zG.1 hc).1 (fun x=>hp (by simpa using x))).trans hc
theorem GK {W W':World} (h:(jP B ty Φ hΦ).r W W') {o:Obj} (hc:W.heap[B]?=some o):W'.heap[B]?=some o\/∃ cs,W'.heap[B]?=some (.cells cs ty (0,0))/\Φ cs W':=by
 have:=h.2 (zG.1 hc).1
 rwa [hc] at this
theorem ve {W W':World} {B0:Nat} (h:(jP B ty Φ hΦ).r W W') (h1:B0<=B) (h2:B0<=W.heap.size):Below B0 W W':=(Below.refl _ _).grown h.1 h2 (fun g hg=>by simp at hg;omega)
theorem kO {W W':World} (h:(jP B ty Φ hΦ).r W W') {k:Nat} (hk:k<W.heap.size) (hp:k≠B):W'.heap[k]?=W.heap[k]?:=h.1.block k hk fun x=>hp (by simpa using x)
theorem YB {lo:Nat} {S:Sto} (hB:B<lo):∀ p,qB (jP B ty Φ hΦ) ((qaX lo S).φ p):=fun p W W' he h =>
 QF.keep h (zM _) he.1.size fun b h1 hb=>kO he hb zO
def Vd (B:Nat) (ty:TypeId) (Φ:Array Value->World->Prop):qS:=⟨Unit,fun _=>undef,fun _ W=>∃ cs,W.heap[B]?=some (.cells cs ty (0,0))/\Φ cs W⟩
theorem qQ (u:Unit):(Vd B ty Φ).f u=undef:=rfl
theorem KF:∀ p,qB (jP B ty Φ hΦ) ((Vd B ty Φ).φ p):=fun _ W W' he ⟨cs,h1,h2⟩=>by
 rcases GK he h1 with e|e
 ·exact⟨cs,e,hΦ _ _ _ he.1 h2⟩
 ·exact e
theorem qdg {P:Program} {o:Oper} {a:Act} {W w':World} {cs:Array Value} (hr:(execOp a.eval o).run P W=.ok .skip w') (hg:W.grownBy w' (some B)) (hw:w'.heap[B]?=some (.cells cs ty (0,0))) (hp:Φ cs W):QC (jP B ty Φ hΦ) P o a W (Vd B ty Φ):=
 JY hr ⟨(),rfl,⟨cs,hw,hΦ _ _ _ hg hp⟩,hg,fun _=>.inr ⟨cs,hw,hΦ _ _ _ hg hp⟩⟩
end
def QW (lo:Nat) (S:Sto) (cs:Array Value) (W:World):Prop:=∃ x0 x1 x2 x3,cs=#[x0,x1,x2,x3]/\QF lo S (.agg cs) W
theorem QW.keep {lo:Nat} {S:Sto} {B:Nat} (hB:B<lo):∀ cs W W',W.grownBy W' (some B)->QW lo S cs W->QW lo S cs W':=fun cs W W' hg h=>by obtain⟨x0,x1,x2,x3,e,hT⟩:=h;exact⟨x0,x1,x2,x3,e,QF.keep hT (zM _) hg.size fun k h1 hk=>hg.block k hk fun e=>by simp at e;omega⟩
theorem TJ {P:Program} {o:Oper} {a:Act} {W:World} {lo B:Nat} {S:Sto} {ty:TypeId} {x0 x1 x2 x3:Value} (hB:B<lo) (h:∃ u0 u1 u2 u3,W.heap[B]?=some (.cells #[u0,u1,u2,u3] ty (0,0))) (hT:QF lo S (.agg #[x0,x1,x2,x3]) W) (hr:(execOp a.eval o).run P W=.ok .skip ((((W.setCell ⟨B,0,none⟩ x0).setCell ⟨B,1,none⟩ x1).setCell ⟨B,2,none⟩ x2).setCell ⟨B,3,none⟩ x3)):QC (jP B ty (QW lo S) (QW.keep hB)) P o a W (Vd B ty (QW lo S)):=by
 obtain⟨u0,u1,u2,u3,h⟩:=h;exact qdg hr (Qu.trans (Qu.trans (Qu.trans Qu))) (Xd h x0 x1 x2 x3) ⟨x0,x1,x2,x3,rfl,hT⟩
theorem qea {W W':World} {lo B:Nat} {S:Sto} {ty:TypeId} (hB:B<lo) {u0 u1 u2 u3:Value} (h:(jP B ty (QW lo S) (QW.keep hB)).r W W') (hc:W.heap[B]?=some (.cells #[u0,u1,u2,u3] ty (0,0))):∃ u0 u1 u2 u3,W'.heap[B]?=some (.cells #[u0,u1,u2,u3] ty (0,0)):=by
 rcases GK h hc with e|⟨cs,e,x0,x1,x2,x3,rfl,_⟩
 ·exact⟨_,_,_,_,e⟩
 ·exact⟨_,_,_,_,e⟩
structure WyI (S:Sto) (K:K3) (full:List Stp) (lo:Nat) (w1:World) (v i:Value) (wr:World):Prop where
 ex:∃ (h r:Nat) (ys:List It) (pre:List Stp) (Av:Option Addr) (cv:Nat),v=.slice Av pre.length cv/\i=.int .i64 (r:Int)/\8<=r/\r<256/\qv S r=some ((h:Int),ys)/\(Qg S h ys).isSome=true/\full=pre++Vy S K h ys/\pre.length+h<6/\jI lo wr v pre/\Below lo w1 wr
set_option maxRecDepth 100000 in
theorem way_any (A1:Option Addr) (n1 c1:Nat) (A2:Option Addr) (n2 c2:Nat) (A3:Option Addr) (n3 c3:Nat) (A4:Option Addr) (n4 c4:Nat) (S:Sto) (hS:qm S=true) (a lvl:Nat) (xs:List It) (ha:8<=a) (bK:a<256) (hn:qv S a=some ((lvl:Int),xs)) (aW:(Qg S lvl xs).isSome=true) (k i o:Int) (w:World) (aH:qX w w.heap.size (.slice A1 n1 c1) (.slice A2 n2 c2) (.slice A3 n3 c3) (.slice A4 n4 c4) S):Calls prog 98 #[Qe A1 n1 c1 A2 n2 c2 A3 n3 c3 A4 n4 c4,.int .i64 (a:Int),keyV k i o] w (QV (fun u W=>YK w.heap.size W u (Vy S (k,i,o) lvl xs)) w):=by
 obtain⟨i0,hi,aX,aU,aV⟩:=info_parts Tryz.info_step;obtain⟨full,fZ⟩:∃ full,Vy S (k,i,o) lvl xs=full:=⟨_,rfl⟩
 rw[fZ];have hl6:lvl<6:=by have:=zt hn;omega
 have HI0:=zH (fun W=>(⟨⟨lvl,a,xs,[],none,0,rfl,rfl,ha,bK,hn,aW,fZ.symm,by simpa using hl6,jI.nil _ _,Below.refl _ _⟩⟩:WyI S (k,i,o) full W.heap.size W (.slice none 0 0) (.int .i64 (a:Int)) W));have HN:=zH (fun (r:Nat) W (hx:Ext w W)=>Yi A1 n1 c1 A2 n2 c2 A3 n3 c3 A4 n4 c4 S (r:Int) W (aH.ext hx));replace hS:=zH hS;replace hi:=zH hi;clear aH hn aW fZ ha bK hl6;go_enter func98,ntmps98;go_wp2_with fail;generalize aA:(World.alloc (World.alloc w _) _)=w1;have x1:Ext w w1:=by rw[<-aA];exact(zN _ _).trans (zN _ _)
 have uH:w1.heap[w.heap.size]?=some (.cells #[.slice A1 n1 c1,.slice A2 n2 c2,.slice A3 n3 c3,.slice A4 n4 c4] 28 (0,0)):=by rw[<-aA];exact(zK _ _ _ zA3).trans (zI _ _ _ rfl)
 have rk1:w1.heap[w.heap.size+1]?=some (.cells #[.int .u8 k,.int .u32 i,.int .u32 o] 66 (0,0)):=by rw[<-aA];exact zI _ _ _ zA3
 have z1:w.heap.size<=w1.heap.size:=by rw[<-aA];simp;omega
 clear aA;have I0:=zH (HI0.out w1);clear HI0;go_wp2_with fail;go_loopw [6,7] (fun v j wr=>WyI S (k,i,o) full w1.heap.size w1 v j wr) (fun _ j _=>Ka S j)
 case atStart=>exact I0.out
 case round =>
  obtain⟨h,r,ys,pre,Av,cv,rfl,rfl,h8,h256,hn,aW,fZ,hlen,hso,xr⟩:=hrel.ex;clear I0 hrel;have hlv:=XB hn;obtain⟨hm1,iP,-⟩:=Qb hn;have uk:ys.length<=5:=by unfold Qc jv at hm1;simp at hm1;omega
  have fA:0<h->0<ys.length:=fun h0=>qbM hm1 h0;have xr1:Ext w1 wr:=xr;have HNr:=HN.out r wr (x1.trans xr1);rw[show ZO S (r:Int)=0 by rw[Xj hS.out h8 h256,if_neg (show ¬ZD S r=0 from fun e=>by unfold qv at hn;rw[if_pos (show (S.now[r]?.getD 0).toNat=0 from e)] at hn;cases hn)],if_pos rfl,Int.toNat_natCast,hn] at HNr;have rsr:=qb uH xr1;have rkr:=qb rk1 xr1;have ksr:=qa rsr;replace aW:=zH aW;replace hn:=zH hn;replace iP:=zH iP;replace fZ:=zH fZ;replace hso:=zH hso;replace hlv:=zH hlv;replace fA:=zH fA;clear hm1;go_wp2_with fail;refine HNr.mono ?_;clear HNr;rintro e w4 ⟨u,rfl,⟨A9,c9,rfl,aG⟩,hB⟩;have hB:Ext wr w4:=hB;have xx4:Ext w1 w4:=xr1.trans hB;have yN:=qb rkr hB;have so4:=zH (hso.out.ext hB);have z4:w.heap.size+1<w4.heap.size:=(zG.1 yN).1;have kk4:=qa yN;have zwr:w1.heap.size<=wr.heap.size:=xr.size;have z4r:wr.heap.size<=w4.heap.size:=hB.size;replace aG:=zH aG;have hso':Hid (∀ q,(Value.slice Av pre.length cv).ownBlock=some q->q<wr.heap.size):=zH fun q hq=>by obtain⟨ps,-,ho,-⟩:=hso.out;exact(Ql ho q hq).2
  clear hB rsr rkr ksr hso xr xr1;go_wp2_with fail;generalize aQ:(World.alloc w4 _)=w5;have au:Ext w4 w5:=by rw[<-aQ];exact zN _ _
  have uG:w5.heap[w4.heap.size]?=some (.cells #[.int .i64 h,.slice A9 ys.length c9] 49 (0,0)):=by rw[<-aQ];exact zI _ _ _ rfl
  clear aQ;have rk5:=qb yN au;have kn5:=qa uG;have kk5:=qa rk5;clear kk4;go_wp2_with fail;refine(Tm (h:Int) A9 c9 ys k i o _ w5 uk (aG.out.ext au)).mono ?_;rintro e w6 ⟨rfl,hB⟩;have dV:Ext w4 w6:=au.trans hB;have ut:=qb uG hB;have kn6:=qa ut;have di:=zH (aG.out.ext dV);have xx6:Ext w1 w6:=xx4.trans dV;have so6:=zH (so4.out.ext dV);clear uG au hB dV yN rk5 kk5 kn5 xx4 aG so4;obtain⟨ak,iq,hsx⟩:=di.out.toE (X:=OwnL w1.heap.size (.slice Av pre.length cv)) (fun q hq hx=>hx.elim (fun h1=>by have:=hso'.out q h1;omega) fun h1=>zO);replace hsx:=zH hsx;replace iq:=zH iq;have hA:=di.out.its.at_.2.2.2;clear di;obtain⟨ie,iM⟩:∃ ie,Kj ys (k,i,o)=ie:=⟨_,rfl⟩
  obtain⟨p,hp⟩:∃ p,qG ys (k,i,o)=p:=⟨_,rfl⟩
  have pK:=JI ys (k,i,o);rw[iM,hp];rw[hp] at pK;obtain⟨ps,e0,ho,gZ⟩:=so6.out;have bV:∀ W':World,w6.grownBy W' (Value.slice Av pre.length cv).ownBlock->qZ (OwnL w1.heap.size (.slice Av pre.length cv)) w6 W':=fun W' hg=>qZ.of_heap fun q hq hX=>hg.block q hq fun e=>hX (.inl e.symm);replace gZ:=zH gZ;replace bV:=zH bV;clear so6;rcases Nat.eq_zero_or_pos h with h0|h0
  ·have hh1:((h:Int) == 0)=true:=by rw[beq_iff_eq];omega
   have hh2:decide (h=0)=true:=decide_eq_true h0;have hf2:full=pre++[(0,ys,p)]:=by rw[fZ.out,h0,qeh,hp]
   subst h0;replace hf2:=zH hf2;clear hA fA iM hp;go_wp2_with (at_builtin;refine qI ?_);refine Qh.go (zZ w6 rfl (.tmp 28) (.tmp 32) 153 rfl w1.heap.size 160 i0 _ 3 40 underlying153 hi.out aX aU aV rfl zA1 (.slice Av pre.length cv) pre.length (ZY ps) zE ho #[.int .i64 0,.slice A9 ys.length c9,.int .i64 (p:Int)] zE rfl zA8 zO zA1 xx6.size ?_);intro v' W' aT hg hB dW;have hF:jI w1.heap.size W' v' (pre++[(0,ys,p)]):=jI.push (s:=(0,ys,p)) xx6.size e0 gZ.out iq.out hsx.out aT hg dW;have wZ:Ext w W':=x1.trans (Below.trans xx6 hB);replace hF:=zH hF;replace wZ:=zH wZ;clear aT hg dW hB;go_wp2_with fail;go_ret;exact⟨_,rfl,by rw[hf2.out];exact hF.out.toE.mono z1,wZ.out⟩
  ·have hh1:((h:Int) == 0)=false:=by rw[beq_eq_false_iff_ne];omega
   obtain⟨h',hh⟩:∃ h',h=h'+1:=⟨h-1,zO⟩
   obtain⟨j,hj⟩:∃ j,KO ys (k,i,o)=j:=⟨_,rfl⟩
   have hjl:j<ys.length:=by rw[<-hj];exact Jr (fA.out h0)
   obtain⟨b',e1,f8,f256,zs,e4,e5⟩:=Ja (h:=h') (by rw[<-hh];exact JK aW.out _ (List.getElem_mem hjl));have hfl:full=(pre++[(h,ys,j)])++Vy S (k,i,o) h' zs:=by rw[fZ.out,hh,GU (by rw[hj];exact zL hjl) (by rw[e1,Int.toNat_natCast];exact e4),hj,List.append_assoc];rfl
   have hms:Ka S (.int .i64 (b':Int))<Ka S (.int .i64 (r:Int)):=by rw[XB e4,hlv.out];omega
   obtain⟨b9,off,rfl,hb9⟩:=hA zO;have aI:∀ (v':Value) (W':World),w6.ownsRow w1.heap.size 160 3 (.slice Av pre.length cv) pre.length (ZY ps)->W'.ownsRow w1.heap.size 160 3 v' (pre.length+1) (ZY ps++[.int .i64 (h:Int),.slice (some ⟨b9,off,none⟩) ys.length c9,.int .i64 (j:Int)])->w6.grownBy W' (Value.slice Av pre.length cv).ownBlock->(v'.ownBlock=(Value.slice Av pre.length cv).ownBlock\/∃ g,v'.ownBlock=some g/\w6.heap.size<=g)->Below w1.heap.size w6 W' ->
     WyI S (k,i,o) full w1.heap.size w1 v' (.int .i64 (b':Int)) W'/\Ka S (.int .i64 (b':Int))<Ka S (.int .i64 (r:Int)):=fun v' W' _ aT hg dW hB=>by
    obtain⟨A7,c7,rfl,-,-⟩:=qy aT;have hF:jI w1.heap.size W' (.slice A7 (pre.length+1) c7) (pre++[(h,ys,j)]):=jI.push (s:=(h,ys,j)) xx6.size e0 gZ.out iq.out hsx.out aT hg dW;exact⟨⟨h',b',zs,_,A7,c7,zA3,rfl,f8,f256,e4,e5,hfl,zA2,hF,Below.trans xx6 hB⟩,hms⟩
   have hit:∀ W':World,w6.grownBy W' (Value.slice Av pre.length cv).ownBlock->W'.cell? ⟨b9,off+j*5+3,none⟩=some (.int .i64 (b':Int))/\W'.heap[w4.heap.size]?=some (.cells #[.int .i64 (h:Int),.slice (some ⟨b9,off,none⟩) ys.length c9] 49 (0,0)):=fun W' hg=>by obtain⟨A',c',-,-,-,d3,-,-⟩:=(show Its W' W'.heap.size (.slice (some ⟨b9,off,none⟩) ys.length c9) ys by have:=hsx.out.its (bV.out W' hg);rw[iq.out] at this;exact this).item j hjl;rw[e1] at d3;refine⟨d3,(hg.block _ (zG.1 ut).1 fun e=>?_).trans ut⟩;have:=hso'.out _ e.symm;omega
   replace aI:=zH aI;replace hit:=zH hit;replace fA:=zH fA;replace hh:=zH hh;clear hA hfl hms e4 e5 aW hn fZ hlv gZ bV;have aP:(ie=true/\p=j)\/(ie=false/\max (0:Int) ((p:Int)-1)=(j:Int)):=by
    unfold KO at hj;rw[iM,hp] at hj;cases ie
    ·right;refine⟨rfl,?_⟩;simp only[Bool.false_eq_true,if_false] at hj;omega
    ·left;exact⟨rfl,by simpa using hj⟩
   clear iM hp hj;rcases aP with ⟨rfl,rfl⟩|⟨rfl,hmax⟩
   ·go_wp2_with (at_builtin;refine qI ?_);refine Qh.go (zZ w6 rfl (.tmp 39) (.tmp 43) 153 rfl w1.heap.size 160 i0 _ 3 40 underlying153 hi.out aX aU aV rfl zA1 (.slice Av pre.length cv) pre.length (ZY ps) zE ho #[.int .i64 (h:Int),.slice (some ⟨b9,off,none⟩) ys.length c9,.int .i64 (p:Int)] zE rfl zA8 zO zA1 xx6.size ?_);intro v' W' aT hg hB dW;obtain⟨d3,rnW⟩:=hit.out W' hg;have knW:=qa rnW;have hF:=zH (aI.out v' W' ho aT hg dW hB);clear aI hit aT hg dW hB ho;go_wp2_with fail;exact hF.out
   ·go_wp2_with (at_builtin;refine qI ?_);refine Qh.go (zZ w6 rfl (.tmp 39) (.tmp 43) 153 rfl w1.heap.size 160 i0 _ 3 40 underlying153 hi.out aX aU aV rfl zA1 (.slice Av pre.length cv) pre.length (ZY ps) zE ho #[.int .i64 (h:Int),.slice (some ⟨b9,off,none⟩) ys.length c9,.int .i64 (j:Int)] zE rfl zA8 zO zA1 xx6.size ?_);intro v' W' aT hg hB dW;obtain⟨d3,rnW⟩:=hit.out W' hg;have knW:=qa rnW;have hF:=zH (aI.out v' W' ho aT hg dW hB);clear aI hit aT hg dW hB ho;go_wp2_with fail;exact hF.out
def VT (s:Stp):Bool:=decide (s.2.1.length<5)
def ThinIx (l:List Stp) (u:Value):Prop:=(∃ j:Nat,u=.int .i64 (j:Int)/\l.any VT=true)\/(u=.int .i64 (-1)/\l.any VT=false)
set_option maxRecDepth 100000 in
theorem qhr (lvl p:Int) (A:Option Addr) (n c:Nat) (w:World):Calls prog 145 #[.agg #[.int .i64 lvl,.slice A n c,.int .i64 p]] w (Ret (.bool (decide (n<5))) w):=by
 go_enter func145,ntmps145;by_cases h:n<5
 ·have h1:decide ((n:Int)<5)=true:=decide_eq_true zO;rw[decide_eq_true h];replace h:=zH h;go_wp2;go_ret;exact⟨rfl,zN _ _⟩
 ·have h1:decide ((n:Int)<5)=false:=decide_eq_false zO;rw[decide_eq_false h];replace h:=zH h;go_wp2;go_ret;exact⟨rfl,zN _ _⟩
set_option maxRecDepth 100000 in
theorem qhs (v:Value) (l:List Stp) (hl:l.length<=100) (w:World) (h:Vn w.heap.size w v l):Calls prog 168 #[v,.func (.func 145) #[] #[]] w (QV (fun u _=>ThinIx l u) w):=by
 obtain⟨ps,cO,⟨A,c,rfl,dS,bJ,hr⟩,gZ⟩:=h;have bT:ps.length=l.length:=by rw[<-cO,List.length_map]
 replace hr:=zH hr;replace bJ:=zH bJ;go_enter func168,ntmps168;go_wp2_with fail;go_loopw [8] (fun i wr=>∃ k:Nat,k<=l.length/\i=.int .i64 (k:Int)/\Ext w wr/\(l.take k).any VT=false) (fun i _=>l.length-(intOf i).toNat)
 case atStart=>exact⟨0,Nat.zero_le _,rfl,Ext.refl _,rfl⟩
 case round =>
  obtain⟨k,hk,rfl,xr,bQ⟩:=hrel;replace bQ:=zH bQ;by_cases hlt:k<l.length
  ·obtain⟨bv,tH,rfl,hbv,aS⟩:=hr.out.2 zO;have hkp:k<ps.length:=zO;obtain⟨d0,d1,d2⟩:=KW ps k hkp;replace d0:=Ext.cell xr (aS _ _ d0);replace d1:=Ext.cell xr (aS _ _ d1);replace d2:=Ext.cell xr (aS _ _ d2);rw[<-Nat.add_assoc] at d1 d2;obtain⟨Ax,cx,hx2⟩:=(gZ ps[k] (List.getElem_mem hkp)).1;have hxe:ps[k].1=l[k]:=by simp only[<-cO,List.getElem_map]
   rw[hx2,hxe] at d1;rw[hxe] at d0 d2;have HAT:=zH (fun (he:VT l[k]=true)=>show l.any VT=true from List.any_eq_true.2 ⟨l[k],List.getElem_mem hlt,he⟩);have HNO:=zH (fun (he:VT l[k]=false)=>show (l.take (k+1)).any VT=false by rw[List.take_succ_eq_append_getElem hlt,List.any_append,bQ.out];simp[he]);unfold VT at HAT HNO;generalize l[k]=u at *;obtain⟨ul,uxs,up⟩:=u;dsimp only at d0 d1 d2 HAT HNO;clear aS hx2 hxe;have iF:=zH (IntWalk.wrap64_in ((k:Int)+1) zO);have hV:=qhr (ul:Int) (up:Int) Ax uxs.length cx wr;go_wp2_with fail;refine hV.mono ?_;rintro e w2 ⟨rfl,hB⟩;clear d0 d1 d2 hV;by_cases he:uxs.length<5
   ·rw[decide_eq_true he];have HQ:=zH (HAT.out (decide_eq_true he));clear HAT HNO;replace he:=zH he;go_wp2_with fail;refine bodyPost_ret (v:=.int .i64 (k:Int)) ?_ rfl ⟨_,rfl,.inl ⟨k,rfl,HQ.out⟩,Ext.trans xr hB⟩;simp[results,results168,go_sem]
   ·rw[decide_eq_false he];have HQ:=zH (HNO.out (decide_eq_false he));clear HAT HNO;replace he:=zH he;have aA:=iF.out;go_wp2_with fail;refine⟨⟨k+1,hlt,rfl,Ext.trans xr hB,HQ.out⟩,?_⟩;simp[intOf];omega
  ·obtain rfl:k=l.length:=zO;have HQ:=zH (show l.any VT=false by have:=bQ.out;rwa [List.take_length] at this);go_wp2_with fail;refine bodyPost_ret (v:=.int .i64 (-1)) ?_ rfl ⟨_,rfl,.inr ⟨rfl,HQ.out⟩,xr⟩;simp[results,results168,go_sem]
set_option maxRecDepth 100000 in
theorem thin_any (v:Value) (l:List Stp) (hl:l.length<=100) (w:World) (h:Vn w.heap.size w v l):Calls prog 144 #[v,.func (.func 145) #[] #[]] w (Ret (.bool (l.any VT)) w):=by
 have HX:=qhs v l hl w h;clear h;go_enter func144,ntmps144;go_wp2_with fail;refine HX.mono ?_;rintro e w2 ⟨u,rfl,hu,hB⟩;rcases hu with ⟨j,rfl,hj⟩|⟨rfl,hj⟩
 ·have hd:decide ((0:Int)<=(j:Int))=true:=decide_eq_true zO;go_wp2_with fail;go_ret;exact⟨by rw[hj];rfl,hB⟩
 ·go_wp2_with fail;go_ret;exact⟨by rw[hj];rfl,hB⟩
set_option maxRecDepth 100000 in
theorem tall_any (v:Value) (l:List Stp) (hl:l.length<=100) (hl0:0<l.length) (k i o:Int) (hl5:∀ s∈l,s.2.1.length<=5) (w:World) (h:Vn w.heap.size w v l):Calls prog 99 #[v,keyV k i o] w (Ret (.bool (Ue (k,i,o) l)) w):=by
 have HT:=zH (fun W (hx:Ext w W)=>thin_any v l hl W ((h.below hx).more hx.size));obtain⟨ps,cO,⟨A,c,rfl,dS,bJ,hr⟩,gZ⟩:=h;have bT:ps.length=l.length:=by rw[<-cO,List.length_map]
 obtain⟨bv,tH,rfl,hbv,aS⟩:=hr.2 hl0;obtain⟨m,hm⟩:∃ m,l.length=m+1:=⟨l.length-1,zO⟩
 have hmp:m<ps.length:=zO;have uX:m<l.length:=zO;obtain⟨d0,d1,d2⟩:=KW ps m hmp;replace d0:=aS _ _ d0;replace d1:=aS _ _ d1;replace d2:=aS _ _ d2;rw[<-Nat.add_assoc] at d1 d2;obtain⟨⟨Ax,cx,hx2⟩,aG⟩:=gZ ps[m] (List.getElem_mem hmp);have hxe:ps[m].1=l[m]:=by simp only[<-cO,List.getElem_map]
 rw[hx2,hxe] at d1 aG;rw[hxe] at d0;have hGJ:l.getLast?=some l[m]:=by rw[List.getLast?_eq_getElem?,hm,Nat.add_sub_cancel];exact zL uX
 have hq:Ue (k,i,o) l=(decide (l.length=6) && !(l.any VT) && !(Kj l[m].2.1 (k,i,o))):=by unfold Ue;rw[hGJ];simp only;congr 2;rw[Bool.eq_iff_iff];simp[List.all_eq_true,VT]
 have hu5:=hl5 l[m] (List.getElem_mem uX);rw[hq];generalize l[m]=u at *;obtain⟨ul,uxs,up⟩:=u;dsimp only at d0 d1 aG hu5 ⊢;have HP:=zH (fun W (hx:Ext w W)=>GA (ul:Int) Ax cx uxs k i o W hu5 ((aG.below hx).more hx.size));clear hq hGJ aS hr hx2 hxe gZ aG d2 cO;replace hm:=zH hm;generalize l.any VT=bt at *;generalize Kj uxs (k,i,o)=bi at *;generalize qG uxs (k,i,o)=pn at *;replace bJ:=zH bJ;go_enter func99,ntmps99;go_wp2_with fail;generalize aA:World.alloc _ _=w1;have x1:Ext w w1:=by rw[<-aA];exact zN _ _
 have r1:w1.heap[w.heap.size]?=some (.cells #[.int .u8 k,.int .u32 i,.int .u32 o] 66 (0,0)):=by rw[<-aA];exact zI _ _ _ rfl
 clear aA;refine(HT.out w1 x1).mono ?_;clear HT;rintro e w2 ⟨rfl,hB⟩;have x2:Ext w w2:=x1.trans hB;have r2:=qb r1 hB;clear r1 hB x1;go_upto_region 2 with fail;have g0:∀ W,qk.r w2 W->W.cell? ⟨bv,tH+m*3,none⟩=some (.int .i64 (ul:Int)):=fun W h=>Ext.cell (x2.trans h) d0;have g1:∀ W,qk.r w2 W->W.cell? ⟨bv,tH+m*3+1,none⟩=some (.slice Ax uxs.length cx):=fun W h=>Ext.cell (x2.trans h) d1;have g2:∀ W,qk.r w2 W->∀ i_1,W.cell? ⟨w.heap.size,i_1,none⟩=#[.int .u8 k,.int .u32 i,.int .u32 o][i_1]?:=fun W h=>qa (qb r2 h);clear d0 d1;have hwl:=zH (show IntKind.i64.wrap ((l.length:Int)-1)=(m:Int) by rw[IntKind.wrap_i64];have:=hm.out;omega);refine qo zQ ?_;refine qP (w:=w2) qk (qD [(8,one (.tuple #[.int .i64 (pn:Int),.bool bi]))]) (List.replicate 14 true) 0 zQ zQ zQ zQ zQ zQ zQ ?st (Rel.drew _ _) ?walk
 case st=>exact qj (by simp only[List.forall_mem_cons];exact⟨qdA _,fun _ h=>by cases h⟩)
 case walk =>
  intro K hK;dsimp only[qp,List.replicate];repeat ((first|(refine qd ?_ zA0 zA0 (fun W hW _=>⟨W,?_,Rel.refl _ W⟩) ?_;rotate_left;(go_simp<;>with_reducible rfl))|(refine qh zA0 ?_));try simp only[Act.put,ql,qf,qc,qg,zA,zB,zC])
  refine qd (.pointer (some ⟨bv,tH+m*3,none⟩)) zA0 zA0 (fun W hW _=>⟨W,?_,Rel.refl _ W⟩) ?_
  ·go_simp;rw[hwl.out,if_pos zO];simp
  simp only[Act.put,qf,qc,qg,zA,zB,zC];repeat ((first|(refine qd ?_ zA0 zA0 (fun W hW _=>⟨W,?_,Rel.refl _ W⟩) ?_;rotate_left;(go_simp<;>with_reducible rfl))|(refine qh zA0 ?_));try simp only[Act.put,ql,qf,qc,qg,zA,zB,zC])
  refine qw (one _) zA0 zA0 (fun W hW _=>?_) (fun (_:Unit)=>?_)
  ·have ax:Ext w2 W:=hW;refine Qa ?_ ((HP.out W (x2.trans ax)).mono fun e w' h=>⟨(),h.1,trivial,h.2⟩);go_simp
  simp only[Act.put,ql,qc,qg,zA,zB,zC];repeat ((first|(refine qd ?_ zA0 zA0 (fun W hW _=>⟨W,?_,Rel.refl _ W⟩) ?_;rotate_left;(go_simp<;>with_reducible rfl))|(refine qh zA0 ?_));try simp only[Act.put,ql,qf,qc,qg,zA,zB,zC])
  refine qu (hK _ _ fun W hW hF=>?_);clear hF hK;have hW:Ext w2 W:=hW;have xW:Ext w W:=x2.trans hW;refine zC3 ?_;go_wp2;refine Qo ?_;clear HP g0 g1 g2 r2;by_cases h6:l.length=6
  ·have e6:((l.length:Int) == 6)=true:=by rw[beq_iff_eq];omega
   have d6:=decide_eq_true h6;replace h6:=zH h6;cases bt
   ·cases bi;all_goals
     go_wp2_with fail;go_ret;exact⟨by rw[d6];rfl,xW⟩
   ·go_wp2_with fail;go_ret;exact⟨by rw[d6];rfl,xW⟩
  ·have e6:((l.length:Int) == 6)=false:=by rw[beq_eq_false_iff_ne];omega
   have d6:=decide_eq_false h6;replace h6:=zH h6;go_wp2_with fail;go_ret;exact⟨by rw[d6];rfl,xW⟩
def JS:List UInt8->Nat
 | []=>0
 |x :: r=>x.toNat+JS r
theorem GP:∀ (t:List UInt8) (a:Nat) (x:UInt8),a<t.length->JS (t.set a x)+Qd t a=JS t+x.toNat
 | [],a,x,h=>by simp at h
 |y :: r,0,x,h=>by simp[JS,Qd];omega
 |y :: r,a+1,x,h=>by
  have:=GP r a x (by simpa using h);simp only[zC,JS];have e:Qd (y :: r) (a+1)=Qd r a:=by simp[Qd]
  rw[e];omega
theorem Xn {t:List UInt8} {a:Nat} (h:t.length<=a):Qd t a=0:=by unfold Qd;rw[List.getElem?_eq_none h];rfl
theorem Yt {t:List UInt8} {a:Nat} (h:a<t.length) (x:UInt8):Qd (t.set a x) a=x.toNat:=by unfold Qd;rw[List.getElem?_set_self h];rfl
theorem Kq {t:List UInt8} {a j:Nat} (h:j≠a) (x:UInt8):Qd (t.set a x) j=Qd t j:=by unfold Qd;rw[List.getElem?_set_ne zO]
theorem qbz (t:List UInt8) (a:Nat):Qd t a<256:=(t[a]?.getD 0).toNat_lt
theorem UQ {t:List UInt8} {a:Nat} (h:Qd t a≠0):JS (ZZ t a)+1=JS t:=by
 have hl:a<t.length:=by
  by_cases h1:a<t.length
  ·exact h1
  ·exact absurd (Xn zO) h
 have e:=GP t a (UInt8.ofNat (Qd t a-1)) hl;have h2:=qbz t a;have h3:(UInt8.ofNat (Qd t a-1)).toNat=Qd t a-1:=by rw[UInt8.toNat_ofNat'];omega
 unfold ZZ;omega
theorem qfT (t:List UInt8) (a j:Nat):Qd (ZZ t a) j<=Qd t j:=by
 unfold ZZ;by_cases hj:j=a
 ·subst hj;by_cases hl:j<t.length
  ·rw[Yt hl];have h2:=qbz t j;rw[UInt8.toNat_ofNat'];omega
  ·rw[Xn (by simpa using hl)];omega
 ·rw[Kq hj];omega
theorem XY {t:List UInt8} {a:Nat} (h:Qd t a=1):JS (t.set a 0)+1=JS t:=by
 have hl:a<t.length:=by
  by_cases h1:a<t.length
  ·exact h1
  ·rw[Xn zO] at h;cases h
 have e:=GP t a 0 hl;rw[h] at e;simpa using e
theorem zero_le (t:List UInt8) (a j:Nat):Qd (t.set a 0) j<=Qd t j:=by
 by_cases hj:j=a
 ·subst hj;by_cases hl:j<t.length
  ·rw[Yt hl];simp
  ·rw[Xn (by simpa using hl)];omega
 ·rw[Kq hj];omega
theorem Yb:∀ {l:List Nat} {t t':List UInt8},QG l t=.ok t'->JS t'<=JS t/\∀ j,Qd t' j<=Qd t j
 | [],t,t',e=>by cases e;exact⟨zM _,fun _=>zM _⟩
 |a :: l,t,t',e=>by
  by_cases ha:a=0
  ·subst ha;rw[jT] at e;exact Yb e
  ·by_cases h0:Qd t a=0
   ·rw[Jo ha h0] at e;cases e
   ·rw[jS ha h0] at e;obtain⟨h1,h2⟩:=Yb e;have:=UQ h0;exact⟨zO,fun j=>Nat.le_trans (h2 j) (qfT t a j)⟩
theorem qfb {S:Sto} {t:List UInt8} {a:Nat} (h:Qd t a≠0) (hle:Qd t a<=Qd S.now a):qv (qt S t) a=qv S a:=by
 have e1:qv (qt S t) a=if Qd t a=0 then none else QD (Jc S a):=rfl
 have e2:qv S a=if Qd S.now a=0 then none else QD (Jc S a):=rfl
 rw[e1,e2,if_neg h,if_neg zO]
theorem qfc {S:Sto} {a:Nat} {lvl:Int} {xs:List It} (h:qv S a=some (lvl,xs)) (hl:0<lvl):∀ r∈qU xs,8<=r/\r<256:=fun r hr=>by
 have h1:=Ye h r hr;obtain⟨x,hx,rfl⟩:=List.mem_map.1 hr;have hm:=(Qb h).1;have lV:=((Qb h).2.1 x hx).1.2.2.2.1.1;unfold Qc at hm;simp only[Bool.and_eq_true] at hm;obtain⟨i,hi,e⟩:=List.mem_iff_getElem.1 hx;have h2:=List.all_eq_true.1 hm.2 i (List.mem_range.2 hi);unfold TE at h2;rw[zL hi] at h2;simp only[Bool.and_eq_true] at h2;have h3:=h2.2;rw[e,decide_eq_true hl] at h3;have h4:x.r≠0:=by intro h5;rw[h5] at h3;simp at h3
 omega
structure LvI (S:Sto) (a:Nat) (st:List (Nat×Int)) (t:List UInt8):Prop where
 eq:Qz S (-1) S.now a=jJ S st.reverse t
 may:QB t=true
 le:∀ j,Qd t j<=Qd S.now j
 few:st.length+5*JS t<=5*JS S.now+1
 at_:∀ p∈st,8<=p.1/\p.1<256/\-1<=p.2/\p.2<6
theorem qeW (S:Sto) (x:Nat×Int) (t:List UInt8):jJ S [x] t=Qz S x.2 t x.1:=by unfold jJ;cases Qz S x.2 t x.1 <;> rfl
theorem LvI.start {S:Sto} (hS:qm S=true) {a:Nat} (ha:8<=a) (bK:a<256):LvI S a [(a,-1)] S.now:=by
 refine⟨(qeW S (a,-1) S.now).symm,(qY.1 hS).2.1,fun _=>zM _,zA2,fun p hp=>?_⟩;obtain rfl:p=(a,-1):=by simpa using hp
 exact⟨ha,bK,zA3,zA3⟩
theorem LvI.done {S:Sto} {a:Nat} {t:List UInt8} (h:LvI S a [] t):Qz S (-1) S.now a=some t:=h.eq
section
variable {S:Sto} {a:Nat} {s:List (Nat×Int)} {x:Nat×Int} {t:List UInt8}
theorem LvI.eq' (h:LvI S a (s++[x]) t):Qz S (-1) S.now a=match Qz S x.2 t x.1 with
  |none=>none
  |some t'=>jJ S s.reverse t':=by
 rw[h.eq,List.reverse_append];rfl
theorem LvI.top (h:LvI S a (s++[x]) t):8<=x.1/\x.1<256/\-1<=x.2/\x.2<6:=h.at_ x zA3
theorem LvI.bad0 (h:LvI S a (s++[x]) t) (h0:Qd t x.1=0):Qz S (-1) S.now a=none:=by rw[h.eq',Kw,if_pos h0]
theorem LvI.more (h:LvI S a (s++[x]) t) (h1:1<Qd t x.1):LvI S a s (ZZ t x.1):=by have hd:=UQ (t:=t) (a:=x.1) zO;have hf:=h.few;simp only[List.length_append,List.length_cons,List.length_nil] at hf;refine⟨?_,ZN h.may h.top.1 _,fun j=>Nat.le_trans (qfT t x.1 j) (h.le j),zO,fun p hp=>h.at_ p (by simp[hp])⟩;rw[h.eq',Kw,if_neg zO,if_pos h1]
theorem LvI.one (h:LvI S a (s++[x]) t) (h1:Qd t x.1=1):Qz S (-1) S.now a=match (match qv S x.1 with
  |none=>none
  |some (l,xs)=>if 0<=x.2/\l≠x.2 then none else if 0<l then jJ S ((qU xs).map fun r=>(r,l-1)) (t.set x.1 0) else
   match QG (qU xs) (t.set x.1 0) with
   | .error _=>none
   | .ok t'=>some t') with
  |none=>none
  |some t'=>jJ S s.reverse t':=by
 rw[h.eq',Kw,if_neg zO,if_neg zO] <;> rfl
theorem LvI.none_ (h:LvI S a (s++[x]) t) (h1:Qd t x.1=1) (hn:qv S x.1=none):Qz S (-1) S.now a=none:=by rw[h.one h1,hn]
theorem LvI.level (h:LvI S a (s++[x]) t) (h1:Qd t x.1=1) {l:Int} {xs:List It} (hn:qv S x.1=some (l,xs)) (h0:0<=x.2) (hl:l≠x.2):Qz S (-1) S.now a=none:=by rw[h.one h1,hn];simp only;rw[if_pos ⟨h0,hl⟩]
theorem LvI.push (h:LvI S a (s++[x]) t) (h1:Qd t x.1=1) {l:Int} {xs:List It} (hn:qv S x.1=some (l,xs)) (h0:¬(0<=x.2/\l≠x.2)) (hl:0<l):LvI S a (s++((qU xs).map fun r=>(r,l-1)).reverse) (t.set x.1 0):=by
 have hd:=XY h1;have hf:=h.few;have h6:=zt hn;have hlen:(qU xs).length=xs.length:=by unfold qU;simp
 simp only[List.length_append,List.length_cons,List.length_nil] at hf;refine⟨?_,ZN h.may h.top.1 _,fun j=>Nat.le_trans (zero_le t x.1 j) (h.le j),by simp only[List.length_append,List.length_reverse,List.length_map];omega,fun p hp=>?_⟩
 ·rw[h.one h1,hn,List.reverse_append,List.reverse_reverse,Yy];simp only;rw[if_neg h0,if_pos hl] <;> rfl
 ·rcases List.mem_append.1 hp with hp|hp
  ·exact h.at_ p (by simp[hp])
  ·obtain⟨r,hr,rfl⟩:=List.mem_map.1 (List.mem_reverse.1 hp);have:=qfc hn hl r hr;exact⟨this.1,this.2,by simp only;omega,by simp only;omega⟩
theorem LvI.leafBad (h:LvI S a (s++[x]) t) (h1:Qd t x.1=1) {l:Int} {xs:List It} (hn:qv S x.1=some (l,xs)) (h0:¬(0<=x.2/\l≠x.2)) (hl:¬0<l) {e:Int} (he:QG (qU xs) (t.set x.1 0)=.error e):Qz S (-1) S.now a=none:=by rw[h.one h1,hn];simp only;rw[if_neg h0,if_neg hl,he]
theorem LvI.leaf (h:LvI S a (s++[x]) t) (h1:Qd t x.1=1) {l:Int} {xs:List It} (hn:qv S x.1=some (l,xs)) (h0:¬(0<=x.2/\l≠x.2)) (hl:¬0<l) {t':List UInt8} (he:QG (qU xs) (t.set x.1 0)=.ok t'):LvI S a s t':=by have hd:=XY h1;obtain⟨hs,hj⟩:=Yb he;have hf:=h.few;simp only[List.length_append,List.length_cons,List.length_nil] at hf;refine⟨?_,Jp (fun b hb=>(Ye hn b hb).1) (ZN h.may h.top.1 _) he,fun j=>Nat.le_trans (hj j) (Nat.le_trans (zero_le t x.1 j) (h.le j)),zO,fun p hp=>h.at_ p (by simp[hp])⟩;rw[h.one h1,hn];simp only;rw[if_neg h0,if_neg hl,he]
end
def mixL:List Bool->Nat->List Value->(Nat->Value)->List Value
 | [],_,l,_=>l
 |_ :: _,_,[],_=>[]
 |b :: m,i,x :: r,g=>(bif b then g i else x) :: mixL m (i+1) r g
def Gk (D:Nat):Deferred:={ target:=.collected D,args:=#[] }
theorem qcm {P:Program} {Q:Exit->Act->World->Prop} {tm:List Value} {w:World} {c:Code} (mask:List Bool) (n₀:Nat) (rel:Nat->(Nat->Value)->List Nat->World->Prop) (h₀:rel n₀ (fun i=>tm.getD i undef) [] w) (hmix:mixL mask 0 tm (fun i=>tm.getD i undef)=tm) (round:∀ (n:Nat) (g:Nat->Value) (Ds:List Nat) (wr:World) (K:Act->World->Prop),rel n g Ds wr->(∀ (n':Nat) (g':Nat->Value) (Ds':List Nat) (w':World),n'<n->rel n' g' Ds' w'->K { tmps:=(mixL mask 0 tm g').toArray,defers:=Ds'.map Gk } w')->c.wp P (Exit.then K Q) { tmps:=(mixL mask 0 tm g).toArray,defers:=Ds.map Gk } wr) : (Code.loop c).wp P Q { tmps:=tm.toArray,defers:=[] } w:=by
 refine wp_loop_ghost (fun n a w=>∃ g Ds,a={ tmps:=(mixL mask 0 tm g).toArray,defers:=Ds.map Gk }/\rel n g Ds w) n₀ ⟨_,[],by rw[hmix];rfl,h₀⟩ ?_;rintro n a wr ⟨g,Ds,rfl,h⟩;exact round n g Ds wr _ h fun n' g' Ds' w' hlt hr=>⟨n',hlt,g',Ds',rfl,hr⟩
theorem Gn {mask:List Bool} {tm:List Value} {n:Nat} {rel:Nat->(Nat->Value)->List Nat->World->Prop} {K:Act->World->Prop} (hK:∀ (n':Nat) (g':Nat->Value) (Ds':List Nat) (w':World),n'<n->rel n' g' Ds' w'->K { tmps:=(mixL mask 0 tm g').toArray,defers:=Ds'.map Gk } w') {l:List Value} {df:List Deferred} {w':World} (n':Nat) (hlt:n'<n) (Ds':List Nat) (hdf:df=Ds'.map Gk) (nH:l=mixL mask 0 tm (fun i=>l.getD i undef)) (hr:rel n' (fun i=>l.getD i undef) Ds' w'):K { tmps:=l.toArray,defers:=df } w':=by
 have:=hK n' _ Ds' w' hlt hr;rw[<-nH] at this
 rwa [hdf]
structure jb (lo:Nat) (Ds:List Nat) (w:World):Prop where
 nodup:Ds.Nodup
 at_:∀ D∈Ds,lo<=D/\w.heap[D]?=some (.deferred (some []))
theorem jb.nil (lo:Nat) (w:World):jb lo [] w:=⟨List.nodup_nil,fun _ h=>by cases h⟩
theorem jb.keep {lo:Nat} {Ds:List Nat} {w W:World} (h:jb lo Ds w) (hk:∀ (q:Nat) (o:Obj),w.heap[q]?=some o->o.isCells=false->W.heap[q]?=some o):jb lo Ds W:=⟨h.nodup,fun D hD=>⟨(h.at_ D hD).1,hk D _ (h.at_ D hD).2 rfl⟩⟩
theorem jb.cons {lo:Nat} {Ds:List Nat} {w W:World} (h:jb lo Ds w) (hk:∀ (q:Nat) (o:Obj),w.heap[q]?=some o->o.isCells=false->W.heap[q]?=some o) {D:Nat} (hD:w.heap.size<=D) (hl:lo<=D) (hr:W.heap[D]?=some (.deferred (some []))):jb lo (D :: Ds) W:=by
 have h1:=h.keep hk;refine⟨List.nodup_cons.2 ⟨fun hm=>?_,h1.nodup⟩,fun q hq=>?_⟩
 ·have:=(zG.1 (h.at_ D hm).2).1;omega
 ·rcases List.mem_cons.1 hq with rfl|hq
  ·exact⟨hl,hr⟩
  ·exact h1.at_ q hq
theorem Xy {F:Fence} {n:Nat} {P:Program} {fn:Func} {tmps:Array Value} {R:Ending->World->Prop} {lo:Nat}:∀ (Ds:List Nat) (W:World),jb lo Ds W -> (∀ W',(∀ q,q∉Ds->W'.heap[q]?=W.heap[q]?)->W'.heap.size=W.heap.size->W'.os=W.os->W'.tape=W.tape->W'.output=W.output->LeavesIn F n P fn tmps R [] .returning W')->LeavesInM F n P fn tmps R (Ds.map Gk) .returning W
 | [],W,_,h=>h W (fun _ _=>rfl) rfl rfl rfl rfl
 |D :: Ds,W,hm,h=>by
  refine⟨zA3,.inl ⟨D,_,rfl,run_takeDeferred (hm.at_ D List.mem_cons_self).2,?_⟩⟩;have hnd:=List.nodup_cons.1 hm.nodup;refine Xy (lo:=lo) Ds (W.putObj D (.deferred none)) ⟨hnd.2,fun q hq=>⟨(hm.at_ q (List.mem_cons_of_mem _ hq)).1,(World.putObj_heap_other (o:=.deferred none) (fun e=>by subst e;exact hnd.1 hq)).trans (hm.at_ q (List.mem_cons_of_mem _ hq)).2⟩⟩ ?_;intro W' h1 h2 h3 h4 h5;refine h W' (fun q hq=>?_) ?_ ?_ ?_ ?_
  ·exact(h1 q fun hx=>hq (List.mem_cons_of_mem _ hx)).trans (World.putObj_heap_other (o:=.deferred none) fun e=>hq (by rw[e];exact List.mem_cons_self))
  ·rw[h2];simp
  ·rw[h3];rfl
  ·rw[h4];rfl
  ·rw[h5];rfl
end Go.Proofs.YtpbniokljofedaaGreat
namespace Go.Proofs.YtpbniokljofedaaGreat
open Go.RowKit Go.Shelf
attribute [local go_sem] Oper.semAt_some
abbrev Ui:Type:=It×Sl
abbrev uiz:Ui:=((⟨0,0,0,0,[]⟩:It),(none,0,0))
set_option maxRecDepth 100000 in
theorem backi_in (n:Nat) (hn:1<=n) (l Bs b off len cap:Nat) (us:List Ui) (ag:len<1099511627776) (J Jx:List Nat->World->Prop) (hY:∀ pre (x:Nat) W,J pre W->pre.length<len->YieldAt Fence.wide (n-1) prog l #[.int .i64 (x:Int),.agg #[.int .u8 (us[x]?.getD uiz).1.k,.int .u32 (us[x]?.getD uiz).1.i,.int .u32 (us[x]?.getD uiz).1.o,.int .i64 (us[x]?.getD uiz).1.r,sv (us[x]?.getD uiz).2]] W fun e W' =>
   (e=.returned (.bool true)/\J (pre++[x]) W'/\Qi Bs b W W')\/(e=.returned (.bool false)/\Jx (pre++[x]) W'))
  (W:World) (fM:W.cell? ⟨Bs,0,none⟩=some (.slice (some ⟨b,off,none⟩) len cap)) (hc:∀ i,i<len->W.cell? ⟨b,off+i*5,none⟩=some (.int .u8 (us[i]?.getD uiz).1.k)/\W.cell? ⟨b,off+i*5+1,none⟩=some (.int .u32 (us[i]?.getD uiz).1.i)/\W.cell? ⟨b,off+i*5+2,none⟩=some (.int .u32 (us[i]?.getD uiz).1.o)/\W.cell? ⟨b,off+i*5+3,none⟩=some (.int .i64 (us[i]?.getD uiz).1.r)/\W.cell? ⟨b,off+i*5+4,none⟩=some (sv (us[i]?.getD uiz).2)) (h0:J [] W) :
  CallsIn Fence.wide n prog 170 #[.func (.yield l) #[] #[],.pointer (some ⟨Bs,0,none⟩)] W fun e W'=>(∃ v,e=.returned v) /\
   ((∃ ys,ys=Zl (fun j=>len-1-j) len/\J ys W')\/(∃ pre,(∃ k,k<=len/\pre=Zl (fun j=>len-1-j) k)/\Jx pre W')):=by
 refine callsIn_of_wp func170 rfl trivial ?_ rfl;simp only[ntmps170,List.size_toArray,List.length_cons,List.length_nil,Nat.reduceAdd,Nat.reduceSub,Array.replicate_succ,Array.replicate_zero,List.push_toArray,List.append_toArray,List.nil_append,List.cons_append]
 gi_wp2
 gi_loopw [3] (fun i wr=>∃ k:Nat,k<=len/\i=.int .i64 ((len:Int)-1-k)/\J (Zl (fun j=>len-1-j) k) wr/\Qi Bs b W wr)
  (fun i _=>(intOf i+1).toNat)
 case atStart=>exact⟨0,Nat.zero_le _,zA3,h0,Qi.refl _ _ _⟩
 case round =>
  obtain⟨k,hk,rfl,eu,dP⟩:=hrel;have hBr:wr.cell? ⟨Bs,0,none⟩=some (.slice (some ⟨b,off,none⟩) len cap):=(World.cell?_of_block (w:=W) dP.1).trans fM;by_cases hlt:k<len
  ·obtain⟨fn,tmps,assign,body,hy,hR⟩:=hY _ (len-1-k) wr eu (by rw[zj];exact hlt);have dC:=(World.cell?_of_block (w:=W) (a:=⟨b,off+(len-1-k)*5,none⟩) dP.2).trans (hc (len-1-k) zO).1;have dS:=(World.cell?_of_block (w:=W) (a:=⟨b,off+(len-1-k)*5+1,none⟩) dP.2).trans (hc (len-1-k) zO).2.1;have bJ:=(World.cell?_of_block (w:=W) (a:=⟨b,off+(len-1-k)*5+2,none⟩) dP.2).trans (hc (len-1-k) zO).2.2.1;have rY:=(World.cell?_of_block (w:=W) (a:=⟨b,off+(len-1-k)*5+3,none⟩) dP.2).trans (hc (len-1-k) zO).2.2.2.1;have hc4:=(World.cell?_of_block (w:=W) (a:=⟨b,off+(len-1-k)*5+4,none⟩) dP.2).trans (hc (len-1-k) zO).2.2.2.2;try dsimp only at hy
   obtain⟨i,hi⟩:∃ i:Nat,len-1-k=i:=⟨_,rfl⟩
   have dD:(len:Int)-1-k=(i:Int):=zO;have hil:i<len:=zO;have hik:k+i+1<=len/\len<=k+i+1:=zO;have HU:=zH (Jt (fun j=>len-1-j) k);obtain⟨u,hu⟩:∃ u,us[i]?.getD uiz=u:=⟨_,rfl⟩
   rw[hi] at dC dS bJ rY hc4 hy hR;rw[hu] at dC dS bJ rY hc4 hy;rw[dD];clear dD;clear hu;have HI:=zH hi;clear hi
   gi_wp2
   refine hR.mono ?_;rintro e W3 (⟨rfl,wu,iO⟩|⟨rfl,gp⟩)
   ·gi_wp2
    go_roundw
    case rel=>exact⟨k+1,zO,by go_num,by rw[HU.out,HI.out];exact wu,dP.t iO⟩
    case measure=>simp[intOf]
   ·gi_wp2
    refine bodyPost_ret (results_none rfl _ _ _) rfl ?_;exact⟨⟨_,rfl⟩,.inr ⟨_,⟨k+1,zO,by rw[HU.out,HI.out]⟩,gp⟩⟩
  ·obtain rfl:k=len:=zO
   gi_wp2
   go_end0;exact⟨⟨_,rfl⟩,.inl ⟨_,rfl,eu⟩⟩
set_option maxRecDepth 100000 in
theorem qbu (n l Bs c:Nat) (A:Option Addr) (J:List Nat->World->Prop) (W:World) (fM:W.cell? ⟨Bs,0,none⟩=some (.slice A 0 c)) (h0:J [] W):CallsIn Fence.wide n prog 170 #[.func (.yield l) #[] #[],.pointer (some ⟨Bs,0,none⟩)] W fun e W'=>(∃ v,e=.returned v)/\J [] W':=by
 refine callsIn_of_wp func170 rfl trivial ?_ rfl;simp only[ntmps170,List.size_toArray,List.length_cons,List.length_nil,Nat.reduceAdd,Nat.reduceSub,Array.replicate_succ,Array.replicate_zero,List.push_toArray,List.append_toArray,List.nil_append,List.cons_append]
 gi_wp2
 gi_loopw [3] (fun i wr=>i=.int .i64 (-1)/\J [] wr) (fun _ _=>0)
 case atStart=>exact⟨rfl,h0⟩
 case round =>
  obtain⟨rfl,eu⟩:=hrel
  gi_wp2
  go_end0;exact⟨⟨_,rfl⟩,eu⟩
def SWi (W:World) (Bs b:Nat) (v:Value) (us:List Ui):Prop:=
 W.cell? ⟨Bs,0,none⟩=some v/\((us=[]/\∃ A c,v=.slice A 0 c)\/∃ off cap,v=.slice (some ⟨b,off,none⟩) us.length cap/\∀ i,i<us.length->W.cell? ⟨b,off+i*5,none⟩=some (.int .u8 (us[i]?.getD uiz).1.k)/\W.cell? ⟨b,off+i*5+1,none⟩=some (.int .u32 (us[i]?.getD uiz).1.i)/\W.cell? ⟨b,off+i*5+2,none⟩=some (.int .u32 (us[i]?.getD uiz).1.o)/\W.cell? ⟨b,off+i*5+3,none⟩=some (.int .i64 (us[i]?.getD uiz).1.r)/\W.cell? ⟨b,off+i*5+4,none⟩=some (sv (us[i]?.getD uiz).2))
theorem SWi.keep {W W':World} {Bs b:Nat} {v:Value} {us:List Ui} (h:SWi W Bs b v us) (hk:Qi Bs b W W'):SWi W' Bs b v us:=by
 refine⟨(World.cell?_of_block (w:=W) hk.1).trans h.1,?_⟩;rcases h.2 with h|⟨off,cap,e,hc⟩
 ·exact .inl h
 ·exact .inr ⟨off,cap,e,fun i hi=>⟨(World.cell?_of_block (w:=W) hk.2).trans (hc i hi).1,(World.cell?_of_block (w:=W) hk.2).trans (hc i hi).2.1,(World.cell?_of_block (w:=W) hk.2).trans (hc i hi).2.2.1,(World.cell?_of_block (w:=W) hk.2).trans (hc i hi).2.2.2.1,(World.cell?_of_block (w:=W) hk.2).trans (hc i hi).2.2.2.2⟩⟩
theorem qcG (n:Nat) (hn:1<=n) (Bs b:Nat) (v:Value) (us:List Ui) (ag:us.length<1099511627776) (w:World) (fM:Bs<w.heap.size) (hb:b<w.heap.size) (hS:SWi w Bs b v us):SeqStopsK Fence.wide n prog 170 #[.pointer (some ⟨Bs,0,none⟩)] (fun x:Nat=>#[.int .i64 (x:Int),.agg #[.int .u8 (us[x]?.getD uiz).1.k,.int .u32 (us[x]?.getD uiz).1.i,.int .u32 (us[x]?.getD uiz).1.o,.int .i64 (us[x]?.getD uiz).1.r,sv (us[x]?.getD uiz).2]]) (Qi Bs b) (fun ys=>ys=Zl (fun j=>us.length-1-j) us.length)
   (fun pre=>∃ k,k<=us.length/\pre=Zl (fun j=>us.length-1-j) k) us.length w:=fun l J Jx W hW _ _ hY h0=>by
 obtain⟨hc,h⟩:=hS.keep (Qi.below hW fM hb);rcases h with ⟨rfl,A,c,rfl⟩|⟨off,cap,rfl,bU⟩
 ·exact(qbu n l Bs c A J W hc h0).mono fun e W' ⟨he,hj⟩=>⟨he,.inl ⟨_,rfl,hj⟩⟩
 ·exact backi_in n hn l Bs b off us.length cap us ag J Jx hY W hc bU h0
theorem qac (A:Option Addr) (m c:Nat) (w:World):Calls prog 151 #[.slice A m c] w (fun e w'=>e=.returned (.func (.func 170) #[] #[.pointer (some ⟨w.heap.size,0,none⟩)])/\w'=w.alloc (.cells #[.slice A m c] 47)):=by
 go_enter func151,ntmps151;go_wp2;go_ret;exact⟨rfl,rfl⟩
end Go.Proofs.YtpbniokljofedaaGreat
