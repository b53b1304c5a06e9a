/- Texts FAsked, Once, RSeen, RNode, Way, Tall, LoopM, joined. -/
import Derived.Deep.LoopGhost
import Derived.Test.YtpbniokljofedaaGreatZG01
import Derived.Test.YtpbniokljofedaaGreatZG10
import Derived.Test.YtpbniokljofedaaGreatZG16
import Derived.Test.YtpbniokljofedaaGreatZG19
import Derived.Test.YtpbniokljofedaaGreatZG21
import Derived.Test.YtpbniokljofedaaGreatZG22
import Derived.Test.YtpbniokljofedaaGreatZG23
set_option linter.unusedSimpArgs false
set_option linter.unusedVariables false
set_option maxHeartbeats 8000000
open Go.Proofs.Tryz
namespace Go.Proofs.YtpbniokljofedaaGreat
open Go.RowKit
def je (S:Sto) (next:Int) (v:Vol) (vs:List Vol) (refs:Nat->Nat):Int:=if v.id=0\/next<=v.id\/v.root<8\/256<=v.root then 2 else if (Qr vs v.id).isSome=false/\16<=vs.length then 9 else
 if Zj S v.root.toNat<=refs v.root.toNat then 6 else if okL S (-1) v.root=true then 0 else 8
def FAskQ (S:Sto) (root next:Int) (dead:List Int) (v:Vol) (w:World) (e:Ending) (w':World):Prop:=Below w.heap.size w w' /\
 ((e=.returned (.int .i64 8)/\zj S root next dead) \/
  ∃ vs refs nodes,Qg S root next dead vs/\qX S (Qs root dead vs) refs nodes/\QF S refs/\e=.returned (.int .i64 (je S next v vs refs)))
theorem vI {R:Ending->World->Prop} {a:Act} {W:World} {u:Value} (h4:a.tmps[4]?.getD undef=u) (hd:a.defers=[]) (hR:R (.returned u) W):bodyPost prog Tryz.f53 R .ret a W:=by refine bodyPost_ret (v:=u) ?_ hd hR;simp[results,results53,go_sem,h4]
theorem vols_len {S:Sto} {root next:Int} {dead:List Int} {vs:List Vol} (h:Qg S root next dead vs):vs.length<=16:=by
 have hv:=h.vols;unfold vt at hv;split at hv
 ·cases hv
 ·exact VV _ _ _ _ zA2 hv
set_option maxRecDepth 100000 in
theorem qhc (A1:Option Addr) (n1 c1:Nat) (A2:Option Addr) (n2 c2:Nat) (A3:Option Addr) (n3 c3:Nat) (A4:Option Addr) (n4 c4:Nat) (gen root next:Int) (A5:Option Addr) (c5:Nat) (S:Sto) (dead:List Int) (v:Vol) (hT:8<=v.root->v.root<256->Zj S v.root.toNat≠0->okL S (-1) v.root=true) (w:World) (h:qU w w.heap.size (.slice A1 n1 c1) (.slice A2 n2 c2) (.slice A3 n3 c3) (.slice A4 n4 c4) S) (hd:Zw w w.heap.size (.slice A5 dead.length c5) dead):Calls prog 53 #[.agg (qF (.slice A1 n1 c1) (.slice A2 n2 c2) (.slice A3 n3 c3) (.slice A4 n4 c4) gen root next (.slice A5 dead.length c5)),jB v] w (FAskQ S root next dead v w):=by
 have HT:=zH (fun W (hx:Ext w W)=>KB A1 n1 c1 A2 n2 c2 A3 n3 c3 A4 n4 c4 gen root next A5 c5 S dead W (h.ext hx) (hd.ext_ hx));have HC:=zH (fun (hS:qm S=true) a hT W (hx:Ext w W)=>KS A1 n1 c1 A2 n2 c2 A3 n3 c3 A4 n4 c4 S hS a hT W (h.ext hx));replace h:=zH h;replace hT:=zH hT;clear hd;go_enter func53,ntmps53;go_wp2_with fail;generalize aA:(World.alloc (World.alloc w _) _)=w1;have x1:Ext w w1:=by rw[<-aA];exact(zN _ _).trans (zN _ _)
 have lQ:w1.heap[w.heap.size]?=some (.cells (qF (.slice A1 n1 c1) (.slice A2 n2 c2) (.slice A3 n3 c3) (.slice A4 n4 c4) gen root next (.slice A5 dead.length c5)) 32 (0,0)):=by rw[<-aA];exact(zK _ _ _ zA2).trans (zI _ _ _ rfl)
 have wX:w1.heap[w.heap.size+1]?=some (.cells #[.int .u32 v.id,.int .i64 v.root,.bool v.fz,.int .u32 v.frm] 40 (0,0)):=by rw[<-aA];exact zI _ _ _ zA2
 clear aA;refine(HT.out w1 x1).mono ?_;clear HT;rintro e w2 ⟨hB,hQ⟩;have x2:Ext w w2:=Ext.trans x1 hB;have eP:=qb lQ hB;have pI:=qb wX hB;have uy:=qa eP;have kv2:=qa pI;clear hB x1 lQ wX;rcases hQ with ⟨rfl,aX⟩|⟨vs,refs,nodes,cb,ca,vv,rfl,xy⟩
 ·replace aX:=zH aX;go_wp2_with fail;exact vI rfl rfl ⟨x2,.inl ⟨rfl,aX.out⟩⟩
 ·have hvs:=vols_len xy.pool;have hQ:=fun E (hh:je S next v vs refs=E) W (hx:Ext w W)=>(⟨hx,.inr ⟨vs,refs,nodes,xy.pool,xy.cnt,xy.enough,by rw[hh]⟩⟩:FAskQ S root next dead v w (.returned (.int .i64 E)) W)
  replace hQ:=zH hQ;obtain⟨AV,cV,rfl,hLN,hLP⟩:=qz xy.own;have kc:w2.cell? ⟨cb,518,none⟩=some (.slice AV vs.length cV):=by rw[qa xy.row];exact xy.ar.vol
  have HH:=zH (vhas_any AV cV vs hvs (w.heap.size+1) v.id _ _ _ w2 pI (Rd.of_own xy.own));replace xy:=zH xy;by_cases h1:v.id=0
  ·have d1:(v.id == 0)=true:=by rw[beq_iff_eq];exact h1
   have hE:=zH (show je S next v vs refs=2 by unfold je;rw[if_pos (.inl h1)]);replace h1:=zH h1;go_wp2_with fail;exact vI rfl rfl (hQ.out _ hE.out _ x2)
  have d1:(v.id == 0)=false:=by rw[beq_eq_false_iff_ne];exact h1
  by_cases h2:next<=v.id
  ·have d3:decide (v.id≥next)=true:=decide_eq_true h2;have hE:=zH (show je S next v vs refs=2 by unfold je;rw[if_pos (.inr (.inl h2))]);replace h1:=zH h1;replace h2:=zH h2;go_wp2_with fail;exact vI rfl rfl (hQ.out _ hE.out _ x2)
  have d3:decide (v.id≥next)=false:=decide_eq_false h2;by_cases h3:v.root<8
  ·have d5:decide (v.root<8)=true:=decide_eq_true h3;have hE:=zH (show je S next v vs refs=2 by unfold je;rw[if_pos (.inr (.inr (.inl h3)))]);replace h1:=zH h1;replace h2:=zH h2;replace h3:=zH h3;go_wp2_with fail;exact vI rfl rfl (hQ.out _ hE.out _ x2)
  have d5:decide (v.root<8)=false:=decide_eq_false h3;by_cases h4:256<=v.root
  ·have d6:decide (v.root≥256)=true:=decide_eq_true h4;have hE:=zH (show je S next v vs refs=2 by unfold je;rw[if_pos (.inr (.inr (.inr h4)))]);replace h1:=zH h1;replace h2:=zH h2;replace h3:=zH h3;replace h4:=zH h4;go_wp2_with fail;exact vI rfl rfl (hQ.out _ hE.out _ x2)
  have d6:decide (v.root≥256)=false:=decide_eq_false h4;have d7:decide (256<=v.root)=false:=decide_eq_false h4;have hE1:=zH (show je S next v vs refs=if (Qr vs v.id).isSome=false/\16<=vs.length then 9 else if Zj S v.root.toNat<=refs v.root.toNat then 6 else if okL S (-1) v.root=true then 0 else 8 by unfold je;rw[if_neg (by rintro (h|h|h|h);exact h1 h;exact h2 h;exact h3 h;exact h4 h)]);obtain⟨r,hr⟩:∃ r:Nat,v.root=(r:Int):=⟨v.root.toNat,zO⟩
  have pg:8<=r:=zO;have pY:r<256:=zO;have hto:v.root.toNat=r:=zO;rw[hr] at pI kv2 d5 d6 d7;rw[hto] at hE1 hT;have hT2:=zH (hT.out zO zO);clear hT h3 h4 hto;replace h1:=zH h1;replace h2:=zH h2;replace hr:=zH hr;go_wp2_with fail;refine HH.out.mono ?_;clear HH;rintro e w3 ⟨rfl,hB⟩;have x3:Ext w w3:=Ext.trans x2 hB;have nX:=qb eP hB;have rv3:=qb pI hB;have kc3:=Ext.cell hB kc;have oK:=qb xy.out.row hB;clear eP pI uy kv2 kc x2 hB;have hsome:Hid ((Qr vs v.id).isSome=(Qr vs v.id).isSome):=zH rfl;generalize (Qr vs v.id).isSome=there at *;have hME:Hid (there=false/\16<=vs.length\/¬(there=false/\16<=vs.length)):=zH (Classical.em _);rcases hME.out with ⟨rfl,xn⟩|xn
  ·have e1:decide ((vs.length:Int)≥16)=true:=decide_eq_true zO;have hE:=zH (show je S next v vs refs=9 by rw[hE1.out,if_pos ⟨rfl,xn⟩]);replace xn:=zH xn;clear hME;go_wp2_with fail;exact vI rfl rfl (hQ.out _ hE.out _ x3)
  have gQ:=zH (show je S next v vs refs=if Zj S r<=refs r then 6 else if okL S (-1) v.root=true then 0 else 8 by rw[hE1.out,if_neg xn]);have HB:there=true\/(there=false/\decide ((vs.length:Int)≥16)=false/\decide (16<=vs.length)=false):=by
   cases there
   ·right;have:¬16<=vs.length:=fun h=>xn ⟨rfl,h⟩;exact⟨rfl,decide_eq_false zO,decide_eq_false this⟩
   ·exact .inl rfl
  clear hE1 hME xn;obtain⟨b3,o3,tY,e3,dK,aC⟩:=Gc xy.out.pool.may h.out.now;simp only[Value.slice.injEq] at e3;obtain⟨rfl,rfl,rfl⟩:=e3;have lD:=Ext.cell x3 (aC r pY);have hrf:=(qa oK (6+r)).trans (xy.out.ar.ref r pY);have yG:=zH (IntWalk.wrap64_in (Zj S r:Int) (by have:=(S.now[r]?.getD 0).toNat_lt;unfold Zj;omega));have hEN:=zH (show IntKind.i64.wrap (Zj S r:Int)=(Zj S r:Int) by rw[IntKind.wrap_i64];have:=(S.now[r]?.getD 0).toNat_lt;unfold Zj;omega);have HCK:=zH (fun (aG:Zj S r≠0) W (hx:Ext w W)=>by
   obtain⟨a,ha,ht⟩:=ZY (hT2.out aG);obtain rfl:r=a:=by have:=hr.out;omega
   exact HC.out xy.out.pool.may r ht W hx)
  clear aC HC;generalize hnw:Zj S r=nw at *;generalize hrfe:refs r=rf at *;replace hnw:=zH hnw;replace hrfe:=zH hrfe;have gP:∀ W,qj.r w3 W->∀ i,W.cell? ⟨w.heap.size,i,none⟩=(qF (.slice A1 n1 c1) (.slice A2 n2 c2) (.slice (some ⟨b3,o3,none⟩) 256 c3) (.slice A4 n4 c4) gen root next (.slice A5 dead.length c5))[i]?:=fun W h=>qa (qb nX h);have gV:∀ W,qj.r w3 W->∀ i,W.cell? ⟨w.heap.size+1,i,none⟩=#[.int .u32 v.id,.int .i64 (r:Int),.bool v.fz,.int .u32 v.frm][i]?:=fun W h=>qa (qb rv3 h);have gN:∀ W,qj.r w3 W->W.cell? ⟨b3,o3+r,none⟩=some (.int .u8 (nw:Int)):=fun W h=>Ext.cell h lD;have gR:∀ W,qj.r w3 W->W.cell? ⟨cb,6+r,none⟩=some (.int .i64 (rf:Int)):=fun W h=>Ext.cell h hrf;clear oK;rcases HB with rfl|⟨rfl,e1,e2⟩
  all_goals
   go_upto_region 9 with fail;refine qp zQ ?_;refine qQ (w:=w3) qj (qH []) (List.replicate 16 true) 0 zQ zQ zQ zQ zQ zQ zQ ?st (Rel.drew _ _) ?walk
   case st=>exact qk (fun _ h=>by cases h)
   case walk =>
    intro K hK;dsimp only[qt,List.replicate];have hw':=yG.out;have gG:=hEN.out;repeat ((first|(refine qd ?_ zA0 zA0 (fun W hW _=>⟨W,?_,Rel.refl _ W⟩) ?_;rotate_left;(go_simp<;>with_reducible rfl))|(refine qh zA0 ?_));try simp only[Act.put,ql,qg,qc,qf,zA,zB,zC])
    first
     |(refine qd (.pointer (some ⟨b3,o3+r,none⟩)) zA0 zA0 (fun W hW _=>⟨W,?_,Rel.refl _ W⟩) ?_
       ·go_simp;intro lG;exfalso;omega
       simp only[Act.put,qg,qc,qf,zA,zB,zC])
     |skip
    repeat ((first|(refine qd ?_ zA0 zA0 (fun W hW _=>⟨W,?_,Rel.refl _ W⟩) ?_;rotate_left;(go_simp<;>with_reducible rfl))|(refine qh zA0 ?_));try simp only[Act.put,ql,qg,qc,qf,zA,zB,zC])
    first
     |(refine qd (.pointer (some ⟨cb,6+r,none⟩)) zA0 zA0 (fun W hW _=>⟨W,?_,Rel.refl _ W⟩) ?_
       ·go_simp;intro lG;exfalso;omega
       simp only[Act.put,qg,qc,qf,zA,zB,zC])
     |skip
    repeat ((first|(refine qd ?_ zA0 zA0 (fun W hW _=>⟨W,?_,Rel.refl _ W⟩) ?_;rotate_left;(go_simp<;>with_reducible rfl))|(refine qh zA0 ?_));try simp only[Act.put,ql,qg,qc,qf,zA,zB,zC])
    refine qv (hK _ _ fun V hV hF=>?_);clear hF hK gP gV gN gR;have hV:Ext w3 V:=hV;refine zC4 ?_;have x4:=x3.trans hV;have kp4:=qa (qb nX hV);have kv4:=qa (qb rv3 hV);clear nX rv3 hw';clear gG;go_wp2;refine Qo ?_;by_cases hle:nw<=rf
    ·have f1:decide ((nw:Int)<=(rf:Int))=true:=decide_eq_true zO;have hE:=zH (show je S next v vs refs=6 by rw[gQ.out,if_pos hle]);replace hle:=zH hle;go_wp2_with fail;exact vI rfl rfl (hQ.out _ hE.out _ x4)
    ·have f1:decide ((nw:Int)<=(rf:Int))=false:=decide_eq_false zO;have hE:=zH (show je S next v vs refs=0 by rw[gQ.out,if_neg hle,if_pos (hT2.out zO)]);have HC4:=zH (HCK.out zO V x4);replace hle:=zH hle;clear HCK;go_wp2_with fail;refine HC4.out.mono ?_;clear HC4;rintro e w5 ⟨u,rfl,⟨m,rfl⟩,hB⟩;go_wp2_with fail;exact vI rfl rfl (hQ.out _ hE.out _ (x4.trans hB))
def ZL:Qa:=⟨Unit,fun _=>undef,fun _ _=>True⟩
theorem Qj (u:Unit):ZL.f u=undef:=rfl
theorem ZA {R:Rel}:∀ p,qJ R (ZL.φ p):=fun _ _ _ _ _=>trivial
theorem jO {P:Program} {o:Oper} {a:Act} {W W':World} (hr:(execOp a.eval o).run P W=.ok .skip W') (hx:Ext W W'):QK qj P o a W ZL:=Vi hr ⟨(),rfl,trivial,hx⟩
theorem same1 {w:World} {b:Nat} {x0:Value} {ty:TypeId} (h:w.heap[b]?=some (.cells #[x0] ty (0,0))):Ext w (w.setCell ⟨b,0,none⟩ x0):=Qp h rfl
theorem same4 {w:World} {b:Nat} {x0 x1 x2 x3:Value} {ty:TypeId} (h:w.heap[b]?=some (.cells #[x0,x1,x2,x3] ty (0,0))):Ext w ((((w.setCell ⟨b,0,none⟩ x0).setCell ⟨b,1,none⟩ x1).setCell ⟨b,2,none⟩ x2).setCell ⟨b,3,none⟩ x3):=by have e0:=Qp (j:=0) (v:=x0) h rfl;have h0:=qb h e0;have e1:=Qp (j:=1) (v:=x1) h0 rfl;have h1:=qb h0 e1;have e2:=Qp (j:=2) (v:=x2) h1 rfl;have h2:=qb h1 e2;exact((e0.trans e1).trans e2).trans (Qp (j:=3) (v:=x3) h2 rfl)
def vn (B:Nat) (ty:TypeId) (Φ:Array Value->World->Prop) (hΦ:∀ cs W W',W.grownBy W' (some B)->Φ cs W->Φ cs W'):Rel where
 rel W W':=W.grownBy W' (some B)/\(B<W.heap.size->W'.heap[B]?=W.heap[B]?\/∃ cs,W'.heap[B]?=some (.cells cs ty (0,0))/\Φ cs W')
 refl' W:=⟨World.grownBy.refl _ _,fun _=>.inl rfl⟩
 trans' h k:=⟨h.1.trans k.1,fun hb=>by
  rcases k.2 (Nat.lt_of_lt_of_le hb h.1.size) with e|e
  ·rw[e];rcases h.2 hb with e1|⟨cs,e1,e2⟩
   ·exact .inl e1
   ·exact .inr ⟨cs,e1,hΦ _ _ _ k.1 e2⟩
  ·exact .inr e⟩
 drew' W:=⟨⟨rfl,rfl,rfl,zM _,fun _ _ _=>rfl⟩,fun _=>.inl rfl⟩
section
variable {B:Nat} {ty:TypeId} {Φ:Array Value->World->Prop} {hΦ:∀ cs W W',W.grownBy W' (some B)->Φ cs W->Φ cs W'}
theorem qia {W W':World} (h:Ext W W'):(vn B ty Φ hΦ).r W W':=⟨ZI h _,fun hb=>.inl (h.block B hb)⟩
theorem VO {W W':World} (h:(vn B ty Φ hΦ).r W W') {b:Nat} {o:Obj} (hp:b≠B) (hc:W.heap[b]?=some o):W'.heap[b]?=some o:=
 (h.1.block b (zG.1 hc).1 (fun x=>hp (by simpa using x))).trans hc
theorem qbF {W W':World} (h:(vn B ty Φ hΦ).r W W') {o:Obj} (hc:W.heap[B]?=some o):W'.heap[B]?=some o\/∃ cs,W'.heap[B]?=some (.cells cs ty (0,0))/\Φ cs W':=by
 have:=h.2 (zG.1 hc).1
 rwa [hc] at this
theorem Uy {W W':World} {B0:Nat} (h:(vn B ty Φ hΦ).r W W') (h1:B0<=B) (h2:B0<=W.heap.size):Below B0 W W':=(Below.refl _ _).grown h.1 h2 (fun g hg=>by simp at hg;omega)
theorem Uz {W W':World} (h:(vn B ty Φ hΦ).r W W') {k:Nat} (hk:k<W.heap.size) (hp:k≠B):W'.heap[k]?=W.heap[k]?:=h.1.block k hk fun x=>hp (by simpa using x)
theorem qcn {lo:Nat} {S:Sto} (hB:B<lo):∀ p,qJ (vn B ty Φ hΦ) ((outTw lo S).φ p):=fun p W W' he h =>
 QP.keep h (zM _) he.1.size fun b h1 hb=>Uz he hb zO
def Xw (B:Nat) (ty:TypeId) (Φ:Array Value->World->Prop):Qa:=⟨Unit,fun _=>undef,fun _ W=>∃ cs,W.heap[B]?=some (.cells cs ty (0,0))/\Φ cs W⟩
theorem Qv (u:Unit):(Xw B ty Φ).f u=undef:=rfl
theorem qbs:∀ p,qJ (vn B ty Φ hΦ) ((Xw B ty Φ).φ p):=fun _ W W' he ⟨cs,h1,h2⟩=>by
 rcases qbF he h1 with e|e
 ·exact⟨cs,e,hΦ _ _ _ he.1 h2⟩
 ·exact e
theorem qfw {P:Program} {o:Oper} {a:Act} {W w':World} {cs:Array Value} (hr:(execOp a.eval o).run P W=.ok .skip w') (hg:W.grownBy w' (some B)) (hw:w'.heap[B]?=some (.cells cs ty (0,0))) (hp:Φ cs W):QK (vn B ty Φ hΦ) P o a W (Xw B ty Φ):=
 Vi hr ⟨(),rfl,⟨cs,hw,hΦ _ _ _ hg hp⟩,hg,fun _=>.inr ⟨cs,hw,hΦ _ _ _ hg hp⟩⟩
end
def ji (lo:Nat) (S:Sto) (cs:Array Value) (W:World):Prop:=∃ x0 x1 x2 x3,cs=#[x0,x1,x2,x3]/\QP lo S (.agg cs) W
theorem ji.keep {lo:Nat} {S:Sto} {B:Nat} (hB:B<lo):∀ cs W W',W.grownBy W' (some B)->ji lo S cs W->ji lo S cs W':=fun cs W W' hg h=>by obtain⟨x0,x1,x2,x3,e,hT⟩:=h;exact⟨x0,x1,x2,x3,e,QP.keep hT (zM _) hg.size fun k h1 hk=>hg.block k hk fun e=>by simp at e;omega⟩
theorem qfx {P:Program} {o:Oper} {a:Act} {W:World} {lo B:Nat} {S:Sto} {ty:TypeId} {x0 x1 x2 x3:Value} (hB:B<lo) (h:∃ u0 u1 u2 u3,W.heap[B]?=some (.cells #[u0,u1,u2,u3] ty (0,0))) (hT:QP lo S (.agg #[x0,x1,x2,x3]) W) (hr:(execOp a.eval o).run P W=.ok .skip ((((W.setCell ⟨B,0,none⟩ x0).setCell ⟨B,1,none⟩ x1).setCell ⟨B,2,none⟩ x2).setCell ⟨B,3,none⟩ x3)):QK (vn B ty (ji lo S) (ji.keep hB)) P o a W (Xw B ty (ji lo S)):=by
 obtain⟨u0,u1,u2,u3,h⟩:=h;exact qfw hr (QB.trans (QB.trans (QB.trans QB))) (Vm h x0 x1 x2 x3) ⟨x0,x1,x2,x3,rfl,hT⟩
theorem twin_own {W W':World} {lo B:Nat} {S:Sto} {ty:TypeId} (hB:B<lo) {u0 u1 u2 u3:Value} (h:(vn B ty (ji lo S) (ji.keep hB)).r W W') (hc:W.heap[B]?=some (.cells #[u0,u1,u2,u3] ty (0,0))):∃ u0 u1 u2 u3,W'.heap[B]?=some (.cells #[u0,u1,u2,u3] ty (0,0)):=by
 rcases qbF h hc with e|⟨cs,e,x0,x1,x2,x3,rfl,_⟩
 ·exact⟨_,_,_,_,e⟩
 ·exact⟨_,_,_,_,e⟩
end Go.Proofs.YtpbniokljofedaaGreat
namespace Go.Proofs.YtpbniokljofedaaGreat
open Go.RowKit Go.Shelf
attribute [local go_sem] Oper.semAt_some
theorem qbB {n b D:Nat} {v:Value} {R:Ending->World->Prop} {a:Act} {W:World} (h4:a.tmps[4]?.getD undef=.pointer (some ⟨b+1+1,0,none⟩)) (hd:a.defers=[{ target:=.collected D,args:=#[] }]) (hK:W.heap[D]?=some (.deferred (some []))) (hD:b+2<D) (hB:W.heap[b+2]?=some (.cells #[v] 26 (0,0))) (hR:∀ W',W'=W.putObj D (.deferred none)->R (.returned v) W'):bodyPostM Fence.wide n prog Tryz.f50 R .ret a W:=by
 have k4:=qa ((World.putObj_heap_other (o:=.deferred none) (show b+2≠D by omega)).trans hB);change LeavesInM Fence.wide n prog Tryz.f50 a.tmps R a.defers .returning W;rw[hd];refine⟨zA2,.inl ⟨_,_,rfl,run_takeDeferred hK,v,?_,hR _ rfl⟩⟩;simp[results,results50,go_sem,h4,k4]
set_option maxRecDepth 100000 in
theorem qkz (A1:Option Addr) (n1 c1:Nat) (A2:Option Addr) (n2 c2:Nat) (S:Sto) (hS:qm S=true) (m:Nat) (hm:m<256) (w:World) (hb:Bls w w.heap.size (.slice A1 n1 c1) S.bs) (hw:Wrs w w.heap.size (.slice A2 n2 c2) S.ws):Calls prog 50 #[YN A1 n1 c1 A2 n2 c2,.int .i64 (m:Int)] w (Za (fun u W=>Bys W W.heap.size u (Jb S m)) w):=by
 obtain⟨pR,yh,nC,hl4⟩:=Qc hS;have dJ:=zu hS;have fA:Jb S m=match jk S.ws m with|some l=>l|none=>S.bs[m]:=by unfold Jb;rw[zL zO];rfl
 obtain⟨oD,dV,hm1,hA1⟩:=hb.at_;obtain⟨b1,o1,rfl,bU⟩:=hA1 zO;obtain⟨A0,c0,wH,yV⟩:=hb.get (bs:=S.bs) m zO;have hMQ:n1=256:=by rw[oD,pR]
 generalize S.bs[m]=l0 at *;generalize Jb S m=l at *;generalize hwsE:S.ws=ws at *;obtain⟨ps,au,⟨A2',c2',e2,aA,bT,aO⟩,hw4⟩:=hw;rw[<-au] at fA e2 aA aO yh;clear oD hS pR nC hl4 hA1 dJ hwsE hb;subst hMQ;simp only[Value.slice.injEq] at e2;obtain⟨rfl,aV,rfl⟩:=e2;rw[<-aV] at aA aO yh;replace aV:=zH aV;replace fA:=zH fA;have bQ:ps.length=n2:=by rw[aV.out];simp
 obtain⟨us,xQ⟩:∃ us:List W2,us=ps.map fun p=>((p.1.1,Kh p.2):W2):=⟨_,rfl⟩
 have mJ:us.length=n2:=by rw[xQ,List.length_map,bQ]
 have hua:∀ j,(us[j]?.getD w2z).1=atN ws j:=fun j=>by unfold atN;rw[xQ,<-au,List.getElem?_map,List.getElem?_map];cases ps[j]? <;> rfl
 have hud:∀ j W,Ext w W->Bys W W.heap.size (sv (us[j]?.getD w2z).2) (datN ws j):=fun j W hx=>by
  unfold datN;rw[xQ,<-au,List.getElem?_map,List.getElem?_map];rcases hj:ps[j]? with _|p
  ·exact⟨none,0,rfl,zM _,zA6,zA2,fun hn=>absurd hn zA2⟩
  ·obtain⟨⟨A',c',e'⟩,hy⟩:=hw4 p (List.mem_of_getElem? hj);have:sv (Kh p.2)=p.2:=by rw[e'];rfl
   simp only[Option.map_some,Option.getD_some];rw[this];exact(hy.below hx).more hx.size
 refine(callsIn_wide (n:=3)).1 ?_;refine callsIn_of_wp_marks func50 rfl trivial ?_ rfl;simp only[ntmps50,List.size_toArray,List.length_cons,List.length_nil,Nat.reduceAdd,Nat.reduceSub,Array.replicate_succ,Array.replicate_zero,List.push_toArray,List.append_toArray,List.nil_append,List.cons_append];refine wpIn_wide.2 ?_;go_wp2_with fail;generalize lZ:(World.alloc (World.alloc (World.alloc w _) _) _)=w2;have x2:Ext w w2:=by rw[<-lZ];exact((zN _ _).trans (zN _ _)).trans (zN _ _)
 have s2:w.heap.size+3<=w2.heap.size:=by rw[<-lZ];simp
 have ra2:w2.heap[w.heap.size]?=some (.cells #[.slice (some ⟨b1,o1,none⟩) 256 c1,.slice A2 n2 c2] 25 (0,0)):=by rw[<-lZ];exact(zK _ _ _ zA3).trans ((zK _ _ _ zA3).trans (zI _ _ _ rfl))
 have yH:w2.heap[w.heap.size+1]?=some (.cells #[.int .i64 (m:Int)] 3 (0,0)):=by rw[<-lZ];exact(zK _ _ _ zA3).trans (zI _ _ _ zA2)
 have xZ:w2.heap[w.heap.size+2]?=some (.cells #[.slice none 0 0] 26 (0,0)):=by rw[<-lZ];exact zI _ _ _ zA2
 clear lZ;have ka2:=qa ra2;have kb2:=qa yH;refine(XL A2 n2 c2 w2).mono ?_;rintro e w3 ⟨rfl,rfl⟩;go_wp2_with fail;have x5:Ext w2 (w2.alloc (.cells #[.slice A2 n2 c2] 23)):=zN _ _;obtain⟨b2,bZ,hSW⟩:∃ b2,b2<w.heap.size/\SW (w2.alloc (.cells #[.slice A2 n2 c2] 23)) w2.heap.size b2 (.slice A2 n2 c2) us:=by
  have hCJ:(w2.alloc (.cells #[.slice A2 n2 c2] 23)).cell? ⟨w2.heap.size,0,none⟩=some (.slice A2 n2 c2):=by rw[qa (zI _ _ _ rfl)];rfl
  by_cases hz:n2=0
  ·have:us=[]:=List.length_eq_zero_iff.1 zO;exact⟨b1,bU,hCJ,.inl ⟨this,A2,c2,by rw[hz]⟩⟩
  ·obtain⟨b2,o2,rfl,hlt,hc⟩:=aO.2 zO;refine⟨b2,hlt,hCJ,.inr ⟨o2,c2,by rw[mJ],fun i hi=>?_⟩⟩;have fV:i<ps.length:=zO;obtain⟨g0,g1⟩:=Kp ps i fV;have hx:=x2.trans x5;rw[xQ];refine⟨?_,?_⟩
   ·rw[Ext.cell hx (hc _ _ g0),List.getElem?_map,zL fV];rfl
   ·obtain⟨⟨A',c',e'⟩,_⟩:=hw4 ps[i] (List.getElem_mem fV);rw[Nat.add_assoc,Ext.cell hx (hc _ _ g1),List.getElem?_map,zL fV];simp only[Option.map_some,Option.getD_some];rw[e'];rfl
 clear xQ aO;replace hua:=zH hua;replace hud:=zH hud;refine(wpIn_wide (n:=3)).1 ?_;refine wpIn_rangeFunc_ownH rfl zO (gf:=141) (lb:=#[.pointer (some ⟨w2.heap.size,0,none⟩)]) rfl trivial (enters_of func141 zQ rfl)
  (qeS (3-1) zO w2.heap.size b2 _ _ (by rw[mJ];omega) _ zA2 zA1 hSW) Qx.t (Qx.b zA2 zA1) (Below.refl _ _) (fun _=>rfl)
  (fun pre W'=>((W'.heap[w.heap.size]?=some (.cells #[.slice (some ⟨b1,o1,none⟩) 256 c1,.slice A2 n2 c2] 25 (0,0))/\W'.heap[w.heap.size+1]?=some (.cells #[.int .i64 (m:Int)] 3 (0,0)))/\(W'.heap[w.heap.size+2]?=some (.cells #[.slice none 0 0] 26 (0,0))/\W'.heap[w2.heap.size]?=some (.cells #[.slice A2 n2 c2] 23 (0,0))))/\(Below w.heap.size w W'/\∀ y∈pre,atN ws y≠(m:Int)))
  (fun c pre W'=>(∃ pre' x Wb,c=.ret/\pre=pre'++[x]/\atN ws x=(m:Int)/\(∀ y∈pre',atN ws y≠(m:Int))/\Wb.heap[w.heap.size+2]?=some (.cells #[sv (us[x]?.getD w2z).2] 26 (0,0))/\Ql Wb W')/\Below w.heap.size w W')
  (OwnFrom.and (OwnFrom.and (OwnFrom.and (Qz _ _ _ _) (Qz _ _ _ _)) (OwnFrom.and (Qz _ _ _ _) (Qz _ _ _ _))) (OwnFrom.and (ownFrom_below (zM _) zA1) (Yj _ _)))
  (fun c=>OwnFrom.and (fun s A C row hs hg hr=>by obtain⟨pre',x,Wb,h1,h2,h3,h4,h5,h6⟩:=hs;exact⟨pre',x,Wb,h1,h2,h3,h4,h5,h6.grown hg fun r e=>(hr r e).2⟩) (ownFrom_below (zM _) zA1))
  ⟨⟨⟨qb ra2 x5,qb yH x5⟩,⟨qb xZ x5,zI _ _ _ rfl⟩⟩,x2.trans x5,fun y hy=>by cases hy⟩
  (fun x a' W'=>∃ t8,a'={ tmps:=#[YN (some ⟨b1,o1,none⟩) 256 c1 A2 n2 c2,.int .i64 (m:Int),.pointer (some ⟨w.heap.size,0,none⟩),.pointer (some ⟨w.heap.size+1,0,none⟩),.pointer (some ⟨w.heap.size+1+1,0,none⟩),undef,.pointer (some ⟨t8,0,none⟩),.pointer (some ⟨w.heap.size,1,none⟩),.slice A2 n2 c2,.func (.func 141) #[] #[.pointer (some ⟨w2.heap.size,0,none⟩)],
    .int .i64 (x:Int),.agg #[.int .i64 (us[x]?.getD w2z).1,sv (us[x]?.getD w2z).2],undef,undef,undef,undef,undef,undef,undef,undef,undef,undef,undef],defers:=[] }/\W'.heap[t8]?=some (.cells #[.int .i64 (us[x]?.getD w2z).1,sv (us[x]?.getD w2z).2] 130 (0,0)))
  (fun x a' s A C row hs hg hr=>by obtain⟨t8,e,h⟩:=hs;exact⟨t8,e,Qz (β:=Unit) _ _ _ _ () A C row h hg hr⟩) ?assign ?body ?done ?stop
 case assign =>
  rintro l' pre x W' K ⟨⟨⟨i1,i2⟩,⟨i3,i7⟩⟩,i4,i5⟩ hK
  gi_wp2
  have z1:=(zG.1 i1).1;have z2:=(zG.1 i2).1;have z3:=(zG.1 i3).1;have z7:=(zG.1 i7).1;have z4:=i4.size;refine hK _ _ ((KeepsOthers.alloc _ _).from _) ⟨zK _ _ _ z7,zK _ _ _ zO⟩ ⟨⟨⟨(zK _ _ _ z1).trans i1,(zK _ _ _ z2).trans i2⟩,⟨(zK _ _ _ z3).trans i3,(zK _ _ _ z7).trans i7⟩⟩,Below.alloc i4 z4 _,i5⟩ ⟨W'.heap.size,rfl,zI _ _ _ rfl⟩
 case body =>
  rintro l' pre x a' W' hl ⟨rr,hlp⟩ ⟨⟨⟨i1,i2⟩,⟨i3,i7⟩⟩,i4,i5⟩ ⟨t8,rfl,pg⟩ _;have hax:=hua.out x;generalize hu9:(us[x]?.getD w2z)=u9 at *;obtain⟨a9,A9,n9,c9⟩:=u9;simp only at hax;subst hax;have k8:=qa pg;have k2:=qa i2;have k3:=qa i3;have f3:=qe i3;replace i5:=zH i5;replace hu9:=zH hu9;clear ka2 kb2;by_cases hq:atN ws x=(m:Int)
  ·have uZ:(atN ws x == (m:Int))=true:=by rw[beq_iff_eq];exact hq
   replace hq:=zH hq
   gi_wp2_with fail
   refine⟨(KeepsOthers.setCell _ _ _).from _,⟨rfl,pre,x,rfl,hq.out,i5.out,_,?_,Ql.refl _⟩,Below.setCell i4 (p:=⟨w.heap.size+1+1,0,none⟩) zA1 _⟩;rw[hu9.out];exact qi i3 0 _
  ·have uZ:(atN ws x == (m:Int))=false:=by rw[beq_eq_false_iff_ne];exact hq
   replace hq:=zH hq
   gi_wp2_with fail
   refine⟨KeepsFrom.refl _ _,Qx.refl _ _ _,⟨⟨i1,i2⟩,⟨i3,i7⟩⟩,i4,fun y hy=>?_⟩;rcases List.mem_append.1 hy with h|h
   ·exact i5.out y h
   ·obtain rfl:y=x:=by simpa using h
    exact hq.out
 case done =>
  rintro D ys W' hD rfl ⟨⟨⟨i1,i2⟩,⟨i3,_⟩⟩,i4,i5⟩ hK;have h0:=qgN (ws:=ws) (a:=(m:Int)) (by rw[show ws.length=us.length by rw[mJ,<-bQ,<-au,List.length_map]];exact i5);have hll:l=l0:=by rw[fA.out,au,h0]
  have hcb':=Ext.cell i4 wH;rw[<-hll] at hcb' yV;clear h0 hll wH;have k1:=qa i1;have k2:=qa i2;have k3:=qa i3;have f3:=qe i3;have im:(m:Int)<256:=zO;replace i5:=zH i5;replace yV:=zH yV;clear ka2 kb2 hw4 aV;go_wp2_with fail;have hDw:w.heap.size+2<D:=by simp at hD;omega
  have q3:=qi i3 0 (.slice A0 l.length c0);have qK:=(zJ W' ⟨w.heap.size+1+1,0,none⟩ (.slice A0 l.length c0) D zA1).trans hK;have qx:=Below.setCell i4 (p:=⟨w.heap.size+1+1,0,none⟩) zA1 (.slice A0 l.length c0);generalize World.setCell W' _ _=wf at *;exact qbB (b:=w.heap.size) rfl rfl qK hDw q3 (fun W' e=>by have hX:Ext w W':=e ▸ qx.trans (belowK_b (w:=w) (zM _) wf D _ _ zO qK rfl rfl);exact⟨_,rfl,(yV.out.below hX).more hX.size,hX⟩)
 case stop =>
  rintro D c pre W' hD ⟨k,hk,hpre⟩ ⟨⟨pre',x,Wb,rfl,rfl,hx,iT,hRB,hCK⟩,i4⟩ hK
  gi_wp2_with fail
  have hDw:w.heap.size+2<D:=by simp at hD;omega
  have yh:l=datN ws x:=by rw[fA.out,au,qgO (ws:=ws) (k:=k) (by rw[<-au,List.length_map,bQ,<-mJ];exact hk) (by rw[show ws.length=us.length by rw[mJ,<-bQ,<-au,List.length_map]];exact hpre) hx iT]
  exact qbB (b:=w.heap.size) rfl rfl hK hDw (hCK.row hRB) (fun W'' e=>by have hX:Ext w W'':=e ▸ i4.trans (belowK_b (w:=w) (zM _) W' D _ _ zO hK rfl rfl);exact⟨_,rfl,by rw[yh];exact hud.out x W'' hX,hX⟩)
end Go.Proofs.YtpbniokljofedaaGreat
namespace Go.Proofs.YtpbniokljofedaaGreat
open Go.RowKit
theorem Gi {R:Ending->World->Prop} {a:Act} {W:World} {b:Nat} {x0 x1 v:Value} (h4:a.tmps[4]?.getD undef=.pointer (some ⟨b,0,none⟩)) (h5:a.tmps[5]?.getD undef=v) (hd:a.defers=[]) (aF:W.heap[b]?=some (.cells #[x0,x1] 49 (0,0))) (hR:R (.returned (.tuple #[.agg #[x0,x1],v])) W):bodyPost prog Tryz.f22 R .ret a W:=by
 refine bodyPost_ret (v:=.tuple #[.agg #[x0,x1],v]) ?_ hd hR;have k:=qa aF;simp[results,results22,go_sem,h4,h5,k]
set_option maxRecDepth 100000 in
theorem qks (A1:Option Addr) (n1 c1:Nat) (A2:Option Addr) (n2 c2:Nat) (A3:Option Addr) (n3 c3:Nat) (A4:Option Addr) (n4 c4:Nat) (S:Sto) (a:Int) (w:World) (h:qU w w.heap.size (.slice A1 n1 c1) (.slice A2 n2 c2) (.slice A3 n3 c3) (.slice A4 n4 c4) S):Calls prog 22 #[Qd A1 n1 c1 A2 n2 c2 A3 n3 c3 A4 n4 c4,.int .i64 a] w (Za (qcB w.heap.size (if JJ S a=0 then qu S a.toNat else none)) w):=by
 have HA:=zH (fun W (hx:Ext w W)=>qbw A1 n1 c1 A2 n2 c2 A3 n3 c3 A4 n4 c4 S a W (h.ext hx));obtain⟨q,hq⟩:∃ q,(if JJ S a=0 then qu S a.toNat else none)=q:=⟨_,rfl⟩
 rw[hq];replace hq:=zH hq;replace h:=zH h;go_enter func22,ntmps22;go_wp2_with fail;generalize aA:(World.alloc (World.alloc w _) _)=w1;have x1:Ext w w1:=by rw[<-aA];exact(zN _ _).trans (zN _ _)
 have r1:w1.heap[w.heap.size]?=some (.cells #[.slice A1 n1 c1,.slice A2 n2 c2,.slice A3 n3 c3,.slice A4 n4 c4] 28 (0,0)):=by rw[<-aA];exact(zK _ _ _ zA2).trans (zI _ _ _ rfl)
 have q1:w1.heap[w.heap.size+1]?=some (.cells #[.int .i64 0,.slice none 0 0] 49 (0,0)):=by rw[<-aA];exact zI _ _ _ zA2
 clear aA;have k1:=qa r1;go_wp2_with fail;refine(HA.out w1 x1).mono ?_;clear HA;rintro e w2 ⟨rfl,hB⟩;have x2:Ext w w2:=x1.trans hB;have r2:=qb r1 hB;have q2:=qb q1 hB;clear hB r1 q1 x1 k1;have k2:=qa r2;have kq2:=qa q2;have fq2:=qe q2;by_cases hE:JJ S a=0
 ·obtain⟨hS,n,rfl,h8,h256,hc⟩:=Xp hE;have hNA:q=QL (Jb S n):=by rw[<-hq.out,if_pos hE,Int.toNat_natCast];unfold qu;exact if_neg hc
  rw[hE];clear hq;have HS:=zH (fun W (hx:Ext w W)=>qkz A1 n1 c1 A2 n2 c2 S hS n h256 W ((h.out.bs.below hx).more hx.size) ((h.out.ws.below hx).more hx.size));have HR:=zH (fun v W (hv:Bys W W.heap.size v (Jb S n))=>qkh v (Jb S n) W hv);replace hE:=zH hE;replace hS:=zH hS;replace hNA:=zH hNA;replace hc:=zH hc;generalize Jb S n=l at *;go_wp2_with fail;refine(HS.out w2 x2).mono ?_;clear HS;rintro e w3 ⟨u,rfl,hu,hB⟩;have x3:Ext w w3:=x2.trans hB;have q3:=qb q2 hB;clear hB k2 r2 kq2 fq2 q2;go_wp2_with fail;refine(HR.out u w3 hu).mono ?_;clear HR hu;rintro e w4 ⟨u4,rfl,hu,hB⟩;have hB:Ext w3 w4:=hB;have x4:Ext w w4:=x3.trans hB;have q4:=qb q3 hB;have z3:=x3.size;have z4:w.heap.size+1<w4.heap.size:=(zG.1 q4).1;have z3q:w.heap.size+1<w3.heap.size:=(zG.1 q3).1;clear hB q3;have kq4:=qa q4;have fq4:=qe q4;rcases hQ:QL l with _|⟨lvl,xs⟩
  ·rw[hQ] at hu;obtain⟨er,aG,rfl⟩:=hu;have hq:q=none:=by rw[hNA.out,hQ]
   replace hq:=zH hq;have ru:(er != 0)=true:=by rw[bne_iff_ne];exact aG
   replace aG:=zH aG;go_wp2_with fail;generalize aY:(World.alloc _ _)=wf;have rf:wf.heap[w.heap.size+1]?=some (.cells #[.int .i64 0,.slice none 0 0] 49 (0,0)):=by rw[<-aY];exact(zK _ _ _ (by simpa using z4)).trans (qi (qi q4 0 _) 1 _)
   have bf:Below w.heap.size w wf:=by rw[<-aY];exact Below.alloc (Below.setCell (Below.setCell x4 (p:=⟨w.heap.size+1,0,none⟩) zA2 _) (p:=⟨w.heap.size+1,1,none⟩) zA2 _) zA1 _
   exact Gi (b:=w.heap.size+1) rfl rfl rfl rf ⟨_,rfl,(by rw[hq.out];exact⟨8,zD,rfl⟩),bf⟩
  ·rw[hQ] at hu;obtain⟨A,c,rfl,hi⟩:=hu;have hq:q=some (lvl,xs):=by rw[hNA.out,hQ]
   replace hq:=zH hq;replace hi:=zH hi;go_wp2_with fail;generalize aY:(World.alloc _ _)=wf;have rf:wf.heap[w.heap.size+1]?=some (.cells #[.int .i64 lvl,.slice A xs.length c] 49 (0,0)):=by rw[<-aY];exact(zK _ _ _ (by simpa using z4)).trans (qi (qi q4 0 _) 1 _)
   have bf:Below w.heap.size w wf:=by rw[<-aY];exact Below.alloc (Below.setCell (Below.setCell x4 (p:=⟨w.heap.size+1,0,none⟩) zA2 _) (p:=⟨w.heap.size+1,1,none⟩) zA2 _) zA1 _
   have hfi:ZE w.heap.size wf (.slice A xs.length c) xs:=by refine(hi.out.keep (by have:=bf.size;rw[<-aY];simp) fun p h1 h2=>?_).mono z3;rw[<-aY,World.cell?_alloc_lt _ _ _ (by simpa using h2),World.cell?_setCell_other _ _ _ _ (fun e=>by subst e;simp at h1;omega),World.cell?_setCell_other _ _ _ _ (fun e=>by subst e;simp at h1;omega)]
   exact Gi (b:=w.heap.size+1) rfl rfl rfl rf ⟨_,rfl,(by rw[hq.out];exact⟨A,c,rfl,hfi⟩),bf⟩
 ·have hqn:=zH (show q=none by rw[<-hq.out,if_neg hE]);clear hq;have aG:(JJ S a != 0)=true:=by rw[bne_iff_ne];exact hE
  generalize JJ S a=er at *;go_wp2_with fail;refine Gi (b:=w.heap.size+1) rfl rfl rfl (qi (qi q2 0 _) 1 _) ⟨_,rfl,(by rw[hqn.out];exact⟨er,hE,rfl⟩),?_⟩;exact Below.setCell (Below.setCell x2 (p:=⟨w.heap.size+1,0,none⟩) zA2 _) (p:=⟨w.heap.size+1,1,none⟩) zA2 _
structure WyI (S:Sto) (K:K3) (full:List Stp) (lo:Nat) (w1:World) (v i:Value) (wr:World):Prop where
 ex:∃ (h r:Nat) (ys:List It) (pre:List Stp) (Av:Option Addr) (cv:Nat),v=.slice Av pre.length cv/\i=.int .i64 (r:Int)/\8<=r/\r<256/\qu S r=some ((h:Int),ys)/\(qD S h ys).isSome=true/\full=pre++km S K h ys/\pre.length+h<6/\Jr lo wr v pre/\Below lo w1 wr
set_option maxRecDepth 100000 in
theorem way_any (A1:Option Addr) (n1 c1:Nat) (A2:Option Addr) (n2 c2:Nat) (A3:Option Addr) (n3 c3:Nat) (A4:Option Addr) (n4 c4:Nat) (S:Sto) (hS:qm S=true) (a lvl:Nat) (xs:List It) (ha:8<=a) (aj:a<256) (hn:qu S a=some ((lvl:Int),xs)) (aN:(qD S lvl xs).isSome=true) (k i o:Int) (w:World) (aI:qU w w.heap.size (.slice A1 n1 c1) (.slice A2 n2 c2) (.slice A3 n3 c3) (.slice A4 n4 c4) S):Calls prog 98 #[Qd A1 n1 c1 A2 n2 c2 A3 n3 c3 A4 n4 c4,.int .i64 (a:Int),Tq k i o] w (Za (fun u W=>Ta w.heap.size W u (km S (k,i,o) lvl xs)) w):=by
 obtain⟨i0,hi,ag,aU,aW⟩:=info_parts Tryz.info_step;obtain⟨full,iF⟩:∃ full,km S (k,i,o) lvl xs=full:=⟨_,rfl⟩
 rw[iF];have hl6:lvl<6:=by have:=jl hn;omega
 have HI0:=zH (fun W=>(⟨⟨lvl,a,xs,[],none,0,rfl,rfl,ha,aj,hn,aN,iF.symm,by simpa using hl6,Jr.nil _ _,Below.refl _ _⟩⟩:WyI S (k,i,o) full W.heap.size W (.slice none 0 0) (.int .i64 (a:Int)) W));have HN:=zH (fun (r:Nat) W (hx:Ext w W)=>qks A1 n1 c1 A2 n2 c2 A3 n3 c3 A4 n4 c4 S (r:Int) W (aI.ext hx));replace hS:=zH hS;replace hi:=zH hi;clear aI hn aN iF ha aj hl6;go_enter func98,ntmps98;go_wp2_with fail;generalize aA:(World.alloc (World.alloc w _) _)=w1;have x1:Ext w w1:=by rw[<-aA];exact(zN _ _).trans (zN _ _)
 have tX:w1.heap[w.heap.size]?=some (.cells #[.slice A1 n1 c1,.slice A2 n2 c2,.slice A3 n3 c3,.slice A4 n4 c4] 28 (0,0)):=by rw[<-aA];exact(zK _ _ _ zA2).trans (zI _ _ _ rfl)
 have rk1:w1.heap[w.heap.size+1]?=some (.cells #[.int .u8 k,.int .u32 i,.int .u32 o] 66 (0,0)):=by rw[<-aA];exact zI _ _ _ zA2
 have z1:w.heap.size<=w1.heap.size:=by rw[<-aA];simp;omega
 clear aA;have I0:=zH (HI0.out w1);clear HI0;go_wp2_with fail;go_loopw [6,7] (fun v j wr=>WyI S (k,i,o) full w1.heap.size w1 v j wr) (fun _ j _=>Yt S j)
 case atStart=>exact I0.out
 case round =>
  obtain⟨h,r,ys,pre,Av,cv,rfl,rfl,h8,h256,hn,aN,iF,hlen,hso,xr⟩:=hrel.ex;clear I0 hrel;have hlv:=Ud hn;obtain⟨hm1,lJ,-⟩:=qN hn;have hyl:ys.length<=5:=by unfold Qb ZR at hm1;simp at hm1;omega
  have di:0<h->0<ys.length:=fun h0=>qaw hm1 h0;have xr1:Ext w1 wr:=xr;have HNr:=HN.out r wr (x1.trans xr1);rw[show JJ S (r:Int)=0 by rw[qdv hS.out h8 h256,if_neg (show ¬Zj S r=0 from fun e=>by unfold qu at hn;rw[if_pos (show (S.now[r]?.getD 0).toNat=0 from e)] at hn;cases hn)],if_pos rfl,Int.toNat_natCast,hn] at HNr;have rsr:=qb tX xr1;have rkr:=qb rk1 xr1;have ksr:=qa rsr;replace aN:=zH aN;replace hn:=zH hn;replace lJ:=zH lJ;replace iF:=zH iF;replace hso:=zH hso;replace hlv:=zH hlv;replace di:=zH di;clear hm1;go_wp2_with fail;refine HNr.mono ?_;clear HNr;rintro e w4 ⟨u,rfl,⟨A9,c9,rfl,aJ⟩,hB⟩;have hB:Ext wr w4:=hB;have xx4:Ext w1 w4:=xr1.trans hB;have rk4:=qb rkr hB;have so4:=zH (hso.out.ext hB);have z4:w.heap.size+1<w4.heap.size:=(zG.1 rk4).1;have kk4:=qa rk4;have zwr:w1.heap.size<=wr.heap.size:=xr.size;have z4r:wr.heap.size<=w4.heap.size:=hB.size;replace aJ:=zH aJ;have hso':Hid (∀ q,(Value.slice Av pre.length cv).ownBlock=some q->q<wr.heap.size):=zH fun q hq=>by obtain⟨ps,-,ho,-⟩:=hso.out;exact(QM ho q hq).2
  clear hB rsr rkr ksr hso xr xr1;go_wp2_with fail;generalize aV:(World.alloc w4 _)=w5;have dP:Ext w4 w5:=by rw[<-aV];exact zN _ _
  have rn5:w5.heap[w4.heap.size]?=some (.cells #[.int .i64 h,.slice A9 ys.length c9] 49 (0,0)):=by rw[<-aV];exact zI _ _ _ rfl
  clear aV;have rk5:=qb rk4 dP;have kn5:=qa rn5;have kk5:=qa rk5;clear kk4;go_wp2_with fail;refine(qdg (h:Int) A9 c9 ys k i o _ w5 hyl (aJ.out.ext dP)).mono ?_;rintro e w6 ⟨rfl,hB⟩;have oM:Ext w4 w6:=dP.trans hB;have rn6:=qb rn5 hB;have kn6:=qa rn6;have iG:=zH (aJ.out.ext oM);have xx6:Ext w1 w6:=xx4.trans oM;have so6:=zH (so4.out.ext oM);clear rn5 dP hB oM rk4 rk5 kk5 kn5 xx4 aJ so4;obtain⟨bC,oU,hsx⟩:=iG.out.toE (X:=OwnL w1.heap.size (.slice Av pre.length cv)) (fun q hq hx=>hx.elim (fun h1=>by have:=hso'.out q h1;omega) fun h1=>zO);replace hsx:=zH hsx;replace oU:=zH oU;have hA:=iG.out.its.at_.2.2.2;clear iG;obtain⟨ie,mf⟩:∃ ie,KX ys (k,i,o)=ie:=⟨_,rfl⟩
  obtain⟨p,hp⟩:∃ p,qA ys (k,i,o)=p:=⟨_,rfl⟩
  have sG:=Jl ys (k,i,o);rw[mf,hp];rw[hp] at sG;obtain⟨ps,e0,ho,iT⟩:=so6.out;have bM:∀ W':World,w6.grownBy W' (Value.slice Av pre.length cv).ownBlock->Qh (OwnL w1.heap.size (.slice Av pre.length cv)) w6 W':=fun W' hg=>Qh.of_heap fun q hq hX=>hg.block q hq fun e=>hX (.inl e.symm);replace iT:=zH iT;replace bM:=zH bM;clear so6;rcases Nat.eq_zero_or_pos h with h0|h0
  ·have hh1:((h:Int) == 0)=true:=by rw[beq_iff_eq];omega
   have hh2:decide (h=0)=true:=decide_eq_true h0;have hf2:full=pre++[(0,ys,p)]:=by rw[iF.out,h0,qbR,hp]
   subst h0;replace hf2:=zH hf2;clear hA di mf hp;go_wp2_with (at_builtin;refine Qf ?_);refine QC.go (jh w6 rfl (.tmp 28) (.tmp 32) 153 rfl w1.heap.size 160 i0 _ 3 40 underlying153 hi.out ag aU aW rfl zD (.slice Av pre.length cv) pre.length (jy ps) zE ho #[.int .i64 0,.slice A9 ys.length c9,.int .i64 (p:Int)] zE rfl zA7 zO zD xx6.size ?_);intro v' W' ah hg hB fG;have hF:Jr w1.heap.size W' v' (pre++[(0,ys,p)]):=Jr.push (s:=(0,ys,p)) xx6.size e0 iT.out oU.out hsx.out ah hg fG;have hBW:Ext w W':=x1.trans (Below.trans xx6 hB);replace hF:=zH hF;replace hBW:=zH hBW;clear ah hg fG hB;go_wp2_with fail;go_ret;exact⟨_,rfl,by rw[hf2.out];exact hF.out.toE.mono z1,hBW.out⟩
  ·have hh1:((h:Int) == 0)=false:=by rw[beq_eq_false_iff_ne];omega
   obtain⟨h',hh⟩:∃ h',h=h'+1:=⟨h-1,zO⟩
   obtain⟨j,hj⟩:∃ j,Zi ys (k,i,o)=j:=⟨_,rfl⟩
   have hjl:j<ys.length:=by rw[<-hj];exact jY (di.out h0)
   obtain⟨b',e1,f8,f256,zs,e4,e5⟩:=ZZ (h:=h') (by rw[<-hh];exact jv aN.out _ (List.getElem_mem hjl));have hfl:full=(pre++[(h,ys,j)])++km S (k,i,o) h' zs:=by rw[iF.out,hh,UH (by rw[hj];exact zL hjl) (by rw[e1,Int.toNat_natCast];exact e4),hj,List.append_assoc];rfl
   have hms:Yt S (.int .i64 (b':Int))<Yt S (.int .i64 (r:Int)):=by rw[Ud e4,hlv.out];omega
   obtain⟨b9,off,rfl,hb9⟩:=hA zO;have aK:∀ (v':Value) (W':World),w6.ownsRow w1.heap.size 160 3 (.slice Av pre.length cv) pre.length (jy ps)->W'.ownsRow w1.heap.size 160 3 v' (pre.length+1) (jy ps++[.int .i64 (h:Int),.slice (some ⟨b9,off,none⟩) ys.length c9,.int .i64 (j:Int)])->w6.grownBy W' (Value.slice Av pre.length cv).ownBlock->(v'.ownBlock=(Value.slice Av pre.length cv).ownBlock\/∃ g,v'.ownBlock=some g/\w6.heap.size<=g)->Below w1.heap.size w6 W' ->
     WyI S (k,i,o) full w1.heap.size w1 v' (.int .i64 (b':Int)) W'/\Yt S (.int .i64 (b':Int))<Yt S (.int .i64 (r:Int)):=fun v' W' _ ah hg fG hB=>by
    obtain⟨A7,c7,rfl,-,-⟩:=qz ah;have hF:Jr w1.heap.size W' (.slice A7 (pre.length+1) c7) (pre++[(h,ys,j)]):=Jr.push (s:=(h,ys,j)) xx6.size e0 iT.out oU.out hsx.out ah hg fG;exact⟨⟨h',b',zs,_,A7,c7,zA2,rfl,f8,f256,e4,e5,hfl,zA1,hF,Below.trans xx6 hB⟩,hms⟩
   have hit:∀ W':World,w6.grownBy W' (Value.slice Av pre.length cv).ownBlock->W'.cell? ⟨b9,off+j*5+3,none⟩=some (.int .i64 (b':Int))/\W'.heap[w4.heap.size]?=some (.cells #[.int .i64 (h:Int),.slice (some ⟨b9,off,none⟩) ys.length c9] 49 (0,0)):=fun W' hg=>by obtain⟨A',c',-,-,-,d3,-,-⟩:=(show Its W' W'.heap.size (.slice (some ⟨b9,off,none⟩) ys.length c9) ys by have:=hsx.out.its (bM.out W' hg);rw[oU.out] at this;exact this).item j hjl;rw[e1] at d3;refine⟨d3,(hg.block _ (zG.1 rn6).1 fun e=>?_).trans rn6⟩;have:=hso'.out _ e.symm;omega
   replace aK:=zH aK;replace hit:=zH hit;replace di:=zH di;replace hh:=zH hh;clear hA hfl hms e4 e5 aN hn iF hlv iT bM;have aT:(ie=true/\p=j)\/(ie=false/\max (0:Int) ((p:Int)-1)=(j:Int)):=by
    unfold Zi at hj;rw[mf,hp] at hj;cases ie
    ·right;refine⟨rfl,?_⟩;simp only[Bool.false_eq_true,if_false] at hj;omega
    ·left;exact⟨rfl,by simpa using hj⟩
   clear mf hp hj;rcases aT with ⟨rfl,rfl⟩|⟨rfl,hmax⟩
   ·go_wp2_with (at_builtin;refine Qf ?_);refine QC.go (jh w6 rfl (.tmp 39) (.tmp 43) 153 rfl w1.heap.size 160 i0 _ 3 40 underlying153 hi.out ag aU aW rfl zD (.slice Av pre.length cv) pre.length (jy ps) zE ho #[.int .i64 (h:Int),.slice (some ⟨b9,off,none⟩) ys.length c9,.int .i64 (p:Int)] zE rfl zA7 zO zD xx6.size ?_);intro v' W' ah hg hB fG;obtain⟨d3,rnW⟩:=hit.out W' hg;have knW:=qa rnW;have hF:=zH (aK.out v' W' ho ah hg fG hB);clear aK hit ah hg fG hB ho;go_wp2_with fail;exact hF.out
   ·go_wp2_with (at_builtin;refine Qf ?_);refine QC.go (jh w6 rfl (.tmp 39) (.tmp 43) 153 rfl w1.heap.size 160 i0 _ 3 40 underlying153 hi.out ag aU aW rfl zD (.slice Av pre.length cv) pre.length (jy ps) zE ho #[.int .i64 (h:Int),.slice (some ⟨b9,off,none⟩) ys.length c9,.int .i64 (j:Int)] zE rfl zA7 zO zD xx6.size ?_);intro v' W' ah hg hB fG;obtain⟨d3,rnW⟩:=hit.out W' hg;have knW:=qa rnW;have hF:=zH (aK.out v' W' ho ah hg fG hB);clear aK hit ah hg fG hB ho;go_wp2_with fail;exact hF.out
def KE (s:Stp):Bool:=decide (s.2.1.length<5)
def ThinIx (l:List Stp) (u:Value):Prop:=(∃ j:Nat,u=.int .i64 (j:Int)/\l.any KE=true)\/(u=.int .i64 (-1)/\l.any KE=false)
set_option maxRecDepth 100000 in
theorem qkC (lvl p:Int) (A:Option Addr) (n c:Nat) (w:World):Calls prog 145 #[.agg #[.int .i64 lvl,.slice A n c,.int .i64 p]] w (Ret (.bool (decide (n<5))) w):=by
 go_enter func145,ntmps145;by_cases h:n<5
 ·have h1:decide ((n:Int)<5)=true:=decide_eq_true zO;rw[decide_eq_true h];replace h:=zH h;go_wp2;go_ret;exact⟨rfl,zN _ _⟩
 ·have h1:decide ((n:Int)<5)=false:=decide_eq_false zO;rw[decide_eq_false h];replace h:=zH h;go_wp2;go_ret;exact⟨rfl,zN _ _⟩
set_option maxRecDepth 100000 in
theorem qkD (v:Value) (l:List Stp) (hl:l.length<=100) (w:World) (h:kV w.heap.size w v l):Calls prog 168 #[v,.func (.func 145) #[] #[]] w (Za (fun u _=>ThinIx l u) w):=by
 obtain⟨ps,au,⟨A,c,rfl,dV,bP,hr⟩,iT⟩:=h;have bQ:ps.length=l.length:=by rw[<-au,List.length_map]
 replace hr:=zH hr;replace bP:=zH bP;go_enter func168,ntmps168;go_wp2_with fail;go_loopw [8] (fun i wr=>∃ k:Nat,k<=l.length/\i=.int .i64 (k:Int)/\Ext w wr/\(l.take k).any KE=false) (fun i _=>l.length-(intOf i).toNat)
 case atStart=>exact⟨0,Nat.zero_le _,rfl,Ext.refl _,rfl⟩
 case round =>
  obtain⟨k,hk,rfl,xr,aX⟩:=hrel;replace aX:=zH aX;by_cases hlt:k<l.length
  ·obtain⟨bv,iO,rfl,hbv,aS⟩:=hr.out.2 zO;have hkp:k<ps.length:=zO;obtain⟨d0,d1,d2⟩:=Xq ps k hkp;replace d0:=Ext.cell xr (aS _ _ d0);replace d1:=Ext.cell xr (aS _ _ d1);replace d2:=Ext.cell xr (aS _ _ d2);rw[<-Nat.add_assoc] at d1 d2;obtain⟨Ax,cx,hx2⟩:=(iT ps[k] (List.getElem_mem hkp)).1;have hxe:ps[k].1=l[k]:=by simp only[<-au,List.getElem_map]
   rw[hx2,hxe] at d1;rw[hxe] at d0 d2;have HAT:=zH (fun (he:KE l[k]=true)=>show l.any KE=true from List.any_eq_true.2 ⟨l[k],List.getElem_mem hlt,he⟩);have HNO:=zH (fun (he:KE l[k]=false)=>show (l.take (k+1)).any KE=false by rw[List.take_succ_eq_append_getElem hlt,List.any_append,aX.out];simp[he]);unfold KE at HAT HNO;generalize l[k]=u at *;obtain⟨ul,uxs,up⟩:=u;dsimp only at d0 d1 d2 HAT HNO;clear aS hx2 hxe;have iM:=zH (IntWalk.wrap64_in ((k:Int)+1) zO);have hV:=qkC (ul:Int) (up:Int) Ax uxs.length cx wr;go_wp2_with fail;refine hV.mono ?_;rintro e w2 ⟨rfl,hB⟩;clear d0 d1 d2 hV;by_cases he:uxs.length<5
   ·rw[decide_eq_true he];have HQ:=zH (HAT.out (decide_eq_true he));clear HAT HNO;replace he:=zH he;go_wp2_with fail;refine bodyPost_ret (v:=.int .i64 (k:Int)) ?_ rfl ⟨_,rfl,.inl ⟨k,rfl,HQ.out⟩,Ext.trans xr hB⟩;simp[results,results168,go_sem]
   ·rw[decide_eq_false he];have HQ:=zH (HNO.out (decide_eq_false he));clear HAT HNO;replace he:=zH he;have aA:=iM.out;go_wp2_with fail;refine⟨⟨k+1,hlt,rfl,Ext.trans xr hB,HQ.out⟩,?_⟩;simp[intOf];omega
  ·obtain rfl:k=l.length:=zO;have HQ:=zH (show l.any KE=false by have:=aX.out;rwa [List.take_length] at this);go_wp2_with fail;refine bodyPost_ret (v:=.int .i64 (-1)) ?_ rfl ⟨_,rfl,.inr ⟨rfl,HQ.out⟩,xr⟩;simp[results,results168,go_sem]
set_option maxRecDepth 100000 in
theorem thin_any (v:Value) (l:List Stp) (hl:l.length<=100) (w:World) (h:kV w.heap.size w v l):Calls prog 144 #[v,.func (.func 145) #[] #[]] w (Ret (.bool (l.any KE)) w):=by
 have HX:=qkD v l hl w h;clear h;go_enter func144,ntmps144;go_wp2_with fail;refine HX.mono ?_;rintro e w2 ⟨u,rfl,hu,hB⟩;rcases hu with ⟨j,rfl,hj⟩|⟨rfl,hj⟩
 ·have hd:decide ((0:Int)<=(j:Int))=true:=decide_eq_true zO;go_wp2_with fail;go_ret;exact⟨by rw[hj];rfl,hB⟩
 ·go_wp2_with fail;go_ret;exact⟨by rw[hj];rfl,hB⟩
set_option maxRecDepth 100000 in
theorem tall_any (v:Value) (l:List Stp) (hl:l.length<=100) (hl0:0<l.length) (k i o:Int) (hl5:∀ s∈l,s.2.1.length<=5) (w:World) (h:kV w.heap.size w v l):Calls prog 99 #[v,Tq k i o] w (Ret (.bool (qab (k,i,o) l)) w):=by
 have HT:=zH (fun W (hx:Ext w W)=>thin_any v l hl W ((h.below hx).more hx.size));obtain⟨ps,au,⟨A,c,rfl,dV,bP,hr⟩,iT⟩:=h;have bQ:ps.length=l.length:=by rw[<-au,List.length_map]
 obtain⟨bv,iO,rfl,hbv,aS⟩:=hr.2 hl0;obtain⟨m,hm⟩:∃ m,l.length=m+1:=⟨l.length-1,zO⟩
 have hmp:m<ps.length:=zO;have rZ:m<l.length:=zO;obtain⟨d0,d1,d2⟩:=Xq ps m hmp;replace d0:=aS _ _ d0;replace d1:=aS _ _ d1;replace d2:=aS _ _ d2;rw[<-Nat.add_assoc] at d1 d2;obtain⟨⟨Ax,cx,hx2⟩,aJ⟩:=iT ps[m] (List.getElem_mem hmp);have hxe:ps[m].1=l[m]:=by simp only[<-au,List.getElem_map]
 rw[hx2,hxe] at d1 aJ;rw[hxe] at d0;have hJG:l.getLast?=some l[m]:=by rw[List.getLast?_eq_getElem?,hm,Nat.add_sub_cancel];exact zL rZ
 have hq:qab (k,i,o) l=(decide (l.length=6) && !(l.any KE) && !(KX l[m].2.1 (k,i,o))):=by unfold qab;rw[hJG];simp only;congr 2;rw[Bool.eq_iff_iff];simp[List.all_eq_true,KE]
 have hu5:=hl5 l[m] (List.getElem_mem rZ);rw[hq];generalize l[m]=u at *;obtain⟨ul,uxs,up⟩:=u;dsimp only at d0 d1 aJ hu5 ⊢;have HP:=zH (fun W (hx:Ext w W)=>qbu (ul:Int) Ax cx uxs k i o W hu5 ((aJ.below hx).more hx.size));clear hq hJG aS hr hx2 hxe iT aJ d2 au;replace hm:=zH hm;generalize l.any KE=bt at *;generalize KX uxs (k,i,o)=bi at *;generalize qA uxs (k,i,o)=pn at *;replace bP:=zH bP;go_enter func99,ntmps99;go_wp2_with fail;generalize aA:World.alloc _ _=w1;have x1:Ext w w1:=by rw[<-aA];exact zN _ _
 have r1:w1.heap[w.heap.size]?=some (.cells #[.int .u8 k,.int .u32 i,.int .u32 o] 66 (0,0)):=by rw[<-aA];exact zI _ _ _ rfl
 clear aA;refine(HT.out w1 x1).mono ?_;clear HT;rintro e w2 ⟨rfl,hB⟩;have x2:Ext w w2:=x1.trans hB;have r2:=qb r1 hB;clear r1 hB x1;go_upto_region 2 with fail;have g0:∀ W,qj.r w2 W->W.cell? ⟨bv,iO+m*3,none⟩=some (.int .i64 (ul:Int)):=fun W h=>Ext.cell (x2.trans h) d0;have g1:∀ W,qj.r w2 W->W.cell? ⟨bv,iO+m*3+1,none⟩=some (.slice Ax uxs.length cx):=fun W h=>Ext.cell (x2.trans h) d1;have g2:∀ W,qj.r w2 W->∀ i_1,W.cell? ⟨w.heap.size,i_1,none⟩=#[.int .u8 k,.int .u32 i,.int .u32 o][i_1]?:=fun W h=>qa (qb r2 h);clear d0 d1;have hwl:=zH (show IntKind.i64.wrap ((l.length:Int)-1)=(m:Int) by rw[IntKind.wrap_i64];have:=hm.out;omega);refine qp zQ ?_;refine qQ (w:=w2) qj (qH [(8,one (.tuple #[.int .i64 (pn:Int),.bool bi]))]) (List.replicate 14 true) 0 zQ zQ zQ zQ zQ zQ zQ ?st (Rel.drew _ _) ?walk
 case st=>exact qk (by simp only[List.forall_mem_cons];exact⟨qfT _,fun _ h=>by cases h⟩)
 case walk =>
  intro K hK;dsimp only[qt,List.replicate];repeat ((first|(refine qd ?_ zA0 zA0 (fun W hW _=>⟨W,?_,Rel.refl _ W⟩) ?_;rotate_left;(go_simp<;>with_reducible rfl))|(refine qh zA0 ?_));try simp only[Act.put,ql,qg,qc,qf,zA,zB,zC])
  refine qd (.pointer (some ⟨bv,iO+m*3,none⟩)) zA0 zA0 (fun W hW _=>⟨W,?_,Rel.refl _ W⟩) ?_
  ·go_simp;rw[hwl.out,if_pos zO];simp
  simp only[Act.put,qg,qc,qf,zA,zB,zC];repeat ((first|(refine qd ?_ zA0 zA0 (fun W hW _=>⟨W,?_,Rel.refl _ W⟩) ?_;rotate_left;(go_simp<;>with_reducible rfl))|(refine qh zA0 ?_));try simp only[Act.put,ql,qg,qc,qf,zA,zB,zC])
  refine qw (one _) zA0 zA0 (fun W hW _=>?_) (fun (_:Unit)=>?_)
  ·have ak:Ext w2 W:=hW;refine Qi ?_ ((HP.out W (x2.trans ak)).mono fun e w' h=>⟨(),h.1,trivial,h.2⟩);go_simp
  simp only[Act.put,ql,qc,qf,zA,zB,zC];repeat ((first|(refine qd ?_ zA0 zA0 (fun W hW _=>⟨W,?_,Rel.refl _ W⟩) ?_;rotate_left;(go_simp<;>with_reducible rfl))|(refine qh zA0 ?_));try simp only[Act.put,ql,qg,qc,qf,zA,zB,zC])
  refine qv (hK _ _ fun W hW hF=>?_);clear hF hK;have hW:Ext w2 W:=hW;have xW:Ext w W:=x2.trans hW;refine zC4 ?_;go_wp2;refine Qo ?_;clear HP g0 g1 g2 r2;by_cases h6:l.length=6
  ·have e6:((l.length:Int) == 6)=true:=by rw[beq_iff_eq];omega
   have d6:=decide_eq_true h6;replace h6:=zH h6;cases bt
   ·cases bi;all_goals
     go_wp2_with fail;go_ret;exact⟨by rw[d6];rfl,xW⟩
   ·go_wp2_with fail;go_ret;exact⟨by rw[d6];rfl,xW⟩
  ·have e6:((l.length:Int) == 6)=false:=by rw[beq_eq_false_iff_ne];omega
   have d6:=decide_eq_false h6;replace h6:=zH h6;go_wp2_with fail;go_ret;exact⟨by rw[d6];rfl,xW⟩
def mixL:List Bool->Nat->List Value->(Nat->Value)->List Value
 | [],_,l,_=>l
 |_ :: _,_,[],_=>[]
 |b :: m,i,x :: r,g=>(bif b then g i else x) :: mixL m (i+1) r g
end Go.Proofs.YtpbniokljofedaaGreat
