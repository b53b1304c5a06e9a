/- Lemmas of the proof. -/
import Derived.Test.YtmeadnlmepcmbaaGreatZT16
set_option linter.all false
set_option maxHeartbeats 8000000
open Go.Proofs.Tryz
open Go.Value renaming slice→F,int→M,pointer→Oa
open Option renaming some→I,none→O
open Go.Obj renaming cells→J
open Go.World renaming alloc→Q
open Go renaming World→U,Value→Ob
open Go.IntKind renaming i64→Y
open Bool renaming true→Z,false→Jx
open Go.Ending renaming returned→Oc
namespace Go.Proofs.YtmeadnlmepcmbaaGreat
open Go.RowKit
variable {R:Ending->World->Prop}{a:Act}{W W' w:World}{u x0 x1 x2 x3:Value}{S:Sto}{dead:List Int}{vs:List Vol}{P:Program}{o:Oper}{ty:TypeId}{lo B:Nat}
def jN(S:Sto)(next:Int)(v:Vol)(vs:List Vol)(refs:Nat->Nat):Int:=if v.id=0\/next<=v.id\/v.root<8\/256<=v.root then 2 else if(zF vs v.id).isSome=Jx/\16<=vs.length then 9 else
 if js S v.root.toNat<=refs v.root.toNat then 6 else if okL S (-1) v.root=Z then 0 else 8
def FAskQ(S:Sto)(root next:Int)(dead:List Int)(v:Vol)(w:U)(e:Ending)(w':U):Prop:=Below w w w' /\
 ((e=Oc (M Y 8)/\QI S root next dead) \/
  ∃vs refs nodes,QH S root next dead vs/\Qu S (Qp root dead vs) refs nodes/\ZJ S refs/\e=Oc (M Y (jN S next v vs refs)))
theorem VK(h4:a.tmps[4]?.getD undef=u)(hd:a.defers=[])(hR:R u W):bodyPost prog Tryz.f64 R .ret a W:=by refine bodyPost_ret (v:=u) ?_ hd hR;simp[results,results64,go_sem,h4]
theorem vols_len{root next:Int}(h:QH S root next dead vs):vs.length<=16:=by have hv:=h.vols;unfold kA at hv;split at hv;cases hv;exact KC _ _ _ _ zA3 hv
set_option maxRecDepth 100000 in
theorem qjn(A1 n1 c1 A2 n2 c2 A3 n3 c3 A4 n4 c4)(gen root next:Int)(A5 c5)(S:Sto)(dead:List Int)(v:Vol)(hT:8<=v.root->v.root<256->js S v.root.toNat≠0->okL S (-1) v.root=Z)(w:U)(h:Qh w w (F A1 n1 c1) (F A2 n2 c2) (F A3 n3 c3) (F A4 n4 c4) S)(hd:ZS w w (F A5 dead.length c5) dead):Calls prog 64 #[.agg (qR (F A1 n1 c1) (F A2 n2 c2) (F A3 n3 c3) (F A4 n4 c4) gen root next (F A5 dead.length c5)),vV v] w (FAskQ S root next dead v w):=by
 have HT:=zH (λW (hx:Ext w W)=>qae A1 n1 c1 A2 n2 c2 A3 n3 c3 A4 n4 c4 gen root next A5 c5 S dead W (h.ext hx) (hd.ext_ hx));have HC:=zH (λ(hS:qj S=Z) a hT W (hx:Ext w W)=>YZ A1 n1 c1 A2 n2 c2 A3 n3 c3 A4 n4 c4 S hS a hT W (h.ext hx));replace⟨h,hT⟩:=zH2 h hT;clear hd;go_enter func64,ntmps64;go_wp2_with fail;generalize aA:(Q (Q w _) _)=w1;have x1:Ext w w1:=by rw[<-aA];exact(zN _ _).trans (zN _ _)
 have rp1:w1.heap[w.heap.size]?=I (J (qR (F A1 n1 c1) (F A2 n2 c2) (F A3 n3 c3) (F A4 n4 c4) gen root next (F A5 dead.length c5)) 32 (0,0)):=by rw[<-aA];exact(zK _ _ _ zA3).trans (zI _ _ _ rfl)
 have rv1:w1.heap[w.heap.size+1]?=I (J #[M .u32 v.id,M Y v.root,.bool v.fz,M .u32 v.frm] 36):=aA▸zI _ _ _ zA3;clear aA;refine(HT.out w1 x1).mono ?_;clear HT;rintro e w2 ⟨hB,hQ⟩;have x2:Ext w w2:=Ext.trans x1 hB;have rp2:=qb rp1 hB;have rv2:=qb rv1 hB;have kp2:=qa rp2;have kv2:=qa rv2;clear hB x1 rp1 rv1;rcases hQ with⟨rfl,aj⟩|⟨vs,refs,nodes,cb,ca,vv,rfl,yh⟩
 ·replace aj:=zH aj;go_wp2_with fail;exact VK rfl rfl ⟨x2,.inl ⟨rfl,aj.out⟩⟩
 have hvs:=vols_len yh.pool;have hQ:=λE (hh:jN S next v vs refs=E) W (hx:Ext w W)=>(⟨hx,.inr ⟨vs,refs,nodes,yh.pool,yh.cnt,yh.enough,by rw[hh]⟩⟩:FAskQ S root next dead v w (Oc (M Y E)) W)
 replace hQ:=zH hQ;obtain⟨AV,cV,rfl,hLZ,hMA⟩:=qC yh.own;have kc:w2.cell? (cb,518)=I (F AV vs.length cV):=by rw[qa yh.row];exact yh.ar.vol
 have HH:=zH (vhas_any AV cV vs hvs (w.heap.size+1) v.id _ _ _ w2 rv2 (Rd.of_own yh.own));replace yh:=zH yh;by_cases h1:v.id=0
 ·have d1:(v.id==0)=Z:=by rw[beq_iff_eq];exact h1
  have hE:=zH (show jN S next v vs refs=2 by unfold jN;rw[if_pos (.inl h1)]);replace h1:=zH h1;go_wp2_with fail;exact VK rfl rfl (hQ.out _ hE.out _ x2)
 have d1:(v.id==0)=Jx:=by rw[beq_eq_false_iff_ne];exact h1
 by_cases h2:next<=v.id
 ·have d3:decide (v.id≥next)=Z:=decide_eq_true h2;have hE:=zH (show jN S next v vs refs=2 by unfold jN;rw[if_pos (.inr (.inl h2))]);replace⟨h1,h2⟩:=zH2 h1 h2;go_wp2_with fail;exact VK rfl rfl (hQ.out _ hE.out _ x2)
 have d3:decide (v.id≥next)=Jx:=decide_eq_false h2;by_cases h3:v.root<8
 ·have d5:decide (v.root<8)=Z:=decide_eq_true h3;have hE:=zH (show jN S next v vs refs=2 by unfold jN;rw[if_pos (.inr (.inr (.inl h3)))]);replace⟨h1,h2,h3⟩:=zH3 h1 h2 h3;go_wp2_with fail;exact VK rfl rfl (hQ.out _ hE.out _ x2)
 have d5:decide (v.root<8)=Jx:=decide_eq_false h3;by_cases h4:256<=v.root
 ·have d6:decide (v.root≥256)=Z:=decide_eq_true h4;have hE:=zH (show jN S next v vs refs=2 by unfold jN;rw[if_pos (.inr (.inr (.inr h4)))]);replace⟨h1,h2,h3,h4⟩:=zH4 h1 h2 h3 h4;go_wp2_with fail;exact VK rfl rfl (hQ.out _ hE.out _ x2)
 have d6:decide (v.root≥256)=Jx:=decide_eq_false h4;have d7:decide (256<=v.root)=Jx:=decide_eq_false h4;have hE1:=zH (show jN S next v vs refs=if(zF vs v.id).isSome=Jx/\16<=vs.length then 9 else if js S v.root.toNat<=refs v.root.toNat then 6 else if okL S (-1) v.root=Z then 0 else 8 by unfold jN;rw[if_neg (by rintro(h|h|h|h);exact h1 h;exact h2 h;exact h3 h;exact h4 h)]);obtain⟨r,hr⟩:∃r:Nat,v.root=(r:Int):=⟨v.root.toNat,zO⟩
 have iw:8<=r:=zO;have mf:r<256:=zO;have hto:v.root.toNat=r:=zO;rw[hr]at rv2 kv2 d5 d6 d7;rw[hto]at hE1 hT;have hT2:=zH (hT.out zO zO);clear hT h3 h4 hto;replace⟨h1,h2,hr⟩:=zH3 h1 h2 hr;go_wp2_with fail;refine HH.out.mono ?_;clear HH;rintro e w3 ⟨rfl,hB⟩;have x3:Ext w w3:=Ext.trans x2 hB;have rp3:=qb rp2 hB;have rv3:=qb rv2 hB;have kc3:=Ext.cell hB kc;have rc3:=qb yh.out.row hB;clear rp2 rv2 kp2 kv2 kc x2 hB;have hAJ:Hid ((zF vs v.id).isSome=(zF vs v.id).isSome):=zH rfl;generalize(zF vs v.id).isSome=there at*;have hDU:Hid (there=Jx/\16<=vs.length\/¬(there=Jx/\16<=vs.length)):=zH (Classical.em _);rcases hDU.out with⟨rfl,uX⟩|uX
 ·have e1:decide ((vs.length:Int)≥16)=Z:=decide_eq_true zO;have hE:=zH (show jN S next v vs refs=9 by rw[hE1.out,if_pos ⟨rfl,uX⟩]);replace uX:=zH uX;clear hDU;go_wp2_with fail;exact VK rfl rfl (hQ.out _ hE.out _ x3)
 have mr:=zH (show jN S next v vs refs=if js S r<=refs r then 6 else if okL S (-1) v.root=Z then 0 else 8 by rw[hE1.out,if_neg uX]);have HB:there=Z\/(there=Jx/\decide ((vs.length:Int)≥16)=Jx/\decide (16<=vs.length)=Jx):=by cases there;right;have:¬16<=vs.length:=λh=>uX ⟨rfl,h⟩;exact⟨rfl,decide_eq_false zO,decide_eq_false this⟩;exact .inl rfl
 clear hE1 hDU uX;obtain⟨b3,o3,d3',e3,dC,aF⟩:=qcW yh.out.pool.may h.out.now;simp only[Value.slice.injEq]at e3;obtain⟨rfl,rfl,rfl⟩:=e3;have di:=Ext.cell x3 (aF r mf);have uU:=(qa rc3 (6+r)).trans (yh.out.ar.ref r mf);have hwn:=zH (IntWalk.wrap64_in (js S r:Int) (by have:=(S.now[r]?.getD 0).toNat_lt;unfold js;omega));have hwn2:=zH (show IntKind.i64.wrap (js S r:Int)=(js S r:Int)by rw[IntKind.wrap_i64];have:=(S.now[r]?.getD 0).toNat_lt;unfold js;omega);have HCK:=zH (λ(aH:js S r≠0) W (hx:Ext w W)=>by
  obtain⟨a,ha,ht⟩:=Zl (hT2.out aH);obtain rfl:r=a:=by have:=hr.out;omega
  exact HC.out yh.out.pool.may r ht W hx)
 clear aF HC;generalize hnw:js S r=nw at*;generalize hrfe:refs r=rf at*;replace⟨hnw,hrfe⟩:=zH2 hnw hrfe;have gP:∀W,qm.r w3 W->∀i,W.cell? ⟨w,i,O⟩=(qR (F A1 n1 c1) (F A2 n2 c2) (F (b3,o3) 256 c3) (F A4 n4 c4) gen root next (F A5 dead.length c5))[i]?:=λW h=>qa (qb rp3 h);have gV:∀W,qm.r w3 W->∀i,W.cell? ⟨w.heap.size+1,i,O⟩=#[M .u32 v.id,(r:Int),.bool v.fz,M .u32 v.frm][i]?:=λW h=>qa (qb rv3 h);have gN:∀W,qm.r w3 W->W.cell? (b3,o3+r)=I (M .u8 (nw:Int)):=λW h=>Ext.cell h di;have gR:∀W,qm.r w3 W->W.cell? (cb,6+r)=I (M Y (rf:Int)):=λW h=>Ext.cell h uU;clear rc3;rcases HB with rfl|⟨rfl,e1,e2⟩
 all_goals
  go_upto_region 9 with fail;refine qt zQ ?_;refine qY (w:=w3) qm (qP []) (List.replicate 16 Z) 0 zQ zQ zQ zQ zQ zQ zQ ?st (Rel.drew _ _) ?walk
  case st=>exact qk (λ_ h=>by cases h)
  case walk=>
   intro K hK;dsimp only[qv,List.replicate];have hw':=hwn.out;have iF:=hwn2.out;refine zB7 ?_
   first
    |(refine qd (Oa (I ⟨b3,o3+r,O⟩)) zA0 zA0 (λW hW _=>⟨W,?_,Rel.refl _ W⟩) ?_
      ·go_simp;intro lg;exfalso;omega
      simp only[Act.put,qf,qc,qg,zA,zB,zC])
    |skip
   refine zB7 ?_
   first
    |(refine qd (Oa (I ⟨cb,6+r,O⟩)) zA0 zA0 (λW hW _=>⟨W,?_,Rel.refl _ W⟩) ?_
      ·go_simp;intro lg;exfalso;omega
      simp only[Act.put,qf,qc,qg,zA,zB,zC])
    |skip
   refine zB7 ?_;refine qB (hK _ _ λV hV hF=>?_);clear hF hK gP gV gN gR;have hV:Ext w3 V:=hV;refine zC4 ?_;have x4:=x3.trans hV;have kp4:=qa (qb rp3 hV);have kv4:=qa (qb rv3 hV);clear rp3 rv3 hw';clear iF;go_wp2;refine Qq ?_;by_cases hle:nw<=rf
   ·have f1:decide ((nw:Int)<=(rf:Int))=Z:=decide_eq_true zO;have hE:=zH (show jN S next v vs refs=6 by rw[mr.out,if_pos hle]);replace hle:=zH hle;go_wp2_with fail;exact VK rfl rfl (hQ.out _ hE.out _ x4)
   have f1:decide ((nw:Int)<=(rf:Int))=Jx:=decide_eq_false zO;have hE:=zH (show jN S next v vs refs=0 by rw[mr.out,if_neg hle,if_pos (hT2.out zO)]);have HC4:=zH (HCK.out zO V x4);replace hle:=zH hle;clear HCK;go_wp2_with fail;refine HC4.out.mono ?_;clear HC4;rintro e w5 ⟨u,rfl,⟨m,rfl⟩,hB⟩;go_wp2_with fail;exact VK rfl rfl (hQ.out _ hE.out _ (x4.trans hB))
def jn:Qb:=⟨Unit,λ_=>undef,λ_ _=>True⟩
theorem qG(u:Unit):jn.f u=undef:=rfl
theorem ZY{R:Rel}:∀p,qS R (jn.φ p):=λ_ _ _ _ _=>trivial
theorem VL(hr:(execOp a.eval o).run P W=.ok .skip W')(hx:Ext W W'):Qs qm P o a W jn:=JA hr ⟨(),rfl,trivial,hx⟩
theorem qfl{b:Nat}(h:w.heap[b]?=I (J #[x0] ty)):Ext w (w.setCell b x0):=QD h rfl
theorem same4{b:Nat}(h:w.heap[b]?=I (J #[x0,x1,x2,x3] ty)):Ext w ((((w.setCell b x0).setCell (b,1) x1).setCell (b,2) x2).setCell (b,3) x3):=by have e0:=QD (j:=0) (v:=x0) h rfl;have h0:=qb h e0;have e1:=QD (j:=1) (v:=x1) h0 rfl;have h1:=qb h0 e1;have e2:=QD (j:=2) (v:=x2) h1 rfl;have h2:=qb h1 e2;exact((e0.trans e1).trans e2).trans (QD (j:=3) (v:=x3) h2 rfl)
def vp(B:Nat)(ty:TypeId)(Φ:Array Ob->U->Prop)(hΦ:∀cs W W',W.grownBy W' (I B)->Φ cs W->Φ cs W'):Rel where
 rel W W':=W.grownBy W' (I B)/\(B<W->W'.heap[B]?=W.heap[B]?\/∃cs,W'.heap[B]?=I (J cs ty)/\Φ cs W')
 refl' W:=⟨World.grownBy.refl _ _,λ_=>.inl rfl⟩
 trans' h k:=⟨h.1.trans k.1,λhb=>by
  rcases k.2 (Nat.lt_of_lt_of_le hb h.1.size)with e|e
  rw[e];rcases h.2 hb with e1|⟨cs,e1,e2⟩
  exact .inl e1;exact .inr ⟨cs,e1,hΦ _ _ _ k.1 e2⟩
  ·exact .inr e⟩
 drew' W:=⟨⟨rfl,rfl,rfl,zM _,λ_ _ _=>rfl⟩,λ_=>.inl rfl⟩
section
variable {B:Nat} {ty:TypeId} {Φ:Array Value->World->Prop} {hΦ:∀ cs W W',W.grownBy W' (some B)->Φ cs W->Φ cs W'}
theorem qdo{W W':U}(h:Ext W W'):(vp B ty Φ hΦ).r W W':=⟨QP h _,λhb=>.inl (h.block B hb)⟩
theorem jw{W W':U}(h:(vp B ty Φ hΦ).r W W'){b:Nat}{o:Obj}(hp:b≠B)(hc:W.heap[b]?=o):W'.heap[b]?=o:=
 (h.1.block b (zG.1 hc).1 (λx=>hp (by simpa using x))).trans hc
theorem qdp{W W':U}(h:(vp B ty Φ hΦ).r W W'){o:Obj}(hc:W.heap[B]?=o):W'.heap[B]?=o\/∃cs,W'.heap[B]?=I (J cs ty)/\Φ cs W':=by
 have:=h.2 (zG.1 hc).1
 rwa [hc]at this
theorem kJ{W W':U}{B0:Nat}(h:(vp B ty Φ hΦ).r W W')(h1:B0<=B)(h2:B0<=W):Below B0 W W':=(Below.refl _ _).grown h.1 h2 (λg hg=>by simp at hg;omega)
theorem Xv{W W':U}(h:(vp B ty Φ hΦ).r W W'){k:Nat}(hk:k<W)(hp:k≠B):W'.heap[k]?=W.heap[k]?:=h.1.block k hk λx=>hp (by simpa using x)
theorem Ur{lo:Nat}{S:Sto}(hB:B<lo):∀p,qS (vp B ty Φ hΦ) ((qeY lo S).φ p):=λp W W' he h=>
 QY.keep h (zM _) he.1.size λb h1 hb=>Xv he hb zO
def KU(B:Nat)(ty:TypeId)(Φ:Array Ob->U->Prop):Qb:=⟨Unit,λ_=>undef,λ_ W=>∃cs,W.heap[B]?=I (J cs ty)/\Φ cs W⟩
theorem qJ(u:Unit):(KU B ty Φ).f u=undef:=rfl
theorem Tp:∀p,qS (vp B ty Φ hΦ) ((KU B ty Φ).φ p):=λ_ W W' he ⟨cs,h1,h2⟩=>by
 rcases qdp he h1 with e|e
 exact⟨cs,e,hΦ _ _ _ he.1 h2⟩;exact e
theorem qhH{P:Program}{o:Oper}{a:Act}{W w':U}{cs:Array Ob}(hr:(execOp a.eval o).run P W=.ok .skip w')(hg:W.grownBy w' (I B))(hw:w'.heap[B]?=I (J cs ty))(hp:Φ cs W):Qs (vp B ty Φ hΦ) P o a W (KU B ty Φ):=
 JA hr ⟨(),rfl,⟨cs,hw,hΦ _ _ _ hg hp⟩,hg,λ_=>.inr ⟨cs,hw,hΦ _ _ _ hg hp⟩⟩
end
def Zi(lo:Nat)(S:Sto)(cs:Array Ob)(W:U):Prop:=∃x0 x1 x2 x3,cs=#[x0,x1,x2,x3]/\QY lo S (.agg cs) W
theorem Zi.keep(hB:B<lo):∀cs W W',W.grownBy W' (I B)->Zi lo S cs W->Zi lo S cs W':=λcs W W' hg h=>by obtain⟨x0,x1,x2,x3,e,hT⟩:=h;exact⟨x0,x1,x2,x3,e,QY.keep hT (zM _) hg.size λk h1 hk=>hg.block k hk λe=>by simp at e;omega⟩
theorem qbh(hB:B<lo)(h:∃u0 u1 u2 u3,W.heap[B]?=I (J #[u0,u1,u2,u3] ty))(hT:QY lo S (.agg #[x0,x1,x2,x3]) W)(hr:(execOp a.eval o).run P W=.ok .skip ((((W.setCell B x0).setCell (B,1) x1).setCell (B,2) x2).setCell (B,3) x3)):Qs (vp B ty (Zi lo S) (Zi.keep hB)) P o a W (KU B ty (Zi lo S)):=by obtain⟨u0,u1,u2,u3,h⟩:=h;exact qhH hr (QO.trans (QO.trans (QO.trans QO))) (UX h x0 x1 x2 x3) ⟨x0,x1,x2,x3,rfl,hT⟩
theorem qiE(hB:B<lo){u0 u1 u2 u3:Ob}(h:(vp B ty (Zi lo S) (Zi.keep hB)).r W W')(hc:W.heap[B]?=I (J #[u0,u1,u2,u3] ty)):∃u0 u1 u2 u3,W'.heap[B]?=I (J #[u0,u1,u2,u3] ty):=by
 rcases qdp h hc with e|⟨cs,e,x0,x1,x2,x3,rfl,_⟩
 exact⟨_,_,_,_,e⟩;exact⟨_,_,_,_,e⟩
end Go.Proofs.YtmeadnlmepcmbaaGreat
namespace Go.Proofs.YtmeadnlmepcmbaaGreat
open Go.RowKit Go.Shelf
attribute [local go_sem] Oper.semAt_some
variable {v:Value}{R:Ending->World->Prop}{a:Act}{W:World}
theorem qdm{n b D:Nat}(h4:a.tmps[4]?.getD undef=Oa (b+1+1,0))(hd:a.defers=[{target:=.collected D,args:=#[]}])(hK:W.heap[D]?=I (.deferred (I [])))(hD:b+2<D)(hB:W.heap[b+2]?=I (J #[v] 26))(hR:∀W',W'=W.putObj D (.deferred O)->R v W'):bodyPostM Fence.wide n prog Tryz.f137 R .ret a W:=by have k4:=qa ((World.putObj_heap_other (o:=.deferred O) (show b+2≠D by omega)).trans hB);change LeavesInM Fence.wide n prog Tryz.f137 a.tmps R a.defers .returning W;rw[hd];refine⟨zA3,.inl ⟨_,_,rfl,run_takeDeferred hK,v,?_,hR _ rfl⟩⟩;simp[results,results137,go_sem,h4,k4]
set_option maxRecDepth 100000 in
theorem qmG(A1 n1 c1 A2 n2 c2)(S:Sto)(hS:qj S=Z)(m:Nat)(hm:m<256)(w:U)(hb:Bls w w (F A1 n1 c1) S.bs)(hw:Wrs w w (F A2 n2 c2) S.ws):Calls prog 137 #[XV A1 n1 c1 A2 n2 c2,(m:Int)] w (zZ (λu W=>Bys W W u (Ji S m)) w):=by
 obtain⟨lq,pX,lu,hl4⟩:=qZ hS;have cZ:=Zw hS;have iC:Ji S m=match jQ S.ws m with|some l=>l|none=>S.bs[m]:=by unfold Ji;rw[zL zO];rfl
 obtain⟨eY,dP,hm1,hA1⟩:=hb.at_;obtain⟨b1,o1,rfl,bg⟩:=hA1 zO;obtain⟨A0,c0,xI,hAS⟩:=hb.get (bs:=S.bs) m zO;have hNB:n1=256:=by rw[eY,lq]
 generalize S.bs[m]=l0 at*;generalize Ji S m=l at*;generalize hwsE:S.ws=ws at*;obtain⟨ps,bM,⟨A2',c2',e2,aA,cO,aP⟩,hw4⟩:=hw;rw[<-bM]at iC e2 aA aP pX;clear eY hS lq lu hl4 hA1 cZ hwsE hb;subst hNB;simp only[Value.slice.injEq]at e2;obtain⟨rfl,aS,rfl⟩:=e2;rw[<-aS]at aA aP pX;replace⟨aS,iC⟩:=zH2 aS iC;have bz:ps.length=n2:=by rw[aS.out];simp
 obtain⟨us,nO⟩:∃us:List W2,us=ps.map λp=>((p.1.1,kK p.2):W2):=⟨_,rfl⟩
 have iT:us.length=n2:=by rw[nO,List.length_map,bz]
 have hua:∀j,(us[j]?.getD w2z).1=atN ws j:=λj=>by unfold atN;rw[nO,<-bM,List.getElem?_map,List.getElem?_map];cases ps[j]?<;>rfl
 have hud:∀j W,Ext w W->Bys W W.heap.size (sv (us[j]?.getD w2z).2) (datN ws j):=λj W hx=>by
  unfold datN;rw[nO,<-bM,List.getElem?_map,List.getElem?_map];rcases hj:ps[j]? with _|p
  exact⟨O,0,rfl,zM _,zA7,zA3,λhn=>absurd hn zA3⟩;obtain⟨⟨A',c',e'⟩,hy⟩:=hw4 p (List.mem_of_getElem? hj);have:sv (kK p.2)=p.2:=by rw[e'];rfl
  simp only[Option.map_some,Option.getD_some];rw[this];exact(hy.below hx).more hx.size
 refine(callsIn_wide (n:=3)).1 ?_;refine callsIn_of_wp_marks func137 rfl trivial ?_ rfl;simp only[ntmps137,List.size_toArray,List.length_cons,List.length_nil,Nat.reduceAdd,Nat.reduceSub,Array.replicate_succ,Array.replicate_zero,List.push_toArray,List.append_toArray,List.nil_append,List.cons_append];refine wpIn_wide.2 ?_;go_wp2_with fail;generalize nP:(Q (Q (Q w _) _) _)=w2;have x2:Ext w w2:=by rw[<-nP];exact((zN _ _).trans (zN _ _)).trans (zN _ _)
 have s2:w.heap.size+3<=w2:=by rw[<-nP];simp
 have ra2:w2.heap[w.heap.size]?=I (J #[F (b1,o1) 256 c1,F A2 n2 c2] 25):=by rw[<-nP];exact(zK _ _ _ zA4).trans ((zK _ _ _ zA4).trans (zI _ _ _ rfl))
 have rb2:w2.heap[w.heap.size+1]?=I (J #[(m:Int)] 3):=by rw[<-nP];exact(zK _ _ _ zA4).trans (zI _ _ _ zA3)
 have rc2:w2.heap[w.heap.size+2]?=I (J #[F O 0 0] 26):=nP▸zI _ _ _ zA3;clear nP;have ka2:=qa ra2;have kb2:=qa rb2;refine(Um A2 n2 c2 w2).mono ?_;rintro e w3 ⟨rfl,rfl⟩;go_wp2_with fail;have x5:Ext w2 (w2.alloc (J #[F A2 n2 c2] 23)):=zN _ _;obtain⟨b2,bP,hSW⟩:∃b2,b2<w.heap.size/\SW (w2.alloc (J #[F A2 n2 c2] 23)) w2 b2 (F A2 n2 c2) us:=by
  have hDK:(w2.alloc (J #[F A2 n2 c2] 23)).cell? w2=I (F A2 n2 c2):=by rw[qa (zI _ _ _ rfl)];rfl
  by_cases hz:n2=0;have:us=[]:=List.length_eq_zero_iff.1 zO;exact⟨b1,bg,hDK,.inl ⟨this,A2,c2,by rw[hz]⟩⟩;obtain⟨b2,o2,rfl,hlt,hc⟩:=aP.2 zO;refine⟨b2,hlt,hDK,.inr ⟨o2,c2,by rw[iT],λi hi=>?_⟩⟩;have fF:i<ps.length:=zO;obtain⟨g0,g1⟩:=Yt ps i fF;have hx:=x2.trans x5;rw[nO];refine⟨?_,?_⟩;rw[Ext.cell hx (hc _ _ g0),List.getElem?_map,zL fF];rfl;obtain⟨⟨A',c',e'⟩,_⟩:=hw4 ps[i] (List.getElem_mem fF);rw[Nat.add_assoc,Ext.cell hx (hc _ _ g1),List.getElem?_map,zL fF];simp only[Option.map_some,Option.getD_some];rw[e'];rfl
 clear nO aP;replace⟨hua,hud⟩:=zH2 hua hud;refine(wpIn_wide (n:=3)).1 ?_;refine wpIn_rangeFunc_ownH rfl zO (gf:=189) (lb:=#[Oa (I ⟨w2.heap.size,0,O⟩)]) rfl trivial (enters_of func189 zQ rfl)
  (qha (3-1) zO w2.heap.size b2 _ _ (by rw[iT];omega) _ zA3 zA2 hSW) Qw.t (Qw.b zA3 zA2) (Below.refl _ _) (λ_=>rfl)
  (λpre W'=>((W'.heap[w.heap.size]?=I (J #[F (I ⟨b1,o1,O⟩) 256 c1,F A2 n2 c2] 25 (0,0))/\W'.heap[w.heap.size+1]?=I (J #[M Y (m:Int)] 3 (0,0)))/\(W'.heap[w.heap.size+2]?=I (J #[F O 0 0] 26 (0,0))/\W'.heap[w2.heap.size]?=I (J #[F A2 n2 c2] 23 (0,0))))/\(Below w.heap.size w W'/\∀y∈pre,atN ws y≠(m:Int)))
  (λc pre W'=>(∃pre' x Wb,c=.ret/\pre=pre'++[x]/\atN ws x=(m:Int)/\(∀y∈pre',atN ws y≠(m:Int))/\Wb.heap[w.heap.size+2]?=I (J #[sv (us[x]?.getD w2z).2] 26 (0,0))/\Qe Wb W')/\Below w.heap.size w W')
  (OwnFrom.and (OwnFrom.and (OwnFrom.and (QF _ _ _ _) (QF _ _ _ _)) (OwnFrom.and (QF _ _ _ _) (QF _ _ _ _))) (OwnFrom.and (ownFrom_below (zM _) zA2) (Xs _ _)))
  (λc=>OwnFrom.and (λs A C row hs hg hr=>by obtain⟨pre',x,Wb,h1,h2,h3,h4,h5,h6⟩:=hs;exact⟨pre',x,Wb,h1,h2,h3,h4,h5,h6.grown hg λr e=>(hr r e).2⟩) (ownFrom_below (zM _) zA2))
  ⟨⟨⟨qb ra2 x5,qb rb2 x5⟩,⟨qb rc2 x5,zI _ _ _ rfl⟩⟩,x2.trans x5,λy hy=>by cases hy⟩
  (λx a' W'=>∃t8,a'={tmps:=#[XV (I ⟨b1,o1,O⟩) 256 c1 A2 n2 c2,M Y (m:Int),Oa (I ⟨w.heap.size,0,O⟩),Oa (I ⟨w.heap.size+1,0,O⟩),Oa (I ⟨w.heap.size+1+1,0,O⟩),undef,Oa (I ⟨t8,0,O⟩),Oa (I ⟨w.heap.size,1,O⟩),F A2 n2 c2,.func (.func 189) #[] #[Oa (I ⟨w2.heap.size,0,O⟩)],
    M Y (x:Int),.agg #[M Y (us[x]?.getD w2z).1,sv (us[x]?.getD w2z).2],undef,undef,undef,undef,undef,undef,undef,undef,undef,undef,undef],defers:=[]}/\W'.heap[t8]?=I (J #[M Y (us[x]?.getD w2z).1,sv (us[x]?.getD w2z).2] 142 (0,0)))
  (λx a' s A C row hs hg hr=>by obtain⟨t8,e,h⟩:=hs;exact⟨t8,e,QF (β:=Unit) _ _ _ _ () A C row h hg hr⟩) ?assign ?body ?done ?stop
 case assign=>
  rintro l' pre x W' K ⟨⟨⟨i1,i2⟩,⟨i3,i7⟩⟩,i4,i5⟩ hK
  gi_wp2
  have z1:=(zG.1 i1).1;have z2:=(zG.1 i2).1;have z3:=(zG.1 i3).1;have z7:=(zG.1 i7).1;have z4:=i4.size;refine hK _ _ ((KeepsOthers.alloc _ _).from _) ⟨zK _ _ _ z7,zK _ _ _ zO⟩ ⟨⟨⟨(zK _ _ _ z1).trans i1,(zK _ _ _ z2).trans i2⟩,⟨(zK _ _ _ z3).trans i3,(zK _ _ _ z7).trans i7⟩⟩,Below.alloc i4 z4 _,i5⟩ ⟨W'.heap.size,rfl,zI _ _ _ rfl⟩
 case body=>
  rintro l' pre x a' W' hl ⟨rr,hlp⟩ ⟨⟨⟨i1,i2⟩,⟨i3,i7⟩⟩,i4,i5⟩ ⟨t8,rfl,iw⟩ _;have hax:=hua.out x;generalize hu9:(us[x]?.getD w2z)=u9 at*;obtain⟨a9,A9,n9,c9⟩:=u9;simp only at hax;subst hax;have k8:=qa iw;have k2:=qa i2;have k3:=qa i3;have f3:=qe i3;replace⟨i5,hu9⟩:=zH2 i5 hu9;clear ka2 kb2;by_cases hq:atN ws x=(m:Int)
  ·have lK:(atN ws x==(m:Int))=Z:=by rw[beq_iff_eq];exact hq
   replace hq:=zH hq
   gi_wp2_with fail
   refine⟨(KeepsOthers.setCell _ _ _).from _,⟨rfl,pre,x,rfl,hq.out,i5.out,_,?_,Qe.refl _⟩,Below.setCell i4 (p:=⟨w.heap.size+1+1,0,O⟩) zA2 _⟩;rw[hu9.out];exact qi i3 0 _
  have lK:(atN ws x==(m:Int))=Jx:=by rw[beq_eq_false_iff_ne];exact hq
  replace hq:=zH hq
  gi_wp2_with fail
  refine⟨KeepsFrom.refl _ _,Qw.refl _ _ _,⟨⟨i1,i2⟩,⟨i3,i7⟩⟩,i4,λy hy=>?_⟩;rcases List.mem_append.1 hy with h|h
  exact i5.out y h;obtain rfl:y=x:=by simpa using h
  exact hq.out
 case done=>
  rintro D ys W' hD rfl ⟨⟨⟨i1,i2⟩,⟨i3,_⟩⟩,i4,i5⟩ hK;have h0:=qiW (ws:=ws) (a:=(m:Int)) (by rw[show ws.length=us.length by rw[iT,<-bz,<-bM,List.length_map]];exact i5);have hll:l=l0:=by rw[iC.out,bM,h0]
  have hcb':=Ext.cell i4 xI;rw[<-hll]at hcb' hAS;clear h0 hll xI;have k1:=qa i1;have k2:=qa i2;have k3:=qa i3;have f3:=qe i3;have im:(m:Int)<256:=zO;replace⟨i5,hAS⟩:=zH2 i5 hAS;clear ka2 kb2 hw4 aS;go_wp2_with fail;have hDw:w.heap.size+2<D:=by simp at hD;omega
  have q3:=qi i3 0 (F A0 l.length c0);have qK:=(zJ W' ⟨w.heap.size+1+1,0,O⟩ (F A0 l.length c0) D zA2).trans hK;have qx:=Below.setCell i4 (p:=⟨w.heap.size+1+1,0,O⟩) zA2 (F A0 l.length c0);generalize World.setCell W' _ _=wf at*;exact qdm (b:=w.heap.size) rfl rfl qK hDw q3 (λW' e=>by have hX:Ext w W':=e▸qx.trans (belowK_b (w:=w) (zM _) wf D _ _ zO qK rfl rfl);exact⟨_,rfl,(hAS.out.below hX).more hX.size,hX⟩)
 case stop=>
  rintro D c pre W' hD ⟨k,hk,hpre⟩ ⟨⟨pre',x,Wb,rfl,rfl,hx,iH,hRB,hCK⟩,i4⟩ hK
  gi_wp2_with fail
  have hDw:w.heap.size+2<D:=by simp at hD;omega
  have pX:l=datN ws x:=by rw[iC.out,bM,qiX (ws:=ws) (k:=k) (by rw[<-bM,List.length_map,bz,<-iT];exact hk) (by rw[show ws.length=us.length by rw[iT,<-bz,<-bM,List.length_map]];exact hpre) hx iH]
  exact qdm (b:=w.heap.size) rfl rfl hK hDw (hCK.row hRB) (λW'' e=>by have hX:Ext w W'':=e▸i4.trans (belowK_b (w:=w) (zM _) W' D _ _ zO hK rfl rfl);exact⟨_,rfl,by rw[pX];exact hud.out x W'' hX,hX⟩)
end Go.Proofs.YtmeadnlmepcmbaaGreat
namespace Go.Proofs.YtmeadnlmepcmbaaGreat
open Go.RowKit
variable {R:Ending->World->Prop}{a:Act}{W:World}
theorem qaK{b:Nat}{x0 x1 v:Ob}(h4:a.tmps[4]?.getD undef=Oa b)(h5:a.tmps[5]?.getD undef=v)(hd:a.defers=[])(aC:W.heap[b]?=I (J #[x0,x1] 113))(hR:R (Oc (.tuple #[.agg #[x0,x1],v])) W):bodyPost prog Tryz.f72 R .ret a W:=by refine bodyPost_ret (v:=.tuple #[.agg #[x0,x1],v]) ?_ hd hR;have k:=qa aC;simp[results,results72,go_sem,h4,h5,k]
set_option maxRecDepth 100000 in
theorem TV(A1 n1 c1 A2 n2 c2 A3 n3 c3 A4 n4 c4)(S:Sto)(a:Int)(w:U)(h:Qh w w (F A1 n1 c1) (F A2 n2 c2) (F A3 n3 c3) (F A4 n4 c4) S):Calls prog 72 #[Qo A1 n1 c1 A2 n2 c2 A3 n3 c3 A4 n4 c4,a] w (zZ (qce w (if Jj S a=0 then qo S a.toNat else O)) w):=by
 have HA:=zH (λW (hx:Ext w W)=>qkc A1 n1 c1 A2 n2 c2 A3 n3 c3 A4 n4 c4 S a W (h.ext hx));obtain⟨q,hq⟩:∃q,(if Jj S a=0 then qo S a.toNat else O)=q:=⟨_,rfl⟩
 rw[hq];replace⟨hq,h⟩:=zH2 hq h;go_enter func72,ntmps72;go_wp2_with fail;generalize aA:(Q (Q w _) _)=w1;have x1:Ext w w1:=by rw[<-aA];exact(zN _ _).trans (zN _ _)
 have r1:w1.heap[w.heap.size]?=I (J #[F A1 n1 c1,F A2 n2 c2,F A3 n3 c3,F A4 n4 c4] 28):=by rw[<-aA];exact(zK _ _ _ zA3).trans (zI _ _ _ rfl)
 have q1:w1.heap[w.heap.size+1]?=I (J #[M Y 0,F O 0 0] 113):=aA▸zI _ _ _ zA3;clear aA;have k1:=qa r1;go_wp2_with fail;refine(HA.out w1 x1).mono ?_;clear HA;rintro e w2 ⟨rfl,hB⟩;have x2:Ext w w2:=x1.trans hB;have r2:=qb r1 hB;have q2:=qb q1 hB;clear hB r1 q1 x1 k1;have k2:=qa r2;have kq2:=qa q2;have fq2:=qe q2;by_cases hE:Jj S a=0
 ·obtain⟨hS,n,rfl,h8,h256,hc⟩:=qfC hE;have hNA:q=QL (Ji S n):=by rw[<-hq.out,if_pos hE,Int.toNat_natCast];unfold qo;exact if_neg hc
  rw[hE];clear hq;have HS:=zH (λW (hx:Ext w W)=>qmG A1 n1 c1 A2 n2 c2 S hS n h256 W ((h.out.bs.below hx).more hx.size) ((h.out.ws.below hx).more hx.size));have HR:=zH (λv W (hv:Bys W W.heap.size v (Ji S n))=>qmm v (Ji S n) W hv);replace⟨hE,hS,hNA,hc⟩:=zH4 hE hS hNA hc;generalize Ji S n=l at*;go_wp2_with fail;refine(HS.out w2 x2).mono ?_;clear HS;rintro e w3 ⟨u,rfl,hu,hB⟩;have x3:Ext w w3:=x2.trans hB;have q3:=qb q2 hB;clear hB k2 r2 kq2 fq2 q2;go_wp2_with fail;refine(HR.out u w3 hu).mono ?_;clear HR hu;rintro e w4 ⟨u4,rfl,hu,hB⟩;have hB:Ext w3 w4:=hB;have x4:Ext w w4:=x3.trans hB;have q4:=qb q3 hB;have z3:=x3.size;have z4:w.heap.size+1<w4:=(zG.1 q4).1;have z3q:w.heap.size+1<w3:=(zG.1 q3).1;clear hB q3;have kq4:=qa q4;have fq4:=qe q4;rcases hQ:QL l with _|⟨lvl,xs⟩
  ·rw[hQ]at hu;obtain⟨er,aH,rfl⟩:=hu;have hq:q=O:=by rw[hNA.out,hQ]
   replace hq:=zH hq;have uA:(er != 0)=Z:=by rw[bne_iff_ne];exact aH
   replace aH:=zH aH;go_wp2_with fail;generalize ah:(Q _ _)=wf;have rf:wf.heap[w.heap.size+1]?=I (J #[M Y 0,F O 0 0] 113):=by rw[<-ah];exact(zK _ _ _ (by simpa using z4)).trans (qi (qi q4 0 _) 1 _)
   have bf:Below w w wf:=ah▸Below.alloc (Below.setCell (Below.setCell x4 (p:=⟨w.heap.size+1,0,O⟩) zA3 _) (p:=⟨w.heap.size+1,1,O⟩) zA3 _) zA2 _;exact qaK (b:=w.heap.size+1) rfl rfl rfl rf ⟨_,rfl,(by rw[hq.out];exact⟨8,zA1,rfl⟩),bf⟩
  rw[hQ]at hu;obtain⟨A,c,rfl,hi⟩:=hu;have hq:q=I (lvl,xs):=by rw[hNA.out,hQ]
  replace⟨hq,hi⟩:=zH2 hq hi;go_wp2_with fail;generalize ah:(Q _ _)=wf;have rf:wf.heap[w.heap.size+1]?=I (J #[lvl,F A xs.length c] 113):=by rw[<-ah];exact(zK _ _ _ (by simpa using z4)).trans (qi (qi q4 0 _) 1 _)
  have bf:Below w w wf:=ah▸Below.alloc (Below.setCell (Below.setCell x4 (p:=⟨w.heap.size+1,0,O⟩) zA3 _) (p:=⟨w.heap.size+1,1,O⟩) zA3 _) zA2 _;have hfi:ZO w wf (F A xs.length c) xs:=by refine(hi.out.keep (by have:=bf.size;rw[<-ah];simp) λp h1 h2=>?_).mono z3;rw[<-ah,World.cell?_alloc_lt _ _ _ (by simpa using h2),World.cell?_setCell_other _ _ _ _ (λe=>by subst e;simp at h1;omega),World.cell?_setCell_other _ _ _ _ (λe=>by subst e;simp at h1;omega)]
  exact qaK (b:=w.heap.size+1) rfl rfl rfl rf ⟨_,rfl,(by rw[hq.out];exact⟨A,c,rfl,hfi⟩),bf⟩
 have hqn:=zH (show q=O by rw[<-hq.out,if_neg hE]);clear hq;have aH:(Jj S a != 0)=Z:=by rw[bne_iff_ne];exact hE
 generalize Jj S a=er at*;go_wp2_with fail;refine qaK (b:=w.heap.size+1) rfl rfl rfl (qi (qi q2 0 _) 1 _) ⟨_,rfl,(by rw[hqn.out];exact⟨er,hE,rfl⟩),?_⟩;exact Below.setCell (Below.setCell x2 (p:=⟨w.heap.size+1,0,O⟩) zA3 _) (p:=⟨w.heap.size+1,1,O⟩) zA3 _
structure WyI(ty:TypeId)(P:Nat->List It->Prop)(S:Sto)(K:K3)(full:List Stp)(lo:Nat)(w1:U)(v i:Ob)(wr:U):Prop where
 ex:∃(h r:Nat)(ys:List It)(pre:List Stp)(Av:OA)(cv:Nat),v=F Av pre.length cv/\i=M Y (r:Int)/\8<=r/\r<256/\qo S r=I ((h:Int),ys)/\(qz S h ys).isSome=Z/\full=pre++jJ S K h ys/\pre.length+h<6/\jE ty lo wr v pre/\Below lo w1 wr/\P h ys
set_option maxRecDepth 100000 in
theorem way_any(A1 n1 c1 A2 n2 c2 A3 n3 c3 A4 n4 c4)(S:Sto)(hS:qj S=Z)(a lvl:Nat)(xs:List It)(ha:8<=a)(bC:a<256)(hn:qo S a=I ((lvl:Int),xs))(aK:(qz S lvl xs).isSome=Z)(k i o:Int)(w:U)(aJ:Qh w w (F A1 n1 c1) (F A2 n2 c2) (F A3 n3 c3) (F A4 n4 c4) S):Calls prog 127 #[Qo A1 n1 c1 A2 n2 c2 A3 n3 c3 A4 n4 c4,(a:Int),Uh k i o] w (zZ (λu W=>XQ w W u (jJ S (k,i,o) lvl xs)) w):=by
 obtain⟨i0,hi,aZ,aT,aX⟩:=info_parts Tryz.info_step;obtain⟨full,dE⟩:∃full,jJ S (k,i,o) lvl xs=full:=⟨_,rfl⟩
 rw[dE];have hl6:lvl<6:=by have:=zY hn;omega
 have HI0:=zH (λW=>(⟨⟨lvl,a,xs,[],O,0,rfl,rfl,ha,bC,hn,aK,dE.symm,by simpa using hl6,jE.nil _ _ _,Below.refl _ _,trivial⟩⟩:WyI 187 (λ_ _=>True) S (k,i,o) full W.heap.size W (F O 0 0) (M Y (a:Int)) W));have HN:=zH (λ(r:Nat) W (hx:Ext w W)=>TV A1 n1 c1 A2 n2 c2 A3 n3 c3 A4 n4 c4 S (r:Int) W (aJ.ext hx));replace⟨hS,hi⟩:=zH2 hS hi;clear aJ hn aK dE ha bC hl6;go_enter func127,ntmps127;go_wp2_with fail;generalize aA:(Q (Q w _) _)=w1;have x1:Ext w w1:=by rw[<-aA];exact(zN _ _).trans (zN _ _)
 have rs1:w1.heap[w.heap.size]?=I (J #[F A1 n1 c1,F A2 n2 c2,F A3 n3 c3,F A4 n4 c4] 28):=by rw[<-aA];exact(zK _ _ _ zA3).trans (zI _ _ _ rfl)
 have rk1:w1.heap[w.heap.size+1]?=I (J #[M .u8 k,M .u32 i,M .u32 o] 49):=aA▸zI _ _ _ zA3;have z1:w.heap.size<=w1:=by rw[<-aA];simp;omega
 clear aA;have I0:=zH (HI0.out w1);clear HI0;go_wp2_with fail;go_loopw [6,7] (λv j wr=>WyI 187 (λ_ _=>True) S (k,i,o) full w1.heap.size w1 v j wr) (λ_ j _=>vx S j)
 case atStart=>exact I0.out
 case round=>
  obtain⟨h,r,ys,pre,Av,cv,rfl,rfl,h8,h256,hn,aK,dE,hlen,hso,xr,-⟩:=hrel.ex;clear I0 hrel;have hlv:=VO hn;obtain⟨hm1,iR,-⟩:=qI hn;have ni:ys.length<=5:=by unfold Qj ZV at hm1;simp at hm1;omega
  have dA:0<h->0<ys.length:=λh0=>kF hm1 h0;have xr1:Ext w1 wr:=xr;have HNr:=HN.out r wr (x1.trans xr1);rw[show Jj S (r:Int)=0 by rw[TK hS.out h8 h256,if_neg (show ¬js S r=0 from λe=>by unfold qo at hn;rw[if_pos (show(S.now[r]?.getD 0).toNat=0 from e)]at hn;cases hn)],if_pos rfl,Int.toNat_natCast,hn]at HNr;have rsr:=qb rs1 xr1;have rkr:=qb rk1 xr1;have ksr:=qa rsr;replace⟨aK,hn,iR,dE,hso,hlv⟩:=zH6 aK hn iR dE hso hlv;replace dA:=zH dA;clear hm1;go_wp2_with fail;refine HNr.mono ?_;clear HNr;rintro e w4 ⟨u,rfl,⟨A9,c9,rfl,aG⟩,hB⟩;have hB:Ext wr w4:=hB;have xx4:Ext w1 w4:=xr1.trans hB;have rk4:=qb rkr hB;have so4:=zH (hso.out.ext hB);have z4:w.heap.size+1<w4:=(zG.1 rk4).1;have kk4:=qa rk4;have zwr:w1.heap.size<=wr:=xr.size;have z4r:wr.heap.size<=w4:=hB.size;replace aG:=zH aG;have hBR:Hid (∀q,(Value.slice Av pre.length cv).ownBlock=I q->q<wr.heap.size):=zH λq hq=>by obtain⟨ps,-,ho,-⟩:=hso.out;exact(Qn ho q hq).2
  clear hB rsr rkr ksr hso xr xr1;go_wp2_with fail;generalize aS:(Q w4 _)=w5;have x45:Ext w4 w5:=aS▸zN _ _;have rn5:w5.heap[w4.heap.size]?=I (J #[h,F A9 ys.length c9] 113):=aS▸zI _ _ _ rfl;clear aS;have rk5:=qb rk4 x45;have kn5:=qa rn5;have kk5:=qa rk5;clear kk4;go_wp2_with fail;refine(qaH (h:Int) A9 c9 ys k i o _ w5 ni (aG.out.ext x45)).mono ?_;rintro e w6 ⟨rfl,hB⟩;have x56:Ext w4 w6:=x45.trans hB;have rn6:=qb rn5 hB;have kn6:=qa rn6;have fA:=zH (aG.out.ext x56);have xx6:Ext w1 w6:=xx4.trans x56;have so6:=zH (so4.out.ext x56);clear rn5 x45 hB x56 rk4 rk5 kk5 kn5 xx4 aG so4;obtain⟨ips,dY,hsx⟩:=fA.out.toE (X:=OwnL w1.heap.size (F Av pre.length cv)) (λq hq hx=>hx.elim (λh1=>by have:=hBR.out q h1;omega) λh1=>zO);replace⟨hsx,dY⟩:=zH2 hsx dY;have hA:=fA.out.its.at_.2.2.2;clear fA;obtain⟨ie,dn⟩:∃ie,km ys (k,i,o)=ie:=⟨_,rfl⟩
  obtain⟨p,hp⟩:∃p,qF ys (k,i,o)=p:=⟨_,rfl⟩
  have oN:=JR ys (k,i,o);rw[dn,hp];rw[hp]at oN;obtain⟨ps,e0,ho,iH⟩:=so6.out;have bU:∀W':U,w6.grownBy W' (Value.slice Av pre.length cv).ownBlock->qU (OwnL w1 (F Av pre.length cv)) w6 W':=λW' hg=>qU.of_heap λq hq hX=>hg.block q hq λe=>hX (.inl e.symm);replace⟨iH,bU⟩:=zH2 iH bU;clear so6;rcases Nat.eq_zero_or_pos h with h0|h0
  ·have hh1:((h:Int)==0)=Z:=by rw[beq_iff_eq];omega
   have hh2:decide (h=0)=Z:=decide_eq_true h0;have yD:full=pre++[(0,ys,p)]:=by rw[dE.out,h0,YR,hp]
   subst h0;replace yD:=zH yD;clear hA dA dn hp;go_wp2_with (at_builtin;refine qV ?_);refine Qm.go (Zh w6 rfl (.tmp 28) (.tmp 32) 180 rfl w1.heap.size 187 i0 _ 3 40 underlying180 hi.out aZ aT aX rfl zA1 (F Av pre.length cv) pre.length (ZU ps) zE ho #[M Y 0,F A9 ys.length c9,M Y (p:Int)] zE rfl zA8 zO zA1 xx6.size ?_);intro v' W' aU hg hB dO;have hF:jE 187 w1 W' v' (pre++[(0,ys,p)]):=jE.push (s:=(0,ys,p)) xx6.size e0 iH.out dY.out hsx.out aU hg dO;have xg:Ext w W':=x1.trans (Below.trans xx6 hB);replace⟨hF,xg⟩:=zH2 hF xg;clear aU hg dO hB;go_wp2_with fail;go_ret;exact⟨_,rfl,by rw[yD.out];exact hF.out.toE.mono z1,xg.out⟩
  have hh1:((h:Int)==0)=Jx:=by rw[beq_eq_false_iff_ne];omega
  obtain⟨h',hh⟩:∃h',h=h'+1:=⟨h-1,zO⟩
  obtain⟨j,hj⟩:∃j,QG ys (k,i,o)=j:=⟨_,rfl⟩
  have mW:j<ys.length:=hj▸zy (dA.out h0);obtain⟨b',e1,f8,f256,zs,e4,e5⟩:=Qz (h:=h') (by rw[<-hh];exact Qt aK.out _ (List.getElem_mem mW));have hfl:full=(pre++[(h,ys,j)])++jJ S (k,i,o) h' zs:=by rw[dE.out,hh,vX (by rw[hj];exact zL mW) (by rw[e1,Int.toNat_natCast];exact e4),hj,List.append_assoc];rfl
  have hms:vx S (b':Int)<vx S (r:Int):=by rw[VO e4,hlv.out];omega
  obtain⟨b9,off,rfl,hb9⟩:=hA zO;have aN:∀(v':Ob)(W':U),w6.ownsRow w1.heap.size 187 3 (F Av pre.length cv) pre.length (ZU ps)->W'.ownsRow w1.heap.size 187 3 v' (pre.length+1) (ZU ps++[M Y (h:Int),F (I ⟨b9,off,O⟩) ys.length c9,M Y (j:Int)])->w6.grownBy W' (Value.slice Av pre.length cv).ownBlock->(v'.ownBlock=(Value.slice Av pre.length cv).ownBlock\/∃g,v'.ownBlock=I g/\w6.heap.size<=g)->Below w1.heap.size w6 W' ->
    WyI 187 (λ_ _=>True) S (k,i,o) full w1.heap.size w1 v' (M Y (b':Int)) W'/\vx S (M Y (b':Int))<vx S (M Y (r:Int)):=λv' W' _ aU hg dO hB=>by
   obtain⟨A7,c7,rfl,-,-⟩:=qC aU;have hF:jE 187 w1 W' (F A7 (pre.length+1) c7) (pre++[(h,ys,j)]):=jE.push (s:=(h,ys,j)) xx6.size e0 iH.out dY.out hsx.out aU hg dO;exact⟨⟨h',b',zs,_,A7,c7,zA3,rfl,f8,f256,e4,e5,hfl,zA2,hF,Below.trans xx6 hB,trivial⟩,hms⟩
  have hit:∀W':U,w6.grownBy W' (Value.slice Av pre.length cv).ownBlock->W'.cell? (b9,off+j*5+3)=I (M Y (b':Int))/\W'.heap[w4.heap.size]?=I (J #[(h:Int),F (b9,off) ys.length c9] 113):=λW' hg=>by obtain⟨A',c',-,-,-,d3,-,-⟩:=(show Its W' W'.heap.size (F (I ⟨b9,off,O⟩) ys.length c9) ys by have:=hsx.out.its (bU.out W' hg);rw[dY.out]at this;exact this).item j mW;rw[e1]at d3;refine⟨d3,(hg.block _ (zG.1 rn6).1 λe=>?_).trans rn6⟩;have:=hBR.out _ e.symm;omega
  replace⟨aN,hit,dA,hh⟩:=zH4 aN hit dA hh;clear hA hfl hms e4 e5 aK hn dE hlv iH bU;have aI:(ie=Z/\p=j)\/(ie=Jx/\max (0:Int) ((p:Int)-1)=(j:Int)):=by unfold QG at hj;rw[dn,hp]at hj;cases ie;right;refine⟨rfl,?_⟩;simp only[Bool.false_eq_true,if_false]at hj;omega;left;exact⟨rfl,by simpa using hj⟩
  clear dn hp hj;rcases aI with⟨rfl,rfl⟩|⟨rfl,hmax⟩
  ·go_wp2_with (at_builtin;refine qV ?_);refine Qm.go (Zh w6 rfl (.tmp 39) (.tmp 43) 180 rfl w1.heap.size 187 i0 _ 3 40 underlying180 hi.out aZ aT aX rfl zA1 (F Av pre.length cv) pre.length (ZU ps) zE ho #[M Y (h:Int),F (I ⟨b9,off,O⟩) ys.length c9,M Y (p:Int)] zE rfl zA8 zO zA1 xx6.size ?_);intro v' W' aU hg hB dO;obtain⟨d3,rnW⟩:=hit.out W' hg;have knW:=qa rnW;have hF:=zH (aN.out v' W' ho aU hg dO hB);clear aN hit aU hg dO hB ho;go_wp2_with fail;exact hF.out
  go_wp2_with (at_builtin;refine qV ?_);refine Qm.go (Zh w6 rfl (.tmp 39) (.tmp 43) 180 rfl w1.heap.size 187 i0 _ 3 40 underlying180 hi.out aZ aT aX rfl zA1 (F Av pre.length cv) pre.length (ZU ps) zE ho #[M Y (h:Int),F (I ⟨b9,off,O⟩) ys.length c9,M Y (j:Int)] zE rfl zA8 zO zA1 xx6.size ?_);intro v' W' aU hg hB dO;obtain⟨d3,rnW⟩:=hit.out W' hg;have knW:=qa rnW;have hF:=zH (aN.out v' W' ho aU hg dO hB);clear aN hit aU hg dO hB ho;go_wp2_with fail;exact hF.out
def YP(s:Stp):Bool:=decide (s.2.1.length<5)
def ThinIx(l:List Stp)(u:Ob):Prop:=(∃j:Nat,u=M Y (j:Int)/\l.any YP=Z)\/(u=M Y (-1)/\l.any YP=Jx)
set_option maxRecDepth 100000 in
theorem qmL(lvl p:Int)(A n c)(w:U):Calls prog 175 #[.agg #[lvl,F A n c,p]] w (Ret (.bool (decide (n<5))) w):=by
 go_enter func175,ntmps175;by_cases h:n<5
 ·have h1:decide ((n:Int)<5)=Z:=decide_eq_true zO;rw[decide_eq_true h];replace h:=zH h;go_wp2;go_ret;exact⟨rfl,zN _ _⟩
 have h1:decide ((n:Int)<5)=Jx:=decide_eq_false zO;rw[decide_eq_false h];replace h:=zH h;go_wp2;go_ret;exact⟨rfl,zN _ _⟩
set_option maxRecDepth 100000 in
theorem qmM(v:Ob)(l:List Stp)(hl:l.length<=100)(w:U)(h:Yf w w v l):Calls prog 198 #[v,.func (.func 175) #[] #[]] w (zZ (λu _=>ThinIx l u) w):=by
 obtain⟨ps,bM,⟨A,c,rfl,dP,au,hr⟩,iH⟩:=h;have bz:ps.length=l.length:=by rw[<-bM,List.length_map]
 replace⟨hr,au⟩:=zH2 hr au;go_enter func198,ntmps198;go_wp2_with fail;go_loopw [8] (λi wr=>∃k:Nat,k<=l.length/\i=M Y (k:Int)/\Ext w wr/\(l.take k).any YP=Jx) (λi _=>l.length-(intOf i).toNat)
 case atStart=>exact⟨0,Nat.zero_le _,rfl,Ext.refl _,rfl⟩
 case round=>
  obtain⟨k,hk,rfl,xr,aj⟩:=hrel;replace aj:=zH aj;by_cases hlt:k<l.length
  ·obtain⟨bv,offv,rfl,hbv,aY⟩:=hr.out.2 zO;have hkp:k<ps.length:=zO;obtain⟨d0,d1,d2⟩:=kX ps k hkp;replace d0:=Ext.cell xr (aY _ _ d0);replace d1:=Ext.cell xr (aY _ _ d1);replace d2:=Ext.cell xr (aY _ _ d2);rw[<-Nat.add_assoc]at d1 d2;obtain⟨Ax,cx,hx2⟩:=(iH ps[k] (List.getElem_mem hkp)).1;have hxe:ps[k].1=l[k]:=by simp only[<-bM,List.getElem_map]
   rw[hx2,hxe]at d1;rw[hxe]at d0 d2;have HAT:=zH (λ(he:YP l[k]=Z)=>show l.any YP=Z from List.any_eq_true.2 ⟨l[k],List.getElem_mem hlt,he⟩);have HNO:=zH (λ(he:YP l[k]=Jx)=>show(l.take (k+1)).any YP=Jx by rw[List.take_succ_eq_append_getElem hlt,List.any_append,aj.out];simp[he]);unfold YP at HAT HNO;generalize l[k]=u at*;obtain⟨ul,uxs,up⟩:=u;dsimp only at d0 d1 d2 HAT HNO;clear aY hx2 hxe;have lV:=zH (IntWalk.wrap64_in ((k:Int)+1) zO);have hV:=qmL (ul:Int) (up:Int) Ax uxs.length cx wr;go_wp2_with fail;refine hV.mono ?_;rintro e w2 ⟨rfl,hB⟩;clear d0 d1 d2 hV;by_cases he:uxs.length<5
   ·rw[decide_eq_true he];have HQ:=zH (HAT.out (decide_eq_true he));clear HAT HNO;replace he:=zH he;go_wp2_with fail;refine bodyPost_ret (v:=M Y (k:Int)) ?_ rfl ⟨_,rfl,.inl ⟨k,rfl,HQ.out⟩,Ext.trans xr hB⟩;simp[results,results198,go_sem]
   rw[decide_eq_false he];have HQ:=zH (HNO.out (decide_eq_false he));clear HAT HNO;replace he:=zH he;have aA:=lV.out;go_wp2_with fail;refine⟨⟨k+1,hlt,rfl,Ext.trans xr hB,HQ.out⟩,?_⟩;simp[intOf];omega
  obtain rfl:k=l.length:=zO;have HQ:=zH (show l.any YP=Jx by have:=aj.out;rwa [List.take_length]at this);go_wp2_with fail;refine bodyPost_ret (v:=M Y (-1)) ?_ rfl ⟨_,rfl,.inr ⟨rfl,HQ.out⟩,xr⟩;simp[results,results198,go_sem]
set_option maxRecDepth 100000 in
theorem thin_any(v:Ob)(l:List Stp)(hl:l.length<=100)(w:U)(h:Yf w w v l):Calls prog 174 #[v,.func (.func 175) #[] #[]] w (Ret (.bool (l.any YP)) w):=by
 have HX:=qmM v l hl w h;clear h;go_enter func174,ntmps174;go_wp2_with fail;refine HX.mono ?_;rintro e w2 ⟨u,rfl,hu,hB⟩;rcases hu with⟨j,rfl,hj⟩|⟨rfl,hj⟩
 ·have hd:decide ((0:Int)<=(j:Int))=Z:=decide_eq_true zO;go_wp2_with fail;go_ret;exact⟨by rw[hj];rfl,hB⟩
 go_wp2_with fail;go_ret;exact⟨by rw[hj];rfl,hB⟩
set_option maxRecDepth 100000 in
theorem tall_any(v:Ob)(l:List Stp)(hl:l.length<=100)(tq:0<l.length)(k i o:Int)(hl5:∀s∈l,s.2.1.length<=5)(w:U)(h:Yf w w v l):Calls prog 128 #[v,Uh k i o] w (Ret (.bool (qbE (k,i,o) l)) w):=by
 have HT:=zH (λW (hx:Ext w W)=>thin_any v l hl W ((h.below hx).more hx.size));obtain⟨ps,bM,⟨A,c,rfl,dP,au,hr⟩,iH⟩:=h;have bz:ps.length=l.length:=by rw[<-bM,List.length_map]
 obtain⟨bv,offv,rfl,hbv,aY⟩:=hr.2 tq;obtain⟨m,hm⟩:∃m,l.length=m+1:=⟨l.length-1,zO⟩
 have hmp:m<ps.length:=zO;have yN:m<l.length:=zO;obtain⟨d0,d1,d2⟩:=kX ps m hmp;replace d0:=aY _ _ d0;replace d1:=aY _ _ d1;replace d2:=aY _ _ d2;rw[<-Nat.add_assoc]at d1 d2;obtain⟨⟨Ax,cx,hx2⟩,aG⟩:=iH ps[m] (List.getElem_mem hmp);have hxe:ps[m].1=l[m]:=by simp only[<-bM,List.getElem_map]
 rw[hx2,hxe]at d1 aG;rw[hxe]at d0;have hlast:l.getLast?=I l[m]:=by rw[List.getLast?_eq_getElem?,hm,Nat.add_sub_cancel];exact zL yN
 have hq:qbE (k,i,o) l=(decide (l.length=6)&&!(l.any YP)&&!(km l[m].2.1 (k,i,o))):=by unfold qbE;rw[hlast];simp only;congr 2;rw[Bool.eq_iff_iff];simp[List.all_eq_true,YP]
 have hu5:=hl5 l[m] (List.getElem_mem yN);rw[hq];generalize l[m]=u at*;obtain⟨ul,uxs,up⟩:=u;dsimp only at d0 d1 aG hu5⊢;have HP:=zH (λW (hx:Ext w W)=>qdg (ul:Int) Ax cx uxs k i o W hu5 ((aG.below hx).more hx.size));clear hq hlast aY hr hx2 hxe iH aG d2 bM;replace hm:=zH hm;generalize l.any YP=bt at*;generalize km uxs (k,i,o)=bi at*;generalize qF uxs (k,i,o)=pn at*;replace au:=zH au;go_enter func128,ntmps128;go_wp2_with fail;generalize aA:Q _ _=w1;have x1:Ext w w1:=aA▸zN _ _;have r1:w1.heap[w.heap.size]?=I (J #[M .u8 k,M .u32 i,M .u32 o] 49):=aA▸zI _ _ _ rfl;clear aA;refine(HT.out w1 x1).mono ?_;clear HT;rintro e w2 ⟨rfl,hB⟩;have x2:Ext w w2:=x1.trans hB;have r2:=qb r1 hB;clear r1 hB x1;go_upto_region 2 with fail;have g0:∀W,qm.r w2 W->W.cell? (bv,offv+m*3)=I (M Y (ul:Int)):=λW h=>Ext.cell (x2.trans h) d0;have g1:∀W,qm.r w2 W->W.cell? (bv,offv+m*3+1)=I (F Ax uxs.length cx):=λW h=>Ext.cell (x2.trans h) d1;have g2:∀W,qm.r w2 W->∀i_1,W.cell? ⟨w,i_1,O⟩=#[M .u8 k,M .u32 i,M .u32 o][i_1]?:=λW h=>qa (qb r2 h);clear d0 d1;have ig:=zH (show IntKind.i64.wrap ((l.length:Int)-1)=(m:Int)by rw[IntKind.wrap_i64];have:=hm.out;omega);refine qt zQ ?_;refine qY (w:=w2) qm (qP [(8,one (.tuple #[M Y (pn:Int),.bool bi]))]) (List.replicate 14 Z) 0 zQ zQ zQ zQ zQ zQ zQ ?st (Rel.drew _ _) ?walk
 case st=>exact qk (by simp only[List.forall_mem_cons];exact⟨qif _,λ_ h=>by cases h⟩)
 case walk=>
  intro K hK;dsimp only[qv,List.replicate];refine zB7 ?_;refine qd (Oa (I ⟨bv,offv+m*3,O⟩)) zA0 zA0 (λW hW _=>⟨W,?_,Rel.refl _ W⟩) ?_
  ·go_simp;rw[ig.out,if_pos zO];simp
  refine zB7 ?_;refine qH (one _) zA0 zA0 (λW hW _=>?_) (λ(_:Unit)=>?_)
  ·have bZ:Ext w2 W:=hW;refine Qk ?_ ((HP.out W (x2.trans bZ)).mono λe w' h=>⟨(),h.1,trivial,h.2⟩);go_simp
  refine zB7 ?_;refine qB (hK _ _ λW hW hF=>?_);clear hF hK;have hW:Ext w2 W:=hW;have xW:Ext w W:=x2.trans hW;refine zC4 ?_;go_wp2;refine Qq ?_;clear HP g0 g1 g2 r2;by_cases h6:l.length=6
  ·have e6:((l.length:Int)==6)=Z:=by rw[beq_iff_eq];omega
   have d6:=decide_eq_true h6;replace h6:=zH h6;cases bt
   ·cases bi;all_goals
     go_wp2_with fail;go_ret;exact⟨by rw[d6];rfl,xW⟩
   go_wp2_with fail;go_ret;exact⟨by rw[d6];rfl,xW⟩
  have e6:((l.length:Int)==6)=Jx:=by rw[beq_eq_false_iff_ne];omega
  have d6:=decide_eq_false h6;replace h6:=zH h6;go_wp2_with fail;go_ret;exact⟨by rw[d6];rfl,xW⟩
theorem GO(w:U)(g o la ca vg lb cb:Nat)(cur vcur:Array Ob)(hg:w.heap[g]?=I (J cur 51))(hv:w.heap[vg]?=I (J vcur 51))(aH:vg≠g)(h0:cur.size≠0)(vo:Nat):(callFunc 167 #[F (vg,vo) lb cb,F (g,o) la ca]).run prog w=.ok (.value (.bool Jx)) w:=by
 rw[run_callFunc_extern func167 zQ zQ zQ (e:=Extern.SlicesOverlaps.overlaps #[55,55] #[4]) zQ,
  Lib.run_overlaps_apart w 55 4 51 underlying55 5 (λw=>sizeOf51 w) ⟨vg,vo,O⟩ ⟨g,o,O⟩ lb cb la ca aH 51 51 vcur.size cur.size (by simp[World.shape?,hv]) (by simp[World.shape?,hg]) h0 (by simp[World.frozen?,hv]) (by simp[World.frozen?,hv])]
 rfl
set_option maxRecDepth 100000 in
theorem qjz(lo:Nat)(s:Ob)(n i:Nat)(xs:List Ob)(v:Ob)(m lov:Nat)(vs:List Ob)(w:U)(ho:w.ownsRow lo 51 5 s n xs)(hv:w.ownsRow lov 51 5 v m vs)(mJ:∀q,v.ownBlock=I q->s.ownBlock≠I q)(hm:0<m)(yO:n+m<=100)(hi:i<=n)(uY:∀u∈xs,u.oneCell'=Z)(og:∀u∈vs,u.oneCell'=Z)(aQ:lo<=w):Calls prog 166 #[s,(i:Int),v] w (vY lo s (n+m) (xs.take (i*5)++vs++xs.drop (i*5)) w):=by
 obtain⟨i0,lh,aZ,aT,aX⟩:=info_parts Tryz.info_item;have ax:=hv.1;have iG:=ho.1;obtain⟨vg,vcap,vcur,rfl,hNV,hvg,hvc,yX,hvs,hvt⟩:∃g cap cur,v=F (I ⟨g,0,O⟩) m cap/\lov<=g/\w.heap[g]?=I (J cur 51)/\m<=cap/\cap<=maxLen/\cur.size=cap*5/\cur.toList.take (m*5)=vs:=by
  rcases hv.2 with⟨_,h0⟩|h
  omega;exact h
 have fC:=Gg hv;have hm0:((m:Int)==0)=Jx:=by rw[beq_eq_false_iff_ne];omega
 have hrv:Rd w w 5 vg m vs:=Rd.of_own hv;by_cases hin:i=n
 ·subst hin;have hy:xs.take (i*5)++vs++xs.drop (i*5)=xs++vs:=by rw[List.take_of_length_le zO,List.drop_of_length_le zO,List.append_nil]
  rw[hy];have hd1:decide ((i:Int)=(i:Int))=Z:=decide_eq_true rfl;have hgo:∀A c,s=F A i c->(A=O\/∃g,A=I ⟨g,0,O⟩)->Calls prog 166 #[s,(i:Int),F vg m vcap] w (vY lo s (i+m) (xs++vs) w):=λA c hs hA=>by
   have hic:i<=c:=by obtain⟨A',c',e,h1,h2⟩:=qC ho;rw[hs]at e;cases e;exact h1
   subst hs;clear hvg hvs hvt fC hy;replace yX:=zH yX;have aN:∀(v':Ob)(w':U),w'.ownsRow lo 51 5 v' (i+m) (xs++vs)->w.grownBy w' (Value.slice A i c).ownBlock->Below lo w w'->vY lo (F A i c) (i+m) (xs++vs) w v' w':=λv' w' h1 h2 h3=>⟨v',rfl,h1,h3,λq hq hn=>h2.block q hq λe=>hn e.symm⟩
   replace aN:=zH aN;rcases hA with rfl|⟨g,rfl⟩
   ·go_enter func166,ntmps166;go_wp2_with (at_builtin;refine qV ?_);refine Qm.go (QB _ rfl (.tmp 23) (.tmp 24) 55 rfl lo 51 i0 _ 5 48 underlying55 lh aZ aT aX rfl zA1 _ i xs rfl ho w.heap.size _ m vcap vs zE hrv og zO zA1 aQ ?_);intro v' w' h1 h2 h3 _;go_wp2_with fail;go_ret;exact aN.out v' w' h1 h2 h3
   go_enter func166,ntmps166;by_cases hci:c=i
   ·subst hci;have hLW:c-c=0:=zO;go_wp2_with (at_builtin;refine qV ?_);refine Qm.go (QB _ rfl (.tmp 23) (.tmp 24) 55 rfl lo 51 i0 _ 5 48 underlying55 lh aZ aT aX rfl zA1 _ c xs rfl ho w.heap.size _ m vcap vs zE hrv og zO zA1 aQ ?_);intro v' w' h1 h2 h3 _;go_wp2_with fail;go_ret;exact aN.out v' w' h1 h2 h3
   have hLW:¬(c-i=0):=zO;go_wp2_with (at_builtin;refine qV ?_);refine Qm.go (QB _ rfl (.tmp 23) (.tmp 24) 55 rfl lo 51 i0 _ 5 48 underlying55 lh aZ aT aX rfl zA1 _ i xs rfl ho w.heap.size _ m vcap vs zE hrv og zO zA1 aQ ?_);intro v' w' h1 h2 h3 _;go_wp2_with fail;go_ret;exact aN.out v' w' h1 h2 h3
  rcases ho.2 with⟨e,h0⟩|⟨g,cap,cur,e,_⟩
  exact hgo O 0 (by rw[e,h0]) (.inl rfl);exact hgo _ cap e (.inr ⟨g,rfl⟩)
 obtain⟨g,cap,cur,rfl,dQ,hg,fQ,eP,ay,rQ⟩:∃g cap cur,s=F (I ⟨g,0,O⟩) n cap/\lo<=g/\w.heap[g]?=I (J cur 51)/\n<=cap/\cap<=maxLen/\cur.size=cap*5/\cur.toList.take (n*5)=xs:=by
  rcases ho.2 with⟨_,h0⟩|h
  omega;exact h
 have hlt:i<n:=zO;have hBD:((i:Int)==(n:Int))=Jx:=by rw[beq_eq_false_iff_ne];omega
 have hci:¬(cap=i):=zO;have hBX:vg≠g:=λe=>mJ vg rfl (by rw[e];rfl);have dV:(xs.drop (i*5)).length=(n-i)*5:=by rw[List.length_drop];omega
 have yY:∀u∈xs.drop (i*5),u.oneCell'=Z:=λu hu=>uY u (List.mem_of_mem_drop hu);have hsz:(Tryz.prog.info? 51).map (·.size)=I 5:=by rw[lh];simp[aT]
 have fV:∀W:U,W.heap[g]?=w.heap[g]?->∀j u,(xs.drop (i*5))[j]?=I u->W.cell? (((g,i*5):Addr).add j)=I u:=λW hW j u hu=>by rw[Addr.add_lit,qa (hW.trans hg),<-Array.getElem?_toList];rw[List.getElem?_drop,<-rQ,List.getElem?_take]at hu;split at hu;exact hu;cases hu
 have lU:∀W:U,W.heap[vg]?=w.heap[vg]?->∀j u,vs[j]?=I u->W.cell? ((vg:Addr).add j)=I u:=λW hW j u hu=>by rw[World.cell?_of_block (w:=w) (by rw[Addr.add_lit];exact hW)];exact fC j u hu
 have hgl:=(zG.1 hg).1;replace⟨eP,yX,uY,mJ⟩:=zH4 eP yX uY mJ;have hBY:=(zG.1 hvg).1;clear fC hrv ho hv;by_cases hcap:cap<n+m
 ·obtain⟨k,hk⟩:∃k,k=n+m-i:=⟨_,rfl⟩
  have eX:(n:Int)+(m:Int)-(i:Int)=((k:Nat):Int):=zO;obtain⟨C,hC⟩:∃C,C=grownCap w (i+k) cap 51:=⟨_,rfl⟩
  have hCge:i+k<=C:=by rw[hC];exact grownCap_ge w (i+k) cap _
  have hCm:C<=maxLen:=by rw[hC];exact grownCap_le_maxLen w (i+k) cap _ zA7
  obtain⟨cur0,lD⟩:∃cur0:Array Ob,cur0=(xs.take (i*5)).toArray++Builtin.zeroCells (Value.agg #[M .u8 0,M .u32 0,M .u32 0,M Y 0,F O 0 0]).cells k++Builtin.zeroCells (Value.agg #[M .u8 0,M .u32 0,M .u32 0,M Y 0,F O 0 0]).cells (C-(i+k)):=⟨_,rfl⟩
  have bH:∀ty,(Builtin.append_ #[55,3] ty #[F g i cap,M Y ((n:Int)+(m:Int)-(i:Int))]).run prog w=.ok (F w (i+k) C) (w.drew.alloc (J cur0 51)):=λty=>by
   rw[eX,hC,lD,hC];exact Lib.run_append_grow_zeros (P:=prog) w 55 3 ty 51 i0 _ Y Y underlying55 underlying3 lh aZ (I ⟨g,0,O⟩) i cap (xs.take (i*5)) (by
    rw[aT];exact run_firstCells_some w.drew 5 i ⟨g,0,O⟩ i cap (xs.take (i*5)) (by rw[List.length_take];omega) (λj u hu=>by
     rw[Addr.add_lit,Nat.zero_add];show w.cell? _=_;rw[qa hg,<-Array.getElem?_toList];rw[<-rQ,List.take_take,List.getElem?_take]at hu;split at hu;exact hu
     ·cases hu)) k zO zO zO zO (by rw[aX];omega) (by rw[aX];exact growslice_fits zO zO)
  have dX:cur0.size=C*5:=by rw[lD];simp only[Array.size_append,List.size_toArray,size_zeroCells,List.length_take];simp only[Value.cells,List.size_toArray,List.length_cons,List.length_nil];omega
  have yB:cur0.toList.take (i*5)=xs.take (i*5):=by
   rw[lD];simp only[Array.toList_append,List.append_assoc];have:i*5=(xs.take (i*5)).length:=by rw[List.length_take];omega
   rw[this];simp
  clear lD hC;have hsd:(i+k)=n+m:=zO;have aN:∀W:U,W.heap[w.heap.size]?=I (J (spl (spl cur0 i vs) (i+m) (xs.drop (i*5))) 51 (0,0))->Below lo w W->(∀q,q<w.heap.size->W.heap[q]?=w.heap[q]?)->vY lo (F g n cap) (n+m) (xs.take (i*5)++vs++xs.drop (i*5)) w (Oc (F w (i+k) C)) W:=λW h1 h2 h3=>by rw[hsd];refine⟨_,rfl,RowI.own ⟨_,h1,?_,?_⟩ ?_ aQ zO hCm,h2,λq hq _=>h3 q hq⟩;rw[QE (k:=n-i) dV (by rw[QE ax zO];omega),QE ax zO,dX];have e1:=KY yB ax zO;have e2:=KY e1 dV (by rw[QE ax zO];omega);rw[<-e2];congr 1;omega;simp only[List.length_append,List.length_take,dV,ax];omega
  replace⟨aN,yB⟩:=zH2 aN yB;clear eX;replace hk:=zH hk;have hiC:¬(C=i):=zO;have himC:¬(C=i+m):=zO;replace hCm:=zH hCm;go_enter func166,ntmps166;go_wp2_with (at_builtin;refine qV ?_);refine Qm.go (Lib.wpList_append_run _ rfl _ _ _ _ rfl _ _ rfl rfl _ _ (bH _) ?_);clear bH;generalize aA:Q _ _=w1;have p1:w1.heap[w.heap.size]?=I (J cur0 51):=aA▸zI _ _ _ rfl;have k1:∀q,q<w.heap.size->w1.heap[q]?=w.heap[q]?:=λq hq=>by rw[<-aA];exact zK _ _ _ hq
  have z1:w.heap.size<=w1:=by rw[<-aA];simp
  have B1:Below lo w w1:=aA▸Below.mono ((Ext.drew w).trans (zN _ _)) aQ;clear aA;have dm:∀ty,(Builtin.copy_ #[55,55] ty #[F (w,i*5) (n+m-i) (C-i),F vg m vcap]).run prog w1=.ok (M Y (m:Nat)) (w1.setRow w (spl cur0 i vs)):=λty=>
   jV (k:=m) (o:=i) p1 ax zO underlying55 hsz zA9 (lU w1 (k1 _ hBY)) og
  obtain⟨w2,cO⟩:∃w2,w2=w1.setRow w (spl cur0 i vs):=⟨_,rfl⟩
  rw[<-cO]at dm;have p2:w2.heap[w.heap.size]?=I (J (spl cur0 i vs) 51):=by rw[cO];exact setRow_heap _ _ _ _ _ _ p1
  have k2:∀q,q<w.heap.size->w2.heap[q]?=w.heap[q]?:=λq hq=>by rw[cO];exact(setRow_other _ _ _ _ zO).trans (k1 q hq)
  have z2:w.heap.size<=w2:=by rw[cO];simpa using z1
  have B2:Below lo w w2:=by rw[cO];exact Qv B1 aQ aQ _
  have s2:=QE (cur:=cur0) (o:=i) ax zO;clear cO p1 k1 z1;have dJ:∀W:U,Ext w2 W->∀ty,(Builtin.copy_ #[55,55] ty #[F (w,(i+m)*5) (n+m-(i+m)) (C-(i+m)),F (g,i*5) (n-i) (cap-i)]).run prog W=.ok (M Y ((n-i:Nat):Int)) (W.setRow w (spl (spl cur0 i vs) (i+m) (xs.drop (i*5)))):=λW hW ty=>
   jV (k:=n-i) (o:=i+m) (qb p2 hW) dV zO underlying55 hsz zA9 (fV W ((Below.block hW g zO).trans (k2 _ hgl))) yY
  have ak:∀W:U,Ext w2 W->vY lo (F g n cap) (n+m) (xs.take (i*5)++vs++xs.drop (i*5)) w (Oc (F w (n+m) C)) (W.setRow w (spl (spl cur0 i vs) (i+m) (xs.drop (i*5)))):=λW hW=>by have:=aN.out (W.setRow w.heap.size (spl (spl cur0 i vs) (i+m) (xs.drop (i*5)))) (setRow_heap _ _ _ _ _ _ (qb p2 hW)) (Qv (B2.trans (Below.mono hW zO)) aQ aQ _) (λq hq=>(setRow_other _ _ _ _ zO).trans ((Below.block hW q zO).trans (k2 q hq)));rw[hsd]at this;exact this
  replace⟨ak,dJ⟩:=zH2 ak dJ;clear aN;have hOC:=zH (show IntKind.i64.wrap ((i:Int)+(m:Int))=((i+m:Nat):Int)by rw[IntKind.wrap_i64];omega);have him:(0:Int)<=(i:Int)+(m:Int):=zO;have himt:((i:Int)+(m:Int)).toNat=i+m:=zO;go_upto_region 11 with(simp only[dm])
  refine qt zQ ?_;refine qY (w:=w2) qm (qP []) (List.replicate 8 Z) 1 zQ zQ zQ zQ zQ zQ zQ ?st (Rel.drew _ _) ?walk
  case st=>exact qk (λ_ h=>by cases h)
  case walk=>
   intro K hK;dsimp only[qv,List.replicate];refine zB7 ?_;refine qd (F (I ⟨w.heap.size,(i+m)*5,O⟩) (n+m-(i+m)) (C-(i+m))) zA0 zA0 (λW hW _=>⟨W,?_,Rel.refl _ W⟩) ?_
   ·go_simp;rw[hOC.out,Int.toNat_natCast,if_pos zO,if_neg zO]
   refine zB7 ?_;refine qB (hK _ _ λW hW hF=>?_);clear hF hK;have hW:Ext w2 W:=hW;refine zC4 ?_;have au:=dJ.out W hW;go_wp2_with (simp only[au]);refine Qq ?_;go_wp2_with fail;go_ret;exact ak.out W hW
 have hov:∀la ca lb cb,(callFunc 167 #[F vg lb cb,F (g,(i+m)*5) la ca]).run prog w=.ok (.value (.bool Jx)) w:=λla ca lb cb=>GO w g _ la ca vg lb cb cur vcur hg hvg hBX zO 0;go_enter func166,ntmps166;go_upto_region 15 with(simp only[hov])
 have hJX:(n+m)*5<=cur.size:=zO;have dm:∀W:U,Ext w W->∀ty dc sc,(Builtin.copy_ #[55,55] ty #[F (g,(i+m)*5) (n+m-(i+m)) dc,F (g,i*5) (n+m-i) sc]).run prog W=.ok (M Y ((n-i:Nat):Int)) (W.setRow g (spl cur (i+m) (xs.drop (i*5)))):=λW hW ty dc sc=>
  jV (k:=n-i) (o:=i+m) (qb hg hW) dV zO underlying55 hsz zA9 (fV W (Below.block hW g hgl)) yY
 have s1:=QE (cur:=cur) (o:=i+m) dV zO;have dJ:∀W:U,Ext w W->∀ty dc,(Builtin.copy_ #[55,55] ty #[F (g,i*5) (n+m-i) dc,F vg m vcap]).run prog (W.setRow g (spl cur (i+m) (xs.drop (i*5))))=.ok (M Y (m:Nat)) ((W.setRow g (spl cur (i+m) (xs.drop (i*5)))).setRow g (spl (spl cur (i+m) (xs.drop (i*5))) i vs)):=λW hW ty dc=>
  jV (k:=m) (o:=i) (setRow_heap _ _ _ _ _ _ (qb hg hW)) ax zO underlying55 hsz zA9 (lU _ ((setRow_other _ _ _ _ hBX).trans (Below.block hW vg hBY))) og
 have aN:∀W:U,Ext w W->vY lo (F g n cap) (n+m) (xs.take (i*5)++vs++xs.drop (i*5)) w (Oc (F g (n+m) cap)) ((W.setRow g (spl cur (i+m) (xs.drop (i*5)))).setRow g (spl (spl cur (i+m) (xs.drop (i*5))) i vs)):=λW hW=>by refine⟨_,rfl,RowI.own ⟨_,setRow_heap _ _ _ _ _ _ (setRow_heap _ _ _ _ _ _ (qb hg hW)),?_,?_⟩ ?_ dQ zO eP.out,Qv (Qv (Below.mono hW aQ) aQ dQ _) aQ dQ _,λq hq hn=>?_⟩;rw[QE ax zO,s1,ay];exact qmK rQ iG ax hi hJX;simp only[List.length_append,List.length_take,dV,ax];omega;have:q≠g:=λe=>hn (by rw[e];rfl);exact(setRow_other _ _ _ _ this).trans ((setRow_other _ _ _ _ this).trans (Below.block hW q hq))
 replace⟨aN,dJ,dm⟩:=zH3 aN dJ dm;have hOC:=zH (show IntKind.i64.wrap ((i:Int)+(m:Int))=((i+m:Nat):Int)by rw[IntKind.wrap_i64];omega);clear hov fV lU;refine qt zQ ?_;refine qY (w:=w) qm (qP []) (List.replicate 8 Z) 1 zQ zQ zQ zQ zQ zQ zQ ?st (Rel.drew _ _) ?walk
 case st=>exact qk (λ_ h=>by cases h)
 case walk=>
  intro K hK;dsimp only[qv,List.replicate];refine zB7 ?_;refine qd (F (I ⟨g,(i+m)*5,O⟩) (n+m-(i+m)) (cap-(i+m))) zA0 zA0 (λW hW _=>⟨W,?_,Rel.refl _ W⟩) ?_
  ·go_simp;rw[hOC.out,Int.toNat_natCast,if_pos zO,if_neg zO]
  refine zB7 ?_;refine qd (F (I ⟨g,i*5,O⟩) (n+m-i) (cap-i)) zA0 zA0 (λW hW _=>⟨W,?_,Rel.refl _ W⟩) ?_
  ·go_simp;intro hx;exfalso;omega
  refine zB7 ?_;refine qB (hK _ _ λW hW hF=>?_);clear hF hK;have hW:Ext w W:=hW;refine zC4 ?_;have dP:=dm.out W hW;have au:=dJ.out W hW;have tN:=zH (aN.out W hW);generalize World.setRow (World.setRow W _ _) _ _=wf at*;generalize World.setRow W _ _=wm at*;go_wp2_with (simp only[dP]);refine Qq ?_;go_wp2_with (simp only[au]);go_ret;exact tN.out
end Go.Proofs.YtmeadnlmepcmbaaGreat
