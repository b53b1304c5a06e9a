/- Lemmas of the proof. -/
import Derived.Test.YtmeadnlmepcmbaaGreatZG16
set_option linter.all false
set_option maxHeartbeats 8000000
open Go.Proofs.Tryz
namespace Go.Proofs.YtmeadnlmepcmbaaGreat
open Go.RowKit
def jJ(S:Sto)(next:Int)(v:Vol)(vs:List Vol)(refs:Nat->Nat):Int:=if v.id=0\/next<=v.id\/v.root<8\/256<=v.root then 2 else if(jf vs v.id).isSome=false/\16<=vs.length then 9 else
 if Jh S v.root.toNat<=refs v.root.toNat then 6 else if okL S (-1) v.root=true then 0 else 8
def FAskQ(S:Sto)(root next:Int)(dead:List Int)(v:Vol)(w:World)(e:Ending)(w':World):Prop:=Below w.heap.size w w' /\
 ((e=.returned (.int .i64 8)/\ZC S root next dead) \/
  ∃vs refs nodes,QR S root next dead vs/\Qz S (QJ root dead vs) refs nodes/\ZS S refs/\e=.returned (.int .i64 (jJ S next v vs refs)))
theorem Vw{R:Ending->World->Prop}{a:Act}{W:World}{u:Value}(h4:a.tmps[4]?.getD undef=u)(hd:a.defers=[])(hR:R (.returned u) W):bodyPost prog Tryz.f64 R .ret a W:=by refine bodyPost_ret (v:=u) ?_ hd hR;simp[results,results64,go_sem,h4]
theorem vols_len{S:Sto}{root next:Int}{dead:List Int}{vs:List Vol}(h:QR S root next dead vs):vs.length<=16:=by
 have hv:=h.vols;unfold vI at hv;split at hv
 ·cases hv
 ·exact Kn _ _ _ _ zA3 hv
set_option maxRecDepth 100000 in
theorem qih(A1 n1 c1 A2 n2 c2 A3 n3 c3 A4 n4 c4)(gen root next:Int)(A5 c5)(S:Sto)(dead:List Int)(v:Vol)(hT:8<=v.root->v.root<256->Jh S v.root.toNat≠0->okL S (-1) v.root=true)(w:World)(h:Qq w w.heap.size (.slice A1 n1 c1) (.slice A2 n2 c2) (.slice A3 n3 c3) (.slice A4 n4 c4) S)(hd:jH w w.heap.size (.slice A5 dead.length c5) dead):Calls prog 64 #[.agg (Qk (.slice A1 n1 c1) (.slice A2 n2 c2) (.slice A3 n3 c3) (.slice A4 n4 c4) gen root next (.slice A5 dead.length c5)),VR v] w (FAskQ S root next dead v w):=by
 have HT:=zH (λW (hx:Ext w W)=>Gr A1 n1 c1 A2 n2 c2 A3 n3 c3 A4 n4 c4 gen root next A5 c5 S dead W (h.ext hx) (hd.ext_ hx));have HC:=zH (λ(hS:qm S=true) a hT W (hx:Ext w W)=>YE A1 n1 c1 A2 n2 c2 A3 n3 c3 A4 n4 c4 S hS a hT W (h.ext hx));replace⟨h,hT⟩:=zH2 h hT;clear hd;go_enter func64,ntmps64;go_wp2_with fail;generalize hw1:(World.alloc (World.alloc w _) _)=w1;have x1:Ext w w1:=by rw[<-hw1];exact(zN _ _).trans (zN _ _)
 have rp1:w1.heap[w.heap.size]?=some (.cells (Qk (.slice A1 n1 c1) (.slice A2 n2 c2) (.slice A3 n3 c3) (.slice A4 n4 c4) gen root next (.slice A5 dead.length c5)) 32 (0,0)):=by rw[<-hw1];exact(zK _ _ _ zA3).trans (zI _ _ _ rfl)
 have rv1:w1.heap[w.heap.size+1]?=some (.cells #[.int .u32 v.id,.int .i64 v.root,.bool v.fz,.int .u32 v.frm] 36 (0,0)):=by rw[<-hw1];exact zI _ _ _ zA3
 clear hw1;refine(HT.out w1 x1).mono ?_;clear HT;rintro e w2 ⟨hB,hQ⟩;have x2:Ext w w2:=Ext.trans x1 hB;have rp2:=qb rp1 hB;have rv2:=qb rv1 hB;have kp2:=qa rp2;have kv2:=qa rv2;clear hB x1 rp1 rv1;rcases hQ with⟨rfl,hno⟩|⟨vs,refs,nodes,cb,ca,vv,rfl,hTk⟩
 ·replace hno:=zH hno;go_wp2_with fail;exact Vw rfl rfl ⟨x2,.inl ⟨rfl,hno.out⟩⟩
 ·have hvs:=vols_len hTk.pool;have hQ:=λE (hh:jJ S next v vs refs=E) W (hx:Ext w W)=>(⟨hx,.inr ⟨vs,refs,nodes,hTk.pool,hTk.cnt,hTk.enough,by rw[hh]⟩⟩:FAskQ S root next dead v w (.returned (.int .i64 E)) W)
  replace hQ:=zH hQ;obtain⟨AV,cV,rfl,wQX,wQY⟩:=qG hTk.own;have kc:w2.cell? ⟨cb,518,none⟩=some (.slice AV vs.length cV):=by rw[qa hTk.row];exact hTk.ar.vol
  have HH:=zH (vhas_any AV cV vs hvs (w.heap.size+1) v.id _ _ _ w2 rv2 (Rd.of_own hTk.own));replace hTk:=zH hTk;by_cases h1:v.id=0
  ·have d1:(v.id==0)=true:=by rw[beq_iff_eq];exact h1
   have hE:=zH (show jJ S next v vs refs=2 by unfold jJ;rw[if_pos (.inl h1)]);replace h1:=zH h1;go_wp2_with fail;exact Vw rfl rfl (hQ.out _ hE.out _ x2)
  have d1:(v.id==0)=false:=by rw[beq_eq_false_iff_ne];exact h1
  by_cases h2:next<=v.id
  ·have d3:decide (v.id≥next)=true:=decide_eq_true h2;have hE:=zH (show jJ S next v vs refs=2 by unfold jJ;rw[if_pos (.inr (.inl h2))]);replace⟨h1,h2⟩:=zH2 h1 h2;go_wp2_with fail;exact Vw rfl rfl (hQ.out _ hE.out _ x2)
  have d3:decide (v.id≥next)=false:=decide_eq_false h2;by_cases h3:v.root<8
  ·have d5:decide (v.root<8)=true:=decide_eq_true h3;have hE:=zH (show jJ S next v vs refs=2 by unfold jJ;rw[if_pos (.inr (.inr (.inl h3)))]);replace⟨h1,h2,h3⟩:=zH3 h1 h2 h3;go_wp2_with fail;exact Vw rfl rfl (hQ.out _ hE.out _ x2)
  have d5:decide (v.root<8)=false:=decide_eq_false h3;by_cases h4:256<=v.root
  ·have d6:decide (v.root≥256)=true:=decide_eq_true h4;have hE:=zH (show jJ S next v vs refs=2 by unfold jJ;rw[if_pos (.inr (.inr (.inr h4)))]);replace⟨h1,h2,h3,h4⟩:=zH4 h1 h2 h3 h4;go_wp2_with fail;exact Vw rfl rfl (hQ.out _ hE.out _ x2)
  have d6:decide (v.root≥256)=false:=decide_eq_false h4;have d7:decide (256<=v.root)=false:=decide_eq_false h4;have hE1:=zH (show jJ S next v vs refs=if(jf vs v.id).isSome=false/\16<=vs.length then 9 else if Jh S v.root.toNat<=refs v.root.toNat then 6 else if okL S (-1) v.root=true then 0 else 8 by unfold jJ;rw[if_neg (by rintro(h|h|h|h);exact h1 h;exact h2 h;exact h3 h;exact h4 h)]);obtain⟨r,hr⟩:∃r:Nat,v.root=(r:Int):=⟨v.root.toNat,zO⟩
  have hr8:8<=r:=zO;have hSY:r<256:=zO;have hto:v.root.toNat=r:=zO;rw[hr]at rv2 kv2 d5 d6 d7;rw[hto]at hE1 hT;have hT2:=zH (hT.out zO zO);clear hT h3 h4 hto;replace⟨h1,h2,hr⟩:=zH3 h1 h2 hr;go_wp2_with fail;refine HH.out.mono ?_;clear HH;rintro e w3 ⟨rfl,hB⟩;have x3:Ext w w3:=Ext.trans x2 hB;have rp3:=qb rp2 hB;have rv3:=qb rv2 hB;have kc3:=Ext.cell hB kc;have rc3:=qb hTk.out.row hB;clear rp2 rv2 kp2 kv2 kc x2 hB;have wFP:Hid ((jf vs v.id).isSome=(jf vs v.id).isSome):=zH rfl;generalize(jf vs v.id).isSome=there at*;have wJQ:Hid (there=false/\16<=vs.length\/¬(there=false/\16<=vs.length)):=zH (Classical.em _);rcases wJQ.out with⟨rfl,h16⟩|h16
  ·have e1:decide ((vs.length:Int)≥16)=true:=decide_eq_true zO;have hE:=zH (show jJ S next v vs refs=9 by rw[hE1.out,if_pos ⟨rfl,h16⟩]);replace h16:=zH h16;clear wJQ;go_wp2_with fail;exact Vw rfl rfl (hQ.out _ hE.out _ x3)
  have hE2:=zH (show jJ S next v vs refs=if Jh S r<=refs r then 6 else if okL S (-1) v.root=true then 0 else 8 by rw[hE1.out,if_neg h16]);have HB:there=true\/(there=false/\decide ((vs.length:Int)≥16)=false/\decide (16<=vs.length)=false):=by
   cases there
   ·right;have:¬16<=vs.length:=λh=>h16 ⟨rfl,h⟩;exact⟨rfl,decide_eq_false zO,decide_eq_false this⟩
   ·exact .inl rfl
  clear hE1 wJQ h16;obtain⟨b3,o3,d3',e3,hb3,hAL⟩:=qiH hTk.out.pool.may h.out.now;simp only[Value.slice.injEq]at e3;obtain⟨rfl,rfl,rfl⟩:=e3;have hcn:=Ext.cell x3 (hAL r hSY);have hrf:=(qa rc3 (6+r)).trans (hTk.out.ar.ref r hSY);have hwn:=zH (IntWalk.wrap64_in (Jh S r:Int) (by have:=(S.now[r]?.getD 0).toNat_lt;unfold Jh;omega));have hwn2:=zH (show IntKind.i64.wrap (Jh S r:Int)=(Jh S r:Int)by rw[IntKind.wrap_i64];have:=(S.now[r]?.getD 0).toNat_lt;unfold Jh;omega);have HCK:=zH (λ(hne:Jh S r≠0) W (hx:Ext w W)=>by
   obtain⟨a,ha,ht⟩:=Zs (hT2.out hne);obtain rfl:r=a:=by have:=hr.out;omega
   exact HC.out hTk.out.pool.may r ht W hx)
  clear hAL HC;generalize hnw:Jh S r=nw at*;generalize hrfe:refs r=rf at*;replace⟨hnw,hrfe⟩:=zH2 hnw hrfe;have gP:∀W,qj.r w3 W->∀i,W.cell? ⟨w.heap.size,i,none⟩=(Qk (.slice A1 n1 c1) (.slice A2 n2 c2) (.slice (some ⟨b3,o3,none⟩) 256 c3) (.slice A4 n4 c4) gen root next (.slice A5 dead.length c5))[i]?:=λW h=>qa (qb rp3 h);have gV:∀W,qj.r w3 W->∀i,W.cell? ⟨w.heap.size+1,i,none⟩=#[.int .u32 v.id,.int .i64 (r:Int),.bool v.fz,.int .u32 v.frm][i]?:=λW h=>qa (qb rv3 h);have gN:∀W,qj.r w3 W->W.cell? ⟨b3,o3+r,none⟩=some (.int .u8 (nw:Int)):=λW h=>Ext.cell h hcn;have gR:∀W,qj.r w3 W->W.cell? ⟨cb,6+r,none⟩=some (.int .i64 (rf:Int)):=λW h=>Ext.cell h hrf;clear rc3;rcases HB with rfl|⟨rfl,e1,e2⟩
  all_goals
   go_upto_region 9 with fail;refine qt zQ ?_;refine qX (w:=w3) qj (qQ []) (List.replicate 16 true) 0 zQ zQ zQ zQ zQ zQ zQ ?st (Rel.drew _ _) ?walk
   case st=>exact qi (λ_ h=>by cases h)
   case walk=>
    intro K hK;dsimp only[qw,List.replicate];have hw':=hwn.out;have hMU:=hwn2.out;refine zB7 ?_
    first
     |(refine qd (.pointer (some ⟨b3,o3+r,none⟩)) zA0 zA0 (λW hW _=>⟨W,?_,Rel.refl _ W⟩) ?_
       ·go_simp;intro hge;exfalso;omega
       simp only[Act.put,qe,qc,qf,zA,zB,zC])
     |skip
    refine zB7 ?_
    first
     |(refine qd (.pointer (some ⟨cb,6+r,none⟩)) zA0 zA0 (λW hW _=>⟨W,?_,Rel.refl _ W⟩) ?_
       ·go_simp;intro hge;exfalso;omega
       simp only[Act.put,qe,qc,qf,zA,zB,zC])
     |skip
    refine zB7 ?_;refine qD (hK _ _ λV hV hF=>?_);clear hF hK gP gV gN gR;have hV:Ext w3 V:=hV;refine zC4 ?_;have x4:=x3.trans hV;have kp4:=qa (qb rp3 hV);have kv4:=qa (qb rv3 hV);clear rp3 rv3 hw';clear hMU;go_wp2;refine Qn ?_;by_cases hle:nw<=rf
    ·have f1:decide ((nw:Int)<=(rf:Int))=true:=decide_eq_true zO;have hE:=zH (show jJ S next v vs refs=6 by rw[hE2.out,if_pos hle]);replace hle:=zH hle;go_wp2_with fail;exact Vw rfl rfl (hQ.out _ hE.out _ x4)
    ·have f1:decide ((nw:Int)<=(rf:Int))=false:=decide_eq_false zO;have hE:=zH (show jJ S next v vs refs=0 by rw[hE2.out,if_neg hle,if_pos (hT2.out zO)]);have HC4:=zH (HCK.out zO V x4);replace hle:=zH hle;clear HCK;go_wp2_with fail;refine HC4.out.mono ?_;clear HC4;rintro e w5 ⟨u,rfl,⟨m,rfl⟩,hB⟩;go_wp2_with fail;exact Vw rfl rfl (hQ.out _ hE.out _ (x4.trans hB))
def jC:qZ:=⟨Unit,λ_=>undef,λ_ _=>True⟩
theorem qJ(u:Unit):jC.f u=undef:=rfl
theorem jw{R:Rel}:∀p,qS R (jC.φ p):=λ_ _ _ _ _=>trivial
theorem KB{P:Program}{o:Oper}{a:Act}{W W':World}(hr:(execOp a.eval o).run P W=.ok .skip W')(hx:Ext W W'):Qr qj P o a W jC:=Jr hr ⟨(),rfl,trivial,hx⟩
theorem qep{w:World}{b:Nat}{x0:Value}{ty:TypeId}(h:w.heap[b]?=some (.cells #[x0] ty (0,0))):Ext w (w.setCell ⟨b,0,none⟩ x0):=ZF h rfl
theorem same4{w:World}{b:Nat}{x0 x1 x2 x3:Value}{ty:TypeId}(h:w.heap[b]?=some (.cells #[x0,x1,x2,x3] ty (0,0))):Ext w ((((w.setCell ⟨b,0,none⟩ x0).setCell ⟨b,1,none⟩ x1).setCell ⟨b,2,none⟩ x2).setCell ⟨b,3,none⟩ x3):=by have e0:=ZF (j:=0) (v:=x0) h rfl;have h0:=qb h e0;have e1:=ZF (j:=1) (v:=x1) h0 rfl;have h1:=qb h0 e1;have e2:=ZF (j:=2) (v:=x2) h1 rfl;have h2:=qb h1 e2;exact((e0.trans e1).trans e2).trans (ZF (j:=3) (v:=x3) h2 rfl)
def JU(B:Nat)(ty:TypeId)(Φ:Array Value->World->Prop)(hΦ:∀cs W W',W.grownBy W' (some B)->Φ cs W->Φ cs W'):Rel where
 rel W W':=W.grownBy W' (some B)/\(B<W.heap.size->W'.heap[B]?=W.heap[B]?\/∃cs,W'.heap[B]?=some (.cells cs ty (0,0))/\Φ cs W')
 refl' W:=⟨World.grownBy.refl _ _,λ_=>.inl rfl⟩
 trans' h k:=⟨h.1.trans k.1,λhb=>by
  rcases k.2 (Nat.lt_of_lt_of_le hb h.1.size)with e|e
  ·rw[e];rcases h.2 hb with e1|⟨cs,e1,e2⟩
   ·exact .inl e1
   ·exact .inr ⟨cs,e1,hΦ _ _ _ k.1 e2⟩
  ·exact .inr e⟩
 drew' W:=⟨⟨rfl,rfl,rfl,zM _,λ_ _ _=>rfl⟩,λ_=>.inl rfl⟩
section
variable {B:Nat} {ty:TypeId} {Φ:Array Value->World->Prop} {hΦ:∀ cs W W',W.grownBy W' (some B)->Φ cs W->Φ cs W'}
theorem qcB{W W':World}(h:Ext W W'):(JU B ty Φ hΦ).r W W':=⟨ZD h _,λhb=>.inl (h.block B hb)⟩
theorem ji{W W':World}(h:(JU B ty Φ hΦ).r W W'){b:Nat}{o:Obj}(hp:b≠B)(hc:W.heap[b]?=some o):W'.heap[b]?=some o:=
 (h.1.block b (zG.1 hc).1 (λx=>hp (by simpa using x))).trans hc
theorem qcC{W W':World}(h:(JU B ty Φ hΦ).r W W'){o:Obj}(hc:W.heap[B]?=some o):W'.heap[B]?=some o\/∃cs,W'.heap[B]?=some (.cells cs ty (0,0))/\Φ cs W':=by
 have:=h.2 (zG.1 hc).1
 rwa [hc]at this
theorem VZ{W W':World}{B0:Nat}(h:(JU B ty Φ hΦ).r W W')(h1:B0<=B)(h2:B0<=W.heap.size):Below B0 W W':=(Below.refl _ _).grown h.1 h2 (λg hg=>by simp at hg;omega)
theorem YV{W W':World}(h:(JU B ty Φ hΦ).r W W'){k:Nat}(hk:k<W.heap.size)(hp:k≠B):W'.heap[k]?=W.heap[k]?:=h.1.block k hk λx=>hp (by simpa using x)
theorem TF{lo:Nat}{S:Sto}(hB:B<lo):∀p,qS (JU B ty Φ hΦ) ((qed lo S).φ p):=λp W W' he h=>
 zp.keep h (zM _) he.1.size λb h1 hb=>YV he hb zO
def KG(B:Nat)(ty:TypeId)(Φ:Array Value->World->Prop):qZ:=⟨Unit,λ_=>undef,λ_ W=>∃cs,W.heap[B]?=some (.cells cs ty (0,0))/\Φ cs W⟩
theorem qI(u:Unit):(KG B ty Φ).f u=undef:=rfl
theorem XO:∀p,qS (JU B ty Φ hΦ) ((KG B ty Φ).φ p):=λ_ W W' he ⟨cs,h1,h2⟩=>by
 rcases qcC he h1 with e|e
 ·exact⟨cs,e,hΦ _ _ _ he.1 h2⟩
 ·exact e
theorem qgA{P:Program}{o:Oper}{a:Act}{W w':World}{cs:Array Value}(hr:(execOp a.eval o).run P W=.ok .skip w')(hg:W.grownBy w' (some B))(hw:w'.heap[B]?=some (.cells cs ty (0,0)))(hp:Φ cs W):Qr (JU B ty Φ hΦ) P o a W (KG B ty Φ):=
 Jr hr ⟨(),rfl,⟨cs,hw,hΦ _ _ _ hg hp⟩,hg,λ_=>.inr ⟨cs,hw,hΦ _ _ _ hg hp⟩⟩
end
def Za(lo:Nat)(S:Sto)(cs:Array Value)(W:World):Prop:=∃x0 x1 x2 x3,cs=#[x0,x1,x2,x3]/\zp lo S (.agg cs) W
theorem Za.keep{lo:Nat}{S:Sto}{B:Nat}(hB:B<lo):∀cs W W',W.grownBy W' (some B)->Za lo S cs W->Za lo S cs W':=λcs W W' hg h=>by obtain⟨x0,x1,x2,x3,e,hT⟩:=h;exact⟨x0,x1,x2,x3,e,zp.keep hT (zM _) hg.size λk h1 hk=>hg.block k hk λe=>by simp at e;omega⟩
theorem qau{P:Program}{o:Oper}{a:Act}{W:World}{lo B:Nat}{S:Sto}{ty:TypeId}{x0 x1 x2 x3:Value}(hB:B<lo)(h:∃u0 u1 u2 u3,W.heap[B]?=some (.cells #[u0,u1,u2,u3] ty (0,0)))(hT:zp lo S (.agg #[x0,x1,x2,x3]) W)(hr:(execOp a.eval o).run P W=.ok .skip ((((W.setCell ⟨B,0,none⟩ x0).setCell ⟨B,1,none⟩ x1).setCell ⟨B,2,none⟩ x2).setCell ⟨B,3,none⟩ x3)):Qr (JU B ty (Za lo S) (Za.keep hB)) P o a W (KG B ty (Za lo S)):=by
 obtain⟨u0,u1,u2,u3,h⟩:=h;exact qgA hr (QI.trans (QI.trans (QI.trans QI))) (qcv h x0 x1 x2 x3) ⟨x0,x1,x2,x3,rfl,hT⟩
theorem qhx{W W':World}{lo B:Nat}{S:Sto}{ty:TypeId}(hB:B<lo){u0 u1 u2 u3:Value}(h:(JU B ty (Za lo S) (Za.keep hB)).r W W')(hc:W.heap[B]?=some (.cells #[u0,u1,u2,u3] ty (0,0))):∃u0 u1 u2 u3,W'.heap[B]?=some (.cells #[u0,u1,u2,u3] ty (0,0)):=by
 rcases qcC h hc with e|⟨cs,e,x0,x1,x2,x3,rfl,_⟩
 ·exact⟨_,_,_,_,e⟩
 ·exact⟨_,_,_,_,e⟩
end Go.Proofs.YtmeadnlmepcmbaaGreat
namespace Go.Proofs.YtmeadnlmepcmbaaGreat
open Go.RowKit Go.Shelf
attribute [local go_sem] Oper.semAt_some
theorem qcy{n b D:Nat}{v:Value}{R:Ending->World->Prop}{a:Act}{W:World}(h4:a.tmps[4]?.getD undef=.pointer (some ⟨b+1+1,0,none⟩))(hd:a.defers=[{target:=.collected D,args:=#[]}])(hK:W.heap[D]?=some (.deferred (some [])))(hD:b+2<D)(hB:W.heap[b+2]?=some (.cells #[v] 26 (0,0)))(hR:∀W',W'=W.putObj D (.deferred none)->R (.returned v) W'):bodyPostM Fence.wide n prog Tryz.f137 R .ret a W:=by
 have k4:=qa ((World.putObj_heap_other (o:=.deferred none) (show b+2≠D by omega)).trans hB);change LeavesInM Fence.wide n prog Tryz.f137 a.tmps R a.defers .returning W;rw[hd];refine⟨zA3,.inl ⟨_,_,rfl,run_takeDeferred hK,v,?_,hR _ rfl⟩⟩;simp[results,results137,go_sem,h4,k4]
set_option maxRecDepth 100000 in
theorem qlm(A1 n1 c1 A2 n2 c2)(S:Sto)(hS:qm S=true)(m:Nat)(hm:m<256)(w:World)(hb:Bls w w.heap.size (.slice A1 n1 c1) S.bs)(hw:Wrs w w.heap.size (.slice A2 n2 c2) S.ws):Calls prog 137 #[Xu A1 n1 c1 A2 n2 c2,.int .i64 (m:Int)] w (zm (λu W=>Bys W W.heap.size u (jW S m)) w):=by
 obtain⟨hl1,hl2,hl3,hl4⟩:=Qb hS;have hbl:=jF hS;have hMK:jW S m=match jA S.ws m with|some l=>l|none=>S.bs[m]:=by unfold jW;rw[zL zO];rfl
 obtain⟨hn1,hc1,hm1,hA1⟩:=hb.at_;obtain⟨b1,o1,rfl,hb1⟩:=hA1 zO;obtain⟨A0,c0,hcb,wGL⟩:=hb.get (bs:=S.bs) m zO;have wRX:n1=256:=by rw[hn1,hl1]
 generalize S.bs[m]=l0 at*;generalize jW S m=l at*;generalize hwsE:S.ws=ws at*;obtain⟨ps,hps,⟨A2',c2',e2,hw1,hw2,hw3⟩,hw4⟩:=hw;rw[<-hps]at hMK e2 hw1 hw3 hl2;clear hn1 hS hl1 hl3 hl4 hA1 hbl hwsE hb;subst wRX;simp only[Value.slice.injEq]at e2;obtain⟨rfl,hw5,rfl⟩:=e2;rw[<-hw5]at hw1 hw3 hl2;replace⟨hw5,hMK⟩:=zH2 hw5 hMK;have hpl:ps.length=n2:=by rw[hw5.out];simp
 obtain⟨us,hus⟩:∃us:List W2,us=ps.map λp=>((p.1.1,kh p.2):W2):=⟨_,rfl⟩
 have hul:us.length=n2:=by rw[hus,List.length_map,hpl]
 have hua:∀j,(us[j]?.getD w2z).1=atN ws j:=λj=>by unfold atN;rw[hus,<-hps,List.getElem?_map,List.getElem?_map];cases ps[j]?<;>rfl
 have hud:∀j W,Ext w W->Bys W W.heap.size (sv (us[j]?.getD w2z).2) (datN ws j):=λj W hx=>by
  unfold datN;rw[hus,<-hps,List.getElem?_map,List.getElem?_map];rcases hj:ps[j]? with _|p
  ·exact⟨none,0,rfl,zM _,zA7,zA3,λhn=>absurd hn zA3⟩
  ·obtain⟨⟨A',c',e'⟩,hy⟩:=hw4 p (List.mem_of_getElem? hj);have:sv (kh p.2)=p.2:=by rw[e'];rfl
   simp only[Option.map_some,Option.getD_some];rw[this];exact(hy.below hx).more hx.size
 refine(callsIn_wide (n:=3)).1 ?_;refine callsIn_of_wp_marks func137 rfl trivial ?_ rfl;simp only[ntmps137,List.size_toArray,List.length_cons,List.length_nil,Nat.reduceAdd,Nat.reduceSub,Array.replicate_succ,Array.replicate_zero,List.push_toArray,List.append_toArray,List.nil_append,List.cons_append];refine wpIn_wide.2 ?_;go_wp2_with fail;generalize hTT:(World.alloc (World.alloc (World.alloc w _) _) _)=w2;have x2:Ext w w2:=by rw[<-hTT];exact((zN _ _).trans (zN _ _)).trans (zN _ _)
 have s2:w.heap.size+3<=w2.heap.size:=by rw[<-hTT];simp
 have ra2:w2.heap[w.heap.size]?=some (.cells #[.slice (some ⟨b1,o1,none⟩) 256 c1,.slice A2 n2 c2] 25 (0,0)):=by rw[<-hTT];exact(zK _ _ _ zA4).trans ((zK _ _ _ zA4).trans (zI _ _ _ rfl))
 have rb2:w2.heap[w.heap.size+1]?=some (.cells #[.int .i64 (m:Int)] 3 (0,0)):=by rw[<-hTT];exact(zK _ _ _ zA4).trans (zI _ _ _ zA3)
 have rc2:w2.heap[w.heap.size+2]?=some (.cells #[.slice none 0 0] 26 (0,0)):=by rw[<-hTT];exact zI _ _ _ zA3
 clear hTT;have ka2:=qa ra2;have kb2:=qa rb2;refine(Tz A2 n2 c2 w2).mono ?_;rintro e w3 ⟨rfl,rfl⟩;go_wp2_with fail;have x5:Ext w2 (w2.alloc (.cells #[.slice A2 n2 c2] 23)):=zN _ _;obtain⟨b2,hb2,hSW⟩:∃b2,b2<w.heap.size/\SW (w2.alloc (.cells #[.slice A2 n2 c2] 23)) w2.heap.size b2 (.slice A2 n2 c2) us:=by
  have wJE:(w2.alloc (.cells #[.slice A2 n2 c2] 23)).cell? ⟨w2.heap.size,0,none⟩=some (.slice A2 n2 c2):=by rw[qa (zI _ _ _ rfl)];rfl
  by_cases hz:n2=0
  ·have:us=[]:=List.length_eq_zero_iff.1 zO;exact⟨b1,hb1,wJE,.inl ⟨this,A2,c2,by rw[hz]⟩⟩
  ·obtain⟨b2,o2,rfl,hlt,hc⟩:=hw3.2 zO;refine⟨b2,hlt,wJE,.inr ⟨o2,c2,by rw[hul],λi hi=>?_⟩⟩;have hi':i<ps.length:=zO;obtain⟨g0,g1⟩:=Yd ps i hi';have hx:=x2.trans x5;rw[hus];refine⟨?_,?_⟩
   ·rw[Ext.cell hx (hc _ _ g0),List.getElem?_map,zL hi'];rfl
   ·obtain⟨⟨A',c',e'⟩,_⟩:=hw4 ps[i] (List.getElem_mem hi');rw[Nat.add_assoc,Ext.cell hx (hc _ _ g1),List.getElem?_map,zL hi'];simp only[Option.map_some,Option.getD_some];rw[e'];rfl
 clear hus hw3;replace⟨hua,hud⟩:=zH2 hua hud;refine(wpIn_wide (n:=3)).1 ?_;refine wpIn_rangeFunc_ownH rfl zO (gf:=189) (lb:=#[.pointer (some ⟨w2.heap.size,0,none⟩)]) rfl trivial (enters_of func189 zQ rfl)
  (qfW (3-1) zO w2.heap.size b2 _ _ (by rw[hul];omega) _ zA3 zA2 hSW) Qu.t (Qu.b zA3 zA2) (Below.refl _ _) (λ_=>rfl)
  (λpre W'=>((W'.heap[w.heap.size]?=some (.cells #[.slice (some ⟨b1,o1,none⟩) 256 c1,.slice A2 n2 c2] 25 (0,0))/\W'.heap[w.heap.size+1]?=some (.cells #[.int .i64 (m:Int)] 3 (0,0)))/\(W'.heap[w.heap.size+2]?=some (.cells #[.slice none 0 0] 26 (0,0))/\W'.heap[w2.heap.size]?=some (.cells #[.slice A2 n2 c2] 23 (0,0))))/\(Below w.heap.size w W'/\∀y∈pre,atN ws y≠(m:Int)))
  (λc pre W'=>(∃pre' x Wb,c=.ret/\pre=pre'++[x]/\atN ws x=(m:Int)/\(∀y∈pre',atN ws y≠(m:Int))/\Wb.heap[w.heap.size+2]?=some (.cells #[sv (us[x]?.getD w2z).2] 26 (0,0))/\Qe Wb W')/\Below w.heap.size w W')
  (OwnFrom.and (OwnFrom.and (OwnFrom.and (QF _ _ _ _) (QF _ _ _ _)) (OwnFrom.and (QF _ _ _ _) (QF _ _ _ _))) (OwnFrom.and (ownFrom_below (zM _) zA2) (Gf _ _)))
  (λc=>OwnFrom.and (λs A C row hs hg hr=>by obtain⟨pre',x,Wb,h1,h2,h3,h4,h5,h6⟩:=hs;exact⟨pre',x,Wb,h1,h2,h3,h4,h5,h6.grown hg λr e=>(hr r e).2⟩) (ownFrom_below (zM _) zA2))
  ⟨⟨⟨qb ra2 x5,qb rb2 x5⟩,⟨qb rc2 x5,zI _ _ _ rfl⟩⟩,x2.trans x5,λy hy=>by cases hy⟩
  (λx a' W'=>∃t8,a'={tmps:=#[Xu (some ⟨b1,o1,none⟩) 256 c1 A2 n2 c2,.int .i64 (m:Int),.pointer (some ⟨w.heap.size,0,none⟩),.pointer (some ⟨w.heap.size+1,0,none⟩),.pointer (some ⟨w.heap.size+1+1,0,none⟩),undef,.pointer (some ⟨t8,0,none⟩),.pointer (some ⟨w.heap.size,1,none⟩),.slice A2 n2 c2,.func (.func 189) #[] #[.pointer (some ⟨w2.heap.size,0,none⟩)],
    .int .i64 (x:Int),.agg #[.int .i64 (us[x]?.getD w2z).1,sv (us[x]?.getD w2z).2],undef,undef,undef,undef,undef,undef,undef,undef,undef,undef,undef],defers:=[]}/\W'.heap[t8]?=some (.cells #[.int .i64 (us[x]?.getD w2z).1,sv (us[x]?.getD w2z).2] 142 (0,0)))
  (λx a' s A C row hs hg hr=>by obtain⟨t8,e,h⟩:=hs;exact⟨t8,e,QF (β:=Unit) _ _ _ _ () A C row h hg hr⟩) ?assign ?body ?done ?stop
 case assign=>
  rintro l' pre x W' K ⟨⟨⟨i1,i2⟩,⟨i3,i7⟩⟩,i4,i5⟩ hK
  gi_wp2
  have z1:=(zG.1 i1).1;have z2:=(zG.1 i2).1;have z3:=(zG.1 i3).1;have z7:=(zG.1 i7).1;have z4:=i4.size;refine hK _ _ ((KeepsOthers.alloc _ _).from _) ⟨zK _ _ _ z7,zK _ _ _ zO⟩ ⟨⟨⟨(zK _ _ _ z1).trans i1,(zK _ _ _ z2).trans i2⟩,⟨(zK _ _ _ z3).trans i3,(zK _ _ _ z7).trans i7⟩⟩,Below.alloc i4 z4 _,i5⟩ ⟨W'.heap.size,rfl,zI _ _ _ rfl⟩
 case body=>
  rintro l' pre x a' W' hl ⟨rr,hlp⟩ ⟨⟨⟨i1,i2⟩,⟨i3,i7⟩⟩,i4,i5⟩ ⟨t8,rfl,hr8⟩ _;have hax:=hua.out x;generalize hu9:(us[x]?.getD w2z)=u9 at*;obtain⟨a9,A9,n9,c9⟩:=u9;simp only at hax;subst hax;have k8:=qa hr8;have k2:=qa i2;have k3:=qa i3;have f3:=qg i3;replace⟨i5,hu9⟩:=zH2 i5 hu9;clear ka2 kb2;by_cases hq:atN ws x=(m:Int)
  ·have hqe:(atN ws x==(m:Int))=true:=by rw[beq_iff_eq];exact hq
   replace hq:=zH hq
   gi_wp2_with fail
   refine⟨(KeepsOthers.setCell _ _ _).from _,⟨rfl,pre,x,rfl,hq.out,i5.out,_,?_,Qe.refl _⟩,Below.setCell i4 (p:=⟨w.heap.size+1+1,0,none⟩) zA2 _⟩;rw[hu9.out];exact qo i3 0 _
  ·have hqe:(atN ws x==(m:Int))=false:=by rw[beq_eq_false_iff_ne];exact hq
   replace hq:=zH hq
   gi_wp2_with fail
   refine⟨KeepsFrom.refl _ _,Qu.refl _ _ _,⟨⟨i1,i2⟩,⟨i3,i7⟩⟩,i4,λy hy=>?_⟩;rcases List.mem_append.1 hy with h|h
   ·exact i5.out y h
   ·obtain rfl:y=x:=by simpa using h
    exact hq.out
 case done=>
  rintro D ys W' hD rfl ⟨⟨⟨i1,i2⟩,⟨i3,_⟩⟩,i4,i5⟩ hK;have h0:=qhS (ws:=ws) (a:=(m:Int)) (by rw[show ws.length=us.length by rw[hul,<-hpl,<-hps,List.length_map]];exact i5);have hll:l=l0:=by rw[hMK.out,hps,h0]
  have hcb':=Ext.cell i4 hcb;rw[<-hll]at hcb' wGL;clear h0 hll hcb;have k1:=qa i1;have k2:=qa i2;have k3:=qa i3;have f3:=qg i3;have im:(m:Int)<256:=zO;replace⟨i5,wGL⟩:=zH2 i5 wGL;clear ka2 kb2 hw4 hw5;go_wp2_with fail;have hDw:w.heap.size+2<D:=by simp at hD;omega
  have q3:=qo i3 0 (.slice A0 l.length c0);have qK:=(zJ W' ⟨w.heap.size+1+1,0,none⟩ (.slice A0 l.length c0) D zA2).trans hK;have qx:=Below.setCell i4 (p:=⟨w.heap.size+1+1,0,none⟩) zA2 (.slice A0 l.length c0);generalize World.setCell W' _ _=wf at*;exact qcy (b:=w.heap.size) rfl rfl qK hDw q3 (λW' e=>by have hX:Ext w W':=e▸qx.trans (belowK_b (w:=w) (zM _) wf D _ _ zO qK rfl rfl);exact⟨_,rfl,(wGL.out.below hX).more hX.size,hX⟩)
 case stop=>
  rintro D c pre W' hD ⟨k,hk,hpre⟩ ⟨⟨pre',x,Wb,rfl,rfl,hx,hpp,hRB,hCK⟩,i4⟩ hK
  gi_wp2_with fail
  have hDw:w.heap.size+2<D:=by simp at hD;omega
  have hl2:l=datN ws x:=by rw[hMK.out,hps,qhT (ws:=ws) (k:=k) (by rw[<-hps,List.length_map,hpl,<-hul];exact hk) (by rw[show ws.length=us.length by rw[hul,<-hpl,<-hps,List.length_map]];exact hpre) hx hpp]
  exact qcy (b:=w.heap.size) rfl rfl hK hDw (hCK.row hRB) (λW'' e=>by have hX:Ext w W'':=e▸i4.trans (belowK_b (w:=w) (zM _) W' D _ _ zO hK rfl rfl);exact⟨_,rfl,by rw[hl2];exact hud.out x W'' hX,hX⟩)
end Go.Proofs.YtmeadnlmepcmbaaGreat
namespace Go.Proofs.YtmeadnlmepcmbaaGreat
open Go.RowKit
theorem GU{R:Ending->World->Prop}{a:Act}{W:World}{b:Nat}{x0 x1 v:Value}(h4:a.tmps[4]?.getD undef=.pointer (some ⟨b,0,none⟩))(h5:a.tmps[5]?.getD undef=v)(hd:a.defers=[])(hBT:W.heap[b]?=some (.cells #[x0,x1] 113 (0,0)))(hR:R (.returned (.tuple #[.agg #[x0,x1],v])) W):bodyPost prog Tryz.f72 R .ret a W:=by
 refine bodyPost_ret (v:=.tuple #[.agg #[x0,x1],v]) ?_ hd hR;have k:=qa hBT;simp[results,results72,go_sem,h4,h5,k]
set_option maxRecDepth 100000 in
theorem qen(A1 n1 c1 A2 n2 c2 A3 n3 c3 A4 n4 c4)(S:Sto)(a:Int)(w:World)(h:Qq w w.heap.size (.slice A1 n1 c1) (.slice A2 n2 c2) (.slice A3 n3 c3) (.slice A4 n4 c4) S):Calls prog 72 #[Qp A1 n1 c1 A2 n2 c2 A3 n3 c3 A4 n4 c4,.int .i64 a] w (zm (qbr w.heap.size (if Tu S a=0 then qk S a.toNat else none)) w):=by
 have HA:=zH (λW (hx:Ext w W)=>qiT A1 n1 c1 A2 n2 c2 A3 n3 c3 A4 n4 c4 S a W (h.ext hx));obtain⟨q,hq⟩:∃q,(if Tu S a=0 then qk S a.toNat else none)=q:=⟨_,rfl⟩
 rw[hq];replace⟨hq,h⟩:=zH2 hq h;go_enter func72,ntmps72;go_wp2_with fail;generalize hw1:(World.alloc (World.alloc w _) _)=w1;have x1:Ext w w1:=by rw[<-hw1];exact(zN _ _).trans (zN _ _)
 have r1:w1.heap[w.heap.size]?=some (.cells #[.slice A1 n1 c1,.slice A2 n2 c2,.slice A3 n3 c3,.slice A4 n4 c4] 28 (0,0)):=by rw[<-hw1];exact(zK _ _ _ zA3).trans (zI _ _ _ rfl)
 have q1:w1.heap[w.heap.size+1]?=some (.cells #[.int .i64 0,.slice none 0 0] 113 (0,0)):=by rw[<-hw1];exact zI _ _ _ zA3
 clear hw1;have k1:=qa r1;go_wp2_with fail;refine(HA.out w1 x1).mono ?_;clear HA;rintro e w2 ⟨rfl,hB⟩;have x2:Ext w w2:=x1.trans hB;have r2:=qb r1 hB;have q2:=qb q1 hB;clear hB r1 q1 x1 k1;have k2:=qa r2;have kq2:=qa q2;have fq2:=qg q2;by_cases hE:Tu S a=0
 ·obtain⟨hS,n,rfl,h8,h256,hc⟩:=askR_ok hE;have hNA:q=QK (jW S n):=by rw[<-hq.out,if_pos hE,Int.toNat_natCast];unfold qk;exact if_neg hc
  rw[hE];clear hq;have HS:=zH (λW (hx:Ext w W)=>qlm A1 n1 c1 A2 n2 c2 S hS n h256 W ((h.out.bs.below hx).more hx.size) ((h.out.ws.below hx).more hx.size));have HR:=zH (λv W (hv:Bys W W.heap.size v (jW S n))=>qkS v (jW S n) W hv);replace⟨hE,hS,hNA,hc⟩:=zH4 hE hS hNA hc;generalize jW S n=l at*;go_wp2_with fail;refine(HS.out w2 x2).mono ?_;clear HS;rintro e w3 ⟨u,rfl,hu,hB⟩;have x3:Ext w w3:=x2.trans hB;have q3:=qb q2 hB;clear hB k2 r2 kq2 fq2 q2;go_wp2_with fail;refine(HR.out u w3 hu).mono ?_;clear HR hu;rintro e w4 ⟨u4,rfl,hu,hB⟩;have hB:Ext w3 w4:=hB;have x4:Ext w w4:=x3.trans hB;have q4:=qb q3 hB;have z3:=x3.size;have z4:w.heap.size+1<w4.heap.size:=(zG.1 q4).1;have z3q:w.heap.size+1<w3.heap.size:=(zG.1 q3).1;clear hB q3;have kq4:=qa q4;have fq4:=qg q4;rcases hQ:QK l with _|⟨lvl,xs⟩
  ·rw[hQ]at hu;obtain⟨er,hne,rfl⟩:=hu;have hq:q=none:=by rw[hNA.out,hQ]
   replace hq:=zH hq;have hZN:(er != 0)=true:=by rw[bne_iff_ne];exact hne
   replace hne:=zH hne;go_wp2_with fail;generalize hwf:(World.alloc _ _)=wf;have rf:wf.heap[w.heap.size+1]?=some (.cells #[.int .i64 0,.slice none 0 0] 113 (0,0)):=by rw[<-hwf];exact(zK _ _ _ (by simpa using z4)).trans (qo (qo q4 0 _) 1 _)
   have bf:Below w.heap.size w wf:=by rw[<-hwf];exact Below.alloc (Below.setCell (Below.setCell x4 (p:=⟨w.heap.size+1,0,none⟩) zA3 _) (p:=⟨w.heap.size+1,1,none⟩) zA3 _) zA2 _
   exact GU (b:=w.heap.size+1) rfl rfl rfl rf ⟨_,rfl,(by rw[hq.out];exact⟨8,zA1,rfl⟩),bf⟩
  ·rw[hQ]at hu;obtain⟨A,c,rfl,hi⟩:=hu;have hq:q=some (lvl,xs):=by rw[hNA.out,hQ]
   replace⟨hq,hi⟩:=zH2 hq hi;go_wp2_with fail;generalize hwf:(World.alloc _ _)=wf;have rf:wf.heap[w.heap.size+1]?=some (.cells #[.int .i64 lvl,.slice A xs.length c] 113 (0,0)):=by rw[<-hwf];exact(zK _ _ _ (by simpa using z4)).trans (qo (qo q4 0 _) 1 _)
   have bf:Below w.heap.size w wf:=by rw[<-hwf];exact Below.alloc (Below.setCell (Below.setCell x4 (p:=⟨w.heap.size+1,0,none⟩) zA3 _) (p:=⟨w.heap.size+1,1,none⟩) zA3 _) zA2 _
   have hfi:ZB w.heap.size wf (.slice A xs.length c) xs:=by refine(hi.out.keep (by have:=bf.size;rw[<-hwf];simp) λp h1 h2=>?_).mono z3;rw[<-hwf,World.cell?_alloc_lt _ _ _ (by simpa using h2),World.cell?_setCell_other _ _ _ _ (λe=>by subst e;simp at h1;omega),World.cell?_setCell_other _ _ _ _ (λe=>by subst e;simp at h1;omega)]
   exact GU (b:=w.heap.size+1) rfl rfl rfl rf ⟨_,rfl,(by rw[hq.out];exact⟨A,c,rfl,hfi⟩),bf⟩
 ·have hqn:=zH (show q=none by rw[<-hq.out,if_neg hE]);clear hq;have hne:(Tu S a != 0)=true:=by rw[bne_iff_ne];exact hE
  generalize Tu S a=er at*;go_wp2_with fail;refine GU (b:=w.heap.size+1) rfl rfl rfl (qo (qo q2 0 _) 1 _) ⟨_,rfl,(by rw[hqn.out];exact⟨er,hE,rfl⟩),?_⟩;exact Below.setCell (Below.setCell x2 (p:=⟨w.heap.size+1,0,none⟩) zA3 _) (p:=⟨w.heap.size+1,1,none⟩) zA3 _
structure WyI(ty:TypeId)(P:Nat->List It->Prop)(S:Sto)(K:K3)(full:List Stp)(lo:Nat)(w1:World)(v i:Value)(wr:World):Prop where
 ex:∃(h r:Nat)(ys:List It)(pre:List Stp)(Av:OA)(cv:Nat),v=.slice Av pre.length cv/\i=.int .i64 (r:Int)/\8<=r/\r<256/\qk S r=some ((h:Int),ys)/\(qz S h ys).isSome=true/\full=pre++jl S K h ys/\pre.length+h<6/\jr ty lo wr v pre/\Below lo w1 wr/\P h ys
set_option maxRecDepth 100000 in
theorem way_any(A1 n1 c1 A2 n2 c2 A3 n3 c3 A4 n4 c4)(S:Sto)(hS:qm S=true)(a lvl:Nat)(xs:List It)(ha:8<=a)(ha2:a<256)(hn:qk S a=some ((lvl:Int),xs))(hsp:(qz S lvl xs).isSome=true)(k i o:Int)(w:World)(hst:Qq w w.heap.size (.slice A1 n1 c1) (.slice A2 n2 c2) (.slice A3 n3 c3) (.slice A4 n4 c4) S):Calls prog 127 #[Qp A1 n1 c1 A2 n2 c2 A3 n3 c3 A4 n4 c4,.int .i64 (a:Int),UK k i o] w (zm (λu W=>Xp w.heap.size W u (jl S (k,i,o) lvl xs)) w):=by
 obtain⟨i0,hi,hz0,hz1,hz2⟩:=info_parts Tryz.info_step;obtain⟨full,hGH⟩:∃full,jl S (k,i,o) lvl xs=full:=⟨_,rfl⟩
 rw[hGH];have hl6:lvl<6:=by have:=zy hn;omega
 have HI0:=zH (λW=>(⟨⟨lvl,a,xs,[],none,0,rfl,rfl,ha,ha2,hn,hsp,hGH.symm,by simpa using hl6,jr.nil _ _ _,Below.refl _ _,trivial⟩⟩:WyI 187 (λ_ _=>True) S (k,i,o) full W.heap.size W (.slice none 0 0) (.int .i64 (a:Int)) W));have HN:=zH (λ(r:Nat) W (hx:Ext w W)=>qen A1 n1 c1 A2 n2 c2 A3 n3 c3 A4 n4 c4 S (r:Int) W (hst.ext hx));replace⟨hS,hi⟩:=zH2 hS hi;clear hst hn hsp hGH ha ha2 hl6;go_enter func127,ntmps127;go_wp2_with fail;generalize hw1:(World.alloc (World.alloc w _) _)=w1;have x1:Ext w w1:=by rw[<-hw1];exact(zN _ _).trans (zN _ _)
 have rs1:w1.heap[w.heap.size]?=some (.cells #[.slice A1 n1 c1,.slice A2 n2 c2,.slice A3 n3 c3,.slice A4 n4 c4] 28 (0,0)):=by rw[<-hw1];exact(zK _ _ _ zA3).trans (zI _ _ _ rfl)
 have rk1:w1.heap[w.heap.size+1]?=some (.cells #[.int .u8 k,.int .u32 i,.int .u32 o] 49 (0,0)):=by rw[<-hw1];exact zI _ _ _ zA3
 have z1:w.heap.size<=w1.heap.size:=by rw[<-hw1];simp;omega
 clear hw1;have I0:=zH (HI0.out w1);clear HI0;go_wp2_with fail;go_loopw [6,7] (λv j wr=>WyI 187 (λ_ _=>True) S (k,i,o) full w1.heap.size w1 v j wr) (λ_ j _=>vc S j)
 case atStart=>exact I0.out
 case round=>
  obtain⟨h,r,ys,pre,Av,cv,rfl,rfl,h8,h256,hn,hsp,hGH,hlen,hso,xr,-⟩:=hrel.ex;clear I0 hrel;have hlv:=VA hn;obtain⟨hm1,hm2,-⟩:=qF hn;have hyl:ys.length<=5:=by unfold Qj ZZ at hm1;simp at hm1;omega
  have hGA:0<h->0<ys.length:=λh0=>Vm hm1 h0;have xr1:Ext w1 wr:=xr;have HNr:=HN.out r wr (x1.trans xr1);rw[show Tu S (r:Int)=0 by rw[qeB hS.out h8 h256,if_neg (show ¬Jh S r=0 from λe=>by unfold qk at hn;rw[if_pos (show(S.now[r]?.getD 0).toNat=0 from e)]at hn;cases hn)],if_pos rfl,Int.toNat_natCast,hn]at HNr;have rsr:=qb rs1 xr1;have rkr:=qb rk1 xr1;have ksr:=qa rsr;replace⟨hsp,hn,hm2,hGH,hso,hlv⟩:=zH6 hsp hn hm2 hGH hso hlv;replace hGA:=zH hGA;clear hm1;go_wp2_with fail;refine HNr.mono ?_;clear HNr;rintro e w4 ⟨u,rfl,⟨A9,c9,rfl,hBC⟩,hB⟩;have hB:Ext wr w4:=hB;have xx4:Ext w1 w4:=xr1.trans hB;have rk4:=qb rkr hB;have so4:=zH (hso.out.ext hB);have z4:w.heap.size+1<w4.heap.size:=(zG.1 rk4).1;have kk4:=qa rk4;have zwr:w1.heap.size<=wr.heap.size:=xr.size;have z4r:wr.heap.size<=w4.heap.size:=hB.size;replace hBC:=zH hBC;have wHV:Hid (∀q,(Value.slice Av pre.length cv).ownBlock=some q->q<wr.heap.size):=zH λq hq=>by obtain⟨ps,-,ho,-⟩:=hso.out;exact(QM ho q hq).2
  clear hB rsr rkr ksr hso xr xr1;go_wp2_with fail;generalize hw5:(World.alloc w4 _)=w5;have x45:Ext w4 w5:=by rw[<-hw5];exact zN _ _
  have rn5:w5.heap[w4.heap.size]?=some (.cells #[.int .i64 h,.slice A9 ys.length c9] 113 (0,0)):=by rw[<-hw5];exact zI _ _ _ rfl
  clear hw5;have rk5:=qb rk4 x45;have kn5:=qa rn5;have kk5:=qa rk5;clear kk4;go_wp2_with fail;refine(GR (h:Int) A9 c9 ys k i o _ w5 hyl (hBC.out.ext x45)).mono ?_;rintro e w6 ⟨rfl,hB⟩;have x56:Ext w4 w6:=x45.trans hB;have rn6:=qb rn5 hB;have kn6:=qa rn6;have hKN:=zH (hBC.out.ext x56);have xx6:Ext w1 w6:=xx4.trans x56;have so6:=zH (so4.out.ext x56);clear rn5 x45 hB x56 rk4 rk5 kk5 kn5 xx4 hBC so4;obtain⟨ips,hIL,hsx⟩:=hKN.out.toE (X:=OwnL w1.heap.size (.slice Av pre.length cv)) (λq hq hx=>hx.elim (λh1=>by have:=wHV.out q h1;omega) λh1=>zO);replace⟨hsx,hIL⟩:=zH2 hsx hIL;have hA:=hKN.out.its.at_.2.2.2;clear hKN;obtain⟨ie,hie⟩:∃ie,VN ys (k,i,o)=ie:=⟨_,rfl⟩
  obtain⟨p,hp⟩:∃p,qA ys (k,i,o)=p:=⟨_,rfl⟩
  have hUZ:=Jm ys (k,i,o);rw[hie,hp];rw[hp]at hUZ;obtain⟨ps,e0,ho,hpp⟩:=so6.out;have hgr:∀W':World,w6.grownBy W' (Value.slice Av pre.length cv).ownBlock->qT (OwnL w1.heap.size (.slice Av pre.length cv)) w6 W':=λW' hg=>qT.of_heap λq hq hX=>hg.block q hq λe=>hX (.inl e.symm);replace⟨hpp,hgr⟩:=zH2 hpp hgr;clear so6;rcases Nat.eq_zero_or_pos h with h0|h0
  ·have hh1:((h:Int)==0)=true:=by rw[beq_iff_eq];omega
   have hh2:decide (h=0)=true:=decide_eq_true h0;have hf2:full=pre++[(0,ys,p)]:=by rw[hGH.out,h0,Ko,hp]
   subst h0;replace hf2:=zH hf2;clear hA hGA hie hp;go_wp2_with (at_builtin;refine qY ?_);refine Qm.go (zZ w6 rfl (.tmp 28) (.tmp 32) 180 rfl w1.heap.size 187 i0 _ 3 40 underlying180 hi.out hz0 hz1 hz2 rfl zA1 (.slice Av pre.length cv) pre.length (ZI ps) zE ho #[.int .i64 0,.slice A9 ys.length c9,.int .i64 (p:Int)] zE rfl zA8 zO zA1 xx6.size ?_);intro v' W' hCN hg hB hat;have hF:jr 187 w1.heap.size W' v' (pre++[(0,ys,p)]):=jr.push (s:=(0,ys,p)) xx6.size e0 hpp.out hIL.out hsx.out hCN hg hat;have hBW:Ext w W':=x1.trans (Below.trans xx6 hB);replace⟨hF,hBW⟩:=zH2 hF hBW;clear hCN hg hat hB;go_wp2_with fail;go_ret;exact⟨_,rfl,by rw[hf2.out];exact hF.out.toE.mono z1,hBW.out⟩
  ·have hh1:((h:Int)==0)=false:=by rw[beq_eq_false_iff_ne];omega
   obtain⟨h',hh⟩:∃h',h=h'+1:=⟨h-1,zO⟩
   obtain⟨j,hj⟩:∃j,Qy ys (k,i,o)=j:=⟨_,rfl⟩
   have hjl:j<ys.length:=by rw[<-hj];exact QT (hGA.out h0)
   obtain⟨b',e1,f8,f256,zs,e4,e5⟩:=QE (h:=h') (by rw[<-hh];exact QG hsp.out _ (List.getElem_mem hjl));have hfl:full=(pre++[(h,ys,j)])++jl S (k,i,o) h' zs:=by rw[hGH.out,hh,JK (by rw[hj];exact zL hjl) (by rw[e1,Int.toNat_natCast];exact e4),hj,List.append_assoc];rfl
   have hms:vc S (.int .i64 (b':Int))<vc S (.int .i64 (r:Int)):=by rw[VA e4,hlv.out];omega
   obtain⟨b9,off,rfl,hb9⟩:=hA zO;have hBY:∀(v':Value)(W':World),w6.ownsRow w1.heap.size 187 3 (.slice Av pre.length cv) pre.length (ZI ps)->W'.ownsRow w1.heap.size 187 3 v' (pre.length+1) (ZI ps++[.int .i64 (h:Int),.slice (some ⟨b9,off,none⟩) ys.length c9,.int .i64 (j:Int)])->w6.grownBy W' (Value.slice Av pre.length cv).ownBlock->(v'.ownBlock=(Value.slice Av pre.length cv).ownBlock\/∃g,v'.ownBlock=some g/\w6.heap.size<=g)->Below w1.heap.size w6 W' ->
     WyI 187 (λ_ _=>True) S (k,i,o) full w1.heap.size w1 v' (.int .i64 (b':Int)) W'/\vc S (.int .i64 (b':Int))<vc S (.int .i64 (r:Int)):=λv' W' _ hCN hg hat hB=>by
    obtain⟨A7,c7,rfl,-,-⟩:=qG hCN;have hF:jr 187 w1.heap.size W' (.slice A7 (pre.length+1) c7) (pre++[(h,ys,j)]):=jr.push (s:=(h,ys,j)) xx6.size e0 hpp.out hIL.out hsx.out hCN hg hat;exact⟨⟨h',b',zs,_,A7,c7,zA3,rfl,f8,f256,e4,e5,hfl,zA2,hF,Below.trans xx6 hB,trivial⟩,hms⟩
   have hit:∀W':World,w6.grownBy W' (Value.slice Av pre.length cv).ownBlock->W'.cell? ⟨b9,off+j*5+3,none⟩=some (.int .i64 (b':Int))/\W'.heap[w4.heap.size]?=some (.cells #[.int .i64 (h:Int),.slice (some ⟨b9,off,none⟩) ys.length c9] 113 (0,0)):=λW' hg=>by obtain⟨A',c',-,-,-,d3,-,-⟩:=(show Its W' W'.heap.size (.slice (some ⟨b9,off,none⟩) ys.length c9) ys by have:=hsx.out.its (hgr.out W' hg);rw[hIL.out]at this;exact this).item j hjl;rw[e1]at d3;refine⟨d3,(hg.block _ (zG.1 rn6).1 λe=>?_).trans rn6⟩;have:=wHV.out _ e.symm;omega
   replace⟨hBY,hit,hGA,hh⟩:=zH4 hBY hit hGA hh;clear hA hfl hms e4 e5 hsp hn hGH hlv hpp hgr;have hBU:(ie=true/\p=j)\/(ie=false/\max (0:Int) ((p:Int)-1)=(j:Int)):=by
    unfold Qy at hj;rw[hie,hp]at hj;cases ie
    ·right;refine⟨rfl,?_⟩;simp only[Bool.false_eq_true,if_false]at hj;omega
    ·left;exact⟨rfl,by simpa using hj⟩
   clear hie hp hj;rcases hBU with⟨rfl,rfl⟩|⟨rfl,hmax⟩
   ·go_wp2_with (at_builtin;refine qY ?_);refine Qm.go (zZ w6 rfl (.tmp 39) (.tmp 43) 180 rfl w1.heap.size 187 i0 _ 3 40 underlying180 hi.out hz0 hz1 hz2 rfl zA1 (.slice Av pre.length cv) pre.length (ZI ps) zE ho #[.int .i64 (h:Int),.slice (some ⟨b9,off,none⟩) ys.length c9,.int .i64 (p:Int)] zE rfl zA8 zO zA1 xx6.size ?_);intro v' W' hCN hg hB hat;obtain⟨d3,rnW⟩:=hit.out W' hg;have knW:=qa rnW;have hF:=zH (hBY.out v' W' ho hCN hg hat hB);clear hBY hit hCN hg hat hB ho;go_wp2_with fail;exact hF.out
   ·go_wp2_with (at_builtin;refine qY ?_);refine Qm.go (zZ w6 rfl (.tmp 39) (.tmp 43) 180 rfl w1.heap.size 187 i0 _ 3 40 underlying180 hi.out hz0 hz1 hz2 rfl zA1 (.slice Av pre.length cv) pre.length (ZI ps) zE ho #[.int .i64 (h:Int),.slice (some ⟨b9,off,none⟩) ys.length c9,.int .i64 (j:Int)] zE rfl zA8 zO zA1 xx6.size ?_);intro v' W' hCN hg hB hat;obtain⟨d3,rnW⟩:=hit.out W' hg;have knW:=qa rnW;have hF:=zH (hBY.out v' W' ho hCN hg hat hB);clear hBY hit hCN hg hat hB ho;go_wp2_with fail;exact hF.out
def Ys(s:Stp):Bool:=decide (s.2.1.length<5)
def ThinIx(l:List Stp)(u:Value):Prop:=(∃j:Nat,u=.int .i64 (j:Int)/\l.any Ys=true)\/(u=.int .i64 (-1)/\l.any Ys=false)
set_option maxRecDepth 100000 in
theorem qlq(lvl p:Int)(A n c)(w:World):Calls prog 175 #[.agg #[.int .i64 lvl,.slice A n c,.int .i64 p]] w (Ret (.bool (decide (n<5))) w):=by
 go_enter func175,ntmps175;by_cases h:n<5
 ·have h1:decide ((n:Int)<5)=true:=decide_eq_true zO;rw[decide_eq_true h];replace h:=zH h;go_wp2;go_ret;exact⟨rfl,zN _ _⟩
 ·have h1:decide ((n:Int)<5)=false:=decide_eq_false zO;rw[decide_eq_false h];replace h:=zH h;go_wp2;go_ret;exact⟨rfl,zN _ _⟩
set_option maxRecDepth 100000 in
theorem qlr(v:Value)(l:List Stp)(hl:l.length<=100)(w:World)(h:KO w.heap.size w v l):Calls prog 198 #[v,.func (.func 175) #[] #[]] w (zm (λu _=>ThinIx l u) w):=by
 obtain⟨ps,hps,⟨A,c,rfl,hc1,hc2,hr⟩,hpp⟩:=h;have hpl:ps.length=l.length:=by rw[<-hps,List.length_map]
 replace⟨hr,hc2⟩:=zH2 hr hc2;go_enter func198,ntmps198;go_wp2_with fail;go_loopw [8] (λi wr=>∃k:Nat,k<=l.length/\i=.int .i64 (k:Int)/\Ext w wr/\(l.take k).any Ys=false) (λi _=>l.length-(intOf i).toNat)
 case atStart=>exact⟨0,Nat.zero_le _,rfl,Ext.refl _,rfl⟩
 case round=>
  obtain⟨k,hk,rfl,xr,hno⟩:=hrel;replace hno:=zH hno;by_cases hlt:k<l.length
  ·obtain⟨bv,offv,rfl,hbv,hCF⟩:=hr.out.2 zO;have hkp:k<ps.length:=zO;obtain⟨d0,d1,d2⟩:=kD ps k hkp;replace d0:=Ext.cell xr (hCF _ _ d0);replace d1:=Ext.cell xr (hCF _ _ d1);replace d2:=Ext.cell xr (hCF _ _ d2);rw[<-Nat.add_assoc]at d1 d2;obtain⟨Ax,cx,hx2⟩:=(hpp ps[k] (List.getElem_mem hkp)).1;have hxe:ps[k].1=l[k]:=by simp only[<-hps,List.getElem_map]
   rw[hx2,hxe]at d1;rw[hxe]at d0 d2;have HAT:=zH (λ(he:Ys l[k]=true)=>show l.any Ys=true from List.any_eq_true.2 ⟨l[k],List.getElem_mem hlt,he⟩);have HNO:=zH (λ(he:Ys l[k]=false)=>show(l.take (k+1)).any Ys=false by rw[List.take_succ_eq_append_getElem hlt,List.any_append,hno.out];simp[he]);unfold Ys at HAT HNO;generalize l[k]=u at*;obtain⟨ul,uxs,up⟩:=u;dsimp only at d0 d1 d2 HAT HNO;clear hCF hx2 hxe;have hQU:=zH (IntWalk.wrap64_in ((k:Int)+1) zO);have hV:=qlq (ul:Int) (up:Int) Ax uxs.length cx wr;go_wp2_with fail;refine hV.mono ?_;rintro e w2 ⟨rfl,hB⟩;clear d0 d1 d2 hV;by_cases he:uxs.length<5
   ·rw[decide_eq_true he];have HQ:=zH (HAT.out (decide_eq_true he));clear HAT HNO;replace he:=zH he;go_wp2_with fail;refine bodyPost_ret (v:=.int .i64 (k:Int)) ?_ rfl ⟨_,rfl,.inl ⟨k,rfl,HQ.out⟩,Ext.trans xr hB⟩;simp[results,results198,go_sem]
   ·rw[decide_eq_false he];have HQ:=zH (HNO.out (decide_eq_false he));clear HAT HNO;replace he:=zH he;have hw1:=hQU.out;go_wp2_with fail;refine⟨⟨k+1,hlt,rfl,Ext.trans xr hB,HQ.out⟩,?_⟩;simp[intOf];omega
  ·obtain rfl:k=l.length:=zO;have HQ:=zH (show l.any Ys=false by have:=hno.out;rwa [List.take_length]at this);go_wp2_with fail;refine bodyPost_ret (v:=.int .i64 (-1)) ?_ rfl ⟨_,rfl,.inr ⟨rfl,HQ.out⟩,xr⟩;simp[results,results198,go_sem]
set_option maxRecDepth 100000 in
theorem thin_any(v:Value)(l:List Stp)(hl:l.length<=100)(w:World)(h:KO w.heap.size w v l):Calls prog 174 #[v,.func (.func 175) #[] #[]] w (Ret (.bool (l.any Ys)) w):=by
 have HX:=qlr v l hl w h;clear h;go_enter func174,ntmps174;go_wp2_with fail;refine HX.mono ?_;rintro e w2 ⟨u,rfl,hu,hB⟩;rcases hu with⟨j,rfl,hj⟩|⟨rfl,hj⟩
 ·have hd:decide ((0:Int)<=(j:Int))=true:=decide_eq_true zO;go_wp2_with fail;go_ret;exact⟨by rw[hj];rfl,hB⟩
 ·go_wp2_with fail;go_ret;exact⟨by rw[hj];rfl,hB⟩
set_option maxRecDepth 100000 in
theorem tall_any(v:Value)(l:List Stp)(hl:l.length<=100)(hl0:0<l.length)(k i o:Int)(hl5:∀s∈l,s.2.1.length<=5)(w:World)(h:KO w.heap.size w v l):Calls prog 128 #[v,UK k i o] w (Ret (.bool (qaS (k,i,o) l)) w):=by
 have HT:=zH (λW (hx:Ext w W)=>thin_any v l hl W ((h.below hx).more hx.size));obtain⟨ps,hps,⟨A,c,rfl,hc1,hc2,hr⟩,hpp⟩:=h;have hpl:ps.length=l.length:=by rw[<-hps,List.length_map]
 obtain⟨bv,offv,rfl,hbv,hCF⟩:=hr.2 hl0;obtain⟨m,hm⟩:∃m,l.length=m+1:=⟨l.length-1,zO⟩
 have hmp:m<ps.length:=zO;have hml:m<l.length:=zO;obtain⟨d0,d1,d2⟩:=kD ps m hmp;replace d0:=hCF _ _ d0;replace d1:=hCF _ _ d1;replace d2:=hCF _ _ d2;rw[<-Nat.add_assoc]at d1 d2;obtain⟨⟨Ax,cx,hx2⟩,hBC⟩:=hpp ps[m] (List.getElem_mem hmp);have hxe:ps[m].1=l[m]:=by simp only[<-hps,List.getElem_map]
 rw[hx2,hxe]at d1 hBC;rw[hxe]at d0;have hlast:l.getLast?=some l[m]:=by rw[List.getLast?_eq_getElem?,hm,Nat.add_sub_cancel];exact zL hml
 have hq:qaS (k,i,o) l=(decide (l.length=6)&&!(l.any Ys)&&!(VN l[m].2.1 (k,i,o))):=by unfold qaS;rw[hlast];simp only;congr 2;rw[Bool.eq_iff_iff];simp[List.all_eq_true,Ys]
 have hu5:=hl5 l[m] (List.getElem_mem hml);rw[hq];generalize l[m]=u at*;obtain⟨ul,uxs,up⟩:=u;dsimp only at d0 d1 hBC hu5⊢;have HP:=zH (λW (hx:Ext w W)=>qcp (ul:Int) Ax cx uxs k i o W hu5 ((hBC.below hx).more hx.size));clear hq hlast hCF hr hx2 hxe hpp hBC d2 hps;replace hm:=zH hm;generalize l.any Ys=bt at*;generalize VN uxs (k,i,o)=bi at*;generalize qA uxs (k,i,o)=pn at*;replace hc2:=zH hc2;go_enter func128,ntmps128;go_wp2_with fail;generalize hw1:World.alloc _ _=w1;have x1:Ext w w1:=by rw[<-hw1];exact zN _ _
 have r1:w1.heap[w.heap.size]?=some (.cells #[.int .u8 k,.int .u32 i,.int .u32 o] 49 (0,0)):=by rw[<-hw1];exact zI _ _ _ rfl
 clear hw1;refine(HT.out w1 x1).mono ?_;clear HT;rintro e w2 ⟨rfl,hB⟩;have x2:Ext w w2:=x1.trans hB;have r2:=qb r1 hB;clear r1 hB x1;go_upto_region 2 with fail;have g0:∀W,qj.r w2 W->W.cell? ⟨bv,offv+m*3,none⟩=some (.int .i64 (ul:Int)):=λW h=>Ext.cell (x2.trans h) d0;have g1:∀W,qj.r w2 W->W.cell? ⟨bv,offv+m*3+1,none⟩=some (.slice Ax uxs.length cx):=λW h=>Ext.cell (x2.trans h) d1;have g2:∀W,qj.r w2 W->∀i_1,W.cell? ⟨w.heap.size,i_1,none⟩=#[.int .u8 k,.int .u32 i,.int .u32 o][i_1]?:=λW h=>qa (qb r2 h);clear d0 d1;have hwl:=zH (show IntKind.i64.wrap ((l.length:Int)-1)=(m:Int)by rw[IntKind.wrap_i64];have:=hm.out;omega);refine qt zQ ?_;refine qX (w:=w2) qj (qQ [(8,one (.tuple #[.int .i64 (pn:Int),.bool bi]))]) (List.replicate 14 true) 0 zQ zQ zQ zQ zQ zQ zQ ?st (Rel.drew _ _) ?walk
 case st=>exact qi (by simp only[List.forall_mem_cons];exact⟨qgW _,λ_ h=>by cases h⟩)
 case walk=>
  intro K hK;dsimp only[qw,List.replicate];refine zB7 ?_;refine qd (.pointer (some ⟨bv,offv+m*3,none⟩)) zA0 zA0 (λW hW _=>⟨W,?_,Rel.refl _ W⟩) ?_
  ·go_simp;rw[hwl.out,if_pos zO];simp
  refine zB7 ?_;refine qH (one _) zA0 zA0 (λW hW _=>?_) (λ(_:Unit)=>?_)
  ·have hW':Ext w2 W:=hW;refine Qi ?_ ((HP.out W (x2.trans hW')).mono λe w' h=>⟨(),h.1,trivial,h.2⟩);go_simp
  refine zB7 ?_;refine qD (hK _ _ λW hW hF=>?_);clear hF hK;have hW:Ext w2 W:=hW;have xW:Ext w W:=x2.trans hW;refine zC4 ?_;go_wp2;refine Qn ?_;clear HP g0 g1 g2 r2;by_cases h6:l.length=6
  ·have e6:((l.length:Int)==6)=true:=by rw[beq_iff_eq];omega
   have d6:=decide_eq_true h6;replace h6:=zH h6;cases bt
   ·cases bi;all_goals
     go_wp2_with fail;go_ret;exact⟨by rw[d6];rfl,xW⟩
   ·go_wp2_with fail;go_ret;exact⟨by rw[d6];rfl,xW⟩
  ·have e6:((l.length:Int)==6)=false:=by rw[beq_eq_false_iff_ne];omega
   have d6:=decide_eq_false h6;replace h6:=zH h6;go_wp2_with fail;go_ret;exact⟨by rw[d6];rfl,xW⟩
theorem Gd(w:World)(g o la ca vg lb cb:Nat)(cur vcur:Array Value)(hg:w.heap[g]?=some (.cells cur 51 (0,0)))(hv:w.heap[vg]?=some (.cells vcur 51 (0,0)))(hne:vg≠g)(h0:cur.size≠0)(vo:Nat):(callFunc 167 #[.slice (some ⟨vg,vo,none⟩) lb cb,.slice (some ⟨g,o,none⟩) la ca]).run prog w=.ok (.value (.bool false)) w:=by
 rw[run_callFunc_extern func167 zQ zQ zQ (e:=Extern.SlicesOverlaps.overlaps #[55,55] #[4]) zQ,
  Lib.run_overlaps_apart w 55 4 51 underlying55 5 (λw=>sizeOf51 w) ⟨vg,vo,none⟩ ⟨g,o,none⟩ lb cb la ca hne 51 51 vcur.size cur.size (by simp[World.shape?,hv]) (by simp[World.shape?,hg]) h0 (by simp[World.frozen?,hv]) (by simp[World.frozen?,hv])]
 rfl
set_option maxRecDepth 100000 in
theorem qip(lo:Nat)(s:Value)(n i:Nat)(xs:List Value)(v:Value)(m lov:Nat)(vs:List Value)(w:World)(ho:w.ownsRow lo 51 5 s n xs)(hv:w.ownsRow lov 51 5 v m vs)(hsv:∀q,v.ownBlock=some q->s.ownBlock≠some q)(hm:0<m)(hnm:n+m<=100)(hi:i<=n)(h1x:∀u∈xs,u.oneCell'=true)(h1v:∀u∈vs,u.oneCell'=true)(hlo:lo<=w.heap.size):Calls prog 166 #[s,.int .i64 (i:Int),v] w (vL lo s (n+m) (xs.take (i*5)++vs++xs.drop (i*5)) w):=by
 obtain⟨i0,hi0,hz0,hz1,hz2⟩:=info_parts Tryz.info_item;have hvl:=hv.1;have hxl:=ho.1;obtain⟨vg,vcap,vcur,rfl,wSO,hvg,hvc,hvm,hvs,hvt⟩:∃g cap cur,v=.slice (some ⟨g,0,none⟩) m cap/\lov<=g/\w.heap[g]?=some (.cells cur 51 (0,0))/\m<=cap/\cap<=maxLen/\cur.size=cap*5/\cur.toList.take (m*5)=vs:=by
  rcases hv.2 with⟨_,h0⟩|h
  ·omega
  ·exact h
 have hKR:=Ux hv;have hm0:((m:Int)==0)=false:=by rw[beq_eq_false_iff_ne];omega
 have hrv:Rd w w.heap.size 5 (some ⟨vg,0,none⟩) m vs:=Rd.of_own hv;by_cases hin:i=n
 ·subst hin;have hy:xs.take (i*5)++vs++xs.drop (i*5)=xs++vs:=by rw[List.take_of_length_le zO,List.drop_of_length_le zO,List.append_nil]
  rw[hy];have hd1:decide ((i:Int)=(i:Int))=true:=decide_eq_true rfl;have hgo:∀A c,s=.slice A i c->(A=none\/∃g,A=some ⟨g,0,none⟩)->Calls prog 166 #[s,.int .i64 (i:Int),.slice (some ⟨vg,0,none⟩) m vcap] w (vL lo s (i+m) (xs++vs) w):=λA c hs hA=>by
   have hic:i<=c:=by obtain⟨A',c',e,h1,h2⟩:=qG ho;rw[hs]at e;cases e;exact h1
   subst hs;clear hvg hvs hvt hKR hy;replace hvm:=zH hvm;have hBY:∀(v':Value)(w':World),w'.ownsRow lo 51 5 v' (i+m) (xs++vs)->w.grownBy w' (Value.slice A i c).ownBlock->Below lo w w'->vL lo (.slice A i c) (i+m) (xs++vs) w (.returned v') w':=λv' w' h1 h2 h3=>⟨v',rfl,h1,h3,λq hq hn=>h2.block q hq λe=>hn e.symm⟩
   replace hBY:=zH hBY;rcases hA with rfl|⟨g,rfl⟩
   ·go_enter func166,ntmps166;go_wp2_with (at_builtin;refine qY ?_);refine Qm.go (Qw _ rfl (.tmp 23) (.tmp 24) 55 rfl lo 51 i0 _ 5 48 underlying55 hi0 hz0 hz1 hz2 rfl zA1 _ i xs rfl ho w.heap.size _ m vcap vs zE hrv h1v zO zA1 hlo ?_);intro v' w' h1 h2 h3 _;go_wp2_with fail;go_ret;exact hBY.out v' w' h1 h2 h3
   ·go_enter func166,ntmps166;by_cases hci:c=i
    ·subst hci;have wQW:c-c=0:=zO;go_wp2_with (at_builtin;refine qY ?_);refine Qm.go (Qw _ rfl (.tmp 23) (.tmp 24) 55 rfl lo 51 i0 _ 5 48 underlying55 hi0 hz0 hz1 hz2 rfl zA1 _ c xs rfl ho w.heap.size _ m vcap vs zE hrv h1v zO zA1 hlo ?_);intro v' w' h1 h2 h3 _;go_wp2_with fail;go_ret;exact hBY.out v' w' h1 h2 h3
    ·have wQW:¬(c-i=0):=zO;go_wp2_with (at_builtin;refine qY ?_);refine Qm.go (Qw _ rfl (.tmp 23) (.tmp 24) 55 rfl lo 51 i0 _ 5 48 underlying55 hi0 hz0 hz1 hz2 rfl zA1 _ i xs rfl ho w.heap.size _ m vcap vs zE hrv h1v zO zA1 hlo ?_);intro v' w' h1 h2 h3 _;go_wp2_with fail;go_ret;exact hBY.out v' w' h1 h2 h3
  rcases ho.2 with⟨e,h0⟩|⟨g,cap,cur,e,_⟩
  ·exact hgo none 0 (by rw[e,h0]) (.inl rfl)
  ·exact hgo _ cap e (.inr ⟨g,rfl⟩)
 ·obtain⟨g,cap,cur,rfl,hHR,hg,hnc,hcm,hcs,hct⟩:∃g cap cur,s=.slice (some ⟨g,0,none⟩) n cap/\lo<=g/\w.heap[g]?=some (.cells cur 51 (0,0))/\n<=cap/\cap<=maxLen/\cur.size=cap*5/\cur.toList.take (n*5)=xs:=by
   rcases ho.2 with⟨_,h0⟩|h
   ·omega
   ·exact h
  have hlt:i<n:=zO;have hUW:((i:Int)==(n:Int))=false:=by rw[beq_eq_false_iff_ne];omega
  have hci:¬(cap=i):=zO;have wIA:vg≠g:=λe=>hsv vg rfl (by rw[e];rfl);have hdl:(xs.drop (i*5)).length=(n-i)*5:=by rw[List.length_drop];omega
  have h1d:∀u∈xs.drop (i*5),u.oneCell'=true:=λu hu=>h1x u (List.mem_of_mem_drop hu);have hsz:(Tryz.prog.info? 51).map (·.size)=some 5:=by rw[hi0];simp[hz1]
  have hgd:∀W:World,W.heap[g]?=w.heap[g]?->∀j u,(xs.drop (i*5))[j]?=some u->W.cell? ((⟨g,i*5,none⟩:Addr).add j)=some u:=λW hW j u hu=>by
   rw[Addr.add_lit,qa (hW.trans hg),<-Array.getElem?_toList];rw[List.getElem?_drop,<-hct,List.getElem?_take]at hu;split at hu
   ·exact hu
   ·cases hu
  have hvd:∀W:World,W.heap[vg]?=w.heap[vg]?->∀j u,vs[j]?=some u->W.cell? ((⟨vg,0,none⟩:Addr).add j)=some u:=λW hW j u hu=>by rw[World.cell?_of_block (w:=w) (by rw[Addr.add_lit];exact hW)];exact hKR j u hu
  have hgl:=(zG.1 hg).1;replace⟨hcm,hvm,h1x,hsv⟩:=zH4 hcm hvm h1x hsv;have wIB:=(zG.1 hvg).1;clear hKR hrv ho hv;by_cases hcap:cap<n+m
  ·obtain⟨k,hk⟩:∃k,k=n+m-i:=⟨_,rfl⟩
   have hki:(n:Int)+(m:Int)-(i:Int)=((k:Nat):Int):=zO;obtain⟨C,hC⟩:∃C,C=grownCap w (i+k) cap 51:=⟨_,rfl⟩
   have hCge:i+k<=C:=by rw[hC];exact grownCap_ge w (i+k) cap _
   have hCm:C<=maxLen:=by rw[hC];exact grownCap_le_maxLen w (i+k) cap _ zA7
   obtain⟨cur0,hOY⟩:∃cur0:Array Value,cur0=(xs.take (i*5)).toArray++Builtin.zeroCells (Value.agg #[.int .u8 0,.int .u32 0,.int .u32 0,.int .i64 0,.slice none 0 0]).cells k++Builtin.zeroCells (Value.agg #[.int .u8 0,.int .u32 0,.int .u32 0,.int .i64 0,.slice none 0 0]).cells (C-(i+k)):=⟨_,rfl⟩
   have hEQ:∀ty,(Builtin.append_ #[55,3] ty #[.slice (some ⟨g,0,none⟩) i cap,.int .i64 ((n:Int)+(m:Int)-(i:Int))]).run prog w=.ok (.slice (some ⟨w.heap.size,0,none⟩) (i+k) C) (w.drew.alloc (.cells cur0 51)):=λty=>by
    rw[hki,hC,hOY,hC];exact Lib.run_append_grow_zeros (P:=prog) w 55 3 ty 51 i0 _ .i64 .i64 underlying55 underlying3 hi0 hz0 (some ⟨g,0,none⟩) i cap (xs.take (i*5)) (by
     rw[hz1];exact run_firstCells_some w.drew 5 i ⟨g,0,none⟩ i cap (xs.take (i*5)) (by rw[List.length_take];omega) (λj u hu=>by
      rw[Addr.add_lit,Nat.zero_add];show w.cell? _=_;rw[qa hg,<-Array.getElem?_toList];rw[<-hct,List.take_take,List.getElem?_take]at hu;split at hu
      ·exact hu
      ·cases hu)) k zO zO zO zO (by rw[hz2];omega) (by rw[hz2];exact growslice_fits zO zO)
   have hc0:cur0.size=C*5:=by rw[hOY];simp only[Array.size_append,List.size_toArray,size_zeroCells,List.length_take];simp only[Value.cells,List.size_toArray,List.length_cons,List.length_nil];omega
   have wDJ:cur0.toList.take (i*5)=xs.take (i*5):=by
    rw[hOY];simp only[Array.toList_append,List.append_assoc];have:i*5=(xs.take (i*5)).length:=by rw[List.length_take];omega
    rw[this];simp
   clear hOY hC;have hsd:(i+k)=n+m:=zO;have hBY:∀W:World,W.heap[w.heap.size]?=some (.cells (spl (spl cur0 i vs) (i+m) (xs.drop (i*5))) 51 (0,0))->Below lo w W->(∀q,q<w.heap.size->W.heap[q]?=w.heap[q]?)->vL lo (.slice (some ⟨g,0,none⟩) n cap) (n+m) (xs.take (i*5)++vs++xs.drop (i*5)) w (.returned (.slice (some ⟨w.heap.size,0,none⟩) (i+k) C)) W:=λW h1 h2 h3=>by
    rw[hsd];refine⟨_,rfl,RowI.own ⟨_,h1,?_,?_⟩ ?_ hlo zO hCm,h2,λq hq _=>h3 q hq⟩
    ·rw[QA (k:=n-i) hdl (by rw[QA hvl zO];omega),QA hvl zO,hc0]
    ·have e1:=KI wDJ hvl zO;have e2:=KI e1 hdl (by rw[QA hvl zO];omega);rw[<-e2];congr 1;omega
    ·simp only[List.length_append,List.length_take,hdl,hvl];omega
   replace⟨hBY,wDJ⟩:=zH2 hBY wDJ;clear hki;replace hk:=zH hk;have hiC:¬(C=i):=zO;have himC:¬(C=i+m):=zO;replace hCm:=zH hCm;go_enter func166,ntmps166;go_wp2_with (at_builtin;refine qY ?_);refine Qm.go (Lib.wpList_append_run _ rfl _ _ _ _ rfl _ _ rfl rfl _ _ (hEQ _) ?_);clear hEQ;generalize hw1:World.alloc _ _=w1;have p1:w1.heap[w.heap.size]?=some (.cells cur0 51 (0,0)):=by rw[<-hw1];exact zI _ _ _ rfl
   have k1:∀q,q<w.heap.size->w1.heap[q]?=w.heap[q]?:=λq hq=>by rw[<-hw1];exact zK _ _ _ hq
   have z1:w.heap.size<=w1.heap.size:=by rw[<-hw1];simp
   have B1:Below lo w w1:=by rw[<-hw1];exact Below.mono ((Ext.drew w).trans (zN _ _)) hlo
   clear hw1;have hJN:∀ty,(Builtin.copy_ #[55,55] ty #[.slice (some ⟨w.heap.size,i*5,none⟩) (n+m-i) (C-i),.slice (some ⟨vg,0,none⟩) m vcap]).run prog w1=.ok (.int .i64 (m:Nat)) (w1.setRow w.heap.size (spl cur0 i vs)):=λty=>
    jI (k:=m) (o:=i) p1 hvl zO underlying55 hsz zA9 (hvd w1 (k1 _ wIB)) h1v
   obtain⟨w2,hw2⟩:∃w2,w2=w1.setRow w.heap.size (spl cur0 i vs):=⟨_,rfl⟩
   rw[<-hw2]at hJN;have p2:w2.heap[w.heap.size]?=some (.cells (spl cur0 i vs) 51 (0,0)):=by rw[hw2];exact setRow_heap _ _ _ _ _ _ p1
   have k2:∀q,q<w.heap.size->w2.heap[q]?=w.heap[q]?:=λq hq=>by rw[hw2];exact(setRow_other _ _ _ _ zO).trans (k1 q hq)
   have z2:w.heap.size<=w2.heap.size:=by rw[hw2];simpa using z1
   have B2:Below lo w w2:=by rw[hw2];exact Qt B1 hlo hlo _
   have s2:=QA (cur:=cur0) (o:=i) hvl zO;clear hw2 p1 k1 z1;have hHH:∀W:World,Ext w2 W->∀ty,(Builtin.copy_ #[55,55] ty #[.slice (some ⟨w.heap.size,(i+m)*5,none⟩) (n+m-(i+m)) (C-(i+m)),.slice (some ⟨g,i*5,none⟩) (n-i) (cap-i)]).run prog W=.ok (.int .i64 ((n-i:Nat):Int)) (W.setRow w.heap.size (spl (spl cur0 i vs) (i+m) (xs.drop (i*5)))):=λW hW ty=>
    jI (k:=n-i) (o:=i+m) (qb p2 hW) hdl zO underlying55 hsz zA9 (hgd W ((Below.block hW g zO).trans (k2 _ hgl))) h1d
   have hFX:∀W:World,Ext w2 W->vL lo (.slice (some ⟨g,0,none⟩) n cap) (n+m) (xs.take (i*5)++vs++xs.drop (i*5)) w (.returned (.slice (some ⟨w.heap.size,0,none⟩) (n+m) C)) (W.setRow w.heap.size (spl (spl cur0 i vs) (i+m) (xs.drop (i*5)))):=λW hW=>by have:=hBY.out (W.setRow w.heap.size (spl (spl cur0 i vs) (i+m) (xs.drop (i*5)))) (setRow_heap _ _ _ _ _ _ (qb p2 hW)) (Qt (B2.trans (Below.mono hW zO)) hlo hlo _) (λq hq=>(setRow_other _ _ _ _ zO).trans ((Below.block hW q zO).trans (k2 q hq)));rw[hsd]at this;exact this
   replace⟨hFX,hHH⟩:=zH2 hFX hHH;clear hBY;have wSU:=zH (show IntKind.i64.wrap ((i:Int)+(m:Int))=((i+m:Nat):Int)by rw[IntKind.wrap_i64];omega);have him:(0:Int)<=(i:Int)+(m:Int):=zO;have himt:((i:Int)+(m:Int)).toNat=i+m:=zO;go_upto_region 11 with(simp only[hJN])
   refine qt zQ ?_;refine qX (w:=w2) qj (qQ []) (List.replicate 8 true) 1 zQ zQ zQ zQ zQ zQ zQ ?st (Rel.drew _ _) ?walk
   case st=>exact qi (λ_ h=>by cases h)
   case walk=>
    intro K hK;dsimp only[qw,List.replicate];refine zB7 ?_;refine qd (.slice (some ⟨w.heap.size,(i+m)*5,none⟩) (n+m-(i+m)) (C-(i+m))) zA0 zA0 (λW hW _=>⟨W,?_,Rel.refl _ W⟩) ?_
    ·go_simp;rw[wSU.out,Int.toNat_natCast,if_pos zO,if_neg zO]
    refine zB7 ?_;refine qD (hK _ _ λW hW hF=>?_);clear hF hK;have hW:Ext w2 W:=hW;refine zC4 ?_;have hc2:=hHH.out W hW;go_wp2_with (simp only[hc2]);refine Qn ?_;go_wp2_with fail;go_ret;exact hFX.out W hW
  ·have hov:∀la ca lb cb,(callFunc 167 #[.slice (some ⟨vg,0,none⟩) lb cb,.slice (some ⟨g,(i+m)*5,none⟩) la ca]).run prog w=.ok (.value (.bool false)) w:=λla ca lb cb=>Gd w g _ la ca vg lb cb cur vcur hg hvg wIA zO 0;go_enter func166,ntmps166;go_upto_region 15 with(simp only[hov])
   have wPJ:(n+m)*5<=cur.size:=zO;have hJN:∀W:World,Ext w W->∀ty dc sc,(Builtin.copy_ #[55,55] ty #[.slice (some ⟨g,(i+m)*5,none⟩) (n+m-(i+m)) dc,.slice (some ⟨g,i*5,none⟩) (n+m-i) sc]).run prog W=.ok (.int .i64 ((n-i:Nat):Int)) (W.setRow g (spl cur (i+m) (xs.drop (i*5)))):=λW hW ty dc sc=>
    jI (k:=n-i) (o:=i+m) (qb hg hW) hdl zO underlying55 hsz zA9 (hgd W (Below.block hW g hgl)) h1d
   have s1:=QA (cur:=cur) (o:=i+m) hdl zO;have hHH:∀W:World,Ext w W->∀ty dc,(Builtin.copy_ #[55,55] ty #[.slice (some ⟨g,i*5,none⟩) (n+m-i) dc,.slice (some ⟨vg,0,none⟩) m vcap]).run prog (W.setRow g (spl cur (i+m) (xs.drop (i*5))))=.ok (.int .i64 (m:Nat)) ((W.setRow g (spl cur (i+m) (xs.drop (i*5)))).setRow g (spl (spl cur (i+m) (xs.drop (i*5))) i vs)):=λW hW ty dc=>
    jI (k:=m) (o:=i) (setRow_heap _ _ _ _ _ _ (qb hg hW)) hvl zO underlying55 hsz zA9 (hvd _ ((setRow_other _ _ _ _ wIA).trans (Below.block hW vg wIB))) h1v
   have hBY:∀W:World,Ext w W->vL lo (.slice (some ⟨g,0,none⟩) n cap) (n+m) (xs.take (i*5)++vs++xs.drop (i*5)) w (.returned (.slice (some ⟨g,0,none⟩) (n+m) cap)) ((W.setRow g (spl cur (i+m) (xs.drop (i*5)))).setRow g (spl (spl cur (i+m) (xs.drop (i*5))) i vs)):=λW hW=>by
    refine⟨_,rfl,RowI.own ⟨_,setRow_heap _ _ _ _ _ _ (setRow_heap _ _ _ _ _ _ (qb hg hW)),?_,?_⟩ ?_ hHR zO hcm.out,Qt (Qt (Below.mono hW hlo) hlo hHR _) hlo hHR _,λq hq hn=>?_⟩
    ·rw[QA hvl zO,s1,hcs]
    ·exact qlp hct hxl hvl hi wPJ
    ·simp only[List.length_append,List.length_take,hdl,hvl];omega
    ·have:q≠g:=λe=>hn (by rw[e];rfl);exact(setRow_other _ _ _ _ this).trans ((setRow_other _ _ _ _ this).trans (Below.block hW q hq))
   replace⟨hBY,hHH,hJN⟩:=zH3 hBY hHH hJN;have wSU:=zH (show IntKind.i64.wrap ((i:Int)+(m:Int))=((i+m:Nat):Int)by rw[IntKind.wrap_i64];omega);clear hov hgd hvd;refine qt zQ ?_;refine qX (w:=w) qj (qQ []) (List.replicate 8 true) 1 zQ zQ zQ zQ zQ zQ zQ ?st (Rel.drew _ _) ?walk
   case st=>exact qi (λ_ h=>by cases h)
   case walk=>
    intro K hK;dsimp only[qw,List.replicate];refine zB7 ?_;refine qd (.slice (some ⟨g,(i+m)*5,none⟩) (n+m-(i+m)) (cap-(i+m))) zA0 zA0 (λW hW _=>⟨W,?_,Rel.refl _ W⟩) ?_
    ·go_simp;rw[wSU.out,Int.toNat_natCast,if_pos zO,if_neg zO]
    refine zB7 ?_;refine qd (.slice (some ⟨g,i*5,none⟩) (n+m-i) (cap-i)) zA0 zA0 (λW hW _=>⟨W,?_,Rel.refl _ W⟩) ?_
    ·go_simp;intro hx;exfalso;omega
    refine zB7 ?_;refine qD (hK _ _ λW hW hF=>?_);clear hF hK;have hW:Ext w W:=hW;refine zC4 ?_;have hc1:=hJN.out W hW;have hc2:=hHH.out W hW;have hfn:=zH (hBY.out W hW);generalize World.setRow (World.setRow W _ _) _ _=wf at*;generalize World.setRow W _ _=wm at*;go_wp2_with (simp only[hc1]);refine Qn ?_;go_wp2_with (simp only[hc2]);go_ret;exact hfn.out
end Go.Proofs.YtmeadnlmepcmbaaGreat
