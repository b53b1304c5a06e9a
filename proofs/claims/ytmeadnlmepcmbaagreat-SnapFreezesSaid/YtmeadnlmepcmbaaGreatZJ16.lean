/- Lemmas of the proof. -/
import Derived.Deep.LoopGhost
import Derived.Test.YtmeadnlmepcmbaaGreatZJ15
set_option linter.all false
set_option maxHeartbeats 8000000
open Go.Proofs.Tryz
namespace Go.Proofs.YtmeadnlmepcmbaaGreat
open Go.RowKit
set_option maxRecDepth 100000 in
theorem qlh (v:Vol) (bi:Nat) (id:Int) (q1 q2 q3:Value) (w:World) (h:w.heap[bi]?=some (.cells #[.int .u32 id,q1,q2,q3] 36 (0,0))):Calls prog 124 #[jz v,.pointer (some ⟨bi,0,none⟩)] w (Ret (.bool (decide (v.id=id))) w):=by
 have ki:=qa h;have zi:bi<w.heap.size:=(zG.1 h).1;clear h;go_enter func124,ntmps124;by_cases he:v.id=id
 ·have h1:(v.id == id)=true:=by rw[beq_iff_eq];exact he
  rw[decide_eq_true he];replace he:=zH he;go_wp2;go_ret;exact⟨rfl,zN _ _⟩
 ·have h1:(v.id == id)=false:=by rw[beq_eq_false_iff_ne];exact he
  rw[decide_eq_false he];replace he:=zH he;go_wp2;go_ret;exact⟨rfl,zN _ _⟩
set_option maxRecDepth 100000 in
theorem qiP (A c) (vs:List Vol) (hl:vs.length<=16) (bi:Nat) (id:Int) (q1 q2 q3:Value) (w:World) (h:w.heap[bi]?=some (.cells #[.int .u32 id,q1,q2,q3] 36 (0,0))) (hr:Rd w w.heap.size 4 A vs.length (je vs)):Calls prog 60 #[.slice A vs.length c,.func (.func 124) #[] #[.pointer (some ⟨bi,0,none⟩)]] w (Zg (fun u _=>VolIx vs id u) w):=by
 replace hr:=zH hr;go_enter func60,ntmps60;go_wp2_with fail;go_loopw [8] (fun i wr=>∃ k:Nat,k<=vs.length/\i=.int .i64 (k:Int)/\Ext w wr/\∀ j (hj:j<vs.length),j<k->vs[j].id≠id) (fun i _=>vs.length-(intOf i).toNat)
 case atStart=>exact⟨0,Nat.zero_le _,rfl,Ext.refl _,fun j _ hj=>absurd hj (Nat.not_lt_zero _)⟩
 case round =>
  obtain⟨k,hk,rfl,xr,aX⟩:=hrel;replace aX:=zH aX;by_cases hlt:k<vs.length
  ·obtain⟨bv,offv,rfl,hbv,aU⟩:=hr.out.2 zO;obtain⟨d0,d1,d2,d3⟩:=XF vs k hlt;replace d0:=Ext.cell xr (aU _ _ d0);replace d1:=Ext.cell xr (aU _ _ d1);replace d2:=Ext.cell xr (aU _ _ d2);replace d3:=Ext.cell xr (aU _ _ d3);have HAT:=zH (fun he=>qhi (id:=id) hlt he fun i hi hik=>aX.out i hi hik);have HNO:=zH (fun (he:vs[k].id≠id) j (hj:j<vs.length) (hjk:j<k+1)=>by
    rcases Nat.lt_or_ge j k with h1|h1
    ·exact aX.out j hj h1
    ·obtain rfl:j=k:=zO;exact he)
   generalize vs[k]=u at *;rw[<-Nat.add_assoc] at d1 d2 d3;clear aU;have iM:=zH (IntWalk.wrap64_in ((k:Int)+1) zO);have hV:=qlh u bi id q1 q2 q3 wr (qb h xr);go_wp2_with fail;refine hV.mono ?_;rintro e w2 ⟨rfl,hB⟩;clear d0 d1 d2 d3 hV;by_cases he:u.id=id
   ·rw[decide_eq_true he];have HQ:=zH (HAT.out he);clear HAT HNO;replace he:=zH he;go_wp2_with fail;refine bodyPost_ret (v:=.int .i64 (k:Int)) ?_ rfl ⟨_,rfl,HQ.out,Ext.trans xr hB⟩;simp[results,results60,go_sem]
   ·rw[decide_eq_false he];have HQ:=zH (HNO.out he);clear HAT HNO;replace he:=zH he;have aA:=iM.out;go_wp2_with fail;refine⟨⟨k+1,hlt,rfl,Ext.trans xr hB,fun j hj hjk=>HQ.out j hj hjk⟩,?_⟩;simp[intOf];omega
  ·obtain rfl:k=vs.length:=zO;have HQ:=zH (qcv (id:=id) fun i hi=>aX.out i hi hi);go_wp2_with fail;refine bodyPost_ret (v:=.int .i64 (-1)) ?_ rfl ⟨_,rfl,HQ.out,xr⟩;simp[results,results60,go_sem]
set_option maxRecDepth 100000 in
theorem vhas_any (A c) (vs:List Vol) (hl:vs.length<=16) (bi:Nat) (id:Int) (q1 q2 q3:Value) (w:World) (h:w.heap[bi]?=some (.cells #[.int .u32 id,q1,q2,q3] 36 (0,0))) (hr:Rd w w.heap.size 4 A vs.length (je vs)):Calls prog 123 #[.slice A vs.length c,.func (.func 124) #[] #[.pointer (some ⟨bi,0,none⟩)]] w (Ret (.bool (Qs vs id).isSome) w):=by
 have HV:=zH (qiP A c vs hl bi id q1 q2 q3 w h hr);clear h hr;go_enter func123,ntmps123;go_wp2_with fail;refine HV.out.mono ?_;clear HV;rintro e w2 ⟨u,rfl,hu,hB⟩;rcases hu with ⟨j,hj,rfl,hv⟩|⟨rfl,hv⟩
 ·have e1:decide ((j:Int)≥0)=true:=decide_eq_true zO;replace hv:=zH hv;go_wp2;go_ret;exact⟨by rw[hv.out];rfl,hB⟩
 ·replace hv:=zH hv;go_wp2;go_ret;exact⟨by rw[hv.out];rfl,hB⟩
def jn (S:Sto) (next:Int) (v:Vol) (vs:List Vol) (refs:Nat->Nat):Int:=if v.id=0\/next<=v.id\/v.root<8\/256<=v.root then 2 else if (Qs vs v.id).isSome=false/\16<=vs.length then 9 else
 if Zo S v.root.toNat<=refs v.root.toNat then 6 else if okL S (-1) v.root=true then 0 else 8
def FAskQ (S:Sto) (root next:Int) (dead:List Int) (v:Vol) (w:World) (e:Ending) (w':World):Prop:=Below w.heap.size w w' /\
 ((e=.returned (.int .i64 8)/\QK S root next dead) \/
  ∃ vs refs nodes,Qb S root next dead vs/\qR S (Qk root dead vs) refs nodes/\Qw S refs/\e=.returned (.int .i64 (jn S next v vs refs)))
theorem vX {R:Ending->World->Prop} {a:Act} {W:World} {u:Value} (h4:a.tmps[4]?.getD undef=u) (hd:a.defers=[]) (hR:R (.returned u) W):bodyPost prog Tryz.f64 R .ret a W:=by refine bodyPost_ret (v:=u) ?_ hd hR;simp[results,results64,go_sem,h4]
theorem vols_len {S:Sto} {root next:Int} {dead:List Int} {vs:List Vol} (h:Qb S root next dead vs):vs.length<=16:=by
 have hv:=h.vols;unfold Vr at hv;split at hv
 ·cases hv
 ·exact kG _ _ _ _ zA2 hv
set_option maxRecDepth 100000 in
theorem qhL (A1 n1 c1 A2 n2 c2 A3 n3 c3 A4 n4 c4) (gen root next:Int) (A5 c5) (S:Sto) (dead:List Int) (v:Vol) (hT:8<=v.root->v.root<256->Zo S v.root.toNat≠0->okL S (-1) v.root=true) (w:World) (h:qV w w.heap.size (.slice A1 n1 c1) (.slice A2 n2 c2) (.slice A3 n3 c3) (.slice A4 n4 c4) S) (hd:Zv w w.heap.size (.slice A5 dead.length c5) dead):Calls prog 64 #[.agg (qF (.slice A1 n1 c1) (.slice A2 n2 c2) (.slice A3 n3 c3) (.slice A4 n4 c4) gen root next (.slice A5 dead.length c5)),jz v] w (FAskQ S root next dead v w):=by
 have HT:=zH (fun W (hx:Ext w W)=>KR A1 n1 c1 A2 n2 c2 A3 n3 c3 A4 n4 c4 gen root next A5 c5 S dead W (h.ext hx) (hd.ext_ hx));have HC:=zH (fun (hS:ql S=true) a hT W (hx:Ext w W)=>Yj A1 n1 c1 A2 n2 c2 A3 n3 c3 A4 n4 c4 S hS a hT W (h.ext hx));replace h:=zH h;replace hT:=zH hT;clear hd;go_enter func64,ntmps64;go_wp2_with fail;generalize aA:(World.alloc (World.alloc w _) _)=w1;have x1:Ext w w1:=by rw[<-aA];exact(zN _ _).trans (zN _ _)
 have rp1:w1.heap[w.heap.size]?=some (.cells (qF (.slice A1 n1 c1) (.slice A2 n2 c2) (.slice A3 n3 c3) (.slice A4 n4 c4) gen root next (.slice A5 dead.length c5)) 32 (0,0)):=by rw[<-aA];exact(zK _ _ _ zA2).trans (zI _ _ _ rfl)
 have rv1:w1.heap[w.heap.size+1]?=some (.cells #[.int .u32 v.id,.int .i64 v.root,.bool v.fz,.int .u32 v.frm] 36 (0,0)):=by rw[<-aA];exact zI _ _ _ zA2
 clear aA;refine(HT.out w1 x1).mono ?_;clear HT;rintro e w2 ⟨hB,hQ⟩;have x2:Ext w w2:=Ext.trans x1 hB;have rp2:=qb rp1 hB;have rv2:=qb rv1 hB;have kp2:=qa rp2;have kv2:=qa rv2;clear hB x1 rp1 rv1;rcases hQ with ⟨rfl,aX⟩|⟨vs,refs,nodes,cb,ca,vv,rfl,wE⟩
 ·replace aX:=zH aX;go_wp2_with fail;exact vX rfl rfl ⟨x2,.inl ⟨rfl,aX.out⟩⟩
 ·have hvs:=vols_len wE.pool;have hQ:=fun E (hh:jn S next v vs refs=E) W (hx:Ext w W)=>(⟨hx,.inr ⟨vs,refs,nodes,wE.pool,wE.cnt,wE.enough,by rw[hh]⟩⟩:FAskQ S root next dead v w (.returned (.int .i64 E)) W)
  replace hQ:=zH hQ;obtain⟨AV,cV,rfl,hHA,hHC⟩:=qE wE.own;have kc:w2.cell? ⟨cb,518,none⟩=some (.slice AV vs.length cV):=by rw[qa wE.row];exact wE.ar.vol
  have HH:=zH (vhas_any AV cV vs hvs (w.heap.size+1) v.id _ _ _ w2 rv2 (Rd.of_own wE.own));replace wE:=zH wE;by_cases h1:v.id=0
  ·have d1:(v.id == 0)=true:=by rw[beq_iff_eq];exact h1
   have hE:=zH (show jn S next v vs refs=2 by unfold jn;rw[if_pos (.inl h1)]);replace h1:=zH h1;go_wp2_with fail;exact vX rfl rfl (hQ.out _ hE.out _ x2)
  have d1:(v.id == 0)=false:=by rw[beq_eq_false_iff_ne];exact h1
  by_cases h2:next<=v.id
  ·have d3:decide (v.id≥next)=true:=decide_eq_true h2;have hE:=zH (show jn S next v vs refs=2 by unfold jn;rw[if_pos (.inr (.inl h2))]);replace h1:=zH h1;replace h2:=zH h2;go_wp2_with fail;exact vX rfl rfl (hQ.out _ hE.out _ x2)
  have d3:decide (v.id≥next)=false:=decide_eq_false h2;by_cases h3:v.root<8
  ·have d5:decide (v.root<8)=true:=decide_eq_true h3;have hE:=zH (show jn S next v vs refs=2 by unfold jn;rw[if_pos (.inr (.inr (.inl h3)))]);replace h1:=zH h1;replace h2:=zH h2;replace h3:=zH h3;go_wp2_with fail;exact vX rfl rfl (hQ.out _ hE.out _ x2)
  have d5:decide (v.root<8)=false:=decide_eq_false h3;by_cases h4:256<=v.root
  ·have d6:decide (v.root≥256)=true:=decide_eq_true h4;have hE:=zH (show jn S next v vs refs=2 by unfold jn;rw[if_pos (.inr (.inr (.inr h4)))]);replace h1:=zH h1;replace h2:=zH h2;replace h3:=zH h3;replace h4:=zH h4;go_wp2_with fail;exact vX rfl rfl (hQ.out _ hE.out _ x2)
  have d6:decide (v.root≥256)=false:=decide_eq_false h4;have d7:decide (256<=v.root)=false:=decide_eq_false h4;have hE1:=zH (show jn S next v vs refs=if (Qs vs v.id).isSome=false/\16<=vs.length then 9 else if Zo S v.root.toNat<=refs v.root.toNat then 6 else if okL S (-1) v.root=true then 0 else 8 by unfold jn;rw[if_neg (by rintro (h|h|h|h);exact h1 h;exact h2 h;exact h3 h;exact h4 h)]);obtain⟨r,hr⟩:∃ r:Nat,v.root=(r:Int):=⟨v.root.toNat,zO⟩
  have oJ:8<=r:=zO;have oI:r<256:=zO;have hto:v.root.toNat=r:=zO;rw[hr] at rv2 kv2 d5 d6 d7;rw[hto] at hE1 hT;have wC:=zH (hT.out zO zO);clear hT h3 h4 hto;replace h1:=zH h1;replace h2:=zH h2;replace hr:=zH hr;go_wp2_with fail;refine HH.out.mono ?_;clear HH;rintro e w3 ⟨rfl,hB⟩;have x3:Ext w w3:=Ext.trans x2 hB;have rp3:=qb rp2 hB;have rv3:=qb rv2 hB;have kc3:=Ext.cell hB kc;have rc3:=qb wE.out.row hB;clear rp2 rv2 kp2 kv2 kc x2 hB;have wQ:Hid ((Qs vs v.id).isSome=(Qs vs v.id).isSome):=zH rfl;generalize (Qs vs v.id).isSome=there at *;have hHV:Hid (there=false/\16<=vs.length\/¬(there=false/\16<=vs.length)):=zH (Classical.em _);rcases hHV.out with ⟨rfl,uw⟩|uw
  ·have e1:decide ((vs.length:Int)≥16)=true:=decide_eq_true zO;have hE:=zH (show jn S next v vs refs=9 by rw[hE1.out,if_pos ⟨rfl,uw⟩]);replace uw:=zH uw;clear hHV;go_wp2_with fail;exact vX rfl rfl (hQ.out _ hE.out _ x3)
  have fZ:=zH (show jn S next v vs refs=if Zo S r<=refs r then 6 else if okL S (-1) v.root=true then 0 else 8 by rw[hE1.out,if_neg uw]);have HB:there=true\/(there=false/\decide ((vs.length:Int)≥16)=false/\decide (16<=vs.length)=false):=by
   cases there
   ·right;have:¬16<=vs.length:=fun h=>uw ⟨rfl,h⟩;exact⟨rfl,decide_eq_false zO,decide_eq_false this⟩
   ·exact .inl rfl
  clear hE1 hHV uw;obtain⟨b3,o3,d3',e3,dJ,aC⟩:=GE wE.out.pool.may h.out.now;simp only[Value.slice.injEq] at e3;obtain⟨rfl,rfl,rfl⟩:=e3;have fJ:=Ext.cell x3 (aC r oI);have yN:=(qa rc3 (6+r)).trans (wE.out.ar.ref r oI);have wU:=zH (IntWalk.wrap64_in (Zo S r:Int) (by have:=(S.now[r]?.getD 0).toNat_lt;unfold Zo;omega));have hwn2:=zH (show IntKind.i64.wrap (Zo S r:Int)=(Zo S r:Int) by rw[IntKind.wrap_i64];have:=(S.now[r]?.getD 0).toNat_lt;unfold Zo;omega);have HCK:=zH (fun (aG:Zo S r≠0) W (hx:Ext w W)=>by
   obtain⟨a,ha,ht⟩:=ZR (wC.out aG);obtain rfl:r=a:=by have:=hr.out;omega
   exact HC.out wE.out.pool.may r ht W hx)
  clear aC HC;generalize hnw:Zo S r=nw at *;generalize hrfe:refs r=rf at *;replace hnw:=zH hnw;replace hrfe:=zH hrfe;have gP:∀ W,qj.r w3 W->∀ i,W.cell? ⟨w.heap.size,i,none⟩=(qF (.slice A1 n1 c1) (.slice A2 n2 c2) (.slice (some ⟨b3,o3,none⟩) 256 c3) (.slice A4 n4 c4) gen root next (.slice A5 dead.length c5))[i]?:=fun W h=>qa (qb rp3 h);have gV:∀ W,qj.r w3 W->∀ i,W.cell? ⟨w.heap.size+1,i,none⟩=#[.int .u32 v.id,.int .i64 (r:Int),.bool v.fz,.int .u32 v.frm][i]?:=fun W h=>qa (qb rv3 h);have gN:∀ W,qj.r w3 W->W.cell? ⟨b3,o3+r,none⟩=some (.int .u8 (nw:Int)):=fun W h=>Ext.cell h fJ;have gR:∀ W,qj.r w3 W->W.cell? ⟨cb,6+r,none⟩=some (.int .i64 (rf:Int)):=fun W h=>Ext.cell h yN;clear rc3;rcases HB with rfl|⟨rfl,e1,e2⟩
  all_goals
   go_upto_region 9 with fail;refine qp zQ ?_;refine qQ (w:=w3) qj (qH []) (List.replicate 16 true) 0 zQ zQ zQ zQ zQ zQ zQ ?st (Rel.drew _ _) ?walk
   case st=>exact qk (fun _ h=>by cases h)
   case walk =>
    intro K hK;dsimp only[qu,List.replicate];have hw':=wU.out;have fV:=hwn2.out;refine zB6 ?_
    first
     |(refine qd (.pointer (some ⟨b3,o3+r,none⟩)) zA0 zA0 (fun W hW _=>⟨W,?_,Rel.refl _ W⟩) ?_
       ·go_simp;intro ig;exfalso;omega
       simp only[Act.put,qf,qc,qg,zA,zB,zC])
     |skip
    refine zB6 ?_
    first
     |(refine qd (.pointer (some ⟨cb,6+r,none⟩)) zA0 zA0 (fun W hW _=>⟨W,?_,Rel.refl _ W⟩) ?_
       ·go_simp;intro ig;exfalso;omega
       simp only[Act.put,qf,qc,qg,zA,zB,zC])
     |skip
    refine zB6 ?_;refine qv (hK _ _ fun V hV hF=>?_);clear hF hK gP gV gN gR;have hV:Ext w3 V:=hV;refine zC3 ?_;have x4:=x3.trans hV;have kp4:=qa (qb rp3 hV);have kv4:=qa (qb rv3 hV);clear rp3 rv3 hw';clear fV;go_wp2;refine Qr ?_;by_cases hle:nw<=rf
    ·have f1:decide ((nw:Int)<=(rf:Int))=true:=decide_eq_true zO;have hE:=zH (show jn S next v vs refs=6 by rw[fZ.out,if_pos hle]);replace hle:=zH hle;go_wp2_with fail;exact vX rfl rfl (hQ.out _ hE.out _ x4)
    ·have f1:decide ((nw:Int)<=(rf:Int))=false:=decide_eq_false zO;have hE:=zH (show jn S next v vs refs=0 by rw[fZ.out,if_neg hle,if_pos (wC.out zO)]);have HC4:=zH (HCK.out zO V x4);replace hle:=zH hle;clear HCK;go_wp2_with fail;refine HC4.out.mono ?_;clear HC4;rintro e w5 ⟨u,rfl,⟨m,rfl⟩,hB⟩;go_wp2_with fail;exact vX rfl rfl (hQ.out _ hE.out _ (x4.trans hB))
def ZT:Qd:=⟨Unit,fun _=>undef,fun _ _=>True⟩
theorem qZ (u:Unit):ZT.f u=undef:=rfl
theorem ZG {R:Rel}:∀ p,qL R (ZT.φ p):=fun _ _ _ _ _=>trivial
theorem Ja {P:Program} {o:Oper} {a:Act} {W W':World} (hr:(execOp a.eval o).run P W=.ok .skip W') (hx:Ext W W'):QO qj P o a W ZT:=Vx hr ⟨(),rfl,trivial,hx⟩
theorem same1 {w:World} {b:Nat} {x0:Value} {ty:TypeId} (h:w.heap[b]?=some (.cells #[x0] ty (0,0))):Ext w (w.setCell ⟨b,0,none⟩ x0):=Qv h rfl
theorem same4 {w:World} {b:Nat} {x0 x1 x2 x3:Value} {ty:TypeId} (h:w.heap[b]?=some (.cells #[x0,x1,x2,x3] ty (0,0))):Ext w ((((w.setCell ⟨b,0,none⟩ x0).setCell ⟨b,1,none⟩ x1).setCell ⟨b,2,none⟩ x2).setCell ⟨b,3,none⟩ x3):=by have e0:=Qv (j:=0) (v:=x0) h rfl;have h0:=qb h e0;have e1:=Qv (j:=1) (v:=x1) h0 rfl;have h1:=qb h0 e1;have e2:=Qv (j:=2) (v:=x2) h1 rfl;have h2:=qb h1 e2;exact((e0.trans e1).trans e2).trans (Qv (j:=3) (v:=x3) h2 rfl)
def vI (B:Nat) (ty:TypeId) (Φ:Array Value->World->Prop) (hΦ:∀ cs W W',W.grownBy W' (some B)->Φ cs W->Φ cs W'):Rel where
 rel W W':=W.grownBy W' (some B)/\(B<W.heap.size->W'.heap[B]?=W.heap[B]?\/∃ cs,W'.heap[B]?=some (.cells cs ty (0,0))/\Φ cs W')
 refl' W:=⟨World.grownBy.refl _ _,fun _=>.inl rfl⟩
 trans' h k:=⟨h.1.trans k.1,fun hb=>by
  rcases k.2 (Nat.lt_of_lt_of_le hb h.1.size) with e|e
  ·rw[e];rcases h.2 hb with e1|⟨cs,e1,e2⟩
   ·exact .inl e1
   ·exact .inr ⟨cs,e1,hΦ _ _ _ k.1 e2⟩
  ·exact .inr e⟩
 drew' W:=⟨⟨rfl,rfl,rfl,zM _,fun _ _ _=>rfl⟩,fun _=>.inl rfl⟩
section
variable {B:Nat} {ty:TypeId} {Φ:Array Value->World->Prop} {hΦ:∀ cs W W',W.grownBy W' (some B)->Φ cs W->Φ cs W'}
theorem qiF {W W':World} (h:Ext W W'):(vI B ty Φ hΦ).r W W':=⟨ZP h _,fun hb=>.inl (h.block B hb)⟩
theorem ku {W W':World} (h:(vI B ty Φ hΦ).r W W') {b:Nat} {o:Obj} (hp:b≠B) (hc:W.heap[b]?=some o):W'.heap[b]?=some o:=
 (h.1.block b (zG.1 hc).1 (fun x=>hp (by simpa using x))).trans hc
theorem qcm {W W':World} (h:(vI B ty Φ hΦ).r W W') {o:Obj} (hc:W.heap[B]?=some o):W'.heap[B]?=some o\/∃ cs,W'.heap[B]?=some (.cells cs ty (0,0))/\Φ cs W':=by
 have:=h.2 (zG.1 hc).1
 rwa [hc] at this
theorem UX {W W':World} {B0:Nat} (h:(vI B ty Φ hΦ).r W W') (h1:B0<=B) (h2:B0<=W.heap.size):Below B0 W W':=(Below.refl _ _).grown h.1 h2 (fun g hg=>by simp at hg;omega)
theorem UY {W W':World} (h:(vI B ty Φ hΦ).r W W') {k:Nat} (hk:k<W.heap.size) (hp:k≠B):W'.heap[k]?=W.heap[k]?:=h.1.block k hk fun x=>hp (by simpa using x)
theorem qcQ {lo:Nat} {S:Sto} (hB:B<lo):∀ p,qL (vI B ty Φ hΦ) ((outTw lo S).φ p):=fun p W W' he h =>
 QM.keep h (zM _) he.1.size fun b h1 hb=>UY he hb zO
def XN (B:Nat) (ty:TypeId) (Φ:Array Value->World->Prop):Qd:=⟨Unit,fun _=>undef,fun _ W=>∃ cs,W.heap[B]?=some (.cells cs ty (0,0))/\Φ cs W⟩
theorem Qy (u:Unit):(XN B ty Φ).f u=undef:=rfl
theorem qbY:∀ p,qL (vI B ty Φ hΦ) ((XN B ty Φ).φ p):=fun _ W W' he ⟨cs,h1,h2⟩=>by
 rcases qcm he h1 with e|e
 ·exact⟨cs,e,hΦ _ _ _ he.1 h2⟩
 ·exact e
theorem qgc {P:Program} {o:Oper} {a:Act} {W w':World} {cs:Array Value} (hr:(execOp a.eval o).run P W=.ok .skip w') (hg:W.grownBy w' (some B)) (hw:w'.heap[B]?=some (.cells cs ty (0,0))) (hp:Φ cs W):QO (vI B ty Φ hΦ) P o a W (XN B ty Φ):=
 Vx hr ⟨(),rfl,⟨cs,hw,hΦ _ _ _ hg hp⟩,hg,fun _=>.inr ⟨cs,hw,hΦ _ _ _ hg hp⟩⟩
end
def jt (lo:Nat) (S:Sto) (cs:Array Value) (W:World):Prop:=∃ x0 x1 x2 x3,cs=#[x0,x1,x2,x3]/\QM lo S (.agg cs) W
theorem jt.keep {lo:Nat} {S:Sto} {B:Nat} (hB:B<lo):∀ cs W W',W.grownBy W' (some B)->jt lo S cs W->jt lo S cs W':=fun cs W W' hg h=>by obtain⟨x0,x1,x2,x3,e,hT⟩:=h;exact⟨x0,x1,x2,x3,e,QM.keep hT (zM _) hg.size fun k h1 hk=>hg.block k hk fun e=>by simp at e;omega⟩
theorem qgd {P:Program} {o:Oper} {a:Act} {W:World} {lo B:Nat} {S:Sto} {ty:TypeId} {x0 x1 x2 x3:Value} (hB:B<lo) (h:∃ u0 u1 u2 u3,W.heap[B]?=some (.cells #[u0,u1,u2,u3] ty (0,0))) (hT:QM lo S (.agg #[x0,x1,x2,x3]) W) (hr:(execOp a.eval o).run P W=.ok .skip ((((W.setCell ⟨B,0,none⟩ x0).setCell ⟨B,1,none⟩ x1).setCell ⟨B,2,none⟩ x2).setCell ⟨B,3,none⟩ x3)):QO (vI B ty (jt lo S) (jt.keep hB)) P o a W (XN B ty (jt lo S)):=by
 obtain⟨u0,u1,u2,u3,h⟩:=h;exact qgc hr (QE.trans (QE.trans (QE.trans QE))) (VC h x0 x1 x2 x3) ⟨x0,x1,x2,x3,rfl,hT⟩
theorem twin_own {W W':World} {lo B:Nat} {S:Sto} {ty:TypeId} (hB:B<lo) {u0 u1 u2 u3:Value} (h:(vI B ty (jt lo S) (jt.keep hB)).r W W') (hc:W.heap[B]?=some (.cells #[u0,u1,u2,u3] ty (0,0))):∃ u0 u1 u2 u3,W'.heap[B]?=some (.cells #[u0,u1,u2,u3] ty (0,0)):=by
 rcases qcm h hc with e|⟨cs,e,x0,x1,x2,x3,rfl,_⟩
 ·exact⟨_,_,_,_,e⟩
 ·exact⟨_,_,_,_,e⟩
end Go.Proofs.YtmeadnlmepcmbaaGreat
namespace Go.Proofs.YtmeadnlmepcmbaaGreat
open Go.RowKit Go.Shelf
attribute [local go_sem] Oper.semAt_some
theorem qci {n b D:Nat} {v:Value} {R:Ending->World->Prop} {a:Act} {W:World} (h4:a.tmps[4]?.getD undef=.pointer (some ⟨b+1+1,0,none⟩)) (hd:a.defers=[{ target:=.collected D,args:=#[] }]) (hK:W.heap[D]?=some (.deferred (some []))) (hD:b+2<D) (hB:W.heap[b+2]?=some (.cells #[v] 26 (0,0))) (hR:∀ W',W'=W.putObj D (.deferred none)->R (.returned v) W'):bodyPostM Fence.wide n prog Tryz.f137 R .ret a W:=by
 have k4:=qa ((World.putObj_heap_other (o:=.deferred none) (show b+2≠D by omega)).trans hB);change LeavesInM Fence.wide n prog Tryz.f137 a.tmps R a.defers .returning W;rw[hd];refine⟨zA2,.inl ⟨_,_,rfl,run_takeDeferred hK,v,?_,hR _ rfl⟩⟩;simp[results,results137,go_sem,h4,k4]
set_option maxRecDepth 100000 in
theorem qkY (A1 n1 c1 A2 n2 c2) (S:Sto) (hS:ql S=true) (m:Nat) (hm:m<256) (w:World) (hb:Bls w w.heap.size (.slice A1 n1 c1) S.bs) (hw:Wrs w w.heap.size (.slice A2 n2 c2) S.ws):Calls prog 137 #[Xb A1 n1 c1 A2 n2 c2,.int .i64 (m:Int)] w (Zg (fun u W=>Bys W W.heap.size u (Ji S m)) w):=by
 obtain⟨oD,xO,mQ,hl4⟩:=Qc hS;have cZ:=QV hS;have eu:Ji S m=match jv S.ws m with|some l=>l|none=>S.bs[m]:=by unfold Ji;rw[zL zO];rfl
 obtain⟨lW,dE,hm1,hA1⟩:=hb.at_;obtain⟨b1,o1,rfl,bQ⟩:=hA1 zO;obtain⟨A0,c0,uA,xB⟩:=hb.get (bs:=S.bs) m zO;have hIK:n1=256:=by rw[lW,oD]
 generalize S.bs[m]=l0 at *;generalize Ji S m=l at *;generalize hwsE:S.ws=ws at *;obtain⟨ps,ax,⟨A2',c2',e2,aA,bP,aO⟩,hw4⟩:=hw;rw[<-ax] at eu e2 aA aO xO;clear lW hS oD mQ hl4 hA1 cZ hwsE hb;subst hIK;simp only[Value.slice.injEq] at e2;obtain⟨rfl,aT,rfl⟩:=e2;rw[<-aT] at aA aO xO;replace aT:=zH aT;replace eu:=zH eu;have bM:ps.length=n2:=by rw[aT.out];simp
 obtain⟨us,ut⟩:∃ us:List W2,us=ps.map fun p=>((p.1.1,Ku p.2):W2):=⟨_,rfl⟩
 have lY:us.length=n2:=by rw[ut,List.length_map,bM]
 have hua:∀ j,(us[j]?.getD w2z).1=atN ws j:=fun j=>by unfold atN;rw[ut,<-ax,List.getElem?_map,List.getElem?_map];cases ps[j]? <;> rfl
 have hud:∀ j W,Ext w W->Bys W W.heap.size (sv (us[j]?.getD w2z).2) (datN ws j):=fun j W hx=>by
  unfold datN;rw[ut,<-ax,List.getElem?_map,List.getElem?_map];rcases hj:ps[j]? with _|p
  ·exact⟨none,0,rfl,zM _,zA6,zA2,fun hn=>absurd hn zA2⟩
  ·obtain⟨⟨A',c',e'⟩,hy⟩:=hw4 p (List.mem_of_getElem? hj);have:sv (Ku p.2)=p.2:=by rw[e'];rfl
   simp only[Option.map_some,Option.getD_some];rw[this];exact(hy.below hx).more hx.size
 refine(callsIn_wide (n:=3)).1 ?_;refine callsIn_of_wp_marks func137 rfl trivial ?_ rfl;simp only[ntmps137,List.size_toArray,List.length_cons,List.length_nil,Nat.reduceAdd,Nat.reduceSub,Array.replicate_succ,Array.replicate_zero,List.push_toArray,List.append_toArray,List.nil_append,List.cons_append];refine wpIn_wide.2 ?_;go_wp2_with fail;generalize lL:(World.alloc (World.alloc (World.alloc w _) _) _)=w2;have x2:Ext w w2:=by rw[<-lL];exact((zN _ _).trans (zN _ _)).trans (zN _ _)
 have s2:w.heap.size+3<=w2.heap.size:=by rw[<-lL];simp
 have ra2:w2.heap[w.heap.size]?=some (.cells #[.slice (some ⟨b1,o1,none⟩) 256 c1,.slice A2 n2 c2] 25 (0,0)):=by rw[<-lL];exact(zK _ _ _ zA3).trans ((zK _ _ _ zA3).trans (zI _ _ _ rfl))
 have rb2:w2.heap[w.heap.size+1]?=some (.cells #[.int .i64 (m:Int)] 3 (0,0)):=by rw[<-lL];exact(zK _ _ _ zA3).trans (zI _ _ _ zA2)
 have rc2:w2.heap[w.heap.size+2]?=some (.cells #[.slice none 0 0] 26 (0,0)):=by rw[<-lL];exact zI _ _ _ zA2
 clear lL;have ka2:=qa ra2;have kb2:=qa rb2;refine(Tf A2 n2 c2 w2).mono ?_;rintro e w3 ⟨rfl,rfl⟩;go_wp2_with fail;have x5:Ext w2 (w2.alloc (.cells #[.slice A2 n2 c2] 23)):=zN _ _;obtain⟨b2,bU,hSW⟩:∃ b2,b2<w.heap.size/\SW (w2.alloc (.cells #[.slice A2 n2 c2] 23)) w2.heap.size b2 (.slice A2 n2 c2) us:=by
  have yu:(w2.alloc (.cells #[.slice A2 n2 c2] 23)).cell? ⟨w2.heap.size,0,none⟩=some (.slice A2 n2 c2):=by rw[qa (zI _ _ _ rfl)];rfl
  by_cases hz:n2=0
  ·have:us=[]:=List.length_eq_zero_iff.1 zO;exact⟨b1,bQ,yu,.inl ⟨this,A2,c2,by rw[hz]⟩⟩
  ·obtain⟨b2,o2,rfl,hlt,hc⟩:=aO.2 zO;refine⟨b2,hlt,yu,.inr ⟨o2,c2,by rw[lY],fun i hi=>?_⟩⟩;have fP:i<ps.length:=zO;obtain⟨g0,g1⟩:=KB ps i fP;have hx:=x2.trans x5;rw[ut];refine⟨?_,?_⟩
   ·rw[Ext.cell hx (hc _ _ g0),List.getElem?_map,zL fP];rfl
   ·obtain⟨⟨A',c',e'⟩,_⟩:=hw4 ps[i] (List.getElem_mem fP);rw[Nat.add_assoc,Ext.cell hx (hc _ _ g1),List.getElem?_map,zL fP];simp only[Option.map_some,Option.getD_some];rw[e'];rfl
 clear ut aO;replace hua:=zH hua;replace hud:=zH hud;refine(wpIn_wide (n:=3)).1 ?_;refine wpIn_rangeFunc_ownH rfl zO (gf:=189) (lb:=#[.pointer (some ⟨w2.heap.size,0,none⟩)]) rfl trivial (enters_of func189 zQ rfl)
  (qfw (3-1) zO w2.heap.size b2 _ _ (by rw[lY];omega) _ zA2 zA1 hSW) QA.t (QA.b zA2 zA1) (Below.refl _ _) (fun _=>rfl)
  (fun pre W'=>((W'.heap[w.heap.size]?=some (.cells #[.slice (some ⟨b1,o1,none⟩) 256 c1,.slice A2 n2 c2] 25 (0,0))/\W'.heap[w.heap.size+1]?=some (.cells #[.int .i64 (m:Int)] 3 (0,0)))/\(W'.heap[w.heap.size+2]?=some (.cells #[.slice none 0 0] 26 (0,0))/\W'.heap[w2.heap.size]?=some (.cells #[.slice A2 n2 c2] 23 (0,0))))/\(Below w.heap.size w W'/\∀ y∈pre,atN ws y≠(m:Int)))
  (fun c pre W'=>(∃ pre' x Wb,c=.ret/\pre=pre'++[x]/\atN ws x=(m:Int)/\(∀ y∈pre',atN ws y≠(m:Int))/\Wb.heap[w.heap.size+2]?=some (.cells #[sv (us[x]?.getD w2z).2] 26 (0,0))/\Qo Wb W')/\Below w.heap.size w W')
  (OwnFrom.and (OwnFrom.and (OwnFrom.and (QC _ _ _ _) (QC _ _ _ _)) (OwnFrom.and (QC _ _ _ _) (QC _ _ _ _))) (OwnFrom.and (ownFrom_below (zM _) zA1) (Yz _ _)))
  (fun c=>OwnFrom.and (fun s A C row hs hg hr=>by obtain⟨pre',x,Wb,h1,h2,h3,h4,h5,h6⟩:=hs;exact⟨pre',x,Wb,h1,h2,h3,h4,h5,h6.grown hg fun r e=>(hr r e).2⟩) (ownFrom_below (zM _) zA1))
  ⟨⟨⟨qb ra2 x5,qb rb2 x5⟩,⟨qb rc2 x5,zI _ _ _ rfl⟩⟩,x2.trans x5,fun y hy=>by cases hy⟩
  (fun x a' W'=>∃ t8,a'={ tmps:=#[Xb (some ⟨b1,o1,none⟩) 256 c1 A2 n2 c2,.int .i64 (m:Int),.pointer (some ⟨w.heap.size,0,none⟩),.pointer (some ⟨w.heap.size+1,0,none⟩),.pointer (some ⟨w.heap.size+1+1,0,none⟩),undef,.pointer (some ⟨t8,0,none⟩),.pointer (some ⟨w.heap.size,1,none⟩),.slice A2 n2 c2,.func (.func 189) #[] #[.pointer (some ⟨w2.heap.size,0,none⟩)],
    .int .i64 (x:Int),.agg #[.int .i64 (us[x]?.getD w2z).1,sv (us[x]?.getD w2z).2],undef,undef,undef,undef,undef,undef,undef,undef,undef,undef,undef],defers:=[] }/\W'.heap[t8]?=some (.cells #[.int .i64 (us[x]?.getD w2z).1,sv (us[x]?.getD w2z).2] 142 (0,0)))
  (fun x a' s A C row hs hg hr=>by obtain⟨t8,e,h⟩:=hs;exact⟨t8,e,QC (β:=Unit) _ _ _ _ () A C row h hg hr⟩) ?assign ?body ?done ?stop
 case assign =>
  rintro l' pre x W' K ⟨⟨⟨i1,i2⟩,⟨i3,i7⟩⟩,i4,i5⟩ hK
  gi_wp2
  have z1:=(zG.1 i1).1;have z2:=(zG.1 i2).1;have z3:=(zG.1 i3).1;have z7:=(zG.1 i7).1;have z4:=i4.size;refine hK _ _ ((KeepsOthers.alloc _ _).from _) ⟨zK _ _ _ z7,zK _ _ _ zO⟩ ⟨⟨⟨(zK _ _ _ z1).trans i1,(zK _ _ _ z2).trans i2⟩,⟨(zK _ _ _ z3).trans i3,(zK _ _ _ z7).trans i7⟩⟩,Below.alloc i4 z4 _,i5⟩ ⟨W'.heap.size,rfl,zI _ _ _ rfl⟩
 case body =>
  rintro l' pre x a' W' hl ⟨rr,hlp⟩ ⟨⟨⟨i1,i2⟩,⟨i3,i7⟩⟩,i4,i5⟩ ⟨t8,rfl,oJ⟩ _;have hax:=hua.out x;generalize hu9:(us[x]?.getD w2z)=u9 at *;obtain⟨a9,A9,n9,c9⟩:=u9;simp only at hax;subst hax;have k8:=qa oJ;have k2:=qa i2;have k3:=qa i3;have f3:=qe i3;replace i5:=zH i5;replace hu9:=zH hu9;clear ka2 kb2;by_cases hq:atN ws x=(m:Int)
  ·have sV:(atN ws x == (m:Int))=true:=by rw[beq_iff_eq];exact hq
   replace hq:=zH hq
   gi_wp2_with fail
   refine⟨(KeepsOthers.setCell _ _ _).from _,⟨rfl,pre,x,rfl,hq.out,i5.out,_,?_,Qo.refl _⟩,Below.setCell i4 (p:=⟨w.heap.size+1+1,0,none⟩) zA1 _⟩;rw[hu9.out];exact qi i3 0 _
  ·have sV:(atN ws x == (m:Int))=false:=by rw[beq_eq_false_iff_ne];exact hq
   replace hq:=zH hq
   gi_wp2_with fail
   refine⟨KeepsFrom.refl _ _,QA.refl _ _ _,⟨⟨i1,i2⟩,⟨i3,i7⟩⟩,i4,fun y hy=>?_⟩;rcases List.mem_append.1 hy with h|h
   ·exact i5.out y h
   ·obtain rfl:y=x:=by simpa using h
    exact hq.out
 case done =>
  rintro D ys W' hD rfl ⟨⟨⟨i1,i2⟩,⟨i3,_⟩⟩,i4,i5⟩ hK;have h0:=qhx (ws:=ws) (a:=(m:Int)) (by rw[show ws.length=us.length by rw[lY,<-bM,<-ax,List.length_map]];exact i5);have hll:l=l0:=by rw[eu.out,ax,h0]
  have hcb':=Ext.cell i4 uA;rw[<-hll] at hcb' xB;clear h0 hll uA;have k1:=qa i1;have k2:=qa i2;have k3:=qa i3;have f3:=qe i3;have im:(m:Int)<256:=zO;replace i5:=zH i5;replace xB:=zH xB;clear ka2 kb2 hw4 aT;go_wp2_with fail;have hDw:w.heap.size+2<D:=by simp at hD;omega
  have q3:=qi i3 0 (.slice A0 l.length c0);have qK:=(zJ W' ⟨w.heap.size+1+1,0,none⟩ (.slice A0 l.length c0) D zA1).trans hK;have qx:=Below.setCell i4 (p:=⟨w.heap.size+1+1,0,none⟩) zA1 (.slice A0 l.length c0);generalize World.setCell W' _ _=wf at *;exact qci (b:=w.heap.size) rfl rfl qK hDw q3 (fun W' e=>by have hX:Ext w W':=e ▸ qx.trans (belowK_b (w:=w) (zM _) wf D _ _ zO qK rfl rfl);exact⟨_,rfl,(xB.out.below hX).more hX.size,hX⟩)
 case stop =>
  rintro D c pre W' hD ⟨k,hk,hpre⟩ ⟨⟨pre',x,Wb,rfl,rfl,hx,iQ,hRB,hCK⟩,i4⟩ hK
  gi_wp2_with fail
  have hDw:w.heap.size+2<D:=by simp at hD;omega
  have xO:l=datN ws x:=by rw[eu.out,ax,qhy (ws:=ws) (k:=k) (by rw[<-ax,List.length_map,bM,<-lY];exact hk) (by rw[show ws.length=us.length by rw[lY,<-bM,<-ax,List.length_map]];exact hpre) hx iQ]
  exact qci (b:=w.heap.size) rfl rfl hK hDw (hCK.row hRB) (fun W'' e=>by have hX:Ext w W'':=e ▸ i4.trans (belowK_b (w:=w) (zM _) W' D _ _ zO hK rfl rfl);exact⟨_,rfl,by rw[xO];exact hud.out x W'' hX,hX⟩)
end Go.Proofs.YtmeadnlmepcmbaaGreat
namespace Go.Proofs.YtmeadnlmepcmbaaGreat
open Go.RowKit
theorem GM {R:Ending->World->Prop} {a:Act} {W:World} {b:Nat} {x0 x1 v:Value} (h4:a.tmps[4]?.getD undef=.pointer (some ⟨b,0,none⟩)) (h5:a.tmps[5]?.getD undef=v) (hd:a.defers=[]) (aF:W.heap[b]?=some (.cells #[x0,x1] 113 (0,0))) (hR:R (.returned (.tuple #[.agg #[x0,x1],v])) W):bodyPost prog Tryz.f72 R .ret a W:=by
 refine bodyPost_ret (v:=.tuple #[.agg #[x0,x1],v]) ?_ hd hR;have k:=qa aF;simp[results,results72,go_sem,h4,h5,k]
set_option maxRecDepth 100000 in
theorem qkR (A1 n1 c1 A2 n2 c2 A3 n3 c3 A4 n4 c4) (S:Sto) (a:Int) (w:World) (h:qV w w.heap.size (.slice A1 n1 c1) (.slice A2 n2 c2) (.slice A3 n3 c3) (.slice A4 n4 c4) S):Calls prog 72 #[Qe A1 n1 c1 A2 n2 c2 A3 n3 c3 A4 n4 c4,.int .i64 a] w (Zg (qde w.heap.size (if JH S a=0 then qt S a.toNat else none)) w):=by
 have HA:=zH (fun W (hx:Ext w W)=>qcd A1 n1 c1 A2 n2 c2 A3 n3 c3 A4 n4 c4 S a W (h.ext hx));obtain⟨q,hq⟩:∃ q,(if JH S a=0 then qt S a.toNat else none)=q:=⟨_,rfl⟩
 rw[hq];replace hq:=zH hq;replace h:=zH h;go_enter func72,ntmps72;go_wp2_with fail;generalize aA:(World.alloc (World.alloc w _) _)=w1;have x1:Ext w w1:=by rw[<-aA];exact(zN _ _).trans (zN _ _)
 have r1:w1.heap[w.heap.size]?=some (.cells #[.slice A1 n1 c1,.slice A2 n2 c2,.slice A3 n3 c3,.slice A4 n4 c4] 28 (0,0)):=by rw[<-aA];exact(zK _ _ _ zA2).trans (zI _ _ _ rfl)
 have q1:w1.heap[w.heap.size+1]?=some (.cells #[.int .i64 0,.slice none 0 0] 113 (0,0)):=by rw[<-aA];exact zI _ _ _ zA2
 clear aA;have k1:=qa r1;go_wp2_with fail;refine(HA.out w1 x1).mono ?_;clear HA;rintro e w2 ⟨rfl,hB⟩;have x2:Ext w w2:=x1.trans hB;have r2:=qb r1 hB;have q2:=qb q1 hB;clear hB r1 q1 x1 k1;have k2:=qa r2;have kq2:=qa q2;have fq2:=qe q2;by_cases hE:JH S a=0
 ·obtain⟨hS,n,rfl,h8,h256,hc⟩:=kR hE;have hNA:q=QI (Ji S n):=by rw[<-hq.out,if_pos hE,Int.toNat_natCast];unfold qt;exact if_neg hc
  rw[hE];clear hq;have HS:=zH (fun W (hx:Ext w W)=>qkY A1 n1 c1 A2 n2 c2 S hS n h256 W ((h.out.bs.below hx).more hx.size) ((h.out.ws.below hx).more hx.size));have HR:=zH (fun v W (hv:Bys W W.heap.size v (Ji S n))=>qkH v (Ji S n) W hv);replace hE:=zH hE;replace hS:=zH hS;replace hNA:=zH hNA;replace hc:=zH hc;generalize Ji S n=l at *;go_wp2_with fail;refine(HS.out w2 x2).mono ?_;clear HS;rintro e w3 ⟨u,rfl,hu,hB⟩;have x3:Ext w w3:=x2.trans hB;have q3:=qb q2 hB;clear hB k2 r2 kq2 fq2 q2;go_wp2_with fail;refine(HR.out u w3 hu).mono ?_;clear HR hu;rintro e w4 ⟨u4,rfl,hu,hB⟩;have hB:Ext w3 w4:=hB;have x4:Ext w w4:=x3.trans hB;have q4:=qb q3 hB;have z3:=x3.size;have z4:w.heap.size+1<w4.heap.size:=(zG.1 q4).1;have z3q:w.heap.size+1<w3.heap.size:=(zG.1 q3).1;clear hB q3;have kq4:=qa q4;have fq4:=qe q4;rcases hQ:QI l with _|⟨lvl,xs⟩
  ·rw[hQ] at hu;obtain⟨er,aG,rfl⟩:=hu;have hq:q=none:=by rw[hNA.out,hQ]
   replace hq:=zH hq;have pG:(er != 0)=true:=by rw[bne_iff_ne];exact aG
   replace aG:=zH aG;go_wp2_with fail;generalize aY:(World.alloc _ _)=wf;have rf:wf.heap[w.heap.size+1]?=some (.cells #[.int .i64 0,.slice none 0 0] 113 (0,0)):=by rw[<-aY];exact(zK _ _ _ (by simpa using z4)).trans (qi (qi q4 0 _) 1 _)
   have bf:Below w.heap.size w wf:=by rw[<-aY];exact Below.alloc (Below.setCell (Below.setCell x4 (p:=⟨w.heap.size+1,0,none⟩) zA2 _) (p:=⟨w.heap.size+1,1,none⟩) zA2 _) zA1 _
   exact GM (b:=w.heap.size+1) rfl rfl rfl rf ⟨_,rfl,(by rw[hq.out];exact⟨8,zD,rfl⟩),bf⟩
  ·rw[hQ] at hu;obtain⟨A,c,rfl,hi⟩:=hu;have hq:q=some (lvl,xs):=by rw[hNA.out,hQ]
   replace hq:=zH hq;replace hi:=zH hi;go_wp2_with fail;generalize aY:(World.alloc _ _)=wf;have rf:wf.heap[w.heap.size+1]?=some (.cells #[.int .i64 lvl,.slice A xs.length c] 113 (0,0)):=by rw[<-aY];exact(zK _ _ _ (by simpa using z4)).trans (qi (qi q4 0 _) 1 _)
   have bf:Below w.heap.size w wf:=by rw[<-aY];exact Below.alloc (Below.setCell (Below.setCell x4 (p:=⟨w.heap.size+1,0,none⟩) zA2 _) (p:=⟨w.heap.size+1,1,none⟩) zA2 _) zA1 _
   have hfi:ZL w.heap.size wf (.slice A xs.length c) xs:=by refine(hi.out.keep (by have:=bf.size;rw[<-aY];simp) fun p h1 h2=>?_).mono z3;rw[<-aY,World.cell?_alloc_lt _ _ _ (by simpa using h2),World.cell?_setCell_other _ _ _ _ (fun e=>by subst e;simp at h1;omega),World.cell?_setCell_other _ _ _ _ (fun e=>by subst e;simp at h1;omega)]
   exact GM (b:=w.heap.size+1) rfl rfl rfl rf ⟨_,rfl,(by rw[hq.out];exact⟨A,c,rfl,hfi⟩),bf⟩
 ·have hqn:=zH (show q=none by rw[<-hq.out,if_neg hE]);clear hq;have aG:(JH S a != 0)=true:=by rw[bne_iff_ne];exact hE
  generalize JH S a=er at *;go_wp2_with fail;refine GM (b:=w.heap.size+1) rfl rfl rfl (qi (qi q2 0 _) 1 _) ⟨_,rfl,(by rw[hqn.out];exact⟨er,hE,rfl⟩),?_⟩;exact Below.setCell (Below.setCell x2 (p:=⟨w.heap.size+1,0,none⟩) zA2 _) (p:=⟨w.heap.size+1,1,none⟩) zA2 _
structure WyI (ty:TypeId) (P:Nat->List It->Prop) (S:Sto) (K:K3) (full:List Stp) (lo:Nat) (w1:World) (v i:Value) (wr:World):Prop where
 ex:∃ (h r:Nat) (ys:List It) (pre:List Stp) (Av:OA) (cv:Nat),v=.slice Av pre.length cv/\i=.int .i64 (r:Int)/\8<=r/\r<256/\qt S r=some ((h:Int),ys)/\(qD S h ys).isSome=true/\full=pre++kI S K h ys/\pre.length+h<6/\JG ty lo wr v pre/\Below lo w1 wr/\P h ys
set_option maxRecDepth 100000 in
theorem way_any (A1 n1 c1 A2 n2 c2 A3 n3 c3 A4 n4 c4) (S:Sto) (hS:ql S=true) (a lvl:Nat) (xs:List It) (ha:8<=a) (ak:a<256) (hn:qt S a=some ((lvl:Int),xs)) (aN:(qD S lvl xs).isSome=true) (k i o:Int) (w:World) (aH:qV w w.heap.size (.slice A1 n1 c1) (.slice A2 n2 c2) (.slice A3 n3 c3) (.slice A4 n4 c4) S):Calls prog 127 #[Qe A1 n1 c1 A2 n2 c2 A3 n3 c3 A4 n4 c4,.int .i64 (a:Int),TP k i o] w (Zg (fun u W=>Tx w.heap.size W u (kI S (k,i,o) lvl xs)) w):=by
 obtain⟨i0,hi,ag,aV,aW⟩:=info_parts Tryz.info_step;obtain⟨full,iD⟩:∃ full,kI S (k,i,o) lvl xs=full:=⟨_,rfl⟩
 rw[iD];have hl6:lvl<6:=by have:=jw hn;omega
 have HI0:=zH (fun W=>(⟨⟨lvl,a,xs,[],none,0,rfl,rfl,ha,ak,hn,aN,iD.symm,by simpa using hl6,JG.nil _ _ _,Below.refl _ _,trivial⟩⟩:WyI 187 (fun _ _=>True) S (k,i,o) full W.heap.size W (.slice none 0 0) (.int .i64 (a:Int)) W));have HN:=zH (fun (r:Nat) W (hx:Ext w W)=>qkR A1 n1 c1 A2 n2 c2 A3 n3 c3 A4 n4 c4 S (r:Int) W (aH.ext hx));replace hS:=zH hS;replace hi:=zH hi;clear aH hn aN iD ha ak hl6;go_enter func127,ntmps127;go_wp2_with fail;generalize aA:(World.alloc (World.alloc w _) _)=w1;have x1:Ext w w1:=by rw[<-aA];exact(zN _ _).trans (zN _ _)
 have rs1:w1.heap[w.heap.size]?=some (.cells #[.slice A1 n1 c1,.slice A2 n2 c2,.slice A3 n3 c3,.slice A4 n4 c4] 28 (0,0)):=by rw[<-aA];exact(zK _ _ _ zA2).trans (zI _ _ _ rfl)
 have rk1:w1.heap[w.heap.size+1]?=some (.cells #[.int .u8 k,.int .u32 i,.int .u32 o] 49 (0,0)):=by rw[<-aA];exact zI _ _ _ zA2
 have z1:w.heap.size<=w1.heap.size:=by rw[<-aA];simp;omega
 clear aA;have I0:=zH (HI0.out w1);clear HI0;go_wp2_with fail;go_loopw [6,7] (fun v j wr=>WyI 187 (fun _ _=>True) S (k,i,o) full w1.heap.size w1 v j wr) (fun _ j _=>YK S j)
 case atStart=>exact I0.out
 case round =>
  obtain⟨h,r,ys,pre,Av,cv,rfl,rfl,h8,h256,hn,aN,iD,hlen,hso,xr,-⟩:=hrel.ex;clear I0 hrel;have hlv:=UD hn;obtain⟨hm1,iw,-⟩:=qM hn;have yB:ys.length<=5:=by unfold Qf ja at hm1;simp at hm1;omega
  have dZ:0<h->0<ys.length:=fun h0=>UF hm1 h0;have xr1:Ext w1 wr:=xr;have HNr:=HN.out r wr (x1.trans xr1);rw[show JH S (r:Int)=0 by rw[qee hS.out h8 h256,if_neg (show ¬Zo S r=0 from fun e=>by unfold qt at hn;rw[if_pos (show (S.now[r]?.getD 0).toNat=0 from e)] at hn;cases hn)],if_pos rfl,Int.toNat_natCast,hn] at HNr;have rsr:=qb rs1 xr1;have rkr:=qb rk1 xr1;have ksr:=qa rsr;replace aN:=zH aN;replace hn:=zH hn;replace iw:=zH iw;replace iD:=zH iD;replace hso:=zH hso;replace hlv:=zH hlv;replace dZ:=zH dZ;clear hm1;go_wp2_with fail;refine HNr.mono ?_;clear HNr;rintro e w4 ⟨u,rfl,⟨A9,c9,rfl,aK⟩,hB⟩;have hB:Ext wr w4:=hB;have xx4:Ext w1 w4:=xr1.trans hB;have rk4:=qb rkr hB;have so4:=zH (hso.out.ext hB);have z4:w.heap.size+1<w4.heap.size:=(zG.1 rk4).1;have kk4:=qa rk4;have zwr:w1.heap.size<=wr.heap.size:=xr.size;have z4r:wr.heap.size<=w4.heap.size:=hB.size;replace aK:=zH aK;have hso':Hid (∀ q,(Value.slice Av pre.length cv).ownBlock=some q->q<wr.heap.size):=zH fun q hq=>by obtain⟨ps,-,ho,-⟩:=hso.out;exact(QP ho q hq).2
  clear hB rsr rkr ksr hso xr xr1;go_wp2_with fail;generalize aT:(World.alloc w4 _)=w5;have x45:Ext w4 w5:=by rw[<-aT];exact zN _ _
  have rn5:w5.heap[w4.heap.size]?=some (.cells #[.int .i64 h,.slice A9 ys.length c9] 113 (0,0)):=by rw[<-aT];exact zI _ _ _ rfl
  clear aT;have rk5:=qb rk4 x45;have kn5:=qa rn5;have kk5:=qa rk5;clear kk4;go_wp2_with fail;refine(qdM (h:Int) A9 c9 ys k i o _ w5 yB (aK.out.ext x45)).mono ?_;rintro e w6 ⟨rfl,hB⟩;have x56:Ext w4 w6:=x45.trans hB;have rn6:=qb rn5 hB;have kn6:=qa rn6;have iE:=zH (aK.out.ext x56);have xx6:Ext w1 w6:=xx4.trans x56;have so6:=zH (so4.out.ext x56);clear rn5 x45 hB x56 rk4 rk5 kk5 kn5 xx4 aK so4;obtain⟨ips,nT,hsx⟩:=iE.out.toE (X:=OwnL w1.heap.size (.slice Av pre.length cv)) (fun q hq hx=>hx.elim (fun h1=>by have:=hso'.out q h1;omega) fun h1=>zO);replace hsx:=zH hsx;replace nT:=zH nT;have hA:=iE.out.its.at_.2.2.2;clear iE;obtain⟨ie,mJ⟩:∃ ie,Yn ys (k,i,o)=ie:=⟨_,rfl⟩
  obtain⟨p,hp⟩:∃ p,qA ys (k,i,o)=p:=⟨_,rfl⟩
  have pK:=JB ys (k,i,o);rw[mJ,hp];rw[hp] at pK;obtain⟨ps,e0,ho,iQ⟩:=so6.out;have bK:∀ W':World,w6.grownBy W' (Value.slice Av pre.length cv).ownBlock->Ql (OwnL w1.heap.size (.slice Av pre.length cv)) w6 W':=fun W' hg=>Ql.of_heap fun q hq hX=>hg.block q hq fun e=>hX (.inl e.symm);replace iQ:=zH iQ;replace bK:=zH bK;clear so6;rcases Nat.eq_zero_or_pos h with h0|h0
  ·have hh1:((h:Int) == 0)=true:=by rw[beq_iff_eq];omega
   have hh2:decide (h=0)=true:=decide_eq_true h0;have hf2:full=pre++[(0,ys,p)]:=by rw[iD.out,h0,Gf,hp]
   subst h0;replace hf2:=zH hf2;clear hA dZ mJ hp;go_wp2_with (at_builtin;refine Qh ?_);refine QF.go (js w6 rfl (.tmp 28) (.tmp 32) 180 rfl w1.heap.size 187 i0 _ 3 40 underlying180 hi.out ag aV aW rfl zD (.slice Av pre.length cv) pre.length (jJ ps) zE ho #[.int .i64 0,.slice A9 ys.length c9,.int .i64 (p:Int)] zE rfl zA7 zO zD xx6.size ?_);intro v' W' aj hg hB fE;have hF:JG 187 w1.heap.size W' v' (pre++[(0,ys,p)]):=JG.push (s:=(0,ys,p)) xx6.size e0 iQ.out nT.out hsx.out aj hg fE;have yU:Ext w W':=x1.trans (Below.trans xx6 hB);replace hF:=zH hF;replace yU:=zH yU;clear aj hg fE hB;go_wp2_with fail;go_ret;exact⟨_,rfl,by rw[hf2.out];exact hF.out.toE.mono z1,yU.out⟩
  ·have hh1:((h:Int) == 0)=false:=by rw[beq_eq_false_iff_ne];omega
   obtain⟨h',hh⟩:∃ h',h=h'+1:=⟨h-1,zO⟩
   obtain⟨j,hj⟩:∃ j,zZ ys (k,i,o)=j:=⟨_,rfl⟩
   have hjl:j<ys.length:=by rw[<-hj];exact jH (dZ.out h0)
   obtain⟨b',e1,f8,f256,zs,e4,e5⟩:=ZF (h:=h') (by rw[<-hh];exact ZU aN.out _ (List.getElem_mem hjl));have hfl:full=(pre++[(h,ys,j)])++kI S (k,i,o) h' zs:=by rw[iD.out,hh,XB (by rw[hj];exact zL hjl) (by rw[e1,Int.toNat_natCast];exact e4),hj,List.append_assoc];rfl
   have hms:YK S (.int .i64 (b':Int))<YK S (.int .i64 (r:Int)):=by rw[UD e4,hlv.out];omega
   obtain⟨b9,off,rfl,hb9⟩:=hA zO;have aJ:∀ (v':Value) (W':World),w6.ownsRow w1.heap.size 187 3 (.slice Av pre.length cv) pre.length (jJ ps)->W'.ownsRow w1.heap.size 187 3 v' (pre.length+1) (jJ ps++[.int .i64 (h:Int),.slice (some ⟨b9,off,none⟩) ys.length c9,.int .i64 (j:Int)])->w6.grownBy W' (Value.slice Av pre.length cv).ownBlock->(v'.ownBlock=(Value.slice Av pre.length cv).ownBlock\/∃ g,v'.ownBlock=some g/\w6.heap.size<=g)->Below w1.heap.size w6 W' ->
     WyI 187 (fun _ _=>True) S (k,i,o) full w1.heap.size w1 v' (.int .i64 (b':Int)) W'/\YK S (.int .i64 (b':Int))<YK S (.int .i64 (r:Int)):=fun v' W' _ aj hg fE hB=>by
    obtain⟨A7,c7,rfl,-,-⟩:=qE aj;have hF:JG 187 w1.heap.size W' (.slice A7 (pre.length+1) c7) (pre++[(h,ys,j)]):=JG.push (s:=(h,ys,j)) xx6.size e0 iQ.out nT.out hsx.out aj hg fE;exact⟨⟨h',b',zs,_,A7,c7,zA2,rfl,f8,f256,e4,e5,hfl,zA1,hF,Below.trans xx6 hB,trivial⟩,hms⟩
   have hit:∀ W':World,w6.grownBy W' (Value.slice Av pre.length cv).ownBlock->W'.cell? ⟨b9,off+j*5+3,none⟩=some (.int .i64 (b':Int))/\W'.heap[w4.heap.size]?=some (.cells #[.int .i64 (h:Int),.slice (some ⟨b9,off,none⟩) ys.length c9] 113 (0,0)):=fun W' hg=>by obtain⟨A',c',-,-,-,d3,-,-⟩:=(show Its W' W'.heap.size (.slice (some ⟨b9,off,none⟩) ys.length c9) ys by have:=hsx.out.its (bK.out W' hg);rw[nT.out] at this;exact this).item j hjl;rw[e1] at d3;refine⟨d3,(hg.block _ (zG.1 rn6).1 fun e=>?_).trans rn6⟩;have:=hso'.out _ e.symm;omega
   replace aJ:=zH aJ;replace hit:=zH hit;replace dZ:=zH dZ;replace hh:=zH hh;clear hA hfl hms e4 e5 aN hn iD hlv iQ bK;have aP:(ie=true/\p=j)\/(ie=false/\max (0:Int) ((p:Int)-1)=(j:Int)):=by
    unfold zZ at hj;rw[mJ,hp] at hj;cases ie
    ·right;refine⟨rfl,?_⟩;simp only[Bool.false_eq_true,if_false] at hj;omega
    ·left;exact⟨rfl,by simpa using hj⟩
   clear mJ hp hj;rcases aP with ⟨rfl,rfl⟩|⟨rfl,hmax⟩
   ·go_wp2_with (at_builtin;refine Qh ?_);refine QF.go (js w6 rfl (.tmp 39) (.tmp 43) 180 rfl w1.heap.size 187 i0 _ 3 40 underlying180 hi.out ag aV aW rfl zD (.slice Av pre.length cv) pre.length (jJ ps) zE ho #[.int .i64 (h:Int),.slice (some ⟨b9,off,none⟩) ys.length c9,.int .i64 (p:Int)] zE rfl zA7 zO zD xx6.size ?_);intro v' W' aj hg hB fE;obtain⟨d3,rnW⟩:=hit.out W' hg;have knW:=qa rnW;have hF:=zH (aJ.out v' W' ho aj hg fE hB);clear aJ hit aj hg fE hB ho;go_wp2_with fail;exact hF.out
   ·go_wp2_with (at_builtin;refine Qh ?_);refine QF.go (js w6 rfl (.tmp 39) (.tmp 43) 180 rfl w1.heap.size 187 i0 _ 3 40 underlying180 hi.out ag aV aW rfl zD (.slice Av pre.length cv) pre.length (jJ ps) zE ho #[.int .i64 (h:Int),.slice (some ⟨b9,off,none⟩) ys.length c9,.int .i64 (j:Int)] zE rfl zA7 zO zD xx6.size ?_);intro v' W' aj hg hB fE;obtain⟨d3,rnW⟩:=hit.out W' hg;have knW:=qa rnW;have hF:=zH (aJ.out v' W' ho aj hg fE hB);clear aJ hit aj hg fE hB ho;go_wp2_with fail;exact hF.out
def KV (s:Stp):Bool:=decide (s.2.1.length<5)
def ThinIx (l:List Stp) (u:Value):Prop:=(∃ j:Nat,u=.int .i64 (j:Int)/\l.any KV=true)\/(u=.int .i64 (-1)/\l.any KV=false)
set_option maxRecDepth 100000 in
theorem qlc (lvl p:Int) (A n c) (w:World):Calls prog 175 #[.agg #[.int .i64 lvl,.slice A n c,.int .i64 p]] w (Ret (.bool (decide (n<5))) w):=by
 go_enter func175,ntmps175;by_cases h:n<5
 ·have h1:decide ((n:Int)<5)=true:=decide_eq_true zO;rw[decide_eq_true h];replace h:=zH h;go_wp2;go_ret;exact⟨rfl,zN _ _⟩
 ·have h1:decide ((n:Int)<5)=false:=decide_eq_false zO;rw[decide_eq_false h];replace h:=zH h;go_wp2;go_ret;exact⟨rfl,zN _ _⟩
set_option maxRecDepth 100000 in
theorem qld (v:Value) (l:List Stp) (hl:l.length<=100) (w:World) (h:Kl w.heap.size w v l):Calls prog 198 #[v,.func (.func 175) #[] #[]] w (Zg (fun u _=>ThinIx l u) w):=by
 obtain⟨ps,ax,⟨A,c,rfl,dE,bG,hr⟩,iQ⟩:=h;have bM:ps.length=l.length:=by rw[<-ax,List.length_map]
 replace hr:=zH hr;replace bG:=zH bG;go_enter func198,ntmps198;go_wp2_with fail;go_loopw [8] (fun i wr=>∃ k:Nat,k<=l.length/\i=.int .i64 (k:Int)/\Ext w wr/\(l.take k).any KV=false) (fun i _=>l.length-(intOf i).toNat)
 case atStart=>exact⟨0,Nat.zero_le _,rfl,Ext.refl _,rfl⟩
 case round =>
  obtain⟨k,hk,rfl,xr,aX⟩:=hrel;replace aX:=zH aX;by_cases hlt:k<l.length
  ·obtain⟨bv,offv,rfl,hbv,aU⟩:=hr.out.2 zO;have hkp:k<ps.length:=zO;obtain⟨d0,d1,d2⟩:=XE ps k hkp;replace d0:=Ext.cell xr (aU _ _ d0);replace d1:=Ext.cell xr (aU _ _ d1);replace d2:=Ext.cell xr (aU _ _ d2);rw[<-Nat.add_assoc] at d1 d2;obtain⟨Ax,cx,yS⟩:=(iQ ps[k] (List.getElem_mem hkp)).1;have hxe:ps[k].1=l[k]:=by simp only[<-ax,List.getElem_map]
   rw[yS,hxe] at d1;rw[hxe] at d0 d2;have HAT:=zH (fun (he:KV l[k]=true)=>show l.any KV=true from List.any_eq_true.2 ⟨l[k],List.getElem_mem hlt,he⟩);have HNO:=zH (fun (he:KV l[k]=false)=>show (l.take (k+1)).any KV=false by rw[List.take_succ_eq_append_getElem hlt,List.any_append,aX.out];simp[he]);unfold KV at HAT HNO;generalize l[k]=u at *;obtain⟨ul,uxs,up⟩:=u;dsimp only at d0 d1 d2 HAT HNO;clear aU yS hxe;have iM:=zH (IntWalk.wrap64_in ((k:Int)+1) zO);have hV:=qlc (ul:Int) (up:Int) Ax uxs.length cx wr;go_wp2_with fail;refine hV.mono ?_;rintro e w2 ⟨rfl,hB⟩;clear d0 d1 d2 hV;by_cases he:uxs.length<5
   ·rw[decide_eq_true he];have HQ:=zH (HAT.out (decide_eq_true he));clear HAT HNO;replace he:=zH he;go_wp2_with fail;refine bodyPost_ret (v:=.int .i64 (k:Int)) ?_ rfl ⟨_,rfl,.inl ⟨k,rfl,HQ.out⟩,Ext.trans xr hB⟩;simp[results,results198,go_sem]
   ·rw[decide_eq_false he];have HQ:=zH (HNO.out (decide_eq_false he));clear HAT HNO;replace he:=zH he;have aA:=iM.out;go_wp2_with fail;refine⟨⟨k+1,hlt,rfl,Ext.trans xr hB,HQ.out⟩,?_⟩;simp[intOf];omega
  ·obtain rfl:k=l.length:=zO;have HQ:=zH (show l.any KV=false by have:=aX.out;rwa [List.take_length] at this);go_wp2_with fail;refine bodyPost_ret (v:=.int .i64 (-1)) ?_ rfl ⟨_,rfl,.inr ⟨rfl,HQ.out⟩,xr⟩;simp[results,results198,go_sem]
set_option maxRecDepth 100000 in
theorem thin_any (v:Value) (l:List Stp) (hl:l.length<=100) (w:World) (h:Kl w.heap.size w v l):Calls prog 174 #[v,.func (.func 175) #[] #[]] w (Ret (.bool (l.any KV)) w):=by
 have HX:=qld v l hl w h;clear h;go_enter func174,ntmps174;go_wp2_with fail;refine HX.mono ?_;rintro e w2 ⟨u,rfl,hu,hB⟩;rcases hu with ⟨j,rfl,hj⟩|⟨rfl,hj⟩
 ·have hd:decide ((0:Int)<=(j:Int))=true:=decide_eq_true zO;go_wp2_with fail;go_ret;exact⟨by rw[hj];rfl,hB⟩
 ·go_wp2_with fail;go_ret;exact⟨by rw[hj];rfl,hB⟩
set_option maxRecDepth 100000 in
theorem tall_any (v:Value) (l:List Stp) (hl:l.length<=100) (hl0:0<l.length) (k i o:Int) (hl5:∀ s∈l,s.2.1.length<=5) (w:World) (h:Kl w.heap.size w v l):Calls prog 128 #[v,TP k i o] w (Ret (.bool (qaG (k,i,o) l)) w):=by
 have HT:=zH (fun W (hx:Ext w W)=>thin_any v l hl W ((h.below hx).more hx.size));obtain⟨ps,ax,⟨A,c,rfl,dE,bG,hr⟩,iQ⟩:=h;have bM:ps.length=l.length:=by rw[<-ax,List.length_map]
 obtain⟨bv,offv,rfl,hbv,aU⟩:=hr.2 hl0;obtain⟨m,hm⟩:∃ m,l.length=m+1:=⟨l.length-1,zO⟩
 have hmp:m<ps.length:=zO;have pF:m<l.length:=zO;obtain⟨d0,d1,d2⟩:=XE ps m hmp;replace d0:=aU _ _ d0;replace d1:=aU _ _ d1;replace d2:=aU _ _ d2;rw[<-Nat.add_assoc] at d1 d2;obtain⟨⟨Ax,cx,yS⟩,aK⟩:=iQ ps[m] (List.getElem_mem hmp);have hxe:ps[m].1=l[m]:=by simp only[<-ax,List.getElem_map]
 rw[yS,hxe] at d1 aK;rw[hxe] at d0;have hFP:l.getLast?=some l[m]:=by rw[List.getLast?_eq_getElem?,hm,Nat.add_sub_cancel];exact zL pF
 have hq:qaG (k,i,o) l=(decide (l.length=6) && !(l.any KV) && !(Yn l[m].2.1 (k,i,o))):=by unfold qaG;rw[hFP];simp only;congr 2;rw[Bool.eq_iff_iff];simp[List.all_eq_true,KV]
 have hu5:=hl5 l[m] (List.getElem_mem pF);rw[hq];generalize l[m]=u at *;obtain⟨ul,uxs,up⟩:=u;dsimp only at d0 d1 aK hu5 ⊢;have HP:=zH (fun W (hx:Ext w W)=>qcb (ul:Int) Ax cx uxs k i o W hu5 ((aK.below hx).more hx.size));clear hq hFP aU hr yS hxe iQ aK d2 ax;replace hm:=zH hm;generalize l.any KV=bt at *;generalize Yn uxs (k,i,o)=bi at *;generalize qA uxs (k,i,o)=pn at *;replace bG:=zH bG;go_enter func128,ntmps128;go_wp2_with fail;generalize aA:World.alloc _ _=w1;have x1:Ext w w1:=by rw[<-aA];exact zN _ _
 have r1:w1.heap[w.heap.size]?=some (.cells #[.int .u8 k,.int .u32 i,.int .u32 o] 49 (0,0)):=by rw[<-aA];exact zI _ _ _ rfl
 clear aA;refine(HT.out w1 x1).mono ?_;clear HT;rintro e w2 ⟨rfl,hB⟩;have x2:Ext w w2:=x1.trans hB;have r2:=qb r1 hB;clear r1 hB x1;go_upto_region 2 with fail;have g0:∀ W,qj.r w2 W->W.cell? ⟨bv,offv+m*3,none⟩=some (.int .i64 (ul:Int)):=fun W h=>Ext.cell (x2.trans h) d0;have g1:∀ W,qj.r w2 W->W.cell? ⟨bv,offv+m*3+1,none⟩=some (.slice Ax uxs.length cx):=fun W h=>Ext.cell (x2.trans h) d1;have g2:∀ W,qj.r w2 W->∀ i_1,W.cell? ⟨w.heap.size,i_1,none⟩=#[.int .u8 k,.int .u32 i,.int .u32 o][i_1]?:=fun W h=>qa (qb r2 h);clear d0 d1;have wS:=zH (show IntKind.i64.wrap ((l.length:Int)-1)=(m:Int) by rw[IntKind.wrap_i64];have:=hm.out;omega);refine qp zQ ?_;refine qQ (w:=w2) qj (qH [(8,one (.tuple #[.int .i64 (pn:Int),.bool bi]))]) (List.replicate 14 true) 0 zQ zQ zQ zQ zQ zQ zQ ?st (Rel.drew _ _) ?walk
 case st=>exact qk (by simp only[List.forall_mem_cons];exact⟨qgA _,fun _ h=>by cases h⟩)
 case walk =>
  intro K hK;dsimp only[qu,List.replicate];refine zB6 ?_;refine qd (.pointer (some ⟨bv,offv+m*3,none⟩)) zA0 zA0 (fun W hW _=>⟨W,?_,Rel.refl _ W⟩) ?_
  ·go_simp;rw[wS.out,if_pos zO];simp
  refine zB6 ?_;refine qy (one _) zA0 zA0 (fun W hW _=>?_) (fun (_:Unit)=>?_)
  ·have au:Ext w2 W:=hW;refine Qi ?_ ((HP.out W (x2.trans au)).mono fun e w' h=>⟨(),h.1,trivial,h.2⟩);go_simp
  refine zB6 ?_;refine qv (hK _ _ fun W hW hF=>?_);clear hF hK;have hW:Ext w2 W:=hW;have xW:Ext w W:=x2.trans hW;refine zC3 ?_;go_wp2;refine Qr ?_;clear HP g0 g1 g2 r2;by_cases h6:l.length=6
  ·have e6:((l.length:Int) == 6)=true:=by rw[beq_iff_eq];omega
   have d6:=decide_eq_true h6;replace h6:=zH h6;cases bt
   ·cases bi;all_goals
     go_wp2_with fail;go_ret;exact⟨by rw[d6];rfl,xW⟩
   ·go_wp2_with fail;go_ret;exact⟨by rw[d6];rfl,xW⟩
  ·have e6:((l.length:Int) == 6)=false:=by rw[beq_eq_false_iff_ne];omega
   have d6:=decide_eq_false h6;replace h6:=zH h6;go_wp2_with fail;go_ret;exact⟨by rw[d6];rfl,xW⟩
def mixL:List Bool->Nat->List Value->(Nat->Value)->List Value
 | [],_,l,_=>l
 |_ :: _,_,[],_=>[]
 |b :: m,i,x :: r,g=>(bif b then g i else x) :: mixL m (i+1) r g
def qbL (D:Nat):Deferred:={ target:=.collected D,args:=#[] }
theorem qfc {P:Program} {Q:Exit->Act->World->Prop} {tm:List Value} {w:World} {c:Code} (mask:List Bool) (n₀:Nat) (rel:Nat->(Nat->Value)->List Nat->World->Prop) (h₀:rel n₀ (fun i=>tm.getD i undef) [] w) (hmix:mixL mask 0 tm (fun i=>tm.getD i undef)=tm) (round:∀ (n:Nat) (g:Nat->Value) (Ds:List Nat) (wr:World) (K:Act->World->Prop),rel n g Ds wr->(∀ (n':Nat) (g':Nat->Value) (Ds':List Nat) (w':World),n'<n->rel n' g' Ds' w'->K { tmps:=(mixL mask 0 tm g').toArray,defers:=Ds'.map qbL } w')->c.wp P (Exit.then K Q) { tmps:=(mixL mask 0 tm g).toArray,defers:=Ds.map qbL } wr) : (Code.loop c).wp P Q { tmps:=tm.toArray,defers:=[] } w:=by
 refine wp_loop_ghost (fun n a w=>∃ g Ds,a={ tmps:=(mixL mask 0 tm g).toArray,defers:=Ds.map qbL }/\rel n g Ds w) n₀ ⟨_,[],by rw[hmix];rfl,h₀⟩ ?_;rintro n a wr ⟨g,Ds,rfl,h⟩;exact round n g Ds wr _ h fun n' g' Ds' w' hlt hr=>⟨n',hlt,g',Ds',rfl,hr⟩
theorem qbO {mask:List Bool} {tm:List Value} {n:Nat} {rel:Nat->(Nat->Value)->List Nat->World->Prop} {K:Act->World->Prop} (hK:∀ (n':Nat) (g':Nat->Value) (Ds':List Nat) (w':World),n'<n->rel n' g' Ds' w'->K { tmps:=(mixL mask 0 tm g').toArray,defers:=Ds'.map qbL } w') {l:List Value} {df:List Deferred} {w':World} (n':Nat) (hlt:n'<n) (Ds':List Nat) (hdf:df=Ds'.map qbL) (nS:l=mixL mask 0 tm (fun i=>l.getD i undef)) (hr:rel n' (fun i=>l.getD i undef) Ds' w'):K { tmps:=l.toArray,defers:=df } w':=by
 have:=hK n' _ Ds' w' hlt hr;rw[<-nS] at this
 rwa [hdf]
structure jM (lo:Nat) (Ds:List Nat) (w:World):Prop where
 nodup:Ds.Nodup
 at_:∀ D∈Ds,lo<=D/\w.heap[D]?=some (.deferred (some []))
theorem jM.nil (lo:Nat) (w:World):jM lo [] w:=⟨List.nodup_nil,fun _ h=>by cases h⟩
theorem jM.keep {lo:Nat} {Ds:List Nat} {w W:World} (h:jM lo Ds w) (hk:∀ (q:Nat) (o:Obj),w.heap[q]?=some o->o.isCells=false->W.heap[q]?=some o):jM lo Ds W:=⟨h.nodup,fun D hD=>⟨(h.at_ D hD).1,hk D _ (h.at_ D hD).2 rfl⟩⟩
theorem jM.cons {lo:Nat} {Ds:List Nat} {w W:World} (h:jM lo Ds w) (hk:∀ (q:Nat) (o:Obj),w.heap[q]?=some o->o.isCells=false->W.heap[q]?=some o) {D:Nat} (hD:w.heap.size<=D) (hl:lo<=D) (hr:W.heap[D]?=some (.deferred (some []))):jM lo (D :: Ds) W:=by
 have h1:=h.keep hk;refine⟨List.nodup_cons.2 ⟨fun hm=>?_,h1.nodup⟩,fun q hq=>?_⟩
 ·have:=(zG.1 (h.at_ D hm).2).1;omega
 ·rcases List.mem_cons.1 hq with rfl|hq
  ·exact⟨hl,hr⟩
  ·exact h1.at_ q hq
theorem Uz {F:Fence} {n:Nat} {P:Program} {fn:Func} {tmps:Array Value} {R:Ending->World->Prop} {lo:Nat}:∀ (Ds:List Nat) (W:World),jM lo Ds W -> (∀ W',(∀ q,q∉Ds->W'.heap[q]?=W.heap[q]?)->W'.heap.size=W.heap.size->W'.os=W.os->W'.tape=W.tape->W'.output=W.output->LeavesIn F n P fn tmps R [] .returning W')->LeavesInM F n P fn tmps R (Ds.map qbL) .returning W
 | [],W,_,h=>h W (fun _ _=>rfl) rfl rfl rfl rfl
 |D :: Ds,W,hm,h=>by
  refine⟨zA2,.inl ⟨D,_,rfl,run_takeDeferred (hm.at_ D List.mem_cons_self).2,?_⟩⟩;have hnd:=List.nodup_cons.1 hm.nodup;refine Uz (lo:=lo) Ds (W.putObj D (.deferred none)) ⟨hnd.2,fun q hq=>⟨(hm.at_ q (List.mem_cons_of_mem _ hq)).1,(World.putObj_heap_other (o:=.deferred none) (fun e=>by subst e;exact hnd.1 hq)).trans (hm.at_ q (List.mem_cons_of_mem _ hq)).2⟩⟩ ?_;intro W' h1 h2 h3 h4 h5;refine h W' (fun q hq=>?_) ?_ ?_ ?_ ?_
  ·exact(h1 q fun hx=>hq (List.mem_cons_of_mem _ hx)).trans (World.putObj_heap_other (o:=.deferred none) fun e=>hq (by rw[e];exact List.mem_cons_self))
  ·rw[h2];simp
  ·rw[h3];rfl
  ·rw[h4];rfl
  ·rw[h5];rfl
end Go.Proofs.YtmeadnlmepcmbaaGreat
namespace Go.Proofs.YtmeadnlmepcmbaaGreat
open Go.RowKit Go.Shelf
attribute [local go_sem] Oper.semAt_some
abbrev Ui:Type:=It×Sl
abbrev uiz:Ui:=((⟨0,0,0,0,[]⟩:It),(none,0,0))
set_option maxRecDepth 100000 in
theorem backi_in (n:Nat) (hn:1<=n) (l Bs b off len cap:Nat) (us:List Ui) (bH:len<1099511627776) (J Jx:List Nat->World->Prop) (hY:∀ pre (x:Nat) W,J pre W->pre.length<len->YieldAt Fence.wide (n-1) prog l #[.int .i64 (x:Int),.agg #[.int .u8 (us[x]?.getD uiz).1.k,.int .u32 (us[x]?.getD uiz).1.i,.int .u32 (us[x]?.getD uiz).1.o,.int .i64 (us[x]?.getD uiz).1.r,sv (us[x]?.getD uiz).2]] W fun e W' =>
   (e=.returned (.bool true)/\J (pre++[x]) W'/\QA Bs b W W')\/(e=.returned (.bool false)/\Jx (pre++[x]) W'))
  (W:World) (lQ:W.cell? ⟨Bs,0,none⟩=some (.slice (some ⟨b,off,none⟩) len cap)) (hc:∀ i,i<len->W.cell? ⟨b,off+i*5,none⟩=some (.int .u8 (us[i]?.getD uiz).1.k)/\W.cell? ⟨b,off+i*5+1,none⟩=some (.int .u32 (us[i]?.getD uiz).1.i)/\W.cell? ⟨b,off+i*5+2,none⟩=some (.int .u32 (us[i]?.getD uiz).1.o)/\W.cell? ⟨b,off+i*5+3,none⟩=some (.int .i64 (us[i]?.getD uiz).1.r)/\W.cell? ⟨b,off+i*5+4,none⟩=some (sv (us[i]?.getD uiz).2)) (h0:J [] W) :
  CallsIn Fence.wide n prog 197 #[.func (.yield l) #[] #[],.pointer (some ⟨Bs,0,none⟩)] W fun e W'=>(∃ v,e=.returned v) /\
   ((∃ ys,ys=jl (fun j=>len-1-j) len/\J ys W')\/(∃ pre,(∃ k,k<=len/\pre=jl (fun j=>len-1-j) k)/\Jx pre W')):=by
 refine callsIn_of_wp func197 rfl trivial ?_ rfl;simp only[ntmps197,List.size_toArray,List.length_cons,List.length_nil,Nat.reduceAdd,Nat.reduceSub,Array.replicate_succ,Array.replicate_zero,List.push_toArray,List.append_toArray,List.nil_append,List.cons_append]
 gi_wp2
 gi_loopw [3] (fun i wr=>∃ k:Nat,k<=len/\i=.int .i64 ((len:Int)-1-k)/\J (jl (fun j=>len-1-j) k) wr/\QA Bs b W wr)
  (fun i _=>(intOf i+1).toNat)
 case atStart=>exact⟨0,Nat.zero_le _,zA2,h0,QA.refl _ _ _⟩
 case round =>
  obtain⟨k,hk,rfl,iO,dX⟩:=hrel;have hBr:wr.cell? ⟨Bs,0,none⟩=some (.slice (some ⟨b,off,none⟩) len cap):=(World.cell?_of_block (w:=W) dX.1).trans lQ;by_cases hlt:k<len
  ·obtain⟨fn,tmps,assign,body,hy,hR⟩:=hY _ (len-1-k) wr iO (by rw[ZA];exact hlt);have dQ:=(World.cell?_of_block (w:=W) (a:=⟨b,off+(len-1-k)*5,none⟩) dX.2).trans (hc (len-1-k) zO).1;have dE:=(World.cell?_of_block (w:=W) (a:=⟨b,off+(len-1-k)*5+1,none⟩) dX.2).trans (hc (len-1-k) zO).2.1;have bG:=(World.cell?_of_block (w:=W) (a:=⟨b,off+(len-1-k)*5+2,none⟩) dX.2).trans (hc (len-1-k) zO).2.2.1;have tu:=(World.cell?_of_block (w:=W) (a:=⟨b,off+(len-1-k)*5+3,none⟩) dX.2).trans (hc (len-1-k) zO).2.2.2.1;have yD:=(World.cell?_of_block (w:=W) (a:=⟨b,off+(len-1-k)*5+4,none⟩) dX.2).trans (hc (len-1-k) zO).2.2.2.2;try dsimp only at hy
   obtain⟨i,hi⟩:∃ i:Nat,len-1-k=i:=⟨_,rfl⟩
   have hi2:(len:Int)-1-k=(i:Int):=zO;have hil:i<len:=zO;have hik:k+i+1<=len/\len<=k+i+1:=zO;have HU:=zH (VP (fun j=>len-1-j) k);obtain⟨u,hu⟩:∃ u,us[i]?.getD uiz=u:=⟨_,rfl⟩
   rw[hi] at dQ dE bG tu yD hy hR;rw[hu] at dQ dE bG tu yD hy;rw[hi2];clear hi2;clear hu;have HI:=zH hi;clear hi
   gi_wp2
   refine hR.mono ?_;rintro e W3 (⟨rfl,yX,nH⟩|⟨rfl,lm⟩)
   ·gi_wp2
    go_roundw
    case rel=>exact⟨k+1,zO,by go_num,by rw[HU.out,HI.out];exact yX,dX.t nH⟩
    case measure=>simp[intOf]
   ·gi_wp2
    refine bodyPost_ret (results_none rfl _ _ _) rfl ?_;exact⟨⟨_,rfl⟩,.inr ⟨_,⟨k+1,zO,by rw[HU.out,HI.out]⟩,lm⟩⟩
  ·obtain rfl:k=len:=zO
   gi_wp2
   go_end0;exact⟨⟨_,rfl⟩,.inl ⟨_,rfl,iO⟩⟩
set_option maxRecDepth 100000 in
theorem qei (n l Bs c:Nat) (A:OA) (J:List Nat->World->Prop) (W:World) (lQ:W.cell? ⟨Bs,0,none⟩=some (.slice A 0 c)) (h0:J [] W):CallsIn Fence.wide n prog 197 #[.func (.yield l) #[] #[],.pointer (some ⟨Bs,0,none⟩)] W fun e W'=>(∃ v,e=.returned v)/\J [] W':=by
 refine callsIn_of_wp func197 rfl trivial ?_ rfl;simp only[ntmps197,List.size_toArray,List.length_cons,List.length_nil,Nat.reduceAdd,Nat.reduceSub,Array.replicate_succ,Array.replicate_zero,List.push_toArray,List.append_toArray,List.nil_append,List.cons_append]
 gi_wp2
 gi_loopw [3] (fun i wr=>i=.int .i64 (-1)/\J [] wr) (fun _ _=>0)
 case atStart=>exact⟨rfl,h0⟩
 case round =>
  obtain⟨rfl,iO⟩:=hrel
  gi_wp2
  go_end0;exact⟨⟨_,rfl⟩,iO⟩
def SWi (W:World) (Bs b:Nat) (v:Value) (us:List Ui):Prop:=
 W.cell? ⟨Bs,0,none⟩=some v/\((us=[]/\∃ A c,v=.slice A 0 c)\/∃ off cap,v=.slice (some ⟨b,off,none⟩) us.length cap/\∀ i,i<us.length->W.cell? ⟨b,off+i*5,none⟩=some (.int .u8 (us[i]?.getD uiz).1.k)/\W.cell? ⟨b,off+i*5+1,none⟩=some (.int .u32 (us[i]?.getD uiz).1.i)/\W.cell? ⟨b,off+i*5+2,none⟩=some (.int .u32 (us[i]?.getD uiz).1.o)/\W.cell? ⟨b,off+i*5+3,none⟩=some (.int .i64 (us[i]?.getD uiz).1.r)/\W.cell? ⟨b,off+i*5+4,none⟩=some (sv (us[i]?.getD uiz).2))
theorem SWi.keep {W W':World} {Bs b:Nat} {v:Value} {us:List Ui} (h:SWi W Bs b v us) (hk:QA Bs b W W'):SWi W' Bs b v us:=by
 refine⟨(World.cell?_of_block (w:=W) hk.1).trans h.1,?_⟩;rcases h.2 with h|⟨off,cap,e,hc⟩
 ·exact .inl h
 ·exact .inr ⟨off,cap,e,fun i hi=>⟨(World.cell?_of_block (w:=W) hk.2).trans (hc i hi).1,(World.cell?_of_block (w:=W) hk.2).trans (hc i hi).2.1,(World.cell?_of_block (w:=W) hk.2).trans (hc i hi).2.2.1,(World.cell?_of_block (w:=W) hk.2).trans (hc i hi).2.2.2.1,(World.cell?_of_block (w:=W) hk.2).trans (hc i hi).2.2.2.2⟩⟩
theorem qfy (n:Nat) (hn:1<=n) (Bs b:Nat) (v:Value) (us:List Ui) (bH:us.length<1099511627776) (w:World) (lQ:Bs<w.heap.size) (hb:b<w.heap.size) (hS:SWi w Bs b v us):SeqStopsK Fence.wide n prog 197 #[.pointer (some ⟨Bs,0,none⟩)] (fun x:Nat=>#[.int .i64 (x:Int),.agg #[.int .u8 (us[x]?.getD uiz).1.k,.int .u32 (us[x]?.getD uiz).1.i,.int .u32 (us[x]?.getD uiz).1.o,.int .i64 (us[x]?.getD uiz).1.r,sv (us[x]?.getD uiz).2]]) (QA Bs b) (fun ys=>ys=jl (fun j=>us.length-1-j) us.length)
   (fun pre=>∃ k,k<=us.length/\pre=jl (fun j=>us.length-1-j) k) us.length w:=fun l J Jx W hW _ _ hY h0=>by
 obtain⟨hc,h⟩:=hS.keep (QA.below hW lQ hb);rcases h with ⟨rfl,A,c,rfl⟩|⟨off,cap,rfl,dA⟩
 ·exact(qei n l Bs c A J W hc h0).mono fun e W' ⟨he,hj⟩=>⟨he,.inl ⟨_,rfl,hj⟩⟩
 ·exact backi_in n hn l Bs b off us.length cap us bH J Jx hY W hc dA h0
theorem qcD (A m c) (w:World):Calls prog 172 #[.slice A m c] w (fun e w'=>e=.returned (.func (.func 197) #[] #[.pointer (some ⟨w.heap.size,0,none⟩)])/\w'=w.alloc (.cells #[.slice A m c] 55)):=by
 go_enter func172,ntmps172;go_wp2;go_ret;exact⟨rfl,rfl⟩
end Go.Proofs.YtmeadnlmepcmbaaGreat
