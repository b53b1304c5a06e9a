/- Lemmas of the proof. -/
import Derived.Laws.CopyRow
import Derived.Laws.IdiomCopy
import Derived.Deep.Slices
import Derived.Test.YtmeadnlmepcmbaaGreatZS09
set_option linter.all false
set_option maxHeartbeats 8000000
open Go.Proofs.Tryz
open Bool renaming true→s,false→J
open Go.Value renaming slice→D,int→Z
open Option renaming some→I,none→X
open Go renaming World→O,Value→Y
open Go.Obj renaming cells→U
namespace Go.Proofs.YtmeadnlmepcmbaaGreat
open Go.RowKit
variable {R:Ending->World->Prop}{a:Act}{W:World}{u:Value}{S:Sto}{root next:Int}{dead:List Int}{vs:List Vol}{P:Program}{B o j:Nat}{cur:Array Value}{l:List UInt8}
def jC(S:Sto)(next:Int)(v:Vol)(vs:List Vol)(refs:Nat->Nat):Int:=if v.id=0\/next<=v.id\/v.root<8\/256<=v.root then 2 else if(zF vs v.id).isSome=J/\16<=vs.length then 9 else
 if Zy S v.root.toNat<=refs v.root.toNat then 6 else if okL S (-1) v.root=s then 0 else 8
def FAskQ(S:Sto)(root next:Int)(dead:List Int)(v:Vol)(w:O)(e:Ending)(w':O):Prop:=Below w w w' /\
 ((e=.returned (Z .i64 8)/\QS S root next dead) \/
  ∃vs refs nodes,Qy S root next dead vs/\Qk S (Qo root dead vs) refs nodes/\QQ S refs/\e=.returned (Z .i64 (jC S next v vs refs)))
theorem VN(h4:a.tmps[4]?.getD undef=u)(hd:a.defers=[])(hR:R u W):bodyPost prog Tryz.f64 R .ret a W:=by refine bodyPost_ret (v:=u) ?_ hd hR;simp[results,results64,go_sem,h4]
theorem vols_len(h:Qy S root next dead vs):vs.length<=16:=by have hv:=h.vols;unfold Gl at hv;split at hv;cases hv;exact KI _ _ _ _ zA3 hv
set_option maxRecDepth 100000 in
theorem qjz(A1 n1 c1 A2 n2 c2 A3 n3 c3 A4 n4 c4)(gen root next:Int)(A5 c5)(S:Sto)(dead:List Int)(v:Vol)(hT:8<=v.root->v.root<256->Zy S v.root.toNat≠0->okL S (-1) v.root=s)(w:O)(h:Qi w w (D A1 n1 c1) (D A2 n2 c2) (D A3 n3 c3) (D A4 n4 c4) S)(hd:ZM w w (D A5 dead.length c5) dead):Calls prog 64 #[.agg (qQ (D A1 n1 c1) (D A2 n2 c2) (D A3 n3 c3) (D A4 n4 c4) gen root next (D A5 dead.length c5)),Ve v] w (FAskQ S root next dead v w):=by
 have HT:=zH (λW (hx:Ext w W)=>YN A1 n1 c1 A2 n2 c2 A3 n3 c3 A4 n4 c4 gen root next A5 c5 S dead W (h.ext hx) (hd.ext_ hx));have HC:=zH (λ(hS:qk S=s) a hT W (hx:Ext w W)=>UV A1 n1 c1 A2 n2 c2 A3 n3 c3 A4 n4 c4 S hS a hT W (h.ext hx));replace⟨h,hT⟩:=zH2 h hT;clear hd;go_enter func64,ntmps64;go_wp2_with fail;generalize hw1:(World.alloc (World.alloc w _) _)=w1;have x1:Ext w w1:=by rw[<-hw1];exact(zN _ _).trans (zN _ _)
 have rp1:w1.heap[w.heap.size]?=I (U (qQ (D A1 n1 c1) (D A2 n2 c2) (D A3 n3 c3) (D A4 n4 c4) gen root next (D A5 dead.length c5)) 32 (0,0)):=by rw[<-hw1];exact(zK _ _ _ zA3).trans (zI _ _ _ rfl)
 have rv1:w1.heap[w.heap.size+1]?=I (U #[Z .u32 v.id,Z .i64 v.root,.bool v.fz,Z .u32 v.frm] 36):=hw1▸zI _ _ _ zA3;clear hw1;refine(HT.out w1 x1).mono ?_;clear HT;rintro e w2 ⟨hB,hQ⟩;have x2:Ext w w2:=Ext.trans x1 hB;have rp2:=qb rp1 hB;have rv2:=qb rv1 hB;have kp2:=qa rp2;have kv2:=qa rv2;clear hB x1 rp1 rv1;rcases hQ with⟨rfl,hno⟩|⟨vs,refs,nodes,cb,ca,vv,rfl,hTk⟩
 ·replace hno:=zH hno;go_wp2_with fail;exact VN rfl rfl ⟨x2,.inl ⟨rfl,hno.out⟩⟩
 have hvs:=vols_len hTk.pool;have hQ:=λE (hh:jC S next v vs refs=E) W (hx:Ext w W)=>(⟨hx,.inr ⟨vs,refs,nodes,hTk.pool,hTk.cnt,hTk.enough,by rw[hh]⟩⟩:FAskQ S root next dead v w (.returned (Z .i64 E)) W)
 replace hQ:=zH hQ;obtain⟨AV,cV,rfl,wFJ,wFK⟩:=qM hTk.own;have kc:w2.cell? (cb,518)=I (D AV vs.length cV):=by rw[qa hTk.row];exact hTk.ar.vol
 have HH:=zH (vhas_any AV cV vs hvs (w.heap.size+1) v.id _ _ _ w2 rv2 (Rd.of_own hTk.own));replace hTk:=zH hTk;by_cases h1:v.id=0
 ·have d1:(v.id==0)=s:=by rw[beq_iff_eq];exact h1
  have hE:=zH (show jC S next v vs refs=2 by unfold jC;rw[if_pos (.inl h1)]);replace h1:=zH h1;go_wp2_with fail;exact VN rfl rfl (hQ.out _ hE.out _ x2)
 have d1:(v.id==0)=J:=by rw[beq_eq_false_iff_ne];exact h1
 by_cases h2:next<=v.id
 ·have d3:decide (v.id≥next)=s:=decide_eq_true h2;have hE:=zH (show jC S next v vs refs=2 by unfold jC;rw[if_pos (.inr (.inl h2))]);replace⟨h1,h2⟩:=zH2 h1 h2;go_wp2_with fail;exact VN rfl rfl (hQ.out _ hE.out _ x2)
 have d3:decide (v.id≥next)=J:=decide_eq_false h2;by_cases h3:v.root<8
 ·have d5:decide (v.root<8)=s:=decide_eq_true h3;have hE:=zH (show jC S next v vs refs=2 by unfold jC;rw[if_pos (.inr (.inr (.inl h3)))]);replace⟨h1,h2,h3⟩:=zH3 h1 h2 h3;go_wp2_with fail;exact VN rfl rfl (hQ.out _ hE.out _ x2)
 have d5:decide (v.root<8)=J:=decide_eq_false h3;by_cases h4:256<=v.root
 ·have d6:decide (v.root≥256)=s:=decide_eq_true h4;have hE:=zH (show jC S next v vs refs=2 by unfold jC;rw[if_pos (.inr (.inr (.inr h4)))]);replace⟨h1,h2,h3,h4⟩:=zH4 h1 h2 h3 h4;go_wp2_with fail;exact VN rfl rfl (hQ.out _ hE.out _ x2)
 have d6:decide (v.root≥256)=J:=decide_eq_false h4;have d7:decide (256<=v.root)=J:=decide_eq_false h4;have hE1:=zH (show jC S next v vs refs=if(zF vs v.id).isSome=J/\16<=vs.length then 9 else if Zy S v.root.toNat<=refs v.root.toNat then 6 else if okL S (-1) v.root=s then 0 else 8 by unfold jC;rw[if_neg (by rintro(h|h|h|h);exact h1 h;exact h2 h;exact h3 h;exact h4 h)]);obtain⟨r,hr⟩:∃r:Nat,v.root=(r:Int):=⟨v.root.toNat,zO⟩
 have hr8:8<=r:=zO;have hPE:r<256:=zO;have hto:v.root.toNat=r:=zO;rw[hr]at rv2 kv2 d5 d6 d7;rw[hto]at hE1 hT;have hT2:=zH (hT.out zO zO);clear hT h3 h4 hto;replace⟨h1,h2,hr⟩:=zH3 h1 h2 hr;go_wp2_with fail;refine HH.out.mono ?_;clear HH;rintro e w3 ⟨rfl,hB⟩;have x3:Ext w w3:=Ext.trans x2 hB;have rp3:=qb rp2 hB;have rv3:=qb rv2 hB;have kc3:=Ext.cell hB kc;have rc3:=qb hTk.out.row hB;clear rp2 rv2 kp2 kv2 kc x2 hB;have hVP:Hid ((zF vs v.id).isSome=(zF vs v.id).isSome):=zH rfl;generalize(zF vs v.id).isSome=there at*;have hYN:Hid (there=J/\16<=vs.length\/¬(there=J/\16<=vs.length)):=zH (Classical.em _);rcases hYN.out with⟨rfl,h16⟩|h16
 ·have e1:decide ((vs.length:Int)≥16)=s:=decide_eq_true zO;have hE:=zH (show jC S next v vs refs=9 by rw[hE1.out,if_pos ⟨rfl,h16⟩]);replace h16:=zH h16;clear hYN;go_wp2_with fail;exact VN rfl rfl (hQ.out _ hE.out _ x3)
 have hE2:=zH (show jC S next v vs refs=if Zy S r<=refs r then 6 else if okL S (-1) v.root=s then 0 else 8 by rw[hE1.out,if_neg h16]);have HB:there=s\/(there=J/\decide ((vs.length:Int)≥16)=J/\decide (16<=vs.length)=J):=by cases there;right;have:¬16<=vs.length:=λh=>h16 ⟨rfl,h⟩;exact⟨rfl,decide_eq_false zO,decide_eq_false this⟩;exact .inl rfl
 clear hE1 hYN h16;obtain⟨b3,o3,d3',e3,hb3,hAG⟩:=qaG hTk.out.pool.may h.out.now;simp only[Value.slice.injEq]at e3;obtain⟨rfl,rfl,rfl⟩:=e3;have hcn:=Ext.cell x3 (hAG r hPE);have hrf:=(qa rc3 (6+r)).trans (hTk.out.ar.ref r hPE);have hwn:=zH (IntWalk.wrap64_in (Zy S r:Int) (by have:=(S.now[r]?.getD 0).toNat_lt;unfold Zy;omega));have hwn2:=zH (show IntKind.i64.wrap (Zy S r:Int)=(Zy S r:Int)by rw[IntKind.wrap_i64];have:=(S.now[r]?.getD 0).toNat_lt;unfold Zy;omega);have HCK:=zH (λ(hne:Zy S r≠0) W (hx:Ext w W)=>by
  obtain⟨a,ha,ht⟩:=JE (hT2.out hne);obtain rfl:r=a:=by have:=hr.out;omega
  exact HC.out hTk.out.pool.may r ht W hx)
 clear hAG HC;generalize hnw:Zy S r=nw at*;generalize hrfe:refs r=rf at*;replace⟨hnw,hrfe⟩:=zH2 hnw hrfe;have gP:∀W,qp.r w3 W->∀i,W.cell? ⟨w,i,X⟩=(qQ (D A1 n1 c1) (D A2 n2 c2) (D (b3,o3) 256 c3) (D A4 n4 c4) gen root next (D A5 dead.length c5))[i]?:=λW h=>qa (qb rp3 h);have gV:∀W,qp.r w3 W->∀i,W.cell? ⟨w.heap.size+1,i,X⟩=#[Z .u32 v.id,(r:Int),.bool v.fz,Z .u32 v.frm][i]?:=λW h=>qa (qb rv3 h);have gN:∀W,qp.r w3 W->W.cell? (b3,o3+r)=I (Z .u8 (nw:Int)):=λW h=>Ext.cell h hcn;have gR:∀W,qp.r w3 W->W.cell? (cb,6+r)=I (Z .i64 (rf:Int)):=λW h=>Ext.cell h hrf;clear rc3;rcases HB with rfl|⟨rfl,e1,e2⟩
 all_goals
  go_upto_region 9 with fail;refine qw zQ ?_;refine Qb (w:=w3) qp (qV []) (List.replicate 16 s) 0 zQ zQ zQ zQ zQ zQ zQ ?st (Rel.drew _ _) ?walk
  case st=>exact ql (λ_ h=>by cases h)
  case walk=>
   intro K hK;dsimp only[qA,List.replicate];have hw':=hwn.out;have hJA:=hwn2.out;refine zB6 ?_
   first
    |(refine qe (.pointer (I ⟨b3,o3+r,X⟩)) zA0 zA0 (λW hW _=>⟨W,?_,Rel.refl _ W⟩) ?_
      ·go_simp;intro hge;exfalso;omega
      simp only[Act.put,qf,qc,qh,zA,zB,zC])
    |skip
   refine zB6 ?_
   first
    |(refine qe (.pointer (I ⟨cb,6+r,X⟩)) zA0 zA0 (λW hW _=>⟨W,?_,Rel.refl _ W⟩) ?_
      ·go_simp;intro hge;exfalso;omega
      simp only[Act.put,qf,qc,qh,zA,zB,zC])
    |skip
   refine zB6 ?_;refine qF (hK _ _ λV hV hF=>?_);clear hF hK gP gV gN gR;have hV:Ext w3 V:=hV;refine zB8 ?_;have x4:=x3.trans hV;have kp4:=qa (qb rp3 hV);have kv4:=qa (qb rv3 hV);clear rp3 rv3 hw';clear hJA;go_wp2;refine Qt ?_;by_cases hle:nw<=rf
   ·have f1:decide ((nw:Int)<=(rf:Int))=s:=decide_eq_true zO;have hE:=zH (show jC S next v vs refs=6 by rw[hE2.out,if_pos hle]);replace hle:=zH hle;go_wp2_with fail;exact VN rfl rfl (hQ.out _ hE.out _ x4)
   have f1:decide ((nw:Int)<=(rf:Int))=J:=decide_eq_false zO;have hE:=zH (show jC S next v vs refs=0 by rw[hE2.out,if_neg hle,if_pos (hT2.out zO)]);have HC4:=zH (HCK.out zO V x4);replace hle:=zH hle;clear HCK;go_wp2_with fail;refine HC4.out.mono ?_;clear HC4;rintro e w5 ⟨u,rfl,⟨m,rfl⟩,hB⟩;go_wp2_with fail;exact VN rfl rfl (hQ.out _ hE.out _ (x4.trans hB))
theorem qae(w:O)(g:Nat)(cs:Array Y):w.grownBy (w.setRow g cs) (I g):=
 ⟨rfl,rfl,rfl,zA3,λk _ hk=>setRow_other w g k _ (λe=>hk (by simp[e]))⟩
theorem qaa(W:O)(dT sT ty elem:TypeId)(g o dLen dCap:Nat)(A c)(l:List UInt8)(cur:Array Y)(t:TypeId)(hu:P.underlying dT=I (.slice elem))(hs:(P.info? elem).map (·.size)=I 1)(hg:W.heap[g]?=I (U cur t))(h:Bys W B (D A l.length c) l)(hd:l.length<=dLen)(hJZ:o+l.length<=cur.size):(Builtin.copy_ #[dT,sT] ty #[D (g,o) dLen dCap,D A l.length c]).run P W=.ok (l.length:Int) (W.setRow g (cur.toList.take o++l.map bv++cur.toList.drop (o+l.length)).toArray):=by
 obtain⟨A',c',e,hc,hm,hr⟩:=h;simp only[Value.slice.injEq,true_and]at e;obtain⟨rfl,rfl⟩:=e;rcases A with _|ad
 have h0:l.length=0:=by
  rcases Nat.eq_zero_or_pos l.length with h0|h0
  exact h0;obtain⟨b,off,h,_⟩:=hr.2 h0;cases h
 obtain rfl:l=[]:=List.eq_nil_of_length_eq_zero h0;cases hq:P.info? elem with
 |none=>simp[hq]at hs
 |some i=>
  simp[Builtin.copy_,run_underlying hu,Builtin.lenOf,Builtin.firstCells,sizeOf,typeInfo,hq,storeCells];rw[setRow_self W g cur t (0,0) hg];exact⟨rfl,rfl⟩
 have hGP:∀j v,(l.map bv)[j]?=I v->W.cell? (ad.add j)=I v:=by
  intro j v hv;rcases Nat.eq_zero_or_pos l.length with h0|h0
  obtain rfl:l=[]:=List.eq_nil_of_length_eq_zero h0;simp at hv;obtain⟨b,off,h,_⟩:=hr.2 h0;cases h;exact hr.adds h0 j v hv
 have:=run_copy_row P W dT sT ty elem g o dLen dCap ad l.length c cur t (l.map bv) hu hs hg (by simp[Nat.min_eq_left hd]) hGP (by simpa using hJZ) (Gp l);rw[List.length_map]at this;exact this
def jP(cur:Array Y)(o:Nat)(l:List UInt8):Array Y:=(cur.toList.take o++l.map bv++cur.toList.drop (o+l.length)).toArray
theorem qbl(h:o+l.length<=cur.size):(jP cur o l).size=cur.size:=by simp[jP];omega
theorem qjR(h:o+l.length<=cur.size)(hj:j<o\/o+l.length<=j):(jP cur o l)[j]?=cur[j]?:=by
 unfold jP;rw[List.getElem?_toArray];have hcl:cur.toList.length=cur.size:=zA3;rcases hj with hj|hj
 rw[List.append_assoc,List.getElem?_append_left (by rw[List.length_take];omega),List.getElem?_take,if_pos hj];simp;rw[List.getElem?_append_right (by rw[List.length_append,List.length_take,List.length_map];omega),List.getElem?_drop,List.length_append,List.length_take,List.length_map,hcl];rw[show o+l.length+(j-(min o cur.size+l.length))=j by omega];simp
theorem qjQ(h:o+l.length<=cur.size)(hu:(l.map bv)[j]?=u):(jP cur o l)[o+j]?=u:=by
 have hj:j<l.length:=by have:=(List.getElem?_eq_some_iff.1 hu).1;simpa using this
 have hcl:cur.toList.length=cur.size:=zA3;unfold jP;rw[List.getElem?_toArray,List.append_assoc,List.getElem?_append_right (by rw[List.length_take];omega),List.length_take,hcl,show o+j-min o cur.size=j by omega,List.getElem?_append_left (by rw[List.length_map];exact hj)];exact hu
structure qet(hb g o n:Nat)(cur:Array Y)(w:O):Prop where
 box:w.heap[hb]?=I (U #[D (g,o) n n] 273)
 row:w.heap[g]?=I (U cur 5)
 ne:hb≠g
 fit:o+n<=cur.size
 few:n<1000000000000000
def CloneQ(hb g o n:Nat)(cur:Array Y)(l:List UInt8)(w:O)(e:Ending)(w':O):Prop:=∃o',e=.returned (D (g,o) l.length l.length)/\(0<n-l.length->o'=o+l.length)/\(n-l.length=0->o'=o)/\qet hb g o' (n-l.length) (jP cur o l) w' /\
 (w'.heap.size=w/\w'.os=w.os/\w'.tape=w.tape/\w'.output=w.output/\∀b,b≠hb->b≠g->w'.heap[b]?=w.heap[b]?)
set_option maxRecDepth 100000 in
theorem qcF(hb g o n:Nat)(cur:Array Y)(A c)(l:List UInt8)(hl:l.length<=n)(w:O)(H:qet hb g o n cur w)(h:Bys w w (D A l.length c) l):Calls prog 201 #[.pointer hb,D A l.length c] w (CloneQ hb g o n cur l w):=by
 have hsz:(Tryz.prog.info? 5).map (·.size)=I 1:=zQ;obtain⟨r1,r2,hne,hJZ,hRW⟩:=H;have hcp:=qaa (P:=prog) w 273 26 3 5 g o n n A c l _ _ underlying273 hsz r2 h hl zO;have e1:(List.take o cur.toList++List.map bv l++List.drop (o+l.length) cur.toList).toArray=jP cur o l:=rfl;rw[e1]at hcp;have r3:(w.setRow g (jP cur o l)).heap[hb]?=I (U #[D (g,o) n n] 273):=(setRow_other w g hb _ hne).trans r1;have r4:=setRow_heap w g _ (jP cur o l) _ _ r2;have h3:∀b,b≠g->(w.setRow g (jP cur o l)).heap[b]?=w.heap[b]?:=λb hb=>setRow_other w g b _ hb;have s3:(w.setRow g (jP cur o l)).heap.size=w:=zA3;have o3:(w.setRow g (jP cur o l)).os=w.os/\(w.setRow g (jP cur o l)).tape=w.tape/\(w.setRow g (jP cur o l)).output=w.output:=⟨rfl,rfl,rfl⟩
 generalize w.setRow g (jP cur o l)=w3 at*;have k1:=qa r1;have k3:=qa r3;have f3:=qd r3;clear h r1 r2 hsz e1;replace⟨h3,r4,o3⟩:=zH3 h3 r4 o3;have hll:=zH hl;have hc1:(l.length:Int)<=(n:Int):=zO;have fin:Hid (∀o' n',n'=n-l.length->(0<n'->o'=o+l.length)->(n'=0->o'=o)->CloneQ hb g o n cur l w (.returned (D (g,o) l.length l.length)) (w3.setCell hb (D (I ⟨g,o',X⟩) n' n'))):=zH λo' n' e h1 h2=>by
  subst e;refine⟨o',rfl,h1,h2,⟨qj r3 0 _,(zJ _ _ _ _ (λe=>hne e.symm)).trans r4.out,hne,?_,zO⟩,by simpa using s3,o3.out.1,o3.out.2.1,o3.out.2.2,λb hb hbg=>(zJ _ _ _ _ hb).trans (h3.out b hbg)⟩;rw[qbl zO];rcases Nat.eq_zero_or_pos (n-l.length)with h0|h0
  have:=h2 h0;omega;have:=h1 h0;omega
 clear r3 r4 h3 o3 hJZ;go_enter func201,ntmps201;go_wp2_with fail
 ·subst h;go_ret;exact fin.out o 0 zO (λh=>zO) (λ_=>rfl)
 go_ret;exact fin.out (o+l.length) (n-l.length) rfl (λ_=>rfl) (λh=>zO)
section
variable {R0 R:Rel} {c:Nat}
def preC(R0 R:Rel)(c i:Nat):Rel:=if i=c then R0 else R
def qbS(R0 R:Rel)(c i:Nat):Rel:=if i=c then R else R0
section
variable {P:Program} {ops:Array Oper} {w0:World}
def Jq(R0 R:Rel)(c:Nat)(P:Program)(ops:Array Oper)(w0:O)(H:Nat->Option Qd)(i:Nat)(o:Oper)(a:Act)(F:qR)(h:Qd):Prop:=
 (Region.wanted o (yielded ops a.tmps)=J/\h=one undef) \/
 (Region.wanted o (yielded ops a.tmps)=s/\H i=X/\∃v,h=one v/\∀W,(preC R0 R c i).r w0 W->(∀k∈qS o,F k W)->JJ (qbS R0 R c i) P o a W v) \/
 (Region.wanted o (yielded ops a.tmps)=s/\H i=h/\∀W,(preC R0 R c i).r w0 W->(∀k∈qS o,F k W)->Qw (qbS R0 R c i) P o a W h)
def qaS(R0 R:Rel)(c:Nat)(w0:O)(listed:Array Bool)(F:qR):Prop:=∃W,R.r w0 W/\(listed.getD c s=J->R0.r w0 W)/\∀k,F k W
def FOpC(R0 R:Rel)(c:Nat)(P:Program)(ops:Array Oper)(w0:O)(H:Nat->Option Qd)(listed:Array Bool)(i:Nat)(o:Oper)(K:Act->qR->Prop)(a:Act)(F:qR):Prop:=
 ∃h,Jq R0 R c P ops w0 H i o a F h/\∀p,qaS R0 R c w0 (listed.setIfInBounds i s) (upd F i o (h.φ p))->K (a.put o.dst (h.f p)) (upd F i o (h.φ p))
def vt(R0 R:Rel)(c:Nat)(P:Program)(ops:Array Oper)(w0:O)(H:Nat->Option Qd)(Q:Act->qR->Prop):List (Nat×Oper)->Array Bool->Act->qR->Prop
 |[],_,a,F=>Q a F
 |(k,o)::rest,listed,a,F=>FOpC R0 R c P ops w0 H listed k o (λa' F'=>vt R0 R c P ops w0 H Q rest (listed.setIfInBounds k s) a' F') a F
def qai(R0 R:Rel)(c:Nat)(P:Program)(ops:Array Oper)(w0:O)(H:Nat->Option Qd)(L:Array Bool)(Q:Act->qR->Prop):Nat->Array Bool->Act->qR->Prop
 |0,listed,a,F=>listed=L/\Q a F
 |fuel+1,listed,a,F=>Region.ready .any ops listed≠[]/\∀i∈Region.ready .any ops listed,∀o,ops[i]?=I o->FOpC R0 R c P ops w0 H listed i o (qai R0 R c P ops w0 H L Q fuel (listed.setIfInBounds i s)) a F
theorem qgq{listed:Array Bool}{i:Nat}{W:O}(hi:listed.getD i s=J)(h:R.r w0 W)(h0:listed.getD c s=J->R0.r w0 W):(preC R0 R c i).r w0 W:=by unfold preC;split;rename_i e;subst e;exact h0 hi;exact h
theorem qlu(hle:∀a b,R0.r a b->R.r a b){i:Nat}{W W':O}(h:(qbS R0 R c i).r W W'):R.r W W':=by unfold qbS at h;split at h;exact h;exact hle _ _ h
theorem stpC_0{listed:Array Bool}{i:Nat}{W W':O}(hi:listed.getD i s=J)(h:(qbS R0 R c i).r W W')(hc:(listed.setIfInBounds i s).getD c s=J):R0.r W W':=by
 unfold qbS at h;split at h;rename_i e;subst e;exfalso;rcases Nat.lt_or_ge i listed.size with h'|h'
 simp[h']at hc;simp[Array.getElem?_eq_none h']at hi;exact h
theorem unset{listed:Array Bool}{i c:Nat}(hc:(listed.setIfInBounds i s).getD c s=J):listed.getD c s=J:=by
 by_cases e:i=c;subst e;rcases Nat.lt_or_ge i listed.size with h'|h'
 simp[h']at hc;simp at hc
 rwa [getD_set_ne s e]at hc
def Void(c:Nat)(listed:Array Bool)(F:qR):Prop:=listed.getD c s=J->∀k W,F k W
theorem keepC{listed:Array Bool}{F:qR}{i:Nat}{W W':O}(hi:listed.getD i s=J)(hst:∀k,qU R0 (F k))(hv:Void c listed F)(h:(qbS R0 R c i).r W W')(k:Nat)(hF:F k W):F k W':=by unfold qbS at h;split at h;rename_i e;subst e;exact hv hi k W';exact hst k _ _ h hF
theorem Jq.unique{H:Nat->Option Qd}{listed:Array Bool}{i:Nat}{o:Oper}{a:Act}{F:qR}{h h':Qd}(hc:qaS R0 R c w0 listed F)(hi:listed.getD i s=J)(x:Jq R0 R c P ops w0 H i o a F h)(y:Jq R0 R c P ops w0 H i o a F h'):h=h':=by
 obtain⟨W,hW,hW0,hF⟩:=hc;have hW:=qgq hi hW hW0;rcases x with⟨x1,rfl⟩|⟨x1,x2,v,rfl,x3⟩|⟨x1,x2,x3⟩<;>rcases y with⟨y1,rfl⟩|⟨y1,y2,u,rfl,y3⟩|⟨y1,y2,y3⟩
 rfl;rw[x1]at y1;cases y1;rw[x1]at y1;cases y1;rw[x1]at y1;cases y1;obtain⟨w1,e1,_⟩:=x3 W hW λk _=>hF k;obtain⟨w2,e2,_⟩:=y3 W hW λk _=>hF k;rw[e1]at e2;cases e2;rfl;rw[x2]at y2;cases y2;rw[x1]at y1;cases y1;rw[x2]at y2;cases y2;rw[x2]at y2;cases y2;rfl
theorem Jq.some_(hle:∀a b,R0.r a b->R.r a b){H:Nat->Option Qd}{listed:Array Bool}{i:Nat}{o:Oper}{a:Act}{F:qR}{h:Qd}(hc:qaS R0 R c w0 listed F)(hi:listed.getD i s=J)(hst:∀k,qU R0 (F k))(hv:Void c listed F)(x:Jq R0 R c P ops w0 H i o a F h):∃p,qaS R0 R c w0 (listed.setIfInBounds i s) (upd F i o (h.φ p)):=by
 obtain⟨W,hW,hW0,hF⟩:=hc;have triv:∀(φ:O->Prop)W',(qbS R0 R c i).r W W'->φ W'->qaS R0 R c w0 (listed.setIfInBounds i s) (upd F i o φ):=λφ W' he hφ=>⟨W',R.trans hW (qlu hle he),λh=>R0.trans (hW0 (unset h)) (stpC_0 hi he h),λk=>by
  unfold upd;split;exact⟨hφ,λj _=>keepC hi hst hv he j (hF j)⟩
  ·exact keepC hi hst hv he k (hF k)⟩
 have hW:=qgq hi hW hW0;rcases x with⟨x1,rfl⟩|⟨x1,x2,v,rfl,x3⟩|⟨x1,x2,x3⟩
 exact⟨(),triv _ W (Rel.refl _ W) trivial⟩;obtain⟨w',_,he⟩:=x3 W hW λk _=>hF k;exact⟨(),triv _ w' he trivial⟩;have h3:=x3 W hW λk _=>hF k;unfold Qw at h3;generalize(execOp a.eval o).run P W=r at h3;cases r with
 |ok n w'=>
  cases n<;>simp only[Zn]at h3
  case value u=>obtain⟨p,_,hp,he⟩:=h3;exact⟨p,triv _ w' he hp⟩
  case skip=>obtain⟨p,_,hp,he⟩:=h3;exact⟨p,triv _ w' he hp⟩
  case enter f args=>obtain⟨he,hcl⟩:=h3;obtain⟨e,w'',fr,⟨p,_,hp,he2⟩,_⟩:=hcl [];exact⟨p,triv _ w'' (Rel.trans _ he he2) hp⟩
 |halt x w'=>simp only[Zn]at h3
theorem Jq.move{H:Nat->Option Qd}{i j:Nat}{oi oj:Oper}{a:Act}{F:qR}{h:Qd}{v:Y}{φ:O->Prop}(hap:oi.apart ops oj=s)(hsj:∀cs b,oj.op≠.select cs b)(hn:i∉qS oj):Jq R0 R c P ops w0 H j oj (a.put oi.dst v) (upd F i oi φ) h↔Jq R0 R c P ops w0 H j oj a F h:=by
 obtain⟨h1,_,_⟩:=Oper.apart_spec hap;have hF:∀W,(∀k∈qS oj,upd F i oi φ k W)↔∀k∈qS oj,F k W:=λW=>by constructor<;>intro hh k hk;have:=hh k hk;unfold upd at this;rwa [if_neg (λe=>hn (by rw[<-e];exact hk))]at this;unfold upd;rw[if_neg (λe=>hn (by rw[<-e];exact hk))];exact hh k hk
 unfold Jq JJ Qw;rw[wanted_put oj a oi.dst v h1,execOp_put oj hsj a oi.dst v h1];simp only[hF]
theorem Jq.move'{H:Nat->Option Qd}{i j:Nat}{oi oj:Oper}{a:Act}{F:qR}{h:Qd}{v:Y}{φ:O->Prop}(hap:oi.apart ops oj=s)(hsi:∀cs b,oi.op≠.select cs b)(hn:j∉qS oi):Jq R0 R c P ops w0 H i oi (a.put oj.dst v) (upd F j oj φ) h↔Jq R0 R c P ops w0 H i oi a F h:=by
 obtain⟨_,_,h3⟩:=Oper.apart_spec hap;have hF:∀W,(∀k∈qS oi,upd F j oj φ k W)↔∀k∈qS oi,F k W:=λW=>by constructor<;>intro hh k hk;have:=hh k hk;unfold upd at this;rwa [if_neg (λe=>hn (by rw[<-e];exact hk))]at this;unfold upd;rw[if_neg (λe=>hn (by rw[<-e];exact hk))];exact hh k hk
 unfold Jq JJ Qw;rw[wanted_put oi a oj.dst v h3,execOp_put oi hsi a oj.dst v h3];simp only[hF]
theorem Jq.stable{H:Nat->Option Qd}(hH:∀i h,H i=I h->∀p,qU R0 (h.φ p)){i:Nat}{o:Oper}{a:Act}{F:qR}{h:Qd}(x:Jq R0 R c P ops w0 H i o a F h):∀p,qU R0 (h.φ p):=by
 rcases x with⟨_,rfl⟩|⟨_,_,v,rfl,_⟩|⟨_,x2,_⟩
 exact λ_ _ _ _ _=>trivial;exact λ_ _ _ _ _=>trivial;exact hH i h x2
theorem Jq.void{H:Nat->Option Qd}(hone:∀i h,H i=I h->i=c){listed:Array Bool}{i:Nat}{o:Oper}{a:Act}{F:qR}{h:Qd}(hv:Void c listed F)(x:Jq R0 R c P ops w0 H i o a F h)(p:h.α):Void c (listed.setIfInBounds i s) (upd F i o (h.φ p)):=by
 intro hc k W;have hcl:=hv (unset hc);unfold upd;split;refine⟨?_,λj _=>hcl j W⟩;rcases x with⟨_,rfl⟩|⟨_,_,v,rfl,_⟩|⟨_,x2,_⟩
 trivial;trivial;exfalso;have e:=hone i h x2;subst e;rcases Nat.lt_or_ge i listed.size with h'|h'
 simp[h']at hc;simp at hc;exact hcl k W
theorem qem(hle:∀a b,R0.r a b->R.r a b){H:Nat->Option Qd}(hone:∀i h,H i=I h->i=c)(hH:∀i h,H i=I h->∀p,qU R0 (h.φ p)){A:Nat->Prop}{Cl:Array Bool->Prop}{L:Array Bool}{Q:Act->qR->Prop}{i:Nat}{oi:Oper}(hi:ops[i]?=oi)(him:A i)(hIU:∀(j:Nat)(o:Oper)cs b,ops[j]?=o->o.op≠.select cs b)(hcl:∀listed j,Cl listed->j∈Region.ready .any ops listed->Cl (listed.setIfInBounds j s))(hCT:∀(listed:Array Bool)(j:Nat),Cl listed->j∈Region.ready .any ops listed->L.getD j s=J->∀k,A k->listed.getD k J=s):∀(fuel:Nat)(listed:Array Bool)(a:Act)(F:qR),Cl listed -> (∀j oj,ops[j]?=I oj->j≠i->listed.getD j s=J->(∀e∈oj.after,Region.binds .any e=s->e.on≠i)->oi.apart ops oj=s) ->
   i∈Region.ready .any ops listed->(∀k,qU R0 (F k))->qaS R0 R c w0 listed F->Void c listed F->(∀k,listed.getD k s=J->∀W,F k W) ->
   FOpC R0 R c P ops w0 H listed i oi (qai R0 R c P ops w0 H L Q fuel (listed.setIfInBounds i s)) a F->qai R0 R c P ops w0 H L Q (fuel+1) listed a F:=by
 intro fuel;induction fuel with
 |zero=>
  intro listed a F hCl _ hr hst hc hvd _ hop;refine⟨λh=>(by rw[h]at hr;cases hr),λj hj oj hoj=>?_⟩;by_cases hji:j=i;subst hji;rw[hi]at hoj;cases hoj;exact hop;exfalso;obtain⟨h,hok,hK⟩:=hop;obtain⟨p,hcp⟩:=hok.some_ hle hc (mem_ready.1 hr).1 hst hvd;have hmj:L.getD j s=J:=by rw[<-(hK p hcp).1];exact(mem_ready.1 (ready_mono hj hji)).1
  have h1:=hCT listed j hCl hj hmj i him;have h0:=(mem_ready.1 hr).1;rcases Nat.lt_or_ge i listed.size with h'|h'
  simp[h']at h0 h1;rw[h0]at h1;cases h1;simp[Array.getElem?_eq_none h']at h1
 |succ fuel ih=>
  intro listed a F hCl hEX hr hst hc hvd hun hop;refine⟨λh=>(by rw[h]at hr;cases hr),λj hj oj hoj=>?_⟩;by_cases hji:j=i;subst hji;rw[hi]at hoj;cases hoj;exact hop;obtain⟨hCU,oj',hJH,hCC⟩:=mem_ready.1 hj;rw[hoj]at hJH;cases hJH;obtain⟨hJO,oi',hKE,hIJ⟩:=mem_ready.1 hr;rw[hi]at hKE;cases hKE;have bad:∀k,listed.getD k s=J->listed.getD k J=s->False:=λk h0 h1=>by
   rcases Nat.lt_or_ge k listed.size with h'|h'
   simp[h']at h0 h1;rw[h0]at h1;cases h1;simp[Array.getElem?_eq_none h']at h1
  have hKC:∀e∈oj.after,Region.binds .any e=s->e.on≠i:=λe he hb heq=>bad i hJO (heq▸hCC e he hb);have hKD:∀e∈oi.after,Region.binds .any e=s->e.on≠j:=λe he hb heq=>bad j hCU (heq▸hIJ e he hb);have hpi:i∉qS oj:=λhin=>by obtain⟨e,he,hei⟩:=List.mem_map.1 hin;rw[List.mem_filter]at he;exact hKC e (by simpa using he.1) he.2 hei
  have hpj:j∉qS oi:=λhin=>by obtain⟨e,he,hei⟩:=List.mem_map.1 hin;rw[List.mem_filter]at he;exact hKD e (by simpa using he.1) he.2 hei
  have hap:=hEX j oj hoj hji hCU hKC;have hsi:∀cs b,oi.op≠.select cs b:=λcs b=>hIU i oi cs b hi;have hsj:∀cs b,oj.op≠.select cs b:=λcs b=>hIU j oj cs b hoj;obtain⟨h2,_⟩:=(Oper.apart_spec hap).2;obtain⟨hI,okI,hKI⟩:=hop;obtain⟨p0,hOD⟩:=okI.some_ hle hc hJO hst hvd;obtain⟨hJ,okJ0,_⟩:=(hKI p0 hOD).2 j (ready_mono hj hji) oj hoj;have okJ:Jq R0 R c P ops w0 H j oj a F hJ:=(Jq.move hap hsj hpi).1 okJ0;refine⟨hJ,okJ,λq hcq=>?_⟩;have stJ:=okJ.stable hH q;have hGZ:∀k ok,ops[k]?=I ok->k≠i->(listed.setIfInBounds j s).getD k s=J ->
    (∀e∈ok.after,Region.binds .any e=s->e.on≠i)->oi.apart ops ok=s:=λk ok hk hki hKM hno=>by
   refine hEX k ok hk hki ?_ hno;by_cases hjk:j=k;subst hjk;exact hCU;rw[getD_set_ne s hjk]at hKM;exact hKM
  refine ih (listed.setIfInBounds j s) _ _ (hcl _ _ hCl hj) hGZ (ready_mono hr (Ne.symm hji)) (jq hst j oj stJ) hcq (okJ.void hone hvd q) ?_ ?_;intro k hk W;by_cases hjk:j=k;subst hjk;exfalso;have hlt:j<listed.size:=by
   rcases Nat.lt_or_ge j listed.size with h'|h'
   exact h';simp[Array.getElem?_eq_none h']at hCU
  simp[hlt]at hk;rw[getD_set_ne s hjk]at hk;have:=hun k hk W;unfold upd;rw[if_neg (λe=>hjk e.symm)];exact this;refine⟨hI,(Jq.move' hap hsi hpj).2 okI,λp hcp=>?_⟩;have hPT:qaS R0 R c w0 (listed.setIfInBounds i s) (upd F i oi (hI.φ p)):=by
   by_cases hjc:j=c;have wJH:∃v,hI=one v:=by
    rcases okI with⟨_,e⟩|⟨_,_,v,e,_⟩|⟨_,e,_⟩
    exact⟨_,e⟩;exact⟨_,e⟩;exact absurd ((hone _ _ e).trans hjc.symm) (Ne.symm hji)
   obtain⟨v,rfl⟩:=wJH;exact hOD;obtain⟨W,hW,hW0,hF⟩:=hcp;refine⟨W,hW,λh=>hW0 ?_,λk=>?_⟩;rw[Array.setIfInBounds_comm _ _ hji,getD_set_ne s hjc];exact h;have hk:=hF k;by_cases hki:k=i;subst hki;unfold upd at hk⊢;rw[if_pos rfl]at hk⊢;refine⟨hk.1,λl hl=>?_⟩;have:=hk.2 l hl
   rwa [if_neg (λe=>hpj (by rw[<-e];exact hl))]at this
   by_cases hkj:k=j;subst hkj;unfold upd;rw[if_neg hki];exact hun k hCU W;unfold upd at hk⊢;rw[if_neg hki,if_neg hkj]at hk;rw[if_neg hki];exact hk
  obtain⟨hJ',okJ',hPN⟩:=(hKI p hPT).2 j (ready_mono hj hji) oj hoj;have okJ'':Jq R0 R c P ops w0 H j oj a F hJ':=(Jq.move hap hsj hpi).1 okJ';have e:=okJ''.unique hc hCU okJ;subst e;have hq:=hPN q (by rw[kh F _ _ (Ne.symm hji) hpi hpj,Array.setIfInBounds_comm _ _ (λe=>hji e.symm)];exact hcp);rw[Array.setIfInBounds_comm _ _ (λe=>hji e.symm),Act.put_comm a (hI.f p) (hJ'.f q) h2,kh F _ _ (Ne.symm hji) hpi hpj]at hq;exact hq
theorem qbH(hle:∀a b,R0.r a b->R.r a b){H:Nat->Option Qd}(hone:∀i h,H i=I h->i=c)(hH:∀i h,H i=I h->∀p,qU R0 (h.φ p)){Cl:Array Bool->Prop}{L:Array Bool}{ks:List Nat}{Q:Act->qR->Prop}(hs:Region.noSelect ops=s)(hcl:∀listed j,Cl listed->j∈Region.ready .any ops listed->Cl (listed.setIfInBounds j s))(hCT:∀(listed:Array Bool)(j:Nat),Cl listed->j∈Region.ready .any ops listed->L.getD j s=J->∀k,k∈ks->listed.getD k J=s):∀(l:List (Nat×Oper))(listed:Array Bool)(a:Act)(F:qR),Cl listed->(∀x∈l,ops[x.1]?=I x.2/\x.1∈ks) ->
  Zs ops L (l.map (·.1)) listed=s->(∀k,qU R0 (F k))->qaS R0 R c w0 listed F->Void c listed F->(∀j,listed.getD j s=J->∀W,F j W)->vt R0 R c P ops w0 H Q l listed a F->qai R0 R c P ops w0 H L Q l.length listed a F
 |[],listed,a,F,_,_,hB,_,_,_,_,h=>⟨by simpa [Zs]using hB,h⟩
 |(k,o)::l,listed,a,F,hCl,hl,hB,hst,hc,hvd,hun,h=>by
  obtain⟨h0,hks⟩:=hl (k,o) (List.mem_cons_self);simp only[List.map_cons,Zs,Bool.and_eq_true]at hB;obtain⟨⟨hr,hf⟩,hB'⟩:=hB;have hrk:k∈Region.ready .any ops listed:=by simpa using hr
  have hOI:=(mem_ready.1 hrk).1;refine qem hle hone (A:=λk=>k∈ks) hH h0 hks (Region.noSelect_spec hs) hcl hCT l.length listed a F hCl (Region.free_spec h0 hf) hrk hst hc hvd hun ?_;obtain⟨hh,hok,hK⟩:=h;refine⟨hh,hok,λp hcp=>?_⟩;refine qbH hle hone hH hs hcl hCT l _ _ _ (hcl _ _ hCl hrk) (λx hx=>hl x (List.mem_cons_of_mem _ hx)) hB' (jq hst k o (hok.stable hH p)) hcp (hok.void hone hvd p) (λj hj W=>?_) (hK p hcp);by_cases hjk:k=j;subst hjk;have hlt:k<listed.size:=by
   rcases Nat.lt_or_ge k listed.size with h'|h'
   exact h';simp[Array.getElem?_eq_none h']at hOI
  simp[hlt]at hj;rw[getD_set_ne s hjk]at hj;have:=hun j hj W;unfold upd;rw[if_neg (λe=>hjk e.symm)];exact this
theorem qeq(hle:∀a b,R0.r a b->R.r a b){H:Nat->Option Qd}{i:Nat}{o:Oper}{a:Act}{F:qR}{K:Act->qR->Prop}{K':Act->O->Prop}{Q':Exit->Act->O->Prop}{W:O}{listed:Array Bool}(hli:listed.getD i s=J)(hi:ops[i]?=o)(hone:∀i h,H i=I h->i=c)(hH:∀i h,H i=I h->∀p,qU R0 (h.φ p))(hst:∀k,qU R0 (F k))(hvd:Void c listed F)(hW:R.r w0 W)(hW0:listed.getD c s=J->R0.r w0 W)(hF:∀k,F k W)(hK:∀a' F' W',K a' F'->(∀k,qU R0 (F' k))->Void c (listed.setIfInBounds i s) F'->R.r w0 W'->((listed.setIfInBounds i s).getD c s=J->R0.r w0 W')->(∀k,F' k W')->K' a' W')(h:FOpC R0 R c P ops w0 H listed i o K a F):wpOp P ops Q' i K' a W:=by
 obtain⟨hh,hok,hn⟩:=h;have go:∀p W',(qbS R0 R c i).r W W'->hh.φ p W'->K' (a.put o.dst (hh.f p)) W':=λp W' he0 hφ=>by
  have he:=qlu hle he0;have h0:(listed.setIfInBounds i s).getD c s=J->R0.r w0 W':=λh=>R0.trans (hW0 (unset h)) (stpC_0 hli he0 h);have hF':∀k,upd F i o (hh.φ p) k W':=λk=>by unfold upd;split;exact⟨hφ,λj _=>keepC hli hst hvd he0 j (hF j)⟩;exact keepC hli hst hvd he0 k (hF k)
  exact hK _ _ W' (hn p ⟨W',R.trans hW he,h0,hF'⟩) (jq hst i o (hok.stable hH p)) (hok.void hone hvd p) (R.trans hW he) h0 hF'
 have hWp:=qgq (c:=c) hli hW hW0;unfold wpOp;simp only[hi];rcases hok with⟨x1,rfl⟩|⟨x1,x2,v,rfl,x3⟩|⟨x1,x2,x3⟩
 simp only[x1,Bool.false_eq_true,if_false];exact go () W (Rel.refl _ W) trivial;simp only[x1,if_true];obtain⟨w',hr,he⟩:=x3 W hWp λk _=>hF k;refine .inl ?_;unfold Oper.wp;rw[hr];exact go () w' he trivial;simp only[x1,if_true];have h3:=x3 W hWp λk _=>hF k;refine .inl ?_;unfold Qw at h3;unfold Oper.wp;generalize(execOp a.eval o).run P W=r at*;cases r with
 |ok n w'=>
  cases n<;>simp only[Zn]at h3<;>simp only[Oper.upon]
  case value u=>obtain⟨p,rfl,hp,he⟩:=h3;exact go p w' he hp
  case skip=>obtain⟨p,hu,hp,he⟩:=h3;rw[hu];exact go p w' he hp
  case enter f args=>obtain⟨he,hcl⟩:=h3;refine hcl.mono λe w'' ⟨p,he1,hp,he2⟩=>?_;subst he1;exact go p w'' (Rel.trans _ he he2) hp
 |halt x w'=>simp only[Zn]at h3
theorem TN(hle:∀a b,R0.r a b->R.r a b){H:Nat->Option Qd}(hone:∀i h,H i=I h->i=c)(hH:∀i h,H i=I h->∀p,qU R0 (h.φ p)){L:Array Bool}{t:Nat}{Q:Act->qR->Prop}{Q':Exit->Act->O->Prop}(hQ:∀a F W,Q a F->R.r w0 W->(∀k,F k W)->wpAny P .any ops Q' t L a W):∀(fuel:Nat)(listed:Array Bool)(a:Act)(F:qR)(W:O),(∀k,qU R0 (F k))->Void c listed F->R.r w0 W->(listed.getD c s=J->R0.r w0 W)->(∀k,F k W)->qai R0 R c P ops w0 H L Q fuel listed a F->wpAny P .any ops Q' (fuel+t) listed a W
 |0,listed,a,F,W,_,_,hW,_,hF,h=>by rw[h.1,Nat.zero_add];exact hQ a F W h.2 hW hF
 |fuel+1,listed,a,F,W,hst,hvd,hW,hW0,hF,h=>by rw[show fuel+1+t=fuel+t+1 by omega];refine⟨λh0=>absurd h0 h.1,λi hi=>?_⟩;obtain⟨hli,o,ho,_⟩:=mem_ready.1 hi;exact qeq hle hli ho hone hH hst hvd hW hW0 hF (λa' F' W' hk hJP hvd' hW' wEZ hF'=>TN hle hone hH hQ fuel _ a' F' W' hJP hvd' hW' wEZ hF' hk) (h.2 i hi o ho)
theorem qev{l:List Oper}{Q:Exit->Act->O->Prop}{fuel:Nat}{listed:Array Bool}{a:Act}{w W:O}(R0 R:Rel)(c:Nat)(hle:∀a b,R0.r a b->R.r a b)(H:Nat->Option Qd)(M:List Bool)(t:Nat)(hs:Region.noSelect l.toArray=s)(ht:qfu l.toArray (QX l.length (l.length-t)) ((qA 0 l M).map (·.1))=s)(hc0:Xb l.toArray listed=s)(hB:Zs l.toArray (QX l.length (l.length-t)) ((qA 0 l M).map (·.1)) listed=s)(hKZ:qad l.toArray t (l.length-t) (QX l.length (l.length-t))=s)(hfu:fuel=(qA 0 l M).length+t)(htl:(l.drop (l.length-t)).length=t)(hH:∀i h,H i=I h->∀p,qU R0 (h.φ p))(hone:∀i h,H i=I h->i=c)(hW:R0.r w W)(h:∀K:Act->qR->Prop,(∀a' F',(∀W,R.r w W->(∀k,F' k W)->wpList P l.toArray Q (l.drop (l.length-t)) a' W)->K a' F')->vt R0 R c P l.toArray w H K (qA 0 l M) listed a (λ_ _=>True)):wpAny P .any l.toArray Q fuel listed a W:=by
 have h:=h _ (λa' F' hh=>hh);subst hfu;have key:=qbH hle hone (w0:=w) hH hs (λ_ _ h=>h.step) (XB ht) (qA 0 l M) listed a (λ_ _=>True) (vN hc0) (λx hx=>by obtain⟨j,h1,h2⟩:=vV l M 0 x hx;refine⟨?_,List.mem_map.2 ⟨x,hx,rfl⟩⟩;rw[h1,Nat.zero_add];simpa using h2) hB (λ_ _ _ _ _=>trivial) ⟨W,hle _ _ hW,λ_=>hW,λ_=>trivial⟩ (λ_ _ _=>trivial) (λ_ _ _=>trivial) h;refine TN hle hone (w0:=w) hH (t:=t) (Q':=Q) (λa F W hq hW hF=>?_) _ _ _ _ W (λ_ _ _ _ _=>trivial) (λ_ _ _=>trivial) (hle _ _ hW) (λ_=>hW) (λ_=>trivial) key;have:=Kj (l.drop (l.length-t)) (l.length-t) _ a W (λj _=>by rw[List.getElem?_drop];simp) (by rw[htl];exact hKZ) (hq W hW hF)
 rwa [htl]at this
/-! ### the steps of the walk -/
section
variable {H:Nat->Option Qd} {Q:Act->qR->Prop} {k:Nat} {o:Oper} {rest:List (Nat×Oper)} {a:Act} {F:qR} {listed:Array Bool}
theorem qeG(h:Q a F):vt R0 R c P ops w0 H Q [] listed a F:=h
theorem qhG(v:Y)(hw:Region.wanted o (yielded ops a.tmps)=s)(hH:H k=X)(hv:∀W,(preC R0 R c k).r w0 W->(∀j∈qS o,F j W)->JJ (qbS R0 R c k) P o a W v)(h:vt R0 R c P ops w0 H Q rest (listed.setIfInBounds k s) (a.put o.dst v) (upd F k o λ_=>True)):vt R0 R c P ops w0 H Q ((k,o)::rest) listed a F:=
 ⟨one v,.inr (.inl ⟨hw,hH,v,rfl,hv⟩),λ_ _=>h⟩
theorem Ju(hle:∀a b,R0.r a b->R.r a b)(v:Y)(hw:Region.wanted o (yielded ops a.tmps)=s)(hH:H k=X)(hv:∀W,R.r w0 W->(∀j∈qS o,F j W)->(execOp a.eval o).run P W=.ok (.value v) W)(h:vt R0 R c P ops w0 H Q rest (listed.setIfInBounds k s) (a.put o.dst v) (upd F k o λ_=>True)):vt R0 R c P ops w0 H Q ((k,o)::rest) listed a F:=
 qhG v hw hH (λW hW hF=>⟨W,hv W (by unfold preC at hW;split at hW;exact hle _ _ hW;exact hW) hF,Rel.refl _ W⟩) h
theorem Vt(hw:Region.wanted o (yielded ops a.tmps)=J)(h:vt R0 R c P ops w0 H Q rest (listed.setIfInBounds k s) (a.put o.dst undef) (upd F k o λ_=>True)):vt R0 R c P ops w0 H Q ((k,o)::rest) listed a F:=
 ⟨one undef,.inl ⟨hw,rfl⟩,λ_ _=>h⟩
theorem qcz(hh:Qd)(hw:Region.wanted o (yielded ops a.tmps)=s)(hH:H c=hh)(hv:∀W,R0.r w0 W->(∀j∈qS o,F j W)->Qw R P o a W hh)(h:∀p,vt R0 R c P ops w0 H Q rest (listed.setIfInBounds c s) (a.put o.dst (hh.f p)) (upd F c o (hh.φ p))):vt R0 R c P ops w0 H Q ((c,o)::rest) listed a F:=
 ⟨hh,.inr (.inr ⟨hw,hH,λW hW hF=>by unfold preC at hW;unfold qbS;rw[if_pos rfl]at hW⊢;exact hv W hW hF⟩),λp _=>h p⟩
end
end
end
structure Gm(S:Sto):Prop where
 bs:S.bs.length<1000000
 ws:S.ws.length<1000000
 be:∀l∈S.bs,l.length<1000000
 we:∀p∈S.ws,p.2.length<1000000
 now:S.now.length<1000000
 last:S.last.length<1000000
end Go.Proofs.YtmeadnlmepcmbaaGreat
namespace Go.Proofs.YtmeadnlmepcmbaaGreat
open Go.RowKit Go.Deep
variable {ls bs:List (List UInt8)}{k hb g T lo BB WW lo' b1:Nat}{a W w w5 wr:World}{o:Obj}{c d c1:Array Value}{ws:List (Int×List UInt8)}{t1:TypeId}
def InG(w:O)(g F:Nat)(v:Y)(l:List UInt8):Prop:=∃o,v=D (I ⟨g,o,X⟩) l.length l.length/\o+l.length<=F/\∀j u,(l.map bv)[j]?=I u->w.cell? ⟨g,o+j,X⟩=I u
section
variable {w w':World} {g F:Nat} {v:Value} {l:List UInt8}
theorem InG.keep(h:InG w g F v l)(hk:w'.heap[g]?=w.heap[g]?):InG w' g F v l:=by obtain⟨o,e,h1,h2⟩:=h;exact⟨o,e,h1,λj u hu=>(World.cell?_of_block hk).trans (h2 j u hu)⟩
theorem InG.step{cur:Array Y}{t:TypeId}{l':List UInt8}{o:Nat}(h:InG w g F v l)(hr:w.heap[g]?=I (U cur t))(hr':w'.heap[g]?=I (U (jP cur o l') t))(hJZ:o+l'.length<=cur.size)(ho:o=F\/l'.length=0):InG w' g (F+l'.length) v l:=by
 obtain⟨o1,e,h1,h2⟩:=h;refine⟨o1,e,zO,λj u hu=>?_⟩;have hj:j<l.length:=by have:=(List.getElem?_eq_some_iff.1 hu).1;simpa using this
 have:=h2 j u hu;rw[qa hr]at this;rw[qa hr',qjR hJZ (by rcases ho with ho|ho<;>omega)];exact this
theorem InG.new{cur:Array Y}{t:TypeId}{o:Nat}(hr:w'.heap[g]?=I (U (jP cur o l) t))(hJZ:o+l.length<=cur.size)(ho:o<=F):InG w' g (F+l.length) (D (g,o) l.length l.length) l:=
 ⟨o,rfl,zO,λj u hu=>by rw[qa hr];exact qjQ hJZ hu⟩
theorem InG.bys{B:Nat}(h:InG w g F v l)(hg:g<B)(hl:l.length<=maxLen):Bys w B v l:=by obtain⟨o,e,h1,h2⟩:=h;exact⟨_,_,e,zM _,hl,zA3,λ_=>⟨g,o,rfl,hg,h2⟩⟩
theorem InG.cells{W2:O}(h:InG w g F v l)(hk:∀j,W2.cell? ⟨g,j,X⟩=w.cell? ⟨g,j,X⟩):InG W2 g F v l:=by obtain⟨o,e,h1,h2⟩:=h;exact⟨o,e,h1,λj u hu=>(hk _).trans (h2 j u hu)⟩
end
def Vd(ls:List (List UInt8)):Nat:=(ls.map List.length).sum
theorem Uh(h:k<ls.length):Vd (ls.take (k+1))=Vd (ls.take k)+ls[k].length:=by unfold Vd;rw[List.take_succ_eq_append_getElem h,List.map_append,List.sum_append];simp
theorem qku(ls:List (List UInt8))(k:Nat):Vd (ls.take k)+Vd (ls.drop k)=Vd ls:=by unfold Vd;rw[<-List.sum_append,<-List.map_append,List.take_append_drop]
theorem qlx(h:∀l∈ls,l.length<1000000):Vd ls<=ls.length*1000000:=by
 induction ls with
 |nil=>simp[Vd]
 |cons l r ih=>
  have h1:=ih λx hx=>h x (List.mem_cons_of_mem _ hx);have h2:=h l List.mem_cons_self;simp only[Vd,List.map_cons,List.sum_cons,List.length_cons]at h1⊢;omega
theorem kX(ls:List (List UInt8))(k:Nat):Vd (ls.take k)<=Vd ls:=by have:=qku ls k;omega
def UR(hb g:Nat):Rel where
 rel W W':=W'.os=W.os/\W'.tape=W.tape/\W'.output=W.output/\W.heap.size<=W'/\∀b,b<W.heap.size->b≠hb->b≠g->W'.heap[b]?=W.heap[b]?
 refl' w:=⟨rfl,rfl,rfl,zM _,λ_ _ _ _=>rfl⟩
 trans' h k:=⟨k.1.trans h.1,k.2.1.trans h.2.1,k.2.2.1.trans h.2.2.1,Nat.le_trans h.2.2.2.1 k.2.2.2.1,λb hb h1 h2=>(k.2.2.2.2 b (Nat.lt_of_lt_of_le hb h.2.2.2.1) h1 h2).trans (h.2.2.2.2 b hb h1 h2)⟩
 drew' w:=⟨rfl,rfl,rfl,zM _,λ_ _ _ _=>rfl⟩
theorem qkL:∀a b,qp.r a b->(UR hb g).r a b:=λa b h=>by have h:Ext a b:=h;exact⟨h.os,h.tape,h.output,h.size,λk hk _ _=>h.block k hk⟩
theorem KS{hb g b:Nat}(h:(UR hb g).r a W)(h1:b≠hb)(h2:b≠g)(hc:a.heap[b]?=o):W.heap[b]?=o:=
 (h.2.2.2.2 b (zG.1 hc).1 h1 h2).trans hc
theorem qP{a b:Nat}{t u:TypeId}(h:w.heap[a]?=I (U c t))(k:w.heap[b]?=I (U d u))(hn:t≠u):a≠b:=λe=>by subst e;rw[h]at k;cases k;exact hn rfl
structure TwS(bs:List (List UInt8))(ws:List (Int×List UInt8))(T lo:Nat)(w5:O)(hb g BB WW ob kb kw F:Nat)(wr:O):Prop where
 below:Below lo w5 wr
 los:lo<=hb/\lo<=g/\lo<=BB/\lo<=WW/\lo<=ob
 out:wr.heap[ob]?=I (U #[D BB bs.length bs.length,D WW ws.length (ws.length+1)] 25)
 heap:∃o n cur,qet hb g o n cur wr/\o<=F/\(0<n->o=F)/\F+n=T/\cur.size=T
 bb:∃cs,wr.heap[BB]?=I (U cs 26)/\cs.size=bs.length/\∀i l,bs[i]?=I l->i<kb->∃v,cs[i]?=I v/\InG wr g F v l
 ww:∃cs,wr.heap[WW]?=I (U cs 142)/\cs.size=(ws.length+1)*2/\∀i p,ws[i]?=I p->i<kw->∃v,cs[i*2]?=I (Z .i64 p.1)/\cs[i*2+1]?=I v/\InG wr g F v p.2
section
variable {bs:List (List UInt8)} {ws:List (Int×List UInt8)} {T lo:Nat} {w5:World} {hb g BB WW ob kb kw F:Nat} {wr W:World}
theorem TwS.ext(h:TwS bs ws T lo w5 hb g BB WW ob kb kw F wr)(hx:Ext wr W)(hl:lo<=wr):TwS bs ws T lo w5 hb g BB WW ob kb kw F W:=by
 obtain⟨o,n,cur,⟨H1,H2,H3,H4,H5⟩,h2⟩:=h.heap;obtain⟨cb,hb1,hb2,hb3⟩:=h.bb;obtain⟨cw,hw1,hw2,hw3⟩:=h.ww;have hg:W.heap[g]?=wr.heap[g]?:=hx.block g (zG.1 H2).1;exact⟨h.below.trans (Below.mono hx hl),h.los,qb h.out hx,⟨o,n,cur,⟨qb H1 hx,qb H2 hx,H3,H4,H5⟩,h2⟩,
  ⟨cb,qb hb1 hx,hb2,λi l hi hk=>(hb3 i l hi hk).imp λv hv=>⟨hv.1,hv.2.keep hg⟩⟩,⟨cw,qb hw1 hx,hw2,λi p hi hk=>(hw3 i p hi hk).imp λv hv=>⟨hv.1,hv.2.1,hv.2.2.keep hg⟩⟩⟩
theorem TwS.clone(h:TwS bs ws T lo w5 hb g BB WW ob kb kw F wr){o n o':Nat}{cur:Array Y}{l:List UInt8}(hH:qet hb g o n cur wr)(hl:l.length<=n)(hr:(UR hb g).r wr W)(h1:0<n-l.length->o'=o+l.length)(h2:n-l.length=0->o'=o)(hH':qet hb g o' (n-l.length) (jP cur o l) W):TwS bs ws T lo w5 hb g BB WW ob kb kw (F+l.length) W/\InG W g (F+l.length) (D (g,o) l.length l.length) l:=by
 obtain⟨o2,n2,cur2,H2,k1,k2,k3,k4⟩:=h.heap;have e1:=H2.box;rw[hH.box]at e1;simp only[Option.some.injEq,Obj.cells.injEq,Array.mk.injEq,List.cons.injEq,Value.slice.injEq,Addr.mk.injEq,and_true,true_and]at e1;obtain⟨rfl,rfl,_⟩:=e1;have e2:=H2.row;rw[hH.row]at e2;simp only[Option.some.injEq,Obj.cells.injEq,and_true]at e2;subst e2;have hJZ:o+l.length<=cur.size:=by have:=hH.fit;omega
 have ho:o=F\/l.length=0:=by
  rcases Nat.eq_zero_or_pos n with h0|h0
  exact .inr zO;exact .inl (k2 h0)
 have hr0:=hH.row;have hr1:=hH'.row;obtain⟨cb,hb1,hb2,hb3⟩:=h.bb;obtain⟨cw,hw1,hw2,hw3⟩:=h.ww;have n1:BB≠hb:=qP hb1 hH.box zA1;have n2:BB≠g:=qP hb1 hr0 zA1;have n3:WW≠hb:=qP hw1 hH.box zA1;have n4:WW≠g:=qP hw1 hr0 zA1;have n5:ob≠hb:=qP h.out hH.box zA1;have n6:ob≠g:=qP h.out hr0 zA1;obtain⟨l1,l2,l3,l4,l5⟩:=h.los;have hlt:=(zG.1 hr0).1;refine⟨⟨⟨hr.1.trans h.below.os,hr.2.1.trans h.below.tape,hr.2.2.1.trans h.below.output,Nat.le_trans h.below.size hr.2.2.2.1,λb hb=>(hr.2.2.2.2 b zO zO zO).trans (h.below.block b hb)⟩,h.los,KS hr n5 n6 h.out,⟨o',n-l.length,_,hH',?_,?_,zO,?_⟩,
  ⟨cb,KS hr n1 n2 hb1,hb2,λi l' hi hk=>(hb3 i l' hi hk).imp λv hv=>⟨hv.1,hv.2.step hr0 hr1 hJZ ho⟩⟩,⟨cw,KS hr n3 n4 hw1,hw2,λi p hi hk=>(hw3 i p hi hk).imp λv hv=>⟨hv.1,hv.2.1,hv.2.2.step hr0 hr1 hJZ ho⟩⟩⟩,InG.new hr1 hJZ k1⟩
 rcases Nat.eq_zero_or_pos (n-l.length)with h0|h0
 rw[h2 h0];omega;rw[h1 h0];omega;intro h0;rw[h1 h0,k2 zO];rw[qbl hJZ];exact k4
theorem TwS.setB(h:TwS bs ws T lo w5 hb g BB WW ob kb kw F wr){v:Y}{l:List UInt8}(hk:bs[kb]?=l)(hv:InG wr g F v l):TwS bs ws T lo w5 hb g BB WW ob (kb+1) kw F (wr.setCell (BB,kb) v):=by
 obtain⟨o,n,cur,⟨H1,H2,H3,H4,H5⟩,h2⟩:=h.heap;obtain⟨cb,hb1,hb2,hb3⟩:=h.bb;obtain⟨cw,hw1,hw2,hw3⟩:=h.ww;have n1:hb≠BB:=qP H1 hb1 zA1;have n2:g≠BB:=qP H2 hb1 zA1;have n3:WW≠BB:=qP hw1 hb1 zA1;have n5:ob≠BB:=qP h.out hb1 zA1;have hg:=zJ wr ⟨BB,kb,X⟩ v g n2;have hlt:=(List.getElem?_eq_some_iff.1 hk).1;refine⟨Below.setCell h.below (p:=⟨BB,kb,X⟩) h.los.2.2.1 _,h.los,(zJ _ _ _ _ n5).trans h.out,⟨o,n,cur,⟨(zJ _ _ _ _ n1).trans H1,(zJ _ _ _ _ n2).trans H2,H3,H4,H5⟩,h2⟩,
  ⟨_,qj hb1 kb v,by simpa using hb2,λi l' hi hki=>?_⟩,⟨cw,(zJ _ _ _ _ n3).trans hw1,hw2,λi p hi hk=>(hw3 i p hi hk).imp λv hv=>⟨hv.1,hv.2.1,hv.2.2.keep hg⟩⟩⟩
 rw[Array.getElem?_setIfInBounds];by_cases e:kb=i;subst e;rw[hk]at hi;cases hi;rw[if_pos rfl,if_pos zO];exact⟨v,rfl,hv.keep hg⟩;rw[if_neg e];exact(hb3 i l' hi zO).imp λu hu=>⟨hu.1,hu.2.keep hg⟩
theorem TwS.setW(h:TwS bs ws T lo w5 hb g BB WW ob kb kw F wr){v:Y}{p:Int×List UInt8}(hk:ws[kw]?=p)(hv:InG wr g F v p.2):TwS bs ws T lo w5 hb g BB WW ob kb (kw+1) F ((wr.setCell (WW,kw*2) (Z .i64 p.1)).setCell (WW,kw*2+1) v):=by
 obtain⟨o,n,cur,⟨H1,H2,H3,H4,H5⟩,h2⟩:=h.heap;obtain⟨cb,hb1,hb2,hb3⟩:=h.bb;obtain⟨cw,hw1,hw2,hw3⟩:=h.ww;have n1:hb≠WW:=qP H1 hw1 zA1;have n2:g≠WW:=qP H2 hw1 zA1;have n3:BB≠WW:=qP hb1 hw1 zA1;have n5:ob≠WW:=qP h.out hw1 zA1;have st:∀b,b≠WW->((wr.setCell (WW,kw*2) (Z .i64 p.1)).setCell (WW,kw*2+1) v).heap[b]?=wr.heap[b]?:=λb hb=>(zJ _ _ _ _ hb).trans (zJ _ _ _ _ hb);have hlt:=(List.getElem?_eq_some_iff.1 hk).1;refine⟨Below.setCell (Below.setCell h.below (p:=⟨WW,kw*2,X⟩) h.los.2.2.2.1 _) (p:=⟨WW,kw*2+1,X⟩) h.los.2.2.2.1 _,h.los,(st _ n5).trans h.out,⟨o,n,cur,⟨(st _ n1).trans H1,(st _ n2).trans H2,H3,H4,H5⟩,h2⟩,
  ⟨cb,(st _ n3).trans hb1,hb2,λi l' hi hki=>(hb3 i l' hi hki).imp λu hu=>⟨hu.1,hu.2.keep (st _ n2)⟩⟩,⟨_,qj (qj hw1 (kw*2) _) (kw*2+1) _,by simpa using hw2,λi q hi hki=>?_⟩⟩
 by_cases e:kw=i;subst e;rw[hk]at hi;cases hi;refine⟨v,?_,?_,hv.keep (st _ n2)⟩;rw[Array.getElem?_setIfInBounds,if_neg zO,Array.getElem?_setIfInBounds,if_pos rfl,if_pos zO];rw[Array.getElem?_setIfInBounds,if_pos rfl,if_pos zA2];refine(hw3 i q hi zO).imp λu hu=>⟨?_,?_,hu.2.2.keep (st _ n2)⟩
 rw[Array.getElem?_setIfInBounds,if_neg zO,Array.getElem?_setIfInBounds,if_neg zO];exact hu.1;rw[Array.getElem?_setIfInBounds,if_neg zO,Array.getElem?_setIfInBounds,if_neg zO];exact hu.2.1
end
structure vD(lo:Nat)(bs:List (List UInt8))(ws:List (Int×List UInt8))(BB WW g:Nat)(W:O):Prop where
 los:lo<=BB/\lo<=WW/\lo<=g/\g<W/\BB≠WW/\BB≠g/\WW≠g
 bb:∃cs,W.heap[BB]?=I (U cs 26)/\cs.size=bs.length/\∀(i:Nat)(l:List UInt8),bs[i]?=l->∃v F,cs[i]?=I v/\InG W g F v l
 ww:∃cs,W.heap[WW]?=I (U cs 142)/\cs.size=(ws.length+1)*2/\∀(i:Nat)(p:Int×List UInt8),ws[i]?=p->∃v F,cs[i*2]?=I (Z .i64 p.1)/\cs[i*2+1]?=I v/\InG W g F v p.2
 gg:∃cs,W.heap[g]?=I (U cs 5)
theorem TwS.done{ob F:Nat}(h:TwS bs ws T lo w5 hb g BB WW ob bs.length ws.length F wr):vD lo bs ws BB WW g wr:=by obtain⟨o,n,cur,⟨H1,H2,H3,H4,H5⟩,h2⟩:=h.heap;obtain⟨cb,hb1,hb2,hb3⟩:=h.bb;obtain⟨cw,hw1,hw2,hw3⟩:=h.ww;refine⟨⟨h.los.2.2.1,h.los.2.2.2.1,h.los.2.1,(zG.1 H2).1,qP hb1 hw1 zA1,qP hb1 H2 zA1,qP hw1 H2 zA1⟩,⟨cb,hb1,hb2,λi l hi=>?_⟩,⟨cw,hw1,hw2,λi p hi=>?_⟩,⟨_,H2⟩⟩;obtain⟨v,h1,h2⟩:=hb3 i l hi (List.getElem?_eq_some_iff.1 hi).1;exact⟨v,F,h1,h2⟩;obtain⟨v,h1,h2⟩:=hw3 i p hi (List.getElem?_eq_some_iff.1 hi).1;exact⟨v,F,h1,h2⟩
theorem vD.keep{W W2:O}(h:vD lo bs ws BB WW g W)(hl:lo'<=lo)(hs:W.heap.size<=W2)(hk:∀b,lo<=b->b<W.heap.size->W2.heap[b]?=W.heap[b]?):vD lo' bs ws BB WW g W2:=by
 obtain⟨cb,hb1,hb2,hb3⟩:=h.bb;obtain⟨cw,hw1,hw2,hw3⟩:=h.ww;obtain⟨l1,l2,l3,l4,l5⟩:=h.los;have hg:=hk g l3 l4;exact⟨⟨zO,zO,zO,zO,l5⟩,⟨cb,(hk BB l1 (zG.1 hb1).1).trans hb1,hb2,λi l hi=>by
  obtain⟨v,F,h1,h2⟩:=hb3 i l hi;exact⟨v,F,h1,h2.keep hg⟩⟩,⟨cw,(hk WW l2 (zG.1 hw1).1).trans hw1,hw2,λi p hi=>by
  obtain⟨v,F,h1,h2,h3⟩:=hw3 i p hi;exact⟨v,F,h1,h2,h3.keep hg⟩⟩,h.gg.imp λcs h=>hg.trans h⟩
theorem vD.keepT{W W2:O}(h:vD lo bs ws BB WW g W)(hl:lo'<=lo)(hs:W.heap.size<=W2)(h1:W.heap[b1]?=I (U c1 t1))(ht:t1≠26/\t1≠142/\t1≠5)(hk:∀b,lo<=b->b<W.heap.size->b≠b1->W2.heap[b]?=W.heap[b]?):vD lo' bs ws BB WW g W2:=by
 obtain⟨cb,hb1,hb2,hb3⟩:=h.bb;obtain⟨cw,hw1,hw2,hw3⟩:=h.ww;obtain⟨cg,hg1⟩:=h.gg;obtain⟨l1,l2,l3,l4,l5⟩:=h.los;have hg:=hk g l3 l4 (qP hg1 h1 λe=>ht.2.2 e.symm);exact⟨⟨zO,zO,zO,zO,l5⟩,⟨cb,(hk BB l1 (zG.1 hb1).1 (qP hb1 h1 λe=>ht.1 e.symm)).trans hb1,hb2,λi l hi=>by
  obtain⟨v,F,h1,h2⟩:=hb3 i l hi;exact⟨v,F,h1,h2.keep hg⟩⟩,⟨cw,(hk WW l2 (zG.1 hw1).1 (qP hw1 h1 λe=>ht.2.1 e.symm)).trans hw1,hw2,λi p hi=>by
  obtain⟨v,F,h1,h2,h3⟩:=hw3 i p hi;exact⟨v,F,h1,h2,h3.keep hg⟩⟩,cg,hg.trans hg1⟩
theorem vD.readsB(h:vD lo bs ws BB WW g W)(h1:bs.length<1000000)(h2:ws.length<1000000)(h3:∀l∈bs,l.length<1000000)(h4:∀p∈ws,p.2.length<1000000)(W2:O)(hB:∀j,W2.cell? ⟨BB,j,X⟩=W.cell? ⟨BB,j,X⟩)(hWW:∀j,W2.cell? ⟨WW,j,X⟩=W.cell? ⟨WW,j,X⟩)(hg:∀j,W2.cell? ⟨g,j,X⟩=W.cell? ⟨g,j,X⟩):Bls W2 W (D BB bs.length bs.length) bs/\Wrs W2 W (D WW ws.length (ws.length+1)) ws:=by
 obtain⟨cb,hb1,hb2,hb3⟩:=h.bb;obtain⟨cw,hw1,hw2,hw3⟩:=h.ww;obtain⟨l1,l2,l3,l4,l5⟩:=h.los;have z1:=(zG.1 hb1).1;have z2:=(zG.1 hw1).1;have hm:∀n,n<1000001->n<=maxLen:=λn hn=>zA7;refine⟨⟨cb.toList,_,_,rfl,zM _,hm _ zO,⟨by simp[hb2],λ_=>⟨BB,0,rfl,z1,λj u hu=>?_⟩⟩,λi u l hu hl=>?_⟩,?_⟩;rw[Nat.zero_add,hB j,qa hb1];simpa using hu;obtain⟨v,F,e1,e2⟩:=hb3 i l hl;have:cb.toList[i]?=cb[i]?:=zA3;rw[this,e1]at hu;cases hu;exact(e2.cells hg).bys l4 (hm _ (by have:=h3 l (List.mem_of_getElem? hl);omega));have hq:∀i,i<ws.length->∃q:(Int×List UInt8)×Y,ws[i]?=I q.1/\(∃A c,q.2=D A q.1.2.length c)/\Bys W2 W q.2 q.1.2/\cw[i*2]?=I (Z .i64 q.1.1)/\cw[i*2+1]?=I q.2:=λi hi=>by obtain⟨v,F,e1,e2,e3⟩:=hw3 i ws[i] (zL hi);have hb:=(e3.cells hg).bys l4 (hm _ (by have:=h4 ws[i] (List.getElem_mem hi);omega));obtain⟨o,ev,_⟩:=e3;exact⟨(ws[i],v),zL hi,⟨_,_,ev⟩,hb,e1,e2⟩
 obtain⟨Q,hQ⟩:=choose_lt (α:=(Int×List UInt8)×Y) (p:=λi q=>ws[i]?=I q.1/\(∃A c,q.2=D A q.1.2.length c)/\Bys W2 W.heap.size q.2 q.1.2/\cw[i*2]?=I (Z .i64 q.1.1)/\cw[i*2+1]?=I q.2) hq;refine⟨(List.range ws.length).map Q,?_,⟨I ⟨WW,0,X⟩,ws.length+1,rfl,zO,hm _ zO,⟨by rw[YZ];simp,λ_=>⟨WW,0,rfl,z2,λj u hu=>?_⟩⟩⟩,λq hq'=>?_⟩;apply List.ext_getElem?;intro i;rw[List.map_map,List.getElem?_map];rcases Nat.lt_or_ge i ws.length with hi|hi
 rw[List.getElem?_range hi,(hQ i hi).1];rfl;rw[List.getElem?_eq_none (by simpa using hi),List.getElem?_eq_none hi];rfl;rw[Nat.zero_add,hWW j,qa hw1];have hj:j<ws.length*2:=by have:=(List.getElem?_eq_some_iff.1 hu).1;rw[YZ]at this;simpa using this
 obtain⟨c0,c1⟩:=Yy ((List.range ws.length).map Q) (j/2) zA2;obtain⟨_,_,_,q0,q1⟩:=hQ (j/2) zO;rcases(show j=j/2*2\/j=j/2*2+1 by omega)with e|e
 have hu':I u=I _:=(hu.symm.trans (congrArg (λt=>(jN ((List.range ws.length).map Q))[t]?) e)).trans c0;cases hu';rw[show cw[j]?=cw[j/2*2]? from congrArg (λt=>cw[t]?) e,q0];simp;have hu':I u=I _:=(hu.symm.trans (congrArg (λt=>(jN ((List.range ws.length).map Q))[t]?) e)).trans c1;cases hu';rw[show cw[j]?=cw[j/2*2+1]? from congrArg (λt=>cw[t]?) e,q1];simp;obtain⟨i,hi,rfl⟩:=List.mem_map.1 hq';obtain⟨_,q1,q2,_⟩:=hQ i (List.mem_range.1 hi);exact⟨q1,q2⟩
theorem vD.reads(h:vD lo bs ws BB WW g W)(h1:bs.length<1000000)(h2:ws.length<1000000)(h3:∀l∈bs,l.length<1000000)(h4:∀p∈ws,p.2.length<1000000)(W2:O)(hk:∀q:Addr,lo<=q.block->q.block<W->W2.cell? q=W.cell? q):Bls W2 W (D BB bs.length bs.length) bs/\Wrs W2 W (D WW ws.length (ws.length+1)) ws:=by obtain⟨cb,hb1,-⟩:=h.bb;obtain⟨cw,hw1,-⟩:=h.ww;obtain⟨l1,l2,l3,l4,-⟩:=h.los;exact h.readsB h1 h2 h3 h4 W2 (λj=>hk ⟨BB,j,X⟩ l1 (zG.1 hb1).1) (λj=>hk ⟨WW,j,X⟩ l2 (zG.1 hw1).1) λj=>hk ⟨g,j,X⟩ l3 l4
theorem vD.readsT(h:vD lo bs ws BB WW g W)(h1:bs.length<1000000)(h2:ws.length<1000000)(h3:∀l∈bs,l.length<1000000)(h4:∀p∈ws,p.2.length<1000000)(W2:O)(hk:∀q:Addr,lo<=q.block->q.block<W->W2.cell? q=(thaw W).cell? q):Bls W2 W (D BB bs.length bs.length) bs/\Wrs W2 W (D WW ws.length (ws.length+1)) ws:=by obtain⟨cb,hb1,-⟩:=h.bb;obtain⟨cw,hw1,-⟩:=h.ww;obtain⟨cg,hg1⟩:=h.gg;obtain⟨l1,l2,l3,l4,-⟩:=h.los;exact h.readsB h1 h2 h3 h4 W2 (λj=>(hk ⟨BB,j,X⟩ l1 (zG.1 hb1).1).trans (YO hb1 j)) (λj=>(hk ⟨WW,j,X⟩ l2 (zG.1 hw1).1).trans (YO hw1 j)) λj=>(hk ⟨g,j,X⟩ l3 l4).trans (YO hg1 j)
end Go.Proofs.YtmeadnlmepcmbaaGreat
