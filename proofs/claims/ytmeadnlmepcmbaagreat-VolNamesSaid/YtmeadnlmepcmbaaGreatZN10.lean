/- Lemmas of the proof. -/
import Derived.Laws.CopyRow
import Derived.Laws.IdiomCopy
import Derived.Deep.Slices
import Derived.Test.YtmeadnlmepcmbaaGreatZN09
set_option linter.all false
set_option maxHeartbeats 8000000
open Go.Proofs.Tryz
namespace Go.Proofs.YtmeadnlmepcmbaaGreat
open Go.RowKit
def jz (S:Sto) (next:Int) (v:Vol) (vs:List Vol) (refs:Nat->Nat):Int:=if v.id=0\/next<=v.id\/v.root<8\/256<=v.root then 2 else if (ZQ vs v.id).isSome=false/\16<=vs.length then 9 else
 if Zo S v.root.toNat<=refs v.root.toNat then 6 else if okL S (-1) v.root=true then 0 else 8
def FAskQ (S:Sto) (root next:Int) (dead:List Int) (v:Vol) (w:World) (e:Ending) (w':World):Prop:=Below w.heap.size w w' /\
 ((e=.returned (.int .i64 8)/\Zp S root next dead) \/
  ∃ vs refs nodes,Qo S root next dead vs/\qY S (Qj root dead vs) refs nodes/\QB S refs/\e=.returned (.int .i64 (jz S next v vs refs)))
theorem Vb {R:Ending->World->Prop} {a:Act} {W:World} {u:Value} (h4:a.tmps[4]?.getD undef=u) (hd:a.defers=[]) (hR:R (.returned u) W):bodyPost prog Tryz.f64 R .ret a W:=by refine bodyPost_ret (v:=u) ?_ hd hR;simp[results,results64,go_sem,h4]
theorem vols_len {S:Sto} {root next:Int} {dead:List Int} {vs:List Vol} (h:Qo S root next dead vs):vs.length<=16:=by
 have hv:=h.vols;unfold TR at hv;split at hv
 ·cases hv
 ·exact kH _ _ _ _ zA2 hv
set_option maxRecDepth 100000 in
theorem qhJ (A1 n1 c1 A2 n2 c2 A3 n3 c3 A4 n4 c4) (gen root next:Int) (A5 c5) (S:Sto) (dead:List Int) (v:Vol) (hT:8<=v.root->v.root<256->Zo S v.root.toNat≠0->okL S (-1) v.root=true) (w:World) (h:qZ w w.heap.size (.slice A1 n1 c1) (.slice A2 n2 c2) (.slice A3 n3 c3) (.slice A4 n4 c4) S) (hd:Zw w w.heap.size (.slice A5 dead.length c5) dead):Calls prog 64 #[.agg (qC (.slice A1 n1 c1) (.slice A2 n2 c2) (.slice A3 n3 c3) (.slice A4 n4 c4) gen root next (.slice A5 dead.length c5)),VA v] w (FAskQ S root next dead v w):=by
 have HT:=zH (fun W (hx:Ext w W)=>KI A1 n1 c1 A2 n2 c2 A3 n3 c3 A4 n4 c4 gen root next A5 c5 S dead W (h.ext hx) (hd.ext_ hx));have HC:=zH (fun (hS:ql S=true) a hT W (hx:Ext w W)=>TD A1 n1 c1 A2 n2 c2 A3 n3 c3 A4 n4 c4 S hS a hT W (h.ext hx));replace h:=zH h;replace hT:=zH hT;clear hd;go_enter func64,ntmps64;go_wp2_with fail;generalize hw1:(World.alloc (World.alloc w _) _)=w1;have x1:Ext w w1:=by rw[<-hw1];exact(zN _ _).trans (zN _ _)
 have rp1:w1.heap[w.heap.size]?=some (.cells (qC (.slice A1 n1 c1) (.slice A2 n2 c2) (.slice A3 n3 c3) (.slice A4 n4 c4) gen root next (.slice A5 dead.length c5)) 32 (0,0)):=by rw[<-hw1];exact(zK _ _ _ zA2).trans (zI _ _ _ rfl)
 have rv1:w1.heap[w.heap.size+1]?=some (.cells #[.int .u32 v.id,.int .i64 v.root,.bool v.fz,.int .u32 v.frm] 36 (0,0)):=by rw[<-hw1];exact zI _ _ _ zA2
 clear hw1;refine(HT.out w1 x1).mono ?_;clear HT;rintro e w2 ⟨hB,hQ⟩;have x2:Ext w w2:=Ext.trans x1 hB;have rp2:=qb rp1 hB;have rv2:=qb rv1 hB;have kp2:=qa rp2;have kv2:=qa rv2;clear hB x1 rp1 rv1;rcases hQ with ⟨rfl,hno⟩|⟨vs,refs,nodes,cb,ca,vv,rfl,hTk⟩
 ·replace hno:=zH hno;go_wp2_with fail;exact Vb rfl rfl ⟨x2,.inl ⟨rfl,hno.out⟩⟩
 ·have hvs:=vols_len hTk.pool;have hQ:=fun E (hh:jz S next v vs refs=E) W (hx:Ext w W)=>(⟨hx,.inr ⟨vs,refs,nodes,hTk.pool,hTk.cnt,hTk.enough,by rw[hh]⟩⟩:FAskQ S root next dead v w (.returned (.int .i64 E)) W)
  replace hQ:=zH hQ;obtain⟨AV,cV,rfl,wVD,wSK⟩:=qB hTk.own;have kc:w2.cell? ⟨cb,518,none⟩=some (.slice AV vs.length cV):=by rw[qa hTk.row];exact hTk.ar.vol
  have HH:=zH (vhas_any AV cV vs hvs (w.heap.size+1) v.id _ _ _ w2 rv2 (Rd.of_own hTk.own));replace hTk:=zH hTk;by_cases h1:v.id=0
  ·have d1:(v.id == 0)=true:=by rw[beq_iff_eq];exact h1
   have hE:=zH (show jz S next v vs refs=2 by unfold jz;rw[if_pos (.inl h1)]);replace h1:=zH h1;go_wp2_with fail;exact Vb rfl rfl (hQ.out _ hE.out _ x2)
  have d1:(v.id == 0)=false:=by rw[beq_eq_false_iff_ne];exact h1
  by_cases h2:next<=v.id
  ·have d3:decide (v.id≥next)=true:=decide_eq_true h2;have hE:=zH (show jz S next v vs refs=2 by unfold jz;rw[if_pos (.inr (.inl h2))]);replace h1:=zH h1;replace h2:=zH h2;go_wp2_with fail;exact Vb rfl rfl (hQ.out _ hE.out _ x2)
  have d3:decide (v.id≥next)=false:=decide_eq_false h2;by_cases h3:v.root<8
  ·have d5:decide (v.root<8)=true:=decide_eq_true h3;have hE:=zH (show jz S next v vs refs=2 by unfold jz;rw[if_pos (.inr (.inr (.inl h3)))]);replace h1:=zH h1;replace h2:=zH h2;replace h3:=zH h3;go_wp2_with fail;exact Vb rfl rfl (hQ.out _ hE.out _ x2)
  have d5:decide (v.root<8)=false:=decide_eq_false h3;by_cases h4:256<=v.root
  ·have d6:decide (v.root≥256)=true:=decide_eq_true h4;have hE:=zH (show jz S next v vs refs=2 by unfold jz;rw[if_pos (.inr (.inr (.inr h4)))]);replace h1:=zH h1;replace h2:=zH h2;replace h3:=zH h3;replace h4:=zH h4;go_wp2_with fail;exact Vb rfl rfl (hQ.out _ hE.out _ x2)
  have d6:decide (v.root≥256)=false:=decide_eq_false h4;have d7:decide (256<=v.root)=false:=decide_eq_false h4;have hE1:=zH (show jz S next v vs refs=if (ZQ vs v.id).isSome=false/\16<=vs.length then 9 else if Zo S v.root.toNat<=refs v.root.toNat then 6 else if okL S (-1) v.root=true then 0 else 8 by unfold jz;rw[if_neg (by rintro (h|h|h|h);exact h1 h;exact h2 h;exact h3 h;exact h4 h)]);obtain⟨r,hr⟩:∃ r:Nat,v.root=(r:Int):=⟨v.root.toNat,zO⟩
  have hr8:8<=r:=zO;have wOM:r<256:=zO;have hto:v.root.toNat=r:=zO;rw[hr] at rv2 kv2 d5 d6 d7;rw[hto] at hE1 hT;have hT2:=zH (hT.out zO zO);clear hT h3 h4 hto;replace h1:=zH h1;replace h2:=zH h2;replace hr:=zH hr;go_wp2_with fail;refine HH.out.mono ?_;clear HH;rintro e w3 ⟨rfl,hB⟩;have x3:Ext w w3:=Ext.trans x2 hB;have rp3:=qb rp2 hB;have rv3:=qb rv2 hB;have kc3:=Ext.cell hB kc;have rc3:=qb hTk.out.row hB;clear rp2 rv2 kp2 kv2 kc x2 hB;have wOO:Hid ((ZQ vs v.id).isSome=(ZQ vs v.id).isSome):=zH rfl;generalize (ZQ vs v.id).isSome=there at *;have xAI:Hid (there=false/\16<=vs.length\/¬(there=false/\16<=vs.length)):=zH (Classical.em _);rcases xAI.out with ⟨rfl,h16⟩|h16
  ·have e1:decide ((vs.length:Int)≥16)=true:=decide_eq_true zO;have hE:=zH (show jz S next v vs refs=9 by rw[hE1.out,if_pos ⟨rfl,h16⟩]);replace h16:=zH h16;clear xAI;go_wp2_with fail;exact Vb rfl rfl (hQ.out _ hE.out _ x3)
  have hE2:=zH (show jz S next v vs refs=if Zo S r<=refs r then 6 else if okL S (-1) v.root=true then 0 else 8 by rw[hE1.out,if_neg h16]);have HB:there=true\/(there=false/\decide ((vs.length:Int)≥16)=false/\decide (16<=vs.length)=false):=by
   cases there
   ·right;have:¬16<=vs.length:=fun h=>h16 ⟨rfl,h⟩;exact⟨rfl,decide_eq_false zO,decide_eq_false this⟩
   ·exact .inl rfl
  clear hE1 xAI h16;obtain⟨b3,o3,d3',e3,hb3,hBX⟩:=Gu hTk.out.pool.may h.out.now;simp only[Value.slice.injEq] at e3;obtain⟨rfl,rfl,rfl⟩:=e3;have hcn:=Ext.cell x3 (hBX r wOM);have hrf:=(qa rc3 (6+r)).trans (hTk.out.ar.ref r wOM);have hwn:=zH (IntWalk.wrap64_in (Zo S r:Int) (by have:=(S.now[r]?.getD 0).toNat_lt;unfold Zo;omega));have hwn2:=zH (show IntKind.i64.wrap (Zo S r:Int)=(Zo S r:Int) by rw[IntKind.wrap_i64];have:=(S.now[r]?.getD 0).toNat_lt;unfold Zo;omega);have HCK:=zH (fun (hne:Zo S r≠0) W (hx:Ext w W)=>by
   obtain⟨a,ha,ht⟩:=vn (hT2.out hne);obtain rfl:r=a:=by have:=hr.out;omega
   exact HC.out hTk.out.pool.may r ht W hx)
  clear hBX HC;generalize hnw:Zo S r=nw at *;generalize hrfe:refs r=rf at *;replace hnw:=zH hnw;replace hrfe:=zH hrfe;have gP:∀ W,qm.r w3 W->∀ i,W.cell? ⟨w.heap.size,i,none⟩=(qC (.slice A1 n1 c1) (.slice A2 n2 c2) (.slice (some ⟨b3,o3,none⟩) 256 c3) (.slice A4 n4 c4) gen root next (.slice A5 dead.length c5))[i]?:=fun W h=>qa (qb rp3 h);have gV:∀ W,qm.r w3 W->∀ i,W.cell? ⟨w.heap.size+1,i,none⟩=#[.int .u32 v.id,.int .i64 (r:Int),.bool v.fz,.int .u32 v.frm][i]?:=fun W h=>qa (qb rv3 h);have gN:∀ W,qm.r w3 W->W.cell? ⟨b3,o3+r,none⟩=some (.int .u8 (nw:Int)):=fun W h=>Ext.cell h hcn;have gR:∀ W,qm.r w3 W->W.cell? ⟨cb,6+r,none⟩=some (.int .i64 (rf:Int)):=fun W h=>Ext.cell h hrf;clear rc3;rcases HB with rfl|⟨rfl,e1,e2⟩
  all_goals
   go_upto_region 9 with fail;refine qp zQ ?_;refine Qa (w:=w3) qm (qM []) (List.replicate 16 true) 0 zQ zQ zQ zQ zQ zQ zQ ?st (Rel.drew _ _) ?walk
   case st=>exact qj (fun _ h=>by cases h)
   case walk =>
    intro K hK;dsimp only[qw,List.replicate];have hw':=hwn.out;have hTK:=hwn2.out;refine zB5 ?_
    first
     |(refine qe (.pointer (some ⟨b3,o3+r,none⟩)) zA0 zA0 (fun W hW _=>⟨W,?_,Rel.refl _ W⟩) ?_
       ·go_simp;intro hge;exfalso;omega
       simp only[Act.put,qf,qc,qg,zA,zB,zC])
     |skip
    refine zB5 ?_
    first
     |(refine qe (.pointer (some ⟨cb,6+r,none⟩)) zA0 zA0 (fun W hW _=>⟨W,?_,Rel.refl _ W⟩) ?_
       ·go_simp;intro hge;exfalso;omega
       simp only[Act.put,qf,qc,qg,zA,zB,zC])
     |skip
    refine zB5 ?_;refine qA (hK _ _ fun V hV hF=>?_);clear hF hK gP gV gN gR;have hV:Ext w3 V:=hV;refine zB7 ?_;have x4:=x3.trans hV;have kp4:=qa (qb rp3 hV);have kv4:=qa (qb rv3 hV);clear rp3 rv3 hw';clear hTK;go_wp2;refine Qw ?_;by_cases hle:nw<=rf
    ·have f1:decide ((nw:Int)<=(rf:Int))=true:=decide_eq_true zO;have hE:=zH (show jz S next v vs refs=6 by rw[hE2.out,if_pos hle]);replace hle:=zH hle;go_wp2_with fail;exact Vb rfl rfl (hQ.out _ hE.out _ x4)
    ·have f1:decide ((nw:Int)<=(rf:Int))=false:=decide_eq_false zO;have hE:=zH (show jz S next v vs refs=0 by rw[hE2.out,if_neg hle,if_pos (hT2.out zO)]);have HC4:=zH (HCK.out zO V x4);replace hle:=zH hle;clear HCK;go_wp2_with fail;refine HC4.out.mono ?_;clear HC4;rintro e w5 ⟨u,rfl,⟨m,rfl⟩,hB⟩;go_wp2_with fail;exact Vb rfl rfl (hQ.out _ hE.out _ (x4.trans hB))
theorem Yv (w:World) (g:Nat) (cs:Array Value):w.grownBy (w.setRow g cs) (some g):=
 ⟨rfl,rfl,rfl,zA2,fun k _ hk=>setRow_other w g k _ (fun e=>hk (by simp[e]))⟩
theorem Yu {P:Program} (W:World) {B:Nat} (dT sT ty elem:TypeId) (g o dLen dCap:Nat) (A c) (l:List UInt8) (cur:Array Value) (t:TypeId) (hu:P.underlying dT=some (.slice elem)) (hs:(P.info? elem).map (·.size)=some 1) (hg:W.heap[g]?=some (.cells cur t (0,0))) (h:Bys W B (.slice A l.length c) l) (hd:l.length<=dLen) (hVB:o+l.length<=cur.size) : (Builtin.copy_ #[dT,sT] ty #[.slice (some ⟨g,o,none⟩) dLen dCap,.slice A l.length c]).run P W=.ok (.int .i64 (l.length:Int)) (W.setRow g (cur.toList.take o++l.map bv++cur.toList.drop (o+l.length)).toArray):=by
 obtain⟨A',c',e,hc,hm,hr⟩:=h;simp only[Value.slice.injEq,true_and] at e;obtain⟨rfl,rfl⟩:=e;rcases A with _|ad
 ·have h0:l.length=0:=by
   rcases Nat.eq_zero_or_pos l.length with h0|h0
   ·exact h0
   ·obtain⟨b,off,h,_⟩:=hr.2 h0;cases h
  obtain rfl:l=[]:=List.eq_nil_of_length_eq_zero h0;cases hq:P.info? elem with
  |none=>simp[hq] at hs
  |some i =>
   simp[Builtin.copy_,run_underlying hu,Builtin.lenOf,Builtin.firstCells,sizeOf,typeInfo,hq,storeCells];rw[setRow_self W g cur t (0,0) hg];exact⟨rfl,rfl⟩
 ·have hXE:∀ j v,(l.map bv)[j]?=some v->W.cell? (ad.add j)=some v:=by
   intro j v hv;rcases Nat.eq_zero_or_pos l.length with h0|h0
   ·obtain rfl:l=[]:=List.eq_nil_of_length_eq_zero h0;simp at hv
   ·obtain⟨b,off,h,_⟩:=hr.2 h0;cases h;exact hr.adds h0 j v hv
  have:=run_copy_row P W dT sT ty elem g o dLen dCap ad l.length c cur t (l.map bv) hu hs hg (by simp[Nat.min_eq_left hd]) hXE (by simpa using hVB) (TX l);rw[List.length_map] at this;exact this
def jo (cur:Array Value) (o:Nat) (l:List UInt8):Array Value:=(cur.toList.take o++l.map bv++cur.toList.drop (o+l.length)).toArray
theorem qab {cur:Array Value} {o:Nat} {l:List UInt8} (h:o+l.length<=cur.size):(jo cur o l).size=cur.size:=by simp[jo];omega
theorem qhV {cur:Array Value} {o:Nat} {l:List UInt8} {j:Nat} (h:o+l.length<=cur.size) (hj:j<o\/o+l.length<=j):(jo cur o l)[j]?=cur[j]?:=by
 unfold jo;rw[List.getElem?_toArray];have hcl:cur.toList.length=cur.size:=zA2;rcases hj with hj|hj
 ·rw[List.append_assoc,List.getElem?_append_left (by rw[List.length_take];omega),List.getElem?_take,if_pos hj];simp
 ·rw[List.getElem?_append_right (by rw[List.length_append,List.length_take,List.length_map];omega),List.getElem?_drop,List.length_append,List.length_take,List.length_map,hcl];rw[show o+l.length+(j-(min o cur.size+l.length))=j by omega];simp
theorem qhU {cur:Array Value} {o:Nat} {l:List UInt8} {j:Nat} {u:Value} (h:o+l.length<=cur.size) (hu:(l.map bv)[j]?=some u):(jo cur o l)[o+j]?=some u:=by
 have hj:j<l.length:=by have:=(List.getElem?_eq_some_iff.1 hu).1;simpa using this
 have hcl:cur.toList.length=cur.size:=zA2;unfold jo;rw[List.getElem?_toArray,List.append_assoc,List.getElem?_append_right (by rw[List.length_take];omega),List.length_take,hcl,show o+j-min o cur.size=j by omega,List.getElem?_append_left (by rw[List.length_map];exact hj)];exact hu
structure qdi (hb g o n:Nat) (cur:Array Value) (w:World):Prop where
 box:w.heap[hb]?=some (.cells #[.slice (some ⟨g,o,none⟩) n n] 273 (0,0))
 row:w.heap[g]?=some (.cells cur 5 (0,0))
 ne:hb≠g
 fit:o+n<=cur.size
 few:n<1000000000000000
def CloneQ (hb g o n:Nat) (cur:Array Value) (l:List UInt8) (w:World) (e:Ending) (w':World):Prop:=∃ o',e=.returned (.slice (some ⟨g,o,none⟩) l.length l.length)/\(0<n-l.length->o'=o+l.length)/\(n-l.length=0->o'=o)/\qdi hb g o' (n-l.length) (jo cur o l) w' /\
 (w'.heap.size=w.heap.size/\w'.os=w.os/\w'.tape=w.tape/\w'.output=w.output/\∀ b,b≠hb->b≠g->w'.heap[b]?=w.heap[b]?)
set_option maxRecDepth 100000 in
theorem qbt (hb g o n:Nat) (cur:Array Value) (A c) (l:List UInt8) (hl:l.length<=n) (w:World) (H:qdi hb g o n cur w) (h:Bys w w.heap.size (.slice A l.length c) l):Calls prog 201 #[.pointer (some ⟨hb,0,none⟩),.slice A l.length c] w (CloneQ hb g o n cur l w):=by
 have hsz:(Tryz.prog.info? 5).map (·.size)=some 1:=zQ;obtain⟨r1,r2,hne,hVB,wJL⟩:=H;have hcp:=Yu (P:=prog) w 273 26 3 5 g o n n A c l _ _ underlying273 hsz r2 h hl zO;have e1:(List.take o cur.toList++List.map bv l++List.drop (o+l.length) cur.toList).toArray=jo cur o l:=rfl;rw[e1] at hcp;have r3:(w.setRow g (jo cur o l)).heap[hb]?=some (.cells #[.slice (some ⟨g,o,none⟩) n n] 273 (0,0)):=(setRow_other w g hb _ hne).trans r1;have r4:=setRow_heap w g _ (jo cur o l) _ _ r2;have h3:∀ b,b≠g->(w.setRow g (jo cur o l)).heap[b]?=w.heap[b]?:=fun b hb=>setRow_other w g b _ hb;have s3:(w.setRow g (jo cur o l)).heap.size=w.heap.size:=zA2;have o3:(w.setRow g (jo cur o l)).os=w.os/\(w.setRow g (jo cur o l)).tape=w.tape/\(w.setRow g (jo cur o l)).output=w.output:=⟨rfl,rfl,rfl⟩
 generalize w.setRow g (jo cur o l)=w3 at *;have k1:=qa r1;have k3:=qa r3;have f3:=qd r3;clear h r1 r2 hsz e1;replace h3:=zH h3;replace r4:=zH r4;replace o3:=zH o3;have hll:=zH hl;have hc1:(l.length:Int)<=(n:Int):=zO;have fin:Hid (∀ o' n',n'=n-l.length->(0<n'->o'=o+l.length)->(n'=0->o'=o)->CloneQ hb g o n cur l w (.returned (.slice (some ⟨g,o,none⟩) l.length l.length)) (w3.setCell ⟨hb,0,none⟩ (.slice (some ⟨g,o',none⟩) n' n'))):=zH fun o' n' e h1 h2=>by
  subst e;refine⟨o',rfl,h1,h2,⟨qi r3 0 _,(zJ _ _ _ _ (fun e=>hne e.symm)).trans r4.out,hne,?_,zO⟩,by simpa using s3,o3.out.1,o3.out.2.1,o3.out.2.2,fun b hb hbg=>(zJ _ _ _ _ hb).trans (h3.out b hbg)⟩;rw[qab zO];rcases Nat.eq_zero_or_pos (n-l.length) with h0|h0
  ·have:=h2 h0;omega
  ·have:=h1 h0;omega
 clear r3 r4 h3 o3 hVB;go_enter func201,ntmps201;go_wp2_with fail
 ·subst h;go_ret;exact fin.out o 0 zO (fun h=>zO) (fun _=>rfl)
 ·go_ret;exact fin.out (o+l.length) (n-l.length) rfl (fun _=>rfl) (fun h=>zO)
section
variable {R0 R:Rel} {c:Nat}
def preC (R0 R:Rel) (c i:Nat):Rel:=if i=c then R0 else R
def qaE (R0 R:Rel) (c i:Nat):Rel:=if i=c then R else R0
section
variable {P:Program} {ops:Array Oper} {w0:World}
def jY (R0 R:Rel) (c:Nat) (P:Program) (ops:Array Oper) (w0:World) (H:Nat->Option Qe) (i:Nat) (o:Oper) (a:Act) (F:qS) (h:Qe):Prop:=
 (Region.wanted o (yielded ops a.tmps)=false/\h=one undef) \/
 (Region.wanted o (yielded ops a.tmps)=true/\H i=none/\∃ v,h=one v/\∀ W,(preC R0 R c i).r w0 W->(∀ k∈qP o,F k W)->Ve (qaE R0 R c i) P o a W v) \/
 (Region.wanted o (yielded ops a.tmps)=true/\H i=some h/\∀ W,(preC R0 R c i).r w0 W->(∀ k∈qP o,F k W)->QA (qaE R0 R c i) P o a W h)
def GI (R0 R:Rel) (c:Nat) (w0:World) (listed:Array Bool) (F:qS):Prop:=∃ W,R.r w0 W/\(listed.getD c true=false->R0.r w0 W)/\∀ k,F k W
def FOpC (R0 R:Rel) (c:Nat) (P:Program) (ops:Array Oper) (w0:World) (H:Nat->Option Qe) (listed:Array Bool) (i:Nat) (o:Oper) (K:Act->qS->Prop) (a:Act) (F:qS):Prop:=
 ∃ h,jY R0 R c P ops w0 H i o a F h/\∀ p,GI R0 R c w0 (listed.setIfInBounds i true) (upd F i o (h.φ p))->K (a.put o.dst (h.f p)) (upd F i o (h.φ p))
def JJ (R0 R:Rel) (c:Nat) (P:Program) (ops:Array Oper) (w0:World) (H:Nat->Option Qe) (Q:Act->qS->Prop):List (Nat×Oper)->Array Bool->Act->qS->Prop
 | [],_,a,F=>Q a F
 |(k,o) :: rest,listed,a,F=>FOpC R0 R c P ops w0 H listed k o (fun a' F'=>JJ R0 R c P ops w0 H Q rest (listed.setIfInBounds k true) a' F') a F
def UW (R0 R:Rel) (c:Nat) (P:Program) (ops:Array Oper) (w0:World) (H:Nat->Option Qe) (L:Array Bool) (Q:Act->qS->Prop):Nat->Array Bool->Act->qS->Prop
 |0,listed,a,F=>listed=L/\Q a F
 |fuel+1,listed,a,F=>Region.ready .any ops listed≠[]/\∀ i∈Region.ready .any ops listed,∀ o,ops[i]?=some o->FOpC R0 R c P ops w0 H listed i o (UW R0 R c P ops w0 H L Q fuel (listed.setIfInBounds i true)) a F
theorem qeR {listed:Array Bool} {i:Nat} {W:World} (hi:listed.getD i true=false) (h:R.r w0 W) (h0:listed.getD c true=false->R0.r w0 W):(preC R0 R c i).r w0 W:=by
 unfold preC;split
 ·rename_i e;subst e;exact h0 hi
 ·exact h
theorem qjy (hle:∀ a b,R0.r a b->R.r a b) {i:Nat} {W W':World} (h:(qaE R0 R c i).r W W'):R.r W W':=by
 unfold qaE at h;split at h
 ·exact h
 ·exact hle _ _ h
theorem stpC_0 {listed:Array Bool} {i:Nat} {W W':World} (hi:listed.getD i true=false) (h:(qaE R0 R c i).r W W') (hc:(listed.setIfInBounds i true).getD c true=false):R0.r W W':=by
 unfold qaE at h;split at h
 ·rename_i e;subst e;exfalso;rcases Nat.lt_or_ge i listed.size with h'|h'
  ·simp[h'] at hc
  ·simp[Array.getElem?_eq_none h'] at hi
 ·exact h
theorem unset {listed:Array Bool} {i c:Nat} (hc:(listed.setIfInBounds i true).getD c true=false):listed.getD c true=false:=by
 by_cases e:i=c
 ·subst e;rcases Nat.lt_or_ge i listed.size with h'|h'
  ·simp[h'] at hc
  ·simp at hc
 ·rwa [getD_set_ne true e] at hc
def Void (c:Nat) (listed:Array Bool) (F:qS):Prop:=listed.getD c true=false->∀ k W,F k W
theorem keepC {listed:Array Bool} {F:qS} {i:Nat} {W W':World} (hi:listed.getD i true=false) (hst:∀ k,qJ R0 (F k)) (hv:Void c listed F) (h:(qaE R0 R c i).r W W') (k:Nat) (hF:F k W):F k W':=by
 unfold qaE at h;split at h
 ·rename_i e;subst e;exact hv hi k W'
 ·exact hst k _ _ h hF
theorem jY.unique {H:Nat->Option Qe} {listed:Array Bool} {i:Nat} {o:Oper} {a:Act} {F:qS} {h h':Qe} (hc:GI R0 R c w0 listed F) (hi:listed.getD i true=false) (x:jY R0 R c P ops w0 H i o a F h) (y:jY R0 R c P ops w0 H i o a F h'):h=h':=by
 obtain⟨W,hW,hW0,hF⟩:=hc;have hW:=qeR hi hW hW0;rcases x with ⟨x1,rfl⟩|⟨x1,x2,v,rfl,x3⟩|⟨x1,x2,x3⟩ <;> rcases y with ⟨y1,rfl⟩|⟨y1,y2,u,rfl,y3⟩|⟨y1,y2,y3⟩
 ·rfl
 ·rw[x1] at y1;cases y1
 ·rw[x1] at y1;cases y1
 ·rw[x1] at y1;cases y1
 ·obtain⟨w1,e1,_⟩:=x3 W hW fun k _=>hF k;obtain⟨w2,e2,_⟩:=y3 W hW fun k _=>hF k;rw[e1] at e2;cases e2;rfl
 ·rw[x2] at y2;cases y2
 ·rw[x1] at y1;cases y1
 ·rw[x2] at y2;cases y2
 ·rw[x2] at y2;cases y2;rfl
theorem jY.some_ (hle:∀ a b,R0.r a b->R.r a b) {H:Nat->Option Qe} {listed:Array Bool} {i:Nat} {o:Oper} {a:Act} {F:qS} {h:Qe} (hc:GI R0 R c w0 listed F) (hi:listed.getD i true=false) (hst:∀ k,qJ R0 (F k)) (hv:Void c listed F) (x:jY R0 R c P ops w0 H i o a F h):∃ p,GI R0 R c w0 (listed.setIfInBounds i true) (upd F i o (h.φ p)):=by
 obtain⟨W,hW,hW0,hF⟩:=hc;have triv:∀ (φ:World->Prop) W',(qaE R0 R c i).r W W'->φ W'->GI R0 R c w0 (listed.setIfInBounds i true) (upd F i o φ):=fun φ W' he hφ=>⟨W',R.trans hW (qjy hle he),fun h=>R0.trans (hW0 (unset h)) (stpC_0 hi he h),fun k=>by
  unfold upd;split
  ·exact⟨hφ,fun j _=>keepC hi hst hv he j (hF j)⟩
  ·exact keepC hi hst hv he k (hF k)⟩
 have hW:=qeR hi hW hW0;rcases x with ⟨x1,rfl⟩|⟨x1,x2,v,rfl,x3⟩|⟨x1,x2,x3⟩
 ·exact⟨(),triv _ W (Rel.refl _ W) trivial⟩
 ·obtain⟨w',_,he⟩:=x3 W hW fun k _=>hF k;exact⟨(),triv _ w' he trivial⟩
 ·have h3:=x3 W hW fun k _=>hF k;unfold QA at h3;generalize (execOp a.eval o).run P W=r at h3;cases r with
  |ok n w' =>
   cases n <;> simp only[jn] at h3
   case value u=>obtain⟨p,_,hp,he⟩:=h3;exact⟨p,triv _ w' he hp⟩
   case skip=>obtain⟨p,_,hp,he⟩:=h3;exact⟨p,triv _ w' he hp⟩
   case enter f args =>obtain⟨he,hcl⟩:=h3;obtain⟨e,w'',fr,⟨p,_,hp,he2⟩,_⟩:=hcl [];exact⟨p,triv _ w'' (Rel.trans _ he he2) hp⟩
  |halt x w'=>simp only[jn] at h3
theorem jY.move {H:Nat->Option Qe} {i j:Nat} {oi oj:Oper} {a:Act} {F:qS} {h:Qe} {v:Value} {φ:World->Prop} (hap:oi.apart ops oj=true) (hsj:∀ cs b,oj.op≠.select cs b) (hn:i∉qP oj):jY R0 R c P ops w0 H j oj (a.put oi.dst v) (upd F i oi φ) h↔jY R0 R c P ops w0 H j oj a F h:=by
 obtain⟨h1,_,_⟩:=Oper.apart_spec hap;have hF:∀ W,(∀ k∈qP oj,upd F i oi φ k W)↔∀ k∈qP oj,F k W:=fun W=>by
  constructor <;> intro hh k hk
  ·have:=hh k hk;unfold upd at this;rwa [if_neg (fun e=>hn (by rw[<-e];exact hk))] at this
  ·unfold upd;rw[if_neg (fun e=>hn (by rw[<-e];exact hk))];exact hh k hk
 unfold jY Ve QA;rw[wanted_put oj a oi.dst v h1,execOp_put oj hsj a oi.dst v h1];simp only[hF]
theorem jY.move' {H:Nat->Option Qe} {i j:Nat} {oi oj:Oper} {a:Act} {F:qS} {h:Qe} {v:Value} {φ:World->Prop} (hap:oi.apart ops oj=true) (hsi:∀ cs b,oi.op≠.select cs b) (hn:j∉qP oi):jY R0 R c P ops w0 H i oi (a.put oj.dst v) (upd F j oj φ) h↔jY R0 R c P ops w0 H i oi a F h:=by
 obtain⟨_,_,h3⟩:=Oper.apart_spec hap;have hF:∀ W,(∀ k∈qP oi,upd F j oj φ k W)↔∀ k∈qP oi,F k W:=fun W=>by
  constructor <;> intro hh k hk
  ·have:=hh k hk;unfold upd at this;rwa [if_neg (fun e=>hn (by rw[<-e];exact hk))] at this
  ·unfold upd;rw[if_neg (fun e=>hn (by rw[<-e];exact hk))];exact hh k hk
 unfold jY Ve QA;rw[wanted_put oi a oj.dst v h3,execOp_put oi hsi a oj.dst v h3];simp only[hF]
theorem jY.stable {H:Nat->Option Qe} (hH:∀ i h,H i=some h->∀ p,qJ R0 (h.φ p)) {i:Nat} {o:Oper} {a:Act} {F:qS} {h:Qe} (x:jY R0 R c P ops w0 H i o a F h):∀ p,qJ R0 (h.φ p):=by
 rcases x with ⟨_,rfl⟩|⟨_,_,v,rfl,_⟩|⟨_,x2,_⟩
 ·exact fun _ _ _ _ _=>trivial
 ·exact fun _ _ _ _ _=>trivial
 ·exact hH i h x2
theorem jY.void {H:Nat->Option Qe} (hone:∀ i h,H i=some h->i=c) {listed:Array Bool} {i:Nat} {o:Oper} {a:Act} {F:qS} {h:Qe} (hv:Void c listed F) (x:jY R0 R c P ops w0 H i o a F h) (p:h.α):Void c (listed.setIfInBounds i true) (upd F i o (h.φ p)):=by
 intro hc k W;have hcl:=hv (unset hc);unfold upd;split
 ·refine⟨?_,fun j _=>hcl j W⟩;rcases x with ⟨_,rfl⟩|⟨_,_,v,rfl,_⟩|⟨_,x2,_⟩
  ·trivial
  ·trivial
  ·exfalso;have e:=hone i h x2;subst e;rcases Nat.lt_or_ge i listed.size with h'|h'
   ·simp[h'] at hc
   ·simp at hc
 ·exact hcl k W
theorem qdd (hle:∀ a b,R0.r a b->R.r a b) {H:Nat->Option Qe} (hone:∀ i h,H i=some h->i=c) (hH:∀ i h,H i=some h->∀ p,qJ R0 (h.φ p)) {A:Nat->Prop} {Cl:Array Bool->Prop} {L:Array Bool} {Q:Act->qS->Prop} {i:Nat} {oi:Oper} (hi:ops[i]?=some oi) (him:A i) (hRI:∀ (j:Nat) (o:Oper) cs b,ops[j]?=some o->o.op≠.select cs b) (hcl:∀ listed j,Cl listed->j∈Region.ready .any ops listed->Cl (listed.setIfInBounds j true)) (hJS:∀ (listed:Array Bool) (j:Nat),Cl listed->j∈Region.ready .any ops listed->L.getD j true=false->∀ k,A k->listed.getD k false=true) : ∀ (fuel:Nat) (listed:Array Bool) (a:Act) (F:qS),Cl listed -> (∀ j oj,ops[j]?=some oj->j≠i->listed.getD j true=false->(∀ e∈oj.after,Region.binds .any e=true->e.on≠i)->oi.apart ops oj=true) ->
   i∈Region.ready .any ops listed->(∀ k,qJ R0 (F k))->GI R0 R c w0 listed F->Void c listed F->(∀ k,listed.getD k true=false->∀ W,F k W) ->
   FOpC R0 R c P ops w0 H listed i oi (UW R0 R c P ops w0 H L Q fuel (listed.setIfInBounds i true)) a F->UW R0 R c P ops w0 H L Q (fuel+1) listed a F:=by
 intro fuel;induction fuel with
 |zero =>
  intro listed a F hCl _ hr hst hc hvd _ hop;refine⟨fun h=>(by rw[h] at hr;cases hr),fun j hj oj hoj=>?_⟩;by_cases hji:j=i
  ·subst hji;rw[hi] at hoj;cases hoj;exact hop
  ·exfalso;obtain⟨h,hok,hK⟩:=hop;obtain⟨p,hcp⟩:=hok.some_ hle hc (mem_ready.1 hr).1 hst hvd;have hmj:L.getD j true=false:=by rw[<-(hK p hcp).1];exact(mem_ready.1 (ready_mono hj hji)).1
   have h1:=hJS listed j hCl hj hmj i him;have h0:=(mem_ready.1 hr).1;rcases Nat.lt_or_ge i listed.size with h'|h'
   ·simp[h'] at h0 h1;rw[h0] at h1;cases h1
   ·simp[Array.getElem?_eq_none h'] at h1
 |succ fuel ih =>
  intro listed a F hCl hJQ hr hst hc hvd hun hop;refine⟨fun h=>(by rw[h] at hr;cases hr),fun j hj oj hoj=>?_⟩;by_cases hji:j=i
  ·subst hji;rw[hi] at hoj;cases hoj;exact hop
  ·obtain⟨hJI,oj',hWY,hJF⟩:=mem_ready.1 hj;rw[hoj] at hWY;cases hWY;obtain⟨hVK,oi',wCJ,hRC⟩:=mem_ready.1 hr;rw[hi] at wCJ;cases wCJ;have bad:∀ k,listed.getD k true=false->listed.getD k false=true->False:=fun k h0 h1=>by
    rcases Nat.lt_or_ge k listed.size with h'|h'
    ·simp[h'] at h0 h1;rw[h0] at h1;cases h1
    ·simp[Array.getElem?_eq_none h'] at h1
   have wCG:∀ e∈oj.after,Region.binds .any e=true->e.on≠i:=fun e he hb heq=>bad i hVK (heq ▸ hJF e he hb);have wCI:∀ e∈oi.after,Region.binds .any e=true->e.on≠j:=fun e he hb heq=>bad j hJI (heq ▸ hRC e he hb);have hpi:i∉qP oj:=fun hin=>by obtain⟨e,he,hei⟩:=List.mem_map.1 hin;rw[List.mem_filter] at he;exact wCG e (by simpa using he.1) he.2 hei
   have hpj:j∉qP oi:=fun hin=>by obtain⟨e,he,hei⟩:=List.mem_map.1 hin;rw[List.mem_filter] at he;exact wCI e (by simpa using he.1) he.2 hei
   have hap:=hJQ j oj hoj hji hJI wCG;have hsi:∀ cs b,oi.op≠.select cs b:=fun cs b=>hRI i oi cs b hi;have hsj:∀ cs b,oj.op≠.select cs b:=fun cs b=>hRI j oj cs b hoj;obtain⟨h2,_⟩:=(Oper.apart_spec hap).2;obtain⟨hI,okI,hKI⟩:=hop;obtain⟨p0,wJJ⟩:=okI.some_ hle hc hVK hst hvd;obtain⟨hJ,okJ0,_⟩:=(hKI p0 wJJ).2 j (ready_mono hj hji) oj hoj;have okJ:jY R0 R c P ops w0 H j oj a F hJ:=(jY.move hap hsj hpi).1 okJ0;refine⟨hJ,okJ,fun q hcq=>?_⟩;have stJ:=okJ.stable hH q;have hTI:∀ k ok,ops[k]?=some ok->k≠i->(listed.setIfInBounds j true).getD k true=false ->
     (∀ e∈ok.after,Region.binds .any e=true->e.on≠i)->oi.apart ops ok=true:=fun k ok hk hki wCW hno=>by
    refine hJQ k ok hk hki ?_ hno;by_cases hjk:j=k
    ·subst hjk;exact hJI
    ·rw[getD_set_ne true hjk] at wCW;exact wCW
   refine ih (listed.setIfInBounds j true) _ _ (hcl _ _ hCl hj) hTI (ready_mono hr (Ne.symm hji)) (jc hst j oj stJ) hcq (okJ.void hone hvd q) ?_ ?_
   ·intro k hk W;by_cases hjk:j=k
    ·subst hjk;exfalso;have hlt:j<listed.size:=by
      rcases Nat.lt_or_ge j listed.size with h'|h'
      ·exact h'
      ·simp[Array.getElem?_eq_none h'] at hJI
     simp[hlt] at hk
    ·rw[getD_set_ne true hjk] at hk;have:=hun k hk W;unfold upd;rw[if_neg (fun e=>hjk e.symm)];exact this
   ·refine⟨hI,(jY.move' hap hsi hpj).2 okI,fun p hcp=>?_⟩;have wMK:GI R0 R c w0 (listed.setIfInBounds i true) (upd F i oi (hI.φ p)):=by
     by_cases hjc:j=c
     ·have xDL:∃ v,hI=one v:=by
       rcases okI with ⟨_,e⟩|⟨_,_,v,e,_⟩|⟨_,e,_⟩
       ·exact⟨_,e⟩
       ·exact⟨_,e⟩
       ·exact absurd ((hone _ _ e).trans hjc.symm) (Ne.symm hji)
      obtain⟨v,rfl⟩:=xDL;exact wJJ
     ·obtain⟨W,hW,hW0,hF⟩:=hcp;refine⟨W,hW,fun h=>hW0 ?_,fun k=>?_⟩
      ·rw[Array.setIfInBounds_comm _ _ hji,getD_set_ne true hjc];exact h
      have hk:=hF k;by_cases hki:k=i
      ·subst hki;unfold upd at hk ⊢;rw[if_pos rfl] at hk ⊢;refine⟨hk.1,fun l hl=>?_⟩;have:=hk.2 l hl
       rwa [if_neg (fun e=>hpj (by rw[<-e];exact hl))] at this
      ·by_cases hkj:k=j
       ·subst hkj;unfold upd;rw[if_neg hki];exact hun k hJI W
       ·unfold upd at hk ⊢;rw[if_neg hki,if_neg hkj] at hk;rw[if_neg hki];exact hk
    obtain⟨hJ',okJ',wMG⟩:=(hKI p wMK).2 j (ready_mono hj hji) oj hoj;have okJ'':jY R0 R c P ops w0 H j oj a F hJ':=(jY.move hap hsj hpi).1 okJ';have e:=okJ''.unique hc hJI okJ;subst e;have hq:=wMG q (by rw[Vi F _ _ (Ne.symm hji) hpi hpj,Array.setIfInBounds_comm _ _ (fun e=>hji e.symm)];exact hcp);rw[Array.setIfInBounds_comm _ _ (fun e=>hji e.symm),Act.put_comm a (hI.f p) (hJ'.f q) h2,Vi F _ _ (Ne.symm hji) hpi hpj] at hq;exact hq
theorem qaw (hle:∀ a b,R0.r a b->R.r a b) {H:Nat->Option Qe} (hone:∀ i h,H i=some h->i=c) (hH:∀ i h,H i=some h->∀ p,qJ R0 (h.φ p)) {Cl:Array Bool->Prop} {L:Array Bool} {ks:List Nat} {Q:Act->qS->Prop} (hs:Region.noSelect ops=true) (hcl:∀ listed j,Cl listed->j∈Region.ready .any ops listed->Cl (listed.setIfInBounds j true)) (hJS:∀ (listed:Array Bool) (j:Nat),Cl listed->j∈Region.ready .any ops listed->L.getD j true=false->∀ k,k∈ks->listed.getD k false=true):∀ (l:List (Nat×Oper)) (listed:Array Bool) (a:Act) (F:qS),Cl listed->(∀ x∈l,ops[x.1]?=some x.2/\x.1∈ks) ->
  ZS ops L (l.map (·.1)) listed=true->(∀ k,qJ R0 (F k))->GI R0 R c w0 listed F->Void c listed F->(∀ j,listed.getD j true=false->∀ W,F j W)->JJ R0 R c P ops w0 H Q l listed a F->UW R0 R c P ops w0 H L Q l.length listed a F
 | [],listed,a,F,_,_,hB,_,_,_,_,h=>⟨by simpa [ZS] using hB,h⟩
 |(k,o) :: l,listed,a,F,hCl,hl,hB,hst,hc,hvd,hun,h=>by
  obtain⟨h0,hks⟩:=hl (k,o) (List.mem_cons_self);simp only[List.map_cons,ZS,Bool.and_eq_true] at hB;obtain⟨⟨hr,hf⟩,hB'⟩:=hB;have hrk:k∈Region.ready .any ops listed:=by simpa using hr
  have wMV:=(mem_ready.1 hrk).1;refine qdd hle hone (A:=fun k=>k∈ks) hH h0 hks (Region.noSelect_spec hs) hcl hJS l.length listed a F hCl (Region.free_spec h0 hf) hrk hst hc hvd hun ?_;obtain⟨hh,hok,hK⟩:=h;refine⟨hh,hok,fun p hcp=>?_⟩;refine qaw hle hone hH hs hcl hJS l _ _ _ (hcl _ _ hCl hrk) (fun x hx=>hl x (List.mem_cons_of_mem _ hx)) hB' (jc hst k o (hok.stable hH p)) hcp (hok.void hone hvd p) (fun j hj W=>?_) (hK p hcp);by_cases hjk:k=j
  ·subst hjk;have hlt:k<listed.size:=by
    rcases Nat.lt_or_ge k listed.size with h'|h'
    ·exact h'
    ·simp[Array.getElem?_eq_none h'] at wMV
   simp[hlt] at hj
  ·rw[getD_set_ne true hjk] at hj;have:=hun j hj W;unfold upd;rw[if_neg (fun e=>hjk e.symm)];exact this
theorem qdg (hle:∀ a b,R0.r a b->R.r a b) {H:Nat->Option Qe} {i:Nat} {o:Oper} {a:Act} {F:qS} {K:Act->qS->Prop} {K':Act->World->Prop} {Q':Exit->Act->World->Prop} {W:World} {listed:Array Bool} (hli:listed.getD i true=false) (hi:ops[i]?=some o) (hone:∀ i h,H i=some h->i=c) (hH:∀ i h,H i=some h->∀ p,qJ R0 (h.φ p)) (hst:∀ k,qJ R0 (F k)) (hvd:Void c listed F) (hW:R.r w0 W) (hW0:listed.getD c true=false->R0.r w0 W) (hF:∀ k,F k W) (hK:∀ a' F' W',K a' F'->(∀ k,qJ R0 (F' k))->Void c (listed.setIfInBounds i true) F'->R.r w0 W'->((listed.setIfInBounds i true).getD c true=false->R0.r w0 W')->(∀ k,F' k W')->K' a' W') (h:FOpC R0 R c P ops w0 H listed i o K a F):wpOp P ops Q' i K' a W:=by
 obtain⟨hh,hok,hn⟩:=h;have go:∀ p W',(qaE R0 R c i).r W W'->hh.φ p W'->K' (a.put o.dst (hh.f p)) W':=fun p W' he0 hφ=>by
  have he:=qjy hle he0;have h0:(listed.setIfInBounds i true).getD c true=false->R0.r w0 W':=fun h=>R0.trans (hW0 (unset h)) (stpC_0 hli he0 h);have hF':∀ k,upd F i o (hh.φ p) k W':=fun k=>by
   unfold upd;split
   ·exact⟨hφ,fun j _=>keepC hli hst hvd he0 j (hF j)⟩
   ·exact keepC hli hst hvd he0 k (hF k)
  exact hK _ _ W' (hn p ⟨W',R.trans hW he,h0,hF'⟩) (jc hst i o (hok.stable hH p)) (hok.void hone hvd p) (R.trans hW he) h0 hF'
 have hWp:=qeR (c:=c) hli hW hW0;unfold wpOp;simp only[hi];rcases hok with ⟨x1,rfl⟩|⟨x1,x2,v,rfl,x3⟩|⟨x1,x2,x3⟩
 ·simp only[x1,Bool.false_eq_true,if_false];exact go () W (Rel.refl _ W) trivial
 ·simp only[x1,if_true];obtain⟨w',hr,he⟩:=x3 W hWp fun k _=>hF k;refine .inl ?_;unfold Oper.wp;rw[hr];exact go () w' he trivial
 ·simp only[x1,if_true];have h3:=x3 W hWp fun k _=>hF k;refine .inl ?_;unfold QA at h3;unfold Oper.wp;generalize (execOp a.eval o).run P W=r at *;cases r with
  |ok n w' =>
   cases n <;> simp only[jn] at h3 <;> simp only[Oper.upon]
   case value u =>obtain⟨p,rfl,hp,he⟩:=h3;exact go p w' he hp
   case skip =>obtain⟨p,hu,hp,he⟩:=h3;rw[hu];exact go p w' he hp
   case enter f args =>obtain⟨he,hcl⟩:=h3;refine hcl.mono fun e w'' ⟨p,he1,hp,he2⟩=>?_;subst he1;exact go p w'' (Rel.trans _ he he2) hp
  |halt x w'=>simp only[jn] at h3
theorem Xu (hle:∀ a b,R0.r a b->R.r a b) {H:Nat->Option Qe} (hone:∀ i h,H i=some h->i=c) (hH:∀ i h,H i=some h->∀ p,qJ R0 (h.φ p)) {L:Array Bool} {t:Nat} {Q:Act->qS->Prop} {Q':Exit->Act->World->Prop} (hQ:∀ a F W,Q a F->R.r w0 W->(∀ k,F k W)->wpAny P .any ops Q' t L a W) : ∀ (fuel:Nat) (listed:Array Bool) (a:Act) (F:qS) (W:World),(∀ k,qJ R0 (F k))->Void c listed F->R.r w0 W->(listed.getD c true=false->R0.r w0 W)->(∀ k,F k W)->UW R0 R c P ops w0 H L Q fuel listed a F->wpAny P .any ops Q' (fuel+t) listed a W
 |0,listed,a,F,W,_,_,hW,_,hF,h=>by rw[h.1,Nat.zero_add];exact hQ a F W h.2 hW hF
 |fuel+1,listed,a,F,W,hst,hvd,hW,hW0,hF,h=>by rw[show fuel+1+t=fuel+t+1 by omega];refine⟨fun h0=>absurd h0 h.1,fun i hi=>?_⟩;obtain⟨hli,o,ho,_⟩:=mem_ready.1 hi;exact qdg hle hli ho hone hH hst hvd hW hW0 hF (fun a' F' W' hk wAH hvd' hW' hW0' hF'=>Xu hle hone hH hQ fuel _ a' F' W' wAH hvd' hW' hW0' hF' hk) (h.2 i hi o ho)
theorem qdl {l:List Oper} {Q:Exit->Act->World->Prop} {fuel:Nat} {listed:Array Bool} {a:Act} {w W:World} (R0 R:Rel) (c:Nat) (hle:∀ a b,R0.r a b->R.r a b) (H:Nat->Option Qe) (M:List Bool) (t:Nat) (hs:Region.noSelect l.toArray=true) (ht:qdZ l.toArray (QO l.length (l.length-t)) ((qw 0 l M).map (·.1))=true) (hc0:KW l.toArray listed=true) (hB:ZS l.toArray (QO l.length (l.length-t)) ((qw 0 l M).map (·.1)) listed=true) (hXB:UN l.toArray t (l.length-t) (QO l.length (l.length-t))=true) (hfu:fuel=(qw 0 l M).length+t) (htl:(l.drop (l.length-t)).length=t) (hH:∀ i h,H i=some h->∀ p,qJ R0 (h.φ p)) (hone:∀ i h,H i=some h->i=c) (hW:R0.r w W) (h:∀ K:Act->qS->Prop,(∀ a' F',(∀ W,R.r w W->(∀ k,F' k W)->wpList P l.toArray Q (l.drop (l.length-t)) a' W)->K a' F')->JJ R0 R c P l.toArray w H K (qw 0 l M) listed a (fun _ _=>True)):wpAny P .any l.toArray Q fuel listed a W:=by
 have h:=h _ (fun a' F' hh=>hh);subst hfu;have key:=qaw hle hone (w0:=w) hH hs (fun _ _ h=>h.step) (Yx ht) (qw 0 l M) listed a (fun _ _=>True) (JX hc0) (fun x hx=>by obtain⟨j,h1,h2⟩:=vj l M 0 x hx;refine⟨?_,List.mem_map.2 ⟨x,hx,rfl⟩⟩;rw[h1,Nat.zero_add];simpa using h2) hB (fun _ _ _ _ _=>trivial) ⟨W,hle _ _ hW,fun _=>hW,fun _=>trivial⟩ (fun _ _ _=>trivial) (fun _ _ _=>trivial) h;refine Xu hle hone (w0:=w) hH (t:=t) (Q':=Q) (fun a F W hq hW hF=>?_) _ _ _ _ W (fun _ _ _ _ _=>trivial) (fun _ _ _=>trivial) (hle _ _ hW) (fun _=>hW) (fun _=>trivial) key;have:=KM (l.drop (l.length-t)) (l.length-t) _ a W (fun j _=>by rw[List.getElem?_drop];simp) (by rw[htl];exact hXB) (hq W hW hF)
 rwa [htl] at this
/-! ### the steps of the walk -/
section
variable {H:Nat->Option Qe} {Q:Act->qS->Prop} {k:Nat} {o:Oper} {rest:List (Nat×Oper)} {a:Act} {F:qS} {listed:Array Bool}
theorem qdr (h:Q a F):JJ R0 R c P ops w0 H Q [] listed a F:=h
theorem qfY (v:Value) (hw:Region.wanted o (yielded ops a.tmps)=true) (hH:H k=none) (hv:∀ W,(preC R0 R c k).r w0 W->(∀ j∈qP o,F j W)->Ve (qaE R0 R c k) P o a W v) (h:JJ R0 R c P ops w0 H Q rest (listed.setIfInBounds k true) (a.put o.dst v) (upd F k o fun _=>True)):JJ R0 R c P ops w0 H Q ((k,o) :: rest) listed a F:=
 ⟨one v,.inr (.inl ⟨hw,hH,v,rfl,hv⟩),fun _ _=>h⟩
theorem Jb (hle:∀ a b,R0.r a b->R.r a b) (v:Value) (hw:Region.wanted o (yielded ops a.tmps)=true) (hH:H k=none) (hv:∀ W,R.r w0 W->(∀ j∈qP o,F j W)->(execOp a.eval o).run P W=.ok (.value v) W) (h:JJ R0 R c P ops w0 H Q rest (listed.setIfInBounds k true) (a.put o.dst v) (upd F k o fun _=>True)):JJ R0 R c P ops w0 H Q ((k,o) :: rest) listed a F:=
 qfY v hw hH (fun W hW hF=>⟨W,hv W (by unfold preC at hW;split at hW;exact hle _ _ hW;exact hW) hF,Rel.refl _ W⟩) h
theorem vG (hw:Region.wanted o (yielded ops a.tmps)=false) (h:JJ R0 R c P ops w0 H Q rest (listed.setIfInBounds k true) (a.put o.dst undef) (upd F k o fun _=>True)):JJ R0 R c P ops w0 H Q ((k,o) :: rest) listed a F:=
 ⟨one undef,.inl ⟨hw,rfl⟩,fun _ _=>h⟩
theorem qbp (hh:Qe) (hw:Region.wanted o (yielded ops a.tmps)=true) (hH:H c=some hh) (hv:∀ W,R0.r w0 W->(∀ j∈qP o,F j W)->QA R P o a W hh) (h:∀ p,JJ R0 R c P ops w0 H Q rest (listed.setIfInBounds c true) (a.put o.dst (hh.f p)) (upd F c o (hh.φ p))):JJ R0 R c P ops w0 H Q ((c,o) :: rest) listed a F:=
 ⟨hh,.inr (.inr ⟨hw,hH,fun W hW hF=>by unfold preC at hW;unfold qaE;rw[if_pos rfl] at hW ⊢;exact hv W hW hF⟩),fun p _=>h p⟩
end
end
end
structure XY (S:Sto):Prop where
 bs:S.bs.length<1000000
 ws:S.ws.length<1000000
 be:∀ l∈S.bs,l.length<1000000
 we:∀ p∈S.ws,p.2.length<1000000
 now:S.now.length<1000000
 last:S.last.length<1000000
end Go.Proofs.YtmeadnlmepcmbaaGreat
namespace Go.Proofs.YtmeadnlmepcmbaaGreat
open Go.RowKit Go.Deep
def InG (w:World) (g F:Nat) (v:Value) (l:List UInt8):Prop:=∃ o,v=.slice (some ⟨g,o,none⟩) l.length l.length/\o+l.length<=F/\∀ j u,(l.map bv)[j]?=some u->w.cell? ⟨g,o+j,none⟩=some u
section
variable {w w':World} {g F:Nat} {v:Value} {l:List UInt8}
theorem InG.keep (h:InG w g F v l) (hk:w'.heap[g]?=w.heap[g]?):InG w' g F v l:=by obtain⟨o,e,h1,h2⟩:=h;exact⟨o,e,h1,fun j u hu=>(World.cell?_of_block hk).trans (h2 j u hu)⟩
theorem InG.step {cur:Array Value} {t:TypeId} {l':List UInt8} {o:Nat} (h:InG w g F v l) (hr:w.heap[g]?=some (.cells cur t (0,0))) (hr':w'.heap[g]?=some (.cells (jo cur o l') t (0,0))) (hVB:o+l'.length<=cur.size) (ho:o=F\/l'.length=0):InG w' g (F+l'.length) v l:=by
 obtain⟨o1,e,h1,h2⟩:=h;refine⟨o1,e,zO,fun j u hu=>?_⟩;have hj:j<l.length:=by have:=(List.getElem?_eq_some_iff.1 hu).1;simpa using this
 have:=h2 j u hu;rw[qa hr] at this;rw[qa hr',qhV hVB (by rcases ho with ho|ho <;> omega)];exact this
theorem InG.new {cur:Array Value} {t:TypeId} {o:Nat} (hr:w'.heap[g]?=some (.cells (jo cur o l) t (0,0))) (hVB:o+l.length<=cur.size) (ho:o<=F):InG w' g (F+l.length) (.slice (some ⟨g,o,none⟩) l.length l.length) l:=
 ⟨o,rfl,zO,fun j u hu=>by rw[qa hr];exact qhU hVB hu⟩
theorem InG.bys {B:Nat} (h:InG w g F v l) (hg:g<B) (hl:l.length<=maxLen):Bys w B v l:=by obtain⟨o,e,h1,h2⟩:=h;exact⟨_,_,e,zM _,hl,zA2,fun _=>⟨g,o,rfl,hg,h2⟩⟩
theorem InG.cells {W2:World} (h:InG w g F v l) (hk:∀ j,W2.cell? ⟨g,j,none⟩=w.cell? ⟨g,j,none⟩):InG W2 g F v l:=by obtain⟨o,e,h1,h2⟩:=h;exact⟨o,e,h1,fun j u hu=>(hk _).trans (h2 j u hu)⟩
end
def vw (ls:List (List UInt8)):Nat:=(ls.map List.length).sum
theorem XO {ls:List (List UInt8)} {k:Nat} (h:k<ls.length):vw (ls.take (k+1))=vw (ls.take k)+ls[k].length:=by unfold vw;rw[List.take_succ_eq_append_getElem h,List.map_append,List.sum_append];simp
theorem qiC (ls:List (List UInt8)) (k:Nat):vw (ls.take k)+vw (ls.drop k)=vw ls:=by unfold vw;rw[<-List.sum_append,<-List.map_append,List.take_append_drop]
theorem qjA {ls:List (List UInt8)} (h:∀ l∈ls,l.length<1000000):vw ls<=ls.length*1000000:=by
 induction ls with
 |nil=>simp[vw]
 |cons l r ih =>
  have h1:=ih fun x hx=>h x (List.mem_cons_of_mem _ hx);have h2:=h l List.mem_cons_self;simp only[vw,List.map_cons,List.sum_cons,List.length_cons] at h1 ⊢;omega
theorem Vy (ls:List (List UInt8)) (k:Nat):vw (ls.take k)<=vw ls:=by have:=qiC ls k;omega
def Ty (hb g:Nat):Rel where
 rel W W':=W'.os=W.os/\W'.tape=W.tape/\W'.output=W.output/\W.heap.size<=W'.heap.size/\∀ b,b<W.heap.size->b≠hb->b≠g->W'.heap[b]?=W.heap[b]?
 refl' w:=⟨rfl,rfl,rfl,zM _,fun _ _ _ _=>rfl⟩
 trans' h k:=⟨k.1.trans h.1,k.2.1.trans h.2.1,k.2.2.1.trans h.2.2.1,Nat.le_trans h.2.2.2.1 k.2.2.2.1,fun b hb h1 h2=>(k.2.2.2.2 b (Nat.lt_of_lt_of_le hb h.2.2.2.1) h1 h2).trans (h.2.2.2.2 b hb h1 h2)⟩
 drew' w:=⟨rfl,rfl,rfl,zM _,fun _ _ _ _=>rfl⟩
theorem qiR {hb g:Nat}:∀ a b,qm.r a b->(Ty hb g).r a b:=fun a b h=>by have h:Ext a b:=h;exact⟨h.os,h.tape,h.output,h.size,fun k hk _ _=>h.block k hk⟩
theorem kR {hb g b:Nat} {a W:World} {o:Obj} (h:(Ty hb g).r a W) (h1:b≠hb) (h2:b≠g) (hc:a.heap[b]?=some o):W.heap[b]?=some o:=
 (h.2.2.2.2 b (zG.1 hc).1 h1 h2).trans hc
theorem qR {w:World} {a b:Nat} {c d:Array Value} {t u:TypeId} (h:w.heap[a]?=some (.cells c t (0,0))) (k:w.heap[b]?=some (.cells d u (0,0))) (hn:t≠u):a≠b:=fun e=>by subst e;rw[h] at k;cases k;exact hn rfl
structure TwS (bs:List (List UInt8)) (ws:List (Int×List UInt8)) (T lo:Nat) (w5:World) (hb g BB WW ob kb kw F:Nat) (wr:World):Prop where
 below:Below lo w5 wr
 los:lo<=hb/\lo<=g/\lo<=BB/\lo<=WW/\lo<=ob
 out:wr.heap[ob]?=some (.cells #[.slice (some ⟨BB,0,none⟩) bs.length bs.length,.slice (some ⟨WW,0,none⟩) ws.length (ws.length+1)] 25 (0,0))
 heap:∃ o n cur,qdi hb g o n cur wr/\o<=F/\(0<n->o=F)/\F+n=T/\cur.size=T
 bb:∃ cs,wr.heap[BB]?=some (.cells cs 26 (0,0))/\cs.size=bs.length/\∀ i l,bs[i]?=some l->i<kb->∃ v,cs[i]?=some v/\InG wr g F v l
 ww:∃ cs,wr.heap[WW]?=some (.cells cs 142 (0,0))/\cs.size=(ws.length+1)*2/\∀ i p,ws[i]?=some p->i<kw->∃ v,cs[i*2]?=some (.int .i64 p.1)/\cs[i*2+1]?=some v/\InG wr g F v p.2
section
variable {bs:List (List UInt8)} {ws:List (Int×List UInt8)} {T lo:Nat} {w5:World} {hb g BB WW ob kb kw F:Nat} {wr W:World}
theorem TwS.ext (h:TwS bs ws T lo w5 hb g BB WW ob kb kw F wr) (hx:Ext wr W) (hl:lo<=wr.heap.size):TwS bs ws T lo w5 hb g BB WW ob kb kw F W:=by
 obtain⟨o,n,cur,⟨H1,H2,H3,H4,H5⟩,h2⟩:=h.heap;obtain⟨cb,hb1,hb2,hb3⟩:=h.bb;obtain⟨cw,hw1,hw2,hw3⟩:=h.ww;have hg:W.heap[g]?=wr.heap[g]?:=hx.block g (zG.1 H2).1;exact⟨h.below.trans (Below.mono hx hl),h.los,qb h.out hx,⟨o,n,cur,⟨qb H1 hx,qb H2 hx,H3,H4,H5⟩,h2⟩,
  ⟨cb,qb hb1 hx,hb2,fun i l hi hk=>(hb3 i l hi hk).imp fun v hv=>⟨hv.1,hv.2.keep hg⟩⟩,⟨cw,qb hw1 hx,hw2,fun i p hi hk=>(hw3 i p hi hk).imp fun v hv=>⟨hv.1,hv.2.1,hv.2.2.keep hg⟩⟩⟩
theorem TwS.clone (h:TwS bs ws T lo w5 hb g BB WW ob kb kw F wr) {o n o':Nat} {cur:Array Value} {l:List UInt8} (hH:qdi hb g o n cur wr) (hl:l.length<=n) (hr:(Ty hb g).r wr W) (h1:0<n-l.length->o'=o+l.length) (h2:n-l.length=0->o'=o) (hH':qdi hb g o' (n-l.length) (jo cur o l) W):TwS bs ws T lo w5 hb g BB WW ob kb kw (F+l.length) W/\InG W g (F+l.length) (.slice (some ⟨g,o,none⟩) l.length l.length) l:=by
 obtain⟨o2,n2,cur2,H2,k1,k2,k3,k4⟩:=h.heap;have e1:=H2.box;rw[hH.box] at e1;simp only[Option.some.injEq,Obj.cells.injEq,Array.mk.injEq,List.cons.injEq,Value.slice.injEq,Addr.mk.injEq,and_true,true_and] at e1;obtain⟨rfl,rfl,_⟩:=e1;have e2:=H2.row;rw[hH.row] at e2;simp only[Option.some.injEq,Obj.cells.injEq,and_true] at e2;subst e2;have hVB:o+l.length<=cur.size:=by have:=hH.fit;omega
 have ho:o=F\/l.length=0:=by
  rcases Nat.eq_zero_or_pos n with h0|h0
  ·exact .inr zO
  ·exact .inl (k2 h0)
 have hr0:=hH.row;have hr1:=hH'.row;obtain⟨cb,hb1,hb2,hb3⟩:=h.bb;obtain⟨cw,hw1,hw2,hw3⟩:=h.ww;have n1:BB≠hb:=qR hb1 hH.box zD;have n2:BB≠g:=qR hb1 hr0 zD;have n3:WW≠hb:=qR hw1 hH.box zD;have n4:WW≠g:=qR hw1 hr0 zD;have n5:ob≠hb:=qR h.out hH.box zD;have n6:ob≠g:=qR h.out hr0 zD;obtain⟨l1,l2,l3,l4,l5⟩:=h.los;have hlt:=(zG.1 hr0).1;refine⟨⟨⟨hr.1.trans h.below.os,hr.2.1.trans h.below.tape,hr.2.2.1.trans h.below.output,Nat.le_trans h.below.size hr.2.2.2.1,fun b hb=>(hr.2.2.2.2 b zO zO zO).trans (h.below.block b hb)⟩,h.los,kR hr n5 n6 h.out,⟨o',n-l.length,_,hH',?_,?_,zO,?_⟩,
  ⟨cb,kR hr n1 n2 hb1,hb2,fun i l' hi hk=>(hb3 i l' hi hk).imp fun v hv=>⟨hv.1,hv.2.step hr0 hr1 hVB ho⟩⟩,⟨cw,kR hr n3 n4 hw1,hw2,fun i p hi hk=>(hw3 i p hi hk).imp fun v hv=>⟨hv.1,hv.2.1,hv.2.2.step hr0 hr1 hVB ho⟩⟩⟩,InG.new hr1 hVB k1⟩
 ·rcases Nat.eq_zero_or_pos (n-l.length) with h0|h0
  ·rw[h2 h0];omega
  ·rw[h1 h0];omega
 ·intro h0;rw[h1 h0,k2 zO]
 ·rw[qab hVB];exact k4
theorem TwS.setB (h:TwS bs ws T lo w5 hb g BB WW ob kb kw F wr) {v:Value} {l:List UInt8} (hk:bs[kb]?=some l) (hv:InG wr g F v l):TwS bs ws T lo w5 hb g BB WW ob (kb+1) kw F (wr.setCell ⟨BB,kb,none⟩ v):=by
 obtain⟨o,n,cur,⟨H1,H2,H3,H4,H5⟩,h2⟩:=h.heap;obtain⟨cb,hb1,hb2,hb3⟩:=h.bb;obtain⟨cw,hw1,hw2,hw3⟩:=h.ww;have n1:hb≠BB:=qR H1 hb1 zD;have n2:g≠BB:=qR H2 hb1 zD;have n3:WW≠BB:=qR hw1 hb1 zD;have n5:ob≠BB:=qR h.out hb1 zD;have hg:=zJ wr ⟨BB,kb,none⟩ v g n2;have hlt:=(List.getElem?_eq_some_iff.1 hk).1;refine⟨Below.setCell h.below (p:=⟨BB,kb,none⟩) h.los.2.2.1 _,h.los,(zJ _ _ _ _ n5).trans h.out,⟨o,n,cur,⟨(zJ _ _ _ _ n1).trans H1,(zJ _ _ _ _ n2).trans H2,H3,H4,H5⟩,h2⟩,
  ⟨_,qi hb1 kb v,by simpa using hb2,fun i l' hi hki=>?_⟩,⟨cw,(zJ _ _ _ _ n3).trans hw1,hw2,fun i p hi hk=>(hw3 i p hi hk).imp fun v hv=>⟨hv.1,hv.2.1,hv.2.2.keep hg⟩⟩⟩
 rw[Array.getElem?_setIfInBounds];by_cases e:kb=i
 ·subst e;rw[hk] at hi;cases hi;rw[if_pos rfl,if_pos zO];exact⟨v,rfl,hv.keep hg⟩
 ·rw[if_neg e];exact(hb3 i l' hi zO).imp fun u hu=>⟨hu.1,hu.2.keep hg⟩
theorem TwS.setW (h:TwS bs ws T lo w5 hb g BB WW ob kb kw F wr) {v:Value} {p:Int×List UInt8} (hk:ws[kw]?=some p) (hv:InG wr g F v p.2):TwS bs ws T lo w5 hb g BB WW ob kb (kw+1) F ((wr.setCell ⟨WW,kw*2,none⟩ (.int .i64 p.1)).setCell ⟨WW,kw*2+1,none⟩ v):=by
 obtain⟨o,n,cur,⟨H1,H2,H3,H4,H5⟩,h2⟩:=h.heap;obtain⟨cb,hb1,hb2,hb3⟩:=h.bb;obtain⟨cw,hw1,hw2,hw3⟩:=h.ww;have n1:hb≠WW:=qR H1 hw1 zD;have n2:g≠WW:=qR H2 hw1 zD;have n3:BB≠WW:=qR hb1 hw1 zD;have n5:ob≠WW:=qR h.out hw1 zD;have st:∀ b,b≠WW->((wr.setCell ⟨WW,kw*2,none⟩ (.int .i64 p.1)).setCell ⟨WW,kw*2+1,none⟩ v).heap[b]?=wr.heap[b]?:=fun b hb=>(zJ _ _ _ _ hb).trans (zJ _ _ _ _ hb);have hlt:=(List.getElem?_eq_some_iff.1 hk).1;refine⟨Below.setCell (Below.setCell h.below (p:=⟨WW,kw*2,none⟩) h.los.2.2.2.1 _) (p:=⟨WW,kw*2+1,none⟩) h.los.2.2.2.1 _,h.los,(st _ n5).trans h.out,⟨o,n,cur,⟨(st _ n1).trans H1,(st _ n2).trans H2,H3,H4,H5⟩,h2⟩,
  ⟨cb,(st _ n3).trans hb1,hb2,fun i l' hi hki=>(hb3 i l' hi hki).imp fun u hu=>⟨hu.1,hu.2.keep (st _ n2)⟩⟩,⟨_,qi (qi hw1 (kw*2) _) (kw*2+1) _,by simpa using hw2,fun i q hi hki=>?_⟩⟩
 by_cases e:kw=i
 ·subst e;rw[hk] at hi;cases hi;refine⟨v,?_,?_,hv.keep (st _ n2)⟩
  ·rw[Array.getElem?_setIfInBounds,if_neg zO,Array.getElem?_setIfInBounds,if_pos rfl,if_pos zO]
  ·rw[Array.getElem?_setIfInBounds,if_pos rfl,if_pos zA1]
 ·refine(hw3 i q hi zO).imp fun u hu=>⟨?_,?_,hu.2.2.keep (st _ n2)⟩
  ·rw[Array.getElem?_setIfInBounds,if_neg zO,Array.getElem?_setIfInBounds,if_neg zO];exact hu.1
  ·rw[Array.getElem?_setIfInBounds,if_neg zO,Array.getElem?_setIfInBounds,if_neg zO];exact hu.2.1
end
structure jS (lo:Nat) (bs:List (List UInt8)) (ws:List (Int×List UInt8)) (BB WW g:Nat) (W:World):Prop where
 los:lo<=BB/\lo<=WW/\lo<=g/\g<W.heap.size/\BB≠WW/\BB≠g/\WW≠g
 bb:∃ cs,W.heap[BB]?=some (.cells cs 26 (0,0))/\cs.size=bs.length/\∀ (i:Nat) (l:List UInt8),bs[i]?=some l->∃ v F,cs[i]?=some v/\InG W g F v l
 ww:∃ cs,W.heap[WW]?=some (.cells cs 142 (0,0))/\cs.size=(ws.length+1)*2/\∀ (i:Nat) (p:Int×List UInt8),ws[i]?=some p->∃ v F,cs[i*2]?=some (.int .i64 p.1)/\cs[i*2+1]?=some v/\InG W g F v p.2
 gg:∃ cs,W.heap[g]?=some (.cells cs 5 (0,0))
theorem TwS.done {bs:List (List UInt8)} {ws:List (Int×List UInt8)} {T lo:Nat} {w5:World} {hb g BB WW ob F:Nat} {wr:World} (h:TwS bs ws T lo w5 hb g BB WW ob bs.length ws.length F wr):jS lo bs ws BB WW g wr:=by
 obtain⟨o,n,cur,⟨H1,H2,H3,H4,H5⟩,h2⟩:=h.heap;obtain⟨cb,hb1,hb2,hb3⟩:=h.bb;obtain⟨cw,hw1,hw2,hw3⟩:=h.ww;refine⟨⟨h.los.2.2.1,h.los.2.2.2.1,h.los.2.1,(zG.1 H2).1,qR hb1 hw1 zD,qR hb1 H2 zD,qR hw1 H2 zD⟩,⟨cb,hb1,hb2,fun i l hi=>?_⟩,⟨cw,hw1,hw2,fun i p hi=>?_⟩,⟨_,H2⟩⟩
 ·obtain⟨v,h1,h2⟩:=hb3 i l hi (List.getElem?_eq_some_iff.1 hi).1;exact⟨v,F,h1,h2⟩
 ·obtain⟨v,h1,h2⟩:=hw3 i p hi (List.getElem?_eq_some_iff.1 hi).1;exact⟨v,F,h1,h2⟩
theorem jS.keep {lo lo':Nat} {bs:List (List UInt8)} {ws:List (Int×List UInt8)} {BB WW g:Nat} {W W2:World} (h:jS lo bs ws BB WW g W) (hl:lo'<=lo) (hs:W.heap.size<=W2.heap.size) (hk:∀ b,lo<=b->b<W.heap.size->W2.heap[b]?=W.heap[b]?):jS lo' bs ws BB WW g W2:=by
 obtain⟨cb,hb1,hb2,hb3⟩:=h.bb;obtain⟨cw,hw1,hw2,hw3⟩:=h.ww;obtain⟨l1,l2,l3,l4,l5⟩:=h.los;have hg:=hk g l3 l4;exact⟨⟨zO,zO,zO,zO,l5⟩,⟨cb,(hk BB l1 (zG.1 hb1).1).trans hb1,hb2,fun i l hi=>by
  obtain⟨v,F,h1,h2⟩:=hb3 i l hi;exact⟨v,F,h1,h2.keep hg⟩⟩,⟨cw,(hk WW l2 (zG.1 hw1).1).trans hw1,hw2,fun i p hi=>by
  obtain⟨v,F,h1,h2,h3⟩:=hw3 i p hi;exact⟨v,F,h1,h2,h3.keep hg⟩⟩,h.gg.imp fun cs h=>hg.trans h⟩
theorem jS.keepT {lo lo':Nat} {bs:List (List UInt8)} {ws:List (Int×List UInt8)} {BB WW g:Nat} {W W2:World} (h:jS lo bs ws BB WW g W) (hl:lo'<=lo) (hs:W.heap.size<=W2.heap.size) {b1:Nat} {c1:Array Value} {t1:TypeId} (h1:W.heap[b1]?=some (.cells c1 t1 (0,0))) (ht:t1≠26/\t1≠142/\t1≠5) (hk:∀ b,lo<=b->b<W.heap.size->b≠b1->W2.heap[b]?=W.heap[b]?):jS lo' bs ws BB WW g W2:=by
 obtain⟨cb,hb1,hb2,hb3⟩:=h.bb;obtain⟨cw,hw1,hw2,hw3⟩:=h.ww;obtain⟨cg,hg1⟩:=h.gg;obtain⟨l1,l2,l3,l4,l5⟩:=h.los;have hg:=hk g l3 l4 (qR hg1 h1 fun e=>ht.2.2 e.symm);exact⟨⟨zO,zO,zO,zO,l5⟩,⟨cb,(hk BB l1 (zG.1 hb1).1 (qR hb1 h1 fun e=>ht.1 e.symm)).trans hb1,hb2,fun i l hi=>by
  obtain⟨v,F,h1,h2⟩:=hb3 i l hi;exact⟨v,F,h1,h2.keep hg⟩⟩,⟨cw,(hk WW l2 (zG.1 hw1).1 (qR hw1 h1 fun e=>ht.2.1 e.symm)).trans hw1,hw2,fun i p hi=>by
  obtain⟨v,F,h1,h2,h3⟩:=hw3 i p hi;exact⟨v,F,h1,h2,h3.keep hg⟩⟩,cg,hg.trans hg1⟩
theorem jS.readsB {lo:Nat} {bs:List (List UInt8)} {ws:List (Int×List UInt8)} {BB WW g:Nat} {W:World} (h:jS lo bs ws BB WW g W) (h1:bs.length<1000000) (h2:ws.length<1000000) (h3:∀ l∈bs,l.length<1000000) (h4:∀ p∈ws,p.2.length<1000000) (W2:World) (hB:∀ j,W2.cell? ⟨BB,j,none⟩=W.cell? ⟨BB,j,none⟩) (hWW:∀ j,W2.cell? ⟨WW,j,none⟩=W.cell? ⟨WW,j,none⟩) (hg:∀ j,W2.cell? ⟨g,j,none⟩=W.cell? ⟨g,j,none⟩):Bls W2 W.heap.size (.slice (some ⟨BB,0,none⟩) bs.length bs.length) bs/\Wrs W2 W.heap.size (.slice (some ⟨WW,0,none⟩) ws.length (ws.length+1)) ws:=by
 obtain⟨cb,hb1,hb2,hb3⟩:=h.bb;obtain⟨cw,hw1,hw2,hw3⟩:=h.ww;obtain⟨l1,l2,l3,l4,l5⟩:=h.los;have z1:=(zG.1 hb1).1;have z2:=(zG.1 hw1).1;have hm:∀ n,n<1000001->n<=maxLen:=fun n hn=>zA6;refine⟨⟨cb.toList,_,_,rfl,zM _,hm _ zO,⟨by simp[hb2],fun _=>⟨BB,0,rfl,z1,fun j u hu=>?_⟩⟩,fun i u l hu hl=>?_⟩,?_⟩
 ·rw[Nat.zero_add,hB j,qa hb1];simpa using hu
 ·obtain⟨v,F,e1,e2⟩:=hb3 i l hl;have:cb.toList[i]?=cb[i]?:=zA2;rw[this,e1] at hu;cases hu;exact(e2.cells hg).bys l4 (hm _ (by have:=h3 l (List.mem_of_getElem? hl);omega))
 ·have hq:∀ i,i<ws.length->∃ q:(Int×List UInt8)×Value,ws[i]?=some q.1/\(∃ A c,q.2=.slice A q.1.2.length c)/\Bys W2 W.heap.size q.2 q.1.2/\cw[i*2]?=some (.int .i64 q.1.1)/\cw[i*2+1]?=some q.2:=fun i hi=>by obtain⟨v,F,e1,e2,e3⟩:=hw3 i ws[i] (zL hi);have hb:=(e3.cells hg).bys l4 (hm _ (by have:=h4 ws[i] (List.getElem_mem hi);omega));obtain⟨o,ev,_⟩:=e3;exact⟨(ws[i],v),zL hi,⟨_,_,ev⟩,hb,e1,e2⟩
  obtain⟨Q,hQ⟩:=choose_lt (α:=(Int×List UInt8)×Value) (p:=fun i q=>ws[i]?=some q.1/\(∃ A c,q.2=.slice A q.1.2.length c)/\Bys W2 W.heap.size q.2 q.1.2/\cw[i*2]?=some (.int .i64 q.1.1)/\cw[i*2+1]?=some q.2) hq;refine⟨(List.range ws.length).map Q,?_,⟨some ⟨WW,0,none⟩,ws.length+1,rfl,zO,hm _ zO,⟨by rw[KU];simp,fun _=>⟨WW,0,rfl,z2,fun j u hu=>?_⟩⟩⟩,fun q hq'=>?_⟩
  ·apply List.ext_getElem?;intro i;rw[List.map_map,List.getElem?_map];rcases Nat.lt_or_ge i ws.length with hi|hi
   ·rw[List.getElem?_range hi,(hQ i hi).1];rfl
   ·rw[List.getElem?_eq_none (by simpa using hi),List.getElem?_eq_none hi];rfl
  ·rw[Nat.zero_add,hWW j,qa hw1];have hj:j<ws.length*2:=by have:=(List.getElem?_eq_some_iff.1 hu).1;rw[KU] at this;simpa using this
   obtain⟨c0,c1⟩:=VF ((List.range ws.length).map Q) (j / 2) zA1;obtain⟨_,_,_,q0,q1⟩:=hQ (j / 2) zO;rcases(show j=j / 2*2\/j=j / 2*2+1 by omega) with e|e
   ·have hu':some u=some _:=(hu.symm.trans (congrArg (fun t=>(zu ((List.range ws.length).map Q))[t]?) e)).trans c0;cases hu';rw[show cw[j]?=cw[j / 2*2]? from congrArg (fun t=>cw[t]?) e,q0];simp
   ·have hu':some u=some _:=(hu.symm.trans (congrArg (fun t=>(zu ((List.range ws.length).map Q))[t]?) e)).trans c1;cases hu';rw[show cw[j]?=cw[j / 2*2+1]? from congrArg (fun t=>cw[t]?) e,q1];simp
  ·obtain⟨i,hi,rfl⟩:=List.mem_map.1 hq';obtain⟨_,q1,q2,_⟩:=hQ i (List.mem_range.1 hi);exact⟨q1,q2⟩
theorem jS.reads {lo:Nat} {bs:List (List UInt8)} {ws:List (Int×List UInt8)} {BB WW g:Nat} {W:World} (h:jS lo bs ws BB WW g W) (h1:bs.length<1000000) (h2:ws.length<1000000) (h3:∀ l∈bs,l.length<1000000) (h4:∀ p∈ws,p.2.length<1000000) (W2:World) (hk:∀ q:Addr,lo<=q.block->q.block<W.heap.size->W2.cell? q=W.cell? q):Bls W2 W.heap.size (.slice (some ⟨BB,0,none⟩) bs.length bs.length) bs/\Wrs W2 W.heap.size (.slice (some ⟨WW,0,none⟩) ws.length (ws.length+1)) ws:=by
 obtain⟨cb,hb1,-⟩:=h.bb;obtain⟨cw,hw1,-⟩:=h.ww;obtain⟨l1,l2,l3,l4,-⟩:=h.los;exact h.readsB h1 h2 h3 h4 W2 (fun j=>hk ⟨BB,j,none⟩ l1 (zG.1 hb1).1) (fun j=>hk ⟨WW,j,none⟩ l2 (zG.1 hw1).1) fun j=>hk ⟨g,j,none⟩ l3 l4
theorem jS.readsT {lo:Nat} {bs:List (List UInt8)} {ws:List (Int×List UInt8)} {BB WW g:Nat} {W:World} (h:jS lo bs ws BB WW g W) (h1:bs.length<1000000) (h2:ws.length<1000000) (h3:∀ l∈bs,l.length<1000000) (h4:∀ p∈ws,p.2.length<1000000) (W2:World) (hk:∀ q:Addr,lo<=q.block->q.block<W.heap.size->W2.cell? q=(thaw W).cell? q):Bls W2 W.heap.size (.slice (some ⟨BB,0,none⟩) bs.length bs.length) bs/\Wrs W2 W.heap.size (.slice (some ⟨WW,0,none⟩) ws.length (ws.length+1)) ws:=by
 obtain⟨cb,hb1,-⟩:=h.bb;obtain⟨cw,hw1,-⟩:=h.ww;obtain⟨cg,hg1⟩:=h.gg;obtain⟨l1,l2,l3,l4,-⟩:=h.los;exact h.readsB h1 h2 h3 h4 W2 (fun j=>(hk ⟨BB,j,none⟩ l1 (zG.1 hb1).1).trans (JW hb1 j)) (fun j=>(hk ⟨WW,j,none⟩ l2 (zG.1 hw1).1).trans (JW hw1 j)) fun j=>(hk ⟨g,j,none⟩ l3 l4).trans (JW hg1 j)
end Go.Proofs.YtmeadnlmepcmbaaGreat
