/- Lemmas of the proof. -/
import Derived.Laws.CopyRow
import Derived.Laws.IdiomCopy
import Derived.Test.YtmeadnlmepcmbaaGreatZJ06
set_option linter.all false
set_option maxHeartbeats 8000000
open Go.Proofs.Tryz
namespace Go.Proofs.YtmeadnlmepcmbaaGreat
open Go.RowKit
section
variable {R:Rel}
section
variable {P:Program} {ops:Array Oper} {w0:World}
def YV (ops:Array Oper) (listed:Array Bool):Prop:=∀ (i:Nat) (o:Oper),ops[i]?=some o->listed.getD i false=true->∀ k∈qO o,listed.getD k false=true
def XG (ops:Array Oper) (listed:Array Bool):Bool:=(List.range ops.size).all fun i=>!(listed.getD i false) || (match ops[i]? with|some o=>(qO o).all fun k=>listed.getD k false|none=>true)
theorem Vv {listed:Array Bool} (h:XG ops listed=true):YV ops listed:=by intro i o ho hi k hk;have h1:=List.all_eq_true.1 h i (List.mem_range.2 (zG.1 ho).1);rw[hi,ho] at h1;simp only[Bool.not_true,Bool.false_or] at h1;exact List.all_eq_true.1 h1 k hk
theorem Kg {listed:Array Bool} {j:Nat} (hj:j∈Region.ready .any ops listed) {o:Oper} (ho:ops[j]?=some o):∀ k∈qO o,listed.getD k false=true:=by intro k hk;obtain⟨_,o',uD,ay⟩:=mem_ready.1 hj;rw[ho] at uD;cases uD;obtain⟨e,he,nR⟩:=List.mem_map.1 hk;rw[List.mem_filter] at he;rw[<-nR];exact ay e (by simpa using he.1) he.2
theorem Th {listed:Array Bool} {j k:Nat} (h:listed.getD k false=true):(listed.setIfInBounds j true).getD k false=true:=by
 rcases Nat.lt_or_ge k listed.size with h'|h'
 ·simp only[Array.getD_eq_getD_getElem?,Array.getElem?_setIfInBounds] at h ⊢;by_cases e:j=k
  ·subst e;simp[h']
  ·rw[if_neg e];exact h
 ·simp[Array.getElem?_eq_none h'] at h
theorem YV.step {listed:Array Bool} {j:Nat} (h:YV ops listed) (hj:j∈Region.ready .any ops listed):YV ops (listed.setIfInBounds j true):=by
 intro i o ho hi k hk;by_cases e:i=j
 ·subst e;exact Th (Kg hj ho k hk)
 ·refine Th (h i o ho ?_ k hk);simp only[Array.getD_eq_getD_getElem?,Array.getElem?_setIfInBounds] at hi ⊢
  rwa [if_neg (fun x=>e x.symm)] at hi
def qaJ (ops:Array Oper):Nat->Nat->Nat->Bool
 |0,_,_=>false
 |n+1,j,k=>match ops[j]? with
  |some o=>(qO o).contains k || (qO o).any fun i=>qaJ ops n i k
  |none=>false
theorem VE {listed:Array Bool} (h:YV ops listed):∀ (n j k:Nat),(∀ o,ops[j]?=some o->∀ i∈qO o,listed.getD i false=true)->qaJ ops n j k=true->listed.getD k false=true
 |0,_,_,_,hw=>by cases hw
 |n+1,j,k,hp,hw=>by
  unfold qaJ at hw;split at hw
  ·rename_i o ho;rw[Bool.or_eq_true] at hw;rcases hw with hw|hw
   ·exact hp o ho k (by simpa using hw)
   ·obtain⟨i,hi,hw⟩:=List.any_eq_true.1 hw;exact VE h n i k (fun o' uD=>h i o' uD (hp o ho i hi)) hw
  ·cases hw
def qhc (ops:Array Oper) (L:Array Bool) (ks:List Nat):Bool:=(List.range ops.size).all fun j=>L.getD j true || ks.all fun k=>qaJ ops 9 j k
theorem TZ {L:Array Bool} {ks:List Nat} (h:qhc ops L ks=true):∀ (listed:Array Bool) (j:Nat),YV ops listed->j∈Region.ready .any ops listed->L.getD j true=false->∀ k,k∈ks->listed.getD k false=true:=by intro listed j hc hj hm k hk;obtain⟨_,o,ho,_⟩:=mem_ready.1 hj;have h1:=List.all_eq_true.1 h j (List.mem_range.2 (zG.1 ho).1);rw[hm,Bool.false_or] at h1;exact VE hc 9 j k (fun o' uD=>Kg hj uD) (List.all_eq_true.1 h1 k hk)
theorem qcZ {H:Nat->Option Qd} (hH:∀ i h,H i=some h->∀ p,qL R (h.φ p)) {A:Nat->Prop} {Cl:Array Bool->Prop} {L:Array Bool} {Q:Act->qT->Prop} {i:Nat} {oi:Oper} (hi:ops[i]?=some oi) (him:A i) (iL:∀ (j:Nat) (o:Oper) cs b,ops[j]?=some o->o.op≠.select cs b) (ah:∀ listed j,Cl listed->j∈Region.ready .any ops listed->Cl (listed.setIfInBounds j true)) (bI:∀ (listed:Array Bool) (j:Nat),Cl listed->j∈Region.ready .any ops listed->L.getD j true=false->∀ k,A k->listed.getD k false=true) : ∀ (fuel:Nat) (listed:Array Bool) (a:Act) (F:qT),Cl listed -> (∀ j oj,ops[j]?=some oj->j≠i->listed.getD j true=false->(∀ e∈oj.after,Region.binds .any e=true->e.on≠i)->oi.apart ops oj=true) ->
   i∈Region.ready .any ops listed->(∀ k,qL R (F k))->YW R w0 F->(∀ k,listed.getD k true=false->∀ W,F k W) ->
   FOpG R P ops w0 H i oi (VG R P ops w0 H L Q fuel (listed.setIfInBounds i true)) a F->VG R P ops w0 H L Q (fuel+1) listed a F:=by
 intro fuel;induction fuel with
 |zero =>
  intro listed a F wX _ hr aH hc _ dY;refine⟨fun h=>(by rw[h] at hr;cases hr),fun j hj oj dC=>?_⟩;by_cases hji:j=i
  ·subst hji;rw[hi] at dC;cases dC;exact dY
  ·exfalso;obtain⟨h,hok,hK⟩:=dY;obtain⟨p,di⟩:=hok.some_ hc aH;have hmj:L.getD j true=false:=by rw[<-(hK p di).1];exact(mem_ready.1 (ready_mono hj hji)).1
   have h1:=bI listed j wX hj hmj i him;have h0:=(mem_ready.1 hr).1;rcases Nat.lt_or_ge i listed.size with h'|h'
   ·simp[h'] at h0 h1;rw[h0] at h1;cases h1
   ·simp[Array.getElem?_eq_none h'] at h1
 |succ fuel ih =>
  intro listed a F wX dF hr aH hc lC dY;refine⟨fun h=>(by rw[h] at hr;cases hr),fun j hj oj dC=>?_⟩;by_cases hji:j=i
  ·subst hji;rw[hi] at dC;cases dC;exact dY
  ·obtain⟨bV,oj',iV,ay⟩:=mem_ready.1 hj;rw[dC] at iV;cases iV;obtain⟨mO,oi',mY,gu⟩:=mem_ready.1 hr;rw[hi] at mY;cases mY;have bad:∀ k,listed.getD k true=false->listed.getD k false=true->False:=fun k h0 h1=>by
    rcases Nat.lt_or_ge k listed.size with h'|h'
    ·simp[h'] at h0 h1;rw[h0] at h1;cases h1
    ·simp[Array.getElem?_eq_none h'] at h1
   have mV:∀ e∈oj.after,Region.binds .any e=true->e.on≠i:=fun e he hb nS=>bad i mO (nS ▸ ay e he hb);have mW:∀ e∈oi.after,Region.binds .any e=true->e.on≠j:=fun e he hb nS=>bad j bV (nS ▸ gu e he hb);have iP:i∉qO oj:=fun hin=>by obtain⟨e,he,nR⟩:=List.mem_map.1 hin;rw[List.mem_filter] at he;exact mV e (by simpa using he.1) he.2 nR
   have pJ:j∉qO oi:=fun hin=>by obtain⟨e,he,nR⟩:=List.mem_map.1 hin;rw[List.mem_filter] at he;exact mW e (by simpa using he.1) he.2 nR
   have dh:=dF j oj dC hji bV mV;have uq:∀ cs b,oi.op≠.select cs b:=fun cs b=>iL i oi cs b hi;have tC:∀ cs b,oj.op≠.select cs b:=fun cs b=>iL j oj cs b dC;obtain⟨h2,_⟩:=(Oper.apart_spec dh).2;obtain⟨hI,okI,yY⟩:=dY;obtain⟨p0,rq⟩:=okI.some_ hc aH;obtain⟨hJ,okJ0,_⟩:=(yY p0 rq).2 j (ready_mono hj hji) oj dC;have okJ:jm R P ops w0 H j oj a F hJ:=(jm.move dh tC iP).1 okJ0;refine⟨hJ,okJ,fun q hcq=>?_⟩;have stJ:=okJ.stable hH q;have fO:∀ k ok,ops[k]?=some ok->k≠i->(listed.setIfInBounds j true).getD k true=false ->
     (∀ e∈ok.after,Region.binds .any e=true->e.on≠i)->oi.apart ops ok=true:=fun k ok hk eP mr aX=>by
    refine dF k ok hk eP ?_ aX;by_cases hjk:j=k
    ·subst hjk;exact bV
    ·rw[getD_set_ne true hjk] at mr;exact mr
   refine ih (listed.setIfInBounds j true) _ _ (ah _ _ wX hj) fO (ready_mono hr (Ne.symm hji)) (ZV aH j oj stJ) hcq ?_ ?_
   ·intro k hk W;by_cases hjk:j=k
    ·subst hjk;exfalso;have hlt:j<listed.size:=by
      rcases Nat.lt_or_ge j listed.size with h'|h'
      ·exact h'
      ·simp[Array.getElem?_eq_none h'] at bV
     simp[hlt] at hk
    ·rw[getD_set_ne true hjk] at hk;have:=lC k hk W;unfold upd;rw[if_neg (fun e=>hjk e.symm)];exact this
   ·refine⟨hI,(jm.move' dh uq pJ).2 okI,fun p di=>?_⟩;have uS:YW R w0 (upd F i oi (hI.φ p)):=by
     obtain⟨W,hW,hF⟩:=di;refine⟨W,hW,fun k=>?_⟩;have hk:=hF k;by_cases eP:k=i
     ·subst eP;unfold upd at hk ⊢;rw[if_pos rfl] at hk ⊢;refine⟨hk.1,fun l hl=>?_⟩;have:=hk.2 l hl
      rwa [if_neg (fun e=>pJ (by rw[<-e];exact hl))] at this
     ·by_cases hkj:k=j
      ·subst hkj;unfold upd;rw[if_neg eP];exact lC k bV W
      ·unfold upd at hk ⊢;rw[if_neg eP,if_neg hkj] at hk;rw[if_neg eP];exact hk
    obtain⟨wY,okJ',uM⟩:=(yY p uS).2 j (ready_mono hj hji) oj dC;have okJ'':jm R P ops w0 H j oj a F wY:=(jm.move dh tC iP).1 okJ';have e:=okJ''.unique hc okJ;subst e;have hq:=uM q (by rw[Vi F _ _ (Ne.symm hji) iP pJ];exact di);rw[Array.setIfInBounds_comm _ _ (fun e=>hji e.symm),Act.put_comm a (hI.f p) (wY.f q) h2,Vi F _ _ (Ne.symm hji) iP pJ] at hq;exact hq
theorem XC {H:Nat->Option Qd} (hH:∀ i h,H i=some h->∀ p,qL R (h.φ p)) {Cl:Array Bool->Prop} {L:Array Bool} {ks:List Nat} {Q:Act->qT->Prop} (hs:Region.noSelect ops=true) (ah:∀ listed j,Cl listed->j∈Region.ready .any ops listed->Cl (listed.setIfInBounds j true)) (bI:∀ (listed:Array Bool) (j:Nat),Cl listed->j∈Region.ready .any ops listed->L.getD j true=false->∀ k,k∈ks->listed.getD k false=true):∀ (l:List (Nat×Oper)) (listed:Array Bool) (a:Act) (F:qT),Cl listed->(∀ x∈l,ops[x.1]?=some x.2/\x.1∈ks) ->
  ZQ ops L (l.map (·.1)) listed=true->(∀ k,qL R (F k))->YW R w0 F->(∀ j,listed.getD j true=false->∀ W,F j W)->jc R P ops w0 H Q l a F->VG R P ops w0 H L Q l.length listed a F
 | [],listed,a,F,_,_,hB,_,_,_,h=>⟨by simpa [ZQ] using hB,h⟩
 |(k,o) :: l,listed,a,F,wX,hl,hB,aH,hc,lC,h=>by
  obtain⟨h0,xK⟩:=hl (k,o) (List.mem_cons_self);simp only[List.map_cons,ZQ,Bool.and_eq_true] at hB;obtain⟨⟨hr,hf⟩,iR⟩:=hB;have xh:k∈Region.ready .any ops listed:=by simpa using hr
  have uY:=(mem_ready.1 xh).1;refine qcZ (A:=fun k=>k∈ks) hH h0 xK (Region.noSelect_spec hs) ah bI l.length listed a F wX (Region.free_spec h0 hf) xh aH hc lC ?_;obtain⟨hh,hok,hK⟩:=h;refine⟨hh,hok,fun p di=>?_⟩;refine XC hH hs ah bI l _ _ _ (ah _ _ wX xh) (fun x hx=>hl x (List.mem_cons_of_mem _ hx)) iR (ZV aH k o (hok.stable hH p)) di (fun j hj W=>?_) (hK p di);by_cases hjk:k=j
  ·subst hjk;have hlt:k<listed.size:=by
    rcases Nat.lt_or_ge k listed.size with h'|h'
    ·exact h'
    ·simp[Array.getElem?_eq_none h'] at uY
   simp[hlt] at hj
  ·rw[getD_set_ne true hjk] at hj;have:=lC j hj W;unfold upd;rw[if_neg (fun e=>hjk e.symm)];exact this
theorem qQ {l:List Oper} {Q:Exit->Act->World->Prop} {fuel:Nat} {listed:Array Bool} {a:Act} {w W:World} (R:Rel) (H:Nat->Option Qd) (M:List Bool) (t:Nat) (hs:Region.noSelect l.toArray=true) (ht:qhc l.toArray (za l.length (l.length-t)) ((qu 0 l M).map (·.1))=true) (dQ:XG l.toArray listed=true) (hB:ZQ l.toArray (za l.length (l.length-t)) ((qu 0 l M).map (·.1)) listed=true) (mf:GR l.toArray t (l.length-t) (za l.length (l.length-t))=true) (hfu:fuel=(qu 0 l M).length+t) (mi:(l.drop (l.length-t)).length=t) (hH:∀ i h,H i=some h->∀ p,qL R (h.φ p)) (hW:R.r w W) (h:∀ K:Act->qT->Prop,(∀ a' F',(∀ W,R.r w W->(∀ k,F' k W)->wpList P l.toArray Q (l.drop (l.length-t)) a' W)->K a' F')->jc R P l.toArray w H K (qu 0 l M) a (fun _ _=>True)):wpAny P .any l.toArray Q fuel listed a W:=by
 have h:=h _ (fun a' F' hh=>hh);subst hfu;have key:=XC (w0:=w) hH hs (fun _ _ h=>h.step) (TZ ht) (qu 0 l M) listed a (fun _ _=>True) (Vv dQ) (fun x hx=>by obtain⟨j,h1,h2⟩:=Vz l M 0 x hx;refine⟨?_,List.mem_map.2 ⟨x,hx,rfl⟩⟩;rw[h1,Nat.zero_add];simpa using h2) hB (fun _ _ _ _ _=>trivial) ⟨W,hW,fun _=>trivial⟩ (fun _ _ _=>trivial) h;refine kJ (w0:=w) hH (t:=t) (Q':=Q) (fun a F W hq hW hF=>?_) _ _ _ _ W (fun _ _ _ _ _=>trivial) hW (fun _=>trivial) key;have:=KY (l.drop (l.length-t)) (l.length-t) _ a W (fun j _=>by rw[List.getElem?_drop];simp) (by rw[mi];exact mf) (hq W hW hF)
 rwa [mi] at this
end
end
def qC (S:Sto):Nat->List It->List It
 |0,xs=>xs
 |h+1,xs=>xs.flatMap fun y=>match qt S y.r.toNat with
  |none=>[]
  |some (_,ys)=>qC S h ys
def Jn (next:Int) (y:It):Bool:=KG y && (decide (y.i≠0) && decide (y.i<next))
def Zy (next:Int):List Vol->List It->Option (List Vol)
 |vs,[]=>some vs
 |vs,y :: r=>if Jn next y=true/\vs.length≠16 then Zy next (vs++[Jq y]) r else none
theorem qaI (next:Int) (vs:List Vol) (y:It) (r:List It):Zy next vs (y :: r)=if Jn next y=true/\vs.length≠16 then Zy next (vs++[Jq y]) r else none:=rfl
theorem zy (S:Sto) (h:Nat) (xs:List It):qC S (h+1) xs=xs.flatMap fun y=>match qt S y.r.toNat with|none=>[]|some (_,ys)=>qC S h ys:=rfl
theorem vQ (next:Int):∀ (l m:List It) (vs:List Vol),Zy next vs (l++m)=(Zy next vs l).bind fun vs'=>Zy next vs' m
 | [],m,vs=>rfl
 |y :: r,m,vs=>by
  rw[List.cons_append,qaI,qaI];split
  ·exact vQ next r m _
  ·rfl
theorem kG (next:Int):∀ (l:List It) (vs vs':List Vol),vs.length<=16->Zy next vs l=some vs'->vs'.length<=16
 | [],vs,vs',h,e=>by cases e;exact h
 |y :: r,vs,vs',h,e=>by
  unfold Zy at e;split at e
  ·rename_i hc;exact kG next r _ vs' (by rw[List.length_append,List.length_singleton];have:=hc.2;omega) e
  ·cases e
theorem Uc (next:Int):∀ (l:List It) (vs:List Vol),vs.length<=16->Zy next vs l=if l.all (Jn next)=true/\vs.length+l.length<=16 then some (vs++l.map Jq) else none
 | [],vs,h=>by unfold Zy;rw[if_pos ⟨rfl,by simpa using h⟩];simp
 |y :: r,vs,h=>by
  unfold Zy;by_cases hg:Jn next y=true
  ·by_cases hl:vs.length=16
   ·rw[if_neg (fun x=>x.2 hl),if_neg (fun x=>by have:=x.2;simp at this;omega)]
   ·rw[if_pos ⟨hg,hl⟩,Uc next r _ (by rw[List.length_append,List.length_singleton];omega)];simp only[List.all_cons,hg,Bool.true_and,List.length_append,List.length_cons,List.length_nil,List.append_assoc,List.map_cons,List.cons_append,List.nil_append];by_cases h1:r.all (Jn next)=true/\vs.length+(0+1)+r.length<=16
    ·rw[if_pos h1,if_pos ⟨h1.1,zO⟩]
    ·rw[if_neg h1,if_neg (fun x=>h1 ⟨x.1,zO⟩)]
  ·rw[if_neg (fun x=>hg x.1),if_neg (fun x=>by have:=x.1;simp only[List.all_cons,Bool.and_eq_true] at this;exact hg this.1)]
theorem qib {S:Sto} {xs:List It} {k:Nat} (hk:k<xs.length):qC S 0 (xs.take (k+1))=qC S 0 (xs.take k)++[xs[k]]:=List.take_succ_eq_append_getElem hk
theorem qic {S:Sto} {h:Nat} {xs ys:List It} {lvl:Int} {k:Nat} (hk:k<xs.length) (hn:qt S xs[k].r.toNat=some (lvl,ys)):qC S (h+1) (xs.take (k+1))=qC S (h+1) (xs.take k)++qC S h ys:=by rw[List.take_succ_eq_append_getElem hk,zy,zy,List.flatMap_append];simp[hn]
theorem JS {S:Sto} (h:Nat):qC S h []=[]:=by cases h <;> rfl
theorem qgh {S:Sto} {h:Nat} {xs:List It} {k:Nat} (hk:k<=xs.length):∃ r,qC S h xs=qC S h (xs.take k)++r:=by
 cases h with
 |zero=>exact⟨xs.drop k,(List.take_append_drop k xs).symm⟩
 |succ h =>
  refine⟨qC S (h+1) (xs.drop k),?_⟩;have:=(List.take_append_drop k xs).symm
  conv=>lhs;rw[this]
  rw[zy,zy,zy,List.flatMap_append]
theorem qiQ {S:Sto} {h:Nat} {xs:List It} {k:Nat} {next:Int} {vs:List Vol} (hk:k<=xs.length) (hb:Zy next vs (qC S h (xs.take k))=none):Zy next vs (qC S h xs)=none:=by obtain⟨r,hr⟩:=qgh (S:=S) (h:=h) hk;rw[hr,vQ,hb];rfl
def je (vs:List Vol):List Value:=vs.flatMap fun v=>[.int .u32 v.id,.int .i64 v.root,.bool v.fz,.int .u32 v.frm]
theorem qfI (vs:List Vol) (v:Vol):je (vs++[v])=je vs++[.int .u32 v.id,.int .i64 v.root,.bool v.fz,.int .u32 v.frm]:=by simp[je]
structure VolI (p:CP) (w1 w:World) (vs:List Vol) (vv:Value) (ca:Array Value) (refs nodes:Nat->Nat):Prop where
 t:TrI p w1.heap.size w1 w vv ca refs nodes
 own:w.ownsRow w1.heap.size 36 4 vv vs.length (je vs)
structure YP (p:CP) (vv:Value) (w w':World):Prop where
 os:w'.os=w.os
 tape:w'.tape=w.tape
 output:w'.output=w.output
 size:w.heap.size<=w'.heap.size
 block:∀ k,k<w.heap.size->k≠p.cb->vv.ownBlock≠some k->w'.heap[k]?=w.heap[k]?
def kO (vv:Value) (n:Nat) (vv':Value):Prop:=vv'.ownBlock=vv.ownBlock\/∃ g,vv'.ownBlock=some g/\n<=g
def VolsQ (p:CP) (w1:World) (refs nodes:Nat->Nat) (next:Int) (vs:List Vol) (l:List It) (vv:Value) (w:World) (e:Ending) (w':World):Prop:=
 YP p vv w w'/\match Zy next vs l with
  |none=>e=.returned (.int .i64 8)
  |some vs'=>e=.returned (.int .i64 0)/\∃ vv' ca',VolI p w1 w' vs' vv' ca' refs nodes/\kO vv w.heap.size vv'
theorem YP.refl (p:CP) (vv:Value) (w:World):YP p vv w w:=⟨rfl,rfl,rfl,zM _,fun _ _ _ _=>rfl⟩
theorem YP.ext {p:CP} {vv:Value} {w w' w'':World} (h:YP p vv w w') (hx:Ext w' w''):YP p vv w w'':=
 ⟨hx.os.trans h.os,hx.tape.trans h.tape,hx.output.trans h.output,Nat.le_trans h.size hx.size,fun k h1 h2 h3=>(hx.block k (Nat.lt_of_lt_of_le h1 h.size)).trans (h.block k h1 h2 h3)⟩
theorem YP.trans {p:CP} {vv vv':Value} {w w' w'':World} (h:YP p vv w w') (h':YP p vv' w' w'') (hn:kO vv w.heap.size vv'):YP p vv w w'':=
 ⟨h'.os.trans h.os,h'.tape.trans h.tape,h'.output.trans h.output,Nat.le_trans h.size h'.size,fun k h1 h2 h3=>(h'.block k (Nat.lt_of_lt_of_le h1 h.size) h2 (fun e=>by
  rcases hn with x|⟨g,x,y⟩
  ·exact h3 (x ▸ e)
  ·rw[x] at e;cases e;omega)).trans (h.block k h1 h2 h3)⟩
theorem kO.refl (vv:Value) (n:Nat):kO vv n vv:=.inl rfl
theorem kO.trans {vv vv' vv'':Value} {n n':Nat} (h:kO vv n vv') (h':kO vv' n' vv'') (hn:n<=n'):kO vv n vv'':=by
 rcases h' with x|⟨g,x,y⟩
 ·rcases h with z|⟨g,z,y⟩
  ·exact .inl (x.trans z)
  ·exact .inr ⟨g,x.trans z,y⟩
 ·exact .inr ⟨g,x,zO⟩
theorem VolI.ext {p:CP} {w1 w w':World} {vs:List Vol} {vv:Value} {ca:Array Value} {refs nodes:Nat->Nat} (h:VolI p w1 w vs vv ca refs nodes) (hx:Ext w w'):VolI p w1 w' vs vv ca refs nodes:=⟨h.t.ext hx,zm h.own hx⟩
theorem TrI.setVol {p:CP} {B:Nat} {w1 wr:World} {vv:Value} {ca:Array Value} {refs nodes:Nat->Nat} (h:TrI p B w1 wr vv ca refs nodes) (vv':Value):TrI p B w1 (wr.setCell ⟨p.cb,518,none⟩ vv') vv' (ca.setIfInBounds 518 vv') refs nodes:=by
 have hs:=h.ar.size;refine⟨h.off.setCell (p:=⟨p.cb,518,none⟩) (.inl rfl) _,qi h.row _ _,⟨by simp[hs],fun a ha=>?_,fun a ha=>?_,?_⟩,fun i hi=>(qeU zO hi).trans (h.low i hi),h.lt⟩
 ·rw[Array.getElem?_setIfInBounds,if_neg zO,h.ar.ref a ha]
 ·rw[Array.getElem?_setIfInBounds,if_neg zO,h.ar.node a ha]
 ·rw[Array.getElem?_setIfInBounds,if_pos rfl,if_pos zO]
theorem YP.grown {p:CP} {vv0 vv:Value} {w w' w'':World} (h:YP p vv0 w w') (hn:kO vv0 w.heap.size vv) (hg:w'.grownBy w'' vv.ownBlock):YP p vv0 w w'':=
 ⟨hg.os.trans h.os,hg.tape.trans h.tape,hg.output.trans h.output,Nat.le_trans h.size hg.size,fun k h1 h2 h3=>(hg.block k (Nat.lt_of_lt_of_le h1 h.size) (fun e=>by
  rcases hn with x|⟨g,x,y⟩
  ·exact h3 (x ▸ e.symm)
  ·rw[x] at e;cases e;omega)).trans (h.block k h1 h2 h3)⟩
theorem YP.setC {p:CP} {vv0 u:Value} {w w':World} {i:Nat} (h:YP p vv0 w w'):YP p vv0 w (w'.setCell ⟨p.cb,i,none⟩ u):=
 ⟨h.os,h.tape,h.output,by simpa using h.size,fun k h1 h2 h3=>(zJ _ _ _ _ (fun e=>h2 e)).trans (h.block k h1 h2 h3)⟩
abbrev qF (s1 s2 s3 s4:Value) (gen root next:Int) (dead:Value):Array Value:=#[s1,s2,s3,s4,.int .u32 gen,.int .i64 root,.int .u32 next,dead]
def VolsC (p:CP) (w1:World) (f:Int->Option Value) (refs nodes:Nat->Nat) (s1 s2 s3 s4:Value) (gen root next:Int) (dead:Value) (h:Nat):Prop:=
 ∀ (xs:List It) (A:OA) (c:Nat) (vs:List Vol) (vv:Value) (ca:Array Value) (w:World),VolI p w1 w vs vv ca refs nodes->vs.length<=16->(∀ x∈xs,zu x)->xs.length<=5->ZL p.lo w1 (.slice A xs.length c) xs ->
  (qD p.S h xs).isSome=true->(0<h->∀ y∈xs,(f y.r).isSome=true) ->
  Calls prog 111 #[.pointer (some ⟨p.cb,0,none⟩),.agg (qF s1 s2 s3 s4 gen root next dead),jP h A xs.length c] w (VolsQ p w1 refs nodes next vs (qC p.S h xs) vv w)
theorem XL (a b:K3):qP a b=true↔(a.1<b.1\/(a.1=b.1/\(a.2.1<b.2.1\/(a.2.1=b.2.1/\a.2.2<b.2.2)))):=by simp[qP,Jv]
theorem KJ (a b:K3):qP a b=false↔¬(a.1<b.1\/(a.1=b.1/\(a.2.1<b.2.1\/(a.2.1=b.2.1/\a.2.2<b.2.2)))):=by rw[<-Bool.not_eq_true,XL]
def leK (a b:K3):Prop:=qP b a=false
theorem Uy (a:K3):leK a a:=by unfold leK;rw[KJ];omega
theorem Gy {a b c:K3} (h:leK a b) (h':qP b c=true):qP a c=true:=by unfold leK at h;rw[KJ] at h;rw[XL] at *;omega
theorem Xm {a b c:K3} (h:qP a b=true) (h':leK b c):qP a c=true:=by unfold leK at h';rw[KJ] at h';rw[XL] at *;omega
theorem VK {a b:K3} (h:qP a b=true):leK a b:=by unfold leK;rw[KJ];rw[XL] at h;omega
theorem Jy {a b c:K3} (h:qP a b=true) (h':qP b c=true):qP a c=true:=Xm h (VK h')
theorem Yr (a:K3):qP a a=false:=Uy a
theorem qeu {a b:K3} (h:leK a b) (h':leK b a):a=b:=by obtain⟨a1,a2,a3⟩:=a;obtain⟨b1,b2,b3⟩:=b;unfold leK at *;rw[KJ] at *;simp only[Prod.mk.injEq] at *;omega
structure Srt (f l:K3) (ys:List It):Prop where
 ord:ys.Pairwise fun a b=>qP (qo a) (qo b)=true
 low:∀ x∈ys,leK f (qo x)
 high:∀ x∈ys,leK (qo x) l
 le:leK f l
theorem Srt.append {f l f' l':K3} {ys zs:List It} (h:Srt f l ys) (h':Srt f' l' zs) (hl:qP l f'=true):Srt f l' (ys++zs):=
 ⟨List.pairwise_append.2 ⟨h.ord,h'.ord,fun a ha b hb=>Gy (h.high a ha) (Xm hl (h'.low b hb))⟩,
  fun x hx=>(List.mem_append.1 hx).elim (h.low x) fun hx=>VK (Gy h.le (Xm hl (h'.low x hx))),
  fun x hx=>(List.mem_append.1 hx).elim (fun hx=>VK (Gy (h.high x hx) (Xm hl h'.le))) (h'.high x),
  VK (Gy h.le (Xm hl h'.le))⟩
theorem Srt.one (x:It) {l:K3} (h:leK (qo x) l):Srt (qo x) l [x]:=
 ⟨List.pairwise_singleton _ _,fun y hy=>by rw[List.mem_singleton.1 hy];exact Uy _,fun y hy=>by rw[List.mem_singleton.1 hy];exact h,h⟩
theorem Qm {S:Sto}:∀ (h:Nat) (xs ys:List It),qC S h (xs++ys)=qC S h xs++qC S h ys
 |0,_,_=>rfl
 |h+1,xs,ys=>by rw[zy,zy,zy,List.flatMap_append]
theorem Tp (S:Sto) (h:Nat) (H1:∀ y f l,jB S h y=some (f,l)->Srt f l (qC S h [y])) (xs:List It):∀ (k:Nat) (_:k<=xs.length) (p:K3×K3),qD S h (xs.take k)=some (some p)->Srt p.1 p.2 (qC S h (xs.take k))/\Srt p.1 p.2 (xs.take k):=by
 intro k;induction k with
 |zero=>intro _ p e;rw[List.take_zero] at e;cases e
 |succ k ih =>
  intro hk p e;have hlt:k<xs.length:=hk;rw[Jk hlt] at e;unfold jR at e;rw[List.take_succ_eq_append_getElem hlt,Qm];rcases hO:jB S h xs[k] with _|⟨f,l⟩
  ·rw[hO] at e;rcases hA:qD S h (xs.take k) with _|a
   ·rw[hA] at e;cases e
   ·rw[hA] at e;cases e
  ·have h1:=H1 _ _ _ hO;rw[hO] at e;rcases hA:qD S h (xs.take k) with _|_|q
   ·rw[hA] at e;cases e
   ·obtain rfl:k=0:=by
     rcases Nat.eq_zero_or_pos k with h0|h0
     ·exact h0
     ·exact absurd hA (Zj h0 zO)
    rw[hA] at e;simp only at e;split at e
    ·rename_i hf;cases e;subst hf;rw[List.take_zero,JS];exact⟨h1,Srt.one _ h1.le⟩
    ·cases e
   ·obtain⟨i1,i2⟩:=ih zO q hA;rw[hA] at e;simp only at e;split at e
    ·rename_i hf;split at e
     ·rename_i hl;cases e;subst hf;exact⟨i1.append h1 hl,i2.append (Srt.one _ h1.le) hl⟩
     ·cases e
    ·cases e
theorem qeC (S:Sto):∀ (h:Nat) (y:It) (f l:K3),jB S h y=some (f,l)->Srt f l (qC S h [y])
 |0,y,f,l,e=>by
  unfold jB at e;split at e
  ·cases e;exact Srt.one y (Uy _)
  ·cases e
 |h+1,y,f,l,e=>by
  rw[VM] at e;unfold Vn at e;split at e
  ·rcases hn:qt S y.r.toNat with _|⟨lvl,xs⟩
   ·rw[hn] at e;cases e
   ·rw[hn] at e;simp only at e;split at e
    ·rcases hs:qD S h xs with _|_|q
     ·rw[hs] at e;cases e
     ·rw[hs] at e;cases e
     ·rw[hs] at e;cases e;have:=(Tp S h (qeC S h) xs xs.length (zM _) _ (by rw[List.take_length];exact hs)).1;rw[List.take_length] at this;rw[zy];simp only[List.flatMap_cons,List.flatMap_nil,List.append_nil,hn];exact this
    ·cases e
  ·cases e
theorem Gc {S:Sto} {h:Nat} {xs:List It} {p:K3×K3} (hs:qD S h xs=some (some p)):Srt p.1 p.2 (qC S h xs)/\Srt p.1 p.2 xs:=by
 have:=Tp S h (qeC S h) xs xs.length (zM _) p (by rw[List.take_length];exact hs)
 rwa [List.take_length] at this
theorem Vg {S:Sto} {h:Nat} {xs:List It} (hs:(qD S h xs).isSome=true):(qC S h xs).Pairwise (fun a b=>qP (qo a) (qo b)=true)/\xs.Pairwise (fun a b=>qP (qo a) (qo b)=true):=by
 rcases hq:qD S h xs with _|_|p
 ·rw[hq] at hs;cases hs
 ·rcases Nat.eq_zero_or_pos xs.length with h0|h0
  ·obtain rfl:=List.eq_nil_of_length_eq_zero h0;rw[JS];exact⟨List.Pairwise.nil,List.Pairwise.nil⟩
  ·exact absurd (by rw[List.take_length];exact hq) (Zj (S:=S) (h:=h) h0 (zM xs.length))
 ·exact⟨(Gc hq).1.ord,(Gc hq).2.ord⟩
theorem Yv {xs:List It} (h:xs.Pairwise fun a b=>qP (qo a) (qo b)=true) {i j:Nat} (hij:i<j) (hj:j<xs.length):qP (qo (xs[i]'(by omega))) (qo xs[j])=true:=List.pairwise_iff_getElem.1 h i j _ hj hij
theorem vw {S:Sto} {h:Nat} {xs:List It} (hs:(qD S h xs).isSome=true) (k:Nat):(qD S h (xs.take k)).isSome=true:=by
 rcases hq:qD S h (xs.take k) with _|q
 ·rw[qdV hq] at hs;cases hs
 ·rfl
theorem qkJ {S:Sto} {h:Nat} {xs:List It} (hs:(qD S h xs).isSome=true) {i:Nat} (hi:i+1<xs.length) {k:K3} (hk:qP k (qo xs[i+1])=false):∀ x∈qC S h [xs[i]],qP (qo x) k=true:=by
 intro x hx;have h2:=vw hs (i+1+1);rw[Jk hi] at h2;unfold jR at h2;rcases hA:qD S h (xs.take (i+1)) with _|_|q
 ·rw[hA] at h2;cases h2
 ·exact absurd hA (Zj zO zO)
 ·have hm:=(Gc hA).1.high x (by rw[List.take_succ_eq_append_getElem zO,Qm];exact List.mem_append_right _ hx);rw[hA] at h2;rcases hO:jB S h xs[i+1] with _|⟨f,l⟩
  ·rw[hO] at h2;cases h2
  ·rw[hO] at h2;simp only at h2;split at h2
   ·rename_i hf;split at h2
    ·rename_i hl;rw[hf] at hl;exact Gy hm (Xm hl hk)
    ·cases h2
   ·cases h2
def QT (S:Sto) (h:Nat) (from_:K3) (xs:List It):List It:=(qC S h xs).filter fun x=>!qP (qo x) from_
theorem qaj {S:Sto} {h:Nat} {k:K3} (xs ys:List It):QT S h k (xs++ys)=QT S h k xs++QT S h k ys:=by unfold QT;rw[Qm,List.filter_append]
theorem qkq {S:Sto} {h:Nat} {xs:List It} (hs:(qD S h xs).isSome=true) {i:Nat} (hi:i+1<xs.length) {k:K3} (hk:qP k (qo xs[i+1])=false):QT S h k [xs[i]]=[]:=by unfold QT;rw[List.filter_eq_nil_iff];intro x hx;simp[qkJ hs hi hk x hx]
def vV (S:Sto) (h:Nat) (a b:K3) (xs:List It):List It:=(qC S h xs).filter fun x=>!qP (qo x) a && !qP b (qo x)
theorem qbn (S:Sto) (h:Nat) (a b:K3) (xs:List It):vV S h a b xs=(QT S h a xs).filter fun x=>!qP b (qo x):=by unfold vV QT;rw[List.filter_filter];congr 1;funext x;rw[Bool.and_comm]
theorem from_ord {S:Sto} {h:Nat} {xs:List It} {k:K3} (hs:(qD S h xs).isSome=true):(QT S h k xs).Pairwise fun a b=>qP (qo a) (qo b)=true:=(Vg hs).1.sublist List.filter_sublist
theorem qfA {S:Sto} {h:Nat} {a b:K3} {xs:List It} (hb:∀ x∈QT S h a xs,qP b (qo x)=false):vV S h a b xs=QT S h a xs:=by rw[qbn,List.filter_eq_self];intro x hx;simp[hb x hx]
theorem qem {S:Sto} {h:Nat} {a b:K3} {xs pre rest:List It} {x:It} (hs:(qD S h xs).isSome=true) (he:QT S h a xs=pre++x :: rest) (hp:∀ y∈pre,qP b (qo y)=false) (hx:qP b (qo x)=true):vV S h a b xs=pre:=by
 have ho:=from_ord (k:=a) hs;rw[he] at ho;obtain⟨-,o2,-⟩:=List.pairwise_append.1 ho;rw[List.pairwise_cons] at o2;rw[qbn,he,List.filter_append];have e1:pre.filter (fun x=>!qP b (qo x))=pre:=by rw[List.filter_eq_self];intro y hy;simp[hp y hy]
 have e2:(x :: rest).filter (fun x=>!qP b (qo x))=[]:=by
  rw[List.filter_eq_nil_iff];intro y hy;rcases List.mem_cons.1 hy with rfl|hy
  ·simp[hx]
  ·simp[Jy hx (o2.1 y hy)]
 rw[e1,e2,List.append_nil]
def qA (xs:List It) (k:K3):Nat:=(xs.filter fun x=>qP (qo x) k).length
theorem JB (xs:List It) (k:K3):qA xs k<=xs.length:=List.length_filter_le _ _
theorem qix {xs:List It} {k:K3} {i:Nat} (h:i<xs.length):qA (xs.take (i+1)) k=qA (xs.take i) k+(if qP (qo xs[i]) k=true then 1 else 0):=by
 unfold qA;rw[List.take_succ_eq_append_getElem h,List.filter_append,List.length_append];congr 1;by_cases hl:qP (qo xs[i]) k=true
 ·rw[if_pos hl];simp[hl]
 ·rw[if_neg hl];simp[hl]
theorem JA:∀ {xs:List It} {k:K3},xs.Pairwise (fun a b=>qP (qo a) (qo b)=true)->∀ i (h:i<xs.length),(qP (qo xs[i]) k=true↔i<qA xs k)
 | [],_,_,i,h=>absurd h (Nat.not_lt_zero _)
 |x :: r,k,ho,i,h=>by
  rw[List.pairwise_cons] at ho;by_cases hx:qP (qo x) k=true
  ·have e:qA (x :: r) k=qA r k+1:=by simp[qA,hx]
   cases i with
   |zero=>simp[hx,e]
   |succ i=>rw[e];have:=JA (k:=k) ho.2 i (by simpa using h);simpa using this
  ·have ay:∀ y∈r,qP (qo y) k=false:=fun y hy=>by
    rcases hz:qP (qo y) k with _|_
    ·rfl
    ·exact absurd (Jy (ho.1 y hy) hz) hx
   have e:qA (x :: r) k=0:=by
    unfold qA;have:r.filter (fun x=>qP (qo x) k)=[]:=by rw[List.filter_eq_nil_iff];intro y hy;simp[ay y hy]
    simp[hx,this]
   rw[e];cases i with
   |zero=>simp[hx]
   |succ i =>
    have hi:i<r.length:=by simpa using h
    simp[ay r[i] (List.getElem_mem hi)]
theorem qcf {p:It->Bool} {xs:List It} {i:Nat} (h:i<xs.length) (hp:p xs[i]=true) (hn:∀ j (hj:j<xs.length),i<j->p xs[j]=false):xs.reverse.find? p=some xs[i]:=by
 have e:xs=xs.take i++xs[i] :: xs.drop (i+1):=by rw[<-List.drop_eq_getElem_cons h,List.take_append_drop]
 have e2:xs.reverse=(xs.drop (i+1)).reverse++xs[i] :: (xs.take i).reverse:=by
  conv=>lhs;rw[e]
  simp
 rw[e2,List.find?_append];have e3:(xs.drop (i+1)).reverse.find? p=none:=by rw[List.find?_eq_none];intro y hy;rw[List.mem_reverse] at hy;obtain⟨j,hj,rfl⟩:=List.mem_iff_getElem.1 hy;rw[List.length_drop] at hj;rw[List.getElem_drop];simp[hn (i+1+j) zO zO]
 rw[e3,List.find?_cons_of_pos hp];rfl
theorem qgS {p:It->Bool} {xs:List It} (hn:∀ j (hj:j<xs.length),p xs[j]=false):xs.reverse.find? p=none:=by rw[List.find?_eq_none];intro y hy;rw[List.mem_reverse] at hy;obtain⟨j,hj,rfl⟩:=List.mem_iff_getElem.1 hy;simp[hn j hj]
def Ul (xs:List It) (k:K3):Option It:=xs.reverse.find? fun x=>!qP k (qo x)
def leafS (xs:List It) (k:K3):Option It:=xs.reverse.find? fun x=>decide (qo x=k)
def UK (S:Sto) (k:K3):Nat->List It->Option It
 |0,xs=>leafS xs k
 |h+1,xs=>match Ul xs k with
  |none=>none
  |some y=>match qt S y.r.toNat with
   |none=>none
   |some (_,ys)=>UK S k h ys
theorem qgB (S:Sto) (k:K3) (xs:List It):UK S k 0 xs=leafS xs k:=rfl
theorem one_down {S:Sto} {k:K3} {h:Nat} {xs ys:List It} {y:It} {lvl:Int} (hd:Ul xs k=some y) (hn:qt S y.r.toNat=some (lvl,ys)):UK S k (h+1) xs=UK S k h ys:=by show (match Ul xs k with|none=>none|some y=>match qt S y.r.toNat with|none=>none|some (_,ys)=>UK S k h ys)=_;rw[hd];simp only;rw[hn]
theorem one_none {S:Sto} {k:K3} {h:Nat} {xs:List It} (hd:Ul xs k=none):UK S k (h+1) xs=none:=by show (match Ul xs k with|none=>none|some y=>match qt S y.r.toNat with|none=>none|some (_,ys)=>UK S k h ys)=_;rw[hd]
section
variable {xs:List It} {k:K3} (ho:xs.Pairwise fun a b=>qP (qo a) (qo b)=true)
include ho
theorem leaf_is (hp:qA xs k<xs.length) (he:qo (xs[qA xs k]'hp)=k):leafS xs k=some xs[qA xs k]:=by refine qcf hp (by simp[he]) fun j hj hlt=>?_;have:=Yv ho hlt hj;rw[he] at this;rw[decide_eq_false_iff_not];intro h;rw[h,Yr] at this;cases this
theorem leaf_no (hn:∀ hp:qA xs k<xs.length,qo (xs[qA xs k]'hp)≠k):leafS xs k=none:=by
 refine qgS fun j hj=>?_;rw[decide_eq_false_iff_not];intro h;have h1:¬j<qA xs k:=fun hl=>by have:=(JA (k:=k) ho j hj).2 hl;rw[h,Yr] at this;cases this
 have h2:¬qA xs k<j:=fun hl=>by have h3:=Yv ho hl hj;rw[h] at h3;exact absurd ((JA (k:=k) ho _ zO).1 h3) (Nat.lt_irrefl _)
 have h4:qA xs k=j:=zO;subst h4;exact hn hj h
theorem down_is (hp:qA xs k<xs.length) (he:qo (xs[qA xs k]'hp)=k):Ul xs k=some xs[qA xs k]:=by refine qcf hp (by simp[he,Yr]) fun j hj hlt=>?_;have:=Yv ho hlt hj;rw[he] at this;simp[this]
theorem down_no (h0:qA xs k=0) (hn:∀ hp:qA xs k<xs.length,qo (xs[qA xs k]'hp)≠k):Ul xs k=none:=by
 refine qgS fun j hj=>?_;have h1:qP (qo xs[j]) k=false:=by
  rcases hz:qP (qo xs[j]) k with _|_
  ·rfl
  ·have:=(JA ho j hj).1 hz;omega
 rcases hz:qP k (qo xs[j]) with _|_
 ·have he:qo xs[j]=k:=qeu hz h1;rcases Nat.eq_zero_or_pos j with hj0|hj0
  ·subst hj0;exact absurd (by simpa [h0] using he) (hn zO)
  ·have h3:=Yv ho (i:=0) hj0 hj;rw[he] at h3;have:=(JA ho 0 zO).1 h3;omega
 ·simp
theorem qfT (h0:0<qA xs k) (hn:∀ hp:qA xs k<xs.length,qo (xs[qA xs k]'hp)≠k):Ul xs k=some (xs[qA xs k-1]'(by have:=JB xs k;omega)):=by
 have hle:=JB xs k;refine qcf zO ?_ fun j hj hlt=>?_
 ·have:=(JA (k:=k) ho (qA xs k-1) zO).2 zO;have h2:qP k (qo (xs[qA xs k-1]'(by omega)))=false:=VK this;simp[h2]
 ·have h1:qP (qo xs[j]) k=false:=by
   rcases hz:qP (qo xs[j]) k with _|_
   ·rfl
   ·have:=(JA ho j hj).1 hz;omega
  rcases hz:qP k (qo xs[j]) with _|_
  ·have he:qo xs[j]=k:=qeu hz h1;by_cases hjp:qA xs k=j
   ·subst hjp;exact absurd he (hn hj)
   ·have h3:=Yv ho (show qA xs k<j by omega) hj;rw[he] at h3;have:=(JA ho _ zO).1 h3;omega
  ·simp
end
theorem qkw {S:Sto}:∀ {h:Nat} {xs:List It} {x:It},x∈qC S h xs->∃ (j:Nat) (hj:j<xs.length),x∈qC S h [xs[j]]
 |0,xs,x,hx=>by obtain⟨j,hj,rfl⟩:=List.mem_iff_getElem.1 hx;exact⟨j,hj,List.mem_singleton.2 rfl⟩
 |h+1,xs,x,hx=>by rw[zy] at hx;obtain⟨y,hy,hx⟩:=List.mem_flatMap.1 hx;obtain⟨j,hj,rfl⟩:=List.mem_iff_getElem.1 hy;exact⟨j,hj,by rw[zy];exact List.mem_flatMap.2 ⟨_,List.mem_singleton.2 rfl,hx⟩⟩
theorem one_low {S:Sto} {h:Nat} {xs:List It} (hs:(qD S h xs).isSome=true) {j:Nat} (hj:j<xs.length) {x:It} (hx:x∈qC S h [xs[j]]):leK (qo xs[j]) (qo x):=by
 have h2:=vw hs (j+1);rw[Jk hj] at h2;unfold jR at h2;rcases hA:qD S h (xs.take j) with _|a
 ·rw[hA] at h2;cases h2
 ·rcases hO:jB S h xs[j] with _|⟨f,l⟩
  ·rw[hA,hO] at h2;cases h2
  ·rw[hA,hO] at h2;simp only at h2;split at h2
   ·rename_i hf;subst hf;exact(qeC S h _ _ _ hO).low x hx
   ·cases h2
theorem items_lt {S:Sto} {h:Nat} {xs:List It} (hs:(qD S h xs).isSome=true) {i:Nat} (hi:i<xs.length) {x:It} (hx:x∈qC S h (xs.take i)):qP (qo x) (qo xs[i])=true:=by
 rcases Nat.eq_zero_or_pos i with h0|h0
 ·subst h0;rw[List.take_zero,JS] at hx;cases hx
 ·obtain⟨j,rfl⟩:∃ j,i=j+1:=⟨i-1,zO⟩
  have h2:=vw hs (j+1+1);rw[Jk hi] at h2;unfold jR at h2;rcases hA:qD S h (xs.take (j+1)) with _|_|q
  ·rw[hA] at h2;cases h2
  ·exact absurd hA (Zj zO zO)
  ·have hm:=(Gc hA).1.high x hx;rw[hA] at h2;rcases hO:jB S h xs[j+1] with _|⟨f,l⟩
   ·rw[hO] at h2;cases h2
   ·rw[hO] at h2;simp only at h2;split at h2
    ·rename_i hf;split at h2
     ·rename_i hl;rw[hf] at hl;exact Gy hm hl
     ·cases h2
    ·cases h2
def qbk (f l:K3) (ys:List It):Prop:=(∃ a r,ys=a :: r/\qo a=f)/\∃ r b,ys=r++[b]/\qo b=l
theorem qbk.one (x:It):qbk (qo x) (qo x) [x]:=⟨⟨x,[],rfl,rfl⟩,[],x,rfl,rfl⟩
theorem qbk.append {f l f' l':K3} {ys zs:List It} (h:qbk f l ys) (h':qbk f' l' zs):qbk f l' (ys++zs):=by obtain⟨⟨a,r,rfl,ha⟩,-⟩:=h;obtain⟨-,r',b,rfl,hb⟩:=h';exact⟨⟨a,_,rfl,ha⟩,(a :: r)++r',b,zA2,hb⟩
theorem XV {one:It->Option (K3×K3)} {acc:Option (Option (K3×K3))} {y:It} {q:Option (K3×K3)} (h:jR one acc y=some q) : ∃ l,one y=some (qo y,l)/\((acc=some none/\q=some (qo y,l))\/∃ f l0,acc=some (some (f,l0))/\qP l0 (qo y)=true/\q=some (f,l)):=by
 unfold jR at h;split at h
 ·cases h
 ·split at h
  ·cases h
  ·rename_i f l ho;split at h
   ·rename_i hf;subst hf;refine⟨l,ho,?_⟩;split at h
    ·cases h;exact .inl ⟨rfl,rfl⟩
    ·rename_i f0 l0;split at h
     ·rename_i hl;cases h;exact .inr ⟨f0,l0,rfl,hl,rfl⟩
     ·cases h
   ·cases h
theorem kA (S:Sto) (h:Nat) (xs:List It) (y:It):qD S h (xs++[y])=jR (jB S h) (qD S h xs) y:=by unfold qD;rw[List.foldl_append];rfl
theorem Gb (xs:List It):xs=[]\/∃ r y,xs=r++[y]:=by
 rcases List.eq_nil_or_concat xs with h|⟨r,y,h⟩
 ·exact .inl h
 ·exact .inr ⟨r,y,by rw[h,List.concat_eq_append]⟩
section
variable {S:Sto} {h:Nat}
theorem YD (H1:∀ y f l,jB S h y=some (f,l)->qbk f l (qC S h [y])):∀ (n:Nat) (xs:List It),xs.length=n->∀ f l,qD S h xs=some (some (f,l))->qbk f l (qC S h xs)
 |0,xs,hn,f,l,e=>by obtain rfl:=List.eq_nil_of_length_eq_zero hn;cases e
 |n+1,xs,hn,f,l,e=>by
  rcases Gb xs with rfl|⟨r,y,rfl⟩
  ·simp at hn
  ·rw[kA] at e;obtain⟨ly,ho,⟨hCZ,hq⟩|⟨f0,l0,hCZ,hl,hq⟩⟩:=XV e
   ·have hr:r=[]:=by
     rcases Gb r with rfl|⟨r',y',rfl⟩
     ·rfl
     ·exfalso;rw[kA] at hCZ;obtain⟨_,_,⟨_,e2⟩|⟨_,_,_,_,e2⟩⟩:=XV hCZ <;> cases e2
    subst hr;cases hq;exact H1 _ _ _ ho
   ·cases hq;have hr:=YD H1 n r (by simpa using hn) f l0 hCZ;rw[Qm];exact hr.append (H1 _ _ _ ho)
end
theorem UL (S:Sto):∀ (h:Nat) (y:It) (f l:K3),jB S h y=some (f,l)->qbk f l (qC S h [y])
 |0,y,f,l,e=>by
  unfold jB at e;split at e
  ·cases e;exact qbk.one y
  ·cases e
 |h+1,y,f,l,e=>by
  unfold jB at e;split at e
  ·split at e
   ·cases e
   ·rename_i lvl xs hn;split at e
    ·have e':(qD S h xs).getD none=some (f,l):=e;have hs:qD S h xs=some (some (f,l)):=by
      rcases hq:qD S h xs with _|q
      ·rw[hq] at e';cases e'
      ·rw[hq] at e';exact congrArg some e'
     have:=YD (UL S h) _ xs rfl f l hs;simp only[qC,List.flatMap_cons,List.flatMap_nil,List.append_nil,hn];exact this
    ·cases e
  ·cases e
theorem qdX {S:Sto} {h:Nat} {xs:List It} {f l:K3} (e:qD S h xs=some (some (f,l))):qbk f l (qC S h xs):=YD (UL S h) _ xs rfl f l e
def Ki (S:Sto) (h:Nat) (xs:List It):Prop:=∀ y∈xs,∃ l,jB S h y=some (qo y,l)
theorem qdW {S:Sto} {h:Nat}:∀ (n:Nat) (xs:List It),xs.length=n->(qD S h xs).isSome=true->Ki S h xs
 |0,xs,hn,_=>by obtain rfl:=List.eq_nil_of_length_eq_zero hn;intro y hy;cases hy
 |n+1,xs,hn,e=>by
  rcases Gb xs with rfl|⟨r,y,rfl⟩
  ·simp at hn
  ·obtain⟨q,e⟩:=Option.isSome_iff_exists.1 e;rw[kA] at e;obtain⟨l,ho,ha⟩:=XV e;have hr:(qD S h r).isSome=true:=by rcases ha with ⟨ha,_⟩|⟨_,_,ha,_⟩ <;> rw[ha] <;> rfl
   intro z hz;rcases List.mem_append.1 hz with hz|hz
   ·exact qdW n r (by simpa using hn) hr z hz
   ·rw[List.mem_singleton.1 hz];exact⟨l,ho⟩
theorem qjQ {S:Sto} {h:Nat}:∀ (n:Nat) (xs:List It),xs.length=n->Ki S h xs->(qC S h xs).Pairwise (fun a b=>qP (qo a) (qo b)=true)->(qD S h xs).isSome=true
 |0,xs,hn,_,_=>by obtain rfl:=List.eq_nil_of_length_eq_zero hn;rfl
 |n+1,xs,hn,he,hp=>by
  rcases Gb xs with rfl|⟨r,y,rfl⟩
  ·simp at hn
  ·rw[Qm] at hp;obtain⟨yL,-,hp3⟩:=List.pairwise_append.1 hp;have hr:=qjQ n r (by simpa using hn) (fun z hz=>he z (List.mem_append_left _ hz)) yL;obtain⟨l,ho⟩:=he y zA2;obtain⟨q,hq⟩:=Option.isSome_iff_exists.1 hr;rw[kA,hq];unfold jR;rw[ho];simp only[if_true];rcases q with _|⟨f0,l0⟩
   ·rfl
   ·obtain⟨-,r1,b,e1,hb⟩:=qdX hq;obtain⟨⟨a,r2,e2,ha⟩,-⟩:=UL S h y _ _ ho;have hl:qP l0 (qo y)=true:=by rw[<-hb,<-ha];exact hp3 b (by rw[e1];simp) a (by rw[e2];simp)
    simp only[hl,if_true];rfl
theorem Zf {S:Sto} {h:Nat} {xs:List It}:(qD S h xs).isSome=true↔Ki S h xs/\(qC S h xs).Pairwise (fun a b=>qP (qo a) (qo b)=true):=
 ⟨fun e=>⟨qdW _ xs rfl e,(Vg e).1⟩,fun e=>qjQ _ xs rfl e.1 e.2⟩
theorem UZ (w:World) (g:Nat) (cs:Array Value):w.grownBy (w.setRow g cs) (some g):=
 ⟨rfl,rfl,rfl,zA2,fun k _ hk=>setRow_other w g k _ (fun e=>hk (by simp[e]))⟩
theorem UV {P:Program} (W:World) {B:Nat} (dT sT ty elem:TypeId) (g o dLen dCap:Nat) (A c) (l:List UInt8) (cur:Array Value) (t:TypeId) (hu:P.underlying dT=some (.slice elem)) (hs:(P.info? elem).map (·.size)=some 1) (hg:W.heap[g]?=some (.cells cur t (0,0))) (h:Bys W B (.slice A l.length c) l) (hd:l.length<=dLen) (iC:o+l.length<=cur.size) : (Builtin.copy_ #[dT,sT] ty #[.slice (some ⟨g,o,none⟩) dLen dCap,.slice A l.length c]).run P W=.ok (.int .i64 (l.length:Int)) (W.setRow g (cur.toList.take o++l.map bv++cur.toList.drop (o+l.length)).toArray):=by
 obtain⟨A',c',e,hc,hm,hr⟩:=h;simp only[Value.slice.injEq,true_and] at e;obtain⟨rfl,rfl⟩:=e;rcases A with _|ad
 ·have h0:l.length=0:=by
   rcases Nat.eq_zero_or_pos l.length with h0|h0
   ·exact h0
   ·obtain⟨b,off,h,_⟩:=hr.2 h0;cases h
  obtain rfl:l=[]:=List.eq_nil_of_length_eq_zero h0;cases hq:P.info? elem with
  |none=>simp[hq] at hs
  |some i =>
   simp[Builtin.copy_,run_underlying hu,Builtin.lenOf,Builtin.firstCells,sizeOf,typeInfo,hq,storeCells];rw[setRow_self W g cur t (0,0) hg];exact⟨rfl,rfl⟩
 ·have iW:∀ j v,(l.map bv)[j]?=some v->W.cell? (ad.add j)=some v:=by
   intro j v hv;rcases Nat.eq_zero_or_pos l.length with h0|h0
   ·obtain rfl:l=[]:=List.eq_nil_of_length_eq_zero h0;simp at hv
   ·obtain⟨b,off,h,_⟩:=hr.2 h0;cases h;exact hr.adds h0 j v hv
  have:=run_copy_row P W dT sT ty elem g o dLen dCap ad l.length c cur t (l.map bv) hu hs hg (by simp[Nat.min_eq_left hd]) iW (by simpa using iC) (Uf l);rw[List.length_map] at this;exact this
def jg (cur:Array Value) (o:Nat) (l:List UInt8):Array Value:=(cur.toList.take o++l.map bv++cur.toList.drop (o+l.length)).toArray
theorem qap {cur:Array Value} {o:Nat} {l:List UInt8} (h:o+l.length<=cur.size):(jg cur o l).size=cur.size:=by simp[jg];omega
theorem qig {cur:Array Value} {o:Nat} {l:List UInt8} {j:Nat} (h:o+l.length<=cur.size) (hj:j<o\/o+l.length<=j):(jg cur o l)[j]?=cur[j]?:=by
 unfold jg;rw[List.getElem?_toArray];have ah:cur.toList.length=cur.size:=zA2;rcases hj with hj|hj
 ·rw[List.append_assoc,List.getElem?_append_left (by rw[List.length_take];omega),List.getElem?_take,if_pos hj];simp
 ·rw[List.getElem?_append_right (by rw[List.length_append,List.length_take,List.length_map];omega),List.getElem?_drop,List.length_append,List.length_take,List.length_map,ah];rw[show o+l.length+(j-(min o cur.size+l.length))=j by omega];simp
theorem qif {cur:Array Value} {o:Nat} {l:List UInt8} {j:Nat} {u:Value} (h:o+l.length<=cur.size) (hu:(l.map bv)[j]?=some u):(jg cur o l)[o+j]?=some u:=by
 have hj:j<l.length:=by have:=(List.getElem?_eq_some_iff.1 hu).1;simpa using this
 have ah:cur.toList.length=cur.size:=zA2;unfold jg;rw[List.getElem?_toArray,List.append_assoc,List.getElem?_append_right (by rw[List.length_take];omega),List.length_take,ah,show o+j-min o cur.size=j by omega,List.getElem?_append_left (by rw[List.length_map];exact hj)];exact hu
structure qdc (hb g o n:Nat) (cur:Array Value) (w:World):Prop where
 box:w.heap[hb]?=some (.cells #[.slice (some ⟨g,o,none⟩) n n] 273 (0,0))
 row:w.heap[g]?=some (.cells cur 5 (0,0))
 ne:hb≠g
 fit:o+n<=cur.size
 few:n<1000000000000000
def CloneQ (hb g o n:Nat) (cur:Array Value) (l:List UInt8) (w:World) (e:Ending) (w':World):Prop:=∃ o',e=.returned (.slice (some ⟨g,o,none⟩) l.length l.length)/\(0<n-l.length->o'=o+l.length)/\(n-l.length=0->o'=o)/\qdc hb g o' (n-l.length) (jg cur o l) w' /\
 (w'.heap.size=w.heap.size/\w'.os=w.os/\w'.tape=w.tape/\w'.output=w.output/\∀ b,b≠hb->b≠g->w'.heap[b]?=w.heap[b]?)
set_option maxRecDepth 100000 in
theorem qbE (hb g o n:Nat) (cur:Array Value) (A c) (l:List UInt8) (hl:l.length<=n) (w:World) (H:qdc hb g o n cur w) (h:Bys w w.heap.size (.slice A l.length c) l):Calls prog 201 #[.pointer (some ⟨hb,0,none⟩),.slice A l.length c] w (CloneQ hb g o n cur l w):=by
 have hsz:(Tryz.prog.info? 5).map (·.size)=some 1:=zQ;obtain⟨r1,r2,aG,iC,sD⟩:=H;have di:=UV (P:=prog) w 273 26 3 5 g o n n A c l _ _ underlying273 hsz r2 h hl zO;have e1:(List.take o cur.toList++List.map bv l++List.drop (o+l.length) cur.toList).toArray=jg cur o l:=rfl;rw[e1] at di;have r3:(w.setRow g (jg cur o l)).heap[hb]?=some (.cells #[.slice (some ⟨g,o,none⟩) n n] 273 (0,0)):=(setRow_other w g hb _ aG).trans r1;have r4:=setRow_heap w g _ (jg cur o l) _ _ r2;have h3:∀ b,b≠g->(w.setRow g (jg cur o l)).heap[b]?=w.heap[b]?:=fun b hb=>setRow_other w g b _ hb;have s3:(w.setRow g (jg cur o l)).heap.size=w.heap.size:=zA2;have o3:(w.setRow g (jg cur o l)).os=w.os/\(w.setRow g (jg cur o l)).tape=w.tape/\(w.setRow g (jg cur o l)).output=w.output:=⟨rfl,rfl,rfl⟩
 generalize w.setRow g (jg cur o l)=w3 at *;have k1:=qa r1;have k3:=qa r3;have f3:=qe r3;clear h r1 r2 hsz e1;replace h3:=zH h3;replace r4:=zH r4;replace o3:=zH o3;have hll:=zH hl;have dE:(l.length:Int)<=(n:Int):=zO;have fin:Hid (∀ o' n',n'=n-l.length->(0<n'->o'=o+l.length)->(n'=0->o'=o)->CloneQ hb g o n cur l w (.returned (.slice (some ⟨g,o,none⟩) l.length l.length)) (w3.setCell ⟨hb,0,none⟩ (.slice (some ⟨g,o',none⟩) n' n'))):=zH fun o' n' e h1 h2=>by
  subst e;refine⟨o',rfl,h1,h2,⟨qi r3 0 _,(zJ _ _ _ _ (fun e=>aG e.symm)).trans r4.out,aG,?_,zO⟩,by simpa using s3,o3.out.1,o3.out.2.1,o3.out.2.2,fun b hb hbg=>(zJ _ _ _ _ hb).trans (h3.out b hbg)⟩;rw[qap zO];rcases Nat.eq_zero_or_pos (n-l.length) with h0|h0
  ·have:=h2 h0;omega
  ·have:=h1 h0;omega
 clear r3 r4 h3 o3 iC;go_enter func201,ntmps201;go_wp2_with fail
 ·subst h;go_ret;exact fin.out o 0 zO (fun h=>zO) (fun _=>rfl)
 ·go_ret;exact fin.out (o+l.length) (n-l.length) rfl (fun _=>rfl) (fun h=>zO)
section
variable {R0 R:Rel} {c:Nat}
def preC (R0 R:Rel) (c i:Nat):Rel:=if i=c then R0 else R
def qaT (R0 R:Rel) (c i:Nat):Rel:=if i=c then R else R0
section
variable {P:Program} {ops:Array Oper} {w0:World}
def jW (R0 R:Rel) (c:Nat) (P:Program) (ops:Array Oper) (w0:World) (H:Nat->Option Qd) (i:Nat) (o:Oper) (a:Act) (F:qT) (h:Qd):Prop:=
 (Region.wanted o (yielded ops a.tmps)=false/\h=one undef) \/
 (Region.wanted o (yielded ops a.tmps)=true/\H i=none/\∃ v,h=one v/\∀ W,(preC R0 R c i).r w0 W->(∀ k∈qO o,F k W)->Vc (qaT R0 R c i) P o a W v) \/
 (Region.wanted o (yielded ops a.tmps)=true/\H i=some h/\∀ W,(preC R0 R c i).r w0 W->(∀ k∈qO o,F k W)->QO (qaT R0 R c i) P o a W h)
def GW (R0 R:Rel) (c:Nat) (w0:World) (listed:Array Bool) (F:qT):Prop:=∃ W,R.r w0 W/\(listed.getD c true=false->R0.r w0 W)/\∀ k,F k W
def FOpC (R0 R:Rel) (c:Nat) (P:Program) (ops:Array Oper) (w0:World) (H:Nat->Option Qd) (listed:Array Bool) (i:Nat) (o:Oper) (K:Act->qT->Prop) (a:Act) (F:qT):Prop:=
 ∃ h,jW R0 R c P ops w0 H i o a F h/\∀ p,GW R0 R c w0 (listed.setIfInBounds i true) (upd F i o (h.φ p))->K (a.put o.dst (h.f p)) (upd F i o (h.φ p))
def JF (R0 R:Rel) (c:Nat) (P:Program) (ops:Array Oper) (w0:World) (H:Nat->Option Qd) (Q:Act->qT->Prop):List (Nat×Oper)->Array Bool->Act->qT->Prop
 | [],_,a,F=>Q a F
 |(k,o) :: rest,listed,a,F=>FOpC R0 R c P ops w0 H listed k o (fun a' F'=>JF R0 R c P ops w0 H Q rest (listed.setIfInBounds k true) a' F') a F
def Gh (R0 R:Rel) (c:Nat) (P:Program) (ops:Array Oper) (w0:World) (H:Nat->Option Qd) (L:Array Bool) (Q:Act->qT->Prop):Nat->Array Bool->Act->qT->Prop
 |0,listed,a,F=>listed=L/\Q a F
 |fuel+1,listed,a,F=>Region.ready .any ops listed≠[]/\∀ i∈Region.ready .any ops listed,∀ o,ops[i]?=some o->FOpC R0 R c P ops w0 H listed i o (Gh R0 R c P ops w0 H L Q fuel (listed.setIfInBounds i true)) a F
theorem qeN {listed:Array Bool} {i:Nat} {W:World} (hi:listed.getD i true=false) (h:R.r w0 W) (h0:listed.getD c true=false->R0.r w0 W):(preC R0 R c i).r w0 W:=by
 unfold preC;split
 ·rename_i e;subst e;exact h0 hi
 ·exact h
theorem qjR (hle:∀ a b,R0.r a b->R.r a b) {i:Nat} {W W':World} (h:(qaT R0 R c i).r W W'):R.r W W':=by
 unfold qaT at h;split at h
 ·exact h
 ·exact hle _ _ h
theorem stpC_0 {listed:Array Bool} {i:Nat} {W W':World} (hi:listed.getD i true=false) (h:(qaT R0 R c i).r W W') (hc:(listed.setIfInBounds i true).getD c true=false):R0.r W W':=by
 unfold qaT at h;split at h
 ·rename_i e;subst e;exfalso;rcases Nat.lt_or_ge i listed.size with h'|h'
  ·simp[h'] at hc
  ·simp[Array.getElem?_eq_none h'] at hi
 ·exact h
theorem unset {listed:Array Bool} {i c:Nat} (hc:(listed.setIfInBounds i true).getD c true=false):listed.getD c true=false:=by
 by_cases e:i=c
 ·subst e;rcases Nat.lt_or_ge i listed.size with h'|h'
  ·simp[h'] at hc
  ·simp at hc
 ·rwa [getD_set_ne true e] at hc
def Void (c:Nat) (listed:Array Bool) (F:qT):Prop:=listed.getD c true=false->∀ k W,F k W
theorem keepC {listed:Array Bool} {F:qT} {i:Nat} {W W':World} (hi:listed.getD i true=false) (aH:∀ k,qL R0 (F k)) (hv:Void c listed F) (h:(qaT R0 R c i).r W W') (k:Nat) (hF:F k W):F k W':=by
 unfold qaT at h;split at h
 ·rename_i e;subst e;exact hv hi k W'
 ·exact aH k _ _ h hF
theorem jW.unique {H:Nat->Option Qd} {listed:Array Bool} {i:Nat} {o:Oper} {a:Act} {F:qT} {h h':Qd} (hc:GW R0 R c w0 listed F) (hi:listed.getD i true=false) (x:jW R0 R c P ops w0 H i o a F h) (y:jW R0 R c P ops w0 H i o a F h'):h=h':=by
 obtain⟨W,hW,oO,hF⟩:=hc;have hW:=qeN hi hW oO;rcases x with ⟨x1,rfl⟩|⟨x1,x2,v,rfl,x3⟩|⟨x1,x2,x3⟩ <;> rcases y with ⟨y1,rfl⟩|⟨y1,y2,u,rfl,y3⟩|⟨y1,y2,y3⟩
 ·rfl
 ·rw[x1] at y1;cases y1
 ·rw[x1] at y1;cases y1
 ·rw[x1] at y1;cases y1
 ·obtain⟨w1,e1,_⟩:=x3 W hW fun k _=>hF k;obtain⟨w2,e2,_⟩:=y3 W hW fun k _=>hF k;rw[e1] at e2;cases e2;rfl
 ·rw[x2] at y2;cases y2
 ·rw[x1] at y1;cases y1
 ·rw[x2] at y2;cases y2
 ·rw[x2] at y2;cases y2;rfl
theorem jW.some_ (hle:∀ a b,R0.r a b->R.r a b) {H:Nat->Option Qd} {listed:Array Bool} {i:Nat} {o:Oper} {a:Act} {F:qT} {h:Qd} (hc:GW R0 R c w0 listed F) (hi:listed.getD i true=false) (aH:∀ k,qL R0 (F k)) (hv:Void c listed F) (x:jW R0 R c P ops w0 H i o a F h):∃ p,GW R0 R c w0 (listed.setIfInBounds i true) (upd F i o (h.φ p)):=by
 obtain⟨W,hW,oO,hF⟩:=hc;have triv:∀ (φ:World->Prop) W',(qaT R0 R c i).r W W'->φ W'->GW R0 R c w0 (listed.setIfInBounds i true) (upd F i o φ):=fun φ W' he hφ=>⟨W',R.trans hW (qjR hle he),fun h=>R0.trans (oO (unset h)) (stpC_0 hi he h),fun k=>by
  unfold upd;split
  ·exact⟨hφ,fun j _=>keepC hi aH hv he j (hF j)⟩
  ·exact keepC hi aH hv he k (hF k)⟩
 have hW:=qeN hi hW oO;rcases x with ⟨x1,rfl⟩|⟨x1,x2,v,rfl,x3⟩|⟨x1,x2,x3⟩
 ·exact⟨(),triv _ W (Rel.refl _ W) trivial⟩
 ·obtain⟨w',_,he⟩:=x3 W hW fun k _=>hF k;exact⟨(),triv _ w' he trivial⟩
 ·have h3:=x3 W hW fun k _=>hF k;unfold QO at h3;generalize (execOp a.eval o).run P W=r at h3;cases r with
  |ok n w' =>
   cases n <;> simp only[jf] at h3
   case value u=>obtain⟨p,_,hp,he⟩:=h3;exact⟨p,triv _ w' he hp⟩
   case skip=>obtain⟨p,_,hp,he⟩:=h3;exact⟨p,triv _ w' he hp⟩
   case enter f args =>obtain⟨he,ah⟩:=h3;obtain⟨e,w'',fr,⟨p,_,hp,fG⟩,_⟩:=ah [];exact⟨p,triv _ w'' (Rel.trans _ he fG) hp⟩
  |halt x w'=>simp only[jf] at h3
theorem jW.move {H:Nat->Option Qd} {i j:Nat} {oi oj:Oper} {a:Act} {F:qT} {h:Qd} {v:Value} {φ:World->Prop} (dh:oi.apart ops oj=true) (tC:∀ cs b,oj.op≠.select cs b) (hn:i∉qO oj):jW R0 R c P ops w0 H j oj (a.put oi.dst v) (upd F i oi φ) h↔jW R0 R c P ops w0 H j oj a F h:=by
 obtain⟨h1,_,_⟩:=Oper.apart_spec dh;have hF:∀ W,(∀ k∈qO oj,upd F i oi φ k W)↔∀ k∈qO oj,F k W:=fun W=>by
  constructor <;> intro hh k hk
  ·have:=hh k hk;unfold upd at this;rwa [if_neg (fun e=>hn (by rw[<-e];exact hk))] at this
  ·unfold upd;rw[if_neg (fun e=>hn (by rw[<-e];exact hk))];exact hh k hk
 unfold jW Vc QO;rw[wanted_put oj a oi.dst v h1,execOp_put oj tC a oi.dst v h1];simp only[hF]
theorem jW.move' {H:Nat->Option Qd} {i j:Nat} {oi oj:Oper} {a:Act} {F:qT} {h:Qd} {v:Value} {φ:World->Prop} (dh:oi.apart ops oj=true) (uq:∀ cs b,oi.op≠.select cs b) (hn:j∉qO oi):jW R0 R c P ops w0 H i oi (a.put oj.dst v) (upd F j oj φ) h↔jW R0 R c P ops w0 H i oi a F h:=by
 obtain⟨_,_,h3⟩:=Oper.apart_spec dh;have hF:∀ W,(∀ k∈qO oi,upd F j oj φ k W)↔∀ k∈qO oi,F k W:=fun W=>by
  constructor <;> intro hh k hk
  ·have:=hh k hk;unfold upd at this;rwa [if_neg (fun e=>hn (by rw[<-e];exact hk))] at this
  ·unfold upd;rw[if_neg (fun e=>hn (by rw[<-e];exact hk))];exact hh k hk
 unfold jW Vc QO;rw[wanted_put oi a oj.dst v h3,execOp_put oi uq a oj.dst v h3];simp only[hF]
theorem jW.stable {H:Nat->Option Qd} (hH:∀ i h,H i=some h->∀ p,qL R0 (h.φ p)) {i:Nat} {o:Oper} {a:Act} {F:qT} {h:Qd} (x:jW R0 R c P ops w0 H i o a F h):∀ p,qL R0 (h.φ p):=by
 rcases x with ⟨_,rfl⟩|⟨_,_,v,rfl,_⟩|⟨_,x2,_⟩
 ·exact fun _ _ _ _ _=>trivial
 ·exact fun _ _ _ _ _=>trivial
 ·exact hH i h x2
theorem jW.void {H:Nat->Option Qd} (hone:∀ i h,H i=some h->i=c) {listed:Array Bool} {i:Nat} {o:Oper} {a:Act} {F:qT} {h:Qd} (hv:Void c listed F) (x:jW R0 R c P ops w0 H i o a F h) (p:h.α):Void c (listed.setIfInBounds i true) (upd F i o (h.φ p)):=by
 intro hc k W;have ah:=hv (unset hc);unfold upd;split
 ·refine⟨?_,fun j _=>ah j W⟩;rcases x with ⟨_,rfl⟩|⟨_,_,v,rfl,_⟩|⟨_,x2,_⟩
  ·trivial
  ·trivial
  ·exfalso;have e:=hone i h x2;subst e;rcases Nat.lt_or_ge i listed.size with h'|h'
   ·simp[h'] at hc
   ·simp at hc
 ·exact ah k W
theorem qcX (hle:∀ a b,R0.r a b->R.r a b) {H:Nat->Option Qd} (hone:∀ i h,H i=some h->i=c) (hH:∀ i h,H i=some h->∀ p,qL R0 (h.φ p)) {A:Nat->Prop} {Cl:Array Bool->Prop} {L:Array Bool} {Q:Act->qT->Prop} {i:Nat} {oi:Oper} (hi:ops[i]?=some oi) (him:A i) (iL:∀ (j:Nat) (o:Oper) cs b,ops[j]?=some o->o.op≠.select cs b) (ah:∀ listed j,Cl listed->j∈Region.ready .any ops listed->Cl (listed.setIfInBounds j true)) (bI:∀ (listed:Array Bool) (j:Nat),Cl listed->j∈Region.ready .any ops listed->L.getD j true=false->∀ k,A k->listed.getD k false=true) : ∀ (fuel:Nat) (listed:Array Bool) (a:Act) (F:qT),Cl listed -> (∀ j oj,ops[j]?=some oj->j≠i->listed.getD j true=false->(∀ e∈oj.after,Region.binds .any e=true->e.on≠i)->oi.apart ops oj=true) ->
   i∈Region.ready .any ops listed->(∀ k,qL R0 (F k))->GW R0 R c w0 listed F->Void c listed F->(∀ k,listed.getD k true=false->∀ W,F k W) ->
   FOpC R0 R c P ops w0 H listed i oi (Gh R0 R c P ops w0 H L Q fuel (listed.setIfInBounds i true)) a F->Gh R0 R c P ops w0 H L Q (fuel+1) listed a F:=by
 intro fuel;induction fuel with
 |zero =>
  intro listed a F wX _ hr aH hc lZ _ dY;refine⟨fun h=>(by rw[h] at hr;cases hr),fun j hj oj dC=>?_⟩;by_cases hji:j=i
  ·subst hji;rw[hi] at dC;cases dC;exact dY
  ·exfalso;obtain⟨h,hok,hK⟩:=dY;obtain⟨p,di⟩:=hok.some_ hle hc (mem_ready.1 hr).1 aH lZ;have hmj:L.getD j true=false:=by rw[<-(hK p di).1];exact(mem_ready.1 (ready_mono hj hji)).1
   have h1:=bI listed j wX hj hmj i him;have h0:=(mem_ready.1 hr).1;rcases Nat.lt_or_ge i listed.size with h'|h'
   ·simp[h'] at h0 h1;rw[h0] at h1;cases h1
   ·simp[Array.getElem?_eq_none h'] at h1
 |succ fuel ih =>
  intro listed a F wX dF hr aH hc lZ lC dY;refine⟨fun h=>(by rw[h] at hr;cases hr),fun j hj oj dC=>?_⟩;by_cases hji:j=i
  ·subst hji;rw[hi] at dC;cases dC;exact dY
  ·obtain⟨bV,oj',iV,ay⟩:=mem_ready.1 hj;rw[dC] at iV;cases iV;obtain⟨mO,oi',mY,gu⟩:=mem_ready.1 hr;rw[hi] at mY;cases mY;have bad:∀ k,listed.getD k true=false->listed.getD k false=true->False:=fun k h0 h1=>by
    rcases Nat.lt_or_ge k listed.size with h'|h'
    ·simp[h'] at h0 h1;rw[h0] at h1;cases h1
    ·simp[Array.getElem?_eq_none h'] at h1
   have mV:∀ e∈oj.after,Region.binds .any e=true->e.on≠i:=fun e he hb nS=>bad i mO (nS ▸ ay e he hb);have mW:∀ e∈oi.after,Region.binds .any e=true->e.on≠j:=fun e he hb nS=>bad j bV (nS ▸ gu e he hb);have iP:i∉qO oj:=fun hin=>by obtain⟨e,he,nR⟩:=List.mem_map.1 hin;rw[List.mem_filter] at he;exact mV e (by simpa using he.1) he.2 nR
   have pJ:j∉qO oi:=fun hin=>by obtain⟨e,he,nR⟩:=List.mem_map.1 hin;rw[List.mem_filter] at he;exact mW e (by simpa using he.1) he.2 nR
   have dh:=dF j oj dC hji bV mV;have uq:∀ cs b,oi.op≠.select cs b:=fun cs b=>iL i oi cs b hi;have tC:∀ cs b,oj.op≠.select cs b:=fun cs b=>iL j oj cs b dC;obtain⟨h2,_⟩:=(Oper.apart_spec dh).2;obtain⟨hI,okI,yY⟩:=dY;obtain⟨p0,rq⟩:=okI.some_ hle hc mO aH lZ;obtain⟨hJ,okJ0,_⟩:=(yY p0 rq).2 j (ready_mono hj hji) oj dC;have okJ:jW R0 R c P ops w0 H j oj a F hJ:=(jW.move dh tC iP).1 okJ0;refine⟨hJ,okJ,fun q hcq=>?_⟩;have stJ:=okJ.stable hH q;have fO:∀ k ok,ops[k]?=some ok->k≠i->(listed.setIfInBounds j true).getD k true=false ->
     (∀ e∈ok.after,Region.binds .any e=true->e.on≠i)->oi.apart ops ok=true:=fun k ok hk eP mr aX=>by
    refine dF k ok hk eP ?_ aX;by_cases hjk:j=k
    ·subst hjk;exact bV
    ·rw[getD_set_ne true hjk] at mr;exact mr
   refine ih (listed.setIfInBounds j true) _ _ (ah _ _ wX hj) fO (ready_mono hr (Ne.symm hji)) (ZV aH j oj stJ) hcq (okJ.void hone lZ q) ?_ ?_
   ·intro k hk W;by_cases hjk:j=k
    ·subst hjk;exfalso;have hlt:j<listed.size:=by
      rcases Nat.lt_or_ge j listed.size with h'|h'
      ·exact h'
      ·simp[Array.getElem?_eq_none h'] at bV
     simp[hlt] at hk
    ·rw[getD_set_ne true hjk] at hk;have:=lC k hk W;unfold upd;rw[if_neg (fun e=>hjk e.symm)];exact this
   ·refine⟨hI,(jW.move' dh uq pJ).2 okI,fun p di=>?_⟩;have uS:GW R0 R c w0 (listed.setIfInBounds i true) (upd F i oi (hI.φ p)):=by
     by_cases hjc:j=c
     ·have hLH:∃ v,hI=one v:=by
       rcases okI with ⟨_,e⟩|⟨_,_,v,e,_⟩|⟨_,e,_⟩
       ·exact⟨_,e⟩
       ·exact⟨_,e⟩
       ·exact absurd ((hone _ _ e).trans hjc.symm) (Ne.symm hji)
      obtain⟨v,rfl⟩:=hLH;exact rq
     ·obtain⟨W,hW,oO,hF⟩:=di;refine⟨W,hW,fun h=>oO ?_,fun k=>?_⟩
      ·rw[Array.setIfInBounds_comm _ _ hji,getD_set_ne true hjc];exact h
      have hk:=hF k;by_cases eP:k=i
      ·subst eP;unfold upd at hk ⊢;rw[if_pos rfl] at hk ⊢;refine⟨hk.1,fun l hl=>?_⟩;have:=hk.2 l hl
       rwa [if_neg (fun e=>pJ (by rw[<-e];exact hl))] at this
      ·by_cases hkj:k=j
       ·subst hkj;unfold upd;rw[if_neg eP];exact lC k bV W
       ·unfold upd at hk ⊢;rw[if_neg eP,if_neg hkj] at hk;rw[if_neg eP];exact hk
    obtain⟨wY,okJ',uM⟩:=(yY p uS).2 j (ready_mono hj hji) oj dC;have okJ'':jW R0 R c P ops w0 H j oj a F wY:=(jW.move dh tC iP).1 okJ';have e:=okJ''.unique hc bV okJ;subst e;have hq:=uM q (by rw[Vi F _ _ (Ne.symm hji) iP pJ,Array.setIfInBounds_comm _ _ (fun e=>hji e.symm)];exact di);rw[Array.setIfInBounds_comm _ _ (fun e=>hji e.symm),Act.put_comm a (hI.f p) (wY.f q) h2,Vi F _ _ (Ne.symm hji) iP pJ] at hq;exact hq
theorem qaL (hle:∀ a b,R0.r a b->R.r a b) {H:Nat->Option Qd} (hone:∀ i h,H i=some h->i=c) (hH:∀ i h,H i=some h->∀ p,qL R0 (h.φ p)) {Cl:Array Bool->Prop} {L:Array Bool} {ks:List Nat} {Q:Act->qT->Prop} (hs:Region.noSelect ops=true) (ah:∀ listed j,Cl listed->j∈Region.ready .any ops listed->Cl (listed.setIfInBounds j true)) (bI:∀ (listed:Array Bool) (j:Nat),Cl listed->j∈Region.ready .any ops listed->L.getD j true=false->∀ k,k∈ks->listed.getD k false=true):∀ (l:List (Nat×Oper)) (listed:Array Bool) (a:Act) (F:qT),Cl listed->(∀ x∈l,ops[x.1]?=some x.2/\x.1∈ks) ->
  ZQ ops L (l.map (·.1)) listed=true->(∀ k,qL R0 (F k))->GW R0 R c w0 listed F->Void c listed F->(∀ j,listed.getD j true=false->∀ W,F j W)->JF R0 R c P ops w0 H Q l listed a F->Gh R0 R c P ops w0 H L Q l.length listed a F
 | [],listed,a,F,_,_,hB,_,_,_,_,h=>⟨by simpa [ZQ] using hB,h⟩
 |(k,o) :: l,listed,a,F,wX,hl,hB,aH,hc,lZ,lC,h=>by
  obtain⟨h0,xK⟩:=hl (k,o) (List.mem_cons_self);simp only[List.map_cons,ZQ,Bool.and_eq_true] at hB;obtain⟨⟨hr,hf⟩,iR⟩:=hB;have xh:k∈Region.ready .any ops listed:=by simpa using hr
  have uY:=(mem_ready.1 xh).1;refine qcX hle hone (A:=fun k=>k∈ks) hH h0 xK (Region.noSelect_spec hs) ah bI l.length listed a F wX (Region.free_spec h0 hf) xh aH hc lZ lC ?_;obtain⟨hh,hok,hK⟩:=h;refine⟨hh,hok,fun p di=>?_⟩;refine qaL hle hone hH hs ah bI l _ _ _ (ah _ _ wX xh) (fun x hx=>hl x (List.mem_cons_of_mem _ hx)) iR (ZV aH k o (hok.stable hH p)) di (hok.void hone lZ p) (fun j hj W=>?_) (hK p di);by_cases hjk:k=j
  ·subst hjk;have hlt:k<listed.size:=by
    rcases Nat.lt_or_ge k listed.size with h'|h'
    ·exact h'
    ·simp[Array.getElem?_eq_none h'] at uY
   simp[hlt] at hj
  ·rw[getD_set_ne true hjk] at hj;have:=lC j hj W;unfold upd;rw[if_neg (fun e=>hjk e.symm)];exact this
theorem qda (hle:∀ a b,R0.r a b->R.r a b) {H:Nat->Option Qd} {i:Nat} {o:Oper} {a:Act} {F:qT} {K:Act->qT->Prop} {K':Act->World->Prop} {Q':Exit->Act->World->Prop} {W:World} {listed:Array Bool} (hli:listed.getD i true=false) (hi:ops[i]?=some o) (hone:∀ i h,H i=some h->i=c) (hH:∀ i h,H i=some h->∀ p,qL R0 (h.φ p)) (aH:∀ k,qL R0 (F k)) (lZ:Void c listed F) (hW:R.r w0 W) (oO:listed.getD c true=false->R0.r w0 W) (hF:∀ k,F k W) (hK:∀ a' F' W',K a' F'->(∀ k,qL R0 (F' k))->Void c (listed.setIfInBounds i true) F'->R.r w0 W'->((listed.setIfInBounds i true).getD c true=false->R0.r w0 W')->(∀ k,F' k W')->K' a' W') (h:FOpC R0 R c P ops w0 H listed i o K a F):wpOp P ops Q' i K' a W:=by
 obtain⟨hh,hok,hn⟩:=h;have go:∀ p W',(qaT R0 R c i).r W W'->hh.φ p W'->K' (a.put o.dst (hh.f p)) W':=fun p W' he0 hφ=>by
  have he:=qjR hle he0;have h0:(listed.setIfInBounds i true).getD c true=false->R0.r w0 W':=fun h=>R0.trans (oO (unset h)) (stpC_0 hli he0 h);have lh:∀ k,upd F i o (hh.φ p) k W':=fun k=>by
   unfold upd;split
   ·exact⟨hφ,fun j _=>keepC hli aH lZ he0 j (hF j)⟩
   ·exact keepC hli aH lZ he0 k (hF k)
  exact hK _ _ W' (hn p ⟨W',R.trans hW he,h0,lh⟩) (ZV aH i o (hok.stable hH p)) (hok.void hone lZ p) (R.trans hW he) h0 lh
 have hWp:=qeN (c:=c) hli hW oO;unfold wpOp;simp only[hi];rcases hok with ⟨x1,rfl⟩|⟨x1,x2,v,rfl,x3⟩|⟨x1,x2,x3⟩
 ·simp only[x1,Bool.false_eq_true,if_false];exact go () W (Rel.refl _ W) trivial
 ·simp only[x1,if_true];obtain⟨w',hr,he⟩:=x3 W hWp fun k _=>hF k;refine .inl ?_;unfold Oper.wp;rw[hr];exact go () w' he trivial
 ·simp only[x1,if_true];have h3:=x3 W hWp fun k _=>hF k;refine .inl ?_;unfold QO at h3;unfold Oper.wp;generalize (execOp a.eval o).run P W=r at *;cases r with
  |ok n w' =>
   cases n <;> simp only[jf] at h3 <;> simp only[Oper.upon]
   case value u =>obtain⟨p,rfl,hp,he⟩:=h3;exact go p w' he hp
   case skip =>obtain⟨p,hu,hp,he⟩:=h3;rw[hu];exact go p w' he hp
   case enter f args =>obtain⟨he,ah⟩:=h3;refine ah.mono fun e w'' ⟨p,he1,hp,fG⟩=>?_;subst he1;exact go p w'' (Rel.trans _ he fG) hp
  |halt x w'=>simp only[jf] at h3
theorem XD (hle:∀ a b,R0.r a b->R.r a b) {H:Nat->Option Qd} (hone:∀ i h,H i=some h->i=c) (hH:∀ i h,H i=some h->∀ p,qL R0 (h.φ p)) {L:Array Bool} {t:Nat} {Q:Act->qT->Prop} {Q':Exit->Act->World->Prop} (hQ:∀ a F W,Q a F->R.r w0 W->(∀ k,F k W)->wpAny P .any ops Q' t L a W) : ∀ (fuel:Nat) (listed:Array Bool) (a:Act) (F:qT) (W:World),(∀ k,qL R0 (F k))->Void c listed F->R.r w0 W->(listed.getD c true=false->R0.r w0 W)->(∀ k,F k W)->Gh R0 R c P ops w0 H L Q fuel listed a F->wpAny P .any ops Q' (fuel+t) listed a W
 |0,listed,a,F,W,_,_,hW,_,hF,h=>by rw[h.1,Nat.zero_add];exact hQ a F W h.2 hW hF
 |fuel+1,listed,a,F,W,aH,lZ,hW,oO,hF,h=>by rw[show fuel+1+t=fuel+t+1 by omega];refine⟨fun h0=>absurd h0 h.1,fun i hi=>?_⟩;obtain⟨hli,o,ho,_⟩:=mem_ready.1 hi;exact qda hle hli ho hone hH aH lZ hW oO hF (fun a' F' W' hk lK hvd' au hW0' lh=>XD hle hone hH hQ fuel _ a' F' W' lK hvd' au hW0' lh hk) (h.2 i hi o ho)
theorem qdf {l:List Oper} {Q:Exit->Act->World->Prop} {fuel:Nat} {listed:Array Bool} {a:Act} {w W:World} (R0 R:Rel) (c:Nat) (hle:∀ a b,R0.r a b->R.r a b) (H:Nat->Option Qd) (M:List Bool) (t:Nat) (hs:Region.noSelect l.toArray=true) (ht:qhc l.toArray (za l.length (l.length-t)) ((qu 0 l M).map (·.1))=true) (dQ:XG l.toArray listed=true) (hB:ZQ l.toArray (za l.length (l.length-t)) ((qu 0 l M).map (·.1)) listed=true) (mf:GR l.toArray t (l.length-t) (za l.length (l.length-t))=true) (hfu:fuel=(qu 0 l M).length+t) (mi:(l.drop (l.length-t)).length=t) (hH:∀ i h,H i=some h->∀ p,qL R0 (h.φ p)) (hone:∀ i h,H i=some h->i=c) (hW:R0.r w W) (h:∀ K:Act->qT->Prop,(∀ a' F',(∀ W,R.r w W->(∀ k,F' k W)->wpList P l.toArray Q (l.drop (l.length-t)) a' W)->K a' F')->JF R0 R c P l.toArray w H K (qu 0 l M) listed a (fun _ _=>True)):wpAny P .any l.toArray Q fuel listed a W:=by
 have h:=h _ (fun a' F' hh=>hh);subst hfu;have key:=qaL hle hone (w0:=w) hH hs (fun _ _ h=>h.step) (TZ ht) (qu 0 l M) listed a (fun _ _=>True) (Vv dQ) (fun x hx=>by obtain⟨j,h1,h2⟩:=Vz l M 0 x hx;refine⟨?_,List.mem_map.2 ⟨x,hx,rfl⟩⟩;rw[h1,Nat.zero_add];simpa using h2) hB (fun _ _ _ _ _=>trivial) ⟨W,hle _ _ hW,fun _=>hW,fun _=>trivial⟩ (fun _ _ _=>trivial) (fun _ _ _=>trivial) h;refine XD hle hone (w0:=w) hH (t:=t) (Q':=Q) (fun a F W hq hW hF=>?_) _ _ _ _ W (fun _ _ _ _ _=>trivial) (fun _ _ _=>trivial) (hle _ _ hW) (fun _=>hW) (fun _=>trivial) key;have:=KY (l.drop (l.length-t)) (l.length-t) _ a W (fun j _=>by rw[List.getElem?_drop];simp) (by rw[mi];exact mf) (hq W hW hF)
 rwa [mi] at this
/-! ### the steps of the walk -/
section
variable {H:Nat->Option Qd} {Q:Act->qT->Prop} {k:Nat} {o:Oper} {rest:List (Nat×Oper)} {a:Act} {F:qT} {listed:Array Bool}
theorem qdn (h:Q a F):JF R0 R c P ops w0 H Q [] listed a F:=h
theorem qfX (v:Value) (hw:Region.wanted o (yielded ops a.tmps)=true) (hH:H k=none) (hv:∀ W,(preC R0 R c k).r w0 W->(∀ j∈qO o,F j W)->Vc (qaT R0 R c k) P o a W v) (h:JF R0 R c P ops w0 H Q rest (listed.setIfInBounds k true) (a.put o.dst v) (upd F k o fun _=>True)):JF R0 R c P ops w0 H Q ((k,o) :: rest) listed a F:=
 ⟨one v,.inr (.inl ⟨hw,hH,v,rfl,hv⟩),fun _ _=>h⟩
theorem jZ (hle:∀ a b,R0.r a b->R.r a b) (v:Value) (hw:Region.wanted o (yielded ops a.tmps)=true) (hH:H k=none) (hv:∀ W,R.r w0 W->(∀ j∈qO o,F j W)->(execOp a.eval o).run P W=.ok (.value v) W) (h:JF R0 R c P ops w0 H Q rest (listed.setIfInBounds k true) (a.put o.dst v) (upd F k o fun _=>True)):JF R0 R c P ops w0 H Q ((k,o) :: rest) listed a F:=
 qfX v hw hH (fun W hW hF=>⟨W,hv W (by unfold preC at hW;split at hW;exact hle _ _ hW;exact hW) hF,Rel.refl _ W⟩) h
theorem vE (hw:Region.wanted o (yielded ops a.tmps)=false) (h:JF R0 R c P ops w0 H Q rest (listed.setIfInBounds k true) (a.put o.dst undef) (upd F k o fun _=>True)):JF R0 R c P ops w0 H Q ((k,o) :: rest) listed a F:=
 ⟨one undef,.inl ⟨hw,rfl⟩,fun _ _=>h⟩
theorem qbA (hh:Qd) (hw:Region.wanted o (yielded ops a.tmps)=true) (hH:H c=some hh) (hv:∀ W,R0.r w0 W->(∀ j∈qO o,F j W)->QO R P o a W hh) (h:∀ p,JF R0 R c P ops w0 H Q rest (listed.setIfInBounds c true) (a.put o.dst (hh.f p)) (upd F c o (hh.φ p))):JF R0 R c P ops w0 H Q ((c,o) :: rest) listed a F:=
 ⟨hh,.inr (.inr ⟨hw,hH,fun W hW hF=>by unfold preC at hW;unfold qaT;rw[if_pos rfl] at hW ⊢;exact hv W hW hF⟩),fun p _=>h p⟩
end
end
end
end Go.Proofs.YtmeadnlmepcmbaaGreat
