/- Lemmas of the proof. -/
import Derived.Test.YtmeadnlmepcmbaaGreatZN06
set_option linter.all false
set_option maxHeartbeats 8000000
open Go.Proofs.Tryz
namespace Go.Proofs.YtmeadnlmepcmbaaGreat
open Go.RowKit
section
variable {R:Rel}
section
variable {P:Program} {ops:Array Oper} {w0:World}
def YO (ops:Array Oper) (listed:Array Bool):Prop:=∀ (i:Nat) (o:Oper),ops[i]?=some o->listed.getD i false=true->∀ k∈qP o,listed.getD k false=true
def KW (ops:Array Oper) (listed:Array Bool):Bool:=(List.range ops.size).all fun i=>!(listed.getD i false) || (match ops[i]? with|some o=>(qP o).all fun k=>listed.getD k false|none=>true)
theorem JX {listed:Array Bool} (h:KW ops listed=true):YO ops listed:=by intro i o ho hi k hk;have h1:=List.all_eq_true.1 h i (List.mem_range.2 (zG.1 ho).1);rw[hi,ho] at h1;simp only[Bool.not_true,Bool.false_or] at h1;exact List.all_eq_true.1 h1 k hk
theorem Ke {listed:Array Bool} {j:Nat} (hj:j∈Region.ready .any ops listed) {o:Oper} (ho:ops[j]?=some o):∀ k∈qP o,listed.getD k false=true:=by intro k hk;obtain⟨_,o',ho',hJF⟩:=mem_ready.1 hj;rw[ho] at ho';cases ho';obtain⟨e,he,hei⟩:=List.mem_map.1 hk;rw[List.mem_filter] at he;rw[<-hei];exact hJF e (by simpa using he.1) he.2
theorem Td {listed:Array Bool} {j k:Nat} (h:listed.getD k false=true):(listed.setIfInBounds j true).getD k false=true:=by
 rcases Nat.lt_or_ge k listed.size with h'|h'
 ·simp only[Array.getD_eq_getD_getElem?,Array.getElem?_setIfInBounds] at h ⊢;by_cases e:j=k
  ·subst e;simp[h']
  ·rw[if_neg e];exact h
 ·simp[Array.getElem?_eq_none h'] at h
theorem YO.step {listed:Array Bool} {j:Nat} (h:YO ops listed) (hj:j∈Region.ready .any ops listed):YO ops (listed.setIfInBounds j true):=by
 intro i o ho hi k hk;by_cases e:i=j
 ·subst e;exact Td (Ke hj ho k hk)
 ·refine Td (h i o ho ?_ k hk);simp only[Array.getD_eq_getD_getElem?,Array.getElem?_setIfInBounds] at hi ⊢
  rwa [if_neg (fun x=>e x.symm)] at hi
def waits (ops:Array Oper):Nat->Nat->Nat->Bool
 |0,_,_=>false
 |n+1,j,k=>match ops[j]? with
  |some o=>(qP o).contains k || (qP o).any fun i=>waits ops n i k
  |none=>false
theorem VB {listed:Array Bool} (h:YO ops listed):∀ (n j k:Nat),(∀ o,ops[j]?=some o->∀ i∈qP o,listed.getD i false=true)->waits ops n j k=true->listed.getD k false=true
 |0,_,_,_,hw=>by cases hw
 |n+1,j,k,hp,hw=>by
  unfold waits at hw;split at hw
  ·rename_i o ho;rw[Bool.or_eq_true] at hw;rcases hw with hw|hw
   ·exact hp o ho k (by simpa using hw)
   ·obtain⟨i,hi,hw⟩:=List.any_eq_true.1 hw;exact VB h n i k (fun o' ho'=>h i o' ho' (hp o ho i hi)) hw
  ·cases hw
def qdZ (ops:Array Oper) (L:Array Bool) (ks:List Nat):Bool:=(List.range ops.size).all fun j=>L.getD j true || ks.all fun k=>waits ops 9 j k
theorem Yx {L:Array Bool} {ks:List Nat} (h:qdZ ops L ks=true):∀ (listed:Array Bool) (j:Nat),YO ops listed->j∈Region.ready .any ops listed->L.getD j true=false->∀ k,k∈ks->listed.getD k false=true:=by intro listed j hc hj hm k hk;obtain⟨_,o,ho,_⟩:=mem_ready.1 hj;have h1:=List.all_eq_true.1 h j (List.mem_range.2 (zG.1 ho).1);rw[hm,Bool.false_or] at h1;exact VB hc 9 j k (fun o' ho'=>Ke hj ho') (List.all_eq_true.1 h1 k hk)
theorem qdf {H:Nat->Option Qe} (hH:∀ i h,H i=some h->∀ p,qJ R (h.φ p)) {A:Nat->Prop} {Cl:Array Bool->Prop} {L:Array Bool} {Q:Act->qS->Prop} {i:Nat} {oi:Oper} (hi:ops[i]?=some oi) (him:A i) (hRI:∀ (j:Nat) (o:Oper) cs b,ops[j]?=some o->o.op≠.select cs b) (hcl:∀ listed j,Cl listed->j∈Region.ready .any ops listed->Cl (listed.setIfInBounds j true)) (hJS:∀ (listed:Array Bool) (j:Nat),Cl listed->j∈Region.ready .any ops listed->L.getD j true=false->∀ k,A k->listed.getD k false=true) : ∀ (fuel:Nat) (listed:Array Bool) (a:Act) (F:qS),Cl listed -> (∀ j oj,ops[j]?=some oj->j≠i->listed.getD j true=false->(∀ e∈oj.after,Region.binds .any e=true->e.on≠i)->oi.apart ops oj=true) ->
   i∈Region.ready .any ops listed->(∀ k,qJ R (F k))->YP R w0 F->(∀ k,listed.getD k true=false->∀ W,F k W) ->
   FOpG R P ops w0 H i oi (VD R P ops w0 H L Q fuel (listed.setIfInBounds i true)) a F->VD R P ops w0 H L Q (fuel+1) listed a F:=by
 intro fuel;induction fuel with
 |zero =>
  intro listed a F hCl _ hr hst hc _ hop;refine⟨fun h=>(by rw[h] at hr;cases hr),fun j hj oj hoj=>?_⟩;by_cases hji:j=i
  ·subst hji;rw[hi] at hoj;cases hoj;exact hop
  ·exfalso;obtain⟨h,hok,hK⟩:=hop;obtain⟨p,hcp⟩:=hok.some_ hc hst;have hmj:L.getD j true=false:=by rw[<-(hK p hcp).1];exact(mem_ready.1 (ready_mono hj hji)).1
   have h1:=hJS listed j hCl hj hmj i him;have h0:=(mem_ready.1 hr).1;rcases Nat.lt_or_ge i listed.size with h'|h'
   ·simp[h'] at h0 h1;rw[h0] at h1;cases h1
   ·simp[Array.getElem?_eq_none h'] at h1
 |succ fuel ih =>
  intro listed a F hCl hJQ hr hst hc hun hop;refine⟨fun h=>(by rw[h] at hr;cases hr),fun j hj oj hoj=>?_⟩;by_cases hji:j=i
  ·subst hji;rw[hi] at hoj;cases hoj;exact hop
  ·obtain⟨hJI,oj',hWY,hJF⟩:=mem_ready.1 hj;rw[hoj] at hWY;cases hWY;obtain⟨hVK,oi',wCJ,hRC⟩:=mem_ready.1 hr;rw[hi] at wCJ;cases wCJ;have bad:∀ k,listed.getD k true=false->listed.getD k false=true->False:=fun k h0 h1=>by
    rcases Nat.lt_or_ge k listed.size with h'|h'
    ·simp[h'] at h0 h1;rw[h0] at h1;cases h1
    ·simp[Array.getElem?_eq_none h'] at h1
   have wCG:∀ e∈oj.after,Region.binds .any e=true->e.on≠i:=fun e he hb heq=>bad i hVK (heq ▸ hJF e he hb);have wCI:∀ e∈oi.after,Region.binds .any e=true->e.on≠j:=fun e he hb heq=>bad j hJI (heq ▸ hRC e he hb);have hpi:i∉qP oj:=fun hin=>by obtain⟨e,he,hei⟩:=List.mem_map.1 hin;rw[List.mem_filter] at he;exact wCG e (by simpa using he.1) he.2 hei
   have hpj:j∉qP oi:=fun hin=>by obtain⟨e,he,hei⟩:=List.mem_map.1 hin;rw[List.mem_filter] at he;exact wCI e (by simpa using he.1) he.2 hei
   have hap:=hJQ j oj hoj hji hJI wCG;have hsi:∀ cs b,oi.op≠.select cs b:=fun cs b=>hRI i oi cs b hi;have hsj:∀ cs b,oj.op≠.select cs b:=fun cs b=>hRI j oj cs b hoj;obtain⟨h2,_⟩:=(Oper.apart_spec hap).2;obtain⟨hI,okI,hKI⟩:=hop;obtain⟨p0,wJJ⟩:=okI.some_ hc hst;obtain⟨hJ,okJ0,_⟩:=(hKI p0 wJJ).2 j (ready_mono hj hji) oj hoj;have okJ:jy R P ops w0 H j oj a F hJ:=(jy.move hap hsj hpi).1 okJ0;refine⟨hJ,okJ,fun q hcq=>?_⟩;have stJ:=okJ.stable hH q;have hTI:∀ k ok,ops[k]?=some ok->k≠i->(listed.setIfInBounds j true).getD k true=false ->
     (∀ e∈ok.after,Region.binds .any e=true->e.on≠i)->oi.apart ops ok=true:=fun k ok hk hki wCW hno=>by
    refine hJQ k ok hk hki ?_ hno;by_cases hjk:j=k
    ·subst hjk;exact hJI
    ·rw[getD_set_ne true hjk] at wCW;exact wCW
   refine ih (listed.setIfInBounds j true) _ _ (hcl _ _ hCl hj) hTI (ready_mono hr (Ne.symm hji)) (jc hst j oj stJ) hcq ?_ ?_
   ·intro k hk W;by_cases hjk:j=k
    ·subst hjk;exfalso;have hlt:j<listed.size:=by
      rcases Nat.lt_or_ge j listed.size with h'|h'
      ·exact h'
      ·simp[Array.getElem?_eq_none h'] at hJI
     simp[hlt] at hk
    ·rw[getD_set_ne true hjk] at hk;have:=hun k hk W;unfold upd;rw[if_neg (fun e=>hjk e.symm)];exact this
   ·refine⟨hI,(jy.move' hap hsi hpj).2 okI,fun p hcp=>?_⟩;have wMK:YP R w0 (upd F i oi (hI.φ p)):=by
     obtain⟨W,hW,hF⟩:=hcp;refine⟨W,hW,fun k=>?_⟩;have hk:=hF k;by_cases hki:k=i
     ·subst hki;unfold upd at hk ⊢;rw[if_pos rfl] at hk ⊢;refine⟨hk.1,fun l hl=>?_⟩;have:=hk.2 l hl
      rwa [if_neg (fun e=>hpj (by rw[<-e];exact hl))] at this
     ·by_cases hkj:k=j
      ·subst hkj;unfold upd;rw[if_neg hki];exact hun k hJI W
      ·unfold upd at hk ⊢;rw[if_neg hki,if_neg hkj] at hk;rw[if_neg hki];exact hk
    obtain⟨hJ',okJ',wMG⟩:=(hKI p wMK).2 j (ready_mono hj hji) oj hoj;have okJ'':jy R P ops w0 H j oj a F hJ':=(jy.move hap hsj hpi).1 okJ';have e:=okJ''.unique hc okJ;subst e;have hq:=wMG q (by rw[Vi F _ _ (Ne.symm hji) hpi hpj];exact hcp);rw[Array.setIfInBounds_comm _ _ (fun e=>hji e.symm),Act.put_comm a (hI.f p) (hJ'.f q) h2,Vi F _ _ (Ne.symm hji) hpi hpj] at hq;exact hq
theorem Kg {H:Nat->Option Qe} (hH:∀ i h,H i=some h->∀ p,qJ R (h.φ p)) {Cl:Array Bool->Prop} {L:Array Bool} {ks:List Nat} {Q:Act->qS->Prop} (hs:Region.noSelect ops=true) (hcl:∀ listed j,Cl listed->j∈Region.ready .any ops listed->Cl (listed.setIfInBounds j true)) (hJS:∀ (listed:Array Bool) (j:Nat),Cl listed->j∈Region.ready .any ops listed->L.getD j true=false->∀ k,k∈ks->listed.getD k false=true):∀ (l:List (Nat×Oper)) (listed:Array Bool) (a:Act) (F:qS),Cl listed->(∀ x∈l,ops[x.1]?=some x.2/\x.1∈ks) ->
  ZS ops L (l.map (·.1)) listed=true->(∀ k,qJ R (F k))->YP R w0 F->(∀ j,listed.getD j true=false->∀ W,F j W)->jd R P ops w0 H Q l a F->VD R P ops w0 H L Q l.length listed a F
 | [],listed,a,F,_,_,hB,_,_,_,h=>⟨by simpa [ZS] using hB,h⟩
 |(k,o) :: l,listed,a,F,hCl,hl,hB,hst,hc,hun,h=>by
  obtain⟨h0,hks⟩:=hl (k,o) (List.mem_cons_self);simp only[List.map_cons,ZS,Bool.and_eq_true] at hB;obtain⟨⟨hr,hf⟩,hB'⟩:=hB;have hrk:k∈Region.ready .any ops listed:=by simpa using hr
  have wMV:=(mem_ready.1 hrk).1;refine qdf (A:=fun k=>k∈ks) hH h0 hks (Region.noSelect_spec hs) hcl hJS l.length listed a F hCl (Region.free_spec h0 hf) hrk hst hc hun ?_;obtain⟨hh,hok,hK⟩:=h;refine⟨hh,hok,fun p hcp=>?_⟩;refine Kg hH hs hcl hJS l _ _ _ (hcl _ _ hCl hrk) (fun x hx=>hl x (List.mem_cons_of_mem _ hx)) hB' (jc hst k o (hok.stable hH p)) hcp (fun j hj W=>?_) (hK p hcp);by_cases hjk:k=j
  ·subst hjk;have hlt:k<listed.size:=by
    rcases Nat.lt_or_ge k listed.size with h'|h'
    ·exact h'
    ·simp[Array.getElem?_eq_none h'] at wMV
   simp[hlt] at hj
  ·rw[getD_set_ne true hjk] at hj;have:=hun j hj W;unfold upd;rw[if_neg (fun e=>hjk e.symm)];exact this
theorem Qa {l:List Oper} {Q:Exit->Act->World->Prop} {fuel:Nat} {listed:Array Bool} {a:Act} {w W:World} (R:Rel) (H:Nat->Option Qe) (M:List Bool) (t:Nat) (hs:Region.noSelect l.toArray=true) (ht:qdZ l.toArray (QO l.length (l.length-t)) ((qw 0 l M).map (·.1))=true) (hc0:KW l.toArray listed=true) (hB:ZS l.toArray (QO l.length (l.length-t)) ((qw 0 l M).map (·.1)) listed=true) (hXB:UN l.toArray t (l.length-t) (QO l.length (l.length-t))=true) (hfu:fuel=(qw 0 l M).length+t) (htl:(l.drop (l.length-t)).length=t) (hH:∀ i h,H i=some h->∀ p,qJ R (h.φ p)) (hW:R.r w W) (h:∀ K:Act->qS->Prop,(∀ a' F',(∀ W,R.r w W->(∀ k,F' k W)->wpList P l.toArray Q (l.drop (l.length-t)) a' W)->K a' F')->jd R P l.toArray w H K (qw 0 l M) a (fun _ _=>True)):wpAny P .any l.toArray Q fuel listed a W:=by
 have h:=h _ (fun a' F' hh=>hh);subst hfu;have key:=Kg (w0:=w) hH hs (fun _ _ h=>h.step) (Yx ht) (qw 0 l M) listed a (fun _ _=>True) (JX hc0) (fun x hx=>by obtain⟨j,h1,h2⟩:=vj l M 0 x hx;refine⟨?_,List.mem_map.2 ⟨x,hx,rfl⟩⟩;rw[h1,Nat.zero_add];simpa using h2) hB (fun _ _ _ _ _=>trivial) ⟨W,hW,fun _=>trivial⟩ (fun _ _ _=>trivial) h;refine kK (w0:=w) hH (t:=t) (Q':=Q) (fun a F W hq hW hF=>?_) _ _ _ _ W (fun _ _ _ _ _=>trivial) hW (fun _=>trivial) key;have:=KM (l.drop (l.length-t)) (l.length-t) _ a W (fun j _=>by rw[List.getElem?_drop];simp) (by rw[htl];exact hXB) (hq W hW hF)
 rwa [htl] at this
end
end
def qI (S:Sto):Nat->List It->List It
 |0,xs=>xs
 |h+1,xs=>xs.flatMap fun y=>match qu S y.r.toNat with
  |none=>[]
  |some (_,ys)=>qI S h ys
def JI (next:Int) (y:It):Bool:=Ud y && (decide (y.i≠0) && decide (y.i<next))
def ZR (next:Int):List Vol->List It->Option (List Vol)
 |vs,[]=>some vs
 |vs,y :: r=>if JI next y=true/\vs.length≠16 then ZR next (vs++[KL y]) r else none
theorem qau (next:Int) (vs:List Vol) (y:It) (r:List It):ZR next vs (y :: r)=if JI next y=true/\vs.length≠16 then ZR next (vs++[KL y]) r else none:=rfl
theorem Zx (S:Sto) (h:Nat) (xs:List It):qI S (h+1) xs=xs.flatMap fun y=>match qu S y.r.toNat with|none=>[]|some (_,ys)=>qI S h ys:=rfl
theorem vV (next:Int):∀ (l m:List It) (vs:List Vol),ZR next vs (l++m)=(ZR next vs l).bind fun vs'=>ZR next vs' m
 | [],m,vs=>rfl
 |y :: r,m,vs=>by
  rw[List.cons_append,qau,qau];split
  ·exact vV next r m _
  ·rfl
theorem kH (next:Int):∀ (l:List It) (vs vs':List Vol),vs.length<=16->ZR next vs l=some vs'->vs'.length<=16
 | [],vs,vs',h,e=>by cases e;exact h
 |y :: r,vs,vs',h,e=>by
  unfold ZR at e;split at e
  ·rename_i hc;exact kH next r _ vs' (by rw[List.length_append,List.length_singleton];have:=hc.2;omega) e
  ·cases e
theorem qcv (next:Int):∀ (l:List It) (vs:List Vol),vs.length<=16->ZR next vs l=if l.all (JI next)=true/\vs.length+l.length<=16 then some (vs++l.map KL) else none
 | [],vs,h=>by unfold ZR;rw[if_pos ⟨rfl,by simpa using h⟩];simp
 |y :: r,vs,h=>by
  unfold ZR;by_cases hg:JI next y=true
  ·by_cases hl:vs.length=16
   ·rw[if_neg (fun x=>x.2 hl),if_neg (fun x=>by have:=x.2;simp at this;omega)]
   ·rw[if_pos ⟨hg,hl⟩,qcv next r _ (by rw[List.length_append,List.length_singleton];omega)];simp only[List.all_cons,hg,Bool.true_and,List.length_append,List.length_cons,List.length_nil,List.append_assoc,List.map_cons,List.cons_append,List.nil_append];by_cases h1:r.all (JI next)=true/\vs.length+(0+1)+r.length<=16
    ·rw[if_pos h1,if_pos ⟨h1.1,zO⟩]
    ·rw[if_neg h1,if_neg (fun x=>h1 ⟨x.1,zO⟩)]
  ·rw[if_neg (fun x=>hg x.1),if_neg (fun x=>by have:=x.1;simp only[List.all_cons,Bool.and_eq_true] at this;exact hg this.1)]
theorem qhQ {S:Sto} {xs:List It} {k:Nat} (hk:k<xs.length):qI S 0 (xs.take (k+1))=qI S 0 (xs.take k)++[xs[k]]:=List.take_succ_eq_append_getElem hk
theorem qhR {S:Sto} {h:Nat} {xs ys:List It} {lvl:Int} {k:Nat} (hk:k<xs.length) (hn:qu S xs[k].r.toNat=some (lvl,ys)):qI S (h+1) (xs.take (k+1))=qI S (h+1) (xs.take k)++qI S h ys:=by rw[List.take_succ_eq_append_getElem hk,Zx,Zx,List.flatMap_append];simp[hn]
theorem vH {S:Sto} (h:Nat):qI S h []=[]:=by cases h <;> rfl
theorem qgh {S:Sto} {h:Nat} {xs:List It} {k:Nat} (hk:k<=xs.length):∃ r,qI S h xs=qI S h (xs.take k)++r:=by
 cases h with
 |zero=>exact⟨xs.drop k,(List.take_append_drop k xs).symm⟩
 |succ h =>
  refine⟨qI S (h+1) (xs.drop k),?_⟩;have:=(List.take_append_drop k xs).symm
  conv=>lhs;rw[this]
  rw[Zx,Zx,Zx,List.flatMap_append]
theorem qiE {S:Sto} {h:Nat} {xs:List It} {k:Nat} {next:Int} {vs:List Vol} (hk:k<=xs.length) (hb:ZR next vs (qI S h (xs.take k))=none):ZR next vs (qI S h xs)=none:=by obtain⟨r,hr⟩:=qgh (S:=S) (h:=h) hk;rw[hr,vV,hb];rfl
def jl (vs:List Vol):List Value:=vs.flatMap fun v=>[.int .u32 v.id,.int .i64 v.root,.bool v.fz,.int .u32 v.frm]
theorem qfK (vs:List Vol) (v:Vol):jl (vs++[v])=jl vs++[.int .u32 v.id,.int .i64 v.root,.bool v.fz,.int .u32 v.frm]:=by simp[jl]
structure VolI (p:CP) (w1 w:World) (vs:List Vol) (vv:Value) (ca:Array Value) (refs nodes:Nat->Nat):Prop where
 t:TrI p w1.heap.size w1 w vv ca refs nodes
 own:w.ownsRow w1.heap.size 36 4 vv vs.length (jl vs)
structure YJ (p:CP) (vv:Value) (w w':World):Prop where
 os:w'.os=w.os
 tape:w'.tape=w.tape
 output:w'.output=w.output
 size:w.heap.size<=w'.heap.size
 block:∀ k,k<w.heap.size->k≠p.cb->vv.ownBlock≠some k->w'.heap[k]?=w.heap[k]?
def kO (vv:Value) (n:Nat) (vv':Value):Prop:=vv'.ownBlock=vv.ownBlock\/∃ g,vv'.ownBlock=some g/\n<=g
def VolsQ (p:CP) (w1:World) (refs nodes:Nat->Nat) (next:Int) (vs:List Vol) (l:List It) (vv:Value) (w:World) (e:Ending) (w':World):Prop:=
 YJ p vv w w'/\match ZR next vs l with
  |none=>e=.returned (.int .i64 8)
  |some vs'=>e=.returned (.int .i64 0)/\∃ vv' ca',VolI p w1 w' vs' vv' ca' refs nodes/\kO vv w.heap.size vv'
theorem YJ.refl (p:CP) (vv:Value) (w:World):YJ p vv w w:=⟨rfl,rfl,rfl,zM _,fun _ _ _ _=>rfl⟩
theorem YJ.ext {p:CP} {vv:Value} {w w' w'':World} (h:YJ p vv w w') (hx:Ext w' w''):YJ p vv w w'':=
 ⟨hx.os.trans h.os,hx.tape.trans h.tape,hx.output.trans h.output,Nat.le_trans h.size hx.size,fun k h1 h2 h3=>(hx.block k (Nat.lt_of_lt_of_le h1 h.size)).trans (h.block k h1 h2 h3)⟩
theorem YJ.trans {p:CP} {vv vv':Value} {w w' w'':World} (h:YJ p vv w w') (h':YJ p vv' w' w'') (hn:kO vv w.heap.size vv'):YJ p vv w w'':=
 ⟨h'.os.trans h.os,h'.tape.trans h.tape,h'.output.trans h.output,Nat.le_trans h.size h'.size,fun k h1 h2 h3=>(h'.block k (Nat.lt_of_lt_of_le h1 h.size) h2 (fun e=>by
  rcases hn with x|⟨g,x,y⟩
  ·exact h3 (x ▸ e)
  ·rw[x] at e;cases e;omega)).trans (h.block k h1 h2 h3)⟩
theorem kO.refl (vv:Value) (n:Nat):kO vv n vv:=.inl rfl
theorem kO.trans {vv vv' vv'':Value} {n n':Nat} (h:kO vv n vv') (h':kO vv' n' vv'') (hn:n<=n'):kO vv n vv'':=by
 rcases h' with x|⟨g,x,y⟩
 ·rcases h with z|⟨g,z,y⟩
  ·exact .inl (x.trans z)
  ·exact .inr ⟨g,x.trans z,y⟩
 ·exact .inr ⟨g,x,zO⟩
theorem VolI.ext {p:CP} {w1 w w':World} {vs:List Vol} {vv:Value} {ca:Array Value} {refs nodes:Nat->Nat} (h:VolI p w1 w vs vv ca refs nodes) (hx:Ext w w'):VolI p w1 w' vs vv ca refs nodes:=⟨h.t.ext hx,QR h.own hx⟩
theorem TrI.setVol {p:CP} {B:Nat} {w1 wr:World} {vv:Value} {ca:Array Value} {refs nodes:Nat->Nat} (h:TrI p B w1 wr vv ca refs nodes) (vv':Value):TrI p B w1 (wr.setCell ⟨p.cb,518,none⟩ vv') vv' (ca.setIfInBounds 518 vv') refs nodes:=by
 have hs:=h.ar.size;refine⟨h.off.setCell (p:=⟨p.cb,518,none⟩) (.inl rfl) _,qi h.row _ _,⟨by simp[hs],fun a ha=>?_,fun a ha=>?_,?_⟩,fun i hi=>(qeY zO hi).trans (h.low i hi),h.lt⟩
 ·rw[Array.getElem?_setIfInBounds,if_neg zO,h.ar.ref a ha]
 ·rw[Array.getElem?_setIfInBounds,if_neg zO,h.ar.node a ha]
 ·rw[Array.getElem?_setIfInBounds,if_pos rfl,if_pos zO]
theorem YJ.grown {p:CP} {vv0 vv:Value} {w w' w'':World} (h:YJ p vv0 w w') (hn:kO vv0 w.heap.size vv) (hg:w'.grownBy w'' vv.ownBlock):YJ p vv0 w w'':=
 ⟨hg.os.trans h.os,hg.tape.trans h.tape,hg.output.trans h.output,Nat.le_trans h.size hg.size,fun k h1 h2 h3=>(hg.block k (Nat.lt_of_lt_of_le h1 h.size) (fun e=>by
  rcases hn with x|⟨g,x,y⟩
  ·exact h3 (x ▸ e.symm)
  ·rw[x] at e;cases e;omega)).trans (h.block k h1 h2 h3)⟩
theorem YJ.setC {p:CP} {vv0 u:Value} {w w':World} {i:Nat} (h:YJ p vv0 w w'):YJ p vv0 w (w'.setCell ⟨p.cb,i,none⟩ u):=
 ⟨h.os,h.tape,h.output,by simpa using h.size,fun k h1 h2 h3=>(zJ _ _ _ _ (fun e=>h2 e)).trans (h.block k h1 h2 h3)⟩
abbrev qC (s1 s2 s3 s4:Value) (gen root next:Int) (dead:Value):Array Value:=#[s1,s2,s3,s4,.int .u32 gen,.int .i64 root,.int .u32 next,dead]
def VolsC (p:CP) (w1:World) (f:Int->Option Value) (refs nodes:Nat->Nat) (s1 s2 s3 s4:Value) (gen root next:Int) (dead:Value) (h:Nat):Prop:=
 ∀ (xs:List It) (A:OA) (c:Nat) (vs:List Vol) (vv:Value) (ca:Array Value) (w:World),VolI p w1 w vs vv ca refs nodes->vs.length<=16->(∀ x∈xs,zy x)->xs.length<=5->je p.lo w1 (.slice A xs.length c) xs ->
  (qG p.S h xs).isSome=true->(0<h->∀ y∈xs,(f y.r).isSome=true) ->
  Calls prog 111 #[.pointer (some ⟨p.cb,0,none⟩),.agg (qC s1 s2 s3 s4 gen root next dead),jU h A xs.length c] w (VolsQ p w1 refs nodes next vs (qI p.S h xs) vv w)
theorem Tryz.info_vol:(Tryz.prog.info? 36).map (fun i=>(i.zero,i.size,i.bytes))=some (some (.agg #[.int .u32 0,.int .i64 0,.bool false,.int .u32 0]),4,24):=zQ
abbrev vol4 (v:Vol):Array Value:=#[.int .u32 v.id,.int .i64 v.root,.bool v.fz,.int .u32 v.frm]
structure VRel (p:CP) (w1:World) (refs nodes:Nat->Nat) (pcs:Array Value) (next:Int) (vs0:List Vol) (xs:List It) (h:Nat) (A:OA) (c:Nat) (vv0:Value) (w:World) (i:Value) (wr:World):Prop where
 ex:∃ (k:Nat) (vs:List Vol) (vv:Value) (ca:Array Value),k<=xs.length/\i=.int .i64 (k:Int)/\ZR next vs0 (qI p.S h (xs.take k))=some vs/\vs.length<=16/\VolI p w1 wr vs vv ca refs nodes/\YJ p vv0 w wr/\kO vv0 w.heap.size vv /\
  (∀ q,vv.ownBlock=some q->q≠w.heap.size/\q≠w.heap.size+1)/\wr.heap[w.heap.size]?=some (.cells pcs 32 (0,0))/\wr.heap[w.heap.size+1]?=some (.cells #[.int .i64 h,.slice A xs.length c] 113 (0,0))
set_option maxRecDepth 100000 in
theorem qhi (p:CP) (w1:World) (f:Int->Option Value) (refs nodes:Nat->Nat) (s1 s2 s3 s4:Value) (gen root next:Int) (dead:Value) (hC:Cen p w1 f) (h:Nat) (HL:∀ h',h=h'+1->VolsC p w1 f refs nodes s1 s2 s3 s4 gen root next dead h'):VolsC p w1 f refs nodes s1 s2 s3 s4 gen root next dead h:=by
 intro xs A c vs0 vv0 ca0 w HI hvl hxs hlen hCL hsp hkn;have hlo:=QZ HI.own;replace hC:=zH hC;replace HI:=zH HI;replace hxs:=zH hxs;replace hCL:=zH hCL;replace hsp:=zH hsp;replace hkn:=zH hkn;replace hlo:=zH hlo;replace HL:=zH HL;replace hvl:=zH hvl;go_enter func111,ntmps111;go_wp2;generalize hw2:(World.alloc (World.alloc _ _) _)=w2;have x2:Ext w w2:=by rw[<-hw2];exact(zN _ _).trans (zN _ _)
 have q2:w2.heap[w.heap.size]?=some (.cells (qC s1 s2 s3 s4 gen root next dead) 32 (0,0)):=by rw[<-hw2];exact(zK _ _ _ zA2).trans (zI _ _ _ rfl)
 have n2:w2.heap[w.heap.size+1]?=some (.cells #[.int .i64 h,.slice A xs.length c] 113 (0,0)):=by rw[<-hw2];exact zI _ _ _ zA2
 clear hw2;have I0:VRel p w1 refs nodes (qC s1 s2 s3 s4 gen root next dead) next vs0 xs h A c vv0 w (.int .i64 0) w2:=by
  refine⟨0,vs0,vv0,ca0,Nat.zero_le _,rfl,?_,hvl.out,HI.out.ext x2,(YJ.refl _ _ _).ext x2,kO.refl _ _,fun q hq=>?_,q2,n2⟩
  ·rw[List.take_zero,vH];rfl
  ·have:=(hlo.out q hq).2;omega
 replace I0:=zH I0;clear x2 q2 n2;go_loopw [15] (fun i wr=>VRel p w1 refs nodes (qC s1 s2 s3 s4 gen root next dead) next vs0 xs h A c vv0 w i wr) (fun i _=>xs.length-(intOf i).toNat)
 case atStart=>exact I0.out
 case round =>
  obtain⟨k,vs,vv,ca,hk,rfl,hgo,hvs,V,F,wIF,hnq,qr,nr⟩:=hrel.ex;clear I0;by_cases hlt:k<xs.length
  ·have hCJ:=hlt;obtain⟨b9,off9,rfl,hb9⟩:=hCL.out.its.at_.2.2.2 zO;obtain⟨A',c',d0,d1,d2,d3,d4,hby⟩:=(V.t.its hC.out hCL.out).its.item k hCJ;have hxk:=hxs.out xs[k] (List.getElem_mem hCJ);have HLEAF:Hid (h=0->qI p.S h (xs.take (k+1))=qI p.S h (xs.take k)++[xs[k]]):=zH fun e=>by rw[e];exact qhQ hCJ
   have HNODE:Hid (∀ h' ys lvl,h=h'+1->qu p.S xs[k].r.toNat=some (lvl,ys)->qI p.S h (xs.take (k+1))=qI p.S h (xs.take k)++qI p.S h' ys):=zH fun h' ys lvl e hn=>by rw[e];exact qhR hCJ hn
   have HONE:=zH (ZP hsp.out xs[k] (List.getElem_mem hCJ));have HKN:=zH (fun h0=>hkn.out h0 xs[k] (List.getElem_mem hCJ));have HBAD:=zH (fun hb=>@qiE p.S h xs (k+1) next vs0 hCJ hb);generalize xs[k]=x at *;have kn:=qa nr;replace V:=zH V;replace F:=zH F;replace wIF:=zH wIF;replace hnq:=zH hnq;replace hgo:=zH hgo;replace hby:=zH hby;replace hxk:=zH hxk;have hz:w.heap.size+1<wr.heap.size:=(zG.1 nr).1;replace hvs:=zH hvs;rcases Nat.eq_zero_or_pos h with hh|hh
   ·have hd:decide ((h:Int)>0)=false:=decide_eq_false zO;have hd3:¬0<h:=zO;replace hh:=zH hh;go_wp2_with fail;generalize hw3:World.alloc wr _=w3;have x3:Ext wr w3:=by rw[<-hw3];exact zN _ _
    clear hw3 d0 d1 d2 d3 d4;refine(qiF x hxk.out A' c' w3 ((hby.out.below x3).more x3.size)).mono ?_;rintro e w4 ⟨u,rfl,⟨v',rfl,hv'⟩,hB⟩;have x4:=x3.trans hB;clear hB x3;have hOF:ZR next vs0 (qI p.S h (xs.take (k+1)))=if JI next x=true/\vs.length≠16 then some (vs++[KL x]) else none:=by rw[HLEAF.out hh.out,vV,hgo.out];rfl
    have HB8:Hid (¬(JI next x=true/\vs.length≠16)->∀ W,Ext wr W->VolsQ p w1 refs nodes next vs0 (qI p.S h xs) vv0 w (.returned (.int .i64 8)) W):=zH fun hb W hx =>
     ⟨F.out.ext hx,by rw[HBAD.out (by rw[hOF,if_neg hb])]⟩
    have V4:=V.out.ext x4;obtain⟨AV,cV,rfl,-,-⟩:=qB V4.own;have kc:w4.cell? ⟨p.cb,518,none⟩=some (.slice AV vs.length cV):=by rw[qa V4.t.row];exact V4.t.ar.vol
    have kq4:=qa (qb qr x4);have hcb4:p.cb<w4.heap.size:=(zG.1 V4.t.row).1;have hqz4:w.heap.size<w4.heap.size:=by have:=x4.size;omega
    replace hOF:=zH hOF;rcases hiv:Ud x with _|_
    ·have HB:=HB8.out (fun hh=>by have:=hh.1;unfold JI at this;rw[hiv] at this;cases this);replace HB:=zH HB;replace hiv:=zH hiv;clear kc kq4 V4;go_wp2_with fail;go_ret;exact HB.out _ (x4.trans (zN _ _))
    ·have hve:=hv' hiv;have hid:v'.id=x.i:=by rw[hve];rfl
     have hgd:JI next x=(decide (x.i≠0) && decide (x.i<next)):=by unfold JI;rw[hiv,Bool.true_and]
     replace hiv:=zH hiv;replace hve:=zH hve;rcases Int.decEq v'.id 0 with hi0|hi0
     ·rcases Int.decLt v'.id next with hi1|hi1
      ·have HB:=HB8.out (fun hh=>by have:=hh.1;rw[hgd] at this;simp at this;omega);have hg1:decide (v'.id≥next)=true:=decide_eq_true zO;replace HB:=zH HB;replace hid:=zH hid;replace hgd:=zH hgd;clear hi1 hv' V4;go_wp2_with fail;go_ret;exact HB.out _ (x4.trans (zN _ _))
      ·have hg1:decide (v'.id≥next)=false:=decide_eq_false zO;have hg2:decide (next<=v'.id)=false:=decide_eq_false zO;rcases Nat.decEq vs.length 16 with h16|h16
       ·have hf1:((vs.length:Int) == 16)=false:=by rw[beq_eq_false_iff_ne];omega
        have hok:JI next x=true:=by rw[hgd];simp;omega
        replace hok:=zH hok;replace hid:=zH hid;replace hgd:=zH hgd;replace V4:=zH V4;clear hi1 hv';have h16':=zH h16;go_wp2_with fail;generalize hw5:World.alloc w4 _=w5;have x45:Ext w4 w5:=by rw[<-hw5];exact zN _ _
        have r5:w5.heap[w4.heap.size]?=some (.cells (vol4 v') 36 (0,0)):=by rw[<-hw5];exact zI _ _ _ rfl
        clear hw5 kc kq4 h16 hf1 hg1 hg2 hi0;have x5:=x4.trans x45;have V5:=V4.out.ext x45;have q5:=qb qr x5;have nr5:=qb nr x5;have hol:=QZ V5.own;have wVA:=V5.t.lt;have hbase5:=V5.t.off.size;have hvs5:=hvs.out;have hn4:(Value.slice AV vs.length cV).ownBlock≠some w4.heap.size:=fun e=>by have:=(QZ V4.out.own _ e).2;omega
        have hnc:(Value.slice AV vs.length cV).ownBlock≠some p.cb:=fun e=>by have:=(hol _ e).1;omega
        obtain⟨RR,hRR⟩:∃ RR:Rel,RR=Kk w1.heap.size 36 4 w5.heap.size (.slice AV vs.length cV) vs.length (jl vs) (vs.length+1) (jl vs++(vol4 v').toList):=⟨_,rfl⟩
        replace hRR:=zH hRR;have gV:∀ W,RR.r w5 W->W.cell? ⟨p.cb,518,none⟩=some (.slice AV vs.length cV):=fun W h=>jZ (hRR.out ▸ h) hnc (by rw[qa V5.t.row];exact V5.t.ar.vol);have gv:∀ W,RR.r w5 W->∀ i,W.cell? ⟨w4.heap.size,i,none⟩=(vol4 v')[i]?:=fun W h=>qa (VO (hRR.out ▸ h) hn4 r5);refine qp zQ ?_;refine Qa (w:=w5) RR (qM [(6,jh w5.heap.size 1 36 (vol4 v')),(7,UC w1.heap.size 36 4 w5.heap.size (.slice AV vs.length cV) (vs.length+1) (jl vs++(vol4 v').toList))])
         [true,true,true,true,true,true,true,true] 3 zQ zQ zQ zQ zQ zQ zQ ?st (Rel.drew _ _) ?walk
        case st=>rw[hRR.out];exact qj (by simp only[List.forall_mem_cons];exact⟨Xk (fun g hg=>by have:=hol g hg;omega),qaD,fun _ h=>by cases h⟩)
        case walk =>
         intro K hK;dsimp only[qw];refine zB6 ?_;refine qz (jh w5.heap.size 1 36 (vol4 v')) zA0 zA0 (fun W hW _=>?_) (fun (pb:Nat)=>?_)
         ·rw[hRR.out] at hW ⊢;refine GW ?_ hW.1.size;go_simp
         simp only[Act.put,qf,qc,qg,qv,JP,zA,zB,zC];refine qz (UC w1.heap.size 36 4 w5.heap.size (.slice AV vs.length cV) (vs.length+1) (jl vs++(vol4 v').toList)) zA0 zA0 (fun W hW hp=>?_) (fun (p7:OA×Nat)=>?_)
         ·rw[hRR.out] at hW ⊢;obtain⟨i0,hi,hz0,hz1,hz2⟩:=info_parts Tryz.info_vol;obtain⟨hLT,_⟩:=(hp 6 zD).1;obtain⟨v2,w',hGG,hD,hR'⟩:=YF (P:=prog) (lo:=w5.heap.size) W 91 91 i0 _ 24 underlying91 hi hz0 hz1 hz2 rfl zD (hW.2.1 V5.own) ⟨pb,0,none⟩ 1 1 (vol4 v').toList rfl (qcc hLT) zA7 zO zD (by have:=hW.1.size;omega) hW.1.size;obtain⟨A2,c2,rfl,_,_⟩:=qB hD.1;refine ZD (u:=.slice A2 (vs.length+1) c2) (w':=w') ?_ ⟨(A2,c2),rfl,hD,hR'⟩;exact YW (s:=.tmp 67) (x:=.tmp 69) rfl rfl rfl hGG
         obtain⟨A2,c2⟩:=p7;refine zB6 ?_;refine qA (hK _ _ fun W hW hF=>?_);have hD:=(hF 7).1;clear hF hK gV gv;rw[hRR.out] at hW;change Done _ _ _ _ _ _ _ _ W at hD;refine zB4 ?_;have TW:=V5.t.grown hW.1 (fun q hq=>(hol q hq).1);have T6:=TW.setVol (.slice A2 (vs.length+1) c2);have own6:=jE hD.1 (p:=⟨p.cb,518,none⟩) wVA (.slice A2 (vs.length+1) c2);have hcw:p.cb<w.heap.size:=Nat.lt_of_lt_of_le wVA HI.out.t.off.size;have q6:(W.setCell ⟨p.cb,518,none⟩ (.slice A2 (vs.length+1) c2)).heap[w.heap.size]?=_:=(zJ _ _ _ _ (by show w.heap.size≠p.cb;omega)).trans (VO hW (fun e=>(hnq.out _ e).1 rfl) q5);have n6:(W.setCell ⟨p.cb,518,none⟩ (.slice A2 (vs.length+1) c2)).heap[w.heap.size+1]?=_:=(zJ _ _ _ _ (by show w.heap.size+1≠p.cb;omega)).trans (VO hW (fun e=>(hnq.out _ e).2 rfl) nr5);have F6:=((F.out.ext x5).grown wIF.out hW.1).setC (i:=518) (u:=.slice A2 (vs.length+1) c2);have N6:kO vv0 w.heap.size (.slice A2 (vs.length+1) c2):=kO.trans wIF.out (n':=w5.heap.size) hD.2 (by have:=F.out.size;have:=x5.size;omega);have B6:∀ q,(Value.slice A2 (vs.length+1) c2).ownBlock=some q->q≠w.heap.size/\q≠w.heap.size+1:=by
          intro q hq;rcases hD.2 with e|⟨g,e,e2⟩
          ·exact hnq.out q (e ▸ hq)
          ·rw[e] at hq;cases hq;have:=x5.size;omega
         have kc:=qa TW.row;have kv:=TW.ar.vol;have fc:=qd TW.row;have IR:VRel p w1 refs nodes (qC s1 s2 s3 s4 gen root next dead) next vs0 xs h (some ⟨b9,off9,none⟩) c vv0 w (.int .i64 ((k:Int)+1)) (W.setCell ⟨p.cb,518,none⟩ (.slice A2 (vs.length+1) c2)):=by
          refine⟨k+1,vs++[v'],_,_,hCJ,rfl,?_,?_,⟨T6,?_⟩,F6,N6,B6,q6,n6⟩
          ·rw[hOF.out,if_pos ⟨hok.out,h16'.out⟩,hve.out]
          ·rw[List.length_append,List.length_singleton];have:=h16'.out;omega
          ·rw[List.length_append,List.length_singleton,qfK];exact own6
         replace IR:=zH IR;clear T6 own6 q6 n6 F6 N6 B6 hW hD q5 nr5 V5 r5 x5 x4 x45;replace TW:=zH TW;go_wp2;refine Qw ?_;go_wp2_with fail;refine⟨IR.out,?_⟩;simp[intOf];omega
       ·have hf1:((vs.length:Int) == 16)=true:=by rw[beq_iff_eq];omega
        have HB:=HB8.out (fun hh=>hh.2 h16);replace HB:=zH HB;replace hid:=zH hid;replace hgd:=zH hgd;replace h16:=zH h16;clear hi1 hv' V4;go_wp2_with fail;go_ret;exact HB.out _ (x4.trans (zN _ _))
     ·have HB:=HB8.out (fun hh=>by have:=hh.1;rw[hgd] at this;simp at this;omega);replace HB:=zH HB;replace hid:=zH hid;replace hgd:=zH hgd;clear hv' V4 kc kq4;go_wp2_with fail;go_ret;exact HB.out _ (x4.trans (zN _ _))
   ·have hd:decide ((h:Int)>0)=true:=decide_eq_true zO;have hd2:decide (0<h)=true:=decide_eq_true hh;replace hh:=zH hh;obtain⟨h',hh'⟩:∃ h',h=h'+1:=⟨h-1,by have:=hh.out;omega⟩
    obtain⟨b,hxr,hb1,hb2,ys,hnode,hsy⟩:=ZM (hh' ▸ HONE.out);obtain⟨v9,hv9⟩:=Option.isSome_iff_exists.1 (HKN.out hh.out);obtain⟨n9,lv9,ys',A9,c9,f9,l9,b9',e9,-,-,hn9,rfl,wBX,wPU,wPG⟩:=hC.out.known _ _ hv9;obtain rfl:b=n9:=zO;rw[hnode,Option.some.injEq,Prod.mk.injEq] at hn9;obtain⟨e1,rfl⟩:=hn9;obtain rfl:h'=lv9:=zO;have hMAP:=hC.out.map;have hmay:=(qQ hnode).1;have hys:=fun y hy=>((qQ hnode).2.1 y hy).1;have xHG:ys.length<=5:=by unfold Qn Jq at hmay;simp at hmay;omega
    have hyk:0<h'->∀ y∈ys,(f y.r).isSome=true:=fun h0=>wPG (by rw[wPU.1];exact hsy) h0;have HN2:=HNODE.out h' ys h' hh' (by rw[hxr,Int.toNat_natCast];exact hnode);have HCALL:=HL.out h' hh' ys A9 c9 vs vv ca;rw[hxr] at d3 hv9;have hfn:=qiY;replace hh':=zH hh';replace hxr:=zH hxr;replace hnode:=zH hnode;replace hsy:=zH hsy;replace wBX:=zH wBX;replace hys:=zH hys;replace hyk:=zH hyk;replace HN2:=zH HN2;replace HCALL:=zH HCALL;replace hv9:=zH hv9;clear wPU wPG hmay e9 e1;replace hMAP:=zH hMAP;go_wp2_with fail;generalize hw3:World.alloc wr _=w3;have x3:Ext wr w3:=by rw[<-hw3];exact zN _ _
    have r3:w3.heap[wr.heap.size]?=some (.cells #[.int .u8 x.k,.int .u32 x.i,.int .u32 x.o,.int .i64 b,.slice A' x.val.length c'] 51 (0,0)):=by rw[<-hw3];exact zI _ _ _ rfl
    clear hw3 d0 d1 d2 d3 d4;have V3:=V.out.ext x3;have C3:=V3.t.cen hC.out;have gP:∀ W,qm.r w3 W->∀ i,W.cell? ⟨w.heap.size,i,none⟩=(qC s1 s2 s3 s4 gen root next dead)[i]?:=fun W h=>qa (qb (qb qr x3) h);have gX:∀ W,qm.r w3 W->∀ i,W.cell? ⟨wr.heap.size,i,none⟩=#[.int .u8 x.k,.int .u32 x.i,.int .u32 x.o,.int .i64 b,.slice A' x.val.length c'][i]?:=fun W h=>qa (qb r3 h);have gM:∀ W,qm.r w3 W->W.cell? ⟨p.cb,5,none⟩=some (.map (some p.mb)):=fun W h=>by rw[qa (qb C3.row h)];exact C3.c5
    refine qp zQ ?_;refine Qa (w:=w3) qm (qM []) [true,true,true,true,true,true,true,true,true,true] 2 zQ zQ zQ zQ zQ zQ zQ ?st2 (Rel.drew _ _) ?walk2
    case st2=>exact qj (fun _ h=>by cases h)
    case walk2 =>
     intro K hK;dsimp only[qw];refine zB6 ?_;refine qe (jM h' A9 ys.length c9 f9 l9 b9') zA0 zA0 (fun W hW _=>⟨W,?_,Rel.refl _ W⟩) ?_
     ·have hWx:Ext w3 W:=hW;have hm:=Xp (P:=prog) W (C3.ext hWx).map 93 3 156 underlying93 underlying3 hv9.out;go_simp
     refine zB6 ?_;refine qA (hK _ _ fun W hW hF=>?_);have hWx:Ext w3 W:=hW;have x4:=x3.trans hWx;clear hF hK gP gX gM hfn;refine zB4 ?_;have VW:=V.out.ext x4;have qW:=qb qr x4;have nW:=qb nr x4;clear hW hWx x3 r3 V3 C3;replace VW:=zH VW;go_wp2_with fail;refine(HCALL.out W VW.out hvs.out hys.out xHG wBX.out hsy.out hyk.out).mono ?_;rintro e w6 ⟨F6,hm⟩;have hOF:ZR next vs0 (qI p.S h (xs.take (k+1)))=ZR next vs (qI p.S h' ys):=by rw[HN2.out,vV,hgo.out];rfl
     have FW:=(F.out.ext x4).trans F6 wIF.out;have hcw:p.cb<w.heap.size:=Nat.lt_of_lt_of_le V.out.t.lt HI.out.t.off.size;have hzW:w.heap.size+1<W.heap.size:=(zG.1 nW).1;have q6:=(F6.block w.heap.size zO zO (fun e=>(hnq.out _ e).1 rfl)).trans qW;have n6:=(F6.block (w.heap.size+1) zO zO (fun e=>(hnq.out _ e).2 rfl)).trans nW;rcases hg6:ZR next vs (qI p.S h' ys) with _|vs'
     ·rw[hg6] at hm hOF;obtain rfl:e=.returned (.int .i64 8):=hm;have HB:VolsQ p w1 refs nodes next vs0 (qI p.S h xs) vv0 w (.returned (.int .i64 8)) w6:=⟨FW,by rw[HBAD.out hOF]⟩
      replace HB:=zH HB;clear q6 n6 FW F6 hOF x4 qW nW;go_wp2_with fail;refine Qw ?_;go_wp2_with fail;go_ret;exact HB.out
     ·rw[hg6] at hm hOF;obtain⟨rfl,vv',ca',V6,N6⟩:=hm;have IR:VRel p w1 refs nodes (qC s1 s2 s3 s4 gen root next dead) next vs0 xs h (some ⟨b9,off9,none⟩) c vv0 w (.int .i64 ((k:Int)+1)) w6:=by
       refine⟨k+1,vs',vv',ca',hCJ,rfl,hOF,kH next _ _ _ hvs.out hg6,V6,FW,kO.trans wIF.out N6 zO,fun q hq=>?_,q6,n6⟩;rcases N6 with e|⟨g,e,e2⟩
       ·exact hnq.out q (e ▸ hq)
       ·rw[e] at hq;cases hq;omega
      replace IR:=zH IR;clear q6 n6 FW F6 hOF x4 qW nW V6 N6;go_wp2_with fail;refine Qw ?_;go_wp2_with fail;refine⟨IR.out,?_⟩;simp[intOf];omega
  ·have hke:k=xs.length:=zO;have HQ:VolsQ p w1 refs nodes next vs0 (qI p.S h xs) vv0 w (.returned (.int .i64 0)) wr:=by rw[hke,List.take_length] at hgo;exact⟨F,by rw[hgo];exact⟨rfl,vv,ca,V,wIF⟩⟩
   replace HQ:=zH HQ;replace V:=zH V;replace F:=zH F;replace wIF:=zH wIF;replace hnq:=zH hnq;replace hgo:=zH hgo;replace hke:=zH hke;clear qr nr;go_wp2;go_ret;exact HQ.out
def TreeQ (p:CP) (R:List Nat) (r:Int) (vv:Value) (w:World) (f:Int->Option Value) (e:Ending) (w':World):Prop:=
 e=.returned (.int .i64 (if okL p.S (-1) r=true then 0 else 8))/\w'.os=w.os/\w'.tape=w.tape/\w'.output=w.output/\w.heap.size<=w'.heap.size/\(∀ k,k<w.heap.size->k≠p.cb->k≠p.mb->w'.heap[k]?=w.heap[k]?) /\
  (okL p.S (-1) r=true->∃ ca g refs nodes,Cen (p.put ca) w' g/\vC f g/\Ar ca refs nodes vv/\qY p.S (R++[r.toNat]) refs nodes/\Gd p.S g (R++[r.toNat]))
theorem Tryz.info_int:(Tryz.prog.info? 3).map (fun i=>(i.zero,i.size,i.bytes))=some (some (.int .i64 0),1,8):=zQ
structure TRel (p:CP) (w1:World) (vv:Value) (R:List Nat) (v:Value) (wr:World):Prop where
 ex:∃ (s:List Nat) (rf nd:Nat->Nat) (ca:Array Value),lenV v=s.length/\wr.ownsRow w1.heap.size 3 1 v s.length (Js s)/\TrI p w1.heap.size w1 wr vv ca rf nd/\Wk p.S R rf nd s
structure IRel (p:CP) (w1:World) (vv:Value) (s':List Nat) (lv9:Nat) (xs:List It) (rf nd':Nat->Nat) (nb:Nat) (A9:OA) (c9:Nat) (v i:Value) (wq:World):Prop where
 ex:∃ (k:Nat) (rf':Nat->Nat) (ca':Array Value),k<=xs.length/\i=.int .i64 (k:Int)/\(∀ x,rf' x=rf x+(Ks xs k).count x)/\lenV v=(s'++ZW lv9 xs k).length /\
  wq.ownsRow w1.heap.size 3 1 v (s'++ZW lv9 xs k).length (Js (s'++ZW lv9 xs k))/\(∀ q,v.ownBlock=some q->q≠nb)/\TrI p w1.heap.size w1 wq vv ca' rf' nd' /\
  wq.heap[nb]?=some (.cells #[.int .i64 lv9,.slice A9 xs.length c9] 113 (0,0))
set_option maxRecDepth 100000 in
theorem tree_any (p:CP) (R:List Nat) (hRl:R.length<=100) (r:Int) (w:World) (f:Int->Option Value) (refs nodes:Nat->Nat) (vv:Value) (hC:Cen p w f) (hA:Ar p.ca refs nodes vv) (hN:qY p.S R refs nodes) (hR:Gd p.S f R):Calls prog 112 #[.pointer (some ⟨p.cb,0,none⟩),.int .i64 r] w (TreeQ p R r vv w f):=by
 replace hC:=zH hC;replace hA:=zH hA;replace hN:=zH hN;replace hR:=zH hR;have hfi:=field_is;have hfn:=qiY;go_enter func112,ntmps112;go_wp2_with fail;refine(qbx p r w f hC.out).mono ?_;rintro e w1 ⟨v,g,rfl,⟨lvl,A,n,c,fk,lk,rfl,hLA⟩,hgr,hm,hg,hn⟩;have C1:=hC.out.after hgr hm hg hn;rcases hok:okL p.S (-1) r with _|_
 ·have HQ:TreeQ p R r vv w f (.returned (.int .i64 8)) w1:=⟨by rw[hok];rfl,hg.os,hg.tape,hg.output,hg.size,fun k h1 _ h2=>hg.block k h1 zA1,fun h=>by rw[hok] at h;cases h⟩
  replace HQ:=zH HQ;replace C1:=zH C1;clear hLA hgr hm hg hn;go_wp2;go_ret;exact HQ.out
 ·obtain⟨a,rfl,hTH⟩:=vn hok;have hga:=hLA hok;have ha2:a<256:=hTH.2.1;have kc:=qa C1.row;have fc:=qd C1.row;have kr:=hA.out.ref a ha2;replace C1:=zH C1;replace hTH:=zH hTH;replace hga:=zH hga;clear hLA;have hw1:wrap64 ((refs a:Int)+1)=(refs a:Int)+1:=IntWalk.wrap64_in _ (by have:=qgM (jX.walk.1 hN.out.mkd) a;omega);have T1:TrI p w1.heap.size w1 w1 vv p.ca refs nodes:=⟨Off.refl (zM _),C1.out.row,hA.out,fun _ _=>rfl,(zG.1 C1.out.row).1⟩
  have Rk:Gd p.S g (R++[a]):=fun b hb=>by
   rcases List.mem_append.1 hb with hb|hb
   ·exact⟨(hR.out b hb).1,hgr.some_ _ (hR.out b hb).2⟩
   ·rw[List.mem_singleton.1 hb];exact⟨hTH.out,by rw[hga.out];rfl⟩
  replace Rk:=zH Rk;go_wp2_with fail;have gR:∀ W,qm.r w1 W->W.cell? ⟨p.cb,6+a,none⟩=some (.int .i64 (refs a:Int)):=fun W h=>by rw[qa (qb C1.out.row h)];exact kr
  refine qp zQ ?_;refine ZL 0 10 (.pointer (some ⟨p.cb,0,none⟩)) zQ (by simp only[List.getElem?_toArray,List.getElem?_cons_zero];exact rfl) zQ zQ zQ zA0 (fun W=>?_) ?_
  ·go_simp
  simp only[Act.put,qf,qc,qg,zA,zB,zC];refine ZL 7 9 (.pointer (some ⟨p.cb,0,none⟩)) zQ zA5 zQ zQ zQ zA0 (fun W=>?_) ?_
  ·go_simp
  simp only[Act.put,qf,qc,qg,zA,zB,zC];refine ZL 8 8 (.pointer (some ⟨p.cb,6,none⟩)) zQ zA5 zQ zQ zQ zA0 (fun W=>?_) ?_
  ·go_simp
  simp only[Act.put,qf,qc,qg,zA,zB,zC];refine ZY (w:=w1) qm (qM []) [false,true,true,true,true,true,true,false,false,true] 1 zQ zQ zQ zQ zQ zQ ?st (Rel.drew _ _) ?walk
  case st=>exact qj (fun _ h=>by cases h)
  case walk =>
   intro K hK;dsimp only[qw];refine zB5 ?_
   first
    |(refine qe (.pointer (some ⟨p.cb,6+a,none⟩)) zA0 zA0 (fun W hW _=>⟨W,?_,Rel.refl _ W⟩) ?_
      ·go_simp;intro hge;exfalso;omega
      simp only[Act.put,qf,qc,qg,zA,zB,zC])
    |skip
   refine zB5 ?_
   first
    |(refine qe (.pointer (some ⟨p.cb,6+a,none⟩)) zA0 zA0 (fun W hW _=>⟨W,?_,Rel.refl _ W⟩) ?_
      ·go_simp;intro hge;exfalso;omega
      simp only[Act.put,qf,qc,qg,zA,zB,zC])
    |skip
   refine zB5 ?_;refine qA (hK _ _ fun W hW hF=>?_);have hW':Ext w1 W:=hW;clear hF hK gR kc fc kr;refine zB4 ?_;have T2:=(T1.ext hW').addRef ha2;have rc:=qb C1.out.row hW';have kc:=qa rc;have fc:=qd rc;have kr:=hA.out.ref a ha2;go_wp2;refine Qw ?_;go_wp2_with fail;generalize hw3:World.alloc _ _=w3;have T3:TrI p w1.heap.size w1 w3 vv _ (vF refs a) nodes:=T2.ext (by rw[<-hw3];exact zN _ _);have o3:w3.ownsRow w1.heap.size 3 1 (.slice (some ⟨W.heap.size,0,none⟩) 1 1) 1 (Js [a]):=by have h:=World.ownsRow_lit (base:=w1.heap.size) (e:=3) (size:=1) (W.setCell ⟨p.cb,6+a,none⟩ (.int .i64 ((refs a:Int)+1))) #[.int .i64 (a:Int)] 1 (by simpa using hW'.size) zA6 rfl;rw[<-hw3];have hz:(W.setCell ⟨p.cb,6+a,none⟩ (.int .i64 ((refs a:Int)+1))).heap.size=W.heap.size:=zA2;rw[hz] at h;exact h
   have K3:=hN.out.start a;generalize (p.ca.setIfInBounds (6+a) _)=ca3 at T3;clear hw3 kc fc kr rc T2 hW' T1 hN hA hw1;generalize W.heap.size=g3 at *;replace T3:=zH T3;replace o3:=zH o3;replace K3:=zH K3;go_loopw [5] (fun v wr=>TRel p w1 vv (R++[a]) v wr) (fun v wr=>6*leftW wr p.cb+lenV v)
   case atStart=>exact⟨[a],_,_,_,rfl,o3.out,T3.out,K3.out⟩
   case round =>
    obtain⟨s,rf,nd,ca,hsl,hBQ,T,K⟩:=hrel.ex;clear T3 o3 K3;rcases List.eq_nil_or_concat s with rfl|⟨s',b,rfl⟩
    ·obtain⟨A,c',rfl,-,-⟩:=qB hBQ;have hd:qY p.S (R++[a]) rf nd:=K.done;have HQ:TreeQ p R (a:Int) vv w f (.returned (.int .i64 0)) wr:=by
      refine⟨by rw[hok];rfl,?_,?_,?_,?_,?_,fun _=>⟨ca,g,rf,nd,T.cen C1.out,hgr,T.ar,?_,?_⟩⟩
      ·exact T.off.os.trans hg.os
      ·exact T.off.tape.trans hg.tape
      ·exact T.off.output.trans hg.output
      ·exact Nat.le_trans hg.size T.off.size
      ·intro k h1 h2 h3;exact(T.off.block k (Nat.lt_of_lt_of_le h1 hg.size) h2).trans (hg.block k h1 zA1)
      ·simpa using hd
      ·simpa using Rk.out
     replace HQ:=zH HQ;replace T:=zH T;replace K:=zH K;replace hd:=zH hd;clear hBQ hsl hgr hm hg hn;go_wp2;go_ret;exact HQ.out
    ·rw[List.concat_eq_append] at *;obtain⟨m,hm0⟩:∃ m,m=s'.length:=⟨_,rfl⟩
     rw[List.length_append,List.length_singleton,<-hm0] at hBQ;rw[Ya] at hBQ;rcases hBQ.2 with ⟨h0,-⟩|⟨gb,cap,cur,rfl,hgb,hCA,hnc,hcm,hcs,htk⟩
     ·exfalso;have:=hBQ.1;simp[Xz] at this;rw[h0] at hsl;simp[lenV] at hsl
     ·obtain⟨gb',off',e0,hgb',hDL⟩:=(Rd.of_own hBQ).2 zO;simp only[Option.some.injEq,Addr.mk.injEq,and_true] at e0;obtain⟨rfl,rfl⟩:=e0;have kb:=hDL m (.int .i64 (b:Int)) (by rw[List.getElem?_append_right (by rw[Xz];omega),Xz,<-hm0];simp);rw[Nat.zero_add] at kb;clear hDL;have wTI:=Yp (xs:=Js s') (news:=[.int .i64 (b:Int)]) (n:=m) (m:=1) hBQ (by rw[Xz,hm0];omega);obtain⟨hbt,hbk⟩:=Rk.out.reach C1.out.known (K.wk.stk b (List.mem_append_right _ (List.mem_singleton.2 rfl)));have hb2:=hbt.2.1;have hw2:wrap64 ((m:Int)+1-1)=(m:Int):=by rw[IntWalk.wrap64_in _ (by unfold maxLen at hcm;omega)];omega
      have hw22:wrap64 (m:Int)=(m:Int):=IntWalk.wrap64_in _ (by unfold maxLen at hcm;omega);replace hBQ:=zH hBQ;replace wTI:=zH wTI;replace T:=zH T;replace K:=zH K;replace hbt:=zH hbt;replace hbk:=zH hbk;replace hm0:=zH hm0;replace hsl:=zH hsl;have hmc:m<=cap:=Nat.le_of_succ_le hnc;have hcap:¬cap=0:=fun e=>by rw[e] at hnc;exact absurd hnc (Nat.not_succ_le_zero _)
      clear hCA;clear htk hcs hgr hm hg hn hgb hcm hnc;have kn0:=T.out.ar.node b hb2;have hw3:wrap64 ((nd b:Int)+1)=(nd b:Int)+1:=IntWalk.wrap64_in _ (by have:=K.out.few b;simp at this;omega);go_wp2_with fail;have gN:∀ W,qm.r wr W->W.cell? ⟨p.cb,262+b,none⟩=some (.int .i64 (nd b:Int)):=fun W h=>by rw[qa (qb T.out.row h)];exact kn0
      refine qp zQ ?_;refine ZL 0 10 (.pointer (some ⟨p.cb,0,none⟩)) zQ (by simp only[List.getElem?_toArray,List.getElem?_cons_zero];exact rfl) zQ zQ zQ zA0 (fun W=>?_) ?_
      ·go_simp
      simp only[Act.put,qf,qc,qg,zA,zB,zC];refine ZL 2 9 (.pointer (some ⟨p.cb,0,none⟩)) zQ zA5 zQ zQ zQ zA0 (fun W=>?_) ?_
      ·go_simp
      simp only[Act.put,qf,qc,qg,zA,zB,zC];refine ZL 7 8 (.pointer (some ⟨p.cb,0,none⟩)) zQ zA5 zQ zQ zQ zA0 (fun W=>?_) ?_
      ·go_simp
      simp only[Act.put,qf,qc,qg,zA,zB,zC];refine ZL 8 7 (.pointer (some ⟨p.cb,262,none⟩)) zQ zA5 zQ zQ zQ zA0 (fun W=>?_) ?_
      ·go_simp
      simp only[Act.put,qf,qc,qg,zA,zB,zC];refine ZY (w:=wr) qm (qM []) [false,true,false,true,true,true,true,false,false,true] 1 zQ zQ zQ zQ zQ zQ ?st (Rel.drew _ _) ?walk
      case st=>exact qj (fun _ h=>by cases h)
      case walk =>
       intro K' hK';dsimp only[qw];refine zB5 ?_
       first
        |(refine qe (.pointer (some ⟨p.cb,262+b,none⟩)) zA0 zA0 (fun W hW _=>⟨W,?_,Rel.refl _ W⟩) ?_
          ·go_simp;intro hge;exfalso;omega
          simp only[Act.put,qf,qc,qg,zA,zB,zC])
        |skip
       refine zB5 ?_
       first
        |(refine qe (.pointer (some ⟨p.cb,262+b,none⟩)) zA0 zA0 (fun W hW _=>⟨W,?_,Rel.refl _ W⟩) ?_
          ·go_simp;intro hge;exfalso;omega
          simp only[Act.put,qf,qc,qg,zA,zB,zC])
        |skip
       refine zB5 ?_;refine qA (hK' _ _ fun W hW hF=>?_);have hWx:Ext wr W:=hW;clear hF hK' gN;refine zB4 ?_;have T2:=(T.out.ext hWx).addNode hb2;have rc:=qb T.out.row hWx;have kc:=qa rc;have fc:=qd rc;have o2:(W.setCell ⟨p.cb,262+b,none⟩ (.int .i64 ((nd b:Int)+1))).ownsRow w1.heap.size 3 1 (.slice (some ⟨gb,0,none⟩) m cap) m (Js s'):=jE (QR wTI.out hWx) (p:=⟨p.cb,262+b,none⟩) T.out.lt _;generalize (ca.setIfInBounds (262+b) _)=ca4 at T2;replace rc:=zH rc;go_wp2;refine Qw ?_;rw[hw3];generalize hw4:W.setCell ⟨p.cb,262+b,none⟩ (.int .i64 ((nd b:Int)+1))=w4 at *;clear hw4 kc fc rc hWx;replace T2:=zH T2;replace o2:=zH o2;have kc:=qa T2.out.row;have kn2:=T2.out.ar.node b hb2;have hbb:vF nd b b=nd b+1:=by unfold vF;rw[if_pos rfl]
       rw[hbb] at kn2;have kq:w4.cell? ⟨p.cb,262+b,none⟩=some (.int .i64 ((nd b:Int)+1)):=(kc _).trans kn2;have kq5:w4.cell? ⟨p.cb,5,none⟩=some (.map (some p.mb)):=(kc _).trans ((T2.out.low 5 zO).trans C1.out.c5);clear kc kn2;rcases Nat.eq_zero_or_pos (nd b) with hz|hz
       ·have hc1:decide (((nd b+1:Nat):Int)>1)=false:=decide_eq_false zO;have hc2:decide ((nd b:Int)+1>1)=false:=decide_eq_false zO;replace hz:=zH hz;go_wp2_with (at_lookup;refine Qg ?_);obtain⟨v9,hv9⟩:=Option.isSome_iff_exists.1 hbk.out;obtain⟨n9,lv9,xs,A9,c9,f9,l9,b9,e9,-,-,hnode,rfl,hCL,-,-⟩:=C1.out.known _ _ hv9;obtain rfl:b=n9:=zO;have hMap:=(T2.out.cen C1.out).map;refine QI.go (UY _ rfl (.tmp 61) (.tmp 62) 93 rfl underlying93 underlying3 rfl rfl hMap hv9 ?_);have hmay:=(qQ hnode).1;have hxs:=(qQ hnode).2.1;have hlen:xs.length<=5:=by unfold Qn Jq at hmay;simp at hmay;omega
        clear hMap hv9 hmay kq kq5;replace hnode:=zH hnode;replace hCL:=zH hCL;replace hxs:=zH hxs;go_wp2_with fail;generalize hw5:World.alloc w4 _=w5;have T5:=T2.out.ext (by rw[<-hw5];exact zN _ _:Ext w4 w5);have o5:=QR o2.out (by rw[<-hw5];exact zN _ _:Ext w4 w5);have n5:w5.heap[w4.heap.size]?=some (.cells #[.int .i64 lv9,.slice A9 xs.length c9] 113 (0,0)):=by rw[<-hw5];exact zI _ _ _ rfl
        have z5:gb<w4.heap.size:=(QZ o2.out gb rfl).2;clear hw5;have hlt9:=T2.out.lt;have hB4:=T2.out.off.size;generalize w4.heap.size=nb at *;have I0:IRel p w1 vv s' lv9 xs rf (vF nd b) nb A9 c9 (.slice (some ⟨gb,0,none⟩) m cap) (.int .i64 0) w5:=by
         refine⟨0,rf,ca4,Nat.zero_le _,rfl,fun x=>by rw[qkx];rfl,?_,?_,fun q hq=>?_,T5,n5⟩
         ·rw[qam,List.append_nil];exact hm0.out
         ·rw[qam,List.append_nil,<-hm0.out];exact o5
         ·simp[Value.ownBlock] at hq;omega
        replace I0:=zH I0;clear o5 T5 n5;go_loopw [5,68] (fun v i wq=>IRel p w1 vv s' lv9 xs rf (vF nd b) nb A9 c9 v i wq) (fun _ i _=>xs.length-(intOf i).toNat)
        case atStart=>exact I0.out
        case round =>
         obtain⟨k,rf',ca',hk,rfl,hrf,hvl,hFW,hnb,TI,nI⟩:=hrel.ex;clear I0;by_cases hlt:k<xs.length
         ·have hCJ:=hlt;obtain⟨b9',off9,rfl,hb9⟩:=hCL.out.its.at_.2.2.2 zO;obtain⟨A',c',d0,d1,d2,d3,d4,-⟩:=(TI.its C1.out hCL.out).its.item k hCJ;obtain⟨⟨-,-,-,⟨hr1,hr2⟩,-⟩,-⟩:=hxs.out xs[k] (List.getElem_mem hCJ);have HSK:=zH (fun h=>qgI (lvl:=lv9) hCJ h);have HPU:=zH (fun h h'=>qgH (lvl:=lv9) hCJ h h');have HRS:=zH (fun h=>qkw hCJ h hrf);have HRB:=zH (fun h=>qkv hCJ h hrf);generalize xs[k]=x at *;obtain⟨r,hr⟩:=Int.eq_ofNat_of_zero_le hr1;rw[hr] at d3 hr2;have hr3:r<256:=zO;rw[hr,Int.toNat_natCast] at HSK HPU HRS HRB;clear hr1 hr2;replace hr:=zH hr;replace hrf:=zH hrf;replace TI:=zH TI;replace hFW:=zH hFW;replace hvl:=zH hvl;replace hnb:=zH hnb;rcases Nat.eq_zero_or_pos r with hr0|hr0
          ·have hq1:((r:Int) == 0)=true:=by rw[beq_iff_eq];omega
           have wKZ:=HRS.out hr0;have hpt:=HSK.out (.inl hr0);replace hr0:=zH hr0;replace wKZ:=zH wKZ;replace hpt:=zH hpt;go_wp2_with fail;refine⟨⟨k+1,rf',ca',hCJ,rfl,wKZ.out,?_,?_,hnb.out,TI.out.ext (zN _ _),qb nI (zN _ _)⟩,by simp[intOf];omega⟩
           ·rw[hpt.out];exact hvl.out
           ·rw[hpt.out];exact QR hFW.out (zN _ _)
          ·have hq1:((r:Int) == 0)=false:=by rw[beq_eq_false_iff_ne];omega
           have wWE:¬r=0:=zO;have wKZ:=HRB.out wWE;replace wKZ:=zH wKZ;replace wWE:=zH wWE;clear hr0;go_wp2_with fail;generalize hw6:World.alloc wr _=w6;have x6:Ext wr w6:=by rw[<-hw6];exact zN _ _
           have r6:w6.heap[wr.heap.size]?=some (.cells #[.int .u8 x.k,.int .u32 x.i,.int .u32 x.o,.int .i64 r,.slice A' x.val.length c'] 51 (0,0)):=by rw[<-hw6];exact zI _ _ _ rfl
           clear hw6 d0 d1 d2 d3 d4;have T6:=TI.out.ext x6;have o6:=QR hFW.out x6;have n6:=qb nI x6;have kr0:=T6.ar.ref r hr3;have hw6:wrap64 ((rf' r:Int)+1)=(rf' r:Int)+1:=IntWalk.wrap64_in _ (by have h1:=hrf.out r;have h2:=List.count_le_length (a:=r) (l:=Ks xs k);have h3:=qce (xs:=xs) (k:=k);have h4:=qgM K.out.wk r;simp at h4;omega);have gR:∀ W,qm.r w6 W->W.cell? ⟨p.cb,6+r,none⟩=some (.int .i64 (rf' r:Int)):=fun W h=>by rw[qa (qb T6.row h)];exact kr0
           have gI:∀ W,qm.r w6 W->∀ i,W.cell? ⟨wr.heap.size,i,none⟩=#[.int .u8 x.k,.int .u32 x.i,.int .u32 x.o,.int .i64 r,.slice A' x.val.length c'][i]?:=fun W h=>qa (qb r6 h);refine qp zQ ?_;refine ZL 0 11 (.pointer (some ⟨p.cb,0,none⟩)) zQ (by simp only[List.getElem?_toArray,List.getElem?_cons_zero];exact rfl) zQ zQ zQ zA0 (fun W=>?_) ?_
           ·go_simp
           simp only[Act.put,qf,qc,qg,zA,zB,zC];refine ZL 3 10 (.pointer (some ⟨p.cb,0,none⟩)) zQ zA5 zQ zQ zQ zA0 (fun W=>?_) ?_
           ·go_simp
           simp only[Act.put,qf,qc,qg,zA,zB,zC];refine ZL 8 9 (.pointer (some ⟨p.cb,0,none⟩)) zQ zA5 zQ zQ zQ zA0 (fun W=>?_) ?_
           ·go_simp
           simp only[Act.put,qf,qc,qg,zA,zB,zC];refine ZL 9 8 (.pointer (some ⟨p.cb,6,none⟩)) zQ zA5 zQ zQ zQ zA0 (fun W=>?_) ?_
           ·go_simp
           simp only[Act.put,qf,qc,qg,zA,zB,zC];refine ZY (w:=w6) qm (qM []) [false,true,true,false,true,true,true,true,false,false,true] 1 zQ zQ zQ zQ zQ zQ ?st (Rel.drew _ _) ?walk
           case st=>exact qj (fun _ h=>by cases h)
           case walk =>
            intro K2 hK2;dsimp only[qw];refine zB5 ?_
            first
             |(refine qe (.pointer (some ⟨p.cb,6+r,none⟩)) zA0 zA0 (fun W hW _=>⟨W,?_,Rel.refl _ W⟩) ?_
               ·go_simp;intro hge;exfalso;omega
               simp only[Act.put,qf,qc,qg,zA,zB,zC])
             |skip
            refine zB5 ?_
            first
             |(refine qe (.pointer (some ⟨p.cb,6+r,none⟩)) zA0 zA0 (fun W hW _=>⟨W,?_,Rel.refl _ W⟩) ?_
               ·go_simp;intro hge;exfalso;omega
               simp only[Act.put,qf,qc,qg,zA,zB,zC])
             |skip
            refine zB5 ?_;refine qA (hK2 _ _ fun W hW hF=>?_);have hWx:Ext w6 W:=hW;clear hF hK2 gR gI;refine zB4 ?_;have T7:=(T6.ext hWx).addRef hr3;have rc:=qb T6.row hWx;have kc:=qa rc;have fc:=qd rc;have hlp:=T6.lt;have o7:(W.setCell ⟨p.cb,6+r,none⟩ (.int .i64 ((rf' r:Int)+1))).ownsRow w1.heap.size 3 1 _ _ _:=jE (QR o6 hWx) (p:=⟨p.cb,6+r,none⟩) hlp _;have n7:(W.setCell ⟨p.cb,6+r,none⟩ (.int .i64 ((rf' r:Int)+1))).heap[nb]?=_:=(zJ _ _ _ _ (by show nb≠p.cb;omega)).trans (qb n6 hWx);have r7:(W.setCell ⟨p.cb,6+r,none⟩ (.int .i64 ((rf' r:Int)+1))).heap[wr.heap.size]?=_:=(zJ _ _ _ _ (by show wr.heap.size≠p.cb;have:=TI.out.off.size;omega)).trans (qb r6 hWx);generalize (ca'.setIfInBounds (6+r) _)=ca7 at T7;replace rc:=zH rc;go_wp2;refine Qw ?_;rw[hw6];generalize hw7:W.setCell ⟨p.cb,6+r,none⟩ (.int .i64 ((rf' r:Int)+1))=w7 at *;clear hw7 kc fc rc hWx T6 o6 n6 x6 r6 kr0 hw6;have kn7:=qa n7;have kr7:=qa r7;replace T7:=zH T7;replace o7:=zH o7;rcases Nat.eq_zero_or_pos lv9 with hv0|hv0
            ·have hq3:decide ((lv9:Int)>0)=false:=decide_eq_false zO;have hq4:decide (0<lv9)=false:=decide_eq_false zO;have hpt:=HSK.out (.inr hv0);replace hpt:=zH hpt;replace hv0:=zH hv0;go_wp2_with fail;refine⟨⟨k+1,vF rf' r,ca7,hCJ,rfl,wKZ.out,?_,?_,hnb.out,T7.out,n7⟩,by simp[intOf];omega⟩
             ·rw[hpt.out];exact hvl.out
             ·rw[hpt.out];exact o7.out
            ·have hq3:decide ((lv9:Int)>0)=true:=decide_eq_true zO;have hq4:decide (0<lv9)=true:=decide_eq_true hv0;have hpt:=HPU.out wWE.out hv0;replace hpt:=zH hpt;replace hv0:=zH hv0;have hlv7:=hvl.out;have wVY:=hnb.out;have hz7:nb<w7.heap.size:=(zG.1 n7).1;have wJL:(s'++ZW lv9 xs k).length<1073741824:=by
              have h1:=K.out.few b;have h2:(ZW lv9 xs k).length<=k:=by
               unfold ZW;split
               ·exact qce
               ·simp
              simp at h1;rw[List.length_append];omega
             replace hlv7:=zH hlv7;replace wVY:=zH wVY;replace wJL:=zH wJL;obtain⟨i0,hi,hz0,hz1,hz2⟩:=info_parts Tryz.info_int;go_wp2_with (at_builtin;refine Qg ?_);refine QI.go (jF _ rfl (.tmp 89) (.tmp 92) 30 rfl w1.heap.size 3 i0 (.int .i64 0) 1 8 underlying30 hi hz0 hz1 hz2 rfl zD _ _ _ rfl o7.out #[.int .i64 (r:Int)] rfl rfl zA7 wJL.out zD T7.out.off.size ?_);intro v8 w8 own8 g8 _ wYE;have T8:=T7.out.grown g8 fun q hq=>(QZ o7.out q hq).1;have n8:=(g8.block nb hz7 (fun e=>wVY.out nb e.symm rfl)).trans n7;have hnb8:∀ q,v8.ownBlock=some q->q≠nb:=by
              intro q hq;rcases wYE with e|⟨q',e,e2⟩
              ·exact wVY.out q (e.symm.trans hq)
              ·rw[e] at hq;cases hq;omega
             obtain⟨A8,c8,hv8,-,-⟩:=qB own8;have wXT:lenV v8=(s'++ZW lv9 xs (k+1)).length:=by rw[hv8,hpt.out];simp only[lenV,List.length_append,List.length_cons,List.length_nil];omega
             have own9:w8.ownsRow w1.heap.size 3 1 v8 (s'++ZW lv9 xs (k+1)).length (Js (s'++ZW lv9 xs (k+1))):=by
              have hcat:(s'++ZW lv9 xs (k+1)).length=(s'++ZW lv9 xs k).length+1:=by rw[hpt.out,<-List.append_assoc,List.length_append,List.length_singleton]
              rw[hcat,hpt.out,<-List.append_assoc,Ya];exact own8
             have IR:IRel p w1 vv s' lv9 xs rf (vF nd b) nb (some ⟨b9',off9,none⟩) c9 v8 (.int .i64 ((k:Int)+1)) w8:=⟨k+1,vF rf' r,ca7,hCJ,rfl,wKZ.out,wXT,own9,hnb8,T8,n8⟩
             replace IR:=zH IR;clear own8 g8 wYE hv8 wXT own9 hnb8 T8 n8 hi hz0 hz1 hz2;go_wp2_with fail;refine⟨IR.out,?_⟩;simp[intOf];omega
         ·have hke:k=xs.length:=zO;subst hke;have KN:=K.out.new hz.out hb2 hnode.out hrf;have e1:=Up T.out.row T.out.ar;have e2:=Up TI.row TI.ar;have e3:=TP (M:=vz nd) (a:=b) (decide_eq_false (by have:=hz.out;omega)) 256;rw[<-Kp,if_pos hb2] at e3;have hpl:(ZW lv9 xs xs.length).length<=5:=by
           unfold ZW;split
           ·exact Nat.le_trans qce hlen
           ·simp
          replace e3:=zH e3;clear hw2 hw22 hw3;go_wp2_with fail;go_roundw
          case rel =>exact⟨s'++ZW lv9 xs xs.length,rf',vF nd b,ca',hvl,hFW,TI,KN⟩
          case measure =>rw[e1,e2,hvl,List.length_append,<-hm0.out];have e3':=e3.out;simp only[lenV];omega
       ·have hc1:decide (((nd b+1:Nat):Int)>1)=true:=decide_eq_true zO;have hc2:decide ((nd b:Int)+1>1)=true:=decide_eq_true zO;replace hz:=zH hz;go_wp2_with fail;go_roundw
        case rel =>exact⟨s',rf,vF nd b,ca4,hm0.out,by rw[<-hm0.out];exact o2.out,T2.out,K.out.again hz.out⟩
        case measure =>have e1:=Up T.out.row T.out.ar;have e2:=Up T2.out.row T2.out.ar;rw[Kq hz.out] at e2;rw[e1,e2];simp[lenV]
def ca0 (s1 s2 s3 s4:Value) (bb mb:Nat):Array Value:=(#[s1,s2,s3,s4,.pointer (some ⟨bb,0,none⟩),.map (some mb)]++Array.replicate 512 (.int .i64 0))++#[.slice none 0 0]
theorem ca_eq (s1 s2 s3 s4:Value) (bb mb:Nat):(((((Tryz.zeroCells96.setIfInBounds 0 s1).setIfInBounds 1 s2).setIfInBounds 2 s3).setIfInBounds 3 s4).setIfInBounds 4 (.pointer (some ⟨bb,0,none⟩))).setIfInBounds 5 (.map (some mb))=ca0 s1 s2 s3 s4 bb mb:=zQ
theorem qhh (p:CP) (w1:World) (f:Int->Option Value) (refs nodes:Nat->Nat) (s1 s2 s3 s4:Value) (gen root next:Int) (dead:Value) (hC:Cen p w1 f):∀ h:Nat,VolsC p w1 f refs nodes s1 s2 s3 s4 gen root next dead h
 |0=>qhi p w1 f refs nodes s1 s2 s3 s4 gen root next dead hC 0 fun _ e=>zO
 |h+1=>qhi p w1 f refs nodes s1 s2 s3 s4 gen root next dead hC (h+1) fun h' e=>by obtain rfl:h=h':=zO;exact qhh p w1 f refs nodes s1 s2 s3 s4 gen root next dead hC h
theorem ca0_ar (s1 s2 s3 s4:Value) (bb mb:Nat):Ar (ca0 s1 s2 s3 s4 bb mb) (fun _=>0) (fun _=>0) (.slice none 0 0):=by
 unfold ca0;refine⟨zA2,fun a ha=>?_,fun a ha=>?_,?_⟩
 ·rw[Array.getElem?_append_left zA1,Array.getElem?_append_right zA2];simp[Array.getElem?_replicate];omega
 ·rw[Array.getElem?_append_left zA1,Array.getElem?_append_right zA1];simp[Array.getElem?_replicate];omega
 ·rw[Array.getElem?_append_right zA2];simp
theorem ca0_low (s1 s2 s3 s4:Value) (bb mb:Nat) {i:Nat} (hi:i<6):(ca0 s1 s2 s3 s4 bb mb)[i]?=(#[s1,s2,s3,s4,.pointer (some ⟨bb,0,none⟩),.map (some mb)]:Array Value)[i]?:=by unfold ca0;rw[Array.getElem?_append_left zA1,Array.getElem?_append_left zA1]
theorem Zl.empty (w:World):Zl (w.alloc (.map #[] 0)) w.heap.size fun _=>none:=⟨#[],0,zI _ _ _ rfl,fun _ h=>absurd h (List.not_mem_nil),fun _=>rfl⟩
def TR (S:Sto) (root next:Int):Option (List Vol):=match qu S root.toNat with
 |none=>none
 |some (lvl,xs)=>ZR next [] (qI S lvl.toNat xs)
def ZU (root:Int) (dead:List Int) (vs:List Vol):List Int:=(root :: dead)++vs.map (·.root)
structure Qo (S:Sto) (root next:Int) (dead:List Int) (vs:List Vol):Prop where
 may:ql S=true
 few:dead.length<=40
 top:okL S (-1) root=true
 vols:TR S root next=some vs
 ok:∀ r∈ZU root dead vs,okL S (-1) r=true
def QB (S:Sto) (refs:Nat->Nat):Prop:=∀ a,a<256->refs a<=(S.now[a]?.getD 0).toNat
def Zw (w:World) (B:Nat) (v:Value) (l:List Int):Prop:=∃ A c,v=.slice A l.length c/\l.length<=c/\c<=maxLen/\Rd w B 1 A l.length (l.map fun (a:Int)=>Value.int .i64 a)
def Qj (root:Int) (dead:List Int) (vs:List Vol):List Nat:=(ZU root dead vs).map Int.toNat
structure Taken (S:Sto) (root next:Int) (dead:List Int) (vs:List Vol) (refs nodes:Nat->Nat) (lo cb:Nat) (ca:Array Value) (vv:Value) (w:World):Prop where
 pool:Qo S root next dead vs
 cnt:qY S (Qj root dead vs) refs nodes
 enough:QB S refs
 low:lo<=cb
 row:w.heap[cb]?=some (.cells ca 96 (0,0))
 ar:Ar ca refs nodes vv
 own:w.ownsRow lo 36 4 vv vs.length (jl vs)
def XZ (S:Sto) (root next:Int) (dead:List Int) (w:World) (e:Ending) (w':World):Prop:=Below w.heap.size w w' /\
 ((e=.returned (.tuple #[.pointer none,.int .i64 8])/\∀ vs,Qo S root next dead vs->∃ refs nodes,qY S (Qj root dead vs) refs nodes/\¬QB S refs) \/
  ∃ vs refs nodes cb ca vv,e=.returned (.tuple #[.pointer (some ⟨cb,0,none⟩),.int .i64 0])/\Taken S root next dead vs refs nodes w.heap.size cb ca vv w')
theorem XZ.bad {S:Sto} {root next:Int} {dead:List Int} {w w':World} (hB:Below w.heap.size w w') (h:∀ vs,¬Qo S root next dead vs):XZ S root next dead w (.returned (.tuple #[.pointer none,.int .i64 8])) w':=
 ⟨hB,.inl ⟨rfl,fun vs hp=>absurd hp (h vs)⟩⟩
def GA (l:List Int):List Value:=l.map fun (a:Int)=>Value.int .i64 a
theorem qku (l:List Int) (a:Int):GA (l++[a])=GA l++[Value.int .i64 a]:=by simp[GA]
theorem rowI_get (l:List Int) (k:Nat) (h:k<l.length):(GA l)[k]?=some (.int .i64 l[k]):=by unfold GA;rw[List.getElem?_map,zL h];rfl
def vT (root:Int) (dead:List Int) (vs:List Vol) (k:Nat):List Int:=(root :: dead)++(vs.take k).map (·.root)
theorem qgS (root:Int) (dead:List Int) (vs:List Vol) {k:Nat} (h:k<=vs.length):(vT root dead vs k).length=1+dead.length+k:=by unfold vT;simp;omega
theorem qeU (root:Int) (dead:List Int) (vs:List Vol) {k:Nat} (h:k<vs.length):vT root dead vs (k+1)=vT root dead vs k++[vs[k].root]:=by unfold vT;rw[List.take_succ_eq_append_getElem h,List.map_append,<-List.append_assoc];rfl
theorem qao (root:Int) (dead:List Int) (vs:List Vol):vT root dead vs vs.length=ZU root dead vs:=by unfold vT ZU;rw[List.take_length]
theorem Xw (vs:List Vol):∀ k (h:k<vs.length),(jl vs)[k*4]?=some (.int .u32 vs[k].id)/\(jl vs)[k*4+1]?=some (.int .i64 vs[k].root)/\(jl vs)[k*4+2]?=some (.bool vs[k].fz)/\(jl vs)[k*4+3]?=some (.int .u32 vs[k].frm):=by
 induction vs with
 |nil=>intro k h;exact absurd h (Nat.not_lt_zero _)
 |cons v r ih =>
  intro k h;cases k with
  |zero=>exact⟨rfl,rfl,rfl,rfl⟩
  |succ k =>
   have:=ih k (by simpa using h);have e:jl (v :: r)=[.int .u32 v.id,.int .i64 v.root,.bool v.fz,.int .u32 v.frm]++jl r:=rfl;rw[e];have hg:∀ j,([.int .u32 v.id,.int .i64 v.root,.bool v.fz,.int .u32 v.frm]++jl r:List Value)[(k+1)*4+j]?=(jl r)[k*4+j]?:=fun j=>by rw[List.getElem?_append_right (by simp only[List.length_cons,List.length_nil];omega)];congr 1;simp only[List.length_cons,List.length_nil];omega
   exact⟨(hg 0).trans this.1,(hg 1).trans this.2.1,(hg 2).trans this.2.2.1,(hg 3).trans this.2.2.2⟩
theorem qY.zero (S:Sto):qY S [] (fun _=>0) (fun _=>0):=
 ⟨jX.walk.2 (vY.nil (fun _=>rfl) fun _=>rfl),fun a=>by have:=qcq (vz fun _=>0) 256;simp only[List.length_nil];omega⟩
structure qay (cb mb:Nat) (w w':World):Prop where
 os:w'.os=w.os
 tape:w'.tape=w.tape
 output:w'.output=w.output
 size:w.heap.size<=w'.heap.size
 block:∀ k,k<w.heap.size->k≠cb->k≠mb->w'.heap[k]?=w.heap[k]?
theorem qay.refl (cb mb:Nat) (w:World):qay cb mb w w:=⟨rfl,rfl,rfl,zM _,fun _ _ _ _=>rfl⟩
theorem qay.trans {cb mb:Nat} {w w' w'':World} (h:qay cb mb w w') (h':qay cb mb w' w''):qay cb mb w w'':=
 ⟨h'.os.trans h.os,h'.tape.trans h.tape,h'.output.trans h.output,Nat.le_trans h.size h'.size,fun k h1 h2 h3=>(h'.block k (Nat.lt_of_lt_of_le h1 h.size) h2 h3).trans (h.block k h1 h2 h3)⟩
theorem qay.below {cb mb B:Nat} {w0 w w':World} (h:qay cb mb w w') (hb:Below B w0 w) (hB:B<=w.heap.size) (h1:B<=cb) (h2:B<=mb):Below B w0 w':=
 ⟨h.os.trans hb.os,h.tape.trans hb.tape,h.output.trans hb.output,Nat.le_trans hb.size h.size,fun k hk=>(h.block k zO zO zO).trans (hb.block k hk)⟩
structure R2 (p:CP) (w8:World) (vv:Value) (roots:List Int) (i:Value) (wr:World):Prop where
 ex:∃ (k:Nat) (g:Int->Option Value) (ca:Array Value) (refs nodes:Nat->Nat),k<=roots.length/\i=.int .i64 (k:Int)/\Cen (p.put ca) wr g/\Ar ca refs nodes vv/\qY p.S ((roots.take k).map Int.toNat) refs nodes/\Gd p.S g ((roots.take k).map Int.toNat) /\
  (∀ r∈roots.take k,okL p.S (-1) r=true)/\qay p.cb p.mb w8 wr
section
variable {P:Program} {ops:Array Oper} {rest:List Oper} {o:Oper} {a:Act} {w:World} {Q:Exit->Act->World->Prop}
theorem qcZ (g off:Nat) (ty:TypeId) (cs:List Value) (d:TypeDesc) (hc:∀ j v,cs[j]?=some v->w.cell? ⟨g,off+j,none⟩=some v) (hu:P.underlying ty=some d) (hd:(match d with | .struct _ | .array _ _=>true|_=>false)=true) (hi:(P.info? ty).map (·.size)=some cs.length) : (loadVar ty ⟨g,off,none⟩).run P w=.ok (.agg cs.toArray) w:=by
 have hl:(loadCells ⟨g,off,none⟩ cs.length).run P w=.ok cs.toArray w:=
  run_loadCells_list (P:=P) w ⟨g,off,none⟩ cs (fun j v hv=>by
   have hadd:(⟨g,off,none⟩:Addr).add j=⟨g,off+j,none⟩:=by unfold Addr.add;split <;> simp_all
   rw[hadd];exact hc j v hv)
 cases hq:P.info? ty with
 |none=>simp[hq] at hi
 |some i =>
  have hs:i.size=cs.length:=by simpa [hq] using hi
  have hagg:(isAgg ty).run P w=.ok true w:=by unfold isAgg;rw[Sem.run_bind,run_underlying hu w];cases d <;> simp_all
  simp[loadVar,Sem.run_bind,hagg,sizeOf,typeInfo,hq,hs,hl]
theorem KO (hgd:o.guard=none) (ty:TypeId) (x:Operand) (ho:o.op=.load ty x) (g off:Nat) (hx:a.eval x=.pointer (some ⟨g,off,none⟩)) (cs:List Value) (d:TypeDesc) (hc:∀ j v,cs[j]?=some v->w.cell? ⟨g,off+j,none⟩=some v) (hu:P.underlying ty=some d) (hd:(match d with | .struct _ | .array _ _=>true|_=>false)=true) (hi:(P.info? ty).map (·.size)=some cs.length) (h:wpList P ops Q rest (a.put o.dst (.agg cs.toArray)) w):wpList P ops Q (o :: rest) a w:=by
 refine wpList_plain hgd fun K hK=>?_;unfold Oper.wp execOp;simp only[ho,hx,Instr.loadAt,Instr.sureAddr,Sem.run_bind,Sem.run_pure,Result.andThen_ok,qcZ g off ty cs d hc hu hd hi];exact hK _ _ h
end
def YT (f:Nat->Nat):List Value:=(List.range 256).map fun a=>Value.int .i64 ((f a:Nat):Int)
theorem qaX (f:Nat->Nat) {k:Nat} (h:k<256):(YT f)[k]?=some (.int .i64 ((f k:Nat):Int)):=by unfold YT;rw[List.getElem?_map,List.getElem?_range h];rfl
theorem qiP {f:Nat->Nat} {j:Nat} {v:Value} (h:(YT f)[j]?=some v):j<256/\v=.int .i64 ((f j:Nat):Int):=by
 have hj:j<256:=by have:=(List.getElem?_eq_some_iff.1 h).1;simpa [YT] using this
 rw[qaX f hj] at h;cases h;exact⟨hj,rfl⟩
structure R3 (S:Sto) (refs:Nat->Nat) (w9:World) (i:Value) (wr:World):Prop where
 ex:∃ k:Nat,k<=256/\i=.int .i64 (k:Int)/\(∀ a,a<k->refs a<=(S.now[a]?.getD 0).toNat)/\wr=w9
theorem own_kept {cb mb:Nat} {w w':World} {base n size:Nat} {e:TypeId} {v:Value} {xs:List Value} (h:w.ownsRow base e size v n xs) (hk:qay cb mb w w') (h1:cb<base) (h2:mb<base):w'.ownsRow base e size v n xs:=by
 refine⟨h.1,?_⟩;rcases h.2 with h0|⟨g,cap,cur,hv,hb,hg,hr⟩
 ·exact .inl h0
 ·exact .inr ⟨g,cap,cur,hv,hb,(hk.block g (zG.1 hg).1 zO zO).trans hg,hr⟩
structure R1 (w6:World) (root:Int) (dead:List Int) (vs:List Vol) (v i:Value) (wr:World):Prop where
 ex:∃ k:Nat,k<=vs.length/\i=.int .i64 (k:Int)/\wr.ownsRow w6.heap.size 3 1 v (1+dead.length+k) (GA (vT root dead vs k))/\Ext w6 wr
end Go.Proofs.YtmeadnlmepcmbaaGreat
