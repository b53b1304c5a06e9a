/- Lemmas of the proof. -/
import Derived.Test.YtmeadnlmepcmbaaGreatZT06
set_option linter.all false
set_option maxHeartbeats 8000000
open Go.Proofs.Tryz
open Bool renaming true→D,false→O
open Go renaming Value→E,World→Y
open Go.Value renaming int→I,pointer→U,slice→Jx
open Option renaming some→J,none→Z
open Go.IntKind renaming i64→X,u32→Oc
open Go.Ending renaming returned→Oa
open Go.World renaming alloc→Ob
open Go.Obj renaming cells→Od
namespace Go.Proofs.YtmeadnlmepcmbaaGreat
open Go.RowKit
variable {S:Sto}{xs ys:List It}{k h n n' B i cb mb j:Nat}{lvl:Int}{p:CP}{vv vv' vv0 u v:Value}{w w' w'' w1 wr:World}{vs:List Vol}{ca:Array Value}{refs nodes f:Nat->Nat}{dead:List Int}{e:TypeId}
section
variable {R:Rel}
section
variable {P:Program} {ops:Array Oper} {w0:World}
def Vd(ops:Array Oper)(listed:Array Bool):Prop:=∀(i:Nat)(o:Oper),ops[i]?=o->listed.getD i O=D->∀k∈qO o,listed.getD k O=D
def YX(ops:Array Oper)(listed:Array Bool):Bool:=(List.range ops.size).all λi=>!(listed.getD i O)||(match ops[i]? with|some o=>(qO o).all λk=>listed.getD k O|none=>D)
theorem vC{listed:Array Bool}(h:YX ops listed=D):Vd ops listed:=by intro i o ho hi k hk;have h1:=List.all_eq_true.1 h i (List.mem_range.2 (zG.1 ho).1);rw[hi,ho]at h1;simp only[Bool.not_true,Bool.false_or]at h1;exact List.all_eq_true.1 h1 k hk
theorem VS{listed:Array Bool}{j:Nat}(hj:j∈Region.ready .any ops listed){o:Oper}(ho:ops[j]?=o):∀k∈qO o,listed.getD k O=D:=by intro k hk;obtain⟨_,o',rE,aW⟩:=mem_ready.1 hj;rw[ho]at rE;cases rE;obtain⟨e,he,nJ⟩:=List.mem_map.1 hk;rw[List.mem_filter]at he;rw[<-nJ];exact aW e (by simpa using he.1) he.2
theorem Vy{listed:Array Bool}{j k:Nat}(h:listed.getD k O=D):(listed.setIfInBounds j D).getD k O=D:=by
 rcases Nat.lt_or_ge k listed.size with h'|h'
 simp only[Array.getD_eq_getD_getElem?,Array.getElem?_setIfInBounds]at h⊢;by_cases e:j=k;subst e;simp[h'];rw[if_neg e];exact h;simp[Array.getElem?_eq_none h']at h
theorem Vd.step{listed:Array Bool}{j:Nat}(h:Vd ops listed)(hj:j∈Region.ready .any ops listed):Vd ops (listed.setIfInBounds j D):=by
 intro i o ho hi k hk;by_cases e:i=j;subst e;exact Vy (VS hj ho k hk);refine Vy (h i o ho ?_ k hk);simp only[Array.getD_eq_getD_getElem?,Array.getElem?_setIfInBounds]at hi⊢
 rwa [if_neg (λx=>e x.symm)]at hi
def TE(ops:Array Oper):Nat->Nat->Nat->Bool
 |0,_,_=>O
 |n+1,j,k=>match ops[j]? with
  |some o=>(qO o).contains k||(qO o).any λi=>TE ops n i k
  |none=>O
theorem vW{listed:Array Bool}(h:Vd ops listed):∀(n j k:Nat),(∀o,ops[j]?=J o->∀i∈qO o,listed.getD i O=D)->TE ops n j k=D->listed.getD k O=D
 |0,_,_,_,hw=>by cases hw
 |n+1,j,k,hp,hw=>by
  unfold TE at hw;split at hw;rename_i o ho;rw[Bool.or_eq_true]at hw;rcases hw with hw|hw
  exact hp o ho k (by simpa using hw);obtain⟨i,hi,hw⟩:=List.any_eq_true.1 hw;exact vW h n i k (λo' rE=>h i o' rE (hp o ho i hi)) hw;cases hw
def qfr(ops:Array Oper)(L:Array Bool)(ks:List Nat):Bool:=(List.range ops.size).all λj=>L.getD j D||ks.all λk=>TE ops 9 j k
theorem Xy{L:Array Bool}{ks:List Nat}(h:qfr ops L ks=D):∀(listed:Array Bool)(j:Nat),Vd ops listed->j∈Region.ready .any ops listed->L.getD j D=O->∀k,k∈ks->listed.getD k O=D:=by intro listed j hc hj hm k hk;obtain⟨_,o,ho,_⟩:=mem_ready.1 hj;have h1:=List.all_eq_true.1 h j (List.mem_range.2 (zG.1 ho).1);rw[hm,Bool.false_or]at h1;exact vW hc 9 j k (λo' rE=>VS hj rE) (List.all_eq_true.1 h1 k hk)
theorem qen{H:Nat->Option Qb}(hH:∀i h,H i=J h->∀p,qS R (h.φ p)){A:Nat->Prop}{Cl:Array Bool->Prop}{L:Array Bool}{Q:Act->qN->Prop}{i:Nat}{oi:Oper}(hi:ops[i]?=oi)(him:A i)(iD:∀(j:Nat)(o:Oper)cs b,ops[j]?=o->o.op≠.select cs b)(az:∀listed j,Cl listed->j∈Region.ready .any ops listed->Cl (listed.setIfInBounds j D))(bJ:∀(listed:Array Bool)(j:Nat),Cl listed->j∈Region.ready .any ops listed->L.getD j D=O->∀k,A k->listed.getD k O=D):∀(fuel:Nat)(listed:Array Bool)(a:Act)(F:qN),Cl listed -> (∀j oj,ops[j]?=J oj->j≠i->listed.getD j D=O->(∀e∈oj.after,Region.binds .any e=D->e.on≠i)->oi.apart ops oj=D) ->
   i∈Region.ready .any ops listed->(∀k,qS R (F k))->XO R w0 F->(∀k,listed.getD k D=O->∀W,F k W) ->
   FOpG R P ops w0 H i oi (kR R P ops w0 H L Q fuel (listed.setIfInBounds i D)) a F->kR R P ops w0 H L Q (fuel+1) listed a F:=by
 intro fuel;induction fuel with
 |zero=>
  intro listed a F pJ _ hr aJ hc _ dw;refine⟨λh=>(by rw[h]at hr;cases hr),λj hj oj dD=>?_⟩;by_cases hji:j=i;subst hji;rw[hi]at dD;cases dD;exact dw;exfalso;obtain⟨h,hok,hK⟩:=dw;obtain⟨p,dU⟩:=hok.some_ hc aJ;have hmj:L.getD j D=O:=by rw[<-(hK p dU).1];exact(mem_ready.1 (ready_mono hj hji)).1
  have h1:=bJ listed j pJ hj hmj i him;have h0:=(mem_ready.1 hr).1;rcases Nat.lt_or_ge i listed.size with h'|h'
  simp[h']at h0 h1;rw[h0]at h1;cases h1;simp[Array.getElem?_eq_none h']at h1
 |succ fuel ih=>
  intro listed a F pJ dF hr aJ hc eU dw;refine⟨λh=>(by rw[h]at hr;cases hr),λj hj oj dD=>?_⟩;by_cases hji:j=i;subst hji;rw[hi]at dD;cases dD;exact dw;obtain⟨bK,oj',iL,aW⟩:=mem_ready.1 hj;rw[dD]at iL;cases iL;obtain⟨iY,oi',lJ,gZ⟩:=mem_ready.1 hr;rw[hi]at lJ;cases lJ;have bad:∀k,listed.getD k D=O->listed.getD k O=D->False:=λk h0 h1=>by
   rcases Nat.lt_or_ge k listed.size with h'|h'
   simp[h']at h0 h1;rw[h0]at h1;cases h1;simp[Array.getElem?_eq_none h']at h1
  have lH:∀e∈oj.after,Region.binds .any e=D->e.on≠i:=λe he hb nK=>bad i iY (nK▸aW e he hb);have lI:∀e∈oi.after,Region.binds .any e=D->e.on≠j:=λe he hb nK=>bad j bK (nK▸gZ e he hb);have eF:i∉qO oj:=λhin=>by obtain⟨e,he,nJ⟩:=List.mem_map.1 hin;rw[List.mem_filter]at he;exact lH e (by simpa using he.1) he.2 nJ
  have rG:j∉qO oi:=λhin=>by obtain⟨e,he,nJ⟩:=List.mem_map.1 hin;rw[List.mem_filter]at he;exact lI e (by simpa using he.1) he.2 nJ
  have dW:=dF j oj dD hji bK lH;have uH:∀cs b,oi.op≠.select cs b:=λcs b=>iD i oi cs b hi;have pF:∀cs b,oj.op≠.select cs b:=λcs b=>iD j oj cs b dD;obtain⟨h2,_⟩:=(Oper.apart_spec dW).2;obtain⟨hI,okI,yg⟩:=dw;obtain⟨p0,pO⟩:=okI.some_ hc aJ;obtain⟨hJ,okJ0,_⟩:=(yg p0 pO).2 j (ready_mono hj hji) oj dD;have okJ:jL R P ops w0 H j oj a F hJ:=(jL.move dW pF eF).1 okJ0;refine⟨hJ,okJ,λq hcq=>?_⟩;have stJ:=okJ.stable hH q;have fE:∀k ok,ops[k]?=J ok->k≠i->(listed.setIfInBounds j D).getD k D=O ->
    (∀e∈ok.after,Region.binds .any e=D->e.on≠i)->oi.apart ops ok=D:=λk ok hk eX lT aj=>by
   refine dF k ok hk eX ?_ aj;by_cases hjk:j=k;subst hjk;exact bK;rw[getD_set_ne D hjk]at lT;exact lT
  refine ih (listed.setIfInBounds j D) _ _ (az _ _ pJ hj) fE (ready_mono hr (Ne.symm hji)) (jo aJ j oj stJ) hcq ?_ ?_;intro k hk W;by_cases hjk:j=k;subst hjk;exfalso;have hlt:j<listed.size:=by
   rcases Nat.lt_or_ge j listed.size with h'|h'
   exact h';simp[Array.getElem?_eq_none h']at bK
  simp[hlt]at hk;rw[getD_set_ne D hjk]at hk;have:=eU k hk W;unfold upd;rw[if_neg (λe=>hjk e.symm)];exact this;refine⟨hI,(jL.move' dW uH rG).2 okI,λp dU=>?_⟩;have tH:XO R w0 (upd F i oi (hI.φ p)):=by
   obtain⟨W,hW,hF⟩:=dU;refine⟨W,hW,λk=>?_⟩;have hk:=hF k;by_cases eX:k=i;subst eX;unfold upd at hk⊢;rw[if_pos rfl]at hk⊢;refine⟨hk.1,λl hl=>?_⟩;have:=hk.2 l hl
   rwa [if_neg (λe=>rG (by rw[<-e];exact hl))]at this
   by_cases hkj:k=j;subst hkj;unfold upd;rw[if_neg eX];exact eU k bK W;unfold upd at hk⊢;rw[if_neg eX,if_neg hkj]at hk;rw[if_neg eX];exact hk
  obtain⟨xH,okJ',sU⟩:=(yg p tH).2 j (ready_mono hj hji) oj dD;have okJ'':jL R P ops w0 H j oj a F xH:=(jL.move dW pF eF).1 okJ';have e:=okJ''.unique hc okJ;subst e;have hq:=sU q (by rw[VX F _ _ (Ne.symm hji) eF rG];exact dU);rw[Array.setIfInBounds_comm _ _ (λe=>hji e.symm),Act.put_comm a (hI.f p) (xH.f q) h2,VX F _ _ (Ne.symm hji) eF rG]at hq;exact hq
theorem TF{H:Nat->Option Qb}(hH:∀i h,H i=J h->∀p,qS R (h.φ p)){Cl:Array Bool->Prop}{L:Array Bool}{ks:List Nat}{Q:Act->qN->Prop}(hs:Region.noSelect ops=D)(az:∀listed j,Cl listed->j∈Region.ready .any ops listed->Cl (listed.setIfInBounds j D))(bJ:∀(listed:Array Bool)(j:Nat),Cl listed->j∈Region.ready .any ops listed->L.getD j D=O->∀k,k∈ks->listed.getD k O=D):∀(l:List (Nat×Oper))(listed:Array Bool)(a:Act)(F:qN),Cl listed->(∀x∈l,ops[x.1]?=J x.2/\x.1∈ks) ->
  Zu ops L (l.map (·.1)) listed=D->(∀k,qS R (F k))->XO R w0 F->(∀j,listed.getD j D=O->∀W,F j W)->jC R P ops w0 H Q l a F->kR R P ops w0 H L Q l.length listed a F
 |[],listed,a,F,_,_,hB,_,_,_,h=>⟨by simpa [Zu]using hB,h⟩
 |(k,o)::l,listed,a,F,pJ,hl,hB,aJ,hc,eU,h=>by
  obtain⟨h0,yJ⟩:=hl (k,o) (List.mem_cons_self);simp only[List.map_cons,Zu,Bool.and_eq_true]at hB;obtain⟨⟨hr,hf⟩,mi⟩:=hB;have wV:k∈Region.ready .any ops listed:=by simpa using hr
  have pV:=(mem_ready.1 wV).1;refine qen (A:=λk=>k∈ks) hH h0 yJ (Region.noSelect_spec hs) az bJ l.length listed a F pJ (Region.free_spec h0 hf) wV aJ hc eU ?_;obtain⟨hh,hok,hK⟩:=h;refine⟨hh,hok,λp dU=>?_⟩;refine TF hH hs az bJ l _ _ _ (az _ _ pJ wV) (λx hx=>hl x (List.mem_cons_of_mem _ hx)) mi (jo aJ k o (hok.stable hH p)) dU (λj hj W=>?_) (hK p dU);by_cases hjk:k=j;subst hjk;have hlt:k<listed.size:=by
   rcases Nat.lt_or_ge k listed.size with h'|h'
   exact h';simp[Array.getElem?_eq_none h']at pV
  simp[hlt]at hj;rw[getD_set_ne D hjk]at hj;have:=eU j hj W;unfold upd;rw[if_neg (λe=>hjk e.symm)];exact this
theorem qY{l:List Oper}{Q:Exit->Act->Y->Prop}{fuel:Nat}{listed:Array Bool}{a:Act}{w W:Y}(R:Rel)(H:Nat->Option Qb)(M:List Bool)(t:Nat)(hs:Region.noSelect l.toArray=D)(ht:qfr l.toArray (QW l.length (l.length-t)) ((qv 0 l M).map (·.1))=D)(dX:YX l.toArray listed=D)(hB:Zu l.toArray (QW l.length (l.length-t)) ((qv 0 l M).map (·.1)) listed=D)(mD:qaa l.toArray t (l.length-t) (QW l.length (l.length-t))=D)(hfu:fuel=(qv 0 l M).length+t)(mO:(l.drop (l.length-t)).length=t)(hH:∀i h,H i=J h->∀p,qS R (h.φ p))(hW:R.r w W)(h:∀K:Act->qN->Prop,(∀a' F',(∀W,R.r w W->(∀k,F' k W)->wpList P l.toArray Q (l.drop (l.length-t)) a' W)->K a' F')->jC R P l.toArray w H K (qv 0 l M) a (λ_ _=>True)):wpAny P .any l.toArray Q fuel listed a W:=by
 have h:=h _ (λa' F' hh=>hh);subst hfu;have key:=TF (w0:=w) hH hs (λ_ _ h=>h.step) (Xy ht) (qv 0 l M) listed a (λ_ _=>True) (vC dX) (λx hx=>by obtain⟨j,h1,h2⟩:=vK l M 0 x hx;refine⟨?_,List.mem_map.2 ⟨x,hx,rfl⟩⟩;rw[h1,Nat.zero_add];simpa using h2) hB (λ_ _ _ _ _=>trivial) ⟨W,hW,λ_=>trivial⟩ (λ_ _ _=>trivial) h;refine KD (w0:=w) hH (t:=t) (Q':=Q) (λa F W hq hW hF=>?_) _ _ _ _ W (λ_ _ _ _ _=>trivial) hW (λ_=>trivial) key;have:=Kg (l.drop (l.length-t)) (l.length-t) _ a W (λj _=>by rw[List.getElem?_drop];simp) (by rw[mO];exact mD) (hq W hW hF)
 rwa [mO]at this
end
end
def qu(S:Sto):Nat->List It->List It
 |0,xs=>xs
 |h+1,xs=>xs.flatMap λy=>match qo S y.r.toNat with
  |none=>[]
  |some (_,ys)=>qu S h ys
def jq(next:Int)(y:It):Bool:=Ks y&&(decide (y.i≠0)&&decide (y.i<next))
def Zq(next:Int):List Vol->List It->Option (List Vol)
 |vs,[]=>J vs
 |vs,y::r=>if jq next y=D/\vs.length≠16 then Zq next (vs++[JG y]) r else Z
theorem Ya(next:Int)(vs:List Vol)(y:It)(r:List It):Zq next vs (y::r)=if jq next y=D/\vs.length≠16 then Zq next (vs++[JG y]) r else Z:=rfl
theorem Ze(S:Sto)(h:Nat)(xs:List It):qu S (h+1) xs=xs.flatMap λy=>match qo S y.r.toNat with|none=>[]|some (_,ys)=>qu S h ys:=rfl
theorem VC(next:Int):∀(l m:List It)(vs:List Vol),Zq next vs (l++m)=(Zq next vs l).bind λvs'=>Zq next vs' m
 |[],m,vs=>rfl
 |y::r,m,vs=>by
  rw[List.cons_append,Ya,Ya];split
  ·exact VC next r m _
  rfl
theorem KC(next:Int):∀(l:List It)(vs vs':List Vol),vs.length<=16->Zq next vs l=vs'->vs'.length<=16
 |[],vs,vs',h,e=>by cases e;exact h
 |y::r,vs,vs',h,e=>by
  unfold Zq at e;split at e
  ·rename_i hc;exact KC next r _ vs' (by rw[List.length_append,List.length_singleton];have:=hc.2;omega) e
  cases e
theorem XB(next:Int):∀(l:List It)(vs:List Vol),vs.length<=16->Zq next vs l=if l.all (jq next)=D/\vs.length+l.length<=16 then J (vs++l.map JG)else Z
 |[],vs,h=>by unfold Zq;rw[if_pos ⟨rfl,by simpa using h⟩];simp
 |y::r,vs,h=>by
  unfold Zq;by_cases hg:jq next y=D
  ·by_cases hl:vs.length=16;rw[if_neg (λx=>x.2 hl),if_neg (λx=>by have:=x.2;simp at this;omega)];rw[if_pos ⟨hg,hl⟩,XB next r _ (by rw[List.length_append,List.length_singleton];omega)];simp only[List.all_cons,hg,Bool.true_and,List.length_append,List.length_cons,List.length_nil,List.append_assoc,List.map_cons,List.cons_append,List.nil_append];by_cases h1:r.all (jq next)=D/\vs.length+(0+1)+r.length<=16;rw[if_pos h1,if_pos ⟨h1.1,zO⟩];rw[if_neg h1,if_neg (λx=>h1 ⟨x.1,zO⟩)]
  rw[if_neg (λx=>hg x.1),if_neg (λx=>by have:=x.1;simp only[List.all_cons,Bool.and_eq_true]at this;exact hg this.1)]
theorem qjE(hk:k<xs.length):qu S 0 (xs.take (k+1))=qu S 0 (xs.take k)++[xs[k]]:=List.take_succ_eq_append_getElem hk
theorem qjF(hk:k<xs.length)(hn:qo S xs[k].r.toNat=J (lvl,ys)):qu S (h+1) (xs.take (k+1))=qu S (h+1) (xs.take k)++qu S h ys:=by rw[List.take_succ_eq_append_getElem hk,Ze,Ze,List.flatMap_append];simp[hn]
theorem Ja(h:Nat):qu S h []=[]:=by cases h<;>rfl
theorem qhK(hk:k<=xs.length):∃r,qu S h xs=qu S h (xs.take k)++r:=by
 cases h with
 |zero=>exact⟨xs.drop k,(List.take_append_drop k xs).symm⟩
 |succ h=>
  refine⟨qu S (h+1) (xs.drop k),?_⟩;have:=(List.take_append_drop k xs).symm
  conv=>lhs;rw[this]
  rw[Ze,Ze,Ze,List.flatMap_append]
theorem qkv{S:Sto}{h:Nat}{xs:List It}{k:Nat}{next:Int}{vs:List Vol}(hk:k<=xs.length)(hb:Zq next vs (qu S h (xs.take k))=Z):Zq next vs (qu S h xs)=Z:=by obtain⟨r,hr⟩:=qhK (S:=S) (h:=h) hk;rw[hr,VC,hb];rfl
def jG(vs:List Vol):List E:=vs.flatMap λv=>[I Oc v.id,I X v.root,.bool v.fz,I Oc v.frm]
theorem qhm(vs:List Vol)(v:Vol):jG (vs++[v])=jG vs++[I Oc v.id,I X v.root,.bool v.fz,I Oc v.frm]:=by simp[jG]
structure VolI(p:CP)(w1 w:Y)(vs:List Vol)(vv:E)(ca:Array E)(refs nodes:Nat->Nat):Prop where
 t:TrI p w1 w1 w vv ca refs nodes
 own:w.ownsRow w1 36 4 vv vs.length (jG vs)
structure XK(p:CP)(vv:E)(w w':Y):Prop where
 os:w'.os=w.os
 tape:w'.tape=w.tape
 output:w'.output=w.output
 size:w.heap.size<=w'
 block:∀k,k<w.heap.size->k≠p.cb->vv.ownBlock≠J k->w'.heap[k]?=w.heap[k]?
def KF(vv:E)(n:Nat)(vv':E):Prop:=vv'.ownBlock=vv.ownBlock\/∃g,vv'.ownBlock=J g/\n<=g
def VolsQ(p:CP)(w1:Y)(refs nodes:Nat->Nat)(next:Int)(vs:List Vol)(l:List It)(vv:E)(w:Y)(e:Ending)(w':Y):Prop:=
 XK p vv w w'/\match Zq next vs l with
  |none=>e=Oa (I X 8)
  |some vs'=>e=Oa (I X 0)/\∃vv' ca',VolI p w1 w' vs' vv' ca' refs nodes/\KF vv w vv'
theorem XK.refl(p:CP)(vv:E)(w:Y):XK p vv w w:=⟨rfl,rfl,rfl,zM _,λ_ _ _ _=>rfl⟩
theorem XK.ext(h:XK p vv w w')(hx:Ext w' w''):XK p vv w w'':=
 ⟨hx.os.trans h.os,hx.tape.trans h.tape,hx.output.trans h.output,Nat.le_trans h.size hx.size,λk h1 h2 h3=>(hx.block k (Nat.lt_of_lt_of_le h1 h.size)).trans (h.block k h1 h2 h3)⟩
theorem XK.trans(h:XK p vv w w')(h':XK p vv' w' w'')(hn:KF vv w vv'):XK p vv w w'':=
 ⟨h'.os.trans h.os,h'.tape.trans h.tape,h'.output.trans h.output,Nat.le_trans h.size h'.size,λk h1 h2 h3=>(h'.block k (Nat.lt_of_lt_of_le h1 h.size) h2 (λe=>by
  rcases hn with x|⟨g,x,y⟩
  exact h3 (x▸e)
  ·rw[x]at e;cases e;omega)).trans (h.block k h1 h2 h3)⟩
theorem KF.refl(vv:E)(n:Nat):KF vv n vv:=.inl rfl
theorem KF.trans{vv'':E}(h:KF vv n vv')(h':KF vv' n' vv'')(hn:n<=n'):KF vv n vv'':=by
 rcases h' with x|⟨g,x,y⟩
 rcases h with z|⟨g,z,y⟩
 exact .inl (x.trans z);exact .inr ⟨g,x.trans z,y⟩;exact .inr ⟨g,x,zO⟩
theorem VolI.ext(h:VolI p w1 w vs vv ca refs nodes)(hx:Ext w w'):VolI p w1 w' vs vv ca refs nodes:=⟨h.t.ext hx,zu h.own hx⟩
theorem TrI.setVol(h:TrI p B w1 wr vv ca refs nodes)(vv':E):TrI p B w1 (wr.setCell (p.cb,518) vv') vv' (ca.setIfInBounds 518 vv') refs nodes:=by have hs:=h.ar.size;refine⟨h.off.setCell (p:=⟨p.cb,518,Z⟩) (.inl rfl) _,qi h.row _ _,⟨by simp[hs],λa ha=>?_,λa ha=>?_,?_⟩,λi hi=>(qgy zO hi).trans (h.low i hi),h.lt⟩;rw[Array.getElem?_setIfInBounds,if_neg zO,h.ar.ref a ha];rw[Array.getElem?_setIfInBounds,if_neg zO,h.ar.node a ha];rw[Array.getElem?_setIfInBounds,if_pos rfl,if_pos zO]
theorem XK.grown(h:XK p vv0 w w')(hn:KF vv0 w vv)(hg:w'.grownBy w'' vv.ownBlock):XK p vv0 w w'':=
 ⟨hg.os.trans h.os,hg.tape.trans h.tape,hg.output.trans h.output,Nat.le_trans h.size hg.size,λk h1 h2 h3=>(hg.block k (Nat.lt_of_lt_of_le h1 h.size) (λe=>by
  rcases hn with x|⟨g,x,y⟩
  exact h3 (x▸e.symm)
  ·rw[x]at e;cases e;omega)).trans (h.block k h1 h2 h3)⟩
theorem XK.setC(h:XK p vv0 w w'):XK p vv0 w (w'.setCell (p.cb,i) u):=
 ⟨h.os,h.tape,h.output,by simpa using h.size,λk h1 h2 h3=>(zJ _ _ _ _ (λe=>h2 e)).trans (h.block k h1 h2 h3)⟩
abbrev qR(s1 s2 s3 s4:E)(gen root next:Int)(dead:E):Array E:=#[s1,s2,s3,s4,I Oc gen,root,I Oc next,dead]
def VolsC(p:CP)(w1:Y)(f:Int->Option E)(refs nodes:Nat->Nat)(s1 s2 s3 s4:E)(gen root next:Int)(dead:E)(h:Nat):Prop:=
 ∀(xs:List It)(A:OA)(c:Nat)(vs:List Vol)(vv:E)(ca:Array E)(w:Y),VolI p w1 w vs vv ca refs nodes->vs.length<=16->(∀x∈xs,Zb x)->xs.length<=5->ZO p.lo w1 (Jx A xs.length c) xs ->
  (qz p.S h xs).isSome=D->(0<h->∀y∈xs,(f y.r).isSome=D) ->
  Calls prog 111 #[U p.cb,.agg (qR s1 s2 s3 s4 gen root next dead),jW h A xs.length c] w (VolsQ p w1 refs nodes next vs (qu p.S h xs) vv w)
theorem Tryz.info_vol:(Tryz.prog.info? 36).map (λi=>(i.zero,i.size,i.bytes))=J (J (.agg #[I Oc 0,I X 0,.bool O,I Oc 0]),4,24):=zQ
abbrev vol4(v:Vol):Array E:=#[I Oc v.id,I X v.root,.bool v.fz,I Oc v.frm]
structure VRel(p:CP)(w1:Y)(refs nodes:Nat->Nat)(pcs:Array E)(next:Int)(vs0:List Vol)(xs:List It)(h:Nat)(A:OA)(c:Nat)(vv0:E)(w:Y)(i:E)(wr:Y):Prop where
 ex:∃(k:Nat)(vs:List Vol)(vv:E)(ca:Array E),k<=xs.length/\i=I X (k:Int)/\Zq next vs0 (qu p.S h (xs.take k))=vs/\vs.length<=16/\VolI p w1 wr vs vv ca refs nodes/\XK p vv0 w wr/\KF vv0 w vv /\
  (∀q,vv.ownBlock=J q->q≠w.heap.size/\q≠w.heap.size+1)/\wr.heap[w.heap.size]?=J (Od pcs 32)/\wr.heap[w.heap.size+1]?=J (Od #[h,Jx A xs.length c] 113)
set_option maxRecDepth 100000 in
theorem qiK(p:CP)(w1:Y)(f:Int->Option E)(refs nodes:Nat->Nat)(s1 s2 s3 s4:E)(gen root next:Int)(dead:E)(hC:Cen p w1 f)(h:Nat)(HL:∀h',h=h'+1->VolsC p w1 f refs nodes s1 s2 s3 s4 gen root next dead h'):VolsC p w1 f refs nodes s1 s2 s3 s4 gen root next dead h:=by
 intro xs A c vs0 vv0 ca0 w HI ax ng hlen aG aK pU;have aQ:=Qn HI.own;replace⟨hC,HI,ng,aG,aK,pU⟩:=zH6 hC HI ng aG aK pU;replace⟨aQ,HL,ax⟩:=zH3 aQ HL ax;go_enter func111,ntmps111;go_wp2;generalize cO:(Ob (Ob _ _) _)=w2;have x2:Ext w w2:=by rw[<-cO];exact(zN _ _).trans (zN _ _)
 have q2:w2.heap[w.heap.size]?=J (Od (qR s1 s2 s3 s4 gen root next dead) 32):=by rw[<-cO];exact(zK _ _ _ zA3).trans (zI _ _ _ rfl)
 have n2:w2.heap[w.heap.size+1]?=J (Od #[h,Jx A xs.length c] 113):=cO▸zI _ _ _ zA3;clear cO;have I0:VRel p w1 refs nodes (qR s1 s2 s3 s4 gen root next dead) next vs0 xs h A c vv0 w (I X 0) w2:=by refine⟨0,vs0,vv0,ca0,Nat.zero_le _,rfl,?_,ax.out,HI.out.ext x2,(XK.refl _ _ _).ext x2,KF.refl _ _,λq hq=>?_,q2,n2⟩;rw[List.take_zero,Ja];rfl;have:=(aQ.out q hq).2;omega
 replace I0:=zH I0;clear x2 q2 n2;go_loopw [15] (λi wr=>VRel p w1 refs nodes (qR s1 s2 s3 s4 gen root next dead) next vs0 xs h A c vv0 w i wr) (λi _=>xs.length-(intOf i).toNat)
 case atStart=>exact I0.out
 case round=>
  obtain⟨k,vs,vv,ca,hk,rfl,hgo,hvs,V,F,uB,yP,qr,nr⟩:=hrel.ex;clear I0;by_cases hlt:k<xs.length
  ·have aO:=hlt;obtain⟨b9,off9,rfl,hb9⟩:=aG.out.its.at_.2.2.2 zO;obtain⟨A',c',d0,d1,d2,d3,d4,af⟩:=(V.t.its hC.out aG.out).its.item k aO;have hxk:=ng.out xs[k] (List.getElem_mem aO);have HLEAF:Hid (h=0->qu p.S h (xs.take (k+1))=qu p.S h (xs.take k)++[xs[k]]):=zH λe=>by rw[e];exact qjE aO
   have HNODE:Hid (∀h' ys lvl,h=h'+1->qo p.S xs[k].r.toNat=J (lvl,ys)->qu p.S h (xs.take (k+1))=qu p.S h (xs.take k)++qu p.S h' ys):=zH λh' ys lvl e hn=>by rw[e];exact qjF aO hn
   have HONE:=zH (Qt aK.out xs[k] (List.getElem_mem aO));have HKN:=zH (λh0=>pU.out h0 xs[k] (List.getElem_mem aO));have HBAD:=zH (λhb=>@qkv p.S h xs (k+1) next vs0 aO hb);generalize xs[k]=x at*;have kn:=qa nr;replace⟨V,F,uB,yP,hgo,af⟩:=zH6 V F uB yP hgo af;replace hxk:=zH hxk;have hz:w.heap.size+1<wr:=(zG.1 nr).1;replace hvs:=zH hvs;rcases Nat.eq_zero_or_pos h with hh|hh
   ·have hd:decide ((h:Int)>0)=O:=decide_eq_false zO;have hd3:¬0<h:=zO;replace hh:=zH hh;go_wp2_with fail;generalize aP:Ob wr _=w3;have x3:Ext wr w3:=aP▸zN _ _;clear aP d0 d1 d2 d3 d4;refine(qkw x hxk.out A' c' w3 ((af.out.below x3).more x3.size)).mono ?_;rintro e w4 ⟨u,rfl,⟨v',rfl,wZ⟩,hB⟩;have x4:=x3.trans hB;clear hB x3;have bI:Zq next vs0 (qu p.S h (xs.take (k+1)))=if jq next x=D/\vs.length≠16 then J (vs++[JG x])else Z:=by rw[HLEAF.out hh.out,VC,hgo.out];rfl
    have HB8:Hid (¬(jq next x=D/\vs.length≠16)->∀W,Ext wr W->VolsQ p w1 refs nodes next vs0 (qu p.S h xs) vv0 w (Oa (I X 8)) W):=zH λhb W hx=>
     ⟨F.out.ext hx,by rw[HBAD.out (by rw[bI,if_neg hb])]⟩
    have V4:=V.out.ext x4;obtain⟨AV,cV,rfl,-,-⟩:=qC V4.own;have kc:w4.cell? (p.cb,518)=J (Jx AV vs.length cV):=by rw[qa V4.t.row];exact V4.t.ar.vol
    have kq4:=qa (qb qr x4);have hcb4:p.cb<w4:=(zG.1 V4.t.row).1;have hqz4:w.heap.size<w4:=by have:=x4.size;omega
    replace bI:=zH bI;rcases hiv:Ks x with _|_
    ·have HB:=HB8.out (λhh=>by have:=hh.1;unfold jq at this;rw[hiv]at this;cases this);replace⟨HB,hiv⟩:=zH2 HB hiv;clear kc kq4 V4;go_wp2_with fail;go_ret;exact HB.out _ (x4.trans (zN _ _))
    have hve:=wZ hiv;have hid:v'.id=x.i:=by rw[hve];rfl
    have fV:jq next x=(decide (x.i≠0)&&decide (x.i<next)):=by unfold jq;rw[hiv,Bool.true_and]
    replace⟨hiv,hve⟩:=zH2 hiv hve;rcases Int.decEq v'.id 0 with lh|lh
    ·rcases Int.decLt v'.id next with hi1|hi1
     ·have HB:=HB8.out (λhh=>by have:=hh.1;rw[fV]at this;simp at this;omega);have hg1:decide (v'.id≥next)=D:=decide_eq_true zO;replace⟨HB,hid,fV⟩:=zH3 HB hid fV;clear hi1 wZ V4;go_wp2_with fail;go_ret;exact HB.out _ (x4.trans (zN _ _))
     have hg1:decide (v'.id≥next)=O:=decide_eq_false zO;have hg2:decide (next<=v'.id)=O:=decide_eq_false zO;rcases Nat.decEq vs.length 16 with uX|uX
     ·have hf1:((vs.length:Int)==16)=O:=by rw[beq_eq_false_iff_ne];omega
      have hok:jq next x=D:=by rw[fV];simp;omega
      replace⟨hok,hid,fV,V4⟩:=zH4 hok hid fV V4;clear hi1 wZ;have h16':=zH uX;go_wp2_with fail;generalize aS:Ob w4 _=w5;have x45:Ext w4 w5:=aS▸zN _ _;have r5:w5.heap[w4.heap.size]?=J (Od (vol4 v') 36):=aS▸zI _ _ _ rfl;clear aS kc kq4 uX hf1 hg1 hg2 lh;have x5:=x4.trans x45;have V5:=V4.out.ext x45;have q5:=qb qr x5;have nr5:=qb nr x5;have hol:=Qn V5.own;have hHA:=V5.t.lt;have hbase5:=V5.t.off.size;have hvs5:=hvs.out;have hn4:(Value.slice AV vs.length cV).ownBlock≠J w4.heap.size:=λe=>by have:=(Qn V4.out.own _ e).2;omega
      have fQ:(Value.slice AV vs.length cV).ownBlock≠J p.cb:=λe=>by have:=(hol _ e).1;omega
      obtain⟨RR,aV⟩:∃RR:Rel,RR=Yg w1 36 4 w5 (Jx AV vs.length cV) vs.length (jG vs) (vs.length+1) (jG vs++(vol4 v').toList):=⟨_,rfl⟩
      replace aV:=zH aV;have gV:∀W,RR.r w5 W->W.cell? (p.cb,518)=J (Jx AV vs.length cV):=λW h=>Jl (aV.out▸h) fQ (by rw[qa V5.t.row];exact V5.t.ar.vol);have gv:∀W,RR.r w5 W->∀i,W.cell? ⟨w4,i,Z⟩=(vol4 v')[i]?:=λW h=>qa (Ki (aV.out▸h) hn4 r5);refine qt zQ ?_;refine qY (w:=w5) RR (qP [(6,ju w5.heap.size 1 36 (vol4 v')),(7,GJ w1.heap.size 36 4 w5.heap.size (Jx AV vs.length cV) (vs.length+1) (jG vs++(vol4 v').toList))])
       [D,D,D,D,D,D,D,D] 3 zQ zQ zQ zQ zQ zQ zQ ?st (Rel.drew _ _) ?walk
      case st=>rw[aV.out];exact qk (by simp only[List.forall_mem_cons];exact⟨To (λg hg=>by have:=hol g hg;omega),qbP,λ_ h=>by cases h⟩)
      case walk=>
       intro K hK;dsimp only[qv];refine zB8 ?_;refine qH (ju w5.heap.size 1 36 (vol4 v')) zA0 zA0 (λW hW _=>?_) (λ(pb:Nat)=>?_)
       ·rw[aV.out]at hW⊢;refine qbg ?_ hW.1.size;go_simp
       simp only[Act.put,qf,qc,qg,qy,vk,zA,zB,zC];refine qH (GJ w1.heap.size 36 4 w5.heap.size (Jx AV vs.length cV) (vs.length+1) (jG vs++(vol4 v').toList)) zA0 zA0 (λW hW hp=>?_) (λ(p7:OA×Nat)=>?_);rw[aV.out]at hW⊢;obtain⟨i0,hi,aZ,aT,aX⟩:=info_parts Tryz.info_vol;obtain⟨eH,_⟩:=(hp 6 zA1).1;obtain⟨v2,w',bH,hD,hR'⟩:=XH (P:=prog) (lo:=w5.heap.size) W 91 91 i0 _ 24 underlying91 hi aZ aT aX rfl zA1 (hW.2.1 V5.own) ⟨pb,0,Z⟩ 1 1 (vol4 v').toList rfl (qiu eH) zA8 zO zA1 (by have:=hW.1.size;omega) hW.1.size;obtain⟨A2,c2,rfl,_,_⟩:=qC hD.1;refine jZ (u:=Jx A2 (vs.length+1) c2) (w':=w') ?_ ⟨(A2,c2),rfl,hD,hR'⟩;exact qbe (s:=.tmp 67) (x:=.tmp 69) rfl rfl rfl bH;obtain⟨A2,c2⟩:=p7;refine zB8 ?_;refine qB (hK _ _ λW hW hF=>?_);have hD:=(hF 7).1;clear hF hK gV gv;rw[aV.out]at hW;change Done _ _ _ _ _ _ _ _ W at hD;refine zB6 ?_;have TW:=V5.t.grown hW.1 (λq hq=>(hol q hq).1);have T6:=TW.setVol (Jx A2 (vs.length+1) c2);have own6:=VQ hD.1 (p:=⟨p.cb,518,Z⟩) hHA (Jx A2 (vs.length+1) c2);have hcw:p.cb<w:=Nat.lt_of_lt_of_le hHA HI.out.t.off.size;have q6:(W.setCell (p.cb,518) (Jx A2 (vs.length+1) c2)).heap[w.heap.size]?=_:=(zJ _ _ _ _ (by show w.heap.size≠p.cb;omega)).trans (Ki hW (λe=>(yP.out _ e).1 rfl) q5);have n6:(W.setCell (p.cb,518) (Jx A2 (vs.length+1) c2)).heap[w.heap.size+1]?=_:=(zJ _ _ _ _ (by show w.heap.size+1≠p.cb;omega)).trans (Ki hW (λe=>(yP.out _ e).2 rfl) nr5);have F6:=((F.out.ext x5).grown uB.out hW.1).setC (i:=518) (u:=Jx A2 (vs.length+1) c2);have N6:KF vv0 w (Jx A2 (vs.length+1) c2):=KF.trans uB.out (n':=w5.heap.size) hD.2 (by have:=F.out.size;have:=x5.size;omega);have B6:∀q,(Value.slice A2 (vs.length+1) c2).ownBlock=J q->q≠w.heap.size/\q≠w.heap.size+1:=by
        intro q hq;rcases hD.2 with e|⟨g,e,e2⟩
        exact yP.out q (e▸hq);rw[e]at hq;cases hq;have:=x5.size;omega
       have kc:=qa TW.row;have kv:=TW.ar.vol;have fc:=qe TW.row;have IR:VRel p w1 refs nodes (qR s1 s2 s3 s4 gen root next dead) next vs0 xs h (b9,off9) c vv0 w (I X ((k:Int)+1)) (W.setCell (p.cb,518) (Jx A2 (vs.length+1) c2)):=by refine⟨k+1,vs++[v'],_,_,aO,rfl,?_,?_,⟨T6,?_⟩,F6,N6,B6,q6,n6⟩;rw[bI.out,if_pos ⟨hok.out,h16'.out⟩,hve.out];rw[List.length_append,List.length_singleton];have:=h16'.out;omega;rw[List.length_append,List.length_singleton,qhm];exact own6
       replace IR:=zH IR;clear T6 own6 q6 n6 F6 N6 B6 hW hD q5 nr5 V5 r5 x5 x4 x45;replace TW:=zH TW;go_wp2;refine Qq ?_;go_wp2_with fail;refine⟨IR.out,?_⟩;simp[intOf];omega
     have hf1:((vs.length:Int)==16)=D:=by rw[beq_iff_eq];omega
     have HB:=HB8.out (λhh=>hh.2 uX);replace⟨HB,hid,fV,uX⟩:=zH4 HB hid fV uX;clear hi1 wZ V4;go_wp2_with fail;go_ret;exact HB.out _ (x4.trans (zN _ _))
    have HB:=HB8.out (λhh=>by have:=hh.1;rw[fV]at this;simp at this;omega);replace⟨HB,hid,fV⟩:=zH3 HB hid fV;clear wZ V4 kc kq4;go_wp2_with fail;go_ret;exact HB.out _ (x4.trans (zN _ _))
   have hd:decide ((h:Int)>0)=D:=decide_eq_true zO;have hd2:decide (0<h)=D:=decide_eq_true hh;replace hh:=zH hh;obtain⟨h',hh'⟩:∃h',h=h'+1:=⟨h-1,by have:=hh.out;omega⟩
   obtain⟨b,pG,bg,bP,ys,hnode,hsy⟩:=Qz (hh'▸HONE.out);obtain⟨v9,hv9⟩:=Option.isSome_iff_exists.1 (HKN.out hh.out);obtain⟨n9,lv9,ys',A9,c9,f9,l9,b9',e9,-,-,hn9,rfl,oK,hBT,hAU⟩:=hC.out.known _ _ hv9;obtain rfl:b=n9:=zO;rw[hnode,Option.some.injEq,Prod.mk.injEq]at hn9;obtain⟨e1,rfl⟩:=hn9;obtain rfl:h'=lv9:=zO;have hMAP:=hC.out.map;have hmay:=(qI hnode).1;have gJ:=λy hy=>((qI hnode).2.1 y hy).1;have hVU:ys.length<=5:=by unfold Qj ZV at hmay;simp at hmay;omega
   have hyk:0<h'->∀y∈ys,(f y.r).isSome=D:=λh0=>hAU (by rw[hBT.1];exact hsy) h0;have HN2:=HNODE.out h' ys h' hh' (by rw[pG,Int.toNat_natCast];exact hnode);have HCALL:=HL.out h' hh' ys A9 c9 vs vv ca;rw[pG]at d3 hv9;have tN:=qkQ;replace⟨hh',pG,hnode,hsy,oK,gJ⟩:=zH6 hh' pG hnode hsy oK gJ;replace⟨hyk,HN2,HCALL,hv9⟩:=zH4 hyk HN2 HCALL hv9;clear hBT hAU hmay e9 e1;replace hMAP:=zH hMAP;go_wp2_with fail;generalize aP:Ob wr _=w3;have x3:Ext wr w3:=aP▸zN _ _;have r3:w3.heap[wr.heap.size]?=J (Od #[I .u8 x.k,I Oc x.i,I Oc x.o,b,Jx A' x.val.length c'] 51):=aP▸zI _ _ _ rfl;clear aP d0 d1 d2 d3 d4;have V3:=V.out.ext x3;have C3:=V3.t.cen hC.out;have gP:∀W,qm.r w3 W->∀i,W.cell? ⟨w,i,Z⟩=(qR s1 s2 s3 s4 gen root next dead)[i]?:=λW h=>qa (qb (qb qr x3) h);have gX:∀W,qm.r w3 W->∀i,W.cell? ⟨wr,i,Z⟩=#[I .u8 x.k,I Oc x.i,I Oc x.o,b,Jx A' x.val.length c'][i]?:=λW h=>qa (qb r3 h);have gM:∀W,qm.r w3 W->W.cell? (p.cb,5)=J (.map (J p.mb)):=λW h=>by rw[qa (qb C3.row h)];exact C3.c5
   refine qt zQ ?_;refine qY (w:=w3) qm (qP []) [D,D,D,D,D,D,D,D,D,D] 2 zQ zQ zQ zQ zQ zQ zQ ?st2 (Rel.drew _ _) ?walk2
   case st2=>exact qk (λ_ h=>by cases h)
   case walk2=>
    intro K hK;dsimp only[qv];refine zB8 ?_;refine qd (jY h' A9 ys.length c9 f9 l9 b9') zA0 zA0 (λW hW _=>⟨W,?_,Rel.refl _ W⟩) ?_
    ·have mP:Ext w3 W:=hW;have hm:=Tz (P:=prog) W (C3.ext mP).map 93 3 156 underlying93 underlying3 hv9.out;go_simp
    refine zB8 ?_;refine qB (hK _ _ λW hW hF=>?_);have mP:Ext w3 W:=hW;have x4:=x3.trans mP;clear hF hK gP gX gM tN;refine zB6 ?_;have VW:=V.out.ext x4;have qW:=qb qr x4;have nW:=qb nr x4;clear hW mP x3 r3 V3 C3;replace VW:=zH VW;go_wp2_with fail;refine(HCALL.out W VW.out hvs.out gJ.out hVU oK.out hsy.out hyk.out).mono ?_;rintro e w6 ⟨F6,hm⟩;have bI:Zq next vs0 (qu p.S h (xs.take (k+1)))=Zq next vs (qu p.S h' ys):=by rw[HN2.out,VC,hgo.out];rfl
    have FW:=(F.out.ext x4).trans F6 uB.out;have hcw:p.cb<w:=Nat.lt_of_lt_of_le V.out.t.lt HI.out.t.off.size;have hzW:w.heap.size+1<W:=(zG.1 nW).1;have q6:=(F6.block w.heap.size zO zO (λe=>(yP.out _ e).1 rfl)).trans qW;have n6:=(F6.block (w.heap.size+1) zO zO (λe=>(yP.out _ e).2 rfl)).trans nW;rcases hg6:Zq next vs (qu p.S h' ys)with _|vs'
    ·rw[hg6]at hm bI;obtain rfl:e=Oa (I X 8):=hm;have HB:VolsQ p w1 refs nodes next vs0 (qu p.S h xs) vv0 w (Oa (I X 8)) w6:=⟨FW,by rw[HBAD.out bI]⟩
     replace HB:=zH HB;clear q6 n6 FW F6 bI x4 qW nW;go_wp2_with fail;refine Qq ?_;go_wp2_with fail;go_ret;exact HB.out
    rw[hg6]at hm bI;obtain⟨rfl,vv',ca',V6,N6⟩:=hm;have IR:VRel p w1 refs nodes (qR s1 s2 s3 s4 gen root next dead) next vs0 xs h (b9,off9) c vv0 w (I X ((k:Int)+1)) w6:=by
     refine⟨k+1,vs',vv',ca',aO,rfl,bI,KC next _ _ _ hvs.out hg6,V6,FW,KF.trans uB.out N6 zO,λq hq=>?_,q6,n6⟩;rcases N6 with e|⟨g,e,e2⟩
     exact yP.out q (e▸hq);rw[e]at hq;cases hq;omega
    replace IR:=zH IR;clear q6 n6 FW F6 bI x4 qW nW V6 N6;go_wp2_with fail;refine Qq ?_;go_wp2_with fail;refine⟨IR.out,?_⟩;simp[intOf];omega
  have nT:k=xs.length:=zO;have HQ:VolsQ p w1 refs nodes next vs0 (qu p.S h xs) vv0 w (Oa (I X 0)) wr:=by rw[nT,List.take_length]at hgo;exact⟨F,by rw[hgo];exact⟨rfl,vv,ca,V,uB⟩⟩
  replace⟨HQ,V,F,uB,yP,hgo⟩:=zH6 HQ V F uB yP hgo;replace nT:=zH nT;clear qr nr;go_wp2;go_ret;exact HQ.out
def TreeQ(p:CP)(R:List Nat)(r:Int)(vv:E)(w:Y)(f:Int->Option E)(e:Ending)(w':Y):Prop:=
 e=Oa (I X (if okL p.S (-1) r=D then 0 else 8))/\w'.os=w.os/\w'.tape=w.tape/\w'.output=w.output/\w.heap.size<=w'/\(∀k,k<w.heap.size->k≠p.cb->k≠p.mb->w'.heap[k]?=w.heap[k]?) /\
  (okL p.S (-1) r=D->∃ca g refs nodes,Cen (p.put ca) w' g/\vZ f g/\Ar ca refs nodes vv/\Qu p.S (R++[r.toNat]) refs nodes/\qam p.S g (R++[r.toNat]))
theorem Tryz.info_int:(Tryz.prog.info? 3).map (λi=>(i.zero,i.size,i.bytes))=J (J (I X 0),1,8):=zQ
structure TRel(p:CP)(w1:Y)(vv:E)(R:List Nat)(v:E)(wr:Y):Prop where
 ex:∃(s:List Nat)(rf nd:Nat->Nat)(ca:Array E),lenV v=s.length/\wr.ownsRow w1 3 1 v s.length (kD s)/\TrI p w1 w1 wr vv ca rf nd/\Wk p.S R rf nd s
structure IRel(p:CP)(w1:Y)(vv:E)(s':List Nat)(lv9:Nat)(xs:List It)(rf nd':Nat->Nat)(nb:Nat)(A9:OA)(c9:Nat)(v i:E)(wq:Y):Prop where
 ex:∃(k:Nat)(rf':Nat->Nat)(ca':Array E),k<=xs.length/\i=I X (k:Int)/\(∀x,rf' x=rf x+(Yn xs k).count x)/\lenV v=(s'++jg lv9 xs k).length /\
  wq.ownsRow w1 3 1 v (s'++jg lv9 xs k).length (kD (s'++jg lv9 xs k))/\(∀q,v.ownBlock=J q->q≠nb)/\TrI p w1 w1 wq vv ca' rf' nd' /\
  wq.heap[nb]?=J (Od #[lv9,Jx A9 xs.length c9] 113)
set_option maxRecDepth 100000 in
theorem tree_any(p:CP)(R:List Nat)(hRl:R.length<=100)(r:Int)(w:Y)(f:Int->Option E)(refs nodes:Nat->Nat)(vv:E)(hC:Cen p w f)(hA:Ar p.ca refs nodes vv)(hN:Qu p.S R refs nodes)(hR:qam p.S f R):Calls prog 112 #[U p.cb,r] w (TreeQ p R r vv w f):=by
 replace⟨hC,hA,hN,hR⟩:=zH4 hC hA hN hR;have hfi:=field_is;have tN:=qkQ;go_enter func112,ntmps112;go_wp2_with fail;refine(qcF p r w f hC.out).mono ?_;rintro e w1 ⟨v,g,rfl,⟨lvl,A,n,c,fk,lk,rfl,dH⟩,bU,hm,hg,hn⟩;have C1:=hC.out.after bU hm hg hn;rcases hok:okL p.S (-1) r with _|_
 ·have HQ:TreeQ p R r vv w f (Oa (I X 8)) w1:=⟨by rw[hok];rfl,hg.os,hg.tape,hg.output,hg.size,λk h1 _ h2=>hg.block k h1 zA2,λh=>by rw[hok]at h;cases h⟩
  replace⟨HQ,C1⟩:=zH2 HQ C1;clear dH bU hm hg hn;go_wp2;go_ret;exact HQ.out
 obtain⟨a,rfl,oU⟩:=Zl hok;have hga:=dH hok;have bC:a<256:=oU.2.1;have kc:=qa C1.row;have fc:=qe C1.row;have kr:=hA.out.ref a bC;replace⟨C1,oU,hga⟩:=zH3 C1 oU hga;clear dH;have aA:wrap64 ((refs a:Int)+1)=(refs a:Int)+1:=IntWalk.wrap64_in _ (by have:=qio (JI.walk.1 hN.out.mkd) a;omega);have T1:TrI p w1 w1 w1 vv p.ca refs nodes:=⟨Off.refl (zM _),C1.out.row,hA.out,λ_ _=>rfl,(zG.1 C1.out.row).1⟩
 have Rk:qam p.S g (R++[a]):=λb hb=>by
  rcases List.mem_append.1 hb with hb|hb
  exact⟨(hR.out b hb).1,bU.some_ _ (hR.out b hb).2⟩;rw[List.mem_singleton.1 hb];exact⟨oU.out,by rw[hga.out];rfl⟩
 replace Rk:=zH Rk;go_wp2_with fail;have gR:∀W,qm.r w1 W->W.cell? (p.cb,6+a)=J (I X (refs a:Int)):=λW h=>by rw[qa (qb C1.out.row h)];exact kr
 refine qt zQ ?_;refine Zz 0 10 (U (J ⟨p.cb,0,Z⟩)) zQ (by simp only[List.getElem?_toArray,List.getElem?_cons_zero];exact rfl) zQ zQ zQ zA0 (λW=>?_) ?_
 ·go_simp
 simp only[Act.put,qf,qc,qg,zA,zB,zC];refine Zz 7 9 (U (J ⟨p.cb,0,Z⟩)) zQ zA6 zQ zQ zQ zA0 (λW=>?_) ?_
 ·go_simp
 simp only[Act.put,qf,qc,qg,zA,zB,zC];refine Zz 8 8 (U (J ⟨p.cb,6,Z⟩)) zQ zA6 zQ zQ zQ zA0 (λW=>?_) ?_
 ·go_simp
 simp only[Act.put,qf,qc,qg,zA,zB,zC];refine ji (w:=w1) qm (qP []) [O,D,D,D,D,D,D,O,O,D] 1 zQ zQ zQ zQ zQ zQ ?st (Rel.drew _ _) ?walk
 case st=>exact qk (λ_ h=>by cases h)
 case walk=>
  intro K hK;dsimp only[qv];refine zB7 ?_
  first
   |(refine qd (U (J ⟨p.cb,6+a,Z⟩)) zA0 zA0 (λW hW _=>⟨W,?_,Rel.refl _ W⟩) ?_
     ·go_simp;intro lg;exfalso;omega
     simp only[Act.put,qf,qc,qg,zA,zB,zC])
   |skip
  refine zB7 ?_
  first
   |(refine qd (U (J ⟨p.cb,6+a,Z⟩)) zA0 zA0 (λW hW _=>⟨W,?_,Rel.refl _ W⟩) ?_
     ·go_simp;intro lg;exfalso;omega
     simp only[Act.put,qf,qc,qg,zA,zB,zC])
   |skip
  refine zB7 ?_;refine qB (hK _ _ λW hW hF=>?_);have bZ:Ext w1 W:=hW;clear hF hK gR kc fc kr;refine zB6 ?_;have T2:=(T1.ext bZ).addRef bC;have rc:=qb C1.out.row bZ;have kc:=qa rc;have fc:=qe rc;have kr:=hA.out.ref a bC;go_wp2;refine Qq ?_;go_wp2_with fail;generalize aP:Ob _ _=w3;have T3:TrI p w1 w1 w3 vv _ (Vh refs a) nodes:=T2.ext (by rw[<-aP];exact zN _ _);have o3:w3.ownsRow w1 3 1 (Jx W 1 1) 1 (kD [a]):=by have h:=World.ownsRow_lit (base:=w1.heap.size) (e:=3) (size:=1) (W.setCell ⟨p.cb,6+a,Z⟩ (I X ((refs a:Int)+1))) #[I X (a:Int)] 1 (by simpa using bZ.size) zA7 rfl;rw[<-aP];have hz:(W.setCell (p.cb,6+a) (I X ((refs a:Int)+1))).heap.size=W:=zA3;rw[hz]at h;exact h
  have K3:=hN.out.start a;generalize(p.ca.setIfInBounds (6+a) _)=ca3 at T3;clear aP kc fc kr rc T2 bZ T1 hN hA aA;generalize W.heap.size=g3 at*;replace⟨T3,o3,K3⟩:=zH3 T3 o3 K3;go_loopw [5] (λv wr=>TRel p w1 vv (R++[a]) v wr) (λv wr=>6*leftW wr p.cb+lenV v)
  case atStart=>exact⟨[a],_,_,_,rfl,o3.out,T3.out,K3.out⟩
  case round=>
   obtain⟨s,rf,nd,ca,hsl,aB,T,K⟩:=hrel.ex;clear T3 o3 K3;rcases List.eq_nil_or_concat s with rfl|⟨s',b,rfl⟩
   ·obtain⟨A,c',rfl,-,-⟩:=qC aB;have hd:Qu p.S (R++[a]) rf nd:=K.done;have HQ:TreeQ p R (a:Int) vv w f (Oa (I X 0)) wr:=by refine⟨by rw[hok];rfl,?_,?_,?_,?_,?_,λ_=>⟨ca,g,rf,nd,T.cen C1.out,bU,T.ar,?_,?_⟩⟩;exact T.off.os.trans hg.os;exact T.off.tape.trans hg.tape;exact T.off.output.trans hg.output;exact Nat.le_trans hg.size T.off.size;intro k h1 h2 h3;exact(T.off.block k (Nat.lt_of_lt_of_le h1 hg.size) h2).trans (hg.block k h1 zA2);simpa using hd;simpa using Rk.out
    replace⟨HQ,T,K,hd⟩:=zH4 HQ T K hd;clear aB hsl bU hm hg hn;go_wp2;go_ret;exact HQ.out
   rw[List.concat_eq_append]at*;obtain⟨m,hm0⟩:∃m,m=s'.length:=⟨_,rfl⟩
   rw[List.length_append,List.length_singleton,<-hm0]at aB;rw[UP]at aB;rcases aB.2 with⟨h0,-⟩|⟨gb,cap,cur,rfl,uP,aC,fQ,eP,ay,mM⟩
   exfalso;have:=aB.1;simp[TO]at this;rw[h0]at hsl;simp[lenV]at hsl;obtain⟨gb',off',e0,hgb',aY⟩:=(Rd.of_own aB).2 zO;simp only[Option.some.injEq,Addr.mk.injEq,and_true]at e0;obtain⟨rfl,rfl⟩:=e0;have kb:=aY m (I X (b:Int)) (by rw[List.getElem?_append_right (by rw[TO];omega),TO,<-hm0];simp);rw[Nat.zero_add]at kb;clear aY;have hEW:=UV (xs:=kD s') (news:=[I X (b:Int)]) (n:=m) (m:=1) aB (by rw[TO,hm0];omega);obtain⟨hbt,nG⟩:=Rk.out.reach C1.out.known (K.wk.stk b (List.mem_append_right _ (List.mem_singleton.2 rfl)));have bP:=hbt.2.1;have cO:wrap64 ((m:Int)+1-1)=(m:Int):=by rw[IntWalk.wrap64_in _ (by unfold maxLen at eP;omega)];omega
   have hw22:wrap64 (m:Int)=(m:Int):=IntWalk.wrap64_in _ (by unfold maxLen at eP;omega);replace⟨aB,hEW,T,K,hbt,nG⟩:=zH6 aB hEW T K hbt nG;replace⟨hm0,hsl⟩:=zH2 hm0 hsl;have hmc:m<=cap:=Nat.le_of_succ_le fQ;have hcap:¬cap=0:=λe=>by rw[e]at fQ;exact absurd fQ (Nat.not_succ_le_zero _)
   clear aC;clear mM ay bU hm hg hn uP eP fQ;have kn0:=T.out.ar.node b bP;have aP:wrap64 ((nd b:Int)+1)=(nd b:Int)+1:=IntWalk.wrap64_in _ (by have:=K.out.few b;simp at this;omega);go_wp2_with fail;have gN:∀W,qm.r wr W->W.cell? (p.cb,262+b)=J (I X (nd b:Int)):=λW h=>by rw[qa (qb T.out.row h)];exact kn0
   refine qt zQ ?_;refine Zz 0 10 (U (J ⟨p.cb,0,Z⟩)) zQ (by simp only[List.getElem?_toArray,List.getElem?_cons_zero];exact rfl) zQ zQ zQ zA0 (λW=>?_) ?_
   ·go_simp
   simp only[Act.put,qf,qc,qg,zA,zB,zC];refine Zz 2 9 (U (J ⟨p.cb,0,Z⟩)) zQ zA6 zQ zQ zQ zA0 (λW=>?_) ?_
   ·go_simp
   simp only[Act.put,qf,qc,qg,zA,zB,zC];refine Zz 7 8 (U (J ⟨p.cb,0,Z⟩)) zQ zA6 zQ zQ zQ zA0 (λW=>?_) ?_
   ·go_simp
   simp only[Act.put,qf,qc,qg,zA,zB,zC];refine Zz 8 7 (U (J ⟨p.cb,262,Z⟩)) zQ zA6 zQ zQ zQ zA0 (λW=>?_) ?_
   ·go_simp
   simp only[Act.put,qf,qc,qg,zA,zB,zC];refine ji (w:=wr) qm (qP []) [O,D,O,D,D,D,D,O,O,D] 1 zQ zQ zQ zQ zQ zQ ?st (Rel.drew _ _) ?walk
   case st=>exact qk (λ_ h=>by cases h)
   case walk=>
    intro K' hK';dsimp only[qv];refine zB7 ?_
    first
     |(refine qd (U (J ⟨p.cb,262+b,Z⟩)) zA0 zA0 (λW hW _=>⟨W,?_,Rel.refl _ W⟩) ?_
       ·go_simp;intro lg;exfalso;omega
       simp only[Act.put,qf,qc,qg,zA,zB,zC])
     |skip
    refine zB7 ?_
    first
     |(refine qd (U (J ⟨p.cb,262+b,Z⟩)) zA0 zA0 (λW hW _=>⟨W,?_,Rel.refl _ W⟩) ?_
       ·go_simp;intro lg;exfalso;omega
       simp only[Act.put,qf,qc,qg,zA,zB,zC])
     |skip
    refine zB7 ?_;refine qB (hK' _ _ λW hW hF=>?_);have mP:Ext wr W:=hW;clear hF hK' gN;refine zB6 ?_;have T2:=(T.out.ext mP).addNode bP;have rc:=qb T.out.row mP;have kc:=qa rc;have fc:=qe rc;have o2:(W.setCell (p.cb,262+b) (I X ((nd b:Int)+1))).ownsRow w1 3 1 (Jx gb m cap) m (kD s'):=VQ (zu hEW.out mP) (p:=⟨p.cb,262+b,Z⟩) T.out.lt _;generalize(ca.setIfInBounds (262+b) _)=ca4 at T2;replace rc:=zH rc;go_wp2;refine Qq ?_;rw[aP];generalize hw4:W.setCell ⟨p.cb,262+b,Z⟩ (I X ((nd b:Int)+1))=w4 at*;clear hw4 kc fc rc mP;replace⟨T2,o2⟩:=zH2 T2 o2;have kc:=qa T2.out.row;have kn2:=T2.out.ar.node b bP;have hbb:Vh nd b b=nd b+1:=by unfold Vh;rw[if_pos rfl]
    rw[hbb]at kn2;have kq:w4.cell? (p.cb,262+b)=J (I X ((nd b:Int)+1)):=(kc _).trans kn2;have kq5:w4.cell? (p.cb,5)=J (.map (J p.mb)):=(kc _).trans ((T2.out.low 5 zO).trans C1.out.c5);clear kc kn2;rcases Nat.eq_zero_or_pos (nd b)with hz|hz
    ·have dP:decide (((nd b+1:Nat):Int)>1)=O:=decide_eq_false zO;have au:decide ((nd b:Int)+1>1)=O:=decide_eq_false zO;replace hz:=zH hz;go_wp2_with (at_lookup;refine qV ?_);obtain⟨v9,hv9⟩:=Option.isSome_iff_exists.1 nG.out;obtain⟨n9,lv9,xs,A9,c9,f9,l9,b9,e9,-,-,hnode,rfl,aG,-,-⟩:=C1.out.known _ _ hv9;obtain rfl:b=n9:=zO;have hMap:=(T2.out.cen C1.out).map;refine Qm.go (qai _ rfl (.tmp 61) (.tmp 62) 93 rfl underlying93 underlying3 rfl rfl hMap hv9 ?_);have hmay:=(qI hnode).1;have ng:=(qI hnode).2.1;have hlen:xs.length<=5:=by unfold Qj ZV at hmay;simp at hmay;omega
     clear hMap hv9 hmay kq kq5;replace⟨hnode,aG,ng⟩:=zH3 hnode aG ng;go_wp2_with fail;generalize aS:Ob w4 _=w5;have T5:=T2.out.ext (by rw[<-aS];exact zN _ _:Ext w4 w5);have o5:=zu o2.out (by rw[<-aS];exact zN _ _:Ext w4 w5);have n5:w5.heap[w4.heap.size]?=J (Od #[lv9,Jx A9 xs.length c9] 113):=aS▸zI _ _ _ rfl;have z5:gb<w4:=(Qn o2.out gb rfl).2;clear aS;have hlt9:=T2.out.lt;have dM:=T2.out.off.size;generalize w4.heap.size=nb at*;have I0:IRel p w1 vv s' lv9 xs rf (Vh nd b) nb A9 c9 (Jx gb m cap) (I X 0) w5:=by refine⟨0,rf,ca4,Nat.zero_le _,rfl,λx=>by rw[qmF];rfl,?_,?_,λq hq=>?_,T5,n5⟩;rw[qbx,List.append_nil];exact hm0.out;rw[qbx,List.append_nil,<-hm0.out];exact o5;simp[Value.ownBlock]at hq;omega
     replace I0:=zH I0;clear o5 T5 n5;go_loopw [5,68] (λv i wq=>IRel p w1 vv s' lv9 xs rf (Vh nd b) nb A9 c9 v i wq) (λ_ i _=>xs.length-(intOf i).toNat)
     case atStart=>exact I0.out
     case round=>
      obtain⟨k,rf',ca',hk,rfl,uU,ax,aU,iK,TI,nI⟩:=hrel.ex;clear I0;by_cases hlt:k<xs.length
      ·have aO:=hlt;obtain⟨b9',off9,rfl,hb9⟩:=aG.out.its.at_.2.2.2 zO;obtain⟨A',c',d0,d1,d2,d3,d4,-⟩:=(TI.its C1.out aG.out).its.item k aO;obtain⟨⟨-,-,-,⟨oP,sH⟩,-⟩,-⟩:=ng.out xs[k] (List.getElem_mem aO);have HSK:=zH (λh=>qim (lvl:=lv9) aO h);have HPU:=zH (λh h'=>qil (lvl:=lv9) aO h h');have HRS:=zH (λh=>qmE aO h uU);have HRB:=zH (λh=>qmD aO h uU);generalize xs[k]=x at*;obtain⟨r,hr⟩:=Int.eq_ofNat_of_zero_le oP;rw[hr]at d3 sH;have uT:r<256:=zO;rw[hr,Int.toNat_natCast]at HSK HPU HRS HRB;clear oP sH;replace⟨hr,uU,TI,aU,ax,iK⟩:=zH6 hr uU TI aU ax iK;rcases Nat.eq_zero_or_pos r with hr0|hr0
       ·have oh:((r:Int)==0)=D:=by rw[beq_iff_eq];omega
        have wU:=HRS.out hr0;have yS:=HSK.out (.inl hr0);replace⟨hr0,wU,yS⟩:=zH3 hr0 wU yS;go_wp2_with fail;refine⟨⟨k+1,rf',ca',aO,rfl,wU.out,?_,?_,iK.out,TI.out.ext (zN _ _),qb nI (zN _ _)⟩,by simp[intOf];omega⟩;rw[yS.out];exact ax.out;rw[yS.out];exact zu aU.out (zN _ _)
       have oh:((r:Int)==0)=O:=by rw[beq_eq_false_iff_ne];omega
       have hIL:¬r=0:=zO;have wU:=HRB.out hIL;replace⟨wU,hIL⟩:=zH2 wU hIL;clear hr0;go_wp2_with fail;generalize mg:Ob wr _=w6;have x6:Ext wr w6:=mg▸zN _ _;have r6:w6.heap[wr.heap.size]?=J (Od #[I .u8 x.k,I Oc x.i,I Oc x.o,r,Jx A' x.val.length c'] 51):=mg▸zI _ _ _ rfl;clear mg d0 d1 d2 d3 d4;have T6:=TI.out.ext x6;have o6:=zu aU.out x6;have n6:=qb nI x6;have kr0:=T6.ar.ref r uT;have mg:wrap64 ((rf' r:Int)+1)=(rf' r:Int)+1:=IntWalk.wrap64_in _ (by have h1:=uU.out r;have h2:=List.count_le_length (a:=r) (l:=Yn xs k);have h3:=qdl (xs:=xs) (k:=k);have h4:=qio K.out.wk r;simp at h4;omega);have gR:∀W,qm.r w6 W->W.cell? (p.cb,6+r)=J (I X (rf' r:Int)):=λW h=>by rw[qa (qb T6.row h)];exact kr0
       have gI:∀W,qm.r w6 W->∀i,W.cell? ⟨wr,i,Z⟩=#[I .u8 x.k,I Oc x.i,I Oc x.o,r,Jx A' x.val.length c'][i]?:=λW h=>qa (qb r6 h);refine qt zQ ?_;refine Zz 0 11 (U (J ⟨p.cb,0,Z⟩)) zQ (by simp only[List.getElem?_toArray,List.getElem?_cons_zero];exact rfl) zQ zQ zQ zA0 (λW=>?_) ?_
       ·go_simp
       simp only[Act.put,qf,qc,qg,zA,zB,zC];refine Zz 3 10 (U (J ⟨p.cb,0,Z⟩)) zQ zA6 zQ zQ zQ zA0 (λW=>?_) ?_
       ·go_simp
       simp only[Act.put,qf,qc,qg,zA,zB,zC];refine Zz 8 9 (U (J ⟨p.cb,0,Z⟩)) zQ zA6 zQ zQ zQ zA0 (λW=>?_) ?_
       ·go_simp
       simp only[Act.put,qf,qc,qg,zA,zB,zC];refine Zz 9 8 (U (J ⟨p.cb,6,Z⟩)) zQ zA6 zQ zQ zQ zA0 (λW=>?_) ?_
       ·go_simp
       simp only[Act.put,qf,qc,qg,zA,zB,zC];refine ji (w:=w6) qm (qP []) [O,D,D,O,D,D,D,D,O,O,D] 1 zQ zQ zQ zQ zQ zQ ?st (Rel.drew _ _) ?walk
       case st=>exact qk (λ_ h=>by cases h)
       case walk=>
        intro K2 hK2;dsimp only[qv];refine zB7 ?_
        first
         |(refine qd (U (J ⟨p.cb,6+r,Z⟩)) zA0 zA0 (λW hW _=>⟨W,?_,Rel.refl _ W⟩) ?_
           ·go_simp;intro lg;exfalso;omega
           simp only[Act.put,qf,qc,qg,zA,zB,zC])
         |skip
        refine zB7 ?_
        first
         |(refine qd (U (J ⟨p.cb,6+r,Z⟩)) zA0 zA0 (λW hW _=>⟨W,?_,Rel.refl _ W⟩) ?_
           ·go_simp;intro lg;exfalso;omega
           simp only[Act.put,qf,qc,qg,zA,zB,zC])
         |skip
        refine zB7 ?_;refine qB (hK2 _ _ λW hW hF=>?_);have mP:Ext w6 W:=hW;clear hF hK2 gR gI;refine zB6 ?_;have T7:=(T6.ext mP).addRef uT;have rc:=qb T6.row mP;have kc:=qa rc;have fc:=qe rc;have hlp:=T6.lt;have o7:(W.setCell (p.cb,6+r) (I X ((rf' r:Int)+1))).ownsRow w1 3 1 _ _ _:=VQ (zu o6 mP) (p:=⟨p.cb,6+r,Z⟩) hlp _;have n7:(W.setCell (p.cb,6+r) (I X ((rf' r:Int)+1))).heap[nb]?=_:=(zJ _ _ _ _ (by show nb≠p.cb;omega)).trans (qb n6 mP);have r7:(W.setCell (p.cb,6+r) (I X ((rf' r:Int)+1))).heap[wr.heap.size]?=_:=(zJ _ _ _ _ (by show wr.heap.size≠p.cb;have:=TI.out.off.size;omega)).trans (qb r6 mP);generalize(ca'.setIfInBounds (6+r) _)=ca7 at T7;replace rc:=zH rc;go_wp2;refine Qq ?_;rw[mg];generalize lX:W.setCell ⟨p.cb,6+r,Z⟩ (I X ((rf' r:Int)+1))=w7 at*;clear lX kc fc rc mP T6 o6 n6 x6 r6 kr0 mg;have kn7:=qa n7;have kr7:=qa r7;replace⟨T7,o7⟩:=zH2 T7 o7;rcases Nat.eq_zero_or_pos lv9 with hv0|hv0
        ·have nZ:decide ((lv9:Int)>0)=O:=decide_eq_false zO;have hq4:decide (0<lv9)=O:=decide_eq_false zO;have yS:=HSK.out (.inr hv0);replace⟨yS,hv0⟩:=zH2 yS hv0;go_wp2_with fail;refine⟨⟨k+1,Vh rf' r,ca7,aO,rfl,wU.out,?_,?_,iK.out,T7.out,n7⟩,by simp[intOf];omega⟩;rw[yS.out];exact ax.out;rw[yS.out];exact o7.out
        have nZ:decide ((lv9:Int)>0)=D:=decide_eq_true zO;have hq4:decide (0<lv9)=D:=decide_eq_true hv0;have yS:=HPU.out hIL.out hv0;replace⟨yS,hv0⟩:=zH2 yS hv0;have hlv7:=ax.out;have hID:=iK.out;have hz7:nb<w7:=(zG.1 n7).1;have uy:(s'++jg lv9 xs k).length<1073741824:=by
         have h1:=K.out.few b;have h2:(jg lv9 xs k).length<=k:=by unfold jg;split;exact qdl;simp
         simp at h1;rw[List.length_append];omega
        replace⟨hlv7,hID,uy⟩:=zH3 hlv7 hID uy;obtain⟨i0,hi,aZ,aT,aX⟩:=info_parts Tryz.info_int;go_wp2_with (at_builtin;refine qV ?_);refine Qm.go (Zh _ rfl (.tmp 89) (.tmp 92) 30 rfl w1.heap.size 3 i0 (I X 0) 1 8 underlying30 hi aZ aT aX rfl zA1 _ _ _ rfl o7.out #[I X (r:Int)] rfl rfl zA8 uy.out zA1 T7.out.off.size ?_);intro v8 w8 own8 g8 _ hKQ;have T8:=T7.out.grown g8 λq hq=>(Qn o7.out q hq).1;have n8:=(g8.block nb hz7 (λe=>hID.out nb e.symm rfl)).trans n7;have hnb8:∀q,v8.ownBlock=J q->q≠nb:=by
         intro q hq;rcases hKQ with e|⟨q',e,e2⟩
         exact hID.out q (e.symm.trans hq);rw[e]at hq;cases hq;omega
        obtain⟨A8,c8,hv8,-,-⟩:=qC own8;have hKH:lenV v8=(s'++jg lv9 xs (k+1)).length:=by rw[hv8,yS.out];simp only[lenV,List.length_append,List.length_cons,List.length_nil];omega
        have own9:w8.ownsRow w1 3 1 v8 (s'++jg lv9 xs (k+1)).length (kD (s'++jg lv9 xs (k+1))):=by
         have hcat:(s'++jg lv9 xs (k+1)).length=(s'++jg lv9 xs k).length+1:=by rw[yS.out,<-List.append_assoc,List.length_append,List.length_singleton]
         rw[hcat,yS.out,<-List.append_assoc,UP];exact own8
        have IR:IRel p w1 vv s' lv9 xs rf (Vh nd b) nb (b9',off9) c9 v8 (I X ((k:Int)+1)) w8:=⟨k+1,Vh rf' r,ca7,aO,rfl,wU.out,hKH,own9,hnb8,T8,n8⟩
        replace IR:=zH IR;clear own8 g8 hKQ hv8 hKH own9 hnb8 T8 n8 hi aZ aT aX;go_wp2_with fail;refine⟨IR.out,?_⟩;simp[intOf];omega
      have nT:k=xs.length:=zO;subst nT;have KN:=K.out.new hz.out bP hnode.out uU;have e1:=Gz T.out.row T.out.ar;have e2:=Gz TI.row TI.ar;have e3:=Ga (M:=vN nd) (a:=b) (decide_eq_false (by have:=hz.out;omega)) 256;rw[<-Yi,if_pos bP]at e3;have bz:(jg lv9 xs xs.length).length<=5:=by unfold jg;split;exact Nat.le_trans qdl hlen;simp
      replace e3:=zH e3;clear cO hw22 aP;go_wp2_with fail;go_roundw
      case rel=>exact⟨s'++jg lv9 xs xs.length,rf',Vh nd b,ca',ax,aU,TI,KN⟩
      case measure=>rw[e1,e2,ax,List.length_append,<-hm0.out];have e3':=e3.out;simp only[lenV];omega
    have dP:decide (((nd b+1:Nat):Int)>1)=D:=decide_eq_true zO;have au:decide ((nd b:Int)+1>1)=D:=decide_eq_true zO;replace hz:=zH hz;go_wp2_with fail;go_roundw
    case rel=>exact⟨s',rf,Vh nd b,ca4,hm0.out,by rw[<-hm0.out];exact o2.out,T2.out,K.out.again hz.out⟩
    case measure=>have e1:=Gz T.out.row T.out.ar;have e2:=Gz T2.out.row T2.out.ar;rw[Yj hz.out]at e2;rw[e1,e2];simp[lenV]
def ca0(s1 s2 s3 s4:E)(bb mb:Nat):Array E:=(#[s1,s2,s3,s4,U bb,.map (J mb)]++Array.replicate 512 (I X 0))++#[Jx Z 0 0]
theorem ca_eq(s1 s2 s3 s4:E)(bb mb:Nat):(((((Tryz.zeroCells96.setIfInBounds 0 s1).setIfInBounds 1 s2).setIfInBounds 2 s3).setIfInBounds 3 s4).setIfInBounds 4 (U bb)).setIfInBounds 5 (.map (J mb))=ca0 s1 s2 s3 s4 bb mb:=zQ
theorem qiJ(p:CP)(w1:Y)(f:Int->Option E)(refs nodes:Nat->Nat)(s1 s2 s3 s4:E)(gen root next:Int)(dead:E)(hC:Cen p w1 f):∀h:Nat,VolsC p w1 f refs nodes s1 s2 s3 s4 gen root next dead h
 |0=>qiK p w1 f refs nodes s1 s2 s3 s4 gen root next dead hC 0 λ_ e=>zO
 |h+1=>qiK p w1 f refs nodes s1 s2 s3 s4 gen root next dead hC (h+1) λh' e=>by obtain rfl:h=h':=zO;exact qiJ p w1 f refs nodes s1 s2 s3 s4 gen root next dead hC h
theorem ca0_ar(s1 s2 s3 s4:E)(bb mb:Nat):Ar (ca0 s1 s2 s3 s4 bb mb) (λ_=>0) (λ_=>0) (Jx Z 0 0):=by unfold ca0;refine⟨zA3,λa ha=>?_,λa ha=>?_,?_⟩;rw[Array.getElem?_append_left zA2,Array.getElem?_append_right zA3];simp[Array.getElem?_replicate];omega;rw[Array.getElem?_append_left zA2,Array.getElem?_append_right zA2];simp[Array.getElem?_replicate];omega;rw[Array.getElem?_append_right zA3];simp
theorem ca0_low(s1 s2 s3 s4:E)(bb mb:Nat)(hi:i<6):(ca0 s1 s2 s3 s4 bb mb)[i]?=(#[s1,s2,s3,s4,U bb,.map (J mb)]:Array E)[i]?:=by unfold ca0;rw[Array.getElem?_append_left zA2,Array.getElem?_append_left zA2]
theorem QR.empty(w:Y):QR (w.alloc (.map #[] 0)) w λ_=>Z:=⟨#[],0,zI _ _ _ rfl,λ_ h=>absurd h (List.not_mem_nil),λ_=>rfl⟩
def kA(S:Sto)(root next:Int):Option (List Vol):=match qo S root.toNat with
 |none=>Z
 |some (lvl,xs)=>Zq next [] (qu S lvl.toNat xs)
def QJ(root:Int)(dead:List Int)(vs:List Vol):List Int:=(root::dead)++vs.map (·.root)
structure QH(S:Sto)(root next:Int)(dead:List Int)(vs:List Vol):Prop where
 may:qj S=D
 few:dead.length<=40
 top:okL S (-1) root=D
 vols:kA S root next=vs
 ok:∀r∈QJ root dead vs,okL S (-1) r=D
def ZJ(S:Sto)(refs:Nat->Nat):Prop:=∀a,a<256->refs a<=(S.now[a]?.getD 0).toNat
def ZS(w:Y)(B:Nat)(v:E)(l:List Int):Prop:=∃A c,v=Jx A l.length c/\l.length<=c/\c<=maxLen/\Rd w B 1 A l.length (l.map λ(a:Int)=>Value.int X a)
def Qp(root:Int)(dead:List Int)(vs:List Vol):List Nat:=(QJ root dead vs).map Int.toNat
structure Taken(S:Sto)(root next:Int)(dead:List Int)(vs:List Vol)(refs nodes:Nat->Nat)(lo cb:Nat)(ca:Array E)(vv:E)(w:Y):Prop where
 pool:QH S root next dead vs
 cnt:Qu S (Qp root dead vs) refs nodes
 enough:ZJ S refs
 low:lo<=cb
 row:w.heap[cb]?=J (Od ca 96)
 ar:Ar ca refs nodes vv
 own:w.ownsRow lo 36 4 vv vs.length (jG vs)
def Ul(S:Sto)(root next:Int)(dead:List Int)(w:Y)(e:Ending)(w':Y):Prop:=Below w w w' /\
 ((e=Oa (.tuple #[U Z,I X 8])/\∀vs,QH S root next dead vs->∃refs nodes,Qu S (Qp root dead vs) refs nodes/\¬ZJ S refs) \/
  ∃vs refs nodes cb ca vv,e=Oa (.tuple #[U (J ⟨cb,0,Z⟩),I X 0])/\Taken S root next dead vs refs nodes w cb ca vv w')
theorem Ul.bad{root next:Int}(hB:Below w w w')(h:∀vs,¬QH S root next dead vs):Ul S root next dead w (Oa (.tuple #[U Z,I X 8])) w':=
 ⟨hB,.inl ⟨rfl,λvs hp=>absurd hp (h vs)⟩⟩
def Vq(l:List Int):List E:=l.map λ(a:Int)=>Value.int X a
theorem qfj(l:List Int)(a:Int):Vq (l++[a])=Vq l++[Value.int X a]:=by simp[Vq]
theorem rowI_get(l:List Int)(k:Nat)(h:k<l.length):(Vq l)[k]?=J (I X l[k]):=by unfold Vq;rw[List.getElem?_map,zL h];rfl
def VA(root:Int)(dead:List Int)(vs:List Vol)(k:Nat):List Int:=(root::dead)++(vs.take k).map (·.root)
theorem qis(root:Int)(dead:List Int)(vs:List Vol)(h:k<=vs.length):(VA root dead vs k).length=1+dead.length+k:=by unfold VA;simp;omega
theorem qgw(root:Int)(dead:List Int)(vs:List Vol)(h:k<vs.length):VA root dead vs (k+1)=VA root dead vs k++[vs[k].root]:=by unfold VA;rw[List.take_succ_eq_append_getElem h,List.map_append,<-List.append_assoc];rfl
theorem qbA(root:Int)(dead:List Int)(vs:List Vol):VA root dead vs vs.length=QJ root dead vs:=by unfold VA QJ;rw[List.take_length]
theorem kZ(vs:List Vol):∀k (h:k<vs.length),(jG vs)[k*4]?=J (I Oc vs[k].id)/\(jG vs)[k*4+1]?=J (I X vs[k].root)/\(jG vs)[k*4+2]?=J (.bool vs[k].fz)/\(jG vs)[k*4+3]?=J (I Oc vs[k].frm):=by
 induction vs with
 |nil=>intro k h;exact absurd h (Nat.not_lt_zero _)
 |cons v r ih=>
  intro k h;cases k with
  |zero=>exact⟨rfl,rfl,rfl,rfl⟩
  |succ k=>
   have:=ih k (by simpa using h);have e:jG (v::r)=[I Oc v.id,I X v.root,.bool v.fz,I Oc v.frm]++jG r:=rfl;rw[e];have hg:∀j,([I Oc v.id,I X v.root,.bool v.fz,I Oc v.frm]++jG r:List E)[(k+1)*4+j]?=(jG r)[k*4+j]?:=λj=>by rw[List.getElem?_append_right (by simp only[List.length_cons,List.length_nil];omega)];congr 1;simp only[List.length_cons,List.length_nil];omega
   exact⟨(hg 0).trans this.1,(hg 1).trans this.2.1,(hg 2).trans this.2.2.1,(hg 3).trans this.2.2.2⟩
theorem Qu.zero(S:Sto):Qu S [] (λ_=>0) (λ_=>0):=
 ⟨JI.walk.2 (VF.nil (λ_=>rfl) λ_=>rfl),λa=>by have:=qdz (vN λ_=>0) 256;simp only[List.length_nil];omega⟩
structure qbL(cb mb:Nat)(w w':Y):Prop where
 os:w'.os=w.os
 tape:w'.tape=w.tape
 output:w'.output=w.output
 size:w.heap.size<=w'
 block:∀k,k<w.heap.size->k≠cb->k≠mb->w'.heap[k]?=w.heap[k]?
theorem qbL.refl(cb mb:Nat)(w:Y):qbL cb mb w w:=⟨rfl,rfl,rfl,zM _,λ_ _ _ _=>rfl⟩
theorem qbL.trans(h:qbL cb mb w w')(h':qbL cb mb w' w''):qbL cb mb w w'':=
 ⟨h'.os.trans h.os,h'.tape.trans h.tape,h'.output.trans h.output,Nat.le_trans h.size h'.size,λk h1 h2 h3=>(h'.block k (Nat.lt_of_lt_of_le h1 h.size) h2 h3).trans (h.block k h1 h2 h3)⟩
theorem qbL.below{w0:Y}(h:qbL cb mb w w')(hb:Below B w0 w)(hB:B<=w)(h1:B<=cb)(h2:B<=mb):Below B w0 w':=
 ⟨h.os.trans hb.os,h.tape.trans hb.tape,h.output.trans hb.output,Nat.le_trans hb.size h.size,λk hk=>(h.block k zO zO zO).trans (hb.block k hk)⟩
structure R2(p:CP)(w8:Y)(vv:E)(roots:List Int)(i:E)(wr:Y):Prop where
 ex:∃(k:Nat)(g:Int->Option E)(ca:Array E)(refs nodes:Nat->Nat),k<=roots.length/\i=I X (k:Int)/\Cen (p.put ca) wr g/\Ar ca refs nodes vv/\Qu p.S ((roots.take k).map Int.toNat) refs nodes/\qam p.S g ((roots.take k).map Int.toNat) /\
  (∀r∈roots.take k,okL p.S (-1) r=D)/\qbL p.cb p.mb w8 wr
section
variable {P:Program} {ops:Array Oper} {rest:List Oper} {o:Oper} {a:Act} {w:World} {Q:Exit->Act->World->Prop}
theorem qeg(g off:Nat)(ty:TypeId)(cs:List E)(d:TypeDesc)(hc:∀j v,cs[j]?=J v->w.cell? ⟨g,off+j,Z⟩=J v)(hu:P.underlying ty=d)(hd:(match d with | .struct _ | .array _ _=>D|_=>O)=D)(hi:(P.info? ty).map (·.size)=J cs.length):(loadVar ty (g,off)).run P w=.ok (.agg cs.toArray) w:=by
 have hl:(loadCells (g,off) cs.length).run P w=.ok cs.toArray w:=
  run_loadCells_list (P:=P) w ⟨g,off,Z⟩ cs (λj v hv=>by
   have hadd:((g,off):Addr).add j=⟨g,off+j,Z⟩:=by unfold Addr.add;split<;>simp_all
   rw[hadd];exact hc j v hv)
 cases hq:P.info? ty with
 |none=>simp[hq]at hi
 |some i=>
  have hs:i.size=cs.length:=by simpa [hq]using hi
  have hagg:(isAgg ty).run P w=.ok D w:=by unfold isAgg;rw[Sem.run_bind,run_underlying hu w];cases d<;>simp_all
  simp[loadVar,Sem.run_bind,hagg,sizeOf,typeInfo,hq,hs,hl]
theorem qaS(fV:o.guard=Z)(ty:TypeId)(x:Operand)(ho:o.op=.load ty x)(g off:Nat)(hx:a.eval x=U (g,off))(cs:List E)(d:TypeDesc)(hc:∀j v,cs[j]?=J v->w.cell? ⟨g,off+j,Z⟩=J v)(hu:P.underlying ty=d)(hd:(match d with | .struct _ | .array _ _=>D|_=>O)=D)(hi:(P.info? ty).map (·.size)=J cs.length)(h:wpList P ops Q rest (a.put o.dst (.agg cs.toArray)) w):wpList P ops Q (o::rest) a w:=by refine wpList_plain fV λK hK=>?_;unfold Oper.wp execOp;simp only[ho,hx,Instr.loadAt,Instr.sureAddr,Sem.run_bind,Sem.run_pure,Result.andThen_ok,qeg g off ty cs d hc hu hd hi];exact hK _ _ h
end
def qcg(f:Nat->Nat):List E:=(List.range 256).map λa=>Value.int X ((f a:Nat):Int)
theorem qgW(f:Nat->Nat)(h:k<256):(qcg f)[k]?=J (I X ((f k:Nat):Int)):=by unfold qcg;rw[List.getElem?_map,List.getElem?_range h];rfl
theorem arrI_lt(h:(qcg f)[j]?=v):j<256/\v=I X ((f j:Nat):Int):=by
 have hj:j<256:=by have:=(List.getElem?_eq_some_iff.1 h).1;simpa [qcg]using this
 rw[qgW f hj]at h;cases h;exact⟨hj,rfl⟩
structure R3(S:Sto)(refs:Nat->Nat)(w9:Y)(i:E)(wr:Y):Prop where
 ex:∃k:Nat,k<=256/\i=I X (k:Int)/\(∀a,a<k->refs a<=(S.now[a]?.getD 0).toNat)/\wr=w9
theorem own_kept{base n size:Nat}{xs:List E}(h:w.ownsRow base e size v n xs)(hk:qbL cb mb w w')(h1:cb<base)(h2:mb<base):w'.ownsRow base e size v n xs:=by
 refine⟨h.1,?_⟩;rcases h.2 with h0|⟨g,cap,cur,hv,hb,hg,hr⟩
 exact .inl h0;exact .inr ⟨g,cap,cur,hv,hb,(hk.block g (zG.1 hg).1 zO zO).trans hg,hr⟩
structure R1(w6:Y)(root:Int)(dead:List Int)(vs:List Vol)(v i:E)(wr:Y):Prop where
 ex:∃k:Nat,k<=vs.length/\i=I X (k:Int)/\wr.ownsRow w6 3 1 v (1+dead.length+k) (Vq (VA root dead vs k))/\Ext w6 wr
end Go.Proofs.YtmeadnlmepcmbaaGreat
