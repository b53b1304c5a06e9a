/- Texts FreeG, NCheck, NMay, NMod, joined. -/
import Derived.Test.YtpbniokljofedaaGreatZI03
set_option linter.unusedSimpArgs false
set_option linter.unusedVariables false
set_option maxHeartbeats 8000000
open Go.Proofs.Tryz
namespace Go.Proofs.YtpbniokljofedaaGreat
open Go.RowKit
structure Rel where
 rel:World->World->Prop
 refl':∀ w,rel w w
 trans':∀ {a b c},rel a b->rel b c->rel a c
 drew':∀ w:World,rel w w.drew
def Rel.r (R:Rel) (a b:World):Prop:=R.rel a b
theorem Rel.refl (R:Rel) (w:World):R.r w w:=R.refl' w
theorem Rel.trans (R:Rel) {a b c:World} (h:R.r a b) (k:R.r b c):R.r a c:=R.trans' h k
theorem Rel.drew (R:Rel) (w:World):R.r w w.drew:=R.drew' w
section
variable {R:Rel}
def qC (R:Rel) (φ:World->Prop):Prop:=∀ W W',R.r W W'->φ W->φ W'
section
variable {P:Program} {ops:Array Oper} {w0:World}
def ZC (R:Rel) (P:Program) (W:World) (h:qS):Result Next->Prop
 | .ok (.value u) w'=>∃ p,u=h.f p/\h.φ p w'/\R.r W w'
 | .ok .skip w'=>∃ p,undef=h.f p/\h.φ p w'/\R.r W w'
 | .ok (.enter f args) w'=>R.r W w'/\Calls P f args w' fun e w''=>∃ p,e=.returned (h.f p)/\h.φ p w''/\R.r w' w''
 |_=>False
def QC (R:Rel) (P:Program) (o:Oper) (a:Act) (W:World) (h:qS):Prop:=ZC R P W h ((execOp a.eval o).run P W)
def JK (R:Rel) (P:Program) (o:Oper) (a:Act) (W:World) (v:Value):Prop:=∃ w',(execOp a.eval o).run P W=.ok (.value v) w'/\R.r W w'
def ZI (R:Rel) (P:Program) (ops:Array Oper) (w0:World) (H:Nat->Option qS) (i:Nat) (o:Oper) (a:Act) (F:qJ) (h:qS):Prop:=
 (Region.wanted o (yielded ops a.tmps)=false/\h=one undef) \/
 (Region.wanted o (yielded ops a.tmps)=true/\H i=none/\∃ v,h=one v/\∀ W,R.r w0 W->(∀ k∈qF o,F k W)->JK R P o a W v) \/
 (Region.wanted o (yielded ops a.tmps)=true/\H i=some h/\∀ W,R.r w0 W->(∀ k∈qF o,F k W)->QC R P o a W h)
def KA (R:Rel) (w0:World) (F:qJ):Prop:=∃ W,R.r w0 W/\∀ k,F k W
def FOpG (R:Rel) (P:Program) (ops:Array Oper) (w0:World) (H:Nat->Option qS) (i:Nat) (o:Oper) (K:Act->qJ->Prop) (a:Act) (F:qJ):Prop:=
 ∃ h,ZI R P ops w0 H i o a F h/\∀ p,KA R w0 (upd F i o (h.φ p))->K (a.put o.dst (h.f p)) (upd F i o (h.φ p))
def vw (R:Rel) (P:Program) (ops:Array Oper) (w0:World) (H:Nat->Option qS) (L:Array Bool) (Q:Act->qJ->Prop):Nat->Array Bool->Act->qJ->Prop
 |0,listed,a,F=>listed=L/\Q a F
 |fuel+1,listed,a,F=>Region.ready .any ops listed≠[]/\∀ i∈Region.ready .any ops listed,∀ o,ops[i]?=some o->FOpG R P ops w0 H i o (vw R P ops w0 H L Q fuel (listed.setIfInBounds i true)) a F
theorem ZI.unique {H:Nat->Option qS} {i:Nat} {o:Oper} {a:Act} {F:qJ} {h h':qS} (hc:KA R w0 F) (x:ZI R P ops w0 H i o a F h) (y:ZI R P ops w0 H i o a F h'):h=h':=by
 obtain⟨W,hW,hF⟩:=hc;rcases x with ⟨x1,rfl⟩|⟨x1,x2,v,rfl,x3⟩|⟨x1,x2,x3⟩ <;> rcases y with ⟨y1,rfl⟩|⟨y1,y2,u,rfl,y3⟩|⟨y1,y2,y3⟩
 ·rfl
 ·rw[x1] at y1;cases y1
 ·rw[x1] at y1;cases y1
 ·rw[x1] at y1;cases y1
 ·obtain⟨w1,e1,_⟩:=x3 W hW fun k _=>hF k;obtain⟨w2,e2,_⟩:=y3 W hW fun k _=>hF k;rw[e1] at e2;cases e2;rfl
 ·rw[x2] at y2;cases y2
 ·rw[x1] at y1;cases y1
 ·rw[x2] at y2;cases y2
 ·rw[x2] at y2;cases y2;rfl
theorem ZI.some_ {H:Nat->Option qS} {i:Nat} {o:Oper} {a:Act} {F:qJ} {h:qS} (hc:KA R w0 F) (aH:∀ k,qC R (F k)) (x:ZI R P ops w0 H i o a F h):∃ p,KA R w0 (upd F i o (h.φ p)):=by
 obtain⟨W,hW,hF⟩:=hc;have fF:∀ (φ:World->Prop) W',R.r W W'->φ W'->KA R w0 (upd F i o φ):=fun φ W' he hφ=>⟨W',R.trans hW he,fun k=>by
  unfold upd;split
  ·exact⟨hφ,fun j _=>aH j _ _ he (hF j)⟩
  ·exact aH k _ _ he (hF k)⟩
 rcases x with ⟨x1,rfl⟩|⟨x1,x2,v,rfl,x3⟩|⟨x1,x2,x3⟩
 ·exact⟨(),fF _ W (R.refl W) trivial⟩
 ·exact⟨(),fF _ W (R.refl W) trivial⟩
 ·have h3:=x3 W hW fun k _=>hF k;unfold QC at h3;generalize (execOp a.eval o).run P W=r at h3;cases r with
  |ok n w' =>
   cases n <;> simp only[ZC] at h3
   case value u=>obtain⟨p,_,hp,he⟩:=h3;exact⟨p,fF _ w' he hp⟩
   case skip=>obtain⟨p,_,hp,he⟩:=h3;exact⟨p,fF _ w' he hp⟩
   case enter f args =>obtain⟨he,bJ⟩:=h3;obtain⟨e,w'',fr,⟨p,_,hp,lJ⟩,_⟩:=bJ [];exact⟨p,fF _ w'' (R.trans he lJ) hp⟩
  |halt x w'=>simp only[ZC] at h3
theorem ZI.move {H:Nat->Option qS} {i j:Nat} {oi oj:Oper} {a:Act} {F:qJ} {h:qS} {v:Value} {φ:World->Prop} (eX:oi.apart ops oj=true) (tu:∀ cs b,oj.op≠.select cs b) (hn:i∉qF oj):ZI R P ops w0 H j oj (a.put oi.dst v) (upd F i oi φ) h↔ZI R P ops w0 H j oj a F h:=by
 obtain⟨h1,_,_⟩:=Oper.apart_spec eX;have hF:∀ W,(∀ k∈qF oj,upd F i oi φ k W)↔∀ k∈qF oj,F k W:=fun W=>by
  constructor <;> intro hh k hk
  ·have:=hh k hk;unfold upd at this;rwa [if_neg (fun e=>hn (by rw[<-e];exact hk))] at this
  ·unfold upd;rw[if_neg (fun e=>hn (by rw[<-e];exact hk))];exact hh k hk
 unfold ZI JK QC;rw[wanted_put oj a oi.dst v h1,execOp_put oj tu a oi.dst v h1];simp only[hF]
theorem ZI.move' {H:Nat->Option qS} {i j:Nat} {oi oj:Oper} {a:Act} {F:qJ} {h:qS} {v:Value} {φ:World->Prop} (eX:oi.apart ops oj=true) (wE:∀ cs b,oi.op≠.select cs b) (hn:j∉qF oi):ZI R P ops w0 H i oi (a.put oj.dst v) (upd F j oj φ) h↔ZI R P ops w0 H i oi a F h:=by
 obtain⟨_,_,h3⟩:=Oper.apart_spec eX;have hF:∀ W,(∀ k∈qF oi,upd F j oj φ k W)↔∀ k∈qF oi,F k W:=fun W=>by
  constructor <;> intro hh k hk
  ·have:=hh k hk;unfold upd at this;rwa [if_neg (fun e=>hn (by rw[<-e];exact hk))] at this
  ·unfold upd;rw[if_neg (fun e=>hn (by rw[<-e];exact hk))];exact hh k hk
 unfold ZI JK QC;rw[wanted_put oi a oj.dst v h3,execOp_put oi wE a oj.dst v h3];simp only[hF]
theorem Zt {F:qJ} (aH:∀ k,qC R (F k)) (i:Nat) (o:Oper) {φ:World->Prop} (hφ:qC R φ):∀ k,qC R (upd F i o φ k):=by
 intro k;unfold upd;split
 ·exact fun W W' he ⟨h1,h2⟩=>⟨hφ W W' he h1,fun j hj=>aH j W W' he (h2 j hj)⟩
 ·exact aH k
theorem ZI.stable {H:Nat->Option qS} (hH:∀ i h,H i=some h->∀ p,qC R (h.φ p)) {i:Nat} {o:Oper} {a:Act} {F:qJ} {h:qS} (x:ZI R P ops w0 H i o a F h):∀ p,qC R (h.φ p):=by
 rcases x with ⟨_,rfl⟩|⟨_,_,v,rfl,_⟩|⟨_,x2,_⟩
 ·exact fun _ _ _ _ _=>trivial
 ·exact fun _ _ _ _ _=>trivial
 ·exact hH i h x2
theorem qaM {H:Nat->Option qS} (hH:∀ i h,H i=some h->∀ p,qC R (h.φ p)) {A:Nat->Prop} {L:Array Bool} {Q:Act->qJ->Prop} {i:Nat} {oi:Oper} (hi:ops[i]?=some oi) (him:A i) (gZ:∀ (j:Nat) (o:Oper) cs b,ops[j]?=some o->o.op≠.select cs b) (bM:∀ (j:Nat) (o:Oper),ops[j]?=some o->L.getD j true=false->∀ k,A k->k∈qF o) : ∀ (fuel:Nat) (listed:Array Bool) (a:Act) (F:qJ), (∀ j oj,ops[j]?=some oj->j≠i->listed.getD j true=false->(∀ e∈oj.after,Region.binds .any e=true->e.on≠i)->oi.apart ops oj=true) ->
   i∈Region.ready .any ops listed->(∀ k,qC R (F k))->KA R w0 F->(∀ k,listed.getD k true=false->∀ W,F k W) ->
   FOpG R P ops w0 H i oi (vw R P ops w0 H L Q fuel (listed.setIfInBounds i true)) a F->vw R P ops w0 H L Q (fuel+1) listed a F:=by
 intro fuel;induction fuel with
 |zero =>
  intro listed a F _ hr aH hc _ dZ;refine⟨fun h=>(by rw[h] at hr;cases hr),fun j hj oj dE=>?_⟩;by_cases hji:j=i
  ·subst hji;rw[hi] at dE;cases dE;exact dZ
  ·exfalso;obtain⟨h,hok,hK⟩:=dZ;obtain⟨p,eU⟩:=hok.some_ hc aH;have hmj:L.getD j true=false:=by rw[<-(hK p eU).1];exact(mem_ready.1 (ready_mono hj hji)).1
   obtain⟨_,o',uO,bC⟩:=mem_ready.1 hj;rw[dE] at uO;cases uO;have hin:=bM j oj dE hmj i him;obtain⟨e,he,nX⟩:=List.mem_map.1 hin;rw[List.mem_filter] at he;have h1:=bC e (by simpa using he.1) he.2;have h0:=(mem_ready.1 hr).1;rw[nX] at h1;rcases Nat.lt_or_ge i listed.size with h'|h'
   ·simp[h'] at h0 h1;rw[h0] at h1;cases h1
   ·simp[Array.getElem?_eq_none h'] at h1
 |succ fuel ih =>
  intro listed a F dH hr aH hc lC dZ;refine⟨fun h=>(by rw[h] at hr;cases hr),fun j hj oj dE=>?_⟩;by_cases hji:j=i
  ·subst hji;rw[hi] at dE;cases dE;exact dZ
  ·obtain⟨bY,oj',iM,bC⟩:=mem_ready.1 hj;rw[dE] at iM;cases iM;obtain⟨mO,oi',mW,fV⟩:=mem_ready.1 hr;rw[hi] at mW;cases mW;have bad:∀ k,listed.getD k true=false->listed.getD k false=true->False:=fun k h0 h1=>by
    rcases Nat.lt_or_ge k listed.size with h'|h'
    ·simp[h'] at h0 h1;rw[h0] at h1;cases h1
    ·simp[Array.getElem?_eq_none h'] at h1
   have mQ:∀ e∈oj.after,Region.binds .any e=true->e.on≠i:=fun e he hb nY=>bad i mO (nY ▸ bC e he hb);have mV:∀ e∈oi.after,Region.binds .any e=true->e.on≠j:=fun e he hb nY=>bad j bY (nY ▸ fV e he hb);have iE:i∉qF oj:=fun hin=>by obtain⟨e,he,nX⟩:=List.mem_map.1 hin;rw[List.mem_filter] at he;exact mQ e (by simpa using he.1) he.2 nX
   have rC:j∉qF oi:=fun hin=>by obtain⟨e,he,nX⟩:=List.mem_map.1 hin;rw[List.mem_filter] at he;exact mV e (by simpa using he.1) he.2 nX
   have eX:=dH j oj dE hji bY mQ;have wE:∀ cs b,oi.op≠.select cs b:=fun cs b=>gZ i oi cs b hi;have tu:∀ cs b,oj.op≠.select cs b:=fun cs b=>gZ j oj cs b dE;obtain⟨h2,_⟩:=(Oper.apart_spec eX).2;obtain⟨hI,okI,hKI⟩:=dZ;obtain⟨p0,sS⟩:=okI.some_ hc aH;obtain⟨hJ,wJ,_⟩:=(hKI p0 sS).2 j (ready_mono hj hji) oj dE;have uT:ZI R P ops w0 H j oj a F hJ:=(ZI.move eX tu iE).1 wJ;refine⟨hJ,uT,fun q hcq=>?_⟩;have stJ:=uT.stable hH q;have fJ:∀ k ok,ops[k]?=some ok->k≠i->(listed.setIfInBounds j true).getD k true=false ->
     (∀ e∈ok.after,Region.binds .any e=true->e.on≠i)->oi.apart ops ok=true:=fun k ok hk dY mg bT=>by
    refine dH k ok hk dY ?_ bT;by_cases hjk:j=k
    ·subst hjk;exact bY
    ·rw[getD_set_ne true hjk] at mg;exact mg
   refine ih (listed.setIfInBounds j true) _ _ fJ (ready_mono hr (Ne.symm hji)) (Zt aH j oj stJ) hcq ?_ ?_
   ·intro k hk W;by_cases hjk:j=k
    ·subst hjk;exfalso;have hlt:j<listed.size:=by
      rcases Nat.lt_or_ge j listed.size with h'|h'
      ·exact h'
      ·simp[Array.getElem?_eq_none h'] at bY
     simp[hlt] at hk
    ·rw[getD_set_ne true hjk] at hk;have:=lC k hk W;unfold upd;rw[if_neg (fun e=>hjk e.symm)];exact this
   ·refine⟨hI,(ZI.move' eX wE rC).2 okI,fun p eU=>?_⟩;have uf:KA R w0 (upd F i oi (hI.φ p)):=by
     obtain⟨W,hW,hF⟩:=eU;refine⟨W,hW,fun k=>?_⟩;have hk:=hF k;by_cases dY:k=i
     ·subst dY;unfold upd at hk ⊢;rw[if_pos rfl] at hk ⊢;refine⟨hk.1,fun l hl=>?_⟩;have:=hk.2 l hl
      rwa [if_neg (fun e=>rC (by rw[<-e];exact hl))] at this
     ·by_cases hkj:k=j
      ·subst hkj;unfold upd;rw[if_neg dY];exact lC k bY W
      ·unfold upd at hk ⊢;rw[if_neg dY,if_neg hkj] at hk;rw[if_neg dY];exact hk
    obtain⟨yz,wI,uZ⟩:=(hKI p uf).2 j (ready_mono hj hji) oj dE;have mr:ZI R P ops w0 H j oj a F yz:=(ZI.move eX tu iE).1 wI;have e:=mr.unique hc uT;subst e;have hq:=uZ q (by rw[JQ F _ _ (Ne.symm hji) iE rC];exact eU);rw[Array.setIfInBounds_comm _ _ (fun e=>hji e.symm),Act.put_comm a (hI.f p) (yz.f q) h2,JQ F _ _ (Ne.symm hji) iE rC] at hq;exact hq
def qp:Nat->List Oper->List Bool->List (Nat×Oper)
 |k,o :: l,true :: m=>(k,o) :: qp (k+1) l m
 |k,_ :: l,false :: m=>qp (k+1) l m
 |_,_,_=>[]
theorem vk:∀ (l:List Oper) (m:List Bool) (k:Nat),∀ x∈qp k l m,∃ j,x.1=k+j/\l[j]?=some x.2:=by
 intro l;induction l with
 |nil=>intro m k x hx;cases m <;> simp[qp] at hx
 |cons o l ih =>
  intro m k x hx;cases m with
  |nil=>simp[qp] at hx
  |cons b m =>
   cases b
   ·simp only[qp] at hx;obtain⟨j,h1,h2⟩:=ih m (k+1) x hx;exact⟨j+1,zO,by simpa using h2⟩
   ·simp only[qp,List.mem_cons] at hx;rcases hx with rfl|hx
    ·exact⟨0,rfl,rfl⟩
    ·obtain⟨j,h1,h2⟩:=ih m (k+1) x hx;exact⟨j+1,zO,by simpa using h2⟩
def Zz (R:Rel) (P:Program) (ops:Array Oper) (w0:World) (H:Nat->Option qS) (Q:Act->qJ->Prop):List (Nat×Oper)->Act->qJ->Prop
 | [],a,F=>Q a F
 |(k,o) :: rest,a,F=>FOpG R P ops w0 H k o (fun a' F'=>Zz R P ops w0 H Q rest a' F') a F
def Zq (ops:Array Oper) (L:Array Bool):List Nat->Array Bool->Bool
 | [],listed=>listed == L
 |k :: r,listed=>(Region.ready .any ops listed).contains k && Region.free .any ops listed k && Zq ops L r (listed.setIfInBounds k true)
def tailM (ops:Array Oper) (L:Array Bool) (ks:List Nat):Bool:=(List.range ops.size).all fun j=>L.getD j true || ks.all fun k=>(match ops[j]? with|some o=>(qF o).contains k|none=>true)
theorem qfQ {L:Array Bool} {ks:List Nat} (h:tailM ops L ks=true):∀ (j:Nat) (o:Oper),ops[j]?=some o->L.getD j true=false->∀ k,k∈ks->k∈qF o:=by intro j o ho hm k hk;have h1:=List.all_eq_true.1 h j (List.mem_range.2 (zG.1 ho).1);rw[hm,Bool.false_or] at h1;have h2:=List.all_eq_true.1 h1 k hk;rw[ho] at h2;simpa using h2
theorem Uy {H:Nat->Option qS} (hH:∀ i h,H i=some h->∀ p,qC R (h.φ p)) {L:Array Bool} {ks:List Nat} {Q:Act->qJ->Prop} (hs:Region.noSelect ops=true) (bM:∀ (j:Nat) (o:Oper),ops[j]?=some o->L.getD j true=false->∀ k,k∈ks->k∈qF o):∀ (l:List (Nat×Oper)) (listed:Array Bool) (a:Act) (F:qJ),(∀ x∈l,ops[x.1]?=some x.2/\x.1∈ks) ->
  Zq ops L (l.map (·.1)) listed=true->(∀ k,qC R (F k))->KA R w0 F->(∀ j,listed.getD j true=false->∀ W,F j W)->Zz R P ops w0 H Q l a F->vw R P ops w0 H L Q l.length listed a F
 | [],listed,a,F,_,hB,_,_,_,h=>⟨by simpa [Zq] using hB,h⟩
 |(k,o) :: l,listed,a,F,hl,hB,aH,hc,lC,h=>by
  obtain⟨h0,yA⟩:=hl (k,o) (List.mem_cons_self);simp only[List.map_cons,Zq,Bool.and_eq_true] at hB;obtain⟨⟨hr,hf⟩,iC⟩:=hB;have yH:k∈Region.ready .any ops listed:=by simpa using hr
  have uk:=(mem_ready.1 yH).1;refine qaM (A:=fun k=>k∈ks) hH h0 yA (Region.noSelect_spec hs) bM l.length listed a F (Region.free_spec h0 hf) yH aH hc lC ?_;obtain⟨hh,hok,hK⟩:=h;refine⟨hh,hok,fun p eU=>?_⟩;refine Uy hH hs bM l _ _ _ (fun x hx=>hl x (List.mem_cons_of_mem _ hx)) iC (Zt aH k o (hok.stable hH p)) eU (fun j hj W=>?_) (hK p eU);by_cases hjk:k=j
  ·subst hjk;have hlt:k<listed.size:=by
    rcases Nat.lt_or_ge k listed.size with h'|h'
    ·exact h'
    ·simp[Array.getElem?_eq_none h'] at uk
   simp[hlt] at hj
  ·rw[getD_set_ne true hjk] at hj;have:=lC j hj W;unfold upd;rw[if_neg (fun e=>hjk e.symm)];exact this
theorem qaP {H:Nat->Option qS} {i:Nat} {o:Oper} {a:Act} {F:qJ} {K:Act->qJ->Prop} {K':Act->World->Prop} {Q':Exit->Act->World->Prop} {W:World} (hi:ops[i]?=some o) (hH:∀ i h,H i=some h->∀ p,qC R (h.φ p)) (aH:∀ k,qC R (F k)) (hW:R.r w0 W) (hF:∀ k,F k W) (hK:∀ a' F' W',K a' F'->(∀ k,qC R (F' k))->R.r w0 W'->(∀ k,F' k W')->K' a' W') (h:FOpG R P ops w0 H i o K a F):wpOp P ops Q' i K' a W:=by
 obtain⟨hh,hok,hn⟩:=h;have go:∀ p W',R.r W W'->hh.φ p W'->K' (a.put o.dst (hh.f p)) W':=fun p W' he hφ=>by
  have lq:∀ k,upd F i o (hh.φ p) k W':=fun k=>by
   unfold upd;split
   ·exact⟨hφ,fun j _=>aH j _ _ he (hF j)⟩
   ·exact aH k _ _ he (hF k)
  exact hK _ _ W' (hn p ⟨W',R.trans hW he,lq⟩) (Zt aH i o (hok.stable hH p)) (R.trans hW he) lq
 unfold wpOp;simp only[hi];rcases hok with ⟨x1,rfl⟩|⟨x1,x2,v,rfl,x3⟩|⟨x1,x2,x3⟩
 ·simp only[x1,Bool.false_eq_true,if_false];exact go () W (R.refl W) trivial
 ·simp only[x1,if_true];obtain⟨w',hr,he⟩:=x3 W hW fun k _=>hF k;refine .inl ?_;unfold Oper.wp;rw[hr];exact go () w' he trivial
 ·simp only[x1,if_true];have h3:=x3 W hW fun k _=>hF k;refine .inl ?_;unfold QC at h3;unfold Oper.wp;generalize (execOp a.eval o).run P W=r at *;cases r with
  |ok n w' =>
   cases n <;> simp only[ZC] at h3 <;> simp only[Oper.upon]
   case value u =>obtain⟨p,rfl,hp,he⟩:=h3;exact go p w' he hp
   case skip =>obtain⟨p,hu,hp,he⟩:=h3;rw[hu];exact go p w' he hp
   case enter f args =>obtain⟨he,bJ⟩:=h3;refine bJ.mono fun e w'' ⟨p,he1,hp,lJ⟩=>?_;subst he1;exact go p w'' (R.trans he lJ) hp
  |halt x w'=>simp only[ZC] at h3
theorem vW {H:Nat->Option qS} (hH:∀ i h,H i=some h->∀ p,qC R (h.φ p)) {L:Array Bool} {t:Nat} {Q:Act->qJ->Prop} {Q':Exit->Act->World->Prop} (hQ:∀ a F W,Q a F->R.r w0 W->(∀ k,F k W)->wpAny P .any ops Q' t L a W) : ∀ (fuel:Nat) (listed:Array Bool) (a:Act) (F:qJ) (W:World),(∀ k,qC R (F k))->R.r w0 W->(∀ k,F k W)->vw R P ops w0 H L Q fuel listed a F->wpAny P .any ops Q' (fuel+t) listed a W
 |0,listed,a,F,W,_,hW,hF,h=>by rw[h.1,Nat.zero_add];exact hQ a F W h.2 hW hF
 |fuel+1,listed,a,F,W,aH,hW,hF,h=>by rw[show fuel+1+t=fuel+t+1 by omega];refine⟨fun h0=>absurd h0 h.1,fun i hi=>?_⟩;obtain⟨_,o,ho,_⟩:=mem_ready.1 hi;exact qaP ho hH aH hW hF (fun a' F' W' hk gm ay lq=>vW hH hQ fuel _ a' F' W' gm ay lq hk) (h.2 i hi o ho)
def QN (Q:Exit->Act->World->Prop):Exit->Act->World->Prop:=fun e a w=>match e with | .normal=>Q .normal a w|_=>False
theorem Qm {Q:Exit->Act->World->Prop} {a:Act} {w:World} (h:Q .normal a w):QN Q .normal a w:=h
theorem JG {Q:Exit->Act->World->Prop}:¬LetsOut (QN Q):=fun ⟨_,_,h⟩=>h
theorem wpOp_QN {Q:Exit->Act->World->Prop} {i:Nat} {a:Act} {w:World} {K K':Act->World->Prop} (hK:∀ a w,K a w->K' a w) (h:wpOp P ops (QN Q) i K a w):wpOp P ops Q i K' a w:=by
 unfold wpOp at *;split
 ·exact hK _ _ (by simpa [*] using h)
 ·rename_i o ho;simp only[ho] at h;split
  ·rename_i hw;simp only[hw,if_true] at h;rcases h with h|⟨_,h⟩
   ·refine .inl ?_;unfold Oper.wp at *;generalize (execOp a.eval o).run P w=r at *;cases r with
    |ok n w' =>
     cases n <;> simp only[Oper.upon] at h ⊢ <;>
      first
       |exact hK _ _ h
       |exact Calls.mono h (fun e w'' he=>by cases e <;> first|exact hK _ _ he|exact absurd he JG|exact False.elim he)
       |exact Rows.mono h (fun _ _ he=>hK _ _ he)
    |halt x w'=>cases x <;> simp only[Oper.upon] at h ⊢ <;> exact False.elim h
   ·exact absurd h JG
  ·rename_i hw;simp only[hw] at h;exact hK _ _ h
theorem qeA {Q:Exit->Act->World->Prop}:∀ (fuel:Nat) (listed:Array Bool) (a:Act) (w:World),wpAny P .any ops (QN Q) fuel listed a w->wpAny P .any ops Q fuel listed a w
 |0,_,_,_,h=>⟨h.1,h.2⟩
 |fuel+1,listed,a,w,h=>⟨h.1,fun i hi=>wpOp_QN (fun a w h=>qeA fuel _ a w h) (h.2 i hi)⟩
theorem qaj {Q:Exit->Act->World->Prop} {z:Nat} {oz:Oper} {v:Value} (hz:ops[z]?=some oz) (gZ:∀ (j:Nat) (o:Oper) cs b,ops[j]?=some o->o.op≠.select cs b) : ∀ (fuel:Nat) (listed:Array Bool) (a:Act) (W:World), (∀ j oj,ops[j]?=some oj->j≠z->listed.getD j true=false->(∀ e∈oj.after,Region.binds .any e=true->e.on≠z)->oz.apart ops oj=true) ->
   z∈Region.ready .any ops listed->Region.wanted oz (yielded ops a.tmps)=true->(∀ W,(execOp a.eval oz).run P W=.ok (.value v) W) ->
   wpAny P .any ops (QN Q) fuel (listed.setIfInBounds z true) (a.put oz.dst v) W->wpAny P .any ops (QN Q) (fuel+1) listed a W:=by
 have first:∀ (K:Act->World->Prop) (a:Act) (W:World),Region.wanted oz (yielded ops a.tmps)=true->(∀ W,(execOp a.eval oz).run P W=.ok (.value v) W)->K (a.put oz.dst v) W->wpOp P ops (QN Q) z K a W:=by intro K a W hw hp h;unfold wpOp;simp only[hz,hw,if_true];refine .inl ?_;unfold Oper.wp;rw[hp];exact h
 intro fuel;induction fuel with
 |zero =>
  intro listed a W dH hr hw hp h;refine⟨fun h0=>(by rw[h0] at hr;cases hr),fun i hi=>?_⟩;by_cases hiz:i=z
  ·subst hiz;exact first _ a W hw hp h
  ·exfalso;have:=ready_mono hi hiz;rw[h.1] at this;cases this
 |succ fuel ih =>
  intro listed a W dH hr hw hp h;refine⟨fun h0=>(by rw[h0] at hr;cases hr),fun i hi=>?_⟩;by_cases hiz:i=z
  ·subst hiz;exact first _ a W hw hp h
  ·have dD:=h.2 i (ready_mono hi hiz);obtain⟨mO,oi,hoi,fV⟩:=mem_ready.1 hi;obtain⟨hzun,_,_,_⟩:=mem_ready.1 hr;have bad:∀ k,listed.getD k true=false->listed.getD k false=true->False:=fun k h0 h1=>by
    rcases Nat.lt_or_ge k listed.size with h'|h'
    ·simp[h'] at h0 h1;rw[h0] at h1;cases h1
    ·simp[Array.getElem?_eq_none h'] at h1
   have eX:=dH i oi hoi hiz mO (fun e he hb nY=>bad z hzun (nY ▸ fV e he hb));obtain⟨h1,h2,h3⟩:=Oper.apart_spec eX;have wE:∀ cs b,oi.op≠.select cs b:=fun cs b=>gZ i oi cs b hoi;have hsz:∀ cs b,oz.op≠.select cs b:=fun cs b=>gZ z oz cs b hz;have step:∀ (b:Act) (u:Value) (w':World),b.tmps=a.tmps->wpAny P .any ops (QN Q) fuel ((listed.setIfInBounds z true).setIfInBounds i true) ((b.put oz.dst v).put oi.dst u) w'->wpAny P .any ops (QN Q) (fuel+1) (listed.setIfInBounds i true) (b.put oi.dst u) w':=by
    intro b u w' hb hh;rw[Act.put_comm b v u h2,Array.setIfInBounds_comm _ _ (fun e=>hiz e.symm)] at hh;have uh:b.eval=a.eval:=by funext x;cases x <;> simp[Act.eval,hb]
    refine ih _ _ w' (fun j oj dE hjz bY bT=>?_) (ready_mono hr (Ne.symm hiz)) ?_ (fun W=>?_) hh
    ·refine dH j oj dE hjz ?_ bT;by_cases hij:i=j
     ·subst hij;exact mO
     ·rw[getD_set_ne true hij] at bY;exact bY
    ·rw[wanted_put oz b oi.dst u h3,hb];exact hw
    ·rw[execOp_put oz hsz b oi.dst u h3,uh];exact hp W
   unfold wpOp at dD ⊢;simp only[hoi] at dD ⊢;rw[wanted_put oi a oz.dst v h1] at dD;split
   ·rename_i hw';rw[if_pos hw'] at dD;rcases dD with dD|⟨_,dD⟩
    ·refine .inl ?_;unfold Oper.wp at dD ⊢;rw[execOp_put oi wE a oz.dst v h1] at dD;generalize (execOp a.eval oi).run P W=r at *;cases r with
     |ok n w' =>
      cases n <;> simp only[Oper.upon] at dD ⊢
      case value u=>exact step a u w' rfl dD
      case skip=>exact step a undef w' rfl dD
      case defer d =>
       refine step { a with defers:=d :: a.defers } undef w' rfl ?_;have e:({ a.put oz.dst v with defers:=d :: (a.put oz.dst v).defers }:Act)=({ a with defers:=d :: a.defers }:Act).put oz.dst v:=by cases oz.dst <;> rfl
       rw[<-e];exact dD
      case enter f args=>exact Calls.mono dD (fun e w'' he=>by cases e <;> first|exact step a _ _ rfl he|exact absurd he JG|exact False.elim he)
      case row=>exact Rows.mono dD (fun _ _ he=>step a _ _ rfl he)
     |halt x w'=>cases x <;> simp only[Oper.upon] at dD ⊢ <;> exact False.elim dD
    ·exact absurd dD JG
   ·rename_i hw';rw[if_neg hw'] at dD;exact step a undef W rfl dD
theorem qm {id:Nat} {l:List Oper} {Q:Exit->Act->World->Prop} {a:Act} {w:World} (hm:P.follows .mixedOrders=true) (h:wpAny P .any l.toArray (QN Q) l.length (Array.replicate l.length false) a w.drew):(Code.region id l.toArray true).wp P Q a w:=
 wp_region_any hm (by simpa using qeA _ _ _ _ h)
theorem zu {l:List Oper} {Q:Exit->Act->World->Prop} {n:Nat} {listed:Array Bool} {a:Act} {W:World} (z fuel:Nat) {oz:Oper} (v:Value) (hn:n=fuel+1) (hz:l.toArray[z]?=some oz) (hs:Region.noSelect l.toArray=true) (hf:Region.free .any l.toArray listed z=true) (hr:(Region.ready .any l.toArray listed).contains z=true) (hw:Region.wanted oz (yielded l.toArray a.tmps)=true) (hp:∀ W,(execOp a.eval oz).run P W=.ok (.value v) W) (h:wpAny P .any l.toArray (QN Q) fuel (listed.setIfInBounds z true) (a.put oz.dst v) W):wpAny P .any l.toArray (QN Q) n listed a W:=
 hn ▸ qaj hz (Region.noSelect_spec hs) fuel listed a W (Region.free_spec hz hf) (by simpa using hr) hw hp h
theorem Zo {l:List Oper} {Q:Exit->Act->World->Prop} {fuel:Nat} {listed:Array Bool} {a:Act} {w W:World} (R:Rel) (H:Nat->Option qS) (M:List Bool) (t:Nat) (hs:Region.noSelect l.toArray=true) (ht:tailM l.toArray (QK l.length (l.length-t)) ((qp 0 l M).map (·.1))=true) (hB:Zq l.toArray (QK l.length (l.length-t)) ((qp 0 l M).map (·.1)) listed=true) (mZ:TJ l.toArray t (l.length-t) (QK l.length (l.length-t))=true) (hfu:fuel=(qp 0 l M).length+t) (oD:(l.drop (l.length-t)).length=t) (hH:∀ i h,H i=some h->∀ p,qC R (h.φ p)) (hW:R.r w W) (h:∀ K:Act->qJ->Prop,(∀ a' F',(∀ W,R.r w W->(∀ k,F' k W)->wpList P l.toArray Q (l.drop (l.length-t)) a' W)->K a' F')->Zz R P l.toArray w H K (qp 0 l M) a (fun _ _=>True)):wpAny P .any l.toArray Q fuel listed a W:=by
 have h:=h _ (fun a' F' hh=>hh);subst hfu;have key:=Uy (w0:=w) hH hs (qfQ ht) (qp 0 l M) listed a (fun _ _=>True) (fun x hx=>by obtain⟨j,h1,h2⟩:=vk l M 0 x hx;refine⟨?_,List.mem_map.2 ⟨x,hx,rfl⟩⟩;rw[h1,Nat.zero_add];simpa using h2) hB (fun _ _ _ _ _=>trivial) ⟨W,hW,fun _=>trivial⟩ (fun _ _ _=>trivial) h;refine vW (w0:=w) hH (t:=t) (Q':=Q) (fun a F W hq hW hF=>?_) _ _ _ _ W (fun _ _ _ _ _=>trivial) hW (fun _=>trivial) key;have:=ky (l.drop (l.length-t)) (l.length-t) _ a W (fun j _=>by rw[List.getElem?_drop];simp) (by rw[oD];exact mZ) (hq W hW hF)
 rwa [oD] at this
theorem qj {l:List (Nat×qS)} (h:∀ x∈l,∀ p,qC R (x.2.φ p)):∀ i hh,qD l i=some hh->∀ p,qC R (hh.φ p):=by
 induction l with
 |nil=>intro i hh e;cases e
 |cons x r ih =>
  intro i hh e;obtain⟨j,o⟩:=x;simp only[qD] at e;split at e
  ·cases e;exact h (j,_) (List.mem_cons_self)
  ·exact ih (fun y hy=>h y (List.mem_cons_of_mem _ hy)) i hh e
theorem qdS (v:Value):∀ p,qC R ((one v).φ p):=fun _ _ _ _ _=>trivial
theorem Qb {o:Oper} {a:Act} {W:World} {hh:qS} {f:FuncId} {args:Array Value} (hr:(execOp a.eval o).run P W=.ok (.enter f args) W) (hc:Calls P f args W fun e w''=>∃ p,e=.returned (hh.f p)/\hh.φ p w''/\R.r W w''):QC R P o a W hh:=by
 unfold QC;rw[hr];exact⟨R.refl W,hc⟩
theorem ZW {o:Oper} {a:Act} {W w':World} {hh:qS} {u:Value} (hr:(execOp a.eval o).run P W=.ok (.value u) w') (hp:∃ p,u=hh.f p/\hh.φ p w'/\R.r W w'):QC R P o a W hh:=by
 unfold QC;rw[hr];exact hp
theorem vj {o:Oper} {a:Act} {W w':World} {hh:qS} (hr:(execOp a.eval o).run P W=.ok .skip w') (hp:∃ p,undef=hh.f p/\hh.φ p w'/\R.r W w'):QC R P o a W hh:=by
 unfold QC;rw[hr];exact hp
/-! ### the steps of the walk -/
section
variable {H:Nat->Option qS} {Q:Act->qJ->Prop} {k:Nat} {o:Oper} {rest:List (Nat×Oper)} {a:Act} {F:qJ}
theorem qt (h:Q a F):Zz R P ops w0 H Q [] a F:=h
theorem qd (v:Value) (hw:Region.wanted o (yielded ops a.tmps)=true) (hH:H k=none) (hv:∀ W,R.r w0 W->(∀ j∈qF o,F j W)->JK R P o a W v) (h:Zz R P ops w0 H Q rest (a.put o.dst v) (upd F k o fun _=>True)):Zz R P ops w0 H Q ((k,o) :: rest) a F:=
 ⟨one v,.inr (.inl ⟨hw,hH,v,rfl,hv⟩),fun _ _=>h⟩
theorem qh (hw:Region.wanted o (yielded ops a.tmps)=false) (h:Zz R P ops w0 H Q rest (a.put o.dst undef) (upd F k o fun _=>True)):Zz R P ops w0 H Q ((k,o) :: rest) a F:=
 ⟨one undef,.inl ⟨hw,rfl⟩,fun _ _=>h⟩
theorem qw (hh:qS) (hw:Region.wanted o (yielded ops a.tmps)=true) (hH:H k=some hh) (hv:∀ W,R.r w0 W->(∀ j∈qF o,F j W)->QC R P o a W hh) (h:∀ p,Zz R P ops w0 H Q rest (a.put o.dst (hh.f p)) (upd F k o (hh.φ p))):Zz R P ops w0 H Q ((k,o) :: rest) a F:=
 ⟨hh,.inr (.inr ⟨hw,hH,hv⟩),fun p _=>h p⟩
end
end
end
theorem zP {R:Rel} {P:Program} {ops:Array Oper} {w0:World} {H:Nat->Option qS} {Q:Act->qJ->Prop} {rest:List (Nat×Oper)} {a:Act} {F:qJ} {k:Nat} {o:Oper} (v:Value) (hv:∀ W,R.r w0 W->(∀ j∈qF o,F j W)->(execOp a.eval o).run P W=.ok (.value v) W) (h:Zz R P ops w0 H Q rest (a.put o.dst v) (upd F k o fun _=>True)) (hw:Region.wanted o (yielded ops a.tmps)=true:=by rfl) (hH:H k=none:=by rfl):Zz R P ops w0 H Q ((k,o) :: rest) a F:=
 qd v hw hH (fun W h1 h2=>⟨W,hv W h1 h2,Rel.refl _ W⟩) h
theorem Xd {above:Bool} {xs:List It} {i:Nat} (hi:i<xs.length):TU above xs i=(itB xs[i].r xs[i].val.length && (decide (i=0) || (match xs[i-1]? with|some y=>qbX y xs[i]|none=>true)) && !(above && (decide (xs[i].r=0) || decide (0<xs[i].val.length)))):=by unfold TU;rw[zL hi];rfl
theorem qdf {above:Bool} {xs:List It} {i:Nat} (hi:i<xs.length) (h:itB xs[i].r xs[i].val.length=false):TU above xs i=false:=by rw[Xd hi,h];rfl
set_option maxRecDepth 100000 in
theorem qft (lvl:Int) (A:Option Addr) (n c:Nat) (xs:List It) (w:World) (hx:Its w w.heap.size (.slice A n c) xs) (h:jv lvl n=true):Calls prog 89 #[je lvl A n c] w (Ret (.int .i64 (Jh (Qe lvl xs))) w):=by
 obtain⟨hn,fP,eG,hA⟩:=hx.at_;have h':0<=lvl/\lvl<6/\n<=5/\(0<lvl->n≠0):=by unfold jv at h;exact of_decide_eq_true h
 have hM:Qe lvl xs=kH (decide (0<lvl)) xs xs.length:=by unfold Qe;rw[<-hn,h];rfl
 rw[hM];clear hM h;subst hn;have HX:=zH hx;clear hx;obtain⟨h1,h2,h3,h4⟩:=h';by_cases hab:0<lvl
 ·rw[decide_eq_true hab];go_enter func89,ntmps89;go_wp2;all_goals simp only[beq_eq_false_iff_ne,ne_eq] at *
  all_goals first|(exfalso;omega)|skip
  generalize aA:(World.alloc _ _)=w1;have b1:Ext w w1:=by rw[<-aA];exact zN _ _
  have r1:w1.heap[w.heap.size]?=some (.cells #[.int .i64 lvl,.slice A xs.length c] 49 (0,0)):=by rw[<-aA];exact zI _ _ _ rfl
  clear aA;go_loopw [36] (fun i wr=>∃ k:Nat,k<=xs.length/\i=.int .i64 (k:Int)/\kH true xs k=true/\Ext w1 wr) (fun i _=>xs.length-(intOf i).toNat)
  case atStart=>exact⟨0,zO,rfl,rfl,Ext.refl _⟩
  case round =>
   obtain⟨k,hk,rfl,nV,hE⟩:=hrel;by_cases hlt:k<xs.length
   ·have aJ:=hlt;obtain⟨b,off,rfl,hb⟩:=hA zO;have b2:Ext w wr:=b1.trans hE;obtain⟨A',c',c0,c1,c2,c3,c4,aT⟩:=(HX.out.ext b2).item k aJ;have HCK:=zH (Xd (above:=true) aJ);have HBAD:=zH (UZ (above:=true) aJ);have HBI:=zH (qdf (above:=true) aJ);have HSU:=zH (TT true xs k);generalize hx:xs[k]=x at *;go_wp2_with fail;generalize aO:(World.alloc _ _)=w3;have b3:Ext wr w3:=by rw[<-aO];exact zN _ _
    have r3:w3.heap[wr.heap.size]?=some (.cells #[.int .u8 x.k,.int .u32 x.i,.int .u32 x.o,.int .i64 x.r,.slice A' x.val.length c'] 68 (0,0)):=by rw[<-aO];exact zI _ _ _ rfl
    clear aO;refine(Jn x.k x.i x.o x.r A' x.val.length c' _).mono ?_;rintro e w4 ⟨rfl,hB⟩;have b4:Ext wr w4:=b3.trans hB;have r4:=qb r3 hB;clear hB r3 b3;by_cases hok:itB x.r x.val.length=true
    ·rw[Jw hok];go_wp2;have b5:Ext w1 w4:=hE.trans b4;have rn:=qb r1 b5;have n1:∀ W,Ext w4 W->W.cell? ⟨w.heap.size,1,none⟩=some (.slice (some ⟨b,off,none⟩) xs.length c):=fun W h=>by rw[qa (qb rn h)];rfl
     have i0:∀ W,Ext w4 W->W.cell? ⟨wr.heap.size,0,none⟩=some (.int .u8 x.k):=fun W h=>by rw[qa (qb r4 h)];rfl
     have i1:∀ W,Ext w4 W->W.cell? ⟨wr.heap.size,1,none⟩=some (.int .u32 x.i):=fun W h=>by rw[qa (qb r4 h)];rfl
     have i2:∀ W,Ext w4 W->W.cell? ⟨wr.heap.size,2,none⟩=some (.int .u32 x.o):=fun W h=>by rw[qa (qb r4 h)];rfl
     have i3:∀ W,Ext w4 W->W.cell? ⟨wr.heap.size,3,none⟩=some (.int .i64 x.r):=fun W h=>by rw[qa (qb r4 h)];rfl
     have i4:∀ W,Ext w4 W->W.cell? ⟨wr.heap.size,4,none⟩=some (.slice A' x.val.length c'):=fun W h=>by rw[qa (qb r4 h)];rfl
     rcases k with _|j
     ·refine zl (qD [(12,one (.bool true))]) 29 zQ zQ zQ zA1 zQ zQ ?st ?walk
      case st=>exact Zb (by simp only[List.forall_mem_cons];exact⟨Zw _,fun _ h=>by cases h⟩)
      case walk =>
       intro K hK;dsimp only[List.take];by_cases hr0:x.r=0
       ·have mX:(x.r == 0)=true:=by simpa using hr0
        repeat ((first|(refine qM ?_ zA0 zA0 (fun W hW _=>⟨W,?_,Ext.refl W⟩) ?_;rotate_left;(go_simp<;>with_reducible rfl))|(refine qV zA0 ?_));try simp only[Act.put,ql,qf,qc,qg,zA,zB,zC])
        refine Zp (hK _ _ fun W hW hF=>?_);clear hF hK;have b7:Ext wr W:=b4.trans hW;dsimp only[List.drop];go_wp2;all_goals first
         |(go_ret
           exact⟨by rw[HBAD.out (by rw[HCK.out,hok];simp[*])];rfl,Ext.trans b2 b7⟩)
         |(go_roundw
           case rel=>exact⟨0+1,zO,by go_num,by rw[HSU.out,nV,HCK.out,hok];simp[*],hE.trans b7⟩
           case measure=>simp[intOf];omega)
       ·have mX:(x.r == 0)=false:=by simpa using hr0
        repeat ((first|(refine qM ?_ zA0 zA0 (fun W hW _=>⟨W,?_,Ext.refl W⟩) ?_;rotate_left;(go_simp<;>with_reducible rfl))|(refine qV zA0 ?_));try simp only[Act.put,ql,qf,qc,qg,zA,zB,zC])
        refine Zp (hK _ _ fun W hW hF=>?_);clear hF hK;have b7:Ext wr W:=b4.trans hW;dsimp only[List.drop];go_wp2;all_goals first
         |(go_ret
           exact⟨by rw[HBAD.out (by rw[HCK.out,hok];simp[*])];rfl,Ext.trans b2 b7⟩)
         |(go_roundw
           case rel=>exact⟨0+1,zO,by go_num,by rw[HSU.out,nV,HCK.out,hok];simp[*],hE.trans b7⟩
           case measure=>simp[intOf];omega)
     ·have hjl:j<xs.length:=zO;obtain⟨A2,c2',d0,d1,d2,d3,d4,_⟩:=(HX.out.ext (b2.trans b4)).item j hjl;have tN:xs[j+1-1]?=some xs[j]:=by rw[Nat.add_sub_cancel,zL hjl]
      have HP:=zH tN;clear tN;generalize xs[j]=y at *;have p0:∀ W,Ext w4 W->W.cell? ⟨b,off+j*5,none⟩=some (.int .u8 y.k):=fun W h=>Ext.cell h d0;have p1:∀ W,Ext w4 W->W.cell? ⟨b,off+j*5+1,none⟩=some (.int .u32 y.i):=fun W h=>Ext.cell h d1;have p2:∀ W,Ext w4 W->W.cell? ⟨b,off+j*5+2,none⟩=some (.int .u32 y.o):=fun W h=>Ext.cell h d2;clear d0 d1 d2 d3 d4;have HL:=zH (fun W=>KL y.k y.i y.o x.k x.i x.o W);have HLE:Hid (qbX y x=VO y.k y.i y.o x.k x.i x.o):=rfl;generalize VO y.k y.i y.o x.k x.i x.o=L at *;refine zl (qD [(12,one (.bool L))]) 29 zQ zQ zQ zA1 zQ zQ ?st ?walk
      case st=>exact Zb (by simp only[List.forall_mem_cons];exact⟨Zw _,fun _ h=>by cases h⟩)
      case walk =>
       intro K hK;dsimp only[List.take];repeat ((first|(refine qM ?_ zA0 zA0 (fun W hW _=>⟨W,?_,Ext.refl W⟩) ?_;rotate_left;(go_simp<;>with_reducible rfl))|(refine qV zA0 ?_));try simp only[Act.put,ql,qf,qc,qg,zA,zB,zC])
       refine qM (.pointer (some ⟨b,off+j*5,none⟩)) zA0 zA0 (fun W hW _=>⟨W,?_,Ext.refl W⟩) ?_
       ·go_simp;rw[IntWalk.i64_in (j:Int) zO,if_pos zO];simp
       simp only[Act.put,qf,qc,qg,zA,zB,zC];repeat ((first|(refine qM ?_ zA0 zA0 (fun W hW _=>⟨W,?_,Ext.refl W⟩) ?_;rotate_left;(go_simp<;>with_reducible rfl))|(refine qV zA0 ?_));try simp only[Act.put,ql,qf,qc,qg,zA,zB,zC])
       refine Qx (one (.bool L)) zA0 zA0 (fun W hW _=>?_) (fun p=>?_)
       ·refine QP ?_ ((HL.out W).mono fun e w' h=>⟨(),h.1,trivial,h.2⟩);go_simp
       cases p;simp only[Act.put,ql,qc,qg,zA,zB,zC];cases L
       ·repeat ((first|(refine qM ?_ zA0 zA0 (fun W hW _=>⟨W,?_,Ext.refl W⟩) ?_;rotate_left;(go_simp<;>with_reducible rfl))|(refine qV zA0 ?_));try simp only[Act.put,ql,qf,qc,qg,zA,zB,zC])
        refine Zp (hK _ _ fun W hW hF=>?_);clear hF hK HL;have b7:Ext wr W:=b4.trans hW;dsimp only[List.drop];go_wp2;all_goals first
         |(go_ret
           exact⟨by rw[HBAD.out (by rw[HCK.out,hok,HP.out];simp[HLE.out, *])];rfl,Ext.trans b2 b7⟩)
         |(go_roundw
           case rel=>exact⟨j+1+1,zO,by go_num,by rw[HSU.out,nV,HCK.out,hok,HP.out];simp[HLE.out, *],hE.trans b7⟩
           case measure=>simp[intOf];omega)
       ·by_cases hr0:x.r=0
        ·have mX:(x.r == 0)=true:=by simpa using hr0
         repeat ((first|(refine qM ?_ zA0 zA0 (fun W hW _=>⟨W,?_,Ext.refl W⟩) ?_;rotate_left;(go_simp<;>with_reducible rfl))|(refine qV zA0 ?_));try simp only[Act.put,ql,qf,qc,qg,zA,zB,zC])
         refine Zp (hK _ _ fun W hW hF=>?_);clear hF hK HL;have b7:Ext wr W:=b4.trans hW;dsimp only[List.drop];go_wp2;all_goals first
          |(go_ret
            exact⟨by rw[HBAD.out (by rw[HCK.out,hok,HP.out];simp[HLE.out, *])];rfl,Ext.trans b2 b7⟩)
          |(go_roundw
            case rel=>exact⟨j+1+1,zO,by go_num,by rw[HSU.out,nV,HCK.out,hok,HP.out];simp[HLE.out, *],hE.trans b7⟩
            case measure=>simp[intOf];omega)
        ·have mX:(x.r == 0)=false:=by simpa using hr0
         repeat ((first|(refine qM ?_ zA0 zA0 (fun W hW _=>⟨W,?_,Ext.refl W⟩) ?_;rotate_left;(go_simp<;>with_reducible rfl))|(refine qV zA0 ?_));try simp only[Act.put,ql,qf,qc,qg,zA,zB,zC])
         refine Zp (hK _ _ fun W hW hF=>?_);clear hF hK HL;have b7:Ext wr W:=b4.trans hW;dsimp only[List.drop];go_wp2;all_goals first
          |(go_ret
            exact⟨by rw[HBAD.out (by rw[HCK.out,hok,HP.out];simp[HLE.out, *])];rfl,Ext.trans b2 b7⟩)
          |(go_roundw
            case rel=>exact⟨j+1+1,zO,by go_num,by rw[HSU.out,nV,HCK.out,hok,HP.out];simp[HLE.out, *],hE.trans b7⟩
            case measure=>simp[intOf];omega)
    ·have hBK:itB x.r x.val.length=false:=by simpa using hok
     have aI:=HBAD.out (HBI.out hBK);rw[jX hBK];clear HCK HBAD HBI HSU;go_wp2;go_ret;exact⟨by rw[aI];rfl,Ext.trans b2 b4⟩
   ·obtain rfl:k=xs.length:=zO;go_wp2;go_ret;exact⟨by rw[nV];rfl,b1.trans hE⟩
 ·rw[decide_eq_false hab];go_enter func89,ntmps89;go_wp2;all_goals simp only[beq_eq_false_iff_ne,ne_eq] at *
  all_goals first|(exfalso;omega)|skip
  generalize aA:(World.alloc _ _)=w1;have b1:Ext w w1:=by rw[<-aA];exact zN _ _
  have r1:w1.heap[w.heap.size]?=some (.cells #[.int .i64 lvl,.slice A xs.length c] 49 (0,0)):=by rw[<-aA];exact zI _ _ _ rfl
  clear aA;go_loopw [36] (fun i wr=>∃ k:Nat,k<=xs.length/\i=.int .i64 (k:Int)/\kH false xs k=true/\Ext w1 wr) (fun i _=>xs.length-(intOf i).toNat)
  case atStart=>exact⟨0,zO,rfl,rfl,Ext.refl _⟩
  case round =>
   obtain⟨k,hk,rfl,nV,hE⟩:=hrel;by_cases hlt:k<xs.length
   ·have aJ:=hlt;obtain⟨b,off,rfl,hb⟩:=hA zO;have b2:Ext w wr:=b1.trans hE;obtain⟨A',c',c0,c1,c2,c3,c4,aT⟩:=(HX.out.ext b2).item k aJ;have HCK:=zH (Xd (above:=false) aJ);have HBAD:=zH (UZ (above:=false) aJ);have HBI:=zH (qdf (above:=false) aJ);have HSU:=zH (TT false xs k);generalize hx:xs[k]=x at *;go_wp2_with fail;generalize aO:(World.alloc _ _)=w3;have b3:Ext wr w3:=by rw[<-aO];exact zN _ _
    have r3:w3.heap[wr.heap.size]?=some (.cells #[.int .u8 x.k,.int .u32 x.i,.int .u32 x.o,.int .i64 x.r,.slice A' x.val.length c'] 68 (0,0)):=by rw[<-aO];exact zI _ _ _ rfl
    clear aO;refine(Jn x.k x.i x.o x.r A' x.val.length c' _).mono ?_;rintro e w4 ⟨rfl,hB⟩;have b4:Ext wr w4:=b3.trans hB;have r4:=qb r3 hB;clear hB r3 b3;by_cases hok:itB x.r x.val.length=true
    ·rw[Jw hok];go_wp2;have b5:Ext w1 w4:=hE.trans b4;have rn:=qb r1 b5;have n1:∀ W,Ext w4 W->W.cell? ⟨w.heap.size,1,none⟩=some (.slice (some ⟨b,off,none⟩) xs.length c):=fun W h=>by rw[qa (qb rn h)];rfl
     have i0:∀ W,Ext w4 W->W.cell? ⟨wr.heap.size,0,none⟩=some (.int .u8 x.k):=fun W h=>by rw[qa (qb r4 h)];rfl
     have i1:∀ W,Ext w4 W->W.cell? ⟨wr.heap.size,1,none⟩=some (.int .u32 x.i):=fun W h=>by rw[qa (qb r4 h)];rfl
     have i2:∀ W,Ext w4 W->W.cell? ⟨wr.heap.size,2,none⟩=some (.int .u32 x.o):=fun W h=>by rw[qa (qb r4 h)];rfl
     rcases k with _|j
     ·refine zl (qD [(12,one (.bool true))]) 29 zQ zQ zQ zA1 zQ zQ ?st ?walk
      case st=>exact Zb (by simp only[List.forall_mem_cons];exact⟨Zw _,fun _ h=>by cases h⟩)
      case walk =>
       intro K hK;dsimp only[List.take];by_cases hr0:x.r=0
       ·have mX:(x.r == 0)=true:=by simpa using hr0
        repeat ((first|(refine qM ?_ zA0 zA0 (fun W hW _=>⟨W,?_,Ext.refl W⟩) ?_;rotate_left;(go_simp<;>with_reducible rfl))|(refine qV zA0 ?_));try simp only[Act.put,ql,qf,qc,qg,zA,zB,zC])
        refine Zp (hK _ _ fun W hW hF=>?_);clear hF hK;have b7:Ext wr W:=b4.trans hW;dsimp only[List.drop];go_wp2;all_goals first
         |(go_ret
           exact⟨by rw[HBAD.out (by rw[HCK.out,hok];simp[*])];rfl,Ext.trans b2 b7⟩)
         |(go_roundw
           case rel=>exact⟨0+1,zO,by go_num,by rw[HSU.out,nV,HCK.out,hok];simp[*],hE.trans b7⟩
           case measure=>simp[intOf];omega)
       ·have mX:(x.r == 0)=false:=by simpa using hr0
        repeat ((first|(refine qM ?_ zA0 zA0 (fun W hW _=>⟨W,?_,Ext.refl W⟩) ?_;rotate_left;(go_simp<;>with_reducible rfl))|(refine qV zA0 ?_));try simp only[Act.put,ql,qf,qc,qg,zA,zB,zC])
        refine Zp (hK _ _ fun W hW hF=>?_);clear hF hK;have b7:Ext wr W:=b4.trans hW;dsimp only[List.drop];go_wp2;all_goals first
         |(go_ret
           exact⟨by rw[HBAD.out (by rw[HCK.out,hok];simp[*])];rfl,Ext.trans b2 b7⟩)
         |(go_roundw
           case rel=>exact⟨0+1,zO,by go_num,by rw[HSU.out,nV,HCK.out,hok];simp[*],hE.trans b7⟩
           case measure=>simp[intOf];omega)
     ·have hjl:j<xs.length:=zO;obtain⟨A2,c2',d0,d1,d2,d3,d4,_⟩:=(HX.out.ext (b2.trans b4)).item j hjl;have tN:xs[j+1-1]?=some xs[j]:=by rw[Nat.add_sub_cancel,zL hjl]
      have HP:=zH tN;clear tN;generalize xs[j]=y at *;have p0:∀ W,Ext w4 W->W.cell? ⟨b,off+j*5,none⟩=some (.int .u8 y.k):=fun W h=>Ext.cell h d0;have p1:∀ W,Ext w4 W->W.cell? ⟨b,off+j*5+1,none⟩=some (.int .u32 y.i):=fun W h=>Ext.cell h d1;have p2:∀ W,Ext w4 W->W.cell? ⟨b,off+j*5+2,none⟩=some (.int .u32 y.o):=fun W h=>Ext.cell h d2;clear d0 d1 d2 d3 d4;have HL:=zH (fun W=>KL y.k y.i y.o x.k x.i x.o W);have HLE:Hid (qbX y x=VO y.k y.i y.o x.k x.i x.o):=rfl;generalize VO y.k y.i y.o x.k x.i x.o=L at *;refine zl (qD [(12,one (.bool L))]) 29 zQ zQ zQ zA1 zQ zQ ?st ?walk
      case st=>exact Zb (by simp only[List.forall_mem_cons];exact⟨Zw _,fun _ h=>by cases h⟩)
      case walk =>
       intro K hK;dsimp only[List.take];repeat ((first|(refine qM ?_ zA0 zA0 (fun W hW _=>⟨W,?_,Ext.refl W⟩) ?_;rotate_left;(go_simp<;>with_reducible rfl))|(refine qV zA0 ?_));try simp only[Act.put,ql,qf,qc,qg,zA,zB,zC])
       refine qM (.pointer (some ⟨b,off+j*5,none⟩)) zA0 zA0 (fun W hW _=>⟨W,?_,Ext.refl W⟩) ?_
       ·go_simp;rw[IntWalk.i64_in (j:Int) zO,if_pos zO];simp
       simp only[Act.put,qf,qc,qg,zA,zB,zC];repeat ((first|(refine qM ?_ zA0 zA0 (fun W hW _=>⟨W,?_,Ext.refl W⟩) ?_;rotate_left;(go_simp<;>with_reducible rfl))|(refine qV zA0 ?_));try simp only[Act.put,ql,qf,qc,qg,zA,zB,zC])
       refine Qx (one (.bool L)) zA0 zA0 (fun W hW _=>?_) (fun p=>?_)
       ·refine QP ?_ ((HL.out W).mono fun e w' h=>⟨(),h.1,trivial,h.2⟩);go_simp
       cases p;simp only[Act.put,ql,qc,qg,zA,zB,zC];cases L
       ·repeat ((first|(refine qM ?_ zA0 zA0 (fun W hW _=>⟨W,?_,Ext.refl W⟩) ?_;rotate_left;(go_simp<;>with_reducible rfl))|(refine qV zA0 ?_));try simp only[Act.put,ql,qf,qc,qg,zA,zB,zC])
        refine Zp (hK _ _ fun W hW hF=>?_);clear hF hK HL;have b7:Ext wr W:=b4.trans hW;dsimp only[List.drop];go_wp2;all_goals first
         |(go_ret
           exact⟨by rw[HBAD.out (by rw[HCK.out,hok,HP.out];simp[HLE.out, *])];rfl,Ext.trans b2 b7⟩)
         |(go_roundw
           case rel=>exact⟨j+1+1,zO,by go_num,by rw[HSU.out,nV,HCK.out,hok,HP.out];simp[HLE.out, *],hE.trans b7⟩
           case measure=>simp[intOf];omega)
       ·by_cases hr0:x.r=0
        ·have mX:(x.r == 0)=true:=by simpa using hr0
         repeat ((first|(refine qM ?_ zA0 zA0 (fun W hW _=>⟨W,?_,Ext.refl W⟩) ?_;rotate_left;(go_simp<;>with_reducible rfl))|(refine qV zA0 ?_));try simp only[Act.put,ql,qf,qc,qg,zA,zB,zC])
         refine Zp (hK _ _ fun W hW hF=>?_);clear hF hK HL;have b7:Ext wr W:=b4.trans hW;dsimp only[List.drop];go_wp2;all_goals first
          |(go_ret
            exact⟨by rw[HBAD.out (by rw[HCK.out,hok,HP.out];simp[HLE.out, *])];rfl,Ext.trans b2 b7⟩)
          |(go_roundw
            case rel=>exact⟨j+1+1,zO,by go_num,by rw[HSU.out,nV,HCK.out,hok,HP.out];simp[HLE.out, *],hE.trans b7⟩
            case measure=>simp[intOf];omega)
        ·have mX:(x.r == 0)=false:=by simpa using hr0
         repeat ((first|(refine qM ?_ zA0 zA0 (fun W hW _=>⟨W,?_,Ext.refl W⟩) ?_;rotate_left;(go_simp<;>with_reducible rfl))|(refine qV zA0 ?_));try simp only[Act.put,ql,qf,qc,qg,zA,zB,zC])
         refine Zp (hK _ _ fun W hW hF=>?_);clear hF hK HL;have b7:Ext wr W:=b4.trans hW;dsimp only[List.drop];go_wp2;all_goals first
          |(go_ret
            exact⟨by rw[HBAD.out (by rw[HCK.out,hok,HP.out];simp[HLE.out, *])];rfl,Ext.trans b2 b7⟩)
          |(go_roundw
            case rel=>exact⟨j+1+1,zO,by go_num,by rw[HSU.out,nV,HCK.out,hok,HP.out];simp[HLE.out, *],hE.trans b7⟩
            case measure=>simp[intOf];omega)
    ·have hBK:itB x.r x.val.length=false:=by simpa using hok
     have aI:=HBAD.out (HBI.out hBK);rw[jX hBK];clear HCK HBAD HBI HSU;go_wp2;go_ret;exact⟨by rw[aI];rfl,Ext.trans b2 b4⟩
   ·obtain rfl:k=xs.length:=zO;go_wp2;go_ret;exact⟨by rw[nV];rfl,b1.trans hE⟩

def QQ (l:List UInt8):Nat->Option (List It×List UInt8)
 |0=>some ([],l)
 |k+1=>match QQ l k with
  |none=>none
  |some (xs,r)=>match Zg r with
   |none=>none
   |some (x,n)=>some (xs++[x],r.drop n)
def QD (l:List UInt8):Option (Int×List It):=
 if l.length=128/\qbt l=true/\(l[4]?.getD 0)=78/\(l[6]?.getD 0).toNat<=5 then
  match QQ (l.drop 7) (l[6]?.getD 0).toNat with
  |none=>none
  |some (xs,r)=>if Qe (l[5]?.getD 0).toNat xs=true/\kz r=true then some (((l[5]?.getD 0).toNat:Int),xs) else none
 else none
theorem Uc {l:List UInt8}:∀ {k:Nat} {xs:List It} {r:List UInt8},QQ l k=some (xs,r)->xs.length=k:=by
 intro k;induction k with
 |zero=>intro xs r h;simp[QQ] at h;simp[<-h.1]
 |succ k ih =>
  intro xs r h;unfold QQ at h;split at h
  ·cases h
  ·rename_i ys q hq;split at h
   ·cases h
   ·simp at h;rw[<-h.1];simp[ih hq]
end Go.Proofs.YtpbniokljofedaaGreat
