/- Texts FreeC, Short, DTwinW, joined. -/
import Derived.Deep.Slices
import Derived.Test.YtpbniokljofedaaGreatZI13
set_option linter.unusedSimpArgs false
set_option linter.unusedVariables false
set_option maxHeartbeats 8000000
open Go.Proofs.Tryz
namespace Go.Proofs.YtpbniokljofedaaGreat
open Go.RowKit
section
variable {R0 R:Rel} {c:Nat}
def preC (R0 R:Rel) (c i:Nat):Rel:=if i=c then R0 else R
def UF (R0 R:Rel) (c i:Nat):Rel:=if i=c then R else R0
section
variable {P:Program} {ops:Array Oper} {w0:World}
def jh (R0 R:Rel) (c:Nat) (P:Program) (ops:Array Oper) (w0:World) (H:Nat->Option qS) (i:Nat) (o:Oper) (a:Act) (F:qJ) (h:qS):Prop:=
 (Region.wanted o (yielded ops a.tmps)=false/\h=one undef) \/
 (Region.wanted o (yielded ops a.tmps)=true/\H i=none/\∃ v,h=one v/\∀ W,(preC R0 R c i).r w0 W->(∀ k∈qF o,F k W)->JK (UF R0 R c i) P o a W v) \/
 (Region.wanted o (yielded ops a.tmps)=true/\H i=some h/\∀ W,(preC R0 R c i).r w0 W->(∀ k∈qF o,F k W)->QC (UF R0 R c i) P o a W h)
def TM (R0 R:Rel) (c:Nat) (w0:World) (listed:Array Bool) (F:qJ):Prop:=∃ W,R.r w0 W/\(listed.getD c true=false->R0.r w0 W)/\∀ k,F k W
def FOpC (R0 R:Rel) (c:Nat) (P:Program) (ops:Array Oper) (w0:World) (H:Nat->Option qS) (listed:Array Bool) (i:Nat) (o:Oper) (K:Act->qJ->Prop) (a:Act) (F:qJ):Prop:=
 ∃ h,jh R0 R c P ops w0 H i o a F h/\∀ p,TM R0 R c w0 (listed.setIfInBounds i true) (upd F i o (h.φ p))->K (a.put o.dst (h.f p)) (upd F i o (h.φ p))
def jJ (R0 R:Rel) (c:Nat) (P:Program) (ops:Array Oper) (w0:World) (H:Nat->Option qS) (Q:Act->qJ->Prop):List (Nat×Oper)->Array Bool->Act->qJ->Prop
 | [],_,a,F=>Q a F
 |(k,o) :: rest,listed,a,F=>FOpC R0 R c P ops w0 H listed k o (fun a' F'=>jJ R0 R c P ops w0 H Q rest (listed.setIfInBounds k true) a' F') a F
def Ti (R0 R:Rel) (c:Nat) (P:Program) (ops:Array Oper) (w0:World) (H:Nat->Option qS) (L:Array Bool) (Q:Act->qJ->Prop):Nat->Array Bool->Act->qJ->Prop
 |0,listed,a,F=>listed=L/\Q a F
 |fuel+1,listed,a,F=>Region.ready .any ops listed≠[]/\∀ i∈Region.ready .any ops listed,∀ o,ops[i]?=some o->FOpC R0 R c P ops w0 H listed i o (Ti R0 R c P ops w0 H L Q fuel (listed.setIfInBounds i true)) a F
theorem qcn {listed:Array Bool} {i:Nat} {W:World} (hi:listed.getD i true=false) (h:R.r w0 W) (h0:listed.getD c true=false->R0.r w0 W):(preC R0 R c i).r w0 W:=by
 unfold preC;split
 ·rename_i e;subst e;exact h0 hi
 ·exact h
theorem qgC (hle:∀ a b,R0.r a b->R.r a b) {i:Nat} {W W':World} (h:(UF R0 R c i).r W W'):R.r W W':=by
 unfold UF at h;split at h
 ·exact h
 ·exact hle _ _ h
theorem stpC_0 {listed:Array Bool} {i:Nat} {W W':World} (hi:listed.getD i true=false) (h:(UF R0 R c i).r W W') (hc:(listed.setIfInBounds i true).getD c true=false):R0.r W W':=by
 unfold UF at h;split at h
 ·rename_i e;subst e;exfalso;rcases Nat.lt_or_ge i listed.size with h'|h'
  ·simp[h'] at hc
  ·simp[Array.getElem?_eq_none h'] at hi
 ·exact h
theorem unset {listed:Array Bool} {i c:Nat} (hc:(listed.setIfInBounds i true).getD c true=false):listed.getD c true=false:=by
 by_cases e:i=c
 ·subst e;rcases Nat.lt_or_ge i listed.size with h'|h'
  ·simp[h'] at hc
  ·simp at hc
 ·rwa [getD_set_ne true e] at hc
def Void (c:Nat) (listed:Array Bool) (F:qJ):Prop:=listed.getD c true=false->∀ k W,F k W
theorem keepC {listed:Array Bool} {F:qJ} {i:Nat} {W W':World} (hi:listed.getD i true=false) (aH:∀ k,qC R0 (F k)) (hv:Void c listed F) (h:(UF R0 R c i).r W W') (k:Nat) (hF:F k W):F k W':=by
 unfold UF at h;split at h
 ·rename_i e;subst e;exact hv hi k W'
 ·exact aH k _ _ h hF
theorem jh.unique {H:Nat->Option qS} {listed:Array Bool} {i:Nat} {o:Oper} {a:Act} {F:qJ} {h h':qS} (hc:TM R0 R c w0 listed F) (hi:listed.getD i true=false) (x:jh R0 R c P ops w0 H i o a F h) (y:jh R0 R c P ops w0 H i o a F h'):h=h':=by
 obtain⟨W,hW,pO,hF⟩:=hc;have hW:=qcn hi hW pO;rcases x with ⟨x1,rfl⟩|⟨x1,x2,v,rfl,x3⟩|⟨x1,x2,x3⟩ <;> rcases y with ⟨y1,rfl⟩|⟨y1,y2,u,rfl,y3⟩|⟨y1,y2,y3⟩
 ·rfl
 ·rw[x1] at y1;cases y1
 ·rw[x1] at y1;cases y1
 ·rw[x1] at y1;cases y1
 ·obtain⟨w1,e1,_⟩:=x3 W hW fun k _=>hF k;obtain⟨w2,e2,_⟩:=y3 W hW fun k _=>hF k;rw[e1] at e2;cases e2;rfl
 ·rw[x2] at y2;cases y2
 ·rw[x1] at y1;cases y1
 ·rw[x2] at y2;cases y2
 ·rw[x2] at y2;cases y2;rfl
theorem jh.some_ (hle:∀ a b,R0.r a b->R.r a b) {H:Nat->Option qS} {listed:Array Bool} {i:Nat} {o:Oper} {a:Act} {F:qJ} {h:qS} (hc:TM R0 R c w0 listed F) (hi:listed.getD i true=false) (aH:∀ k,qC R0 (F k)) (hv:Void c listed F) (x:jh R0 R c P ops w0 H i o a F h):∃ p,TM R0 R c w0 (listed.setIfInBounds i true) (upd F i o (h.φ p)):=by
 obtain⟨W,hW,pO,hF⟩:=hc;have fF:∀ (φ:World->Prop) W',(UF R0 R c i).r W W'->φ W'->TM R0 R c w0 (listed.setIfInBounds i true) (upd F i o φ):=fun φ W' he hφ=>⟨W',R.trans hW (qgC hle he),fun h=>R0.trans (pO (unset h)) (stpC_0 hi he h),fun k=>by
  unfold upd;split
  ·exact⟨hφ,fun j _=>keepC hi aH hv he j (hF j)⟩
  ·exact keepC hi aH hv he k (hF k)⟩
 have hW:=qcn hi hW pO;rcases x with ⟨x1,rfl⟩|⟨x1,x2,v,rfl,x3⟩|⟨x1,x2,x3⟩
 ·exact⟨(),fF _ W (Rel.refl _ W) trivial⟩
 ·obtain⟨w',_,he⟩:=x3 W hW fun k _=>hF k;exact⟨(),fF _ w' he trivial⟩
 ·have h3:=x3 W hW fun k _=>hF k;unfold QC at h3;generalize (execOp a.eval o).run P W=r at h3;cases r with
  |ok n w' =>
   cases n <;> simp only[ZC] at h3
   case value u=>obtain⟨p,_,hp,he⟩:=h3;exact⟨p,fF _ w' he hp⟩
   case skip=>obtain⟨p,_,hp,he⟩:=h3;exact⟨p,fF _ w' he hp⟩
   case enter f args =>obtain⟨he,bJ⟩:=h3;obtain⟨e,w'',fr,⟨p,_,hp,lJ⟩,_⟩:=bJ [];exact⟨p,fF _ w'' (Rel.trans _ he lJ) hp⟩
  |halt x w'=>simp only[ZC] at h3
theorem jh.move {H:Nat->Option qS} {i j:Nat} {oi oj:Oper} {a:Act} {F:qJ} {h:qS} {v:Value} {φ:World->Prop} (eX:oi.apart ops oj=true) (tu:∀ cs b,oj.op≠.select cs b) (hn:i∉qF oj):jh R0 R c P ops w0 H j oj (a.put oi.dst v) (upd F i oi φ) h↔jh R0 R c P ops w0 H j oj a F h:=by
 obtain⟨h1,_,_⟩:=Oper.apart_spec eX;have hF:∀ W,(∀ k∈qF oj,upd F i oi φ k W)↔∀ k∈qF oj,F k W:=fun W=>by
  constructor <;> intro hh k hk
  ·have:=hh k hk;unfold upd at this;rwa [if_neg (fun e=>hn (by rw[<-e];exact hk))] at this
  ·unfold upd;rw[if_neg (fun e=>hn (by rw[<-e];exact hk))];exact hh k hk
 unfold jh JK QC;rw[wanted_put oj a oi.dst v h1,execOp_put oj tu a oi.dst v h1];simp only[hF]
theorem jh.move' {H:Nat->Option qS} {i j:Nat} {oi oj:Oper} {a:Act} {F:qJ} {h:qS} {v:Value} {φ:World->Prop} (eX:oi.apart ops oj=true) (wE:∀ cs b,oi.op≠.select cs b) (hn:j∉qF oi):jh R0 R c P ops w0 H i oi (a.put oj.dst v) (upd F j oj φ) h↔jh R0 R c P ops w0 H i oi a F h:=by
 obtain⟨_,_,h3⟩:=Oper.apart_spec eX;have hF:∀ W,(∀ k∈qF oi,upd F j oj φ k W)↔∀ k∈qF oi,F k W:=fun W=>by
  constructor <;> intro hh k hk
  ·have:=hh k hk;unfold upd at this;rwa [if_neg (fun e=>hn (by rw[<-e];exact hk))] at this
  ·unfold upd;rw[if_neg (fun e=>hn (by rw[<-e];exact hk))];exact hh k hk
 unfold jh JK QC;rw[wanted_put oi a oj.dst v h3,execOp_put oi wE a oj.dst v h3];simp only[hF]
theorem jh.stable {H:Nat->Option qS} (hH:∀ i h,H i=some h->∀ p,qC R0 (h.φ p)) {i:Nat} {o:Oper} {a:Act} {F:qJ} {h:qS} (x:jh R0 R c P ops w0 H i o a F h):∀ p,qC R0 (h.φ p):=by
 rcases x with ⟨_,rfl⟩|⟨_,_,v,rfl,_⟩|⟨_,x2,_⟩
 ·exact fun _ _ _ _ _=>trivial
 ·exact fun _ _ _ _ _=>trivial
 ·exact hH i h x2
theorem jh.void {H:Nat->Option qS} (hone:∀ i h,H i=some h->i=c) {listed:Array Bool} {i:Nat} {o:Oper} {a:Act} {F:qJ} {h:qS} (hv:Void c listed F) (x:jh R0 R c P ops w0 H i o a F h) (p:h.α):Void c (listed.setIfInBounds i true) (upd F i o (h.φ p)):=by
 intro hc k W;have bJ:=hv (unset hc);unfold upd;split
 ·refine⟨?_,fun j _=>bJ j W⟩;rcases x with ⟨_,rfl⟩|⟨_,_,v,rfl,_⟩|⟨_,x2,_⟩
  ·trivial
  ·trivial
  ·exfalso;have e:=hone i h x2;subst e;rcases Nat.lt_or_ge i listed.size with h'|h'
   ·simp[h'] at hc
   ·simp at hc
 ·exact bJ k W
theorem qaL (hle:∀ a b,R0.r a b->R.r a b) {H:Nat->Option qS} (hone:∀ i h,H i=some h->i=c) (hH:∀ i h,H i=some h->∀ p,qC R0 (h.φ p)) {A:Nat->Prop} {Cl:Array Bool->Prop} {L:Array Bool} {Q:Act->qJ->Prop} {i:Nat} {oi:Oper} (hi:ops[i]?=some oi) (him:A i) (gZ:∀ (j:Nat) (o:Oper) cs b,ops[j]?=some o->o.op≠.select cs b) (bJ:∀ listed j,Cl listed->j∈Region.ready .any ops listed->Cl (listed.setIfInBounds j true)) (bM:∀ (listed:Array Bool) (j:Nat),Cl listed->j∈Region.ready .any ops listed->L.getD j true=false->∀ k,A k->listed.getD k false=true) : ∀ (fuel:Nat) (listed:Array Bool) (a:Act) (F:qJ),Cl listed -> (∀ j oj,ops[j]?=some oj->j≠i->listed.getD j true=false->(∀ e∈oj.after,Region.binds .any e=true->e.on≠i)->oi.apart ops oj=true) ->
   i∈Region.ready .any ops listed->(∀ k,qC R0 (F k))->TM R0 R c w0 listed F->Void c listed F->(∀ k,listed.getD k true=false->∀ W,F k W) ->
   FOpC R0 R c P ops w0 H listed i oi (Ti R0 R c P ops w0 H L Q fuel (listed.setIfInBounds i true)) a F->Ti R0 R c P ops w0 H L Q (fuel+1) listed a F:=by
 intro fuel;induction fuel with
 |zero =>
  intro listed a F xY _ hr aH hc lg _ dZ;refine⟨fun h=>(by rw[h] at hr;cases hr),fun j hj oj dE=>?_⟩;by_cases hji:j=i
  ·subst hji;rw[hi] at dE;cases dE;exact dZ
  ·exfalso;obtain⟨h,hok,hK⟩:=dZ;obtain⟨p,eU⟩:=hok.some_ hle hc (mem_ready.1 hr).1 aH lg;have hmj:L.getD j true=false:=by rw[<-(hK p eU).1];exact(mem_ready.1 (ready_mono hj hji)).1
   have h1:=bM listed j xY hj hmj i him;have h0:=(mem_ready.1 hr).1;rcases Nat.lt_or_ge i listed.size with h'|h'
   ·simp[h'] at h0 h1;rw[h0] at h1;cases h1
   ·simp[Array.getElem?_eq_none h'] at h1
 |succ fuel ih =>
  intro listed a F xY dH hr aH hc lg lC dZ;refine⟨fun h=>(by rw[h] at hr;cases hr),fun j hj oj dE=>?_⟩;by_cases hji:j=i
  ·subst hji;rw[hi] at dE;cases dE;exact dZ
  ·obtain⟨bY,oj',iM,bC⟩:=mem_ready.1 hj;rw[dE] at iM;cases iM;obtain⟨mO,oi',mW,fV⟩:=mem_ready.1 hr;rw[hi] at mW;cases mW;have bad:∀ k,listed.getD k true=false->listed.getD k false=true->False:=fun k h0 h1=>by
    rcases Nat.lt_or_ge k listed.size with h'|h'
    ·simp[h'] at h0 h1;rw[h0] at h1;cases h1
    ·simp[Array.getElem?_eq_none h'] at h1
   have mQ:∀ e∈oj.after,Region.binds .any e=true->e.on≠i:=fun e he hb nY=>bad i mO (nY ▸ bC e he hb);have mV:∀ e∈oi.after,Region.binds .any e=true->e.on≠j:=fun e he hb nY=>bad j bY (nY ▸ fV e he hb);have iE:i∉qF oj:=fun hin=>by obtain⟨e,he,nX⟩:=List.mem_map.1 hin;rw[List.mem_filter] at he;exact mQ e (by simpa using he.1) he.2 nX
   have rC:j∉qF oi:=fun hin=>by obtain⟨e,he,nX⟩:=List.mem_map.1 hin;rw[List.mem_filter] at he;exact mV e (by simpa using he.1) he.2 nX
   have eX:=dH j oj dE hji bY mQ;have wE:∀ cs b,oi.op≠.select cs b:=fun cs b=>gZ i oi cs b hi;have tu:∀ cs b,oj.op≠.select cs b:=fun cs b=>gZ j oj cs b dE;obtain⟨h2,_⟩:=(Oper.apart_spec eX).2;obtain⟨hI,okI,hKI⟩:=dZ;obtain⟨p0,sS⟩:=okI.some_ hle hc mO aH lg;obtain⟨hJ,wJ,_⟩:=(hKI p0 sS).2 j (ready_mono hj hji) oj dE;have uT:jh R0 R c P ops w0 H j oj a F hJ:=(jh.move eX tu iE).1 wJ;refine⟨hJ,uT,fun q hcq=>?_⟩;have stJ:=uT.stable hH q;have fJ:∀ k ok,ops[k]?=some ok->k≠i->(listed.setIfInBounds j true).getD k true=false ->
     (∀ e∈ok.after,Region.binds .any e=true->e.on≠i)->oi.apart ops ok=true:=fun k ok hk dY mg bT=>by
    refine dH k ok hk dY ?_ bT;by_cases hjk:j=k
    ·subst hjk;exact bY
    ·rw[getD_set_ne true hjk] at mg;exact mg
   refine ih (listed.setIfInBounds j true) _ _ (bJ _ _ xY hj) fJ (ready_mono hr (Ne.symm hji)) (Zt aH j oj stJ) hcq (uT.void hone lg q) ?_ ?_
   ·intro k hk W;by_cases hjk:j=k
    ·subst hjk;exfalso;have hlt:j<listed.size:=by
      rcases Nat.lt_or_ge j listed.size with h'|h'
      ·exact h'
      ·simp[Array.getElem?_eq_none h'] at bY
     simp[hlt] at hk
    ·rw[getD_set_ne true hjk] at hk;have:=lC k hk W;unfold upd;rw[if_neg (fun e=>hjk e.symm)];exact this
   ·refine⟨hI,(jh.move' eX wE rC).2 okI,fun p eU=>?_⟩;have uf:TM R0 R c w0 (listed.setIfInBounds i true) (upd F i oi (hI.φ p)):=by
     by_cases hjc:j=c
     ·have hOS:∃ v,hI=one v:=by
       rcases okI with ⟨_,e⟩|⟨_,_,v,e,_⟩|⟨_,e,_⟩
       ·exact⟨_,e⟩
       ·exact⟨_,e⟩
       ·exact absurd ((hone _ _ e).trans hjc.symm) (Ne.symm hji)
      obtain⟨v,rfl⟩:=hOS;exact sS
     ·obtain⟨W,hW,pO,hF⟩:=eU;refine⟨W,hW,fun h=>pO ?_,fun k=>?_⟩
      ·rw[Array.setIfInBounds_comm _ _ hji,getD_set_ne true hjc];exact h
      have hk:=hF k;by_cases dY:k=i
      ·subst dY;unfold upd at hk ⊢;rw[if_pos rfl] at hk ⊢;refine⟨hk.1,fun l hl=>?_⟩;have:=hk.2 l hl
       rwa [if_neg (fun e=>rC (by rw[<-e];exact hl))] at this
      ·by_cases hkj:k=j
       ·subst hkj;unfold upd;rw[if_neg dY];exact lC k bY W
       ·unfold upd at hk ⊢;rw[if_neg dY,if_neg hkj] at hk;rw[if_neg dY];exact hk
    obtain⟨yz,wI,uZ⟩:=(hKI p uf).2 j (ready_mono hj hji) oj dE;have mr:jh R0 R c P ops w0 H j oj a F yz:=(jh.move eX tu iE).1 wI;have e:=mr.unique hc bY uT;subst e;have hq:=uZ q (by rw[JQ F _ _ (Ne.symm hji) iE rC,Array.setIfInBounds_comm _ _ (fun e=>hji e.symm)];exact eU);rw[Array.setIfInBounds_comm _ _ (fun e=>hji e.symm),Act.put_comm a (hI.f p) (yz.f q) h2,JQ F _ _ (Ne.symm hji) iE rC] at hq;exact hq
theorem Ux (hle:∀ a b,R0.r a b->R.r a b) {H:Nat->Option qS} (hone:∀ i h,H i=some h->i=c) (hH:∀ i h,H i=some h->∀ p,qC R0 (h.φ p)) {Cl:Array Bool->Prop} {L:Array Bool} {ks:List Nat} {Q:Act->qJ->Prop} (hs:Region.noSelect ops=true) (bJ:∀ listed j,Cl listed->j∈Region.ready .any ops listed->Cl (listed.setIfInBounds j true)) (bM:∀ (listed:Array Bool) (j:Nat),Cl listed->j∈Region.ready .any ops listed->L.getD j true=false->∀ k,k∈ks->listed.getD k false=true):∀ (l:List (Nat×Oper)) (listed:Array Bool) (a:Act) (F:qJ),Cl listed->(∀ x∈l,ops[x.1]?=some x.2/\x.1∈ks) ->
  Zq ops L (l.map (·.1)) listed=true->(∀ k,qC R0 (F k))->TM R0 R c w0 listed F->Void c listed F->(∀ j,listed.getD j true=false->∀ W,F j W)->jJ R0 R c P ops w0 H Q l listed a F->Ti R0 R c P ops w0 H L Q l.length listed a F
 | [],listed,a,F,_,_,hB,_,_,_,_,h=>⟨by simpa [Zq] using hB,h⟩
 |(k,o) :: l,listed,a,F,xY,hl,hB,aH,hc,lg,lC,h=>by
  obtain⟨h0,yA⟩:=hl (k,o) (List.mem_cons_self);simp only[List.map_cons,Zq,Bool.and_eq_true] at hB;obtain⟨⟨hr,hf⟩,iC⟩:=hB;have yH:k∈Region.ready .any ops listed:=by simpa using hr
  have uk:=(mem_ready.1 yH).1;refine qaL hle hone (A:=fun k=>k∈ks) hH h0 yA (Region.noSelect_spec hs) bJ bM l.length listed a F xY (Region.free_spec h0 hf) yH aH hc lg lC ?_;obtain⟨hh,hok,hK⟩:=h;refine⟨hh,hok,fun p eU=>?_⟩;refine Ux hle hone hH hs bJ bM l _ _ _ (bJ _ _ xY yH) (fun x hx=>hl x (List.mem_cons_of_mem _ hx)) iC (Zt aH k o (hok.stable hH p)) eU (hok.void hone lg p) (fun j hj W=>?_) (hK p eU);by_cases hjk:k=j
  ·subst hjk;have hlt:k<listed.size:=by
    rcases Nat.lt_or_ge k listed.size with h'|h'
    ·exact h'
    ·simp[Array.getElem?_eq_none h'] at uk
   simp[hlt] at hj
  ·rw[getD_set_ne true hjk] at hj;have:=lC j hj W;unfold upd;rw[if_neg (fun e=>hjk e.symm)];exact this
theorem qaO (hle:∀ a b,R0.r a b->R.r a b) {H:Nat->Option qS} {i:Nat} {o:Oper} {a:Act} {F:qJ} {K:Act->qJ->Prop} {K':Act->World->Prop} {Q':Exit->Act->World->Prop} {W:World} {listed:Array Bool} (hli:listed.getD i true=false) (hi:ops[i]?=some o) (hone:∀ i h,H i=some h->i=c) (hH:∀ i h,H i=some h->∀ p,qC R0 (h.φ p)) (aH:∀ k,qC R0 (F k)) (lg:Void c listed F) (hW:R.r w0 W) (pO:listed.getD c true=false->R0.r w0 W) (hF:∀ k,F k W) (hK:∀ a' F' W',K a' F'->(∀ k,qC R0 (F' k))->Void c (listed.setIfInBounds i true) F'->R.r w0 W'->((listed.setIfInBounds i true).getD c true=false->R0.r w0 W')->(∀ k,F' k W')->K' a' W') (h:FOpC R0 R c P ops w0 H listed i o K a F):wpOp P ops Q' i K' a W:=by
 obtain⟨hh,hok,hn⟩:=h;have go:∀ p W',(UF R0 R c i).r W W'->hh.φ p W'->K' (a.put o.dst (hh.f p)) W':=fun p W' he0 hφ=>by
  have he:=qgC hle he0;have h0:(listed.setIfInBounds i true).getD c true=false->R0.r w0 W':=fun h=>R0.trans (pO (unset h)) (stpC_0 hli he0 h);have lq:∀ k,upd F i o (hh.φ p) k W':=fun k=>by
   unfold upd;split
   ·exact⟨hφ,fun j _=>keepC hli aH lg he0 j (hF j)⟩
   ·exact keepC hli aH lg he0 k (hF k)
  exact hK _ _ W' (hn p ⟨W',R.trans hW he,h0,lq⟩) (Zt aH i o (hok.stable hH p)) (hok.void hone lg p) (R.trans hW he) h0 lq
 have hWp:=qcn (c:=c) hli hW pO;unfold wpOp;simp only[hi];rcases hok with ⟨x1,rfl⟩|⟨x1,x2,v,rfl,x3⟩|⟨x1,x2,x3⟩
 ·simp only[x1,Bool.false_eq_true,if_false];exact go () W (Rel.refl _ W) trivial
 ·simp only[x1,if_true];obtain⟨w',hr,he⟩:=x3 W hWp fun k _=>hF k;refine .inl ?_;unfold Oper.wp;rw[hr];exact go () w' he trivial
 ·simp only[x1,if_true];have h3:=x3 W hWp fun k _=>hF k;refine .inl ?_;unfold QC at h3;unfold Oper.wp;generalize (execOp a.eval o).run P W=r at *;cases r with
  |ok n w' =>
   cases n <;> simp only[ZC] at h3 <;> simp only[Oper.upon]
   case value u =>obtain⟨p,rfl,hp,he⟩:=h3;exact go p w' he hp
   case skip =>obtain⟨p,hu,hp,he⟩:=h3;rw[hu];exact go p w' he hp
   case enter f args =>obtain⟨he,bJ⟩:=h3;refine bJ.mono fun e w'' ⟨p,he1,hp,lJ⟩=>?_;subst he1;exact go p w'' (Rel.trans _ he lJ) hp
  |halt x w'=>simp only[ZC] at h3
theorem Yg (hle:∀ a b,R0.r a b->R.r a b) {H:Nat->Option qS} (hone:∀ i h,H i=some h->i=c) (hH:∀ i h,H i=some h->∀ p,qC R0 (h.φ p)) {L:Array Bool} {t:Nat} {Q:Act->qJ->Prop} {Q':Exit->Act->World->Prop} (hQ:∀ a F W,Q a F->R.r w0 W->(∀ k,F k W)->wpAny P .any ops Q' t L a W) : ∀ (fuel:Nat) (listed:Array Bool) (a:Act) (F:qJ) (W:World),(∀ k,qC R0 (F k))->Void c listed F->R.r w0 W->(listed.getD c true=false->R0.r w0 W)->(∀ k,F k W)->Ti R0 R c P ops w0 H L Q fuel listed a F->wpAny P .any ops Q' (fuel+t) listed a W
 |0,listed,a,F,W,_,_,hW,_,hF,h=>by rw[h.1,Nat.zero_add];exact hQ a F W h.2 hW hF
 |fuel+1,listed,a,F,W,aH,lg,hW,pO,hF,h=>by rw[show fuel+1+t=fuel+t+1 by omega];refine⟨fun h0=>absurd h0 h.1,fun i hi=>?_⟩;obtain⟨hli,o,ho,_⟩:=mem_ready.1 hi;exact qaO hle hli ho hone hH aH lg hW pO hF (fun a' F' W' hk gm hvd' ay hW0' lq=>Yg hle hone hH hQ fuel _ a' F' W' gm hvd' ay hW0' lq hk) (h.2 i hi o ho)
theorem qaT {l:List Oper} {Q:Exit->Act->World->Prop} {fuel:Nat} {listed:Array Bool} {a:Act} {w W:World} (R0 R:Rel) (c:Nat) (hle:∀ a b,R0.r a b->R.r a b) (H:Nat->Option qS) (M:List Bool) (t:Nat) (hs:Region.noSelect l.toArray=true) (ht:qeq l.toArray (QK l.length (l.length-t)) ((qp 0 l M).map (·.1))=true) (dC:Yj l.toArray listed=true) (hB:Zq l.toArray (QK l.length (l.length-t)) ((qp 0 l M).map (·.1)) listed=true) (mZ:TJ l.toArray t (l.length-t) (QK l.length (l.length-t))=true) (hfu:fuel=(qp 0 l M).length+t) (oD:(l.drop (l.length-t)).length=t) (hH:∀ i h,H i=some h->∀ p,qC R0 (h.φ p)) (hone:∀ i h,H i=some h->i=c) (hW:R0.r w W) (h:∀ K:Act->qJ->Prop,(∀ a' F',(∀ W,R.r w W->(∀ k,F' k W)->wpList P l.toArray Q (l.drop (l.length-t)) a' W)->K a' F')->jJ R0 R c P l.toArray w H K (qp 0 l M) listed a (fun _ _=>True)):wpAny P .any l.toArray Q fuel listed a W:=by
 have h:=h _ (fun a' F' hh=>hh);subst hfu;have key:=Ux hle hone (w0:=w) hH hs (fun _ _ h=>h.step) (Xo ht) (qp 0 l M) listed a (fun _ _=>True) (ve dC) (fun x hx=>by obtain⟨j,h1,h2⟩:=vk l M 0 x hx;refine⟨?_,List.mem_map.2 ⟨x,hx,rfl⟩⟩;rw[h1,Nat.zero_add];simpa using h2) hB (fun _ _ _ _ _=>trivial) ⟨W,hle _ _ hW,fun _=>hW,fun _=>trivial⟩ (fun _ _ _=>trivial) (fun _ _ _=>trivial) h;refine Yg hle hone (w0:=w) hH (t:=t) (Q':=Q) (fun a F W hq hW hF=>?_) _ _ _ _ W (fun _ _ _ _ _=>trivial) (fun _ _ _=>trivial) (hle _ _ hW) (fun _=>hW) (fun _=>trivial) key;have:=ky (l.drop (l.length-t)) (l.length-t) _ a W (fun j _=>by rw[List.getElem?_drop];simp) (by rw[oD];exact mZ) (hq W hW hF)
 rwa [oD] at this
/-! ### the steps of the walk -/
section
variable {H:Nat->Option qS} {Q:Act->qJ->Prop} {k:Nat} {o:Oper} {rest:List (Nat×Oper)} {a:Act} {F:qJ} {listed:Array Bool}
theorem qaY (h:Q a F):jJ R0 R c P ops w0 H Q [] listed a F:=h
theorem qdt (v:Value) (hw:Region.wanted o (yielded ops a.tmps)=true) (hH:H k=none) (hv:∀ W,(preC R0 R c k).r w0 W->(∀ j∈qF o,F j W)->JK (UF R0 R c k) P o a W v) (h:jJ R0 R c P ops w0 H Q rest (listed.setIfInBounds k true) (a.put o.dst v) (upd F k o fun _=>True)):jJ R0 R c P ops w0 H Q ((k,o) :: rest) listed a F:=
 ⟨one v,.inr (.inl ⟨hw,hH,v,rfl,hv⟩),fun _ _=>h⟩
theorem jj (hle:∀ a b,R0.r a b->R.r a b) (v:Value) (hw:Region.wanted o (yielded ops a.tmps)=true) (hH:H k=none) (hv:∀ W,R.r w0 W->(∀ j∈qF o,F j W)->(execOp a.eval o).run P W=.ok (.value v) W) (h:jJ R0 R c P ops w0 H Q rest (listed.setIfInBounds k true) (a.put o.dst v) (upd F k o fun _=>True)):jJ R0 R c P ops w0 H Q ((k,o) :: rest) listed a F:=
 qdt v hw hH (fun W hW hF=>⟨W,hv W (by unfold preC at hW;split at hW;exact hle _ _ hW;exact hW) hF,Rel.refl _ W⟩) h
theorem Jm (hw:Region.wanted o (yielded ops a.tmps)=false) (h:jJ R0 R c P ops w0 H Q rest (listed.setIfInBounds k true) (a.put o.dst undef) (upd F k o fun _=>True)):jJ R0 R c P ops w0 H Q ((k,o) :: rest) listed a F:=
 ⟨one undef,.inl ⟨hw,rfl⟩,fun _ _=>h⟩
theorem Gh (hh:qS) (hw:Region.wanted o (yielded ops a.tmps)=true) (hH:H c=some hh) (hv:∀ W,R0.r w0 W->(∀ j∈qF o,F j W)->QC R P o a W hh) (h:∀ p,jJ R0 R c P ops w0 H Q rest (listed.setIfInBounds c true) (a.put o.dst (hh.f p)) (upd F c o (hh.φ p))):jJ R0 R c P ops w0 H Q ((c,o) :: rest) listed a F:=
 ⟨hh,.inr (.inr ⟨hw,hH,fun W hW hF=>by unfold preC at hW;unfold UF;rw[if_pos rfl] at hW ⊢;exact hv W hW hF⟩),fun p _=>h p⟩
end
end
end
structure Xs (S:Sto):Prop where
 bs:S.bs.length<1000000
 ws:S.ws.length<1000000
 be:∀ l∈S.bs,l.length<1000000
 we:∀ p∈S.ws,p.2.length<1000000
 now:S.now.length<1000000
 last:S.last.length<1000000
end Go.Proofs.YtpbniokljofedaaGreat
namespace Go.Proofs.YtpbniokljofedaaGreat
open Go.RowKit Go.Deep
def InG (w:World) (g F:Nat) (v:Value) (l:List UInt8):Prop:=∃ o,v=.slice (some ⟨g,o,none⟩) l.length l.length/\o+l.length<=F/\∀ j u,(l.map bv)[j]?=some u->w.cell? ⟨g,o+j,none⟩=some u
section
variable {w w':World} {g F:Nat} {v:Value} {l:List UInt8}
theorem InG.keep (h:InG w g F v l) (hk:w'.heap[g]?=w.heap[g]?):InG w' g F v l:=by obtain⟨o,e,h1,h2⟩:=h;exact⟨o,e,h1,fun j u hu=>(World.cell?_of_block hk).trans (h2 j u hu)⟩
theorem InG.step {cur:Array Value} {t:TypeId} {l':List UInt8} {o:Nat} (h:InG w g F v l) (hr:w.heap[g]?=some (.cells cur t (0,0))) (lY:w'.heap[g]?=some (.cells (ZD cur o l') t (0,0))) (gG:o+l'.length<=cur.size) (ho:o=F\/l'.length=0):InG w' g (F+l'.length) v l:=by
 obtain⟨o1,e,h1,h2⟩:=h;refine⟨o1,e,zO,fun j u hu=>?_⟩;have hj:j<l.length:=by have:=(List.getElem?_eq_some_iff.1 hu).1;simpa using this
 have:=h2 j u hu;rw[qa hr] at this;rw[qa lY,qfo gG (by rcases ho with ho|ho <;> omega)];exact this
theorem InG.new {cur:Array Value} {t:TypeId} {o:Nat} (hr:w'.heap[g]?=some (.cells (ZD cur o l) t (0,0))) (gG:o+l.length<=cur.size) (ho:o<=F):InG w' g (F+l.length) (.slice (some ⟨g,o,none⟩) l.length l.length) l:=
 ⟨o,rfl,zO,fun j u hu=>by rw[qa hr];exact qfn gG hu⟩
theorem InG.bys {B:Nat} (h:InG w g F v l) (hg:g<B) (hl:l.length<=maxLen):Bys w B v l:=by obtain⟨o,e,h1,h2⟩:=h;exact⟨_,_,e,zM _,hl,zA3,fun _=>⟨g,o,rfl,hg,h2⟩⟩
theorem InG.cells {W2:World} (h:InG w g F v l) (hk:∀ j,W2.cell? ⟨g,j,none⟩=w.cell? ⟨g,j,none⟩):InG W2 g F v l:=by obtain⟨o,e,h1,h2⟩:=h;exact⟨o,e,h1,fun j u hu=>(hk _).trans (h2 j u hu)⟩
end
def Je (ls:List (List UInt8)):Nat:=(ls.map List.length).sum
theorem Yx {ls:List (List UInt8)} {k:Nat} (h:k<ls.length):Je (ls.take (k+1))=Je (ls.take k)+ls[k].length:=by unfold Je;rw[List.take_succ_eq_append_getElem h,List.map_append,List.sum_append];simp
theorem qfR (ls:List (List UInt8)) (k:Nat):Je (ls.take k)+Je (ls.drop k)=Je ls:=by unfold Je;rw[<-List.sum_append,<-List.map_append,List.take_append_drop]
theorem qgG {ls:List (List UInt8)} (h:∀ l∈ls,l.length<1000000):Je ls<=ls.length*1000000:=by
 induction ls with
 |nil=>simp[Je]
 |cons l r ih =>
  have h1:=ih fun x hx=>h x (List.mem_cons_of_mem _ hx);have h2:=h l List.mem_cons_self;simp only[Je,List.map_cons,List.sum_cons,List.length_cons] at h1 ⊢;omega
theorem vp (ls:List (List UInt8)) (k:Nat):Je (ls.take k)<=Je ls:=by have:=qfR ls k;omega
def Xc (hb g:Nat):Rel where
 rel W W':=W'.os=W.os/\W'.tape=W.tape/\W'.output=W.output/\W.heap.size<=W'.heap.size/\∀ b,b<W.heap.size->b≠hb->b≠g->W'.heap[b]?=W.heap[b]?
 refl' w:=⟨rfl,rfl,rfl,zM _,fun _ _ _ _=>rfl⟩
 trans' h k:=⟨k.1.trans h.1,k.2.1.trans h.2.1,k.2.2.1.trans h.2.2.1,Nat.le_trans h.2.2.2.1 k.2.2.2.1,fun b hb h1 h2=>(k.2.2.2.2 b (Nat.lt_of_lt_of_le hb h.2.2.2.1) h1 h2).trans (h.2.2.2.2 b hb h1 h2)⟩
 drew' w:=⟨rfl,rfl,rfl,zM _,fun _ _ _ _=>rfl⟩
theorem qgd {hb g:Nat}:∀ a b,qk.r a b->(Xc hb g).r a b:=fun a b h=>by have h:Ext a b:=h;exact⟨h.os,h.tape,h.output,h.size,fun k hk _ _=>h.block k hk⟩
theorem vZ {hb g b:Nat} {a W:World} {o:Obj} (h:(Xc hb g).r a W) (h1:b≠hb) (h2:b≠g) (hc:a.heap[b]?=some o):W.heap[b]?=some o:=
 (h.2.2.2.2 b (zG.1 hc).1 h1 h2).trans hc
theorem qN {w:World} {a b:Nat} {c d:Array Value} {t u:TypeId} (h:w.heap[a]?=some (.cells c t (0,0))) (k:w.heap[b]?=some (.cells d u (0,0))) (hn:t≠u):a≠b:=fun e=>by subst e;rw[h] at k;cases k;exact hn rfl
structure TwS (bs:List (List UInt8)) (ws:List (Int×List UInt8)) (T lo:Nat) (w5:World) (hb g BB WW ob kb kw F:Nat) (wr:World):Prop where
 below:Below lo w5 wr
 los:lo<=hb/\lo<=g/\lo<=BB/\lo<=WW/\lo<=ob
 out:wr.heap[ob]?=some (.cells #[.slice (some ⟨BB,0,none⟩) bs.length bs.length,.slice (some ⟨WW,0,none⟩) ws.length (ws.length+1)] 25 (0,0))
 heap:∃ o n cur,qaQ hb g o n cur wr/\o<=F/\(0<n->o=F)/\F+n=T/\cur.size=T
 bb:∃ cs,wr.heap[BB]?=some (.cells cs 26 (0,0))/\cs.size=bs.length/\∀ i l,bs[i]?=some l->i<kb->∃ v,cs[i]?=some v/\InG wr g F v l
 ww:∃ cs,wr.heap[WW]?=some (.cells cs 130 (0,0))/\cs.size=(ws.length+1)*2/\∀ i p,ws[i]?=some p->i<kw->∃ v,cs[i*2]?=some (.int .i64 p.1)/\cs[i*2+1]?=some v/\InG wr g F v p.2
section
variable {bs:List (List UInt8)} {ws:List (Int×List UInt8)} {T lo:Nat} {w5:World} {hb g BB WW ob kb kw F:Nat} {wr W:World}
theorem TwS.ext (h:TwS bs ws T lo w5 hb g BB WW ob kb kw F wr) (hx:Ext wr W) (hl:lo<=wr.heap.size):TwS bs ws T lo w5 hb g BB WW ob kb kw F W:=by
 obtain⟨o,n,cur,⟨H1,H2,H3,H4,H5⟩,h2⟩:=h.heap;obtain⟨cb,bD,bI,dF⟩:=h.bb;obtain⟨cw,aA,dA,aO⟩:=h.ww;have hg:W.heap[g]?=wr.heap[g]?:=hx.block g (zG.1 H2).1;exact⟨h.below.trans (Below.mono hx hl),h.los,qb h.out hx,⟨o,n,cur,⟨qb H1 hx,qb H2 hx,H3,H4,H5⟩,h2⟩,
  ⟨cb,qb bD hx,bI,fun i l hi hk=>(dF i l hi hk).imp fun v hv=>⟨hv.1,hv.2.keep hg⟩⟩,⟨cw,qb aA hx,dA,fun i p hi hk=>(aO i p hi hk).imp fun v hv=>⟨hv.1,hv.2.1,hv.2.2.keep hg⟩⟩⟩
theorem TwS.clone (h:TwS bs ws T lo w5 hb g BB WW ob kb kw F wr) {o n o':Nat} {cur:Array Value} {l:List UInt8} (hH:qaQ hb g o n cur wr) (hl:l.length<=n) (hr:(Xc hb g).r wr W) (h1:0<n-l.length->o'=o+l.length) (h2:n-l.length=0->o'=o) (hH':qaQ hb g o' (n-l.length) (ZD cur o l) W):TwS bs ws T lo w5 hb g BB WW ob kb kw (F+l.length) W/\InG W g (F+l.length) (.slice (some ⟨g,o,none⟩) l.length l.length) l:=by
 obtain⟨o2,n2,cur2,H2,k1,k2,k3,k4⟩:=h.heap;have e1:=H2.box;rw[hH.box] at e1;simp only[Option.some.injEq,Obj.cells.injEq,Array.mk.injEq,List.cons.injEq,Value.slice.injEq,Addr.mk.injEq,and_true,true_and] at e1;obtain⟨rfl,rfl,_⟩:=e1;have e2:=H2.row;rw[hH.row] at e2;simp only[Option.some.injEq,Obj.cells.injEq,and_true] at e2;subst e2;have gG:o+l.length<=cur.size:=by have:=hH.fit;omega
 have ho:o=F\/l.length=0:=by
  rcases Nat.eq_zero_or_pos n with h0|h0
  ·exact .inr zO
  ·exact .inl (k2 h0)
 have hr0:=hH.row;have mX:=hH'.row;obtain⟨cb,bD,bI,dF⟩:=h.bb;obtain⟨cw,aA,dA,aO⟩:=h.ww;have n1:BB≠hb:=qN bD hH.box zA1;have n2:BB≠g:=qN bD hr0 zA1;have n3:WW≠hb:=qN aA hH.box zA1;have n4:WW≠g:=qN aA hr0 zA1;have n5:ob≠hb:=qN h.out hH.box zA1;have n6:ob≠g:=qN h.out hr0 zA1;obtain⟨l1,l2,l3,l4,l5⟩:=h.los;have hlt:=(zG.1 hr0).1;refine⟨⟨⟨hr.1.trans h.below.os,hr.2.1.trans h.below.tape,hr.2.2.1.trans h.below.output,Nat.le_trans h.below.size hr.2.2.2.1,fun b hb=>(hr.2.2.2.2 b zO zO zO).trans (h.below.block b hb)⟩,h.los,vZ hr n5 n6 h.out,⟨o',n-l.length,_,hH',?_,?_,zO,?_⟩,
  ⟨cb,vZ hr n1 n2 bD,bI,fun i l' hi hk=>(dF i l' hi hk).imp fun v hv=>⟨hv.1,hv.2.step hr0 mX gG ho⟩⟩,⟨cw,vZ hr n3 n4 aA,dA,fun i p hi hk=>(aO i p hi hk).imp fun v hv=>⟨hv.1,hv.2.1,hv.2.2.step hr0 mX gG ho⟩⟩⟩,InG.new mX gG k1⟩
 ·rcases Nat.eq_zero_or_pos (n-l.length) with h0|h0
  ·rw[h2 h0];omega
  ·rw[h1 h0];omega
 ·intro h0;rw[h1 h0,k2 zO]
 ·rw[Uf gG];exact k4
theorem TwS.setB (h:TwS bs ws T lo w5 hb g BB WW ob kb kw F wr) {v:Value} {l:List UInt8} (hk:bs[kb]?=some l) (hv:InG wr g F v l):TwS bs ws T lo w5 hb g BB WW ob (kb+1) kw F (wr.setCell ⟨BB,kb,none⟩ v):=by
 obtain⟨o,n,cur,⟨H1,H2,H3,H4,H5⟩,h2⟩:=h.heap;obtain⟨cb,bD,bI,dF⟩:=h.bb;obtain⟨cw,aA,dA,aO⟩:=h.ww;have n1:hb≠BB:=qN H1 bD zA1;have n2:g≠BB:=qN H2 bD zA1;have n3:WW≠BB:=qN aA bD zA1;have n5:ob≠BB:=qN h.out bD zA1;have hg:=zJ wr ⟨BB,kb,none⟩ v g n2;have hlt:=(List.getElem?_eq_some_iff.1 hk).1;refine⟨Below.setCell h.below (p:=⟨BB,kb,none⟩) h.los.2.2.1 _,h.los,(zJ _ _ _ _ n5).trans h.out,⟨o,n,cur,⟨(zJ _ _ _ _ n1).trans H1,(zJ _ _ _ _ n2).trans H2,H3,H4,H5⟩,h2⟩,
  ⟨_,qi bD kb v,by simpa using bI,fun i l' hi dY=>?_⟩,⟨cw,(zJ _ _ _ _ n3).trans aA,dA,fun i p hi hk=>(aO i p hi hk).imp fun v hv=>⟨hv.1,hv.2.1,hv.2.2.keep hg⟩⟩⟩
 rw[Array.getElem?_setIfInBounds];by_cases e:kb=i
 ·subst e;rw[hk] at hi;cases hi;rw[if_pos rfl,if_pos zO];exact⟨v,rfl,hv.keep hg⟩
 ·rw[if_neg e];exact(dF i l' hi zO).imp fun u hu=>⟨hu.1,hu.2.keep hg⟩
theorem TwS.setW (h:TwS bs ws T lo w5 hb g BB WW ob kb kw F wr) {v:Value} {p:Int×List UInt8} (hk:ws[kw]?=some p) (hv:InG wr g F v p.2):TwS bs ws T lo w5 hb g BB WW ob kb (kw+1) F ((wr.setCell ⟨WW,kw*2,none⟩ (.int .i64 p.1)).setCell ⟨WW,kw*2+1,none⟩ v):=by
 obtain⟨o,n,cur,⟨H1,H2,H3,H4,H5⟩,h2⟩:=h.heap;obtain⟨cb,bD,bI,dF⟩:=h.bb;obtain⟨cw,aA,dA,aO⟩:=h.ww;have n1:hb≠WW:=qN H1 aA zA1;have n2:g≠WW:=qN H2 aA zA1;have n3:BB≠WW:=qN bD aA zA1;have n5:ob≠WW:=qN h.out aA zA1;have st:∀ b,b≠WW->((wr.setCell ⟨WW,kw*2,none⟩ (.int .i64 p.1)).setCell ⟨WW,kw*2+1,none⟩ v).heap[b]?=wr.heap[b]?:=fun b hb=>(zJ _ _ _ _ hb).trans (zJ _ _ _ _ hb);have hlt:=(List.getElem?_eq_some_iff.1 hk).1;refine⟨Below.setCell (Below.setCell h.below (p:=⟨WW,kw*2,none⟩) h.los.2.2.2.1 _) (p:=⟨WW,kw*2+1,none⟩) h.los.2.2.2.1 _,h.los,(st _ n5).trans h.out,⟨o,n,cur,⟨(st _ n1).trans H1,(st _ n2).trans H2,H3,H4,H5⟩,h2⟩,
  ⟨cb,(st _ n3).trans bD,bI,fun i l' hi dY=>(dF i l' hi dY).imp fun u hu=>⟨hu.1,hu.2.keep (st _ n2)⟩⟩,⟨_,qi (qi aA (kw*2) _) (kw*2+1) _,by simpa using dA,fun i q hi dY=>?_⟩⟩
 by_cases e:kw=i
 ·subst e;rw[hk] at hi;cases hi;refine⟨v,?_,?_,hv.keep (st _ n2)⟩
  ·rw[Array.getElem?_setIfInBounds,if_neg zO,Array.getElem?_setIfInBounds,if_pos rfl,if_pos zO]
  ·rw[Array.getElem?_setIfInBounds,if_pos rfl,if_pos zA2]
 ·refine(aO i q hi zO).imp fun u hu=>⟨?_,?_,hu.2.2.keep (st _ n2)⟩
  ·rw[Array.getElem?_setIfInBounds,if_neg zO,Array.getElem?_setIfInBounds,if_neg zO];exact hu.1
  ·rw[Array.getElem?_setIfInBounds,if_neg zO,Array.getElem?_setIfInBounds,if_neg zO];exact hu.2.1
end
structure jS (lo:Nat) (bs:List (List UInt8)) (ws:List (Int×List UInt8)) (BB WW g:Nat) (W:World):Prop where
 los:lo<=BB/\lo<=WW/\lo<=g/\g<W.heap.size/\BB≠WW/\BB≠g/\WW≠g
 bb:∃ cs,W.heap[BB]?=some (.cells cs 26 (0,0))/\cs.size=bs.length/\∀ (i:Nat) (l:List UInt8),bs[i]?=some l->∃ v F,cs[i]?=some v/\InG W g F v l
 ww:∃ cs,W.heap[WW]?=some (.cells cs 130 (0,0))/\cs.size=(ws.length+1)*2/\∀ (i:Nat) (p:Int×List UInt8),ws[i]?=some p->∃ v F,cs[i*2]?=some (.int .i64 p.1)/\cs[i*2+1]?=some v/\InG W g F v p.2
 gg:∃ cs,W.heap[g]?=some (.cells cs 5 (0,0))
theorem TwS.done {bs:List (List UInt8)} {ws:List (Int×List UInt8)} {T lo:Nat} {w5:World} {hb g BB WW ob F:Nat} {wr:World} (h:TwS bs ws T lo w5 hb g BB WW ob bs.length ws.length F wr):jS lo bs ws BB WW g wr:=by
 obtain⟨o,n,cur,⟨H1,H2,H3,H4,H5⟩,h2⟩:=h.heap;obtain⟨cb,bD,bI,dF⟩:=h.bb;obtain⟨cw,aA,dA,aO⟩:=h.ww;refine⟨⟨h.los.2.2.1,h.los.2.2.2.1,h.los.2.1,(zG.1 H2).1,qN bD aA zA1,qN bD H2 zA1,qN aA H2 zA1⟩,⟨cb,bD,bI,fun i l hi=>?_⟩,⟨cw,aA,dA,fun i p hi=>?_⟩,⟨_,H2⟩⟩
 ·obtain⟨v,h1,h2⟩:=dF i l hi (List.getElem?_eq_some_iff.1 hi).1;exact⟨v,F,h1,h2⟩
 ·obtain⟨v,h1,h2⟩:=aO i p hi (List.getElem?_eq_some_iff.1 hi).1;exact⟨v,F,h1,h2⟩
theorem jS.keep {lo lo':Nat} {bs:List (List UInt8)} {ws:List (Int×List UInt8)} {BB WW g:Nat} {W W2:World} (h:jS lo bs ws BB WW g W) (hl:lo'<=lo) (hs:W.heap.size<=W2.heap.size) (hk:∀ b,lo<=b->b<W.heap.size->W2.heap[b]?=W.heap[b]?):jS lo' bs ws BB WW g W2:=by
 obtain⟨cb,bD,bI,dF⟩:=h.bb;obtain⟨cw,aA,dA,aO⟩:=h.ww;obtain⟨l1,l2,l3,l4,l5⟩:=h.los;have hg:=hk g l3 l4;exact⟨⟨zO,zO,zO,zO,l5⟩,⟨cb,(hk BB l1 (zG.1 bD).1).trans bD,bI,fun i l hi=>by
  obtain⟨v,F,h1,h2⟩:=dF i l hi;exact⟨v,F,h1,h2.keep hg⟩⟩,⟨cw,(hk WW l2 (zG.1 aA).1).trans aA,dA,fun i p hi=>by
  obtain⟨v,F,h1,h2,h3⟩:=aO i p hi;exact⟨v,F,h1,h2,h3.keep hg⟩⟩,h.gg.imp fun cs h=>hg.trans h⟩
theorem jS.keepT {lo lo':Nat} {bs:List (List UInt8)} {ws:List (Int×List UInt8)} {BB WW g:Nat} {W W2:World} (h:jS lo bs ws BB WW g W) (hl:lo'<=lo) (hs:W.heap.size<=W2.heap.size) {b1:Nat} {c1:Array Value} {t1:TypeId} (h1:W.heap[b1]?=some (.cells c1 t1 (0,0))) (ht:t1≠26/\t1≠130/\t1≠5) (hk:∀ b,lo<=b->b<W.heap.size->b≠b1->W2.heap[b]?=W.heap[b]?):jS lo' bs ws BB WW g W2:=by
 obtain⟨cb,bD,bI,dF⟩:=h.bb;obtain⟨cw,aA,dA,aO⟩:=h.ww;obtain⟨cg,hg1⟩:=h.gg;obtain⟨l1,l2,l3,l4,l5⟩:=h.los;have hg:=hk g l3 l4 (qN hg1 h1 fun e=>ht.2.2 e.symm);exact⟨⟨zO,zO,zO,zO,l5⟩,⟨cb,(hk BB l1 (zG.1 bD).1 (qN bD h1 fun e=>ht.1 e.symm)).trans bD,bI,fun i l hi=>by
  obtain⟨v,F,h1,h2⟩:=dF i l hi;exact⟨v,F,h1,h2.keep hg⟩⟩,⟨cw,(hk WW l2 (zG.1 aA).1 (qN aA h1 fun e=>ht.2.1 e.symm)).trans aA,dA,fun i p hi=>by
  obtain⟨v,F,h1,h2,h3⟩:=aO i p hi;exact⟨v,F,h1,h2,h3.keep hg⟩⟩,cg,hg.trans hg1⟩
theorem jS.readsB {lo:Nat} {bs:List (List UInt8)} {ws:List (Int×List UInt8)} {BB WW g:Nat} {W:World} (h:jS lo bs ws BB WW g W) (h1:bs.length<1000000) (h2:ws.length<1000000) (h3:∀ l∈bs,l.length<1000000) (h4:∀ p∈ws,p.2.length<1000000) (W2:World) (hB:∀ j,W2.cell? ⟨BB,j,none⟩=W.cell? ⟨BB,j,none⟩) (hWW:∀ j,W2.cell? ⟨WW,j,none⟩=W.cell? ⟨WW,j,none⟩) (hg:∀ j,W2.cell? ⟨g,j,none⟩=W.cell? ⟨g,j,none⟩):Bls W2 W.heap.size (.slice (some ⟨BB,0,none⟩) bs.length bs.length) bs/\Wrs W2 W.heap.size (.slice (some ⟨WW,0,none⟩) ws.length (ws.length+1)) ws:=by
 obtain⟨cb,bD,bI,dF⟩:=h.bb;obtain⟨cw,aA,dA,aO⟩:=h.ww;obtain⟨l1,l2,l3,l4,l5⟩:=h.los;have z1:=(zG.1 bD).1;have z2:=(zG.1 aA).1;have hm:∀ n,n<1000001->n<=maxLen:=fun n hn=>zA7;refine⟨⟨cb.toList,_,_,rfl,zM _,hm _ zO,⟨by simp[bI],fun _=>⟨BB,0,rfl,z1,fun j u hu=>?_⟩⟩,fun i u l hu hl=>?_⟩,?_⟩
 ·rw[Nat.zero_add,hB j,qa bD];simpa using hu
 ·obtain⟨v,F,e1,e2⟩:=dF i l hl;have:cb.toList[i]?=cb[i]?:=zA3;rw[this,e1] at hu;cases hu;exact(e2.cells hg).bys l4 (hm _ (by have:=h3 l (List.mem_of_getElem? hl);omega))
 ·have hq:∀ i,i<ws.length->∃ q:(Int×List UInt8)×Value,ws[i]?=some q.1/\(∃ A c,q.2=.slice A q.1.2.length c)/\Bys W2 W.heap.size q.2 q.1.2/\cw[i*2]?=some (.int .i64 q.1.1)/\cw[i*2+1]?=some q.2:=fun i hi=>by obtain⟨v,F,e1,e2,e3⟩:=aO i ws[i] (zL hi);have hb:=(e3.cells hg).bys l4 (hm _ (by have:=h4 ws[i] (List.getElem_mem hi);omega));obtain⟨o,ev,_⟩:=e3;exact⟨(ws[i],v),zL hi,⟨_,_,ev⟩,hb,e1,e2⟩
  obtain⟨Q,hQ⟩:=choose_lt (α:=(Int×List UInt8)×Value) (p:=fun i q=>ws[i]?=some q.1/\(∃ A c,q.2=.slice A q.1.2.length c)/\Bys W2 W.heap.size q.2 q.1.2/\cw[i*2]?=some (.int .i64 q.1.1)/\cw[i*2+1]?=some q.2) hq;refine⟨(List.range ws.length).map Q,?_,⟨some ⟨WW,0,none⟩,ws.length+1,rfl,zO,hm _ zO,⟨by rw[kG];simp,fun _=>⟨WW,0,rfl,z2,fun j u hu=>?_⟩⟩⟩,fun q oU=>?_⟩
  ·apply List.ext_getElem?;intro i;rw[List.map_map,List.getElem?_map];rcases Nat.lt_or_ge i ws.length with hi|hi
   ·rw[List.getElem?_range hi,(hQ i hi).1];rfl
   ·rw[List.getElem?_eq_none (by simpa using hi),List.getElem?_eq_none hi];rfl
  ·rw[Nat.zero_add,hWW j,qa aA];have hj:j<ws.length*2:=by have:=(List.getElem?_eq_some_iff.1 hu).1;rw[kG] at this;simpa using this
   obtain⟨c0,c1⟩:=VJ ((List.range ws.length).map Q) (j / 2) zA2;obtain⟨_,_,_,q0,q1⟩:=hQ (j / 2) zO;rcases(show j=j / 2*2\/j=j / 2*2+1 by omega) with e|e
   ·have hu':some u=some _:=(hu.symm.trans (congrArg (fun t=>(ZA ((List.range ws.length).map Q))[t]?) e)).trans c0;cases hu';rw[show cw[j]?=cw[j / 2*2]? from congrArg (fun t=>cw[t]?) e,q0];simp
   ·have hu':some u=some _:=(hu.symm.trans (congrArg (fun t=>(ZA ((List.range ws.length).map Q))[t]?) e)).trans c1;cases hu';rw[show cw[j]?=cw[j / 2*2+1]? from congrArg (fun t=>cw[t]?) e,q1];simp
  ·obtain⟨i,hi,rfl⟩:=List.mem_map.1 oU;obtain⟨_,q1,q2,_⟩:=hQ i (List.mem_range.1 hi);exact⟨q1,q2⟩
theorem jS.reads {lo:Nat} {bs:List (List UInt8)} {ws:List (Int×List UInt8)} {BB WW g:Nat} {W:World} (h:jS lo bs ws BB WW g W) (h1:bs.length<1000000) (h2:ws.length<1000000) (h3:∀ l∈bs,l.length<1000000) (h4:∀ p∈ws,p.2.length<1000000) (W2:World) (hk:∀ q:Addr,lo<=q.block->q.block<W.heap.size->W2.cell? q=W.cell? q):Bls W2 W.heap.size (.slice (some ⟨BB,0,none⟩) bs.length bs.length) bs/\Wrs W2 W.heap.size (.slice (some ⟨WW,0,none⟩) ws.length (ws.length+1)) ws:=by
 obtain⟨cb,bD,-⟩:=h.bb;obtain⟨cw,aA,-⟩:=h.ww;obtain⟨l1,l2,l3,l4,-⟩:=h.los;exact h.readsB h1 h2 h3 h4 W2 (fun j=>hk ⟨BB,j,none⟩ l1 (zG.1 bD).1) (fun j=>hk ⟨WW,j,none⟩ l2 (zG.1 aA).1) fun j=>hk ⟨g,j,none⟩ l3 l4
theorem jS.readsT {lo:Nat} {bs:List (List UInt8)} {ws:List (Int×List UInt8)} {BB WW g:Nat} {W:World} (h:jS lo bs ws BB WW g W) (h1:bs.length<1000000) (h2:ws.length<1000000) (h3:∀ l∈bs,l.length<1000000) (h4:∀ p∈ws,p.2.length<1000000) (W2:World) (hk:∀ q:Addr,lo<=q.block->q.block<W.heap.size->W2.cell? q=(thaw W).cell? q):Bls W2 W.heap.size (.slice (some ⟨BB,0,none⟩) bs.length bs.length) bs/\Wrs W2 W.heap.size (.slice (some ⟨WW,0,none⟩) ws.length (ws.length+1)) ws:=by
 obtain⟨cb,bD,-⟩:=h.bb;obtain⟨cw,aA,-⟩:=h.ww;obtain⟨cg,hg1⟩:=h.gg;obtain⟨l1,l2,l3,l4,-⟩:=h.los;exact h.readsB h1 h2 h3 h4 W2 (fun j=>(hk ⟨BB,j,none⟩ l1 (zG.1 bD).1).trans (VZ bD j)) (fun j=>(hk ⟨WW,j,none⟩ l2 (zG.1 aA).1).trans (VZ aA j)) fun j=>(hk ⟨g,j,none⟩ l3 l4).trans (VZ hg1 j)
end Go.Proofs.YtpbniokljofedaaGreat
