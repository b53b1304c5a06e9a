/- Lemmas of the proof. -/
import Derived.Deep.Slices
import Derived.Laws.MakeOwn
import Derived.Test.YtmeadnlmepcmbaaGreatZT08
set_option linter.all false
set_option maxHeartbeats 8000000
open Go.Proofs.Tryz
open Go.Value renaming slice→s,int→Z
open Bool renaming true→D,false→U
open Option renaming some→E,none→I
open Go renaming World→J,Value→X
open Go.Obj renaming cells→O
open Go.IntKind renaming i64→Y
open Go.World renaming alloc→Jx
namespace Go.Proofs.YtmeadnlmepcmbaaGreat
open Go.RowKit
section
variable {R0 R:Rel} {c:Nat}
def preC(R0 R:Rel)(c i:Nat):Rel:=if i=c then R0 else R
def qbQ(R0 R:Rel)(c i:Nat):Rel:=if i=c then R else R0
section
variable {P:Program} {ops:Array Oper} {w0:World}
def Jk(R0 R:Rel)(c:Nat)(P:Program)(ops:Array Oper)(w0:J)(H:Nat->Option Qb)(i:Nat)(o:Oper)(a:Act)(F:qN)(h:Qb):Prop:=
 (Region.wanted o (yielded ops a.tmps)=U/\h=one undef) \/
 (Region.wanted o (yielded ops a.tmps)=D/\H i=I/\∃v,h=one v/\∀W,(preC R0 R c i).r w0 W->(∀k∈qO o,F k W)->Jw (qbQ R0 R c i) P o a W v) \/
 (Region.wanted o (yielded ops a.tmps)=D/\H i=h/\∀W,(preC R0 R c i).r w0 W->(∀k∈qO o,F k W)->Qs (qbQ R0 R c i) P o a W h)
def qaT(R0 R:Rel)(c:Nat)(w0:J)(listed:Array Bool)(F:qN):Prop:=∃W,R.r w0 W/\(listed.getD c D=U->R0.r w0 W)/\∀k,F k W
def FOpC(R0 R:Rel)(c:Nat)(P:Program)(ops:Array Oper)(w0:J)(H:Nat->Option Qb)(listed:Array Bool)(i:Nat)(o:Oper)(K:Act->qN->Prop)(a:Act)(F:qN):Prop:=
 ∃h,Jk R0 R c P ops w0 H i o a F h/\∀p,qaT R0 R c w0 (listed.setIfInBounds i D) (upd F i o (h.φ p))->K (a.put o.dst (h.f p)) (upd F i o (h.φ p))
def JX(R0 R:Rel)(c:Nat)(P:Program)(ops:Array Oper)(w0:J)(H:Nat->Option Qb)(Q:Act->qN->Prop):List (Nat×Oper)->Array Bool->Act->qN->Prop
 |[],_,a,F=>Q a F
 |(k,o)::rest,listed,a,F=>FOpC R0 R c P ops w0 H listed k o (λa' F'=>JX R0 R c P ops w0 H Q rest (listed.setIfInBounds k D) a' F') a F
def qag(R0 R:Rel)(c:Nat)(P:Program)(ops:Array Oper)(w0:J)(H:Nat->Option Qb)(L:Array Bool)(Q:Act->qN->Prop):Nat->Array Bool->Act->qN->Prop
 |0,listed,a,F=>listed=L/\Q a F
 |fuel+1,listed,a,F=>Region.ready .any ops listed≠[]/\∀i∈Region.ready .any ops listed,∀o,ops[i]?=E o->FOpC R0 R c P ops w0 H listed i o (qag R0 R c P ops w0 H L Q fuel (listed.setIfInBounds i D)) a F
theorem qgn{listed:Array Bool}{i:Nat}{W:J}(hi:listed.getD i D=U)(h:R.r w0 W)(h0:listed.getD c D=U->R0.r w0 W):(preC R0 R c i).r w0 W:=by unfold preC;split;rename_i e;subst e;exact h0 hi;exact h
theorem qlr(hle:∀a b,R0.r a b->R.r a b){i:Nat}{W W':J}(h:(qbQ R0 R c i).r W W'):R.r W W':=by unfold qbQ at h;split at h;exact h;exact hle _ _ h
theorem stpC_0{listed:Array Bool}{i:Nat}{W W':J}(hi:listed.getD i D=U)(h:(qbQ R0 R c i).r W W')(hc:(listed.setIfInBounds i D).getD c D=U):R0.r W W':=by
 unfold qbQ at h;split at h;rename_i e;subst e;exfalso;rcases Nat.lt_or_ge i listed.size with h'|h'
 simp[h']at hc;simp[Array.getElem?_eq_none h']at hi;exact h
theorem unset{listed:Array Bool}{i c:Nat}(hc:(listed.setIfInBounds i D).getD c D=U):listed.getD c D=U:=by
 by_cases e:i=c;subst e;rcases Nat.lt_or_ge i listed.size with h'|h'
 simp[h']at hc;simp at hc
 rwa [getD_set_ne D e]at hc
def Void(c:Nat)(listed:Array Bool)(F:qN):Prop:=listed.getD c D=U->∀k W,F k W
theorem keepC{listed:Array Bool}{F:qN}{i:Nat}{W W':J}(hi:listed.getD i D=U)(aJ:∀k,qS R0 (F k))(hv:Void c listed F)(h:(qbQ R0 R c i).r W W')(k:Nat)(hF:F k W):F k W':=by unfold qbQ at h;split at h;rename_i e;subst e;exact hv hi k W';exact aJ k _ _ h hF
theorem Jk.unique{H:Nat->Option Qb}{listed:Array Bool}{i:Nat}{o:Oper}{a:Act}{F:qN}{h h':Qb}(hc:qaT R0 R c w0 listed F)(hi:listed.getD i D=U)(x:Jk R0 R c P ops w0 H i o a F h)(y:Jk R0 R c P ops w0 H i o a F h'):h=h':=by
 obtain⟨W,hW,iV,hF⟩:=hc;have hW:=qgn hi hW iV;rcases x with⟨x1,rfl⟩|⟨x1,x2,v,rfl,x3⟩|⟨x1,x2,x3⟩<;>rcases y with⟨y1,rfl⟩|⟨y1,y2,u,rfl,y3⟩|⟨y1,y2,y3⟩
 rfl;rw[x1]at y1;cases y1;rw[x1]at y1;cases y1;rw[x1]at y1;cases y1;obtain⟨w1,e1,_⟩:=x3 W hW λk _=>hF k;obtain⟨w2,e2,_⟩:=y3 W hW λk _=>hF k;rw[e1]at e2;cases e2;rfl;rw[x2]at y2;cases y2;rw[x1]at y1;cases y1;rw[x2]at y2;cases y2;rw[x2]at y2;cases y2;rfl
theorem Jk.some_(hle:∀a b,R0.r a b->R.r a b){H:Nat->Option Qb}{listed:Array Bool}{i:Nat}{o:Oper}{a:Act}{F:qN}{h:Qb}(hc:qaT R0 R c w0 listed F)(hi:listed.getD i D=U)(aJ:∀k,qS R0 (F k))(hv:Void c listed F)(x:Jk R0 R c P ops w0 H i o a F h):∃p,qaT R0 R c w0 (listed.setIfInBounds i D) (upd F i o (h.φ p)):=by
 obtain⟨W,hW,iV,hF⟩:=hc;have triv:∀(φ:J->Prop)W',(qbQ R0 R c i).r W W'->φ W'->qaT R0 R c w0 (listed.setIfInBounds i D) (upd F i o φ):=λφ W' he hφ=>⟨W',R.trans hW (qlr hle he),λh=>R0.trans (iV (unset h)) (stpC_0 hi he h),λk=>by
  unfold upd;split;exact⟨hφ,λj _=>keepC hi aJ hv he j (hF j)⟩
  ·exact keepC hi aJ hv he k (hF k)⟩
 have hW:=qgn hi hW iV;rcases x with⟨x1,rfl⟩|⟨x1,x2,v,rfl,x3⟩|⟨x1,x2,x3⟩
 exact⟨(),triv _ W (Rel.refl _ W) trivial⟩;obtain⟨w',_,he⟩:=x3 W hW λk _=>hF k;exact⟨(),triv _ w' he trivial⟩;have h3:=x3 W hW λk _=>hF k;unfold Qs at h3;generalize(execOp a.eval o).run P W=r at h3;cases r with
 |ok n w'=>
  cases n<;>simp only[Zp]at h3
  case value u=>obtain⟨p,_,hp,he⟩:=h3;exact⟨p,triv _ w' he hp⟩
  case skip=>obtain⟨p,_,hp,he⟩:=h3;exact⟨p,triv _ w' he hp⟩
  case enter f args=>obtain⟨he,az⟩:=h3;obtain⟨e,w'',fr,⟨p,_,hp,iW⟩,_⟩:=az [];exact⟨p,triv _ w'' (Rel.trans _ he iW) hp⟩
 |halt x w'=>simp only[Zp]at h3
theorem Jk.move{H:Nat->Option Qb}{i j:Nat}{oi oj:Oper}{a:Act}{F:qN}{h:Qb}{v:X}{φ:J->Prop}(dW:oi.apart ops oj=D)(pF:∀cs b,oj.op≠.select cs b)(hn:i∉qO oj):Jk R0 R c P ops w0 H j oj (a.put oi.dst v) (upd F i oi φ) h↔Jk R0 R c P ops w0 H j oj a F h:=by
 obtain⟨h1,_,_⟩:=Oper.apart_spec dW;have hF:∀W,(∀k∈qO oj,upd F i oi φ k W)↔∀k∈qO oj,F k W:=λW=>by constructor<;>intro hh k hk;have:=hh k hk;unfold upd at this;rwa [if_neg (λe=>hn (by rw[<-e];exact hk))]at this;unfold upd;rw[if_neg (λe=>hn (by rw[<-e];exact hk))];exact hh k hk
 unfold Jk Jw Qs;rw[wanted_put oj a oi.dst v h1,execOp_put oj pF a oi.dst v h1];simp only[hF]
theorem Jk.move'{H:Nat->Option Qb}{i j:Nat}{oi oj:Oper}{a:Act}{F:qN}{h:Qb}{v:X}{φ:J->Prop}(dW:oi.apart ops oj=D)(uH:∀cs b,oi.op≠.select cs b)(hn:j∉qO oi):Jk R0 R c P ops w0 H i oi (a.put oj.dst v) (upd F j oj φ) h↔Jk R0 R c P ops w0 H i oi a F h:=by
 obtain⟨_,_,h3⟩:=Oper.apart_spec dW;have hF:∀W,(∀k∈qO oi,upd F j oj φ k W)↔∀k∈qO oi,F k W:=λW=>by constructor<;>intro hh k hk;have:=hh k hk;unfold upd at this;rwa [if_neg (λe=>hn (by rw[<-e];exact hk))]at this;unfold upd;rw[if_neg (λe=>hn (by rw[<-e];exact hk))];exact hh k hk
 unfold Jk Jw Qs;rw[wanted_put oi a oj.dst v h3,execOp_put oi uH a oj.dst v h3];simp only[hF]
theorem Jk.stable{H:Nat->Option Qb}(hH:∀i h,H i=E h->∀p,qS R0 (h.φ p)){i:Nat}{o:Oper}{a:Act}{F:qN}{h:Qb}(x:Jk R0 R c P ops w0 H i o a F h):∀p,qS R0 (h.φ p):=by
 rcases x with⟨_,rfl⟩|⟨_,_,v,rfl,_⟩|⟨_,x2,_⟩
 exact λ_ _ _ _ _=>trivial;exact λ_ _ _ _ _=>trivial;exact hH i h x2
theorem Jk.void{H:Nat->Option Qb}(hone:∀i h,H i=E h->i=c){listed:Array Bool}{i:Nat}{o:Oper}{a:Act}{F:qN}{h:Qb}(hv:Void c listed F)(x:Jk R0 R c P ops w0 H i o a F h)(p:h.α):Void c (listed.setIfInBounds i D) (upd F i o (h.φ p)):=by
 intro hc k W;have az:=hv (unset hc);unfold upd;split;refine⟨?_,λj _=>az j W⟩;rcases x with⟨_,rfl⟩|⟨_,_,v,rfl,_⟩|⟨_,x2,_⟩
 trivial;trivial;exfalso;have e:=hone i h x2;subst e;rcases Nat.lt_or_ge i listed.size with h'|h'
 simp[h']at hc;simp at hc;exact az k W
theorem qek(hle:∀a b,R0.r a b->R.r a b){H:Nat->Option Qb}(hone:∀i h,H i=E h->i=c)(hH:∀i h,H i=E h->∀p,qS R0 (h.φ p)){A:Nat->Prop}{Cl:Array Bool->Prop}{L:Array Bool}{Q:Act->qN->Prop}{i:Nat}{oi:Oper}(hi:ops[i]?=oi)(him:A i)(iD:∀(j:Nat)(o:Oper)cs b,ops[j]?=o->o.op≠.select cs b)(az:∀listed j,Cl listed->j∈Region.ready .any ops listed->Cl (listed.setIfInBounds j D))(bJ:∀(listed:Array Bool)(j:Nat),Cl listed->j∈Region.ready .any ops listed->L.getD j D=U->∀k,A k->listed.getD k U=D):∀(fuel:Nat)(listed:Array Bool)(a:Act)(F:qN),Cl listed -> (∀j oj,ops[j]?=E oj->j≠i->listed.getD j D=U->(∀e∈oj.after,Region.binds .any e=D->e.on≠i)->oi.apart ops oj=D) ->
   i∈Region.ready .any ops listed->(∀k,qS R0 (F k))->qaT R0 R c w0 listed F->Void c listed F->(∀k,listed.getD k D=U->∀W,F k W) ->
   FOpC R0 R c P ops w0 H listed i oi (qag R0 R c P ops w0 H L Q fuel (listed.setIfInBounds i D)) a F->qag R0 R c P ops w0 H L Q (fuel+1) listed a F:=by
 intro fuel;induction fuel with
 |zero=>
  intro listed a F pJ _ hr aJ hc lU _ dw;refine⟨λh=>(by rw[h]at hr;cases hr),λj hj oj dD=>?_⟩;by_cases hji:j=i;subst hji;rw[hi]at dD;cases dD;exact dw;exfalso;obtain⟨h,hok,hK⟩:=dw;obtain⟨p,dU⟩:=hok.some_ hle hc (mem_ready.1 hr).1 aJ lU;have hmj:L.getD j D=U:=by rw[<-(hK p dU).1];exact(mem_ready.1 (ready_mono hj hji)).1
  have h1:=bJ listed j pJ hj hmj i him;have h0:=(mem_ready.1 hr).1;rcases Nat.lt_or_ge i listed.size with h'|h'
  simp[h']at h0 h1;rw[h0]at h1;cases h1;simp[Array.getElem?_eq_none h']at h1
 |succ fuel ih=>
  intro listed a F pJ dF hr aJ hc lU eU dw;refine⟨λh=>(by rw[h]at hr;cases hr),λj hj oj dD=>?_⟩;by_cases hji:j=i;subst hji;rw[hi]at dD;cases dD;exact dw;obtain⟨bK,oj',iL,aW⟩:=mem_ready.1 hj;rw[dD]at iL;cases iL;obtain⟨iY,oi',lJ,gZ⟩:=mem_ready.1 hr;rw[hi]at lJ;cases lJ;have bad:∀k,listed.getD k D=U->listed.getD k U=D->False:=λk h0 h1=>by
   rcases Nat.lt_or_ge k listed.size with h'|h'
   simp[h']at h0 h1;rw[h0]at h1;cases h1;simp[Array.getElem?_eq_none h']at h1
  have lH:∀e∈oj.after,Region.binds .any e=D->e.on≠i:=λe he hb nK=>bad i iY (nK▸aW e he hb);have lI:∀e∈oi.after,Region.binds .any e=D->e.on≠j:=λe he hb nK=>bad j bK (nK▸gZ e he hb);have eF:i∉qO oj:=λhin=>by obtain⟨e,he,nJ⟩:=List.mem_map.1 hin;rw[List.mem_filter]at he;exact lH e (by simpa using he.1) he.2 nJ
  have rG:j∉qO oi:=λhin=>by obtain⟨e,he,nJ⟩:=List.mem_map.1 hin;rw[List.mem_filter]at he;exact lI e (by simpa using he.1) he.2 nJ
  have dW:=dF j oj dD hji bK lH;have uH:∀cs b,oi.op≠.select cs b:=λcs b=>iD i oi cs b hi;have pF:∀cs b,oj.op≠.select cs b:=λcs b=>iD j oj cs b dD;obtain⟨h2,_⟩:=(Oper.apart_spec dW).2;obtain⟨hI,okI,yg⟩:=dw;obtain⟨p0,pO⟩:=okI.some_ hle hc iY aJ lU;obtain⟨hJ,okJ0,_⟩:=(yg p0 pO).2 j (ready_mono hj hji) oj dD;have okJ:Jk R0 R c P ops w0 H j oj a F hJ:=(Jk.move dW pF eF).1 okJ0;refine⟨hJ,okJ,λq hcq=>?_⟩;have stJ:=okJ.stable hH q;have fE:∀k ok,ops[k]?=E ok->k≠i->(listed.setIfInBounds j D).getD k D=U ->
    (∀e∈ok.after,Region.binds .any e=D->e.on≠i)->oi.apart ops ok=D:=λk ok hk eX lT aj=>by
   refine dF k ok hk eX ?_ aj;by_cases hjk:j=k;subst hjk;exact bK;rw[getD_set_ne D hjk]at lT;exact lT
  refine ih (listed.setIfInBounds j D) _ _ (az _ _ pJ hj) fE (ready_mono hr (Ne.symm hji)) (jo aJ j oj stJ) hcq (okJ.void hone lU q) ?_ ?_;intro k hk W;by_cases hjk:j=k;subst hjk;exfalso;have hlt:j<listed.size:=by
   rcases Nat.lt_or_ge j listed.size with h'|h'
   exact h';simp[Array.getElem?_eq_none h']at bK
  simp[hlt]at hk;rw[getD_set_ne D hjk]at hk;have:=eU k hk W;unfold upd;rw[if_neg (λe=>hjk e.symm)];exact this;refine⟨hI,(Jk.move' dW uH rG).2 okI,λp dU=>?_⟩;have tH:qaT R0 R c w0 (listed.setIfInBounds i D) (upd F i oi (hI.φ p)):=by
   by_cases hjc:j=c;have hQH:∃v,hI=one v:=by
    rcases okI with⟨_,e⟩|⟨_,_,v,e,_⟩|⟨_,e,_⟩
    exact⟨_,e⟩;exact⟨_,e⟩;exact absurd ((hone _ _ e).trans hjc.symm) (Ne.symm hji)
   obtain⟨v,rfl⟩:=hQH;exact pO;obtain⟨W,hW,iV,hF⟩:=dU;refine⟨W,hW,λh=>iV ?_,λk=>?_⟩;rw[Array.setIfInBounds_comm _ _ hji,getD_set_ne D hjc];exact h;have hk:=hF k;by_cases eX:k=i;subst eX;unfold upd at hk⊢;rw[if_pos rfl]at hk⊢;refine⟨hk.1,λl hl=>?_⟩;have:=hk.2 l hl
   rwa [if_neg (λe=>rG (by rw[<-e];exact hl))]at this
   by_cases hkj:k=j;subst hkj;unfold upd;rw[if_neg eX];exact eU k bK W;unfold upd at hk⊢;rw[if_neg eX,if_neg hkj]at hk;rw[if_neg eX];exact hk
  obtain⟨xH,okJ',sU⟩:=(yg p tH).2 j (ready_mono hj hji) oj dD;have okJ'':Jk R0 R c P ops w0 H j oj a F xH:=(Jk.move dW pF eF).1 okJ';have e:=okJ''.unique hc bK okJ;subst e;have hq:=sU q (by rw[VX F _ _ (Ne.symm hji) eF rG,Array.setIfInBounds_comm _ _ (λe=>hji e.symm)];exact dU);rw[Array.setIfInBounds_comm _ _ (λe=>hji e.symm),Act.put_comm a (hI.f p) (xH.f q) h2,VX F _ _ (Ne.symm hji) eF rG]at hq;exact hq
theorem qbH(hle:∀a b,R0.r a b->R.r a b){H:Nat->Option Qb}(hone:∀i h,H i=E h->i=c)(hH:∀i h,H i=E h->∀p,qS R0 (h.φ p)){Cl:Array Bool->Prop}{L:Array Bool}{ks:List Nat}{Q:Act->qN->Prop}(hs:Region.noSelect ops=D)(az:∀listed j,Cl listed->j∈Region.ready .any ops listed->Cl (listed.setIfInBounds j D))(bJ:∀(listed:Array Bool)(j:Nat),Cl listed->j∈Region.ready .any ops listed->L.getD j D=U->∀k,k∈ks->listed.getD k U=D):∀(l:List (Nat×Oper))(listed:Array Bool)(a:Act)(F:qN),Cl listed->(∀x∈l,ops[x.1]?=E x.2/\x.1∈ks) ->
  Zu ops L (l.map (·.1)) listed=D->(∀k,qS R0 (F k))->qaT R0 R c w0 listed F->Void c listed F->(∀j,listed.getD j D=U->∀W,F j W)->JX R0 R c P ops w0 H Q l listed a F->qag R0 R c P ops w0 H L Q l.length listed a F
 |[],listed,a,F,_,_,hB,_,_,_,_,h=>⟨by simpa [Zu]using hB,h⟩
 |(k,o)::l,listed,a,F,pJ,hl,hB,aJ,hc,lU,eU,h=>by
  obtain⟨h0,yJ⟩:=hl (k,o) (List.mem_cons_self);simp only[List.map_cons,Zu,Bool.and_eq_true]at hB;obtain⟨⟨hr,hf⟩,mi⟩:=hB;have wV:k∈Region.ready .any ops listed:=by simpa using hr
  have pV:=(mem_ready.1 wV).1;refine qek hle hone (A:=λk=>k∈ks) hH h0 yJ (Region.noSelect_spec hs) az bJ l.length listed a F pJ (Region.free_spec h0 hf) wV aJ hc lU eU ?_;obtain⟨hh,hok,hK⟩:=h;refine⟨hh,hok,λp dU=>?_⟩;refine qbH hle hone hH hs az bJ l _ _ _ (az _ _ pJ wV) (λx hx=>hl x (List.mem_cons_of_mem _ hx)) mi (jo aJ k o (hok.stable hH p)) dU (hok.void hone lU p) (λj hj W=>?_) (hK p dU);by_cases hjk:k=j;subst hjk;have hlt:k<listed.size:=by
   rcases Nat.lt_or_ge k listed.size with h'|h'
   exact h';simp[Array.getElem?_eq_none h']at pV
  simp[hlt]at hj;rw[getD_set_ne D hjk]at hj;have:=eU j hj W;unfold upd;rw[if_neg (λe=>hjk e.symm)];exact this
theorem qeo(hle:∀a b,R0.r a b->R.r a b){H:Nat->Option Qb}{i:Nat}{o:Oper}{a:Act}{F:qN}{K:Act->qN->Prop}{K':Act->J->Prop}{Q':Exit->Act->J->Prop}{W:J}{listed:Array Bool}(yL:listed.getD i D=U)(hi:ops[i]?=o)(hone:∀i h,H i=E h->i=c)(hH:∀i h,H i=E h->∀p,qS R0 (h.φ p))(aJ:∀k,qS R0 (F k))(lU:Void c listed F)(hW:R.r w0 W)(iV:listed.getD c D=U->R0.r w0 W)(hF:∀k,F k W)(hK:∀a' F' W',K a' F'->(∀k,qS R0 (F' k))->Void c (listed.setIfInBounds i D) F'->R.r w0 W'->((listed.setIfInBounds i D).getD c D=U->R0.r w0 W')->(∀k,F' k W')->K' a' W')(h:FOpC R0 R c P ops w0 H listed i o K a F):wpOp P ops Q' i K' a W:=by
 obtain⟨hh,hok,hn⟩:=h;have go:∀p W',(qbQ R0 R c i).r W W'->hh.φ p W'->K' (a.put o.dst (hh.f p)) W':=λp W' he0 hφ=>by
  have he:=qlr hle he0;have h0:(listed.setIfInBounds i D).getD c D=U->R0.r w0 W':=λh=>R0.trans (iV (unset h)) (stpC_0 yL he0 h);have nC:∀k,upd F i o (hh.φ p) k W':=λk=>by unfold upd;split;exact⟨hφ,λj _=>keepC yL aJ lU he0 j (hF j)⟩;exact keepC yL aJ lU he0 k (hF k)
  exact hK _ _ W' (hn p ⟨W',R.trans hW he,h0,nC⟩) (jo aJ i o (hok.stable hH p)) (hok.void hone lU p) (R.trans hW he) h0 nC
 have hWp:=qgn (c:=c) yL hW iV;unfold wpOp;simp only[hi];rcases hok with⟨x1,rfl⟩|⟨x1,x2,v,rfl,x3⟩|⟨x1,x2,x3⟩
 simp only[x1,Bool.false_eq_true,if_false];exact go () W (Rel.refl _ W) trivial;simp only[x1,if_true];obtain⟨w',hr,he⟩:=x3 W hWp λk _=>hF k;refine .inl ?_;unfold Oper.wp;rw[hr];exact go () w' he trivial;simp only[x1,if_true];have h3:=x3 W hWp λk _=>hF k;refine .inl ?_;unfold Qs at h3;unfold Oper.wp;generalize(execOp a.eval o).run P W=r at*;cases r with
 |ok n w'=>
  cases n<;>simp only[Zp]at h3<;>simp only[Oper.upon]
  case value u=>obtain⟨p,rfl,hp,he⟩:=h3;exact go p w' he hp
  case skip=>obtain⟨p,hu,hp,he⟩:=h3;rw[hu];exact go p w' he hp
  case enter f args=>obtain⟨he,az⟩:=h3;refine az.mono λe w'' ⟨p,he1,hp,iW⟩=>?_;subst he1;exact go p w'' (Rel.trans _ he iW) hp
 |halt x w'=>simp only[Zp]at h3
theorem TG(hle:∀a b,R0.r a b->R.r a b){H:Nat->Option Qb}(hone:∀i h,H i=E h->i=c)(hH:∀i h,H i=E h->∀p,qS R0 (h.φ p)){L:Array Bool}{t:Nat}{Q:Act->qN->Prop}{Q':Exit->Act->J->Prop}(hQ:∀a F W,Q a F->R.r w0 W->(∀k,F k W)->wpAny P .any ops Q' t L a W):∀(fuel:Nat)(listed:Array Bool)(a:Act)(F:qN)(W:J),(∀k,qS R0 (F k))->Void c listed F->R.r w0 W->(listed.getD c D=U->R0.r w0 W)->(∀k,F k W)->qag R0 R c P ops w0 H L Q fuel listed a F->wpAny P .any ops Q' (fuel+t) listed a W
 |0,listed,a,F,W,_,_,hW,_,hF,h=>by rw[h.1,Nat.zero_add];exact hQ a F W h.2 hW hF
 |fuel+1,listed,a,F,W,aJ,lU,hW,iV,hF,h=>by rw[show fuel+1+t=fuel+t+1 by omega];refine⟨λh0=>absurd h0 h.1,λi hi=>?_⟩;obtain⟨yL,o,ho,_⟩:=mem_ready.1 hi;exact qeo hle yL ho hone hH aJ lU hW iV hF (λa' F' W' hk eQ hvd' bZ hLN nC=>TG hle hone hH hQ fuel _ a' F' W' eQ hvd' bZ hLN nC hk) (h.2 i hi o ho)
theorem qev{l:List Oper}{Q:Exit->Act->J->Prop}{fuel:Nat}{listed:Array Bool}{a:Act}{w W:J}(R0 R:Rel)(c:Nat)(hle:∀a b,R0.r a b->R.r a b)(H:Nat->Option Qb)(M:List Bool)(t:Nat)(hs:Region.noSelect l.toArray=D)(ht:qfr l.toArray (QW l.length (l.length-t)) ((qv 0 l M).map (·.1))=D)(dX:YX l.toArray listed=D)(hB:Zu l.toArray (QW l.length (l.length-t)) ((qv 0 l M).map (·.1)) listed=D)(mD:qaa l.toArray t (l.length-t) (QW l.length (l.length-t))=D)(hfu:fuel=(qv 0 l M).length+t)(mO:(l.drop (l.length-t)).length=t)(hH:∀i h,H i=E h->∀p,qS R0 (h.φ p))(hone:∀i h,H i=E h->i=c)(hW:R0.r w W)(h:∀K:Act->qN->Prop,(∀a' F',(∀W,R.r w W->(∀k,F' k W)->wpList P l.toArray Q (l.drop (l.length-t)) a' W)->K a' F')->JX R0 R c P l.toArray w H K (qv 0 l M) listed a (λ_ _=>True)):wpAny P .any l.toArray Q fuel listed a W:=by
 have h:=h _ (λa' F' hh=>hh);subst hfu;have key:=qbH hle hone (w0:=w) hH hs (λ_ _ h=>h.step) (Xy ht) (qv 0 l M) listed a (λ_ _=>True) (vC dX) (λx hx=>by obtain⟨j,h1,h2⟩:=vK l M 0 x hx;refine⟨?_,List.mem_map.2 ⟨x,hx,rfl⟩⟩;rw[h1,Nat.zero_add];simpa using h2) hB (λ_ _ _ _ _=>trivial) ⟨W,hle _ _ hW,λ_=>hW,λ_=>trivial⟩ (λ_ _ _=>trivial) (λ_ _ _=>trivial) h;refine TG hle hone (w0:=w) hH (t:=t) (Q':=Q) (λa F W hq hW hF=>?_) _ _ _ _ W (λ_ _ _ _ _=>trivial) (λ_ _ _=>trivial) (hle _ _ hW) (λ_=>hW) (λ_=>trivial) key;have:=Kg (l.drop (l.length-t)) (l.length-t) _ a W (λj _=>by rw[List.getElem?_drop];simp) (by rw[mO];exact mD) (hq W hW hF)
 rwa [mO]at this
/-! ### the steps of the walk -/
section
variable {H:Nat->Option Qb} {Q:Act->qN->Prop} {k:Nat} {o:Oper} {rest:List (Nat×Oper)} {a:Act} {F:qN} {listed:Array Bool}
theorem qeE(h:Q a F):JX R0 R c P ops w0 H Q [] listed a F:=h
theorem qhF(v:X)(hw:Region.wanted o (yielded ops a.tmps)=D)(hH:H k=I)(hv:∀W,(preC R0 R c k).r w0 W->(∀j∈qO o,F j W)->Jw (qbQ R0 R c k) P o a W v)(h:JX R0 R c P ops w0 H Q rest (listed.setIfInBounds k D) (a.put o.dst v) (upd F k o λ_=>True)):JX R0 R c P ops w0 H Q ((k,o)::rest) listed a F:=
 ⟨one v,.inr (.inl ⟨hw,hH,v,rfl,hv⟩),λ_ _=>h⟩
theorem Jn(hle:∀a b,R0.r a b->R.r a b)(v:X)(hw:Region.wanted o (yielded ops a.tmps)=D)(hH:H k=I)(hv:∀W,R.r w0 W->(∀j∈qO o,F j W)->(execOp a.eval o).run P W=.ok (.value v) W)(h:JX R0 R c P ops w0 H Q rest (listed.setIfInBounds k D) (a.put o.dst v) (upd F k o λ_=>True)):JX R0 R c P ops w0 H Q ((k,o)::rest) listed a F:=
 qhF v hw hH (λW hW hF=>⟨W,hv W (by unfold preC at hW;split at hW;exact hle _ _ hW;exact hW) hF,Rel.refl _ W⟩) h
theorem Vi(hw:Region.wanted o (yielded ops a.tmps)=U)(h:JX R0 R c P ops w0 H Q rest (listed.setIfInBounds k D) (a.put o.dst undef) (upd F k o λ_=>True)):JX R0 R c P ops w0 H Q ((k,o)::rest) listed a F:=
 ⟨one undef,.inl ⟨hw,rfl⟩,λ_ _=>h⟩
theorem qcw(hh:Qb)(hw:Region.wanted o (yielded ops a.tmps)=D)(hH:H c=hh)(hv:∀W,R0.r w0 W->(∀j∈qO o,F j W)->Qs R P o a W hh)(h:∀p,JX R0 R c P ops w0 H Q rest (listed.setIfInBounds c D) (a.put o.dst (hh.f p)) (upd F c o (hh.φ p))):JX R0 R c P ops w0 H Q ((c,o)::rest) listed a F:=
 ⟨hh,.inr (.inr ⟨hw,hH,λW hW hF=>by unfold preC at hW;unfold qbQ;rw[if_pos rfl]at hW⊢;exact hv W hW hF⟩),λp _=>h p⟩
end
end
end
structure Gf(S:Sto):Prop where
 bs:S.bs.length<1000000
 ws:S.ws.length<1000000
 be:∀l∈S.bs,l.length<1000000
 we:∀p∈S.ws,p.2.length<1000000
 now:S.now.length<1000000
 last:S.last.length<1000000
end Go.Proofs.YtmeadnlmepcmbaaGreat
namespace Go.Proofs.YtmeadnlmepcmbaaGreat
open Go.RowKit Go.Deep
variable {ls bs:List (List UInt8)}{k hb g T lo BB WW lo' b1:Nat}{a W w w5 wr:World}{o:Obj}{c d c1:Array Value}{ws:List (Int×List UInt8)}
def InG(w:J)(g F:Nat)(v:X)(l:List UInt8):Prop:=∃o,v=s (E ⟨g,o,I⟩) l.length l.length/\o+l.length<=F/\∀j u,(l.map bv)[j]?=E u->w.cell? ⟨g,o+j,I⟩=E u
section
variable {w w':World} {g F:Nat} {v:Value} {l:List UInt8}
theorem InG.keep(h:InG w g F v l)(hk:w'.heap[g]?=w.heap[g]?):InG w' g F v l:=by obtain⟨o,e,h1,h2⟩:=h;exact⟨o,e,h1,λj u hu=>(World.cell?_of_block hk).trans (h2 j u hu)⟩
theorem InG.step{cur:Array X}{t:TypeId}{l':List UInt8}{o:Nat}(h:InG w g F v l)(hr:w.heap[g]?=E (O cur t))(iq:w'.heap[g]?=E (O (jH cur o l') t))(lF:o+l'.length<=cur.size)(ho:o=F\/l'.length=0):InG w' g (F+l'.length) v l:=by
 obtain⟨o1,e,h1,h2⟩:=h;refine⟨o1,e,zO,λj u hu=>?_⟩;have hj:j<l.length:=by have:=(List.getElem?_eq_some_iff.1 hu).1;simpa using this
 have:=h2 j u hu;rw[qa hr]at this;rw[qa iq,qjJ lF (by rcases ho with ho|ho<;>omega)];exact this
theorem InG.new{cur:Array X}{t:TypeId}{o:Nat}(hr:w'.heap[g]?=E (O (jH cur o l) t))(lF:o+l.length<=cur.size)(ho:o<=F):InG w' g (F+l.length) (s (g,o) l.length l.length) l:=
 ⟨o,rfl,zO,λj u hu=>by rw[qa hr];exact qjI lF hu⟩
theorem InG.bys{B:Nat}(h:InG w g F v l)(hg:g<B)(hl:l.length<=maxLen):Bys w B v l:=by obtain⟨o,e,h1,h2⟩:=h;exact⟨_,_,e,zM _,hl,zA3,λ_=>⟨g,o,rfl,hg,h2⟩⟩
theorem InG.cells{W2:J}(h:InG w g F v l)(hk:∀j,W2.cell? ⟨g,j,I⟩=w.cell? ⟨g,j,I⟩):InG W2 g F v l:=by obtain⟨o,e,h1,h2⟩:=h;exact⟨o,e,h1,λj u hu=>(hk _).trans (h2 j u hu)⟩
end
def vT(ls:List (List UInt8)):Nat:=(ls.map List.length).sum
theorem Uc(h:k<ls.length):vT (ls.take (k+1))=vT (ls.take k)+ls[k].length:=by unfold vT;rw[List.take_succ_eq_append_getElem h,List.map_append,List.sum_append];simp
theorem qkt(ls:List (List UInt8))(k:Nat):vT (ls.take k)+vT (ls.drop k)=vT ls:=by unfold vT;rw[<-List.sum_append,<-List.map_append,List.take_append_drop]
theorem qlv(h:∀l∈ls,l.length<1000000):vT ls<=ls.length*1000000:=by
 induction ls with
 |nil=>simp[vT]
 |cons l r ih=>
  have h1:=ih λx hx=>h x (List.mem_cons_of_mem _ hx);have h2:=h l List.mem_cons_self;simp only[vT,List.map_cons,List.sum_cons,List.length_cons]at h1⊢;omega
theorem kM(ls:List (List UInt8))(k:Nat):vT (ls.take k)<=vT ls:=by have:=qkt ls k;omega
def UI(hb g:Nat):Rel where
 rel W W':=W'.os=W.os/\W'.tape=W.tape/\W'.output=W.output/\W.heap.size<=W'/\∀b,b<W.heap.size->b≠hb->b≠g->W'.heap[b]?=W.heap[b]?
 refl' w:=⟨rfl,rfl,rfl,zM _,λ_ _ _ _=>rfl⟩
 trans' h k:=⟨k.1.trans h.1,k.2.1.trans h.2.1,k.2.2.1.trans h.2.2.1,Nat.le_trans h.2.2.2.1 k.2.2.2.1,λb hb h1 h2=>(k.2.2.2.2 b (Nat.lt_of_lt_of_le hb h.2.2.2.1) h1 h2).trans (h.2.2.2.2 b hb h1 h2)⟩
 drew' w:=⟨rfl,rfl,rfl,zM _,λ_ _ _ _=>rfl⟩
theorem qkH:∀a b,qm.r a b->(UI hb g).r a b:=λa b h=>by have h:Ext a b:=h;exact⟨h.os,h.tape,h.output,h.size,λk hk _ _=>h.block k hk⟩
theorem KH{hb g b:Nat}(h:(UI hb g).r a W)(h1:b≠hb)(h2:b≠g)(hc:a.heap[b]?=o):W.heap[b]?=o:=
 (h.2.2.2.2 b (zG.1 hc).1 h1 h2).trans hc
theorem qM{a b:Nat}{t u:TypeId}(h:w.heap[a]?=E (O c t))(k:w.heap[b]?=E (O d u))(hn:t≠u):a≠b:=λe=>by subst e;rw[h]at k;cases k;exact hn rfl
structure TwS(bs:List (List UInt8))(ws:List (Int×List UInt8))(T lo:Nat)(w5:J)(hb g BB WW ob kb kw F:Nat)(wr:J):Prop where
 below:Below lo w5 wr
 los:lo<=hb/\lo<=g/\lo<=BB/\lo<=WW/\lo<=ob
 out:wr.heap[ob]?=E (O #[s BB bs.length bs.length,s WW ws.length (ws.length+1)] 25)
 heap:∃o n cur,qer hb g o n cur wr/\o<=F/\(0<n->o=F)/\F+n=T/\cur.size=T
 bb:∃cs,wr.heap[BB]?=E (O cs 26)/\cs.size=bs.length/\∀i l,bs[i]?=E l->i<kb->∃v,cs[i]?=E v/\InG wr g F v l
 ww:∃cs,wr.heap[WW]?=E (O cs 142)/\cs.size=(ws.length+1)*2/\∀i p,ws[i]?=E p->i<kw->∃v,cs[i*2]?=E (Z Y p.1)/\cs[i*2+1]?=E v/\InG wr g F v p.2
section
variable {bs:List (List UInt8)} {ws:List (Int×List UInt8)} {T lo:Nat} {w5:World} {hb g BB WW ob kb kw F:Nat} {wr W:World}
theorem TwS.ext(h:TwS bs ws T lo w5 hb g BB WW ob kb kw F wr)(hx:Ext wr W)(hl:lo<=wr):TwS bs ws T lo w5 hb g BB WW ob kb kw F W:=by
 obtain⟨o,n,cur,⟨H1,H2,H3,H4,H5⟩,h2⟩:=h.heap;obtain⟨cb,bg,bP,dC⟩:=h.bb;obtain⟨cw,aA,cO,aP⟩:=h.ww;have hg:W.heap[g]?=wr.heap[g]?:=hx.block g (zG.1 H2).1;exact⟨h.below.trans (Below.mono hx hl),h.los,qb h.out hx,⟨o,n,cur,⟨qb H1 hx,qb H2 hx,H3,H4,H5⟩,h2⟩,
  ⟨cb,qb bg hx,bP,λi l hi hk=>(dC i l hi hk).imp λv hv=>⟨hv.1,hv.2.keep hg⟩⟩,⟨cw,qb aA hx,cO,λi p hi hk=>(aP i p hi hk).imp λv hv=>⟨hv.1,hv.2.1,hv.2.2.keep hg⟩⟩⟩
theorem TwS.clone(h:TwS bs ws T lo w5 hb g BB WW ob kb kw F wr){o n o':Nat}{cur:Array X}{l:List UInt8}(hH:qer hb g o n cur wr)(hl:l.length<=n)(hr:(UI hb g).r wr W)(h1:0<n-l.length->o'=o+l.length)(h2:n-l.length=0->o'=o)(hH':qer hb g o' (n-l.length) (jH cur o l) W):TwS bs ws T lo w5 hb g BB WW ob kb kw (F+l.length) W/\InG W g (F+l.length) (s (g,o) l.length l.length) l:=by
 obtain⟨o2,n2,cur2,H2,k1,k2,k3,k4⟩:=h.heap;have e1:=H2.box;rw[hH.box]at e1;simp only[Option.some.injEq,Obj.cells.injEq,Array.mk.injEq,List.cons.injEq,Value.slice.injEq,Addr.mk.injEq,and_true,true_and]at e1;obtain⟨rfl,rfl,_⟩:=e1;have e2:=H2.row;rw[hH.row]at e2;simp only[Option.some.injEq,Obj.cells.injEq,and_true]at e2;subst e2;have lF:o+l.length<=cur.size:=by have:=hH.fit;omega
 have ho:o=F\/l.length=0:=by
  rcases Nat.eq_zero_or_pos n with h0|h0
  exact .inr zO;exact .inl (k2 h0)
 have hr0:=hH.row;have oP:=hH'.row;obtain⟨cb,bg,bP,dC⟩:=h.bb;obtain⟨cw,aA,cO,aP⟩:=h.ww;have n1:BB≠hb:=qM bg hH.box zA1;have n2:BB≠g:=qM bg hr0 zA1;have n3:WW≠hb:=qM aA hH.box zA1;have n4:WW≠g:=qM aA hr0 zA1;have n5:ob≠hb:=qM h.out hH.box zA1;have n6:ob≠g:=qM h.out hr0 zA1;obtain⟨l1,l2,l3,l4,l5⟩:=h.los;have hlt:=(zG.1 hr0).1;refine⟨⟨⟨hr.1.trans h.below.os,hr.2.1.trans h.below.tape,hr.2.2.1.trans h.below.output,Nat.le_trans h.below.size hr.2.2.2.1,λb hb=>(hr.2.2.2.2 b zO zO zO).trans (h.below.block b hb)⟩,h.los,KH hr n5 n6 h.out,⟨o',n-l.length,_,hH',?_,?_,zO,?_⟩,
  ⟨cb,KH hr n1 n2 bg,bP,λi l' hi hk=>(dC i l' hi hk).imp λv hv=>⟨hv.1,hv.2.step hr0 oP lF ho⟩⟩,⟨cw,KH hr n3 n4 aA,cO,λi p hi hk=>(aP i p hi hk).imp λv hv=>⟨hv.1,hv.2.1,hv.2.2.step hr0 oP lF ho⟩⟩⟩,InG.new oP lF k1⟩
 rcases Nat.eq_zero_or_pos (n-l.length)with h0|h0
 rw[h2 h0];omega;rw[h1 h0];omega;intro h0;rw[h1 h0,k2 zO];rw[qbm lF];exact k4
theorem TwS.setB(h:TwS bs ws T lo w5 hb g BB WW ob kb kw F wr){v:X}{l:List UInt8}(hk:bs[kb]?=l)(hv:InG wr g F v l):TwS bs ws T lo w5 hb g BB WW ob (kb+1) kw F (wr.setCell (BB,kb) v):=by
 obtain⟨o,n,cur,⟨H1,H2,H3,H4,H5⟩,h2⟩:=h.heap;obtain⟨cb,bg,bP,dC⟩:=h.bb;obtain⟨cw,aA,cO,aP⟩:=h.ww;have n1:hb≠BB:=qM H1 bg zA1;have n2:g≠BB:=qM H2 bg zA1;have n3:WW≠BB:=qM aA bg zA1;have n5:ob≠BB:=qM h.out bg zA1;have hg:=zJ wr ⟨BB,kb,I⟩ v g n2;have hlt:=(List.getElem?_eq_some_iff.1 hk).1;refine⟨Below.setCell h.below (p:=⟨BB,kb,I⟩) h.los.2.2.1 _,h.los,(zJ _ _ _ _ n5).trans h.out,⟨o,n,cur,⟨(zJ _ _ _ _ n1).trans H1,(zJ _ _ _ _ n2).trans H2,H3,H4,H5⟩,h2⟩,
  ⟨_,qi bg kb v,by simpa using bP,λi l' hi eX=>?_⟩,⟨cw,(zJ _ _ _ _ n3).trans aA,cO,λi p hi hk=>(aP i p hi hk).imp λv hv=>⟨hv.1,hv.2.1,hv.2.2.keep hg⟩⟩⟩
 rw[Array.getElem?_setIfInBounds];by_cases e:kb=i;subst e;rw[hk]at hi;cases hi;rw[if_pos rfl,if_pos zO];exact⟨v,rfl,hv.keep hg⟩;rw[if_neg e];exact(dC i l' hi zO).imp λu hu=>⟨hu.1,hu.2.keep hg⟩
theorem TwS.setW(h:TwS bs ws T lo w5 hb g BB WW ob kb kw F wr){v:X}{p:Int×List UInt8}(hk:ws[kw]?=p)(hv:InG wr g F v p.2):TwS bs ws T lo w5 hb g BB WW ob kb (kw+1) F ((wr.setCell (WW,kw*2) (Z Y p.1)).setCell (WW,kw*2+1) v):=by
 obtain⟨o,n,cur,⟨H1,H2,H3,H4,H5⟩,h2⟩:=h.heap;obtain⟨cb,bg,bP,dC⟩:=h.bb;obtain⟨cw,aA,cO,aP⟩:=h.ww;have n1:hb≠WW:=qM H1 aA zA1;have n2:g≠WW:=qM H2 aA zA1;have n3:BB≠WW:=qM bg aA zA1;have n5:ob≠WW:=qM h.out aA zA1;have st:∀b,b≠WW->((wr.setCell (WW,kw*2) (Z Y p.1)).setCell (WW,kw*2+1) v).heap[b]?=wr.heap[b]?:=λb hb=>(zJ _ _ _ _ hb).trans (zJ _ _ _ _ hb);have hlt:=(List.getElem?_eq_some_iff.1 hk).1;refine⟨Below.setCell (Below.setCell h.below (p:=⟨WW,kw*2,I⟩) h.los.2.2.2.1 _) (p:=⟨WW,kw*2+1,I⟩) h.los.2.2.2.1 _,h.los,(st _ n5).trans h.out,⟨o,n,cur,⟨(st _ n1).trans H1,(st _ n2).trans H2,H3,H4,H5⟩,h2⟩,
  ⟨cb,(st _ n3).trans bg,bP,λi l' hi eX=>(dC i l' hi eX).imp λu hu=>⟨hu.1,hu.2.keep (st _ n2)⟩⟩,⟨_,qi (qi aA (kw*2) _) (kw*2+1) _,by simpa using cO,λi q hi eX=>?_⟩⟩
 by_cases e:kw=i;subst e;rw[hk]at hi;cases hi;refine⟨v,?_,?_,hv.keep (st _ n2)⟩;rw[Array.getElem?_setIfInBounds,if_neg zO,Array.getElem?_setIfInBounds,if_pos rfl,if_pos zO];rw[Array.getElem?_setIfInBounds,if_pos rfl,if_pos zA2];refine(aP i q hi zO).imp λu hu=>⟨?_,?_,hu.2.2.keep (st _ n2)⟩
 rw[Array.getElem?_setIfInBounds,if_neg zO,Array.getElem?_setIfInBounds,if_neg zO];exact hu.1;rw[Array.getElem?_setIfInBounds,if_neg zO,Array.getElem?_setIfInBounds,if_neg zO];exact hu.2.1
end
structure vq(lo:Nat)(bs:List (List UInt8))(ws:List (Int×List UInt8))(BB WW g:Nat)(W:J):Prop where
 los:lo<=BB/\lo<=WW/\lo<=g/\g<W/\BB≠WW/\BB≠g/\WW≠g
 bb:∃cs,W.heap[BB]?=E (O cs 26)/\cs.size=bs.length/\∀(i:Nat)(l:List UInt8),bs[i]?=l->∃v F,cs[i]?=E v/\InG W g F v l
 ww:∃cs,W.heap[WW]?=E (O cs 142)/\cs.size=(ws.length+1)*2/\∀(i:Nat)(p:Int×List UInt8),ws[i]?=p->∃v F,cs[i*2]?=E (Z Y p.1)/\cs[i*2+1]?=E v/\InG W g F v p.2
 gg:∃cs,W.heap[g]?=E (O cs 5)
theorem TwS.done{ob F:Nat}(h:TwS bs ws T lo w5 hb g BB WW ob bs.length ws.length F wr):vq lo bs ws BB WW g wr:=by obtain⟨o,n,cur,⟨H1,H2,H3,H4,H5⟩,h2⟩:=h.heap;obtain⟨cb,bg,bP,dC⟩:=h.bb;obtain⟨cw,aA,cO,aP⟩:=h.ww;refine⟨⟨h.los.2.2.1,h.los.2.2.2.1,h.los.2.1,(zG.1 H2).1,qM bg aA zA1,qM bg H2 zA1,qM aA H2 zA1⟩,⟨cb,bg,bP,λi l hi=>?_⟩,⟨cw,aA,cO,λi p hi=>?_⟩,⟨_,H2⟩⟩;obtain⟨v,h1,h2⟩:=dC i l hi (List.getElem?_eq_some_iff.1 hi).1;exact⟨v,F,h1,h2⟩;obtain⟨v,h1,h2⟩:=aP i p hi (List.getElem?_eq_some_iff.1 hi).1;exact⟨v,F,h1,h2⟩
theorem vq.keep{W W2:J}(h:vq lo bs ws BB WW g W)(hl:lo'<=lo)(hs:W.heap.size<=W2)(hk:∀b,lo<=b->b<W.heap.size->W2.heap[b]?=W.heap[b]?):vq lo' bs ws BB WW g W2:=by
 obtain⟨cb,bg,bP,dC⟩:=h.bb;obtain⟨cw,aA,cO,aP⟩:=h.ww;obtain⟨l1,l2,l3,l4,l5⟩:=h.los;have hg:=hk g l3 l4;exact⟨⟨zO,zO,zO,zO,l5⟩,⟨cb,(hk BB l1 (zG.1 bg).1).trans bg,bP,λi l hi=>by
  obtain⟨v,F,h1,h2⟩:=dC i l hi;exact⟨v,F,h1,h2.keep hg⟩⟩,⟨cw,(hk WW l2 (zG.1 aA).1).trans aA,cO,λi p hi=>by
  obtain⟨v,F,h1,h2,h3⟩:=aP i p hi;exact⟨v,F,h1,h2,h3.keep hg⟩⟩,h.gg.imp λcs h=>hg.trans h⟩
theorem vq.keepT{W W2:J}(h:vq lo bs ws BB WW g W)(hl:lo'<=lo)(hs:W.heap.size<=W2){t1:TypeId}(h1:W.heap[b1]?=E (O c1 t1))(ht:t1≠26/\t1≠142/\t1≠5)(hk:∀b,lo<=b->b<W.heap.size->b≠b1->W2.heap[b]?=W.heap[b]?):vq lo' bs ws BB WW g W2:=by
 obtain⟨cb,bg,bP,dC⟩:=h.bb;obtain⟨cw,aA,cO,aP⟩:=h.ww;obtain⟨cg,hg1⟩:=h.gg;obtain⟨l1,l2,l3,l4,l5⟩:=h.los;have hg:=hk g l3 l4 (qM hg1 h1 λe=>ht.2.2 e.symm);exact⟨⟨zO,zO,zO,zO,l5⟩,⟨cb,(hk BB l1 (zG.1 bg).1 (qM bg h1 λe=>ht.1 e.symm)).trans bg,bP,λi l hi=>by
  obtain⟨v,F,h1,h2⟩:=dC i l hi;exact⟨v,F,h1,h2.keep hg⟩⟩,⟨cw,(hk WW l2 (zG.1 aA).1 (qM aA h1 λe=>ht.2.1 e.symm)).trans aA,cO,λi p hi=>by
  obtain⟨v,F,h1,h2,h3⟩:=aP i p hi;exact⟨v,F,h1,h2,h3.keep hg⟩⟩,cg,hg.trans hg1⟩
theorem vq.readsB(h:vq lo bs ws BB WW g W)(h1:bs.length<1000000)(h2:ws.length<1000000)(h3:∀l∈bs,l.length<1000000)(h4:∀p∈ws,p.2.length<1000000)(W2:J)(hB:∀j,W2.cell? ⟨BB,j,I⟩=W.cell? ⟨BB,j,I⟩)(hWW:∀j,W2.cell? ⟨WW,j,I⟩=W.cell? ⟨WW,j,I⟩)(hg:∀j,W2.cell? ⟨g,j,I⟩=W.cell? ⟨g,j,I⟩):Bls W2 W (s BB bs.length bs.length) bs/\Wrs W2 W (s WW ws.length (ws.length+1)) ws:=by
 obtain⟨cb,bg,bP,dC⟩:=h.bb;obtain⟨cw,aA,cO,aP⟩:=h.ww;obtain⟨l1,l2,l3,l4,l5⟩:=h.los;have z1:=(zG.1 bg).1;have z2:=(zG.1 aA).1;have hm:∀n,n<1000001->n<=maxLen:=λn hn=>zA7;refine⟨⟨cb.toList,_,_,rfl,zM _,hm _ zO,⟨by simp[bP],λ_=>⟨BB,0,rfl,z1,λj u hu=>?_⟩⟩,λi u l hu hl=>?_⟩,?_⟩;rw[Nat.zero_add,hB j,qa bg];simpa using hu;obtain⟨v,F,e1,e2⟩:=dC i l hl;have:cb.toList[i]?=cb[i]?:=zA3;rw[this,e1]at hu;cases hu;exact(e2.cells hg).bys l4 (hm _ (by have:=h3 l (List.mem_of_getElem? hl);omega));have hq:∀i,i<ws.length->∃q:(Int×List UInt8)×X,ws[i]?=E q.1/\(∃A c,q.2=s A q.1.2.length c)/\Bys W2 W q.2 q.1.2/\cw[i*2]?=E (Z Y q.1.1)/\cw[i*2+1]?=E q.2:=λi hi=>by obtain⟨v,F,e1,e2,e3⟩:=aP i ws[i] (zL hi);have hb:=(e3.cells hg).bys l4 (hm _ (by have:=h4 ws[i] (List.getElem_mem hi);omega));obtain⟨o,ev,_⟩:=e3;exact⟨(ws[i],v),zL hi,⟨_,_,ev⟩,hb,e1,e2⟩
 obtain⟨Q,hQ⟩:=choose_lt (α:=(Int×List UInt8)×X) (p:=λi q=>ws[i]?=E q.1/\(∃A c,q.2=s A q.1.2.length c)/\Bys W2 W.heap.size q.2 q.1.2/\cw[i*2]?=E (Z Y q.1.1)/\cw[i*2+1]?=E q.2) hq;refine⟨(List.range ws.length).map Q,?_,⟨E ⟨WW,0,I⟩,ws.length+1,rfl,zO,hm _ zO,⟨by rw[YV];simp,λ_=>⟨WW,0,rfl,z2,λj u hu=>?_⟩⟩⟩,λq sG=>?_⟩;apply List.ext_getElem?;intro i;rw[List.map_map,List.getElem?_map];rcases Nat.lt_or_ge i ws.length with hi|hi
 rw[List.getElem?_range hi,(hQ i hi).1];rfl;rw[List.getElem?_eq_none (by simpa using hi),List.getElem?_eq_none hi];rfl;rw[Nat.zero_add,hWW j,qa aA];have hj:j<ws.length*2:=by have:=(List.getElem?_eq_some_iff.1 hu).1;rw[YV]at this;simpa using this
 obtain⟨c0,c1⟩:=Yt ((List.range ws.length).map Q) (j/2) zA2;obtain⟨_,_,_,q0,q1⟩:=hQ (j/2) zO;rcases(show j=j/2*2\/j=j/2*2+1 by omega)with e|e
 have hu':E u=E _:=(hu.symm.trans (congrArg (λt=>(jF ((List.range ws.length).map Q))[t]?) e)).trans c0;cases hu';rw[show cw[j]?=cw[j/2*2]? from congrArg (λt=>cw[t]?) e,q0];simp;have hu':E u=E _:=(hu.symm.trans (congrArg (λt=>(jF ((List.range ws.length).map Q))[t]?) e)).trans c1;cases hu';rw[show cw[j]?=cw[j/2*2+1]? from congrArg (λt=>cw[t]?) e,q1];simp;obtain⟨i,hi,rfl⟩:=List.mem_map.1 sG;obtain⟨_,q1,q2,_⟩:=hQ i (List.mem_range.1 hi);exact⟨q1,q2⟩
theorem vq.reads(h:vq lo bs ws BB WW g W)(h1:bs.length<1000000)(h2:ws.length<1000000)(h3:∀l∈bs,l.length<1000000)(h4:∀p∈ws,p.2.length<1000000)(W2:J)(hk:∀q:Addr,lo<=q.block->q.block<W->W2.cell? q=W.cell? q):Bls W2 W (s BB bs.length bs.length) bs/\Wrs W2 W (s WW ws.length (ws.length+1)) ws:=by obtain⟨cb,bg,-⟩:=h.bb;obtain⟨cw,aA,-⟩:=h.ww;obtain⟨l1,l2,l3,l4,-⟩:=h.los;exact h.readsB h1 h2 h3 h4 W2 (λj=>hk ⟨BB,j,I⟩ l1 (zG.1 bg).1) (λj=>hk ⟨WW,j,I⟩ l2 (zG.1 aA).1) λj=>hk ⟨g,j,I⟩ l3 l4
theorem vq.readsT(h:vq lo bs ws BB WW g W)(h1:bs.length<1000000)(h2:ws.length<1000000)(h3:∀l∈bs,l.length<1000000)(h4:∀p∈ws,p.2.length<1000000)(W2:J)(hk:∀q:Addr,lo<=q.block->q.block<W->W2.cell? q=(thaw W).cell? q):Bls W2 W (s BB bs.length bs.length) bs/\Wrs W2 W (s WW ws.length (ws.length+1)) ws:=by obtain⟨cb,bg,-⟩:=h.bb;obtain⟨cw,aA,-⟩:=h.ww;obtain⟨cg,hg1⟩:=h.gg;obtain⟨l1,l2,l3,l4,-⟩:=h.los;exact h.readsB h1 h2 h3 h4 W2 (λj=>(hk ⟨BB,j,I⟩ l1 (zG.1 bg).1).trans (YN bg j)) (λj=>(hk ⟨WW,j,I⟩ l2 (zG.1 aA).1).trans (YN aA j)) λj=>(hk ⟨g,j,I⟩ l3 l4).trans (YN hg1 j)
end Go.Proofs.YtmeadnlmepcmbaaGreat
namespace Go.Proofs.YtmeadnlmepcmbaaGreat
open Go.RowKit
variable {T n c:Nat}{hh:Qb}
def qbw(lo n c:Nat)(ty:TypeId)(cs:Array X):Qb:=⟨Nat,λb=>s b n c,λb W=>W.heap[b]?=E (O cs ty)/\lo<=b⟩
theorem Zf(lo n c:Nat)(ty:TypeId)(cs:Array X)(b:Nat):(qbw lo n c ty cs).f b=s b n c:=rfl
theorem Xr(lo n c:Nat)(ty:TypeId)(cs:Array X):∀p,qS qm ((qbw lo n c ty cs).φ p):=λp W W' he h=>⟨qb h.1 he,h.2⟩
def qbv(hb g o n:Nat)(cur:Array X)(l:List UInt8):Qb:=⟨Nat,λ_=>s (g,o) l.length l.length,λo' W=>(0<n-l.length->o'=o+l.length)/\(n-l.length=0->o'=o)/\qer hb g o' (n-l.length) (jH cur o l) W⟩
theorem jl(hb g o n:Nat)(cur:Array X)(l:List UInt8)(p:Nat):(qbv hb g o n cur l).f p=s (g,o) l.length l.length:=rfl
theorem GK(hb g o n:Nat)(cur:Array X)(l:List UInt8):∀p,qS qm ((qbv hb g o n cur l).φ p):=λp W W' he ⟨h1,h2,h3⟩=>⟨h1,h2,⟨qb h3.box he,qb h3.row he,h3.ne,h3.fit,h3.few⟩⟩
theorem qkl(hT:T<=281474976710656)(w:J):(Instr.makeSlice 273 (T:Int) (Z Y (T:Int))).run prog w=.ok (s w T T) (w.alloc (O (madeCells #[Z .u8 0] T) 5)):=by obtain⟨i0,hi,aZ,aT,aX⟩:=info_parts Tryz.info_u8;have h:=run_make (P:=prog) w 273 5 i0 _ underlying273 hi aZ Y Y (T:Int) (T:Int) zO zO (by rw[aX];omega) zO;rw[aT,Int.toNat_natCast,Nat.mul_one]at h;exact h
theorem GY(hn:n<1000000)(w:J):(Instr.makeSlice 22 (n:Int) (Z Y (n:Int))).run prog w=.ok (s w n n) (w.alloc (O (madeCells #[s I 0 0] n) 26)):=by obtain⟨i0,hi,aZ,aT,aX⟩:=info_parts Tryz.info_bytes;have h:=run_make (P:=prog) w 22 26 i0 _ underlying22 hi aZ Y Y (n:Int) (n:Int) zO zO (by rw[aX];omega) zO;rw[aT,Int.toNat_natCast,Nat.mul_one]at h;exact h
theorem qgx(hn:n<1000000)(w:J):(Instr.makeSlice 23 (n:Int) (Z Y ((n:Int)+1))).run prog w=.ok (s w n (n+1)) (w.alloc (O (madeCells #[Z Y 0,s I 0 0] ((n+1)*2)) 142)):=by obtain⟨i0,hi,aZ,aT,aX⟩:=info_parts Tryz.info_write;have h:=run_make (P:=prog) w 23 142 i0 _ underlying23 hi aZ Y Y (n:Int) ((n:Int)+1) zO zO (by rw[aX];omega) zO;rw[aT,Int.toNat_natCast,show((n:Int)+1).toNat=n+1 by omega]at h;exact h
structure TwI(bs:List (List UInt8))(ws:List (Int×List UInt8))(T lo:Nat)(w5:J)(hb g BB WW ob:Nat)(i:X)(wr:J):Prop where
 ex:∃k:Nat,k<=bs.length/\i=Z Y (k:Int)/\TwS bs ws T lo w5 hb g BB WW ob k 0 (vT (bs.take k)) wr
structure TwJ(bs:List (List UInt8))(ws:List (Int×List UInt8))(T lo:Nat)(w5:J)(hb g BB WW ob:Nat)(i:X)(wr:J):Prop where
 ex:∃k:Nat,k<=ws.length/\i=Z Y (k:Int)/\TwS bs ws T lo w5 hb g BB WW ob bs.length k (vT bs+vT ((ws.take k).map (·.2))) wr
theorem one_at:∀i h,qP [(c,hh)] i=E h->i=c:=by intro i h e;simp only[qP]at e;split at e;assumption;cases e
set_option maxRecDepth 100000 in
theorem qlN(A1 n1 c1 A2 n2 c2)(bs:List (List UInt8))(ws:List (Int×List UInt8))(cZ:bs.length<1000000)(ig:ws.length<1000000)(hbe:∀l∈bs,l.length<1000000)(hwe:∀p∈ws,p.2.length<1000000)(w:J)(hb:Bls w w (s A1 n1 c1) bs)(hw:Wrs w w (s A2 n2 c2) ws):Calls prog 188 #[XV A1 n1 c1 A2 n2 c2] w (λe W=>∃BB WW g,e=.returned (XV (E ⟨BB,0,I⟩) bs.length bs.length (E ⟨WW,0,I⟩) ws.length (ws.length+1))/\vq w bs ws BB WW g W/\Below w w W):=by
 obtain⟨e1,dP,hm1,hA1⟩:=hb.at_;obtain⟨e2,au,iR,hA2⟩:=hw.at_;subst e1;subst e2;have HB:=zH hb;have HW:=zH hw;have hTb:vT bs<=1000000000000:=Nat.le_trans (qlv hbe) zO;have hTw:vT (ws.map (·.2))<=1000000000000:=Nat.le_trans (qlv (λl hl=>by obtain⟨p,hp,rfl⟩:=List.mem_map.1 hl;exact hwe p hp)) (by rw[List.length_map];omega);clear hb hw hm1 iR;go_enter func188,ntmps188;go_wp2_with fail;generalize aA:(Jx (Jx _ _) _)=w1;have x1:Ext w w1:=by rw[<-aA];exact(zN _ _).trans (zN _ _)
 have r1:w1.heap[w.heap.size]?=E (O #[s A1 bs.length c1,s A2 ws.length c2] 25 (0,0)):=by rw[<-aA];exact(zK _ _ _ zA3).trans (zI _ _ _ rfl)
 have q1:w1.heap[w.heap.size+1]?=E (O #[s I 0 0,s I 0 0] 25 (0,0)):=aA▸zI _ _ _ zA3;clear aA;go_wp2_with fail;go_loopw [3,17] (λall i wr=>∃k:Nat,k<=bs.length/\i=Z Y (k:Int)/\all=Z Y ((vT (bs.take k):Nat):Int)/\Ext w1 wr) (λ_ i _=>bs.length-(intOf i).toNat)
 case atStart=>exact⟨0,Nat.zero_le _,rfl,rfl,Ext.refl _⟩
 case round=>
  obtain⟨k,hk,rfl,rfl,hE⟩:=hrel;have xw:Below w w wr:=Ext.trans x1 hE;have rr:=qb r1 hE;have kr:=qa rr;by_cases hlt:k<bs.length
  ·obtain⟨b1,o1,rfl,bg⟩:=hA1 zO;obtain⟨A',c',hc,_⟩:=(HB.out.below xw).get k hlt;have mF:=Uc hlt;have hle:=kM bs (k+1);generalize bs[k].length=m at*;generalize vT (bs.take k)=q at*;go_wp2_with fail;refine⟨⟨k+1,zO,by push_cast;rfl,by rw[mF];push_cast;rfl,hE⟩,?_⟩;simp[intOf];omega
  obtain rfl:k=bs.length:=zO;rw[List.take_length];generalize hwm:wr=wm at*;clear hwm kr rr;have r2:=qb r1 hE;have q2:=qb q1 hE;have k2:=qa r2;obtain⟨tb,htb⟩:∃tb,tb=vT bs:=⟨_,rfl⟩
  obtain⟨tw,htw⟩:∃tw,tw=vT (ws.map (·.2)):=⟨_,rfl⟩
  rw[<-htb]at hTb⊢;rw[<-htw]at hTw;replace⟨htb,htw⟩:=zH2 htb htw;go_wp2_with fail;go_loopw [3,29] (λall i wr=>∃k:Nat,k<=ws.length/\i=Z Y (k:Int)/\all=Z Y ((tb+vT ((ws.take k).map (·.2)):Nat):Int)/\Ext wm wr) (λ_ i _=>ws.length-(intOf i).toNat)
  case atStart=>exact⟨0,Nat.zero_le _,rfl,rfl,Ext.refl _⟩
  case round=>
   obtain⟨k,hk,rfl,rfl,mr⟩:=hrel;have xw2:Below w w wr:=Ext.trans xw mr;have rr:=qb r2 mr;have kr:=qa rr;clear k2;by_cases hlt:k<ws.length
   ·obtain⟨b2,o2,rfl,bP⟩:=hA2 zO;obtain⟨A',c',ha,hc,_⟩:=(HW.out.below xw2).get k hlt;have mF:vT ((ws.take (k+1)).map (·.2))=vT ((ws.take k).map (·.2))+ws[k].2.length:=by rw[List.map_take,List.map_take,Uc (by rw[List.length_map];exact hlt),List.getElem_map]
    have hle:vT ((ws.take (k+1)).map (·.2))<=tw:=by rw[htw.out,List.map_take];exact kM _ _
    generalize ws[k].2.length=m at*;generalize ws[k].1=pn at*;generalize vT ((ws.take k).map (·.2))=q at*;go_wp2_with fail;refine⟨⟨k+1,zO,by push_cast;rfl,by rw[mF];push_cast;rw[Int.add_assoc],mr.trans (zN _ _)⟩,?_⟩;simp[intOf];omega
   obtain rfl:k=ws.length:=zO;rw[List.take_length,<-htw.out];have hmk:=qkl (T:=tb+tw) zO;obtain⟨T,hT⟩:∃T,T=tb+tw:=⟨_,rfl⟩
   rw[<-hT]at hmk⊢;have hT2:T<=2000000000000:=zO;replace hT:=zH hT;go_wp2_with fail;generalize hwn:Jx (Jx _ _) _=wn;have x3:Ext wr wn:=by rw[<-hwn];exact(zN _ _).trans (zN _ _)
   have g3:wn.heap[wr.heap.size]?=E (O (madeCells #[Z .u8 0] T) 5 (0,0)):=by rw[<-hwn];exact(zK _ _ _ zA3).trans (zI _ _ _ rfl)
   have b3:wn.heap[wr.heap.size+1]?=E (O #[s wr T T] 273 (0,0)):=hwn▸zI _ _ _ zA3;have zn0:wn.heap.size=wr.heap.size+2:=by rw[<-hwn];simp
   clear hwn hmk;have r3:=qb rr x3;have q3:=qb (qb q2 mr) x3;have xw3:Ext w wn:=Ext.trans xw2 x3;have k3:=qa r3;have zr:=(zG.1 q2).1;have zr2:=mr.size;have zn:wn.heap.size=wr.heap.size+2:=zn0;clear kr rr r2 q2 r1 q1 x1 hE mr xw xw2;generalize wr.heap.size=s0 at g3 b3 zn zr2⊢;have zs0:w.heap.size+1<s0:=zO;clear zr zr2 zn0;have g1:∀W,qm.r wn W->∀i,W.cell? ⟨w,i,I⟩=#[s A1 bs.length c1,s A2 ws.length c2][i]?:=λW h=>qa (qb r3 h);have hmkB:=GY cZ;have hmkW:=qgx ig;have hi1:=zH (IntWalk.i64_in ((ws.length:Int)+1) zO);have hwm1:wrap64 ((ws.length:Int)+1)=(ws.length:Int)+1:=IntWalk.wrap64_in _ zO;go_wp2_with fail;refine qt zQ ?_;refine qY (w:=wn) qm (qP [(3,qbw wn.heap.size bs.length bs.length 26 (madeCells #[s I 0 0] bs.length)),(11,qbw wn.heap.size ws.length (ws.length+1) 142 (madeCells #[Z Y 0,s I 0 0] ((ws.length+1)*2))),(13,Ju wn.heap.size 25 #[s I 0 0,s I 0 0])])
    [D,D,D,D,D,D,D,D,D,D,D,D,D,D] 1 zQ zQ zQ zQ zQ zQ zQ ?st (Rel.drew _ _) ?walk
   case st=>exact qk (by simp only[List.forall_mem_cons];exact⟨Xr _ _ _ _ _,Xr _ _ _ _ _,λp=>Qr (jv _ _ _ p),λ_ h=>by cases h⟩)
   case walk=>
    intro K hK;dsimp only[qv];refine zB9 ?_;refine qH (qbw wn.heap.size bs.length bs.length 26 (madeCells #[s I 0 0] bs.length)) zA0 zA0 (λW hW _=>?_) (λ(BB:Nat)=>?_)
    ·have hW:Ext wn W:=hW;refine jZ (u:=s (E ⟨W.heap.size,0,I⟩) bs.length bs.length) (w':=W.alloc (O (madeCells #[s I 0 0] bs.length) 26)) ?_ ⟨W.heap.size,rfl,⟨zI _ _ _ rfl,hW.size⟩,zN _ _⟩;go_simp
    refine zB9 ?_;refine qH (qbw wn.heap.size ws.length (ws.length+1) 142 (madeCells #[Z Y 0,s I 0 0] ((ws.length+1)*2))) zA0 zA0 (λW hW _=>?_) (λ(WW:Nat)=>?_)
    ·have hW:Ext wn W:=hW;refine jZ (u:=s (E ⟨W.heap.size,0,I⟩) ws.length (ws.length+1)) (w':=W.alloc (O (madeCells #[Z Y 0,s I 0 0] ((ws.length+1)*2)) 142)) ?_ ⟨W.heap.size,rfl,⟨zI _ _ _ rfl,hW.size⟩,zN _ _⟩;go_simp;rw[hi1.out,hmkW];rfl
    refine zB9 ?_;refine qH (Ju wn.heap.size 25 #[s I 0 0,s I 0 0]) zA0 zA0 (λW hW _=>?_) (λ(ob:Nat)=>?_)
    ·have hW:Ext wn W:=hW;refine Jq ?_ hW.size;go_simp
    refine zB9 ?_;refine qB (hK _ _ λW hW hF=>?_);have hBB:W.heap[BB]?=E (O (madeCells #[s I 0 0] bs.length) 26 (0,0))/\wn.heap.size<=BB:=(hF 3).1;have hWW:W.heap[WW]?=E (O (madeCells #[Z Y 0,s I 0 0] ((ws.length+1)*2)) 142 (0,0))/\wn.heap.size<=WW:=(hF 11).1;have hob:W.heap[ob]?=E (O #[s I 0 0,s I 0 0] 25 (0,0))/\wn.heap.size<=ob:=(hF 13).1;have hW:Ext wn W:=hW;have ko:=qa hob.1;have fo:=qe hob.1;clear hF hK g1 hmkB hmkW hwm1 k3;refine zB6 ?_;go_wp2;refine Qq ?_;have rob:=qi (qi hob.1 0 (s (E ⟨BB,0,I⟩) bs.length bs.length)) 1 (s (E ⟨WW,0,I⟩) ws.length (ws.length+1));have st:∀b,b≠ob->((W.setCell ob (s BB bs.length bs.length)).setCell (ob,1) (s WW ws.length (ws.length+1))).heap[b]?=W.heap[b]?:=λb hb=>(zJ _ _ _ _ hb).trans (zJ _ _ _ _ hb);have n1:BB≠ob:=qM hBB.1 hob.1 zA1;have n2:WW≠ob:=qM hWW.1 hob.1 zA1;have hob2:=hob.2;have B5:Below s0 wn ((W.setCell ob (s BB bs.length bs.length)).setCell (ob,1) (s WW ws.length (ws.length+1))):=Below.setCell (Below.setCell (Below.mono hW zO) (p:=⟨ob,0,I⟩) (by show s0<=ob;omega) _) (p:=⟨ob,1,I⟩) (by show s0<=ob;omega) _;have T0:TwS bs ws T s0 wn (s0+1) s0 BB WW ob 0 0 0 ((W.setCell ob (s BB bs.length bs.length)).setCell (ob,1) (s WW ws.length (ws.length+1))):=
     ⟨B5,⟨zO,zO,zO,zO,zO⟩,rob,⟨0,T,_,⟨(st _ zO).trans (qb b3 hW),(st _ zO).trans (qb g3 hW),zO,by rw[size_madeCells];omega,zO⟩,zM _,λ_=>rfl,zO,size_madeCells _ _⟩,
      ⟨_,(st _ n1).trans hBB.1,size_madeCells _ _,λ_ _ _ h=>zO⟩,⟨_,(st _ n2).trans hWW.1,size_madeCells _ _,λ_ _ _ h=>zO⟩⟩
    generalize World.setCell (World.setCell W _ _) _ _=w6 at*;clear n1 n2 hob2 rob st hob hWW hBB hW g3 b3 ko fo;have r6:=(B5.block w.heap.size zO).trans r3;have k6:=qa r6;have I0:TwI bs ws T s0 wn (s0+1) s0 BB WW ob (Z Y 0) w6:=⟨0,Nat.zero_le _,rfl,T0⟩
    replace I0:=zH I0;have r3':=zH r3;have q3':=zH q3;clear B5 T0 r3 q3 x3 r6;go_wp2_with fail;go_loopw [57] (λi wr=>TwI bs ws T s0 wn (s0+1) s0 BB WW ob i wr) (λi _=>bs.length-(intOf i).toNat)
    case atStart=>exact I0.out
    case round=>
     obtain⟨k,hk,rfl,nD⟩:=hrel.ex;clear hrel I0 k6;have xwr:Below w w wr:=Below.trans xw3 (Below.mono nD.below zO);have rr:=(nD.below.block w.heap.size zO).trans r3'.out;have kr:=qa rr;by_cases hlt:k<bs.length
     ·have aO:=hlt;obtain⟨b1,o1,rfl,bg⟩:=hA1 zO;obtain⟨A',c',hc,af⟩:=(HB.out.below xwr).get k hlt;have mF:=Uc hlt;have hle:=kM bs (k+1);have hgk:=zL hlt;generalize bs[k]=l at*;obtain⟨o,n,cur,hH,q1,q2,q3,q4⟩:=nD.heap;have xO:l.length<=n:=by have:=hT.out;have:=htb.out;omega
      have hAR:Bys wr wr (s A' l.length c') l:=af.more xwr.size;have yR:=nD.out;obtain⟨cb,rb,sb,_⟩:=nD.bb;have n1:ob≠s0+1:=qM yR hH.box zA1;have n2:ob≠s0:=qM yR hH.row zA1;have n3:BB≠s0+1:=qM rb hH.box zA1;have n4:BB≠s0:=qM rb hH.row zA1;have pY:∀a b,qm.r a b->(UI (s0+1) s0).r a b:=qkH;obtain⟨RR,aV⟩:∃RR:Rel,RR=UI (s0+1) s0:=⟨_,rfl⟩
      rw[<-aV]at pY;have hle:=pY;have g1:∀W,RR.r wr W->∀i,W.cell? ⟨ob,i,I⟩=#[s BB bs.length bs.length,s WW ws.length (ws.length+1)][i]?:=λW h=>qa (KH (aV▸h) n1 n2 yR);replace⟨aV,nD,mF,hgk,hH,rb⟩:=zH6 aV nD mF hgk hH rb;clear q1 q2 q3 q4 pY hA2;go_wp2_with fail;refine qt zQ ?_;refine qev (w:=wr) qm RR 4 hle (qP [(4,qbv (s0+1) s0 o n cur l)]) [D,D,D,D,D,D] 1 zQ zQ zQ zQ zQ zQ zQ ?st one_at (Rel.drew _ _) ?walk
      case st=>exact qk (by simp only[List.forall_mem_cons];exact⟨GK _ _ _ _ _ _,λ_ h=>by cases h⟩)
      case walk=>
       intro K hK;dsimp only[qv];refine zC0 ?_;refine qcw (qbv (s0+1) s0 o n cur l) zA0 zA0 (λW hW _=>?_) (λ(p:Nat)=>?_)
       ·have hW:Ext wr W:=hW;refine Qk ?_ ((qcA (s0+1) s0 o n cur A' c' l xO W ⟨qb hH.out.box hW,qb hH.out.row hW,hH.out.ne,hH.out.fit,hH.out.few⟩ (hAR.below hW |>.more hW.size)).mono λe w' h=>?_)
        ·go_simp
        obtain⟨o',rfl,h1,h2,h3,e1,e2,e3,e4,e5⟩:=h;refine⟨o',rfl,⟨h1,h2,h3⟩,?_⟩;rw[aV.out];exact⟨e2,e3,e4,Nat.le_of_eq e1.symm,λb _ h1 h2=>e5 b h1 h2⟩
       refine zC0 ?_
       first
        |(refine Jn hle (.pointer (E ⟨BB,0+k,I⟩)) zA0 zA0 (λW hW _=>?_) ?_
          ·go_simp;rw[IntWalk.i64_in (k:Int) zO,if_pos zO];simp
          simp only[Act.put,ql,qf,qc,qg,Zf,jl,zA,zB,zC])
        |skip
       refine zC0 ?_;refine qeE (hK _ _ λW hW hF=>?_);obtain⟨h1,h2,hH'⟩:(qbv (s0+1) s0 o n cur l).φ p W:=(hF 4).1;clear hF hK g1;rw[aV.out]at hW;refine zB6 ?_;obtain⟨T1,hin⟩:=nD.out.clone hH.out xO hW h1 h2 hH';have rB:=KH hW n3 n4 rb.out;have kB:=qa rB k;have fB:=qe rB k;rw[Array.getElem?_eq_getElem zO]at kB;generalize cb[k]=u0 at*;have T2:=T1.setB hgk.out hin;rw[<-mF.out]at T2;have IR:TwI bs ws T s0 wn (s0+1) s0 BB WW ob (Z Y ((k:Int)+1)) (W.setCell (BB,k) (s (s0,o) l.length l.length)):=⟨k+1,zO,rfl,T2⟩
       replace IR:=zH IR;have nR:=zH (IntWalk.wrap64_in ((k:Int)+1) zO);clear T1 T2 hin hW h1 h2 hH' rB rb nD hH mF hgk;go_wp2;refine Qq ?_;go_wp2_with fail;try rw[nR.out]
       refine⟨IR.out,?_⟩;simp[intOf];omega
     obtain rfl:k=bs.length:=zO;rw[List.take_length]at nD;have J0:TwJ bs ws T s0 wn (s0+1) s0 BB WW ob (Z Y 0) wr:=⟨0,Nat.zero_le _,rfl,nD⟩
     replace J0:=zH J0;generalize nR:wr=wk at*;clear nR nD xwr;go_wp2_with fail;go_loopw [72] (λi wr=>TwJ bs ws T s0 wn (s0+1) s0 BB WW ob i wr) (λi _=>ws.length-(intOf i).toNat)
     case atStart=>exact J0.out
     case round=>
      obtain⟨k,hk,rfl,nD⟩:=hrel.ex;clear hrel J0 kr rr;have xwr:Below w w wr:=Below.trans xw3 (Below.mono nD.below zO);have rr:=(nD.below.block w.heap.size zO).trans r3'.out;have kr:=qa rr;by_cases hlt:k<ws.length
      ·have aO:=hlt;obtain⟨b2,o2,rfl,bP⟩:=hA2 zO;obtain⟨A',c',ha,hc,af⟩:=(HW.out.below xwr).get k hlt;have mF:vT ((ws.take (k+1)).map (·.2))=vT ((ws.take k).map (·.2))+ws[k].2.length:=by rw[List.map_take,List.map_take,Uc (by rw[List.length_map];exact hlt),List.getElem_map]
       have hle:vT ((ws.take (k+1)).map (·.2))<=tw:=by rw[htw.out,List.map_take];exact kM _ _
       have hgk:=zL hlt;generalize ws[k]=pl at*;obtain⟨pn,l⟩:=pl;simp only at ha hc af mF;go_upto_region 22 with fail;generalize hwp:Jx wr _=wp;have xp:Ext wr wp:=hwp▸zN _ _;have tp:wp.heap[wr.heap.size]?=E (O #[Z Y pn,s A' l.length c'] 142 (0,0)):=hwp▸zI _ _ _ rfl;clear hwp;have hls:s0<=wr.heap.size:=Nat.le_trans (Nat.le_trans zO nD.below.size) (zM _);have hTP:=nD.ext xp hls;obtain⟨o,n,cur,hH,q1,q2,q3,q4⟩:=hTP.heap;have xO:l.length<=n:=by have:=hT.out;have:=htb.out;omega
       have hAR:Bys wp wp (s A' l.length c') l:=(af.below (Below.mono xp xwr.size)).more (by have:=xp.size;have:=xwr.size;omega);have yR:=hTP.out;obtain⟨cw,rw_,sw,_⟩:=hTP.ww;have zhb:=(zG.1 ((nD.heap).choose_spec.choose_spec.choose_spec.1.box)).1;have zg:=(zG.1 ((nD.heap).choose_spec.choose_spec.choose_spec.1.row)).1;have zw:=(zG.1 (nD.ww.choose_spec.1)).1;have n1:ob≠s0+1:=qM yR hH.box zA1;have n2:ob≠s0:=qM yR hH.row zA1;have n3:WW≠s0+1:=qM rw_ hH.box zA1;have n4:WW≠s0:=qM rw_ hH.row zA1;have pY:∀a b,qm.r a b->(UI (s0+1) s0).r a b:=qkH;obtain⟨RR,aV⟩:∃RR:Rel,RR=UI (s0+1) s0:=⟨_,rfl⟩
       rw[<-aV]at pY;have hle:=pY;generalize wr.heap.size=tt at tp hls zhb zg zw⊢;have g1:∀W,RR.r wp W->∀i,W.cell? ⟨ob,i,I⟩=#[s BB bs.length bs.length,s WW ws.length (ws.length+1)][i]?:=λW h=>qa (KH (aV▸h) n1 n2 yR);have g2:∀W,RR.r wp W->∀i,W.cell? ⟨tt,i,I⟩=#[Z Y pn,s A' l.length c'][i]?:=λW h=>qa (KH (aV▸h) zO zO tp);replace⟨aV,hTP,mF,hgk,hH,rw_⟩:=zH6 aV hTP mF hgk hH rw_;clear q1 q2 q3 q4 pY nD af ha hc hA1 tp xp rr kr;refine qt zQ ?_;refine qev (w:=wp) qm RR 7 hle (qP [(7,qbv (s0+1) s0 o n cur l)]) [D,D,D,D,D,D,D,D,D,D] 1 zQ zQ zQ zQ zQ zQ zQ ?st one_at (Rel.drew _ _) ?walk
       case st=>exact qk (by simp only[List.forall_mem_cons];exact⟨GK _ _ _ _ _ _,λ_ h=>by cases h⟩)
       case walk=>
        intro K hK;dsimp only[qv];refine zC0 ?_;refine qcw (qbv (s0+1) s0 o n cur l) zA0 zA0 (λW hW _=>?_) (λ(p:Nat)=>?_)
        ·have hW:Ext wp W:=hW;refine Qk ?_ ((qcA (s0+1) s0 o n cur A' c' l xO W ⟨qb hH.out.box hW,qb hH.out.row hW,hH.out.ne,hH.out.fit,hH.out.few⟩ (hAR.below hW |>.more hW.size)).mono λe w' h=>?_)
         ·go_simp
         obtain⟨o',rfl,h1,h2,h3,e1,e2,e3,e4,e5⟩:=h;refine⟨o',rfl,⟨h1,h2,h3⟩,?_⟩;rw[aV.out];exact⟨e2,e3,e4,Nat.le_of_eq e1.symm,λb _ h1 h2=>e5 b h1 h2⟩
        refine zC0 ?_
        first
         |(refine Jn hle (.pointer (E ⟨WW,0+k*2,I⟩)) zA0 zA0 (λW hW _=>?_) ?_
           ·go_simp;rw[IntWalk.i64_in (k:Int) zO,if_pos zO];simp
           simp only[Act.put,ql,qf,qc,qg,Zf,jl,zA,zB,zC])
         |skip
        refine zC0 ?_;refine qeE (hK _ _ λW hW hF=>?_);obtain⟨h1,h2,hH'⟩:(qbv (s0+1) s0 o n cur l).φ p W:=(hF 7).1;clear hF hK g1 g2;rw[aV.out]at hW;refine zB6 ?_;obtain⟨T1,hin⟩:=hTP.out.clone hH.out xO hW h1 h2 hH';have rB:=KH hW n3 n4 rw_.out;have kB:=qa rB (k*2);have kC:=qa rB (k*2+1);have fB:=qe rB;rw[Array.getElem?_eq_getElem zO]at kB kC;generalize cw[k*2]=u0 at*;generalize cw[k*2+1]=u1 at*;have T2:=T1.setW hgk.out hin;rw[Nat.add_assoc,<-mF.out]at T2;have IR:TwJ bs ws T s0 wn (s0+1) s0 BB WW ob (Z Y ((k:Int)+1)) ((W.setCell (WW,k*2) (Z Y pn)).setCell (WW,k*2+1) (s (s0,o) l.length l.length)):=⟨k+1,zO,rfl,T2⟩
        replace IR:=zH IR;have nR:=zH (IntWalk.wrap64_in ((k:Int)+1) zO);clear T1 T2 hin hW h1 h2 hH' rB rw_ hTP hH mF hgk;go_wp2;refine Qq ?_;go_wp2_with fail;try rw[nR.out]
        refine⟨IR.out,?_⟩;simp[intOf];omega
      obtain rfl:k=ws.length:=zO;have DT:=nD.done;have qq:=(nD.below.block (w.heap.size+1) zO).trans q3'.out;have kq:=qa qq;have fq:=qe qq;have ko:=qa nD.out;have rf:=qi (qi qq 0 (s (E ⟨BB,0,I⟩) bs.length bs.length)) 1 (s (E ⟨WW,0,I⟩) ws.length (ws.length+1));have kf:=qa rf;have bf:Below w w ((wr.setCell (w,1,0) (s BB bs.length bs.length)).setCell (w,1,1) (s WW ws.length (ws.length+1))):=Below.setCell (Below.setCell xwr (p:=⟨w.heap.size+1,0,I⟩) (Nat.le_succ _) _) (p:=⟨w.heap.size+1,1,I⟩) (Nat.le_succ _) _;have DF:vq w bs ws BB WW s0 ((wr.setCell (w,1,0) (s BB bs.length bs.length)).setCell (w,1,1) (s WW ws.length (ws.length+1))):=
       DT.keep zO zA3 (λb h1 _=>(zJ _ _ _ _ (by show b≠w.heap.size+1;omega)).trans (zJ _ _ _ _ (by show b≠w.heap.size+1;omega)))
      replace⟨kf,bf,DF⟩:=zH3 kf bf DF;clear rf DT nD;go_wp2;have kf:=kf.out;exact bodyPost_ret (v:=XV (E ⟨BB,0,I⟩) bs.length bs.length (E ⟨WW,0,I⟩) ws.length (ws.length+1)) (by simp[results,results188,go_sem,kf]) rfl ⟨BB,WW,s0,rfl,DF.out,bf.out⟩
def Ky(w:J)(b:Nat):Nat->List X->J
 |_,[]=>w
 |k,v::r=>Ky (w.setCell (b,k) v) b (k+1) r
def TA(cs:Array X):Nat->List X->Array X
 |_,[]=>cs
 |k,v::r=>TA (cs.setIfInBounds k v) (k+1) r
theorem jT{b g:Nat}(h:g≠b):∀(vs:List X)(w:J)(k:Nat),(Ky w b k vs).heap[g]?=w.heap[g]?
 |[],_,_=>rfl
 |_::r,w,k=>(jT h r _ _).trans (zJ _ _ _ _ h)
theorem Jy{b:Nat}:∀(vs:List X)(w:J)(k:Nat),(Ky w b k vs).heap.size=w
 |[],_,_=>rfl
 |_::r,w,k=>(Jy r _ _).trans zA3
theorem jS{B b:Nat}{w0:J}(hB:B<=b):∀(vs:List X)(w:J)(k:Nat),Below B w0 w->Below B w0 (Ky w b k vs)
 |[],_,_,h=>h
 |v::r,w,k,h=>jS hB r _ _ (Below.setCell h (p:=⟨b,k,I⟩) hB v)
theorem vn{b:Nat}{t:TypeId}:∀(vs:List X)(w:J)(k:Nat)(cs:Array X),w.heap[b]?=E (O cs t)->(Ky w b k vs).heap[b]?=E (O (TA cs k vs) t)
 |[],_,_,_,h=>h
 |v::r,w,k,cs,h=>vn r _ _ _ (qi h k v)
end Go.Proofs.YtmeadnlmepcmbaaGreat
