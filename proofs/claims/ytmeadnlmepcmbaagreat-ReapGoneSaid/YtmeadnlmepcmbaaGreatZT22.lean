/- Lemmas of the proof. -/
import Derived.Test.YtmeadnlmepcmbaaGreatZT11
set_option linter.all false
set_option maxHeartbeats 8000000
open Go.Proofs.Tryz
open Bool renaming true→s,false→D
open Go renaming World→E
namespace Go.Proofs.YtmeadnlmepcmbaaGreat
open Go.RowKit
section
variable {R0 R:Rel} {c:Nat} {kp:Nat->Bool}
def preD(R0 R:Rel)(c i:Nat):Rel:=if i=c then R0 else R
def qdw(R0 R:Rel)(c i:Nat):Rel:=if i=c then R else R0
def VV(F:qN)(i:Nat)(φ:E->Prop):qN:=λk=>if k=i then φ else F k
theorem qfs(F:qN){i j:Nat}(φ ψ:E->Prop)(aH:i≠j):VV (VV F i φ) j ψ=VV (VV F j ψ) i φ:=by funext k;unfold VV;by_cases hj:k=j;subst hj;rw[if_pos rfl,if_neg (Ne.symm aH),if_pos rfl];rw[if_neg hj,if_neg hj]
theorem YQ(F:qN)(i:Nat)(φ:E->Prop):VV F i φ i=φ:=if_pos rfl
theorem JV(F:qN){i k:Nat}(φ:E->Prop)(h:k≠i):VV F i φ k=F k:=if_neg h
section
variable {P:Program} {ops:Array Oper} {w0:World}
def JM(R0 R:Rel)(c:Nat)(kp:Nat->Bool)(P:Program)(ops:Array Oper)(w0:E)(H:Nat->Option Qb)(i:Nat)(o:Oper)(a:Act)(F:qN)(h:Qb):Prop:=
 (Region.wanted o (yielded ops a.tmps)=D/\h=one undef) \/
 (Region.wanted o (yielded ops a.tmps)=s/\H i=none/\∃v,h=one v/\∀W,(preD R0 R c i).r w0 W->(∀k∈qO o,(i=c\/kp k=s)->F k W)->Jw (qdw R0 R c i) P o a W v) \/
 (Region.wanted o (yielded ops a.tmps)=s/\H i=h/\∀W,(preD R0 R c i).r w0 W->(∀k∈qO o,(i=c\/kp k=s)->F k W)->Qs (qdw R0 R c i) P o a W h)
def qaU(R0 R:Rel)(c:Nat)(kp:Nat->Bool)(w0:E)(listed:Array Bool)(F:qN):Prop:=∃W,R.r w0 W/\(listed.getD c s=D->R0.r w0 W/\∀k,F k W)/\∀k,kp k=s->F k W
def FOpD(R0 R:Rel)(c:Nat)(kp:Nat->Bool)(P:Program)(ops:Array Oper)(w0:E)(H:Nat->Option Qb)(listed:Array Bool)(i:Nat)(o:Oper)(K:Act->qN->Prop)(a:Act)(F:qN):Prop:=
 ∃h,JM R0 R c kp P ops w0 H i o a F h/\∀p,qaU R0 R c kp w0 (listed.setIfInBounds i s) (VV F i (h.φ p))->K (a.put o.dst (h.f p)) (VV F i (h.φ p))
def JY(R0 R:Rel)(c:Nat)(kp:Nat->Bool)(P:Program)(ops:Array Oper)(w0:E)(H:Nat->Option Qb)(Q:Act->qN->Prop):List (Nat×Oper)->Array Bool->Act->qN->Prop
 |[],_,a,F=>Q a F
 |(k,o)::rest,listed,a,F=>FOpD R0 R c kp P ops w0 H listed k o (λa' F'=>JY R0 R c kp P ops w0 H Q rest (listed.setIfInBounds k s) a' F') a F
def qah(R0 R:Rel)(c:Nat)(kp:Nat->Bool)(P:Program)(ops:Array Oper)(w0:E)(H:Nat->Option Qb)(L:Array Bool)(Q:Act->qN->Prop):Nat->Array Bool->Act->qN->Prop
 |0,listed,a,F=>listed=L/\Q a F
 |fuel+1,listed,a,F=>Region.ready .any ops listed≠[]/\∀i∈Region.ready .any ops listed,∀o,ops[i]?=some o->FOpD R0 R c kp P ops w0 H listed i o (qah R0 R c kp P ops w0 H L Q fuel (listed.setIfInBounds i s)) a F
theorem stpD_le(hle:∀a b,R0.r a b->R.r a b){i:Nat}{W W':E}(h:(qdw R0 R c i).r W W'):R.r W W':=by unfold qdw at h;split at h;exact h;exact hle _ _ h
theorem unsetD{listed:Array Bool}{i c:Nat}(hi:listed.getD i s=D)(hc:(listed.setIfInBounds i s).getD c s=D):i≠c/\listed.getD c s=D:=by
 have aH:i≠c:=λe=>by
  subst e;rcases Nat.lt_or_ge i listed.size with h'|h'
  simp[h']at hc;simp[Array.getElem?_eq_none h']at hi
 exact⟨aH,by rwa [getD_set_ne s aH]at hc⟩
def Uj(R0 R:Rel)(c:Nat)(kp:Nat->Bool)(listed:Array Bool)(F:qN):Prop:=(∀k,qS R0 (F k))/\(listed.getD c s=D->∀k,kp k=s->qS R (F k))
def qcc(R0 R:Rel)(c:Nat)(kp:Nat->Bool)(H:Nat->Option Qb):Prop:=∀i h,H i=some h->∀p,qS R0 (h.φ p)/\(i≠c->kp i=s->qS R (h.φ p))
theorem JM.lasts{H:Nat->Option Qb}(hH:qcc R0 R c kp H){listed:Array Bool}{i:Nat}{o:Oper}{a:Act}{F:qN}{h:Qb}(hi:listed.getD i s=D)(hl:Uj R0 R c kp listed F)(x:JM R0 R c kp P ops w0 H i o a F h)(p:h.α):Uj R0 R c kp (listed.setIfInBounds i s) (VV F i (h.φ p)):=by
 have hs:qS R0 (h.φ p)/\(i≠c->kp i=s->qS R (h.φ p)):=by
  rcases x with⟨_,rfl⟩|⟨_,_,v,rfl,_⟩|⟨_,x2,_⟩
  exact⟨λ_ _ _ _=>trivial,λ_ _ _ _ _ _=>trivial⟩;exact⟨λ_ _ _ _=>trivial,λ_ _ _ _ _ _=>trivial⟩;exact hH i h x2 p
 constructor;intro k;by_cases e:k=i;subst e;rw[YQ];exact hs.1;rw[JV _ _ e];exact hl.1 k;intro hc k hk;obtain⟨aH,az⟩:=unsetD hi hc;by_cases e:k=i;subst e;rw[YQ];exact hs.2 aH hk;rw[JV _ _ e];exact hl.2 az k hk
theorem qfp(hle:∀a b,R0.r a b->R.r a b){listed:Array Bool}{F:qN}{i:Nat}{W W':E}{φ:E->Prop}(hi:listed.getD i s=D)(hl:Uj R0 R c kp listed F)(h:(qdw R0 R c i).r W W')(hφ:φ W')(hW:R.r w0 W)(h0:listed.getD c s=D->R0.r w0 W/\∀k,F k W)(hF:∀k,kp k=s->F k W):R.r w0 W'/\((listed.setIfInBounds i s).getD c s=D->R0.r w0 W'/\∀k,VV F i φ k W')/\∀k,kp k=s->VV F i φ k W':=by refine⟨R.trans hW (stpD_le hle h),λhc=>?_,λk hk=>?_⟩;obtain⟨aH,az⟩:=unsetD hi hc;unfold qdw at h;rw[if_neg aH]at h;refine⟨R0.trans (h0 az).1 h,λk=>?_⟩;by_cases e:k=i;subst e;rw[YQ];exact hφ;rw[JV _ _ e];exact hl.1 k _ _ h ((h0 az).2 k);by_cases e:k=i;subst e;rw[YQ];exact hφ;rw[JV _ _ e];unfold qdw at h;split at h;rename_i hic;subst hic;exact hl.2 hi k hk _ _ h (hF k hk);exact hl.1 k _ _ h (hF k hk)
theorem qcm{listed:Array Bool}{F:qN}{i:Nat}{W:E}(hi:listed.getD i s=D)(hW:R.r w0 W)(h0:listed.getD c s=D->R0.r w0 W/\∀k,F k W)(hF:∀k,kp k=s->F k W){ks:List Nat}:(preD R0 R c i).r w0 W/\∀k∈ks,(i=c\/kp k=s)->F k W:=by
 constructor;unfold preD;split;rename_i e;subst e;exact(h0 hi).1;exact hW;intro k _ hk;rcases hk with rfl|hk
 exact(h0 hi).2 k;exact hF k hk
theorem JM.unique{H:Nat->Option Qb}{listed:Array Bool}{i:Nat}{o:Oper}{a:Act}{F:qN}{h h':Qb}(hc:qaU R0 R c kp w0 listed F)(hi:listed.getD i s=D)(x:JM R0 R c kp P ops w0 H i o a F h)(y:JM R0 R c kp P ops w0 H i o a F h'):h=h':=by
 obtain⟨W,hW,iV,hF⟩:=hc;obtain⟨hW,hF⟩:=qcm (ks:=qO o) hi hW iV hF;rcases x with⟨x1,rfl⟩|⟨x1,x2,v,rfl,x3⟩|⟨x1,x2,x3⟩<;>rcases y with⟨y1,rfl⟩|⟨y1,y2,u,rfl,y3⟩|⟨y1,y2,y3⟩
 rfl;rw[x1]at y1;cases y1;rw[x1]at y1;cases y1;rw[x1]at y1;cases y1;obtain⟨w1,e1,_⟩:=x3 W hW hF;obtain⟨w2,e2,_⟩:=y3 W hW hF;rw[e1]at e2;cases e2;rfl;rw[x2]at y2;cases y2;rw[x1]at y1;cases y1;rw[x2]at y2;cases y2;rw[x2]at y2;cases y2;rfl
theorem JM.some_(hle:∀a b,R0.r a b->R.r a b){H:Nat->Option Qb}{listed:Array Bool}{i:Nat}{o:Oper}{a:Act}{F:qN}{h:Qb}(hc:qaU R0 R c kp w0 listed F)(hi:listed.getD i s=D)(hl:Uj R0 R c kp listed F)(x:JM R0 R c kp P ops w0 H i o a F h):∃p,qaU R0 R c kp w0 (listed.setIfInBounds i s) (VV F i (h.φ p)):=by
 obtain⟨W,hW,iV,hF⟩:=hc;have triv:∀(φ:E->Prop)W',(qdw R0 R c i).r W W'->φ W'->qaU R0 R c kp w0 (listed.setIfInBounds i s) (VV F i φ):=λφ W' he hφ=>⟨W',qfp hle hi hl he hφ hW iV hF⟩
 obtain⟨hWp,hFp⟩:=qcm (ks:=qO o) hi hW iV hF;rcases x with⟨x1,rfl⟩|⟨x1,x2,v,rfl,x3⟩|⟨x1,x2,x3⟩
 exact⟨(),triv _ W (Rel.refl _ W) trivial⟩;obtain⟨w',_,he⟩:=x3 W hWp hFp;exact⟨(),triv _ w' he trivial⟩;have h3:=x3 W hWp hFp;unfold Qs at h3;generalize(execOp a.eval o).run P W=r at h3;cases r with
 |ok n w'=>
  cases n<;>simp only[Zp]at h3
  case value u=>obtain⟨p,_,hp,he⟩:=h3;exact⟨p,triv _ w' he hp⟩
  case skip=>obtain⟨p,_,hp,he⟩:=h3;exact⟨p,triv _ w' he hp⟩
  case enter f args=>obtain⟨he,az⟩:=h3;obtain⟨e,w'',fr,⟨p,_,hp,iW⟩,_⟩:=az [];exact⟨p,triv _ w'' (Rel.trans _ he iW) hp⟩
 |halt x w'=>simp only[Zp]at h3
theorem JM.move{H:Nat->Option Qb}{i j:Nat}{oi oj:Oper}{a:Act}{F:qN}{h:Qb}{v:Value}{φ:E->Prop}(dW:oi.apart ops oj=s)(pF:∀cs b,oj.op≠.select cs b)(hn:i∉qO oj):JM R0 R c kp P ops w0 H j oj (a.put oi.dst v) (VV F i φ) h↔JM R0 R c kp P ops w0 H j oj a F h:=by
 obtain⟨h1,_,_⟩:=Oper.apart_spec dW;have hF:∀W,(∀k∈qO oj,(j=c\/kp k=s)->VV F i φ k W)↔∀k∈qO oj,(j=c\/kp k=s)->F k W:=λW=>by constructor<;>intro hh k hk h1;have:=hh k hk h1;rwa [JV _ _ (λe=>hn (by rw[<-e];exact hk))]at this;rw[JV _ _ (λe=>hn (by rw[<-e];exact hk))];exact hh k hk h1
 unfold JM Jw Qs;rw[wanted_put oj a oi.dst v h1,execOp_put oj pF a oi.dst v h1];simp only[hF]
theorem JM.move'{H:Nat->Option Qb}{i j:Nat}{oi oj:Oper}{a:Act}{F:qN}{h:Qb}{v:Value}{φ:E->Prop}(dW:oi.apart ops oj=s)(uH:∀cs b,oi.op≠.select cs b)(hn:j∉qO oi):JM R0 R c kp P ops w0 H i oi (a.put oj.dst v) (VV F j φ) h↔JM R0 R c kp P ops w0 H i oi a F h:=by
 obtain⟨_,_,h3⟩:=Oper.apart_spec dW;have hF:∀W,(∀k∈qO oi,(i=c\/kp k=s)->VV F j φ k W)↔∀k∈qO oi,(i=c\/kp k=s)->F k W:=λW=>by constructor<;>intro hh k hk h1;have:=hh k hk h1;rwa [JV _ _ (λe=>hn (by rw[<-e];exact hk))]at this;rw[JV _ _ (λe=>hn (by rw[<-e];exact hk))];exact hh k hk h1
 unfold JM Jw Qs;rw[wanted_put oi a oj.dst v h3,execOp_put oi uH a oj.dst v h3];simp only[hF]
def qgC(ops:Array Oper)(c:Nat):Bool:=(List.range c).all λk=>TE ops 9 c k
theorem qiL(h:qgC ops c=s){listed:Array Bool}(hc:Vd ops listed)(hr:c∈Region.ready .any ops listed):∀k,k<c->listed.getD k D=s:=λk hk=>
 vW hc 9 c k (λo' rE=>VS hr rE) (List.all_eq_true.1 h k (List.mem_range.2 hk))
theorem Tb{listed:Array Bool}{k:Nat}(h0:listed.getD k s=D)(h1:listed.getD k D=s):False:=by
 rcases Nat.lt_or_ge k listed.size with h'|h'
 simp[h']at h0 h1;rw[h0]at h1;cases h1;simp[Array.getElem?_eq_none h']at h1
theorem qel(hle:∀a b,R0.r a b->R.r a b)(hkc:kp c=s)(hwc:qgC ops c=s){H:Nat->Option Qb}(hH:qcc R0 R c kp H){A:Nat->Prop}{L:Array Bool}{Q:Act->qN->Prop}{i:Nat}{oi:Oper}(hi:ops[i]?=oi)(him:A i)(iD:∀(j:Nat)(o:Oper)cs b,ops[j]?=o->o.op≠.select cs b)(bJ:∀(listed:Array Bool)(j:Nat),Vd ops listed->j∈Region.ready .any ops listed->L.getD j s=D->∀k,A k->listed.getD k D=s):∀(fuel:Nat)(listed:Array Bool)(a:Act)(F:qN),Vd ops listed -> (∀j oj,ops[j]?=some oj->j≠i->listed.getD j s=D->(∀e∈oj.after,Region.binds .any e=s->e.on≠i)->oi.apart ops oj=s) -> (i<=c\/listed.getD c D=s)->i∈Region.ready .any ops listed->Uj R0 R c kp listed F->qaU R0 R c kp w0 listed F->(∀k,listed.getD k s=D->∀W,F k W) ->
   FOpD R0 R c kp P ops w0 H listed i oi (qah R0 R c kp P ops w0 H L Q fuel (listed.setIfInBounds i s)) a F->qah R0 R c kp P ops w0 H L Q (fuel+1) listed a F:=by
 intro fuel;induction fuel with
 |zero=>
  intro listed a F pJ _ _ hr aJ hc _ dw;refine⟨λh=>(by rw[h]at hr;cases hr),λj hj oj dD=>?_⟩;by_cases hji:j=i;subst hji;rw[hi]at dD;cases dD;exact dw;exfalso;obtain⟨h,hok,hK⟩:=dw;obtain⟨p,dU⟩:=hok.some_ hle hc (mem_ready.1 hr).1 aJ;have hmj:L.getD j s=D:=by rw[<-(hK p dU).1];exact(mem_ready.1 (ready_mono hj hji)).1
  exact Tb (mem_ready.1 hr).1 (bJ listed j pJ hj hmj i him)
 |succ fuel ih=>
  intro listed a F pJ dF hic hr aJ hc eU dw;refine⟨λh=>(by rw[h]at hr;cases hr),λj hj oj dD=>?_⟩;by_cases hji:j=i;subst hji;rw[hi]at dD;cases dD;exact dw;obtain⟨bK,oj',iL,aW⟩:=mem_ready.1 hj;rw[dD]at iL;cases iL;obtain⟨iY,oi',lJ,gZ⟩:=mem_ready.1 hr;rw[hi]at lJ;cases lJ;have lH:∀e∈oj.after,Region.binds .any e=s->e.on≠i:=λe he hb nK=>Tb iY (nK▸aW e he hb);have lI:∀e∈oi.after,Region.binds .any e=s->e.on≠j:=λe he hb nK=>Tb bK (nK▸gZ e he hb);have eF:i∉qO oj:=λhin=>by obtain⟨e,he,nJ⟩:=List.mem_map.1 hin;rw[List.mem_filter]at he;exact lH e (by simpa using he.1) he.2 nJ
  have rG:j∉qO oi:=λhin=>by obtain⟨e,he,nJ⟩:=List.mem_map.1 hin;rw[List.mem_filter]at he;exact lI e (by simpa using he.1) he.2 nJ
  have hjc:j≠c:=λe=>by
   subst e;rcases hic with h|h
   exact Tb iY (qiL hwc pJ hj i zO);exact Tb bK h
  have dW:=dF j oj dD hji bK lH;have uH:∀cs b,oi.op≠.select cs b:=λcs b=>iD i oi cs b hi;have pF:∀cs b,oj.op≠.select cs b:=λcs b=>iD j oj cs b dD;obtain⟨h2,_⟩:=(Oper.apart_spec dW).2;obtain⟨hI,okI,yg⟩:=dw;obtain⟨p0,pO⟩:=okI.some_ hle hc iY aJ;obtain⟨hJ,okJ0,_⟩:=(yg p0 pO).2 j (ready_mono hj hji) oj dD;have okJ:JM R0 R c kp P ops w0 H j oj a F hJ:=(JM.move dW pF eF).1 okJ0;refine⟨hJ,okJ,λq hcq=>?_⟩;have fE:∀k ok,ops[k]?=some ok->k≠i->(listed.setIfInBounds j s).getD k s=D ->
    (∀e∈ok.after,Region.binds .any e=s->e.on≠i)->oi.apart ops ok=s:=λk ok hk eX lT aj=>by
   refine dF k ok hk eX ?_ aj;by_cases hjk:j=k;subst hjk;exact bK;rw[getD_set_ne s hjk]at lT;exact lT
  refine ih (listed.setIfInBounds j s) _ _ (pJ.step hj) fE (hic.imp id λh=>Vy h) (ready_mono hr (Ne.symm hji)) (okJ.lasts hH bK aJ q) hcq ?_ ?_;intro k hk W;by_cases hjk:j=k;subst hjk;exfalso;have hlt:j<listed.size:=by
   rcases Nat.lt_or_ge j listed.size with h'|h'
   exact h';simp[Array.getElem?_eq_none h']at bK
  simp[hlt]at hk;rw[getD_set_ne s hjk]at hk;rw[JV _ _ (λe=>hjk e.symm)];exact eU k hk W;refine⟨hI,(JM.move' dW uH rG).2 okI,λp dU=>?_⟩;have tH:qaU R0 R c kp w0 (listed.setIfInBounds i s) (VV F i (hI.φ p)):=by
   obtain⟨W,hW,iV,hF⟩:=dU;have key:∀k,VV (VV F j (hJ.φ q)) i (hI.φ p) k W->VV F i (hI.φ p) k W:=λk hk=>by
    by_cases eX:k=i;subst eX;rw[YQ]at hk⊢;exact hk;rw[JV _ _ eX]at hk⊢;by_cases hkj:k=j;subst hkj;exact eU k bK W
    rwa [JV _ _ hkj]at hk
   refine⟨W,hW,λh=>?_,λk hk=>key k (hF k hk)⟩;have h':=iV (by rw[Array.setIfInBounds_comm _ _ hji,getD_set_ne s hjc];exact h);exact⟨h'.1,λk=>key k (h'.2 k)⟩
  obtain⟨xH,okJ',sU⟩:=(yg p tH).2 j (ready_mono hj hji) oj dD;have okJ'':JM R0 R c kp P ops w0 H j oj a F xH:=(JM.move dW pF eF).1 okJ';have e:=okJ''.unique hc bK okJ;subst e;have hq:=sU q (by rw[qfs F _ _ (Ne.symm hji),Array.setIfInBounds_comm _ _ (λe=>hji e.symm)];exact dU);rw[Array.setIfInBounds_comm _ _ (λe=>hji e.symm),Act.put_comm a (hI.f p) (xH.f q) h2,qfs F _ _ (Ne.symm hji)]at hq;exact hq
def befD(c:Nat):List Nat->Bool->Bool
 |[],_=>s
 |k::l,d=>if d=s then befD c l s else if k=c then befD c l s else decide (k<c)&&befD c l D
theorem qbI(hle:∀a b,R0.r a b->R.r a b)(hkc:kp c=s)(hwc:qgC ops c=s){H:Nat->Option Qb}(hH:qcc R0 R c kp H){L:Array Bool}{ks:List Nat}{Q:Act->qN->Prop}(hs:Region.noSelect ops=s)(bJ:∀(listed:Array Bool)(j:Nat),Vd ops listed->j∈Region.ready .any ops listed->L.getD j s=D->∀k,k∈ks->listed.getD k D=s):∀(l:List (Nat×Oper))(listed:Array Bool)(a:Act)(F:qN),Vd ops listed->(∀x∈l,ops[x.1]?=some x.2/\x.1∈ks) ->
  Zu ops L (l.map (·.1)) listed=s->befD c (l.map (·.1)) (listed.getD c D)=s->Uj R0 R c kp listed F->qaU R0 R c kp w0 listed F->(∀j,listed.getD j s=D->∀W,F j W)->JY R0 R c kp P ops w0 H Q l listed a F->qah R0 R c kp P ops w0 H L Q l.length listed a F
 |[],listed,a,F,_,_,hB,_,_,_,_,h=>⟨by simpa [Zu]using hB,h⟩
 |(k,o)::l,listed,a,F,pJ,hl,hB,hb,aJ,hc,eU,h=>by
  obtain⟨h0,yJ⟩:=hl (k,o) (List.mem_cons_self);simp only[List.map_cons,Zu,Bool.and_eq_true]at hB;obtain⟨⟨hr,hf⟩,mi⟩:=hB;have wV:k∈Region.ready .any ops listed:=by simpa using hr
  have pV:=(mem_ready.1 wV).1;have hlt:k<listed.size:=by
   rcases Nat.lt_or_ge k listed.size with h'|h'
   exact h';simp[Array.getElem?_eq_none h']at pV
  have bP:(k<=c\/listed.getD c D=s)/\befD c (l.map (·.1)) ((listed.setIfInBounds k s).getD c D)=s:=by simp only[List.map_cons]at hb;unfold befD at hb;split at hb;rename_i hd;exact⟨.inr hd,by rw[Vy hd];exact hb⟩;rename_i hd;split at hb;rename_i hkc;subst hkc;exact⟨.inl (zM _),by rw[show(listed.setIfInBounds k s).getD k D=s by simp[hlt]];exact hb⟩;rename_i hkc;simp only[Bool.and_eq_true,decide_eq_true_eq]at hb;refine⟨.inl (Nat.le_of_lt hb.1),?_⟩;rw[show(listed.setIfInBounds k s).getD c D=D by rw[getD_set_ne D hkc];simpa using hd];exact hb.2
  refine qel hle hkc hwc (A:=λk=>k∈ks) hH h0 yJ (Region.noSelect_spec hs) bJ l.length listed a F pJ (Region.free_spec h0 hf) bP.1 wV aJ hc eU ?_;obtain⟨hh,hok,hK⟩:=h;refine⟨hh,hok,λp dU=>?_⟩;refine qbI hle hkc hwc hH hs bJ l _ _ _ (pJ.step wV) (λx hx=>hl x (List.mem_cons_of_mem _ hx)) mi bP.2 (hok.lasts hH pV aJ p) dU (λj hj W=>?_) (hK p dU);by_cases hjk:k=j;subst hjk;simp[hlt]at hj;rw[getD_set_ne s hjk]at hj;rw[JV _ _ (λe=>hjk e.symm)];exact eU j hj W
theorem qep(hle:∀a b,R0.r a b->R.r a b){H:Nat->Option Qb}{i:Nat}{o:Oper}{a:Act}{F:qN}{K:Act->qN->Prop}{K':Act->E->Prop}{Q':Exit->Act->E->Prop}{W:E}{listed:Array Bool}(yL:listed.getD i s=D)(hi:ops[i]?=o)(hH:qcc R0 R c kp H)(aJ:Uj R0 R c kp listed F)(hW:R.r w0 W)(iV:listed.getD c s=D->R0.r w0 W/\∀k,F k W)(hF:∀k,kp k=s->F k W)(hK:∀a' F' W',K a' F'->Uj R0 R c kp (listed.setIfInBounds i s) F'->R.r w0 W'->((listed.setIfInBounds i s).getD c s=D->R0.r w0 W'/\∀k,F' k W')->(∀k,kp k=s->F' k W')->K' a' W')(h:FOpD R0 R c kp P ops w0 H listed i o K a F):wpOp P ops Q' i K' a W:=by
 obtain⟨hh,hok,hn⟩:=h;have go:∀p W',(qdw R0 R c i).r W W'->hh.φ p W'->K' (a.put o.dst (hh.f p)) W':=λp W' he hφ=>by obtain⟨h1,h2,h3⟩:=qfp hle yL aJ he hφ hW iV hF;exact hK _ _ W' (hn p ⟨W',h1,h2,h3⟩) (hok.lasts hH yL aJ p) h1 h2 h3
 obtain⟨hWp,hFp⟩:=qcm (ks:=qO o) yL hW iV hF;unfold wpOp;simp only[hi];rcases hok with⟨x1,rfl⟩|⟨x1,x2,v,rfl,x3⟩|⟨x1,x2,x3⟩
 simp only[x1,Bool.false_eq_true,if_false];exact go () W (Rel.refl _ W) trivial;simp only[x1,if_true];obtain⟨w',hr,he⟩:=x3 W hWp hFp;refine .inl ?_;unfold Oper.wp;rw[hr];exact go () w' he trivial;simp only[x1,if_true];have h3:=x3 W hWp hFp;refine .inl ?_;unfold Qs at h3;unfold Oper.wp;generalize(execOp a.eval o).run P W=r at*;cases r with
 |ok n w'=>
  cases n<;>simp only[Zp]at h3<;>simp only[Oper.upon]
  case value u=>obtain⟨p,rfl,hp,he⟩:=h3;exact go p w' he hp
  case skip=>obtain⟨p,hu,hp,he⟩:=h3;rw[hu];exact go p w' he hp
  case enter f args=>obtain⟨he,az⟩:=h3;refine az.mono λe w'' ⟨p,he1,hp,iW⟩=>?_;subst he1;exact go p w'' (Rel.trans _ he iW) hp
 |halt x w'=>simp only[Zp]at h3
theorem TH(hle:∀a b,R0.r a b->R.r a b){H:Nat->Option Qb}(hH:qcc R0 R c kp H){L:Array Bool}{t:Nat}{Q:Act->qN->Prop}{Q':Exit->Act->E->Prop}(hQ:∀a F W,Q a F->R.r w0 W->(∀k,kp k=s->F k W)->wpAny P .any ops Q' t L a W):∀(fuel:Nat)(listed:Array Bool)(a:Act)(F:qN)(W:E),Uj R0 R c kp listed F->R.r w0 W->(listed.getD c s=D->R0.r w0 W/\∀k,F k W)->(∀k,kp k=s->F k W)->qah R0 R c kp P ops w0 H L Q fuel listed a F->wpAny P .any ops Q' (fuel+t) listed a W
 |0,listed,a,F,W,_,hW,_,hF,h=>by rw[h.1,Nat.zero_add];exact hQ a F W h.2 hW hF
 |fuel+1,listed,a,F,W,aJ,hW,iV,hF,h=>by rw[show fuel+1+t=fuel+t+1 by omega];refine⟨λh0=>absurd h0 h.1,λi hi=>?_⟩;obtain⟨yL,o,ho,_⟩:=mem_ready.1 hi;exact qep hle yL ho hH aJ hW iV hF (λa' F' W' hk eQ bZ hLN nC=>TH hle hH hQ fuel _ a' F' W' eQ bZ hLN nC hk) (h.2 i hi o ho)
theorem qew{l:List Oper}{Q:Exit->Act->E->Prop}{fuel:Nat}{listed:Array Bool}{a:Act}{w W:E}(R0 R:Rel)(c:Nat)(kp:Nat->Bool)(hle:∀a b,R0.r a b->R.r a b)(H:Nat->Option Qb)(M:List Bool)(t:Nat)(hs:Region.noSelect l.toArray=s)(ht:qfr l.toArray (QW l.length (l.length-t)) ((qv 0 l M).map (·.1))=s)(dX:YX l.toArray listed=s)(hB:Zu l.toArray (QW l.length (l.length-t)) ((qv 0 l M).map (·.1)) listed=s)(mD:qaa l.toArray t (l.length-t) (QW l.length (l.length-t))=s)(hfu:fuel=(qv 0 l M).length+t)(mO:(l.drop (l.length-t)).length=t)(hwc:(kp c&&qgC l.toArray c&&befD c ((qv 0 l M).map (·.1)) (listed.getD c D))=s)(hH:qcc R0 R c kp H)(hW:R0.r w W)(h:∀K:Act->qN->Prop,(∀a' F',(∀W,R.r w W->(∀k,kp k=s->F' k W)->wpList P l.toArray Q (l.drop (l.length-t)) a' W)->K a' F')->JY R0 R c kp P l.toArray w H K (qv 0 l M) listed a (λ_ _=>True)):wpAny P .any l.toArray Q fuel listed a W:=by
 have h:=h _ (λa' F' hh=>hh);subst hfu;simp only[Bool.and_eq_true]at hwc;have aJ:Uj R0 R c kp listed (λ_ _=>True):=⟨λ_ _ _ _ _=>trivial,λ_ _ _ _ _ _ _=>trivial⟩
 have key:=qbI hle hwc.1.1 hwc.1.2 (w0:=w) hH hs (Xy ht) (qv 0 l M) listed a (λ_ _=>True) (vC dX) (λx hx=>by obtain⟨j,h1,h2⟩:=vK l M 0 x hx;refine⟨?_,List.mem_map.2 ⟨x,hx,rfl⟩⟩;rw[h1,Nat.zero_add];simpa using h2) hB hwc.2 aJ ⟨W,hle _ _ hW,λ_=>⟨hW,λ_=>trivial⟩,λ_ _=>trivial⟩ (λ_ _ _=>trivial) h;refine TH hle (w0:=w) hH (t:=t) (Q':=Q) (λa F W hq hW hF=>?_) _ _ _ _ W aJ (hle _ _ hW) (λ_=>⟨hW,λ_=>trivial⟩) (λ_ _=>trivial) key;have:=Kg (l.drop (l.length-t)) (l.length-t) _ a W (λj _=>by rw[List.getElem?_drop];simp) (by rw[mO];exact mD) (hq W hW hF)
 rwa [mO]at this
theorem GN{l:List (Nat×Qb)}(h:∀x∈l,∀p,qS R0 (x.2.φ p)/\(x.1≠c->kp x.1=s->qS R (x.2.φ p))):qcc R0 R c kp (qP l):=by
 induction l with
 |nil=>intro i hh e;cases e
 |cons x l ih=>
  intro i hh e p;unfold qP at e;split at e;rename_i hx;cases e;have:=h x List.mem_cons_self p;subst hx;exact this;exact ih (λy hy=>h y (List.mem_cons_of_mem _ hy)) i hh e p
/-! ### the steps of the walk -/
section
variable {H:Nat->Option Qb} {Q:Act->qN->Prop} {k:Nat} {o:Oper} {rest:List (Nat×Oper)} {a:Act} {F:qN} {listed:Array Bool}
theorem qeF(h:Q a F):JY R0 R c kp P ops w0 H Q [] listed a F:=h
theorem Jo(hle:∀a b,R0.r a b->R.r a b)(v:Value)(hw:Region.wanted o (yielded ops a.tmps)=s)(hH:H k=none)(hv:∀W,R.r w0 W->(execOp a.eval o).run P W=.ok (.value v) W)(h:JY R0 R c kp P ops w0 H Q rest (listed.setIfInBounds k s) (a.put o.dst v) (VV F k λ_=>True)):JY R0 R c kp P ops w0 H Q ((k,o)::rest) listed a F:=
 ⟨one v,.inr (.inl ⟨hw,hH,v,rfl,λW hW _=>⟨W,hv W (by unfold preD at hW;split at hW;exact hle _ _ hW;exact hW),Rel.refl _ W⟩⟩),λ_ _=>h⟩
theorem Jp(hw:Region.wanted o (yielded ops a.tmps)=D)(h:JY R0 R c kp P ops w0 H Q rest (listed.setIfInBounds k s) (a.put o.dst undef) (VV F k λ_=>True)):JY R0 R c kp P ops w0 H Q ((k,o)::rest) listed a F:=
 ⟨one undef,.inl ⟨hw,rfl⟩,λ_ _=>h⟩
theorem Xa(hh:Qb)(hw:Region.wanted o (yielded ops a.tmps)=s)(hH:H k=hh)(hk:k≠c)(hv:∀W,R.r w0 W->(∀j∈qO o,kp j=s->F j W)->Qs R0 P o a W hh)(h:∀p,JY R0 R c kp P ops w0 H Q rest (listed.setIfInBounds k s) (a.put o.dst (hh.f p)) (VV F k (hh.φ p))):JY R0 R c kp P ops w0 H Q ((k,o)::rest) listed a F:=
 ⟨hh,.inr (.inr ⟨hw,hH,λW hW hF=>by unfold preD at hW;unfold qdw;rw[if_neg hk]at hW⊢;exact hv W hW λj hj hj2=>hF j hj (.inr hj2)⟩),λp _=>h p⟩
theorem qcx(hh:Qb)(hw:Region.wanted o (yielded ops a.tmps)=s)(hH:H c=hh)(hv:∀W,R0.r w0 W->(∀j∈qO o,F j W)->Qs R P o a W hh)(h:∀p,JY R0 R c kp P ops w0 H Q rest (listed.setIfInBounds c s) (a.put o.dst (hh.f p)) (VV F c (hh.φ p))):JY R0 R c kp P ops w0 H Q ((c,o)::rest) listed a F:=
 ⟨hh,.inr (.inr ⟨hw,hH,λW hW hF=>by unfold preD at hW;unfold qdw;rw[if_pos rfl]at hW⊢;exact hv W hW λj hj=>hF j hj (.inl rfl)⟩),λp _=>h p⟩
end
end
end
section
variable {F0:Fence} {R0 R:Rel} {c:Nat} {kp:Nat->Bool} {P:Program} {ops:Array Oper} {w0:World} {n:Nat}
end
end Go.Proofs.YtmeadnlmepcmbaaGreat
