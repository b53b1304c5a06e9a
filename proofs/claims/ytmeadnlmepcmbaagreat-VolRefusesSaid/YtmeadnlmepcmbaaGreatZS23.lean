/- Lemmas of the proof. -/
import Derived.Test.YtmeadnlmepcmbaaGreatZS12
set_option linter.all false
set_option maxHeartbeats 8000000
open Go.Proofs.Tryz
open Bool renaming true→s,false→D
open Go renaming World→E
namespace Go.Proofs.YtmeadnlmepcmbaaGreat
open Go.RowKit
section
variable {R0 R:Rel} {c:Nat} {kp:Nat->Bool}
def preD(R0 R:Rel)(c i:Nat):Rel:=if i=c then R0 else R
def qdC(R0 R:Rel)(c i:Nat):Rel:=if i=c then R else R0
def VZ(F:qR)(i:Nat)(φ:E->Prop):qR:=λk=>if k=i then φ else F k
theorem qfv(F:qR){i j:Nat}(φ ψ:E->Prop)(hne:i≠j):VZ (VZ F i φ) j ψ=VZ (VZ F j ψ) i φ:=by funext k;unfold VZ;by_cases hj:k=j;subst hj;rw[if_pos rfl,if_neg (Ne.symm hne),if_pos rfl];rw[if_neg hj,if_neg hj]
theorem YR(F:qR)(i:Nat)(φ:E->Prop):VZ F i φ i=φ:=if_pos rfl
theorem vp(F:qR){i k:Nat}(φ:E->Prop)(h:k≠i):VZ F i φ k=F k:=if_neg h
section
variable {P:Program} {ops:Array Oper} {w0:World}
def JZ(R0 R:Rel)(c:Nat)(kp:Nat->Bool)(P:Program)(ops:Array Oper)(w0:E)(H:Nat->Option Qd)(i:Nat)(o:Oper)(a:Act)(F:qR)(h:Qd):Prop:=
 (Region.wanted o (yielded ops a.tmps)=D/\h=one undef) \/
 (Region.wanted o (yielded ops a.tmps)=s/\H i=none/\∃v,h=one v/\∀W,(preD R0 R c i).r w0 W->(∀k∈qS o,(i=c\/kp k=s)->F k W)->JJ (qdC R0 R c i) P o a W v) \/
 (Region.wanted o (yielded ops a.tmps)=s/\H i=h/\∀W,(preD R0 R c i).r w0 W->(∀k∈qS o,(i=c\/kp k=s)->F k W)->Qw (qdC R0 R c i) P o a W h)
def qaT(R0 R:Rel)(c:Nat)(kp:Nat->Bool)(w0:E)(listed:Array Bool)(F:qR):Prop:=∃W,R.r w0 W/\(listed.getD c s=D->R0.r w0 W/\∀k,F k W)/\∀k,kp k=s->F k W
def FOpD(R0 R:Rel)(c:Nat)(kp:Nat->Bool)(P:Program)(ops:Array Oper)(w0:E)(H:Nat->Option Qd)(listed:Array Bool)(i:Nat)(o:Oper)(K:Act->qR->Prop)(a:Act)(F:qR):Prop:=
 ∃h,JZ R0 R c kp P ops w0 H i o a F h/\∀p,qaT R0 R c kp w0 (listed.setIfInBounds i s) (VZ F i (h.φ p))->K (a.put o.dst (h.f p)) (VZ F i (h.φ p))
def vw(R0 R:Rel)(c:Nat)(kp:Nat->Bool)(P:Program)(ops:Array Oper)(w0:E)(H:Nat->Option Qd)(Q:Act->qR->Prop):List (Nat×Oper)->Array Bool->Act->qR->Prop
 |[],_,a,F=>Q a F
 |(k,o)::rest,listed,a,F=>FOpD R0 R c kp P ops w0 H listed k o (λa' F'=>vw R0 R c kp P ops w0 H Q rest (listed.setIfInBounds k s) a' F') a F
def qaj(R0 R:Rel)(c:Nat)(kp:Nat->Bool)(P:Program)(ops:Array Oper)(w0:E)(H:Nat->Option Qd)(L:Array Bool)(Q:Act->qR->Prop):Nat->Array Bool->Act->qR->Prop
 |0,listed,a,F=>listed=L/\Q a F
 |fuel+1,listed,a,F=>Region.ready .any ops listed≠[]/\∀i∈Region.ready .any ops listed,∀o,ops[i]?=some o->FOpD R0 R c kp P ops w0 H listed i o (qaj R0 R c kp P ops w0 H L Q fuel (listed.setIfInBounds i s)) a F
theorem stpD_le(hle:∀a b,R0.r a b->R.r a b){i:Nat}{W W':E}(h:(qdC R0 R c i).r W W'):R.r W W':=by unfold qdC at h;split at h;exact h;exact hle _ _ h
theorem unsetD{listed:Array Bool}{i c:Nat}(hi:listed.getD i s=D)(hc:(listed.setIfInBounds i s).getD c s=D):i≠c/\listed.getD c s=D:=by
 have hne:i≠c:=λe=>by
  subst e;rcases Nat.lt_or_ge i listed.size with h'|h'
  simp[h']at hc;simp[Array.getElem?_eq_none h']at hi
 exact⟨hne,by rwa [getD_set_ne s hne]at hc⟩
def Up(R0 R:Rel)(c:Nat)(kp:Nat->Bool)(listed:Array Bool)(F:qR):Prop:=(∀k,qU R0 (F k))/\(listed.getD c s=D->∀k,kp k=s->qU R (F k))
def qcj(R0 R:Rel)(c:Nat)(kp:Nat->Bool)(H:Nat->Option Qd):Prop:=∀i h,H i=some h->∀p,qU R0 (h.φ p)/\(i≠c->kp i=s->qU R (h.φ p))
theorem JZ.lasts{H:Nat->Option Qd}(hH:qcj R0 R c kp H){listed:Array Bool}{i:Nat}{o:Oper}{a:Act}{F:qR}{h:Qd}(hi:listed.getD i s=D)(hl:Up R0 R c kp listed F)(x:JZ R0 R c kp P ops w0 H i o a F h)(p:h.α):Up R0 R c kp (listed.setIfInBounds i s) (VZ F i (h.φ p)):=by
 have hs:qU R0 (h.φ p)/\(i≠c->kp i=s->qU R (h.φ p)):=by
  rcases x with⟨_,rfl⟩|⟨_,_,v,rfl,_⟩|⟨_,x2,_⟩
  exact⟨λ_ _ _ _=>trivial,λ_ _ _ _ _ _=>trivial⟩;exact⟨λ_ _ _ _=>trivial,λ_ _ _ _ _ _=>trivial⟩;exact hH i h x2 p
 constructor;intro k;by_cases e:k=i;subst e;rw[YR];exact hs.1;rw[vp _ _ e];exact hl.1 k;intro hc k hk;obtain⟨hne,hcl⟩:=unsetD hi hc;by_cases e:k=i;subst e;rw[YR];exact hs.2 hne hk;rw[vp _ _ e];exact hl.2 hcl k hk
theorem qfs(hle:∀a b,R0.r a b->R.r a b){listed:Array Bool}{F:qR}{i:Nat}{W W':E}{φ:E->Prop}(hi:listed.getD i s=D)(hl:Up R0 R c kp listed F)(h:(qdC R0 R c i).r W W')(hφ:φ W')(hW:R.r w0 W)(h0:listed.getD c s=D->R0.r w0 W/\∀k,F k W)(hF:∀k,kp k=s->F k W):R.r w0 W'/\((listed.setIfInBounds i s).getD c s=D->R0.r w0 W'/\∀k,VZ F i φ k W')/\∀k,kp k=s->VZ F i φ k W':=by refine⟨R.trans hW (stpD_le hle h),λhc=>?_,λk hk=>?_⟩;obtain⟨hne,hcl⟩:=unsetD hi hc;unfold qdC at h;rw[if_neg hne]at h;refine⟨R0.trans (h0 hcl).1 h,λk=>?_⟩;by_cases e:k=i;subst e;rw[YR];exact hφ;rw[vp _ _ e];exact hl.1 k _ _ h ((h0 hcl).2 k);by_cases e:k=i;subst e;rw[YR];exact hφ;rw[vp _ _ e];unfold qdC at h;split at h;rename_i hic;subst hic;exact hl.2 hi k hk _ _ h (hF k hk);exact hl.1 k _ _ h (hF k hk)
theorem qcr{listed:Array Bool}{F:qR}{i:Nat}{W:E}(hi:listed.getD i s=D)(hW:R.r w0 W)(h0:listed.getD c s=D->R0.r w0 W/\∀k,F k W)(hF:∀k,kp k=s->F k W){ks:List Nat}:(preD R0 R c i).r w0 W/\∀k∈ks,(i=c\/kp k=s)->F k W:=by
 constructor;unfold preD;split;rename_i e;subst e;exact(h0 hi).1;exact hW;intro k _ hk;rcases hk with rfl|hk
 exact(h0 hi).2 k;exact hF k hk
theorem JZ.unique{H:Nat->Option Qd}{listed:Array Bool}{i:Nat}{o:Oper}{a:Act}{F:qR}{h h':Qd}(hc:qaT R0 R c kp w0 listed F)(hi:listed.getD i s=D)(x:JZ R0 R c kp P ops w0 H i o a F h)(y:JZ R0 R c kp P ops w0 H i o a F h'):h=h':=by
 obtain⟨W,hW,hW0,hF⟩:=hc;obtain⟨hW,hF⟩:=qcr (ks:=qS o) hi hW hW0 hF;rcases x with⟨x1,rfl⟩|⟨x1,x2,v,rfl,x3⟩|⟨x1,x2,x3⟩<;>rcases y with⟨y1,rfl⟩|⟨y1,y2,u,rfl,y3⟩|⟨y1,y2,y3⟩
 rfl;rw[x1]at y1;cases y1;rw[x1]at y1;cases y1;rw[x1]at y1;cases y1;obtain⟨w1,e1,_⟩:=x3 W hW hF;obtain⟨w2,e2,_⟩:=y3 W hW hF;rw[e1]at e2;cases e2;rfl;rw[x2]at y2;cases y2;rw[x1]at y1;cases y1;rw[x2]at y2;cases y2;rw[x2]at y2;cases y2;rfl
theorem JZ.some_(hle:∀a b,R0.r a b->R.r a b){H:Nat->Option Qd}{listed:Array Bool}{i:Nat}{o:Oper}{a:Act}{F:qR}{h:Qd}(hc:qaT R0 R c kp w0 listed F)(hi:listed.getD i s=D)(hl:Up R0 R c kp listed F)(x:JZ R0 R c kp P ops w0 H i o a F h):∃p,qaT R0 R c kp w0 (listed.setIfInBounds i s) (VZ F i (h.φ p)):=by
 obtain⟨W,hW,hW0,hF⟩:=hc;have triv:∀(φ:E->Prop)W',(qdC R0 R c i).r W W'->φ W'->qaT R0 R c kp w0 (listed.setIfInBounds i s) (VZ F i φ):=λφ W' he hφ=>⟨W',qfs hle hi hl he hφ hW hW0 hF⟩
 obtain⟨hWp,hFp⟩:=qcr (ks:=qS o) hi hW hW0 hF;rcases x with⟨x1,rfl⟩|⟨x1,x2,v,rfl,x3⟩|⟨x1,x2,x3⟩
 exact⟨(),triv _ W (Rel.refl _ W) trivial⟩;obtain⟨w',_,he⟩:=x3 W hWp hFp;exact⟨(),triv _ w' he trivial⟩;have h3:=x3 W hWp hFp;unfold Qw at h3;generalize(execOp a.eval o).run P W=r at h3;cases r with
 |ok n w'=>
  cases n<;>simp only[Zn]at h3
  case value u=>obtain⟨p,_,hp,he⟩:=h3;exact⟨p,triv _ w' he hp⟩
  case skip=>obtain⟨p,_,hp,he⟩:=h3;exact⟨p,triv _ w' he hp⟩
  case enter f args=>obtain⟨he,hcl⟩:=h3;obtain⟨e,w'',fr,⟨p,_,hp,he2⟩,_⟩:=hcl [];exact⟨p,triv _ w'' (Rel.trans _ he he2) hp⟩
 |halt x w'=>simp only[Zn]at h3
theorem JZ.move{H:Nat->Option Qd}{i j:Nat}{oi oj:Oper}{a:Act}{F:qR}{h:Qd}{v:Value}{φ:E->Prop}(hap:oi.apart ops oj=s)(hsj:∀cs b,oj.op≠.select cs b)(hn:i∉qS oj):JZ R0 R c kp P ops w0 H j oj (a.put oi.dst v) (VZ F i φ) h↔JZ R0 R c kp P ops w0 H j oj a F h:=by
 obtain⟨h1,_,_⟩:=Oper.apart_spec hap;have hF:∀W,(∀k∈qS oj,(j=c\/kp k=s)->VZ F i φ k W)↔∀k∈qS oj,(j=c\/kp k=s)->F k W:=λW=>by constructor<;>intro hh k hk h1;have:=hh k hk h1;rwa [vp _ _ (λe=>hn (by rw[<-e];exact hk))]at this;rw[vp _ _ (λe=>hn (by rw[<-e];exact hk))];exact hh k hk h1
 unfold JZ JJ Qw;rw[wanted_put oj a oi.dst v h1,execOp_put oj hsj a oi.dst v h1];simp only[hF]
theorem JZ.move'{H:Nat->Option Qd}{i j:Nat}{oi oj:Oper}{a:Act}{F:qR}{h:Qd}{v:Value}{φ:E->Prop}(hap:oi.apart ops oj=s)(hsi:∀cs b,oi.op≠.select cs b)(hn:j∉qS oi):JZ R0 R c kp P ops w0 H i oi (a.put oj.dst v) (VZ F j φ) h↔JZ R0 R c kp P ops w0 H i oi a F h:=by
 obtain⟨_,_,h3⟩:=Oper.apart_spec hap;have hF:∀W,(∀k∈qS oi,(i=c\/kp k=s)->VZ F j φ k W)↔∀k∈qS oi,(i=c\/kp k=s)->F k W:=λW=>by constructor<;>intro hh k hk h1;have:=hh k hk h1;rwa [vp _ _ (λe=>hn (by rw[<-e];exact hk))]at this;rw[vp _ _ (λe=>hn (by rw[<-e];exact hk))];exact hh k hk h1
 unfold JZ JJ Qw;rw[wanted_put oi a oj.dst v h3,execOp_put oi hsi a oj.dst v h3];simp only[hF]
def qgF(ops:Array Oper)(c:Nat):Bool:=(List.range c).all λk=>UE ops 9 c k
theorem qiV(h:qgF ops c=s){listed:Array Bool}(hc:Vm ops listed)(hr:c∈Region.ready .any ops listed):∀k,k<c->listed.getD k D=s:=λk hk=>
 Vf hc 9 c k (λo' ho'=>VT hr ho') (List.all_eq_true.1 h k (List.mem_range.2 hk))
theorem Tj{listed:Array Bool}{k:Nat}(h0:listed.getD k s=D)(h1:listed.getD k D=s):False:=by
 rcases Nat.lt_or_ge k listed.size with h'|h'
 simp[h']at h0 h1;rw[h0]at h1;cases h1;simp[Array.getElem?_eq_none h']at h1
theorem qen(hle:∀a b,R0.r a b->R.r a b)(hkc:kp c=s)(hwc:qgF ops c=s){H:Nat->Option Qd}(hH:qcj R0 R c kp H){A:Nat->Prop}{L:Array Bool}{Q:Act->qR->Prop}{i:Nat}{oi:Oper}(hi:ops[i]?=oi)(him:A i)(hIU:∀(j:Nat)(o:Oper)cs b,ops[j]?=o->o.op≠.select cs b)(hCT:∀(listed:Array Bool)(j:Nat),Vm ops listed->j∈Region.ready .any ops listed->L.getD j s=D->∀k,A k->listed.getD k D=s):∀(fuel:Nat)(listed:Array Bool)(a:Act)(F:qR),Vm ops listed -> (∀j oj,ops[j]?=some oj->j≠i->listed.getD j s=D->(∀e∈oj.after,Region.binds .any e=s->e.on≠i)->oi.apart ops oj=s) -> (i<=c\/listed.getD c D=s)->i∈Region.ready .any ops listed->Up R0 R c kp listed F->qaT R0 R c kp w0 listed F->(∀k,listed.getD k s=D->∀W,F k W) ->
   FOpD R0 R c kp P ops w0 H listed i oi (qaj R0 R c kp P ops w0 H L Q fuel (listed.setIfInBounds i s)) a F->qaj R0 R c kp P ops w0 H L Q (fuel+1) listed a F:=by
 intro fuel;induction fuel with
 |zero=>
  intro listed a F hCl _ _ hr hst hc _ hop;refine⟨λh=>(by rw[h]at hr;cases hr),λj hj oj hoj=>?_⟩;by_cases hji:j=i;subst hji;rw[hi]at hoj;cases hoj;exact hop;exfalso;obtain⟨h,hok,hK⟩:=hop;obtain⟨p,hcp⟩:=hok.some_ hle hc (mem_ready.1 hr).1 hst;have hmj:L.getD j s=D:=by rw[<-(hK p hcp).1];exact(mem_ready.1 (ready_mono hj hji)).1
  exact Tj (mem_ready.1 hr).1 (hCT listed j hCl hj hmj i him)
 |succ fuel ih=>
  intro listed a F hCl hEX hic hr hst hc hun hop;refine⟨λh=>(by rw[h]at hr;cases hr),λj hj oj hoj=>?_⟩;by_cases hji:j=i;subst hji;rw[hi]at hoj;cases hoj;exact hop;obtain⟨hCU,oj',hJH,hCC⟩:=mem_ready.1 hj;rw[hoj]at hJH;cases hJH;obtain⟨hJO,oi',hKE,hIJ⟩:=mem_ready.1 hr;rw[hi]at hKE;cases hKE;have hKC:∀e∈oj.after,Region.binds .any e=s->e.on≠i:=λe he hb heq=>Tj hJO (heq▸hCC e he hb);have hKD:∀e∈oi.after,Region.binds .any e=s->e.on≠j:=λe he hb heq=>Tj hCU (heq▸hIJ e he hb);have hpi:i∉qS oj:=λhin=>by obtain⟨e,he,hei⟩:=List.mem_map.1 hin;rw[List.mem_filter]at he;exact hKC e (by simpa using he.1) he.2 hei
  have hpj:j∉qS oi:=λhin=>by obtain⟨e,he,hei⟩:=List.mem_map.1 hin;rw[List.mem_filter]at he;exact hKD e (by simpa using he.1) he.2 hei
  have hjc:j≠c:=λe=>by
   subst e;rcases hic with h|h
   exact Tj hJO (qiV hwc hCl hj i zO);exact Tj hCU h
  have hap:=hEX j oj hoj hji hCU hKC;have hsi:∀cs b,oi.op≠.select cs b:=λcs b=>hIU i oi cs b hi;have hsj:∀cs b,oj.op≠.select cs b:=λcs b=>hIU j oj cs b hoj;obtain⟨h2,_⟩:=(Oper.apart_spec hap).2;obtain⟨hI,okI,hKI⟩:=hop;obtain⟨p0,hOD⟩:=okI.some_ hle hc hJO hst;obtain⟨hJ,okJ0,_⟩:=(hKI p0 hOD).2 j (ready_mono hj hji) oj hoj;have okJ:JZ R0 R c kp P ops w0 H j oj a F hJ:=(JZ.move hap hsj hpi).1 okJ0;refine⟨hJ,okJ,λq hcq=>?_⟩;have hGZ:∀k ok,ops[k]?=some ok->k≠i->(listed.setIfInBounds j s).getD k s=D ->
    (∀e∈ok.after,Region.binds .any e=s->e.on≠i)->oi.apart ops ok=s:=λk ok hk hki hKM hno=>by
   refine hEX k ok hk hki ?_ hno;by_cases hjk:j=k;subst hjk;exact hCU;rw[getD_set_ne s hjk]at hKM;exact hKM
  refine ih (listed.setIfInBounds j s) _ _ (hCl.step hj) hGZ (hic.imp id λh=>VD h) (ready_mono hr (Ne.symm hji)) (okJ.lasts hH hCU hst q) hcq ?_ ?_;intro k hk W;by_cases hjk:j=k;subst hjk;exfalso;have hlt:j<listed.size:=by
   rcases Nat.lt_or_ge j listed.size with h'|h'
   exact h';simp[Array.getElem?_eq_none h']at hCU
  simp[hlt]at hk;rw[getD_set_ne s hjk]at hk;rw[vp _ _ (λe=>hjk e.symm)];exact hun k hk W;refine⟨hI,(JZ.move' hap hsi hpj).2 okI,λp hcp=>?_⟩;have hPT:qaT R0 R c kp w0 (listed.setIfInBounds i s) (VZ F i (hI.φ p)):=by
   obtain⟨W,hW,hW0,hF⟩:=hcp;have key:∀k,VZ (VZ F j (hJ.φ q)) i (hI.φ p) k W->VZ F i (hI.φ p) k W:=λk hk=>by
    by_cases hki:k=i;subst hki;rw[YR]at hk⊢;exact hk;rw[vp _ _ hki]at hk⊢;by_cases hkj:k=j;subst hkj;exact hun k hCU W
    rwa [vp _ _ hkj]at hk
   refine⟨W,hW,λh=>?_,λk hk=>key k (hF k hk)⟩;have h':=hW0 (by rw[Array.setIfInBounds_comm _ _ hji,getD_set_ne s hjc];exact h);exact⟨h'.1,λk=>key k (h'.2 k)⟩
  obtain⟨hJ',okJ',hPN⟩:=(hKI p hPT).2 j (ready_mono hj hji) oj hoj;have okJ'':JZ R0 R c kp P ops w0 H j oj a F hJ':=(JZ.move hap hsj hpi).1 okJ';have e:=okJ''.unique hc hCU okJ;subst e;have hq:=hPN q (by rw[qfv F _ _ (Ne.symm hji),Array.setIfInBounds_comm _ _ (λe=>hji e.symm)];exact hcp);rw[Array.setIfInBounds_comm _ _ (λe=>hji e.symm),Act.put_comm a (hI.f p) (hJ'.f q) h2,qfv F _ _ (Ne.symm hji)]at hq;exact hq
def befD(c:Nat):List Nat->Bool->Bool
 |[],_=>s
 |k::l,d=>if d=s then befD c l s else if k=c then befD c l s else decide (k<c)&&befD c l D
theorem qbI(hle:∀a b,R0.r a b->R.r a b)(hkc:kp c=s)(hwc:qgF ops c=s){H:Nat->Option Qd}(hH:qcj R0 R c kp H){L:Array Bool}{ks:List Nat}{Q:Act->qR->Prop}(hs:Region.noSelect ops=s)(hCT:∀(listed:Array Bool)(j:Nat),Vm ops listed->j∈Region.ready .any ops listed->L.getD j s=D->∀k,k∈ks->listed.getD k D=s):∀(l:List (Nat×Oper))(listed:Array Bool)(a:Act)(F:qR),Vm ops listed->(∀x∈l,ops[x.1]?=some x.2/\x.1∈ks) ->
  Zs ops L (l.map (·.1)) listed=s->befD c (l.map (·.1)) (listed.getD c D)=s->Up R0 R c kp listed F->qaT R0 R c kp w0 listed F->(∀j,listed.getD j s=D->∀W,F j W)->vw R0 R c kp P ops w0 H Q l listed a F->qaj R0 R c kp P ops w0 H L Q l.length listed a F
 |[],listed,a,F,_,_,hB,_,_,_,_,h=>⟨by simpa [Zs]using hB,h⟩
 |(k,o)::l,listed,a,F,hCl,hl,hB,hb,hst,hc,hun,h=>by
  obtain⟨h0,hks⟩:=hl (k,o) (List.mem_cons_self);simp only[List.map_cons,Zs,Bool.and_eq_true]at hB;obtain⟨⟨hr,hf⟩,hB'⟩:=hB;have hrk:k∈Region.ready .any ops listed:=by simpa using hr
  have hOI:=(mem_ready.1 hrk).1;have hlt:k<listed.size:=by
   rcases Nat.lt_or_ge k listed.size with h'|h'
   exact h';simp[Array.getElem?_eq_none h']at hOI
  have hb2:(k<=c\/listed.getD c D=s)/\befD c (l.map (·.1)) ((listed.setIfInBounds k s).getD c D)=s:=by simp only[List.map_cons]at hb;unfold befD at hb;split at hb;rename_i hd;exact⟨.inr hd,by rw[VD hd];exact hb⟩;rename_i hd;split at hb;rename_i hkc;subst hkc;exact⟨.inl (zM _),by rw[show(listed.setIfInBounds k s).getD k D=s by simp[hlt]];exact hb⟩;rename_i hkc;simp only[Bool.and_eq_true,decide_eq_true_eq]at hb;refine⟨.inl (Nat.le_of_lt hb.1),?_⟩;rw[show(listed.setIfInBounds k s).getD c D=D by rw[getD_set_ne D hkc];simpa using hd];exact hb.2
  refine qen hle hkc hwc (A:=λk=>k∈ks) hH h0 hks (Region.noSelect_spec hs) hCT l.length listed a F hCl (Region.free_spec h0 hf) hb2.1 hrk hst hc hun ?_;obtain⟨hh,hok,hK⟩:=h;refine⟨hh,hok,λp hcp=>?_⟩;refine qbI hle hkc hwc hH hs hCT l _ _ _ (hCl.step hrk) (λx hx=>hl x (List.mem_cons_of_mem _ hx)) hB' hb2.2 (hok.lasts hH hOI hst p) hcp (λj hj W=>?_) (hK p hcp);by_cases hjk:k=j;subst hjk;simp[hlt]at hj;rw[getD_set_ne s hjk]at hj;rw[vp _ _ (λe=>hjk e.symm)];exact hun j hj W
theorem qer(hle:∀a b,R0.r a b->R.r a b){H:Nat->Option Qd}{i:Nat}{o:Oper}{a:Act}{F:qR}{K:Act->qR->Prop}{K':Act->E->Prop}{Q':Exit->Act->E->Prop}{W:E}{listed:Array Bool}(hli:listed.getD i s=D)(hi:ops[i]?=o)(hH:qcj R0 R c kp H)(hst:Up R0 R c kp listed F)(hW:R.r w0 W)(hW0:listed.getD c s=D->R0.r w0 W/\∀k,F k W)(hF:∀k,kp k=s->F k W)(hK:∀a' F' W',K a' F'->Up R0 R c kp (listed.setIfInBounds i s) F'->R.r w0 W'->((listed.setIfInBounds i s).getD c s=D->R0.r w0 W'/\∀k,F' k W')->(∀k,kp k=s->F' k W')->K' a' W')(h:FOpD R0 R c kp P ops w0 H listed i o K a F):wpOp P ops Q' i K' a W:=by
 obtain⟨hh,hok,hn⟩:=h;have go:∀p W',(qdC R0 R c i).r W W'->hh.φ p W'->K' (a.put o.dst (hh.f p)) W':=λp W' he hφ=>by obtain⟨h1,h2,h3⟩:=qfs hle hli hst he hφ hW hW0 hF;exact hK _ _ W' (hn p ⟨W',h1,h2,h3⟩) (hok.lasts hH hli hst p) h1 h2 h3
 obtain⟨hWp,hFp⟩:=qcr (ks:=qS o) hli hW hW0 hF;unfold wpOp;simp only[hi];rcases hok with⟨x1,rfl⟩|⟨x1,x2,v,rfl,x3⟩|⟨x1,x2,x3⟩
 simp only[x1,Bool.false_eq_true,if_false];exact go () W (Rel.refl _ W) trivial;simp only[x1,if_true];obtain⟨w',hr,he⟩:=x3 W hWp hFp;refine .inl ?_;unfold Oper.wp;rw[hr];exact go () w' he trivial;simp only[x1,if_true];have h3:=x3 W hWp hFp;refine .inl ?_;unfold Qw at h3;unfold Oper.wp;generalize(execOp a.eval o).run P W=r at*;cases r with
 |ok n w'=>
  cases n<;>simp only[Zn]at h3<;>simp only[Oper.upon]
  case value u=>obtain⟨p,rfl,hp,he⟩:=h3;exact go p w' he hp
  case skip=>obtain⟨p,hu,hp,he⟩:=h3;rw[hu];exact go p w' he hp
  case enter f args=>obtain⟨he,hcl⟩:=h3;refine hcl.mono λe w'' ⟨p,he1,hp,he2⟩=>?_;subst he1;exact go p w'' (Rel.trans _ he he2) hp
 |halt x w'=>simp only[Zn]at h3
theorem TO(hle:∀a b,R0.r a b->R.r a b){H:Nat->Option Qd}(hH:qcj R0 R c kp H){L:Array Bool}{t:Nat}{Q:Act->qR->Prop}{Q':Exit->Act->E->Prop}(hQ:∀a F W,Q a F->R.r w0 W->(∀k,kp k=s->F k W)->wpAny P .any ops Q' t L a W):∀(fuel:Nat)(listed:Array Bool)(a:Act)(F:qR)(W:E),Up R0 R c kp listed F->R.r w0 W->(listed.getD c s=D->R0.r w0 W/\∀k,F k W)->(∀k,kp k=s->F k W)->qaj R0 R c kp P ops w0 H L Q fuel listed a F->wpAny P .any ops Q' (fuel+t) listed a W
 |0,listed,a,F,W,_,hW,_,hF,h=>by rw[h.1,Nat.zero_add];exact hQ a F W h.2 hW hF
 |fuel+1,listed,a,F,W,hst,hW,hW0,hF,h=>by rw[show fuel+1+t=fuel+t+1 by omega];refine⟨λh0=>absurd h0 h.1,λi hi=>?_⟩;obtain⟨hli,o,ho,_⟩:=mem_ready.1 hi;exact qer hle hli ho hH hst hW hW0 hF (λa' F' W' hk hJP hW' wEZ hF'=>TO hle hH hQ fuel _ a' F' W' hJP hW' wEZ hF' hk) (h.2 i hi o ho)
theorem qew{l:List Oper}{Q:Exit->Act->E->Prop}{fuel:Nat}{listed:Array Bool}{a:Act}{w W:E}(R0 R:Rel)(c:Nat)(kp:Nat->Bool)(hle:∀a b,R0.r a b->R.r a b)(H:Nat->Option Qd)(M:List Bool)(t:Nat)(hs:Region.noSelect l.toArray=s)(ht:qfu l.toArray (QX l.length (l.length-t)) ((qA 0 l M).map (·.1))=s)(hc0:Xb l.toArray listed=s)(hB:Zs l.toArray (QX l.length (l.length-t)) ((qA 0 l M).map (·.1)) listed=s)(hKZ:qad l.toArray t (l.length-t) (QX l.length (l.length-t))=s)(hfu:fuel=(qA 0 l M).length+t)(htl:(l.drop (l.length-t)).length=t)(hwc:(kp c&&qgF l.toArray c&&befD c ((qA 0 l M).map (·.1)) (listed.getD c D))=s)(hH:qcj R0 R c kp H)(hW:R0.r w W)(h:∀K:Act->qR->Prop,(∀a' F',(∀W,R.r w W->(∀k,kp k=s->F' k W)->wpList P l.toArray Q (l.drop (l.length-t)) a' W)->K a' F')->vw R0 R c kp P l.toArray w H K (qA 0 l M) listed a (λ_ _=>True)):wpAny P .any l.toArray Q fuel listed a W:=by
 have h:=h _ (λa' F' hh=>hh);subst hfu;simp only[Bool.and_eq_true]at hwc;have hst:Up R0 R c kp listed (λ_ _=>True):=⟨λ_ _ _ _ _=>trivial,λ_ _ _ _ _ _ _=>trivial⟩
 have key:=qbI hle hwc.1.1 hwc.1.2 (w0:=w) hH hs (XB ht) (qA 0 l M) listed a (λ_ _=>True) (vN hc0) (λx hx=>by obtain⟨j,h1,h2⟩:=vV l M 0 x hx;refine⟨?_,List.mem_map.2 ⟨x,hx,rfl⟩⟩;rw[h1,Nat.zero_add];simpa using h2) hB hwc.2 hst ⟨W,hle _ _ hW,λ_=>⟨hW,λ_=>trivial⟩,λ_ _=>trivial⟩ (λ_ _ _=>trivial) h;refine TO hle (w0:=w) hH (t:=t) (Q':=Q) (λa F W hq hW hF=>?_) _ _ _ _ W hst (hle _ _ hW) (λ_=>⟨hW,λ_=>trivial⟩) (λ_ _=>trivial) key;have:=Kj (l.drop (l.length-t)) (l.length-t) _ a W (λj _=>by rw[List.getElem?_drop];simp) (by rw[htl];exact hKZ) (hq W hW hF)
 rwa [htl]at this
theorem GS{l:List (Nat×Qd)}(h:∀x∈l,∀p,qU R0 (x.2.φ p)/\(x.1≠c->kp x.1=s->qU R (x.2.φ p))):qcj R0 R c kp (qV l):=by
 induction l with
 |nil=>intro i hh e;cases e
 |cons x l ih=>
  intro i hh e p;unfold qV at e;split at e;rename_i hx;cases e;have:=h x List.mem_cons_self p;subst hx;exact this;exact ih (λy hy=>h y (List.mem_cons_of_mem _ hy)) i hh e p
/-! ### the steps of the walk -/
section
variable {H:Nat->Option Qd} {Q:Act->qR->Prop} {k:Nat} {o:Oper} {rest:List (Nat×Oper)} {a:Act} {F:qR} {listed:Array Bool}
theorem qeH(h:Q a F):vw R0 R c kp P ops w0 H Q [] listed a F:=h
theorem Jv(hle:∀a b,R0.r a b->R.r a b)(v:Value)(hw:Region.wanted o (yielded ops a.tmps)=s)(hH:H k=none)(hv:∀W,R.r w0 W->(execOp a.eval o).run P W=.ok (.value v) W)(h:vw R0 R c kp P ops w0 H Q rest (listed.setIfInBounds k s) (a.put o.dst v) (VZ F k λ_=>True)):vw R0 R c kp P ops w0 H Q ((k,o)::rest) listed a F:=
 ⟨one v,.inr (.inl ⟨hw,hH,v,rfl,λW hW _=>⟨W,hv W (by unfold preD at hW;split at hW;exact hle _ _ hW;exact hW),Rel.refl _ W⟩⟩),λ_ _=>h⟩
theorem Jw(hw:Region.wanted o (yielded ops a.tmps)=D)(h:vw R0 R c kp P ops w0 H Q rest (listed.setIfInBounds k s) (a.put o.dst undef) (VZ F k λ_=>True)):vw R0 R c kp P ops w0 H Q ((k,o)::rest) listed a F:=
 ⟨one undef,.inl ⟨hw,rfl⟩,λ_ _=>h⟩
theorem Xe(hh:Qd)(hw:Region.wanted o (yielded ops a.tmps)=s)(hH:H k=hh)(hk:k≠c)(hv:∀W,R.r w0 W->(∀j∈qS o,kp j=s->F j W)->Qw R0 P o a W hh)(h:∀p,vw R0 R c kp P ops w0 H Q rest (listed.setIfInBounds k s) (a.put o.dst (hh.f p)) (VZ F k (hh.φ p))):vw R0 R c kp P ops w0 H Q ((k,o)::rest) listed a F:=
 ⟨hh,.inr (.inr ⟨hw,hH,λW hW hF=>by unfold preD at hW;unfold qdC;rw[if_neg hk]at hW⊢;exact hv W hW λj hj hj2=>hF j hj (.inr hj2)⟩),λp _=>h p⟩
theorem qcA(hh:Qd)(hw:Region.wanted o (yielded ops a.tmps)=s)(hH:H c=hh)(hv:∀W,R0.r w0 W->(∀j∈qS o,F j W)->Qw R P o a W hh)(h:∀p,vw R0 R c kp P ops w0 H Q rest (listed.setIfInBounds c s) (a.put o.dst (hh.f p)) (VZ F c (hh.φ p))):vw R0 R c kp P ops w0 H Q ((c,o)::rest) listed a F:=
 ⟨hh,.inr (.inr ⟨hw,hH,λW hW hF=>by unfold preD at hW;unfold qdC;rw[if_pos rfl]at hW⊢;exact hv W hW λj hj=>hF j hj (.inl rfl)⟩),λp _=>h p⟩
end
end
end
section
variable {F0:Fence} {R0 R:Rel} {c:Nat} {kp:Nat->Bool} {P:Program} {ops:Array Oper} {w0:World} {n:Nat}
end
end Go.Proofs.YtmeadnlmepcmbaaGreat
