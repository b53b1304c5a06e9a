/- Lemmas of the proof. -/
import Derived.Deep.Slices
import Derived.Laws.MakeOwn
import Derived.Test.YtmeadnlmepcmbaaGreatZG08
set_option linter.all false
set_option maxHeartbeats 8000000
open Go.Proofs.Tryz
namespace Go.Proofs.YtmeadnlmepcmbaaGreat
open Go.RowKit
section
variable {R0 R:Rel} {c:Nat}
def preC(R0 R:Rel)(c i:Nat):Rel:=if i=c then R0 else R
def qbf(R0 R:Rel)(c i:Nat):Rel:=if i=c then R else R0
section
variable {P:Program} {ops:Array Oper} {w0:World}
def jX(R0 R:Rel)(c:Nat)(P:Program)(ops:Array Oper)(w0:World)(H:Nat->Option qZ)(i:Nat)(o:Oper)(a:Act)(F:qO)(h:qZ):Prop:=
 (Region.wanted o (yielded ops a.tmps)=false/\h=one undef) \/
 (Region.wanted o (yielded ops a.tmps)=true/\H i=none/\∃v,h=one v/\∀W,(preC R0 R c i).r w0 W->(∀k∈qN o,F k W)->Jn (qbf R0 R c i) P o a W v) \/
 (Region.wanted o (yielded ops a.tmps)=true/\H i=some h/\∀W,(preC R0 R c i).r w0 W->(∀k∈qN o,F k W)->Qr (qbf R0 R c i) P o a W h)
def qaf(R0 R:Rel)(c:Nat)(w0:World)(listed:Array Bool)(F:qO):Prop:=∃W,R.r w0 W/\(listed.getD c true=false->R0.r w0 W)/\∀k,F k W
def FOpC(R0 R:Rel)(c:Nat)(P:Program)(ops:Array Oper)(w0:World)(H:Nat->Option qZ)(listed:Array Bool)(i:Nat)(o:Oper)(K:Act->qO->Prop)(a:Act)(F:qO):Prop:=
 ∃h,jX R0 R c P ops w0 H i o a F h/\∀p,qaf R0 R c w0 (listed.setIfInBounds i true) (upd F i o (h.φ p))->K (a.put o.dst (h.f p)) (upd F i o (h.φ p))
def JO(R0 R:Rel)(c:Nat)(P:Program)(ops:Array Oper)(w0:World)(H:Nat->Option qZ)(Q:Act->qO->Prop):List (Nat×Oper)->Array Bool->Act->qO->Prop
 |[],_,a,F=>Q a F
 |(k,o)::rest,listed,a,F=>FOpC R0 R c P ops w0 H listed k o (λa' F'=>JO R0 R c P ops w0 H Q rest (listed.setIfInBounds k true) a' F') a F
def Gt(R0 R:Rel)(c:Nat)(P:Program)(ops:Array Oper)(w0:World)(H:Nat->Option qZ)(L:Array Bool)(Q:Act->qO->Prop):Nat->Array Bool->Act->qO->Prop
 |0,listed,a,F=>listed=L/\Q a F
 |fuel+1,listed,a,F=>Region.ready .any ops listed≠[]/\∀i∈Region.ready .any ops listed,∀o,ops[i]?=some o->FOpC R0 R c P ops w0 H listed i o (Gt R0 R c P ops w0 H L Q fuel (listed.setIfInBounds i true)) a F
theorem qfl{listed:Array Bool}{i:Nat}{W:World}(hi:listed.getD i true=false)(h:R.r w0 W)(h0:listed.getD c true=false->R0.r w0 W):(preC R0 R c i).r w0 W:=by
 unfold preC;split
 ·rename_i e;subst e;exact h0 hi
 ·exact h
theorem qka(hle:∀a b,R0.r a b->R.r a b){i:Nat}{W W':World}(h:(qbf R0 R c i).r W W'):R.r W W':=by
 unfold qbf at h;split at h
 ·exact h
 ·exact hle _ _ h
theorem stpC_0{listed:Array Bool}{i:Nat}{W W':World}(hi:listed.getD i true=false)(h:(qbf R0 R c i).r W W')(hc:(listed.setIfInBounds i true).getD c true=false):R0.r W W':=by
 unfold qbf at h;split at h
 ·rename_i e;subst e;exfalso;rcases Nat.lt_or_ge i listed.size with h'|h'
  ·simp[h']at hc
  ·simp[Array.getElem?_eq_none h']at hi
 ·exact h
theorem unset{listed:Array Bool}{i c:Nat}(hc:(listed.setIfInBounds i true).getD c true=false):listed.getD c true=false:=by
 by_cases e:i=c
 ·subst e;rcases Nat.lt_or_ge i listed.size with h'|h'
  ·simp[h']at hc
  ·simp at hc
 ·rwa [getD_set_ne true e]at hc
def Void(c:Nat)(listed:Array Bool)(F:qO):Prop:=listed.getD c true=false->∀k W,F k W
theorem keepC{listed:Array Bool}{F:qO}{i:Nat}{W W':World}(hi:listed.getD i true=false)(hst:∀k,qS R0 (F k))(hv:Void c listed F)(h:(qbf R0 R c i).r W W')(k:Nat)(hF:F k W):F k W':=by
 unfold qbf at h;split at h
 ·rename_i e;subst e;exact hv hi k W'
 ·exact hst k _ _ h hF
theorem jX.unique{H:Nat->Option qZ}{listed:Array Bool}{i:Nat}{o:Oper}{a:Act}{F:qO}{h h':qZ}(hc:qaf R0 R c w0 listed F)(hi:listed.getD i true=false)(x:jX R0 R c P ops w0 H i o a F h)(y:jX R0 R c P ops w0 H i o a F h'):h=h':=by
 obtain⟨W,hW,hW0,hF⟩:=hc;have hW:=qfl hi hW hW0;rcases x with⟨x1,rfl⟩|⟨x1,x2,v,rfl,x3⟩|⟨x1,x2,x3⟩<;>rcases y with⟨y1,rfl⟩|⟨y1,y2,u,rfl,y3⟩|⟨y1,y2,y3⟩
 ·rfl
 ·rw[x1]at y1;cases y1
 ·rw[x1]at y1;cases y1
 ·rw[x1]at y1;cases y1
 ·obtain⟨w1,e1,_⟩:=x3 W hW λk _=>hF k;obtain⟨w2,e2,_⟩:=y3 W hW λk _=>hF k;rw[e1]at e2;cases e2;rfl
 ·rw[x2]at y2;cases y2
 ·rw[x1]at y1;cases y1
 ·rw[x2]at y2;cases y2
 ·rw[x2]at y2;cases y2;rfl
theorem jX.some_(hle:∀a b,R0.r a b->R.r a b){H:Nat->Option qZ}{listed:Array Bool}{i:Nat}{o:Oper}{a:Act}{F:qO}{h:qZ}(hc:qaf R0 R c w0 listed F)(hi:listed.getD i true=false)(hst:∀k,qS R0 (F k))(hv:Void c listed F)(x:jX R0 R c P ops w0 H i o a F h):∃p,qaf R0 R c w0 (listed.setIfInBounds i true) (upd F i o (h.φ p)):=by
 obtain⟨W,hW,hW0,hF⟩:=hc;have triv:∀(φ:World->Prop)W',(qbf R0 R c i).r W W'->φ W'->qaf R0 R c w0 (listed.setIfInBounds i true) (upd F i o φ):=λφ W' he hφ=>⟨W',R.trans hW (qka hle he),λh=>R0.trans (hW0 (unset h)) (stpC_0 hi he h),λk=>by
  unfold upd;split
  ·exact⟨hφ,λj _=>keepC hi hst hv he j (hF j)⟩
  ·exact keepC hi hst hv he k (hF k)⟩
 have hW:=qfl hi hW hW0;rcases x with⟨x1,rfl⟩|⟨x1,x2,v,rfl,x3⟩|⟨x1,x2,x3⟩
 ·exact⟨(),triv _ W (Rel.refl _ W) trivial⟩
 ·obtain⟨w',_,he⟩:=x3 W hW λk _=>hF k;exact⟨(),triv _ w' he trivial⟩
 ·have h3:=x3 W hW λk _=>hF k;unfold Qr at h3;generalize(execOp a.eval o).run P W=r at h3;cases r with
  |ok n w'=>
   cases n<;>simp only[Zf]at h3
   case value u=>obtain⟨p,_,hp,he⟩:=h3;exact⟨p,triv _ w' he hp⟩
   case skip=>obtain⟨p,_,hp,he⟩:=h3;exact⟨p,triv _ w' he hp⟩
   case enter f args=>obtain⟨he,hcl⟩:=h3;obtain⟨e,w'',fr,⟨p,_,hp,he2⟩,_⟩:=hcl [];exact⟨p,triv _ w'' (Rel.trans _ he he2) hp⟩
  |halt x w'=>simp only[Zf]at h3
theorem jX.move{H:Nat->Option qZ}{i j:Nat}{oi oj:Oper}{a:Act}{F:qO}{h:qZ}{v:Value}{φ:World->Prop}(hap:oi.apart ops oj=true)(hsj:∀cs b,oj.op≠.select cs b)(hn:i∉qN oj):jX R0 R c P ops w0 H j oj (a.put oi.dst v) (upd F i oi φ) h↔jX R0 R c P ops w0 H j oj a F h:=by
 obtain⟨h1,_,_⟩:=Oper.apart_spec hap;have hF:∀W,(∀k∈qN oj,upd F i oi φ k W)↔∀k∈qN oj,F k W:=λW=>by
  constructor<;>intro hh k hk
  ·have:=hh k hk;unfold upd at this;rwa [if_neg (λe=>hn (by rw[<-e];exact hk))]at this
  ·unfold upd;rw[if_neg (λe=>hn (by rw[<-e];exact hk))];exact hh k hk
 unfold jX Jn Qr;rw[wanted_put oj a oi.dst v h1,execOp_put oj hsj a oi.dst v h1];simp only[hF]
theorem jX.move'{H:Nat->Option qZ}{i j:Nat}{oi oj:Oper}{a:Act}{F:qO}{h:qZ}{v:Value}{φ:World->Prop}(hap:oi.apart ops oj=true)(hsi:∀cs b,oi.op≠.select cs b)(hn:j∉qN oi):jX R0 R c P ops w0 H i oi (a.put oj.dst v) (upd F j oj φ) h↔jX R0 R c P ops w0 H i oi a F h:=by
 obtain⟨_,_,h3⟩:=Oper.apart_spec hap;have hF:∀W,(∀k∈qN oi,upd F j oj φ k W)↔∀k∈qN oi,F k W:=λW=>by
  constructor<;>intro hh k hk
  ·have:=hh k hk;unfold upd at this;rwa [if_neg (λe=>hn (by rw[<-e];exact hk))]at this
  ·unfold upd;rw[if_neg (λe=>hn (by rw[<-e];exact hk))];exact hh k hk
 unfold jX Jn Qr;rw[wanted_put oi a oj.dst v h3,execOp_put oi hsi a oj.dst v h3];simp only[hF]
theorem jX.stable{H:Nat->Option qZ}(hH:∀i h,H i=some h->∀p,qS R0 (h.φ p)){i:Nat}{o:Oper}{a:Act}{F:qO}{h:qZ}(x:jX R0 R c P ops w0 H i o a F h):∀p,qS R0 (h.φ p):=by
 rcases x with⟨_,rfl⟩|⟨_,_,v,rfl,_⟩|⟨_,x2,_⟩
 ·exact λ_ _ _ _ _=>trivial
 ·exact λ_ _ _ _ _=>trivial
 ·exact hH i h x2
theorem jX.void{H:Nat->Option qZ}(hone:∀i h,H i=some h->i=c){listed:Array Bool}{i:Nat}{o:Oper}{a:Act}{F:qO}{h:qZ}(hv:Void c listed F)(x:jX R0 R c P ops w0 H i o a F h)(p:h.α):Void c (listed.setIfInBounds i true) (upd F i o (h.φ p)):=by
 intro hc k W;have hcl:=hv (unset hc);unfold upd;split
 ·refine⟨?_,λj _=>hcl j W⟩;rcases x with⟨_,rfl⟩|⟨_,_,v,rfl,_⟩|⟨_,x2,_⟩
  ·trivial
  ·trivial
  ·exfalso;have e:=hone i h x2;subst e;rcases Nat.lt_or_ge i listed.size with h'|h'
   ·simp[h']at hc
   ·simp at hc
 ·exact hcl k W
theorem qds(hle:∀a b,R0.r a b->R.r a b){H:Nat->Option qZ}(hone:∀i h,H i=some h->i=c)(hH:∀i h,H i=some h->∀p,qS R0 (h.φ p)){A:Nat->Prop}{Cl:Array Bool->Prop}{L:Array Bool}{Q:Act->qO->Prop}{i:Nat}{oi:Oper}(hi:ops[i]?=some oi)(him:A i)(hMM:∀(j:Nat)(o:Oper)cs b,ops[j]?=some o->o.op≠.select cs b)(hcl:∀listed j,Cl listed->j∈Region.ready .any ops listed->Cl (listed.setIfInBounds j true))(hFA:∀(listed:Array Bool)(j:Nat),Cl listed->j∈Region.ready .any ops listed->L.getD j true=false->∀k,A k->listed.getD k false=true):∀(fuel:Nat)(listed:Array Bool)(a:Act)(F:qO),Cl listed -> (∀j oj,ops[j]?=some oj->j≠i->listed.getD j true=false->(∀e∈oj.after,Region.binds .any e=true->e.on≠i)->oi.apart ops oj=true) ->
   i∈Region.ready .any ops listed->(∀k,qS R0 (F k))->qaf R0 R c w0 listed F->Void c listed F->(∀k,listed.getD k true=false->∀W,F k W) ->
   FOpC R0 R c P ops w0 H listed i oi (Gt R0 R c P ops w0 H L Q fuel (listed.setIfInBounds i true)) a F->Gt R0 R c P ops w0 H L Q (fuel+1) listed a F:=by
 intro fuel;induction fuel with
 |zero=>
  intro listed a F hCl _ hr hst hc hvd _ hop;refine⟨λh=>(by rw[h]at hr;cases hr),λj hj oj hoj=>?_⟩;by_cases hji:j=i
  ·subst hji;rw[hi]at hoj;cases hoj;exact hop
  ·exfalso;obtain⟨h,hok,hK⟩:=hop;obtain⟨p,hcp⟩:=hok.some_ hle hc (mem_ready.1 hr).1 hst hvd;have hmj:L.getD j true=false:=by rw[<-(hK p hcp).1];exact(mem_ready.1 (ready_mono hj hji)).1
   have h1:=hFA listed j hCl hj hmj i him;have h0:=(mem_ready.1 hr).1;rcases Nat.lt_or_ge i listed.size with h'|h'
   ·simp[h']at h0 h1;rw[h0]at h1;cases h1
   ·simp[Array.getElem?_eq_none h']at h1
 |succ fuel ih=>
  intro listed a F hCl hGT hr hst hc hvd hun hop;refine⟨λh=>(by rw[h]at hr;cases hr),λj hj oj hoj=>?_⟩;by_cases hji:j=i
  ·subst hji;rw[hi]at hoj;cases hoj;exact hop
  ·obtain⟨hFD,oj',hNS,hCV⟩:=mem_ready.1 hj;rw[hoj]at hNS;cases hNS;obtain⟨hOA,oi',hQB,hMB⟩:=mem_ready.1 hr;rw[hi]at hQB;cases hQB;have bad:∀k,listed.getD k true=false->listed.getD k false=true->False:=λk h0 h1=>by
    rcases Nat.lt_or_ge k listed.size with h'|h'
    ·simp[h']at h0 h1;rw[h0]at h1;cases h1
    ·simp[Array.getElem?_eq_none h']at h1
   have hPR:∀e∈oj.after,Region.binds .any e=true->e.on≠i:=λe he hb heq=>bad i hOA (heq▸hCV e he hb);have hPZ:∀e∈oi.after,Region.binds .any e=true->e.on≠j:=λe he hb heq=>bad j hFD (heq▸hMB e he hb);have hpi:i∉qN oj:=λhin=>by obtain⟨e,he,hei⟩:=List.mem_map.1 hin;rw[List.mem_filter]at he;exact hPR e (by simpa using he.1) he.2 hei
   have hpj:j∉qN oi:=λhin=>by obtain⟨e,he,hei⟩:=List.mem_map.1 hin;rw[List.mem_filter]at he;exact hPZ e (by simpa using he.1) he.2 hei
   have hap:=hGT j oj hoj hji hFD hPR;have hsi:∀cs b,oi.op≠.select cs b:=λcs b=>hMM i oi cs b hi;have hsj:∀cs b,oj.op≠.select cs b:=λcs b=>hMM j oj cs b hoj;obtain⟨h2,_⟩:=(Oper.apart_spec hap).2;obtain⟨hI,okI,hKI⟩:=hop;obtain⟨p0,hVV⟩:=okI.some_ hle hc hOA hst hvd;obtain⟨hJ,okJ0,_⟩:=(hKI p0 hVV).2 j (ready_mono hj hji) oj hoj;have okJ:jX R0 R c P ops w0 H j oj a F hJ:=(jX.move hap hsj hpi).1 okJ0;refine⟨hJ,okJ,λq hcq=>?_⟩;have stJ:=okJ.stable hH q;have hKX:∀k ok,ops[k]?=some ok->k≠i->(listed.setIfInBounds j true).getD k true=false ->
     (∀e∈ok.after,Region.binds .any e=true->e.on≠i)->oi.apart ops ok=true:=λk ok hk hki hQQ hno=>by
    refine hGT k ok hk hki ?_ hno;by_cases hjk:j=k
    ·subst hjk;exact hFD
    ·rw[getD_set_ne true hjk]at hQQ;exact hQQ
   refine ih (listed.setIfInBounds j true) _ _ (hcl _ _ hCl hj) hKX (ready_mono hr (Ne.symm hji)) (jd hst j oj stJ) hcq (okJ.void hone hvd q) ?_ ?_
   ·intro k hk W;by_cases hjk:j=k
    ·subst hjk;exfalso;have hlt:j<listed.size:=by
      rcases Nat.lt_or_ge j listed.size with h'|h'
      ·exact h'
      ·simp[Array.getElem?_eq_none h']at hFD
     simp[hlt]at hk
    ·rw[getD_set_ne true hjk]at hk;have:=hun k hk W;unfold upd;rw[if_neg (λe=>hjk e.symm)];exact this
   ·refine⟨hI,(jX.move' hap hsi hpj).2 okI,λp hcp=>?_⟩;have hXX:qaf R0 R c w0 (listed.setIfInBounds i true) (upd F i oi (hI.φ p)):=by
     by_cases hjc:j=c
     ·have wUM:∃v,hI=one v:=by
       rcases okI with⟨_,e⟩|⟨_,_,v,e,_⟩|⟨_,e,_⟩
       ·exact⟨_,e⟩
       ·exact⟨_,e⟩
       ·exact absurd ((hone _ _ e).trans hjc.symm) (Ne.symm hji)
      obtain⟨v,rfl⟩:=wUM;exact hVV
     ·obtain⟨W,hW,hW0,hF⟩:=hcp;refine⟨W,hW,λh=>hW0 ?_,λk=>?_⟩
      ·rw[Array.setIfInBounds_comm _ _ hji,getD_set_ne true hjc];exact h
      have hk:=hF k;by_cases hki:k=i
      ·subst hki;unfold upd at hk⊢;rw[if_pos rfl]at hk⊢;refine⟨hk.1,λl hl=>?_⟩;have:=hk.2 l hl
       rwa [if_neg (λe=>hpj (by rw[<-e];exact hl))]at this
      ·by_cases hkj:k=j
       ·subst hkj;unfold upd;rw[if_neg hki];exact hun k hFD W
       ·unfold upd at hk⊢;rw[if_neg hki,if_neg hkj]at hk;rw[if_neg hki];exact hk
    obtain⟨hJ',okJ',hXS⟩:=(hKI p hXX).2 j (ready_mono hj hji) oj hoj;have okJ'':jX R0 R c P ops w0 H j oj a F hJ':=(jX.move hap hsj hpi).1 okJ';have e:=okJ''.unique hc hFD okJ;subst e;have hq:=hXS q (by rw[VI F _ _ (Ne.symm hji) hpi hpj,Array.setIfInBounds_comm _ _ (λe=>hji e.symm)];exact hcp);rw[Array.setIfInBounds_comm _ _ (λe=>hji e.symm),Act.put_comm a (hI.f p) (hJ'.f q) h2,VI F _ _ (Ne.symm hji) hpi hpj]at hq;exact hq
theorem qaV(hle:∀a b,R0.r a b->R.r a b){H:Nat->Option qZ}(hone:∀i h,H i=some h->i=c)(hH:∀i h,H i=some h->∀p,qS R0 (h.φ p)){Cl:Array Bool->Prop}{L:Array Bool}{ks:List Nat}{Q:Act->qO->Prop}(hs:Region.noSelect ops=true)(hcl:∀listed j,Cl listed->j∈Region.ready .any ops listed->Cl (listed.setIfInBounds j true))(hFA:∀(listed:Array Bool)(j:Nat),Cl listed->j∈Region.ready .any ops listed->L.getD j true=false->∀k,k∈ks->listed.getD k false=true):∀(l:List (Nat×Oper))(listed:Array Bool)(a:Act)(F:qO),Cl listed->(∀x∈l,ops[x.1]?=some x.2/\x.1∈ks) ->
  ZP ops L (l.map (·.1)) listed=true->(∀k,qS R0 (F k))->qaf R0 R c w0 listed F->Void c listed F->(∀j,listed.getD j true=false->∀W,F j W)->JO R0 R c P ops w0 H Q l listed a F->Gt R0 R c P ops w0 H L Q l.length listed a F
 |[],listed,a,F,_,_,hB,_,_,_,_,h=>⟨by simpa [ZP]using hB,h⟩
 |(k,o)::l,listed,a,F,hCl,hl,hB,hst,hc,hvd,hun,h=>by
  obtain⟨h0,hks⟩:=hl (k,o) (List.mem_cons_self);simp only[List.map_cons,ZP,Bool.and_eq_true]at hB;obtain⟨⟨hr,hf⟩,hB'⟩:=hB;have hrk:k∈Region.ready .any ops listed:=by simpa using hr
  have hWF:=(mem_ready.1 hrk).1;refine qds hle hone (A:=λk=>k∈ks) hH h0 hks (Region.noSelect_spec hs) hcl hFA l.length listed a F hCl (Region.free_spec h0 hf) hrk hst hc hvd hun ?_;obtain⟨hh,hok,hK⟩:=h;refine⟨hh,hok,λp hcp=>?_⟩;refine qaV hle hone hH hs hcl hFA l _ _ _ (hcl _ _ hCl hrk) (λx hx=>hl x (List.mem_cons_of_mem _ hx)) hB' (jd hst k o (hok.stable hH p)) hcp (hok.void hone hvd p) (λj hj W=>?_) (hK p hcp);by_cases hjk:k=j
  ·subst hjk;have hlt:k<listed.size:=by
    rcases Nat.lt_or_ge k listed.size with h'|h'
    ·exact h'
    ·simp[Array.getElem?_eq_none h']at hWF
   simp[hlt]at hj
  ·rw[getD_set_ne true hjk]at hj;have:=hun j hj W;unfold upd;rw[if_neg (λe=>hjk e.symm)];exact this
theorem qdw(hle:∀a b,R0.r a b->R.r a b){H:Nat->Option qZ}{i:Nat}{o:Oper}{a:Act}{F:qO}{K:Act->qO->Prop}{K':Act->World->Prop}{Q':Exit->Act->World->Prop}{W:World}{listed:Array Bool}(hli:listed.getD i true=false)(hi:ops[i]?=some o)(hone:∀i h,H i=some h->i=c)(hH:∀i h,H i=some h->∀p,qS R0 (h.φ p))(hst:∀k,qS R0 (F k))(hvd:Void c listed F)(hW:R.r w0 W)(hW0:listed.getD c true=false->R0.r w0 W)(hF:∀k,F k W)(hK:∀a' F' W',K a' F'->(∀k,qS R0 (F' k))->Void c (listed.setIfInBounds i true) F'->R.r w0 W'->((listed.setIfInBounds i true).getD c true=false->R0.r w0 W')->(∀k,F' k W')->K' a' W')(h:FOpC R0 R c P ops w0 H listed i o K a F):wpOp P ops Q' i K' a W:=by
 obtain⟨hh,hok,hn⟩:=h;have go:∀p W',(qbf R0 R c i).r W W'->hh.φ p W'->K' (a.put o.dst (hh.f p)) W':=λp W' he0 hφ=>by
  have he:=qka hle he0;have h0:(listed.setIfInBounds i true).getD c true=false->R0.r w0 W':=λh=>R0.trans (hW0 (unset h)) (stpC_0 hli he0 h);have hF':∀k,upd F i o (hh.φ p) k W':=λk=>by
   unfold upd;split
   ·exact⟨hφ,λj _=>keepC hli hst hvd he0 j (hF j)⟩
   ·exact keepC hli hst hvd he0 k (hF k)
  exact hK _ _ W' (hn p ⟨W',R.trans hW he,h0,hF'⟩) (jd hst i o (hok.stable hH p)) (hok.void hone hvd p) (R.trans hW he) h0 hF'
 have hWp:=qfl (c:=c) hli hW hW0;unfold wpOp;simp only[hi];rcases hok with⟨x1,rfl⟩|⟨x1,x2,v,rfl,x3⟩|⟨x1,x2,x3⟩
 ·simp only[x1,Bool.false_eq_true,if_false];exact go () W (Rel.refl _ W) trivial
 ·simp only[x1,if_true];obtain⟨w',hr,he⟩:=x3 W hWp λk _=>hF k;refine .inl ?_;unfold Oper.wp;rw[hr];exact go () w' he trivial
 ·simp only[x1,if_true];have h3:=x3 W hWp λk _=>hF k;refine .inl ?_;unfold Qr at h3;unfold Oper.wp;generalize(execOp a.eval o).run P W=r at*;cases r with
  |ok n w'=>
   cases n<;>simp only[Zf]at h3<;>simp only[Oper.upon]
   case value u=>obtain⟨p,rfl,hp,he⟩:=h3;exact go p w' he hp
   case skip=>obtain⟨p,hu,hp,he⟩:=h3;rw[hu];exact go p w' he hp
   case enter f args=>obtain⟨he,hcl⟩:=h3;refine hcl.mono λe w'' ⟨p,he1,hp,he2⟩=>?_;subst he1;exact go p w'' (Rel.trans _ he he2) hp
  |halt x w'=>simp only[Zf]at h3
theorem Tb(hle:∀a b,R0.r a b->R.r a b){H:Nat->Option qZ}(hone:∀i h,H i=some h->i=c)(hH:∀i h,H i=some h->∀p,qS R0 (h.φ p)){L:Array Bool}{t:Nat}{Q:Act->qO->Prop}{Q':Exit->Act->World->Prop}(hQ:∀a F W,Q a F->R.r w0 W->(∀k,F k W)->wpAny P .any ops Q' t L a W):∀(fuel:Nat)(listed:Array Bool)(a:Act)(F:qO)(W:World),(∀k,qS R0 (F k))->Void c listed F->R.r w0 W->(listed.getD c true=false->R0.r w0 W)->(∀k,F k W)->Gt R0 R c P ops w0 H L Q fuel listed a F->wpAny P .any ops Q' (fuel+t) listed a W
 |0,listed,a,F,W,_,_,hW,_,hF,h=>by rw[h.1,Nat.zero_add];exact hQ a F W h.2 hW hF
 |fuel+1,listed,a,F,W,hst,hvd,hW,hW0,hF,h=>by rw[show fuel+1+t=fuel+t+1 by omega];refine⟨λh0=>absurd h0 h.1,λi hi=>?_⟩;obtain⟨hli,o,ho,_⟩:=mem_ready.1 hi;exact qdw hle hli ho hone hH hst hvd hW hW0 hF (λa' F' W' hk hLW hvd' hW' wQQ hF'=>Tb hle hone hH hQ fuel _ a' F' W' hLW hvd' hW' wQQ hF' hk) (h.2 i hi o ho)
theorem qdB{l:List Oper}{Q:Exit->Act->World->Prop}{fuel:Nat}{listed:Array Bool}{a:Act}{w W:World}(R0 R:Rel)(c:Nat)(hle:∀a b,R0.r a b->R.r a b)(H:Nat->Option qZ)(M:List Bool)(t:Nat)(hs:Region.noSelect l.toArray=true)(ht:qhu l.toArray (zv l.length (l.length-t)) ((qw 0 l M).map (·.1))=true)(hc0:Te l.toArray listed=true)(hB:ZP l.toArray (zv l.length (l.length-t)) ((qw 0 l M).map (·.1)) listed=true)(hVC:GZ l.toArray t (l.length-t) (zv l.length (l.length-t))=true)(hfu:fuel=(qw 0 l M).length+t)(htl:(l.drop (l.length-t)).length=t)(hH:∀i h,H i=some h->∀p,qS R0 (h.φ p))(hone:∀i h,H i=some h->i=c)(hW:R0.r w W)(h:∀K:Act->qO->Prop,(∀a' F',(∀W,R.r w W->(∀k,F' k W)->wpList P l.toArray Q (l.drop (l.length-t)) a' W)->K a' F')->JO R0 R c P l.toArray w H K (qw 0 l M) listed a (λ_ _=>True)):wpAny P .any l.toArray Q fuel listed a W:=by
 have h:=h _ (λa' F' hh=>hh);subst hfu;have key:=qaV hle hone (w0:=w) hH hs (λ_ _ h=>h.step) (YX ht) (qw 0 l M) listed a (λ_ _=>True) (vp hc0) (λx hx=>by obtain⟨j,h1,h2⟩:=vx l M 0 x hx;refine⟨?_,List.mem_map.2 ⟨x,hx,rfl⟩⟩;rw[h1,Nat.zero_add];simpa using h2) hB (λ_ _ _ _ _=>trivial) ⟨W,hle _ _ hW,λ_=>hW,λ_=>trivial⟩ (λ_ _ _=>trivial) (λ_ _ _=>trivial) h;refine Tb hle hone (w0:=w) hH (t:=t) (Q':=Q) (λa F W hq hW hF=>?_) _ _ _ _ W (λ_ _ _ _ _=>trivial) (λ_ _ _=>trivial) (hle _ _ hW) (λ_=>hW) (λ_=>trivial) key;have:=kM (l.drop (l.length-t)) (l.length-t) _ a W (λj _=>by rw[List.getElem?_drop];simp) (by rw[htl];exact hVC) (hq W hW hF)
 rwa [htl]at this
/-! ### the steps of the walk -/
section
variable {H:Nat->Option qZ} {Q:Act->qO->Prop} {k:Nat} {o:Oper} {rest:List (Nat×Oper)} {a:Act} {F:qO} {listed:Array Bool}
theorem qdJ(h:Q a F):JO R0 R c P ops w0 H Q [] listed a F:=h
theorem qgx(v:Value)(hw:Region.wanted o (yielded ops a.tmps)=true)(hH:H k=none)(hv:∀W,(preC R0 R c k).r w0 W->(∀j∈qN o,F j W)->Jn (qbf R0 R c k) P o a W v)(h:JO R0 R c P ops w0 H Q rest (listed.setIfInBounds k true) (a.put o.dst v) (upd F k o λ_=>True)):JO R0 R c P ops w0 H Q ((k,o)::rest) listed a F:=
 ⟨one v,.inr (.inl ⟨hw,hH,v,rfl,hv⟩),λ_ _=>h⟩
theorem Jb(hle:∀a b,R0.r a b->R.r a b)(v:Value)(hw:Region.wanted o (yielded ops a.tmps)=true)(hH:H k=none)(hv:∀W,R.r w0 W->(∀j∈qN o,F j W)->(execOp a.eval o).run P W=.ok (.value v) W)(h:JO R0 R c P ops w0 H Q rest (listed.setIfInBounds k true) (a.put o.dst v) (upd F k o λ_=>True)):JO R0 R c P ops w0 H Q ((k,o)::rest) listed a F:=
 qgx v hw hH (λW hW hF=>⟨W,hv W (by unfold preC at hW;split at hW;exact hle _ _ hW;exact hW) hF,Rel.refl _ W⟩) h
theorem vY(hw:Region.wanted o (yielded ops a.tmps)=false)(h:JO R0 R c P ops w0 H Q rest (listed.setIfInBounds k true) (a.put o.dst undef) (upd F k o λ_=>True)):JO R0 R c P ops w0 H Q ((k,o)::rest) listed a F:=
 ⟨one undef,.inl ⟨hw,rfl⟩,λ_ _=>h⟩
theorem qbE(hh:qZ)(hw:Region.wanted o (yielded ops a.tmps)=true)(hH:H c=some hh)(hv:∀W,R0.r w0 W->(∀j∈qN o,F j W)->Qr R P o a W hh)(h:∀p,JO R0 R c P ops w0 H Q rest (listed.setIfInBounds c true) (a.put o.dst (hh.f p)) (upd F c o (hh.φ p))):JO R0 R c P ops w0 H Q ((c,o)::rest) listed a F:=
 ⟨hh,.inr (.inr ⟨hw,hH,λW hW hF=>by unfold preC at hW;unfold qbf;rw[if_pos rfl]at hW⊢;exact hv W hW hF⟩),λp _=>h p⟩
end
end
end
structure Uv(S:Sto):Prop where
 bs:S.bs.length<1000000
 ws:S.ws.length<1000000
 be:∀l∈S.bs,l.length<1000000
 we:∀p∈S.ws,p.2.length<1000000
 now:S.now.length<1000000
 last:S.last.length<1000000
end Go.Proofs.YtmeadnlmepcmbaaGreat
namespace Go.Proofs.YtmeadnlmepcmbaaGreat
open Go.RowKit Go.Deep
def InG(w:World)(g F:Nat)(v:Value)(l:List UInt8):Prop:=∃o,v=.slice (some ⟨g,o,none⟩) l.length l.length/\o+l.length<=F/\∀j u,(l.map bv)[j]?=some u->w.cell? ⟨g,o+j,none⟩=some u
section
variable {w w':World} {g F:Nat} {v:Value} {l:List UInt8}
theorem InG.keep(h:InG w g F v l)(hk:w'.heap[g]?=w.heap[g]?):InG w' g F v l:=by obtain⟨o,e,h1,h2⟩:=h;exact⟨o,e,h1,λj u hu=>(World.cell?_of_block hk).trans (h2 j u hu)⟩
theorem InG.step{cur:Array Value}{t:TypeId}{l':List UInt8}{o:Nat}(h:InG w g F v l)(hr:w.heap[g]?=some (.cells cur t (0,0)))(hr':w'.heap[g]?=some (.cells (ju cur o l') t (0,0)))(hPC:o+l'.length<=cur.size)(ho:o=F\/l'.length=0):InG w' g (F+l'.length) v l:=by
 obtain⟨o1,e,h1,h2⟩:=h;refine⟨o1,e,zO,λj u hu=>?_⟩;have hj:j<l.length:=by have:=(List.getElem?_eq_some_iff.1 hu).1;simpa using this
 have:=h2 j u hu;rw[qa hr]at this;rw[qa hr',qiz hPC (by rcases ho with ho|ho<;>omega)];exact this
theorem InG.new{cur:Array Value}{t:TypeId}{o:Nat}(hr:w'.heap[g]?=some (.cells (ju cur o l) t (0,0)))(hPC:o+l.length<=cur.size)(ho:o<=F):InG w' g (F+l.length) (.slice (some ⟨g,o,none⟩) l.length l.length) l:=
 ⟨o,rfl,zO,λj u hu=>by rw[qa hr];exact qiy hPC hu⟩
theorem InG.bys{B:Nat}(h:InG w g F v l)(hg:g<B)(hl:l.length<=maxLen):Bys w B v l:=by obtain⟨o,e,h1,h2⟩:=h;exact⟨_,_,e,zM _,hl,zA3,λ_=>⟨g,o,rfl,hg,h2⟩⟩
theorem InG.cells{W2:World}(h:InG w g F v l)(hk:∀j,W2.cell? ⟨g,j,none⟩=w.cell? ⟨g,j,none⟩):InG W2 g F v l:=by obtain⟨o,e,h1,h2⟩:=h;exact⟨o,e,h1,λj u hu=>(hk _).trans (h2 j u hu)⟩
end
def vF(ls:List (List UInt8)):Nat:=(ls.map List.length).sum
theorem Tr{ls:List (List UInt8)}{k:Nat}(h:k<ls.length):vF (ls.take (k+1))=vF (ls.take k)+ls[k].length:=by unfold vF;rw[List.take_succ_eq_append_getElem h,List.map_append,List.sum_append];simp
theorem qjd(ls:List (List UInt8))(k:Nat):vF (ls.take k)+vF (ls.drop k)=vF ls:=by unfold vF;rw[<-List.sum_append,<-List.map_append,List.take_append_drop]
theorem qkd{ls:List (List UInt8)}(h:∀l∈ls,l.length<1000000):vF ls<=ls.length*1000000:=by
 induction ls with
 |nil=>simp[vF]
 |cons l r ih=>
  have h1:=ih λx hx=>h x (List.mem_cons_of_mem _ hx);have h2:=h l List.mem_cons_self;simp only[vF,List.map_cons,List.sum_cons,List.length_cons]at h1⊢;omega
theorem kj(ls:List (List UInt8))(k:Nat):vF (ls.take k)<=vF ls:=by have:=qjd ls k;omega
def TY(hb g:Nat):Rel where
 rel W W':=W'.os=W.os/\W'.tape=W.tape/\W'.output=W.output/\W.heap.size<=W'.heap.size/\∀b,b<W.heap.size->b≠hb->b≠g->W'.heap[b]?=W.heap[b]?
 refl' w:=⟨rfl,rfl,rfl,zM _,λ_ _ _ _=>rfl⟩
 trans' h k:=⟨k.1.trans h.1,k.2.1.trans h.2.1,k.2.2.1.trans h.2.2.1,Nat.le_trans h.2.2.2.1 k.2.2.2.1,λb hb h1 h2=>(k.2.2.2.2 b (Nat.lt_of_lt_of_le hb h.2.2.2.1) h1 h2).trans (h.2.2.2.2 b hb h1 h2)⟩
 drew' w:=⟨rfl,rfl,rfl,zM _,λ_ _ _ _=>rfl⟩
theorem qjw{hb g:Nat}:∀a b,qj.r a b->(TY hb g).r a b:=λa b h=>by have h:Ext a b:=h;exact⟨h.os,h.tape,h.output,h.size,λk hk _ _=>h.block k hk⟩
theorem Ku{hb g b:Nat}{a W:World}{o:Obj}(h:(TY hb g).r a W)(h1:b≠hb)(h2:b≠g)(hc:a.heap[b]?=some o):W.heap[b]?=some o:=
 (h.2.2.2.2 b (zG.1 hc).1 h1 h2).trans hc
theorem qL{w:World}{a b:Nat}{c d:Array Value}{t u:TypeId}(h:w.heap[a]?=some (.cells c t (0,0)))(k:w.heap[b]?=some (.cells d u (0,0)))(hn:t≠u):a≠b:=λe=>by subst e;rw[h]at k;cases k;exact hn rfl
structure TwS(bs:List (List UInt8))(ws:List (Int×List UInt8))(T lo:Nat)(w5:World)(hb g BB WW ob kb kw F:Nat)(wr:World):Prop where
 below:Below lo w5 wr
 los:lo<=hb/\lo<=g/\lo<=BB/\lo<=WW/\lo<=ob
 out:wr.heap[ob]?=some (.cells #[.slice (some ⟨BB,0,none⟩) bs.length bs.length,.slice (some ⟨WW,0,none⟩) ws.length (ws.length+1)] 25 (0,0))
 heap:∃o n cur,qdz hb g o n cur wr/\o<=F/\(0<n->o=F)/\F+n=T/\cur.size=T
 bb:∃cs,wr.heap[BB]?=some (.cells cs 26 (0,0))/\cs.size=bs.length/\∀i l,bs[i]?=some l->i<kb->∃v,cs[i]?=some v/\InG wr g F v l
 ww:∃cs,wr.heap[WW]?=some (.cells cs 142 (0,0))/\cs.size=(ws.length+1)*2/\∀i p,ws[i]?=some p->i<kw->∃v,cs[i*2]?=some (.int .i64 p.1)/\cs[i*2+1]?=some v/\InG wr g F v p.2
section
variable {bs:List (List UInt8)} {ws:List (Int×List UInt8)} {T lo:Nat} {w5:World} {hb g BB WW ob kb kw F:Nat} {wr W:World}
theorem TwS.ext(h:TwS bs ws T lo w5 hb g BB WW ob kb kw F wr)(hx:Ext wr W)(hl:lo<=wr.heap.size):TwS bs ws T lo w5 hb g BB WW ob kb kw F W:=by
 obtain⟨o,n,cur,⟨H1,H2,H3,H4,H5⟩,h2⟩:=h.heap;obtain⟨cb,hb1,hb2,hb3⟩:=h.bb;obtain⟨cw,hw1,hw2,hw3⟩:=h.ww;have hg:W.heap[g]?=wr.heap[g]?:=hx.block g (zG.1 H2).1;exact⟨h.below.trans (Below.mono hx hl),h.los,qb h.out hx,⟨o,n,cur,⟨qb H1 hx,qb H2 hx,H3,H4,H5⟩,h2⟩,
  ⟨cb,qb hb1 hx,hb2,λi l hi hk=>(hb3 i l hi hk).imp λv hv=>⟨hv.1,hv.2.keep hg⟩⟩,⟨cw,qb hw1 hx,hw2,λi p hi hk=>(hw3 i p hi hk).imp λv hv=>⟨hv.1,hv.2.1,hv.2.2.keep hg⟩⟩⟩
theorem TwS.clone(h:TwS bs ws T lo w5 hb g BB WW ob kb kw F wr){o n o':Nat}{cur:Array Value}{l:List UInt8}(hH:qdz hb g o n cur wr)(hl:l.length<=n)(hr:(TY hb g).r wr W)(h1:0<n-l.length->o'=o+l.length)(h2:n-l.length=0->o'=o)(hH':qdz hb g o' (n-l.length) (ju cur o l) W):TwS bs ws T lo w5 hb g BB WW ob kb kw (F+l.length) W/\InG W g (F+l.length) (.slice (some ⟨g,o,none⟩) l.length l.length) l:=by
 obtain⟨o2,n2,cur2,H2,k1,k2,k3,k4⟩:=h.heap;have e1:=H2.box;rw[hH.box]at e1;simp only[Option.some.injEq,Obj.cells.injEq,Array.mk.injEq,List.cons.injEq,Value.slice.injEq,Addr.mk.injEq,and_true,true_and]at e1;obtain⟨rfl,rfl,_⟩:=e1;have e2:=H2.row;rw[hH.row]at e2;simp only[Option.some.injEq,Obj.cells.injEq,and_true]at e2;subst e2;have hPC:o+l.length<=cur.size:=by have:=hH.fit;omega
 have ho:o=F\/l.length=0:=by
  rcases Nat.eq_zero_or_pos n with h0|h0
  ·exact .inr zO
  ·exact .inl (k2 h0)
 have hr0:=hH.row;have hr1:=hH'.row;obtain⟨cb,hb1,hb2,hb3⟩:=h.bb;obtain⟨cw,hw1,hw2,hw3⟩:=h.ww;have n1:BB≠hb:=qL hb1 hH.box zA1;have n2:BB≠g:=qL hb1 hr0 zA1;have n3:WW≠hb:=qL hw1 hH.box zA1;have n4:WW≠g:=qL hw1 hr0 zA1;have n5:ob≠hb:=qL h.out hH.box zA1;have n6:ob≠g:=qL h.out hr0 zA1;obtain⟨l1,l2,l3,l4,l5⟩:=h.los;have hlt:=(zG.1 hr0).1;refine⟨⟨⟨hr.1.trans h.below.os,hr.2.1.trans h.below.tape,hr.2.2.1.trans h.below.output,Nat.le_trans h.below.size hr.2.2.2.1,λb hb=>(hr.2.2.2.2 b zO zO zO).trans (h.below.block b hb)⟩,h.los,Ku hr n5 n6 h.out,⟨o',n-l.length,_,hH',?_,?_,zO,?_⟩,
  ⟨cb,Ku hr n1 n2 hb1,hb2,λi l' hi hk=>(hb3 i l' hi hk).imp λv hv=>⟨hv.1,hv.2.step hr0 hr1 hPC ho⟩⟩,⟨cw,Ku hr n3 n4 hw1,hw2,λi p hi hk=>(hw3 i p hi hk).imp λv hv=>⟨hv.1,hv.2.1,hv.2.2.step hr0 hr1 hPC ho⟩⟩⟩,InG.new hr1 hPC k1⟩
 ·rcases Nat.eq_zero_or_pos (n-l.length)with h0|h0
  ·rw[h2 h0];omega
  ·rw[h1 h0];omega
 ·intro h0;rw[h1 h0,k2 zO]
 ·rw[qay hPC];exact k4
theorem TwS.setB(h:TwS bs ws T lo w5 hb g BB WW ob kb kw F wr){v:Value}{l:List UInt8}(hk:bs[kb]?=some l)(hv:InG wr g F v l):TwS bs ws T lo w5 hb g BB WW ob (kb+1) kw F (wr.setCell ⟨BB,kb,none⟩ v):=by
 obtain⟨o,n,cur,⟨H1,H2,H3,H4,H5⟩,h2⟩:=h.heap;obtain⟨cb,hb1,hb2,hb3⟩:=h.bb;obtain⟨cw,hw1,hw2,hw3⟩:=h.ww;have n1:hb≠BB:=qL H1 hb1 zA1;have n2:g≠BB:=qL H2 hb1 zA1;have n3:WW≠BB:=qL hw1 hb1 zA1;have n5:ob≠BB:=qL h.out hb1 zA1;have hg:=zJ wr ⟨BB,kb,none⟩ v g n2;have hlt:=(List.getElem?_eq_some_iff.1 hk).1;refine⟨Below.setCell h.below (p:=⟨BB,kb,none⟩) h.los.2.2.1 _,h.los,(zJ _ _ _ _ n5).trans h.out,⟨o,n,cur,⟨(zJ _ _ _ _ n1).trans H1,(zJ _ _ _ _ n2).trans H2,H3,H4,H5⟩,h2⟩,
  ⟨_,qo hb1 kb v,by simpa using hb2,λi l' hi hki=>?_⟩,⟨cw,(zJ _ _ _ _ n3).trans hw1,hw2,λi p hi hk=>(hw3 i p hi hk).imp λv hv=>⟨hv.1,hv.2.1,hv.2.2.keep hg⟩⟩⟩
 rw[Array.getElem?_setIfInBounds];by_cases e:kb=i
 ·subst e;rw[hk]at hi;cases hi;rw[if_pos rfl,if_pos zO];exact⟨v,rfl,hv.keep hg⟩
 ·rw[if_neg e];exact(hb3 i l' hi zO).imp λu hu=>⟨hu.1,hu.2.keep hg⟩
theorem TwS.setW(h:TwS bs ws T lo w5 hb g BB WW ob kb kw F wr){v:Value}{p:Int×List UInt8}(hk:ws[kw]?=some p)(hv:InG wr g F v p.2):TwS bs ws T lo w5 hb g BB WW ob kb (kw+1) F ((wr.setCell ⟨WW,kw*2,none⟩ (.int .i64 p.1)).setCell ⟨WW,kw*2+1,none⟩ v):=by
 obtain⟨o,n,cur,⟨H1,H2,H3,H4,H5⟩,h2⟩:=h.heap;obtain⟨cb,hb1,hb2,hb3⟩:=h.bb;obtain⟨cw,hw1,hw2,hw3⟩:=h.ww;have n1:hb≠WW:=qL H1 hw1 zA1;have n2:g≠WW:=qL H2 hw1 zA1;have n3:BB≠WW:=qL hb1 hw1 zA1;have n5:ob≠WW:=qL h.out hw1 zA1;have st:∀b,b≠WW->((wr.setCell ⟨WW,kw*2,none⟩ (.int .i64 p.1)).setCell ⟨WW,kw*2+1,none⟩ v).heap[b]?=wr.heap[b]?:=λb hb=>(zJ _ _ _ _ hb).trans (zJ _ _ _ _ hb);have hlt:=(List.getElem?_eq_some_iff.1 hk).1;refine⟨Below.setCell (Below.setCell h.below (p:=⟨WW,kw*2,none⟩) h.los.2.2.2.1 _) (p:=⟨WW,kw*2+1,none⟩) h.los.2.2.2.1 _,h.los,(st _ n5).trans h.out,⟨o,n,cur,⟨(st _ n1).trans H1,(st _ n2).trans H2,H3,H4,H5⟩,h2⟩,
  ⟨cb,(st _ n3).trans hb1,hb2,λi l' hi hki=>(hb3 i l' hi hki).imp λu hu=>⟨hu.1,hu.2.keep (st _ n2)⟩⟩,⟨_,qo (qo hw1 (kw*2) _) (kw*2+1) _,by simpa using hw2,λi q hi hki=>?_⟩⟩
 by_cases e:kw=i
 ·subst e;rw[hk]at hi;cases hi;refine⟨v,?_,?_,hv.keep (st _ n2)⟩
  ·rw[Array.getElem?_setIfInBounds,if_neg zO,Array.getElem?_setIfInBounds,if_pos rfl,if_pos zO]
  ·rw[Array.getElem?_setIfInBounds,if_pos rfl,if_pos zA2]
 ·refine(hw3 i q hi zO).imp λu hu=>⟨?_,?_,hu.2.2.keep (st _ n2)⟩
  ·rw[Array.getElem?_setIfInBounds,if_neg zO,Array.getElem?_setIfInBounds,if_neg zO];exact hu.1
  ·rw[Array.getElem?_setIfInBounds,if_neg zO,Array.getElem?_setIfInBounds,if_neg zO];exact hu.2.1
end
structure JV(lo:Nat)(bs:List (List UInt8))(ws:List (Int×List UInt8))(BB WW g:Nat)(W:World):Prop where
 los:lo<=BB/\lo<=WW/\lo<=g/\g<W.heap.size/\BB≠WW/\BB≠g/\WW≠g
 bb:∃cs,W.heap[BB]?=some (.cells cs 26 (0,0))/\cs.size=bs.length/\∀(i:Nat)(l:List UInt8),bs[i]?=some l->∃v F,cs[i]?=some v/\InG W g F v l
 ww:∃cs,W.heap[WW]?=some (.cells cs 142 (0,0))/\cs.size=(ws.length+1)*2/\∀(i:Nat)(p:Int×List UInt8),ws[i]?=some p->∃v F,cs[i*2]?=some (.int .i64 p.1)/\cs[i*2+1]?=some v/\InG W g F v p.2
 gg:∃cs,W.heap[g]?=some (.cells cs 5 (0,0))
theorem TwS.done{bs:List (List UInt8)}{ws:List (Int×List UInt8)}{T lo:Nat}{w5:World}{hb g BB WW ob F:Nat}{wr:World}(h:TwS bs ws T lo w5 hb g BB WW ob bs.length ws.length F wr):JV lo bs ws BB WW g wr:=by
 obtain⟨o,n,cur,⟨H1,H2,H3,H4,H5⟩,h2⟩:=h.heap;obtain⟨cb,hb1,hb2,hb3⟩:=h.bb;obtain⟨cw,hw1,hw2,hw3⟩:=h.ww;refine⟨⟨h.los.2.2.1,h.los.2.2.2.1,h.los.2.1,(zG.1 H2).1,qL hb1 hw1 zA1,qL hb1 H2 zA1,qL hw1 H2 zA1⟩,⟨cb,hb1,hb2,λi l hi=>?_⟩,⟨cw,hw1,hw2,λi p hi=>?_⟩,⟨_,H2⟩⟩
 ·obtain⟨v,h1,h2⟩:=hb3 i l hi (List.getElem?_eq_some_iff.1 hi).1;exact⟨v,F,h1,h2⟩
 ·obtain⟨v,h1,h2⟩:=hw3 i p hi (List.getElem?_eq_some_iff.1 hi).1;exact⟨v,F,h1,h2⟩
theorem JV.keep{lo lo':Nat}{bs:List (List UInt8)}{ws:List (Int×List UInt8)}{BB WW g:Nat}{W W2:World}(h:JV lo bs ws BB WW g W)(hl:lo'<=lo)(hs:W.heap.size<=W2.heap.size)(hk:∀b,lo<=b->b<W.heap.size->W2.heap[b]?=W.heap[b]?):JV lo' bs ws BB WW g W2:=by
 obtain⟨cb,hb1,hb2,hb3⟩:=h.bb;obtain⟨cw,hw1,hw2,hw3⟩:=h.ww;obtain⟨l1,l2,l3,l4,l5⟩:=h.los;have hg:=hk g l3 l4;exact⟨⟨zO,zO,zO,zO,l5⟩,⟨cb,(hk BB l1 (zG.1 hb1).1).trans hb1,hb2,λi l hi=>by
  obtain⟨v,F,h1,h2⟩:=hb3 i l hi;exact⟨v,F,h1,h2.keep hg⟩⟩,⟨cw,(hk WW l2 (zG.1 hw1).1).trans hw1,hw2,λi p hi=>by
  obtain⟨v,F,h1,h2,h3⟩:=hw3 i p hi;exact⟨v,F,h1,h2,h3.keep hg⟩⟩,h.gg.imp λcs h=>hg.trans h⟩
theorem JV.keepT{lo lo':Nat}{bs:List (List UInt8)}{ws:List (Int×List UInt8)}{BB WW g:Nat}{W W2:World}(h:JV lo bs ws BB WW g W)(hl:lo'<=lo)(hs:W.heap.size<=W2.heap.size){b1:Nat}{c1:Array Value}{t1:TypeId}(h1:W.heap[b1]?=some (.cells c1 t1 (0,0)))(ht:t1≠26/\t1≠142/\t1≠5)(hk:∀b,lo<=b->b<W.heap.size->b≠b1->W2.heap[b]?=W.heap[b]?):JV lo' bs ws BB WW g W2:=by
 obtain⟨cb,hb1,hb2,hb3⟩:=h.bb;obtain⟨cw,hw1,hw2,hw3⟩:=h.ww;obtain⟨cg,hg1⟩:=h.gg;obtain⟨l1,l2,l3,l4,l5⟩:=h.los;have hg:=hk g l3 l4 (qL hg1 h1 λe=>ht.2.2 e.symm);exact⟨⟨zO,zO,zO,zO,l5⟩,⟨cb,(hk BB l1 (zG.1 hb1).1 (qL hb1 h1 λe=>ht.1 e.symm)).trans hb1,hb2,λi l hi=>by
  obtain⟨v,F,h1,h2⟩:=hb3 i l hi;exact⟨v,F,h1,h2.keep hg⟩⟩,⟨cw,(hk WW l2 (zG.1 hw1).1 (qL hw1 h1 λe=>ht.2.1 e.symm)).trans hw1,hw2,λi p hi=>by
  obtain⟨v,F,h1,h2,h3⟩:=hw3 i p hi;exact⟨v,F,h1,h2,h3.keep hg⟩⟩,cg,hg.trans hg1⟩
theorem JV.readsB{lo:Nat}{bs:List (List UInt8)}{ws:List (Int×List UInt8)}{BB WW g:Nat}{W:World}(h:JV lo bs ws BB WW g W)(h1:bs.length<1000000)(h2:ws.length<1000000)(h3:∀l∈bs,l.length<1000000)(h4:∀p∈ws,p.2.length<1000000)(W2:World)(hB:∀j,W2.cell? ⟨BB,j,none⟩=W.cell? ⟨BB,j,none⟩)(hWW:∀j,W2.cell? ⟨WW,j,none⟩=W.cell? ⟨WW,j,none⟩)(hg:∀j,W2.cell? ⟨g,j,none⟩=W.cell? ⟨g,j,none⟩):Bls W2 W.heap.size (.slice (some ⟨BB,0,none⟩) bs.length bs.length) bs/\Wrs W2 W.heap.size (.slice (some ⟨WW,0,none⟩) ws.length (ws.length+1)) ws:=by
 obtain⟨cb,hb1,hb2,hb3⟩:=h.bb;obtain⟨cw,hw1,hw2,hw3⟩:=h.ww;obtain⟨l1,l2,l3,l4,l5⟩:=h.los;have z1:=(zG.1 hb1).1;have z2:=(zG.1 hw1).1;have hm:∀n,n<1000001->n<=maxLen:=λn hn=>zA7;refine⟨⟨cb.toList,_,_,rfl,zM _,hm _ zO,⟨by simp[hb2],λ_=>⟨BB,0,rfl,z1,λj u hu=>?_⟩⟩,λi u l hu hl=>?_⟩,?_⟩
 ·rw[Nat.zero_add,hB j,qa hb1];simpa using hu
 ·obtain⟨v,F,e1,e2⟩:=hb3 i l hl;have:cb.toList[i]?=cb[i]?:=zA3;rw[this,e1]at hu;cases hu;exact(e2.cells hg).bys l4 (hm _ (by have:=h3 l (List.mem_of_getElem? hl);omega))
 ·have hq:∀i,i<ws.length->∃q:(Int×List UInt8)×Value,ws[i]?=some q.1/\(∃A c,q.2=.slice A q.1.2.length c)/\Bys W2 W.heap.size q.2 q.1.2/\cw[i*2]?=some (.int .i64 q.1.1)/\cw[i*2+1]?=some q.2:=λi hi=>by obtain⟨v,F,e1,e2,e3⟩:=hw3 i ws[i] (zL hi);have hb:=(e3.cells hg).bys l4 (hm _ (by have:=h4 ws[i] (List.getElem_mem hi);omega));obtain⟨o,ev,_⟩:=e3;exact⟨(ws[i],v),zL hi,⟨_,_,ev⟩,hb,e1,e2⟩
  obtain⟨Q,hQ⟩:=choose_lt (α:=(Int×List UInt8)×Value) (p:=λi q=>ws[i]?=some q.1/\(∃A c,q.2=.slice A q.1.2.length c)/\Bys W2 W.heap.size q.2 q.1.2/\cw[i*2]?=some (.int .i64 q.1.1)/\cw[i*2+1]?=some q.2) hq;refine⟨(List.range ws.length).map Q,?_,⟨some ⟨WW,0,none⟩,ws.length+1,rfl,zO,hm _ zO,⟨by rw[YA];simp,λ_=>⟨WW,0,rfl,z2,λj u hu=>?_⟩⟩⟩,λq hq'=>?_⟩
  ·apply List.ext_getElem?;intro i;rw[List.map_map,List.getElem?_map];rcases Nat.lt_or_ge i ws.length with hi|hi
   ·rw[List.getElem?_range hi,(hQ i hi).1];rfl
   ·rw[List.getElem?_eq_none (by simpa using hi),List.getElem?_eq_none hi];rfl
  ·rw[Nat.zero_add,hWW j,qa hw1];have hj:j<ws.length*2:=by have:=(List.getElem?_eq_some_iff.1 hu).1;rw[YA]at this;simpa using this
   obtain⟨c0,c1⟩:=Yd ((List.range ws.length).map Q) (j/2) zA2;obtain⟨_,_,_,q0,q1⟩:=hQ (j/2) zO;rcases(show j=j/2*2\/j=j/2*2+1 by omega)with e|e
   ·have hu':some u=some _:=(hu.symm.trans (congrArg (λt=>(js ((List.range ws.length).map Q))[t]?) e)).trans c0;cases hu';rw[show cw[j]?=cw[j/2*2]? from congrArg (λt=>cw[t]?) e,q0];simp
   ·have hu':some u=some _:=(hu.symm.trans (congrArg (λt=>(js ((List.range ws.length).map Q))[t]?) e)).trans c1;cases hu';rw[show cw[j]?=cw[j/2*2+1]? from congrArg (λt=>cw[t]?) e,q1];simp
  ·obtain⟨i,hi,rfl⟩:=List.mem_map.1 hq';obtain⟨_,q1,q2,_⟩:=hQ i (List.mem_range.1 hi);exact⟨q1,q2⟩
theorem JV.reads{lo:Nat}{bs:List (List UInt8)}{ws:List (Int×List UInt8)}{BB WW g:Nat}{W:World}(h:JV lo bs ws BB WW g W)(h1:bs.length<1000000)(h2:ws.length<1000000)(h3:∀l∈bs,l.length<1000000)(h4:∀p∈ws,p.2.length<1000000)(W2:World)(hk:∀q:Addr,lo<=q.block->q.block<W.heap.size->W2.cell? q=W.cell? q):Bls W2 W.heap.size (.slice (some ⟨BB,0,none⟩) bs.length bs.length) bs/\Wrs W2 W.heap.size (.slice (some ⟨WW,0,none⟩) ws.length (ws.length+1)) ws:=by
 obtain⟨cb,hb1,-⟩:=h.bb;obtain⟨cw,hw1,-⟩:=h.ww;obtain⟨l1,l2,l3,l4,-⟩:=h.los;exact h.readsB h1 h2 h3 h4 W2 (λj=>hk ⟨BB,j,none⟩ l1 (zG.1 hb1).1) (λj=>hk ⟨WW,j,none⟩ l2 (zG.1 hw1).1) λj=>hk ⟨g,j,none⟩ l3 l4
theorem JV.readsT{lo:Nat}{bs:List (List UInt8)}{ws:List (Int×List UInt8)}{BB WW g:Nat}{W:World}(h:JV lo bs ws BB WW g W)(h1:bs.length<1000000)(h2:ws.length<1000000)(h3:∀l∈bs,l.length<1000000)(h4:∀p∈ws,p.2.length<1000000)(W2:World)(hk:∀q:Addr,lo<=q.block->q.block<W.heap.size->W2.cell? q=(thaw W).cell? q):Bls W2 W.heap.size (.slice (some ⟨BB,0,none⟩) bs.length bs.length) bs/\Wrs W2 W.heap.size (.slice (some ⟨WW,0,none⟩) ws.length (ws.length+1)) ws:=by
 obtain⟨cb,hb1,-⟩:=h.bb;obtain⟨cw,hw1,-⟩:=h.ww;obtain⟨cg,hg1⟩:=h.gg;obtain⟨l1,l2,l3,l4,-⟩:=h.los;exact h.readsB h1 h2 h3 h4 W2 (λj=>(hk ⟨BB,j,none⟩ l1 (zG.1 hb1).1).trans (Yq hb1 j)) (λj=>(hk ⟨WW,j,none⟩ l2 (zG.1 hw1).1).trans (Yq hw1 j)) λj=>(hk ⟨g,j,none⟩ l3 l4).trans (Yq hg1 j)
end Go.Proofs.YtmeadnlmepcmbaaGreat
namespace Go.Proofs.YtmeadnlmepcmbaaGreat
open Go.RowKit
def qaI(lo n c:Nat)(ty:TypeId)(cs:Array Value):qZ:=⟨Nat,λb=>.slice (some ⟨b,0,none⟩) n c,λb W=>W.heap[b]?=some (.cells cs ty (0,0))/\lo<=b⟩
theorem zF(lo n c:Nat)(ty:TypeId)(cs:Array Value)(b:Nat):(qaI lo n c ty cs).f b=.slice (some ⟨b,0,none⟩) n c:=rfl
theorem YS(lo n c:Nat)(ty:TypeId)(cs:Array Value):∀p,qS qj ((qaI lo n c ty cs).φ p):=λp W W' he h=>⟨qb h.1 he,h.2⟩
def qaH(hb g o n:Nat)(cur:Array Value)(l:List UInt8):qZ:=⟨Nat,λ_=>.slice (some ⟨g,o,none⟩) l.length l.length,λo' W=>(0<n-l.length->o'=o+l.length)/\(n-l.length=0->o'=o)/\qdz hb g o' (n-l.length) (ju cur o l) W⟩
theorem jc(hb g o n:Nat)(cur:Array Value)(l:List UInt8)(p:Nat):(qaH hb g o n cur l).f p=.slice (some ⟨g,o,none⟩) l.length l.length:=rfl
theorem UZ(hb g o n:Nat)(cur:Array Value)(l:List UInt8):∀p,qS qj ((qaH hb g o n cur l).φ p):=λp W W' he ⟨h1,h2,h3⟩=>⟨h1,h2,⟨qb h3.box he,qb h3.row he,h3.ne,h3.fit,h3.few⟩⟩
theorem qiX{T:Nat}(hT:T<=281474976710656)(w:World):(Instr.makeSlice 273 (.int .i64 (T:Int)) (.int .i64 (T:Int))).run prog w=.ok (.slice (some ⟨w.heap.size,0,none⟩) T T) (w.alloc (.cells (madeCells #[.int .u8 0] T) 5)):=by obtain⟨i0,hi,hz0,hz1,hz2⟩:=info_parts Tryz.info_u8;have h:=run_make (P:=prog) w 273 5 i0 _ underlying273 hi hz0 .i64 .i64 (T:Int) (T:Int) zO zO (by rw[hz2];omega) zO;rw[hz1,Int.toNat_natCast,Nat.mul_one]at h;exact h
theorem Gl{n:Nat}(hn:n<1000000)(w:World):(Instr.makeSlice 22 (.int .i64 (n:Int)) (.int .i64 (n:Int))).run prog w=.ok (.slice (some ⟨w.heap.size,0,none⟩) n n) (w.alloc (.cells (madeCells #[.slice none 0 0] n) 26)):=by obtain⟨i0,hi,hz0,hz1,hz2⟩:=info_parts Tryz.info_bytes;have h:=run_make (P:=prog) w 22 26 i0 _ underlying22 hi hz0 .i64 .i64 (n:Int) (n:Int) zO zO (by rw[hz2];omega) zO;rw[hz1,Int.toNat_natCast,Nat.mul_one]at h;exact h
theorem qfw{n:Nat}(hn:n<1000000)(w:World):(Instr.makeSlice 23 (.int .i64 (n:Int)) (.int .i64 ((n:Int)+1))).run prog w=.ok (.slice (some ⟨w.heap.size,0,none⟩) n (n+1)) (w.alloc (.cells (madeCells #[.int .i64 0,.slice none 0 0] ((n+1)*2)) 142)):=by obtain⟨i0,hi,hz0,hz1,hz2⟩:=info_parts Tryz.info_write;have h:=run_make (P:=prog) w 23 142 i0 _ underlying23 hi hz0 .i64 .i64 (n:Int) ((n:Int)+1) zO zO (by rw[hz2];omega) zO;rw[hz1,Int.toNat_natCast,show((n:Int)+1).toNat=n+1 by omega]at h;exact h
structure TwI(bs:List (List UInt8))(ws:List (Int×List UInt8))(T lo:Nat)(w5:World)(hb g BB WW ob:Nat)(i:Value)(wr:World):Prop where
 ex:∃k:Nat,k<=bs.length/\i=.int .i64 (k:Int)/\TwS bs ws T lo w5 hb g BB WW ob k 0 (vF (bs.take k)) wr
structure TwJ(bs:List (List UInt8))(ws:List (Int×List UInt8))(T lo:Nat)(w5:World)(hb g BB WW ob:Nat)(i:Value)(wr:World):Prop where
 ex:∃k:Nat,k<=ws.length/\i=.int .i64 (k:Int)/\TwS bs ws T lo w5 hb g BB WW ob bs.length k (vF bs+vF ((ws.take k).map (·.2))) wr
theorem one_at{c:Nat}{hh:qZ}:∀i h,qQ [(c,hh)] i=some h->i=c:=by
 intro i h e;simp only[qQ]at e;split at e
 ·assumption
 ·cases e
set_option maxRecDepth 100000 in
theorem qku(A1 n1 c1 A2 n2 c2)(bs:List (List UInt8))(ws:List (Int×List UInt8))(hbl:bs.length<1000000)(hwl:ws.length<1000000)(hbe:∀l∈bs,l.length<1000000)(hwe:∀p∈ws,p.2.length<1000000)(w:World)(hb:Bls w w.heap.size (.slice A1 n1 c1) bs)(hw:Wrs w w.heap.size (.slice A2 n2 c2) ws):Calls prog 188 #[Xu A1 n1 c1 A2 n2 c2] w (λe W=>∃BB WW g,e=.returned (Xu (some ⟨BB,0,none⟩) bs.length bs.length (some ⟨WW,0,none⟩) ws.length (ws.length+1))/\JV w.heap.size bs ws BB WW g W/\Below w.heap.size w W):=by
 obtain⟨e1,hc1,hm1,hA1⟩:=hb.at_;obtain⟨e2,hc2,hm2,hA2⟩:=hw.at_;subst e1;subst e2;have HB:=zH hb;have HW:=zH hw;have hTb:vF bs<=1000000000000:=Nat.le_trans (qkd hbe) zO;have hTw:vF (ws.map (·.2))<=1000000000000:=Nat.le_trans (qkd (λl hl=>by obtain⟨p,hp,rfl⟩:=List.mem_map.1 hl;exact hwe p hp)) (by rw[List.length_map];omega);clear hb hw hm1 hm2;go_enter func188,ntmps188;go_wp2_with fail;generalize hw1:(World.alloc (World.alloc _ _) _)=w1;have x1:Ext w w1:=by rw[<-hw1];exact(zN _ _).trans (zN _ _)
 have r1:w1.heap[w.heap.size]?=some (.cells #[.slice A1 bs.length c1,.slice A2 ws.length c2] 25 (0,0)):=by rw[<-hw1];exact(zK _ _ _ zA3).trans (zI _ _ _ rfl)
 have q1:w1.heap[w.heap.size+1]?=some (.cells #[.slice none 0 0,.slice none 0 0] 25 (0,0)):=by rw[<-hw1];exact zI _ _ _ zA3
 clear hw1;go_wp2_with fail;go_loopw [3,17] (λall i wr=>∃k:Nat,k<=bs.length/\i=.int .i64 (k:Int)/\all=.int .i64 ((vF (bs.take k):Nat):Int)/\Ext w1 wr) (λ_ i _=>bs.length-(intOf i).toNat)
 case atStart=>exact⟨0,Nat.zero_le _,rfl,rfl,Ext.refl _⟩
 case round=>
  obtain⟨k,hk,rfl,rfl,hE⟩:=hrel;have xw:Below w.heap.size w wr:=Ext.trans x1 hE;have rr:=qb r1 hE;have kr:=qa rr;by_cases hlt:k<bs.length
  ·obtain⟨b1,o1,rfl,hb1⟩:=hA1 zO;obtain⟨A',c',hc,_⟩:=(HB.out.below xw).get k hlt;have hsn:=Tr hlt;have hle:=kj bs (k+1);generalize bs[k].length=m at*;generalize vF (bs.take k)=q at*;go_wp2_with fail;refine⟨⟨k+1,zO,by push_cast;rfl,by rw[hsn];push_cast;rfl,hE⟩,?_⟩;simp[intOf];omega
  ·obtain rfl:k=bs.length:=zO;rw[List.take_length];generalize hwm:wr=wm at*;clear hwm kr rr;have r2:=qb r1 hE;have q2:=qb q1 hE;have k2:=qa r2;obtain⟨tb,htb⟩:∃tb,tb=vF bs:=⟨_,rfl⟩
   obtain⟨tw,htw⟩:∃tw,tw=vF (ws.map (·.2)):=⟨_,rfl⟩
   rw[<-htb]at hTb⊢;rw[<-htw]at hTw;replace⟨htb,htw⟩:=zH2 htb htw;go_wp2_with fail;go_loopw [3,29] (λall i wr=>∃k:Nat,k<=ws.length/\i=.int .i64 (k:Int)/\all=.int .i64 ((tb+vF ((ws.take k).map (·.2)):Nat):Int)/\Ext wm wr) (λ_ i _=>ws.length-(intOf i).toNat)
   case atStart=>exact⟨0,Nat.zero_le _,rfl,rfl,Ext.refl _⟩
   case round=>
    obtain⟨k,hk,rfl,rfl,hE2⟩:=hrel;have xw2:Below w.heap.size w wr:=Ext.trans xw hE2;have rr:=qb r2 hE2;have kr:=qa rr;clear k2;by_cases hlt:k<ws.length
    ·obtain⟨b2,o2,rfl,hb2⟩:=hA2 zO;obtain⟨A',c',ha,hc,_⟩:=(HW.out.below xw2).get k hlt;have hsn:vF ((ws.take (k+1)).map (·.2))=vF ((ws.take k).map (·.2))+ws[k].2.length:=by rw[List.map_take,List.map_take,Tr (by rw[List.length_map];exact hlt),List.getElem_map]
     have hle:vF ((ws.take (k+1)).map (·.2))<=tw:=by rw[htw.out,List.map_take];exact kj _ _
     generalize ws[k].2.length=m at*;generalize ws[k].1=pn at*;generalize vF ((ws.take k).map (·.2))=q at*;go_wp2_with fail;refine⟨⟨k+1,zO,by push_cast;rfl,by rw[hsn];push_cast;rw[Int.add_assoc],hE2.trans (zN _ _)⟩,?_⟩;simp[intOf];omega
    ·obtain rfl:k=ws.length:=zO;rw[List.take_length,<-htw.out];have hmk:=qiX (T:=tb+tw) zO;obtain⟨T,hT⟩:∃T,T=tb+tw:=⟨_,rfl⟩
     rw[<-hT]at hmk⊢;have hT2:T<=2000000000000:=zO;replace hT:=zH hT;go_wp2_with fail;generalize hwn:World.alloc (World.alloc _ _) _=wn;have x3:Ext wr wn:=by rw[<-hwn];exact(zN _ _).trans (zN _ _)
     have g3:wn.heap[wr.heap.size]?=some (.cells (madeCells #[.int .u8 0] T) 5 (0,0)):=by rw[<-hwn];exact(zK _ _ _ zA3).trans (zI _ _ _ rfl)
     have b3:wn.heap[wr.heap.size+1]?=some (.cells #[.slice (some ⟨wr.heap.size,0,none⟩) T T] 273 (0,0)):=by rw[<-hwn];exact zI _ _ _ zA3
     have zn0:wn.heap.size=wr.heap.size+2:=by rw[<-hwn];simp
     clear hwn hmk;have r3:=qb rr x3;have q3:=qb (qb q2 hE2) x3;have xw3:Ext w wn:=Ext.trans xw2 x3;have k3:=qa r3;have zr:=(zG.1 q2).1;have zr2:=hE2.size;have zn:wn.heap.size=wr.heap.size+2:=zn0;clear kr rr r2 q2 r1 q1 x1 hE hE2 xw xw2;generalize wr.heap.size=s0 at g3 b3 zn zr2⊢;have zs0:w.heap.size+1<s0:=zO;clear zr zr2 zn0;have g1:∀W,qj.r wn W->∀i,W.cell? ⟨w.heap.size,i,none⟩=#[.slice A1 bs.length c1,.slice A2 ws.length c2][i]?:=λW h=>qa (qb r3 h);have hmkB:=Gl hbl;have hmkW:=qfw hwl;have hi1:=zH (IntWalk.i64_in ((ws.length:Int)+1) zO);have hwm1:wrap64 ((ws.length:Int)+1)=(ws.length:Int)+1:=IntWalk.wrap64_in _ zO;go_wp2_with fail;refine qt zQ ?_;refine qX (w:=wn) qj (qQ [(3,qaI wn.heap.size bs.length bs.length 26 (madeCells #[.slice none 0 0] bs.length)),(11,qaI wn.heap.size ws.length (ws.length+1) 142 (madeCells #[.int .i64 0,.slice none 0 0] ((ws.length+1)*2))),(13,Jj wn.heap.size 25 #[.slice none 0 0,.slice none 0 0])])
      [true,true,true,true,true,true,true,true,true,true,true,true,true,true] 1 zQ zQ zQ zQ zQ zQ zQ ?st (Rel.drew _ _) ?walk
     case st=>exact qi (by simp only[List.forall_mem_cons];exact⟨YS _ _ _ _ _,YS _ _ _ _ _,λp=>Qo (jh _ _ _ p),λ_ h=>by cases h⟩)
     case walk=>
      intro K hK;dsimp only[qw];refine zB9 ?_;refine qH (qaI wn.heap.size bs.length bs.length 26 (madeCells #[.slice none 0 0] bs.length)) zA0 zA0 (λW hW _=>?_) (λ(BB:Nat)=>?_)
      ·have hW:Ext wn W:=hW;refine jP (u:=.slice (some ⟨W.heap.size,0,none⟩) bs.length bs.length) (w':=W.alloc (.cells (madeCells #[.slice none 0 0] bs.length) 26)) ?_ ⟨W.heap.size,rfl,⟨zI _ _ _ rfl,hW.size⟩,zN _ _⟩;go_simp
      refine zB9 ?_;refine qH (qaI wn.heap.size ws.length (ws.length+1) 142 (madeCells #[.int .i64 0,.slice none 0 0] ((ws.length+1)*2))) zA0 zA0 (λW hW _=>?_) (λ(WW:Nat)=>?_)
      ·have hW:Ext wn W:=hW;refine jP (u:=.slice (some ⟨W.heap.size,0,none⟩) ws.length (ws.length+1)) (w':=W.alloc (.cells (madeCells #[.int .i64 0,.slice none 0 0] ((ws.length+1)*2)) 142)) ?_ ⟨W.heap.size,rfl,⟨zI _ _ _ rfl,hW.size⟩,zN _ _⟩;go_simp;rw[hi1.out,hmkW];rfl
      refine zB9 ?_;refine qH (Jj wn.heap.size 25 #[.slice none 0 0,.slice none 0 0]) zA0 zA0 (λW hW _=>?_) (λ(ob:Nat)=>?_)
      ·have hW:Ext wn W:=hW;refine Je ?_ hW.size;go_simp
      refine zB9 ?_;refine qD (hK _ _ λW hW hF=>?_);have hBB:W.heap[BB]?=some (.cells (madeCells #[.slice none 0 0] bs.length) 26 (0,0))/\wn.heap.size<=BB:=(hF 3).1;have hWW:W.heap[WW]?=some (.cells (madeCells #[.int .i64 0,.slice none 0 0] ((ws.length+1)*2)) 142 (0,0))/\wn.heap.size<=WW:=(hF 11).1;have hob:W.heap[ob]?=some (.cells #[.slice none 0 0,.slice none 0 0] 25 (0,0))/\wn.heap.size<=ob:=(hF 13).1;have hW:Ext wn W:=hW;have ko:=qa hob.1;have fo:=qg hob.1;clear hF hK g1 hmkB hmkW hwm1 k3;refine zB6 ?_;go_wp2;refine Qn ?_;have rob:=qo (qo hob.1 0 (.slice (some ⟨BB,0,none⟩) bs.length bs.length)) 1 (.slice (some ⟨WW,0,none⟩) ws.length (ws.length+1));have st:∀b,b≠ob->((W.setCell ⟨ob,0,none⟩ (.slice (some ⟨BB,0,none⟩) bs.length bs.length)).setCell ⟨ob,1,none⟩ (.slice (some ⟨WW,0,none⟩) ws.length (ws.length+1))).heap[b]?=W.heap[b]?:=λb hb=>(zJ _ _ _ _ hb).trans (zJ _ _ _ _ hb);have n1:BB≠ob:=qL hBB.1 hob.1 zA1;have n2:WW≠ob:=qL hWW.1 hob.1 zA1;have hob2:=hob.2;have B5:Below s0 wn ((W.setCell ⟨ob,0,none⟩ (.slice (some ⟨BB,0,none⟩) bs.length bs.length)).setCell ⟨ob,1,none⟩ (.slice (some ⟨WW,0,none⟩) ws.length (ws.length+1))):=Below.setCell (Below.setCell (Below.mono hW zO) (p:=⟨ob,0,none⟩) (by show s0<=ob;omega) _) (p:=⟨ob,1,none⟩) (by show s0<=ob;omega) _;have T0:TwS bs ws T s0 wn (s0+1) s0 BB WW ob 0 0 0 ((W.setCell ⟨ob,0,none⟩ (.slice (some ⟨BB,0,none⟩) bs.length bs.length)).setCell ⟨ob,1,none⟩ (.slice (some ⟨WW,0,none⟩) ws.length (ws.length+1))):=
       ⟨B5,⟨zO,zO,zO,zO,zO⟩,rob,⟨0,T,_,⟨(st _ zO).trans (qb b3 hW),(st _ zO).trans (qb g3 hW),zO,by rw[size_madeCells];omega,zO⟩,zM _,λ_=>rfl,zO,size_madeCells _ _⟩,
        ⟨_,(st _ n1).trans hBB.1,size_madeCells _ _,λ_ _ _ h=>zO⟩,⟨_,(st _ n2).trans hWW.1,size_madeCells _ _,λ_ _ _ h=>zO⟩⟩
      generalize World.setCell (World.setCell W _ _) _ _=w6 at*;clear n1 n2 hob2 rob st hob hWW hBB hW g3 b3 ko fo;have r6:=(B5.block w.heap.size zO).trans r3;have k6:=qa r6;have I0:TwI bs ws T s0 wn (s0+1) s0 BB WW ob (.int .i64 0) w6:=⟨0,Nat.zero_le _,rfl,T0⟩
      replace I0:=zH I0;have r3':=zH r3;have q3':=zH q3;clear B5 T0 r3 q3 x3 r6;go_wp2_with fail;go_loopw [57] (λi wr=>TwI bs ws T s0 wn (s0+1) s0 BB WW ob i wr) (λi _=>bs.length-(intOf i).toNat)
      case atStart=>exact I0.out
      case round=>
       obtain⟨k,hk,rfl,hTS⟩:=hrel.ex;clear hrel I0 k6;have xwr:Below w.heap.size w wr:=Below.trans xw3 (Below.mono hTS.below zO);have rr:=(hTS.below.block w.heap.size zO).trans r3'.out;have kr:=qa rr;by_cases hlt:k<bs.length
       ·have hCB:=hlt;obtain⟨b1,o1,rfl,hb1⟩:=hA1 zO;obtain⟨A',c',hc,hby⟩:=(HB.out.below xwr).get k hlt;have hsn:=Tr hlt;have hle:=kj bs (k+1);have hgk:=zL hlt;generalize bs[k]=l at*;obtain⟨o,n,cur,hH,q1,q2,q3,q4⟩:=hTS.heap;have hln:l.length<=n:=by have:=hT.out;have:=htb.out;omega
        have wGE:Bys wr wr.heap.size (.slice A' l.length c') l:=hby.more xwr.size;have wEA:=hTS.out;obtain⟨cb,rb,sb,_⟩:=hTS.bb;have n1:ob≠s0+1:=qL wEA hH.box zA1;have n2:ob≠s0:=qL wEA hH.row zA1;have n3:BB≠s0+1:=qL rb hH.box zA1;have n4:BB≠s0:=qL rb hH.row zA1;have hYZ:∀a b,qj.r a b->(TY (s0+1) s0).r a b:=qjw;obtain⟨RR,hRR⟩:∃RR:Rel,RR=TY (s0+1) s0:=⟨_,rfl⟩
        rw[<-hRR]at hYZ;have hle:=hYZ;have g1:∀W,RR.r wr W->∀i,W.cell? ⟨ob,i,none⟩=#[.slice (some ⟨BB,0,none⟩) bs.length bs.length,.slice (some ⟨WW,0,none⟩) ws.length (ws.length+1)][i]?:=λW h=>qa (Ku (hRR▸h) n1 n2 wEA);replace⟨hRR,hTS,hsn,hgk,hH,rb⟩:=zH6 hRR hTS hsn hgk hH rb;clear q1 q2 q3 q4 hYZ hA2;go_wp2_with fail;refine qt zQ ?_;refine qdB (w:=wr) qj RR 4 hle (qQ [(4,qaH (s0+1) s0 o n cur l)]) [true,true,true,true,true,true] 1 zQ zQ zQ zQ zQ zQ zQ ?st one_at (Rel.drew _ _) ?walk
        case st=>exact qi (by simp only[List.forall_mem_cons];exact⟨UZ _ _ _ _ _ _,λ_ h=>by cases h⟩)
        case walk=>
         intro K hK;dsimp only[qw];refine zC0 ?_;refine qbE (qaH (s0+1) s0 o n cur l) zA0 zA0 (λW hW _=>?_) (λ(p:Nat)=>?_)
         ·have hW:Ext wr W:=hW;refine Qi ?_ ((qbK (s0+1) s0 o n cur A' c' l hln W ⟨qb hH.out.box hW,qb hH.out.row hW,hH.out.ne,hH.out.fit,hH.out.few⟩ (wGE.below hW |>.more hW.size)).mono λe w' h=>?_)
          ·go_simp
          obtain⟨o',rfl,h1,h2,h3,e1,e2,e3,e4,e5⟩:=h;refine⟨o',rfl,⟨h1,h2,h3⟩,?_⟩;rw[hRR.out];exact⟨e2,e3,e4,Nat.le_of_eq e1.symm,λb _ h1 h2=>e5 b h1 h2⟩
         refine zC0 ?_
         first
          |(refine Jb hle (.pointer (some ⟨BB,0+k,none⟩)) zA0 zA0 (λW hW _=>?_) ?_
            ·go_simp;rw[IntWalk.i64_in (k:Int) zO,if_pos zO];simp
            simp only[Act.put,ql,qe,qc,qf,zF,jc,zA,zB,zC])
          |skip
         refine zC0 ?_;refine qdJ (hK _ _ λW hW hF=>?_);obtain⟨h1,h2,hH'⟩:(qaH (s0+1) s0 o n cur l).φ p W:=(hF 4).1;clear hF hK g1;rw[hRR.out]at hW;refine zB6 ?_;obtain⟨T1,hin⟩:=hTS.out.clone hH.out hln hW h1 h2 hH';have rB:=Ku hW n3 n4 rb.out;have kB:=qa rB k;have fB:=qg rB k;rw[Array.getElem?_eq_getElem zO]at kB;generalize cb[k]=u0 at*;have T2:=T1.setB hgk.out hin;rw[<-hsn.out]at T2;have IR:TwI bs ws T s0 wn (s0+1) s0 BB WW ob (.int .i64 ((k:Int)+1)) (W.setCell ⟨BB,k,none⟩ (.slice (some ⟨s0,o,none⟩) l.length l.length)):=⟨k+1,zO,rfl,T2⟩
         replace IR:=zH IR;have hwk:=zH (IntWalk.wrap64_in ((k:Int)+1) zO);clear T1 T2 hin hW h1 h2 hH' rB rb hTS hH hsn hgk;go_wp2;refine Qn ?_;go_wp2_with fail;try rw[hwk.out]
         refine⟨IR.out,?_⟩;simp[intOf];omega
       ·obtain rfl:k=bs.length:=zO;rw[List.take_length]at hTS;have J0:TwJ bs ws T s0 wn (s0+1) s0 BB WW ob (.int .i64 0) wr:=⟨0,Nat.zero_le _,rfl,hTS⟩
        replace J0:=zH J0;generalize hwk:wr=wk at*;clear hwk hTS xwr;go_wp2_with fail;go_loopw [72] (λi wr=>TwJ bs ws T s0 wn (s0+1) s0 BB WW ob i wr) (λi _=>ws.length-(intOf i).toNat)
        case atStart=>exact J0.out
        case round=>
         obtain⟨k,hk,rfl,hTS⟩:=hrel.ex;clear hrel J0 kr rr;have xwr:Below w.heap.size w wr:=Below.trans xw3 (Below.mono hTS.below zO);have rr:=(hTS.below.block w.heap.size zO).trans r3'.out;have kr:=qa rr;by_cases hlt:k<ws.length
         ·have hCB:=hlt;obtain⟨b2,o2,rfl,hb2⟩:=hA2 zO;obtain⟨A',c',ha,hc,hby⟩:=(HW.out.below xwr).get k hlt;have hsn:vF ((ws.take (k+1)).map (·.2))=vF ((ws.take k).map (·.2))+ws[k].2.length:=by rw[List.map_take,List.map_take,Tr (by rw[List.length_map];exact hlt),List.getElem_map]
          have hle:vF ((ws.take (k+1)).map (·.2))<=tw:=by rw[htw.out,List.map_take];exact kj _ _
          have hgk:=zL hlt;generalize ws[k]=pl at*;obtain⟨pn,l⟩:=pl;simp only at ha hc hby hsn;go_upto_region 22 with fail;generalize hwp:World.alloc wr _=wp;have xp:Ext wr wp:=by rw[<-hwp];exact zN _ _
          have tp:wp.heap[wr.heap.size]?=some (.cells #[.int .i64 pn,.slice A' l.length c'] 142 (0,0)):=by rw[<-hwp];exact zI _ _ _ rfl
          clear hwp;have hls:s0<=wr.heap.size:=Nat.le_trans (Nat.le_trans zO hTS.below.size) (zM _);have hTP:=hTS.ext xp hls;obtain⟨o,n,cur,hH,q1,q2,q3,q4⟩:=hTP.heap;have hln:l.length<=n:=by have:=hT.out;have:=htb.out;omega
          have wGE:Bys wp wp.heap.size (.slice A' l.length c') l:=(hby.below (Below.mono xp xwr.size)).more (by have:=xp.size;have:=xwr.size;omega);have wEA:=hTP.out;obtain⟨cw,rw_,sw,_⟩:=hTP.ww;have zhb:=(zG.1 ((hTS.heap).choose_spec.choose_spec.choose_spec.1.box)).1;have zg:=(zG.1 ((hTS.heap).choose_spec.choose_spec.choose_spec.1.row)).1;have zw:=(zG.1 (hTS.ww.choose_spec.1)).1;have n1:ob≠s0+1:=qL wEA hH.box zA1;have n2:ob≠s0:=qL wEA hH.row zA1;have n3:WW≠s0+1:=qL rw_ hH.box zA1;have n4:WW≠s0:=qL rw_ hH.row zA1;have hYZ:∀a b,qj.r a b->(TY (s0+1) s0).r a b:=qjw;obtain⟨RR,hRR⟩:∃RR:Rel,RR=TY (s0+1) s0:=⟨_,rfl⟩
          rw[<-hRR]at hYZ;have hle:=hYZ;generalize wr.heap.size=tt at tp hls zhb zg zw⊢;have g1:∀W,RR.r wp W->∀i,W.cell? ⟨ob,i,none⟩=#[.slice (some ⟨BB,0,none⟩) bs.length bs.length,.slice (some ⟨WW,0,none⟩) ws.length (ws.length+1)][i]?:=λW h=>qa (Ku (hRR▸h) n1 n2 wEA);have g2:∀W,RR.r wp W->∀i,W.cell? ⟨tt,i,none⟩=#[.int .i64 pn,.slice A' l.length c'][i]?:=λW h=>qa (Ku (hRR▸h) zO zO tp);replace⟨hRR,hTP,hsn,hgk,hH,rw_⟩:=zH6 hRR hTP hsn hgk hH rw_;clear q1 q2 q3 q4 hYZ hTS hby ha hc hA1 tp xp rr kr;refine qt zQ ?_;refine qdB (w:=wp) qj RR 7 hle (qQ [(7,qaH (s0+1) s0 o n cur l)]) [true,true,true,true,true,true,true,true,true,true] 1 zQ zQ zQ zQ zQ zQ zQ ?st one_at (Rel.drew _ _) ?walk
          case st=>exact qi (by simp only[List.forall_mem_cons];exact⟨UZ _ _ _ _ _ _,λ_ h=>by cases h⟩)
          case walk=>
           intro K hK;dsimp only[qw];refine zC0 ?_;refine qbE (qaH (s0+1) s0 o n cur l) zA0 zA0 (λW hW _=>?_) (λ(p:Nat)=>?_)
           ·have hW:Ext wp W:=hW;refine Qi ?_ ((qbK (s0+1) s0 o n cur A' c' l hln W ⟨qb hH.out.box hW,qb hH.out.row hW,hH.out.ne,hH.out.fit,hH.out.few⟩ (wGE.below hW |>.more hW.size)).mono λe w' h=>?_)
            ·go_simp
            obtain⟨o',rfl,h1,h2,h3,e1,e2,e3,e4,e5⟩:=h;refine⟨o',rfl,⟨h1,h2,h3⟩,?_⟩;rw[hRR.out];exact⟨e2,e3,e4,Nat.le_of_eq e1.symm,λb _ h1 h2=>e5 b h1 h2⟩
           refine zC0 ?_
           first
            |(refine Jb hle (.pointer (some ⟨WW,0+k*2,none⟩)) zA0 zA0 (λW hW _=>?_) ?_
              ·go_simp;rw[IntWalk.i64_in (k:Int) zO,if_pos zO];simp
              simp only[Act.put,ql,qe,qc,qf,zF,jc,zA,zB,zC])
            |skip
           refine zC0 ?_;refine qdJ (hK _ _ λW hW hF=>?_);obtain⟨h1,h2,hH'⟩:(qaH (s0+1) s0 o n cur l).φ p W:=(hF 7).1;clear hF hK g1 g2;rw[hRR.out]at hW;refine zB6 ?_;obtain⟨T1,hin⟩:=hTP.out.clone hH.out hln hW h1 h2 hH';have rB:=Ku hW n3 n4 rw_.out;have kB:=qa rB (k*2);have kC:=qa rB (k*2+1);have fB:=qg rB;rw[Array.getElem?_eq_getElem zO]at kB kC;generalize cw[k*2]=u0 at*;generalize cw[k*2+1]=u1 at*;have T2:=T1.setW hgk.out hin;rw[Nat.add_assoc,<-hsn.out]at T2;have IR:TwJ bs ws T s0 wn (s0+1) s0 BB WW ob (.int .i64 ((k:Int)+1)) ((W.setCell ⟨WW,k*2,none⟩ (.int .i64 pn)).setCell ⟨WW,k*2+1,none⟩ (.slice (some ⟨s0,o,none⟩) l.length l.length)):=⟨k+1,zO,rfl,T2⟩
           replace IR:=zH IR;have hwk:=zH (IntWalk.wrap64_in ((k:Int)+1) zO);clear T1 T2 hin hW h1 h2 hH' rB rw_ hTP hH hsn hgk;go_wp2;refine Qn ?_;go_wp2_with fail;try rw[hwk.out]
           refine⟨IR.out,?_⟩;simp[intOf];omega
         ·obtain rfl:k=ws.length:=zO;have DT:=hTS.done;have qq:=(hTS.below.block (w.heap.size+1) zO).trans q3'.out;have kq:=qa qq;have fq:=qg qq;have ko:=qa hTS.out;have rf:=qo (qo qq 0 (.slice (some ⟨BB,0,none⟩) bs.length bs.length)) 1 (.slice (some ⟨WW,0,none⟩) ws.length (ws.length+1));have kf:=qa rf;have bf:Below w.heap.size w ((wr.setCell ⟨w.heap.size+1,0,none⟩ (.slice (some ⟨BB,0,none⟩) bs.length bs.length)).setCell ⟨w.heap.size+1,1,none⟩ (.slice (some ⟨WW,0,none⟩) ws.length (ws.length+1))):=Below.setCell (Below.setCell xwr (p:=⟨w.heap.size+1,0,none⟩) (Nat.le_succ _) _) (p:=⟨w.heap.size+1,1,none⟩) (Nat.le_succ _) _;have DF:JV w.heap.size bs ws BB WW s0 ((wr.setCell ⟨w.heap.size+1,0,none⟩ (.slice (some ⟨BB,0,none⟩) bs.length bs.length)).setCell ⟨w.heap.size+1,1,none⟩ (.slice (some ⟨WW,0,none⟩) ws.length (ws.length+1))):=
           DT.keep zO zA3 (λb h1 _=>(zJ _ _ _ _ (by show b≠w.heap.size+1;omega)).trans (zJ _ _ _ _ (by show b≠w.heap.size+1;omega)))
          replace⟨kf,bf,DF⟩:=zH3 kf bf DF;clear rf DT hTS;go_wp2;have kf:=kf.out;exact bodyPost_ret (v:=Xu (some ⟨BB,0,none⟩) bs.length bs.length (some ⟨WW,0,none⟩) ws.length (ws.length+1)) (by simp[results,results188,go_sem,kf]) rfl ⟨BB,WW,s0,rfl,DF.out,bf.out⟩
def Kj(w:World)(b:Nat):Nat->List Value->World
 |_,[]=>w
 |k,v::r=>Kj (w.setCell ⟨b,k,none⟩ v) b (k+1) r
def XX(cs:Array Value):Nat->List Value->Array Value
 |_,[]=>cs
 |k,v::r=>XX (cs.setIfInBounds k v) (k+1) r
theorem jE{b g:Nat}(h:g≠b):∀(vs:List Value)(w:World)(k:Nat),(Kj w b k vs).heap[g]?=w.heap[g]?
 |[],_,_=>rfl
 |_::r,w,k=>(jE h r _ _).trans (zJ _ _ _ _ h)
theorem Jo{b:Nat}:∀(vs:List Value)(w:World)(k:Nat),(Kj w b k vs).heap.size=w.heap.size
 |[],_,_=>rfl
 |_::r,w,k=>(Jo r _ _).trans zA3
theorem jD{B b:Nat}{w0:World}(hB:B<=b):∀(vs:List Value)(w:World)(k:Nat),Below B w0 w->Below B w0 (Kj w b k vs)
 |[],_,_,h=>h
 |v::r,w,k,h=>jD hB r _ _ (Below.setCell h (p:=⟨b,k,none⟩) hB v)
theorem JT{b:Nat}{t:TypeId}:∀(vs:List Value)(w:World)(k:Nat)(cs:Array Value),w.heap[b]?=some (.cells cs t (0,0))->(Kj w b k vs).heap[b]?=some (.cells (XX cs k vs) t (0,0))
 |[],_,_,_,h=>h
 |v::r,w,k,cs,h=>JT r _ _ _ (qo h k v)
end Go.Proofs.YtmeadnlmepcmbaaGreat
