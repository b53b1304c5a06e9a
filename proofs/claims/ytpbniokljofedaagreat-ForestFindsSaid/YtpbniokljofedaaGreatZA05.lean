/- Texts FreeC, NCheck, NMay, NMod, Told, Told2, joined. -/
import Derived.Test.YtpbniokljofedaaGreatZA03
import Derived.Test.YtpbniokljofedaaGreatZA04
set_option linter.unusedSimpArgs false
set_option linter.unusedVariables false
namespace Go.Proofs.YtpbniokljofedaaGreat
open Go.RowKit
section
variable {R0 R:Rel} {c:Nat}
def preC (R0 R:Rel) (c i:Nat):Rel:=if i=c then R0 else R
def XN (R0 R:Rel) (c i:Nat):Rel:=if i=c then R else R0
section
variable {P:Program} {ops:Array Oper} {w0:World}
def ZM (R0 R:Rel) (c:Nat) (P:Program) (ops:Array Oper) (w0:World) (H:Nat→Option qO) (i:Nat) (o:Oper) (a:Act) (F:qE) (h:qO):Prop:=
 (Region.wanted o (yielded ops a.tmps)=false∧h=one undef) ∨
 (Region.wanted o (yielded ops a.tmps)=true∧H i=none∧∃ v,h=one v∧∀ W,(preC R0 R c i).r w0 W→(∀ k∈qz o,F k W)→jU (XN R0 R c i) P o a W v) ∨
 (Region.wanted o (yielded ops a.tmps)=true∧H i=some h∧∀ W,(preC R0 R c i).r w0 W→(∀ k∈qz o,F k W)→Qs (XN R0 R c i) P o a W h)
def Xf (R0 R:Rel) (c:Nat) (w0:World) (listed:Array Bool) (F:qE):Prop:=∃ W,R.r w0 W∧(listed.getD c true=false→R0.r w0 W)∧∀ k,F k W
def FOpC (R0 R:Rel) (c:Nat) (P:Program) (ops:Array Oper) (w0:World) (H:Nat→Option qO) (listed:Array Bool) (i:Nat) (o:Oper) (K:Act→qE→Prop) (a:Act) (F:qE):Prop:=
 ∃ h,ZM R0 R c P ops w0 H i o a F h∧∀ p,Xf R0 R c w0 (listed.setIfInBounds i true) (upd F i o (h.φ p))→K (a.put o.dst (h.f p)) (upd F i o (h.φ p))
def jb (R0 R:Rel) (c:Nat) (P:Program) (ops:Array Oper) (w0:World) (H:Nat→Option qO) (Q:Act→qE→Prop):List (Nat×Oper)→Array Bool→Act→qE→Prop
 | [],_,a,F=>Q a F
 |(k,o) :: rest,listed,a,F=>FOpC R0 R c P ops w0 H listed k o (fun a' F'=>jb R0 R c P ops w0 H Q rest (listed.setIfInBounds k true) a' F') a F
def YB (R0 R:Rel) (c:Nat) (P:Program) (ops:Array Oper) (w0:World) (H:Nat→Option qO) (L:Array Bool) (Q:Act→qE→Prop):Nat→Array Bool→Act→qE→Prop
 |0,listed,a,F=>listed=L∧Q a F
 |fuel+1,listed,a,F=>Region.ready .any ops listed≠[]∧∀ i∈Region.ready .any ops listed,∀ o,ops[i]?=some o→FOpC R0 R c P ops w0 H listed i o (YB R0 R c P ops w0 H L Q fuel (listed.setIfInBounds i true)) a F
theorem GQ {listed:Array Bool} {i:Nat} {W:World} (hi:listed.getD i true=false) (h:R.r w0 W) (h0:listed.getD c true=false→R0.r w0 W):(preC R0 R c i).r w0 W:=by
 unfold preC
 split
 ·rename_i e;subst e;exact h0 hi
 ·exact h
theorem qdM (hle:∀ a b,R0.r a b→R.r a b) {i:Nat} {W W':World} (h:(XN R0 R c i).r W W'):R.r W W':=by
 unfold XN at h
 split at h
 ·exact h
 ·exact hle _ _ h
theorem stpC_0 {listed:Array Bool} {i:Nat} {W W':World} (hi:listed.getD i true=false) (h:(XN R0 R c i).r W W') (hc:(listed.setIfInBounds i true).getD c true=false):R0.r W W':=by
 unfold XN at h
 split at h
 ·rename_i e
  subst e
  exfalso
  rcases Nat.lt_or_ge i listed.size with h'|h'
  ·simp[h'] at hc
  ·simp[Array.getElem?_eq_none h'] at hi
 ·exact h
theorem unset {listed:Array Bool} {i c:Nat} (hc:(listed.setIfInBounds i true).getD c true=false):listed.getD c true=false:=by
 by_cases e:i=c
 ·subst e
  rcases Nat.lt_or_ge i listed.size with h'|h'
  ·simp[h'] at hc
  ·simp[Array.getElem?_eq_none h'] at hc
 ·rwa [getD_set_ne true e] at hc
def GP (c:Nat) (listed:Array Bool) (F:qE):Prop:=listed.getD c true=false→∀ k W,F k W
theorem keepC {listed:Array Bool} {F:qE} {i:Nat} {W W':World} (hi:listed.getD i true=false) (hst:∀ k,qA R0 (F k)) (hv:GP c listed F) (h:(XN R0 R c i).r W W') (k:Nat) (hF:F k W):F k W':=by
 unfold XN at h
 split at h
 ·rename_i e;subst e;exact hv hi k W'
 ·exact hst k _ _ h hF
theorem ZM.unique {H:Nat→Option qO} {listed:Array Bool} {i:Nat} {o:Oper} {a:Act} {F:qE} {h h':qO} (hc:Xf R0 R c w0 listed F) (hi:listed.getD i true=false) (x:ZM R0 R c P ops w0 H i o a F h) (y:ZM R0 R c P ops w0 H i o a F h'):h=h':=by
 obtain⟨W,hW,hW0,hF⟩:=hc
 have hW:=GQ hi hW hW0
 rcases x with ⟨x1,rfl⟩|⟨x1,x2,v,rfl,x3⟩|⟨x1,x2,x3⟩ <;> rcases y with ⟨y1,rfl⟩|⟨y1,y2,u,rfl,y3⟩|⟨y1,y2,y3⟩
 ·rfl
 ·rw[x1] at y1;cases y1
 ·rw[x1] at y1;cases y1
 ·rw[x1] at y1;cases y1
 ·obtain⟨w1,e1,_⟩:=x3 W hW fun k _=>hF k
  obtain⟨w2,e2,_⟩:=y3 W hW fun k _=>hF k
  rw[e1] at e2
  cases e2
  rfl
 ·rw[x2] at y2;cases y2
 ·rw[x1] at y1;cases y1
 ·rw[x2] at y2;cases y2
 ·rw[x2] at y2;cases y2;rfl
theorem ZM.some_ (hle:∀ a b,R0.r a b→R.r a b) {H:Nat→Option qO} {listed:Array Bool} {i:Nat} {o:Oper} {a:Act} {F:qE} {h:qO} (hc:Xf R0 R c w0 listed F) (hi:listed.getD i true=false) (hst:∀ k,qA R0 (F k)) (hv:GP c listed F) (x:ZM R0 R c P ops w0 H i o a F h):∃ p,Xf R0 R c w0 (listed.setIfInBounds i true) (upd F i o (h.φ p)):=by
 obtain⟨W,hW,hW0,hF⟩:=hc
 have triv:∀ (φ:World→Prop) W',(XN R0 R c i).r W W'→φ W'→Xf R0 R c w0 (listed.setIfInBounds i true) (upd F i o φ):=fun φ W' he hφ=>⟨W',R.trans hW (qdM hle he),fun h=>R0.trans (hW0 (unset h)) (stpC_0 hi he h),fun k=>by
  unfold upd
  split
  ·exact⟨hφ,fun j _=>keepC hi hst hv he j (hF j)⟩
  ·exact keepC hi hst hv he k (hF k)⟩
 have hW:=GQ hi hW hW0
 rcases x with ⟨x1,rfl⟩|⟨x1,x2,v,rfl,x3⟩|⟨x1,x2,x3⟩
 ·exact⟨(),triv _ W (Rel.refl _ W) trivial⟩
 ·obtain⟨w',_,he⟩:=x3 W hW fun k _=>hF k
  exact⟨(),triv _ w' he trivial⟩
 ·have h3:=x3 W hW fun k _=>hF k
  unfold Qs at h3
  generalize (execOp a.eval o).run P W=r at h3
  cases r with
  |ok n w' =>
   cases n <;> simp only[zZ] at h3
   case value u=>obtain⟨p,_,hp,he⟩:=h3;exact⟨p,triv _ w' he hp⟩
   case skip=>obtain⟨p,_,hp,he⟩:=h3;exact⟨p,triv _ w' he hp⟩
   case enter f args =>
    obtain⟨he,hcl⟩:=h3
    obtain⟨e,w'',fr,⟨p,_,hp,he2⟩,_⟩:=hcl []
    exact⟨p,triv _ w'' (Rel.trans _ he he2) hp⟩
  |halt x w'=>simp only[zZ] at h3
theorem ZM.move {H:Nat→Option qO} {i j:Nat} {oi oj:Oper} {a:Act} {F:qE} {h:qO} {v:Value} {φ:World→Prop} (hap:oi.apart ops oj=true) (hsj:∀ cs b,oj.op≠.select cs b) (hn:i∉qz oj) :
  ZM R0 R c P ops w0 H j oj (a.put oi.dst v) (upd F i oi φ) h↔ZM R0 R c P ops w0 H j oj a F h:=by
 obtain⟨h1,_,_⟩:=Oper.apart_spec hap
 have hF:∀ W,(∀ k∈qz oj,upd F i oi φ k W)↔∀ k∈qz oj,F k W:=fun W=>by
  constructor <;> intro hh k hk
  ·have:=hh k hk;unfold upd at this;rwa [if_neg (fun e=>hn (by rw[←e];exact hk))] at this
  ·unfold upd;rw[if_neg (fun e=>hn (by rw[←e];exact hk))];exact hh k hk
 unfold ZM jU Qs
 rw[wanted_put oj a oi.dst v h1,execOp_put oj hsj a oi.dst v h1]
 simp only[hF]
theorem ZM.move' {H:Nat→Option qO} {i j:Nat} {oi oj:Oper} {a:Act} {F:qE} {h:qO} {v:Value} {φ:World→Prop} (hap:oi.apart ops oj=true) (hsi:∀ cs b,oi.op≠.select cs b) (hn:j∉qz oi) :
  ZM R0 R c P ops w0 H i oi (a.put oj.dst v) (upd F j oj φ) h↔ZM R0 R c P ops w0 H i oi a F h:=by
 obtain⟨_,_,h3⟩:=Oper.apart_spec hap
 have hF:∀ W,(∀ k∈qz oi,upd F j oj φ k W)↔∀ k∈qz oi,F k W:=fun W=>by
  constructor <;> intro hh k hk
  ·have:=hh k hk;unfold upd at this;rwa [if_neg (fun e=>hn (by rw[←e];exact hk))] at this
  ·unfold upd;rw[if_neg (fun e=>hn (by rw[←e];exact hk))];exact hh k hk
 unfold ZM jU Qs
 rw[wanted_put oi a oj.dst v h3,execOp_put oi hsi a oj.dst v h3]
 simp only[hF]
theorem ZM.stable {H:Nat→Option qO} (hH:∀ i h,H i=some h→∀ p,qA R0 (h.φ p)) {i:Nat} {o:Oper} {a:Act} {F:qE} {h:qO} (x:ZM R0 R c P ops w0 H i o a F h):∀ p,qA R0 (h.φ p):=by
 rcases x with ⟨_,rfl⟩|⟨_,_,v,rfl,_⟩|⟨_,x2,_⟩
 ·exact fun _ _ _ _ _=>trivial
 ·exact fun _ _ _ _ _=>trivial
 ·exact hH i h x2
theorem ZM.void {H:Nat→Option qO} (hone:∀ i h,H i=some h→i=c) {listed:Array Bool} {i:Nat} {o:Oper} {a:Act} {F:qE} {h:qO} (hv:GP c listed F) (x:ZM R0 R c P ops w0 H i o a F h) (p:h.α):GP c (listed.setIfInBounds i true) (upd F i o (h.φ p)):=by
 intro hc k W
 have hcl:=hv (unset hc)
 unfold upd
 split
 ·refine⟨?_,fun j _=>hcl j W⟩
  rcases x with ⟨_,rfl⟩|⟨_,_,v,rfl,_⟩|⟨_,x2,_⟩
  ·trivial
  ·trivial
  ·exfalso
   have e:=hone i h x2
   subst e
   rcases Nat.lt_or_ge i listed.size with h'|h'
   ·simp[h'] at hc
   ·simp[Array.getElem?_eq_none h'] at hc
 ·exact hcl k W
theorem Up (hle:∀ a b,R0.r a b→R.r a b) {H:Nat→Option qO} (hone:∀ i h,H i=some h→i=c) (hH:∀ i h,H i=some h→∀ p,qA R0 (h.φ p)) {A:Nat→Prop} {Cl:Array Bool→Prop} {L:Array Bool} {Q:Act→qE→Prop} {i:Nat} {oi:Oper} (hi:ops[i]?=some oi) (him:A i)
  (hsel:∀ (j:Nat) (o:Oper) cs b,ops[j]?=some o→o.op≠.select cs b) (hcl:∀ listed j,Cl listed→j∈Region.ready .any ops listed→Cl (listed.setIfInBounds j true)) (htail:∀ (listed:Array Bool) (j:Nat),Cl listed→j∈Region.ready .any ops listed→L.getD j true=false→∀ k,A k→listed.getD k false=true) :
  ∀ (fuel:Nat) (listed:Array Bool) (a:Act) (F:qE),Cl listed →
   (∀ j oj,ops[j]?=some oj→j≠i→listed.getD j true=false→(∀ e∈oj.after,Region.binds .any e=true→e.on≠i)→oi.apart ops oj=true) →
   i∈Region.ready .any ops listed→(∀ k,qA R0 (F k))→Xf R0 R c w0 listed F→GP c listed F→(∀ k,listed.getD k true=false→∀ W,F k W) →
   FOpC R0 R c P ops w0 H listed i oi (YB R0 R c P ops w0 H L Q fuel (listed.setIfInBounds i true)) a F→YB R0 R c P ops w0 H L Q (fuel+1) listed a F:=by
 intro fuel
 induction fuel with
 |zero =>
  intro listed a F hCl _ hr hst hc hvd _ hop
  refine⟨fun h=>(by rw[h] at hr;cases hr),fun j hj oj hoj=>?_⟩
  by_cases hji:j=i
  ·subst hji
   rw[hi] at hoj;cases hoj
   exact hop
  ·exfalso
   obtain⟨h,hok,hK⟩:=hop
   obtain⟨p,hcp⟩:=hok.some_ hle hc (mem_ready.1 hr).1 hst hvd
   have hmj:L.getD j true=false:=by rw[←(hK p hcp).1];exact(mem_ready.1 (ready_mono hj hji)).1
   have h1:=htail listed j hCl hj hmj i him
   have h0:=(mem_ready.1 hr).1
   rcases Nat.lt_or_ge i listed.size with h'|h'
   ·simp[h'] at h0 h1;rw[h0] at h1;cases h1
   ·simp[Array.getElem?_eq_none h'] at h1
 |succ fuel ih =>
  intro listed a F hCl hfree hr hst hc hvd hun hop
  refine⟨fun h=>(by rw[h] at hr;cases hr),fun j hj oj hoj=>?_⟩
  by_cases hji:j=i
  ·subst hji
   rw[hi] at hoj;cases hoj
   exact hop
  ·obtain⟨hjun,oj',hoj',hall⟩:=mem_ready.1 hj
   rw[hoj] at hoj';cases hoj'
   obtain⟨hiun,oi',hoi',halli⟩:=mem_ready.1 hr
   rw[hi] at hoi';cases hoi'
   have bad:∀ k,listed.getD k true=false→listed.getD k false=true→False:=fun k h0 h1=>by
    rcases Nat.lt_or_ge k listed.size with h'|h'
    ·simp[h'] at h0 h1;rw[h0] at h1;cases h1
    ·simp[Array.getElem?_eq_none h'] at h1
   have hnot:∀ e∈oj.after,Region.binds .any e=true→e.on≠i:=fun e he hb heq=>bad i hiun (heq ▸ hall e he hb)
   have hnot':∀ e∈oi.after,Region.binds .any e=true→e.on≠j:=fun e he hb heq=>bad j hjun (heq ▸ halli e he hb)
   have hpi:i∉qz oj:=fun hin=>by
    obtain⟨e,he,hei⟩:=List.mem_map.1 hin
    rw[List.mem_filter] at he
    exact hnot e (by simpa using he.1) he.2 hei
   have hpj:j∉qz oi:=fun hin=>by
    obtain⟨e,he,hei⟩:=List.mem_map.1 hin
    rw[List.mem_filter] at he
    exact hnot' e (by simpa using he.1) he.2 hei
   have hap:=hfree j oj hoj hji hjun hnot
   have hsi:∀ cs b,oi.op≠.select cs b:=fun cs b=>hsel i oi cs b hi
   have hsj:∀ cs b,oj.op≠.select cs b:=fun cs b=>hsel j oj cs b hoj
   obtain⟨h2,_⟩:=(Oper.apart_spec hap).2
   obtain⟨hI,okI,hKI⟩:=hop
   obtain⟨p0,hcp0⟩:=okI.some_ hle hc hiun hst hvd
   obtain⟨hJ,okJ0,_⟩:=(hKI p0 hcp0).2 j (ready_mono hj hji) oj hoj
   have okJ:ZM R0 R c P ops w0 H j oj a F hJ:=(ZM.move hap hsj hpi).1 okJ0
   refine⟨hJ,okJ,fun q hcq=>?_⟩
   have stJ:=okJ.stable hH q
   have hfree':∀ k ok,ops[k]?=some ok→k≠i→(listed.setIfInBounds j true).getD k true=false →
     (∀ e∈ok.after,Region.binds .any e=true→e.on≠i)→oi.apart ops ok=true:=fun k ok hk hki hunk hno=>by
    refine hfree k ok hk hki ?_ hno
    by_cases hjk:j=k
    ·subst hjk;exact hjun
    ·rw[getD_set_ne true hjk] at hunk;exact hunk
   refine ih (listed.setIfInBounds j true) _ _ (hcl _ _ hCl hj) hfree' (ready_mono hr (Ne.symm hji)) (zF hst j oj stJ) hcq (okJ.void hone hvd q) ?_ ?_
   ·intro k hk W
    by_cases hjk:j=k
    ·subst hjk
     exfalso
     have hlt:j<listed.size:=by
      rcases Nat.lt_or_ge j listed.size with h'|h'
      ·exact h'
      ·simp[Array.getElem?_eq_none h'] at hjun
     simp[hlt] at hk
    ·rw[getD_set_ne true hjk] at hk
     have:=hun k hk W
     unfold upd;rw[if_neg (fun e=>hjk e.symm)];exact this
   ·refine⟨hI,(ZM.move' hap hsi hpj).2 okI,fun p hcp=>?_⟩
    have hcp':Xf R0 R c w0 (listed.setIfInBounds i true) (upd F i oi (hI.φ p)):=by
     by_cases hjc:j=c
     ·have hIone:∃ v,hI=one v:=by
       rcases okI with ⟨_,e⟩|⟨_,_,v,e,_⟩|⟨_,e,_⟩
       ·exact⟨_,e⟩
       ·exact⟨_,e⟩
       ·exact absurd ((hone _ _ e).trans hjc.symm) (Ne.symm hji)
      obtain⟨v,rfl⟩:=hIone
      exact hcp0
     ·obtain⟨W,hW,hW0,hF⟩:=hcp
      refine⟨W,hW,fun h=>hW0 ?_,fun k=>?_⟩
      ·rw[Array.setIfInBounds_comm _ _ hji,getD_set_ne true hjc]
       exact h
      have hk:=hF k
      by_cases hki:k=i
      ·subst hki
       unfold upd at hk ⊢
       rw[if_pos rfl] at hk ⊢
       refine⟨hk.1,fun l hl=>?_⟩
       have:=hk.2 l hl
       rwa [if_neg (fun e=>hpj (by rw[←e];exact hl))] at this
      ·by_cases hkj:k=j
       ·subst hkj
        unfold upd;rw[if_neg hki];exact hun k hjun W
       ·unfold upd at hk ⊢
        rw[if_neg hki,if_neg hkj] at hk
        rw[if_neg hki];exact hk
    obtain⟨hJ',okJ',hKJ'⟩:=(hKI p hcp').2 j (ready_mono hj hji) oj hoj
    have okJ'':ZM R0 R c P ops w0 H j oj a F hJ':=(ZM.move hap hsj hpi).1 okJ'
    have e:=okJ''.unique hc hjun okJ
    subst e
    have hq:=hKJ' q (by rw[Ji F _ _ (Ne.symm hji) hpi hpj,Array.setIfInBounds_comm _ _ (fun e=>hji e.symm)];exact hcp)
    rw[Array.setIfInBounds_comm _ _ (fun e=>hji e.symm),Act.put_comm a (hI.f p) (hJ'.f q) h2,Ji F _ _ (Ne.symm hji) hpi hpj] at hq
    exact hq
theorem XE (hle:∀ a b,R0.r a b→R.r a b) {H:Nat→Option qO} (hone:∀ i h,H i=some h→i=c) (hH:∀ i h,H i=some h→∀ p,qA R0 (h.φ p)) {Cl:Array Bool→Prop} {L:Array Bool} {ks:List Nat} {Q:Act→qE→Prop} (hs:Region.noSelect ops=true)
  (hcl:∀ listed j,Cl listed→j∈Region.ready .any ops listed→Cl (listed.setIfInBounds j true)) (htail:∀ (listed:Array Bool) (j:Nat),Cl listed→j∈Region.ready .any ops listed→L.getD j true=false→∀ k,k∈ks→listed.getD k false=true):∀ (l:List (Nat×Oper)) (listed:Array Bool) (a:Act) (F:qE),Cl listed→(∀ x∈l,ops[x.1]?=some x.2∧x.1∈ks) →
  Zy ops L (l.map (·.1)) listed=true→(∀ k,qA R0 (F k))→Xf R0 R c w0 listed F→GP c listed F→(∀ j,listed.getD j true=false→∀ W,F j W)→jb R0 R c P ops w0 H Q l listed a F→YB R0 R c P ops w0 H L Q l.length listed a F
 | [],listed,a,F,_,_,hB,_,_,_,_,h=>⟨by simpa [Zy] using hB,h⟩
 |(k,o) :: l,listed,a,F,hCl,hl,hB,hst,hc,hvd,hun,h=>by
  obtain⟨h0,hks⟩:=hl (k,o) (List.mem_cons_self)
  simp only[List.map_cons,Zy,Bool.and_eq_true] at hB
  obtain⟨⟨hr,hf⟩,hB'⟩:=hB
  have hrk:k∈Region.ready .any ops listed:=by simpa using hr
  have hkun:=(mem_ready.1 hrk).1
  refine Up hle hone (A:=fun k=>k∈ks) hH h0 hks (Region.noSelect_spec hs) hcl htail l.length listed a F hCl (Region.free_spec h0 hf) hrk hst hc hvd hun ?_
  obtain⟨hh,hok,hK⟩:=h
  refine⟨hh,hok,fun p hcp=>?_⟩
  refine XE hle hone hH hs hcl htail l _ _ _ (hcl _ _ hCl hrk) (fun x hx=>hl x (List.mem_cons_of_mem _ hx)) hB' (zF hst k o (hok.stable hH p)) hcp (hok.void hone hvd p) (fun j hj W=>?_) (hK p hcp)
  by_cases hjk:k=j
  ·subst hjk
   have hlt:k<listed.size:=by
    rcases Nat.lt_or_ge k listed.size with h'|h'
    ·exact h'
    ·simp[Array.getElem?_eq_none h'] at hkun
   simp[hlt] at hj
  ·rw[getD_set_ne true hjk] at hj
   have:=hun j hj W
   unfold upd
   rw[if_neg (fun e=>hjk e.symm)]
   exact this
theorem Um (hle:∀ a b,R0.r a b→R.r a b) {H:Nat→Option qO} {i:Nat} {o:Oper} {a:Act} {F:qE} {K:Act→qE→Prop} {K':Act→World→Prop} {Q':Exit→Act→World→Prop} {W:World} {listed:Array Bool} (hli:listed.getD i true=false) (hi:ops[i]?=some o)
  (hone:∀ i h,H i=some h→i=c) (hH:∀ i h,H i=some h→∀ p,qA R0 (h.φ p)) (hst:∀ k,qA R0 (F k)) (hvd:GP c listed F) (hW:R.r w0 W) (hW0:listed.getD c true=false→R0.r w0 W) (hF:∀ k,F k W)
  (hK:∀ a' F' W',K a' F'→(∀ k,qA R0 (F' k))→GP c (listed.setIfInBounds i true) F'→R.r w0 W'→((listed.setIfInBounds i true).getD c true=false→R0.r w0 W')→(∀ k,F' k W')→K' a' W') (h:FOpC R0 R c P ops w0 H listed i o K a F):wpOp P ops Q' i K' a W:=by
 obtain⟨hh,hok,hn⟩:=h
 have go:∀ p W',(XN R0 R c i).r W W'→hh.φ p W'→K' (a.put o.dst (hh.f p)) W':=fun p W' he0 hφ=>by
  have he:=qdM hle he0
  have h0:(listed.setIfInBounds i true).getD c true=false→R0.r w0 W':=fun h=>R0.trans (hW0 (unset h)) (stpC_0 hli he0 h)
  have hF':∀ k,upd F i o (hh.φ p) k W':=fun k=>by
   unfold upd
   split
   ·exact⟨hφ,fun j _=>keepC hli hst hvd he0 j (hF j)⟩
   ·exact keepC hli hst hvd he0 k (hF k)
  exact hK _ _ W' (hn p ⟨W',R.trans hW he,h0,hF'⟩) (zF hst i o (hok.stable hH p)) (hok.void hone hvd p) (R.trans hW he) h0 hF'
 have hWp:=GQ (c:=c) hli hW hW0
 unfold wpOp
 simp only[hi]
 rcases hok with ⟨x1,rfl⟩|⟨x1,x2,v,rfl,x3⟩|⟨x1,x2,x3⟩
 ·simp only[x1,Bool.false_eq_true,if_false]
  exact go () W (Rel.refl _ W) trivial
 ·simp only[x1,if_true]
  obtain⟨w',hr,he⟩:=x3 W hWp fun k _=>hF k
  refine .inl ?_
  unfold Oper.wp
  rw[hr]
  exact go () w' he trivial
 ·simp only[x1,if_true]
  have h3:=x3 W hWp fun k _=>hF k
  refine .inl ?_
  unfold Qs at h3
  unfold Oper.wp
  generalize (execOp a.eval o).run P W=r at *
  cases r with
  |ok n w' =>
   cases n <;> simp only[zZ] at h3 <;> simp only[Oper.upon]
   case value u =>
    obtain⟨p,rfl,hp,he⟩:=h3
    exact go p w' he hp
   case skip =>
    obtain⟨p,hu,hp,he⟩:=h3
    rw[hu]
    exact go p w' he hp
   case enter f args =>
    obtain⟨he,hcl⟩:=h3
    refine hcl.mono fun e w'' ⟨p,he1,hp,he2⟩=>?_
    subst he1
    exact go p w'' (Rel.trans _ he he2) hp
  |halt x w'=>simp only[zZ] at h3
theorem kG (hle:∀ a b,R0.r a b→R.r a b) {H:Nat→Option qO} (hone:∀ i h,H i=some h→i=c) (hH:∀ i h,H i=some h→∀ p,qA R0 (h.φ p)) {L:Array Bool} {t:Nat} {Q:Act→qE→Prop} {Q':Exit→Act→World→Prop}
  (hQ:∀ a F W,Q a F→R.r w0 W→(∀ k,F k W)→wpAny P .any ops Q' t L a W) :
  ∀ (fuel:Nat) (listed:Array Bool) (a:Act) (F:qE) (W:World),(∀ k,qA R0 (F k))→GP c listed F→R.r w0 W→(listed.getD c true=false→R0.r w0 W)→(∀ k,F k W)→YB R0 R c P ops w0 H L Q fuel listed a F→wpAny P .any ops Q' (fuel+t) listed a W
 |0,listed,a,F,W,_,_,hW,_,hF,h=>by
  rw[h.1,Nat.zero_add]
  exact hQ a F W h.2 hW hF
 |fuel+1,listed,a,F,W,hst,hvd,hW,hW0,hF,h=>by
  rw[show fuel+1+t=fuel+t+1 by omega]
  refine⟨fun h0=>absurd h0 h.1,fun i hi=>?_⟩
  obtain⟨hli,o,ho,_⟩:=mem_ready.1 hi
  exact Um hle hli ho hone hH hst hvd hW hW0 hF (fun a' F' W' hk hst' hvd' hW' hW0' hF'=>kG hle hone hH hQ fuel _ a' F' W' hst' hvd' hW' hW0' hF' hk) (h.2 i hi o ho)
theorem UR {l:List Oper} {Q:Exit→Act→World→Prop} {fuel:Nat} {listed:Array Bool} {a:Act} {w W:World} (R0 R:Rel) (c:Nat) (hle:∀ a b,R0.r a b→R.r a b) (H:Nat→Option qO) (M:List Bool) (t:Nat)
  (hs:Region.noSelect l.toArray=true) (ht:tailT l.toArray (QU l.length (l.length-t)) ((qp 0 l M).map (·.1))=true) (hc0:Yz l.toArray listed=true) (hB:Zy l.toArray (QU l.length (l.length-t)) ((qp 0 l M).map (·.1)) listed=true)
  (hseq:XH l.toArray t (l.length-t) (QU l.length (l.length-t))=true) (hfu:fuel=(qp 0 l M).length+t) (htl:(l.drop (l.length-t)).length=t)
  (hH:∀ i h,H i=some h→∀ p,qA R0 (h.φ p)) (hone:∀ i h,H i=some h→i=c) (hW:R0.r w W)
  (h:∀ K:Act→qE→Prop,(∀ a' F',(∀ W,R.r w W→(∀ k,F' k W)→wpList P l.toArray Q (l.drop (l.length-t)) a' W)→K a' F')→jb R0 R c P l.toArray w H K (qp 0 l M) listed a (fun _ _=>True)):wpAny P .any l.toArray Q fuel listed a W:=by
 have h:=h _ (fun a' F' hh=>hh)
 subst hfu
 have key:=XE hle hone (w0:=w) hH hs (fun _ _ h=>h.step) (Kw ht) (qp 0 l M) listed a (fun _ _=>True) (Jo hc0) (fun x hx=>by
  obtain⟨j,h1,h2⟩:=Jn l M 0 x hx
  refine⟨?_,List.mem_map.2 ⟨x,hx,rfl⟩⟩
  rw[h1,Nat.zero_add]
  simpa using h2) hB (fun _ _ _ _ _=>trivial) ⟨W,hle _ _ hW,fun _=>hW,fun _=>trivial⟩ (fun _ _ _=>trivial) (fun _ _ _=>trivial) h
 refine kG hle hone (w0:=w) hH (t:=t) (Q':=Q) (fun a F W hq hW hF=>?_) _ _ _ _ W (fun _ _ _ _ _=>trivial) (fun _ _ _=>trivial) (hle _ _ hW) (fun _=>hW) (fun _=>trivial) key
 have:=Vh (l.drop (l.length-t)) (l.length-t) _ a W (fun j _=>by rw[List.getElem?_drop];simp) (by rw[htl];exact hseq) (hq W hW hF)
 rwa [htl] at this
/-! ### the steps of the walk -/
section
variable {H:Nat→Option qO} {Q:Act→qE→Prop} {k:Nat} {o:Oper} {rest:List (Nat×Oper)} {a:Act} {F:qE} {listed:Array Bool}
theorem Gf (h:Q a F):jb R0 R c P ops w0 H Q [] listed a F:=h
theorem qaA (v:Value) (hw:Region.wanted o (yielded ops a.tmps)=true) (hH:H k=none) (hv:∀ W,(preC R0 R c k).r w0 W→(∀ j∈qz o,F j W)→jU (XN R0 R c k) P o a W v)
  (h:jb R0 R c P ops w0 H Q rest (listed.setIfInBounds k true) (a.put o.dst v) (upd F k o fun _=>True)):jb R0 R c P ops w0 H Q ((k,o) :: rest) listed a F:=
 ⟨one v,.inr (.inl ⟨hw,hH,v,rfl,hv⟩),fun _ _=>h⟩
theorem ZE (hle:∀ a b,R0.r a b→R.r a b) (v:Value) (hw:Region.wanted o (yielded ops a.tmps)=true) (hH:H k=none) (hv:∀ W,R.r w0 W→(∀ j∈qz o,F j W)→(execOp a.eval o).run P W=.ok (.value v) W)
  (h:jb R0 R c P ops w0 H Q rest (listed.setIfInBounds k true) (a.put o.dst v) (upd F k o fun _=>True)):jb R0 R c P ops w0 H Q ((k,o) :: rest) listed a F:=
 qaA v hw hH (fun W hW hF=>⟨W,hv W (by unfold preC at hW;split at hW;exact hle _ _ hW;exact hW) hF,Rel.refl _ W⟩) h
theorem jA (hw:Region.wanted o (yielded ops a.tmps)=false) (h:jb R0 R c P ops w0 H Q rest (listed.setIfInBounds k true) (a.put o.dst undef) (upd F k o fun _=>True)):jb R0 R c P ops w0 H Q ((k,o) :: rest) listed a F:=
 ⟨one undef,.inl ⟨hw,rfl⟩,fun _ _=>h⟩
theorem Ud (hh:qO) (hw:Region.wanted o (yielded ops a.tmps)=true) (hH:H c=some hh) (hv:∀ W,R0.r w0 W→(∀ j∈qz o,F j W)→Qs R P o a W hh)
  (h:∀ p,jb R0 R c P ops w0 H Q rest (listed.setIfInBounds c true) (a.put o.dst (hh.f p)) (upd F c o (hh.φ p))):jb R0 R c P ops w0 H Q ((c,o) :: rest) listed a F:=
 ⟨hh,.inr (.inr ⟨hw,hH,fun W hW hF=>by unfold preC at hW;unfold XN;rw[if_pos rfl] at hW ⊢;exact hv W hW hF⟩),fun p _=>h p⟩
end
end
end
theorem Ky {above:Bool} {xs:List It} {i:Nat} (hi:i<xs.length):Tw above xs i=(itB xs[i].r xs[i].val.length && (decide (i=0) || (match xs[i-1]? with|some y=>qab y xs[i]|none=>true)) && !(above && (decide (xs[i].r=0) || decide (0<xs[i].val.length)))):=by
 unfold Tw
 rw[List.getElem?_eq_getElem hi]
 rfl
theorem qaO {above:Bool} {xs:List It} {i:Nat} (hi:i<xs.length) (h:itB xs[i].r xs[i].val.length=false):Tw above xs i=false:=by
 rw[Ky hi,h];rfl
set_option maxHeartbeats 4000000 in
set_option maxRecDepth 100000 in
theorem qcd (lvl:Int) (A:Option Addr) (n c:Nat) (xs:List It) (w:World) (hx:Its w w.heap.size (.slice A n c) xs) (h:jj lvl n=true) :
  Calls Tryz.prog 89 #[ZA lvl A n c] w (Ret (.int .i64 (jy (qX lvl xs))) w):=by
 obtain⟨hn,hnc,hcm,hA⟩:=hx.at_
 have h':0≤lvl∧lvl<6∧n≤5∧(0<lvl→n≠0):=by unfold jj at h;exact of_decide_eq_true h
 have hM:qX lvl xs=VB (decide (0<lvl)) xs xs.length:=by unfold qX;rw[←hn,h];rfl
 rw[hM]
 clear hM h
 subst hn
 have HX:=zH hx
 clear hx
 obtain⟨h1,h2,h3,h4⟩:=h'
 by_cases hab:0<lvl
 ·rw[decide_eq_true hab]
  go_enter Tryz.func89,Tryz.ntmps89
  go_wp2
  all_goals simp only[beq_iff_eq,beq_eq_false_iff_ne,ne_eq] at *
  all_goals first|(exfalso;omega)|skip
  generalize hw1:(World.alloc _ _)=w1
  have b1:Ext w w1:=by rw[←hw1];exact Ext.alloc _ _
  have r1:w1.heap[w.heap.size]?=some (.cells #[.int .i64 lvl,.slice A xs.length c] 49 (0,0)):=by rw[←hw1];exact World.alloc_heap_at _ _ _ rfl
  clear hw1
  go_loopw [36] (fun i wr=>∃ k:Nat,k≤xs.length∧i=.int .i64 (k:Int)∧VB true xs k=true∧Ext w1 wr) (fun i _=>xs.length-(intOf i).toNat)
  case atStart=>exact⟨0,by omega,rfl,rfl,Ext.refl _⟩
  case round =>
   obtain⟨k,hk,rfl,hck,hE⟩:=hrel
   by_cases hlt:k<xs.length
   ·have hlt':=hlt
    obtain⟨b,off,rfl,hb⟩:=hA (by omega)
    have b2:Ext w wr:=b1.trans hE
    obtain⟨A',c',c0,c1,c2,c3,c4,hby⟩:=(HX.out.ext b2).item k hlt'
    have HCK:=zH (Ky (above:=true) hlt')
    have HBAD:=zH (Ts (above:=true) hlt')
    have HBI:=zH (qaO (above:=true) hlt')
    have HSU:=zH (Xi true xs k)
    generalize hx:xs[k]=x at *
    go_wp2_with fail
    generalize hw3:(World.alloc _ _)=w3
    have b3:Ext wr w3:=by rw[←hw3];exact Ext.alloc _ _
    have r3:w3.heap[wr.heap.size]?=some (.cells #[.int .u8 x.k,.int .u32 x.i,.int .u32 x.o,.int .i64 x.r,.slice A' x.val.length c'] 68 (0,0)):=by rw[←hw3];exact World.alloc_heap_at _ _ _ rfl
    clear hw3
    refine(jJ x.k x.i x.o x.r A' x.val.length c' _).mono ?_
    rintro e w4 ⟨rfl,hB⟩
    have b4:Ext wr w4:=b3.trans hB
    have r4:=qc r3 hB
    clear hB r3 b3
    by_cases hok:itB x.r x.val.length=true
    ·rw[vD hok]
     go_wp2
     have b5:Ext w1 w4:=hE.trans b4
     have rn:=qc r1 b5
     have n1:∀ W,Ext w4 W→W.cell? ⟨w.heap.size,1,none⟩=some (.slice (some ⟨b,off,none⟩) xs.length c):=fun W h=>by rw[qa (qc rn h)];rfl
     have i0:∀ W,Ext w4 W→W.cell? ⟨wr.heap.size,0,none⟩=some (.int .u8 x.k):=fun W h=>by rw[qa (qc r4 h)];rfl
     have i1:∀ W,Ext w4 W→W.cell? ⟨wr.heap.size,1,none⟩=some (.int .u32 x.i):=fun W h=>by rw[qa (qc r4 h)];rfl
     have i2:∀ W,Ext w4 W→W.cell? ⟨wr.heap.size,2,none⟩=some (.int .u32 x.o):=fun W h=>by rw[qa (qc r4 h)];rfl
     have i3:∀ W,Ext w4 W→W.cell? ⟨wr.heap.size,3,none⟩=some (.int .i64 x.r):=fun W h=>by rw[qa (qc r4 h)];rfl
     have i4:∀ W,Ext w4 W→W.cell? ⟨wr.heap.size,4,none⟩=some (.slice A' x.val.length c'):=fun W h=>by rw[qa (qc r4 h)];rfl
     rcases k with _|j
     ·refine QR (qG [(12,one (.bool true))]) 29 (by kernel_rfl) (by kernel_rfl) (by kernel_rfl) (by decide) (by kernel_rfl) (by kernel_rfl) ?st ?walk
      case st=>exact QY (by simp only[List.forall_mem_cons];exact⟨zO _,fun _ h=>by cases h⟩)
      case walk =>
       intro K hK
       dsimp only[List.take]
       by_cases hr0:x.r=0
       ·have hr1:(x.r == 0)=true:=by simpa using hr0
        have hr2:decide (x.r=0)=true:=by simpa using hr0
        repeat ((first|(refine qB ?_ (by rfl) (by rfl) (fun W hW _=>⟨W,?_,Ext.refl W⟩) ?_;rotate_left;(first|(go_simp;with_reducible rfl)|(go_simp;done)))|(refine qN (by rfl) ?_));try simp only[Act.put,qi,qe,qb,qf,zA,zB,zC])
        refine zK (hK _ _ fun W hW hF=>?_)
        clear hF hK
        have b7:Ext wr W:=b4.trans hW
        dsimp only[List.drop]
        go_wp2
        all_goals first
         |(go_ret
           exact⟨by rw[HBAD.out (by rw[HCK.out,hok];simp[*])];rfl,Ext.trans b2 b7⟩)
         |(go_roundw
           case rel=>exact⟨0+1,by omega,by go_num,by rw[HSU.out,hck,HCK.out,hok];simp[*],hE.trans b7⟩
           case measure=>simp[intOf];omega)
       ·have hr1:(x.r == 0)=false:=by simpa using hr0
        have hr2:decide (x.r=0)=false:=by simpa using hr0
        repeat ((first|(refine qB ?_ (by rfl) (by rfl) (fun W hW _=>⟨W,?_,Ext.refl W⟩) ?_;rotate_left;(first|(go_simp;with_reducible rfl)|(go_simp;done)))|(refine qN (by rfl) ?_));try simp only[Act.put,qi,qe,qb,qf,zA,zB,zC])
        refine zK (hK _ _ fun W hW hF=>?_)
        clear hF hK
        have b7:Ext wr W:=b4.trans hW
        dsimp only[List.drop]
        go_wp2
        all_goals first
         |(go_ret
           exact⟨by rw[HBAD.out (by rw[HCK.out,hok];simp[*])];rfl,Ext.trans b2 b7⟩)
         |(go_roundw
           case rel=>exact⟨0+1,by omega,by go_num,by rw[HSU.out,hck,HCK.out,hok];simp[*],hE.trans b7⟩
           case measure=>simp[intOf];omega)
     ·have hjl:j<xs.length:=by omega
      obtain⟨A2,c2',d0,d1,d2,d3,d4,_⟩:=(HX.out.ext (b2.trans b4)).item j hjl
      have hprev:xs[j+1-1]?=some xs[j]:=by rw[Nat.add_sub_cancel,List.getElem?_eq_getElem hjl]
      have HP:=zH hprev
      clear hprev
      generalize xs[j]=y at *
      have p0:∀ W,Ext w4 W→W.cell? ⟨b,off+j*5,none⟩=some (.int .u8 y.k):=fun W h=>Ext.cell h d0
      have p1:∀ W,Ext w4 W→W.cell? ⟨b,off+j*5+1,none⟩=some (.int .u32 y.i):=fun W h=>Ext.cell h d1
      have p2:∀ W,Ext w4 W→W.cell? ⟨b,off+j*5+2,none⟩=some (.int .u32 y.o):=fun W h=>Ext.cell h d2
      clear d0 d1 d2 d3 d4
      have HL:=zH (fun W=>km y.k y.i y.o x.k x.i x.o W)
      have HLE:Hid (qab y x=Vk y.k y.i y.o x.k x.i x.o):=rfl
      generalize Vk y.k y.i y.o x.k x.i x.o=L at *
      have hj1:((j+1:Nat):Int)-1=(j:Int):=by omega
      refine QR (qG [(12,one (.bool L))]) 29 (by kernel_rfl) (by kernel_rfl) (by kernel_rfl) (by decide) (by kernel_rfl) (by kernel_rfl) ?st ?walk
      case st=>exact QY (by simp only[List.forall_mem_cons];exact⟨zO _,fun _ h=>by cases h⟩)
      case walk =>
       intro K hK
       dsimp only[List.take]
       repeat ((first|(refine qB ?_ (by rfl) (by rfl) (fun W hW _=>⟨W,?_,Ext.refl W⟩) ?_;rotate_left;(first|(go_simp;with_reducible rfl)|(go_simp;done)))|(refine qN (by rfl) ?_));try simp only[Act.put,qi,qe,qb,qf,zA,zB,zC])
       refine qB (.pointer (some ⟨b,off+j*5,none⟩)) (by rfl) (by rfl) (fun W hW _=>⟨W,?_,Ext.refl W⟩) ?_
       ·go_simp
        rw[IntWalk.i64_in (j:Int) (by omega),if_pos (by omega)]
        simp
       simp only[Act.put,qi,qe,qb,qf,zA,zB,zC]
       repeat ((first|(refine qB ?_ (by rfl) (by rfl) (fun W hW _=>⟨W,?_,Ext.refl W⟩) ?_;rotate_left;(first|(go_simp;with_reducible rfl)|(go_simp;done)))|(refine qN (by rfl) ?_));try simp only[Act.put,qi,qe,qb,qf,zA,zB,zC])
       refine Qm (one (.bool L)) (by rfl) (by rfl) (fun W hW _=>?_) (fun p=>?_)
       ·refine Qz ?_ ((HL.out W).mono fun e w' h=>⟨(),h.1,trivial,h.2⟩)
        go_simp
       cases p
       simp only[Act.put,qi,qe,qb,qf,zA,zB,zC]
       cases L
       ·repeat ((first|(refine qB ?_ (by rfl) (by rfl) (fun W hW _=>⟨W,?_,Ext.refl W⟩) ?_;rotate_left;(first|(go_simp;with_reducible rfl)|(go_simp;done)))|(refine qN (by rfl) ?_));try simp only[Act.put,qi,qe,qb,qf,zA,zB,zC])
        refine zK (hK _ _ fun W hW hF=>?_)
        clear hF hK HL
        have b7:Ext wr W:=b4.trans hW
        dsimp only[List.drop]
        go_wp2
        all_goals first
         |(go_ret
           exact⟨by rw[HBAD.out (by rw[HCK.out,hok,HP.out];simp[HLE.out, *])];rfl,Ext.trans b2 b7⟩)
         |(go_roundw
           case rel=>exact⟨j+1+1,by omega,by go_num,by rw[HSU.out,hck,HCK.out,hok,HP.out];simp[HLE.out, *],hE.trans b7⟩
           case measure=>simp[intOf];omega)
       ·by_cases hr0:x.r=0
        ·have hr1:(x.r == 0)=true:=by simpa using hr0
         have hr2:decide (x.r=0)=true:=by simpa using hr0
         repeat ((first|(refine qB ?_ (by rfl) (by rfl) (fun W hW _=>⟨W,?_,Ext.refl W⟩) ?_;rotate_left;(first|(go_simp;with_reducible rfl)|(go_simp;done)))|(refine qN (by rfl) ?_));try simp only[Act.put,qi,qe,qb,qf,zA,zB,zC])
         refine zK (hK _ _ fun W hW hF=>?_)
         clear hF hK HL
         have b7:Ext wr W:=b4.trans hW
         dsimp only[List.drop]
         go_wp2
         all_goals first
          |(go_ret
            exact⟨by rw[HBAD.out (by rw[HCK.out,hok,HP.out];simp[HLE.out, *])];rfl,Ext.trans b2 b7⟩)
          |(go_roundw
            case rel=>exact⟨j+1+1,by omega,by go_num,by rw[HSU.out,hck,HCK.out,hok,HP.out];simp[HLE.out, *],hE.trans b7⟩
            case measure=>simp[intOf];omega)
        ·have hr1:(x.r == 0)=false:=by simpa using hr0
         have hr2:decide (x.r=0)=false:=by simpa using hr0
         repeat ((first|(refine qB ?_ (by rfl) (by rfl) (fun W hW _=>⟨W,?_,Ext.refl W⟩) ?_;rotate_left;(first|(go_simp;with_reducible rfl)|(go_simp;done)))|(refine qN (by rfl) ?_));try simp only[Act.put,qi,qe,qb,qf,zA,zB,zC])
         refine zK (hK _ _ fun W hW hF=>?_)
         clear hF hK HL
         have b7:Ext wr W:=b4.trans hW
         dsimp only[List.drop]
         go_wp2
         all_goals first
          |(go_ret
            exact⟨by rw[HBAD.out (by rw[HCK.out,hok,HP.out];simp[HLE.out, *])];rfl,Ext.trans b2 b7⟩)
          |(go_roundw
            case rel=>exact⟨j+1+1,by omega,by go_num,by rw[HSU.out,hck,HCK.out,hok,HP.out];simp[HLE.out, *],hE.trans b7⟩
            case measure=>simp[intOf];omega)
    ·have hok':itB x.r x.val.length=false:=by simpa using hok
     have hfin:=HBAD.out (HBI.out hok')
     rw[Jp hok']
     clear HCK HBAD HBI HSU
     go_wp2
     go_ret
     exact⟨by rw[hfin];rfl,Ext.trans b2 b4⟩
   ·obtain rfl:k=xs.length:=by omega
    go_wp2
    go_ret
    exact⟨by rw[hck];rfl,b1.trans hE⟩
 ·rw[decide_eq_false hab]
  go_enter Tryz.func89,Tryz.ntmps89
  go_wp2
  all_goals simp only[beq_iff_eq,beq_eq_false_iff_ne,ne_eq] at *
  all_goals first|(exfalso;omega)|skip
  generalize hw1:(World.alloc _ _)=w1
  have b1:Ext w w1:=by rw[←hw1];exact Ext.alloc _ _
  have r1:w1.heap[w.heap.size]?=some (.cells #[.int .i64 lvl,.slice A xs.length c] 49 (0,0)):=by rw[←hw1];exact World.alloc_heap_at _ _ _ rfl
  clear hw1
  go_loopw [36] (fun i wr=>∃ k:Nat,k≤xs.length∧i=.int .i64 (k:Int)∧VB false xs k=true∧Ext w1 wr) (fun i _=>xs.length-(intOf i).toNat)
  case atStart=>exact⟨0,by omega,rfl,rfl,Ext.refl _⟩
  case round =>
   obtain⟨k,hk,rfl,hck,hE⟩:=hrel
   by_cases hlt:k<xs.length
   ·have hlt':=hlt
    obtain⟨b,off,rfl,hb⟩:=hA (by omega)
    have b2:Ext w wr:=b1.trans hE
    obtain⟨A',c',c0,c1,c2,c3,c4,hby⟩:=(HX.out.ext b2).item k hlt'
    have HCK:=zH (Ky (above:=false) hlt')
    have HBAD:=zH (Ts (above:=false) hlt')
    have HBI:=zH (qaO (above:=false) hlt')
    have HSU:=zH (Xi false xs k)
    generalize hx:xs[k]=x at *
    go_wp2_with fail
    generalize hw3:(World.alloc _ _)=w3
    have b3:Ext wr w3:=by rw[←hw3];exact Ext.alloc _ _
    have r3:w3.heap[wr.heap.size]?=some (.cells #[.int .u8 x.k,.int .u32 x.i,.int .u32 x.o,.int .i64 x.r,.slice A' x.val.length c'] 68 (0,0)):=by rw[←hw3];exact World.alloc_heap_at _ _ _ rfl
    clear hw3
    refine(jJ x.k x.i x.o x.r A' x.val.length c' _).mono ?_
    rintro e w4 ⟨rfl,hB⟩
    have b4:Ext wr w4:=b3.trans hB
    have r4:=qc r3 hB
    clear hB r3 b3
    by_cases hok:itB x.r x.val.length=true
    ·rw[vD hok]
     go_wp2
     have b5:Ext w1 w4:=hE.trans b4
     have rn:=qc r1 b5
     have n1:∀ W,Ext w4 W→W.cell? ⟨w.heap.size,1,none⟩=some (.slice (some ⟨b,off,none⟩) xs.length c):=fun W h=>by rw[qa (qc rn h)];rfl
     have i0:∀ W,Ext w4 W→W.cell? ⟨wr.heap.size,0,none⟩=some (.int .u8 x.k):=fun W h=>by rw[qa (qc r4 h)];rfl
     have i1:∀ W,Ext w4 W→W.cell? ⟨wr.heap.size,1,none⟩=some (.int .u32 x.i):=fun W h=>by rw[qa (qc r4 h)];rfl
     have i2:∀ W,Ext w4 W→W.cell? ⟨wr.heap.size,2,none⟩=some (.int .u32 x.o):=fun W h=>by rw[qa (qc r4 h)];rfl
     have i3:∀ W,Ext w4 W→W.cell? ⟨wr.heap.size,3,none⟩=some (.int .i64 x.r):=fun W h=>by rw[qa (qc r4 h)];rfl
     have i4:∀ W,Ext w4 W→W.cell? ⟨wr.heap.size,4,none⟩=some (.slice A' x.val.length c'):=fun W h=>by rw[qa (qc r4 h)];rfl
     rcases k with _|j
     ·refine QR (qG [(12,one (.bool true))]) 29 (by kernel_rfl) (by kernel_rfl) (by kernel_rfl) (by decide) (by kernel_rfl) (by kernel_rfl) ?st ?walk
      case st=>exact QY (by simp only[List.forall_mem_cons];exact⟨zO _,fun _ h=>by cases h⟩)
      case walk =>
       intro K hK
       dsimp only[List.take]
       by_cases hr0:x.r=0
       ·have hr1:(x.r == 0)=true:=by simpa using hr0
        have hr2:decide (x.r=0)=true:=by simpa using hr0
        repeat ((first|(refine qB ?_ (by rfl) (by rfl) (fun W hW _=>⟨W,?_,Ext.refl W⟩) ?_;rotate_left;(first|(go_simp;with_reducible rfl)|(go_simp;done)))|(refine qN (by rfl) ?_));try simp only[Act.put,qi,qe,qb,qf,zA,zB,zC])
        refine zK (hK _ _ fun W hW hF=>?_)
        clear hF hK
        have b7:Ext wr W:=b4.trans hW
        dsimp only[List.drop]
        go_wp2
        all_goals first
         |(go_ret
           exact⟨by rw[HBAD.out (by rw[HCK.out,hok];simp[*])];rfl,Ext.trans b2 b7⟩)
         |(go_roundw
           case rel=>exact⟨0+1,by omega,by go_num,by rw[HSU.out,hck,HCK.out,hok];simp[*],hE.trans b7⟩
           case measure=>simp[intOf];omega)
       ·have hr1:(x.r == 0)=false:=by simpa using hr0
        have hr2:decide (x.r=0)=false:=by simpa using hr0
        repeat ((first|(refine qB ?_ (by rfl) (by rfl) (fun W hW _=>⟨W,?_,Ext.refl W⟩) ?_;rotate_left;(first|(go_simp;with_reducible rfl)|(go_simp;done)))|(refine qN (by rfl) ?_));try simp only[Act.put,qi,qe,qb,qf,zA,zB,zC])
        refine zK (hK _ _ fun W hW hF=>?_)
        clear hF hK
        have b7:Ext wr W:=b4.trans hW
        dsimp only[List.drop]
        go_wp2
        all_goals first
         |(go_ret
           exact⟨by rw[HBAD.out (by rw[HCK.out,hok];simp[*])];rfl,Ext.trans b2 b7⟩)
         |(go_roundw
           case rel=>exact⟨0+1,by omega,by go_num,by rw[HSU.out,hck,HCK.out,hok];simp[*],hE.trans b7⟩
           case measure=>simp[intOf];omega)
     ·have hjl:j<xs.length:=by omega
      obtain⟨A2,c2',d0,d1,d2,d3,d4,_⟩:=(HX.out.ext (b2.trans b4)).item j hjl
      have hprev:xs[j+1-1]?=some xs[j]:=by rw[Nat.add_sub_cancel,List.getElem?_eq_getElem hjl]
      have HP:=zH hprev
      clear hprev
      generalize xs[j]=y at *
      have p0:∀ W,Ext w4 W→W.cell? ⟨b,off+j*5,none⟩=some (.int .u8 y.k):=fun W h=>Ext.cell h d0
      have p1:∀ W,Ext w4 W→W.cell? ⟨b,off+j*5+1,none⟩=some (.int .u32 y.i):=fun W h=>Ext.cell h d1
      have p2:∀ W,Ext w4 W→W.cell? ⟨b,off+j*5+2,none⟩=some (.int .u32 y.o):=fun W h=>Ext.cell h d2
      clear d0 d1 d2 d3 d4
      have HL:=zH (fun W=>km y.k y.i y.o x.k x.i x.o W)
      have HLE:Hid (qab y x=Vk y.k y.i y.o x.k x.i x.o):=rfl
      generalize Vk y.k y.i y.o x.k x.i x.o=L at *
      have hj1:((j+1:Nat):Int)-1=(j:Int):=by omega
      refine QR (qG [(12,one (.bool L))]) 29 (by kernel_rfl) (by kernel_rfl) (by kernel_rfl) (by decide) (by kernel_rfl) (by kernel_rfl) ?st ?walk
      case st=>exact QY (by simp only[List.forall_mem_cons];exact⟨zO _,fun _ h=>by cases h⟩)
      case walk =>
       intro K hK
       dsimp only[List.take]
       repeat ((first|(refine qB ?_ (by rfl) (by rfl) (fun W hW _=>⟨W,?_,Ext.refl W⟩) ?_;rotate_left;(first|(go_simp;with_reducible rfl)|(go_simp;done)))|(refine qN (by rfl) ?_));try simp only[Act.put,qi,qe,qb,qf,zA,zB,zC])
       refine qB (.pointer (some ⟨b,off+j*5,none⟩)) (by rfl) (by rfl) (fun W hW _=>⟨W,?_,Ext.refl W⟩) ?_
       ·go_simp
        rw[IntWalk.i64_in (j:Int) (by omega),if_pos (by omega)]
        simp
       simp only[Act.put,qi,qe,qb,qf,zA,zB,zC]
       repeat ((first|(refine qB ?_ (by rfl) (by rfl) (fun W hW _=>⟨W,?_,Ext.refl W⟩) ?_;rotate_left;(first|(go_simp;with_reducible rfl)|(go_simp;done)))|(refine qN (by rfl) ?_));try simp only[Act.put,qi,qe,qb,qf,zA,zB,zC])
       refine Qm (one (.bool L)) (by rfl) (by rfl) (fun W hW _=>?_) (fun p=>?_)
       ·refine Qz ?_ ((HL.out W).mono fun e w' h=>⟨(),h.1,trivial,h.2⟩)
        go_simp
       cases p
       simp only[Act.put,qi,qe,qb,qf,zA,zB,zC]
       cases L
       ·repeat ((first|(refine qB ?_ (by rfl) (by rfl) (fun W hW _=>⟨W,?_,Ext.refl W⟩) ?_;rotate_left;(first|(go_simp;with_reducible rfl)|(go_simp;done)))|(refine qN (by rfl) ?_));try simp only[Act.put,qi,qe,qb,qf,zA,zB,zC])
        refine zK (hK _ _ fun W hW hF=>?_)
        clear hF hK HL
        have b7:Ext wr W:=b4.trans hW
        dsimp only[List.drop]
        go_wp2
        all_goals first
         |(go_ret
           exact⟨by rw[HBAD.out (by rw[HCK.out,hok,HP.out];simp[HLE.out, *])];rfl,Ext.trans b2 b7⟩)
         |(go_roundw
           case rel=>exact⟨j+1+1,by omega,by go_num,by rw[HSU.out,hck,HCK.out,hok,HP.out];simp[HLE.out, *],hE.trans b7⟩
           case measure=>simp[intOf];omega)
       ·by_cases hr0:x.r=0
        ·have hr1:(x.r == 0)=true:=by simpa using hr0
         have hr2:decide (x.r=0)=true:=by simpa using hr0
         repeat ((first|(refine qB ?_ (by rfl) (by rfl) (fun W hW _=>⟨W,?_,Ext.refl W⟩) ?_;rotate_left;(first|(go_simp;with_reducible rfl)|(go_simp;done)))|(refine qN (by rfl) ?_));try simp only[Act.put,qi,qe,qb,qf,zA,zB,zC])
         refine zK (hK _ _ fun W hW hF=>?_)
         clear hF hK HL
         have b7:Ext wr W:=b4.trans hW
         dsimp only[List.drop]
         go_wp2
         all_goals first
          |(go_ret
            exact⟨by rw[HBAD.out (by rw[HCK.out,hok,HP.out];simp[HLE.out, *])];rfl,Ext.trans b2 b7⟩)
          |(go_roundw
            case rel=>exact⟨j+1+1,by omega,by go_num,by rw[HSU.out,hck,HCK.out,hok,HP.out];simp[HLE.out, *],hE.trans b7⟩
            case measure=>simp[intOf];omega)
        ·have hr1:(x.r == 0)=false:=by simpa using hr0
         have hr2:decide (x.r=0)=false:=by simpa using hr0
         repeat ((first|(refine qB ?_ (by rfl) (by rfl) (fun W hW _=>⟨W,?_,Ext.refl W⟩) ?_;rotate_left;(first|(go_simp;with_reducible rfl)|(go_simp;done)))|(refine qN (by rfl) ?_));try simp only[Act.put,qi,qe,qb,qf,zA,zB,zC])
         refine zK (hK _ _ fun W hW hF=>?_)
         clear hF hK HL
         have b7:Ext wr W:=b4.trans hW
         dsimp only[List.drop]
         go_wp2
         all_goals first
          |(go_ret
            exact⟨by rw[HBAD.out (by rw[HCK.out,hok,HP.out];simp[HLE.out, *])];rfl,Ext.trans b2 b7⟩)
          |(go_roundw
            case rel=>exact⟨j+1+1,by omega,by go_num,by rw[HSU.out,hck,HCK.out,hok,HP.out];simp[HLE.out, *],hE.trans b7⟩
            case measure=>simp[intOf];omega)
    ·have hok':itB x.r x.val.length=false:=by simpa using hok
     have hfin:=HBAD.out (HBI.out hok')
     rw[Jp hok']
     clear HCK HBAD HBI HSU
     go_wp2
     go_ret
     exact⟨by rw[hfin];rfl,Ext.trans b2 b4⟩
   ·obtain rfl:k=xs.length:=by omega
    go_wp2
    go_ret
    exact⟨by rw[hck];rfl,b1.trans hE⟩

def QC (l:List UInt8):Nat→Option (List It×List UInt8)
 |0=>some ([],l)
 |k+1=>match QC l k with
  |none=>none
  |some (xs,r)=>match zj r with
   |none=>none
   |some (x,n)=>some (xs++[x],r.drop n)
def QE (l:List UInt8):Option (Int×List It):=
 if l.length=128∧Gg l=true∧(l[4]?.getD 0)=78∧(l[6]?.getD 0).toNat≤5 then
  match QC (l.drop 7) (l[6]?.getD 0).toNat with
  |none=>none
  |some (xs,r)=>if qX (l[5]?.getD 0).toNat xs=true∧Vd r=true then some (((l[5]?.getD 0).toNat:Int),xs) else none
 else none
theorem Xc {l:List UInt8}:∀ {k:Nat} {xs:List It} {r:List UInt8},QC l k=some (xs,r)→xs.length=k:=by
 intro k
 induction k with
 |zero=>intro xs r h;simp[QC] at h;simp[←h.1]
 |succ k ih =>
  intro xs r h
  unfold QC at h
  split at h
  ·cases h
  ·rename_i ys q hq
   split at h
   ·cases h
   ·simp at h
    rw[←h.1]
    simp[ih hq]
def ZL (x:It):Prop:=(0≤x.k∧x.k<256)∧(0≤x.i∧x.i<4294967296)∧(0≤x.o∧x.o<4294967296)∧(0≤x.r∧x.r<256)∧x.val.length≤12
def js (x:It):List UInt8:=UInt8.ofNat x.k.toNat :: (qw x.i.toNat 4++(qw x.o.toNat 4++(qw x.r.toNat 2++(UInt8.ofNat x.val.length :: x.val))))
theorem qbb (x:It):(js x).length=12+x.val.length:=by simp[js,QZ];omega
theorem ky {l:List UInt8} {a k:Nat} (h:a+k≤l.length):qw (za l a k).toNat k=(l.drop a).take k:=by
 unfold za
 rw[if_pos h]
 have hl:((l.drop a).take k).length=k:=by simp;omega
 have:=Uu ((l.drop a).take k)
 rw[hl] at this
 simpa using this
theorem Je {l:List UInt8} {a k:Nat} (h:a+k≤l.length):0≤za l a k∧za l a k<256 ^ k:=by
 unfold za
 rw[if_pos h]
 have:=Te ((l.drop a).take k)
 have hl:((l.drop a).take k).length=k:=by simp;omega
 rw[hl] at this
 refine⟨Int.natCast_nonneg _,?_⟩
 have h2:((jz ((l.drop a).take k):Nat):Int)<((256 ^ k:Nat):Int):=Int.ofNat_lt.2 this
 rw[Int.natCast_pow] at h2
 exact h2
theorem ve (l:List UInt8) (a b:Nat):l.take (a+b)=l.take a++(l.drop a).take b:=by rw[List.take_add]
theorem Kj {l:List UInt8} {x:It} {n:Nat} (h:zj l=some (x,n)):js x=l.take n∧n≤l.length∧n=12+x.val.length∧ZL x∧itB x.r x.val.length=true:=by
 unfold zj at h
 split at h
 ·cases h
 ·rename_i hl
  split at h
  ·rename_i hb
   simp only[Option.some.injEq,Prod.mk.injEq] at h
   obtain⟨rfl,rfl⟩:=h
   have hs:Jm l=12+(l[11]?.getD 0).toNat:=rfl
   have hv:(UA l).val.length=Jm l-12:=by simp[UA];omega
   have u0:=(l[0]?.getD 0).toNat_lt
   have u11:=(l[11]?.getD 0).toNat_lt
   have r1:=Je (l:=l) (a:=1) (k:=4) (by omega)
   have r5:=Je (l:=l) (a:=5) (k:=4) (by omega)
   have r9:=Je (l:=l) (a:=9) (k:=2) (by omega)
   have hb':=hb
   simp only[itB,decide_eq_true_eq] at hb'
   refine⟨?_,by omega,by rw[hv];omega,⟨⟨by simp[UA],by simp[UA];omega⟩,⟨r1.1,r1.2⟩,⟨r5.1,r5.2⟩,⟨?_,?_⟩,by rw[hv];omega⟩,by rw[hv];exact hb⟩
   ·have e1:l.take 1=[l[0]?.getD 0]:=by
     rcases l with _|⟨a,l⟩
     ·simp at hl
     ·simp
    have e11:(l.drop 11).take 1=[l[11]?.getD 0]:=by
     rw[List.drop_eq_getElem_cons (by omega),List.getElem?_eq_getElem (by omega)]
     rfl
    have:l.take (Jm l)=l.take 1++((l.drop 1).take 4++((l.drop 5).take 4++((l.drop 9).take 2++((l.drop 11).take 1++(l.drop 12).take (Jm l-12))))):=by
     conv=>lhs;rw[show Jm l=1+(4+(4+(2+(1+(Jm l-12))))) by omega]
     rw[ve l 1,ve (l.drop 1) 4,List.drop_drop,ve (l.drop (1+4)) 4,List.drop_drop,ve (l.drop (1+4+4)) 2,List.drop_drop,ve (l.drop (1+4+4+2)) 1,List.drop_drop]
    rw[this,e1,e11]
    unfold js
    rw[hv]
    simp only[UA]
    rw[ky (by omega),ky (by omega),ky (by omega)]
    rw[hs,Nat.add_sub_cancel_left]
    simp
   ·exact r9.1
   ·rcases hb'.1 with h0|h0 <;> omega
  ·cases h
def Zq (xs:List It):List UInt8:=xs.flatMap js
theorem Ut (xs:List It) (x:It):Zq (xs++[x])=Zq xs++js x:=by simp[Zq]
theorem KW {l:List UInt8}:∀ {k:Nat} {xs:List It} {r:List UInt8},QC l k=some (xs,r)→l=Zq xs++r∧∀ x∈xs,ZL x∧itB x.r x.val.length=true:=by
 intro k
 induction k with
 |zero=>intro xs r h;simp only[QC,Option.some.injEq,Prod.mk.injEq] at h;obtain⟨rfl,rfl⟩:=h;exact⟨rfl,fun _ h=>by cases h⟩
 |succ k ih =>
  intro xs r h
  unfold QC at h
  split at h
  ·cases h
  ·rename_i ys q hq
   split at h
   ·cases h
   ·rename_i x n hx
    simp only[Option.some.injEq,Prod.mk.injEq] at h
    obtain⟨rfl,rfl⟩:=h
    obtain⟨h1,h2⟩:=ih hq
    obtain⟨g1,g2,g3,g4,g5⟩:=Kj hx
    refine⟨?_,?_⟩
    ·rw[Ut,g1,List.append_assoc,List.take_append_drop];exact h1
    ·intro y hy
     rcases List.mem_append.1 hy with hy|hy
     ·exact h2 y hy
     ·obtain rfl:y=x:=by simpa using hy
      exact⟨g4,g5⟩
theorem Yp (xs:List It) (h:∀ x∈xs,ZL x):(Zq xs).length≤24*xs.length:=by
 induction xs with
 |nil=>simp[Zq]
 |cons x r ih =>
  have h1:=ih fun y hy=>h y (by simp[hy])
  have h2:=qbb x
  have h3:=(h x (by simp)).2.2.2.2
  simp only[Zq,List.flatMap_cons,List.length_append,List.length_cons] at h1 ⊢
  omega
def zo (lvl:Int) (xs:List It):List UInt8:=78 :: UInt8.ofNat lvl.toNat :: UInt8.ofNat xs.length :: Zq xs
theorem QJ {w w':World} {base n size:Nat} {e:TypeId} {v:Value} {xs:List Value} (h:w.ownsRow base e size v n xs) (hx:Ext w w'):w'.ownsRow base e size v n xs:=by
 refine⟨h.1,?_⟩
 rcases h.2 with h0|⟨g,cap,cur,hv,hb,hg,rest⟩
 ·exact .inl h0
 ·exact .inr ⟨g,cap,cur,hv,hb,qc hg hx,rest⟩
theorem Qu {w:World} {base base' n size:Nat} {e:TypeId} {v:Value} {xs:List Value} (h:w.ownsRow base e size v n xs) (hb:base'≤base):w.ownsRow base' e size v n xs:=by
 refine⟨h.1,?_⟩
 rcases h.2 with h0|⟨g,cap,cur,hv,hb',rest⟩
 ·exact .inl h0
 ·exact .inr ⟨g,cap,cur,hv,Nat.le_trans hb hb',rest⟩
theorem Ge {w w':World} {B b:Nat} {o:Obj} (h:w.heap[b]?=some o) (hb:b<B) (hx:Below B w w'):w'.heap[b]?=some o:=(hx.block b hb).trans h
end Go.Proofs.YtpbniokljofedaaGreat
