/- Texts FreeC, Short, DTwinW, joined. -/
import Derived.Deep.Slices
import Derived.Test.YtpbniokljofedaaGreatZF06
import Derived.Test.YtpbniokljofedaaGreatZF07
import Derived.Test.YtpbniokljofedaaGreatZF10
import Derived.Test.YtpbniokljofedaaGreatZF15
set_option linter.unusedSimpArgs false
set_option linter.unusedVariables false
set_option maxHeartbeats 8000000
namespace Go.Proofs.YtpbniokljofedaaGreat
open Go.RowKit
section
variable {R0 R:Rel} {c:Nat}
def preC (R0 R:Rel) (c i:Nat):Rel:=if i=c then R0 else R
def UM (R0 R:Rel) (c i:Nat):Rel:=if i=c then R else R0
section
variable {P:Program} {ops:Array Oper} {w0:World}
def jm (R0 R:Rel) (c:Nat) (P:Program) (ops:Array Oper) (w0:World) (H:Nat→Option qS) (i:Nat) (o:Oper) (a:Act) (F:qM) (h:qS):Prop:=
 (Region.wanted o (yielded ops a.tmps)=false∧h=one undef) ∨
 (Region.wanted o (yielded ops a.tmps)=true∧H i=none∧∃ v,h=one v∧∀ W,(preC R0 R c i).r w0 W→(∀ k∈qG o,F k W)→JS (UM R0 R c i) P o a W v) ∨
 (Region.wanted o (yielded ops a.tmps)=true∧H i=some h∧∀ W,(preC R0 R c i).r w0 W→(∀ k∈qG o,F k W)→QG (UM R0 R c i) P o a W h)
def TT (R0 R:Rel) (c:Nat) (w0:World) (listed:Array Bool) (F:qM):Prop:=∃ W,R.r w0 W∧(listed.getD c true=false→R0.r w0 W)∧∀ k,F k W
def FOpC (R0 R:Rel) (c:Nat) (P:Program) (ops:Array Oper) (w0:World) (H:Nat→Option qS) (listed:Array Bool) (i:Nat) (o:Oper) (K:Act→qM→Prop) (a:Act) (F:qM):Prop:=
 ∃ h,jm R0 R c P ops w0 H i o a F h∧∀ p,TT R0 R c w0 (listed.setIfInBounds i true) (upd F i o (h.φ p))→K (a.put o.dst (h.f p)) (upd F i o (h.φ p))
def jN (R0 R:Rel) (c:Nat) (P:Program) (ops:Array Oper) (w0:World) (H:Nat→Option qS) (Q:Act→qM→Prop):List (Nat×Oper)→Array Bool→Act→qM→Prop
 | [],_,a,F=>Q a F
 |(k,o) :: rest,listed,a,F=>FOpC R0 R c P ops w0 H listed k o (fun a' F'=>jN R0 R c P ops w0 H Q rest (listed.setIfInBounds k true) a' F') a F
def Tp (R0 R:Rel) (c:Nat) (P:Program) (ops:Array Oper) (w0:World) (H:Nat→Option qS) (L:Array Bool) (Q:Act→qM→Prop):Nat→Array Bool→Act→qM→Prop
 |0,listed,a,F=>listed=L∧Q a F
 |fuel+1,listed,a,F=>Region.ready .any ops listed≠[]∧∀ i∈Region.ready .any ops listed,∀ o,ops[i]?=some o→FOpC R0 R c P ops w0 H listed i o (Tp R0 R c P ops w0 H L Q fuel (listed.setIfInBounds i true)) a F
theorem qcG {listed:Array Bool} {i:Nat} {W:World} (hi:listed.getD i true=false) (h:R.r w0 W) (h0:listed.getD c true=false→R0.r w0 W):(preC R0 R c i).r w0 W:=by
 unfold preC
 split
 ·rename_i e;subst e;exact h0 hi
 ·exact h
theorem qhm (hle:∀ a b,R0.r a b→R.r a b) {i:Nat} {W W':World} (h:(UM R0 R c i).r W W'):R.r W W':=by
 unfold UM at h
 split at h
 ·exact h
 ·exact hle _ _ h
theorem stpC_0 {listed:Array Bool} {i:Nat} {W W':World} (hi:listed.getD i true=false) (h:(UM R0 R c i).r W W') (hc:(listed.setIfInBounds i true).getD c true=false):R0.r W W':=by
 unfold UM at h
 split at h
 ·rename_i e
  subst e
  exfalso
  rcases Nat.lt_or_ge i listed.size with h'|h'
  ·simp[h'] at hc
  ·simp[Array.getElem?_eq_none h'] at hi
 ·exact h
theorem unset {listed:Array Bool} {i c:Nat} (hc:(listed.setIfInBounds i true).getD c true=false):listed.getD c true=false:=by
 by_cases e:i=c
 ·subst e
  rcases Nat.lt_or_ge i listed.size with h'|h'
  ·simp[h'] at hc
  ·simp[Array.getElem?_eq_none h'] at hc
 ·rwa [getD_set_ne true e] at hc
def Void (c:Nat) (listed:Array Bool) (F:qM):Prop:=listed.getD c true=false→∀ k W,F k W
theorem keepC {listed:Array Bool} {F:qM} {i:Nat} {W W':World} (hi:listed.getD i true=false) (hst:∀ k,qD R0 (F k)) (hv:Void c listed F) (h:(UM R0 R c i).r W W') (k:Nat) (hF:F k W):F k W':=by
 unfold UM at h
 split at h
 ·rename_i e;subst e;exact hv hi k W'
 ·exact hst k _ _ h hF
theorem jm.unique {H:Nat→Option qS} {listed:Array Bool} {i:Nat} {o:Oper} {a:Act} {F:qM} {h h':qS} (hc:TT R0 R c w0 listed F) (hi:listed.getD i true=false) (x:jm R0 R c P ops w0 H i o a F h) (y:jm R0 R c P ops w0 H i o a F h'):h=h':=by
 obtain⟨W,hW,hW0,hF⟩:=hc
 have hW:=qcG hi hW hW0
 rcases x with ⟨x1,rfl⟩|⟨x1,x2,v,rfl,x3⟩|⟨x1,x2,x3⟩ <;> rcases y with ⟨y1,rfl⟩|⟨y1,y2,u,rfl,y3⟩|⟨y1,y2,y3⟩
 ·rfl
 ·rw[x1] at y1;cases y1
 ·rw[x1] at y1;cases y1
 ·rw[x1] at y1;cases y1
 ·obtain⟨w1,e1,_⟩:=x3 W hW fun k _=>hF k
  obtain⟨w2,e2,_⟩:=y3 W hW fun k _=>hF k
  rw[e1] at e2
  cases e2
  rfl
 ·rw[x2] at y2;cases y2
 ·rw[x1] at y1;cases y1
 ·rw[x2] at y2;cases y2
 ·rw[x2] at y2;cases y2;rfl
theorem jm.some_ (hle:∀ a b,R0.r a b→R.r a b) {H:Nat→Option qS} {listed:Array Bool} {i:Nat} {o:Oper} {a:Act} {F:qM} {h:qS} (hc:TT R0 R c w0 listed F) (hi:listed.getD i true=false) (hst:∀ k,qD R0 (F k)) (hv:Void c listed F) (x:jm R0 R c P ops w0 H i o a F h):∃ p,TT R0 R c w0 (listed.setIfInBounds i true) (upd F i o (h.φ p)):=by
 obtain⟨W,hW,hW0,hF⟩:=hc
 have triv:∀ (φ:World→Prop) W',(UM R0 R c i).r W W'→φ W'→TT R0 R c w0 (listed.setIfInBounds i true) (upd F i o φ):=fun φ W' he hφ=>⟨W',R.trans hW (qhm hle he),fun h=>R0.trans (hW0 (unset h)) (stpC_0 hi he h),fun k=>by
  unfold upd
  split
  ·exact⟨hφ,fun j _=>keepC hi hst hv he j (hF j)⟩
  ·exact keepC hi hst hv he k (hF k)⟩
 have hW:=qcG hi hW hW0
 rcases x with ⟨x1,rfl⟩|⟨x1,x2,v,rfl,x3⟩|⟨x1,x2,x3⟩
 ·exact⟨(),triv _ W (Rel.refl _ W) trivial⟩
 ·obtain⟨w',_,he⟩:=x3 W hW fun k _=>hF k
  exact⟨(),triv _ w' he trivial⟩
 ·have h3:=x3 W hW fun k _=>hF k
  unfold QG at h3
  generalize (execOp a.eval o).run P W=r at h3
  cases r with
  |ok n w' =>
   cases n <;> simp only[ZD] at h3
   case value u=>obtain⟨p,_,hp,he⟩:=h3;exact⟨p,triv _ w' he hp⟩
   case skip=>obtain⟨p,_,hp,he⟩:=h3;exact⟨p,triv _ w' he hp⟩
   case enter f args =>
    obtain⟨he,hcl⟩:=h3
    obtain⟨e,w'',fr,⟨p,_,hp,he2⟩,_⟩:=hcl []
    exact⟨p,triv _ w'' (Rel.trans _ he he2) hp⟩
  |halt x w'=>simp only[ZD] at h3
theorem jm.move {H:Nat→Option qS} {i j:Nat} {oi oj:Oper} {a:Act} {F:qM} {h:qS} {v:Value} {φ:World→Prop} (hap:oi.apart ops oj=true) (hsj:∀ cs b,oj.op≠.select cs b) (hn:i∉qG oj) :
  jm R0 R c P ops w0 H j oj (a.put oi.dst v) (upd F i oi φ) h↔jm R0 R c P ops w0 H j oj a F h:=by
 obtain⟨h1,_,_⟩:=Oper.apart_spec hap
 have hF:∀ W,(∀ k∈qG oj,upd F i oi φ k W)↔∀ k∈qG oj,F k W:=fun W=>by
  constructor <;> intro hh k hk
  ·have:=hh k hk;unfold upd at this;rwa [if_neg (fun e=>hn (by rw[←e];exact hk))] at this
  ·unfold upd;rw[if_neg (fun e=>hn (by rw[←e];exact hk))];exact hh k hk
 unfold jm JS QG
 rw[wanted_put oj a oi.dst v h1,execOp_put oj hsj a oi.dst v h1]
 simp only[hF]
theorem jm.move' {H:Nat→Option qS} {i j:Nat} {oi oj:Oper} {a:Act} {F:qM} {h:qS} {v:Value} {φ:World→Prop} (hap:oi.apart ops oj=true) (hsi:∀ cs b,oi.op≠.select cs b) (hn:j∉qG oi) :
  jm R0 R c P ops w0 H i oi (a.put oj.dst v) (upd F j oj φ) h↔jm R0 R c P ops w0 H i oi a F h:=by
 obtain⟨_,_,h3⟩:=Oper.apart_spec hap
 have hF:∀ W,(∀ k∈qG oi,upd F j oj φ k W)↔∀ k∈qG oi,F k W:=fun W=>by
  constructor <;> intro hh k hk
  ·have:=hh k hk;unfold upd at this;rwa [if_neg (fun e=>hn (by rw[←e];exact hk))] at this
  ·unfold upd;rw[if_neg (fun e=>hn (by rw[←e];exact hk))];exact hh k hk
 unfold jm JS QG
 rw[wanted_put oi a oj.dst v h3,execOp_put oi hsi a oj.dst v h3]
 simp only[hF]
theorem jm.stable {H:Nat→Option qS} (hH:∀ i h,H i=some h→∀ p,qD R0 (h.φ p)) {i:Nat} {o:Oper} {a:Act} {F:qM} {h:qS} (x:jm R0 R c P ops w0 H i o a F h):∀ p,qD R0 (h.φ p):=by
 rcases x with ⟨_,rfl⟩|⟨_,_,v,rfl,_⟩|⟨_,x2,_⟩
 ·exact fun _ _ _ _ _=>trivial
 ·exact fun _ _ _ _ _=>trivial
 ·exact hH i h x2
theorem jm.void {H:Nat→Option qS} (hone:∀ i h,H i=some h→i=c) {listed:Array Bool} {i:Nat} {o:Oper} {a:Act} {F:qM} {h:qS} (hv:Void c listed F) (x:jm R0 R c P ops w0 H i o a F h) (p:h.α):Void c (listed.setIfInBounds i true) (upd F i o (h.φ p)):=by
 intro hc k W
 have hcl:=hv (unset hc)
 unfold upd
 split
 ·refine⟨?_,fun j _=>hcl j W⟩
  rcases x with ⟨_,rfl⟩|⟨_,_,v,rfl,_⟩|⟨_,x2,_⟩
  ·trivial
  ·trivial
  ·exfalso
   have e:=hone i h x2
   subst e
   rcases Nat.lt_or_ge i listed.size with h'|h'
   ·simp[h'] at hc
   ·simp[Array.getElem?_eq_none h'] at hc
 ·exact hcl k W
theorem qaT (hle:∀ a b,R0.r a b→R.r a b) {H:Nat→Option qS} (hone:∀ i h,H i=some h→i=c) (hH:∀ i h,H i=some h→∀ p,qD R0 (h.φ p)) {A:Nat→Prop} {Cl:Array Bool→Prop} {L:Array Bool} {Q:Act→qM→Prop} {i:Nat} {oi:Oper} (hi:ops[i]?=some oi) (him:A i)
  (hsel:∀ (j:Nat) (o:Oper) cs b,ops[j]?=some o→o.op≠.select cs b) (hcl:∀ listed j,Cl listed→j∈Region.ready .any ops listed→Cl (listed.setIfInBounds j true)) (htail:∀ (listed:Array Bool) (j:Nat),Cl listed→j∈Region.ready .any ops listed→L.getD j true=false→∀ k,A k→listed.getD k false=true) :
  ∀ (fuel:Nat) (listed:Array Bool) (a:Act) (F:qM),Cl listed →
   (∀ j oj,ops[j]?=some oj→j≠i→listed.getD j true=false→(∀ e∈oj.after,Region.binds .any e=true→e.on≠i)→oi.apart ops oj=true) →
   i∈Region.ready .any ops listed→(∀ k,qD R0 (F k))→TT R0 R c w0 listed F→Void c listed F→(∀ k,listed.getD k true=false→∀ W,F k W) →
   FOpC R0 R c P ops w0 H listed i oi (Tp R0 R c P ops w0 H L Q fuel (listed.setIfInBounds i true)) a F→Tp R0 R c P ops w0 H L Q (fuel+1) listed a F:=by
 intro fuel
 induction fuel with
 |zero =>
  intro listed a F hCl _ hr hst hc hvd _ hop
  refine⟨fun h=>(by rw[h] at hr;cases hr),fun j hj oj hoj=>?_⟩
  by_cases hji:j=i
  ·subst hji
   rw[hi] at hoj;cases hoj
   exact hop
  ·exfalso
   obtain⟨h,hok,hK⟩:=hop
   obtain⟨p,hcp⟩:=hok.some_ hle hc (mem_ready.1 hr).1 hst hvd
   have hmj:L.getD j true=false:=by rw[←(hK p hcp).1];exact(mem_ready.1 (ready_mono hj hji)).1
   have h1:=htail listed j hCl hj hmj i him
   have h0:=(mem_ready.1 hr).1
   rcases Nat.lt_or_ge i listed.size with h'|h'
   ·simp[h'] at h0 h1;rw[h0] at h1;cases h1
   ·simp[Array.getElem?_eq_none h'] at h1
 |succ fuel ih =>
  intro listed a F hCl hfree hr hst hc hvd hun hop
  refine⟨fun h=>(by rw[h] at hr;cases hr),fun j hj oj hoj=>?_⟩
  by_cases hji:j=i
  ·subst hji
   rw[hi] at hoj;cases hoj
   exact hop
  ·obtain⟨hjun,oj',hoj',hall⟩:=mem_ready.1 hj
   rw[hoj] at hoj';cases hoj'
   obtain⟨hiun,oi',hoi',halli⟩:=mem_ready.1 hr
   rw[hi] at hoi';cases hoi'
   have bad:∀ k,listed.getD k true=false→listed.getD k false=true→False:=fun k h0 h1=>by
    rcases Nat.lt_or_ge k listed.size with h'|h'
    ·simp[h'] at h0 h1;rw[h0] at h1;cases h1
    ·simp[Array.getElem?_eq_none h'] at h1
   have hnot:∀ e∈oj.after,Region.binds .any e=true→e.on≠i:=fun e he hb heq=>bad i hiun (heq ▸ hall e he hb)
   have hnot':∀ e∈oi.after,Region.binds .any e=true→e.on≠j:=fun e he hb heq=>bad j hjun (heq ▸ halli e he hb)
   have hpi:i∉qG oj:=fun hin=>by
    obtain⟨e,he,hei⟩:=List.mem_map.1 hin
    rw[List.mem_filter] at he
    exact hnot e (by simpa using he.1) he.2 hei
   have hpj:j∉qG oi:=fun hin=>by
    obtain⟨e,he,hei⟩:=List.mem_map.1 hin
    rw[List.mem_filter] at he
    exact hnot' e (by simpa using he.1) he.2 hei
   have hap:=hfree j oj hoj hji hjun hnot
   have hsi:∀ cs b,oi.op≠.select cs b:=fun cs b=>hsel i oi cs b hi
   have hsj:∀ cs b,oj.op≠.select cs b:=fun cs b=>hsel j oj cs b hoj
   obtain⟨h2,_⟩:=(Oper.apart_spec hap).2
   obtain⟨hI,okI,hKI⟩:=hop
   obtain⟨p0,hcp0⟩:=okI.some_ hle hc hiun hst hvd
   obtain⟨hJ,okJ0,_⟩:=(hKI p0 hcp0).2 j (ready_mono hj hji) oj hoj
   have okJ:jm R0 R c P ops w0 H j oj a F hJ:=(jm.move hap hsj hpi).1 okJ0
   refine⟨hJ,okJ,fun q hcq=>?_⟩
   have stJ:=okJ.stable hH q
   have hfree':∀ k ok,ops[k]?=some ok→k≠i→(listed.setIfInBounds j true).getD k true=false →
     (∀ e∈ok.after,Region.binds .any e=true→e.on≠i)→oi.apart ops ok=true:=fun k ok hk hki hunk hno=>by
    refine hfree k ok hk hki ?_ hno
    by_cases hjk:j=k
    ·subst hjk;exact hjun
    ·rw[getD_set_ne true hjk] at hunk;exact hunk
   refine ih (listed.setIfInBounds j true) _ _ (hcl _ _ hCl hj) hfree' (ready_mono hr (Ne.symm hji)) (Zv hst j oj stJ) hcq (okJ.void hone hvd q) ?_ ?_
   ·intro k hk W
    by_cases hjk:j=k
    ·subst hjk
     exfalso
     have hlt:j<listed.size:=by
      rcases Nat.lt_or_ge j listed.size with h'|h'
      ·exact h'
      ·simp[Array.getElem?_eq_none h'] at hjun
     simp[hlt] at hk
    ·rw[getD_set_ne true hjk] at hk
     have:=hun k hk W
     unfold upd;rw[if_neg (fun e=>hjk e.symm)];exact this
   ·refine⟨hI,(jm.move' hap hsi hpj).2 okI,fun p hcp=>?_⟩
    have hcp':TT R0 R c w0 (listed.setIfInBounds i true) (upd F i oi (hI.φ p)):=by
     by_cases hjc:j=c
     ·have hIone:∃ v,hI=one v:=by
       rcases okI with ⟨_,e⟩|⟨_,_,v,e,_⟩|⟨_,e,_⟩
       ·exact⟨_,e⟩
       ·exact⟨_,e⟩
       ·exact absurd ((hone _ _ e).trans hjc.symm) (Ne.symm hji)
      obtain⟨v,rfl⟩:=hIone
      exact hcp0
     ·obtain⟨W,hW,hW0,hF⟩:=hcp
      refine⟨W,hW,fun h=>hW0 ?_,fun k=>?_⟩
      ·rw[Array.setIfInBounds_comm _ _ hji,getD_set_ne true hjc]
       exact h
      have hk:=hF k
      by_cases hki:k=i
      ·subst hki
       unfold upd at hk ⊢
       rw[if_pos rfl] at hk ⊢
       refine⟨hk.1,fun l hl=>?_⟩
       have:=hk.2 l hl
       rwa [if_neg (fun e=>hpj (by rw[←e];exact hl))] at this
      ·by_cases hkj:k=j
       ·subst hkj
        unfold upd;rw[if_neg hki];exact hun k hjun W
       ·unfold upd at hk ⊢
        rw[if_neg hki,if_neg hkj] at hk
        rw[if_neg hki];exact hk
    obtain⟨hJ',okJ',hKJ'⟩:=(hKI p hcp').2 j (ready_mono hj hji) oj hoj
    have okJ'':jm R0 R c P ops w0 H j oj a F hJ':=(jm.move hap hsj hpi).1 okJ'
    have e:=okJ''.unique hc hjun okJ
    subst e
    have hq:=hKJ' q (by rw[JY F _ _ (Ne.symm hji) hpi hpj,Array.setIfInBounds_comm _ _ (fun e=>hji e.symm)];exact hcp)
    rw[Array.setIfInBounds_comm _ _ (fun e=>hji e.symm),Act.put_comm a (hI.f p) (hJ'.f q) h2,JY F _ _ (Ne.symm hji) hpi hpj] at hq
    exact hq
theorem UE (hle:∀ a b,R0.r a b→R.r a b) {H:Nat→Option qS} (hone:∀ i h,H i=some h→i=c) (hH:∀ i h,H i=some h→∀ p,qD R0 (h.φ p)) {Cl:Array Bool→Prop} {L:Array Bool} {ks:List Nat} {Q:Act→qM→Prop} (hs:Region.noSelect ops=true)
  (hcl:∀ listed j,Cl listed→j∈Region.ready .any ops listed→Cl (listed.setIfInBounds j true)) (htail:∀ (listed:Array Bool) (j:Nat),Cl listed→j∈Region.ready .any ops listed→L.getD j true=false→∀ k,k∈ks→listed.getD k false=true):∀ (l:List (Nat×Oper)) (listed:Array Bool) (a:Act) (F:qM),Cl listed→(∀ x∈l,ops[x.1]?=some x.2∧x.1∈ks) →
  Zs ops L (l.map (·.1)) listed=true→(∀ k,qD R0 (F k))→TT R0 R c w0 listed F→Void c listed F→(∀ j,listed.getD j true=false→∀ W,F j W)→jN R0 R c P ops w0 H Q l listed a F→Tp R0 R c P ops w0 H L Q l.length listed a F
 | [],listed,a,F,_,_,hB,_,_,_,_,h=>⟨by simpa [Zs] using hB,h⟩
 |(k,o) :: l,listed,a,F,hCl,hl,hB,hst,hc,hvd,hun,h=>by
  obtain⟨h0,hks⟩:=hl (k,o) (List.mem_cons_self)
  simp only[List.map_cons,Zs,Bool.and_eq_true] at hB
  obtain⟨⟨hr,hf⟩,hB'⟩:=hB
  have hrk:k∈Region.ready .any ops listed:=by simpa using hr
  have hkun:=(mem_ready.1 hrk).1
  refine qaT hle hone (A:=fun k=>k∈ks) hH h0 hks (Region.noSelect_spec hs) hcl htail l.length listed a F hCl (Region.free_spec h0 hf) hrk hst hc hvd hun ?_
  obtain⟨hh,hok,hK⟩:=h
  refine⟨hh,hok,fun p hcp=>?_⟩
  refine UE hle hone hH hs hcl htail l _ _ _ (hcl _ _ hCl hrk) (fun x hx=>hl x (List.mem_cons_of_mem _ hx)) hB' (Zv hst k o (hok.stable hH p)) hcp (hok.void hone hvd p) (fun j hj W=>?_) (hK p hcp)
  by_cases hjk:k=j
  ·subst hjk
   have hlt:k<listed.size:=by
    rcases Nat.lt_or_ge k listed.size with h'|h'
    ·exact h'
    ·simp[Array.getElem?_eq_none h'] at hkun
   simp[hlt] at hj
  ·rw[getD_set_ne true hjk] at hj
   have:=hun j hj W
   unfold upd
   rw[if_neg (fun e=>hjk e.symm)]
   exact this
theorem qaW (hle:∀ a b,R0.r a b→R.r a b) {H:Nat→Option qS} {i:Nat} {o:Oper} {a:Act} {F:qM} {K:Act→qM→Prop} {K':Act→World→Prop} {Q':Exit→Act→World→Prop} {W:World} {listed:Array Bool} (hli:listed.getD i true=false) (hi:ops[i]?=some o)
  (hone:∀ i h,H i=some h→i=c) (hH:∀ i h,H i=some h→∀ p,qD R0 (h.φ p)) (hst:∀ k,qD R0 (F k)) (hvd:Void c listed F) (hW:R.r w0 W) (hW0:listed.getD c true=false→R0.r w0 W) (hF:∀ k,F k W)
  (hK:∀ a' F' W',K a' F'→(∀ k,qD R0 (F' k))→Void c (listed.setIfInBounds i true) F'→R.r w0 W'→((listed.setIfInBounds i true).getD c true=false→R0.r w0 W')→(∀ k,F' k W')→K' a' W') (h:FOpC R0 R c P ops w0 H listed i o K a F):wpOp P ops Q' i K' a W:=by
 obtain⟨hh,hok,hn⟩:=h
 have go:∀ p W',(UM R0 R c i).r W W'→hh.φ p W'→K' (a.put o.dst (hh.f p)) W':=fun p W' he0 hφ=>by
  have he:=qhm hle he0
  have h0:(listed.setIfInBounds i true).getD c true=false→R0.r w0 W':=fun h=>R0.trans (hW0 (unset h)) (stpC_0 hli he0 h)
  have hF':∀ k,upd F i o (hh.φ p) k W':=fun k=>by
   unfold upd
   split
   ·exact⟨hφ,fun j _=>keepC hli hst hvd he0 j (hF j)⟩
   ·exact keepC hli hst hvd he0 k (hF k)
  exact hK _ _ W' (hn p ⟨W',R.trans hW he,h0,hF'⟩) (Zv hst i o (hok.stable hH p)) (hok.void hone hvd p) (R.trans hW he) h0 hF'
 have hWp:=qcG (c:=c) hli hW hW0
 unfold wpOp
 simp only[hi]
 rcases hok with ⟨x1,rfl⟩|⟨x1,x2,v,rfl,x3⟩|⟨x1,x2,x3⟩
 ·simp only[x1,Bool.false_eq_true,if_false]
  exact go () W (Rel.refl _ W) trivial
 ·simp only[x1,if_true]
  obtain⟨w',hr,he⟩:=x3 W hWp fun k _=>hF k
  refine .inl ?_
  unfold Oper.wp
  rw[hr]
  exact go () w' he trivial
 ·simp only[x1,if_true]
  have h3:=x3 W hWp fun k _=>hF k
  refine .inl ?_
  unfold QG at h3
  unfold Oper.wp
  generalize (execOp a.eval o).run P W=r at *
  cases r with
  |ok n w' =>
   cases n <;> simp only[ZD] at h3 <;> simp only[Oper.upon]
   case value u =>
    obtain⟨p,rfl,hp,he⟩:=h3
    exact go p w' he hp
   case skip =>
    obtain⟨p,hu,hp,he⟩:=h3
    rw[hu]
    exact go p w' he hp
   case enter f args =>
    obtain⟨he,hcl⟩:=h3
    refine hcl.mono fun e w'' ⟨p,he1,hp,he2⟩=>?_
    subst he1
    exact go p w'' (Rel.trans _ he he2) hp
  |halt x w'=>simp only[ZD] at h3
theorem Yh (hle:∀ a b,R0.r a b→R.r a b) {H:Nat→Option qS} (hone:∀ i h,H i=some h→i=c) (hH:∀ i h,H i=some h→∀ p,qD R0 (h.φ p)) {L:Array Bool} {t:Nat} {Q:Act→qM→Prop} {Q':Exit→Act→World→Prop}
  (hQ:∀ a F W,Q a F→R.r w0 W→(∀ k,F k W)→wpAny P .any ops Q' t L a W) :
  ∀ (fuel:Nat) (listed:Array Bool) (a:Act) (F:qM) (W:World),(∀ k,qD R0 (F k))→Void c listed F→R.r w0 W→(listed.getD c true=false→R0.r w0 W)→(∀ k,F k W)→Tp R0 R c P ops w0 H L Q fuel listed a F→wpAny P .any ops Q' (fuel+t) listed a W
 |0,listed,a,F,W,_,_,hW,_,hF,h=>by
  rw[h.1,Nat.zero_add]
  exact hQ a F W h.2 hW hF
 |fuel+1,listed,a,F,W,hst,hvd,hW,hW0,hF,h=>by
  rw[show fuel+1+t=fuel+t+1 by omega]
  refine⟨fun h0=>absurd h0 h.1,fun i hi=>?_⟩
  obtain⟨hli,o,ho,_⟩:=mem_ready.1 hi
  exact qaW hle hli ho hone hH hst hvd hW hW0 hF (fun a' F' W' hk hst' hvd' hW' hW0' hF'=>Yh hle hone hH hQ fuel _ a' F' W' hst' hvd' hW' hW0' hF' hk) (h.2 i hi o ho)
theorem qbb {l:List Oper} {Q:Exit→Act→World→Prop} {fuel:Nat} {listed:Array Bool} {a:Act} {w W:World} (R0 R:Rel) (c:Nat) (hle:∀ a b,R0.r a b→R.r a b) (H:Nat→Option qS) (M:List Bool) (t:Nat)
  (hs:Region.noSelect l.toArray=true) (ht:qeH l.toArray (QM l.length (l.length-t)) ((qp 0 l M).map (·.1))=true) (hc0:Yl l.toArray listed=true) (hB:Zs l.toArray (QM l.length (l.length-t)) ((qp 0 l M).map (·.1)) listed=true)
  (hseq:TQ l.toArray t (l.length-t) (QM l.length (l.length-t))=true) (hfu:fuel=(qp 0 l M).length+t) (htl:(l.drop (l.length-t)).length=t)
  (hH:∀ i h,H i=some h→∀ p,qD R0 (h.φ p)) (hone:∀ i h,H i=some h→i=c) (hW:R0.r w W)
  (h:∀ K:Act→qM→Prop,(∀ a' F',(∀ W,R.r w W→(∀ k,F' k W)→wpList P l.toArray Q (l.drop (l.length-t)) a' W)→K a' F')→jN R0 R c P l.toArray w H K (qp 0 l M) listed a (fun _ _=>True)):wpAny P .any l.toArray Q fuel listed a W:=by
 have h:=h _ (fun a' F' hh=>hh)
 subst hfu
 have key:=UE hle hone (w0:=w) hH hs (fun _ _ h=>h.step) (Xt ht) (qp 0 l M) listed a (fun _ _=>True) (vp hc0) (fun x hx=>by
  obtain⟨j,h1,h2⟩:=vt l M 0 x hx
  refine⟨?_,List.mem_map.2 ⟨x,hx,rfl⟩⟩
  rw[h1,Nat.zero_add]
  simpa using h2) hB (fun _ _ _ _ _=>trivial) ⟨W,hle _ _ hW,fun _=>hW,fun _=>trivial⟩ (fun _ _ _=>trivial) (fun _ _ _=>trivial) h
 refine Yh hle hone (w0:=w) hH (t:=t) (Q':=Q) (fun a F W hq hW hF=>?_) _ _ _ _ W (fun _ _ _ _ _=>trivial) (fun _ _ _=>trivial) (hle _ _ hW) (fun _=>hW) (fun _=>trivial) key
 have:=kA (l.drop (l.length-t)) (l.length-t) _ a W (fun j _=>by rw[List.getElem?_drop];simp) (by rw[htl];exact hseq) (hq W hW hF)
 rwa [htl] at this
/-! ### the steps of the walk -/
section
variable {H:Nat→Option qS} {Q:Act→qM→Prop} {k:Nat} {o:Oper} {rest:List (Nat×Oper)} {a:Act} {F:qM} {listed:Array Bool}
theorem qbj (h:Q a F):jN R0 R c P ops w0 H Q [] listed a F:=h
theorem qdH (v:Value) (hw:Region.wanted o (yielded ops a.tmps)=true) (hH:H k=none) (hv:∀ W,(preC R0 R c k).r w0 W→(∀ j∈qG o,F j W)→JS (UM R0 R c k) P o a W v)
  (h:jN R0 R c P ops w0 H Q rest (listed.setIfInBounds k true) (a.put o.dst v) (upd F k o fun _=>True)):jN R0 R c P ops w0 H Q ((k,o) :: rest) listed a F:=
 ⟨one v,.inr (.inl ⟨hw,hH,v,rfl,hv⟩),fun _ _=>h⟩
theorem jo (hle:∀ a b,R0.r a b→R.r a b) (v:Value) (hw:Region.wanted o (yielded ops a.tmps)=true) (hH:H k=none) (hv:∀ W,R.r w0 W→(∀ j∈qG o,F j W)→(execOp a.eval o).run P W=.ok (.value v) W)
  (h:jN R0 R c P ops w0 H Q rest (listed.setIfInBounds k true) (a.put o.dst v) (upd F k o fun _=>True)):jN R0 R c P ops w0 H Q ((k,o) :: rest) listed a F:=
 qdH v hw hH (fun W hW hF=>⟨W,hv W (by unfold preC at hW;split at hW;exact hle _ _ hW;exact hW) hF,Rel.refl _ W⟩) h
theorem Jt (hw:Region.wanted o (yielded ops a.tmps)=false) (h:jN R0 R c P ops w0 H Q rest (listed.setIfInBounds k true) (a.put o.dst undef) (upd F k o fun _=>True)):jN R0 R c P ops w0 H Q ((k,o) :: rest) listed a F:=
 ⟨one undef,.inl ⟨hw,rfl⟩,fun _ _=>h⟩
theorem Gr (hh:qS) (hw:Region.wanted o (yielded ops a.tmps)=true) (hH:H c=some hh) (hv:∀ W,R0.r w0 W→(∀ j∈qG o,F j W)→QG R P o a W hh)
  (h:∀ p,jN R0 R c P ops w0 H Q rest (listed.setIfInBounds c true) (a.put o.dst (hh.f p)) (upd F c o (hh.φ p))):jN R0 R c P ops w0 H Q ((c,o) :: rest) listed a F:=
 ⟨hh,.inr (.inr ⟨hw,hH,fun W hW hF=>by unfold preC at hW;unfold UM;rw[if_pos rfl] at hW ⊢;exact hv W hW hF⟩),fun p _=>h p⟩
end
end
end
structure Xx (S:Sto):Prop where
 bs:S.bs.length<1000000
 ws:S.ws.length<1000000
 be:∀ l∈S.bs,l.length<1000000
 we:∀ p∈S.ws,p.2.length<1000000
 now:S.now.length<1000000
 last:S.last.length<1000000
end Go.Proofs.YtpbniokljofedaaGreat
namespace Go.Proofs.YtpbniokljofedaaGreat
open Go.RowKit Go.Deep
def InG (w:World) (g F:Nat) (v:Value) (l:List UInt8):Prop:=∃ o,v=.slice (some ⟨g,o,none⟩) l.length l.length∧o+l.length≤F∧∀ j u,(l.map bv)[j]?=some u→w.cell? ⟨g,o+j,none⟩=some u
section
variable {w w':World} {g F:Nat} {v:Value} {l:List UInt8}
theorem InG.keep (h:InG w g F v l) (hk:w'.heap[g]?=w.heap[g]?):InG w' g F v l:=by
 obtain⟨o,e,h1,h2⟩:=h
 exact⟨o,e,h1,fun j u hu=>(World.cell?_of_block hk).trans (h2 j u hu)⟩
theorem InG.step {cur:Array Value} {t:TypeId} {l':List UInt8} {o:Nat} (h:InG w g F v l) (hr:w.heap[g]?=some (.cells cur t (0,0))) (hr':w'.heap[g]?=some (.cells (ZE cur o l') t (0,0))) (hfit:o+l'.length≤cur.size) (ho:o=F∨l'.length=0):InG w' g (F+l'.length) v l:=by
 obtain⟨o1,e,h1,h2⟩:=h
 refine⟨o1,e,by omega,fun j u hu=>?_⟩
 have hj:j<l.length:=by
  have:=(List.getElem?_eq_some_iff.1 hu).1
  simpa using this
 have:=h2 j u hu
 rw[qa hr] at this
 rw[qa hr',qfJ hfit (by rcases ho with ho|ho <;> omega)]
 exact this
theorem InG.new {cur:Array Value} {t:TypeId} {o:Nat} (hr:w'.heap[g]?=some (.cells (ZE cur o l) t (0,0))) (hfit:o+l.length≤cur.size) (ho:o≤F):InG w' g (F+l.length) (.slice (some ⟨g,o,none⟩) l.length l.length) l:=
 ⟨o,rfl,by omega,fun j u hu=>by rw[qa hr];exact qfI hfit hu⟩
theorem InG.bys {B:Nat} (h:InG w g F v l) (hg:g<B) (hl:l.length≤maxLen):Bys w B v l:=by
 obtain⟨o,e,h1,h2⟩:=h
 exact⟨_,_,e,zM _,hl,by simp,fun _=>⟨g,o,rfl,hg,h2⟩⟩
theorem InG.cells {W2:World} (h:InG w g F v l) (hk:∀ j,W2.cell? ⟨g,j,none⟩=w.cell? ⟨g,j,none⟩):InG W2 g F v l:=by
 obtain⟨o,e,h1,h2⟩:=h
 exact⟨o,e,h1,fun j u hu=>(hk _).trans (h2 j u hu)⟩
end
def Jn (ls:List (List UInt8)):Nat:=(ls.map List.length).sum
theorem Yx {ls:List (List UInt8)} {k:Nat} (h:k<ls.length):Jn (ls.take (k+1))=Jn (ls.take k)+ls[k].length:=by
 unfold Jn
 rw[List.take_succ_eq_append_getElem h,List.map_append,List.sum_append]
 simp
theorem qgq (ls:List (List UInt8)) (k:Nat):Jn (ls.take k)+Jn (ls.drop k)=Jn ls:=by
 unfold Jn
 rw[←List.sum_append,←List.map_append,List.take_append_drop]
theorem qhq {ls:List (List UInt8)} (h:∀ l∈ls,l.length<1000000):Jn ls≤ls.length*1000000:=by
 induction ls with
 |nil=>simp[Jn]
 |cons l r ih =>
  have h1:=ih fun x hx=>h x (List.mem_cons_of_mem _ hx)
  have h2:=h l List.mem_cons_self
  simp only[Jn,List.map_cons,List.sum_cons,List.length_cons] at h1 ⊢
  omega
theorem vA (ls:List (List UInt8)) (k:Nat):Jn (ls.take k)≤Jn ls:=by have:=qgq ls k;omega
def Xd (hb g:Nat):Rel where
 rel W W':=W'.os=W.os∧W'.tape=W.tape∧W'.output=W.output∧W.heap.size≤W'.heap.size∧∀ b,b<W.heap.size→b≠hb→b≠g→W'.heap[b]?=W.heap[b]?
 refl' w:=⟨rfl,rfl,rfl,zM _,fun _ _ _ _=>rfl⟩
 trans' h k:=⟨k.1.trans h.1,k.2.1.trans h.2.1,k.2.2.1.trans h.2.2.1,Nat.le_trans h.2.2.2.1 k.2.2.2.1,fun b hb h1 h2=>(k.2.2.2.2 b (Nat.lt_of_lt_of_le hb h.2.2.2.1) h1 h2).trans (h.2.2.2.2 b hb h1 h2)⟩
 drew' w:=⟨rfl,rfl,rfl,zM _,fun _ _ _ _=>rfl⟩
theorem qgG {hb g:Nat}:∀ a b,ql.r a b→(Xd hb g).r a b:=fun a b h=>by
 have h:Ext a b:=h
 exact⟨h.os,h.tape,h.output,h.size,fun k hk _ _=>h.block k hk⟩
theorem Vo {hb g b:Nat} {a W:World} {o:Obj} (h:(Xd hb g).r a W) (h1:b≠hb) (h2:b≠g) (hc:a.heap[b]?=some o):W.heap[b]?=some o:=
 (h.2.2.2.2 b (zG.1 hc).1 h1 h2).trans hc
theorem qJ {w:World} {a b:Nat} {c d:Array Value} {t u:TypeId} (h:w.heap[a]?=some (.cells c t (0,0))) (k:w.heap[b]?=some (.cells d u (0,0))) (hn:t≠u):a≠b:=fun e=>by
 subst e
 rw[h] at k
 cases k
 exact hn rfl
structure TwS (bs:List (List UInt8)) (ws:List (Int×List UInt8)) (T lo:Nat) (w5:World) (hb g BB WW ob kb kw F:Nat) (wr:World):Prop where
 below:Below lo w5 wr
 los:lo≤hb∧lo≤g∧lo≤BB∧lo≤WW∧lo≤ob
 out:wr.heap[ob]?=some (.cells #[.slice (some ⟨BB,0,none⟩) bs.length bs.length,.slice (some ⟨WW,0,none⟩) ws.length (ws.length+1)] 25 (0,0))
 heap:∃ o n cur,qaY hb g o n cur wr∧o≤F∧(0<n→o=F)∧F+n=T∧cur.size=T
 bb:∃ cs,wr.heap[BB]?=some (.cells cs 26 (0,0))∧cs.size=bs.length∧∀ i l,bs[i]?=some l→i<kb→∃ v,cs[i]?=some v∧InG wr g F v l
 ww:∃ cs,wr.heap[WW]?=some (.cells cs 130 (0,0))∧cs.size=(ws.length+1)*2∧∀ i p,ws[i]?=some p→i<kw→∃ v,cs[i*2]?=some (.int .i64 p.1)∧cs[i*2+1]?=some v∧InG wr g F v p.2
section
variable {bs:List (List UInt8)} {ws:List (Int×List UInt8)} {T lo:Nat} {w5:World} {hb g BB WW ob kb kw F:Nat} {wr W:World}
theorem TwS.ext (h:TwS bs ws T lo w5 hb g BB WW ob kb kw F wr) (hx:Ext wr W) (hl:lo≤wr.heap.size):TwS bs ws T lo w5 hb g BB WW ob kb kw F W:=by
 obtain⟨o,n,cur,⟨H1,H2,H3,H4,H5⟩,h2⟩:=h.heap
 obtain⟨cb,hb1,hb2,hb3⟩:=h.bb
 obtain⟨cw,hw1,hw2,hw3⟩:=h.ww
 have hg:W.heap[g]?=wr.heap[g]?:=hx.block g (zG.1 H2).1
 exact⟨h.below.trans (Below.mono hx hl),h.los,qb h.out hx,⟨o,n,cur,⟨qb H1 hx,qb H2 hx,H3,H4,H5⟩,h2⟩,
  ⟨cb,qb hb1 hx,hb2,fun i l hi hk=>(hb3 i l hi hk).imp fun v hv=>⟨hv.1,hv.2.keep hg⟩⟩,⟨cw,qb hw1 hx,hw2,fun i p hi hk=>(hw3 i p hi hk).imp fun v hv=>⟨hv.1,hv.2.1,hv.2.2.keep hg⟩⟩⟩
theorem TwS.clone (h:TwS bs ws T lo w5 hb g BB WW ob kb kw F wr) {o n o':Nat} {cur:Array Value} {l:List UInt8} (hH:qaY hb g o n cur wr) (hl:l.length≤n) (hr:(Xd hb g).r wr W)
  (h1:0<n-l.length→o'=o+l.length) (h2:n-l.length=0→o'=o) (hH':qaY hb g o' (n-l.length) (ZE cur o l) W) :
  TwS bs ws T lo w5 hb g BB WW ob kb kw (F+l.length) W∧InG W g (F+l.length) (.slice (some ⟨g,o,none⟩) l.length l.length) l:=by
 obtain⟨o2,n2,cur2,H2,k1,k2,k3,k4⟩:=h.heap
 have e1:=H2.box
 rw[hH.box] at e1
 simp only[Option.some.injEq,Obj.cells.injEq,Array.mk.injEq,List.cons.injEq,Value.slice.injEq,Addr.mk.injEq,and_true,true_and] at e1
 obtain⟨rfl,rfl,_⟩:=e1
 have e2:=H2.row
 rw[hH.row] at e2
 simp only[Option.some.injEq,Obj.cells.injEq,and_true] at e2
 subst e2
 have hfit:o+l.length≤cur.size:=by have:=hH.fit;omega
 have ho:o=F∨l.length=0:=by
  rcases Nat.eq_zero_or_pos n with h0|h0
  ·exact .inr (by omega)
  ·exact .inl (k2 h0)
 have hr0:=hH.row
 have hr1:=hH'.row
 obtain⟨cb,hb1,hb2,hb3⟩:=h.bb
 obtain⟨cw,hw1,hw2,hw3⟩:=h.ww
 have n1:BB≠hb:=qJ hb1 hH.box (by decide)
 have n2:BB≠g:=qJ hb1 hr0 (by decide)
 have n3:WW≠hb:=qJ hw1 hH.box (by decide)
 have n4:WW≠g:=qJ hw1 hr0 (by decide)
 have n5:ob≠hb:=qJ h.out hH.box (by decide)
 have n6:ob≠g:=qJ h.out hr0 (by decide)
 obtain⟨l1,l2,l3,l4,l5⟩:=h.los
 have hlt:=(zG.1 hr0).1
 refine⟨⟨⟨hr.1.trans h.below.os,hr.2.1.trans h.below.tape,hr.2.2.1.trans h.below.output,Nat.le_trans h.below.size hr.2.2.2.1,fun b hb=>(hr.2.2.2.2 b (by omega) (by omega) (by omega)).trans (h.below.block b hb)⟩,h.los,Vo hr n5 n6 h.out,⟨o',n-l.length,_,hH',?_,?_,by omega,?_⟩,
  ⟨cb,Vo hr n1 n2 hb1,hb2,fun i l' hi hk=>(hb3 i l' hi hk).imp fun v hv=>⟨hv.1,hv.2.step hr0 hr1 hfit ho⟩⟩,⟨cw,Vo hr n3 n4 hw1,hw2,fun i p hi hk=>(hw3 i p hi hk).imp fun v hv=>⟨hv.1,hv.2.1,hv.2.2.step hr0 hr1 hfit ho⟩⟩⟩,InG.new hr1 hfit k1⟩
 ·rcases Nat.eq_zero_or_pos (n-l.length) with h0|h0
  ·rw[h2 h0];omega
  ·rw[h1 h0];omega
 ·intro h0
  rw[h1 h0,k2 (by omega)]
 ·rw[Ul hfit];exact k4
theorem TwS.setB (h:TwS bs ws T lo w5 hb g BB WW ob kb kw F wr) {v:Value} {l:List UInt8} (hk:bs[kb]?=some l) (hv:InG wr g F v l):TwS bs ws T lo w5 hb g BB WW ob (kb+1) kw F (wr.setCell ⟨BB,kb,none⟩ v):=by
 obtain⟨o,n,cur,⟨H1,H2,H3,H4,H5⟩,h2⟩:=h.heap
 obtain⟨cb,hb1,hb2,hb3⟩:=h.bb
 obtain⟨cw,hw1,hw2,hw3⟩:=h.ww
 have n1:hb≠BB:=qJ H1 hb1 (by decide)
 have n2:g≠BB:=qJ H2 hb1 (by decide)
 have n3:WW≠BB:=qJ hw1 hb1 (by decide)
 have n5:ob≠BB:=qJ h.out hb1 (by decide)
 have hg:=zJ wr ⟨BB,kb,none⟩ v g n2
 have hlt:=(List.getElem?_eq_some_iff.1 hk).1
 refine⟨Below.setCell h.below (p:=⟨BB,kb,none⟩) h.los.2.2.1 _,h.los,(zJ _ _ _ _ n5).trans h.out,⟨o,n,cur,⟨(zJ _ _ _ _ n1).trans H1,(zJ _ _ _ _ n2).trans H2,H3,H4,H5⟩,h2⟩,
  ⟨_,qi hb1 kb v,by simpa using hb2,fun i l' hi hki=>?_⟩,⟨cw,(zJ _ _ _ _ n3).trans hw1,hw2,fun i p hi hk=>(hw3 i p hi hk).imp fun v hv=>⟨hv.1,hv.2.1,hv.2.2.keep hg⟩⟩⟩
 rw[Array.getElem?_setIfInBounds]
 by_cases e:kb=i
 ·subst e
  rw[hk] at hi
  cases hi
  rw[if_pos rfl,if_pos (by omega)]
  exact⟨v,rfl,hv.keep hg⟩
 ·rw[if_neg e]
  exact(hb3 i l' hi (by omega)).imp fun u hu=>⟨hu.1,hu.2.keep hg⟩
theorem TwS.setW (h:TwS bs ws T lo w5 hb g BB WW ob kb kw F wr) {v:Value} {p:Int×List UInt8} (hk:ws[kw]?=some p) (hv:InG wr g F v p.2):TwS bs ws T lo w5 hb g BB WW ob kb (kw+1) F ((wr.setCell ⟨WW,kw*2,none⟩ (.int .i64 p.1)).setCell ⟨WW,kw*2+1,none⟩ v):=by
 obtain⟨o,n,cur,⟨H1,H2,H3,H4,H5⟩,h2⟩:=h.heap
 obtain⟨cb,hb1,hb2,hb3⟩:=h.bb
 obtain⟨cw,hw1,hw2,hw3⟩:=h.ww
 have n1:hb≠WW:=qJ H1 hw1 (by decide)
 have n2:g≠WW:=qJ H2 hw1 (by decide)
 have n3:BB≠WW:=qJ hb1 hw1 (by decide)
 have n5:ob≠WW:=qJ h.out hw1 (by decide)
 have st:∀ b,b≠WW→((wr.setCell ⟨WW,kw*2,none⟩ (.int .i64 p.1)).setCell ⟨WW,kw*2+1,none⟩ v).heap[b]?=wr.heap[b]?:=fun b hb=>(zJ _ _ _ _ hb).trans (zJ _ _ _ _ hb)
 have hlt:=(List.getElem?_eq_some_iff.1 hk).1
 refine⟨Below.setCell (Below.setCell h.below (p:=⟨WW,kw*2,none⟩) h.los.2.2.2.1 _) (p:=⟨WW,kw*2+1,none⟩) h.los.2.2.2.1 _,h.los,(st _ n5).trans h.out,⟨o,n,cur,⟨(st _ n1).trans H1,(st _ n2).trans H2,H3,H4,H5⟩,h2⟩,
  ⟨cb,(st _ n3).trans hb1,hb2,fun i l' hi hki=>(hb3 i l' hi hki).imp fun u hu=>⟨hu.1,hu.2.keep (st _ n2)⟩⟩,⟨_,qi (qi hw1 (kw*2) _) (kw*2+1) _,by simpa using hw2,fun i q hi hki=>?_⟩⟩
 by_cases e:kw=i
 ·subst e
  rw[hk] at hi
  cases hi
  refine⟨v,?_,?_,hv.keep (st _ n2)⟩
  ·rw[Array.getElem?_setIfInBounds,if_neg (by omega),Array.getElem?_setIfInBounds,if_pos rfl,if_pos (by omega)]
  ·rw[Array.getElem?_setIfInBounds,if_pos rfl,if_pos (by simp;omega)]
 ·refine(hw3 i q hi (by omega)).imp fun u hu=>⟨?_,?_,hu.2.2.keep (st _ n2)⟩
  ·rw[Array.getElem?_setIfInBounds,if_neg (by omega),Array.getElem?_setIfInBounds,if_neg (by omega)]
   exact hu.1
  ·rw[Array.getElem?_setIfInBounds,if_neg (by omega),Array.getElem?_setIfInBounds,if_neg (by omega)]
   exact hu.2.1
end
structure jW (lo:Nat) (bs:List (List UInt8)) (ws:List (Int×List UInt8)) (BB WW g:Nat) (W:World):Prop where
 los:lo≤BB∧lo≤WW∧lo≤g∧g<W.heap.size∧BB≠WW∧BB≠g∧WW≠g
 bb:∃ cs,W.heap[BB]?=some (.cells cs 26 (0,0))∧cs.size=bs.length∧∀ (i:Nat) (l:List UInt8),bs[i]?=some l→∃ v F,cs[i]?=some v∧InG W g F v l
 ww:∃ cs,W.heap[WW]?=some (.cells cs 130 (0,0))∧cs.size=(ws.length+1)*2∧∀ (i:Nat) (p:Int×List UInt8),ws[i]?=some p→∃ v F,cs[i*2]?=some (.int .i64 p.1)∧cs[i*2+1]?=some v∧InG W g F v p.2
 gg:∃ cs,W.heap[g]?=some (.cells cs 5 (0,0))
theorem TwS.done {bs:List (List UInt8)} {ws:List (Int×List UInt8)} {T lo:Nat} {w5:World} {hb g BB WW ob F:Nat} {wr:World} (h:TwS bs ws T lo w5 hb g BB WW ob bs.length ws.length F wr):jW lo bs ws BB WW g wr:=by
 obtain⟨o,n,cur,⟨H1,H2,H3,H4,H5⟩,h2⟩:=h.heap
 obtain⟨cb,hb1,hb2,hb3⟩:=h.bb
 obtain⟨cw,hw1,hw2,hw3⟩:=h.ww
 refine⟨⟨h.los.2.2.1,h.los.2.2.2.1,h.los.2.1,(zG.1 H2).1,qJ hb1 hw1 (by decide),qJ hb1 H2 (by decide),qJ hw1 H2 (by decide)⟩,⟨cb,hb1,hb2,fun i l hi=>?_⟩,⟨cw,hw1,hw2,fun i p hi=>?_⟩,⟨_,H2⟩⟩
 ·obtain⟨v,h1,h2⟩:=hb3 i l hi (List.getElem?_eq_some_iff.1 hi).1
  exact⟨v,F,h1,h2⟩
 ·obtain⟨v,h1,h2⟩:=hw3 i p hi (List.getElem?_eq_some_iff.1 hi).1
  exact⟨v,F,h1,h2⟩
theorem jW.keep {lo lo':Nat} {bs:List (List UInt8)} {ws:List (Int×List UInt8)} {BB WW g:Nat} {W W2:World} (h:jW lo bs ws BB WW g W) (hl:lo'≤lo) (hs:W.heap.size≤W2.heap.size) (hk:∀ b,lo≤b→b<W.heap.size→W2.heap[b]?=W.heap[b]?):jW lo' bs ws BB WW g W2:=by
 obtain⟨cb,hb1,hb2,hb3⟩:=h.bb
 obtain⟨cw,hw1,hw2,hw3⟩:=h.ww
 obtain⟨l1,l2,l3,l4,l5⟩:=h.los
 have hg:=hk g l3 l4
 exact⟨⟨by omega,by omega,by omega,by omega,l5⟩,⟨cb,(hk BB l1 (zG.1 hb1).1).trans hb1,hb2,fun i l hi=>by
  obtain⟨v,F,h1,h2⟩:=hb3 i l hi
  exact⟨v,F,h1,h2.keep hg⟩⟩,⟨cw,(hk WW l2 (zG.1 hw1).1).trans hw1,hw2,fun i p hi=>by
  obtain⟨v,F,h1,h2,h3⟩:=hw3 i p hi
  exact⟨v,F,h1,h2,h3.keep hg⟩⟩,h.gg.imp fun cs h=>hg.trans h⟩
theorem jW.keepT {lo lo':Nat} {bs:List (List UInt8)} {ws:List (Int×List UInt8)} {BB WW g:Nat} {W W2:World} (h:jW lo bs ws BB WW g W) (hl:lo'≤lo) (hs:W.heap.size≤W2.heap.size) {b1:Nat} {c1:Array Value} {t1:TypeId} (h1:W.heap[b1]?=some (.cells c1 t1 (0,0))) (ht:t1≠26∧t1≠130∧t1≠5) (hk:∀ b,lo≤b→b<W.heap.size→b≠b1→W2.heap[b]?=W.heap[b]?):jW lo' bs ws BB WW g W2:=by
 obtain⟨cb,hb1,hb2,hb3⟩:=h.bb
 obtain⟨cw,hw1,hw2,hw3⟩:=h.ww
 obtain⟨cg,hg1⟩:=h.gg
 obtain⟨l1,l2,l3,l4,l5⟩:=h.los
 have hg:=hk g l3 l4 (qJ hg1 h1 fun e=>ht.2.2 e.symm)
 exact⟨⟨by omega,by omega,by omega,by omega,l5⟩,⟨cb,(hk BB l1 (zG.1 hb1).1 (qJ hb1 h1 fun e=>ht.1 e.symm)).trans hb1,hb2,fun i l hi=>by
  obtain⟨v,F,h1,h2⟩:=hb3 i l hi
  exact⟨v,F,h1,h2.keep hg⟩⟩,⟨cw,(hk WW l2 (zG.1 hw1).1 (qJ hw1 h1 fun e=>ht.2.1 e.symm)).trans hw1,hw2,fun i p hi=>by
  obtain⟨v,F,h1,h2,h3⟩:=hw3 i p hi
  exact⟨v,F,h1,h2,h3.keep hg⟩⟩,cg,hg.trans hg1⟩
theorem jW.readsB {lo:Nat} {bs:List (List UInt8)} {ws:List (Int×List UInt8)} {BB WW g:Nat} {W:World} (h:jW lo bs ws BB WW g W) (h1:bs.length<1000000) (h2:ws.length<1000000) (h3:∀ l∈bs,l.length<1000000) (h4:∀ p∈ws,p.2.length<1000000)
  (W2:World) (hB:∀ j,W2.cell? ⟨BB,j,none⟩=W.cell? ⟨BB,j,none⟩) (hWW:∀ j,W2.cell? ⟨WW,j,none⟩=W.cell? ⟨WW,j,none⟩) (hg:∀ j,W2.cell? ⟨g,j,none⟩=W.cell? ⟨g,j,none⟩):Bls W2 W.heap.size (.slice (some ⟨BB,0,none⟩) bs.length bs.length) bs∧Wrs W2 W.heap.size (.slice (some ⟨WW,0,none⟩) ws.length (ws.length+1)) ws:=by
 obtain⟨cb,hb1,hb2,hb3⟩:=h.bb
 obtain⟨cw,hw1,hw2,hw3⟩:=h.ww
 obtain⟨l1,l2,l3,l4,l5⟩:=h.los
 have z1:=(zG.1 hb1).1
 have z2:=(zG.1 hw1).1
 have hm:∀ n,n<1000001→n≤maxLen:=fun n hn=>by unfold maxLen;omega
 refine⟨⟨cb.toList,_,_,rfl,zM _,hm _ (by omega),⟨by simp[hb2],fun _=>⟨BB,0,rfl,z1,fun j u hu=>?_⟩⟩,fun i u l hu hl=>?_⟩,?_⟩
 ·rw[Nat.zero_add,hB j,qa hb1]
  simpa using hu
 ·obtain⟨v,F,e1,e2⟩:=hb3 i l hl
  have:cb.toList[i]?=cb[i]?:=by simp
  rw[this,e1] at hu
  cases hu
  exact(e2.cells hg).bys l4 (hm _ (by have:=h3 l (List.mem_of_getElem? hl);omega))
 ·have hq:∀ i,i<ws.length→∃ q:(Int×List UInt8)×Value,ws[i]?=some q.1∧(∃ A c,q.2=.slice A q.1.2.length c)∧Bys W2 W.heap.size q.2 q.1.2∧cw[i*2]?=some (.int .i64 q.1.1)∧cw[i*2+1]?=some q.2:=fun i hi=>by
   obtain⟨v,F,e1,e2,e3⟩:=hw3 i ws[i] (zL hi)
   have hb:=(e3.cells hg).bys l4 (hm _ (by have:=h4 ws[i] (List.getElem_mem hi);omega))
   obtain⟨o,ev,_⟩:=e3
   exact⟨(ws[i],v),zL hi,⟨_,_,ev⟩,hb,e1,e2⟩
  obtain⟨Q,hQ⟩:=choose_lt (α:=(Int×List UInt8)×Value) (p:=fun i q=>ws[i]?=some q.1∧(∃ A c,q.2=.slice A q.1.2.length c)∧Bys W2 W.heap.size q.2 q.1.2∧cw[i*2]?=some (.int .i64 q.1.1)∧cw[i*2+1]?=some q.2) hq
  refine⟨(List.range ws.length).map Q,?_,⟨some ⟨WW,0,none⟩,ws.length+1,rfl,by omega,hm _ (by omega),⟨by rw[kK];simp,fun _=>⟨WW,0,rfl,z2,fun j u hu=>?_⟩⟩⟩,fun q hq'=>?_⟩
  ·apply List.ext_getElem?
   intro i
   rw[List.map_map,List.getElem?_map]
   rcases Nat.lt_or_ge i ws.length with hi|hi
   ·rw[List.getElem?_range hi,(hQ i hi).1];rfl
   ·rw[List.getElem?_eq_none (by simpa using hi),List.getElem?_eq_none hi];rfl
  ·rw[Nat.zero_add,hWW j,qa hw1]
   have hj:j<ws.length*2:=by
    have:=(List.getElem?_eq_some_iff.1 hu).1
    rw[kK] at this
    simpa using this
   obtain⟨c0,c1⟩:=VP ((List.range ws.length).map Q) (j / 2) (by simp;omega)
   obtain⟨_,_,_,q0,q1⟩:=hQ (j / 2) (by omega)
   rcases(show j=j / 2*2∨j=j / 2*2+1 by omega) with e|e
   ·have hu':some u=some _:=(hu.symm.trans (congrArg (fun t=>(ZB ((List.range ws.length).map Q))[t]?) e)).trans c0
    cases hu'
    rw[show cw[j]?=cw[j / 2*2]? from congrArg (fun t=>cw[t]?) e,q0]
    simp
   ·have hu':some u=some _:=(hu.symm.trans (congrArg (fun t=>(ZB ((List.range ws.length).map Q))[t]?) e)).trans c1
    cases hu'
    rw[show cw[j]?=cw[j / 2*2+1]? from congrArg (fun t=>cw[t]?) e,q1]
    simp
  ·obtain⟨i,hi,rfl⟩:=List.mem_map.1 hq'
   obtain⟨_,q1,q2,_⟩:=hQ i (List.mem_range.1 hi)
   exact⟨q1,q2⟩
theorem jW.reads {lo:Nat} {bs:List (List UInt8)} {ws:List (Int×List UInt8)} {BB WW g:Nat} {W:World} (h:jW lo bs ws BB WW g W) (h1:bs.length<1000000) (h2:ws.length<1000000) (h3:∀ l∈bs,l.length<1000000) (h4:∀ p∈ws,p.2.length<1000000)
  (W2:World) (hk:∀ q:Addr,lo≤q.block→q.block<W.heap.size→W2.cell? q=W.cell? q):Bls W2 W.heap.size (.slice (some ⟨BB,0,none⟩) bs.length bs.length) bs∧Wrs W2 W.heap.size (.slice (some ⟨WW,0,none⟩) ws.length (ws.length+1)) ws:=by
 obtain⟨cb,hb1,-⟩:=h.bb
 obtain⟨cw,hw1,-⟩:=h.ww
 obtain⟨l1,l2,l3,l4,-⟩:=h.los
 exact h.readsB h1 h2 h3 h4 W2 (fun j=>hk ⟨BB,j,none⟩ l1 (zG.1 hb1).1) (fun j=>hk ⟨WW,j,none⟩ l2 (zG.1 hw1).1) fun j=>hk ⟨g,j,none⟩ l3 l4
theorem jW.readsT {lo:Nat} {bs:List (List UInt8)} {ws:List (Int×List UInt8)} {BB WW g:Nat} {W:World} (h:jW lo bs ws BB WW g W) (h1:bs.length<1000000) (h2:ws.length<1000000) (h3:∀ l∈bs,l.length<1000000) (h4:∀ p∈ws,p.2.length<1000000)
  (W2:World) (hk:∀ q:Addr,lo≤q.block→q.block<W.heap.size→W2.cell? q=(thaw W).cell? q):Bls W2 W.heap.size (.slice (some ⟨BB,0,none⟩) bs.length bs.length) bs∧Wrs W2 W.heap.size (.slice (some ⟨WW,0,none⟩) ws.length (ws.length+1)) ws:=by
 obtain⟨cb,hb1,-⟩:=h.bb
 obtain⟨cw,hw1,-⟩:=h.ww
 obtain⟨cg,hg1⟩:=h.gg
 obtain⟨l1,l2,l3,l4,-⟩:=h.los
 exact h.readsB h1 h2 h3 h4 W2 (fun j=>(hk ⟨BB,j,none⟩ l1 (zG.1 hb1).1).trans (kj hb1 j)) (fun j=>(hk ⟨WW,j,none⟩ l2 (zG.1 hw1).1).trans (kj hw1 j)) fun j=>(hk ⟨g,j,none⟩ l3 l4).trans (kj hg1 j)
end Go.Proofs.YtpbniokljofedaaGreat
