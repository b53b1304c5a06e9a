/- scionrylaw19.ReapSteps is true of every pool, and leaves its argument as it was; no condition. -/
import Derived.Test.YtpbniokljofedaaGreatZI34
set_option linter.unusedSimpArgs false
set_option linter.unusedVariables false
set_option maxHeartbeats 8000000
open Go.Proofs.Tryz
namespace Go.Proofs.YtpbniokljofedaaGreat.reapSteps
set_option linter.unusedSimpArgs false
set_option linter.unusedVariables false
open Go.ChangeShapes Go.WideShapes Go.ChangeAt Go.RowKit
theorem own:ownKnob Tryz.prog.godebug=none:=zQ
theorem laidOut:laidOutB prog=true:=zQ
set_option maxRecDepth 100000 in
theorem lifted (os:Os) (started:os.Started) (H:Type) (enc:TypeId×Value->H):ReturnsInHanded {} checked os 11 .any (Rows.reapStepsSpec.pre6 enc prog Tryz.f11 Rows.reapStepsRow.domain false) (Rows.reapStepsSpec.post enc prog Tryz.f11 false true false false):=by
 refine returnsInHanded_of_change (C:=checked) own started zQ func11
  (ChangeSpec.witness6 (enc:=enc) (C:=checked) false ⟨#[],#[.agg (qB (.slice none 0 0) (.slice none 0 0) (.slice none 0 0) (.slice none 0 0) 0 0 0 (.slice none 0 0))],[]⟩ 8 zQ zQ zQ zQ) ?_
 intro W base args ds gs before hSL hW hcnd _;have hFP:∀ (j:Nat) t v,Tryz.f11.params[j]?=some t->args[j]?=some v->Value.okWide prog W .any base t v:=hSL;have ay:=hW;have hlt:∀ x∈before,x.block<W.heap.size:=fun x hx=>hW.lt x hx;obtain⟨p,q,hA0,hV,rfl,hfz,hnd⟩:=hW;have hA:DataW.TrodAll enc prog W 0 (fun _=>true) true Tryz.f11.params.toList args.toList ds p:=hA0;rw[params11] at hA hFP;obtain⟨v0,xP,d0,ds0,p0,q0,hargs,rfl,rfl,h0,r0⟩:=trodAll_cons hA;obtain⟨rfl,rfl,rfl⟩:=trodAll_nil r0;obtain rfl:args=#[v0]:=by cases args;simp_all
 obtain⟨rfl,rfl⟩:=trodVars_none hV;obtain⟨cs0,rfl,_⟩:=okWide_struct underlying32 (hFP 0 32 v0 rfl rfl);obtain⟨n0,h0⟩:=h0;obtain⟨A1,c1,A2,c2,A3,c3,A4,c4,gen,root,next,A5,c5,S,dead,e0,hS,hd,_,_,_,_⟩:=rd_pool h0 (fun x hx=>hlt x (by simp[hx]));have e0':cs0=qB (.slice A1 S.bs.length c1) (.slice A2 S.ws.length c2) (.slice A3 S.now.length c3) (.slice A4 S.last.length c4) gen root next (.slice A5 dead.length c5):=by obtain⟨cs0⟩:=cs0;have:cs0=_:=e0;rw[this]
 subst e0';have walk:Calls prog 11 #[.agg (qB (.slice A1 S.bs.length c1) (.slice A2 S.ws.length c2) (.slice A3 S.now.length c3) (.slice A4 S.last.length c4) gen root next (.slice A5 dead.length c5))] W (Ret (.bool true) W):=qfI S A1 c1 A2 c2 A3 c3 A4 c4 gen root next A5 c5 dead W hS hd
 refine walk.mono fun e W' ⟨he,hB⟩=>?_;subst he;exact⟨_,rfl,law_post rfl laidOut rfl underlying4 (by
  intro t ht;have:t=32:=by rw[params11] at ht;simpa using ht
  subst this;exact⟨zQ,of_decide_eq_true zQ⟩) ay rfl hB⟩
theorem over:Rows.reapStepsRow.holds Tryz.pinned (OpenSpec.ofChange Rows.reapStepsSpec):=
 OpenClaim.holds_of_wide 11 Tryz.f11 rfl rfl rfl rfl rfl rfl rfl ⟨rfl,rfl,rfl,rfl,rfl⟩ rfl rfl rfl rfl rfl zQ func11 zQ
  (of_decide_eq_true zQ) (by unfold Func.isWrapper;first|(rw[if_pos (by decide +kernel)];kernel_rfl)|(rw[if_neg (by decide +kernel)];exact⟨rfl,rfl⟩))
  (fun os started H enc _=>lifted os started H enc)
theorem proved:Rows.ReapStepsSaid:=over
end Go.Proofs.YtpbniokljofedaaGreat.reapSteps
