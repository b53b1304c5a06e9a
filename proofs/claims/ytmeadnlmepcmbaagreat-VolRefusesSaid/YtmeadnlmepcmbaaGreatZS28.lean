/- scionrylaw17.VolRefuses is true of every pool, number, item and key, and leaves its arguments as they were; no condition. -/
import Derived.Test.YtmeadnlmepcmbaaGreatZS27
set_option linter.all false
set_option maxHeartbeats 8000000
open Go.Proofs.Tryz
open Go.Value renaming slice→c,int→e
open Go.IntKind renaming u32→s
open Bool renaming true→u
namespace Go.Proofs.YtmeadnlmepcmbaaGreat.volRefuses
set_option linter.unusedSimpArgs false
set_option linter.unusedVariables false
open Go.ChangeShapes Go.WideShapes Go.ChangeAt Go.RowKit
variable {n:Int}{l:List UInt8}
theorem own:ownKnob Tryz.prog.godebug=none:=zQ
theorem u32_of(h:(Lit.int s n).wf=u):0<=n/\n<4294967296:=by
 have h2:IntKind.u32.min<=n/\n<=IntKind.u32.max:=by simpa [Lit.wf]using h
 simp[IntKind.min,IntKind.max,IntKind.bits,IntKind.signed]at h2;omega
theorem u8_of(h:(Lit.int .u8 n).wf=u):0<=n/\n<256:=by
 have h2:IntKind.u8.min<=n/\n<=IntKind.u8.max:=by simpa [Lit.wf]using h
 simp[IntKind.min,IntKind.max,IntKind.bits,IntKind.signed]at h2;omega
theorem item_ok{k i o r:Int}(h1:(Lit.int .u8 k).wf=u)(h2:(Lit.int s i).wf=u)(h3:(Lit.int s o).wf=u)(h:itB (⟨k,i,o,r,l⟩:It).r (⟨k,i,o,r,l⟩:It).val.length=u):QW ⟨k,i,o,r,l⟩:=by unfold itB at h;rw[decide_eq_true_eq]at h;have h4:=h.1;simp only at h4;exact⟨u8_of h1,u32_of h2,u32_of h3,⟨by show 0<=r;omega,by show r<256;omega⟩,h.2⟩
theorem laidOut:laidOutB prog=u:=zQ
set_option maxRecDepth 100000 in
theorem lifted(os:Os)(started:os.Started)(H:Type)(enc:TypeId×Value->H):ReturnsInHanded {} checked os 8 .any (Rows.volRefusesSpec.pre6 enc prog Tryz.f8 Rows.volRefusesRow.domain false) (Rows.volRefusesSpec.post enc prog Tryz.f8 false u false false):=by
 refine returnsInHanded_of_change (C:=checked) own started zQ func8
  (ChangeSpec.witness6 (enc:=enc) (C:=checked) false ⟨#[],#[.agg (qQ (c none 0 0) (c none 0 0) (c none 0 0) (c none 0 0) 0 0 0 (c none 0 0)),e s 0,.agg #[e .u8 0,e s 0,e s 0,e .i64 0,c none 0 0],.agg #[e .u8 0,e s 0,e s 0]],[]⟩ 8 zQ zQ zQ zQ) ?_
 intro W base args ds gs before wMU hW hcnd _;have hUX:∀(j:Nat)t v,Tryz.f8.params[j]?=some t->args[j]?=some v->Value.okWide prog W .any base t v:=wMU;have hW':=hW;have hlt:∀x∈before,x.block<W.heap.size:=λx hx=>hW.lt x hx;obtain⟨p,q,hA0,hV,rfl,hfz,hnd⟩:=hW;have hA:DataW.TrodAll enc prog W 0 (λ_=>u) u Tryz.f8.params.toList args.toList ds p:=hA0;rw[params8]at hA hUX;obtain⟨v0,vs0,d0,ds0,p0,q0,hargs,rfl,rfl,h0,r0⟩:=trodAll_cons hA;obtain⟨v1,vs1,d1,ds1,p1,q1,rfl,rfl,rfl,h1,r1⟩:=trodAll_cons r0;obtain⟨v2,vs2,d2,ds2,p2,q2,rfl,rfl,rfl,h2,r2⟩:=trodAll_cons r1;obtain⟨v3,vs3,d3,ds3,p3,q3,rfl,rfl,rfl,h3,r3⟩:=trodAll_cons r2;obtain⟨rfl,rfl,rfl⟩:=trodAll_nil r3;obtain rfl:args=#[v0,v1,v2,v3]:=by cases args;simp_all
 obtain⟨rfl,rfl⟩:=trodVars_none hV;obtain⟨cs0,rfl,_⟩:=okWide_struct underlying32 (hUX 0 32 v0 rfl rfl);obtain⟨id,rfl⟩:=okWide_int underlying29 (hUX 1 29 v1 rfl rfl);obtain⟨cs2,rfl,_⟩:=okWide_struct underlying51 (hUX 2 51 v2 rfl rfl);obtain⟨cs3,rfl,_⟩:=okWide_struct underlying49 (hUX 3 49 v3 rfl rfl);obtain⟨n0,h0⟩:=h0;obtain⟨n1,h1⟩:=h1;obtain⟨n2,h2⟩:=h2;obtain⟨n3,h3⟩:=h3;obtain⟨A1,c1,A2,c2,A3,c3,A4,c4,gen,root,next,A5,c5,S,dead,e0,hS,hd,_,_,wn,_⟩:=rd_pool h0 (λx hx=>hlt x (by simp[hx]));have e0':cs0=qQ (c A1 S.bs.length c1) (c A2 S.ws.length c2) (c A3 S.now.length c3) (c A4 S.last.length c4) gen root next (c A5 dead.length c5):=by obtain⟨cs0⟩:=cs0;have:cs0=_:=e0;rw[this]
 subst e0';obtain⟨ik,ii,io,ir,Ax,nx,cx,e2,hnc,⟨l,hb,hl⟩,w1,w2,w3,w4⟩:=rd_item h2 (λx hx=>hlt x (by simp[hx]));have e2':cs2=#[e .u8 ik,e s ii,e s io,e .i64 ir,c Ax nx cx]:=by obtain⟨cs2⟩:=cs2;have:cs2=_:=e2;rw[this]
 subst e2' hl;obtain⟨ka,kb,kc,e3,-⟩:=rd_key h3;have e3':cs3=#[e .u8 ka,e s kb,e s kc]:=by obtain⟨cs3⟩:=cs3;have:cs3=_:=e3;rw[this]
 subst e3';have walk:Calls prog 8 #[.agg (qQ (c A1 S.bs.length c1) (c A2 S.ws.length c2) (c A3 S.now.length c3) (c A4 S.last.length c4) gen root next (c A5 dead.length c5)),e s id,itV ⟨ik,ii,io,ir,l⟩ Ax cx,Xk ka kb kc] W (Ret (.bool u) W):=vref_any A1 _ c1 A2 _ c2 A3 _ c3 A4 _ c4 gen root next A5 c5 S dead id ⟨ik,ii,io,ir,l⟩ (λhi=>item_ok w1 w2 w3 hi) Ax cx ka kb kc W hS hd hb
 refine walk.mono λe W' ⟨he,hB⟩=>?_;subst he;exact⟨_,rfl,law_post rfl laidOut rfl underlying4 (by
  intro t ht;have:t=32\/t=29\/t=51\/t=49:=by rw[params8]at ht;simpa using ht
  rcases this with rfl|rfl|rfl|rfl
  ·exact⟨zQ,of_decide_eq_true zQ⟩
  ·exact⟨zQ,of_decide_eq_true zQ⟩
  ·exact⟨zQ,of_decide_eq_true zQ⟩
  ·exact⟨zQ,of_decide_eq_true zQ⟩) hW' rfl hB⟩
theorem over:Rows.volRefusesRow.holds Tryz.pinned (OpenSpec.ofChange Rows.volRefusesSpec):=
 OpenClaim.holds_of_wide 8 Tryz.f8 rfl rfl rfl rfl rfl rfl rfl ⟨rfl,rfl,rfl,rfl,rfl⟩ rfl rfl rfl rfl rfl zQ func8 zQ
  (of_decide_eq_true zQ) (by unfold Func.isWrapper;first|(rw[if_pos (by decide +kernel)];kernel_rfl)|(rw[if_neg (by decide +kernel)];exact⟨rfl,rfl⟩))
  (λos started H enc _=>lifted os started H enc)
theorem proved:Rows.VolRefusesSaid:=over
end Go.Proofs.YtmeadnlmepcmbaaGreat.volRefuses
