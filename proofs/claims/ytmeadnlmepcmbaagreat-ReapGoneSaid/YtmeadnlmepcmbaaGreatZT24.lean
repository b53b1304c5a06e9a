/- Lemmas of the proof. -/
import Derived.Test.YtmeadnlmepcmbaaGreatZT23
set_option linter.all false
set_option maxHeartbeats 8000000
open Go.Proofs.Tryz
open Bool renaming true→D
open Go.Value renaming slice→F,pointer→Q
open Go renaming World→I
open Option renaming some→O,none→Y
open Go.Ending renaming returned→U
open Go.Obj renaming cells→Z
open Go.World renaming alloc→Oa
namespace Go.Proofs.YtmeadnlmepcmbaaGreat
open Go.RowKit
variable {S S' S2 S1 S3:Sto}{a h f B lo N:Nat}{R R' s s' met R0:List Nat}{M:Nat->Bool}{p l xs hs ys:List It}{ks rs:Nat->List Nat}{refs nodes:Nat->Nat}{dead:List Int}{vs vs':List Vol}{k K:K3}{W W' w:World}{o:Obj}{x:It}{lvl:Int}
theorem Gt(S:Sto)(a b:Nat)(h:b∈Zr S a):b∈QV S a:=by unfold Zr at h;split at h;cases h;split at h;exact h;cases h
theorem Xu{rs rs':Nat->List Nat}{M:Nat->Bool}(h:∀a,M a=D->rs' a=rs a)(b:Nat):∀n,JE rs' M b n=JE rs M b n
 |0=>rfl
 |n+1=>by unfold JE;rw[Xu h b n];by_cases hn:M n=D;rw[if_pos hn,if_pos hn,h n hn];rw[if_neg hn,if_neg hn]
structure Zj(S:Sto)(R:List Nat)(M:Nat->Bool):Prop where
 cov:Cov (Zr S) (QV S) S.now R M
 nd:∀a,M a=D->(qo S a).isSome=D
theorem TS(h:qo S' a=qo S a):QV S' a=QV S a/\Zr S' a=Zr S a:=by
 have e:QV S' a=QV S a:=by unfold QV;rw[h]
 refine⟨e,?_⟩;unfold Zr;rw[h,e]
theorem Zj.perm(h:Zj S R M)(hc:∀b,0<b->R'.count b<=R.count b):Zj S R' M:=⟨h.cov.perm hc,h.nd⟩
theorem Zj.fell{t:List UInt8}(h:Cov (Zr S) (QV S) t R M)(hn:∀a,M a=D->(qo S a).isSome=D)(hle:∀a,qL t a<=qL S.now a):Zj (qp S t) R M:=by have he:∀a,M a=D->qo (qp S t) a=qo S a:=λa ha=>Xo (h.live a ha) (hle a);refine⟨⟨λa ha b hb=>h.kid a ha b (by rw[<-(TS (he a ha)).2];exact hb),Gt _,λb hb=>?_,h.live,h.low⟩,λa ha=>by rw[he a ha];exact hn a ha⟩;rw[Xu (λa ha=>(TS (he a ha)).1)];exact h.cnt b hb
theorem Zj.leave{t:List UInt8}(h:Zj S (a::R) M)(hM:M a=D)(e:QK S (-1) S.now a=t):∃M',Zj (qp S t) R M'/\YU R M M':=by obtain⟨M',h1,h2⟩:=Cov.leaveF 7 (-1) h.cov hM e;exact⟨M',Zj.fell h1 (λa ha=>h.nd a (h2.le a ha)) (TP S 7 (-1) S.now a t e),h2⟩
theorem Zj.make(hc:Zj S R M)(hS:qj S=D)(gu:∀x∈p,Zb x)(aK:(qz S h p).isSome=D)(hk:0<h->∀r∈qA p,M r=D)(e:Zg S (h:Int) p=.ok (f,S')):Zj S' (f::R) (vM M f)/\SM S S':=by
 obtain⟨hsm,hmay,-,hn,h8,hf⟩:=YE hS gu aK e;obtain⟨t,hm,ht,hw,-,-,uw,rfl,htm⟩:=GD hS e;have hl:=Xx htm;have gG:=UZ ht;have h0:qL t f=0:=by unfold jx at uw;simp only[Bool.and_eq_true,decide_eq_true_eq]at uw;exact uw.2.1
 have di:∀b,qL (vz (qp S t) f (Zo (QA (h:Int) p))).now b=if b=f then 1 else qL t b:=λb=>by show qL (t.set f 1) b=_;rw[KI t zO];rfl
 have hMf:M f=false:=by
  rcases hx:M f with _|_
  rfl;have h1:=hc.cov.live f hx;have h2:=gG f zO;omega
 have aH:∀a,M a=D->a≠f:=λa ha e=>by rw[e,hMf]at ha;cases ha
 have hAJ:∀a,M a=D->qo (vz (qp S t) f (Zo (QA (h:Int) p))) a=qo S a:=λa ha=>by obtain⟨nd,hnd⟩:=Option.isSome_iff_exists.1 (hc.nd a ha);rw[hnd];exact hsm.node a nd hnd
 have hAD:∀a,vM M f a=D->a=f\/M a=D:=λa ha=>by unfold vM at ha;split at ha;rename_i e;exact .inl e;exact .inr ha
 have hin:∀a,M a=D->vM M f a=D:=λa ha=>by unfold vM;rw[if_neg (aH a ha)];exact ha
 refine⟨⟨⟨λa ha b hb=>?_,Gt _,λb hb=>?_,λa ha=>?_,λa ha=>?_⟩,λa ha=>?_⟩,hsm⟩;rcases hAD a ha with rfl|ha
 obtain⟨h1,y,hy,e,hb0⟩:=qcD hn hb;exact hin b (hk h1 b (by rw[e];exact List.mem_map.2 ⟨y,hy,rfl⟩));exact hin b (hc.cov.kid a ha b (by rw[<-(TS (hAJ a ha)).2];exact hb));rw[TY hMf,if_pos hf,Xu (λa ha=>(TS (hAJ a ha)).1),<-Xt hn hb,di b];have h1:=hc.cov.cnt b hb;have h2:=gG b zO;by_cases e:b=f;subst e;rw[List.count_cons_self,if_pos rfl];omega;rw[List.count_cons_of_ne (λx=>e x.symm),if_neg e];omega;rw[di a];rcases hAD a ha with rfl|ha
 rw[if_pos rfl];omega;rw[if_neg (aH a ha)];have h1:=hc.cov.live a ha;have h2:=gG a (by have:=(hc.cov.low a ha).1;omega);omega;rcases hAD a ha with rfl|ha
 omega;exact hc.cov.low a ha;rcases hAD a ha with rfl|ha
 rw[hn];rfl;rw[hAJ a ha];exact hc.nd a ha
section
variable {ks rs:Nat->List Nat} {R:List Nat} {M:Nat->Bool}
theorem Cov.loose'{t:List UInt8}{b:Nat}(h:Cov ks rs t (b::R) M)(hb:0<b)(hp:0<JE rs M b 256):Cov ks rs (jf t b) R M:=by
 have h1:=h.cnt b hb;rw[List.count_cons_self]at h1;have aH:qL t b≠0:=zO;refine⟨h.kid,h.sub,λc hc=>?_,λc hcM=>?_,h.low⟩;rw[Ko aH c];split;rename_i e;subst e;omega;rename_i e;have:=h.cnt c hc
 rwa [List.count_cons_of_ne (λx=>e x.symm)]at this
 rw[Ko aH c];split;rename_i e;subst e;omega;exact h.live c hcM
theorem Cov.looseL':∀{l:List Nat}{t t':List UInt8},Cov ks rs t (l++R) M->(∀b∈l,b≠0->0<JE rs M b 256)->Go.Proofs.YtmeadnlmepcmbaaGreat.looseL l t=.ok t'->Cov ks rs t' R M
 |[],t,t',h,_,e=>by cases e;exact h
 |a::l,t,t',h,hp,e=>by by_cases ha:a=0;subst ha;rw[jk]at e;exact Cov.looseL' (h.perm λb hb=>by rw[List.cons_append,List.count_cons_of_ne zO];exact zM _) (λb hb=>hp b (List.mem_cons_of_mem _ hb)) e;by_cases h0:qL t a=0;rw[jR ha h0]at e;cases e;rw[jj ha h0]at e;exact Cov.looseL' (Cov.loose' (R:=l++R) h zO (hp a List.mem_cons_self ha)) (λb hb=>hp b (List.mem_cons_of_mem _ hb)) e
end
theorem Vo(hn:qo S f=O ((h:Int),p)){r:Nat}(hr:r∈qA p)(h0:r≠0):r∈QV S f:=by have:=Xt hn (show 0<r by omega);have hp:=List.count_pos_iff.2 hr;exact List.count_pos_iff.1 zO
theorem Zj.makeL:∀{ps:List (List It)}{S S':Sto}{up:List It}{R:List Nat}{M:Nat->Bool},(∀p∈ps,(∀x∈p,Zb x)/\(qz S h p).isSome=D)->(0<h->∀p∈ps,∀r∈qA p,M r=D)->qj S=D->Zj S R M->Go.Proofs.YtmeadnlmepcmbaaGreat.makeL (h:Int) ps S=.ok (up,S') -> ∃M',Zj S' (qA up++R) M'/\(∀a,M a=D->M' a=D)/\(∀r∈qA up,M' r=D)/\SM S S'/\qj S'=D/\∀p∈ps,∀r∈qA p,r≠0->∃f,M' f=D/\r∈QV S' f
 |[],S,S',up,R,M,_,_,hS,hc,e=>by cases e;exact⟨M,hc,λ_ h=>h,λr hr=>by simp[qA]at hr,⟨λ_ _ e=>e,λ_ e=>e⟩,hS,λp hp=>by cases hp⟩
 |p::ps,S,S',up,R,M,hp,hk,hS,hc,e=>by
  simp only[Go.Proofs.YtmeadnlmepcmbaaGreat.makeL]at e;split at e;cases e;rename_i f S1 e1;obtain⟨gu,aK⟩:=hp p List.mem_cons_self;obtain⟨m1,hS1,-,eY,h8,hf⟩:=YE hS gu aK e1;obtain⟨dP,-⟩:=hc.make hS gu aK (λh0=>hk h0 p List.mem_cons_self) e1;split at e;cases e;rename_i up1 S2 e2;cases e;have hin:∀a,M a=D->vM M f a=D:=λa ha=>by unfold vM;split<;>simp_all
  obtain⟨M2,h2,k2,r2,m2,uO,q2⟩:=Zj.makeL (λq hq=>⟨(hp q (List.mem_cons_of_mem _ hq)).1,m1.spanOk (hp q (List.mem_cons_of_mem _ hq)).2⟩) (λh0 q hq r hr=>hin r (hk h0 q (List.mem_cons_of_mem _ hq) r hr)) hS1 dP e2;have hfM:M2 f=D:=k2 f (by simp[vM]);have uU:(jz (jy p) f).r.toNat=f:=by show((f:Int)).toNat=f;omega
  refine⟨M2,h2.perm λb _=>?_,λa ha=>k2 a (hin a ha),λr hr=>?_,m1.trans m2,uO,λq hq r hr h0=>?_⟩;simp only[qA,List.map_cons,uU,List.cons_append,List.count_append,List.count_cons];omega;simp only[qA,List.map_cons,uU,List.mem_cons]at hr;rcases hr with rfl|hr
  exact hfM;exact r2 r hr;rcases List.mem_cons.1 hq with rfl|hq
  exact⟨f,hfM,Vo (m2.node _ _ eY) hr h0⟩;exact q2 q hq r hr h0
theorem qfc(hp:p∈ZQ l):∃a b,l=a++p++b:=by
 unfold ZQ at hp;split at hp;simp only[List.mem_cons,List.not_mem_nil,or_false]at hp;rcases hp with rfl|rfl
 exact⟨[],l.drop 3,zA3⟩;exact⟨l.take 3,[],zA3⟩;simp only[List.mem_cons,List.not_mem_nil,or_false]at hp;subst hp;exact⟨[],[],zA3⟩
theorem Zj.build{held up:List It}(hc:Zj S (qA held++R) M)(hS:qj S=D)(hl:∀x∈l,Zb x)(aK:(qz S h l).isSome=D)(yV:∀r∈qA held,r∈qA l)(hk:0<h->∀r∈qA l,M r=D)(e:Qy S (h:Int) l held=.ok (up,S')):∃M',Zj S' (qA up++R) M'/\(∀a,M a=D->M' a=D)/\(∀r∈qA up,M' r=D):=by
 unfold Qy at e;split at e;cases e;rename_i up1 S1 e1;split at e;cases e;rename_i t e2;cases e;obtain⟨M1,h1,k1,r1,m1,hS1,q1⟩:=Zj.makeL (λp hp=>by
  obtain⟨a,b,rfl⟩:=qfc hp;exact⟨λx hx=>hl x (by simp[hx]),YM aK⟩) (λh0 p hp r hr=>by
  obtain⟨a,b,rfl⟩:=qfc hp;exact hk h0 r (by unfold qA at*;simp only[List.map_append,List.mem_append];exact .inl (.inr hr))) hS hc e1
 have h1':Zj S1 (qA held++(qA up++R)) M1:=h1.perm λb _=>by simp only[List.count_append];omega
 have h2:=h1'.cov.looseL' (λb hb h0=>by have cZ:=yV b hb;rw[<-qde l]at cZ;obtain⟨x,hx,ex⟩:=List.mem_map.1 cZ;obtain⟨p,hp,hxp⟩:=List.mem_flatten.1 hx;obtain⟨f,hf1,yD⟩:=q1 p hp b (List.mem_map.2 ⟨x,hxp,ex⟩) h0;exact GW hf1 yD (h1.cov.low f hf1).2) e2;exact⟨M1,Zj.fell h2 h1.nd (Kd e2).2,k1,r1⟩


def putN(S:Sto)(a:Nat)(x:It):Except Int (Nat×Sto):=match qo S a with
 |none=>.error 8
 |some (lvl,xs)=>qaJ S lvl.toNat xs a x
def heldS(S:Sto)(a:Int):Sto:=qp S (zj S.now a.toNat 1)
def rootV(v:Vol)(r:Nat):Vol:=⟨v.id,(r:Int),v.fz,v.frm⟩
section
variable {W C:World} {b:Nat} {u0 u1 u2 u3 u4 u5 u6 u7 x0 x1 x2 x3 x4 x5 x6 x7 y0 y1 y2 y3 z ev q0:Value} {tyP tyV ty2 ty3:TypeId} {cs ds:Array Value}
end

theorem VF.stack(h:VF ks rs R M refs s)(hs:∀x,x∈s↔x∈s'):VF ks rs R M refs s':=
 ⟨h.reach,λa ha=>h.stk a ((hs a).2 ha),λa ha=>(h.root a ha).imp id (hs a).1,λa ha b hb=>(h.kids a ha b hb).imp id (hs b).1,h.sum⟩
def qbG(S:Sto):Nat->List Nat->List Nat->List Nat->Option (List Nat×List Nat)
 |_,[],met,refs=>O (met,refs)
 |0,_::_,_,_=>Y
 |f+1,a::s,met,refs=>if met.contains a then qbG S f s met refs else if a<256 then qbG S f (Zr S a++s) (a::met) (QV S a++refs)else Y
def qcT(met:List Nat):Nat->Bool:=λa=>met.contains a
theorem qmi(a:Nat)(met:List Nat):qcT (a::met)=vM (qcT met) a:=by funext b;unfold qcT vM;by_cases h:b=a;subst h;simp;rw[if_neg h];simp[h]
theorem qdE{S:Sto}{R:List Nat}:∀(f:Nat)(s met refs:List Nat){met' refs':List Nat},VF (Zr S) (QV S) R (qcT met) (λb=>refs.count b) s->qbG S f s met refs=O (met',refs')->VF (Zr S) (QV S) R (qcT met') (λb=>refs'.count b) []
 |0,[],met,refs,met',refs',h,e=>by simp only[qbG,Option.some.injEq,Prod.mk.injEq]at e;obtain⟨rfl,rfl⟩:=e;exact h
 |f+1,[],met,refs,met',refs',h,e=>by simp only[qbG,Option.some.injEq,Prod.mk.injEq]at e;obtain⟨rfl,rfl⟩:=e;exact h
 |0,_::_,met,refs,met',refs',h,e=>by cases e
 |f+1,a::s,met,refs,met',refs',h,e=>by
  have h1:VF (Zr S) (QV S) R (qcT met) (λb=>refs.count b) (s++[a]):=h.stack λx=>by simp[or_comm]
  simp only[qbG]at e;split at e;rename_i hm;exact qdE f s met refs (h1.again hm) e;rename_i hm;split at e;rename_i hl;have h2:=h1.new (refs':=λb=>(QV S a++refs).count b) (by unfold qcT;simpa using hm) hl (λb=>by simp only[List.count_append];omega);rw[<-qmi]at h2;exact qdE f _ _ _ (h2.stack λx=>by simp[or_comm]) e;cases e
theorem VF.start(ks rs:Nat->List Nat)(R:List Nat):VF ks rs R (qcT []) (λb=>R.count b) R:=by
 have h0:∀b n,JE rs (qcT []) b n=0:=λb n=>by
  induction n with
  |zero=>rfl
  |succ n ih=>unfold JE;rw[ih];rfl
 exact {reach:=λa h=>(by cases h),stk:=λa ha=>.base ha,root:=λa ha=>.inr ha,kids:=λa h=>(by cases h),sum:=λb=>by rw[h0];rfl}
def UT(met:List Nat):Nat->Nat:=λa=>if met.contains a then 1 else 0
theorem qjR(met:List Nat):vN (UT met)=qcT met:=by funext a;unfold vN UT qcT;cases met.contains a<;>rfl
theorem qjd{refs:List Nat}(hR:R≠[])(h:qbG S f R [] R=O (met,refs)):Qu S R (λb=>refs.count b) (UT met):=by
 have h1:=qdE f R [] R (VF.start _ _ R) h;refine⟨JI.walk.2 (by rw[qjR];exact h1),λa=>?_⟩;have h2:=qdz (vN (UT met)) 256;have h3:UT met a<=1:=by unfold UT;split<;>omega
 have h4:0<R.length:=List.length_pos_iff.2 hR;omega
def VR(S:Sto)(root next:Int)(dead:List Int):Option (List Vol×List Nat×List Nat):=
 if qj S&&decide (dead.length<=40)&&okL S (-1) root then match kA S root next with
  |none=>Y
  |some vs=>if(QJ root dead vs).all (λr=>okL S (-1) r)then match qbG S 2000 (Qp root dead vs) [] (Qp root dead vs) with
   |none=>Y
   |some (met,refs)=>if qfQ S (λb=>refs.count b)then O (vs,met,refs)else Y
   else Y
 else Y
theorem Tr{root next:Int}{refs:List Nat}(h:VR S root next dead=O (vs,met,refs)):QH S root next dead vs/\Qu S (Qp root dead vs) (λb=>refs.count b) (UT met)/\ZJ S (λb=>refs.count b):=by unfold VR at h;split at h;rename_i h1;simp only[Bool.and_eq_true,decide_eq_true_eq]at h1;split at h;cases h;rename_i vs' hv;split at h;rename_i h2;split at h;cases h;rename_i met' refs' hw;split at h;rename_i h3;simp only[Option.some.injEq,Prod.mk.injEq]at h;obtain⟨rfl,rfl,rfl⟩:=h;exact⟨⟨h1.1.1,h1.1.2,h1.2,hv,λr hr=>List.all_eq_true.1 h2 r hr⟩,qjd (by unfold Qp QJ;simp) hw,(qhD _ _).1 h3⟩;cases h;cases h;cases h
theorem QH.unique{root next:Int}{refs' nodes':Nat->Nat}(h:QH S root next dead vs)(hc:Qu S (Qp root dead vs) refs nodes)(h':QH S root next dead vs')(hc':Qu S (Qp root dead vs') refs' nodes'):vs'=vs/\refs'=refs/\vN nodes'=vN nodes:=by obtain rfl:=QH.same h h';obtain⟨e1,e2⟩:=JI.same hc'.mkd hc.mkd;exact⟨rfl,e2,e1⟩

theorem qaL{rs:Nat->List Nat}{M:Nat->Bool}{b:Nat}(h:∀a,M a=D->b∉rs a):∀n,JE rs M b n=0
 |0=>rfl
 |n+1=>by unfold JE;rw[qaL h n];split;rename_i hn;rw[List.count_eq_zero.2 (h n hn)];rfl
theorem qfg{a b:Nat}(h:b∈QV S a):0<b/\b<256:=by unfold QV at h;split at h;cases h;rename_i lvl xs hn;obtain⟨h1,h2⟩:=List.mem_filter.1 h;have:=(YH hn b h1).2;simp only[bne_iff_ne,ne_eq]at h2;omega
theorem node_cnt(h:(qo S a).isSome=D):qL S.now a≠0:=λe=>by
 have e2:qo S a=if qL S.now a=0 then Y else QL (Ji S a):=rfl
 rw[e2,if_pos e]at h;cases h
theorem Zj.of{root next:Int}(hp:QH S root next dead vs)(hc:Qu S (Qp root dead vs) refs nodes)(he:ZJ S refs):Zj S (Qp root dead vs) (vN nodes):=by
 have htr:∀a,vN nodes a=D->ZN S a:=λa ha=>qkd (R:=(· ∈ Qp root dead vs)) hp.trees (hc.mkd.reach a ha);have hnd:∀a,vN nodes a=D->(qo S a).isSome=D:=λa ha=>by obtain⟨-,-,lvl,xs,hn,-⟩:=htr a ha;rw[hn];rfl
 refine⟨⟨hc.mkd.kids,Gt S,λb hb=>?_,λa ha=>node_cnt (hnd a ha),λa ha=>?_⟩,hnd⟩;rw[<-hc.mkd.sum b];by_cases h2:b<256;exact he b h2;have h1:(Qp root dead vs).count b=0:=List.count_eq_zero.2 λh=>by have:=(hp.trees b h).2.1;omega
 have h3:JE (QV S) (vN nodes) b 256=0:=qaL (λa _ h=>by have:=(qfg h).2;omega) _;rw[hc.mkd.sum b];omega;obtain⟨h8,h256,-⟩:=htr a ha;omega
theorem Zj.enough(h:Zj S R M)(hR:∀b,0<b->R0.count b<=R.count b)(hin:∀a∈R0,M a=D)(hc:Qu S R0 refs nodes):ZJ S refs:=λa ha=>by
 by_cases h0:a=0;subst h0;have h1:R0.count 0=0:=List.count_eq_zero.2 λh1=>by have:=(h.cov.low 0 (hin 0 h1)).1;omega
 have h3:JE (QV S) (vN nodes) 0 256=0:=qaL (λa _ h=>by have:=(qfg h).1;omega) _;rw[hc.mkd.sum 0];omega;have yV:∀b,vN nodes b=D->M b=D:=λb hb=>(hc.mkd.reach b hb).closed (M:=λa=>M a=D) hin h.cov.kid;have h1:=h.cov.cnt a zO;have h2:=hR a zO;have h3:=TZ (rs:=QV S) yV a 256;rw[hc.mkd.sum a];show _<=qL S.now a;omega
theorem UM{α β:Type}{f g:β->α->β}:∀(l:List α)(a:β),(∀a,∀b∈l,f a b=g a b)->l.foldl f a=l.foldl g a
 |[],_,_=>rfl
 |x::l,a,h=>by rw[List.foldl_cons,List.foldl_cons,h a x List.mem_cons_self];exact UM l _ λa b hb=>h a b (List.mem_cons_of_mem _ hb)
theorem Zj.span{t:List UInt8}(h:Zj (qp S2 t) R M)(hle:∀b,qL t b<=qL S2.now b):∀(H:Nat){a:Nat}{ys:List It},M a=D->qo S2 a=O ((H:Int),ys)->(qz S2 H ys).isSome=D->qz (qp S2 t) H ys=qz S2 H ys:=by
 have hnd:∀a,M a=D->qo (qp S2 t) a=qo S2 a:=λa ha=>Xo (h.cov.live a ha) (hle a);have hf:∀{H:Nat}{ys:List It},(∀y∈ys,jA (qp S2 t) H y=jA S2 H y)->qz (qp S2 t) H ys=qz S2 H ys:=λ{H ys} hy=>by unfold qz;refine UM _ _ λa y hm=>?_;unfold jP;rw[hy y hm]
 intro H;induction H with
 |zero=>
  intro a ys hM hn hs;refine hf λy hy=>?_;have h1:=Qt hs y hy;have h2:=(qI hn).2.1 y hy;have hit:=h2.2;unfold itB at hit;rw[decide_eq_true_eq]at hit;unfold jA at h1⊢;split at h1;rename_i hc;rw[if_pos hc,if_pos];by_cases hr:y.r=0;exact .inl hr;right;have hm:y.r.toNat∈QV (qp S2 t) a:=Vo ((hnd a hM).trans hn) (List.mem_map.2 ⟨y,hy,rfl⟩) zO;have h3:=GW hM hm (h.cov.low a hM).2;have h4:=h.cov.cnt y.r.toNat zO;show 0<qL t _;have h5:qL (qp S2 t).now y.r.toNat=qL t y.r.toNat:=rfl;omega;cases h1
 |succ H ih=>
  intro a ys hM hn hs;refine hf λy hy=>?_;obtain⟨b,e1,h8,h256,zs,e4,e5⟩:=Qz (Qt hs y hy);have hMb:M b=D:=by
   have:=h.cov.kid a hM y.r.toNat (by rw[Gs ((hnd a hM).trans hn) zO];exact Vo ((hnd a hM).trans hn) (List.mem_map.2 ⟨y,hy,rfl⟩) (by rw[e1,Int.toNat_natCast];omega))
   rwa [e1,Int.toNat_natCast]at this
  have h3:=ih hMb e4 e5;rw[Jc,Jc];unfold vI;rw[e1,Int.toNat_natCast,hnd b hMb,e4];simp only[h3]
theorem Zj.tree{t:List UInt8}(h:Zj (qp S2 t) R M)(hle:∀b,qL t b<=qL S2.now b)(hM:M a=D)(ht:ZN S2 a):ZN (qp S2 t) a:=by obtain⟨h8,h256,lvl,xs,hn,hs⟩:=ht;exact⟨h8,h256,lvl,xs,(Xo (h.cov.live a hM) (hle a)).trans hn,by rw[h.span hle lvl hM hn hs];exact hs⟩
theorem qhM(hc:Zj S R M)(hM:M a=D)(hn:qo S a=O (((h+1:Nat):Int),xs))(aK:(qz S (h+1) xs).isSome=D):∀y∈xs,M y.r.toNat=D:=λy hy=>hc.cov.kid a hM _ (by rw[Gs hn zO];obtain⟨c,f1,f8,-⟩:=Qz (Qt aK y hy);exact Vo hn (List.mem_map.2 ⟨y,hy,rfl⟩) (by rw[f1,Int.toNat_natCast];omega))
theorem qiq(h:∀y∈l,M y.r.toNat=D):∀r∈qA l,M r=D:=λr hr=>by obtain⟨y,hy,rfl⟩:=List.mem_map.1 hr;exact h y hy
theorem qez(h:∀b,b≠0->(qA hs).count b<=(qA l).count b){r:Nat}(h0:r≠0)(hr:r∈qA hs):r∈qA l:=List.count_pos_iff.1 (Nat.lt_of_lt_of_le (List.count_pos_iff.2 hr) (h r h0))
theorem qml(hs:(qz S (h+1) xs).isSome=D)(m:SM S S1)(hc:Zj S1 R M)(hx:∀y∈xs,M y.r.toNat=D)(i:Nat)(h0:0<h):∀y∈ZW S1 xs i,M y.r.toNat=D:=by
 rcases Nat.lt_or_ge i xs.length with hi|hi
 obtain⟨b,e1,-,-,zs,e4,e5⟩:=Qz (Qt hs _ (List.getElem_mem hi));have hn:qo S xs[i].r.toNat=O ((h:Int),zs):=by rw[e1,Int.toNat_natCast];exact e4
 have eY:=m.node _ _ hn;have e:ZW S1 xs i=zs:=by unfold ZW;rw[zL hi];simp only[eY]
 rw[e];obtain⟨h',rfl⟩:∃h',h=h'+1:=⟨h-1,zO⟩
 exact qhM hc (hx _ (List.getElem_mem hi)) eY (m.spanOk e5);have e:ZW S1 xs i=[]:=by unfold ZW;rw[List.getElem?_eq_none hi]
 rw[e];intro y hy;cases hy
theorem join_met{p:Nat}(hs:(qz S (h+1) xs).isSome=D)(m:SM S S1)(hc:Zj S1 R M)(hx:∀y∈xs,M y.r.toNat=D)(h0:0<h)(hl:∀y∈l,M y.r.toNat=D):∀y∈(ZC S1 xs p l).1,M y.r.toNat=D:=by have hN:=λi=>qml hs m hc hx i h0;unfold ZC;intro y hy;split at hy;split at hy;exact hl y hy;split at hy;exact hl y hy;exact(List.mem_append.1 hy).elim (hN _ y) (hl y);split at hy;exact hl y hy;exact(List.mem_append.1 hy).elim (hl y) (hN _ y)
theorem qhu{S:Sto}{k:K3}{R:List Nat}(hS:qj S=D):∀(h:Nat){a:Nat}{xs l hs:List It}{S':Sto}{M:Nat->Bool},qo S a=O ((h:Int),xs)->(qz S h xs).isSome=D->(Vm S k h xs).isSome=D->Zj S R M->M a=D->qco k (jJ S k h xs).reverse S=.ok (l,hs,S') -> ∃M',Zj S' (qA hs++R) M'/\(∀a,M a=D->M' a=D)/\(0<h->∀y∈l,M' y.r.toNat=D)/\∀r∈qA hs,r≠0
 |0,a,xs,l,hs,S',M,hn,aK,h1,hc,hM,e=>by rw[YR,List.reverse_singleton]at e;simp only[qco,List.tail_cons,jM,qcE]at e;cases e;exact⟨M,hc,λ_ h=>h,λh=>absurd h (Nat.lt_irrefl 0),λr hr=>by cases hr⟩
 |h+1,a,xs,l,hs,S',M,hn,aK,h1,hc,hM,e=>by
  have h0:=kF (qI hn).1 zO;have hlt:=zy (k:=k) h0;obtain⟨b,e1,-,-,zs,e4,e5⟩:=Qz (Qt aK _ (List.getElem_mem hlt));have iK:qo S (xs[QG xs k].r).toNat=O ((h:Int),zs):=by rw[e1,Int.toNat_natCast];exact e4
  have hd:=(Ua (jI aK).2 h0 (TQ h1)).1;rw[Tl hd iK]at h1;have hxm:=qhM hc hM hn aK;have hMb:M b=D:=by
   have:=hxm _ (List.getElem_mem hlt)
   rwa [e1,Int.toNat_natCast]at this
  rw[vX (zL hlt) iK,List.reverse_cons]at e;obtain⟨s,r,hr⟩:∃s r,(jJ S k h zs).reverse=s::r:=by
   rcases hq:(jJ S k h zs).reverse with _|⟨s,r⟩
   have:=congrArg List.length hq;rw[List.length_reverse,Yb h (qI e4).1 e5]at this;cases this;exact⟨s,r,rfl⟩
  have e':qco k (jJ S k h zs).reverse S=jM r (qcE (s::r)) [] S:=by rw[hr];rfl
  rw[hr]at e;have e'':jM (r++[(h+1,xs,QG xs k)]) (qcE (s::r)) [] S=.ok (l,hs,S'):=e;rw[vD]at e'';split at e'';cases e'';rename_i l1 uG S1 hg;rw[qat]at e'';have hI:=Kp hS h e4 e5 h1 (e'.trans hg);obtain⟨M1,c1,k1,r1,z1⟩:=qhu hS h e4 e5 h1 hc hMb (e'.trans hg);obtain⟨hA,hC⟩:=qdv (k:=k) aK zO;have hmx:=(qI hn).2.1;have hB:qu S (h+1) [xs[QG xs k]]=qu S h zs:=by simp only[qu,List.flatMap_cons,List.flatMap_nil,List.append_nil,iK]
  clear e e' hd iK e1;generalize QG xs k=p at*;have hx1:∀y∈xs,M1 y.r.toNat=D:=λy hy=>k1 _ (hxm y hy);unfold JZ at e'';split at e'';rename_i hl;cases e'';refine⟨M1,c1.perm λb _=>by simp only[List.count_append,qA,List.map_nil,List.count_nil];omega,k1,λ_ y hy=>?_,λr hr=>by cases hr⟩;rcases List.mem_append.1 hy with hy|hy
  rcases List.mem_append.1 hy with hy|hy
  exact hx1 y (List.mem_of_mem_take hy);cases hy;exact hx1 y (List.mem_of_mem_drop hy);rename_i hl;split at e'';cases e'';rename_i up S3 hb;simp only[Except.ok.injEq,Prod.mk.injEq]at e'';obtain⟨f1,f2,f3⟩:=e'';subst f1 f2 f3;have hi:=hI.items;rw[<-hB]at hi;obtain⟨A,X,C,j1,j2,j3,j4,j5,j6,j7,j8,j9,j10,j11,j12,j13⟩:=qcC (k:=k) aK hlt hI.sm hI.span hi hA hC hI.ok hI.len;simp only at hb;rw[show(((h+1:Nat):Int)-1)=(h:Int)by omega]at hb;obtain⟨M2,c2,k2,r2⟩:=c1.build (h:=h) hI.may (λy hy=>(j8 y hy).1) j6 (λr hr=>qez (λb hb=>Nat.le_trans (hI.sub b hb) (j9 b)) (z1 r hr) hr) (λh0=>qiq (join_met aK hI.sm c1 hx1 h0 (r1 h0))) hb;have hmay:=Km (λy hy=>(j8 y hy).1) hI.held hI.may hb;refine⟨M2,c2,λa ha=>k2 a (k1 a ha),λ_ y hy=>?_,λr hr=>?_⟩;rcases List.mem_append.1 hy with hy|hy
  rcases List.mem_append.1 hy with hy|hy
  exact k2 _ (hx1 y (List.mem_of_mem_take hy));exact r2 _ (List.mem_map.2 ⟨y,hy,rfl⟩);exact k2 _ (hx1 y (List.mem_of_mem_drop hy));obtain⟨y,hy,rfl⟩:=List.mem_map.1 hr;have:=(hmay.2.2.2 y hy).1;omega
theorem Zj.share{t:List UInt8}(h:Zj S R M)(hl:S.now.length=256)(h0:a≠0)(ha:a<256)(e:ZR S.now a=.ok t):Zj (qp S t) (a::R) M/\SM S (qp S t)/\∀b,qL t b=qL S.now b+if b=a then 1 else 0:=by
 unfold ZR at e;rw[if_neg h0]at e;split at e;cases e;rename_i h1;split at e;cases e;rename_i xY;cases e;have di:∀b,qL (zj S.now a 1) b=qL S.now b+if b=a then 1 else 0:=λb=>by unfold zj;rw[KI _ zO];split;rename_i e;subst e;have h2:=TL S.now b;rw[UInt8.toNat_ofNat'];omega;rfl
 have hsm:SM S (qp S (zj S.now a 1)):=qko λr hr=>by have:=di r;unfold qL at this;omega
 refine⟨⟨⟨λc hc b hb=>h.cov.kid c hc b ?_,Gt _,λb hb=>?_,λc hc=>?_,h.cov.low⟩,λc hc=>?_⟩,hsm,di⟩;obtain⟨nd,hn⟩:=Option.isSome_iff_exists.1 (h.nd c hc);rw[<-(TS ((hsm.node c nd hn).trans hn.symm)).2];exact hb;rw[Xu (rs:=QV S) (rs':=QV (qp S (zj S.now a 1))) (λc hc=>by obtain⟨nd,hn⟩:=Option.isSome_iff_exists.1 (h.nd c hc);exact(TS ((hsm.node c nd hn).trans hn.symm)).1)];have h3:=h.cov.cnt b hb;have h4:=di b;show _<=qL (zj S.now a 1) b;rw[h4,List.count_cons];by_cases e:b=a;subst e;simp only[beq_self_eq_true,if_true];omega;rw[if_neg e,if_neg (by simpa using λx=>e x.symm)];omega;have h3:=h.cov.live c hc;have h4:=di c;show qL (zj S.now a 1) c≠0;omega;obtain⟨nd,hn⟩:=Option.isSome_iff_exists.1 (h.nd c hc);rw[hsm.node c nd hn];rfl
theorem TD(h:ZN S a):okL S (-1) (a:Int)=D:=by obtain⟨h8,h256,lvl,xs,hn,hs⟩:=h;unfold okL;rw[if_pos zO,Int.toNat_natCast,hn];simp[hs]
theorem sm_pos{t:List UInt8}(h:∀j,qL t j≠0->qL S.now j≠0):SM (qp S t) S where
 node r nd e:=by unfold qo at e⊢;split at e;cases e;rename_i h1;rw[if_neg (show ¬(S.now[r]?.getD 0).toNat=0 from h r h1)];exact e
 pos r e:=by have:=h r (by unfold qL;simp only[qp]at e;omega);unfold qL at this;omega
theorem SM.refl_(S:Sto):SM S S:=⟨λ_ _ h=>h,λ_ h=>h⟩
theorem GC{T:Sto}:∀{n:Nat}{S S':Sto}{f r H:Nat}{its:List It},qj S=D->8<=f->SM S T->qo S f=O ((H:Int),its)->XG S H its->(qz T H its).isSome=D->ZL n S f=.ok (r,S') -> ∃(H':Nat)(ys:List It),qo T r=O ((H':Int),ys)/\(qz T H' ys).isSome=D/\qu T H' ys=qu T H its/\SM S' T
 |0,S,S',f,r,H,its,hS,h8,m,hn,hl,hs,e=>by cases e;exact⟨H,its,m.node _ _ hn,hs,rfl,m⟩
 |n+1,S,S',f,r,H,its,hS,h8,m,hn,hl,hs,e=>by
  simp only[ZL,hn]at e;split at e;rename_i y;split at e;cases e;exact⟨H,[y],m.node _ _ hn,hs,rfl,m⟩;rename_i h0;obtain⟨h,rfl⟩:∃h,H=h+1:=⟨H-1,zO⟩
  split at e;cases e;rename_i t ht;split at e;cases e;rename_i t' ht';obtain⟨b,zs,e1,k8,k256,kb,kt,kt',et,hb,fZ,hk⟩:=US hS h8 hn hl ht ht';obtain⟨ys,g1,g2,g3⟩:=qie hs;have sQ:ys=zs:=by have h1:=m.node _ _ hb;rw[e1,Int.toNat_natCast,h1]at g1;simp only[Option.some.injEq,Prod.mk.injEq,true_and]at g1;exact g1.symm
  subst sQ;have hm1:SM (qp S t') S:=sm_pos λj hj=>by
   have h1:=TP (qp S t) 7 _ _ _ _ ht' j;by_cases hjb:j=b;subst hjb;exact qaD hb;have h2:qL t j=qL S.now j:=by rw[et];unfold zj;rw[KI _ (by have:=(qZ hS).2.2.1;omega),if_neg hjb]
   omega
  rw[e1,Int.toNat_natCast]at e;obtain⟨H',ys',f1,f2,f3,f4⟩:=GC kt' k8 (hm1.trans m) (hk b _ _ kb hb) (GB h (λr l nd hlt hr=>hk r l nd (λe=>by subst e;rw[hn]at hr;simp only[Option.some.injEq,Prod.mk.injEq]at hr;omega) hr) fZ) g2 e;exact⟨H',ys',f1,f2,f3.trans g3.symm,f4⟩;cases e;exact⟨H,_,m.node _ _ hn,hs,rfl,m⟩
theorem qcL{R:List Nat}:∀{n:Nat}{S S':Sto}{f r H:Nat}{its:List It}{M:Nat->Bool},qj S=D->8<=f->qo S f=O ((H:Int),its)->XG S H its->Zj S (f::R) M->M f=D->ZL n S f=.ok (r,S') -> ∃M',Zj S' (r::R) M'/\M' r=D/\∀b∈R,M b=D->M' b=D
 |0,S,S',f,r,H,its,M,hS,h8,hn,hl,hc,hM,e=>by cases e;exact⟨M,hc,hM,λ_ _ h=>h⟩
 |n+1,S,S',f,r,H,its,M,hS,h8,hn,hl,hc,hM,e=>by
  simp only[ZL,hn]at e;split at e;rename_i y;split at e;cases e;exact⟨M,hc,hM,λ_ _ h=>h⟩;rename_i h0;obtain⟨h,rfl⟩:∃h,H=h+1:=⟨H-1,zO⟩
  split at e;cases e;rename_i t ht;split at e;cases e;rename_i t' ht';obtain⟨b,zs,e1,k8,k256,kb,kt,kt',et,hb,fZ,hk⟩:=US hS h8 hn hl ht ht';have hMb:M b=D:=hc.cov.kid f hM b (by rw[Gs hn zO];exact Vo hn (by simp[qA,e1]) zO);rw[e1,Int.toNat_natCast]at e ht;obtain⟨c1,-,-⟩:=hc.share (qZ hS).2.2.1 zO k256 ht;have c2:Zj (qp S t) (f::b::R) M:=c1.perm λc _=>by simp only[List.count_cons];omega
  obtain⟨M1,c3,l3⟩:=c2.leave hM ht';obtain⟨M2,c4,r4,k4⟩:=qcL kt' k8 (hk b _ _ kb hb) (GB h (λr l nd hlt hr=>hk r l nd (λe=>by subst e;rw[hn]at hr;simp only[Option.some.injEq,Prod.mk.injEq]at hr;omega) hr) fZ) c3 (l3.keep b List.mem_cons_self hMb) e;exact⟨M2,c4,r4,λc hc hMc=>k4 c hc (l3.keep c (List.mem_cons_of_mem _ hc) hMc)⟩;cases e;exact⟨M,hc,hM,λ_ _ h=>h⟩
theorem GR{L g:Nat}(hS:qj S=D)(hn:qo S a=O ((L:Int),xs))(aK:(qz S L xs).isSome=D)(h1:(Vm S k L xs).isSome=D)(e:Ym S L xs k=.ok (g,S3)):∃(l hs:List It)(S1 S2:Sto)(f:Nat),qco k (jJ S k L xs).reverse S=.ok (l,hs,S1)/\DelI S L k (qu S L xs) l hs S1/\Qy S1 (if l=[]then 0 else(L:Int)) l hs=.ok ([jz (jy l) f],S2)/\8<=f/\f<256/\qj S2=D/\ZL 7 S2 f=.ok (g,S3):=by
 have ig:=Yb (k:=k) L (qI hn).1 aK;unfold Ym at e;split at e;cases e;rename_i l hs S1 hg;have hI:=Kp hS L hn aK h1 hg;have hLV:(((jJ S k L xs).length-1:Nat):Int)=(L:Int):=zO;rw[hLV]at e;split at e;cases e;rename_i up S2 hb;have hf:=Vg (S:=S1) (lvl:=if l=[]then 0 else(L:Int)) (hs:=hs) hI.len;have:∃f:Nat,up=[jz (jy l) f]:=by rw[hb]at hf;split at hf;cases hf;split at hf;cases hf;cases hf;exact⟨_,rfl⟩
 obtain⟨f,rfl⟩:=this;have hmay:=Km (λx hx=>(hI.ok x hx).1) hI.held hI.may hb;have h8:=hmay.2.2.2 _ List.mem_cons_self;unfold jz at h8;simp only at h8;exact⟨l,hs,S1,S2,f,hg,hI,hb,zO,zO,hmay.1,e⟩
theorem qhx{all:List It}(hI:DelI S h k all l hs S1)(e:Qy S1 (if l=[]then 0 else(h:Int)) l hs=.ok ([jz (jy l) f],S2)):∃(H:Nat)(its:List It),SM S1 S2/\qo S2 f=O ((H:Int),its)/\(qz S2 H its).isSome=D/\qu S2 H its=qu S1 h l:=by
 by_cases hl:l=[]
 subst hl;have hz:∀r∈qA hs,r=0:=λr hr=>Classical.byContradiction λh0=>by have h1:(qA hs).count r<=0:=hI.sub r h0;have h2:=List.count_pos_iff.2 hr;omega
 rw[if_pos rfl,Vg zA3]at e;rcases hm:Zg S1 0 []with er|⟨f',S'⟩
 rw[hm]at e;cases e;rw[hm]at e;simp only[Xj _ hz]at e;obtain⟨m,-,-,hn,-⟩:=YE (h:=0) hI.may zA3 zA0 hm;simp only[Except.ok.injEq,Prod.mk.injEq,List.cons.injEq,and_true]at e;obtain⟨e1,rfl⟩:=e;obtain rfl:f'=f:=by unfold jz at e1;simp only[It.mk.injEq]at e1;omega
 refine⟨0,[],m,hn,rfl,?_⟩;cases h<;>rfl;rw[if_neg hl]at e;obtain⟨m,-,h3,h4,-⟩:=UH hI.may (λx hx=>(hI.ok x hx).1) hI.held hI.sub hl hI.span e;obtain⟨ys,g1,g2,g3⟩:=qie h3;have:(jz (jy l) f).r.toNat=f:=by unfold jz;simp
 rw[this]at g1;exact⟨h,ys,m,g1,g2,g3.symm.trans h4⟩
theorem qlK{L a r:Nat}(hS:qj S=D)(hn:qo S a=O ((L:Int),xs))(aK:(qz S L xs).isSome=D)(e:XT S L xs a k=.ok (r,S')):(Vm S k L xs).isSome=D/\∃(S2:Sto)(H:Nat)(ys:List It),SM S S2/\SM S' S2/\qo S2 r=O ((H:Int),ys)/\(qz S2 H ys).isSome=D/\qu S2 H ys=JS k (qu S L xs):=by unfold XT at e;split at e;rename_i h1;refine⟨h1,?_⟩;unfold delX at e;split at e;cases e;rename_i g S3 e3;obtain⟨l,hs,S1,S2,f,hg,hI,hb,h8,h256,uO,oL⟩:=GR hS hn aK h1 e3;obtain⟨H,its,m,q1,q2,q3⟩:=qhx hI hb;obtain⟨H',ys,f1,f2,f3,f4⟩:=GC uO h8 (SM.refl_ S2) q1 (qfW H q2) q2 oL;split at e;cases e;rename_i t ht;cases e;have hle:=TP S3 7 _ _ _ _ ht;exact⟨S2,H',ys,hI.sm.trans m,(qlp hle).trans f4,f1,f2,f3.trans (q3.trans hI.items)⟩;cases e
theorem del_cov{L a r:Nat}(hS:qj S=D)(hn:qo S a=O ((L:Int),xs))(aK:(qz S L xs).isSome=D)(hc:Zj S (a::R) M)(hM:M a=D)(e:XT S L xs a k=.ok (r,S')):∃M',Zj S' (r::R) M'/\M' r=D/\∀b∈R,M b=D->M' b=D:=by
 unfold XT at e;split at e;rename_i h1;unfold delX at e;split at e;cases e;rename_i g S3 e3;obtain⟨l,hs,S1,S2,f,hg,hI,hb,h8,h256,uO,oL⟩:=GR hS hn aK h1 e3;obtain⟨H,its,m,q1,q2,q3⟩:=qhx hI hb;obtain⟨M1,c1,k1,r1,z1⟩:=qhu hS L hn aK h1 hc hM hg;have uU:qA [jz (jy l) f]=[f]:=by simp[qA,jz]
 have h2:∃M2,Zj S2 (f::a::R) M2/\(∀b,M1 b=D->M2 b=D)/\M2 f=D:=by
  by_cases hl:l=[]
  subst hl;have hh:qA hs=[]:=List.eq_nil_iff_forall_not_mem.2 λr hr=>by have g0:=z1 r hr;have g1:(qA hs).count r<=0:=hI.sub r g0;have g2:=List.count_pos_iff.2 hr;omega
  rw[hh,List.nil_append]at c1;rw[if_pos rfl,Vg zA3,hh]at hb;rcases hm:Zg S1 0 []with er|⟨f',S4⟩
  rw[hm]at hb;cases hb;rw[hm]at hb;simp only[looseL,Except.ok.injEq,Prod.mk.injEq,List.cons.injEq,and_true]at hb;obtain⟨e1,rfl⟩:=hb;obtain rfl:f'=f:=by unfold jz at e1;simp only[It.mk.injEq]at e1;omega
  obtain⟨c2,-⟩:=Zj.make (h:=0) c1 hI.may zA3 zA0 (λh=>absurd h (Nat.lt_irrefl 0)) hm;exact⟨_,c2,λb hb=>by simp[vM,hb],by simp[vM]⟩;rw[if_neg hl]at hb;obtain⟨M2,c2,k2,r2⟩:=c1.build (h:=L) hI.may (λy hy=>(hI.ok y hy).1) hI.span (λr hr=>qez hI.sub (z1 r hr) hr) (λh0=>qiq (r1 h0)) hb;rw[uU]at c2 r2;exact⟨M2,c2,k2,r2 f zA3⟩
 obtain⟨M2,c2,k2,hf⟩:=h2;obtain⟨M3,c3,r3,k3⟩:=qcL uO h8 q1 (qfW H q2) c2 hf oL;split at e;cases e;rename_i t ht;cases e;have c4:Zj S3 (a::r::R) M3:=c3.perm λb _=>by simp only[List.count_cons];omega
 obtain⟨M4,c5,l5⟩:=c4.leave (k3 a List.mem_cons_self (k2 a (k1 a hM))) ht;exact⟨M4,c5,l5.keep r List.mem_cons_self r3,λb hb hMb=>l5.keep b (List.mem_cons_of_mem _ hb) (k3 b (List.mem_cons_of_mem _ hb) (k2 b (k1 b hMb)))⟩;cases e



section
variable {gb:Nat} {c0 c1 c2 c3 c4 c5 c6 c7:Value} {er:Int}
end
def snapV(next:Int)(v:Vol)(fz:Bool)(id:Int):Vol:=⟨next,v.root,fz,id⟩
abbrev X3:Type:=It×OA×Nat
abbrev JU(x:X3):Value:=F x.2.1 x.1.val.length x.2.2
abbrev encX(x:X3):Value:=.agg (Xf x.1 x.2.1 x.2.2)
structure jh(M:I->Nat->Prop)(W W':I):Prop where
 os:W'.os=W.os
 tape:W'.tape=W.tape
 output:W'.output=W.output
 size:W.heap.size<=W'
 same:∀b,b<W.heap.size->¬M W b->W'.heap[b]?=W.heap[b]?/\¬M W' b
theorem jh.refl(M:I->Nat->Prop)(W:I):jh M W W:=⟨rfl,rfl,rfl,zM _,λ_ _ h=>⟨rfl,h⟩⟩
theorem jh.trans{M:I->Nat->Prop}{A B C:I}(h:jh M A B)(k:jh M B C):jh M A C:=
 ⟨k.os.trans h.os,k.tape.trans h.tape,k.output.trans h.output,Nat.le_trans h.size k.size,λb hb hm=>by obtain⟨e1,m1⟩:=h.same b hb hm;obtain⟨e2,m2⟩:=k.same b (Nat.lt_of_lt_of_le hb h.size) m1;exact⟨e2.trans e1,m2⟩⟩
theorem jh.row{M:I->Nat->Prop}(h:jh M W W'){b:Nat}(hm:¬M W b)(hr:W.heap[b]?=o):W'.heap[b]?=o:=(h.same b (zG.1 hr).1 hm).1.trans hr
theorem jh.cell{M:I->Nat->Prop}(h:jh M W W'){p:Addr}(hb:p.block<W)(hm:¬M W p.block):W'.cell? p=W.cell? p:=World.cell?_of_block (h.same _ hb hm).1
theorem jh.below{M:I->Nat->Prop}(h:jh M W W')(hB:B<=W)(hl:∀b,b<B->¬M W b):Below B W W':=⟨h.os,h.tape,h.output,h.size,λk hk=>(h.same k zO (hl k hk)).1⟩
structure FctX(M:I->Nat->Prop)(lo:Nat)(x:X3)(W:I):Prop where
 by_:Bys W W (JU x) x.1.val
 fr:ZK lo (JU x)
 own:∀b o,x.2.1=O ⟨b,o,Y⟩->0<x.1.val.length->¬M W b
 nz:Nz W (JU x)
theorem FctX.kept{M:I->Nat->Prop}{x:X3}(h:FctX M lo x W)(hk:jh M W W'):FctX M lo x W':=by
 have nH:∀b o,x.2.1=O ⟨b,o,Y⟩->0<x.1.val.length->b<W.heap.size:=λb o e hp=>by obtain⟨A,c,e1,e2,e3,hr⟩:=h.by_;obtain⟨b',off,e4,e5,-⟩:=hr.2 hp;simp only[JU,Value.slice.injEq]at e1;rw[e,e4]at e1;simp only[Option.some.injEq,Addr.mk.injEq]at e1;omega
 refine⟨?_,h.fr,λb o e hp=>(hk.same b (nH b o e hp) (h.own b o e hp)).2,λa n c e hn=>?_⟩
 case refine_2=>
  obtain⟨cs,ty,hr⟩:=h.nz a n c e hn;obtain⟨A,c',e1,e2,e3,h4⟩:=h.by_;simp only[JU,Value.slice.injEq]at e e1;obtain⟨b',off,e4,-,-⟩:=h4.2 zO;have e5:a=⟨b',off,Y⟩:=by
   have:O a=O ⟨b',off,Y⟩:=by rw[<-e.1,e1.1,e4]
   exact Option.some.inj this
  subst e5;exact⟨cs,ty,(hk.row (h.own b' off e.1 zO) hr)⟩
 obtain⟨A,c,e1,e2,e3,hr⟩:=h.by_;refine⟨A,c,e1,e2,e3,hr.1,λhp=>?_⟩;obtain⟨b',off,e4,e5,e6⟩:=hr.2 hp;have e7:x.2.1=A:=by simp only[JU,Value.slice.injEq]at e1;exact e1.1
 refine⟨b',off,e4,by have:=hk.size;omega,λj u hu=>?_⟩;rw[hk.cell (p:=⟨b',off+j,Y⟩) e5 (h.own b' off (e7.trans e4) hp)];exact e6 j u hu
structure Gd(lo:Nat)(M:I->Nat->Prop)(J Jx:List X3->I->Prop)(l N:Nat):Prop where
 low:∀W b,M W b->lo<=b
 lt:∀pre W b,J pre W->M W b->b<W.heap.size
 ext:∀pre W W',J pre W->Ext W W'->J pre W'/\∀b,M W' b->M W b
 yld:∀m pre x W,J pre W->FctX M lo x W->pre.length<N->YieldAt Fence.wide m prog l #[encX x] W λe W'=>(e=U (.bool D)/\J (pre++[x]) W'/\jh M W W')\/(e=U (.bool false)/\Jx (pre++[x]) W')
theorem Gd.kept{l:Nat}{M:I->Nat->Prop}{J Jx:List X3->I->Prop}(H:Gd lo M J Jx l N){pre:List X3}(hJ:J pre W)(hx:Ext W W'):jh M W W':=
 ⟨hx.os,hx.tape,hx.output,hx.size,λb hb hm=>⟨hx.block b hb,λh=>hm ((H.ext pre W W' hJ hx).2 b h)⟩⟩
theorem Gd.new{l:Nat}{M:I->Nat->Prop}{J Jx:List X3->I->Prop}(H:Gd lo M J Jx l N){pre:List X3}(hJ:J pre W)(hx:Ext W W'){b:Nat}(hb:W.heap.size<=b):¬M W' b:=λh=>by have:=H.lt pre W b hJ ((H.ext pre W W' hJ hx).2 b h);omega
structure EnvX(S:Sto)(K:K3)(M:I->Nat->Prop)(l bB bF bY bD bb:Nat)(v1 v2 v3 v4:Value)(W:I):Prop where
 b:W.heap[bB]?=O (Z #[Q bb] 92)
 f:W.heap[bF]?=O (Z #[.int .u8 K.1,.int .u32 K.2.1,.int .u32 K.2.2] 49)
 y:W.heap[bY]?=O (Z #[.func (.yield l) #[] #[]] 249)
 d:W.heap[bD]?=O (Z #[.func (.func 179) #[] #[Q bB,Q bF,Q bY,Q bD]] 250)
 on:OnB 0 bb v1 v2 v3 v4 S W
def qgK(M:I->Nat->Prop)(J Jx:List X3->I->Prop)(pre:List X3)(zs:List It)(W:I)(e:Ending)(W':I):Prop:=
 (e=U (.bool D)/\∃ys:List X3,ys.map (·.1)=zs/\J (pre++ys) W'/\jh M W W')\/(e=U (.bool false)/\∃(ys:List X3)(rest:List It),ys.map (·.1)++rest=zs/\Jx (pre++ys) W')
def DownC(S:Sto)(K:K3)(M:I->Nat->Prop)(J Jx:List X3->I->Prop)(N bB bF bY bD:Nat)(E:I->Prop)(h:Nat):Prop:=
 ∀(a:Nat)(xs:List It)(pre:List X3)(W:I),8<=a->a<256->qo S a=O ((h:Int),xs)->(qz S h xs).isSome=D->J pre W->E W->pre.length+(QZ S h K xs).length<=N ->
  Calls prog 179 #[(a:Int),Q bB,Q bF,Q bY,Q bD] W (qgK M J Jx pre (QZ S h K xs) W)
theorem qlS(S:Sto)(K:K3)(x:It):QZ S 0 K [x]=if Qg (qw x) K=D then []else [x]:=by unfold QZ;show [x].filter _=_;by_cases h:Qg (qw x) K=D;rw[if_pos h];simp[h];rw[if_neg h];simp[h]
theorem qlT(hn:qo S x.r.toNat=O (lvl,ys)):QZ S (h+1) K [x]=QZ S h K ys:=by unfold QZ;rw[Ze];simp[hn]
theorem qlV{k:Nat}(hk:k<xs.length):QZ S h K (xs.take (k+1))=QZ S h K (xs.take k)++QZ S h K [xs[k]]:=by rw[List.take_succ_eq_append_getElem hk,qbf]
theorem qjs(k:Nat):∃r,QZ S h K (xs.take k)++r=QZ S h K xs:=⟨QZ S h K (xs.drop k),by rw[<-qbf,List.take_append_drop]⟩
theorem from_nil(S:Sto)(h:Nat)(K:K3):QZ S h K []=[]:=by unfold QZ;rw[Ja];rfl
theorem its_fct{lo b off n c:Nat}(h:ZO lo w (F (b,off) n c) xs)(hz:NzI w (F (b,off) n c))(i:Nat)(hi:i<xs.length):∃A' c',ItAt w w b (off+i*5) xs[i] A' c'/\ZK lo (F A' xs[i].val.length c')/\Nz w (F A' xs[i].val.length c'):=by
 have hn:n=xs.length:=h.its.at_.1;obtain⟨ps,rfl,⟨A,c1,e,_,_,hr⟩,hp,hf,hg⟩:=h;cases e;have fF:i<ps.length:=by simpa using hi
 obtain⟨b',off',e,hb,hc⟩:=hr.2 zO;cases e;obtain⟨c0,c1,c2,c3,c4⟩:=vt ps i fF;have hgi:=hg ps[i] (List.getElem_mem fF);obtain⟨⟨A',c',e5⟩,af⟩:=hp ps[i] (List.getElem_mem fF);rw[e5]at c4 af hgi;simp only[List.getElem_map];have c4':=hc _ _ c4;rw[<-Nat.add_assoc]at c4';refine⟨A',c',⟨hc _ _ c0,?_,?_,?_,c4',af⟩,hgi,hz b off _ _ i _ rfl zO c4'⟩;rw[Nat.add_assoc];exact hc _ _ c1;rw[Nat.add_assoc];exact hc _ _ c2;rw[Nat.add_assoc];exact hc _ _ c3
end Go.Proofs.YtmeadnlmepcmbaaGreat
namespace Go.Proofs.YtmeadnlmepcmbaaGreat
open Go.RowKit Go.Shelf
attribute [local go_sem] Oper.semAt_some
variable {R:Ending->World->Prop}{a:Act}{W:World}{k j:Nat}
theorem Gm{b:Bool}(h6:a.tmps[6]?.getD undef=.bool b)(hd:a.defers=[])(hR:R (U (.bool b)) W):bodyPost prog Tryz.f179 R .ret a W:=by refine bodyPost_ret (v:=.bool b) ?_ hd hR;simp[results,results179,go_sem,h6]
theorem qmQ(hj:j=k+1)(hk:k<1000):wrap64 ((k:Int)+1)=(j:Int)/\IntKind.i64.wrap ((k:Int)+1)=(j:Int):=
 ⟨by rw[IntWalk.wrap64_in _ zO,hj];rfl,by rw[IntWalk.i64_in _ zO,hj];rfl⟩
set_option maxRecDepth 100000 in
theorem qhA(S:Sto)(hS:qj S=D)(k i o:Int)(lo l N bB bF bY bD bb:Nat)(M:I->Nat->Prop)(J Jx:List X3->I->Prop)(A1 n1 c1 A2 n2 c2 A3 n3 c3 A4 n4 c4)(E:I->Prop)(HC:Gd lo M J Jx l N)(HE:∀W,E W->EnvX S (k,i,o) M l bB bF bY bD bb (F A1 n1 c1) (F A2 n2 c2) (F A3 n3 c3) (F A4 n4 c4) W)(HEk:∀W W',E W->jh M W W'->E W')(HEl:∀W,E W->lo<=W.heap.size)(h:Nat)(HW:∀h':Nat,h=h'+1->DownC S (k,i,o) M J Jx N bB bF bY bD E h'):DownC S (k,i,o) M J Jx N bB bF bY bD E h:=by
 intro a xs pre w ha bC hn aK hJ hE hN;have ny:=HE w hE;have uM:=qci 0 bb A1 n1 c1 A2 n2 c2 A3 n3 c3 A4 n4 c4 S hS a ha bC w ny.on;rw[hn]at uM;obtain⟨hm1,iR,-⟩:=qI hn;have ni:xs.length<=5:=by unfold Qj ZV at hm1;simp at hm1;omega
 have kB:=qa ny.b;have HP:=zH (λj (hj:j+1<xs.length) (hl:Qg (k,i,o) (qw xs[j+1])=false)=>qlU aK hj hl);have HT:=zH (λh' (e:h=h'+1) y (hy:y∈xs)=>Qz (S:=S) (h:=h') (y:=y) (by have:=Qt aK y hy;rw[e]at this;exact this));replace⟨aK,HC,HE,HEk⟩:=zH4 aK HC HE HEk;replace HEl:=zH (HEl w hE);replace⟨HW,hJ,hE,hN⟩:=zH4 HW hJ hE hN;clear hm1 iR hn ny;go_enter func179,ntmps179;go_wp2_with fail;refine uM.mono ?_;clear uM kB;rintro e w1 ⟨u,rfl,⟨A9,c9,rfl,aG,nzi⟩,hB⟩;have x1:Ext w w1:=hB;have hA:=aG.its.at_.2.2.2;have hEG:∀b off n c,Value.slice A9 xs.length c9=F (O ⟨b,off,Y⟩) n c->0<n->b<w1.heap.size:=λb off n c e hn=>by simp only[Value.slice.injEq]at e;obtain⟨b6,o6,e6,e7⟩:=hA zO;rw[e.1]at e6;simp only[Option.some.injEq,Addr.mk.injEq]at e6;omega
 replace⟨hEG,nzi,aG,x1⟩:=zH4 hEG nzi aG x1;clear hB;go_wp2_with fail;generalize cO:(Oa w1 _)=w2;have x2:Ext w w2:=cO▸x1.out.trans (zN _ _);have rn2:w2.heap[w1.heap.size]?=O (Z #[h,F A9 xs.length c9] 113):=cO▸zI _ _ _ rfl;have wC:ZO w w2 (F A9 xs.length c9) xs:=cO▸aG.out.ext (zN _ _);have nzi2:NzI w2 (F A9 xs.length c9):=cO▸nzi.out.ext (zN _ _) hEG.out;have hsz:w.heap.size<=w1:=x1.out.size;have aX:w2.heap.size=w1+1:=by rw[<-cO];simp
 have J2:=zH ((HC.out.ext _ _ _ hJ.out x2).1);have K2:=zH (HC.out.kept hJ.out x2);have E2:=zH (HEk.out _ _ hE.out K2.out);have N2:=zH (λb (hb:w.heap.size<=b)=>HC.out.new hJ.out x2 hb);have kn2:=qa rn2;replace⟨wC,nzi2,hsz,aX,rn2,x2⟩:=zH6 wC nzi2 hsz aX rn2 x2;clear cO;go_wp2_with fail;go_loopw [21] (λiv wr=>∃(kk:Nat)(ys:List X3),kk<=xs.length/\iv=.int .i64 (kk:Int)/\ys.map (·.1)=QZ S h (k,i,o) (xs.take kk)/\J (pre++ys) wr/\E wr/\jh M w2 wr) (λiv _=>xs.length-(intOf iv).toNat)
 case atStart=>exact⟨0,[],zO,rfl,by rw[List.take_zero,from_nil];rfl,by rw[List.append_nil];exact J2.out,E2.out,jh.refl _ _⟩
 case round=>
  obtain⟨kk,ys,hk,rfl,gJ,xh,hEr,hKr⟩:=hrel;clear kn2;by_cases hlt:kk<xs.length
  ·have aO:=hlt;obtain⟨b,off,rfl,hb⟩:=hA zO;have cZ:w.heap.size<=b:=Tg wC.out b off xs.length c9 0 rfl zO;have iK:=N2.out b cZ;have yl:b<w2:=by have:=aX.out;omega
   obtain⟨A',c',⟨d0,d1,d2,d3,d4,af⟩,hfr,nY⟩:=its_fct wC.out nzi2.out kk aO;have az:∀j,wr.cell? ⟨b,j,Y⟩=w2.cell? ⟨b,j,Y⟩:=λj=>hKr.cell (p:=⟨b,j,Y⟩) yl iK;rw[<-az]at d0 d1 d2 d3 d4;have hF:FctX M lo (xs[kk],A',c') wr:=FctX.kept ⟨af,hfr.mono HEl.out,λb' o' e _=>N2.out b' (hfr ⟨b',o',Y⟩ _ _ (by rw[show A'=O ⟨b',o',Y⟩from e])),nY⟩ hKr;have hrn:=hKr.row (N2.out _ hsz.out) rn2.out;have ny:=HE.out wr hEr;have rO:=qlV (S:=S) (h:=h) (K:=(k,i,o)) aO;obtain⟨rest,lL⟩:=qjs (S:=S) (h:=h) (K:=(k,i,o)) (xs:=xs) (kk+1);have hlen:=hN.out;rw[<-lL,rO,List.length_append,List.length_append,<-gJ,List.length_map]at hlen;have hTx:=λh' e=>HT.out h' e xs[kk] (List.getElem_mem aO);have hPx:=HP.out kk;have kn:=qa hrn;have kf:=qa ny.f;have zn:w1.heap.size<wr:=(zG.1 hrn).1;have zf:bF<wr:=(zG.1 ny.f).1;replace ny:=zH ny;have HCL:=zH az;clear az af hfr nY iK yl cZ;replace⟨hTx,hPx,rO,lL,hlen,hF⟩:=zH6 hTx hPx rO lL hlen hF;replace⟨gJ,xh,hEr,hKr,hrn⟩:=zH5 gJ xh hEr hKr hrn;rcases Nat.eq_zero_or_pos h with h0|h0
   ·have hh1:((h:Int)==0)=D:=by rw[beq_iff_eq];omega
    have hone:=qlS S (k,i,o) xs[kk];rw[<-h0]at hone;clear hPx hTx HW HP HT;generalize xs[kk]=x at*;replace⟨hone,h0⟩:=zH2 hone h0;have hkx:Qg (qw x) (k,i,o)=vJ x.k x.i x.o k i o:=rfl;rw[hkx]at hone;have HLS:=zH (λW=>VN x.k x.i x.o k i o W);refine(wpIn_wide (n:=3)).1 ?_;generalize vJ x.k x.i x.o k i o=L at*;cases L
    ·replace hone:=zH hone
     gi_wp2_with fail
     refine⟨trivial,(callsIn_wide.2 (HLS.out _)).mono ?_⟩;rintro e w4 ⟨rfl,dM⟩;have xr4:Ext wr w4:=(zN _ _).trans dM;have ky:=qa (qb ny.out.y xr4);have kx:=qa (qb (zI wr _ _ rfl) dM);have J4:=(HC.out.ext _ _ _ xh.out xr4).1;have K4:=HC.out.kept xh.out xr4;obtain⟨fn,tm,asg,bdy,hy,hR⟩:=HC.out.yld (3-1) (pre++ys) (x,A',c') w4 J4 (hF.out.kept K4) (by have:=hlen.out;rw[hone.out]at this;simp at this⊢;omega);replace⟨J4,K4⟩:=zH2 J4 K4
     gi_wp2_with fail
     refine hR.mono ?_;clear hR hy;rintro e w5 (⟨rfl,yc,rY⟩|⟨rfl,oC⟩)
     ·have lG:=K4.out.trans rY;have E5:=HEk.out _ _ hEr.out lG;have xU:(ys++[(x,A',c')]).map (·.1)=QZ S h (k,i,o) (xs.take (kk+1)):=by rw[rO.out,hone.out,List.map_append,gJ.out];simp
      have lV:=zH (IntWalk.wrap64_in ((kk:Int)+1) zO);rw[List.append_assoc]at yc;replace⟨yc,E5,xU,lG⟩:=zH4 yc E5 xU lG;clear rY
      gi_wp2_with fail
      refine⟨⟨kk+1,ys++[(x,A',c')],aO,rfl,xU.out,yc.out,E5.out,hKr.out.trans lG.out⟩,?_⟩;simp[intOf];omega
     rw[List.append_assoc]at oC;have iU:qgK M J Jx pre (QZ S h (k,i,o) xs) w (U (.bool false)) w5:=.inr ⟨rfl,ys++[(x,A',c')],rest,by rw[<-lL.out,rO.out,hone.out,List.map_append,gJ.out];simp,oC⟩;replace iU:=zH iU;clear oC
     gi_wp2_with fail
     exact Gm rfl rfl iU.out
    replace hone:=zH hone
    gi_wp2_with fail
    refine⟨trivial,(callsIn_wide.2 (HLS.out _)).mono ?_⟩;rintro e w4 ⟨rfl,dM⟩;have xr4:Ext wr w4:=(zN _ _).trans dM;have J4:=zH ((HC.out.ext _ _ _ xh.out xr4).1);have K4:=zH (HC.out.kept xh.out xr4);have E4:=zH (HEk.out _ _ hEr.out K4.out);have hy4:ys.map (·.1)=QZ S h (k,i,o) (xs.take (kk+1)):=by rw[rO.out,hone.out,gJ.out];simp
    replace hy4:=zH hy4
    gi_wp2_with fail
    refine⟨λ_ h=>(by cases h),?_⟩
    gi_wp2_with fail
    refine⟨⟨kk+1,ys,aO,rfl,hy4.out,J4.out,E4.out,hKr.out.trans K4.out⟩,?_⟩;simp[intOf];omega
   have hh1:((h:Int)==0)=false:=by rw[beq_eq_false_iff_ne];omega
   obtain⟨h',hh⟩:∃h',h=h'+1:=⟨h-1,zO⟩
   obtain⟨r,hr,iw,mf,zs,hIG,hsz2⟩:=hTx.out h' hh;have hnr:qo S xs[kk].r.toNat=O ((h':Int),zs):=by rw[hr,Int.toNat_natCast];exact hIG
   have hone:=qlT (S:=S) (K:=(k,i,o)) (h:=h') hnr;rw[<-hh]at hone;obtain⟨j,hj⟩:∃j,j=kk+1:=⟨_,rfl⟩
   have hww:=zH (qmQ hj zO);have HDN:=zH (λW (xH:J (pre++ys) W) (hE':E W) (hl:(pre++ys).length+(QZ S h' (k,i,o) zs).length<=N)=>HW.out h' hh r zs (pre++ys) W iw mf hIG hsz2 xH hE' hl);have hll:(pre++ys).length+(QZ S h' (k,i,o) zs).length<=N:=by have:=hlen.out;rw[hone]at this;rw[List.length_append];omega
   generalize hxx:xs[kk]=x at*;rw[hr]at d3;replace⟨hone,h0,hh,hxx,hll,hr⟩:=zH6 hone h0 hh hxx hll hr;replace hIG:=zH hIG;clear hTx HW HT HP hnr hsz2;go_wp2_with fail;generalize iO:(Oa wr _)=wa;have xa:Ext wr wa:=iO▸zN _ _;have ra:wa.heap[wr.heap.size]?=O (Z #[.int .u8 x.k,.int .u32 x.i,.int .u32 x.o,r,F A' x.val.length c'] 51):=iO▸zI _ _ _ rfl;have rna:=qb hrn.out xa;have rfa:=qb ny.out.f xa;have rda:=zH (qb ny.out.d xa);have gN:∀W,Ext wa W->W.cell? (w1,1)=O (F (b,off) xs.length c9):=λW h=>by rw[qa (qb rna h)];rfl
   have gF:∀W,Ext wa W->∀i',W.cell? ⟨bF,i',Y⟩=#[.int .u8 k,.int .u32 i,.int .u32 o][i']?:=λW h=>qa (qb rfa h);replace ra:=zH ra;by_cases hl:j<xs.length
   ·obtain⟨A2',c2',g0,g1,g2,-⟩:=wC.out.its.item j hl;rw[<-HCL.out]at g0 g1 g2;have hAH:Qg (k,i,o) (qw xs[j])=false->QZ S h (k,i,o) [x]=[]:=λhq=>by have:=hPx.out zO (by simpa only[<-hj]using hq);rw[hxx.out]at this;exact this
    have hkp:Qg (k,i,o) (qw xs[j])=vJ k i o xs[j].k xs[j].i xs[j].o:=rfl;rw[hkp]at hAH;generalize xs[j]=y at*;clear hkp;have HL:=zH (λW=>VN k i o y.k y.i y.o W);generalize vJ k i o y.k y.i y.o=L at*;have p0:∀W,Ext wa W->W.cell? (b,off+j*5)=O (.int .u8 y.k):=λW h=>Ext.cell (xa.trans h) g0;have p1:∀W,Ext wa W->W.cell? (b,off+j*5+1)=O (.int .u32 y.i):=λW h=>Ext.cell (xa.trans h) g1;have p2:∀W,Ext wa W->W.cell? (b,off+j*5+2)=O (.int .u32 y.o):=λW h=>Ext.cell (xa.trans h) g2;replace⟨xa,hAH,hj⟩:=zH3 xa hAH hj;clear g0 g1 g2 iO rna rfa kn kf;refine zX (qP [(15,one (.bool L))]) 18 zQ zQ zQ zA1 zQ zQ ?st ?walk
    case st=>exact Zc (by simp only[List.forall_mem_cons];exact⟨ZM _,λ_ h=>by cases h⟩)
    case walk=>
     intro K hK;dsimp only[List.take];have hOA:=hww.out.2;refine zB1 ?_;clear hOA
     first
      |(refine qX (Q (O ⟨b,off+j*5,Y⟩)) zA0 zA0 (λW hW _=>⟨W,?_,Ext.refl W⟩) ?_
        ·go_simp;rw[IntWalk.i64_in (j:Int) zO,if_pos zO];simp
        simp only[Act.put,ql,qf,qc,qg,zA,zB,zC])
      |skip
     refine zB1 ?_;refine QM (one (.bool L)) zA0 zA0 (λW hW _=>?_) (λp=>?_)
     ·refine zl ?_ ((HL.out W).mono λe w' h=>⟨(),h.1,trivial,h.2⟩);go_simp
     cases p;simp only[Act.put,ql,qc,qg,zA,zB,zC];clear p0 p1 p2 HL;cases L
     ·repeat ((first|(refine qX ?_ zA0 zA0 (λW hW _=>⟨W,?_,Ext.refl W⟩) ?_;rotate_left;(go_simp<;>with_reducible rfl))|(refine Qf zA0 ?_));try simp only[Act.put,ql,qf,qc,qg,zA,zB,zC])
      refine ZB (hK _ _ λW hW hF=>?_);clear hF hK;dsimp only[List.drop];have JW:=zH ((HC.out.ext _ _ _ xh.out (xa.out.trans hW)).1);have KW:=zH (HC.out.kept xh.out (xa.out.trans hW));have EW:=zH (HEk.out _ _ hEr.out KW.out);have hyW:ys.map (·.1)=QZ S h (k,i,o) (xs.take (kk+1)):=by rw[rO.out,hAH.out rfl,gJ.out];simp
      replace hyW:=zH hyW;clear hW gN gF;go_wp2_with fail;refine⟨⟨kk+1,ys,aO,rfl,hyW.out,JW.out,EW.out,hKr.out.trans KW.out⟩,?_⟩;have:=hj.out;simp[intOf];omega
     repeat ((first|(refine qX ?_ zA0 zA0 (λW hW _=>⟨W,?_,Ext.refl W⟩) ?_;rotate_left;(go_simp<;>with_reducible rfl))|(refine Qf zA0 ?_));try simp only[Act.put,ql,qf,qc,qg,zA,zB,zC])
     refine ZB (hK _ _ λW hW hF=>?_);clear hF hK;dsimp only[List.drop];have JW:=zH ((HC.out.ext _ _ _ xh.out (xa.out.trans hW)).1);have KW:=zH (HC.out.kept xh.out (xa.out.trans hW));have EW:=zH (HEk.out _ _ hEr.out KW.out);have kd:=qa (qb rda.out hW);have kx:=qa (qb ra.out hW);clear hW gN gF;go_wp2_with fail;refine(HDN.out W JW.out EW.out hll.out).mono ?_;rintro e w5 (⟨rfl,zs',aT,yc,rY⟩|⟨rfl,zs',rest',aT,oC⟩)
     ·have lG:=KW.out.trans rY;have E5:=HEk.out _ _ hEr.out lG;have xU:(ys++zs').map (·.1)=QZ S h (k,i,o) (xs.take (kk+1)):=by rw[rO.out,hone.out,List.map_append,gJ.out,aT]
      rw[List.append_assoc]at yc;replace⟨yc,E5,xU,lG,aT⟩:=zH5 yc E5 xU lG aT;clear rY kd kx;go_wp2_with fail;refine⟨⟨kk+1,ys++zs',aO,rfl,xU.out,yc.out,E5.out,hKr.out.trans lG.out⟩,?_⟩;have:=hj.out;simp[intOf];omega
     rw[List.append_assoc]at oC;have iU:qgK M J Jx pre (QZ S h (k,i,o) xs) w (U (.bool false)) w5:=.inr ⟨rfl,ys++zs',rest'++rest,by rw[<-lL.out,rO.out,hone.out,List.map_append,gJ.out,<-aT];simp,oC⟩;replace⟨iU,aT⟩:=zH2 iU aT;clear oC kd kx;go_wp2_with fail;exact Gm rfl rfl iU.out
   replace⟨xa,hj⟩:=zH2 xa hj;clear iO rna rfa kn kf;refine zX (qP []) 18 zQ zQ zQ zA1 zQ zQ ?st ?walk
   case st=>exact Zc (λ_ h=>by cases h)
   case walk=>
    intro K hK;dsimp only[List.take];have hOA:=hww.out.2;refine zB1 ?_;clear hOA;refine ZB (hK _ _ λW hW hF=>?_);clear hF hK;dsimp only[List.drop];have JW:=zH ((HC.out.ext _ _ _ xh.out (xa.out.trans hW)).1);have KW:=zH (HC.out.kept xh.out (xa.out.trans hW));have EW:=zH (HEk.out _ _ hEr.out KW.out);have kd:=qa (qb rda.out hW);have kx:=qa (qb ra.out hW);clear hW gN gF;go_wp2_with fail;refine(HDN.out W JW.out EW.out hll.out).mono ?_;rintro e w5 (⟨rfl,zs',aT,yc,rY⟩|⟨rfl,zs',rest',aT,oC⟩)
    ·have lG:=KW.out.trans rY;have E5:=HEk.out _ _ hEr.out lG;have xU:(ys++zs').map (·.1)=QZ S h (k,i,o) (xs.take (kk+1)):=by rw[rO.out,hone.out,List.map_append,gJ.out,aT]
     rw[List.append_assoc]at yc;replace⟨yc,E5,xU,lG,aT⟩:=zH5 yc E5 xU lG aT;clear rY kd kx;go_wp2_with fail;refine⟨⟨kk+1,ys++zs',aO,rfl,xU.out,yc.out,E5.out,hKr.out.trans lG.out⟩,?_⟩;have:=hj.out;simp[intOf];omega
    rw[List.append_assoc]at oC;have iU:qgK M J Jx pre (QZ S h (k,i,o) xs) w (U (.bool false)) w5:=.inr ⟨rfl,ys++zs',rest'++rest,by rw[<-lL.out,rO.out,hone.out,List.map_append,gJ.out,<-aT];simp,oC⟩;replace⟨iU,aT⟩:=zH2 iU aT;clear oC kd kx;go_wp2_with fail;exact Gm rfl rfl iU.out
  obtain rfl:kk=xs.length:=zO;rw[List.take_length]at gJ;have iU:qgK M J Jx pre (QZ S h (k,i,o) xs) w (U (.bool D)) wr:=.inl ⟨rfl,ys,gJ,xh,K2.out.trans hKr⟩;replace⟨iU,gJ,xh,hEr,hKr⟩:=zH5 iU gJ xh hEr hKr;go_wp2_with fail;exact Gm rfl rfl iU.out
theorem qhz(S:Sto)(hS:qj S=D)(k i o:Int)(lo l N bB bF bY bD bb:Nat)(M:I->Nat->Prop)(J Jx:List X3->I->Prop)(A1 n1 c1 A2 n2 c2 A3 n3 c3 A4 n4 c4)(E:I->Prop)(HC:Gd lo M J Jx l N)(HE:∀W,E W->EnvX S (k,i,o) M l bB bF bY bD bb (F A1 n1 c1) (F A2 n2 c2) (F A3 n3 c3) (F A4 n4 c4) W)(HEk:∀W W',E W->jh M W W'->E W')(HEl:∀W,E W->lo<=W.heap.size):∀h:Nat,DownC S (k,i,o) M J Jx N bB bF bY bD E h
 |0=>qhA S hS k i o lo l N bB bF bY bD bb M J Jx A1 n1 c1 A2 n2 c2 A3 n3 c3 A4 n4 c4 E HC HE HEk HEl 0 λ_ e=>zO
 |h+1=>qhA S hS k i o lo l N bB bF bY bD bb M J Jx A1 n1 c1 A2 n2 c2 A3 n3 c3 A4 n4 c4 E HC HE HEk HEl (h+1) λh' e=>by obtain rfl:h=h':=zO;exact qhz S hS k i o lo l N bB bF bY bD bb M J Jx A1 n1 c1 A2 n2 c2 A3 n3 c3 A4 n4 c4 E HC HE HEk HEl h
end Go.Proofs.YtmeadnlmepcmbaaGreat
namespace Go.Proofs.YtmeadnlmepcmbaaGreat
open Go.RowKit
set_option maxRecDepth 100000 in
theorem qjC(S:Sto)(hS:qj S=D)(k i o:Int)(lo l N:Nat)(M:I->Nat->Prop)(J Jx:List X3->I->Prop)(A1 n1 c1 A2 n2 c2 A3 n3 c3 A4 n4 c4)(HC:Gd lo M J Jx l N)(bS bF bR:Nat)(w:I)(aQ:lo<=w)(aJ:Qh w lo (F A1 n1 c1) (F A2 n2 c2) (F A3 n3 c3) (F A4 n4 c4) S)(hs:w.heap[bS]?=O (Z #[F A1 n1 c1,F A2 n2 c2,F A3 n3 c3,F A4 n4 c4] 28))(hf:w.heap[bF]?=O (Z #[.int .u8 k,.int .u32 i,.int .u32 o] 49))(a lvl:Nat)(xs:List It)(hr:w.heap[bR]?=O (Z #[(a:Int)] 3))(hnf:¬M w bF)(ha:8<=a)(bC:a<256)(hn:qo S a=O ((lvl:Int),xs))(aK:(qz S lvl xs).isSome=D)(hN:(QZ S lvl (k,i,o) xs).length<=N)(hJ:J [] w):Calls prog 178 #[.func (.yield l) #[] #[],Q bS,Q bF,Q bR] w λe W'=>(∃v,e=U v)/\((∃ys:List X3,ys.map (·.1)=QZ S lvl (k,i,o) xs/\J ys W')\/∃(ys:List X3)(rest:List It),ys.map (·.1)++rest=QZ S lvl (k,i,o) xs/\Jx ys W'):=by
 have HON:=zH (λW (hx:Ext w W)=>qgb A1 n1 c1 A2 n2 c2 A3 n3 c3 A4 n4 c4 S (by have:=(qZ hS).2.2.1;omega) W ((aJ.more aQ).ext hx));have eQ:Qh w lo (F A1 n1 c1) (F A2 n2 n2) (F A3 n3 c3) (F A4 n4 c4) S:=⟨aJ.bs,aJ.ws.clip,aJ.now,aJ.last⟩
 have ks:=qa hs;have zs:bS<w:=(zG.1 hs).1;have zr:bR<w:=(zG.1 hr).1;replace⟨aJ,hf,hr,hnf,hn,aK⟩:=zH6 eQ hf hr hnf hn aK;replace⟨hN,hJ,HC,hS⟩:=zH4 hN hJ HC hS;clear eQ;go_enter func178,ntmps178;go_wp2_with fail;generalize aA:(Oa w _)=w1;have x1:Ext w w1:=aA▸zN _ _;have ry1:w1.heap[w.heap.size]?=O (Z #[.func (.yield l) #[] #[]] 249):=aA▸zI _ _ _ rfl;clear aA;refine(HON.out w1 x1).mono ?_;clear HON;rintro e w2 ⟨u,rfl,⟨bb,A3',c3',rfl,xk,hfr3⟩,hB⟩;have x2:Ext w w2:=x1.trans hB;have ry2:=zH (qb ry1 hB);have hfr:=zH (hfr3.mono x1.size);have hbb:=zH (Nat.le_trans x1.size xk.1);replace xk:=zH xk;have kr2:=qa (qb hr.out x2);have zr2:bR<w2:=Nat.lt_of_lt_of_le zr x2.size;clear hB ry1 x1 ks hfr3;go_wp2_with fail;generalize aP:(Oa (Oa w2 _) _)=w3;have x23:Ext w2 w3:=by rw[<-aP];exact(zN _ _).trans (zN _ _)
 have rb3:w3.heap[w2.heap.size]?=O (Z #[Q bb] 92):=by rw[<-aP];exact(zK _ _ _ zA3).trans (zI _ _ _ rfl)
 have rd3:w3.heap[w2.heap.size+1]?=O (Z #[.func (.func 179) #[] #[Q w2,Q bF,Q w,Q (w2,1,0)]] 250):=aP▸zI _ _ _ zA3;have x3:Ext w w3:=x2.trans x23;have hw2s:=x2.size;have NW:∀b,w.heap.size<=b->¬M w3 b:=λb hb=>HC.out.new hJ.out x3 hb;have hB0:∀W,jh M w3 W->Below lo w3 W:=λW hk=>hk.below (Nat.le_trans aQ x3.size) λb hb hm=>absurd (HC.out.low _ _ hm) zO;have lN:=aJ.out.below (Below.mono x3 aQ);have hBE:Bys w3 w3 (F A3' n3 c3') S.now:=(xk.out.2.2.now.below x23).more x23.size;have hbb3:=qb xk.out.2.1 x23;have ry3:=qb ry2.out x23;have rf3:=qb hf.out x3;have hnf3:¬M w3 bF:=λh=>hnf.out ((HC.out.ext _ _ _ hJ.out x3).2 _ h);have HE:∀W,jh M w3 W->EnvX S (k,i,o) M l w2 bF w (↑w2+1) bb (F A1 n1 c1) (F A2 n2 n2) (F A3' n3 c3') (F A4 n4 c4) W:=λW hk=>by
  have hS4:=lN.below (hB0 W hk);have hsz:lo<=W:=by have:=hk.size;have:=x3.size;omega
  refine⟨hk.row (NW _ zO) rb3,hk.row hnf3 rf3,hk.row (NW _ (zM _)) ry3,hk.row (NW _ zO) rd3,Nat.zero_le _,hk.row (NW _ hbb.out) hbb3,hS4.bs.more hsz,hS4.ws.more hsz,?_,hS4.last.more hsz⟩;exact(hBE.keepF λq hq ⟨A,n,c,e,hb⟩=>hk.cell hq (NW _ (by rw[hb];exact hfr.out A n c e))).more hk.size
 have HD:=qhz S hS.out k i o lo l N w2.heap.size bF w.heap.size (w2.heap.size+1) bb M J Jx A1 n1 c1 A2 n2 n2 A3' n3 c3' A4 n4 c4 (jh M w3) HC.out HE (λW W' h1 h2=>h1.trans h2) (λW hk=>by have:=hk.size;have:=x3.size;omega) lvl
  a xs [] w3 ha bC hn.out aK.out (HC.out.ext _ _ _ hJ.out x3).1 (jh.refl _ _) (by simpa using hN.out)
 refine HD.mono ?_;clear HD HE NW hB0 lN hBE hbb3 ry3 rf3 hnf3 rb3 rd3 aP;rintro e w4 (⟨rfl,ys,hy,hJ4,-⟩|⟨rfl,ys,rest,hy,hJ4⟩)
 ·rw[List.nil_append]at hJ4;replace⟨hJ4,hy⟩:=zH2 hJ4 hy;go_wp2_with fail;go_end0;exact⟨⟨_,rfl⟩,.inl ⟨ys,hy.out,hJ4.out⟩⟩
 rw[List.nil_append]at hJ4;replace⟨hJ4,hy⟩:=zH2 hJ4 hy;go_wp2_with fail;go_end0;exact⟨⟨_,rfl⟩,.inr ⟨ys,rest,hy.out,hJ4.out⟩⟩
end Go.Proofs.YtmeadnlmepcmbaaGreat
