/- Texts Free, Cmp, Code2, Code3, Code4, Crc, Sum, joined. -/
import Derived.Deep.Quiet
import Derived.Test.YtpbniokljofedaaGreatZI01
set_option linter.unusedSimpArgs false
set_option linter.unusedVariables false
set_option maxHeartbeats 8000000
open Go.Proofs.Tryz
namespace Go.Proofs.YtpbniokljofedaaGreat
open Go.RowKit
def Ext (w w':World):Prop:=Below w.heap.size w w'
theorem Ext.refl (w:World):Ext w w:=Below.refl _ _
theorem Ext.trans {a b c:World} (h:Ext a b) (k:Ext b c):Ext a c:=Below.trans h (Below.mono k h.size)
theorem zN (w:World) (o:Obj):Ext w (w.alloc o):=(Below.refl _ _).alloc (zM _) o
theorem Ext.drew (w:World):Ext w w.drew:=(Below.refl _ _).drew
theorem Ext.cell {w w':World} (h:Ext w w') {p:Addr} {v:Value} (hc:w.cell? p=some v):w'.cell? p=some v:=(Below.cell h (World.block_lt_of_cell? w p hc)).trans hc
structure qS where
 α:Type
 f:α->Value
 φ:α->World->Prop
def one (v:Value):qS:=⟨Unit,fun _=>v,fun _ _=>True⟩
def QJ (φ:World->Prop):Prop:=∀ W W',Ext W W'->φ W->φ W'
abbrev qJ:=Nat->World->Prop
def qF (o:Oper):List Nat:=(o.after.toList.filter (Region.binds .any)).map (·.on)
def upd (F:qJ) (i:Nat) (o:Oper) (φ:World->Prop):qJ:=fun k=>if k=i then (fun W=>φ W/\∀ j∈qF o,F j W) else F k
section
variable {P:Program} {ops:Array Oper} {w0:World}
def KJ (P:Program) (W:World) (h:qS):Result Next->Prop
 | .ok (.value u) w'=>∃ p,u=h.f p/\h.φ p w'/\Ext W w'
 | .ok (.enter f args) w'=>Ext W w'/\Calls P f args w' fun e w''=>∃ p,e=.returned (h.f p)/\h.φ p w''/\Ext w' w''
 |_=>False
def jY (P:Program) (o:Oper) (a:Act) (W:World) (h:qS):Prop:=KJ P W h ((execOp a.eval o).run P W)
def UQ (P:Program) (o:Oper) (a:Act) (W:World) (v:Value):Prop:=∃ w',(execOp a.eval o).run P W=.ok (.value v) w'/\Ext W w'
def Vp (P:Program) (ops:Array Oper) (w0:World) (H:Nat->Option qS) (i:Nat) (o:Oper) (a:Act) (F:qJ) (h:qS):Prop:=
 (Region.wanted o (yielded ops a.tmps)=false/\h=one undef) \/
 (Region.wanted o (yielded ops a.tmps)=true/\H i=none/\∃ v,h=one v/\∀ W,Ext w0 W->(∀ k∈qF o,F k W)->UQ P o a W v) \/
 (Region.wanted o (yielded ops a.tmps)=true/\H i=some h/\∀ W,Ext w0 W->(∀ k∈qF o,F k W)->jY P o a W h)
def Cons (w0:World) (F:qJ):Prop:=∃ W,Ext w0 W/\∀ k,F k W
def FOp (P:Program) (ops:Array Oper) (w0:World) (H:Nat->Option qS) (i:Nat) (o:Oper) (K:Act->qJ->Prop) (a:Act) (F:qJ):Prop:=
 ∃ h,Vp P ops w0 H i o a F h/\∀ p,Cons w0 (upd F i o (h.φ p))->K (a.put o.dst (h.f p)) (upd F i o (h.φ p))
def VE (P:Program) (ops:Array Oper) (w0:World) (H:Nat->Option qS) (Q:Act->qJ->Prop):List Oper->Nat->Act->qJ->Prop
 | [],_,a,F=>Q a F
 |o :: rest,k,a,F=>FOp P ops w0 H k o (fun a' F'=>VE P ops w0 H Q rest (k+1) a' F') a F
def qah (P:Program) (ops:Array Oper) (w0:World) (H:Nat->Option qS) (L:Array Bool) (Q:Act->qJ->Prop):Nat->Array Bool->Act->qJ->Prop
 |0,listed,a,F=>listed=L/\Q a F
 |fuel+1,listed,a,F=>Region.ready .any ops listed≠[]/\∀ i∈Region.ready .any ops listed,∀ o,ops[i]?=some o->FOp P ops w0 H i o (qah P ops w0 H L Q fuel (listed.setIfInBounds i true)) a F
theorem qS.same {h h':qS} (e:h=h'):h=h':=e
theorem Vp.unique {H:Nat->Option qS} {i:Nat} {o:Oper} {a:Act} {F:qJ} {h h':qS} (hc:Cons w0 F) (x:Vp P ops w0 H i o a F h) (y:Vp P ops w0 H i o a F h'):h=h':=by
 obtain⟨W,hW,hF⟩:=hc;rcases x with ⟨x1,rfl⟩|⟨x1,x2,v,rfl,x3⟩|⟨x1,x2,x3⟩ <;> rcases y with ⟨y1,rfl⟩|⟨y1,y2,u,rfl,y3⟩|⟨y1,y2,y3⟩
 ·rfl
 ·rw[x1] at y1;cases y1
 ·rw[x1] at y1;cases y1
 ·rw[x1] at y1;cases y1
 ·obtain⟨w1,e1,_⟩:=x3 W hW fun k _=>hF k;obtain⟨w2,e2,_⟩:=y3 W hW fun k _=>hF k;rw[e1] at e2;cases e2;rfl
 ·rw[x2] at y2;cases y2
 ·rw[x1] at y1;cases y1
 ·rw[x2] at y2;cases y2
 ·rw[x2] at y2;cases y2;rfl
theorem Vp.some_ {H:Nat->Option qS} {i:Nat} {o:Oper} {a:Act} {F:qJ} {h:qS} (hc:Cons w0 F) (aH:∀ k,QJ (F k)) (x:Vp P ops w0 H i o a F h):∃ p,Cons w0 (upd F i o (h.φ p)):=by
 obtain⟨W,hW,hF⟩:=hc;have fF:∀ (φ:World->Prop) W',Ext W W'->φ W'->Cons w0 (upd F i o φ):=fun φ W' he hφ=>⟨W',hW.trans he,fun k=>by
  unfold upd;split
  ·exact⟨hφ,fun j _=>aH j _ _ he (hF j)⟩
  ·exact aH k _ _ he (hF k)⟩
 rcases x with ⟨x1,rfl⟩|⟨x1,x2,v,rfl,x3⟩|⟨x1,x2,x3⟩
 ·exact⟨(),fF _ W (Ext.refl W) trivial⟩
 ·exact⟨(),fF _ W (Ext.refl W) trivial⟩
 ·have h3:=x3 W hW fun k _=>hF k;unfold jY at h3;generalize (execOp a.eval o).run P W=r at h3;cases r with
  |ok n w' =>
   cases n <;> simp only[KJ] at h3
   case value u=>obtain⟨p,_,hp,he⟩:=h3;exact⟨p,fF _ w' he hp⟩
   case enter f args =>obtain⟨he,bJ⟩:=h3;obtain⟨e,w'',fr,⟨p,_,hp,lJ⟩,_⟩:=bJ [];exact⟨p,fF _ w'' (he.trans lJ) hp⟩
  |halt x w'=>simp only[KJ] at h3
theorem Vp.move {H:Nat->Option qS} {i j:Nat} {oi oj:Oper} {a:Act} {F:qJ} {h:qS} {v:Value} {φ:World->Prop} (eX:oi.apart ops oj=true) (tu:∀ cs b,oj.op≠.select cs b) (hn:i∉qF oj):Vp P ops w0 H j oj (a.put oi.dst v) (upd F i oi φ) h↔Vp P ops w0 H j oj a F h:=by
 obtain⟨h1,_,_⟩:=Oper.apart_spec eX;have hF:∀ W,(∀ k∈qF oj,upd F i oi φ k W)↔∀ k∈qF oj,F k W:=fun W=>by
  constructor <;> intro hh k hk
  ·have:=hh k hk;unfold upd at this;rwa [if_neg (fun e=>hn (by rw[<-e];exact hk))] at this
  ·unfold upd;rw[if_neg (fun e=>hn (by rw[<-e];exact hk))];exact hh k hk
 unfold Vp UQ jY;rw[wanted_put oj a oi.dst v h1,execOp_put oj tu a oi.dst v h1];simp only[hF]
theorem Vp.move' {H:Nat->Option qS} {i j:Nat} {oi oj:Oper} {a:Act} {F:qJ} {h:qS} {v:Value} {φ:World->Prop} (eX:oi.apart ops oj=true) (wE:∀ cs b,oi.op≠.select cs b) (hn:j∉qF oi):Vp P ops w0 H i oi (a.put oj.dst v) (upd F j oj φ) h↔Vp P ops w0 H i oi a F h:=by
 obtain⟨_,_,h3⟩:=Oper.apart_spec eX;have hF:∀ W,(∀ k∈qF oi,upd F j oj φ k W)↔∀ k∈qF oi,F k W:=fun W=>by
  constructor <;> intro hh k hk
  ·have:=hh k hk;unfold upd at this;rwa [if_neg (fun e=>hn (by rw[<-e];exact hk))] at this
  ·unfold upd;rw[if_neg (fun e=>hn (by rw[<-e];exact hk))];exact hh k hk
 unfold Vp UQ jY;rw[wanted_put oi a oj.dst v h3,execOp_put oi wE a oj.dst v h3];simp only[hF]
theorem JQ (F:qJ) {i j:Nat} {oi oj:Oper} (φ ψ:World->Prop) (aN:i≠j) (h1:i∉qF oj) (h2:j∉qF oi):upd (upd F i oi φ) j oj ψ=upd (upd F j oj ψ) i oi φ:=by
 funext k;unfold upd;by_cases hj:k=j
 ·subst hj;rw[if_pos rfl,if_neg (Ne.symm aN),if_pos rfl];funext W;congr 1;apply propext;constructor <;> intro hh l hl
  ·have:=hh l hl;rwa [if_neg (fun e=>h1 (by rw[<-e];exact hl))] at this
  ·rw[if_neg (fun e=>h1 (by rw[<-e];exact hl))];exact hh l hl
 ·rw[if_neg hj];by_cases hi:k=i
  ·subst hi;rw[if_pos rfl,if_pos rfl];funext W;congr 1;apply propext;constructor <;> intro hh l hl
   ·rw[if_neg (fun e=>h2 (by rw[<-e];exact hl))];exact hh l hl
   ·have:=hh l hl;rwa [if_neg (fun e=>h2 (by rw[<-e];exact hl))] at this
  ·rw[if_neg hi,if_neg hi,if_neg hj]
theorem Xq {F:qJ} (aH:∀ k,QJ (F k)) (i:Nat) (o:Oper) {φ:World->Prop} (hφ:QJ φ):∀ k,QJ (upd F i o φ k):=by
 intro k;unfold upd;split
 ·exact fun W W' he ⟨h1,h2⟩=>⟨hφ W W' he h1,fun j hj=>aH j W W' he (h2 j hj)⟩
 ·exact aH k
theorem Vp.stable {H:Nat->Option qS} (hH:∀ i h,H i=some h->∀ p,QJ (h.φ p)) {i:Nat} {o:Oper} {a:Act} {F:qJ} {h:qS} (x:Vp P ops w0 H i o a F h):∀ p,QJ (h.φ p):=by
 rcases x with ⟨_,rfl⟩|⟨_,_,v,rfl,_⟩|⟨_,x2,_⟩
 ·exact fun _ _ _ _ _=>trivial
 ·exact fun _ _ _ _ _=>trivial
 ·exact hH i h x2
theorem qcx {H:Nat->Option qS} (hH:∀ i h,H i=some h->∀ p,QJ (h.φ p)) {m:Nat} {L:Array Bool} (hL:∀ j,L.getD j true=false->m<=j) {Q:Act->qJ->Prop} {i:Nat} {oi:Oper} (hi:ops[i]?=some oi) (him:i<m) (gZ:∀ (j:Nat) (o:Oper) cs b,ops[j]?=some o->o.op≠.select cs b) (bM:∀ (j:Nat) (o:Oper),ops[j]?=some o->m<=j->∀ k,k<m->k∈qF o) : ∀ (fuel:Nat) (listed:Array Bool) (a:Act) (F:qJ), (∀ j oj,ops[j]?=some oj->j≠i->listed.getD j true=false->(∀ e∈oj.after,Region.binds .any e=true->e.on≠i)->oi.apart ops oj=true) ->
   i∈Region.ready .any ops listed->(∀ k,QJ (F k))->Cons w0 F->(∀ k,listed.getD k true=false->∀ W,F k W) ->
   FOp P ops w0 H i oi (qah P ops w0 H L Q fuel (listed.setIfInBounds i true)) a F->qah P ops w0 H L Q (fuel+1) listed a F:=by
 intro fuel;induction fuel with
 |zero =>
  intro listed a F _ hr aH hc _ dZ;refine⟨fun h=>(by rw[h] at hr;cases hr),fun j hj oj dE=>?_⟩;by_cases hji:j=i
  ·subst hji;rw[hi] at dE;cases dE;exact dZ
  ·exfalso;obtain⟨h,hok,hK⟩:=dZ;obtain⟨p,eU⟩:=hok.some_ hc aH;have hmj:m<=j:=hL j (by rw[<-(hK p eU).1];exact(mem_ready.1 (ready_mono hj hji)).1);obtain⟨_,o',uO,bC⟩:=mem_ready.1 hj;rw[dE] at uO;cases uO;have hin:=bM j oj dE hmj i him;obtain⟨e,he,nX⟩:=List.mem_map.1 hin;rw[List.mem_filter] at he;have h1:=bC e (by simpa using he.1) he.2;have h0:=(mem_ready.1 hr).1;rw[nX] at h1;rcases Nat.lt_or_ge i listed.size with h'|h'
   ·simp[h'] at h0 h1;rw[h0] at h1;cases h1
   ·simp[Array.getElem?_eq_none h'] at h1
 |succ fuel ih =>
  intro listed a F dH hr aH hc lC dZ;refine⟨fun h=>(by rw[h] at hr;cases hr),fun j hj oj dE=>?_⟩;by_cases hji:j=i
  ·subst hji;rw[hi] at dE;cases dE;exact dZ
  ·obtain⟨bY,oj',iM,bC⟩:=mem_ready.1 hj;rw[dE] at iM;cases iM;obtain⟨mO,oi',mW,fV⟩:=mem_ready.1 hr;rw[hi] at mW;cases mW;have bad:∀ k,listed.getD k true=false->listed.getD k false=true->False:=fun k h0 h1=>by
    rcases Nat.lt_or_ge k listed.size with h'|h'
    ·simp[h'] at h0 h1;rw[h0] at h1;cases h1
    ·simp[Array.getElem?_eq_none h'] at h1
   have mQ:∀ e∈oj.after,Region.binds .any e=true->e.on≠i:=fun e he hb nY=>bad i mO (nY ▸ bC e he hb);have mV:∀ e∈oi.after,Region.binds .any e=true->e.on≠j:=fun e he hb nY=>bad j bY (nY ▸ fV e he hb);have iE:i∉qF oj:=fun hin=>by obtain⟨e,he,nX⟩:=List.mem_map.1 hin;rw[List.mem_filter] at he;exact mQ e (by simpa using he.1) he.2 nX
   have rC:j∉qF oi:=fun hin=>by obtain⟨e,he,nX⟩:=List.mem_map.1 hin;rw[List.mem_filter] at he;exact mV e (by simpa using he.1) he.2 nX
   have eX:=dH j oj dE hji bY mQ;have wE:∀ cs b,oi.op≠.select cs b:=fun cs b=>gZ i oi cs b hi;have tu:∀ cs b,oj.op≠.select cs b:=fun cs b=>gZ j oj cs b dE;obtain⟨h2,_⟩:=(Oper.apart_spec eX).2;obtain⟨hI,okI,hKI⟩:=dZ;obtain⟨p0,sS⟩:=okI.some_ hc aH;obtain⟨hJ,wJ,_⟩:=(hKI p0 sS).2 j (ready_mono hj hji) oj dE;have uT:Vp P ops w0 H j oj a F hJ:=(Vp.move eX tu iE).1 wJ;refine⟨hJ,uT,fun q hcq=>?_⟩;have stJ:=uT.stable hH q;have fJ:∀ k ok,ops[k]?=some ok->k≠i->(listed.setIfInBounds j true).getD k true=false ->
     (∀ e∈ok.after,Region.binds .any e=true->e.on≠i)->oi.apart ops ok=true:=fun k ok hk dY mg bT=>by
    refine dH k ok hk dY ?_ bT;by_cases hjk:j=k
    ·subst hjk;exact bY
    ·rw[getD_set_ne true hjk] at mg;exact mg
   refine ih (listed.setIfInBounds j true) _ _ fJ (ready_mono hr (Ne.symm hji)) (Xq aH j oj stJ) hcq ?_ ?_
   ·intro k hk W;by_cases hjk:j=k
    ·subst hjk;exfalso;have hlt:j<listed.size:=by
      rcases Nat.lt_or_ge j listed.size with h'|h'
      ·exact h'
      ·simp[Array.getElem?_eq_none h'] at bY
     simp[hlt] at hk
    ·rw[getD_set_ne true hjk] at hk;have:=lC k hk W;unfold upd;rw[if_neg (fun e=>hjk e.symm)];exact this
   ·refine⟨hI,(Vp.move' eX wE rC).2 okI,fun p eU=>?_⟩;have uf:Cons w0 (upd F i oi (hI.φ p)):=by
     obtain⟨W,hW,hF⟩:=eU;refine⟨W,hW,fun k=>?_⟩;have hk:=hF k;by_cases dY:k=i
     ·subst dY;unfold upd at hk ⊢;rw[if_pos rfl] at hk ⊢;refine⟨hk.1,fun l hl=>?_⟩;have:=hk.2 l hl
      rwa [if_neg (fun e=>rC (by rw[<-e];exact hl))] at this
     ·by_cases hkj:k=j
      ·subst hkj;unfold upd;rw[if_neg dY];exact lC k bY W
      ·unfold upd at hk ⊢;rw[if_neg dY,if_neg hkj] at hk;rw[if_neg dY];exact hk
    obtain⟨yz,wI,uZ⟩:=(hKI p uf).2 j (ready_mono hj hji) oj dE;have mr:Vp P ops w0 H j oj a F yz:=(Vp.move eX tu iE).1 wI;have e:=mr.unique hc uT;subst e;have hq:=uZ q (by rw[JQ F _ _ (Ne.symm hji) iE rC];exact eU);rw[Array.setIfInBounds_comm _ _ (fun e=>hji e.symm),Act.put_comm a (hI.f p) (yz.f q) h2,JQ F _ _ (Ne.symm hji) iE rC] at hq;exact hq
def XL (ops:Array Oper) (L:Array Bool):Nat->Nat->Array Bool->Bool
 |0,_,listed=>listed == L
 |fuel+1,k,listed=>(Region.ready .any ops listed).contains k && Region.free .any ops listed k && XL ops L fuel (k+1) (listed.setIfInBounds k true)
def tailB (ops:Array Oper) (m:Nat):Bool:=(List.range ops.size).all fun j=>decide (j<m) || (List.range m).all fun k=>(match ops[j]? with|some o=>(qF o).contains k|none=>true)
def QK (n m:Nat):Array Bool:=((List.range n).map fun j=>decide (j<m)).toArray
theorem qay {n m:Nat}:∀ j,(QK n m).getD j true=false->m<=j:=by
 intro j h;unfold QK at h;rcases Nat.lt_or_ge j n with h'|h'
 ·simp[h'] at h;exact h
 ·simp[h'] at h
theorem qfP {m:Nat} (h:tailB ops m=true):∀ (j:Nat) (o:Oper),ops[j]?=some o->m<=j->∀ k,k<m->k∈qF o:=by
 intro j o ho hm k hk;have h1:=List.all_eq_true.1 h j (List.mem_range.2 (zG.1 ho).1);rw[Bool.or_eq_true] at h1;rcases h1 with h1|h1
 ·simp at h1;omega
 ·have h2:=List.all_eq_true.1 h1 k (List.mem_range.2 hk);rw[ho] at h2;simpa using h2
theorem qai {H:Nat->Option qS} (hH:∀ i h,H i=some h->∀ p,QJ (h.φ p)) {m:Nat} {L:Array Bool} (hL:∀ j,L.getD j true=false->m<=j) {Q:Act->qJ->Prop} (hs:Region.noSelect ops=true) (bM:∀ (j:Nat) (o:Oper),ops[j]?=some o->m<=j->∀ k,k<m->k∈qF o):∀ (l:List Oper) (k:Nat) (listed:Array Bool) (a:Act) (F:qJ),k+l.length=m->(∀ j,j<l.length->l[j]?=ops[k+j]?) ->
  XL ops L l.length k listed=true->(∀ k,QJ (F k))->Cons w0 F->(∀ j,k<=j->∀ W,F j W)->(∀ j,listed.getD j true=false->k<=j)->VE P ops w0 H Q l k a F->qah P ops w0 H L Q l.length listed a F
 | [],k,listed,a,F,hm,_,hB,_,_,_,_,h=>⟨by simpa [XL] using hB,h⟩
 |o :: l,k,listed,a,F,hm,hl,hB,aH,hc,lC,hlk,h=>by
  have h0:ops[k]?=some o:=by simpa using (hl 0 zA3).symm
  simp only[List.length_cons,XL,Bool.and_eq_true] at hB;obtain⟨⟨hr,hf⟩,iC⟩:=hB;have yH:k∈Region.ready .any ops listed:=by simpa using hr
  have uk:=(mem_ready.1 yH).1;refine qcx hH hL h0 (by simp at hm;omega) (Region.noSelect_spec hs) bM l.length listed a F (Region.free_spec h0 hf) yH aH hc (fun j hj W=>lC j (hlk j hj) W) ?_;obtain⟨hh,hok,hK⟩:=h;refine⟨hh,hok,fun p eU=>?_⟩;refine qai hH hL hs bM l (k+1) _ _ _ (by simp at hm;omega) (fun j hj=>by have:=hl (j+1) (by simpa using hj);simpa [Nat.add_assoc,Nat.add_comm 1 j] using this) iC (Xq aH k o (hok.stable hH p)) eU
   (fun j hj W=>by unfold upd;rw[if_neg zO];exact lC j zO W) (fun j hj=>?_) (hK p eU)
  by_cases hjk:k=j
  ·subst hjk;have hlt:k<listed.size:=by
    rcases Nat.lt_or_ge k listed.size with h'|h'
    ·exact h'
    ·simp[Array.getElem?_eq_none h'] at uk
   simp[hlt] at hj
  ·rw[getD_set_ne true hjk] at hj;have:=hlk j hj;omega
theorem qcz {H:Nat->Option qS} {i:Nat} {o:Oper} {a:Act} {F:qJ} {K:Act->qJ->Prop} {K':Act->World->Prop} {Q':Exit->Act->World->Prop} {W:World} (hi:ops[i]?=some o) (hH:∀ i h,H i=some h->∀ p,QJ (h.φ p)) (aH:∀ k,QJ (F k)) (hW:Ext w0 W) (hF:∀ k,F k W) (hK:∀ a' F' W',K a' F'->(∀ k,QJ (F' k))->Ext w0 W'->(∀ k,F' k W')->K' a' W') (h:FOp P ops w0 H i o K a F):wpOp P ops Q' i K' a W:=by
 obtain⟨hh,hok,hn⟩:=h;have go:∀ p W',Ext W W'->hh.φ p W'->K' (a.put o.dst (hh.f p)) W':=fun p W' he hφ=>by
  have lq:∀ k,upd F i o (hh.φ p) k W':=fun k=>by
   unfold upd;split
   ·exact⟨hφ,fun j _=>aH j _ _ he (hF j)⟩
   ·exact aH k _ _ he (hF k)
  exact hK _ _ W' (hn p ⟨W',hW.trans he,lq⟩) (Xq aH i o (hok.stable hH p)) (hW.trans he) lq
 unfold wpOp;simp only[hi];rcases hok with ⟨x1,rfl⟩|⟨x1,x2,v,rfl,x3⟩|⟨x1,x2,x3⟩
 ·simp only[x1,Bool.false_eq_true,if_false];exact go () W (Ext.refl W) trivial
 ·simp only[x1,if_true];obtain⟨w',hr,he⟩:=x3 W hW fun k _=>hF k;refine .inl ?_;unfold Oper.wp;rw[hr];exact go () w' he trivial
 ·simp only[x1,if_true];have h3:=x3 W hW fun k _=>hF k;refine .inl ?_;unfold jY at h3;unfold Oper.wp;generalize (execOp a.eval o).run P W=r at *;cases r with
  |ok n w' =>
   cases n <;> simp only[KJ] at h3 <;> simp only[Oper.upon]
   case value u =>obtain⟨p,rfl,hp,he⟩:=h3;exact go p w' he hp
   case enter f args =>obtain⟨he,bJ⟩:=h3;refine bJ.mono fun e w'' ⟨p,he1,hp,lJ⟩=>?_;subst he1;exact go p w'' (he.trans lJ) hp
  |halt x w'=>simp only[KJ] at h3
theorem YO {H:Nat->Option qS} (hH:∀ i h,H i=some h->∀ p,QJ (h.φ p)) {L:Array Bool} {t:Nat} {Q:Act->qJ->Prop} {Q':Exit->Act->World->Prop} (hQ:∀ a F W,Q a F->Ext w0 W->(∀ k,F k W)->wpAny P .any ops Q' t L a W) : ∀ (fuel:Nat) (listed:Array Bool) (a:Act) (F:qJ) (W:World),(∀ k,QJ (F k))->Ext w0 W->(∀ k,F k W)->qah P ops w0 H L Q fuel listed a F->wpAny P .any ops Q' (fuel+t) listed a W
 |0,listed,a,F,W,_,hW,hF,h=>by rw[h.1,Nat.zero_add];exact hQ a F W h.2 hW hF
 |fuel+1,listed,a,F,W,aH,hW,hF,h=>by rw[show fuel+1+t=fuel+t+1 by omega];refine⟨fun h0=>absurd h0 h.1,fun i hi=>?_⟩;obtain⟨_,o,ho,_⟩:=mem_ready.1 hi;exact qcz ho hH aH hW hF (fun a' F' W' hk gm ay lq=>YO hH hQ fuel _ a' F' W' gm ay lq hk) (h.2 i hi o ho)
def TJ (ops:Array Oper):Nat->Nat->Array Bool->Bool
 |0,_,listed=>(Region.ready .any ops listed).isEmpty
 |fuel+1,k,listed=>(Region.ready .any ops listed == [k]) && TJ ops fuel (k+1) (listed.setIfInBounds k true)
theorem ky {Q':Exit->Act->World->Prop}:∀ (l:List Oper) (k:Nat) (listed:Array Bool) (a:Act) (W:World),(∀ j,j<l.length->l[j]?=ops[k+j]?)->TJ ops l.length k listed=true->wpList P ops Q' l a W->wpAny P .any ops Q' l.length listed a W
 | [],_,_,_,_,_,hB,h=>⟨by simpa [TJ] using hB,h⟩
 |o :: l,k,listed,a,W,hl,hB,h=>by
  simp only[List.length_cons,TJ,Bool.and_eq_true] at hB;obtain⟨hr,iC⟩:=hB;have lY:Region.ready .any ops listed=[k]:=by simpa using hr
  have h0:ops[k]?=some o:=by simpa using (hl 0 zA3).symm
  refine⟨fun e=>(by rw[lY] at e;cases e),fun i hi=>?_⟩;rw[lY] at hi;obtain rfl:i=k:=by simpa using hi
  have wY:∀ j,j<l.length->l[j]?=ops[i+1+j]?:=fun j hj=>by have:=hl (j+1) (by simpa using hj);simpa [Nat.add_assoc,Nat.add_comm 1 j] using this
  refine wpOp_mono (fun a w hw=>ky l (i+1) _ a w wY iC hw) ?_;unfold wpOp;simp only[h0];exact h
theorem zl {id:Nat} {l:List Oper} {Q:Exit->Act->World->Prop} {a:Act} {w:World} (H:Nat->Option qS) (m:Nat) (hm:P.follows .mixedOrders=true) (hs:Region.noSelect l.toArray=true) (ht:tailB l.toArray m=true) (ut:m<=l.length) (hB:XL l.toArray (QK l.length m) m 0 (Array.replicate l.length false)=true) (mZ:TJ l.toArray (l.drop m).length m (QK l.length m)=true) (hH:∀ i h,H i=some h->∀ p,QJ (h.φ p)) (h:∀ K:Act->qJ->Prop,(∀ a' F',(∀ W,Ext w W->(∀ k,F' k W)->wpList P l.toArray Q (l.drop m) a' W)->K a' F')->VE P l.toArray w H K (l.take m) 0 a (fun _ _=>True)):(Code.region id l.toArray true).wp P Q a w:=by
 have h:=h _ (fun a' F' hh=>hh);refine wp_region_any hm ?_;have hlen:(l.take m).length=m:=by rw[List.length_take];omega
 have key:=qai (w0:=w) hH (qay (n:=l.length)) hs (qfP ht) (l.take m) 0 (Array.replicate l.length false) a (fun _ _=>True) zO
  (fun j hj=>by rw[hlen] at hj;rw[List.getElem?_take,if_pos hj];simp) (by rw[hlen];exact hB) (fun _ _ _ _ _=>trivial) ⟨w,Ext.refl w,fun _=>trivial⟩ (fun _ _ _=>trivial) (fun _ _=>Nat.zero_le _) h
 have:=YO (w0:=w) hH (t:=l.length-m) (Q':=Q) (fun a F W hq hW hF=>by have:=ky (l.drop m) m _ a W (fun j _=>by rw[List.getElem?_drop];simp) mZ (hq W hW hF);rwa [List.length_drop] at this) _ _ _ _ w.drew (fun _ _ _ _ _=>trivial) (Ext.drew w) (fun _=>trivial) key;rw[hlen] at this;have e:m+(l.length-m)=l.length:=zO;rw[e] at this;simpa using this
def qD:List (Nat×qS)->Nat->Option qS
 | [],_=>none
 |(i,h) :: r,k=>if k=i then some h else qD r k
theorem Zb {l:List (Nat×qS)} (h:∀ x∈l,∀ p,QJ (x.2.φ p)):∀ i hh,qD l i=some hh->∀ p,QJ (hh.φ p):=by
 induction l with
 |nil=>intro i hh e;cases e
 |cons x r ih =>
  intro i hh e;obtain⟨j,o⟩:=x;simp only[qD] at e;split at e
  ·cases e;exact h (j,_) (List.mem_cons_self)
  ·exact ih (fun y hy=>h y (List.mem_cons_of_mem _ hy)) i hh e
def Kw (lo n:Nat) (l:List UInt8):qS:=⟨Option Addr×Nat,fun p=>.slice p.1 n p.2,fun p W=>Bys W W.heap.size (.slice p.1 n p.2) l/\Ze lo (.slice p.1 n p.2)⟩
theorem qf (lo n:Nat) (l:List UInt8) (A:Option Addr) (c:Nat):(Kw lo n l).f (A,c)=.slice A n c:=rfl
theorem ql (v:Value) (u:Unit):(one v).f u=v:=rfl
theorem jl (lo n:Nat) (l:List UInt8):∀ p,QJ ((Kw lo n l).φ p):=fun p W W' he h=>⟨(Bys.below h.1 he).more he.size,h.2⟩
theorem KR {base lo n:Nat} {ty:TypeId} {l:List UInt8} {w:World} {e:Ending} {w':World} (h:QV (fun v w'=>w'.ownsRow base ty 1 v n (l.map bv)) w e w') (aP:lo<=base):∃ p,e=.returned ((Kw lo n l).f p)/\(Kw lo n l).φ p w'/\Ext w w':=by
 obtain⟨v,rfl,aB,hB⟩:=h;have hn:l.length=n:=by have:=aB.1;simpa using this
 subst hn;have hf:=(Ze.of_own aB).mono aP;obtain⟨A,c,e,hc,hm,hr⟩:=Bys.of_own aB;subst e;exact⟨(A,c),rfl,⟨⟨A,c,rfl,hc,hm,hr⟩,hf⟩,hB⟩
def jO (lo:Nat) (ty:TypeId) (cs:Array Value):qS:=⟨Nat,fun b=>.pointer (some ⟨b,0,none⟩),fun b W=>W.heap[b]?=some (.cells cs ty (0,0))/\lo<=b⟩
theorem qc (lo:Nat) (ty:TypeId) (cs:Array Value) (b:Nat):(jO lo ty cs).f b=.pointer (some ⟨b,0,none⟩):=rfl
theorem ZX (lo:Nat) (ty:TypeId) (cs:Array Value):∀ p,QJ ((jO lo ty cs).φ p):=fun p W W' he h =>
 ⟨(Below.block he p (zG.1 h.1).1).trans h.1,h.2⟩
def outI (k i o r:Int) (n:Nat) (l:List UInt8):qS:=⟨Option Addr×Nat,fun p=>.agg #[.int .u8 k,.int .u32 i,.int .u32 o,.int .i64 r,.slice p.1 n p.2],fun p W=>Bys W W.heap.size (.slice p.1 n p.2) l⟩
theorem qg (k i o r:Int) (n:Nat) (l:List UInt8) (A:Option Addr) (c:Nat):(outI k i o r n l).f (A,c)=.agg #[.int .u8 k,.int .u32 i,.int .u32 o,.int .i64 r,.slice A n c]:=rfl
theorem qdU (k i o r:Int) (n:Nat) (l:List UInt8):∀ p,QJ ((outI k i o r n l).φ p):=fun p W W' he h=>(Bys.below h he).more he.size
theorem Zw (v:Value):∀ p,QJ ((one v).φ p):=fun _ _ _ _ _=>trivial
theorem Ext.cells {w:World}:∀ W,Ext w W->∀ b o,b<w.heap.size->W.cell? ⟨b,o,none⟩=w.cell? ⟨b,o,none⟩:=fun _ h b o hb=>Below.cell h (p:=⟨b,o,none⟩) hb
theorem QP {o:Oper} {a:Act} {W:World} {hh:qS} {f:FuncId} {args:Array Value} (hr:(execOp a.eval o).run P W=.ok (.enter f args) W) (hc:Calls P f args W fun e w''=>∃ p,e=.returned (hh.f p)/\hh.φ p w''/\Ext W w''):jY P o a W hh:=by
 unfold jY;rw[hr];exact⟨Ext.refl W,hc⟩
theorem qbR {o:Oper} {a:Act} {W w':World} {hh:qS} {u:Value} (hr:(execOp a.eval o).run P W=.ok (.value u) w') (hp:∃ p,u=hh.f p/\hh.φ p w'/\Ext W w'):jY P o a W hh:=by
 unfold jY;rw[hr];exact hp
/-! ### the steps of the walk -/
section
variable {H:Nat->Option qS} {Q:Act->qJ->Prop} {k:Nat} {o:Oper} {rest:List Oper} {a:Act} {F:qJ}
theorem Zp (h:Q a F):VE P ops w0 H Q [] k a F:=h
theorem qM (v:Value) (hw:Region.wanted o (yielded ops a.tmps)=true) (hH:H k=none) (hv:∀ W,Ext w0 W->(∀ j∈qF o,F j W)->UQ P o a W v) (h:VE P ops w0 H Q rest (k+1) (a.put o.dst v) (upd F k o fun _=>True)):VE P ops w0 H Q (o :: rest) k a F:=
 ⟨one v,.inr (.inl ⟨hw,hH,v,rfl,hv⟩),fun _ _=>h⟩
theorem qV (hw:Region.wanted o (yielded ops a.tmps)=false) (h:VE P ops w0 H Q rest (k+1) (a.put o.dst undef) (upd F k o fun _=>True)):VE P ops w0 H Q (o :: rest) k a F:=
 ⟨one undef,.inl ⟨hw,rfl⟩,fun _ _=>h⟩
theorem Qx (hh:qS) (hw:Region.wanted o (yielded ops a.tmps)=true) (hH:H k=some hh) (hv:∀ W,Ext w0 W->(∀ j∈qF o,F j W)->jY P o a W hh) (h:∀ p,VE P ops w0 H Q rest (k+1) (a.put o.dst (hh.f p)) (upd F k o (hh.φ p))):VE P ops w0 H Q (o :: rest) k a F:=
 ⟨hh,.inr (.inr ⟨hw,hH,hv⟩),fun p _=>h p⟩
end
end
def Xx (a b:Int):Int:=if a<b then -1 else if b<a then 1 else 0
def orI (x y z:Int):Int:=if x≠0 then x else if y≠0 then y else z
def VO (k i o k' i' o':Int):Bool:=decide (k<k'\/(k=k'/\(i<i'\/(i=i'/\o<o'))))
theorem qgg {a b:Int} (h:a<b):Xx a b=-1:=if_pos h
theorem qgf {a b:Int} (h:b<a):Xx a b=1:=by unfold Xx;rw[if_neg zO,if_pos h]
theorem qge {a b:Int} (h:b<=a) (h':a<=b):Xx a b=0:=by unfold Xx;rw[if_neg zO,if_neg zO]
theorem or_less (k i o k' i' o':Int):decide (orI (Xx k k') (Xx i i') (Xx o o')<0)=VO k i o k' i' o':=by
 rw[Bool.eq_iff_iff];simp only[VO,decide_eq_true_eq];unfold orI Xx
 repeat' split
 all_goals omega
abbrev keyV (k i o:Int):Value:=.agg #[.int .u8 k,.int .u32 i,.int .u32 o]
theorem qdL (x:Int) (w:World):Calls prog 162 #[.int .u8 x] w (Ret (.bool false) w):=by go_enter func162,ntmps162;go_wp2;go_ret;exact⟨JM zA3,zA5⟩
theorem qbM (x y:Int) (w:World):Calls prog 124 #[.int .u8 x,.int .u8 y] w (Ret (.int .i64 (Xx x y)) w):=by
 go_enter func124,ntmps124;go_wp2_with fail;refine(qdL x _).mono ?_;rintro e w1 ⟨rfl,hB⟩;go_wp2_with fail;refine(qdL y _).mono ?_;rintro e w2 ⟨rfl,lF⟩;have hb:=Below.trans hB (Below.mono lF hB.size);clear hB lF;go_wp2;all_goals go_ret
 all_goals refine⟨Ys ?_,zA5⟩
 all_goals first|exact(qgg (by assumption)).symm|exact(qgf (by assumption)).symm|exact(qge (by assumption) (by assumption)).symm
theorem qbg (x:Int) (w:World):Calls prog 163 #[.int .u32 x] w (Ret (.bool false) w):=by go_enter func163,ntmps163;go_wp2;go_ret;exact⟨JM zA3,zA5⟩
theorem YE (x y:Int) (w:World):Calls prog 125 #[.int .u32 x,.int .u32 y] w (Ret (.int .i64 (Xx x y)) w):=by
 go_enter func125,ntmps125;go_wp2_with fail;refine(qbg x _).mono ?_;rintro e w1 ⟨rfl,hB⟩;go_wp2_with fail;refine(qbg y _).mono ?_;rintro e w2 ⟨rfl,lF⟩;have hb:=Below.trans hB (Below.mono lF hB.size);clear hB lF;go_wp2;all_goals go_ret
 all_goals refine⟨Ys ?_,zA5⟩
 all_goals first|exact(qgg (by assumption)).symm|exact(qgf (by assumption)).symm|exact(qge (by assumption) (by assumption)).symm
theorem or3_any (b:Nat) (t:TypeId) (x y z:Int) (w:World) (h:w.heap[b]?=some (.cells #[.int .i64 x,.int .i64 y,.int .i64 z] t (0,0))):Calls prog 123 #[.slice (some ⟨b,0,none⟩) 3 3] w (Ret (.int .i64 (orI x y z)) w):=by
 have kc:=qa h;clear h;go_enter func123,ntmps123;go_wp2_with fail;refine wp_loop_rounds 4 ?_;rw[rounds_succ];go_wp2;all_goals try (rw[rounds_succ];go_wp2)
 all_goals try (rw[rounds_succ];go_wp2)
 all_goals try (rw[rounds_succ];go_wp2)
 all_goals go_ret
 all_goals refine⟨Ys ?_,zA5⟩
 all_goals simp only[bne_iff_ne,ne_eq,bne_eq_false_iff_eq] at *
 all_goals simp[orI, *]
def qci (ty:TypeId) (cs:Array Value):qS:=⟨Unit×Nat,fun p=>.slice (some ⟨p.2,0,none⟩) cs.size cs.size,fun p W=>W.heap[p.2]?=some (.cells cs ty (0,0))⟩
theorem jn (ty:TypeId) (cs:Array Value) (b:Nat):(qci ty cs).f ((),b)=.slice (some ⟨b,0,none⟩) cs.size cs.size:=rfl
theorem qaC (ty:TypeId) (cs:Array Value):∀ p,QJ ((qci ty cs).φ p):=fun p W W' he h =>
 (Below.block he p.2 (zG.1 h).1).trans h
set_option maxRecDepth 100000 in
theorem KL (k i o k' i' o':Int) (w:World):Calls prog 69 #[keyV k i o,keyV k' i' o'] w (Ret (.bool (VO k i o k' i' o')) w):=by
 rw[<-or_less];have H1:∀ W,_:=fun W=>qbM k k' W;have H2:∀ W,_:=fun W=>YE i i' W;have H3:∀ W,_:=fun W=>YE o o' W;generalize Xx k k'=c1' at *;generalize Xx i i'=c2' at *;generalize Xx o o'=c3' at *;have H4:∀ b t W,_:=fun b t W=>or3_any b t c1' c2' c3' W;generalize orI c1' c2' c3'=eP at *;go_enter func69,ntmps69;go_wp2;generalize aA:(World.alloc (World.alloc _ _) _)=w1;have b1:Ext w w1:=by rw[<-aA];exact(zN _ _).trans (zN _ _)
 have hE:=Ext.cells (w:=w1);have hz:w1.heap.size=w.heap.size+2:=by rw[<-aA];simp
 rw[hz] at hE;have c0:w1.cell? ⟨w.heap.size+0,0,none⟩=some (.int .u8 k):=by rw[<-aA];simp[go_sem]
 have c1:w1.cell? ⟨w.heap.size+0,1,none⟩=some (.int .u32 i):=by rw[<-aA];simp[go_sem]
 have c2:w1.cell? ⟨w.heap.size+0,2,none⟩=some (.int .u32 o):=by rw[<-aA];simp[go_sem]
 have c3:w1.cell? ⟨w.heap.size+1,0,none⟩=some (.int .u8 k'):=by rw[<-aA];simp[go_sem]
 have c4:w1.cell? ⟨w.heap.size+1,1,none⟩=some (.int .u32 i'):=by rw[<-aA];simp[go_sem]
 have c5:w1.cell? ⟨w.heap.size+1,2,none⟩=some (.int .u32 o'):=by rw[<-aA];simp[go_sem]
 simp only[Nat.add_zero] at c0 c1 c2;clear aA;refine zl (qD [(4,one (.int .i64 c1')),(9,one (.int .i64 c2')),(14,one (.int .i64 c3')),(15,qci 3 #[.int .i64 c1',.int .i64 c2',.int .i64 c3']),(16,one (.int .i64 eP))]) 18 zQ zQ zQ zA1 zQ zQ ?st ?walk
 case st=>exact Zb (by simp only[List.forall_mem_cons];exact⟨Zw _,Zw _,Zw _,qaC _ _,Zw _,fun _ h=>by cases h⟩)
 case walk =>
  intro K hK;dsimp only[List.take];repeat ((first|(refine qM ?_ zA0 zA0 (fun W hW _=>⟨W,?_,Ext.refl W⟩) ?_;rotate_left;(go_simp<;>with_reducible rfl))|(refine qV zA0 ?_));try simp only[Act.put,ql,qf,qc,qg,jn,zA,zB,zC])
  refine Qx (one (.int .i64 c1')) zA0 zA0 (fun W hW _=>?_) (fun p=>?_)
  ·refine QP ?_ ((H1 W).mono fun e w' h=>⟨(),h.1,trivial,h.2⟩);go_simp
  cases p;simp only[Act.put,ql,qc,qg,jn,zA,zB,zC];repeat ((first|(refine qM ?_ zA0 zA0 (fun W hW _=>⟨W,?_,Ext.refl W⟩) ?_;rotate_left;(go_simp<;>with_reducible rfl))|(refine qV zA0 ?_));try simp only[Act.put,ql,qf,qc,qg,jn,zA,zB,zC])
  refine Qx (one (.int .i64 c2')) zA0 zA0 (fun W hW _=>?_) (fun p=>?_)
  ·refine QP ?_ ((H2 W).mono fun e w' h=>⟨(),h.1,trivial,h.2⟩);go_simp
  cases p;simp only[Act.put,ql,qc,qg,jn,zA,zB,zC];repeat ((first|(refine qM ?_ zA0 zA0 (fun W hW _=>⟨W,?_,Ext.refl W⟩) ?_;rotate_left;(go_simp<;>with_reducible rfl))|(refine qV zA0 ?_));try simp only[Act.put,ql,qf,qc,qg,jn,zA,zB,zC])
  refine Qx (one (.int .i64 c3')) zA0 zA0 (fun W hW _=>?_) (fun p=>?_)
  ·refine QP ?_ ((H3 W).mono fun e w' h=>⟨(),h.1,trivial,h.2⟩);go_simp
  cases p;simp only[Act.put,ql,qc,qg,jn,zA,zB,zC];repeat ((first|(refine qM ?_ zA0 zA0 (fun W hW _=>⟨W,?_,Ext.refl W⟩) ?_;rotate_left;(go_simp<;>with_reducible rfl))|(refine qV zA0 ?_));try simp only[Act.put,ql,qf,qc,qg,jn,zA,zB,zC])
  refine Qx (qci 3 #[.int .i64 c1',.int .i64 c2',.int .i64 c3']) zA0 zA0 (fun W hW _=>?_) (fun p=>?_)
  ·refine qbR (u:=.slice (some ⟨W.heap.size,0,none⟩) 3 3) (w':=W.alloc (.cells #[.int .i64 c1',.int .i64 c2',.int .i64 c3'] 3)) ?_ ⟨((),W.heap.size),rfl,zI _ _ _ rfl,zN _ _⟩;go_simp
  obtain⟨⟨⟩,p⟩:=p;simp only[Act.put,qf,qc,qg,jn,zA,zB,zC];repeat ((first|(refine qM ?_ zA0 zA0 (fun W hW _=>⟨W,?_,Ext.refl W⟩) ?_;rotate_left;(go_simp<;>with_reducible rfl))|(refine qV zA0 ?_));try simp only[Act.put,ql,qf,qc,qg,jn,zA,zB,zC])
  refine Qx (one (.int .i64 eP)) zA0 zA0 (fun W hW hp=>?_) (fun q=>?_)
  ·have h0:W.heap[p]?=some (Obj.cells #[.int .i64 c1',.int .i64 c2',.int .i64 c3'] 3 (0,0)):=(hp 15 zA1).1;refine QP ?_ ((H4 p _ W h0).mono fun e w' h=>⟨(),h.1,trivial,h.2⟩);go_simp
  cases q;simp only[Act.put,ql,qc,qg,jn,zA,zB,zC];repeat ((first|(refine qM ?_ zA0 zA0 (fun W hW _=>⟨W,?_,Ext.refl W⟩) ?_;rotate_left;(go_simp<;>with_reducible rfl))|(refine qV zA0 ?_));try simp only[Act.put,ql,qf,qc,qg,jn,zA,zB,zC])
  refine Zp (hK _ _ fun W hW hF=>?_);have hb:Below w.heap.size w W:=Below.trans b1 (Below.mono hW zO);clear hE;dsimp only[List.drop];go_wp2;go_ret;exact⟨rfl,zA5⟩
theorem KP (l:List UInt8) (a k:Nat) (hk:k<=4):0<=Za l a k/\Za l a k<4294967296:=by
 unfold Za;split
 ·have h:=GB ((l.drop a).take k);have hl:((l.drop a).take k).length<=4:=zA2;have hp:256 ^ ((l.drop a).take k).length<=256 ^ 4:=Nat.pow_le_pow_right zO hl;omega
 ·omega
theorem Gj (v:Value) (l:List UInt8) (at_:Nat) (ha:at_<1000) (w:World) (h:Bys w w.heap.size v l):Calls prog 139 #[v,.int .i64 (at_:Int)] w (Ret (.tuple #[.int .i64 (Za l at_ 2),.int .i64 (Xl l at_ 2)]) w):=by
 have hb:=KP l at_ 2 zO;have H:∀ W,Ext w W->_:=fun W hW=>qgl v l at_ 2 zO zO ha W ((h.below hW).more hW.size);generalize Za l at_ 2=x at *;generalize Xl l at_ 2=y at *;go_enter func139,ntmps139;go_wp2_with fail;refine(H _ (Ext.refl _)).mono ?_;rintro e w1 ⟨rfl,hB⟩;go_wp2;refine bodyPost_ret (v:=.tuple #[.int .i64 x,.int .i64 y]) ?_ rfl ⟨rfl,zA5⟩;simp[results,results139,go_sem]
theorem Vc (v:Value) (l:List UInt8) (at_:Nat) (ha:at_<1000) (w:World) (h:Bys w w.heap.size v l):Calls prog 136 #[v,.int .i64 (at_:Int)] w (Ret (.tuple #[.int .u32 (Za l at_ 4),.int .i64 (Xl l at_ 4)]) w):=by
 have hb:=KP l at_ 4 zO;have H:∀ W,Ext w W->_:=fun W hW=>qgl v l at_ 4 zO zO ha W ((h.below hW).more hW.size);generalize Za l at_ 4=x at *;generalize Xl l at_ 4=y at *;go_enter func136,ntmps136;go_wp2_with fail;refine(H _ (Ext.refl _)).mono ?_;rintro e w1 ⟨rfl,hB⟩;go_wp2;refine bodyPost_ret (v:=.tuple #[.int .u32 x,.int .i64 y]) ?_ rfl ⟨rfl,zA5⟩;simp[results,results136,go_sem]
theorem Bys.sub {w:World} {B a k:Nat} {b off m c:Nat} {l:List UInt8} (h:Bys w B (.slice (some ⟨b,off,none⟩) m c) l) (hk:a+k<=l.length):Bys w B (.slice (some ⟨b,off+a,none⟩) k (c-a)) ((l.drop a).take k):=by
 obtain⟨A,c',e,hc,hm,hr⟩:=h;cases e;have hl:((l.drop a).take k).length=k:=zA2;refine⟨_,_,by rw[hl],by rw[hl];omega,zO,zA3,fun hn=>?_⟩;obtain⟨b',off',e,hb,aF⟩:=hr.2 zO;injection e with e;injection e with e1 e2
 subst e1;subst e2;refine⟨b,off+a,rfl,hb,fun j u hu=>?_⟩;rw[List.getElem?_map,List.getElem?_take] at hu;split at hu
 ·rw[List.getElem?_drop] at hu;have:=aF (a+j) u (by rw[List.getElem?_map];exact hu)
  rwa [<-Nat.add_assoc] at this
 ·cases hu
theorem Bys.at_ {w:World} {B:Nat} {A:Option Addr} {m c:Nat} {l:List UInt8} (h:Bys w B (.slice A m c) l):m=l.length/\m<=c/\c<=maxLen/\(0<m->∃ b off,A=some ⟨b,off,none⟩/\b<B):=by obtain⟨A',c',e,hc,hm,hr⟩:=h;cases e;refine⟨rfl,hc,hm,fun hn=>?_⟩;obtain⟨b,off,e,hb,_⟩:=hr.2 hn;exact⟨b,off,e,hb⟩
theorem Tryz.info_u8:(Tryz.prog.info? 5).map (fun i=>(i.zero,i.size,i.bytes))=some (some (.int .u8 0),1,1):=zQ
theorem bytes2 (n:Nat) (h:n<65536):(qA n 2).map bv=[.int .u8 ((n:Int) % 256),.int .u8 ((n:Int) / 256)]:=by simp[qA,bv];omega
theorem bytes4 (n:Nat) (h:n<4294967296):(qA n 4).map bv=[.int .u8 ((n:Int) % 256),.int .u8 ((n:Int) / 256 % 256),.int .u8 ((n:Int) / 65536 % 256),.int .u8 ((n:Int) / 16777216)]:=by simp[qA,bv,Nat.div_div_eq_div_mul];omega
def IsB (lo n:Nat) (l:List UInt8) (v:Value) (W:World):Prop:=∃ A c,v=.slice A n c/\Bys W W.heap.size v l/\Ze lo v
theorem IsB.of_own {base n:Nat} {ty:TypeId} {l:List UInt8} {w:World} {v:Value} (h:w.ownsRow base ty 1 v n (l.map bv)):IsB base n l v w:=by
 have hn:l.length=n:=by have:=h.1;simpa using this
 obtain⟨A,c,e,hr⟩:=Bys.of_own h;exact⟨A,c,by rw[e,hn],Bys.of_own h,Ze.of_own h⟩
theorem IsB.new (w:World) (e:TypeId) (l:List UInt8) (lo n:Nat) (hn:n=l.length) (hl:l.length<=maxLen) (aP:lo<=w.heap.size):IsB lo n l (.slice (some ⟨w.heap.size,0,none⟩) n n) (w.alloc (.cells (l.map bv).toArray e)):=by subst hn;refine⟨_,_,rfl,Bys.new w e l hl,fun a n c h=>?_⟩;cases h;exact aP
theorem KE (n:Nat) (hn:n<4294967296) (w:World):Calls prog 108 #[.int .u32 (n:Int)] w (QV (IsB w.heap.size 4 (qA n 4)) w):=by
 have HN:=zH (IsB.new w 5 (qA n 4) w.heap.size 4 (zZ 4 n).symm (by rw[zZ];unfold maxLen;omega) (zM _));rw[bytes4 n hn] at HN;go_enter func108,ntmps108;go_wp2;go_ret;exact⟨_,rfl,HN.out,zA5⟩
def IsB0 (lo n:Nat) (l:List UInt8) (v:Value) (W:World):Prop:=∃ u,v=.tuple #[u,.int .i64 0]/\IsB lo n l u W
theorem qct (n:Nat) (hn:n<65536) (w:World):Calls prog 106 #[.int .i64 (n:Int)] w (QV (IsB0 w.heap.size 2 (qA n 2)) w):=by
 have HN:=zH (IsB.new w 5 (qA n 2) w.heap.size 2 (zZ 2 n).symm (by rw[zZ];unfold maxLen;omega) (zM _));rw[bytes2 n hn] at HN;go_enter func106,ntmps106;go_wp2;refine bodyPost_ret (v:=.tuple #[.slice (some ⟨w.heap.size,0,none⟩) 2 2,.int .i64 0]) ?_ rfl ⟨_,rfl,⟨_,rfl,?_⟩,?_⟩
 ·simp[results,results106,go_sem]
 ·exact HN.out
 ·exact(by repeat' (first|with_reducible exact Below.refl _ _|with_reducible assumption|with_reducible apply Below.drew|with_reducible apply qz|with_reducible refine Below.alloc ?_ ?_ _|with_reducible refine Below.setCell ?_ ?_ _|(simp;done)|(simp;omega)|omega))
def hv (s:Nat):Nat:=(s / 2) ^^^ (if s % 2=1 then 3988292384 else 0)
def hvs:Nat->Nat->Nat
 |0,s=>s
 |k+1,s=>hv (hvs k s)
def Kx (i:Nat):Nat:=hvs 4 i
def kI (s:Nat) (x:UInt8):Nat:=
 let s1:=s ^^^ x.toNat
 let s2:=(s1 / 16) ^^^ Kx (s1 % 16)
 (s2 / 16) ^^^ Kx (s2 % 16)
def UC (l:List UInt8):Nat:=l.foldl kI 4294967295
def crc (l:List UInt8):Nat:=4294967295-UC l
theorem qgQ (l:List UInt8) (x:UInt8):UC (l++[x])=kI (UC l) x:=by simp[UC]
theorem JS {a b:Nat} (ha:a<4294967296) (hb:b<4294967296):a ^^^ b<4294967296:=Nat.xor_lt_two_pow (n:=32) zO zO
theorem hv_lt {s:Nat} (h:s<4294967296):hv s<4294967296:=by unfold hv;refine JS zO ?_;split <;> omega
theorem hvs_lt (k:Nat) {s:Nat} (h:s<4294967296):hvs k s<4294967296:=by
 induction k with
 |zero=>exact h
 |succ k ih=>exact hv_lt ih
theorem US {i:Nat} (h:i<16):Kx i<4294967296:=hvs_lt 4 zO
theorem qeQ {s:Nat} (x:UInt8) (h:s<4294967296):kI s x<4294967296:=by have hx:=x.toNat_lt;unfold kI;refine JS ?_ (US zO);have:(s ^^^ x.toNat) / 16 ^^^ Kx ((s ^^^ x.toNat) % 16)<4294967296:=JS (by have:=JS h (b:=x.toNat) zO;omega) (US zO);omega
theorem qgh (l:List UInt8):UC l<4294967296:=by
 suffices h:∀ (l:List UInt8) s,s<4294967296->l.foldl kI s<4294967296 from h l _ zO
 intro l;induction l with
 |nil=>intro s h;exact h
 |cons x r ih=>intro s h;exact ih _ (qeQ x h)
theorem crc_lt (l:List UInt8):crc l<4294967296:=by unfold crc;omega
theorem UT (n:Nat) (hn:n<4294967296):(BitVec.ofInt 32 (n:Int)).toNat=n:=by simp[BitVec.ofInt_natCast];omega
theorem qeB (n:Nat) (hn:n<4294967296):IntKind.u32.wrap (n:Int)=n:=by simp[IntKind.wrap,IntKind.bits,IntKind.signed];omega
theorem Yz (a b:Nat) (ha:a<4294967296) (hb:b<4294967296):bits .xor .u32 (a:Int) (b:Int)=((a ^^^ b:Nat):Int):=by show IntKind.u32.wrap (((BitVec.ofInt 32 (a:Int) ^^^ BitVec.ofInt 32 (b:Int)).toNat:Nat):Int)=_;rw[BitVec.toNat_xor,UT a ha,UT b hb];exact qeB _ (JS ha hb)
theorem qgc (a b:Nat) (ha:a<4294967296) (hb:b<4294967296):bits .and .u32 (a:Int) (b:Int)=((a &&& b:Nat):Int):=by show IntKind.u32.wrap (((BitVec.ofInt 32 (a:Int) &&& BitVec.ofInt 32 (b:Int)).toNat:Nat):Int)=_;rw[BitVec.toNat_and,UT a ha,UT b hb];refine qeB _ ?_;have:=Nat.and_le_left (n:=a) (m:=b);omega
theorem and_1 (a:Nat) (ha:a<4294967296):bits .and .u32 (a:Int) 1=((a % 2:Nat):Int):=by have:=qgc a 1 ha zO;rw[Nat.and_one_is_mod] at this;exact this
theorem and_15 (a:Nat) (ha:a<4294967296):bits .and .u32 (a:Int) 15=((a % 16:Nat):Int):=by have:=qgc a 15 ha zO;rw[show (15:Nat)=2 ^ 4-1 from rfl,Nat.and_two_pow_sub_one_eq_mod] at this;exact this
theorem xor_all (a:Nat) (ha:a<4294967296):a ^^^ 4294967295=4294967295-a:=by have h:=congrArg BitVec.toNat (BitVec.xor_allOnes (x:=BitVec.ofNat 32 a));rw[BitVec.toNat_xor,BitVec.toNat_allOnes,BitVec.toNat_not,BitVec.toNat_ofNat,Nat.mod_eq_of_lt zO] at h;exact h.trans zO
theorem hv_mul (s:Nat) (hs:s<4294967296):bits .xor .u32 (((s / 2:Nat)):Int) ((3988292384*((s % 2:Nat):Int)) % 4294967296)=((hv s:Nat):Int):=by
 have h:=Nat.mod_two_eq_zero_or_one s;unfold hv;rcases h with h|h
 ·rw[h];exact Yz _ 0 zO zO
 ·rw[h];exact Yz _ 3988292384 zO zO
def KZ (k:Nat):Array Value:=((List.range 16).map fun i=>Value.int .u32 ((if i<k then Kx i else 0:Nat):Int)).toArray
theorem vC (k:Nat):(KZ k).size=16:=by simp[KZ]
theorem UR (k i:Nat) (h:i<16):(KZ k)[i]?=some (.int .u32 ((if i<k then Kx i else 0:Nat):Int)):=by simp[KZ,h]
theorem rowT_set (k:Nat) (h:k<16):(KZ k).setIfInBounds k (.int .u32 (Kx k:Int))=KZ (k+1):=by
 apply Array.ext_getElem?;intro i;by_cases hi:i<16
 ·rw[UR _ _ hi];by_cases hk:k=i
  ·subst hk;simp[vC,h]
  ·rw[Array.getElem?_setIfInBounds_ne hk,UR _ _ hi];congr 3;split <;> split <;> first|rfl|omega
 ·rw[Array.getElem?_eq_none (by simp[vC];omega),Array.getElem?_eq_none (by simp[vC];omega)]
theorem Below.setRow {B g:Nat} {w0 w:World} (hb:Below B w0 w) (hBg:B<=g) (cs:Array Value):Below B w0 (w.setRow g cs):=
 hb.trans ⟨rfl,rfl,rfl,zA3,fun k hk=>setRow_other _ _ _ _ zO⟩
set_option maxRecDepth 100000 in
theorem fold_any (w:World):Calls prog 166 #[] w (Ret (.agg (KZ 16)) w):=by
 have oJ:(Tryz.prog.info? 242).map (·.size)=some (KZ 16).size:=by rw[vC];kernel_rfl
 go_enter func166,ntmps166;go_wp2;generalize aA:(World.alloc _ _)=w1;have r0:w1.heap[w.heap.size]?=some (.cells (KZ 0) 242 (0,0)):=by rw[<-aA];exact zI _ _ _ rfl
 have bD:Below w.heap.size w w1:=by rw[<-aA];exact(by repeat' (first|with_reducible exact Below.refl _ _|with_reducible assumption|with_reducible apply Below.drew|with_reducible apply qz|with_reducible refine Below.alloc ?_ ?_ _|with_reducible refine Below.setCell ?_ ?_ _|(simp;done)|(simp;omega)|omega))
 clear aA;go_loopw [1,2,3] (fun x s i wr=>∃ k:Nat,k<=16/\i=.int .i64 (k:Int)/\wr.heap[w.heap.size]?=some (.cells (KZ k) 242 (0,0))/\Below w.heap.size w wr)
  (fun _ _ i _=>16-(intOf i).toNat)
 case atStart=>exact⟨0,zO,rfl,r0,bD⟩
 case round =>
  obtain⟨k,hk,rfl,aC,hB⟩:=hrel;by_cases hlt:k<16
  ·go_wp2;go_loopw [2,8] (fun s i W=>∃ j:Nat,j<=4/\i=.int .i64 (j:Int)/\s=.int .u32 ((hvs j k:Nat):Int)/\W=wr)
    (fun _ i _=>4-(intOf i).toNat)
   case atStart=>exact⟨0,zO,rfl,rfl,rfl⟩
   case round =>
    obtain⟨j,hj,rfl,rfl,rfl⟩:=hrel;have hs:hvs j k<4294967296:=hvs_lt j zO;have HS:Hid (hvs (j+1) k=hv (hvs j k)):=rfl;have HT:Hid (Kx k=hvs 4 k):=rfl;generalize hq:hvs j k=q at *;by_cases hj4:j<4
    ·have H1:=zH (and_1 q hs);have H2:=zH (hv_mul q hs);go_wp2;go_roundw
     case rel =>refine⟨j+1,zO,by go_num,?_,by first|rfl|trivial⟩;rw[HS.out,<-H2.out,H1.out];simp
     case measure=>simp[intOf];omega
    ·obtain rfl:j=4:=zO;have kx:wr.cell? ⟨w.heap.size,k,none⟩=some (.int .u32 0):=by rw[qa aC,UR _ _ hlt];simp
     have kf:=qe aC;have HR:=zH (rowT_set k hlt);go_wp2;go_roundw
     case rel =>
      refine⟨k+1,zO,by go_num,?_,?_⟩
      ·rw[setCell_eq_setRow _ _ _ _ _ _ _ aC,setRow_heap _ _ _ _ _ _ aC,<-HR.out,HT.out,hq]
      ·exact hB.setCell (p:=⟨w.heap.size,k,none⟩) (zM _) _
     case measure=>simp[intOf];omega
  ·obtain rfl:k=16:=zO;go_wp2_with (first
    |refine wpList_load_row rfl 242 (.tmp 0) rfl w.heap.size rfl _ (KZ 16) (0,0) _ aC underlying242 rfl oJ ?_
    |refine wpList_store_row rfl 242 (.tmp 0) (.tmp 21) rfl w.heap.size (KZ 16) rfl rfl _ (KZ 16) aC oJ rfl (by decide +kernel) ?_)
   exact bodyPost_ret (results_cell_row rfl _ _ w.heap.size _ (KZ 16) (0,0) _ zA0 (setRow_heap _ _ _ _ _ _ aC) underlying242 rfl oJ) rfl ⟨rfl,Below.setRow hB (zM _) _⟩
theorem step32 (s x:Nat) (hs:s<4294967296) (hx:x<256):s ^^^ x<4294967296:=JS hs zO
set_option maxRecDepth 100000 in
theorem qbu (v:Value) (l:List UInt8) (w:World) (h:Bys w w.heap.size v l) (hl:l.length<1099511627776):Calls prog 137 #[v] w (Ret (.int .u32 (crc l:Int)) w):=by
 obtain⟨A,c,rfl,hc,hm,hr⟩:=h;have oJ:(Tryz.prog.info? 242).map (·.size)=some (KZ 16).size:=by rw[vC];kernel_rfl
 have hF:∀ W,_:=fun W=>fold_any W;have HF:=zH hF;clear hF;go_enter func137,ntmps137;go_wp2_with fail;refine(HF.out _).mono ?_;rintro e w1 ⟨rfl,hB⟩;go_wp2_with (refine wpList_store_row rfl 242 (.tmp 3) (.tmp 7) rfl w1.heap.size (KZ 16) rfl rfl _ _ (zI _ _ _ rfl) oJ (by rw[vC];rfl) (by decide +kernel) ?_);generalize dA:(World.setRow _ _ _)=w2;have r2:w2.heap[w1.heap.size]?=some (.cells (KZ 16) 242 (0,0)):=by rw[<-dA];exact setRow_heap _ _ _ _ _ _ (zI _ _ _ rfl)
 have bI:Below w.heap.size w w2:=by rw[<-dA];exact Below.setRow (Below.trans hB ((Below.refl _ _).alloc hB.size _)) hB.size _
 clear dA;have hT:∀ i,i<16->w2.cell? ⟨w1.heap.size,i,none⟩=some (.int .u32 (Kx i:Int)):=fun i hi=>by rw[qa r2,UR _ _ hi,if_pos hi]
 clear r2 oJ;go_loopw [4,10] (fun s i W=>∃ k:Nat,k<=l.length/\i=.int .i64 (k:Int)/\s=.int .u32 (UC (l.take k):Int)/\W=w2)
  (fun _ i _=>l.length-(intOf i).toNat)
 case atStart=>exact⟨0,zO,rfl,by simp[UC],rfl⟩
 case round =>
  obtain⟨k,hk,rfl,rfl,rfl⟩:=hrel;by_cases hlt:k<l.length
  ·have HN:Hid (UC (l.take (k+1))=kI (UC (l.take k)) l[k]):=by rw[List.take_succ_eq_append_getElem hlt,qgQ];exact rfl
   obtain⟨b,off,rfl,hb,aF⟩:=hr.2 zO;have uK:wr.cell? ⟨b,off+k,none⟩=some (bv l[k]):=(bI.cell hb).trans (aF k _ (by rw[List.getElem?_map,zL hlt];rfl));have hs:=qgh (l.take k);generalize UC (l.take k)=s at *;have hx:=l[k].toNat_lt;generalize l[k]=x at *;obtain⟨n,hn⟩:∃ n,n=l.length:=⟨_,rfl⟩
   have H1:=zH (Yz s x.toNat hs zO);have h1:s ^^^ x.toNat<4294967296:=step32 s x.toNat hs zO;have e1:kI s x=(((s ^^^ x.toNat) / 16 ^^^ Kx ((s ^^^ x.toNat) % 16)) / 16) ^^^ Kx (((s ^^^ x.toNat) / 16 ^^^ Kx ((s ^^^ x.toNat) % 16)) % 16):=rfl;generalize s ^^^ x.toNat=s1 at *;have H2:=zH (and_15 s1 h1);have yT:s1 % 16<16:=zO;have c1:=hT _ yT;have t1:=US yT;have H3:=zH (Yz (s1 / 16) (Kx (s1 % 16)) zO t1);have h2:s1 / 16 ^^^ Kx (s1 % 16)<4294967296:=JS zO t1;generalize Kx (s1 % 16)=T1 at *;generalize s1 / 16 ^^^ T1=s2 at *;generalize s1 % 16=i1 at *;have H4:=zH (and_15 s2 h2);have dD:s2 % 16<16:=zO;have c2:=hT _ dD;have t2:=US dD;clear hT;have H5:=zH (Yz (s2 / 16) (Kx (s2 % 16)) zO t2);have h3:s2 / 16 ^^^ Kx (s2 % 16)<4294967296:=JS zO t2;generalize Kx (s2 % 16)=T2 at *;generalize s2 / 16 ^^^ T2=s3 at *;generalize s2 % 16=i2 at *;have q3:((s1 / 16:Nat):Int)=(s1:Int) / 16:=rfl;have q5:((s2 / 16:Nat):Int)=(s2:Int) / 16:=rfl;rw[q3] at H3;rw[q5] at H5;clear q3 q5;have E1:=zH e1;clear e1;go_wp2_with (first|rw[H1.out]|rw[H2.out]|rw[H3.out]|rw[H4.out]|rw[H5.out]);go_roundw
   case rel=>exact⟨k+1,zO,by go_num,by rw[HN.out,E1.out],by first|rfl|trivial⟩
   case measure=>simp[intOf];omega
  ·obtain rfl:k=l.length:=zO;have hs:=qgh (l.take l.length);rw[List.take_length] at hs ⊢;have HS:Hid (bits .xor .u32 IntKind.u32.max (UC l:Int)=(crc l:Int)):=by have h1:=Yz 4294967295 (UC l) zO hs;rw[Nat.xor_comm,xor_all _ hs] at h1;exact h1
   clear hT;go_wp2;all_goals try (exfalso;revert h;decide)
   go_ret;exact⟨Ys HS.out,bI⟩
end Go.Proofs.YtpbniokljofedaaGreat
