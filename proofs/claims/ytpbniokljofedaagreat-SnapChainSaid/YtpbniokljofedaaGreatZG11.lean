/- Texts Ends, Copy, HeapC, FreeC, DoneX, TwinW, Short, joined. -/
import Derived.Laws.CopyRow
import Derived.Laws.IdiomCopy
import Derived.Lib.Walk
import Derived.Test.YtpbniokljofedaaGreatZG01
import Derived.Test.YtpbniokljofedaaGreatZG03
import Derived.Test.YtpbniokljofedaaGreatZG06
import Derived.Test.YtpbniokljofedaaGreatZG10
set_option linter.unusedSimpArgs false
set_option linter.unusedVariables false
set_option maxHeartbeats 8000000
open Go.Proofs.Tryz
namespace Go.Proofs.YtpbniokljofedaaGreat
open Go.RowKit
def qaH (f l:K3) (ys:List It):Prop:=(∃ a r,ys=a :: r/\qo a=f)/\∃ r b,ys=r++[b]/\qo b=l
theorem qaH.one (x:It):qaH (qo x) (qo x) [x]:=⟨⟨x,[],rfl,rfl⟩,[],x,rfl,rfl⟩
theorem qaH.append {f l f' l':K3} {ys zs:List It} (h:qaH f l ys) (h':qaH f' l' zs):qaH f l' (ys++zs):=by obtain⟨⟨a,r,rfl,ha⟩,-⟩:=h;obtain⟨-,r',b,rfl,hb⟩:=h';exact⟨⟨a,_,rfl,ha⟩,(a :: r)++r',b,zA2,hb⟩
theorem XB {one:It->Option (K3×K3)} {acc:Option (Option (K3×K3))} {y:It} {q:Option (K3×K3)} (h:jF one acc y=some q) : ∃ l,one y=some (qo y,l)/\((acc=some none/\q=some (qo y,l))\/∃ f l0,acc=some (some (f,l0))/\qM l0 (qo y)=true/\q=some (f,l)):=by
 unfold jF at h;split at h
 ·cases h
 ·split at h
  ·cases h
  ·rename_i f l ho;split at h
   ·rename_i hf;subst hf;refine⟨l,ho,?_⟩;split at h
    ·cases h;exact .inl ⟨rfl,rfl⟩
    ·rename_i f0 l0;split at h
     ·rename_i hl;cases h;exact .inr ⟨f0,l0,rfl,hl,rfl⟩
     ·cases h
   ·cases h
theorem VQ (S:Sto) (h:Nat) (xs:List It) (y:It):qD S h (xs++[y])=jF (jr S h) (qD S h xs) y:=by unfold qD;rw[List.foldl_append];rfl
theorem UD (xs:List It):xs=[]\/∃ r y,xs=r++[y]:=by
 rcases List.eq_nil_or_concat xs with h|⟨r,y,h⟩
 ·exact .inl h
 ·exact .inr ⟨r,y,by rw[h,List.concat_eq_append]⟩
section
variable {S:Sto} {h:Nat}
theorem Ym (H1:∀ y f l,jr S h y=some (f,l)->qaH f l (qC S h [y])):∀ (n:Nat) (xs:List It),xs.length=n->∀ f l,qD S h xs=some (some (f,l))->qaH f l (qC S h xs)
 |0,xs,hn,f,l,e=>by obtain rfl:=List.eq_nil_of_length_eq_zero hn;cases e
 |n+1,xs,hn,f,l,e=>by
  rcases UD xs with rfl|⟨r,y,rfl⟩
  ·simp at hn
  ·rw[VQ] at e;obtain⟨ly,ho,⟨hGG,hq⟩|⟨f0,l0,hGG,hl,hq⟩⟩:=XB e
   ·have hr:r=[]:=by
     rcases UD r with rfl|⟨r',y',rfl⟩
     ·rfl
     ·exfalso;rw[VQ] at hGG;obtain⟨_,_,⟨_,e2⟩|⟨_,_,_,_,e2⟩⟩:=XB hGG <;> cases e2
    subst hr;cases hq;exact H1 _ _ _ ho
   ·cases hq;have hr:=Ym H1 n r (by simpa using hn) f l0 hGG;rw[Qt];exact hr.append (H1 _ _ _ ho)
end
theorem Uk (S:Sto):∀ (h:Nat) (y:It) (f l:K3),jr S h y=some (f,l)->qaH f l (qC S h [y])
 |0,y,f,l,e=>by
  unfold jr at e;split at e
  ·cases e;exact qaH.one y
  ·cases e
 |h+1,y,f,l,e=>by
  unfold jr at e;split at e
  ·split at e
   ·cases e
   ·rename_i lvl xs hn;split at e
    ·have e':(qD S h xs).getD none=some (f,l):=e;have hs:qD S h xs=some (some (f,l)):=by
      rcases hq:qD S h xs with _|q
      ·rw[hq] at e';cases e'
      ·rw[hq] at e';exact congrArg some e'
     have:=Ym (Uk S h) _ xs rfl f l hs;simp only[qC,List.flatMap_cons,List.flatMap_nil,List.append_nil,hn];exact this
    ·cases e
  ·cases e
theorem qdq {S:Sto} {h:Nat} {xs:List It} {f l:K3} (e:qD S h xs=some (some (f,l))):qaH f l (qC S h xs):=Ym (Uk S h) _ xs rfl f l e
def kQ (S:Sto) (h:Nat) (xs:List It):Prop:=∀ y∈xs,∃ l,jr S h y=some (qo y,l)
theorem qdp {S:Sto} {h:Nat}:∀ (n:Nat) (xs:List It),xs.length=n->(qD S h xs).isSome=true->kQ S h xs
 |0,xs,hn,_=>by obtain rfl:=List.eq_nil_of_length_eq_zero hn;intro y hy;cases hy
 |n+1,xs,hn,e=>by
  rcases UD xs with rfl|⟨r,y,rfl⟩
  ·simp at hn
  ·obtain⟨q,e⟩:=Option.isSome_iff_exists.1 e;rw[VQ] at e;obtain⟨l,ho,ha⟩:=XB e;have hr:(qD S h r).isSome=true:=by rcases ha with ⟨ha,_⟩|⟨_,_,ha,_⟩ <;> rw[ha] <;> rfl
   intro z hz;rcases List.mem_append.1 hz with hz|hz
   ·exact qdp n r (by simpa using hn) hr z hz
   ·rw[List.mem_singleton.1 hz];exact⟨l,ho⟩
theorem qjm {S:Sto} {h:Nat}:∀ (n:Nat) (xs:List It),xs.length=n->kQ S h xs->(qC S h xs).Pairwise (fun a b=>qM (qo a) (qo b)=true)->(qD S h xs).isSome=true
 |0,xs,hn,_,_=>by obtain rfl:=List.eq_nil_of_length_eq_zero hn;rfl
 |n+1,xs,hn,he,hp=>by
  rcases UD xs with rfl|⟨r,y,rfl⟩
  ·simp at hn
  ·rw[Qt] at hp;obtain⟨sD,-,hp3⟩:=List.pairwise_append.1 hp;have hr:=qjm n r (by simpa using hn) (fun z hz=>he z (List.mem_append_left _ hz)) sD;obtain⟨l,ho⟩:=he y zA2;obtain⟨q,hq⟩:=Option.isSome_iff_exists.1 hr;rw[VQ,hq];unfold jF;rw[ho];simp only[if_true];rcases q with _|⟨f0,l0⟩
   ·rfl
   ·obtain⟨-,r1,b,e1,hb⟩:=qdq hq;obtain⟨⟨a,r2,e2,ha⟩,-⟩:=Uk S h y _ _ ho;have hl:qM l0 (qo y)=true:=by rw[<-hb,<-ha];exact hp3 b (by rw[e1];simp) a (by rw[e2];simp)
    simp only[hl,if_true];rfl
theorem ju {S:Sto} {h:Nat} {xs:List It}:(qD S h xs).isSome=true↔kQ S h xs/\(qC S h xs).Pairwise (fun a b=>qM (qo a) (qo b)=true):=
 ⟨fun e=>⟨qdp _ xs rfl e,(VR e).1⟩,fun e=>qjm _ xs rfl e.1 e.2⟩
theorem UA (w:World) (g:Nat) (cs:Array Value):w.grownBy (w.setRow g cs) (some g):=
 ⟨rfl,rfl,rfl,zA2,fun k _ hk=>setRow_other w g k _ (fun e=>hk (by simp[e]))⟩
theorem Uw {P:Program} (W:World) {B:Nat} (dT sT ty elem:TypeId) (g o dLen dCap:Nat) (A:Option Addr) (c:Nat) (l:List UInt8) (cur:Array Value) (t:TypeId) (hu:P.underlying dT=some (.slice elem)) (hs:(P.info? elem).map (·.size)=some 1) (hg:W.heap[g]?=some (.cells cur t (0,0))) (h:Bys W B (.slice A l.length c) l) (hd:l.length<=dLen) (iE:o+l.length<=cur.size) : (Builtin.copy_ #[dT,sT] ty #[.slice (some ⟨g,o,none⟩) dLen dCap,.slice A l.length c]).run P W=.ok (.int .i64 (l.length:Int)) (W.setRow g (cur.toList.take o++l.map bv++cur.toList.drop (o+l.length)).toArray):=by
 obtain⟨A',c',e,hc,hm,hr⟩:=h;simp only[Value.slice.injEq,true_and] at e;obtain⟨rfl,rfl⟩:=e;rcases A with _|ad
 ·have h0:l.length=0:=by
   rcases Nat.eq_zero_or_pos l.length with h0|h0
   ·exact h0
   ·obtain⟨b,off,h,_⟩:=hr.2 h0;cases h
  obtain rfl:l=[]:=List.eq_nil_of_length_eq_zero h0;cases hq:P.info? elem with
  |none=>simp[hq] at hs
  |some i =>
   simp[Builtin.copy_,run_underlying hu,Builtin.lenOf,Builtin.firstCells,sizeOf,typeInfo,hq,storeCells];rw[setRow_self W g cur t (0,0) hg];exact⟨rfl,rfl⟩
 ·have ig:∀ j v,(l.map bv)[j]?=some v->W.cell? (ad.add j)=some v:=by
   intro j v hv;rcases Nat.eq_zero_or_pos l.length with h0|h0
   ·obtain rfl:l=[]:=List.eq_nil_of_length_eq_zero h0;simp at hv
   ·obtain⟨b,off,h,_⟩:=hr.2 h0;cases h;exact hr.adds h0 j v hv
  have:=run_copy_row P W dT sT ty elem g o dLen dCap ad l.length c cur t (l.map bv) hu hs hg (by simp[Nat.min_eq_left hd]) ig (by simpa using iE) (TG l);rw[List.length_map] at this;exact this
def ZX (cur:Array Value) (o:Nat) (l:List UInt8):Array Value:=(cur.toList.take o++l.map bv++cur.toList.drop (o+l.length)).toArray
theorem GL {cur:Array Value} {o:Nat} {l:List UInt8} (h:o+l.length<=cur.size):(ZX cur o l).size=cur.size:=by simp[ZX];omega
theorem qhx {cur:Array Value} {o:Nat} {l:List UInt8} {j:Nat} (h:o+l.length<=cur.size) (hj:j<o\/o+l.length<=j):(ZX cur o l)[j]?=cur[j]?:=by
 unfold ZX;rw[List.getElem?_toArray];have ai:cur.toList.length=cur.size:=zA2;rcases hj with hj|hj
 ·rw[List.append_assoc,List.getElem?_append_left (by rw[List.length_take];omega),List.getElem?_take,if_pos hj];simp
 ·rw[List.getElem?_append_right (by rw[List.length_append,List.length_take,List.length_map];omega),List.getElem?_drop,List.length_append,List.length_take,List.length_map,ai];rw[show o+l.length+(j-(min o cur.size+l.length))=j by omega];simp
theorem qhw {cur:Array Value} {o:Nat} {l:List UInt8} {j:Nat} {u:Value} (h:o+l.length<=cur.size) (hu:(l.map bv)[j]?=some u):(ZX cur o l)[o+j]?=some u:=by
 have hj:j<l.length:=by have:=(List.getElem?_eq_some_iff.1 hu).1;simpa using this
 have ai:cur.toList.length=cur.size:=zA2;unfold ZX;rw[List.getElem?_toArray,List.append_assoc,List.getElem?_append_right (by rw[List.length_take];omega),List.length_take,ai,show o+j-min o cur.size=j by omega,List.getElem?_append_left (by rw[List.length_map];exact hj)];exact hu
structure qcz (hb g o n:Nat) (cur:Array Value) (w:World):Prop where
 box:w.heap[hb]?=some (.cells #[.slice (some ⟨g,o,none⟩) n n] 257 (0,0))
 row:w.heap[g]?=some (.cells cur 5 (0,0))
 ne:hb≠g
 fit:o+n<=cur.size
 few:n<1000000000000000
def CloneQ (hb g o n:Nat) (cur:Array Value) (l:List UInt8) (w:World) (e:Ending) (w':World):Prop:=∃ o',e=.returned (.slice (some ⟨g,o,none⟩) l.length l.length)/\(0<n-l.length->o'=o+l.length)/\(n-l.length=0->o'=o)/\qcz hb g o' (n-l.length) (ZX cur o l) w' /\
 (w'.heap.size=w.heap.size/\w'.os=w.os/\w'.tape=w.tape/\w'.output=w.output/\∀ b,b≠hb->b≠g->w'.heap[b]?=w.heap[b]?)
set_option maxRecDepth 100000 in
theorem qbb (hb g o n:Nat) (cur:Array Value) (A:Option Addr) (c:Nat) (l:List UInt8) (hl:l.length<=n) (w:World) (H:qcz hb g o n cur w) (h:Bys w w.heap.size (.slice A l.length c) l):Calls prog 180 #[.pointer (some ⟨hb,0,none⟩),.slice A l.length c] w (CloneQ hb g o n cur l w):=by
 have hsz:(Tryz.prog.info? 5).map (·.size)=some 1:=zQ;obtain⟨r1,r2,aG,iE,uI⟩:=H;have eQ:=Uw (P:=prog) w 257 26 3 5 g o n n A c l _ _ underlying257 hsz r2 h hl zO;have e1:(List.take o cur.toList++List.map bv l++List.drop (o+l.length) cur.toList).toArray=ZX cur o l:=rfl;rw[e1] at eQ;have r3:(w.setRow g (ZX cur o l)).heap[hb]?=some (.cells #[.slice (some ⟨g,o,none⟩) n n] 257 (0,0)):=(setRow_other w g hb _ aG).trans r1;have r4:=setRow_heap w g _ (ZX cur o l) _ _ r2;have h3:∀ b,b≠g->(w.setRow g (ZX cur o l)).heap[b]?=w.heap[b]?:=fun b hb=>setRow_other w g b _ hb;have s3:(w.setRow g (ZX cur o l)).heap.size=w.heap.size:=zA2;have o3:(w.setRow g (ZX cur o l)).os=w.os/\(w.setRow g (ZX cur o l)).tape=w.tape/\(w.setRow g (ZX cur o l)).output=w.output:=⟨rfl,rfl,rfl⟩
 generalize w.setRow g (ZX cur o l)=w3 at *;have k1:=qa r1;have k3:=qa r3;have f3:=qe r3;clear h r1 r2 hsz e1;replace h3:=zH h3;replace r4:=zH r4;replace o3:=zH o3;have hll:=zH hl;have dV:(l.length:Int)<=(n:Int):=zO;have fin:Hid (∀ o' n',n'=n-l.length->(0<n'->o'=o+l.length)->(n'=0->o'=o)->CloneQ hb g o n cur l w (.returned (.slice (some ⟨g,o,none⟩) l.length l.length)) (w3.setCell ⟨hb,0,none⟩ (.slice (some ⟨g,o',none⟩) n' n'))):=zH fun o' n' e h1 h2=>by
  subst e;refine⟨o',rfl,h1,h2,⟨qi r3 0 _,(zJ _ _ _ _ (fun e=>aG e.symm)).trans r4.out,aG,?_,zO⟩,by simpa using s3,o3.out.1,o3.out.2.1,o3.out.2.2,fun b hb hbg=>(zJ _ _ _ _ hb).trans (h3.out b hbg)⟩;rw[GL zO];rcases Nat.eq_zero_or_pos (n-l.length) with h0|h0
  ·have:=h2 h0;omega
  ·have:=h1 h0;omega
 clear r3 r4 h3 o3 iE;go_enter func180,ntmps180;go_wp2_with fail
 ·subst h;go_ret;exact fin.out o 0 zO (fun h=>zO) (fun _=>rfl)
 ·go_ret;exact fin.out (o+l.length) (n-l.length) rfl (fun _=>rfl) (fun h=>zO)
section
variable {R0 R:Rel} {c:Nat}
def preC (R0 R:Rel) (c i:Nat):Rel:=if i=c then R0 else R
def qaq (R0 R:Rel) (c i:Nat):Rel:=if i=c then R else R0
section
variable {P:Program} {ops:Array Oper} {w0:World}
def jJ (R0 R:Rel) (c:Nat) (P:Program) (ops:Array Oper) (w0:World) (H:Nat->Option Qa) (i:Nat) (o:Oper) (a:Act) (F:qP) (h:Qa):Prop:=
 (Region.wanted o (yielded ops a.tmps)=false/\h=one undef) \/
 (Region.wanted o (yielded ops a.tmps)=true/\H i=none/\∃ v,h=one v/\∀ W,(preC R0 R c i).r w0 W->(∀ k∈qL o,F k W)->vQ (qaq R0 R c i) P o a W v) \/
 (Region.wanted o (yielded ops a.tmps)=true/\H i=some h/\∀ W,(preC R0 R c i).r w0 W->(∀ k∈qL o,F k W)->QK (qaq R0 R c i) P o a W h)
def Gs (R0 R:Rel) (c:Nat) (w0:World) (listed:Array Bool) (F:qP):Prop:=∃ W,R.r w0 W/\(listed.getD c true=false->R0.r w0 W)/\∀ k,F k W
def FOpC (R0 R:Rel) (c:Nat) (P:Program) (ops:Array Oper) (w0:World) (H:Nat->Option Qa) (listed:Array Bool) (i:Nat) (o:Oper) (K:Act->qP->Prop) (a:Act) (F:qP):Prop:=
 ∃ h,jJ R0 R c P ops w0 H i o a F h/\∀ p,Gs R0 R c w0 (listed.setIfInBounds i true) (upd F i o (h.φ p))->K (a.put o.dst (h.f p)) (upd F i o (h.φ p))
def Jq (R0 R:Rel) (c:Nat) (P:Program) (ops:Array Oper) (w0:World) (H:Nat->Option Qa) (Q:Act->qP->Prop):List (Nat×Oper)->Array Bool->Act->qP->Prop
 | [],_,a,F=>Q a F
 |(k,o) :: rest,listed,a,F=>FOpC R0 R c P ops w0 H listed k o (fun a' F'=>Jq R0 R c P ops w0 H Q rest (listed.setIfInBounds k true) a' F') a F
def UI (R0 R:Rel) (c:Nat) (P:Program) (ops:Array Oper) (w0:World) (H:Nat->Option Qa) (L:Array Bool) (Q:Act->qP->Prop):Nat->Array Bool->Act->qP->Prop
 |0,listed,a,F=>listed=L/\Q a F
 |fuel+1,listed,a,F=>Region.ready .any ops listed≠[]/\∀ i∈Region.ready .any ops listed,∀ o,ops[i]?=some o->FOpC R0 R c P ops w0 H listed i o (UI R0 R c P ops w0 H L Q fuel (listed.setIfInBounds i true)) a F
theorem qej {listed:Array Bool} {i:Nat} {W:World} (hi:listed.getD i true=false) (h:R.r w0 W) (h0:listed.getD c true=false->R0.r w0 W):(preC R0 R c i).r w0 W:=by
 unfold preC;split
 ·rename_i e;subst e;exact h0 hi
 ·exact h
theorem qjn (hle:∀ a b,R0.r a b->R.r a b) {i:Nat} {W W':World} (h:(qaq R0 R c i).r W W'):R.r W W':=by
 unfold qaq at h;split at h
 ·exact h
 ·exact hle _ _ h
theorem stpC_0 {listed:Array Bool} {i:Nat} {W W':World} (hi:listed.getD i true=false) (h:(qaq R0 R c i).r W W') (hc:(listed.setIfInBounds i true).getD c true=false):R0.r W W':=by
 unfold qaq at h;split at h
 ·rename_i e;subst e;exfalso;rcases Nat.lt_or_ge i listed.size with h'|h'
  ·simp[h'] at hc
  ·simp[Array.getElem?_eq_none h'] at hi
 ·exact h
theorem unset {listed:Array Bool} {i c:Nat} (hc:(listed.setIfInBounds i true).getD c true=false):listed.getD c true=false:=by
 by_cases e:i=c
 ·subst e;rcases Nat.lt_or_ge i listed.size with h'|h'
  ·simp[h'] at hc
  ·simp at hc
 ·rwa [getD_set_ne true e] at hc
def Void (c:Nat) (listed:Array Bool) (F:qP):Prop:=listed.getD c true=false->∀ k W,F k W
theorem keepC {listed:Array Bool} {F:qP} {i:Nat} {W W':World} (hi:listed.getD i true=false) (aI:∀ k,qJ R0 (F k)) (hv:Void c listed F) (h:(qaq R0 R c i).r W W') (k:Nat) (hF:F k W):F k W':=by
 unfold qaq at h;split at h
 ·rename_i e;subst e;exact hv hi k W'
 ·exact aI k _ _ h hF
theorem jJ.unique {H:Nat->Option Qa} {listed:Array Bool} {i:Nat} {o:Oper} {a:Act} {F:qP} {h h':Qa} (hc:Gs R0 R c w0 listed F) (hi:listed.getD i true=false) (x:jJ R0 R c P ops w0 H i o a F h) (y:jJ R0 R c P ops w0 H i o a F h'):h=h':=by
 obtain⟨W,hW,rM,hF⟩:=hc;have hW:=qej hi hW rM;rcases x with ⟨x1,rfl⟩|⟨x1,x2,v,rfl,x3⟩|⟨x1,x2,x3⟩ <;> rcases y with ⟨y1,rfl⟩|⟨y1,y2,u,rfl,y3⟩|⟨y1,y2,y3⟩
 ·rfl
 ·rw[x1] at y1;cases y1
 ·rw[x1] at y1;cases y1
 ·rw[x1] at y1;cases y1
 ·obtain⟨w1,e1,_⟩:=x3 W hW fun k _=>hF k;obtain⟨w2,e2,_⟩:=y3 W hW fun k _=>hF k;rw[e1] at e2;cases e2;rfl
 ·rw[x2] at y2;cases y2
 ·rw[x1] at y1;cases y1
 ·rw[x2] at y2;cases y2
 ·rw[x2] at y2;cases y2;rfl
theorem jJ.some_ (hle:∀ a b,R0.r a b->R.r a b) {H:Nat->Option Qa} {listed:Array Bool} {i:Nat} {o:Oper} {a:Act} {F:qP} {h:Qa} (hc:Gs R0 R c w0 listed F) (hi:listed.getD i true=false) (aI:∀ k,qJ R0 (F k)) (hv:Void c listed F) (x:jJ R0 R c P ops w0 H i o a F h):∃ p,Gs R0 R c w0 (listed.setIfInBounds i true) (upd F i o (h.φ p)):=by
 obtain⟨W,hW,rM,hF⟩:=hc;have fM:∀ (φ:World->Prop) W',(qaq R0 R c i).r W W'->φ W'->Gs R0 R c w0 (listed.setIfInBounds i true) (upd F i o φ):=fun φ W' he hφ=>⟨W',R.trans hW (qjn hle he),fun h=>R0.trans (rM (unset h)) (stpC_0 hi he h),fun k=>by
  unfold upd;split
  ·exact⟨hφ,fun j _=>keepC hi aI hv he j (hF j)⟩
  ·exact keepC hi aI hv he k (hF k)⟩
 have hW:=qej hi hW rM;rcases x with ⟨x1,rfl⟩|⟨x1,x2,v,rfl,x3⟩|⟨x1,x2,x3⟩
 ·exact⟨(),fM _ W (Rel.refl _ W) trivial⟩
 ·obtain⟨w',_,he⟩:=x3 W hW fun k _=>hF k;exact⟨(),fM _ w' he trivial⟩
 ·have h3:=x3 W hW fun k _=>hF k;unfold QK at h3;generalize (execOp a.eval o).run P W=r at h3;cases r with
  |ok n w' =>
   cases n <;> simp only[ZW] at h3
   case value u=>obtain⟨p,_,hp,he⟩:=h3;exact⟨p,fM _ w' he hp⟩
   case skip=>obtain⟨p,_,hp,he⟩:=h3;exact⟨p,fM _ w' he hp⟩
   case enter f args =>obtain⟨he,ai⟩:=h3;obtain⟨e,w'',fr,⟨p,_,hp,fJ⟩,_⟩:=ai [];exact⟨p,fM _ w'' (Rel.trans _ he fJ) hp⟩
  |halt x w'=>simp only[ZW] at h3
theorem jJ.move {H:Nat->Option Qa} {i j:Nat} {oi oj:Oper} {a:Act} {F:qP} {h:Qa} {v:Value} {φ:World->Prop} (dm:oi.apart ops oj=true) (uj:∀ cs b,oj.op≠.select cs b) (hn:i∉qL oj):jJ R0 R c P ops w0 H j oj (a.put oi.dst v) (upd F i oi φ) h↔jJ R0 R c P ops w0 H j oj a F h:=by
 obtain⟨h1,_,_⟩:=Oper.apart_spec dm;have hF:∀ W,(∀ k∈qL oj,upd F i oi φ k W)↔∀ k∈qL oj,F k W:=fun W=>by
  constructor <;> intro hh k hk
  ·have:=hh k hk;unfold upd at this;rwa [if_neg (fun e=>hn (by rw[<-e];exact hk))] at this
  ·unfold upd;rw[if_neg (fun e=>hn (by rw[<-e];exact hk))];exact hh k hk
 unfold jJ vQ QK;rw[wanted_put oj a oi.dst v h1,execOp_put oj uj a oi.dst v h1];simp only[hF]
theorem jJ.move' {H:Nat->Option Qa} {i j:Nat} {oi oj:Oper} {a:Act} {F:qP} {h:Qa} {v:Value} {φ:World->Prop} (dm:oi.apart ops oj=true) (xP:∀ cs b,oi.op≠.select cs b) (hn:j∉qL oi):jJ R0 R c P ops w0 H i oi (a.put oj.dst v) (upd F j oj φ) h↔jJ R0 R c P ops w0 H i oi a F h:=by
 obtain⟨_,_,h3⟩:=Oper.apart_spec dm;have hF:∀ W,(∀ k∈qL oi,upd F j oj φ k W)↔∀ k∈qL oi,F k W:=fun W=>by
  constructor <;> intro hh k hk
  ·have:=hh k hk;unfold upd at this;rwa [if_neg (fun e=>hn (by rw[<-e];exact hk))] at this
  ·unfold upd;rw[if_neg (fun e=>hn (by rw[<-e];exact hk))];exact hh k hk
 unfold jJ vQ QK;rw[wanted_put oi a oj.dst v h3,execOp_put oi xP a oj.dst v h3];simp only[hF]
theorem jJ.stable {H:Nat->Option Qa} (hH:∀ i h,H i=some h->∀ p,qJ R0 (h.φ p)) {i:Nat} {o:Oper} {a:Act} {F:qP} {h:Qa} (x:jJ R0 R c P ops w0 H i o a F h):∀ p,qJ R0 (h.φ p):=by
 rcases x with ⟨_,rfl⟩|⟨_,_,v,rfl,_⟩|⟨_,x2,_⟩
 ·exact fun _ _ _ _ _=>trivial
 ·exact fun _ _ _ _ _=>trivial
 ·exact hH i h x2
theorem jJ.void {H:Nat->Option Qa} (hone:∀ i h,H i=some h->i=c) {listed:Array Bool} {i:Nat} {o:Oper} {a:Act} {F:qP} {h:Qa} (hv:Void c listed F) (x:jJ R0 R c P ops w0 H i o a F h) (p:h.α):Void c (listed.setIfInBounds i true) (upd F i o (h.φ p)):=by
 intro hc k W;have ai:=hv (unset hc);unfold upd;split
 ·refine⟨?_,fun j _=>ai j W⟩;rcases x with ⟨_,rfl⟩|⟨_,_,v,rfl,_⟩|⟨_,x2,_⟩
  ·trivial
  ·trivial
  ·exfalso;have e:=hone i h x2;subst e;rcases Nat.lt_or_ge i listed.size with h'|h'
   ·simp[h'] at hc
   ·simp at hc
 ·exact ai k W
theorem qcu (hle:∀ a b,R0.r a b->R.r a b) {H:Nat->Option Qa} (hone:∀ i h,H i=some h->i=c) (hH:∀ i h,H i=some h->∀ p,qJ R0 (h.φ p)) {A:Nat->Prop} {Cl:Array Bool->Prop} {L:Array Bool} {Q:Act->qP->Prop} {i:Nat} {oi:Oper} (hi:ops[i]?=some oi) (him:A i) (iL:∀ (j:Nat) (o:Oper) cs b,ops[j]?=some o->o.op≠.select cs b) (ai:∀ listed j,Cl listed->j∈Region.ready .any ops listed->Cl (listed.setIfInBounds j true)) (bJ:∀ (listed:Array Bool) (j:Nat),Cl listed->j∈Region.ready .any ops listed->L.getD j true=false->∀ k,A k->listed.getD k false=true) : ∀ (fuel:Nat) (listed:Array Bool) (a:Act) (F:qP),Cl listed -> (∀ j oj,ops[j]?=some oj->j≠i->listed.getD j true=false->(∀ e∈oj.after,Region.binds .any e=true->e.on≠i)->oi.apart ops oj=true) ->
   i∈Region.ready .any ops listed->(∀ k,qJ R0 (F k))->Gs R0 R c w0 listed F->Void c listed F->(∀ k,listed.getD k true=false->∀ W,F k W) ->
   FOpC R0 R c P ops w0 H listed i oi (UI R0 R c P ops w0 H L Q fuel (listed.setIfInBounds i true)) a F->UI R0 R c P ops w0 H L Q (fuel+1) listed a F:=by
 intro fuel;induction fuel with
 |zero =>
  intro listed a F yN _ hr aI hc mM _ dh;refine⟨fun h=>(by rw[h] at hr;cases hr),fun j hj oj dE=>?_⟩;by_cases hji:j=i
  ·subst hji;rw[hi] at dE;cases dE;exact dh
  ·exfalso;obtain⟨h,hok,hK⟩:=dh;obtain⟨p,eQ⟩:=hok.some_ hle hc (mem_ready.1 hr).1 aI mM;have hmj:L.getD j true=false:=by rw[<-(hK p eQ).1];exact(mem_ready.1 (ready_mono hj hji)).1
   have h1:=bJ listed j yN hj hmj i him;have h0:=(mem_ready.1 hr).1;rcases Nat.lt_or_ge i listed.size with h'|h'
   ·simp[h'] at h0 h1;rw[h0] at h1;cases h1
   ·simp[Array.getElem?_eq_none h'] at h1
 |succ fuel ih =>
  intro listed a F yN dF hr aI hc mM lM dh;refine⟨fun h=>(by rw[h] at hr;cases hr),fun j hj oj dE=>?_⟩;by_cases hji:j=i
  ·subst hji;rw[hi] at dE;cases dE;exact dh
  ·obtain⟨bg,oj',iZ,ax⟩:=mem_ready.1 hj;rw[dE] at iZ;cases iZ;obtain⟨mi,oi',nK,gz⟩:=mem_ready.1 hr;rw[hi] at nK;cases nK;have bad:∀ k,listed.getD k true=false->listed.getD k false=true->False:=fun k h0 h1=>by
    rcases Nat.lt_or_ge k listed.size with h'|h'
    ·simp[h'] at h0 h1;rw[h0] at h1;cases h1
    ·simp[Array.getElem?_eq_none h'] at h1
   have nH:∀ e∈oj.after,Region.binds .any e=true->e.on≠i:=fun e he hb oQ=>bad i mi (oQ ▸ ax e he hb);have nJ:∀ e∈oi.after,Region.binds .any e=true->e.on≠j:=fun e he hb oQ=>bad j bg (oQ ▸ gz e he hb);have iR:i∉qL oj:=fun hin=>by obtain⟨e,he,oP⟩:=List.mem_map.1 hin;rw[List.mem_filter] at he;exact nH e (by simpa using he.1) he.2 oP
   have sF:j∉qL oi:=fun hin=>by obtain⟨e,he,oP⟩:=List.mem_map.1 hin;rw[List.mem_filter] at he;exact nJ e (by simpa using he.1) he.2 oP
   have dm:=dF j oj dE hji bg nH;have xP:∀ cs b,oi.op≠.select cs b:=fun cs b=>iL i oi cs b hi;have uj:∀ cs b,oj.op≠.select cs b:=fun cs b=>iL j oj cs b dE;obtain⟨h2,_⟩:=(Oper.apart_spec dm).2;obtain⟨hI,okI,hKI⟩:=dh;obtain⟨p0,uH⟩:=okI.some_ hle hc mi aI mM;obtain⟨hJ,xY,_⟩:=(hKI p0 uH).2 j (ready_mono hj hji) oj dE;have wU:jJ R0 R c P ops w0 H j oj a F hJ:=(jJ.move dm uj iR).1 xY;refine⟨hJ,wU,fun q hcq=>?_⟩;have stJ:=wU.stable hH q;have fU:∀ k ok,ops[k]?=some ok->k≠i->(listed.setIfInBounds j true).getD k true=false ->
     (∀ e∈ok.after,Region.binds .any e=true->e.on≠i)->oi.apart ops ok=true:=fun k ok hk eU nP aX=>by
    refine dF k ok hk eU ?_ aX;by_cases hjk:j=k
    ·subst hjk;exact bg
    ·rw[getD_set_ne true hjk] at nP;exact nP
   refine ih (listed.setIfInBounds j true) _ _ (ai _ _ yN hj) fU (ready_mono hr (Ne.symm hji)) (ZN aI j oj stJ) hcq (wU.void hone mM q) ?_ ?_
   ·intro k hk W;by_cases hjk:j=k
    ·subst hjk;exfalso;have hlt:j<listed.size:=by
      rcases Nat.lt_or_ge j listed.size with h'|h'
      ·exact h'
      ·simp[Array.getElem?_eq_none h'] at bg
     simp[hlt] at hk
    ·rw[getD_set_ne true hjk] at hk;have:=lM k hk W;unfold upd;rw[if_neg (fun e=>hjk e.symm)];exact this
   ·refine⟨hI,(jJ.move' dm xP sF).2 okI,fun p eQ=>?_⟩;have wz:Gs R0 R c w0 (listed.setIfInBounds i true) (upd F i oi (hI.φ p)):=by
     by_cases hjc:j=c
     ·have hRM:∃ v,hI=one v:=by
       rcases okI with ⟨_,e⟩|⟨_,_,v,e,_⟩|⟨_,e,_⟩
       ·exact⟨_,e⟩
       ·exact⟨_,e⟩
       ·exact absurd ((hone _ _ e).trans hjc.symm) (Ne.symm hji)
      obtain⟨v,rfl⟩:=hRM;exact uH
     ·obtain⟨W,hW,rM,hF⟩:=eQ;refine⟨W,hW,fun h=>rM ?_,fun k=>?_⟩
      ·rw[Array.setIfInBounds_comm _ _ hji,getD_set_ne true hjc];exact h
      have hk:=hF k;by_cases eU:k=i
      ·subst eU;unfold upd at hk ⊢;rw[if_pos rfl] at hk ⊢;refine⟨hk.1,fun l hl=>?_⟩;have:=hk.2 l hl
       rwa [if_neg (fun e=>sF (by rw[<-e];exact hl))] at this
      ·by_cases hkj:k=j
       ·subst hkj;unfold upd;rw[if_neg eU];exact lM k bg W
       ·unfold upd at hk ⊢;rw[if_neg eU,if_neg hkj] at hk;rw[if_neg eU];exact hk
    obtain⟨yO,xX,wo⟩:=(hKI p wz).2 j (ready_mono hj hji) oj dE;have nT:jJ R0 R c P ops w0 H j oj a F yO:=(jJ.move dm uj iR).1 xX;have e:=nT.unique hc bg wU;subst e;have hq:=wo q (by rw[vV F _ _ (Ne.symm hji) iR sF,Array.setIfInBounds_comm _ _ (fun e=>hji e.symm)];exact eQ);rw[Array.setIfInBounds_comm _ _ (fun e=>hji e.symm),Act.put_comm a (hI.f p) (yO.f q) h2,vV F _ _ (Ne.symm hji) iR sF] at hq;exact hq
theorem qag (hle:∀ a b,R0.r a b->R.r a b) {H:Nat->Option Qa} (hone:∀ i h,H i=some h->i=c) (hH:∀ i h,H i=some h->∀ p,qJ R0 (h.φ p)) {Cl:Array Bool->Prop} {L:Array Bool} {ks:List Nat} {Q:Act->qP->Prop} (hs:Region.noSelect ops=true) (ai:∀ listed j,Cl listed->j∈Region.ready .any ops listed->Cl (listed.setIfInBounds j true)) (bJ:∀ (listed:Array Bool) (j:Nat),Cl listed->j∈Region.ready .any ops listed->L.getD j true=false->∀ k,k∈ks->listed.getD k false=true):∀ (l:List (Nat×Oper)) (listed:Array Bool) (a:Act) (F:qP),Cl listed->(∀ x∈l,ops[x.1]?=some x.2/\x.1∈ks) ->
  ZJ ops L (l.map (·.1)) listed=true->(∀ k,qJ R0 (F k))->Gs R0 R c w0 listed F->Void c listed F->(∀ j,listed.getD j true=false->∀ W,F j W)->Jq R0 R c P ops w0 H Q l listed a F->UI R0 R c P ops w0 H L Q l.length listed a F
 | [],listed,a,F,_,_,hB,_,_,_,_,h=>⟨by simpa [ZJ] using hB,h⟩
 |(k,o) :: l,listed,a,F,yN,hl,hB,aI,hc,mM,lM,h=>by
  obtain⟨h0,yg⟩:=hl (k,o) (List.mem_cons_self);simp only[List.map_cons,ZJ,Bool.and_eq_true] at hB;obtain⟨⟨hr,hf⟩,iW⟩:=hB;have hrk:k∈Region.ready .any ops listed:=by simpa using hr
  have xG:=(mem_ready.1 hrk).1;refine qcu hle hone (A:=fun k=>k∈ks) hH h0 yg (Region.noSelect_spec hs) ai bJ l.length listed a F yN (Region.free_spec h0 hf) hrk aI hc mM lM ?_;obtain⟨hh,hok,hK⟩:=h;refine⟨hh,hok,fun p eQ=>?_⟩;refine qag hle hone hH hs ai bJ l _ _ _ (ai _ _ yN hrk) (fun x hx=>hl x (List.mem_cons_of_mem _ hx)) iW (ZN aI k o (hok.stable hH p)) eQ (hok.void hone mM p) (fun j hj W=>?_) (hK p eQ);by_cases hjk:k=j
  ·subst hjk;have hlt:k<listed.size:=by
    rcases Nat.lt_or_ge k listed.size with h'|h'
    ·exact h'
    ·simp[Array.getElem?_eq_none h'] at xG
   simp[hlt] at hj
  ·rw[getD_set_ne true hjk] at hj;have:=lM j hj W;unfold upd;rw[if_neg (fun e=>hjk e.symm)];exact this
theorem qcx (hle:∀ a b,R0.r a b->R.r a b) {H:Nat->Option Qa} {i:Nat} {o:Oper} {a:Act} {F:qP} {K:Act->qP->Prop} {K':Act->World->Prop} {Q':Exit->Act->World->Prop} {W:World} {listed:Array Bool} (hli:listed.getD i true=false) (hi:ops[i]?=some o) (hone:∀ i h,H i=some h->i=c) (hH:∀ i h,H i=some h->∀ p,qJ R0 (h.φ p)) (aI:∀ k,qJ R0 (F k)) (mM:Void c listed F) (hW:R.r w0 W) (rM:listed.getD c true=false->R0.r w0 W) (hF:∀ k,F k W) (hK:∀ a' F' W',K a' F'->(∀ k,qJ R0 (F' k))->Void c (listed.setIfInBounds i true) F'->R.r w0 W'->((listed.setIfInBounds i true).getD c true=false->R0.r w0 W')->(∀ k,F' k W')->K' a' W') (h:FOpC R0 R c P ops w0 H listed i o K a F):wpOp P ops Q' i K' a W:=by
 obtain⟨hh,hok,hn⟩:=h;have go:∀ p W',(qaq R0 R c i).r W W'->hh.φ p W'->K' (a.put o.dst (hh.f p)) W':=fun p W' he0 hφ=>by
  have he:=qjn hle he0;have h0:(listed.setIfInBounds i true).getD c true=false->R0.r w0 W':=fun h=>R0.trans (rM (unset h)) (stpC_0 hli he0 h);have mQ:∀ k,upd F i o (hh.φ p) k W':=fun k=>by
   unfold upd;split
   ·exact⟨hφ,fun j _=>keepC hli aI mM he0 j (hF j)⟩
   ·exact keepC hli aI mM he0 k (hF k)
  exact hK _ _ W' (hn p ⟨W',R.trans hW he,h0,mQ⟩) (ZN aI i o (hok.stable hH p)) (hok.void hone mM p) (R.trans hW he) h0 mQ
 have hWp:=qej (c:=c) hli hW rM;unfold wpOp;simp only[hi];rcases hok with ⟨x1,rfl⟩|⟨x1,x2,v,rfl,x3⟩|⟨x1,x2,x3⟩
 ·simp only[x1,Bool.false_eq_true,if_false];exact go () W (Rel.refl _ W) trivial
 ·simp only[x1,if_true];obtain⟨w',hr,he⟩:=x3 W hWp fun k _=>hF k;refine .inl ?_;unfold Oper.wp;rw[hr];exact go () w' he trivial
 ·simp only[x1,if_true];have h3:=x3 W hWp fun k _=>hF k;refine .inl ?_;unfold QK at h3;unfold Oper.wp;generalize (execOp a.eval o).run P W=r at *;cases r with
  |ok n w' =>
   cases n <;> simp only[ZW] at h3 <;> simp only[Oper.upon]
   case value u =>obtain⟨p,rfl,hp,he⟩:=h3;exact go p w' he hp
   case skip =>obtain⟨p,hu,hp,he⟩:=h3;rw[hu];exact go p w' he hp
   case enter f args =>obtain⟨he,ai⟩:=h3;refine ai.mono fun e w'' ⟨p,he1,hp,fJ⟩=>?_;subst he1;exact go p w'' (Rel.trans _ he fJ) hp
  |halt x w'=>simp only[ZW] at h3
theorem Xo (hle:∀ a b,R0.r a b->R.r a b) {H:Nat->Option Qa} (hone:∀ i h,H i=some h->i=c) (hH:∀ i h,H i=some h->∀ p,qJ R0 (h.φ p)) {L:Array Bool} {t:Nat} {Q:Act->qP->Prop} {Q':Exit->Act->World->Prop} (hQ:∀ a F W,Q a F->R.r w0 W->(∀ k,F k W)->wpAny P .any ops Q' t L a W) : ∀ (fuel:Nat) (listed:Array Bool) (a:Act) (F:qP) (W:World),(∀ k,qJ R0 (F k))->Void c listed F->R.r w0 W->(listed.getD c true=false->R0.r w0 W)->(∀ k,F k W)->UI R0 R c P ops w0 H L Q fuel listed a F->wpAny P .any ops Q' (fuel+t) listed a W
 |0,listed,a,F,W,_,_,hW,_,hF,h=>by rw[h.1,Nat.zero_add];exact hQ a F W h.2 hW hF
 |fuel+1,listed,a,F,W,aI,mM,hW,rM,hF,h=>by rw[show fuel+1+t=fuel+t+1 by omega];refine⟨fun h0=>absurd h0 h.1,fun i hi=>?_⟩;obtain⟨hli,o,ho,_⟩:=mem_ready.1 hi;exact qcx hle hli ho hone hH aI mM hW rM hF (fun a' F' W' hk lY hvd' ak hW0' mQ=>Xo hle hone hH hQ fuel _ a' F' W' lY hvd' ak hW0' mQ hk) (h.2 i hi o ho)
theorem qcD {l:List Oper} {Q:Exit->Act->World->Prop} {fuel:Nat} {listed:Array Bool} {a:Act} {w W:World} (R0 R:Rel) (c:Nat) (hle:∀ a b,R0.r a b->R.r a b) (H:Nat->Option Qa) (M:List Bool) (t:Nat) (hs:Region.noSelect l.toArray=true) (ht:qgr l.toArray (QX l.length (l.length-t)) ((qt 0 l M).map (·.1))=true) (dU:Xr l.toArray listed=true) (hB:ZJ l.toArray (QX l.length (l.length-t)) ((qt 0 l M).map (·.1)) listed=true) (nN:Gm l.toArray t (l.length-t) (QX l.length (l.length-t))=true) (hfu:fuel=(qt 0 l M).length+t) (nO:(l.drop (l.length-t)).length=t) (hH:∀ i h,H i=some h->∀ p,qJ R0 (h.φ p)) (hone:∀ i h,H i=some h->i=c) (hW:R0.r w W) (h:∀ K:Act->qP->Prop,(∀ a' F',(∀ W,R.r w W->(∀ k,F' k W)->wpList P l.toArray Q (l.drop (l.length-t)) a' W)->K a' F')->Jq R0 R c P l.toArray w H K (qt 0 l M) listed a (fun _ _=>True)):wpAny P .any l.toArray Q fuel listed a W:=by
 have h:=h _ (fun a' F' hh=>hh);subst hfu;have key:=qag hle hone (w0:=w) hH hs (fun _ _ h=>h.step) (TA ht) (qt 0 l M) listed a (fun _ _=>True) (Vg dU) (fun x hx=>by obtain⟨j,h1,h2⟩:=Vj l M 0 x hx;refine⟨?_,List.mem_map.2 ⟨x,hx,rfl⟩⟩;rw[h1,Nat.zero_add];simpa using h2) hB (fun _ _ _ _ _=>trivial) ⟨W,hle _ _ hW,fun _=>hW,fun _=>trivial⟩ (fun _ _ _=>trivial) (fun _ _ _=>trivial) h;refine Xo hle hone (w0:=w) hH (t:=t) (Q':=Q) (fun a F W hq hW hF=>?_) _ _ _ _ W (fun _ _ _ _ _=>trivial) (fun _ _ _=>trivial) (hle _ _ hW) (fun _=>hW) (fun _=>trivial) key;have:=KG (l.drop (l.length-t)) (l.length-t) _ a W (fun j _=>by rw[List.getElem?_drop];simp) (by rw[nO];exact nN) (hq W hW hF)
 rwa [nO] at this
/-! ### the steps of the walk -/
section
variable {H:Nat->Option Qa} {Q:Act->qP->Prop} {k:Nat} {o:Oper} {rest:List (Nat×Oper)} {a:Act} {F:qP} {listed:Array Bool}
theorem qcL (h:Q a F):Jq R0 R c P ops w0 H Q [] listed a F:=h
theorem qfu (v:Value) (hw:Region.wanted o (yielded ops a.tmps)=true) (hH:H k=none) (hv:∀ W,(preC R0 R c k).r w0 W->(∀ j∈qL o,F j W)->vQ (qaq R0 R c k) P o a W v) (h:Jq R0 R c P ops w0 H Q rest (listed.setIfInBounds k true) (a.put o.dst v) (upd F k o fun _=>True)):Jq R0 R c P ops w0 H Q ((k,o) :: rest) listed a F:=
 ⟨one v,.inr (.inl ⟨hw,hH,v,rfl,hv⟩),fun _ _=>h⟩
theorem jL (hle:∀ a b,R0.r a b->R.r a b) (v:Value) (hw:Region.wanted o (yielded ops a.tmps)=true) (hH:H k=none) (hv:∀ W,R.r w0 W->(∀ j∈qL o,F j W)->(execOp a.eval o).run P W=.ok (.value v) W) (h:Jq R0 R c P ops w0 H Q rest (listed.setIfInBounds k true) (a.put o.dst v) (upd F k o fun _=>True)):Jq R0 R c P ops w0 H Q ((k,o) :: rest) listed a F:=
 qfu v hw hH (fun W hW hF=>⟨W,hv W (by unfold preC at hW;split at hW;exact hle _ _ hW;exact hW) hF,Rel.refl _ W⟩) h
theorem vj (hw:Region.wanted o (yielded ops a.tmps)=false) (h:Jq R0 R c P ops w0 H Q rest (listed.setIfInBounds k true) (a.put o.dst undef) (upd F k o fun _=>True)):Jq R0 R c P ops w0 H Q ((k,o) :: rest) listed a F:=
 ⟨one undef,.inl ⟨hw,rfl⟩,fun _ _=>h⟩
theorem qaW (hh:Qa) (hw:Region.wanted o (yielded ops a.tmps)=true) (hH:H c=some hh) (hv:∀ W,R0.r w0 W->(∀ j∈qL o,F j W)->QK R P o a W hh) (h:∀ p,Jq R0 R c P ops w0 H Q rest (listed.setIfInBounds c true) (a.put o.dst (hh.f p)) (upd F c o (hh.φ p))):Jq R0 R c P ops w0 H Q ((c,o) :: rest) listed a F:=
 ⟨hh,.inr (.inr ⟨hw,hH,fun W hW hF=>by unfold preC at hW;unfold qaq;rw[if_pos rfl] at hW ⊢;exact hv W hW hF⟩),fun p _=>h p⟩
end
end
end
def thawO:Obj->Obj
 | .cells c t f=>if f=(0,0) then .cells c t f else .coro none
 |o=>o
def thaw (W:World):World:={ W with heap:=W.heap.map thawO }
theorem KD (W:World):(thaw W).heap.size=W.heap.size:=by simp[thaw]
theorem Vx (W:World) (k:Nat):(thaw W).heap[k]?=(W.heap[k]?).map thawO:=by simp[thaw]
theorem thaw_row {W:World} {b:Nat} {cs:Array Value} {t:TypeId} (h:W.heap[b]?=some (.cells cs t (0,0))):(thaw W).heap[b]?=some (.cells cs t (0,0)):=by rw[Vx,h];rfl
theorem Jn {w w':World} {q:Addr} (h:w'.heap[q.block]?=w.heap[q.block]?):(thaw w').cell? q=(thaw w).cell? q:=
 World.cell?_of_block (by rw[Vx,Vx,h])
theorem Gq {W:World} {q:Addr} {v:Value} (h:(thaw W).cell? q=some v):W.cell? q=some v/\W.frozen? q=false:=by
 unfold World.cell? at h;rw[Vx] at h;unfold World.cell? World.frozen?;cases hb:W.heap[q.block]? with
 |none=>rw[hb] at h;cases h
 |some o =>
  rw[hb] at h;cases o with
  |cells c e f =>
   simp only[Option.map_some,thawO] at h;by_cases hf:f=(0,0)
   ·subst hf;rw[if_pos rfl] at h;exact⟨h,zA2⟩
   ·rw[if_neg hf] at h;cases h
  |_=>simp only[Option.map_some,thawO] at h;cases h
theorem KC {W:World} {b:Nat} {cs:Array Value} {t:TypeId} (h:W.heap[b]?=some (.cells cs t (0,0))) (j:Nat):(thaw W).cell? ⟨b,j,none⟩=W.cell? ⟨b,j,none⟩:=by rw[qa h,qa (thaw_row h)]
def Thaw (W:World) (v:Value):Prop:=∀ a n c,v=.slice (some a) n c->0<n->∃ cs t,W.heap[a.block]?=some (.cells cs t (0,0))
theorem Thaw.of_own {w:World} {base n size:Nat} {e:TypeId} {v:Value} {xs:List Value} (h:w.ownsRow base e size v n xs):Thaw w v:=by
 intro a n' c ev hn;rcases h.2 with ⟨rfl,rfl⟩|⟨g,cap,cur,rfl,_,hg,_⟩
 ·cases ev
 ·cases ev;exact⟨_,_,hg⟩
def NewB (lo:Nat) (v:Value) (l:List UInt8) (W:World):Prop:=Bys W W.heap.size v l/\Zo lo v/\Thaw W v
theorem NewB.of_own {w:World} {base n:Nat} {e:TypeId} {v:Value} {l:List UInt8} (h:w.ownsRow base e 1 v n (l.map bv)):NewB base v l w:=⟨Bys.of_own h,Zo.of_own h,Thaw.of_own h⟩
theorem NewB.thaw {lo:Nat} {v:Value} {l:List UInt8} {W:World} (h:NewB lo v l W):Bys (thaw W) W.heap.size v l:=by obtain⟨⟨A,c,e,hc,hm,hr⟩,_,ht⟩:=h;refine⟨A,c,e,hc,hm,hr.1,fun hn=>?_⟩;obtain⟨b,off,e2,hb,dD⟩:=hr.2 hn;obtain⟨cs,t,aF⟩:=ht ⟨b,off,none⟩ l.length c (by rw[e,e2]) hn;exact⟨b,off,e2,hb,fun j u hu=>(KC aF _).trans (dD j u hu)⟩
theorem NewB.from {lo:Nat} {v:Value} {l:List UInt8} {W:World} (h:NewB lo v l W):Zo lo v:=h.2.1
section
variable {base:Nat} {e:TypeId} {size lo:Nat} {v:Value} {n:Nat} {xs:List Value} {f:Value->List Value} {l:List UInt8}
end
section
variable {α:Type} {base lo:Nat} {e:TypeId} {size:Nat} {g:α->Value->List Value} {by_:α->List UInt8}
end
theorem Tryz.info_bytes:(Tryz.prog.info? 26).map (fun i=>(i.zero,i.size,i.bytes))=some (some (.slice none 0 0),1,24):=zQ
theorem Tryz.info_write:(Tryz.prog.info? 130).map (fun i=>(i.zero,i.size,i.bytes))=some (some (.agg #[.int .i64 0,.slice none 0 0]),2,32):=zQ
abbrev gB (_:List UInt8) (u:Value):List Value:=[u]
theorem Rd.keepN {w W:World} {B size lo n c:Nat} {A:Option Addr} {xs:List Value} (h:Rd w B size A n xs) (hf:Zo lo (.slice A n c)) (hk:∀ q:Addr,lo<=q.block->q.block<B->W.cell? q=w.cell? q):Rd W B size A n xs:=
 ⟨h.1,fun hn=>by obtain⟨b,off,e,hb,hc⟩:=h.2 hn;subst e;exact⟨b,off,rfl,hb,fun j u hu=>(hk ⟨b,off+j,none⟩ (hf ⟨b,off,none⟩ n c rfl) hb).trans (hc j u hu)⟩⟩
theorem Bys.keepN {w W:World} {B lo:Nat} {v:Value} {l:List UInt8} (h:Bys w B v l) (hf:Zo lo v) (hk:∀ q:Addr,lo<=q.block->q.block<B->W.cell? q=w.cell? q):Bys W B v l:=by obtain⟨A,c,e,hc,hm,hr⟩:=h;subst e;exact⟨A,c,rfl,hc,hm,hr.keepN hf hk⟩
structure Gu (S:Sto):Prop where
 bs:S.bs.length<1000000
 ws:S.ws.length<1000000
 be:∀ l∈S.bs,l.length<1000000
 we:∀ p∈S.ws,p.2.length<1000000
 now:S.now.length<1000000
 last:S.last.length<1000000
end Go.Proofs.YtpbniokljofedaaGreat
