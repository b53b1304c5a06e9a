/- Texts TreeW, FreeT, VolsW, Order, Order2, joined. -/
import Derived.Test.YtpbniokljofedaaGreatZG04
import Derived.Test.YtpbniokljofedaaGreatZG06
import Derived.Test.YtpbniokljofedaaGreatZG08
import Derived.Test.YtpbniokljofedaaGreatZG09
set_option linter.unusedSimpArgs false
set_option linter.unusedVariables false
set_option maxHeartbeats 8000000
open Go.Proofs.Tryz
namespace Go.Proofs.YtpbniokljofedaaGreat
open Go.RowKit
theorem field_is (lvl:Int) (A:Option Addr) (n c:Nat) (f l:K3) (b:Bool) (w:World):(Instr.field 135 (jt lvl A n c f l b) 3).run prog w=.ok (.bool b) w:=zQ
theorem qiK (lvl:Int) (A:Option Addr) (n c:Nat) (f l:K3) (b:Bool) (w:World):(Instr.field 135 (jt lvl A n c f l b) 0).run prog w=.ok (jE lvl A n c) w:=zQ
structure Ar (ca:Array Value) (refs nodes:Nat->Nat) (vv:Value):Prop where
 size:ca.size=519
 ref:∀ a,a<256->ca[6+a]?=some (.int .i64 (refs a:Int))
 node:∀ a,a<256->ca[262+a]?=some (.int .i64 (nodes a:Int))
 vol:ca[518]?=some vv
def vd (f:Nat->Nat) (a:Nat):Nat->Nat:=fun b=>f b+if b=a then 1 else 0
theorem Ar.addRef {ca:Array Value} {refs nodes:Nat->Nat} {vv:Value} (h:Ar ca refs nodes vv) {a:Nat} (ha:a<256):Ar (ca.setIfInBounds (6+a) (.int .i64 ((refs a:Int)+1))) (vd refs a) nodes vv:=by
 have hs:=h.size;refine⟨by simp[hs],fun b hb=>?_,fun b hb=>?_,?_⟩
 ·rw[Array.getElem?_setIfInBounds];unfold vd;by_cases e:b=a
  ·subst e;rw[if_pos rfl,if_pos zO,if_pos rfl];simp
  ·rw[if_neg zO,if_neg e,h.ref b hb];simp
 ·rw[Array.getElem?_setIfInBounds,if_neg zO,h.node b hb]
 ·rw[Array.getElem?_setIfInBounds,if_neg zO,h.vol]
theorem Ar.addNode {ca:Array Value} {refs nodes:Nat->Nat} {vv:Value} (h:Ar ca refs nodes vv) {a:Nat} (ha:a<256):Ar (ca.setIfInBounds (262+a) (.int .i64 ((nodes a:Int)+1))) refs (vd nodes a) vv:=by
 have hs:=h.size;refine⟨by simp[hs],fun b hb=>?_,fun b hb=>?_,?_⟩
 ·rw[Array.getElem?_setIfInBounds,if_neg zO,h.ref b hb]
 ·rw[Array.getElem?_setIfInBounds];unfold vd;by_cases e:b=a
  ·subst e;rw[if_pos rfl,if_pos zO,if_pos rfl];simp
  ·rw[if_neg zO,if_neg e,h.node b hb];simp
 ·rw[Array.getElem?_setIfInBounds,if_neg zO,h.vol]
theorem qep {ca:Array Value} {k i:Nat} {v:Value} (hk:6<=k) (hi:i<6):(ca.setIfInBounds k v)[i]?=ca[i]?:=by rw[Array.getElem?_setIfInBounds,if_neg zO]
def VF (nodes:Nat->Nat):Nat->Bool:=fun a=>decide (0<nodes a)
theorem Kb {nodes:Nat->Nat} {a:Nat}:VF (vd nodes a)=Xa (VF nodes) a:=by
 funext b;unfold VF vd Xa;by_cases e:b=a
 ·rw[if_pos e,if_pos e];simp
 ·rw[if_neg e,if_neg e];rfl
theorem Kc {nodes:Nat->Nat} {a:Nat} (h:0<nodes a):VF (vd nodes a)=VF nodes:=by
 funext b;unfold VF vd;by_cases e:b=a
 ·subst e;rw[if_pos rfl,decide_eq_true h,decide_eq_true zO]
 ·rw[if_neg e];rfl
def UP (S:Sto) (f:Int->Option Value) (R:List Nat):Prop:=∀ a∈R,VU S a/\(f (a:Int)).isSome=true
structure qX (S:Sto) (R:List Nat) (refs nodes:Nat->Nat):Prop where
 mkd:jI (VD S) (VK S) R (VF nodes) refs
 few:∀ a,nodes a+6*vU (VF nodes) 256<=1536+R.length
theorem UP.reach {S:Sto} {lo:Nat} {w:World} {f:Int->Option Value} {R:List Nat} (hR:UP S f R) (hk:qcA S lo w f) {a:Nat} (h:Rch (VD S) (· ∈ R) a):VU S a/\(f (a:Int)).isSome=true:=
 h.closed (M:=fun a=>VU S a/\(f (a:Int)).isSome=true) (fun a ha=>hR a ha) fun a ha b hb=>⟨qjW ha.1 hb,qjX hk ha.1 ha.2 hb⟩
theorem qgf {S:Sto} {R:List Nat} {M:Nat->Bool} {refs:Nat->Nat} {s:List Nat} (h:vE (VD S) (VK S) R M refs s) (b:Nat):refs b<=R.length+1280:=by rw[h.sum];have h1:=List.count_le_length (a:=b) (l:=R);have h2:=qjh (rs:=VK S) (M:=M) (b:=b) (k:=5) 256 fun a _ _=>qgg;omega
structure Wk (S:Sto) (R:List Nat) (refs nodes:Nat->Nat) (s:List Nat):Prop where
 wk:vE (VD S) (VK S) R (VF nodes) refs s
 few:∀ a,nodes a+6*vU (VF nodes) 256+s.length<=1536+R.length
theorem qX.start {S:Sto} {R:List Nat} {refs nodes:Nat->Nat} (h:qX S R refs nodes) (a:Nat):Wk S (R++[a]) (vd refs a) nodes [a]:=
 ⟨(jI.walk.1 h.mkd).add a fun _=>rfl,fun b=>by have:=h.few b;simp;omega⟩
theorem Wk.done {S:Sto} {R:List Nat} {refs nodes:Nat->Nat} (h:Wk S R refs nodes []):qX S R refs nodes:=
 ⟨jI.walk.2 h.wk,fun a=>by have:=h.few a;simpa using this⟩
theorem Wk.again {S:Sto} {R:List Nat} {refs nodes:Nat->Nat} {s:List Nat} {a:Nat} (h:Wk S R refs nodes (s++[a])) (ha:0<nodes a):Wk S R refs (vd nodes a) s:=by
 refine⟨?_,fun b=>?_⟩
 ·rw[Kc ha];exact h.wk.again (decide_eq_true ha)
 ·rw[Kc ha];have:=h.few b;rw[List.length_append,List.length_singleton] at this;unfold vd;split <;> omega
def Kg (xs:List It) (k:Nat):List Nat:=((xs.take k).map fun y=>y.r.toNat).filter fun r=>r != 0
theorem qbz {S:Sto} {a:Nat} {lvl:Int} {xs:List It} (h:qu S a=some (lvl,xs)):Kg xs xs.length=VK S a:=by unfold Kg VK;rw[List.take_length,h]
theorem Xy {xs:List It} {k:Nat} (hk:k<xs.length):Kg xs (k+1)=if xs[k].r.toNat=0 then Kg xs k else Kg xs k++[xs[k].r.toNat]:=by
 unfold Kg;rw[List.take_succ_eq_append_getElem hk,List.map_append,List.filter_append];by_cases h:xs[k].r.toNat=0
 ·rw[if_pos h];simp[h]
 ·rw[if_neg h];simp[h]
theorem qbA {xs:List It} {k:Nat}:(Kg xs k).length<=k:=by unfold Kg;refine Nat.le_trans (List.length_filter_le _ _) ?_;rw[List.length_map,List.length_take];omega
theorem Wk.new {S:Sto} {R:List Nat} {refs nodes refs':Nat->Nat} {s:List Nat} {a lvl:Nat} {xs:List It} (h:Wk S R refs nodes (s++[a])) (ha:nodes a=0) (hl:a<256) (hn:qu S a=some ((lvl:Int),xs)) (hr:∀ b,refs' b=refs b+(Kg xs xs.length).count b):Wk S R refs' (vd nodes a) (s++if 0<lvl then Kg xs xs.length else []):=by
 have hm:VF nodes a=false:=decide_eq_false zO;have hk:VD S a=if 0<lvl then Kg xs xs.length else []:=by
  unfold VD;rw[hn,qbz hn];simp only;by_cases h0:0<lvl
  ·rw[if_pos h0,if_pos zO]
  ·rw[if_neg h0,if_neg zO]
 rw[<-hk];refine⟨?_,fun b=>?_⟩
 ·rw[Kb];exact h.wk.new hm hl fun b=>by rw[hr,qbz hn]
 ·rw[Kb];have h1:=h.few b;have h2:=TC hm 256;rw[if_pos hl] at h2;rw[List.length_append,List.length_singleton] at h1;have h3:(VD S a).length<=5:=by
   rw[hk];split
   ·rw[qbz hn];exact qgg
   ·simp
  rw[List.length_append];unfold vd;split <;> omega
def leftW (w:World) (cb:Nat):Nat:=vU (fun a=>match w.cell? ⟨cb,262+a,none⟩ with|some (.int _ n)=>decide (0<n)|_=>false) 256
theorem Ub {w:World} {cb:Nat} {ca:Array Value} {ty:TypeId} {refs nodes:Nat->Nat} {vv:Value} (hr:w.heap[cb]?=some (.cells ca ty (0,0))) (h:Ar ca refs nodes vv):leftW w cb=vU (VF nodes) 256:=by unfold leftW;refine qac _ fun a ha=>?_;rw[qa hr,h.node a ha];unfold VF;simp
def lenV:Value->Nat
 | .slice _ n _=>n
 |_=>0
structure TrI (p:CP) (B:Nat) (w1 wr:World) (vv:Value) (ca:Array Value) (refs nodes:Nat->Nat):Prop where
 off:Off B p.cb w1 wr
 row:wr.heap[p.cb]?=some (.cells ca 84 (0,0))
 ar:Ar ca refs nodes vv
 low:∀ i,i<6->ca[i]?=p.ca[i]?
 lt:p.cb<B
theorem TrI.grown {p:CP} {B:Nat} {w1 wr W:World} {vv:Value} {ca:Array Value} {refs nodes:Nat->Nat} (h:TrI p B w1 wr vv ca refs nodes) {row:Option Nat} (hg:wr.grownBy W row) (hr:∀ g,row=some g->B<=g):TrI p B w1 W vv ca refs nodes:=
 ⟨h.off.grown hg fun g e=>.inr (hr g e),(hg.block _ (Nat.lt_of_lt_of_le h.lt h.off.size) fun e=>by have:=hr _ e.symm;have:=h.lt;omega).trans h.row,h.ar,h.low,h.lt⟩
theorem TrI.ext {p:CP} {B:Nat} {w1 wr W:World} {vv:Value} {ca:Array Value} {refs nodes:Nat->Nat} (h:TrI p B w1 wr vv ca refs nodes) (hx:Ext wr W):TrI p B w1 W vv ca refs nodes:=h.grown (ZI hx none) fun g e=>by cases e
theorem TrI.addRef {p:CP} {B:Nat} {w1 wr:World} {vv:Value} {ca:Array Value} {refs nodes:Nat->Nat} (h:TrI p B w1 wr vv ca refs nodes) {a:Nat} (ha:a<256):TrI p B w1 (wr.setCell ⟨p.cb,6+a,none⟩ (.int .i64 ((refs a:Int)+1))) vv (ca.setIfInBounds (6+a) (.int .i64 ((refs a:Int)+1))) (vd refs a) nodes:=
 ⟨h.off.setCell (p:=⟨p.cb,6+a,none⟩) (.inl rfl) _,qi h.row _ _,h.ar.addRef ha,fun i hi=>(qep zO hi).trans (h.low i hi),h.lt⟩
theorem TrI.addNode {p:CP} {B:Nat} {w1 wr:World} {vv:Value} {ca:Array Value} {refs nodes:Nat->Nat} (h:TrI p B w1 wr vv ca refs nodes) {a:Nat} (ha:a<256):TrI p B w1 (wr.setCell ⟨p.cb,262+a,none⟩ (.int .i64 ((nodes a:Int)+1))) vv (ca.setIfInBounds (262+a) (.int .i64 ((nodes a:Int)+1))) refs (vd nodes a):=
 ⟨h.off.setCell (p:=⟨p.cb,262+a,none⟩) (.inl rfl) _,qi h.row _ _,h.ar.addNode ha,fun i hi=>(qep zO hi).trans (h.low i hi),h.lt⟩
theorem TrI.cen {p:CP} {w1 wr:World} {vv:Value} {ca:Array Value} {refs nodes:Nat->Nat} {g:Int->Option Value} (h:TrI p w1.heap.size w1 wr vv ca refs nodes) (hC:Cen p w1 g):Cen (p.put ca) wr g:=hC.put rfl h.off h.row h.low
theorem TrI.its {p:CP} {w1 wr:World} {vv v:Value} {ca:Array Value} {refs nodes:Nat->Nat} {g:Int->Option Value} {xs:List It} (h:TrI p w1.heap.size w1 wr vv ca refs nodes) (hC:Cen p w1 g) (hi:ZE p.lo w1 v xs):ZE p.lo wr v xs:=
 hi.keep h.off.size fun q h1 h2=>h.off.cell h2 (by have:=hC.low;omega)
def ZF (lvl:Nat) (xs:List It) (k:Nat):List Nat:=if 0<lvl then Kg xs k else []
theorem GW (lvl:Nat) (xs:List It):ZF lvl xs 0=[]:=by unfold ZF Kg;simp
theorem qga {lvl:Nat} {xs:List It} {k:Nat} (hk:k<xs.length) (h:xs[k].r.toNat=0\/lvl=0):ZF lvl xs (k+1)=ZF lvl xs k:=by
 unfold ZF;by_cases h0:0<lvl
 ·rw[if_pos h0,if_pos h0,Xy hk,if_pos zO]
 ·rw[if_neg h0,if_neg h0]
theorem qfZ {lvl:Nat} {xs:List It} {k:Nat} (hk:k<xs.length) (h:¬xs[k].r.toNat=0) (hl:0<lvl):ZF lvl xs (k+1)=ZF lvl xs k++[xs[k].r.toNat]:=by unfold ZF;rw[if_pos hl,if_pos hl,Xy hk,if_neg h]
theorem qkx {xs:List It} {k:Nat} {rf rG:Nat->Nat} (hk:k<xs.length) (h:xs[k].r.toNat=0) (hr:∀ b,rG b=rf b+(Kg xs k).count b):∀ b,rG b=rf b+(Kg xs (k+1)).count b:=by intro b;rw[hr,Xy hk,if_pos h]
theorem qkw {xs:List It} {k:Nat} {rf rG:Nat->Nat} (hk:k<xs.length) (h:¬xs[k].r.toNat=0) (hr:∀ b,rG b=rf b+(Kg xs k).count b):∀ b,vd rG xs[k].r.toNat b=rf b+(Kg xs (k+1)).count b:=by
 intro b;rw[Xy hk,if_neg h,List.count_append,<-Nat.add_assoc,<-hr];unfold vd;rw[List.count_singleton];by_cases e:b=xs[k].r.toNat
 ·rw[if_pos e,if_pos (by simp[e])]
 ·rw[if_neg e,if_neg zA1]
theorem qky (xs:List It):Kg xs 0=[]:=by unfold Kg;simp
def Ja (s:List Nat):List Value:=s.map fun (a:Nat)=>Value.int .i64 (a:Int)
theorem Xs (s:List Nat):(Ja s).length=s.length:=by simp[Ja]
theorem KV (s:List Nat) (a:Nat):Ja (s++[a])=Ja s++[Value.int .i64 (a:Int)]:=by simp[Ja]
section
variable {P:Program} (w:World) {ops:Array Oper} {rest:List Oper} {o:Oper} {a:Act} {Q:Exit->Act->World->Prop}
theorem Xj {mb:Nat} {f:Int->Option Value} (h:Ze w mb f) (t k e:TypeId) (ht:P.underlying t=some (.map k e)) (hk:P.underlying k=some (.int .i64)) {a:Int} {v:Value} (hf:f a=some v) : (Instr.lookup t (.map (some mb)) (.int .i64 a) false).run P w=.ok v w:=by
 obtain⟨es,clock,hb,yg,hfa⟩:=h;have h0:=hfa a;rw[hf] at h0;rcases kG a es.toList 0 yg with ⟨h1,h2⟩|⟨j,e2,h1,h2,h3,h4,_⟩
 ·unfold Ys at h0;rw[h2] at h0;cases h0
 ·unfold Ys at h0;rw[h3] at h0;simp only[Option.map_some,Option.some.injEq] at h0;simp[Instr.lookup,run_underlying ht,MapKept.run_getObj_map hb,Jm hk,JQ hk h2,h0,Result.andThen]
theorem UK (hg:o.guard=none) (m x:Operand) (t:TypeId) (dh:o.op=Op.lookup t m x false) {k e:TypeId} (ht:P.underlying t=some (.map k e)) (hk:P.underlying k=some (.int .i64)) {mb:Nat} {f:Int->Option Value} {r:Int} {v:Value} (hm:a.eval m=.map (some mb)) (hx:a.eval x=.int .i64 r) (h:Ze w mb f) (hf:f r=some v) (hK:wpList P ops Q rest (a.put o.dst v) w):wpList P ops Q (o :: rest) a w:=by
 refine wpList_plain hg fun K' hK'=>?_;unfold Oper.wp;simp[execOp,dh,hm,hx,Xj w h t k e ht hk hf,Result.andThen];exact hK' _ _ hK
end
section
variable {R:Rel}
section
variable {P:Program} {ops:Array Oper} {w0:World}
def YF (ops:Array Oper) (listed:Array Bool):Prop:=∀ (i:Nat) (o:Oper),ops[i]?=some o->listed.getD i false=true->∀ k∈qL o,listed.getD k false=true
def Xr (ops:Array Oper) (listed:Array Bool):Bool:=(List.range ops.size).all fun i=>!(listed.getD i false) || (match ops[i]? with|some o=>(qL o).all fun k=>listed.getD k false|none=>true)
theorem Vg {listed:Array Bool} (h:Xr ops listed=true):YF ops listed:=by intro i o ho hi k hk;have h1:=List.all_eq_true.1 h i (List.mem_range.2 (zG.1 ho).1);rw[hi,ho] at h1;simp only[Bool.not_true,Bool.false_or] at h1;exact List.all_eq_true.1 h1 k hk
theorem kL {listed:Array Bool} {j:Nat} (hj:j∈Region.ready .any ops listed) {o:Oper} (ho:ops[j]?=some o):∀ k∈qL o,listed.getD k false=true:=by intro k hk;obtain⟨_,o',wK,ax⟩:=mem_ready.1 hj;rw[ho] at wK;cases wK;obtain⟨e,he,oP⟩:=List.mem_map.1 hk;rw[List.mem_filter] at he;rw[<-oP];exact ax e (by simpa using he.1) he.2
theorem XO {listed:Array Bool} {j k:Nat} (h:listed.getD k false=true):(listed.setIfInBounds j true).getD k false=true:=by
 rcases Nat.lt_or_ge k listed.size with h'|h'
 ·simp only[Array.getD_eq_getD_getElem?,Array.getElem?_setIfInBounds] at h ⊢;by_cases e:j=k
  ·subst e;simp[h']
  ·rw[if_neg e];exact h
 ·simp[Array.getElem?_eq_none h'] at h
theorem YF.step {listed:Array Bool} {j:Nat} (h:YF ops listed) (hj:j∈Region.ready .any ops listed):YF ops (listed.setIfInBounds j true):=by
 intro i o ho hi k hk;by_cases e:i=j
 ·subst e;exact XO (kL hj ho k hk)
 ·refine XO (h i o ho ?_ k hk);simp only[Array.getD_eq_getD_getElem?,Array.getElem?_setIfInBounds] at hi ⊢
  rwa [if_neg (fun x=>e x.symm)] at hi
def qae (ops:Array Oper):Nat->Nat->Nat->Bool
 |0,_,_=>false
 |n+1,j,k=>match ops[j]? with
  |some o=>(qL o).contains k || (qL o).any fun i=>qae ops n i k
  |none=>false
theorem Vo {listed:Array Bool} (h:YF ops listed):∀ (n j k:Nat),(∀ o,ops[j]?=some o->∀ i∈qL o,listed.getD i false=true)->qae ops n j k=true->listed.getD k false=true
 |0,_,_,_,hw=>by cases hw
 |n+1,j,k,hp,hw=>by
  unfold qae at hw;split at hw
  ·rename_i o ho;rw[Bool.or_eq_true] at hw;rcases hw with hw|hw
   ·exact hp o ho k (by simpa using hw)
   ·obtain⟨i,hi,hw⟩:=List.any_eq_true.1 hw;exact Vo h n i k (fun o' wK=>h i o' wK (hp o ho i hi)) hw
  ·cases hw
def qgr (ops:Array Oper) (L:Array Bool) (ks:List Nat):Bool:=(List.range ops.size).all fun j=>L.getD j true || ks.all fun k=>qae ops 9 j k
theorem TA {L:Array Bool} {ks:List Nat} (h:qgr ops L ks=true):∀ (listed:Array Bool) (j:Nat),YF ops listed->j∈Region.ready .any ops listed->L.getD j true=false->∀ k,k∈ks->listed.getD k false=true:=by intro listed j hc hj hm k hk;obtain⟨_,o,ho,_⟩:=mem_ready.1 hj;have h1:=List.all_eq_true.1 h j (List.mem_range.2 (zG.1 ho).1);rw[hm,Bool.false_or] at h1;exact Vo hc 9 j k (fun o' wK=>kL hj wK) (List.all_eq_true.1 h1 k hk)
theorem qcw {H:Nat->Option Qa} (hH:∀ i h,H i=some h->∀ p,qJ R (h.φ p)) {A:Nat->Prop} {Cl:Array Bool->Prop} {L:Array Bool} {Q:Act->qP->Prop} {i:Nat} {oi:Oper} (hi:ops[i]?=some oi) (him:A i) (iL:∀ (j:Nat) (o:Oper) cs b,ops[j]?=some o->o.op≠.select cs b) (ai:∀ listed j,Cl listed->j∈Region.ready .any ops listed->Cl (listed.setIfInBounds j true)) (bJ:∀ (listed:Array Bool) (j:Nat),Cl listed->j∈Region.ready .any ops listed->L.getD j true=false->∀ k,A k->listed.getD k false=true) : ∀ (fuel:Nat) (listed:Array Bool) (a:Act) (F:qP),Cl listed -> (∀ j oj,ops[j]?=some oj->j≠i->listed.getD j true=false->(∀ e∈oj.after,Region.binds .any e=true->e.on≠i)->oi.apart ops oj=true) ->
   i∈Region.ready .any ops listed->(∀ k,qJ R (F k))->YG R w0 F->(∀ k,listed.getD k true=false->∀ W,F k W) ->
   FOpG R P ops w0 H i oi (Vp R P ops w0 H L Q fuel (listed.setIfInBounds i true)) a F->Vp R P ops w0 H L Q (fuel+1) listed a F:=by
 intro fuel;induction fuel with
 |zero =>
  intro listed a F yN _ hr aI hc _ dh;refine⟨fun h=>(by rw[h] at hr;cases hr),fun j hj oj dE=>?_⟩;by_cases hji:j=i
  ·subst hji;rw[hi] at dE;cases dE;exact dh
  ·exfalso;obtain⟨h,hok,hK⟩:=dh;obtain⟨p,eQ⟩:=hok.some_ hc aI;have hmj:L.getD j true=false:=by rw[<-(hK p eQ).1];exact(mem_ready.1 (ready_mono hj hji)).1
   have h1:=bJ listed j yN hj hmj i him;have h0:=(mem_ready.1 hr).1;rcases Nat.lt_or_ge i listed.size with h'|h'
   ·simp[h'] at h0 h1;rw[h0] at h1;cases h1
   ·simp[Array.getElem?_eq_none h'] at h1
 |succ fuel ih =>
  intro listed a F yN dF hr aI hc lM dh;refine⟨fun h=>(by rw[h] at hr;cases hr),fun j hj oj dE=>?_⟩;by_cases hji:j=i
  ·subst hji;rw[hi] at dE;cases dE;exact dh
  ·obtain⟨bg,oj',iZ,ax⟩:=mem_ready.1 hj;rw[dE] at iZ;cases iZ;obtain⟨mi,oi',nK,gz⟩:=mem_ready.1 hr;rw[hi] at nK;cases nK;have bad:∀ k,listed.getD k true=false->listed.getD k false=true->False:=fun k h0 h1=>by
    rcases Nat.lt_or_ge k listed.size with h'|h'
    ·simp[h'] at h0 h1;rw[h0] at h1;cases h1
    ·simp[Array.getElem?_eq_none h'] at h1
   have nH:∀ e∈oj.after,Region.binds .any e=true->e.on≠i:=fun e he hb oQ=>bad i mi (oQ ▸ ax e he hb);have nJ:∀ e∈oi.after,Region.binds .any e=true->e.on≠j:=fun e he hb oQ=>bad j bg (oQ ▸ gz e he hb);have iR:i∉qL oj:=fun hin=>by obtain⟨e,he,oP⟩:=List.mem_map.1 hin;rw[List.mem_filter] at he;exact nH e (by simpa using he.1) he.2 oP
   have sF:j∉qL oi:=fun hin=>by obtain⟨e,he,oP⟩:=List.mem_map.1 hin;rw[List.mem_filter] at he;exact nJ e (by simpa using he.1) he.2 oP
   have dm:=dF j oj dE hji bg nH;have xP:∀ cs b,oi.op≠.select cs b:=fun cs b=>iL i oi cs b hi;have uj:∀ cs b,oj.op≠.select cs b:=fun cs b=>iL j oj cs b dE;obtain⟨h2,_⟩:=(Oper.apart_spec dm).2;obtain⟨hI,okI,hKI⟩:=dh;obtain⟨p0,uH⟩:=okI.some_ hc aI;obtain⟨hJ,xY,_⟩:=(hKI p0 uH).2 j (ready_mono hj hji) oj dE;have wU:jd R P ops w0 H j oj a F hJ:=(jd.move dm uj iR).1 xY;refine⟨hJ,wU,fun q hcq=>?_⟩;have stJ:=wU.stable hH q;have fU:∀ k ok,ops[k]?=some ok->k≠i->(listed.setIfInBounds j true).getD k true=false ->
     (∀ e∈ok.after,Region.binds .any e=true->e.on≠i)->oi.apart ops ok=true:=fun k ok hk eU nP aX=>by
    refine dF k ok hk eU ?_ aX;by_cases hjk:j=k
    ·subst hjk;exact bg
    ·rw[getD_set_ne true hjk] at nP;exact nP
   refine ih (listed.setIfInBounds j true) _ _ (ai _ _ yN hj) fU (ready_mono hr (Ne.symm hji)) (ZN aI j oj stJ) hcq ?_ ?_
   ·intro k hk W;by_cases hjk:j=k
    ·subst hjk;exfalso;have hlt:j<listed.size:=by
      rcases Nat.lt_or_ge j listed.size with h'|h'
      ·exact h'
      ·simp[Array.getElem?_eq_none h'] at bg
     simp[hlt] at hk
    ·rw[getD_set_ne true hjk] at hk;have:=lM k hk W;unfold upd;rw[if_neg (fun e=>hjk e.symm)];exact this
   ·refine⟨hI,(jd.move' dm xP sF).2 okI,fun p eQ=>?_⟩;have wz:YG R w0 (upd F i oi (hI.φ p)):=by
     obtain⟨W,hW,hF⟩:=eQ;refine⟨W,hW,fun k=>?_⟩;have hk:=hF k;by_cases eU:k=i
     ·subst eU;unfold upd at hk ⊢;rw[if_pos rfl] at hk ⊢;refine⟨hk.1,fun l hl=>?_⟩;have:=hk.2 l hl
      rwa [if_neg (fun e=>sF (by rw[<-e];exact hl))] at this
     ·by_cases hkj:k=j
      ·subst hkj;unfold upd;rw[if_neg eU];exact lM k bg W
      ·unfold upd at hk ⊢;rw[if_neg eU,if_neg hkj] at hk;rw[if_neg eU];exact hk
    obtain⟨yO,xX,wo⟩:=(hKI p wz).2 j (ready_mono hj hji) oj dE;have nT:jd R P ops w0 H j oj a F yO:=(jd.move dm uj iR).1 xX;have e:=nT.unique hc wU;subst e;have hq:=wo q (by rw[vV F _ _ (Ne.symm hji) iR sF];exact eQ);rw[Array.setIfInBounds_comm _ _ (fun e=>hji e.symm),Act.put_comm a (hI.f p) (yO.f q) h2,vV F _ _ (Ne.symm hji) iR sF] at hq;exact hq
theorem Xn {H:Nat->Option Qa} (hH:∀ i h,H i=some h->∀ p,qJ R (h.φ p)) {Cl:Array Bool->Prop} {L:Array Bool} {ks:List Nat} {Q:Act->qP->Prop} (hs:Region.noSelect ops=true) (ai:∀ listed j,Cl listed->j∈Region.ready .any ops listed->Cl (listed.setIfInBounds j true)) (bJ:∀ (listed:Array Bool) (j:Nat),Cl listed->j∈Region.ready .any ops listed->L.getD j true=false->∀ k,k∈ks->listed.getD k false=true):∀ (l:List (Nat×Oper)) (listed:Array Bool) (a:Act) (F:qP),Cl listed->(∀ x∈l,ops[x.1]?=some x.2/\x.1∈ks) ->
  ZJ ops L (l.map (·.1)) listed=true->(∀ k,qJ R (F k))->YG R w0 F->(∀ j,listed.getD j true=false->∀ W,F j W)->ZS R P ops w0 H Q l a F->Vp R P ops w0 H L Q l.length listed a F
 | [],listed,a,F,_,_,hB,_,_,_,h=>⟨by simpa [ZJ] using hB,h⟩
 |(k,o) :: l,listed,a,F,yN,hl,hB,aI,hc,lM,h=>by
  obtain⟨h0,yg⟩:=hl (k,o) (List.mem_cons_self);simp only[List.map_cons,ZJ,Bool.and_eq_true] at hB;obtain⟨⟨hr,hf⟩,iW⟩:=hB;have hrk:k∈Region.ready .any ops listed:=by simpa using hr
  have xG:=(mem_ready.1 hrk).1;refine qcw (A:=fun k=>k∈ks) hH h0 yg (Region.noSelect_spec hs) ai bJ l.length listed a F yN (Region.free_spec h0 hf) hrk aI hc lM ?_;obtain⟨hh,hok,hK⟩:=h;refine⟨hh,hok,fun p eQ=>?_⟩;refine Xn hH hs ai bJ l _ _ _ (ai _ _ yN hrk) (fun x hx=>hl x (List.mem_cons_of_mem _ hx)) iW (ZN aI k o (hok.stable hH p)) eQ (fun j hj W=>?_) (hK p eQ);by_cases hjk:k=j
  ·subst hjk;have hlt:k<listed.size:=by
    rcases Nat.lt_or_ge k listed.size with h'|h'
    ·exact h'
    ·simp[Array.getElem?_eq_none h'] at xG
   simp[hlt] at hj
  ·rw[getD_set_ne true hjk] at hj;have:=lM j hj W;unfold upd;rw[if_neg (fun e=>hjk e.symm)];exact this
theorem qQ {l:List Oper} {Q:Exit->Act->World->Prop} {fuel:Nat} {listed:Array Bool} {a:Act} {w W:World} (R:Rel) (H:Nat->Option Qa) (M:List Bool) (t:Nat) (hs:Region.noSelect l.toArray=true) (ht:qgr l.toArray (QX l.length (l.length-t)) ((qt 0 l M).map (·.1))=true) (dU:Xr l.toArray listed=true) (hB:ZJ l.toArray (QX l.length (l.length-t)) ((qt 0 l M).map (·.1)) listed=true) (nN:Gm l.toArray t (l.length-t) (QX l.length (l.length-t))=true) (hfu:fuel=(qt 0 l M).length+t) (nO:(l.drop (l.length-t)).length=t) (hH:∀ i h,H i=some h->∀ p,qJ R (h.φ p)) (hW:R.r w W) (h:∀ K:Act->qP->Prop,(∀ a' F',(∀ W,R.r w W->(∀ k,F' k W)->wpList P l.toArray Q (l.drop (l.length-t)) a' W)->K a' F')->ZS R P l.toArray w H K (qt 0 l M) a (fun _ _=>True)):wpAny P .any l.toArray Q fuel listed a W:=by
 have h:=h _ (fun a' F' hh=>hh);subst hfu;have key:=Xn (w0:=w) hH hs (fun _ _ h=>h.step) (TA ht) (qt 0 l M) listed a (fun _ _=>True) (Vg dU) (fun x hx=>by obtain⟨j,h1,h2⟩:=Vj l M 0 x hx;refine⟨?_,List.mem_map.2 ⟨x,hx,rfl⟩⟩;rw[h1,Nat.zero_add];simpa using h2) hB (fun _ _ _ _ _=>trivial) ⟨W,hW,fun _=>trivial⟩ (fun _ _ _=>trivial) h;refine VY (w0:=w) hH (t:=t) (Q':=Q) (fun a F W hq hW hF=>?_) _ _ _ _ W (fun _ _ _ _ _=>trivial) hW (fun _=>trivial) key;have:=KG (l.drop (l.length-t)) (l.length-t) _ a W (fun j _=>by rw[List.getElem?_drop];simp) (by rw[nO];exact nN) (hq W hW hF)
 rwa [nO] at this
end
end
def qC (S:Sto):Nat->List It->List It
 |0,xs=>xs
 |h+1,xs=>xs.flatMap fun y=>match qu S y.r.toNat with
  |none=>[]
  |some (_,ys)=>qC S h ys
def ZO (next:Int) (y:It):Bool:=VB y && (decide (y.i≠0) && decide (y.i<next))
def Zs (next:Int):List Vol->List It->Option (List Vol)
 |vs,[]=>some vs
 |vs,y :: r=>if ZO next y=true/\vs.length≠16 then Zs next (vs++[jg y]) r else none
theorem qad (next:Int) (vs:List Vol) (y:It) (r:List It):Zs next vs (y :: r)=if ZO next y=true/\vs.length≠16 then Zs next (vs++[jg y]) r else none:=rfl
theorem zo (S:Sto) (h:Nat) (xs:List It):qC S (h+1) xs=xs.flatMap fun y=>match qu S y.r.toNat with|none=>[]|some (_,ys)=>qC S h ys:=rfl
theorem vA (next:Int):∀ (l m:List It) (vs:List Vol),Zs next vs (l++m)=(Zs next vs l).bind fun vs'=>Zs next vs' m
 | [],m,vs=>rfl
 |y :: r,m,vs=>by
  rw[List.cons_append,qad,qad];split
  ·exact vA next r m _
  ·rfl
theorem VV (next:Int):∀ (l:List It) (vs vs':List Vol),vs.length<=16->Zs next vs l=some vs'->vs'.length<=16
 | [],vs,vs',h,e=>by cases e;exact h
 |y :: r,vs,vs',h,e=>by
  unfold Zs at e;split at e
  ·rename_i hc;exact VV next r _ vs' (by rw[List.length_append,List.length_singleton];have:=hc.2;omega) e
  ·cases e
theorem Yp (next:Int):∀ (l:List It) (vs:List Vol),vs.length<=16->Zs next vs l=if l.all (ZO next)=true/\vs.length+l.length<=16 then some (vs++l.map jg) else none
 | [],vs,h=>by unfold Zs;rw[if_pos ⟨rfl,by simpa using h⟩];simp
 |y :: r,vs,h=>by
  unfold Zs;by_cases hg:ZO next y=true
  ·by_cases hl:vs.length=16
   ·rw[if_neg (fun x=>x.2 hl),if_neg (fun x=>by have:=x.2;simp at this;omega)]
   ·rw[if_pos ⟨hg,hl⟩,Yp next r _ (by rw[List.length_append,List.length_singleton];omega)];simp only[List.all_cons,hg,Bool.true_and,List.length_append,List.length_cons,List.length_nil,List.append_assoc,List.map_cons,List.cons_append,List.nil_append];by_cases h1:r.all (ZO next)=true/\vs.length+(0+1)+r.length<=16
    ·rw[if_pos h1,if_pos ⟨h1.1,zO⟩]
    ·rw[if_neg h1,if_neg (fun x=>h1 ⟨x.1,zO⟩)]
  ·rw[if_neg (fun x=>hg x.1),if_neg (fun x=>by have:=x.1;simp only[List.all_cons,Bool.and_eq_true] at this;exact hg this.1)]
theorem qhs {S:Sto} {xs:List It} {k:Nat} (hk:k<xs.length):qC S 0 (xs.take (k+1))=qC S 0 (xs.take k)++[xs[k]]:=List.take_succ_eq_append_getElem hk
theorem qht {S:Sto} {h:Nat} {xs ys:List It} {lvl:Int} {k:Nat} (hk:k<xs.length) (hn:qu S xs[k].r.toNat=some (lvl,ys)):qC S (h+1) (xs.take (k+1))=qC S (h+1) (xs.take k)++qC S h ys:=by rw[List.take_succ_eq_append_getElem hk,zo,zo,List.flatMap_append];simp[hn]
theorem JB {S:Sto} (h:Nat):qC S h []=[]:=by cases h <;> rfl
theorem qfA {S:Sto} {h:Nat} {xs:List It} {k:Nat} (hk:k<=xs.length):∃ r,qC S h xs=qC S h (xs.take k)++r:=by
 cases h with
 |zero=>exact⟨xs.drop k,(List.take_append_drop k xs).symm⟩
 |succ h =>
  refine⟨qC S (h+1) (xs.drop k),?_⟩;have:=(List.take_append_drop k xs).symm
  conv=>lhs;rw[this]
  rw[zo,zo,zo,List.flatMap_append]
theorem qin {S:Sto} {h:Nat} {xs:List It} {k:Nat} {next:Int} {vs:List Vol} (hk:k<=xs.length) (hb:Zs next vs (qC S h (xs.take k))=none):Zs next vs (qC S h xs)=none:=by obtain⟨r,hr⟩:=qfA (S:=S) (h:=h) hk;rw[hr,vA,hb];rfl
def ZU (vs:List Vol):List Value:=vs.flatMap fun v=>[.int .u32 v.id,.int .i64 v.root,.bool v.fz,.int .u32 v.frm]
theorem qfe (vs:List Vol) (v:Vol):ZU (vs++[v])=ZU vs++[.int .u32 v.id,.int .i64 v.root,.bool v.fz,.int .u32 v.frm]:=by simp[ZU]
structure VolI (p:CP) (w1 w:World) (vs:List Vol) (vv:Value) (ca:Array Value) (refs nodes:Nat->Nat):Prop where
 t:TrI p w1.heap.size w1 w vv ca refs nodes
 own:w.ownsRow w1.heap.size 40 4 vv vs.length (ZU vs)
structure Yy (p:CP) (vv:Value) (w w':World):Prop where
 os:w'.os=w.os
 tape:w'.tape=w.tape
 output:w'.output=w.output
 size:w.heap.size<=w'.heap.size
 block:∀ k,k<w.heap.size->k≠p.cb->vv.ownBlock≠some k->w'.heap[k]?=w.heap[k]?
def ku (vv:Value) (n:Nat) (wE:Value):Prop:=wE.ownBlock=vv.ownBlock\/∃ g,wE.ownBlock=some g/\n<=g
def VolsQ (p:CP) (w1:World) (refs nodes:Nat->Nat) (next:Int) (vs:List Vol) (l:List It) (vv:Value) (w:World) (e:Ending) (w':World):Prop:=
 Yy p vv w w'/\match Zs next vs l with
  |none=>e=.returned (.int .i64 8)
  |some vs'=>e=.returned (.int .i64 0)/\∃ wE ca',VolI p w1 w' vs' wE ca' refs nodes/\ku vv w.heap.size wE
theorem Yy.refl (p:CP) (vv:Value) (w:World):Yy p vv w w:=⟨rfl,rfl,rfl,zM _,fun _ _ _ _=>rfl⟩
theorem Yy.ext {p:CP} {vv:Value} {w w' w'':World} (h:Yy p vv w w') (hx:Ext w' w''):Yy p vv w w'':=
 ⟨hx.os.trans h.os,hx.tape.trans h.tape,hx.output.trans h.output,Nat.le_trans h.size hx.size,fun k h1 h2 h3=>(hx.block k (Nat.lt_of_lt_of_le h1 h.size)).trans (h.block k h1 h2 h3)⟩
theorem Yy.trans {p:CP} {vv wE:Value} {w w' w'':World} (h:Yy p vv w w') (h':Yy p wE w' w'') (hn:ku vv w.heap.size wE):Yy p vv w w'':=
 ⟨h'.os.trans h.os,h'.tape.trans h.tape,h'.output.trans h.output,Nat.le_trans h.size h'.size,fun k h1 h2 h3=>(h'.block k (Nat.lt_of_lt_of_le h1 h.size) h2 (fun e=>by
  rcases hn with x|⟨g,x,y⟩
  ·exact h3 (x ▸ e)
  ·rw[x] at e;cases e;omega)).trans (h.block k h1 h2 h3)⟩
theorem ku.refl (vv:Value) (n:Nat):ku vv n vv:=.inl rfl
theorem ku.trans {vv wE vv'':Value} {n n':Nat} (h:ku vv n wE) (h':ku wE n' vv'') (hn:n<=n'):ku vv n vv'':=by
 rcases h' with x|⟨g,x,y⟩
 ·rcases h with z|⟨g,z,y⟩
  ·exact .inl (x.trans z)
  ·exact .inr ⟨g,x.trans z,y⟩
 ·exact .inr ⟨g,x,zO⟩
theorem VolI.ext {p:CP} {w1 w w':World} {vs:List Vol} {vv:Value} {ca:Array Value} {refs nodes:Nat->Nat} (h:VolI p w1 w vs vv ca refs nodes) (hx:Ext w w'):VolI p w1 w' vs vv ca refs nodes:=⟨h.t.ext hx,za h.own hx⟩
theorem TrI.setVol {p:CP} {B:Nat} {w1 wr:World} {vv:Value} {ca:Array Value} {refs nodes:Nat->Nat} (h:TrI p B w1 wr vv ca refs nodes) (wE:Value):TrI p B w1 (wr.setCell ⟨p.cb,518,none⟩ wE) wE (ca.setIfInBounds 518 wE) refs nodes:=by
 have hs:=h.ar.size;refine⟨h.off.setCell (p:=⟨p.cb,518,none⟩) (.inl rfl) _,qi h.row _ _,⟨by simp[hs],fun a ha=>?_,fun a ha=>?_,?_⟩,fun i hi=>(qep zO hi).trans (h.low i hi),h.lt⟩
 ·rw[Array.getElem?_setIfInBounds,if_neg zO,h.ar.ref a ha]
 ·rw[Array.getElem?_setIfInBounds,if_neg zO,h.ar.node a ha]
 ·rw[Array.getElem?_setIfInBounds,if_pos rfl,if_pos zO]
theorem Yy.grown {p:CP} {sU vv:Value} {w w' w'':World} (h:Yy p sU w w') (hn:ku sU w.heap.size vv) (hg:w'.grownBy w'' vv.ownBlock):Yy p sU w w'':=
 ⟨hg.os.trans h.os,hg.tape.trans h.tape,hg.output.trans h.output,Nat.le_trans h.size hg.size,fun k h1 h2 h3=>(hg.block k (Nat.lt_of_lt_of_le h1 h.size) (fun e=>by
  rcases hn with x|⟨g,x,y⟩
  ·exact h3 (x ▸ e.symm)
  ·rw[x] at e;cases e;omega)).trans (h.block k h1 h2 h3)⟩
theorem Yy.setC {p:CP} {sU u:Value} {w w':World} {i:Nat} (h:Yy p sU w w'):Yy p sU w (w'.setCell ⟨p.cb,i,none⟩ u):=
 ⟨h.os,h.tape,h.output,by simpa using h.size,fun k h1 h2 h3=>(zJ _ _ _ _ (fun e=>h2 e)).trans (h.block k h1 h2 h3)⟩
abbrev qF (s1 s2 s3 s4:Value) (gen root next:Int) (dead:Value):Array Value:=#[s1,s2,s3,s4,.int .u32 gen,.int .i64 root,.int .u32 next,dead]
def VolsC (p:CP) (w1:World) (f:Int->Option Value) (refs nodes:Nat->Nat) (s1 s2 s3 s4:Value) (gen root next:Int) (dead:Value) (h:Nat):Prop:=
 ∀ (xs:List It) (A:Option Addr) (c:Nat) (vs:List Vol) (vv:Value) (ca:Array Value) (w:World),VolI p w1 w vs vv ca refs nodes->vs.length<=16->(∀ x∈xs,Zm x)->xs.length<=5->ZE p.lo w1 (.slice A xs.length c) xs ->
  (qD p.S h xs).isSome=true->(0<h->∀ y∈xs,(f y.r).isSome=true) ->
  Calls prog 85 #[.pointer (some ⟨p.cb,0,none⟩),.agg (qF s1 s2 s3 s4 gen root next dead),jE h A xs.length c] w (VolsQ p w1 refs nodes next vs (qC p.S h xs) vv w)
theorem Ku (a b:K3):qM a b=true↔(a.1<b.1\/(a.1=b.1/\(a.2.1<b.2.1\/(a.2.1=b.2.1/\a.2.2<b.2.2)))):=by simp[qM,Jh]
theorem Kv (a b:K3):qM a b=false↔¬(a.1<b.1\/(a.1=b.1/\(a.2.1<b.2.1\/(a.2.1=b.2.1/\a.2.2<b.2.2)))):=by rw[<-Bool.not_eq_true,Ku]
def leK (a b:K3):Prop:=qM b a=false
theorem TZ (a:K3):leK a a:=by unfold leK;rw[Kv];omega
theorem UZ {a b c:K3} (h:leK a b) (h':qM b c=true):qM a c=true:=by unfold leK at h;rw[Kv] at h;rw[Ku] at *;omega
theorem YY {a b c:K3} (h:qM a b=true) (h':leK b c):qM a c=true:=by unfold leK at h';rw[Kv] at h';rw[Ku] at *;omega
theorem Vt {a b:K3} (h:qM a b=true):leK a b:=by unfold leK;rw[Kv];rw[Ku] at h;omega
theorem Jj {a b c:K3} (h:qM a b=true) (h':qM b c=true):qM a c=true:=YY h (Vt h')
theorem Yb (a:K3):qM a a=false:=TZ a
theorem qdO {a b:K3} (h:leK a b) (h':leK b a):a=b:=by obtain⟨a1,a2,a3⟩:=a;obtain⟨b1,b2,b3⟩:=b;unfold leK at *;rw[Kv] at *;simp only[Prod.mk.injEq] at *;omega
structure Srt (f l:K3) (ys:List It):Prop where
 ord:ys.Pairwise fun a b=>qM (qo a) (qo b)=true
 low:∀ x∈ys,leK f (qo x)
 high:∀ x∈ys,leK (qo x) l
 le:leK f l
theorem Srt.append {f l f' l':K3} {ys zs:List It} (h:Srt f l ys) (h':Srt f' l' zs) (hl:qM l f'=true):Srt f l' (ys++zs):=
 ⟨List.pairwise_append.2 ⟨h.ord,h'.ord,fun a ha b hb=>UZ (h.high a ha) (YY hl (h'.low b hb))⟩,
  fun x hx=>(List.mem_append.1 hx).elim (h.low x) fun hx=>Vt (UZ h.le (YY hl (h'.low x hx))),
  fun x hx=>(List.mem_append.1 hx).elim (fun hx=>Vt (UZ (h.high x hx) (YY hl h'.le))) (h'.high x),
  Vt (UZ h.le (YY hl h'.le))⟩
theorem Srt.one (x:It) {l:K3} (h:leK (qo x) l):Srt (qo x) l [x]:=
 ⟨List.pairwise_singleton _ _,fun y hy=>by rw[List.mem_singleton.1 hy];exact TZ _,fun y hy=>by rw[List.mem_singleton.1 hy];exact h,h⟩
theorem Qt {S:Sto}:∀ (h:Nat) (xs ys:List It),qC S h (xs++ys)=qC S h xs++qC S h ys
 |0,_,_=>rfl
 |h+1,xs,ys=>by rw[zo,zo,zo,List.flatMap_append]
theorem XU (S:Sto) (h:Nat) (H1:∀ y f l,jr S h y=some (f,l)->Srt f l (qC S h [y])) (xs:List It):∀ (k:Nat) (_:k<=xs.length) (p:K3×K3),qD S h (xs.take k)=some (some p)->Srt p.1 p.2 (qC S h (xs.take k))/\Srt p.1 p.2 (xs.take k):=by
 intro k;induction k with
 |zero=>intro _ p e;rw[List.take_zero] at e;cases e
 |succ k ih =>
  intro hk p e;have hlt:k<xs.length:=hk;rw[jV hlt] at e;unfold jF at e;rw[List.take_succ_eq_append_getElem hlt,Qt];rcases hO:jr S h xs[k] with _|⟨f,l⟩
  ·rw[hO] at e;rcases hA:qD S h (xs.take k) with _|a
   ·rw[hA] at e;cases e
   ·rw[hA] at e;cases e
  ·have h1:=H1 _ _ _ hO;rw[hO] at e;rcases hA:qD S h (xs.take k) with _|_|q
   ·rw[hA] at e;cases e
   ·obtain rfl:k=0:=by
     rcases Nat.eq_zero_or_pos k with h0|h0
     ·exact h0
     ·exact absurd hA (Zd h0 zO)
    rw[hA] at e;simp only at e;split at e
    ·rename_i hf;cases e;subst hf;rw[List.take_zero,JB];exact⟨h1,Srt.one _ h1.le⟩
    ·cases e
   ·obtain⟨i1,i2⟩:=ih zO q hA;rw[hA] at e;simp only at e;split at e
    ·rename_i hf;split at e
     ·rename_i hl;cases e;subst hf;exact⟨i1.append h1 hl,i2.append (Srt.one _ h1.le) hl⟩
     ·cases e
    ·cases e
theorem qdW (S:Sto):∀ (h:Nat) (y:It) (f l:K3),jr S h y=some (f,l)->Srt f l (qC S h [y])
 |0,y,f,l,e=>by
  unfold jr at e;split at e
  ·cases e;exact Srt.one y (TZ _)
  ·cases e
 |h+1,y,f,l,e=>by
  rw[Vv] at e;unfold Va at e;split at e
  ·rcases hn:qu S y.r.toNat with _|⟨lvl,xs⟩
   ·rw[hn] at e;cases e
   ·rw[hn] at e;simp only at e;split at e
    ·rcases hs:qD S h xs with _|_|q
     ·rw[hs] at e;cases e
     ·rw[hs] at e;cases e
     ·rw[hs] at e;cases e;have:=(XU S h (qdW S h) xs xs.length (zM _) _ (by rw[List.take_length];exact hs)).1;rw[List.take_length] at this;rw[zo];simp only[List.flatMap_cons,List.flatMap_nil,List.append_nil,hn];exact this
    ·cases e
  ·cases e
theorem UE {S:Sto} {h:Nat} {xs:List It} {p:K3×K3} (hs:qD S h xs=some (some p)):Srt p.1 p.2 (qC S h xs)/\Srt p.1 p.2 xs:=by
 have:=XU S h (qdW S h) xs xs.length (zM _) p (by rw[List.take_length];exact hs)
 rwa [List.take_length] at this
theorem VR {S:Sto} {h:Nat} {xs:List It} (hs:(qD S h xs).isSome=true):(qC S h xs).Pairwise (fun a b=>qM (qo a) (qo b)=true)/\xs.Pairwise (fun a b=>qM (qo a) (qo b)=true):=by
 rcases hq:qD S h xs with _|_|p
 ·rw[hq] at hs;cases hs
 ·rcases Nat.eq_zero_or_pos xs.length with h0|h0
  ·obtain rfl:=List.eq_nil_of_length_eq_zero h0;rw[JB];exact⟨List.Pairwise.nil,List.Pairwise.nil⟩
  ·exact absurd (by rw[List.take_length];exact hq) (Zd (S:=S) (h:=h) h0 (zM xs.length))
 ·exact⟨(UE hq).1.ord,(UE hq).2.ord⟩
theorem Yf {xs:List It} (h:xs.Pairwise fun a b=>qM (qo a) (qo b)=true) {i j:Nat} (hij:i<j) (hj:j<xs.length):qM (qo (xs[i]'(by omega))) (qo xs[j])=true:=List.pairwise_iff_getElem.1 h i j _ hj hij
theorem JT {S:Sto} {h:Nat} {xs:List It} (hs:(qD S h xs).isSome=true) (k:Nat):(qD S h (xs.take k)).isSome=true:=by
 rcases hq:qD S h (xs.take k) with _|q
 ·rw[qdo hq] at hs;cases hs
 ·rfl
theorem qkj {S:Sto} {h:Nat} {xs:List It} (hs:(qD S h xs).isSome=true) {i:Nat} (hi:i+1<xs.length) {k:K3} (hk:qM k (qo xs[i+1])=false):∀ x∈qC S h [xs[i]],qM (qo x) k=true:=by
 intro x hx;have h2:=JT hs (i+1+1);rw[jV hi] at h2;unfold jF at h2;rcases hA:qD S h (xs.take (i+1)) with _|_|q
 ·rw[hA] at h2;cases h2
 ·exact absurd hA (Zd zO zO)
 ·have hm:=(UE hA).1.high x (by rw[List.take_succ_eq_append_getElem zO,Qt];exact List.mem_append_right _ hx);rw[hA] at h2;rcases hO:jr S h xs[i+1] with _|⟨f,l⟩
  ·rw[hO] at h2;cases h2
  ·rw[hO] at h2;simp only at h2;split at h2
   ·rename_i hf;split at h2
    ·rename_i hl;rw[hf] at hl;exact UZ hm (YY hl hk)
    ·cases h2
   ·cases h2
def QR (S:Sto) (h:Nat) (from_:K3) (xs:List It):List It:=(qC S h xs).filter fun x=>!qM (qo x) from_
theorem GF {S:Sto} {h:Nat} {k:K3} (xs ys:List It):QR S h k (xs++ys)=QR S h k xs++QR S h k ys:=by unfold QR;rw[Qt,List.filter_append]
theorem qjM {S:Sto} {h:Nat} {xs:List It} (hs:(qD S h xs).isSome=true) {i:Nat} (hi:i+1<xs.length) {k:K3} (hk:qM k (qo xs[i+1])=false):QR S h k [xs[i]]=[]:=by unfold QR;rw[List.filter_eq_nil_iff];intro x hx;simp[qkj hs hi hk x hx]
def vG (S:Sto) (h:Nat) (a b:K3) (xs:List It):List It:=(qC S h xs).filter fun x=>!qM (qo x) a && !qM b (qo x)
theorem qaK (S:Sto) (h:Nat) (a b:K3) (xs:List It):vG S h a b xs=(QR S h a xs).filter fun x=>!qM b (qo x):=by unfold vG QR;rw[List.filter_filter];congr 1;funext x;rw[Bool.and_comm]
theorem from_ord {S:Sto} {h:Nat} {xs:List It} {k:K3} (hs:(qD S h xs).isSome=true):(QR S h k xs).Pairwise fun a b=>qM (qo a) (qo b)=true:=(VR hs).1.sublist List.filter_sublist
theorem qeW {S:Sto} {h:Nat} {a b:K3} {xs:List It} (hb:∀ x∈QR S h a xs,qM b (qo x)=false):vG S h a b xs=QR S h a xs:=by rw[qaK,List.filter_eq_self];intro x hx;simp[hb x hx]
theorem qdD {S:Sto} {h:Nat} {a b:K3} {xs pre rest:List It} {x:It} (hs:(qD S h xs).isSome=true) (he:QR S h a xs=pre++x :: rest) (hp:∀ y∈pre,qM b (qo y)=false) (hx:qM b (qo x)=true):vG S h a b xs=pre:=by
 have ho:=from_ord (k:=a) hs;rw[he] at ho;obtain⟨-,o2,-⟩:=List.pairwise_append.1 ho;rw[List.pairwise_cons] at o2;rw[qaK,he,List.filter_append];have e1:pre.filter (fun x=>!qM b (qo x))=pre:=by rw[List.filter_eq_self];intro y hy;simp[hp y hy]
 have e2:(x :: rest).filter (fun x=>!qM b (qo x))=[]:=by
  rw[List.filter_eq_nil_iff];intro y hy;rcases List.mem_cons.1 hy with rfl|hy
  ·simp[hx]
  ·simp[Jj hx (o2.1 y hy)]
 rw[e1,e2,List.append_nil]
def qA (xs:List It) (k:K3):Nat:=(xs.filter fun x=>qM (qo x) k).length
theorem Jl (xs:List It) (k:K3):qA xs k<=xs.length:=List.length_filter_le _ _
theorem qhQ {xs:List It} {k:K3} {i:Nat} (h:i<xs.length):qA (xs.take (i+1)) k=qA (xs.take i) k+(if qM (qo xs[i]) k=true then 1 else 0):=by
 unfold qA;rw[List.take_succ_eq_append_getElem h,List.filter_append,List.length_append];congr 1;by_cases hl:qM (qo xs[i]) k=true
 ·rw[if_pos hl];simp[hl]
 ·rw[if_neg hl];simp[hl]
theorem Jk:∀ {xs:List It} {k:K3},xs.Pairwise (fun a b=>qM (qo a) (qo b)=true)->∀ i (h:i<xs.length),(qM (qo xs[i]) k=true↔i<qA xs k)
 | [],_,_,i,h=>absurd h (Nat.not_lt_zero _)
 |x :: r,k,ho,i,h=>by
  rw[List.pairwise_cons] at ho;by_cases hx:qM (qo x) k=true
  ·have e:qA (x :: r) k=qA r k+1:=by simp[qA,hx]
   cases i with
   |zero=>simp[hx,e]
   |succ i=>rw[e];have:=Jk (k:=k) ho.2 i (by simpa using h);simpa using this
  ·have ax:∀ y∈r,qM (qo y) k=false:=fun y hy=>by
    rcases hz:qM (qo y) k with _|_
    ·rfl
    ·exact absurd (Jj (ho.1 y hy) hz) hx
   have e:qA (x :: r) k=0:=by
    unfold qA;have:r.filter (fun x=>qM (qo x) k)=[]:=by rw[List.filter_eq_nil_iff];intro y hy;simp[ax y hy]
    simp[hx,this]
   rw[e];cases i with
   |zero=>simp[hx]
   |succ i =>
    have hi:i<r.length:=by simpa using h
    simp[ax r[i] (List.getElem_mem hi)]
theorem qby {p:It->Bool} {xs:List It} {i:Nat} (h:i<xs.length) (hp:p xs[i]=true) (hn:∀ j (hj:j<xs.length),i<j->p xs[j]=false):xs.reverse.find? p=some xs[i]:=by
 have e:xs=xs.take i++xs[i] :: xs.drop (i+1):=by rw[<-List.drop_eq_getElem_cons h,List.take_append_drop]
 have e2:xs.reverse=(xs.drop (i+1)).reverse++xs[i] :: (xs.take i).reverse:=by
  conv=>lhs;rw[e]
  simp
 rw[e2,List.find?_append];have e3:(xs.drop (i+1)).reverse.find? p=none:=by rw[List.find?_eq_none];intro y hy;rw[List.mem_reverse] at hy;obtain⟨j,hj,rfl⟩:=List.mem_iff_getElem.1 hy;rw[List.length_drop] at hj;rw[List.getElem_drop];simp[hn (i+1+j) zO zO]
 rw[e3,List.find?_cons_of_pos hp];rfl
theorem qgk {p:It->Bool} {xs:List It} (hn:∀ j (hj:j<xs.length),p xs[j]=false):xs.reverse.find? p=none:=by rw[List.find?_eq_none];intro y hy;rw[List.mem_reverse] at hy;obtain⟨j,hj,rfl⟩:=List.mem_iff_getElem.1 hy;simp[hn j hj]
def TM (xs:List It) (k:K3):Option It:=xs.reverse.find? fun x=>!qM k (qo x)
def leafS (xs:List It) (k:K3):Option It:=xs.reverse.find? fun x=>decide (qo x=k)
def Uj (S:Sto) (k:K3):Nat->List It->Option It
 |0,xs=>leafS xs k
 |h+1,xs=>match TM xs k with
  |none=>none
  |some y=>match qu S y.r.toNat with
   |none=>none
   |some (_,ys)=>Uj S k h ys
theorem qfU (S:Sto) (k:K3) (xs:List It):Uj S k 0 xs=leafS xs k:=rfl
theorem one_down {S:Sto} {k:K3} {h:Nat} {xs ys:List It} {y:It} {lvl:Int} (hd:TM xs k=some y) (hn:qu S y.r.toNat=some (lvl,ys)):Uj S k (h+1) xs=Uj S k h ys:=by show (match TM xs k with|none=>none|some y=>match qu S y.r.toNat with|none=>none|some (_,ys)=>Uj S k h ys)=_;rw[hd];simp only;rw[hn]
theorem one_none {S:Sto} {k:K3} {h:Nat} {xs:List It} (hd:TM xs k=none):Uj S k (h+1) xs=none:=by show (match TM xs k with|none=>none|some y=>match qu S y.r.toNat with|none=>none|some (_,ys)=>Uj S k h ys)=_;rw[hd]
section
variable {xs:List It} {k:K3} (ho:xs.Pairwise fun a b=>qM (qo a) (qo b)=true)
include ho
theorem leaf_is (hp:qA xs k<xs.length) (he:qo (xs[qA xs k]'hp)=k):leafS xs k=some xs[qA xs k]:=by refine qby hp (by simp[he]) fun j hj hlt=>?_;have:=Yf ho hlt hj;rw[he] at this;rw[decide_eq_false_iff_not];intro h;rw[h,Yb] at this;cases this
theorem leaf_no (hn:∀ hp:qA xs k<xs.length,qo (xs[qA xs k]'hp)≠k):leafS xs k=none:=by
 refine qgk fun j hj=>?_;rw[decide_eq_false_iff_not];intro h;have h1:¬j<qA xs k:=fun hl=>by have:=(Jk (k:=k) ho j hj).2 hl;rw[h,Yb] at this;cases this
 have h2:¬qA xs k<j:=fun hl=>by have h3:=Yf ho hl hj;rw[h] at h3;exact absurd ((Jk (k:=k) ho _ zO).1 h3) (Nat.lt_irrefl _)
 have h4:qA xs k=j:=zO;subst h4;exact hn hj h
theorem down_is (hp:qA xs k<xs.length) (he:qo (xs[qA xs k]'hp)=k):TM xs k=some xs[qA xs k]:=by refine qby hp (by simp[he,Yb]) fun j hj hlt=>?_;have:=Yf ho hlt hj;rw[he] at this;simp[this]
theorem down_no (h0:qA xs k=0) (hn:∀ hp:qA xs k<xs.length,qo (xs[qA xs k]'hp)≠k):TM xs k=none:=by
 refine qgk fun j hj=>?_;have h1:qM (qo xs[j]) k=false:=by
  rcases hz:qM (qo xs[j]) k with _|_
  ·rfl
  ·have:=(Jk ho j hj).1 hz;omega
 rcases hz:qM k (qo xs[j]) with _|_
 ·have he:qo xs[j]=k:=qdO hz h1;rcases Nat.eq_zero_or_pos j with hj0|hj0
  ·subst hj0;exact absurd (by simpa [h0] using he) (hn zO)
  ·have h3:=Yf ho (i:=0) hj0 hj;rw[he] at h3;have:=(Jk ho 0 zO).1 h3;omega
 ·simp
theorem qfq (h0:0<qA xs k) (hn:∀ hp:qA xs k<xs.length,qo (xs[qA xs k]'hp)≠k):TM xs k=some (xs[qA xs k-1]'(by have:=Jl xs k;omega)):=by
 have hle:=Jl xs k;refine qby zO ?_ fun j hj hlt=>?_
 ·have:=(Jk (k:=k) ho (qA xs k-1) zO).2 zO;have h2:qM k (qo (xs[qA xs k-1]'(by omega)))=false:=Vt this;simp[h2]
 ·have h1:qM (qo xs[j]) k=false:=by
   rcases hz:qM (qo xs[j]) k with _|_
   ·rfl
   ·have:=(Jk ho j hj).1 hz;omega
  rcases hz:qM k (qo xs[j]) with _|_
  ·have he:qo xs[j]=k:=qdO hz h1;by_cases hjp:qA xs k=j
   ·subst hjp;exact absurd he (hn hj)
   ·have h3:=Yf ho (show qA xs k<j by omega) hj;rw[he] at h3;have:=(Jk ho _ zO).1 h3;omega
  ·simp
end
theorem qjV {S:Sto}:∀ {h:Nat} {xs:List It} {x:It},x∈qC S h xs->∃ (j:Nat) (hj:j<xs.length),x∈qC S h [xs[j]]
 |0,xs,x,hx=>by obtain⟨j,hj,rfl⟩:=List.mem_iff_getElem.1 hx;exact⟨j,hj,List.mem_singleton.2 rfl⟩
 |h+1,xs,x,hx=>by rw[zo] at hx;obtain⟨y,hy,hx⟩:=List.mem_flatMap.1 hx;obtain⟨j,hj,rfl⟩:=List.mem_iff_getElem.1 hy;exact⟨j,hj,by rw[zo];exact List.mem_flatMap.2 ⟨_,List.mem_singleton.2 rfl,hx⟩⟩
theorem one_low {S:Sto} {h:Nat} {xs:List It} (hs:(qD S h xs).isSome=true) {j:Nat} (hj:j<xs.length) {x:It} (hx:x∈qC S h [xs[j]]):leK (qo xs[j]) (qo x):=by
 have h2:=JT hs (j+1);rw[jV hj] at h2;unfold jF at h2;rcases hA:qD S h (xs.take j) with _|a
 ·rw[hA] at h2;cases h2
 ·rcases hO:jr S h xs[j] with _|⟨f,l⟩
  ·rw[hA,hO] at h2;cases h2
  ·rw[hA,hO] at h2;simp only at h2;split at h2
   ·rename_i hf;subst hf;exact(qdW S h _ _ _ hO).low x hx
   ·cases h2
theorem items_lt {S:Sto} {h:Nat} {xs:List It} (hs:(qD S h xs).isSome=true) {i:Nat} (hi:i<xs.length) {x:It} (hx:x∈qC S h (xs.take i)):qM (qo x) (qo xs[i])=true:=by
 rcases Nat.eq_zero_or_pos i with h0|h0
 ·subst h0;rw[List.take_zero,JB] at hx;cases hx
 ·obtain⟨j,rfl⟩:∃ j,i=j+1:=⟨i-1,zO⟩
  have h2:=JT hs (j+1+1);rw[jV hi] at h2;unfold jF at h2;rcases hA:qD S h (xs.take (j+1)) with _|_|q
  ·rw[hA] at h2;cases h2
  ·exact absurd hA (Zd zO zO)
  ·have hm:=(UE hA).1.high x hx;rw[hA] at h2;rcases hO:jr S h xs[j+1] with _|⟨f,l⟩
   ·rw[hO] at h2;cases h2
   ·rw[hO] at h2;simp only at h2;split at h2
    ·rename_i hf;split at h2
     ·rename_i hl;rw[hf] at hl;exact UZ hm hl
     ·cases h2
    ·cases h2
end Go.Proofs.YtpbniokljofedaaGreat
