/- Lemmas of the proof. -/
import Derived.Test.YtmeadnlmepcmbaaGreatZG06
set_option linter.all false
set_option maxHeartbeats 8000000
open Go.Proofs.Tryz
namespace Go.Proofs.YtmeadnlmepcmbaaGreat
open Go.RowKit
section
variable {R:Rel}
section
variable {P:Program} {ops:Array Oper} {w0:World}
def vQ(ops:Array Oper)(listed:Array Bool):Prop:=∀(i:Nat)(o:Oper),ops[i]?=some o->listed.getD i false=true->∀k∈qN o,listed.getD k false=true
def Te(ops:Array Oper)(listed:Array Bool):Bool:=(List.range ops.size).all λi=>!(listed.getD i false)||(match ops[i]? with|some o=>(qN o).all λk=>listed.getD k false|none=>true)
theorem vp{listed:Array Bool}(h:Te ops listed=true):vQ ops listed:=by intro i o ho hi k hk;have h1:=List.all_eq_true.1 h i (List.mem_range.2 (zG.1 ho).1);rw[hi,ho]at h1;simp only[Bool.not_true,Bool.false_or]at h1;exact List.all_eq_true.1 h1 k hk
theorem VD{listed:Array Bool}{j:Nat}(hj:j∈Region.ready .any ops listed){o:Oper}(ho:ops[j]?=some o):∀k∈qN o,listed.getD k false=true:=by intro k hk;obtain⟨_,o',ho',hCV⟩:=mem_ready.1 hj;rw[ho]at ho';cases ho';obtain⟨e,he,hei⟩:=List.mem_map.1 hk;rw[List.mem_filter]at he;rw[<-hei];exact hCV e (by simpa using he.1) he.2
theorem Vl{listed:Array Bool}{j k:Nat}(h:listed.getD k false=true):(listed.setIfInBounds j true).getD k false=true:=by
 rcases Nat.lt_or_ge k listed.size with h'|h'
 ·simp only[Array.getD_eq_getD_getElem?,Array.getElem?_setIfInBounds]at h⊢;by_cases e:j=k
  ·subst e;simp[h']
  ·rw[if_neg e];exact h
 ·simp[Array.getElem?_eq_none h']at h
theorem vQ.step{listed:Array Bool}{j:Nat}(h:vQ ops listed)(hj:j∈Region.ready .any ops listed):vQ ops (listed.setIfInBounds j true):=by
 intro i o ho hi k hk;by_cases e:i=j
 ·subst e;exact Vl (VD hj ho k hk)
 ·refine Vl (h i o ho ?_ k hk);simp only[Array.getD_eq_getD_getElem?,Array.getElem?_setIfInBounds]at hi⊢
  rwa [if_neg (λx=>e x.symm)]at hi
def TK(ops:Array Oper):Nat->Nat->Nat->Bool
 |0,_,_=>false
 |n+1,j,k=>match ops[j]? with
  |some o=>(qN o).contains k||(qN o).any λi=>TK ops n i k
  |none=>false
theorem vJ{listed:Array Bool}(h:vQ ops listed):∀(n j k:Nat),(∀o,ops[j]?=some o->∀i∈qN o,listed.getD i false=true)->TK ops n j k=true->listed.getD k false=true
 |0,_,_,_,hw=>by cases hw
 |n+1,j,k,hp,hw=>by
  unfold TK at hw;split at hw
  ·rename_i o ho;rw[Bool.or_eq_true]at hw;rcases hw with hw|hw
   ·exact hp o ho k (by simpa using hw)
   ·obtain⟨i,hi,hw⟩:=List.any_eq_true.1 hw;exact vJ h n i k (λo' ho'=>h i o' ho' (hp o ho i hi)) hw
  ·cases hw
def qhu(ops:Array Oper)(L:Array Bool)(ks:List Nat):Bool:=(List.range ops.size).all λj=>L.getD j true||ks.all λk=>TK ops 9 j k
theorem YX{L:Array Bool}{ks:List Nat}(h:qhu ops L ks=true):∀(listed:Array Bool)(j:Nat),vQ ops listed->j∈Region.ready .any ops listed->L.getD j true=false->∀k,k∈ks->listed.getD k false=true:=by intro listed j hc hj hm k hk;obtain⟨_,o,ho,_⟩:=mem_ready.1 hj;have h1:=List.all_eq_true.1 h j (List.mem_range.2 (zG.1 ho).1);rw[hm,Bool.false_or]at h1;exact vJ hc 9 j k (λo' ho'=>VD hj ho') (List.all_eq_true.1 h1 k hk)
theorem qdv{H:Nat->Option qZ}(hH:∀i h,H i=some h->∀p,qS R (h.φ p)){A:Nat->Prop}{Cl:Array Bool->Prop}{L:Array Bool}{Q:Act->qO->Prop}{i:Nat}{oi:Oper}(hi:ops[i]?=some oi)(him:A i)(hMM:∀(j:Nat)(o:Oper)cs b,ops[j]?=some o->o.op≠.select cs b)(hcl:∀listed j,Cl listed->j∈Region.ready .any ops listed->Cl (listed.setIfInBounds j true))(hFA:∀(listed:Array Bool)(j:Nat),Cl listed->j∈Region.ready .any ops listed->L.getD j true=false->∀k,A k->listed.getD k false=true):∀(fuel:Nat)(listed:Array Bool)(a:Act)(F:qO),Cl listed -> (∀j oj,ops[j]?=some oj->j≠i->listed.getD j true=false->(∀e∈oj.after,Region.binds .any e=true->e.on≠i)->oi.apart ops oj=true) ->
   i∈Region.ready .any ops listed->(∀k,qS R (F k))->Xm R w0 F->(∀k,listed.getD k true=false->∀W,F k W) ->
   FOpG R P ops w0 H i oi (kz R P ops w0 H L Q fuel (listed.setIfInBounds i true)) a F->kz R P ops w0 H L Q (fuel+1) listed a F:=by
 intro fuel;induction fuel with
 |zero=>
  intro listed a F hCl _ hr hst hc _ hop;refine⟨λh=>(by rw[h]at hr;cases hr),λj hj oj hoj=>?_⟩;by_cases hji:j=i
  ·subst hji;rw[hi]at hoj;cases hoj;exact hop
  ·exfalso;obtain⟨h,hok,hK⟩:=hop;obtain⟨p,hcp⟩:=hok.some_ hc hst;have hmj:L.getD j true=false:=by rw[<-(hK p hcp).1];exact(mem_ready.1 (ready_mono hj hji)).1
   have h1:=hFA listed j hCl hj hmj i him;have h0:=(mem_ready.1 hr).1;rcases Nat.lt_or_ge i listed.size with h'|h'
   ·simp[h']at h0 h1;rw[h0]at h1;cases h1
   ·simp[Array.getElem?_eq_none h']at h1
 |succ fuel ih=>
  intro listed a F hCl hGT hr hst hc hun hop;refine⟨λh=>(by rw[h]at hr;cases hr),λj hj oj hoj=>?_⟩;by_cases hji:j=i
  ·subst hji;rw[hi]at hoj;cases hoj;exact hop
  ·obtain⟨hFD,oj',hNS,hCV⟩:=mem_ready.1 hj;rw[hoj]at hNS;cases hNS;obtain⟨hOA,oi',hQB,hMB⟩:=mem_ready.1 hr;rw[hi]at hQB;cases hQB;have bad:∀k,listed.getD k true=false->listed.getD k false=true->False:=λk h0 h1=>by
    rcases Nat.lt_or_ge k listed.size with h'|h'
    ·simp[h']at h0 h1;rw[h0]at h1;cases h1
    ·simp[Array.getElem?_eq_none h']at h1
   have hPR:∀e∈oj.after,Region.binds .any e=true->e.on≠i:=λe he hb heq=>bad i hOA (heq▸hCV e he hb);have hPZ:∀e∈oi.after,Region.binds .any e=true->e.on≠j:=λe he hb heq=>bad j hFD (heq▸hMB e he hb);have hpi:i∉qN oj:=λhin=>by obtain⟨e,he,hei⟩:=List.mem_map.1 hin;rw[List.mem_filter]at he;exact hPR e (by simpa using he.1) he.2 hei
   have hpj:j∉qN oi:=λhin=>by obtain⟨e,he,hei⟩:=List.mem_map.1 hin;rw[List.mem_filter]at he;exact hPZ e (by simpa using he.1) he.2 hei
   have hap:=hGT j oj hoj hji hFD hPR;have hsi:∀cs b,oi.op≠.select cs b:=λcs b=>hMM i oi cs b hi;have hsj:∀cs b,oj.op≠.select cs b:=λcs b=>hMM j oj cs b hoj;obtain⟨h2,_⟩:=(Oper.apart_spec hap).2;obtain⟨hI,okI,hKI⟩:=hop;obtain⟨p0,hVV⟩:=okI.some_ hc hst;obtain⟨hJ,okJ0,_⟩:=(hKI p0 hVV).2 j (ready_mono hj hji) oj hoj;have okJ:jy R P ops w0 H j oj a F hJ:=(jy.move hap hsj hpi).1 okJ0;refine⟨hJ,okJ,λq hcq=>?_⟩;have stJ:=okJ.stable hH q;have hKX:∀k ok,ops[k]?=some ok->k≠i->(listed.setIfInBounds j true).getD k true=false ->
     (∀e∈ok.after,Region.binds .any e=true->e.on≠i)->oi.apart ops ok=true:=λk ok hk hki hQQ hno=>by
    refine hGT k ok hk hki ?_ hno;by_cases hjk:j=k
    ·subst hjk;exact hFD
    ·rw[getD_set_ne true hjk]at hQQ;exact hQQ
   refine ih (listed.setIfInBounds j true) _ _ (hcl _ _ hCl hj) hKX (ready_mono hr (Ne.symm hji)) (jd hst j oj stJ) hcq ?_ ?_
   ·intro k hk W;by_cases hjk:j=k
    ·subst hjk;exfalso;have hlt:j<listed.size:=by
      rcases Nat.lt_or_ge j listed.size with h'|h'
      ·exact h'
      ·simp[Array.getElem?_eq_none h']at hFD
     simp[hlt]at hk
    ·rw[getD_set_ne true hjk]at hk;have:=hun k hk W;unfold upd;rw[if_neg (λe=>hjk e.symm)];exact this
   ·refine⟨hI,(jy.move' hap hsi hpj).2 okI,λp hcp=>?_⟩;have hXX:Xm R w0 (upd F i oi (hI.φ p)):=by
     obtain⟨W,hW,hF⟩:=hcp;refine⟨W,hW,λk=>?_⟩;have hk:=hF k;by_cases hki:k=i
     ·subst hki;unfold upd at hk⊢;rw[if_pos rfl]at hk⊢;refine⟨hk.1,λl hl=>?_⟩;have:=hk.2 l hl
      rwa [if_neg (λe=>hpj (by rw[<-e];exact hl))]at this
     ·by_cases hkj:k=j
      ·subst hkj;unfold upd;rw[if_neg hki];exact hun k hFD W
      ·unfold upd at hk⊢;rw[if_neg hki,if_neg hkj]at hk;rw[if_neg hki];exact hk
    obtain⟨hJ',okJ',hXS⟩:=(hKI p hXX).2 j (ready_mono hj hji) oj hoj;have okJ'':jy R P ops w0 H j oj a F hJ':=(jy.move hap hsj hpi).1 okJ';have e:=okJ''.unique hc okJ;subst e;have hq:=hXS q (by rw[VI F _ _ (Ne.symm hji) hpi hpj];exact hcp);rw[Array.setIfInBounds_comm _ _ (λe=>hji e.symm),Act.put_comm a (hI.f p) (hJ'.f q) h2,VI F _ _ (Ne.symm hji) hpi hpj]at hq;exact hq
theorem Ta{H:Nat->Option qZ}(hH:∀i h,H i=some h->∀p,qS R (h.φ p)){Cl:Array Bool->Prop}{L:Array Bool}{ks:List Nat}{Q:Act->qO->Prop}(hs:Region.noSelect ops=true)(hcl:∀listed j,Cl listed->j∈Region.ready .any ops listed->Cl (listed.setIfInBounds j true))(hFA:∀(listed:Array Bool)(j:Nat),Cl listed->j∈Region.ready .any ops listed->L.getD j true=false->∀k,k∈ks->listed.getD k false=true):∀(l:List (Nat×Oper))(listed:Array Bool)(a:Act)(F:qO),Cl listed->(∀x∈l,ops[x.1]?=some x.2/\x.1∈ks) ->
  ZP ops L (l.map (·.1)) listed=true->(∀k,qS R (F k))->Xm R w0 F->(∀j,listed.getD j true=false->∀W,F j W)->jG R P ops w0 H Q l a F->kz R P ops w0 H L Q l.length listed a F
 |[],listed,a,F,_,_,hB,_,_,_,h=>⟨by simpa [ZP]using hB,h⟩
 |(k,o)::l,listed,a,F,hCl,hl,hB,hst,hc,hun,h=>by
  obtain⟨h0,hks⟩:=hl (k,o) (List.mem_cons_self);simp only[List.map_cons,ZP,Bool.and_eq_true]at hB;obtain⟨⟨hr,hf⟩,hB'⟩:=hB;have hrk:k∈Region.ready .any ops listed:=by simpa using hr
  have hWF:=(mem_ready.1 hrk).1;refine qdv (A:=λk=>k∈ks) hH h0 hks (Region.noSelect_spec hs) hcl hFA l.length listed a F hCl (Region.free_spec h0 hf) hrk hst hc hun ?_;obtain⟨hh,hok,hK⟩:=h;refine⟨hh,hok,λp hcp=>?_⟩;refine Ta hH hs hcl hFA l _ _ _ (hcl _ _ hCl hrk) (λx hx=>hl x (List.mem_cons_of_mem _ hx)) hB' (jd hst k o (hok.stable hH p)) hcp (λj hj W=>?_) (hK p hcp);by_cases hjk:k=j
  ·subst hjk;have hlt:k<listed.size:=by
    rcases Nat.lt_or_ge k listed.size with h'|h'
    ·exact h'
    ·simp[Array.getElem?_eq_none h']at hWF
   simp[hlt]at hj
  ·rw[getD_set_ne true hjk]at hj;have:=hun j hj W;unfold upd;rw[if_neg (λe=>hjk e.symm)];exact this
theorem qX{l:List Oper}{Q:Exit->Act->World->Prop}{fuel:Nat}{listed:Array Bool}{a:Act}{w W:World}(R:Rel)(H:Nat->Option qZ)(M:List Bool)(t:Nat)(hs:Region.noSelect l.toArray=true)(ht:qhu l.toArray (zv l.length (l.length-t)) ((qw 0 l M).map (·.1))=true)(hc0:Te l.toArray listed=true)(hB:ZP l.toArray (zv l.length (l.length-t)) ((qw 0 l M).map (·.1)) listed=true)(hVC:GZ l.toArray t (l.length-t) (zv l.length (l.length-t))=true)(hfu:fuel=(qw 0 l M).length+t)(htl:(l.drop (l.length-t)).length=t)(hH:∀i h,H i=some h->∀p,qS R (h.φ p))(hW:R.r w W)(h:∀K:Act->qO->Prop,(∀a' F',(∀W,R.r w W->(∀k,F' k W)->wpList P l.toArray Q (l.drop (l.length-t)) a' W)->K a' F')->jG R P l.toArray w H K (qw 0 l M) a (λ_ _=>True)):wpAny P .any l.toArray Q fuel listed a W:=by
 have h:=h _ (λa' F' hh=>hh);subst hfu;have key:=Ta (w0:=w) hH hs (λ_ _ h=>h.step) (YX ht) (qw 0 l M) listed a (λ_ _=>True) (vp hc0) (λx hx=>by obtain⟨j,h1,h2⟩:=vx l M 0 x hx;refine⟨?_,List.mem_map.2 ⟨x,hx,rfl⟩⟩;rw[h1,Nat.zero_add];simpa using h2) hB (λ_ _ _ _ _=>trivial) ⟨W,hW,λ_=>trivial⟩ (λ_ _ _=>trivial) h;refine Kp (w0:=w) hH (t:=t) (Q':=Q) (λa F W hq hW hF=>?_) _ _ _ _ W (λ_ _ _ _ _=>trivial) hW (λ_=>trivial) key;have:=kM (l.drop (l.length-t)) (l.length-t) _ a W (λj _=>by rw[List.getElem?_drop];simp) (by rw[htl];exact hVC) (hq W hW hF)
 rwa [htl]at this
end
end
def qu(S:Sto):Nat->List It->List It
 |0,xs=>xs
 |h+1,xs=>xs.flatMap λy=>match qk S y.r.toNat with
  |none=>[]
  |some (_,ys)=>qu S h ys
def je(next:Int)(y:It):Bool:=VS y&&(decide (y.i≠0)&&decide (y.i<next))
def Zg(next:Int):List Vol->List It->Option (List Vol)
 |vs,[]=>some vs
 |vs,y::r=>if je next y=true/\vs.length≠16 then Zg next (vs++[ZR y]) r else none
theorem KK(next:Int)(vs:List Vol)(y:It)(r:List It):Zg next vs (y::r)=if je next y=true/\vs.length≠16 then Zg next (vs++[ZR y]) r else none:=rfl
theorem zu(S:Sto)(h:Nat)(xs:List It):qu S (h+1) xs=xs.flatMap λy=>match qk S y.r.toNat with|none=>[]|some (_,ys)=>qu S h ys:=rfl
theorem Vq(next:Int):∀(l m:List It)(vs:List Vol),Zg next vs (l++m)=(Zg next vs l).bind λvs'=>Zg next vs' m
 |[],m,vs=>rfl
 |y::r,m,vs=>by
  rw[List.cons_append,KK,KK];split
  ·exact Vq next r m _
  ·rfl
theorem Kn(next:Int):∀(l:List It)(vs vs':List Vol),vs.length<=16->Zg next vs l=some vs'->vs'.length<=16
 |[],vs,vs',h,e=>by cases e;exact h
 |y::r,vs,vs',h,e=>by
  unfold Zg at e;split at e
  ·rename_i hc;exact Kn next r _ vs' (by rw[List.length_append,List.length_singleton];have:=hc.2;omega) e
  ·cases e
theorem Xa(next:Int):∀(l:List It)(vs:List Vol),vs.length<=16->Zg next vs l=if l.all (je next)=true/\vs.length+l.length<=16 then some (vs++l.map ZR)else none
 |[],vs,h=>by unfold Zg;rw[if_pos ⟨rfl,by simpa using h⟩];simp
 |y::r,vs,h=>by
  unfold Zg;by_cases hg:je next y=true
  ·by_cases hl:vs.length=16
   ·rw[if_neg (λx=>x.2 hl),if_neg (λx=>by have:=x.2;simp at this;omega)]
   ·rw[if_pos ⟨hg,hl⟩,Xa next r _ (by rw[List.length_append,List.length_singleton];omega)];simp only[List.all_cons,hg,Bool.true_and,List.length_append,List.length_cons,List.length_nil,List.append_assoc,List.map_cons,List.cons_append,List.nil_append];by_cases h1:r.all (je next)=true/\vs.length+(0+1)+r.length<=16
    ·rw[if_pos h1,if_pos ⟨h1.1,zO⟩]
    ·rw[if_neg h1,if_neg (λx=>h1 ⟨x.1,zO⟩)]
  ·rw[if_neg (λx=>hg x.1),if_neg (λx=>by have:=x.1;simp only[List.all_cons,Bool.and_eq_true]at this;exact hg this.1)]
theorem qiu{S:Sto}{xs:List It}{k:Nat}(hk:k<xs.length):qu S 0 (xs.take (k+1))=qu S 0 (xs.take k)++[xs[k]]:=List.take_succ_eq_append_getElem hk
theorem qiv{S:Sto}{h:Nat}{xs ys:List It}{lvl:Int}{k:Nat}(hk:k<xs.length)(hn:qk S xs[k].r.toNat=some (lvl,ys)):qu S (h+1) (xs.take (k+1))=qu S (h+1) (xs.take k)++qu S h ys:=by rw[List.take_succ_eq_append_getElem hk,zu,zu,List.flatMap_append];simp[hn]
theorem jQ{S:Sto}(h:Nat):qu S h []=[]:=by cases h<;>rfl
theorem qgD{S:Sto}{h:Nat}{xs:List It}{k:Nat}(hk:k<=xs.length):∃r,qu S h xs=qu S h (xs.take k)++r:=by
 cases h with
 |zero=>exact⟨xs.drop k,(List.take_append_drop k xs).symm⟩
 |succ h=>
  refine⟨qu S (h+1) (xs.drop k),?_⟩;have:=(List.take_append_drop k xs).symm
  conv=>lhs;rw[this]
  rw[zu,zu,zu,List.flatMap_append]
theorem qjg{S:Sto}{h:Nat}{xs:List It}{k:Nat}{next:Int}{vs:List Vol}(hk:k<=xs.length)(hb:Zg next vs (qu S h (xs.take k))=none):Zg next vs (qu S h xs)=none:=by obtain⟨r,hr⟩:=qgD (S:=S) (h:=h) hk;rw[hr,Vq,hb];rfl
def ZT(vs:List Vol):List Value:=vs.flatMap λv=>[.int .u32 v.id,.int .i64 v.root,.bool v.fz,.int .u32 v.frm]
theorem qak(vs:List Vol)(v:Vol):ZT (vs++[v])=ZT vs++[.int .u32 v.id,.int .i64 v.root,.bool v.fz,.int .u32 v.frm]:=by simp[ZT]
structure VolI(p:CP)(w1 w:World)(vs:List Vol)(vv:Value)(ca:Array Value)(refs nodes:Nat->Nat):Prop where
 t:TrI p w1.heap.size w1 w vv ca refs nodes
 own:w.ownsRow w1.heap.size 36 4 vv vs.length (ZT vs)
structure Xh(p:CP)(vv:Value)(w w':World):Prop where
 os:w'.os=w.os
 tape:w'.tape=w.tape
 output:w'.output=w.output
 size:w.heap.size<=w'.heap.size
 block:∀k,k<w.heap.size->k≠p.cb->vv.ownBlock≠some k->w'.heap[k]?=w.heap[k]?
def Ks(vv:Value)(n:Nat)(vv':Value):Prop:=vv'.ownBlock=vv.ownBlock\/∃g,vv'.ownBlock=some g/\n<=g
def VolsQ(p:CP)(w1:World)(refs nodes:Nat->Nat)(next:Int)(vs:List Vol)(l:List It)(vv:Value)(w:World)(e:Ending)(w':World):Prop:=
 Xh p vv w w'/\match Zg next vs l with
  |none=>e=.returned (.int .i64 8)
  |some vs'=>e=.returned (.int .i64 0)/\∃vv' ca',VolI p w1 w' vs' vv' ca' refs nodes/\Ks vv w.heap.size vv'
theorem Xh.refl(p:CP)(vv:Value)(w:World):Xh p vv w w:=⟨rfl,rfl,rfl,zM _,λ_ _ _ _=>rfl⟩
theorem Xh.ext{p:CP}{vv:Value}{w w' w'':World}(h:Xh p vv w w')(hx:Ext w' w''):Xh p vv w w'':=
 ⟨hx.os.trans h.os,hx.tape.trans h.tape,hx.output.trans h.output,Nat.le_trans h.size hx.size,λk h1 h2 h3=>(hx.block k (Nat.lt_of_lt_of_le h1 h.size)).trans (h.block k h1 h2 h3)⟩
theorem Xh.trans{p:CP}{vv vv':Value}{w w' w'':World}(h:Xh p vv w w')(h':Xh p vv' w' w'')(hn:Ks vv w.heap.size vv'):Xh p vv w w'':=
 ⟨h'.os.trans h.os,h'.tape.trans h.tape,h'.output.trans h.output,Nat.le_trans h.size h'.size,λk h1 h2 h3=>(h'.block k (Nat.lt_of_lt_of_le h1 h.size) h2 (λe=>by
  rcases hn with x|⟨g,x,y⟩
  ·exact h3 (x▸e)
  ·rw[x]at e;cases e;omega)).trans (h.block k h1 h2 h3)⟩
theorem Ks.refl(vv:Value)(n:Nat):Ks vv n vv:=.inl rfl
theorem Ks.trans{vv vv' vv'':Value}{n n':Nat}(h:Ks vv n vv')(h':Ks vv' n' vv'')(hn:n<=n'):Ks vv n vv'':=by
 rcases h' with x|⟨g,x,y⟩
 ·rcases h with z|⟨g,z,y⟩
  ·exact .inl (x.trans z)
  ·exact .inr ⟨g,x.trans z,y⟩
 ·exact .inr ⟨g,x,zO⟩
theorem VolI.ext{p:CP}{w1 w w':World}{vs:List Vol}{vv:Value}{ca:Array Value}{refs nodes:Nat->Nat}(h:VolI p w1 w vs vv ca refs nodes)(hx:Ext w w'):VolI p w1 w' vs vv ca refs nodes:=⟨h.t.ext hx,zh h.own hx⟩
theorem TrI.setVol{p:CP}{B:Nat}{w1 wr:World}{vv:Value}{ca:Array Value}{refs nodes:Nat->Nat}(h:TrI p B w1 wr vv ca refs nodes)(vv':Value):TrI p B w1 (wr.setCell ⟨p.cb,518,none⟩ vv') vv' (ca.setIfInBounds 518 vv') refs nodes:=by
 have hs:=h.ar.size;refine⟨h.off.setCell (p:=⟨p.cb,518,none⟩) (.inl rfl) _,qo h.row _ _,⟨by simp[hs],λa ha=>?_,λa ha=>?_,?_⟩,λi hi=>(qfx zO hi).trans (h.low i hi),h.lt⟩
 ·rw[Array.getElem?_setIfInBounds,if_neg zO,h.ar.ref a ha]
 ·rw[Array.getElem?_setIfInBounds,if_neg zO,h.ar.node a ha]
 ·rw[Array.getElem?_setIfInBounds,if_pos rfl,if_pos zO]
theorem Xh.grown{p:CP}{vv0 vv:Value}{w w' w'':World}(h:Xh p vv0 w w')(hn:Ks vv0 w.heap.size vv)(hg:w'.grownBy w'' vv.ownBlock):Xh p vv0 w w'':=
 ⟨hg.os.trans h.os,hg.tape.trans h.tape,hg.output.trans h.output,Nat.le_trans h.size hg.size,λk h1 h2 h3=>(hg.block k (Nat.lt_of_lt_of_le h1 h.size) (λe=>by
  rcases hn with x|⟨g,x,y⟩
  ·exact h3 (x▸e.symm)
  ·rw[x]at e;cases e;omega)).trans (h.block k h1 h2 h3)⟩
theorem Xh.setC{p:CP}{vv0 u:Value}{w w':World}{i:Nat}(h:Xh p vv0 w w'):Xh p vv0 w (w'.setCell ⟨p.cb,i,none⟩ u):=
 ⟨h.os,h.tape,h.output,by simpa using h.size,λk h1 h2 h3=>(zJ _ _ _ _ (λe=>h2 e)).trans (h.block k h1 h2 h3)⟩
abbrev Qk(s1 s2 s3 s4:Value)(gen root next:Int)(dead:Value):Array Value:=#[s1,s2,s3,s4,.int .u32 gen,.int .i64 root,.int .u32 next,dead]
def VolsC(p:CP)(w1:World)(f:Int->Option Value)(refs nodes:Nat->Nat)(s1 s2 s3 s4:Value)(gen root next:Int)(dead:Value)(h:Nat):Prop:=
 ∀(xs:List It)(A:OA)(c:Nat)(vs:List Vol)(vv:Value)(ca:Array Value)(w:World),VolI p w1 w vs vv ca refs nodes->vs.length<=16->(∀x∈xs,QY x)->xs.length<=5->ZB p.lo w1 (.slice A xs.length c) xs ->
  (qz p.S h xs).isSome=true->(0<h->∀y∈xs,(f y.r).isSome=true) ->
  Calls prog 111 #[.pointer (some ⟨p.cb,0,none⟩),.agg (Qk s1 s2 s3 s4 gen root next dead),jL h A xs.length c] w (VolsQ p w1 refs nodes next vs (qu p.S h xs) vv w)
theorem Tryz.info_vol:(Tryz.prog.info? 36).map (λi=>(i.zero,i.size,i.bytes))=some (some (.agg #[.int .u32 0,.int .i64 0,.bool false,.int .u32 0]),4,24):=zQ
abbrev vol4(v:Vol):Array Value:=#[.int .u32 v.id,.int .i64 v.root,.bool v.fz,.int .u32 v.frm]
structure VRel(p:CP)(w1:World)(refs nodes:Nat->Nat)(pcs:Array Value)(next:Int)(vs0:List Vol)(xs:List It)(h:Nat)(A:OA)(c:Nat)(vv0:Value)(w:World)(i:Value)(wr:World):Prop where
 ex:∃(k:Nat)(vs:List Vol)(vv:Value)(ca:Array Value),k<=xs.length/\i=.int .i64 (k:Int)/\Zg next vs0 (qu p.S h (xs.take k))=some vs/\vs.length<=16/\VolI p w1 wr vs vv ca refs nodes/\Xh p vv0 w wr/\Ks vv0 w.heap.size vv /\
  (∀q,vv.ownBlock=some q->q≠w.heap.size/\q≠w.heap.size+1)/\wr.heap[w.heap.size]?=some (.cells pcs 32 (0,0))/\wr.heap[w.heap.size+1]?=some (.cells #[.int .i64 h,.slice A xs.length c] 113 (0,0))
set_option maxRecDepth 100000 in
theorem qhE(p:CP)(w1:World)(f:Int->Option Value)(refs nodes:Nat->Nat)(s1 s2 s3 s4:Value)(gen root next:Int)(dead:Value)(hC:Cen p w1 f)(h:Nat)(HL:∀h',h=h'+1->VolsC p w1 f refs nodes s1 s2 s3 s4 gen root next dead h'):VolsC p w1 f refs nodes s1 s2 s3 s4 gen root next dead h:=by
 intro xs A c vs0 vv0 ca0 w HI hvl hxs hlen hBC hsp hkn;have hlo:=QM HI.own;replace⟨hC,HI,hxs,hBC,hsp,hkn⟩:=zH6 hC HI hxs hBC hsp hkn;replace⟨hlo,HL,hvl⟩:=zH3 hlo HL hvl;go_enter func111,ntmps111;go_wp2;generalize hw2:(World.alloc (World.alloc _ _) _)=w2;have x2:Ext w w2:=by rw[<-hw2];exact(zN _ _).trans (zN _ _)
 have q2:w2.heap[w.heap.size]?=some (.cells (Qk s1 s2 s3 s4 gen root next dead) 32 (0,0)):=by rw[<-hw2];exact(zK _ _ _ zA3).trans (zI _ _ _ rfl)
 have n2:w2.heap[w.heap.size+1]?=some (.cells #[.int .i64 h,.slice A xs.length c] 113 (0,0)):=by rw[<-hw2];exact zI _ _ _ zA3
 clear hw2;have I0:VRel p w1 refs nodes (Qk s1 s2 s3 s4 gen root next dead) next vs0 xs h A c vv0 w (.int .i64 0) w2:=by
  refine⟨0,vs0,vv0,ca0,Nat.zero_le _,rfl,?_,hvl.out,HI.out.ext x2,(Xh.refl _ _ _).ext x2,Ks.refl _ _,λq hq=>?_,q2,n2⟩
  ·rw[List.take_zero,jQ];rfl
  ·have:=(hlo.out q hq).2;omega
 replace I0:=zH I0;clear x2 q2 n2;go_loopw [15] (λi wr=>VRel p w1 refs nodes (Qk s1 s2 s3 s4 gen root next dead) next vs0 xs h A c vv0 w i wr) (λi _=>xs.length-(intOf i).toNat)
 case atStart=>exact I0.out
 case round=>
  obtain⟨k,vs,vv,ca,hk,rfl,hgo,hvs,V,F,hZS,hnq,qr,nr⟩:=hrel.ex;clear I0;by_cases hlt:k<xs.length
  ·have hCB:=hlt;obtain⟨b9,off9,rfl,hb9⟩:=hBC.out.its.at_.2.2.2 zO;obtain⟨A',c',d0,d1,d2,d3,d4,hby⟩:=(V.t.its hC.out hBC.out).its.item k hCB;have hxk:=hxs.out xs[k] (List.getElem_mem hCB);have HLEAF:Hid (h=0->qu p.S h (xs.take (k+1))=qu p.S h (xs.take k)++[xs[k]]):=zH λe=>by rw[e];exact qiu hCB
   have HNODE:Hid (∀h' ys lvl,h=h'+1->qk p.S xs[k].r.toNat=some (lvl,ys)->qu p.S h (xs.take (k+1))=qu p.S h (xs.take k)++qu p.S h' ys):=zH λh' ys lvl e hn=>by rw[e];exact qiv hCB hn
   have HONE:=zH (QG hsp.out xs[k] (List.getElem_mem hCB));have HKN:=zH (λh0=>hkn.out h0 xs[k] (List.getElem_mem hCB));have HBAD:=zH (λhb=>@qjg p.S h xs (k+1) next vs0 hCB hb);generalize xs[k]=x at*;have kn:=qa nr;replace⟨V,F,hZS,hnq,hgo,hby⟩:=zH6 V F hZS hnq hgo hby;replace hxk:=zH hxk;have hz:w.heap.size+1<wr.heap.size:=(zG.1 nr).1;replace hvs:=zH hvs;rcases Nat.eq_zero_or_pos h with hh|hh
   ·have hd:decide ((h:Int)>0)=false:=decide_eq_false zO;have hd3:¬0<h:=zO;replace hh:=zH hh;go_wp2_with fail;generalize hw3:World.alloc wr _=w3;have x3:Ext wr w3:=by rw[<-hw3];exact zN _ _
    clear hw3 d0 d1 d2 d3 d4;refine(qjh x hxk.out A' c' w3 ((hby.out.below x3).more x3.size)).mono ?_;rintro e w4 ⟨u,rfl,⟨v',rfl,hv'⟩,hB⟩;have x4:=x3.trans hB;clear hB x3;have hER:Zg next vs0 (qu p.S h (xs.take (k+1)))=if je next x=true/\vs.length≠16 then some (vs++[ZR x])else none:=by rw[HLEAF.out hh.out,Vq,hgo.out];rfl
    have HB8:Hid (¬(je next x=true/\vs.length≠16)->∀W,Ext wr W->VolsQ p w1 refs nodes next vs0 (qu p.S h xs) vv0 w (.returned (.int .i64 8)) W):=zH λhb W hx=>
     ⟨F.out.ext hx,by rw[HBAD.out (by rw[hER,if_neg hb])]⟩
    have V4:=V.out.ext x4;obtain⟨AV,cV,rfl,-,-⟩:=qG V4.own;have kc:w4.cell? ⟨p.cb,518,none⟩=some (.slice AV vs.length cV):=by rw[qa V4.t.row];exact V4.t.ar.vol
    have kq4:=qa (qb qr x4);have hcb4:p.cb<w4.heap.size:=(zG.1 V4.t.row).1;have hqz4:w.heap.size<w4.heap.size:=by have:=x4.size;omega
    replace hER:=zH hER;rcases hiv:VS x with _|_
    ·have HB:=HB8.out (λhh=>by have:=hh.1;unfold je at this;rw[hiv]at this;cases this);replace⟨HB,hiv⟩:=zH2 HB hiv;clear kc kq4 V4;go_wp2_with fail;go_ret;exact HB.out _ (x4.trans (zN _ _))
    ·have hve:=hv' hiv;have hid:v'.id=x.i:=by rw[hve];rfl
     have hgd:je next x=(decide (x.i≠0)&&decide (x.i<next)):=by unfold je;rw[hiv,Bool.true_and]
     replace⟨hiv,hve⟩:=zH2 hiv hve;rcases Int.decEq v'.id 0 with hi0|hi0
     ·rcases Int.decLt v'.id next with hi1|hi1
      ·have HB:=HB8.out (λhh=>by have:=hh.1;rw[hgd]at this;simp at this;omega);have hg1:decide (v'.id≥next)=true:=decide_eq_true zO;replace⟨HB,hid,hgd⟩:=zH3 HB hid hgd;clear hi1 hv' V4;go_wp2_with fail;go_ret;exact HB.out _ (x4.trans (zN _ _))
      ·have hg1:decide (v'.id≥next)=false:=decide_eq_false zO;have hg2:decide (next<=v'.id)=false:=decide_eq_false zO;rcases Nat.decEq vs.length 16 with h16|h16
       ·have hf1:((vs.length:Int)==16)=false:=by rw[beq_eq_false_iff_ne];omega
        have hok:je next x=true:=by rw[hgd];simp;omega
        replace⟨hok,hid,hgd,V4⟩:=zH4 hok hid hgd V4;clear hi1 hv';have h16':=zH h16;go_wp2_with fail;generalize hw5:World.alloc w4 _=w5;have x45:Ext w4 w5:=by rw[<-hw5];exact zN _ _
        have r5:w5.heap[w4.heap.size]?=some (.cells (vol4 v') 36 (0,0)):=by rw[<-hw5];exact zI _ _ _ rfl
        clear hw5 kc kq4 h16 hf1 hg1 hg2 hi0;have x5:=x4.trans x45;have V5:=V4.out.ext x45;have q5:=qb qr x5;have nr5:=qb nr x5;have hol:=QM V5.own;have wMT:=V5.t.lt;have hbase5:=V5.t.off.size;have hvs5:=hvs.out;have hn4:(Value.slice AV vs.length cV).ownBlock≠some w4.heap.size:=λe=>by have:=(QM V4.out.own _ e).2;omega
        have hnc:(Value.slice AV vs.length cV).ownBlock≠some p.cb:=λe=>by have:=(hol _ e).1;omega
        obtain⟨RR,hRR⟩:∃RR:Rel,RR=KP w1.heap.size 36 4 w5.heap.size (.slice AV vs.length cV) vs.length (ZT vs) (vs.length+1) (ZT vs++(vol4 v').toList):=⟨_,rfl⟩
        replace hRR:=zH hRR;have gV:∀W,RR.r w5 W->W.cell? ⟨p.cb,518,none⟩=some (.slice AV vs.length cV):=λW h=>jY (hRR.out▸h) hnc (by rw[qa V5.t.row];exact V5.t.ar.vol);have gv:∀W,RR.r w5 W->∀i,W.cell? ⟨w4.heap.size,i,none⟩=(vol4 v')[i]?:=λW h=>qa (kQ (hRR.out▸h) hn4 r5);refine qt zQ ?_;refine qX (w:=w5) RR (qQ [(6,jg w5.heap.size 1 36 (vol4 v')),(7,UY w1.heap.size 36 4 w5.heap.size (.slice AV vs.length cV) (vs.length+1) (ZT vs++(vol4 v').toList))])
         [true,true,true,true,true,true,true,true] 3 zQ zQ zQ zQ zQ zQ zQ ?st (Rel.drew _ _) ?walk
        case st=>rw[hRR.out];exact qi (by simp only[List.forall_mem_cons];exact⟨XN (λg hg=>by have:=hol g hg;omega),qbd,λ_ h=>by cases h⟩)
        case walk=>
         intro K hK;dsimp only[qw];refine zB8 ?_;refine qH (jg w5.heap.size 1 36 (vol4 v')) zA0 zA0 (λW hW _=>?_) (λ(pb:Nat)=>?_)
         ·rw[hRR.out]at hW⊢;refine qat ?_ hW.1.size;go_simp
         simp only[Act.put,qe,qc,qf,qy,JS,zA,zB,zC];refine qH (UY w1.heap.size 36 4 w5.heap.size (.slice AV vs.length cV) (vs.length+1) (ZT vs++(vol4 v').toList)) zA0 zA0 (λW hW hp=>?_) (λ(p7:OA×Nat)=>?_)
         ·rw[hRR.out]at hW⊢;obtain⟨i0,hi,hz0,hz1,hz2⟩:=info_parts Tryz.info_vol;obtain⟨hJW,_⟩:=(hp 6 zA1).1;obtain⟨v2,w',hEQ,hD,hR'⟩:=Xe (P:=prog) (lo:=w5.heap.size) W 91 91 i0 _ 24 underlying91 hi hz0 hz1 hz2 rfl zA1 (hW.2.1 V5.own) ⟨pb,0,none⟩ 1 1 (vol4 v').toList rfl (qhm hJW) zA8 zO zA1 (by have:=hW.1.size;omega) hW.1.size;obtain⟨A2,c2,rfl,_,_⟩:=qG hD.1;refine jP (u:=.slice A2 (vs.length+1) c2) (w':=w') ?_ ⟨(A2,c2),rfl,hD,hR'⟩;exact qaq (s:=.tmp 67) (x:=.tmp 69) rfl rfl rfl hEQ
         obtain⟨A2,c2⟩:=p7;refine zB8 ?_;refine qD (hK _ _ λW hW hF=>?_);have hD:=(hF 7).1;clear hF hK gV gv;rw[hRR.out]at hW;change Done _ _ _ _ _ _ _ _ W at hD;refine zB6 ?_;have TW:=V5.t.grown hW.1 (λq hq=>(hol q hq).1);have T6:=TW.setVol (.slice A2 (vs.length+1) c2);have own6:=VC hD.1 (p:=⟨p.cb,518,none⟩) wMT (.slice A2 (vs.length+1) c2);have hcw:p.cb<w.heap.size:=Nat.lt_of_lt_of_le wMT HI.out.t.off.size;have q6:(W.setCell ⟨p.cb,518,none⟩ (.slice A2 (vs.length+1) c2)).heap[w.heap.size]?=_:=(zJ _ _ _ _ (by show w.heap.size≠p.cb;omega)).trans (kQ hW (λe=>(hnq.out _ e).1 rfl) q5);have n6:(W.setCell ⟨p.cb,518,none⟩ (.slice A2 (vs.length+1) c2)).heap[w.heap.size+1]?=_:=(zJ _ _ _ _ (by show w.heap.size+1≠p.cb;omega)).trans (kQ hW (λe=>(hnq.out _ e).2 rfl) nr5);have F6:=((F.out.ext x5).grown hZS.out hW.1).setC (i:=518) (u:=.slice A2 (vs.length+1) c2);have N6:Ks vv0 w.heap.size (.slice A2 (vs.length+1) c2):=Ks.trans hZS.out (n':=w5.heap.size) hD.2 (by have:=F.out.size;have:=x5.size;omega);have B6:∀q,(Value.slice A2 (vs.length+1) c2).ownBlock=some q->q≠w.heap.size/\q≠w.heap.size+1:=by
          intro q hq;rcases hD.2 with e|⟨g,e,e2⟩
          ·exact hnq.out q (e▸hq)
          ·rw[e]at hq;cases hq;have:=x5.size;omega
         have kc:=qa TW.row;have kv:=TW.ar.vol;have fc:=qg TW.row;have IR:VRel p w1 refs nodes (Qk s1 s2 s3 s4 gen root next dead) next vs0 xs h (some ⟨b9,off9,none⟩) c vv0 w (.int .i64 ((k:Int)+1)) (W.setCell ⟨p.cb,518,none⟩ (.slice A2 (vs.length+1) c2)):=by
          refine⟨k+1,vs++[v'],_,_,hCB,rfl,?_,?_,⟨T6,?_⟩,F6,N6,B6,q6,n6⟩
          ·rw[hER.out,if_pos ⟨hok.out,h16'.out⟩,hve.out]
          ·rw[List.length_append,List.length_singleton];have:=h16'.out;omega
          ·rw[List.length_append,List.length_singleton,qak];exact own6
         replace IR:=zH IR;clear T6 own6 q6 n6 F6 N6 B6 hW hD q5 nr5 V5 r5 x5 x4 x45;replace TW:=zH TW;go_wp2;refine Qn ?_;go_wp2_with fail;refine⟨IR.out,?_⟩;simp[intOf];omega
       ·have hf1:((vs.length:Int)==16)=true:=by rw[beq_iff_eq];omega
        have HB:=HB8.out (λhh=>hh.2 h16);replace⟨HB,hid,hgd,h16⟩:=zH4 HB hid hgd h16;clear hi1 hv' V4;go_wp2_with fail;go_ret;exact HB.out _ (x4.trans (zN _ _))
     ·have HB:=HB8.out (λhh=>by have:=hh.1;rw[hgd]at this;simp at this;omega);replace⟨HB,hid,hgd⟩:=zH3 HB hid hgd;clear hv' V4 kc kq4;go_wp2_with fail;go_ret;exact HB.out _ (x4.trans (zN _ _))
   ·have hd:decide ((h:Int)>0)=true:=decide_eq_true zO;have hd2:decide (0<h)=true:=decide_eq_true hh;replace hh:=zH hh;obtain⟨h',hh'⟩:∃h',h=h'+1:=⟨h-1,by have:=hh.out;omega⟩
    obtain⟨b,hxr,hb1,hb2,ys,hnode,hsy⟩:=QE (hh'▸HONE.out);obtain⟨v9,hv9⟩:=Option.isSome_iff_exists.1 (HKN.out hh.out);obtain⟨n9,lv9,ys',A9,c9,f9,l9,b9',e9,-,-,hn9,rfl,hUT,wHW,wGO⟩:=hC.out.known _ _ hv9;obtain rfl:b=n9:=zO;rw[hnode,Option.some.injEq,Prod.mk.injEq]at hn9;obtain⟨e1,rfl⟩:=hn9;obtain rfl:h'=lv9:=zO;have hMAP:=hC.out.map;have hmay:=(qF hnode).1;have hys:=λy hy=>((qF hnode).2.1 y hy).1;have wYT:ys.length<=5:=by unfold Qj ZZ at hmay;simp at hmay;omega
    have hyk:0<h'->∀y∈ys,(f y.r).isSome=true:=λh0=>wGO (by rw[wHW.1];exact hsy) h0;have HN2:=HNODE.out h' ys h' hh' (by rw[hxr,Int.toNat_natCast];exact hnode);have HCALL:=HL.out h' hh' ys A9 c9 vs vv ca;rw[hxr]at d3 hv9;have hfn:=qjE;replace⟨hh',hxr,hnode,hsy,hUT,hys⟩:=zH6 hh' hxr hnode hsy hUT hys;replace⟨hyk,HN2,HCALL,hv9⟩:=zH4 hyk HN2 HCALL hv9;clear wHW wGO hmay e9 e1;replace hMAP:=zH hMAP;go_wp2_with fail;generalize hw3:World.alloc wr _=w3;have x3:Ext wr w3:=by rw[<-hw3];exact zN _ _
    have r3:w3.heap[wr.heap.size]?=some (.cells #[.int .u8 x.k,.int .u32 x.i,.int .u32 x.o,.int .i64 b,.slice A' x.val.length c'] 51 (0,0)):=by rw[<-hw3];exact zI _ _ _ rfl
    clear hw3 d0 d1 d2 d3 d4;have V3:=V.out.ext x3;have C3:=V3.t.cen hC.out;have gP:∀W,qj.r w3 W->∀i,W.cell? ⟨w.heap.size,i,none⟩=(Qk s1 s2 s3 s4 gen root next dead)[i]?:=λW h=>qa (qb (qb qr x3) h);have gX:∀W,qj.r w3 W->∀i,W.cell? ⟨wr.heap.size,i,none⟩=#[.int .u8 x.k,.int .u32 x.i,.int .u32 x.o,.int .i64 b,.slice A' x.val.length c'][i]?:=λW h=>qa (qb r3 h);have gM:∀W,qj.r w3 W->W.cell? ⟨p.cb,5,none⟩=some (.map (some p.mb)):=λW h=>by rw[qa (qb C3.row h)];exact C3.c5
    refine qt zQ ?_;refine qX (w:=w3) qj (qQ []) [true,true,true,true,true,true,true,true,true,true] 2 zQ zQ zQ zQ zQ zQ zQ ?st2 (Rel.drew _ _) ?walk2
    case st2=>exact qi (λ_ h=>by cases h)
    case walk2=>
     intro K hK;dsimp only[qw];refine zB8 ?_;refine qd (jN h' A9 ys.length c9 f9 l9 b9') zA0 zA0 (λW hW _=>⟨W,?_,Rel.refl _ W⟩) ?_
     ·have hWx:Ext w3 W:=hW;have hm:=XW (P:=prog) W (C3.ext hWx).map 93 3 156 underlying93 underlying3 hv9.out;go_simp
     refine zB8 ?_;refine qD (hK _ _ λW hW hF=>?_);have hWx:Ext w3 W:=hW;have x4:=x3.trans hWx;clear hF hK gP gX gM hfn;refine zB6 ?_;have VW:=V.out.ext x4;have qW:=qb qr x4;have nW:=qb nr x4;clear hW hWx x3 r3 V3 C3;replace VW:=zH VW;go_wp2_with fail;refine(HCALL.out W VW.out hvs.out hys.out wYT hUT.out hsy.out hyk.out).mono ?_;rintro e w6 ⟨F6,hm⟩;have hER:Zg next vs0 (qu p.S h (xs.take (k+1)))=Zg next vs (qu p.S h' ys):=by rw[HN2.out,Vq,hgo.out];rfl
     have FW:=(F.out.ext x4).trans F6 hZS.out;have hcw:p.cb<w.heap.size:=Nat.lt_of_lt_of_le V.out.t.lt HI.out.t.off.size;have hzW:w.heap.size+1<W.heap.size:=(zG.1 nW).1;have q6:=(F6.block w.heap.size zO zO (λe=>(hnq.out _ e).1 rfl)).trans qW;have n6:=(F6.block (w.heap.size+1) zO zO (λe=>(hnq.out _ e).2 rfl)).trans nW;rcases hg6:Zg next vs (qu p.S h' ys)with _|vs'
     ·rw[hg6]at hm hER;obtain rfl:e=.returned (.int .i64 8):=hm;have HB:VolsQ p w1 refs nodes next vs0 (qu p.S h xs) vv0 w (.returned (.int .i64 8)) w6:=⟨FW,by rw[HBAD.out hER]⟩
      replace HB:=zH HB;clear q6 n6 FW F6 hER x4 qW nW;go_wp2_with fail;refine Qn ?_;go_wp2_with fail;go_ret;exact HB.out
     ·rw[hg6]at hm hER;obtain⟨rfl,vv',ca',V6,N6⟩:=hm;have IR:VRel p w1 refs nodes (Qk s1 s2 s3 s4 gen root next dead) next vs0 xs h (some ⟨b9,off9,none⟩) c vv0 w (.int .i64 ((k:Int)+1)) w6:=by
       refine⟨k+1,vs',vv',ca',hCB,rfl,hER,Kn next _ _ _ hvs.out hg6,V6,FW,Ks.trans hZS.out N6 zO,λq hq=>?_,q6,n6⟩;rcases N6 with e|⟨g,e,e2⟩
       ·exact hnq.out q (e▸hq)
       ·rw[e]at hq;cases hq;omega
      replace IR:=zH IR;clear q6 n6 FW F6 hER x4 qW nW V6 N6;go_wp2_with fail;refine Qn ?_;go_wp2_with fail;refine⟨IR.out,?_⟩;simp[intOf];omega
  ·have hke:k=xs.length:=zO;have HQ:VolsQ p w1 refs nodes next vs0 (qu p.S h xs) vv0 w (.returned (.int .i64 0)) wr:=by rw[hke,List.take_length]at hgo;exact⟨F,by rw[hgo];exact⟨rfl,vv,ca,V,hZS⟩⟩
   replace⟨HQ,V,F,hZS,hnq,hgo⟩:=zH6 HQ V F hZS hnq hgo;replace hke:=zH hke;clear qr nr;go_wp2;go_ret;exact HQ.out
def TreeQ(p:CP)(R:List Nat)(r:Int)(vv:Value)(w:World)(f:Int->Option Value)(e:Ending)(w':World):Prop:=
 e=.returned (.int .i64 (if okL p.S (-1) r=true then 0 else 8))/\w'.os=w.os/\w'.tape=w.tape/\w'.output=w.output/\w.heap.size<=w'.heap.size/\(∀k,k<w.heap.size->k≠p.cb->k≠p.mb->w'.heap[k]?=w.heap[k]?) /\
  (okL p.S (-1) r=true->∃ca g refs nodes,Cen (p.put ca) w' g/\vN f g/\Ar ca refs nodes vv/\Qz p.S (R++[r.toNat]) refs nodes/\Gz p.S g (R++[r.toNat]))
theorem Tryz.info_int:(Tryz.prog.info? 3).map (λi=>(i.zero,i.size,i.bytes))=some (some (.int .i64 0),1,8):=zQ
structure TRel(p:CP)(w1:World)(vv:Value)(R:List Nat)(v:Value)(wr:World):Prop where
 ex:∃(s:List Nat)(rf nd:Nat->Nat)(ca:Array Value),lenV v=s.length/\wr.ownsRow w1.heap.size 3 1 v s.length (XC s)/\TrI p w1.heap.size w1 wr vv ca rf nd/\Wk p.S R rf nd s
structure IRel(p:CP)(w1:World)(vv:Value)(s':List Nat)(lv9:Nat)(xs:List It)(rf nd':Nat->Nat)(nb:Nat)(A9:OA)(c9:Nat)(v i:Value)(wq:World):Prop where
 ex:∃(k:Nat)(rf':Nat->Nat)(ca':Array Value),k<=xs.length/\i=.int .i64 (k:Int)/\(∀x,rf' x=rf x+(Ya xs k).count x)/\lenV v=(s'++ZV lv9 xs k).length /\
  wq.ownsRow w1.heap.size 3 1 v (s'++ZV lv9 xs k).length (XC (s'++ZV lv9 xs k))/\(∀q,v.ownBlock=some q->q≠nb)/\TrI p w1.heap.size w1 wq vv ca' rf' nd' /\
  wq.heap[nb]?=some (.cells #[.int .i64 lv9,.slice A9 xs.length c9] 113 (0,0))
set_option maxRecDepth 100000 in
theorem tree_any(p:CP)(R:List Nat)(hRl:R.length<=100)(r:Int)(w:World)(f:Int->Option Value)(refs nodes:Nat->Nat)(vv:Value)(hC:Cen p w f)(hA:Ar p.ca refs nodes vv)(hN:Qz p.S R refs nodes)(hR:Gz p.S f R):Calls prog 112 #[.pointer (some ⟨p.cb,0,none⟩),.int .i64 r] w (TreeQ p R r vv w f):=by
 replace⟨hC,hA,hN,hR⟩:=zH4 hC hA hN hR;have hfi:=field_is;have hfn:=qjE;go_enter func112,ntmps112;go_wp2_with fail;refine(qbS p r w f hC.out).mono ?_;rintro e w1 ⟨v,g,rfl,⟨lvl,A,n,c,fk,lk,rfl,hHD⟩,hgr,hm,hg,hn⟩;have C1:=hC.out.after hgr hm hg hn;rcases hok:okL p.S (-1) r with _|_
 ·have HQ:TreeQ p R r vv w f (.returned (.int .i64 8)) w1:=⟨by rw[hok];rfl,hg.os,hg.tape,hg.output,hg.size,λk h1 _ h2=>hg.block k h1 zA2,λh=>by rw[hok]at h;cases h⟩
  replace⟨HQ,C1⟩:=zH2 HQ C1;clear hHD hgr hm hg hn;go_wp2;go_ret;exact HQ.out
 ·obtain⟨a,rfl,hVD⟩:=Zs hok;have hga:=hHD hok;have ha2:a<256:=hVD.2.1;have kc:=qa C1.row;have fc:=qg C1.row;have kr:=hA.out.ref a ha2;replace⟨C1,hVD,hga⟩:=zH3 C1 hVD hga;clear hHD;have hw1:wrap64 ((refs a:Int)+1)=(refs a:Int)+1:=IntWalk.wrap64_in _ (by have:=qhg (Jy.walk.1 hN.out.mkd) a;omega);have T1:TrI p w1.heap.size w1 w1 vv p.ca refs nodes:=⟨Off.refl (zM _),C1.out.row,hA.out,λ_ _=>rfl,(zG.1 C1.out.row).1⟩
  have Rk:Gz p.S g (R++[a]):=λb hb=>by
   rcases List.mem_append.1 hb with hb|hb
   ·exact⟨(hR.out b hb).1,hgr.some_ _ (hR.out b hb).2⟩
   ·rw[List.mem_singleton.1 hb];exact⟨hVD.out,by rw[hga.out];rfl⟩
  replace Rk:=zH Rk;go_wp2_with fail;have gR:∀W,qj.r w1 W->W.cell? ⟨p.cb,6+a,none⟩=some (.int .i64 (refs a:Int)):=λW h=>by rw[qa (qb C1.out.row h)];exact kr
  refine qt zQ ?_;refine Zo 0 10 (.pointer (some ⟨p.cb,0,none⟩)) zQ (by simp only[List.getElem?_toArray,List.getElem?_cons_zero];exact rfl) zQ zQ zQ zA0 (λW=>?_) ?_
  ·go_simp
  simp only[Act.put,qe,qc,qf,zA,zB,zC];refine Zo 7 9 (.pointer (some ⟨p.cb,0,none⟩)) zQ zA6 zQ zQ zQ zA0 (λW=>?_) ?_
  ·go_simp
  simp only[Act.put,qe,qc,qf,zA,zB,zC];refine Zo 8 8 (.pointer (some ⟨p.cb,6,none⟩)) zQ zA6 zQ zQ zQ zA0 (λW=>?_) ?_
  ·go_simp
  simp only[Act.put,qe,qc,qf,zA,zB,zC];refine ZY (w:=w1) qj (qQ []) [false,true,true,true,true,true,true,false,false,true] 1 zQ zQ zQ zQ zQ zQ ?st (Rel.drew _ _) ?walk
  case st=>exact qi (λ_ h=>by cases h)
  case walk=>
   intro K hK;dsimp only[qw];refine zB7 ?_
   first
    |(refine qd (.pointer (some ⟨p.cb,6+a,none⟩)) zA0 zA0 (λW hW _=>⟨W,?_,Rel.refl _ W⟩) ?_
      ·go_simp;intro hge;exfalso;omega
      simp only[Act.put,qe,qc,qf,zA,zB,zC])
    |skip
   refine zB7 ?_
   first
    |(refine qd (.pointer (some ⟨p.cb,6+a,none⟩)) zA0 zA0 (λW hW _=>⟨W,?_,Rel.refl _ W⟩) ?_
      ·go_simp;intro hge;exfalso;omega
      simp only[Act.put,qe,qc,qf,zA,zB,zC])
    |skip
   refine zB7 ?_;refine qD (hK _ _ λW hW hF=>?_);have hW':Ext w1 W:=hW;clear hF hK gR kc fc kr;refine zB6 ?_;have T2:=(T1.ext hW').addRef ha2;have rc:=qb C1.out.row hW';have kc:=qa rc;have fc:=qg rc;have kr:=hA.out.ref a ha2;go_wp2;refine Qn ?_;go_wp2_with fail;generalize hw3:World.alloc _ _=w3;have T3:TrI p w1.heap.size w1 w3 vv _ (vW refs a) nodes:=T2.ext (by rw[<-hw3];exact zN _ _);have o3:w3.ownsRow w1.heap.size 3 1 (.slice (some ⟨W.heap.size,0,none⟩) 1 1) 1 (XC [a]):=by have h:=World.ownsRow_lit (base:=w1.heap.size) (e:=3) (size:=1) (W.setCell ⟨p.cb,6+a,none⟩ (.int .i64 ((refs a:Int)+1))) #[.int .i64 (a:Int)] 1 (by simpa using hW'.size) zA7 rfl;rw[<-hw3];have hz:(W.setCell ⟨p.cb,6+a,none⟩ (.int .i64 ((refs a:Int)+1))).heap.size=W.heap.size:=zA3;rw[hz]at h;exact h
   have K3:=hN.out.start a;generalize(p.ca.setIfInBounds (6+a) _)=ca3 at T3;clear hw3 kc fc kr rc T2 hW' T1 hN hA hw1;generalize W.heap.size=g3 at*;replace⟨T3,o3,K3⟩:=zH3 T3 o3 K3;go_loopw [5] (λv wr=>TRel p w1 vv (R++[a]) v wr) (λv wr=>6*leftW wr p.cb+lenV v)
   case atStart=>exact⟨[a],_,_,_,rfl,o3.out,T3.out,K3.out⟩
   case round=>
    obtain⟨s,rf,nd,ca,hsl,hAE,T,K⟩:=hrel.ex;clear T3 o3 K3;rcases List.eq_nil_or_concat s with rfl|⟨s',b,rfl⟩
    ·obtain⟨A,c',rfl,-,-⟩:=qG hAE;have hd:Qz p.S (R++[a]) rf nd:=K.done;have HQ:TreeQ p R (a:Int) vv w f (.returned (.int .i64 0)) wr:=by
      refine⟨by rw[hok];rfl,?_,?_,?_,?_,?_,λ_=>⟨ca,g,rf,nd,T.cen C1.out,hgr,T.ar,?_,?_⟩⟩
      ·exact T.off.os.trans hg.os
      ·exact T.off.tape.trans hg.tape
      ·exact T.off.output.trans hg.output
      ·exact Nat.le_trans hg.size T.off.size
      ·intro k h1 h2 h3;exact(T.off.block k (Nat.lt_of_lt_of_le h1 hg.size) h2).trans (hg.block k h1 zA2)
      ·simpa using hd
      ·simpa using Rk.out
     replace⟨HQ,T,K,hd⟩:=zH4 HQ T K hd;clear hAE hsl hgr hm hg hn;go_wp2;go_ret;exact HQ.out
    ·rw[List.concat_eq_append]at*;obtain⟨m,hm0⟩:∃m,m=s'.length:=⟨_,rfl⟩
     rw[List.length_append,List.length_singleton,<-hm0]at hAE;rw[qbM]at hAE;rcases hAE.2 with⟨h0,-⟩|⟨gb,cap,cur,rfl,hgb,hBT,hnc,hcm,hcs,htk⟩
     ·exfalso;have:=hAE.1;simp[Th]at this;rw[h0]at hsl;simp[lenV]at hsl
     ·obtain⟨gb',off',e0,hgb',hCF⟩:=(Rd.of_own hAE).2 zO;simp only[Option.some.injEq,Addr.mk.injEq,and_true]at e0;obtain⟨rfl,rfl⟩:=e0;have kb:=hCF m (.int .i64 (b:Int)) (by rw[List.getElem?_append_right (by rw[Th];omega),Th,<-hm0];simp);rw[Nat.zero_add]at kb;clear hCF;have wKJ:=Uk (xs:=XC s') (news:=[.int .i64 (b:Int)]) (n:=m) (m:=1) hAE (by rw[Th,hm0];omega);obtain⟨hbt,hbk⟩:=Rk.out.reach C1.out.known (K.wk.stk b (List.mem_append_right _ (List.mem_singleton.2 rfl)));have hb2:=hbt.2.1;have hw2:wrap64 ((m:Int)+1-1)=(m:Int):=by rw[IntWalk.wrap64_in _ (by unfold maxLen at hcm;omega)];omega
      have hw22:wrap64 (m:Int)=(m:Int):=IntWalk.wrap64_in _ (by unfold maxLen at hcm;omega);replace⟨hAE,wKJ,T,K,hbt,hbk⟩:=zH6 hAE wKJ T K hbt hbk;replace⟨hm0,hsl⟩:=zH2 hm0 hsl;have hmc:m<=cap:=Nat.le_of_succ_le hnc;have hcap:¬cap=0:=λe=>by rw[e]at hnc;exact absurd hnc (Nat.not_succ_le_zero _)
      clear hBT;clear htk hcs hgr hm hg hn hgb hcm hnc;have kn0:=T.out.ar.node b hb2;have hw3:wrap64 ((nd b:Int)+1)=(nd b:Int)+1:=IntWalk.wrap64_in _ (by have:=K.out.few b;simp at this;omega);go_wp2_with fail;have gN:∀W,qj.r wr W->W.cell? ⟨p.cb,262+b,none⟩=some (.int .i64 (nd b:Int)):=λW h=>by rw[qa (qb T.out.row h)];exact kn0
      refine qt zQ ?_;refine Zo 0 10 (.pointer (some ⟨p.cb,0,none⟩)) zQ (by simp only[List.getElem?_toArray,List.getElem?_cons_zero];exact rfl) zQ zQ zQ zA0 (λW=>?_) ?_
      ·go_simp
      simp only[Act.put,qe,qc,qf,zA,zB,zC];refine Zo 2 9 (.pointer (some ⟨p.cb,0,none⟩)) zQ zA6 zQ zQ zQ zA0 (λW=>?_) ?_
      ·go_simp
      simp only[Act.put,qe,qc,qf,zA,zB,zC];refine Zo 7 8 (.pointer (some ⟨p.cb,0,none⟩)) zQ zA6 zQ zQ zQ zA0 (λW=>?_) ?_
      ·go_simp
      simp only[Act.put,qe,qc,qf,zA,zB,zC];refine Zo 8 7 (.pointer (some ⟨p.cb,262,none⟩)) zQ zA6 zQ zQ zQ zA0 (λW=>?_) ?_
      ·go_simp
      simp only[Act.put,qe,qc,qf,zA,zB,zC];refine ZY (w:=wr) qj (qQ []) [false,true,false,true,true,true,true,false,false,true] 1 zQ zQ zQ zQ zQ zQ ?st (Rel.drew _ _) ?walk
      case st=>exact qi (λ_ h=>by cases h)
      case walk=>
       intro K' hK';dsimp only[qw];refine zB7 ?_
       first
        |(refine qd (.pointer (some ⟨p.cb,262+b,none⟩)) zA0 zA0 (λW hW _=>⟨W,?_,Rel.refl _ W⟩) ?_
          ·go_simp;intro hge;exfalso;omega
          simp only[Act.put,qe,qc,qf,zA,zB,zC])
        |skip
       refine zB7 ?_
       first
        |(refine qd (.pointer (some ⟨p.cb,262+b,none⟩)) zA0 zA0 (λW hW _=>⟨W,?_,Rel.refl _ W⟩) ?_
          ·go_simp;intro hge;exfalso;omega
          simp only[Act.put,qe,qc,qf,zA,zB,zC])
        |skip
       refine zB7 ?_;refine qD (hK' _ _ λW hW hF=>?_);have hWx:Ext wr W:=hW;clear hF hK' gN;refine zB6 ?_;have T2:=(T.out.ext hWx).addNode hb2;have rc:=qb T.out.row hWx;have kc:=qa rc;have fc:=qg rc;have o2:(W.setCell ⟨p.cb,262+b,none⟩ (.int .i64 ((nd b:Int)+1))).ownsRow w1.heap.size 3 1 (.slice (some ⟨gb,0,none⟩) m cap) m (XC s'):=VC (zh wKJ.out hWx) (p:=⟨p.cb,262+b,none⟩) T.out.lt _;generalize(ca.setIfInBounds (262+b) _)=ca4 at T2;replace rc:=zH rc;go_wp2;refine Qn ?_;rw[hw3];generalize hw4:W.setCell ⟨p.cb,262+b,none⟩ (.int .i64 ((nd b:Int)+1))=w4 at*;clear hw4 kc fc rc hWx;replace⟨T2,o2⟩:=zH2 T2 o2;have kc:=qa T2.out.row;have kn2:=T2.out.ar.node b hb2;have hbb:vW nd b b=nd b+1:=by unfold vW;rw[if_pos rfl]
       rw[hbb]at kn2;have kq:w4.cell? ⟨p.cb,262+b,none⟩=some (.int .i64 ((nd b:Int)+1)):=(kc _).trans kn2;have kq5:w4.cell? ⟨p.cb,5,none⟩=some (.map (some p.mb)):=(kc _).trans ((T2.out.low 5 zO).trans C1.out.c5);clear kc kn2;rcases Nat.eq_zero_or_pos (nd b)with hz|hz
       ·have hc1:decide (((nd b+1:Nat):Int)>1)=false:=decide_eq_false zO;have hc2:decide ((nd b:Int)+1>1)=false:=decide_eq_false zO;replace hz:=zH hz;go_wp2_with (at_lookup;refine qY ?_);obtain⟨v9,hv9⟩:=Option.isSome_iff_exists.1 hbk.out;obtain⟨n9,lv9,xs,A9,c9,f9,l9,b9,e9,-,-,hnode,rfl,hBC,-,-⟩:=C1.out.known _ _ hv9;obtain rfl:b=n9:=zO;have hMap:=(T2.out.cen C1.out).map;refine Qm.go (Gw _ rfl (.tmp 61) (.tmp 62) 93 rfl underlying93 underlying3 rfl rfl hMap hv9 ?_);have hmay:=(qF hnode).1;have hxs:=(qF hnode).2.1;have hlen:xs.length<=5:=by unfold Qj ZZ at hmay;simp at hmay;omega
        clear hMap hv9 hmay kq kq5;replace⟨hnode,hBC,hxs⟩:=zH3 hnode hBC hxs;go_wp2_with fail;generalize hw5:World.alloc w4 _=w5;have T5:=T2.out.ext (by rw[<-hw5];exact zN _ _:Ext w4 w5);have o5:=zh o2.out (by rw[<-hw5];exact zN _ _:Ext w4 w5);have n5:w5.heap[w4.heap.size]?=some (.cells #[.int .i64 lv9,.slice A9 xs.length c9] 113 (0,0)):=by rw[<-hw5];exact zI _ _ _ rfl
        have z5:gb<w4.heap.size:=(QM o2.out gb rfl).2;clear hw5;have hlt9:=T2.out.lt;have hB4:=T2.out.off.size;generalize w4.heap.size=nb at*;have I0:IRel p w1 vv s' lv9 xs rf (vW nd b) nb A9 c9 (.slice (some ⟨gb,0,none⟩) m cap) (.int .i64 0) w5:=by
         refine⟨0,rf,ca4,Nat.zero_le _,rfl,λx=>by rw[qll];rfl,?_,?_,λq hq=>?_,T5,n5⟩
         ·rw[qaM,List.append_nil];exact hm0.out
         ·rw[qaM,List.append_nil,<-hm0.out];exact o5
         ·simp[Value.ownBlock]at hq;omega
        replace I0:=zH I0;clear o5 T5 n5;go_loopw [5,68] (λv i wq=>IRel p w1 vv s' lv9 xs rf (vW nd b) nb A9 c9 v i wq) (λ_ i _=>xs.length-(intOf i).toNat)
        case atStart=>exact I0.out
        case round=>
         obtain⟨k,rf',ca',hk,rfl,hrf,hvl,hCN,hnb,TI,nI⟩:=hrel.ex;clear I0;by_cases hlt:k<xs.length
         ·have hCB:=hlt;obtain⟨b9',off9,rfl,hb9⟩:=hBC.out.its.at_.2.2.2 zO;obtain⟨A',c',d0,d1,d2,d3,d4,-⟩:=(TI.its C1.out hBC.out).its.item k hCB;obtain⟨⟨-,-,-,⟨hr1,hr2⟩,-⟩,-⟩:=hxs.out xs[k] (List.getElem_mem hCB);have HSK:=zH (λh=>qhe (lvl:=lv9) hCB h);have HPU:=zH (λh h'=>qhd (lvl:=lv9) hCB h h');have HRS:=zH (λh=>qlk hCB h hrf);have HRB:=zH (λh=>qlj hCB h hrf);generalize xs[k]=x at*;obtain⟨r,hr⟩:=Int.eq_ofNat_of_zero_le hr1;rw[hr]at d3 hr2;have hr3:r<256:=zO;rw[hr,Int.toNat_natCast]at HSK HPU HRS HRB;clear hr1 hr2;replace⟨hr,hrf,TI,hCN,hvl,hnb⟩:=zH6 hr hrf TI hCN hvl hnb;rcases Nat.eq_zero_or_pos r with hr0|hr0
          ·have hq1:((r:Int)==0)=true:=by rw[beq_iff_eq];omega
           have wBN:=HRS.out hr0;have hpt:=HSK.out (.inl hr0);replace⟨hr0,wBN,hpt⟩:=zH3 hr0 wBN hpt;go_wp2_with fail;refine⟨⟨k+1,rf',ca',hCB,rfl,wBN.out,?_,?_,hnb.out,TI.out.ext (zN _ _),qb nI (zN _ _)⟩,by simp[intOf];omega⟩
           ·rw[hpt.out];exact hvl.out
           ·rw[hpt.out];exact zh hCN.out (zN _ _)
          ·have hq1:((r:Int)==0)=false:=by rw[beq_eq_false_iff_ne];omega
           have wOE:¬r=0:=zO;have wBN:=HRB.out wOE;replace⟨wBN,wOE⟩:=zH2 wBN wOE;clear hr0;go_wp2_with fail;generalize hw6:World.alloc wr _=w6;have x6:Ext wr w6:=by rw[<-hw6];exact zN _ _
           have r6:w6.heap[wr.heap.size]?=some (.cells #[.int .u8 x.k,.int .u32 x.i,.int .u32 x.o,.int .i64 r,.slice A' x.val.length c'] 51 (0,0)):=by rw[<-hw6];exact zI _ _ _ rfl
           clear hw6 d0 d1 d2 d3 d4;have T6:=TI.out.ext x6;have o6:=zh hCN.out x6;have n6:=qb nI x6;have kr0:=T6.ar.ref r hr3;have hw6:wrap64 ((rf' r:Int)+1)=(rf' r:Int)+1:=IntWalk.wrap64_in _ (by have h1:=hrf.out r;have h2:=List.count_le_length (a:=r) (l:=Ya xs k);have h3:=qcx (xs:=xs) (k:=k);have h4:=qhg K.out.wk r;simp at h4;omega);have gR:∀W,qj.r w6 W->W.cell? ⟨p.cb,6+r,none⟩=some (.int .i64 (rf' r:Int)):=λW h=>by rw[qa (qb T6.row h)];exact kr0
           have gI:∀W,qj.r w6 W->∀i,W.cell? ⟨wr.heap.size,i,none⟩=#[.int .u8 x.k,.int .u32 x.i,.int .u32 x.o,.int .i64 r,.slice A' x.val.length c'][i]?:=λW h=>qa (qb r6 h);refine qt zQ ?_;refine Zo 0 11 (.pointer (some ⟨p.cb,0,none⟩)) zQ (by simp only[List.getElem?_toArray,List.getElem?_cons_zero];exact rfl) zQ zQ zQ zA0 (λW=>?_) ?_
           ·go_simp
           simp only[Act.put,qe,qc,qf,zA,zB,zC];refine Zo 3 10 (.pointer (some ⟨p.cb,0,none⟩)) zQ zA6 zQ zQ zQ zA0 (λW=>?_) ?_
           ·go_simp
           simp only[Act.put,qe,qc,qf,zA,zB,zC];refine Zo 8 9 (.pointer (some ⟨p.cb,0,none⟩)) zQ zA6 zQ zQ zQ zA0 (λW=>?_) ?_
           ·go_simp
           simp only[Act.put,qe,qc,qf,zA,zB,zC];refine Zo 9 8 (.pointer (some ⟨p.cb,6,none⟩)) zQ zA6 zQ zQ zQ zA0 (λW=>?_) ?_
           ·go_simp
           simp only[Act.put,qe,qc,qf,zA,zB,zC];refine ZY (w:=w6) qj (qQ []) [false,true,true,false,true,true,true,true,false,false,true] 1 zQ zQ zQ zQ zQ zQ ?st (Rel.drew _ _) ?walk
           case st=>exact qi (λ_ h=>by cases h)
           case walk=>
            intro K2 hK2;dsimp only[qw];refine zB7 ?_
            first
             |(refine qd (.pointer (some ⟨p.cb,6+r,none⟩)) zA0 zA0 (λW hW _=>⟨W,?_,Rel.refl _ W⟩) ?_
               ·go_simp;intro hge;exfalso;omega
               simp only[Act.put,qe,qc,qf,zA,zB,zC])
             |skip
            refine zB7 ?_
            first
             |(refine qd (.pointer (some ⟨p.cb,6+r,none⟩)) zA0 zA0 (λW hW _=>⟨W,?_,Rel.refl _ W⟩) ?_
               ·go_simp;intro hge;exfalso;omega
               simp only[Act.put,qe,qc,qf,zA,zB,zC])
             |skip
            refine zB7 ?_;refine qD (hK2 _ _ λW hW hF=>?_);have hWx:Ext w6 W:=hW;clear hF hK2 gR gI;refine zB6 ?_;have T7:=(T6.ext hWx).addRef hr3;have rc:=qb T6.row hWx;have kc:=qa rc;have fc:=qg rc;have hlp:=T6.lt;have o7:(W.setCell ⟨p.cb,6+r,none⟩ (.int .i64 ((rf' r:Int)+1))).ownsRow w1.heap.size 3 1 _ _ _:=VC (zh o6 hWx) (p:=⟨p.cb,6+r,none⟩) hlp _;have n7:(W.setCell ⟨p.cb,6+r,none⟩ (.int .i64 ((rf' r:Int)+1))).heap[nb]?=_:=(zJ _ _ _ _ (by show nb≠p.cb;omega)).trans (qb n6 hWx);have r7:(W.setCell ⟨p.cb,6+r,none⟩ (.int .i64 ((rf' r:Int)+1))).heap[wr.heap.size]?=_:=(zJ _ _ _ _ (by show wr.heap.size≠p.cb;have:=TI.out.off.size;omega)).trans (qb r6 hWx);generalize(ca'.setIfInBounds (6+r) _)=ca7 at T7;replace rc:=zH rc;go_wp2;refine Qn ?_;rw[hw6];generalize hw7:W.setCell ⟨p.cb,6+r,none⟩ (.int .i64 ((rf' r:Int)+1))=w7 at*;clear hw7 kc fc rc hWx T6 o6 n6 x6 r6 kr0 hw6;have kn7:=qa n7;have kr7:=qa r7;replace⟨T7,o7⟩:=zH2 T7 o7;rcases Nat.eq_zero_or_pos lv9 with hv0|hv0
            ·have hq3:decide ((lv9:Int)>0)=false:=decide_eq_false zO;have hq4:decide (0<lv9)=false:=decide_eq_false zO;have hpt:=HSK.out (.inr hv0);replace⟨hpt,hv0⟩:=zH2 hpt hv0;go_wp2_with fail;refine⟨⟨k+1,vW rf' r,ca7,hCB,rfl,wBN.out,?_,?_,hnb.out,T7.out,n7⟩,by simp[intOf];omega⟩
             ·rw[hpt.out];exact hvl.out
             ·rw[hpt.out];exact o7.out
            ·have hq3:decide ((lv9:Int)>0)=true:=decide_eq_true zO;have hq4:decide (0<lv9)=true:=decide_eq_true hv0;have hpt:=HPU.out wOE.out hv0;replace⟨hpt,hv0⟩:=zH2 hpt hv0;have hlv7:=hvl.out;have wNX:=hnb.out;have hz7:nb<w7.heap.size:=(zG.1 n7).1;have wAV:(s'++ZV lv9 xs k).length<1073741824:=by
              have h1:=K.out.few b;have h2:(ZV lv9 xs k).length<=k:=by
               unfold ZV;split
               ·exact qcx
               ·simp
              simp at h1;rw[List.length_append];omega
             replace⟨hlv7,wNX,wAV⟩:=zH3 hlv7 wNX wAV;obtain⟨i0,hi,hz0,hz1,hz2⟩:=info_parts Tryz.info_int;go_wp2_with (at_builtin;refine qY ?_);refine Qm.go (zZ _ rfl (.tmp 89) (.tmp 92) 30 rfl w1.heap.size 3 i0 (.int .i64 0) 1 8 underlying30 hi hz0 hz1 hz2 rfl zA1 _ _ _ rfl o7.out #[.int .i64 (r:Int)] rfl rfl zA8 wAV.out zA1 T7.out.off.size ?_);intro v8 w8 own8 g8 _ wPW;have T8:=T7.out.grown g8 λq hq=>(QM o7.out q hq).1;have n8:=(g8.block nb hz7 (λe=>wNX.out nb e.symm rfl)).trans n7;have hnb8:∀q,v8.ownBlock=some q->q≠nb:=by
              intro q hq;rcases wPW with e|⟨q',e,e2⟩
              ·exact wNX.out q (e.symm.trans hq)
              ·rw[e]at hq;cases hq;omega
             obtain⟨A8,c8,hv8,-,-⟩:=qG own8;have wPN:lenV v8=(s'++ZV lv9 xs (k+1)).length:=by rw[hv8,hpt.out];simp only[lenV,List.length_append,List.length_cons,List.length_nil];omega
             have own9:w8.ownsRow w1.heap.size 3 1 v8 (s'++ZV lv9 xs (k+1)).length (XC (s'++ZV lv9 xs (k+1))):=by
              have hcat:(s'++ZV lv9 xs (k+1)).length=(s'++ZV lv9 xs k).length+1:=by rw[hpt.out,<-List.append_assoc,List.length_append,List.length_singleton]
              rw[hcat,hpt.out,<-List.append_assoc,qbM];exact own8
             have IR:IRel p w1 vv s' lv9 xs rf (vW nd b) nb (some ⟨b9',off9,none⟩) c9 v8 (.int .i64 ((k:Int)+1)) w8:=⟨k+1,vW rf' r,ca7,hCB,rfl,wBN.out,wPN,own9,hnb8,T8,n8⟩
             replace IR:=zH IR;clear own8 g8 wPW hv8 wPN own9 hnb8 T8 n8 hi hz0 hz1 hz2;go_wp2_with fail;refine⟨IR.out,?_⟩;simp[intOf];omega
         ·have hke:k=xs.length:=zO;subst hke;have KN:=K.out.new hz.out hb2 hnode.out hrf;have e1:=UQ T.out.row T.out.ar;have e2:=UQ TI.row TI.ar;have e3:=Uq (M:=vA nd) (a:=b) (decide_eq_false (by have:=hz.out;omega)) 256;rw[<-KR,if_pos hb2]at e3;have hpl:(ZV lv9 xs xs.length).length<=5:=by
           unfold ZV;split
           ·exact Nat.le_trans qcx hlen
           ·simp
          replace e3:=zH e3;clear hw2 hw22 hw3;go_wp2_with fail;go_roundw
          case rel=>exact⟨s'++ZV lv9 xs xs.length,rf',vW nd b,ca',hvl,hCN,TI,KN⟩
          case measure=>rw[e1,e2,hvl,List.length_append,<-hm0.out];have e3':=e3.out;simp only[lenV];omega
       ·have hc1:decide (((nd b+1:Nat):Int)>1)=true:=decide_eq_true zO;have hc2:decide ((nd b:Int)+1>1)=true:=decide_eq_true zO;replace hz:=zH hz;go_wp2_with fail;go_roundw
        case rel=>exact⟨s',rf,vW nd b,ca4,hm0.out,by rw[<-hm0.out];exact o2.out,T2.out,K.out.again hz.out⟩
        case measure=>have e1:=UQ T.out.row T.out.ar;have e2:=UQ T2.out.row T2.out.ar;rw[KS hz.out]at e2;rw[e1,e2];simp[lenV]
def ca0(s1 s2 s3 s4:Value)(bb mb:Nat):Array Value:=(#[s1,s2,s3,s4,.pointer (some ⟨bb,0,none⟩),.map (some mb)]++Array.replicate 512 (.int .i64 0))++#[.slice none 0 0]
theorem ca_eq(s1 s2 s3 s4:Value)(bb mb:Nat):(((((Tryz.zeroCells96.setIfInBounds 0 s1).setIfInBounds 1 s2).setIfInBounds 2 s3).setIfInBounds 3 s4).setIfInBounds 4 (.pointer (some ⟨bb,0,none⟩))).setIfInBounds 5 (.map (some mb))=ca0 s1 s2 s3 s4 bb mb:=zQ
theorem qhD(p:CP)(w1:World)(f:Int->Option Value)(refs nodes:Nat->Nat)(s1 s2 s3 s4:Value)(gen root next:Int)(dead:Value)(hC:Cen p w1 f):∀h:Nat,VolsC p w1 f refs nodes s1 s2 s3 s4 gen root next dead h
 |0=>qhE p w1 f refs nodes s1 s2 s3 s4 gen root next dead hC 0 λ_ e=>zO
 |h+1=>qhE p w1 f refs nodes s1 s2 s3 s4 gen root next dead hC (h+1) λh' e=>by obtain rfl:h=h':=zO;exact qhD p w1 f refs nodes s1 s2 s3 s4 gen root next dead hC h
theorem ca0_ar(s1 s2 s3 s4:Value)(bb mb:Nat):Ar (ca0 s1 s2 s3 s4 bb mb) (λ_=>0) (λ_=>0) (.slice none 0 0):=by
 unfold ca0;refine⟨zA3,λa ha=>?_,λa ha=>?_,?_⟩
 ·rw[Array.getElem?_append_left zA2,Array.getElem?_append_right zA3];simp[Array.getElem?_replicate];omega
 ·rw[Array.getElem?_append_left zA2,Array.getElem?_append_right zA2];simp[Array.getElem?_replicate];omega
 ·rw[Array.getElem?_append_right zA3];simp
theorem ca0_low(s1 s2 s3 s4:Value)(bb mb:Nat){i:Nat}(hi:i<6):(ca0 s1 s2 s3 s4 bb mb)[i]?=(#[s1,s2,s3,s4,.pointer (some ⟨bb,0,none⟩),.map (some mb)]:Array Value)[i]?:=by unfold ca0;rw[Array.getElem?_append_left zA2,Array.getElem?_append_left zA2]
theorem Zn.empty(w:World):Zn (w.alloc (.map #[] 0)) w.heap.size λ_=>none:=⟨#[],0,zI _ _ _ rfl,λ_ h=>absurd h (List.not_mem_nil),λ_=>rfl⟩
def vI(S:Sto)(root next:Int):Option (List Vol):=match qk S root.toNat with
 |none=>none
 |some (lvl,xs)=>Zg next [] (qu S lvl.toNat xs)
def zl(root:Int)(dead:List Int)(vs:List Vol):List Int:=(root::dead)++vs.map (·.root)
structure QR(S:Sto)(root next:Int)(dead:List Int)(vs:List Vol):Prop where
 may:qm S=true
 few:dead.length<=40
 top:okL S (-1) root=true
 vols:vI S root next=some vs
 ok:∀r∈zl root dead vs,okL S (-1) r=true
def ZS(S:Sto)(refs:Nat->Nat):Prop:=∀a,a<256->refs a<=(S.now[a]?.getD 0).toNat
def jH(w:World)(B:Nat)(v:Value)(l:List Int):Prop:=∃A c,v=.slice A l.length c/\l.length<=c/\c<=maxLen/\Rd w B 1 A l.length (l.map λ(a:Int)=>Value.int .i64 a)
def QJ(root:Int)(dead:List Int)(vs:List Vol):List Nat:=(zl root dead vs).map Int.toNat
structure Taken(S:Sto)(root next:Int)(dead:List Int)(vs:List Vol)(refs nodes:Nat->Nat)(lo cb:Nat)(ca:Array Value)(vv:Value)(w:World):Prop where
 pool:QR S root next dead vs
 cnt:Qz S (QJ root dead vs) refs nodes
 enough:ZS S refs
 low:lo<=cb
 row:w.heap[cb]?=some (.cells ca 96 (0,0))
 ar:Ar ca refs nodes vv
 own:w.ownsRow lo 36 4 vv vs.length (ZT vs)
def Ty(S:Sto)(root next:Int)(dead:List Int)(w:World)(e:Ending)(w':World):Prop:=Below w.heap.size w w' /\
 ((e=.returned (.tuple #[.pointer none,.int .i64 8])/\∀vs,QR S root next dead vs->∃refs nodes,Qz S (QJ root dead vs) refs nodes/\¬ZS S refs) \/
  ∃vs refs nodes cb ca vv,e=.returned (.tuple #[.pointer (some ⟨cb,0,none⟩),.int .i64 0])/\Taken S root next dead vs refs nodes w.heap.size cb ca vv w')
theorem Ty.bad{S:Sto}{root next:Int}{dead:List Int}{w w':World}(hB:Below w.heap.size w w')(h:∀vs,¬QR S root next dead vs):Ty S root next dead w (.returned (.tuple #[.pointer none,.int .i64 8])) w':=
 ⟨hB,.inl ⟨rfl,λvs hp=>absurd hp (h vs)⟩⟩
def GV(l:List Int):List Value:=l.map λ(a:Int)=>Value.int .i64 a
theorem qli(l:List Int)(a:Int):GV (l++[a])=GV l++[Value.int .i64 a]:=by simp[GV]
theorem rowI_get(l:List Int)(k:Nat)(h:k<l.length):(GV l)[k]?=some (.int .i64 l[k]):=by unfold GV;rw[List.getElem?_map,zL h];rfl
def Vo(root:Int)(dead:List Int)(vs:List Vol)(k:Nat):List Int:=(root::dead)++(vs.take k).map (·.root)
theorem qhk(root:Int)(dead:List Int)(vs:List Vol){k:Nat}(h:k<=vs.length):(Vo root dead vs k).length=1+dead.length+k:=by unfold Vo;simp;omega
theorem qfu(root:Int)(dead:List Int)(vs:List Vol){k:Nat}(h:k<vs.length):Vo root dead vs (k+1)=Vo root dead vs k++[vs[k].root]:=by unfold Vo;rw[List.take_succ_eq_append_getElem h,List.map_append,<-List.append_assoc];rfl
theorem qaO(root:Int)(dead:List Int)(vs:List Vol):Vo root dead vs vs.length=zl root dead vs:=by unfold Vo zl;rw[List.take_length]
theorem vX(vs:List Vol):∀k (h:k<vs.length),(ZT vs)[k*4]?=some (.int .u32 vs[k].id)/\(ZT vs)[k*4+1]?=some (.int .i64 vs[k].root)/\(ZT vs)[k*4+2]?=some (.bool vs[k].fz)/\(ZT vs)[k*4+3]?=some (.int .u32 vs[k].frm):=by
 induction vs with
 |nil=>intro k h;exact absurd h (Nat.not_lt_zero _)
 |cons v r ih=>
  intro k h;cases k with
  |zero=>exact⟨rfl,rfl,rfl,rfl⟩
  |succ k=>
   have:=ih k (by simpa using h);have e:ZT (v::r)=[.int .u32 v.id,.int .i64 v.root,.bool v.fz,.int .u32 v.frm]++ZT r:=rfl;rw[e];have hg:∀j,([.int .u32 v.id,.int .i64 v.root,.bool v.fz,.int .u32 v.frm]++ZT r:List Value)[(k+1)*4+j]?=(ZT r)[k*4+j]?:=λj=>by rw[List.getElem?_append_right (by simp only[List.length_cons,List.length_nil];omega)];congr 1;simp only[List.length_cons,List.length_nil];omega
   exact⟨(hg 0).trans this.1,(hg 1).trans this.2.1,(hg 2).trans this.2.2.1,(hg 3).trans this.2.2.2⟩
theorem Qz.zero(S:Sto):Qz S [] (λ_=>0) (λ_=>0):=
 ⟨Jy.walk.2 (Vs.nil (λ_=>rfl) λ_=>rfl),λa=>by have:=qcM (vA λ_=>0) 256;simp only[List.length_nil];omega⟩
structure qaZ(cb mb:Nat)(w w':World):Prop where
 os:w'.os=w.os
 tape:w'.tape=w.tape
 output:w'.output=w.output
 size:w.heap.size<=w'.heap.size
 block:∀k,k<w.heap.size->k≠cb->k≠mb->w'.heap[k]?=w.heap[k]?
theorem qaZ.refl(cb mb:Nat)(w:World):qaZ cb mb w w:=⟨rfl,rfl,rfl,zM _,λ_ _ _ _=>rfl⟩
theorem qaZ.trans{cb mb:Nat}{w w' w'':World}(h:qaZ cb mb w w')(h':qaZ cb mb w' w''):qaZ cb mb w w'':=
 ⟨h'.os.trans h.os,h'.tape.trans h.tape,h'.output.trans h.output,Nat.le_trans h.size h'.size,λk h1 h2 h3=>(h'.block k (Nat.lt_of_lt_of_le h1 h.size) h2 h3).trans (h.block k h1 h2 h3)⟩
theorem qaZ.below{cb mb B:Nat}{w0 w w':World}(h:qaZ cb mb w w')(hb:Below B w0 w)(hB:B<=w.heap.size)(h1:B<=cb)(h2:B<=mb):Below B w0 w':=
 ⟨h.os.trans hb.os,h.tape.trans hb.tape,h.output.trans hb.output,Nat.le_trans hb.size h.size,λk hk=>(h.block k zO zO zO).trans (hb.block k hk)⟩
structure R2(p:CP)(w8:World)(vv:Value)(roots:List Int)(i:Value)(wr:World):Prop where
 ex:∃(k:Nat)(g:Int->Option Value)(ca:Array Value)(refs nodes:Nat->Nat),k<=roots.length/\i=.int .i64 (k:Int)/\Cen (p.put ca) wr g/\Ar ca refs nodes vv/\Qz p.S ((roots.take k).map Int.toNat) refs nodes/\Gz p.S g ((roots.take k).map Int.toNat) /\
  (∀r∈roots.take k,okL p.S (-1) r=true)/\qaZ p.cb p.mb w8 wr
section
variable {P:Program} {ops:Array Oper} {rest:List Oper} {o:Oper} {a:Act} {w:World} {Q:Exit->Act->World->Prop}
theorem qdo(g off:Nat)(ty:TypeId)(cs:List Value)(d:TypeDesc)(hc:∀j v,cs[j]?=some v->w.cell? ⟨g,off+j,none⟩=some v)(hu:P.underlying ty=some d)(hd:(match d with | .struct _ | .array _ _=>true|_=>false)=true)(hi:(P.info? ty).map (·.size)=some cs.length):(loadVar ty ⟨g,off,none⟩).run P w=.ok (.agg cs.toArray) w:=by
 have hl:(loadCells ⟨g,off,none⟩ cs.length).run P w=.ok cs.toArray w:=
  run_loadCells_list (P:=P) w ⟨g,off,none⟩ cs (λj v hv=>by
   have hadd:(⟨g,off,none⟩:Addr).add j=⟨g,off+j,none⟩:=by unfold Addr.add;split<;>simp_all
   rw[hadd];exact hc j v hv)
 cases hq:P.info? ty with
 |none=>simp[hq]at hi
 |some i=>
  have hs:i.size=cs.length:=by simpa [hq]using hi
  have hagg:(isAgg ty).run P w=.ok true w:=by unfold isAgg;rw[Sem.run_bind,run_underlying hu w];cases d<;>simp_all
  simp[loadVar,Sem.run_bind,hagg,sizeOf,typeInfo,hq,hs,hl]
theorem qae(hgd:o.guard=none)(ty:TypeId)(x:Operand)(ho:o.op=.load ty x)(g off:Nat)(hx:a.eval x=.pointer (some ⟨g,off,none⟩))(cs:List Value)(d:TypeDesc)(hc:∀j v,cs[j]?=some v->w.cell? ⟨g,off+j,none⟩=some v)(hu:P.underlying ty=some d)(hd:(match d with | .struct _ | .array _ _=>true|_=>false)=true)(hi:(P.info? ty).map (·.size)=some cs.length)(h:wpList P ops Q rest (a.put o.dst (.agg cs.toArray)) w):wpList P ops Q (o::rest) a w:=by
 refine wpList_plain hgd λK hK=>?_;unfold Oper.wp execOp;simp only[ho,hx,Instr.loadAt,Instr.sureAddr,Sem.run_bind,Sem.run_pure,Result.andThen_ok,qdo g off ty cs d hc hu hd hi];exact hK _ _ h
end
def qbs(f:Nat->Nat):List Value:=(List.range 256).map λa=>Value.int .i64 ((f a:Nat):Int)
theorem qfU(f:Nat->Nat){k:Nat}(h:k<256):(qbs f)[k]?=some (.int .i64 ((f k:Nat):Int)):=by unfold qbs;rw[List.getElem?_map,List.getElem?_range h];rfl
theorem arrI_lt{f:Nat->Nat}{j:Nat}{v:Value}(h:(qbs f)[j]?=some v):j<256/\v=.int .i64 ((f j:Nat):Int):=by
 have hj:j<256:=by have:=(List.getElem?_eq_some_iff.1 h).1;simpa [qbs]using this
 rw[qfU f hj]at h;cases h;exact⟨hj,rfl⟩
structure R3(S:Sto)(refs:Nat->Nat)(w9:World)(i:Value)(wr:World):Prop where
 ex:∃k:Nat,k<=256/\i=.int .i64 (k:Int)/\(∀a,a<k->refs a<=(S.now[a]?.getD 0).toNat)/\wr=w9
theorem own_kept{cb mb:Nat}{w w':World}{base n size:Nat}{e:TypeId}{v:Value}{xs:List Value}(h:w.ownsRow base e size v n xs)(hk:qaZ cb mb w w')(h1:cb<base)(h2:mb<base):w'.ownsRow base e size v n xs:=by
 refine⟨h.1,?_⟩;rcases h.2 with h0|⟨g,cap,cur,hv,hb,hg,hr⟩
 ·exact .inl h0
 ·exact .inr ⟨g,cap,cur,hv,hb,(hk.block g (zG.1 hg).1 zO zO).trans hg,hr⟩
structure R1(w6:World)(root:Int)(dead:List Int)(vs:List Vol)(v i:Value)(wr:World):Prop where
 ex:∃k:Nat,k<=vs.length/\i=.int .i64 (k:Int)/\wr.ownsRow w6.heap.size 3 1 v (1+dead.length+k) (GV (Vo root dead vs k))/\Ext w6 wr
end Go.Proofs.YtmeadnlmepcmbaaGreat
