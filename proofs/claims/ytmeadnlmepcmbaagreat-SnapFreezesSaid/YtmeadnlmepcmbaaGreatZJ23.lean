/- Lemmas of the proof. -/
import Derived.Test.YtmeadnlmepcmbaaGreatZJ22
set_option linter.all false
set_option maxHeartbeats 8000000
open Go.Proofs.Tryz
namespace Go.Proofs.YtmeadnlmepcmbaaGreat
open Go.RowKit
def MX (B:Nat) (M0:World->Nat->Prop) (W:World) (b:Nat):Prop:=b=B\/b=B+1\/M0 W b
structure Tw (B:Nat) (W W':World):Prop where
 os:W'.os=W.os
 tape:W'.tape=W.tape
 output:W'.output=W.output
 size:W.heap.size<=W'.heap.size
 same:∀ k,k<W.heap.size->k≠B->k≠B+1->W'.heap[k]?=W.heap[k]?
theorem Tw.of_ext {B:Nat} {W W':World} (h:Ext W W'):Tw B W W':=⟨h.os,h.tape,h.output,h.size,fun k hk _ _=>h.block k hk⟩
theorem Tw.put {B:Nat} (W:World) (o:Obj):Tw B W (W.putObj (B+1) o):=⟨rfl,rfl,rfl,by simp[World.putObj],fun k _ _ h=>World.putObj_heap_other h⟩
def roundX (B:Nat) (M0:World->Nat->Prop) (I Ix:List X3->World->Prop) (xs:List X3) (W:World):Exit->Act->World->Prop
 | .normal,_,W'=>(ZN (MX B M0) W W'/\W'.heap[B]?=W.heap[B]?/\W'.heap[B+1]?=W.heap[B+1]?)/\I xs W'
 | .exit id,_,W'=>(W'.heap[B]?=W.heap[B]?/\W'.heap[B+1]?=W.heap[B+1]?)/\id=0/\Ix xs W'
 |_,_,_=>False
theorem qgM {n:Nat} {g:Operand} {p:Tmp} {assign body:Code} {Q:Exit->Act->World->Prop} {a:Act} {w:World} (hn:1<=n) {gf:Nat} {lb:Array Value} (hg:a.eval g=.func (.func gf) #[] lb) (eg:∀ args w,(callFunc gf args).run prog w=.ok (.enter gf args) w) (lo N:Nat) (M0:World->Nat->Prop) (I Ix:List X3->World->Prop) (zs:List It) (aQ:lo<=w.heap.size) (hM:∀ W b,M0 W b->lo<=b) (hI:∀ pre W W',I pre W->Tw w.heap.size W W'->I pre W'/\∀ b,M0 W' b->M0 W b) (hIx:∀ pre W W',Ix pre W->Tw w.heap.size W W'->Ix pre W') (hlt:∀ pre W b,I pre W->M0 W b->b<W.heap.size) (h0:I [] w) (hNH:∀ (J Jx:List X3->World->Prop) (W:World),Ext w W->Ue lo (MX w.heap.size M0) J Jx (w.heap.size+1) N->J [] W ->
   CallsIn Fence.wide (n-1) prog gf (#[.func (.yield (w.heap.size+1)) #[] #[]]++lb) W fun e W'=>(∃ v,e=.returned v)/\((∃ xs:List X3,xs.map (·.1)=zs/\J xs W')\/∃ (xs:List X3) (rest:List It),xs.map (·.1)++rest=zs/\Jx xs W'))
  (a1:Nat->X3->Act) (ty:TypeId)
  (hDA:∀ (m:Nat) (x:X3) (W:World) (K:Act->World->Prop),K (a1 W.heap.size x) (W.alloc (.cells (VU x.1 x.2.1 x.2.2) ty)) ->
   assign.wpIn (Fence.wide.inRound (w.heap.size+1)) m prog (Exit.then K (fun _ _ _=>False)) { tmps:=a.tmps.setIfInBounds p (encX x),defers:=[] } W)
  (hMC:∀ (m:Nat) (pre:List X3) (x:X3) (bx:Nat) (W:World),w.heap.size+1<bx->W.heap[bx]?=some (.cells (VU x.1 x.2.1 x.2.2) ty (0,0))->¬M0 W bx->I pre W->FctX (MX w.heap.size M0) lo x W->pre.length<N ->
   body.wpIn (Fence.wide.inRound (w.heap.size+1)) m prog (roundX w.heap.size M0 I Ix (pre++[x]) W) (a1 bx x) W)
  (hMW:∀ (xs:List X3) (W:World),xs.map (·.1)=zs->I xs W->W.heap[w.heap.size]?=some (.deferred (some []))->Q .normal { a with defers:={ target:=.collected w.heap.size,args:=#[] } :: a.defers } W)
  (hOZ:∀ (xs:List X3) (rest:List It) (W:World),xs.map (·.1)++rest=zs->Ix xs W->W.heap[w.heap.size]?=some (.deferred (some []))->(Code.exit 0).wpIn Fence.wide n prog Q { a with defers:={ target:=.collected w.heap.size,args:=#[] } :: a.defers } W) :
  (Code.rangeFunc g #[p] assign body).wpIn Fence.wide n prog Q a w:=by
 obtain⟨B,hB⟩:∃ B,B=w.heap.size:=⟨_,rfl⟩
 refine wpIn_rangeFunc fun fn sF=>?_;obtain⟨R,hR⟩:∃ R:LoopState->Option Code->Loop,R=fun st pe=>{ state:=st,pending:=pe,fn,tmps:=a.tmps,params:=#[p],assign,body,defers:=w.heap.size }:=⟨_,rfl⟩
 obtain⟨W1,hW1⟩:∃ W1,(w.alloc (.deferred (some []))).alloc (.loop (R .ready none))=W1:=⟨_,rfl⟩
 have x1:Ext w W1:=hW1▸(zN _ _).trans (zN _ _)
 have oD:W1.heap[w.heap.size+1]?=some (.loop (R .ready none)):=by
  rw[<-hW1];have:=World.alloc_heap_new (w.alloc (.deferred (some []))) (.loop (R .ready none))
  rwa [World.size_alloc] at this
 have hd1:W1.heap[w.heap.size]?=some (.deferred (some [])):=hW1▸(zK _ _ _ zA2).trans (World.alloc_heap_new w _)
 have hI1:=(hI [] w W1 h0 (Tw.of_ext x1)).1;have KT:∀ {pre:List X3} {W W':World},I pre W->Tw w.heap.size W W'->ZN (MX w.heap.size M0) W W':=fun hi ht =>
  ⟨ht.os,ht.tape,ht.output,ht.size,fun b hb hm=>⟨ht.same b hb (fun e=>hm (.inl e)) (fun e=>hm (.inr (.inl e))),fun h=>hm (by
   rcases h with h|h|h
   ·exact .inl h
   ·exact .inr (.inl h)
   ·exact .inr (.inr ((hI _ _ _ hi ht).2 b h)))⟩⟩
 have HC:Ue lo (MX w.heap.size M0) (fun pre W=>I pre W/\W.heap[w.heap.size+1]?=some (.loop (R .ready none))/\W.heap[w.heap.size]?=some (.deferred (some [])))
   (fun pre W=>Ix pre W/\W.heap[w.heap.size+1]?=some (.loop (R .done (some (.exit 0))))/\W.heap[w.heap.size]?=some (.deferred (some []))) (w.heap.size+1) N:=by
  refine⟨fun W b h=>?_,fun pre W b hJ h=>?_,fun pre W W' hJ hx=>⟨⟨(hI _ _ _ hJ.1 (Tw.of_ext hx)).1,qb hJ.2.1 hx,qb hJ.2.2 hx⟩,fun b h=>?_⟩,fun m pre x W hJ hF hN=>?_⟩
  ·rcases h with rfl|rfl|h
   ·exact aQ
   ·omega
   ·exact hM W b h
  ·have:=(zG.1 hJ.2.1).1;rcases h with rfl|rfl|h
   ·omega
   ·omega
   ·exact hlt _ _ _ hJ.1 h
  ·rcases h with h|h|h
   ·exact .inl h
   ·exact .inr (.inl h)
   ·exact .inr (.inr ((hI _ _ _ hJ.1 (Tw.of_ext hx)).2 b h))
  ·obtain⟨hi,hl,hd⟩:=hJ;have hy:=run_yield (P:=prog) (args:=#[encX x]) hl (by rw[hR];rfl);rw[hR] at hy;have hy':(Instr.yield (w.heap.size+1) #[encX x]).run prog W=.ok (.round (w.heap.size+1) fn (a.tmps.setIfInBounds p (encX x)) assign body) W:=by rw[hy];simp
   clear hy;have hsz:w.heap.size+1<W.heap.size:=(zG.1 hl).1;refine⟨fn,_,assign,body,hy',roundIn_of_wpIn sF ?_⟩;refine hDA m x W _ ?_;have xa:Ext W (W.alloc (.cells (VU x.1 x.2.1 x.2.2) ty)):=zN _ _;have ra:(W.alloc (.cells (VU x.1 x.2.1 x.2.2) ty)).heap[W.heap.size]?=some (.cells (VU x.1 x.2.1 x.2.2) ty (0,0)):=zI _ _ _ rfl;generalize W.alloc (.cells (VU x.1 x.2.1 x.2.2) ty)=Wa at *;have hla:=qb hl xa;have hda:=qb hd xa;have hia:=hI _ _ _ hi (Tw.of_ext xa);refine⟨_,run_beginRound hla (by rw[hR]),?_⟩;have hla2:(Wa.putObj (w.heap.size+1) (.loop { R .ready none with state:=.busy })).heap[w.heap.size+1]?=some (.loop { R .ready none with state:=.busy }):=World.putObj_heap_same (zG.1 hla).1;have hda2:(Wa.putObj (w.heap.size+1) (.loop { R .ready none with state:=.busy })).heap[w.heap.size]?=some (.deferred (some [])):=(World.putObj_heap_other zO).trans hda;have tb:=Tw.put (B:=w.heap.size) Wa (.loop { R .ready none with state:=.busy });have hib:=hI _ _ _ hia.1 tb;have rb:(Wa.putObj (w.heap.size+1) (.loop { R .ready none with state:=.busy })).heap[W.heap.size]?=_:=(World.putObj_heap_other zO).trans ra;have kb:ZN (MX w.heap.size M0) W (Wa.putObj (w.heap.size+1) (.loop { R .ready none with state:=.busy })):=(KT hi (Tw.of_ext xa)).trans (KT hia.1 tb);have hnm:¬M0 (Wa.putObj (w.heap.size+1) (.loop { R .ready none with state:=.busy })) W.heap.size:=fun h=>by have:=hlt _ _ _ hi (hia.2 _ (hib.2 _ h));omega
   generalize Wa.putObj (w.heap.size+1) (.loop { R .ready none with state:=.busy })=Wb at *;refine wpIn_mono (hMC m pre x W.heap.size Wb hsz rb hnm hib.1 (hF.kept kb) hN) ?_;rintro e a3 W3 hp;have fin:∀ jump:Option Code,W3.heap[w.heap.size]?=Wb.heap[w.heap.size]?->W3.heap[w.heap.size+1]?=Wb.heap[w.heap.size+1]? ->
     (Instr.endRound (w.heap.size+1) jump).run prog W3=.ok (.bool jump.isNone) (W3.putObj (w.heap.size+1) (.loop (R (if jump.isNone then .ready else .done) jump))) /\
     (W3.putObj (w.heap.size+1) (.loop (R (if jump.isNone then .ready else .done) jump))).heap[w.heap.size+1]?=some (.loop (R (if jump.isNone then .ready else .done) jump)) /\
     (W3.putObj (w.heap.size+1) (.loop (R (if jump.isNone then .ready else .done) jump))).heap[w.heap.size]?=some (.deferred (some [])):=fun jump e1 e2=>by
    have mQ:=e2.trans hla2;have h1:=run_endRound (P:=prog) jump mQ;rw[hR] at h1 ⊢;exact⟨h1,World.putObj_heap_same (zG.1 mQ).1,(World.putObj_heap_other zO).trans (e1.trans hda2)⟩
   cases e with
   |normal =>
    obtain⟨⟨nH,e1,e2⟩,hi3⟩:=hp;obtain⟨f1,f2,f3⟩:=fin none e1 e2;have t3:=Tw.put (B:=w.heap.size) W3 (.loop (R .ready none));exact⟨_,_,f1,.inl ⟨rfl,⟨(hI _ _ _ hi3 t3).1,f2,f3⟩,(kb.trans nH).trans (KT hi3 t3)⟩⟩
   |exit id =>
    obtain⟨⟨e1,e2⟩,rfl,hi3⟩:=hp;obtain⟨f1,f2,f3⟩:=fin (some (.exit 0)) e1 e2;exact⟨_,_,f1,.inr ⟨rfl,hIx _ _ _ hi3 (Tw.put _ _),f2,f3⟩⟩
   |ret=>exact hp.elim
   |goto t=>exact hp.elim
   |panic ch=>exact hp.elim
   |outgrown=>exact hp.elim
 refine⟨w.heap.size+1,[{ target:=.collected w.heap.size,args:=#[] }],W1,{ target:=.fn (.func gf) lb,args:=#[.func (.yield (w.heap.size+1)) #[] #[]] },W1,gf,
  #[.func (.yield (w.heap.size+1)) #[] #[]]++lb,W1,?_,?_,?_,?_,fun _=>hn,?_⟩
 ·rw[<-hW1,hR];exact run_enterLoop_outer _ _ _ _ _
 ·simp only[resolve,hg];simp[go_sem]
 ·intro f' hf';exact trivial
 ·simp[invoke,go_sem,eg]
 ·refine(hNH _ _ W1 x1 HC ⟨hI1,oD,hd1⟩).mono ?_;rintro e W2 ⟨⟨v,rfl⟩,(⟨xs,hS,hi,hl,hd⟩|⟨xs,rest,hS,hi,hl,hd⟩)⟩
  ·have h1:=run_endLoop (P:=prog) hl (by rw[hR];simp);rw[hR] at h1;exact⟨none,_,h1,hMW xs _ hS (hI _ _ _ hi (Tw.put _ _)).1 ((World.putObj_heap_other zO).trans hd)⟩
  ·have h1:=run_endLoop (P:=prog) hl (by rw[hR];simp);rw[hR] at h1;exact⟨some (.exit 0),_,h1,hOZ xs rest _ hS (hIx _ _ _ hi (Tw.put _ _)) ((World.putObj_heap_other zO).trans hd)⟩
theorem qen {W W':World} {v:Value} {l:List UInt8} (h:Bys W W.heap.size v l) (hs:W.heap.size<=W'.heap.size) (hk:∀ b o n c,v=.slice (some ⟨b,o,none⟩) n c->0<l.length->W'.heap[b]?=W.heap[b]?):Bys W' W'.heap.size v l:=by obtain⟨A,c,e,hc,hm,hr⟩:=h;refine⟨A,c,e,hc,hm,hr.1,fun hp=>?_⟩;obtain⟨b,off,rfl,hb,aC⟩:=hr.2 hp;exact⟨b,off,rfl,zO,fun j u hu=>(World.cell?_of_block (w:=W) (hk b off _ _ e hp)).trans (aC j u hu)⟩
theorem qjF {w w':World} {base n size:Nat} {e:TypeId} {v:Value} {xs:List Value} (h:w.ownsRow base e size v n xs) (hk:∀ g,v.ownBlock=some g->w'.heap[g]?=w.heap[g]?):w'.ownsRow base e size v n xs:=
 ⟨h.1,h.2.imp id fun ⟨g,cap,cur,h1,h2,h3,h4⟩=>⟨g,cap,cur,h1,h2,(hk g (by rw[h1];rfl)).trans h3,h4⟩⟩
def M0 (lo:Nat) (W:World) (b:Nat):Prop:=b=lo+3\/∃ v,W.cell? ⟨lo+3,0,none⟩=some v/\v.ownBlock=some b/\lo<=b
structure RgI (lo B:Nat) (K:K3) (w:World) (pre:List X3) (v:Value) (W:World):Prop where
 ro:W.heap[lo+3]?=some (.cells #[v] 55 (0,0))
 rt:W.heap[lo+2]?=some (.cells #[.int .u8 K.1,.int .u32 K.2.1,.int .u32 K.2.2] 49 (0,0))
 row:vS (B+2) lo W v (pre.map fun x=>(x.1,JD x))
 nz:∀ x∈pre,Nz W (JD x)
 off:∀ x∈pre,∀ b o,x.2.1=some ⟨b,o,none⟩->0<x.1.val.length->b≠lo+3/\b≠B/\b≠B+1
 le:∀ x∈pre,qP K (qo x.1)=false
 blw:Below lo w W
theorem nz_blk {W W':World} {x:X3} (hb:Bys W W.heap.size (JD x) x.1.val) (h:Nz W (JD x)) (hk:∀ b o,x.2.1=some ⟨b,o,none⟩->0<x.1.val.length->W'.heap[b]?=W.heap[b]?):Nz W' (JD x):=fun a n c e hn=>by
 obtain⟨cs,ty,hr⟩:=h a n c e hn;obtain⟨A,c',e1,-,-,h4⟩:=hb;simp only[JD,Value.slice.injEq] at e e1;obtain⟨b',off,e4,-,-⟩:=h4.2 zO;have e5:a=⟨b',off,none⟩:=by
  have:some a=some ⟨b',off,none⟩:=by rw[<-e.1,e1.1,e4]
  exact Option.some.inj this
 subst e5;exact⟨cs,ty,(hk b' off e.1 zO).trans hr⟩
theorem RgI.mem {lo B:Nat} {K:K3} {w W:World} {pre:List X3} {v:Value} (h:RgI lo B K w pre v W) {x:X3} (hx:x∈pre):Zu lo (JD x)/\Bys W W.heap.size (JD x) x.1.val/\YH v (JD x):=by have:=h.row.2 (x.1,JD x) (List.mem_map.2 ⟨x,hx,rfl⟩);exact⟨this.1.2,this.2.1,this.2.2⟩
theorem RgI.blk {lo B:Nat} {K:K3} {w W W':World} {pre:List X3} {v:Value} (h:RgI lo B K w pre v W) (hB:lo+3<B) (hs:W.heap.size<=W'.heap.size) (hk:∀ b,b<W.heap.size->b≠B->b≠B+1->W'.heap[b]?=W.heap[b]?) (hb:Below lo w W'):RgI lo B K w pre v W':=by
 have cZ:∀ x∈pre,∀ b o,x.2.1=some ⟨b,o,none⟩->0<x.1.val.length->W'.heap[b]?=W.heap[b]?:=fun x hx b o e hp=>by obtain⟨-,h2,h3⟩:=h.off x hx b o e hp;obtain⟨-,hy,-⟩:=h.mem hx;obtain⟨A,c,e1,-,-,hr⟩:=hy;obtain⟨b',o',e4,e5,-⟩:=hr.2 hp;simp only[JD,Value.slice.injEq] at e1;rw[e,e4] at e1;simp only[Option.some.injEq,Addr.mk.injEq] at e1;exact hk b zO h2 h3
 have z3:=(zG.1 h.ro).1;refine⟨(hk _ z3 zO zO).trans h.ro,(hk _ zO zO zO).trans h.rt,⟨qjF h.row.1 fun g hg=>?_,fun p hp=>?_⟩,fun x hx=>nz_blk (h.mem hx).2.1 (h.nz x hx) (cZ x hx),h.off,h.le,hb⟩
 ·have:=QP h.row.1 g hg;exact hk g this.2 zO zO
 ·obtain⟨x,hx,rfl⟩:=List.mem_map.1 hp;refine⟨(h.row.2 _ hp).1,qen (h.mem hx).2.1 hs (fun b o n c e fU=>cZ x hx b o ?_ fU),(h.row.2 _ hp).2.2⟩;simp only[JD,Value.slice.injEq] at e;exact e.1
theorem RgI.tw {lo B:Nat} {K:K3} {w W W':World} {pre:List X3} {v:Value} (h:RgI lo B K w pre v W) (hB:lo+3<B) (ht:Tw B W W'):RgI lo B K w pre v W'/\∀ b,M0 lo W' b->M0 lo W b:=by
 have z3:=(zG.1 h.ro).1;refine⟨h.blk hB ht.size ht.same ?_,fun b hb=>?_⟩
 ·exact h.blw.trans ⟨ht.os,ht.tape,ht.output,ht.size,fun k hk=>ht.same k zO zO zO⟩
 ·rcases hb with hb|⟨v',h1,h2⟩
  ·exact .inl hb
  ·have hs:W'.heap[(⟨lo+3,0,none⟩:Addr).block]?=W.heap[(⟨lo+3,0,none⟩:Addr).block]?:=ht.same (lo+3) z3 zO zO;rw[World.cell?_of_block hs] at h1;exact .inr ⟨v',h1,h2⟩
theorem RgI.lt {lo B:Nat} {K:K3} {w W:World} {pre:List X3} {v:Value} (h:RgI lo B K w pre v W) {b:Nat} (hb:M0 lo W b):b<W.heap.size:=by
 rcases hb with rfl|⟨v',h1,h2,-⟩
 ·exact(zG.1 h.ro).1
 ·rw[qa h.ro] at h1;cases h1;exact(QP h.row.1 b h2).2
theorem RgI.push {lo B:Nat} {K:K3} {w W W':World} {pre:List X3} {v v':Value} (h:RgI lo B K w pre v W) (hB:lo+3<B) (yU:B+1<W.heap.size) {x:X3} (hF:FctX (MX B (M0 lo)) lo x W) (hl:qP K (qo x.1)=false) (hD:Done (B+2) 51 5 W.heap.size v (pre.length+1) (Qa (pre.map fun x=>(x.1,JD x))++qam x.1 (JD x)) v' W') (hg:W.grownBy W' v.ownBlock):RgI lo B K w (pre++[x]) v' (W'.setCell ⟨lo+3,0,none⟩ v')/\(ZN (MX B (M0 lo)) W (W'.setCell ⟨lo+3,0,none⟩ v')/\(W'.setCell ⟨lo+3,0,none⟩ v').heap[B]?=W.heap[B]?/\(W'.setCell ⟨lo+3,0,none⟩ v').heap[B+1]?=W.heap[B+1]?):=by
 have z3:=(zG.1 h.ro).1;have bC:=QP h.row.1;have lN:∀ b o,x.2.1=some ⟨b,o,none⟩->0<x.1.val.length->b≠lo+3/\b≠B/\b≠B+1/\v.ownBlock≠some b:=fun b o e hp=>by have hm:=hF.own b o e hp;refine⟨fun e=>hm (.inr (.inr (.inl e))),fun e=>hm (.inl e),fun e=>hm (.inr (.inl e)),fun e'=>hm (.inr (.inr (.inr ⟨v,qa h.ro 0,e',?_⟩)))⟩;have:=hF.fr ⟨b,o,none⟩ _ _ (by rw[<-e]);exact this
 have dh:YH v (JD x):=fun a n c e hn=>by
  obtain⟨A,c',e1,-,-,h4⟩:=hF.by_;simp only[JD,Value.slice.injEq] at e e1;obtain⟨b',off,e4,-,-⟩:=h4.2 zO;have e5:a=⟨b',off,none⟩:=by
   have:some a=some ⟨b',off,none⟩:=by rw[<-e.1,e1.1,e4]
   exact Option.some.inj this
  subst e5;exact(lN b' off e.1 zO).2.2.2
 have hR:=h.row.push x.1 x.2.1 x.2.2 hF.by_ hF.fr dh rfl (by rw[List.length_map];exact hD) hg;have rH:W'.heap[lo+3]?=some (.cells #[v] 55 (0,0)):=(hg.block _ z3 (fun e=>by have:=bC _ e.symm;omega)).trans h.ro;have aH:∀ b,b<W.heap.size->b≠lo+3->v.ownBlock≠some b->(W'.setCell ⟨lo+3,0,none⟩ v').heap[b]?=W.heap[b]?:=fun b hb h1 h2=>(zJ _ _ _ _ h1).trans (hg.block b hb fun e=>h2 e.symm);have hoff:∀ y∈pre++[x],∀ b o,y.2.1=some ⟨b,o,none⟩->0<y.1.val.length->b≠lo+3/\b≠B/\b≠B+1:=fun y hy b o e hp=>by
  rcases List.mem_append.1 hy with hy|hy
  ·exact h.off y hy b o e hp
  ·obtain rfl:y=x:=by simpa using hy
   exact⟨(lN b o e hp).1,(lN b o e hp).2.1,(lN b o e hp).2.2.1⟩
 have hsz:(W'.setCell ⟨lo+3,0,none⟩ v').heap.size=W'.heap.size:=zA2;refine⟨⟨qi rH 0 _,(aH _ zO zO (fun e=>by have:=bC _ e;omega)).trans h.rt,?_,?_,hoff,?_,?_⟩,⟨?_,?_⟩⟩
 ·rw[List.map_append];refine⟨Vb hR.1 zA1 _,fun p hp=>?_⟩;have fU:=hR.2 p hp;refine⟨fU.1,?_,fU.2.2⟩;obtain⟨y,hy,rfl⟩:∃ y∈pre++[x],(y.1,JD y)=p:=by
   rcases List.mem_append.1 hp with hp|hp
   ·obtain⟨y,hy,e⟩:=List.mem_map.1 hp;exact⟨y,List.mem_append_left _ hy,e⟩
   ·exact⟨x,zA2,(by simpa using hp:p=(x.1,JD x)).symm⟩
  refine qen fU.2.1 zA2 (fun b o n c e dV=>zJ _ _ _ _ ?_);simp only[JD,Value.slice.injEq] at e;exact(hoff y hy b o e.1 dV).1
 ·have:=qjy h.row (fun p hp=>by obtain⟨y,hy,rfl⟩:=List.mem_map.1 hp;exact h.nz y hy) (x:=x.1) hF.nz dh hg ⟨lo+3,0,none⟩ v';intro y hy;refine this (y.1,JD y) ?_;rcases List.mem_append.1 hy with hy|hy
  ·exact List.mem_append_left _ (List.mem_map.2 ⟨y,hy,rfl⟩)
  ·obtain rfl:y=x:=by simpa using hy
   simp
 ·intro y hy;rcases List.mem_append.1 hy with hy|hy
  ·exact h.le y hy
  ·obtain rfl:y=x:=by simpa using hy
   exact hl
 ·exact h.blw.trans (Below.setCell ((Below.refl lo W).grown hg zO (fun k hk=>by have:=bC k hk;omega)) (p:=⟨lo+3,0,none⟩) zA2 _)
 ·refine⟨hg.os,hg.tape,hg.output,by rw[hsz];exact hg.size,fun b hb hm=>?_⟩;have h1:b≠lo+3:=fun e=>hm (.inr (.inr (.inl e)));have h2:v.ownBlock≠some b:=fun e=>hm (.inr (.inr (.inr ⟨v,qa h.ro 0,e,by have:=bC b e;omega⟩)));refine⟨aH b hb h1 h2,fun h'=>?_⟩;rcases h' with h'|h'|h'|⟨u,hu,h3,-⟩
  ·exact hm (.inl h')
  ·exact hm (.inr (.inl h'))
  ·exact h1 h'
  ·rw[qa (qi rH 0 v')] at hu;cases hu;replace h3:v'.ownBlock=some b:=h3;rcases hD.2 with h4|⟨g,h4,h5⟩
   ·exact h2 (h4 ▸ h3)
   ·rw[h4] at h3;cases h3;omega
 ·exact⟨aH B zO zO (fun e=>by have:=bC _ e;omega),aH (B+1) yU zO (fun e=>by have:=bC _ e;omega)⟩
theorem qdO {B:Nat} {K:K3} {w W:World} {pre:List X3} {v:Value} (h:RgI w.heap.size B K w pre v W) (hB:w.heap.size+3<B) (hD:W.heap[B]?=some (.deferred (some []))) (u:Value):vS w.heap.size w.heap.size ((W.setCell ⟨w.heap.size+3,0,none⟩ u).putObj B (.deferred none)) v (pre.map fun x=>(x.1,JD x))/\(∀ p∈pre.map fun x:X3=>(x.1,JD x),Nz ((W.setCell ⟨w.heap.size+3,0,none⟩ u).putObj B (.deferred none)) p.2)/\Below w.heap.size w ((W.setCell ⟨w.heap.size+3,0,none⟩ u).putObj B (.deferred none)):=by
 have hk:∀ b,b≠w.heap.size+3->b≠B->((W.setCell ⟨w.heap.size+3,0,none⟩ u).putObj B (.deferred none)).heap[b]?=W.heap[b]?:=fun b h1 h2=>(World.putObj_heap_other h2).trans (zJ _ _ _ _ h1);have hs:((W.setCell ⟨w.heap.size+3,0,none⟩ u).putObj B (.deferred none)).heap.size=W.heap.size:=by simp[World.putObj]
 have cZ:∀ x∈pre,∀ b o,x.2.1=some ⟨b,o,none⟩->0<x.1.val.length->((W.setCell ⟨w.heap.size+3,0,none⟩ u).putObj B (.deferred none)).heap[b]?=W.heap[b]?:=fun x hx b o e hp=>hk b (h.off x hx b o e hp).1 (h.off x hx b o e hp).2.1;refine⟨⟨QJ (qjF h.row.1 fun g hg=>?_) zO,fun p hp=>?_⟩,fun p hp=>?_,?_⟩
 ·have:=QP h.row.1 g hg;exact hk g zO zO
 ·obtain⟨x,hx,rfl⟩:=List.mem_map.1 hp;refine⟨(h.row.2 _ hp).1,qen (h.mem hx).2.1 (by rw[hs];exact zM _) (fun b o n c e fU=>cZ x hx b o ?_ fU),(h.row.2 _ hp).2.2⟩;simp only[JD,Value.slice.injEq] at e;exact e.1
 ·obtain⟨x,hx,rfl⟩:=List.mem_map.1 hp;exact nz_blk (h.mem hx).2.1 (h.nz x hx) (cZ x hx)
 ·exact h.blw.trans ⟨rfl,rfl,rfl,by rw[hs];exact zM _,fun k hk'=>hk k zO zO⟩
theorem Gx {S:Sto}:∀ (h:Nat) (xs:List It),xs.length<=5->(qC S h xs).length<=5 ^ (h+1)
 |0,xs,hl=>by simpa [qC] using hl
 |h+1,xs,hl=>by
  rw[zy];have key:∀ l:List It,(l.flatMap fun y=>match qt S y.r.toNat with|none=>[]|some (_,ys)=>qC S h ys).length<=l.length*5 ^ (h+1):=by
   intro l;induction l with
   |nil=>simp
   |cons y r ih =>
    rw[List.flatMap_cons,List.length_append,List.length_cons,Nat.add_mul,Nat.one_mul];have h1:(match qt S y.r.toNat with|none=>[]|some (_,ys)=>qC S h ys).length<=5 ^ (h+1):=by
     rcases hn:qt S y.r.toNat with _|⟨lvl,ys⟩
     ·simp
     ·have hm:=(qM hn).1;have:ys.length<=5:=by unfold Qf ja at hm;simp at hm;omega
      exact Gx h ys this
    omega
  refine Nat.le_trans (key xs) ?_;rw[Nat.pow_succ 5 (h+1),Nat.mul_comm];exact Nat.mul_le_mul_left _ hl
end Go.Proofs.YtmeadnlmepcmbaaGreat
namespace Go.Proofs.YtmeadnlmepcmbaaGreat
open Go.RowKit
attribute [local go_sem] Oper.semAt_some
set_option maxRecDepth 100000 in
theorem qiU (A1:OA) (n1 c1:Nat) (A2:OA) (n2 c2:Nat) (A3:OA) (n3 c3:Nat) (A4:OA) (n4 c4:Nat) (a:Nat) (k i o:Int) (w:World):Calls prog 134 #[Qe A1 n1 c1 A2 n2 c2 A3 n3 c3 A4 n4 c4,.int .i64 (a:Int),TP k i o] w fun e W=>e=.returned (.func (.func 178) #[] #[.pointer (some ⟨w.heap.size,0,none⟩),.pointer (some ⟨w.heap.size+2,0,none⟩),.pointer (some ⟨w.heap.size+1,0,none⟩)]) /\
   W=((w.alloc (.cells #[.slice A1 n1 c1,.slice A2 n2 c2,.slice A3 n3 c3,.slice A4 n4 c4] 28)).alloc (.cells #[.int .i64 (a:Int)] 3)).alloc (.cells #[.int .u8 k,.int .u32 i,.int .u32 o] 49):=by
 go_enter func134,ntmps134;go_wp2_with fail;go_ret;exact⟨rfl,rfl⟩
set_option maxRecDepth 100000 in
theorem qkN (A1 n1 c1 A2 n2 c2 A3 n3 c3 A4 n4 c4) (S:Sto) (hS:ql S=true) (a lvl:Nat) (xs:List It) (ha:8<=a) (ak:a<256) (hn:qt S a=some ((lvl:Int),xs)) (aN:(qD S lvl xs).isSome=true) (k i o k2 i2 o2:Int) (w:World) (aH:qV w w.heap.size (.slice A1 n1 c1) (.slice A2 n2 c2) (.slice A3 n3 c3) (.slice A4 n4 c4) S):Calls prog 68 #[Qe A1 n1 c1 A2 n2 c2 A3 n3 c3 A4 n4 c4,.int .i64 (a:Int),TP k i o,TP k2 i2 o2] w (Zg (fun u W=>∃ (ps:List (It×Value)) (v:Value),u=.tuple #[v,.int .i64 0]/\ps.map (·.1)=vV S lvl (k,i,o) (k2,i2,o2) xs/\vS w.heap.size w.heap.size W v ps/\∀ p∈ps,Nz W p.2) w):=by
 have HCK:=zH (fun W (hx:Ext w W)=>Yj A1 n1 c1 A2 n2 c2 A3 n3 c3 A4 n4 c4 S hS a ⟨ha,ak,lvl,xs,hn,aN⟩ W (aH.ext hx));replace aH:=zH aH;replace hn:=zH hn;replace aN:=zH aN;replace hS:=zH hS;refine(callsIn_wide (n:=3)).1 ?_;refine callsIn_of_wp_marks func68 rfl trivial ?_ rfl;simp only[ntmps68,List.size_toArray,List.length_cons,List.length_nil,Nat.reduceAdd,Nat.reduceSub,Array.replicate_succ,Array.replicate_zero,List.push_toArray,List.append_toArray,List.nil_append,List.cons_append];refine wpIn_wide.2 ?_;go_wp2_with fail;generalize aA:(World.alloc (World.alloc (World.alloc (World.alloc w _) _) _) _)=w1;have x1:Ext w w1:=aA▸(((zN _ _).trans (zN _ _)).trans (zN _ _)).trans (zN _ _)
 have rs1:w1.heap[w.heap.size]?=some (.cells #[.slice A1 n1 c1,.slice A2 n2 c2,.slice A3 n3 c3,.slice A4 n4 c4] 28 (0,0)):=by rw[<-aA];exact(zK _ _ _ zA1).trans ((zK _ _ _ (by simp;try omega)).trans ((zK _ _ _ zA2).trans (zI _ _ _ rfl)))
 have rf1:w1.heap[w.heap.size+1]?=some (.cells #[.int .u8 k,.int .u32 i,.int .u32 o] 49 (0,0)):=by rw[<-aA];exact(zK _ _ _ (by simp;try omega)).trans ((zK _ _ _ zA2).trans (zI _ _ _ zA2))
 have rt1:w1.heap[w.heap.size+2]?=some (.cells #[.int .u8 k2,.int .u32 i2,.int .u32 o2] 49 (0,0)):=aA▸(zK _ _ _ zA2).trans (zI _ _ _ zA2)
 have ro1:w1.heap[w.heap.size+3]?=some (.cells #[.slice none 0 0] 55 (0,0)):=aA▸zI _ _ _ zA2
 clear aA;refine(HCK.out w1 x1).mono ?_;clear HCK;rintro e w2 ⟨u,rfl,⟨m,rfl⟩,hB⟩;have x2:Ext w w2:=Ext.trans x1 hB;have rs2:=qb rs1 hB;have rf2:=qb rf1 hB;have rt2:=qb rt1 hB;have ro2:=qb ro1 hB;have z2:w.heap.size+3<w2.heap.size:=(zG.1 ro2).1;clear rs1 rf1 rt1 ro1 hB x1;have ks2:=qa rs2;have kf2:=qa rf2;go_wp2_with fail;refine(qiU A1 n1 c1 A2 n2 c2 A3 n3 c3 A4 n4 c4 a k i o w2).mono ?_;rintro e w3 ⟨rfl,aO⟩;have x23:Ext w2 w3:=by rw[aO];exact((zN _ _).trans (zN _ _)).trans (zN _ _)
 have gs3:w3.heap[w2.heap.size]?=some (.cells #[.slice A1 n1 c1,.slice A2 n2 c2,.slice A3 n3 c3,.slice A4 n4 c4] 28 (0,0)):=by rw[aO];exact(zK _ _ _ zA1).trans ((zK _ _ _ zA2).trans (zI _ _ _ rfl))
 have gr3:w3.heap[w2.heap.size+1]?=some (.cells #[.int .i64 (a:Int)] 3 (0,0)):=by rw[aO];exact(zK _ _ _ zA2).trans (zI _ _ _ zA2)
 have gf3:w3.heap[w2.heap.size+2]?=some (.cells #[.int .u8 k,.int .u32 i,.int .u32 o] 49 (0,0)):=by rw[aO];exact zI _ _ _ zA2
 have rt3:=qb rt2 x23;have ro3:=qb ro2 x23;have x3:Ext w w3:=x2.trans x23;have z3:w2.heap.size+2<w3.heap.size:=(zG.1 gf3).1;clear aO ks2 kf2 rs2 rf2 rt2 ro2 x2 x23;go_wp2_with fail;have I0:RgI w.heap.size w3.heap.size (k2,i2,o2) w [] (.slice none 0 0) w3:=⟨ro3,rt3,vS.nil _ _ _,(fun _ h=>by cases h),(fun _ h=>by cases h),(fun _ h=>by cases h),x3⟩
 have hBz:w.heap.size+3<w3.heap.size:=zO;have hlen:(QT S lvl (k,i,o) xs).length<=15625:=by
  have hmay:=(qM hn.out).1;have h1:xs.length<=5:=by unfold Qf ja at hmay;simp at hmay;omega
  have h2:lvl<=5:=by unfold Qf ja at hmay;simp at hmay;omega
  exact Nat.le_trans (List.length_filter_le _ _) (Nat.le_trans (Gx (S:=S) lvl xs h1) (show 5 ^ (lvl+1)<=5 ^ 6 from Nat.pow_le_pow_right zO zO))
 obtain⟨i0,hi,ag,aV,aW⟩:=info_parts Tryz.info_item;refine(wpIn_wide (n:=3)).1 ?_;refine qgM (n:=3) zD (gf:=178) (lb:=#[.pointer (some ⟨w2.heap.size,0,none⟩),.pointer (some ⟨w2.heap.size+2,0,none⟩),.pointer (some ⟨w2.heap.size+1,0,none⟩)]) rfl (enters_of func178 zQ rfl)
  w.heap.size (QT S lvl (k,i,o) xs).length (M0 w.heap.size) (fun pre W=>∃ v,RgI w.heap.size w3.heap.size (k2,i2,o2) w pre v W)
  (fun pre W=>∃ pre' x v,pre=pre'++[x]/\qP (k2,i2,o2) (qo x.1)=true/\RgI w.heap.size w3.heap.size (k2,i2,o2) w pre' v W) (QT S lvl (k,i,o) xs) x3.size (fun W b hb=>?_)
  (fun pre W W' ⟨v,h⟩ ht=>⟨⟨v,(h.tw hBz ht).1⟩,(h.tw hBz ht).2⟩) (fun pre W W' ⟨pre',x,v,h1,h2,h⟩ ht=>⟨pre',x,v,h1,h2,(h.tw hBz ht).1⟩) (fun pre W b ⟨v,h⟩ hb=>h.lt hb) ⟨_,I0⟩ (fun J Jx W xW HC hJ=>?_)
  (fun bx x=>{ tmps:=#[Qe A1 n1 c1 A2 n2 c2 A3 n3 c3 A4 n4 c4,.int .i64 a,TP k i o,TP k2 i2 o2,.pointer (some ⟨w.heap.size,0,none⟩),undef,.pointer (some ⟨w.heap.size+1,0,none⟩),.pointer (some ⟨w.heap.size+1+1,0,none⟩),.pointer (some ⟨w.heap.size+1+1+1,0,none⟩),.int .i64 0,
   .int .i64 m,.int .i64 0,.pointer (some ⟨bx,0,none⟩),.tuple #[.int .i64 m,.int .i64 0],.agg #[.slice A1 n1 c1,.slice A2 n2 c2,.slice A3 n3 c3,.slice A4 n4 c4],.int .i64 a,.tuple #[.int .i64 m,.int .i64 0],.int .i64 m,.int .i64 0,.int .i64 0,.bool false,undef,
   .agg #[.slice A1 n1 c1,.slice A2 n2 c2,.slice A3 n3 c3,.slice A4 n4 c4],.int .i64 a,.agg #[.int .u8 k,.int .u32 i,.int .u32 o],.func (.func 178) #[] #[.pointer (some ⟨w2.heap.size,0,none⟩),.pointer (some ⟨w2.heap.size+2,0,none⟩),.pointer (some ⟨w2.heap.size+1,0,none⟩)],
   encX x,undef,undef,undef,undef,undef,undef,undef,undef,undef],defers:=[] }) 51 ?assign ?body ?done ?stop
 ·rcases hb with rfl|⟨v,-,-,h⟩
  ·omega
  ·exact h
 ·have hst2:=aH.out.below (x3.trans xW);refine(callsIn_wide (n:=3-1)).2 (qhZ S hS.out k i o w.heap.size (w3.heap.size+1) _ _ J Jx A1 n1 c1 A2 n2 c2 A3 n3 c3 A4 n4 c4 HC w2.heap.size (w2.heap.size+2) (w2.heap.size+1) W (by have:=x3.size;have:=xW.size;omega) hst2 (qb gs3 xW) (qb gf3 xW) a lvl xs (qb gr3 xW) ?_ ha ak hn.out aN.out (zM _) hJ);rintro (h|h|h|⟨v,h1,h2,-⟩)
  ·omega
  ·omega
  ·omega
  ·rw[qa (qb ro3 xW)] at h1;cases h1;cases h2
 case assign =>
  intro m' x W K hK
  gi_wp2_with fail
  exact hK
 case body =>
  rintro m' pre x bx W oU aF hnm ⟨v,hI⟩ hF hN;have HL:=zH (fun W=>vY k2 i2 o2 x.1.k x.1.i x.1.o W);have hkx:qP (k2,i2,o2) (qo x.1)=Jv k2 i2 o2 x.1.k x.1.i x.1.o:=rfl;have kx:=qa aF;have kt:=qa hI.rt;have zB:w3.heap.size+1<W.heap.size:=Nat.lt_of_lt_of_le oU (Nat.le_of_lt (zG.1 aF).1);generalize Jv k2 i2 o2 x.1.k x.1.i x.1.o=L at *;replace hI:=zH hI;replace hF:=zH hF;replace I0:=zH I0;cases L
  ·gi_wp2_with fail
   refine⟨trivial,fun h=>(by cases h),(CallsIn.inRound _ (callsIn_wide.2 (HL.out _))).mono ?_⟩;rintro e W2 ⟨rfl,dI⟩;have I2:=(hI.out.tw hBz (Tw.of_ext dI)).1;have M2:=(hI.out.tw hBz (Tw.of_ext dI)).2;have hF2:=hF.out.kept (W':=W2) ⟨dI.os,dI.tape,dI.output,dI.size,fun b hb hm=>⟨dI.block b hb,fun h=>hm (h.imp id fun h=>h.imp id (M2 b))⟩⟩;have kx2:=qa (qb aF dI);have ko2:=qa I2.ro;have ax:(pre.map fun x:X3=>(x.1,JD x)).length=pre.length:=List.length_map _;have aB:=I2.row.1;rw[ax] at aB;obtain⟨Av,cv,rfl,-,-⟩:=qE aB;have zo2:w.heap.size+3<W2.heap.size:=(zG.1 I2.ro).1;have zB2:w3.heap.size+1<W2.heap.size:=Nat.lt_of_lt_of_le zB dI.size;replace I2:=zH I2;replace hF2:=zH hF2;replace hkx:=zH hkx;replace M2:=zH M2;clear kx kt
   gi_wp2_with (gi_at_builtin;refine Kx ?_)
   refine QF.go (Kw W2 rfl (.tmp 31) (.tmp 33) 55 rfl (w3.heap.size+2) 51 i0 _ 5 48 underlying55 hi ag aV aW rfl zD (.slice Av pre.length cv) pre.length _ zE aB (VU x.1 x.2.1 x.2.2) zE rfl zA7 zO zD zO ?_);intro v' W3 dH hg fE;have hP:=I2.out.push (x:=x) hBz zB2 hF2.out hkx.out ⟨dH,fE⟩ hg;have bC:=QP aB;have ro3':W3.heap[w.heap.size+3]?=_:=(hg.block _ zo2 (fun e=>by have:=(bC _ e.symm).1;omega)).trans I2.out.ro;obtain⟨Av',cv',rfl,-,-⟩:=qE dH;have ko3:=qa ro3';have fo3:=qe ro3';replace hP:=zH hP;clear aB dH hg fE bC ro3' kx2 ko2 hi ag aV aW
   gi_wp2_with fail
   refine⟨⟨ZN.trans ⟨dI.os,dI.tape,dI.output,dI.size,fun b hb hm=>⟨dI.block b hb,fun h=>hm (h.imp id fun h=>h.imp id (M2.out b))⟩⟩ hP.out.2.1,hP.out.2.2.1.trans (dI.block _ zO),hP.out.2.2.2.trans (dI.block _ zB)⟩,_,hP.out.1⟩
  ·gi_wp2_with fail
   refine⟨trivial,fun h=>(by cases h),(CallsIn.inRound _ (callsIn_wide.2 (HL.out _))).mono ?_⟩;rintro e W2 ⟨rfl,dI⟩;have I2:=(hI.out.tw hBz (Tw.of_ext dI)).1;replace I2:=zH I2;replace hkx:=zH hkx;clear kx kt
   gi_wp2_with fail
   exact⟨⟨dI.block _ zO,dI.block _ zB⟩,rfl,pre,x,v,rfl,hkx.out,I2.out⟩
 case done =>
  rintro ys W eQ ⟨v,hI⟩ hD;have ax:(ys.map fun x:X3=>(x.1,JD x)).length=ys.length:=List.length_map _;have aB:=hI.row.1;rw[ax] at aB;obtain⟨Av,cv,rfl,-,-⟩:=qE aB;have ko:=qa hI.ro;have fo:=qe hI.ro;replace I0:=zH I0;replace hI:=zH hI;replace hD:=zH hD;clear aB hi ag aV aW;replace eQ:=zH eQ;go_wp2_with fail;have aJ:=qdO hI.out hBz hD.out (.slice Av ys.length cv);have rf:=qi hI.out.ro 0 (.slice Av ys.length cv);have df:=(zJ W ⟨w.heap.size+3,0,none⟩ (.slice Av ys.length cv) w3.heap.size zA1).trans hD.out;generalize aY:(World.setCell W _ _)=wf at *;have rf2:(wf.putObj w3.heap.size (.deferred none)).heap[w.heap.size+3]?=_:=(World.putObj_heap_other zO).trans rf;have kf:=qa rf2;refine⟨zA2,.inl ⟨_,_,rfl,run_takeDeferred df,.tuple #[.slice Av ys.length cv,.int .i64 0],?_,_,rfl,⟨_,_,rfl,?_,aJ.1,aJ.2.1⟩,aJ.2.2⟩⟩
  ·simp[results,results68,go_sem,kf]
  ·rw[List.map_map,qfA fun y hy=>?_,<-eQ.out]
   ·rfl
   ·rw[<-eQ.out] at hy;obtain⟨x,hx,rfl⟩:=List.mem_map.1 hy;exact hI.out.le x hx
 case stop =>
  rintro ys rest W eQ ⟨pre',x,v,rfl,hlt,hI⟩ hD;have ax:(pre'.map fun x:X3=>(x.1,JD x)).length=pre'.length:=List.length_map _;have aB:=hI.row.1;rw[ax] at aB;obtain⟨Av,cv,rfl,-,-⟩:=qE aB;have ko:=qa hI.ro;have fo:=qe hI.ro;replace I0:=zH I0;replace hI:=zH hI;replace hD:=zH hD;clear aB hi ag aV aW;replace eQ:=zH eQ;replace hlt:=zH hlt
  gi_wp2
  go_wp2_with fail;have aJ:=qdO hI.out hBz hD.out (.slice Av pre'.length cv);have rf:=qi hI.out.ro 0 (.slice Av pre'.length cv);have df:=(zJ W ⟨w.heap.size+3,0,none⟩ (.slice Av pre'.length cv) w3.heap.size zA1).trans hD.out;generalize aY:(World.setCell W _ _)=wf at *;have rf2:(wf.putObj w3.heap.size (.deferred none)).heap[w.heap.size+3]?=_:=(World.putObj_heap_other zO).trans rf;have kf:=qa rf2;refine⟨zA2,.inl ⟨_,_,rfl,run_takeDeferred df,.tuple #[.slice Av pre'.length cv,.int .i64 0],?_,_,rfl,⟨_,_,rfl,?_,aJ.1,aJ.2.1⟩,aJ.2.2⟩⟩
  ·simp[results,results68,go_sem,kf]
  ·have hys':=eQ.out;rw[List.map_append,List.append_assoc] at hys';rw[List.map_map,qem (pre:=pre'.map (·.1)) (rest:=rest) (x:=x.1) aN.out hys'.symm (fun y hy=>?_) hlt.out]
   ·rfl
   ·obtain⟨z,hz,rfl⟩:=List.mem_map.1 hy;exact hI.out.le z hz
end Go.Proofs.YtmeadnlmepcmbaaGreat
namespace Go.Proofs.YtmeadnlmepcmbaaGreat
open Go.RowKit
def Vo (S:Sto) (root:Int) (K K2:K3):List It:=match qt S root.toNat with
 |none=>[]
 |some (lvl,xs)=>vV S lvl.toNat K K2 xs
theorem vS.mono {base base' lo lo':Nat} {w:World} {v:Value} {ps:List (It×Value)} (h:vS base lo w v ps) (hb:base'<=base) (hl:lo'<=lo):vS base' lo' w v ps:=
 ⟨QJ h.1 hb,fun p hp=>⟨⟨(h.2 p hp).1.1,(h.2 p hp).1.2.mono hl⟩,(h.2 p hp).2⟩⟩
def RangeQ (lo:Nat) (zs:List It) (u:Value) (W:World):Prop:=∃ (ps:List (It×Value)) (v:Value),u=.tuple #[v,.int .i64 0]/\ps.map (·.1)=zs/\vS lo lo W v ps/\∀ p∈ps,Nz W p.2
def VRangeQ (S:Sto) (root next:Int) (dead:List Int) (id:Int) (K K2:K3) (w:World) (e:Ending) (w':World):Prop:=Below w.heap.size w w' /\
 ((e=.returned (.tuple #[.slice none 0 0,.int .i64 8])/\QK S root next dead) \/
  ∃ vs u,Jr S root next dead vs/\e=.returned u/\match Qs vs id with
   |none=>u=.tuple #[.slice none 0 0,.int .i64 6]
   |some v=>RangeQ w.heap.size (Vo S v.root K K2) u w')
theorem Ud {R:Ending->World->Prop} {a:Act} {W:World} {u v:Value} (h8:a.tmps[8]?.getD undef=u) (h9:a.tmps[9]?.getD undef=v) (hd:a.defers=[]) (hR:R (.returned (.tuple #[u,v])) W):bodyPost prog Tryz.f85 R .ret a W:=by refine bodyPost_ret (v:=.tuple #[u,v]) ?_ hd hR;simp[results,results85,go_sem,h8,h9]
set_option maxRecDepth 100000 in
theorem qiS (A1 n1 c1 A2 n2 c2 A3 n3 c3 A4 n4 c4) (gen root next:Int) (A5 c5) (S:Sto) (dead:List Int) (id k i o k2 i2 o2:Int) (w:World) (h:qV w w.heap.size (.slice A1 n1 c1) (.slice A2 n2 c2) (.slice A3 n3 c3) (.slice A4 n4 c4) S) (hd:Zv w w.heap.size (.slice A5 dead.length c5) dead):Calls prog 85 #[.agg (qF (.slice A1 n1 c1) (.slice A2 n2 c2) (.slice A3 n3 c3) (.slice A4 n4 c4) gen root next (.slice A5 dead.length c5)),.int .u32 id,TP k i o,TP k2 i2 o2] w (VRangeQ S root next dead id (k,i,o) (k2,i2,o2) w):=by
 have HT:=zH (fun W (hx:Ext w W)=>VT A1 n1 c1 A2 n2 c2 A3 n3 c3 A4 n4 c4 gen root next A5 c5 S dead id W (h.ext hx) (by obtain⟨A,c,e,q1,q2,q3⟩:=hd;exact⟨A,c,e,q1,q2,(q3.below hx).more hx.size⟩));have HF:=zH (fun W (hx:Ext w W) (hS:ql S=true) a lvl xs ha ak hn aN=>qkN A1 n1 c1 A2 n2 c2 A3 n3 c3 A4 n4 c4 S hS a lvl xs ha ak hn aN k i o k2 i2 o2 W (h.ext hx));clear h hd;go_enter func85,ntmps85;go_wp2_with fail;generalize aA:(World.alloc (World.alloc (World.alloc w _) _) _)=w1;have x1:Ext w w1:=aA▸((zN _ _).trans (zN _ _)).trans (zN _ _)
 have rp1:w1.heap[w.heap.size]?=some (.cells (qF (.slice A1 n1 c1) (.slice A2 n2 c2) (.slice A3 n3 c3) (.slice A4 n4 c4) gen root next (.slice A5 dead.length c5)) 32 (0,0)):=aA▸(zK _ _ _ zA1).trans ((zK _ _ _ zA2).trans (zI _ _ _ rfl))
 have rk1:w1.heap[w.heap.size+1]?=some (.cells #[.int .u8 k,.int .u32 i,.int .u32 o] 49 (0,0)):=aA▸(zK _ _ _ zA2).trans (zI _ _ _ zA2)
 have rt1:w1.heap[w.heap.size+2]?=some (.cells #[.int .u8 k2,.int .u32 i2,.int .u32 o2] 49 (0,0)):=aA▸zI _ _ _ zA2
 clear aA;refine(HT.out w1 x1).mono ?_;clear HT;rintro e w2 ⟨hB,hQ⟩;have x2:Ext w w2:=Ext.trans x1 hB;have rp2:=qb rp1 hB;have rk2:=qb rk1 hB;have rt2:=qb rt1 hB;have z2:w.heap.size+2<w2.heap.size:=(zG.1 rt2).1;have z20:w.heap.size<w2.heap.size:=zO;have z21:w.heap.size+1<w2.heap.size:=zO;clear hB x1 rp1 rk1 rt1;rcases hQ with ⟨rfl,aX⟩|⟨vs,refs,nodes,hp,fJ,uU,rfl⟩
 ·replace aX:=zH aX;replace x2:=zH x2;go_wp2_with fail;exact Ud rfl rfl rfl ⟨x2.out.trans (zN _ _),.inl ⟨rfl,aX.out⟩⟩
 ·have hok:=zH (⟨refs,nodes,hp,fJ,uU⟩:Jr S root next dead vs);replace hp:=zH hp;clear fJ uU;rcases hv:Qs vs id with _|v
  ·unfold volQ;replace hv:=zH hv;replace x2:=zH x2;go_wp2_with fail;exact Ud rfl rfl rfl ⟨x2.out.trans (zN _ _),.inr ⟨vs,_,hok.out,rfl,by rw[hv.out];rfl⟩⟩
  ·unfold volQ;obtain⟨a,ha,ht⟩:=qdS hp.out (jI hv);obtain⟨h8,h256,lvl,xs,hn,aN⟩:=ht;have yF:Vo S v.root (k,i,o) (k2,i2,o2)=vV S lvl (k,i,o) (k2,i2,o2) xs:=by unfold Vo;rw[ha,Int.toNat_natCast,hn];simp
   have HFF:=zH (fun W hx=>HF.out W hx hp.out.may a lvl xs h8 h256 hn aN);have kp2:=qa rp2;have kk2:=qa rk2;have kt2:=qa rt2;replace hv:=zH hv;replace yF:=zH yF;replace ha:=zH ha;clear hn aN HF;go_wp2_with fail;generalize aO:(World.alloc w2 _)=w3;have x23:Ext w2 w3:=aO▸zN _ _
   clear aO;have dK:=HFF.out w3 (x2.trans x23);rw[<-ha.out] at dK;refine dK.mono ?_;clear dK HFF;rintro e w4 ⟨u,rfl,⟨ps,q,rfl,ax,hR,hz⟩,hB⟩;have x4:Ext w w4:=(x2.trans x23).trans hB;have hQ:RangeQ w.heap.size (Vo S v.root (k,i,o) (k2,i2,o2)) (.tuple #[q,.int .i64 0]) w4:=⟨ps,q,rfl,by rw[yF.out];exact ax,hR.mono (x2.trans x23).size (x2.trans x23).size,hz⟩
   replace hQ:=zH hQ;replace x4:=zH x4;clear kp2 kk2 kt2 rp2 rk2 rt2 hB x23 x2 z2 z20 z21 hR hz ax;go_wp2_with fail;exact Ud rfl rfl rfl ⟨x4.out,.inr ⟨vs,_,hok.out,rfl,by rw[hv.out];exact hQ.out⟩⟩
theorem qiz {S T X:Sto} (m:SM S X) (m':SM T X) {a:Int} (h:okL S (-1) a=true) (h':okL T (-1) a=true) (K K2:K3):Vo T a K K2=Vo S a K K2:=by obtain⟨n,rfl,-,-,lvl,xs,hn,hs⟩:=ZR h;obtain⟨n',e,-,-,lvl',xs',hn',wP⟩:=ZR h';obtain rfl:n=n':=zO;obtain⟨rfl,rfl,hi⟩:=qia m m' hn hs hn' wP;unfold Vo;rw[Int.toNat_natCast,hn,hn'];simp only[Int.toNat_natCast];unfold vV;rw[hi]
theorem qeR {S:Sto} {root next:Int} {dead:List Int} {vs:List Vol} (h:Qb S root next dead vs) {v:Vol} (hv:v∈vs):okL S (-1) v.root=true:=h.ok v.root (by unfold Za;exact List.mem_append_right _ (List.mem_map.2 ⟨v,hv,rfl⟩))
theorem qli {S T:Sto} {root next next':Int} {dead dead':List Int} {vs vs':List Vol} (m:SM S T) (h:Qb S root next dead vs) (h':Qb T root next' dead' vs'):vs'=vs:=by obtain⟨a,rfl,-,-,lvl,xs,hn,hs⟩:=ZR h.top;have h1:=h.vols;have h2:=h'.vols;unfold Vr at h1 h2;rw[Int.toNat_natCast] at h1 h2;rw[hn] at h1;rw[m.node _ _ hn] at h2;simp only[Int.toNat_natCast] at h1 h2;rw[m.items _ _ hs] at h2;rw[(XZ h1).2,(XZ h2).2]
theorem qij {S:Sto} {a er:Int} (hl:Zn S a=.error er):er≠0:=by
 unfold Zn at hl;split at hl
 ·unfold vF at hl;split at hl
  ·cases hl;decide
  ·cases hl
 ·rename_i hh;cases hl;exact hh
def Vw (v:Vol) (fz:Bool):Vol:=⟨v.id,v.root,fz,v.frm⟩
def Tt (S:Sto) (root next:Int) (dead:List Int) (id:Int) (fz:Bool) (er:Int):Prop:=(er=8/\QK S root next dead)\/∃ vs refs nodes,Qb S root next dead vs/\qR S (Qk root dead vs) refs nodes/\Qw S refs /\
 ((er=6/\Qs vs id=none)\/∃ v,Qs vs id=some v/\(Qp S v.root=er\/(Qp S v.root=0/\(Kk (Qj S v.root) root next dead (Vw v fz) er\/∃ r S' vs',vT (Qj S v.root) root next dead (Vw v fz) r S' vs'/\(Zn S' v.root=.error er\/∃ S4,Zn S' v.root=.ok S4/\er=9/\zh S4≠0)))))
def FrzOk (S:Sto) (root next:Int) (dead:List Int) (id:Int) (fz:Bool) (r:Nat) (S4:Sto):Prop:=∃ vs refs nodes v S' vs',Qb S root next dead vs/\qR S (Qk root dead vs) refs nodes/\Qw S refs /\
 Qs vs id=some v/\Qp S v.root=0/\vT (Qj S v.root) root next dead (Vw v fz) r S' vs'/\Zn S' v.root=.ok S4/\zh S4=0
def FrzQ (S:Sto) (gen root next:Int) (dead:List Int) (id:Int) (fz:Bool) (w:World) (e:Ending) (w':World):Prop:=Below w.heap.size w w' /\
 ((∃ er,er≠0/\e=.returned (.tuple #[jb,.int .i64 er])/\Tt S root next dead id fz er) \/
  ∃ r S4 u,FrzOk S root next dead id fz r S4/\e=.returned (.tuple #[u,.int .i64 0])/\jV w.heap.size S4 gen (r:Int) next dead u w')
theorem XI {R:Ending->World->Prop} {a:Act} {W:World} {b:Nat} {x0 x1 x2 x3 x4 x5 x6 x7 v:Value} (h4:a.tmps[6]?.getD undef=.pointer (some ⟨b,0,none⟩)) (h5:a.tmps[7]?.getD undef=v) (hd:a.defers=[]) (aF:W.heap[b]?=some (.cells #[x0,x1,x2,x3,x4,x5,x6,x7] 32 (0,0))) (hR:R (.returned (.tuple #[.agg #[x0,x1,x2,x3,x4,x5,x6,x7],v])) W):bodyPost prog Tryz.f26 R .ret a W:=by
 refine bodyPost_ret (v:=.tuple #[.agg #[x0,x1,x2,x3,x4,x5,x6,x7],v]) ?_ hd hR;have k:=qa aF;simp[results,results26,go_sem,h4,h5,k]
set_option maxRecDepth 100000 in
theorem qaD (A1 n1 c1 A2 n2 c2 A3 n3 c3 A4 n4 c4) (gen root next:Int) (A5 c5) (S:Sto) (dead:List Int) (id:Int) (fz:Bool) (w:World) (h:qV w w.heap.size (.slice A1 n1 c1) (.slice A2 n2 c2) (.slice A3 n3 c3) (.slice A4 n4 c4) S) (hd:Zv w w.heap.size (.slice A5 dead.length c5) dead):Calls prog 26 #[.agg (qF (.slice A1 n1 c1) (.slice A2 n2 c2) (.slice A3 n3 c3) (.slice A4 n4 c4) gen root next (.slice A5 dead.length c5)),.int .u32 id,.bool fz] w (FrzQ S gen root next dead id fz w):=by
 replace h:=zH h;replace hd:=zH hd;go_enter func26,ntmps26;go_wp2_with fail;generalize aA:World.alloc (World.alloc (World.alloc w _) _) _=w1;have x1:Ext w w1:=aA▸((zN _ _).trans (zN _ _)).trans (zN _ _)
 have rp1:w1.heap[w.heap.size]?=some (.cells (qF (.slice A1 n1 c1) (.slice A2 n2 c2) (.slice A3 n3 c3) (.slice A4 n4 c4) gen root next (.slice A5 dead.length c5)) 32 (0,0)):=aA▸(zK _ _ _ zA3).trans ((zK _ _ _ zA3).trans (zI _ _ _ rfl))
 have ro1:w1.heap[w.heap.size+1]?=some (.cells kK 32 (0,0)):=aA▸(zK _ _ _ zA3).trans (zI _ _ _ zA2)
 have rg1:w1.heap[w.heap.size+1+1]?=some (.cells (jA (.slice A1 n1 c1) (.slice A2 n2 c2) (.slice A3 n3 c3) (.slice A4 n4 c4) gen root next (.slice A5 dead.length c5) 0) 123 (0,0)):=aA▸zI _ _ _ zA2
 have s1:w1.heap.size=w.heap.size+3:=by rw[<-aA];simp
 clear aA;refine(qdr (w.heap.size+1+1) A1 n1 c1 A2 n2 c2 A3 n3 c3 A4 n4 c4 gen root next A5 c5 S dead id 0 w1 rg1 (h.out.ext x1) (hd.out.ext_ x1)).mono ?_;rintro e w2 ⟨u,er,rfl,hu,ht2,rg2⟩;have x2:Ext w w2:=ht2.below x1 zO zO;have rp2:=ht2.row rp1 zO;have ro2:=ht2.row ro1 zO;have s2:=ht2.size;clear rp1 ro1 rg1 ht2;obtain⟨ui,ur,uf,um⟩:=u;unfold jz;clear rp2;by_cases h0:er=0
 case neg =>
  have hE:Hid (Tt S root next dead id fz er):=zH (by
   rcases hu with ⟨e1,_,hb⟩|⟨vs,refs,nodes,hp,hc,he,⟨e1,_,hv⟩|⟨e1,_⟩⟩
   ·exact .inl ⟨e1,hb⟩
   ·exact .inr ⟨vs,refs,nodes,hp,hc,he,.inl ⟨e1,hv⟩⟩
   ·exact absurd e1 h0)
  have b1:(er == 0)=false:=by rw[beq_eq_false_iff_ne];exact h0
  have dP:=zH h0;clear hu h0;go_wp2_with fail;generalize aO:World.alloc w2 _=w3;have x23:Ext w2 w3:=aO▸zN _ _
  have x3:Ext w w3:=x2.trans x23;have rv3:w3.heap[w2.heap.size]?=some (.cells #[.int .u32 ui,.int .i64 ur,.bool uf,.int .u32 um] 36 (0,0)):=aO▸zI _ _ _ zA2
  have ro3:=qb ro2 x23;have rg3:=qb rg2 x23;clear aO ro2 rg2 x23;refine(qfY dP.out ⟨ui,ur,uf,um⟩ w3 rg3).mono ?_;rintro e w5 ⟨rfl,hB⟩;have x5:Ext w w5:=x3.trans hB;have rv5:=qb rv3 hB;have ro5:=qb ro3 hB;have rg5:=qb rg3 hB;have kv5:=qa rv5;have fv5:=qe rv5;clear hB rv3 ro3 rg3;go_wp2_with fail;generalize dS:World.setCell w5 _ _=w6;have x6:Ext w w6:=by rw[<-dS];exact Below.setCell x5 (p:=⟨w2.heap.size,2,none⟩) zA1 _
  have o6:∀ k,k≠w2.heap.size->w6.heap[k]?=w5.heap[k]?:=fun k hk=>by rw[<-dS];exact zJ _ _ _ _ hk
  have rg6:=(o6 _ zO).trans rg5;have ro6:=(o6 _ zO).trans ro5;clear dS kv5 fv5 rg5 ro5 rv5 o6;refine(qaZ dP.out ⟨ui,ur,fz,um⟩ w6 rg6).mono ?_;rintro e w7 ⟨rfl,hB⟩;have x7:Ext w w7:=x6.trans hB;have ro7:=qb ro6 hB;have rg7:=qb rg6 hB;have kg7:=qa rg7;clear hB ro6 rg6;go_wp2_with fail;refine(vk (w.heap.size+1+1) ⟨A1,n1,c1,A2,n2,c2,A3,n3,c3,A4,n4,c4,gen,root,next,A5,dead.length,c5⟩ er S w7 rg7 (fun h=>absurd h dP.out)).mono ?_;rintro e we ⟨rfl,dD⟩;have xe:Ext w we:=x7.trans dD;have roe:=qb ro7 dD;have koe:=qa roe;have foe:=qe roe;rw[(show JY ⟨A1,n1,c1,A2,n2,c2,A3,n3,c3,A4,n4,c4,gen,root,next,A5,dead.length,c5⟩ er S=.tuple #[jb,.int .i64 er] by unfold JY;rw[if_pos dP.out])];clear dD;go_wp2_with fail;exact XI (b:=w.heap.size+1) rfl rfl rfl (ji roe _ _ _ _ _ _ _ _) ⟨QR xe zO _ _ _ _ _ _ _ _,.inl ⟨er,dP.out,rfl,hE.out⟩⟩
 case pos =>
  subst h0;obtain⟨vs,refs,nodes,hp,hc,he,hv⟩:∃ vs refs nodes,Qb S root next dead vs/\qR S (Qk root dead vs) refs nodes/\Qw S refs/\Qs vs id=some ⟨ui,ur,uf,um⟩:=by
   rcases hu with ⟨h,_⟩|⟨vs,refs,nodes,hp,hc,he,⟨h,_⟩|⟨_,hv⟩⟩
   ·cases h
   ·cases h
   ·exact⟨vs,refs,nodes,hp,hc,he,hv⟩
  clear hu;have hE:Hid (∀ er,(Qp S ur=er\/(Qp S ur=0/\(Kk (Qj S ur) root next dead ⟨ui,ur,fz,um⟩ er\/∃ r S' vs',vT (Qj S ur) root next dead ⟨ui,ur,fz,um⟩ r S' vs'/\(Zn S' ur=.error er\/∃ S4,Zn S' ur=.ok S4/\er=9/\zh S4≠0))))->Tt S root next dead id fz er):=zH fun er hh=>.inr ⟨vs,refs,nodes,hp,hc,he,.inr ⟨_,hv,hh⟩⟩;have hvk:Hid (JZ ⟨ui,ur,fz,um⟩):=zH (by have:=Gd hp _ (jI hv);exact⟨this.1,this.2.1,this.2.2⟩);have iK:Hid (okL S (-1) ur=true):=zH (hp.ok ur (by unfold Za;exact List.mem_append_right _ (List.mem_map.2 ⟨_,jI hv,rfl⟩)));replace hp:=zH hp;replace hc:=zH hc;replace he:=zH he;replace hv:=zH hv;go_wp2_with fail;generalize hw4:World.alloc w2 _=w4;have x24:Ext w2 w4:=hw4▸zN _ _
  have x4:Ext w w4:=x2.trans x24;have rv4:w4.heap[w2.heap.size]?=some (.cells #[.int .u32 ui,.int .i64 ur,.bool uf,.int .u32 um] 36 (0,0)):=hw4▸zI _ _ _ zA2
  have ro4:=qb ro2 x24;have rg4:=qb rg2 x24;have s4:w2.heap.size<w4.heap.size:=(zG.1 rv4).1;clear hw4 ro2 rg2 x24;refine(qds (w.heap.size+1+1) A1 n1 c1 A2 n2 c2 A3 n3 c3 A4 n4 c4 gen root next (.slice A5 dead.length c5) S ⟨ui,ur,uf,um⟩ w4 rg4 (h.out.ext x4)).mono ?_;rintro e w5 ⟨rfl,ht5,hQ⟩;have x5:Ext w w5:=ht5.below x4 zO x4.size;have rv5:=ht5.row rv4 zO;have ro5:=ht5.row ro4 zO;have kv5:=qa rv5;have fv5:=qe rv5;have zv5:=(zG.1 rv5).1;clear ht5 rv4 ro4 rg4;by_cases h0:Qp S ur=0
  case neg =>
   have hq:KF S ur=.error (Qp S ur):=by unfold KF;rw[if_neg h0]
   simp only[hq] at hQ;have gG:Hid (Tt S root next dead id fz (Qp S ur)):=zH (hE.out _ (.inl rfl));generalize Qp S ur=er at *;have b1:(er == 0)=false:=by rw[beq_eq_false_iff_ne];exact h0
   have dP:=zH h0;clear h0 hq;go_wp2_with fail;generalize dS:World.setCell w5 _ _=w6;have x6:Ext w w6:=by rw[<-dS];exact Below.setCell x5 (p:=⟨w2.heap.size,2,none⟩) zA1 _
   have o6:∀ k,k≠w2.heap.size->w6.heap[k]?=w5.heap[k]?:=fun k hk=>by rw[<-dS];exact zJ _ _ _ _ hk
   have rg6:=(o6 _ zO).trans hQ;have ro6:=(o6 _ zO).trans ro5;clear dS kv5 fv5 hQ ro5 rv5 o6;refine(qaZ dP.out ⟨ui,ur,fz,um⟩ w6 rg6).mono ?_;rintro e w7 ⟨rfl,hB⟩;have x7:Ext w w7:=x6.trans hB;have ro7:=qb ro6 hB;have rg7:=qb rg6 hB;have kg7:=qa rg7;clear hB ro6 rg6;go_wp2_with fail;refine(vk (w.heap.size+1+1) ⟨none,0,0,none,0,0,none,0,0,none,0,0,gen,root,next,A5,dead.length,c5⟩ er S w7 rg7 (fun h=>absurd h dP.out)).mono ?_;rintro e we ⟨rfl,dD⟩;have xe:Ext w we:=x7.trans dD;have roe:=qb ro7 dD;have koe:=qa roe;have foe:=qe roe;rw[(show JY ⟨none,0,0,none,0,0,none,0,0,none,0,0,gen,root,next,A5,dead.length,c5⟩ er S=.tuple #[jb,.int .i64 er] by unfold JY;rw[if_pos dP.out])];clear dD;go_wp2_with fail;exact XI (b:=w.heap.size+1) rfl rfl rfl (ji roe _ _ _ _ _ _ _ _) ⟨QR xe zO _ _ _ _ _ _ _ _,.inl ⟨er,dP.out,rfl,gG.out⟩⟩
  case pos =>
   have hq:KF S ur=.ok (Qj S ur):=by unfold KF;rw[if_pos h0]
   simp only[hq] at hQ;obtain⟨y0,y1,y2,y3,rg5,uP⟩:=hQ;obtain⟨hSm,xm,lu⟩:=Uo h0;obtain⟨BB,WW,gg,B3,d3',B4,d4',e9,-⟩:=_root_.id uP;simp only[Value.agg.injEq,Array.mk.injEq,List.cons.injEq,and_true] at e9;obtain⟨rfl,rfl,rfl,rfl⟩:=e9;have mX:=zH (JT (uP.newSto (QV lu)));have cO:=zH (xm.okL iK.out);have dP:=zH h0;clear h0 hq uP hSm xm lu;go_wp2_with fail;generalize dS:World.setCell w5 _ _=w6;have x6:Ext w w6:=by rw[<-dS];exact Below.setCell x5 (p:=⟨w2.heap.size,2,none⟩) zA1 _
   have z6:w6.heap.size=w5.heap.size:=by rw[<-dS];simp
   have o6:∀ k,k≠w2.heap.size->w6.heap[k]?=w5.heap[k]?:=fun k hk=>by rw[<-dS];exact zJ _ _ _ _ hk
   have rv6:=qi rv5 2 (.bool fz);rw[dS] at rv6;have rg6:=(o6 _ zO).trans rg5;have ro6:=(o6 _ zO).trans ro5;have tK:=(mX.out w6 (Jh fun k h1 h2=>o6 k zO)).more (show w5.heap.size<=w6.heap.size by omega);refine(qgb (w.heap.size+1+1) (some ⟨BB,0,none⟩) (Qj S ur).bs.length (Qj S ur).bs.length (some ⟨WW,0,none⟩) (Qj S ur).ws.length ((Qj S ur).ws.length+1) B3 (Qj S ur).now.length d3' B4 (Qj S ur).last.length d4' gen root next A5 c5 (Qj S ur) dead ⟨ui,ur,fz,um⟩ hvk.out (fun _ _ _=>cO.out) w6 rg6 tK (hd.out.ext_ x6)).mono ?_;rintro e w7 ⟨rfl,ht7,p,er,rg7,hR⟩;have x7:Ext w w7:=ht7.below x6 zO x6.size;have ro7:=ht7.row ro6 zO;have rv7:=ht7.row rv6 zO;have s7:=ht7.size;clear dS kv5 fv5 rg5 ro5 rv5 o6 mX ht7 ro6 rg6 rv6 tK cO;rcases hR with ⟨aG,rfl,hSE⟩|⟨rfl,r,S9,vs9,hO,hN⟩
   ·have gG:Hid (Tt S root next dead id fz er):=zH (hE.out er (.inr ⟨dP.out,.inl hSE⟩));have b1:(er == 0)=false:=by rw[beq_eq_false_iff_ne];exact aG
    have kg7:=qa rg7;simp only[PV.zero] at kg7;have iU:=zH aG;clear hSE aG;go_wp2_with fail;refine(vk (w.heap.size+1+1) PV.zero er S w7 rg7 (fun h=>absurd h iU.out)).mono ?_;rintro e we ⟨rfl,dD⟩;have xe:Ext w we:=x7.trans dD;have roe:=qb ro7 dD;have koe:=qa roe;have foe:=qe roe;rw[(show JY PV.zero er S=.tuple #[jb,.int .i64 er] by unfold JY;rw[if_pos iU.out])];clear dD;go_wp2_with fail;exact XI (b:=w.heap.size+1) rfl rfl rfl (ji roe _ _ _ _ _ _ _ _) ⟨QR xe zO _ _ _ _ _ _ _ _,.inl ⟨er,iU.out,rfl,gG.out⟩⟩
   ·obtain⟨E1,m1,e1,E2,m2,e2,E3,m3,e3,E4,m4,e4,g9,t9,n9,E5,m5,e5⟩:=p;obtain⟨F1,f1,F2,f2,F3,f3,F4,f4,F5,f5,ee,aH,hin⟩:=hN.sto;simp only[PV.cs,qF,Value.agg.injEq,Array.mk.injEq,List.cons.injEq,Value.slice.injEq,Value.int.injEq,true_and,and_true] at ee;obtain⟨⟨rfl,rfl,rfl⟩,⟨rfl,rfl,rfl⟩,⟨rfl,rfl,rfl⟩,⟨rfl,rfl,rfl⟩,rfl,rfl,rfl,rfl,rfl,rfl⟩:=ee;have HL:=zH (fun W (hx:Ext w7 W)=>qbu _ _ _ _ _ _ _ _ _ _ _ _ S9 ur W (aH.ext hx));simp only[PV.gcs] at rg7;replace hO:=zH hO;replace hN:=zH hN;clear aH hin;have kg7:=qa rg7;go_upto_region 7 with fail;have gR:∀ W,qj.r w7 W->_:=fun W h=>qa (qb rg7 h);have gV:∀ W,qj.r w7 W->_:=fun W h=>qa (qb rv7 h);rcases hl:Zn S9 ur with el|S4
    ·have aG:Hid (el≠0):=zH (qij hl);have gG:Hid (Tt S root _ dead id fz el):=zH (hE.out el (.inr ⟨dP.out,.inr ⟨_,S9,vs9,hO.out,.inl hl⟩⟩));refine qp zQ ?_;refine vc 16 12 zE zQ rfl rfl zQ zQ zQ zQ ?_;dsimp only[jp,Array.push,List.push_toArray,List.concat_eq_append];refine zo 1 19 (.pointer (some ⟨w.heap.size+1+1,0,none⟩)) zQ zA5 zQ zQ zQ zA0 (fun W=>?_) ?_
     ·go_simp
     simp only[Act.put,qf,qc,qg,qZ,Zs,Zt,zA,zB,zC];refine qQ (w:=w7) qj (qH [(9,GF el)]) ([true,false]++List.replicate 14 true) 4 zQ zQ zQ zQ zQ zQ zQ ?st (Rel.drew _ _) ?walk
     case st=>exact qk (by simp only[List.forall_mem_cons];exact⟨Tk el,fun _ h=>by cases h⟩)
     case walk =>
      intro K hK;dsimp only[qu,List.replicate,List.cons_append,List.nil_append];refine zD1 ?_;refine qy (GF el) zA0 zA0 (fun W hW _=>?_) (fun (p:Unit)=>?_)
      ·have hW:Ext w7 W:=hW;refine Qi ?_ ((HL.out W hW).mono fun e w' hh=>?_)
       ·go_simp
       obtain⟨u,rfl,hu,hB⟩:=hh;rw[hl] at hu;obtain rfl:=hu;exact⟨(),rfl,trivial,hB⟩
      refine zD1 ?_;refine qv (hK _ _ fun W hW hF=>?_);clear hF hK gR gV HL;have hW:Ext w7 W:=hW;refine zC3 ?_;have rW:=qb rg7 hW;have kW:=qa rW;have fW:=qe rW;have xW:Ext w W:=x7.trans hW;have roW:=qb ro7 hW;clear hW;go_wp2;refine Qr ?_;go_wp2_with fail;generalize xy:World.setCell (World.setCell (World.setCell (World.setCell (World.setCell W _ _) _ _) _ _) _ _) _ _=w8;obtain⟨rg8,t8,s8⟩:=gst5 rW xy;have x8:Ext w w8:=t8.below xW zO xW.size;have ro8:=t8.row roW zO;clear xy kW fW rW roW xW;refine(vk (w.heap.size+1+1) ⟨none,0,0,none,0,0,none,0,0,none,0,0,_,_,_,_,_,_⟩ el S w8 rg8 (fun h=>absurd h aG.out)).mono ?_;rw[show JY _ el S=.tuple #[jb,.int .i64 el] by unfold JY;rw[if_pos aG.out]];rintro e we ⟨rfl,dD⟩;have xe:Ext w we:=x8.trans dD;have roe:=qb ro8 dD;have koe:=qa roe;have foe:=qe roe;clear dD;go_wp2_with fail;exact XI (b:=w.heap.size+1) rfl rfl rfl (ji roe _ _ _ _ _ _ _ _) ⟨QR xe zO _ _ _ _ _ _ _ _,.inl ⟨el,aG.out,rfl,gG.out⟩⟩
    ·have wI:ql S4=true:=by obtain⟨_,_,_,_,_,_,_,_,refs9,nodes9,hp9,_⟩:=hO.out;exact qbH hp9.may hl
     refine qp zQ ?_;refine vc 16 12 zE zQ rfl rfl zQ zQ zQ zQ ?_;dsimp only[jp,Array.push,List.push_toArray,List.concat_eq_append];refine zo 1 19 (.pointer (some ⟨w.heap.size+1+1,0,none⟩)) zQ zA5 zQ zQ zQ zA0 (fun W=>?_) ?_
     ·go_simp
     simp only[Act.put,qf,qc,qg,qZ,Zs,Zt,zA,zB,zC];refine qQ (w:=w7) qj (qH [(9,GI w7.heap.size S4)]) ([true,false]++List.replicate 14 true) 4 zQ zQ zQ zQ zQ zQ zQ ?st (Rel.drew _ _) ?walk
     case st=>exact qk (by simp only[List.forall_mem_cons];exact⟨Tm _ _,fun _ h=>by cases h⟩)
     case walk =>
      intro K hK;dsimp only[qu,List.replicate,List.cons_append,List.nil_append];refine zD1 ?_;refine qy (GI w7.heap.size S4) zA0 zA0 (fun W hW _=>?_) (fun p=>?_)
      ·have hW:Ext w7 W:=hW;refine Qi ?_ ((HL.out W hW).mono fun e w' hh=>?_)
       ·go_simp
       obtain⟨u,rfl,hu,hB⟩:=hh;rw[hl] at hu;obtain⟨vv,rfl,hT⟩:=hu;obtain⟨BB,WW,gg,A3',c3',A4',c4',rfl,-⟩:=_root_.id hT;exact⟨((BB,WW),(A3',c3'),(A4',c4')),rfl,QM.keep hT hW.size (zM _) (fun _ _ _=>rfl),hB⟩
      obtain⟨⟨BB,WW⟩,⟨A3',c3'⟩,⟨A4',c4'⟩⟩:=p;refine zD1 ?_;refine qv (hK _ _ fun W hW hF=>?_);have hT:QM w7.heap.size S4 (Qe (some ⟨BB,0,none⟩) S4.bs.length S4.bs.length (some ⟨WW,0,none⟩) S4.ws.length (S4.ws.length+1) A3' S4.now.length c3' A4' S4.last.length c4') W:=(hF 9).1;replace hT:=zH hT;clear hF hK gR gV HL;have hW:Ext w7 W:=hW;refine zC3 ?_;have rW:=qb rg7 hW;have kW:=qa rW;have fW:=qe rW;have xW:Ext w W:=x7.trans hW;have sW:=hW.size;have roW:=qb ro7 hW;have hWH:=zH hW;clear hW;go_wp2;refine Qr ?_;go_wp2_with fail;generalize xy:World.setCell (World.setCell (World.setCell (World.setCell (World.setCell W _ _) _ _) _ _) _ _) _ _=w8;obtain⟨rg8,t8,s8⟩:=gst5 rW xy;have x8:Ext w w8:=t8.below xW zO xW.size;have ro8:=t8.row roW zO;clear xy kW fW rW roW xW;obtain⟨F1,f1,F2,f2,F3,f3,F4,f4,F5,f5,ee,ah⟩:=hN.out;simp only[PV.cs,qF,Value.agg.injEq,Array.mk.injEq,List.cons.injEq,Value.slice.injEq,true_and,and_true] at ee;obtain⟨⟨rfl,rfl⟩,⟨rfl,rfl⟩,⟨rfl,rfl⟩,⟨rfl,rfl⟩,rfl,rfl⟩:=ee;have hEH:=JT (hT.out.newSto (QV wI));have x6s:=x6.size;have hk8:∀ k,w7.heap.size<=k->k<W.heap.size->w8.heap[k]?=W.heap[k]?:=fun k h1 h2=>t8.same k h2 zO zO;have hk6:∀ k,w6.heap.size<=k->k<w7.heap.size->w8.heap[k]?=w7.heap[k]?:=fun k h1 h2=>(t8.same k zO zO zO).trans (Below.block hWH.out k h2);have yC:jV w6.heap.size S4 g9 (r:Int) n9 dead (.agg (qF (.slice (some ⟨BB,0,none⟩) S4.bs.length S4.bs.length) (.slice (some ⟨WW,0,none⟩) S4.ws.length (S4.ws.length+1)) (.slice A3' S4.now.length c3') (.slice A4' S4.last.length c4') g9 (r:Int) n9 (.slice E5 dead.length e5))) w8:=
       ⟨_,_,_,_,_,_,_,_,_,_,rfl,fun C hC=>⟨(hEH C fun q v h1 h2 h3=>hC q v zO zO ((ZX (hk8 q.block h1 h2)).trans h3)).more zO,((ah C fun q v h1 h2 h3=>hC q v zO zO ((ZX (hk6 q.block h1 h2)).trans h3)).2.more zO)⟩⟩
      have hst8:qV w8 w8.heap.size (.slice (some ⟨BB,0,none⟩) S4.bs.length S4.bs.length) (.slice (some ⟨WW,0,none⟩) S4.ws.length (S4.ws.length+1)) (.slice A3' S4.now.length c3') (.slice A4' S4.last.length c4') S4:=by obtain⟨G1,k1,G2,k2,G3,k3,G4,k4,G5,k5,ee,aH,hin⟩:=yC.sto;simp only[qF,Value.agg.injEq,Array.mk.injEq,List.cons.injEq,Value.slice.injEq,true_and,and_true] at ee;obtain⟨⟨rfl,rfl⟩,⟨rfl,rfl⟩,⟨rfl,rfl⟩,⟨rfl,rfl⟩,rfl,rfl⟩:=ee;exact aH
      refine(vk (w.heap.size+1+1) ⟨some ⟨BB,0,none⟩,S4.bs.length,S4.bs.length,some ⟨WW,0,none⟩,S4.ws.length,S4.ws.length+1,A3',S4.now.length,c3',A4',S4.last.length,c4',g9,r,n9,E5,dead.length,e5⟩ 0 S4 w8 rg8 (fun _=>hst8)).mono ?_;have uZ:=zH hl;replace yC:=zH yC;clear hst8 hEH hk8 hk6 ah hl;by_cases hrm:zh S4=0
      case neg =>have gG:Hid (Tt S root n9 dead id fz 9):=zH (hE.out 9 (.inr ⟨dP.out,.inr ⟨_,S9,vs9,hO.out,.inr ⟨S4,uZ.out,rfl,hrm⟩⟩⟩));rw[show JY _ 0 S4=.tuple #[jb,.int .i64 9] by unfold JY;rw[if_neg zA2,if_neg hrm]];replace hrm:=zH hrm;rintro e we ⟨rfl,dD⟩;have xe:Ext w we:=x8.trans dD;have roe:=qb ro8 dD;have koe:=qa roe;have foe:=qe roe;clear dD;go_wp2_with fail;exact XI (b:=w.heap.size+1) rfl rfl rfl (ji roe _ _ _ _ _ _ _ _) ⟨QR xe zO _ _ _ _ _ _ _ _,.inl ⟨9,zD,rfl,gG.out⟩⟩
      case pos =>rw[show JY _ 0 S4=.tuple #[.agg (PV.cs _),.int .i64 0] by unfold JY;rw[if_neg zA2,if_pos hrm]];have hIW:=zH hrm;clear hrm;rintro e we ⟨rfl,dD⟩;have xe:Ext w we:=x8.trans dD;have x8e:Ext w8 we:=dD;have roe:=qb ro8 dD;have koe:=qa roe;have foe:=qe roe;have se:=dD.size;clear dD;simp only[PV.cs];go_wp2_with fail;generalize yA:World.setCell (World.setCell (World.setCell (World.setCell (World.setCell (World.setCell (World.setCell (World.setCell we _ _) _ _) _ _) _ _) _ _) _ _) _ _) _ _=w9;obtain⟨ro9,o9,s9,b9⟩:=eight roe yA;have x9:Ext w w9:=b9 zO xe;exact XI (b:=w.heap.size+1) rfl rfl rfl ro9 ⟨x9,.inr ⟨_,S4,_,⟨vs,refs,nodes,_,S9,vs9,hp.out,hc.out,he.out,hv.out,dP.out,hO.out,uZ.out,hIW.out⟩,rfl,yC.out.keep x6s zO fun k h1 h2=>(o9 k zO).trans (Below.block x8e k h2)⟩⟩
theorem set_cov {S S':Sto} {root next:Int} {dead:List Int} {vs:List Vol} {v:Vol} {r:Nat} {R:List Nat} {M:Nat->Bool} (hp:Qb S root next dead vs) (hv:JZ v) (hc:ZW S (root.toNat :: R) M) (hM:M root.toNat=true) (e:setE S root v=.ok (r,S')) : ∃ M',ZW S' (r :: R) M'/\M' r=true/\∀ b∈R,M b=true->M' b=true:=by
 obtain⟨a,rfl,h8,h256,lvl,xs,hn,hs⟩:=ZR hp.top;rw[Int.toNat_natCast] at hc hM;unfold setE at e;rw[Int.toNat_natCast,hn] at e;simp only[Int.toNat_natCast] at e;unfold Tc at e;split at e
 ·rename_i yl;exact put_cov hp.may (GY.of (qcu hv) yl) hn hs (hc.perm fun b hb=>by rw[show qz [YN v]=[0] from rfl,List.singleton_append,List.count_cons_of_ne zO];exact zM _) hM e
 ·cases e
theorem qil {S S4:Sto} {R:List Nat} {M:Nat->Bool} {a:Int} (h:ZW S (a.toNat :: R) M) (h0:0<a.toNat) (hR:a.toNat∈R) (hM:M a.toNat=true) (hin:∀ b∈R,M b=true) (e:Zn S a=.ok S4):SM S S4/\SM S4 S/\ql S4=true/\∃ M',ZW S4 R M'/\∀ b∈R,M' b=true:=by
 unfold Zn at e;split at e
 ·rename_i yl;obtain⟨hS,m,rfl,h8,h256,-⟩:=kR yl;rw[Int.toNat_natCast] at *;unfold vF at e;split at e
  ·cases e
  ·rename_i t hl;cases e;obtain⟨M',h1,l1⟩:=h.leave hM hl;have h2:=h.cov.cnt m h0;rw[List.count_cons_self] at h2;have h3:=List.count_pos_iff.2 hR;have ht:t=vd S.now m:=by unfold QH at hl;rw[Jc,if_neg zO,if_pos zO] at hl;exact(Option.some.inj hl).symm
   subst ht;have hle:∀ j,qN (vd S.now m) j<=qN S.now j:=qaY S.now m;refine⟨qeV fun r hr=>?_,qjO hle,may_now hS h8 _,M',h1,fun b hb=>l1.keep b hb (hin b hb)⟩;have h4:=KD (t:=S.now) (b:=m) zO r;show 0<qN (vd S.now m) r;rw[h4];split
   ·omega
   ·exact hr
 ·cases e
theorem qdv {vs:List Vol} {v:Vol} {id:Int} (hv:Qs vs id=some v) (fz:Bool) (b:Nat):((Tb (Vw v fz) vs).map fun u=>u.root.toNat).count b<=(vs.map fun u=>u.root.toNat).count b:=by
 have hid:v.id=id:=by have:=List.find?_some hv;simpa using this
 have hm:=jI hv;clear hv hid id;have h1:∀ l:List Vol,((l.filter fun u=>decide (u.id<v.id)).map fun u=>u.root.toNat).count b+((l.filter fun u=>decide (v.id<u.id)).map fun u=>u.root.toNat).count b+((l.filter fun u=>decide (u.id=v.id)).map fun u=>u.root.toNat).count b=(l.map fun u=>u.root.toNat).count b:=fun l=>by
  induction l with
  |nil=>rfl
  |cons x l ih =>
   rcases Int.lt_trichotomy x.id v.id with h|h|h
   ·rw[List.filter_cons_of_pos (by simpa using h),List.filter_cons_of_neg zA1,List.filter_cons_of_neg zA1];simp only[List.map_cons,List.count_cons];omega
   ·rw[List.filter_cons_of_neg zA1,List.filter_cons_of_neg zA1,List.filter_cons_of_pos (by simpa using h)];simp only[List.map_cons,List.count_cons];omega
   ·rw[List.filter_cons_of_neg zA1,List.filter_cons_of_pos (by simpa using h),List.filter_cons_of_neg zA1];simp only[List.map_cons,List.count_cons];omega
 have h2:=h1 vs;have h3:v∈vs.filter fun u=>decide (u.id=v.id):=List.mem_filter.2 ⟨hm,zA2⟩;have h4:[v.root.toNat].count b<=((vs.filter fun u=>decide (u.id=v.id)).map fun u=>u.root.toNat).count b:=by
  by_cases e:v.root.toNat=b
  ·subst e;rw[List.count_singleton_self];exact List.count_pos_iff.2 (List.mem_map.2 ⟨v,h3,rfl⟩)
  ·rw[List.count_eq_zero.2 (by simpa using fun x=>e x.symm)];exact Nat.zero_le _
 have h5:((Tb (Vw v fz) vs).map fun u=>u.root.toNat).count b=((vs.filter fun u=>decide (u.id<v.id)).map fun u=>u.root.toNat).count b+[v.root.toNat].count b+((vs.filter fun u=>decide (v.id<u.id)).map fun u=>u.root.toNat).count b:=by simp only[Tb,Vw,List.map_append,List.count_append,List.map_cons,List.map_nil];rfl
 omega
structure FrzP (S S':Sto) (root:Int) (r:Nat) (next:Int) (dead:List Int) (id:Int) (fz:Bool) (vs:List Vol) (v:Vol):Prop where
 ok:Jr S root next dead vs
 vol:Qs vs id=some v
 new:Jr S' (r:Int) next dead (Tb (Vw v fz) vs)
 same:∀ K K2,Vo S' v.root K K2=Vo S v.root K K2
theorem qdo {S S4:Sto} {root next:Int} {dead:List Int} {id:Int} {fz:Bool} {r:Nat} (h:FrzOk S root next dead id fz r S4):∃ vs v,FrzP S S4 root r next dead id fz vs v:=by
 obtain⟨vs,refs,nodes,v,S',vs',hp,hc,he,hv,dw,hok,hl,-⟩:=h;have yQ:=jI hv;have xx:=Gd hp v yQ;have hvn:JZ (Vw v fz):=xx;have xY:=hok;obtain⟨_,_,_,_,_,_,_,dR,hpo⟩:=xY;obtain⟨vsh,X,hph,fU,rfl,m,m'⟩:=hok.vols hvn;have mh:=(Uo dw).2.1;obtain rfl:=qli mh hp hph;obtain⟨a,ha,h8,h256,-⟩:=ZR (qeR hp yQ);have hmv:v.root.toNat∈vsh.map fun u=>u.root.toNat:=List.mem_map.2 ⟨v,yQ,rfl⟩;have hrn:Qk root dead vsh=root.toNat :: (dead.map Int.toNat++vsh.map fun u=>u.root.toNat):=by simp[Qk,Za]
 have c1:=(ZW.of hp hc he).held dw;have iK:∀ b∈Qk root dead vsh,Jz nodes b=true:=hc.mkd.root;rw[hrn] at c1 iK;have c2:ZW (Qj S v.root) (root.toNat :: (v.root.toNat :: (dead.map Int.toNat++vsh.map fun u=>u.root.toNat))) (Jz nodes):=c1.perm fun b _=>by simp only[List.count_cons];omega
 obtain⟨M1,c3,k3,i3⟩:=set_cov hph hvn c2 (iK _ List.mem_cons_self) dR;have c4:ZW S' (v.root.toNat :: (r :: (dead.map Int.toNat++vsh.map fun u=>u.root.toNat))) M1:=c3.perm fun b _=>by simp only[List.count_cons];omega
 have hin:∀ b∈(r :: (dead.map Int.toNat++vsh.map fun u=>u.root.toNat)),M1 b=true:=fun b hb=>by
  rcases List.mem_cons.1 hb with rfl|hb
  ·exact k3
  ·exact i3 b (List.mem_cons_of_mem _ hb) (iK b (List.mem_cons_of_mem _ hb))
 obtain⟨m4,m4',hS4,M2,c5,i5⟩:=qil c4 zO (List.mem_cons_of_mem _ (List.mem_append_right _ hmv)) (hin _ (List.mem_cons_of_mem _ (List.mem_append_right _ hmv))) hin hl;obtain⟨refs',nodes',q1,q2,q3⟩:=hpo;have hp4:=m4.pool hS4 fU;have yD:=m4.counted fU.trees q2;have hrn':Qk (r:Int) dead (Tb (Vw v fz) vsh)=r :: (dead.map Int.toNat++(Tb (Vw v fz) vsh).map fun u=>u.root.toNat):=by simp[Qk,Za]
 refine⟨vsh,v,⟨⟨refs,nodes,hp,hc,he⟩,hv,⟨refs',nodes',hp4,yD,c5.enough (fun b _=>?_) (fun b hb=>?_) yD⟩,fun K K2=>?_⟩⟩
 ·rw[hrn'];have:=qdv hv fz b;simp only[List.count_cons,List.count_append];omega
 ·rw[hrn'] at hb;rcases List.mem_cons.1 hb with rfl|hb
  ·exact i5 _ List.mem_cons_self
  ·rcases List.mem_append.1 hb with hb|hb
   ·exact i5 b (List.mem_cons_of_mem _ (List.mem_append_left _ hb))
   ·have:=qdv hv fz b;have h1:=List.count_pos_iff.2 hb;exact i5 b (List.mem_cons_of_mem _ (List.mem_append_right _ (List.count_pos_iff.1 zO)))
 ·have hm4:Vw v fz∈Tb (Vw v fz) vsh:=by unfold Tb;simp
  exact qiz (mh.trans m) (m4'.trans m') (qeR hp yQ) (qeR (v:=Vw v fz) hp4 hm4) K K2
theorem qgX (k i o r:Int) (l:List UInt8):Xy k i o r k i o r l l=true:=by simp[Xy]
theorem ju {P:Program} {o:Oper} {a:Act} {W:World} {hh:Qd} {f:FuncId} {args:Array Value} (hr:(execOp a.eval o).run P W=.ok (.enter f args) W) (hc:Calls P f args W fun e w''=>∃ p,e=.returned (hh.f p)/\hh.φ p w''/\Ext W w''):QO qj P o a W hh:=by
 unfold QO;rw[hr];exact⟨Ext.refl W,hc⟩
set_option maxRecDepth 100000 in
theorem qck (A A':OA) (c c':Nat) (xs:List It) (hl:xs.length<1073741824) (w:World) (h:Its w w.heap.size (.slice A xs.length c) xs) (h':Its w w.heap.size (.slice A' xs.length c') xs):Calls prog 28 #[.slice A xs.length c,.slice A' xs.length c'] w (Ret (.bool true) w):=by
 have hA:=h.at_.2.2.2;have hA':=h'.at_.2.2.2;replace h:=zH h;replace h':=zH h';go_enter func28,ntmps28;go_wp2_with fail;go_loopw [5] (fun v wr=>∃ n:Nat,n<=xs.length/\v=.int .i64 (n:Int)/\Ext w wr) (fun v _=>xs.length-(intOf v).toNat)
 case atStart=>exact⟨0,Nat.zero_le _,rfl,Ext.refl _⟩
 case round =>
  obtain⟨n,hn,rfl,xr⟩:=hrel;by_cases hlt:n<xs.length
  ·obtain⟨b,off,rfl,hb⟩:=hA zO;obtain⟨b',off',rfl,yt⟩:=hA' zO;obtain⟨A1,c1,d0,d1,d2,d3,d4,aS⟩:=(h.out.ext xr).item n hlt;obtain⟨A2,c2,e0,e1,e2,e3,e4,xA⟩:=(h'.out.ext xr).item n hlt;generalize xs[n]=x at *;have aA:=zH (IntWalk.wrap64_in ((n:Int)+1) zO);have HC:=zH (fun W (hx:Ext wr W)=>qdw x.k x.i x.o x.r x.k x.i x.o x.r A1 A2 x.val.length c1 x.val.length c2 x.val x.val W ((aS.below hx).more hx.size) ((xA.below hx).more hx.size));go_wp2_with fail;have g0:∀ W,qj.r wr W->W.cell? ⟨b,off+n*5,none⟩=some (.int .u8 x.k):=fun W h=>Ext.cell h d0;have g1:∀ W,qj.r wr W->W.cell? ⟨b,off+n*5+1,none⟩=some (.int .u32 x.i):=fun W h=>Ext.cell h d1;have g2:∀ W,qj.r wr W->W.cell? ⟨b,off+n*5+2,none⟩=some (.int .u32 x.o):=fun W h=>Ext.cell h d2;have g3:∀ W,qj.r wr W->W.cell? ⟨b,off+n*5+3,none⟩=some (.int .i64 x.r):=fun W h=>Ext.cell h d3;have g4:∀ W,qj.r wr W->W.cell? ⟨b,off+n*5+4,none⟩=some (.slice A1 x.val.length c1):=fun W h=>Ext.cell h d4;have k0:∀ W,qj.r wr W->W.cell? ⟨b',off'+n*5,none⟩=some (.int .u8 x.k):=fun W h=>Ext.cell h e0;have k1:∀ W,qj.r wr W->W.cell? ⟨b',off'+n*5+1,none⟩=some (.int .u32 x.i):=fun W h=>Ext.cell h e1;have k2:∀ W,qj.r wr W->W.cell? ⟨b',off'+n*5+2,none⟩=some (.int .u32 x.o):=fun W h=>Ext.cell h e2;have k3:∀ W,qj.r wr W->W.cell? ⟨b',off'+n*5+3,none⟩=some (.int .i64 x.r):=fun W h=>Ext.cell h e3;have k4:∀ W,qj.r wr W->W.cell? ⟨b',off'+n*5+4,none⟩=some (.slice A2 x.val.length c2):=fun W h=>Ext.cell h e4;clear d0 d1 d2 d3 d4 e0 e1 e2 e3 e4 aS xA;refine qp zQ ?_;refine qQ (w:=wr) qj (qH [(8,one (.bool true))]) [true,true,true,true,true,true,true,true,true,true] 0 zQ zQ zQ zQ zQ zQ zQ ?st (Rel.drew _ _) ?walk
   case st=>exact qk (by simp only[List.forall_mem_cons];exact⟨fun p=>QS (Zr _ p),fun _ h=>by cases h⟩)
   case walk =>
    intro K hK;dsimp only[qu];refine zB6 ?_;refine qy (one (.bool true)) zA0 zA0 (fun W hW _=>?_) (fun (p:Unit)=>?_)
    ·refine ju ?_ ((HC.out W hW).mono fun e w' h=>⟨(),by rw[h.1,qgX];rfl,trivial,h.2⟩);go_simp
    refine zB6 ?_;refine qv (hK _ _ fun W hW hF=>?_);clear hF hK g0 g1 g2 g3 g4 k0 k1 k2 k3 k4;have xW:Hid (Ext w W):=zH (xr.trans hW);have bP:=aA.out;refine zB5 ?_;go_wp2;refine Qr ?_;go_wp2_with fail;refine⟨⟨n+1,hlt,rfl,xW.out⟩,?_⟩;simp[intOf];omega
  ·obtain rfl:n=xs.length:=zO;go_wp2_with fail;refine bodyPost_ret (v:=.bool true) ?_ rfl ⟨rfl,xr⟩;simp[results,results28,go_sem]
end Go.Proofs.YtmeadnlmepcmbaaGreat
