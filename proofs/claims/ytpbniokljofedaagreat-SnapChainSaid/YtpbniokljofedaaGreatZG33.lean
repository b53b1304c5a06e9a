/- Texts RangeL, RangeW, ItsLen, Range, VRange, ChainW, Same18, All18, Freeze, joined. -/
import Derived.Test.YtpbniokljofedaaGreatZG32
set_option linter.unusedSimpArgs false
set_option linter.unusedVariables false
set_option maxHeartbeats 8000000
open Go.Proofs.Tryz
namespace Go.Proofs.YtpbniokljofedaaGreat
open Go.RowKit
def MX (B:Nat) (M0:World->Nat->Prop) (W:World) (b:Nat):Prop:=b=B\/b=B+1\/M0 W b
structure Tw (B:Nat) (W W':World):Prop where
 os:W'.os=W.os
 tape:W'.tape=W.tape
 output:W'.output=W.output
 size:W.heap.size<=W'.heap.size
 same:∀ k,k<W.heap.size->k≠B->k≠B+1->W'.heap[k]?=W.heap[k]?
theorem Tw.of_ext {B:Nat} {W W':World} (h:Ext W W'):Tw B W W':=⟨h.os,h.tape,h.output,h.size,fun k hk _ _=>h.block k hk⟩
theorem Tw.put {B:Nat} (W:World) (o:Obj):Tw B W (W.putObj (B+1) o):=⟨rfl,rfl,rfl,by simp[World.putObj],fun k _ _ h=>World.putObj_heap_other h⟩
def roundX (B:Nat) (M0:World->Nat->Prop) (I Ix:List X3->World->Prop) (xs:List X3) (W:World):Exit->Act->World->Prop
 | .normal,_,W'=>(ZG (MX B M0) W W'/\W'.heap[B]?=W.heap[B]?/\W'.heap[B+1]?=W.heap[B+1]?)/\I xs W'
 | .exit id,_,W'=>(W'.heap[B]?=W.heap[B]?/\W'.heap[B+1]?=W.heap[B+1]?)/\id=0/\Ix xs W'
 |_,_,_=>False
theorem qge {n:Nat} {g:Operand} {p:Tmp} {assign body:Code} {Q:Exit->Act->World->Prop} {a:Act} {w:World} (hn:1<=n) {gf:Nat} {lb:Array Value} (hg:a.eval g=.func (.func gf) #[] lb) (eg:∀ args w,(callFunc gf args).run prog w=.ok (.enter gf args) w) (lo N:Nat) (M0:World->Nat->Prop) (I Ix:List X3->World->Prop) (zs:List It) (aP:lo<=w.heap.size) (hM:∀ W b,M0 W b->lo<=b) (hI:∀ pre W W',I pre W->Tw w.heap.size W W'->I pre W'/\∀ b,M0 W' b->M0 W b) (hIx:∀ pre W W',Ix pre W->Tw w.heap.size W W'->Ix pre W') (hlt:∀ pre W b,I pre W->M0 W b->b<W.heap.size) (h0:I [] w) (hTX:∀ (J Jx:List X3->World->Prop) (W:World),Ext w W->TF lo (MX w.heap.size M0) J Jx (w.heap.size+1) N->J [] W ->
   CallsIn Fence.wide (n-1) prog gf (#[.func (.yield (w.heap.size+1)) #[] #[]]++lb) W fun e W'=>(∃ v,e=.returned v)/\((∃ xs:List X3,xs.map (·.1)=zs/\J xs W')\/∃ (xs:List X3) (rest:List It),xs.map (·.1)++rest=zs/\Jx xs W'))
  (a1:Nat->X3->Act) (ty:TypeId)
  (hGH:∀ (m:Nat) (x:X3) (W:World) (K:Act->World->Prop),K (a1 W.heap.size x) (W.alloc (.cells (VC x.1 x.2.1 x.2.2) ty)) ->
   assign.wpIn (Fence.wide.inRound (w.heap.size+1)) m prog (Exit.then K (fun _ _ _=>False)) { tmps:=a.tmps.setIfInBounds p (encX x),defers:=[] } W)
  (hSK:∀ (m:Nat) (pre:List X3) (x:X3) (bx:Nat) (W:World),w.heap.size+1<bx->W.heap[bx]?=some (.cells (VC x.1 x.2.1 x.2.2) ty (0,0))->¬M0 W bx->I pre W->FctX (MX w.heap.size M0) lo x W->pre.length<N ->
   body.wpIn (Fence.wide.inRound (w.heap.size+1)) m prog (roundX w.heap.size M0 I Ix (pre++[x]) W) (a1 bx x) W)
  (hTK:∀ (xs:List X3) (W:World),xs.map (·.1)=zs->I xs W->W.heap[w.heap.size]?=some (.deferred (some []))->Q .normal { a with defers:={ target:=.collected w.heap.size,args:=#[] } :: a.defers } W)
  (hVK:∀ (xs:List X3) (rest:List It) (W:World),xs.map (·.1)++rest=zs->Ix xs W->W.heap[w.heap.size]?=some (.deferred (some []))->(Code.exit 0).wpIn Fence.wide n prog Q { a with defers:={ target:=.collected w.heap.size,args:=#[] } :: a.defers } W) :
  (Code.rangeFunc g #[p] assign body).wpIn Fence.wide n prog Q a w:=by
 obtain⟨B,hB⟩:∃ B,B=w.heap.size:=⟨_,rfl⟩
 refine wpIn_rangeFunc fun fn uJ=>?_;obtain⟨R,hR⟩:∃ R:LoopState->Option Code->Loop,R=fun st pe=>{ state:=st,pending:=pe,fn,tmps:=a.tmps,params:=#[p],assign,body,defers:=w.heap.size }:=⟨_,rfl⟩
 obtain⟨W1,hW1⟩:∃ W1,(w.alloc (.deferred (some []))).alloc (.loop (R .ready none))=W1:=⟨_,rfl⟩
 have x1:Ext w W1:=by rw[<-hW1];exact(zN _ _).trans (zN _ _)
 have pR:W1.heap[w.heap.size+1]?=some (.loop (R .ready none)):=by
  rw[<-hW1];have:=World.alloc_heap_new (w.alloc (.deferred (some []))) (.loop (R .ready none))
  rwa [World.size_alloc] at this
 have hd1:W1.heap[w.heap.size]?=some (.deferred (some [])):=by rw[<-hW1];exact(zK _ _ _ zA2).trans (World.alloc_heap_new w _)
 have hI1:=(hI [] w W1 h0 (Tw.of_ext x1)).1;have KT:∀ {pre:List X3} {W W':World},I pre W->Tw w.heap.size W W'->ZG (MX w.heap.size M0) W W':=fun hi ht =>
  ⟨ht.os,ht.tape,ht.output,ht.size,fun b hb hm=>⟨ht.same b hb (fun e=>hm (.inl e)) (fun e=>hm (.inr (.inl e))),fun h=>hm (by
   rcases h with h|h|h
   ·exact .inl h
   ·exact .inr (.inl h)
   ·exact .inr (.inr ((hI _ _ _ hi ht).2 b h)))⟩⟩
 have HC:TF lo (MX w.heap.size M0) (fun pre W=>I pre W/\W.heap[w.heap.size+1]?=some (.loop (R .ready none))/\W.heap[w.heap.size]?=some (.deferred (some [])))
   (fun pre W=>Ix pre W/\W.heap[w.heap.size+1]?=some (.loop (R .done (some (.exit 0))))/\W.heap[w.heap.size]?=some (.deferred (some []))) (w.heap.size+1) N:=by
  refine⟨fun W b h=>?_,fun pre W b hJ h=>?_,fun pre W W' hJ hx=>⟨⟨(hI _ _ _ hJ.1 (Tw.of_ext hx)).1,qb hJ.2.1 hx,qb hJ.2.2 hx⟩,fun b h=>?_⟩,fun m pre x W hJ hF hN=>?_⟩
  ·rcases h with rfl|rfl|h
   ·exact aP
   ·omega
   ·exact hM W b h
  ·have:=(zG.1 hJ.2.1).1;rcases h with rfl|rfl|h
   ·omega
   ·omega
   ·exact hlt _ _ _ hJ.1 h
  ·rcases h with h|h|h
   ·exact .inl h
   ·exact .inr (.inl h)
   ·exact .inr (.inr ((hI _ _ _ hJ.1 (Tw.of_ext hx)).2 b h))
  ·obtain⟨hi,hl,hd⟩:=hJ;have hy:=run_yield (P:=prog) (args:=#[encX x]) hl (by rw[hR];rfl);rw[hR] at hy;have hy':(Instr.yield (w.heap.size+1) #[encX x]).run prog W=.ok (.round (w.heap.size+1) fn (a.tmps.setIfInBounds p (encX x)) assign body) W:=by rw[hy];simp
   clear hy;have hsz:w.heap.size+1<W.heap.size:=(zG.1 hl).1;refine⟨fn,_,assign,body,hy',roundIn_of_wpIn uJ ?_⟩;refine hGH m x W _ ?_;have xa:Ext W (W.alloc (.cells (VC x.1 x.2.1 x.2.2) ty)):=zN _ _;have ra:(W.alloc (.cells (VC x.1 x.2.1 x.2.2) ty)).heap[W.heap.size]?=some (.cells (VC x.1 x.2.1 x.2.2) ty (0,0)):=zI _ _ _ rfl;generalize W.alloc (.cells (VC x.1 x.2.1 x.2.2) ty)=Wa at *;have hla:=qb hl xa;have hda:=qb hd xa;have hia:=hI _ _ _ hi (Tw.of_ext xa);refine⟨_,run_beginRound hla (by rw[hR]),?_⟩;have hla2:(Wa.putObj (w.heap.size+1) (.loop { R .ready none with state:=.busy })).heap[w.heap.size+1]?=some (.loop { R .ready none with state:=.busy }):=World.putObj_heap_same (zG.1 hla).1;have hda2:(Wa.putObj (w.heap.size+1) (.loop { R .ready none with state:=.busy })).heap[w.heap.size]?=some (.deferred (some [])):=(World.putObj_heap_other zO).trans hda;have tb:=Tw.put (B:=w.heap.size) Wa (.loop { R .ready none with state:=.busy });have hib:=hI _ _ _ hia.1 tb;have rb:(Wa.putObj (w.heap.size+1) (.loop { R .ready none with state:=.busy })).heap[W.heap.size]?=_:=(World.putObj_heap_other zO).trans ra;have kb:ZG (MX w.heap.size M0) W (Wa.putObj (w.heap.size+1) (.loop { R .ready none with state:=.busy })):=(KT hi (Tw.of_ext xa)).trans (KT hia.1 tb);have hnm:¬M0 (Wa.putObj (w.heap.size+1) (.loop { R .ready none with state:=.busy })) W.heap.size:=fun h=>by have:=hlt _ _ _ hi (hia.2 _ (hib.2 _ h));omega
   generalize Wa.putObj (w.heap.size+1) (.loop { R .ready none with state:=.busy })=Wb at *;refine wpIn_mono (hSK m pre x W.heap.size Wb hsz rb hnm hib.1 (hF.kept kb) hN) ?_;rintro e a3 W3 hp;have fin:∀ jump:Option Code,W3.heap[w.heap.size]?=Wb.heap[w.heap.size]?->W3.heap[w.heap.size+1]?=Wb.heap[w.heap.size+1]? ->
     (Instr.endRound (w.heap.size+1) jump).run prog W3=.ok (.bool jump.isNone) (W3.putObj (w.heap.size+1) (.loop (R (if jump.isNone then .ready else .done) jump))) /\
     (W3.putObj (w.heap.size+1) (.loop (R (if jump.isNone then .ready else .done) jump))).heap[w.heap.size+1]?=some (.loop (R (if jump.isNone then .ready else .done) jump)) /\
     (W3.putObj (w.heap.size+1) (.loop (R (if jump.isNone then .ready else .done) jump))).heap[w.heap.size]?=some (.deferred (some [])):=fun jump e1 e2=>by
    have nC:=e2.trans hla2;have h1:=run_endRound (P:=prog) jump nC;rw[hR] at h1 ⊢;exact⟨h1,World.putObj_heap_same (zG.1 nC).1,(World.putObj_heap_other zO).trans (e1.trans hda2)⟩
   cases e with
   |normal =>
    obtain⟨⟨oC,e1,e2⟩,hi3⟩:=hp;obtain⟨f1,f2,f3⟩:=fin none e1 e2;have t3:=Tw.put (B:=w.heap.size) W3 (.loop (R .ready none));exact⟨_,_,f1,.inl ⟨rfl,⟨(hI _ _ _ hi3 t3).1,f2,f3⟩,(kb.trans oC).trans (KT hi3 t3)⟩⟩
   |exit id =>
    obtain⟨⟨e1,e2⟩,rfl,hi3⟩:=hp;obtain⟨f1,f2,f3⟩:=fin (some (.exit 0)) e1 e2;exact⟨_,_,f1,.inr ⟨rfl,hIx _ _ _ hi3 (Tw.put _ _),f2,f3⟩⟩
   |ret=>exact hp.elim
   |goto t=>exact hp.elim
   |panic ch=>exact hp.elim
   |outgrown=>exact hp.elim
 refine⟨w.heap.size+1,[{ target:=.collected w.heap.size,args:=#[] }],W1,{ target:=.fn (.func gf) lb,args:=#[.func (.yield (w.heap.size+1)) #[] #[]] },W1,gf,
  #[.func (.yield (w.heap.size+1)) #[] #[]]++lb,W1,?_,?_,?_,?_,fun _=>hn,?_⟩
 ·rw[<-hW1,hR];exact run_enterLoop_outer _ _ _ _ _
 ·simp only[resolve,hg];simp[go_sem]
 ·intro f' hf';exact trivial
 ·simp[invoke,go_sem,eg]
 ·refine(hTX _ _ W1 x1 HC ⟨hI1,pR,hd1⟩).mono ?_;rintro e W2 ⟨⟨v,rfl⟩,(⟨xs,hS,hi,hl,hd⟩|⟨xs,rest,hS,hi,hl,hd⟩)⟩
  ·have h1:=run_endLoop (P:=prog) hl (by rw[hR];simp);rw[hR] at h1;exact⟨none,_,h1,hTK xs _ hS (hI _ _ _ hi (Tw.put _ _)).1 ((World.putObj_heap_other zO).trans hd)⟩
  ·have h1:=run_endLoop (P:=prog) hl (by rw[hR];simp);rw[hR] at h1;exact⟨some (.exit 0),_,h1,hVK xs rest _ hS (hIx _ _ _ hi (Tw.put _ _)) ((World.putObj_heap_other zO).trans hd)⟩
theorem qdE {W W':World} {v:Value} {l:List UInt8} (h:Bys W W.heap.size v l) (hs:W.heap.size<=W'.heap.size) (hk:∀ b o n c,v=.slice (some ⟨b,o,none⟩) n c->0<l.length->W'.heap[b]?=W.heap[b]?):Bys W' W'.heap.size v l:=by obtain⟨A,c,e,hc,hm,hr⟩:=h;refine⟨A,c,e,hc,hm,hr.1,fun hp=>?_⟩;obtain⟨b,off,rfl,hb,aC⟩:=hr.2 hp;exact⟨b,off,rfl,zO,fun j u hu=>(World.cell?_of_block (w:=W) (hk b off _ _ e hp)).trans (aC j u hu)⟩
theorem qjc {w w':World} {base n size:Nat} {e:TypeId} {v:Value} {xs:List Value} (h:w.ownsRow base e size v n xs) (hk:∀ g,v.ownBlock=some g->w'.heap[g]?=w.heap[g]?):w'.ownsRow base e size v n xs:=
 ⟨h.1,h.2.imp id fun ⟨g,cap,cur,h1,h2,h3,h4⟩=>⟨g,cap,cur,h1,h2,(hk g (by rw[h1];rfl)).trans h3,h4⟩⟩
def M0 (lo:Nat) (W:World) (b:Nat):Prop:=b=lo+3\/∃ v,W.cell? ⟨lo+3,0,none⟩=some v/\v.ownBlock=some b/\lo<=b
structure RgI (lo B:Nat) (K:K3) (w:World) (pre:List X3) (v:Value) (W:World):Prop where
 ro:W.heap[lo+3]?=some (.cells #[v] 47 (0,0))
 rt:W.heap[lo+2]?=some (.cells #[.int .u8 K.1,.int .u32 K.2.1,.int .u32 K.2.2] 66 (0,0))
 row:vC (B+2) lo W v (pre.map fun x=>(x.1,Jo x))
 nz:∀ x∈pre,Nz W (Jo x)
 off:∀ x∈pre,∀ b o,x.2.1=some ⟨b,o,none⟩->0<x.1.val.length->b≠lo+3/\b≠B/\b≠B+1
 le:∀ x∈pre,qM K (qo x.1)=false
 blw:Below lo w W
theorem nz_blk {W W':World} {x:X3} (hb:Bys W W.heap.size (Jo x) x.1.val) (h:Nz W (Jo x)) (hk:∀ b o,x.2.1=some ⟨b,o,none⟩->0<x.1.val.length->W'.heap[b]?=W.heap[b]?):Nz W' (Jo x):=fun a n c e hn=>by
 obtain⟨cs,ty,hr⟩:=h a n c e hn;obtain⟨A,c',e1,-,-,h4⟩:=hb;simp only[Jo,Value.slice.injEq] at e e1;obtain⟨b',off,e4,-,-⟩:=h4.2 zO;have e5:a=⟨b',off,none⟩:=by
  have:some a=some ⟨b',off,none⟩:=by rw[<-e.1,e1.1,e4]
  exact Option.some.inj this
 subst e5;exact⟨cs,ty,(hk b' off e.1 zO).trans hr⟩
theorem RgI.mem {lo B:Nat} {K:K3} {w W:World} {pre:List X3} {v:Value} (h:RgI lo B K w pre v W) {x:X3} (hx:x∈pre):Zo lo (Jo x)/\Bys W W.heap.size (Jo x) x.1.val/\Yq v (Jo x):=by have:=h.row.2 (x.1,Jo x) (List.mem_map.2 ⟨x,hx,rfl⟩);exact⟨this.1.2,this.2.1,this.2.2⟩
theorem RgI.blk {lo B:Nat} {K:K3} {w W W':World} {pre:List X3} {v:Value} (h:RgI lo B K w pre v W) (hB:lo+3<B) (hs:W.heap.size<=W'.heap.size) (hk:∀ b,b<W.heap.size->b≠B->b≠B+1->W'.heap[b]?=W.heap[b]?) (hb:Below lo w W'):RgI lo B K w pre v W':=by
 have dJ:∀ x∈pre,∀ b o,x.2.1=some ⟨b,o,none⟩->0<x.1.val.length->W'.heap[b]?=W.heap[b]?:=fun x hx b o e hp=>by obtain⟨-,h2,h3⟩:=h.off x hx b o e hp;obtain⟨-,hy,-⟩:=h.mem hx;obtain⟨A,c,e1,-,-,hr⟩:=hy;obtain⟨b',o',e4,e5,-⟩:=hr.2 hp;simp only[Jo,Value.slice.injEq] at e1;rw[e,e4] at e1;simp only[Option.some.injEq,Addr.mk.injEq] at e1;exact hk b zO h2 h3
 have z3:=(zG.1 h.ro).1;refine⟨(hk _ z3 zO zO).trans h.ro,(hk _ zO zO zO).trans h.rt,⟨qjc h.row.1 fun g hg=>?_,fun p hp=>?_⟩,fun x hx=>nz_blk (h.mem hx).2.1 (h.nz x hx) (dJ x hx),h.off,h.le,hb⟩
 ·have:=QM h.row.1 g hg;exact hk g this.2 zO zO
 ·obtain⟨x,hx,rfl⟩:=List.mem_map.1 hp;refine⟨(h.row.2 _ hp).1,qdE (h.mem hx).2.1 hs (fun b o n c e gm=>dJ x hx b o ?_ gm),(h.row.2 _ hp).2.2⟩;simp only[Jo,Value.slice.injEq] at e;exact e.1
theorem RgI.tw {lo B:Nat} {K:K3} {w W W':World} {pre:List X3} {v:Value} (h:RgI lo B K w pre v W) (hB:lo+3<B) (ht:Tw B W W'):RgI lo B K w pre v W'/\∀ b,M0 lo W' b->M0 lo W b:=by
 have z3:=(zG.1 h.ro).1;refine⟨h.blk hB ht.size ht.same ?_,fun b hb=>?_⟩
 ·exact h.blw.trans ⟨ht.os,ht.tape,ht.output,ht.size,fun k hk=>ht.same k zO zO zO⟩
 ·rcases hb with hb|⟨v',h1,h2⟩
  ·exact .inl hb
  ·have hs:W'.heap[(⟨lo+3,0,none⟩:Addr).block]?=W.heap[(⟨lo+3,0,none⟩:Addr).block]?:=ht.same (lo+3) z3 zO zO;rw[World.cell?_of_block hs] at h1;exact .inr ⟨v',h1,h2⟩
theorem RgI.lt {lo B:Nat} {K:K3} {w W:World} {pre:List X3} {v:Value} (h:RgI lo B K w pre v W) {b:Nat} (hb:M0 lo W b):b<W.heap.size:=by
 rcases hb with rfl|⟨v',h1,h2,-⟩
 ·exact(zG.1 h.ro).1
 ·rw[qa h.ro] at h1;cases h1;exact(QM h.row.1 b h2).2
theorem RgI.push {lo B:Nat} {K:K3} {w W W':World} {pre:List X3} {v v':Value} (h:RgI lo B K w pre v W) (hB:lo+3<B) (hBW:B+1<W.heap.size) {x:X3} (hF:FctX (MX B (M0 lo)) lo x W) (hl:qM K (qo x.1)=false) (hD:Done (B+2) 68 5 W.heap.size v (pre.length+1) (qY (pre.map fun x=>(x.1,Jo x))++GI x.1 (Jo x)) v' W') (hg:W.grownBy W' v.ownBlock):RgI lo B K w (pre++[x]) v' (W'.setCell ⟨lo+3,0,none⟩ v')/\(ZG (MX B (M0 lo)) W (W'.setCell ⟨lo+3,0,none⟩ v')/\(W'.setCell ⟨lo+3,0,none⟩ v').heap[B]?=W.heap[B]?/\(W'.setCell ⟨lo+3,0,none⟩ v').heap[B+1]?=W.heap[B+1]?):=by
 have z3:=(zG.1 h.ro).1;have az:=QM h.row.1;have tK:∀ b o,x.2.1=some ⟨b,o,none⟩->0<x.1.val.length->b≠lo+3/\b≠B/\b≠B+1/\v.ownBlock≠some b:=fun b o e hp=>by have hm:=hF.own b o e hp;refine⟨fun e=>hm (.inr (.inr (.inl e))),fun e=>hm (.inl e),fun e=>hm (.inr (.inl e)),fun e'=>hm (.inr (.inr (.inr ⟨v,qa h.ro 0,e',?_⟩)))⟩;have:=hF.fr ⟨b,o,none⟩ _ _ (by rw[<-e]);exact this
 have dm:Yq v (Jo x):=fun a n c e hn=>by
  obtain⟨A,c',e1,-,-,h4⟩:=hF.by_;simp only[Jo,Value.slice.injEq] at e e1;obtain⟨b',off,e4,-,-⟩:=h4.2 zO;have e5:a=⟨b',off,none⟩:=by
   have:some a=some ⟨b',off,none⟩:=by rw[<-e.1,e1.1,e4]
   exact Option.some.inj this
  subst e5;exact(tK b' off e.1 zO).2.2.2
 have hR:=h.row.push x.1 x.2.1 x.2.2 hF.by_ hF.fr dm rfl (by rw[List.length_map];exact hD) hg;have tJ:W'.heap[lo+3]?=some (.cells #[v] 47 (0,0)):=(hg.block _ z3 (fun e=>by have:=az _ e.symm;omega)).trans h.ro;have aI:∀ b,b<W.heap.size->b≠lo+3->v.ownBlock≠some b->(W'.setCell ⟨lo+3,0,none⟩ v').heap[b]?=W.heap[b]?:=fun b hb h1 h2=>(zJ _ _ _ _ h1).trans (hg.block b hb fun e=>h2 e.symm);have hoff:∀ y∈pre++[x],∀ b o,y.2.1=some ⟨b,o,none⟩->0<y.1.val.length->b≠lo+3/\b≠B/\b≠B+1:=fun y hy b o e hp=>by
  rcases List.mem_append.1 hy with hy|hy
  ·exact h.off y hy b o e hp
  ·obtain rfl:y=x:=by simpa using hy
   exact⟨(tK b o e hp).1,(tK b o e hp).2.1,(tK b o e hp).2.2.1⟩
 have hsz:(W'.setCell ⟨lo+3,0,none⟩ v').heap.size=W'.heap.size:=zA2;refine⟨⟨qi tJ 0 _,(aI _ zO zO (fun e=>by have:=az _ e;omega)).trans h.rt,?_,?_,hoff,?_,?_⟩,⟨?_,?_⟩⟩
 ·rw[List.map_append];refine⟨vP hR.1 zA1 _,fun p hp=>?_⟩;have gm:=hR.2 p hp;refine⟨gm.1,?_,gm.2.2⟩;obtain⟨y,hy,rfl⟩:∃ y∈pre++[x],(y.1,Jo y)=p:=by
   rcases List.mem_append.1 hp with hp|hp
   ·obtain⟨y,hy,e⟩:=List.mem_map.1 hp;exact⟨y,List.mem_append_left _ hy,e⟩
   ·exact⟨x,zA2,(by simpa using hp:p=(x.1,Jo x)).symm⟩
  refine qdE gm.2.1 zA2 (fun b o n c e dS=>zJ _ _ _ _ ?_);simp only[Jo,Value.slice.injEq] at e;exact(hoff y hy b o e.1 dS).1
 ·have:=qiV h.row (fun p hp=>by obtain⟨y,hy,rfl⟩:=List.mem_map.1 hp;exact h.nz y hy) (x:=x.1) hF.nz dm hg ⟨lo+3,0,none⟩ v';intro y hy;refine this (y.1,Jo y) ?_;rcases List.mem_append.1 hy with hy|hy
  ·exact List.mem_append_left _ (List.mem_map.2 ⟨y,hy,rfl⟩)
  ·obtain rfl:y=x:=by simpa using hy
   simp
 ·intro y hy;rcases List.mem_append.1 hy with hy|hy
  ·exact h.le y hy
  ·obtain rfl:y=x:=by simpa using hy
   exact hl
 ·exact h.blw.trans (Below.setCell ((Below.refl lo W).grown hg zO (fun k hk=>by have:=az k hk;omega)) (p:=⟨lo+3,0,none⟩) zA2 _)
 ·refine⟨hg.os,hg.tape,hg.output,by rw[hsz];exact hg.size,fun b hb hm=>?_⟩;have h1:b≠lo+3:=fun e=>hm (.inr (.inr (.inl e)));have h2:v.ownBlock≠some b:=fun e=>hm (.inr (.inr (.inr ⟨v,qa h.ro 0,e,by have:=az b e;omega⟩)));refine⟨aI b hb h1 h2,fun h'=>?_⟩;rcases h' with h'|h'|h'|⟨u,hu,h3,-⟩
  ·exact hm (.inl h')
  ·exact hm (.inr (.inl h'))
  ·exact h1 h'
  ·rw[qa (qi tJ 0 v')] at hu;cases hu;replace h3:v'.ownBlock=some b:=h3;rcases hD.2 with h4|⟨g,h4,h5⟩
   ·exact h2 (h4 ▸ h3)
   ·rw[h4] at h3;cases h3;omega
 ·exact⟨aI B zO zO (fun e=>by have:=az _ e;omega),aI (B+1) hBW zO (fun e=>by have:=az _ e;omega)⟩
theorem qdi {B:Nat} {K:K3} {w W:World} {pre:List X3} {v:Value} (h:RgI w.heap.size B K w pre v W) (hB:w.heap.size+3<B) (hD:W.heap[B]?=some (.deferred (some []))) (u:Value):vC w.heap.size w.heap.size ((W.setCell ⟨w.heap.size+3,0,none⟩ u).putObj B (.deferred none)) v (pre.map fun x=>(x.1,Jo x))/\(∀ p∈pre.map fun x:X3=>(x.1,Jo x),Nz ((W.setCell ⟨w.heap.size+3,0,none⟩ u).putObj B (.deferred none)) p.2)/\Below w.heap.size w ((W.setCell ⟨w.heap.size+3,0,none⟩ u).putObj B (.deferred none)):=by
 have hk:∀ b,b≠w.heap.size+3->b≠B->((W.setCell ⟨w.heap.size+3,0,none⟩ u).putObj B (.deferred none)).heap[b]?=W.heap[b]?:=fun b h1 h2=>(World.putObj_heap_other h2).trans (zJ _ _ _ _ h1);have hs:((W.setCell ⟨w.heap.size+3,0,none⟩ u).putObj B (.deferred none)).heap.size=W.heap.size:=by simp[World.putObj]
 have dJ:∀ x∈pre,∀ b o,x.2.1=some ⟨b,o,none⟩->0<x.1.val.length->((W.setCell ⟨w.heap.size+3,0,none⟩ u).putObj B (.deferred none)).heap[b]?=W.heap[b]?:=fun x hx b o e hp=>hk b (h.off x hx b o e hp).1 (h.off x hx b o e hp).2.1;refine⟨⟨QG (qjc h.row.1 fun g hg=>?_) zO,fun p hp=>?_⟩,fun p hp=>?_,?_⟩
 ·have:=QM h.row.1 g hg;exact hk g zO zO
 ·obtain⟨x,hx,rfl⟩:=List.mem_map.1 hp;refine⟨(h.row.2 _ hp).1,qdE (h.mem hx).2.1 (by rw[hs];exact zM _) (fun b o n c e gm=>dJ x hx b o ?_ gm),(h.row.2 _ hp).2.2⟩;simp only[Jo,Value.slice.injEq] at e;exact e.1
 ·obtain⟨x,hx,rfl⟩:=List.mem_map.1 hp;exact nz_blk (h.mem hx).2.1 (h.nz x hx) (dJ x hx)
 ·exact h.blw.trans ⟨rfl,rfl,rfl,by rw[hs];exact zM _,fun k hk'=>hk k zO zO⟩
theorem UY {S:Sto}:∀ (h:Nat) (xs:List It),xs.length<=5->(qC S h xs).length<=5 ^ (h+1)
 |0,xs,hl=>by simpa [qC] using hl
 |h+1,xs,hl=>by
  rw[zo];have key:∀ l:List It,(l.flatMap fun y=>match qu S y.r.toNat with|none=>[]|some (_,ys)=>qC S h ys).length<=l.length*5 ^ (h+1):=by
   intro l;induction l with
   |nil=>simp
   |cons y r ih =>
    rw[List.flatMap_cons,List.length_append,List.length_cons,Nat.add_mul,Nat.one_mul];have h1:(match qu S y.r.toNat with|none=>[]|some (_,ys)=>qC S h ys).length<=5 ^ (h+1):=by
     rcases hn:qu S y.r.toNat with _|⟨lvl,ys⟩
     ·simp
     ·have hm:=(qN hn).1;have:ys.length<=5:=by unfold Qb ZR at hm;simp at hm;omega
      exact UY h ys this
    omega
  refine Nat.le_trans (key xs) ?_;rw[Nat.pow_succ 5 (h+1),Nat.mul_comm];exact Nat.mul_le_mul_left _ hl
end Go.Proofs.YtpbniokljofedaaGreat
namespace Go.Proofs.YtpbniokljofedaaGreat
open Go.RowKit
attribute [local go_sem] Oper.semAt_some
set_option maxRecDepth 100000 in
theorem qir (A1:Option Addr) (n1 c1:Nat) (A2:Option Addr) (n2 c2:Nat) (A3:Option Addr) (n3 c3:Nat) (A4:Option Addr) (n4 c4:Nat) (a:Nat) (k i o:Int) (w:World):Calls prog 116 #[Qd A1 n1 c1 A2 n2 c2 A3 n3 c3 A4 n4 c4,.int .i64 (a:Int),Tq k i o] w fun e W=>e=.returned (.func (.func 157) #[] #[.pointer (some ⟨w.heap.size,0,none⟩),.pointer (some ⟨w.heap.size+2,0,none⟩),.pointer (some ⟨w.heap.size+1,0,none⟩)]) /\
   W=((w.alloc (.cells #[.slice A1 n1 c1,.slice A2 n2 c2,.slice A3 n3 c3,.slice A4 n4 c4] 28)).alloc (.cells #[.int .i64 (a:Int)] 3)).alloc (.cells #[.int .u8 k,.int .u32 i,.int .u32 o] 66):=by
 go_enter func116,ntmps116;go_wp2_with fail;go_ret;exact⟨rfl,rfl⟩
set_option maxRecDepth 100000 in
theorem qko (A1:Option Addr) (n1 c1:Nat) (A2:Option Addr) (n2 c2:Nat) (A3:Option Addr) (n3 c3:Nat) (A4:Option Addr) (n4 c4:Nat) (S:Sto) (hS:qm S=true) (a lvl:Nat) (xs:List It) (ha:8<=a) (aj:a<256) (hn:qu S a=some ((lvl:Int),xs)) (aN:(qD S lvl xs).isSome=true) (k i o k2 i2 o2:Int) (w:World) (aI:qU w w.heap.size (.slice A1 n1 c1) (.slice A2 n2 c2) (.slice A3 n3 c3) (.slice A4 n4 c4) S):Calls prog 58 #[Qd A1 n1 c1 A2 n2 c2 A3 n3 c3 A4 n4 c4,.int .i64 (a:Int),Tq k i o,Tq k2 i2 o2] w (Za (fun u W=>∃ (ps:List (It×Value)) (v:Value),u=.tuple #[v,.int .i64 0]/\ps.map (·.1)=vG S lvl (k,i,o) (k2,i2,o2) xs/\vC w.heap.size w.heap.size W v ps/\∀ p∈ps,Nz W p.2) w):=by
 have HCK:=zH (fun W (hx:Ext w W)=>KS A1 n1 c1 A2 n2 c2 A3 n3 c3 A4 n4 c4 S hS a ⟨ha,aj,lvl,xs,hn,aN⟩ W (aI.ext hx));replace aI:=zH aI;replace hn:=zH hn;replace aN:=zH aN;replace hS:=zH hS;refine(callsIn_wide (n:=3)).1 ?_;refine callsIn_of_wp_marks func58 rfl trivial ?_ rfl;simp only[ntmps58,List.size_toArray,List.length_cons,List.length_nil,Nat.reduceAdd,Nat.reduceSub,Array.replicate_succ,Array.replicate_zero,List.push_toArray,List.append_toArray,List.nil_append,List.cons_append];refine wpIn_wide.2 ?_;go_wp2_with fail;generalize aA:(World.alloc (World.alloc (World.alloc (World.alloc w _) _) _) _)=w1;have x1:Ext w w1:=by rw[<-aA];exact(((zN _ _).trans (zN _ _)).trans (zN _ _)).trans (zN _ _)
 have tX:w1.heap[w.heap.size]?=some (.cells #[.slice A1 n1 c1,.slice A2 n2 c2,.slice A3 n3 c3,.slice A4 n4 c4] 28 (0,0)):=by rw[<-aA];exact(zK _ _ _ zA1).trans ((zK _ _ _ (by simp;try omega)).trans ((zK _ _ _ zA2).trans (zI _ _ _ rfl)))
 have rf1:w1.heap[w.heap.size+1]?=some (.cells #[.int .u8 k,.int .u32 i,.int .u32 o] 66 (0,0)):=by rw[<-aA];exact(zK _ _ _ (by simp;try omega)).trans ((zK _ _ _ zA2).trans (zI _ _ _ zA2))
 have rt1:w1.heap[w.heap.size+2]?=some (.cells #[.int .u8 k2,.int .u32 i2,.int .u32 o2] 66 (0,0)):=by rw[<-aA];exact(zK _ _ _ zA2).trans (zI _ _ _ zA2)
 have iP:w1.heap[w.heap.size+3]?=some (.cells #[.slice none 0 0] 47 (0,0)):=by rw[<-aA];exact zI _ _ _ zA2
 clear aA;refine(HCK.out w1 x1).mono ?_;clear HCK;rintro e w2 ⟨u,rfl,⟨m,rfl⟩,hB⟩;have x2:Ext w w2:=Ext.trans x1 hB;have xh:=qb tX hB;have wV:=qb rf1 hB;have rt2:=qb rt1 hB;have dA:=qb iP hB;have z2:w.heap.size+3<w2.heap.size:=(zG.1 dA).1;clear tX rf1 rt1 iP hB x1;have ks2:=qa xh;have kf2:=qa wV;go_wp2_with fail;refine(qir A1 n1 c1 A2 n2 c2 A3 n3 c3 A4 n4 c4 a k i o w2).mono ?_;rintro e w3 ⟨rfl,aO⟩;have dO:Ext w2 w3:=by rw[aO];exact((zN _ _).trans (zN _ _)).trans (zN _ _)
 have gs3:w3.heap[w2.heap.size]?=some (.cells #[.slice A1 n1 c1,.slice A2 n2 c2,.slice A3 n3 c3,.slice A4 n4 c4] 28 (0,0)):=by rw[aO];exact(zK _ _ _ zA1).trans ((zK _ _ _ zA2).trans (zI _ _ _ rfl))
 have gr3:w3.heap[w2.heap.size+1]?=some (.cells #[.int .i64 (a:Int)] 3 (0,0)):=by rw[aO];exact(zK _ _ _ zA2).trans (zI _ _ _ zA2)
 have gf3:w3.heap[w2.heap.size+2]?=some (.cells #[.int .u8 k,.int .u32 i,.int .u32 o] 66 (0,0)):=by rw[aO];exact zI _ _ _ zA2
 have rt3:=qb rt2 dO;have dY:=qb dA dO;have x3:Ext w w3:=x2.trans dO;have z3:w2.heap.size+2<w3.heap.size:=(zG.1 gf3).1;clear aO ks2 kf2 xh wV rt2 dA x2 dO;go_wp2_with fail;have I0:RgI w.heap.size w3.heap.size (k2,i2,o2) w [] (.slice none 0 0) w3:=⟨dY,rt3,vC.nil _ _ _,(fun _ h=>by cases h),(fun _ h=>by cases h),(fun _ h=>by cases h),x3⟩
 have hBz:w.heap.size+3<w3.heap.size:=zO;have hlen:(QR S lvl (k,i,o) xs).length<=15625:=by
  have hmay:=(qN hn.out).1;have h1:xs.length<=5:=by unfold Qb ZR at hmay;simp at hmay;omega
  have h2:lvl<=5:=by unfold Qb ZR at hmay;simp at hmay;omega
  exact Nat.le_trans (List.length_filter_le _ _) (Nat.le_trans (UY (S:=S) lvl xs h1) (show 5 ^ (lvl+1)<=5 ^ 6 from Nat.pow_le_pow_right zO zO))
 obtain⟨i0,hi,ag,aU,aW⟩:=info_parts Tryz.info_item;refine(wpIn_wide (n:=3)).1 ?_;refine qge (n:=3) zD (gf:=157) (lb:=#[.pointer (some ⟨w2.heap.size,0,none⟩),.pointer (some ⟨w2.heap.size+2,0,none⟩),.pointer (some ⟨w2.heap.size+1,0,none⟩)]) rfl (enters_of func157 zQ rfl)
  w.heap.size (QR S lvl (k,i,o) xs).length (M0 w.heap.size) (fun pre W=>∃ v,RgI w.heap.size w3.heap.size (k2,i2,o2) w pre v W)
  (fun pre W=>∃ pre' x v,pre=pre'++[x]/\qM (k2,i2,o2) (qo x.1)=true/\RgI w.heap.size w3.heap.size (k2,i2,o2) w pre' v W) (QR S lvl (k,i,o) xs) x3.size (fun W b hb=>?_)
  (fun pre W W' ⟨v,h⟩ ht=>⟨⟨v,(h.tw hBz ht).1⟩,(h.tw hBz ht).2⟩) (fun pre W W' ⟨pre',x,v,h1,h2,h⟩ ht=>⟨pre',x,v,h1,h2,(h.tw hBz ht).1⟩) (fun pre W b ⟨v,h⟩ hb=>h.lt hb) ⟨_,I0⟩ (fun J Jx W xW HC hJ=>?_)
  (fun bx x=>{ tmps:=#[Qd A1 n1 c1 A2 n2 c2 A3 n3 c3 A4 n4 c4,.int .i64 a,Tq k i o,Tq k2 i2 o2,.pointer (some ⟨w.heap.size,0,none⟩),undef,.pointer (some ⟨w.heap.size+1,0,none⟩),.pointer (some ⟨w.heap.size+1+1,0,none⟩),.pointer (some ⟨w.heap.size+1+1+1,0,none⟩),.int .i64 0,
   .int .i64 m,.int .i64 0,.pointer (some ⟨bx,0,none⟩),.tuple #[.int .i64 m,.int .i64 0],.agg #[.slice A1 n1 c1,.slice A2 n2 c2,.slice A3 n3 c3,.slice A4 n4 c4],.int .i64 a,.tuple #[.int .i64 m,.int .i64 0],.int .i64 m,.int .i64 0,.int .i64 0,.bool false,undef,
   .agg #[.slice A1 n1 c1,.slice A2 n2 c2,.slice A3 n3 c3,.slice A4 n4 c4],.int .i64 a,.agg #[.int .u8 k,.int .u32 i,.int .u32 o],.func (.func 157) #[] #[.pointer (some ⟨w2.heap.size,0,none⟩),.pointer (some ⟨w2.heap.size+2,0,none⟩),.pointer (some ⟨w2.heap.size+1,0,none⟩)],
   encX x,undef,undef,undef,undef,undef,undef,undef,undef,undef],defers:=[] }) 68 ?assign ?body ?done ?stop
 ·rcases hb with rfl|⟨v,-,-,h⟩
  ·omega
  ·exact h
 ·have hst2:=aI.out.below (x3.trans xW);refine(callsIn_wide (n:=3-1)).2 (qhq S hS.out k i o w.heap.size (w3.heap.size+1) _ _ J Jx A1 n1 c1 A2 n2 c2 A3 n3 c3 A4 n4 c4 HC w2.heap.size (w2.heap.size+2) (w2.heap.size+1) W (by have:=x3.size;have:=xW.size;omega) hst2 (qb gs3 xW) (qb gf3 xW) a lvl xs (qb gr3 xW) ?_ ha aj hn.out aN.out (zM _) hJ);rintro (h|h|h|⟨v,h1,h2,-⟩)
  ·omega
  ·omega
  ·omega
  ·rw[qa (qb dY xW)] at h1;cases h1;cases h2
 case assign =>
  intro m' x W K hK
  gi_wp2_with fail
  exact hK
 case body =>
  rintro m' pre x bx W rQ aF hnm ⟨v,hI⟩ hF hN;have HL:=zH (fun W=>vK k2 i2 o2 x.1.k x.1.i x.1.o W);have hkx:qM (k2,i2,o2) (qo x.1)=Jh k2 i2 o2 x.1.k x.1.i x.1.o:=rfl;have kx:=qa aF;have kt:=qa hI.rt;have zB:w3.heap.size+1<W.heap.size:=Nat.lt_of_lt_of_le rQ (Nat.le_of_lt (zG.1 aF).1);generalize Jh k2 i2 o2 x.1.k x.1.i x.1.o=L at *;replace hI:=zH hI;replace hF:=zH hF;replace I0:=zH I0;cases L
  ·gi_wp2_with fail
   refine⟨trivial,fun h=>(by cases h),(CallsIn.inRound _ (callsIn_wide.2 (HL.out _))).mono ?_⟩;rintro e W2 ⟨rfl,dI⟩;have I2:=(hI.out.tw hBz (Tw.of_ext dI)).1;have M2:=(hI.out.tw hBz (Tw.of_ext dI)).2;have hF2:=hF.out.kept (W':=W2) ⟨dI.os,dI.tape,dI.output,dI.size,fun b hb hm=>⟨dI.block b hb,fun h=>hm (h.imp id fun h=>h.imp id (M2 b))⟩⟩;have kx2:=qa (qb aF dI);have ko2:=qa I2.ro;have au:(pre.map fun x:X3=>(x.1,Jo x)).length=pre.length:=List.length_map _;have aB:=I2.row.1;rw[au] at aB;obtain⟨Av,cv,rfl,-,-⟩:=qz aB;have zo2:w.heap.size+3<W2.heap.size:=(zG.1 I2.ro).1;have zB2:w3.heap.size+1<W2.heap.size:=Nat.lt_of_lt_of_le zB dI.size;replace I2:=zH I2;replace hF2:=zH hF2;replace hkx:=zH hkx;replace M2:=zH M2;clear kx kt
   gi_wp2_with (gi_at_builtin;refine Kk ?_)
   refine QC.go (Kj W2 rfl (.tmp 31) (.tmp 33) 47 rfl (w3.heap.size+2) 68 i0 _ 5 48 underlying47 hi ag aU aW rfl zD (.slice Av pre.length cv) pre.length _ zE aB (VC x.1 x.2.1 x.2.2) zE rfl zA7 zO zD zO ?_);intro v' W3 dH hg fG;have hP:=I2.out.push (x:=x) hBz zB2 hF2.out hkx.out ⟨dH,fG⟩ hg;have az:=QM aB;have hOS:W3.heap[w.heap.size+3]?=_:=(hg.block _ zo2 (fun e=>by have:=(az _ e.symm).1;omega)).trans I2.out.ro;obtain⟨Av',cv',rfl,-,-⟩:=qz dH;have ko3:=qa hOS;have fo3:=qe hOS;replace hP:=zH hP;clear aB dH hg fG az hOS kx2 ko2 hi ag aU aW
   gi_wp2_with fail
   refine⟨⟨ZG.trans ⟨dI.os,dI.tape,dI.output,dI.size,fun b hb hm=>⟨dI.block b hb,fun h=>hm (h.imp id fun h=>h.imp id (M2.out b))⟩⟩ hP.out.2.1,hP.out.2.2.1.trans (dI.block _ zO),hP.out.2.2.2.trans (dI.block _ zB)⟩,_,hP.out.1⟩
  ·gi_wp2_with fail
   refine⟨trivial,fun h=>(by cases h),(CallsIn.inRound _ (callsIn_wide.2 (HL.out _))).mono ?_⟩;rintro e W2 ⟨rfl,dI⟩;have I2:=(hI.out.tw hBz (Tw.of_ext dI)).1;replace I2:=zH I2;replace hkx:=zH hkx;clear kx kt
   gi_wp2_with fail
   exact⟨⟨dI.block _ zO,dI.block _ zB⟩,rfl,pre,x,v,rfl,hkx.out,I2.out⟩
 case done =>
  rintro ys W eX ⟨v,hI⟩ hD;have au:(ys.map fun x:X3=>(x.1,Jo x)).length=ys.length:=List.length_map _;have aB:=hI.row.1;rw[au] at aB;obtain⟨Av,cv,rfl,-,-⟩:=qz aB;have ko:=qa hI.ro;have fo:=qe hI.ro;replace I0:=zH I0;replace hI:=zH hI;replace hD:=zH hD;clear aB hi ag aU aW;replace eX:=zH eX;go_wp2_with fail;have aK:=qdi hI.out hBz hD.out (.slice Av ys.length cv);have rf:=qi hI.out.ro 0 (.slice Av ys.length cv);have df:=(zJ W ⟨w.heap.size+3,0,none⟩ (.slice Av ys.length cv) w3.heap.size zA1).trans hD.out;generalize aY:(World.setCell W _ _)=wf at *;have wV:(wf.putObj w3.heap.size (.deferred none)).heap[w.heap.size+3]?=_:=(World.putObj_heap_other zO).trans rf;have kf:=qa wV;refine⟨zA2,.inl ⟨_,_,rfl,run_takeDeferred df,.tuple #[.slice Av ys.length cv,.int .i64 0],?_,_,rfl,⟨_,_,rfl,?_,aK.1,aK.2.1⟩,aK.2.2⟩⟩
  ·simp[results,results58,go_sem,kf]
  ·rw[List.map_map,qeW fun y hy=>?_,<-eX.out]
   ·rfl
   ·rw[<-eX.out] at hy;obtain⟨x,hx,rfl⟩:=List.mem_map.1 hy;exact hI.out.le x hx
 case stop =>
  rintro ys rest W eX ⟨pre',x,v,rfl,hlt,hI⟩ hD;have au:(pre'.map fun x:X3=>(x.1,Jo x)).length=pre'.length:=List.length_map _;have aB:=hI.row.1;rw[au] at aB;obtain⟨Av,cv,rfl,-,-⟩:=qz aB;have ko:=qa hI.ro;have fo:=qe hI.ro;replace I0:=zH I0;replace hI:=zH hI;replace hD:=zH hD;clear aB hi ag aU aW;replace eX:=zH eX;replace hlt:=zH hlt
  gi_wp2
  go_wp2_with fail;have aK:=qdi hI.out hBz hD.out (.slice Av pre'.length cv);have rf:=qi hI.out.ro 0 (.slice Av pre'.length cv);have df:=(zJ W ⟨w.heap.size+3,0,none⟩ (.slice Av pre'.length cv) w3.heap.size zA1).trans hD.out;generalize aY:(World.setCell W _ _)=wf at *;have wV:(wf.putObj w3.heap.size (.deferred none)).heap[w.heap.size+3]?=_:=(World.putObj_heap_other zO).trans rf;have kf:=qa wV;refine⟨zA2,.inl ⟨_,_,rfl,run_takeDeferred df,.tuple #[.slice Av pre'.length cv,.int .i64 0],?_,_,rfl,⟨_,_,rfl,?_,aK.1,aK.2.1⟩,aK.2.2⟩⟩
  ·simp[results,results58,go_sem,kf]
  ·have hys':=eX.out;rw[List.map_append,List.append_assoc] at hys';rw[List.map_map,qdD (pre:=pre'.map (·.1)) (rest:=rest) (x:=x.1) aN.out hys'.symm (fun y hy=>?_) hlt.out]
   ·rfl
   ·obtain⟨z,hz,rfl⟩:=List.mem_map.1 hy;exact hI.out.le z hz
end Go.Proofs.YtpbniokljofedaaGreat
namespace Go.Proofs.YtpbniokljofedaaGreat
open Go.RowKit
def JP (S:Sto) (root:Int) (K K2:K3):List It:=match qu S root.toNat with
 |none=>[]
 |some (lvl,xs)=>vG S lvl.toNat K K2 xs
theorem vC.mono {base base' lo lo':Nat} {w:World} {v:Value} {ps:List (It×Value)} (h:vC base lo w v ps) (hb:base'<=base) (hl:lo'<=lo):vC base' lo' w v ps:=
 ⟨QG h.1 hb,fun p hp=>⟨⟨(h.2 p hp).1.1,(h.2 p hp).1.2.mono hl⟩,(h.2 p hp).2⟩⟩
def RangeQ (lo:Nat) (zs:List It) (u:Value) (W:World):Prop:=∃ (ps:List (It×Value)) (v:Value),u=.tuple #[v,.int .i64 0]/\ps.map (·.1)=zs/\vC lo lo W v ps/\∀ p∈ps,Nz W p.2
def VRangeQ (S:Sto) (root next:Int) (dead:List Int) (id:Int) (K K2:K3) (w:World) (e:Ending) (w':World):Prop:=Below w.heap.size w w' /\
 ((e=.returned (.tuple #[.slice none 0 0,.int .i64 8])/\zj S root next dead) \/
  ∃ vs u,JK S root next dead vs/\e=.returned u/\match Qr vs id with
   |none=>u=.tuple #[.slice none 0 0,.int .i64 6]
   |some v=>RangeQ w.heap.size (JP S v.root K K2) u w')
theorem TE {R:Ending->World->Prop} {a:Act} {W:World} {u v:Value} (h8:a.tmps[8]?.getD undef=u) (h9:a.tmps[9]?.getD undef=v) (hd:a.defers=[]) (hR:R (.returned (.tuple #[u,v])) W):bodyPost prog Tryz.f78 R .ret a W:=by refine bodyPost_ret (v:=.tuple #[u,v]) ?_ hd hR;simp[results,results78,go_sem,h8,h9]
set_option maxRecDepth 100000 in
theorem qip (A1:Option Addr) (n1 c1:Nat) (A2:Option Addr) (n2 c2:Nat) (A3:Option Addr) (n3 c3:Nat) (A4:Option Addr) (n4 c4:Nat) (gen root next:Int) (A5:Option Addr) (c5:Nat) (S:Sto) (dead:List Int) (id k i o k2 i2 o2:Int) (w:World) (h:qU w w.heap.size (.slice A1 n1 c1) (.slice A2 n2 c2) (.slice A3 n3 c3) (.slice A4 n4 c4) S) (hd:Zw w w.heap.size (.slice A5 dead.length c5) dead):Calls prog 78 #[.agg (qF (.slice A1 n1 c1) (.slice A2 n2 c2) (.slice A3 n3 c3) (.slice A4 n4 c4) gen root next (.slice A5 dead.length c5)),.int .u32 id,Tq k i o,Tq k2 i2 o2] w (VRangeQ S root next dead id (k,i,o) (k2,i2,o2) w):=by
 have HT:=zH (fun W (hx:Ext w W)=>Kr A1 n1 c1 A2 n2 c2 A3 n3 c3 A4 n4 c4 gen root next A5 c5 S dead id W (h.ext hx) (by obtain⟨A,c,e,q1,q2,q3⟩:=hd;exact⟨A,c,e,q1,q2,(q3.below hx).more hx.size⟩));have HF:=zH (fun W (hx:Ext w W) (hS:qm S=true) a lvl xs ha aj hn aN=>qko A1 n1 c1 A2 n2 c2 A3 n3 c3 A4 n4 c4 S hS a lvl xs ha aj hn aN k i o k2 i2 o2 W (h.ext hx));clear h hd;go_enter func78,ntmps78;go_wp2_with fail;generalize aA:(World.alloc (World.alloc (World.alloc w _) _) _)=w1;have x1:Ext w w1:=by rw[<-aA];exact((zN _ _).trans (zN _ _)).trans (zN _ _)
 have lQ:w1.heap[w.heap.size]?=some (.cells (qF (.slice A1 n1 c1) (.slice A2 n2 c2) (.slice A3 n3 c3) (.slice A4 n4 c4) gen root next (.slice A5 dead.length c5)) 32 (0,0)):=by rw[<-aA];exact(zK _ _ _ zA1).trans ((zK _ _ _ zA2).trans (zI _ _ _ rfl))
 have rk1:w1.heap[w.heap.size+1]?=some (.cells #[.int .u8 k,.int .u32 i,.int .u32 o] 66 (0,0)):=by rw[<-aA];exact(zK _ _ _ zA2).trans (zI _ _ _ zA2)
 have rt1:w1.heap[w.heap.size+2]?=some (.cells #[.int .u8 k2,.int .u32 i2,.int .u32 o2] 66 (0,0)):=by rw[<-aA];exact zI _ _ _ zA2
 clear aA;refine(HT.out w1 x1).mono ?_;clear HT;rintro e w2 ⟨hB,hQ⟩;have x2:Ext w w2:=Ext.trans x1 hB;have eP:=qb lQ hB;have rk2:=qb rk1 hB;have rt2:=qb rt1 hB;have z2:w.heap.size+2<w2.heap.size:=(zG.1 rt2).1;have z20:w.heap.size<w2.heap.size:=zO;have z21:w.heap.size+1<w2.heap.size:=zO;clear hB x1 lQ rk1 rt1;rcases hQ with ⟨rfl,aX⟩|⟨vs,refs,nodes,hp,lD,xB,rfl⟩
 ·replace aX:=zH aX;replace x2:=zH x2;go_wp2_with fail;exact TE rfl rfl rfl ⟨x2.out.trans (zN _ _),.inl ⟨rfl,aX.out⟩⟩
 ·have hok:=zH (⟨refs,nodes,hp,lD,xB⟩:JK S root next dead vs);replace hp:=zH hp;clear lD xB;rcases hv:Qr vs id with _|v
  ·unfold volQ;replace hv:=zH hv;replace x2:=zH x2;go_wp2_with fail;exact TE rfl rfl rfl ⟨x2.out.trans (zN _ _),.inr ⟨vs,_,hok.out,rfl,by rw[hv.out];rfl⟩⟩
  ·unfold volQ;obtain⟨a,ha,ht⟩:=qdk hp.out (JI hv);obtain⟨h8,h256,lvl,xs,hn,aN⟩:=ht;have hfs:JP S v.root (k,i,o) (k2,i2,o2)=vG S lvl (k,i,o) (k2,i2,o2) xs:=by unfold JP;rw[ha,Int.toNat_natCast,hn];simp
   have HFF:=zH (fun W hx=>HF.out W hx hp.out.may a lvl xs h8 h256 hn aN);have uy:=qa eP;have kk2:=qa rk2;have kt2:=qa rt2;replace hv:=zH hv;replace hfs:=zH hfs;replace ha:=zH ha;clear hn aN HF;go_wp2_with fail;generalize aO:(World.alloc w2 _)=w3;have dO:Ext w2 w3:=by rw[<-aO];exact zN _ _
   clear aO;have dL:=HFF.out w3 (x2.trans dO);rw[<-ha.out] at dL;refine dL.mono ?_;clear dL HFF;rintro e w4 ⟨u,rfl,⟨ps,q,rfl,au,hR,hz⟩,hB⟩;have x4:Ext w w4:=(x2.trans dO).trans hB;have hQ:RangeQ w.heap.size (JP S v.root (k,i,o) (k2,i2,o2)) (.tuple #[q,.int .i64 0]) w4:=⟨ps,q,rfl,by rw[hfs.out];exact au,hR.mono (x2.trans dO).size (x2.trans dO).size,hz⟩
   replace hQ:=zH hQ;replace x4:=zH x4;clear uy kk2 kt2 eP rk2 rt2 hB dO x2 z2 z20 z21 hR hz au;go_wp2_with fail;exact TE rfl rfl rfl ⟨x4.out,.inr ⟨vs,_,hok.out,rfl,by rw[hv.out];exact hQ.out⟩⟩
theorem qhT {S T X:Sto} (m:SM S X) (m':SM T X) {a:Int} (h:okL S (-1) a=true) (h':okL T (-1) a=true) (K K2:K3):JP T a K K2=JP S a K K2:=by obtain⟨n,rfl,-,-,lvl,xs,hn,hs⟩:=ZY h;obtain⟨n',e,-,-,sO,xs',hn',hs'⟩:=ZY h';obtain rfl:n=n':=zO;obtain⟨rfl,rfl,hi⟩:=qhr m m' hn hs hn' hs';unfold JP;rw[Int.toNat_natCast,hn,hn'];simp only[Int.toNat_natCast];unfold vG;rw[hi]
theorem qjg {S:Sto} {root next:Int} {dead:List Int} {vs:List Vol} (h:Qg S root next dead vs) {v:Vol} (hv:v∈vs):okL S (-1) v.root=true:=h.ok v.root (by unfold Zl;exact List.mem_append_right _ (List.mem_map.2 ⟨v,hv,rfl⟩))
theorem qkI {S T:Sto} {root next next':Int} {dead hQT:List Int} {vs vs':List Vol} (m:SM S T) (h:Qg S root next dead vs) (h':Qg T root next' hQT vs'):vs'=vs:=by obtain⟨a,rfl,-,-,lvl,xs,hn,hs⟩:=ZY h.top;have h1:=h.vols;have h2:=h'.vols;unfold vt at h1 h2;rw[Int.toNat_natCast] at h1 h2;rw[hn] at h1;rw[m.node _ _ hn] at h2;simp only[Int.toNat_natCast] at h1 h2;rw[m.items _ _ hs] at h2;rw[(XF h1).2,(XF h2).2]
structure qeH (S S':Sto) (root:Int) (r:Nat) (next:Int) (dead:List Int) (id:Int) (fz:Bool) (vs:List Vol) (v:Vol):Prop where
 pool:Qg S root next dead vs
 law:∃ refs nodes,qX S (Qs root dead vs) refs nodes/\QF S refs/\VolsL S root next vs refs
 vol:Qr vs id=some v
 new:JK S' (r:Int) (next+1) dead (XH (JS next v fz id) vs)
 same:∀ u∈vs,∀ K K2,JP S' u.root K K2=JP S u.root K K2
theorem qbM {S S':Sto} {root next:Int} {dead:List Int} {id:Int} {fz:Bool} {r:Nat} (hid:0<=id/\id<4294967296) (cZ:0<=next/\next<4294967296) (h:UQ S root next dead id fz r S'):∃ vs v,qeH S S' root r next dead id fz vs v:=by
 obtain⟨vs,refs,nodes,v,vs',hp,hc,he,hv,-,-,fK,hok,-⟩:=h;have hvm:=JI hv;have uu:=UG hp v hvm;have hvn:vD (JS next v fz id):=⟨cZ,uu.2.1,hid⟩
 have hpo:JK S' (r:Int) (next+1) dead vs':=by obtain⟨_,_,_,_,_,_,_,_,k⟩:=hok;exact k
 obtain⟨vsh,X,hph,gm,rfl,m,m'⟩:=hok.vols hvn;have mh:=(qdM fK).2.1;obtain rfl:=qkI mh hp hph;refine⟨vsh,v,⟨hp,⟨refs,nodes,hc,he,Gf hp hc he⟩,hv,hpo,fun u hu K K2=>?_⟩⟩;have hm:∃ u'∈XH (JS next v fz id) vsh,u'.root=u.root:=by have h1:=((Gf hp hc he).num u hu).2;unfold XH;exact⟨u,by simp[JS,hu,h1],rfl⟩
 obtain⟨u',hu',e⟩:=hm;have:=qjg gm hu';rw[e] at this;exact qhT (mh.trans m) m' (qjg hp hu) this K K2
theorem qeH.made {S S':Sto} {root next:Int} {dead:List Int} {id:Int} {fz:Bool} {r:Nat} {vs:List Vol} {v:Vol} (h:qeH S S' root r next dead id fz vs v):Qr (XH (JS next v fz id) vs) next=some (JS next v fz id):=ins_same (JS next v fz id) vs
theorem qeH.old {S S':Sto} {root next:Int} {dead:List Int} {id:Int} {fz:Bool} {r:Nat} {vs:List Vol} {v:Vol} (h:qeH S S' root r next dead id fz vs v) {u:Vol} (hu:u∈vs):Qr (XH (JS next v fz id) vs) u.id=some u:=by obtain⟨refs,nodes,_,_,hl⟩:=h.law;have h1:=(hl.num u hu).2;rw[qjU (show u.id≠(JS next v fz id).id by simp only[JS];omega) vs];exact find_id hl.rise hu
structure ChainP (S S2:Sto) (root:Int) (r2:Nat) (next:Int) (dead:List Int) (id:Int) (fz:Bool) (vs vs2:List Vol) (v:Vol):Prop where
 ok:JK S root next dead vs
 vol:Qr vs id=some v
 ok2:JK S2 (r2:Int) (next+1+1) dead vs2
 one:Qr vs2 next=some ⟨next,v.root,fz,id⟩
 two:Qr vs2 (next+1)=some ⟨next+1,v.root,!fz,next⟩
 old:∀ u∈vs,Qr vs2 u.id=some u
 all:∀ K K2,JP S2 v.root K K2=JP S v.root K K2
theorem qff {S S1 S2:Sto} {root next:Int} {dead:List Int} {id:Int} {fz:Bool} {r1 r2:Nat} (hid:0<=id/\id<4294967296) (cZ:0<=next/\next+1<4294967296) (h1:UQ S root next dead id fz r1 S1) (h2:UQ S1 (r1:Int) (next+1) dead next (!fz) r2 S2):∃ vs vs2 v,ChainP S S2 root r2 next dead id fz vs vs2 v:=by
 obtain⟨vs,v,p1⟩:=qbM hid ⟨cZ.1,zO⟩ h1;obtain⟨vs1,v1,p2⟩:=qbM ⟨cZ.1,zO⟩ ⟨zO,cZ.2⟩ h2;have nG:=p1.new;obtain⟨_,_,sD,_⟩:=nG;obtain rfl:=Qg.same sD p2.pool;have hv1:=p2.vol;rw[p1.made] at hv1;cases hv1;have hvm:=JI p1.vol;have hm1:JS next v fz id∈XH (JS next v fz id) vs:=by unfold XH;simp
 obtain⟨refs,nodes,hc,he,hl⟩:=p1.law;refine⟨vs,_,v,⟨⟨refs,nodes,p1.pool,hc,he⟩,p1.vol,p2.new,?_,p2.made,fun u hu=>?_,fun K K2=>?_⟩⟩
 ·exact p2.old hm1
 ·have h3:=(hl.num u hu).2;exact p2.old (show u∈XH (JS next v fz id) vs by unfold XH;simp[JS,hu,h3])
 ·exact(p2.same _ hm1 K K2).trans (p1.same v hvm K K2)
theorem qgo (k i o r:Int) (l:List UInt8):Yv k i o r k i o r l l=true:=by simp[Yv]
theorem jj {P:Program} {o:Oper} {a:Act} {W:World} {hh:Qa} {f:FuncId} {args:Array Value} (hr:(execOp a.eval o).run P W=.ok (.enter f args) W) (hc:Calls P f args W fun e w''=>∃ p,e=.returned (hh.f p)/\hh.φ p w''/\Ext W w''):QK qj P o a W hh:=by
 unfold QK;rw[hr];exact⟨Ext.refl W,hc⟩
set_option maxRecDepth 100000 in
theorem qbD (A A':Option Addr) (c c':Nat) (xs:List It) (hl:xs.length<1073741824) (w:World) (h:Its w w.heap.size (.slice A xs.length c) xs) (h':Its w w.heap.size (.slice A' xs.length c') xs):Calls prog 38 #[.slice A xs.length c,.slice A' xs.length c'] w (Ret (.bool true) w):=by
 have hA:=h.at_.2.2.2;have hA':=h'.at_.2.2.2;replace h:=zH h;replace h':=zH h';go_enter func38,ntmps38;go_wp2_with fail;go_loopw [5] (fun v wr=>∃ n:Nat,n<=xs.length/\v=.int .i64 (n:Int)/\Ext w wr) (fun v _=>xs.length-(intOf v).toNat)
 case atStart=>exact⟨0,Nat.zero_le _,rfl,Ext.refl _⟩
 case round =>
  obtain⟨n,hn,rfl,xr⟩:=hrel;by_cases hlt:n<xs.length
  ·obtain⟨b,off,rfl,hb⟩:=hA zO;obtain⟨b',off',rfl,hb'⟩:=hA' zO;obtain⟨A1,c1,d0,d1,d2,d3,d4,aQ⟩:=(h.out.ext xr).item n hlt;obtain⟨A2,c2,e0,e1,e2,e3,e4,yU⟩:=(h'.out.ext xr).item n hlt;generalize xs[n]=x at *;have aA:=zH (IntWalk.wrap64_in ((n:Int)+1) zO);have HC:=zH (fun W (hx:Ext wr W)=>qcR x.k x.i x.o x.r x.k x.i x.o x.r A1 A2 x.val.length c1 x.val.length c2 x.val x.val W ((aQ.below hx).more hx.size) ((yU.below hx).more hx.size));go_wp2_with fail;have g0:∀ W,qj.r wr W->W.cell? ⟨b,off+n*5,none⟩=some (.int .u8 x.k):=fun W h=>Ext.cell h d0;have g1:∀ W,qj.r wr W->W.cell? ⟨b,off+n*5+1,none⟩=some (.int .u32 x.i):=fun W h=>Ext.cell h d1;have g2:∀ W,qj.r wr W->W.cell? ⟨b,off+n*5+2,none⟩=some (.int .u32 x.o):=fun W h=>Ext.cell h d2;have g3:∀ W,qj.r wr W->W.cell? ⟨b,off+n*5+3,none⟩=some (.int .i64 x.r):=fun W h=>Ext.cell h d3;have g4:∀ W,qj.r wr W->W.cell? ⟨b,off+n*5+4,none⟩=some (.slice A1 x.val.length c1):=fun W h=>Ext.cell h d4;have k0:∀ W,qj.r wr W->W.cell? ⟨b',off'+n*5,none⟩=some (.int .u8 x.k):=fun W h=>Ext.cell h e0;have k1:∀ W,qj.r wr W->W.cell? ⟨b',off'+n*5+1,none⟩=some (.int .u32 x.i):=fun W h=>Ext.cell h e1;have k2:∀ W,qj.r wr W->W.cell? ⟨b',off'+n*5+2,none⟩=some (.int .u32 x.o):=fun W h=>Ext.cell h e2;have k3:∀ W,qj.r wr W->W.cell? ⟨b',off'+n*5+3,none⟩=some (.int .i64 x.r):=fun W h=>Ext.cell h e3;have k4:∀ W,qj.r wr W->W.cell? ⟨b',off'+n*5+4,none⟩=some (.slice A2 x.val.length c2):=fun W h=>Ext.cell h e4;clear d0 d1 d2 d3 d4 e0 e1 e2 e3 e4 aQ yU;refine qp zQ ?_;refine qQ (w:=wr) qj (qH [(8,one (.bool true))]) [true,true,true,true,true,true,true,true,true,true] 0 zQ zQ zQ zQ zQ zQ zQ ?st (Rel.drew _ _) ?walk
   case st=>exact qk (by simp only[List.forall_mem_cons];exact⟨fun p=>QI (Zn _ p),fun _ h=>by cases h⟩)
   case walk =>
    intro K hK;dsimp only[qt];repeat ((first|(refine qd ?_ zA0 zA0 (fun W hW _=>⟨W,?_,Rel.refl _ W⟩) ?_;rotate_left;(go_simp<;>with_reducible rfl))|(refine qh zA0 ?_));try simp only[Act.put,ql,qg,qc,qf,ql,zA,zB,zC])
    refine qw (one (.bool true)) zA0 zA0 (fun W hW _=>?_) (fun (p:Unit)=>?_)
    ·refine jj ?_ ((HC.out W hW).mono fun e w' h=>⟨(),by rw[h.1,qgo];rfl,trivial,h.2⟩);go_simp
    simp only[Act.put,ql,qc,qf,ql,zA,zB,zC];repeat ((first|(refine qd ?_ zA0 zA0 (fun W hW _=>⟨W,?_,Rel.refl _ W⟩) ?_;rotate_left;(go_simp<;>with_reducible rfl))|(refine qh zA0 ?_));try simp only[Act.put,ql,qg,qc,qf,ql,zA,zB,zC])
    refine qv (hK _ _ fun W hW hF=>?_);clear hF hK g0 g1 g2 g3 g4 k0 k1 k2 k3 k4;have xW:Hid (Ext w W):=zH (xr.trans hW);have bT:=aA.out;refine zB5 ?_;go_wp2;refine Qo ?_;go_wp2_with fail;refine⟨⟨n+1,hlt,rfl,xW.out⟩,?_⟩;simp[intOf];omega
  ·obtain rfl:n=xs.length:=zO;go_wp2_with fail;refine bodyPost_ret (v:=.bool true) ?_ rfl ⟨rfl,xr⟩;simp[results,results38,go_sem]
def Tb (S:Sto) (root:Int):List It:=JP S root (0,0,0) (255,4294967295,4294967295)
theorem qkp (S:Sto) (root:Int) (K K2:K3):(JP S root K K2).length<=15625:=by
 unfold JP;split
 ·simp
 ·rename_i lvl xs hn;obtain⟨hm1,-,-⟩:=qN hn;have h1:xs.length<=5:=by unfold Qb ZR at hm1;simp at hm1;omega
  have h2:lvl.toNat<=5:=by unfold Qb ZR at hm1;simp at hm1;omega
  exact Nat.le_trans (List.length_filter_le _ _) (Nat.le_trans (UY (S:=S) lvl.toNat xs h1) (show 5 ^ (lvl.toNat+1)<=5 ^ 6 from Nat.pow_le_pow_right zO zO))
def AllQ (S:Sto) (root next:Int) (dead:List Int) (id:Int) (w:World) (e:Ending) (w':World):Prop:=Below w.heap.size w w' /\
 ((e=.returned (.slice none 0 0)/\zj S root next dead) \/
  ∃ vs,JK S root next dead vs/\((Qr vs id=none/\e=.returned (.slice none 0 0))\/∃ v A c,Qr vs id=some v/\e=.returned (.slice A (Tb S v.root).length c)/\Its w' w'.heap.size (.slice A (Tb S v.root).length c) (Tb S v.root)))
set_option maxRecDepth 100000 in
theorem qcC (A1:Option Addr) (n1 c1:Nat) (A2:Option Addr) (n2 c2:Nat) (A3:Option Addr) (n3 c3:Nat) (A4:Option Addr) (n4 c4:Nat) (gen root next:Int) (A5:Option Addr) (c5:Nat) (S:Sto) (dead:List Int) (id:Int) (w:World) (h:qU w w.heap.size (.slice A1 n1 c1) (.slice A2 n2 c2) (.slice A3 n3 c3) (.slice A4 n4 c4) S) (hd:Zw w w.heap.size (.slice A5 dead.length c5) dead):Calls prog 39 #[.agg (qF (.slice A1 n1 c1) (.slice A2 n2 c2) (.slice A3 n3 c3) (.slice A4 n4 c4) gen root next (.slice A5 dead.length c5)),.int .u32 id] w (AllQ S root next dead id w):=by
 have HR:=zH (fun W (hx:Ext w W)=>qip A1 n1 c1 A2 n2 c2 A3 n3 c3 A4 n4 c4 gen root next A5 c5 S dead id 0 0 0 255 4294967295 4294967295 W (h.ext hx) (hd.ext_ hx));clear h hd;generalize hQ:AllQ S root next dead id w=Q
 replace hQ:=zH hQ;go_enter func39,ntmps39;go_wp2_with fail;generalize aA:World.alloc w _=w1;have x1:Ext w w1:=by rw[<-aA];exact zN _ _
 clear aA;refine(HR.out w1 x1).mono ?_;clear HR;rintro e w2 ⟨hB,hq⟩;have x2:=zH (x1.trans hB);rcases hq with ⟨rfl,ae⟩|⟨vs,u,hok,rfl,hm⟩
 ·replace ae:=zH ae;go_wp2_with fail;rw[<-hQ.out];exact⟨x2.out,.inl ⟨rfl,ae.out⟩⟩
 ·replace hok:=zH hok;rcases hv:Qr vs id with _|v
  ·rw[hv] at hm;simp only at hm;subst hm;replace hv:=zH hv;go_wp2_with fail;rw[<-hQ.out];exact⟨x2.out,.inr ⟨vs,hok.out,.inl ⟨hv.out,rfl⟩⟩⟩
  ·rw[hv] at hm;simp only at hm;obtain⟨ps,q,rfl,au,hr,-⟩:=hm;obtain⟨aJ,A,c,rfl⟩:=hr.its (zM _);have hl:ps.length=(Tb S v.root).length:=by rw[<-List.length_map (f:=(·.1)),au];rfl
   have hi2:=zH (show Its w2 w2.heap.size (.slice A (Tb S v.root).length c) (Tb S v.root) by have:=aJ.its;rw[au,hl] at this;exact this);rw[hl];clear hl aJ hr au hB x1;generalize hz:(Tb S v.root).length=nz;replace hz:=zH hz;replace hv:=zH hv;go_wp2_with fail;rw[<-hQ.out];refine⟨x2.out,.inr ⟨vs,hok.out,.inr ⟨v,A,c,hv.out,?_,hi2.out⟩⟩⟩;rw[hz.out];rfl
def frzV (v:Vol) (fz:Bool):Vol:=⟨v.id,v.root,fz,v.frm⟩
end Go.Proofs.YtpbniokljofedaaGreat
