/- Lemmas of the proof. -/
import Derived.Test.YtmeadnlmepcmbaaGreatZT24
set_option linter.all false
set_option maxHeartbeats 8000000
open Go.Proofs.Tryz
open Go.Value renaming slice→s,int→E,pointer→O,tuple→Od
open Option renaming some→D,none→F
open Go.Obj renaming cells→U
open Go renaming World→Y,Value→Oe
open Go.World renaming alloc→Z
open Go.IntKind renaming i64→Oa
open Bool renaming true→Ob
open Go.Ending renaming returned→Oc
namespace Go.Proofs.YtmeadnlmepcmbaaGreat
open Go.RowKit
variable {B n gf lo:Nat}{W W' w w':World}{assign body:Code}{Q:Exit->Act->World->Prop}{a:Act}{lb:Array Value}{v v':Value}{l:List UInt8}{e:TypeId}{xs:List Value}{x:X3}{K:K3}{pre:List X3}
def MX(B:Nat)(M0:Y->Nat->Prop)(W:Y)(b:Nat):Prop:=b=B\/b=B+1\/M0 W b
structure Tw(B:Nat)(W W':Y):Prop where
 os:W'.os=W.os
 tape:W'.tape=W.tape
 output:W'.output=W.output
 size:W.heap.size<=W'
 same:∀k,k<W.heap.size->k≠B->k≠B+1->W'.heap[k]?=W.heap[k]?
theorem Tw.of_ext(h:Ext W W'):Tw B W W':=⟨h.os,h.tape,h.output,h.size,λk hk _ _=>h.block k hk⟩
theorem Tw.put(W:Y)(o:Obj):Tw B W (W.putObj (B+1) o):=⟨rfl,rfl,rfl,by simp[World.putObj],λk _ _ h=>World.putObj_heap_other h⟩
def roundX(B:Nat)(M0:Y->Nat->Prop)(I Ix:List X3->Y->Prop)(xs:List X3)(W:Y):Exit->Act->Y->Prop
 |.normal,_,W'=>(jh (MX B M0) W W'/\W'.heap[B]?=W.heap[B]?/\W'.heap[B+1]?=W.heap[B+1]?)/\I xs W'
 |.exit id,_,W'=>(W'.heap[B]?=W.heap[B]?/\W'.heap[B+1]?=W.heap[B+1]?)/\id=0/\Ix xs W'
 |_,_,_=>False
theorem qin{g:Operand}{p:Tmp}(hn:1<=n)(hg:a.eval g=.func (.func gf) #[] lb)(eg:∀args w,(callFunc gf args).run prog w=.ok (.enter gf args) w)(lo N:Nat)(M0:Y->Nat->Prop)(I Ix:List X3->Y->Prop)(zs:List It)(aQ:lo<=w)(hM:∀W b,M0 W b->lo<=b)(hI:∀pre W W',I pre W->Tw w W W'->I pre W'/\∀b,M0 W' b->M0 W b)(hIx:∀pre W W',Ix pre W->Tw w W W'->Ix pre W')(hlt:∀pre W b,I pre W->M0 W b->b<W.heap.size)(h0:I [] w)(hSO:∀(J Jx:List X3->Y->Prop)(W:Y),Ext w W->Gd lo (MX w M0) J Jx (↑w+1) N->J [] W ->
   CallsIn Fence.wide (n-1) prog gf (#[.func (.yield (↑w+1)) #[] #[]]++lb) W λe W'=>(∃v,e=Oc v)/\((∃xs:List X3,xs.map (·.1)=zs/\J xs W')\/∃(xs:List X3)(rest:List It),xs.map (·.1)++rest=zs/\Jx xs W'))
  (a1:Nat->X3->Act) (ty:TypeId)
  (hGX:∀(m:Nat)(x:X3)(W:Y)(K:Act->Y->Prop),K (a1 W x) (W.alloc (U (Xf x.1 x.2.1 x.2.2) ty)) ->
   assign.wpIn (Fence.wide.inRound (↑w+1)) m prog (Exit.then K (λ_ _ _=>False)) {tmps:=a.tmps.setIfInBounds p (encX x),defers:=[]} W)
  (hRH:∀(m:Nat)(pre:List X3)(x:X3)(bx:Nat)(W:Y),w.heap.size+1<bx->W.heap[bx]?=D (U (Xf x.1 x.2.1 x.2.2) ty)->¬M0 W bx->I pre W->FctX (MX w M0) lo x W->pre.length<N ->
   body.wpIn (Fence.wide.inRound (↑w+1)) m prog (roundX w M0 I Ix (pre++[x]) W) (a1 bx x) W)
  (hRX:∀(xs:List X3)(W:Y),xs.map (·.1)=zs->I xs W->W.heap[w.heap.size]?=D (.deferred (D []))->Q .normal {a with defers:={target:=.collected w,args:=#[]}::a.defers} W)
  (hVC:∀(xs:List X3)(rest:List It)(W:Y),xs.map (·.1)++rest=zs->Ix xs W->W.heap[w.heap.size]?=D (.deferred (D []))->(Code.exit 0).wpIn Fence.wide n prog Q {a with defers:={target:=.collected w,args:=#[]}::a.defers} W) :
  (Code.rangeFunc g #[p] assign body).wpIn Fence.wide n prog Q a w:=by
 obtain⟨B,hB⟩:∃B,B=w.heap.size:=⟨_,rfl⟩
 refine wpIn_rangeFunc λfn tN=>?_;obtain⟨R,hR⟩:∃R:LoopState->Option Code->Loop,R=λst pe=>{state:=st,pending:=pe,fn,tmps:=a.tmps,params:=#[p],assign,body,defers:=w.heap.size}:=⟨_,rfl⟩
 obtain⟨W1,hW1⟩:∃W1,(w.alloc (.deferred (D []))).alloc (.loop (R .ready F))=W1:=⟨_,rfl⟩
 have x1:Ext w W1:=by rw[<-hW1];exact(zN _ _).trans (zN _ _)
 have lq:W1.heap[w.heap.size+1]?=D (.loop (R .ready F)):=by
  rw[<-hW1];have:=World.alloc_heap_new (w.alloc (.deferred (D []))) (.loop (R .ready F))
  rwa [World.size_alloc]at this
 have hd1:W1.heap[w.heap.size]?=D (.deferred (D [])):=by rw[<-hW1];exact(zK _ _ _ zA3).trans (World.alloc_heap_new w _)
 have hI1:=(hI [] w W1 h0 (Tw.of_ext x1)).1;have KT:∀{pre:List X3}{W W':Y},I pre W->Tw w W W'->jh (MX w M0) W W':=λhi ht=>
  ⟨ht.os,ht.tape,ht.output,ht.size,λb hb hm=>⟨ht.same b hb (λe=>hm (.inl e)) (λe=>hm (.inr (.inl e))),λh=>hm (by
   rcases h with h|h|h
   exact .inl h;exact .inr (.inl h)
   ·exact .inr (.inr ((hI _ _ _ hi ht).2 b h)))⟩⟩
 have HC:Gd lo (MX w.heap.size M0) (λpre W=>I pre W/\W.heap[w.heap.size+1]?=D (.loop (R .ready F))/\W.heap[w.heap.size]?=D (.deferred (D [])))
   (λpre W=>Ix pre W/\W.heap[w.heap.size+1]?=D (.loop (R .done (D (.exit 0))))/\W.heap[w.heap.size]?=D (.deferred (D []))) (w.heap.size+1) N:=by
  refine⟨λW b h=>?_,λpre W b hJ h=>?_,λpre W W' hJ hx=>⟨⟨(hI _ _ _ hJ.1 (Tw.of_ext hx)).1,qb hJ.2.1 hx,qb hJ.2.2 hx⟩,λb h=>?_⟩,λm pre x W hJ hF hN=>?_⟩;rcases h with rfl|rfl|h
  exact aQ;omega;exact hM W b h;have:=(zG.1 hJ.2.1).1;rcases h with rfl|rfl|h
  omega;omega;exact hlt _ _ _ hJ.1 h;rcases h with h|h|h
  exact .inl h;exact .inr (.inl h);exact .inr (.inr ((hI _ _ _ hJ.1 (Tw.of_ext hx)).2 b h));obtain⟨hi,hl,hd⟩:=hJ;have hy:=run_yield (P:=prog) (args:=#[encX x]) hl (by rw[hR];rfl);rw[hR]at hy;have hy':(Instr.yield (↑w+1) #[encX x]).run prog W=.ok (.round (↑w+1) fn (a.tmps.setIfInBounds p (encX x)) assign body) W:=by rw[hy];simp
  clear hy;have hsz:w.heap.size+1<W:=(zG.1 hl).1;refine⟨fn,_,assign,body,hy',roundIn_of_wpIn tN ?_⟩;refine hGX m x W _ ?_;have xa:Ext W (W.alloc (U (Xf x.1 x.2.1 x.2.2) ty)):=zN _ _;have ra:(W.alloc (U (Xf x.1 x.2.1 x.2.2) ty)).heap[W.heap.size]?=D (U (Xf x.1 x.2.1 x.2.2) ty):=zI _ _ _ rfl;generalize W.alloc (U (Xf x.1 x.2.1 x.2.2) ty)=Wa at*;have hla:=qb hl xa;have hda:=qb hd xa;have hia:=hI _ _ _ hi (Tw.of_ext xa);refine⟨_,run_beginRound hla (by rw[hR]),?_⟩;have hla2:(Wa.putObj (↑w+1) (.loop {R .ready F with state:=.busy})).heap[w.heap.size+1]?=D (.loop {R .ready F with state:=.busy}):=World.putObj_heap_same (zG.1 hla).1;have hda2:(Wa.putObj (↑w+1) (.loop {R .ready F with state:=.busy})).heap[w.heap.size]?=D (.deferred (D [])):=(World.putObj_heap_other zO).trans hda;have tb:=Tw.put (B:=w.heap.size) Wa (.loop {R .ready F with state:=.busy});have hib:=hI _ _ _ hia.1 tb;have rb:(Wa.putObj (↑w+1) (.loop {R .ready F with state:=.busy})).heap[W.heap.size]?=_:=(World.putObj_heap_other zO).trans ra;have kb:jh (MX w M0) W (Wa.putObj (↑w+1) (.loop {R .ready F with state:=.busy})):=(KT hi (Tw.of_ext xa)).trans (KT hia.1 tb);have yO:¬M0 (Wa.putObj (↑w+1) (.loop {R .ready F with state:=.busy})) W:=λh=>by have:=hlt _ _ _ hi (hia.2 _ (hib.2 _ h));omega
  generalize Wa.putObj (w.heap.size+1) (.loop {R .ready F with state:=.busy})=Wb at*;refine wpIn_mono (hRH m pre x W.heap.size Wb hsz rb yO hib.1 (hF.kept kb) hN) ?_;rintro e a3 W3 hp;have fin:∀jump:Option Code,W3.heap[w.heap.size]?=Wb.heap[w.heap.size]?->W3.heap[w.heap.size+1]?=Wb.heap[w.heap.size+1]? ->
    (Instr.endRound (w.heap.size+1) jump).run prog W3=.ok (.bool jump.isNone) (W3.putObj (w.heap.size+1) (.loop (R (if jump.isNone then .ready else .done) jump))) /\
    (W3.putObj (w.heap.size+1) (.loop (R (if jump.isNone then .ready else .done) jump))).heap[w.heap.size+1]?=D (.loop (R (if jump.isNone then .ready else .done) jump)) /\
    (W3.putObj (w.heap.size+1) (.loop (R (if jump.isNone then .ready else .done) jump))).heap[w.heap.size]?=D (.deferred (D [])):=λjump e1 e2=>by
   have lu:=e2.trans hla2;have h1:=run_endRound (P:=prog) jump lu;rw[hR]at h1⊢;exact⟨h1,World.putObj_heap_same (zG.1 lu).1,(World.putObj_heap_other zO).trans (e1.trans hda2)⟩
  cases e with
  |normal=>
   obtain⟨⟨gy,e1,e2⟩,hi3⟩:=hp;obtain⟨f1,f2,f3⟩:=fin F e1 e2;have t3:=Tw.put (B:=w.heap.size) W3 (.loop (R .ready F));exact⟨_,_,f1,.inl ⟨rfl,⟨(hI _ _ _ hi3 t3).1,f2,f3⟩,(kb.trans gy).trans (KT hi3 t3)⟩⟩
  |exit id=>
   obtain⟨⟨e1,e2⟩,rfl,hi3⟩:=hp;obtain⟨f1,f2,f3⟩:=fin (D (.exit 0)) e1 e2;exact⟨_,_,f1,.inr ⟨rfl,hIx _ _ _ hi3 (Tw.put _ _),f2,f3⟩⟩
  |ret=>exact hp.elim
  |goto t=>exact hp.elim
  |panic ch=>exact hp.elim
  |outgrown=>exact hp.elim
 refine⟨w.heap.size+1,[{target:=.collected w.heap.size,args:=#[]}],W1,{target:=.fn (.func gf) lb,args:=#[.func (.yield (w.heap.size+1)) #[] #[]]},W1,gf,
  #[.func (.yield (w.heap.size+1)) #[] #[]]++lb,W1,?_,?_,?_,?_,λ_=>hn,?_⟩
 rw[<-hW1,hR];exact run_enterLoop_outer _ _ _ _ _
 ·simp only[resolve,hg];simp[go_sem]
 intro f' hf';exact trivial
 ·simp[invoke,go_sem,eg]
 refine(hSO _ _ W1 x1 HC ⟨hI1,lq,hd1⟩).mono ?_;rintro e W2 ⟨⟨v,rfl⟩,(⟨xs,hS,hi,hl,hd⟩|⟨xs,rest,hS,hi,hl,hd⟩)⟩;have h1:=run_endLoop (P:=prog) hl (by rw[hR];simp);rw[hR]at h1;exact⟨F,_,h1,hRX xs _ hS (hI _ _ _ hi (Tw.put _ _)).1 ((World.putObj_heap_other zO).trans hd)⟩;have h1:=run_endLoop (P:=prog) hl (by rw[hR];simp);rw[hR]at h1;exact⟨D (.exit 0),_,h1,hVC xs rest _ hS (hIx _ _ _ hi (Tw.put _ _)) ((World.putObj_heap_other zO).trans hd)⟩
theorem qfM(h:Bys W W v l)(hs:W.heap.size<=W')(hk:∀b o n c,v=s (D ⟨b,o,F⟩) n c->0<l.length->W'.heap[b]?=W.heap[b]?):Bys W' W' v l:=by obtain⟨A,c,e,hc,hm,hr⟩:=h;refine⟨A,c,e,hc,hm,hr.1,λhp=>?_⟩;obtain⟨b,off,rfl,hb,aF⟩:=hr.2 hp;exact⟨b,off,rfl,zO,λj u hu=>(World.cell?_of_block (w:=W) (hk b off _ _ e hp)).trans (aF j u hu)⟩
theorem qlh{base n size:Nat}(h:w.ownsRow base e size v n xs)(hk:∀g,v.ownBlock=D g->w'.heap[g]?=w.heap[g]?):w'.ownsRow base e size v n xs:=
 ⟨h.1,h.2.imp id λ⟨g,cap,cur,h1,h2,h3,h4⟩=>⟨g,cap,cur,h1,h2,(hk g (by rw[h1];rfl)).trans h3,h4⟩⟩
def M0(lo:Nat)(W:Y)(b:Nat):Prop:=b=lo+3\/∃v,W.cell? (lo+3,0)=D v/\v.ownBlock=b/\lo<=b
structure RgI(lo B:Nat)(K:K3)(w:Y)(pre:List X3)(v:Oe)(W:Y):Prop where
 ro:W.heap[lo+3]?=D (U #[v] 55)
 rt:W.heap[lo+2]?=D (U #[E .u8 K.1,E .u32 K.2.1,E .u32 K.2.2] 49)
 row:VE (B+2) lo W v (pre.map λx=>(x.1,JU x))
 nz:∀x∈pre,Nz W (JU x)
 off:∀x∈pre,∀b o,x.2.1=D ⟨b,o,F⟩->0<x.1.val.length->b≠lo+3/\b≠B/\b≠B+1
 le:∀x∈pre,Qg K (qw x.1)=false
 blw:Below lo w W
theorem nz_blk(hb:Bys W W (JU x) x.1.val)(h:Nz W (JU x))(hk:∀b o,x.2.1=D ⟨b,o,F⟩->0<x.1.val.length->W'.heap[b]?=W.heap[b]?):Nz W' (JU x):=λa n c e hn=>by
 obtain⟨cs,ty,hr⟩:=h a n c e hn;obtain⟨A,c',e1,-,-,h4⟩:=hb;simp only[JU,Value.slice.injEq]at e e1;obtain⟨b',off,e4,-,-⟩:=h4.2 zO;have e5:a=⟨b',off,F⟩:=by
  have:D a=D ⟨b',off,F⟩:=by rw[<-e.1,e1.1,e4]
  exact Option.some.inj this
 subst e5;exact⟨cs,ty,(hk b' off e.1 zO).trans hr⟩
theorem RgI.mem(h:RgI lo B K w pre v W)(hx:x∈pre):ZK lo (JU x)/\Bys W W (JU x) x.1.val/\XC v (JU x):=by have:=h.row.2 (x.1,JU x) (List.mem_map.2 ⟨x,hx,rfl⟩);exact⟨this.1.2,this.2.1,this.2.2⟩
theorem RgI.blk(h:RgI lo B K w pre v W)(hB:lo+3<B)(hs:W.heap.size<=W')(hk:∀b,b<W.heap.size->b≠B->b≠B+1->W'.heap[b]?=W.heap[b]?)(hb:Below lo w W'):RgI lo B K w pre v W':=by
 have cZ:∀x∈pre,∀b o,x.2.1=D ⟨b,o,F⟩->0<x.1.val.length->W'.heap[b]?=W.heap[b]?:=λx hx b o e hp=>by obtain⟨-,h2,h3⟩:=h.off x hx b o e hp;obtain⟨-,hy,-⟩:=h.mem hx;obtain⟨A,c,e1,-,-,hr⟩:=hy;obtain⟨b',o',e4,e5,-⟩:=hr.2 hp;simp only[JU,Value.slice.injEq]at e1;rw[e,e4]at e1;simp only[Option.some.injEq,Addr.mk.injEq]at e1;exact hk b zO h2 h3
 have z3:=(zG.1 h.ro).1;refine⟨(hk _ z3 zO zO).trans h.ro,(hk _ zO zO zO).trans h.rt,⟨qlh h.row.1 λg hg=>?_,λp hp=>?_⟩,λx hx=>nz_blk (h.mem hx).2.1 (h.nz x hx) (cZ x hx),h.off,h.le,hb⟩;have:=Qn h.row.1 g hg;exact hk g this.2 zO zO;obtain⟨x,hx,rfl⟩:=List.mem_map.1 hp;refine⟨(h.row.2 _ hp).1,qfM (h.mem hx).2.1 hs (λb o n c e hp'=>cZ x hx b o ?_ hp'),(h.row.2 _ hp).2.2⟩;simp only[JU,Value.slice.injEq]at e;exact e.1
theorem RgI.tw(h:RgI lo B K w pre v W)(hB:lo+3<B)(ht:Tw B W W'):RgI lo B K w pre v W'/\∀b,M0 lo W' b->M0 lo W b:=by
 have z3:=(zG.1 h.ro).1;refine⟨h.blk hB ht.size ht.same ?_,λb hb=>?_⟩;exact h.blw.trans ⟨ht.os,ht.tape,ht.output,ht.size,λk hk=>ht.same k zO zO zO⟩;rcases hb with hb|⟨v',h1,h2⟩
 exact .inl hb;have hs:W'.heap[((lo+3,0):Addr).block]?=W.heap[((lo+3,0):Addr).block]?:=ht.same (lo+3) z3 zO zO;rw[World.cell?_of_block hs]at h1;exact .inr ⟨v',h1,h2⟩
theorem RgI.lt(h:RgI lo B K w pre v W){b:Nat}(hb:M0 lo W b):b<W:=by
 rcases hb with rfl|⟨v',h1,h2,-⟩
 exact(zG.1 h.ro).1;rw[qa h.ro]at h1;cases h1;exact(Qn h.row.1 b h2).2
theorem RgI.push(h:RgI lo B K w pre v W)(hB:lo+3<B)(xg:B+1<W)(hF:FctX (MX B (M0 lo)) lo x W)(hl:Qg K (qw x.1)=false)(hD:Done (B+2) 51 5 W v (pre.length+1) (qD (pre.map λx=>(x.1,JU x))++qbj x.1 (JU x)) v' W')(hg:W.grownBy W' v.ownBlock):RgI lo B K w (pre++[x]) v' (W'.setCell (lo+3,0) v')/\(jh (MX B (M0 lo)) W (W'.setCell (lo+3,0) v')/\(W'.setCell (lo+3,0) v').heap[B]?=W.heap[B]?/\(W'.setCell (lo+3,0) v').heap[B+1]?=W.heap[B+1]?):=by
 have z3:=(zG.1 h.ro).1;have ax:=Qn h.row.1;have hxo:∀b o,x.2.1=D ⟨b,o,F⟩->0<x.1.val.length->b≠lo+3/\b≠B/\b≠B+1/\v.ownBlock≠D b:=λb o e hp=>by have hm:=hF.own b o e hp;refine⟨λe=>hm (.inr (.inr (.inl e))),λe=>hm (.inl e),λe=>hm (.inr (.inl e)),λe'=>hm (.inr (.inr (.inr ⟨v,qa h.ro 0,e',?_⟩)))⟩;have:=hF.fr ⟨b,o,F⟩ _ _ (by rw[<-e]);exact this
 have dW:XC v (JU x):=λa n c e hn=>by
  obtain⟨A,c',e1,-,-,h4⟩:=hF.by_;simp only[JU,Value.slice.injEq]at e e1;obtain⟨b',off,e4,-,-⟩:=h4.2 zO;have e5:a=⟨b',off,F⟩:=by
   have:D a=D ⟨b',off,F⟩:=by rw[<-e.1,e1.1,e4]
   exact Option.some.inj this
  subst e5;exact(hxo b' off e.1 zO).2.2.2
 have hR:=h.row.push x.1 x.2.1 x.2.2 hF.by_ hF.fr dW rfl (by rw[List.length_map];exact hD) hg;have uT:W'.heap[lo+3]?=D (U #[v] 55):=(hg.block _ z3 (λe=>by have:=ax _ e.symm;omega)).trans h.ro;have aJ:∀b,b<W.heap.size->b≠lo+3->v.ownBlock≠D b->(W'.setCell (lo+3,0) v').heap[b]?=W.heap[b]?:=λb hb h1 h2=>(zJ _ _ _ _ h1).trans (hg.block b hb λe=>h2 e.symm);have hoff:∀y∈pre++[x],∀b o,y.2.1=D ⟨b,o,F⟩->0<y.1.val.length->b≠lo+3/\b≠B/\b≠B+1:=λy hy b o e hp=>by
  rcases List.mem_append.1 hy with hy|hy
  exact h.off y hy b o e hp;obtain rfl:y=x:=by simpa using hy
  exact⟨(hxo b o e hp).1,(hxo b o e hp).2.1,(hxo b o e hp).2.2.1⟩
 have hsz:(W'.setCell (lo+3,0) v').heap.size=W':=zA3;refine⟨⟨qi uT 0 _,(aJ _ zO zO (λe=>by have:=ax _ e;omega)).trans h.rt,?_,?_,hoff,?_,?_⟩,⟨?_,?_⟩⟩;rw[List.map_append];refine⟨VQ hR.1 zA2 _,λp hp=>?_⟩;have hp':=hR.2 p hp;refine⟨hp'.1,?_,hp'.2.2⟩;obtain⟨y,hy,rfl⟩:∃y∈pre++[x],(y.1,JU y)=p:=by
  rcases List.mem_append.1 hp with hp|hp
  obtain⟨y,hy,e⟩:=List.mem_map.1 hp;exact⟨y,List.mem_append_left _ hy,e⟩;exact⟨x,zA3,(by simpa using hp:p=(x.1,JU x)).symm⟩
 refine qfM hp'.2.1 zA3 (λb o n c e fG=>zJ _ _ _ _ ?_);simp only[JU,Value.slice.injEq]at e;exact(hoff y hy b o e.1 fG).1;have:=qlb h.row (λp hp=>by obtain⟨y,hy,rfl⟩:=List.mem_map.1 hp;exact h.nz y hy) (x:=x.1) hF.nz dW hg ⟨lo+3,0,F⟩ v';intro y hy;refine this (y.1,JU y) ?_;rcases List.mem_append.1 hy with hy|hy
 exact List.mem_append_left _ (List.mem_map.2 ⟨y,hy,rfl⟩);obtain rfl:y=x:=by simpa using hy
 simp;intro y hy;rcases List.mem_append.1 hy with hy|hy
 exact h.le y hy;obtain rfl:y=x:=by simpa using hy
 exact hl;exact h.blw.trans (Below.setCell ((Below.refl lo W).grown hg zO (λk hk=>by have:=ax k hk;omega)) (p:=⟨lo+3,0,F⟩) zA3 _);refine⟨hg.os,hg.tape,hg.output,by rw[hsz];exact hg.size,λb hb hm=>?_⟩;have h1:b≠lo+3:=λe=>hm (.inr (.inr (.inl e)));have h2:v.ownBlock≠D b:=λe=>hm (.inr (.inr (.inr ⟨v,qa h.ro 0,e,by have:=ax b e;omega⟩)));refine⟨aJ b hb h1 h2,λh'=>?_⟩;rcases h' with h'|h'|h'|⟨u,hu,h3,-⟩
 exact hm (.inl h');exact hm (.inr (.inl h'));exact h1 h';rw[qa (qi uT 0 v')]at hu;cases hu;replace h3:v'.ownBlock=D b:=h3;rcases hD.2 with h4|⟨g,h4,h5⟩
 exact h2 (h4▸h3);rw[h4]at h3;cases h3;omega;exact⟨aJ B zO zO (λe=>by have:=ax _ e;omega),aJ (B+1) xg zO (λe=>by have:=ax _ e;omega)⟩
theorem qff(h:RgI w B K w pre v W)(hB:w.heap.size+3<B)(hD:W.heap[B]?=D (.deferred (D [])))(u:Oe):VE w w ((W.setCell (w,3,0) u).putObj B (.deferred F)) v (pre.map λx=>(x.1,JU x))/\(∀p∈pre.map λx:X3=>(x.1,JU x),Nz ((W.setCell (w,3,0) u).putObj B (.deferred F)) p.2)/\Below w w ((W.setCell (w,3,0) u).putObj B (.deferred F)):=by
 have hk:∀b,b≠w.heap.size+3->b≠B->((W.setCell (w,3,0) u).putObj B (.deferred F)).heap[b]?=W.heap[b]?:=λb h1 h2=>(World.putObj_heap_other h2).trans (zJ _ _ _ _ h1);have hs:((W.setCell (w,3,0) u).putObj B (.deferred F)).heap.size=W:=by simp[World.putObj]
 have cZ:∀x∈pre,∀b o,x.2.1=D ⟨b,o,F⟩->0<x.1.val.length->((W.setCell (w,3,0) u).putObj B (.deferred F)).heap[b]?=W.heap[b]?:=λx hx b o e hp=>hk b (h.off x hx b o e hp).1 (h.off x hx b o e hp).2.1;refine⟨⟨QC (qlh h.row.1 λg hg=>?_) zO,λp hp=>?_⟩,λp hp=>?_,?_⟩;have:=Qn h.row.1 g hg;exact hk g zO zO;obtain⟨x,hx,rfl⟩:=List.mem_map.1 hp;refine⟨(h.row.2 _ hp).1,qfM (h.mem hx).2.1 (by rw[hs];exact zM _) (λb o n c e hp'=>cZ x hx b o ?_ hp'),(h.row.2 _ hp).2.2⟩;simp only[JU,Value.slice.injEq]at e;exact e.1;obtain⟨x,hx,rfl⟩:=List.mem_map.1 hp;exact nz_blk (h.mem hx).2.1 (h.nz x hx) (cZ x hx);exact h.blw.trans ⟨rfl,rfl,rfl,by rw[hs];exact zM _,λk hk'=>hk k zO zO⟩
theorem qaz{S:Sto}:∀(h:Nat)(xs:List It),xs.length<=5->(qu S h xs).length<=5^(h+1)
 |0,xs,hl=>by simpa [qu]using hl
 |h+1,xs,hl=>by
  rw[Ze];have key:∀l:List It,(l.flatMap λy=>match qo S y.r.toNat with|none=>[]|some (_,ys)=>qu S h ys).length<=l.length*5^(h+1):=by
   intro l;induction l with
   |nil=>simp
   |cons y r ih=>
    rw[List.flatMap_cons,List.length_append,List.length_cons,Nat.add_mul,Nat.one_mul];have h1:(match qo S y.r.toNat with|none=>[]|some (_,ys)=>qu S h ys).length<=5^(h+1):=by
     rcases hn:qo S y.r.toNat with _|⟨lvl,ys⟩
     simp;have hm:=(qI hn).1;have:ys.length<=5:=by unfold Qj ZV at hm;simp at hm;omega
     exact qaz h ys this
    omega
  refine Nat.le_trans (key xs) ?_;rw[Nat.pow_succ 5 (h+1),Nat.mul_comm];exact Nat.mul_le_mul_left _ hl
end Go.Proofs.YtmeadnlmepcmbaaGreat
namespace Go.Proofs.YtmeadnlmepcmbaaGreat
open Go.RowKit
attribute [local go_sem] Oper.semAt_some
set_option maxRecDepth 100000 in
theorem qkx(A1:OA)(n1 c1:Nat)(A2:OA)(n2 c2:Nat)(A3:OA)(n3 c3:Nat)(A4:OA)(n4 c4:Nat)(a:Nat)(k i o:Int)(w:Y):Calls prog 134 #[Qo A1 n1 c1 A2 n2 c2 A3 n3 c3 A4 n4 c4,(a:Int),Uh k i o] w λe W=>e=Oc (.func (.func 178) #[] #[O w,O (w,2,0),O (w,1,0)]) /\
   W=((w.alloc (U #[s A1 n1 c1,s A2 n2 c2,s A3 n3 c3,s A4 n4 c4] 28)).alloc (U #[(a:Int)] 3)).alloc (U #[E .u8 k,E .u32 i,E .u32 o] 49):=by
 go_enter func134,ntmps134;go_wp2_with fail;go_ret;exact⟨rfl,rfl⟩
set_option maxRecDepth 100000 in
theorem qms(A1 n1 c1 A2 n2 c2 A3 n3 c3 A4 n4 c4)(S:Sto)(hS:qj S=Ob)(a lvl:Nat)(xs:List It)(ha:8<=a)(bC:a<256)(hn:qo S a=D ((lvl:Int),xs))(aK:(qz S lvl xs).isSome=Ob)(k i o k2 i2 o2:Int)(w:Y)(aJ:Qh w w (s A1 n1 c1) (s A2 n2 c2) (s A3 n3 c3) (s A4 n4 c4) S):Calls prog 68 #[Qo A1 n1 c1 A2 n2 c2 A3 n3 c3 A4 n4 c4,(a:Int),Uh k i o,Uh k2 i2 o2] w (zZ (λu W=>∃(ps:List (It×Oe))(v:Oe),u=Od #[v,E Oa 0]/\ps.map (·.1)=VG S lvl (k,i,o) (k2,i2,o2) xs/\VE w w W v ps/\∀p∈ps,Nz W p.2) w):=by
 have HCK:=zH (λW (hx:Ext w W)=>YZ A1 n1 c1 A2 n2 c2 A3 n3 c3 A4 n4 c4 S hS a ⟨ha,bC,lvl,xs,hn,aK⟩ W (aJ.ext hx));replace⟨aJ,hn,aK,hS⟩:=zH4 aJ hn aK hS;refine(callsIn_wide (n:=3)).1 ?_;refine callsIn_of_wp_marks func68 rfl trivial ?_ rfl;simp only[ntmps68,List.size_toArray,List.length_cons,List.length_nil,Nat.reduceAdd,Nat.reduceSub,Array.replicate_succ,Array.replicate_zero,List.push_toArray,List.append_toArray,List.nil_append,List.cons_append];refine wpIn_wide.2 ?_;go_wp2_with fail;generalize aA:(Z (Z (Z (Z w _) _) _) _)=w1;have x1:Ext w w1:=by rw[<-aA];exact(((zN _ _).trans (zN _ _)).trans (zN _ _)).trans (zN _ _)
 have rs1:w1.heap[w.heap.size]?=D (U #[s A1 n1 c1,s A2 n2 c2,s A3 n3 c3,s A4 n4 c4] 28):=by rw[<-aA];exact(zK _ _ _ zA2).trans ((zK _ _ _ (by simp;try omega)).trans ((zK _ _ _ zA3).trans (zI _ _ _ rfl)))
 have rf1:w1.heap[w.heap.size+1]?=D (U #[E .u8 k,E .u32 i,E .u32 o] 49):=by rw[<-aA];exact(zK _ _ _ (by simp;try omega)).trans ((zK _ _ _ zA3).trans (zI _ _ _ zA3))
 have rt1:w1.heap[w.heap.size+2]?=D (U #[E .u8 k2,E .u32 i2,E .u32 o2] 49):=by rw[<-aA];exact(zK _ _ _ zA3).trans (zI _ _ _ zA3)
 have ro1:w1.heap[w.heap.size+3]?=D (U #[s F 0 0] 55):=aA▸zI _ _ _ zA3;clear aA;refine(HCK.out w1 x1).mono ?_;clear HCK;rintro e w2 ⟨u,rfl,⟨m,rfl⟩,hB⟩;have x2:Ext w w2:=Ext.trans x1 hB;have rs2:=qb rs1 hB;have rf2:=qb rf1 hB;have rt2:=qb rt1 hB;have ro2:=qb ro1 hB;have z2:w.heap.size+3<w2:=(zG.1 ro2).1;clear rs1 rf1 rt1 ro1 hB x1;have ks2:=qa rs2;have kf2:=qa rf2;go_wp2_with fail;refine(qkx A1 n1 c1 A2 n2 c2 A3 n3 c3 A4 n4 c4 a k i o w2).mono ?_;rintro e w3 ⟨rfl,aP⟩;have x23:Ext w2 w3:=by rw[aP];exact((zN _ _).trans (zN _ _)).trans (zN _ _)
 have gs3:w3.heap[w2.heap.size]?=D (U #[s A1 n1 c1,s A2 n2 c2,s A3 n3 c3,s A4 n4 c4] 28):=by rw[aP];exact(zK _ _ _ zA2).trans ((zK _ _ _ zA3).trans (zI _ _ _ rfl))
 have gr3:w3.heap[w2.heap.size+1]?=D (U #[(a:Int)] 3):=by rw[aP];exact(zK _ _ _ zA3).trans (zI _ _ _ zA3)
 have gf3:w3.heap[w2.heap.size+2]?=D (U #[E .u8 k,E .u32 i,E .u32 o] 49):=by rw[aP];exact zI _ _ _ zA3
 have rt3:=qb rt2 x23;have ro3:=qb ro2 x23;have x3:Ext w w3:=x2.trans x23;have z3:w2.heap.size+2<w3:=(zG.1 gf3).1;clear aP ks2 kf2 rs2 rf2 rt2 ro2 x2 x23;go_wp2_with fail;have I0:RgI w w3 (k2,i2,o2) w [] (s F 0 0) w3:=⟨ro3,rt3,VE.nil _ _ _,(λ_ h=>by cases h),(λ_ h=>by cases h),(λ_ h=>by cases h),x3⟩
 have hBz:w.heap.size+3<w3:=zO;have hlen:(QZ S lvl (k,i,o) xs).length<=15625:=by
  have hmay:=(qI hn.out).1;have h1:xs.length<=5:=by unfold Qj ZV at hmay;simp at hmay;omega
  have h2:lvl<=5:=by unfold Qj ZV at hmay;simp at hmay;omega
  exact Nat.le_trans (List.length_filter_le _ _) (Nat.le_trans (qaz (S:=S) lvl xs h1) (show 5^(lvl+1)<=5^6 from Nat.pow_le_pow_right zO zO))
 obtain⟨i0,hi,aZ,aT,aX⟩:=info_parts Tryz.info_item;refine(wpIn_wide (n:=3)).1 ?_;refine qin (n:=3) zA1 (gf:=178) (lb:=#[O (D ⟨w2.heap.size,0,F⟩),O (D ⟨w2.heap.size+2,0,F⟩),O (D ⟨w2.heap.size+1,0,F⟩)]) rfl (enters_of func178 zQ rfl)
  w.heap.size (QZ S lvl (k,i,o) xs).length (M0 w.heap.size) (λpre W=>∃v,RgI w.heap.size w3.heap.size (k2,i2,o2) w pre v W)
  (λpre W=>∃pre' x v,pre=pre'++[x]/\Qg (k2,i2,o2) (qw x.1)=Ob/\RgI w.heap.size w3.heap.size (k2,i2,o2) w pre' v W) (QZ S lvl (k,i,o) xs) x3.size (λW b hb=>?_)
  (λpre W W' ⟨v,h⟩ ht=>⟨⟨v,(h.tw hBz ht).1⟩,(h.tw hBz ht).2⟩) (λpre W W' ⟨pre',x,v,h1,h2,h⟩ ht=>⟨pre',x,v,h1,h2,(h.tw hBz ht).1⟩) (λpre W b ⟨v,h⟩ hb=>h.lt hb) ⟨_,I0⟩ (λJ Jx W xW HC hJ=>?_)
  (λbx x=>{tmps:=#[Qo A1 n1 c1 A2 n2 c2 A3 n3 c3 A4 n4 c4,E Oa a,Uh k i o,Uh k2 i2 o2,O (D ⟨w.heap.size,0,F⟩),undef,O (D ⟨w.heap.size+1,0,F⟩),O (D ⟨w.heap.size+1+1,0,F⟩),O (D ⟨w.heap.size+1+1+1,0,F⟩),E Oa 0,
   E Oa m,E Oa 0,O (D ⟨bx,0,F⟩),Od #[E Oa m,E Oa 0],.agg #[s A1 n1 c1,s A2 n2 c2,s A3 n3 c3,s A4 n4 c4],E Oa a,Od #[E Oa m,E Oa 0],E Oa m,E Oa 0,E Oa 0,.bool false,undef,
   .agg #[s A1 n1 c1,s A2 n2 c2,s A3 n3 c3,s A4 n4 c4],E Oa a,.agg #[E .u8 k,E .u32 i,E .u32 o],.func (.func 178) #[] #[O (D ⟨w2.heap.size,0,F⟩),O (D ⟨w2.heap.size+2,0,F⟩),O (D ⟨w2.heap.size+1,0,F⟩)],
   encX x,undef,undef,undef,undef,undef,undef,undef,undef,undef],defers:=[]}) 51 ?assign ?body ?done ?stop
 rcases hb with rfl|⟨v,-,-,h⟩
 omega;exact h;have hIV:=aJ.out.below (x3.trans xW);refine(callsIn_wide (n:=3-1)).2 (qjC S hS.out k i o w.heap.size (w3.heap.size+1) _ _ J Jx A1 n1 c1 A2 n2 c2 A3 n3 c3 A4 n4 c4 HC w2.heap.size (w2.heap.size+2) (w2.heap.size+1) W (by have:=x3.size;have:=xW.size;omega) hIV (qb gs3 xW) (qb gf3 xW) a lvl xs (qb gr3 xW) ?_ ha bC hn.out aK.out (zM _) hJ);rintro(h|h|h|⟨v,h1,h2,-⟩);omega;omega;omega;rw[qa (qb ro3 xW)]at h1;cases h1;cases h2
 case assign=>
  intro m' x W K hK
  gi_wp2_with fail
  exact hK
 case body=>
  rintro m' pre x bx W gm aC yO ⟨v,hI⟩ hF hN;have HL:=zH (λW=>VN k2 i2 o2 x.1.k x.1.i x.1.o W);have hkx:Qg (k2,i2,o2) (qw x.1)=vJ k2 i2 o2 x.1.k x.1.i x.1.o:=rfl;have kx:=qa aC;have kt:=qa hI.rt;have zB:w3.heap.size+1<W:=Nat.lt_of_lt_of_le gm (Nat.le_of_lt (zG.1 aC).1);generalize vJ k2 i2 o2 x.1.k x.1.i x.1.o=L at*;replace⟨hI,hF,I0⟩:=zH3 hI hF I0;cases L
  ·gi_wp2_with fail
   refine⟨trivial,λh=>(by cases h),(CallsIn.inRound _ (callsIn_wide.2 (HL.out _))).mono ?_⟩;rintro e W2 ⟨rfl,dh⟩;have I2:=(hI.out.tw hBz (Tw.of_ext dh)).1;have M2:=(hI.out.tw hBz (Tw.of_ext dh)).2;have hF2:=hF.out.kept (W':=W2) ⟨dh.os,dh.tape,dh.output,dh.size,λb hb hm=>⟨dh.block b hb,λh=>hm (h.imp id λh=>h.imp id (M2 b))⟩⟩;have kx2:=qa (qb aC dh);have ko2:=qa I2.ro;have bM:(pre.map λx:X3=>(x.1,JU x)).length=pre.length:=List.length_map _;have aB:=I2.row.1;rw[bM]at aB;obtain⟨Av,cv,rfl,-,-⟩:=qC aB;have zo2:w.heap.size+3<W2:=(zG.1 I2.ro).1;have zB2:w3.heap.size+1<W2:=Nat.lt_of_lt_of_le zB dh.size;replace⟨I2,hF2,hkx,M2⟩:=zH4 I2 hF2 hkx M2;clear kx kt
   gi_wp2_with (gi_at_builtin;refine Yq ?_)
   refine Qm.go (Yp W2 rfl (.tmp 31) (.tmp 33) 55 rfl (w3.heap.size+2) 51 i0 _ 5 48 underlying55 hi aZ aT aX rfl zA1 (s Av pre.length cv) pre.length _ zE aB (Xf x.1 x.2.1 x.2.2) zE rfl zA8 zO zA1 zO ?_);intro v' W3 dG hg dO;have hP:=I2.out.push (x:=x) hBz zB2 hF2.out hkx.out ⟨dG,dO⟩ hg;have ax:=Qn aB;have ro3':W3.heap[w.heap.size+3]?=_:=(hg.block _ zo2 (λe=>by have:=(ax _ e.symm).1;omega)).trans I2.out.ro;obtain⟨Av',cv',rfl,-,-⟩:=qC dG;have ko3:=qa ro3';have fo3:=qe ro3';replace hP:=zH hP;clear aB dG hg dO ax ro3' kx2 ko2 hi aZ aT aX
   gi_wp2_with fail
   refine⟨⟨jh.trans ⟨dh.os,dh.tape,dh.output,dh.size,λb hb hm=>⟨dh.block b hb,λh=>hm (h.imp id λh=>h.imp id (M2.out b))⟩⟩ hP.out.2.1,hP.out.2.2.1.trans (dh.block _ zO),hP.out.2.2.2.trans (dh.block _ zB)⟩,_,hP.out.1⟩
  gi_wp2_with fail
  refine⟨trivial,λh=>(by cases h),(CallsIn.inRound _ (callsIn_wide.2 (HL.out _))).mono ?_⟩;rintro e W2 ⟨rfl,dh⟩;have I2:=(hI.out.tw hBz (Tw.of_ext dh)).1;replace⟨I2,hkx⟩:=zH2 I2 hkx;clear kx kt
  gi_wp2_with fail
  exact⟨⟨dh.block _ zO,dh.block _ zB⟩,rfl,pre,x,v,rfl,hkx.out,I2.out⟩
 case done=>
  rintro ys W gJ ⟨v,hI⟩ hD;have bM:(ys.map λx:X3=>(x.1,JU x)).length=ys.length:=List.length_map _;have aB:=hI.row.1;rw[bM]at aB;obtain⟨Av,cv,rfl,-,-⟩:=qC aB;have ko:=qa hI.ro;have fo:=qe hI.ro;replace⟨I0,hI,hD⟩:=zH3 I0 hI hD;clear aB hi aZ aT aX;replace gJ:=zH gJ;go_wp2_with fail;have aN:=qff hI.out hBz hD.out (s Av ys.length cv);have rf:=qi hI.out.ro 0 (s Av ys.length cv);have df:=(zJ W ⟨w.heap.size+3,0,F⟩ (s Av ys.length cv) w3.heap.size zA2).trans hD.out;generalize ah:(World.setCell W _ _)=wf at*;have rf2:(wf.putObj w3 (.deferred F)).heap[w.heap.size+3]?=_:=(World.putObj_heap_other zO).trans rf;have kf:=qa rf2;refine⟨zA3,.inl ⟨_,_,rfl,run_takeDeferred df,Od #[s Av ys.length cv,E Oa 0],?_,_,rfl,⟨_,_,rfl,?_,aN.1,aN.2.1⟩,aN.2.2⟩⟩
  ·simp[results,results68,go_sem,kf]
  rw[List.map_map,qhf λy hy=>?_,<-gJ.out];rfl;rw[<-gJ.out]at hy;obtain⟨x,hx,rfl⟩:=List.mem_map.1 hy;exact hI.out.le x hx
 case stop=>
  rintro ys rest W gJ ⟨pre',x,v,rfl,hlt,hI⟩ hD;have bM:(pre'.map λx:X3=>(x.1,JU x)).length=pre'.length:=List.length_map _;have aB:=hI.row.1;rw[bM]at aB;obtain⟨Av,cv,rfl,-,-⟩:=qC aB;have ko:=qa hI.ro;have fo:=qe hI.ro;replace⟨I0,hI,hD⟩:=zH3 I0 hI hD;clear aB hi aZ aT aX;replace⟨gJ,hlt⟩:=zH2 gJ hlt
  gi_wp2
  go_wp2_with fail;have aN:=qff hI.out hBz hD.out (s Av pre'.length cv);have rf:=qi hI.out.ro 0 (s Av pre'.length cv);have df:=(zJ W ⟨w.heap.size+3,0,F⟩ (s Av pre'.length cv) w3.heap.size zA2).trans hD.out;generalize ah:(World.setCell W _ _)=wf at*;have rf2:(wf.putObj w3 (.deferred F)).heap[w.heap.size+3]?=_:=(World.putObj_heap_other zO).trans rf;have kf:=qa rf2;refine⟨zA3,.inl ⟨_,_,rfl,run_takeDeferred df,Od #[s Av pre'.length cv,E Oa 0],?_,_,rfl,⟨_,_,rfl,?_,aN.1,aN.2.1⟩,aN.2.2⟩⟩
  ·simp[results,results68,go_sem,kf]
  have hys':=gJ.out;rw[List.map_append,List.append_assoc]at hys';rw[List.map_map,qfL (pre:=pre'.map (·.1)) (rest:=rest) (x:=x.1) aK.out hys'.symm (λy hy=>?_) hlt.out];rfl;obtain⟨z,hz,rfl⟩:=List.mem_map.1 hy;exact hI.out.le z hz
end Go.Proofs.YtmeadnlmepcmbaaGreat
namespace Go.Proofs.YtmeadnlmepcmbaaGreat
open Go.RowKit
variable {w W:World}{v u:Value}{ps:List (It×Value)}{S S2 S' S3:Sto}{dead:List Int}{vs:List Vol}{R l:List Nat}{M:Nat->Bool}{a h m n mb:Nat}{id i lvl:Int}{P:Program}{o:Oper}{hh:Qb}{args cs:Array Value}{xs:List It}{f:Int->Option Value}{ty:TypeId}{fr:Nat×Nat}{p:Addr}
def Kw(S:Sto)(root:Int)(K K2:K3):List It:=match qo S root.toNat with
 |none=>[]
 |some (lvl,xs)=>VG S lvl.toNat K K2 xs
theorem VE.mono{base base' lo lo':Nat}(h:VE base lo w v ps)(hb:base'<=base)(hl:lo'<=lo):VE base' lo' w v ps:=
 ⟨QC h.1 hb,λp hp=>⟨⟨(h.2 p hp).1.1,(h.2 p hp).1.2.mono hl⟩,(h.2 p hp).2⟩⟩
def qcf(lo:Nat)(zs:List It)(u:Oe)(W:Y):Prop:=∃(ps:List (It×Oe))(v:Oe),u=Od #[v,E Oa 0]/\ps.map (·.1)=zs/\VE lo lo W v ps/\∀p∈ps,Nz W p.2
def qfz(S:Sto)(root next:Int)(dead:List Int)(id:Int)(K K2:K3)(w:Y)(e:Ending)(w':Y):Prop:=Below w w w' /\
 ((e=Oc (Od #[s F 0 0,E Oa 8])/\QI S root next dead) \/
  ∃vs u,Zy S root next dead vs/\e=Oc u/\match zF vs id with
   |none=>u=Od #[s F 0 0,E Oa 6]
   |some v=>qcf w (Kw S v.root K K2) u w')
theorem Gc{R:Ending->Y->Prop}{a:Act}(h8:a.tmps[8]?.getD undef=u)(h9:a.tmps[9]?.getD undef=v)(hd:a.defers=[])(hR:R (Oc (Od #[u,v])) W):bodyPost prog Tryz.f85 R .ret a W:=by refine bodyPost_ret (v:=Od #[u,v]) ?_ hd hR;simp[results,results85,go_sem,h8,h9]
set_option maxRecDepth 100000 in
theorem qdD(A1 n1 c1 A2 n2 c2 A3 n3 c3 A4 n4 c4)(gen root next:Int)(A5 c5)(S:Sto)(dead:List Int)(id k i o k2 i2 o2:Int)(w:Y)(h:Qh w w (s A1 n1 c1) (s A2 n2 c2) (s A3 n3 c3) (s A4 n4 c4) S)(hd:ZS w w (s A5 dead.length c5) dead):Calls prog 85 #[.agg (qR (s A1 n1 c1) (s A2 n2 c2) (s A3 n3 c3) (s A4 n4 c4) gen root next (s A5 dead.length c5)),E .u32 id,Uh k i o,Uh k2 i2 o2] w (qfz S root next dead id (k,i,o) (k2,i2,o2) w):=by
 have HT:=zH (λW (hx:Ext w W)=>Ta A1 n1 c1 A2 n2 c2 A3 n3 c3 A4 n4 c4 gen root next A5 c5 S dead id W (h.ext hx) (by obtain⟨A,c,e,q1,q2,q3⟩:=hd;exact⟨A,c,e,q1,q2,(q3.below hx).more hx.size⟩));have HF:=zH (λW (hx:Ext w W) (hS:qj S=Ob) a lvl xs ha bC hn aK=>qms A1 n1 c1 A2 n2 c2 A3 n3 c3 A4 n4 c4 S hS a lvl xs ha bC hn aK k i o k2 i2 o2 W (h.ext hx));clear h hd;go_enter func85,ntmps85;go_wp2_with fail;generalize aA:(Z (Z (Z w _) _) _)=w1;have x1:Ext w w1:=by rw[<-aA];exact((zN _ _).trans (zN _ _)).trans (zN _ _)
 have rp1:w1.heap[w.heap.size]?=D (U (qR (s A1 n1 c1) (s A2 n2 c2) (s A3 n3 c3) (s A4 n4 c4) gen root next (s A5 dead.length c5)) 32 (0,0)):=by rw[<-aA];exact(zK _ _ _ zA2).trans ((zK _ _ _ zA3).trans (zI _ _ _ rfl))
 have rk1:w1.heap[w.heap.size+1]?=D (U #[E .u8 k,E .u32 i,E .u32 o] 49):=by rw[<-aA];exact(zK _ _ _ zA3).trans (zI _ _ _ zA3)
 have rt1:w1.heap[w.heap.size+2]?=D (U #[E .u8 k2,E .u32 i2,E .u32 o2] 49):=aA▸zI _ _ _ zA3;clear aA;refine(HT.out w1 x1).mono ?_;clear HT;rintro e w2 ⟨hB,hQ⟩;have x2:Ext w w2:=Ext.trans x1 hB;have rp2:=qb rp1 hB;have rk2:=qb rk1 hB;have rt2:=qb rt1 hB;have z2:w.heap.size+2<w2:=(zG.1 rt2).1;have z20:w.heap.size<w2:=zO;have z21:w.heap.size+1<w2:=zO;clear hB x1 rp1 rk1 rt1;rcases hQ with⟨rfl,aj⟩|⟨vs,refs,nodes,hp,di,tJ,rfl⟩
 ·replace⟨aj,x2⟩:=zH2 aj x2;go_wp2_with fail;exact Gc rfl rfl rfl ⟨x2.out.trans (zN _ _),.inl ⟨rfl,aj.out⟩⟩
 have hok:=zH (⟨refs,nodes,hp,di,tJ⟩:Zy S root next dead vs);replace hp:=zH hp;clear di tJ;rcases hv:zF vs id with _|v
 ·unfold volQ;replace⟨hv,x2⟩:=zH2 hv x2;go_wp2_with fail;exact Gc rfl rfl rfl ⟨x2.out.trans (zN _ _),.inr ⟨vs,_,hok.out,rfl,by rw[hv.out];rfl⟩⟩
 unfold volQ;obtain⟨a,ha,ht⟩:=qmB hp.out (Uf hv);obtain⟨h8,h256,lvl,xs,hn,aK⟩:=ht;have hfs:Kw S v.root (k,i,o) (k2,i2,o2)=VG S lvl (k,i,o) (k2,i2,o2) xs:=by unfold Kw;rw[ha,Int.toNat_natCast,hn];simp
 have HFF:=zH (λW hx=>HF.out W hx hp.out.may a lvl xs h8 h256 hn aK);have kp2:=qa rp2;have kk2:=qa rk2;have kt2:=qa rt2;replace⟨hv,hfs,ha⟩:=zH3 hv hfs ha;clear hn aK HF;go_wp2_with fail;generalize aP:(Z w2 _)=w3;have x23:Ext w2 w3:=aP▸zN _ _;clear aP;have iP:=HFF.out w3 (x2.trans x23);rw[<-ha.out]at iP;refine iP.mono ?_;clear iP HFF;rintro e w4 ⟨u,rfl,⟨ps,q,rfl,bM,hR,hz⟩,hB⟩;have x4:Ext w w4:=(x2.trans x23).trans hB;have hQ:qcf w (Kw S v.root (k,i,o) (k2,i2,o2)) (Od #[q,E Oa 0]) w4:=⟨ps,q,rfl,by rw[hfs.out];exact bM,hR.mono (x2.trans x23).size (x2.trans x23).size,hz⟩
 replace⟨hQ,x4⟩:=zH2 hQ x4;clear kp2 kk2 kt2 rp2 rk2 rt2 hB x23 x2 z2 z20 z21 hR hz bM;go_wp2_with fail;exact Gc rfl rfl rfl ⟨x4.out,.inr ⟨vs,_,hok.out,rfl,by rw[hv.out];exact hQ.out⟩⟩
theorem qkb{T X:Sto}(m:SM S X)(m':SM T X){a:Int}(h:okL S (-1) a=Ob)(h':okL T (-1) a=Ob)(K K2:K3):Kw T a K K2=Kw S a K K2:=by obtain⟨n,rfl,-,-,lvl,xs,hn,hs⟩:=Zl h;obtain⟨n',e,-,-,lvl',xs',tu,rJ⟩:=Zl h';obtain rfl:n=n':=zO;obtain⟨rfl,rfl,hi⟩:=qjD m m' hn hs tu rJ;unfold Kw;rw[Int.toNat_natCast,hn,tu];simp only[Int.toNat_natCast];unfold VG;rw[hi]
theorem qgv{root next:Int}(h:QH S root next dead vs){v:Vol}(hv:v∈vs):okL S (-1) v.root=Ob:=h.ok v.root (by unfold QJ;exact List.mem_append_right _ (List.mem_map.2 ⟨v,hv,rfl⟩))
def frzV(v:Vol)(fz:Bool):Vol:=⟨v.id,v.root,fz,v.frm⟩

theorem Zj.nodeM(h:Zj S R M)(m:SM S S2)(hM:M a=Ob):qo S a=qo S2 a:=by obtain⟨nd,e⟩:=Option.isSome_iff_exists.1 (h.nd a hM);rw[e,m.node _ _ e]
theorem Zj.spanM(h:Zj S R M)(m:SM S S2):∀(H:Nat){a:Nat}{ys:List It},M a=Ob->qo S2 a=D ((H:Int),ys)->(qz S2 H ys).isSome=Ob->qz S H ys=qz S2 H ys:=by
 have hf:∀{H:Nat}{ys:List It},(∀y∈ys,jA S H y=jA S2 H y)->qz S H ys=qz S2 H ys:=λ{H ys} hy=>by unfold qz;refine UM _ _ λa y hm=>?_;unfold jP;rw[hy y hm]
 intro H;induction H with
 |zero=>
  intro a ys hM hn hs;have hnS:=(h.nodeM m hM).trans hn;refine hf λy hy=>?_;have h1:=Qt hs y hy;have hit:=((qI hn).2.1 y hy).2;unfold itB at hit;rw[decide_eq_true_eq]at hit;unfold jA at h1⊢;split at h1;rename_i hc;rw[if_pos hc,if_pos];by_cases hr:y.r=0;exact .inl hr;right;have hm:y.r.toNat∈QV S a:=Vo hnS (List.mem_map.2 ⟨y,hy,rfl⟩) zO;have h3:=GW hM hm (h.cov.low a hM).2;have h4:=h.cov.cnt y.r.toNat zO;show 0<qL S.now _;omega;cases h1
 |succ H ih=>
  intro a ys hM hn hs;have hnS:=(h.nodeM m hM).trans hn;refine hf λy hy=>?_;obtain⟨b,e1,h8,h256,zs,e4,e5⟩:=Qz (Qt hs y hy);have hMb:M b=Ob:=by
   have:=h.cov.kid a hM y.r.toNat (by rw[Gs hnS zO];exact Vo hnS (List.mem_map.2 ⟨y,hy,rfl⟩) (by rw[e1,Int.toNat_natCast];omega))
   rwa [e1,Int.toNat_natCast]at this
  have h3:=ih hMb e4 e5;rw[Jc,Jc];unfold vI;rw[e1,Int.toNat_natCast,h.nodeM m hMb,e4];simp only[h3]
theorem Zj.treeM(h:Zj S R M)(m:SM S S2)(hM:M a=Ob)(ht:ZN S2 a):ZN S a:=by obtain⟨h8,h256,lvl,xs,hn,hs⟩:=ht;exact⟨h8,h256,lvl,xs,(h.nodeM m hM).trans hn,by rw[h.spanM m lvl hM hn hs];exact hs⟩
def Zv(id:Int)(vs:List Vol):List Vol:=vs.filter λu=>!decide (u.id=id)
theorem qfh(id:Int)(vs:List Vol):zF (Zv id vs) id=F:=by unfold zF Zv;rw[List.find?_eq_none];intro u hu;simpa using(List.mem_filter.1 hu).2
theorem qkj(h:i≠id)(vs:List Vol):zF (Zv id vs) i=zF vs i:=by unfold zF Zv;rw[List.find?_filter];congr 1;funext u;by_cases e:u.id=i;simp[e,h];simp[e]
theorem vols_sub{next:Int}:∀{l' l:List It},List.Sublist l' l->∀{acc acc' vs:List Vol},acc.length<=16->Zq next acc l=vs->acc'.length<=acc.length->Zq next acc' l'=D (acc'++l'.map JG):=λ{l' l} hs=>by
 induction hs with
 |slnil=>
  intro acc acc' vs uX h hl;simp[Zq]
 |cons y hs ih=>
  intro acc acc' vs uX h hl;rw[Ya]at h;split at h;rename_i hc;exact ih (by have:=hc.2;simp;omega) h zA2;cases h
 |cons_cons y hs ih=>
  intro acc acc' vs uX h hl;rw[Ya]at h⊢;split at h;rename_i hc;have h15:=hc.2;rw[if_pos ⟨hc.1,zO⟩,ih zA2 h zA2];simp;cases h
theorem rem_map{l:List It}(h:∀y∈l,Ks y=Ob):(JS (1,id,0) l).map JG=Zv id (l.map JG):=by unfold JS Zv;rw[List.filter_map];congr 1;refine List.filter_congr λy hy=>?_;have h1:=vol_key (h y hy);have h2:(JG y).id=y.i:=rfl;rw[h1];simp only[Function.comp,h2,Prod.mk.injEq,true_and,and_true]
theorem qmw{v:Vol}(hv:zF vs id=v)(b:Nat):(v.root.toNat::(Zv id vs).map λu=>u.root.toNat).count b<=(vs.map λu=>u.root.toNat).count b:=by
 have hid:v.id=id:=by simpa using List.find?_some hv
 obtain⟨A,B,e⟩:=List.append_of_mem (Uf hv);have e2:Zv id vs=Zv id A++Zv id B:=by unfold Zv;rw[e,List.filter_append,List.filter_cons_of_neg (by simp[hid])]
 have hA:List.Sublist ((Zv id A).map λu=>u.root.toNat) (A.map λu=>u.root.toNat):=List.Sublist.map _ List.filter_sublist;have hB:List.Sublist ((Zv id B).map λu=>u.root.toNat) (B.map λu=>u.root.toNat):=List.Sublist.map _ List.filter_sublist;have h1:=hA.count_le b;have h2:=hB.count_le b;rw[e2,e];simp only[List.map_append,List.map_cons,List.count_cons,List.count_append];omega
theorem qdA{root next:Int}{v:Vol}{r:Nat}(hok:Zy S root next dead vs)(hv:zF vs id=v)(e:unE S root id=.ok (r,S')):QH S' (r:Int) next dead (Zv id vs)/\(∃S2,SM S S2/\SM S' S2)/\∃M',Zj S' (v.root.toNat::Qp (r:Int) dead (Zv id vs)) M'/\∀b∈v.root.toNat::Qp (r:Int) dead (Zv id vs),M' b=Ob:=by
 obtain⟨refs,nodes,hp,hc,he⟩:=hok;obtain⟨a,rfl,h8,h256,lvl,xs,hn,hs⟩:=Zl hp.top;have e2:XT S lvl xs a (1,id,0)=.ok (r,S'):=by unfold unE at e;rw[Int.toNat_natCast,hn]at e;exact e
 have hrn:Qp (a:Int) dead vs=a::(dead.map Int.toNat++vs.map λu=>u.root.toNat):=by simp[Qp,QJ]
 have hrn':Qp (r:Int) dead (Zv id vs)=r::(dead.map Int.toNat++(Zv id vs).map λu=>u.root.toNat):=by simp[Qp,QJ]
 have c1:=Zj.of hp hc he;have lM:∀b∈Qp (a:Int) dead vs,vN nodes b=Ob:=hc.mkd.root;rw[hrn]at c1 lM;obtain⟨M',c2,k2,i2⟩:=del_cov hp.may hn hs c1 (lM a List.mem_cons_self) e2;obtain⟨-,S2,H,ys,m,m',uS,hs2,dK⟩:=qlK hp.may hn hs e2;obtain⟨hmay,iw,mf⟩:=qhw hp.may h8 hn hs e2;have yX:=Uf hv;have hvs:∀b∈dead.map Int.toNat++vs.map λu=>u.root.toNat,M' b=Ob:=λb hb=>i2 b hb (lM b (List.mem_cons_of_mem _ hb));have hin:∀b∈v.root.toNat::Qp (r:Int) dead (Zv id vs),M' b=Ob:=λb hb=>by
  rw[hrn']at hb;rcases List.mem_cons.1 hb with rfl|hb
  exact hvs _ (List.mem_append_right _ (List.mem_map.2 ⟨v,yX,rfl⟩));rcases List.mem_cons.1 hb with rfl|hb
  exact k2;rcases List.mem_append.1 hb with hb|hb
  exact hvs b (List.mem_append_left _ hb);obtain⟨u,hu,rfl⟩:=List.mem_map.1 hb;exact hvs _ (List.mem_append_right _ (List.mem_map.2 ⟨u,(List.mem_filter.1 hu).1,rfl⟩))
 have htop:ZN S' r:=c2.treeM m' k2 ⟨iw,mf,H,ys,uS,hs2⟩;have hnr:qo S' r=D ((H:Int),ys):=(c2.nodeM m' k2).trans uS;have hsr:qz S' H ys=qz S2 H ys:=c2.spanM m' H k2 uS hs2;have hVK:kA S' (r:Int) next=D (Zv id vs):=by have h1:=hp.vols;unfold kA at h1⊢;rw[Int.toNat_natCast,hn]at h1;rw[Int.toNat_natCast,hnr];simp only[Int.toNat_natCast]at h1⊢;rw[<-m'.items H ys (by rw[hsr];exact hs2),dK];obtain⟨g1,g2⟩:=qmO h1;have yV:List.Sublist (JS (1,id,0) (qu S lvl xs)) (qu S lvl xs):=List.filter_sublist;rw[vols_sub (acc':=[]) yV (Nat.zero_le _) h1 (zM _),List.nil_append,g2,<-rem_map g1]
 have hokr:∀q∈QJ (r:Int) dead (Zv id vs),okL S' (-1) q=Ob:=λq hq=>by
  have hq2:q=(r:Int)\/q∈QJ (a:Int) dead vs:=by
   unfold QJ at hq⊢;rcases List.mem_append.1 hq with hq|hq
   rcases List.mem_cons.1 hq with rfl|hq
   exact .inl rfl;exact .inr (List.mem_append_left _ (List.mem_cons_of_mem _ hq));obtain⟨u,hu,rfl⟩:=List.mem_map.1 hq;exact .inr (List.mem_append_right _ (List.mem_map.2 ⟨u,(List.mem_filter.1 hu).1,rfl⟩))
  rcases hq2 with rfl|hq2
  exact TD htop;obtain⟨b,rfl,hb⟩:=Zl (m.okL (hp.ok q hq2));refine TD (c2.treeM m' (hin b ?_) hb);refine List.mem_cons_of_mem _ ?_;have h1:((b:Int)).toNat∈Qp (r:Int) dead (Zv id vs):=List.mem_map.2 ⟨_,hq,rfl⟩;simpa using h1
 refine⟨⟨hmay,hp.few,TD htop,hVK,hokr⟩,⟨S2,m,m'⟩,M',c2.perm λb _=>?_,hin⟩;rw[hrn'];have:=qmw hv b;simp only[List.count_cons,List.count_append];simp only[List.count_cons]at this;omega
theorem qcn:∃refs nodes,Qu S R refs nodes:=by
 classical
 obtain⟨M,hM⟩:∃M:Nat->Bool,∀a,M a=Ob↔Rch (Zr S) (· ∈ R) a:=⟨λa=>decide (Rch (Zr S) (· ∈ R) a),λa=>decide_eq_true_iff⟩
 have hB:vN (λa=>if M a=Ob then 1 else 0)=M:=by funext a;unfold vN;have:∀b:Bool,decide (0<if b=Ob then 1 else 0)=b:=zA1;exact this (M a)
 refine⟨λb=>R.count b+JE (QV S) M b 256,λa=>if M a=Ob then 1 else 0,⟨?_,λa=>?_⟩⟩;rw[hB];exact⟨λa ha=>(hM a).1 ha,λa ha=>(hM a).2 (.base ha),λa ha b hb=>(hM b).2 (.step ((hM a).1 ha) hb),λb=>rfl⟩;rw[hB];have hu:∀n,vU M n<=n:=λn=>by
  induction n with
  |zero=>exact zM _
  |succ n ih=>unfold vU;split<;>omega
 have key:∀u,u<=256->(if M a=Ob then 1 else 0)+6*u<=1536+R.length:=λu hu=>by split;rename_i h2;have:=((hM a).1 h2).closed (M:=λ_=>0<R.length) (λb hb=>List.length_pos_of_mem hb) (λ_ h _ _=>h);omega;omega
 exact key _ (hu 256)
theorem Zj.pool{t:List UInt8}{root next:Int}(h:Zj (qp S3 t) R M)(hle:∀b,qL t b<=qL S3.now b)(hmay:qj (qp S3 t)=Ob)(hp:qj S3=Ob/\dead.length<=40/\okL S3 (-1) root=Ob/\kA S3 root next=vs)(ht:∀a∈Qp root dead vs,ZN S3 a)(hn:∀r∈QJ root dead vs,0<=r)(hR:∀b,0<b->(Qp root dead vs).count b<=R.count b)(hin:∀b∈Qp root dead vs,M b=Ob):Zy (qp S3 t) root next dead vs:=by
 have ok:∀r∈QJ root dead vs,okL (qp S3 t) (-1) r=Ob:=λr hr=>by
  have iq:r.toNat∈Qp root dead vs:=List.mem_map.2 ⟨r,hr,rfl⟩;have:=TD (h.tree hle (hin _ iq) (ht _ iq))
  rwa [Int.toNat_of_nonneg (hn r hr)]at this
 have hm:=qlp (S:=S3) (t:=t) hle;have hB:QH (qp S3 t) root next dead vs:=by
  refine⟨hmay,hp.2.1,ok root (by unfold QJ;simp),?_,ok⟩;obtain⟨a,rfl,-,-,lvl,xs,h1,h2⟩:=Zl (ok root (by unfold QJ;simp));have h3:=hm.node _ _ h1;have h4:=hp.2.2.2;unfold kA at h4⊢;rw[Int.toNat_natCast]at*;rw[h3]at h4;rw[h1];simp only[Int.toNat_natCast]at h4⊢
  rwa [hm.items _ _ h2]at h4
 obtain⟨refs,nodes,hc⟩:=qcn (S:=qp S3 t) (R:=Qp root dead vs);exact⟨refs,nodes,hB,hc,h.enough hR hin hc⟩
theorem qiw(k i o r:Int)(l:List UInt8):XJ k i o r k i o r l l=Ob:=by simp[XJ]
theorem Xd{a:Act}{f:FuncId}(hr:(execOp a.eval o).run P W=.ok (.enter f args) W)(hc:Calls P f args W λe w''=>∃p,e=Oc (hh.f p)/\hh.φ p w''/\Ext W w''):Qs qm P o a W hh:=by unfold Qs;rw[hr];exact⟨Ext.refl W,hc⟩
def allS(S:Sto)(root:Int):List It:=Kw S root (0,0,0) (255,4294967295,4294967295)
theorem qmt(S:Sto)(root:Int)(K K2:K3):(Kw S root K K2).length<=15625:=by
 unfold Kw;split;simp;rename_i lvl xs hn;obtain⟨hm1,-,-⟩:=qI hn;have h1:xs.length<=5:=by unfold Qj ZV at hm1;simp at hm1;omega
 have h2:lvl.toNat<=5:=by unfold Qj ZV at hm1;simp at hm1;omega
 exact Nat.le_trans (List.length_filter_le _ _) (Nat.le_trans (qaz (S:=S) lvl.toNat xs h1) (show 5^(lvl.toNat+1)<=5^6 from Nat.pow_le_pow_right zO zO))
theorem un_root{root next:Int}{v:Vol}{r:Nat}(hok:Zy S root next dead vs)(hv:zF vs id=v)(e:unE S root id=.ok (r,S')):okL S' (-1) v.root=Ob:=by obtain⟨-,⟨X,m,m1⟩,M',c,hin⟩:=qdA hok hv e;obtain⟨refs,nodes,hp,-,-⟩:=hok;obtain⟨b,hb,ht⟩:=Zl (m.okL (qgv hp (Uf hv)));rw[hb];exact TD (c.treeM m1 (hin b (List.mem_cons.2 (.inl (by rw[hb];simp)))) ht)
def qaF(S:Sto):Nat->List It->Nat
 |0,_=>1
 |h+1,xs=>1+(xs.map λx=>match qo S x.r.toNat with
  |some (_,ys)=>qaF S h ys
  |none=>1).sum
def JD(S:Sto)(a:Nat):Nat:=match qo S a with
 |some (l,xs)=>qaF S l.toNat xs
 |none=>1
theorem YI(hn:qo S a=D ((h:Int),xs)):JD S a=qaF S h xs:=by unfold JD;rw[hn];simp
theorem nszL_pos(S:Sto)(h:Nat)(xs:List It):1<=qaF S h xs:=by
 cases h with
 |zero=>exact zM _
 |succ h=>unfold qaF;omega
theorem qkq(h:∀x∈l,x<=m):l.sum<=l.length*m:=by
 induction l with
 |nil=>simp
 |cons a r ih=>
  have h1:=h a List.mem_cons_self;have h2:=ih λx hx=>h x (List.mem_cons_of_mem _ hx);rw[List.sum_cons,List.length_cons,Nat.add_mul];omega
theorem qaE(hn:qo S a=D (lvl,xs)):xs.length<=5:=by have hm:=(qI hn).1;unfold Qj ZV at hm;simp at hm;omega
theorem qla(S:Sto):∀(h:Nat)(xs:List It),xs.length<=5->qaF S h xs<=6^h
 |0,_,_=>zM _
 |h+1,xs,hl=>by
  have key:∀x∈xs.map (λx=>match qo S x.r.toNat with
    |some (_,ys)=>qaF S h ys
    |none=>1),x<=6^h:=λn hn=>by
   obtain⟨x,-,rfl⟩:=List.mem_map.1 hn;split;rename_i l ys hq;exact qla S h ys (qaE hq);exact Nat.one_le_pow h 6 zO
  have h1:=qkq key;rw[List.length_map]at h1;have h2:xs.length*6^h<=5*6^h:=Nat.mul_le_mul_right _ hl;have h3:1<=6^h:=Nat.one_le_pow h 6 zO;unfold qaF;rw[Nat.pow_succ];omega
theorem GF(hn:qo S a=D ((h:Int),xs)):JD S a<=7776:=by
 rw[YI hn];have hm:=(qI hn).1;have h5:h<=5:=by unfold Qj ZV at hm;simp at hm;omega
 exact Nat.le_trans (qla S h xs (qaE hn)) (show 6^h<=6^5 from Nat.pow_le_pow_right zO h5)
theorem qmn(hs:(qz S (h+1) xs).isSome=Ob):qaF S (h+1) xs=1+(xs.map λx=>JD S x.r.toNat).sum:=by unfold qaF;congr 2;refine List.map_congr_left λx hx=>?_;obtain⟨b,hb,-,-,ys,hn,-⟩:=Qz (Qt hs x hx);rw[hb,Int.toNat_natCast,YI hn,hn]
def Szs(S:Sto)(f:Int->Option Oe):Prop:=∀a v,f a=D v->∃n:Nat,a=(n:Int)/\v=E Oa (JD S n:Int)
theorem Szs.set(h:Szs S f)(n:Nat):Szs S λb=>if b=(n:Int)then D (E Oa (JD S n:Int))else f b:=λa v e=>by
 have e:(if a=(n:Int)then D (Value.int Oa (JD S n:Int))else f a)=v:=e;by_cases hb:a=(n:Int)
 rw[if_pos hb]at e;cases e;exact⟨n,hb,rfl⟩;rw[if_neg hb]at e;exact h a v e
theorem Szs.at_(h:Szs S f):f (n:Int)=F\/f (n:Int)=D (E Oa (JD S n:Int)):=by
 rcases hf:f (n:Int)with _|v
 exact .inl rfl;obtain⟨m,hm,rfl⟩:=h _ _ hf;obtain rfl:n=m:=zO;exact .inr rfl
def SizeC(S:Sto)(h:Nat):Prop:=∀(a:Nat)(xs:List It)(A1:OA)(n1 c1:Nat)(A2:OA)(n2 c2:Nat)(A3:OA)(n3 c3:Nat)(A4:OA)(n4 c4:Nat)(y5 y6 y7 y8:Oe)(f:Int->Option Oe)(pb tb fb mb:Nat)(w:Y),
 qj S=Ob->Qh w w (s A1 n1 c1) (s A2 n2 c2) (s A3 n3 c3) (s A4 n4 c4) S->8<=a->a<256->qo S a=D ((h:Int),xs)->(qz S h xs).isSome=Ob ->
 w.heap[pb]?=D (U #[s A1 n1 c1,s A2 n2 c2,s A3 n3 c3,s A4 n4 c4,y5,y6,y7,y8] 32)->w.heap[tb]?=D (U #[.map (D mb)] 109) ->
 w.heap[fb]?=D (U #[.func (.func 71) #[] #[O tb,O pb,O fb]] 110)->QR w mb f->Szs S f ->
 Calls prog 71 #[(a:Int),O tb,O pb,O fb] w (λe W=>e=Oc (JD S a:Int)/\w.grownBy W (D mb)/\∃g,QR W mb g/\Szs S g)
theorem QR.lt(h:QR w mb f):mb<w:=by obtain⟨es,cl,hb,-⟩:=h;exact(zG.1 hb).1
theorem QR.ne{mb b:Nat}(h:QR w mb f)(hb:w.heap[b]?=D (U cs ty fr)):b≠mb:=by obtain⟨es,cl,h1,-⟩:=h;intro e;subst e;rw[h1]at hb;cases hb
theorem Ka{mb b:Nat}(hg:w.grownBy W (D mb))(h:QR w mb f)(hb:w.heap[b]?=D (U cs ty fr)):W.heap[b]?=D (U cs ty fr):=
 (hg.block b (zG.1 hb).1 (by have:=h.ne hb;simpa using this)).trans hb
theorem Xc(hg:w.grownBy W (D mb))(h:QR w mb f)(hp:w.cell? p=v):W.cell? p=v:=by
 obtain⟨es,cl,h1,-⟩:=h;have aH:p.block≠mb:=λe=>by unfold World.cell? at hp;rw[e,h1]at hp;cases hp
 have hlt:=World.block_lt_of_cell? _ _ hp;exact(World.cell?_of_block (hg.block p.block hlt (by simpa using aH))).trans hp
structure SzI(S:Sto)(h:Nat)(xs:List It)(mb:Nat)(w3:Y)(v i:Oe)(wr:Y):Prop where
 ex:∃k:Nat,k<=xs.length/\i=E Oa (k:Int)/\v=E Oa (1+((((xs.take k).map λx=>JD S x.r.toNat).sum:Nat):Int))/\w3.grownBy wr (D mb)/\∃g,QR wr mb g/\Szs S g
set_option maxRecDepth 100000 in
theorem qiB(S:Sto)(h:Nat)(HI:∀h':Nat,h=h'+1->SizeC S h'):SizeC S h:=by
 intro a xs A1 n1 c1 A2 n2 c2 A3 n3 c3 A4 n4 c4 y5 y6 y7 y8 f pb tb fb mb w hS aJ ha bC hn aK rp rt rf hm hz;have yA:Jj S (a:Int)=0:=by rw[TK hS ha bC,if_neg (show ¬js S a=0 from λe=>by unfold qo at hn;rw[if_pos (show(S.now[a]?.getD 0).toNat=0 from e)]at hn;cases hn)]
 have HN:=zH (TV A1 n1 c1 A2 n2 c2 A3 n3 c3 A4 n4 c4 S (a:Int) w aJ);rw[yA,if_pos rfl,Int.toNat_natCast,hn]at HN;have hsz:=YI hn;have hlen:=qaE hn;have hbd:=GF hn;have kp:=qa rp;have kt:=qa rt;have cZ:=hm.lt;have aZ:(zeroValue 3).run prog w=.ok (E Oa 0) w:=by obtain⟨i0,hi,aZ,aT,aX⟩:=info_parts Tryz.info_int;simp[zeroValue,typeInfo,hi,aZ]
 replace⟨aJ,hS,aK,hsz,hbd⟩:=zH5 aJ hS aK hsz hbd;clear yA hn ha bC;go_enter func71,ntmps71;go_wp2_with (at_lookup;refine qV ?_);refine Qm.go (Yc _ rfl (.tmp 14) (.tmp 15) 109 rfl underlying109 underlying3 aZ rfl rfl hm ?_);rcases hz.at_ (n:=a)with hf|hf
 case inr=>rw[hf];replace hz:=zH hz;clear HN hf kp kt rp rt rf aJ;go_wp2_with fail;go_ret;exact⟨rfl,QP (Ext.refl _) _,f,hm,hz.out⟩
 rw[hf];go_wp2_with fail;refine HN.out.mono ?_;clear HN;rintro e w2 ⟨u,rfl,⟨A9,c9,rfl,aG⟩,hB⟩;have x2:Ext w w2:=hB;have rp2:=qb rp hB;have rt2:=qb rt hB;have rf2:=qb rf hB;have iR:=hm.of_heap (hB.block mb cZ);have hIV:=zH (aJ.out.ext hB);have kt2:=qa rt2;have hA:=aG.its.at_.2.2.2;replace⟨aG,hz⟩:=zH2 aG hz;clear hB kp kt hf rp rt rf aJ hm aZ;go_upto_region 6 with fail;generalize aP:Z w2 _=w3;have x23:Ext w2 w3:=aP▸zN _ _;have rn3:w3.heap[w2.heap.size]?=D (U #[(h:Int),s A9 xs.length c9] 113):=aP▸zI _ _ _ rfl;have kn3:=qa rn3;have rp3:=qb rp2 x23;have rt3:=qb rt2 x23;have rf3:=qb rf2 x23;have kt3:=qa rt3;have nU:=iR.of_heap (x23.block mb (Nat.lt_of_lt_of_le cZ x2.size));have lN:=zH (hIV.out.ext x23);have hKD:=zH (aG.out.ext x23);have x3:=zH (x2.trans x23);clear aP rt2 kt2 rp2 rf2 iR x2 x23 hIV aG;rcases Nat.eq_zero_or_pos h with h0|h0
 ·subst h0;clear rp3 rt3 rf3 lN hKD hA rn3;go_wp2_with (at_mapUpdate;refine qV ?_);refine Qm.go (jr _ rfl (.tmp 45) (.tmp 46) (.tmp 47) 109 rfl underlying109 underlying3 rfl rfl rfl nU ?_);intro w4 hm4 hg4;have hz4:Szs S λb=>if b=(a:Int)then D (E Oa 1)else f b:=by have:=hz.out.set a;rw[hsz.out]at this;exact this
  have hR:Hid (w.grownBy w4 (D mb)/\∃g,QR w4 mb g/\Szs S g):=zH ⟨World.grownBy.trans (QP x3.out _) hg4,_,hm4,hz4⟩;clear nU hm4 hg4 hz4 kn3 kt3;go_wp2_with fail;go_ret;exact⟨by rw[hsz.out];rfl,hR.out⟩
 obtain⟨h',hh⟩:∃h',h=h'+1:=⟨h-1,zO⟩
 have HIh:=zH (HI h' hh);have hd1:decide ((h:Int)>0)=Ob:=decide_eq_true zO;have hd2:decide (0<h)=Ob:=decide_eq_true h0;have aW:Hid (1+(((xs.map λx=>JD S x.r.toNat).sum:Nat):Int)=(JD S a:Int)):=zH (by have h1:=qmn (h:=h') (by rw[<-hh];exact aK.out);rw[hsz.out,hh,h1];simp);have I0:SzI S h xs mb w3 (E Oa 1) (E Oa 0) w3:=⟨0,Nat.zero_le _,rfl,zA3,QP (Ext.refl _) _,f,nU,hz.out⟩
 replace I0:=zH I0;have hgm:=zH (λW (hg:w3.grownBy W (D mb))=>(⟨⟨Ka hg nU rp3,Ka hg nU rt3,Ka hg nU rf3⟩,(lN.out.some_ (λp v hp=>Xc hg nU hp)).more hg.size⟩:(W.heap[pb]?=_/\W.heap[tb]?=_/\W.heap[fb]?=_)/\Qh W W.heap.size (s A1 n1 c1) (s A2 n2 c2) (s A3 n3 c3) (s A4 n4 c4) S));have hgc:=zH (λW (hg:w3.grownBy W (D mb)) (p:Addr) v (hp:w3.cell? p=D v)=>Xc hg nU hp);replace⟨hh,h0⟩:=zH2 hh h0;clear nU lN kt3;go_wp2_with fail;go_loopw [8,12,34] (λv _ i wr=>SzI S h xs mb w3 v i wr) (λ_ _ i _=>xs.length-(intOf i).toNat)
 case atStart=>exact I0.out
 case round=>
  obtain⟨k,hk,rfl,rfl,hg,g,hmg,xC⟩:=hrel.ex;clear hrel I0;obtain⟨⟨rpr,rtr,rfr⟩,yU⟩:=hgm.out wr hg;by_cases hlt:k<xs.length
  ·obtain⟨b9,off,rfl,hb9⟩:=hA zO;obtain⟨A',c',d0,d1,d2,d3,d4,-⟩:=hKD.out.its.item k hlt;have hone:=Qt aK.out xs[k] (List.getElem_mem hlt);rw[hh.out]at hone;obtain⟨r,e5,e6,e7,ys,e8,e9⟩:=Qz hone;rw[e5]at d3;replace d0:=hgc.out wr hg _ _ d0;replace d1:=hgc.out wr hg _ _ d1;replace d2:=hgc.out wr hg _ _ d2;replace d3:=hgc.out wr hg _ _ d3;replace d4:=hgc.out wr hg _ _ d4;have hT:=GF e8;have dR:((xs.take (k+1)).map λx=>JD S x.r.toNat).sum=((xs.take k).map λx=>JD S x.r.toNat).sum+JD S r:=by rw[List.take_succ_eq_append_getElem hlt,List.map_append,List.sum_append];simp[e5]
   have hm7:((xs.take k).map λx=>JD S x.r.toNat).sum<=5*7776:=by
    have key:∀n∈(xs.take k).map λx=>JD S x.r.toNat,n<=7776:=λn hn=>by obtain⟨x,hx,rfl⟩:=List.mem_map.1 hn;have hone:=Qt aK.out x (List.mem_of_mem_take hx);rw[hh.out]at hone;obtain⟨r,e5,-,-,ys,e8,-⟩:=Qz hone;rw[e5,Int.toNat_natCast];exact GF e8
    have h1:=qkq key;have h2:((xs.take k).map λx=>JD S x.r.toNat).length<=5:=by rw[List.length_map,List.length_take];omega
    exact Nat.le_trans h1 (Nat.mul_le_mul_right _ h2)
   have HC:=zH (λW (hx:Ext wr W)=>HIh.out r ys A1 n1 c1 A2 n2 c2 A3 n3 c3 A4 n4 c4 y5 y6 y7 y8 g pb tb fb mb W hS.out (yU.ext hx) e6 e7 e8 e9 (qb rpr hx) (qb rtr hx) (qb rfr hx) (hmg.of_heap (hx.block mb hmg.lt)) xC);have hIR:=zH (λW w5 (hx:Ext wr W) (hg5:W.grownBy w5 (D mb)) g5 (hm5:QR w5 mb g5) (pI:Szs S g5)=>(⟨k+1,hlt,rfl,rfl,World.grownBy.trans (World.grownBy.trans hg (QP hx _)) hg5,g5,hm5,pI⟩:SzI S h xs mb w3 (E Oa (1+((((xs.take (k+1)).map λx=>JD S x.r.toNat).sum:Nat):Int))) (E Oa ((k:Int)+1)) w5));rw[dR]at hIR;generalize((xs.take k).map λx=>JD S x.r.toNat).sum=m at*;rw[show(1+((m+JD S r:Nat):Int))=1+(m:Int)+(JD S r:Int)by omega]at hIR;have nR:=zH (IntWalk.wrap64_in ((k:Int)+1) zO);have uV:=zH (show wrap64 (1+(m:Int)+(JD S r:Int))=1+((m+JD S r:Nat):Int)by rw[IntWalk.wrap64_in _ zO];omega);have hEJ:=zH hlt;have kfr:=qa rfr;have zfr:=(zG.1 rfr).1;have kx:=And.intro d0 (And.intro d1 (And.intro d2 (And.intro d3 d4)));generalize xs[k]=x at*;clear yU rpr rtr rfr e5 e6 e7 e8 e9 hone dR hmg xC hb9 kx hg;go_wp2_with fail;generalize hwq:Z wr _=wq;have xq:Ext wr wq:=hwq▸zN _ _;clear hwq;refine(HC.out wq xq).mono ?_;clear HC;rintro e w5 ⟨rfl,hg5,g5,hm5,pI⟩;have IR:=zH (hIR.out wq w5 xq hg5 g5 hm5 pI);clear hg5 hm5 pI hIR d0 d1 d2 d3 d4 kfr zfr;have hwk':=nR.out;have hws':=uV.out;go_wp2_with fail;refine⟨IR.out,?_⟩;simp[intOf];omega
  obtain rfl:k=xs.length:=zO;rw[List.take_length,aW.out];have ktr:=qa rtr;clear yU rpr rfr;go_wp2_with (at_mapUpdate;refine qV ?_);refine Qm.go (jr _ rfl (.tmp 45) (.tmp 46) (.tmp 47) 109 rfl underlying109 underlying3 rfl rfl rfl hmg ?_);intro w4 hm4 hg4;have hR:Hid (w.grownBy w4 (D mb)/\∃g,QR w4 mb g/\Szs S g):=zH ⟨World.grownBy.trans (World.grownBy.trans (QP x3.out _) hg) hg4,_,hm4,xC.set a⟩;clear hmg hm4 hg4 xC hg ktr rtr;go_wp2_with fail;go_ret;exact⟨rfl,hR.out⟩
theorem qiA(S:Sto):∀h:Nat,SizeC S h
 |0=>qiB S 0 λ_ e=>zO
 |h+1=>qiB S (h+1) λh' e=>(show h=h' by omega)▸qiA S h
def jO(S:Sto)(dead:List Int):Nat:=(dead.map λd=>JD S d.toNat).sum
def qgN(S:Sto)(root next:Int)(dead:List Int)(w:Y)(e:Ending)(w':Y):Prop:=Below w w w' /\
 ((e=Oc (Od #[E Oa 0,E Oa 8])/\QI S root next dead)\/∃vs,Zy S root next dead vs/\e=Oc (Od #[(jO S dead:Int),E Oa 0]))
theorem qeQ{R:Ending->Y->Prop}{a:Act}(h4:a.tmps[2]?.getD undef=u)(h5:a.tmps[3]?.getD undef=v)(hd:a.defers=[])(hR:R (Oc (Od #[u,v])) W):bodyPost prog Tryz.f22 R .ret a W:=by refine bodyPost_ret (v:=Od #[u,v]) ?_ hd hR;simp[results,results22,go_sem,h4,h5]
theorem qas{root next:Int}(h:QH S root next dead vs):∀d∈dead,∃a:Nat,d=(a:Int)/\ZN S a:=λd hd=>
 Zl (h.ok d (by unfold QJ;exact List.mem_append_left _ (List.mem_cons_of_mem _ hd)))
structure LfI(S:Sto)(dead:List Int)(mb:Nat)(w3:Y)(v i:Oe)(wr:Y):Prop where
 ex:∃k:Nat,k<=dead.length/\i=E Oa (k:Int)/\v=E Oa ((jO S (dead.take k):Nat):Int)/\w3.grownBy wr (D mb)/\∃g,QR wr mb g/\Szs S g
theorem leftN_le(h:∀d∈dead,∃a:Nat,d=(a:Int)/\ZN S a)(hl:dead.length<=40):jO S dead<=40*7776:=by
 have key:∀n∈dead.map λd=>JD S d.toNat,n<=7776:=λn hn=>by obtain⟨d,hd,rfl⟩:=List.mem_map.1 hn;obtain⟨a,rfl,-,-,lvl,xs,hn,-⟩:=h d hd;rw[Int.toNat_natCast];exact GF hn
 have h1:=qkq key;rw[List.length_map]at h1;exact Nat.le_trans h1 (Nat.mul_le_mul_right _ hl)
set_option maxRecDepth 100000 in
theorem qcH(A1 n1 c1 A2 n2 c2 A3 n3 c3 A4 n4 c4)(gen root next:Int)(A5 c5)(S:Sto)(dead:List Int)(w:Y)(h:Qh w w (s A1 n1 c1) (s A2 n2 c2) (s A3 n3 c3) (s A4 n4 c4) S)(hd:ZS w w (s A5 dead.length c5) dead):Calls prog 22 #[.agg (qR (s A1 n1 c1) (s A2 n2 c2) (s A3 n3 c3) (s A4 n4 c4) gen root next (s A5 dead.length c5))] w (qgN S root next dead w):=by
 have HC:=zH (λW (hx:Ext w W)=>UW A1 n1 c1 A2 n2 c2 A3 n3 c3 A4 n4 c4 gen root next A5 c5 S dead W (h.ext hx) (hd.ext_ hx));have hmf:∀(fn:Fn)(first cap:Array Oe)(w:Y),(Instr.makeFunc fn first cap).run prog w=.ok (.func fn first cap) w:=λ_ _ _ _=>rfl;replace⟨h,hd⟩:=zH2 h hd;go_enter func22,ntmps22;go_wp2_with fail;generalize aA:Z w _=w1;have x1:Ext w w1:=aA▸zN _ _;have rp1:w1.heap[w.heap.size]?=D (U (qR (s A1 n1 c1) (s A2 n2 c2) (s A3 n3 c3) (s A4 n4 c4) gen root next (s A5 dead.length c5)) 32 (0,0)):=aA▸zI _ _ _ rfl;have kp1:=qa rp1;clear aA;go_wp2_with fail;refine(HC.out w1 x1).mono ?_;clear HC;rintro e w2 ⟨hB,hQ⟩;have x2:Ext w w2:=x1.trans hB;have rp2:=qb rp1 hB;clear hB rp1 kp1 x1;rcases hQ with⟨rfl,bQ⟩|⟨rfl,vs,refs,nodes,hp,di,tJ⟩
 ·replace bQ:=zH bQ;go_wp2_with fail;exact qeQ rfl rfl rfl ⟨x2,.inl ⟨rfl,bQ.out⟩⟩
 have hok:=zH (⟨refs,nodes,hp,di,tJ⟩:Zy S root next dead vs);have hdt:=zH (qas hp);have hS:=zH hp.may;have h40:dead.length<=40:=hp.few;clear hp di tJ;have hmm:=λW=>run_mm 109 W;go_upto_region 7 with fail;generalize aP:Z (Z (Z w2 _) _) _=w3;have x23:Ext w2 w3:=by rw[<-aP];exact((zN _ _).trans (zN _ _)).trans (zN _ _)
 have x3:Ext w w3:=x2.trans x23;have rp3:=qb rp2 x23;have hmt:QR w3 w2 λ_=>F:=(QR.empty w2).of_heap (by rw[<-aP];exact(zK _ _ _ zA2).trans (zK _ _ _ zA3));have rt3:w3.heap[w2.heap.size+1]?=D (U #[.map (D w2.heap.size)] 109):=by rw[<-aP];exact(zK _ _ _ zA3).trans (zI _ _ _ zA3)
 have rf3:w3.heap[w2.heap.size+1+1]?=D (U #[.func (.func 71) #[] #[O (w2,1,0),O w,O (D ⟨w2.heap.size+1+1,0,F⟩)]] 110):=aP▸zI _ _ _ zA3;have kp3:=qa rp3;have kf3:=qa rf3;have z2:=x2.size;have hd3:=hd.out.ext_ x3;have lN:=zH (h.out.ext x3);have hgm:=zH (λW (hg:w3.grownBy W (D w2.heap.size))=>(⟨⟨Ka hg hmt rp3,Ka hg hmt rt3,Ka hg hmt rf3⟩,(lN.out.some_ (λp v hp=>Xc hg hmt hp)).more hg.size⟩:(W.heap[w.heap.size]?=_/\W.heap[w2.heap.size+1]?=_/\W.heap[w2.heap.size+1+1]?=_)/\Qh W W.heap.size (s A1 n1 c1) (s A2 n2 c2) (s A3 n3 c3) (s A4 n4 c4) S));have hgc:=zH (λW (hg:w3.grownBy W (D w2.heap.size)) (p:Addr) v (hp:w3.cell? p=D v)=>Xc hg hmt hp);have I0:=zH (⟨0,Nat.zero_le _,rfl,by simp[jO],QP (Ext.refl _) _,_,hmt,λa v e=>by cases e⟩:LfI S dead w2.heap.size w3 (E Oa 0) (E Oa 0) w3);obtain⟨A,c,e,h1,-,hr⟩:=hd3;cases e;have sH:=hr.2;clear aP rp2 x23 hmm rp3 rt3 rf3 hmt lN hr h1 hd h;go_wp2_with fail;go_loopw [2,8,19] (λv _ i wr=>LfI S dead w2.heap.size w3 v i wr) (λ_ _ i _=>dead.length-(intOf i).toNat)
 case atStart=>exact I0.out
 case round=>
  obtain⟨k,hk,rfl,rfl,hg,g,hmg,xC⟩:=hrel.ex;clear hrel I0;obtain⟨⟨rpr,rtr,rfr⟩,yU⟩:=hgm.out wr hg;by_cases hlt:k<dead.length
  ·obtain⟨b9,off,rfl,hb9,hc⟩:=sH zO;obtain⟨a,e5,e6,e7,lvl,ys,e8,e9⟩:=hdt.out dead[k] (List.getElem_mem hlt);have d0:=hgc.out wr hg _ _ (hc k (E Oa dead[k]) (by simp[hlt]));rw[e5]at d0;have dR:jO S (dead.take (k+1))=jO S (dead.take k)+JD S a:=by unfold jO;rw[List.take_succ_eq_append_getElem hlt,List.map_append,List.sum_append];simp[e5]
   have hT:=GF e8;have hm7:jO S (dead.take k)<=40*7776:=leftN_le (λd hd=>hdt.out d (List.mem_of_mem_take hd)) (by rw[List.length_take];omega);have HC:=qiA S lvl a ys A1 n1 c1 A2 n2 c2 A3 n3 c3 A4 n4 c4 (E .u32 gen) (E Oa root) (E .u32 next) (s (D ⟨b9,off,F⟩) dead.length c5) g w.heap.size (w2.heap.size+1) (w2.heap.size+1+1) w2.heap.size wr hS.out yU e6 e7 e8 e9 rpr rtr rfr hmg xC;have hIR:=zH (λw5 (hg5:wr.grownBy w5 (D w2.heap.size)) g5 (hm5:QR w5 w2.heap.size g5) (pI:Szs S g5)=>(⟨k+1,hlt,rfl,rfl,World.grownBy.trans hg hg5,g5,hm5,pI⟩:LfI S dead w2.heap.size w3 (E Oa ((jO S (dead.take (k+1)):Nat):Int)) (E Oa ((k:Int)+1)) w5));rw[dR]at hIR;generalize jO S (dead.take k)=m at*;have nR:=zH (IntWalk.wrap64_in ((k:Int)+1) zO);have uV:=zH (show wrap64 ((m:Int)+(JD S a:Int))=((m+JD S a:Nat):Int)by rw[IntWalk.wrap64_in _ zO];omega);have kfr:=qa rfr;replace HC:=zH HC;clear yU rpr rtr rfr e5 e6 e7 e8 e9 dR hmg xC hb9 hg hc kp3 kf3;go_wp2_with fail;refine HC.out.mono ?_;clear HC;rintro e w5 ⟨rfl,hg5,g5,hm5,pI⟩;have IR:=zH (hIR.out w5 hg5 g5 hm5 pI);clear hg5 hm5 pI hIR d0 kfr;have hwk':=nR.out;have hws':=uV.out;go_wp2_with fail;refine⟨IR.out,?_⟩;simp[intOf];omega
  obtain rfl:k=dead.length:=zO;rw[List.take_length];have x4:=zH (Below.grown x3 hg x3.size (λk hk=>by cases hk;exact z2));clear yU rpr rtr rfr hmg hg;go_wp2_with fail;exact qeQ rfl rfl rfl ⟨x4.out,.inr ⟨vs,hok.out,rfl⟩⟩
end Go.Proofs.YtmeadnlmepcmbaaGreat
