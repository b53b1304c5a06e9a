/- Lemmas of the proof. -/
import Derived.Test.YtmeadnlmepcmbaaGreatZG24
set_option linter.all false
set_option maxHeartbeats 8000000
open Go.Proofs.Tryz
namespace Go.Proofs.YtmeadnlmepcmbaaGreat
open Go.RowKit
set_option maxRecDepth 100000 in
theorem qis(S:Sto)(hS:qm S=true)(k i o:Int)(lo l N:Nat)(M:World->Nat->Prop)(J Jx:List X3->World->Prop)(A1 n1 c1 A2 n2 c2 A3 n3 c3 A4 n4 c4)(HC:Uu lo M J Jx l N)(bS bF bR:Nat)(w:World)(hlo:lo<=w.heap.size)(hst:Qq w lo (.slice A1 n1 c1) (.slice A2 n2 c2) (.slice A3 n3 c3) (.slice A4 n4 c4) S)(hs:w.heap[bS]?=some (.cells #[.slice A1 n1 c1,.slice A2 n2 c2,.slice A3 n3 c3,.slice A4 n4 c4] 28 (0,0)))(hf:w.heap[bF]?=some (.cells #[.int .u8 k,.int .u32 i,.int .u32 o] 49 (0,0)))(a lvl:Nat)(xs:List It)(hr:w.heap[bR]?=some (.cells #[.int .i64 (a:Int)] 3 (0,0)))(hnf:¬M w bF)(ha:8<=a)(ha2:a<256)(hn:qk S a=some ((lvl:Int),xs))(hsp:(qz S lvl xs).isSome=true)(hN:(QS S lvl (k,i,o) xs).length<=N)(hJ:J [] w):Calls prog 178 #[.func (.yield l) #[] #[],.pointer (some ⟨bS,0,none⟩),.pointer (some ⟨bF,0,none⟩),.pointer (some ⟨bR,0,none⟩)] w λe W'=>(∃v,e=.returned v)/\((∃ys:List X3,ys.map (·.1)=QS S lvl (k,i,o) xs/\J ys W')\/∃(ys:List X3)(rest:List It),ys.map (·.1)++rest=QS S lvl (k,i,o) xs/\Jx ys W'):=by
 have HON:=zH (λW (hx:Ext w W)=>qfa A1 n1 c1 A2 n2 c2 A3 n3 c3 A4 n4 c4 S (by have:=(Qb hS).2.2.1;omega) W ((hst.more hlo).ext hx));have hLW:Qq w lo (.slice A1 n1 c1) (.slice A2 n2 n2) (.slice A3 n3 c3) (.slice A4 n4 c4) S:=⟨hst.bs,hst.ws.clip,hst.now,hst.last⟩
 have ks:=qa hs;have zs:bS<w.heap.size:=(zG.1 hs).1;have zr:bR<w.heap.size:=(zG.1 hr).1;replace⟨hst,hf,hr,hnf,hn,hsp⟩:=zH6 hLW hf hr hnf hn hsp;replace⟨hN,hJ,HC,hS⟩:=zH4 hN hJ HC hS;clear hLW;go_enter func178,ntmps178;go_wp2_with fail;generalize hw1:(World.alloc w _)=w1;have x1:Ext w w1:=by rw[<-hw1];exact zN _ _
 have ry1:w1.heap[w.heap.size]?=some (.cells #[.func (.yield l) #[] #[]] 249 (0,0)):=by rw[<-hw1];exact zI _ _ _ rfl
 clear hw1;refine(HON.out w1 x1).mono ?_;clear HON;rintro e w2 ⟨u,rfl,⟨bb,A3',c3',rfl,hOn,hfr3⟩,hB⟩;have x2:Ext w w2:=x1.trans hB;have ry2:=zH (qb ry1 hB);have hfr:=zH (hfr3.mono x1.size);have hbb:=zH (Nat.le_trans x1.size hOn.1);replace hOn:=zH hOn;have kr2:=qa (qb hr.out x2);have zr2:bR<w2.heap.size:=Nat.lt_of_lt_of_le zr x2.size;clear hB ry1 x1 ks hfr3;go_wp2_with fail;generalize hw3:(World.alloc (World.alloc w2 _) _)=w3;have x23:Ext w2 w3:=by rw[<-hw3];exact(zN _ _).trans (zN _ _)
 have rb3:w3.heap[w2.heap.size]?=some (.cells #[.pointer (some ⟨bb,0,none⟩)] 92 (0,0)):=by rw[<-hw3];exact(zK _ _ _ zA3).trans (zI _ _ _ rfl)
 have rd3:w3.heap[w2.heap.size+1]?=some (.cells #[.func (.func 179) #[] #[.pointer (some ⟨w2.heap.size,0,none⟩),.pointer (some ⟨bF,0,none⟩),.pointer (some ⟨w.heap.size,0,none⟩),.pointer (some ⟨w2.heap.size+1,0,none⟩)]] 250 (0,0)):=by rw[<-hw3];exact zI _ _ _ zA3
 have x3:Ext w w3:=x2.trans x23;have hw2s:=x2.size;have NW:∀b,w.heap.size<=b->¬M w3 b:=λb hb=>HC.out.new hJ.out x3 hb;have hB0:∀W,ZX M w3 W->Below lo w3 W:=λW hk=>hk.below (Nat.le_trans hlo x3.size) λb hb hm=>absurd (HC.out.low _ _ hm) zO;have hst3:=hst.out.below (Below.mono x3 hlo);have wHP:Bys w3 w3.heap.size (.slice A3' n3 c3') S.now:=(hOn.out.2.2.now.below x23).more x23.size;have hbb3:=qb hOn.out.2.1 x23;have ry3:=qb ry2.out x23;have rf3:=qb hf.out x3;have hnf3:¬M w3 bF:=λh=>hnf.out ((HC.out.ext _ _ _ hJ.out x3).2 _ h);have HE:∀W,ZX M w3 W->EnvX S (k,i,o) M l w2.heap.size bF w.heap.size (w2.heap.size+1) bb (.slice A1 n1 c1) (.slice A2 n2 n2) (.slice A3' n3 c3') (.slice A4 n4 c4) W:=λW hk=>by
  have hS4:=hst3.below (hB0 W hk);have hsz:lo<=W.heap.size:=by have:=hk.size;have:=x3.size;omega
  refine⟨hk.row (NW _ zO) rb3,hk.row hnf3 rf3,hk.row (NW _ (zM _)) ry3,hk.row (NW _ zO) rd3,Nat.zero_le _,hk.row (NW _ hbb.out) hbb3,hS4.bs.more hsz,hS4.ws.more hsz,?_,hS4.last.more hsz⟩;exact(wHP.keepF λq hq ⟨A,n,c,e,hb⟩=>hk.cell hq (NW _ (by rw[hb];exact hfr.out A n c e))).more hk.size
 have HD:=qgs S hS.out k i o lo l N w2.heap.size bF w.heap.size (w2.heap.size+1) bb M J Jx A1 n1 c1 A2 n2 n2 A3' n3 c3' A4 n4 c4 (ZX M w3) HC.out HE (λW W' h1 h2=>h1.trans h2) (λW hk=>by have:=hk.size;have:=x3.size;omega) lvl
  a xs [] w3 ha ha2 hn.out hsp.out (HC.out.ext _ _ _ hJ.out x3).1 (ZX.refl _ _) (by simpa using hN.out)
 refine HD.mono ?_;clear HD HE NW hB0 hst3 wHP hbb3 ry3 rf3 hnf3 rb3 rd3 hw3;rintro e w4 (⟨rfl,ys,hy,hJ4,-⟩|⟨rfl,ys,rest,hy,hJ4⟩)
 ·rw[List.nil_append]at hJ4;replace⟨hJ4,hy⟩:=zH2 hJ4 hy;go_wp2_with fail;go_end0;exact⟨⟨_,rfl⟩,.inl ⟨ys,hy.out,hJ4.out⟩⟩
 ·rw[List.nil_append]at hJ4;replace⟨hJ4,hy⟩:=zH2 hJ4 hy;go_wp2_with fail;go_end0;exact⟨⟨_,rfl⟩,.inr ⟨ys,rest,hy.out,hJ4.out⟩⟩
def MX(B:Nat)(M0:World->Nat->Prop)(W:World)(b:Nat):Prop:=b=B\/b=B+1\/M0 W b
structure Tw(B:Nat)(W W':World):Prop where
 os:W'.os=W.os
 tape:W'.tape=W.tape
 output:W'.output=W.output
 size:W.heap.size<=W'.heap.size
 same:∀k,k<W.heap.size->k≠B->k≠B+1->W'.heap[k]?=W.heap[k]?
theorem Tw.of_ext{B:Nat}{W W':World}(h:Ext W W'):Tw B W W':=⟨h.os,h.tape,h.output,h.size,λk hk _ _=>h.block k hk⟩
theorem Tw.put{B:Nat}(W:World)(o:Obj):Tw B W (W.putObj (B+1) o):=⟨rfl,rfl,rfl,by simp[World.putObj],λk _ _ h=>World.putObj_heap_other h⟩
def roundX(B:Nat)(M0:World->Nat->Prop)(I Ix:List X3->World->Prop)(xs:List X3)(W:World):Exit->Act->World->Prop
 |.normal,_,W'=>(ZX (MX B M0) W W'/\W'.heap[B]?=W.heap[B]?/\W'.heap[B+1]?=W.heap[B+1]?)/\I xs W'
 |.exit id,_,W'=>(W'.heap[B]?=W.heap[B]?/\W'.heap[B+1]?=W.heap[B+1]?)/\id=0/\Ix xs W'
 |_,_,_=>False
theorem qhf{n:Nat}{g:Operand}{p:Tmp}{assign body:Code}{Q:Exit->Act->World->Prop}{a:Act}{w:World}(hn:1<=n){gf:Nat}{lb:Array Value}(hg:a.eval g=.func (.func gf) #[] lb)(eg:∀args w,(callFunc gf args).run prog w=.ok (.enter gf args) w)(lo N:Nat)(M0:World->Nat->Prop)(I Ix:List X3->World->Prop)(zs:List It)(hlo:lo<=w.heap.size)(hM:∀W b,M0 W b->lo<=b)(hI:∀pre W W',I pre W->Tw w.heap.size W W'->I pre W'/\∀b,M0 W' b->M0 W b)(hIx:∀pre W W',Ix pre W->Tw w.heap.size W W'->Ix pre W')(hlt:∀pre W b,I pre W->M0 W b->b<W.heap.size)(h0:I [] w)(wWI:∀(J Jx:List X3->World->Prop)(W:World),Ext w W->Uu lo (MX w.heap.size M0) J Jx (w.heap.size+1) N->J [] W ->
   CallsIn Fence.wide (n-1) prog gf (#[.func (.yield (w.heap.size+1)) #[] #[]]++lb) W λe W'=>(∃v,e=.returned v)/\((∃xs:List X3,xs.map (·.1)=zs/\J xs W')\/∃(xs:List X3)(rest:List It),xs.map (·.1)++rest=zs/\Jx xs W'))
  (a1:Nat->X3->Act) (ty:TypeId)
  (wMN:∀(m:Nat)(x:X3)(W:World)(K:Act->World->Prop),K (a1 W.heap.size x) (W.alloc (.cells (YI x.1 x.2.1 x.2.2) ty)) ->
   assign.wpIn (Fence.wide.inRound (w.heap.size+1)) m prog (Exit.then K (λ_ _ _=>False)) {tmps:=a.tmps.setIfInBounds p (encX x),defers:=[]} W)
  (wVJ:∀(m:Nat)(pre:List X3)(x:X3)(bx:Nat)(W:World),w.heap.size+1<bx->W.heap[bx]?=some (.cells (YI x.1 x.2.1 x.2.2) ty (0,0))->¬M0 W bx->I pre W->FctX (MX w.heap.size M0) lo x W->pre.length<N ->
   body.wpIn (Fence.wide.inRound (w.heap.size+1)) m prog (roundX w.heap.size M0 I Ix (pre++[x]) W) (a1 bx x) W)
  (wVX:∀(xs:List X3)(W:World),xs.map (·.1)=zs->I xs W->W.heap[w.heap.size]?=some (.deferred (some []))->Q .normal {a with defers:={target:=.collected w.heap.size,args:=#[]}::a.defers} W)
  (wYC:∀(xs:List X3)(rest:List It)(W:World),xs.map (·.1)++rest=zs->Ix xs W->W.heap[w.heap.size]?=some (.deferred (some []))->(Code.exit 0).wpIn Fence.wide n prog Q {a with defers:={target:=.collected w.heap.size,args:=#[]}::a.defers} W) :
  (Code.rangeFunc g #[p] assign body).wpIn Fence.wide n prog Q a w:=by
 obtain⟨B,hB⟩:∃B,B=w.heap.size:=⟨_,rfl⟩
 refine wpIn_rangeFunc λfn hfn=>?_;obtain⟨R,hR⟩:∃R:LoopState->Option Code->Loop,R=λst pe=>{state:=st,pending:=pe,fn,tmps:=a.tmps,params:=#[p],assign,body,defers:=w.heap.size}:=⟨_,rfl⟩
 obtain⟨W1,hW1⟩:∃W1,(w.alloc (.deferred (some []))).alloc (.loop (R .ready none))=W1:=⟨_,rfl⟩
 have x1:Ext w W1:=by rw[<-hW1];exact(zN _ _).trans (zN _ _)
 have hl1:W1.heap[w.heap.size+1]?=some (.loop (R .ready none)):=by
  rw[<-hW1];have:=World.alloc_heap_new (w.alloc (.deferred (some []))) (.loop (R .ready none))
  rwa [World.size_alloc]at this
 have hd1:W1.heap[w.heap.size]?=some (.deferred (some [])):=by rw[<-hW1];exact(zK _ _ _ zA3).trans (World.alloc_heap_new w _)
 have hI1:=(hI [] w W1 h0 (Tw.of_ext x1)).1;have KT:∀{pre:List X3}{W W':World},I pre W->Tw w.heap.size W W'->ZX (MX w.heap.size M0) W W':=λhi ht=>
  ⟨ht.os,ht.tape,ht.output,ht.size,λb hb hm=>⟨ht.same b hb (λe=>hm (.inl e)) (λe=>hm (.inr (.inl e))),λh=>hm (by
   rcases h with h|h|h
   ·exact .inl h
   ·exact .inr (.inl h)
   ·exact .inr (.inr ((hI _ _ _ hi ht).2 b h)))⟩⟩
 have HC:Uu lo (MX w.heap.size M0) (λpre W=>I pre W/\W.heap[w.heap.size+1]?=some (.loop (R .ready none))/\W.heap[w.heap.size]?=some (.deferred (some [])))
   (λpre W=>Ix pre W/\W.heap[w.heap.size+1]?=some (.loop (R .done (some (.exit 0))))/\W.heap[w.heap.size]?=some (.deferred (some []))) (w.heap.size+1) N:=by
  refine⟨λW b h=>?_,λpre W b hJ h=>?_,λpre W W' hJ hx=>⟨⟨(hI _ _ _ hJ.1 (Tw.of_ext hx)).1,qb hJ.2.1 hx,qb hJ.2.2 hx⟩,λb h=>?_⟩,λm pre x W hJ hF hN=>?_⟩
  ·rcases h with rfl|rfl|h
   ·exact hlo
   ·omega
   ·exact hM W b h
  ·have:=(zG.1 hJ.2.1).1;rcases h with rfl|rfl|h
   ·omega
   ·omega
   ·exact hlt _ _ _ hJ.1 h
  ·rcases h with h|h|h
   ·exact .inl h
   ·exact .inr (.inl h)
   ·exact .inr (.inr ((hI _ _ _ hJ.1 (Tw.of_ext hx)).2 b h))
  ·obtain⟨hi,hl,hd⟩:=hJ;have hy:=run_yield (P:=prog) (args:=#[encX x]) hl (by rw[hR];rfl);rw[hR]at hy;have hy':(Instr.yield (w.heap.size+1) #[encX x]).run prog W=.ok (.round (w.heap.size+1) fn (a.tmps.setIfInBounds p (encX x)) assign body) W:=by rw[hy];simp
   clear hy;have hsz:w.heap.size+1<W.heap.size:=(zG.1 hl).1;refine⟨fn,_,assign,body,hy',roundIn_of_wpIn hfn ?_⟩;refine wMN m x W _ ?_;have xa:Ext W (W.alloc (.cells (YI x.1 x.2.1 x.2.2) ty)):=zN _ _;have ra:(W.alloc (.cells (YI x.1 x.2.1 x.2.2) ty)).heap[W.heap.size]?=some (.cells (YI x.1 x.2.1 x.2.2) ty (0,0)):=zI _ _ _ rfl;generalize W.alloc (.cells (YI x.1 x.2.1 x.2.2) ty)=Wa at*;have hla:=qb hl xa;have hda:=qb hd xa;have hia:=hI _ _ _ hi (Tw.of_ext xa);refine⟨_,run_beginRound hla (by rw[hR]),?_⟩;have hla2:(Wa.putObj (w.heap.size+1) (.loop {R .ready none with state:=.busy})).heap[w.heap.size+1]?=some (.loop {R .ready none with state:=.busy}):=World.putObj_heap_same (zG.1 hla).1;have hda2:(Wa.putObj (w.heap.size+1) (.loop {R .ready none with state:=.busy})).heap[w.heap.size]?=some (.deferred (some [])):=(World.putObj_heap_other zO).trans hda;have tb:=Tw.put (B:=w.heap.size) Wa (.loop {R .ready none with state:=.busy});have hib:=hI _ _ _ hia.1 tb;have rb:(Wa.putObj (w.heap.size+1) (.loop {R .ready none with state:=.busy})).heap[W.heap.size]?=_:=(World.putObj_heap_other zO).trans ra;have kb:ZX (MX w.heap.size M0) W (Wa.putObj (w.heap.size+1) (.loop {R .ready none with state:=.busy})):=(KT hi (Tw.of_ext xa)).trans (KT hia.1 tb);have hnm:¬M0 (Wa.putObj (w.heap.size+1) (.loop {R .ready none with state:=.busy})) W.heap.size:=λh=>by have:=hlt _ _ _ hi (hia.2 _ (hib.2 _ h));omega
   generalize Wa.putObj (w.heap.size+1) (.loop {R .ready none with state:=.busy})=Wb at*;refine wpIn_mono (wVJ m pre x W.heap.size Wb hsz rb hnm hib.1 (hF.kept kb) hN) ?_;rintro e a3 W3 hp;have fin:∀jump:Option Code,W3.heap[w.heap.size]?=Wb.heap[w.heap.size]?->W3.heap[w.heap.size+1]?=Wb.heap[w.heap.size+1]? ->
     (Instr.endRound (w.heap.size+1) jump).run prog W3=.ok (.bool jump.isNone) (W3.putObj (w.heap.size+1) (.loop (R (if jump.isNone then .ready else .done) jump))) /\
     (W3.putObj (w.heap.size+1) (.loop (R (if jump.isNone then .ready else .done) jump))).heap[w.heap.size+1]?=some (.loop (R (if jump.isNone then .ready else .done) jump)) /\
     (W3.putObj (w.heap.size+1) (.loop (R (if jump.isNone then .ready else .done) jump))).heap[w.heap.size]?=some (.deferred (some [])):=λjump e1 e2=>by
    have hl3:=e2.trans hla2;have h1:=run_endRound (P:=prog) jump hl3;rw[hR]at h1⊢;exact⟨h1,World.putObj_heap_same (zG.1 hl3).1,(World.putObj_heap_other zO).trans (e1.trans hda2)⟩
   cases e with
   |normal=>
    obtain⟨⟨hk3,e1,e2⟩,hi3⟩:=hp;obtain⟨f1,f2,f3⟩:=fin none e1 e2;have t3:=Tw.put (B:=w.heap.size) W3 (.loop (R .ready none));exact⟨_,_,f1,.inl ⟨rfl,⟨(hI _ _ _ hi3 t3).1,f2,f3⟩,(kb.trans hk3).trans (KT hi3 t3)⟩⟩
   |exit id=>
    obtain⟨⟨e1,e2⟩,rfl,hi3⟩:=hp;obtain⟨f1,f2,f3⟩:=fin (some (.exit 0)) e1 e2;exact⟨_,_,f1,.inr ⟨rfl,hIx _ _ _ hi3 (Tw.put _ _),f2,f3⟩⟩
   |ret=>exact hp.elim
   |goto t=>exact hp.elim
   |panic ch=>exact hp.elim
   |outgrown=>exact hp.elim
 refine⟨w.heap.size+1,[{target:=.collected w.heap.size,args:=#[]}],W1,{target:=.fn (.func gf) lb,args:=#[.func (.yield (w.heap.size+1)) #[] #[]]},W1,gf,
  #[.func (.yield (w.heap.size+1)) #[] #[]]++lb,W1,?_,?_,?_,?_,λ_=>hn,?_⟩
 ·rw[<-hW1,hR];exact run_enterLoop_outer _ _ _ _ _
 ·simp only[resolve,hg];simp[go_sem]
 ·intro f' hf';exact trivial
 ·simp[invoke,go_sem,eg]
 ·refine(wWI _ _ W1 x1 HC ⟨hI1,hl1,hd1⟩).mono ?_;rintro e W2 ⟨⟨v,rfl⟩,(⟨xs,hS,hi,hl,hd⟩|⟨xs,rest,hS,hi,hl,hd⟩)⟩
  ·have h1:=run_endLoop (P:=prog) hl (by rw[hR];simp);rw[hR]at h1;exact⟨none,_,h1,wVX xs _ hS (hI _ _ _ hi (Tw.put _ _)).1 ((World.putObj_heap_other zO).trans hd)⟩
  ·have h1:=run_endLoop (P:=prog) hl (by rw[hR];simp);rw[hR]at h1;exact⟨some (.exit 0),_,h1,wYC xs rest _ hS (hIx _ _ _ hi (Tw.put _ _)) ((World.putObj_heap_other zO).trans hd)⟩
theorem qeL{W W':World}{v:Value}{l:List UInt8}(h:Bys W W.heap.size v l)(hs:W.heap.size<=W'.heap.size)(hk:∀b o n c,v=.slice (some ⟨b,o,none⟩) n c->0<l.length->W'.heap[b]?=W.heap[b]?):Bys W' W'.heap.size v l:=by obtain⟨A,c,e,hc,hm,hr⟩:=h;refine⟨A,c,e,hc,hm,hr.1,λhp=>?_⟩;obtain⟨b,off,rfl,hb,hAL⟩:=hr.2 hp;exact⟨b,off,rfl,zO,λj u hu=>(World.cell?_of_block (w:=W) (hk b off _ _ e hp)).trans (hAL j u hu)⟩
theorem qjR{w w':World}{base n size:Nat}{e:TypeId}{v:Value}{xs:List Value}(h:w.ownsRow base e size v n xs)(hk:∀g,v.ownBlock=some g->w'.heap[g]?=w.heap[g]?):w'.ownsRow base e size v n xs:=
 ⟨h.1,h.2.imp id λ⟨g,cap,cur,h1,h2,h3,h4⟩=>⟨g,cap,cur,h1,h2,(hk g (by rw[h1];rfl)).trans h3,h4⟩⟩
def M0(lo:Nat)(W:World)(b:Nat):Prop:=b=lo+3\/∃v,W.cell? ⟨lo+3,0,none⟩=some v/\v.ownBlock=some b/\lo<=b
structure RgI(lo B:Nat)(K:K3)(w:World)(pre:List X3)(v:Value)(W:World):Prop where
 ro:W.heap[lo+3]?=some (.cells #[v] 55 (0,0))
 rt:W.heap[lo+2]?=some (.cells #[.int .u8 K.1,.int .u32 K.2.1,.int .u32 K.2.2] 49 (0,0))
 row:Kr (B+2) lo W v (pre.map λx=>(x.1,JL x))
 nz:∀x∈pre,Nz W (JL x)
 off:∀x∈pre,∀b o,x.2.1=some ⟨b,o,none⟩->0<x.1.val.length->b≠lo+3/\b≠B/\b≠B+1
 le:∀x∈pre,qV K (qp x.1)=false
 blw:Below lo w W
theorem nz_blk{W W':World}{x:X3}(hb:Bys W W.heap.size (JL x) x.1.val)(h:Nz W (JL x))(hk:∀b o,x.2.1=some ⟨b,o,none⟩->0<x.1.val.length->W'.heap[b]?=W.heap[b]?):Nz W' (JL x):=λa n c e hn=>by
 obtain⟨cs,ty,hr⟩:=h a n c e hn;obtain⟨A,c',e1,-,-,h4⟩:=hb;simp only[JL,Value.slice.injEq]at e e1;obtain⟨b',off,e4,-,-⟩:=h4.2 zO;have e5:a=⟨b',off,none⟩:=by
  have:some a=some ⟨b',off,none⟩:=by rw[<-e.1,e1.1,e4]
  exact Option.some.inj this
 subst e5;exact⟨cs,ty,(hk b' off e.1 zO).trans hr⟩
theorem RgI.mem{lo B:Nat}{K:K3}{w W:World}{pre:List X3}{v:Value}(h:RgI lo B K w pre v W){x:X3}(hx:x∈pre):Zw lo (JL x)/\Bys W W.heap.size (JL x) x.1.val/\Xb v (JL x):=by have:=h.row.2 (x.1,JL x) (List.mem_map.2 ⟨x,hx,rfl⟩);exact⟨this.1.2,this.2.1,this.2.2⟩
theorem RgI.blk{lo B:Nat}{K:K3}{w W W':World}{pre:List X3}{v:Value}(h:RgI lo B K w pre v W)(hB:lo+3<B)(hs:W.heap.size<=W'.heap.size)(hk:∀b,b<W.heap.size->b≠B->b≠B+1->W'.heap[b]?=W.heap[b]?)(hb:Below lo w W'):RgI lo B K w pre v W':=by
 have hbl:∀x∈pre,∀b o,x.2.1=some ⟨b,o,none⟩->0<x.1.val.length->W'.heap[b]?=W.heap[b]?:=λx hx b o e hp=>by obtain⟨-,h2,h3⟩:=h.off x hx b o e hp;obtain⟨-,hy,-⟩:=h.mem hx;obtain⟨A,c,e1,-,-,hr⟩:=hy;obtain⟨b',o',e4,e5,-⟩:=hr.2 hp;simp only[JL,Value.slice.injEq]at e1;rw[e,e4]at e1;simp only[Option.some.injEq,Addr.mk.injEq]at e1;exact hk b zO h2 h3
 have z3:=(zG.1 h.ro).1;refine⟨(hk _ z3 zO zO).trans h.ro,(hk _ zO zO zO).trans h.rt,⟨qjR h.row.1 λg hg=>?_,λp hp=>?_⟩,λx hx=>nz_blk (h.mem hx).2.1 (h.nz x hx) (hbl x hx),h.off,h.le,hb⟩
 ·have:=QM h.row.1 g hg;exact hk g this.2 zO zO
 ·obtain⟨x,hx,rfl⟩:=List.mem_map.1 hp;refine⟨(h.row.2 _ hp).1,qeL (h.mem hx).2.1 hs (λb o n c e hp'=>hbl x hx b o ?_ hp'),(h.row.2 _ hp).2.2⟩;simp only[JL,Value.slice.injEq]at e;exact e.1
theorem RgI.tw{lo B:Nat}{K:K3}{w W W':World}{pre:List X3}{v:Value}(h:RgI lo B K w pre v W)(hB:lo+3<B)(ht:Tw B W W'):RgI lo B K w pre v W'/\∀b,M0 lo W' b->M0 lo W b:=by
 have z3:=(zG.1 h.ro).1;refine⟨h.blk hB ht.size ht.same ?_,λb hb=>?_⟩
 ·exact h.blw.trans ⟨ht.os,ht.tape,ht.output,ht.size,λk hk=>ht.same k zO zO zO⟩
 ·rcases hb with hb|⟨v',h1,h2⟩
  ·exact .inl hb
  ·have hs:W'.heap[(⟨lo+3,0,none⟩:Addr).block]?=W.heap[(⟨lo+3,0,none⟩:Addr).block]?:=ht.same (lo+3) z3 zO zO;rw[World.cell?_of_block hs]at h1;exact .inr ⟨v',h1,h2⟩
theorem RgI.lt{lo B:Nat}{K:K3}{w W:World}{pre:List X3}{v:Value}(h:RgI lo B K w pre v W){b:Nat}(hb:M0 lo W b):b<W.heap.size:=by
 rcases hb with rfl|⟨v',h1,h2,-⟩
 ·exact(zG.1 h.ro).1
 ·rw[qa h.ro]at h1;cases h1;exact(QM h.row.1 b h2).2
theorem RgI.push{lo B:Nat}{K:K3}{w W W':World}{pre:List X3}{v v':Value}(h:RgI lo B K w pre v W)(hB:lo+3<B)(hBW:B+1<W.heap.size){x:X3}(hF:FctX (MX B (M0 lo)) lo x W)(hl:qV K (qp x.1)=false)(hD:Done (B+2) 51 5 W.heap.size v (pre.length+1) (qC (pre.map λx=>(x.1,JL x))++qaw x.1 (JL x)) v' W')(hg:W.grownBy W' v.ownBlock):RgI lo B K w (pre++[x]) v' (W'.setCell ⟨lo+3,0,none⟩ v')/\(ZX (MX B (M0 lo)) W (W'.setCell ⟨lo+3,0,none⟩ v')/\(W'.setCell ⟨lo+3,0,none⟩ v').heap[B]?=W.heap[B]?/\(W'.setCell ⟨lo+3,0,none⟩ v').heap[B+1]?=W.heap[B+1]?):=by
 have z3:=(zG.1 h.ro).1;have hvl:=QM h.row.1;have hxo:∀b o,x.2.1=some ⟨b,o,none⟩->0<x.1.val.length->b≠lo+3/\b≠B/\b≠B+1/\v.ownBlock≠some b:=λb o e hp=>by have hm:=hF.own b o e hp;refine⟨λe=>hm (.inr (.inr (.inl e))),λe=>hm (.inl e),λe=>hm (.inr (.inl e)),λe'=>hm (.inr (.inr (.inr ⟨v,qa h.ro 0,e',?_⟩)))⟩;have:=hF.fr ⟨b,o,none⟩ _ _ (by rw[<-e]);exact this
 have hap:Xb v (JL x):=λa n c e hn=>by
  obtain⟨A,c',e1,-,-,h4⟩:=hF.by_;simp only[JL,Value.slice.injEq]at e e1;obtain⟨b',off,e4,-,-⟩:=h4.2 zO;have e5:a=⟨b',off,none⟩:=by
   have:some a=some ⟨b',off,none⟩:=by rw[<-e.1,e1.1,e4]
   exact Option.some.inj this
  subst e5;exact(hxo b' off e.1 zO).2.2.2
 have hR:=h.row.push x.1 x.2.1 x.2.2 hF.by_ hF.fr hap rfl (by rw[List.length_map];exact hD) hg;have hr3:W'.heap[lo+3]?=some (.cells #[v] 55 (0,0)):=(hg.block _ z3 (λe=>by have:=hvl _ e.symm;omega)).trans h.ro;have hst:∀b,b<W.heap.size->b≠lo+3->v.ownBlock≠some b->(W'.setCell ⟨lo+3,0,none⟩ v').heap[b]?=W.heap[b]?:=λb hb h1 h2=>(zJ _ _ _ _ h1).trans (hg.block b hb λe=>h2 e.symm);have hoff:∀y∈pre++[x],∀b o,y.2.1=some ⟨b,o,none⟩->0<y.1.val.length->b≠lo+3/\b≠B/\b≠B+1:=λy hy b o e hp=>by
  rcases List.mem_append.1 hy with hy|hy
  ·exact h.off y hy b o e hp
  ·obtain rfl:y=x:=by simpa using hy
   exact⟨(hxo b o e hp).1,(hxo b o e hp).2.1,(hxo b o e hp).2.2.1⟩
 have hsz:(W'.setCell ⟨lo+3,0,none⟩ v').heap.size=W'.heap.size:=zA3;refine⟨⟨qo hr3 0 _,(hst _ zO zO (λe=>by have:=hvl _ e;omega)).trans h.rt,?_,?_,hoff,?_,?_⟩,⟨?_,?_⟩⟩
 ·rw[List.map_append];refine⟨VC hR.1 zA2 _,λp hp=>?_⟩;have hp':=hR.2 p hp;refine⟨hp'.1,?_,hp'.2.2⟩;obtain⟨y,hy,rfl⟩:∃y∈pre++[x],(y.1,JL y)=p:=by
   rcases List.mem_append.1 hp with hp|hp
   ·obtain⟨y,hy,e⟩:=List.mem_map.1 hp;exact⟨y,List.mem_append_left _ hy,e⟩
   ·exact⟨x,zA3,(by simpa using hp:p=(x.1,JL x)).symm⟩
  refine qeL hp'.2.1 zA3 (λb o n c e hp2=>zJ _ _ _ _ ?_);simp only[JL,Value.slice.injEq]at e;exact(hoff y hy b o e.1 hp2).1
 ·have:=qjM h.row (λp hp=>by obtain⟨y,hy,rfl⟩:=List.mem_map.1 hp;exact h.nz y hy) (x:=x.1) hF.nz hap hg ⟨lo+3,0,none⟩ v';intro y hy;refine this (y.1,JL y) ?_;rcases List.mem_append.1 hy with hy|hy
  ·exact List.mem_append_left _ (List.mem_map.2 ⟨y,hy,rfl⟩)
  ·obtain rfl:y=x:=by simpa using hy
   simp
 ·intro y hy;rcases List.mem_append.1 hy with hy|hy
  ·exact h.le y hy
  ·obtain rfl:y=x:=by simpa using hy
   exact hl
 ·exact h.blw.trans (Below.setCell ((Below.refl lo W).grown hg zO (λk hk=>by have:=hvl k hk;omega)) (p:=⟨lo+3,0,none⟩) zA3 _)
 ·refine⟨hg.os,hg.tape,hg.output,by rw[hsz];exact hg.size,λb hb hm=>?_⟩;have h1:b≠lo+3:=λe=>hm (.inr (.inr (.inl e)));have h2:v.ownBlock≠some b:=λe=>hm (.inr (.inr (.inr ⟨v,qa h.ro 0,e,by have:=hvl b e;omega⟩)));refine⟨hst b hb h1 h2,λh'=>?_⟩;rcases h' with h'|h'|h'|⟨u,hu,h3,-⟩
  ·exact hm (.inl h')
  ·exact hm (.inr (.inl h'))
  ·exact h1 h'
  ·rw[qa (qo hr3 0 v')]at hu;cases hu;replace h3:v'.ownBlock=some b:=h3;rcases hD.2 with h4|⟨g,h4,h5⟩
   ·exact h2 (h4▸h3)
   ·rw[h4]at h3;cases h3;omega
 ·exact⟨hst B zO zO (λe=>by have:=hvl _ e;omega),hst (B+1) hBW zO (λe=>by have:=hvl _ e;omega)⟩
theorem qel{B:Nat}{K:K3}{w W:World}{pre:List X3}{v:Value}(h:RgI w.heap.size B K w pre v W)(hB:w.heap.size+3<B)(hD:W.heap[B]?=some (.deferred (some [])))(u:Value):Kr w.heap.size w.heap.size ((W.setCell ⟨w.heap.size+3,0,none⟩ u).putObj B (.deferred none)) v (pre.map λx=>(x.1,JL x))/\(∀p∈pre.map λx:X3=>(x.1,JL x),Nz ((W.setCell ⟨w.heap.size+3,0,none⟩ u).putObj B (.deferred none)) p.2)/\Below w.heap.size w ((W.setCell ⟨w.heap.size+3,0,none⟩ u).putObj B (.deferred none)):=by
 have hk:∀b,b≠w.heap.size+3->b≠B->((W.setCell ⟨w.heap.size+3,0,none⟩ u).putObj B (.deferred none)).heap[b]?=W.heap[b]?:=λb h1 h2=>(World.putObj_heap_other h2).trans (zJ _ _ _ _ h1);have hs:((W.setCell ⟨w.heap.size+3,0,none⟩ u).putObj B (.deferred none)).heap.size=W.heap.size:=by simp[World.putObj]
 have hbl:∀x∈pre,∀b o,x.2.1=some ⟨b,o,none⟩->0<x.1.val.length->((W.setCell ⟨w.heap.size+3,0,none⟩ u).putObj B (.deferred none)).heap[b]?=W.heap[b]?:=λx hx b o e hp=>hk b (h.off x hx b o e hp).1 (h.off x hx b o e hp).2.1;refine⟨⟨QB (qjR h.row.1 λg hg=>?_) zO,λp hp=>?_⟩,λp hp=>?_,?_⟩
 ·have:=QM h.row.1 g hg;exact hk g zO zO
 ·obtain⟨x,hx,rfl⟩:=List.mem_map.1 hp;refine⟨(h.row.2 _ hp).1,qeL (h.mem hx).2.1 (by rw[hs];exact zM _) (λb o n c e hp'=>hbl x hx b o ?_ hp'),(h.row.2 _ hp).2.2⟩;simp only[JL,Value.slice.injEq]at e;exact e.1
 ·obtain⟨x,hx,rfl⟩:=List.mem_map.1 hp;exact nz_blk (h.mem hx).2.1 (h.nz x hx) (hbl x hx)
 ·exact h.blw.trans ⟨rfl,rfl,rfl,by rw[hs];exact zM _,λk hk'=>hk k zO zO⟩
theorem GK{S:Sto}:∀(h:Nat)(xs:List It),xs.length<=5->(qu S h xs).length<=5^(h+1)
 |0,xs,hl=>by simpa [qu]using hl
 |h+1,xs,hl=>by
  rw[zu];have key:∀l:List It,(l.flatMap λy=>match qk S y.r.toNat with|none=>[]|some (_,ys)=>qu S h ys).length<=l.length*5^(h+1):=by
   intro l;induction l with
   |nil=>simp
   |cons y r ih=>
    rw[List.flatMap_cons,List.length_append,List.length_cons,Nat.add_mul,Nat.one_mul];have h1:(match qk S y.r.toNat with|none=>[]|some (_,ys)=>qu S h ys).length<=5^(h+1):=by
     rcases hn:qk S y.r.toNat with _|⟨lvl,ys⟩
     ·simp
     ·have hm:=(qF hn).1;have:ys.length<=5:=by unfold Qj ZZ at hm;simp at hm;omega
      exact GK h ys this
    omega
  refine Nat.le_trans (key xs) ?_;rw[Nat.pow_succ 5 (h+1),Nat.mul_comm];exact Nat.mul_le_mul_left _ hl
end Go.Proofs.YtmeadnlmepcmbaaGreat
namespace Go.Proofs.YtmeadnlmepcmbaaGreat
open Go.RowKit
attribute [local go_sem] Oper.semAt_some
set_option maxRecDepth 100000 in
theorem qji(A1:OA)(n1 c1:Nat)(A2:OA)(n2 c2:Nat)(A3:OA)(n3 c3:Nat)(A4:OA)(n4 c4:Nat)(a:Nat)(k i o:Int)(w:World):Calls prog 134 #[Qp A1 n1 c1 A2 n2 c2 A3 n3 c3 A4 n4 c4,.int .i64 (a:Int),UK k i o] w λe W=>e=.returned (.func (.func 178) #[] #[.pointer (some ⟨w.heap.size,0,none⟩),.pointer (some ⟨w.heap.size+2,0,none⟩),.pointer (some ⟨w.heap.size+1,0,none⟩)]) /\
   W=((w.alloc (.cells #[.slice A1 n1 c1,.slice A2 n2 c2,.slice A3 n3 c3,.slice A4 n4 c4] 28)).alloc (.cells #[.int .i64 (a:Int)] 3)).alloc (.cells #[.int .u8 k,.int .u32 i,.int .u32 o] 49):=by
 go_enter func134,ntmps134;go_wp2_with fail;go_ret;exact⟨rfl,rfl⟩
set_option maxRecDepth 100000 in
theorem qek(A1 n1 c1 A2 n2 c2 A3 n3 c3 A4 n4 c4)(S:Sto)(hS:qm S=true)(a lvl:Nat)(xs:List It)(ha:8<=a)(ha2:a<256)(hn:qk S a=some ((lvl:Int),xs))(hsp:(qz S lvl xs).isSome=true)(k i o k2 i2 o2:Int)(w:World)(hst:Qq w w.heap.size (.slice A1 n1 c1) (.slice A2 n2 c2) (.slice A3 n3 c3) (.slice A4 n4 c4) S):Calls prog 68 #[Qp A1 n1 c1 A2 n2 c2 A3 n3 c3 A4 n4 c4,.int .i64 (a:Int),UK k i o,UK k2 i2 o2] w (zm (λu W=>∃(ps:List (It×Value))(v:Value),u=.tuple #[v,.int .i64 0]/\ps.map (·.1)=Vt S lvl (k,i,o) (k2,i2,o2) xs/\Kr w.heap.size w.heap.size W v ps/\∀p∈ps,Nz W p.2) w):=by
 have HCK:=zH (λW (hx:Ext w W)=>YE A1 n1 c1 A2 n2 c2 A3 n3 c3 A4 n4 c4 S hS a ⟨ha,ha2,lvl,xs,hn,hsp⟩ W (hst.ext hx));replace⟨hst,hn,hsp,hS⟩:=zH4 hst hn hsp hS;refine(callsIn_wide (n:=3)).1 ?_;refine callsIn_of_wp_marks func68 rfl trivial ?_ rfl;simp only[ntmps68,List.size_toArray,List.length_cons,List.length_nil,Nat.reduceAdd,Nat.reduceSub,Array.replicate_succ,Array.replicate_zero,List.push_toArray,List.append_toArray,List.nil_append,List.cons_append];refine wpIn_wide.2 ?_;go_wp2_with fail;generalize hw1:(World.alloc (World.alloc (World.alloc (World.alloc w _) _) _) _)=w1;have x1:Ext w w1:=by rw[<-hw1];exact(((zN _ _).trans (zN _ _)).trans (zN _ _)).trans (zN _ _)
 have rs1:w1.heap[w.heap.size]?=some (.cells #[.slice A1 n1 c1,.slice A2 n2 c2,.slice A3 n3 c3,.slice A4 n4 c4] 28 (0,0)):=by rw[<-hw1];exact(zK _ _ _ zA2).trans ((zK _ _ _ (by simp;try omega)).trans ((zK _ _ _ zA3).trans (zI _ _ _ rfl)))
 have rf1:w1.heap[w.heap.size+1]?=some (.cells #[.int .u8 k,.int .u32 i,.int .u32 o] 49 (0,0)):=by rw[<-hw1];exact(zK _ _ _ (by simp;try omega)).trans ((zK _ _ _ zA3).trans (zI _ _ _ zA3))
 have rt1:w1.heap[w.heap.size+2]?=some (.cells #[.int .u8 k2,.int .u32 i2,.int .u32 o2] 49 (0,0)):=by rw[<-hw1];exact(zK _ _ _ zA3).trans (zI _ _ _ zA3)
 have ro1:w1.heap[w.heap.size+3]?=some (.cells #[.slice none 0 0] 55 (0,0)):=by rw[<-hw1];exact zI _ _ _ zA3
 clear hw1;refine(HCK.out w1 x1).mono ?_;clear HCK;rintro e w2 ⟨u,rfl,⟨m,rfl⟩,hB⟩;have x2:Ext w w2:=Ext.trans x1 hB;have rs2:=qb rs1 hB;have rf2:=qb rf1 hB;have rt2:=qb rt1 hB;have ro2:=qb ro1 hB;have z2:w.heap.size+3<w2.heap.size:=(zG.1 ro2).1;clear rs1 rf1 rt1 ro1 hB x1;have ks2:=qa rs2;have kf2:=qa rf2;go_wp2_with fail;refine(qji A1 n1 c1 A2 n2 c2 A3 n3 c3 A4 n4 c4 a k i o w2).mono ?_;rintro e w3 ⟨rfl,hw3⟩;have x23:Ext w2 w3:=by rw[hw3];exact((zN _ _).trans (zN _ _)).trans (zN _ _)
 have gs3:w3.heap[w2.heap.size]?=some (.cells #[.slice A1 n1 c1,.slice A2 n2 c2,.slice A3 n3 c3,.slice A4 n4 c4] 28 (0,0)):=by rw[hw3];exact(zK _ _ _ zA2).trans ((zK _ _ _ zA3).trans (zI _ _ _ rfl))
 have gr3:w3.heap[w2.heap.size+1]?=some (.cells #[.int .i64 (a:Int)] 3 (0,0)):=by rw[hw3];exact(zK _ _ _ zA3).trans (zI _ _ _ zA3)
 have gf3:w3.heap[w2.heap.size+2]?=some (.cells #[.int .u8 k,.int .u32 i,.int .u32 o] 49 (0,0)):=by rw[hw3];exact zI _ _ _ zA3
 have rt3:=qb rt2 x23;have ro3:=qb ro2 x23;have x3:Ext w w3:=x2.trans x23;have z3:w2.heap.size+2<w3.heap.size:=(zG.1 gf3).1;clear hw3 ks2 kf2 rs2 rf2 rt2 ro2 x2 x23;go_wp2_with fail;have I0:RgI w.heap.size w3.heap.size (k2,i2,o2) w [] (.slice none 0 0) w3:=⟨ro3,rt3,Kr.nil _ _ _,(λ_ h=>by cases h),(λ_ h=>by cases h),(λ_ h=>by cases h),x3⟩
 have hBz:w.heap.size+3<w3.heap.size:=zO;have hlen:(QS S lvl (k,i,o) xs).length<=15625:=by
  have hmay:=(qF hn.out).1;have h1:xs.length<=5:=by unfold Qj ZZ at hmay;simp at hmay;omega
  have h2:lvl<=5:=by unfold Qj ZZ at hmay;simp at hmay;omega
  exact Nat.le_trans (List.length_filter_le _ _) (Nat.le_trans (GK (S:=S) lvl xs h1) (show 5^(lvl+1)<=5^6 from Nat.pow_le_pow_right zO zO))
 obtain⟨i0,hi,hz0,hz1,hz2⟩:=info_parts Tryz.info_item;refine(wpIn_wide (n:=3)).1 ?_;refine qhf (n:=3) zA1 (gf:=178) (lb:=#[.pointer (some ⟨w2.heap.size,0,none⟩),.pointer (some ⟨w2.heap.size+2,0,none⟩),.pointer (some ⟨w2.heap.size+1,0,none⟩)]) rfl (enters_of func178 zQ rfl)
  w.heap.size (QS S lvl (k,i,o) xs).length (M0 w.heap.size) (λpre W=>∃v,RgI w.heap.size w3.heap.size (k2,i2,o2) w pre v W)
  (λpre W=>∃pre' x v,pre=pre'++[x]/\qV (k2,i2,o2) (qp x.1)=true/\RgI w.heap.size w3.heap.size (k2,i2,o2) w pre' v W) (QS S lvl (k,i,o) xs) x3.size (λW b hb=>?_)
  (λpre W W' ⟨v,h⟩ ht=>⟨⟨v,(h.tw hBz ht).1⟩,(h.tw hBz ht).2⟩) (λpre W W' ⟨pre',x,v,h1,h2,h⟩ ht=>⟨pre',x,v,h1,h2,(h.tw hBz ht).1⟩) (λpre W b ⟨v,h⟩ hb=>h.lt hb) ⟨_,I0⟩ (λJ Jx W xW HC hJ=>?_)
  (λbx x=>{tmps:=#[Qp A1 n1 c1 A2 n2 c2 A3 n3 c3 A4 n4 c4,.int .i64 a,UK k i o,UK k2 i2 o2,.pointer (some ⟨w.heap.size,0,none⟩),undef,.pointer (some ⟨w.heap.size+1,0,none⟩),.pointer (some ⟨w.heap.size+1+1,0,none⟩),.pointer (some ⟨w.heap.size+1+1+1,0,none⟩),.int .i64 0,
   .int .i64 m,.int .i64 0,.pointer (some ⟨bx,0,none⟩),.tuple #[.int .i64 m,.int .i64 0],.agg #[.slice A1 n1 c1,.slice A2 n2 c2,.slice A3 n3 c3,.slice A4 n4 c4],.int .i64 a,.tuple #[.int .i64 m,.int .i64 0],.int .i64 m,.int .i64 0,.int .i64 0,.bool false,undef,
   .agg #[.slice A1 n1 c1,.slice A2 n2 c2,.slice A3 n3 c3,.slice A4 n4 c4],.int .i64 a,.agg #[.int .u8 k,.int .u32 i,.int .u32 o],.func (.func 178) #[] #[.pointer (some ⟨w2.heap.size,0,none⟩),.pointer (some ⟨w2.heap.size+2,0,none⟩),.pointer (some ⟨w2.heap.size+1,0,none⟩)],
   encX x,undef,undef,undef,undef,undef,undef,undef,undef,undef],defers:=[]}) 51 ?assign ?body ?done ?stop
 ·rcases hb with rfl|⟨v,-,-,h⟩
  ·omega
  ·exact h
 ·have hst2:=hst.out.below (x3.trans xW);refine(callsIn_wide (n:=3-1)).2 (qis S hS.out k i o w.heap.size (w3.heap.size+1) _ _ J Jx A1 n1 c1 A2 n2 c2 A3 n3 c3 A4 n4 c4 HC w2.heap.size (w2.heap.size+2) (w2.heap.size+1) W (by have:=x3.size;have:=xW.size;omega) hst2 (qb gs3 xW) (qb gf3 xW) a lvl xs (qb gr3 xW) ?_ ha ha2 hn.out hsp.out (zM _) hJ);rintro(h|h|h|⟨v,h1,h2,-⟩)
  ·omega
  ·omega
  ·omega
  ·rw[qa (qb ro3 xW)]at h1;cases h1;cases h2
 case assign=>
  intro m' x W K hK
  gi_wp2_with fail
  exact hK
 case body=>
  rintro m' pre x bx W hbx hBT hnm ⟨v,hI⟩ hF hN;have HL:=zH (λW=>Vy k2 i2 o2 x.1.k x.1.i x.1.o W);have hkx:qV (k2,i2,o2) (qp x.1)=JD k2 i2 o2 x.1.k x.1.i x.1.o:=rfl;have kx:=qa hBT;have kt:=qa hI.rt;have zB:w3.heap.size+1<W.heap.size:=Nat.lt_of_lt_of_le hbx (Nat.le_of_lt (zG.1 hBT).1);generalize JD k2 i2 o2 x.1.k x.1.i x.1.o=L at*;replace⟨hI,hF,I0⟩:=zH3 hI hF I0;cases L
  ·gi_wp2_with fail
   refine⟨trivial,λh=>(by cases h),(CallsIn.inRound _ (callsIn_wide.2 (HL.out _))).mono ?_⟩;rintro e W2 ⟨rfl,hB2⟩;have I2:=(hI.out.tw hBz (Tw.of_ext hB2)).1;have M2:=(hI.out.tw hBz (Tw.of_ext hB2)).2;have hF2:=hF.out.kept (W':=W2) ⟨hB2.os,hB2.tape,hB2.output,hB2.size,λb hb hm=>⟨hB2.block b hb,λh=>hm (h.imp id λh=>h.imp id (M2 b))⟩⟩;have kx2:=qa (qb hBT hB2);have ko2:=qa I2.ro;have hps:(pre.map λx:X3=>(x.1,JL x)).length=pre.length:=List.length_map _;have hAE:=I2.row.1;rw[hps]at hAE;obtain⟨Av,cv,rfl,-,-⟩:=qG hAE;have zo2:w.heap.size+3<W2.heap.size:=(zG.1 I2.ro).1;have zB2:w3.heap.size+1<W2.heap.size:=Nat.lt_of_lt_of_le zB hB2.size;replace⟨I2,hF2,hkx,M2⟩:=zH4 I2 hF2 hkx M2;clear kx kt
   gi_wp2_with (gi_at_builtin;refine TN ?_)
   refine Qm.go (TM W2 rfl (.tmp 31) (.tmp 33) 55 rfl (w3.heap.size+2) 51 i0 _ 5 48 underlying55 hi hz0 hz1 hz2 rfl zA1 (.slice Av pre.length cv) pre.length _ zE hAE (YI x.1 x.2.1 x.2.2) zE rfl zA8 zO zA1 zO ?_);intro v' W3 hQC hg hat;have hP:=I2.out.push (x:=x) hBz zB2 hF2.out hkx.out ⟨hQC,hat⟩ hg;have hvl:=QM hAE;have ro3':W3.heap[w.heap.size+3]?=_:=(hg.block _ zo2 (λe=>by have:=(hvl _ e.symm).1;omega)).trans I2.out.ro;obtain⟨Av',cv',rfl,-,-⟩:=qG hQC;have ko3:=qa ro3';have fo3:=qg ro3';replace hP:=zH hP;clear hAE hQC hg hat hvl ro3' kx2 ko2 hi hz0 hz1 hz2
   gi_wp2_with fail
   refine⟨⟨ZX.trans ⟨hB2.os,hB2.tape,hB2.output,hB2.size,λb hb hm=>⟨hB2.block b hb,λh=>hm (h.imp id λh=>h.imp id (M2.out b))⟩⟩ hP.out.2.1,hP.out.2.2.1.trans (hB2.block _ zO),hP.out.2.2.2.trans (hB2.block _ zB)⟩,_,hP.out.1⟩
  ·gi_wp2_with fail
   refine⟨trivial,λh=>(by cases h),(CallsIn.inRound _ (callsIn_wide.2 (HL.out _))).mono ?_⟩;rintro e W2 ⟨rfl,hB2⟩;have I2:=(hI.out.tw hBz (Tw.of_ext hB2)).1;replace⟨I2,hkx⟩:=zH2 I2 hkx;clear kx kt
   gi_wp2_with fail
   exact⟨⟨hB2.block _ zO,hB2.block _ zB⟩,rfl,pre,x,v,rfl,hkx.out,I2.out⟩
 case done=>
  rintro ys W hys ⟨v,hI⟩ hD;have hps:(ys.map λx:X3=>(x.1,JL x)).length=ys.length:=List.length_map _;have hAE:=hI.row.1;rw[hps]at hAE;obtain⟨Av,cv,rfl,-,-⟩:=qG hAE;have ko:=qa hI.ro;have fo:=qg hI.ro;replace⟨I0,hI,hD⟩:=zH3 I0 hI hD;clear hAE hi hz0 hz1 hz2;replace hys:=zH hys;go_wp2_with fail;have hBY:=qel hI.out hBz hD.out (.slice Av ys.length cv);have rf:=qo hI.out.ro 0 (.slice Av ys.length cv);have df:=(zJ W ⟨w.heap.size+3,0,none⟩ (.slice Av ys.length cv) w3.heap.size zA2).trans hD.out;generalize hwf:(World.setCell W _ _)=wf at*;have rf2:(wf.putObj w3.heap.size (.deferred none)).heap[w.heap.size+3]?=_:=(World.putObj_heap_other zO).trans rf;have kf:=qa rf2;refine⟨zA3,.inl ⟨_,_,rfl,run_takeDeferred df,.tuple #[.slice Av ys.length cv,.int .i64 0],?_,_,rfl,⟨_,_,rfl,?_,hBY.1,hBY.2.1⟩,hBY.2.2⟩⟩
  ·simp[results,results68,go_sem,kf]
  ·rw[List.map_map,qgc λy hy=>?_,<-hys.out]
   ·rfl
   ·rw[<-hys.out]at hy;obtain⟨x,hx,rfl⟩:=List.mem_map.1 hy;exact hI.out.le x hx
 case stop=>
  rintro ys rest W hys ⟨pre',x,v,rfl,hlt,hI⟩ hD;have hps:(pre'.map λx:X3=>(x.1,JL x)).length=pre'.length:=List.length_map _;have hAE:=hI.row.1;rw[hps]at hAE;obtain⟨Av,cv,rfl,-,-⟩:=qG hAE;have ko:=qa hI.ro;have fo:=qg hI.ro;replace⟨I0,hI,hD⟩:=zH3 I0 hI hD;clear hAE hi hz0 hz1 hz2;replace⟨hys,hlt⟩:=zH2 hys hlt
  gi_wp2
  go_wp2_with fail;have hBY:=qel hI.out hBz hD.out (.slice Av pre'.length cv);have rf:=qo hI.out.ro 0 (.slice Av pre'.length cv);have df:=(zJ W ⟨w.heap.size+3,0,none⟩ (.slice Av pre'.length cv) w3.heap.size zA2).trans hD.out;generalize hwf:(World.setCell W _ _)=wf at*;have rf2:(wf.putObj w3.heap.size (.deferred none)).heap[w.heap.size+3]?=_:=(World.putObj_heap_other zO).trans rf;have kf:=qa rf2;refine⟨zA3,.inl ⟨_,_,rfl,run_takeDeferred df,.tuple #[.slice Av pre'.length cv,.int .i64 0],?_,_,rfl,⟨_,_,rfl,?_,hBY.1,hBY.2.1⟩,hBY.2.2⟩⟩
  ·simp[results,results68,go_sem,kf]
  ·have hys':=hys.out;rw[List.map_append,List.append_assoc]at hys';rw[List.map_map,qeK (pre:=pre'.map (·.1)) (rest:=rest) (x:=x.1) hsp.out hys'.symm (λy hy=>?_) hlt.out]
   ·rfl
   ·obtain⟨z,hz,rfl⟩:=List.mem_map.1 hy;exact hI.out.le z hz
end Go.Proofs.YtmeadnlmepcmbaaGreat
namespace Go.Proofs.YtmeadnlmepcmbaaGreat
open Go.RowKit
def Ul(S:Sto)(root:Int)(K K2:K3):List It:=match qk S root.toNat with
 |none=>[]
 |some (lvl,xs)=>Vt S lvl.toNat K K2 xs
theorem qcr{S T X:Sto}(m:SM S X)(m':SM T X){a:Int}(h:okL S (-1) a=true)(h':okL T (-1) a=true)(K K2:K3):Ul T a K K2=Ul S a K K2:=by obtain⟨n,rfl,-,-,lvl,xs,hn,hs⟩:=Zs h;obtain⟨n',e,-,-,lvl',xs',hn',hs'⟩:=Zs h';obtain rfl:n=n':=zO;obtain⟨rfl,rfl,hi⟩:=qit m m' hn hs hn' hs';unfold Ul;rw[Int.toNat_natCast,hn,hn'];simp only[Int.toNat_natCast];unfold Vt;rw[hi]
theorem qft{S:Sto}{root next:Int}{dead:List Int}{vs:List Vol}(h:QR S root next dead vs){v:Vol}(hv:v∈vs):okL S (-1) v.root=true:=h.ok v.root (by unfold zl;exact List.mem_append_right _ (List.mem_map.2 ⟨v,hv,rfl⟩))


theorem ZA.nodeM{S S2:Sto}{R:List Nat}{M:Nat->Bool}(h:ZA S R M)(m:SM S S2){a:Nat}(hM:M a=true):qk S a=qk S2 a:=by obtain⟨nd,e⟩:=Option.isSome_iff_exists.1 (h.nd a hM);rw[e,m.node _ _ e]
theorem ZA.spanM{S S2:Sto}{R:List Nat}{M:Nat->Bool}(h:ZA S R M)(m:SM S S2):∀(H:Nat){a:Nat}{ys:List It},M a=true->qk S2 a=some ((H:Int),ys)->(qz S2 H ys).isSome=true->qz S H ys=qz S2 H ys:=by
 have hf:∀{H:Nat}{ys:List It},(∀y∈ys,jv S H y=jv S2 H y)->qz S H ys=qz S2 H ys:=λ{H ys} hy=>by unfold qz;refine qbD _ _ λa y hm=>?_;unfold jO;rw[hy y hm]
 intro H;induction H with
 |zero=>
  intro a ys hM hn hs;have hnS:=(h.nodeM m hM).trans hn;refine hf λy hy=>?_;have h1:=QG hs y hy;have hit:=((qF hn).2.1 y hy).2;unfold itB at hit;rw[decide_eq_true_eq]at hit;unfold jv at h1⊢;split at h1
  ·rename_i hc;rw[if_pos hc,if_pos];by_cases hr:y.r=0
   ·exact .inl hr
   ·right;have hm:y.r.toNat∈QO S a:=Yo hnS (List.mem_map.2 ⟨y,hy,rfl⟩) zO;have h3:=qcz hM hm (h.cov.low a hM).2;have h4:=h.cov.cnt y.r.toNat zO;show 0<qP S.now _;omega
  ·cases h1
 |succ H ih=>
  intro a ys hM hn hs;have hnS:=(h.nodeM m hM).trans hn;refine hf λy hy=>?_;obtain⟨b,e1,h8,h256,zs,e4,e5⟩:=QE (QG hs y hy);have hMb:M b=true:=by
   have:=h.cov.kid a hM y.r.toNat (by rw[qbi hnS zO];exact Yo hnS (List.mem_map.2 ⟨y,hy,rfl⟩) (by rw[e1,Int.toNat_natCast];omega))
   rwa [e1,Int.toNat_natCast]at this
  have h3:=ih hMb e4 e5;rw[vk,vk];unfold Va;rw[e1,Int.toNat_natCast,h.nodeM m hMb,e4];simp only[h3]
theorem ZA.treeM{S S2:Sto}{R:List Nat}{M:Nat->Bool}(h:ZA S R M)(m:SM S S2){a:Nat}(hM:M a=true)(ht:jT S2 a):jT S a:=by obtain⟨h8,h256,lvl,xs,hn,hs⟩:=ht;exact⟨h8,h256,lvl,xs,(h.nodeM m hM).trans hn,by rw[h.spanM m lvl hM hn hs];exact hs⟩
def VO(id:Int)(vs:List Vol):List Vol:=vs.filter λu=>!decide (u.id=id)
theorem qld(id:Int)(vs:List Vol):jf (VO id vs) id=none:=by unfold jf VO;rw[List.find?_eq_none];intro u hu;simpa using(List.mem_filter.1 hu).2
theorem vols_sub{next:Int}:∀{l' l:List It},List.Sublist l' l->∀{acc acc' vs:List Vol},acc.length<=16->Zg next acc l=some vs->acc'.length<=acc.length->Zg next acc' l'=some (acc'++l'.map ZR):=λ{l' l} hs=>by
 induction hs with
 |slnil=>
  intro acc acc' vs h16 h hl;simp[Zg]
 |cons y hs ih=>
  intro acc acc' vs h16 h hl;rw[KK]at h;split at h
  ·rename_i hc;exact ih (by have:=hc.2;simp;omega) h zA2
  ·cases h
 |cons_cons y hs ih=>
  intro acc acc' vs h16 h hl;rw[KK]at h⊢;split at h
  ·rename_i hc;have h15:=hc.2;rw[if_pos ⟨hc.1,zO⟩,ih zA2 h zA2];simp
  ·cases h
theorem rem_map{id:Int}{l:List It}(h:∀y∈l,VS y=true):(JH (1,id,0) l).map ZR=VO id (l.map ZR):=by unfold JH VO;rw[List.filter_map];congr 1;refine List.filter_congr λy hy=>?_;have h1:=qfB (h y hy);have h2:(ZR y).id=y.i:=rfl;rw[h1];simp only[Function.comp,h2,Prod.mk.injEq,true_and,and_true]
theorem qle{vs:List Vol}{v:Vol}{id:Int}(hv:jf vs id=some v)(b:Nat):(v.root.toNat::(VO id vs).map λu=>u.root.toNat).count b<=(vs.map λu=>u.root.toNat).count b:=by
 have hid:v.id=id:=by simpa using List.find?_some hv
 obtain⟨A,B,e⟩:=List.append_of_mem (Yu hv);have e2:VO id vs=VO id A++VO id B:=by unfold VO;rw[e,List.filter_append,List.filter_cons_of_neg (by simp[hid])]
 have hA:List.Sublist ((VO id A).map λu=>u.root.toNat) (A.map λu=>u.root.toNat):=List.Sublist.map _ List.filter_sublist;have hB:List.Sublist ((VO id B).map λu=>u.root.toNat) (B.map λu=>u.root.toNat):=List.Sublist.map _ List.filter_sublist;have h1:=hA.count_le b;have h2:=hB.count_le b;rw[e2,e];simp only[List.map_append,List.map_cons,List.count_cons,List.count_append];omega
theorem Ur{S S':Sto}{root next:Int}{dead:List Int}{vs:List Vol}{v:Vol}{id:Int}{r:Nat}(hok:jq S root next dead vs)(hv:jf vs id=some v)(e:unE S root id=.ok (r,S')):QR S' (r:Int) next dead (VO id vs)/\(∃S2,SM S S2/\SM S' S2)/\∃M',ZA S' (v.root.toNat::QJ (r:Int) dead (VO id vs)) M'/\∀b∈v.root.toNat::QJ (r:Int) dead (VO id vs),M' b=true:=by
 obtain⟨refs,nodes,hp,hc,he⟩:=hok;obtain⟨a,rfl,h8,h256,lvl,xs,hn,hs⟩:=Zs hp.top;have e2:Xs S lvl xs a (1,id,0)=.ok (r,S'):=by unfold unE at e;rw[Int.toNat_natCast,hn]at e;exact e
 have hrn:QJ (a:Int) dead vs=a::(dead.map Int.toNat++vs.map λu=>u.root.toNat):=by simp[QJ,zl]
 have hrn':QJ (r:Int) dead (VO id vs)=r::(dead.map Int.toNat++(VO id vs).map λu=>u.root.toNat):=by simp[QJ,zl]
 have c1:=ZA.of hp hc he;have hXM:∀b∈QJ (a:Int) dead vs,vA nodes b=true:=hc.mkd.root;rw[hrn]at c1 hXM;obtain⟨M',c2,k2,i2⟩:=del_cov hp.may hn hs c1 (hXM a List.mem_cons_self) e2;obtain⟨-,S2,H,ys,m,m',hn2,hs2,hi2⟩:=qkr hp.may hn hs e2;obtain⟨hmay,hr8,hSY⟩:=qgq hp.may h8 hn hs e2;have hvm:=Yu hv;have hvs:∀b∈dead.map Int.toNat++vs.map λu=>u.root.toNat,M' b=true:=λb hb=>i2 b hb (hXM b (List.mem_cons_of_mem _ hb));have hin:∀b∈v.root.toNat::QJ (r:Int) dead (VO id vs),M' b=true:=λb hb=>by
  rw[hrn']at hb;rcases List.mem_cons.1 hb with rfl|hb
  ·exact hvs _ (List.mem_append_right _ (List.mem_map.2 ⟨v,hvm,rfl⟩))
  ·rcases List.mem_cons.1 hb with rfl|hb
   ·exact k2
   ·rcases List.mem_append.1 hb with hb|hb
    ·exact hvs b (List.mem_append_left _ hb)
    ·obtain⟨u,hu,rfl⟩:=List.mem_map.1 hb;exact hvs _ (List.mem_append_right _ (List.mem_map.2 ⟨u,(List.mem_filter.1 hu).1,rfl⟩))
 have htop:jT S' r:=c2.treeM m' k2 ⟨hr8,hSY,H,ys,hn2,hs2⟩;have hnr:qk S' r=some ((H:Int),ys):=(c2.nodeM m' k2).trans hn2;have hsr:qz S' H ys=qz S2 H ys:=c2.spanM m' H k2 hn2 hs2;have wYK:vI S' (r:Int) next=some (VO id vs):=by have h1:=hp.vols;unfold vI at h1⊢;rw[Int.toNat_natCast,hn]at h1;rw[Int.toNat_natCast,hnr];simp only[Int.toNat_natCast]at h1⊢;rw[<-m'.items H ys (by rw[hsr];exact hs2),hi2];obtain⟨g1,g2⟩:=qac h1;have wEF:List.Sublist (JH (1,id,0) (qu S lvl xs)) (qu S lvl xs):=List.filter_sublist;rw[vols_sub (acc':=[]) wEF (Nat.zero_le _) h1 (zM _),List.nil_append,g2,<-rem_map g1]
 have hokr:∀q∈zl (r:Int) dead (VO id vs),okL S' (-1) q=true:=λq hq=>by
  have hq2:q=(r:Int)\/q∈zl (a:Int) dead vs:=by
   unfold zl at hq⊢;rcases List.mem_append.1 hq with hq|hq
   ·rcases List.mem_cons.1 hq with rfl|hq
    ·exact .inl rfl
    ·exact .inr (List.mem_append_left _ (List.mem_cons_of_mem _ hq))
   ·obtain⟨u,hu,rfl⟩:=List.mem_map.1 hq;exact .inr (List.mem_append_right _ (List.mem_map.2 ⟨u,(List.mem_filter.1 hu).1,rfl⟩))
  rcases hq2 with rfl|hq2
  ·exact XY htop
  ·obtain⟨b,rfl,hb⟩:=Zs (m.okL (hp.ok q hq2));refine XY (c2.treeM m' (hin b ?_) hb);refine List.mem_cons_of_mem _ ?_;have h1:((b:Int)).toNat∈QJ (r:Int) dead (VO id vs):=List.mem_map.2 ⟨_,hq,rfl⟩;simpa using h1
 refine⟨⟨hmay,hp.few,XY htop,wYK,hokr⟩,⟨S2,m,m'⟩,M',c2.perm λb _=>?_,hin⟩;rw[hrn'];have:=qle hv b;simp only[List.count_cons,List.count_append];simp only[List.count_cons]at this;omega
theorem qhY{S:Sto}{R:List Nat}:∃refs nodes,Qz S R refs nodes:=by
 classical
 obtain⟨M,hM⟩:∃M:Nat->Bool,∀a,M a=true↔Rch (Zh S) (· ∈ R) a:=⟨λa=>decide (Rch (Zh S) (· ∈ R) a),λa=>decide_eq_true_iff⟩
 have hB:vA (λa=>if M a=true then 1 else 0)=M:=by funext a;unfold vA;have:∀b:Bool,decide (0<if b=true then 1 else 0)=b:=zA1;exact this (M a)
 refine⟨λb=>R.count b+Ju (QO S) M b 256,λa=>if M a=true then 1 else 0,⟨?_,λa=>?_⟩⟩
 ·rw[hB];exact⟨λa ha=>(hM a).1 ha,λa ha=>(hM a).2 (.base ha),λa ha b hb=>(hM b).2 (.step ((hM a).1 ha) hb),λb=>rfl⟩
 ·rw[hB];have hu:∀n,vG M n<=n:=λn=>by
   induction n with
   |zero=>exact zM _
   |succ n ih=>unfold vG;split<;>omega
  have key:∀u,u<=256->(if M a=true then 1 else 0)+6*u<=1536+R.length:=λu hu=>by
   split
   ·rename_i h2;have:=((hM a).1 h2).closed (M:=λ_=>0<R.length) (λb hb=>List.length_pos_of_mem hb) (λ_ h _ _=>h);omega
   ·omega
  exact key _ (hu 256)
theorem qho(k i o r:Int)(l:List UInt8):Xg k i o r k i o r l l=true:=by simp[Xg]
theorem YG{P:Program}{o:Oper}{a:Act}{W:World}{hh:qZ}{f:FuncId}{args:Array Value}(hr:(execOp a.eval o).run P W=.ok (.enter f args) W)(hc:Calls P f args W λe w''=>∃p,e=.returned (hh.f p)/\hh.φ p w''/\Ext W w''):Qr qj P o a W hh:=by
 unfold Qr;rw[hr];exact⟨Ext.refl W,hc⟩
def allS(S:Sto)(root:Int):List It:=Ul S root (0,0,0) (255,4294967295,4294967295)
theorem qla(S:Sto)(root:Int)(K K2:K3):(Ul S root K K2).length<=15625:=by
 unfold Ul;split
 ·simp
 ·rename_i lvl xs hn;obtain⟨hm1,-,-⟩:=qF hn;have h1:xs.length<=5:=by unfold Qj ZZ at hm1;simp at hm1;omega
  have h2:lvl.toNat<=5:=by unfold Qj ZZ at hm1;simp at hm1;omega
  exact Nat.le_trans (List.length_filter_le _ _) (Nat.le_trans (GK (S:=S) lvl.toNat xs h1) (show 5^(lvl.toNat+1)<=5^6 from Nat.pow_le_pow_right zO zO))
theorem un_ok{S S':Sto}{root next:Int}{dead:List Int}{vs:List Vol}{v:Vol}{id:Int}{r:Nat}(hok:jq S root next dead vs)(hv:jf vs id=some v)(e:unE S root id=.ok (r,S')):jq S' (r:Int) next dead (VO id vs):=by obtain⟨hp',-,M',c,hin⟩:=Ur hok hv e;obtain⟨refs,nodes,hc⟩:=qhY (S:=S') (R:=QJ (r:Int) dead (VO id vs));exact⟨refs,nodes,hp',hc,c.enough (λb hb=>by rw[List.count_cons];omega) (λa ha=>hin a (List.mem_cons_of_mem _ ha)) hc⟩
theorem un_root{S S':Sto}{root next:Int}{dead:List Int}{vs:List Vol}{v:Vol}{id:Int}{r:Nat}(hok:jq S root next dead vs)(hv:jf vs id=some v)(e:unE S root id=.ok (r,S')):okL S' (-1) v.root=true:=by obtain⟨-,⟨X,m,m1⟩,M',c,hin⟩:=Ur hok hv e;obtain⟨refs,nodes,hp,-,-⟩:=hok;obtain⟨b,hb,ht⟩:=Zs (m.okL (qft hp (Yu hv)));rw[hb];exact XY (c.treeM m1 (hin b (List.mem_cons.2 (.inl (by rw[hb];simp)))) ht)
theorem ins_rem{vs:List Vol}{v:Vol}(hr:vs.Pairwise λa b=>a.id<b.id)(hv:v∈vs):insV v (VO v.id vs)=vs:=by
 obtain⟨A,B,rfl⟩:=List.append_of_mem hv;obtain⟨-,h2,h3⟩:=List.pairwise_append.1 hr;have hA:∀a∈A,a.id<v.id:=λa ha=>h3 a ha v List.mem_cons_self;have hB:∀b∈B,v.id<b.id:=λb hb=>(List.pairwise_cons.1 h2).1 b hb;have e1:VO v.id (A++v::B)=A++B:=by
  unfold VO;have g1:A.filter (λu=>!decide (u.id=v.id))=A:=List.filter_eq_self.2 λa ha=>by have:=hA a ha;simp;omega
  have g2:B.filter (λu=>!decide (u.id=v.id))=B:=List.filter_eq_self.2 λb hb=>by have:=hB b hb;simp;omega
  rw[List.filter_append,List.filter_cons_of_neg zA3,g1,g2]
 have g1:A.filter (λu=>decide (u.id<v.id))=A:=List.filter_eq_self.2 λa ha=>by have:=hA a ha;simpa
 have g2:B.filter (λu=>decide (u.id<v.id))=[]:=List.filter_eq_nil_iff.2 λb hb=>by have:=hB b hb;simp;omega
 have g3:A.filter (λu=>decide (v.id<u.id))=[]:=List.filter_eq_nil_iff.2 λb hb=>by have:=hA b hb;simp;omega
 have g4:B.filter (λu=>decide (v.id<u.id))=B:=List.filter_eq_self.2 λa ha=>by have:=hB a ha;simpa
 unfold insV;rw[e1,List.filter_append,List.filter_append,g1,g2,g3,g4];simp
theorem qhw{S S1 S2:Sto}{root next:Int}{dead:List Int}{vs vs2:List Vol}{v:Vol}{id:Int}{r r2:Nat}(hok:jq S root next dead vs)(hv:jf vs id=some v)(e:unE S root id=.ok (r,S1))(h2:SetOk S1 (r:Int) next dead v r2 S2 vs2)(hvo:Uw v):jq S2 (r2:Int) next dead vs/\∀u∈vs,allS S2 u.root=allS S u.root:=by
 have hid:v.id=id:=by simpa using List.find?_some hv
 obtain⟨hp1,⟨X,m,m1⟩,M',c,hin⟩:=Ur hok hv e;have hpo:jq S2 (r2:Int) next dead vs2:=by obtain⟨_,_,_,_,_,_,_,_,k⟩:=h2;exact k
 obtain⟨ws,Y,hpx,hp2,e2,n1,n2⟩:=h2.vols hvo;obtain rfl:=QR.same hp1 hpx;obtain⟨refs,nodes,hp,hc,he⟩:=hok;have wHH:=qej hp hc he;rw[<-hid,ins_rem wHH.rise (Yu hv)]at e2;subst e2;refine⟨hpo,λu hu=>?_⟩;have k0:=qft hp hu;have k1:okL S1 (-1) u.root=true:=by
  obtain⟨b,hb,ht⟩:=Zs (m.okL k0);rw[hb];refine XY (c.treeM m1 (hin b ?_) ht);by_cases h:u.id=id
  ·have h3:u=v:=by have h4:=find_id wHH.rise hu;rw[h]at h4;have h5:some u=some v:=h4.symm.trans hv;exact Option.some.inj h5
   refine List.mem_cons.2 (.inl ?_);rw[<-h3,hb];simp
  ·refine List.mem_cons_of_mem _ (List.mem_map.2 ⟨u.root,?_,by rw[hb];simp⟩);unfold zl;exact List.mem_append_right _ (List.mem_map.2 ⟨u,List.mem_filter.2 ⟨hu,by simpa using h⟩,rfl⟩)
 have k2:=qft hp2 hu;unfold allS;rw[qcr n1 n2 k1 k2,qcr m m1 k0 k1]
end Go.Proofs.YtmeadnlmepcmbaaGreat
