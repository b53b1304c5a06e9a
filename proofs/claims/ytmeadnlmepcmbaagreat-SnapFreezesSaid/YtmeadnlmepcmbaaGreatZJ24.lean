/- Lemmas of the proof. -/
import Derived.Deep.CutBlock
import Derived.Test.YtmeadnlmepcmbaaGreatZJ23
set_option linter.all false
set_option maxHeartbeats 8000000
open Go.Proofs.Tryz
namespace Go.Proofs.YtmeadnlmepcmbaaGreat
open Go.RowKit
def Ty (S:Sto) (root:Int):List It:=Vo S root (0,0,0) (255,4294967295,4294967295)
theorem qkO (S:Sto) (root:Int) (K K2:K3):(Vo S root K K2).length<=15625:=by
 unfold Vo;split
 ·simp
 ·rename_i lvl xs hn;obtain⟨hm1,-,-⟩:=qM hn;have h1:xs.length<=5:=by unfold Qf ja at hm1;simp at hm1;omega
  have h2:lvl.toNat<=5:=by unfold Qf ja at hm1;simp at hm1;omega
  exact Nat.le_trans (List.length_filter_le _ _) (Nat.le_trans (Gx (S:=S) lvl.toNat xs h1) (show 5 ^ (lvl.toNat+1)<=5 ^ 6 from Nat.pow_le_pow_right zO zO))
def AllQ (S:Sto) (root next:Int) (dead:List Int) (id:Int) (w:World) (e:Ending) (w':World):Prop:=Below w.heap.size w w' /\
 ((e=.returned (.slice none 0 0)/\QK S root next dead) \/
  ∃ vs,Jr S root next dead vs/\((Qs vs id=none/\e=.returned (.slice none 0 0))\/∃ v A c,Qs vs id=some v/\e=.returned (.slice A (Ty S v.root).length c)/\Its w' w'.heap.size (.slice A (Ty S v.root).length c) (Ty S v.root)))
set_option maxRecDepth 100000 in
theorem Gq (A1 n1 c1 A2 n2 c2 A3 n3 c3 A4 n4 c4) (gen root next:Int) (A5 c5) (S:Sto) (dead:List Int) (id:Int) (w:World) (h:qV w w.heap.size (.slice A1 n1 c1) (.slice A2 n2 c2) (.slice A3 n3 c3) (.slice A4 n4 c4) S) (hd:Zv w w.heap.size (.slice A5 dead.length c5) dead):Calls prog 29 #[.agg (qF (.slice A1 n1 c1) (.slice A2 n2 c2) (.slice A3 n3 c3) (.slice A4 n4 c4) gen root next (.slice A5 dead.length c5)),.int .u32 id] w (AllQ S root next dead id w):=by
 have HR:=zH (fun W (hx:Ext w W)=>qiS A1 n1 c1 A2 n2 c2 A3 n3 c3 A4 n4 c4 gen root next A5 c5 S dead id 0 0 0 255 4294967295 4294967295 W (h.ext hx) (hd.ext_ hx));clear h hd;generalize hQ:AllQ S root next dead id w=Q
 replace hQ:=zH hQ;go_enter func29,ntmps29;go_wp2_with fail;generalize aA:World.alloc w _=w1;have x1:Ext w w1:=aA▸zN _ _
 clear aA;refine(HR.out w1 x1).mono ?_;clear HR;rintro e w2 ⟨hB,hq⟩;have x2:=zH (x1.trans hB);rcases hq with ⟨rfl,ai⟩|⟨vs,u,hok,rfl,hm⟩
 ·replace ai:=zH ai;go_wp2_with fail;rw[<-hQ.out];exact⟨x2.out,.inl ⟨rfl,ai.out⟩⟩
 ·replace hok:=zH hok;rcases hv:Qs vs id with _|v
  ·rw[hv] at hm;simp only at hm;subst hm;replace hv:=zH hv;go_wp2_with fail;rw[<-hQ.out];exact⟨x2.out,.inr ⟨vs,hok.out,.inl ⟨hv.out,rfl⟩⟩⟩
  ·rw[hv] at hm;simp only at hm;obtain⟨ps,q,rfl,ax,hr,-⟩:=hm;obtain⟨aK,A,c,rfl⟩:=hr.its (zM _);have hl:ps.length=(Ty S v.root).length:=by rw[<-List.length_map (f:=(·.1)),ax];rfl
   have hi2:=zH (show Its w2 w2.heap.size (.slice A (Ty S v.root).length c) (Ty S v.root) by have:=aK.its;rw[ax,hl] at this;exact this);rw[hl];clear hl aK hr ax hB x1;generalize hz:(Ty S v.root).length=nz;replace hz:=zH hz;replace hv:=zH hv;go_wp2_with fail;rw[<-hQ.out];refine⟨x2.out,.inr ⟨vs,hok.out,.inr ⟨v,A,c,hv.out,?_,hi2.out⟩⟩⟩;rw[hz.out];rfl
def CreEnd (bp be ba:Nat) (cs:Array Value) (a e:Int) (S:Sto) (W W':World):Prop:=YI bp be ba W W' /\
 ((e=0/\zh S=0/\W'.heap[bp]?=some (.cells cs 32 (0,0))/\W'.heap[be]?=some (.cells #[.int .i64 0] 37 (0,0))/\W'.heap[ba]?=some (.cells #[.int .u32 a] 29 (0,0))) \/
  ∃ e',e'≠0/\((e=0/\e'=zh S)\/(e≠0/\e'=e))/\W'.heap[bp]?=some (.cells kK 32 (0,0))/\W'.heap[be]?=some (.cells #[.int .i64 e'] 37 (0,0))/\W'.heap[ba]?=some (.cells #[.int .u32 0] 29 (0,0)))
set_option maxRecDepth 100000 in
theorem cre1_any (bp be ba:Nat) (h12:bp≠be) (h13:bp≠ba) (h23:be≠ba) (A1 n1 c1 A2 n2 c2 A3 n3 c3 A4 n4 c4) (gen root next:Int) (v5:Value) (a e:Int) (S:Sto) (u:FrameMode) (w:World) (hp:w.heap[bp]?=some (.cells (qF (.slice A1 n1 c1) (.slice A2 n2 c2) (.slice A3 n3 c3) (.slice A4 n4 c4) gen root next v5) 32 (0,0))) (he:w.heap[be]?=some (.cells #[.int .i64 e] 37 (0,0))) (ha:w.heap[ba]?=some (.cells #[.int .u32 a] 29 (0,0))) (h:e=0->qV w w.heap.size (.slice A1 n1 c1) (.slice A2 n2 c2) (.slice A3 n3 c3) (.slice A4 n4 c4) S):CallsD prog 101 #[.pointer (some ⟨bp,0,none⟩),.pointer (some ⟨be,0,none⟩),.pointer (some ⟨ba,0,none⟩)] u w (fun x u' w'=>u'=u/\x=.returned (.tuple #[])/\CreEnd bp be ba (qF (.slice A1 n1 c1) (.slice A2 n2 c2) (.slice A3 n3 c3) (.slice A4 n4 c4) gen root next v5) a e S w w'):=by
 have HR:=qkS bp be h12 A1 n1 c1 A2 n2 c2 A3 n3 c3 A4 n4 c4 gen root next v5 e S w hp he h
 clear h hp he;go_enter_d func101,ntmps101;go_wp2_with fail;refine HR.mono ?_;rintro x w2 ⟨rfl,hT,⟨h0,hE,dV,fG⟩|⟨e',h0,hE,dV,fG⟩⟩
 ·have ak:=(hT.same ba (zG.1 ha).1 (Ne.symm h13) (Ne.symm h23)).trans ha;have ke2:=qa fG;have hz:=zH h0;clear h0;go_wp2_with fail;go_end0;exact⟨rfl,YI.of_two hT,.inl ⟨hz.out,hE,dV,fG,ak⟩⟩
 ·have ak:=(hT.same ba (zG.1 ha).1 (Ne.symm h13) (Ne.symm h23)).trans ha;have ke2:=qa fG;have ka2:=qa ak;have fa2:=qe ak;have b1:(e' != 0)=true:=by rw[bne_iff_ne];exact h0
  replace h0:=zH h0;replace hE:=zH hE;go_wp2_with fail;go_end0;exact⟨rfl,(YI.of_two hT).set _,.inr ⟨e',h0.out,hE.out,(zJ _ _ _ _ h13).trans dV,(zJ _ _ _ _ h23).trans fG,qi ak 0 _⟩⟩
structure Ky (n:Nat) (A:Array Bool) (m:Nat):Prop where
 size:A.size=n
 at_:∀ j,j<n->A[j]?=some (m.testBit j)
 out:∀ j,n<=j->m.testBit j=false
theorem Ky.none_ (n:Nat):Ky n (Array.replicate n false) 0:=
 ⟨zA2,fun j hj=>by rw[Array.getElem?_replicate,if_pos hj,Nat.zero_testBit],fun j _=>Nat.zero_testBit j⟩
theorem Ky.getT {n m:Nat} {A:Array Bool} (h:Ky n A m) {j:Nat} (hj:j<n) (d:Bool):A.getD j d=m.testBit j:=by rw[Array.getD_eq_getD_getElem?,h.at_ j hj];rfl
theorem Ky.set {n m:Nat} {A:Array Bool} (h:Ky n A m) {k:Nat} (hk:k<n):Ky n (A.setIfInBounds k true) (m ||| 2 ^ k):=by
 refine⟨by simpa using h.size,fun j hj=>?_,fun j hj=>?_⟩
 ·rw[Nat.testBit_or,Nat.testBit_two_pow];by_cases e:k=j
  ·subst e;rw[Array.getElem?_setIfInBounds_self_of_lt (by rw[h.size];exact hk)];simp
  ·rw[Array.getElem?_setIfInBounds_ne e,h.at_ j hj];simp[e]
 ·rw[Nat.testBit_or,Nat.testBit_two_pow,h.out j hj];simp;omega
def freeN (ops:Array Oper) (oi:Oper) (k m:Nat):Nat->List Oper->Bool
 |_,[]=>true
 |j,oj :: r=>(j == k || m.testBit j || oj.after.any (fun e=>Region.binds .any e && e.on == k) || oi.apart ops oj) && freeN ops oi k m (j+1) r
theorem qby {ops:Array Oper} {oi:Oper} {k m:Nat}:∀ (l:List Oper) (j:Nat),freeN ops oi k m j l=true->∀ i o,l[i]?=some o->(j+i == k || m.testBit (j+i) || o.after.any (fun e=>Region.binds .any e && e.on == k) || oi.apart ops o)=true
 | [],_,_,i,o,h=>by simp at h
 |x :: r,j,h,i,o,ho=>by
  simp only[freeN,Bool.and_eq_true] at h;rcases i with _|i
  ·simp only[List.getElem?_cons_zero,Option.some.injEq] at ho;subst ho;exact h.1
  ·have:=qby r (j+1) h.2 i o (by simpa using ho)
   rwa [show j+1+i=j+(i+1) by omega] at this
def lexN (l:List Oper) (fin:Nat):List Nat->Nat->Bool
 | [],m=>m == fin
 |k :: r,m=>!m.testBit k && (match l[k]? with
  |some o=>o.after.toList.all (fun e=>!Region.binds .any e || m.testBit e.on) && freeN l.toArray o k m 0 l
  |none=>false) && lexN l fin r (m ||| 2 ^ k)
theorem qdA {l:List Oper} {L:Array Bool} {fin:Nat} (hL:Ky l.length L fin):∀ (ks:List Nat) (A:Array Bool) (m:Nat),Ky l.length A m->lexN l fin ks m=true->ZQ l.toArray L ks A=true
 | [],A,m,hA,h=>by
  simp only[lexN,beq_iff_eq] at h;subst h;simp only[ZQ,beq_iff_eq];refine Array.ext_getElem? fun j=>?_;by_cases hj:j<l.length
  ·rw[hA.at_ j hj,hL.at_ j hj]
  ·rw[Array.getElem?_eq_none (by rw[hA.size];omega),Array.getElem?_eq_none (by rw[hL.size];omega)]
 |k :: r,A,m,hA,h=>by
  simp only[lexN,Bool.and_eq_true,Bool.not_eq_true'] at h;obtain⟨⟨h0,h1⟩,h2⟩:=h;split at h1
  ·rename_i o ho;simp only[Bool.and_eq_true] at h1;obtain⟨h1,h3⟩:=h1;have hk:k<l.length:=(List.getElem?_eq_some_iff.1 ho).1;have hoA:l.toArray[k]?=some o:=by simpa using ho
   simp only[ZQ,Bool.and_eq_true];refine⟨⟨?_,?_⟩,qdA hL r _ _ (hA.set hk) h2⟩
   ·have:k∈Region.ready .any l.toArray A:=mem_ready.2 ⟨by rw[hA.getT hk,h0],o,hoA,fun e he hb=>by
     have h4:=List.all_eq_true.1 h1 e (by simpa using he);rw[hb] at h4;simp only[Bool.not_true,Bool.false_or] at h4;by_cases hj:e.on<l.length
     ·rw[hA.getT hj,h4]
     ·rw[hA.out e.on zO] at h4;cases h4⟩
    simpa using this
   ·unfold Region.free;rw[hoA];simp only[List.all_eq_true,List.mem_range];intro j hj;have hj':j<l.length:=by simpa using hj
    have h4:=qby l 0 h3 j l[j] (zL hj');rw[Nat.zero_add] at h4;rw[hA.getT hj',List.getElem?_toArray,zL hj'];simp only;simp only[Bool.or_eq_true] at h4 ⊢;rcases h4 with ((h4|h4)|h4)|h4
    ·exact .inl (.inl h4)
    ·exact .inl (.inr h4)
    ·exact .inr (.inl h4)
    ·exact .inr (.inr h4)
  ·cases h1
theorem Ky.listed (n m:Nat) (h:m<=n):Ky n (za n m) (2 ^ m-1):=by
 refine⟨by simp[za],fun j hj=>?_,fun j hj=>?_⟩
 ·unfold za;rw[List.getElem?_toArray,List.getElem?_map,List.getElem?_range hj,Nat.testBit_two_pow_sub_one];rfl
 ·rw[Nat.testBit_two_pow_sub_one];simp;omega
theorem qdg {P:Program} {l:List Oper} {Q:Exit->Act->World->Prop} {fuel:Nat} {a:Act} {w W:World} (R:Rel) (H:Nat->Option Qd) (M:List Bool) (t:Nat) (hs:Region.noSelect l.toArray=true) (ht:qhc l.toArray (za l.length (l.length-t)) ((qu 0 l M).map (·.1))=true) (dQ:XG l.toArray (Array.replicate l.length false)=true) (hB:lexN l (2 ^ (l.length-t)-1) ((qu 0 l M).map (·.1)) 0=true) (mf:GR l.toArray t (l.length-t) (za l.length (l.length-t))=true) (hfu:fuel=(qu 0 l M).length+t) (mi:(l.drop (l.length-t)).length=t) (hH:∀ i h,H i=some h->∀ p,qL R (h.φ p)) (hW:R.r w W) (h:∀ K:Act->qT->Prop,(∀ a' F',(∀ W,R.r w W->(∀ k,F' k W)->wpList P l.toArray Q (l.drop (l.length-t)) a' W)->K a' F')->jc R P l.toArray w H K (qu 0 l M) a (fun _ _=>True)):wpAny P .any l.toArray Q fuel (Array.replicate l.length false) a W:=
 qQ R H M t hs ht dQ (qdA (Ky.listed _ _ (Nat.sub_le _ _)) _ _ _ (Ky.none_ _) hB) mf hfu mi hH hW h
def newV (next:Int) (r:Nat):Vol:=⟨next,(r:Int),false,0⟩
def Gm (S:Sto) (root next:Int) (dead:List Int) (er:Int):Prop:=(er=8/\QK S root next dead)\/∃ vs refs nodes,Qb S root next dead vs/\qR S (Qk root dead vs) refs nodes/\Qw S refs /\
 ((er=9/\(16<=vs.length\/next=4294967295))\/Yt S=.error er\/∃ ra S1,Yt S=.ok (ra,S1)/\(Kk S1 root (next+1) dead (newV next ra) er\/∃ r S2 vs',vT S1 root (next+1) dead (newV next ra) r S2 vs'/\zh S2=er))
def CreQ (S:Sto) (gen root next:Int) (dead:List Int) (w:World) (e:Ending) (w':World):Prop:=Below w.heap.size w w' /\
 ((∃ er,er≠0/\e=.returned (.tuple #[jb,.int .u32 0,.int .i64 er])/\Gm S root next dead er) \/
  ∃ vs refs nodes ra S1 r S2 vs' u,Qb S root next dead vs/\qR S (Qk root dead vs) refs nodes/\Qw S refs/\vs.length<16/\next<4294967295/\Yt S=.ok (ra,S1)/\vT S1 root (next+1) dead (newV next ra) r S2 vs'/\zh S2=0 /\
   e=.returned (.tuple #[u,.int .u32 next,.int .i64 0])/\jV w.heap.size S2 gen (r:Int) (next+1) dead u w')
theorem qjm {R:Ending->World->Prop} {tmps:Array Value} {W:World} {b:Nat} {x0 x1 x2 x3 x4 x5 x6 x7 y z:Value} (h4:tmps[2]?.getD undef=.pointer (some ⟨b+1,0,none⟩)) (h5:tmps[3]?.getD undef=.pointer (some ⟨b+1+1,0,none⟩)) (h6:tmps[4]?.getD undef=.pointer (some ⟨b+1+1+1,0,none⟩)) (r4:W.heap[b+1]?=some (.cells #[x0,x1,x2,x3,x4,x5,x6,x7] 32 (0,0))) (r5:W.heap[b+2]?=some (.cells #[y] 29 (0,0))) (r6:W.heap[b+3]?=some (.cells #[z] 37 (0,0))) (hR:R (.returned (.tuple #[.agg #[x0,x1,x2,x3,x4,x5,x6,x7],y,z])) W):Leaves prog Tryz.f48 tmps R [] .returning W:=by
 have k4:=qa r4;have k5:=qa r5;have k6:=qa r6;refine⟨.tuple #[.agg #[x0,x1,x2,x3,x4,x5,x6,x7],y,z],?_,hR⟩;simp[results,results48,go_sem,h4,h5,h6,k4,k5,k6]
theorem qfP {R:Ending->World->Prop} {tmps:Array Value} {W:World} {b:Nat} (A1 n1 c1 A2 n2 c2 A3 n3 c3 A4 n4 c4) (gen root next:Int) (v5:Value) (y e:Int) (S:Sto) (h4:tmps[2]?.getD undef=.pointer (some ⟨b+1,0,none⟩)) (h5:tmps[3]?.getD undef=.pointer (some ⟨b+1+1,0,none⟩)) (h6:tmps[4]?.getD undef=.pointer (some ⟨b+1+1+1,0,none⟩)) (r4:W.heap[b+1]?=some (.cells (qF (.slice A1 n1 c1) (.slice A2 n2 c2) (.slice A3 n3 c3) (.slice A4 n4 c4) gen root next v5) 32 (0,0))) (r5:W.heap[b+2]?=some (.cells #[.int .u32 y] 29 (0,0))) (r6:W.heap[b+3]?=some (.cells #[.int .i64 e] 37 (0,0))) (h:e=0->qV W W.heap.size (.slice A1 n1 c1) (.slice A2 n2 c2) (.slice A3 n3 c3) (.slice A4 n4 c4) S) (hR1:e=0->zh S=0->∀ W',YI (b+1) (b+3) (b+2) W W'->R (.returned (.tuple #[.agg (qF (.slice A1 n1 c1) (.slice A2 n2 c2) (.slice A3 n3 c3) (.slice A4 n4 c4) gen root next v5),.int .u32 y,.int .i64 0])) W') (hR2:∀ e' W',e'≠0->((e=0/\e'=zh S)\/(e≠0/\e'=e))->YI (b+1) (b+3) (b+2) W W'->R (.returned (.tuple #[jb,.int .u32 0,.int .i64 e'])) W'):bodyPostD prog Tryz.f48 R .ret { tmps:=tmps,defers:=[{ target:=.fn (.func 101) #[.pointer (some ⟨b+1,0,none⟩),.pointer (some ⟨b+1+1+1,0,none⟩),.pointer (some ⟨b+1+1,0,none⟩)],args:=#[] }] } W:=by
 refine leaves_cons (f:=101) (args:=#[.pointer (some ⟨b+1,0,none⟩),.pointer (some ⟨b+1+1+1,0,none⟩),.pointer (some ⟨b+1+1,0,none⟩)]) zA2 (by simp[go_sem]) ?_;refine(cre1_any (b+1) (b+3) (b+2) zO zO zO A1 n1 c1 A2 n2 c2 A3 n3 c3 A4 n4 c4 gen root next v5 y e S .returning W r4 r6 r5 h).mono ?_;rintro x u' w' ⟨rfl,rfl,hT,⟨h0,hE,g4,g6,g5⟩|⟨e',h0,hE,g4,g6,g5⟩⟩
 ·exact qjm h4 h5 h6 g4 g5 g6 (hR1 h0 hE w' hT)
 ·exact qjm h4 h5 h6 g4 g5 g6 (hR2 e' w' h0 hE hT)
theorem Uk {tmps:Array Value} {w W:World} {S:Sto} {gen root next:Int} {dead:List Int} {er:Int} {z0:Int} (aG:er≠0) (hc:Gm S root next dead er) (h4:tmps[2]?.getD undef=.pointer (some ⟨w.heap.size+1,0,none⟩)) (h5:tmps[3]?.getD undef=.pointer (some ⟨w.heap.size+1+1,0,none⟩)) (h6:tmps[4]?.getD undef=.pointer (some ⟨w.heap.size+1+1+1,0,none⟩)) (r4:W.heap[w.heap.size+1]?=some (.cells kK 32 (0,0))) (r5:W.heap[w.heap.size+2]?=some (.cells #[.int .u32 z0] 29 (0,0))) (r6:W.heap[w.heap.size+3]?=some (.cells #[.int .i64 er] 37 (0,0))) (hB:Ext w W):bodyPostD prog Tryz.f48 (CreQ S gen root next dead w) .ret { tmps:=tmps,defers:=[{ target:=.fn (.func 101) #[.pointer (some ⟨w.heap.size+1,0,none⟩),.pointer (some ⟨w.heap.size+1+1+1,0,none⟩),.pointer (some ⟨w.heap.size+1+1,0,none⟩)],args:=#[] }] } W:=by
 refine qfP none 0 0 none 0 0 none 0 0 none 0 0 0 0 0 (.slice none 0 0) z0 er S h4 h5 h6 r4 r5 r6 (fun h=>absurd h aG) (fun h=>absurd h aG) (fun e' W' h0 hE hT=>?_);obtain rfl:e'=er:=by
  rcases hE with ⟨h,_⟩|⟨_,h⟩
  ·exact absurd h aG
  ·exact h
 have z:=(zG.1 r4).1;exact⟨hT.below hB zO zO zO zO,.inl ⟨e',aG,rfl,hc⟩⟩
theorem qbw {W:World} {b:Nat} {v p q0:Value} {ty1 ty2 ty3:TypeId} {cs:Array Value} (r4:W.heap[b+1]?=some (.cells cs ty1 (0,0))) (r5:W.heap[b+2]?=some (.cells #[p] ty2 (0,0))) (r6:W.heap[b+3]?=some (.cells #[q0] ty3 (0,0))) {C:World} (hC:W.setCell ⟨b+1+1+1,0,none⟩ v=C):C.heap[b+1]?=some (.cells cs ty1 (0,0))/\C.heap[b+2]?=some (.cells #[p] ty2 (0,0))/\C.heap[b+3]?=some (.cells #[v] ty3 (0,0))/\(∀ {w0:World},w0.heap.size<=b->Ext w0 W->Ext w0 C)/\C.heap.size=W.heap.size/\∀ k,k≠b+3->C.heap[k]?=W.heap[k]?:=by
 subst hC;have hs:=fun (k:Nat) (hk:k≠b+3)=>zJ W ⟨b+1+1+1,0,none⟩ v k hk;exact⟨(hs _ zO).trans r4,(hs _ zO).trans r5,qi r6 0 v,fun hb hx=>Below.setCell hx (p:=⟨b+1+1+1,0,none⟩) zA1 _,zA2,hs⟩
theorem newE_err {S:Sto} {er:Int} (h:Yt S=.error er):er≠0:=by
 unfold Yt at h;split at h
 ·exact XM h
 ·cases h;decide
theorem cre_mid {W:World} {b vb:Nat} {u0 u1 u2 u3 u4 u5 u6 u7 y0 y1 y2 y3 p q0 x0 x1 x2 x3 z ev nx:Value} {tyP tyV ty1 ty2 ty3:TypeId} {cs:Array Value} (ra:W.heap[b]?=some (.cells #[u0,u1,u2,u3,u4,u5,u6,u7] tyP (0,0))) (rv:W.heap[vb]?=some (.cells #[y0,y1,y2,y3] tyV (0,0))) (r4:W.heap[b+1]?=some (.cells cs ty1 (0,0))) (r5:W.heap[b+2]?=some (.cells #[p] ty2 (0,0))) (r6:W.heap[b+3]?=some (.cells #[q0] ty3 (0,0))) (hvb:b+3<vb) {C:World} (hC:((((((W.setCell ⟨b,0,none⟩ x0).setCell ⟨b,1,none⟩ x1).setCell ⟨b,2,none⟩ x2).setCell ⟨b,3,none⟩ x3).setCell ⟨vb,1,none⟩ z).setCell ⟨b+1+1+1,0,none⟩ ev).setCell ⟨b,6,none⟩ nx=C):C.heap[b]?=some (.cells #[x0,x1,x2,x3,u4,u5,nx,u7] tyP (0,0))/\C.heap[vb]?=some (.cells #[y0,z,y2,y3] tyV (0,0))/\C.heap[b+1]?=some (.cells cs ty1 (0,0))/\C.heap[b+2]?=some (.cells #[p] ty2 (0,0))/\C.heap[b+3]?=some (.cells #[ev] ty3 (0,0)) /\
   C.heap.size=W.heap.size/\(∀ {w0:World},w0.heap.size<=b->Ext w0 W->Ext w0 C)/\∀ k,k≠b->k≠vb->k≠b+3->C.heap[k]?=W.heap[k]?:=by
 subst hC;have hs:=fun (A:World) (b j:Nat) (v:Value) (k:Nat) (hk:k≠b)=>zJ A ⟨b,j,none⟩ v k hk;have r1:=qi (qi (qi (qi ra 0 x0) 1 x1) 2 x2) 3 x3;have o1:∀ k,k≠b->((((W.setCell ⟨b,0,none⟩ x0).setCell ⟨b,1,none⟩ x1).setCell ⟨b,2,none⟩ x2).setCell ⟨b,3,none⟩ x3).heap[k]?=W.heap[k]?:=fun k hk=>by rw[hs _ _ _ _ _ hk,hs _ _ _ _ _ hk,hs _ _ _ _ _ hk,hs _ _ _ _ _ hk]
 have ay:∀ k,k≠b->k≠vb->k≠b+3->(((((((W.setCell ⟨b,0,none⟩ x0).setCell ⟨b,1,none⟩ x1).setCell ⟨b,2,none⟩ x2).setCell ⟨b,3,none⟩ x3).setCell ⟨vb,1,none⟩ z).setCell ⟨b+1+1+1,0,none⟩ ev).setCell ⟨b,6,none⟩ nx).heap[k]?=W.heap[k]?:=fun k h1 h2 h3=>by rw[hs _ _ _ _ _ h1,hs _ _ _ _ _ zO,hs _ _ _ _ _ h2,o1 k h1]
 refine⟨?_,?_,(ay _ zO zO zO).trans r4,(ay _ zO zO zO).trans r5,?_,zA2,fun hb hx=>?_,ay⟩
 ·exact qi (t:=tyP) (cs:=#[x0,x1,x2,x3,u4,u5,u6,u7]) (by rw[hs _ _ _ _ _ zO,hs _ _ _ _ _ zO];exact r1) 6 nx
 ·rw[hs _ _ _ _ _ zO,hs _ _ _ _ _ zO];exact qi (t:=tyV) (cs:=#[y0,y1,y2,y3]) ((o1 vb zO).trans rv) 1 z
 ·rw[hs _ _ _ _ _ zO];exact qi (t:=ty3) (cs:=#[q0]) (by rw[hs _ _ _ _ _ zO,o1 _ zO];exact r6) 0 ev
 ·exact Below.setCell (Below.setCell (Below.setCell (Zl hx (b:=b) hb _ _ _ _) (p:=⟨vb,1,none⟩) zA1 _) (p:=⟨b+1+1+1,0,none⟩) zA1 _) (p:=⟨b,6,none⟩) hb _
set_option maxRecDepth 100000 in
theorem qhg (A1 n1 c1 A2 n2 c2 A3 n3 c3 A4 n4 c4) (gen root next:Int) (A5 c5) (S:Sto) (dead:List Int) (hn0:0<=next) (lW:next<4294967296) (w:World) (h:qV w w.heap.size (.slice A1 n1 c1) (.slice A2 n2 c2) (.slice A3 n3 c3) (.slice A4 n4 c4) S) (hd:Zv w w.heap.size (.slice A5 dead.length c5) dead):Calls prog 48 #[.agg (qF (.slice A1 n1 c1) (.slice A2 n2 c2) (.slice A3 n3 c3) (.slice A4 n4 c4) gen root next (.slice A5 dead.length c5))] w (CreQ S gen root next dead w):=by
 have HV:=zH (fun W (hx:Ext w W)=>qdp A1 n1 c1 A2 n2 c2 A3 n3 c3 A4 n4 c4 gen root next A5 c5 S dead W (h.ext hx) (hd.ext_ hx));have HN:=zH (fun W (hx:Ext w W)=>pnew_any A1 n1 c1 A2 n2 c2 A3 n3 c3 A4 n4 c4 S W (h.ext hx));have hJE:Hid (next<4294967295->IntKind.u32.wrap (next+1)=next+1):=zH fun h1=>by simp only[IntKind.wrap,IntKind.bits,IntKind.signed,Bool.false_and,Bool.false_eq_true,if_false];omega
 have pV:Hid (∀ ra:Nat,8<=ra->ra<256->JZ (newV next ra)):=zH fun ra h1 h2=>by refine⟨⟨?_,?_⟩,⟨?_,?_⟩,⟨?_,?_⟩⟩ <;> simp only[newV] <;> omega
 replace h:=zH h;replace hd:=zH hd;go_enter_defers func48,ntmps48;go_wp2_with fail;generalize aA:(World.alloc (World.alloc _ _) _)=w1;have x1:Ext w w1:=aA▸(((zN _ _).trans (zN _ _)).trans (zN _ _)).trans (zN _ _)
 have s1:w1.heap.size=w.heap.size+4:=by rw[<-aA];simp
 have ra1:w1.heap[w.heap.size]?=some (.cells (qF (.slice A1 n1 c1) (.slice A2 n2 c2) (.slice A3 n3 c3) (.slice A4 n4 c4) gen root next (.slice A5 dead.length c5)) 32 (0,0)):=aA▸(zK _ _ _ zA3).trans ((zK _ _ _ zA3).trans ((zK _ _ _ zA3).trans (zI _ _ _ rfl)))
 have rb1:w1.heap[w.heap.size+1]?=some (.cells kK 32 (0,0)):=aA▸(zK _ _ _ zA3).trans ((zK _ _ _ zA3).trans (zI _ _ _ zA2))
 have rc1:w1.heap[w.heap.size+2]?=some (.cells #[.int .u32 0] 29 (0,0)):=aA▸(zK _ _ _ zA3).trans (zI _ _ _ zA2)
 have rd1:w1.heap[w.heap.size+3]?=some (.cells #[.int .i64 0] 37 (0,0)):=aA▸zI _ _ _ zA2
 clear aA;refine(HV.out w1 x1).mono ?_;clear HV;rintro e w2 ⟨hB,hQ⟩;have x2:Ext w w2:=Ext.trans x1 hB;have z2:w.heap.size+3<w2.heap.size:=by have:=Below.size hB;omega
 have ra2:=qb ra1 hB;have rb2:=qb rb1 hB;have rc2:=qb rc1 hB;have rd2:=qb rd1 hB;clear hB ra1 rb1 rc1 rd1 x1;have ka2:=qa ra2;have kb2:=qa rb2;have kc2:=qa rc2;have kd2:=qa rd2;have fb2:=qe rb2;have fc2:=qe rc2;have fd2:=qe rd2;have zd2:w.heap.size+1+1+1<w2.heap.size:=zO;have zd0:w.heap.size<w2.heap.size:=zO;rcases hQ with ⟨rfl,aX⟩|⟨vs,refs,nodes,cb,ca,vv,lo,rfl,aQ,hT⟩
 ·have xG:Hid (Gm S root next dead 8):=zH (.inl ⟨rfl,aX⟩);clear aX HN;go_wp2_with fail;obtain⟨rb3,rc3,rd3,xe,-,-⟩:=qbw (b:=w.heap.size) (v:=.int .i64 8) rb2 rc2 rd2 rfl;obtain⟨g4,g5,g6,cZ,-,-⟩:=Ux (b:=w.heap.size) rb3 rc3 rd3 rfl;exact Uk zD xG.out rfl rfl rfl g4 g5 g6 (cZ (B:=w.heap.size) zO (xe (zM _) x2))
 ·have hp:=zH hT.pool;have hc:=zH hT.cnt;have he:=zH hT.enough;obtain⟨AV,cV,rfl,-,-⟩:=qE hT.own;clear hT aQ;by_cases hl:16<=vs.length
  ·have xG:Hid (Gm S root next dead 9):=zH (.inr ⟨vs,refs,nodes,hp.out,hc.out,he.out,.inl ⟨rfl,.inl hl⟩⟩);have d1:decide ((vs.length:Int)≥16)=true:=decide_eq_true zO;replace hl:=zH hl;clear HN;go_wp2_with fail;obtain⟨rb3,rc3,rd3,xe,-,-⟩:=qbw (b:=w.heap.size) (v:=.int .i64 0) rb2 rc2 rd2 rfl;obtain⟨g4,g5,g6,cZ,-,-⟩:=Ux (b:=w.heap.size) rb3 rc3 rd3 rfl;exact Uk zD xG.out rfl rfl rfl g4 g5 g6 (cZ (B:=w.heap.size) zO (xe (zM _) x2))
  ·have d1:decide ((vs.length:Int)≥16)=false:=decide_eq_false zO;replace hl:=zH hl;by_cases hm:next=4294967295
   ·have xG:Hid (Gm S root next dead 9):=zH (.inr ⟨vs,refs,nodes,hp.out,hc.out,he.out,.inl ⟨rfl,.inr hm⟩⟩);have d3:(next == 4294967295)=true:=by rw[beq_iff_eq];exact hm
    replace hm:=zH hm;clear HN;go_wp2_with fail;obtain⟨rb3,rc3,rd3,xe,-,-⟩:=qbw (b:=w.heap.size) (v:=.int .i64 0) rb2 rc2 rd2 rfl;obtain⟨g4,g5,g6,cZ,-,-⟩:=Ux (b:=w.heap.size) rb3 rc3 rd3 rfl;exact Uk zD xG.out rfl rfl rfl g4 g5 g6 (cZ (B:=w.heap.size) zO (xe (zM _) x2))
   ·have d3:(next == 4294967295)=false:=by rw[beq_eq_false_iff_ne];exact hm
    replace hm:=zH hm;have ug:vs.length<16:=by have:=hl.out;omega
    have dX:next<4294967295:=by have:=hm.out;omega
    replace ug:=zH ug;replace dX:=zH dX;go_wp2_with fail;generalize aO:World.alloc (World.setCell w2 _ _) _=w3;have rv3:w3.heap[w2.heap.size]?=some (.cells #[.int .u32 next,.int .i64 0,.bool false,.int .u32 0] 36 (0,0)):=aO▸zI _ _ _ zA2
    obtain⟨rb3,rc3,rd3,xe,ze,oe⟩:=qbw (b:=w.heap.size) (v:=.int .i64 0) rb2 rc2 rd2 rfl;have x3:Ext w w3:=aO▸(xe (zM _) x2).trans (zN _ _)
    have ha3:=zN (w2.setCell ⟨w.heap.size+1+1+1,0,none⟩ (.int .i64 0)) (.cells #[.int .u32 next,.int .i64 0,.bool false,.int .u32 0] 36);rw[aO] at ha3;replace rb3:=qb rb3 ha3;replace rc3:=qb rc3 ha3;replace rd3:=qb rd3 ha3;have ra3:=qb ((oe w.heap.size zO).trans ra2) ha3;clear aO xe ze oe ha3 rb2 rc2 rd2 ra2 ka2 kb2 kc2 kd2 fb2 fc2 fd2;refine(HN.out w3 x3).mono ?_;clear HN;rintro e w4 ⟨u,rfl,hM,hB⟩;have x4:Ext w w4:=x3.trans hB;have ra4:=qb ra3 hB;have rb4:=qb rb3 hB;have rc4:=qb rc3 hB;have rd4:=qb rd3 hB;have rv4:=qb rv3 hB;have ka4:=qa ra4;have kb4:=qa rb4;have kc4:=qa rc4;have kd4:=qa rd4;have kv4:=qa rv4;have fa4:=qe ra4;have fb4:=qe rb4;have fc4:=qe rc4;have fd4:=qe rd4;have fv4:=qe rv4;have zv3:=(zG.1 rv3).1;have zv4:=(zG.1 rv4).1;clear hB ra3 rb3 rc3 rd3 rv3;rcases hq:Yt S with er|⟨ra,S1⟩
    ·rw[hq] at hM;obtain rfl:=hM;have aG:=newE_err hq;have xG:Hid (Gm S root next dead er):=zH (.inr ⟨vs,refs,nodes,hp.out,hc.out,he.out,.inr (.inl hq)⟩);have iG:(er != 0)=true:=by rw[bne_iff_ne];exact aG
     replace aG:=zH aG;replace hq:=zH hq;go_wp2_with fail;have hs5:=(((((Sets.refl (fun k=>k=w.heap.size\/k=w2.heap.size) w4).set (b:=w.heap.size) 0 (.inl rfl) (.slice none 0 0)).set (b:=w.heap.size) 1 (.inl rfl) (.slice none 0 0)).set (b:=w.heap.size) 2 (.inl rfl) (.slice none 0 0)).set (b:=w.heap.size) 3 (.inl rfl) (.slice none 0 0)).set (b:=w2.heap.size) 1 (.inr rfl) (.int .i64 0);obtain⟨rb5,rc5,rd5,xe,-,-⟩:=qbw (b:=w.heap.size) (v:=.int .i64 er) (hs5.row rb4 zO) (hs5.row rc4 zO) (hs5.row rd4 zO) rfl;obtain⟨g4,g5,g6,cZ,-,-⟩:=Ux (b:=w.heap.size) rb5 rc5 rd5 rfl;exact Uk aG.out xG.out rfl rfl rfl g4 g5 g6 (cZ (B:=w.heap.size) zO (xe (zM _) (hs5.below x4 zO)))
    ·rw[hq] at hM;obtain⟨v,rfl,hT⟩:=hM;obtain⟨BB,WW,gg,B3,d3,B4,d4,rfl,-⟩:=id hT;have mX:=zH (JT (hT.newSto (QV (UH hq).2.2.1)));have wU:=hJE.out dX.out;have yP:=zH (new_tree hq);have oJ:=(UH hq).2.2.2;have lJ:=zH hq;clear hT hq;go_wp2_with fail;generalize aT:World.setCell (World.setCell (World.setCell (World.setCell (World.setCell (World.setCell (World.setCell w4 _ _) _ _) _ _) _ _) _ _) _ _) _ _=w5;obtain⟨ra5,rv5,rb5,rc5,rd5,z5,xe5,o5⟩:=cre_mid (b:=w.heap.size) (vb:=w2.heap.size) ra4 rv4 rb4 rc4 rd4 zO aT;have x5:=xe5 (zM _) x4;have tJ:=(mX.out w5 (Jh fun k h1 h2=>o5 k zO zO zO)).more (show w4.heap.size<=w5.heap.size by omega);have HS:=zH (qbB (some ⟨BB,0,none⟩) S1.bs.length S1.bs.length (some ⟨WW,0,none⟩) S1.ws.length (S1.ws.length+1) B3 S1.now.length d3 B4 S1.last.length d4 gen root (next+1) A5 c5 S1 dead (newV next ra) (pV.out ra oJ.1 oJ.2) (fun _ _ _=>yP.out) w5 tJ (hd.out.ext_ x5));clear aT xe5 ra4 rb4 rc4 rd4 rv4 ka4 kb4 kc4 kd4 kv4 fa4 fb4 fc4 fd4 fv4 tJ mX yP;refine HS.out.mono ?_;clear HS;intro e w6 y8;obtain⟨bz,hS6⟩:=y8.split;have x6:Ext w w6:=x5.trans bz;have rb6:=qb rb5 bz;have rc6:=qb rc5 bz;have rd6:=qb rd5 bz;have rv6:=qb rv5 bz;obtain⟨E1,m1,e1,E2,m2,e2,E3,m3,e3,E4,m4,e4,g9,t9,n9,E5,m5,e5,er,rfl,hS7⟩:∃ E1 m1 e1 E2 m2 e2 E3 m3 e3 E4 m4 e4 g9 t9 n9 E5 m5 e5 er,e=.returned (.tuple #[.agg (qF (.slice E1 m1 e1) (.slice E2 m2 e2) (.slice E3 m3 e3) (.slice E4 m4 e4) g9 t9 n9 (.slice E5 m5 e5)),.int .i64 er]) /\
       ((er≠0/\qF (.slice E1 m1 e1) (.slice E2 m2 e2) (.slice E3 m3 e3) (.slice E4 m4 e4) g9 t9 n9 (.slice E5 m5 e5)=kK/\Kk S1 root (next+1) dead (newV next ra) er)\/(er=0/\∃ r S2 vs',vT S1 root (next+1) dead (newV next ra) r S2 vs'/\jV w5.heap.size S2 gen (r:Int) (next+1) dead (.agg (qF (.slice E1 m1 e1) (.slice E2 m2 e2) (.slice E3 m3 e3) (.slice E4 m4 e4) g9 t9 n9 (.slice E5 m5 e5))) w6)):=by
      rcases hS6 with ⟨er,h0,rfl,hE⟩|⟨r,S2,vs',u,hO,rfl,hN⟩
      ·exact⟨none,0,0,none,0,0,none,0,0,none,0,0,0,0,0,none,0,0,er,rfl,.inl ⟨h0,rfl,hE⟩⟩
      ·obtain⟨E1,e1,E2,e2,E3,e3,E4,e4,E5,e5,rfl,-⟩:=id hN;exact⟨E1,_,e1,E2,_,e2,E3,_,e3,E4,_,e4,gen,r,next+1,E5,_,e5,0,rfl,.inr ⟨rfl,r,S2,vs',hO,hN⟩⟩
     replace hS7:=zH hS7;have kb6:=qa rb6;have fb6:=qe rb6;have kd6:=qa rd6;have fd6:=qe rd6;clear y8 hS6 ra5 rb5 rc5 rd5 rv5;go_upto_region 13 with fail;generalize gp:World.setCell (World.setCell (World.setCell (World.setCell (World.setCell (World.setCell (World.setCell (World.setCell (World.setCell w6 _ _) _ _) _ _) _ _) _ _) _ _) _ _) _ _) _ _=w7;have x7:Ext w w7:=by rw[<-gp];exact Below.setCell (QR x6 (b:=w.heap.size+1) zO _ _ _ _ _ _ _ _) (p:=⟨w.heap.size+1+1+1,0,none⟩) zA1 _
     have z7:w7.heap.size=w6.heap.size:=by rw[<-gp];simp
     have hs:=fun (A:World) (b j:Nat) (v:Value) (k:Nat) (hk:k≠b)=>zJ A ⟨b,j,none⟩ v k hk;have rb7:w7.heap[w.heap.size+1]?=some (.cells (qF (.slice E1 m1 e1) (.slice E2 m2 e2) (.slice E3 m3 e3) (.slice E4 m4 e4) g9 t9 n9 (.slice E5 m5 e5)) 32 (0,0)):=by rw[<-gp,hs _ _ _ _ _ zO];exact ji rb6 _ _ _ _ _ _ _ _
     have o7:∀ k,k≠w.heap.size+1->k≠w.heap.size+3->w7.heap[k]?=w6.heap[k]?:=fun k h1 h2=>by rw[<-gp,hs _ _ _ _ _ zO,jK h1]
     have rc7:=(o7 (w.heap.size+2) zO zO).trans rc6;have rv7:=(o7 w2.heap.size zO zO).trans rv6;have rd7:w7.heap[w.heap.size+3]?=some (.cells #[.int .i64 er] 37 (0,0)):=by rw[<-gp];exact qi (t:=37) (cs:=#[.int .i64 0]) (by rw[jK zO];exact rd6) 0 _
     clear gp kb6 fb6 kd6 fd6 rb6 rc6 rd6 rv6 hs;have gO:∀ W,qj.r w7 W->∀ i,W.cell? ⟨w.heap.size+1,i,none⟩=(qF (.slice E1 m1 e1) (.slice E2 m2 e2) (.slice E3 m3 e3) (.slice E4 m4 e4) g9 t9 n9 (.slice E5 m5 e5))[i]?:=fun W h=>qa (qb rb7 h);have gV:∀ W,qj.r w7 W->∀ i,W.cell? ⟨w2.heap.size,i,none⟩=#[.int .u32 next,.int .i64 (ra:Int),.bool false,.int .u32 0][i]?:=fun W h=>qa (qb rv7 h);have gE:∀ W,qj.r w7 W->∀ i,W.cell? ⟨w.heap.size+1+1+1,i,none⟩=#[.int .i64 er][i]?:=fun W h=>qa (qb rd7 h);refine qp zQ ?_;refine qdg (w:=w7) qj (qH [(4,ZT)]) (List.replicate 5 true) 2 zQ zQ zQ zQ zQ zQ zQ ?st (Rel.drew _ _) ?walk
     case st=>exact qk (by simp only[List.forall_mem_cons];exact⟨ZG,fun _ h=>by cases h⟩)
     case walk =>
      intro K hK;dsimp only[qu,List.replicate];refine zD0 ?_;refine qy ZT zA0 zA0 (fun W hW _=>?_) (fun (p:Unit)=>?_)
      ·have hW:Ext w7 W:=hW;have r8:=qb rb7 hW;have k8:=qa r8;have f8:=qe r8;refine Ja ?_ (same8 r8);clear gO gV gE;go_simp
      refine zD0 ?_;refine qv (hK _ _ fun W hW hF=>?_);clear hF hK gO gV gE;have hW:Ext w7 W:=hW;refine zC3 ?_;have x8:Ext w W:=x7.trans hW;have z78:=hW.size;have rb8:=qb rb7 hW;have rc8:=qb rc7 hW;have rd8:=qb rd7 hW;have kc8:=qa rc8;have fc8:=qe rc8;have kd8:=qa rd8;have fd8:=qe rd8;have zd8:w.heap.size+1+1+1<W.heap.size:=(zG.1 rd8).1;have o8:∀ k,k<w6.heap.size->k≠w.heap.size+1->k≠w.heap.size+3->W.heap[k]?=w6.heap[k]?:=fun k h0 h1 h2=>(Below.block hW k zO).trans (o7 k h1 h2);replace o8:=zH o8;clear hW o7 rb7 rc7 rd7 rv7;go_wp2;refine Qr ?_;go_wp2_with fail;generalize aY:World.setCell (World.setCell W _ _) _ _=Wf;obtain⟨rcf,rdf,hbf,zf,hof⟩:=two_rows (b:=w.heap.size) rc8 rd8 aY;have rbf:=(hof (w.heap.size+1) zO zO).trans rb8;have yf:=hbf (B:=w.heap.size) zO x8;clear aY;have hk6:∀ k,w5.heap.size<=k->k<w6.heap.size->Wf.heap[k]?=w6.heap[k]?:=fun k h1 h2=>(hof k zO zO).trans (o8.out k h2 zO zO);have zWf:Wf.heap.size=W.heap.size:=zf;rcases hS7.out with ⟨h0,hz,hE⟩|⟨rfl,r,S2,vs',hO,hN⟩
      ·rw[hz] at rbf;exact Uk h0 (.inr ⟨vs,refs,nodes,hp.out,hc.out,he.out,.inr (.inr ⟨ra,S1,lJ.out,.inl hE⟩)⟩) rfl rfl rfl rbf rcf rdf yf
      ·have wu:jV w.heap.size S2 gen (r:Int) (next+1) dead (.agg (qF (.slice E1 m1 e1) (.slice E2 m2 e2) (.slice E3 m3 e3) (.slice E4 m4 e4) g9 t9 n9 (.slice E5 m5 e5))) Wf:=hN.keep x5.size zO hk6;obtain⟨F1,f1,F2,f2,F3,f3,F4,f4,F5,f5,ee,aH,hin⟩:=wu.sto;simp only[qF,Value.agg.injEq,Array.mk.injEq,List.cons.injEq,Value.slice.injEq,Value.int.injEq,true_and,and_true] at ee;obtain⟨⟨rfl,rfl,rfl⟩,⟨rfl,rfl,rfl⟩,⟨rfl,rfl,rfl⟩,⟨rfl,rfl,rfl⟩,rfl,rfl,rfl,rfl,rfl,rfl⟩:=ee;refine qfP _ _ _ _ _ _ _ _ _ _ _ _ _ _ _ _ _ 0 S2 rfl rfl rfl rbf rcf rdf (fun _=>aH) (fun _ hE W' hT=>?_) (fun e' W' h0 hE hT=>?_)
       ·exact⟨hT.below yf zO zO zO zO,.inr ⟨vs,refs,nodes,ra,S1,r,S2,vs',_,hp.out,hc.out,he.out,ug.out,dX.out,lJ.out,hO,hE,rfl,hN.keep x5.size (by have:=hT.size;omega) fun k h1 h2=>(hT.same k zO zO zO zO).trans (hk6 k h1 h2)⟩⟩
       ·refine⟨hT.below yf zO zO zO zO,.inl ⟨e',h0,rfl,.inr ⟨vs,refs,nodes,hp.out,hc.out,he.out,.inr (.inr ⟨ra,S1,lJ.out,.inr ⟨r,S2,vs',hO,?_⟩⟩)⟩⟩⟩;rcases hE with ⟨_,h⟩|⟨h,_⟩
        ·exact h.symm
        ·exact absurd rfl h
def okOf {α:Type} (q:Except Int (Nat×α)) (d:α):α:=match q with
 | .ok (_,x)=>x
 | .error _=>d
def st1:Sto:=okOf (Yt qS) qS
def vol1:Vol:=⟨1,9,false,0⟩
def st2:Sto:=okOf (setE st1 8 vol1) st1
theorem QK.not {S:Sto} {root next:Int} {dead:List Int} {vs:List Vol} {met refs:List Nat} (hb:QK S root next dead) (h:KP S root next dead=some (vs,met,refs)):False:=by obtain⟨h1,h2,h3⟩:=Vd h;obtain⟨refs',nodes',hc,hn⟩:=hb vs h1;obtain⟨_,e⟩:=jU.same hc.mkd h2.mkd;subst e;exact hn h3
theorem Zv.nil_ (w:World) (B:Nat):Zv w B (.slice none 0 0) []:=⟨none,0,rfl,zM _,by simp[maxLen],Rd.none_⟩
section
variable {S:Sto} {gen root next:Int} {dead:List Int}
def setC (S:Sto) (root next:Int) (dead:List Int) (v:Vol):Option (Nat×Sto×List Vol):=match KP S root next dead with
 |none=>none
 |some (vs,_,refs)=>if jn S next v vs (fun b=>refs.count b)=0 then match setE S root v with
   | .error _=>none
   | .ok (r,S')=>match KP S' (r:Int) next dead with
    |none=>none
    |some (vs',_,_)=>some (r,S',vs')
  else none
theorem qjN {v:Vol} {r:Nat} {S':Sto} {vs':List Vol} (h:setC S root next dead v=some (r,S',vs')):∃ vs met refs met' refs',KP S root next dead=some (vs,met,refs)/\jn S next v vs (fun b=>refs.count b)=0/\setE S root v=.ok (r,S')/\KP S' (r:Int) next dead=some (vs',met',refs'):=by
 unfold setC at h;split at h
 ·cases h
 ·rename_i vs met refs hp;split at h
  ·rename_i hf;split at h
   ·cases h
   ·rename_i r1 S1 he;split at h
    ·cases h
    ·rename_i vs1 met1 refs1 yL;cases h;exact⟨vs,met,refs,met1,refs1,hp,hf,he,yL⟩
  ·cases h
theorem qcl {v:Vol} {r:Nat} {S':Sto} {vs':List Vol} (h:setC S root next dead v=some (r,S',vs')) {er:Int} (aG:er≠0) (hE:Kk S root next dead v er):False:=by
 obtain⟨vs,met,refs,met',refs',hp,hf,he,fU⟩:=qjN h;obtain⟨h1,h2,h3⟩:=Vd hp;rcases hE with ⟨_,hb⟩|⟨vs1,refs1,nodes1,k1,k2,k3,hE⟩
 ·exact hb.not hp
 ·obtain⟨rfl,rfl,-⟩:=Qb.unique h1 h2 k1 k2;rcases hE with e|⟨_,e|⟨_,r2,S2,e,hb⟩⟩
  ·rw[hf] at e;exact aG e.symm
  ·rw[he] at e;cases e
  ·rw[he] at e;cases e;exact hb.not fU
theorem XT {v:Vol} {r r1:Nat} {S' S1:Sto} {vs' vs1:List Vol} (h:setC S root next dead v=some (r,S',vs')) (hO:vT S root next dead v r1 S1 vs1):r1=r/\S1=S'/\vs1=vs':=by obtain⟨vs,met,refs,met',refs',hp,hf,he,fU⟩:=qjN h;obtain⟨_,_,_,_,_,_,_,e,refs9,nodes9,k1,k2,_⟩:=hO;rw[he] at e;cases e;obtain⟨h1,h2,h3⟩:=Vd fU;obtain⟨rfl,_,_⟩:=Qb.unique h1 h2 k1 k2;exact⟨rfl,rfl,rfl⟩
def qaX (S:Sto) (root next:Int) (dead:List Int):Option (Nat×Sto):=match KP S root next dead with
 |none=>none
 |some (vs,_,_)=>if vs.length<16/\next<4294967295 then match Yt S with
   | .error _=>none
   | .ok (ra,S1)=>match setC S1 root (next+1) dead (newV next ra) with
    |none=>none
    |some (r,S2,_)=>if zh S2=0 then some (r,S2) else none
  else none
theorem qhG {r:Nat} {S2:Sto} (h:qaX S root next dead=some (r,S2)) {w w':World} {e:Ending} (hQ:CreQ S gen root next dead w e w'):Below w.heap.size w w'/\∃ u,e=.returned (.tuple #[u,.int .u32 next,.int .i64 0])/\jV w.heap.size S2 gen (r:Int) (next+1) dead u w':=by
 unfold qaX at h;split at h
 ·cases h
 ·rename_i vs met refs hp;split at h
  ·rename_i hl;split at h
   ·cases h
   ·rename_i ra S1 hn;split at h
    ·cases h
    ·rename_i r1 S3 vs3 hs;split at h
     ·rename_i hr;cases h;obtain⟨h1,h2,h3⟩:=Vd hp;refine⟨hQ.1,?_⟩;rcases hQ.2 with ⟨er,aG,_,hE⟩|⟨vs1,refs1,nodes1,ra1,T1,r9,T2,vs9,u,k1,k2,k3,k4,k5,k6,k7,k8,rfl,k9⟩
      ·exfalso;rcases hE with ⟨_,hb⟩|⟨vs1,refs1,nodes1,k1,k2,k3,hE⟩
       ·exact hb.not hp
       ·obtain⟨rfl,rfl,-⟩:=Qb.unique h1 h2 k1 k2;rcases hE with ⟨_,e|e⟩|e|⟨ra1,T1,e,hE⟩
        ·omega
        ·omega
        ·rw[hn] at e;cases e
        ·rw[hn] at e;cases e;rcases hE with hE|⟨r9,T2,vs9,hO,e⟩
         ·exact qcl hs aG hE
         ·obtain⟨rfl,rfl,rfl⟩:=XT hs hO;exact aG (e.symm.trans hr)
      ·rw[hn] at k6;cases k6;obtain⟨rfl,rfl,rfl⟩:=XT hs k7;exact⟨u,rfl,k9⟩
     ·cases h
  ·cases h
def qjG (S:Sto) (id:Int) (x:It) (vs:List Vol):Bool:=match Qs vs id with
 |none=>true
 |some v=>match GK (Qj S v.root) v.root.toNat x with
  | .error _=>true
  | .ok (r2,S2)=>okL S2 (-1) (r2:Int)
def qcc (S:Sto) (root next:Int) (dead:List Int) (id:Int) (x:It):Bool:=match KP S root next dead with
 |none=>false
 |some (vs,_,_)=>qjG S id x vs
theorem qgI {id:Int} {x:It} (h:qcc S root next dead id x=true):∀ vs v,Qb S root next dead vs->Qs vs id=some v->Qp S v.root=0->∀ r2 S2,GK (Qj S v.root) v.root.toNat x=.ok (r2,S2)->okL S2 (-1) (r2:Int)=true:=fun vs v hp hv _ r2 S2 hq=>by
 unfold qcc at h;split at h
 ·cases h
 ·rename_i vs1 met refs yL;obtain⟨h1,_,_⟩:=Vd yL;obtain rfl:=Qb.same h1 hp;unfold qjG at h;rw[hv] at h;simp only[hq] at h;exact h
def qhm (S:Sto) (root next:Int) (dead:List Int) (id:Int) (x:It):Option (Nat×Sto):=match KP S root next dead with
 |none=>none
 |some (vs,_,_)=>match Qs vs id with
  |none=>none
  |some v=>if v.fz=false/\itB x.r x.val.length=true/\x.r=0/\Qp S v.root=0 then match GK (Qj S v.root) v.root.toNat x with
    | .error _=>none
    | .ok (r2,S2)=>match setC S2 root next dead (qaB v r2) with
     |none=>none
     |some (r3,S3,_)=>match Zn S3 v.root with
      | .error _=>none
      | .ok S4=>if zh S4=0 then some (r3,S4) else none
   else none
theorem vputC_ok {id:Int} {x:It} {r:Nat} {S4:Sto} (h:qhm S root next dead id x=some (r,S4)) {w w':World} {e:Ending} (hQ:qfm S gen root next dead id x w e w'):Below w.heap.size w w'/\∃ u,e=.returned (.tuple #[u,.int .i64 0])/\jV w.heap.size S4 gen (r:Int) next dead u w':=by
 unfold qhm at h;split at h
 ·cases h
 ·rename_i vs met refs hp;split at h
  ·cases h
  ·rename_i v hv;split at h
   ·rename_i hc;obtain⟨c1,c2,c3,c4⟩:=hc;split at h
    ·cases h
    ·rename_i r2 S2 hq;split at h
     ·cases h
     ·rename_i r3 S3 vs3 hs;split at h
      ·cases h
      ·rename_i S5 hl;split at h
       ·rename_i hr;cases h;obtain⟨h1,h2,h3⟩:=Vd hp;refine⟨hQ.1,?_⟩;rcases hQ.2 with ⟨er,aG,_,hE⟩|⟨r9,T4,u,⟨vs1,refs1,nodes1,v1,k1,k2,k3,k4,k5,k6,k7,q2,T2,T3,vs9,k8,k9,k10,k11,k12⟩,rfl,k13⟩
        ·exfalso;rcases hE with ⟨_,hb⟩|⟨vs1,refs1,nodes1,k1,k2,k3,hE⟩
         ·exact hb.not hp
         ·obtain⟨rfl,rfl,-⟩:=Qb.unique h1 h2 k1 k2;rcases hE with ⟨_,e⟩|⟨v1,e,hE⟩
          ·rw[hv] at e;cases e
          ·rw[hv] at e;cases e;rcases hE with ⟨_,e⟩|⟨_,hE⟩
           ·rw[c1] at e;cases e
           ·rcases hE with ⟨_,e⟩|⟨_,hE⟩
            ·rw[c2] at e;cases e
            ·rcases hE with ⟨_,e,_⟩|⟨_,hE⟩
             ·exact e c3
             ·rcases hE with e|⟨_,e|⟨q2,T2,e,hE⟩⟩
              ·exact aG (e.symm.trans c4)
              ·rw[hq] at e;cases e
              ·rw[hq] at e;cases e;rcases hE with hE|⟨r9,T3,vs9,hO,hE⟩
               ·exact qcl hs aG hE
               ·obtain⟨rfl,rfl,rfl⟩:=XT hs hO;rcases hE with e|⟨T4,e,e2⟩
                ·rw[hl] at e;cases e
                ·rw[hl] at e;cases e;exact aG (e2.symm.trans hr)
        ·obtain⟨rfl,rfl,-⟩:=Qb.unique h1 h2 k1 k2;rw[hv] at k4;cases k4;rw[hq] at k9;cases k9;obtain⟨rfl,rfl,rfl⟩:=XT hs k10;rw[hl] at k11;cases k11;exact⟨u,rfl,k13⟩
       ·cases h
   ·cases h
def snapC (S:Sto) (root next:Int) (dead:List Int) (id:Int) (fz:Bool):Option (Nat×Sto):=match KP S root next dead with
 |none=>none
 |some (vs,_,_)=>match Qs vs id with
  |none=>none
  |some v=>if vs.length<16/\next<4294967295/\Qp S v.root=0 then match setC (Qj S v.root) root (next+1) dead (qhb next v fz id) with
    |none=>none
    |some (r,S',_)=>if zh S'=0 then some (r,S') else none
   else none
theorem snapC_ok {id:Int} {fz:Bool} {r:Nat} {S':Sto} (h:snapC S root next dead id fz=some (r,S')) {w w':World} {e:Ending} (hQ:SnapQ S gen root next dead id fz w e w'):Below w.heap.size w w'/\∃ u,e=.returned (.tuple #[u,.int .u32 next,.int .i64 0])/\jV w.heap.size S' gen (r:Int) (next+1) dead u w':=by
 unfold snapC at h;split at h
 ·cases h
 ·rename_i vs met refs hp;split at h
  ·cases h
  ·rename_i v hv;split at h
   ·rename_i hc;obtain⟨c1,c2,c3⟩:=hc;split at h
    ·cases h
    ·rename_i r1 S1 vs1 hs;split at h
     ·rename_i hr;cases h;obtain⟨h1,h2,h3⟩:=Vd hp;refine⟨hQ.1,?_⟩;rcases hQ.2 with ⟨er,aG,_,hE⟩|⟨r9,T,u,⟨vs1,refs1,nodes1,v1,vs9,k1,k2,k3,k4,k5,k6,k7,k8,k9⟩,rfl,k10⟩
      ·exfalso;rcases hE with ⟨_,hb⟩|⟨vs1,refs1,nodes1,k1,k2,k3,hE⟩
       ·exact hb.not hp
       ·obtain⟨rfl,rfl,-⟩:=Qb.unique h1 h2 k1 k2;rcases hE with ⟨_,e⟩|⟨v1,e,hE⟩
        ·rw[hv] at e;cases e
        ·rw[hv] at e;cases e;rcases hE with ⟨_,e|e⟩|e|⟨_,hE|⟨r9,T,vs9,hO,_,e⟩⟩
         ·omega
         ·omega
         ·exact aG (e.symm.trans c3)
         ·exact qcl hs aG hE
         ·obtain⟨rfl,rfl,rfl⟩:=XT hs hO;exact e hr
      ·obtain⟨rfl,rfl,-⟩:=Qb.unique h1 h2 k1 k2;rw[hv] at k4;cases k4;obtain⟨rfl,rfl,rfl⟩:=XT hs k8;exact⟨u,rfl,k10⟩
     ·cases h
   ·cases h
def frzC (S:Sto) (root next:Int) (dead:List Int) (id:Int) (fz:Bool):Option (Nat×Sto):=match KP S root next dead with
 |none=>none
 |some (vs,_,_)=>match Qs vs id with
  |none=>none
  |some v=>if Qp S v.root=0 then match setC (Qj S v.root) root next dead (Vw v fz) with
    |none=>none
    |some (r,S',_)=>match Zn S' v.root with
     | .error _=>none
     | .ok S4=>if zh S4=0 then some (r,S4) else none
   else none
end
def cS (o:Option (Nat×Sto)):Sto:=match o with
 |some (_,S)=>S
 |none=>qS
def cIs (o:Option (Nat×Sto)) (r:Nat):Bool:=match o with
 |some (n,_)=>decide (n=r)
 |none=>false
theorem qbr {o:Option (Nat×Sto)} {r:Nat} (h:cIs o r=true):o=some (r,cS o):=by
 rcases o with _|⟨n,S⟩
 ·cases h
 ·simp only[cIs,decide_eq_true_eq] at h;subst h;rfl
def x7:It:=⟨2,0,0,0,[7]⟩
def xz:It:=⟨0,0,0,0,[]⟩
def t1:Sto:=cS (qaX qS 8 1 [])
theorem t1_cre:qaX qS 8 1 []=some (10,t1):=qbr (by decide +kernel)
def t2:Sto:=cS (qhm t1 10 2 [] 1 x7)
theorem t2_put:qhm t1 10 2 [] 1 x7=some (11,t2):=qbr (by decide +kernel)
theorem t2_tree:qcc t1 10 2 [] 1 x7=true:=by decide +kernel
def t3:Sto:=cS (snapC t2 11 2 [] 1 true)
theorem t3_snap:snapC t2 11 2 [] 1 true=some (9,t3):=qbr (by decide +kernel)
def va:Vol:=⟨1,8,false,0⟩
def vb:Vol:=⟨2,8,true,1⟩
theorem qjT:KP t3 9 3 []=some ([va,vb],[8,9],[9,8,8]):=by decide +kernel
theorem t3_find:qdm t3 8 (2,0,0)=some x7:=by decide +kernel
def t4:Sto:=cS (frzC t3 9 3 [] 2 false)
def t5:Sto:=cS (qhm t4 10 3 [] 2 xz)
theorem t3_item {w w':World} {e:Ending} (h:VFindQ t3 9 3 [] 2 (2,0,0) w e w'):∃ u,e=.returned u/\qfh w.heap.size (some x7) u w':=by
 obtain⟨h1,h2,h3⟩:=Vd qjT;have hv:Qs [va,vb] 2=some vb:=rfl;rcases h.2 with ⟨_,hb⟩|⟨vs,u,⟨refs,nodes,hp,hc,_⟩,rfl,hm⟩
 ·exact(QK.not hb qjT).elim
 ·obtain⟨rfl,-,-⟩:=Qb.unique h1 h2 hp hc;rw[hv] at hm;simp only at hm;have e8:vb.root=8:=rfl;rw[e8,t3_find] at hm;exact⟨u,rfl,hm⟩
theorem qiW {R:Ending->World->Prop} {a:Act} {W:World} {b:Nat} {x0 x1 x2 x3 x4 x5 x6 x7 v:Value} (h4:a.tmps[0]?.getD undef=.pointer (some ⟨b,0,none⟩)) (h5:a.tmps[1]?.getD undef=v) (hd:a.defers=[]) (aF:W.heap[b]?=some (.cells #[x0,x1,x2,x3,x4,x5,x6,x7] 32 (0,0))) (hR:R (.returned (.tuple #[.agg #[x0,x1,x2,x3,x4,x5,x6,x7],v])) W):bodyPost prog Tryz.f76 R .ret a W:=by
 refine bodyPost_ret (v:=.tuple #[.agg #[x0,x1,x2,x3,x4,x5,x6,x7],v]) ?_ hd hR;have k:=qa aF;simp[results,results76,go_sem,h4,h5,k]
set_option maxRecDepth 100000 in
theorem qiV (w:World):Calls prog 76 #[] w (Zg (fun u W=>∃ v,u=.tuple #[v,.bool true]/\jV w.heap.size t2 0 11 2 [] v W) w):=by
 go_enter func76,ntmps76;go_wp2_with fail;generalize aA:World.alloc _ _=w1;have x1:Ext w w1:=aA▸zN _ _
 have q1:w1.heap[w.heap.size]?=some (.cells (qF (.slice none 0 0) (.slice none 0 0) (.slice none 0 0) (.slice none 0 0) 0 0 0 (.slice none 0 0)) 32 (0,0)):=aA▸zI _ _ _ zA2
 clear aA;refine(fnew_any w1).mono ?_;rintro e w2 ⟨u,rfl,hp,hB⟩;have x12:Ext w1 w2:=hB;have x2:Ext w w2:=x1.trans x12;have q2:=qb q1 x12;obtain⟨A1,c1,A2,c2,A3,c3,A4,c4,rfl,hS⟩:=hp.sto;obtain⟨l1,l2,l3,l4⟩:=Xc;have HC:=zH (fun W (hx:Ext w2 W)=>qhg A1 256 c1 A2 1 c2 A3 256 c3 A4 256 c4 0 8 1 none 0 qS [] zD zD W (hS.ext hx) (Zv.nil_ _ _));clear hS hp l1 l2 l3 l4 hB x1 q1 x12;go_wp2_with fail;refine(HC.out w2 (Ext.refl _)).mono ?_;clear HC;intro e w3 hq;obtain⟨hB,u,rfl,hN⟩:=qhG t1_cre hq;have x23:Ext w2 w3:=hB;have x3:Ext w w3:=x2.trans x23;have q3:=qb q2 x23;obtain⟨A1',c1',A2',c2',A3',c3',A4',c4',A5,c5,rfl,hS,hI⟩:=hN.sto;clear hN hq hB q2 x2 x23;go_wp2_with fail;generalize hw4:World.alloc w3 _=w4;have x34:Ext w3 w4:=hw4▸zN _ _
 have p4:w4.heap[w3.heap.size]?=some (.cells (qF (.slice A1' t1.bs.length c1') (.slice A2' t1.ws.length c2') (.slice A3' t1.now.length c3') (.slice A4' t1.last.length c4') 0 10 2 (.slice A5 0 c5)) 32 (0,0)):=hw4▸zI _ _ _ zA2
 have q4:=qb q3 x34;have k4:=qa p4;have z4:w4.heap.size=w3.heap.size+1:=by rw[<-hw4];simp
 clear hw4 q3;go_wp2_with fail;generalize aT:World.alloc w4 _=w5;have x45:Ext w4 w5:=aT▸zN _ _
 have x35:Ext w3 w5:=x34.trans x45;have aS:Bys w5 w5.heap.size (.slice (some ⟨w3.heap.size+1,0,none⟩) 1 1) x7.val:=by rw[<-aT,<-z4];exact Bys.new w4 5 [7]
 clear aT x34 z4 k4;have HP:=vput_any A1' _ c1' A2' _ c2' A3' _ c3' A4' _ c4' 0 10 2 A5 c5 t1 [] 1 x7 (by refine⟨⟨?_,?_⟩,⟨?_,?_⟩,⟨?_,?_⟩,⟨?_,?_⟩,?_⟩ <;> decide) (some ⟨w3.heap.size+1,0,none⟩) 1 (qgI t2_tree) w5 (hS.ext x35) (hI.ext_ x35) aS;refine HP.mono ?_;clear HP;intro e w6 hq;obtain⟨hB,u,rfl,hN⟩:=vputC_ok t2_put hq;have q5:=qb q4 x45;have q6:=qb q5 hB;have x5:Ext w w5:=x3.trans x35;have x6:Ext w w6:=x5.trans hB;obtain⟨E1,m1,E2,m2,E3,m3,E4,m4,E5,m5,rfl,-⟩:=id hN;have kq:=qa q6;have fq:=qe q6;have zq:=(zG.1 q6).1;have z05:=x5.size;have z15:=(zG.1 q5).1;replace hN:=zH hN;clear hq hB q5 q4 p4 hS hI aS x3 x35 x45;go_wp2_with fail;refine qiW (b:=w.heap.size) rfl rfl rfl (qb (ji q6 _ _ _ _ _ _ _ _) (zN _ _)) ⟨_,rfl,⟨_,rfl,jV.keep hN.out z05 zA2 fun k h1 h2=>?_⟩,Below.alloc (QR x6 (zM _) _ _ _ _ _ _ _ _) (by have:=x6.size;simpa using this) _⟩;exact(zK _ _ _ (by simpa using h2)).trans (jK zO _ _ _ _ _ _ _ _)
theorem qfr {R:Ending->World->Prop} {a:Act} {W:World} {v:Value} (h0:a.tmps[0]?.getD undef=v) (hd:a.defers=[]) (hR:R (.returned v) W):bodyPost prog Tryz.f25 R .ret a W:=by refine bodyPost_ret (v:=v) ?_ hd hR;simp[results,results25,go_sem,h0]
set_option maxRecDepth 100000 in
theorem qfq (w:World):Calls prog 25 #[] w (Ret (.bool true) w):=by
 go_enter func25,ntmps25;go_wp2_with fail;refine(qiV w).mono ?_;rintro e w1 ⟨u,rfl,⟨v,rfl,hN⟩,hB⟩;have x1:Ext w w1:=hB;obtain⟨A1,c1,A2,c2,A3,c3,A4,c4,A5,c5,rfl,hS,hI⟩:=hN.sto;have HS:=zH (fun W (hx:Ext w1 W)=>qlb A1 _ c1 A2 _ c2 A3 _ c3 A4 _ c4 0 11 2 A5 c5 t2 [] 1 true zD zD W (hS.ext hx) (hI.ext_ hx));clear hS hI hN hB;go_wp2_with fail;generalize bP:World.alloc w1 _=w2;have x12:Ext w1 w2:=bP▸zN _ _
 clear bP;refine(HS.out w2 x12).mono ?_;clear HS;intro e w3 hq;obtain⟨hB,u,rfl,hN⟩:=snapC_ok t3_snap hq;have x3:Ext w w3:=(x1.trans x12).trans hB;obtain⟨B1,d1,B2,d2,B3,d3,B4,d4,B5,d5,rfl,hS,hI⟩:=hN.sto;have HF:=zH (fun W (hx:Ext w3 W)=>qlg B1 _ d1 B2 _ d2 B3 _ d3 B4 _ d4 0 9 3 B5 d5 t3 [] 2 2 0 0 W (hS.ext hx) (hI.ext_ hx));clear hS hI hN hB hq x1 x12;go_wp2_with fail;generalize hw4:World.alloc w3 _=w4;have x34:Ext w3 w4:=hw4▸zN _ _
 clear hw4;refine(HF.out w4 x34).mono ?_;clear HF;intro e w5 hq;have x5:Ext w w5:=(x3.trans x34).trans hq.1;obtain⟨u,rfl,A,c,rfl,aS,-⟩:=t3_item hq;clear hq x3 x34;have rV:bstr x7.val=⟨#[7]⟩:=rfl;have hv:∀ o,(convert 26 9 (.slice A 1 c)).run prog (w5.alloc o)=.ok (.string ⟨#[7]⟩) (w5.alloc o):=fun o=>by have h0:=Vp (P:=prog) (aS.below (zN w5 o)) 26 9 5 underlying26 underlying5 underlying9;rw[rV] at h0;exact h0
 have hi:VU x7 A c=#[.int .u8 2,.int .u32 0,.int .u32 0,.int .i64 0,.slice A 1 c]:=rfl;rw[hi];clear aS hi rV;go_wp2_with fail;exact qfr rfl rfl ⟨rfl,x5.trans (zN _ _)⟩
def Vf (ls:List (List UInt8)):Nat:=(ls.map fun l=>min l.length 1000000).sum
theorem qcq {ls:List (List UInt8)} {k:Nat} (h:k<ls.length):Vf (ls.take (k+1))=Vf (ls.take k)+min ls[k].length 1000000:=by unfold Vf;rw[List.take_succ_eq_append_getElem h,List.map_append,List.sum_append];simp
theorem sizeL_le (ls:List (List UInt8)):Vf ls<=ls.length*1000000:=by
 induction ls with
 |nil=>simp[Vf]
 |cons l r ih=>simp only[Vf,List.map_cons,List.sum_cons,List.length_cons] at ih ⊢;omega
theorem To {ls:List (List UInt8)} {n:Nat} (h:ls.length<=n) (k:Nat):Vf (ls.take k)<=n*1000000:=by
 have h1:=sizeL_le (ls.take k);have h2:(ls.take k).length<=n:=by rw[List.length_take];omega
 have h3:(ls.take k).length*1000000<=n*1000000:=Nat.mul_le_mul_right _ h2;exact Nat.le_trans h1 h3
def qge (n m:Nat):Bool:=decide (300<n\/5000<m\/(600<m/\m<4096))
def Xg (bs:List (List UInt8)) (ws:List (Int×List UInt8)):Bool:=qge bs.length ws.length || decide (800000<Vf bs+Vf (ws.map (·.2)))
set_option maxRecDepth 100000 in
theorem qhR (A1 n1 c1 A2 n2 c2) (bs:List (List UInt8)) (ws:List (Int×List UInt8)) (w:World) (hb:Bls w w.heap.size (.slice A1 n1 c1) bs) (hw:Wrs w w.heap.size (.slice A2 n2 c2) ws):Calls prog 107 #[Xb A1 n1 c1 A2 n2 c2] w (Ret (.bool (Xg bs ws)) w):=by
 obtain⟨e1,dE,hm1,hA1⟩:=hb.at_;obtain⟨e2,bG,iw,wW⟩:=hw.at_;subst e1;subst e2;by_cases hh:qge bs.length ws.length=true
 case pos =>
  have hM:Xg bs ws=true:=by unfold Xg;rw[hh];rfl
  rw[hM];have yI:300<bs.length\/5000<ws.length\/(600<ws.length/\ws.length<4096):=by simpa [qge] using hh
  clear hM hb hw hA1 wW hh;generalize bs.length=n1 at *;generalize ws.length=n2 at *;go_enter func107,ntmps107;go_wp2;all_goals try simp only[beq_iff_eq,beq_eq_false_iff_ne,ne_eq,bne_iff_ne,bne_eq_false_iff_eq] at *
  all_goals first|(exfalso;omega)|skip
  all_goals go_ret
  all_goals exact⟨rfl,zA4⟩
 case neg =>
  have hM:Xg bs ws=decide (800000<Vf bs+Vf (ws.map (·.2))):=by unfold Xg;rw[show qge bs.length ws.length=false by simpa using hh];rfl
  have yI:¬(300<bs.length\/5000<ws.length\/(600<ws.length/\ws.length<4096)):=by simpa [qge] using hh
  have lW:bs.length<=300:=zO;have hn2:ws.length<=5000:=zO;have hn3:¬(600<ws.length/\ws.length<4096):=fun h=>yI (.inr (.inr h));rw[hM];clear hM hh yI;have HB:=zH hb;have HW:=zH hw;have HTB:=zH (fun k h=>@qcq bs k h);have HTW:=zH (fun k (h:k<(ws.map (·.2)).length)=>@qcq (ws.map (·.2)) k h);have HLB:=zH (fun k=>To lW k);have HLW:=zH (fun k=>To (ls:=ws.map (·.2)) (n:=5000) (by rw[List.length_map];exact hn2) k);have HE1:Hid (bs.take bs.length=bs):=zH (List.take_length);have HE2:Hid ((ws.map (·.2)).take ws.length=ws.map (·.2)):=zH (by rw[<-List.length_map (f:=(·.2))];exact List.take_length);clear hb hw;have hd1:decide ((bs.length:Int)>300)=false:=decide_eq_false zO;have hd2:decide ((ws.length:Int)>5000)=false:=decide_eq_false zO;go_enter func107,ntmps107;go_wp2;all_goals first|(exfalso;omega)|skip
  all_goals
   generalize aA:(World.alloc _ _)=w1;have x1:Ext w w1:=aA▸zN _ _
   have r1:w1.heap[w.heap.size]?=some (.cells #[.slice A1 bs.length c1,.slice A2 ws.length c2] 25 (0,0)):=aA▸zI _ _ _ rfl
   clear aA;go_loopw [3,4] (fun t i wr=>∃ k:Nat,k<=bs.length/\i=.int .i64 (k:Int)/\t=.int .i64 (Vf (bs.take k):Int)/\Ext w1 wr) (fun _ i _=>bs.length-(intOf i).toNat)
   case atStart=>exact⟨0,zO,rfl,rfl,Ext.refl _⟩
   case round =>
    obtain⟨k,hk,rfl,rfl,hE⟩:=hrel;have yV:=x1.trans hE;have rr:=qb r1 hE;have kr:=qa rr;have lV:=HLB.out k;by_cases hlt:k<bs.length
    ·have aI:=hlt;obtain⟨b1,o1,rfl,bQ⟩:=hA1 zO;obtain⟨A',c',hc,aS⟩:=((HB.out.below yV).more yV.size).get k hlt;have hm64:=aS.at_.2.1;have hID:=aS.at_.2.2.1;have ht:=HTB.out k hlt;replace ht:=zH ht;clear aS;unfold maxLen at hID;generalize bs[k].length=m at *;generalize Vf (bs.take k)=q at *;go_wp2;go_roundw
     case rel=>exact⟨k+1,zO,by go_num,by rw[ht.out];go_num,hE⟩
     case measure=>simp[intOf];omega
    ·obtain rfl:k=bs.length:=zO;rw[HE1.out] at lV ⊢;clear HB HTB HLB r1 hd1 hd2;go_wp2;clear kr;go_loopw [3,5] (fun t i wq=>∃ j:Nat,j<=ws.length/\i=.int .i64 (j:Int)/\t=.int .i64 ((Vf bs+Vf ((ws.map (·.2)).take j):Nat):Int)/\Ext wr wq) (fun _ i _=>ws.length-(intOf i).toNat)
     case atStart=>exact⟨0,zO,rfl,rfl,Ext.refl _⟩
     case round =>
      obtain⟨j,hj,rfl,rfl,fZ⟩:=hrel;have hEq:=yV.trans fZ;have kr:=qa (qb rr fZ);have rG:=HLW.out j;by_cases hlt2:j<ws.length
      ·have hNL:=hlt2;obtain⟨b2,o2,rfl,bU⟩:=wW zO;obtain⟨A',c',hca,uA,aS⟩:=((HW.out.below hEq).more hEq.size).get j hlt2;have hm64:=aS.at_.2.1;have hID:=aS.at_.2.2.1;have ht:=HTW.out j (by rw[List.length_map];exact hlt2);rw[List.getElem_map] at ht;replace ht:=zH ht;clear aS;unfold maxLen at hID;generalize ws[j].2.length=m at *;generalize ws[j].1=a at *;generalize Vf ((ws.map (·.2)).take j)=q at *;generalize Vf bs=s0 at *;go_wp2;go_roundw
       case rel=>exact⟨j+1,zO,by go_num,by rw[ht.out];go_num,fZ⟩
       case measure=>simp[intOf];omega
      ·obtain rfl:j=ws.length:=zO;rw[HE2.out] at rG ⊢;go_wp2;go_ret;refine⟨Ve ?_,hEq⟩;rw[Bool.eq_iff_iff];simp;omega
def Gv (S:Sto):Bool:=Xg S.bs S.ws || (decide (10000<S.now.length) || decide (10000<S.last.length))
abbrev poolV (A1:OA) (n1 c1:Nat) (A2:OA) (n2 c2:Nat) (A3:OA) (n3 c3:Nat) (A4:OA) (n4 c4:Nat) (g r x:Int) (A5:OA) (n5 c5:Nat):Value:=
 .agg #[.slice A1 n1 c1,.slice A2 n2 c2,.slice A3 n3 c3,.slice A4 n4 c4,.int .u32 g,.int .i64 r,.int .u32 x,.slice A5 n5 c5]
set_option maxRecDepth 100000 in
theorem qhS (A1 n1 c1 A2 n2 c2 A3 n3 c3 A4 n4 c4) (S:Sto) (w:World) (h:qV w w.heap.size (.slice A1 n1 c1) (.slice A2 n2 c2) (.slice A3 n3 c3) (.slice A4 n4 c4) S):Calls prog 58 #[Qe A1 n1 c1 A2 n2 c2 A3 n3 c3 A4 n4 c4] w (Ret (.bool (Gv S)) w):=by
 have HD:=zH (fun W (hW:Ext w W)=>qhR A1 n1 c1 A2 n2 c2 S.bs S.ws W (h.ext hW).bs (h.ext hW).ws);have e3:S.now.length=n3:=h.now.at_.1.symm;have e4:S.last.length=n4:=h.last.at_.1.symm;have hS:Gv S=(Xg S.bs S.ws || (decide (10000<n3) || decide (10000<n4))):=by unfold Gv;rw[e3,e4]
 rw[hS];clear hS h e3 e4;generalize Xg S.bs S.ws=d at *;go_enter func58,ntmps58;go_wp2_with fail;generalize aA:(World.alloc _ _)=w1;have x1:Ext w w1:=aA▸zN _ _
 have r1:w1.heap[w.heap.size]?=some (.cells #[.slice A1 n1 c1,.slice A2 n2 c2,.slice A3 n3 c3,.slice A4 n4 c4] 28 (0,0)):=aA▸zI _ _ _ rfl
 clear aA;refine(HD.out _ x1).mono ?_;rintro e w2 ⟨rfl,hB⟩;have x2:=x1.trans hB;have r2:=qb r1 hB;have k2:=qa r2;clear hB r1 x1 HD;cases d;all_goals
  go_wp2;all_goals
   go_ret;refine⟨Ve ?_,x2⟩;rw[Bool.eq_iff_iff];simp;try omega
def qhT (S:Sto) (dead:Nat):Bool:=Gv S || decide (1000<dead)
set_option maxRecDepth 100000 in
theorem qfZ (A1 n1 c1 A2 n2 c2 A3 n3 c3 A4 n4 c4) (g r x:Int) (A5:OA) (n5 c5:Nat) (S:Sto) (w:World) (h:qV w w.heap.size (.slice A1 n1 c1) (.slice A2 n2 c2) (.slice A3 n3 c3) (.slice A4 n4 c4) S):Calls prog 16 #[poolV A1 n1 c1 A2 n2 c2 A3 n3 c3 A4 n4 c4 g r x A5 n5 c5] w (Ret (.bool (qhT S n5)) w):=by
 have HD:=zH (fun W (hW:Ext w W)=>qhS A1 n1 c1 A2 n2 c2 A3 n3 c3 A4 n4 c4 S W (h.ext hW));have hS:qhT S n5=(Gv S || decide (1000<n5)):=rfl;rw[hS];clear hS h;generalize Gv S=d at *;go_enter func16,ntmps16;go_wp2_with fail;generalize aA:(World.alloc _ _)=w1;have x1:Ext w w1:=aA▸zN _ _
 have r1:w1.heap[w.heap.size]?=some (.cells #[.slice A1 n1 c1,.slice A2 n2 c2,.slice A3 n3 c3,.slice A4 n4 c4,.int .u32 g,.int .i64 r,.int .u32 x,.slice A5 n5 c5] 32 (0,0)):=aA▸zI _ _ _ rfl
 clear aA;refine(HD.out _ x1).mono ?_;rintro e w2 ⟨rfl,hB⟩;have x2:=x1.trans hB;have r2:=qb r1 hB;have k2:=qa r2;clear hB r1 x1 HD;cases d;all_goals
  go_wp2;all_goals
   go_ret;refine⟨Ve ?_,x2⟩;rw[Bool.eq_iff_iff];simp;try omega

theorem VolFQ.known {S:Sto} {root next:Int} {dead:List Int} {id:Int} {w w':World} {e:Ending} {vs:List Vol} (h:VolFQ S root next dead id w e w') (hk:Jr S root next dead vs):e=.returned (volQ (Qs vs id)):=by
 obtain⟨refs,nodes,h1,h2,h3⟩:=hk;rcases h.2 with ⟨_,hb⟩|⟨vs',refs',nodes',hp,hc,_,rfl⟩
 ·exact(QK.no hb h1 h2 h3).elim
 ·obtain⟨rfl,-,-⟩:=Qb.unique h1 h2 hp hc;rfl
theorem AllQ.known {S:Sto} {root next:Int} {dead:List Int} {id:Int} {w w':World} {e:Ending} {vs:List Vol} {v:Vol} (h:AllQ S root next dead id w e w') (hk:Jr S root next dead vs) (hv:Qs vs id=some v):∃ A c,e=.returned (.slice A (Ty S v.root).length c)/\Its w' w'.heap.size (.slice A (Ty S v.root).length c) (Ty S v.root):=by
 obtain⟨refs,nodes,h1,h2,h3⟩:=hk;rcases h.2 with ⟨_,hb⟩|⟨vs',⟨refs',nodes',hp,hc,_⟩,hm⟩
 ·exact(QK.no hb h1 h2 h3).elim
 ·obtain⟨rfl,-,-⟩:=Qb.unique h1 h2 hp hc;rcases hm with ⟨e1,_⟩|⟨v',A,c,e1,e2,e3⟩
  ·rw[hv] at e1;cases e1
  ·rw[hv] at e1;cases e1;exact⟨A,c,e2,e3⟩
def Vs (zs:List It):Qd:=⟨OA×Nat,fun p=>.slice p.1 zs.length p.2,fun p W=>Its W W.heap.size (.slice p.1 zs.length p.2) zs⟩
theorem jQ (zs:List It) (A c):(Vs zs).f (A,c)=.slice A zs.length c:=rfl
theorem VA (zs:List It):∀ p,qL qj ((Vs zs).φ p):=fun p W W' he h=>Its.ext h he
end Go.Proofs.YtmeadnlmepcmbaaGreat
