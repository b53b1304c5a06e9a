/- Texts Cre1, FreeN, Create, Alive14W, Alive14, OutC, Alive18W, Alive18, joined. -/
import Derived.Test.YtpbniokljofedaaGreatZG33
set_option linter.unusedSimpArgs false
set_option linter.unusedVariables false
set_option maxHeartbeats 8000000
open Go.Proofs.Tryz
namespace Go.Proofs.YtpbniokljofedaaGreat
open Go.RowKit
def CreEnd (bp be ba:Nat) (cs:Array Value) (a e:Int) (S:Sto) (W W':World):Prop:=Yr bp be ba W W' /\
 ((e=0/\zt S=0/\W'.heap[bp]?=some (.cells cs 32 (0,0))/\W'.heap[be]?=some (.cells #[.int .i64 0] 36 (0,0))/\W'.heap[ba]?=some (.cells #[.int .u32 a] 29 (0,0))) \/
  ∃ e',e'≠0/\((e=0/\e'=zt S)\/(e≠0/\e'=e))/\W'.heap[bp]?=some (.cells Kl 32 (0,0))/\W'.heap[be]?=some (.cells #[.int .i64 e'] 36 (0,0))/\W'.heap[ba]?=some (.cells #[.int .u32 0] 29 (0,0)))
set_option maxRecDepth 100000 in
theorem cre1_any (bp be ba:Nat) (h12:bp≠be) (h13:bp≠ba) (h23:be≠ba) (A1:Option Addr) (n1 c1:Nat) (A2:Option Addr) (n2 c2:Nat) (A3:Option Addr) (n3 c3:Nat) (A4:Option Addr) (n4 c4:Nat) (gen root next:Int) (v5:Value) (a e:Int) (S:Sto) (u:FrameMode) (w:World) (hp:w.heap[bp]?=some (.cells (qF (.slice A1 n1 c1) (.slice A2 n2 c2) (.slice A3 n3 c3) (.slice A4 n4 c4) gen root next v5) 32 (0,0))) (he:w.heap[be]?=some (.cells #[.int .i64 e] 36 (0,0))) (ha:w.heap[ba]?=some (.cells #[.int .u32 a] 29 (0,0))) (h:e=0->qU w w.heap.size (.slice A1 n1 c1) (.slice A2 n2 c2) (.slice A3 n3 c3) (.slice A4 n4 c4) S):CallsD prog 126 #[.pointer (some ⟨bp,0,none⟩),.pointer (some ⟨be,0,none⟩),.pointer (some ⟨ba,0,none⟩)] u w (fun x u' w'=>u'=u/\x=.returned (.tuple #[])/\CreEnd bp be ba (qF (.slice A1 n1 c1) (.slice A2 n2 c2) (.slice A3 n3 c3) (.slice A4 n4 c4) gen root next v5) a e S w w'):=by
 have HR:=qkt bp be h12 A1 n1 c1 A2 n2 c2 A3 n3 c3 A4 n4 c4 gen root next v5 e S w hp he h
 clear h hp he;go_enter_d func126,ntmps126;go_wp2_with fail;refine HR.mono ?_;rintro x w2 ⟨rfl,hT,⟨h0,hE,dS,fJ⟩|⟨e',h0,hE,dS,fJ⟩⟩
 ·have aj:=(hT.same ba (zG.1 ha).1 (Ne.symm h13) (Ne.symm h23)).trans ha;have ke2:=qa fJ;have hz:=zH h0;clear h0;go_wp2_with fail;go_end0;exact⟨rfl,Yr.of_two hT,.inl ⟨hz.out,hE,dS,fJ,aj⟩⟩
 ·have aj:=(hT.same ba (zG.1 ha).1 (Ne.symm h13) (Ne.symm h23)).trans ha;have ke2:=qa fJ;have ka2:=qa aj;have fa2:=qe aj;have b1:(e' != 0)=true:=by rw[bne_iff_ne];exact h0
  replace h0:=zH h0;replace hE:=zH hE;go_wp2_with fail;go_end0;exact⟨rfl,(Yr.of_two hT).set _,.inr ⟨e',h0.out,hE.out,(zJ _ _ _ _ h13).trans dS,(zJ _ _ _ _ h23).trans fJ,qi aj 0 _⟩⟩
structure Km (n:Nat) (A:Array Bool) (m:Nat):Prop where
 size:A.size=n
 at_:∀ j,j<n->A[j]?=some (m.testBit j)
 out:∀ j,n<=j->m.testBit j=false
theorem Km.none_ (n:Nat):Km n (Array.replicate n false) 0:=
 ⟨zA2,fun j hj=>by rw[Array.getElem?_replicate,if_pos hj,Nat.zero_testBit],fun j _=>Nat.zero_testBit j⟩
theorem Km.getT {n m:Nat} {A:Array Bool} (h:Km n A m) {j:Nat} (hj:j<n) (d:Bool):A.getD j d=m.testBit j:=by rw[Array.getD_eq_getD_getElem?,h.at_ j hj];rfl
theorem Km.set {n m:Nat} {A:Array Bool} (h:Km n A m) {k:Nat} (hk:k<n):Km n (A.setIfInBounds k true) (m ||| 2 ^ k):=by
 refine⟨by simpa using h.size,fun j hj=>?_,fun j hj=>?_⟩
 ·rw[Nat.testBit_or,Nat.testBit_two_pow];by_cases e:k=j
  ·subst e;rw[Array.getElem?_setIfInBounds_self_of_lt (by rw[h.size];exact hk)];simp
  ·rw[Array.getElem?_setIfInBounds_ne e,h.at_ j hj];simp[e]
 ·rw[Nat.testBit_or,Nat.testBit_two_pow,h.out j hj];simp;omega
def freeN (ops:Array Oper) (oi:Oper) (k m:Nat):Nat->List Oper->Bool
 |_,[]=>true
 |j,oj :: r=>(j == k || m.testBit j || oj.after.any (fun e=>Region.binds .any e && e.on == k) || oi.apart ops oj) && freeN ops oi k m (j+1) r
theorem qaU {ops:Array Oper} {oi:Oper} {k m:Nat}:∀ (l:List Oper) (j:Nat),freeN ops oi k m j l=true->∀ i o,l[i]?=some o->(j+i == k || m.testBit (j+i) || o.after.any (fun e=>Region.binds .any e && e.on == k) || oi.apart ops o)=true
 | [],_,_,i,o,h=>by simp at h
 |x :: r,j,h,i,o,ho=>by
  simp only[freeN,Bool.and_eq_true] at h;rcases i with _|i
  ·simp only[List.getElem?_cons_zero,Option.some.injEq] at ho;subst ho;exact h.1
  ·have:=qaU r (j+1) h.2 i o (by simpa using ho)
   rwa [show j+1+i=j+(i+1) by omega] at this
def lexN (l:List Oper) (fin:Nat):List Nat->Nat->Bool
 | [],m=>m == fin
 |k :: r,m=>!m.testBit k && (match l[k]? with
  |some o=>o.after.toList.all (fun e=>!Region.binds .any e || m.testBit e.on) && freeN l.toArray o k m 0 l
  |none=>false) && lexN l fin r (m ||| 2 ^ k)
theorem qcV {l:List Oper} {L:Array Bool} {fin:Nat} (hL:Km l.length L fin):∀ (ks:List Nat) (A:Array Bool) (m:Nat),Km l.length A m->lexN l fin ks m=true->ZJ l.toArray L ks A=true
 | [],A,m,hA,h=>by
  simp only[lexN,beq_iff_eq] at h;subst h;simp only[ZJ,beq_iff_eq];refine Array.ext_getElem? fun j=>?_;by_cases hj:j<l.length
  ·rw[hA.at_ j hj,hL.at_ j hj]
  ·rw[Array.getElem?_eq_none (by rw[hA.size];omega),Array.getElem?_eq_none (by rw[hL.size];omega)]
 |k :: r,A,m,hA,h=>by
  simp only[lexN,Bool.and_eq_true,Bool.not_eq_true'] at h;obtain⟨⟨h0,h1⟩,h2⟩:=h;split at h1
  ·rename_i o ho;simp only[Bool.and_eq_true] at h1;obtain⟨h1,h3⟩:=h1;have hk:k<l.length:=(List.getElem?_eq_some_iff.1 ho).1;have hoA:l.toArray[k]?=some o:=by simpa using ho
   simp only[ZJ,Bool.and_eq_true];refine⟨⟨?_,?_⟩,qcV hL r _ _ (hA.set hk) h2⟩
   ·have:k∈Region.ready .any l.toArray A:=mem_ready.2 ⟨by rw[hA.getT hk,h0],o,hoA,fun e he hb=>by
     have h4:=List.all_eq_true.1 h1 e (by simpa using he);rw[hb] at h4;simp only[Bool.not_true,Bool.false_or] at h4;by_cases hj:e.on<l.length
     ·rw[hA.getT hj,h4]
     ·rw[hA.out e.on zO] at h4;cases h4⟩
    simpa using this
   ·unfold Region.free;rw[hoA];simp only[List.all_eq_true,List.mem_range];intro j hj;have hj':j<l.length:=by simpa using hj
    have h4:=qaU l 0 h3 j l[j] (zL hj');rw[Nat.zero_add] at h4;rw[hA.getT hj',List.getElem?_toArray,zL hj'];simp only;simp only[Bool.or_eq_true] at h4 ⊢;rcases h4 with ((h4|h4)|h4)|h4
    ·exact .inl (.inl h4)
    ·exact .inl (.inr h4)
    ·exact .inr (.inl h4)
    ·exact .inr (.inr h4)
  ·cases h1
theorem Km.listed (n m:Nat) (h:m<=n):Km n (QX n m) (2 ^ m-1):=by
 refine⟨by simp[QX],fun j hj=>?_,fun j hj=>?_⟩
 ·unfold QX;rw[List.getElem?_toArray,List.getElem?_map,List.getElem?_range hj,Nat.testBit_two_pow_sub_one];rfl
 ·rw[Nat.testBit_two_pow_sub_one];simp;omega
theorem qcE {P:Program} {l:List Oper} {Q:Exit->Act->World->Prop} {fuel:Nat} {a:Act} {w W:World} (R:Rel) (H:Nat->Option Qa) (M:List Bool) (t:Nat) (hs:Region.noSelect l.toArray=true) (ht:qgr l.toArray (QX l.length (l.length-t)) ((qt 0 l M).map (·.1))=true) (dU:Xr l.toArray (Array.replicate l.length false)=true) (hB:lexN l (2 ^ (l.length-t)-1) ((qt 0 l M).map (·.1)) 0=true) (nN:Gm l.toArray t (l.length-t) (QX l.length (l.length-t))=true) (hfu:fuel=(qt 0 l M).length+t) (nO:(l.drop (l.length-t)).length=t) (hH:∀ i h,H i=some h->∀ p,qJ R (h.φ p)) (hW:R.r w W) (h:∀ K:Act->qP->Prop,(∀ a' F',(∀ W,R.r w W->(∀ k,F' k W)->wpList P l.toArray Q (l.drop (l.length-t)) a' W)->K a' F')->ZS R P l.toArray w H K (qt 0 l M) a (fun _ _=>True)):wpAny P .any l.toArray Q fuel (Array.replicate l.length false) a W:=
 qQ R H M t hs ht dU (qcV (Km.listed _ _ (Nat.sub_le _ _)) _ _ _ (Km.none_ _) hB) nN hfu nO hH hW h
def newV (next:Int) (r:Nat):Vol:=⟨next,(r:Int),false,0⟩
def UN (S:Sto) (root next:Int) (dead:List Int) (er:Int):Prop:=(er=8/\zj S root next dead)\/∃ vs refs nodes,Qg S root next dead vs/\qX S (Qs root dead vs) refs nodes/\QF S refs /\
 ((er=9/\(16<=vs.length\/next=4294967295))\/Yd S=.error er\/∃ ra S1,Yd S=.ok (ra,S1)/\(YJ S1 root (next+1) dead (newV next ra) er\/∃ r S2 vs',kz S1 root (next+1) dead (newV next ra) r S2 vs'/\zt S2=er))
def CreQ (S:Sto) (gen root next:Int) (dead:List Int) (w:World) (e:Ending) (w':World):Prop:=Below w.heap.size w w' /\
 ((∃ er,er≠0/\e=.returned (.tuple #[JG,.int .u32 0,.int .i64 er])/\UN S root next dead er) \/
  ∃ vs refs nodes ra S1 r S2 vs' u,Qg S root next dead vs/\qX S (Qs root dead vs) refs nodes/\QF S refs/\vs.length<16/\next<4294967295/\Yd S=.ok (ra,S1)/\kz S1 root (next+1) dead (newV next ra) r S2 vs'/\zt S2=0 /\
   e=.returned (.tuple #[u,.int .u32 next,.int .i64 0])/\Jf w.heap.size S2 gen (r:Int) (next+1) dead u w')
theorem qiJ {R:Ending->World->Prop} {tmps:Array Value} {W:World} {b:Nat} {x0 x1 x2 x3 x4 x5 x6 x7 y z:Value} (h4:tmps[2]?.getD undef=.pointer (some ⟨b+1,0,none⟩)) (h5:tmps[3]?.getD undef=.pointer (some ⟨b+1+1,0,none⟩)) (h6:tmps[4]?.getD undef=.pointer (some ⟨b+1+1+1,0,none⟩)) (r4:W.heap[b+1]?=some (.cells #[x0,x1,x2,x3,x4,x5,x6,x7] 32 (0,0))) (r5:W.heap[b+2]?=some (.cells #[y] 29 (0,0))) (r6:W.heap[b+3]?=some (.cells #[z] 36 (0,0))) (hR:R (.returned (.tuple #[.agg #[x0,x1,x2,x3,x4,x5,x6,x7],y,z])) W):Leaves prog Tryz.f70 tmps R [] .returning W:=by
 have k4:=qa r4;have k5:=qa r5;have k6:=qa r6;refine⟨.tuple #[.agg #[x0,x1,x2,x3,x4,x5,x6,x7],y,z],?_,hR⟩;simp[results,results70,go_sem,h4,h5,h6,k4,k5,k6]
theorem qfm {R:Ending->World->Prop} {tmps:Array Value} {W:World} {b:Nat} (A1:Option Addr) (n1 c1:Nat) (A2:Option Addr) (n2 c2:Nat) (A3:Option Addr) (n3 c3:Nat) (A4:Option Addr) (n4 c4:Nat) (gen root next:Int) (v5:Value) (y e:Int) (S:Sto) (h4:tmps[2]?.getD undef=.pointer (some ⟨b+1,0,none⟩)) (h5:tmps[3]?.getD undef=.pointer (some ⟨b+1+1,0,none⟩)) (h6:tmps[4]?.getD undef=.pointer (some ⟨b+1+1+1,0,none⟩)) (r4:W.heap[b+1]?=some (.cells (qF (.slice A1 n1 c1) (.slice A2 n2 c2) (.slice A3 n3 c3) (.slice A4 n4 c4) gen root next v5) 32 (0,0))) (r5:W.heap[b+2]?=some (.cells #[.int .u32 y] 29 (0,0))) (r6:W.heap[b+3]?=some (.cells #[.int .i64 e] 36 (0,0))) (h:e=0->qU W W.heap.size (.slice A1 n1 c1) (.slice A2 n2 c2) (.slice A3 n3 c3) (.slice A4 n4 c4) S) (hR1:e=0->zt S=0->∀ W',Yr (b+1) (b+3) (b+2) W W'->R (.returned (.tuple #[.agg (qF (.slice A1 n1 c1) (.slice A2 n2 c2) (.slice A3 n3 c3) (.slice A4 n4 c4) gen root next v5),.int .u32 y,.int .i64 0])) W') (hR2:∀ e' W',e'≠0->((e=0/\e'=zt S)\/(e≠0/\e'=e))->Yr (b+1) (b+3) (b+2) W W'->R (.returned (.tuple #[JG,.int .u32 0,.int .i64 e'])) W'):bodyPostD prog Tryz.f70 R .ret { tmps:=tmps,defers:=[{ target:=.fn (.func 126) #[.pointer (some ⟨b+1,0,none⟩),.pointer (some ⟨b+1+1+1,0,none⟩),.pointer (some ⟨b+1+1,0,none⟩)],args:=#[] }] } W:=by
 refine leaves_cons (f:=126) (args:=#[.pointer (some ⟨b+1,0,none⟩),.pointer (some ⟨b+1+1+1,0,none⟩),.pointer (some ⟨b+1+1,0,none⟩)]) zA2 (by simp[go_sem]) ?_;refine(cre1_any (b+1) (b+3) (b+2) zO zO zO A1 n1 c1 A2 n2 c2 A3 n3 c3 A4 n4 c4 gen root next v5 y e S .returning W r4 r6 r5 h).mono ?_;rintro x u' w' ⟨rfl,rfl,hT,⟨h0,hE,g4,g6,g5⟩|⟨e',h0,hE,g4,g6,g5⟩⟩
 ·exact qiJ h4 h5 h6 g4 g5 g6 (hR1 h0 hE w' hT)
 ·exact qiJ h4 h5 h6 g4 g5 g6 (hR2 e' w' h0 hE hT)
theorem TL {tmps:Array Value} {w W:World} {S:Sto} {gen root next:Int} {dead:List Int} {er:Int} {z0:Int} (aG:er≠0) (hc:UN S root next dead er) (h4:tmps[2]?.getD undef=.pointer (some ⟨w.heap.size+1,0,none⟩)) (h5:tmps[3]?.getD undef=.pointer (some ⟨w.heap.size+1+1,0,none⟩)) (h6:tmps[4]?.getD undef=.pointer (some ⟨w.heap.size+1+1+1,0,none⟩)) (r4:W.heap[w.heap.size+1]?=some (.cells Kl 32 (0,0))) (r5:W.heap[w.heap.size+2]?=some (.cells #[.int .u32 z0] 29 (0,0))) (r6:W.heap[w.heap.size+3]?=some (.cells #[.int .i64 er] 36 (0,0))) (hB:Ext w W):bodyPostD prog Tryz.f70 (CreQ S gen root next dead w) .ret { tmps:=tmps,defers:=[{ target:=.fn (.func 126) #[.pointer (some ⟨w.heap.size+1,0,none⟩),.pointer (some ⟨w.heap.size+1+1+1,0,none⟩),.pointer (some ⟨w.heap.size+1+1,0,none⟩)],args:=#[] }] } W:=by
 refine qfm none 0 0 none 0 0 none 0 0 none 0 0 0 0 0 (.slice none 0 0) z0 er S h4 h5 h6 r4 r5 r6 (fun h=>absurd h aG) (fun h=>absurd h aG) (fun e' W' h0 hE hT=>?_);obtain rfl:e'=er:=by
  rcases hE with ⟨h,_⟩|⟨_,h⟩
  ·exact absurd h aG
  ·exact h
 have z:=(zG.1 r4).1;exact⟨hT.below hB zO zO zO zO,.inl ⟨e',aG,rfl,hc⟩⟩
theorem qaS {W:World} {b:Nat} {v p q0:Value} {yJ oL iU:TypeId} {cs:Array Value} (r4:W.heap[b+1]?=some (.cells cs yJ (0,0))) (r5:W.heap[b+2]?=some (.cells #[p] oL (0,0))) (r6:W.heap[b+3]?=some (.cells #[q0] iU (0,0))) {C:World} (hC:W.setCell ⟨b+1+1+1,0,none⟩ v=C):C.heap[b+1]?=some (.cells cs yJ (0,0))/\C.heap[b+2]?=some (.cells #[p] oL (0,0))/\C.heap[b+3]?=some (.cells #[v] iU (0,0))/\(∀ {w0:World},w0.heap.size<=b->Ext w0 W->Ext w0 C)/\C.heap.size=W.heap.size/\∀ k,k≠b+3->C.heap[k]?=W.heap[k]?:=by
 subst hC;have hs:=fun (k:Nat) (hk:k≠b+3)=>zJ W ⟨b+1+1+1,0,none⟩ v k hk;exact⟨(hs _ zO).trans r4,(hs _ zO).trans r5,qi r6 0 v,fun hb hx=>Below.setCell hx (p:=⟨b+1+1+1,0,none⟩) zA1 _,zA2,hs⟩
theorem newE_err {S:Sto} {er:Int} (h:Yd S=.error er):er≠0:=by
 unfold Yd at h;split at h
 ·exact Xu h
 ·cases h;decide
theorem cre_mid {W:World} {b vb:Nat} {u0 u1 u2 u3 u4 u5 u6 u7 y0 y1 y2 y3 p q0 x0 x1 x2 x3 z ev nx:Value} {tyP tyV yJ oL iU:TypeId} {cs:Array Value} (ra:W.heap[b]?=some (.cells #[u0,u1,u2,u3,u4,u5,u6,u7] tyP (0,0))) (rv:W.heap[vb]?=some (.cells #[y0,y1,y2,y3] tyV (0,0))) (r4:W.heap[b+1]?=some (.cells cs yJ (0,0))) (r5:W.heap[b+2]?=some (.cells #[p] oL (0,0))) (r6:W.heap[b+3]?=some (.cells #[q0] iU (0,0))) (hvb:b+3<vb) {C:World} (hC:((((((W.setCell ⟨b,0,none⟩ x0).setCell ⟨b,1,none⟩ x1).setCell ⟨b,2,none⟩ x2).setCell ⟨b,3,none⟩ x3).setCell ⟨vb,1,none⟩ z).setCell ⟨b+1+1+1,0,none⟩ ev).setCell ⟨b,6,none⟩ nx=C):C.heap[b]?=some (.cells #[x0,x1,x2,x3,u4,u5,nx,u7] tyP (0,0))/\C.heap[vb]?=some (.cells #[y0,z,y2,y3] tyV (0,0))/\C.heap[b+1]?=some (.cells cs yJ (0,0))/\C.heap[b+2]?=some (.cells #[p] oL (0,0))/\C.heap[b+3]?=some (.cells #[ev] iU (0,0)) /\
   C.heap.size=W.heap.size/\(∀ {w0:World},w0.heap.size<=b->Ext w0 W->Ext w0 C)/\∀ k,k≠b->k≠vb->k≠b+3->C.heap[k]?=W.heap[k]?:=by
 subst hC;have hs:=fun (A:World) (b j:Nat) (v:Value) (k:Nat) (hk:k≠b)=>zJ A ⟨b,j,none⟩ v k hk;have r1:=qi (qi (qi (qi ra 0 x0) 1 x1) 2 x2) 3 x3;have o1:∀ k,k≠b->((((W.setCell ⟨b,0,none⟩ x0).setCell ⟨b,1,none⟩ x1).setCell ⟨b,2,none⟩ x2).setCell ⟨b,3,none⟩ x3).heap[k]?=W.heap[k]?:=fun k hk=>by rw[hs _ _ _ _ _ hk,hs _ _ _ _ _ hk,hs _ _ _ _ _ hk,hs _ _ _ _ _ hk]
 have ax:∀ k,k≠b->k≠vb->k≠b+3->(((((((W.setCell ⟨b,0,none⟩ x0).setCell ⟨b,1,none⟩ x1).setCell ⟨b,2,none⟩ x2).setCell ⟨b,3,none⟩ x3).setCell ⟨vb,1,none⟩ z).setCell ⟨b+1+1+1,0,none⟩ ev).setCell ⟨b,6,none⟩ nx).heap[k]?=W.heap[k]?:=fun k h1 h2 h3=>by rw[hs _ _ _ _ _ h1,hs _ _ _ _ _ zO,hs _ _ _ _ _ h2,o1 k h1]
 refine⟨?_,?_,(ax _ zO zO zO).trans r4,(ax _ zO zO zO).trans r5,?_,zA2,fun hb hx=>?_,ax⟩
 ·exact qi (t:=tyP) (cs:=#[x0,x1,x2,x3,u4,u5,u6,u7]) (by rw[hs _ _ _ _ _ zO,hs _ _ _ _ _ zO];exact r1) 6 nx
 ·rw[hs _ _ _ _ _ zO,hs _ _ _ _ _ zO];exact qi (t:=tyV) (cs:=#[y0,y1,y2,y3]) ((o1 vb zO).trans rv) 1 z
 ·rw[hs _ _ _ _ _ zO];exact qi (t:=iU) (cs:=#[q0]) (by rw[hs _ _ _ _ _ zO,o1 _ zO];exact r6) 0 ev
 ·exact Below.setCell (Below.setCell (Below.setCell (Zf hx (b:=b) hb _ _ _ _) (p:=⟨vb,1,none⟩) zA1 _) (p:=⟨b+1+1+1,0,none⟩) zA1 _) (p:=⟨b,6,none⟩) hb _
set_option maxRecDepth 100000 in
theorem qgv (A1:Option Addr) (n1 c1:Nat) (A2:Option Addr) (n2 c2:Nat) (A3:Option Addr) (n3 c3:Nat) (A4:Option Addr) (n4 c4:Nat) (gen root next:Int) (A5:Option Addr) (c5:Nat) (S:Sto) (dead:List Int) (hn0:0<=next) (oD:next<4294967296) (w:World) (h:qU w w.heap.size (.slice A1 n1 c1) (.slice A2 n2 c2) (.slice A3 n3 c3) (.slice A4 n4 c4) S) (hd:Zw w w.heap.size (.slice A5 dead.length c5) dead):Calls prog 70 #[.agg (qF (.slice A1 n1 c1) (.slice A2 n2 c2) (.slice A3 n3 c3) (.slice A4 n4 c4) gen root next (.slice A5 dead.length c5))] w (CreQ S gen root next dead w):=by
 have HV:=zH (fun W (hx:Ext w W)=>UV A1 n1 c1 A2 n2 c2 A3 n3 c3 A4 n4 c4 gen root next A5 c5 S dead W (h.ext hx) (hd.ext_ hx));have HN:=zH (fun W (hx:Ext w W)=>pnew_any A1 n1 c1 A2 n2 c2 A3 n3 c3 A4 n4 c4 S W (h.ext hx));have hNQ:Hid (next<4294967295->IntKind.u32.wrap (next+1)=next+1):=zH fun h1=>by simp only[IntKind.wrap,IntKind.bits,IntKind.signed,Bool.false_and,Bool.false_eq_true,if_false];omega
 have sN:Hid (∀ ra:Nat,8<=ra->ra<256->vD (newV next ra)):=zH fun ra h1 h2=>by refine⟨⟨?_,?_⟩,⟨?_,?_⟩,⟨?_,?_⟩⟩ <;> simp only[newV] <;> omega
 replace h:=zH h;replace hd:=zH hd;go_enter_defers func70,ntmps70;go_wp2_with fail;generalize aA:(World.alloc (World.alloc _ _) _)=w1;have x1:Ext w w1:=by rw[<-aA];exact(((zN _ _).trans (zN _ _)).trans (zN _ _)).trans (zN _ _)
 have s1:w1.heap.size=w.heap.size+4:=by rw[<-aA];simp
 have ra1:w1.heap[w.heap.size]?=some (.cells (qF (.slice A1 n1 c1) (.slice A2 n2 c2) (.slice A3 n3 c3) (.slice A4 n4 c4) gen root next (.slice A5 dead.length c5)) 32 (0,0)):=by rw[<-aA];exact(zK _ _ _ zA3).trans ((zK _ _ _ zA3).trans ((zK _ _ _ zA3).trans (zI _ _ _ rfl)))
 have rb1:w1.heap[w.heap.size+1]?=some (.cells Kl 32 (0,0)):=by rw[<-aA];exact(zK _ _ _ zA3).trans ((zK _ _ _ zA3).trans (zI _ _ _ zA2))
 have rc1:w1.heap[w.heap.size+2]?=some (.cells #[.int .u32 0] 29 (0,0)):=by rw[<-aA];exact(zK _ _ _ zA3).trans (zI _ _ _ zA2)
 have rd1:w1.heap[w.heap.size+3]?=some (.cells #[.int .i64 0] 36 (0,0)):=by rw[<-aA];exact zI _ _ _ zA2
 clear aA;refine(HV.out w1 x1).mono ?_;clear HV;rintro e w2 ⟨hB,hQ⟩;have x2:Ext w w2:=Ext.trans x1 hB;have z2:w.heap.size+3<w2.heap.size:=by have:=Below.size hB;omega
 have ra2:=qb ra1 hB;have yH:=qb rb1 hB;have xZ:=qb rc1 hB;have rd2:=qb rd1 hB;clear hB ra1 rb1 rc1 rd1 x1;have ka2:=qa ra2;have kb2:=qa yH;have kc2:=qa xZ;have kd2:=qa rd2;have fb2:=qe yH;have fc2:=qe xZ;have fd2:=qe rd2;have zd2:w.heap.size+1+1+1<w2.heap.size:=zO;have zd0:w.heap.size<w2.heap.size:=zO;rcases hQ with ⟨rfl,aX⟩|⟨vs,refs,nodes,cb,ca,vv,lo,rfl,aP,hT⟩
 ·have yY:Hid (UN S root next dead 8):=zH (.inl ⟨rfl,aX⟩);clear aX HN;go_wp2_with fail;obtain⟨uz,oK,tV,xe,-,-⟩:=qaS (b:=w.heap.size) (v:=.int .i64 8) yH xZ rd2 rfl;obtain⟨g4,g5,g6,dJ,-,-⟩:=TY (b:=w.heap.size) uz oK tV rfl;exact TL zD yY.out rfl rfl rfl g4 g5 g6 (dJ (B:=w.heap.size) zO (xe (zM _) x2))
 ·have hp:=zH hT.pool;have hc:=zH hT.cnt;have he:=zH hT.enough;obtain⟨AV,cV,rfl,-,-⟩:=qz hT.own;clear hT aP;by_cases hl:16<=vs.length
  ·have yY:Hid (UN S root next dead 9):=zH (.inr ⟨vs,refs,nodes,hp.out,hc.out,he.out,.inl ⟨rfl,.inl hl⟩⟩);have d1:decide ((vs.length:Int)≥16)=true:=decide_eq_true zO;replace hl:=zH hl;clear HN;go_wp2_with fail;obtain⟨uz,oK,tV,xe,-,-⟩:=qaS (b:=w.heap.size) (v:=.int .i64 0) yH xZ rd2 rfl;obtain⟨g4,g5,g6,dJ,-,-⟩:=TY (b:=w.heap.size) uz oK tV rfl;exact TL zD yY.out rfl rfl rfl g4 g5 g6 (dJ (B:=w.heap.size) zO (xe (zM _) x2))
  ·have d1:decide ((vs.length:Int)≥16)=false:=decide_eq_false zO;replace hl:=zH hl;by_cases hm:next=4294967295
   ·have yY:Hid (UN S root next dead 9):=zH (.inr ⟨vs,refs,nodes,hp.out,hc.out,he.out,.inl ⟨rfl,.inr hm⟩⟩);have d3:(next == 4294967295)=true:=by rw[beq_iff_eq];exact hm
    replace hm:=zH hm;clear HN;go_wp2_with fail;obtain⟨uz,oK,tV,xe,-,-⟩:=qaS (b:=w.heap.size) (v:=.int .i64 0) yH xZ rd2 rfl;obtain⟨g4,g5,g6,dJ,-,-⟩:=TY (b:=w.heap.size) uz oK tV rfl;exact TL zD yY.out rfl rfl rfl g4 g5 g6 (dJ (B:=w.heap.size) zO (xe (zM _) x2))
   ·have d3:(next == 4294967295)=false:=by rw[beq_eq_false_iff_ne];exact hm
    replace hm:=zH hm;have uQ:vs.length<16:=by have:=hl.out;omega
    have cZ:next<4294967295:=by have:=hm.out;omega
    replace uQ:=zH uQ;replace cZ:=zH cZ;go_wp2_with fail;generalize aO:World.alloc (World.setCell w2 _ _) _=w3;have rv3:w3.heap[w2.heap.size]?=some (.cells #[.int .u32 next,.int .i64 0,.bool false,.int .u32 0] 40 (0,0)):=by rw[<-aO];exact zI _ _ _ zA2
    obtain⟨uz,oK,tV,xe,ze,oe⟩:=qaS (b:=w.heap.size) (v:=.int .i64 0) yH xZ rd2 rfl;have x3:Ext w w3:=by rw[<-aO];exact(xe (zM _) x2).trans (zN _ _)
    have ha3:=zN (w2.setCell ⟨w.heap.size+1+1+1,0,none⟩ (.int .i64 0)) (.cells #[.int .u32 next,.int .i64 0,.bool false,.int .u32 0] 40);rw[aO] at ha3;replace uz:=qb uz ha3;replace oK:=qb oK ha3;replace tV:=qb tV ha3;have ra3:=qb ((oe w.heap.size zO).trans ra2) ha3;clear aO xe ze oe ha3 yH xZ rd2 ra2 ka2 kb2 kc2 kd2 fb2 fc2 fd2;refine(HN.out w3 x3).mono ?_;clear HN;rintro e w4 ⟨u,rfl,hM,hB⟩;have x4:Ext w w4:=x3.trans hB;have ra4:=qb ra3 hB;have rb4:=qb uz hB;have rc4:=qb oK hB;have rd4:=qb tV hB;have pJ:=qb rv3 hB;have ka4:=qa ra4;have kb4:=qa rb4;have kc4:=qa rc4;have kd4:=qa rd4;have kv4:=qa pJ;have fa4:=qe ra4;have fb4:=qe rb4;have fc4:=qe rc4;have fd4:=qe rd4;have fv4:=qe pJ;have zv3:=(zG.1 rv3).1;have zv4:=(zG.1 pJ).1;clear hB ra3 uz oK tV rv3;rcases hq:Yd S with er|⟨ra,S1⟩
    ·rw[hq] at hM;obtain rfl:=hM;have aG:=newE_err hq;have yY:Hid (UN S root next dead er):=zH (.inr ⟨vs,refs,nodes,hp.out,hc.out,he.out,.inr (.inl hq)⟩);have lL:(er != 0)=true:=by rw[bne_iff_ne];exact aG
     replace aG:=zH aG;replace hq:=zH hq;go_wp2_with fail;have hs5:=(((((Sets.refl (fun k=>k=w.heap.size\/k=w2.heap.size) w4).set (b:=w.heap.size) 0 (.inl rfl) (.slice none 0 0)).set (b:=w.heap.size) 1 (.inl rfl) (.slice none 0 0)).set (b:=w.heap.size) 2 (.inl rfl) (.slice none 0 0)).set (b:=w.heap.size) 3 (.inl rfl) (.slice none 0 0)).set (b:=w2.heap.size) 1 (.inr rfl) (.int .i64 0);obtain⟨rb5,rc5,rd5,xe,-,-⟩:=qaS (b:=w.heap.size) (v:=.int .i64 er) (hs5.row rb4 zO) (hs5.row rc4 zO) (hs5.row rd4 zO) rfl;obtain⟨g4,g5,g6,dJ,-,-⟩:=TY (b:=w.heap.size) rb5 rc5 rd5 rfl;exact TL aG.out yY.out rfl rfl rfl g4 g5 g6 (dJ (B:=w.heap.size) zO (xe (zM _) (hs5.below x4 zO)))
    ·rw[hq] at hM;obtain⟨v,rfl,hT⟩:=hM;obtain⟨BB,WW,gg,B3,d3,B4,d4,rfl,-⟩:=id hT;have pX:=zH (Vu (hT.newSto (zu (Uf hq).2.2.1)));have yG:=hNQ.out cZ.out;have htr:=zH (new_tree hq);have pg:=(Uf hq).2.2.2;have lX:=zH hq;clear hT hq;go_wp2_with fail;generalize aV:World.setCell (World.setCell (World.setCell (World.setCell (World.setCell (World.setCell (World.setCell w4 _ _) _ _) _ _) _ _) _ _) _ _) _ _=w5;obtain⟨ra5,yI,rb5,rc5,rd5,z5,xe5,o5⟩:=cre_mid (b:=w.heap.size) (vb:=w2.heap.size) ra4 pJ rb4 rc4 rd4 zO aV;have x5:=xe5 (zM _) x4;have uk:=(pX.out w5 (JH fun k h1 h2=>o5 k zO zO zO)).more (show w4.heap.size<=w5.heap.size by omega);have HS:=zH (qaX (some ⟨BB,0,none⟩) S1.bs.length S1.bs.length (some ⟨WW,0,none⟩) S1.ws.length (S1.ws.length+1) B3 S1.now.length d3 B4 S1.last.length d4 gen root (next+1) A5 c5 S1 dead (newV next ra) (sN.out ra pg.1 pg.2) (fun _ _ _=>htr.out) w5 uk (hd.out.ext_ x5));clear aV xe5 ra4 rb4 rc4 rd4 pJ ka4 kb4 kc4 kd4 kv4 fa4 fb4 fc4 fd4 fv4 uk pX htr;refine HS.out.mono ?_;clear HS;intro e w6 hQS;obtain⟨dC,hS6⟩:=hQS.split;have x6:Ext w w6:=x5.trans dC;have rb6:=qb rb5 dC;have rc6:=qb rc5 dC;have rd6:=qb rd5 dC;have rv6:=qb yI dC;obtain⟨E1,m1,e1,E2,m2,e2,E3,m3,e3,E4,m4,e4,g9,t9,n9,E5,m5,e5,er,rfl,hS7⟩:∃ E1 m1 e1 E2 m2 e2 E3 m3 e3 E4 m4 e4 g9 t9 n9 E5 m5 e5 er,e=.returned (.tuple #[.agg (qF (.slice E1 m1 e1) (.slice E2 m2 e2) (.slice E3 m3 e3) (.slice E4 m4 e4) g9 t9 n9 (.slice E5 m5 e5)),.int .i64 er]) /\
       ((er≠0/\qF (.slice E1 m1 e1) (.slice E2 m2 e2) (.slice E3 m3 e3) (.slice E4 m4 e4) g9 t9 n9 (.slice E5 m5 e5)=Kl/\YJ S1 root (next+1) dead (newV next ra) er)\/(er=0/\∃ r S2 vs',kz S1 root (next+1) dead (newV next ra) r S2 vs'/\Jf w5.heap.size S2 gen (r:Int) (next+1) dead (.agg (qF (.slice E1 m1 e1) (.slice E2 m2 e2) (.slice E3 m3 e3) (.slice E4 m4 e4) g9 t9 n9 (.slice E5 m5 e5))) w6)):=by
      rcases hS6 with ⟨er,h0,rfl,hE⟩|⟨r,S2,vs',u,hO,rfl,hN⟩
      ·exact⟨none,0,0,none,0,0,none,0,0,none,0,0,0,0,0,none,0,0,er,rfl,.inl ⟨h0,rfl,hE⟩⟩
      ·obtain⟨E1,e1,E2,e2,E3,e3,E4,e4,E5,e5,rfl,-⟩:=id hN;exact⟨E1,_,e1,E2,_,e2,E3,_,e3,E4,_,e4,gen,r,next+1,E5,_,e5,0,rfl,.inr ⟨rfl,r,S2,vs',hO,hN⟩⟩
     replace hS7:=zH hS7;have kb6:=qa rb6;have fb6:=qe rb6;have kd6:=qa rd6;have fd6:=qe rd6;clear hQS hS6 ra5 rb5 rc5 rd5 yI;go_upto_region 13 with fail;generalize gp:World.setCell (World.setCell (World.setCell (World.setCell (World.setCell (World.setCell (World.setCell (World.setCell (World.setCell w6 _ _) _ _) _ _) _ _) _ _) _ _) _ _) _ _) _ _=w7;have x7:Ext w w7:=by rw[<-gp];exact Below.setCell (zl x6 (b:=w.heap.size+1) zO _ _ _ _ _ _ _ _) (p:=⟨w.heap.size+1+1+1,0,none⟩) zA1 _
     have z7:w7.heap.size=w6.heap.size:=by rw[<-gp];simp
     have hs:=fun (A:World) (b j:Nat) (v:Value) (k:Nat) (hk:k≠b)=>zJ A ⟨b,j,none⟩ v k hk;have rb7:w7.heap[w.heap.size+1]?=some (.cells (qF (.slice E1 m1 e1) (.slice E2 m2 e2) (.slice E3 m3 e3) (.slice E4 m4 e4) g9 t9 n9 (.slice E5 m5 e5)) 32 (0,0)):=by rw[<-gp,hs _ _ _ _ _ zO];exact jG rb6 _ _ _ _ _ _ _ _
     have o7:∀ k,k≠w.heap.size+1->k≠w.heap.size+3->w7.heap[k]?=w6.heap[k]?:=fun k h1 h2=>by rw[<-gp,hs _ _ _ _ _ zO,jz h1]
     have rc7:=(o7 (w.heap.size+2) zO zO).trans rc6;have rv7:=(o7 w2.heap.size zO zO).trans rv6;have rd7:w7.heap[w.heap.size+3]?=some (.cells #[.int .i64 er] 36 (0,0)):=by rw[<-gp];exact qi (t:=36) (cs:=#[.int .i64 0]) (by rw[jz zO];exact rd6) 0 _
     clear gp kb6 fb6 kd6 fd6 rb6 rc6 rd6 rv6 hs;have gO:∀ W,qj.r w7 W->∀ i,W.cell? ⟨w.heap.size+1,i,none⟩=(qF (.slice E1 m1 e1) (.slice E2 m2 e2) (.slice E3 m3 e3) (.slice E4 m4 e4) g9 t9 n9 (.slice E5 m5 e5))[i]?:=fun W h=>qa (qb rb7 h);have gV:∀ W,qj.r w7 W->∀ i,W.cell? ⟨w2.heap.size,i,none⟩=#[.int .u32 next,.int .i64 (ra:Int),.bool false,.int .u32 0][i]?:=fun W h=>qa (qb rv7 h);have gE:∀ W,qj.r w7 W->∀ i,W.cell? ⟨w.heap.size+1+1+1,i,none⟩=#[.int .i64 er][i]?:=fun W h=>qa (qb rd7 h);refine qp zQ ?_;refine qcE (w:=w7) qj (qH [(4,ZL)]) (List.replicate 5 true) 2 zQ zQ zQ zQ zQ zQ zQ ?st (Rel.drew _ _) ?walk
     case st=>exact qk (by simp only[List.forall_mem_cons];exact⟨ZA,fun _ h=>by cases h⟩)
     case walk =>
      intro K hK;dsimp only[qt,List.replicate];repeat ((first|(refine qd ?_ zA0 zA0 (fun W hW _=>⟨W,?_,Rel.refl _ W⟩) ?_;rotate_left;(go_simp<;>with_reducible rfl))|(refine qh zA0 ?_));try simp only[Act.put,ql,qg,qc,qf,Qj,zA,zB,zC])
      refine qw ZL zA0 zA0 (fun W hW _=>?_) (fun (p:Unit)=>?_)
      ·have hW:Ext w7 W:=hW;have r8:=qb rb7 hW;have k8:=qa r8;have f8:=qe r8;refine jO ?_ (same8 r8);clear gO gV gE;go_simp
      simp only[Act.put,qg,qc,qf,Qj,zA,zB,zC];repeat ((first|(refine qd ?_ zA0 zA0 (fun W hW _=>⟨W,?_,Rel.refl _ W⟩) ?_;rotate_left;(go_simp<;>with_reducible rfl))|(refine qh zA0 ?_));try simp only[Act.put,ql,qg,qc,qf,Qj,zA,zB,zC])
      refine qv (hK _ _ fun W hW hF=>?_);clear hF hK gO gV gE;have hW:Ext w7 W:=hW;refine zC4 ?_;have x8:Ext w W:=x7.trans hW;have z78:=hW.size;have rb8:=qb rb7 hW;have rc8:=qb rc7 hW;have rd8:=qb rd7 hW;have kc8:=qa rc8;have fc8:=qe rc8;have kd8:=qa rd8;have fd8:=qe rd8;have zd8:w.heap.size+1+1+1<W.heap.size:=(zG.1 rd8).1;have o8:∀ k,k<w6.heap.size->k≠w.heap.size+1->k≠w.heap.size+3->W.heap[k]?=w6.heap[k]?:=fun k h0 h1 h2=>(Below.block hW k zO).trans (o7 k h1 h2);replace o8:=zH o8;clear hW o7 rb7 rc7 rd7 rv7;go_wp2;refine Qo ?_;go_wp2_with fail;generalize aY:World.setCell (World.setCell W _ _) _ _=Wf;obtain⟨rcf,rdf,hbf,zf,hof⟩:=two_rows (b:=w.heap.size) rc8 rd8 aY;have rbf:=(hof (w.heap.size+1) zO zO).trans rb8;have yf:=hbf (B:=w.heap.size) zO x8;clear aY;have hk6:∀ k,w5.heap.size<=k->k<w6.heap.size->Wf.heap[k]?=w6.heap[k]?:=fun k h1 h2=>(hof k zO zO).trans (o8.out k h2 zO zO);have zWf:Wf.heap.size=W.heap.size:=zf;rcases hS7.out with ⟨h0,hz,hE⟩|⟨rfl,r,S2,vs',hO,hN⟩
      ·rw[hz] at rbf;exact TL h0 (.inr ⟨vs,refs,nodes,hp.out,hc.out,he.out,.inr (.inr ⟨ra,S1,lX.out,.inl hE⟩)⟩) rfl rfl rfl rbf rcf rdf yf
      ·have yR:Jf w.heap.size S2 gen (r:Int) (next+1) dead (.agg (qF (.slice E1 m1 e1) (.slice E2 m2 e2) (.slice E3 m3 e3) (.slice E4 m4 e4) g9 t9 n9 (.slice E5 m5 e5))) Wf:=hN.keep x5.size zO hk6;obtain⟨F1,f1,F2,f2,F3,f3,F4,f4,F5,f5,ee,aI,hin⟩:=yR.sto;simp only[qF,Value.agg.injEq,Array.mk.injEq,List.cons.injEq,Value.slice.injEq,Value.int.injEq,true_and,and_true] at ee;obtain⟨⟨rfl,rfl,rfl⟩,⟨rfl,rfl,rfl⟩,⟨rfl,rfl,rfl⟩,⟨rfl,rfl,rfl⟩,rfl,rfl,rfl,rfl,rfl,rfl⟩:=ee;refine qfm _ _ _ _ _ _ _ _ _ _ _ _ _ _ _ _ _ 0 S2 rfl rfl rfl rbf rcf rdf (fun _=>aI) (fun _ hE W' hT=>?_) (fun e' W' h0 hE hT=>?_)
       ·exact⟨hT.below yf zO zO zO zO,.inr ⟨vs,refs,nodes,ra,S1,r,S2,vs',_,hp.out,hc.out,he.out,uQ.out,cZ.out,lX.out,hO,hE,rfl,hN.keep x5.size (by have:=hT.size;omega) fun k h1 h2=>(hT.same k zO zO zO zO).trans (hk6 k h1 h2)⟩⟩
       ·refine⟨hT.below yf zO zO zO zO,.inl ⟨e',h0,rfl,.inr ⟨vs,refs,nodes,hp.out,hc.out,he.out,.inr (.inr ⟨ra,S1,lX.out,.inr ⟨r,S2,vs',hO,?_⟩⟩)⟩⟩⟩;rcases hE with ⟨_,h⟩|⟨h,_⟩
        ·exact h.symm
        ·exact absurd rfl h
def okOf {α:Type} (q:Except Int (Nat×α)) (d:α):α:=match q with
 | .ok (_,x)=>x
 | .error _=>d
def st1:Sto:=okOf (Yd qO) qO
def vol1:Vol:=⟨1,9,false,0⟩
def st2:Sto:=okOf (setE st1 8 vol1) st1
theorem zj.not {S:Sto} {root next:Int} {dead:List Int} {vs:List Vol} {met refs:List Nat} (hb:zj S root next dead) (h:KA S root next dead=some (vs,met,refs)):False:=by obtain⟨h1,h2,h3⟩:=vR h;obtain⟨refs',nodes',hc,hn⟩:=hb vs h1;obtain⟨_,e⟩:=jI.same hc.mkd h2.mkd;subst e;exact hn h3
theorem Zw.nil_ (w:World) (B:Nat):Zw w B (.slice none 0 0) []:=⟨none,0,rfl,zM _,by simp[maxLen],Rd.none_⟩
section
variable {S:Sto} {gen root next:Int} {dead:List Int}
def setC (S:Sto) (root next:Int) (dead:List Int) (v:Vol):Option (Nat×Sto×List Vol):=match KA S root next dead with
 |none=>none
 |some (vs,_,refs)=>if je S next v vs (fun b=>refs.count b)=0 then match setE S root v with
   | .error _=>none
   | .ok (r,S')=>match KA S' (r:Int) next dead with
    |none=>none
    |some (vs',_,_)=>some (r,S',vs')
  else none
theorem qjk {v:Vol} {r:Nat} {S':Sto} {vs':List Vol} (h:setC S root next dead v=some (r,S',vs')):∃ vs met refs met' refs',KA S root next dead=some (vs,met,refs)/\je S next v vs (fun b=>refs.count b)=0/\setE S root v=.ok (r,S')/\KA S' (r:Int) next dead=some (vs',met',refs'):=by
 unfold setC at h;split at h
 ·cases h
 ·rename_i vs met refs hp;split at h
  ·rename_i hf;split at h
   ·cases h
   ·rename_i r1 S1 he;split at h
    ·cases h
    ·rename_i vs1 met1 lN sD;cases h;exact⟨vs,met,refs,met1,lN,hp,hf,he,sD⟩
  ·cases h
theorem qbE {v:Vol} {r:Nat} {S':Sto} {vs':List Vol} (h:setC S root next dead v=some (r,S',vs')) {er:Int} (aG:er≠0) (hE:YJ S root next dead v er):False:=by
 obtain⟨vs,met,refs,met',refs',hp,hf,he,gm⟩:=qjk h;obtain⟨h1,h2,h3⟩:=vR hp;rcases hE with ⟨_,hb⟩|⟨vs1,lN,iw,k1,k2,k3,hE⟩
 ·exact hb.not hp
 ·obtain⟨rfl,rfl,-⟩:=Qg.unique h1 h2 k1 k2;rcases hE with e|⟨_,e|⟨_,r2,S2,e,hb⟩⟩
  ·rw[hf] at e;exact aG e.symm
  ·rw[he] at e;cases e
  ·rw[he] at e;cases e;exact hb.not gm
theorem Xz {v:Vol} {r r1:Nat} {S' S1:Sto} {vs' vs1:List Vol} (h:setC S root next dead v=some (r,S',vs')) (hO:kz S root next dead v r1 S1 vs1):r1=r/\S1=S'/\vs1=vs':=by obtain⟨vs,met,refs,met',refs',hp,hf,he,gm⟩:=qjk h;obtain⟨_,_,_,_,_,_,_,e,hWX,hOA,k1,k2,_⟩:=hO;rw[he] at e;cases e;obtain⟨h1,h2,h3⟩:=vR gm;obtain⟨rfl,_,_⟩:=Qg.unique h1 h2 k1 k2;exact⟨rfl,rfl,rfl⟩
def qav (S:Sto) (root next:Int) (dead:List Int):Option (Nat×Sto):=match KA S root next dead with
 |none=>none
 |some (vs,_,_)=>if vs.length<16/\next<4294967295 then match Yd S with
   | .error _=>none
   | .ok (ra,S1)=>match setC S1 root (next+1) dead (newV next ra) with
    |none=>none
    |some (r,S2,_)=>if zt S2=0 then some (r,S2) else none
  else none
theorem qgW {r:Nat} {S2:Sto} (h:qav S root next dead=some (r,S2)) {w w':World} {e:Ending} (hQ:CreQ S gen root next dead w e w'):Below w.heap.size w w'/\∃ u,e=.returned (.tuple #[u,.int .u32 next,.int .i64 0])/\Jf w.heap.size S2 gen (r:Int) (next+1) dead u w':=by
 unfold qav at h;split at h
 ·cases h
 ·rename_i vs met refs hp;split at h
  ·rename_i hl;split at h
   ·cases h
   ·rename_i ra S1 hn;split at h
    ·cases h
    ·rename_i r1 S3 vs3 hs;split at h
     ·rename_i hr;cases h;obtain⟨h1,h2,h3⟩:=vR hp;refine⟨hQ.1,?_⟩;rcases hQ.2 with ⟨er,aG,_,hE⟩|⟨vs1,lN,iw,ra1,T1,r9,T2,vs9,u,k1,k2,k3,k4,k5,k6,k7,k8,rfl,k9⟩
      ·exfalso;rcases hE with ⟨_,hb⟩|⟨vs1,lN,iw,k1,k2,k3,hE⟩
       ·exact hb.not hp
       ·obtain⟨rfl,rfl,-⟩:=Qg.unique h1 h2 k1 k2;rcases hE with ⟨_,e|e⟩|e|⟨ra1,T1,e,hE⟩
        ·omega
        ·omega
        ·rw[hn] at e;cases e
        ·rw[hn] at e;cases e;rcases hE with hE|⟨r9,T2,vs9,hO,e⟩
         ·exact qbE hs aG hE
         ·obtain⟨rfl,rfl,rfl⟩:=Xz hs hO;exact aG (e.symm.trans hr)
      ·rw[hn] at k6;cases k6;obtain⟨rfl,rfl,rfl⟩:=Xz hs k7;exact⟨u,rfl,k9⟩
     ·cases h
  ·cases h
def qjd (S:Sto) (id:Int) (x:It) (vs:List Vol):Bool:=match Qr vs id with
 |none=>true
 |some v=>match qap (QE S v.root) v.root.toNat x with
  | .error _=>true
  | .ok (r2,S2)=>okL S2 (-1) (r2:Int)
def qbv (S:Sto) (root next:Int) (dead:List Int) (id:Int) (x:It):Bool:=match KA S root next dead with
 |none=>false
 |some (vs,_,_)=>qjd S id x vs
theorem qgb {id:Int} {x:It} (h:qbv S root next dead id x=true):∀ vs v,Qg S root next dead vs->Qr vs id=some v->QO S v.root=0->∀ r2 S2,qap (QE S v.root) v.root.toNat x=.ok (r2,S2)->okL S2 (-1) (r2:Int)=true:=fun vs v hp hv _ r2 S2 hq=>by
 unfold qbv at h;split at h
 ·cases h
 ·rename_i vs1 met refs sD;obtain⟨h1,_,_⟩:=vR sD;obtain rfl:=Qg.same h1 hp;unfold qjd at h;rw[hv] at h;simp only[hq] at h;exact h
def qgC (S:Sto) (root next:Int) (dead:List Int) (id:Int) (x:It):Option (Nat×Sto):=match KA S root next dead with
 |none=>none
 |some (vs,_,_)=>match Qr vs id with
  |none=>none
  |some v=>if v.fz=false/\itB x.r x.val.length=true/\x.r=0/\QO S v.root=0 then match qap (QE S v.root) v.root.toNat x with
    | .error _=>none
    | .ok (r2,S2)=>match setC S2 root next dead (GX v r2) with
     |none=>none
     |some (r3,S3,_)=>match Jd S3 v.root with
      | .error _=>none
      | .ok S4=>if zt S4=0 then some (r3,S4) else none
   else none
theorem vputC_ok {id:Int} {x:It} {r:Nat} {S4:Sto} (h:qgC S root next dead id x=some (r,S4)) {w w':World} {e:Ending} (hQ:VPutQ S gen root next dead id x w e w'):Below w.heap.size w w'/\∃ u,e=.returned (.tuple #[u,.int .i64 0])/\Jf w.heap.size S4 gen (r:Int) next dead u w':=by
 unfold qgC at h;split at h
 ·cases h
 ·rename_i vs met refs hp;split at h
  ·cases h
  ·rename_i v hv;split at h
   ·rename_i hc;obtain⟨c1,c2,c3,c4⟩:=hc;split at h
    ·cases h
    ·rename_i r2 S2 hq;split at h
     ·cases h
     ·rename_i r3 S3 vs3 hs;split at h
      ·cases h
      ·rename_i S5 hl;split at h
       ·rename_i hr;cases h;obtain⟨h1,h2,h3⟩:=vR hp;refine⟨hQ.1,?_⟩;rcases hQ.2 with ⟨er,aG,_,hE⟩|⟨r9,T4,u,⟨vs1,lN,iw,v1,k1,k2,k3,k4,k5,k6,k7,q2,T2,T3,vs9,k8,k9,k10,k11,k12⟩,rfl,k13⟩
        ·exfalso;rcases hE with ⟨_,hb⟩|⟨vs1,lN,iw,k1,k2,k3,hE⟩
         ·exact hb.not hp
         ·obtain⟨rfl,rfl,-⟩:=Qg.unique h1 h2 k1 k2;rcases hE with ⟨_,e⟩|⟨v1,e,hE⟩
          ·rw[hv] at e;cases e
          ·rw[hv] at e;cases e;rcases hE with ⟨_,e⟩|⟨_,hE⟩
           ·rw[c1] at e;cases e
           ·rcases hE with ⟨_,e⟩|⟨_,hE⟩
            ·rw[c2] at e;cases e
            ·rcases hE with ⟨_,e,_⟩|⟨_,hE⟩
             ·exact e c3
             ·rcases hE with e|⟨_,e|⟨q2,T2,e,hE⟩⟩
              ·exact aG (e.symm.trans c4)
              ·rw[hq] at e;cases e
              ·rw[hq] at e;cases e;rcases hE with hE|⟨r9,T3,vs9,hO,hE⟩
               ·exact qbE hs aG hE
               ·obtain⟨rfl,rfl,rfl⟩:=Xz hs hO;rcases hE with e|⟨T4,e,e2⟩
                ·rw[hl] at e;cases e
                ·rw[hl] at e;cases e;exact aG (e2.symm.trans hr)
        ·obtain⟨rfl,rfl,-⟩:=Qg.unique h1 h2 k1 k2;rw[hv] at k4;cases k4;rw[hq] at k9;cases k9;obtain⟨rfl,rfl,rfl⟩:=Xz hs k10;rw[hl] at k11;cases k11;exact⟨u,rfl,k13⟩
       ·cases h
   ·cases h
def snapC (S:Sto) (root next:Int) (dead:List Int) (id:Int) (fz:Bool):Option (Nat×Sto):=match KA S root next dead with
 |none=>none
 |some (vs,_,_)=>match Qr vs id with
  |none=>none
  |some v=>if vs.length<16/\next<4294967295/\QO S v.root=0 then match setC (QE S v.root) root (next+1) dead (JS next v fz id) with
    |none=>none
    |some (r,S',_)=>if zt S'=0 then some (r,S') else none
   else none
theorem snapC_ok {id:Int} {fz:Bool} {r:Nat} {S':Sto} (h:snapC S root next dead id fz=some (r,S')) {w w':World} {e:Ending} (hQ:SnapQ S gen root next dead id fz w e w'):Below w.heap.size w w'/\∃ u,e=.returned (.tuple #[u,.int .u32 next,.int .i64 0])/\Jf w.heap.size S' gen (r:Int) (next+1) dead u w':=by
 unfold snapC at h;split at h
 ·cases h
 ·rename_i vs met refs hp;split at h
  ·cases h
  ·rename_i v hv;split at h
   ·rename_i hc;obtain⟨c1,c2,c3⟩:=hc;split at h
    ·cases h
    ·rename_i r1 S1 vs1 hs;split at h
     ·rename_i hr;cases h;obtain⟨h1,h2,h3⟩:=vR hp;refine⟨hQ.1,?_⟩;rcases hQ.2 with ⟨er,aG,_,hE⟩|⟨r9,T,u,⟨vs1,lN,iw,v1,vs9,k1,k2,k3,k4,k5,k6,k7,k8,k9⟩,rfl,k10⟩
      ·exfalso;rcases hE with ⟨_,hb⟩|⟨vs1,lN,iw,k1,k2,k3,hE⟩
       ·exact hb.not hp
       ·obtain⟨rfl,rfl,-⟩:=Qg.unique h1 h2 k1 k2;rcases hE with ⟨_,e⟩|⟨v1,e,hE⟩
        ·rw[hv] at e;cases e
        ·rw[hv] at e;cases e;rcases hE with ⟨_,e|e⟩|e|⟨_,hE|⟨r9,T,vs9,hO,_,e⟩⟩
         ·omega
         ·omega
         ·exact aG (e.symm.trans c3)
         ·exact qbE hs aG hE
         ·obtain⟨rfl,rfl,rfl⟩:=Xz hs hO;exact e hr
      ·obtain⟨rfl,rfl,-⟩:=Qg.unique h1 h2 k1 k2;rw[hv] at k4;cases k4;obtain⟨rfl,rfl,rfl⟩:=Xz hs k8;exact⟨u,rfl,k10⟩
     ·cases h
   ·cases h
def frzC (S:Sto) (root next:Int) (dead:List Int) (id:Int) (fz:Bool):Option (Nat×Sto):=match KA S root next dead with
 |none=>none
 |some (vs,_,_)=>match Qr vs id with
  |none=>none
  |some v=>if QO S v.root=0 then match setC (QE S v.root) root next dead (frzV v fz) with
    |none=>none
    |some (r,S',_)=>match Jd S' v.root with
     | .error _=>none
     | .ok S4=>if zt S4=0 then some (r,S4) else none
   else none
end
def cS (o:Option (Nat×Sto)):Sto:=match o with
 |some (_,S)=>S
 |none=>qO
def cIs (o:Option (Nat×Sto)) (r:Nat):Bool:=match o with
 |some (n,_)=>decide (n=r)
 |none=>false
theorem qaO {o:Option (Nat×Sto)} {r:Nat} (h:cIs o r=true):o=some (r,cS o):=by
 rcases o with _|⟨n,S⟩
 ·cases h
 ·simp only[cIs,decide_eq_true_eq] at h;subst h;rfl
def x7:It:=⟨2,0,0,0,[7]⟩
def xz:It:=⟨0,0,0,0,[]⟩
def t1:Sto:=cS (qav qO 8 1 [])
theorem t1_cre:qav qO 8 1 []=some (10,t1):=qaO (by decide +kernel)
def t2:Sto:=cS (qgC t1 10 2 [] 1 x7)
theorem t2_put:qgC t1 10 2 [] 1 x7=some (11,t2):=qaO (by decide +kernel)
theorem t2_tree:qbv t1 10 2 [] 1 x7=true:=by decide +kernel
def t3:Sto:=cS (snapC t2 11 2 [] 1 true)
theorem t3_snap:snapC t2 11 2 [] 1 true=some (9,t3):=qaO (by decide +kernel)
def va:Vol:=⟨1,8,false,0⟩
def vb:Vol:=⟨2,8,true,1⟩
theorem qjp:KA t3 9 3 []=some ([va,vb],[8,9],[9,8,8]):=by decide +kernel
theorem t3_find:qcK t3 8 (2,0,0)=some x7:=by decide +kernel
def t4:Sto:=cS (frzC t3 9 3 [] 2 false)
def t5:Sto:=cS (qgC t4 10 3 [] 2 xz)
theorem t3_item {w w':World} {e:Ending} (h:VFindQ t3 9 3 [] 2 (2,0,0) w e w'):∃ u,e=.returned u/\qeC w.heap.size (some x7) u w':=by
 obtain⟨h1,h2,h3⟩:=vR qjp;have hv:Qr [va,vb] 2=some vb:=rfl;rcases h.2 with ⟨_,hb⟩|⟨vs,u,⟨refs,nodes,hp,hc,_⟩,rfl,hm⟩
 ·exact(zj.not hb qjp).elim
 ·obtain⟨rfl,-,-⟩:=Qg.unique h1 h2 hp hc;rw[hv] at hm;simp only at hm;have e8:vb.root=8:=rfl;rw[e8,t3_find] at hm;exact⟨u,rfl,hm⟩
theorem qit {R:Ending->World->Prop} {a:Act} {W:World} {b:Nat} {x0 x1 x2 x3 x4 x5 x6 x7 v:Value} (h4:a.tmps[0]?.getD undef=.pointer (some ⟨b,0,none⟩)) (h5:a.tmps[1]?.getD undef=v) (hd:a.defers=[]) (aF:W.heap[b]?=some (.cells #[x0,x1,x2,x3,x4,x5,x6,x7] 32 (0,0))) (hR:R (.returned (.tuple #[.agg #[x0,x1,x2,x3,x4,x5,x6,x7],v])) W):bodyPost prog Tryz.f30 R .ret a W:=by
 refine bodyPost_ret (v:=.tuple #[.agg #[x0,x1,x2,x3,x4,x5,x6,x7],v]) ?_ hd hR;have k:=qa aF;simp[results,results30,go_sem,h4,h5,k]
set_option maxRecDepth 100000 in
theorem qis (w:World):Calls prog 30 #[] w (Za (fun u W=>∃ v,u=.tuple #[v,.bool true]/\Jf w.heap.size t2 0 11 2 [] v W) w):=by
 go_enter func30,ntmps30;go_wp2_with fail;generalize aA:World.alloc _ _=w1;have x1:Ext w w1:=by rw[<-aA];exact zN _ _
 have q1:w1.heap[w.heap.size]?=some (.cells (qF (.slice none 0 0) (.slice none 0 0) (.slice none 0 0) (.slice none 0 0) 0 0 0 (.slice none 0 0)) 32 (0,0)):=by rw[<-aA];exact zI _ _ _ zA2
 clear aA;refine(fnew_any w1).mono ?_;rintro e w2 ⟨u,rfl,hp,hB⟩;have x12:Ext w1 w2:=hB;have x2:Ext w w2:=x1.trans x12;have q2:=qb q1 x12;obtain⟨A1,c1,A2,c2,A3,c3,A4,c4,rfl,hS⟩:=hp.sto;obtain⟨l1,l2,l3,l4⟩:=YO;have HC:=zH (fun W (hx:Ext w2 W)=>qgv A1 256 c1 A2 1 c2 A3 256 c3 A4 256 c4 0 8 1 none 0 qO [] zD zD W (hS.ext hx) (Zw.nil_ _ _));clear hS hp l1 l2 l3 l4 hB x1 q1 x12;go_wp2_with fail;refine(HC.out w2 (Ext.refl _)).mono ?_;clear HC;intro e w3 hq;obtain⟨hB,u,rfl,hN⟩:=qgW t1_cre hq;have dO:Ext w2 w3:=hB;have x3:Ext w w3:=x2.trans dO;have q3:=qb q2 dO;obtain⟨A1',c1',A2',c2',A3',c3',A4',gy,A5,c5,rfl,hS,hI⟩:=hN.sto;clear hN hq hB q2 x2 dO;go_wp2_with fail;generalize hw4:World.alloc w3 _=w4;have x34:Ext w3 w4:=by rw[<-hw4];exact zN _ _
 have p4:w4.heap[w3.heap.size]?=some (.cells (qF (.slice A1' t1.bs.length c1') (.slice A2' t1.ws.length c2') (.slice A3' t1.now.length c3') (.slice A4' t1.last.length gy) 0 10 2 (.slice A5 0 c5)) 32 (0,0)):=by rw[<-hw4];exact zI _ _ _ zA2
 have q4:=qb q3 x34;have k4:=qa p4;have z4:w4.heap.size=w3.heap.size+1:=by rw[<-hw4];simp
 clear hw4 q3;go_wp2_with fail;generalize aV:World.alloc w4 _=w5;have dP:Ext w4 w5:=by rw[<-aV];exact zN _ _
 have wY:Ext w3 w5:=x34.trans dP;have aQ:Bys w5 w5.heap.size (.slice (some ⟨w3.heap.size+1,0,none⟩) 1 1) x7.val:=by rw[<-aV,<-z4];exact Bys.new w4 5 [7]
 clear aV x34 z4 k4;have HP:=vput_any A1' _ c1' A2' _ c2' A3' _ c3' A4' _ gy 0 10 2 A5 c5 t1 [] 1 x7 (by refine⟨⟨?_,?_⟩,⟨?_,?_⟩,⟨?_,?_⟩,⟨?_,?_⟩,?_⟩ <;> decide) (some ⟨w3.heap.size+1,0,none⟩) 1 (qgb t2_tree) w5 (hS.ext wY) (hI.ext_ wY) aQ;refine HP.mono ?_;clear HP;intro e w6 hq;obtain⟨hB,u,rfl,hN⟩:=vputC_ok t2_put hq;have q5:=qb q4 dP;have q6:=qb q5 hB;have x5:Ext w w5:=x3.trans wY;have x6:Ext w w6:=x5.trans hB;obtain⟨E1,m1,E2,m2,E3,m3,E4,m4,E5,m5,rfl,-⟩:=id hN;have kq:=qa q6;have fq:=qe q6;have zq:=(zG.1 q6).1;have z05:=x5.size;have z15:=(zG.1 q5).1;replace hN:=zH hN;clear hq hB q5 q4 p4 hS hI aQ x3 wY dP;go_wp2_with fail;refine qit (b:=w.heap.size) rfl rfl rfl (qb (jG q6 _ _ _ _ _ _ _ _) (zN _ _)) ⟨_,rfl,⟨_,rfl,Jf.keep hN.out z05 zA2 fun k h1 h2=>?_⟩,Below.alloc (zl x6 (zM _) _ _ _ _ _ _ _ _) (by have:=x6.size;simpa using this) _⟩;exact(zK _ _ _ (by simpa using h2)).trans (jz zO _ _ _ _ _ _ _ _)
theorem qeN {R:Ending->World->Prop} {a:Act} {W:World} {v:Value} (h0:a.tmps[0]?.getD undef=v) (hd:a.defers=[]) (hR:R (.returned v) W):bodyPost prog Tryz.f27 R .ret a W:=by refine bodyPost_ret (v:=v) ?_ hd hR;simp[results,results27,go_sem,h0]
set_option maxRecDepth 100000 in
theorem qeM (w:World):Calls prog 27 #[] w (Ret (.bool true) w):=by
 go_enter func27,ntmps27;go_wp2_with fail;refine(qis w).mono ?_;rintro e w1 ⟨u,rfl,⟨v,rfl,hN⟩,hB⟩;have x1:Ext w w1:=hB;obtain⟨A1,c1,A2,c2,A3,c3,A4,c4,A5,c5,rfl,hS,hI⟩:=hN.sto;have HS:=zH (fun W (hx:Ext w1 W)=>Gp A1 _ c1 A2 _ c2 A3 _ c3 A4 _ c4 0 11 2 A5 c5 t2 [] 1 true zD zD W (hS.ext hx) (hI.ext_ hx));clear hS hI hN hB;go_wp2_with fail;generalize bT:World.alloc w1 _=w2;have x12:Ext w1 w2:=by rw[<-bT];exact zN _ _
 clear bT;refine(HS.out w2 x12).mono ?_;clear HS;intro e w3 hq;obtain⟨hB,u,rfl,hN⟩:=snapC_ok t3_snap hq;have x3:Ext w w3:=(x1.trans x12).trans hB;obtain⟨B1,d1,B2,d2,B3,d3,B4,d4,B5,d5,rfl,hS,hI⟩:=hN.sto;have HF:=zH (fun W (hx:Ext w3 W)=>qkG B1 _ d1 B2 _ d2 B3 _ d3 B4 _ d4 0 9 3 B5 d5 t3 [] 2 2 0 0 W (hS.ext hx) (hI.ext_ hx));clear hS hI hN hB hq x1 x12;go_wp2_with fail;generalize hw4:World.alloc w3 _=w4;have x34:Ext w3 w4:=by rw[<-hw4];exact zN _ _
 clear hw4;refine(HF.out w4 x34).mono ?_;clear HF;intro e w5 hq;have x5:Ext w w5:=(x3.trans x34).trans hq.1;obtain⟨u,rfl,A,c,rfl,aQ,-⟩:=t3_item hq;clear hq x3 x34;have uD:bstr x7.val=⟨#[7]⟩:=rfl;have hv:∀ o,(convert 26 9 (.slice A 1 c)).run prog (w5.alloc o)=.ok (.string ⟨#[7]⟩) (w5.alloc o):=fun o=>by have h0:=Vc (P:=prog) (aQ.below (zN w5 o)) 26 9 5 underlying26 underlying5 underlying9;rw[uD] at h0;exact h0
 have hi:VC x7 A c=#[.int .u8 2,.int .u32 0,.int .u32 0,.int .i64 0,.slice A 1 c]:=rfl;rw[hi];clear aQ hi uD;go_wp2_with fail;exact qeN rfl rfl ⟨rfl,x5.trans (zN _ _)⟩
end Go.Proofs.YtpbniokljofedaaGreat
