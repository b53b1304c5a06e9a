/- Lemmas of the proof. -/
import Derived.Test.YtmeadnlmepcmbaaGreatZN22
set_option linter.all false
set_option maxHeartbeats 8000000
open Go.Proofs.Tryz
namespace Go.Proofs.YtmeadnlmepcmbaaGreat
open Go.RowKit
structure Ku (n:Nat) (A:Array Bool) (m:Nat):Prop where
 size:A.size=n
 at_:∀ j,j<n->A[j]?=some (m.testBit j)
 out:∀ j,n<=j->m.testBit j=false
theorem Ku.none_ (n:Nat):Ku n (Array.replicate n false) 0:=
 ⟨zA2,fun j hj=>by rw[Array.getElem?_replicate,if_pos hj,Nat.zero_testBit],fun j _=>Nat.zero_testBit j⟩
theorem Ku.getT {n m:Nat} {A:Array Bool} (h:Ku n A m) {j:Nat} (hj:j<n) (d:Bool):A.getD j d=m.testBit j:=by rw[Array.getD_eq_getD_getElem?,h.at_ j hj];rfl
theorem Ku.set {n m:Nat} {A:Array Bool} (h:Ku n A m) {k:Nat} (hk:k<n):Ku n (A.setIfInBounds k true) (m ||| 2 ^ k):=by
 refine⟨by simpa using h.size,fun j hj=>?_,fun j hj=>?_⟩
 ·rw[Nat.testBit_or,Nat.testBit_two_pow];by_cases e:k=j
  ·subst e;rw[Array.getElem?_setIfInBounds_self_of_lt (by rw[h.size];exact hk)];simp
  ·rw[Array.getElem?_setIfInBounds_ne e,h.at_ j hj];simp[e]
 ·rw[Nat.testBit_or,Nat.testBit_two_pow,h.out j hj];simp;omega
def freeN (ops:Array Oper) (oi:Oper) (k m:Nat):Nat->List Oper->Bool
 |_,[]=>true
 |j,oj :: r=>(j == k || m.testBit j || oj.after.any (fun e=>Region.binds .any e && e.on == k) || oi.apart ops oj) && freeN ops oi k m (j+1) r
theorem qbn {ops:Array Oper} {oi:Oper} {k m:Nat}:∀ (l:List Oper) (j:Nat),freeN ops oi k m j l=true->∀ i o,l[i]?=some o->(j+i == k || m.testBit (j+i) || o.after.any (fun e=>Region.binds .any e && e.on == k) || oi.apart ops o)=true
 | [],_,_,i,o,h=>by simp at h
 |x :: r,j,h,i,o,ho=>by
  simp only[freeN,Bool.and_eq_true] at h;rcases i with _|i
  ·simp only[List.getElem?_cons_zero,Option.some.injEq] at ho;subst ho;exact h.1
  ·have:=qbn r (j+1) h.2 i o (by simpa using ho)
   rwa [show j+1+i=j+(i+1) by omega] at this
def lexN (l:List Oper) (fin:Nat):List Nat->Nat->Bool
 | [],m=>m == fin
 |k :: r,m=>!m.testBit k && (match l[k]? with
  |some o=>o.after.toList.all (fun e=>!Region.binds .any e || m.testBit e.on) && freeN l.toArray o k m 0 l
  |none=>false) && lexN l fin r (m ||| 2 ^ k)
theorem qdy {l:List Oper} {L:Array Bool} {fin:Nat} (hL:Ku l.length L fin):∀ (ks:List Nat) (A:Array Bool) (m:Nat),Ku l.length A m->lexN l fin ks m=true->ZS l.toArray L ks A=true
 | [],A,m,hA,h=>by
  simp only[lexN,beq_iff_eq] at h;subst h;simp only[ZS,beq_iff_eq];refine Array.ext_getElem? fun j=>?_;by_cases hj:j<l.length
  ·rw[hA.at_ j hj,hL.at_ j hj]
  ·rw[Array.getElem?_eq_none (by rw[hA.size];omega),Array.getElem?_eq_none (by rw[hL.size];omega)]
 |k :: r,A,m,hA,h=>by
  simp only[lexN,Bool.and_eq_true,Bool.not_eq_true'] at h;obtain⟨⟨h0,h1⟩,h2⟩:=h;split at h1
  ·rename_i o ho;simp only[Bool.and_eq_true] at h1;obtain⟨h1,h3⟩:=h1;have hk:k<l.length:=(List.getElem?_eq_some_iff.1 ho).1;have hoA:l.toArray[k]?=some o:=by simpa using ho
   simp only[ZS,Bool.and_eq_true];refine⟨⟨?_,?_⟩,qdy hL r _ _ (hA.set hk) h2⟩
   ·have:k∈Region.ready .any l.toArray A:=mem_ready.2 ⟨by rw[hA.getT hk,h0],o,hoA,fun e he hb=>by
     have h4:=List.all_eq_true.1 h1 e (by simpa using he);rw[hb] at h4;simp only[Bool.not_true,Bool.false_or] at h4;by_cases hj:e.on<l.length
     ·rw[hA.getT hj,h4]
     ·rw[hA.out e.on zO] at h4;cases h4⟩
    simpa using this
   ·unfold Region.free;rw[hoA];simp only[List.all_eq_true,List.mem_range];intro j hj;have hj':j<l.length:=by simpa using hj
    have h4:=qbn l 0 h3 j l[j] (zL hj');rw[Nat.zero_add] at h4;rw[hA.getT hj',List.getElem?_toArray,zL hj'];simp only;simp only[Bool.or_eq_true] at h4 ⊢;rcases h4 with ((h4|h4)|h4)|h4
    ·exact .inl (.inl h4)
    ·exact .inl (.inr h4)
    ·exact .inr (.inl h4)
    ·exact .inr (.inr h4)
  ·cases h1
theorem Ku.listed (n m:Nat) (h:m<=n):Ku n (QO n m) (2 ^ m-1):=by
 refine⟨by simp[QO],fun j hj=>?_,fun j hj=>?_⟩
 ·unfold QO;rw[List.getElem?_toArray,List.getElem?_map,List.getElem?_range hj,Nat.testBit_two_pow_sub_one];rfl
 ·rw[Nat.testBit_two_pow_sub_one];simp;omega
theorem qjI {P:Program} {l:List Oper} {Q:Exit->Act->World->Prop} {fuel:Nat} {a:Act} {w W:World} (R:Rel) (H:Nat->Option Qe) (M:List Bool) (t:Nat) (hs:Region.noSelect l.toArray=true) (ht:qdZ l.toArray (QO l.length (l.length-t)) ((qw 0 l M).map (·.1))=true) (hc0:KW l.toArray (Array.replicate l.length false)=true) (hB:lexN l (2 ^ (l.length-t)-1) ((qw 0 l M).map (·.1)) 0=true) (hXB:UN l.toArray t (l.length-t) (QO l.length (l.length-t))=true) (hfu:fuel=(qw 0 l M).length+t) (htl:(l.drop (l.length-t)).length=t) (hH:∀ i h,H i=some h->∀ p,qJ R (h.φ p)) (hW:R.r w W) (h:∀ K:Act->qS->Prop,(∀ a' F',(∀ W,R.r w W->(∀ k,F' k W)->wpList P l.toArray Q (l.drop (l.length-t)) a' W)->K a' F')->jd R P l.toArray w H K (qw 0 l M) a (fun _ _=>True)):wpAny P .any l.toArray Q fuel (Array.replicate l.length false) a W:=
 Qa R H M t hs ht hc0 (qdy (Ku.listed _ _ (Nat.sub_le _ _)) _ _ _ (Ku.none_ _) hB) hXB hfu htl hH hW h
def newV (next:Int) (r:Nat):Vol:=⟨next,(r:Int),false,0⟩
def Gb (S:Sto) (root next:Int) (dead:List Int) (er:Int):Prop:=(er=8/\Zp S root next dead)\/∃ vs refs nodes,Qo S root next dead vs/\qY S (Qj root dead vs) refs nodes/\QB S refs /\
 ((er=9/\(16<=vs.length\/next=4294967295))\/Yh S=.error er\/∃ ra S1,Yh S=.ok (ra,S1)/\(qaW S1 root (next+1) dead (newV next ra) er\/∃ r S2 vs',GK S1 root (next+1) dead (newV next ra) r S2 vs'/\Zt S2=er))
def CreQ (S:Sto) (gen root next:Int) (dead:List Int) (w:World) (e:Ending) (w':World):Prop:=Below w.heap.size w w' /\
 ((∃ er,er≠0/\e=.returned (.tuple #[vE,.int .u32 0,.int .i64 er])/\Gb S root next dead er) \/
  ∃ vs refs nodes ra S1 r S2 vs' u,Qo S root next dead vs/\qY S (Qj root dead vs) refs nodes/\QB S refs/\vs.length<16/\next<4294967295/\Yh S=.ok (ra,S1)/\GK S1 root (next+1) dead (newV next ra) r S2 vs'/\Zt S2=0 /\
   e=.returned (.tuple #[u,.int .u32 next,.int .i64 0])/\jx w.heap.size S2 gen (r:Int) (next+1) dead u w')
theorem qiX {R:Ending->World->Prop} {tmps:Array Value} {W:World} {b:Nat} {x0 x1 x2 x3 x4 x5 x6 x7 y z:Value} (h4:tmps[2]?.getD undef=.pointer (some ⟨b+1,0,none⟩)) (h5:tmps[3]?.getD undef=.pointer (some ⟨b+1+1,0,none⟩)) (h6:tmps[4]?.getD undef=.pointer (some ⟨b+1+1+1,0,none⟩)) (r4:W.heap[b+1]?=some (.cells #[x0,x1,x2,x3,x4,x5,x6,x7] 32 (0,0))) (r5:W.heap[b+2]?=some (.cells #[y] 29 (0,0))) (r6:W.heap[b+3]?=some (.cells #[z] 37 (0,0))) (hR:R (.returned (.tuple #[.agg #[x0,x1,x2,x3,x4,x5,x6,x7],y,z])) W):Leaves prog Tryz.f48 tmps R [] .returning W:=by
 have k4:=qa r4;have k5:=qa r5;have k6:=qa r6;refine⟨.tuple #[.agg #[x0,x1,x2,x3,x4,x5,x6,x7],y,z],?_,hR⟩;simp[results,results48,go_sem,h4,h5,h6,k4,k5,k6]
theorem qfR {R:Ending->World->Prop} {tmps:Array Value} {W:World} {b:Nat} (A1 n1 c1 A2 n2 c2 A3 n3 c3 A4 n4 c4) (gen root next:Int) (v5:Value) (y e:Int) (S:Sto) (h4:tmps[2]?.getD undef=.pointer (some ⟨b+1,0,none⟩)) (h5:tmps[3]?.getD undef=.pointer (some ⟨b+1+1,0,none⟩)) (h6:tmps[4]?.getD undef=.pointer (some ⟨b+1+1+1,0,none⟩)) (r4:W.heap[b+1]?=some (.cells (qC (.slice A1 n1 c1) (.slice A2 n2 c2) (.slice A3 n3 c3) (.slice A4 n4 c4) gen root next v5) 32 (0,0))) (r5:W.heap[b+2]?=some (.cells #[.int .u32 y] 29 (0,0))) (r6:W.heap[b+3]?=some (.cells #[.int .i64 e] 37 (0,0))) (h:e=0->qZ W W.heap.size (.slice A1 n1 c1) (.slice A2 n2 c2) (.slice A3 n3 c3) (.slice A4 n4 c4) S) (hR1:e=0->Zt S=0->∀ W',vX (b+1) (b+3) (b+2) W W'->R (.returned (.tuple #[.agg (qC (.slice A1 n1 c1) (.slice A2 n2 c2) (.slice A3 n3 c3) (.slice A4 n4 c4) gen root next v5),.int .u32 y,.int .i64 0])) W') (hR2:∀ e' W',e'≠0->((e=0/\e'=Zt S)\/(e≠0/\e'=e))->vX (b+1) (b+3) (b+2) W W'->R (.returned (.tuple #[vE,.int .u32 0,.int .i64 e'])) W'):bodyPostD prog Tryz.f48 R .ret { tmps:=tmps,defers:=[{ target:=.fn (.func 101) #[.pointer (some ⟨b+1,0,none⟩),.pointer (some ⟨b+1+1+1,0,none⟩),.pointer (some ⟨b+1+1,0,none⟩)],args:=#[] }] } W:=by
 refine leaves_cons (f:=101) (args:=#[.pointer (some ⟨b+1,0,none⟩),.pointer (some ⟨b+1+1+1,0,none⟩),.pointer (some ⟨b+1+1,0,none⟩)]) zA2 (by simp[go_sem]) ?_;refine(cre1_any (b+1) (b+3) (b+2) zO zO zO A1 n1 c1 A2 n2 c2 A3 n3 c3 A4 n4 c4 gen root next v5 y e S .returning W r4 r6 r5 h).mono ?_;rintro x u' w' ⟨rfl,rfl,hT,⟨h0,hE,g4,g6,g5⟩|⟨e',h0,hE,g4,g6,g5⟩⟩
 ·exact qiX h4 h5 h6 g4 g5 g6 (hR1 h0 hE w' hT)
 ·exact qiX h4 h5 h6 g4 g5 g6 (hR2 e' w' h0 hE hT)
theorem Ub {tmps:Array Value} {w W:World} {S:Sto} {gen root next:Int} {dead:List Int} {er:Int} {z0:Int} (hne:er≠0) (hc:Gb S root next dead er) (h4:tmps[2]?.getD undef=.pointer (some ⟨w.heap.size+1,0,none⟩)) (h5:tmps[3]?.getD undef=.pointer (some ⟨w.heap.size+1+1,0,none⟩)) (h6:tmps[4]?.getD undef=.pointer (some ⟨w.heap.size+1+1+1,0,none⟩)) (r4:W.heap[w.heap.size+1]?=some (.cells YC 32 (0,0))) (r5:W.heap[w.heap.size+2]?=some (.cells #[.int .u32 z0] 29 (0,0))) (r6:W.heap[w.heap.size+3]?=some (.cells #[.int .i64 er] 37 (0,0))) (hB:Ext w W):bodyPostD prog Tryz.f48 (CreQ S gen root next dead w) .ret { tmps:=tmps,defers:=[{ target:=.fn (.func 101) #[.pointer (some ⟨w.heap.size+1,0,none⟩),.pointer (some ⟨w.heap.size+1+1+1,0,none⟩),.pointer (some ⟨w.heap.size+1+1,0,none⟩)],args:=#[] }] } W:=by
 refine qfR none 0 0 none 0 0 none 0 0 none 0 0 0 0 0 (.slice none 0 0) z0 er S h4 h5 h6 r4 r5 r6 (fun h=>absurd h hne) (fun h=>absurd h hne) (fun e' W' h0 hE hT=>?_);obtain rfl:e'=er:=by
  rcases hE with ⟨h,_⟩|⟨_,h⟩
  ·exact absurd h hne
  ·exact h
 have z:=(zG.1 r4).1;exact⟨hT.below hB zO zO zO zO,.inl ⟨e',hne,rfl,hc⟩⟩
theorem qbj {W:World} {b:Nat} {v p q0:Value} {ty1 ty2 ty3:TypeId} {cs:Array Value} (r4:W.heap[b+1]?=some (.cells cs ty1 (0,0))) (r5:W.heap[b+2]?=some (.cells #[p] ty2 (0,0))) (r6:W.heap[b+3]?=some (.cells #[q0] ty3 (0,0))) {C:World} (hC:W.setCell ⟨b+1+1+1,0,none⟩ v=C):C.heap[b+1]?=some (.cells cs ty1 (0,0))/\C.heap[b+2]?=some (.cells #[p] ty2 (0,0))/\C.heap[b+3]?=some (.cells #[v] ty3 (0,0))/\(∀ {w0:World},w0.heap.size<=b->Ext w0 W->Ext w0 C)/\C.heap.size=W.heap.size/\∀ k,k≠b+3->C.heap[k]?=W.heap[k]?:=by
 subst hC;have hs:=fun (k:Nat) (hk:k≠b+3)=>zJ W ⟨b+1+1+1,0,none⟩ v k hk;exact⟨(hs _ zO).trans r4,(hs _ zO).trans r5,qi r6 0 v,fun hb hx=>Below.setCell hx (p:=⟨b+1+1+1,0,none⟩) zA1 _,zA2,hs⟩
theorem newE_err {S:Sto} {er:Int} (h:Yh S=.error er):er≠0:=by
 unfold Yh at h;split at h
 ·exact XD h
 ·cases h;decide
theorem cre_mid {W:World} {b vb:Nat} {u0 u1 u2 u3 u4 u5 u6 u7 y0 y1 y2 y3 p q0 x0 x1 x2 x3 z ev nx:Value} {tyP tyV ty1 ty2 ty3:TypeId} {cs:Array Value} (ra:W.heap[b]?=some (.cells #[u0,u1,u2,u3,u4,u5,u6,u7] tyP (0,0))) (rv:W.heap[vb]?=some (.cells #[y0,y1,y2,y3] tyV (0,0))) (r4:W.heap[b+1]?=some (.cells cs ty1 (0,0))) (r5:W.heap[b+2]?=some (.cells #[p] ty2 (0,0))) (r6:W.heap[b+3]?=some (.cells #[q0] ty3 (0,0))) (hvb:b+3<vb) {C:World} (hC:((((((W.setCell ⟨b,0,none⟩ x0).setCell ⟨b,1,none⟩ x1).setCell ⟨b,2,none⟩ x2).setCell ⟨b,3,none⟩ x3).setCell ⟨vb,1,none⟩ z).setCell ⟨b+1+1+1,0,none⟩ ev).setCell ⟨b,6,none⟩ nx=C):C.heap[b]?=some (.cells #[x0,x1,x2,x3,u4,u5,nx,u7] tyP (0,0))/\C.heap[vb]?=some (.cells #[y0,z,y2,y3] tyV (0,0))/\C.heap[b+1]?=some (.cells cs ty1 (0,0))/\C.heap[b+2]?=some (.cells #[p] ty2 (0,0))/\C.heap[b+3]?=some (.cells #[ev] ty3 (0,0)) /\
   C.heap.size=W.heap.size/\(∀ {w0:World},w0.heap.size<=b->Ext w0 W->Ext w0 C)/\∀ k,k≠b->k≠vb->k≠b+3->C.heap[k]?=W.heap[k]?:=by
 subst hC;have hs:=fun (A:World) (b j:Nat) (v:Value) (k:Nat) (hk:k≠b)=>zJ A ⟨b,j,none⟩ v k hk;have r1:=qi (qi (qi (qi ra 0 x0) 1 x1) 2 x2) 3 x3;have o1:∀ k,k≠b->((((W.setCell ⟨b,0,none⟩ x0).setCell ⟨b,1,none⟩ x1).setCell ⟨b,2,none⟩ x2).setCell ⟨b,3,none⟩ x3).heap[k]?=W.heap[k]?:=fun k hk=>by rw[hs _ _ _ _ _ hk,hs _ _ _ _ _ hk,hs _ _ _ _ _ hk,hs _ _ _ _ _ hk]
 have hJF:∀ k,k≠b->k≠vb->k≠b+3->(((((((W.setCell ⟨b,0,none⟩ x0).setCell ⟨b,1,none⟩ x1).setCell ⟨b,2,none⟩ x2).setCell ⟨b,3,none⟩ x3).setCell ⟨vb,1,none⟩ z).setCell ⟨b+1+1+1,0,none⟩ ev).setCell ⟨b,6,none⟩ nx).heap[k]?=W.heap[k]?:=fun k h1 h2 h3=>by rw[hs _ _ _ _ _ h1,hs _ _ _ _ _ zO,hs _ _ _ _ _ h2,o1 k h1]
 refine⟨?_,?_,(hJF _ zO zO zO).trans r4,(hJF _ zO zO zO).trans r5,?_,zA2,fun hb hx=>?_,hJF⟩
 ·exact qi (t:=tyP) (cs:=#[x0,x1,x2,x3,u4,u5,u6,u7]) (by rw[hs _ _ _ _ _ zO,hs _ _ _ _ _ zO];exact r1) 6 nx
 ·rw[hs _ _ _ _ _ zO,hs _ _ _ _ _ zO];exact qi (t:=tyV) (cs:=#[y0,y1,y2,y3]) ((o1 vb zO).trans rv) 1 z
 ·rw[hs _ _ _ _ _ zO];exact qi (t:=ty3) (cs:=#[q0]) (by rw[hs _ _ _ _ _ zO,o1 _ zO];exact r6) 0 ev
 ·exact Below.setCell (Below.setCell (Below.setCell (zm hx (b:=b) hb _ _ _ _) (p:=⟨vb,1,none⟩) zA1 _) (p:=⟨b+1+1+1,0,none⟩) zA1 _) (p:=⟨b,6,none⟩) hb _
set_option maxRecDepth 100000 in
theorem qhe (A1 n1 c1 A2 n2 c2 A3 n3 c3 A4 n4 c4) (gen root next:Int) (A5 c5) (S:Sto) (dead:List Int) (hn0:0<=next) (hn1:next<4294967296) (w:World) (h:qZ w w.heap.size (.slice A1 n1 c1) (.slice A2 n2 c2) (.slice A3 n3 c3) (.slice A4 n4 c4) S) (hd:Zw w w.heap.size (.slice A5 dead.length c5) dead):Calls prog 48 #[.agg (qC (.slice A1 n1 c1) (.slice A2 n2 c2) (.slice A3 n3 c3) (.slice A4 n4 c4) gen root next (.slice A5 dead.length c5))] w (CreQ S gen root next dead w):=by
 have HV:=zH (fun W (hx:Ext w W)=>qjV A1 n1 c1 A2 n2 c2 A3 n3 c3 A4 n4 c4 gen root next A5 c5 S dead W (h.ext hx) (hd.ext_ hx));have HN:=zH (fun W (hx:Ext w W)=>pnew_any A1 n1 c1 A2 n2 c2 A3 n3 c3 A4 n4 c4 S W (h.ext hx));have hwn0:Hid (next<4294967295->IntKind.u32.wrap (next+1)=next+1):=zH fun h1=>by simp only[IntKind.wrap,IntKind.bits,IntKind.signed,Bool.false_and,Bool.false_eq_true,if_false];omega
 have wPX:Hid (∀ ra:Nat,8<=ra->ra<256->TT (newV next ra)):=zH fun ra h1 h2=>by refine⟨⟨?_,?_⟩,⟨?_,?_⟩,⟨?_,?_⟩⟩ <;> simp only[newV] <;> omega
 replace h:=zH h;replace hd:=zH hd;go_enter_defers func48,ntmps48;go_wp2_with fail;generalize hw1:(World.alloc (World.alloc _ _) _)=w1;have x1:Ext w w1:=by rw[<-hw1];exact(((zN _ _).trans (zN _ _)).trans (zN _ _)).trans (zN _ _)
 have s1:w1.heap.size=w.heap.size+4:=by rw[<-hw1];simp
 have ra1:w1.heap[w.heap.size]?=some (.cells (qC (.slice A1 n1 c1) (.slice A2 n2 c2) (.slice A3 n3 c3) (.slice A4 n4 c4) gen root next (.slice A5 dead.length c5)) 32 (0,0)):=by rw[<-hw1];exact(zK _ _ _ zA3).trans ((zK _ _ _ zA3).trans ((zK _ _ _ zA3).trans (zI _ _ _ rfl)))
 have rb1:w1.heap[w.heap.size+1]?=some (.cells YC 32 (0,0)):=by rw[<-hw1];exact(zK _ _ _ zA3).trans ((zK _ _ _ zA3).trans (zI _ _ _ zA2))
 have rc1:w1.heap[w.heap.size+2]?=some (.cells #[.int .u32 0] 29 (0,0)):=by rw[<-hw1];exact(zK _ _ _ zA3).trans (zI _ _ _ zA2)
 have rd1:w1.heap[w.heap.size+3]?=some (.cells #[.int .i64 0] 37 (0,0)):=by rw[<-hw1];exact zI _ _ _ zA2
 clear hw1;refine(HV.out w1 x1).mono ?_;clear HV;rintro e w2 ⟨hB,hQ⟩;have x2:Ext w w2:=Ext.trans x1 hB;have z2:w.heap.size+3<w2.heap.size:=by have:=Below.size hB;omega
 have ra2:=qb ra1 hB;have rb2:=qb rb1 hB;have rc2:=qb rc1 hB;have rd2:=qb rd1 hB;clear hB ra1 rb1 rc1 rd1 x1;have ka2:=qa ra2;have kb2:=qa rb2;have kc2:=qa rc2;have kd2:=qa rd2;have fb2:=qd rb2;have fc2:=qd rc2;have fd2:=qd rd2;have zd2:w.heap.size+1+1+1<w2.heap.size:=zO;have zd0:w.heap.size<w2.heap.size:=zO;rcases hQ with ⟨rfl,hno⟩|⟨vs,refs,nodes,cb,ca,vv,lo,rfl,hlo,hT⟩
 ·have hce:Hid (Gb S root next dead 8):=zH (.inl ⟨rfl,hno⟩);clear hno HN;go_wp2_with fail;obtain⟨rb3,rc3,rd3,xe,-,-⟩:=qbj (b:=w.heap.size) (v:=.int .i64 8) rb2 rc2 rd2 rfl;obtain⟨g4,g5,g6,hbl,-,-⟩:=VS (b:=w.heap.size) rb3 rc3 rd3 rfl;exact Ub zD hce.out rfl rfl rfl g4 g5 g6 (hbl (B:=w.heap.size) zO (xe (zM _) x2))
 ·have hp:=zH hT.pool;have hc:=zH hT.cnt;have he:=zH hT.enough;obtain⟨AV,cV,rfl,-,-⟩:=qB hT.own;clear hT hlo;by_cases hl:16<=vs.length
  ·have hce:Hid (Gb S root next dead 9):=zH (.inr ⟨vs,refs,nodes,hp.out,hc.out,he.out,.inl ⟨rfl,.inl hl⟩⟩);have d1:decide ((vs.length:Int)≥16)=true:=decide_eq_true zO;replace hl:=zH hl;clear HN;go_wp2_with fail;obtain⟨rb3,rc3,rd3,xe,-,-⟩:=qbj (b:=w.heap.size) (v:=.int .i64 0) rb2 rc2 rd2 rfl;obtain⟨g4,g5,g6,hbl,-,-⟩:=VS (b:=w.heap.size) rb3 rc3 rd3 rfl;exact Ub zD hce.out rfl rfl rfl g4 g5 g6 (hbl (B:=w.heap.size) zO (xe (zM _) x2))
  ·have d1:decide ((vs.length:Int)≥16)=false:=decide_eq_false zO;replace hl:=zH hl;by_cases hm:next=4294967295
   ·have hce:Hid (Gb S root next dead 9):=zH (.inr ⟨vs,refs,nodes,hp.out,hc.out,he.out,.inl ⟨rfl,.inr hm⟩⟩);have d3:(next == 4294967295)=true:=by rw[beq_iff_eq];exact hm
    replace hm:=zH hm;clear HN;go_wp2_with fail;obtain⟨rb3,rc3,rd3,xe,-,-⟩:=qbj (b:=w.heap.size) (v:=.int .i64 0) rb2 rc2 rd2 rfl;obtain⟨g4,g5,g6,hbl,-,-⟩:=VS (b:=w.heap.size) rb3 rc3 rd3 rfl;exact Ub zD hce.out rfl rfl rfl g4 g5 g6 (hbl (B:=w.heap.size) zO (xe (zM _) x2))
   ·have d3:(next == 4294967295)=false:=by rw[beq_eq_false_iff_ne];exact hm
    replace hm:=zH hm;have wSX:vs.length<16:=by have:=hl.out;omega
    have hnx:next<4294967295:=by have:=hm.out;omega
    replace wSX:=zH wSX;replace hnx:=zH hnx;go_wp2_with fail;generalize hw3:World.alloc (World.setCell w2 _ _) _=w3;have rv3:w3.heap[w2.heap.size]?=some (.cells #[.int .u32 next,.int .i64 0,.bool false,.int .u32 0] 36 (0,0)):=by rw[<-hw3];exact zI _ _ _ zA2
    obtain⟨rb3,rc3,rd3,xe,ze,oe⟩:=qbj (b:=w.heap.size) (v:=.int .i64 0) rb2 rc2 rd2 rfl;have x3:Ext w w3:=by rw[<-hw3];exact(xe (zM _) x2).trans (zN _ _)
    have ha3:=zN (w2.setCell ⟨w.heap.size+1+1+1,0,none⟩ (.int .i64 0)) (.cells #[.int .u32 next,.int .i64 0,.bool false,.int .u32 0] 36);rw[hw3] at ha3;replace rb3:=qb rb3 ha3;replace rc3:=qb rc3 ha3;replace rd3:=qb rd3 ha3;have ra3:=qb ((oe w.heap.size zO).trans ra2) ha3;clear hw3 xe ze oe ha3 rb2 rc2 rd2 ra2 ka2 kb2 kc2 kd2 fb2 fc2 fd2;refine(HN.out w3 x3).mono ?_;clear HN;rintro e w4 ⟨u,rfl,hM,hB⟩;have x4:Ext w w4:=x3.trans hB;have ra4:=qb ra3 hB;have rb4:=qb rb3 hB;have rc4:=qb rc3 hB;have rd4:=qb rd3 hB;have rv4:=qb rv3 hB;have ka4:=qa ra4;have kb4:=qa rb4;have kc4:=qa rc4;have kd4:=qa rd4;have kv4:=qa rv4;have fa4:=qd ra4;have fb4:=qd rb4;have fc4:=qd rc4;have fd4:=qd rd4;have fv4:=qd rv4;have zv3:=(zG.1 rv3).1;have zv4:=(zG.1 rv4).1;clear hB ra3 rb3 rc3 rd3 rv3;rcases hq:Yh S with er|⟨ra,S1⟩
    ·rw[hq] at hM;obtain rfl:=hM;have hne:=newE_err hq;have hce:Hid (Gb S root next dead er):=zH (.inr ⟨vs,refs,nodes,hp.out,hc.out,he.out,.inr (.inl hq)⟩);have hnb:(er != 0)=true:=by rw[bne_iff_ne];exact hne
     replace hne:=zH hne;replace hq:=zH hq;go_wp2_with fail;have hs5:=(((((Sets.refl (fun k=>k=w.heap.size\/k=w2.heap.size) w4).set (b:=w.heap.size) 0 (.inl rfl) (.slice none 0 0)).set (b:=w.heap.size) 1 (.inl rfl) (.slice none 0 0)).set (b:=w.heap.size) 2 (.inl rfl) (.slice none 0 0)).set (b:=w.heap.size) 3 (.inl rfl) (.slice none 0 0)).set (b:=w2.heap.size) 1 (.inr rfl) (.int .i64 0);obtain⟨rb5,rc5,rd5,xe,-,-⟩:=qbj (b:=w.heap.size) (v:=.int .i64 er) (hs5.row rb4 zO) (hs5.row rc4 zO) (hs5.row rd4 zO) rfl;obtain⟨g4,g5,g6,hbl,-,-⟩:=VS (b:=w.heap.size) rb5 rc5 rd5 rfl;exact Ub hne.out hce.out rfl rfl rfl g4 g5 g6 (hbl (B:=w.heap.size) zO (xe (zM _) (hs5.below x4 zO)))
    ·rw[hq] at hM;obtain⟨v,rfl,hT⟩:=hM;obtain⟨BB,WW,gg,B3,d3,B4,d4,rfl,-⟩:=id hT;have hns:=zH (KG (hT.newSto (QS (Uw hq).2.2.1)));have hwn:=hwn0.out hnx.out;have htr:=zH (new_tree hq);have hr8:=(Uw hq).2.2.2;have hq':=zH hq;clear hT hq;go_wp2_with fail;generalize hw5:World.setCell (World.setCell (World.setCell (World.setCell (World.setCell (World.setCell (World.setCell w4 _ _) _ _) _ _) _ _) _ _) _ _) _ _=w5;obtain⟨ra5,rv5,rb5,rc5,rd5,z5,xe5,o5⟩:=cre_mid (b:=w.heap.size) (vb:=w2.heap.size) ra4 rv4 rb4 rc4 rd4 zO hw5;have x5:=xe5 (zM _) x4;have wLM:=(hns.out w5 (Vf fun k h1 h2=>o5 k zO zO zO)).more (show w4.heap.size<=w5.heap.size by omega);have HS:=zH (qfZ (some ⟨BB,0,none⟩) S1.bs.length S1.bs.length (some ⟨WW,0,none⟩) S1.ws.length (S1.ws.length+1) B3 S1.now.length d3 B4 S1.last.length d4 gen root (next+1) A5 c5 S1 dead (newV next ra) (wPX.out ra hr8.1 hr8.2) (fun _ _ _=>htr.out) w5 wLM (hd.out.ext_ x5));clear hw5 xe5 ra4 rb4 rc4 rd4 rv4 ka4 kb4 kc4 kd4 kv4 fa4 fb4 fc4 fd4 fv4 wLM hns htr;refine HS.out.mono ?_;clear HS;intro e w6 hQS;obtain⟨hB6,hS6⟩:=hQS.split;have x6:Ext w w6:=x5.trans hB6;have rb6:=qb rb5 hB6;have rc6:=qb rc5 hB6;have rd6:=qb rd5 hB6;have rv6:=qb rv5 hB6;obtain⟨E1,m1,e1,E2,m2,e2,E3,m3,e3,E4,m4,e4,g9,t9,n9,E5,m5,e5,er,rfl,hS7⟩:∃ E1 m1 e1 E2 m2 e2 E3 m3 e3 E4 m4 e4 g9 t9 n9 E5 m5 e5 er,e=.returned (.tuple #[.agg (qC (.slice E1 m1 e1) (.slice E2 m2 e2) (.slice E3 m3 e3) (.slice E4 m4 e4) g9 t9 n9 (.slice E5 m5 e5)),.int .i64 er]) /\
       ((er≠0/\qC (.slice E1 m1 e1) (.slice E2 m2 e2) (.slice E3 m3 e3) (.slice E4 m4 e4) g9 t9 n9 (.slice E5 m5 e5)=YC/\qaW S1 root (next+1) dead (newV next ra) er)\/(er=0/\∃ r S2 vs',GK S1 root (next+1) dead (newV next ra) r S2 vs'/\jx w5.heap.size S2 gen (r:Int) (next+1) dead (.agg (qC (.slice E1 m1 e1) (.slice E2 m2 e2) (.slice E3 m3 e3) (.slice E4 m4 e4) g9 t9 n9 (.slice E5 m5 e5))) w6)):=by
      rcases hS6 with ⟨er,h0,rfl,hE⟩|⟨r,S2,vs',u,hO,rfl,hN⟩
      ·exact⟨none,0,0,none,0,0,none,0,0,none,0,0,0,0,0,none,0,0,er,rfl,.inl ⟨h0,rfl,hE⟩⟩
      ·obtain⟨E1,e1,E2,e2,E3,e3,E4,e4,E5,e5,rfl,-⟩:=id hN;exact⟨E1,_,e1,E2,_,e2,E3,_,e3,E4,_,e4,gen,r,next+1,E5,_,e5,0,rfl,.inr ⟨rfl,r,S2,vs',hO,hN⟩⟩
     replace hS7:=zH hS7;have kb6:=qa rb6;have fb6:=qd rb6;have kd6:=qa rd6;have fd6:=qd rd6;clear hQS hS6 ra5 rb5 rc5 rd5 rv5;go_upto_region 13 with fail;generalize hw7:World.setCell (World.setCell (World.setCell (World.setCell (World.setCell (World.setCell (World.setCell (World.setCell (World.setCell w6 _ _) _ _) _ _) _ _) _ _) _ _) _ _) _ _) _ _=w7;have x7:Ext w w7:=by rw[<-hw7];exact Below.setCell (ZV x6 (b:=w.heap.size+1) zO _ _ _ _ _ _ _ _) (p:=⟨w.heap.size+1+1+1,0,none⟩) zA1 _
     have z7:w7.heap.size=w6.heap.size:=by rw[<-hw7];simp
     have hs:=fun (A:World) (b j:Nat) (v:Value) (k:Nat) (hk:k≠b)=>zJ A ⟨b,j,none⟩ v k hk;have rb7:w7.heap[w.heap.size+1]?=some (.cells (qC (.slice E1 m1 e1) (.slice E2 m2 e2) (.slice E3 m3 e3) (.slice E4 m4 e4) g9 t9 n9 (.slice E5 m5 e5)) 32 (0,0)):=by rw[<-hw7,hs _ _ _ _ _ zO];exact vA rb6 _ _ _ _ _ _ _ _
     have o7:∀ k,k≠w.heap.size+1->k≠w.heap.size+3->w7.heap[k]?=w6.heap[k]?:=fun k h1 h2=>by rw[<-hw7,hs _ _ _ _ _ zO,jI h1]
     have rc7:=(o7 (w.heap.size+2) zO zO).trans rc6;have rv7:=(o7 w2.heap.size zO zO).trans rv6;have rd7:w7.heap[w.heap.size+3]?=some (.cells #[.int .i64 er] 37 (0,0)):=by rw[<-hw7];exact qi (t:=37) (cs:=#[.int .i64 0]) (by rw[jI zO];exact rd6) 0 _
     clear hw7 kb6 fb6 kd6 fd6 rb6 rc6 rd6 rv6 hs;have gO:∀ W,qm.r w7 W->∀ i,W.cell? ⟨w.heap.size+1,i,none⟩=(qC (.slice E1 m1 e1) (.slice E2 m2 e2) (.slice E3 m3 e3) (.slice E4 m4 e4) g9 t9 n9 (.slice E5 m5 e5))[i]?:=fun W h=>qa (qb rb7 h);have gV:∀ W,qm.r w7 W->∀ i,W.cell? ⟨w2.heap.size,i,none⟩=#[.int .u32 next,.int .i64 (ra:Int),.bool false,.int .u32 0][i]?:=fun W h=>qa (qb rv7 h);have gE:∀ W,qm.r w7 W->∀ i,W.cell? ⟨w.heap.size+1+1+1,i,none⟩=#[.int .i64 er][i]?:=fun W h=>qa (qb rd7 h);refine qp zQ ?_;refine qjI (w:=w7) qm (qM [(4,Jo)]) (List.replicate 5 true) 2 zQ zQ zQ zQ zQ zQ zQ ?st (Rel.drew _ _) ?walk
     case st=>exact qj (by simp only[List.forall_mem_cons];exact⟨Jg,fun _ h=>by cases h⟩)
     case walk =>
      intro K hK;dsimp only[qw,List.replicate];refine zD1 ?_;refine qz Jo zA0 zA0 (fun W hW _=>?_) (fun (p:Unit)=>?_)
      ·have hW:Ext w7 W:=hW;have r8:=qb rb7 hW;have k8:=qa r8;have f8:=qd r8;refine Vc ?_ (same8 r8);clear gO gV gE;go_simp
      refine zD1 ?_;refine qA (hK _ _ fun W hW hF=>?_);clear hF hK gO gV gE;have hW:Ext w7 W:=hW;refine zB7 ?_;have x8:Ext w W:=x7.trans hW;have z78:=hW.size;have rb8:=qb rb7 hW;have rc8:=qb rc7 hW;have rd8:=qb rd7 hW;have kc8:=qa rc8;have fc8:=qd rc8;have kd8:=qa rd8;have fd8:=qd rd8;have zd8:w.heap.size+1+1+1<W.heap.size:=(zG.1 rd8).1;have o8:∀ k,k<w6.heap.size->k≠w.heap.size+1->k≠w.heap.size+3->W.heap[k]?=w6.heap[k]?:=fun k h0 h1 h2=>(Below.block hW k zO).trans (o7 k h1 h2);replace o8:=zH o8;clear hW o7 rb7 rc7 rd7 rv7;go_wp2;refine Qw ?_;go_wp2_with fail;generalize hwf:World.setCell (World.setCell W _ _) _ _=Wf;obtain⟨rcf,rdf,hbf,zf,hof⟩:=US (b:=w.heap.size) rc8 rd8 hwf;have rbf:=(hof (w.heap.size+1) zO zO).trans rb8;have yf:=hbf (B:=w.heap.size) zO x8;clear hwf;have hk6:∀ k,w5.heap.size<=k->k<w6.heap.size->Wf.heap[k]?=w6.heap[k]?:=fun k h1 h2=>(hof k zO zO).trans (o8.out k h2 zO zO);have zWf:Wf.heap.size=W.heap.size:=zf;rcases hS7.out with ⟨h0,hz,hE⟩|⟨rfl,r,S2,vs',hO,hN⟩
      ·rw[hz] at rbf;exact Ub h0 (.inr ⟨vs,refs,nodes,hp.out,hc.out,he.out,.inr (.inr ⟨ra,S1,hq'.out,.inl hE⟩)⟩) rfl rfl rfl rbf rcf rdf yf
      ·have hN2:jx w.heap.size S2 gen (r:Int) (next+1) dead (.agg (qC (.slice E1 m1 e1) (.slice E2 m2 e2) (.slice E3 m3 e3) (.slice E4 m4 e4) g9 t9 n9 (.slice E5 m5 e5))) Wf:=hN.keep x5.size zO hk6;obtain⟨F1,f1,F2,f2,F3,f3,F4,f4,F5,f5,ee,hst,hin⟩:=hN2.sto;simp only[qC,Value.agg.injEq,Array.mk.injEq,List.cons.injEq,Value.slice.injEq,Value.int.injEq,true_and,and_true] at ee;obtain⟨⟨rfl,rfl,rfl⟩,⟨rfl,rfl,rfl⟩,⟨rfl,rfl,rfl⟩,⟨rfl,rfl,rfl⟩,rfl,rfl,rfl,rfl,rfl,rfl⟩:=ee;refine qfR _ _ _ _ _ _ _ _ _ _ _ _ _ _ _ _ _ 0 S2 rfl rfl rfl rbf rcf rdf (fun _=>hst) (fun _ hE W' hT=>?_) (fun e' W' h0 hE hT=>?_)
       ·exact⟨hT.below yf zO zO zO zO,.inr ⟨vs,refs,nodes,ra,S1,r,S2,vs',_,hp.out,hc.out,he.out,wSX.out,hnx.out,hq'.out,hO,hE,rfl,hN.keep x5.size (by have:=hT.size;omega) fun k h1 h2=>(hT.same k zO zO zO zO).trans (hk6 k h1 h2)⟩⟩
       ·refine⟨hT.below yf zO zO zO zO,.inl ⟨e',h0,rfl,.inr ⟨vs,refs,nodes,hp.out,hc.out,he.out,.inr (.inr ⟨ra,S1,hq'.out,.inr ⟨r,S2,vs',hO,?_⟩⟩)⟩⟩⟩;rcases hE with ⟨_,h⟩|⟨h,_⟩
        ·exact h.symm
        ·exact absurd rfl h
def okOf {α:Type} (q:Except Int (Nat×α)) (d:α):α:=match q with
 | .ok (_,x)=>x
 | .error _=>d
def st1:Sto:=okOf (Yh qT) qT
def vol1:Vol:=⟨1,9,false,0⟩
def st2:Sto:=okOf (setE st1 8 vol1) st1
theorem Zp.not {S:Sto} {root next:Int} {dead:List Int} {vs:List Vol} {met refs:List Nat} (hb:Zp S root next dead) (h:vp S root next dead=some (vs,met,refs)):False:=by obtain⟨h1,h2,h3⟩:=JE h;obtain⟨refs',nodes',hc,hn⟩:=hb vs h1;obtain⟨_,e⟩:=jX.same hc.mkd h2.mkd;subst e;exact hn h3
theorem Zw.nil_ (w:World) (B:Nat):Zw w B (.slice none 0 0) []:=⟨none,0,rfl,zM _,by simp[maxLen],Rd.none_⟩
section
variable {S:Sto} {gen root next:Int} {dead:List Int}
theorem Zp.notC {vs:List Vol} {met refs:List Nat} (h:vp S root next dead=some (vs,met,refs)) (hb:Zp S root next dead):False:=Zp.not hb h
def setC (S:Sto) (root next:Int) (dead:List Int) (v:Vol):Option (Nat×Sto×List Vol):=match vp S root next dead with
 |none=>none
 |some (vs,_,refs)=>if jz S next v vs (fun b=>refs.count b)=0 then match setE S root v with
   | .error _=>none
   | .ok (r,S')=>match vp S' (r:Int) next dead with
    |none=>none
    |some (vs',_,_)=>some (r,S',vs')
  else none
theorem qjv {v:Vol} {r:Nat} {S':Sto} {vs':List Vol} (h:setC S root next dead v=some (r,S',vs')):∃ vs met refs met' refs',vp S root next dead=some (vs,met,refs)/\jz S next v vs (fun b=>refs.count b)=0/\setE S root v=.ok (r,S')/\vp S' (r:Int) next dead=some (vs',met',refs'):=by
 unfold setC at h;split at h
 ·cases h
 ·rename_i vs met refs hp;split at h
  ·rename_i hf;split at h
   ·cases h
   ·rename_i r1 S1 he;split at h
    ·cases h
    ·rename_i vs1 met1 refs1 hp1;cases h;exact⟨vs,met,refs,met1,refs1,hp,hf,he,hp1⟩
  ·cases h
theorem qgV {v:Vol} {r:Nat} {S':Sto} {vs':List Vol} (h:setC S root next dead v=some (r,S',vs')) {er:Int} (hne:er≠0) (hE:qaW S root next dead v er):False:=by
 obtain⟨vs,met,refs,met',refs',hp,hf,he,hp'⟩:=qjv h;obtain⟨h1,h2,h3⟩:=JE hp;rcases hE with ⟨_,hb⟩|⟨vs1,refs1,nodes1,k1,k2,k3,hE⟩
 ·exact hb.not hp
 ·obtain⟨rfl,rfl,-⟩:=Qo.unique h1 h2 k1 k2;rcases hE with e|⟨_,e|⟨_,r2,S2,e,hb⟩⟩
  ·rw[hf] at e;exact hne e.symm
  ·rw[he] at e;cases e
  ·rw[he] at e;cases e;exact hb.not hp'
theorem qaP {v:Vol} {r r1:Nat} {S' S1:Sto} {vs' vs1:List Vol} (h:setC S root next dead v=some (r,S',vs')) (hO:GK S root next dead v r1 S1 vs1):r1=r/\S1=S'/\vs1=vs':=by obtain⟨vs,met,refs,met',refs',hp,hf,he,hp'⟩:=qjv h;obtain⟨_,_,_,_,_,_,_,e,refs9,nodes9,k1,k2,_⟩:=hO;rw[he] at e;cases e;obtain⟨h1,h2,h3⟩:=JE hp';obtain⟨rfl,_,_⟩:=Qo.unique h1 h2 k1 k2;exact⟨rfl,rfl,rfl⟩
def qaJ (S:Sto) (root next:Int) (dead:List Int):Option (Nat×Sto):=match vp S root next dead with
 |none=>none
 |some (vs,_,_)=>if vs.length<16/\next<4294967295 then match Yh S with
   | .error _=>none
   | .ok (ra,S1)=>match setC S1 root (next+1) dead (newV next ra) with
    |none=>none
    |some (r,S2,_)=>if Zt S2=0 then some (r,S2) else none
  else none
theorem qhC {r:Nat} {S2:Sto} (h:qaJ S root next dead=some (r,S2)) {w w':World} {e:Ending} (hQ:CreQ S gen root next dead w e w'):Below w.heap.size w w'/\∃ u,e=.returned (.tuple #[u,.int .u32 next,.int .i64 0])/\jx w.heap.size S2 gen (r:Int) (next+1) dead u w':=by
 unfold qaJ at h;split at h
 ·cases h
 ·rename_i vs met refs hp;split at h
  ·rename_i hl;split at h
   ·cases h
   ·rename_i ra S1 hn;split at h
    ·cases h
    ·rename_i r1 S3 vs3 hs;split at h
     ·rename_i hr;cases h;obtain⟨h1,h2,h3⟩:=JE hp;refine⟨hQ.1,?_⟩;rcases hQ.2 with ⟨er,hne,_,hE⟩|⟨vs1,refs1,nodes1,ra1,T1,r9,T2,vs9,u,k1,k2,k3,k4,k5,k6,k7,k8,rfl,k9⟩
      ·exfalso;rcases hE with ⟨_,hb⟩|⟨vs1,refs1,nodes1,k1,k2,k3,hE⟩
       ·exact hb.not hp
       ·obtain⟨rfl,rfl,-⟩:=Qo.unique h1 h2 k1 k2;rcases hE with ⟨_,e|e⟩|e|⟨ra1,T1,e,hE⟩
        ·omega
        ·omega
        ·rw[hn] at e;cases e
        ·rw[hn] at e;cases e;rcases hE with hE|⟨r9,T2,vs9,hO,e⟩
         ·exact qgV hs hne hE
         ·obtain⟨rfl,rfl,rfl⟩:=qaP hs hO;exact hne (e.symm.trans hr)
      ·rw[hn] at k6;cases k6;obtain⟨rfl,rfl,rfl⟩:=qaP hs k7;exact⟨u,rfl,k9⟩
     ·cases h
  ·cases h
def vputC (S:Sto) (root next:Int) (dead:List Int) (id:Int) (x:It):Option (Nat×Sto):=match vp S root next dead with
 |none=>none
 |some (vs,_,_)=>match ZQ vs id with
  |none=>none
  |some v=>if v.fz=false/\itB x.r x.val.length=true/\x.r=0/\Zn S v.root=0 then match UJ (Jr S v.root) v.root.toNat x with
    | .error _=>none
    | .ok (r2,S2)=>match setC S2 root next dead (qan v r2) with
     |none=>none
     |some (r3,S3,_)=>match JM S3 v.root with
      | .error _=>none
      | .ok S4=>if Zt S4=0 then some (r3,S4) else none
   else none
theorem vputC_ok {id:Int} {x:It} {r:Nat} {S4:Sto} (h:vputC S root next dead id x=some (r,S4)) {w w':World} {e:Ending} (hQ:qfo S gen root next dead id x w e w'):Below w.heap.size w w'/\∃ u,e=.returned (.tuple #[u,.int .i64 0])/\jx w.heap.size S4 gen (r:Int) next dead u w':=by
 unfold vputC at h;split at h
 ·cases h
 ·rename_i vs met refs hp;split at h
  ·cases h
  ·rename_i v hv;split at h
   ·rename_i hc;obtain⟨c1,c2,c3,c4⟩:=hc;split at h
    ·cases h
    ·rename_i r2 S2 hq;split at h
     ·cases h
     ·rename_i r3 S3 vs3 hs;split at h
      ·cases h
      ·rename_i S5 hl;split at h
       ·rename_i hr;cases h;obtain⟨h1,h2,h3⟩:=JE hp;refine⟨hQ.1,?_⟩;rcases hQ.2 with ⟨er,hne,_,hE⟩|⟨r9,T4,u,⟨vs1,refs1,nodes1,v1,k1,k2,k3,k4,k5,k6,k7,q2,T2,T3,vs9,k8,k9,k10,k11,k12⟩,rfl,k13⟩
        ·exfalso;rcases hE with ⟨_,hb⟩|⟨vs1,refs1,nodes1,k1,k2,k3,hE⟩
         ·exact hb.not hp
         ·obtain⟨rfl,rfl,-⟩:=Qo.unique h1 h2 k1 k2;rcases hE with ⟨_,e⟩|⟨v1,e,hE⟩
          ·rw[hv] at e;cases e
          ·rw[hv] at e;cases e;rcases hE with ⟨_,e⟩|⟨_,hE⟩
           ·rw[c1] at e;cases e
           ·rcases hE with ⟨_,e⟩|⟨_,hE⟩
            ·rw[c2] at e;cases e
            ·rcases hE with ⟨_,e,_⟩|⟨_,hE⟩
             ·exact e c3
             ·rcases hE with e|⟨_,e|⟨q2,T2,e,hE⟩⟩
              ·exact hne (e.symm.trans c4)
              ·rw[hq] at e;cases e
              ·rw[hq] at e;cases e;rcases hE with hE|⟨r9,T3,vs9,hO,hE⟩
               ·exact qgV hs hne hE
               ·obtain⟨rfl,rfl,rfl⟩:=qaP hs hO;rcases hE with e|⟨T4,e,e2⟩
                ·rw[hl] at e;cases e
                ·rw[hl] at e;cases e;exact hne (e2.symm.trans hr)
        ·obtain⟨rfl,rfl,-⟩:=Qo.unique h1 h2 k1 k2;rw[hv] at k4;cases k4;rw[hq] at k9;cases k9;obtain⟨rfl,rfl,rfl⟩:=qaP hs k10;rw[hl] at k11;cases k11;exact⟨u,rfl,k13⟩
       ·cases h
   ·cases h
end
def cS (o:Option (Nat×Sto)):Sto:=match o with
 |some (_,S)=>S
 |none=>qT
def cIs (o:Option (Nat×Sto)) (r:Nat):Bool:=match o with
 |some (n,_)=>decide (n=r)
 |none=>false
theorem qfE {o:Option (Nat×Sto)} {r:Nat} (h:cIs o r=true):o=some (r,cS o):=by
 rcases o with _|⟨n,S⟩
 ·cases h
 ·simp only[cIs,decide_eq_true_eq] at h;subst h;rfl
section
variable {S S':Sto} {gen root next:Int} {dead:List Int} {vs:List Vol} {met refs:List Nat} {w w':World} {e:Ending}
theorem Ge.knownC {id:Int} {K:K3} (h:Ge S root next dead id K w e w') (hk:vp S root next dead=some (vs,met,refs)):∃ u,e=.returned u/\match ZQ vs id with
   |none=>u=.tuple #[.agg Vp,.int .i64 6]
   |some v=>qfk w.heap.size (Tc S v.root K) u w':=by
 obtain⟨h1,h2,h3⟩:=JE hk;rcases h.2 with ⟨_,hb⟩|⟨vs',u,⟨refs',nodes',hp,hc,_⟩,e,hm⟩
 ·exact(Zp.notC hk hb).elim
 ·obtain⟨rfl,-,-⟩:=Qo.unique h1 h2 hp hc;exact⟨u,e,hm⟩
end
def x17:It:=⟨2,0,2,0,[7]⟩
def u1:Sto:=cS (qaJ qT 8 1 [])
theorem u1_cre:qaJ qT 8 1 []=some (10,u1):=qfE (by decide +kernel)
def u2:Sto:=cS (vputC u1 10 2 [] 1 x17)
theorem u2_put:vputC u1 10 2 [] 1 x17=some (11,u2):=qfE (by decide +kernel)
def qcr:Vol:=⟨1,8,false,0⟩
theorem XP:vp u2 11 2 []=some ([qcr],[8,11],[11,8]):=by decide +kernel
theorem u2_find:Tc u2 8 (2,0,2)=some x17:=by decide +kernel
def qaS (f l:K3) (ys:List It):Prop:=(∃ a r,ys=a :: r/\qt a=f)/\∃ r b,ys=r++[b]/\qt b=l
theorem qaS.one (x:It):qaS (qt x) (qt x) [x]:=⟨⟨x,[],rfl,rfl⟩,[],x,rfl,rfl⟩
theorem qaS.append {f l f' l':K3} {ys zs:List It} (h:qaS f l ys) (h':qaS f' l' zs):qaS f l' (ys++zs):=by obtain⟨⟨a,r,rfl,ha⟩,-⟩:=h;obtain⟨-,r',b,rfl,hb⟩:=h';exact⟨⟨a,_,rfl,ha⟩,(a :: r)++r',b,zA2,hb⟩
theorem XM {one:It->Option (K3×K3)} {acc:Option (Option (K3×K3))} {y:It} {q:Option (K3×K3)} (h:jV one acc y=some q) : ∃ l,one y=some (qt y,l)/\((acc=some none/\q=some (qt y,l))\/∃ f l0,acc=some (some (f,l0))/\Qh l0 (qt y)=true/\q=some (f,l)):=by
 unfold jV at h;split at h
 ·cases h
 ·split at h
  ·cases h
  ·rename_i f l ho;split at h
   ·rename_i hf;subst hf;refine⟨l,ho,?_⟩;split at h
    ·cases h;exact .inl ⟨rfl,rfl⟩
    ·rename_i f0 l0;split at h
     ·rename_i hl;cases h;exact .inr ⟨f0,l0,rfl,hl,rfl⟩
     ·cases h
   ·cases h
theorem ky (S:Sto) (h:Nat) (xs:List It) (y:It):qG S h (xs++[y])=jV (jv S h) (qG S h xs) y:=by unfold qG;rw[List.foldl_append];rfl
theorem UR (xs:List It):xs=[]\/∃ r y,xs=r++[y]:=by
 rcases List.eq_nil_or_concat xs with h|⟨r,y,h⟩
 ·exact .inl h
 ·exact .inr ⟨r,y,by rw[h,List.concat_eq_append]⟩
section
variable {S:Sto} {h:Nat}
theorem Yw (H1:∀ y f l,jv S h y=some (f,l)->qaS f l (qI S h [y])):∀ (n:Nat) (xs:List It),xs.length=n->∀ f l,qG S h xs=some (some (f,l))->qaS f l (qI S h xs)
 |0,xs,hn,f,l,e=>by obtain rfl:=List.eq_nil_of_length_eq_zero hn;cases e
 |n+1,xs,hn,f,l,e=>by
  rcases UR xs with rfl|⟨r,y,rfl⟩
  ·simp at hn
  ·rw[ky] at e;obtain⟨ly,ho,⟨wUX,hq⟩|⟨f0,l0,wUX,hl,hq⟩⟩:=XM e
   ·have hr:r=[]:=by
     rcases UR r with rfl|⟨r',y',rfl⟩
     ·rfl
     ·exfalso;rw[ky] at wUX;obtain⟨_,_,⟨_,e2⟩|⟨_,_,_,_,e2⟩⟩:=XM wUX <;> cases e2
    subst hr;cases hq;exact H1 _ _ _ ho
   ·cases hq;have hr:=Yw H1 n r (by simpa using hn) f l0 wUX;rw[Qq];exact hr.append (H1 _ _ _ ho)
end
theorem Uz (S:Sto):∀ (h:Nat) (y:It) (f l:K3),jv S h y=some (f,l)->qaS f l (qI S h [y])
 |0,y,f,l,e=>by
  unfold jv at e;split at e
  ·cases e;exact qaS.one y
  ·cases e
 |h+1,y,f,l,e=>by
  unfold jv at e;split at e
  ·split at e
   ·cases e
   ·rename_i lvl xs hn;split at e
    ·have e':(qG S h xs).getD none=some (f,l):=e;have hs:qG S h xs=some (some (f,l)):=by
      rcases hq:qG S h xs with _|q
      ·rw[hq] at e';cases e'
      ·rw[hq] at e';exact congrArg some e'
     have:=Yw (Uz S h) _ xs rfl f l hs;simp only[qI,List.flatMap_cons,List.flatMap_nil,List.append_nil,hn];exact this
    ·cases e
  ·cases e
theorem qdX {S:Sto} {h:Nat} {xs:List It} {f l:K3} (e:qG S h xs=some (some (f,l))):qaS f l (qI S h xs):=Yw (Uz S h) _ xs rfl f l e
def Kh (S:Sto) (h:Nat) (xs:List It):Prop:=∀ y∈xs,∃ l,jv S h y=some (qt y,l)
theorem qdW {S:Sto} {h:Nat}:∀ (n:Nat) (xs:List It),xs.length=n->(qG S h xs).isSome=true->Kh S h xs
 |0,xs,hn,_=>by obtain rfl:=List.eq_nil_of_length_eq_zero hn;intro y hy;cases hy
 |n+1,xs,hn,e=>by
  rcases UR xs with rfl|⟨r,y,rfl⟩
  ·simp at hn
  ·obtain⟨q,e⟩:=Option.isSome_iff_exists.1 e;rw[ky] at e;obtain⟨l,ho,ha⟩:=XM e;have hr:(qG S h r).isSome=true:=by rcases ha with ⟨ha,_⟩|⟨_,_,ha,_⟩ <;> rw[ha] <;> rfl
   intro z hz;rcases List.mem_append.1 hz with hz|hz
   ·exact qdW n r (by simpa using hn) hr z hz
   ·rw[List.mem_singleton.1 hz];exact⟨l,ho⟩
theorem qjx {S:Sto} {h:Nat}:∀ (n:Nat) (xs:List It),xs.length=n->Kh S h xs->(qI S h xs).Pairwise (fun a b=>Qh (qt a) (qt b)=true)->(qG S h xs).isSome=true
 |0,xs,hn,_,_=>by obtain rfl:=List.eq_nil_of_length_eq_zero hn;rfl
 |n+1,xs,hn,he,hp=>by
  rcases UR xs with rfl|⟨r,y,rfl⟩
  ·simp at hn
  ·rw[Qq] at hp;obtain⟨hp1,-,hp3⟩:=List.pairwise_append.1 hp;have hr:=qjx n r (by simpa using hn) (fun z hz=>he z (List.mem_append_left _ hz)) hp1;obtain⟨l,ho⟩:=he y zA2;obtain⟨q,hq⟩:=Option.isSome_iff_exists.1 hr;rw[ky,hq];unfold jV;rw[ho];simp only[if_true];rcases q with _|⟨f0,l0⟩
   ·rfl
   ·obtain⟨-,r1,b,e1,hb⟩:=qdX hq;obtain⟨⟨a,r2,e2,ha⟩,-⟩:=Uz S h y _ _ ho;have hl:Qh l0 (qt y)=true:=by rw[<-hb,<-ha];exact hp3 b (by rw[e1];simp) a (by rw[e2];simp)
    simp only[hl,if_true];rfl
theorem Zh {S:Sto} {h:Nat} {xs:List It}:(qG S h xs).isSome=true↔Kh S h xs/\(qI S h xs).Pairwise (fun a b=>Qh (qt a) (qt b)=true):=
 ⟨fun e=>⟨qdW _ xs rfl e,(kz e).1⟩,fun e=>qjx _ xs rfl e.1 e.2⟩
theorem qaj (k:Nat):∀ n,n<256 ^ k->JU (qH n k)=n:=by
 induction k with
 |zero=>intro n h;simp at h;subst h;rfl
 |succ k ih =>
  intro n h;simp only[qH,JU];rw[ih (n / 256) (by rw[Nat.div_lt_iff_lt_mul zO];rw[Nat.pow_succ] at h;exact h)];simp[UInt8.toNat_ofNat'];omega
theorem GF {n:Nat} (h:n<256):(UInt8.ofNat n).toNat=n:=by simp[UInt8.toNat_ofNat'];omega
theorem qbH {l A r:List UInt8} {a k n:Nat} (h:l.drop a=A++r) (hA:A=qH n k) (hn:n<256 ^ k) (hl:a+k<=l.length):Zr l a k=(n:Int):=by unfold Zr;rw[if_pos hl,h,List.take_left' (by rw[hA,QK]),hA,qaj k n hn]
theorem Xy {l A r:List UInt8} {a k:Nat} (h:l.drop a=A++r) (hk:A.length=k):l.drop (a+k)=r:=by rw[<-List.drop_drop,h,List.drop_left' hk]
theorem item_rt {x:It} (h:zy x) (hb:itB x.r x.val.length=true) (r:List UInt8):Zd (ZB x++r)=some (x,12+x.val.length):=by
 obtain⟨⟨k0,k1⟩,⟨i0,i1⟩,⟨o0,o1⟩,⟨r0,r1⟩,hv⟩:=h;obtain⟨k,i,o,rr,v⟩:=x;obtain⟨k,rfl⟩:=Int.eq_ofNat_of_zero_le k0;obtain⟨i,rfl⟩:=Int.eq_ofNat_of_zero_le i0;obtain⟨o,rfl⟩:=Int.eq_ofNat_of_zero_le o0;obtain⟨rr,rfl⟩:=Int.eq_ofNat_of_zero_le r0;simp only at k1 i1 o1 r1 hv hb ⊢;have hlen:(ZB ⟨(k:Int),(i:Int),(o:Int),(rr:Int),v⟩++r).length=12+v.length+r.length:=by rw[List.length_append,Xc]
 have d1:(ZB ⟨(k:Int),(i:Int),(o:Int),(rr:Int),v⟩++r).drop 1=qH i 4++(qH o 4++(qH rr 2++(UInt8.ofNat v.length :: (v++r)))):=by simp[ZB,List.append_assoc]
 have e0:(ZB ⟨(k:Int),(i:Int),(o:Int),(rr:Int),v⟩++r)[0]?.getD 0=UInt8.ofNat k:=by simp[ZB]
 generalize ZB ⟨(k:Int),(i:Int),(o:Int),(rr:Int),v⟩++r=l at *;have d5:l.drop 5=_:=Xy (k:=4) d1 (QK _ _);have d9:l.drop 9=_:=Xy (k:=4) d5 (QK _ _);have d11:l.drop 11=_:=Xy (k:=2) d9 (QK _ _);have d12:l.drop 12=v++r:=by rw[show 12=11+1 from rfl,<-List.drop_drop,d11];rfl
 have e11:l[11]?.getD 0=UInt8.ofNat v.length:=by
  have:l[11]?=(l.drop 11)[0]?:=by rw[List.getElem?_drop]
  rw[this,d11];rfl
 have hsz:vM l=12+v.length:=by unfold vM;rw[e11,GF zO]
 have hit:qaA l=⟨(k:Int),(i:Int),(o:Int),(rr:Int),v⟩:=by unfold qaA;rw[e0,GF zO,qbH d1 rfl zO zO,qbH d5 rfl zO zO,qbH d9 rfl zO zO,d12,hsz,List.take_left' zO]
 unfold Zd;rw[hit,hsz,if_neg zO];simp only[Nat.add_sub_cancel_left];rw[if_pos hb]
theorem its_rt {xs:List It} (h:∀ x∈xs,zy x/\itB x.r x.val.length=true) (r:List UInt8):∀ k,k<=xs.length->QV (QT xs++r) k=some (xs.take k,QT (xs.drop k)++r)
 |0,_=>by simp[QV]
 |k+1,hk=>by
  have hk':k<xs.length:=zO;have hx:=h xs[k] (List.getElem_mem hk');have e:QT (xs.drop k)=ZB xs[k]++QT (xs.drop (k+1)):=by
   conv=>lhs;rw[List.drop_eq_getElem_cons hk']
   unfold QT;rw[List.flatMap_cons]
  have hr:Zd (QT (xs.drop k)++r)=some (xs[k],12+xs[k].val.length):=by rw[e,List.append_assoc];exact item_rt hx.1 hx.2 _
  rw[Ue (its_rt h r k zO) hr,List.take_succ_eq_append_getElem hk',e,List.append_assoc,List.drop_left' (Xc _)]
theorem node_rt {lvl:Int} {xs:List It} (hm:Qn lvl xs=true) (hok:∀ x∈xs,zy x):QG (Zg (Qv lvl xs))=some (lvl,xs):=by
 obtain⟨h0,h6,h5,hit⟩:=jO hm;obtain⟨L,rfl⟩:=Int.eq_ofNat_of_zero_le h0;have htl:(Qv (L:Int) xs).length<=124:=by have:=Yc xs hok;unfold Qv;simp only[List.length_cons];omega
 have hlen:(Zg (Qv (L:Int) xs)).length=128:=vK htl;have d0:(Zg (Qv (L:Int) xs)).drop 0=qH (crc (Jh 124 (Qv (L:Int) xs))) 4++Jh 124 (Qv (L:Int) xs):=by simp[Zg]
 have d4:(Zg (Qv (L:Int) xs)).drop 4=Jh 124 (Qv (L:Int) xs):=by have:=Xy (k:=4) d0 (QK _ _);simpa using this
 have ht4:(Zg (Qv (L:Int) xs)).take 4=qH (crc (Jh 124 (Qv (L:Int) xs))) 4:=by unfold Zg;exact List.take_left' (QK _ _)
 have wLN:qaq (Zg (Qv (L:Int) xs))=true:=by unfold qaq;rw[ht4,d4,qaj 4 _ (by have:=qhB (Jh 124 (Qv (L:Int) xs));omega)];simp
 obtain⟨z,hz,hzz⟩:∃ z,Jh 124 (Qv (L:Int) xs)=78 :: UInt8.ofNat L :: UInt8.ofNat xs.length :: (QT xs++z)/\Vs z=true:=⟨List.replicate (124-(Qv (L:Int) xs).length) 0,by simp[Jh,Qv],by simp[Vs]⟩
 rw[hz] at d4;have g:∀ j:Nat,(Zg (Qv (L:Int) xs))[4+j]?=(78 :: UInt8.ofNat L :: UInt8.ofNat xs.length :: (QT xs++z))[j]?:=fun j=>by rw[<-d4,List.getElem?_drop]
 have g4:=g 0;have g5:=g 1;have g6:=g 2;have d7:(Zg (Qv (L:Int) xs)).drop 7=QT xs++z:=by rw[show 7=4+3 from rfl,<-List.drop_drop,d4];rfl
 simp only[Nat.add_zero,Nat.reduceAdd,List.getElem?_cons_zero,List.getElem?_cons_succ] at g4 g5 g6;rw[qai hlen wLN,g4,g5,g6,d7];simp only[Option.getD_some];rw[GF (show L<256 by omega),GF (show xs.length<256 by omega)];have hr:=its_rt (fun x hx=>⟨hok x hx,hit x hx⟩) z xs.length (zM _);rw[List.take_length,List.drop_length] at hr;have e78:(78:UInt8).toNat=78:=rfl;rw[e78,qah h5 hr,if_pos ⟨hm,by simpa [QT] using hzz⟩]
theorem SM.trans {S1 S2 S3:Sto} (h:SM S1 S2) (h':SM S2 S3):SM S1 S3:=⟨fun r nd e=>h'.node r nd (h.node r nd e),fun r e=>h'.pos r (h.pos r e)⟩
theorem Ua (t:List UInt8) {a:Nat} (ha:a<t.length) (v:UInt8) (b:Nat):qL (t.set a v) b=if b=a then v.toNat else qL t b:=by
 unfold qL;by_cases h:b=a
 ·subst h;rw[if_pos rfl,List.getElem?_set_self ha];rfl
 ·rw[if_neg h,List.getElem?_set_ne (Ne.symm h)]
theorem cnt_lt {t:List UInt8} {a:Nat} (h:qL t a≠0):a<t.length:=by apply Classical.byContradiction;intro hn;exact h (by unfold qL;rw[List.getElem?_eq_none zO];rfl)
theorem cnt_u8 (t:List UInt8) (a:Nat):qL t a<256:=UInt8.toNat_lt _
theorem TO:∀ {l:List Nat} {t t':List UInt8},ZO l t=.ok t'->∀ b,b≠0->qL t' b=qL t b+l.count b
 | [],t,t',h,b,_=>by simp only[ZO] at h;cases h;simp
 |a :: r,t,t',h,b,hb=>by
  simp only[ZO] at h;split at h
  ·cases h
  ·rename_i t1 h1;rw[TO h b hb,List.count_cons];unfold vt at h1;split at h1
   ·rename_i h0;cases h1;rw[if_neg zA1];omega
   ·split at h1
    ·cases h1
    ·split at h1
     ·cases h1
     ·rename_i h2 h3;cases h1;have hu:=cnt_u8 t a;unfold jj;rw[Ua t (cnt_lt h2),GF zO];by_cases e:b=a
      ·subst e;simp;omega
      ·rw[if_neg e,if_neg zA1];omega
theorem TH:∀ {l:List Nat} {t t':List UInt8},looseL l t=.ok t'->∀ b,b≠0->qL t' b+l.count b=qL t b
 | [],t,t',h,b,_=>by simp only[looseL] at h;cases h;simp
 |a :: r,t,t',h,b,hb=>by
  simp only[looseL] at h;rw[List.count_cons];split at h
  ·rename_i h0;rw[if_neg zA1];exact TH h b hb
  ·split at h
   ·cases h
   ·rename_i h0 h2;have:=TH h b hb;have hu:=cnt_u8 t a;unfold ju at this;rw[Ua t (cnt_lt h2),GF zO] at this;by_cases e:b=a
    ·subst e;rw[if_pos rfl] at this;simp;omega
    ·rw[if_neg e] at this;rw[if_neg zA1];omega
theorem now0 {S:Sto} (hS:ql S=true):qL S.now 0=0:=qar (qF.1 hS).2.1
theorem span_nil {S:Sto} {h:Nat} {xs:List It} (e:qG S h xs=some none):xs=[]:=by
 rcases UR xs with rfl|⟨r,y,rfl⟩
 ·rfl
 ·exfalso;rw[ky] at e;obtain⟨_,_,⟨_,e2⟩|⟨_,_,_,_,e2⟩⟩:=XM e <;> cases e2
theorem Gr {S S':Sto} {h f:Nat} {p:List It} (hS:ql S=true) (hio:∀ x∈p,zy x) (hsp:(qG S h p).isSome=true) (e:ZE S (h:Int) p=.ok (f,S')):SM S S'/\ql S'=true/\(∀ b,b≠0->qL S.now b+(qE p).count b<=qL S'.now b)/\qu S' f=some ((h:Int),p)/\8<=f/\f<256:=by
 obtain⟨t,hm,ht,hw,h8,hf,hfb,rfl,htm⟩:=Ut hS e;have hmay:=(KF hio hS e).1;have hl:=kE htm;have hc:=TO ht;have h0:qL t f=0:=by unfold ZZ at hfb;simp only[Bool.and_eq_true,decide_eq_true_eq] at hfb;exact hfb.2.1
 have s1:SM S (qy S t):=qix fun r hr=>by
  by_cases hr0:r=0
  ·subst hr0;have:=now0 hS;unfold qL at this;omega
  ·have:=hc r hr0;unfold qL at this;omega
 have s2:SM (qy S t) (ZF (qy S t) f (Zg (Qv (h:Int) p))):=sm_put _ h0 (by show f<t.length;omega);refine⟨s1.trans s2,hmay,fun b hb=>?_,?_,h8,hf⟩
 ·show _<=qL (t.set f 1) b;rw[Ua t zO];have:=hc b hb;split
  ·rename_i e;subst e;have e1:(1:UInt8).toNat=1:=rfl;omega
  ·omega
 ·rw[qgy (show f<t.length by omega)];exact node_rt hm hio
theorem made_one {S:Sto} {h f:Nat} {p:List It} (hn:qu S f=some ((h:Int),p)) (h8:8<=f) (hf:f<256) (hsp:(qG S h p).isSome=true) (hne:p≠[]):(∃ l,jv S (h+1) (Gs (VR p) f)=some (qt (Gs (VR p) f),l))/\qI S (h+1) [Gs (VR p) f]=qI S h p:=by
 have hr:(Gs (VR p) f).r=(f:Int):=rfl;have hk:qt (Gs (VR p) f)=VR p:=rfl;constructor
 ·rcases hq:qG S h p with _|_|⟨f0,l0⟩
  ·rw[hq] at hsp;cases hsp
  ·exact absurd (span_nil hq) hne
  ·refine⟨l0,?_⟩;have hf0:f0=VR p:=by
    obtain⟨x,r,rfl⟩:∃ x r,p=x :: r:=by
     cases p with
     |nil=>exact absurd rfl hne
     |cons x r=>exact⟨x,r,rfl⟩
    obtain⟨⟨a,r1,e1,ha⟩,-⟩:=qdX hq;obtain⟨l,ho⟩:=(Zh.1 hsp).1 x List.mem_cons_self;obtain⟨⟨a2,r2,e2,ha2⟩,-⟩:=Uz S h x _ _ ho;have:qI S h (x :: r)=qI S h [x]++qI S h r:=Qq h [x] r;rw[this,e2,List.cons_append,List.cons.injEq] at e1;rw[<-ha,<-e1.1,ha2];rfl
   rw[JV,hr,hk];unfold vI;rw[if_pos zO];simp only[Int.toNat_natCast,hn,if_true,hq,Option.getD_some,hf0]
 ·simp only[qI,List.flatMap_cons,List.flatMap_nil,List.append_nil,hr,Int.toNat_natCast,hn]
theorem SM.each {S S':Sto} (hm:SM S S') {h:Nat} {xs:List It} (e:Kh S h xs):Kh S' h xs:=fun y hy=>by obtain⟨l,ho⟩:=e y hy;exact⟨l,hm.one h y _ ho⟩
theorem kX {S:Sto} {h:Nat} {xs ys:List It} (h1:Kh S h xs) (h2:Kh S h ys):Kh S h (xs++ys):=fun y hy=>(List.mem_append.1 hy).elim (h1 y) (h2 y)
theorem qbA {h:Nat}:∀ {ps:List (List It)} {S S':Sto} {up:List It},(∀ p∈ps,p≠[]/\(∀ x∈p,zy x)/\(qG S h p).isSome=true)->ql S=true->makeL (h:Int) ps S=.ok (up,S') ->
  SM S S'/\ql S'=true/\(∀ b,b≠0->qL S.now b+(qE ps.flatten).count b<=qL S'.now b)/\Kh S' (h+1) up/\qI S' (h+1) up=qI S h ps.flatten
 | [],S,S',up,_,hS,e=>by cases e;exact⟨⟨fun _ _ e=>e,fun _ e=>e⟩,hS,fun b _=>by simp[qE],fun y hy=>(List.not_mem_nil hy).elim,by simp[vH]⟩
 |p :: ps,S,S',up,hp,hS,e=>by
  simp only[makeL] at e;split at e
  ·cases e
  ·rename_i f S1 e1;obtain⟨hne,hio,hsp⟩:=hp p List.mem_cons_self;obtain⟨m1,hS1,hc1,hn1,h8,hf⟩:=Gr hS hio hsp e1;split at e
   ·cases e
   ·rename_i up1 S2 e2;cases e;obtain⟨m2,hS2,hc2,he2,hi2⟩:=qbA (fun q hq=>⟨(hp q (List.mem_cons_of_mem _ hq)).1,(hp q (List.mem_cons_of_mem _ hq)).2.1,m1.spanOk (hp q (List.mem_cons_of_mem _ hq)).2.2⟩) hS1 e2;have hsp2:=m2.spanOk (m1.spanOk hsp);obtain⟨ho,hi⟩:=made_one (m2.node _ _ hn1) h8 hf hsp2 hne;refine⟨m1.trans m2,hS2,fun b hb=>?_,?_,?_⟩
    ·have:=hc1 b hb;have:=hc2 b hb;simp only[List.flatten_cons,qE,List.map_append,List.count_append] at *;omega
    ·intro y hy;rcases List.mem_cons.1 hy with rfl|hy
     ·exact ho
     ·exact he2 y hy
    ·have e3:Gs (VR p) f :: up1=[Gs (VR p) f]++up1:=rfl;rw[e3,Qq,hi,hi2,List.flatten_cons,Qq,(m1.trans m2).items h p hsp];congr 1;have:∀ qs:List (List It),(∀ q∈qs,(qG S h q).isSome=true)->qI S1 h qs.flatten=qI S h qs.flatten:=fun qs=>by
      induction qs with
      |nil=>intro _;simp[vH]
      |cons q qs ih =>
       intro hq;rw[List.flatten_cons,Qq,Qq,m1.items h q (hq q List.mem_cons_self),ih fun q' hq'=>hq q' (List.mem_cons_of_mem _ hq')]
     exact this ps fun q hq=>(hp q (List.mem_cons_of_mem _ hq)).2.2
theorem each_pos {S:Sto} {h:Nat} {xs:List It} (e:Kh S h xs) {x:It} (hx:x∈xs) (h0:x.r.toNat≠0):0<qL S.now x.r.toNat:=by
 obtain⟨l,ho⟩:=e x hx;cases h with
 |zero =>
  unfold jv at ho;split at ho
  ·rename_i hc;rcases hc with hc|hc
   ·rw[hc] at h0;exact absurd rfl h0
   ·exact hc
  ·cases ho
 |succ h =>
  unfold jv at ho;split at ho
  ·split at ho
   ·cases ho
   ·rename_i hn;unfold qu at hn;split at hn
    ·cases hn
    ·rename_i hc;unfold qL;omega
  ·cases ho
theorem qbT (l:List It):(Zs l).flatten=l:=by unfold Zs;split <;> simp
theorem kA {S:Sto} {h:Nat} {xs ys zs:List It} (e:(qG S h (xs++ys++zs)).isSome=true):(qG S h ys).isSome=true:=by obtain⟨h1,h2⟩:=Zh.1 e;rw[Qq,Qq] at h2;exact Zh.2 ⟨fun y hy=>h1 y (by simp[hy]),(List.pairwise_append.1 (List.pairwise_append.1 h2).1).2.1⟩
theorem Tw {S S':Sto} {h:Nat} {l held up:List It} (hS:ql S=true) (hl:∀ x∈l,zy x) (hh:∀ x∈held,itB x.r x.val.length=true) (xBG:∀ b,b≠0->(qE held).count b<=(qE l).count b) (hne:l≠[]) (hsp:(qG S h l).isSome=true) (e:QQ S (h:Int) l held=.ok (up,S')):SM S S'/\ql S'=true/\(qG S' (h+1) up).isSome=true/\qI S' (h+1) up=qI S h l/\up≠[]:=by
 have hmay:=VQ hl hh hS e;unfold QQ at e;split at e
 ·cases e
 ·rename_i up1 S1 e1;split at e
  ·cases e
  ·rename_i t e2;cases e;have hp:∀ p∈Zs l,p≠[]/\(∀ x∈p,zy x)/\(qG S h p).isSome=true:=fun p hp=>by
    refine⟨?_,Xm hl p hp,?_⟩
    ·intro hn;subst hn;unfold Zs at hp;split at hp
     ·rename_i h5;simp only[List.mem_cons,List.not_mem_nil,or_false] at hp;rcases hp with hp|hp
      ·have:=congrArg List.length hp;simp at this;omega
      ·have:=congrArg List.length hp;simp at this;omega
     ·simp only[List.mem_cons,List.not_mem_nil,or_false] at hp;exact hne hp.symm
    ·unfold Zs at hp;split at hp
     ·simp only[List.mem_cons,List.not_mem_nil,or_false] at hp;rcases hp with rfl|rfl
      ·exact kA (xs:=[]) (zs:=l.drop 3) (by simpa using hsp)
      ·exact kA (xs:=l.take 3) (zs:=[]) (by simpa using hsp)
     ·simp only[List.mem_cons,List.not_mem_nil,or_false] at hp;subst hp;exact hsp
   obtain⟨m1,hS1,hc,he,hi⟩:=qbA hp hS e1;rw[qbT] at hc hi;have hlc:=TH e2;have m2:SM S1 (qy S1 t):=qix fun r hr=>by
    show 0<qL t r;have hr':0<qL S1.now r:=hr;by_cases hr0:r=0
    ·subst hr0;have:=now0 hS1;omega
    ·have h1:=hc r hr0;have h2:=hlc r hr0;have h3:=xBG r hr0;by_cases hz:(qE l).count r=0
     ·omega
     ·obtain⟨x,hx,hxr⟩:∃ x∈l,x.r.toNat=r:=by have:=List.count_pos_iff.1 (Nat.pos_of_ne_zero hz);unfold qE at this;simpa using this
      have:=each_pos (Zh.1 hsp).1 hx zO;rw[hxr] at this;omega
   have wIG:(qI S1 (h+1) up).Pairwise (fun a b=>Qh (qt a) (qt b)=true):=by rw[hi];exact(Zh.1 hsp).2
   have hs1:(qG S1 (h+1) up).isSome=true:=Zh.2 ⟨he,wIG⟩;refine⟨m1.trans m2,hmay.1,m2.spanOk hs1,?_,?_⟩
   ·rw[m2.items (h+1) up hs1,hi]
   ·intro hn;have h2:=hmay.2.1;rw[hn] at h2;unfold Zs at h2;split at h2 <;> simp at h2
def kM (k:K3) (x:It) (l:List It):List It:=(l.filter fun y=>Qh (qt y) k)++[x]++l.filter fun y=>Qh k (qt y)
abbrev Ord (l:List It):Prop:=l.Pairwise fun a b=>Qh (qt a) (qt b)=true
theorem KE (k:K3):Qh k k=false:=Yf k
theorem qaK {x:It} {l:List It} (h:Ord l):Ord (kM (qt x) x l):=by
 unfold kM;refine List.pairwise_append.2 ⟨List.pairwise_append.2 ⟨h.sublist List.filter_sublist,List.pairwise_singleton _ _,fun a ha b hb=>?_⟩,h.sublist List.filter_sublist,fun a ha b hb=>?_⟩
 ·rw[List.mem_singleton.1 hb];exact(List.mem_filter.1 ha).2
 ·have h2:=(List.mem_filter.1 hb).2;rcases List.mem_append.1 ha with ha|ha
  ·exact ve (List.mem_filter.1 ha).2 h2
  ·rw[List.mem_singleton.1 ha];exact h2
theorem qjb {k:K3} {x:It} {A B C:List It} (hA:∀ y∈A,Qh (qt y) k=true) (hC:∀ y∈C,Qh k (qt y)=true):kM k x (A++B++C)=A++kM k x B++C:=by
 have a1:A.filter (fun y=>Qh (qt y) k)=A:=List.filter_eq_self.2 hA;have a2:A.filter (fun y=>Qh k (qt y))=[]:=List.filter_eq_nil_iff.2 fun y hy e=>by have:=ve (hA y hy) e;rw[KE] at this;cases this
 have c1:C.filter (fun y=>Qh k (qt y))=C:=List.filter_eq_self.2 hC;have c2:C.filter (fun y=>Qh (qt y) k)=[]:=List.filter_eq_nil_iff.2 fun y hy e=>by have:=ve (hC y hy) e;rw[KE] at this;cases this
 unfold kM;simp only[List.filter_append,a1,a2,c1,c2,List.append_nil,List.nil_append,List.append_assoc]
theorem qgm {k:K3} {x:It} {xs:List It} (h:Ord xs):Vq xs (qD xs k) (Jt k 0 xs) [x]=kM k x xs:=by
 have hp:=fun i hi=>JC (k:=k) h i hi;have hle:=JD xs k;have e1:xs.take (qD xs k)=xs.filter fun y=>Qh (qt y) k:=by
  conv=>rhs;rw[<-List.take_append_drop (qD xs k) xs]
  rw[List.filter_append,List.filter_eq_self.2,List.filter_eq_nil_iff.2,List.append_nil]
  ·intro y hy e;obtain⟨i,hi,rfl⟩:=List.mem_iff_getElem.1 hy;rw[List.length_drop] at hi;rw[List.getElem_drop] at e;have:=(hp _ zO).1 e;omega
  ·intro y hy;obtain⟨i,hi,rfl⟩:=List.mem_iff_getElem.1 hy;rw[List.length_take] at hi;rw[List.getElem_take];exact(hp _ zO).2 zO
 have hk:∀ i (hi:i<xs.length),Qh k (qt xs[i])=true↔qD xs k+Jt k 0 xs<=i:=fun i hi=>by
  unfold Jt;by_cases hlt:qD xs k<xs.length
  ·rw[Kb hlt];by_cases he:qt xs[qD xs k]=k
   ·rw[if_neg (by simp[he])];constructor
    ·intro e;apply Classical.byContradiction;intro hn;by_cases hi2:i<qD xs k
     ·have:=ve e ((hp i hi).2 hi2);rw[KE] at this;cases this
     ·obtain rfl:i=qD xs k:=zO;rw[he,KE] at e;cases e
    ·intro hi2;have:=Yl h (i:=qD xs k) (j:=i) zO hi
     rwa [he] at this
   ·rw[if_pos (by simp[he])];have hge:Qh (qt xs[qD xs k]) k=false:=by rw[<-Bool.not_eq_true];intro e;have:=(hp _ hlt).1 e;omega
    have hgt:Qh k (qt xs[qD xs k])=true:=by
     rcases hq:Qh k (qt xs[qD xs k]) with _|_
     ·exact absurd (qey hq hge) he
     ·rfl
    constructor
    ·intro e;apply Classical.byContradiction;intro hn;have:=ve e ((hp i hi).2 zO);rw[KE] at this;cases this
    ·intro hi2;by_cases hi3:i=qD xs k
     ·subst hi3;exact hgt
     ·exact ve hgt (Yl h zO hi)
  ·rw[XA hlt,if_pos zA2];constructor
   ·intro e;have:=ve e ((hp i hi).2 zO);rw[KE] at this;cases this
   ·intro hi2;omega
 have e2:xs.drop (qD xs k+Jt k 0 xs)=xs.filter fun y=>Qh k (qt y):=by
  conv=>rhs;rw[<-List.take_append_drop (qD xs k+Jt k 0 xs) xs]
  rw[List.filter_append,List.filter_eq_nil_iff.2,List.filter_eq_self.2,List.nil_append]
  ·intro y hy;obtain⟨i,hi,rfl⟩:=List.mem_iff_getElem.1 hy;rw[List.length_drop] at hi;rw[List.getElem_drop];exact(hk _ zO).2 zO
  ·intro y hy e;obtain⟨i,hi,rfl⟩:=List.mem_iff_getElem.1 hy;rw[List.length_take] at hi;rw[List.getElem_take] at e;have:=(hk _ zO).1 e;omega
 unfold Vq kM;rw[e1,e2]
theorem qcn {S:Sto} {h:Nat} {xs:List It} {k:K3} (hs:(qG S h xs).isSome=true) (h0:0<xs.length) : (∀ y∈qI S h (xs.take (Zb xs k)),Qh (qt y) k=true)/\∀ y∈qI S h (xs.drop (Zb xs k+1)),Qh k (qt y)=true:=by
 have ho:=(kz hs).2;have hp:=fun i hi=>JC (k:=k) ho i hi;have hle:=JD xs k;have hlt:=jQ (k:=k) h0;constructor
 ·intro y hy;have hl:=items_lt hs hlt hy;have hRF:0<Zb xs k:=by
   rcases Nat.eq_zero_or_pos (Zb xs k) with e|e
   ·rw[e,List.take_zero,vH] at hy;cases hy
   ·exact e
  have hk:leK (qt xs[Zb xs k]) k:=by
   by_cases hi:Yb xs k=true
   ·have e1:Zb xs k=qD xs k:=by unfold Zb;rw[if_pos hi]
    have hCJ:qD xs k<xs.length:=zO;rw[Kb hCJ,decide_eq_true_eq] at hi;have:xs[Zb xs k]=xs[qD xs k]:=by congr 1
    rw[this,hi];exact Un k
   ·have e1:Zb xs k=qD xs k-1:=by unfold Zb;rw[if_neg hi]
    exact VI ((hp _ hlt).2 zO)
  exact TK hl hk
 ·intro y hy;obtain⟨j,hj,hy⟩:=qka hy;rw[List.length_drop] at hj;rw[List.getElem_drop] at hy;have hl:=one_low hs (j:=Zb xs k+1+j) zO hy;refine TK ?_ hl;have xFV:∀ i (hi:i<xs.length),Zb xs k<i->Qh k (qt xs[i])=true:=fun i hi hgt=>by
   by_cases his:Yb xs k=true
   ·have e1:Zb xs k=qD xs k:=by unfold Zb;rw[if_pos his]
    have hCJ:qD xs k<xs.length:=zO;rw[Kb hCJ,decide_eq_true_eq] at his;have:=Yl ho (i:=qD xs k) (j:=i) zO hi
    rwa [his] at this
   ·have e1:Zb xs k=qD xs k-1:=by unfold Zb;rw[if_neg his]
    have hCJ:qD xs k<xs.length:=zO;have hge:Qh (qt xs[qD xs k]) k=false:=by rw[<-Bool.not_eq_true];intro e;have:=(hp _ hCJ).1 e;omega
    rw[Kb hCJ,decide_eq_true_eq] at his;have hgk:Qh k (qt xs[qD xs k])=true:=by
     rcases hq:Qh k (qt xs[qD xs k]) with _|_
     ·exact absurd (qey hq hge) his
     ·rfl
    by_cases hi3:i=qD xs k
    ·subst hi3;exact hgk
    ·exact ve hgk (Yl ho zO hi)
  exact xFV _ zO zO
theorem qgP (A B C:List It) (b:Nat):(qE B).count b<=(qE (A++B++C)).count b:=by simp only[qE,List.map_append,List.count_append];omega
structure qaV (S:Sto) (x:It):Prop where
 ok:zy x
 it:itB x.r x.val.length=true
 one:jv S 0 x=some (qt x,qt x)
theorem qaV.of {S:Sto} {x:It} (hx:zy x) (h:XV S x=0):qaV S x:=by
 unfold XV at h;split at h
 ·rename_i h1;split at h
  ·cases h
  ·rename_i h2;refine⟨hx,h1,?_⟩;unfold jv;rw[if_pos];by_cases hr:x.r=0
   ·exact .inl hr
   ·exact .inr (Nat.pos_of_ne_zero fun e=>h2 ⟨hr,e⟩)
 ·cases h
theorem KY {S:Sto} {x:It} (hS:ql S=true) (hx:qaV S x):∀ (h:Nat) {a:Nat} {xs up:List It} {S':Sto},qu S a=some ((h:Int),xs)->(qG S h xs).isSome=true->jA (qt x) (kJ S (qt x) h xs).reverse [x] S=.ok (up,S') ->
  SM S S'/\ql S'=true/\(qG S' (h+1) up).isSome=true/\qI S' (h+1) up=kM (qt x) x (qI S h xs)/\up≠[]/\∀ y∈up,zy y/\itB y.r y.val.length=true
 |0,a,xs,up,S',hn,hs,e=>by
  rw[UU,List.reverse_singleton,Kz] at e;simp only at e;have ho:Ord xs:=(kz hs).2;rw[qgm ho] at e;have hmx:=(qQ hn).2.1;have hQT:∀ y∈kM (qt x) x xs,y=x\/y∈xs:=fun y hy=>by
   unfold kM at hy;simp only[List.mem_append,List.mem_filter,List.mem_singleton] at hy;rcases hy with (hy|hy)|hy
   ·exact .inr hy.1
   ·exact .inl hy
   ·exact .inr hy.1
  have hl:∀ y∈kM (qt x) x xs,zy y:=fun y hy=>by
   rcases hQT y hy with rfl|hy
   ·exact hx.ok
   ·exact(hmx y hy).1
  have hh:∀ y∈[x],itB y.r y.val.length=true:=fun y hy=>by rw[List.mem_singleton.1 hy];exact hx.it
  have hsp:(qG S 0 (kM (qt x) x xs)).isSome=true:=Zh.2 ⟨fun y hy=>by
   rcases hQT y hy with rfl|hy
   ·exact⟨_,hx.one⟩
   ·exact(Zh.1 hs).1 y hy,qaK ho⟩
  have hb:=Tw (h:=0) hS hl hh (fun b _=>by unfold kM;exact qgP _ [x] _ b) (by unfold kM;simp) hsp e;exact⟨hb.1,hb.2.1,hb.2.2.1,hb.2.2.2.1,hb.2.2.2.2,(VQ hl hh hS e).2.2.1⟩
 |h+1,a,xs,up,S',hn,hs,e=>by
  have h0:=Uu (qQ hn).1 zO;have hlt:=jQ (k:=qt x) h0;obtain⟨b,e1,-,-,zs,e4,e5⟩:=ZM (ZP hs _ (List.getElem_mem hlt));have hnb:qu S (xs[Zb xs (qt x)].r).toNat=some ((h:Int),zs):=by rw[e1,Int.toNat_natCast];exact e4
  rw[Xs (zL hlt) hnb,List.reverse_cons,JZ] at e;split at e
  ·cases e
  ·rename_i up1 S1 eg;obtain⟨m1,hS1,wLK,hi1,hVL,hVQ⟩:=KY hS hx h e4 e5 eg;rw[Kz] at e;simp only at e;have hm1:Jt (qt x) (h+1) xs=1:=by unfold Jt;rw[if_neg zO]
   rw[hm1] at e;unfold Vq at e;obtain⟨hA,hC⟩:=qcn (k:=qt x) hs h0;have hmx:=(qQ hn).2.1;generalize hp:Zb xs (qt x)=p at *;have wCR:xs=xs.take p++[xs[p]]++xs.drop (p+1):=by rw[List.append_assoc,List.singleton_append,List.getElem_cons_drop,List.take_append_drop]
   have hs':=hs;rw[wCR] at hs';have hsA:(qG S (h+1) (xs.take p)).isSome=true:=kA (xs:=[]) (ys:=xs.take p) (zs:=[xs[p]]++xs.drop (p+1)) (by rw[List.nil_append,<-List.append_assoc];exact hs');have hsC:(qG S (h+1) (xs.drop (p+1))).isSome=true:=kA (xs:=xs.take p++[xs[p]]) (ys:=xs.drop (p+1)) (zs:=[]) (by rw[List.append_nil];exact hs');have hB:qI S (h+1) [xs[p]]=qI S h zs:=by simp only[qI,List.flatMap_cons,List.flatMap_nil,List.append_nil,hnb]
   have wHY:qI S1 (h+1) (xs.take p++up1++xs.drop (p+1))=kM (qt x) x (qI S (h+1) xs):=by
    conv=>rhs;rw[wCR,Qq,Qq,qjb hA hC,hB,<-hi1]
    rw[Qq,Qq,m1.items _ _ hsA,m1.items _ _ hsC]
   have hl:∀ y∈xs.take p++up1++xs.drop (p+1),zy y:=fun y hy=>by
    rcases List.mem_append.1 hy with hy|hy
    ·rcases List.mem_append.1 hy with hy|hy
     ·exact(hmx y (List.mem_of_mem_take hy)).1
     ·exact(hVQ y hy).1
    ·exact(hmx y (List.mem_of_mem_drop hy)).1
   have hsp:(qG S1 (h+1) (xs.take p++up1++xs.drop (p+1))).isSome=true:=Zh.2 ⟨kX (kX (m1.each (Zh.1 hsA).1) (Zh.1 wLK).1) (m1.each (Zh.1 hsC).1),by rw[wHY];exact qaK (kz hs).1⟩;have hb:=Tw (h:=h+1) hS1 hl (fun y hy=>(hVQ y hy).2) (fun b _=>qgP _ up1 _ b) (by simp[hVL]) hsp e;exact⟨m1.trans hb.1,hb.2.1,hb.2.2.1,hb.2.2.2.1.trans wHY,hb.2.2.2.2,(VQ hl (fun y hy=>(hVQ y hy).2) hS1 e).2.2.1⟩
theorem qgq {lvl:Int}:∀ {ps:List (List It)} {S S':Sto} {up:List It},makeL lvl ps S=.ok (up,S')->up.length=ps.length
 | [],S,S',up,h=>by cases h;rfl
 |p :: r,S,S',up,h=>by
  simp only[makeL] at h;split at h
  ·cases h
  ·split at h
   ·cases h
   ·rename_i hl;cases h;simp[qgq hl]
theorem Gl {k:K3}:∀ {ps:List Stp} {up up':List It} {S S':Sto},jA k ps up S=.ok (up',S')->up.length<=2->up'.length<=2
 | [],up,up',S,S',h,h0=>by cases h;exact h0
 |(lvl,xs,p) :: r,up,up',S,S',h,h0=>by
  simp only[jA] at h;split at h
  ·cases h
  ·rename_i up1 S1 hb;refine Gl h ?_;unfold QQ at hb;split at hb
   ·cases hb
   ·rename_i hm;split at hb
    ·cases hb
    ·cases hb;rw[qgq hm];unfold Zs;split <;> simp
theorem qgA {S:Sto} {H:Nat} {y:It} (h:(qG S (H+1) [y]).isSome=true):∃ ys,qu S y.r.toNat=some ((H:Int),ys)/\(qG S H ys).isSome=true/\qI S (H+1) [y]=qI S H ys:=by
 obtain⟨b,e1,-,-,ys,e4,e5⟩:=ZM (ZP h y zA2);have hn:qu S y.r.toNat=some ((H:Int),ys):=by rw[e1,Int.toNat_natCast];exact e4
 exact⟨ys,hn,e5,by simp only[qI,List.flatMap_cons,List.flatMap_nil,List.append_nil,hn]⟩
theorem qkq {S S':Sto} {h a r:Nat} {xs:List It} {x:It} (hS:ql S=true) (hx:qaV S x) (hn:qu S a=some ((h:Int),xs)) (hs:(qG S h xs).isSome=true) (e:putX S h xs a x=.ok (r,S')) : ∃ S2 t,∃ (H:Nat) (ys:List It),S'=qy S2 t/\SM S S2/\ql S2=true/\qu S2 r=some ((H:Int),ys)/\(qG S2 H ys).isSome=true/\qI S2 H ys=kM (qt x) x (qI S h xs)/\QL S2 (-1) S2.now a=some t:=by
 unfold putX at e;split at e
 ·cases e
 ·split at e
  ·cases e
  ·rename_i up S1 eg;obtain⟨m1,hS1,wLK,hi1,hVL,hVQ⟩:=KY hS hx h hn hs eg;have hwl:=UT (k:=qt x) h (qQ hn).1 hs;split at e
   ·cases e
   ·rename_i up2 S2 eb;split at e
    ·cases e
    ·rename_i t hl;cases e;split at eb
     ·rename_i hlen;rw[hwl] at eb;have hb:=Tw (h:=h+1) hS1 (fun y hy=>(hVQ y hy).1) (fun y hy=>(hVQ y hy).2) (fun b _=>zM _) hVL wLK eb;have hmay:=VQ (fun y hy=>(hVQ y hy).1) (fun y hy=>(hVQ y hy).2) hS1 eb;have hup:up.length<=2:=Gl eg zA2;obtain⟨y,rfl⟩:∃ y,up2=[y]:=by have h1:=hmay.2.1;unfold Zs at h1;rw[if_neg zO] at h1;exact List.length_eq_one_iff.1 (by simpa using h1)
      obtain⟨ys,g1,g2,g3⟩:=qgA hb.2.2.1;exact⟨S2,t,h+1,ys,rfl,m1.trans hb.1,hb.2.1,g1,g2,by rw[<-g3,hb.2.2.2.1,hi1],hl⟩
     ·cases eb;rename_i hlen;obtain⟨y,rfl⟩:∃ y,up=[y]:=List.length_eq_one_iff.1 (by have:=List.length_pos_iff.2 hVL;omega);obtain⟨ys,g1,g2,g3⟩:=qgA wLK;exact⟨S1,t,h,ys,rfl,m1,hS1,g1,g2,by rw[<-g3,hi1],hl⟩
theorem qiQ {f:List UInt8->Nat->Option (List UInt8)} (hf:∀ t r t',f t r=some t'->∀ j,qL t' j<=qL t j):∀ (rs:List Nat) (o:Option (List UInt8)) (t':List UInt8),rs.foldl (fun acc r=>acc.bind fun t=>f t r) o=some t'->∃ t,o=some t/\∀ j,qL t' j<=qL t j
 | [],o,t',h=>⟨t',h,fun _=>zM _⟩
 |r :: rs,o,t',h=>by
  rw[List.foldl_cons] at h;obtain⟨t1,h1,h2⟩:=qiQ hf rs _ t' h;cases o with
  |none=>cases h1
  |some t =>
   exact⟨t,rfl,fun j=>Nat.le_trans (h2 j) (hf t r t1 h1 j)⟩
theorem Gp (S:Sto):∀ (h:Nat) (lvl:Int) (t:List UInt8) (a:Nat) (t':List UInt8),leaveF S h lvl t a=some t'->∀ j,qL t' j<=qL t j
 |0,lvl,t,a,t',e=>by cases e
 |h+1,lvl,t,a,t',e=>by
  rw[JT] at e;split at e
  ·cases e
  ·split at e
   ·cases e;exact fun j=>qer t a j
   ·split at e
    ·cases e
    ·rename_i l xs _;split at e
     ·cases e
     ·split at e
      ·obtain⟨t0,h0,h1⟩:=qiQ (fun t r t'=>Gp S h (l-1) t r t') _ _ _ e;cases h0;exact fun j=>Nat.le_trans (h1 j) (zero_le t a j)
      ·split at e
       ·cases e
       ·rename_i t1 hl;cases e;exact fun j=>Nat.le_trans ((VJ hl).2 j) (zero_le t a j)
end Go.Proofs.YtmeadnlmepcmbaaGreat
