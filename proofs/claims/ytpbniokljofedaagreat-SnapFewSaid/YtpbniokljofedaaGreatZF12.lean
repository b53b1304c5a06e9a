/- Texts TakeW, Take, VolF, DoneX, joined. -/
import Derived.ChangeKeysEq
import Derived.Test.YtpbniokljofedaaGreatZF06
import Derived.Test.YtpbniokljofedaaGreatZF11
set_option linter.unusedSimpArgs false
set_option linter.unusedVariables false
set_option maxHeartbeats 8000000
namespace Go.Proofs.YtpbniokljofedaaGreat
open Go.RowKit
theorem qeO (p:CP) (w1:World) (f:Int→Option Value) (refs nodes:Nat→Nat) (s1 s2 s3 s4:Value) (gen root next:Int) (dead:Value) (hC:Cen p w1 f):∀ h:Nat,VolsC p w1 f refs nodes s1 s2 s3 s4 gen root next dead h
 |0=>qeP p w1 f refs nodes s1 s2 s3 s4 gen root next dead hC 0 fun _ e=>by omega
 |h+1=>qeP p w1 f refs nodes s1 s2 s3 s4 gen root next dead hC (h+1) fun h' e=>by
  obtain rfl:h=h':=by omega
  exact qeO p w1 f refs nodes s1 s2 s3 s4 gen root next dead hC h
theorem ca0_ar (s1 s2 s3 s4:Value) (bb mb:Nat):Ar (ca0 s1 s2 s3 s4 bb mb) (fun _=>0) (fun _=>0) (.slice none 0 0):=by
 unfold ca0
 refine⟨by simp,fun a ha=>?_,fun a ha=>?_,?_⟩
 ·rw[Array.getElem?_append_left (by simp;omega),Array.getElem?_append_right (by simp)]
  simp[Array.getElem?_replicate]
  omega
 ·rw[Array.getElem?_append_left (by simp;omega),Array.getElem?_append_right (by simp;omega)]
  simp[Array.getElem?_replicate]
  omega
 ·rw[Array.getElem?_append_right (by simp)]
  simp
theorem ca0_low (s1 s2 s3 s4:Value) (bb mb:Nat) {i:Nat} (hi:i<6):(ca0 s1 s2 s3 s4 bb mb)[i]?=(#[s1,s2,s3,s4,.pointer (some ⟨bb,0,none⟩),.map (some mb)]:Array Value)[i]?:=by
 unfold ca0
 rw[Array.getElem?_append_left (by simp;omega),Array.getElem?_append_left (by simp;omega)]
theorem zu.empty (w:World):zu (w.alloc (.map #[] 0)) w.heap.size fun _=>none:=⟨#[],0,zI _ _ _ rfl,fun _ h=>absurd h (List.not_mem_nil),fun _=>rfl⟩
def Xw (S:Sto) (root next:Int):Option (List Vol):=match qu S root.toNat with
 |none=>none
 |some (lvl,xs)=>Zj next [] (Qn S lvl.toNat xs)
def Zl (root:Int) (dead:List Int) (vs:List Vol):List Int:=(root :: dead)++vs.map (·.root)
structure Ql (S:Sto) (root next:Int) (dead:List Int) (vs:List Vol):Prop where
 may:qm S=true
 few:dead.length≤40
 top:okL S (-1) root=true
 vols:Xw S root next=some vs
 ok:∀ r∈Zl root dead vs,okL S (-1) r=true
def QD (S:Sto) (refs:Nat→Nat):Prop:=∀ a,a<256→refs a≤(S.now[a]?.getD 0).toNat
def Zn (w:World) (B:Nat) (v:Value) (l:List Int):Prop:=∃ A c,v=.slice A l.length c∧l.length≤c∧c≤maxLen∧Rd w B 1 A l.length (l.map fun (a:Int)=>Value.int .i64 a)
def Qw (root:Int) (dead:List Int) (vs:List Vol):List Nat:=(Zl root dead vs).map Int.toNat
structure Taken (S:Sto) (root next:Int) (dead:List Int) (vs:List Vol) (refs nodes:Nat→Nat) (lo cb:Nat) (ca:Array Value) (vv:Value) (w:World):Prop where
 pool:Ql S root next dead vs
 cnt:qR S (Qw root dead vs) refs nodes
 enough:QD S refs
 low:lo≤cb
 row:w.heap[cb]?=some (.cells ca 84 (0,0))
 ar:Ar ca refs nodes vv
 own:w.ownsRow lo 40 4 vv vs.length (ZC vs)
def YE (S:Sto) (root next:Int) (dead:List Int) (w:World) (e:Ending) (w':World):Prop:=Below w.heap.size w w' ∧
 ((e=.returned (.tuple #[.pointer none,.int .i64 8])∧∀ vs,Ql S root next dead vs→∃ refs nodes,qR S (Qw root dead vs) refs nodes∧¬QD S refs) ∨
  ∃ vs refs nodes cb ca vv,e=.returned (.tuple #[.pointer (some ⟨cb,0,none⟩),.int .i64 0])∧Taken S root next dead vs refs nodes w.heap.size cb ca vv w')
theorem YE.bad {S:Sto} {root next:Int} {dead:List Int} {w w':World} (hB:Below w.heap.size w w') (h:∀ vs,¬Ql S root next dead vs):YE S root next dead w (.returned (.tuple #[.pointer none,.int .i64 8])) w':=
 ⟨hB,.inl ⟨rfl,fun vs hp=>absurd hp (h vs)⟩⟩
def TN (l:List Int):List Value:=l.map fun (a:Int)=>Value.int .i64 a
theorem qim (l:List Int) (a:Int):TN (l++[a])=TN l++[Value.int .i64 a]:=by simp[TN]
theorem rowI_get (l:List Int) (k:Nat) (h:k<l.length):(TN l)[k]?=some (.int .i64 l[k]):=by unfold TN;rw[List.getElem?_map,zL h];rfl
def JE (root:Int) (dead:List Int) (vs:List Vol) (k:Nat):List Int:=(root :: dead)++(vs.take k).map (·.root)
theorem qey (root:Int) (dead:List Int) (vs:List Vol) {k:Nat} (h:k≤vs.length):(JE root dead vs k).length=1+dead.length+k:=by unfold JE;simp;omega
theorem qcJ (root:Int) (dead:List Int) (vs:List Vol) {k:Nat} (h:k<vs.length):JE root dead vs (k+1)=JE root dead vs k++[vs[k].root]:=by
 unfold JE
 rw[List.take_succ_eq_append_getElem h,List.map_append,←List.append_assoc]
 rfl
theorem Uw (root:Int) (dead:List Int) (vs:List Vol):JE root dead vs vs.length=Zl root dead vs:=by unfold JE Zl;rw[List.take_length]
theorem Yk (vs:List Vol):∀ k (h:k<vs.length),(ZC vs)[k*4]?=some (.int .u32 vs[k].id)∧(ZC vs)[k*4+1]?=some (.int .i64 vs[k].root)∧(ZC vs)[k*4+2]?=some (.bool vs[k].fz)∧(ZC vs)[k*4+3]?=some (.int .u32 vs[k].frm):=by
 induction vs with
 |nil=>intro k h;exact absurd h (Nat.not_lt_zero _)
 |cons v r ih =>
  intro k h
  cases k with
  |zero=>exact⟨rfl,rfl,rfl,rfl⟩
  |succ k =>
   have:=ih k (by simpa using h)
   have e:ZC (v :: r)=[.int .u32 v.id,.int .i64 v.root,.bool v.fz,.int .u32 v.frm]++ZC r:=rfl
   rw[e]
   have hg:∀ j,([.int .u32 v.id,.int .i64 v.root,.bool v.fz,.int .u32 v.frm]++ZC r:List Value)[(k+1)*4+j]?=(ZC r)[k*4+j]?:=fun j=>by
    rw[List.getElem?_append_right (by simp only[List.length_cons,List.length_nil];omega)]
    congr 1
    simp only[List.length_cons,List.length_nil]
    omega
   exact⟨(hg 0).trans this.1,(hg 1).trans this.2.1,(hg 2).trans this.2.2.1,(hg 3).trans this.2.2.2⟩
theorem qR.zero (S:Sto):qR S [] (fun _=>0) (fun _=>0):=
 ⟨jl.walk.2 (JI.nil (fun _=>rfl) fun _=>rfl),fun a=>by have:=qam (vU fun _=>0) 256;simp only[List.length_nil];omega⟩
structure UH (cb mb:Nat) (w w':World):Prop where
 os:w'.os=w.os
 tape:w'.tape=w.tape
 output:w'.output=w.output
 size:w.heap.size≤w'.heap.size
 block:∀ k,k<w.heap.size→k≠cb→k≠mb→w'.heap[k]?=w.heap[k]?
theorem UH.refl (cb mb:Nat) (w:World):UH cb mb w w:=⟨rfl,rfl,rfl,zM _,fun _ _ _ _=>rfl⟩
theorem UH.trans {cb mb:Nat} {w w' w'':World} (h:UH cb mb w w') (h':UH cb mb w' w''):UH cb mb w w'':=
 ⟨h'.os.trans h.os,h'.tape.trans h.tape,h'.output.trans h.output,Nat.le_trans h.size h'.size,fun k h1 h2 h3=>(h'.block k (Nat.lt_of_lt_of_le h1 h.size) h2 h3).trans (h.block k h1 h2 h3)⟩
theorem UH.below {cb mb B:Nat} {w0 w w':World} (h:UH cb mb w w') (hb:Below B w0 w) (hB:B≤w.heap.size) (h1:B≤cb) (h2:B≤mb):Below B w0 w':=
 ⟨h.os.trans hb.os,h.tape.trans hb.tape,h.output.trans hb.output,Nat.le_trans hb.size h.size,fun k hk=>(h.block k (by omega) (by omega) (by omega)).trans (hb.block k hk)⟩
structure R2 (p:CP) (w8:World) (vv:Value) (roots:List Int) (i:Value) (wr:World):Prop where
 ex:∃ (k:Nat) (g:Int→Option Value) (ca:Array Value) (refs nodes:Nat→Nat),k≤roots.length∧i=.int .i64 (k:Int)∧Cen (p.put ca) wr g∧Ar ca refs nodes vv∧qR p.S ((roots.take k).map Int.toNat) refs nodes∧Tw p.S g ((roots.take k).map Int.toNat) ∧
  (∀ r∈roots.take k,okL p.S (-1) r=true)∧UH p.cb p.mb w8 wr
section
variable {P:Program} {ops:Array Oper} {rest:List Oper} {o:Oper} {a:Act} {w:World} {Q:Exit→Act→World→Prop}
theorem qaP (g off:Nat) (ty:TypeId) (cs:List Value) (d:TypeDesc) (hc:∀ j v,cs[j]?=some v→w.cell? ⟨g,off+j,none⟩=some v)
  (hu:P.underlying ty=some d) (hd:(match d with | .struct _ | .array _ _=>true|_=>false)=true) (hi:(P.info? ty).map (·.size)=some cs.length) :
  (loadVar ty ⟨g,off,none⟩).run P w=.ok (.agg cs.toArray) w:=by
 have hl:(loadCells ⟨g,off,none⟩ cs.length).run P w=.ok cs.toArray w:=
  run_loadCells_list (P:=P) w ⟨g,off,none⟩ cs (fun j v hv=>by
   have hadd:(⟨g,off,none⟩:Addr).add j=⟨g,off+j,none⟩:=by unfold Addr.add;split <;> simp_all
   rw[hadd]
   exact hc j v hv)
 cases hq:P.info? ty with
 |none=>simp[hq] at hi
 |some i =>
  have hs:i.size=cs.length:=by simpa [hq] using hi
  have hagg:(isAgg ty).run P w=.ok true w:=by
   unfold isAgg
   rw[Sem.run_bind,run_underlying hu w]
   cases d <;> simp_all
  simp[loadVar,Sem.run_bind,hagg,sizeOf,typeInfo,hq,hs,hl]
theorem kD (hgd:o.guard=none) (ty:TypeId) (x:Operand) (ho:o.op=.load ty x) (g off:Nat) (hx:a.eval x=.pointer (some ⟨g,off,none⟩)) (cs:List Value) (d:TypeDesc) (hc:∀ j v,cs[j]?=some v→w.cell? ⟨g,off+j,none⟩=some v)
  (hu:P.underlying ty=some d) (hd:(match d with | .struct _ | .array _ _=>true|_=>false)=true) (hi:(P.info? ty).map (·.size)=some cs.length)
  (h:wpList P ops Q rest (a.put o.dst (.agg cs.toArray)) w):wpList P ops Q (o :: rest) a w:=by
 refine wpList_plain hgd fun K hK=>?_
 unfold Oper.wp execOp
 simp only[ho,hx,Instr.loadAt,Instr.sureAddr,Sem.run_bind,Sem.run_pure,Result.andThen_ok,qaP g off ty cs d hc hu hd hi]
 exact hK _ _ h
end
def KH (f:Nat→Nat):List Value:=(List.range 256).map fun a=>Value.int .i64 ((f a:Nat):Int)
theorem Gf (f:Nat→Nat) {k:Nat} (h:k<256):(KH f)[k]?=some (.int .i64 ((f k:Nat):Int)):=by
 unfold KH
 rw[List.getElem?_map,List.getElem?_range h]
 rfl
theorem qgF {f:Nat→Nat} {j:Nat} {v:Value} (h:(KH f)[j]?=some v):j<256∧v=.int .i64 ((f j:Nat):Int):=by
 have hj:j<256:=by
  have:=(List.getElem?_eq_some_iff.1 h).1
  simpa [KH] using this
 rw[Gf f hj] at h
 cases h
 exact⟨hj,rfl⟩
structure R3 (S:Sto) (refs:Nat→Nat) (w9:World) (i:Value) (wr:World):Prop where
 ex:∃ k:Nat,k≤256∧i=.int .i64 (k:Int)∧(∀ a,a<k→refs a≤(S.now[a]?.getD 0).toNat)∧wr=w9
theorem own_kept {cb mb:Nat} {w w':World} {base n size:Nat} {e:TypeId} {v:Value} {xs:List Value} (h:w.ownsRow base e size v n xs) (hk:UH cb mb w w') (h1:cb<base) (h2:mb<base):w'.ownsRow base e size v n xs:=by
 refine⟨h.1,?_⟩
 rcases h.2 with h0|⟨g,cap,cur,hv,hb,hg,hr⟩
 ·exact .inl h0
 ·exact .inr ⟨g,cap,cur,hv,hb,(hk.block g (zG.1 hg).1 (by omega) (by omega)).trans hg,hr⟩
structure R1 (w6:World) (root:Int) (dead:List Int) (vs:List Vol) (v i:Value) (wr:World):Prop where
 ex:∃ k:Nat,k≤vs.length∧i=.int .i64 (k:Int)∧wr.ownsRow w6.heap.size 3 1 v (1+dead.length+k) (TN (JE root dead vs k))∧Ext w6 wr
def outOn (lo B:Nat) (A1:Option Addr) (n1 c1:Nat) (A2:Option Addr) (n2:Nat) (n3:Nat) (A4:Option Addr) (n4 c4:Nat) (S:Sto):qS:=⟨Nat,fun b=>.pointer (some ⟨b,0,none⟩),fun b W=>∃ A3' c3',OnB lo b (.slice A1 n1 c1) (.slice A2 n2 n2) (.slice A3' n3 c3') (.slice A4 n4 c4) S W∧Zm lo (.slice A3' n3 c3')⟩
theorem UV (lo B:Nat) (A1:Option Addr) (n1 c1:Nat) (A2:Option Addr) (n2:Nat) (n3:Nat) (A4:Option Addr) (n4 c4:Nat) (S:Sto) (b:Nat):(outOn lo B A1 n1 c1 A2 n2 n3 A4 n4 c4 S).f b=.pointer (some ⟨b,0,none⟩):=rfl
theorem qcy (lo B:Nat) (A1:Option Addr) (n1 c1:Nat) (A2:Option Addr) (n2:Nat) (n3:Nat) (A4:Option Addr) (n4 c4:Nat) (S:Sto):∀ p,QL ((outOn lo B A1 n1 c1 A2 n2 n3 A4 n4 c4 S).φ p):=fun p W W' he ⟨A,c,⟨h1,h2,h3⟩,h4⟩=>⟨A,c,⟨h1,qb h2 he,h3.ext he⟩,h4⟩
def qcx (lo:Nat):qS:=⟨Nat,fun b=>.map (some b),fun b W=>lo≤b∧b<W.heap.size∧zu W b fun _=>none⟩
theorem Tc (lo b:Nat):(qcx lo).f b=.map (some b):=rfl
theorem qaI (lo:Nat):∀ p,QL ((qcx lo).φ p):=fun p W W' he ⟨h1,h2,h3⟩=>⟨h1,Nat.lt_of_lt_of_le h2 he.size,h3.of_heap (he.block p h2)⟩
theorem run_mm (t:TypeId) (W:World):(Instr.makeMap t none).run Tryz.prog W=.ok (.map (some W.heap.size)) (W.alloc (.map #[] 0)):=rfl
theorem run_bx (cs:Array Value) (t:TypeId) (W:World):(Instr.box t (.agg cs)).run Tryz.prog W=.ok (.pointer (some ⟨W.heap.size,0,none⟩)) (W.alloc (.cells cs t)):=rfl
theorem YM {cs:Array Value} {k:Nat} {v:Value} (hk:k<256) (hv:cs[k]?=some v) (W:World):(Instr.index 82 (.agg cs) (.int .i64 (k:Int))).run Tryz.prog W=.ok v W:=by
 obtain⟨i0,hi,hz0,hz1,hz2⟩:=info_parts Tryz.info_int
 have hp:=run_part_plain (P:=Tryz.prog) (w:=W) (e:=3) (by kernel_rfl) hv
 have h0:(0:Int)≤(k:Int)∧(k:Int)<256:=by omega
 simp[Instr.index,asIntOf,run_underlying Tryz.underlying82,h0,sizeOf,typeInfo,hi,hz1,hp,Sem.run_bind]
 intro hge
 omega
theorem Vf {R:Ending→World→Prop} {a:Act} {W:World} {u v:Value} (h2:a.tmps[2]?.getD undef=u) (h3:a.tmps[3]?.getD undef=v) (hd:a.defers=[]) (hR:R (.returned (.tuple #[u,v])) W):bodyPost Tryz.prog Tryz.f45 R .ret a W:=by
 refine bodyPost_ret (v:=.tuple #[u,v]) ?_ hd hR
 simp[results,Tryz.results45,go_sem,h2,h3]
set_option maxRecDepth 100000 in
theorem kh (A1:Option Addr) (n1 c1:Nat) (A2:Option Addr) (n2 c2:Nat) (A3:Option Addr) (n3 c3:Nat) (A4:Option Addr) (n4 c4:Nat) (gen root next:Int) (A5:Option Addr) (c5:Nat) (S:Sto) (dead:List Int) (w:World)
  (h:qP w w.heap.size (.slice A1 n1 c1) (.slice A2 n2 c2) (.slice A3 n3 c3) (.slice A4 n4 c4) S) (hd:Zn w w.heap.size (.slice A5 dead.length c5) dead) :
  Calls Tryz.prog 45 #[.agg (qC (.slice A1 n1 c1) (.slice A2 n2 c2) (.slice A3 n3 c3) (.slice A4 n4 c4) gen root next (.slice A5 dead.length c5))] w (YE S root next dead w):=by
 have HCK:=zH (fun W (hx:Ext w W)=>jU A1 n1 c1 A2 n2 c2 A3 n3 c3 A4 n4 c4 S W (h.ext hx))
 have HNL:qm S=true→S.now.length<1073741824:=fun hm=>by have:=(qU hm).2.2.1;omega
 have HON:=zH (fun (hm:qm S=true) W (hx:Ext w W)=>qfY A1 n1 c1 A2 n2 c2 A3 n3 c3 A4 n4 c4 S (HNL hm) W (h.ext hx))
 replace h:=zH h
 replace hd:=zH hd
 clear HNL
 go_enter Tryz.func45,Tryz.ntmps45
 go_wp2_with fail
 generalize hw1:World.alloc w _=w1
 have x1:Ext w w1:=by rw[←hw1];exact zN _ _
 have p1:w1.heap[w.heap.size]?=some (.cells (qC (.slice A1 n1 c1) (.slice A2 n2 c2) (.slice A3 n3 c3) (.slice A4 n4 c4) gen root next (.slice A5 dead.length c5)) 32 (0,0)):=by rw[←hw1];exact zI _ _ _ rfl
 clear hw1
 refine(HCK.out w1 x1).mono ?_
 rintro e w2 ⟨rfl,hB⟩
 have x2:=x1.trans hB
 have p2:=qb p1 hB
 have k2:=qa p2
 clear hB p1 x1 HCK
 rcases hmay:qm S with _|_
 ·unfold jX
  have HB:=zH (YE.bad (S:=S) (next:=next) (root:=root) (dead:=dead) x2 (fun vs hp=>by have:=hp.may;rw[hmay] at this;cases this))
  replace hmay:=zH hmay
  go_wp2_with fail
  exact Vf rfl rfl rfl HB.out
 ·unfold jX
  rcases Nat.lt_or_ge 40 dead.length with h40|h40
  ·have hq:decide ((dead.length:Int)>40)=true:=decide_eq_true (by omega)
   have HB:=zH (YE.bad (S:=S) (next:=next) (root:=root) (dead:=dead) x2 (fun vs hp=>by have:=hp.few;omega))
   replace hmay:=zH hmay
   go_wp2_with fail
   exact Vf rfl rfl rfl HB.out
  ·have hq:decide ((dead.length:Int)>40)=false:=decide_eq_false (by omega)
   have hmay':=zH hmay
   clear hmay
   go_wp2_with fail
   have gP:∀ W,ql.r w2 W→∀ i,W.cell? ⟨w.heap.size,i,none⟩=(qC (.slice A1 n1 c1) (.slice A2 n2 c2) (.slice A3 n3 c3) (.slice A4 n4 c4) gen root next (.slice A5 dead.length c5))[i]?:=fun W h=>qa (qb p2 h)
   have hz2:w.heap.size<w2.heap.size:=(zG.1 p2).1
   refine qo (by kernel_rfl) ?_
   refine qO (w:=w2) ql (qF [(4,outOn w2.heap.size w2.heap.size A1 n1 c1 A2 n2 n3 A4 n4 c4 S),(5,qcx w2.heap.size)])
    [true,true,true,true,true,true,true] 2 (by kernel_rfl) (by kernel_rfl) (by kernel_rfl) (by kernel_rfl) (by kernel_rfl) (by kernel_rfl) (by kernel_rfl) ?st (Rel.drew _ _) ?walk
   case st=>exact qk (by simp only[List.forall_mem_cons];exact⟨fun p=>QK (qcy _ _ _ _ _ _ _ _ _ _ _ _ p),fun p=>QK (qaI _ p),fun _ h=>by cases h⟩)
   case walk =>
    intro K hK
    dsimp only[qp]
    repeat ((first|(refine qe ?_ (by rfl) (by rfl) (fun W hW _=>⟨W,?_,Rel.refl _ W⟩) ?_;rotate_left;(go_simp<;>with_reducible rfl))|(refine qh (by rfl) ?_));try simp only[Act.put,qj,qf,qc,qg,qc,UV,Tc,zA,zB,zC])
    refine qy (outOn w2.heap.size w2.heap.size A1 n1 c1 A2 n2 n3 A4 n4 c4 S) (by rfl) (by rfl) (fun W hW _=>?_) (fun (bb:Nat)=>?_)
    ·have hWx:Ext w2 W:=hW
     refine Qg ?_ ((HON.out hmay'.out W (x2.trans hWx)).mono fun e w' h=>?_)
     ·go_simp
     ·obtain⟨u,rfl,⟨b,A3',c3',rfl,h1,h2⟩,h3⟩:=h
      exact⟨b,rfl,⟨A3',c3',⟨Nat.le_trans hWx.size h1.1,h1.2⟩,h2.mono hWx.size⟩,h3⟩
    simp only[Act.put,qj,qf,qc,qg,qc,UV,Tc,zA,zB,zC]
    refine qy (qcx w2.heap.size) (by rfl) (by rfl) (fun W hW _=>?_) (fun (mb:Nat)=>?_)
    ·have hWx:Ext w2 W:=hW
     have hmm:=run_mm 81 W
     refine ZW (u:=.map (some W.heap.size)) (w':=W.alloc (.map #[] 0)) ?_ ⟨W.heap.size,rfl,⟨hWx.size,by simp,zu.empty W⟩,zN _ _⟩
     go_simp
    simp only[Act.put,qj,qf,qc,qg,qc,UV,Tc,zA,zB,zC]
    refine qe (.agg (ca0 (.slice A1 n1 c1) (.slice A2 n2 c2) (.slice A3 n3 c3) (.slice A4 n4 c4) bb mb)) (by rfl) (by rfl) (fun W hW _=>⟨W,?_,Rel.refl _ W⟩) ?_
    ·go_simp
     exact ca_eq _ _ _ _ _ _
    simp only[Act.put,qj,qf,qc,qg,qc,UV,Tc,zA,zB,zC]
    refine qt (hK _ _ fun W hW hF=>?_)
    have hWx:Ext w2 W:=hW
    have HO:=(hF 4).1
    have HM:=(hF 5).1
    clear hF hK gP
    change ∃ A3' c3',_ at HO
    change w2.heap.size≤mb∧mb<W.heap.size∧zu W mb _ at HM
    obtain⟨A3',c3',hon,hfr⟩:=HO
    obtain⟨hm1,hm2,hmap⟩:=HM
    obtain⟨hb1,hrow,hst⟩:=hon
    have xW:=x2.trans hWx
    have pW:=qb p2 hWx
    dsimp only[List.drop,List.length_cons,List.length_nil]
    have hca:=ca0_ar (.slice A1 n1 c1) (.slice A2 n2 c2) (.slice A3 n3 c3) (.slice A4 n4 c4) bb mb
    have hca0:∀ i,i<6→(ca0 (.slice A1 n1 c1) (.slice A2 n2 c2) (.slice A3 n3 c3) (.slice A4 n4 c4) bb mb)[i]?=(#[.slice A1 n1 c1,.slice A2 n2 c2,.slice A3 n3 c3,.slice A4 n4 c4,.pointer (some ⟨bb,0,none⟩),.map (some mb)]:Array Value)[i]?:=fun i hi=>ca0_low _ _ _ _ _ _ hi
    generalize (ca0 (.slice A1 n1 c1) (.slice A2 n2 c2) (.slice A3 n3 c3) (.slice A4 n4 c4) bb mb)=ca at *
    have hbx:=run_bx ca
    replace hca:=zH hca
    replace hca0:=zH hca0
    clear hW hWx x2 p2
    go_wp2_with fail
    refine Qm ?_
    have hcc:W.heap.size=W.heap.size:=rfl
    obtain⟨cb,hcb⟩:∃ cb,cb=W.heap.size:=⟨_,rfl⟩
    generalize hw3:World.alloc W _=w3
    have x3:Ext W w3:=by rw[←hw3];exact zN _ _
    have r3:w3.heap[cb]?=some (.cells ca 84 (0,0)):=by rw[←hw3];exact zI _ _ _ hcb
    have z3:w3.heap.size=cb+1:=by rw[←hw3,hcb];simp
    clear hw3 hcc
    have hbb:bb<W.heap.size:=(zG.1 hrow).1
    have xw3:=xW.trans x3
    have hsw:w.heap.size≤w2.heap.size:=by omega
    have C3:Cen ⟨S,w.heap.size,w3.heap.size,cb,bb,mb,ca,.slice A1 n1 c1,.slice A2 n2 c2,.slice A3 n3 c3,.slice A4 n4 c4,.slice A1 n1 c1,.slice A2 n2 n2,.slice A3' n3 c3',.slice A4 n4 c4⟩ w3 (fun _=>none):={
     row:=r3
     c0:=hca0.out 0 (by omega)
     c1:=hca0.out 1 (by omega)
     c2:=hca0.out 2 (by omega)
     c3:=hca0.out 3 (by omega)
     c4:=hca0.out 4 (by omega)
     c5:=hca0.out 5 (by omega)
     map:=hmap.of_heap (x3.block _ hm2)
     known:=fun a v hv=>by cases hv
     sto:=h.out.below xw3
     on:=qb hrow x3
     onb:=(h.out.below xw3).bs
     onw:=(h.out.below xw3).ws.clip
     onl:=(h.out.below xw3).last
     onn:=(hst.now.below x3).more x3.size
     onf:=fun A n c e=>by
      have hn:=(Bys.at_ hst.now).2.2.2
      have hl:=(qU hmay'.out).2.2.1
      have hn3:=(Bys.at_ hst.now).1
      obtain⟨b,off,hA,hb⟩:=hn (by omega)
      have e':Value.slice A3' n3 c3'=.slice (some A) n c:=e
      rw[hA] at e'
      simp only[Value.slice.injEq,Option.some.injEq] at e'
      rw[←e'.1]
      show b≠cb
      omega
     low:=by
      show cb<w3.heap.size∧bb<w3.heap.size∧mb<w3.heap.size∧cb≠mb∧bb≠mb∧w3.heap.size≤w3.heap.size∧w.heap.size≤cb∧w.heap.size≤bb∧w.heap.size≤mb∧cb≠bb
      have hne:bb≠mb:=by
       rintro rfl
       obtain⟨es,clock,h1,_⟩:=hmap
       rw[hrow] at h1
       cases h1
      omega
     may:=hmay'.out }
    rw[←hcb]
    have pw3:=qb pW x3
    have hcw:w.heap.size≤cb:=by omega
    have hw3:w.heap.size<cb:=by have:=(zG.1 pW).1;omega
    generalize hpp:(⟨S,w.heap.size,w3.heap.size,cb,bb,mb,ca,.slice A1 n1 c1,.slice A2 n2 c2,.slice A3 n3 c3,.slice A4 n4 c4,.slice A1 n1 c1,.slice A2 n2 n2,.slice A3' n3 c3',.slice A4 n4 c4⟩:CP)=p at C3
    have pS:p.S=S:=by rw[←hpp]
    have pcb:p.cb=cb:=by rw[←hpp]
    have pmb:p.mb=mb:=by rw[←hpp]
    have plo:p.lo=w3.heap.size:=by rw[←hpp]
    have pca:p.ca=ca:=by rw[←hpp]
    have hmb:w.heap.size<mb:=by have:=(zG.1 pW).1;omega
    clear hpp hbx hmap hst hrow hfr pW x3 r3 z3 hb1 hm1 hm2 hbb hcb
    have kp:=qa pw3
    go_wp2_with fail
    have HLR:=GA p root w3 _ C3
    rw[pcb] at HLR
    refine HLR.mono ?_
    rintro e w4 ⟨v,g,rfl,⟨lvl,A,n,c,fk,lk,rfl,hknown⟩,hgr,hm,hg,hn⟩
    have C4:=C3.after hgr hm hg hn
    rw[pS] at hknown ⊢
    have hz3:cb<w3.heap.size:=by rw[←pcb];exact(zG.1 C3.row).1
    have x4:Below w.heap.size w w4:=xw3.grown hg (by omega) (fun q hq=>by cases hq;rw[pmb];omega)
    have pw4:=(hg.block w.heap.size (by omega) (by simp;omega)).trans pw3
    have z4:=hg.size
    have hcb4:cb<w4.heap.size:=by rw[←pcb];exact(zG.1 C4.row).1
    rcases hok:okL S (-1) root with _|_
    ·have HB:=zH (fun W (hx:Ext w4 W)=>YE.bad (S:=S) (next:=next) (root:=root) (dead:=dead) (x4.trans (Below.mono hx (by omega))) (fun vs hp=>by have:=hp.top;rw[hok] at this;cases this))
     replace C4:=zH C4
     replace C3:=zH C3
     replace hok:=zH hok
     clear hknown hgr hm hg hn HLR kp pw3 pw4
     go_wp2_with fail
     exact Vf rfl rfl rfl (HB.out _ (zN _ _))
    ·obtain⟨a,ha,htree⟩:=JN hok
     have hga:=hknown hok
     rw[hok] at hga
     obtain⟨n9,lv,xs,A',c',fk',lk',b',e9,-,-,hnode,hv,hits,hsp,hcl⟩:=C4.known _ _ hga
     rw[pS] at hnode hsp
     simp only[Value.agg.injEq,Array.mk.injEq,List.cons.injEq,Value.int.injEq,Value.bool.injEq,Value.slice.injEq,true_and,and_true] at hv
     obtain⟨rfl,⟨rfl,rfl,rfl⟩,-,-,-,-,-,-,rfl⟩:=hv
     have hmay9:=(Qa hnode).1
     have hxs:=fun y hy=>((Qa hnode).2.1 y hy).1
     have hlen:xs.length≤5:=by unfold Qe jz at hmay9;simp at hmay9;omega
     have hvo:Xw S root next=Zj next [] (Qn S lv xs):=by
      unfold Xw
      rw[e9,Int.toNat_natCast,hnode]
      show Zj next [] (Qn S (lv:Int).toNat xs)=_
      rw[Int.toNat_natCast]
     have hsp9:(Qd S lv xs).isSome=true:=hsp.1.symm
     have hcl9:0<lv→∀ y∈xs,(g y.r).isSome=true:=hcl rfl
     replace C4:=zH C4
     replace C3:=zH C3
     replace hok:=zH hok
     replace hits:=zH hits
     replace hsp9:=zH hsp9
     replace hcl9:=zH hcl9
     replace hxs:=zH hxs
     replace hvo:=zH hvo
     replace hnode:=zH hnode
     replace htree:=zH htree
     replace hga:=zH hga
     replace ha:=zH ha
     replace e9:=zH e9
     have kp4:=qa pw4
     have hzw4:w.heap.size<w4.heap.size:=by omega
     clear hknown hgr hm hg hn HLR kp pw3 hsp hcl hmay9
     go_wp2_with fail
     generalize hw5:World.alloc w4 _=w5
     have x45:Ext w4 w5:=by rw[←hw5];exact zN _ _
     clear hw5
     have x5:=x4.trans (Below.mono x45 (by omega))
     have pw5:=qb pw4 x45
     have C5:=C4.out.ext x45
     have hits5:=hits.out.keep x45.size (fun q _ hq=>Below.cell x45 hq)
     have I5:VolI p w5 w5 [] (.slice none 0 0) ca (fun _=>0) (fun _=>0):=by
      refine⟨⟨Off.refl (zM _),?_,hca.out,fun i _=>by rw[pca],(zG.1 C5.row).1⟩,World.ownsRow_nil _ _ _ _⟩
      have:=C5.row
      rwa [pca] at this
     have HV:=qeO p w5 g (fun _=>0) (fun _=>0) (.slice A1 n1 c1) (.slice A2 n2 c2) (.slice A3 n3 c3) (.slice A4 n4 c4) gen root next (.slice A5 dead.length c5) C5 lv xs A c [] (.slice none 0 0) ca w5 I5 (by simp) hxs.out hlen hits5 (by rw[pS];exact hsp9.out) hcl9.out
     rw[pcb,pS] at HV
     refine HV.mono ?_
     rintro e w6 ⟨F6,hm6⟩
     clear HV I5
     have x6:Below w.heap.size w w6:=⟨F6.os.trans x5.os,F6.tape.trans x5.tape,F6.output.trans x5.output,Nat.le_trans x5.size F6.size,fun k hk=>(F6.block k (Nat.lt_of_lt_of_le hk x5.size) (by omega) (by simp[Value.ownBlock])).trans (x5.block k hk)⟩
     have hz5:w.heap.size<w5.heap.size:=by have:=x45.size;omega
     have hzw6:w.heap.size<w6.heap.size:=by have:=F6.size;omega
     have hcb5:cb<w5.heap.size:=by have:=x45.size;omega
     have hmb5:mb<w5.heap.size:=by have h1:=C3.out.low.2.2.1;rw[pmb,plo] at h1;have:=x45.size;omega
     have hcb6:cb<w6.heap.size:=by have:=x45.size;have:=F6.size;omega
     have hmb6:mb<w6.heap.size:=by have h1:=C3.out.low.2.2.1;rw[pmb,plo] at h1;have:=x45.size;have:=F6.size;omega
     rcases hgo:Zj next [] (Qn S lv xs) with _|vs
     ·rw[hgo] at hm6
      obtain rfl:e=.returned (.int .i64 8):=hm6
      have HB:=zH (YE.bad (S:=S) (next:=next) (root:=root) (dead:=dead) x6 (fun vs hp=>by have:=hp.vols;rw[hvo.out,hgo] at this;cases this))
      clear kp4 pw4 pw5 F6 x45
      replace C5:=zH C5
      go_wp2_with fail
      exact Vf rfl rfl rfl HB.out
     ·rw[hgo] at hm6
      obtain⟨rfl,vv,ca6,V6,N6⟩:=hm6
      clear N6
      have pw6:=(F6.block w.heap.size hz5 (by omega) (by simp[Value.ownBlock])).trans pw5
      have kp6:=qa pw6
      clear kp4 pw4 pw5 F6 x45
      replace C5:=zH C5
      replace V6:=zH V6
      replace hgo:=zH hgo
      replace hits5:=zH hits5
      obtain⟨i0,hi,hz0,hz1,hz2⟩:=info_parts Tryz.info_int
      go_wp2_with (at_builtin;refine qZ ?_)
      have hda:Rd (w6.alloc (.cells #[.int .i64 root] 3)) w.heap.size 1 A5 dead.length (dead.map fun (a:Int)=>Value.int .i64 a):=by
       obtain⟨A',c',e,_,_,hr⟩:=hd.out
       cases e
       exact(hr.below x6).alloc (by omega) _
      have o7:(w6.alloc (.cells #[.int .i64 root] 3)).ownsRow w6.heap.size 3 1 (.slice (some ⟨w6.heap.size,0,none⟩) 1 1) 1 [.int .i64 root]:=World.ownsRow_lit (base:=w6.heap.size) (e:=3) (size:=1) w6 #[.int .i64 root] 1 (zM _) (by unfold maxLen;omega) rfl
      refine Qy.go (Qq _ rfl (.tmp 48) (.tmp 50) 30 rfl w6.heap.size 3 i0 (.int .i64 0) 1 8 Tryz.underlying30 hi hz0 hz1 hz2 rfl (by decide) _ 1 [.int .i64 root] rfl o7 w.heap.size A5 dead.length c5 (dead.map fun (a:Int)=>Value.int .i64 a) rfl hda (by simp[Value.oneCell']) (by omega) (by decide) (by simp) ?_)
      intro v7 w7 o8 g7 hB7 hv7
      have x67:Ext w6 w7:=Below.trans (zN w6 _) hB7
      have I1:R1 w6 root dead vs v7 (.int .i64 0) w7:=⟨0,Nat.zero_le _,rfl,by
       have e:TN (JE root dead vs 0)=[.int .i64 root]++dead.map fun (a:Int)=>Value.int .i64 a:=by unfold JE TN;simp
       rw[e]
       exact o8,x67⟩
      have V7:=V6.out.ext x67
      have pw7:=qb pw6 x67
      obtain⟨AV,cV,rfl,hcv1,hcv2⟩:=qv V7.own
      have kc7:w7.cell? ⟨cb,518,none⟩=some (.slice AV vs.length cV):=by rw[←pcb,qa V7.t.row];exact V7.t.ar.vol
      have hvs16:vs.length≤16:=Vh next _ _ _ (by simp) hgo.out
      replace I1:=zH I1
      replace V7:=zH V7
      replace x67:=zH x67
      clear o7 o8 g7 hv7 hB7 hda hi hz0 hz1 hz2 hcv1 hcv2 kp6
      go_wp2_with fail
      clear kc7
      go_loopw [5,57] (fun v i wr=>R1 w6 root dead vs v i wr) (fun _ i _=>vs.length-(intOf i).toNat)
      case atStart=>exact I1.out
      case round =>
       obtain⟨k,hk,rfl,own,xr⟩:=hrel.ex
       clear I1
       by_cases hlt:k<vs.length
       ·have hlt':=hlt
        obtain⟨bv,offv,eA,hbv,hcel⟩:=(Rd.of_own (V6.out.ext xr).own).2 (by omega)
        subst eA
        obtain⟨d0,d1,d2,d3⟩:=Yk vs k hlt'
        replace d0:=hcel _ _ d0
        replace d1:=hcel _ _ d1
        replace d2:=hcel _ _ d2
        replace d3:=hcel _ _ d3
        have HSU:=zH (qcJ root dead vs hlt')
        generalize vs[k]=u at *
        clear hcel
        rw[←Nat.add_assoc] at d1 d2 d3
        obtain⟨AR,cR,rfl,hcr1,hcr2⟩:=qv own
        obtain⟨i0,hi,hz0,hz1,hz2⟩:=info_parts Tryz.info_int
        replace own:=zH own
        replace xr:=zH xr
        clear hcr1 hcr2
        go_upto_region 11 with fail
        generalize hw9:World.alloc wr _=w9
        have x9:Ext wr w9:=by rw[←hw9];exact zN _ _
        have u9:w9.heap[wr.heap.size]?=some (.cells (vol4 u) 40 (0,0)):=by rw[←hw9];exact zI _ _ _ rfl
        have ku9:=qa u9
        clear hw9 d0 d1 d2 d3 u9
        go_wp2_with (at_builtin;refine qZ ?_)
        refine Qy.go (ZM _ rfl (.tmp 61) (.tmp 64) 30 rfl w6.heap.size 3 i0 (.int .i64 0) 1 8 Tryz.underlying30 hi hz0 hz1 hz2 rfl (by decide) _ _ _ rfl (QP own.out x9) #[.int .i64 u.root] rfl rfl (by simp[Value.oneCell']) (by omega) (by decide) (Nat.le_trans xr.out.size x9.size) ?_)
        intro v8 w8 own8 _ hB8 _
        have IR:R1 w6 root dead vs v8 (.int .i64 ((k:Int)+1)) w8:=⟨k+1,hlt',rfl,by
         rw[HSU.out,qim]
         exact own8,Below.trans (Below.trans xr.out (Below.mono x9 xr.out.size)) hB8⟩
        replace IR:=zH IR
        clear own8 hB8 hi hz0 hz1 hz2
        go_wp2_with fail
        refine⟨IR.out,?_⟩
        simp[intOf]
        omega
       ·have hke:k=vs.length:=by omega
        subst hke
        have VW:=V6.out.ext xr
        have CW:=VW.t.cen C5.out
        have hRl:(Zl root dead vs).length=1+dead.length+vs.length:=by rw[←Uw];exact qey root dead vs (zM _)
        rw[Uw,←hRl] at own
        obtain⟨AR,cR,rfl,hcr1,hcr2⟩:=qv own
        obtain⟨N,hN⟩:∃ N,N=(Zl root dead vs).length:=⟨_,rfl⟩
        rw[←hN] at own hRl ⊢
        have I2:R2 p wr (.slice AV vs.length cV) (Zl root dead vs) (.int .i64 0) wr:=⟨0,g,ca6,fun _=>0,fun _=>0,Nat.zero_le _,rfl,CW,VW.t.ar,qR.zero _,(fun a ha=>by cases ha),(fun r hr=>by cases hr),UH.refl _ _ _⟩
        have xw:=x6.trans (Below.mono xr (by omega))
        have pwr:=qb pw6 xr
        clear hcr1 hcr2
        replace I2:=zH I2
        replace CW:=zH CW
        replace VW:=zH VW
        replace own:=zH own
        replace hRl:=zH hRl
        replace hN:=zH hN
        replace xw:=zH xw
        replace pwr:=zH pwr
        clear hrel
        generalize wr=w8 at *
        go_wp2_with fail
        go_loopw [2,3,69] (fun u v i wq=>u=.pointer (some ⟨cb,0,none⟩)∧v=.int .i64 0∧R2 p w8 (.slice AV vs.length cV) (Zl root dead vs) i wq) (fun _ _ i _=>N-(intOf i).toNat)
        case atStart=>exact⟨rfl,rfl,I2.out⟩
        case round =>
         obtain⟨rfl,rfl,hrel⟩:=hrel
         obtain⟨k,g2,ca2,refs2,nodes2,hk2,rfl,C2,N2,M2,Q2,hall,K2⟩:=hrel.ex
         clear I2
         have hRL:=hRl.out
         have hN2:=hN.out
         by_cases hlt2:k<(Zl root dead vs).length
         ·have hlt3:k<N:=by omega
          have hwk:wrap64 ((k:Int)+1)=(k:Int)+1:=IntWalk.wrap64_in _ (by omega)
          replace hwk:=zH hwk
          obtain⟨br,offr,eR,hbr,hcel⟩:=(Rd.of_own own.out).2 (by omega)
          have hbr2:=(QR own.out)
          subst eR
          have hbr3:=hbr2 br rfl
          have dk:=hcel k _ (rowI_get _ k hlt2)
          replace dk:=(World.cell?_of_block (a:=⟨br,offr+k,none⟩) (K2.block br hbr (by rw[pcb];omega) (by rw[pmb];omega))).trans dk
          have HTK:=zH (List.take_succ_eq_append_getElem hlt2)
          have HMM:=zH (List.getElem_mem hlt2)
          generalize (Zl root dead vs)[k]=r at *
          have HT:=tree_any (p.put ca2) (((Zl root dead vs).take k).map Int.toNat) (by rw[List.length_map,List.length_take];omega) r wr g2 refs2 nodes2 _ C2 N2 M2 Q2
          change Calls _ _ #[.pointer (some ⟨p.cb,0,none⟩),.int .i64 r] wr _ at HT
          rw[pcb] at HT
          replace C2:=zH C2
          replace N2:=zH N2
          replace M2:=zH M2
          replace Q2:=zH Q2
          replace hall:=zH hall
          replace K2:=zH K2
          replace hRL:=zH hRL
          replace hN2:=zH hN2
          replace hlt2:=zH hlt2
          replace HT:=zH HT
          clear hcel hbr2 hbr3
          go_wp2_with fail
          refine HT.out.mono ?_
          rintro e w9 ⟨hE,t1,t2,t3,t4,t5,t6⟩
          have K9:UH p.cb p.mb w8 w9:=K2.out.trans ⟨t1,t2,t3,t4,t5⟩
          rcases hokr:okL p.S (-1) r with _|_
          ·have x9:=K9.below xw.out (by have:=(zG.1 pwr.out).1;omega) (by rw[pcb];omega) (by rw[pmb];omega)
           have HB:=zH (YE.bad (S:=S) (next:=next) (root:=root) (dead:=dead) x9 (fun vs' hp=>by
            have h1:=hp.vols
            rw[hvo.out,hgo.out,Option.some.injEq] at h1
            subst h1
            have:=hp.ok r HMM.out
            rw[pS] at hokr
            rw[hokr] at this
            cases this))
           obtain rfl:e=.returned (.int .i64 8):=hE.trans (by show Ending.returned (.int .i64 (if okL p.S (-1) r=true then 0 else 8))=_;rw[hokr];rfl)
           replace hokr:=zH hokr
           clear t1 t2 t3 t4 t5 t6 K9 x9 hE
           go_wp2_with fail
           exact Vf rfl rfl rfl HB.out
          ·obtain⟨ca3,g3,refs3,nodes3,C9,hg9,N9,M9,Q9⟩:=t6 hokr
           have IR:R2 p w8 (.slice AV vs.length cV) (Zl root dead vs) (.int .i64 ((k:Int)+1)) w9:=by
            refine⟨k+1,g3,ca3,refs3,nodes3,hlt2.out,rfl,C9,N9,?_,?_,?_,K9⟩
            ·rw[HTK.out,List.map_append];exact M9
            ·rw[HTK.out,List.map_append];exact Q9
            ·intro r' hr'
             rw[HTK.out] at hr'
             rcases List.mem_append.1 hr' with h1|h1
             ·exact hall.out r' h1
             ·rw[List.mem_singleton.1 h1];exact hokr
           replace IR:=zH IR
           obtain rfl:e=.returned (.int .i64 0):=hE.trans (by show Ending.returned (.int .i64 (if okL p.S (-1) r=true then 0 else 8))=_;rw[hokr];rfl)
           replace hokr:=zH hokr
           clear hE t1 t2 t3 t4 t5 t6 K9 C9 hg9 N9 M9 Q9
           go_wp2_with fail
           rw[hwk.out]
           refine⟨⟨rfl,rfl,IR.out⟩,?_⟩
           simp[intOf]
           omega
         ·have hke2:k=(Zl root dead vs).length:=by omega
          have hlt3:¬k<N:=by omega
          rw[hke2,List.take_length] at M2 Q2 hall
          have k9:=qa C2.row
          have hkN:k=N:=by omega
          replace hke2:=zH hke2
          replace hall:=zH hall
          replace C2:=zH C2
          replace M2:=zH M2
          replace Q2:=zH Q2
          replace K2:=zH K2
          replace N2:=zH N2
          clear hrel hk2 hlt2 hRL hN2
          have hz8:w.heap.size<w8.heap.size:=(zG.1 pwr.out).1
          have x9:Below w.heap.size w wr:=K2.out.below xw.out (by omega) (by rw[pcb];omega) (by rw[pmb];omega)
          have pw9:=(K2.out.block w.heap.size hz8 (by rw[pcb];omega) (by rw[pmb];omega)).trans pwr.out
          have kp9:=qa pw9
          have rc9:=C2.out.row
          change wr.heap[p.cb]?=some (.cells ca2 _ _) at rc9
          rw[pcb] at rc9
          have hcc:∀ j v,(KH refs2)[j]?=some v→wr.cell? ⟨cb,6+j,none⟩=some v:=fun j v hj=>by
           obtain⟨h1,rfl⟩:=qgF hj
           rw[qa rc9]
           exact N2.out.ref j h1
          have hst9:=h.out.below x9
          obtain⟨A'',c'',e3,hlc,hmc,hr3⟩:=hst9.now
          have hl3:S.now.length=256:=(qU hmay'.out).2.2.1
          have hnow:∃ b3 o3,(Value.slice A3 n3 c3)=.slice (some ⟨b3,o3,none⟩) 256 c3∧∀ j,j<256→wr.cell? ⟨b3,o3+j,none⟩=some (.int .u8 ((S.now[j]?.getD 0).toNat:Int)):=by
           rw[Value.slice.injEq] at e3
           obtain⟨rfl,hn3,rfl⟩:=e3
           obtain⟨b3,o3,hA3,_,hcel3⟩:=hr3.2 (by omega)
           refine⟨b3,o3,by rw[hA3,hn3,hl3],fun j hj=>?_⟩
           exact hcel3 j _ (by rw[List.getElem?_map,zL (by omega)];rfl)
          obtain⟨b3,o3,eN,hcN⟩:=hnow
          rw[eN] at kp9
          replace hcN:=zH hcN
          replace x9:=zH x9
          clear hst9 hr3 hlc hmc pw9 rc9
          replace e3:=zH e3
          replace eN:=zH eN
          go_upto_region 20 with fail
          go_wp2_with (refine kD rfl 82 (.tmp 82) rfl cb 6 rfl (KH refs2) _ hcc Tryz.underlying82 rfl (by rw[show (KH refs2).length=256 by simp[KH]];kernel_rfl) ?_)
          clear hcc
          replace hkN:=zH hkN
          go_loopw [2,3,84] (fun u v i wq=>u=.pointer (some ⟨cb,0,none⟩)∧v=.int .i64 0∧R3 S refs2 wr i wq) (fun _ _ i _=>256-(intOf i).toNat)
          case atStart=>exact⟨rfl,rfl,0,by omega,rfl,fun a h=>absurd h (Nat.not_lt_zero _),rfl⟩
          case round =>
           obtain⟨rfl,rfl,hrel⟩:=hrel
           obtain⟨q,hq3,rfl,hle,rfl⟩:=hrel.ex
           clear hrel
           have hcnt:qR S (Qw root dead vs) refs2 nodes2:=by have:=M2.out;rw[pS] at this;exact this
           have hpool:Ql S root next dead vs:=⟨hmay'.out,h40,hok.out,hvo.out.trans hgo.out,fun r hr=>by have:=hall.out r hr;rwa [pS] at this⟩
           by_cases hl4:q<256
           ·have dN:=hcN.out q hl4
            have hix:=YM (cs:=(KH refs2).toArray) hl4 (v:=.int .i64 (refs2 q)) (by rw[List.getElem?_toArray];exact Gf refs2 hl4)
            generalize hnv:(S.now[q]?.getD 0).toNat=nv at *
            have hnv2:nv<256:=by rw[←hnv];exact UInt8.toNat_lt _
            have hwq:=zH (IntWalk.wrap64_in ((q:Int)+1) (by omega))
            replace hnv:=zH hnv
            replace hle:=zH hle
            replace hcnt:=zH hcnt
            replace hpool:=zH hpool
            rcases Nat.lt_or_ge nv (refs2 q) with hg|hg
            ·have hc1:decide ((refs2 q:Int)>(nv:Int))=true:=decide_eq_true (by omega)
             have hc2:decide (nv<refs2 q)=true:=decide_eq_true hg
             have HB:YE S root next dead w (.returned (.tuple #[.pointer none,.int .i64 8])) wr:=⟨x9.out,.inl ⟨rfl,fun vs' hp=>by
              have h1:=hp.vols
              rw[hvo.out,hgo.out,Option.some.injEq] at h1
              subst h1
              exact⟨refs2,nodes2,hcnt.out,fun he=>by have:=he q hl4;rw[hnv.out] at this;omega⟩⟩⟩
             replace HB:=zH HB
             replace hg:=zH hg
             generalize (KH refs2).toArray=arr at *
             go_wp2_with fail
             exact Vf rfl rfl rfl HB.out
            ·have hc1:decide ((refs2 q:Int)>(nv:Int))=false:=decide_eq_false (by omega)
             have hc2:decide (nv<refs2 q)=false:=decide_eq_false (by omega)
             have IR:R3 S refs2 wr (.int .i64 ((q:Int)+1)) wr:=⟨q+1,hl4,rfl,fun a ha=>by
              rcases Nat.lt_or_ge a q with h1|h1
              ·exact hle.out a h1
              ·obtain rfl:a=q:=by omega
               rw[hnv.out]
               exact hg,rfl⟩
             replace IR:=zH IR
             replace hg:=zH hg
             generalize (KH refs2).toArray=arr at *
             go_wp2_with fail
             refine⟨⟨rfl,rfl,IR.out⟩,?_⟩
             simp[intOf]
             omega
           ·have hen:QD S refs2:=fun a ha=>hle a (by omega)
            have HT:YE S root next dead w (.returned (.tuple #[.pointer (some ⟨cb,0,none⟩),.int .i64 0])) wr:=⟨x9.out,.inr ⟨vs,refs2,nodes2,cb,ca2,.slice AV vs.length cV,rfl,⟨hpool,hcnt,hen,hcw,by rw[←pcb];exact C2.out.row,N2.out,QF (own_kept VW.out.own K2.out (by rw[pcb];exact hcb5) (by rw[pmb];exact hmb5)) (by omega)⟩⟩⟩
            replace HT:=zH HT
            replace hcnt:=zH hcnt
            replace hpool:=zH hpool
            replace hen:=zH hen
            replace hle:=zH hle
            go_wp2_with fail
            exact Vf rfl rfl rfl HT.out
def zm (vs:List Vol) (id:Int):Option Vol:=vs.find? fun v=>decide (v.id=id)
abbrev YB:Vol:=⟨0,0,false,0⟩
def volQ:Option Vol→Value
 |none=>.tuple #[jK YB,.int .i64 6]
 |some v=>.tuple #[jK v,.int .i64 0]
def VolIx (vs:List Vol) (id:Int) (u:Value):Prop:=(∃ (j:Nat) (hj:j<vs.length),u=.int .i64 (j:Int)∧zm vs id=some vs[j])∨(u=.int .i64 (-1)∧zm vs id=none)
theorem qeN {vs:List Vol} {id:Int} {j:Nat} (hj:j<vs.length) (he:vs[j].id=id) (hn:∀ i (hi:i<vs.length),i<j→vs[i].id≠id):VolIx vs id (.int .i64 (j:Int)):=by
 refine .inl ⟨j,hj,rfl,?_⟩
 unfold zm
 rw[List.find?_eq_some_iff_getElem]
 exact⟨by simp[he],j,hj,rfl,fun i hi=>by simp[hn i (by omega) hi]⟩
theorem qan {vs:List Vol} {id:Int} (hn:∀ i (hi:i<vs.length),vs[i].id≠id):VolIx vs id (.int .i64 (-1)):=by
 refine .inr ⟨rfl,?_⟩
 unfold zm
 rw[List.find?_eq_none]
 intro v hv
 obtain⟨i,hi,rfl⟩:=List.mem_iff_getElem.1 hv
 simp[hn i hi]
set_option maxRecDepth 100000 in
theorem vol1_any (v:Vol) (bi:Nat) (id:Int) (w:World) (h:w.heap[bi]?=some (.cells #[.int .u32 id] 29 (0,0))) :
  Calls Tryz.prog 47 #[jK v,.pointer (some ⟨bi,0,none⟩)] w (Ret (.bool (decide (v.id=id))) w):=by
 have ki:=qa h
 have zi:bi<w.heap.size:=(zG.1 h).1
 clear h
 go_enter Tryz.func47,Tryz.ntmps47
 by_cases he:v.id=id
 ·have h1:(v.id == id)=true:=by rw[beq_iff_eq];exact he
  rw[decide_eq_true he]
  replace he:=zH he
  go_wp2
  go_ret
  exact⟨rfl,zN _ _⟩
 ·have h1:(v.id == id)=false:=by rw[beq_eq_false_iff_ne];exact he
  rw[decide_eq_false he]
  replace he:=zH he
  go_wp2
  go_ret
  exact⟨rfl,zN _ _⟩
set_option maxRecDepth 100000 in
theorem vidx_any (A:Option Addr) (c:Nat) (vs:List Vol) (hl:vs.length≤16) (bi:Nat) (id:Int) (w:World) (h:w.heap[bi]?=some (.cells #[.int .u32 id] 29 (0,0))) (hr:Rd w w.heap.size 4 A vs.length (ZC vs)) :
  Calls Tryz.prog 46 #[.slice A vs.length c,.func (.func 47) #[] #[.pointer (some ⟨bi,0,none⟩)]] w (zo (fun u _=>VolIx vs id u) w):=by
 replace hr:=zH hr
 go_enter Tryz.func46,Tryz.ntmps46
 go_wp2_with fail
 go_loopw [8] (fun i wr=>∃ k:Nat,k≤vs.length∧i=.int .i64 (k:Int)∧Ext w wr∧∀ j (hj:j<vs.length),j<k→vs[j].id≠id) (fun i _=>vs.length-(intOf i).toNat)
 case atStart=>exact⟨0,Nat.zero_le _,rfl,Ext.refl _,fun j _ hj=>absurd hj (Nat.not_lt_zero _)⟩
 case round =>
  obtain⟨k,hk,rfl,xr,hno⟩:=hrel
  replace hno:=zH hno
  by_cases hlt:k<vs.length
  ·obtain⟨bv,offv,rfl,hbv,hcel⟩:=hr.out.2 (by omega)
   obtain⟨d0,d1,d2,d3⟩:=Yk vs k hlt
   replace d0:=Ext.cell xr (hcel _ _ d0)
   replace d1:=Ext.cell xr (hcel _ _ d1)
   replace d2:=Ext.cell xr (hcel _ _ d2)
   replace d3:=Ext.cell xr (hcel _ _ d3)
   have HAT:=zH (fun he=>qeN (id:=id) hlt he fun i hi hik=>hno.out i hi hik)
   have HNO:=zH (fun (he:vs[k].id≠id) j (hj:j<vs.length) (hjk:j<k+1)=>by
    rcases Nat.lt_or_ge j k with h1|h1
    ·exact hno.out j hj h1
    ·obtain rfl:j=k:=by omega
     exact he)
   generalize vs[k]=u at *
   rw[←Nat.add_assoc] at d1 d2 d3
   clear hcel
   have hw64:=zH (IntWalk.wrap64_in ((k:Int)+1) (by omega))
   have hV:=vol1_any u bi id wr (qb h xr)
   go_wp2_with fail
   refine hV.mono ?_
   rintro e w2 ⟨rfl,hB⟩
   clear d0 d1 d2 d3 hV
   by_cases he:u.id=id
   ·rw[decide_eq_true he]
    have HQ:=zH (HAT.out he)
    clear HAT HNO
    replace he:=zH he
    go_wp2_with fail
    refine bodyPost_ret (v:=.int .i64 (k:Int)) ?_ rfl ⟨_,rfl,HQ.out,Ext.trans xr hB⟩
    simp[results,Tryz.results46,go_sem]
   ·rw[decide_eq_false he]
    have HQ:=zH (HNO.out he)
    clear HAT HNO
    replace he:=zH he
    have hw1:=hw64.out
    go_wp2_with fail
    refine⟨⟨k+1,hlt,rfl,Ext.trans xr hB,fun j hj hjk=>HQ.out j hj hjk⟩,?_⟩
    simp[intOf]
    omega
  ·obtain rfl:k=vs.length:=by omega
   have HQ:=zH (qan (id:=id) fun i hi=>hno.out i hi hi)
   go_wp2_with fail
   refine bodyPost_ret (v:=.int .i64 (-1)) ?_ rfl ⟨_,rfl,HQ.out,xr⟩
   simp[results,Tryz.results46,go_sem]
def thawO:Obj→Obj
 | .cells c t f=>if f=(0,0) then .cells c t f else .coro none
 |o=>o
def thaw (W:World):World:={ W with heap:=W.heap.map thawO }
theorem km (W:World):(thaw W).heap.size=W.heap.size:=by simp[thaw]
theorem vL (W:World) (k:Nat):(thaw W).heap[k]?=(W.heap[k]?).map thawO:=by simp[thaw]
theorem thaw_row {W:World} {b:Nat} {cs:Array Value} {t:TypeId} (h:W.heap[b]?=some (.cells cs t (0,0))):(thaw W).heap[b]?=some (.cells cs t (0,0)):=by
 rw[vL,h]
 rfl
theorem jJ {w w':World} {q:Addr} (h:w'.heap[q.block]?=w.heap[q.block]?):(thaw w').cell? q=(thaw w).cell? q:=
 World.cell?_of_block (by rw[vL,vL,h])
theorem TS {W:World} {q:Addr} {v:Value} (h:(thaw W).cell? q=some v):W.cell? q=some v∧W.frozen? q=false:=by
 unfold World.cell? at h
 rw[vL] at h
 unfold World.cell? World.frozen?
 cases hb:W.heap[q.block]? with
 |none=>rw[hb] at h;cases h
 |some o =>
  rw[hb] at h
  cases o with
  |cells c e f =>
   simp only[Option.map_some,thawO] at h
   by_cases hf:f=(0,0)
   ·subst hf
    rw[if_pos rfl] at h
    exact⟨h,by simp⟩
   ·rw[if_neg hf] at h
    cases h
  |_=>simp only[Option.map_some,thawO] at h;cases h
theorem kj {W:World} {b:Nat} {cs:Array Value} {t:TypeId} (h:W.heap[b]?=some (.cells cs t (0,0))) (j:Nat):(thaw W).cell? ⟨b,j,none⟩=W.cell? ⟨b,j,none⟩:=by
 rw[qa h,qa (thaw_row h)]
def Thaw (W:World) (v:Value):Prop:=∀ a n c,v=.slice (some a) n c→0<n→∃ cs t,W.heap[a.block]?=some (.cells cs t (0,0))
theorem Thaw.of_own {w:World} {base n size:Nat} {e:TypeId} {v:Value} {xs:List Value} (h:w.ownsRow base e size v n xs):Thaw w v:=by
 intro a n' c ev hn
 rcases h.2 with ⟨rfl,rfl⟩|⟨g,cap,cur,rfl,_,hg,_⟩
 ·cases ev
 ·cases ev
  exact⟨_,_,hg⟩
def NewB (lo:Nat) (v:Value) (l:List UInt8) (W:World):Prop:=Bys W W.heap.size v l∧Zm lo v∧Thaw W v
theorem NewB.of_own {w:World} {base n:Nat} {e:TypeId} {v:Value} {l:List UInt8} (h:w.ownsRow base e 1 v n (l.map bv)):NewB base v l w:=⟨Bys.of_own h,Zm.of_own h,Thaw.of_own h⟩
theorem NewB.thaw {lo:Nat} {v:Value} {l:List UInt8} {W:World} (h:NewB lo v l W):Bys (thaw W) W.heap.size v l:=by
 obtain⟨⟨A,c,e,hc,hm,hr⟩,_,ht⟩:=h
 refine⟨A,c,e,hc,hm,hr.1,fun hn=>?_⟩
 obtain⟨b,off,e2,hb,hcs⟩:=hr.2 hn
 obtain⟨cs,t,hrow⟩:=ht ⟨b,off,none⟩ l.length c (by rw[e,e2]) hn
 exact⟨b,off,e2,hb,fun j u hu=>(kj hrow _).trans (hcs j u hu)⟩
theorem NewB.from {lo:Nat} {v:Value} {l:List UInt8} {W:World} (h:NewB lo v l W):Zm lo v:=h.2.1
section
variable {base:Nat} {e:TypeId} {size lo:Nat} {v:Value} {n:Nat} {xs:List Value} {f:Value→List Value} {l:List UInt8}
end
section
variable {α:Type} {base lo:Nat} {e:TypeId} {size:Nat} {g:α→Value→List Value} {by_:α→List UInt8}
end
end Go.Proofs.YtpbniokljofedaaGreat
