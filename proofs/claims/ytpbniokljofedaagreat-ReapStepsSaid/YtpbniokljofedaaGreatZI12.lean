/- Texts TakeW, Take, VolF, DoneX, joined. -/
import Derived.ChangeKeysEq
import Derived.Test.YtpbniokljofedaaGreatZI11
set_option linter.unusedSimpArgs false
set_option linter.unusedVariables false
set_option maxHeartbeats 8000000
open Go.Proofs.Tryz
namespace Go.Proofs.YtpbniokljofedaaGreat
open Go.RowKit
theorem qev (p:CP) (w1:World) (f:Int->Option Value) (refs nodes:Nat->Nat) (s1 s2 s3 s4:Value) (gen root next:Int) (dead:Value) (hC:Cen p w1 f):∀ h:Nat,VolsC p w1 f refs nodes s1 s2 s3 s4 gen root next dead h
 |0=>qew p w1 f refs nodes s1 s2 s3 s4 gen root next dead hC 0 fun _ e=>zO
 |h+1=>qew p w1 f refs nodes s1 s2 s3 s4 gen root next dead hC (h+1) fun h' e=>by obtain rfl:h=h':=zO;exact qev p w1 f refs nodes s1 s2 s3 s4 gen root next dead hC h
theorem ca0_ar (s1 s2 s3 s4:Value) (bb mb:Nat):Ar (ca0 s1 s2 s3 s4 bb mb) (fun _=>0) (fun _=>0) (.slice none 0 0):=by
 unfold ca0;refine⟨zA3,fun a ha=>?_,fun a ha=>?_,?_⟩
 ·rw[Array.getElem?_append_left zA2,Array.getElem?_append_right zA3];simp[Array.getElem?_replicate];omega
 ·rw[Array.getElem?_append_left zA2,Array.getElem?_append_right zA2];simp[Array.getElem?_replicate];omega
 ·rw[Array.getElem?_append_right zA3];simp
theorem ca0_low (s1 s2 s3 s4:Value) (bb mb:Nat) {i:Nat} (hi:i<6):(ca0 s1 s2 s3 s4 bb mb)[i]?=(#[s1,s2,s3,s4,.pointer (some ⟨bb,0,none⟩),.map (some mb)]:Array Value)[i]?:=by unfold ca0;rw[Array.getElem?_append_left zA2,Array.getElem?_append_left zA2]
theorem QU.empty (w:World):QU (w.alloc (.map #[] 0)) w.heap.size fun _=>none:=⟨#[],0,zI _ _ _ rfl,fun _ h=>absurd h (List.not_mem_nil),fun _=>rfl⟩
def TK (S:Sto) (root next:Int):Option (List Vol):=match qv S root.toNat with
 |none=>none
 |some (lvl,xs)=>ZG next [] (Qs S lvl.toNat xs)
def Zs (root:Int) (dead:List Int) (vs:List Vol):List Int:=(root :: dead)++vs.map (·.root)
structure zY (S:Sto) (root next:Int) (dead:List Int) (vs:List Vol):Prop where
 may:qo S=true
 few:dead.length<=40
 top:okL S (-1) root=true
 vols:TK S root next=some vs
 ok:∀ r∈Zs root dead vs,okL S (-1) r=true
def Zu (S:Sto) (refs:Nat->Nat):Prop:=∀ a,a<256->refs a<=(S.now[a]?.getD 0).toNat
def Zk (w:World) (B:Nat) (v:Value) (l:List Int):Prop:=∃ A c,v=.slice A l.length c/\l.length<=c/\c<=maxLen/\Rd w B 1 A l.length (l.map fun (a:Int)=>Value.int .i64 a)
def zF (root:Int) (dead:List Int) (vs:List Vol):List Nat:=(Zs root dead vs).map Int.toNat
structure Taken (S:Sto) (root next:Int) (dead:List Int) (vs:List Vol) (refs nodes:Nat->Nat) (lo cb:Nat) (ca:Array Value) (vv:Value) (w:World):Prop where
 pool:zY S root next dead vs
 cnt:Qr S (zF root dead vs) refs nodes
 enough:Zu S refs
 low:lo<=cb
 row:w.heap[cb]?=some (.cells ca 84 (0,0))
 ar:Ar ca refs nodes vv
 own:w.ownsRow lo 40 4 vv vs.length (ZB vs)
def YC (S:Sto) (root next:Int) (dead:List Int) (w:World) (e:Ending) (w':World):Prop:=Below w.heap.size w w' /\
 ((e=.returned (.tuple #[.pointer none,.int .i64 8])/\∀ vs,zY S root next dead vs->∃ refs nodes,Qr S (zF root dead vs) refs nodes/\¬Zu S refs) \/
  ∃ vs refs nodes cb ca vv,e=.returned (.tuple #[.pointer (some ⟨cb,0,none⟩),.int .i64 0])/\Taken S root next dead vs refs nodes w.heap.size cb ca vv w')
theorem YC.bad {S:Sto} {root next:Int} {dead:List Int} {w w':World} (hB:Below w.heap.size w w') (h:∀ vs,¬zY S root next dead vs):YC S root next dead w (.returned (.tuple #[.pointer none,.int .i64 8])) w':=
 ⟨hB,.inl ⟨rfl,fun vs hp=>absurd hp (h vs)⟩⟩
def vQ (l:List Int):List Value:=l.map fun (a:Int)=>Value.int .i64 a
theorem qhC (l:List Int) (a:Int):vQ (l++[a])=vQ l++[Value.int .i64 a]:=by simp[vQ]
theorem rowI_get (l:List Int) (k:Nat) (h:k<l.length):(vQ l)[k]?=some (.int .i64 l[k]):=by unfold vQ;rw[List.getElem?_map,zL h];rfl
def Jz (root:Int) (dead:List Int) (vs:List Vol) (k:Nat):List Int:=(root :: dead)++(vs.take k).map (·.root)
theorem qeg (root:Int) (dead:List Int) (vs:List Vol) {k:Nat} (h:k<=vs.length):(Jz root dead vs k).length=1+dead.length+k:=by unfold Jz;simp;omega
theorem qcq (root:Int) (dead:List Int) (vs:List Vol) {k:Nat} (h:k<vs.length):Jz root dead vs (k+1)=Jz root dead vs k++[vs[k].root]:=by unfold Jz;rw[List.take_succ_eq_append_getElem h,List.map_append,<-List.append_assoc];rfl
theorem Uq (root:Int) (dead:List Int) (vs:List Vol):Jz root dead vs vs.length=Zs root dead vs:=by unfold Jz Zs;rw[List.take_length]
theorem Yi (vs:List Vol):∀ k (h:k<vs.length),(ZB vs)[k*4]?=some (.int .u32 vs[k].id)/\(ZB vs)[k*4+1]?=some (.int .i64 vs[k].root)/\(ZB vs)[k*4+2]?=some (.bool vs[k].fz)/\(ZB vs)[k*4+3]?=some (.int .u32 vs[k].frm):=by
 induction vs with
 |nil=>intro k h;exact absurd h (Nat.not_lt_zero _)
 |cons v r ih =>
  intro k h;cases k with
  |zero=>exact⟨rfl,rfl,rfl,rfl⟩
  |succ k =>
   have:=ih k (by simpa using h);have e:ZB (v :: r)=[.int .u32 v.id,.int .i64 v.root,.bool v.fz,.int .u32 v.frm]++ZB r:=rfl;rw[e];have hg:∀ j,([.int .u32 v.id,.int .i64 v.root,.bool v.fz,.int .u32 v.frm]++ZB r:List Value)[(k+1)*4+j]?=(ZB r)[k*4+j]?:=fun j=>by rw[List.getElem?_append_right (by simp only[List.length_cons,List.length_nil];omega)];congr 1;simp only[List.length_cons,List.length_nil];omega
   exact⟨(hg 0).trans this.1,(hg 1).trans this.2.1,(hg 2).trans this.2.2.1,(hg 3).trans this.2.2.2⟩
theorem Qr.zero (S:Sto):Qr S [] (fun _=>0) (fun _=>0):=
 ⟨jy.walk.2 (JD.nil (fun _=>rfl) fun _=>rfl),fun a=>by have:=qad (VS fun _=>0) 256;simp only[List.length_nil];omega⟩
structure UA (cb mb:Nat) (w w':World):Prop where
 os:w'.os=w.os
 tape:w'.tape=w.tape
 output:w'.output=w.output
 size:w.heap.size<=w'.heap.size
 block:∀ k,k<w.heap.size->k≠cb->k≠mb->w'.heap[k]?=w.heap[k]?
theorem UA.refl (cb mb:Nat) (w:World):UA cb mb w w:=⟨rfl,rfl,rfl,zM _,fun _ _ _ _=>rfl⟩
theorem UA.trans {cb mb:Nat} {w w' w'':World} (h:UA cb mb w w') (h':UA cb mb w' w''):UA cb mb w w'':=
 ⟨h'.os.trans h.os,h'.tape.trans h.tape,h'.output.trans h.output,Nat.le_trans h.size h'.size,fun k h1 h2 h3=>(h'.block k (Nat.lt_of_lt_of_le h1 h.size) h2 h3).trans (h.block k h1 h2 h3)⟩
theorem UA.below {cb mb B:Nat} {w0 w w':World} (h:UA cb mb w w') (hb:Below B w0 w) (hB:B<=w.heap.size) (h1:B<=cb) (h2:B<=mb):Below B w0 w':=
 ⟨h.os.trans hb.os,h.tape.trans hb.tape,h.output.trans hb.output,Nat.le_trans hb.size h.size,fun k hk=>(h.block k zO zO zO).trans (hb.block k hk)⟩
structure R2 (p:CP) (w8:World) (vv:Value) (roots:List Int) (i:Value) (wr:World):Prop where
 ex:∃ (k:Nat) (g:Int->Option Value) (ca:Array Value) (refs nodes:Nat->Nat),k<=roots.length/\i=.int .i64 (k:Int)/\Cen (p.put ca) wr g/\Ar ca refs nodes vv/\Qr p.S ((roots.take k).map Int.toNat) refs nodes/\To p.S g ((roots.take k).map Int.toNat) /\
  (∀ r∈roots.take k,okL p.S (-1) r=true)/\UA p.cb p.mb w8 wr
section
variable {P:Program} {ops:Array Oper} {rest:List Oper} {o:Oper} {a:Act} {w:World} {Q:Exit->Act->World->Prop}
theorem qaH (g off:Nat) (ty:TypeId) (cs:List Value) (d:TypeDesc) (hc:∀ j v,cs[j]?=some v->w.cell? ⟨g,off+j,none⟩=some v) (hu:P.underlying ty=some d) (hd:(match d with | .struct _ | .array _ _=>true|_=>false)=true) (hi:(P.info? ty).map (·.size)=some cs.length) : (loadVar ty ⟨g,off,none⟩).run P w=.ok (.agg cs.toArray) w:=by
 have hl:(loadCells ⟨g,off,none⟩ cs.length).run P w=.ok cs.toArray w:=
  run_loadCells_list (P:=P) w ⟨g,off,none⟩ cs (fun j v hv=>by
   have hadd:(⟨g,off,none⟩:Addr).add j=⟨g,off+j,none⟩:=by unfold Addr.add;split <;> simp_all
   rw[hadd];exact hc j v hv)
 cases hq:P.info? ty with
 |none=>simp[hq] at hi
 |some i =>
  have hs:i.size=cs.length:=by simpa [hq] using hi
  have hagg:(isAgg ty).run P w=.ok true w:=by unfold isAgg;rw[Sem.run_bind,run_underlying hu w];cases d <;> simp_all
  simp[loadVar,Sem.run_bind,hagg,sizeOf,typeInfo,hq,hs,hl]
theorem TL (fG:o.guard=none) (ty:TypeId) (x:Operand) (ho:o.op=.load ty x) (g off:Nat) (hx:a.eval x=.pointer (some ⟨g,off,none⟩)) (cs:List Value) (d:TypeDesc) (hc:∀ j v,cs[j]?=some v->w.cell? ⟨g,off+j,none⟩=some v) (hu:P.underlying ty=some d) (hd:(match d with | .struct _ | .array _ _=>true|_=>false)=true) (hi:(P.info? ty).map (·.size)=some cs.length) (h:wpList P ops Q rest (a.put o.dst (.agg cs.toArray)) w):wpList P ops Q (o :: rest) a w:=by
 refine wpList_plain fG fun K hK=>?_;unfold Oper.wp execOp;simp only[ho,hx,Instr.loadAt,Instr.sureAddr,Sem.run_bind,Sem.run_pure,Result.andThen_ok,qaH g off ty cs d hc hu hd hi];exact hK _ _ h
end
def UW (f:Nat->Nat):List Value:=(List.range 256).map fun a=>Value.int .i64 ((f a:Nat):Int)
theorem qcN (f:Nat->Nat) {k:Nat} (h:k<256):(UW f)[k]?=some (.int .i64 ((f k:Nat):Int)):=by unfold UW;rw[List.getElem?_map,List.getElem?_range h];rfl
theorem arrI_lt {f:Nat->Nat} {j:Nat} {v:Value} (h:(UW f)[j]?=some v):j<256/\v=.int .i64 ((f j:Nat):Int):=by
 have hj:j<256:=by have:=(List.getElem?_eq_some_iff.1 h).1;simpa [UW] using this
 rw[qcN f hj] at h;cases h;exact⟨hj,rfl⟩
structure R3 (S:Sto) (refs:Nat->Nat) (w9:World) (i:Value) (wr:World):Prop where
 ex:∃ k:Nat,k<=256/\i=.int .i64 (k:Int)/\(∀ a,a<k->refs a<=(S.now[a]?.getD 0).toNat)/\wr=w9
theorem own_kept {cb mb:Nat} {w w':World} {base n size:Nat} {e:TypeId} {v:Value} {xs:List Value} (h:w.ownsRow base e size v n xs) (hk:UA cb mb w w') (h1:cb<base) (h2:mb<base):w'.ownsRow base e size v n xs:=by
 refine⟨h.1,?_⟩;rcases h.2 with h0|⟨g,cap,cur,hv,hb,hg,hr⟩
 ·exact .inl h0
 ·exact .inr ⟨g,cap,cur,hv,hb,(hk.block g (zG.1 hg).1 zO zO).trans hg,hr⟩
structure R1 (w6:World) (root:Int) (dead:List Int) (vs:List Vol) (v i:Value) (wr:World):Prop where
 ex:∃ k:Nat,k<=vs.length/\i=.int .i64 (k:Int)/\wr.ownsRow w6.heap.size 3 1 v (1+dead.length+k) (vQ (Jz root dead vs k))/\Ext w6 wr
def outOn (lo B:Nat) (A1:Option Addr) (n1 c1:Nat) (A2:Option Addr) (n2:Nat) (n3:Nat) (A4:Option Addr) (n4 c4:Nat) (S:Sto):qS:=⟨Nat,fun b=>.pointer (some ⟨b,0,none⟩),fun b W=>∃ A3' c3',OnB lo b (.slice A1 n1 c1) (.slice A2 n2 n2) (.slice A3' n3 c3') (.slice A4 n4 c4) S W/\Ze lo (.slice A3' n3 c3')⟩
theorem UM (lo B:Nat) (A1:Option Addr) (n1 c1:Nat) (A2:Option Addr) (n2:Nat) (n3:Nat) (A4:Option Addr) (n4 c4:Nat) (S:Sto) (b:Nat):(outOn lo B A1 n1 c1 A2 n2 n3 A4 n4 c4 S).f b=.pointer (some ⟨b,0,none⟩):=rfl
theorem qch (lo B:Nat) (A1:Option Addr) (n1 c1:Nat) (A2:Option Addr) (n2:Nat) (n3:Nat) (A4:Option Addr) (n4 c4:Nat) (S:Sto):∀ p,QJ ((outOn lo B A1 n1 c1 A2 n2 n3 A4 n4 c4 S).φ p):=fun p W W' he ⟨A,c,⟨h1,h2,h3⟩,h4⟩=>⟨A,c,⟨h1,qb h2 he,h3.ext he⟩,h4⟩
def qcg (lo:Nat):qS:=⟨Nat,fun b=>.map (some b),fun b W=>lo<=b/\b<W.heap.size/\QU W b fun _=>none⟩
theorem XU (lo b:Nat):(qcg lo).f b=.map (some b):=rfl
theorem qaB (lo:Nat):∀ p,QJ ((qcg lo).φ p):=fun p W W' he ⟨h1,h2,h3⟩=>⟨h1,Nat.lt_of_lt_of_le h2 he.size,h3.of_heap (he.block p h2)⟩
theorem run_mm (t:TypeId) (W:World):(Instr.makeMap t none).run prog W=.ok (.map (some W.heap.size)) (W.alloc (.map #[] 0)):=rfl
theorem run_bx (cs:Array Value) (t:TypeId) (W:World):(Instr.box t (.agg cs)).run prog W=.ok (.pointer (some ⟨W.heap.size,0,none⟩)) (W.alloc (.cells cs t)):=rfl
theorem qaG {cs:Array Value} {k:Nat} {v:Value} (hk:k<256) (hv:cs[k]?=some v) (W:World):(Instr.index 82 (.agg cs) (.int .i64 (k:Int))).run prog W=.ok v W:=by obtain⟨i0,hi,aY,aV,aX⟩:=info_parts Tryz.info_int;have hp:=run_part_plain (P:=prog) (w:=W) (e:=3) zQ hv;have h0:(0:Int)<=(k:Int)/\(k:Int)<256:=zO;simp[Instr.index,asIntOf,run_underlying underlying82,h0,sizeOf,typeInfo,hi,aV,hp,Sem.run_bind];intro iD;omega
theorem vT {R:Ending->World->Prop} {a:Act} {W:World} {u v:Value} (h2:a.tmps[2]?.getD undef=u) (h3:a.tmps[3]?.getD undef=v) (hd:a.defers=[]) (hR:R (.returned (.tuple #[u,v])) W):bodyPost prog Tryz.f45 R .ret a W:=by refine bodyPost_ret (v:=.tuple #[u,v]) ?_ hd hR;simp[results,results45,go_sem,h2,h3]
set_option maxRecDepth 100000 in
theorem Tg (A1:Option Addr) (n1 c1:Nat) (A2:Option Addr) (n2 c2:Nat) (A3:Option Addr) (n3 c3:Nat) (A4:Option Addr) (n4 c4:Nat) (gen root next:Int) (A5:Option Addr) (c5:Nat) (S:Sto) (dead:List Int) (w:World) (h:qU w w.heap.size (.slice A1 n1 c1) (.slice A2 n2 c2) (.slice A3 n3 c3) (.slice A4 n4 c4) S) (hd:Zk w w.heap.size (.slice A5 dead.length c5) dead):Calls prog 45 #[.agg (qB (.slice A1 n1 c1) (.slice A2 n2 c2) (.slice A3 n3 c3) (.slice A4 n4 c4) gen root next (.slice A5 dead.length c5))] w (YC S root next dead w):=by
 have HCK:=zH (fun W (hx:Ext w W)=>jP A1 n1 c1 A2 n2 c2 A3 n3 c3 A4 n4 c4 S W (h.ext hx));have HNL:qo S=true->S.now.length<1073741824:=fun hm=>by have:=(qQ hm).2.2.1;omega
 have HON:=zH (fun (hm:qo S=true) W (hx:Ext w W)=>qfA A1 n1 c1 A2 n2 c2 A3 n3 c3 A4 n4 c4 S (HNL hm) W (h.ext hx));replace h:=zH h;replace hd:=zH hd;clear HNL;go_enter func45,ntmps45;go_wp2_with fail;generalize aA:World.alloc w _=w1;have x1:Ext w w1:=by rw[<-aA];exact zN _ _
 have p1:w1.heap[w.heap.size]?=some (.cells (qB (.slice A1 n1 c1) (.slice A2 n2 c2) (.slice A3 n3 c3) (.slice A4 n4 c4) gen root next (.slice A5 dead.length c5)) 32 (0,0)):=by rw[<-aA];exact zI _ _ _ rfl
 clear aA;refine(HCK.out w1 x1).mono ?_;rintro e w2 ⟨rfl,hB⟩;have x2:=x1.trans hB;have p2:=qb p1 hB;have k2:=qa p2;clear hB p1 x1 HCK;rcases hmay:qo S with _|_
 ·unfold Jh;have HB:=zH (YC.bad (S:=S) (next:=next) (root:=root) (dead:=dead) x2 (fun vs hp=>by have:=hp.may;rw[hmay] at this;cases this));replace hmay:=zH hmay;go_wp2_with fail;exact vT rfl rfl rfl HB.out
 ·unfold Jh;rcases Nat.lt_or_ge 40 dead.length with h40|h40
  ·have hq:decide ((dead.length:Int)>40)=true:=decide_eq_true zO;have HB:=zH (YC.bad (S:=S) (next:=next) (root:=root) (dead:=dead) x2 (fun vs hp=>by have:=hp.few;omega));replace hmay:=zH hmay;go_wp2_with fail;exact vT rfl rfl rfl HB.out
  ·have hq:decide ((dead.length:Int)>40)=false:=decide_eq_false zO;have iq:=zH hmay;clear hmay;go_wp2_with fail;have gP:∀ W,qk.r w2 W->∀ i,W.cell? ⟨w.heap.size,i,none⟩=(qB (.slice A1 n1 c1) (.slice A2 n2 c2) (.slice A3 n3 c3) (.slice A4 n4 c4) gen root next (.slice A5 dead.length c5))[i]?:=fun W h=>qa (qb p2 h);have aX:w.heap.size<w2.heap.size:=(zG.1 p2).1;refine qm zQ ?_;refine qL (w:=w2) qk (qD [(4,outOn w2.heap.size w2.heap.size A1 n1 c1 A2 n2 n3 A4 n4 c4 S),(5,qcg w2.heap.size)])
    [true,true,true,true,true,true,true] 2 zQ zQ zQ zQ zQ zQ zQ ?st (Rel.drew _ _) ?walk
   case st=>exact qj (by simp only[List.forall_mem_cons];exact⟨fun p=>QI (qch _ _ _ _ _ _ _ _ _ _ _ _ p),fun p=>QI (qaB _ p),fun _ h=>by cases h⟩)
   case walk =>
    intro K hK;dsimp only[qp];repeat ((first|(refine qd ?_ zA0 zA0 (fun W hW _=>⟨W,?_,Rel.refl _ W⟩) ?_;rotate_left;(go_simp<;>with_reducible rfl))|(refine qh zA0 ?_));try simp only[Act.put,ql,qf,qc,qg,qc,UM,XU,zA,zB,zC])
    refine qw (outOn w2.heap.size w2.heap.size A1 n1 c1 A2 n2 n3 A4 n4 c4 S) zA0 zA0 (fun W hW _=>?_) (fun (bb:Nat)=>?_)
    ·have iW:Ext w2 W:=hW;refine Qb ?_ ((HON.out iq.out W (x2.trans iW)).mono fun e w' h=>?_)
     ·go_simp
     ·obtain⟨u,rfl,⟨b,A3',c3',rfl,h1,h2⟩,h3⟩:=h;exact⟨b,rfl,⟨A3',c3',⟨Nat.le_trans iW.size h1.1,h1.2⟩,h2.mono iW.size⟩,h3⟩
    simp only[Act.put,qf,qc,qg,qc,UM,XU,zA,zB,zC];refine qw (qcg w2.heap.size) zA0 zA0 (fun W hW _=>?_) (fun (mb:Nat)=>?_)
    ·have iW:Ext w2 W:=hW;have hmm:=run_mm 81 W;refine ZW (u:=.map (some W.heap.size)) (w':=W.alloc (.map #[] 0)) ?_ ⟨W.heap.size,rfl,⟨iW.size,zA3,QU.empty W⟩,zN _ _⟩;go_simp
    simp only[Act.put,qf,qc,qg,qc,UM,XU,zA,zB,zC];refine qd (.agg (ca0 (.slice A1 n1 c1) (.slice A2 n2 c2) (.slice A3 n3 c3) (.slice A4 n4 c4) bb mb)) zA0 zA0 (fun W hW _=>⟨W,?_,Rel.refl _ W⟩) ?_
    ·go_simp;exact ca_eq _ _ _ _ _ _
    simp only[Act.put,qf,qc,qg,qc,UM,XU,zA,zB,zC];refine qt (hK _ _ fun W hW hF=>?_);have iW:Ext w2 W:=hW;have HO:=(hF 4).1;have HM:=(hF 5).1;clear hF hK gP;change ∃ A3' c3',_ at HO;change w2.heap.size<=mb/\mb<W.heap.size/\QU W mb _ at HM;obtain⟨A3',c3',hon,hfr⟩:=HO;obtain⟨hm1,iL,yB⟩:=HM;obtain⟨bD,aC,aH⟩:=hon;have xW:=x2.trans iW;have pW:=qb p2 iW;refine zB5 ?_;have hca:=ca0_ar (.slice A1 n1 c1) (.slice A2 n2 c2) (.slice A3 n3 c3) (.slice A4 n4 c4) bb mb;have sQ:∀ i,i<6->(ca0 (.slice A1 n1 c1) (.slice A2 n2 c2) (.slice A3 n3 c3) (.slice A4 n4 c4) bb mb)[i]?=(#[.slice A1 n1 c1,.slice A2 n2 c2,.slice A3 n3 c3,.slice A4 n4 c4,.pointer (some ⟨bb,0,none⟩),.map (some mb)]:Array Value)[i]?:=fun i hi=>ca0_low _ _ _ _ _ _ hi;generalize (ca0 (.slice A1 n1 c1) (.slice A2 n2 c2) (.slice A3 n3 c3) (.slice A4 n4 c4) bb mb)=ca at *;have sN:=run_bx ca;replace hca:=zH hca;replace sQ:=zH sQ;clear hW iW x2 p2;go_wp2_with fail;refine Qm ?_;have hcc:W.heap.size=W.heap.size:=rfl;obtain⟨cb,uJ⟩:∃ cb,cb=W.heap.size:=⟨_,rfl⟩
    generalize aO:World.alloc W _=w3;have x3:Ext W w3:=by rw[<-aO];exact zN _ _
    have r3:w3.heap[cb]?=some (.cells ca 84 (0,0)):=by rw[<-aO];exact zI _ _ _ uJ
    have z3:w3.heap.size=cb+1:=by rw[<-aO,uJ];simp
    clear aO hcc;have hbb:bb<W.heap.size:=(zG.1 aC).1;have xw3:=xW.trans x3;have C3:Cen ⟨S,w.heap.size,w3.heap.size,cb,bb,mb,ca,.slice A1 n1 c1,.slice A2 n2 c2,.slice A3 n3 c3,.slice A4 n4 c4,.slice A1 n1 c1,.slice A2 n2 n2,.slice A3' n3 c3',.slice A4 n4 c4⟩ w3 (fun _=>none):={
     row:=r3
     c0:=sQ.out 0 zO
     c1:=sQ.out 1 zO
     c2:=sQ.out 2 zO
     c3:=sQ.out 3 zO
     c4:=sQ.out 4 zO
     c5:=sQ.out 5 zO
     map:=yB.of_heap (x3.block _ iL)
     known:=fun a v hv=>by cases hv
     sto:=h.out.below xw3
     on:=qb aC x3
     onb:=(h.out.below xw3).bs
     onw:=(h.out.below xw3).ws.clip
     onl:=(h.out.below xw3).last
     onn:=(aH.now.below x3).more x3.size
     onf:=fun A n c e=>by have hn:=(Bys.at_ aH.now).2.2.2;have hl:=(qQ iq.out).2.2.1;have wZ:=(Bys.at_ aH.now).1;obtain⟨b,off,hA,hb⟩:=hn zO;have e':Value.slice A3' n3 c3'=.slice (some A) n c:=e;rw[hA] at e';simp only[Value.slice.injEq,Option.some.injEq] at e';rw[<-e'.1];show b≠cb;omega
     low:=by
      show cb<w3.heap.size/\bb<w3.heap.size/\mb<w3.heap.size/\cb≠mb/\bb≠mb/\w3.heap.size<=w3.heap.size/\w.heap.size<=cb/\w.heap.size<=bb/\w.heap.size<=mb/\cb≠bb;have aN:bb≠mb:=by rintro rfl;obtain⟨es,clock,h1,_⟩:=yB;rw[aC] at h1;cases h1
      omega
     may:=iq.out }
    rw[<-uJ];have pw3:=qb pW x3;have hcw:w.heap.size<=cb:=zO;have aO:w.heap.size<cb:=by have:=(zG.1 pW).1;omega
    generalize iF:(⟨S,w.heap.size,w3.heap.size,cb,bb,mb,ca,.slice A1 n1 c1,.slice A2 n2 c2,.slice A3 n3 c3,.slice A4 n4 c4,.slice A1 n1 c1,.slice A2 n2 n2,.slice A3' n3 c3',.slice A4 n4 c4⟩:CP)=p at C3;have pS:p.S=S:=by rw[<-iF]
    have yN:p.cb=cb:=by rw[<-iF]
    have pmb:p.mb=mb:=by rw[<-iF]
    have plo:p.lo=w3.heap.size:=by rw[<-iF]
    have pca:p.ca=ca:=by rw[<-iF]
    have hmb:w.heap.size<mb:=by have:=(zG.1 pW).1;omega
    clear iF sN yB aH aC hfr pW x3 r3 z3 bD hm1 iL hbb uJ;have kp:=qa pw3;go_wp2_with fail;have HLR:=Gp p root w3 _ C3;rw[yN] at HLR;refine HLR.mono ?_;rintro e w4 ⟨v,g,rfl,⟨lvl,A,n,c,fk,lk,rfl,bZ⟩,bP,hm,hg,hn⟩;have C4:=C3.after bP hm hg hn;rw[pS] at bZ ⊢;have hz3:cb<w3.heap.size:=by rw[<-yN];exact(zG.1 C3.row).1
    have x4:Below w.heap.size w w4:=xw3.grown hg zO (fun q hq=>by cases hq;rw[pmb];omega);have pw4:=(hg.block w.heap.size zO zA2).trans pw3;have z4:=hg.size;have hcb4:cb<w4.heap.size:=by rw[<-yN];exact(zG.1 C4.row).1
    rcases hok:okL S (-1) root with _|_
    ·have HB:=zH (fun W (hx:Ext w4 W)=>YC.bad (S:=S) (next:=next) (root:=root) (dead:=dead) (x4.trans (Below.mono hx zO)) (fun vs hp=>by have:=hp.top;rw[hok] at this;cases this));replace C4:=zH C4;replace C3:=zH C3;replace hok:=zH hok;clear bZ bP hm hg hn HLR kp pw3 pw4;go_wp2_with fail;exact vT rfl rfl rfl (HB.out _ (zN _ _))
    ·obtain⟨a,ha,mf⟩:=VU hok;have hga:=bZ hok;rw[hok] at hga;obtain⟨n9,lv,xs,A',c',nG,lk',b',e9,-,-,hnode,hv,aG,aU,bJ⟩:=C4.known _ _ hga;rw[pS] at hnode aU;simp only[Value.agg.injEq,Array.mk.injEq,List.cons.injEq,Value.int.injEq,Value.bool.injEq,Value.slice.injEq,true_and,and_true] at hv;obtain⟨rfl,⟨rfl,rfl,rfl⟩,-,-,-,-,-,-,rfl⟩:=hv;have hBA:=(Qc hnode).1;have oq:=fun y hy=>((Qc hnode).2.1 y hy).1;have hlen:xs.length<=5:=by unfold Qe jv at hBA;simp at hBA;omega
     have hvo:TK S root next=ZG next [] (Qs S lv xs):=by
      unfold TK;rw[e9,Int.toNat_natCast,hnode];show ZG next [] (Qs S (lv:Int).toNat xs)=_
      rw[Int.toNat_natCast]
     have yJ:(Qg S lv xs).isSome=true:=aU.1.symm;have xq:0<lv->∀ y∈xs,(g y.r).isSome=true:=bJ rfl;replace C4:=zH C4;replace C3:=zH C3;replace hok:=zH hok;replace aG:=zH aG;replace yJ:=zH yJ;replace xq:=zH xq;replace oq:=zH oq;replace hvo:=zH hvo;replace hnode:=zH hnode;replace mf:=zH mf;replace hga:=zH hga;replace ha:=zH ha;replace e9:=zH e9;have kp4:=qa pw4;have hzw4:w.heap.size<w4.heap.size:=zO;clear bZ bP hm hg hn HLR kp pw3 aU bJ hBA;go_wp2_with fail;generalize aK:World.alloc w4 _=w5;have af:Ext w4 w5:=by rw[<-aK];exact zN _ _
     clear aK;have x5:=x4.trans (Below.mono af zO);have pw5:=qb pw4 af;have C5:=C4.out.ext af;have di:=aG.out.keep af.size (fun q _ hq=>Below.cell af hq);have I5:VolI p w5 w5 [] (.slice none 0 0) ca (fun _=>0) (fun _=>0):=by
      refine⟨⟨Off.refl (zM _),?_,hca.out,fun i _=>by rw[pca],(zG.1 C5.row).1⟩,World.ownsRow_nil _ _ _ _⟩;have:=C5.row
      rwa [pca] at this
     have HV:=qev p w5 g (fun _=>0) (fun _=>0) (.slice A1 n1 c1) (.slice A2 n2 c2) (.slice A3 n3 c3) (.slice A4 n4 c4) gen root next (.slice A5 dead.length c5) C5 lv xs A c [] (.slice none 0 0) ca w5 I5 zA3 oq.out hlen di (by rw[pS];exact yJ.out) xq.out
     rw[yN,pS] at HV;refine HV.mono ?_;rintro e w6 ⟨F6,oN⟩;clear HV I5;have x6:Below w.heap.size w w6:=⟨F6.os.trans x5.os,F6.tape.trans x5.tape,F6.output.trans x5.output,Nat.le_trans x5.size F6.size,fun k hk=>(F6.block k (Nat.lt_of_lt_of_le hk x5.size) zO (by simp[Value.ownBlock])).trans (x5.block k hk)⟩
     have hz5:w.heap.size<w5.heap.size:=by have:=af.size;omega
     have hzw6:w.heap.size<w6.heap.size:=by have:=F6.size;omega
     have hDX:cb<w5.heap.size:=by have:=af.size;omega
     have hmb5:mb<w5.heap.size:=by have h1:=C3.out.low.2.2.1;rw[pmb,plo] at h1;have:=af.size;omega
     have hcb6:cb<w6.heap.size:=by have:=af.size;have:=F6.size;omega
     have hmb6:mb<w6.heap.size:=by have h1:=C3.out.low.2.2.1;rw[pmb,plo] at h1;have:=af.size;have:=F6.size;omega
     rcases hgo:ZG next [] (Qs S lv xs) with _|vs
     ·rw[hgo] at oN;obtain rfl:e=.returned (.int .i64 8):=oN;have HB:=zH (YC.bad (S:=S) (next:=next) (root:=root) (dead:=dead) x6 (fun vs hp=>by have:=hp.vols;rw[hvo.out,hgo] at this;cases this));clear kp4 pw4 pw5 F6 af;replace C5:=zH C5;go_wp2_with fail;exact vT rfl rfl rfl HB.out
     ·rw[hgo] at oN;obtain⟨rfl,vv,ca6,V6,N6⟩:=oN;clear N6;have pw6:=(F6.block w.heap.size hz5 zO (by simp[Value.ownBlock])).trans pw5;have kp6:=qa pw6;clear kp4 pw4 pw5 F6 af;replace C5:=zH C5;replace V6:=zH V6;replace hgo:=zH hgo;replace di:=zH di;obtain⟨i0,hi,aY,aV,aX⟩:=info_parts Tryz.info_int;go_wp2_with (at_builtin;refine qI ?_);have hda:Rd (w6.alloc (.cells #[.int .i64 root] 3)) w.heap.size 1 A5 dead.length (dead.map fun (a:Int)=>Value.int .i64 a):=by obtain⟨A',c',e,_,_,hr⟩:=hd.out;cases e;exact(hr.below x6).alloc zO _
      have o7:(w6.alloc (.cells #[.int .i64 root] 3)).ownsRow w6.heap.size 3 1 (.slice (some ⟨w6.heap.size,0,none⟩) 1 1) 1 [.int .i64 root]:=World.ownsRow_lit (base:=w6.heap.size) (e:=3) (size:=1) w6 #[.int .i64 root] 1 (zM _) zA7 rfl;refine Qh.go (Qq _ rfl (.tmp 48) (.tmp 50) 30 rfl w6.heap.size 3 i0 (.int .i64 0) 1 8 underlying30 hi aY aV aX rfl zA1 _ 1 [.int .i64 root] rfl o7 w.heap.size A5 dead.length c5 (dead.map fun (a:Int)=>Value.int .i64 a) rfl hda zA8 zO zA1 zA3 ?_);intro v7 w7 o8 g7 hB7 hv7;have xQ:Ext w6 w7:=Below.trans (zN w6 _) hB7;have I1:R1 w6 root dead vs v7 (.int .i64 0) w7:=⟨0,Nat.zero_le _,rfl,by
       have e:vQ (Jz root dead vs 0)=[.int .i64 root]++dead.map fun (a:Int)=>Value.int .i64 a:=by unfold Jz vQ;simp
       rw[e];exact o8,xQ⟩
      have V7:=V6.out.ext xQ;obtain⟨AV,cV,rfl,hJK,hJL⟩:=qy V7.own;have kc7:w7.cell? ⟨cb,518,none⟩=some (.slice AV vs.length cV):=by rw[<-yN,qa V7.t.row];exact V7.t.ar.vol
      have hvs16:vs.length<=16:=vV next _ _ _ zA3 hgo.out
      replace I1:=zH I1;replace V7:=zH V7;replace xQ:=zH xQ;clear o7 o8 g7 hv7 hB7 hda hi aY aV aX hJK hJL kp6;go_wp2_with fail;clear kc7;go_loopw [5,57] (fun v i wr=>R1 w6 root dead vs v i wr) (fun _ i _=>vs.length-(intOf i).toNat)
      case atStart=>exact I1.out
      case round =>
       obtain⟨k,hk,rfl,own,xr⟩:=hrel.ex;clear I1;by_cases hlt:k<vs.length
       ·have aJ:=hlt;obtain⟨bv,uD,eA,hbv,aS⟩:=(Rd.of_own (V6.out.ext xr).own).2 zO;subst eA;obtain⟨d0,d1,d2,d3⟩:=Yi vs k aJ;replace d0:=aS _ _ d0;replace d1:=aS _ _ d1;replace d2:=aS _ _ d2;replace d3:=aS _ _ d3;have HSU:=zH (qcq root dead vs aJ);generalize vs[k]=u at *;clear aS;rw[<-Nat.add_assoc] at d1 d2 d3;obtain⟨AR,cR,rfl,hJI,hJJ⟩:=qy own;obtain⟨i0,hi,aY,aV,aX⟩:=info_parts Tryz.info_int;replace own:=zH own;replace xr:=zH xr;clear hJI hJJ;go_upto_region 11 with fail;generalize hw9:World.alloc wr _=w9;have x9:Ext wr w9:=by rw[<-hw9];exact zN _ _
        have u9:w9.heap[wr.heap.size]?=some (.cells (vol4 u) 40 (0,0)):=by rw[<-hw9];exact zI _ _ _ rfl
        have ku9:=qa u9;clear hw9 d0 d1 d2 d3 u9;go_wp2_with (at_builtin;refine qI ?_);refine Qh.go (Zc _ rfl (.tmp 61) (.tmp 64) 30 rfl w6.heap.size 3 i0 (.int .i64 0) 1 8 underlying30 hi aY aV aX rfl zA1 _ _ _ rfl (QM own.out x9) #[.int .i64 u.root] rfl rfl zA8 zO zA1 (Nat.le_trans xr.out.size x9.size) ?_);intro v8 w8 rM _ hB8 _;have IR:R1 w6 root dead vs v8 (.int .i64 ((k:Int)+1)) w8:=⟨k+1,aJ,rfl,by rw[HSU.out,qhC];exact rM,Below.trans (Below.trans xr.out (Below.mono x9 xr.out.size)) hB8⟩
        replace IR:=zH IR;clear rM hB8 hi aY aV aX;go_wp2_with fail;refine⟨IR.out,?_⟩;simp[intOf];omega
       ·have lX:k=vs.length:=zO;subst lX;have VW:=V6.out.ext xr;have CW:=VW.t.cen C5.out;have hRl:(Zs root dead vs).length=1+dead.length+vs.length:=by rw[<-Uq];exact qeg root dead vs (zM _)
        rw[Uq,<-hRl] at own;obtain⟨AR,cR,rfl,hJI,hJJ⟩:=qy own;obtain⟨N,hN⟩:∃ N,N=(Zs root dead vs).length:=⟨_,rfl⟩
        rw[<-hN] at own hRl ⊢;have I2:R2 p wr (.slice AV vs.length cV) (Zs root dead vs) (.int .i64 0) wr:=⟨0,g,ca6,fun _=>0,fun _=>0,Nat.zero_le _,rfl,CW,VW.t.ar,Qr.zero _,(fun a ha=>by cases ha),(fun r hr=>by cases hr),UA.refl _ _ _⟩
        have xw:=x6.trans (Below.mono xr zO);have pwr:=qb pw6 xr;clear hJI hJJ;replace I2:=zH I2;replace CW:=zH CW;replace VW:=zH VW;replace own:=zH own;replace hRl:=zH hRl;replace hN:=zH hN;replace xw:=zH xw;replace pwr:=zH pwr;clear hrel;generalize wr=w8 at *;go_wp2_with fail;go_loopw [2,3,69] (fun u v i wq=>u=.pointer (some ⟨cb,0,none⟩)/\v=.int .i64 0/\R2 p w8 (.slice AV vs.length cV) (Zs root dead vs) i wq) (fun _ _ i _=>N-(intOf i).toNat)
        case atStart=>exact⟨rfl,rfl,I2.out⟩
        case round =>
         obtain⟨rfl,rfl,hrel⟩:=hrel;obtain⟨k,g2,ca2,bG,rJ,hk2,rfl,C2,N2,M2,Q2,bC,K2⟩:=hrel.ex;clear I2;have hRL:=hRl.out;have xg:=hN.out;by_cases hlt2:k<(Zs root dead vs).length
         ·have hlt3:k<N:=zO;have uS:wrap64 ((k:Int)+1)=(k:Int)+1:=IntWalk.wrap64_in _ zO;replace uS:=zH uS;obtain⟨br,offr,eR,wW,aS⟩:=(Rd.of_own own.out).2 zO;have hbr2:=(Ql own.out)
          subst eR;have hbr3:=hbr2 br rfl;have dk:=aS k _ (rowI_get _ k hlt2);replace dk:=(World.cell?_of_block (a:=⟨br,offr+k,none⟩) (K2.block br wW (by rw[yN];omega) (by rw[pmb];omega))).trans dk;have HTK:=zH (List.take_succ_eq_append_getElem hlt2);have HMM:=zH (List.getElem_mem hlt2);generalize (Zs root dead vs)[k]=r at *;have HT:=tree_any (p.put ca2) (((Zs root dead vs).take k).map Int.toNat) (by rw[List.length_map,List.length_take];omega) r wr g2 bG rJ _ C2 N2 M2 Q2;change Calls _ _ #[.pointer (some ⟨p.cb,0,none⟩),.int .i64 r] wr _ at HT;rw[yN] at HT;replace C2:=zH C2;replace N2:=zH N2;replace M2:=zH M2;replace Q2:=zH Q2;replace bC:=zH bC;replace K2:=zH K2;replace hRL:=zH hRL;replace xg:=zH xg;replace hlt2:=zH hlt2;replace HT:=zH HT;clear aS hbr2 hbr3;go_wp2_with fail;refine HT.out.mono ?_;rintro e w9 ⟨hE,t1,t2,t3,t4,t5,t6⟩;have K9:UA p.cb p.mb w8 w9:=K2.out.trans ⟨t1,t2,t3,t4,t5⟩;rcases hokr:okL p.S (-1) r with _|_
          ·have x9:=K9.below xw.out (by have:=(zG.1 pwr.out).1;omega) (by rw[yN];omega) (by rw[pmb];omega);have HB:=zH (YC.bad (S:=S) (next:=next) (root:=root) (dead:=dead) x9 (fun vs' hp=>by have h1:=hp.vols;rw[hvo.out,hgo.out,Option.some.injEq] at h1;subst h1;have:=hp.ok r HMM.out;rw[pS] at hokr;rw[hokr] at this;cases this));obtain rfl:e=.returned (.int .i64 8):=hE.trans (by show Ending.returned (.int .i64 (if okL p.S (-1) r=true then 0 else 8))=_;rw[hokr];rfl);replace hokr:=zH hokr;clear t1 t2 t3 t4 t5 t6 K9 x9 hE;go_wp2_with fail;exact vT rfl rfl rfl HB.out
          ·obtain⟨ca3,g3,hUC,hLH,C9,hg9,N9,M9,Q9⟩:=t6 hokr;have IR:R2 p w8 (.slice AV vs.length cV) (Zs root dead vs) (.int .i64 ((k:Int)+1)) w9:=by
            refine⟨k+1,g3,ca3,hUC,hLH,hlt2.out,rfl,C9,N9,?_,?_,?_,K9⟩
            ·rw[HTK.out,List.map_append];exact M9
            ·rw[HTK.out,List.map_append];exact Q9
            ·intro r' lY;rw[HTK.out] at lY;rcases List.mem_append.1 lY with h1|h1
             ·exact bC.out r' h1
             ·rw[List.mem_singleton.1 h1];exact hokr
           replace IR:=zH IR;obtain rfl:e=.returned (.int .i64 0):=hE.trans (by show Ending.returned (.int .i64 (if okL p.S (-1) r=true then 0 else 8))=_;rw[hokr];rfl);replace hokr:=zH hokr;clear hE t1 t2 t3 t4 t5 t6 K9 C9 hg9 N9 M9 Q9;go_wp2_with fail;rw[uS.out];refine⟨⟨rfl,rfl,IR.out⟩,?_⟩;simp[intOf];omega
         ·have hJX:k=(Zs root dead vs).length:=zO;have hlt3:¬k<N:=zO;rw[hJX,List.take_length] at M2 Q2 bC;have k9:=qa C2.row;have hkN:k=N:=zO;replace hJX:=zH hJX;replace bC:=zH bC;replace C2:=zH C2;replace M2:=zH M2;replace Q2:=zH Q2;replace K2:=zH K2;replace N2:=zH N2;clear hrel hk2 hlt2 hRL xg;have hz8:w.heap.size<w8.heap.size:=(zG.1 pwr.out).1;have x9:Below w.heap.size w wr:=K2.out.below xw.out zO (by rw[yN];omega) (by rw[pmb];omega);have pw9:=(K2.out.block w.heap.size hz8 (by rw[yN];omega) (by rw[pmb];omega)).trans pwr.out;have kp9:=qa pw9;have rc9:=C2.out.row;change wr.heap[p.cb]?=some (.cells ca2 _ _) at rc9;rw[yN] at rc9;have hcc:∀ j v,(UW bG)[j]?=some v->wr.cell? ⟨cb,6+j,none⟩=some v:=fun j v hj=>by obtain⟨h1,rfl⟩:=arrI_lt hj;rw[qa rc9];exact N2.out.ref j h1
          have hst9:=h.out.below x9;obtain⟨A'',c'',e3,hlc,hmc,wC⟩:=hst9.now;have nJ:S.now.length=256:=(qQ iq.out).2.2.1;have hKP:∃ b3 o3,(Value.slice A3 n3 c3)=.slice (some ⟨b3,o3,none⟩) 256 c3/\∀ j,j<256->wr.cell? ⟨b3,o3+j,none⟩=some (.int .u8 ((S.now[j]?.getD 0).toNat:Int)):=by rw[Value.slice.injEq] at e3;obtain⟨rfl,wZ,rfl⟩:=e3;obtain⟨b3,o3,uI,_,hPU⟩:=wC.2 zO;refine⟨b3,o3,by rw[uI,wZ,nJ],fun j hj=>?_⟩;exact hPU j _ (by rw[List.getElem?_map,zL zO];rfl)
          obtain⟨b3,o3,eN,hcN⟩:=hKP;rw[eN] at kp9;replace hcN:=zH hcN;replace x9:=zH x9;clear hst9 wC hlc hmc pw9 rc9;replace e3:=zH e3;replace eN:=zH eN;go_upto_region 20 with fail;go_wp2_with (refine TL rfl 82 (.tmp 82) rfl cb 6 rfl (UW bG) _ hcc underlying82 rfl (by rw[show (UW bG).length=256 by simp[UW]];kernel_rfl) ?_);clear hcc;replace hkN:=zH hkN;go_loopw [2,3,84] (fun u v i wq=>u=.pointer (some ⟨cb,0,none⟩)/\v=.int .i64 0/\R3 S bG wr i wq) (fun _ _ i _=>256-(intOf i).toNat)
          case atStart=>exact⟨rfl,rfl,0,zO,rfl,fun a h=>absurd h (Nat.not_lt_zero _),rfl⟩
          case round =>
           obtain⟨rfl,rfl,hrel⟩:=hrel;obtain⟨q,nM,rfl,hle,rfl⟩:=hrel.ex;clear hrel;have xu:Qr S (zF root dead vs) bG rJ:=by have:=M2.out;rw[pS] at this;exact this
           have tK:zY S root next dead vs:=⟨iq.out,h40,hok.out,hvo.out.trans hgo.out,fun r hr=>by have:=bC.out r hr;rwa [pS] at this⟩
           by_cases hl4:q<256
           ·have dN:=hcN.out q hl4;have hix:=qaG (cs:=(UW bG).toArray) hl4 (v:=.int .i64 (bG q)) (by rw[List.getElem?_toArray];exact qcN bG hl4);generalize iw:(S.now[q]?.getD 0).toNat=nv at *;have hnv2:nv<256:=by rw[<-iw];exact UInt8.toNat_lt _
            have hwq:=zH (IntWalk.wrap64_in ((q:Int)+1) zO);replace iw:=zH iw;replace hle:=zH hle;replace xu:=zH xu;replace tK:=zH tK;rcases Nat.lt_or_ge nv (bG q) with hg|hg
            ·have dV:decide ((bG q:Int)>(nv:Int))=true:=decide_eq_true zO;have az:decide (nv<bG q)=true:=decide_eq_true hg;have HB:YC S root next dead w (.returned (.tuple #[.pointer none,.int .i64 8])) wr:=⟨x9.out,.inl ⟨rfl,fun vs' hp=>by have h1:=hp.vols;rw[hvo.out,hgo.out,Option.some.injEq] at h1;subst h1;exact⟨bG,rJ,xu.out,fun he=>by have:=he q hl4;rw[iw.out] at this;omega⟩⟩⟩
             replace HB:=zH HB;replace hg:=zH hg;generalize (UW bG).toArray=arr at *;go_wp2_with fail;exact vT rfl rfl rfl HB.out
            ·have dV:decide ((bG q:Int)>(nv:Int))=false:=decide_eq_false zO;have az:decide (nv<bG q)=false:=decide_eq_false zO;have IR:R3 S bG wr (.int .i64 ((q:Int)+1)) wr:=⟨q+1,hl4,rfl,fun a ha=>by
              rcases Nat.lt_or_ge a q with h1|h1
              ·exact hle.out a h1
              ·obtain rfl:a=q:=zO;rw[iw.out];exact hg,rfl⟩
             replace IR:=zH IR;replace hg:=zH hg;generalize (UW bG).toArray=arr at *;go_wp2_with fail;refine⟨⟨rfl,rfl,IR.out⟩,?_⟩;simp[intOf];omega
           ·have sU:Zu S bG:=fun a ha=>hle a zO;have HT:YC S root next dead w (.returned (.tuple #[.pointer (some ⟨cb,0,none⟩),.int .i64 0])) wr:=⟨x9.out,.inr ⟨vs,bG,rJ,cb,ca2,.slice AV vs.length cV,rfl,⟨tK,xu,sU,hcw,by rw[<-yN];exact C2.out.row,N2.out,Qw (own_kept VW.out.own K2.out (by rw[yN];exact hDX) (by rw[pmb];exact hmb5)) zO⟩⟩⟩
            replace HT:=zH HT;replace xu:=zH xu;replace tK:=zH tK;replace sU:=zH sU;replace hle:=zH hle;go_wp2_with fail;exact vT rfl rfl rfl HT.out
def JY (vs:List Vol) (id:Int):Option Vol:=vs.find? fun v=>decide (v.id=id)
abbrev vol0:Vol:=⟨0,0,false,0⟩
def volQ:Option Vol->Value
 |none=>.tuple #[VC vol0,.int .i64 6]
 |some v=>.tuple #[VC v,.int .i64 0]
def VolIx (vs:List Vol) (id:Int) (u:Value):Prop:=(∃ (j:Nat) (hj:j<vs.length),u=.int .i64 (j:Int)/\JY vs id=some vs[j])\/(u=.int .i64 (-1)/\JY vs id=none)
theorem qeu {vs:List Vol} {id:Int} {j:Nat} (hj:j<vs.length) (he:vs[j].id=id) (hn:∀ i (hi:i<vs.length),i<j->vs[i].id≠id):VolIx vs id (.int .i64 (j:Int)):=by refine .inl ⟨j,hj,rfl,?_⟩;unfold JY;rw[List.find?_eq_some_iff_getElem];exact⟨by simp[he],j,hj,rfl,fun i hi=>by simp[hn i zO hi]⟩
theorem qae {vs:List Vol} {id:Int} (hn:∀ i (hi:i<vs.length),vs[i].id≠id):VolIx vs id (.int .i64 (-1)):=by refine .inr ⟨rfl,?_⟩;unfold JY;rw[List.find?_eq_none];intro v hv;obtain⟨i,hi,rfl⟩:=List.mem_iff_getElem.1 hv;simp[hn i hi]
set_option maxRecDepth 100000 in
theorem vol1_any (v:Vol) (bi:Nat) (id:Int) (w:World) (h:w.heap[bi]?=some (.cells #[.int .u32 id] 29 (0,0))):Calls prog 47 #[VC v,.pointer (some ⟨bi,0,none⟩)] w (Ret (.bool (decide (v.id=id))) w):=by
 have ki:=qa h;have zi:bi<w.heap.size:=(zG.1 h).1;clear h;go_enter func47,ntmps47;by_cases he:v.id=id
 ·have h1:(v.id == id)=true:=by rw[beq_iff_eq];exact he
  rw[decide_eq_true he];replace he:=zH he;go_wp2;go_ret;exact⟨rfl,zN _ _⟩
 ·have h1:(v.id == id)=false:=by rw[beq_eq_false_iff_ne];exact he
  rw[decide_eq_false he];replace he:=zH he;go_wp2;go_ret;exact⟨rfl,zN _ _⟩
set_option maxRecDepth 100000 in
theorem vidx_any (A:Option Addr) (c:Nat) (vs:List Vol) (hl:vs.length<=16) (bi:Nat) (id:Int) (w:World) (h:w.heap[bi]?=some (.cells #[.int .u32 id] 29 (0,0))) (hr:Rd w w.heap.size 4 A vs.length (ZB vs)):Calls prog 46 #[.slice A vs.length c,.func (.func 47) #[] #[.pointer (some ⟨bi,0,none⟩)]] w (QV (fun u _=>VolIx vs id u) w):=by
 replace hr:=zH hr;go_enter func46,ntmps46;go_wp2_with fail;go_loopw [8] (fun i wr=>∃ k:Nat,k<=vs.length/\i=.int .i64 (k:Int)/\Ext w wr/\∀ j (hj:j<vs.length),j<k->vs[j].id≠id) (fun i _=>vs.length-(intOf i).toNat)
 case atStart=>exact⟨0,Nat.zero_le _,rfl,Ext.refl _,fun j _ hj=>absurd hj (Nat.not_lt_zero _)⟩
 case round =>
  obtain⟨k,hk,rfl,xr,bT⟩:=hrel;replace bT:=zH bT;by_cases hlt:k<vs.length
  ·obtain⟨bv,uD,rfl,hbv,aS⟩:=hr.out.2 zO;obtain⟨d0,d1,d2,d3⟩:=Yi vs k hlt;replace d0:=Ext.cell xr (aS _ _ d0);replace d1:=Ext.cell xr (aS _ _ d1);replace d2:=Ext.cell xr (aS _ _ d2);replace d3:=Ext.cell xr (aS _ _ d3);have HAT:=zH (fun he=>qeu (id:=id) hlt he fun i hi hik=>bT.out i hi hik);have HNO:=zH (fun (he:vs[k].id≠id) j (hj:j<vs.length) (hjk:j<k+1)=>by
    rcases Nat.lt_or_ge j k with h1|h1
    ·exact bT.out j hj h1
    ·obtain rfl:j=k:=zO;exact he)
   generalize vs[k]=u at *;rw[<-Nat.add_assoc] at d1 d2 d3;clear aS;have iQ:=zH (IntWalk.wrap64_in ((k:Int)+1) zO);have hV:=vol1_any u bi id wr (qb h xr);go_wp2_with fail;refine hV.mono ?_;rintro e w2 ⟨rfl,hB⟩;clear d0 d1 d2 d3 hV;by_cases he:u.id=id
   ·rw[decide_eq_true he];have HQ:=zH (HAT.out he);clear HAT HNO;replace he:=zH he;go_wp2_with fail;refine bodyPost_ret (v:=.int .i64 (k:Int)) ?_ rfl ⟨_,rfl,HQ.out,Ext.trans xr hB⟩;simp[results,results46,go_sem]
   ·rw[decide_eq_false he];have HQ:=zH (HNO.out he);clear HAT HNO;replace he:=zH he;have aA:=iQ.out;go_wp2_with fail;refine⟨⟨k+1,hlt,rfl,Ext.trans xr hB,fun j hj hjk=>HQ.out j hj hjk⟩,?_⟩;simp[intOf];omega
  ·obtain rfl:k=vs.length:=zO;have HQ:=zH (qae (id:=id) fun i hi=>bT.out i hi hi);go_wp2_with fail;refine bodyPost_ret (v:=.int .i64 (-1)) ?_ rfl ⟨_,rfl,HQ.out,xr⟩;simp[results,results46,go_sem]
def thawO:Obj->Obj
 | .cells c t f=>if f=(0,0) then .cells c t f else .coro none
 |o=>o
def thaw (W:World):World:={ W with heap:=W.heap.map thawO }
theorem kj (W:World):(thaw W).heap.size=W.heap.size:=by simp[thaw]
theorem vE (W:World) (k:Nat):(thaw W).heap[k]?=(W.heap[k]?).map thawO:=by simp[thaw]
theorem thaw_row {W:World} {b:Nat} {cs:Array Value} {t:TypeId} (h:W.heap[b]?=some (.cells cs t (0,0))):(thaw W).heap[b]?=some (.cells cs t (0,0)):=by rw[vE,h];rfl
theorem QR {w w':World} {q:Addr} (h:w'.heap[q.block]?=w.heap[q.block]?):(thaw w').cell? q=(thaw w).cell? q:=
 World.cell?_of_block (by rw[vE,vE,h])
theorem Yw {W:World} {q:Addr} {v:Value} (h:(thaw W).cell? q=some v):W.cell? q=some v/\W.frozen? q=false:=by
 unfold World.cell? at h;rw[vE] at h;unfold World.cell? World.frozen?;cases hb:W.heap[q.block]? with
 |none=>rw[hb] at h;cases h
 |some o =>
  rw[hb] at h;cases o with
  |cells c e f =>
   simp only[Option.map_some,thawO] at h;by_cases hf:f=(0,0)
   ·subst hf;rw[if_pos rfl] at h;exact⟨h,zA3⟩
   ·rw[if_neg hf] at h;cases h
  |_=>simp only[Option.map_some,thawO] at h;cases h
theorem VZ {W:World} {b:Nat} {cs:Array Value} {t:TypeId} (h:W.heap[b]?=some (.cells cs t (0,0))) (j:Nat):(thaw W).cell? ⟨b,j,none⟩=W.cell? ⟨b,j,none⟩:=by rw[qa h,qa (thaw_row h)]
def Thaw (W:World) (v:Value):Prop:=∀ a n c,v=.slice (some a) n c->0<n->∃ cs t,W.heap[a.block]?=some (.cells cs t (0,0))
theorem Thaw.of_own {w:World} {base n size:Nat} {e:TypeId} {v:Value} {xs:List Value} (h:w.ownsRow base e size v n xs):Thaw w v:=by
 intro a n' c ev hn;rcases h.2 with ⟨rfl,rfl⟩|⟨g,cap,cur,rfl,_,hg,_⟩
 ·cases ev
 ·cases ev;exact⟨_,_,hg⟩
def NewB (lo:Nat) (v:Value) (l:List UInt8) (W:World):Prop:=Bys W W.heap.size v l/\Ze lo v/\Thaw W v
theorem NewB.of_own {w:World} {base n:Nat} {e:TypeId} {v:Value} {l:List UInt8} (h:w.ownsRow base e 1 v n (l.map bv)):NewB base v l w:=⟨Bys.of_own h,Ze.of_own h,Thaw.of_own h⟩
theorem NewB.thaw {lo:Nat} {v:Value} {l:List UInt8} {W:World} (h:NewB lo v l W):Bys (thaw W) W.heap.size v l:=by obtain⟨⟨A,c,e,hc,hm,hr⟩,_,ht⟩:=h;refine⟨A,c,e,hc,hm,hr.1,fun hn=>?_⟩;obtain⟨b,off,e2,hb,bV⟩:=hr.2 hn;obtain⟨cs,t,aC⟩:=ht ⟨b,off,none⟩ l.length c (by rw[e,e2]) hn;exact⟨b,off,e2,hb,fun j u hu=>(VZ aC _).trans (bV j u hu)⟩
theorem NewB.from {lo:Nat} {v:Value} {l:List UInt8} {W:World} (h:NewB lo v l W):Ze lo v:=h.2.1
section
variable {base:Nat} {e:TypeId} {size lo:Nat} {v:Value} {n:Nat} {xs:List Value} {f:Value->List Value} {l:List UInt8}
end
section
variable {α:Type} {base lo:Nat} {e:TypeId} {size:Nat} {g:α->Value->List Value} {by_:α->List UInt8}
end
end Go.Proofs.YtpbniokljofedaaGreat
