/- Lemmas of the proof. -/
import Derived.ChangeKeysEq
import Derived.Test.YtmeadnlmepcmbaaGreatZJ09
set_option linter.all false
set_option maxHeartbeats 8000000
open Go.Proofs.Tryz
namespace Go.Proofs.YtmeadnlmepcmbaaGreat
open Go.RowKit
theorem qhk (p:CP) (w1:World) (f:Int->Option Value) (refs nodes:Nat->Nat) (s1 s2 s3 s4:Value) (gen root next:Int) (dead:Value) (hC:Cen p w1 f):∀ h:Nat,VolsC p w1 f refs nodes s1 s2 s3 s4 gen root next dead h
 |0=>qhl p w1 f refs nodes s1 s2 s3 s4 gen root next dead hC 0 fun _ e=>zO
 |h+1=>qhl p w1 f refs nodes s1 s2 s3 s4 gen root next dead hC (h+1) fun h' e=>by obtain rfl:h=h':=zO;exact qhk p w1 f refs nodes s1 s2 s3 s4 gen root next dead hC h
theorem ca0_ar (s1 s2 s3 s4:Value) (bb mb:Nat):Ar (ca0 s1 s2 s3 s4 bb mb) (fun _=>0) (fun _=>0) (.slice none 0 0):=by
 unfold ca0;refine⟨zA2,fun a ha=>?_,fun a ha=>?_,?_⟩
 ·rw[Array.getElem?_append_left zA1,Array.getElem?_append_right zA2];simp[Array.getElem?_replicate];omega
 ·rw[Array.getElem?_append_left zA1,Array.getElem?_append_right zA1];simp[Array.getElem?_replicate];omega
 ·rw[Array.getElem?_append_right zA2];simp
theorem ca0_low (s1 s2 s3 s4:Value) (bb mb:Nat) {i:Nat} (hi:i<6):(ca0 s1 s2 s3 s4 bb mb)[i]?=(#[s1,s2,s3,s4,.pointer (some ⟨bb,0,none⟩),.map (some mb)]:Array Value)[i]?:=by unfold ca0;rw[Array.getElem?_append_left zA1,Array.getElem?_append_left zA1]
theorem Zk.empty (w:World):Zk (w.alloc (.map #[] 0)) w.heap.size fun _=>none:=⟨#[],0,zI _ _ _ rfl,fun _ h=>absurd h (List.not_mem_nil),fun _=>rfl⟩
def Vr (S:Sto) (root next:Int):Option (List Vol):=match qt S root.toNat with
 |none=>none
 |some (lvl,xs)=>Zy next [] (qC S lvl.toNat xs)
def Za (root:Int) (dead:List Int) (vs:List Vol):List Int:=(root :: dead)++vs.map (·.root)
structure Qb (S:Sto) (root next:Int) (dead:List Int) (vs:List Vol):Prop where
 may:ql S=true
 few:dead.length<=40
 top:okL S (-1) root=true
 vols:Vr S root next=some vs
 ok:∀ r∈Za root dead vs,okL S (-1) r=true
def Qw (S:Sto) (refs:Nat->Nat):Prop:=∀ a,a<256->refs a<=(S.now[a]?.getD 0).toNat
def Zv (w:World) (B:Nat) (v:Value) (l:List Int):Prop:=∃ A c,v=.slice A l.length c/\l.length<=c/\c<=maxLen/\Rd w B 1 A l.length (l.map fun (a:Int)=>Value.int .i64 a)
def Qk (root:Int) (dead:List Int) (vs:List Vol):List Nat:=(Za root dead vs).map Int.toNat
structure Taken (S:Sto) (root next:Int) (dead:List Int) (vs:List Vol) (refs nodes:Nat->Nat) (lo cb:Nat) (ca:Array Value) (vv:Value) (w:World):Prop where
 pool:Qb S root next dead vs
 cnt:qR S (Qk root dead vs) refs nodes
 enough:Qw S refs
 low:lo<=cb
 row:w.heap[cb]?=some (.cells ca 96 (0,0))
 ar:Ar ca refs nodes vv
 own:w.ownsRow lo 36 4 vv vs.length (je vs)
def Te (S:Sto) (root next:Int) (dead:List Int) (w:World) (e:Ending) (w':World):Prop:=Below w.heap.size w w' /\
 ((e=.returned (.tuple #[.pointer none,.int .i64 8])/\∀ vs,Qb S root next dead vs->∃ refs nodes,qR S (Qk root dead vs) refs nodes/\¬Qw S refs) \/
  ∃ vs refs nodes cb ca vv,e=.returned (.tuple #[.pointer (some ⟨cb,0,none⟩),.int .i64 0])/\Taken S root next dead vs refs nodes w.heap.size cb ca vv w')
theorem Te.bad {S:Sto} {root next:Int} {dead:List Int} {w w':World} (hB:Below w.heap.size w w') (h:∀ vs,¬Qb S root next dead vs):Te S root next dead w (.returned (.tuple #[.pointer none,.int .i64 8])) w':=
 ⟨hB,.inl ⟨rfl,fun vs hp=>absurd hp (h vs)⟩⟩
def GN (l:List Int):List Value:=l.map fun (a:Int)=>Value.int .i64 a
theorem qkU (l:List Int) (a:Int):GN (l++[a])=GN l++[Value.int .i64 a]:=by simp[GN]
theorem rowI_get (l:List Int) (k:Nat) (h:k<l.length):(GN l)[k]?=some (.int .i64 l[k]):=by unfold GN;rw[List.getElem?_map,zL h];rfl
def vO (root:Int) (dead:List Int) (vs:List Vol) (k:Nat):List Int:=(root :: dead)++(vs.take k).map (·.root)
theorem qgT (root:Int) (dead:List Int) (vs:List Vol) {k:Nat} (h:k<=vs.length):(vO root dead vs k).length=1+dead.length+k:=by unfold vO;simp;omega
theorem qeS (root:Int) (dead:List Int) (vs:List Vol) {k:Nat} (h:k<vs.length):vO root dead vs (k+1)=vO root dead vs k++[vs[k].root]:=by unfold vO;rw[List.take_succ_eq_append_getElem h,List.map_append,<-List.append_assoc];rfl
theorem qaC (root:Int) (dead:List Int) (vs:List Vol):vO root dead vs vs.length=Za root dead vs:=by unfold vO Za;rw[List.take_length]
theorem XF (vs:List Vol):∀ k (h:k<vs.length),(je vs)[k*4]?=some (.int .u32 vs[k].id)/\(je vs)[k*4+1]?=some (.int .i64 vs[k].root)/\(je vs)[k*4+2]?=some (.bool vs[k].fz)/\(je vs)[k*4+3]?=some (.int .u32 vs[k].frm):=by
 induction vs with
 |nil=>intro k h;exact absurd h (Nat.not_lt_zero _)
 |cons v r ih =>
  intro k h;cases k with
  |zero=>exact⟨rfl,rfl,rfl,rfl⟩
  |succ k =>
   have:=ih k (by simpa using h);have e:je (v :: r)=[.int .u32 v.id,.int .i64 v.root,.bool v.fz,.int .u32 v.frm]++je r:=rfl;rw[e];have hg:∀ j,([.int .u32 v.id,.int .i64 v.root,.bool v.fz,.int .u32 v.frm]++je r:List Value)[(k+1)*4+j]?=(je r)[k*4+j]?:=fun j=>by rw[List.getElem?_append_right (by simp only[List.length_cons,List.length_nil];omega)];congr 1;simp only[List.length_cons,List.length_nil];omega
   exact⟨(hg 0).trans this.1,(hg 1).trans this.2.1,(hg 2).trans this.2.2.1,(hg 3).trans this.2.2.2⟩
theorem qR.zero (S:Sto):qR S [] (fun _=>0) (fun _=>0):=
 ⟨jU.walk.2 (vU.nil (fun _=>rfl) fun _=>rfl),fun a=>by have:=qct (Jz fun _=>0) 256;simp only[List.length_nil];omega⟩
structure qaO (cb mb:Nat) (w w':World):Prop where
 os:w'.os=w.os
 tape:w'.tape=w.tape
 output:w'.output=w.output
 size:w.heap.size<=w'.heap.size
 block:∀ k,k<w.heap.size->k≠cb->k≠mb->w'.heap[k]?=w.heap[k]?
theorem qaO.refl (cb mb:Nat) (w:World):qaO cb mb w w:=⟨rfl,rfl,rfl,zM _,fun _ _ _ _=>rfl⟩
theorem qaO.trans {cb mb:Nat} {w w' w'':World} (h:qaO cb mb w w') (h':qaO cb mb w' w''):qaO cb mb w w'':=
 ⟨h'.os.trans h.os,h'.tape.trans h.tape,h'.output.trans h.output,Nat.le_trans h.size h'.size,fun k h1 h2 h3=>(h'.block k (Nat.lt_of_lt_of_le h1 h.size) h2 h3).trans (h.block k h1 h2 h3)⟩
theorem qaO.below {cb mb B:Nat} {w0 w w':World} (h:qaO cb mb w w') (hb:Below B w0 w) (hB:B<=w.heap.size) (h1:B<=cb) (h2:B<=mb):Below B w0 w':=
 ⟨h.os.trans hb.os,h.tape.trans hb.tape,h.output.trans hb.output,Nat.le_trans hb.size h.size,fun k hk=>(h.block k zO zO zO).trans (hb.block k hk)⟩
structure R2 (p:CP) (w8:World) (vv:Value) (roots:List Int) (i:Value) (wr:World):Prop where
 ex:∃ (k:Nat) (g:Int->Option Value) (ca:Array Value) (refs nodes:Nat->Nat),k<=roots.length/\i=.int .i64 (k:Int)/\Cen (p.put ca) wr g/\Ar ca refs nodes vv/\qR p.S ((roots.take k).map Int.toNat) refs nodes/\Gp p.S g ((roots.take k).map Int.toNat) /\
  (∀ r∈roots.take k,okL p.S (-1) r=true)/\qaO p.cb p.mb w8 wr
section
variable {P:Program} {ops:Array Oper} {rest:List Oper} {o:Oper} {a:Act} {w:World} {Q:Exit->Act->World->Prop}
theorem qcT (g off:Nat) (ty:TypeId) (cs:List Value) (d:TypeDesc) (hc:∀ j v,cs[j]?=some v->w.cell? ⟨g,off+j,none⟩=some v) (hu:P.underlying ty=some d) (hd:(match d with | .struct _ | .array _ _=>true|_=>false)=true) (hi:(P.info? ty).map (·.size)=some cs.length) : (loadVar ty ⟨g,off,none⟩).run P w=.ok (.agg cs.toArray) w:=by
 have hl:(loadCells ⟨g,off,none⟩ cs.length).run P w=.ok cs.toArray w:=
  run_loadCells_list (P:=P) w ⟨g,off,none⟩ cs (fun j v hv=>by
   have hadd:(⟨g,off,none⟩:Addr).add j=⟨g,off+j,none⟩:=by unfold Addr.add;split <;> simp_all
   rw[hadd];exact hc j v hv)
 cases hq:P.info? ty with
 |none=>simp[hq] at hi
 |some i =>
  have hs:i.size=cs.length:=by simpa [hq] using hi
  have hagg:(isAgg ty).run P w=.ok true w:=by unfold isAgg;rw[Sem.run_bind,run_underlying hu w];cases d <;> simp_all
  simp[loadVar,Sem.run_bind,hagg,sizeOf,typeInfo,hq,hs,hl]
theorem KZ (fK:o.guard=none) (ty:TypeId) (x:Operand) (ho:o.op=.load ty x) (g off:Nat) (hx:a.eval x=.pointer (some ⟨g,off,none⟩)) (cs:List Value) (d:TypeDesc) (hc:∀ j v,cs[j]?=some v->w.cell? ⟨g,off+j,none⟩=some v) (hu:P.underlying ty=some d) (hd:(match d with | .struct _ | .array _ _=>true|_=>false)=true) (hi:(P.info? ty).map (·.size)=some cs.length) (h:wpList P ops Q rest (a.put o.dst (.agg cs.toArray)) w):wpList P ops Q (o :: rest) a w:=by
 refine wpList_plain fK fun K hK=>?_;unfold Oper.wp execOp;simp only[ho,hx,Instr.loadAt,Instr.sureAddr,Sem.run_bind,Sem.run_pure,Result.andThen_ok,qcT g off ty cs d hc hu hd hi];exact hK _ _ h
end
def Xa (f:Nat->Nat):List Value:=(List.range 256).map fun a=>Value.int .i64 ((f a:Nat):Int)
theorem qbm (f:Nat->Nat) {k:Nat} (h:k<256):(Xa f)[k]?=some (.int .i64 ((f k:Nat):Int)):=by unfold Xa;rw[List.getElem?_map,List.getElem?_range h];rfl
theorem qje {f:Nat->Nat} {j:Nat} {v:Value} (h:(Xa f)[j]?=some v):j<256/\v=.int .i64 ((f j:Nat):Int):=by
 have hj:j<256:=by have:=(List.getElem?_eq_some_iff.1 h).1;simpa [Xa] using this
 rw[qbm f hj] at h;cases h;exact⟨hj,rfl⟩
structure R3 (S:Sto) (refs:Nat->Nat) (w9:World) (i:Value) (wr:World):Prop where
 ex:∃ k:Nat,k<=256/\i=.int .i64 (k:Int)/\(∀ a,a<k->refs a<=(S.now[a]?.getD 0).toNat)/\wr=w9
theorem own_kept {cb mb:Nat} {w w':World} {base n size:Nat} {e:TypeId} {v:Value} {xs:List Value} (h:w.ownsRow base e size v n xs) (hk:qaO cb mb w w') (h1:cb<base) (h2:mb<base):w'.ownsRow base e size v n xs:=by
 refine⟨h.1,?_⟩;rcases h.2 with h0|⟨g,cap,cur,hv,hb,hg,hr⟩
 ·exact .inl h0
 ·exact .inr ⟨g,cap,cur,hv,hb,(hk.block g (zG.1 hg).1 zO zO).trans hg,hr⟩
structure R1 (w6:World) (root:Int) (dead:List Int) (vs:List Vol) (v i:Value) (wr:World):Prop where
 ex:∃ k:Nat,k<=vs.length/\i=.int .i64 (k:Int)/\wr.ownsRow w6.heap.size 3 1 v (1+dead.length+k) (GN (vO root dead vs k))/\Ext w6 wr
def newS:Sto:=⟨vp,[],jk 256,jk 256⟩
def qS:Sto:=⟨vp,[(8,Ze (Qu 0 []))],(jk 256).set 8 1,jk 256⟩
theorem newS_may:ql newS=true:=by decide +kernel
theorem Wrs.nil (w:World) (B:Nat):Wrs w B (.slice none 0 0) []:=⟨[],rfl,⟨none,0,rfl,zM _,by simp[maxLen],Rd.none_⟩,fun p h=>by cases h⟩
set_option maxRecDepth 100000 in
theorem ve:GZ qS:=by
 have h1:vp.length=256:=by unfold vp;rw[List.length_replicate]
 have h2:∀ l∈vp,l.length<1000000:=fun l hl=>by unfold vp at hl;rw[List.mem_replicate] at hl;rw[hl.2,ZC];omega
 have h3:(Ze (Qu 0 [])).length=128:=vH zD;refine⟨by show vp.length<_;omega,by show 1<1000000;omega,h2,fun p hp=>?_,by show ((jk 256).set 8 1).length<_;rw[List.length_set,ZC];omega,by show (jk 256).length<_;rw[ZC];omega⟩;have:p=(8,Ze (Qu 0 [])):=by simpa [qS] using hp
 rw[this];show (Ze (Qu 0 [])).length<_;omega
set_option maxRecDepth 100000 in
theorem rnew_any (w:World):Calls prog 144 #[] w (Zg (fun u W=>∃ B n1 n2,u=Qe (some ⟨B,0,none⟩) 256 256 none 0 0 (some ⟨n1,0,none⟩) 256 256 (some ⟨n2,0,none⟩) 256 256/\qV W W.heap.size (.slice (some ⟨B,0,none⟩) 256 256) (.slice none 0 0) (.slice (some ⟨n1,0,none⟩) 256 256) (.slice (some ⟨n2,0,none⟩) 256 256) newS) w):=by
 go_enter func144,ntmps144;go_wp2_with fail;generalize aA:World.alloc _ _=w1;have x1:Ext w w1:=by rw[<-aA];exact zN _ _
 have q1:w1.heap[w.heap.size]?=some (.cells #[.slice none 0 0,.slice none 0 0,.slice none 0 0,.slice none 0 0] 28 (0,0)):=by rw[<-aA];exact zI _ _ _ zA2
 have z0:w1.heap.size=w.heap.size+1:=by rw[<-aA];simp
 clear aA;refine(dnew_any w1).mono ?_;rintro e w2 ⟨u,rfl,⟨B,rfl,rV⟩,hB⟩;have hB:Ext w1 w2:=hB;have x2:=x1.trans hB;have q2:=qb q1 hB;have hx12:=hB;clear q1 hB x1;go_wp2_with fail;refine(qfN w2).mono ?_;rintro e w3 ⟨u,rfl,⟨rfl,lW⟩,hB⟩;have tq:Ext w2 w3:=hB;have x3:=x2.trans tq;have q3:=qb q2 tq;clear q2 hB;go_wp2_with fail;refine(qfN w3).mono ?_;rintro e w4 ⟨u,rfl,⟨rfl,hn2⟩,hB⟩;have bT:Ext w3 w4:=hB;have x4:=x3.trans bT;have q4:=qb q3 bT;have hn14:=qb lW bT;have kq:=qa q4;have fq:=qe q4;have z23:=tq.size;have z34:=bT.size;have z2':=hx12.size;have P5:∀ wx:World,wx=km w4 w.heap.size 0 [.slice (some ⟨B,0,none⟩) 256 256,.slice none 0 0,.slice (some ⟨w2.heap.size,0,none⟩) 256 256,.slice (some ⟨w3.heap.size,0,none⟩) 256 256] ->
   wx.heap[w.heap.size]?=some (.cells #[.slice (some ⟨B,0,none⟩) 256 256,.slice none 0 0,.slice (some ⟨w2.heap.size,0,none⟩) 256 256,.slice (some ⟨w3.heap.size,0,none⟩) 256 256] 28 (0,0))/\Below w.heap.size w wx /\
    qV wx wx.heap.size (.slice (some ⟨B,0,none⟩) 256 256) (.slice none 0 0) (.slice (some ⟨w2.heap.size,0,none⟩) 256 256) (.slice (some ⟨w3.heap.size,0,none⟩) 256 256) newS:=fun wx e=>by
  have hk:∀ b,b≠w.heap.size->wx.heap[b]?=w4.heap[b]?:=fun b h1=>by rw[e];exact jy h1 _ _ _
  have hs:wx.heap.size=w4.heap.size:=by rw[e,Jj]
  have h1:=Bys.lit ((hk _ zO).trans hn14) (by rw[ZC];unfold maxLen;omega);have h2:=Bys.lit ((hk _ zO).trans hn2) (by rw[ZC];unfold maxLen;omega);rw[ZC] at h1 h2;refine⟨by rw[e];refine(JO _ _ _ _ q4).trans ?_;simp[Xz],by rw[e];exact jx (zM _) _ _ _ x4,?_,Wrs.nil _ _,h1,h2⟩;refine(rV wx fun q h1 h2=>?_).more zO;refine(World.cell?_of_block (hk q.block zO)).trans ((World.cell?_of_block (bT.block q.block zO)).trans (World.cell?_of_block (tq.block q.block h2)))
 replace P5:=zH P5;clear rV lW hn2 hn14 q4 q3;go_wp2_with fail;have P5:=P5.out;generalize aT:World.setCell (World.setCell (World.setCell (World.setCell w4 _ _) _ _) _ _) _ _=w5;obtain⟨r5,x5,h5⟩:=P5 w5 aT.symm;clear P5 aT;have k5:=qa r5;exact bodyPost_ret (v:=Qe (some ⟨B,0,none⟩) 256 256 none 0 0 (some ⟨w2.heap.size,0,none⟩) 256 256 (some ⟨w3.heap.size,0,none⟩) 256 256) (by simp[results,results144,go_sem,k5]) rfl ⟨_,rfl,⟨B,_,_,rfl,h5⟩,x5⟩
set_option maxRecDepth 100000 in
theorem qhJ (A1 c1 A3 c3 A4 c4) (w:World) (h:qV w w.heap.size (.slice A1 256 c1) (.slice none 0 0) (.slice A3 256 c3) (.slice A4 256 c4) newS):Calls prog 155 #[Qe A1 256 c1 none 0 0 A3 256 c3 A4 256 c4,jP 0 none 0 0] w (Zg (fun u W=>∃ v,u=.tuple #[v,.int .i64 8,.int .i64 0]/\QM w.heap.size qS v W) w):=by
 have HC:=zH (fun W (hW:Ext w W)=>JN A1 256 c1 none 0 0 A3 256 c3 A4 256 c4 newS W (h.ext hW));rw[newS_may,show JQ true=0 from rfl] at HC;have HN:=zH (fun W=>VY 0 none 0 0 [] W (Its.nil W W.heap.size));rw[show Qf 0 []=true from rfl,show JQ true=0 from rfl] at HN;have HO:=zH (fun W (hW:Ext w W)=>qeB A1 256 c1 none 0 0 A3 256 c3 A4 256 c4 newS (by show (jk 256).length<_;rw[ZC];omega) W (h.ext hW));replace h:=zH h;go_enter func155,ntmps155;go_wp2_with fail;generalize aA:World.alloc (World.alloc (World.alloc _ _) _) _=w1;have x1:Ext w w1:=by rw[<-aA];exact((zN _ _).trans (zN _ _)).trans (zN _ _)
 have r1:w1.heap[w.heap.size]?=some (.cells #[.slice A1 256 c1,.slice none 0 0,.slice A3 256 c3,.slice A4 256 c4] 28 (0,0)):=by rw[<-aA];exact(zK _ _ _ zA1).trans ((zK _ _ _ zA2).trans (zI _ _ _ rfl))
 have p1:w1.heap[w.heap.size+1]?=some (.cells #[.int .i64 0,.slice none 0 0] 113 (0,0)):=by rw[<-aA];exact(zK _ _ _ zA2).trans (zI _ _ _ zA2)
 have q1:w1.heap[w.heap.size+1+1]?=some (.cells #[.slice none 0 0,.slice none 0 0,.slice none 0 0,.slice none 0 0] 28 (0,0)):=by rw[<-aA];exact zI _ _ _ zA2
 clear aA;refine(HC.out w1 x1).mono ?_;rintro e w2 ⟨rfl,hB⟩;have x2:Ext w w2:=x1.trans hB;have r2:=qb r1 hB;have p2:=qb p1 hB;have q2:=qb q1 hB;have kp:=qa p2;clear r1 p1 q1 x1 hB HC;go_wp2_with fail;refine(HN.out w2).mono ?_;rintro e w3 ⟨rfl,hB⟩;have x3:Ext w w3:=x2.trans hB;have r3:=qb r2 hB;have p3:=qb p2 hB;have q3:=qb q2 hB;have kr:=qa r3;clear r2 p2 q2 x2 hB HN kp;go_wp2_with fail;refine(HO.out w3 x3).mono ?_;rintro e w4 ⟨u,rfl,⟨b,B3,d3,rfl,aQ,aF,aB⟩,hB⟩;have bT:Ext w3 w4:=hB;have x4:Ext w w4:=x3.trans bT;have p4:=qb p3 bT;have q4:=qb q3 bT;have kp:=qa p4;have z3:=x3.size;obtain⟨g,rfl⟩:∃ g,B3=some ⟨g,0,none⟩:=by
  obtain⟨h1,h2⟩:=aB;rcases h2 with ⟨_,h0⟩|⟨g,_,_,e,_⟩
  ·cases h0
  ·cases e;exact⟨g,rfl⟩
 have oP:Bls w4 w3.heap.size (.slice A1 256 c1) vp:=(h.out.bs.below x4).more z3;have q3z:=q3;have ha4:Bys w4 w3.heap.size (.slice A4 256 c4) (jk 256):=(h.out.last.below x4).more z3;have HM:=qhA b w3.heap.size A1 256 c1 g d3 A4 c4 vp (jk 256) (jk 256) (ZC _) (ZC _) zD zD w4 aQ aF aB oP ha4;replace HM:=zH HM;clear r3 p3 q3 hB kr oP ha4 aB aF HO;go_wp2_with fail;refine HM.out.mono ?_;rintro e w5 ⟨rfl,pg,A2,c2,oL,hS5⟩;have x5:Below w.heap.size w w5:=Below.trans x4 (Below.mono pg z3);have z34:=bT.size;have zq:=(zG.1 q3z).1;have q5:=(pg.block (w.heap.size+1+1) zq).trans q4;have HT:=zH (Yc b A1 256 c1 A2 1 c2 (some ⟨g,0,none⟩) 256 d3 A4 256 c4 qS ve w5 oL hS5);clear HM oL hS5 kp p4 q4;go_wp2_with fail;refine HT.out.mono ?_;rintro e w6 ⟨u,rfl,hT,hB⟩;have bz:Ext w5 w6:=hB;have x6:Below w.heap.size w w6:=Below.trans x5 (Below.mono bz x5.size);have q6:=qb q5 bz;have kq:=qa q6;have fq:=qe q6;have z45:=pg.size;obtain⟨BB,WW,gg,B3,e3,B4,e4,rfl,hD,hN,hL⟩:=hT;have P5:∀ wx:World,wx=km w6 (w.heap.size+1+1) 0 [.slice (some ⟨BB,0,none⟩) qS.bs.length qS.bs.length,.slice (some ⟨WW,0,none⟩) qS.ws.length (qS.ws.length+1),.slice B3 qS.now.length e3,.slice B4 qS.last.length e4] ->
   wx.heap[w.heap.size+1+1]?=some (.cells #[.slice (some ⟨BB,0,none⟩) qS.bs.length qS.bs.length,.slice (some ⟨WW,0,none⟩) qS.ws.length (qS.ws.length+1),.slice B3 qS.now.length e3,.slice B4 qS.last.length e4] 28 (0,0))/\Below w.heap.size w wx /\
    QM w.heap.size qS (Qe (some ⟨BB,0,none⟩) qS.bs.length qS.bs.length (some ⟨WW,0,none⟩) qS.ws.length (qS.ws.length+1) B3 qS.now.length e3 B4 qS.last.length e4) wx:=fun wx e=>by
  have hk:∀ b,w5.heap.size<=b->b<w6.heap.size->wx.heap[b]?=w6.heap[b]?:=fun b h1 _=>by rw[e];exact jy zO _ _ _
  have hs:w6.heap.size<=wx.heap.size:=by rw[e,Jj];exact zM _
  refine⟨by rw[e];refine(JO _ _ _ _ q6).trans ?_;simp[Xz],by rw[e];exact jx zO _ _ _ x6,BB,WW,gg,B3,e3,B4,e4,rfl,hD.keep x5.size hs hk,QJ (ZH hN hk) x5.size,QJ (ZH hL hk) x5.size⟩
 replace P5:=zH P5;clear hD hN hL q6 hB q5;go_wp2_with fail;have P5:=P5.out;generalize aT:World.setCell (World.setCell (World.setCell (World.setCell w6 _ _) _ _) _ _) _ _=w7;obtain⟨r5,x7,h5⟩:=P5 w7 aT.symm;clear P5 aT;have k5:=qa r5;exact bodyPost_ret (v:=.tuple #[Qe (some ⟨BB,0,none⟩) qS.bs.length qS.bs.length (some ⟨WW,0,none⟩) qS.ws.length (qS.ws.length+1) B3 qS.now.length e3 B4 qS.last.length e4,.int .i64 8,.int .i64 0]) (by simp[results,results155,go_sem,k5]) rfl ⟨_,rfl,⟨_,rfl,h5⟩,x7⟩
def qaV (lo:Nat) (u:Value) (W:World):Prop:=∃ BB WW g A3 c3 A4 c4,u=.agg (qF (.slice (some ⟨BB,0,none⟩) 256 256) (.slice (some ⟨WW,0,none⟩) 1 2) (.slice A3 256 c3) (.slice A4 256 c4) 0 8 1 (.slice none 0 0))/\JP lo qS.bs qS.ws BB WW g W /\
 W.ownsRow lo 5 1 (.slice A3 256 c3) 256 (qS.now.map bv)/\W.ownsRow lo 5 1 (.slice A4 256 c4) 256 (qS.last.map bv)
theorem Xc:qS.bs.length=256/\qS.ws.length=1/\qS.now.length=256/\qS.last.length=256:=by
 refine⟨?_,rfl,?_,ZC _⟩
 ·show vp.length=256;unfold vp;rw[List.length_replicate]
 ·show ((jk 256).set 8 1).length=256;rw[List.length_set,ZC]
theorem qaV.sto {lo:Nat} {u:Value} {W:World} (h:qaV lo u W):∃ A1 c1 A2 c2 A3 c3 A4 c4,u=.agg (qF (.slice A1 256 c1) (.slice A2 1 c2) (.slice A3 256 c3) (.slice A4 256 c4) 0 8 1 (.slice none 0 0))/\qV W W.heap.size (.slice A1 256 c1) (.slice A2 1 c2) (.slice A3 256 c3) (.slice A4 256 c4) qS:=by obtain⟨BB,WW,g,A3,c3,A4,c4,e,hD,hN,hL⟩:=h;obtain⟨l1,l2,l3,l4⟩:=Xc;obtain⟨k1,k2⟩:=hD.reads ve.bs ve.ws ve.be ve.we W (fun _ _ _=>rfl);rw[l1] at k1;rw[l2] at k2;exact⟨_,_,_,_,A3,c3,A4,c4,e,k1,k2,Bys.of_own hN,Bys.of_own hL⟩
set_option maxRecDepth 100000 in
theorem qkK (A1 c1 A3 c3 A4 c4) (w:World) (h:qV w w.heap.size (.slice A1 256 c1) (.slice none 0 0) (.slice A3 256 c3) (.slice A4 256 c4) newS):Calls prog 102 #[Qe A1 256 c1 none 0 0 A3 256 c3 A4 256 c4] w (Zg (fun u W=>∃ v,u=.tuple #[v,.int .i64 8,.int .i64 0]/\QM w.heap.size qS v W) w):=by
 have HM:=zH (fun W (hW:Ext w W)=>qhJ A1 c1 A3 c3 A4 c4 W (h.ext hW));clear h;go_enter func102,ntmps102;go_wp2_with fail;generalize aA:World.alloc (World.alloc _ _) _=w1;have x1:Ext w w1:=by rw[<-aA];exact(zN _ _).trans (zN _ _)
 have q1:w1.heap[w.heap.size+1]?=some (.cells #[.slice none 0 0,.slice none 0 0,.slice none 0 0,.slice none 0 0] 28 (0,0)):=by rw[<-aA];exact zI _ _ _ zA2
 clear aA;refine(HM.out w1 x1).mono ?_;rintro e w6 ⟨u,rfl,⟨v,rfl,hT⟩,hB⟩;have bz:Ext w1 w6:=hB;have x6:Below w.heap.size w w6:=x1.trans bz;have q6:=qb q1 bz;have kq:=qa q6;have fq:=qe q6;have z1:=(zG.1 q1).1;obtain⟨BB,WW,gg,B3,e3,B4,e4,rfl,hD,hN,hL⟩:=hT;have P5:∀ wx:World,wx=km w6 (w.heap.size+1) 0 [.slice (some ⟨BB,0,none⟩) qS.bs.length qS.bs.length,.slice (some ⟨WW,0,none⟩) qS.ws.length (qS.ws.length+1),.slice B3 qS.now.length e3,.slice B4 qS.last.length e4] ->
   wx.heap[w.heap.size+1]?=some (.cells #[.slice (some ⟨BB,0,none⟩) qS.bs.length qS.bs.length,.slice (some ⟨WW,0,none⟩) qS.ws.length (qS.ws.length+1),.slice B3 qS.now.length e3,.slice B4 qS.last.length e4] 28 (0,0))/\Below w.heap.size w wx /\
    QM w.heap.size qS (Qe (some ⟨BB,0,none⟩) qS.bs.length qS.bs.length (some ⟨WW,0,none⟩) qS.ws.length (qS.ws.length+1) B3 qS.now.length e3 B4 qS.last.length e4) wx:=fun wx e=>by
  have hk:∀ b,w1.heap.size<=b->b<w6.heap.size->wx.heap[b]?=w6.heap[b]?:=fun b h1 _=>by rw[e];exact jy zO _ _ _
  have hs:w6.heap.size<=wx.heap.size:=by rw[e,Jj];exact zM _
  refine⟨by rw[e];refine(JO _ _ _ _ q6).trans ?_;simp[Xz],by rw[e];exact jx zO _ _ _ x6,BB,WW,gg,B3,e3,B4,e4,rfl,hD.keep x1.size hs hk,QJ (ZH hN hk) x1.size,QJ (ZH hL hk) x1.size⟩
 replace P5:=zH P5;clear hD hN hL q6 hB q1;go_wp2_with fail;have P5:=P5.out;generalize aT:World.setCell (World.setCell (World.setCell (World.setCell w6 _ _) _ _) _ _) _ _=w7;obtain⟨r5,x7,h5⟩:=P5 w7 aT.symm;clear P5 aT;have k5:=qa r5;exact bodyPost_ret (v:=.tuple #[Qe (some ⟨BB,0,none⟩) qS.bs.length qS.bs.length (some ⟨WW,0,none⟩) qS.ws.length (qS.ws.length+1) B3 qS.now.length e3 B4 qS.last.length e4,.int .i64 8,.int .i64 0]) (by simp[results,results102,go_sem,k5]) rfl ⟨_,rfl,⟨_,rfl,h5⟩,x7⟩
set_option maxRecDepth 100000 in
theorem fnew_any (w:World):Calls prog 86 #[] w (Zg (qaV w.heap.size) w):=by
 obtain⟨l1,l2,l3,l4⟩:=Xc;go_enter func86,ntmps86;go_wp2_with fail;generalize aA:World.alloc _ _=w1;have x1:Ext w w1:=by rw[<-aA];exact zN _ _
 have q1:w1.heap[w.heap.size]?=some (.cells (qF (.slice none 0 0) (.slice none 0 0) (.slice none 0 0) (.slice none 0 0) 0 0 0 (.slice none 0 0)) 32 (0,0)):=by rw[<-aA];exact zI _ _ _ zA2
 clear aA;refine(rnew_any w1).mono ?_;rintro e w2 ⟨u,rfl,⟨B,n1,n2,rfl,hS⟩,hB⟩;have dI:Ext w1 w2:=hB;have x2:Ext w w2:=x1.trans dI;have q2:=qb q1 dI;have z1:=(zG.1 q1).1;have z12:=dI.size;clear hB q1;have HP:=zH (qkK _ _ _ _ _ _ w2 hS);clear hS;go_wp2_with fail;refine HP.out.mono ?_;rintro e w6 ⟨u,rfl,⟨v,rfl,hT⟩,hB⟩;have bz:Ext w2 w6:=hB;have x6:Ext w w6:=x2.trans bz;have q6:=qb q2 bz;obtain⟨BB,WW,gg,B3,e3,B4,e4,rfl,hD,hN,hL⟩:=hT;rw[l1,l2,l3,l4];rw[l3] at hN;rw[l4] at hL;clear q2 hB HP;have kq:=qa q6;have fq:=qe q6;have zq:=(zG.1 q6).1;have P5:∀ wx:World,wx=km w6 w.heap.size 0 [.slice (some ⟨BB,0,none⟩) 256 256,.slice (some ⟨WW,0,none⟩) 1 2,.slice B3 256 e3,.slice B4 256 e4,.int .u32 0,.int .i64 8,.int .u32 1,.slice none 0 0]->∀ o:Obj,
   (wx.alloc o).heap[w.heap.size]?=some (.cells (qF (.slice (some ⟨BB,0,none⟩) 256 256) (.slice (some ⟨WW,0,none⟩) 1 2) (.slice B3 256 e3) (.slice B4 256 e4) 0 8 1 (.slice none 0 0)) 32 (0,0))/\Below w.heap.size w (wx.alloc o) /\
    qaV w.heap.size (.agg (qF (.slice (some ⟨BB,0,none⟩) 256 256) (.slice (some ⟨WW,0,none⟩) 1 2) (.slice B3 256 e3) (.slice B4 256 e4) 0 8 1 (.slice none 0 0))) (wx.alloc o):=fun wx e o=>by
  have hs:wx.heap.size=w6.heap.size:=by rw[e,Jj]
  have hk:∀ b,w2.heap.size<=b->b<w6.heap.size->(wx.alloc o).heap[b]?=w6.heap[b]?:=fun b h1 h2=>(zK _ _ _ zO).trans (by rw[e];exact jy zO _ _ _);have hs2:w6.heap.size<=(wx.alloc o).heap.size:=zA1;refine⟨(zK _ _ _ zO).trans (by rw[e];refine(JO _ _ _ _ q6).trans ?_;simp[Xz,qF]),Below.alloc (by rw[e];exact jx (zM _) _ _ _ x6) zO _,BB,WW,gg,B3,e3,B4,e4,rfl,hD.keep x2.size hs2 hk,QJ (ZH hN hk) x2.size,QJ (ZH hL hk) x2.size⟩
 replace P5:=zH P5;clear hD hN hL q6;go_wp2_with fail;have P5:=P5.out;generalize aT:World.setCell (World.setCell (World.setCell (World.setCell (World.setCell (World.setCell (World.setCell (World.setCell w6 _ _) _ _) _ _) _ _) _ _) _ _) _ _) _ _=w7;obtain⟨r5,x7,h5⟩:=P5 w7 aT.symm (.cells #[.slice (some ⟨BB,0,none⟩) 256 256,.slice (some ⟨WW,0,none⟩) 1 2,.slice B3 256 e3,.slice B4 256 e4] 28);clear P5 aT;have k5:=qa r5;exact bodyPost_ret (v:=.agg (qF (.slice (some ⟨BB,0,none⟩) 256 256) (.slice (some ⟨WW,0,none⟩) 1 2) (.slice B3 256 e3) (.slice B4 256 e4) 0 8 1 (.slice none 0 0))) (by simp[results,results86,go_sem,k5]) rfl ⟨_,rfl,h5,x7⟩
def outOn (lo B:Nat) (A1:OA) (n1 c1:Nat) (A2:OA) (n2:Nat) (n3:Nat) (A4:OA) (n4 c4:Nat) (S:Sto):Qd:=⟨Nat,fun b=>.pointer (some ⟨b,0,none⟩),fun b W=>∃ A3' c3',OnB lo b (.slice A1 n1 c1) (.slice A2 n2 n2) (.slice A3' n3 c3') (.slice A4 n4 c4) S W/\Zu lo (.slice A3' n3 c3')⟩
theorem qbc (lo B:Nat) (A1:OA) (n1 c1:Nat) (A2:OA) (n2:Nat) (n3:Nat) (A4:OA) (n4 c4:Nat) (S:Sto) (b:Nat):(outOn lo B A1 n1 c1 A2 n2 n3 A4 n4 c4 S).f b=.pointer (some ⟨b,0,none⟩):=rfl
theorem qeG (lo B:Nat) (A1:OA) (n1 c1:Nat) (A2:OA) (n2:Nat) (n3:Nat) (A4:OA) (n4 c4:Nat) (S:Sto):∀ p,QZ ((outOn lo B A1 n1 c1 A2 n2 n3 A4 n4 c4 S).φ p):=fun p W W' he ⟨A,c,⟨h1,h2,h3⟩,h4⟩=>⟨A,c,⟨h1,qb h2 he,h3.ext he⟩,h4⟩
def qeF (lo:Nat):Qd:=⟨Nat,fun b=>.map (some b),fun b W=>lo<=b/\b<W.heap.size/\Zk W b fun _=>none⟩
theorem UP (lo b:Nat):(qeF lo).f b=.map (some b):=rfl
theorem qcN (lo:Nat):∀ p,QZ ((qeF lo).φ p):=fun p W W' he ⟨h1,h2,h3⟩=>⟨h1,Nat.lt_of_lt_of_le h2 he.size,h3.of_heap (he.block p h2)⟩
theorem run_mm (t:TypeId) (W:World):(Instr.makeMap t none).run prog W=.ok (.map (some W.heap.size)) (W.alloc (.map #[] 0)):=rfl
theorem run_bx (cs:Array Value) (t:TypeId) (W:World):(Instr.box t (.agg cs)).run prog W=.ok (.pointer (some ⟨W.heap.size,0,none⟩)) (W.alloc (.cells cs t)):=rfl
theorem Tn {cs:Array Value} {k:Nat} {v:Value} (hk:k<256) (hv:cs[k]?=some v) (W:World):(Instr.index 94 (.agg cs) (.int .i64 (k:Int))).run prog W=.ok v W:=by obtain⟨i0,hi,ag,aV,aW⟩:=info_parts Tryz.info_int;have hp:=run_part_plain (P:=prog) (w:=W) (e:=3) zQ hv;have h0:(0:Int)<=(k:Int)/\(k:Int)<256:=zO;simp[Instr.index,asIntOf,run_underlying underlying94,h0,sizeOf,typeInfo,hi,aV,hp,Sem.run_bind];intro ig;omega
theorem kE {R:Ending->World->Prop} {a:Act} {W:World} {u v:Value} (h2:a.tmps[2]?.getD undef=u) (h3:a.tmps[3]?.getD undef=v) (hd:a.defers=[]) (hR:R (.returned (.tuple #[u,v])) W):bodyPost prog Tryz.f59 R .ret a W:=by refine bodyPost_ret (v:=.tuple #[u,v]) ?_ hd hR;simp[results,results59,go_sem,h2,h3]
set_option maxRecDepth 100000 in
theorem KR (A1 n1 c1 A2 n2 c2 A3 n3 c3 A4 n4 c4) (gen root next:Int) (A5 c5) (S:Sto) (dead:List Int) (w:World) (h:qV w w.heap.size (.slice A1 n1 c1) (.slice A2 n2 c2) (.slice A3 n3 c3) (.slice A4 n4 c4) S) (hd:Zv w w.heap.size (.slice A5 dead.length c5) dead):Calls prog 59 #[.agg (qF (.slice A1 n1 c1) (.slice A2 n2 c2) (.slice A3 n3 c3) (.slice A4 n4 c4) gen root next (.slice A5 dead.length c5))] w (Te S root next dead w):=by
 have HCK:=zH (fun W (hx:Ext w W)=>JN A1 n1 c1 A2 n2 c2 A3 n3 c3 A4 n4 c4 S W (h.ext hx));have HNL:ql S=true->S.now.length<1073741824:=fun hm=>by have:=(Qc hm).2.2.1;omega
 have HON:=zH (fun (hm:ql S=true) W (hx:Ext w W)=>qeA A1 n1 c1 A2 n2 c2 A3 n3 c3 A4 n4 c4 S (HNL hm) W (h.ext hx));replace h:=zH h;replace hd:=zH hd;clear HNL;go_enter func59,ntmps59;go_wp2_with fail;generalize aA:World.alloc w _=w1;have x1:Ext w w1:=by rw[<-aA];exact zN _ _
 have p1:w1.heap[w.heap.size]?=some (.cells (qF (.slice A1 n1 c1) (.slice A2 n2 c2) (.slice A3 n3 c3) (.slice A4 n4 c4) gen root next (.slice A5 dead.length c5)) 32 (0,0)):=by rw[<-aA];exact zI _ _ _ rfl
 clear aA;refine(HCK.out w1 x1).mono ?_;rintro e w2 ⟨rfl,hB⟩;have x2:=x1.trans hB;have p2:=qb p1 hB;have k2:=qa p2;clear hB p1 x1 HCK;rcases hmay:ql S with _|_
 ·unfold JQ;have HB:=zH (Te.bad (S:=S) (next:=next) (root:=root) (dead:=dead) x2 (fun vs hp=>by have:=hp.may;rw[hmay] at this;cases this));replace hmay:=zH hmay;go_wp2_with fail;exact kE rfl rfl rfl HB.out
 ·unfold JQ;rcases Nat.lt_or_ge 40 dead.length with h40|h40
  ·have hq:decide ((dead.length:Int)>40)=true:=decide_eq_true zO;have HB:=zH (Te.bad (S:=S) (next:=next) (root:=root) (dead:=dead) x2 (fun vs hp=>by have:=hp.few;omega));replace hmay:=zH hmay;go_wp2_with fail;exact kE rfl rfl rfl HB.out
  ·have hq:decide ((dead.length:Int)>40)=false:=decide_eq_false zO;have iy:=zH hmay;clear hmay;go_wp2_with fail;have gP:∀ W,qj.r w2 W->∀ i,W.cell? ⟨w.heap.size,i,none⟩=(qF (.slice A1 n1 c1) (.slice A2 n2 c2) (.slice A3 n3 c3) (.slice A4 n4 c4) gen root next (.slice A5 dead.length c5))[i]?:=fun W h=>qa (qb p2 h);have aW:w.heap.size<w2.heap.size:=(zG.1 p2).1;refine qp zQ ?_;refine qQ (w:=w2) qj (qH [(4,outOn w2.heap.size w2.heap.size A1 n1 c1 A2 n2 n3 A4 n4 c4 S),(5,qeF w2.heap.size)])
    [true,true,true,true,true,true,true] 2 zQ zQ zQ zQ zQ zQ zQ ?st (Rel.drew _ _) ?walk
   case st=>exact qk (by simp only[List.forall_mem_cons];exact⟨fun p=>QS (qeG _ _ _ _ _ _ _ _ _ _ _ _ p),fun p=>QS (qcN _ p),fun _ h=>by cases h⟩)
   case walk =>
    intro K hK;dsimp only[qu];repeat ((first|(refine qd ?_ zA0 zA0 (fun W hW _=>⟨W,?_,Rel.refl _ W⟩) ?_;rotate_left;(go_simp<;>with_reducible rfl))|(refine qh zA0 ?_));try simp only[Act.put,qm,qf,qc,qg,qbc,UP,zA,zB,zC])
    refine qy (outOn w2.heap.size w2.heap.size A1 n1 c1 A2 n2 n3 A4 n4 c4 S) zA0 zA0 (fun W hW _=>?_) (fun (bb:Nat)=>?_)
    ·have iY:Ext w2 W:=hW;refine Qi ?_ ((HON.out iy.out W (x2.trans iY)).mono fun e w' h=>?_)
     ·go_simp
     ·obtain⟨u,rfl,⟨b,A3',c3',rfl,h1,h2⟩,h3⟩:=h;exact⟨b,rfl,⟨A3',c3',⟨Nat.le_trans iY.size h1.1,h1.2⟩,h2.mono iY.size⟩,h3⟩
    simp only[Act.put,qf,qc,qg,qbc,UP,zA,zB,zC];refine qy (qeF w2.heap.size) zA0 zA0 (fun W hW _=>?_) (fun (mb:Nat)=>?_)
    ·have iY:Ext w2 W:=hW;have hmm:=run_mm 93 W;refine jE (u:=.map (some W.heap.size)) (w':=W.alloc (.map #[] 0)) ?_ ⟨W.heap.size,rfl,⟨iY.size,zA2,Zk.empty W⟩,zN _ _⟩;go_simp
    simp only[Act.put,qf,qc,qg,qbc,UP,zA,zB,zC];refine qd (.agg (ca0 (.slice A1 n1 c1) (.slice A2 n2 c2) (.slice A3 n3 c3) (.slice A4 n4 c4) bb mb)) zA0 zA0 (fun W hW _=>⟨W,?_,Rel.refl _ W⟩) ?_
    ·go_simp;exact ca_eq _ _ _ _ _ _
    simp only[Act.put,qf,qc,qg,qbc,UP,zA,zB,zC];refine qv (hK _ _ fun W hW hF=>?_);have iY:Ext w2 W:=hW;have HO:=(hF 4).1;have HM:=(hF 5).1;clear hF hK gP;change ∃ A3' c3',_ at HO;change w2.heap.size<=mb/\mb<W.heap.size/\Zk W mb _ at HM;obtain⟨A3',c3',hon,hfr⟩:=HO;obtain⟨hm1,iw,xQ⟩:=HM;obtain⟨bQ,aF,aH⟩:=hon;have xW:=x2.trans iY;have pW:=qb p2 iY;refine zB5 ?_;have hca:=ca0_ar (.slice A1 n1 c1) (.slice A2 n2 c2) (.slice A3 n3 c3) (.slice A4 n4 c4) bb mb;have rZ:∀ i,i<6->(ca0 (.slice A1 n1 c1) (.slice A2 n2 c2) (.slice A3 n3 c3) (.slice A4 n4 c4) bb mb)[i]?=(#[.slice A1 n1 c1,.slice A2 n2 c2,.slice A3 n3 c3,.slice A4 n4 c4,.pointer (some ⟨bb,0,none⟩),.map (some mb)]:Array Value)[i]?:=fun i hi=>ca0_low _ _ _ _ _ _ hi;generalize (ca0 (.slice A1 n1 c1) (.slice A2 n2 c2) (.slice A3 n3 c3) (.slice A4 n4 c4) bb mb)=ca at *;have oU:=run_bx ca;replace hca:=zH hca;replace rZ:=zH rZ;clear hW iY x2 p2;go_wp2_with fail;refine Qr ?_;have hcc:W.heap.size=W.heap.size:=rfl;obtain⟨cb,uA⟩:∃ cb,cb=W.heap.size:=⟨_,rfl⟩
    generalize aO:World.alloc W _=w3;have x3:Ext W w3:=by rw[<-aO];exact zN _ _
    have r3:w3.heap[cb]?=some (.cells ca 96 (0,0)):=by rw[<-aO];exact zI _ _ _ uA
    have z3:w3.heap.size=cb+1:=by rw[<-aO,uA];simp
    clear aO hcc;have hbb:bb<W.heap.size:=(zG.1 aF).1;have xw3:=xW.trans x3;have C3:Cen ⟨S,w.heap.size,w3.heap.size,cb,bb,mb,ca,.slice A1 n1 c1,.slice A2 n2 c2,.slice A3 n3 c3,.slice A4 n4 c4,.slice A1 n1 c1,.slice A2 n2 n2,.slice A3' n3 c3',.slice A4 n4 c4⟩ w3 (fun _=>none):={
     row:=r3
     c0:=rZ.out 0 zO
     c1:=rZ.out 1 zO
     c2:=rZ.out 2 zO
     c3:=rZ.out 3 zO
     c4:=rZ.out 4 zO
     c5:=rZ.out 5 zO
     map:=xQ.of_heap (x3.block _ iw)
     known:=fun a v hv=>by cases hv
     sto:=h.out.below xw3
     on:=qb aF x3
     onb:=(h.out.below xw3).bs
     onw:=(h.out.below xw3).ws.clip
     onl:=(h.out.below xw3).last
     onn:=(aH.now.below x3).more x3.size
     onf:=fun A n c e=>by have hn:=(Bys.at_ aH.now).2.2.2;have hl:=(Qc iy.out).2.2.1;have hn3:=(Bys.at_ aH.now).1;obtain⟨b,off,hA,hb⟩:=hn zO;have e':Value.slice A3' n3 c3'=.slice (some A) n c:=e;rw[hA] at e';simp only[Value.slice.injEq,Option.some.injEq] at e';rw[<-e'.1];show b≠cb;omega
     low:=by
      show cb<w3.heap.size/\bb<w3.heap.size/\mb<w3.heap.size/\cb≠mb/\bb≠mb/\w3.heap.size<=w3.heap.size/\w.heap.size<=cb/\w.heap.size<=bb/\w.heap.size<=mb/\cb≠bb;have aG:bb≠mb:=by rintro rfl;obtain⟨es,clock,h1,_⟩:=xQ;rw[aF] at h1;cases h1
      omega
     may:=iy.out }
    rw[<-uA];have pw3:=qb pW x3;have hcw:w.heap.size<=cb:=zO;have aO:w.heap.size<cb:=by have:=(zG.1 pW).1;omega
    generalize iQ:(⟨S,w.heap.size,w3.heap.size,cb,bb,mb,ca,.slice A1 n1 c1,.slice A2 n2 c2,.slice A3 n3 c3,.slice A4 n4 c4,.slice A1 n1 c1,.slice A2 n2 n2,.slice A3' n3 c3',.slice A4 n4 c4⟩:CP)=p at C3;have pS:p.S=S:=by rw[<-iQ]
    have pcb:p.cb=cb:=by rw[<-iQ]
    have pmb:p.mb=mb:=by rw[<-iQ]
    have plo:p.lo=w3.heap.size:=by rw[<-iQ]
    have pca:p.ca=ca:=by rw[<-iQ]
    have hmb:w.heap.size<mb:=by have:=(zG.1 pW).1;omega
    clear iQ oU xQ aH aF hfr pW x3 r3 z3 bQ hm1 iw hbb uA;have kp:=qa pw3;go_wp2_with fail;have HLR:=qbG p root w3 _ C3;rw[pcb] at HLR;refine HLR.mono ?_;rintro e w4 ⟨v,g,rfl,⟨lvl,A,n,c,fk,lk,rfl,bZ⟩,bK,hm,hg,hn⟩;have C4:=C3.after bK hm hg hn;rw[pS] at bZ ⊢;have hz3:cb<w3.heap.size:=by rw[<-pcb];exact(zG.1 C3.row).1
    have x4:Below w.heap.size w w4:=xw3.grown hg zO (fun q hq=>by cases hq;rw[pmb];omega);have pw4:=(hg.block w.heap.size zO zA1).trans pw3;have z4:=hg.size;have hcb4:cb<w4.heap.size:=by rw[<-pcb];exact(zG.1 C4.row).1
    rcases hok:okL S (-1) root with _|_
    ·have HB:=zH (fun W (hx:Ext w4 W)=>Te.bad (S:=S) (next:=next) (root:=root) (dead:=dead) (x4.trans (Below.mono hx zO)) (fun vs hp=>by have:=hp.top;rw[hok] at this;cases this));replace C4:=zH C4;replace C3:=zH C3;replace hok:=zH hok;clear bZ bK hm hg hn HLR kp pw3 pw4;go_wp2_with fail;exact kE rfl rfl rfl (HB.out _ (zN _ _))
    ·obtain⟨a,ha,cO⟩:=ZR hok;have hga:=bZ hok;rw[hok] at hga;obtain⟨n9,lv,xs,A',c',fk',lk',b',e9,-,-,hnode,hv,aK,aN,ah⟩:=C4.known _ _ hga;rw[pS] at hnode aN;simp only[Value.agg.injEq,Array.mk.injEq,List.cons.injEq,Value.int.injEq,Value.bool.injEq,Value.slice.injEq,true_and,and_true] at hv;obtain⟨rfl,⟨rfl,rfl,rfl⟩,-,-,-,-,-,-,rfl⟩:=hv;have hAN:=(qM hnode).1;have rJ:=fun y hy=>((qM hnode).2.1 y hy).1;have hlen:xs.length<=5:=by unfold Qf ja at hAN;simp at hAN;omega
     have xx:Vr S root next=Zy next [] (qC S lv xs):=by
      unfold Vr;rw[e9,Int.toNat_natCast,hnode];show Zy next [] (qC S (lv:Int).toNat xs)=_
      rw[Int.toNat_natCast]
     have xn:(qD S lv xs).isSome=true:=aN.1.symm;have xH:0<lv->∀ y∈xs,(g y.r).isSome=true:=ah rfl;replace C4:=zH C4;replace C3:=zH C3;replace hok:=zH hok;replace aK:=zH aK;replace xn:=zH xn;replace xH:=zH xH;replace rJ:=zH rJ;replace xx:=zH xx;replace hnode:=zH hnode;replace cO:=zH cO;replace hga:=zH hga;replace ha:=zH ha;replace e9:=zH e9;have kp4:=qa pw4;have hzw4:w.heap.size<w4.heap.size:=zO;clear bZ bK hm hg hn HLR kp pw3 aN ah hAN;go_wp2_with fail;generalize aT:World.alloc w4 _=w5;have x45:Ext w4 w5:=by rw[<-aT];exact zN _ _
     clear aT;have x5:=x4.trans (Below.mono x45 zO);have pw5:=qb pw4 x45;have C5:=C4.out.ext x45;have dm:=aK.out.keep x45.size (fun q _ hq=>Below.cell x45 hq);have I5:VolI p w5 w5 [] (.slice none 0 0) ca (fun _=>0) (fun _=>0):=by
      refine⟨⟨Off.refl (zM _),?_,hca.out,fun i _=>by rw[pca],(zG.1 C5.row).1⟩,World.ownsRow_nil _ _ _ _⟩;have:=C5.row
      rwa [pca] at this
     have HV:=qhk p w5 g (fun _=>0) (fun _=>0) (.slice A1 n1 c1) (.slice A2 n2 c2) (.slice A3 n3 c3) (.slice A4 n4 c4) gen root next (.slice A5 dead.length c5) C5 lv xs A c [] (.slice none 0 0) ca w5 I5 zA2 rJ.out hlen dm (by rw[pS];exact xn.out) xH.out
     rw[pcb,pS] at HV;refine HV.mono ?_;rintro e w6 ⟨F6,oG⟩;clear HV I5;have x6:Below w.heap.size w w6:=⟨F6.os.trans x5.os,F6.tape.trans x5.tape,F6.output.trans x5.output,Nat.le_trans x5.size F6.size,fun k hk=>(F6.block k (Nat.lt_of_lt_of_le hk x5.size) zO (by simp[Value.ownBlock])).trans (x5.block k hk)⟩
     have hz5:w.heap.size<w5.heap.size:=by have:=x45.size;omega
     have hzw6:w.heap.size<w6.heap.size:=by have:=F6.size;omega
     have hDF:cb<w5.heap.size:=by have:=x45.size;omega
     have hmb5:mb<w5.heap.size:=by have h1:=C3.out.low.2.2.1;rw[pmb,plo] at h1;have:=x45.size;omega
     have hcb6:cb<w6.heap.size:=by have:=x45.size;have:=F6.size;omega
     have hmb6:mb<w6.heap.size:=by have h1:=C3.out.low.2.2.1;rw[pmb,plo] at h1;have:=x45.size;have:=F6.size;omega
     rcases hgo:Zy next [] (qC S lv xs) with _|vs
     ·rw[hgo] at oG;obtain rfl:e=.returned (.int .i64 8):=oG;have HB:=zH (Te.bad (S:=S) (next:=next) (root:=root) (dead:=dead) x6 (fun vs hp=>by have:=hp.vols;rw[xx.out,hgo] at this;cases this));clear kp4 pw4 pw5 F6 x45;replace C5:=zH C5;go_wp2_with fail;exact kE rfl rfl rfl HB.out
     ·rw[hgo] at oG;obtain⟨rfl,vv,ca6,V6,N6⟩:=oG;clear N6;have pw6:=(F6.block w.heap.size hz5 zO (by simp[Value.ownBlock])).trans pw5;have kp6:=qa pw6;clear kp4 pw4 pw5 F6 x45;replace C5:=zH C5;replace V6:=zH V6;replace hgo:=zH hgo;replace dm:=zH dm;obtain⟨i0,hi,ag,aV,aW⟩:=info_parts Tryz.info_int;go_wp2_with (at_builtin;refine Qh ?_);have hda:Rd (w6.alloc (.cells #[.int .i64 root] 3)) w.heap.size 1 A5 dead.length (dead.map fun (a:Int)=>Value.int .i64 a):=by obtain⟨A',c',e,_,_,hr⟩:=hd.out;cases e;exact(hr.below x6).alloc zO _
      have o7:(w6.alloc (.cells #[.int .i64 root] 3)).ownsRow w6.heap.size 3 1 (.slice (some ⟨w6.heap.size,0,none⟩) 1 1) 1 [.int .i64 root]:=World.ownsRow_lit (base:=w6.heap.size) (e:=3) (size:=1) w6 #[.int .i64 root] 1 (zM _) zA6 rfl;refine QF.go (Qz _ rfl (.tmp 48) (.tmp 50) 30 rfl w6.heap.size 3 i0 (.int .i64 0) 1 8 underlying30 hi ag aV aW rfl zD _ 1 [.int .i64 root] rfl o7 w.heap.size A5 dead.length c5 (dead.map fun (a:Int)=>Value.int .i64 a) rfl hda zA7 zO zD zA2 ?_);intro v7 w7 o8 g7 hB7 hv7;have x67:Ext w6 w7:=Below.trans (zN w6 _) hB7;have I1:R1 w6 root dead vs v7 (.int .i64 0) w7:=⟨0,Nat.zero_le _,rfl,by
       have e:GN (vO root dead vs 0)=[.int .i64 root]++dead.map fun (a:Int)=>Value.int .i64 a:=by unfold vO GN;simp
       rw[e];exact o8,x67⟩
      have V7:=V6.out.ext x67;obtain⟨AV,cV,rfl,hHA,hHC⟩:=qE V7.own;have kc7:w7.cell? ⟨cb,518,none⟩=some (.slice AV vs.length cV):=by rw[<-pcb,qa V7.t.row];exact V7.t.ar.vol
      have hvs16:vs.length<=16:=kG next _ _ _ zA2 hgo.out
      replace I1:=zH I1;replace V7:=zH V7;replace x67:=zH x67;clear o7 o8 g7 hv7 hB7 hda hi ag aV aW hHA hHC kp6;go_wp2_with fail;clear kc7;go_loopw [5,57] (fun v i wr=>R1 w6 root dead vs v i wr) (fun _ i _=>vs.length-(intOf i).toNat)
      case atStart=>exact I1.out
      case round =>
       obtain⟨k,hk,rfl,own,xr⟩:=hrel.ex;clear I1;by_cases hlt:k<vs.length
       ·have aI:=hlt;obtain⟨bv,offv,eA,hbv,aU⟩:=(Rd.of_own (V6.out.ext xr).own).2 zO;subst eA;obtain⟨d0,d1,d2,d3⟩:=XF vs k aI;replace d0:=aU _ _ d0;replace d1:=aU _ _ d1;replace d2:=aU _ _ d2;replace d3:=aU _ _ d3;have HSU:=zH (qeS root dead vs aI);generalize vs[k]=u at *;clear aU;rw[<-Nat.add_assoc] at d1 d2 d3;obtain⟨AR,cR,rfl,yx,yz⟩:=qE own;obtain⟨i0,hi,ag,aV,aW⟩:=info_parts Tryz.info_int;replace own:=zH own;replace xr:=zH xr;clear yx yz;go_upto_region 11 with fail;generalize yA:World.alloc wr _=w9;have x9:Ext wr w9:=by rw[<-yA];exact zN _ _
        have u9:w9.heap[wr.heap.size]?=some (.cells (vol4 u) 36 (0,0)):=by rw[<-yA];exact zI _ _ _ rfl
        have ku9:=qa u9;clear yA d0 d1 d2 d3 u9;go_wp2_with (at_builtin;refine Qh ?_);refine QF.go (js _ rfl (.tmp 61) (.tmp 64) 30 rfl w6.heap.size 3 i0 (.int .i64 0) 1 8 underlying30 hi ag aV aW rfl zD _ _ _ rfl (zm own.out x9) #[.int .i64 u.root] rfl rfl zA7 zO zD (Nat.le_trans xr.out.size x9.size) ?_);intro v8 w8 own8 _ yT _;have IR:R1 w6 root dead vs v8 (.int .i64 ((k:Int)+1)) w8:=⟨k+1,aI,rfl,by rw[HSU.out,qkU];exact own8,Below.trans (Below.trans xr.out (Below.mono x9 xr.out.size)) yT⟩
        replace IR:=zH IR;clear own8 yT hi ag aV aW;go_wp2_with fail;refine⟨IR.out,?_⟩;simp[intOf];omega
       ·have lU:k=vs.length:=zO;subst lU;have VW:=V6.out.ext xr;have CW:=VW.t.cen C5.out;have hRl:(Za root dead vs).length=1+dead.length+vs.length:=by rw[<-qaC];exact qgT root dead vs (zM _)
        rw[qaC,<-hRl] at own;obtain⟨AR,cR,rfl,yx,yz⟩:=qE own;obtain⟨N,hN⟩:∃ N,N=(Za root dead vs).length:=⟨_,rfl⟩
        rw[<-hN] at own hRl ⊢;have I2:R2 p wr (.slice AV vs.length cV) (Za root dead vs) (.int .i64 0) wr:=⟨0,g,ca6,fun _=>0,fun _=>0,Nat.zero_le _,rfl,CW,VW.t.ar,qR.zero _,(fun a ha=>by cases ha),(fun r hr=>by cases hr),qaO.refl _ _ _⟩
        have xw:=x6.trans (Below.mono xr zO);have pwr:=qb pw6 xr;clear yx yz;replace I2:=zH I2;replace CW:=zH CW;replace VW:=zH VW;replace own:=zH own;replace hRl:=zH hRl;replace hN:=zH hN;replace xw:=zH xw;replace pwr:=zH pwr;clear hrel;generalize wr=w8 at *;go_wp2_with fail;go_loopw [2,3,69] (fun u v i wq=>u=.pointer (some ⟨cb,0,none⟩)/\v=.int .i64 0/\R2 p w8 (.slice AV vs.length cV) (Za root dead vs) i wq) (fun _ _ i _=>N-(intOf i).toNat)
        case atStart=>exact⟨rfl,rfl,I2.out⟩
        case round =>
         obtain⟨rfl,rfl,hrel⟩:=hrel;obtain⟨k,g2,ca2,refs2,nodes2,hk2,rfl,C2,N2,M2,Q2,ay,K2⟩:=hrel.ex;clear I2;have hRL:=hRl.out;have wu:=hN.out;by_cases hlt2:k<(Za root dead vs).length
         ·have hlt3:k<N:=zO;have uJ:wrap64 ((k:Int)+1)=(k:Int)+1:=IntWalk.wrap64_in _ zO;replace uJ:=zH uJ;obtain⟨br,offr,eR,wF,aU⟩:=(Rd.of_own own.out).2 zO;have hbr2:=(QP own.out)
          subst eR;have hbr3:=hbr2 br rfl;have dk:=aU k _ (rowI_get _ k hlt2);replace dk:=(World.cell?_of_block (a:=⟨br,offr+k,none⟩) (K2.block br wF (by rw[pcb];omega) (by rw[pmb];omega))).trans dk;have HTK:=zH (List.take_succ_eq_append_getElem hlt2);have HMM:=zH (List.getElem_mem hlt2);generalize (Za root dead vs)[k]=r at *;have HT:=tree_any (p.put ca2) (((Za root dead vs).take k).map Int.toNat) (by rw[List.length_map,List.length_take];omega) r wr g2 refs2 nodes2 _ C2 N2 M2 Q2;change Calls _ _ #[.pointer (some ⟨p.cb,0,none⟩),.int .i64 r] wr _ at HT;rw[pcb] at HT;replace C2:=zH C2;replace N2:=zH N2;replace M2:=zH M2;replace Q2:=zH Q2;replace ay:=zH ay;replace K2:=zH K2;replace hRL:=zH hRL;replace wu:=zH wu;replace hlt2:=zH hlt2;replace HT:=zH HT;clear aU hbr2 hbr3;go_wp2_with fail;refine HT.out.mono ?_;rintro e w9 ⟨hE,t1,t2,t3,t4,t5,t6⟩;have K9:qaO p.cb p.mb w8 w9:=K2.out.trans ⟨t1,t2,t3,t4,t5⟩;rcases hokr:okL p.S (-1) r with _|_
          ·have x9:=K9.below xw.out (by have:=(zG.1 pwr.out).1;omega) (by rw[pcb];omega) (by rw[pmb];omega);have HB:=zH (Te.bad (S:=S) (next:=next) (root:=root) (dead:=dead) x9 (fun vs' hp=>by have h1:=hp.vols;rw[xx.out,hgo.out,Option.some.injEq] at h1;subst h1;have:=hp.ok r HMM.out;rw[pS] at hokr;rw[hokr] at this;cases this));obtain rfl:e=.returned (.int .i64 8):=hE.trans (by show Ending.returned (.int .i64 (if okL p.S (-1) r=true then 0 else 8))=_;rw[hokr];rfl);replace hokr:=zH hokr;clear t1 t2 t3 t4 t5 t6 K9 x9 hE;go_wp2_with fail;exact kE rfl rfl rfl HB.out
          ·obtain⟨ca3,g3,refs3,nodes3,C9,hg9,N9,M9,Q9⟩:=t6 hokr;have IR:R2 p w8 (.slice AV vs.length cV) (Za root dead vs) (.int .i64 ((k:Int)+1)) w9:=by
            refine⟨k+1,g3,ca3,refs3,nodes3,hlt2.out,rfl,C9,N9,?_,?_,?_,K9⟩
            ·rw[HTK.out,List.map_append];exact M9
            ·rw[HTK.out,List.map_append];exact Q9
            ·intro r' mZ;rw[HTK.out] at mZ;rcases List.mem_append.1 mZ with h1|h1
             ·exact ay.out r' h1
             ·rw[List.mem_singleton.1 h1];exact hokr
           replace IR:=zH IR;obtain rfl:e=.returned (.int .i64 0):=hE.trans (by show Ending.returned (.int .i64 (if okL p.S (-1) r=true then 0 else 8))=_;rw[hokr];rfl);replace hokr:=zH hokr;clear hE t1 t2 t3 t4 t5 t6 K9 C9 hg9 N9 M9 Q9;go_wp2_with fail;rw[uJ.out];refine⟨⟨rfl,rfl,IR.out⟩,?_⟩;simp[intOf];omega
         ·have hHU:k=(Za root dead vs).length:=zO;have hlt3:¬k<N:=zO;rw[hHU,List.take_length] at M2 Q2 ay;have k9:=qa C2.row;have hkN:k=N:=zO;replace hHU:=zH hHU;replace ay:=zH ay;replace C2:=zH C2;replace M2:=zH M2;replace Q2:=zH Q2;replace K2:=zH K2;replace N2:=zH N2;clear hrel hk2 hlt2 hRL wu;have hz8:w.heap.size<w8.heap.size:=(zG.1 pwr.out).1;have x9:Below w.heap.size w wr:=K2.out.below xw.out zO (by rw[pcb];omega) (by rw[pmb];omega);have pw9:=(K2.out.block w.heap.size hz8 (by rw[pcb];omega) (by rw[pmb];omega)).trans pwr.out;have kp9:=qa pw9;have rc9:=C2.out.row;change wr.heap[p.cb]?=some (.cells ca2 _ _) at rc9;rw[pcb] at rc9;have hcc:∀ j v,(Xa refs2)[j]?=some v->wr.cell? ⟨cb,6+j,none⟩=some v:=fun j v hj=>by obtain⟨h1,rfl⟩:=qje hj;rw[qa rc9];exact N2.out.ref j h1
          have hst9:=h.out.below x9;obtain⟨A'',c'',e3,hlc,hmc,rH⟩:=hst9.now;have mQ:S.now.length=256:=(Qc iy.out).2.2.1;have xU:∃ b3 o3,(Value.slice A3 n3 c3)=.slice (some ⟨b3,o3,none⟩) 256 c3/\∀ j,j<256->wr.cell? ⟨b3,o3+j,none⟩=some (.int .u8 ((S.now[j]?.getD 0).toNat:Int)):=by rw[Value.slice.injEq] at e3;obtain⟨rfl,hn3,rfl⟩:=e3;obtain⟨b3,o3,hA3,_,hML⟩:=rH.2 zO;refine⟨b3,o3,by rw[hA3,hn3,mQ],fun j hj=>?_⟩;exact hML j _ (by rw[List.getElem?_map,zL zO];rfl)
          obtain⟨b3,o3,eN,hcN⟩:=xU;rw[eN] at kp9;replace hcN:=zH hcN;replace x9:=zH x9;clear hst9 rH hlc hmc pw9 rc9;replace e3:=zH e3;replace eN:=zH eN;go_upto_region 20 with fail;go_wp2_with (refine KZ rfl 94 (.tmp 82) rfl cb 6 rfl (Xa refs2) _ hcc underlying94 rfl (by rw[show (Xa refs2).length=256 by simp[Xa]];kernel_rfl) ?_);clear hcc;replace hkN:=zH hkN;go_loopw [2,3,84] (fun u v i wq=>u=.pointer (some ⟨cb,0,none⟩)/\v=.int .i64 0/\R3 S refs2 wr i wq) (fun _ _ i _=>256-(intOf i).toNat)
          case atStart=>exact⟨rfl,rfl,0,zO,rfl,fun a h=>absurd h (Nat.not_lt_zero _),rfl⟩
          case round =>
           obtain⟨rfl,rfl,hrel⟩:=hrel;obtain⟨q,nJ,rfl,hle,rfl⟩:=hrel.ex;clear hrel;have xI:qR S (Qk root dead vs) refs2 nodes2:=by have:=M2.out;rw[pS] at this;exact this
           have sQ:Qb S root next dead vs:=⟨iy.out,h40,hok.out,xx.out.trans hgo.out,fun r hr=>by have:=ay.out r hr;rwa [pS] at this⟩
           by_cases hl4:q<256
           ·have dN:=hcN.out q hl4;have hix:=Tn (cs:=(Xa refs2).toArray) hl4 (v:=.int .i64 (refs2 q)) (by rw[List.getElem?_toArray];exact qbm refs2 hl4);generalize gm:(S.now[q]?.getD 0).toNat=nv at *;have hnv2:nv<256:=by rw[<-gm];exact UInt8.toNat_lt _
            have hwq:=zH (IntWalk.wrap64_in ((q:Int)+1) zO);replace gm:=zH gm;replace hle:=zH hle;replace xI:=zH xI;replace sQ:=zH sQ;rcases Nat.lt_or_ge nv (refs2 q) with hg|hg
            ·have dE:decide ((refs2 q:Int)>(nv:Int))=true:=decide_eq_true zO;have bG:decide (nv<refs2 q)=true:=decide_eq_true hg;have HB:Te S root next dead w (.returned (.tuple #[.pointer none,.int .i64 8])) wr:=⟨x9.out,.inl ⟨rfl,fun vs' hp=>by have h1:=hp.vols;rw[xx.out,hgo.out,Option.some.injEq] at h1;subst h1;exact⟨refs2,nodes2,xI.out,fun he=>by have:=he q hl4;rw[gm.out] at this;omega⟩⟩⟩
             replace HB:=zH HB;replace hg:=zH hg;generalize (Xa refs2).toArray=arr at *;go_wp2_with fail;exact kE rfl rfl rfl HB.out
            ·have dE:decide ((refs2 q:Int)>(nv:Int))=false:=decide_eq_false zO;have bG:decide (nv<refs2 q)=false:=decide_eq_false zO;have IR:R3 S refs2 wr (.int .i64 ((q:Int)+1)) wr:=⟨q+1,hl4,rfl,fun a ha=>by
              rcases Nat.lt_or_ge a q with h1|h1
              ·exact hle.out a h1
              ·obtain rfl:a=q:=zO;rw[gm.out];exact hg,rfl⟩
             replace IR:=zH IR;replace hg:=zH hg;generalize (Xa refs2).toArray=arr at *;go_wp2_with fail;refine⟨⟨rfl,rfl,IR.out⟩,?_⟩;simp[intOf];omega
           ·have uU:Qw S refs2:=fun a ha=>hle a zO;have HT:Te S root next dead w (.returned (.tuple #[.pointer (some ⟨cb,0,none⟩),.int .i64 0])) wr:=⟨x9.out,.inr ⟨vs,refs2,nodes2,cb,ca2,.slice AV vs.length cV,rfl,⟨sQ,xI,uU,hcw,by rw[<-pcb];exact C2.out.row,N2.out,QJ (own_kept VW.out.own K2.out (by rw[pcb];exact hDF) (by rw[pmb];exact hmb5)) zO⟩⟩⟩
            replace HT:=zH HT;replace xI:=zH xI;replace sQ:=zH sQ;replace uU:=zH uU;replace hle:=zH hle;go_wp2_with fail;exact kE rfl rfl rfl HT.out
def Zo (S:Sto) (a:Nat):Nat:=(S.now[a]?.getD 0).toNat
def JH (S:Sto) (a:Int):Int:=if ql S=true then (if 8<=a/\a<256 then (if Zo S a.toNat=0 then 6 else 0) else 2) else 8
theorem qft {S:Sto} (h:ql S=false) (a:Int):JH S a=8:=by unfold JH;rw[h];simp
theorem qfu {S:Sto} (h:ql S=true) {a:Int} (ha:¬(8<=a/\a<256)):JH S a=2:=by unfold JH;rw[if_pos h,if_neg ha]
theorem qee {S:Sto} (h:ql S=true) {a:Nat} (ha:8<=a) (ak:a<256):JH S (a:Int)=if Zo S a=0 then 6 else 0:=by unfold JH;rw[if_pos h,if_pos zO,Int.toNat_natCast]
theorem kR {S:Sto} {a:Int} (h:JH S a=0):ql S=true/\∃ n:Nat,a=(n:Int)/\8<=n/\n<256/\Zo S n≠0:=by
 unfold JH at h;split at h
 ·rename_i hm;split at h
  ·rename_i hr;split at h
   ·cases h
   ·rename_i hn;obtain⟨n,hna⟩:=Int.eq_ofNat_of_zero_le (show 0<=a by omega);subst hna;exact⟨hm,n,rfl,zO,zO,by simpa using hn⟩
  ·cases h
 ·cases h
theorem GE {S:Sto} (hS:ql S=true) {w:World} {B:Nat} {v:Value} (h:Bys w B v S.now):∃ b o c,v=.slice (some ⟨b,o,none⟩) 256 c/\b<B/\∀ a,a<256->w.cell? ⟨b,o+a,none⟩=some (.int .u8 (Zo S a:Int)):=by obtain⟨-,-,hl,-⟩:=Qc hS;obtain⟨A,c,e,hc,hm,hr⟩:=h;obtain⟨b,o,rfl,hb,aC⟩:=hr.2 zO;rw[hl] at e;exact⟨b,o,c,e,hb,fun a ha=>aC a _ (by rw[List.getElem?_map,zL zO];unfold Zo;rw[zL zO];rfl)⟩
set_option maxRecDepth 100000 in
theorem qcd (A1 n1 c1 A2 n2 c2 A3 n3 c3 A4 n4 c4) (S:Sto) (a:Int) (w:World) (h:qV w w.heap.size (.slice A1 n1 c1) (.slice A2 n2 c2) (.slice A3 n3 c3) (.slice A4 n4 c4) S):Calls prog 135 #[Qe A1 n1 c1 A2 n2 c2 A3 n3 c3 A4 n4 c4,.int .i64 a] w (Ret (.int .i64 (JH S a)) w):=by
 have HC:=zH (fun W (hx:Ext w W)=>JN A1 n1 c1 A2 n2 c2 A3 n3 c3 A4 n4 c4 S W (h.ext hx));replace h:=zH h;go_enter func135,ntmps135;go_wp2_with fail;generalize aA:(World.alloc w _)=w1;have x1:Ext w w1:=by rw[<-aA];exact zN _ _
 have r1:w1.heap[w.heap.size]?=some (.cells #[.slice A1 n1 c1,.slice A2 n2 c2,.slice A3 n3 c3,.slice A4 n4 c4] 28 (0,0)):=by rw[<-aA];exact zI _ _ _ rfl
 clear aA;refine(HC.out w1 x1).mono ?_;clear HC;rintro e w2 ⟨rfl,hB⟩;have x2:Ext w w2:=x1.trans hB;have r2:=qb r1 hB;clear hB r1 x1;rcases hS:ql S with _|_
 ·have hq:=zH (qft hS a);replace hS:=zH hS;rw[JE rfl];go_wp2_with fail;go_ret;exact⟨by rw[hq.out];rfl,x2⟩
 ·rw[vj rfl];by_cases hr:8<=a/\a<256
  ·obtain⟨n,hna⟩:=Int.eq_ofNat_of_zero_le (show 0<=a by omega);subst hna;have hn8:8<=n:=zO;have sO:n<256:=zO;have hq:=qee hS hn8 sO;obtain⟨b,o,c,e3,hb,aC⟩:=GE hS h.out.now;have fJ:=Ext.cell x2 (aC n sO);generalize Zo S n=nw at *;cases e3;have k2:=qa r2;have d1:decide ((n:Int)<8)=false:=decide_eq_false zO;have d2:decide ((n:Int)≥256)=false:=decide_eq_false zO;clear hr aC;replace hS:=zH hS;rcases Nat.eq_zero_or_pos nw with h0|h0
   ·have aV:((nw:Int) == 0)=true:=by rw[beq_iff_eq];omega
    have aW:decide (nw=0)=true:=decide_eq_true h0;rw[if_pos h0] at hq;replace hq:=zH hq;replace h0:=zH h0;go_wp2_with fail;go_ret;exact⟨by rw[hq.out];rfl,x2⟩
   ·have aV:((nw:Int) == 0)=false:=by rw[beq_eq_false_iff_ne];omega
    have aW:decide (nw=0)=false:=decide_eq_false zO;rw[if_neg zO] at hq;replace hq:=zH hq;replace h0:=zH h0;go_wp2_with fail;go_ret;exact⟨by rw[hq.out];rfl,x2⟩
  ·have hq:=zH (qfu hS hr);replace hS:=zH hS;by_cases h8:a<8
   ·have d1:decide (a<8)=true:=decide_eq_true h8;replace hr:=zH hr;go_wp2_with fail;go_ret;exact⟨by rw[hq.out];rfl,x2⟩
   ·have d1:decide (a<8)=false:=decide_eq_false h8;have d2:decide (a≥256)=true:=decide_eq_true zO;replace hr:=zH hr;go_wp2_with fail;go_ret;exact⟨by rw[hq.out];rfl,x2⟩
set_option maxRecDepth 100000 in
theorem qfU (A1 n1 c1 A2 n2 c2 A3 n3 c3 A4 n4 c4) (S:Sto) (a:Int) (w:World) (h:qV w w.heap.size (.slice A1 n1 c1) (.slice A2 n2 c2) (.slice A3 n3 c3) (.slice A4 n4 c4) S):Calls prog 138 #[Qe A1 n1 c1 A2 n2 c2 A3 n3 c3 A4 n4 c4,.int .i64 a] w (Ret (.int .i64 (JH S a)) w):=by
 have HC:=zH (fun W (hx:Ext w W)=>JN A1 n1 c1 A2 n2 c2 A3 n3 c3 A4 n4 c4 S W (h.ext hx));replace h:=zH h;go_enter func138,ntmps138;go_wp2_with fail;generalize aA:(World.alloc w _)=w1;have x1:Ext w w1:=by rw[<-aA];exact zN _ _
 have r1:w1.heap[w.heap.size]?=some (.cells #[.slice A1 n1 c1,.slice A2 n2 c2,.slice A3 n3 c3,.slice A4 n4 c4] 28 (0,0)):=by rw[<-aA];exact zI _ _ _ rfl
 clear aA;refine(HC.out w1 x1).mono ?_;clear HC;rintro e w2 ⟨rfl,hB⟩;have x2:Ext w w2:=x1.trans hB;have r2:=qb r1 hB;clear hB r1 x1;rcases hS:ql S with _|_
 ·have hq:=zH (qft hS a);replace hS:=zH hS;rw[JE rfl];go_wp2_with fail;go_ret;exact⟨by rw[hq.out];rfl,x2⟩
 ·rw[vj rfl];by_cases hr:8<=a/\a<256
  ·obtain⟨n,hna⟩:=Int.eq_ofNat_of_zero_le (show 0<=a by omega);subst hna;have hn8:8<=n:=zO;have sO:n<256:=zO;have hq:=qee hS hn8 sO;obtain⟨b,o,c,e3,hb,aC⟩:=GE hS h.out.now;have fJ:=Ext.cell x2 (aC n sO);generalize Zo S n=nw at *;cases e3;have k2:=qa r2;have d1:decide ((n:Int)<8)=false:=decide_eq_false zO;have d2:decide ((n:Int)≥256)=false:=decide_eq_false zO;clear hr aC;replace hS:=zH hS;rcases Nat.eq_zero_or_pos nw with h0|h0
   ·have aV:((nw:Int) == 0)=true:=by rw[beq_iff_eq];omega
    have aW:decide (nw=0)=true:=decide_eq_true h0;rw[if_pos h0] at hq;replace hq:=zH hq;replace h0:=zH h0;go_wp2_with fail;go_ret;exact⟨by rw[hq.out];rfl,x2⟩
   ·have aV:((nw:Int) == 0)=false:=by rw[beq_eq_false_iff_ne];omega
    have aW:decide (nw=0)=false:=decide_eq_false zO;rw[if_neg zO] at hq;replace hq:=zH hq;replace h0:=zH h0;go_wp2_with fail;go_ret;exact⟨by rw[hq.out];rfl,x2⟩
  ·have hq:=zH (qfu hS hr);replace hS:=zH hS;by_cases h8:a<8
   ·have d1:decide (a<8)=true:=decide_eq_true h8;replace hr:=zH hr;go_wp2_with fail;go_ret;exact⟨by rw[hq.out];rfl,x2⟩
   ·have d1:decide (a<8)=false:=decide_eq_false h8;have d2:decide (a≥256)=true:=decide_eq_true zO;replace hr:=zH hr;go_wp2_with fail;go_ret;exact⟨by rw[hq.out];rfl,x2⟩
def qN (t:List UInt8) (a:Nat):Nat:=(t[a]?.getD 0).toNat
def YM (t:List UInt8) (a:Int) (end_:Nat):Int:=if Qt t=true then (if 8<=a/\a<256 then (if qN t a.toNat=end_ then 70 else 0) else 2) else 8
def ZY (t:List UInt8) (a by_:Nat):List UInt8:=t.set a (UInt8.ofNat (qN t a+by_))
theorem qiO (t:List UInt8) (a by_:Nat):(ZY t a by_).length=t.length:=by unfold ZY;simp
theorem qeX (n:Nat):IntKind.u8.wrap (n:Int)=(((UInt8.ofNat n).toNat:Nat):Int):=by simp[IntKind.wrap,IntKind.bits,IntKind.signed]
def qfl (t:List UInt8) (a:Int) (by_ end_ lo:Nat) (u:Value) (W:World):Prop:=
 (YM t a end_≠0/\u=.tuple #[.slice none 0 0,.int .i64 (YM t a end_)]) \/
  (YM t a end_=0/\∃ A c,u=.tuple #[.slice A 256 c,.int .i64 0]/\W.ownsRow lo 5 1 (.slice A 256 c) 256 ((ZY t a.toNat by_).map bv))
theorem qle {t:List UInt8} (h:Qt t=false) (a:Int) (e:Nat):YM t a e=8:=by unfold YM;rw[h];simp
theorem qlf {t:List UInt8} (h:Qt t=true) {a:Int} (ha:¬(8<=a/\a<256)) (e:Nat):YM t a e=2:=by unfold YM;rw[if_pos h,if_neg ha]
theorem qhe {t:List UInt8} (h:Qt t=true) {a:Nat} (ha:8<=a) (ak:a<256) (e:Nat):YM t (a:Int) e=if qN t a=e then 70 else 0:=by unfold YM;rw[if_pos h,if_pos zO,Int.toNat_natCast]
theorem XA {R:Ending->World->Prop} {a:Act} {W:World} {u v:Value} (h8:a.tmps[8]?.getD undef=u) (h9:a.tmps[9]?.getD undef=v) (hd:a.defers=[]) (hR:R (.returned (.tuple #[u,v])) W):bodyPost prog Tryz.f191 R .ret a W:=by refine bodyPost_ret (v:=.tuple #[u,v]) ?_ hd hR;simp[results,results191,go_sem,h8,h9]
set_option maxRecDepth 100000 in
theorem turn_any (A n c) (t:List UInt8) (a:Int) (by_ end_:Nat) (w:World) (h:Bys w w.heap.size (.slice A n c) t):Calls prog 191 #[.slice A n c,.int .i64 a,.int .u8 (by_:Int),.int .u8 (end_:Int)] w (Zg (qfl t a by_ end_ w.heap.size) w):=by
 have HC:=zH (TH (.slice A n c) t w h);have aS:=zH h;go_enter func191,ntmps191;go_wp2_with fail;refine HC.out.mono ?_;clear HC;rintro e w2 ⟨rfl,hB⟩;have x2:Ext w w2:=hB;clear hB h;rcases hS:Qt t with _|_
 ·have hq:=zH (qle hS a end_);replace hS:=zH hS;rw[JE rfl];go_wp2_with fail;exact XA rfl rfl rfl ⟨_,rfl,.inl ⟨by rw[hq.out];decide,by rw[hq.out];rfl⟩,x2⟩
 ·rw[vj rfl];by_cases hr:8<=a/\a<256
  ·obtain⟨m,hma⟩:=Int.eq_ofNat_of_zero_le (show 0<=a by omega);subst hma;have uC:8<=m:=zO;have dn:m<256:=zO;have hq:=qhe hS uC dn end_;have hl:t.length=256:=by unfold Qt at hS;simp at hS;exact hS.1
   obtain⟨A',c',e,hc,hmx,pM⟩:=aS.out;obtain⟨b,o,rfl,hb,aC⟩:=pM.2 zO;simp only[Value.slice.injEq] at e;obtain⟨rfl,e2,rfl⟩:=e;obtain rfl:n=256:=zO;clear e2;have fJ:w.cell? ⟨b,o+m,none⟩=some (.int .u8 (qN t m:Int)):=aC m _ (by rw[List.getElem?_map,zL zO];unfold qN;rw[zL zO];rfl);have hcn2:=Ext.cell x2 fJ;have d1:decide ((m:Int)<8)=false:=decide_eq_false zO;have d2:decide ((m:Int)≥256)=false:=decide_eq_false zO;have HCL:=zH (TX (.slice (some ⟨b,o,none⟩) 256 c) t zO w2 ((aS.out.below x2).more x2.size));have hT:Hid (ZY t m by_=t.set m (UInt8.ofNat (qN t m+by_))):=rfl;clear hr aC pM fJ hc hmx;generalize gm:qN t m=nv at *;replace gm:=zH gm;replace hl:=zH hl;by_cases h0:nv=end_
   ·have aV:((nv:Int) == (end_:Int))=true:=by rw[beq_iff_eq];omega
    have aW:decide (nv=end_)=true:=decide_eq_true h0;rw[if_pos h0] at hq;replace hq:=zH hq;replace h0:=zH h0;replace hS:=zH hS;go_wp2_with fail;exact XA rfl rfl rfl ⟨_,rfl,.inl ⟨by rw[hq.out];decide,by rw[hq.out];rfl⟩,x2⟩
   ·have aV:((nv:Int) == (end_:Int))=false:=by rw[beq_eq_false_iff_ne];omega
    have aW:decide (nv=end_)=false:=decide_eq_false h0;rw[if_neg h0] at hq;replace hq:=zH hq;replace h0:=zH h0;replace hS:=zH hS;go_wp2_with fail;refine HCL.out.mono ?_;clear HCL;rintro e w3 ⟨u,rfl,hu,hB⟩;rw[hl.out] at hu;obtain⟨Au,cu,rfl,hcu,-⟩:=qE hu;have x3:Ext w w3:=x2.trans hB;have hAu:∃ g,Au=some ⟨g,0,none⟩:=by
     rcases hu.2 with ⟨e,h0⟩|⟨g,cap,cur,e,_⟩
     ·cases e
     ·cases e;exact⟨g,rfl⟩
    obtain⟨g,rfl⟩:=hAu;obtain⟨hk,hf,xP,hgz⟩:=ZB hu;have hkm:=hk m dn;rw[show (t[m]?.getD 0).toNat=nv from gm.out] at hkm;have hfm:=hf m;have dR:=zH (qbf hu dn (UInt8.ofNat (nv+by_)));have hwv:IntKind.u8.wrap ((nv:Int)+(by_:Int))=(((UInt8.ofNat (nv+by_)).toNat:Nat):Int):=by rw[<-qeX];rfl
    clear hk hf hu hB hcn2;go_wp2_with fail;exact XA rfl rfl rfl ⟨_,rfl,.inr ⟨hq.out,_,_,rfl,QJ (by rw[Int.toNat_natCast,hT.out];exact dR.out) x2.size⟩,Below.setCell x3 (p:=⟨g,m,none⟩) (by have:=x2.size;simp;omega) _⟩
  ·have hq:=zH (qlf hS hr end_);replace hS:=zH hS;by_cases h8:a<8
   ·have d1:decide (a<8)=true:=decide_eq_true h8;replace hr:=zH hr;go_wp2_with fail;exact XA rfl rfl rfl ⟨_,rfl,.inl ⟨by rw[hq.out];decide,by rw[hq.out];rfl⟩,x2⟩
   ·have d1:decide (a<8)=false:=decide_eq_false h8;have d2:decide (a≥256)=true:=decide_eq_true zO;replace hr:=zH hr;go_wp2_with fail;exact XA rfl rfl rfl ⟨_,rfl,.inl ⟨by rw[hq.out];decide,by rw[hq.out];rfl⟩,x2⟩
theorem qcG {bs:List (List UInt8)} {ws:List (Int×List UInt8)} (h:jO bs ws=true):bs.length<1000000/\ws.length<1000000/\(∀ l∈bs,l.length<1000000)/\∀ p∈ws,p.2.length<1000000:=by
 unfold jO headD at h;simp only[Bool.and_eq_true,decide_eq_true_eq,List.all_eq_true] at h;obtain⟨⟨h1,h2⟩,h3,h4⟩:=h;refine⟨zO,zO,fun l hl=>?_,fun p hp=>?_⟩
 ·have:=h3 l hl;unfold qab at this;have:=of_decide_eq_true this;omega
 ·have:=h4 p hp;unfold wrOk at this;have:=of_decide_eq_true this;omega
end Go.Proofs.YtmeadnlmepcmbaaGreat
