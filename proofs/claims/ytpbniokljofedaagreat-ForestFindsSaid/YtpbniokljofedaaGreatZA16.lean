/- Texts TakeW, NewP, NewF, joined. -/
import Derived.Test.YtpbniokljofedaaGreatZA05
import Derived.Test.YtpbniokljofedaaGreatZA06
import Derived.Test.YtpbniokljofedaaGreatZA10
import Derived.Test.YtpbniokljofedaaGreatZA15
set_option linter.unusedSimpArgs false
set_option linter.unusedVariables false
namespace Go.Proofs.YtpbniokljofedaaGreat
open Go.RowKit
theorem qaP (p:CP) (w1:World) (f:Int→Option Value) (refs nodes:Nat→Nat) (s1 s2 s3 s4:Value) (gen root next:Int) (dead:Value) (hC:Cen p w1 f):∀ h:Nat,VolsC p w1 f refs nodes s1 s2 s3 s4 gen root next dead h
 |0=>qaS p w1 f refs nodes s1 s2 s3 s4 gen root next dead hC 0 fun _ e=>by omega
 |h+1=>qaS p w1 f refs nodes s1 s2 s3 s4 gen root next dead hC (h+1) fun h' e=>by
  obtain rfl:h=h':=by omega
  exact qaP p w1 f refs nodes s1 s2 s3 s4 gen root next dead hC h
theorem ca0_ar (s1 s2 s3 s4:Value) (bb mb:Nat):Ar (ca0 s1 s2 s3 s4 bb mb) (fun _=>0) (fun _=>0) (.slice none 0 0):=by
 unfold ca0
 refine⟨by simp,fun a ha=>?_,fun a ha=>?_,?_⟩
 ·rw[Array.getElem?_append_left (by simp;omega),Array.getElem?_append_right (by simp)]
  simp[Array.getElem?_replicate]
  omega
 ·rw[Array.getElem?_append_left (by simp;omega),Array.getElem?_append_right (by simp;omega)]
  simp[Array.getElem?_replicate]
  omega
 ·rw[Array.getElem?_append_right (by simp)]
  simp
theorem ca0_low (s1 s2 s3 s4:Value) (bb mb:Nat) {i:Nat} (hi:i<6):(ca0 s1 s2 s3 s4 bb mb)[i]?=(#[s1,s2,s3,s4,.pointer (some ⟨bb,0,none⟩),.map (some mb)]:Array Value)[i]?:=by
 unfold ca0
 rw[Array.getElem?_append_left (by simp;omega),Array.getElem?_append_left (by simp;omega)]
theorem QS.empty (w:World):QS (w.alloc (.map #[] 0)) w.heap.size fun _=>none:=⟨#[],0,World.alloc_heap_at _ _ _ rfl,fun _ h=>absurd h (List.not_mem_nil),fun _=>rfl⟩
def JL (S:Sto) (root next:Int):Option (List Vol):=match qu S root.toNat with
 |none=>none
 |some (lvl,xs)=>zl next [] (qZ S lvl.toNat xs)
def zY (root:Int) (dead:List Int) (vs:List Vol):List Int:=(root :: dead)++vs.map (·.root)
structure QT (S:Sto) (root next:Int) (dead:List Int) (vs:List Vol):Prop where
 may:qo S=true
 few:dead.length≤40
 top:okL S (-1) root=true
 vols:JL S root next=some vs
 ok:∀ r∈zY root dead vs,okL S (-1) r=true
def zQ (S:Sto) (refs:Nat→Nat):Prop:=∀ a,a<256→refs a≤(S.now[a]?.getD 0).toNat
def Zu (w:World) (B:Nat) (v:Value) (l:List Int):Prop:=∃ A c,v=.slice A l.length c∧l.length≤c∧c≤maxLen∧Rd w B 1 A l.length (l.map fun (a:Int)=>Value.int .i64 a)
def QI (root:Int) (dead:List Int) (vs:List Vol):List Nat:=(zY root dead vs).map Int.toNat
structure Taken (S:Sto) (root next:Int) (dead:List Int) (vs:List Vol) (refs nodes:Nat→Nat) (lo cb:Nat) (ca:Array Value) (vv:Value) (w:World):Prop where
 pool:QT S root next dead vs
 cnt:qU S (QI root dead vs) refs nodes
 enough:zQ S refs
 low:lo≤cb
 row:w.heap[cb]?=some (.cells ca 84 (0,0))
 ar:Ar ca refs nodes vv
 own:w.ownsRow lo 40 4 vv vs.length (Zd vs)
def Ko (S:Sto) (root next:Int) (dead:List Int) (w:World) (e:Ending) (w':World):Prop:=Below w.heap.size w w' ∧
 ((e=.returned (.tuple #[.pointer none,.int .i64 8])∧∀ vs,QT S root next dead vs→∃ refs nodes,qU S (QI root dead vs) refs nodes∧¬zQ S refs) ∨
  ∃ vs refs nodes cb ca vv,e=.returned (.tuple #[.pointer (some ⟨cb,0,none⟩),.int .i64 0])∧Taken S root next dead vs refs nodes w.heap.size cb ca vv w')
theorem Ko.bad {S:Sto} {root next:Int} {dead:List Int} {w w':World} (hB:Below w.heap.size w w') (h:∀ vs,¬QT S root next dead vs):Ko S root next dead w (.returned (.tuple #[.pointer none,.int .i64 8])) w':=
 ⟨hB,.inl ⟨rfl,fun vs hp=>absurd hp (h vs)⟩⟩
def YN (l:List Int):List Value:=l.map fun (a:Int)=>Value.int .i64 a
theorem qed (l:List Int) (a:Int):YN (l++[a])=YN l++[Value.int .i64 a]:=by simp[YN]
theorem rowI_get (l:List Int) (k:Nat) (h:k<l.length):(YN l)[k]?=some (.int .i64 l[k]):=by unfold YN;rw[List.getElem?_map,List.getElem?_eq_getElem h];rfl
def jQ (root:Int) (dead:List Int) (vs:List Vol) (k:Nat):List Int:=(root :: dead)++(vs.take k).map (·.root)
theorem qaY (root:Int) (dead:List Int) (vs:List Vol) {k:Nat} (h:k≤vs.length):(jQ root dead vs k).length=1+dead.length+k:=by unfold jQ;simp;omega
theorem GN (root:Int) (dead:List Int) (vs:List Vol) {k:Nat} (h:k<vs.length):jQ root dead vs (k+1)=jQ root dead vs k++[vs[k].root]:=by
 unfold jQ
 rw[List.take_succ_eq_append_getElem h,List.map_append,←List.append_assoc]
 rfl
theorem XC (root:Int) (dead:List Int) (vs:List Vol):jQ root dead vs vs.length=zY root dead vs:=by unfold jQ zY;rw[List.take_length]
theorem kY (vs:List Vol):∀ k (h:k<vs.length),(Zd vs)[k*4]?=some (.int .u32 vs[k].id)∧(Zd vs)[k*4+1]?=some (.int .i64 vs[k].root)∧(Zd vs)[k*4+2]?=some (.bool vs[k].fz)∧(Zd vs)[k*4+3]?=some (.int .u32 vs[k].frm):=by
 induction vs with
 |nil=>intro k h;exact absurd h (Nat.not_lt_zero _)
 |cons v r ih =>
  intro k h
  cases k with
  |zero=>exact⟨rfl,rfl,rfl,rfl⟩
  |succ k =>
   have:=ih k (by simpa using h)
   have e:Zd (v :: r)=[.int .u32 v.id,.int .i64 v.root,.bool v.fz,.int .u32 v.frm]++Zd r:=rfl
   rw[e]
   have hg:∀ j,([.int .u32 v.id,.int .i64 v.root,.bool v.fz,.int .u32 v.frm]++Zd r:List Value)[(k+1)*4+j]?=(Zd r)[k*4+j]?:=fun j=>by
    rw[List.getElem?_append_right (by simp only[List.length_cons,List.length_nil];omega)]
    congr 1
    simp only[List.length_cons,List.length_nil]
    omega
   exact⟨(hg 0).trans this.1,(hg 1).trans this.2.1,(hg 2).trans this.2.2.1,(hg 3).trans this.2.2.2⟩
theorem qU.zero (S:Sto):qU S [] (fun _=>0) (fun _=>0):=
 ⟨Ze.walk.2 (jC.nil (fun _=>rfl) fun _=>rfl),fun a=>by have:=TX (Jv fun _=>0) 256;simp only[List.length_nil];omega⟩
structure XJ (cb mb:Nat) (w w':World):Prop where
 os:w'.os=w.os
 tape:w'.tape=w.tape
 output:w'.output=w.output
 size:w.heap.size≤w'.heap.size
 block:∀ k,k<w.heap.size→k≠cb→k≠mb→w'.heap[k]?=w.heap[k]?
theorem XJ.refl (cb mb:Nat) (w:World):XJ cb mb w w:=⟨rfl,rfl,rfl,Nat.le_refl _,fun _ _ _ _=>rfl⟩
theorem XJ.trans {cb mb:Nat} {w w' w'':World} (h:XJ cb mb w w') (h':XJ cb mb w' w''):XJ cb mb w w'':=
 ⟨h'.os.trans h.os,h'.tape.trans h.tape,h'.output.trans h.output,Nat.le_trans h.size h'.size,fun k h1 h2 h3=>(h'.block k (Nat.lt_of_lt_of_le h1 h.size) h2 h3).trans (h.block k h1 h2 h3)⟩
theorem XJ.below {cb mb B:Nat} {w0 w w':World} (h:XJ cb mb w w') (hb:Below B w0 w) (hB:B≤w.heap.size) (h1:B≤cb) (h2:B≤mb):Below B w0 w':=
 ⟨h.os.trans hb.os,h.tape.trans hb.tape,h.output.trans hb.output,Nat.le_trans hb.size h.size,fun k hk=>(h.block k (by omega) (by omega) (by omega)).trans (hb.block k hk)⟩
structure R2 (p:CP) (w8:World) (vv:Value) (roots:List Int) (i:Value) (wr:World):Prop where
 ex:∃ (k:Nat) (g:Int→Option Value) (ca:Array Value) (refs nodes:Nat→Nat),k≤roots.length∧i=.int .i64 (k:Int)∧Cen (p.put ca) wr g∧Ar ca refs nodes vv∧qU p.S ((roots.take k).map Int.toNat) refs nodes∧YP p.S g ((roots.take k).map Int.toNat) ∧
  (∀ r∈roots.take k,okL p.S (-1) r=true)∧XJ p.cb p.mb w8 wr
section
variable {P:Program} {ops:Array Oper} {rest:List Oper} {o:Oper} {a:Act} {w:World} {Q:Exit→Act→World→Prop}
theorem Ul (g off:Nat) (ty:TypeId) (cs:List Value) (d:TypeDesc) (hc:∀ j v,cs[j]?=some v→w.cell? ⟨g,off+j,none⟩=some v)
  (hu:P.underlying ty=some d) (hd:(match d with | .struct _ | .array _ _=>true|_=>false)=true) (hi:(P.info? ty).map (·.size)=some cs.length) :
  (loadVar ty ⟨g,off,none⟩).run P w=.ok (.agg cs.toArray) w:=by
 have hl:(loadCells ⟨g,off,none⟩ cs.length).run P w=.ok cs.toArray w:=
  run_loadCells_list (P:=P) w ⟨g,off,none⟩ cs (fun j v hv=>by
   have hadd:(⟨g,off,none⟩:Addr).add j=⟨g,off+j,none⟩:=by unfold Addr.add;split <;> simp_all
   rw[hadd]
   exact hc j v hv)
 cases hq:P.info? ty with
 |none=>simp[hq] at hi
 |some i =>
  have hs:i.size=cs.length:=by simpa [hq] using hi
  have hagg:(isAgg ty).run P w=.ok true w:=by
   unfold isAgg
   rw[Sem.run_bind,run_underlying hu w]
   cases d <;> simp_all
  simp[loadVar,Sem.run_bind,hagg,sizeOf,typeInfo,hq,hs,hl]
theorem Va (hgd:o.guard=none) (ty:TypeId) (x:Operand) (ho:o.op=.load ty x) (g off:Nat) (hx:a.eval x=.pointer (some ⟨g,off,none⟩)) (cs:List Value) (d:TypeDesc) (hc:∀ j v,cs[j]?=some v→w.cell? ⟨g,off+j,none⟩=some v)
  (hu:P.underlying ty=some d) (hd:(match d with | .struct _ | .array _ _=>true|_=>false)=true) (hi:(P.info? ty).map (·.size)=some cs.length)
  (h:wpList P ops Q rest (a.put o.dst (.agg cs.toArray)) w):wpList P ops Q (o :: rest) a w:=by
 refine wpList_plain hgd fun K hK=>?_
 unfold Oper.wp execOp
 simp only[ho,hx,Instr.loadAt,Instr.sureAddr,Sem.run_bind,Sem.run_pure,Result.andThen_ok,Ul g off ty cs d hc hu hd hi]
 exact hK _ _ h
end
def VY (f:Nat→Nat):List Value:=(List.range 256).map fun a=>Value.int .i64 ((f a:Nat):Int)
theorem TP (f:Nat→Nat) {k:Nat} (h:k<256):(VY f)[k]?=some (.int .i64 ((f k:Nat):Int)):=by
 unfold VY
 rw[List.getElem?_map,List.getElem?_range h]
 rfl
theorem qdm {f:Nat→Nat} {j:Nat} {v:Value} (h:(VY f)[j]?=some v):j<256∧v=.int .i64 ((f j:Nat):Int):=by
 have hj:j<256:=by
  have:=(List.getElem?_eq_some_iff.1 h).1
  simpa [VY] using this
 rw[TP f hj] at h
 cases h
 exact⟨hj,rfl⟩
structure R3 (S:Sto) (refs:Nat→Nat) (w9:World) (i:Value) (wr:World):Prop where
 ex:∃ k:Nat,k≤256∧i=.int .i64 (k:Int)∧(∀ a,a<k→refs a≤(S.now[a]?.getD 0).toNat)∧wr=w9
theorem own_kept {cb mb:Nat} {w w':World} {base n size:Nat} {e:TypeId} {v:Value} {xs:List Value} (h:w.ownsRow base e size v n xs) (hk:XJ cb mb w w') (h1:cb<base) (h2:mb<base):w'.ownsRow base e size v n xs:=by
 refine⟨h.1,?_⟩
 rcases h.2 with h0|⟨g,cap,cur,hv,hb,hg,hr⟩
 ·exact .inl h0
 ·exact .inr ⟨g,cap,cur,hv,hb,(hk.block g (zG.1 hg).1 (by omega) (by omega)).trans hg,hr⟩
structure R1 (w6:World) (root:Int) (dead:List Int) (vs:List Vol) (v i:Value) (wr:World):Prop where
 ex:∃ k:Nat,k≤vs.length∧i=.int .i64 (k:Int)∧wr.ownsRow w6.heap.size 3 1 v (1+dead.length+k) (YN (jQ root dead vs k))∧Ext w6 wr
def newS:Sto:=⟨jt,[],Zf 256,Zf 256⟩
def qD:Sto:=⟨jt,[(8,ZF (zo 0 []))],(Zf 256).set 8 1,Zf 256⟩
theorem newS_may:qo newS=true:=by decide +kernel
theorem Wrs.nil (w:World) (B:Nat):Wrs w B (.slice none 0 0) []:=⟨[],rfl,⟨none,0,rfl,Nat.le_refl _,by simp[maxLen],Rd.none_⟩,fun p h=>by cases h⟩
set_option maxRecDepth 100000 in
theorem jl:Xz qD:=by
 have h1:jt.length=256:=by unfold jt;rw[List.length_replicate]
 have h2:∀ l∈jt,l.length<1000000:=fun l hl=>by
  unfold jt at hl
  rw[List.mem_replicate] at hl
  rw[hl.2,zf]
  omega
 have h3:(ZF (zo 0 [])).length=128:=JA (by decide)
 refine⟨by show jt.length<_;omega,by show 1<1000000;omega,h2,fun p hp=>?_,by show ((Zf 256).set 8 1).length<_;rw[List.length_set,zf];omega,by show (Zf 256).length<_;rw[zf];omega⟩
 have:p=(8,ZF (zo 0 [])):=by simpa [qD] using hp
 rw[this]
 show (ZF (zo 0 [])).length<_
 omega
set_option maxHeartbeats 1000000 in
set_option maxRecDepth 100000 in
theorem rnew_any (w:World):Calls Tryz.prog 52 #[] w (zD (fun u W=>∃ B n1 n2,u=Qd (some ⟨B,0,none⟩) 256 256 none 0 0 (some ⟨n1,0,none⟩) 256 256 (some ⟨n2,0,none⟩) 256 256∧Qc W W.heap.size (.slice (some ⟨B,0,none⟩) 256 256) (.slice none 0 0) (.slice (some ⟨n1,0,none⟩) 256 256) (.slice (some ⟨n2,0,none⟩) 256 256) newS) w):=by
 go_enter Tryz.func52,Tryz.ntmps52
 go_wp2_with fail
 generalize hw1:World.alloc _ _=w1
 have x1:Ext w w1:=by rw[←hw1];exact Ext.alloc _ _
 have q1:w1.heap[w.heap.size]?=some (.cells #[.slice none 0 0,.slice none 0 0,.slice none 0 0,.slice none 0 0] 28 (0,0)):=by rw[←hw1];exact World.alloc_heap_at _ _ _ (by simp)
 have z0:w1.heap.size=w.heap.size+1:=by rw[←hw1];simp
 clear hw1
 refine(dnew_any w1).mono ?_
 rintro e w2 ⟨u,rfl,⟨B,rfl,hbs⟩,hB⟩
 have hB:Ext w1 w2:=hB
 have x2:=x1.trans hB
 have q2:=qc q1 hB
 have hx12:=hB
 clear q1 hB x1
 go_wp2_with fail
 refine(qbD w2).mono ?_
 rintro e w3 ⟨u,rfl,⟨rfl,hn1⟩,hB⟩
 have hB3:Ext w2 w3:=hB
 have x3:=x2.trans hB3
 have q3:=qc q2 hB3
 clear q2 hB
 go_wp2_with fail
 refine(qbD w3).mono ?_
 rintro e w4 ⟨u,rfl,⟨rfl,hn2⟩,hB⟩
 have hB4:Ext w3 w4:=hB
 have x4:=x3.trans hB4
 have q4:=qc q3 hB4
 have hn14:=qc hn1 hB4
 have kq:=qa q4
 have fq:=qg q4
 have zq:=(zG.1 q4).1
 have z2:=x2.size
 have z3:=x3.size
 have z1:w1.heap.size=w.heap.size+1:=z0
 have z23:=hB3.size
 have z34:=hB4.size
 have z2':=hx12.size
 have P5:∀ wx:World,wx=JJ w4 w.heap.size 0 [.slice (some ⟨B,0,none⟩) 256 256,.slice none 0 0,.slice (some ⟨w2.heap.size,0,none⟩) 256 256,.slice (some ⟨w3.heap.size,0,none⟩) 256 256] →
   wx.heap[w.heap.size]?=some (.cells #[.slice (some ⟨B,0,none⟩) 256 256,.slice none 0 0,.slice (some ⟨w2.heap.size,0,none⟩) 256 256,.slice (some ⟨w3.heap.size,0,none⟩) 256 256] 28 (0,0))∧Below w.heap.size w wx ∧
    Qc wx wx.heap.size (.slice (some ⟨B,0,none⟩) 256 256) (.slice none 0 0) (.slice (some ⟨w2.heap.size,0,none⟩) 256 256) (.slice (some ⟨w3.heap.size,0,none⟩) 256 256) newS:=fun wx e=>by
  have hk:∀ b,b≠w.heap.size→wx.heap[b]?=w4.heap[b]?:=fun b h1=>by rw[e];exact Zm h1 _ _ _
  have hs:wx.heap.size=w4.heap.size:=by rw[e,ZI]
  have h1:=Bys.lit ((hk _ (by omega)).trans hn14) (by rw[zf];unfold maxLen;omega)
  have h2:=Bys.lit ((hk _ (by omega)).trans hn2) (by rw[zf];unfold maxLen;omega)
  rw[zf] at h1 h2
  refine⟨by rw[e];refine(jc _ _ _ _ q4).trans ?_;simp[kF],by rw[e];exact Zk (Nat.le_refl _) _ _ _ x4,?_,Wrs.nil _ _,h1,h2⟩
  refine(hbs wx fun q h1 h2=>?_).more (by omega)
  refine(World.cell?_of_block (hk q.block (by omega))).trans ((World.cell?_of_block (hB4.block q.block (by omega))).trans (World.cell?_of_block (hB3.block q.block h2)))
 replace P5:=zH P5
 clear hbs hn1 hn2 hn14 q4 q3
 go_wp2_with fail
 have P5:=P5.out
 generalize hw5:World.setCell (World.setCell (World.setCell (World.setCell w4 _ _) _ _) _ _) _ _=w5
 obtain⟨r5,x5,h5⟩:=P5 w5 hw5.symm
 clear P5 hw5
 have k5:=qa r5
 exact bodyPost_ret (v:=Qd (some ⟨B,0,none⟩) 256 256 none 0 0 (some ⟨w2.heap.size,0,none⟩) 256 256 (some ⟨w3.heap.size,0,none⟩) 256 256) (by simp[results,Tryz.results52,go_sem,k5]) rfl ⟨_,rfl,⟨B,_,_,rfl,h5⟩,x5⟩
set_option maxHeartbeats 2000000 in
set_option maxRecDepth 100000 in
theorem qcw (A1:Option Addr) (c1:Nat) (A3:Option Addr) (c3:Nat) (A4:Option Addr) (c4:Nat) (w:World) (h:Qc w w.heap.size (.slice A1 256 c1) (.slice none 0 0) (.slice A3 256 c3) (.slice A4 256 c4) newS) :
  Calls Tryz.prog 92 #[Qd A1 256 c1 none 0 0 A3 256 c3 A4 256 c4,ZA 0 none 0 0] w (zD (fun u W=>∃ v,u=.tuple #[v,.int .i64 8,.int .i64 0]∧QH w.heap.size qD v W) w):=by
 have HC:=zH (fun W (hW:Ext w W)=>vc A1 256 c1 none 0 0 A3 256 c3 A4 256 c4 newS W (h.ext hW))
 rw[newS_may,show jy true=0 from rfl] at HC
 have HN:=zH (fun W=>JW 0 none 0 0 [] W (Its.nil W W.heap.size))
 rw[show qX 0 []=true from rfl,show jy true=0 from rfl] at HN
 have HO:=zH (fun W (hW:Ext w W)=>qcg A1 256 c1 none 0 0 A3 256 c3 A4 256 c4 newS (by show (Zf 256).length<_;rw[zf];omega) W (h.ext hW))
 replace h:=zH h
 go_enter Tryz.func92,Tryz.ntmps92
 go_wp2_with fail
 generalize hw1:World.alloc (World.alloc (World.alloc _ _) _) _=w1
 have x1:Ext w w1:=by rw[←hw1];exact((Ext.alloc _ _).trans (Ext.alloc _ _)).trans (Ext.alloc _ _)
 have r1:w1.heap[w.heap.size]?=some (.cells #[.slice A1 256 c1,.slice none 0 0,.slice A3 256 c3,.slice A4 256 c4] 28 (0,0)):=by rw[←hw1];exact(Below.heap_alloc _ _ _ (by simp;omega)).trans ((Below.heap_alloc _ _ _ (by simp)).trans (World.alloc_heap_at _ _ _ rfl))
 have p1:w1.heap[w.heap.size+1]?=some (.cells #[.int .i64 0,.slice none 0 0] 49 (0,0)):=by rw[←hw1];exact(Below.heap_alloc _ _ _ (by simp)).trans (World.alloc_heap_at _ _ _ (by simp))
 have q1:w1.heap[w.heap.size+1+1]?=some (.cells #[.slice none 0 0,.slice none 0 0,.slice none 0 0,.slice none 0 0] 28 (0,0)):=by rw[←hw1];exact World.alloc_heap_at _ _ _ (by simp)
 clear hw1
 refine(HC.out w1 x1).mono ?_
 rintro e w2 ⟨rfl,hB⟩
 have x2:Ext w w2:=x1.trans hB
 have r2:=qc r1 hB
 have p2:=qc p1 hB
 have q2:=qc q1 hB
 have kp:=qa p2
 clear r1 p1 q1 x1 hB HC
 go_wp2_with fail
 refine(HN.out w2).mono ?_
 rintro e w3 ⟨rfl,hB⟩
 have x3:Ext w w3:=x2.trans hB
 have r3:=qc r2 hB
 have p3:=qc p2 hB
 have q3:=qc q2 hB
 have kr:=qa r3
 clear r2 p2 q2 x2 hB HN kp
 go_wp2_with fail
 refine(HO.out w3 x3).mono ?_
 rintro e w4 ⟨u,rfl,⟨b,B3,d3,rfl,hlo,hrow,hown⟩,hB⟩
 have hB4:Ext w3 w4:=hB
 have x4:Ext w w4:=x3.trans hB4
 have p4:=qc p3 hB4
 have q4:=qc q3 hB4
 have kp:=qa p4
 have z3:=x3.size
 obtain⟨g,rfl⟩:∃ g,B3=some ⟨g,0,none⟩:=by
  obtain⟨h1,h2⟩:=hown
  rcases h2 with ⟨_,h0⟩|⟨g,_,_,e,_⟩
  ·cases h0
  ·cases e;exact⟨g,rfl⟩
 have hb4:Bls w4 w3.heap.size (.slice A1 256 c1) jt:=(h.out.bs.below x4).more z3
 have q3z:=q3
 have ha4:Bys w4 w3.heap.size (.slice A4 256 c4) (Zf 256):=(h.out.last.below x4).more z3
 have HM:=qcc b w3.heap.size A1 256 c1 g d3 A4 c4 jt (Zf 256) (Zf 256) (zf _) (zf _) (by decide) (by decide) w4 hlo hrow hown hb4 ha4
 replace HM:=zH HM
 clear r3 p3 q3 hB kr hb4 ha4 hown hrow HO
 go_wp2_with fail
 refine HM.out.mono ?_
 rintro e w5 ⟨rfl,hB5,A2,c2,hrow5,hS5⟩
 have x5:Below w.heap.size w w5:=Below.trans x4 (Below.mono hB5 z3)
 have z34:=hB4.size
 have zq:=(zG.1 q3z).1
 have q5:=(hB5.block (w.heap.size+1+1) zq).trans q4
 have HT:=zH (KU b A1 256 c1 A2 1 c2 (some ⟨g,0,none⟩) 256 d3 A4 256 c4 qD jl w5 hrow5 hS5)
 clear HM hrow5 hS5 kp p4 q4
 go_wp2_with fail
 refine HT.out.mono ?_
 rintro e w6 ⟨u,rfl,hT,hB⟩
 have hB6:Ext w5 w6:=hB
 have x6:Below w.heap.size w w6:=Below.trans x5 (Below.mono hB6 x5.size)
 have q6:=qc q5 hB6
 have kq:=qa q6
 have fq:=qg q6
 have z56:=hB6.size
 have z45:=hB5.size
 obtain⟨BB,WW,gg,B3,e3,B4,e4,rfl,hD,hN,hL⟩:=hT
 have P5:∀ wx:World,wx=JJ w6 (w.heap.size+1+1) 0 [.slice (some ⟨BB,0,none⟩) qD.bs.length qD.bs.length,.slice (some ⟨WW,0,none⟩) qD.ws.length (qD.ws.length+1),.slice B3 qD.now.length e3,.slice B4 qD.last.length e4] →
   wx.heap[w.heap.size+1+1]?=some (.cells #[.slice (some ⟨BB,0,none⟩) qD.bs.length qD.bs.length,.slice (some ⟨WW,0,none⟩) qD.ws.length (qD.ws.length+1),.slice B3 qD.now.length e3,.slice B4 qD.last.length e4] 28 (0,0))∧Below w.heap.size w wx ∧
    QH w.heap.size qD (Qd (some ⟨BB,0,none⟩) qD.bs.length qD.bs.length (some ⟨WW,0,none⟩) qD.ws.length (qD.ws.length+1) B3 qD.now.length e3 B4 qD.last.length e4) wx:=fun wx e=>by
  have hk:∀ b,w5.heap.size≤b→b<w6.heap.size→wx.heap[b]?=w6.heap[b]?:=fun b h1 _=>by rw[e];exact Zm (by omega) _ _ _
  have hs:w6.heap.size≤wx.heap.size:=by rw[e,ZI];exact Nat.le_refl _
  refine⟨by rw[e];refine(jc _ _ _ _ q6).trans ?_;simp[kF],by rw[e];exact Zk (by omega) _ _ _ x6,BB,WW,gg,B3,e3,B4,e4,rfl,hD.keep x5.size hs hk,Qu (zp hN hk) x5.size,Qu (zp hL hk) x5.size⟩
 replace P5:=zH P5
 clear hD hN hL q6 hB q5
 go_wp2_with fail
 have P5:=P5.out
 generalize hw5:World.setCell (World.setCell (World.setCell (World.setCell w6 _ _) _ _) _ _) _ _=w7
 obtain⟨r5,x7,h5⟩:=P5 w7 hw5.symm
 clear P5 hw5
 have k5:=qa r5
 exact bodyPost_ret (v:=.tuple #[Qd (some ⟨BB,0,none⟩) qD.bs.length qD.bs.length (some ⟨WW,0,none⟩) qD.ws.length (qD.ws.length+1) B3 qD.now.length e3 B4 qD.last.length e4,.int .i64 8,.int .i64 0]) (by simp[results,Tryz.results92,go_sem,k5]) rfl ⟨_,rfl,⟨_,rfl,h5⟩,x7⟩
def XR (lo:Nat) (u:Value) (W:World):Prop:=∃ BB WW g A3 c3 A4 c4,u=.agg (Qo (.slice (some ⟨BB,0,none⟩) 256 256) (.slice (some ⟨WW,0,none⟩) 1 2) (.slice A3 256 c3) (.slice A4 256 c4) 0 8 1 (.slice none 0 0))∧ZB lo qD.bs qD.ws BB WW g W ∧
 W.ownsRow lo 5 1 (.slice A3 256 c3) 256 (qD.now.map bv)∧W.ownsRow lo 5 1 (.slice A4 256 c4) 256 (qD.last.map bv)
theorem VP:qD.bs.length=256∧qD.ws.length=1∧qD.now.length=256∧qD.last.length=256:=by
 refine⟨?_,rfl,?_,zf _⟩
 ·show jt.length=256
  unfold jt
  rw[List.length_replicate]
 ·show ((Zf 256).set 8 1).length=256
  rw[List.length_set,zf]
theorem XR.sto {lo:Nat} {u:Value} {W:World} (h:XR lo u W):∃ A1 c1 A2 c2 A3 c3 A4 c4,u=.agg (Qo (.slice A1 256 c1) (.slice A2 1 c2) (.slice A3 256 c3) (.slice A4 256 c4) 0 8 1 (.slice none 0 0))∧Qc W W.heap.size (.slice A1 256 c1) (.slice A2 1 c2) (.slice A3 256 c3) (.slice A4 256 c4) qD:=by
 obtain⟨BB,WW,g,A3,c3,A4,c4,e,hD,hN,hL⟩:=h
 obtain⟨l1,l2,l3,l4⟩:=VP
 obtain⟨k1,k2⟩:=hD.reads jl.bs jl.ws jl.be jl.we W (fun _ _ _=>rfl)
 rw[l1] at k1
 rw[l2] at k2
 exact⟨_,_,_,_,A3,c3,A4,c4,e,k1,k2,Bys.of_own hN,Bys.of_own hL⟩
set_option maxHeartbeats 1000000 in
set_option maxRecDepth 100000 in
theorem qef (A1:Option Addr) (c1:Nat) (A3:Option Addr) (c3:Nat) (A4:Option Addr) (c4:Nat) (w:World) (h:Qc w w.heap.size (.slice A1 256 c1) (.slice none 0 0) (.slice A3 256 c3) (.slice A4 256 c4) newS) :
  Calls Tryz.prog 51 #[Qd A1 256 c1 none 0 0 A3 256 c3 A4 256 c4] w (zD (fun u W=>∃ v,u=.tuple #[v,.int .i64 8,.int .i64 0]∧QH w.heap.size qD v W) w):=by
 have HM:=zH (fun W (hW:Ext w W)=>qcw A1 c1 A3 c3 A4 c4 W (h.ext hW))
 clear h
 go_enter Tryz.func51,Tryz.ntmps51
 go_wp2_with fail
 generalize hw1:World.alloc (World.alloc _ _) _=w1
 have x1:Ext w w1:=by rw[←hw1];exact(Ext.alloc _ _).trans (Ext.alloc _ _)
 have q1:w1.heap[w.heap.size+1]?=some (.cells #[.slice none 0 0,.slice none 0 0,.slice none 0 0,.slice none 0 0] 28 (0,0)):=by rw[←hw1];exact World.alloc_heap_at _ _ _ (by simp)
 clear hw1
 refine(HM.out w1 x1).mono ?_
 rintro e w6 ⟨u,rfl,⟨v,rfl,hT⟩,hB⟩
 have hB6:Ext w1 w6:=hB
 have x6:Below w.heap.size w w6:=x1.trans hB6
 have q6:=qc q1 hB6
 have kq:=qa q6
 have fq:=qg q6
 have z1:=(zG.1 q1).1
 have z16:=hB6.size
 obtain⟨BB,WW,gg,B3,e3,B4,e4,rfl,hD,hN,hL⟩:=hT
 have P5:∀ wx:World,wx=JJ w6 (w.heap.size+1) 0 [.slice (some ⟨BB,0,none⟩) qD.bs.length qD.bs.length,.slice (some ⟨WW,0,none⟩) qD.ws.length (qD.ws.length+1),.slice B3 qD.now.length e3,.slice B4 qD.last.length e4] →
   wx.heap[w.heap.size+1]?=some (.cells #[.slice (some ⟨BB,0,none⟩) qD.bs.length qD.bs.length,.slice (some ⟨WW,0,none⟩) qD.ws.length (qD.ws.length+1),.slice B3 qD.now.length e3,.slice B4 qD.last.length e4] 28 (0,0))∧Below w.heap.size w wx ∧
    QH w.heap.size qD (Qd (some ⟨BB,0,none⟩) qD.bs.length qD.bs.length (some ⟨WW,0,none⟩) qD.ws.length (qD.ws.length+1) B3 qD.now.length e3 B4 qD.last.length e4) wx:=fun wx e=>by
  have hk:∀ b,w1.heap.size≤b→b<w6.heap.size→wx.heap[b]?=w6.heap[b]?:=fun b h1 _=>by rw[e];exact Zm (by omega) _ _ _
  have hs:w6.heap.size≤wx.heap.size:=by rw[e,ZI];exact Nat.le_refl _
  refine⟨by rw[e];refine(jc _ _ _ _ q6).trans ?_;simp[kF],by rw[e];exact Zk (by omega) _ _ _ x6,BB,WW,gg,B3,e3,B4,e4,rfl,hD.keep x1.size hs hk,Qu (zp hN hk) x1.size,Qu (zp hL hk) x1.size⟩
 replace P5:=zH P5
 clear hD hN hL q6 hB q1
 go_wp2_with fail
 have P5:=P5.out
 generalize hw5:World.setCell (World.setCell (World.setCell (World.setCell w6 _ _) _ _) _ _) _ _=w7
 obtain⟨r5,x7,h5⟩:=P5 w7 hw5.symm
 clear P5 hw5
 have k5:=qa r5
 exact bodyPost_ret (v:=.tuple #[Qd (some ⟨BB,0,none⟩) qD.bs.length qD.bs.length (some ⟨WW,0,none⟩) qD.ws.length (qD.ws.length+1) B3 qD.now.length e3 B4 qD.last.length e4,.int .i64 8,.int .i64 0]) (by simp[results,Tryz.results51,go_sem,k5]) rfl ⟨_,rfl,⟨_,rfl,h5⟩,x7⟩
set_option maxHeartbeats 1000000 in
set_option maxRecDepth 100000 in
theorem fnew_any (w:World):Calls Tryz.prog 23 #[] w (zD (XR w.heap.size) w):=by
 obtain⟨l1,l2,l3,l4⟩:=VP
 go_enter Tryz.func23,Tryz.ntmps23
 go_wp2_with fail
 generalize hw1:World.alloc _ _=w1
 have x1:Ext w w1:=by rw[←hw1];exact Ext.alloc _ _
 have q1:w1.heap[w.heap.size]?=some (.cells (Qo (.slice none 0 0) (.slice none 0 0) (.slice none 0 0) (.slice none 0 0) 0 0 0 (.slice none 0 0)) 32 (0,0)):=by rw[←hw1];exact World.alloc_heap_at _ _ _ (by simp)
 clear hw1
 refine(rnew_any w1).mono ?_
 rintro e w2 ⟨u,rfl,⟨B,n1,n2,rfl,hS⟩,hB⟩
 have hB2:Ext w1 w2:=hB
 have x2:Ext w w2:=x1.trans hB2
 have q2:=qc q1 hB2
 have z1:=(zG.1 q1).1
 have z12:=hB2.size
 clear hB q1
 have HP:=zH (qef _ _ _ _ _ _ w2 hS)
 clear hS
 go_wp2_with fail
 refine HP.out.mono ?_
 rintro e w6 ⟨u,rfl,⟨v,rfl,hT⟩,hB⟩
 have hB6:Ext w2 w6:=hB
 have x6:Ext w w6:=x2.trans hB6
 have q6:=qc q2 hB6
 obtain⟨BB,WW,gg,B3,e3,B4,e4,rfl,hD,hN,hL⟩:=hT
 rw[l1,l2,l3,l4]
 rw[l3] at hN
 rw[l4] at hL
 clear q2 hB HP
 have kq:=qa q6
 have fq:=qg q6
 have zq:=(zG.1 q6).1
 have z26:=hB6.size
 have P5:∀ wx:World,wx=JJ w6 w.heap.size 0 [.slice (some ⟨BB,0,none⟩) 256 256,.slice (some ⟨WW,0,none⟩) 1 2,.slice B3 256 e3,.slice B4 256 e4,.int .u32 0,.int .i64 8,.int .u32 1,.slice none 0 0]→∀ o:Obj,
   (wx.alloc o).heap[w.heap.size]?=some (.cells (Qo (.slice (some ⟨BB,0,none⟩) 256 256) (.slice (some ⟨WW,0,none⟩) 1 2) (.slice B3 256 e3) (.slice B4 256 e4) 0 8 1 (.slice none 0 0)) 32 (0,0))∧Below w.heap.size w (wx.alloc o) ∧
    XR w.heap.size (.agg (Qo (.slice (some ⟨BB,0,none⟩) 256 256) (.slice (some ⟨WW,0,none⟩) 1 2) (.slice B3 256 e3) (.slice B4 256 e4) 0 8 1 (.slice none 0 0))) (wx.alloc o):=fun wx e o=>by
  have hs:wx.heap.size=w6.heap.size:=by rw[e,ZI]
  have hk:∀ b,w2.heap.size≤b→b<w6.heap.size→(wx.alloc o).heap[b]?=w6.heap[b]?:=fun b h1 h2=>(Below.heap_alloc _ _ _ (by omega)).trans (by rw[e];exact Zm (by omega) _ _ _)
  have hs2:w6.heap.size≤(wx.alloc o).heap.size:=by simp;omega
  refine⟨(Below.heap_alloc _ _ _ (by omega)).trans (by rw[e];refine(jc _ _ _ _ q6).trans ?_;simp[kF,Qo]),Below.alloc (by rw[e];exact Zk (Nat.le_refl _) _ _ _ x6) (by omega) _,BB,WW,gg,B3,e3,B4,e4,rfl,hD.keep x2.size hs2 hk,Qu (zp hN hk) x2.size,Qu (zp hL hk) x2.size⟩
 replace P5:=zH P5
 clear hD hN hL q6
 go_wp2_with fail
 have P5:=P5.out
 generalize hw5:World.setCell (World.setCell (World.setCell (World.setCell (World.setCell (World.setCell (World.setCell (World.setCell w6 _ _) _ _) _ _) _ _) _ _) _ _) _ _) _ _=w7
 obtain⟨r5,x7,h5⟩:=P5 w7 hw5.symm (.cells #[.slice (some ⟨BB,0,none⟩) 256 256,.slice (some ⟨WW,0,none⟩) 1 2,.slice B3 256 e3,.slice B4 256 e4] 28)
 clear P5 hw5
 have k5:=qa r5
 exact bodyPost_ret (v:=.agg (Qo (.slice (some ⟨BB,0,none⟩) 256 256) (.slice (some ⟨WW,0,none⟩) 1 2) (.slice B3 256 e3) (.slice B4 256 e4) 0 8 1 (.slice none 0 0))) (by simp[results,Tryz.results23,go_sem,k5]) rfl ⟨_,rfl,h5,x7⟩
end Go.Proofs.YtpbniokljofedaaGreat
