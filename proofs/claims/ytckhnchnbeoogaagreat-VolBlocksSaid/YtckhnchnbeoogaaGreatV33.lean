/- scionrylaw17.VolBlocks is true of every pool, all bytes and every number, and leaves its arguments as they were; no condition. -/
import Derived.Deep.Slices
import Derived.Test.YtckhnchnbeoogaaGreatV15
import Derived.Test.YtckhnchnbeoogaaGreatV32
set_option linter.unusedSimpArgs false
set_option linter.unusedVariables false
namespace Go.Proofs.YtckhnchnbeoogaaGreat
open Go.RowKit Go.ChangeShapes Go.WideShapes Go.ChangeAt Go.Deep
theorem Tryz.cc_u8:Tryz.prog.cellsOf 5=1:=by kernel_rfl
theorem Tryz.cc_u32:Tryz.prog.cellsOf 29=1:=by kernel_rfl
theorem Tryz.cc_int:Tryz.prog.cellsOf 3=1:=by kernel_rfl
theorem Tryz.cc_bytes:Tryz.prog.cellsOf 26=1:=by kernel_rfl
theorem Tryz.cc_blocks:Tryz.prog.cellsOf 22=1:=by kernel_rfl
theorem Tryz.cc_writes:Tryz.prog.cellsOf 23=1:=by kernel_rfl
theorem Tryz.cc_ints:Tryz.prog.cellsOf 30=1:=by kernel_rfl
theorem Tryz.cc_write:Tryz.prog.cellsOf 100=2:=by kernel_rfl
theorem Tryz.cc_disk:Tryz.prog.cellsOf 25=2:=by kernel_rfl
theorem Tryz.cc_store:Tryz.prog.cellsOf 28=4:=by kernel_rfl
theorem Tryz.cc_pool:Tryz.prog.cellsOf 32=8:=by kernel_rfl
section
variable {H:Type} {enc:TypeId×Value→H} {W:World}
theorem qaE {size:Nat} {a:Addr} {n:Nat} {xs:List Value} (hlen:xs.length=n*size) (hz:0<size) (hb:∀ x∈MemPlace.row a (n*size),x.block<W.heap.size) (hc:∀ i u,xs[i]?=some u→W.cell? (a.add i)=some u):Rd W W.heap.size size (some a) n xs:=by
 refine⟨hlen,fun h0=>?_⟩
 have hpos:0<xs.length:=by rw[hlen];exact Nat.mul_pos h0 hz
 obtain⟨u,hu⟩:∃ u,xs[0]?=some u:=⟨_,List.getElem?_eq_getElem hpos⟩
 have h1:=hc 0 u hu
 have hsp:a.spot=none:=by
  have:(a.add 0)=a:=by simp[Addr.add]
  rw[this] at h1
  unfold World.cell? at h1
  split at h1
  ·cases hs:a.spot with
   |none=>rfl
   |some s=>rw[hs] at h1;simp at h1
  ·cases h1
 obtain⟨b,off,sp⟩:=a
 simp only at hsp
 subst hsp
 have hbl:b<W.heap.size:=by
  have:W.cell? ((⟨b,off,none⟩:Addr).add 0)=some u:=h1
  have h2:=World.block_lt_of_cell? W _ this
  simpa [Addr.add] using h2
 refine⟨b,off,rfl,hbl,fun j v hv=>?_⟩
 rw[←hc j v hv]
 unfold Addr.add
 split
 ·subst_vars;rfl
 ·rfl
theorem qeL {fuel:Nat} {cs:List Value} {d:DataW H} {p:List MemPlace} (h:DataW.trod enc Tryz.prog W 0 (fun _=>true) true fuel 22 cs=some (d,p)) (hlt:∀ x∈p,x.block<W.heap.size) :
  ∃ A c bs,cs=[.slice A bs.length c]∧Bls W W.heap.size (.slice A bs.length c) bs:=by
 rcases open_slice1 Tryz.underlying22 Tryz.cc_bytes h with ⟨rfl,_⟩|⟨a,len,cap,m,n,V,D,Pl,rfl,_,hl,hm,hmm,hx,hel⟩
 ·exact⟨none,0,[],rfl,[],none,0,rfl,Nat.le_refl _,by simp[maxLen],Rd.none_,fun i u l hu=>by simp at hu⟩
 ·simp only[if_true] at hmm
  subst hmm
  have hp:p=MemPlace.row a m++(List.range m).flatMap Pl:=congrArg Prod.snd hx
  have hb:∀ i,i<len→∃ l:List UInt8,Bys W W.heap.size (V i) l:=fun i hi=>by
   obtain⟨_,h2⟩:=hel i (by omega)
   obtain⟨A,n',c',e,_,l,hby,_⟩:=kM Tryz.underlying26 Tryz.underlying5 Tryz.cc_u8 h2 (fun x hx'=>hlt x (by
    rw[hp]
    exact List.mem_append_right _ (List.mem_flatMap.2 ⟨i,List.mem_range.2 (by omega),hx'⟩)))
   simp only[List.cons.injEq,and_true] at e
   exact⟨l,by rw[e];exact hby⟩
  obtain⟨L,hL⟩:=choose_lt (α:=List UInt8) (p:=fun i l=>Bys W W.heap.size (V i) l) hb
  refine⟨some a,m,(List.range len).map L,by simp,(List.range len).map V,some a,m,by simp,by simpa using hl,hm,?_,fun i u l hu hll=>?_⟩
  ·rw[List.length_map,List.length_range]
   refine kO (c:=m) hl (by simp) (fun x hx'=>hlt x (by rw[hp];exact List.mem_append_left _ hx')) (fun i u hu=>?_)
   have hi:i<len:=by
    have:=(List.getElem?_eq_some_iff.1 hu).1
    simpa using this
   rw[List.getElem?_map,List.getElem?_range hi] at hu
   cases hu
   exact(hel i (by omega)).1
  ·have hi:i<len:=by
    have:=(List.getElem?_eq_some_iff.1 hu).1
    simpa using this
   rw[List.getElem?_map,List.getElem?_range hi] at hu hll
   cases hu
   cases hll
   exact hL i hi
theorem rd_write {fuel:Nat} {cs:List Value} {d:DataW H} {p:List MemPlace} (h:DataW.trod enc Tryz.prog W 0 (fun _=>true) true fuel 100 cs=some (d,p)) (hlt:∀ x∈p,x.block<W.heap.size) :
  ∃ a A l c,cs=[.int .i64 a,.slice A l.length c]∧Bys W W.heap.size (.slice A l.length c) l∧(Lit.int .i64 a).wf=true:=by
 obtain⟨xs,n,hl,hxl,hp,hf⟩:=vD Tryz.underlying100 h
 rw[Tryz.cc_write] at hl
 match cs,hl with
 | [c0,c1],_ =>
  match xs,hxl with
  | [y0,y1],_ =>
   have g0:_=some y0:=hf 0 3 0 1 rfl Tryz.cc_int
   have g1:_=some y1:=hf 1 26 1 1 rfl Tryz.cc_bytes
   simp only[List.drop,List.take] at g0 g1
   obtain⟨a,ea,_,wa⟩:=DataW.trod_int Tryz.underlying3 g0
   have hp2:p=y0.2++(y1.2++[]):=hp
   obtain⟨d1,p1⟩:=y1
   obtain⟨A,m,c,es,hmc,l,hb,hlen⟩:=kM Tryz.underlying26 Tryz.underlying5 Tryz.cc_u8 g1 (fun x hx=>hlt x (by rw[hp2];simp[hx]))
   simp only[List.cons.injEq,and_true] at ea es
   subst ea es hlen
   exact⟨a,A,l,c,rfl,hb,wa⟩
theorem qea {fuel:Nat} {cs:List Value} {d:DataW H} {p:List MemPlace} (h:DataW.trod enc Tryz.prog W 0 (fun _=>true) true fuel 23 cs=some (d,p)) (hlt:∀ x∈p,x.block<W.heap.size) :
  ∃ A c ws,cs=[.slice A ws.length c]∧Wrs W W.heap.size (.slice A ws.length c) ws:=by
 rcases open_slice Tryz.underlying23 h with ⟨rfl,_⟩|⟨a,len,cap,m,n,D,Pl,rfl,_,hl,hm,hmm,hx,hel⟩
 ·exact⟨none,0,[],rfl,[],rfl,⟨none,0,rfl,Nat.le_refl _,by simp[maxLen],Rd.none_⟩,fun p h=>by cases h⟩
 ·simp only[if_true] at hmm
  subst hmm
  rw[Tryz.cc_write] at hx hel
  have hp:p=MemPlace.row a (m*2)++(List.range m).flatMap Pl:=congrArg Prod.snd hx
  have hb:∀ i,i<len→∃ q:(Int×List UInt8)×Value,(∃ A c,q.2=.slice A q.1.2.length c)∧Bys W W.heap.size q.2 q.1.2∧W.cell? (a.add (i*2))=some (.int .i64 q.1.1)∧W.cell? (a.add (i*2+1))=some q.2:=fun i hi=>by
   obtain⟨cs',h1,h2⟩:=hel i (by omega)
   obtain⟨_,_,h3⟩:=World.cells?_some h1
   obtain⟨r,A,l,c,rfl,hby,_⟩:=rd_write h2 (fun x hx'=>hlt x (by
    rw[hp]
    exact List.mem_append_right _ (List.mem_flatMap.2 ⟨i,List.mem_range.2 (by omega),hx'⟩)))
   have e0:=h3 0 (by omega)
   have e1:=h3 1 (by omega)
   have ea:∀ j,(a.add (i*2)).add j=a.add (i*2+j):=fun j=>by
    unfold Addr.add
    repeat' split
    all_goals simp_all
    all_goals omega
   rw[ea] at e0 e1
   exact⟨((r,l),.slice A l.length c),⟨A,c,rfl⟩,hby,e0,e1⟩
  obtain⟨Q,hQ⟩:=choose_lt (α:=(Int×List UInt8)×Value) (p:=fun i q=>(∃ A c,q.2=.slice A q.1.2.length c)∧Bys W W.heap.size q.2 q.1.2∧W.cell? (a.add (i*2))=some (.int .i64 q.1.1)∧W.cell? (a.add (i*2+1))=some q.2) hb
  refine⟨some a,m,((List.range len).map Q).map (·.1),by simp,(List.range len).map Q,rfl,⟨some a,m,by simp,by simpa using hl,hm,?_⟩,fun q hq=>?_⟩
  ·rw[List.length_map,List.length_map,List.length_range]
   refine qaE (by rw[jL];simp) (by omega) (fun x hx'=>hlt x ?_) (fun j u hu=>?_)
   ·rw[hp]
    refine List.mem_append_left _ ?_
    unfold MemPlace.row at hx' ⊢
    rw[List.mem_map] at hx' ⊢
    obtain⟨k,hk,e⟩:=hx'
    exact⟨k,List.mem_range.2 (by have:=List.mem_range.1 hk;omega),e⟩
   ·have hj:j<len*2:=by
     have:=(List.getElem?_eq_some_iff.1 hu).1
     rw[jL] at this
     simpa using this
    obtain⟨c0,c1⟩:=JM ((List.range len).map Q) (j / 2) (by simp;omega)
    obtain⟨_,_,q0,q1⟩:=hQ (j / 2) (by omega)
    rcases(show j=j / 2*2∨j=j / 2*2+1 by omega) with e|e
    ·have hu':some u=some _:=(hu.symm.trans (congrArg (fun t=>(QE ((List.range len).map Q))[t]?) e)).trans c0
     cases hu'
     rw[show a.add j=a.add (j / 2*2) from congrArg _ e,q0]
     simp
    ·have hu':some u=some _:=(hu.symm.trans (congrArg (fun t=>(QE ((List.range len).map Q))[t]?) e)).trans c1
     cases hu'
     rw[show a.add j=a.add (j / 2*2+1) from congrArg _ e,q1]
     simp
  ·obtain⟨i,hi,rfl⟩:=List.mem_map.1 hq
   obtain⟨q0,q1,_⟩:=hQ i (List.mem_range.1 hi)
   exact⟨q0,q1⟩
theorem rd_ints {fuel:Nat} {cs:List Value} {d:DataW H} {p:List MemPlace} (h:DataW.trod enc Tryz.prog W 0 (fun _=>true) true fuel 30 cs=some (d,p)) (hlt:∀ x∈p,x.block<W.heap.size) :
  ∃ A c l,cs=[.slice A l.length c]∧QF W W.heap.size (.slice A l.length c) l∧∀ a∈l,(Lit.int .i64 a).wf=true:=by
 rcases open_ints Tryz.underlying30 Tryz.underlying3 Tryz.cc_int h with ⟨rfl,_⟩|⟨a,len,cap,zs,rfl,_,hl,hm,hz,hx,hcell,hwf⟩
 ·exact⟨none,0,[],rfl,⟨none,0,rfl,Nat.le_refl _,by simp[maxLen],Rd.none_⟩,fun a h=>by cases h⟩
 ·simp only[if_true] at hz
  have hp:p=MemPlace.row a zs.length:=congrArg Prod.snd hx
  have hll:(zs.take len).length=len:=by rw[List.length_take];omega
  refine⟨some a,cap,zs.take len,by rw[hll],⟨some a,cap,rfl,by omega,hm,?_⟩,fun n hn=>hwf n (List.mem_of_mem_take hn)⟩
  rw[hll]
  refine kO (c:=cap) hl (by simp;omega) (fun x hx'=>hlt x (by rw[hp,hz];exact hx')) (fun i u hu=>?_)
  rw[List.getElem?_map,List.getElem?_take] at hu
  split at hu
  ·rename_i hi
   rw[hcell i (by omega),←hu]
   simp[List.getElem?_eq_getElem (show i<zs.length by omega)]
  ·cases hu
theorem rd_disk {fuel:Nat} {cs:List Value} {d:DataW H} {p:List MemPlace} (h:DataW.trod enc Tryz.prog W 0 (fun _=>true) true fuel 25 cs=some (d,p)) (hlt:∀ x∈p,x.block<W.heap.size) :
  ∃ A1 c1 A2 c2 bs ws,cs=[.slice A1 (List.length bs) c1,.slice A2 (List.length ws) c2]∧Bls W W.heap.size (.slice A1 bs.length c1) bs∧Wrs W W.heap.size (.slice A2 ws.length c2) ws:=by
 obtain⟨xs,n,hl,hxl,hp,hf⟩:=vD Tryz.underlying25 h
 rw[Tryz.cc_disk] at hl
 match cs,hl with
 | [c0,c1],_ =>
  match xs,hxl with
  | [(d0,p0),(d1,p1)],_ =>
   have g0:_=some (d0,p0):=hf 0 22 0 1 rfl Tryz.cc_blocks
   have g1:_=some (d1,p1):=hf 1 23 1 1 rfl Tryz.cc_writes
   simp only[List.drop,List.take] at g0 g1
   have hp2:p=p0++(p1++[]):=hp
   obtain⟨A1,k1,bs,e1,h1⟩:=qeL g0 (fun x hx=>hlt x (by rw[hp2];simp[hx]))
   obtain⟨A2,k2,ws,e2,h2⟩:=qea g1 (fun x hx=>hlt x (by rw[hp2];simp[hx]))
   simp only[List.cons.injEq,and_true] at e1 e2
   subst e1 e2
   exact⟨A1,k1,A2,k2,bs,ws,rfl,h1,h2⟩
theorem rd_store {fuel:Nat} {cs:List Value} {d:DataW H} {p:List MemPlace} (h:DataW.trod enc Tryz.prog W 0 (fun _=>true) true fuel 28 cs=some (d,p)) (hlt:∀ x∈p,x.block<W.heap.size) :
  ∃ A1 c1 A2 c2 A3 c3 A4 c4,∃ S:Sto,cs=[.slice A1 S.bs.length c1,.slice A2 S.ws.length c2,.slice A3 S.now.length c3,.slice A4 S.last.length c4]∧qH W W.heap.size (.slice A1 S.bs.length c1) (.slice A2 S.ws.length c2) (.slice A3 S.now.length c3) (.slice A4 S.last.length c4) S:=by
 obtain⟨xs,n,hl,hxl,hp,hf⟩:=vD Tryz.underlying28 h
 rw[Tryz.cc_store] at hl
 match cs,hl with
 | [c0,c1,c2,c3],_ =>
  match xs,hxl with
  | [(d0,p0),(d1,p1),(d2,p2)],_ =>
   have g0:_=some (d0,p0):=hf 0 25 0 2 rfl Tryz.cc_disk
   have g1:_=some (d1,p1):=hf 1 26 2 1 rfl Tryz.cc_bytes
   have g2:_=some (d2,p2):=hf 2 26 3 1 rfl Tryz.cc_bytes
   simp only[List.drop,List.take] at g0 g1 g2
   have hp2:p=p0++(p1++(p2++[])):=hp
   obtain⟨A1,k1,A2,k2,bs,ws,e1,h1,h2⟩:=rd_disk g0 (fun x hx=>hlt x (by rw[hp2];simp[hx]))
   obtain⟨A3,n3,k3,e3,_,l3,h3,q3⟩:=kM Tryz.underlying26 Tryz.underlying5 Tryz.cc_u8 g1 (fun x hx=>hlt x (by rw[hp2];simp[hx]))
   obtain⟨A4,n4,k4,e4,_,l4,h4,q4⟩:=kM Tryz.underlying26 Tryz.underlying5 Tryz.cc_u8 g2 (fun x hx=>hlt x (by rw[hp2];simp[hx]))
   simp only[List.cons.injEq,and_true] at e1 e3 e4
   obtain⟨rfl,rfl⟩:=e1
   subst e3 e4 q3 q4
   exact⟨A1,k1,A2,k2,A3,k3,A4,k4,⟨bs,ws,l3,l4⟩,rfl,h1,h2,h3,h4⟩
theorem rd_pool {fuel:Nat} {cs:List Value} {d:DataW H} {p:List MemPlace} (h:DataW.trod enc Tryz.prog W 0 (fun _=>true) true fuel 32 cs=some (d,p)) (hlt:∀ x∈p,x.block<W.heap.size) :
  ∃ A1 c1 A2 c2 A3 c3 A4 c4 gen root next A5 c5,∃ (S:Sto) (dead:List Int),cs=(qC (.slice A1 S.bs.length c1) (.slice A2 S.ws.length c2) (.slice A3 S.now.length c3) (.slice A4 S.last.length c4) gen root next (.slice A5 dead.length c5)).toList ∧
   qH W W.heap.size (.slice A1 S.bs.length c1) (.slice A2 S.ws.length c2) (.slice A3 S.now.length c3) (.slice A4 S.last.length c4) S∧QF W W.heap.size (.slice A5 dead.length c5) dead ∧
   (Lit.int .u32 gen).wf=true∧(Lit.int .i64 root).wf=true∧(Lit.int .u32 next).wf=true∧∀ a∈dead,(Lit.int .i64 a).wf=true:=by
 obtain⟨xs,n,hl,hxl,hp,hf⟩:=vD Tryz.underlying32 h
 rw[Tryz.cc_pool] at hl
 match cs,hl with
 | [c0,c1,c2,c3,c4,c5,c6,c7],_ =>
  match xs,hxl with
  | [(d0,p0),(d1,p1),(d2,p2),(d3,p3),(d4,p4)],_ =>
   have g0:_=some (d0,p0):=hf 0 28 0 4 rfl Tryz.cc_store
   have g1:_=some (d1,p1):=hf 1 29 4 1 rfl Tryz.cc_u32
   have g2:_=some (d2,p2):=hf 2 3 5 1 rfl Tryz.cc_int
   have g3:_=some (d3,p3):=hf 3 29 6 1 rfl Tryz.cc_u32
   have g4:_=some (d4,p4):=hf 4 30 7 1 rfl Tryz.cc_ints
   simp only[List.drop,List.take] at g0 g1 g2 g3 g4
   have hp2:p=p0++(p1++(p2++(p3++(p4++[])))):=hp
   obtain⟨A1,k1,A2,k2,A3,k3,A4,k4,S,e0,hS⟩:=rd_store g0 (fun x hx=>hlt x (by rw[hp2];simp[hx]))
   obtain⟨gen,e1,_,w1⟩:=DataW.trod_int Tryz.underlying29 g1
   obtain⟨root,e2,_,w2⟩:=DataW.trod_int Tryz.underlying3 g2
   obtain⟨next,e3,_,w3⟩:=DataW.trod_int Tryz.underlying29 g3
   obtain⟨A5,k5,dead,e4,hd,w4⟩:=rd_ints g4 (fun x hx=>hlt x (by rw[hp2];simp[hx]))
   simp only[List.cons.injEq,and_true] at e0 e1 e2 e3 e4
   obtain⟨rfl,rfl,rfl,rfl⟩:=e0
   subst e1 e2 e3 e4
   exact⟨A1,k1,A2,k2,A3,k3,A4,k4,gen,root,next,A5,k5,S,dead,rfl,hS,hd,w1,w2,w3,w4⟩
end
end Go.Proofs.YtckhnchnbeoogaaGreat
namespace Go.Proofs.YtckhnchnbeoogaaGreat.volBlocks
set_option linter.unusedSimpArgs false
set_option linter.unusedVariables false
open Go.ChangeShapes Go.WideShapes Go.ChangeAt Go.RowKit
theorem own:ownKnob Tryz.prog.godebug=none:=by kernel_rfl
theorem laidOut:laidOutB Tryz.prog=true:=by kernel_rfl
set_option maxHeartbeats 1000000 in
set_option maxRecDepth 100000 in
theorem lifted (os:Os) (started:os.Started) (H:Type) (enc:TypeId×Value→H) :
  ReturnsInHanded {} Tryz.checked os 4 .any (Rows.volBlocksSpec.pre6 enc Tryz.prog Tryz.f4 Rows.volBlocksRow.domain false) (Rows.volBlocksSpec.post enc Tryz.prog Tryz.f4 false true false false):=by
 refine returnsInHanded_of_change (C:=Tryz.checked) own started (by kernel_rfl) Tryz.func4
  (ChangeSpec.witness6 (enc:=enc) (C:=Tryz.checked) false ⟨#[],#[.agg (qC (.slice none 0 0) (.slice none 0 0) (.slice none 0 0) (.slice none 0 0) 0 0 0 (.slice none 0 0)),.slice none 0 0,.int .i64 0],[]⟩ 8 (by kernel_rfl) (by kernel_rfl) (by kernel_rfl) (by kernel_rfl)) ?_
 intro W base args ds gs before hval0 hW hcnd _
 have hval:∀ (j:Nat) t v,Tryz.f4.params[j]?=some t→args[j]?=some v→Value.okWide Tryz.prog W .any base t v:=hval0
 have hW':=hW
 have hlt:∀ x∈before,x.block<W.heap.size:=fun x hx=>hW.lt x hx
 obtain⟨p,q,hA0,hV,rfl,hfz,hnd⟩:=hW
 have hA:DataW.TrodAll enc Tryz.prog W 0 (fun _=>true) true Tryz.f4.params.toList args.toList ds p:=hA0
 rw[Tryz.params4] at hA hval
 obtain⟨v0,vs0,d0,ds0,p0,q0,hargs,rfl,rfl,h0,r0⟩:=trodAll_cons hA
 obtain⟨v1,vs1,d1,ds1,p1,q1,rfl,rfl,rfl,h1,r1⟩:=trodAll_cons r0
 obtain⟨v2,vs2,d2,ds2,p2,q2,rfl,rfl,rfl,h2,r2⟩:=trodAll_cons r1
 obtain⟨rfl,rfl,rfl⟩:=trodAll_nil r2
 obtain rfl:args=#[v0,v1,v2]:=by cases args;simp_all
 obtain⟨rfl,rfl⟩:=trodVars_none hV
 obtain⟨cs0,rfl,_⟩:=okWide_struct Tryz.underlying32 (hval 0 32 v0 rfl rfl)
 obtain⟨a1,l1,k1,rfl⟩:=okWide_slice Tryz.underlying26 (hval 1 26 v1 rfl rfl)
 obtain⟨at_,rfl⟩:=okWide_int Tryz.underlying3 (hval 2 3 v2 rfl rfl)
 obtain⟨n0,h0⟩:=h0
 obtain⟨n1,h1⟩:=h1
 obtain⟨A1,c1,A2,c2,A3,c3,A4,c4,gen,root,next,A5,c5,S,dead,e0,hS,hd,_,_,_,_⟩:=rd_pool h0 (fun x hx=>hlt x (by simp[hx]))
 obtain⟨A7,m7,c7,e2,_,data,hb,hm7⟩:=kM Tryz.underlying26 Tryz.underlying5 Tryz.cc_u8 h1 (fun x hx=>hlt x (by simp[hx]))
 subst hm7
 have e0':cs0=qC (.slice A1 S.bs.length c1) (.slice A2 S.ws.length c2) (.slice A3 S.now.length c3) (.slice A4 S.last.length c4) gen root next (.slice A5 dead.length c5):=by
  obtain⟨cs0⟩:=cs0
  have:cs0=_:=e0
  rw[this]
 have e2':Value.slice a1 l1 k1=.slice A7 data.length c7:=by
  have:[Value.slice a1 l1 k1]=_:=e2
  exact(List.cons.inj this).1
 subst e0'
 cases e2'
 have walk:Calls Tryz.prog 4 #[.agg (qC (.slice A1 S.bs.length c1) (.slice A2 S.ws.length c2) (.slice A3 S.now.length c3) (.slice A4 S.last.length c4) gen root next (.slice A5 dead.length c5)),.slice a1 data.length k1,.int .i64 at_] W (Ret (.bool true) W):=qcj A1 c1 A2 c2 A3 c3 A4 c4 gen root next A5 c5 S dead a1 k1 data at_ W hS hd hb
 refine walk.mono fun e W' ⟨he,hB⟩=>?_
 subst he
 exact⟨_,rfl,law_post rfl laidOut rfl Tryz.underlying4 (by
  intro t ht
  have:t=32∨t=26∨t=3:=by rw[Tryz.params4] at ht;simpa using ht
  rcases this with rfl|rfl|rfl
  ·exact⟨by kernel_rfl,of_decide_eq_true (by kernel_rfl)⟩
  ·exact⟨by kernel_rfl,of_decide_eq_true (by kernel_rfl)⟩
  ·exact⟨by kernel_rfl,of_decide_eq_true (by kernel_rfl)⟩) hW' rfl hB⟩
theorem over:Rows.volBlocksRow.holds Tryz.pinned (OpenSpec.ofChange Rows.volBlocksSpec):=
 OpenClaim.holds_of_wide 4 Tryz.f4 rfl rfl rfl rfl rfl rfl rfl ⟨rfl,rfl,rfl,rfl,rfl⟩ rfl rfl rfl rfl rfl (by kernel_rfl) Tryz.func4 (by kernel_rfl)
  (of_decide_eq_true (by kernel_rfl)) (by unfold Func.isWrapper;first|(rw[if_pos (by decide +kernel)];kernel_rfl)|(rw[if_neg (by decide +kernel)];exact⟨rfl,rfl⟩))
  (fun os started H enc _=>lifted os started H enc)
theorem proved:Rows.VolBlocksSaid:=over
end Go.Proofs.YtckhnchnbeoogaaGreat.volBlocks
