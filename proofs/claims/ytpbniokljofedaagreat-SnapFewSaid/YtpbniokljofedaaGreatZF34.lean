/- scionrylaw18.SnapFew is true of every pool, number and mark, and leaves its arguments as they were; no condition. -/
import Derived.Deep.Slices
import Derived.Test.YtpbniokljofedaaGreatZF01
import Derived.Test.YtpbniokljofedaaGreatZF12
import Derived.Test.YtpbniokljofedaaGreatZF14
import Derived.Test.YtpbniokljofedaaGreatZF19
import Derived.Test.YtpbniokljofedaaGreatZF31
import Derived.Test.YtpbniokljofedaaGreatZF33
set_option linter.unusedSimpArgs false
set_option linter.unusedVariables false
set_option maxHeartbeats 8000000
namespace Go.Proofs.YtpbniokljofedaaGreat
open Go.RowKit
theorem qah {S:Sto} {n:Nat} (h:Gw S n=false):Xx S∧n<1000000:=by
 unfold Gw Xj kO qbo at h
 simp only[Bool.or_eq_false_iff,decide_eq_false_iff_not] at h
 obtain⟨⟨⟨h1,h2⟩,h3,h4⟩,h5⟩:=h
 have hb:=qbJ (ls:=S.bs) (by omega)
 have hw:=qbJ (ls:=S.ws.map (·.2)) (by omega)
 exact⟨⟨by omega,by omega,fun l hl=>by have:=hb l hl;omega,fun p hp=>by have:=hw p.2 (List.mem_map.2 ⟨p,hp,rfl⟩);omega,by omega,by omega⟩,by omega⟩
theorem qad {R:Ending→World→Prop} {a:Act} {W:World} {u:Value} (h4:a.tmps[6]?.getD undef=u) (hd:a.defers=[]) (hR:R (.returned u) W):bodyPost Tryz.prog Tryz.f7 R .ret a W:=by
 refine bodyPost_ret (v:=u) ?_ hd hR
 simp[results,Tryz.results7,go_sem,h4]
set_option maxRecDepth 100000 in
theorem sfew_any (A1:Option Addr) (n1 c1:Nat) (A2:Option Addr) (n2 c2:Nat) (A3:Option Addr) (n3 c3:Nat) (A4:Option Addr) (n4 c4:Nat) (gen root next:Int) (A5:Option Addr) (c5:Nat) (S:Sto) (dead:List Int) (id:Int) (fz:Bool) (hid:0≤id∧id<4294967296) (hnx:0≤next∧next<4294967296) (w:World)
  (h:qP w w.heap.size (.slice A1 n1 c1) (.slice A2 n2 c2) (.slice A3 n3 c3) (.slice A4 n4 c4) S) (hd:Zn w w.heap.size (.slice A5 dead.length c5) dead) :
  Calls Tryz.prog 7 #[.agg (qC (.slice A1 n1 c1) (.slice A2 n2 c2) (.slice A3 n3 c3) (.slice A4 n4 c4) gen root next (.slice A5 dead.length c5)),.int .u32 id,.bool fz] w (Ret (.bool true) w):=by
 have HG:=zH (fun W (hx:Ext w W)=>qdI A1 n1 c1 A2 n2 c2 A3 n3 c3 A4 n4 c4 gen root next A5 dead.length c5 S W (h.ext hx))
 have HS:=zH (fun W (hx:Ext w W)=>qbL A1 n1 c1 A2 n2 c2 A3 n3 c3 A4 n4 c4 gen root next A5 c5 S dead id fz hid hnx W (h.ext hx) (hd.ext_ hx))
 have HF:=zH (fun (a:Nat) (hS:qm S=true) (hT:JB S a) W (hx:Ext w W)=>Uf A1 n1 c1 A2 n2 c2 A3 n3 c3 A4 n4 c4 S hS a hT W (h.ext hx))
 have hn2:Hid (n2=S.ws.length):=zH (by obtain⟨ps,e,⟨A,c,e1,-⟩,-⟩:=h.ws;simp only[Value.slice.injEq] at e1;exact e1.2.1)
 clear h hd hid hnx
 go_enter Tryz.func7,Tryz.ntmps7
 go_wp2_with fail
 generalize hw1:World.alloc w _=w1
 have x1:Ext w w1:=by rw[←hw1];exact zN _ _
 have rp1:w1.heap[w.heap.size]?=some (.cells (qC (.slice A1 n1 c1) (.slice A2 n2 c2) (.slice A3 n3 c3) (.slice A4 n4 c4) gen root next (.slice A5 dead.length c5)) 32 (0,0)):=by rw[←hw1];exact zI _ _ _ rfl
 clear hw1
 refine(qde w1).mono ?_
 rintro e w2 ⟨rfl,hB⟩
 have x2:Ext w w2:=x1.trans hB
 have rp2:=qb rp1 hB
 have kp2:=qa rp2
 have zp2:=(zG.1 rp2).1
 clear hB rp1 x1
 go_wp2_with fail
 refine(HG.out w2 x2).mono ?_
 clear HG
 rintro e w3 ⟨rfl,hB⟩
 have x3:Ext w w3:=x2.trans hB
 have rp3:=qb rp2 hB
 have kp3:=qa rp3
 have zp3:=(zG.1 rp3).1
 clear hB rp2 x2 kp2 zp2
 cases hgr:Gw S dead.length
 case true =>
  go_wp2_with fail
  exact qad rfl rfl ⟨rfl,x3⟩
 case false =>
  replace hgr:=zH hgr
  go_wp2_with fail
  refine(HS.out w3 x3).mono ?_
  clear HS
  rintro e w4 ⟨hB,hq⟩
  have x4:Ext w w4:=x3.trans hB
  have rp4:=qb rp3 hB
  have kp4:=qa rp4
  have zp4:=(zG.1 rp4).1
  clear hB rp3 x3 kp3 zp3
  rcases hq with ⟨er,hne,rfl,-⟩|⟨r,S',u,hok,rfl,hN⟩
  ·have hb:(er == 0)=false:=by rw[beq_eq_false_iff_ne];exact hne
   replace hne:=zH hne
   go_wp2_with fail
   exact qad rfl rfl ⟨rfl,x4.trans (zN _ _)⟩
  ·obtain⟨vs,refs,nodes,v,vs',hp,-,-,-,-,-,hsh,⟨vs2,refs2,nodes2,-,-,-,-,hset,-⟩,-⟩:=hok
   obtain⟨a,ha,hT⟩:∃ a:Nat,root=(a:Int)∧JB S a:=JN hp.top
   have HC:=zH (HF.out a hp.may hT)
   have hwb:=zH (fun (lvl:Nat) xs (hn:qu S a=some ((lvl:Int),xs))=>held_ws hsh hset (lvl:=lvl) (xs:=xs) (by rw[ha];simpa using hn))
   have hshort:=zH (qah hgr.out).1
   obtain⟨E1,m1,E2,m2,E3,m3,E4,m4,E5,m5,rfl,-,-⟩:=hN.sto
   clear hp hsh hset hT hN HF
   subst ha
   go_wp2_with fail
   generalize hw5:World.alloc w4 _=w5
   have x45:Ext w4 w5:=by rw[←hw5];exact zN _ _
   have rq5:w5.heap[w4.heap.size]?=some (.cells (qC (.slice E1 S'.bs.length m1) (.slice E2 S'.ws.length m2) (.slice E3 S'.now.length m3) (.slice E4 S'.last.length m4) gen (r:Int) (next+1) (.slice E5 dead.length m5)) 32 (0,0)):=by rw[←hw5];exact zI _ _ _ rfl
   have x5:Ext w w5:=x4.trans x45
   have rp5:=qb rp4 x45
   clear hw5 rp4 kp4 zp4 x4 x45
   refine(HC.out w5 x5).mono ?_
   clear HC
   rintro e w6 ⟨u,rfl,⟨lvl,xs,hn,hl5,rfl⟩,hB⟩
   have x6:Ext w w6:=x5.trans hB
   have rp6:=qb rp5 hB
   have rq6:=qb rq5 hB
   have kp6:=qa rp6
   have kq6:=qa rq6
   have zp6:=(zG.1 rp6).1
   have zq6:=(zG.1 rq6).1
   have hwb2:=hwb.out lvl xs hn
   clear hwb hn hB rp5 rq5 x5
   have hlen:=hshort.out.ws
   have q1:wrap64 ((S'.ws.length:Int)-(n2:Int))=(S'.ws.length:Int)-(n2:Int):=IntWalk.wrap64_in _ (by rw[hn2.out];omega)
   have q2:wrap64 (2*((lvl:Int)+1))=2*((lvl:Int)+1):=IntWalk.wrap64_in _ (by omega)
   have q3:wrap64 (2*((lvl:Int)+1)+1)=2*((lvl:Int)+1)+1:=IntWalk.wrap64_in _ (by omega)
   have q4:decide ((S'.ws.length:Int)-(n2:Int)≤2*((lvl:Int)+1)+1)=true:=decide_eq_true (by rw[hn2.out];omega)
   replace q1:=zH q1
   replace q2:=zH q2
   replace q3:=zH q3
   replace q4:=zH q4
   clear hwb2 hlen hl5
   go_wp2_with fail
   refine qad (u:=.bool true) ?_ rfl ⟨rfl,x6⟩
   show Value.bool _=_
   rw[q1.out,q2.out,q3.out,q4.out]
end Go.Proofs.YtpbniokljofedaaGreat
namespace Go.Proofs.YtpbniokljofedaaGreat
open Go.RowKit Go.ChangeShapes Go.WideShapes Go.ChangeAt
section
variable {H:Type} {enc:TypeId×Value→H} {P:Program} {W:World}
theorem qcs (zs:List Int) (h:∀ n∈zs,(Lit.int .u8 n).wf=true):∃ l:List UInt8,zs.map (Value.int .u8)=l.map bv:=by
 induction zs with
 |nil=>exact⟨[],rfl⟩
 |cons z r ih =>
  obtain⟨l,hl⟩:=ih (fun n hn=>h n (List.mem_cons_of_mem _ hn))
  have hz:=h z (List.mem_cons_self)
  have hb:0≤z∧z≤255:=by simpa [Lit.wf,IntKind.min,IntKind.max,IntKind.signed,IntKind.bits] using hz
  refine⟨UInt8.ofNat z.toNat :: l,?_⟩
  simp only[List.map_cons,hl]
  congr 1
  simp only[bv]
  congr 1
  have:(UInt8.ofNat z.toNat).toNat=z.toNat % 256:=by simp
  rw[this]
  omega
theorem Ya {a:Addr} {n c:Nat} {xs:List Value} (hn:n≤c) (hlen:xs.length=n) (hb:∀ x∈MemPlace.row a c,x.block<W.heap.size) (hc:∀ i u,xs[i]?=some u→W.cell? (a.add i)=some u):Rd W W.heap.size 1 (some a) n xs:=by
 refine⟨by omega,fun h0=>?_⟩
 obtain⟨u,hu⟩:∃ u,xs[0]?=some u:=⟨_,zL (by omega)⟩
 have h1:=hc 0 u hu
 have hsp:a.spot=none:=by
  have:(a.add 0)=a:=by simp[Addr.add]
  rw[this] at h1
  unfold World.cell? at h1
  split at h1
  ·cases hs:a.spot with
   |none=>rfl
   |some s=>rw[hs] at h1;simp at h1
  ·cases h1
 obtain⟨b,off,sp⟩:=a
 simp only at hsp
 subst hsp
 have hbl:b<W.heap.size:=by
  have:W.cell? ((⟨b,off,none⟩:Addr).add 0)=some u:=h1
  have h2:=World.block_lt_of_cell? W _ this
  simpa [Addr.add] using h2
 refine⟨b,off,rfl,hbl,fun j v hv=>?_⟩
 rw[←hc j v hv]
 unfold Addr.add
 split
 ·subst_vars;rfl
 ·rfl
theorem Th {t e:TypeId} {fuel:Nat} {cs:List Value} {d:DataW H} {p:List MemPlace} (ht:P.underlying t=some (.slice e)) (he:P.underlying e=some (.int .u8)) (hc:P.cellsOf e=1)
  (h:DataW.trod enc P W 0 (fun _=>true) true fuel t cs=some (d,p)) (hlt:∀ x∈p,x.block<W.heap.size):∃ A n c,cs=[.slice A n c]∧n≤c∧∃ l:List UInt8,Bys W W.heap.size (.slice A n c) l∧l.length=n:=by
 rcases open_ints ht he hc h with ⟨rfl,_⟩|⟨a,len,cap,zs,rfl,_,hl,hm,hz,hx,hcell,hwf⟩
 ·exact⟨none,0,0,rfl,zM _,[],Bys.nil W _,rfl⟩
 ·simp only[if_true] at hz
  obtain⟨l,hl'⟩:=qcs (zs.take len) (fun n hn=>hwf n (List.mem_of_mem_take hn))
  have hll:l.length=len:=by
   have:=congrArg List.length hl'
   simp only[List.length_map,List.length_take] at this
   omega
  refine⟨some a,len,cap,rfl,hl,l,⟨some a,cap,by rw[hll],by omega,hm,?_⟩,hll⟩
  rw[hll]
  refine Ya (c:=cap) hl (by simp[hll]) (fun x hx'=>hlt x ?_) (fun i u hu=>?_)
  ·have e2:p=MemPlace.row a zs.length:=by injection hx
   rw[e2,hz];exact hx'
  ·rw[←hl'] at hu
   rw[List.getElem?_map,List.getElem?_take] at hu
   split at hu
   ·rename_i hi
    rw[hcell i (by omega)]
    rw[←hu]
    simp[zL (show i<zs.length by omega)]
   ·cases hu
theorem Vy {t:TypeId} {fs:Array Field} {fuel:Nat} {cs:List Value} {x:DataW H×List MemPlace} (ht:P.underlying t=some (.struct fs)) (h:DataW.trod enc P W 0 (fun _=>true) true fuel t cs=some x) :
  ∃ (xs:List (DataW H×List MemPlace)) (n:Nat),cs.length=P.cellsOf t∧xs.length=fs.size∧x.2=xs.flatMap (·.2) ∧
   ∀ (i:Nat) (T:TypeId) (off m:Nat),(fs[i]?).map (fun f=>(f.type,f.offset))=some (T,off)→P.cellsOf T=m→DataW.trod enc P W 0 (fun _=>true) true n T ((cs.drop off).take m)=xs[i]?:=by
 obtain⟨xs,n,_,hx,hl,hxl,hf⟩:=DataW.trod_struct ht h
 refine⟨xs,n,hl,hxl,by rw[hx],fun i T off m hi hm=>?_⟩
 obtain⟨f,hfi,he⟩:=Option.map_eq_some_iff.1 hi
 have:=hf i f hfi
 simp only[Prod.mk.injEq] at he
 rw[he.1,he.2,hm] at this
 exact this
end
section
variable {H:Type} {enc:TypeId×Value→H} {P:Program}
theorem YP (hl:laidOutB P=true) {W W':World} {sp:Nat→Bool}:∀ (ts:List TypeId) (vs:List Value) (ds:List (DataW H)) (p:List MemPlace),DataW.TrodAll enc P W 0 (fun _=>true) true ts vs ds p →
  (∀ t∈ts,P.readableRec t=true∧t<P.types.size)→(∀ x∈p,W.sameAt W' x)→(∀ x∈p,sp x.block=true)→DataW.TrodAll enc P W' 0 sp true ts vs ds p
 | [],vs,ds,p,h,_,_,_=>by
  obtain⟨rfl,rfl,rfl⟩:=trodAll_nil h
  exact trodAll_mk0
 |t :: ts,vs,ds,p,h,ht,hs,hsp=>by
  obtain⟨v,vs',d,ds',p0,q0,rfl,rfl,rfl,h0,h1⟩:=trodAll_cons h
  have e:=ht t (List.mem_cons_self)
  exact trodAll_cons_mk (WideElems.Trod_stays hl e.1 e.2 h0 (fun x hx=>hs x (List.mem_append_left _ hx)) (fun x hx=>hsp x (List.mem_append_left _ hx)))
   (YP hl ts vs' ds' q0 h1 (fun t' h'=>ht t' (List.mem_cons_of_mem _ h')) (fun x hx=>hs x (List.mem_append_right _ hx)) (fun x hx=>hsp x (List.mem_append_right _ hx)))
theorem law_post {f:Func} {s:ChangeSpec} {W W':World} {args:Array Value} {ds gs:List (DataW H)} {before:List MemPlace} {b:TypeId} (hv:s.vars=[]) (hl:laidOutB P=true)
  (hr:f.resultTypes=#[b]) (hb:P.underlying b=some .bool) (ht:∀ t∈f.params.toList,P.readableRec t=true∧t<P.types.size)
  (hW:DataW.Whole enc P f.params.toList s.vars false W args.toList ds gs before) (hs:s.fn H (ds++gs)={ results:=[.lit (.bool true)],args:=ds,vars:=[] }) (hB:Below W.heap.size W W') :
  s.post enc P f false true false false W args (.bool true) W':=by
 have hlt:∀ x∈before,x.block<W.heap.size:=fun x hx=>hW.lt x hx
 have hW0:=hW
 obtain⟨p,q,hA,hV,rfl,_,_⟩:=hW
 have hq:q=[]:=by
  rw[hv] at hV
  cases gs with
  |nil=>exact hV
  |cons g gs=>cases hV
 subst hq
 refine⟨ds,gs,p++[],[],p,[],hW0,?_,?_,?_,?_,fun h=>by cases h⟩
 ·rw[hs,hr]
  exact trodAll_cons_mk (shut_bool hb true) trodAll_mk0
 ·rw[hs]
  exact YP hl _ _ _ _ hA ht (fun x hx=>hB.same (hlt x (by simpa using hx))) (fun x hx=>by simpa using hlt x (by simpa using hx))
 ·rw[hs,hv]
  exact rfl
 ·exact World.keptBut_mono (fun x hx=>⟨by simpa using hx,Or.inr (Or.inl hx)⟩) (hB.frame (· ∈ p))
end
end Go.Proofs.YtpbniokljofedaaGreat
namespace Go.Proofs.YtpbniokljofedaaGreat
open Go.RowKit Go.ChangeShapes Go.WideShapes Go.ChangeAt Go.Deep
theorem Tryz.cc_u8:Tryz.prog.cellsOf 5=1:=by kernel_rfl
theorem Tryz.cc_u32:Tryz.prog.cellsOf 29=1:=by kernel_rfl
theorem Tryz.cc_int:Tryz.prog.cellsOf 3=1:=by kernel_rfl
theorem Tryz.cc_bytes:Tryz.prog.cellsOf 26=1:=by kernel_rfl
theorem Tryz.cc_blocks:Tryz.prog.cellsOf 22=1:=by kernel_rfl
theorem Tryz.cc_writes:Tryz.prog.cellsOf 23=1:=by kernel_rfl
theorem Tryz.cc_ints:Tryz.prog.cellsOf 30=1:=by kernel_rfl
theorem Tryz.cc_write:Tryz.prog.cellsOf 130=2:=by kernel_rfl
theorem Tryz.cc_disk:Tryz.prog.cellsOf 25=2:=by kernel_rfl
theorem Tryz.cc_store:Tryz.prog.cellsOf 28=4:=by kernel_rfl
theorem Tryz.cc_pool:Tryz.prog.cellsOf 32=8:=by kernel_rfl
section
variable {H:Type} {enc:TypeId×Value→H} {W:World}
theorem qcI {size:Nat} {a:Addr} {n:Nat} {xs:List Value} (hlen:xs.length=n*size) (hz:0<size) (hb:∀ x∈MemPlace.row a (n*size),x.block<W.heap.size) (hc:∀ i u,xs[i]?=some u→W.cell? (a.add i)=some u):Rd W W.heap.size size (some a) n xs:=by
 refine⟨hlen,fun h0=>?_⟩
 have hpos:0<xs.length:=by rw[hlen];exact Nat.mul_pos h0 hz
 obtain⟨u,hu⟩:∃ u,xs[0]?=some u:=⟨_,zL hpos⟩
 have h1:=hc 0 u hu
 have hsp:a.spot=none:=by
  have:(a.add 0)=a:=by simp[Addr.add]
  rw[this] at h1
  unfold World.cell? at h1
  split at h1
  ·cases hs:a.spot with
   |none=>rfl
   |some s=>rw[hs] at h1;simp at h1
  ·cases h1
 obtain⟨b,off,sp⟩:=a
 simp only at hsp
 subst hsp
 have hbl:b<W.heap.size:=by
  have:W.cell? ((⟨b,off,none⟩:Addr).add 0)=some u:=h1
  have h2:=World.block_lt_of_cell? W _ this
  simpa [Addr.add] using h2
 refine⟨b,off,rfl,hbl,fun j v hv=>?_⟩
 rw[←hc j v hv]
 unfold Addr.add
 split
 ·subst_vars;rfl
 ·rfl
theorem qig {fuel:Nat} {cs:List Value} {d:DataW H} {p:List MemPlace} (h:DataW.trod enc Tryz.prog W 0 (fun _=>true) true fuel 22 cs=some (d,p)) (hlt:∀ x∈p,x.block<W.heap.size) :
  ∃ A c bs,cs=[.slice A bs.length c]∧Bls W W.heap.size (.slice A bs.length c) bs:=by
 rcases open_slice1 Tryz.underlying22 Tryz.cc_bytes h with ⟨rfl,_⟩|⟨a,len,cap,m,n,V,D,Pl,rfl,_,hl,hm,hmm,hx,hel⟩
 ·exact⟨none,0,[],rfl,[],none,0,rfl,zM _,by simp[maxLen],Rd.none_,fun i u l hu=>by simp at hu⟩
 ·simp only[if_true] at hmm
  subst hmm
  have hp:p=MemPlace.row a m++(List.range m).flatMap Pl:=congrArg Prod.snd hx
  have hb:∀ i,i<len→∃ l:List UInt8,Bys W W.heap.size (V i) l:=fun i hi=>by
   obtain⟨_,h2⟩:=hel i (by omega)
   obtain⟨A,n',c',e,_,l,hby,_⟩:=Th Tryz.underlying26 Tryz.underlying5 Tryz.cc_u8 h2 (fun x hx'=>hlt x (by
    rw[hp]
    exact List.mem_append_right _ (List.mem_flatMap.2 ⟨i,List.mem_range.2 (by omega),hx'⟩)))
   simp only[List.cons.injEq,and_true] at e
   exact⟨l,by rw[e];exact hby⟩
  obtain⟨L,hL⟩:=choose_lt (α:=List UInt8) (p:=fun i l=>Bys W W.heap.size (V i) l) hb
  refine⟨some a,m,(List.range len).map L,by simp,(List.range len).map V,some a,m,by simp,by simpa using hl,hm,?_,fun i u l hu hll=>?_⟩
  ·rw[List.length_map,List.length_range]
   refine Ya (c:=m) hl (by simp) (fun x hx'=>hlt x (by rw[hp];exact List.mem_append_left _ hx')) (fun i u hu=>?_)
   have hi:i<len:=by
    have:=(List.getElem?_eq_some_iff.1 hu).1
    simpa using this
   rw[List.getElem?_map,List.getElem?_range hi] at hu
   cases hu
   exact(hel i (by omega)).1
  ·have hi:i<len:=by
    have:=(List.getElem?_eq_some_iff.1 hu).1
    simpa using this
   rw[List.getElem?_map,List.getElem?_range hi] at hu hll
   cases hu
   cases hll
   exact hL i hi
theorem rd_write {fuel:Nat} {cs:List Value} {d:DataW H} {p:List MemPlace} (h:DataW.trod enc Tryz.prog W 0 (fun _=>true) true fuel 130 cs=some (d,p)) (hlt:∀ x∈p,x.block<W.heap.size) :
  ∃ a A l c,cs=[.int .i64 a,.slice A l.length c]∧Bys W W.heap.size (.slice A l.length c) l∧(Lit.int .i64 a).wf=true:=by
 obtain⟨xs,n,hl,hxl,hp,hf⟩:=Vy Tryz.underlying130 h
 rw[Tryz.cc_write] at hl
 match cs,hl with
 | [c0,c1],_ =>
  match xs,hxl with
  | [y0,y1],_ =>
   have g0:_=some y0:=hf 0 3 0 1 rfl Tryz.cc_int
   have g1:_=some y1:=hf 1 26 1 1 rfl Tryz.cc_bytes
   simp only[List.drop,List.take] at g0 g1
   obtain⟨a,ea,_,wa⟩:=DataW.trod_int Tryz.underlying3 g0
   have hp2:p=y0.2++(y1.2++[]):=hp
   obtain⟨d1,p1⟩:=y1
   obtain⟨A,m,c,es,hmc,l,hb,hlen⟩:=Th Tryz.underlying26 Tryz.underlying5 Tryz.cc_u8 g1 (fun x hx=>hlt x (by rw[hp2];simp[hx]))
   simp only[List.cons.injEq,and_true] at ea es
   subst ea es hlen
   exact⟨a,A,l,c,rfl,hb,wa⟩
theorem qih {fuel:Nat} {cs:List Value} {d:DataW H} {p:List MemPlace} (h:DataW.trod enc Tryz.prog W 0 (fun _=>true) true fuel 23 cs=some (d,p)) (hlt:∀ x∈p,x.block<W.heap.size) :
  ∃ A c ws,cs=[.slice A ws.length c]∧Wrs W W.heap.size (.slice A ws.length c) ws:=by
 rcases open_slice Tryz.underlying23 h with ⟨rfl,_⟩|⟨a,len,cap,m,n,D,Pl,rfl,_,hl,hm,hmm,hx,hel⟩
 ·exact⟨none,0,[],rfl,[],rfl,⟨none,0,rfl,zM _,by simp[maxLen],Rd.none_⟩,fun p h=>by cases h⟩
 ·simp only[if_true] at hmm
  subst hmm
  rw[Tryz.cc_write] at hx hel
  have hp:p=MemPlace.row a (m*2)++(List.range m).flatMap Pl:=congrArg Prod.snd hx
  have hb:∀ i,i<len→∃ q:(Int×List UInt8)×Value,(∃ A c,q.2=.slice A q.1.2.length c)∧Bys W W.heap.size q.2 q.1.2∧W.cell? (a.add (i*2))=some (.int .i64 q.1.1)∧W.cell? (a.add (i*2+1))=some q.2:=fun i hi=>by
   obtain⟨cs',h1,h2⟩:=hel i (by omega)
   obtain⟨_,_,h3⟩:=World.cells?_some h1
   obtain⟨r,A,l,c,rfl,hby,_⟩:=rd_write h2 (fun x hx'=>hlt x (by
    rw[hp]
    exact List.mem_append_right _ (List.mem_flatMap.2 ⟨i,List.mem_range.2 (by omega),hx'⟩)))
   have e0:=h3 0 (by omega)
   have e1:=h3 1 (by omega)
   have ea:∀ j,(a.add (i*2)).add j=a.add (i*2+j):=fun j=>by
    unfold Addr.add
    repeat' split
    all_goals simp_all
    all_goals omega
   rw[ea] at e0 e1
   exact⟨((r,l),.slice A l.length c),⟨A,c,rfl⟩,hby,e0,e1⟩
  obtain⟨Q,hQ⟩:=choose_lt (α:=(Int×List UInt8)×Value) (p:=fun i q=>(∃ A c,q.2=.slice A q.1.2.length c)∧Bys W W.heap.size q.2 q.1.2∧W.cell? (a.add (i*2))=some (.int .i64 q.1.1)∧W.cell? (a.add (i*2+1))=some q.2) hb
  refine⟨some a,m,((List.range len).map Q).map (·.1),by simp,(List.range len).map Q,rfl,⟨some a,m,by simp,by simpa using hl,hm,?_⟩,fun q hq=>?_⟩
  ·rw[List.length_map,List.length_map,List.length_range]
   refine qcI (by rw[kK];simp) (by omega) (fun x hx'=>hlt x ?_) (fun j u hu=>?_)
   ·rw[hp]
    refine List.mem_append_left _ ?_
    unfold MemPlace.row at hx' ⊢
    rw[List.mem_map] at hx' ⊢
    obtain⟨k,hk,e⟩:=hx'
    exact⟨k,List.mem_range.2 (by have:=List.mem_range.1 hk;omega),e⟩
   ·have hj:j<len*2:=by
     have:=(List.getElem?_eq_some_iff.1 hu).1
     rw[kK] at this
     simpa using this
    obtain⟨c0,c1⟩:=VP ((List.range len).map Q) (j / 2) (by simp;omega)
    obtain⟨_,_,q0,q1⟩:=hQ (j / 2) (by omega)
    rcases(show j=j / 2*2∨j=j / 2*2+1 by omega) with e|e
    ·have hu':some u=some _:=(hu.symm.trans (congrArg (fun t=>(ZB ((List.range len).map Q))[t]?) e)).trans c0
     cases hu'
     rw[show a.add j=a.add (j / 2*2) from congrArg _ e,q0]
     simp
    ·have hu':some u=some _:=(hu.symm.trans (congrArg (fun t=>(ZB ((List.range len).map Q))[t]?) e)).trans c1
     cases hu'
     rw[show a.add j=a.add (j / 2*2+1) from congrArg _ e,q1]
     simp
  ·obtain⟨i,hi,rfl⟩:=List.mem_map.1 hq
   obtain⟨q0,q1,_⟩:=hQ i (List.mem_range.1 hi)
   exact⟨q0,q1⟩
theorem rd_ints {fuel:Nat} {cs:List Value} {d:DataW H} {p:List MemPlace} (h:DataW.trod enc Tryz.prog W 0 (fun _=>true) true fuel 30 cs=some (d,p)) (hlt:∀ x∈p,x.block<W.heap.size) :
  ∃ A c l,cs=[.slice A l.length c]∧Zn W W.heap.size (.slice A l.length c) l∧∀ a∈l,(Lit.int .i64 a).wf=true:=by
 rcases open_ints Tryz.underlying30 Tryz.underlying3 Tryz.cc_int h with ⟨rfl,_⟩|⟨a,len,cap,zs,rfl,_,hl,hm,hz,hx,hcell,hwf⟩
 ·exact⟨none,0,[],rfl,⟨none,0,rfl,zM _,by simp[maxLen],Rd.none_⟩,fun a h=>by cases h⟩
 ·simp only[if_true] at hz
  have hp:p=MemPlace.row a zs.length:=congrArg Prod.snd hx
  have hll:(zs.take len).length=len:=by rw[List.length_take];omega
  refine⟨some a,cap,zs.take len,by rw[hll],⟨some a,cap,rfl,by omega,hm,?_⟩,fun n hn=>hwf n (List.mem_of_mem_take hn)⟩
  rw[hll]
  refine Ya (c:=cap) hl (by simp;omega) (fun x hx'=>hlt x (by rw[hp,hz];exact hx')) (fun i u hu=>?_)
  rw[List.getElem?_map,List.getElem?_take] at hu
  split at hu
  ·rename_i hi
   rw[hcell i (by omega),←hu]
   simp[zL (show i<zs.length by omega)]
  ·cases hu
theorem rd_disk {fuel:Nat} {cs:List Value} {d:DataW H} {p:List MemPlace} (h:DataW.trod enc Tryz.prog W 0 (fun _=>true) true fuel 25 cs=some (d,p)) (hlt:∀ x∈p,x.block<W.heap.size) :
  ∃ A1 c1 A2 c2 bs ws,cs=[.slice A1 (List.length bs) c1,.slice A2 (List.length ws) c2]∧Bls W W.heap.size (.slice A1 bs.length c1) bs∧Wrs W W.heap.size (.slice A2 ws.length c2) ws:=by
 obtain⟨xs,n,hl,hxl,hp,hf⟩:=Vy Tryz.underlying25 h
 rw[Tryz.cc_disk] at hl
 match cs,hl with
 | [c0,c1],_ =>
  match xs,hxl with
  | [(d0,p0),(d1,p1)],_ =>
   have g0:_=some (d0,p0):=hf 0 22 0 1 rfl Tryz.cc_blocks
   have g1:_=some (d1,p1):=hf 1 23 1 1 rfl Tryz.cc_writes
   simp only[List.drop,List.take] at g0 g1
   have hp2:p=p0++(p1++[]):=hp
   obtain⟨A1,k1,bs,e1,h1⟩:=qig g0 (fun x hx=>hlt x (by rw[hp2];simp[hx]))
   obtain⟨A2,k2,ws,e2,h2⟩:=qih g1 (fun x hx=>hlt x (by rw[hp2];simp[hx]))
   simp only[List.cons.injEq,and_true] at e1 e2
   subst e1 e2
   exact⟨A1,k1,A2,k2,bs,ws,rfl,h1,h2⟩
theorem rd_store {fuel:Nat} {cs:List Value} {d:DataW H} {p:List MemPlace} (h:DataW.trod enc Tryz.prog W 0 (fun _=>true) true fuel 28 cs=some (d,p)) (hlt:∀ x∈p,x.block<W.heap.size) :
  ∃ A1 c1 A2 c2 A3 c3 A4 c4,∃ S:Sto,cs=[.slice A1 S.bs.length c1,.slice A2 S.ws.length c2,.slice A3 S.now.length c3,.slice A4 S.last.length c4]∧qP W W.heap.size (.slice A1 S.bs.length c1) (.slice A2 S.ws.length c2) (.slice A3 S.now.length c3) (.slice A4 S.last.length c4) S:=by
 obtain⟨xs,n,hl,hxl,hp,hf⟩:=Vy Tryz.underlying28 h
 rw[Tryz.cc_store] at hl
 match cs,hl with
 | [c0,c1,c2,c3],_ =>
  match xs,hxl with
  | [(d0,p0),(d1,p1),(d2,p2)],_ =>
   have g0:_=some (d0,p0):=hf 0 25 0 2 rfl Tryz.cc_disk
   have g1:_=some (d1,p1):=hf 1 26 2 1 rfl Tryz.cc_bytes
   have g2:_=some (d2,p2):=hf 2 26 3 1 rfl Tryz.cc_bytes
   simp only[List.drop,List.take] at g0 g1 g2
   have hp2:p=p0++(p1++(p2++[])):=hp
   obtain⟨A1,k1,A2,k2,bs,ws,e1,h1,h2⟩:=rd_disk g0 (fun x hx=>hlt x (by rw[hp2];simp[hx]))
   obtain⟨A3,n3,k3,e3,_,l3,h3,q3⟩:=Th Tryz.underlying26 Tryz.underlying5 Tryz.cc_u8 g1 (fun x hx=>hlt x (by rw[hp2];simp[hx]))
   obtain⟨A4,n4,k4,e4,_,l4,h4,q4⟩:=Th Tryz.underlying26 Tryz.underlying5 Tryz.cc_u8 g2 (fun x hx=>hlt x (by rw[hp2];simp[hx]))
   simp only[List.cons.injEq,and_true] at e1 e3 e4
   obtain⟨rfl,rfl⟩:=e1
   subst e3 e4 q3 q4
   exact⟨A1,k1,A2,k2,A3,k3,A4,k4,⟨bs,ws,l3,l4⟩,rfl,h1,h2,h3,h4⟩
theorem rd_pool {fuel:Nat} {cs:List Value} {d:DataW H} {p:List MemPlace} (h:DataW.trod enc Tryz.prog W 0 (fun _=>true) true fuel 32 cs=some (d,p)) (hlt:∀ x∈p,x.block<W.heap.size) :
  ∃ A1 c1 A2 c2 A3 c3 A4 c4 gen root next A5 c5,∃ (S:Sto) (dead:List Int),cs=(qC (.slice A1 S.bs.length c1) (.slice A2 S.ws.length c2) (.slice A3 S.now.length c3) (.slice A4 S.last.length c4) gen root next (.slice A5 dead.length c5)).toList ∧
   qP W W.heap.size (.slice A1 S.bs.length c1) (.slice A2 S.ws.length c2) (.slice A3 S.now.length c3) (.slice A4 S.last.length c4) S∧Zn W W.heap.size (.slice A5 dead.length c5) dead ∧
   (Lit.int .u32 gen).wf=true∧(Lit.int .i64 root).wf=true∧(Lit.int .u32 next).wf=true∧∀ a∈dead,(Lit.int .i64 a).wf=true:=by
 obtain⟨xs,n,hl,hxl,hp,hf⟩:=Vy Tryz.underlying32 h
 rw[Tryz.cc_pool] at hl
 match cs,hl with
 | [c0,c1,c2,c3,c4,c5,c6,c7],_ =>
  match xs,hxl with
  | [(d0,p0),(d1,p1),(d2,p2),(d3,p3),(d4,p4)],_ =>
   have g0:_=some (d0,p0):=hf 0 28 0 4 rfl Tryz.cc_store
   have g1:_=some (d1,p1):=hf 1 29 4 1 rfl Tryz.cc_u32
   have g2:_=some (d2,p2):=hf 2 3 5 1 rfl Tryz.cc_int
   have g3:_=some (d3,p3):=hf 3 29 6 1 rfl Tryz.cc_u32
   have g4:_=some (d4,p4):=hf 4 30 7 1 rfl Tryz.cc_ints
   simp only[List.drop,List.take] at g0 g1 g2 g3 g4
   have hp2:p=p0++(p1++(p2++(p3++(p4++[])))):=hp
   obtain⟨A1,k1,A2,k2,A3,k3,A4,k4,S,e0,hS⟩:=rd_store g0 (fun x hx=>hlt x (by rw[hp2];simp[hx]))
   obtain⟨gen,e1,_,w1⟩:=DataW.trod_int Tryz.underlying29 g1
   obtain⟨root,e2,_,w2⟩:=DataW.trod_int Tryz.underlying3 g2
   obtain⟨next,e3,_,w3⟩:=DataW.trod_int Tryz.underlying29 g3
   obtain⟨A5,k5,dead,e4,hd,w4⟩:=rd_ints g4 (fun x hx=>hlt x (by rw[hp2];simp[hx]))
   simp only[List.cons.injEq,and_true] at e0 e1 e2 e3 e4
   obtain⟨rfl,rfl,rfl,rfl⟩:=e0
   subst e1 e2 e3 e4
   exact⟨A1,k1,A2,k2,A3,k3,A4,k4,gen,root,next,A5,k5,S,dead,rfl,hS,hd,w1,w2,w3,w4⟩
end
end Go.Proofs.YtpbniokljofedaaGreat
namespace Go.Proofs.YtpbniokljofedaaGreat.snapFew
set_option linter.unusedSimpArgs false
set_option linter.unusedVariables false
open Go.ChangeShapes Go.WideShapes Go.ChangeAt Go.RowKit
theorem own:ownKnob Tryz.prog.godebug=none:=by kernel_rfl
theorem u32_of {n:Int} (h:(Lit.int .u32 n).wf=true):0≤n∧n<4294967296:=by
 have h2:IntKind.u32.min≤n∧n≤IntKind.u32.max:=by simpa [Lit.wf] using h
 simp[IntKind.min,IntKind.max,IntKind.bits,IntKind.signed] at h2
 omega
theorem laidOut:laidOutB Tryz.prog=true:=by kernel_rfl
set_option maxRecDepth 100000 in
theorem lifted (os:Os) (started:os.Started) (H:Type) (enc:TypeId×Value→H) :
  ReturnsInHanded {} Tryz.checked os 7 .any (Rows.snapFewSpec.pre6 enc Tryz.prog Tryz.f7 Rows.snapFewRow.domain false) (Rows.snapFewSpec.post enc Tryz.prog Tryz.f7 false true false false):=by
 refine returnsInHanded_of_change (C:=Tryz.checked) own started (by kernel_rfl) Tryz.func7
  (ChangeSpec.witness6 (enc:=enc) (C:=Tryz.checked) false ⟨#[],#[.agg (qC (.slice none 0 0) (.slice none 0 0) (.slice none 0 0) (.slice none 0 0) 0 0 0 (.slice none 0 0)),.int .u32 0,.bool false],[]⟩ 8 (by kernel_rfl) (by kernel_rfl) (by kernel_rfl) (by kernel_rfl)) ?_
 intro W base args ds gs before hval0 hW hcnd _
 have hval:∀ (j:Nat) t v,Tryz.f7.params[j]?=some t→args[j]?=some v→Value.okWide Tryz.prog W .any base t v:=hval0
 have hW':=hW
 have hlt:∀ x∈before,x.block<W.heap.size:=fun x hx=>hW.lt x hx
 obtain⟨p,q,hA0,hV,rfl,hfz,hnd⟩:=hW
 have hA:DataW.TrodAll enc Tryz.prog W 0 (fun _=>true) true Tryz.f7.params.toList args.toList ds p:=hA0
 rw[Tryz.params7] at hA hval
 obtain⟨v0,vs0,d0,ds0,p0,q0,hargs,rfl,rfl,h0,r0⟩:=trodAll_cons hA
 obtain⟨v1,vs1,d1,ds1,p1,q1,rfl,rfl,rfl,h1,r1⟩:=trodAll_cons r0
 obtain⟨v2,vs2,d2,ds2,p2,q2,rfl,rfl,rfl,h2,r2⟩:=trodAll_cons r1
 obtain⟨rfl,rfl,rfl⟩:=trodAll_nil r2
 obtain rfl:args=#[v0,v1,v2]:=by cases args;simp_all
 obtain⟨rfl,rfl⟩:=trodVars_none hV
 obtain⟨cs0,rfl,_⟩:=okWide_struct Tryz.underlying32 (hval 0 32 v0 rfl rfl)
 obtain⟨id,rfl⟩:=okWide_int Tryz.underlying29 (hval 1 29 v1 rfl rfl)
 obtain⟨fz,rfl⟩:=okWide_bool Tryz.underlying4 (hval 2 4 v2 rfl rfl)
 obtain⟨n0,h0⟩:=h0
 obtain⟨n1,h1⟩:=h1
 have hid:0≤id∧id<4294967296:=by
  obtain⟨id',e1,_,w1⟩:=DataW.trod_int Tryz.underlying29 h1
  cases e1
  exact u32_of w1
 obtain⟨A1,c1,A2,c2,A3,c3,A4,c4,gen,root,next,A5,c5,S,dead,e0,hS,hd,_,_,wn,_⟩:=rd_pool h0 (fun x hx=>hlt x (by simp[hx]))
 have e0':cs0=qC (.slice A1 S.bs.length c1) (.slice A2 S.ws.length c2) (.slice A3 S.now.length c3) (.slice A4 S.last.length c4) gen root next (.slice A5 dead.length c5):=by
  obtain⟨cs0⟩:=cs0
  have:cs0=_:=e0
  rw[this]
 subst e0'
 have walk:Calls Tryz.prog 7 #[.agg (qC (.slice A1 S.bs.length c1) (.slice A2 S.ws.length c2) (.slice A3 S.now.length c3) (.slice A4 S.last.length c4) gen root next (.slice A5 dead.length c5)),.int .u32 id,.bool fz] W (Ret (.bool true) W):=sfew_any A1 _ c1 A2 _ c2 A3 _ c3 A4 _ c4 gen root next A5 c5 S dead id fz hid (u32_of wn) W hS hd
 refine walk.mono fun e W' ⟨he,hB⟩=>?_
 subst he
 exact⟨_,rfl,law_post rfl laidOut rfl Tryz.underlying4 (by
  intro t ht
  have:t=32∨t=29∨t=4:=by rw[Tryz.params7] at ht;simpa using ht
  rcases this with rfl|rfl|rfl
  ·exact⟨by kernel_rfl,of_decide_eq_true (by kernel_rfl)⟩
  ·exact⟨by kernel_rfl,of_decide_eq_true (by kernel_rfl)⟩
  ·exact⟨by kernel_rfl,of_decide_eq_true (by kernel_rfl)⟩) hW' rfl hB⟩
theorem over:Rows.snapFewRow.holds Tryz.pinned (OpenSpec.ofChange Rows.snapFewSpec):=
 OpenClaim.holds_of_wide 7 Tryz.f7 rfl rfl rfl rfl rfl rfl rfl ⟨rfl,rfl,rfl,rfl,rfl⟩ rfl rfl rfl rfl rfl (by kernel_rfl) Tryz.func7 (by kernel_rfl)
  (of_decide_eq_true (by kernel_rfl)) (by unfold Func.isWrapper;first|(rw[if_pos (by decide +kernel)];kernel_rfl)|(rw[if_neg (by decide +kernel)];exact⟨rfl,rfl⟩))
  (fun os started H enc _=>lifted os started H enc)
theorem proved:Rows.SnapFewSaid:=over
end Go.Proofs.YtpbniokljofedaaGreat.snapFew
