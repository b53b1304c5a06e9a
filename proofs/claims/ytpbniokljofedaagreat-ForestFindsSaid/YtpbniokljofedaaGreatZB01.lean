/- scionrylaw14.ForestFinds is true of every pool and every number, and leaves its arguments as they were; no condition. -/
import Derived.Deep.CutBlock
import Derived.Test.YtpbniokljofedaaGreatZA04
import Derived.Test.YtpbniokljofedaaGreatZA18
import Derived.Test.YtpbniokljofedaaGreatZA27
import Derived.Test.YtpbniokljofedaaGreatZA28
set_option linter.unusedSimpArgs false
set_option linter.unusedVariables false
namespace Go.Proofs.YtpbniokljofedaaGreat
open Go.RowKit
structure qap (n:Nat) (A:Array Bool) (m:Nat):Prop where
 size:A.size=n
 at_:∀ j,j<n→A[j]?=some (m.testBit j)
 out:∀ j,n≤j→m.testBit j=false
theorem qap.none_ (n:Nat):qap n (Array.replicate n false) 0:=
 ⟨by simp,fun j hj=>by rw[Array.getElem?_replicate,if_pos hj,Nat.zero_testBit],fun j _=>Nat.zero_testBit j⟩
theorem qap.getT {n m:Nat} {A:Array Bool} (h:qap n A m) {j:Nat} (hj:j<n) (d:Bool):A.getD j d=m.testBit j:=by
 rw[Array.getD_eq_getD_getElem?,h.at_ j hj]
 rfl
theorem qap.set {n m:Nat} {A:Array Bool} (h:qap n A m) {k:Nat} (hk:k<n):qap n (A.setIfInBounds k true) (m ||| 2 ^ k):=by
 refine⟨by simpa using h.size,fun j hj=>?_,fun j hj=>?_⟩
 ·rw[Nat.testBit_or,Nat.testBit_two_pow]
  by_cases e:k=j
  ·subst e
   rw[Array.getElem?_setIfInBounds_self_of_lt (by rw[h.size];exact hk)]
   simp
  ·rw[Array.getElem?_setIfInBounds_ne e,h.at_ j hj]
   simp[e]
 ·rw[Nat.testBit_or,Nat.testBit_two_pow,h.out j hj]
  simp
  omega
def freeN (ops:Array Oper) (oi:Oper) (k m:Nat):Nat→List Oper→Bool
 |_,[]=>true
 |j,oj :: r=>(j == k || m.testBit j || oj.after.any (fun e=>Region.binds .any e && e.on == k) || oi.apart ops oj) && freeN ops oi k m (j+1) r
theorem qbY {ops:Array Oper} {oi:Oper} {k m:Nat}:∀ (l:List Oper) (j:Nat),freeN ops oi k m j l=true→∀ i o,l[i]?=some o→(j+i == k || m.testBit (j+i) || o.after.any (fun e=>Region.binds .any e && e.on == k) || oi.apart ops o)=true
 | [],_,_,i,o,h=>by simp at h
 |x :: r,j,h,i,o,ho=>by
  simp only[freeN,Bool.and_eq_true] at h
  rcases i with _|i
  ·simp only[List.getElem?_cons_zero,Option.some.injEq] at ho
   subst ho
   exact h.1
  ·have:=qbY r (j+1) h.2 i o (by simpa using ho)
   rwa [show j+1+i=j+(i+1) by omega] at this
def lexN (l:List Oper) (fin:Nat):List Nat→Nat→Bool
 | [],m=>m == fin
 |k :: r,m=>!m.testBit k && (match l[k]? with
  |some o=>o.after.toList.all (fun e=>!Region.binds .any e || m.testBit e.on) && freeN l.toArray o k m 0 l
  |none=>false) && lexN l fin r (m ||| 2 ^ k)
theorem qcm {l:List Oper} {L:Array Bool} {fin:Nat} (hL:qap l.length L fin):∀ (ks:List Nat) (A:Array Bool) (m:Nat),qap l.length A m→lexN l fin ks m=true→Zy l.toArray L ks A=true
 | [],A,m,hA,h=>by
  simp only[lexN,beq_iff_eq] at h
  subst h
  simp only[Zy,beq_iff_eq]
  refine Array.ext_getElem? fun j=>?_
  by_cases hj:j<l.length
  ·rw[hA.at_ j hj,hL.at_ j hj]
  ·rw[Array.getElem?_eq_none (by rw[hA.size];omega),Array.getElem?_eq_none (by rw[hL.size];omega)]
 |k :: r,A,m,hA,h=>by
  simp only[lexN,Bool.and_eq_true,Bool.not_eq_true'] at h
  obtain⟨⟨h0,h1⟩,h2⟩:=h
  split at h1
  ·rename_i o ho
   simp only[Bool.and_eq_true] at h1
   obtain⟨h1,h3⟩:=h1
   have hk:k<l.length:=(List.getElem?_eq_some_iff.1 ho).1
   have hoA:l.toArray[k]?=some o:=by simpa using ho
   simp only[Zy,Bool.and_eq_true]
   refine⟨⟨?_,?_⟩,qcm hL r _ _ (hA.set hk) h2⟩
   ·have:k∈Region.ready .any l.toArray A:=mem_ready.2 ⟨by rw[hA.getT hk,h0],o,hoA,fun e he hb=>by
     have h4:=List.all_eq_true.1 h1 e (by simpa using he)
     rw[hb] at h4
     simp only[Bool.not_true,Bool.false_or] at h4
     by_cases hj:e.on<l.length
     ·rw[hA.getT hj,h4]
     ·rw[hA.out e.on (by omega)] at h4
      cases h4⟩
    simpa using this
   ·unfold Region.free
    rw[hoA]
    simp only[List.all_eq_true,List.mem_range]
    intro j hj
    have hj':j<l.length:=by simpa using hj
    have h4:=qbY l 0 h3 j l[j] (List.getElem?_eq_getElem hj')
    rw[Nat.zero_add] at h4
    rw[hA.getT hj',List.getElem?_toArray,List.getElem?_eq_getElem hj']
    simp only
    simp only[Bool.or_eq_true] at h4 ⊢
    rcases h4 with ((h4|h4)|h4)|h4
    ·exact .inl (.inl h4)
    ·exact .inl (.inr h4)
    ·exact .inr (.inl h4)
    ·exact .inr (.inr h4)
  ·cases h1
theorem qap.listed (n m:Nat) (h:m≤n):qap n (QU n m) (2 ^ m-1):=by
 refine⟨by simp[QU],fun j hj=>?_,fun j hj=>?_⟩
 ·unfold QU
  rw[List.getElem?_toArray,List.getElem?_map,List.getElem?_range hj,Nat.testBit_two_pow_sub_one]
  rfl
 ·rw[Nat.testBit_two_pow_sub_one]
  simp
  omega
theorem qdn {P:Program} {l:List Oper} {Q:Exit→Act→World→Prop} {fuel:Nat} {a:Act} {w W:World} (R:Rel) (H:Nat→Option qO) (M:List Bool) (t:Nat)
  (hs:Region.noSelect l.toArray=true) (ht:tailT l.toArray (QU l.length (l.length-t)) ((qp 0 l M).map (·.1))=true) (hc0:Yz l.toArray (Array.replicate l.length false)=true) (hB:lexN l (2 ^ (l.length-t)-1) ((qp 0 l M).map (·.1)) 0=true)
  (hseq:XH l.toArray t (l.length-t) (QU l.length (l.length-t))=true) (hfu:fuel=(qp 0 l M).length+t) (htl:(l.drop (l.length-t)).length=t)
  (hH:∀ i h,H i=some h→∀ p,qA R (h.φ p)) (hW:R.r w W)
  (h:∀ K:Act→qE→Prop,(∀ a' F',(∀ W,R.r w W→(∀ k,F' k W)→wpList P l.toArray Q (l.drop (l.length-t)) a' W)→K a' F')→ZN R P l.toArray w H K (qp 0 l M) a (fun _ _=>True)):wpAny P .any l.toArray Q fuel (Array.replicate l.length false) a W:=
 qR R H M t hs ht hc0 (qcm (qap.listed _ _ (Nat.sub_le _ _)) _ _ _ (qap.none_ _) hB) hseq hfu htl hH hW h
theorem volQ_eq (o:Option Vol):volQ o=.tuple #[Kh (o.getD vol0),.int .i64 (if o.isSome then 0 else 6)]:=by cases o <;> rfl
structure FdI (vs:List Vol) (id:Int) (w7:World) (t i:Value) (wr:World):Prop where
 ex:∃ k:Nat,k≤vs.length∧i=.int .i64 (k:Int)∧t=.bool ((vs.take k).any fun v=>decide (v.id=id))∧Ext w7 wr
theorem qdg (vs:List Vol) (id:Int):(VE vs id).isSome=vs.any fun v=>decide (v.id=id):=by
 unfold VE
 induction vs with
 |nil=>rfl
 |cons a r ih =>
  rw[List.find?_cons,List.any_cons]
  cases hd:decide (a.id=id)
  ·simp only[Bool.false_or];exact ih
  ·rfl
theorem Taken.may_ {S:Sto} {root next:Int} {dead:List Int} {vs:List Vol} {refs nodes:Nat→Nat} {lo cb:Nat} {ca:Array Value} {vv:Value} {w:World} (h:Taken S root next dead vs refs nodes lo cb ca vv w):qo S=true:=h.pool.may
theorem meas1 {n k:Nat} (h:k<n):n-(intOf (.int .i64 ((k:Int)+1))).toNat<n-(intOf (.int .i64 (k:Int))).toNat:=by simp[intOf];omega
theorem qaV {R:Ending→World→Prop} {a:Act} {W:World} {u:Value} (h4:a.tmps[4]?.getD undef=u) (hd:a.defers=[]) (hR:R (.returned u) W):bodyPost Tryz.prog Tryz.f3 R .ret a W:=by
 refine bodyPost_ret (v:=u) ?_ hd hR
 simp[results,Tryz.results3,go_sem,h4]
set_option maxHeartbeats 8000000 in
set_option maxRecDepth 100000 in
theorem qcC (A1:Option Addr) (n1 c1:Nat) (A2:Option Addr) (n2 c2:Nat) (A3:Option Addr) (n3 c3:Nat) (A4:Option Addr) (n4 c4:Nat) (gen root next:Int) (A5:Option Addr) (c5:Nat) (S:Sto) (dead:List Int) (id:Int) (w:World)
  (h:Qc w w.heap.size (.slice A1 n1 c1) (.slice A2 n2 c2) (.slice A3 n3 c3) (.slice A4 n4 c4) S) (hd:Zu w w.heap.size (.slice A5 dead.length c5) dead) :
  Calls Tryz.prog 3 #[.agg (Qo (.slice A1 n1 c1) (.slice A2 n2 c2) (.slice A3 n3 c3) (.slice A4 n4 c4) gen root next (.slice A5 dead.length c5)),.int .u32 id] w (Ret (.bool true) w):=by
 have HG:=zH (fun W (hx:Ext w W)=>great14_any A1 n1 c1 A2 n2 c2 A3 n3 c3 A4 n4 c4 gen root next A5 dead.length c5 S W (h.ext hx))
 have HV:=zH (fun W (hx:Ext w W)=>fvols_any A1 n1 c1 A2 n2 c2 A3 n3 c3 A4 n4 c4 gen root next A5 c5 S dead W (h.ext hx) (hd.ext_ hx))
 have HO:=zH (fun (i:Int) W (hx:Ext w W)=>fvol_any A1 n1 c1 A2 n2 c2 A3 n3 c3 A4 n4 c4 gen root next A5 c5 S dead i W (h.ext hx) (hd.ext_ hx))
 have HR:=zH (fun W (hx:Ext w W)=>refs_any A1 n1 c1 A2 n2 c2 A3 n3 c3 A4 n4 c4 gen root next A5 c5 S dead W (h.ext hx) (hd.ext_ hx))
 replace h:=zH h
 replace hd:=zH hd
 go_enter Tryz.func3,Tryz.ntmps3
 go_wp2_with fail
 generalize hw1:World.alloc w _=w1
 have x1:Ext w w1:=by rw[←hw1];exact Ext.alloc _ _
 have rp1:w1.heap[w.heap.size]?=some (.cells (Qo (.slice A1 n1 c1) (.slice A2 n2 c2) (.slice A3 n3 c3) (.slice A4 n4 c4) gen root next (.slice A5 dead.length c5)) 32 (0,0)):=by rw[←hw1];exact World.alloc_heap_at _ _ _ rfl
 clear hw1
 refine(alive14_any w1).mono ?_
 rintro e w2 ⟨rfl,hB⟩
 have x2:Ext w w2:=x1.trans hB
 have rp2:=qc rp1 hB
 have kp2:=qa rp2
 clear hB rp1 x1
 go_wp2_with fail
 refine(HG.out w2 x2).mono ?_
 clear HG
 rintro e w3 ⟨rfl,hB⟩
 have x3:Ext w w3:=x2.trans hB
 have rp3:=qc rp2 hB
 have kp3:=qa rp3
 clear hB rp2 x2 kp2
 cases hgr:greatP S dead.length
 case true =>
  go_wp2_with fail
  exact qaV rfl rfl ⟨rfl,x3⟩
 case false =>
  replace hgr:=zH hgr
  go_wp2_with fail
  refine(HV.out w3 x3).mono ?_
  clear HV
  rintro e w4 ⟨hB,hQ⟩
  have x4:Ext w w4:=x3.trans hB
  have rp4:=qc rp3 hB
  have kp4:=qa rp4
  clear hB rp3 x3 kp3
  rcases hQ with ⟨rfl,hno⟩|⟨vs,refs,nodes,cb,ca,vv,lo,rfl,hlo,hT⟩
  ·replace hno:=zH hno
   go_wp2_with fail
   refine(HO.out id w4 x4).mono ?_
   clear HO
   rintro e w5 ⟨hB,hQ⟩
   have x5:Ext w w5:=x4.trans hB
   have rp5:=qc rp4 hB
   have kp5:=qa rp5
   have zp5:w.heap.size<w5.heap.size:=(zG.1 rp5).1
   clear hB rp4 x4 kp4
   rcases hQ with ⟨rfl,-⟩|⟨vs,refs,nodes,hp,hc,he,rfl⟩
   case inr=>exact(vH.no hno.out hp hc he).elim
   case inl =>
    go_wp2_with fail
    generalize hw6:World.alloc w5 _=w6
    have x56:Ext w5 w6:=by rw[←hw6];exact Ext.alloc _ _
    clear hw6
    have x6:Ext w w6:=x5.trans x56
    refine(HR.out w6 x6).mono ?_
    clear HR
    rintro e w7 ⟨hB,hQ⟩
    have x7:Ext w w7:=x6.trans hB
    clear hB rp5 x5 kp5 x6 x56
    rcases hQ with ⟨rfl,-⟩|⟨vs,refs,nodes,cb,ca,vv,lo,rfl,hlo,hT⟩
    case inr=>exact(vH.no hno.out hT.pool hT.cnt hT.enough).elim
    case inl =>
     go_wp2_with fail
     exact qaV rfl rfl ⟨rfl,x7⟩
  ·have hlaw:=pool_lawV hT.pool hT.cnt hT.enough
   have hl16:=hlaw.len
   obtain⟨r0,rfl,hr8,hr256,hr1⟩:=hlaw.top
   obtain⟨AV,cV,rfl,hcv1,hcv2⟩:=qJ hT.own
   clear hcv1 hcv2
   have hrd:=zH (Rd.of_own hT.own)
   have hT0:=zH hT
   replace hlaw:=zH hlaw
   clear hT
   go_wp2_with fail
   refine(HO.out id w4 x4).mono ?_
   rintro e w5 ⟨hB,hQ⟩
   have x45:Ext w4 w5:=hB
   have x5:Ext w w5:=x4.trans hB
   have rp5:=qc rp4 hB
   have kp5:=qa rp5
   have zp5:w.heap.size<w5.heap.size:=(zG.1 rp5).1
   clear hB rp4 x4 kp4
   rcases hQ with ⟨rfl,hbad⟩|⟨vs',refs',nodes',hp',hc',he',rfl⟩
   case inl=>exact(vH.no hbad hT0.out.pool hT0.out.cnt hT0.out.enough).elim
   case inr =>
    obtain⟨rfl,rfl,-⟩:=QT.unique hT0.out.pool hT0.out.cnt hp' hc'
    rw[volQ_eq]
    clear hp' hc' he'
    obtain⟨vf,hvf⟩:∃ vf,(VE vs' id).getD vol0=vf:=⟨_,rfl⟩
    obtain⟨ef,hef⟩:∃ ef:Int,(if (VE vs' id).isSome then 0 else 6)=ef:=⟨_,rfl⟩
    rw[hvf,hef]
    replace hvf:=zH hvf
    replace hef:=zH hef
    go_wp2_with fail
    generalize hw6:World.alloc w5 _=w6
    have x56:Ext w5 w6:=by rw[←hw6];exact Ext.alloc _ _
    have rf6:w6.heap[w5.heap.size]?=some (.cells #[.int .u32 vf.id,.int .i64 vf.root,.bool vf.fz,.int .u32 vf.frm] 40 (0,0)):=by rw[←hw6];exact World.alloc_heap_at _ _ _ (by simp)
    clear hw6
    have x6:Ext w w6:=x5.trans x56
    have rp6:=qc rp5 x56
    refine(HR.out w6 x6).mono ?_
    clear HR
    rintro e w7 ⟨hB,hQ⟩
    have x47:Ext w4 w7:=(x45.trans x56).trans hB
    have x7:Ext w w7:=x6.trans hB
    have rp7:=qc rp6 hB
    have rf7:=qc rf6 hB
    clear hB rp5 x5 kp5 x6 x56 x45 rp6 rf6
    rcases hQ with ⟨rfl,hbad⟩|⟨vs,refs,nodes2,cb2,ca2,vv2,lo2,rfl,hlo2,hT2⟩
    case inl=>exact(vH.no hbad hT0.out.pool hT0.out.cnt hT0.out.enough).elim
    case inr =>
     obtain⟨rfl,rfl,-⟩:=QT.unique hT0.out.pool hT0.out.cnt hT2.pool hT2.cnt
     have hrc:Hid (∀ a,a<256→w7.cell? ⟨cb2,6+a,none⟩=some (.int .i64 (refs a:Int))):=zH fun a ha=>(qa hT2.row (6+a)).trans (hT2.ar.ref a ha)
     have hr0c:=hrc.out r0 hr256
     have kp7:=qa rp7
     have d1:decide ((vs.length:Int)>16)=false:=decide_eq_false (by omega)
     have d2:decide (16<vs.length)=false:=decide_eq_false (by omega)
     have d3:decide ((refs r0:Int)<1)=false:=decide_eq_false (by omega)
     have d4:decide (refs r0<1)=false:=decide_eq_false (by omega)
     replace hT0:=zH hT0
     clear hT2 hlo2
     go_wp2_with fail
     go_loopw [12,13] (fun t i wr=>FdI vs id w7 t i wr) (fun _ i _=>vs.length-(intOf i).toNat)
     case atStart=>exact⟨0,Nat.zero_le _,rfl,rfl,Ext.refl _⟩
     case round =>
      obtain⟨k,hk,rfl,rfl,xr⟩:=hrel.ex
      clear hrel
      have rpr:=qc rp7 xr
      have kpr:=qa rpr
      by_cases hlt:k<vs.length
      ·obtain⟨bv,offv,rfl,hbv,hcel⟩:=hrd.out.2 (by omega)
       obtain⟨d0,d1',d2',d3'⟩:=kY vs k hlt
       replace d0:=Ext.cell (x47.trans xr) (hcel _ _ d0)
       replace d1':=Ext.cell (x47.trans xr) (hcel _ _ d1')
       replace d2':=Ext.cell (x47.trans xr) (hcel _ _ d2')
       replace d3':=Ext.cell (x47.trans xr) (hcel _ _ d3')
       have hprev:k=0∨∃ k' pid,k=k'+1∧wr.cell? ⟨bv,offv+k'*4,none⟩=some (.int .u32 pid)∧pid<vs[k].id:=by
        rcases Nat.eq_zero_or_pos k with h0|h0
        ·exact .inl h0
        ·obtain⟨k',rfl⟩:∃ k',k=k'+1:=⟨k-1,by omega⟩
         exact .inr ⟨k',vs[k'].id,rfl,Ext.cell (x47.trans xr) (hcel _ _ (kY vs k' (by omega)).1),List.pairwise_iff_getElem.1 hlaw.out.rise k' (k'+1) (by omega) hlt (by omega)⟩
       obtain⟨hn1,hn2⟩:=hlaw.out.num _ (List.getElem_mem hlt)
       obtain⟨rk,hrk,hk8,hk256,hkr⟩:=hlaw.out.at_ _ (List.getElem_mem hlt)
       have hvo:=zH (volOf_at hlaw.out.rise hlt)
       have hany:Hid (((vs.take (k+1)).any fun v=>decide (v.id=id))=(((vs.take k).any fun v=>decide (v.id=id)) || decide (vs[k].id=id))):=zH (by rw[List.take_succ_eq_append_getElem hlt,List.any_append];simp)
       have hof:=zH (fun (e:vs[k].id=id)=>(by have:=hvf.out;rw[←e,hvo.out] at this;exact this.symm:vf=vs[k]))
       have HOk:=zH (fun W (hx:Ext wr W)=>HO.out vs[k].id W ((x7.trans xr).trans hx))
       generalize vs[k]=u at *
       obtain⟨ui,ur,uf,um⟩:=u
       simp only at hrk hn1 hn2 d0 d1' d2' d3'
       subst hrk
       rw[←Nat.add_assoc] at d1' d2' d3'
       have hkc:=hrc.out rk hk256
       replace hvo:=zH hvo.out
       have gP:∀ W,ql.r wr W→∀ i,W.cell? ⟨w.heap.size,i,none⟩=(Qo (.slice A1 n1 c1) (.slice A2 n2 c2) (.slice A3 n3 c3) (.slice A4 n4 c4) gen (r0:Int) next (.slice A5 dead.length c5))[i]?:=fun W h=>qa (qc rpr h)
       have g0:∀ W,ql.r wr W→W.cell? ⟨bv,offv+k*4,none⟩=some (.int .u32 ui):=fun W h=>Ext.cell h d0
       clear kpr
       go_upto_block 1 with fail
       go_cut [12] (fun s wx=>s=.bool ((vs.take (k+1)).any fun v=>decide (v.id=id))∧Ext wr wx)
       case rest =>
        obtain⟨rfl,hV2⟩:=hcut
        have xZ:=zH (xr.trans hV2)
        have hltH:=zH hlt
        have hwk:=zH (IntWalk.wrap64_in ((k:Int)+1) (by omega))
        clear hV2
        go_wp2_with fail
        exact⟨⟨k+1,hltH.out,rfl,rfl,xZ.out⟩,meas1 hltH.out⟩
       case first =>
        go_upto_region 15 with fail
        refine qm (by kernel_rfl) ?_
        refine Yg 11 9 (by exact rfl) (by kernel_rfl) rfl rfl (by kernel_rfl) (by kernel_rfl) (by kernel_rfl) (by kernel_rfl) ?_
        dsimp only[ZY,Array.push,List.push_toArray,List.concat_eq_append]
        refine qR (w:=wr) ql (qG [(6,one (.tuple #[Kh ⟨ui,(rk:Int),uf,um⟩,.int .i64 0])),(10,jg wr.heap.size 40 #[.int .u32 0,.int .i64 0,.bool false,.int .u32 0])]) (List.replicate 11 true) 2 (by kernel_rfl) (by kernel_rfl) (by kernel_rfl) (by kernel_rfl) (by kernel_rfl) (by kernel_rfl) (by kernel_rfl) ?st (Rel.drew _ _) ?walk
        case st=>exact qk (by simp only[List.forall_mem_cons];exact⟨fun _ _ _ _ _=>trivial,fun p=>Qw (Zt _ _ _ p),fun _ h=>by cases h⟩)
        case walk =>
         intro K hK
         dsimp only[qp,List.replicate]
         repeat ((first|(refine qd ?_ (by rfl) (by rfl) (fun W hW _=>⟨W,?_,Rel.refl _ W⟩) ?_;rotate_left;(first|(go_simp;with_reducible rfl)|(go_simp;done)))|(refine qh (by rfl) ?_));try simp only[Act.put,qi,qe,qb,qf,qb,zA,zB,zC])
         refine qy (one (.tuple #[Kh ⟨ui,(rk:Int),uf,um⟩,.int .i64 0])) (by rfl) (by rfl) (fun W hW _=>?_) (fun (p:Unit)=>?_)
         ·have hW:Ext wr W:=hW
          refine Qe ?_ ((HOk.out W hW).mono fun e w' h=>?_)
          ·go_simp
          obtain⟨hB,hQ⟩:=h
          rcases hQ with ⟨rfl,hbad⟩|⟨vs',refs',nodes',hp',hc',he',rfl⟩
          ·exact(vH.no hbad hT0.out.out.pool hT0.out.out.cnt hT0.out.out.enough).elim
          ·obtain⟨rfl,rfl,-⟩:=QT.unique hT0.out.out.pool hT0.out.out.cnt hp' hc'
           rw[hvo.out]
           exact⟨(),rfl,trivial,hB⟩
         simp only[Act.put,qi,qe,qb,qf,qb,zA,zB,zC]
         repeat ((first|(refine qd ?_ (by rfl) (by rfl) (fun W hW _=>⟨W,?_,Rel.refl _ W⟩) ?_;rotate_left;(first|(go_simp;with_reducible rfl)|(go_simp;done)))|(refine qh (by rfl) ?_));try simp only[Act.put,qi,qe,qb,qf,qb,zA,zB,zC])
         refine qy (jg wr.heap.size 40 #[.int .u32 0,.int .i64 0,.bool false,.int .u32 0]) (by rfl) (by rfl) (fun W hW _=>?_) (fun (p11:Nat)=>?_)
         ·refine jh ?_ (Below.size hW)
          go_simp
         simp only[Act.put,qi,qe,qb,qf,qb,zA,zB,zC]
         repeat ((first|(refine qd ?_ (by rfl) (by rfl) (fun W hW _=>⟨W,?_,Rel.refl _ W⟩) ?_;rotate_left;(first|(go_simp;with_reducible rfl)|(go_simp;done)))|(refine qh (by rfl) ?_));try simp only[Act.put,qi,qe,qb,qf,qb,zA,zB,zC])
         refine qt (hK _ _ fun W hW hF=>?_)
         obtain⟨f11,hlo⟩:W.heap[p11]?=some (.cells #[.int .u32 0,.int .i64 0,.bool false,.int .u32 0] 40 (0,0))∧wr.heap.size≤p11:=(hF 10).1
         clear hF hK gP g0 HOk
         have hW:Ext wr W:=hW
         dsimp only[List.drop,List.length_cons,List.length_nil,Nat.reduceAdd,Nat.reduceSub]
         have k11:=qa f11
         have h11:=qg f11
         have z11:=(zG.1 f11).1
         go_wp2
         refine Qn ?_
         generalize hw9:World.setCell (World.setCell (World.setCell (World.setCell W _ _) _ _) _ _) _ _=w9
         obtain⟨r9,o9,z9,b9⟩:=qat f11 hw9.symm
         clear hw9 k11 h11 f11
         have x9:Ext wr w9:=b9 hlo hW
         have rp9:=qc rpr x9
         have kp9:=qa rp9
         have c1':decide (ui<1)=false:=decide_eq_false (by omega)
         have c2':decide (ui≥next)=false:=decide_eq_false (by omega)
         have c3':decide (next≤ui)=false:=decide_eq_false (by omega)
         have c4':decide ((rk:Int)<8)=false:=decide_eq_false (by omega)
         have c5':decide (rk<8)=false:=decide_eq_false (by omega)
         have c6':decide ((rk:Int)>255)=false:=decide_eq_false (by omega)
         have c7':decide (255<rk)=false:=decide_eq_false (by omega)
         have hkrk:∀ W,Ext w9 W→W.cell? ⟨cb2,6+rk,none⟩=some (.int .i64 (refs rk:Int)):=fun W h=>Ext.cell ((xr.trans x9).trans h) hkc
         generalize refs rk=rr at *
         have c8':decide ((rr:Int)<1)=false:=decide_eq_false (by omega)
         have c9':decide (rr<1)=false:=decide_eq_false (by omega)
         have gD0:∀ W,ql.r w9 W→W.cell? ⟨bv,offv+k*4,none⟩=some (.int .u32 ui):=fun W h=>Ext.cell (x9.trans h) d0
         have gD1:∀ W,ql.r w9 W→W.cell? ⟨bv,offv+k*4+1,none⟩=some (.int .i64 (rk:Int)):=fun W h=>Ext.cell (x9.trans h) d1'
         have gD2:∀ W,ql.r w9 W→W.cell? ⟨bv,offv+k*4+2,none⟩=some (.bool uf):=fun W h=>Ext.cell (x9.trans h) d2'
         have gD3:∀ W,ql.r w9 W→W.cell? ⟨bv,offv+k*4+3,none⟩=some (.int .u32 um):=fun W h=>Ext.cell (x9.trans h) d3'
         have gX:∀ W,ql.r w9 W→∀ i,W.cell? ⟨p11,i,none⟩=#[.int .u32 ui,.int .i64 (rk:Int),.bool uf,.int .u32 um][i]?:=fun W h=>qa (qc r9 h)
         have gP:∀ W,ql.r w9 W→∀ i,W.cell? ⟨w.heap.size,i,none⟩=(Qo (.slice A1 n1 c1) (.slice A2 n2 c2) (.slice A3 n3 c3) (.slice A4 n4 c4) gen (r0:Int) next (.slice A5 dead.length c5))[i]?:=fun W h=>qa (qc rp9 h)
         have gK:∀ W,ql.r w9 W→W.cell? ⟨cb2,6+rk,none⟩=some (.int .i64 (rr:Int)):=fun W h=>hkrk W h
         have hP2:(decide ((k:Int)>0)=false∧decide (0<k)=false)∨∃ (j:Nat) (pid:Int),decide ((k:Int)>0)=true∧decide (0<k)=true∧IntKind.i64.wrap ((k:Int)-1)=(j:Int)∧j<vs.length∧(∀ W,ql.r w9 W→W.cell? ⟨bv,offv+j*4,none⟩=some (.int .u32 pid))∧decide (pid≥ui)=false∧decide (ui≤pid)=false:=by
          rcases hprev with h0|⟨j,pid,hj,hpc,hpl⟩
          ·exact .inl ⟨decide_eq_false (by omega),decide_eq_false (by omega)⟩
          ·refine .inr ⟨j,pid,decide_eq_true (by omega),decide_eq_true (by omega),?_,by omega,fun W h=>Ext.cell (x9.trans h) hpc,decide_eq_false (by omega),decide_eq_false (by omega)⟩
           rw[IntKind.wrap_i64];omega
         clear hprev hkrk hkc rpr
         have d0H:=zH d0
         have d1H:=zH d1'
         have d2H:=zH d2'
         have d3H:=zH d3'
         clear d0 d1' d2' d3'
         replace hn1:=zH hn1
         replace hn2:=zH hn2
         have hltH:=zH hlt
         go_upto_region 16 with fail
         clear kp9
         go_cut [172] (fun s wx=>s=.bool false∧Ext w9 wx)
         case first =>
          refine qm (by kernel_rfl) ?_
          refine qdn (w:=w9) ql (qG []) (List.replicate 73 true) 0 (by kernel_rfl) (by kernel_rfl) (by kernel_rfl) (by kernel_rfl) (by kernel_rfl) (by kernel_rfl) (by kernel_rfl) ?st (Rel.drew _ _) ?walk
          case st=>exact qk (fun _ h=>by cases h)
          case walk =>
           intro K hK
           dsimp only[qp,List.replicate]
           rcases hP2 with ⟨e1,e2⟩|⟨j,pid,e1,e2,e3,e4,e5,e6,e7⟩
           all_goals
            repeat ((first|(refine qd ?_ (by rfl) (by rfl) (fun W hW _=>⟨W,?_,Rel.refl _ W⟩) ?_;rotate_left;(first|(go_simp;with_reducible rfl)|(go_simp;done)))|(refine qh (by rfl) ?_));try simp only[Act.put,qi,qe,qb,qf,qb,zA,zB,zC])
            try dsimp only[qp]
            first
             |(refine qd (.pointer (some ⟨cb2,6+rk,none⟩)) (by rfl) (by rfl) (fun W hW _=>⟨W,?_,Rel.refl _ W⟩) ?_
               ·go_simp
                intro hge
                exfalso
                omega
               simp only[Act.put,qi,qe,qb,qf,qb,zA,zB,zC])
             |skip
            repeat ((first|(refine qd ?_ (by rfl) (by rfl) (fun W hW _=>⟨W,?_,Rel.refl _ W⟩) ?_;rotate_left;(first|(go_simp;with_reducible rfl)|(go_simp;done)))|(refine qh (by rfl) ?_));try simp only[Act.put,qi,qe,qb,qf,qb,zA,zB,zC])
            refine qt (hK _ _ fun V hV hF=>?_)
            clear hF hK gD0 gD1 gD2 gD3 gX gP gK
            have hV:Ext w9 V:=hV
            try dsimp only[List.drop,List.length_cons,List.length_nil,Nat.reduceAdd,Nat.reduceSub]
            go_wp2
            refine Qn ?_
            go_wp2_with fail
            go_meet
            case rel=>exact⟨rfl,hV⟩
         case rest =>
          obtain⟨rfl,hV⟩:=hcut
          clear hP2 gD0 gD1 gD2 gD3 gX gP gK
          have rpV:=qc rp9 hV
          have kD0:=Ext.cell (x9.trans hV) d0H.out
          have kD1:=Ext.cell (x9.trans hV) d1H.out
          have kD2:=Ext.cell (x9.trans hV) d2H.out
          have kD3:=Ext.cell (x9.trans hV) d3H.out
          have xV:Ext w7 wc:=(xr.trans x9).trans hV
          have kf:=qa (qc rf7 xV)
          have xVr:=zH (show Ext wr wc from x9.trans hV)
          replace xV:=zH xV
          have hwk:=zH (IntWalk.wrap64_in ((k:Int)+1) (by omega))
          clear rp9 r9 hV x9 c1' c2' c3' c4' c5' c6' c7' c8' c9'
          by_cases he:ui=id
          ·have b1:(ui == id)=true:=by rw[beq_iff_eq];exact he
           have b2:decide (ui=id)=true:=decide_eq_true he
           have hrf:=qc (qc rf7 xV.out) (Ext.refl wc)
           rw[hof.out he] at hrf
           simp only at hrf
           have hany2:((vs.take (k+1)).any fun v=>decide (v.id=id))=true:=by rw[hany.out];simp[he]
           replace hany2:=zH hany2
           have gF:∀ W,ql.r wc W→∀ i,W.cell? ⟨w5.heap.size,i,none⟩=#[.int .u32 ui,.int .i64 (rk:Int),.bool uf,.int .u32 um][i]?:=fun W h=>qa (qc hrf h)
           have gD0:∀ W,ql.r wc W→W.cell? ⟨bv,offv+k*4,none⟩=some (.int .u32 ui):=fun W h=>Ext.cell h kD0
           have gD1:∀ W,ql.r wc W→W.cell? ⟨bv,offv+k*4+1,none⟩=some (.int .i64 (rk:Int)):=fun W h=>Ext.cell h kD1
           have gD2:∀ W,ql.r wc W→W.cell? ⟨bv,offv+k*4+2,none⟩=some (.bool uf):=fun W h=>Ext.cell h kD2
           have gD3:∀ W,ql.r wc W→W.cell? ⟨bv,offv+k*4+3,none⟩=some (.int .u32 um):=fun W h=>Ext.cell h kD3
           replace he:=zH he
           clear hof hrf kf
           go_upto_region 20 with fail
           refine qm (by kernel_rfl) ?_
           refine qR (w:=wc) ql (qG []) (List.replicate 6 true) 0 (by kernel_rfl) (by kernel_rfl) (by kernel_rfl) (by kernel_rfl) (by kernel_rfl) (by kernel_rfl) (by kernel_rfl) ?st (Rel.drew _ _) ?walk
           case st=>exact qk (fun _ h=>by cases h)
           case walk =>
            intro K hK
            dsimp only[qp,List.replicate]
            repeat ((first|(refine qd ?_ (by rfl) (by rfl) (fun W hW _=>⟨W,?_,Rel.refl _ W⟩) ?_;rotate_left;(first|(go_simp;with_reducible rfl)|(go_simp;done)))|(refine qh (by rfl) ?_));try simp only[Act.put,qi,qe,qb,qf,qb,zA,zB,zC])
            refine qt (hK _ _ fun Z hZ hF=>?_)
            clear hF hK gD0 gD1 gD2 gD3 gF
            have hZ:Ext wc Z:=hZ
            try dsimp only[List.drop,List.length_cons,List.length_nil,Nat.reduceAdd,Nat.reduceSub]
            have xZ:=zH (xVr.out.trans hZ)
            clear hZ
            go_wp2
            refine Qn ?_
            go_wp2_with fail
            go_meet
            case rel=>exact⟨by rw[hany2.out],xZ.out⟩
          ·have b1:(ui == id)=false:=by rw[beq_eq_false_iff_ne];exact he
           have b2:decide (ui=id)=false:=decide_eq_false he
           have hany2:((vs.take (k+1)).any fun v=>decide (v.id=id))=(vs.take k).any fun v=>decide (v.id=id):=by rw[hany.out];simp[he]
           replace hany2:=zH hany2
           replace he:=zH he
           go_wp2_with fail
           go_meet
           case rel=>exact⟨by rw[hany2.out],xVr.out⟩
      ·obtain rfl:k=vs.length:=by omega
       have hmayS:=hT0.out.out.may_
       obtain⟨b3,o3,cc3,e3,hb3,hcell⟩:=qdd hmayS h.out.now
       simp only[Value.slice.injEq] at e3
       obtain⟨rfl,rfl,rfl⟩:=e3
       have xr7:Ext w7 wr:=xr
       have hnow:=zH (fun (a:Nat) (ha:a<256) W (hW:Ext wr W)=>Ext.cell ((x7.trans xr7).trans hW) (hcell a ha))
       have hrcr:=zH (fun (a:Nat) (ha:a<256) W (hW:Ext wr W)=>Ext.cell (xr7.trans hW) (hrc.out a ha))
       have hen:=zH (fun (a:Nat) (ha:a<256)=>hlaw.out.now a ha)
       rw[List.take_length]
       generalize hwm:wr=wm at *
       clear hwm hcell hrc
       go_wp2_with fail
       go_loopw [16] (fun i wr=>∃ j:Nat,j≤256∧i=.int .i64 (j:Int)∧Ext wm wr) (fun i _=>256-(intOf i).toNat)
       case atStart=>exact⟨0,by omega,rfl,Ext.refl _⟩
       case round =>
        obtain⟨j,hj,rfl,xj⟩:=hrel
        clear hk hlt
        have rpj:=qc rpr xj
        by_cases hlt:j<256
        ·have gP:∀ W,ql.r wr W→∀ i,W.cell? ⟨w.heap.size,i,none⟩=(Qo (.slice A1 n1 c1) (.slice A2 n2 c2) (.slice (some ⟨b3,o3,none⟩) 256 c3) (.slice A4 n4 c4) gen (r0:Int) next (.slice A5 dead.length c5))[i]?:=fun W h=>qa (qc rpj h)
         have gN:∀ W,ql.r wr W→W.cell? ⟨b3,o3+j,none⟩=some (.int .u8 (Zx S j:Int)):=fun W h=>hnow.out j hlt W (xj.trans h)
         have gR:∀ W,ql.r wr W→W.cell? ⟨cb2,6+j,none⟩=some (.int .i64 (refs j:Int)):=fun W h=>hrcr.out j hlt W (xj.trans h)
         have hle:refs j≤Zx S j:=hen.out j hlt
         have hwn2:IntKind.i64.wrap (Zx S j:Int)=(Zx S j:Int):=by rw[IntKind.wrap_i64];have:=(S.now[j]?.getD 0).toNat_lt;unfold Zx;omega
         generalize Zx S j=nw at *
         generalize refs j=rf at *
         have f1:decide ((nw:Int)<(rf:Int))=false:=decide_eq_false (by omega)
         have f2:decide (nw<rf)=false:=decide_eq_false (by omega)
         replace hle:=zH hle
         have hwk:=zH (IntWalk.wrap64_in ((j:Int)+1) (by omega))
         go_upto_region 25 with fail
         refine qm (by kernel_rfl) ?_
         refine qR (w:=wr) ql (qG []) (List.replicate 12 true) 0 (by kernel_rfl) (by kernel_rfl) (by kernel_rfl) (by kernel_rfl) (by kernel_rfl) (by kernel_rfl) (by kernel_rfl) ?st (Rel.drew _ _) ?walk
         case st=>exact qk (fun _ h=>by cases h)
         case walk =>
          intro K hK
          dsimp only[qp,List.replicate]
          repeat ((first|(refine qd ?_ (by rfl) (by rfl) (fun W hW _=>⟨W,?_,Rel.refl _ W⟩) ?_;rotate_left;(first|(go_simp;with_reducible rfl)|(go_simp;done)))|(refine qh (by rfl) ?_));try simp only[Act.put,qi,qe,qb,qf,qb,zA,zB,zC])
          first
           |(refine qd (.pointer (some ⟨b3,o3+j,none⟩)) (by rfl) (by rfl) (fun W hW _=>⟨W,?_,Rel.refl _ W⟩) ?_
             ·go_simp
              intro hge
              exfalso
              omega
             simp only[Act.put,qi,qe,qb,qf,qb,zA,zB,zC])
           |skip
          repeat ((first|(refine qd ?_ (by rfl) (by rfl) (fun W hW _=>⟨W,?_,Rel.refl _ W⟩) ?_;rotate_left;(first|(go_simp;with_reducible rfl)|(go_simp;done)))|(refine qh (by rfl) ?_));try simp only[Act.put,qi,qe,qb,qf,qb,zA,zB,zC])
          first
           |(refine qd (.pointer (some ⟨cb2,6+j,none⟩)) (by rfl) (by rfl) (fun W hW _=>⟨W,?_,Rel.refl _ W⟩) ?_
             ·go_simp
              intro hge
              exfalso
              omega
             simp only[Act.put,qi,qe,qb,qf,qb,zA,zB,zC])
           |skip
          repeat ((first|(refine qd ?_ (by rfl) (by rfl) (fun W hW _=>⟨W,?_,Rel.refl _ W⟩) ?_;rotate_left;(first|(go_simp;with_reducible rfl)|(go_simp;done)))|(refine qh (by rfl) ?_));try simp only[Act.put,qi,qe,qb,qf,qb,zA,zB,zC])
          refine qt (hK _ _ fun Z hZ hF=>?_)
          clear hF hK gP gN gR
          have hZ:Ext wr Z:=hZ
          try dsimp only[List.drop,List.length_cons,List.length_nil,Nat.reduceAdd,Nat.reduceSub]
          have xZ:=xj.trans hZ
          clear hZ
          replace xZ:=zH xZ
          go_wp2
          refine Qn ?_
          go_wp2_with fail
          exact⟨⟨j+1,hlt,rfl,xZ.out⟩,meas1 hlt⟩
        ·obtain rfl:j=256:=by omega
         have xw:=zH ((x7.trans xr7).trans xj)
         have kf:=qa (qc rf7 (xr7.trans xj))
         rw[←qdg]
         rcases hq:VE vs id with _|u
         ·have h1:6=ef:=by have:=hef.out;rw[hq] at this;exact this
          have h2:vol0=vf:=by have:=hvf.out;rw[hq] at this;exact this
          subst h1
          subst h2
          simp only at kf
          replace hq:=zH hq
          go_wp2_with fail
          exact qaV rfl rfl ⟨rfl,xw.out⟩
         ·have h1:0=ef:=by have:=hef.out;rw[hq] at this;exact this
          subst h1
          replace hq:=zH hq
          go_wp2_with fail
          exact qaV rfl rfl ⟨rfl,xw.out⟩
end Go.Proofs.YtpbniokljofedaaGreat
namespace Go.Proofs.YtpbniokljofedaaGreat.forestFinds
set_option linter.unusedSimpArgs false
set_option linter.unusedVariables false
open Go.ChangeShapes Go.WideShapes Go.ChangeAt Go.RowKit
theorem own:ownKnob Tryz.prog.godebug=none:=by kernel_rfl
theorem laidOut:laidOutB Tryz.prog=true:=by kernel_rfl
set_option maxHeartbeats 1000000 in
set_option maxRecDepth 100000 in
theorem lifted (os:Os) (started:os.Started) (H:Type) (enc:TypeId×Value→H) :
  ReturnsInHanded {} Tryz.checked os 3 .any (Rows.forestFindsSpec.pre6 enc Tryz.prog Tryz.f3 Rows.forestFindsRow.domain false) (Rows.forestFindsSpec.post enc Tryz.prog Tryz.f3 false true false false):=by
 refine returnsInHanded_of_change (C:=Tryz.checked) own started (by kernel_rfl) Tryz.func3
  (ChangeSpec.witness6 (enc:=enc) (C:=Tryz.checked) false ⟨#[],#[.agg (Qo (.slice none 0 0) (.slice none 0 0) (.slice none 0 0) (.slice none 0 0) 0 0 0 (.slice none 0 0)),.int .u32 0],[]⟩ 8 (by kernel_rfl) (by kernel_rfl) (by kernel_rfl) (by kernel_rfl)) ?_
 intro W base args ds gs before hval0 hW hcnd _
 have hval:∀ (j:Nat) t v,Tryz.f3.params[j]?=some t→args[j]?=some v→Value.okWide Tryz.prog W .any base t v:=hval0
 have hW':=hW
 have hlt:∀ x∈before,x.block<W.heap.size:=fun x hx=>hW.lt x hx
 obtain⟨p,q,hA0,hV,rfl,hfz,hnd⟩:=hW
 have hA:DataW.TrodAll enc Tryz.prog W 0 (fun _=>true) true Tryz.f3.params.toList args.toList ds p:=hA0
 rw[Tryz.params3] at hA hval
 obtain⟨v0,vs0,d0,ds0,p0,q0,hargs,rfl,rfl,h0,r0⟩:=trodAll_cons hA
 obtain⟨v1,vs1,d1,ds1,p1,q1,rfl,rfl,rfl,h1,r1⟩:=trodAll_cons r0
 obtain⟨rfl,rfl,rfl⟩:=trodAll_nil r1
 obtain rfl:args=#[v0,v1]:=by cases args;simp_all
 obtain⟨rfl,rfl⟩:=trodVars_none hV
 obtain⟨cs0,rfl,_⟩:=okWide_struct Tryz.underlying32 (hval 0 32 v0 rfl rfl)
 obtain⟨id,rfl⟩:=okWide_int Tryz.underlying29 (hval 1 29 v1 rfl rfl)
 obtain⟨n0,h0⟩:=h0
 obtain⟨A1,c1,A2,c2,A3,c3,A4,c4,gen,root,next,A5,c5,S,dead,e0,hS,hd,_,_,_,_⟩:=rd_pool h0 (fun x hx=>hlt x (by simp[hx]))
 have e0':cs0=Qo (.slice A1 S.bs.length c1) (.slice A2 S.ws.length c2) (.slice A3 S.now.length c3) (.slice A4 S.last.length c4) gen root next (.slice A5 dead.length c5):=by
  obtain⟨cs0⟩:=cs0
  have:cs0=_:=e0
  rw[this]
 subst e0'
 have walk:Calls Tryz.prog 3 #[.agg (Qo (.slice A1 S.bs.length c1) (.slice A2 S.ws.length c2) (.slice A3 S.now.length c3) (.slice A4 S.last.length c4) gen root next (.slice A5 dead.length c5)),.int .u32 id] W (Ret (.bool true) W):=qcC A1 _ c1 A2 _ c2 A3 _ c3 A4 _ c4 gen root next A5 c5 S dead id W hS hd
 refine walk.mono fun e W' ⟨he,hB⟩=>?_
 subst he
 exact⟨_,rfl,law_post rfl laidOut rfl Tryz.underlying4 (by
  intro t ht
  have:t=32∨t=29:=by rw[Tryz.params3] at ht;simpa using ht
  rcases this with rfl|rfl
  ·exact⟨by kernel_rfl,of_decide_eq_true (by kernel_rfl)⟩
  ·exact⟨by kernel_rfl,of_decide_eq_true (by kernel_rfl)⟩) hW' rfl hB⟩
theorem over:Rows.forestFindsRow.holds Tryz.pinned (OpenSpec.ofChange Rows.forestFindsSpec):=
 OpenClaim.holds_of_wide 3 Tryz.f3 rfl rfl rfl rfl rfl rfl rfl ⟨rfl,rfl,rfl,rfl,rfl⟩ rfl rfl rfl rfl rfl (by kernel_rfl) Tryz.func3 (by kernel_rfl)
  (of_decide_eq_true (by kernel_rfl)) (by unfold Func.isWrapper;first|(rw[if_pos (by decide +kernel)];kernel_rfl)|(rw[if_neg (by decide +kernel)];exact⟨rfl,rfl⟩))
  (fun os started H enc _=>lifted os started H enc)
theorem proved:Rows.ForestFindsSaid:=over
end Go.Proofs.YtpbniokljofedaaGreat.forestFinds
