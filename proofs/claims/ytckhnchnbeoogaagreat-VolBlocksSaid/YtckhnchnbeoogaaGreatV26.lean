/- Texts KMark, KItems, KAll, KGone, KLevels, joined. -/
import Derived.Test.YtckhnchnbeoogaaGreatV09
import Derived.Test.YtckhnchnbeoogaaGreatV13
import Derived.Test.YtckhnchnbeoogaaGreatV14
import Derived.Test.YtckhnchnbeoogaaGreatV25
set_option linter.unusedSimpArgs false
set_option linter.unusedVariables false
namespace Go.Proofs.YtckhnchnbeoogaaGreat
open Go.RowKit
theorem qbf {R:Ending→World→Prop} {a:Act} {W:World} (hd:a.defers=[]) (hR:R (.returned (.tuple #[])) W):bodyPost Tryz.prog Tryz.f108 R .ret a W:=by
 refine bodyPost_ret (v:=.tuple #[]) ?_ hd hR
 simp[results,Tryz.results108,go_sem]
set_option maxHeartbeats 4000000 in
set_option maxRecDepth 100000 in
theorem qbz (p:KP) (h:Nat) (HM:∀ h':Nat,h=h'+1→MarkC p h'):MarkC p h:=by
 intro a xs w f rb mb refs met C hK hT hn hf hR2 hr hm hF hC
 have ha2:a<256:=hT.2.1
 have hmc:=Zn met ha2
 rw[←List.getElem?_toArray] at hmc
 have km:=qa hm
 have fm:=qd hm
 by_cases h0:met a=0
 case neg =>
  have hd1:decide ((met a:Int)>0)=true:=decide_eq_true (by omega)
  have hd2:decide (0<met a)=true:=decide_eq_true (by omega)
  have HQ:MarkQ p rb mb a refs met w (.returned (.tuple #[])) w:=⟨rfl,jZ.refl _ _ _,refs,met,hr,hm,JE.met (decide_eq_true (by omega))⟩
  replace HQ:=zH HQ
  clear hK hT hn hf hR2 hr hm hF HM h0
  go_enter Tryz.func108,Tryz.ntmps108
  go_wp2
  exact qbf rfl HQ.out
 case pos =>
  have hd1:decide ((met a:Int)>0)=false:=decide_eq_false (by omega)
  have hd2:decide (0<met a)=false:=decide_eq_false (by omega)
  obtain⟨v,hv⟩:=Option.isSome_iff_exists.1 hf
  obtain⟨n,lvl,xs',A,c,fk,lk,b,e1,_,_,hn',rfl,hits,hspan,hclo⟩:=hK.known _ _ hv
  obtain rfl:a=n:=by omega
  rw[hn] at hn'
  simp only[Option.some.injEq,Prod.mk.injEq] at hn'
  obtain⟨e2,rfl⟩:=hn'
  obtain rfl:h=lvl:=by omega
  have hsp:(QL p.S h xs).isSome=true:=by
   obtain⟨_,_,l9,x9,h9,s9⟩:=hT
   rw[hn] at h9
   simp only[Option.some.injEq,Prod.mk.injEq] at h9
   obtain⟨e9,rfl⟩:=h9
   obtain rfl:h=l9:=by omega
   exact s9
  have hkids:0<h→∀ y∈xs,(f y.r).isSome=true:=hclo (by rw[hspan.1,hsp])
  obtain⟨hmay,hxs,-⟩:=Qn hn
  have hlen:xs.length≤5:=by unfold qR zN at hmay;simp at hmay;omega
  obtain⟨k0,k1,-⟩:=hK.arr.cells ha2 (lvl:=h) (A:=A) (n:=xs.length) (c:=c) (fk:=fk) (lk:=lk) (d:=true) (b:=b) (by rw[hv];rfl)
  have kk:=qa hK.row
  have hlow:=hK.low
  have hA:=hits.its.at_.2.2.2
  have hset:=qh hm a (.int .i64 (1:Nat))
  rw[qaZ met ha2 1] at hset
  have hz1:p.kb<w.heap.size:=by omega
  have hz2:p.sb<w.heap.size:=by omega
  have hz3:rb<w.heap.size:=(zG.1 hr).1
  have hz4:mb<w.heap.size:=(zG.1 hm).1
  have n1:=hR2.km
  have n2:=hR2.sm
  have n3:=hR2.ne
  replace hset:(w.setCell ⟨mb,a,none⟩ (.int .i64 1)).heap[mb]?=some (.cells (zk (met1 met a)).toArray 3 (0,0)):=hset
  replace hK:=zH hK
  replace hT:=zH hT
  replace hn:=zH hn
  replace hF:=zH hF
  replace hits:=zH hits
  replace hsp:=zH hsp
  replace hkids:=zH hkids
  replace hxs:=zH hxs
  replace hR2:=zH hR2
  replace h0:=zH h0
  clear hv hclo hspan hmay hf e1 e2
  go_enter Tryz.func108,Tryz.ntmps108
  go_upto_region 3 with fail
  generalize hw1:World.alloc (World.setCell w _ _) _=w1
  have kp1:jZ rb mb w w1:=by
   rw[←hw1]
   refine⟨rfl,rfl,rfl,by simp,fun k hk h1 h2=>?_⟩
   rw[Below.heap_alloc _ _ _ (by simpa using hk)]
   exact Below.heap_setCell _ _ _ _ h2
  have I0:MkI p h xs A c a w rb mb refs met (.int .i64 0) w1:=by
   refine⟨0,refs,met1 met a,refs,Nat.zero_le _,rfl,kp1,by rw[←hw1];simp,by rw[←hw1];exact World.alloc_heap_at _ _ _ (by simp),?_,?_,fun b=>by rw[Gm];rfl,?_⟩
   ·rw[←hw1,Below.heap_alloc _ _ _ (by simpa using hz3),Below.heap_setCell _ _ _ _ n3]
    exact hr
   ·rw[←hw1,Below.heap_alloc _ _ _ (by simpa using hz4)]
    exact hset
   ·rw[qeo,kF]
    exact JE.nil
  replace I0:=zH I0
  clear hw1 kp1 hset k0 k1 kk km fm hmc
  replace hr:=zH (ZV hr)
  replace hm:=zH (ZV hm)
  go_wp2_with fail
  go_loopw [9] (fun i wr=>MkI p h xs A c a w rb mb refs met i wr) (fun i _=>xs.length-(intOf i).toNat)
  case atStart=>exact I0.out
  case round =>
   obtain⟨k,rfk,mtk,rk,hk,rfl,kp,hsz,rn,rr,rm,hrf,hmk⟩:=hrel.ex
   clear hrel I0
   have kn:=qa rn
   by_cases hlt:k<xs.length
   ·have hlt':=hlt
    obtain⟨b9,off,rfl,hb9⟩:=hA (by omega)
    obtain⟨A',c',-,-,-,d3,-,-⟩:=(kp.its hr.out hm.out hits.out).its.item k hlt'
    obtain⟨⟨-,-,-,⟨hr1,hr3⟩,-⟩,-⟩:=hxs.out xs[k] (List.getElem_mem hlt')
    have HMEM:=zH (List.getElem_mem hlt')
    have HSK:=zH (fun hh=>Xr (lvl:=h) hlt' hh)
    have HPU:=zH (fun hh h'=>XI (lvl:=h) hlt' hh h')
    have HRS:=zH (fun hh=>Gh hlt' hh hrf)
    have HRB:=zH (fun hh=>Gj hlt' hh hrf)
    have hfew:=zH (few_at hF.out hn.out h0.out ha2 hmk hrf)
    generalize hxk:xs[k]=x at d3 hr1 hr3 HMEM HSK HPU HRS HRB
    have HXE:Hid (xs[k]=x):=zH hxk
    clear hxk
    obtain⟨r,hrr⟩:=Int.eq_ofNat_of_zero_le hr1
    rw[hrr] at d3 hr3
    have hr4:r<256:=by omega
    rw[hrr,Int.toNat_natCast] at HSK HPU HRS HRB
    clear hr1 hr3
    replace hrr:=zH hrr
    replace hrf:=zH hrf
    replace hmk:=zH hmk
    have hc1:decide (k<xs.length)=true:=decide_eq_true hlt
    have hwk:=zH (IntWalk.wrap64_in ((k:Int)+1) (by omega))
    rcases Nat.eq_zero_or_pos r with hz|hz
    ·have hq1:((r:Int) == 0)=true:=by rw[beq_iff_eq];omega
     have hq2:decide (r=0)=true:=decide_eq_true hz
     have IR:MkI p h xs (some ⟨b9,off,none⟩) c a w rb mb refs met (.int .i64 ((k:Int)+1)) wr:=⟨k+1,rfk,mtk,rk,hlt',rfl,kp,hsz,rn,rr,rm,HRS.out hz,by rw[HSK.out (.inl hz)];exact hmk.out⟩
     replace IR:=zH IR
     replace hz:=zH hz
     go_wp2_with fail
     try rw[hwk.out]
     refine⟨IR.out,?_⟩
     simp[intOf]
     omega
    ·have hq1:((r:Int) == 0)=false:=by rw[beq_eq_false_iff_ne];omega
     have hq2:decide (r=0)=false:=decide_eq_false (by omega)
     have hr00:¬r=0:=by omega
     have hgk:=Zn rfk hr4
     rw[←List.getElem?_toArray] at hgk
     have kr:=qa rr
     have fr:=qd rr
     have hw64:wrap64 ((rfk r:Int)+1)=(rfk r:Int)+1:=IntWalk.wrap64_in _ (by
      have h1:=hfew.out r
      have h2:=qbR p.S (zv mtk) r
      omega)
     have hrf1:=HRB.out hr00
     have hfw:=few_at hF.out hn.out h0.out ha2 hmk.out hrf1
     have kp3:=kp.set (b:=rb) (i:=r) (.inl rfl) (.int .i64 ((rfk r:Int)+1))
     have rr3:=qh rr r (.int .i64 ((rfk r:Int)+1))
     rw[Xj rfk hr4] at rr3
     have rm3:=(Below.heap_setCell wr ⟨rb,r,none⟩ (.int .i64 ((rfk r:Int)+1)) mb (fun e=>n3 e.symm)).trans rm
     have rn3:=(Below.heap_setCell wr ⟨rb,r,none⟩ (.int .i64 ((rfk r:Int)+1)) w.heap.size (show w.heap.size≠rb by omega)).trans rn
     have hs3:w.heap.size<(wr.setCell ⟨rb,r,none⟩ (.int .i64 ((rfk r:Int)+1))).heap.size:=by simpa using hsz
     replace hfw:=zH hfw
     replace hrf1:=zH hrf1
     replace hr00:=zH hr00
     go_upto_region 8 with fail
     generalize hw3:World.setCell wr _ _=w3 at *
     clear hw3 kn kr fr hgk hz d3 hw64
     have kn:=qa rn3
     rcases Nat.eq_zero_or_pos h with hv0|hv0
     ·have hq3:decide ((h:Int)>0)=false:=decide_eq_false (by omega)
      have hq4:decide (0<h)=false:=decide_eq_false (by omega)
      have IR:MkI p h xs (some ⟨b9,off,none⟩) c a w rb mb refs met (.int .i64 ((k:Int)+1)) w3:=⟨k+1,bump rfk r,mtk,rk,hlt',rfl,kp3,hs3,rn3,rr3,rm3,hrf1.out,by rw[HSK.out (.inr hv0)];exact hmk.out⟩
      replace IR:=zH IR
      replace hv0:=zH hv0
      go_wp2_with fail
      try rw[hwk.out]
      refine⟨IR.out,?_⟩
      simp[intOf]
      omega
     ·have hq3:decide ((h:Int)>0)=true:=decide_eq_true (by omega)
      have hq4:decide (0<h)=true:=decide_eq_true hv0
      obtain⟨h',hh⟩:∃ h',h=h'+1:=⟨h-1,by omega⟩
      have hone:=kj hsp.out x HMEM.out
      rw[hh] at hone
      obtain⟨r',e5,e6,e7,ys,e8,e9⟩:=VN hone
      obtain rfl:r=r':=by have:=hrr.out;omega
      have hKw:=hK.out.kept kp3 hr.out hm.out ⟨hR2.out.kr,hR2.out.km,hR2.out.sr,hR2.out.sm,hR2.out.br,hR2.out.bm⟩
      have hfr:=hkids.out hv0 x HMEM.out
      rw[hrr.out] at hfr
      have hCall:=zH (HM h' hh r ys w3 f rb mb (bump rfk r) mtk C hKw ⟨e6,e7,h',ys,e8,e9⟩ e8 hfr hR2.out rr3 rm3 hfw.out hC)
      obtain⟨A8,c8,-,-,-,d3,-,-⟩:=(kp3.its hr.out hm.out hits.out).its.item k hlt'
      rw[HXE.out,hrr.out] at d3
      replace hv0:=zH hv0
      clear hKw hfr hone e5 e6 e7 e8 e9 rr3 rm3 hh
      go_wp2_with fail
      refine hCall.out.mono ?_
      clear hCall
      rintro e w4 ⟨rfl,kp4,refs',met',rr4,rm4,hmk4⟩
      obtain⟨hm5,hr5⟩:=hmk4.sub hrf1.out
      have kp5:=kp3.trans kp4
      have rn5:=(kp4.block w.heap.size hs3 (by omega) (by omega)).trans rn3
      have IR:MkI p h xs (some ⟨b9,off,none⟩) c a w rb mb refs met (.int .i64 ((k:Int)+1)) w4:=⟨k+1,refs',met',_,hlt',rfl,kp5,Nat.lt_of_lt_of_le hs3 kp4.size,rn5,rr4,rm4,hr5,by
       rw[HPU.out hr00.out hv0.out]
       exact hmk.out.trans hm5⟩
      replace IR:=zH IR
      clear rr4 rm4 hmk4 hm5 hr5 kp5 kp4 rn5
      go_wp2_with fail
      try rw[hwk.out]
      refine⟨IR.out,?_⟩
      simp[intOf]
      omega
   ·have hke:k=xs.length:=by omega
    subst hke
    have hkd:zI h xs xs.length=QX p.S a:=by
     unfold zI QX
     rw[hn.out,vR hn.out]
     simp only
     by_cases hv:0<h
     ·rw[if_pos hv,if_pos (by omega)]
     ·rw[if_neg hv,if_neg (by omega)]
    rw[hkd] at hmk
    have HQ:MarkQ p rb mb a refs met w (.returned (.tuple #[])) wr:=⟨rfl,kp,rfk,mtk,rr,rm,JE.up (decide_eq_false (by have:=h0.out;omega)) ha2 hmk fun b=>by rw[hrf b,vR hn.out]⟩
    replace HQ:=zH HQ
    replace hmk:=zH hmk
    replace hrf:=zH hrf
    replace kp:=zH kp
    clear rr rm hkd
    go_wp2
    exact qbf rfl HQ.out
theorem TC (p:KP):∀ h:Nat,MarkC p h
 |0=>qbz p 0 fun _ e=>by omega
 |h+1=>qbz p (h+1) fun h' e=>by
  obtain rfl:h=h':=by omega
  exact TC p h
def GX (lo n:Nat) (xs:List It):qT:=⟨Option Addr×Nat,fun p=>.slice p.1 n p.2,fun p W=>zU lo W (.slice p.1 n p.2) xs⟩
theorem qbs (lo n:Nat) (xs:List It) (A:Option Addr) (c:Nat):(GX lo n xs).f (A,c)=.slice A n c:=rfl
theorem UA (lo n:Nat) (xs:List It):∀ p,QI ((GX lo n xs).φ p):=fun p W W' he h=>zU.ext h he
theorem qau {P:Program} {o:Oper} {a:Act} {W:World} {hh:qT} {f:FuncId} {args:Array Value} (hr:(execOp a.eval o).run P W=.ok (.enter f args) W)
  (hc:Calls P f args W fun e w''=>∃ p,e=.returned (hh.f p)∧hh.φ p w''∧Ext W w''):Qp qu P o a W hh:=by
 unfold Qp;rw[hr];exact⟨Ext.refl W,hc⟩
theorem qdl {ps:List (It×Value)} (h:∀ p∈ps,∃ A c,p.2=.slice A p.1.val.length c):∀ u∈zj ps,u.oneCell'=true:=by
 induction ps with
 |nil=>intro u hu;cases hu
 |cons p r ih =>
  intro u hu
  obtain⟨A,c,e⟩:=h p (List.mem_cons_self)
  simp only[zj,List.mem_cons] at hu
  rcases hu with rfl|rfl|rfl|rfl|rfl|hu
  ·rfl
  ·rfl
  ·rfl
  ·rfl
  ·rw[e];rfl
  ·exact ih (fun q hq=>h q (List.mem_cons_of_mem _ hq)) u hu
theorem Jm.extend {base lo lo2:Nat} {w W:World} {v v':Value} {ps qs:List (It×Value)} (h:Jm base lo w v ps) (hq:∀ p∈qs,((∃ A c,p.2=.slice A p.1.val.length c)∧QD lo p.2)∧Bys w w.heap.size p.2 p.1.val∧zV v p.2) (hl:lo2=w.heap.size)
  (hown:W.ownsRow base 38 5 v' (ps.length+qs.length) (zj ps++zj qs)) (hD:v'.ownBlock=v.ownBlock∨∃ g,v'.ownBlock=some g∧lo2≤g) (hg:w.grownBy W v.ownBlock):Jm base lo W v' (ps++qs):=by
 subst hl
 refine⟨by rw[Kx,List.length_append];exact hown,?_⟩
 have key:∀ u l,Bys w w.heap.size u l→zV v u→Bys W W.heap.size u l∧zV v' u:=by
  intro u l hu hau
  refine⟨hu.grown hg hau,fun a n c e hn=>?_⟩
  rcases hD with h1|⟨g,h1,h2⟩
  ·rw[h1];exact hau a n c e hn
  ·rw[h1]
   intro hx
   simp only[Option.some.injEq] at hx
   obtain⟨A',c',e',_,_,hr⟩:=hu
   rw[e] at e'
   simp only[Value.slice.injEq] at e'
   obtain⟨e1,e2,_⟩:=e'
   obtain⟨b,off,e3,hbb,_⟩:=hr.2 (by omega)
   rw[←e1] at e3
   simp only[Option.some.injEq] at e3
   rw[e3] at hx
   simp at hx
   omega
 intro p hp
 rcases List.mem_append.1 hp with hp|hp
 ·have:=h.2 p hp
  exact⟨this.1,key _ _ this.2.1 this.2.2⟩
 ·have:=hq p hp
  exact⟨this.1,key _ _ this.2.1 this.2.2⟩
theorem kY {S:Sto}:∀ (h:Nat) (xs:List It),xs.length≤5→(qS S h xs).length≤5 ^ (h+1)
 |0,xs,hl=>by simpa [qS] using hl
 |h+1,xs,hl=>by
  rw[je]
  have key:∀ l:List It,(l.flatMap fun y=>match qV S y.r.toNat with|none=>[]|some (_,ys)=>qS S h ys).length≤l.length*5 ^ (h+1):=by
   intro l
   induction l with
   |nil=>simp
   |cons y r ih =>
    rw[List.flatMap_cons,List.length_append,List.length_cons,Nat.add_mul,Nat.one_mul]
    have h1:(match qV S y.r.toNat with|none=>[]|some (_,ys)=>qS S h ys).length≤5 ^ (h+1):=by
     rcases hn:qV S y.r.toNat with _|⟨lvl,ys⟩
     ·simp
     ·have hm:=(Qn hn).1
      have:ys.length≤5:=by unfold qR zN at hm;simp at hm;omega
      exact kY h ys this
    omega
  refine Nat.le_trans (key xs) ?_
  rw[Nat.pow_succ 5 (h+1),Nat.mul_comm]
  exact Nat.mul_le_mul_left _ hl
def qcr (S:Sto) (h:Nat):Prop:=∀ (a:Nat) (xs:List It) (A1:Option Addr) (n1 c1:Nat) (A2:Option Addr) (n2 c2:Nat) (A3:Option Addr) (n3 c3:Nat) (A4:Option Addr) (n4 c4:Nat) (w:World),qB S=true→qH w w.heap.size (.slice A1 n1 c1) (.slice A2 n2 c2) (.slice A3 n3 c3) (.slice A4 n4 c4) S→8≤a→a<256→qV S a=some ((h:Int),xs)→(QL S h xs).isSome=true →
 Calls Tryz.prog 63 #[Qy A1 n1 c1 A2 n2 c2 A3 n3 c3 A4 n4 c4,.int .i64 (a:Int)] w (zE (fun v W=>∃ A c,v=.slice A (qS S h xs).length c∧zU w.heap.size W v (qS S h xs)) w)
structure ItI (S:Sto) (h:Nat) (xs:List It) (w2:World) (v i:Value) (wr:World):Prop where
 ex:∃ (k:Nat) (ps:List (It×Value)),k≤xs.length∧i=.int .i64 (k:Int)∧Jm w2.heap.size w2.heap.size wr v ps∧ps.map (·.1)=qS S h (xs.take k)∧Ext w2 wr
theorem Gf {R:Ending→World→Prop} {a:Act} {W:World} {u:Value} (h2:a.tmps[4]?.getD undef=u) (hd:a.defers=[]) (hR:R (.returned u) W):bodyPost Tryz.prog Tryz.f63 R .ret a W:=by
 refine bodyPost_ret (v:=u) ?_ hd hR
 simp[results,Tryz.results63,go_sem,h2]
set_option maxHeartbeats 4000000 in
set_option maxRecDepth 100000 in
theorem Gx (S:Sto) (h:Nat) (HI:∀ h':Nat,h=h'+1→qcr S h'):qcr S h:=by
 intro a xs A1 n1 c1 A2 n2 c2 A3 n3 c3 A4 n4 c4 w hS hst ha ha2 hn hsp
 have hmay:=(Qn hn).1
 have hxs:=(Qn hn).2.1
 have hlen:xs.length≤5:=by unfold qR zN at hmay;simp at hmay;omega
 have hle5:h≤5:=by unfold qR zN at hmay;simp at hmay;omega
 have HR:=zH (fun W (hx:Ext w W)=>GJ A1 n1 c1 A2 n2 c2 A3 n3 c3 A4 n4 c4 S hS a ha ha2 W (hst.ext hx))
 rw[hn] at HR
 have HST:=zH hst
 have HSM:=zH hS
 replace hsp:=zH hsp
 replace hxs:=zH hxs
 clear hst hS hmay hn
 go_enter Tryz.func63,Tryz.ntmps63
 go_wp2_with fail
 generalize hw1:World.alloc w _=w1
 have x1:Ext w w1:=by rw[←hw1];exact Ext.alloc _ _
 have r1:w1.heap[w.heap.size]?=some (.cells #[.slice A1 n1 c1,.slice A2 n2 c2,.slice A3 n3 c3,.slice A4 n4 c4] 28 (0,0)):=by rw[←hw1];exact World.alloc_heap_at _ _ _ rfl
 clear hw1
 refine(HR.out w1 x1).mono ?_
 clear HR
 rintro e w2 ⟨u,rfl,hu,hB⟩
 obtain⟨A,c,rfl,hits⟩:=hu
 have x2:Ext w w2:=x1.trans hB
 have r2:=qc r1 hB
 have z1:w.heap.size<w1.heap.size:=(zG.1 r1).1
 have hitl:=(hits.its.at_).2.2.2
 replace hits:=zH hits
 clear hB r1 x1
 rcases Nat.eq_zero_or_pos h with hz|hz
 ·have hd:((h:Int) == 0)=true:=by rw[beq_iff_eq];omega
  have hd2:decide (h=0)=true:=decide_eq_true hz
  have hit0:qS S h xs=xs:=by rw[hz];rfl
  replace hz:=zH hz
  replace hit0:=zH hit0
  go_wp2
  generalize hw3:World.alloc w2 _=w3
  have x3:Ext w2 w3:=by rw[←hw3];exact Ext.alloc _ _
  exact Gf (u:=.slice A xs.length c) rfl rfl ⟨_,rfl,⟨A,c,by rw[hit0.out],by rw[hit0.out];exact(hits.out.ext x3).mono (by omega)⟩,x2.trans x3⟩
 ·have hd:((h:Int) == 0)=false:=by rw[beq_eq_false_iff_ne];omega
  have hd2:decide (h=0)=false:=decide_eq_false (by omega)
  obtain⟨h',hh⟩:∃ h',h=h'+1:=⟨h-1,by omega⟩
  have HIh:=zH (HI h' hh)
  replace hh:=zH hh
  replace hz:=zH hz
  go_upto_region 4 with fail
  generalize hw3:World.alloc w2 _=w3
  have x3:Ext w2 w3:=by rw[←hw3];exact Ext.alloc _ _
  have rn:w3.heap[w2.heap.size]?=some (.cells #[.int .i64 h,.slice A xs.length c] 118 (0,0)):=by rw[←hw3];exact World.alloc_heap_at _ _ _ rfl
  have rs:=qc r2 x3
  have I0:ItI S h xs w3 (.slice none 0 0) (.int .i64 0) w3:=⟨0,[],Nat.zero_le _,rfl,Jm.nil _ _ _,by rw[List.take_zero,UV];rfl,Ext.refl _⟩
  replace I0:=zH I0
  have xw3:=x2.trans x3
  clear hw3 r2
  replace hits:=zH (hits.out.ext x3)
  go_wp2_with fail
  go_loopw [7,8] (fun v i wr=>ItI S h xs w3 v i wr) (fun _ i _=>xs.length-(intOf i).toNat)
  case atStart=>exact I0.out
  case round =>
   obtain⟨k,ps,hk,rfl,R5,hps,xr⟩:=hrel.ex
   clear hrel I0
   have kn:=qa (qc rn xr)
   have xwr:=xw3.trans xr
   by_cases hlt:k<xs.length
   ·have hlt':=hlt
    obtain⟨b9,off,rfl,hb9⟩:=hitl (by omega)
    obtain⟨A',c',-,-,-,d3,-,-⟩:=(hits.out.ext xr).its.item k hlt'
    have hone:=kj hsp.out xs[k] (List.getElem_mem hlt')
    rw[hh.out] at hone
    obtain⟨r,e5,e6,e7,ys,e8,e9⟩:=VN hone
    have hnx:qV S xs[k].r.toNat=some ((h':Int),ys):=by rw[e5,Int.toNat_natCast];exact e8
    have hsu:=TA (h:=h') hlt' hnx
    rw[←hh.out] at hsu
    replace hsu:=zH hsu
    have hgk:=qa (qc rs xr)
    rw[e5] at d3
    have hCall:=zH (fun W (hx:Ext wr W)=>HIh.out r ys A1 n1 c1 A2 n2 c2 A3 n3 c3 A4 n4 c4 W HSM.out (HST.out.ext (xwr.trans hx)) e6 e7 e8 e9)
    have hyl:=kY (S:=S) h' ys (by have hm:=(Qn e8).1;unfold qR zN at hm;simp at hm;omega)
    have hpl:ps.length≤15625:=by
     have h1:ps.length=(qS S h (xs.take k)).length:=by rw[←hps,List.length_map]
     have h2:=kY (S:=S) h (xs.take k) (by rw[List.length_take];omega)
     have h3:5 ^ (h+1)≤5 ^ 6:=Nat.pow_le_pow_right (by omega) (by omega)
     omega
    have hyl2:(qS S h' ys).length≤15625:=Nat.le_trans hyl (show 5 ^ (h'+1)≤5 ^ 6 from Nat.pow_le_pow_right (by omega) (by have:=hh.out;omega))
    generalize hIT:qS S h' ys=its at *
    clear hnx e5 hone e8 e9 hIT hyl hgk
    obtain⟨AR,cR,eR,hcr1,hcr2⟩:=qw R5.1
    have hc1:decide (k<xs.length)=true:=decide_eq_true hlt
    have hwk:=zH (IntWalk.wrap64_in ((k:Int)+1) (by omega))
    go_upto_region 8 with fail
    have gS:∀ W,qu.r wr W→∀ i,W.cell? ⟨w.heap.size,i,none⟩=#[.slice A1 n1 c1,.slice A2 n2 c2,.slice A3 n3 c3,.slice A4 n4 c4][i]?:=fun W h=>qa (qc (qc rs xr) h)
    have gN:∀ W,qu.r wr W→∀ i,W.cell? ⟨w2.heap.size,i,none⟩=#[.int .i64 h,.slice (some ⟨b9,off,none⟩) xs.length c][i]?:=fun W h=>qa (qc (qc rn xr) h)
    have gD:∀ W,qu.r wr W→W.cell? ⟨b9,off+k*5+3,none⟩=some (.int .i64 (r:Int)):=fun W h=>Ext.cell h d3
    replace R5:=zH R5
    replace hps:=zH hps
    refine qv (by kernel_rfl) ?_
    refine Qu (w:=wr) qu (qE [(8,GX wr.heap.size its.length its)]) [true,true,true,true,true,true,true,true,true] 2 (by kernel_rfl) (by kernel_rfl) (by kernel_rfl) (by kernel_rfl) (by kernel_rfl) (by kernel_rfl) (by kernel_rfl) ?st (Rel.drew _ _) ?walk
    case st=>exact qm (by simp only[List.forall_mem_cons];exact⟨fun p=>zD (UA _ _ _ p),fun _ h=>by cases h⟩)
    case walk =>
     intro K hK
     dsimp only[qz]
     repeat ((first|(refine qf ?_ (by rfl) (by rfl) (fun W hW _=>⟨W,?_,Rel.refl _ W⟩) ?_;rotate_left;(first|(go_simp;with_reducible rfl)|(go_simp;done)))|(refine qj (by rfl) ?_));try simp only[Act.put,qi,qe,qb,qg,qbs,zA,zB,zC])
     refine qA (GX wr.heap.size its.length its) (by rfl) (by rfl) (fun W hW _=>?_) (fun p8=>?_)
     ·have hWx:Ext wr W:=hW
      refine qau ?_ ((hCall.out W hWx).mono fun e w' hh=>?_)
      ·go_simp
      obtain⟨v,rfl,⟨A8,c8,rfl,h8⟩,hx8⟩:=hh
      exact⟨(A8,c8),rfl,h8.mono hWx.size,hx8⟩
     obtain⟨A8,c8⟩:=p8
     simp only[Act.put,qi,qe,qb,qg,qbs,zA,zB,zC]
     refine qD (hK _ _ fun W hW hF=>?_)
     obtain hI8:zU wr.heap.size W (.slice A8 its.length c8) its:=(hF 8).1
     clear hF hK gS gN gD
     have hWx:Ext wr W:=hW
     have R5W:=R5.out.ext hWx
     obtain⟨qs,q1,⟨A9,c9,q2,q3,q4,q5⟩,q6,q7,q8⟩:=hI8
     simp only[Value.slice.injEq,true_and] at q2
     obtain⟨rfl,rfl⟩:=q2
     obtain⟨i0,hi,hz0,hz1,hz2⟩:=info_parts Tryz.info_item
     have hql:qs.length=its.length:=by rw[←q1,List.length_map]
     have hown:=R5W.1
     rw[eR] at hown
     dsimp only[List.drop,List.length_cons,List.length_nil]
     refine qM _ rfl (.tmp 27) (.tmp 35) 44 rfl w3.heap.size 38 i0 (.agg #[.int .u8 0,.int .u32 0,.int .u32 0,.int .i64 0,.slice none 0 0]) 5 48 Tryz.underlying44 hi hz0 hz1 hz2 rfl (by decide) _ _ _ (by exact rfl) hown W.heap.size A8 its.length c8 (zj qs) rfl q5 (qdl fun p hp=>(q6 p hp).1) (by omega) (by decide) (Nat.le_trans xr.size hWx.size) ?_
     intro v8 w8 own8 hg8 hB8 hD8
     rw[←eR] at hg8 hD8
     have hown8:=zY R5.out.1
     have R8:=R5W.extend (qs:=qs) (fun p hp=>⟨⟨(q6 p hp).1,(q8 p hp).mono xr.size⟩,(q6 p hp).2,zV.of_from (q8 p hp) (fun g hg=>(hown8 g hg).2)⟩) rfl (by rw[hql];exact own8) hD8 hg8
     have IR:ItI S h xs w3 v8 (.int .i64 ((k:Int)+1)) w8:=⟨k+1,ps++qs,hlt',rfl,R8,by rw[List.map_append,hps.out,q1,hsu.out],Below.trans (xr.trans hWx) hB8⟩
     replace IR:=zH IR
     clear own8 hg8 hB8 hD8 R8 R5W hown hi hz0 hz1 hz2 q3 q4 q5
     go_wp2
     refine Qw ?_
     go_wp2_with fail
     refine⟨IR.out,?_⟩
     simp[intOf]
     omega
   ·obtain rfl:k=xs.length:=by omega
    rw[List.take_length] at hps
    obtain⟨hI,A',c',e'⟩:=R5.its (Nat.le_refl _)
    rw[hps] at hI
    have hpl:ps.length=(qS S h xs).length:=by rw[←hps,List.length_map]
    have HQ:zE (fun v W=>∃ A c,v=.slice A (qS S h xs).length c∧zU w.heap.size W v (qS S h xs)) w (.returned _) wr:=⟨_,rfl,⟨A',c',e'.trans (by rw[hpl]),hI.mono xw3.size⟩,xwr⟩
    replace HQ:=zH HQ
    replace R5:=zH R5
    replace hps:=zH hps
    clear hI e'
    go_wp2
    exact Gf rfl rfl HQ.out
theorem Gq (S:Sto):∀ h:Nat,qcr S h
 |0=>Gx S 0 fun _ e=>by omega
 |h+1=>Gx S (h+1) fun h' e=>by
  obtain rfl:h=h':=by omega
  exact Gq S h
theorem To {S:Sto}:∀ (h:Nat) (xs:List It),(∀ x∈xs,Yk x)→∀ y∈qS S h xs,Yk y
 |0,xs,hx,y,hy=>hx y hy
 |h+1,xs,_,y,hy=>by
  rw[je] at hy
  obtain⟨z,hz,hy⟩:=List.mem_flatMap.1 hy
  rcases hn:qV S z.r.toNat with _|⟨lvl,ys⟩
  ·rw[hn] at hy;cases hy
  ·rw[hn] at hy
   exact To h ys (fun x hx=>((Qn hn).2.1 x hx).1) y hy
def AllQ (l:List It) (w:World) (e:Ending) (w':World):Prop:=Below w.heap.size w w' ∧
 ((l.all jF=false∧e=.returned (.tuple #[.slice none 0 0,.bool false]))∨(l.all jF=true∧∃ v,e=.returned (.tuple #[v,.bool true])∧w'.ownsRow w.heap.size 70 4 v l.length (Zu (l.map Qq))))
structure AlI (l:List It) (w3:World) (v i:Value) (wr:World):Prop where
 ex:∃ k:Nat,k≤l.length∧i=.int .i64 (k:Int)∧(l.take k).all jF=true∧wr.ownsRow w3.heap.size 70 4 v k (Zu ((l.take k).map Qq))∧Below w3.heap.size w3 wr
theorem qdF {R:Ending→World→Prop} {a:Act} {W:World} {u v:Value} (h2:a.tmps[2]?.getD undef=u) (h3:a.tmps[3]?.getD undef=v) (hd:a.defers=[]) (hR:R (.returned (.tuple #[u,v])) W):bodyPost Tryz.prog Tryz.f107 R .ret a W:=by
 refine bodyPost_ret (v:=.tuple #[u,v]) ?_ hd hR
 simp[results,Tryz.results107,go_sem,h2,h3]
set_option maxHeartbeats 4000000 in
set_option maxRecDepth 100000 in
theorem all_any (A1:Option Addr) (n1 c1:Nat) (A2:Option Addr) (n2 c2:Nat) (A3:Option Addr) (n3 c3:Nat) (A4:Option Addr) (n4 c4:Nat) (gen next:Int) (dead:Value) (S:Sto) (a h:Nat) (xs:List It) (w:World) (hS:qB S=true)
  (hst:qH w w.heap.size (.slice A1 n1 c1) (.slice A2 n2 c2) (.slice A3 n3 c3) (.slice A4 n4 c4) S) (ha:8≤a) (ha2:a<256) (hn:qV S a=some ((h:Int),xs)) (hsp:(QL S h xs).isSome=true) :
  Calls Tryz.prog 107 #[.agg (qC (.slice A1 n1 c1) (.slice A2 n2 c2) (.slice A3 n3 c3) (.slice A4 n4 c4) gen (a:Int) next dead)] w (AllQ (qS S h xs) w):=by
 have HI:=zH (fun W (hx:Ext w W)=>Gq S h a xs A1 n1 c1 A2 n2 c2 A3 n3 c3 A4 n4 c4 W hS (hst.ext hx) ha ha2 hn hsp)
 have hok:=To (S:=S) h xs (fun x hx=>((Qn hn).2.1 x hx).1)
 have hlen:(qS S h xs).length≤15625:=by
  have hmay:=(Qn hn).1
  have h1:xs.length≤5:=by unfold qR zN at hmay;simp at hmay;omega
  have h2:h≤5:=by unfold qR zN at hmay;simp at hmay;omega
  exact Nat.le_trans (kY (S:=S) h xs h1) (show 5 ^ (h+1)≤5 ^ 6 from Nat.pow_le_pow_right (by omega) (by omega))
 clear hst hn hsp hS
 generalize qS S h xs=l at *
 replace hok:=zH hok
 go_enter Tryz.func107,Tryz.ntmps107
 go_wp2_with fail
 generalize hw1:World.alloc w _=w1
 have x1:Ext w w1:=by rw[←hw1];exact Ext.alloc _ _
 clear hw1
 refine(HI.out w1 x1).mono ?_
 clear HI
 rintro e w2 ⟨v,rfl,⟨A,c,rfl,hits⟩,hB⟩
 have x2:Ext w w2:=x1.trans hB
 have hA:=hits.its.at_.2.2.2
 clear hB
 have I0:AlI l w2 (.slice none 0 0) (.int .i64 0) w2:=⟨0,Nat.zero_le _,rfl,rfl,World.ownsRow_nil _ _ _ _,Ext.refl _⟩
 replace I0:=zH I0
 replace hits:=zH hits
 go_wp2_with fail
 go_loopw [5,6] (fun v i wr=>AlI l w2 v i wr) (fun _ i _=>l.length-(intOf i).toNat)
 case atStart=>exact I0.out
 case round =>
  obtain⟨k,hk,rfl,hall,own,xr⟩:=hrel.ex
  clear hrel I0
  have xwr:Below w.heap.size w wr:=x2.trans xr
  by_cases hlt:k<l.length
  ·have hlt':=hlt
   obtain⟨b9,off,rfl,hb9⟩:=hA (by omega)
   obtain⟨A',c',d0,d1,d2,d3,d4,hby⟩:=(hits.out.its.below xr).item k hlt'
   have hxk:=hok.out l[k] (List.getElem_mem hlt')
   have HV:=zH (fun W (hx:Ext wr W)=>qbu l[k] hxk A' c' W (((hby.more xr.size).below hx).more hx.size))
   have hT:=zH (JR jF l k hlt')
   have hBD:=zH (@Kf _ jF l k hlt')
   have hTK:=zH (List.take_succ_eq_append_getElem hlt')
   generalize l[k]=x at *
   clear hby hxk
   obtain⟨AR,cR,rfl,hcr1,hcr2⟩:=qw own
   have hc1:decide (k<l.length)=true:=decide_eq_true hlt
   have hwk:=zH (IntWalk.wrap64_in ((k:Int)+1) (by omega))
   replace hall:=zH hall
   replace own:=zH own
   go_wp2_with fail
   refine(HV.out wr (Ext.refl _)).mono ?_
   clear HV
   rintro e w4 ⟨u,rfl,⟨v',rfl,hv'⟩,hB4⟩
   have x4:Ext wr w4:=hB4
   have own4:=QK own.out x4
   have xw4:=xwr.trans (Below.mono x4 xwr.size)
   clear hB4 d0 d1 d2 d3 d4
   rcases hiv:jF x with _|_
   ·have HQ:AllQ l w (.returned (.tuple #[.slice none 0 0,.bool false])) (w4.alloc (.cells (XS v') 70)):=⟨Below.alloc xw4 (by have:=xw4.size;omega) _,.inl ⟨hBD.out hiv,rfl⟩⟩
    replace HQ:=zH HQ
    clear own4 hv' hiv
    go_wp2_with fail
    exact qdF rfl rfl rfl HQ.out
   ·obtain rfl:=hv' hiv
    obtain⟨i0,hi,hz0,hz1,hz2⟩:=info_parts Tryz.info_vol
    replace hiv:=zH hiv
    replace own4:=zH own4
    go_upto_region 9 with fail
    generalize hw5:World.alloc w4 _=w5
    have x5:Ext w4 w5:=by rw[←hw5];exact Ext.alloc _ _
    have r5:w5.heap[w4.heap.size]?=some (.cells (XS (Qq x)) 70 (0,0)):=by rw[←hw5];exact World.alloc_heap_at _ _ _ rfl
    have own5:=zH (QK own4.out x5)
    have k5:=qa r5
    clear hw5 own4
    go_wp2_with (at_builtin;refine qI ?_)
    refine Qc.go (QP _ rfl (.tmp 30) (.tmp 32) 107 rfl w2.heap.size 70 i0 (.agg #[.int .u32 0,.int .i64 0,.bool false,.int .u32 0]) 4 24 Tryz.underlying107 hi hz0 hz1 hz2 rfl (by decide) _ _ _ rfl own5.out (XS (Qq x)) rfl rfl (by simp[Value.oneCell']) (by omega) (by decide) (Nat.le_trans xr.size (Nat.le_trans x4.size x5.size)) ?_)
    intro v8 w8 own8 _ hB8 _
    have IR:AlI l w2 v8 (.int .i64 ((k:Int)+1)) w8:=⟨k+1,hlt',rfl,by rw[hT.out,hall.out,hiv.out];rfl,by
     rw[hTK.out,List.map_append,List.map_singleton,XK]
     exact own8,Below.trans (Below.trans xr (Below.mono (Ext.trans x4 x5) xr.size)) hB8⟩
    replace IR:=zH IR
    clear own8 hB8 hi hz0 hz1 hz2
    go_wp2_with fail
    refine⟨IR.out,?_⟩
    simp[intOf]
    omega
  ·obtain rfl:k=l.length:=by omega
   rw[List.take_length] at hall own
   have HQ:AllQ l w (.returned (.tuple #[_,.bool true])) wr:=⟨xwr,.inr ⟨hall,_,rfl,QT own x2.size⟩⟩
   replace HQ:=zH HQ
   clear own hall
   go_wp2
   exact qdF rfl rfl rfl HQ.out
set_option maxHeartbeats 8000000 in
set_option maxRecDepth 100000 in
theorem qbp (p:KP) (h:Nat) (HL:∀ h':Nat,h=h'+1→GN p (h':Int) false):GoneC p h:=by
 intro xs A c w f hmay hxs hits hC
 have hIts:=hits.its
 obtain⟨-,hc1,hc2,hA⟩:=hIts.at_
 have hlen:xs.length≤5:=by unfold qR zN at hmay;simp at hmay;omega
 have hle5:h≤5:=by unfold qR zN at hmay;simp at hmay;omega
 have hlow:=hC.low
 have HI:=zH hits
 have HXS:=zH hxs
 have HC:=zH hC
 clear hits hIts hmay hxs hC
 go_enter Tryz.func133,Tryz.ntmps133
 go_wp2_with fail
 generalize hw1:World.alloc (World.alloc (World.alloc _ _) _) _=w1
 have x1:Ext w w1:=by rw[←hw1];exact((Ext.alloc _ _).trans (Ext.alloc _ _)).trans (Ext.alloc _ _)
 have B1:GoB p h xs A c w f w1 f:=by
  refine⟨?_,?_,Zf.refl _,(HC.out.ext x1).arr,Qo x1 _,by rw[←hw1];simp,fun a v h1 h0=>by rw[h1] at h0;cases h0⟩
  ·rw[←hw1];exact(Below.heap_alloc _ _ _ (by simp;omega)).trans ((Below.heap_alloc _ _ _ (by simp)).trans (World.alloc_heap_at _ _ _ rfl))
  ·rw[←hw1];exact(Below.heap_alloc _ _ _ (by simp)).trans (World.alloc_heap_at _ _ _ (by simp))
 have q1:w1.heap[w.heap.size+2]?=some (.cells (QV h A xs.length c (0,0,0) (0,0,0) true true) 185 (0,0)):=by rw[←hw1];exact World.alloc_heap_at _ _ _ (by simp)
 have I0:GoI p h xs A c w f (.int .i64 0) w1:=⟨0,f,(0,0,0),(0,0,0),true,Nat.zero_le _,rfl,B1,q1,.inl ⟨rfl,rfl,fun p hp=>by cases hp⟩,fun _ _ y hy=>by simp at hy⟩
 replace I0:=zH I0
 clear hw1 B1 q1 x1
 go_loopw [6] (fun i wr=>GoI p h xs A c w f i wr) (fun i _=>xs.length-(intOf i).toNat)
 case atStart=>exact I0.out
 case round =>
  obtain⟨k,g,fk,lk,b,hk,rfl,HB,rx,hsp,hcl⟩:=hrel.ex
  clear hrel I0
  have rn:=HB.rn
  have rr:=HB.rr
  have kn:=qa rn
  have kx:=qa rx
  have fx:=qd rx
  have hsz:=HB.sz
  have hEND:(b=false∨k=xs.length)→GoneP p h A c xs (vg h A xs.length c fk lk true b) g:=fun hh=>by
   rcases hsp with ⟨rfl,hs⟩|⟨rfl,hs⟩
   ·have hkl:k=xs.length:=hh.elim (fun h1=>by cases h1) id
    subst hkl
    rw[List.take_length] at hs hcl
    exact⟨fk,lk,true,rfl,hs,hcl⟩
   ·exact⟨fk,lk,false,rfl,⟨by rw[hs];rfl,fun q hq=>by rw[hs] at hq;cases hq⟩,fun h=>by cases h⟩
  replace hEND:=zH hEND
  replace hsp:=zH hsp
  replace hcl:=zH hcl
  replace HB:=zH HB
  by_cases hgo:b=true∧k<xs.length
  ·obtain⟨rfl,hlt⟩:=hgo
   have hlt':=hlt
   have hs0:Zz p.S h (xs.take k) fk lk true:=by
    rcases hsp.out with ⟨_,x⟩|⟨x,_⟩
    ·exact x
    ·cases x
   have HKr:=HB.out.ken HC.out
   obtain⟨b0,off,rfl,hb0⟩:=hA (by omega)
   obtain⟨A',c',d0,d1,d2,d3,d4,-⟩:=(HI.out.keep HB.out.gw.size (fun q h1 h2=>World.cell?_of_block (HB.out.gw.block q.block h2 (by simp;omega)))).its.item k hlt'
   have hxr:=HXS.out xs[k] (List.getElem_mem hlt')
   obtain⟨b3,o3,c3,e3,hfN⟩:=ken_now HKr
   have HSTEP:=zH (fun f l b=>@Ke p.S h xs k f l fk lk b hlt')
   have HSTOK:=zH (fun f l=>@YK p.S h xs k f l fk lk hlt')
   have HTK:=zH (List.take_succ_eq_append_getElem hlt')
   have HXE:Hid (xs[k]=xs[k]):=zH rfl
   generalize hxk:xs[k]=x at HXE ⊢ d0 d1 d2 d3 d4 hxr HSTEP HSTOK HTK
   replace HXE:Hid (xs[k]=x):=zH hxk
   clear hxk
   obtain⟨⟨-,-,-,hr0,-⟩,-⟩:=hxr
   obtain⟨hr01,hr02⟩:=hr0
   obtain⟨r,hr⟩:=Int.eq_ofNat_of_zero_le hr01
   rw[hr] at d3 hr02
   have hr2:r<256:=by omega
   replace hr:=zH hr
   have hnow:=hfN r hr2
   generalize hnv:(p.S.now[r]?.getD 0).toNat=nv at *
   replace hnv:=zH hnv
   have hc9:decide (k<xs.length)=true:=decide_eq_true hlt
   clear hr01 hr02 hfN hEND rr
   replace hs0:=zH hs0
   go_upto_region 7 with fail
   generalize hwa:World.alloc (World.alloc _ _) _=wa
   have xa:Ext wr wa:=by rw[←hwa];exact(Ext.alloc _ _).trans (Ext.alloc _ _)
   have ra:wa.heap[wr.heap.size]?=some (.cells #[.int .u8 x.k,.int .u32 x.i,.int .u32 x.o,.int .i64 r,.slice A' x.val.length c'] 38 (0,0)):=by rw[←hwa];exact(Below.heap_alloc _ _ _ (by simp)).trans (World.alloc_heap_at _ _ _ rfl)
   have rb:wa.heap[wr.heap.size+1]?=some (.cells #[.int .u8 x.k,.int .u32 x.i,.int .u32 x.o] 34 (0,0)):=by rw[←hwa];exact World.alloc_heap_at _ _ _ (by simp)
   have rna:=qc rn xa
   have rxa:=qc rx xa
   have za:wr.heap.size+1<wa.heap.size:=(zG.1 rb).1
   have HKa:=HKr.ext xa
   have hnowa:=Ext.cell xa hnow
   clear hwa d0 d1 d2 d3 d4 kn kx fx hnow
   have kn:=qa rna
   have ka:=qa ra
   rcases Nat.eq_zero_or_pos h with hz|hz
   ·have hd:decide ((h:Int)>0)=false:=decide_eq_false (by omega)
    have hd2:decide (0<h)=false:=decide_eq_false (by omega)
    go_upto_region 11 with fail
    obtain⟨is0,hi0⟩:∃ is0:Bool,is0=decide (x.r=0∨0<nv):=⟨_,rfl⟩
    replace hi0:=zH hi0
    have hr0:(((r:Int) == 0)=true∧decide (r=0)=true∧is0=true)∨(((r:Int) == 0)=false∧decide (r=0)=false∧is0=decide (0<nv)):=by
     rw[hi0.out,hr.out]
     rcases Nat.eq_zero_or_pos r with h0|h0
     ·subst h0
      exact .inl ⟨by decide,by decide,by simp⟩
     ·exact .inr ⟨by rw[beq_eq_false_iff_ne];omega,decide_eq_false (by omega),by rw[decide_eq_decide];omega⟩
    have HO:Hid (jp p.S h x (Zp x) (Zp x) is0):=by
     refine zH ?_
     rw[hz]
     unfold jp Yi
     rw[hi0.out,hr.out,Int.toNat_natCast,hnv.out]
     split
     ·rename_i hh
      split at hh
      ·cases hh
      ·rename_i hn
       exact decide_eq_false hn
     ·rename_i hh
      split at hh
      ·rename_i hn
       cases hh
       exact⟨decide_eq_true hn,rfl⟩
      ·cases hh
    have hkr:=HKa.row
    rw[e3] at hkr
    have gK:∀ W,qu.r wa W→∀ i,W.cell? ⟨p.kb,i,none⟩=#[p.v1,p.v2,.slice (some ⟨b3,o3,none⟩) 256 c3,p.v4,.slice (some ⟨p.sb,0,none⟩) 256 256][i]?:=fun W h=>qa (qc hkr h)
    have gN:∀ W,qu.r wa W→W.cell? ⟨b3,o3+r,none⟩=some (.int .u8 (nv:Int)):=fun W h=>Ext.cell h hnowa
    have gA:∀ W,qu.r wa W→∀ i,W.cell? ⟨wr.heap.size,i,none⟩=#[.int .u8 x.k,.int .u32 x.i,.int .u32 x.o,.int .i64 r,.slice A' x.val.length c'][i]?:=fun W h=>qa (qc ra h)
    replace HKa:=zH HKa
    replace HKr:=zH HKr
    replace hkr:=zH hkr
    replace hz:=zH hz
    refine qv (by kernel_rfl) ?_
    refine Qu (w:=wa) qu (qE []) [true,true,true,true,true,true,true,true,true,true,true,true,true,true,true,true] 1 (by kernel_rfl) (by kernel_rfl) (by kernel_rfl) (by kernel_rfl) (by kernel_rfl) (by kernel_rfl) (by kernel_rfl) ?st (Rel.drew _ _) ?walk
    case st=>exact qm (fun _ h=>by cases h)
    case walk =>
     intro K hK
     dsimp only[qz]
     rcases hr0 with ⟨hq1,hq2,hq3⟩|⟨hq1,hq2,hq3⟩
     all_goals
      replace hq3:=zH hq3
      repeat ((first|(refine qf ?_ (by rfl) (by rfl) (fun W hW _=>⟨W,?_,Rel.refl _ W⟩) ?_;rotate_left;(first|(go_simp;with_reducible rfl)|(go_simp;done)))|(refine qj (by rfl) ?_));try simp only[Act.put,qi,qe,qb,qg,qb,zA,zB,zC])
      try (
       refine qf (.pointer (some ⟨b3,o3+r,none⟩)) (by rfl) (by rfl) (fun W hW _=>⟨W,?_,Rel.refl _ W⟩) ?_
       ·go_simp
        intro hge
        exfalso
        omega
       simp only[Act.put,qi,qe,qb,qg,qb,zA,zB,zC])
      repeat ((first|(refine qf ?_ (by rfl) (by rfl) (fun W hW _=>⟨W,?_,Rel.refl _ W⟩) ?_;rotate_left;(first|(go_simp;with_reducible rfl)|(go_simp;done)))|(refine qj (by rfl) ?_));try simp only[Act.put,qi,qe,qb,qg,qb,zA,zB,zC])
      refine qD (hK _ _ fun W hW hF=>?_)
      clear hF hK gK gN gA
      have hW':Ext wa W:=hW
      dsimp only[List.drop,List.length_cons,List.length_nil]
      have rxW:=qc rxa hW'
      have kx:=qa rxW
      have fx:=qd rxW
      have HM:=GoM.of0 HB.out HC.out xa hW' za rxa ra rb HO.out hz.out
      rw[hq3.out] at HM
      go_wp2
      refine Qw ?_
      generalize hw7:World.setCell W _ _=w7 at *
      rw[←hq3.out] at HM
      generalize Zp x=L1 at HM
      clear hw7 rxW kx fx kn ka ra rb rna rxa hq1 hq2 hq3 HO hi0
      have ra7:=HM.ra
      have rb7:=HM.rb
      have rx7:=HM.rx
      have ka:=qa ra7
      have kb:=qa rb7
      have kx:=qa rx7
      have fx:=qd rx7
      replace HM:=zH HM
      have HCK:=zH (fun h0=>hcl.out (by trivial) h0)
      clear ra7 rb7
      rcases Nat.eq_zero_or_pos k with hk0|hk0
      ·have hk1:decide ((k:Int)>0)=false:=decide_eq_false (by omega)
       have hk2:((k:Int) == 0)=true:=by rw[beq_iff_eq];omega
       have hk3:decide (k=0)=true:=decide_eq_true hk0
       have hk4:decide (0<k)=false:=decide_eq_false (by omega)
       have hwk:=zH (IntWalk.wrap64_in ((k:Int)+1) (by omega))
       have HN:=HM.out.next HC.out hlt' HXE.out hs0.out HCK.out (qk.trans (qk.trans (qk.trans (qk.trans (qk.trans qk))))) (qh (qh (qh (qh (qh (qh rx7 2 (.int .u8 x.k)) 3 (.int .u32 x.i)) 4 (.int .u32 x.o)) 5 (.int .u8 L1.1)) 6 (.int .u32 L1.2.1)) 7 (.int .u32 L1.2.2)) (by rw[if_pos hk0]) (.inl ⟨hk0,rfl⟩)
       replace HN:=zH HN
       replace hk0:=zH hk0
       clear rx7
       go_wp2_with fail
       try rw[hwk.out]
       refine⟨HN.out,?_⟩
       simp[intOf]
       omega
      ·have hk1:decide ((k:Int)>0)=true:=decide_eq_true (by omega)
       have hk2:((k:Int) == 0)=false:=by rw[beq_eq_false_iff_ne];omega
       have hk3:decide (k=0)=false:=decide_eq_false (by omega)
       have hk4:decide (0<k)=true:=decide_eq_true hk0
       have hkz:=zH hk0
       have hwk:=zH (IntWalk.wrap64_in ((k:Int)+1) (by omega))
       clear hk0 rx7
       go_wp2_with fail
       refine(JO lk.1 lk.2.1 lk.2.2 x.k x.i x.o _).mono ?_
       rintro e wl ⟨rfl,hBl⟩
       have HM8:=HM.out.ext HC.out hBl
       have ra7:=HM8.ra
       have rb7:=HM8.rb
       have rx7:=HM8.rx
       clear ka kb kx fx hBl HM
       have ka:=qa ra7
       have kb:=qa rb7
       have kx:=qa rx7
       have fx:=qd rx7
       rcases hls:jk lk.1 lk.2.1 lk.2.2 x.k x.i x.o with _|_
       ·have HN:=HM8.next HC.out hlt' HXE.out hs0.out HCK.out (qk.trans (qk.trans (qk.trans qk))) (qh (qh (qh (qh rx7 9 (.bool false)) 5 (.int .u8 L1.1)) 6 (.int .u32 L1.2.1)) 7 (.int .u32 L1.2.2)) (by rw[if_neg (by have:=hkz.out;omega)]) (.inr ⟨hkz.out,.inr ⟨hls,rfl⟩⟩)
        replace HN:=zH HN
        clear rx7 ra7 rb7 HM8
        go_wp2_with fail
        try rw[hwk.out]
        refine⟨HN.out,?_⟩
        simp[intOf]
        omega
       ·have HN:=HM8.next HC.out hlt' HXE.out hs0.out HCK.out (qk.trans (qk.trans qk)) (qh (qh (qh rx7 5 (.int .u8 L1.1)) 6 (.int .u32 L1.2.1)) 7 (.int .u32 L1.2.2)) (by rw[if_neg (by have:=hkz.out;omega)]) (.inr ⟨hkz.out,.inl ⟨hls,rfl⟩⟩)
        replace HN:=zH HN
        clear rx7 ra7 rb7 HM8
        go_wp2_with fail
        try rw[hwk.out]
        refine⟨HN.out,?_⟩
        simp[intOf]
        omega
   ·obtain⟨h',hh⟩:∃ h',h=h'+1:=⟨h-1,by omega⟩
    have HLc:=HL h' hh
    rw[show (h':Int)=(h:Int)-1 by omega] at HLc
    have hd:decide ((h:Int)>0)=true:=decide_eq_true (by omega)
    have hd2:decide (0<h)=true:=decide_eq_true hz
    have hw64:wrap64 ((h:Int)-1)=(h:Int)-1:=IntWalk.wrap64_in _ (by omega)
    replace hh:=zH hh
    replace HLc:=zH (HLc r wa g HKa)
    go_wp2_with fail
    refine HLc.out.mono ?_
    clear HLc
    rintro e w6 ⟨v,g',rfl,⟨lvl,A9,n9,c9,F1,L1,d9,rfl,hknown⟩,hgr,hm,hg,hn⟩
    have C6:=HKa.after hgr hm hg hn
    have HO:Hid (jp p.S h x F1 L1 (okL p.S (h-1) r)):=by
     refine zH ?_
     rw[show (h:Int)-1=(h':Int) by have:=hh.out;omega] at hknown ⊢
     have hcl:okL p.S (h':Int) r=true→JP p.S h' r=some (F1,L1):=fun hok=>Xp (C6.known _ _ (hknown hok).2) hok
     have hol:=Xh p.S h' r
     unfold jp
     rw[hh.out,Kg,hr.out]
     rcases hls:JP p.S h' r with _|q
     ·rw[hls] at hol;exact hol
     ·rw[hls] at hol
      have h1:=hcl hol
      rw[hls] at h1
      cases h1
      exact⟨hol,rfl⟩
    have HCL:Hid (okL p.S (h-1) r=true→0<h→(g' x.r).isSome=true):=zH fun hok _=>by rw[hr.out,(hknown hok).2];rfl
    clear hknown
    generalize okL p.S ((h:Int)-1) r=B at *
    have ra6:=(hg.block wr.heap.size (by omega) (by simp;omega)).trans ra
    have rb6:=(hg.block (wr.heap.size+1) (by omega) (by simp;omega)).trans rb
    have rn6:=(hg.block w.heap.size (by omega) (by simp;omega)).trans rna
    have rx6:=(hg.block (w.heap.size+2) (by omega) (by simp;omega)).trans rxa
    have z6:=hg.size
    clear kn ka
    have ka:=qa ra6
    have kb:=qa rb6
    have fb:=qd rb6
    have kx:=qa rx6
    have fx:=qd rx6
    replace hz:=zH hz
    replace C6:=zH C6
    go_upto_region 9 with fail
    generalize hw8:World.alloc w6 _=w8
    have x8:Ext w6 w8:=by rw[←hw8];exact Ext.alloc _ _
    have r98:w8.heap[w6.heap.size]?=some (.cells (QV lvl A9 n9 c9 F1 L1 d9 B) 185 (0,0)):=by rw[←hw8];exact World.alloc_heap_at _ _ _ rfl
    have ra8:=qc ra6 x8
    have rb8:=qc rb6 x8
    have rn8:=qc rn6 x8
    have rx8:=qc rx6 x8
    have z8:w6.heap.size<w8.heap.size:=(zG.1 r98).1
    clear hw8 ka kb fb kx fx ra6 rb6 rn6 rx6 ra rb rna rxa
    have ka:=qa ra8
    have kb:=qa rb8
    have fb:=qd rb8
    have kx:=qa rx8
    have fx:=qd rx8
    have k9:=qa r98
    have g69:=Chg.ext (Chg.refl wr.heap.size wa.heap.size (w.heap.size+2) w6) x8
    rcases hB:B with _|_
    ·rw[hB] at k9
     have HM:=GoM.of8 (is':=false) (L1:=L1) HB.out HC.out xa hgr hm hg hn g69 za rx8 ra8 rb8 (fun h=>by cases h) (fun _=>⟨_,_,_,HO.out,.inl hB⟩) (fun h=>by cases h)
     go_upto_region 12 with fail
     generalize hw7:World.setCell (World.setCell (World.setCell (World.setCell w8 _ _) _ _) _ _) _ _=w7 at *
     clear hw7 kx fx ka kb fb k9 ra8 rb8 rn8 rx8 r98 HO HCL hB
     have ra7:=HM.ra
     have rb7:=HM.rb
     have rx7:=HM.rx
     have ka:=qa ra7
     have kb:=qa rb7
     have kx:=qa rx7
     have fx:=qd rx7
     replace HM:=zH HM
     have HCK:=zH (fun h0 y hy=>hgr.some_ _ (hcl.out (by trivial) h0 y hy))
     clear ra7 rb7
     rcases Nat.eq_zero_or_pos k with hk0|hk0
     ·have hk1:decide ((k:Int)>0)=false:=decide_eq_false (by omega)
      have hk2:((k:Int) == 0)=true:=by rw[beq_iff_eq];omega
      have hk3:decide (k=0)=true:=decide_eq_true hk0
      have hk4:decide (0<k)=false:=decide_eq_false (by omega)
      have hwk:=zH (IntWalk.wrap64_in ((k:Int)+1) (by omega))
      have HN:=HM.out.next HC.out hlt' HXE.out hs0.out HCK.out (qk.trans (qk.trans (qk.trans (qk.trans (qk.trans qk))))) (qh (qh (qh (qh (qh (qh rx7 2 (.int .u8 x.k)) 3 (.int .u32 x.i)) 4 (.int .u32 x.o)) 5 (.int .u8 L1.1)) 6 (.int .u32 L1.2.1)) 7 (.int .u32 L1.2.2)) (by rw[if_pos hk0]) (.inl ⟨hk0,rfl⟩)
      replace HN:=zH HN
      replace hk0:=zH hk0
      clear rx7
      go_wp2_with fail
      try rw[hwk.out]
      refine⟨HN.out,?_⟩
      simp[intOf]
      omega
     ·have hk1:decide ((k:Int)>0)=true:=decide_eq_true (by omega)
      have hk2:((k:Int) == 0)=false:=by rw[beq_eq_false_iff_ne];omega
      have hk3:decide (k=0)=false:=decide_eq_false (by omega)
      have hk4:decide (0<k)=true:=decide_eq_true hk0
      have hkz:=zH hk0
      have hwk:=zH (IntWalk.wrap64_in ((k:Int)+1) (by omega))
      clear hk0 rx7
      go_wp2_with fail
      refine(JO lk.1 lk.2.1 lk.2.2 x.k x.i x.o _).mono ?_
      rintro e wl ⟨rfl,hBl⟩
      have HM8:=HM.out.ext HC.out hBl
      have ra7:=HM8.ra
      have rb7:=HM8.rb
      have rx7:=HM8.rx
      clear ka kb kx fx hBl HM
      have ka:=qa ra7
      have kb:=qa rb7
      have kx:=qa rx7
      have fx:=qd rx7
      rcases hls:jk lk.1 lk.2.1 lk.2.2 x.k x.i x.o with _|_
      ·have HN:=HM8.next HC.out hlt' HXE.out hs0.out HCK.out (qk.trans (qk.trans (qk.trans qk))) (qh (qh (qh (qh rx7 9 (.bool false)) 5 (.int .u8 L1.1)) 6 (.int .u32 L1.2.1)) 7 (.int .u32 L1.2.2)) (by rw[if_neg (by have:=hkz.out;omega)]) (.inr ⟨hkz.out,.inr ⟨hls,rfl⟩⟩)
       replace HN:=zH HN
       clear rx7 ra7 rb7 HM8
       go_wp2_with fail
       try rw[hwk.out]
       refine⟨HN.out,?_⟩
       simp[intOf]
       omega
      ·have HN:=HM8.next HC.out hlt' HXE.out hs0.out HCK.out (qk.trans (qk.trans qk)) (qh (qh (qh rx7 5 (.int .u8 L1.1)) 6 (.int .u32 L1.2.1)) 7 (.int .u32 L1.2.2)) (by rw[if_neg (by have:=hkz.out;omega)]) (.inr ⟨hkz.out,.inl ⟨hls,rfl⟩⟩)
       replace HN:=zH HN
       clear rx7 ra7 rb7 HM8
       go_wp2_with fail
       try rw[hwk.out]
       refine⟨HN.out,?_⟩
       simp[intOf]
       omega
    ·rw[hB] at k9
     by_cases hF:F1=Zp x
     ·subst hF
      have HM:=GoM.of8 (is':=true) (L1:=L1) HB.out HC.out xa hgr hm hg hn g69 za rx8 ra8 rb8 (fun _=>by rw[←hB];exact HO.out) (fun h=>by cases h) (fun _=>HCL.out hB)
      go_upto_region 12 with fail
      generalize hw7:World.setCell (World.setCell (World.setCell (World.setCell w8 _ _) _ _) _ _) _ _=w7 at *
      clear hw7 kx fx ka kb fb k9 ra8 rb8 rn8 rx8 r98 HO HCL hB
      have ra7:=HM.ra
      have rb7:=HM.rb
      have rx7:=HM.rx
      have ka:=qa ra7
      have kb:=qa rb7
      have kx:=qa rx7
      have fx:=qd rx7
      replace HM:=zH HM
      have HCK:=zH (fun h0 y hy=>hgr.some_ _ (hcl.out (by trivial) h0 y hy))
      clear ra7 rb7
      rcases Nat.eq_zero_or_pos k with hk0|hk0
      ·have hk1:decide ((k:Int)>0)=false:=decide_eq_false (by omega)
       have hk2:((k:Int) == 0)=true:=by rw[beq_iff_eq];omega
       have hk3:decide (k=0)=true:=decide_eq_true hk0
       have hk4:decide (0<k)=false:=decide_eq_false (by omega)
       have hwk:=zH (IntWalk.wrap64_in ((k:Int)+1) (by omega))
       have HN:=HM.out.next HC.out hlt' HXE.out hs0.out HCK.out (qk.trans (qk.trans (qk.trans (qk.trans (qk.trans qk))))) (qh (qh (qh (qh (qh (qh rx7 2 (.int .u8 x.k)) 3 (.int .u32 x.i)) 4 (.int .u32 x.o)) 5 (.int .u8 L1.1)) 6 (.int .u32 L1.2.1)) 7 (.int .u32 L1.2.2)) (by rw[if_pos hk0]) (.inl ⟨hk0,rfl⟩)
       replace HN:=zH HN
       replace hk0:=zH hk0
       clear rx7
       go_wp2_with fail
       try rw[hwk.out]
       refine⟨HN.out,?_⟩
       simp[intOf]
       omega
      ·have hk1:decide ((k:Int)>0)=true:=decide_eq_true (by omega)
       have hk2:((k:Int) == 0)=false:=by rw[beq_eq_false_iff_ne];omega
       have hk3:decide (k=0)=false:=decide_eq_false (by omega)
       have hk4:decide (0<k)=true:=decide_eq_true hk0
       have hkz:=zH hk0
       have hwk:=zH (IntWalk.wrap64_in ((k:Int)+1) (by omega))
       clear hk0 rx7
       go_wp2_with fail
       refine(JO lk.1 lk.2.1 lk.2.2 x.k x.i x.o _).mono ?_
       rintro e wl ⟨rfl,hBl⟩
       have HM8:=HM.out.ext HC.out hBl
       have ra7:=HM8.ra
       have rb7:=HM8.rb
       have rx7:=HM8.rx
       clear ka kb kx fx hBl HM
       have ka:=qa ra7
       have kb:=qa rb7
       have kx:=qa rx7
       have fx:=qd rx7
       rcases hls:jk lk.1 lk.2.1 lk.2.2 x.k x.i x.o with _|_
       ·have HN:=HM8.next HC.out hlt' HXE.out hs0.out HCK.out (qk.trans (qk.trans (qk.trans qk))) (qh (qh (qh (qh rx7 9 (.bool false)) 5 (.int .u8 L1.1)) 6 (.int .u32 L1.2.1)) 7 (.int .u32 L1.2.2)) (by rw[if_neg (by have:=hkz.out;omega)]) (.inr ⟨hkz.out,.inr ⟨hls,rfl⟩⟩)
        replace HN:=zH HN
        clear rx7 ra7 rb7 HM8
        go_wp2_with fail
        try rw[hwk.out]
        refine⟨HN.out,?_⟩
        simp[intOf]
        omega
       ·have HN:=HM8.next HC.out hlt' HXE.out hs0.out HCK.out (qk.trans (qk.trans qk)) (qh (qh (qh rx7 5 (.int .u8 L1.1)) 6 (.int .u32 L1.2.1)) 7 (.int .u32 L1.2.2)) (by rw[if_neg (by have:=hkz.out;omega)]) (.inr ⟨hkz.out,.inl ⟨hls,rfl⟩⟩)
        replace HN:=zH HN
        clear rx7 ra7 rb7 HM8
        go_wp2_with fail
        try rw[hwk.out]
        refine⟨HN.out,?_⟩
        simp[intOf]
        omega
     ·have HM:=GoM.of8 (is':=false) (L1:=L1) HB.out HC.out xa hgr hm hg hn g69 za rx8 ra8 rb8 (fun h=>by cases h) (fun _=>⟨_,_,_,HO.out,.inr hF⟩) (fun h=>by cases h)
      replace hF:=zH hF
      go_upto_region 12 with fail
      all_goals first
       |exact absurd (Prod.ext ‹F1.1=x.k› (Prod.ext ‹F1.2.1=x.i› ‹F1.2.2=x.o›)) hF.out
       |(generalize hw7:World.setCell (World.setCell (World.setCell (World.setCell w8 _ _) _ _) _ _) _ _=w7 at *
         clear hw7 kx fx ka kb fb k9 ra8 rb8 rn8 rx8 r98 HO HCL hB)
      all_goals
       have ra7:=HM.ra
       have rb7:=HM.rb
       have rx7:=HM.rx
       have ka:=qa ra7
       have kb:=qa rb7
       have kx:=qa rx7
       have fx:=qd rx7
       replace HM:=zH HM
       have HCK:=zH (fun h0 y hy=>hgr.some_ _ (hcl.out (by trivial) h0 y hy))
       clear ra7 rb7
       rcases Nat.eq_zero_or_pos k with hk0|hk0
       ·have hk1:decide ((k:Int)>0)=false:=decide_eq_false (by omega)
        have hk2:((k:Int) == 0)=true:=by rw[beq_iff_eq];omega
        have hk3:decide (k=0)=true:=decide_eq_true hk0
        have hk4:decide (0<k)=false:=decide_eq_false (by omega)
        have hwk:=zH (IntWalk.wrap64_in ((k:Int)+1) (by omega))
        have HN:=HM.out.next HC.out hlt' HXE.out hs0.out HCK.out (qk.trans (qk.trans (qk.trans (qk.trans (qk.trans qk))))) (qh (qh (qh (qh (qh (qh rx7 2 (.int .u8 x.k)) 3 (.int .u32 x.i)) 4 (.int .u32 x.o)) 5 (.int .u8 L1.1)) 6 (.int .u32 L1.2.1)) 7 (.int .u32 L1.2.2)) (by rw[if_pos hk0]) (.inl ⟨hk0,rfl⟩)
        replace HN:=zH HN
        replace hk0:=zH hk0
        clear rx7
        go_wp2_with fail
        try rw[hwk.out]
        refine⟨HN.out,?_⟩
        simp[intOf]
        omega
       ·have hk1:decide ((k:Int)>0)=true:=decide_eq_true (by omega)
        have hk2:((k:Int) == 0)=false:=by rw[beq_eq_false_iff_ne];omega
        have hk3:decide (k=0)=false:=decide_eq_false (by omega)
        have hk4:decide (0<k)=true:=decide_eq_true hk0
        have hkz:=zH hk0
        have hwk:=zH (IntWalk.wrap64_in ((k:Int)+1) (by omega))
        clear hk0 rx7
        go_wp2_with fail
        refine(JO lk.1 lk.2.1 lk.2.2 x.k x.i x.o _).mono ?_
        rintro e wl ⟨rfl,hBl⟩
        have HM8:=HM.out.ext HC.out hBl
        have ra7:=HM8.ra
        have rb7:=HM8.rb
        have rx7:=HM8.rx
        clear ka kb kx fx hBl HM
        have ka:=qa ra7
        have kb:=qa rb7
        have kx:=qa rx7
        have fx:=qd rx7
        rcases hls:jk lk.1 lk.2.1 lk.2.2 x.k x.i x.o with _|_
        ·have HN:=HM8.next HC.out hlt' HXE.out hs0.out HCK.out (qk.trans (qk.trans (qk.trans qk))) (qh (qh (qh (qh rx7 9 (.bool false)) 5 (.int .u8 L1.1)) 6 (.int .u32 L1.2.1)) 7 (.int .u32 L1.2.2)) (by rw[if_neg (by have:=hkz.out;omega)]) (.inr ⟨hkz.out,.inr ⟨hls,rfl⟩⟩)
         replace HN:=zH HN
         clear rx7 ra7 rb7 HM8
         go_wp2_with fail
         try rw[hwk.out]
         refine⟨HN.out,?_⟩
         simp[intOf]
         omega
        ·have HN:=HM8.next HC.out hlt' HXE.out hs0.out HCK.out (qk.trans (qk.trans qk)) (qh (qh (qh rx7 5 (.int .u8 L1.1)) 6 (.int .u32 L1.2.1)) 7 (.int .u32 L1.2.2)) (by rw[if_neg (by have:=hkz.out;omega)]) (.inr ⟨hkz.out,.inl ⟨hls,rfl⟩⟩)
         replace HN:=zH HN
         clear rx7 ra7 rb7 HM8
         go_wp2_with fail
         try rw[hwk.out]
         refine⟨HN.out,?_⟩
         simp[intOf]
         omega
  ·have hv:=hEND.out (by
    by_cases hb:b=true
    ·exact .inr (Nat.le_antisymm hk (Nat.not_lt.1 fun h=>hgo ⟨hb,h⟩))
    ·exact .inl (by simpa using hb))
   have hcs:decide (k<xs.length)=false∨(decide (k<xs.length)=true∧b=false):=by
    by_cases hlt:k<xs.length
    ·exact .inr ⟨decide_eq_true hlt,by by_cases hb:b=true;exact absurd ⟨hb,hlt⟩ hgo;simpa using hb⟩
    ·exact .inl (decide_eq_false hlt)
   have hR:=HB.out.ret HC.out (Yy (w:=wr) (b:=w.heap.size+1) (.int .i64 h) (.slice A xs.length c) (.int .u8 fk.1) (.int .u32 fk.2.1) (.int .u32 fk.2.2) (.int .u8 lk.1) (.int .u32 lk.2.1) (.int .u32 lk.2.2) (.bool true) (.bool b)) hv
   have rr':=XN rr rfl (.int .i64 h) (.slice A xs.length c) (.int .u8 fk.1) (.int .u32 fk.2.1) (.int .u32 fk.2.2) (.int .u8 lk.1) (.int .u32 lk.2.1) (.int .u32 lk.2.2) (.bool true) (.bool b)
   replace hR:=zH hR
   replace rr':=zH rr'
   have kr:=qa rr
   have fr:=qd rr
   clear hEND hv hgo hsz
   rcases hcs with c1|⟨c1,rfl⟩
   all_goals
    go_wp2
    exact qeM (b:=w.heap.size+1) rfl rfl rr'.out hR.out
theorem qbH (p:KP):∀ h:Nat,h≤5→GoneC p h
 |0,_=>qbp p 0 fun _ e=>by omega
 |h+1,hh=>qbp p (h+1) fun h' e=>by
  have e':h=h':=by omega
  subst e'
  exact Ut p (h:Int) false (.inr ⟨by omega,by omega,rfl⟩) fun n hn hL=>by
   have e':n=h:=by have:=hL (by omega);omega
   subst e'
   exact qbH p n (by omega)
theorem kR (p:KP):GN p (-1) true:=Ut p (-1) true (.inl ⟨rfl,rfl⟩) fun h hh _=>qbH p h hh
end Go.Proofs.YtckhnchnbeoogaaGreat
