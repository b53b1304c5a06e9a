/- Texts BMake2, Order, Place, PutE, joined. -/
import Derived.Test.YtpbniokljofedaaGreatZA12
import Derived.Test.YtpbniokljofedaaGreatZA14
import Derived.Test.YtpbniokljofedaaGreatZA18
set_option linter.unusedSimpArgs false
set_option linter.unusedVariables false
namespace Go.Proofs.YtpbniokljofedaaGreat
open Go.RowKit
theorem or_none (a b:Nat) (ha:a<256) (hb:b<256):(bits .or .u8 (a:Int) (b:Int) != 0)=!(decide (a=0) && decide (b=0)):=by
 rw[←or_zero a b ha hb]
 rfl
theorem first_eq {S:Sto} {f:Nat} (hf:f<256) (h:ji S f=true) (hmin:∀ k,8≤k→k<f→ji S k=false):JZ S≠[]∧QA S=f:=by
 have e:∃ l,JZ S=f :: l:=by
  unfold JZ
  have h0:JT S f=[]:=by
   unfold JT
   rw[List.filter_eq_nil_iff]
   intro k hk
   have hkf:k<f:=by simpa using hk
   rcases Nat.lt_or_ge k 8 with h8|h8
   ·unfold ji;simp;omega
   ·rw[hmin k h8 hkf];decide
  have h1:=Xk S f
  rw[if_pos h,h0] at h1
  obtain⟨t,ht⟩:=qcL S (show f+1≤256 by omega)
  exact⟨t,by rw[←ht,h1];rfl⟩
 obtain⟨l,e⟩:=e
 exact⟨by rw[e];simp,by unfold QA;rw[e];rfl⟩
theorem qea {S:Sto} (h:∀ k,8≤k→k<256→ji S k=false):JZ S=[]:=by
 unfold JZ JT
 rw[List.filter_eq_nil_iff]
 intro k hk
 have hkf:k<256:=by simpa using hk
 rcases Nat.lt_or_ge k 8 with h8|h8
 ·unfold ji;simp;omega
 ·rw[h k h8 hkf];decide
theorem IsB.keepX {X:Nat→Prop} {lo n:Nat} {l:List UInt8} {v:Value} {w C:World} (h:IsB lo n l v w) (hk:qP X w C) (hX:∀ q,lo≤q→q<w.heap.size→¬X q):Bys C C.heap.size v l:=by
 obtain⟨A,c,e,⟨A',c',e',hc,hm,hr⟩,hf⟩:=h
 refine⟨A',c',e',hc,hm,hr.1,fun hn=>?_⟩
 obtain⟨b,off,e2,hb,hcell⟩:=hr.2 hn
 subst e2
 have hlo:=hf ⟨b,off,none⟩ _ _ e'
 have hl:0<(l.map bv).length:=by simpa using hn
 exact⟨b,off,rfl,World.block_lt_of_cell? C ⟨b,off+0,none⟩ (hk _ _ (hX b hlo hb) (hcell 0 _ (List.getElem?_eq_getElem hl))),fun j u hu=>hk _ _ (hX b hlo hb) (hcell j u hu)⟩
theorem WsB.slice {D:Nat→Prop} {B lo b g:Nat} {k:Option Nat} {v:Value} {ws:List (Int×List UInt8)} {w:World} (h:WsB D B lo b g k v ws w):∃ A c,v=.slice A ws.length c:=by
 obtain⟨ps,e,hc,_⟩:=h
 rcases hc with ⟨_,_,A,e2,_⟩|⟨q,_,_,how⟩
 ·exact⟨A,_,e2⟩
 ·obtain⟨A,c,e,_⟩:=qJ how
  exact⟨A,c,e⟩
def VT (D:Nat→Prop) (B lo b g:Nat) (k:Option Nat) (S:Sto) (lvl:Int) (its:List It) (w:World) (e:Ending) (W:World):Prop:=qS lo b g k w W ∧
 match zu S lvl its with
 | .error er=>e=.returned (.tuple #[.int .i64 0,.int .i64 er])
 | .ok (f,S')=>e=.returned (.tuple #[.int .i64 (f:Int),.int .i64 0])∧∃ k' D',QV w.heap.size k k'∧VI w.heap.size D D'∧Bch D' B lo b g k' S' W
theorem VT.bad {D:Nat→Prop} {B lo b g:Nat} {k:Option Nat} {S:Sto} {lvl:Int} {its:List It} {w W:World} {er:Int} (h:zu S lvl its=.error er) (hB:qS lo b g k w W):VT D B lo b g k S lvl its w (.returned (.tuple #[.int .i64 0,.int .i64 er])) W:=by
 refine⟨hB,?_⟩
 rw[h]
theorem VT.good {D D':Nat→Prop} {B lo b g:Nat} {k k':Option Nat} {S S':Sto} {lvl:Int} {its:List It} {w W:World} {f:Nat} (h:zu S lvl its=.ok (f,S')) (hB:qS lo b g k w W) (hN:QV w.heap.size k k') (hD:VI w.heap.size D D') (hb:Bch D' B lo b g k' S' W):VT D B lo b g k S lvl its w (.returned (.tuple #[.int .i64 (f:Int),.int .i64 0])) W:=by
 refine⟨hB,?_⟩
 rw[h]
 exact⟨rfl,k',D',hN,hD,hb⟩
theorem JB {R:Ending→World→Prop} {a:Act} {W:World} {u v:Value} (h4:a.tmps[4]?.getD undef=u) (h5:a.tmps[5]?.getD undef=v) (hd:a.defers=[]) (hR:R (.returned (.tuple #[u,v])) W):bodyPost Tryz.prog Tryz.f142 R .ret a W:=by
 refine bodyPost_ret (v:=.tuple #[u,v]) ?_ hd hR
 simp[results,Tryz.results142,go_sem,h4,h5]
set_option maxHeartbeats 8000000 in
set_option maxRecDepth 100000 in
theorem US (D:Nat→Prop) (B lo b g:Nat) (k:Option Nat) (S:Sto) (lvl:Int) (A:Option Addr) (n c:Nat) (its:List It) (hio:∀ x∈its,ZL x) (hws:S.ws.length≤4096) (w:World) (h:Bch D B lo b g k S w) (hx:vk (B3 b g k) w (.slice A n c) its) :
  Calls Tryz.prog 142 #[.pointer (some ⟨b,0,none⟩),ZA lvl A n c] w (VT D B lo b g k S lvl its w):=by
 obtain⟨hlb,hzb,hlg,hzg,hgb,hlw,hkq⟩:=h.size
 have hb3:=h.b3
 obtain⟨hnn,-,-,hA⟩:=hx.now.at_
 subst hnn
 cases hm:qX lvl its
 case false =>
  have hE:=zH (show zu S lvl its=.error 8 by unfold zu;rw[hm];rfl)
  have hW:=zH (fun W (hw:Ext w W)=>qbP lvl A its.length c its W (hx.now.ext hw) hm)
  replace hx:=zH hx
  replace h:=zH h
  clear hA hm hkq hb3
  go_enter Tryz.func142,Tryz.ntmps142
  go_wp2_with fail
  generalize hw1:World.alloc _ _=w1
  have x1:Ext w w1:=by rw[←hw1];exact Ext.alloc _ _
  clear hw1
  refine(hW.out w1 x1).mono ?_
  rintro e w2 ⟨rfl,hB⟩
  have x2:Ext w w2:=x1.trans hB
  clear hB x1 hW
  go_wp2_with fail
  exact JB rfl rfl rfl (VT.bad hE.out (qS.of_ext x2 hlw))
 case true =>
  have hE:Hid (zu S lvl its=match Zg (Qb its) S.now with
   | .error e=>.error e
   | .ok t=>if JZ (qF S t)=[]∨S.ws.length=4096 then .error 9 else .ok (QA (qF S t),Th (qF S t) (QA (qF S t)) (ZF (zo lvl its)))):=zH (by unfold zu;rw[hm];rfl)
  obtain⟨hl1,hl2,hl5,hib⟩:=ZW hm
  have hW:=zH (fun W (hw:Ext w W)=>XZ lvl A its.length c its W (hx.now.ext hw) hm hio)
  have hX:=zH hx
  have hsl:=zH (JA (b:=zo lvl its) (by
   have:=Vs lvl its.length its.length hio hl5
   rw[Vr] at this
   omega))
  replace hA:=zH hA
  replace hib:=zH hib
  replace hio:=zH hio
  replace h:=zH h
  replace hb3:=zH hb3
  replace hkq:=zH hkq
  replace hws:=zH hws
  clear hx hm hl1 hl2
  go_enter Tryz.func142,Tryz.ntmps142
  go_wp2_with fail
  generalize hw1:World.alloc _ _=w1
  have x1:Ext w w1:=by rw[←hw1];exact Ext.alloc _ _
  have p1:w1.heap[w.heap.size]?=some (.cells #[.int .i64 lvl,.slice A its.length c] 49 (0,0)):=by rw[←hw1];exact World.alloc_heap_at _ _ _ rfl
  clear hw1
  refine(hW.out w1 x1).mono ?_
  rintro e w2 ⟨u,rfl,⟨u,rfl,hu⟩,hB⟩
  have hB:Ext w1 w2:=hB
  have x2:Ext w w2:=x1.trans hB
  have p2:=qc p1 hB
  have kp:=qa p2
  have z1:w.heap.size<w1.heap.size:=(zG.1 p1).1
  have z12:=hB.size
  obtain⟨A0,c0,rfl,hu1,hu2⟩:=hu
  have hu:IsB w1.heap.size 128 (ZF (zo lvl its)) (.slice A0 128 c0) w2:=⟨A0,c0,rfl,hu1,hu2⟩
  replace hu:=zH hu
  clear hB x1 p1 hW hu1 hu2
  go_wp2_with fail
  go_loopw [21] (fun i wr=>∃ (j:Nat) (t:List UInt8),j≤its.length∧i=.int .i64 (j:Int)∧Zg (Qb (its.take j)) S.now=.ok t∧Bch D B lo b g k (qF S t) wr∧qS lo b g k w2 wr) (fun i _=>its.length-(intOf i).toNat)
  case atStart=>exact⟨0,S.now,Nat.zero_le _,rfl,rfl,h.out.ext x2,qS.refl _ _ _ _ _⟩
  case round =>
   obtain⟨j,t,hj,rfl,hsh,hbc,hbk⟩:=hrel
   have hxr:=hX.out.trans ((qP.of_ext (X:=B3 b g k) x2).trans hbk.keepX fun _ _ h=>h) (fun _ _ h=>h)
   by_cases hlt:j<its.length
   ·obtain⟨bi,off,rfl,hbi⟩:=hA.out (by omega)
    obtain⟨A',c',d0,d1,d2,d3,d4,-⟩:=hxr.now.item j hlt
    have hr8:=hib.out its[j] (List.getElem_mem hlt)
    have hrr:its[j].r=0∨(8≤its[j].r∧its[j].r<256):=by unfold itB at hr8;simp at hr8;exact hr8.1
    have hbad:=zH (fun e h1=>qdb hlt (e:=e) hsh h1)
    have hmore:=zH (fun t' h1=>qbL hlt (t'':=t') hsh h1)
    generalize its[j]=x at *
    have hwk:=zH (IntWalk.wrap64_in ((j:Int)+1) (by omega))
    replace hsh:=zH hsh
    replace hxr:=zH hxr
    clear hbi hr8
    rcases hrr with hr0|hr1
    ·have hsh2:=zH (hmore.out t (by rw[hr0];simp[jH]))
     rw[hr0] at d3
     have hz0:=hbc.size.2.2.2.2.2.1
     replace hbc:=zH hbc
     replace hbk:=zH hbk
     clear hr0 hbad hmore kp
     go_wp2_with fail
     try rw[hwk.out]
     refine⟨⟨j+1,t,by omega,rfl,hsh2.out,hbc.out.ext (Ext.alloc _ _),hbk.out.trans (qS.of_ext (Ext.alloc _ _) hz0) (QV.refl _ _)⟩,?_⟩
     simp[intOf]
     omega
    ·obtain⟨a,hra⟩:∃ a:Nat,x.r=(a:Int):=⟨x.r.toNat,by omega⟩
     have ha8:8≤a:=by omega
     have ha9:a<256:=by omega
     have hsa:(x.r).toNat=a:=by omega
     rw[hra] at d3
     rw[hsa] at hbad hmore
     have hs1:Hid (jH t a=if zL t a=0 then .error 6 else if zL t a=255 then .error 70 else .ok (KH t a 1)):=zH (by unfold jH;rw[if_neg (by omega)])
     have hza:((a:Int) == 0)=false:=by rw[beq_eq_false_iff_ne];omega
     have hzb2:decide (a=0)=false:=decide_eq_false (by omega)
     have hz0:=hbc.size.2.2.2.2.2.1
     have HS:=zH (fun W (hW:Ext wr W)=>qcv D B lo b g k (qF S t) a ha9 W (hbc.ext hW))
     replace hbc:=zH hbc
     replace hbk:=zH hbk
     clear kp hr1 hsa hra
     go_wp2_with fail
     generalize hwa:World.alloc _ _=wa
     have xa:Ext wr wa:=by rw[←hwa];exact Ext.alloc _ _
     have ra:wa.heap[wr.heap.size]?=some (.cells #[.int .u8 x.k,.int .u32 x.i,.int .u32 x.o,.int .i64 (a:Int),.slice A' x.val.length c'] 68 (0,0)):=by rw[←hwa];exact World.alloc_heap_at _ _ _ rfl
     have ka:=qa ra
     clear hwa d0 d1 d2 d3 d4
     go_wp2_with fail
     refine(HS.out wa xa).mono ?_
     rintro e wsh ⟨hk2,hcase⟩
     have hk3:=hbk.out.trans ((qS.of_ext xa hz0).trans hk2 (QV.refl _ _)) (QV.refl _ _)
     clear HS hk2 ka ra xa
     rcases hcase with ⟨hc0,rfl⟩|⟨hc0,rfl⟩|⟨hc0,hc1,rfl,hb3⟩
     ·have hEE:=zH (show zu S lvl its=.error 6 by rw[hE.out,hbad.out 6 (by rw[hs1.out,if_pos hc0])])
      clear hE hbad hmore hs1 hc0
      go_wp2_with fail
      exact JB rfl rfl rfl (VT.bad hEE.out ((qS.of_ext x2 hlw).trans hk3 (QV.refl _ _)))
     ·have hEE:=zH (show zu S lvl its=.error 70 by rw[hE.out,hbad.out 70 (by rw[hs1.out,if_neg (by omega),if_pos hc0])])
      clear hE hbad hmore hs1 hc0
      go_wp2_with fail
      exact JB rfl rfl rfl (VT.bad hEE.out ((qS.of_ext x2 hlw).trans hk3 (QV.refl _ _)))
     ·have IR:∃ (j':Nat) (t':List UInt8),j'≤its.length∧Value.int .i64 ((j:Int)+1)=.int .i64 (j':Int)∧Zg (Qb (its.take j')) S.now=.ok t'∧Bch D B lo b g k (qF S t') wsh∧qS lo b g k w2 wsh:=
       ⟨j+1,KH t a 1,by omega,rfl,hmore.out _ (by rw[hs1.out,if_neg hc0,if_neg hc1]),hb3,hk3⟩
      replace IR:=zH IR
      clear hE hbad hmore hs1 hc0 hc1 hb3 hk3 hbk hbc
      go_wp2_with fail
      try rw[hwk.out]
      refine⟨IR.out,?_⟩
      simp[intOf]
      omega
   ·obtain rfl:j=its.length:=by omega
    rw[List.take_length] at hsh
    rw[hsh] at hE
    have hE:Hid (zu S lvl its=if JZ (qF S t)=[]∨S.ws.length=4096 then .error 9 else .ok (QA (qF S t),Th (qF S t) (QA (qF S t)) (ZF (zo lvl its)))):=hE
    have hEw:Hid ((qF S t).ws.length=S.ws.length):=rfl
    rw[←hEw.out] at hE hws
    generalize qF S t=S' at *
    have hbk0:=(qS.of_ext (b:=b) (g:=g) (k:=k) x2 hlw).trans hbk (QV.refl _ _)
    obtain⟨D',hD'⟩:∃ D':Nat→Prop,D'=fun q=>D q∨(w1.heap.size≤q∧q<w2.heap.size):=⟨_,rfl⟩
    have hb3:=hb3.out
    have hzw:=h.out.size.2.2.2.2.2.1
    have hux:=zH (fun C (hC:qP (KT B D') wr C)=>hu.out.keepX (X:=fun q=>B3 b g k q∨KT B D' q) ((hbk.keepX.mono fun q _ h=>.inl h).trans hC fun _ _ h=>.inr h) (fun q h1 h2=>by
     rintro (hx|hx)
     ·have:=(hb3 q hx).2
      omega
     ·exact hx.2 (by rw[hD'];exact .inr ⟨h1,h2⟩)))
    have hDD:∀ q,D q→D' q:=fun q hq=>by rw[hD'];exact .inl hq
    have hDn:VI w.heap.size D D':=fun q hq=>by rw[hD'] at hq;exact hq.imp id fun h=>by omega
    have hDb:∀ W,Ext wr W→∀ q,D' q→lo≤q∧q<W.heap.size∧¬B3 b g k q:=fun W hW q hq=>by
     have hz:=hW.size
     have hz2:=hbk.below.size
     rw[hD'] at hq
     rcases hq with hq|⟨h1,h2⟩
     ·have:=hbc.dB q hq
      exact⟨this.1,by omega,this.2.2⟩
     ·exact⟨by omega,by omega,fun hx=>by have:=(hb3 q hx).2;omega⟩
    have hkD:∀ q,k=some q→¬(q<B∨D' q):=fun q hq hx=>hx.elim (fun h1=>h.out.off q h1 (.inr (.inr hq))) fun h1=>(hDb wr (Ext.refl _) q h1).2.2 (.inr (.inr hq))
    replace hDb:=zH hDb
    replace hDn:=zH hDn
    replace hDD:=zH hDD
    replace hkD:=zH hkD
    clear hD' hb3 hzw
    obtain⟨A1,n1,c1,v2,c3,A4,c4,hr,ho,hwb,hb1,hb4⟩:=hbc.ex
    obtain⟨hlen,hlen4⟩:=hbc.lens
    obtain⟨hkn,hfn,-,-⟩:=Zc ho
    obtain⟨b4,o4,rfl,hb4lt,hk4⟩:∃ b4 o4,A4=some ⟨b4,o4,none⟩∧b4<B∧∀ a,a<256→wr.cell? ⟨b4,o4+a,none⟩=some (.int .u8 (TL S' a:Int)):=by
     obtain⟨A',c',e,_,_,hrd⟩:=hb4
     simp only[Value.slice.injEq] at e
     obtain⟨rfl,_,rfl⟩:=e
     obtain⟨b4,o4,e,h1,h2⟩:=hrd.2 (by omega)
     exact⟨b4,o4,e,h1,fun a ha=>h2 a _ (by rw[List.getElem?_map,List.getElem?_eq_getElem (by omega)];simp[TL,List.getElem?_eq_getElem (show a<S'.last.length by omega)])⟩
    have hkn:Hid (∀ a,a<256→wr.cell? ⟨g,a,none⟩=some (.int .u8 (Zx S' a:Int))):=zH hkn
    have hk4:=zH hk4
    have hfr:Hid (∀ k,8≤k→(bits .or .u8 (Zx S' k:Int) (TL S' k:Int) != 0)=!ji S' k):=zH fun k h8=>by
     rw[or_none _ _ (nowN_lt S' k) (lastN_lt S' k)]
     unfold ji
     rw[decide_eq_true h8,Bool.true_and]
    obtain⟨A2,c2,rfl⟩:=hwb.slice
    have h5g:=h.out.size
    have hkq2:=hbc.size.2.2.2.2.2.2
    replace hkq2:=zH hkq2
    have h0:=h
    clear kp hu hxr hX hA hib hio h hbk hsh hEw p2 hkq h5g
    replace hbc:=zH hbc
    replace hwb:=zH hwb
    replace ho:=zH ho
    replace hb1:=zH hb1
    replace hb4:=zH hb4
    replace hbk0:=zH hbk0
    replace hfn:=zH hfn
    replace hlen:=zH hlen
    replace hlen4:=zH hlen4
    have hwx:=zH (Ext.refl wr)
    generalize hwm:wr=wm at *
    clear hwm
    go_wp2_with fail
    go_loopw [4] (fun i wr=>∃ k:Nat,8≤k∧k≤256∧i=.int .i64 (k:Int)∧(∀ j,8≤j→j<k→ji S' j=false)∧Ext wm wr) (fun i _=>256-(intOf i).toNat)
    case atStart=>exact⟨8,Nat.le_refl _,by omega,rfl,fun _ _ h=>by omega,Ext.refl _⟩
    case round =>
     obtain⟨f,h8,hf,rfl,hmin,hE2⟩:=hrel
     replace hmin:=zH hmin
     have r2:=qc hr hE2
     by_cases hlt:f<256
     ·have g1:∀ W,ql.r wr W→∀ i,W.cell? ⟨b,i,none⟩=#[.slice A1 n1 c1,.slice A2 S'.ws.length c2,.slice (some ⟨g,0,none⟩) 256 c3,.slice (some ⟨b4,o4,none⟩) 256 c4][i]?:=fun W h=>qa (qc r2 h)
      have g2:∀ W,ql.r wr W→W.cell? ⟨g,f,none⟩=some (.int .u8 (Zx S' f:Int)):=fun W h=>Ext.cell (hE2.trans h) (hkn.out f hlt)
      have g3:∀ W,ql.r wr W→W.cell? ⟨b4,o4+f,none⟩=some (.int .u8 (TL S' f:Int)):=fun W h=>Ext.cell (hE2.trans h) (hk4.out f hlt)
      have hbit:=hfr.out f h8
      generalize Zx S' f=nw at *
      generalize TL S' f=lw at *
      have d1:decide ((f:Int)<256)=true:=decide_eq_true (by omega)
      have d2:decide (f<256)=true:=decide_eq_true hlt
      have hwk:=zH (IntWalk.wrap64_in ((f:Int)+1) (by omega))
      have hmin2:=zH (fun (h:ji S' f=false)=>(fun j hj (hlt:j<f+1)=>(Nat.lt_or_ge j f).elim (fun h1=>hmin.out j hj h1) fun h1=>by rw[show j=f by omega];exact h:∀ j,8≤j→j<f+1→ji S' j=false))
      have hfirst:=zH (fun (h:ji S' f=true)=>first_eq hlt h hmin.out)
      generalize ji S' f=fb at *
      have e0:=zH hE2
      clear hE2
      go_upto_region 13 with fail
      refine qm (by kernel_rfl) ?_
      refine qR (w:=wr) ql (qG []) (List.replicate 22 true) 0 (by kernel_rfl) (by kernel_rfl) (by kernel_rfl) (by kernel_rfl) (by kernel_rfl) (by kernel_rfl) (by kernel_rfl) ?st (Rel.drew _ _) ?walk
      case st=>exact qk (fun _ h=>by cases h)
      case walk =>
       intro K hK
       dsimp only[qp,List.replicate]
       repeat ((first|(refine qd ?_ (by rfl) (by rfl) (fun W hW _=>⟨W,?_,Rel.refl _ W⟩) ?_;rotate_left;(first|(go_simp;with_reducible rfl)|(go_simp;done)))|(refine qh (by rfl) ?_));try simp only[Act.put,qi,qe,qb,qf,zA,zB,zC])
       refine qd (.pointer (some ⟨g,f,none⟩)) (by rfl) (by rfl) (fun W hW _=>⟨W,?_,Rel.refl _ W⟩) ?_
       ·go_simp
        intro hge
        exfalso
        omega
       simp only[Act.put,qi,qe,qb,qf,zA,zB,zC]
       repeat ((first|(refine qd ?_ (by rfl) (by rfl) (fun W hW _=>⟨W,?_,Rel.refl _ W⟩) ?_;rotate_left;(first|(go_simp;with_reducible rfl)|(go_simp;done)))|(refine qh (by rfl) ?_));try simp only[Act.put,qi,qe,qb,qf,zA,zB,zC])
       refine qd (.pointer (some ⟨b4,o4+f,none⟩)) (by rfl) (by rfl) (fun W hW _=>⟨W,?_,Rel.refl _ W⟩) ?_
       ·go_simp
        intro hge
        exfalso
        omega
       simp only[Act.put,qi,qe,qb,qf,zA,zB,zC]
       repeat ((first|(refine qd ?_ (by rfl) (by rfl) (fun W hW _=>⟨W,?_,Rel.refl _ W⟩) ?_;rotate_left;(first|(go_simp;with_reducible rfl)|(go_simp;done)))|(refine qh (by rfl) ?_));try simp only[Act.put,qi,qe,qb,qf,zA,zB,zC])
       refine qt (hK _ _ fun W hW hF=>?_)
       clear hF hK g1 g2 g3
       have hW:Ext wr W:=hW
       have xE:Ext wm W:=e0.out.trans hW
       clear e0 hW
       dsimp only[List.drop,List.length_cons,List.length_nil,Nat.reduceAdd,Nat.reduceSub]
       cases fb
       ·have IR:∃ k':Nat,8≤k'∧k'≤256∧Value.int .i64 ((f:Int)+1)=.int .i64 (k':Int)∧(∀ j,8≤j→j<k'→ji S' j=false)∧Ext wm W:=⟨f+1,by omega,by omega,rfl,hmin2.out rfl,xE⟩
        replace IR:=zH IR
        clear xE hmin hmin2 hfirst
        go_wp2
        refine Qn ?_
        go_wp2_with fail
        try rw[hwk.out]
        refine⟨IR.out,?_⟩
        simp[intOf]
        omega
       ·have hne:=zH (hfirst.out rfl).1
        have hfs:=zH (hfirst.out rfl).2
        clear hmin hmin2 hfirst hbit hkn hk4 hfr d1 d2
        have r3:=qc hr xE
        have k3:=qa r3
        have f3:=qg r3
        have e1:((f:Int) == 256)=false:=by rw[beq_eq_false_iff_ne];omega
        have e2:decide (f=256)=false:=decide_eq_false (by omega)
        have e3:((256:Int) == (f:Int))=false:=by rw[beq_eq_false_iff_ne];omega
        by_cases hw4:S'.ws.length=4096
        ·have hEE:=zH (show zu S lvl its=.error 9 by rw[hE.out,if_pos (.inr hw4)])
         have hl1:((S'.ws.length:Int) == 4096)=true:=by rw[beq_iff_eq];omega
         have hl2:decide (S'.ws.length=4096)=true:=decide_eq_true hw4
         replace hw4:=zH hw4
         replace xE:=zH xE
         go_wp2
         refine Qn ?_
         go_wp2_with fail
         exact JB rfl rfl rfl (VT.bad hEE.out (hbk0.out.trans (qS.of_ext xE.out hbc.out.size.2.2.2.2.2.1) (QV.refl _ _)))
        ·have hEE:=zH (show zu S lvl its=.ok (f,Th S' f (ZF (zo lvl its))) by rw[hE.out,if_neg (fun h=>h.elim hne.out hw4),hfs.out])
         have hl1:((S'.ws.length:Int) == 4096)=false:=by rw[beq_eq_false_iff_ne];omega
         have hl2:decide (S'.ws.length=4096)=false:=decide_eq_false hw4
         replace hw4:=zH hw4
         have xw:=zH xE
         have zW:=xE.size
         have zwm:=hbc.out.size.2.2.2.2.2.1
         have hbW:=zH ((hbc.out.ext xE).mono hDD.out (hDb.out W (hwx.out.trans xE)))
         clear xE
         go_wp2
         refine Qn ?_
         go_wp2_with (at_builtin;refine qQ ?_)
         have zBlo:=h0.out.blo
         refine Qt.go (GB rfl (.tmp 78) (.tmp 82) rfl rfl rfl ((hwb.out.mono hDD.out).ext xw.out (by omega)) (by omega) hkD.out (by have:=hws.out;omega) (f:Int) A0 128 c0 (ZF (zo lvl its)) hsl.out.symm (fun C hC=>hux.out C ((qP.of_ext (hwx.out.trans xw.out)).trans hC fun _ _ h=>h)) ?_)
         intro v4 w4 k4 hW4 hK4 hN4 hrows4
         obtain⟨A5,c5,rfl⟩:=hW4.slice
         rw[List.length_append,List.length_singleton] at hW4
         have r4:=(hrows4 b (zG.1 r3).1 fun e=>(hkq2.out b e).2.2.1 rfl).trans r3
         have kr4:=qa r4
         have fr4:=qg r4
         have oW:=QJ ho.out xw.out
         have o4:=Zl oW (w':=w4) fun q hq=>by cases hq;exact hrows4 g (QM oW g rfl).2 fun e=>(hkq2.out g e).2.2.2 rfl
         have kg4:=(Zc o4).1 f hlt
         have fg4:=(Zc o4).2.1 f
         have hgb':g≠b:=hbc.out.size.2.2.2.2.1
         have P:=zH (Bch.put hbW.out r3 oW (hb1.out.below (Below.mono xw.out (by omega))) (hb4.out.below (Below.mono xw.out (by omega))) hlt hW4 hK4 hN4 hrows4)
         have hAll:Hid (qS lo b g k w _):=zH (hbk0.out.trans ((qS.of_ext xw.out zwm).trans P.out.2 (QV.refl _ _)) (QV.refl _ _))
         replace hN4:=zH hN4
         clear o4 oW hrows4 hW4 r3 k3 f3 hK4
         go_wp2_with fail
         exact JB rfl rfl rfl (VT.good hEE.out hAll.out (hN4.out.mono (by have:=hbk0.out.below.size;omega)) hDn.out P.out.1)
     ·have d1:decide ((f:Int)<256)=false:=decide_eq_false (by omega)
      have d2:decide (f<256)=false:=decide_eq_false (by omega)
      have e1:((f:Int) == 256)=true:=by rw[beq_iff_eq];omega
      have e2:decide (f=256)=true:=decide_eq_true (by omega)
      have hf6:f=256:=by omega
      have hEE:=zH (show zu S lvl its=.error 9 by rw[hE.out,if_pos (.inl (qea fun j h8 hj=>hmin.out j h8 (by omega)))])
      have e0:=zH hE2
      replace hf6:=zH hf6
      clear hE2 hkn hk4 hfr hmin r2
      go_upto_region 13 with fail
      refine qm (by kernel_rfl) ?_
      refine qR (w:=wr) ql (qG []) (List.replicate 22 true) 0 (by kernel_rfl) (by kernel_rfl) (by kernel_rfl) (by kernel_rfl) (by kernel_rfl) (by kernel_rfl) (by kernel_rfl) ?st (Rel.drew _ _) ?walk
      case st=>exact qk (fun _ h=>by cases h)
      case walk =>
       intro K hK
       dsimp only[qp,List.replicate]
       repeat ((first|(refine qd ?_ (by rfl) (by rfl) (fun W hW _=>⟨W,?_,Rel.refl _ W⟩) ?_;rotate_left;(first|(go_simp;with_reducible rfl)|(go_simp;done)))|(refine qh (by rfl) ?_));try simp only[Act.put,qi,qe,qb,qf,zA,zB,zC])
       refine qt (hK _ _ fun W hW hF=>?_)
       clear hF hK
       have hW:Ext wr W:=hW
       have xE:Ext wm W:=e0.out.trans hW
       clear e0 hW
       dsimp only[List.drop,List.length_cons,List.length_nil,Nat.reduceAdd,Nat.reduceSub]
       replace xE:=zH xE
       go_wp2
       refine Qn ?_
       go_wp2_with fail
       exact JB rfl rfl rfl (VT.bad hEE.out (hbk0.out.trans (qS.of_ext xE.out hbc.out.size.2.2.2.2.2.1) (QV.refl _ _)))
theorem Vj (a b:K3):Zr a b=true↔(a.1<b.1∨(a.1=b.1∧(a.2.1<b.2.1∨(a.2.1=b.2.1∧a.2.2<b.2.2)))):=by simp[Zr,Vk]
theorem Kb (a b:K3):Zr a b=false↔¬(a.1<b.1∨(a.1=b.1∧(a.2.1<b.2.1∨(a.2.1=b.2.1∧a.2.2<b.2.2)))):=by rw[←Bool.not_eq_true,Vj]
def leK (a b:K3):Prop:=Zr b a=false
theorem qbj (a:K3):leK a a:=by unfold leK;rw[Kb];omega
theorem qaj {a b c:K3} (h:leK a b) (h':Zr b c=true):Zr a c=true:=by
 unfold leK at h;rw[Kb] at h;rw[Vj] at *;omega
theorem Gu {a b c:K3} (h:Zr a b=true) (h':leK b c):Zr a c=true:=by
 unfold leK at h';rw[Kb] at h';rw[Vj] at *;omega
theorem YI {a b:K3} (h:Zr a b=true):leK a b:=by
 unfold leK;rw[Kb];rw[Vj] at h;omega
structure Srt (f l:K3) (ys:List It):Prop where
 ord:ys.Pairwise fun a b=>Zr (qM a) (qM b)=true
 low:∀ x∈ys,leK f (qM x)
 high:∀ x∈ys,leK (qM x) l
 le:leK f l
theorem Srt.append {f l f' l':K3} {ys zs:List It} (h:Srt f l ys) (h':Srt f' l' zs) (hl:Zr l f'=true):Srt f l' (ys++zs):=
 ⟨List.pairwise_append.2 ⟨h.ord,h'.ord,fun a ha b hb=>qaj (h.high a ha) (Gu hl (h'.low b hb))⟩,
  fun x hx=>(List.mem_append.1 hx).elim (h.low x) fun hx=>YI (qaj h.le (Gu hl (h'.low x hx))),
  fun x hx=>(List.mem_append.1 hx).elim (fun hx=>YI (qaj (h.high x hx) (Gu hl h'.le))) (h'.high x),
  YI (qaj h.le (Gu hl h'.le))⟩
theorem Srt.one (x:It) {l:K3} (h:leK (qM x) l):Srt (qM x) l [x]:=
 ⟨List.pairwise_singleton _ _,fun y hy=>by rw[List.mem_singleton.1 hy];exact qbj _,fun y hy=>by rw[List.mem_singleton.1 hy];exact h,h⟩
theorem qae {S:Sto}:∀ (h:Nat) (xs ys:List It),qZ S h (xs++ys)=qZ S h xs++qZ S h ys
 |0,_,_=>rfl
 |h+1,xs,ys=>by rw[zR,zR,zR,List.flatMap_append]
theorem Kk (S:Sto) (h:Nat) (H1:∀ y f l,Jz S h y=some (f,l)→Srt f l (qZ S h [y])) (xs:List It):∀ (k:Nat) (_:k≤xs.length) (p:K3×K3),qT S h (xs.take k)=some (some p)→Srt p.1 p.2 (qZ S h (xs.take k))∧Srt p.1 p.2 (xs.take k):=by
 intro k
 induction k with
 |zero=>intro _ p e;rw[List.take_zero] at e;cases e
 |succ k ih =>
  intro hk p e
  have hlt:k<xs.length:=hk
  rw[JN hlt] at e
  unfold jT at e
  rw[List.take_succ_eq_append_getElem hlt,qae]
  rcases hO:Jz S h xs[k] with _|⟨f,l⟩
  ·rw[hO] at e
   rcases hA:qT S h (xs.take k) with _|a
   ·rw[hA] at e;cases e
   ·rw[hA] at e;cases e
  ·have h1:=H1 _ _ _ hO
   rw[hO] at e
   rcases hA:qT S h (xs.take k) with _|_|q
   ·rw[hA] at e;cases e
   ·obtain rfl:k=0:=by
     rcases Nat.eq_zero_or_pos k with h0|h0
     ·exact h0
     ·exact absurd hA (zP h0 (by omega))
    rw[hA] at e
    simp only at e
    split at e
    ·rename_i hf
     cases e
     subst hf
     rw[List.take_zero,YG]
     exact⟨h1,Srt.one _ h1.le⟩
    ·cases e
   ·obtain⟨i1,i2⟩:=ih (by omega) q hA
    rw[hA] at e
    simp only at e
    split at e
    ·rename_i hf
     split at e
     ·rename_i hl
      cases e
      subst hf
      exact⟨i1.append h1 hl,i2.append (Srt.one _ h1.le) hl⟩
     ·cases e
    ·cases e
theorem qdB (S:Sto):∀ (h:Nat) (y:It) (f l:K3),Jz S h y=some (f,l)→Srt f l (qZ S h [y])
 |0,y,f,l,e=>by
  unfold Jz at e
  split at e
  ·cases e
   exact Srt.one y (qbj _)
  ·cases e
 |h+1,y,f,l,e=>by
  rw[vX] at e
  unfold JY at e
  split at e
  ·rcases hn:qu S y.r.toNat with _|⟨lvl,xs⟩
   ·rw[hn] at e;cases e
   ·rw[hn] at e
    simp only at e
    split at e
    ·rcases hs:qT S h xs with _|_|q
     ·rw[hs] at e;cases e
     ·rw[hs] at e;cases e
     ·rw[hs] at e
      cases e
      have:=(Kk S h (qdB S h) xs xs.length (Nat.le_refl _) _ (by rw[List.take_length];exact hs)).1
      rw[List.take_length] at this
      rw[zR]
      simp only[List.flatMap_cons,List.flatMap_nil,List.append_nil,hn]
      exact this
    ·cases e
  ·cases e
theorem qaz {S:Sto} {h:Nat} {xs:List It} {p:K3×K3} (hs:qT S h xs=some (some p)):Srt p.1 p.2 (qZ S h xs)∧Srt p.1 p.2 xs:=by
 have:=Kk S h (qdB S h) xs xs.length (Nat.le_refl _) p (by rw[List.take_length];exact hs)
 rwa [List.take_length] at this
theorem span_ord {S:Sto} {h:Nat} {xs:List It} (hs:(qT S h xs).isSome=true):(qZ S h xs).Pairwise (fun a b=>Zr (qM a) (qM b)=true)∧xs.Pairwise (fun a b=>Zr (qM a) (qM b)=true):=by
 rcases hq:qT S h xs with _|_|p
 ·rw[hq] at hs;cases hs
 ·rcases Nat.eq_zero_or_pos xs.length with h0|h0
  ·obtain rfl:=List.eq_nil_of_length_eq_zero h0
   rw[YG]
   exact⟨List.Pairwise.nil,List.Pairwise.nil⟩
  ·exact absurd (by rw[List.take_length];exact hq) (zP (S:=S) (h:=h) h0 (Nat.le_refl xs.length))
 ·exact⟨(qaz hq).1.ord,(qaz hq).2.ord⟩
theorem TC {S:Sto} {h:Nat} {xs:List It} (hs:(qT S h xs).isSome=true) (k:Nat):(qT S h (xs.take k)).isSome=true:=by
 rcases hq:qT S h (xs.take k) with _|q
 ·rw[UK hq] at hs;cases hs
 ·rfl
def Qv (xs:List It) (k:K3):Nat:=(xs.filter fun x=>Zr (qM x) k).length
theorem kj (xs:List It) (k:K3):Qv xs k≤xs.length:=List.length_filter_le _ _
theorem qcz {xs:List It} {k:K3} {i:Nat} (h:i<xs.length):Qv (xs.take (i+1)) k=Qv (xs.take i) k+(if Zr (qM xs[i]) k=true then 1 else 0):=by
 unfold Qv
 rw[List.take_succ_eq_append_getElem h,List.filter_append,List.length_append]
 congr 1
 by_cases hl:Zr (qM xs[i]) k=true
 ·rw[if_pos hl];simp[hl]
 ·rw[if_neg hl];simp[hl]
section
variable {xs:List It} {k:K3} (ho:xs.Pairwise fun a b=>Zr (qM a) (qM b)=true)
include ho
end
def Ke (xs:List It) (k:K3):Bool:=match xs[Qv xs k]? with
 |none=>false
 |some x=>decide (qM x=k)
theorem qdI {xs:List It} {k:K3} (h:Qv xs k<xs.length):Ke xs k=decide (qM xs[Qv xs k]=k):=by
 unfold Ke;rw[List.getElem?_eq_getElem h]
theorem XW {xs:List It} {k:K3} (h:¬Qv xs k<xs.length):Ke xs k=false:=by
 unfold Ke;rw[List.getElem?_eq_none (by omega)]
theorem key_if (x:It) (k i o:Int) (W:World):(if x.k=k then if x.i=i then if x.o=o then Result.ok (Next.value (Value.bool true)) W else Result.ok (Next.value (Value.bool false)) W else Result.ok (Next.value (Value.bool false)) W else Result.ok (Next.value (Value.bool false)) W)=Result.ok (Next.value (Value.bool (decide (qM x=(k,i,o))))) W:=by
 have e:(qM x=(k,i,o))↔(x.k=k∧x.i=i∧x.o=o):=by unfold qM;simp only[Prod.mk.injEq]
 by_cases h1:x.k=k
 ·by_cases h2:x.i=i
  ·by_cases h3:x.o=o
   ·rw[if_pos h1,if_pos h2,if_pos h3,decide_eq_true (e.2 ⟨h1,h2,h3⟩)]
   ·rw[if_pos h1,if_pos h2,if_neg h3,decide_eq_false (fun h=>h3 (e.1 h).2.2)]
  ·rw[if_pos h1,if_neg h2,decide_eq_false (fun h=>h2 (e.1 h).2.1)]
 ·rw[if_neg h1,decide_eq_false (fun h=>h1 (e.1 h).1)]
theorem UM {R:Ending→World→Prop} {a:Act} {W:World} {u v:Value} (h2:a.tmps[4]?.getD undef=u) (h3:a.tmps[5]?.getD undef=v) (hd:a.defers=[]) (hR:R (.returned (.tuple #[u,v])) W):bodyPost Tryz.prog Tryz.f143 R .ret a W:=by
 refine bodyPost_ret (v:=.tuple #[u,v]) ?_ hd hR
 simp[results,Tryz.results143,go_sem,h2,h3]
set_option maxHeartbeats 4000000 in
set_option maxRecDepth 100000 in
theorem To (lvl:Int) (A:Option Addr) (c:Nat) (xs:List It) (k i o:Int) (w:World) (hl:xs.length≤5) (h:Its w w.heap.size (.slice A xs.length c) xs) :
  Calls Tryz.prog 143 #[ZA lvl A xs.length c,keyV k i o] w (Ret (.tuple #[.int .i64 ((Qv xs (k,i,o):Nat):Int),.bool (Ke xs (k,i,o))]) w):=by
 obtain⟨-,hc1,hc2,hA⟩:=h.at_
 have HI:=zH h
 clear h
 go_enter Tryz.func143,Tryz.ntmps143
 go_wp2_with fail
 generalize hw1:(World.alloc (World.alloc w _) _)=w1
 have x1:Ext w w1:=by rw[←hw1];exact(Ext.alloc _ _).trans (Ext.alloc _ _)
 have rn:w1.heap[w.heap.size]?=some (.cells #[.int .i64 lvl,.slice A xs.length c] 49 (0,0)):=by rw[←hw1];exact(Below.heap_alloc _ _ _ (by simp)).trans (World.alloc_heap_at _ _ _ rfl)
 have rk:w1.heap[w.heap.size+1]?=some (.cells #[.int .u8 k,.int .u32 i,.int .u32 o] 66 (0,0)):=by rw[←hw1];exact World.alloc_heap_at _ _ _ (by simp)
 clear hw1
 go_loopw [4,11] (fun p j wr=>∃ n:Nat,n≤xs.length∧j=.int .i64 (n:Int)∧p=.int .i64 ((Qv (xs.take n) (k,i,o):Nat):Int)∧Ext w1 wr) (fun _ j _=>xs.length-(intOf j).toNat)
 case atStart=>exact⟨0,Nat.zero_le _,rfl,rfl,Ext.refl _⟩
 case round =>
  obtain⟨n,hn,rfl,rfl,xr⟩:=hrel
  have xwr:=x1.trans xr
  have kn:=qa (qc rn xr)
  have kk:=qa (qc rk xr)
  have zk:w.heap.size+1<wr.heap.size:=(zG.1 (qc rk xr)).1
  by_cases hlt:n<xs.length
  ·obtain⟨b,off,rfl,hb⟩:=hA (by omega)
   obtain⟨A',c',d0,d1,d2,d3,d4,-⟩:=HI.out.item n hlt
   replace d0:=Ext.cell xwr d0
   replace d1:=Ext.cell xwr d1
   replace d2:=Ext.cell xwr d2
   replace d3:=Ext.cell xwr d3
   replace d4:=Ext.cell xwr d4
   have HP:=zH (qcz (k:=(k,i,o)) hlt)
   have hpl:=kj (xs.take n) (k,i,o)
   rw[List.length_take] at hpl
   generalize Qv (xs.take n) (k,i,o)=pl at *
   generalize xs[n]=x at *
   have hw1:=zH (IntWalk.wrap64_in ((pl:Int)+1) (by omega))
   have hw2:=zH (IntWalk.wrap64_in ((n:Int)+1) (by omega))
   go_wp2_with fail
   generalize hwa:(World.alloc wr _)=wa
   have xa:Ext wr wa:=by rw[←hwa];exact Ext.alloc _ _
   clear hwa
   refine(km x.k x.i x.o k i o wa).mono ?_
   rintro e wl ⟨rfl,hB⟩
   have xl:Ext w1 wl:=xr.trans (xa.trans hB)
   clear kn kk d0 d1 d2 d3 d4
   rcases hls:Vk x.k x.i x.o k i o with _|_
   ·have hz:Qv (xs.take (n+1)) (k,i,o)=pl:=by rw[HP.out,if_neg (show ¬Zr (qM x) (k,i,o)=true from (fun h=>by rw[show Zr (qM x) (k,i,o)=false from hls] at h;cases h))];rfl
    replace hz:=zH hz
    go_wp2_with fail
    refine⟨⟨n+1,hlt,rfl,by rw[hz.out],xl⟩,?_⟩
    simp[intOf]
    omega
   ·have hz:Qv (xs.take (n+1)) (k,i,o)=pl+1:=by rw[HP.out,if_pos (show Zr (qM x) (k,i,o)=true from hls)]
    replace hz:=zH hz
    go_wp2_with fail
    refine⟨⟨n+1,hlt,rfl,by rw[hz.out];rfl,xl⟩,?_⟩
    simp[intOf]
    omega
  ·obtain rfl:n=xs.length:=by omega
   rw[List.take_length]
   have hpl:=kj xs (k,i,o)
   go_wp2_with fail
   by_cases hp:Qv xs (k,i,o)<xs.length
   ·have hia:=qdI hp
    obtain⟨b,off,rfl,hb⟩:=hA (by omega)
    obtain⟨A',c',d0,d1,d2,-,-,-⟩:=HI.out.item _ hp
    replace d0:=Ext.cell xwr d0
    replace d1:=Ext.cell xwr d1
    replace d2:=Ext.cell xwr d2
    generalize xs[Qv xs (k,i,o)]=x at *
    generalize Qv xs (k,i,o)=pl at *
    generalize hie:Ke xs (k,i,o)=ie at *
    have gN:∀ W,ql.r wr W→∀ i,W.cell? ⟨w.heap.size,i,none⟩=#[.int .i64 lvl,.slice (some ⟨b,off,none⟩) xs.length c][i]?:=fun W h=>qa (qc (qc rn xr) h)
    have gK:∀ W,ql.r wr W→∀ j,W.cell? ⟨w.heap.size+1,j,none⟩=#[.int .u8 k,.int .u32 i,.int .u32 o][j]?:=fun W h=>qa (qc (qc rk xr) h)
    have gD:∀ W,ql.r wr W→W.cell? ⟨b,off+pl*5,none⟩=some (.int .u8 x.k)∧W.cell? ⟨b,off+pl*5+1,none⟩=some (.int .u32 x.i)∧W.cell? ⟨b,off+pl*5+2,none⟩=some (.int .u32 x.o):=fun W h=>⟨Ext.cell h d0,Ext.cell h d1,Ext.cell h d2⟩
    have gD0:=fun W h=>(gD W h).1
    have gD1:=fun W h=>(gD W h).2.1
    have gD2:=fun W h=>(gD W h).2.2
    have hd1:decide ((pl:Int)<(xs.length:Int))=true:=decide_eq_true (by omega)
    have hd2:decide (pl<xs.length)=true:=decide_eq_true hp
    replace hia:=zH hia
    clear d0 d1 d2 gD
    refine qm (by kernel_rfl) ?_
    refine qR (w:=wr) ql (qG []) [true,true,true,true,true,true,true,true,true,true,true,true,true,true,true,true,true] 1 (by kernel_rfl) (by kernel_rfl) (by kernel_rfl) (by kernel_rfl) (by kernel_rfl) (by kernel_rfl) (by kernel_rfl) ?st (Rel.drew _ _) ?walk
    case st=>exact qk (fun _ h=>by cases h)
    case walk =>
     intro K hK
     dsimp only[qp]
     repeat ((first|(refine qd ?_ (by rfl) (by rfl) (fun W hW _=>⟨W,?_,Rel.refl _ W⟩) ?_;rotate_left;(first|(go_simp;with_reducible rfl)|(go_simp;done)))|(refine qh (by rfl) ?_));try simp only[Act.put,qi,qe,qb,qf,zA,zB,zC])
     refine qd (.bool ie) (by rfl) (by rfl) (fun W hW _=>⟨W,?_,Rel.refl _ W⟩) ?_
     ·go_simp
      rw[hia.out]
      exact key_if x k i o W
     simp only[Act.put,qi,qe,qb,qf,zA,zB,zC]
     repeat ((first|(refine qd ?_ (by rfl) (by rfl) (fun W hW _=>⟨W,?_,Rel.refl _ W⟩) ?_;rotate_left;(first|(go_simp;with_reducible rfl)|(go_simp;done)))|(refine qh (by rfl) ?_));try simp only[Act.put,qi,qe,qb,qf,zA,zB,zC])
     refine qt (hK _ _ fun W hW hF=>?_)
     clear hF hK gN gK gD0 gD1 gD2
     have hW':Ext wr W:=hW
     dsimp only[List.drop,List.length_cons,List.length_nil]
     go_wp2
     refine Qn ?_
     go_wp2_with fail
     exact UM rfl rfl rfl ⟨rfl,xwr.trans hW'⟩
   ·have hia:=XW hp
    have gN:∀ W,ql.r wr W→∀ i,W.cell? ⟨w.heap.size,i,none⟩=#[.int .i64 lvl,.slice A xs.length c][i]?:=fun W h=>qa (qc (qc rn xr) h)
    generalize Qv xs (k,i,o)=pl at *
    generalize hie:Ke xs (k,i,o)=ie at *
    have hd1:decide ((pl:Int)<(xs.length:Int))=false:=decide_eq_false (by omega)
    have hd2:decide (pl<xs.length)=false:=decide_eq_false hp
    replace hia:=zH hia
    refine qm (by kernel_rfl) ?_
    refine qR (w:=wr) ql (qG []) [true,true,true,true,true,true,true,true,true,true,true,true,true,true,true,true,true] 1 (by kernel_rfl) (by kernel_rfl) (by kernel_rfl) (by kernel_rfl) (by kernel_rfl) (by kernel_rfl) (by kernel_rfl) ?st (Rel.drew _ _) ?walk
    case st=>exact qk (fun _ h=>by cases h)
    case walk =>
     intro K hK
     dsimp only[qp]
     repeat ((first|(refine qd ?_ (by rfl) (by rfl) (fun W hW _=>⟨W,?_,Rel.refl _ W⟩) ?_;rotate_left;(first|(go_simp;with_reducible rfl)|(go_simp;done)))|(refine qh (by rfl) ?_));try simp only[Act.put,qi,qe,qb,qf,zA,zB,zC])
     refine qt (hK _ _ fun W hW hF=>?_)
     clear hF hK gN
     have hW':Ext wr W:=hW
     dsimp only[List.drop,List.length_cons,List.length_nil]
     go_wp2
     refine Qn ?_
     go_wp2_with fail
     exact UM rfl rfl rfl ⟨by rw[hia.out];rfl,xwr.trans hW'⟩
theorem qen (lvl:Int) (A:Option Addr) (c:Nat) (xs:List It) (k i o:Int) (lo:Nat) (w:World) (hl:xs.length≤5) (h:Zp lo w (.slice A xs.length c) xs) :
  Calls Tryz.prog 143 #[ZA lvl A xs.length c,keyV k i o] w (Ret (.tuple #[.int .i64 ((Qv xs (k,i,o):Nat):Int),.bool (Ke xs (k,i,o))]) w):=To lvl A c xs k i o w hl h.its
def QD:List Nat→List UInt8→Except Int (List UInt8)
 | [],t=>.ok t
 |a :: r,t=>if a=0 then QD r t else if zL t a=0 then .error 6 else QD r (YR t a)
theorem jZ (r:List Nat) (t:List UInt8):QD (0 :: r) t=QD r t:=by simp[QD]
theorem JF {a:Nat} (ha:a≠0) {t:List UInt8} (h:zL t a=0) (r:List Nat):QD (a :: r) t=.error 6:=by simp only[QD];rw[if_neg ha,if_pos h]
theorem Jj {a:Nat} (ha:a≠0) {t:List UInt8} (h:zL t a≠0) (r:List Nat):QD (a :: r) t=QD r (YR t a):=by simp only[QD];rw[if_neg ha,if_neg h]
theorem ja:∀ (l r:List Nat) (t:List UInt8),QD (l++r) t=match QD l t with
  | .error e=>.error e
  | .ok t'=>QD r t'
 | [],_,_=>rfl
 |a :: l,r,t=>by
  by_cases ha:a=0
  ·subst ha
   rw[List.cons_append,jZ,jZ]
   exact ja l r t
  ·by_cases h:zL t a=0
   ·rw[List.cons_append,JF ha h,JF ha h]
   ·rw[List.cons_append,Jj ha h,Jj ha h]
    exact ja l r _
def JH (S:Sto):Nat→Int→List UInt8→Nat→Option (List UInt8)
 |0,_,_,_=>none
 |h+1,lvl,t,a=>if zL t a=0 then none else if 1<zL t a then some (YR t a) else
  match qu S a with
  |none=>none
  |some (l,xs)=>if 0≤lvl∧l≠lvl then none else if 0<l then (Qb xs).foldl (fun acc r=>acc.bind fun t=>JH S h (l-1) t r) (some (t.set a 0)) else
   match QD (Qb xs) (t.set a 0) with
   | .error _=>none
   | .ok t'=>some t'
theorem vq (S:Sto) (h:Nat) (lvl:Int) (t:List UInt8) (a:Nat):JH S (h+1) lvl t a=if zL t a=0 then none else if 1<zL t a then some (YR t a) else
  match qu S a with
  |none=>none
  |some (l,xs)=>if 0≤lvl∧l≠lvl then none else if 0<l then (Qb xs).foldl (fun acc r=>acc.bind fun t=>JH S h (l-1) t r) (some (t.set a 0)) else
   match QD (Qb xs) (t.set a 0) with
   | .error _=>none
   | .ok t'=>some t':=rfl
theorem XG (S:Sto):∀ (h:Nat) (lvl:Int) (t:List UInt8) (a:Nat),0≤lvl→lvl<h→JH S (h+1) lvl t a=JH S h lvl t a
 |0,lvl,t,a,h0,h1=>by omega
 |h+1,lvl,t,a,h0,h1=>by
  rw[vq,vq]
  split
  ·rfl
  ·split
   ·rfl
   ·split
    ·rfl
    ·rename_i l xs _
     split
     ·rfl
     ·rename_i hl
      have e:l=lvl:=by
       by_cases h:l=lvl
       ·exact h
       ·exact absurd ⟨h0,h⟩ hl
      subst e
      split
      ·rename_i hp
       congr 1
       funext acc r
       congr 1
       funext t
       exact XG S h (l-1) t r (by omega) (by omega)
      ·rfl
theorem jG {S:Sto} {a:Nat} {lvl:Int} {xs:List It} (h:qu S a=some (lvl,xs)):0≤lvl∧lvl<6∧xs.length≤5:=by
 have:=ZW (Qa h).1
 exact⟨this.1,this.2.1,this.2.2.1⟩
def zy (S:Sto) (lvl:Int) (t:List UInt8) (a:Nat):Option (List UInt8):=JH S 7 lvl t a
def YQ (S:Sto):List (Nat×Int)→List UInt8→Option (List UInt8)
 | [],t=>some t
 |x :: r,t=>match zy S x.2 t x.1 with
  |none=>none
  |some t'=>YQ S r t'
theorem Xs (S:Sto) (l:Int):∀ (rs:List Nat) (o:Option (List UInt8)),rs.foldl (fun acc r=>acc.bind fun t=>zy S l t r) o=o.bind fun t=>YQ S (rs.map fun r=>(r,l)) t
 | [],o=>by cases o <;> rfl
 |a :: r,o=>by
  rw[List.foldl_cons,Xs S l r]
  cases o with
  |none=>rfl
  |some t =>
   simp only[Option.bind_some,List.map_cons,YQ]
   cases zy S l t a <;> rfl
theorem qaC (S:Sto) (lvl:Int) (t:List UInt8) (a:Nat):zy S lvl t a=if zL t a=0 then none else if 1<zL t a then some (YR t a) else
  match qu S a with
  |none=>none
  |some (l,xs)=>if 0≤lvl∧l≠lvl then none else if 0<l then YQ S ((Qb xs).map fun r=>(r,l-1)) (t.set a 0) else
   match QD (Qb xs) (t.set a 0) with
   | .error _=>none
   | .ok t'=>some t':=by
 obtain⟨h,hh⟩:∃ h,h=6:=⟨_,rfl⟩
 have L1:∀ lvl t a,zy S lvl t a=JH S (h+1) lvl t a:=fun lvl t a=>by rw[hh];rfl
 rw[L1,vq]
 have key:∀ l xs,qu S a=some (l,xs)→0<l→(Qb xs).foldl (fun acc r=>acc.bind fun t=>JH S h (l-1) t r) (some (t.set a 0))=YQ S ((Qb xs).map fun r=>(r,l-1)) (t.set a 0):=fun l xs hn h0=>by
  obtain⟨_,h6,_⟩:=jG hn
  have e1:=Xs S (l-1) (Qb xs) (some (t.set a 0))
  rw[Option.bind_some] at e1
  rw[←e1]
  have e:(fun (acc:Option (List UInt8)) (r:Nat)=>acc.bind fun t=>JH S h (l-1) t r)=fun acc r=>acc.bind fun t=>zy S (l-1) t r:=by
   funext acc r
   cases acc with
   |none=>rfl
   |some t =>
    simp only[Option.bind_some]
    rw[L1,XG S h (l-1) t r (by omega) (by omega)]
  rw[e]
 split
 ·rfl
 ·split
  ·rfl
  ·split
   ·rfl
   ·rename_i l xs hn
    split
    ·rfl
    ·split
     ·rename_i h0
      exact key l xs hn h0
     ·rfl
def mkIt (k:K3) (r:Nat):It:=⟨k.1,k.2.1,k.2.2,(r:Int),[]⟩
def YS (p:List It):K3:=match p with
 | []=>(0,0,0)
 |x :: _=>qM x
def ZR (lvl:Int):List (List It)→Sto→Except Int (List It×Sto)
 | [],S=>.ok ([],S)
 |p :: r,S=>match zu S lvl p with
  | .error e=>.error e
  | .ok (f,S')=>match ZR lvl r S' with
   | .error e=>.error e
   | .ok (up,S'')=>.ok (mkIt (YS p) f :: up,S'')
def vB (l:List It):List (List It):=if 5<l.length then [l.take 3,l.drop 3] else [l]
def QP (S:Sto) (lvl:Int) (l held:List It):Except Int (List It×Sto):=match ZR lvl (vB l) S with
 | .error e=>.error e
 | .ok (up,S')=>match QD (Qb held) S'.now with
  | .error e=>.error e
  | .ok t=>.ok (up,qF S' t)
def VH (xs:List It) (p many:Nat) (up:List It):List It:=xs.take p++up++xs.drop (p+many)
def vK (S:Sto) (k:K3):Nat→List It→List (Nat×List It×Nat)
 |0,xs=>[(0,xs,Qv xs k)]
 |h+1,xs=>(h+1,xs,if Ke xs k=true then Qv xs k else Qv xs k-1) :: match xs[if Ke xs k=true then Qv xs k else Qv xs k-1]? with
  |none=>[]
  |some y=>match qu S y.r.toNat with
   |none=>[]
   |some (_,ys)=>vK S k h ys
def Ve (k:K3) (lvl:Nat) (xs:List It):Nat:=if lvl=0∧Ke xs k=false then 0 else 1
def ZQ (k:K3):List (Nat×List It×Nat)→List It→Sto→Except Int (List It×Sto)
 | [],up,S=>.ok (up,S)
 |(lvl,xs,p) :: r,up,S=>match QP S (lvl:Int) (VH xs p (Ve k lvl xs) up) up with
  | .error e=>.error e
  | .ok (up',S')=>ZQ k r up' S'
def XA (k:K3) (l:List (Nat×List It×Nat)):Bool:=decide (l.length=6) && (l.all fun s=>!decide (s.2.1.length<5)) && !(match l.getLast? with
 |none=>false
 |some s=>Ke s.2.1 k)
def putX (S:Sto) (L:Nat) (xs:List It) (root:Nat) (x:It):Except Int (Nat×Sto):=
 if XA (qM x) (vK S (qM x) L xs)=true then .error 120 else
 match ZQ (qM x) (vK S (qM x) L xs).reverse [x] S with
 | .error e=>.error e
 | .ok (up,S1)=>match (if 1<up.length then QP S1 ((vK S (qM x) L xs).length:Int) up up else .ok (up,S1)) with
  | .error e=>.error e
  | .ok (up',S2)=>match zy S2 (-1) S2.now root with
   |none=>.error 8
   |some t=>.ok (match up' with
    | []=>0
    |y :: _=>y.r.toNat,qF S2 t)
end Go.Proofs.YtpbniokljofedaaGreat
