/- Texts Insert, Replace, joined. -/
import Derived.Test.YtpbniokljofedaaGreatZF10
import Derived.Test.YtpbniokljofedaaGreatZF21
set_option linter.unusedSimpArgs false
set_option linter.unusedVariables false
set_option maxHeartbeats 8000000
namespace Go.Proofs.YtpbniokljofedaaGreat
open Go.RowKit
theorem Td (w:World) (g o la ca vg lb cb:Nat) (cur vcur:Array Value) (hg:w.heap[g]?=some (.cells cur 68 (0,0))) (hv:w.heap[vg]?=some (.cells vcur 68 (0,0))) (hne:vg≠g) (h0:cur.size≠0) (vo:Nat) :
  (callFunc 148 #[.slice (some ⟨vg,vo,none⟩) lb cb,.slice (some ⟨g,o,none⟩) la ca]).run Tryz.prog w=.ok (.value (.bool false)) w:=by
 rw[run_callFunc_extern Tryz.func148 (by kernel_rfl) (by kernel_rfl) (by kernel_rfl) (e:=Extern.SlicesOverlaps.overlaps #[47,47] #[4]) (by kernel_rfl),
  Lib.run_overlaps_apart w 47 4 68 Tryz.underlying47 5 (fun w=>Tryz.sizeOf68 w) ⟨vg,vo,none⟩ ⟨g,o,none⟩ lb cb la ca hne 68 68 vcur.size cur.size (by simp[World.shape?,hv]) (by simp[World.shape?,hg]) h0 (by simp[World.frozen?,hv]) (by simp[World.frozen?,hv])]
 rfl
set_option maxRecDepth 100000 in
theorem qfA (lo:Nat) (s:Value) (n i:Nat) (xs:List Value) (v:Value) (m lov:Nat) (vs:List Value) (w:World) (ho:w.ownsRow lo 68 5 s n xs) (hv:w.ownsRow lov 68 5 v m vs) (hsv:∀ q,v.ownBlock=some q→s.ownBlock≠some q) (hm:0<m) (hnm:n+m≤100) (hi:i≤n) (h1x:∀ u∈xs,u.oneCell'=true) (h1v:∀ u∈vs,u.oneCell'=true) (hlo:lo≤w.heap.size) :
  Calls Tryz.prog 147 #[s,.int .i64 (i:Int),v] w (KD lo s (n+m) (xs.take (i*5)++vs++xs.drop (i*5)) w):=by
 obtain⟨i0,hi0,hz0,hz1,hz2⟩:=info_parts Tryz.info_item
 have hvl:=hv.1
 have hxl:=ho.1
 obtain⟨vg,vcap,vcur,rfl,hvlo,hvg,hvc,hvm,hvs,hvt⟩:∃ g cap cur,v=.slice (some ⟨g,0,none⟩) m cap∧lov≤g∧w.heap[g]?=some (.cells cur 68 (0,0))∧m≤cap∧cap≤maxLen∧cur.size=cap*5∧cur.toList.take (m*5)=vs:=by
  rcases hv.2 with ⟨_,h0⟩|h
  ·omega
  ·exact h
 have hsrc:=qdd hv
 have hm0:((m:Int) == 0)=false:=by rw[beq_eq_false_iff_ne];omega
 have hm1:decide (m=0)=false:=decide_eq_false (by omega)
 have hrv:Rd w w.heap.size 5 (some ⟨vg,0,none⟩) m vs:=Rd.of_own hv
 by_cases hin:i=n
 ·subst hin
  have hy:xs.take (i*5)++vs++xs.drop (i*5)=xs++vs:=by rw[List.take_of_length_le (by omega),List.drop_of_length_le (by omega),List.append_nil]
  rw[hy]
  have hd1:decide ((i:Int)=(i:Int))=true:=decide_eq_true rfl
  have hgo:∀ A c,s=.slice A i c→(A=none∨∃ g,A=some ⟨g,0,none⟩)→Calls Tryz.prog 147 #[s,.int .i64 (i:Int),.slice (some ⟨vg,0,none⟩) m vcap] w (KD lo s (i+m) (xs++vs) w):=fun A c hs hA=>by
   have hic:i≤c:=by
    obtain⟨A',c',e,h1,h2⟩:=qv ho
    rw[hs] at e
    cases e
    exact h1
   subst hs
   clear hvg hvs hvt hsrc hy
   replace hvm:=zH hvm
   have hfin:∀ (v':Value) (w':World),w'.ownsRow lo 68 5 v' (i+m) (xs++vs)→w.grownBy w' (Value.slice A i c).ownBlock→Below lo w w'→KD lo (.slice A i c) (i+m) (xs++vs) w (.returned v') w':=fun v' w' h1 h2 h3=>⟨v',rfl,h1,h3,fun q hq hn=>h2.block q hq fun e=>hn e.symm⟩
   replace hfin:=zH hfin
   rcases hA with rfl|⟨g,rfl⟩
   ·go_enter Tryz.func147,Tryz.ntmps147
    go_wp2_with (at_builtin;refine qZ ?_)
    refine Qy.go (Qq _ rfl (.tmp 23) (.tmp 24) 47 rfl lo 68 i0 _ 5 48 Tryz.underlying47 hi0 hz0 hz1 hz2 rfl (by decide) _ i xs rfl ho w.heap.size _ m vcap vs (by exact rfl) hrv h1v (by omega) (by decide) hlo ?_)
    intro v' w' h1 h2 h3 _
    go_wp2_with fail
    go_ret
    exact hfin.out v' w' h1 h2 h3
   ·go_enter Tryz.func147,Tryz.ntmps147
    by_cases hci:c=i
    ·subst hci
     have hci2:c-c=0:=by omega
     go_wp2_with (at_builtin;refine qZ ?_)
     refine Qy.go (Qq _ rfl (.tmp 23) (.tmp 24) 47 rfl lo 68 i0 _ 5 48 Tryz.underlying47 hi0 hz0 hz1 hz2 rfl (by decide) _ c xs rfl ho w.heap.size _ m vcap vs (by exact rfl) hrv h1v (by omega) (by decide) hlo ?_)
     intro v' w' h1 h2 h3 _
     go_wp2_with fail
     go_ret
     exact hfin.out v' w' h1 h2 h3
    ·have hci2:¬(c-i=0):=by omega
     have hci3:¬(c≤i):=by omega
     go_wp2_with (at_builtin;refine qZ ?_)
     refine Qy.go (Qq _ rfl (.tmp 23) (.tmp 24) 47 rfl lo 68 i0 _ 5 48 Tryz.underlying47 hi0 hz0 hz1 hz2 rfl (by decide) _ i xs rfl ho w.heap.size _ m vcap vs (by exact rfl) hrv h1v (by omega) (by decide) hlo ?_)
     intro v' w' h1 h2 h3 _
     go_wp2_with fail
     go_ret
     exact hfin.out v' w' h1 h2 h3
  rcases ho.2 with ⟨e,h0⟩|⟨g,cap,cur,e,_⟩
  ·exact hgo none 0 (by rw[e,h0]) (.inl rfl)
  ·exact hgo _ cap e (.inr ⟨g,rfl⟩)
 ·obtain⟨g,cap,cur,rfl,hglo,hg,hnc,hcm,hcs,hct⟩:∃ g cap cur,s=.slice (some ⟨g,0,none⟩) n cap∧lo≤g∧w.heap[g]?=some (.cells cur 68 (0,0))∧n≤cap∧cap≤maxLen∧cur.size=cap*5∧cur.toList.take (n*5)=xs:=by
   rcases ho.2 with ⟨_,h0⟩|h
   ·omega
   ·exact h
  have hlt:i<n:=by omega
  have hne1:((i:Int) == (n:Int))=false:=by rw[beq_eq_false_iff_ne];omega
  have hne2:decide ((i:Int)=(n:Int))=false:=decide_eq_false (by omega)
  have hne3:decide (i=n)=false:=decide_eq_false (by omega)
  have hci:¬(cap=i):=by omega
  have hvg2:vg≠g:=fun e=>hsv vg rfl (by rw[e];rfl)
  have hdl:(xs.drop (i*5)).length=(n-i)*5:=by rw[List.length_drop];omega
  have h1d:∀ u∈xs.drop (i*5),u.oneCell'=true:=fun u hu=>h1x u (List.mem_of_mem_drop hu)
  have hsz:(Tryz.prog.info? 68).map (·.size)=some 5:=by rw[hi0];simp[hz1]
  have hgd:∀ W:World,W.heap[g]?=w.heap[g]?→∀ j u,(xs.drop (i*5))[j]?=some u→W.cell? ((⟨g,i*5,none⟩:Addr).add j)=some u:=fun W hW j u hu=>by
   rw[Addr.add_lit,qa (hW.trans hg),←Array.getElem?_toList]
   rw[List.getElem?_drop,←hct,List.getElem?_take] at hu
   split at hu
   ·exact hu
   ·cases hu
  have hvd:∀ W:World,W.heap[vg]?=w.heap[vg]?→∀ j u,vs[j]?=some u→W.cell? ((⟨vg,0,none⟩:Addr).add j)=some u:=fun W hW j u hu=>by
   rw[World.cell?_of_block (w:=w) (by rw[Addr.add_lit];exact hW)]
   exact hsrc j u hu
  have hgl:=(zG.1 hg).1
  replace hcm:=zH hcm
  replace hvm:=zH hvm
  replace h1x:=zH h1x
  replace hsv:=zH hsv
  have hvgl:=(zG.1 hvg).1
  clear hsrc hrv ho hv
  by_cases hcap:cap<n+m
  ·obtain⟨k,hk⟩:∃ k,k=n+m-i:=⟨_,rfl⟩
   have hki:(n:Int)+(m:Int)-(i:Int)=((k:Nat):Int):=by omega
   obtain⟨C,hC⟩:∃ C,C=grownCap w (i+k) cap 68:=⟨_,rfl⟩
   have hCge:i+k≤C:=by rw[hC];exact grownCap_ge w (i+k) cap _
   have hCm:C≤maxLen:=by rw[hC];exact grownCap_le_maxLen w (i+k) cap _ (by unfold maxLen;omega)
   obtain⟨cur0,hcur0⟩:∃ cur0:Array Value,cur0=(xs.take (i*5)).toArray++Builtin.zeroCells (Value.agg #[.int .u8 0,.int .u32 0,.int .u32 0,.int .i64 0,.slice none 0 0]).cells k++Builtin.zeroCells (Value.agg #[.int .u8 0,.int .u32 0,.int .u32 0,.int .i64 0,.slice none 0 0]).cells (C-(i+k)):=⟨_,rfl⟩
   have hrun:∀ ty,(Builtin.append_ #[47,3] ty #[.slice (some ⟨g,0,none⟩) i cap,.int .i64 ((n:Int)+(m:Int)-(i:Int))]).run Tryz.prog w=.ok (.slice (some ⟨w.heap.size,0,none⟩) (i+k) C) (w.drew.alloc (.cells cur0 68)):=fun ty=>by
    rw[hki,hC,hcur0,hC]
    exact Lib.run_append_grow_zeros (P:=Tryz.prog) w 47 3 ty 68 i0 _ .i64 .i64 Tryz.underlying47 Tryz.underlying3 hi0 hz0 (some ⟨g,0,none⟩) i cap (xs.take (i*5)) (by
     rw[hz1]
     exact run_firstCells_some w.drew 5 i ⟨g,0,none⟩ i cap (xs.take (i*5)) (by rw[List.length_take];omega) (fun j u hu=>by
      rw[Addr.add_lit,Nat.zero_add]
      show w.cell? _=_
      rw[qa hg,←Array.getElem?_toList]
      rw[←hct,List.take_take,List.getElem?_take] at hu
      split at hu
      ·exact hu
      ·cases hu)) k (by omega) (by omega) (by omega) (by omega) (by rw[hz2];omega) (by rw[hz2];exact growslice_fits (by omega) (by omega))
   have hc0:cur0.size=C*5:=by
    rw[hcur0]
    simp only[Array.size_append,List.size_toArray,size_zeroCells,List.length_take]
    simp only[Value.cells,List.size_toArray,List.length_cons,List.length_nil]
    omega
   have hct0:cur0.toList.take (i*5)=xs.take (i*5):=by
    rw[hcur0]
    simp only[Array.toList_append,List.append_assoc]
    have:i*5=(xs.take (i*5)).length:=by rw[List.length_take];omega
    rw[this]
    simp
   clear hcur0 hC
   have hsd:(i+k)=n+m:=by omega
   have hfin:∀ W:World,W.heap[w.heap.size]?=some (.cells (spl (spl cur0 i vs) (i+m) (xs.drop (i*5))) 68 (0,0))→Below lo w W→(∀ q,q<w.heap.size→W.heap[q]?=w.heap[q]?)→KD lo (.slice (some ⟨g,0,none⟩) n cap) (n+m) (xs.take (i*5)++vs++xs.drop (i*5)) w (.returned (.slice (some ⟨w.heap.size,0,none⟩) (i+k) C)) W:=fun W h1 h2 h3=>by
    rw[hsd]
    refine⟨_,rfl,RowI.own ⟨_,h1,?_,?_⟩ ?_ hlo (by omega) hCm,h2,fun q hq _=>h3 q hq⟩
    ·rw[QO (k:=n-i) hdl (by rw[QO hvl (by omega)];omega),QO hvl (by omega),hc0]
    ·have e1:=Yw hct0 hvl (by omega)
     have e2:=Yw e1 hdl (by rw[QO hvl (by omega)];omega)
     rw[←e2]
     congr 1
     omega
    ·simp only[List.length_append,List.length_take,hdl,hvl]
     omega
   replace hfin:=zH hfin
   replace hct0:=zH hct0
   clear hki
   replace hk:=zH hk
   have hiC:¬(C=i):=by omega
   have himC:¬(C=i+m):=by omega
   replace hCm:=zH hCm
   go_enter Tryz.func147,Tryz.ntmps147
   go_wp2_with (at_builtin;refine qZ ?_)
   refine Qy.go (Lib.wpList_append_run _ rfl _ _ _ _ rfl _ _ rfl rfl _ _ (hrun _) ?_)
   clear hrun
   generalize hw1:World.alloc _ _=w1
   have p1:w1.heap[w.heap.size]?=some (.cells cur0 68 (0,0)):=by rw[←hw1];exact zI _ _ _ rfl
   have k1:∀ q,q<w.heap.size→w1.heap[q]?=w.heap[q]?:=fun q hq=>by rw[←hw1];exact zK _ _ _ hq
   have z1:w.heap.size≤w1.heap.size:=by rw[←hw1];simp
   have B1:Below lo w w1:=by rw[←hw1];exact Below.mono ((Ext.drew w).trans (zN _ _)) hlo
   clear hw1
   have hcp1:∀ ty,(Builtin.copy_ #[47,47] ty #[.slice (some ⟨w.heap.size,i*5,none⟩) (n+m-i) (C-i),.slice (some ⟨vg,0,none⟩) m vcap]).run Tryz.prog w1=.ok (.int .i64 (m:Nat)) (w1.setRow w.heap.size (spl cur0 i vs)):=fun ty =>
    jF (k:=m) (o:=i) p1 hvl (by omega) Tryz.underlying47 hsz (by simp only[Nat.min_def];split <;> omega) (hvd w1 (k1 _ hvgl)) h1v
   obtain⟨w2,hw2⟩:∃ w2,w2=w1.setRow w.heap.size (spl cur0 i vs):=⟨_,rfl⟩
   rw[←hw2] at hcp1
   have p2:w2.heap[w.heap.size]?=some (.cells (spl cur0 i vs) 68 (0,0)):=by rw[hw2];exact setRow_heap _ _ _ _ _ _ p1
   have k2:∀ q,q<w.heap.size→w2.heap[q]?=w.heap[q]?:=fun q hq=>by rw[hw2];exact(setRow_other _ _ _ _ (by omega)).trans (k1 q hq)
   have z2:w.heap.size≤w2.heap.size:=by rw[hw2];simpa using z1
   have B2:Below lo w w2:=by rw[hw2];exact zt B1 hlo hlo _
   have s2:=QO (cur:=cur0) (o:=i) hvl (by omega)
   clear hw2 p1 k1 z1
   have hcp2:∀ W:World,Ext w2 W→∀ ty,(Builtin.copy_ #[47,47] ty #[.slice (some ⟨w.heap.size,(i+m)*5,none⟩) (n+m-(i+m)) (C-(i+m)),.slice (some ⟨g,i*5,none⟩) (n-i) (cap-i)]).run Tryz.prog W=.ok (.int .i64 ((n-i:Nat):Int)) (W.setRow w.heap.size (spl (spl cur0 i vs) (i+m) (xs.drop (i*5)))):=fun W hW ty =>
    jF (k:=n-i) (o:=i+m) (qb p2 hW) hdl (by omega) Tryz.underlying47 hsz (by simp only[Nat.min_def];split <;> omega) (hgd W ((Below.block hW g (by omega)).trans (k2 _ hgl))) h1d
   have hfin2:∀ W:World,Ext w2 W→KD lo (.slice (some ⟨g,0,none⟩) n cap) (n+m) (xs.take (i*5)++vs++xs.drop (i*5)) w (.returned (.slice (some ⟨w.heap.size,0,none⟩) (n+m) C)) (W.setRow w.heap.size (spl (spl cur0 i vs) (i+m) (xs.drop (i*5)))):=fun W hW=>by
    have:=hfin.out (W.setRow w.heap.size (spl (spl cur0 i vs) (i+m) (xs.drop (i*5)))) (setRow_heap _ _ _ _ _ _ (qb p2 hW)) (zt (B2.trans (Below.mono hW (by omega))) hlo hlo _) (fun q hq=>(setRow_other _ _ _ _ (by omega)).trans ((Below.block hW q (by omega)).trans (k2 q hq)))
    rw[hsd] at this
    exact this
   replace hfin2:=zH hfin2
   replace hcp2:=zH hcp2
   clear hfin
   have hwim:=zH (show IntKind.i64.wrap ((i:Int)+(m:Int))=((i+m:Nat):Int) by rw[IntKind.wrap_i64];omega)
   have him:(0:Int)≤(i:Int)+(m:Int):=by omega
   have himt:((i:Int)+(m:Int)).toNat=i+m:=by omega
   go_upto_region 11 with (simp only[hcp1])
   refine qo (by kernel_rfl) ?_
   refine qO (w:=w2) ql (qF []) (List.replicate 8 true) 1 (by kernel_rfl) (by kernel_rfl) (by kernel_rfl) (by kernel_rfl) (by kernel_rfl) (by kernel_rfl) (by kernel_rfl) ?st (Rel.drew _ _) ?walk
   case st=>exact qk (fun _ h=>by cases h)
   case walk =>
    intro K hK
    dsimp only[qp,List.replicate]
    repeat ((first|(refine qe ?_ (by rfl) (by rfl) (fun W hW _=>⟨W,?_,Rel.refl _ W⟩) ?_;rotate_left;(go_simp<;>with_reducible rfl))|(refine qh (by rfl) ?_));try simp only[Act.put,qj,qf,qc,qg,zA,zB,zC])
    refine qe (.slice (some ⟨w.heap.size,(i+m)*5,none⟩) (n+m-(i+m)) (C-(i+m))) (by rfl) (by rfl) (fun W hW _=>⟨W,?_,Rel.refl _ W⟩) ?_
    ·go_simp
     rw[hwim.out,Int.toNat_natCast,if_pos (by omega),if_neg (by omega)]
    simp only[Act.put,qj,qf,qc,qg,zA,zB,zC]
    repeat ((first|(refine qe ?_ (by rfl) (by rfl) (fun W hW _=>⟨W,?_,Rel.refl _ W⟩) ?_;rotate_left;(go_simp<;>with_reducible rfl))|(refine qh (by rfl) ?_));try simp only[Act.put,qj,qf,qc,qg,zA,zB,zC])
    refine qt (hK _ _ fun W hW hF=>?_)
    clear hF hK
    have hW:Ext w2 W:=hW
    dsimp only[List.drop,List.length_cons,List.length_nil,Nat.reduceAdd,Nat.reduceSub]
    have hc2:=hcp2.out W hW
    go_wp2_with (simp only[hc2])
    refine Qm ?_
    go_wp2_with fail
    go_ret
    exact hfin2.out W hW
  ·have hov:∀ la ca lb cb,(callFunc 148 #[.slice (some ⟨vg,0,none⟩) lb cb,.slice (some ⟨g,(i+m)*5,none⟩) la ca]).run Tryz.prog w=.ok (.value (.bool false)) w:=fun la ca lb cb=>Td w g _ la ca vg lb cb cur vcur hg hvg hvg2 (by omega) 0
   go_enter Tryz.func147,Tryz.ntmps147
   go_upto_region 15 with (simp only[hov])
   have hcap2:(n+m)*5≤cur.size:=by omega
   have hcp1:∀ W:World,Ext w W→∀ ty dc sc,(Builtin.copy_ #[47,47] ty #[.slice (some ⟨g,(i+m)*5,none⟩) (n+m-(i+m)) dc,.slice (some ⟨g,i*5,none⟩) (n+m-i) sc]).run Tryz.prog W=.ok (.int .i64 ((n-i:Nat):Int)) (W.setRow g (spl cur (i+m) (xs.drop (i*5)))):=fun W hW ty dc sc =>
    jF (k:=n-i) (o:=i+m) (qb hg hW) hdl (by omega) Tryz.underlying47 hsz (by simp only[Nat.min_def];split <;> omega) (hgd W (Below.block hW g hgl)) h1d
   have s1:=QO (cur:=cur) (o:=i+m) hdl (by omega)
   have hcp2:∀ W:World,Ext w W→∀ ty dc,(Builtin.copy_ #[47,47] ty #[.slice (some ⟨g,i*5,none⟩) (n+m-i) dc,.slice (some ⟨vg,0,none⟩) m vcap]).run Tryz.prog (W.setRow g (spl cur (i+m) (xs.drop (i*5))))=.ok (.int .i64 (m:Nat)) ((W.setRow g (spl cur (i+m) (xs.drop (i*5)))).setRow g (spl (spl cur (i+m) (xs.drop (i*5))) i vs)):=fun W hW ty dc =>
    jF (k:=m) (o:=i) (setRow_heap _ _ _ _ _ _ (qb hg hW)) hvl (by omega) Tryz.underlying47 hsz (by simp only[Nat.min_def];split <;> omega) (hvd _ ((setRow_other _ _ _ _ hvg2).trans (Below.block hW vg hvgl))) h1v
   have hfin:∀ W:World,Ext w W→KD lo (.slice (some ⟨g,0,none⟩) n cap) (n+m) (xs.take (i*5)++vs++xs.drop (i*5)) w (.returned (.slice (some ⟨g,0,none⟩) (n+m) cap)) ((W.setRow g (spl cur (i+m) (xs.drop (i*5)))).setRow g (spl (spl cur (i+m) (xs.drop (i*5))) i vs)):=fun W hW=>by
    refine⟨_,rfl,RowI.own ⟨_,setRow_heap _ _ _ _ _ _ (setRow_heap _ _ _ _ _ _ (qb hg hW)),?_,?_⟩ ?_ hglo (by omega) hcm.out,zt (zt (Below.mono hW hlo) hlo hglo _) hlo hglo _,fun q hq hn=>?_⟩
    ·rw[QO hvl (by omega),s1,hcs]
    ·exact qis hct hxl hvl hi hcap2
    ·simp only[List.length_append,List.length_take,hdl,hvl]
     omega
    ·have:q≠g:=fun e=>hn (by rw[e];rfl)
     exact(setRow_other _ _ _ _ this).trans ((setRow_other _ _ _ _ this).trans (Below.block hW q hq))
   replace hfin:=zH hfin
   replace hcp2:=zH hcp2
   replace hcp1:=zH hcp1
   have hwim:=zH (show IntKind.i64.wrap ((i:Int)+(m:Int))=((i+m:Nat):Int) by rw[IntKind.wrap_i64];omega)
   clear hov hgd hvd
   refine qo (by kernel_rfl) ?_
   refine qO (w:=w) ql (qF []) (List.replicate 8 true) 1 (by kernel_rfl) (by kernel_rfl) (by kernel_rfl) (by kernel_rfl) (by kernel_rfl) (by kernel_rfl) (by kernel_rfl) ?st (Rel.drew _ _) ?walk
   case st=>exact qk (fun _ h=>by cases h)
   case walk =>
    intro K hK
    dsimp only[qp,List.replicate]
    repeat ((first|(refine qe ?_ (by rfl) (by rfl) (fun W hW _=>⟨W,?_,Rel.refl _ W⟩) ?_;rotate_left;(go_simp<;>with_reducible rfl))|(refine qh (by rfl) ?_));try simp only[Act.put,qj,qf,qc,qg,zA,zB,zC])
    refine qe (.slice (some ⟨g,(i+m)*5,none⟩) (n+m-(i+m)) (cap-(i+m))) (by rfl) (by rfl) (fun W hW _=>⟨W,?_,Rel.refl _ W⟩) ?_
    ·go_simp
     rw[hwim.out,Int.toNat_natCast,if_pos (by omega),if_neg (by omega)]
    simp only[Act.put,qj,qf,qc,qg,zA,zB,zC]
    repeat ((first|(refine qe ?_ (by rfl) (by rfl) (fun W hW _=>⟨W,?_,Rel.refl _ W⟩) ?_;rotate_left;(go_simp<;>with_reducible rfl))|(refine qh (by rfl) ?_));try simp only[Act.put,qj,qf,qc,qg,zA,zB,zC])
    refine qe (.slice (some ⟨g,i*5,none⟩) (n+m-i) (cap-i)) (by rfl) (by rfl) (fun W hW _=>⟨W,?_,Rel.refl _ W⟩) ?_
    ·go_simp
     intro hx
     exfalso
     omega
    simp only[Act.put,qj,qf,qc,qg,zA,zB,zC]
    repeat ((first|(refine qe ?_ (by rfl) (by rfl) (fun W hW _=>⟨W,?_,Rel.refl _ W⟩) ?_;rotate_left;(go_simp<;>with_reducible rfl))|(refine qh (by rfl) ?_));try simp only[Act.put,qj,qf,qc,qg,zA,zB,zC])
    refine qt (hK _ _ fun W hW hF=>?_)
    clear hF hK
    have hW:Ext w W:=hW
    dsimp only[List.drop,List.length_cons,List.length_nil,Nat.reduceAdd,Nat.reduceSub]
    have hc1:=hcp1.out W hW
    have hc2:=hcp2.out W hW
    have hfn:=zH (hfin.out W hW)
    generalize World.setRow (World.setRow W _ _) _ _=wf at *
    generalize World.setRow W _ _=wm at *
    go_wp2_with (simp only[hc1])
    refine Qm ?_
    go_wp2_with (simp only[hc2])
    go_ret
    exact hfn.out
theorem spl_two {cur:Array Value} {i m r:Nat} {A vs ys:List Value} (hA:cur.toList.take (i*5)=A) (hv:vs.length=m*5) (hy:ys.length=r*5) (h:(i+m+r)*5≤cur.size) :
  (spl (spl cur (i+m) ys) i vs).toList.take ((i+m+r)*5)=A++vs++ys:=by
 have e1:(spl cur (i+m) ys).toList=cur.toList.take ((i+m)*5)++ys++cur.toList.drop ((i+m)*5+ys.length):=by unfold spl;rw[List.toList_toArray]
 have hl1:(cur.toList.take ((i+m)*5)).length=(i+m)*5:=by rw[List.length_take,Array.length_toList];omega
 have e2:(spl cur (i+m) ys).toList.take (i*5)=A:=by
  rw[e1,List.append_assoc,List.take_append_of_le_length (by omega),List.take_take,Nat.min_eq_left (by omega),hA]
 have e3:(spl cur (i+m) ys).toList.drop (i*5+vs.length)=ys++cur.toList.drop ((i+m)*5+ys.length):=by
  rw[e1,List.append_assoc]
  have:i*5+vs.length=(cur.toList.take ((i+m)*5)).length:=by omega
  rw[this]
  exact List.drop_left
 generalize hY:spl cur (i+m) ys=Y at *
 unfold spl
 rw[List.toList_toArray,e2,e3,←List.append_assoc]
 have ht:A.length=i*5:=by rw[←hA,List.length_take,Array.length_toList];omega
 have:(i+m+r)*5=(A++vs++ys).length:=by simp only[List.length_append];omega
 rw[this]
 exact List.take_left
theorem Xf (A:Option Addr) (c:Nat) (W:World) (ty:TypeId):(Builtin.clear_ #[47] ty #[.slice A 0 c]).run Tryz.prog W=.ok (.tuple #[]) W:=by
 rcases A with _|a <;> simp[Builtin.clear_,run_underlying Tryz.underlying47]
set_option maxRecDepth 100000 in
theorem qew (lo:Nat) (s:Value) (n i many:Nat) (xs:List Value) (v:Value) (m lov:Nat) (vs:List Value) (w:World) (ho:w.ownsRow lo 68 5 s n xs) (hv:w.ownsRow lov 68 5 v m vs) (hsv:∀ q,v.ownBlock=some q→s.ownBlock≠some q) (hm:0<m) (hnm:n+m≤100) (hmany:many=0∨many=1) (hj:i+many≤n) (h1x:∀ u∈xs,u.oneCell'=true) (h1v:∀ u∈vs,u.oneCell'=true) (hlo:lo≤w.heap.size) :
  Calls Tryz.prog 101 #[s,.int .i64 (i:Int),.int .i64 ((i+many:Nat):Int),v] w (KD lo s (n-many+m) (xs.take (i*5)++vs++xs.drop ((i+many)*5)) w):=by
 rcases hmany with rfl|rfl
 ·have HI:=zH (qfA lo s n i xs v m lov vs w ho hv hsv hm hnm (by omega) h1x h1v hlo)
  simp only[Nat.add_zero,Nat.sub_zero]
  have hin:i≤n:=by omega
  obtain⟨Av,cv,rfl,-,-⟩:=qv hv
  rcases ho.2 with ⟨rfl,rfl⟩|⟨g,c,cur,rfl,-,-,hc1,-,-,-⟩
  ·obtain rfl:i=0:=by omega
   clear ho hv hsv h1x h1v
   go_enter Tryz.func101,Tryz.ntmps101
   go_wp2_with fail
   refine HI.out.mono ?_
   rintro e W ⟨v',rfl,h1,h2,h3⟩
   have hF:=zH (show KD lo (.slice none 0 0) (0+m) (xs.take (0*5)++vs++xs.drop (0*5)) w (.returned v') W from ⟨v',rfl,h1,h2,h3⟩)
   clear h1 h2 h3 HI
   go_wp2_with fail
   go_ret
   exact hF.out
  ·clear ho hv hsv h1x h1v
   go_enter Tryz.func101,Tryz.ntmps101
   by_cases hci:c=i
   ·have hci2:c-i=0:=by omega
    go_upto_region 2 with fail
    clear hc1 hci hci2 hin
    go_upto_region 3 with fail
    go_wp2_with fail
    refine HI.out.mono ?_
    rintro e W ⟨v',rfl,h1,h2,h3⟩
    have hF:=zH (show KD lo (.slice (some ⟨g,0,none⟩) n c) (n+m) (xs.take (i*5)++vs++xs.drop (i*5)) w (.returned v') W from ⟨v',rfl,h1,h2,h3⟩)
    clear h1 h2 h3 HI
    go_wp2_with fail
    go_ret
    exact hF.out
   ·have hci3:¬(c≤i):=by omega
    have hii:(i:Int)≤(i:Int):=Int.le_refl _
    go_upto_region 2 with fail
    clear hc1 hci hci3 hii hin
    go_upto_region 3 with fail
    go_wp2_with fail
    refine HI.out.mono ?_
    rintro e W ⟨v',rfl,h1,h2,h3⟩
    have hF:=zH (show KD lo (.slice (some ⟨g,0,none⟩) n c) (n+m) (xs.take (i*5)++vs++xs.drop (i*5)) w (.returned v') W from ⟨v',rfl,h1,h2,h3⟩)
    clear h1 h2 h3 HI
    go_wp2_with fail
    go_ret
    exact hF.out
 ·obtain⟨i0,hi0,hz0,hz1,hz2⟩:=info_parts Tryz.info_item
  have hvl:=hv.1
  have hxl:=ho.1
  obtain⟨vg,vcap,vcur,rfl,hvlo,hvg,hvc,hvm,hvs,hvt⟩:∃ g cap cur,v=.slice (some ⟨g,0,none⟩) m cap∧lov≤g∧w.heap[g]?=some (.cells cur 68 (0,0))∧m≤cap∧cap≤maxLen∧cur.size=cap*5∧cur.toList.take (m*5)=vs:=by
   rcases hv.2 with ⟨_,h0⟩|h
   ·omega
   ·exact h
  obtain⟨g,cap,cur,rfl,hglo,hg,hnc,hcm,hcs,hct⟩:∃ g cap cur,s=.slice (some ⟨g,0,none⟩) n cap∧lo≤g∧w.heap[g]?=some (.cells cur 68 (0,0))∧n≤cap∧cap≤maxLen∧cur.size=cap*5∧cur.toList.take (n*5)=xs:=by
   rcases ho.2 with ⟨_,h0⟩|h
   ·omega
   ·exact h
  have hsrc:=qdd hv
  have hrv:Rd w w.heap.size 5 (some ⟨vg,0,none⟩) m vs:=Rd.of_own hv
  have hvg2:vg≠g:=fun e=>hsv vg rfl (by rw[e];rfl)
  have hgl:=(zG.1 hg).1
  have hvgl:=(zG.1 hvg).1
  have htk:(xs.take (i*5)).length=i*5:=by rw[List.length_take];omega
  have hop:w.ownsRow lo 68 5 (.slice (some ⟨g,0,none⟩) i cap) i (xs.take (i*5)):=⟨htk,.inr ⟨g,cap,cur,rfl,hglo,hg,by omega,hcm,hcs,by rw[←hct,List.take_take,Nat.min_eq_left (by omega)]⟩⟩
  have hsz:(Tryz.prog.info? 68).map (·.size)=some 5:=by rw[hi0];simp[hz1]
  obtain⟨j,hjE⟩:∃ j,j=i+1:=⟨_,rfl⟩
  rw[←hjE] at hj ⊢
  have hij:((i:Int) == (j:Int))=false:=by rw[beq_eq_false_iff_ne];omega
  have hij2:decide (i=j)=false:=decide_eq_false (by omega)
  have hci:¬(cap=i):=by omega
  have hji:j-i=1:=by omega
  have hb1:(i:Int)≤(j:Int):=by omega
  have hb2:(j:Int)≤(cap:Int):=by omega
  have hb3:(0:Int)≤(i:Int):=by omega
  have hb4:i≤cap:=by omega
  replace hcm:=zH hcm
  replace hvm:=zH hvm
  replace hjE:=zH hjE
  replace h1x:=zH h1x
  clear hsv ho hv
  by_cases hjn:j=n
  ·have hd0:xs.drop (j*5)=[]:=List.drop_eq_nil_of_le (by omega)
   rw[hd0,List.append_nil,show n-1+m=i+m by have:=hjE.out;omega]
   have e1:((j:Int) == (n:Int))=true:=by rw[beq_iff_eq];omega
   have e2:decide (j=n)=true:=decide_eq_true hjn
   have hin:i<n:=by have:=hjE.out;omega
   have e3:decide ((i:Int)+(m:Int)<(n:Int))=false:=decide_eq_false (by have:=hjE.out;omega)
   have e4:decide (i+m<n)=false:=decide_eq_false (by have:=hjE.out;omega)
   have e5:¬(i+m<n):=by have:=hjE.out;omega
   have hnn:=zH hjn
   have hfin:∀ (v':Value) (W:World),W.ownsRow lo 68 5 v' (i+m) (xs.take (i*5)++vs)→w.grownBy W (Value.slice (some ⟨g,0,none⟩) i cap).ownBlock→Below lo w W→KD lo (.slice (some ⟨g,0,none⟩) n cap) (i+m) (xs.take (i*5)++vs) w (.returned v') W:=fun v' W h1 h2 h3=>⟨v',rfl,h1,h3,fun q hq hn=>h2.block q hq fun e=>hn e.symm⟩
   replace hfin:=zH hfin
   clear hjn hd0 hg hvg hct hvt hsrc htk hcs hvs hvl hxl hnc hvc
   go_enter Tryz.func101,Tryz.ntmps101
   go_upto_region 2 with fail
   clear hb1 hb2 hci hji
   go_wp2_with (at_builtin;refine qZ ?_)
   refine Qy.go (Qq _ rfl (.tmp 32) (.tmp 33) 47 rfl lo 68 i0 _ 5 48 Tryz.underlying47 hi0 hz0 hz1 hz2 rfl (by decide) (.slice (some ⟨g,0,none⟩) i cap) i (xs.take (i*5)) rfl hop w.heap.size _ m vcap vs (by exact rfl) hrv h1v (by omega) (by decide) hlo ?_)
   intro v' W h1 h2 h3 _
   have hF:=zH (hfin.out v' W h1 h2 h3)
   obtain⟨A7,c7,rfl,-,-⟩:=qv h1
   clear hfin h1 h2 hop hrv
   go_wp2_with fail
   go_ret
   exact hF.out
  ·have hjl:j<n:=by omega
   have f1:((j:Int) == (n:Int))=false:=by rw[beq_eq_false_iff_ne];omega
   have f2:decide (j=n)=false:=decide_eq_false hjn
   obtain⟨r,hr⟩:∃ r,n-j=r:=⟨_,rfl⟩
   have hnr:n=j+r:=by omega
   have hdl:(xs.drop (j*5)).length=r*5:=by rw[List.length_drop];omega
   have h1d:∀ u∈xs.drop (j*5),u.oneCell'=true:=fun u hu=>h1x.out u (List.mem_of_mem_drop hu)
   have hA:cur.toList.take (i*5)=xs.take (i*5):=by rw[←hct,List.take_take,Nat.min_eq_left (by omega)]
   obtain⟨tot,htot⟩:∃ tot,tot=i+m+r:=⟨_,rfl⟩
   have hgd:∀ W:World,W.heap[g]?=w.heap[g]?→∀ q u,(xs.drop (j*5))[q]?=some u→W.cell? ((⟨g,j*5,none⟩:Addr).add q)=some u:=fun W hW q u hu=>by
    rw[Addr.add_lit,qa (hW.trans hg),←Array.getElem?_toList]
    rw[List.getElem?_drop,←hct,List.getElem?_take] at hu
    split at hu
    ·exact hu
    ·cases hu
   have hvd:∀ W:World,W.heap[vg]?=w.heap[vg]?→∀ q u,vs[q]?=some u→W.cell? ((⟨vg,0,none⟩:Addr).add q)=some u:=fun W hW q u hu=>by
    rw[World.cell?_of_block (w:=w) (by rw[Addr.add_lit];exact hW)]
    exact hsrc q u hu
   have htb:tot≤200:=by omega
   have hres:n-1+m=tot:=by have:=hjE.out;omega
   rw[hres]
   have hyl:(xs.take (i*5)++vs++xs.drop (j*5)).length=tot*5:=by simp only[List.length_append,htk,hvl,hdl];omega
   have hw1:=zH (show IntKind.i64.wrap ((i:Int)+(m:Int))=((i+m:Nat):Int) by rw[IntKind.wrap_i64];omega)
   have hw2:=zH (show IntKind.i64.wrap (((i+m:Nat):Int)+(r:Int))=((tot:Nat):Int) by rw[IntKind.wrap_i64];omega)
   clear hop hrv hsrc
   replace hyl:=zH hyl
   replace htot:=zH htot
   replace hnr:=zH hnr
   replace hres:=zH hres
   go_enter Tryz.func101,Tryz.ntmps101
   go_upto_region 2 with fail
   go_upto_region 9 with fail
   refine qo (by kernel_rfl) ?_
   refine qO (w:=w) ql (qF []) (List.replicate 13 true) 0 (by kernel_rfl) (by kernel_rfl) (by kernel_rfl) (by kernel_rfl) (by kernel_rfl) (by kernel_rfl) (by kernel_rfl) ?st (Rel.drew _ _) ?walk
   case st=>exact qk (fun _ h=>by cases h)
   case walk =>
    intro K hK
    dsimp only[qp,List.replicate]
    repeat ((first|(refine qe ?_ (by rfl) (by rfl) (fun W hW _=>⟨W,?_,Rel.refl _ W⟩) ?_;rotate_left;(go_simp<;>with_reducible rfl))|(refine qh (by rfl) ?_));try simp only[Act.put,qj,qf,qc,qg,zA,zB,zC])
    refine qt (hK _ _ fun W hW hF=>?_)
    clear hF hK
    have hW:Ext w W:=hW
    dsimp only[List.drop,List.length_cons,List.length_nil,Nat.reduceAdd,Nat.reduceSub]
    go_wp2
    refine Qm ?_
    rw[hw1.out,hw2.out]
    have hWg:=(Below.block hW g hgl)
    have hWv:=(Below.block hW vg hvgl)
    have hWz:=hW.size
    have hA2:=zH hA
    clear hA hct
    by_cases hcap:cap<tot
    ·obtain⟨k,hk⟩:∃ k,k=tot-i:=⟨_,rfl⟩
     have hkm:k=m+r:=by have:=htot.out;omega
     have hkt:i+k=tot:=by have:=htot.out;omega
     have hki:(tot:Int)-(i:Int)=((k:Nat):Int):=by omega
     obtain⟨C,hC⟩:∃ C,C=grownCap W (i+k) cap 68:=⟨_,rfl⟩
     have hCge:i+k≤C:=by rw[hC];exact grownCap_ge W (i+k) cap _
     have hCm:C≤maxLen:=by rw[hC];exact grownCap_le_maxLen W (i+k) cap _ (by unfold maxLen;omega)
     obtain⟨cur0,hcur0⟩:∃ cur0:Array Value,cur0=(xs.take (i*5)).toArray++Builtin.zeroCells (Value.agg #[.int .u8 0,.int .u32 0,.int .u32 0,.int .i64 0,.slice none 0 0]).cells k++Builtin.zeroCells (Value.agg #[.int .u8 0,.int .u32 0,.int .u32 0,.int .i64 0,.slice none 0 0]).cells (C-(i+k)):=⟨_,rfl⟩
     have hrun:∀ ty (z:Int),z=(k:Int)→(Builtin.append_ #[47,3] ty #[.slice (some ⟨g,0,none⟩) i cap,.int .i64 z]).run Tryz.prog W=.ok (.slice (some ⟨W.heap.size,0,none⟩) (i+k) C) (W.drew.alloc (.cells cur0 68)):=fun ty z hz=>by
      rw[hz,hC,hcur0,hC]
      exact Lib.run_append_grow_zeros (P:=Tryz.prog) W 47 3 ty 68 i0 _ .i64 .i64 Tryz.underlying47 Tryz.underlying3 hi0 hz0 (some ⟨g,0,none⟩) i cap (xs.take (i*5)) (by
       rw[hz1]
       exact run_firstCells_some W.drew 5 i ⟨g,0,none⟩ i cap (xs.take (i*5)) (by rw[List.length_take];omega) (fun q u hu=>by
        rw[Addr.add_lit,Nat.zero_add]
        show W.cell? _=_
        rw[qa (hWg.trans hg),←Array.getElem?_toList]
        rw[←hA2.out,List.getElem?_take] at hu
        split at hu
        ·exact hu
        ·cases hu)) k (by omega) (by omega) (by omega) (by omega) (by rw[hz2];omega) (by rw[hz2];exact growslice_fits (by omega) (by omega))
     have hc0:cur0.size=C*5:=by
      rw[hcur0]
      simp only[Array.size_append,List.size_toArray,size_zeroCells,List.length_take]
      simp only[Value.cells,List.size_toArray,List.length_cons,List.length_nil]
      omega
     have hct0:cur0.toList.take (i*5)=xs.take (i*5):=by
      rw[hcur0]
      simp only[Array.toList_append,List.append_assoc]
      have:i*5=(xs.take (i*5)).length:=by omega
      rw[this]
      simp
     clear hcur0 hC hki
     rw[hkt] at hCge hrun
     have htm:=htot.out
     have hfin:∀ V:World,V.heap[W.heap.size]?=some (.cells (spl (spl cur0 i vs) (i+m) (xs.drop (j*5))) 68 (0,0))→Below lo w V→(∀ q,q<W.heap.size→V.heap[q]?=W.heap[q]?)→KD lo (.slice (some ⟨g,0,none⟩) n cap) tot (xs.take (i*5)++vs++xs.drop (j*5)) w (.returned (.slice (some ⟨W.heap.size,0,none⟩) tot C)) V:=fun V h1 h2 h3=>by
      refine⟨_,rfl,RowI.own ⟨_,h1,?_,?_⟩ hyl.out (by omega) (by omega) hCm,h2,fun q hq _=>(h3 q (by omega)).trans (Below.block hW q hq)⟩
      ·rw[QO (k:=r) hdl (by rw[QO hvl (by omega)];omega),QO hvl (by omega),hc0]
      ·have e1:=Yw hct0 hvl (by omega)
       have e2:=Yw e1 hdl (by rw[QO hvl (by omega)];omega)
       rw[←e2,htm]
     have hCi:¬(C=i):=by omega
     have hCim:¬(C=i+m):=by omega
     replace hfin:=zH hfin
     replace hct0:=zH hct0
     replace hCm:=zH hCm
     replace hk:=zH hk
     replace hkt:=zH hkt
     have hti:i≤tot:=by omega
     have hti2:(i:Int)≤(tot:Int):=by omega
     have htim:i+m≤tot:=by omega
     clear hb1 hb2 hji hb3 hkm htm hj hnm
     have hci3:(i:Int)≤(cap:Int):=by omega
     have hfit1:(i+m)*5≤cur0.size:=by rw[hc0];omega
     have hfit2:(i+m+r)*5≤cur0.size:=by rw[hc0];have:=htot.out;omega
     replace hfit1:=zH hfit1
     replace hfit2:=zH hfit2
     replace hvl:=zH hvl
     replace hr:=zH hr
     replace hcap:=zH hcap
     replace hdl:=zH hdl
     replace htk:=trivial
     clear hxl hcs hvs hvt hc0
     go_wp2_with (at_builtin;refine qZ ?_)
     refine Qy.go (Lib.wpList_append_run _ rfl _ _ _ _ rfl _ _ (by exact rfl) (by exact rfl) _ _ (hrun _ _ ?hz) ?nx)
     case hz =>
      have h1:=hk.out
      omega
     clear hrun
     generalize hw1':World.alloc _ _=w1
     have p1:w1.heap[W.heap.size]?=some (.cells cur0 68 (0,0)):=by rw[←hw1'];exact zI _ _ _ rfl
     have k1:∀ q,q<W.heap.size→w1.heap[q]?=W.heap[q]?:=fun q hq=>by rw[←hw1'];exact zK _ _ _ hq
     have z1:W.heap.size≤w1.heap.size:=by rw[←hw1'];simp
     have B1:Below lo w w1:=by rw[←hw1'];exact Below.mono (hW.trans ((Ext.drew W).trans (zN _ _))) hlo
     clear hw1'
     have hcp1:∀ ty,(Builtin.copy_ #[47,47] ty #[.slice (some ⟨W.heap.size,i*5,none⟩) (tot-i) (C-i),.slice (some ⟨vg,0,none⟩) m vcap]).run Tryz.prog w1=.ok (.int .i64 (m:Nat)) (w1.setRow W.heap.size (spl cur0 i vs)):=fun ty =>
      jF (k:=m) (o:=i) p1 hvl.out hfit1.out Tryz.underlying47 hsz (by simp only[Nat.min_def];have:=htot.out;split <;> omega) (hvd w1 ((k1 _ (by omega)).trans hWv)) h1v
     obtain⟨w2,hw2'⟩:∃ w2,w2=w1.setRow W.heap.size (spl cur0 i vs):=⟨_,rfl⟩
     rw[←hw2'] at hcp1
     have p2:w2.heap[W.heap.size]?=some (.cells (spl cur0 i vs) 68 (0,0)):=by rw[hw2'];exact setRow_heap _ _ _ _ _ _ p1
     have k2:∀ q,q<W.heap.size→w2.heap[q]?=W.heap[q]?:=fun q hq=>by rw[hw2'];exact(setRow_other _ _ _ _ (by omega)).trans (k1 q hq)
     have z2:W.heap.size≤w2.heap.size:=by rw[hw2'];simpa using z1
     have B2:Below lo w w2:=by rw[hw2'];exact zt B1 hlo (by omega) _
     have s2:=QO (cur:=cur0) (o:=i) hvl.out hfit1.out
     clear hw2' p1 k1 z1
     have hcp2:∀ V:World,Ext w2 V→∀ ty,(Builtin.copy_ #[47,47] ty #[.slice (some ⟨W.heap.size,(i+m)*5,none⟩) (tot-(i+m)) (C-(i+m)),.slice (some ⟨g,j*5,none⟩) r (cap-j)]).run Tryz.prog V=.ok (.int .i64 ((r:Nat):Int)) (V.setRow W.heap.size (spl (spl cur0 i vs) (i+m) (xs.drop (j*5)))):=fun V hV ty =>
      jF (k:=r) (o:=i+m) (qb p2 hV) hdl.out (by rw[s2];exact hfit2.out) Tryz.underlying47 hsz (by simp only[Nat.min_def];have:=htot.out;split <;> omega) (hgd V ((Below.block hV g (by omega)).trans ((k2 _ (by omega)).trans hWg))) h1d
     have hfin2:∀ V:World,Ext w2 V→KD lo (.slice (some ⟨g,0,none⟩) n cap) tot (xs.take (i*5)++vs++xs.drop (j*5)) w (.returned (.slice (some ⟨W.heap.size,0,none⟩) tot C)) (V.setRow W.heap.size (spl (spl cur0 i vs) (i+m) (xs.drop (j*5)))):=fun V hV =>
      hfin.out _ (setRow_heap _ _ _ _ _ _ (qb p2 hV)) (zt (B2.trans (Below.mono hV (by omega))) hlo (by omega) _) (fun q hq=>(setRow_other _ _ _ _ (by omega)).trans ((Below.block hV q (by omega)).trans (k2 q hq)))
     replace hfin2:=zH hfin2
     replace hcp2:=zH hcp2
     replace s2:=trivial
     clear hfin hgd hvd
     go_upto_region 13 with (simp only[hcp1])
     refine qo (by kernel_rfl) ?_
     refine qO (w:=w2) ql (qF []) (List.replicate 9 true) 1 (by kernel_rfl) (by kernel_rfl) (by kernel_rfl) (by kernel_rfl) (by kernel_rfl) (by kernel_rfl) (by kernel_rfl) ?st (Rel.drew _ _) ?walk
     case st=>exact qk (fun _ h=>by cases h)
     case walk =>
      intro K hK
      dsimp only[qp,List.replicate]
      repeat ((first|(refine qe ?_ (by rfl) (by rfl) (fun W hW _=>⟨W,?_,Rel.refl _ W⟩) ?_;rotate_left;(go_simp<;>with_reducible rfl))|(refine qh (by rfl) ?_));try simp only[Act.put,qj,qf,qc,qg,zA,zB,zC])
      refine qe (.slice (some ⟨W.heap.size,(i+m)*5,none⟩) (tot-(i+m)) (C-(i+m))) (by rfl) (by rfl) (fun W hW _=>⟨W,?_,Rel.refl _ W⟩) ?_
      ·go_simp
       rw[hw1.out,Int.toNat_natCast,if_pos (by omega),if_neg (by omega)]
      simp only[Act.put,qj,qf,qc,qg,zA,zB,zC]
      repeat ((first|(refine qe ?_ (by rfl) (by rfl) (fun W hW _=>⟨W,?_,Rel.refl _ W⟩) ?_;rotate_left;(go_simp<;>with_reducible rfl))|(refine qh (by rfl) ?_));try simp only[Act.put,qj,qf,qc,qg,zA,zB,zC])
      refine qe (.slice (some ⟨g,j*5,none⟩) r (cap-j)) (by rfl) (by rfl) (fun W hW _=>⟨W,?_,Rel.refl _ W⟩) ?_
      ·go_simp
       rw[hr.out,if_pos (by omega)]
      simp only[Act.put,qj,qf,qc,qg,zA,zB,zC]
      repeat ((first|(refine qe ?_ (by rfl) (by rfl) (fun W hW _=>⟨W,?_,Rel.refl _ W⟩) ?_;rotate_left;(go_simp<;>with_reducible rfl))|(refine qh (by rfl) ?_));try simp only[Act.put,qj,qf,qc,qg,zA,zB,zC])
      refine qt (hK _ _ fun V hV hF=>?_)
      clear hF hK
      have hV:Ext w2 V:=hV
      dsimp only[List.drop,List.length_cons,List.length_nil,Nat.reduceAdd,Nat.reduceSub]
      have hc2:=hcp2.out V hV
      go_wp2_with (simp only[hc2])
      refine Qm ?_
      go_wp2_with fail
      go_ret
      exact hfin2.out V hV
    ·have htm:=htot.out
     have hfit1:(i+m)*5≤cur.size:=by rw[hcs];omega
     have hfit2:(i+m+r)*5≤cur.size:=by rw[hcs];omega
     have hti:i≤tot:=by omega
     have htim:i+m≤tot:=by omega
     have htlt:i+m<tot:=by have:=hnr.out;omega
     have hct':tot≤cap:=by omega
     have hcim:¬(cap=i+m):=by omega
     have hfin:∀ V:World,V.heap[g]?=some (.cells (spl (spl cur (i+m) (xs.drop (j*5))) i vs) 68 (0,0))∨V.heap[g]?=some (.cells (spl (spl cur i vs) (i+m) (xs.drop (j*5))) 68 (0,0))→Below lo w V→(∀ q,q<W.heap.size→q≠g→V.heap[q]?=W.heap[q]?)→KD lo (.slice (some ⟨g,0,none⟩) n cap) tot (xs.take (i*5)++vs++xs.drop (j*5)) w (.returned (.slice (some ⟨g,0,none⟩) tot cap)) V:=fun V h1 h2 h3=>by
      refine⟨_,rfl,?_,h2,fun q hq hn=>(h3 q (by omega) (fun e=>hn (by rw[e];rfl))).trans (Below.block hW q hq)⟩
      rcases h1 with h1|h1
      ·refine RowI.own ⟨_,h1,?_,?_⟩ hyl.out hglo hct' hcm.out
       ·rw[QO hvl (by rw[QO hdl (by omega)];omega),QO hdl (by omega),hcs]
       ·have:=spl_two (r:=r) hA2.out hvl hdl (by omega)
        rw[←htm] at this
        exact this
      ·refine RowI.own ⟨_,h1,?_,?_⟩ hyl.out hglo hct' hcm.out
       ·rw[QO hdl (by rw[QO hvl (by omega)];omega),QO hvl (by omega),hcs]
       ·have e1:=Yw hA2.out hvl (by omega)
        have e2:=Yw e1 hdl (by rw[QO hvl (by omega)];omega)
        rw[←e2,htm]
     replace hfin:=zH hfin
     by_cases hm1:m=1
     ·have hjm:j=i+m:=by have:=hjE.out;omega
      have hgd2:∀ V:World,V.heap[g]?=some (.cells (spl cur i vs) 68 (0,0))→∀ q u,(xs.drop (j*5))[q]?=some u→V.cell? ((⟨g,j*5,none⟩:Addr).add q)=some u:=fun V hV q u hu=>by
       have h1:=hgd W hWg q u hu
       rw[Addr.add_lit,qa (hWg.trans hg),←Array.getElem?_toList] at h1
       rw[Addr.add_lit,qa hV,←Array.getElem?_toList]
       have e:(spl cur i vs).toList=(cur.toList.take (i*5)++vs)++cur.toList.drop (i*5+vs.length):=by unfold spl;rw[List.toList_toArray]
       have hl:(cur.toList.take (i*5)++vs).length=(i+m)*5:=by rw[List.length_append,List.length_take,Array.length_toList];omega
       rw[e,List.getElem?_append_right (by rw[hl,hjm];omega),hl,List.getElem?_drop]
       rw[←h1]
       congr 1
       omega
      have hcp1:∀ ty,(Builtin.copy_ #[47,47] ty #[.slice (some ⟨g,i*5,none⟩) (tot-i) (cap-i),.slice (some ⟨vg,0,none⟩) m vcap]).run Tryz.prog W=.ok (.int .i64 (m:Nat)) (W.setRow g (spl cur i vs)):=fun ty =>
       jF (k:=m) (o:=i) (hWg.trans hg) hvl hfit1 Tryz.underlying47 hsz (by simp only[Nat.min_def];split <;> omega) (hvd W hWv) h1v
      obtain⟨w2,hw2'⟩:∃ w2,w2=W.setRow g (spl cur i vs):=⟨_,rfl⟩
      rw[←hw2'] at hcp1
      have p2:w2.heap[g]?=some (.cells (spl cur i vs) 68 (0,0)):=by rw[hw2'];exact setRow_heap _ _ _ _ _ _ (hWg.trans hg)
      have k2:∀ q,q≠g→w2.heap[q]?=W.heap[q]?:=fun q hq=>by rw[hw2'];exact setRow_other _ _ _ _ hq
      have z2:w2.heap.size=W.heap.size:=by rw[hw2'];simp
      have B2:Below lo w w2:=by rw[hw2'];exact zt (Below.mono hW hlo) hlo hglo _
      have s2:=QO (cur:=cur) (o:=i) hvl hfit1
      clear hw2'
      have hcp2:∀ V:World,Ext w2 V→∀ ty,(Builtin.copy_ #[47,47] ty #[.slice (some ⟨g,(i+m)*5,none⟩) (tot-(i+m)) (cap-(i+m)),.slice (some ⟨g,j*5,none⟩) r (cap-j)]).run Tryz.prog V=.ok (.int .i64 ((r:Nat):Int)) (V.setRow g (spl (spl cur i vs) (i+m) (xs.drop (j*5)))):=fun V hV ty =>
       jF (k:=r) (o:=i+m) (qb p2 hV) hdl (by rw[s2];exact hfit2) Tryz.underlying47 hsz (by simp only[Nat.min_def];split <;> omega) (hgd2 V (qb p2 hV)) h1d
      have hfin2:∀ V:World,Ext w2 V→KD lo (.slice (some ⟨g,0,none⟩) n cap) tot (xs.take (i*5)++vs++xs.drop (j*5)) w (.returned (.slice (some ⟨g,0,none⟩) tot cap)) (V.setRow g (spl (spl cur i vs) (i+m) (xs.drop (j*5)))):=fun V hV =>
       hfin.out _ (.inr (setRow_heap _ _ _ _ _ _ (qb p2 hV))) (zt (B2.trans (Below.mono hV (by omega))) hlo hglo _) (fun q hq hne=>(setRow_other _ _ _ _ hne).trans ((Below.block hV q (by omega)).trans (k2 q hne)))
      replace hfin2:=zH hfin2
      replace hcp2:=zH hcp2
      have hle:decide (((i:Int)+(m:Int))≤(j:Int))=true:=decide_eq_true (by omega)
      have hle2:i+m≤j:=by omega
      have hle3:(i:Int)+(m:Int)≤(j:Int):=by omega
      have htn:tot=n:=by have:=hjE.out;have:=hnr.out;omega
      replace hr:=zH hr
      replace htn:=zH htn
      replace hjm:=zH hjm
      replace hm1:=zH hm1
      clear hfin hgd hgd2 hvd htk hdl hvl hxl hcs hvs hvt hb1 hb2 hji htm hj hnm s2 p2
      go_upto_region 18 with (simp only[hcp1])
      refine qo (by kernel_rfl) ?_
      refine qO (w:=w2) ql (qF []) (List.replicate 9 true) 1 (by kernel_rfl) (by kernel_rfl) (by kernel_rfl) (by kernel_rfl) (by kernel_rfl) (by kernel_rfl) (by kernel_rfl) ?st (Rel.drew _ _) ?walk
      case st=>exact qk (fun _ h=>by cases h)
      case walk =>
       intro K hK
       dsimp only[qp,List.replicate]
       repeat ((first|(refine qe ?_ (by rfl) (by rfl) (fun W hW _=>⟨W,?_,Rel.refl _ W⟩) ?_;rotate_left;(go_simp<;>with_reducible rfl))|(refine qh (by rfl) ?_));try simp only[Act.put,qj,qf,qc,qg,zA,zB,zC])
       refine qe (.slice (some ⟨g,(i+m)*5,none⟩) (tot-(i+m)) (cap-(i+m))) (by rfl) (by rfl) (fun W hW _=>⟨W,?_,Rel.refl _ W⟩) ?_
       ·go_simp
        rw[hw1.out,Int.toNat_natCast,if_pos (by omega),if_neg (by omega)]
       simp only[Act.put,qj,qf,qc,qg,zA,zB,zC]
       repeat ((first|(refine qe ?_ (by rfl) (by rfl) (fun W hW _=>⟨W,?_,Rel.refl _ W⟩) ?_;rotate_left;(go_simp<;>with_reducible rfl))|(refine qh (by rfl) ?_));try simp only[Act.put,qj,qf,qc,qg,zA,zB,zC])
       refine qe (.slice (some ⟨g,j*5,none⟩) r (cap-j)) (by rfl) (by rfl) (fun W hW _=>⟨W,?_,Rel.refl _ W⟩) ?_
       ·go_simp
        rw[hr.out,if_pos (by omega)]
       simp only[Act.put,qj,qf,qc,qg,zA,zB,zC]
       repeat ((first|(refine qe ?_ (by rfl) (by rfl) (fun W hW _=>⟨W,?_,Rel.refl _ W⟩) ?_;rotate_left;(go_simp<;>with_reducible rfl))|(refine qh (by rfl) ?_));try simp only[Act.put,qj,qf,qc,qg,zA,zB,zC])
       refine qt (hK _ _ fun V hV hF=>?_)
       clear hF hK
       have hV:Ext w2 V:=hV
       dsimp only[List.drop,List.length_cons,List.length_nil,Nat.reduceAdd,Nat.reduceSub]
       have hc2:=hcp2.out V hV
       have hfn:=zH (hfin2.out V hV)
       clear hcp2 hfin2
       generalize World.setRow V _ _=wf at *
       have hclr:∀ A c ty,(Builtin.clear_ #[47] ty #[.slice A (n-tot) c]).run Tryz.prog wf=.ok (.tuple #[]) wf:=fun A c ty=>by
        rw[show n-tot=0 by rw[htn.out];omega]
        exact Xf A c wf ty
       have htn2:tot≤n:=by rw[htn.out];omega
       by_cases hqt:cap=tot
       ·subst hqt
        go_wp2_with (simp only[hc2])
        refine Qm ?_
        go_wp2_with (first|simp only[hclr]|simp only[Xf])
        go_ret
        have:=hfn.out
        simp only[List.append_assoc] at this ⊢
        exact this
       ·go_wp2_with (simp only[hc2])
        refine Qm ?_
        go_wp2_with (first|simp only[hclr]|simp only[Xf])
        go_ret
        have:=hfn.out
        simp only[List.append_assoc] at this ⊢
        exact this
     ·have hm2:2≤m:=by omega
      have hov:∀ la ca lb cb,(callFunc 148 #[.slice (some ⟨g,(i+m)*5,none⟩) lb cb,.slice (some ⟨vg,0,none⟩) la ca]).run Tryz.prog W=.ok (.value (.bool false)) W:=fun la ca lb cb=>Td W vg 0 la ca g lb cb vcur cur (hWv.trans hvg) (hWg.trans hg) (fun e=>hvg2 e.symm) (by omega) _
      have hcp1:∀ V:World,Ext W V→∀ ty dc sc,(Builtin.copy_ #[47,47] ty #[.slice (some ⟨g,(i+m)*5,none⟩) (tot-(i+m)) dc,.slice (some ⟨g,j*5,none⟩) r sc]).run Tryz.prog V=.ok (.int .i64 ((r:Nat):Int)) (V.setRow g (spl cur (i+m) (xs.drop (j*5)))):=fun V hV ty dc sc =>
       jF (k:=r) (o:=i+m) (qb (hWg.trans hg) hV) hdl hfit2 Tryz.underlying47 hsz (by simp only[Nat.min_def];split <;> omega) (hgd V ((Below.block hV g (by omega)).trans hWg)) h1d
      have s1:=QO (cur:=cur) (o:=i+m) hdl hfit2
      have hcp2:∀ V:World,Ext W V→∀ ty dc,(Builtin.copy_ #[47,47] ty #[.slice (some ⟨g,i*5,none⟩) (tot-i) dc,.slice (some ⟨vg,0,none⟩) m vcap]).run Tryz.prog (V.setRow g (spl cur (i+m) (xs.drop (j*5))))=.ok (.int .i64 (m:Nat)) ((V.setRow g (spl cur (i+m) (xs.drop (j*5)))).setRow g (spl (spl cur (i+m) (xs.drop (j*5))) i vs)):=fun V hV ty dc =>
       jF (k:=m) (o:=i) (setRow_heap _ _ _ _ _ _ (qb (hWg.trans hg) hV)) hvl (by rw[s1];exact hfit1) Tryz.underlying47 hsz (by simp only[Nat.min_def];split <;> omega) (hvd _ ((setRow_other _ _ _ _ hvg2).trans ((Below.block hV vg (by omega)).trans hWv))) h1v
      have hfin2:∀ V:World,Ext W V→KD lo (.slice (some ⟨g,0,none⟩) n cap) tot (xs.take (i*5)++vs++xs.drop (j*5)) w (.returned (.slice (some ⟨g,0,none⟩) tot cap)) ((V.setRow g (spl cur (i+m) (xs.drop (j*5)))).setRow g (spl (spl cur (i+m) (xs.drop (j*5))) i vs)):=fun V hV =>
       hfin.out _ (.inl (setRow_heap _ _ _ _ _ _ (setRow_heap _ _ _ _ _ _ (qb (hWg.trans hg) hV)))) (zt (zt (Below.mono (hW.trans hV) hlo) hlo hglo _) hlo hglo _) (fun q hq hne=>(setRow_other _ _ _ _ hne).trans ((setRow_other _ _ _ _ hne).trans (Below.block hV q hq)))
      replace hfin2:=zH hfin2
      replace hcp1:=zH hcp1
      replace hcp2:=zH hcp2
      have hle:decide (((i:Int)+(m:Int))≤(j:Int))=false:=decide_eq_false (by have:=hjE.out;omega)
      have hle2:¬(i+m≤j):=by have:=hjE.out;omega
      have hle3:¬((i:Int)+(m:Int)≤(j:Int)):=by have:=hjE.out;omega
      have hle4:j<i+m:=by have:=hjE.out;omega
      replace hr:=zH hr
      clear hfin hgd hvd htk hdl hvl hxl hcs hvs hvt hb1 hb2 hji htm hj hnm s1 hm1 hm2
      go_upto_region 22 with (simp only[hov])
      refine qo (by kernel_rfl) ?_
      refine qO (w:=W) ql (qF []) (List.replicate 9 true) 1 (by kernel_rfl) (by kernel_rfl) (by kernel_rfl) (by kernel_rfl) (by kernel_rfl) (by kernel_rfl) (by kernel_rfl) ?st (Rel.drew _ _) ?walk
      case st=>exact qk (fun _ h=>by cases h)
      case walk =>
       intro K hK
       dsimp only[qp,List.replicate]
       repeat ((first|(refine qe ?_ (by rfl) (by rfl) (fun W hW _=>⟨W,?_,Rel.refl _ W⟩) ?_;rotate_left;(go_simp<;>with_reducible rfl))|(refine qh (by rfl) ?_));try simp only[Act.put,qj,qf,qc,qg,zA,zB,zC])
       refine qe (.slice (some ⟨g,(i+m)*5,none⟩) (tot-(i+m)) (cap-(i+m))) (by rfl) (by rfl) (fun W hW _=>⟨W,?_,Rel.refl _ W⟩) ?_
       ·go_simp
        rw[hw1.out,Int.toNat_natCast,if_pos (by omega),if_neg (by omega)]
       simp only[Act.put,qj,qf,qc,qg,zA,zB,zC]
       repeat ((first|(refine qe ?_ (by rfl) (by rfl) (fun W hW _=>⟨W,?_,Rel.refl _ W⟩) ?_;rotate_left;(go_simp<;>with_reducible rfl))|(refine qh (by rfl) ?_));try simp only[Act.put,qj,qf,qc,qg,zA,zB,zC])
       refine qe (.slice (some ⟨g,j*5,none⟩) r (cap-j)) (by rfl) (by rfl) (fun W hW _=>⟨W,?_,Rel.refl _ W⟩) ?_
       ·go_simp
        rw[hr.out,if_pos (by omega)]
       simp only[Act.put,qj,qf,qc,qg,zA,zB,zC]
       repeat ((first|(refine qe ?_ (by rfl) (by rfl) (fun W hW _=>⟨W,?_,Rel.refl _ W⟩) ?_;rotate_left;(go_simp<;>with_reducible rfl))|(refine qh (by rfl) ?_));try simp only[Act.put,qj,qf,qc,qg,zA,zB,zC])
       refine qt (hK _ _ fun V hV hF=>?_)
       clear hF hK
       have hV:Ext W V:=hV
       dsimp only[List.drop,List.length_cons,List.length_nil,Nat.reduceAdd,Nat.reduceSub]
       have hc1:=hcp1.out V hV
       have hc2:=hcp2.out V hV
       have hfn:=zH (hfin2.out V hV)
       clear hcp1 hcp2 hfin2 hov
       generalize World.setRow (World.setRow V _ _) _ _=wf at *
       generalize World.setRow V _ _=wm at *
       go_wp2_with (simp only[hc1])
       refine Qm ?_
       go_wp2_with (simp only[hc2])
       go_ret
       exact hfn.out
end Go.Proofs.YtpbniokljofedaaGreat
