/- Texts Insert, SDel, BackD, BuildW, Mono, Roomy, Lay1, Lay, joined. -/
import Derived.Defers
import Derived.Test.YtpbniokljofedaaGreatZI20
set_option linter.unusedSimpArgs false
set_option linter.unusedVariables false
set_option maxHeartbeats 8000000
open Go.Proofs.Tryz
namespace Go.Proofs.YtpbniokljofedaaGreat
open Go.RowKit
theorem XV (w:World) (g o la ca vg lb cb:Nat) (cur yO:Array Value) (hg:w.heap[g]?=some (.cells cur 68 (0,0))) (hv:w.heap[vg]?=some (.cells yO 68 (0,0))) (aN:vg≠g) (h0:cur.size≠0) (vo:Nat) : (callFunc 148 #[.slice (some ⟨vg,vo,none⟩) lb cb,.slice (some ⟨g,o,none⟩) la ca]).run prog w=.ok (.value (.bool false)) w:=by
 rw[run_callFunc_extern func148 zQ zQ zQ (e:=Extern.SlicesOverlaps.overlaps #[47,47] #[4]) zQ,
  Lib.run_overlaps_apart w 47 4 68 underlying47 5 (fun w=>sizeOf68 w) ⟨vg,vo,none⟩ ⟨g,o,none⟩ lb cb la ca aN 68 68 yO.size cur.size (by simp[World.shape?,hv]) (by simp[World.shape?,hg]) h0 (by simp[World.frozen?,hv]) (by simp[World.frozen?,hv])]
 rfl
set_option maxRecDepth 100000 in
theorem qfg (lo:Nat) (s:Value) (n i:Nat) (xs:List Value) (v:Value) (m lov:Nat) (vs:List Value) (w:World) (ho:w.ownsRow lo 68 5 s n xs) (hv:w.ownsRow lov 68 5 v m vs) (uQ:∀ q,v.ownBlock=some q->s.ownBlock≠some q) (hm:0<m) (hnm:n+m<=100) (hi:i<=n) (h1x:∀ u∈xs,u.oneCell'=true) (xR:∀ u∈vs,u.oneCell'=true) (aP:lo<=w.heap.size):Calls prog 147 #[s,.int .i64 (i:Int),v] w (VG lo s (n+m) (xs.take (i*5)++vs++xs.drop (i*5)) w):=by
 obtain⟨i0,nH,aY,aV,aX⟩:=info_parts Tryz.info_item;have bz:=hv.1;have fH:=ho.1;obtain⟨vg,nD,yO,rfl,hvlo,hvg,hvc,hvm,hvs,hvt⟩:∃ g cap cur,v=.slice (some ⟨g,0,none⟩) m cap/\lov<=g/\w.heap[g]?=some (.cells cur 68 (0,0))/\m<=cap/\cap<=maxLen/\cur.size=cap*5/\cur.toList.take (m*5)=vs:=by
  rcases hv.2 with ⟨_,h0⟩|h
  ·omega
  ·exact h
 have iP:=qcJ hv;have hm0:((m:Int) == 0)=false:=by rw[beq_eq_false_iff_ne];omega
 have hrv:Rd w w.heap.size 5 (some ⟨vg,0,none⟩) m vs:=Rd.of_own hv;by_cases hin:i=n
 ·subst hin;have hy:xs.take (i*5)++vs++xs.drop (i*5)=xs++vs:=by rw[List.take_of_length_le zO,List.drop_of_length_le zO,List.append_nil]
  rw[hy];have hd1:decide ((i:Int)=(i:Int))=true:=decide_eq_true rfl;have hgo:∀ A c,s=.slice A i c->(A=none\/∃ g,A=some ⟨g,0,none⟩)->Calls prog 147 #[s,.int .i64 (i:Int),.slice (some ⟨vg,0,none⟩) m nD] w (VG lo s (i+m) (xs++vs) w):=fun A c hs hA=>by
   have hic:i<=c:=by obtain⟨A',c',e,h1,h2⟩:=qy ho;rw[hs] at e;cases e;exact h1
   subst hs;clear hvg hvs hvt iP hy;replace hvm:=zH hvm;have aI:∀ (v':Value) (w':World),w'.ownsRow lo 68 5 v' (i+m) (xs++vs)->w.grownBy w' (Value.slice A i c).ownBlock->Below lo w w'->VG lo (.slice A i c) (i+m) (xs++vs) w (.returned v') w':=fun v' w' h1 h2 h3=>⟨v',rfl,h1,h3,fun q hq hn=>h2.block q hq fun e=>hn e.symm⟩
   replace aI:=zH aI;rcases hA with rfl|⟨g,rfl⟩
   ·go_enter func147,ntmps147;go_wp2_with (at_builtin;refine qI ?_);refine Qh.go (Qq _ rfl (.tmp 23) (.tmp 24) 47 rfl lo 68 i0 _ 5 48 underlying47 nH aY aV aX rfl zA1 _ i xs rfl ho w.heap.size _ m nD vs zE hrv xR zO zA1 aP ?_);intro v' w' h1 h2 h3 _;go_wp2_with fail;go_ret;exact aI.out v' w' h1 h2 h3
   ·go_enter func147,ntmps147;by_cases hci:c=i
    ·subst hci;have hJG:c-c=0:=zO;go_wp2_with (at_builtin;refine qI ?_);refine Qh.go (Qq _ rfl (.tmp 23) (.tmp 24) 47 rfl lo 68 i0 _ 5 48 underlying47 nH aY aV aX rfl zA1 _ c xs rfl ho w.heap.size _ m nD vs zE hrv xR zO zA1 aP ?_);intro v' w' h1 h2 h3 _;go_wp2_with fail;go_ret;exact aI.out v' w' h1 h2 h3
    ·have hJG:¬(c-i=0):=zO;go_wp2_with (at_builtin;refine qI ?_);refine Qh.go (Qq _ rfl (.tmp 23) (.tmp 24) 47 rfl lo 68 i0 _ 5 48 underlying47 nH aY aV aX rfl zA1 _ i xs rfl ho w.heap.size _ m nD vs zE hrv xR zO zA1 aP ?_);intro v' w' h1 h2 h3 _;go_wp2_with fail;go_ret;exact aI.out v' w' h1 h2 h3
  rcases ho.2 with ⟨e,h0⟩|⟨g,cap,cur,e,_⟩
  ·exact hgo none 0 (by rw[e,h0]) (.inl rfl)
  ·exact hgo _ cap e (.inr ⟨g,rfl⟩)
 ·obtain⟨g,cap,cur,rfl,fK,hg,fP,eG,bV,xx⟩:∃ g cap cur,s=.slice (some ⟨g,0,none⟩) n cap/\lo<=g/\w.heap[g]?=some (.cells cur 68 (0,0))/\n<=cap/\cap<=maxLen/\cur.size=cap*5/\cur.toList.take (n*5)=xs:=by
   rcases ho.2 with ⟨_,h0⟩|h
   ·omega
   ·exact h
  have hlt:i<n:=zO;have yC:((i:Int) == (n:Int))=false:=by rw[beq_eq_false_iff_ne];omega
  have hci:¬(cap=i):=zO;have hCB:vg≠g:=fun e=>uQ vg rfl (by rw[e];rfl);have dK:(xs.drop (i*5)).length=(n-i)*5:=by rw[List.length_drop];omega
  have h1d:∀ u∈xs.drop (i*5),u.oneCell'=true:=fun u hu=>h1x u (List.mem_of_mem_drop hu);have hsz:(Tryz.prog.info? 68).map (·.size)=some 5:=by rw[nH];simp[aV]
  have fG:∀ W:World,W.heap[g]?=w.heap[g]?->∀ j u,(xs.drop (i*5))[j]?=some u->W.cell? ((⟨g,i*5,none⟩:Addr).add j)=some u:=fun W hW j u hu=>by
   rw[Addr.add_lit,qa (hW.trans hg),<-Array.getElem?_toList];rw[List.getElem?_drop,<-xx,List.getElem?_take] at hu;split at hu
   ·exact hu
   ·cases hu
  have lg:∀ W:World,W.heap[vg]?=w.heap[vg]?->∀ j u,vs[j]?=some u->W.cell? ((⟨vg,0,none⟩:Addr).add j)=some u:=fun W hW j u hu=>by rw[World.cell?_of_block (w:=w) (by rw[Addr.add_lit];exact hW)];exact iP j u hu
  have hgl:=(zG.1 hg).1;replace eG:=zH eG;replace hvm:=zH hvm;replace h1x:=zH h1x;replace uQ:=zH uQ;have hFQ:=(zG.1 hvg).1;clear iP hrv ho hv;by_cases hcap:cap<n+m
  ·obtain⟨k,hk⟩:∃ k,k=n+m-i:=⟨_,rfl⟩
   have dY:(n:Int)+(m:Int)-(i:Int)=((k:Nat):Int):=zO;obtain⟨C,hC⟩:∃ C,C=grownCap w (i+k) cap 68:=⟨_,rfl⟩
   have hCge:i+k<=C:=by rw[hC];exact grownCap_ge w (i+k) cap _
   have hCm:C<=maxLen:=by rw[hC];exact grownCap_le_maxLen w (i+k) cap _ zA7
   obtain⟨bH,fZ⟩:∃ bH:Array Value,bH=(xs.take (i*5)).toArray++Builtin.zeroCells (Value.agg #[.int .u8 0,.int .u32 0,.int .u32 0,.int .i64 0,.slice none 0 0]).cells k++Builtin.zeroCells (Value.agg #[.int .u8 0,.int .u32 0,.int .u32 0,.int .i64 0,.slice none 0 0]).cells (C-(i+k)):=⟨_,rfl⟩
   have au:∀ ty,(Builtin.append_ #[47,3] ty #[.slice (some ⟨g,0,none⟩) i cap,.int .i64 ((n:Int)+(m:Int)-(i:Int))]).run prog w=.ok (.slice (some ⟨w.heap.size,0,none⟩) (i+k) C) (w.drew.alloc (.cells bH 68)):=fun ty=>by
    rw[dY,hC,fZ,hC];exact Lib.run_append_grow_zeros (P:=prog) w 47 3 ty 68 i0 _ .i64 .i64 underlying47 underlying3 nH aY (some ⟨g,0,none⟩) i cap (xs.take (i*5)) (by
     rw[aV];exact run_firstCells_some w.drew 5 i ⟨g,0,none⟩ i cap (xs.take (i*5)) (by rw[List.length_take];omega) (fun j u hu=>by
      rw[Addr.add_lit,Nat.zero_add];show w.cell? _=_;rw[qa hg,<-Array.getElem?_toList];rw[<-xx,List.take_take,List.getElem?_take] at hu;split at hu
      ·exact hu
      ·cases hu)) k zO zO zO zO (by rw[aX];omega) (by rw[aX];exact growslice_fits zO zO)
   have dC:bH.size=C*5:=by rw[fZ];simp only[Array.size_append,List.size_toArray,size_zeroCells,List.length_take];simp only[Value.cells,List.size_toArray,List.length_cons,List.length_nil];omega
   have ug:bH.toList.take (i*5)=xs.take (i*5):=by
    rw[fZ];simp only[Array.toList_append,List.append_assoc];have:i*5=(xs.take (i*5)).length:=by rw[List.length_take];omega
    rw[this];simp
   clear fZ hC;have hsd:(i+k)=n+m:=zO;have aI:∀ W:World,W.heap[w.heap.size]?=some (.cells (spl (spl bH i vs) (i+m) (xs.drop (i*5))) 68 (0,0))->Below lo w W->(∀ q,q<w.heap.size->W.heap[q]?=w.heap[q]?)->VG lo (.slice (some ⟨g,0,none⟩) n cap) (n+m) (xs.take (i*5)++vs++xs.drop (i*5)) w (.returned (.slice (some ⟨w.heap.size,0,none⟩) (i+k) C)) W:=fun W h1 h2 h3=>by
    rw[hsd];refine⟨_,rfl,RowI.own ⟨_,h1,?_,?_⟩ ?_ aP zO hCm,h2,fun q hq _=>h3 q hq⟩
    ·rw[QE (k:=n-i) dK (by rw[QE bz zO];omega),QE bz zO,dC]
    ·have e1:=Yv ug bz zO;have e2:=Yv e1 dK (by rw[QE bz zO];omega);rw[<-e2];congr 1;omega
    ·simp only[List.length_append,List.length_take,dK,bz];omega
   replace aI:=zH aI;replace ug:=zH ug;clear dY;replace hk:=zH hk;have hiC:¬(C=i):=zO;have himC:¬(C=i+m):=zO;replace hCm:=zH hCm;go_enter func147,ntmps147;go_wp2_with (at_builtin;refine qI ?_);refine Qh.go (Lib.wpList_append_run _ rfl _ _ _ _ rfl _ _ rfl rfl _ _ (au _) ?_);clear au;generalize aA:World.alloc _ _=w1;have p1:w1.heap[w.heap.size]?=some (.cells bH 68 (0,0)):=by rw[<-aA];exact zI _ _ _ rfl
   have k1:∀ q,q<w.heap.size->w1.heap[q]?=w.heap[q]?:=fun q hq=>by rw[<-aA];exact zK _ _ _ hq
   have z1:w.heap.size<=w1.heap.size:=by rw[<-aA];simp
   have B1:Below lo w w1:=by rw[<-aA];exact Below.mono ((Ext.drew w).trans (zN _ _)) aP
   clear aA;have eY:∀ ty,(Builtin.copy_ #[47,47] ty #[.slice (some ⟨w.heap.size,i*5,none⟩) (n+m-i) (C-i),.slice (some ⟨vg,0,none⟩) m nD]).run prog w1=.ok (.int .i64 (m:Nat)) (w1.setRow w.heap.size (spl bH i vs)):=fun ty =>
    jD (k:=m) (o:=i) p1 bz zO underlying47 hsz zA9 (lg w1 (k1 _ hFQ)) xR
   obtain⟨w2,dA⟩:∃ w2,w2=w1.setRow w.heap.size (spl bH i vs):=⟨_,rfl⟩
   rw[<-dA] at eY;have p2:w2.heap[w.heap.size]?=some (.cells (spl bH i vs) 68 (0,0)):=by rw[dA];exact setRow_heap _ _ _ _ _ _ p1
   have k2:∀ q,q<w.heap.size->w2.heap[q]?=w.heap[q]?:=fun q hq=>by rw[dA];exact(setRow_other _ _ _ _ zO).trans (k1 q hq)
   have z2:w.heap.size<=w2.heap.size:=by rw[dA];simpa using z1
   have B2:Below lo w w2:=by rw[dA];exact QL B1 aP aP _
   have s2:=QE (cur:=bH) (o:=i) bz zO;clear dA p1 k1 z1;have dP:∀ W:World,Ext w2 W->∀ ty,(Builtin.copy_ #[47,47] ty #[.slice (some ⟨w.heap.size,(i+m)*5,none⟩) (n+m-(i+m)) (C-(i+m)),.slice (some ⟨g,i*5,none⟩) (n-i) (cap-i)]).run prog W=.ok (.int .i64 ((n-i:Nat):Int)) (W.setRow w.heap.size (spl (spl bH i vs) (i+m) (xs.drop (i*5)))):=fun W hW ty =>
    jD (k:=n-i) (o:=i+m) (qb p2 hW) dK zO underlying47 hsz zA9 (fG W ((Below.block hW g zO).trans (k2 _ hgl))) h1d
   have ag:∀ W:World,Ext w2 W->VG lo (.slice (some ⟨g,0,none⟩) n cap) (n+m) (xs.take (i*5)++vs++xs.drop (i*5)) w (.returned (.slice (some ⟨w.heap.size,0,none⟩) (n+m) C)) (W.setRow w.heap.size (spl (spl bH i vs) (i+m) (xs.drop (i*5)))):=fun W hW=>by have:=aI.out (W.setRow w.heap.size (spl (spl bH i vs) (i+m) (xs.drop (i*5)))) (setRow_heap _ _ _ _ _ _ (qb p2 hW)) (QL (B2.trans (Below.mono hW zO)) aP aP _) (fun q hq=>(setRow_other _ _ _ _ zO).trans ((Below.block hW q zO).trans (k2 q hq)));rw[hsd] at this;exact this
   replace ag:=zH ag;replace dP:=zH dP;clear aI;have hLD:=zH (show IntKind.i64.wrap ((i:Int)+(m:Int))=((i+m:Nat):Int) by rw[IntKind.wrap_i64];omega);have him:(0:Int)<=(i:Int)+(m:Int):=zO;have himt:((i:Int)+(m:Int)).toNat=i+m:=zO;go_upto_region 11 with (simp only[eY])
   refine qm zQ ?_;refine qL (w:=w2) qk (qD []) (List.replicate 8 true) 1 zQ zQ zQ zQ zQ zQ zQ ?st (Rel.drew _ _) ?walk
   case st=>exact qj (fun _ h=>by cases h)
   case walk =>
    intro K hK;dsimp only[qp,List.replicate];repeat ((first|(refine qd ?_ zA0 zA0 (fun W hW _=>⟨W,?_,Rel.refl _ W⟩) ?_;rotate_left;(go_simp<;>with_reducible rfl))|(refine qh zA0 ?_));try simp only[Act.put,ql,qf,qc,qg,zA,zB,zC])
    refine qd (.slice (some ⟨w.heap.size,(i+m)*5,none⟩) (n+m-(i+m)) (C-(i+m))) zA0 zA0 (fun W hW _=>⟨W,?_,Rel.refl _ W⟩) ?_
    ·go_simp;rw[hLD.out,Int.toNat_natCast,if_pos zO,if_neg zO]
    simp only[Act.put,qf,qc,qg,zA,zB,zC];repeat ((first|(refine qd ?_ zA0 zA0 (fun W hW _=>⟨W,?_,Rel.refl _ W⟩) ?_;rotate_left;(go_simp<;>with_reducible rfl))|(refine qh zA0 ?_));try simp only[Act.put,ql,qf,qc,qg,zA,zB,zC])
    refine qt (hK _ _ fun W hW hF=>?_);clear hF hK;have hW:Ext w2 W:=hW;refine zC3 ?_;have az:=dP.out W hW;go_wp2_with (simp only[az]);refine Qm ?_;go_wp2_with fail;go_ret;exact ag.out W hW
  ·have hov:∀ la ca lb cb,(callFunc 148 #[.slice (some ⟨vg,0,none⟩) lb cb,.slice (some ⟨g,(i+m)*5,none⟩) la ca]).run prog w=.ok (.value (.bool false)) w:=fun la ca lb cb=>XV w g _ la ca vg lb cb cur yO hg hvg hCB zO 0;go_enter func147,ntmps147;go_upto_region 15 with (simp only[hov])
   have hPR:(n+m)*5<=cur.size:=zO;have eY:∀ W:World,Ext w W->∀ ty dc sc,(Builtin.copy_ #[47,47] ty #[.slice (some ⟨g,(i+m)*5,none⟩) (n+m-(i+m)) dc,.slice (some ⟨g,i*5,none⟩) (n+m-i) sc]).run prog W=.ok (.int .i64 ((n-i:Nat):Int)) (W.setRow g (spl cur (i+m) (xs.drop (i*5)))):=fun W hW ty dc sc =>
    jD (k:=n-i) (o:=i+m) (qb hg hW) dK zO underlying47 hsz zA9 (fG W (Below.block hW g hgl)) h1d
   have s1:=QE (cur:=cur) (o:=i+m) dK zO;have dP:∀ W:World,Ext w W->∀ ty dc,(Builtin.copy_ #[47,47] ty #[.slice (some ⟨g,i*5,none⟩) (n+m-i) dc,.slice (some ⟨vg,0,none⟩) m nD]).run prog (W.setRow g (spl cur (i+m) (xs.drop (i*5))))=.ok (.int .i64 (m:Nat)) ((W.setRow g (spl cur (i+m) (xs.drop (i*5)))).setRow g (spl (spl cur (i+m) (xs.drop (i*5))) i vs)):=fun W hW ty dc =>
    jD (k:=m) (o:=i) (setRow_heap _ _ _ _ _ _ (qb hg hW)) bz zO underlying47 hsz zA9 (lg _ ((setRow_other _ _ _ _ hCB).trans (Below.block hW vg hFQ))) xR
   have aI:∀ W:World,Ext w W->VG lo (.slice (some ⟨g,0,none⟩) n cap) (n+m) (xs.take (i*5)++vs++xs.drop (i*5)) w (.returned (.slice (some ⟨g,0,none⟩) (n+m) cap)) ((W.setRow g (spl cur (i+m) (xs.drop (i*5)))).setRow g (spl (spl cur (i+m) (xs.drop (i*5))) i vs)):=fun W hW=>by
    refine⟨_,rfl,RowI.own ⟨_,setRow_heap _ _ _ _ _ _ (setRow_heap _ _ _ _ _ _ (qb hg hW)),?_,?_⟩ ?_ fK zO eG.out,QL (QL (Below.mono hW aP) aP fK _) aP fK _,fun q hq hn=>?_⟩
    ·rw[QE bz zO,s1,bV]
    ·exact qhK xx fH bz hi hPR
    ·simp only[List.length_append,List.length_take,dK,bz];omega
    ·have:q≠g:=fun e=>hn (by rw[e];rfl);exact(setRow_other _ _ _ _ this).trans ((setRow_other _ _ _ _ this).trans (Below.block hW q hq))
   replace aI:=zH aI;replace dP:=zH dP;replace eY:=zH eY;have hLD:=zH (show IntKind.i64.wrap ((i:Int)+(m:Int))=((i+m:Nat):Int) by rw[IntKind.wrap_i64];omega);clear hov fG lg;refine qm zQ ?_;refine qL (w:=w) qk (qD []) (List.replicate 8 true) 1 zQ zQ zQ zQ zQ zQ zQ ?st (Rel.drew _ _) ?walk
   case st=>exact qj (fun _ h=>by cases h)
   case walk =>
    intro K hK;dsimp only[qp,List.replicate];repeat ((first|(refine qd ?_ zA0 zA0 (fun W hW _=>⟨W,?_,Rel.refl _ W⟩) ?_;rotate_left;(go_simp<;>with_reducible rfl))|(refine qh zA0 ?_));try simp only[Act.put,ql,qf,qc,qg,zA,zB,zC])
    refine qd (.slice (some ⟨g,(i+m)*5,none⟩) (n+m-(i+m)) (cap-(i+m))) zA0 zA0 (fun W hW _=>⟨W,?_,Rel.refl _ W⟩) ?_
    ·go_simp;rw[hLD.out,Int.toNat_natCast,if_pos zO,if_neg zO]
    simp only[Act.put,qf,qc,qg,zA,zB,zC];repeat ((first|(refine qd ?_ zA0 zA0 (fun W hW _=>⟨W,?_,Rel.refl _ W⟩) ?_;rotate_left;(go_simp<;>with_reducible rfl))|(refine qh zA0 ?_));try simp only[Act.put,ql,qf,qc,qg,zA,zB,zC])
    refine qd (.slice (some ⟨g,i*5,none⟩) (n+m-i) (cap-i)) zA0 zA0 (fun W hW _=>⟨W,?_,Rel.refl _ W⟩) ?_
    ·go_simp;intro hx;exfalso;omega
    simp only[Act.put,qf,qc,qg,zA,zB,zC];repeat ((first|(refine qd ?_ zA0 zA0 (fun W hW _=>⟨W,?_,Rel.refl _ W⟩) ?_;rotate_left;(go_simp<;>with_reducible rfl))|(refine qh zA0 ?_));try simp only[Act.put,ql,qf,qc,qg,zA,zB,zC])
    refine qt (hK _ _ fun W hW hF=>?_);clear hF hK;have hW:Ext w W:=hW;refine zC3 ?_;have dV:=eY.out W hW;have az:=dP.out W hW;have ui:=zH (aI.out W hW);generalize World.setRow (World.setRow W _ _) _ _=wf at *;generalize World.setRow W _ _=wm at *;go_wp2_with (simp only[dV]);refine Qm ?_;go_wp2_with (simp only[az]);go_ret;exact ui.out
def SzK (lo:Nat) (W W':World):Prop:=∀ (q:Nat) (ty:TypeId) (cs:Array Value),lo<=q->W.heap[q]?=some (.cells cs ty (0,0))->∃ cs',W'.heap[q]?=some (.cells cs' ty (0,0))/\cs'.size=cs.size
def qbv (lo:Nat):Rel where
 rel W W':=Below lo W W'/\SzK lo W W'
 refl' w:=⟨Below.refl _ _,fun _ _ cs _ h=>⟨cs,h,rfl⟩⟩
 trans' h k:=⟨Below.trans h.1 k.1,fun q ty cs hq hc=>by obtain⟨c1,h1,h2⟩:=h.2 q ty cs hq hc;obtain⟨c2,k1,k2⟩:=k.2 q ty c1 hq h1;exact⟨c2,k1,k2.trans h2⟩⟩
 drew' w:=⟨Below.drew (Below.refl _ _),fun _ _ cs _ h=>⟨cs,h,rfl⟩⟩
theorem qbw {lo:Nat} {W W':World} (h:Ext W W') (aP:lo<=W.heap.size):(qbv lo).r W W':=⟨Below.mono h aP,fun q _ cs _ hc=>⟨cs,(Below.block h q (zG.1 hc).1).trans hc,rfl⟩⟩
def Ty (lo n:Nat):qS:=⟨Option Addr×Nat,fun p=>.slice p.1 n p.2,fun p W=>∃ us,W.ownsRow lo 68 5 (.slice p.1 n p.2) n us⟩
theorem ZS (lo n:Nat) (A:Option Addr) (c:Nat):(Ty lo n).f (A,c)=.slice A n c:=rfl
theorem YI (lo n:Nat):∀ p,qC (qbv lo) ((Ty lo n).φ p):=fun p W W' he ⟨us,h⟩=>by
 obtain⟨hl,⟨e,h0⟩|⟨g,cap,cur,e,hg,hc,h1,h2,h3,h4⟩⟩:=h
 ·exact⟨us,hl,.inl ⟨e,h0⟩⟩
 ·obtain⟨c',k1,k2⟩:=he.2 g _ cur hg hc;exact⟨c'.toList.take (n*5),by rw[List.length_take,Array.length_toList,k2,h3];have:=Nat.mul_le_mul_right 5 h1;omega,.inr ⟨g,cap,c',e,hg,k1,h1,h2,k2.trans h3,rfl⟩⟩
def qcd (lo:Nat) (ty:TypeId):qS:=⟨Nat,fun b=>.pointer (some ⟨b,0,none⟩),fun b W=>lo<=b/\∃ v,W.heap[b]?=some (.cells #[v] ty (0,0))⟩
theorem ZT (lo:Nat) (ty:TypeId) (b:Nat):(qcd lo ty).f b=.pointer (some ⟨b,0,none⟩):=rfl
theorem qaz (lo:Nat) (ty:TypeId):∀ p,qC (qbv lo) ((qcd lo ty).φ p):=fun p W W' he ⟨h1,v,h2⟩=>by
 obtain⟨c',k1,k2⟩:=he.2 p _ _ h1 h2;have:∃ v,c'=#[v]:=by
  rcases c' with ⟨l⟩
  match l,k2 with
  | [v],_=>exact⟨v,rfl⟩
 obtain⟨v',rfl⟩:=this;exact⟨h1,v',k1⟩
def itz:List Value:=[.int .u8 0,.int .u32 0,.int .u32 0,.int .i64 0,.slice none 0 0]
theorem qgP {W:World} {g k c:Nat} {cur:Array Value} (hg:W.heap[g]?=some (.cells cur 68 (0,0))) (hf:k*5+5<=cur.size) (ty:TypeId):(Builtin.clear_ #[47] ty #[.slice (some ⟨g,k*5,none⟩) 1 c]).run prog W=.ok (.tuple #[]) (W.setRow g (spl cur k itz)):=by
 obtain⟨i0,hi,aY,aV,aX⟩:=info_parts Tryz.info_item;have aH:=run_storeCells_at prog g (k*5) 68 itz 0 cur W hg (by simpa [itz] using hf) (by simp[itz,Value.oneCell']);rw[Nat.add_zero] at aH;have hzc:(Builtin.zeroCells (Value.agg #[.int .u8 0,.int .u32 0,.int .u32 0,.int .i64 0,.slice none 0 0]).cells 1).toList=itz:=zQ;have e:∀ l:List Value,l=itz->(storeCells ⟨g,k*5,none⟩ l).run prog W=.ok () (W.setRow g (spl cur k itz)):=fun l hl=>by rw[hl];exact aH
 simp[Builtin.clear_,run_underlying underlying47,zeroValue,typeInfo,hi,aY];rw[e _ hzc];rfl
theorem take_spl {cur:Array Value} {i m n:Nat} {A vs:List Value} (hA:cur.toList.take (i*5)=A) (hv:vs.length=m*5) (hn:i+m<=n) (hc:n*5+5<=cur.size) : (spl (spl cur i vs) n itz).toList.take ((i+m)*5)=A++vs:=by
 have ha:(cur.toList.take (i*5)).length=i*5:=by rw[List.length_take,Array.length_toList];omega
 have e1:(spl cur i vs).toList=A++vs++cur.toList.drop (i*5+vs.length):=by unfold spl;rw[List.toList_toArray,hA]
 have hl:(A++vs).length=(i+m)*5:=by rw[List.length_append,<-hA,ha,hv];omega
 unfold spl at e1 ⊢;rw[List.toList_toArray,e1,List.append_assoc,List.take_append_of_le_length (by rw[List.length_take,List.length_append,hl];omega),List.take_take,Nat.min_eq_left (Nat.mul_le_mul_right 5 hn),<-hl];exact List.take_left
set_option maxRecDepth 100000 in
theorem qej (lo:Nat) (s:Value) (n i:Nat) (xs:List Value) (w:World) (ho:w.ownsRow lo 68 5 s n xs) (hin:i<n) (hn:n<=100) (h1d:∀ u∈xs.drop ((i+1)*5),u.oneCell'=true) (aP:lo<=w.heap.size):Calls prog 111 #[s,.int .i64 (i:Int),.int .i64 ((i+1:Nat):Int)] w (fun e W=>VG lo s (n-1) (xs.take (i*5)++xs.drop ((i+1)*5)) w e W/\SzK lo w W):=by
 obtain⟨i0,nH,aY,aV,aX⟩:=info_parts Tryz.info_item;have fH:=ho.1;obtain⟨g,cap,cur,rfl,fK,hg,fP,eG,bV,xx⟩:∃ g cap cur,s=.slice (some ⟨g,0,none⟩) n cap/\lo<=g/\w.heap[g]?=some (.cells cur 68 (0,0))/\n<=cap/\cap<=maxLen/\cur.size=cap*5/\cur.toList.take (n*5)=xs:=by
  rcases ho.2 with ⟨_,h0⟩|h
  ·omega
  ·exact h
 obtain⟨j,uM⟩:∃ j,j=i+1:=⟨_,rfl⟩
 obtain⟨r,hrE⟩:∃ r,r=n-j:=⟨_,rfl⟩
 have hir:n-1=i+r:=zO;rw[<-uM] at h1d;rw[<-uM,hir];have dK:(xs.drop (j*5)).length=r*5:=by rw[List.length_drop];omega
 have hA:cur.toList.take (i*5)=xs.take (i*5):=by rw[<-xx,List.take_take,Nat.min_eq_left zO]
 have hgl:=(zG.1 hg).1;have xH:(spl cur i (xs.drop (j*5))).size=cap*5:=by rw[QE dK (by rw[bV];omega),bV]
 have oO:∀ W,Ext w W->(∀ (ad:Addr) c ty,(0<r->ad=⟨g,j*5,none⟩)->(Builtin.append_ #[47,47] ty #[.slice (some ⟨g,0,none⟩) i cap,.slice (some ad) r c]).run prog W=.ok (.slice (some ⟨g,0,none⟩) (i+r) cap) (W.setRow g (spl cur i (xs.drop (j*5))))) /\
   (∀ c ty,(Builtin.clear_ #[47] ty #[.slice (some ⟨g,(i+r)*5,none⟩) 1 c]).run prog (W.setRow g (spl cur i (xs.drop (j*5))))=.ok (.tuple #[]) ((W.setRow g (spl cur i (xs.drop (j*5)))).setRow g (spl (spl cur i (xs.drop (j*5))) (i+r) itz))) /\
   (VG lo (.slice (some ⟨g,0,none⟩) n cap) (i+r) (xs.take (i*5)++xs.drop (j*5)) w (.returned (.slice (some ⟨g,0,none⟩) (i+r) cap)) ((W.setRow g (spl cur i (xs.drop (j*5)))).setRow g (spl (spl cur i (xs.drop (j*5))) (i+r) itz))/\SzK lo w ((W.setRow g (spl cur i (xs.drop (j*5)))).setRow g (spl (spl cur i (xs.drop (j*5))) (i+r) itz))):=fun W hW=>by
  have hgW:W.heap[g]?=some (.cells cur 68 (0,0)):=(Below.block hW g hgl).trans hg;have p2:(W.setRow g (spl cur i (xs.drop (j*5)))).heap[g]?=some (.cells (spl cur i (xs.drop (j*5))) 68 (0,0)):=setRow_heap _ _ _ _ _ _ hgW;refine⟨fun ad c ty had=>?_,fun c ty=>qgP p2 zO ty,?_⟩
  ·have h0:=run_append_room (P:=prog) W 47 ty 68 i0 underlying47 nH g i cap cur hgW ad r c (xs.drop (j*5)) (by rw[aV];exact dK) (fun q u hu=>by
    have hr0:0<r:=by have:=(List.getElem?_eq_some_iff.1 hu).1;omega
    rw[had hr0,Addr.add_lit,qa hgW,<-Array.getElem?_toList];rw[List.getElem?_drop,<-xx,List.getElem?_take] at hu;split at hu
    ·exact hu
    ·cases hu) h1d zO (by rw[aV,dK,bV];omega)
   rw[aV] at h0;exact h0
  ·have k2:∀ q,q≠g->(W.setRow g (spl cur i (xs.drop (j*5)))).heap[q]?=W.heap[q]?:=fun q hq=>setRow_other _ _ _ _ hq;have hlW:lo<=W.heap.size:=Nat.le_trans aP hW.size;have hs2:(spl (spl cur i (xs.drop (j*5))) (i+r) itz).size=cap*5:=by rw[QE (k:=1) rfl zO,xH]
   refine⟨?_,fun q ty cs hq hc=>?_⟩;rotate_left
   ·by_cases e:q=g
    ·subst e;rw[hg] at hc;cases hc;exact⟨_,setRow_heap _ _ _ _ _ _ p2,hs2.trans bV.symm⟩
    ·exact⟨cs,(setRow_other _ _ _ _ e).trans ((k2 q e).trans ((Below.block hW q (zG.1 hc).1).trans hc)),rfl⟩
   refine⟨_,rfl,⟨by rw[List.length_append,List.length_take,dK];omega,.inr ⟨g,cap,_,rfl,fK,setRow_heap _ _ _ _ _ _ p2,zO,eG,hs2,take_spl hA dK (zM _) zO⟩⟩,QL (QL (Below.mono hW aP) aP fK _) aP fK _,fun q hq nK=>(setRow_other _ _ _ _ (fun e=>nK (by rw[e];rfl))).trans ((k2 q fun e=>nK (by rw[e];rfl)).trans (Below.block hW q hq))⟩
 replace oO:=zH oO;have bD:(i:Int)<=(j:Int):=zO;have bI:(j:Int)<=(n:Int):=zO;have dF:(n:Int)<=(cap:Int):=zO;have iI:(i:Int)<=(cap:Int):=zO;have hb5:((i+r:Nat):Int)<=(n:Int):=zO;have hij:((i:Int) == (j:Int))=false:=by rw[beq_eq_false_iff_ne];omega
 have hij2:decide (i=j)=false:=decide_eq_false zO;have hir2:n-(i+r)=1:=zO;have hnj:n-j=r:=hrE.symm;have hci:¬cap-(i+r)=0:=zO;replace hir:=zH hir;replace uM:=zH uM;replace hrE:=zH hrE;clear ho h1d dK hA xx xH fH bV aY aV aX nH aP;by_cases hcj:cap=j
 ·subst hcj;have hcj2:cap-cap=0:=zO;go_enter func111,ntmps111;go_upto_region 5 with fail;refine qm zQ ?_;refine qL (w:=w) qk (qD []) (List.replicate 6 true) 2 zQ zQ zQ zQ zQ zQ zQ ?st (Rel.drew _ _) ?walk
  case st=>exact qj (fun _ h=>by cases h)
  case walk =>
   intro K hK;dsimp only[qp,List.replicate];repeat ((first|(refine qd ?_ zA0 zA0 (fun W hW _=>⟨W,?_,Rel.refl _ W⟩) ?_;rotate_left;(go_simp<;>with_reducible rfl))|(refine qh zA0 ?_));try simp only[Act.put,ql,qf,qc,qg,zA,zB,zC])
   refine qt (hK _ _ fun W hW hF=>?_);clear hF hK;obtain⟨h1,h2,h3⟩:=oO.out W hW;have h1:=fun c ty=>h1 ⟨g,0,none⟩ c ty (fun h=>absurd h (by have:=hrE.out;omega));replace h3:=zH h3;clear oO hW;refine zC3 ?_;go_wp2_with (at_builtin;refine qI ?_);refine Qh.go (Lib.wpList_append_run _ rfl _ _ _ _ rfl _ _ zE zE _ _ (h1 _ _) ?_);clear h1;generalize hW2:W.setRow g _=W2 at *;generalize hW3:W2.setRow g _=W3 at *;clear hW2 hW3;go_wp2_with fail;refine Qm ?_;go_wp2_with (simp only[h2]);go_ret;exact h3.out
 ·have hcj2:¬cap-j=0:=zO;go_enter func111,ntmps111;go_upto_region 5 with fail;refine qm zQ ?_;refine qL (w:=w) qk (qD []) (List.replicate 6 true) 2 zQ zQ zQ zQ zQ zQ zQ ?st (Rel.drew _ _) ?walk
  case st=>exact qj (fun _ h=>by cases h)
  case walk =>
   intro K hK;dsimp only[qp,List.replicate];repeat ((first|(refine qd ?_ zA0 zA0 (fun W hW _=>⟨W,?_,Rel.refl _ W⟩) ?_;rotate_left;(go_simp<;>with_reducible rfl))|(refine qh zA0 ?_));try simp only[Act.put,ql,qf,qc,qg,zA,zB,zC])
   refine qt (hK _ _ fun W hW hF=>?_);clear hF hK;obtain⟨h1,h2,h3⟩:=oO.out W hW;have h1:=fun c ty=>h1 ⟨g,j*5,none⟩ c ty (fun _=>rfl);replace h3:=zH h3;clear oO hW;refine zC3 ?_;go_wp2_with (at_builtin;refine qI ?_);refine Qh.go (Lib.wpList_append_run _ rfl _ _ _ _ rfl _ _ zE zE _ _ (h1 _ _) ?_);clear h1;generalize hW2:W.setRow g _=W2 at *;generalize hW3:W2.setRow g _=W3 at *;clear hW2 hW3;go_wp2_with fail;refine Qm ?_;go_wp2_with (simp only[h2]);go_ret;exact h3.out
end Go.Proofs.YtpbniokljofedaaGreat
namespace Go.Proofs.YtpbniokljofedaaGreat
open Go.RowKit Go.Shelf
attribute [local go_sem] Oper.semAt_some
abbrev Ud:Type:=Stp×Sl
abbrev udz:Ud:=((0,[],0),(none,0,0))
set_option maxRecDepth 100000 in
theorem backd_in (n:Nat) (hn:1<=n) (l Bs b off len cap:Nat) (us:List Ud) (aj:len<1099511627776) (J Jx:List Nat->World->Prop) (hY:∀ pre (x:Nat) W,J pre W->pre.length<len->YieldAt Fence.wide (n-1) prog l #[.int .i64 (x:Int),.agg #[.int .i64 ((us[x]?.getD udz).1.1:Int),sv (us[x]?.getD udz).2,.int .i64 ((us[x]?.getD udz).1.2.2:Int)]] W fun e W' =>
   (e=.returned (.bool true)/\J (pre++[x]) W'/\Qi Bs b W W')\/(e=.returned (.bool false)/\Jx (pre++[x]) W'))
  (W:World) (fO:W.cell? ⟨Bs,0,none⟩=some (.slice (some ⟨b,off,none⟩) len cap)) (hc:∀ i,i<len->W.cell? ⟨b,off+i*3,none⟩=some (.int .i64 ((us[i]?.getD udz).1.1:Int))/\W.cell? ⟨b,off+i*3+1,none⟩=some (sv (us[i]?.getD udz).2)/\W.cell? ⟨b,off+i*3+2,none⟩=some (.int .i64 ((us[i]?.getD udz).1.2.2:Int))) (h0:J [] W) :
  CallsIn Fence.wide n prog 154 #[.func (.yield l) #[] #[],.pointer (some ⟨Bs,0,none⟩)] W fun e W'=>(∃ v,e=.returned v) /\
   ((∃ ys,ys=Zn (fun j=>len-1-j) len/\J ys W')\/(∃ pre,(∃ k,k<=len/\pre=Zn (fun j=>len-1-j) k)/\Jx pre W')):=by
 refine callsIn_of_wp func154 rfl trivial ?_ rfl;simp only[ntmps154,List.size_toArray,List.length_cons,List.length_nil,Nat.reduceAdd,Nat.reduceSub,Array.replicate_succ,Array.replicate_zero,List.push_toArray,List.append_toArray,List.nil_append,List.cons_append]
 gi_wp2
 gi_loopw [3] (fun i wr=>∃ k:Nat,k<=len/\i=.int .i64 ((len:Int)-1-k)/\J (Zn (fun j=>len-1-j) k) wr/\Qi Bs b W wr)
  (fun i _=>(intOf i+1).toNat)
 case atStart=>exact⟨0,Nat.zero_le _,zA3,h0,Qi.refl _ _ _⟩
 case round =>
  obtain⟨k,hk,rfl,fC,dR⟩:=hrel;have hBr:wr.cell? ⟨Bs,0,none⟩=some (.slice (some ⟨b,off,none⟩) len cap):=(World.cell?_of_block (w:=W) dR.1).trans fO;by_cases hlt:k<len
  ·obtain⟨fn,tmps,assign,body,hy,hR⟩:=hY _ (len-1-k) wr fC (by rw[zj];exact hlt);have dC:=(World.cell?_of_block (w:=W) (a:=⟨b,off+(len-1-k)*3,none⟩) dR.2).trans (hc (len-1-k) zO).1;have dV:=(World.cell?_of_block (w:=W) (a:=⟨b,off+(len-1-k)*3+1,none⟩) dR.2).trans (hc (len-1-k) zO).2.1;have az:=(World.cell?_of_block (w:=W) (a:=⟨b,off+(len-1-k)*3+2,none⟩) dR.2).trans (hc (len-1-k) zO).2.2;try dsimp only at hy
   obtain⟨i,hi⟩:∃ i:Nat,len-1-k=i:=⟨_,rfl⟩
   have dD:(len:Int)-1-k=(i:Int):=zO;have hil:i<len:=zO;have hik:k+i+1<=len/\len<=k+i+1:=zO;have HU:=zH (Ju (fun j=>len-1-j) k);obtain⟨u,hu⟩:∃ u,us[i]?.getD udz=u:=⟨_,rfl⟩
   rw[hi] at dC dV az hy hR;rw[hu] at dC dV az hy;rw[dD];clear dD;clear hu;have HI:=zH hi;clear hi
   gi_wp2
   refine hR.mono ?_;rintro e W3 (⟨rfl,xZ,ig⟩|⟨rfl,iH⟩)
   ·gi_wp2
    go_roundw
    case rel=>exact⟨k+1,zO,by go_num,by rw[HU.out,HI.out];exact xZ,dR.t ig⟩
    case measure=>simp[intOf]
   ·gi_wp2
    refine bodyPost_ret (results_none rfl _ _ _) rfl ?_;exact⟨⟨_,rfl⟩,.inr ⟨_,⟨k+1,zO,by rw[HU.out,HI.out]⟩,iH⟩⟩
  ·obtain rfl:k=len:=zO
   gi_wp2
   go_end0;exact⟨⟨_,rfl⟩,.inl ⟨_,rfl,fC⟩⟩
set_option maxRecDepth 100000 in
theorem qbG (n l Bs c:Nat) (A:Option Addr) (J:List Nat->World->Prop) (W:World) (fO:W.cell? ⟨Bs,0,none⟩=some (.slice A 0 c)) (h0:J [] W):CallsIn Fence.wide n prog 154 #[.func (.yield l) #[] #[],.pointer (some ⟨Bs,0,none⟩)] W fun e W'=>(∃ v,e=.returned v)/\J [] W':=by
 refine callsIn_of_wp func154 rfl trivial ?_ rfl;simp only[ntmps154,List.size_toArray,List.length_cons,List.length_nil,Nat.reduceAdd,Nat.reduceSub,Array.replicate_succ,Array.replicate_zero,List.push_toArray,List.append_toArray,List.nil_append,List.cons_append]
 gi_wp2
 gi_loopw [3] (fun i wr=>i=.int .i64 (-1)/\J [] wr) (fun _ _=>0)
 case atStart=>exact⟨rfl,h0⟩
 case round =>
  obtain⟨rfl,fC⟩:=hrel
  gi_wp2
  go_end0;exact⟨⟨_,rfl⟩,fC⟩
def SWd (W:World) (Bs b:Nat) (v:Value) (us:List Ud):Prop:=
 W.cell? ⟨Bs,0,none⟩=some v/\((us=[]/\∃ A c,v=.slice A 0 c)\/∃ off cap,v=.slice (some ⟨b,off,none⟩) us.length cap/\∀ i,i<us.length->W.cell? ⟨b,off+i*3,none⟩=some (.int .i64 ((us[i]?.getD udz).1.1:Int))/\W.cell? ⟨b,off+i*3+1,none⟩=some (sv (us[i]?.getD udz).2)/\W.cell? ⟨b,off+i*3+2,none⟩=some (.int .i64 ((us[i]?.getD udz).1.2.2:Int)))
theorem SWd.keep {W W':World} {Bs b:Nat} {v:Value} {us:List Ud} (h:SWd W Bs b v us) (hk:Qi Bs b W W'):SWd W' Bs b v us:=by
 refine⟨(World.cell?_of_block (w:=W) hk.1).trans h.1,?_⟩;rcases h.2 with h|⟨off,cap,e,hc⟩
 ·exact .inl h
 ·exact .inr ⟨off,cap,e,fun i hi=>⟨(World.cell?_of_block (w:=W) hk.2).trans (hc i hi).1,(World.cell?_of_block (w:=W) hk.2).trans (hc i hi).2.1,(World.cell?_of_block (w:=W) hk.2).trans (hc i hi).2.2⟩⟩
theorem qcT (n:Nat) (hn:1<=n) (Bs b:Nat) (v:Value) (us:List Ud) (aj:us.length<1099511627776) (w:World) (fO:Bs<w.heap.size) (hb:b<w.heap.size) (hS:SWd w Bs b v us):SeqStopsK Fence.wide n prog 154 #[.pointer (some ⟨Bs,0,none⟩)] (fun x:Nat=>#[.int .i64 (x:Int),.agg #[.int .i64 ((us[x]?.getD udz).1.1:Int),sv (us[x]?.getD udz).2,.int .i64 ((us[x]?.getD udz).1.2.2:Int)]]) (Qi Bs b) (fun ys=>ys=Zn (fun j=>us.length-1-j) us.length)
   (fun pre=>∃ k,k<=us.length/\pre=Zn (fun j=>us.length-1-j) k) us.length w:=fun l J Jx W hW _ _ hY h0=>by
 obtain⟨hc,h⟩:=hS.keep (Qi.below hW fO hb);rcases h with ⟨rfl,A,c,rfl⟩|⟨off,cap,rfl,bV⟩
 ·exact(qbG n l Bs c A J W hc h0).mono fun e W' ⟨he,hj⟩=>⟨he,.inl ⟨_,rfl,hj⟩⟩
 ·exact backd_in n hn l Bs b off us.length cap us aj J Jx hY W hc bV h0
theorem qao (A:Option Addr) (m c:Nat) (w:World):Calls prog 112 #[.slice A m c] w (fun e w'=>e=.returned (.func (.func 154) #[] #[.pointer (some ⟨w.heap.size,0,none⟩)])/\w'=w.alloc (.cells #[.slice A m c] 168)):=by
 go_enter func112,ntmps112;go_wp2;go_ret;exact⟨rfl,rfl⟩
end Go.Proofs.YtpbniokljofedaaGreat
namespace Go.Proofs.YtpbniokljofedaaGreat
open Go.RowKit
theorem TR (ps:List (It×Value)):∀ k,qP (ps.drop k)=(qP ps).drop (k*5):=by
 induction ps with
 |nil=>intro k;simp[qP]
 |cons p r ih =>
  intro k;rcases k with _|k
  ·simp[qP]
  ·rw[List.drop_succ_cons,show (k+1)*5=k*5+1+1+1+1+1 by omega];simp only[qP,List.drop_succ_cons,ih k]
theorem Xb (ps:List (It×Value)) (h:∀ p∈ps,p.2.oneCell'=true):∀ u∈qP ps,u.oneCell'=true:=by
 induction ps with
 |nil=>intro u hu;cases hu
 |cons p r ih =>
  intro u hu;simp only[qP,List.mem_cons] at hu;rcases hu with rfl|rfl|rfl|rfl|rfl|hu
  ·rfl
  ·rfl
  ·rfl
  ·rfl
  ·exact h p List.mem_cons_self
  ·exact ih (fun q hq=>h q (List.mem_cons_of_mem _ hq)) u hu
theorem Its.take {w:World} {B b off n c:Nat} {xs:List It} (h:Its w B (.slice (some ⟨b,off,none⟩) n c) xs) {k:Nat} (hk:k<=xs.length):Its w B (.slice (some ⟨b,off,none⟩) k c) (xs.take k):=by
 obtain⟨ps,rfl,⟨A,c',e,h1,h2,hr⟩,hp⟩:=h;cases e;have hk':k<=ps.length:=by simpa using hk
 refine⟨ps.take k,by rw[List.map_take],⟨_,c,by rw[List.length_take,Nat.min_eq_left hk],by rw[List.length_take];omega,h2,?_⟩,fun p ai=>hp p (List.mem_of_mem_take ai)⟩;rw[List.length_take,Nat.min_eq_left hk];rw[<-TS];refine⟨by rw[List.length_take,hr.1,List.length_map];omega,fun hn=>?_⟩;obtain⟨b',off',e,hb,hc⟩:=hr.2 zO;exact⟨b',off',e,hb,fun j u hu=>hc j u (by rw[List.getElem?_take] at hu;split at hu;exact hu;cases hu)⟩
theorem Its.drop {w:World} {B b off n c:Nat} {xs:List It} (h:Its w B (.slice (some ⟨b,off,none⟩) n c) xs) {k:Nat} (hk:k<xs.length):Its w B (.slice (some ⟨b,off+k*5,none⟩) (n-k) (c-k)) (xs.drop k):=by
 obtain⟨ps,rfl,⟨A,c',e,h1,h2,hr⟩,hp⟩:=h;cases e;have hk':k<ps.length:=by simpa using hk
 refine⟨ps.drop k,by rw[List.map_drop],⟨_,c-k,by rw[List.length_drop],by rw[List.length_drop];omega,zO,?_⟩,fun p ai=>hp p (List.mem_of_mem_drop ai)⟩;rw[List.length_drop,TR];refine⟨by rw[List.length_drop,hr.1,List.length_map];omega,fun hn=>?_⟩;obtain⟨b',off',e,hb,hc⟩:=hr.2 zO;cases e;exact⟨b,off+k*5,rfl,hb,fun j u hu=>by rw[List.getElem?_drop] at hu;rw[Nat.add_assoc];exact hc _ _ hu⟩
theorem JZ.take {X:Nat->Prop} {w:World} {b off n c:Nat} {xs:List It} (h:JZ X w (.slice (some ⟨b,off,none⟩) n c) xs) {k:Nat} (hk:k<=xs.length):JZ X w (.slice (some ⟨b,off,none⟩) k c) (xs.take k):=fun C hC=>(h C hC).take hk
theorem JZ.drop {X:Nat->Prop} {w:World} {b off n c:Nat} {xs:List It} (h:JZ X w (.slice (some ⟨b,off,none⟩) n c) xs) {k:Nat} (hk:k<xs.length):JZ X w (.slice (some ⟨b,off+k*5,none⟩) (n-k) (c-k)) (xs.drop k):=fun C hC=>(h C hC).drop hk
theorem Bch.notB3 {D:Nat->Prop} {B lo b g:Nat} {k:Option Nat} {S:Sto} {w:World} (h:Bch D B lo b g k S w) {q:Nat} {cs:Array Value} {ty:TypeId} {fr:Nat×Nat} (hr:w.heap[q]?=some (.cells cs ty fr)) (h1:ty≠191) (h2:ty≠5) (h3:ty≠130):¬B3 b g k q:=fun hx=>by
 obtain⟨A1,n1,c1,v2,c3,A4,c4,mY,ho,⟨ps,_,hw,_⟩,_,_⟩:=h.ex;rcases hx with e|e|e
 ·subst e;rw[hr] at mY;simp only[Option.some.injEq,Obj.cells.injEq] at mY;exact h1 mY.2.1
 ·subst e;obtain⟨cur,hg⟩:=Zl ho (q:=q) rfl;rw[hr] at hg;simp only[Option.some.injEq,Obj.cells.injEq] at hg;exact h2 hg.2.1
 ·rcases hw with ⟨e1,_⟩|⟨q',e1,e2,how⟩
  ·rw[e1] at e;cases e
  ·rw[e1] at e;cases e;obtain⟨cur,hg⟩:=Zl how e2;rw[hr] at hg;simp only[Option.some.injEq,Obj.cells.injEq] at hg;exact h3 hg.2.1
def upV (ups:List It):List (It×Value):=ups.map fun x=>(x,.slice none 0 0)
theorem upV_item (ups:List It) (x:It):qP (upV (ups++[x]))=qP (upV ups)++[.int .u8 x.k,.int .u32 x.i,.int .u32 x.o,.int .i64 x.r,.slice none 0 0]:=by unfold upV;rw[List.map_append,Jv];rfl
theorem qfK {t:List UInt8} {a:Nat} {e:Int} (h:Jr t a=.error e):e≠0:=by
 unfold Jr at h;split at h
 ·cases h
 ·split at h
  ·cases h;decide
  ·split at h
   ·cases h;decide
   ·cases h
theorem GW:∀ {l:List Nat} {t:List UInt8} {e:Int},ZF l t=.error e->e≠0
 | [],t,e,h=>by cases h
 |a :: l,t,e,h=>by
  simp only[ZF] at h;split at h
  ·rename_i e' h';cases h;exact qfK h'
  ·exact GW h
theorem Yn {S:Sto} {lvl:Int} {its:List It} {e:Int} (h:zh S lvl its=.error e):e≠0:=by
 unfold zh at h;split at h
 ·split at h
  ·rename_i e' h';cases h;exact GW h'
  ·split at h
   ·cases h;decide
   ·cases h
 ·cases h;decide
theorem kQ (lvl:Int):∀ (ps qs:List (List It)) (S:Sto),jw lvl (ps++qs) S=match jw lvl ps S with
  | .error e=>.error e
  | .ok (up,S')=>match jw lvl qs S' with
   | .error e=>.error e
   | .ok (up',S'')=>.ok (up++up',S'')
 | [],qs,S=>by simp only[List.nil_append,jw];rcases jw lvl qs S with e|⟨up,S'⟩ <;> rfl
 |p :: ps,qs,S=>by
  simp only[List.cons_append,jw];rcases zh S lvl p with e|⟨f,S'⟩
  ·rfl
  ·simp only;rw[kQ lvl ps qs S'];rcases jw lvl ps S' with e|⟨up,S''⟩
   ·rfl
   ·simp only;rcases jw lvl qs S'' with e|⟨up',S3⟩ <;> rfl
theorem qhk (lvl:Int) (p:List It) (S:Sto):jw lvl [p] S=match zh S lvl p with
  | .error e=>.error e
  | .ok (f,S')=>.ok ([mkIt (Tw p) f],S'):=by
 simp only[jw] <;> (rcases zh S lvl p with e|⟨f,S'⟩ <;> rfl)
theorem qhj {lvl:Int} {ps:List (List It)} {j:Nat} (hj:j<ps.length) {S S':Sto} {up:List It} {e:Int} (h:jw lvl (ps.take j) S=.ok (up,S')) (h1:zh S' lvl ps[j]=.error e):jw lvl ps S=.error e:=by
 have:ps=ps.take j++(ps[j] :: ps.drop (j+1)):=by rw[<-List.drop_eq_getElem_cons hj,List.take_append_drop]
 rw[this,kQ,h];simp only[jw];rw[h1]
theorem qfs {lvl:Int} {ps:List (List It)} {j:Nat} (hj:j<ps.length) {S S' S'':Sto} {up:List It} {f:Nat} (h:jw lvl (ps.take j) S=.ok (up,S')) (h1:zh S' lvl ps[j]=.ok (f,S'')):jw lvl (ps.take (j+1)) S=.ok (up++[mkIt (Tw ps[j]) f],S''):=by rw[List.take_succ_eq_append_getElem hj,kQ,h];simp only;rw[qhk,h1]
theorem qfr {its:List It} (k:Nat):qX its=qX (its.take k)++qX (its.drop k):=by unfold qX;rw[<-List.map_append,List.take_append_drop]
theorem Gt {its:List It} {k:Nat} (hk:k<its.length) {t t':List UInt8} (h:QG (qX (its.take k)) t=.ok t') (h0:its[k].r.toNat≠0) (h1:qT t' its[k].r.toNat=0):QG (qX its) t=.error 6:=by rw[qfr (its:=its) k,jF,h];simp only;rw[List.drop_eq_getElem_cons hk];exact Jo h0 h1 _
theorem Ul {its:List It} {k:Nat} (hk:k<its.length) {t t':List UInt8} (h:QG (qX (its.take k)) t=.ok t') (h0:its[k].r.toNat≠0) (h1:qT t' its[k].r.toNat≠0):QG (qX (its.take (k+1))) t=.ok (ZL t' its[k].r.toNat):=by rw[Vk hk,jF,h];simp only;rw[jU h0 h1];rfl
theorem Um {its:List It} {k:Nat} (hk:k<its.length) {t t':List UInt8} (h:QG (qX (its.take k)) t=.ok t') (h0:its[k].r.toNat=0):QG (qX (its.take (k+1))) t=.ok t':=by rw[Vk hk,jF,h];simp only;rw[h0,jV];rfl
section
variable {S S':Sto}
end
def Jk (S:Sto):Int:=if qo S=true/\16<=(Zj S).length then 0 else 9
structure Two (bp be:Nat) (W W':World):Prop where
 os:W'.os=W.os
 tape:W'.tape=W.tape
 output:W'.output=W.output
 size:W.heap.size<=W'.heap.size
 same:∀ k,k<W.heap.size->k≠bp->k≠be->W'.heap[k]?=W.heap[k]?
theorem Two.of_ext {bp be:Nat} {W W':World} (h:Ext W W'):Two bp be W W':=⟨h.os,h.tape,h.output,h.size,fun k hk _ _=>h.block k hk⟩
abbrev qak:Array Value:=qB (.slice none 0 0) (.slice none 0 0) (.slice none 0 0) (.slice none 0 0) 0 0 0 (.slice none 0 0)
theorem Two.trans {bp be:Nat} {A B C:World} (h:Two bp be A B) (k:Two bp be B C):Two bp be A C:=⟨k.os.trans h.os,k.tape.trans h.tape,k.output.trans h.output,Nat.le_trans h.size k.size,fun i hi h1 h2=>(k.same i (Nat.lt_of_lt_of_le hi h.size) h1 h2).trans (h.same i hi h1 h2)⟩
theorem Two.setP {bp be:Nat} (A:World) (j:Nat) (v:Value):Two bp be A (A.setCell ⟨bp,j,none⟩ v):=⟨rfl,rfl,rfl,zA3,fun k _ hk _=>zJ _ _ _ _ hk⟩
theorem Two.setE {bp be:Nat} (A:World) (j:Nat) (v:Value):Two bp be A (A.setCell ⟨be,j,none⟩ v):=⟨rfl,rfl,rfl,zA3,fun k _ _ hk=>zJ _ _ _ _ hk⟩
theorem Two.set8 {bp be:Nat} (w:World) (x0 x1 x2 x3 x4 x5 x6 x7:Value):Two bp be w ((((((((w.setCell ⟨bp,0,none⟩ x0).setCell ⟨bp,1,none⟩ x1).setCell ⟨bp,2,none⟩ x2).setCell ⟨bp,3,none⟩ x3).setCell ⟨bp,4,none⟩ x4).setCell ⟨bp,5,none⟩ x5).setCell ⟨bp,6,none⟩ x6).setCell ⟨bp,7,none⟩ x7):=
 (Two.setP _ _ _).trans ((Two.setP _ _ _).trans ((Two.setP _ _ _).trans ((Two.setP _ _ _).trans ((Two.setP _ _ _).trans ((Two.setP _ _ _).trans ((Two.setP _ _ _).trans (Two.setP _ _ _)))))))
def RoomyQ (bp be:Nat) (cs:Array Value) (e:Int) (S:Sto) (W W':World):Prop:=Two bp be W W' /\
 ((e=0/\Jk S=0/\W'.heap[bp]?=some (.cells cs 32 (0,0))/\W'.heap[be]?=some (.cells #[.int .i64 0] 36 (0,0))) \/
  ∃ e',e'≠0/\((e=0/\e'=Jk S)\/(e≠0/\e'=e))/\W'.heap[bp]?=some (.cells qak 32 (0,0))/\W'.heap[be]?=some (.cells #[.int .i64 e'] 36 (0,0)))
set_option maxRecDepth 100000 in
theorem qhA (bp be:Nat) (aN:bp≠be) (A1:Option Addr) (n1 c1:Nat) (A2:Option Addr) (n2 c2:Nat) (A3:Option Addr) (n3 c3:Nat) (A4:Option Addr) (n4 c4:Nat) (gen root next:Int) (v5:Value) (e:Int) (S:Sto) (w:World) (hp:w.heap[bp]?=some (.cells (qB (.slice A1 n1 c1) (.slice A2 n2 c2) (.slice A3 n3 c3) (.slice A4 n4 c4) gen root next v5) 32 (0,0))) (he:w.heap[be]?=some (.cells #[.int .i64 e] 36 (0,0))) (h:e=0->qU w w.heap.size (.slice A1 n1 c1) (.slice A2 n2 c2) (.slice A3 n3 c3) (.slice A4 n4 c4) S):Calls prog 127 #[.pointer (some ⟨bp,0,none⟩),.pointer (some ⟨be,0,none⟩)] w (fun x w'=>x=.returned (.tuple #[])/\RoomyQ bp be (qB (.slice A1 n1 c1) (.slice A2 n2 c2) (.slice A3 n3 c3) (.slice A4 n4 c4) gen root next v5) e S w w'):=by
 have kp:=qa hp;have ke:=qa he;have fp:=qe hp;have fe:=qe he;by_cases h0:e=0
 ·subst h0;have HF:=qhz A1 n1 c1 A2 n2 c2 A3 n3 c3 A4 n4 c4 S w (h rfl);clear h;go_enter func127,ntmps127;go_wp2_with fail;refine HF.mono ?_;rintro x w2 ⟨hB,hQ⟩;have x2:Ext w w2:=hB;have fD:=qb hp x2;have lJ:=qb he x2;have kp2:=qa fD;have ke2:=qa lJ;have fp2:=qe fD;have fe2:=qe lJ;clear kp ke fp fe hB HF hp he;rcases hQ with ⟨hm,rfl⟩|⟨hm,v,rfl,aB⟩
  ·have hE:Jk S=9:=by unfold Jk;rw[hm];rfl
   replace hE:=zH hE;replace hm:=zH hm;have hKN:¬be=bp:=fun e=>aN e.symm;go_wp2_with fail;go_end0;exact⟨rfl,(Two.of_ext x2).trans ((Two.setE _ _ _).trans (Two.set8 _ _ _ _ _ _ _ _ _)),.inr ⟨9,zA1,.inl ⟨rfl,hE.out.symm⟩,Kf ((zJ _ _ _ _ aN).trans fD) _ _ _ _ _ _ _ _,(jM hKN _ _ _ _ _ _ _ _).trans (qi lJ 0 _)⟩⟩
  ·obtain⟨A,c,rfl,-,-⟩:=qy aB;clear aB;by_cases hl:(Zj S).length<16
   ·have hE:Jk S=9:=by unfold Jk;rw[if_neg zO]
    replace hE:=zH hE;have d1:decide (((Zj S).length:Int)<16)=true:=decide_eq_true zO;replace hl:=zH hl;replace hm:=zH hm;have hKN:¬be=bp:=fun e=>aN e.symm;go_wp2_with fail;go_end0;exact⟨rfl,(Two.of_ext x2).trans ((Two.setE _ _ _).trans (Two.set8 _ _ _ _ _ _ _ _ _)),.inr ⟨9,zA1,.inl ⟨rfl,hE.out.symm⟩,Kf ((zJ _ _ _ _ aN).trans fD) _ _ _ _ _ _ _ _,(jM hKN _ _ _ _ _ _ _ _).trans (qi lJ 0 _)⟩⟩
   ·have hE:Jk S=0:=by unfold Jk;rw[if_pos ⟨hm,zO⟩]
    replace hE:=zH hE;have d1:decide (((Zj S).length:Int)<16)=false:=decide_eq_false zO;replace hl:=zH hl;replace hm:=zH hm;go_wp2_with fail;go_end0;exact⟨rfl,Two.of_ext x2,.inl ⟨rfl,hE.out,fD,lJ⟩⟩
 ·have b0:(e == 0)=false:=by rw[beq_eq_false_iff_ne];exact h0
  have b1:(e != 0)=true:=by rw[bne_iff_ne];exact h0
  replace h0:=zH h0;replace aN:=zH aN;clear h;go_enter func127,ntmps127;go_wp2_with fail;go_end0;exact⟨rfl,Two.set8 _ _ _ _ _ _ _ _ _,.inr ⟨e,h0.out,.inr ⟨h0.out,rfl⟩,Kf hp _ _ _ _ _ _ _ _,(jM (fun x=>aN.out x.symm) _ _ _ _ _ _ _ _).trans he⟩⟩
structure Kk (bp be ba:Nat) (W W':World):Prop where
 os:W'.os=W.os
 tape:W'.tape=W.tape
 output:W'.output=W.output
 size:W.heap.size<=W'.heap.size
 same:∀ k,k<W.heap.size->k≠bp->k≠be->k≠ba->W'.heap[k]?=W.heap[k]?
theorem Kk.of_two {bp be ba:Nat} {W W':World} (h:Two bp be W W'):Kk bp be ba W W':=⟨h.os,h.tape,h.output,h.size,fun k hk h1 h2 _=>h.same k hk h1 h2⟩
theorem Kk.set {bp be ba:Nat} {W W':World} (h:Kk bp be ba W W') (v:Value):Kk bp be ba W (W'.setCell ⟨ba,0,none⟩ v):=⟨h.os,h.tape,h.output,by simpa using h.size,fun k hk h1 h2 h3=>(zJ _ _ _ _ h3).trans (h.same k hk h1 h2 h3)⟩
theorem Kk.below {bp be ba B:Nat} {w0 W W':World} (h:Kk bp be ba W W') (hb:Below B w0 W) (h1:B<=bp) (h2:B<=be) (h3:B<=ba) (hB:B<=W.heap.size):Below B w0 W':=hb.trans ⟨h.os,h.tape,h.output,h.size,fun k hk=>h.same k zO zO zO zO⟩
theorem XI {W:World} {b:Nat} {x0 x1 x2 x3 x4 x5 x6 x7 y z u0 u1 u2 u3 u4 u5 u6 u7 p q:Value} {xO nS rQ:TypeId} (r4:W.heap[b+1]?=some (.cells #[u0,u1,u2,u3,u4,u5,u6,u7] xO (0,0))) (r5:W.heap[b+2]?=some (.cells #[p] nS (0,0))) (r6:W.heap[b+3]?=some (.cells #[q] rQ (0,0))) {C:World} (hC:C=((((((((((W.setCell ⟨b+1,0,none⟩ x0).setCell ⟨b+1,1,none⟩ x1).setCell ⟨b+1,2,none⟩ x2).setCell ⟨b+1,3,none⟩ x3).setCell ⟨b+1,4,none⟩ x4).setCell ⟨b+1,5,none⟩ x5).setCell ⟨b+1,6,none⟩ x6).setCell ⟨b+1,7,none⟩ x7).setCell ⟨b+1+1,0,none⟩ y).setCell ⟨b+1+1+1,0,none⟩ z)):C.heap[b+1]?=some (.cells #[x0,x1,x2,x3,x4,x5,x6,x7] xO (0,0))/\C.heap[b+2]?=some (.cells #[y] nS (0,0))/\C.heap[b+3]?=some (.cells #[z] rQ (0,0))/\(∀ {B:Nat} {w0:World},B<=b+1->Below B w0 W->Below B w0 C)/\C.heap.size=W.heap.size/\(∀ k,k≠b+1->k≠b+2->k≠b+3->C.heap[k]?=W.heap[k]?):=by
 subst hC;have hs:=fun (A:World) (b j:Nat) (v:Value) (k:Nat) (hk:k≠b)=>zJ A ⟨b,j,none⟩ v k hk;refine⟨?_,?_,?_,fun hB h=>?_,zA3,fun k h1 h2 h3=>?_⟩
 ·rw[hs _ _ _ _ _ zO,hs _ _ _ _ _ zO];exact Kf r4 x0 x1 x2 x3 x4 x5 x6 x7
 ·rw[hs _ _ _ _ _ zO];refine qi (t:=nS) (cs:=#[p]) ?_ 0 y;rw[jM zO];exact r5
 ·refine qi (t:=rQ) (cs:=#[q]) ?_ 0 z;rw[hs _ _ _ _ _ zO,jM zO];exact r6
 ·exact Below.setCell (Below.setCell (jz h (b:=b+1) zO x0 x1 x2 x3 x4 x5 x6 x7) (p:=⟨b+1+1,0,none⟩) zA2 _) (p:=⟨b+1+1+1,0,none⟩) zA2 _
 ·rw[hs _ _ _ _ _ zO,hs _ _ _ _ _ zO,jM zO]
theorem two_rows {W:World} {b:Nat} {p q p0 q0:Value} {nS rQ:TypeId} (r5:W.heap[b+2]?=some (.cells #[p0] nS (0,0))) (r6:W.heap[b+3]?=some (.cells #[q0] rQ (0,0))) {C:World} (hC:(W.setCell ⟨b+1+1,0,none⟩ p).setCell ⟨b+1+1+1,0,none⟩ q=C):C.heap[b+2]?=some (.cells #[p] nS (0,0))/\C.heap[b+3]?=some (.cells #[q] rQ (0,0))/\(∀ {B:Nat} {w0:World},B<=b+1->Below B w0 W->Below B w0 C)/\C.heap.size=W.heap.size/\(∀ k,k≠b+2->k≠b+3->C.heap[k]?=W.heap[k]?):=by
 subst hC;have hs:=fun (A:World) (b j:Nat) (v:Value) (k:Nat) (hk:k≠b)=>zJ A ⟨b,j,none⟩ v k hk;refine⟨?_,?_,fun hB h=>?_,zA3,fun k h2 h3=>?_⟩
 ·rw[hs _ _ _ _ _ zO];exact qi (t:=nS) (cs:=#[p0]) r5 0 p
 ·refine qi (t:=rQ) (cs:=#[q0]) ?_ 0 q;rw[hs _ _ _ _ _ zO];exact r6
 ·exact Below.setCell (Below.setCell h (p:=⟨b+1+1,0,none⟩) zA2 _) (p:=⟨b+1+1+1,0,none⟩) zA2 _
 ·rw[hs _ _ _ _ _ zO,hs _ _ _ _ _ zO]
end Go.Proofs.YtpbniokljofedaaGreat
