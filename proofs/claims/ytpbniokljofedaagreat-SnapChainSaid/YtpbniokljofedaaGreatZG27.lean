/- Texts Insert, Replace, joined. -/
import Derived.Test.YtpbniokljofedaaGreatZG10
import Derived.Test.YtpbniokljofedaaGreatZG19
set_option linter.unusedSimpArgs false
set_option linter.unusedVariables false
set_option maxHeartbeats 8000000
open Go.Proofs.Tryz
namespace Go.Proofs.YtpbniokljofedaaGreat
open Go.RowKit
theorem Up (w:World) (g o la ca vg lb cb:Nat) (cur hAO:Array Value) (hg:w.heap[g]?=some (.cells cur 68 (0,0))) (hv:w.heap[vg]?=some (.cells hAO 68 (0,0))) (aG:vg≠g) (h0:cur.size≠0) (vo:Nat) : (callFunc 148 #[.slice (some ⟨vg,vo,none⟩) lb cb,.slice (some ⟨g,o,none⟩) la ca]).run prog w=.ok (.value (.bool false)) w:=by
 rw[run_callFunc_extern func148 zQ zQ zQ (e:=Extern.SlicesOverlaps.overlaps #[47,47] #[4]) zQ,
  Lib.run_overlaps_apart w 47 4 68 underlying47 5 (fun w=>sizeOf68 w) ⟨vg,vo,none⟩ ⟨g,o,none⟩ lb cb la ca aG 68 68 hAO.size cur.size (by simp[World.shape?,hv]) (by simp[World.shape?,hg]) h0 (by simp[World.frozen?,hv]) (by simp[World.frozen?,hv])]
 rfl
set_option maxRecDepth 100000 in
theorem qhn (lo:Nat) (s:Value) (n i:Nat) (xs:List Value) (v:Value) (m lov:Nat) (vs:List Value) (w:World) (ho:w.ownsRow lo 68 5 s n xs) (hv:w.ownsRow lov 68 5 v m vs) (wQ:∀ q,v.ownBlock=some q->s.ownBlock≠some q) (hm:0<m) (hnm:n+m<=100) (hi:i<=n) (h1x:∀ u∈xs,u.oneCell'=true) (yL:∀ u∈vs,u.oneCell'=true) (aP:lo<=w.heap.size):Calls prog 147 #[s,.int .i64 (i:Int),v] w (YH lo s (n+m) (xs.take (i*5)++vs++xs.drop (i*5)) w):=by
 obtain⟨i0,rV,ag,aU,aW⟩:=info_parts Tryz.info_item;have az:=hv.1;have gu:=ho.1;obtain⟨vg,nZ,hAO,rfl,hvlo,hvg,hvc,hvm,hvs,hvt⟩:∃ g cap cur,v=.slice (some ⟨g,0,none⟩) m cap/\lov<=g/\w.heap[g]?=some (.cells cur 68 (0,0))/\m<=cap/\cap<=maxLen/\cur.size=cap*5/\cur.toList.take (m*5)=vs:=by
  rcases hv.2 with ⟨_,h0⟩|h
  ·omega
  ·exact h
 have ig:=qeL hv;have hm0:((m:Int) == 0)=false:=by rw[beq_eq_false_iff_ne];omega
 have hrv:Rd w w.heap.size 5 (some ⟨vg,0,none⟩) m vs:=Rd.of_own hv;by_cases hin:i=n
 ·subst hin;have hy:xs.take (i*5)++vs++xs.drop (i*5)=xs++vs:=by rw[List.take_of_length_le zO,List.drop_of_length_le zO,List.append_nil]
  rw[hy];have hd1:decide ((i:Int)=(i:Int))=true:=decide_eq_true rfl;have hgo:∀ A c,s=.slice A i c->(A=none\/∃ g,A=some ⟨g,0,none⟩)->Calls prog 147 #[s,.int .i64 (i:Int),.slice (some ⟨vg,0,none⟩) m nZ] w (YH lo s (i+m) (xs++vs) w):=fun A c hs hA=>by
   have hic:i<=c:=by obtain⟨A',c',e,h1,h2⟩:=qz ho;rw[hs] at e;cases e;exact h1
   subst hs;clear hvg hvs hvt ig hy;replace hvm:=zH hvm;have aK:∀ (v':Value) (w':World),w'.ownsRow lo 68 5 v' (i+m) (xs++vs)->w.grownBy w' (Value.slice A i c).ownBlock->Below lo w w'->YH lo (.slice A i c) (i+m) (xs++vs) w (.returned v') w':=fun v' w' h1 h2 h3=>⟨v',rfl,h1,h3,fun q hq hn=>h2.block q hq fun e=>hn e.symm⟩
   replace aK:=zH aK;rcases hA with rfl|⟨g,rfl⟩
   ·go_enter func147,ntmps147;go_wp2_with (at_builtin;refine Qf ?_);refine QC.go (Qw _ rfl (.tmp 23) (.tmp 24) 47 rfl lo 68 i0 _ 5 48 underlying47 rV ag aU aW rfl zD _ i xs rfl ho w.heap.size _ m nZ vs zE hrv yL zO zD aP ?_);intro v' w' h1 h2 h3 _;go_wp2_with fail;go_ret;exact aK.out v' w' h1 h2 h3
   ·go_enter func147,ntmps147;by_cases hci:c=i
    ·subst hci;have hLL:c-c=0:=zO;go_wp2_with (at_builtin;refine Qf ?_);refine QC.go (Qw _ rfl (.tmp 23) (.tmp 24) 47 rfl lo 68 i0 _ 5 48 underlying47 rV ag aU aW rfl zD _ c xs rfl ho w.heap.size _ m nZ vs zE hrv yL zO zD aP ?_);intro v' w' h1 h2 h3 _;go_wp2_with fail;go_ret;exact aK.out v' w' h1 h2 h3
    ·have hLL:¬(c-i=0):=zO;go_wp2_with (at_builtin;refine Qf ?_);refine QC.go (Qw _ rfl (.tmp 23) (.tmp 24) 47 rfl lo 68 i0 _ 5 48 underlying47 rV ag aU aW rfl zD _ i xs rfl ho w.heap.size _ m nZ vs zE hrv yL zO zD aP ?_);intro v' w' h1 h2 h3 _;go_wp2_with fail;go_ret;exact aK.out v' w' h1 h2 h3
  rcases ho.2 with ⟨e,h0⟩|⟨g,cap,cur,e,_⟩
  ·exact hgo none 0 (by rw[e,h0]) (.inl rfl)
  ·exact hgo _ cap e (.inr ⟨g,rfl⟩)
 ·obtain⟨g,cap,cur,rfl,mZ,hg,iI,fH,dD,hct⟩:∃ g cap cur,s=.slice (some ⟨g,0,none⟩) n cap/\lo<=g/\w.heap[g]?=some (.cells cur 68 (0,0))/\n<=cap/\cap<=maxLen/\cur.size=cap*5/\cur.toList.take (n*5)=xs:=by
   rcases ho.2 with ⟨_,h0⟩|h
   ·omega
   ·exact h
  have hlt:i<n:=zO;have nD:((i:Int) == (n:Int))=false:=by rw[beq_eq_false_iff_ne];omega
  have hci:¬(cap=i):=zO;have hEK:vg≠g:=fun e=>wQ vg rfl (by rw[e];rfl);have gW:(xs.drop (i*5)).length=(n-i)*5:=by rw[List.length_drop];omega
  have h1d:∀ u∈xs.drop (i*5),u.oneCell'=true:=fun u hu=>h1x u (List.mem_of_mem_drop hu);have hsz:(Tryz.prog.info? 68).map (·.size)=some 5:=by rw[rV];simp[aU]
  have fP:∀ W:World,W.heap[g]?=w.heap[g]?->∀ j u,(xs.drop (i*5))[j]?=some u->W.cell? ((⟨g,i*5,none⟩:Addr).add j)=some u:=fun W hW j u hu=>by
   rw[Addr.add_lit,qa (hW.trans hg),<-Array.getElem?_toList];rw[List.getElem?_drop,<-hct,List.getElem?_take] at hu;split at hu
   ·exact hu
   ·cases hu
  have mM:∀ W:World,W.heap[vg]?=w.heap[vg]?->∀ j u,vs[j]?=some u->W.cell? ((⟨vg,0,none⟩:Addr).add j)=some u:=fun W hW j u hu=>by rw[World.cell?_of_block (w:=w) (by rw[Addr.add_lit];exact hW)];exact ig j u hu
  have hgl:=(zG.1 hg).1;replace fH:=zH fH;replace hvm:=zH hvm;replace h1x:=zH h1x;replace wQ:=zH wQ;have hII:=(zG.1 hvg).1;clear ig hrv ho hv;by_cases hcap:cap<n+m
  ·obtain⟨k,hk⟩:∃ k,k=n+m-i:=⟨_,rfl⟩
   have eU:(n:Int)+(m:Int)-(i:Int)=((k:Nat):Int):=zO;obtain⟨C,hC⟩:∃ C,C=grownCap w (i+k) cap 68:=⟨_,rfl⟩
   have hCge:i+k<=C:=by rw[hC];exact grownCap_ge w (i+k) cap _
   have hCm:C<=maxLen:=by rw[hC];exact grownCap_le_maxLen w (i+k) cap _ zA6
   obtain⟨bH,iD⟩:∃ bH:Array Value,bH=(xs.take (i*5)).toArray++Builtin.zeroCells (Value.agg #[.int .u8 0,.int .u32 0,.int .u32 0,.int .i64 0,.slice none 0 0]).cells k++Builtin.zeroCells (Value.agg #[.int .u8 0,.int .u32 0,.int .u32 0,.int .i64 0,.slice none 0 0]).cells (C-(i+k)):=⟨_,rfl⟩
   have ay:∀ ty,(Builtin.append_ #[47,3] ty #[.slice (some ⟨g,0,none⟩) i cap,.int .i64 ((n:Int)+(m:Int)-(i:Int))]).run prog w=.ok (.slice (some ⟨w.heap.size,0,none⟩) (i+k) C) (w.drew.alloc (.cells bH 68)):=fun ty=>by
    rw[eU,hC,iD,hC];exact Lib.run_append_grow_zeros (P:=prog) w 47 3 ty 68 i0 _ .i64 .i64 underlying47 underlying3 rV ag (some ⟨g,0,none⟩) i cap (xs.take (i*5)) (by
     rw[aU];exact run_firstCells_some w.drew 5 i ⟨g,0,none⟩ i cap (xs.take (i*5)) (by rw[List.length_take];omega) (fun j u hu=>by
      rw[Addr.add_lit,Nat.zero_add];show w.cell? _=_;rw[qa hg,<-Array.getElem?_toList];rw[<-hct,List.take_take,List.getElem?_take] at hu;split at hu
      ·exact hu
      ·cases hu)) k zO zO zO zO (by rw[aW];omega) (by rw[aW];exact growslice_fits zO zO)
   have dU:bH.size=C*5:=by rw[iD];simp only[Array.size_append,List.size_toArray,size_zeroCells,List.length_take];simp only[Value.cells,List.size_toArray,List.length_cons,List.length_nil];omega
   have xA:bH.toList.take (i*5)=xs.take (i*5):=by
    rw[iD];simp only[Array.toList_append,List.append_assoc];have:i*5=(xs.take (i*5)).length:=by rw[List.length_take];omega
    rw[this];simp
   clear iD hC;have hsd:(i+k)=n+m:=zO;have aK:∀ W:World,W.heap[w.heap.size]?=some (.cells (spl (spl bH i vs) (i+m) (xs.drop (i*5))) 68 (0,0))->Below lo w W->(∀ q,q<w.heap.size->W.heap[q]?=w.heap[q]?)->YH lo (.slice (some ⟨g,0,none⟩) n cap) (n+m) (xs.take (i*5)++vs++xs.drop (i*5)) w (.returned (.slice (some ⟨w.heap.size,0,none⟩) (i+k) C)) W:=fun W h1 h2 h3=>by
    rw[hsd];refine⟨_,rfl,RowI.own ⟨_,h1,?_,?_⟩ ?_ aP zO hCm,h2,fun q hq _=>h3 q hq⟩
    ·rw[QY (k:=n-i) gW (by rw[QY az zO];omega),QY az zO,dU]
    ·have e1:=XA xA az zO;have e2:=XA e1 gW (by rw[QY az zO];omega);rw[<-e2];congr 1;omega
    ·simp only[List.length_append,List.length_take,gW,az];omega
   replace aK:=zH aK;replace xA:=zH xA;clear eU;replace hk:=zH hk;have hiC:¬(C=i):=zO;have himC:¬(C=i+m):=zO;replace hCm:=zH hCm;go_enter func147,ntmps147;go_wp2_with (at_builtin;refine Qf ?_);refine QC.go (Lib.wpList_append_run _ rfl _ _ _ _ rfl _ _ rfl rfl _ _ (ay _) ?_);clear ay;generalize aA:World.alloc _ _=w1;have p1:w1.heap[w.heap.size]?=some (.cells bH 68 (0,0)):=by rw[<-aA];exact zI _ _ _ rfl
   have k1:∀ q,q<w.heap.size->w1.heap[q]?=w.heap[q]?:=fun q hq=>by rw[<-aA];exact zK _ _ _ hq
   have z1:w.heap.size<=w1.heap.size:=by rw[<-aA];simp
   have B1:Below lo w w1:=by rw[<-aA];exact Below.mono ((Ext.drew w).trans (zN _ _)) aP
   clear aA;have eY:∀ ty,(Builtin.copy_ #[47,47] ty #[.slice (some ⟨w.heap.size,i*5,none⟩) (n+m-i) (C-i),.slice (some ⟨vg,0,none⟩) m nZ]).run prog w1=.ok (.int .i64 (m:Nat)) (w1.setRow w.heap.size (spl bH i vs)):=fun ty =>
    Jg (k:=m) (o:=i) p1 az zO underlying47 hsz zA8 (mM w1 (k1 _ hII)) yL
   obtain⟨w2,bT⟩:∃ w2,w2=w1.setRow w.heap.size (spl bH i vs):=⟨_,rfl⟩
   rw[<-bT] at eY;have p2:w2.heap[w.heap.size]?=some (.cells (spl bH i vs) 68 (0,0)):=by rw[bT];exact setRow_heap _ _ _ _ _ _ p1
   have k2:∀ q,q<w.heap.size->w2.heap[q]?=w.heap[q]?:=fun q hq=>by rw[bT];exact(setRow_other _ _ _ _ zO).trans (k1 q hq)
   have z2:w.heap.size<=w2.heap.size:=by rw[bT];simpa using z1
   have B2:Below lo w w2:=by rw[bT];exact Zc B1 aP aP _
   have s2:=QY (cur:=bH) (o:=i) az zO;clear bT p1 k1 z1;have dR:∀ W:World,Ext w2 W->∀ ty,(Builtin.copy_ #[47,47] ty #[.slice (some ⟨w.heap.size,(i+m)*5,none⟩) (n+m-(i+m)) (C-(i+m)),.slice (some ⟨g,i*5,none⟩) (n-i) (cap-i)]).run prog W=.ok (.int .i64 ((n-i:Nat):Int)) (W.setRow w.heap.size (spl (spl bH i vs) (i+m) (xs.drop (i*5)))):=fun W hW ty =>
    Jg (k:=n-i) (o:=i+m) (qb p2 hW) gW zO underlying47 hsz zA8 (fP W ((Below.block hW g zO).trans (k2 _ hgl))) h1d
   have cO:∀ W:World,Ext w2 W->YH lo (.slice (some ⟨g,0,none⟩) n cap) (n+m) (xs.take (i*5)++vs++xs.drop (i*5)) w (.returned (.slice (some ⟨w.heap.size,0,none⟩) (n+m) C)) (W.setRow w.heap.size (spl (spl bH i vs) (i+m) (xs.drop (i*5)))):=fun W hW=>by have:=aK.out (W.setRow w.heap.size (spl (spl bH i vs) (i+m) (xs.drop (i*5)))) (setRow_heap _ _ _ _ _ _ (qb p2 hW)) (Zc (B2.trans (Below.mono hW zO)) aP aP _) (fun q hq=>(setRow_other _ _ _ _ zO).trans ((Below.block hW q zO).trans (k2 q hq)));rw[hsd] at this;exact this
   replace cO:=zH cO;replace dR:=zH dR;clear aK;have hNO:=zH (show IntKind.i64.wrap ((i:Int)+(m:Int))=((i+m:Nat):Int) by rw[IntKind.wrap_i64];omega);have him:(0:Int)<=(i:Int)+(m:Int):=zO;have himt:((i:Int)+(m:Int)).toNat=i+m:=zO;go_upto_region 11 with (simp only[eY])
   refine qp zQ ?_;refine qQ (w:=w2) qj (qH []) (List.replicate 8 true) 1 zQ zQ zQ zQ zQ zQ zQ ?st (Rel.drew _ _) ?walk
   case st=>exact qk (fun _ h=>by cases h)
   case walk =>
    intro K hK;dsimp only[qt,List.replicate];repeat ((first|(refine qd ?_ zA0 zA0 (fun W hW _=>⟨W,?_,Rel.refl _ W⟩) ?_;rotate_left;(go_simp<;>with_reducible rfl))|(refine qh zA0 ?_));try simp only[Act.put,ql,qg,qc,qf,zA,zB,zC])
    refine qd (.slice (some ⟨w.heap.size,(i+m)*5,none⟩) (n+m-(i+m)) (C-(i+m))) zA0 zA0 (fun W hW _=>⟨W,?_,Rel.refl _ W⟩) ?_
    ·go_simp;rw[hNO.out,Int.toNat_natCast,if_pos zO,if_neg zO]
    simp only[Act.put,qg,qc,qf,zA,zB,zC];repeat ((first|(refine qd ?_ zA0 zA0 (fun W hW _=>⟨W,?_,Rel.refl _ W⟩) ?_;rotate_left;(go_simp<;>with_reducible rfl))|(refine qh zA0 ?_));try simp only[Act.put,ql,qg,qc,qf,zA,zB,zC])
    refine qv (hK _ _ fun W hW hF=>?_);clear hF hK;have hW:Ext w2 W:=hW;refine zC4 ?_;have bP:=dR.out W hW;go_wp2_with (simp only[bP]);refine Qo ?_;go_wp2_with fail;go_ret;exact cO.out W hW
  ·have hov:∀ la ca lb cb,(callFunc 148 #[.slice (some ⟨vg,0,none⟩) lb cb,.slice (some ⟨g,(i+m)*5,none⟩) la ca]).run prog w=.ok (.value (.bool false)) w:=fun la ca lb cb=>Up w g _ la ca vg lb cb cur hAO hg hvg hEK zO 0;go_enter func147,ntmps147;go_upto_region 15 with (simp only[hov])
   have hSU:(n+m)*5<=cur.size:=zO;have eY:∀ W:World,Ext w W->∀ ty dc sc,(Builtin.copy_ #[47,47] ty #[.slice (some ⟨g,(i+m)*5,none⟩) (n+m-(i+m)) dc,.slice (some ⟨g,i*5,none⟩) (n+m-i) sc]).run prog W=.ok (.int .i64 ((n-i:Nat):Int)) (W.setRow g (spl cur (i+m) (xs.drop (i*5)))):=fun W hW ty dc sc =>
    Jg (k:=n-i) (o:=i+m) (qb hg hW) gW zO underlying47 hsz zA8 (fP W (Below.block hW g hgl)) h1d
   have s1:=QY (cur:=cur) (o:=i+m) gW zO;have dR:∀ W:World,Ext w W->∀ ty dc,(Builtin.copy_ #[47,47] ty #[.slice (some ⟨g,i*5,none⟩) (n+m-i) dc,.slice (some ⟨vg,0,none⟩) m nZ]).run prog (W.setRow g (spl cur (i+m) (xs.drop (i*5))))=.ok (.int .i64 (m:Nat)) ((W.setRow g (spl cur (i+m) (xs.drop (i*5)))).setRow g (spl (spl cur (i+m) (xs.drop (i*5))) i vs)):=fun W hW ty dc =>
    Jg (k:=m) (o:=i) (setRow_heap _ _ _ _ _ _ (qb hg hW)) az zO underlying47 hsz zA8 (mM _ ((setRow_other _ _ _ _ hEK).trans (Below.block hW vg hII))) yL
   have aK:∀ W:World,Ext w W->YH lo (.slice (some ⟨g,0,none⟩) n cap) (n+m) (xs.take (i*5)++vs++xs.drop (i*5)) w (.returned (.slice (some ⟨g,0,none⟩) (n+m) cap)) ((W.setRow g (spl cur (i+m) (xs.drop (i*5)))).setRow g (spl (spl cur (i+m) (xs.drop (i*5))) i vs)):=fun W hW=>by
    refine⟨_,rfl,RowI.own ⟨_,setRow_heap _ _ _ _ _ _ (setRow_heap _ _ _ _ _ _ (qb hg hW)),?_,?_⟩ ?_ mZ zO fH.out,Zc (Zc (Below.mono hW aP) aP mZ _) aP mZ _,fun q hq hn=>?_⟩
    ·rw[QY az zO,s1,dD]
    ·exact qkB hct gu az hi hSU
    ·simp only[List.length_append,List.length_take,gW,az];omega
    ·have:q≠g:=fun e=>hn (by rw[e];rfl);exact(setRow_other _ _ _ _ this).trans ((setRow_other _ _ _ _ this).trans (Below.block hW q hq))
   replace aK:=zH aK;replace dR:=zH dR;replace eY:=zH eY;have hNO:=zH (show IntKind.i64.wrap ((i:Int)+(m:Int))=((i+m:Nat):Int) by rw[IntKind.wrap_i64];omega);clear hov fP mM;refine qp zQ ?_;refine qQ (w:=w) qj (qH []) (List.replicate 8 true) 1 zQ zQ zQ zQ zQ zQ zQ ?st (Rel.drew _ _) ?walk
   case st=>exact qk (fun _ h=>by cases h)
   case walk =>
    intro K hK;dsimp only[qt,List.replicate];repeat ((first|(refine qd ?_ zA0 zA0 (fun W hW _=>⟨W,?_,Rel.refl _ W⟩) ?_;rotate_left;(go_simp<;>with_reducible rfl))|(refine qh zA0 ?_));try simp only[Act.put,ql,qg,qc,qf,zA,zB,zC])
    refine qd (.slice (some ⟨g,(i+m)*5,none⟩) (n+m-(i+m)) (cap-(i+m))) zA0 zA0 (fun W hW _=>⟨W,?_,Rel.refl _ W⟩) ?_
    ·go_simp;rw[hNO.out,Int.toNat_natCast,if_pos zO,if_neg zO]
    simp only[Act.put,qg,qc,qf,zA,zB,zC];repeat ((first|(refine qd ?_ zA0 zA0 (fun W hW _=>⟨W,?_,Rel.refl _ W⟩) ?_;rotate_left;(go_simp<;>with_reducible rfl))|(refine qh zA0 ?_));try simp only[Act.put,ql,qg,qc,qf,zA,zB,zC])
    refine qd (.slice (some ⟨g,i*5,none⟩) (n+m-i) (cap-i)) zA0 zA0 (fun W hW _=>⟨W,?_,Rel.refl _ W⟩) ?_
    ·go_simp;intro hx;exfalso;omega
    simp only[Act.put,qg,qc,qf,zA,zB,zC];repeat ((first|(refine qd ?_ zA0 zA0 (fun W hW _=>⟨W,?_,Rel.refl _ W⟩) ?_;rotate_left;(go_simp<;>with_reducible rfl))|(refine qh zA0 ?_));try simp only[Act.put,ql,qg,qc,qf,zA,zB,zC])
    refine qv (hK _ _ fun W hW hF=>?_);clear hF hK;have hW:Ext w W:=hW;refine zC4 ?_;have dV:=eY.out W hW;have bP:=dR.out W hW;have uJ:=zH (aK.out W hW);generalize World.setRow (World.setRow W _ _) _ _=wf at *;generalize World.setRow W _ _=wm at *;go_wp2_with (simp only[dV]);refine Qo ?_;go_wp2_with (simp only[bP]);go_ret;exact uJ.out
theorem spl_two {cur:Array Value} {i m r:Nat} {A vs ys:List Value} (hA:cur.toList.take (i*5)=A) (hv:vs.length=m*5) (hy:ys.length=r*5) (h:(i+m+r)*5<=cur.size) : (spl (spl cur (i+m) ys) i vs).toList.take ((i+m+r)*5)=A++vs++ys:=by
 have e1:(spl cur (i+m) ys).toList=cur.toList.take ((i+m)*5)++ys++cur.toList.drop ((i+m)*5+ys.length):=by unfold spl;rw[List.toList_toArray]
 have pR:(cur.toList.take ((i+m)*5)).length=(i+m)*5:=by rw[List.length_take,Array.length_toList];omega
 have e2:(spl cur (i+m) ys).toList.take (i*5)=A:=by rw[e1,List.append_assoc,List.take_append_of_le_length zO,List.take_take,Nat.min_eq_left zO,hA]
 have e3:(spl cur (i+m) ys).toList.drop (i*5+vs.length)=ys++cur.toList.drop ((i+m)*5+ys.length):=by rw[e1,List.append_assoc];have:i*5+vs.length=(cur.toList.take ((i+m)*5)).length:=zO;rw[this];exact List.drop_left
 generalize hY:spl cur (i+m) ys=Y at *;unfold spl;rw[List.toList_toArray,e2,e3,<-List.append_assoc];have ht:A.length=i*5:=by rw[<-hA,List.length_take,Array.length_toList];omega
 have:(i+m+r)*5=(A++vs++ys).length:=by simp only[List.length_append];omega
 rw[this];exact List.take_left
theorem Tm (A:Option Addr) (c:Nat) (W:World) (ty:TypeId):(Builtin.clear_ #[47] ty #[.slice A 0 c]).run prog W=.ok (.tuple #[]) W:=by rcases A with _|a <;> simp[Builtin.clear_,run_underlying underlying47]
set_option maxRecDepth 100000 in
theorem qgj (lo:Nat) (s:Value) (n i many:Nat) (xs:List Value) (v:Value) (m lov:Nat) (vs:List Value) (w:World) (ho:w.ownsRow lo 68 5 s n xs) (hv:w.ownsRow lov 68 5 v m vs) (wQ:∀ q,v.ownBlock=some q->s.ownBlock≠some q) (hm:0<m) (hnm:n+m<=100) (hUE:many=0\/many=1) (hj:i+many<=n) (h1x:∀ u∈xs,u.oneCell'=true) (yL:∀ u∈vs,u.oneCell'=true) (aP:lo<=w.heap.size):Calls prog 101 #[s,.int .i64 (i:Int),.int .i64 ((i+many:Nat):Int),v] w (YH lo s (n-many+m) (xs.take (i*5)++vs++xs.drop ((i+many)*5)) w):=by
 rcases hUE with rfl|rfl
 ·have HI:=zH (qhn lo s n i xs v m lov vs w ho hv wQ hm hnm zO h1x yL aP);simp only[Nat.add_zero,Nat.sub_zero];have hin:i<=n:=zO;obtain⟨Av,cv,rfl,-,-⟩:=qz hv;rcases ho.2 with ⟨rfl,rfl⟩|⟨g,c,cur,rfl,-,-,dV,-,-,-⟩
  ·obtain rfl:i=0:=zO;clear ho hv wQ h1x yL;go_enter func101,ntmps101;go_wp2_with fail;refine HI.out.mono ?_;rintro e W ⟨v',rfl,h1,h2,h3⟩;have hF:=zH (show YH lo (.slice none 0 0) (0+m) (xs.take (0*5)++vs++xs.drop (0*5)) w (.returned v') W from ⟨v',rfl,h1,h2,h3⟩);clear h1 h2 h3 HI;go_wp2_with fail;go_ret;exact hF.out
  ·clear ho hv wQ h1x yL;go_enter func101,ntmps101;by_cases hci:c=i
   ·have hLL:c-i=0:=zO;go_upto_region 2 with fail;clear dV hci hLL hin;go_upto_region 3 with fail;go_wp2_with fail;refine HI.out.mono ?_;rintro e W ⟨v',rfl,h1,h2,h3⟩;have hF:=zH (show YH lo (.slice (some ⟨g,0,none⟩) n c) (n+m) (xs.take (i*5)++vs++xs.drop (i*5)) w (.returned v') W from ⟨v',rfl,h1,h2,h3⟩);clear h1 h2 h3 HI;go_wp2_with fail;go_ret;exact hF.out
   ·have hci3:¬(c<=i):=zO;have hii:(i:Int)<=(i:Int):=Int.le_refl _;go_upto_region 2 with fail;clear dV hci hci3 hii hin;go_upto_region 3 with fail;go_wp2_with fail;refine HI.out.mono ?_;rintro e W ⟨v',rfl,h1,h2,h3⟩;have hF:=zH (show YH lo (.slice (some ⟨g,0,none⟩) n c) (n+m) (xs.take (i*5)++vs++xs.drop (i*5)) w (.returned v') W from ⟨v',rfl,h1,h2,h3⟩);clear h1 h2 h3 HI;go_wp2_with fail;go_ret;exact hF.out
 ·obtain⟨i0,rV,ag,aU,aW⟩:=info_parts Tryz.info_item;have az:=hv.1;have gu:=ho.1;obtain⟨vg,nZ,hAO,rfl,hvlo,hvg,hvc,hvm,hvs,hvt⟩:∃ g cap cur,v=.slice (some ⟨g,0,none⟩) m cap/\lov<=g/\w.heap[g]?=some (.cells cur 68 (0,0))/\m<=cap/\cap<=maxLen/\cur.size=cap*5/\cur.toList.take (m*5)=vs:=by
   rcases hv.2 with ⟨_,h0⟩|h
   ·omega
   ·exact h
  obtain⟨g,cap,cur,rfl,mZ,hg,iI,fH,dD,hct⟩:∃ g cap cur,s=.slice (some ⟨g,0,none⟩) n cap/\lo<=g/\w.heap[g]?=some (.cells cur 68 (0,0))/\n<=cap/\cap<=maxLen/\cur.size=cap*5/\cur.toList.take (n*5)=xs:=by
   rcases ho.2 with ⟨_,h0⟩|h
   ·omega
   ·exact h
  have ig:=qeL hv;have hrv:Rd w w.heap.size 5 (some ⟨vg,0,none⟩) m vs:=Rd.of_own hv;have hEK:vg≠g:=fun e=>wQ vg rfl (by rw[e];rfl);have hgl:=(zG.1 hg).1;have hII:=(zG.1 hvg).1;have oI:(xs.take (i*5)).length=i*5:=by rw[List.length_take];omega
  have dh:w.ownsRow lo 68 5 (.slice (some ⟨g,0,none⟩) i cap) i (xs.take (i*5)):=⟨oI,.inr ⟨g,cap,cur,rfl,mZ,hg,zO,fH,dD,by rw[<-hct,List.take_take,Nat.min_eq_left zO]⟩⟩
  have hsz:(Tryz.prog.info? 68).map (·.size)=some 5:=by rw[rV];simp[aU]
  obtain⟨j,hjE⟩:∃ j,j=i+1:=⟨_,rfl⟩
  rw[<-hjE] at hj ⊢;have hij:((i:Int) == (j:Int))=false:=by rw[beq_eq_false_iff_ne];omega
  have hci:¬(cap=i):=zO;have hji:j-i=1:=zO;have bU:(i:Int)<=(j:Int):=zO;have bZ:(j:Int)<=(cap:Int):=zO;have dK:(0:Int)<=(i:Int):=zO;have rO:i<=cap:=zO;replace fH:=zH fH;replace hvm:=zH hvm;replace hjE:=zH hjE;replace h1x:=zH h1x;clear wQ ho hv;by_cases hjn:j=n
  ·have hd0:xs.drop (j*5)=[]:=List.drop_eq_nil_of_le zO;rw[hd0,List.append_nil,show n-1+m=i+m by have:=hjE.out;omega];have e1:((j:Int) == (n:Int))=true:=by rw[beq_iff_eq];omega
   have hin:i<n:=by have:=hjE.out;omega
   have e3:decide ((i:Int)+(m:Int)<(n:Int))=false:=decide_eq_false (by have:=hjE.out;omega);have aK:∀ (v':Value) (W:World),W.ownsRow lo 68 5 v' (i+m) (xs.take (i*5)++vs)->w.grownBy W (Value.slice (some ⟨g,0,none⟩) i cap).ownBlock->Below lo w W->YH lo (.slice (some ⟨g,0,none⟩) n cap) (i+m) (xs.take (i*5)++vs) w (.returned v') W:=fun v' W h1 h2 h3=>⟨v',rfl,h1,h3,fun q hq hn=>h2.block q hq fun e=>hn e.symm⟩
   replace aK:=zH aK;clear hjn hd0 hg hvg hct hvt ig oI dD hvs az gu iI hvc;go_enter func101,ntmps101;go_upto_region 2 with fail;clear bU bZ hci hji;go_wp2_with (at_builtin;refine Qf ?_);refine QC.go (Qw _ rfl (.tmp 32) (.tmp 33) 47 rfl lo 68 i0 _ 5 48 underlying47 rV ag aU aW rfl zD (.slice (some ⟨g,0,none⟩) i cap) i (xs.take (i*5)) rfl dh w.heap.size _ m nZ vs zE hrv yL zO zD aP ?_);intro v' W h1 h2 h3 _;have hF:=zH (aK.out v' W h1 h2 h3);obtain⟨A7,c7,rfl,-,-⟩:=qz h1;clear aK h1 h2 dh hrv;go_wp2_with fail;go_ret;exact hF.out
  ·have hjl:j<n:=zO;have f1:((j:Int) == (n:Int))=false:=by rw[beq_eq_false_iff_ne];omega
   obtain⟨r,hr⟩:∃ r,n-j=r:=⟨_,rfl⟩
   have hnr:n=j+r:=zO;have gW:(xs.drop (j*5)).length=r*5:=by rw[List.length_drop];omega
   have h1d:∀ u∈xs.drop (j*5),u.oneCell'=true:=fun u hu=>h1x.out u (List.mem_of_mem_drop hu);have hA:cur.toList.take (i*5)=xs.take (i*5):=by rw[<-hct,List.take_take,Nat.min_eq_left zO]
   obtain⟨tot,sJ⟩:∃ tot,tot=i+m+r:=⟨_,rfl⟩
   have fP:∀ W:World,W.heap[g]?=w.heap[g]?->∀ q u,(xs.drop (j*5))[q]?=some u->W.cell? ((⟨g,j*5,none⟩:Addr).add q)=some u:=fun W hW q u hu=>by
    rw[Addr.add_lit,qa (hW.trans hg),<-Array.getElem?_toList];rw[List.getElem?_drop,<-hct,List.getElem?_take] at hu;split at hu
    ·exact hu
    ·cases hu
   have mM:∀ W:World,W.heap[vg]?=w.heap[vg]?->∀ q u,vs[q]?=some u->W.cell? ((⟨vg,0,none⟩:Addr).add q)=some u:=fun W hW q u hu=>by rw[World.cell?_of_block (w:=w) (by rw[Addr.add_lit];exact hW)];exact ig q u hu
   have htb:tot<=200:=zO;have hNE:n-1+m=tot:=by have:=hjE.out;omega
   rw[hNE];have hyl:(xs.take (i*5)++vs++xs.drop (j*5)).length=tot*5:=by simp only[List.length_append,oI,az,gW];omega
   have aA:=zH (show IntKind.i64.wrap ((i:Int)+(m:Int))=((i+m:Nat):Int) by rw[IntKind.wrap_i64];omega);have bT:=zH (show IntKind.i64.wrap (((i+m:Nat):Int)+(r:Int))=((tot:Nat):Int) by rw[IntKind.wrap_i64];omega);clear dh hrv ig;replace hyl:=zH hyl;replace sJ:=zH sJ;replace hnr:=zH hnr;replace hNE:=zH hNE;go_enter func101,ntmps101;go_upto_region 2 with fail;go_upto_region 9 with fail;refine qp zQ ?_;refine qQ (w:=w) qj (qH []) (List.replicate 13 true) 0 zQ zQ zQ zQ zQ zQ zQ ?st (Rel.drew _ _) ?walk
   case st=>exact qk (fun _ h=>by cases h)
   case walk =>
    intro K hK;dsimp only[qt,List.replicate];repeat ((first|(refine qd ?_ zA0 zA0 (fun W hW _=>⟨W,?_,Rel.refl _ W⟩) ?_;rotate_left;(go_simp<;>with_reducible rfl))|(refine qh zA0 ?_));try simp only[Act.put,ql,qg,qc,qf,zA,zB,zC])
    refine qv (hK _ _ fun W hW hF=>?_);clear hF hK;have hW:Ext w W:=hW;refine zC4 ?_;go_wp2;refine Qo ?_;rw[aA.out,bT.out];have hWg:=(Below.block hW g hgl)
    have hWv:=(Below.block hW vg hII)
    have hWz:=hW.size;have yM:=zH hA;clear hA hct;by_cases hcap:cap<tot
    ·obtain⟨k,hk⟩:∃ k,k=tot-i:=⟨_,rfl⟩
     have hkm:k=m+r:=by have:=sJ.out;omega
     have hkt:i+k=tot:=by have:=sJ.out;omega
     have eU:(tot:Int)-(i:Int)=((k:Nat):Int):=zO;obtain⟨C,hC⟩:∃ C,C=grownCap W (i+k) cap 68:=⟨_,rfl⟩
     have hCge:i+k<=C:=by rw[hC];exact grownCap_ge W (i+k) cap _
     have hCm:C<=maxLen:=by rw[hC];exact grownCap_le_maxLen W (i+k) cap _ zA6
     obtain⟨bH,iD⟩:∃ bH:Array Value,bH=(xs.take (i*5)).toArray++Builtin.zeroCells (Value.agg #[.int .u8 0,.int .u32 0,.int .u32 0,.int .i64 0,.slice none 0 0]).cells k++Builtin.zeroCells (Value.agg #[.int .u8 0,.int .u32 0,.int .u32 0,.int .i64 0,.slice none 0 0]).cells (C-(i+k)):=⟨_,rfl⟩
     have ay:∀ ty (z:Int),z=(k:Int)->(Builtin.append_ #[47,3] ty #[.slice (some ⟨g,0,none⟩) i cap,.int .i64 z]).run prog W=.ok (.slice (some ⟨W.heap.size,0,none⟩) (i+k) C) (W.drew.alloc (.cells bH 68)):=fun ty z hz=>by
      rw[hz,hC,iD,hC];exact Lib.run_append_grow_zeros (P:=prog) W 47 3 ty 68 i0 _ .i64 .i64 underlying47 underlying3 rV ag (some ⟨g,0,none⟩) i cap (xs.take (i*5)) (by
       rw[aU];exact run_firstCells_some W.drew 5 i ⟨g,0,none⟩ i cap (xs.take (i*5)) (by rw[List.length_take];omega) (fun q u hu=>by
        rw[Addr.add_lit,Nat.zero_add];show W.cell? _=_;rw[qa (hWg.trans hg),<-Array.getElem?_toList];rw[<-yM.out,List.getElem?_take] at hu;split at hu
        ·exact hu
        ·cases hu)) k zO zO zO zO (by rw[aW];omega) (by rw[aW];exact growslice_fits zO zO)
     have dU:bH.size=C*5:=by rw[iD];simp only[Array.size_append,List.size_toArray,size_zeroCells,List.length_take];simp only[Value.cells,List.size_toArray,List.length_cons,List.length_nil];omega
     have xA:bH.toList.take (i*5)=xs.take (i*5):=by rw[iD];simp only[Array.toList_append,List.append_assoc];have:i*5=(xs.take (i*5)).length:=zO;rw[this];simp
     clear iD hC eU;rw[hkt] at hCge ay;have htm:=sJ.out;have aK:∀ V:World,V.heap[W.heap.size]?=some (.cells (spl (spl bH i vs) (i+m) (xs.drop (j*5))) 68 (0,0))->Below lo w V->(∀ q,q<W.heap.size->V.heap[q]?=W.heap[q]?)->YH lo (.slice (some ⟨g,0,none⟩) n cap) tot (xs.take (i*5)++vs++xs.drop (j*5)) w (.returned (.slice (some ⟨W.heap.size,0,none⟩) tot C)) V:=fun V h1 h2 h3=>by
      refine⟨_,rfl,RowI.own ⟨_,h1,?_,?_⟩ hyl.out zO zO hCm,h2,fun q hq _=>(h3 q zO).trans (Below.block hW q hq)⟩
      ·rw[QY (k:=r) gW (by rw[QY az zO];omega),QY az zO,dU]
      ·have e1:=XA xA az zO;have e2:=XA e1 gW (by rw[QY az zO];omega);rw[<-e2,htm]
     have hCi:¬(C=i):=zO;have hCim:¬(C=i+m):=zO;replace aK:=zH aK;replace xA:=zH xA;replace hCm:=zH hCm;replace hk:=zH hk;replace hkt:=zH hkt;have hti:i<=tot:=zO;have hti2:(i:Int)<=(tot:Int):=zO;have htim:i+m<=tot:=zO;clear bU bZ hji dK hkm htm hj hnm;have hci3:(i:Int)<=(cap:Int):=zO;have lF:(i+m)*5<=bH.size:=by rw[dU];omega
     have mY:(i+m+r)*5<=bH.size:=by rw[dU];have:=sJ.out;omega
     replace lF:=zH lF;replace mY:=zH mY;replace az:=zH az;replace hr:=zH hr;replace hcap:=zH hcap;replace gW:=zH gW;replace oI:=trivial;clear gu dD hvs hvt dU;go_wp2_with (at_builtin;refine Qf ?_);refine QC.go (Lib.wpList_append_run _ rfl _ _ _ _ rfl _ _ zE zE _ _ (ay _ _ ?hz) ?nx)
     case hz =>have h1:=hk.out;omega
     clear ay;generalize lZ:World.alloc _ _=w1;have p1:w1.heap[W.heap.size]?=some (.cells bH 68 (0,0)):=by rw[<-lZ];exact zI _ _ _ rfl
     have k1:∀ q,q<W.heap.size->w1.heap[q]?=W.heap[q]?:=fun q hq=>by rw[<-lZ];exact zK _ _ _ hq
     have z1:W.heap.size<=w1.heap.size:=by rw[<-lZ];simp
     have B1:Below lo w w1:=by rw[<-lZ];exact Below.mono (hW.trans ((Ext.drew W).trans (zN _ _))) aP
     clear lZ;have eY:∀ ty,(Builtin.copy_ #[47,47] ty #[.slice (some ⟨W.heap.size,i*5,none⟩) (tot-i) (C-i),.slice (some ⟨vg,0,none⟩) m nZ]).run prog w1=.ok (.int .i64 (m:Nat)) (w1.setRow W.heap.size (spl bH i vs)):=fun ty =>
      Jg (k:=m) (o:=i) p1 az.out lF.out underlying47 hsz (by simp only[Nat.min_def];have:=sJ.out;split <;> omega) (mM w1 ((k1 _ zO).trans hWv)) yL
     obtain⟨w2,gG⟩:∃ w2,w2=w1.setRow W.heap.size (spl bH i vs):=⟨_,rfl⟩
     rw[<-gG] at eY;have p2:w2.heap[W.heap.size]?=some (.cells (spl bH i vs) 68 (0,0)):=by rw[gG];exact setRow_heap _ _ _ _ _ _ p1
     have k2:∀ q,q<W.heap.size->w2.heap[q]?=W.heap[q]?:=fun q hq=>by rw[gG];exact(setRow_other _ _ _ _ zO).trans (k1 q hq)
     have z2:W.heap.size<=w2.heap.size:=by rw[gG];simpa using z1
     have B2:Below lo w w2:=by rw[gG];exact Zc B1 aP zO _
     have s2:=QY (cur:=bH) (o:=i) az.out lF.out;clear gG p1 k1 z1;have dR:∀ V:World,Ext w2 V->∀ ty,(Builtin.copy_ #[47,47] ty #[.slice (some ⟨W.heap.size,(i+m)*5,none⟩) (tot-(i+m)) (C-(i+m)),.slice (some ⟨g,j*5,none⟩) r (cap-j)]).run prog V=.ok (.int .i64 ((r:Nat):Int)) (V.setRow W.heap.size (spl (spl bH i vs) (i+m) (xs.drop (j*5)))):=fun V hV ty =>
      Jg (k:=r) (o:=i+m) (qb p2 hV) gW.out (by rw[s2];exact mY.out) underlying47 hsz (by simp only[Nat.min_def];have:=sJ.out;split <;> omega) (fP V ((Below.block hV g zO).trans ((k2 _ zO).trans hWg))) h1d
     have cO:∀ V:World,Ext w2 V->YH lo (.slice (some ⟨g,0,none⟩) n cap) tot (xs.take (i*5)++vs++xs.drop (j*5)) w (.returned (.slice (some ⟨W.heap.size,0,none⟩) tot C)) (V.setRow W.heap.size (spl (spl bH i vs) (i+m) (xs.drop (j*5)))):=fun V hV =>
      aK.out _ (setRow_heap _ _ _ _ _ _ (qb p2 hV)) (Zc (B2.trans (Below.mono hV zO)) aP zO _) (fun q hq=>(setRow_other _ _ _ _ zO).trans ((Below.block hV q zO).trans (k2 q hq)))
     replace cO:=zH cO;replace dR:=zH dR;replace s2:=trivial;clear aK fP mM;go_upto_region 13 with (simp only[eY])
     refine qp zQ ?_;refine qQ (w:=w2) qj (qH []) (List.replicate 9 true) 1 zQ zQ zQ zQ zQ zQ zQ ?st (Rel.drew _ _) ?walk
     case st=>exact qk (fun _ h=>by cases h)
     case walk =>
      intro K hK;dsimp only[qt,List.replicate];repeat ((first|(refine qd ?_ zA0 zA0 (fun W hW _=>⟨W,?_,Rel.refl _ W⟩) ?_;rotate_left;(go_simp<;>with_reducible rfl))|(refine qh zA0 ?_));try simp only[Act.put,ql,qg,qc,qf,zA,zB,zC])
      refine qd (.slice (some ⟨W.heap.size,(i+m)*5,none⟩) (tot-(i+m)) (C-(i+m))) zA0 zA0 (fun W hW _=>⟨W,?_,Rel.refl _ W⟩) ?_
      ·go_simp;rw[aA.out,Int.toNat_natCast,if_pos zO,if_neg zO]
      simp only[Act.put,qg,qc,qf,zA,zB,zC];repeat ((first|(refine qd ?_ zA0 zA0 (fun W hW _=>⟨W,?_,Rel.refl _ W⟩) ?_;rotate_left;(go_simp<;>with_reducible rfl))|(refine qh zA0 ?_));try simp only[Act.put,ql,qg,qc,qf,zA,zB,zC])
      refine qd (.slice (some ⟨g,j*5,none⟩) r (cap-j)) zA0 zA0 (fun W hW _=>⟨W,?_,Rel.refl _ W⟩) ?_
      ·go_simp;rw[hr.out,if_pos zO]
      simp only[Act.put,qg,qc,qf,zA,zB,zC];repeat ((first|(refine qd ?_ zA0 zA0 (fun W hW _=>⟨W,?_,Rel.refl _ W⟩) ?_;rotate_left;(go_simp<;>with_reducible rfl))|(refine qh zA0 ?_));try simp only[Act.put,ql,qg,qc,qf,zA,zB,zC])
      refine qv (hK _ _ fun V hV hF=>?_);clear hF hK;have hV:Ext w2 V:=hV;refine zC4 ?_;have bP:=dR.out V hV;go_wp2_with (simp only[bP]);refine Qo ?_;go_wp2_with fail;go_ret;exact cO.out V hV
    ·have htm:=sJ.out;have lF:(i+m)*5<=cur.size:=by rw[dD];omega
     have mY:(i+m+r)*5<=cur.size:=by rw[dD];omega
     have hti:i<=tot:=zO;have htim:i+m<=tot:=zO;have htlt:i+m<tot:=by have:=hnr.out;omega
     have hct':tot<=cap:=zO;have hcim:¬(cap=i+m):=zO;have aK:∀ V:World,V.heap[g]?=some (.cells (spl (spl cur (i+m) (xs.drop (j*5))) i vs) 68 (0,0))\/V.heap[g]?=some (.cells (spl (spl cur i vs) (i+m) (xs.drop (j*5))) 68 (0,0))->Below lo w V->(∀ q,q<W.heap.size->q≠g->V.heap[q]?=W.heap[q]?)->YH lo (.slice (some ⟨g,0,none⟩) n cap) tot (xs.take (i*5)++vs++xs.drop (j*5)) w (.returned (.slice (some ⟨g,0,none⟩) tot cap)) V:=fun V h1 h2 h3=>by
      refine⟨_,rfl,?_,h2,fun q hq hn=>(h3 q zO (fun e=>hn (by rw[e];rfl))).trans (Below.block hW q hq)⟩;rcases h1 with h1|h1
      ·refine RowI.own ⟨_,h1,?_,?_⟩ hyl.out mZ hct' fH.out
       ·rw[QY az (by rw[QY gW zO];omega),QY gW zO,dD]
       ·have:=spl_two (r:=r) yM.out az gW zO;rw[<-htm] at this;exact this
      ·refine RowI.own ⟨_,h1,?_,?_⟩ hyl.out mZ hct' fH.out
       ·rw[QY gW (by rw[QY az zO];omega),QY az zO,dD]
       ·have e1:=XA yM.out az zO;have e2:=XA e1 gW (by rw[QY az zO];omega);rw[<-e2,htm]
     replace aK:=zH aK;by_cases hm1:m=1
     ·have hjm:j=i+m:=by have:=hjE.out;omega
      have hgd2:∀ V:World,V.heap[g]?=some (.cells (spl cur i vs) 68 (0,0))->∀ q u,(xs.drop (j*5))[q]?=some u->V.cell? ((⟨g,j*5,none⟩:Addr).add q)=some u:=fun V hV q u hu=>by
       have h1:=fP W hWg q u hu;rw[Addr.add_lit,qa (hWg.trans hg),<-Array.getElem?_toList] at h1;rw[Addr.add_lit,qa hV,<-Array.getElem?_toList];have e:(spl cur i vs).toList=(cur.toList.take (i*5)++vs)++cur.toList.drop (i*5+vs.length):=by unfold spl;rw[List.toList_toArray]
       have hl:(cur.toList.take (i*5)++vs).length=(i+m)*5:=by rw[List.length_append,List.length_take,Array.length_toList];omega
       rw[e,List.getElem?_append_right (by rw[hl,hjm];omega),hl,List.getElem?_drop];rw[<-h1];congr 1;omega
      have eY:∀ ty,(Builtin.copy_ #[47,47] ty #[.slice (some ⟨g,i*5,none⟩) (tot-i) (cap-i),.slice (some ⟨vg,0,none⟩) m nZ]).run prog W=.ok (.int .i64 (m:Nat)) (W.setRow g (spl cur i vs)):=fun ty =>
       Jg (k:=m) (o:=i) (hWg.trans hg) az lF underlying47 hsz zA8 (mM W hWv) yL
      obtain⟨w2,gG⟩:∃ w2,w2=W.setRow g (spl cur i vs):=⟨_,rfl⟩
      rw[<-gG] at eY;have p2:w2.heap[g]?=some (.cells (spl cur i vs) 68 (0,0)):=by rw[gG];exact setRow_heap _ _ _ _ _ _ (hWg.trans hg)
      have k2:∀ q,q≠g->w2.heap[q]?=W.heap[q]?:=fun q hq=>by rw[gG];exact setRow_other _ _ _ _ hq
      have z2:w2.heap.size=W.heap.size:=by rw[gG];simp
      have B2:Below lo w w2:=by rw[gG];exact Zc (Below.mono hW aP) aP mZ _
      have s2:=QY (cur:=cur) (o:=i) az lF;clear gG;have dR:∀ V:World,Ext w2 V->∀ ty,(Builtin.copy_ #[47,47] ty #[.slice (some ⟨g,(i+m)*5,none⟩) (tot-(i+m)) (cap-(i+m)),.slice (some ⟨g,j*5,none⟩) r (cap-j)]).run prog V=.ok (.int .i64 ((r:Nat):Int)) (V.setRow g (spl (spl cur i vs) (i+m) (xs.drop (j*5)))):=fun V hV ty =>
       Jg (k:=r) (o:=i+m) (qb p2 hV) gW (by rw[s2];exact mY) underlying47 hsz zA8 (hgd2 V (qb p2 hV)) h1d
      have cO:∀ V:World,Ext w2 V->YH lo (.slice (some ⟨g,0,none⟩) n cap) tot (xs.take (i*5)++vs++xs.drop (j*5)) w (.returned (.slice (some ⟨g,0,none⟩) tot cap)) (V.setRow g (spl (spl cur i vs) (i+m) (xs.drop (j*5)))):=fun V hV =>
       aK.out _ (.inr (setRow_heap _ _ _ _ _ _ (qb p2 hV))) (Zc (B2.trans (Below.mono hV zO)) aP mZ _) (fun q hq aG=>(setRow_other _ _ _ _ aG).trans ((Below.block hV q zO).trans (k2 q aG)))
      replace cO:=zH cO;replace dR:=zH dR;have hle3:(i:Int)+(m:Int)<=(j:Int):=zO;have htn:tot=n:=by have:=hjE.out;have:=hnr.out;omega
      replace hr:=zH hr;replace htn:=zH htn;replace hjm:=zH hjm;replace hm1:=zH hm1;clear aK fP hgd2 mM oI gW az gu dD hvs hvt bU bZ hji htm hj hnm s2 p2;go_upto_region 18 with (simp only[eY])
      refine qp zQ ?_;refine qQ (w:=w2) qj (qH []) (List.replicate 9 true) 1 zQ zQ zQ zQ zQ zQ zQ ?st (Rel.drew _ _) ?walk
      case st=>exact qk (fun _ h=>by cases h)
      case walk =>
       intro K hK;dsimp only[qt,List.replicate];repeat ((first|(refine qd ?_ zA0 zA0 (fun W hW _=>⟨W,?_,Rel.refl _ W⟩) ?_;rotate_left;(go_simp<;>with_reducible rfl))|(refine qh zA0 ?_));try simp only[Act.put,ql,qg,qc,qf,zA,zB,zC])
       refine qd (.slice (some ⟨g,(i+m)*5,none⟩) (tot-(i+m)) (cap-(i+m))) zA0 zA0 (fun W hW _=>⟨W,?_,Rel.refl _ W⟩) ?_
       ·go_simp;rw[aA.out,Int.toNat_natCast,if_pos zO,if_neg zO]
       simp only[Act.put,qg,qc,qf,zA,zB,zC];repeat ((first|(refine qd ?_ zA0 zA0 (fun W hW _=>⟨W,?_,Rel.refl _ W⟩) ?_;rotate_left;(go_simp<;>with_reducible rfl))|(refine qh zA0 ?_));try simp only[Act.put,ql,qg,qc,qf,zA,zB,zC])
       refine qd (.slice (some ⟨g,j*5,none⟩) r (cap-j)) zA0 zA0 (fun W hW _=>⟨W,?_,Rel.refl _ W⟩) ?_
       ·go_simp;rw[hr.out,if_pos zO]
       simp only[Act.put,qg,qc,qf,zA,zB,zC];repeat ((first|(refine qd ?_ zA0 zA0 (fun W hW _=>⟨W,?_,Rel.refl _ W⟩) ?_;rotate_left;(go_simp<;>with_reducible rfl))|(refine qh zA0 ?_));try simp only[Act.put,ql,qg,qc,qf,zA,zB,zC])
       refine qv (hK _ _ fun V hV hF=>?_);clear hF hK;have hV:Ext w2 V:=hV;refine zC4 ?_;have bP:=dR.out V hV;have uJ:=zH (cO.out V hV);clear dR cO;generalize World.setRow V _ _=wf at *;have hclr:∀ A c ty,(Builtin.clear_ #[47] ty #[.slice A (n-tot) c]).run prog wf=.ok (.tuple #[]) wf:=fun A c ty=>by rw[show n-tot=0 by rw[htn.out];omega];exact Tm A c wf ty
       have htn2:tot<=n:=by rw[htn.out];omega
       by_cases hqt:cap=tot
       ·subst hqt;go_wp2_with (simp only[bP]);refine Qo ?_;go_wp2_with (first|simp only[hclr]|simp only[Tm]);go_ret;have:=uJ.out;simp only[List.append_assoc] at this ⊢;exact this
       ·go_wp2_with (simp only[bP]);refine Qo ?_;go_wp2_with (first|simp only[hclr]|simp only[Tm]);go_ret;have:=uJ.out;simp only[List.append_assoc] at this ⊢;exact this
     ·have lJ:2<=m:=zO;have hov:∀ la ca lb cb,(callFunc 148 #[.slice (some ⟨g,(i+m)*5,none⟩) lb cb,.slice (some ⟨vg,0,none⟩) la ca]).run prog W=.ok (.value (.bool false)) W:=fun la ca lb cb=>Up W vg 0 la ca g lb cb hAO cur (hWv.trans hvg) (hWg.trans hg) (fun e=>hEK e.symm) zO _;have eY:∀ V:World,Ext W V->∀ ty dc sc,(Builtin.copy_ #[47,47] ty #[.slice (some ⟨g,(i+m)*5,none⟩) (tot-(i+m)) dc,.slice (some ⟨g,j*5,none⟩) r sc]).run prog V=.ok (.int .i64 ((r:Nat):Int)) (V.setRow g (spl cur (i+m) (xs.drop (j*5)))):=fun V hV ty dc sc =>
       Jg (k:=r) (o:=i+m) (qb (hWg.trans hg) hV) gW mY underlying47 hsz zA8 (fP V ((Below.block hV g zO).trans hWg)) h1d
      have s1:=QY (cur:=cur) (o:=i+m) gW mY;have dR:∀ V:World,Ext W V->∀ ty dc,(Builtin.copy_ #[47,47] ty #[.slice (some ⟨g,i*5,none⟩) (tot-i) dc,.slice (some ⟨vg,0,none⟩) m nZ]).run prog (V.setRow g (spl cur (i+m) (xs.drop (j*5))))=.ok (.int .i64 (m:Nat)) ((V.setRow g (spl cur (i+m) (xs.drop (j*5)))).setRow g (spl (spl cur (i+m) (xs.drop (j*5))) i vs)):=fun V hV ty dc =>
       Jg (k:=m) (o:=i) (setRow_heap _ _ _ _ _ _ (qb (hWg.trans hg) hV)) az (by rw[s1];exact lF) underlying47 hsz zA8 (mM _ ((setRow_other _ _ _ _ hEK).trans ((Below.block hV vg zO).trans hWv))) yL
      have cO:∀ V:World,Ext W V->YH lo (.slice (some ⟨g,0,none⟩) n cap) tot (xs.take (i*5)++vs++xs.drop (j*5)) w (.returned (.slice (some ⟨g,0,none⟩) tot cap)) ((V.setRow g (spl cur (i+m) (xs.drop (j*5)))).setRow g (spl (spl cur (i+m) (xs.drop (j*5))) i vs)):=fun V hV =>
       aK.out _ (.inl (setRow_heap _ _ _ _ _ _ (setRow_heap _ _ _ _ _ _ (qb (hWg.trans hg) hV)))) (Zc (Zc (Below.mono (hW.trans hV) aP) aP mZ _) aP mZ _) (fun q hq aG=>(setRow_other _ _ _ _ aG).trans ((setRow_other _ _ _ _ aG).trans (Below.block hV q hq)))
      replace cO:=zH cO;replace eY:=zH eY;replace dR:=zH dR;have uS:¬(i+m<=j):=by have:=hjE.out;omega
      have hle3:¬((i:Int)+(m:Int)<=(j:Int)):=by have:=hjE.out;omega
      replace hr:=zH hr;clear aK fP mM oI gW az gu dD hvs hvt bU bZ hji htm hj hnm s1 hm1 lJ;go_upto_region 22 with (simp only[hov])
      refine qp zQ ?_;refine qQ (w:=W) qj (qH []) (List.replicate 9 true) 1 zQ zQ zQ zQ zQ zQ zQ ?st (Rel.drew _ _) ?walk
      case st=>exact qk (fun _ h=>by cases h)
      case walk =>
       intro K hK;dsimp only[qt,List.replicate];repeat ((first|(refine qd ?_ zA0 zA0 (fun W hW _=>⟨W,?_,Rel.refl _ W⟩) ?_;rotate_left;(go_simp<;>with_reducible rfl))|(refine qh zA0 ?_));try simp only[Act.put,ql,qg,qc,qf,zA,zB,zC])
       refine qd (.slice (some ⟨g,(i+m)*5,none⟩) (tot-(i+m)) (cap-(i+m))) zA0 zA0 (fun W hW _=>⟨W,?_,Rel.refl _ W⟩) ?_
       ·go_simp;rw[aA.out,Int.toNat_natCast,if_pos zO,if_neg zO]
       simp only[Act.put,qg,qc,qf,zA,zB,zC];repeat ((first|(refine qd ?_ zA0 zA0 (fun W hW _=>⟨W,?_,Rel.refl _ W⟩) ?_;rotate_left;(go_simp<;>with_reducible rfl))|(refine qh zA0 ?_));try simp only[Act.put,ql,qg,qc,qf,zA,zB,zC])
       refine qd (.slice (some ⟨g,j*5,none⟩) r (cap-j)) zA0 zA0 (fun W hW _=>⟨W,?_,Rel.refl _ W⟩) ?_
       ·go_simp;rw[hr.out,if_pos zO]
       simp only[Act.put,qg,qc,qf,zA,zB,zC];repeat ((first|(refine qd ?_ zA0 zA0 (fun W hW _=>⟨W,?_,Rel.refl _ W⟩) ?_;rotate_left;(go_simp<;>with_reducible rfl))|(refine qh zA0 ?_));try simp only[Act.put,ql,qg,qc,qf,zA,zB,zC])
       refine qv (hK _ _ fun V hV hF=>?_);clear hF hK;have hV:Ext W V:=hV;refine zC4 ?_;have dV:=eY.out V hV;have bP:=dR.out V hV;have uJ:=zH (cO.out V hV);clear eY dR cO hov;generalize World.setRow (World.setRow V _ _) _ _=wf at *;generalize World.setRow V _ _=wm at *;go_wp2_with (simp only[dV]);refine Qo ?_;go_wp2_with (simp only[bP]);go_ret;exact uJ.out
end Go.Proofs.YtpbniokljofedaaGreat
