/- Texts Replace, joined. -/
import Derived.Test.YtpbniokljofedaaGreatZI21
set_option linter.unusedSimpArgs false
set_option linter.unusedVariables false
set_option maxHeartbeats 8000000
open Go.Proofs.Tryz
namespace Go.Proofs.YtpbniokljofedaaGreat
open Go.RowKit
theorem spl_two {cur:Array Value} {i m r:Nat} {A vs ys:List Value} (hA:cur.toList.take (i*5)=A) (hv:vs.length=m*5) (hy:ys.length=r*5) (h:(i+m+r)*5<=cur.size) : (spl (spl cur (i+m) ys) i vs).toList.take ((i+m+r)*5)=A++vs++ys:=by
 have e1:(spl cur (i+m) ys).toList=cur.toList.take ((i+m)*5)++ys++cur.toList.drop ((i+m)*5+ys.length):=by unfold spl;rw[List.toList_toArray]
 have oM:(cur.toList.take ((i+m)*5)).length=(i+m)*5:=by rw[List.length_take,Array.length_toList];omega
 have e2:(spl cur (i+m) ys).toList.take (i*5)=A:=by rw[e1,List.append_assoc,List.take_append_of_le_length zO,List.take_take,Nat.min_eq_left zO,hA]
 have e3:(spl cur (i+m) ys).toList.drop (i*5+vs.length)=ys++cur.toList.drop ((i+m)*5+ys.length):=by rw[e1,List.append_assoc];have:i*5+vs.length=(cur.toList.take ((i+m)*5)).length:=zO;rw[this];exact List.drop_left
 generalize hY:spl cur (i+m) ys=Y at *;unfold spl;rw[List.toList_toArray,e2,e3,<-List.append_assoc];have ht:A.length=i*5:=by rw[<-hA,List.length_take,Array.length_toList];omega
 have:(i+m+r)*5=(A++vs++ys).length:=by simp only[List.length_append];omega
 rw[this];exact List.take_left
theorem Xe (A:Option Addr) (c:Nat) (W:World) (ty:TypeId):(Builtin.clear_ #[47] ty #[.slice A 0 c]).run prog W=.ok (.tuple #[]) W:=by rcases A with _|a <;> simp[Builtin.clear_,run_underlying underlying47]
set_option maxRecDepth 100000 in
theorem qee (lo:Nat) (s:Value) (n i many:Nat) (xs:List Value) (v:Value) (m lov:Nat) (vs:List Value) (w:World) (ho:w.ownsRow lo 68 5 s n xs) (hv:w.ownsRow lov 68 5 v m vs) (uQ:∀ q,v.ownBlock=some q->s.ownBlock≠some q) (hm:0<m) (hnm:n+m<=100) (hQW:many=0\/many=1) (hj:i+many<=n) (h1x:∀ u∈xs,u.oneCell'=true) (xR:∀ u∈vs,u.oneCell'=true) (aP:lo<=w.heap.size):Calls prog 101 #[s,.int .i64 (i:Int),.int .i64 ((i+many:Nat):Int),v] w (VG lo s (n-many+m) (xs.take (i*5)++vs++xs.drop ((i+many)*5)) w):=by
 rcases hQW with rfl|rfl
 ·have HI:=zH (qfg lo s n i xs v m lov vs w ho hv uQ hm hnm zO h1x xR aP);simp only[Nat.add_zero,Nat.sub_zero];have hin:i<=n:=zO;obtain⟨Av,cv,rfl,-,-⟩:=qy hv;rcases ho.2 with ⟨rfl,rfl⟩|⟨g,c,cur,rfl,-,-,dV,-,-,-⟩
  ·obtain rfl:i=0:=zO;clear ho hv uQ h1x xR;go_enter func101,ntmps101;go_wp2_with fail;refine HI.out.mono ?_;rintro e W ⟨v',rfl,h1,h2,h3⟩;have hF:=zH (show VG lo (.slice none 0 0) (0+m) (xs.take (0*5)++vs++xs.drop (0*5)) w (.returned v') W from ⟨v',rfl,h1,h2,h3⟩);clear h1 h2 h3 HI;go_wp2_with fail;go_ret;exact hF.out
  ·clear ho hv uQ h1x xR;go_enter func101,ntmps101;by_cases hci:c=i
   ·have hJG:c-i=0:=zO;go_upto_region 2 with fail;clear dV hci hJG hin;go_upto_region 3 with fail;go_wp2_with fail;refine HI.out.mono ?_;rintro e W ⟨v',rfl,h1,h2,h3⟩;have hF:=zH (show VG lo (.slice (some ⟨g,0,none⟩) n c) (n+m) (xs.take (i*5)++vs++xs.drop (i*5)) w (.returned v') W from ⟨v',rfl,h1,h2,h3⟩);clear h1 h2 h3 HI;go_wp2_with fail;go_ret;exact hF.out
   ·have hci3:¬(c<=i):=zO;have hii:(i:Int)<=(i:Int):=Int.le_refl _;go_upto_region 2 with fail;clear dV hci hci3 hii hin;go_upto_region 3 with fail;go_wp2_with fail;refine HI.out.mono ?_;rintro e W ⟨v',rfl,h1,h2,h3⟩;have hF:=zH (show VG lo (.slice (some ⟨g,0,none⟩) n c) (n+m) (xs.take (i*5)++vs++xs.drop (i*5)) w (.returned v') W from ⟨v',rfl,h1,h2,h3⟩);clear h1 h2 h3 HI;go_wp2_with fail;go_ret;exact hF.out
 ·obtain⟨i0,nH,aY,aV,aX⟩:=info_parts Tryz.info_item;have bz:=hv.1;have fH:=ho.1;obtain⟨vg,nD,yO,rfl,hvlo,hvg,hvc,hvm,hvs,hvt⟩:∃ g cap cur,v=.slice (some ⟨g,0,none⟩) m cap/\lov<=g/\w.heap[g]?=some (.cells cur 68 (0,0))/\m<=cap/\cap<=maxLen/\cur.size=cap*5/\cur.toList.take (m*5)=vs:=by
   rcases hv.2 with ⟨_,h0⟩|h
   ·omega
   ·exact h
  obtain⟨g,cap,cur,rfl,fK,hg,fP,eG,bV,xx⟩:∃ g cap cur,s=.slice (some ⟨g,0,none⟩) n cap/\lo<=g/\w.heap[g]?=some (.cells cur 68 (0,0))/\n<=cap/\cap<=maxLen/\cur.size=cap*5/\cur.toList.take (n*5)=xs:=by
   rcases ho.2 with ⟨_,h0⟩|h
   ·omega
   ·exact h
  have iP:=qcJ hv;have hrv:Rd w w.heap.size 5 (some ⟨vg,0,none⟩) m vs:=Rd.of_own hv;have hCB:vg≠g:=fun e=>uQ vg rfl (by rw[e];rfl);have hgl:=(zG.1 hg).1;have hFQ:=(zG.1 hvg).1;have nN:(xs.take (i*5)).length=i*5:=by rw[List.length_take];omega
  have dZ:w.ownsRow lo 68 5 (.slice (some ⟨g,0,none⟩) i cap) i (xs.take (i*5)):=⟨nN,.inr ⟨g,cap,cur,rfl,fK,hg,zO,eG,bV,by rw[<-xx,List.take_take,Nat.min_eq_left zO]⟩⟩
  have hsz:(Tryz.prog.info? 68).map (·.size)=some 5:=by rw[nH];simp[aV]
  obtain⟨j,uM⟩:∃ j,j=i+1:=⟨_,rfl⟩
  rw[<-uM] at hj ⊢;have hij:((i:Int) == (j:Int))=false:=by rw[beq_eq_false_iff_ne];omega
  have hci:¬(cap=i):=zO;have hji:j-i=1:=zO;have bD:(i:Int)<=(j:Int):=zO;have bI:(j:Int)<=(cap:Int):=zO;have dF:(0:Int)<=(i:Int):=zO;have iI:i<=cap:=zO;replace eG:=zH eG;replace hvm:=zH hvm;replace uM:=zH uM;replace h1x:=zH h1x;clear uQ ho hv;by_cases hjn:j=n
  ·have hd0:xs.drop (j*5)=[]:=List.drop_eq_nil_of_le zO;rw[hd0,List.append_nil,show n-1+m=i+m by have:=uM.out;omega];have e1:((j:Int) == (n:Int))=true:=by rw[beq_iff_eq];omega
   have hin:i<n:=by have:=uM.out;omega
   have e3:decide ((i:Int)+(m:Int)<(n:Int))=false:=decide_eq_false (by have:=uM.out;omega);have aI:∀ (v':Value) (W:World),W.ownsRow lo 68 5 v' (i+m) (xs.take (i*5)++vs)->w.grownBy W (Value.slice (some ⟨g,0,none⟩) i cap).ownBlock->Below lo w W->VG lo (.slice (some ⟨g,0,none⟩) n cap) (i+m) (xs.take (i*5)++vs) w (.returned v') W:=fun v' W h1 h2 h3=>⟨v',rfl,h1,h3,fun q hq hn=>h2.block q hq fun e=>hn e.symm⟩
   replace aI:=zH aI;clear hjn hd0 hg hvg xx hvt iP nN bV hvs bz fH fP hvc;go_enter func101,ntmps101;go_upto_region 2 with fail;clear bD bI hci hji;go_wp2_with (at_builtin;refine qI ?_);refine Qh.go (Qq _ rfl (.tmp 32) (.tmp 33) 47 rfl lo 68 i0 _ 5 48 underlying47 nH aY aV aX rfl zA1 (.slice (some ⟨g,0,none⟩) i cap) i (xs.take (i*5)) rfl dZ w.heap.size _ m nD vs zE hrv xR zO zA1 aP ?_);intro v' W h1 h2 h3 _;have hF:=zH (aI.out v' W h1 h2 h3);obtain⟨A7,c7,rfl,-,-⟩:=qy h1;clear aI h1 h2 dZ hrv;go_wp2_with fail;go_ret;exact hF.out
  ·have hjl:j<n:=zO;have f1:((j:Int) == (n:Int))=false:=by rw[beq_eq_false_iff_ne];omega
   obtain⟨r,hr⟩:∃ r,n-j=r:=⟨_,rfl⟩
   have hnr:n=j+r:=zO;have dK:(xs.drop (j*5)).length=r*5:=by rw[List.length_drop];omega
   have h1d:∀ u∈xs.drop (j*5),u.oneCell'=true:=fun u hu=>h1x.out u (List.mem_of_mem_drop hu);have hA:cur.toList.take (i*5)=xs.take (i*5):=by rw[<-xx,List.take_take,Nat.min_eq_left zO]
   obtain⟨tot,rG⟩:∃ tot,tot=i+m+r:=⟨_,rfl⟩
   have fG:∀ W:World,W.heap[g]?=w.heap[g]?->∀ q u,(xs.drop (j*5))[q]?=some u->W.cell? ((⟨g,j*5,none⟩:Addr).add q)=some u:=fun W hW q u hu=>by
    rw[Addr.add_lit,qa (hW.trans hg),<-Array.getElem?_toList];rw[List.getElem?_drop,<-xx,List.getElem?_take] at hu;split at hu
    ·exact hu
    ·cases hu
   have lg:∀ W:World,W.heap[vg]?=w.heap[vg]?->∀ q u,vs[q]?=some u->W.cell? ((⟨vg,0,none⟩:Addr).add q)=some u:=fun W hW q u hu=>by rw[World.cell?_of_block (w:=w) (by rw[Addr.add_lit];exact hW)];exact iP q u hu
   have htb:tot<=200:=zO;have hKU:n-1+m=tot:=by have:=uM.out;omega
   rw[hKU];have wH:(xs.take (i*5)++vs++xs.drop (j*5)).length=tot*5:=by simp only[List.length_append,nN,bz,dK];omega
   have aA:=zH (show IntKind.i64.wrap ((i:Int)+(m:Int))=((i+m:Nat):Int) by rw[IntKind.wrap_i64];omega);have dA:=zH (show IntKind.i64.wrap (((i+m:Nat):Int)+(r:Int))=((tot:Nat):Int) by rw[IntKind.wrap_i64];omega);clear dZ hrv iP;replace wH:=zH wH;replace rG:=zH rG;replace hnr:=zH hnr;replace hKU:=zH hKU;go_enter func101,ntmps101;go_upto_region 2 with fail;go_upto_region 9 with fail;refine qm zQ ?_;refine qL (w:=w) qk (qD []) (List.replicate 13 true) 0 zQ zQ zQ zQ zQ zQ zQ ?st (Rel.drew _ _) ?walk
   case st=>exact qj (fun _ h=>by cases h)
   case walk =>
    intro K hK;dsimp only[qp,List.replicate];repeat ((first|(refine qd ?_ zA0 zA0 (fun W hW _=>⟨W,?_,Rel.refl _ W⟩) ?_;rotate_left;(go_simp<;>with_reducible rfl))|(refine qh zA0 ?_));try simp only[Act.put,ql,qf,qc,qg,zA,zB,zC])
    refine qt (hK _ _ fun W hW hF=>?_);clear hF hK;have hW:Ext w W:=hW;refine zC3 ?_;go_wp2;refine Qm ?_;rw[aA.out,dA.out];have hWg:=(Below.block hW g hgl)
    have hWv:=(Below.block hW vg hFQ)
    have hWz:=hW.size;have xU:=zH hA;clear hA xx;by_cases hcap:cap<tot
    ·obtain⟨k,hk⟩:∃ k,k=tot-i:=⟨_,rfl⟩
     have hkm:k=m+r:=by have:=rG.out;omega
     have hkt:i+k=tot:=by have:=rG.out;omega
     have dY:(tot:Int)-(i:Int)=((k:Nat):Int):=zO;obtain⟨C,hC⟩:∃ C,C=grownCap W (i+k) cap 68:=⟨_,rfl⟩
     have hCge:i+k<=C:=by rw[hC];exact grownCap_ge W (i+k) cap _
     have hCm:C<=maxLen:=by rw[hC];exact grownCap_le_maxLen W (i+k) cap _ zA7
     obtain⟨bH,fZ⟩:∃ bH:Array Value,bH=(xs.take (i*5)).toArray++Builtin.zeroCells (Value.agg #[.int .u8 0,.int .u32 0,.int .u32 0,.int .i64 0,.slice none 0 0]).cells k++Builtin.zeroCells (Value.agg #[.int .u8 0,.int .u32 0,.int .u32 0,.int .i64 0,.slice none 0 0]).cells (C-(i+k)):=⟨_,rfl⟩
     have au:∀ ty (z:Int),z=(k:Int)->(Builtin.append_ #[47,3] ty #[.slice (some ⟨g,0,none⟩) i cap,.int .i64 z]).run prog W=.ok (.slice (some ⟨W.heap.size,0,none⟩) (i+k) C) (W.drew.alloc (.cells bH 68)):=fun ty z hz=>by
      rw[hz,hC,fZ,hC];exact Lib.run_append_grow_zeros (P:=prog) W 47 3 ty 68 i0 _ .i64 .i64 underlying47 underlying3 nH aY (some ⟨g,0,none⟩) i cap (xs.take (i*5)) (by
       rw[aV];exact run_firstCells_some W.drew 5 i ⟨g,0,none⟩ i cap (xs.take (i*5)) (by rw[List.length_take];omega) (fun q u hu=>by
        rw[Addr.add_lit,Nat.zero_add];show W.cell? _=_;rw[qa (hWg.trans hg),<-Array.getElem?_toList];rw[<-xU.out,List.getElem?_take] at hu;split at hu
        ·exact hu
        ·cases hu)) k zO zO zO zO (by rw[aX];omega) (by rw[aX];exact growslice_fits zO zO)
     have dC:bH.size=C*5:=by rw[fZ];simp only[Array.size_append,List.size_toArray,size_zeroCells,List.length_take];simp only[Value.cells,List.size_toArray,List.length_cons,List.length_nil];omega
     have ug:bH.toList.take (i*5)=xs.take (i*5):=by rw[fZ];simp only[Array.toList_append,List.append_assoc];have:i*5=(xs.take (i*5)).length:=zO;rw[this];simp
     clear fZ hC dY;rw[hkt] at hCge au;have htm:=rG.out;have aI:∀ V:World,V.heap[W.heap.size]?=some (.cells (spl (spl bH i vs) (i+m) (xs.drop (j*5))) 68 (0,0))->Below lo w V->(∀ q,q<W.heap.size->V.heap[q]?=W.heap[q]?)->VG lo (.slice (some ⟨g,0,none⟩) n cap) tot (xs.take (i*5)++vs++xs.drop (j*5)) w (.returned (.slice (some ⟨W.heap.size,0,none⟩) tot C)) V:=fun V h1 h2 h3=>by
      refine⟨_,rfl,RowI.own ⟨_,h1,?_,?_⟩ wH.out zO zO hCm,h2,fun q hq _=>(h3 q zO).trans (Below.block hW q hq)⟩
      ·rw[QE (k:=r) dK (by rw[QE bz zO];omega),QE bz zO,dC]
      ·have e1:=Yv ug bz zO;have e2:=Yv e1 dK (by rw[QE bz zO];omega);rw[<-e2,htm]
     have hCi:¬(C=i):=zO;have hCim:¬(C=i+m):=zO;replace aI:=zH aI;replace ug:=zH ug;replace hCm:=zH hCm;replace hk:=zH hk;replace hkt:=zH hkt;have hti:i<=tot:=zO;have hti2:(i:Int)<=(tot:Int):=zO;have htim:i+m<=tot:=zO;clear bD bI hji dF hkm htm hj hnm;have hci3:(i:Int)<=(cap:Int):=zO;have iY:(i+m)*5<=bH.size:=by rw[dC];omega
     have mF:(i+m+r)*5<=bH.size:=by rw[dC];have:=rG.out;omega
     replace iY:=zH iY;replace mF:=zH mF;replace bz:=zH bz;replace hr:=zH hr;replace hcap:=zH hcap;replace dK:=zH dK;replace nN:=trivial;clear fH bV hvs hvt dC;go_wp2_with (at_builtin;refine qI ?_);refine Qh.go (Lib.wpList_append_run _ rfl _ _ _ _ rfl _ _ zE zE _ _ (au _ _ ?hz) ?nx)
     case hz =>have h1:=hk.out;omega
     clear au;generalize lS:World.alloc _ _=w1;have p1:w1.heap[W.heap.size]?=some (.cells bH 68 (0,0)):=by rw[<-lS];exact zI _ _ _ rfl
     have k1:∀ q,q<W.heap.size->w1.heap[q]?=W.heap[q]?:=fun q hq=>by rw[<-lS];exact zK _ _ _ hq
     have z1:W.heap.size<=w1.heap.size:=by rw[<-lS];simp
     have B1:Below lo w w1:=by rw[<-lS];exact Below.mono (hW.trans ((Ext.drew W).trans (zN _ _))) aP
     clear lS;have eY:∀ ty,(Builtin.copy_ #[47,47] ty #[.slice (some ⟨W.heap.size,i*5,none⟩) (tot-i) (C-i),.slice (some ⟨vg,0,none⟩) m nD]).run prog w1=.ok (.int .i64 (m:Nat)) (w1.setRow W.heap.size (spl bH i vs)):=fun ty =>
      jD (k:=m) (o:=i) p1 bz.out iY.out underlying47 hsz (by simp only[Nat.min_def];have:=rG.out;split <;> omega) (lg w1 ((k1 _ zO).trans hWv)) xR
     obtain⟨w2,fM⟩:∃ w2,w2=w1.setRow W.heap.size (spl bH i vs):=⟨_,rfl⟩
     rw[<-fM] at eY;have p2:w2.heap[W.heap.size]?=some (.cells (spl bH i vs) 68 (0,0)):=by rw[fM];exact setRow_heap _ _ _ _ _ _ p1
     have k2:∀ q,q<W.heap.size->w2.heap[q]?=W.heap[q]?:=fun q hq=>by rw[fM];exact(setRow_other _ _ _ _ zO).trans (k1 q hq)
     have z2:W.heap.size<=w2.heap.size:=by rw[fM];simpa using z1
     have B2:Below lo w w2:=by rw[fM];exact QL B1 aP zO _
     have s2:=QE (cur:=bH) (o:=i) bz.out iY.out;clear fM p1 k1 z1;have dP:∀ V:World,Ext w2 V->∀ ty,(Builtin.copy_ #[47,47] ty #[.slice (some ⟨W.heap.size,(i+m)*5,none⟩) (tot-(i+m)) (C-(i+m)),.slice (some ⟨g,j*5,none⟩) r (cap-j)]).run prog V=.ok (.int .i64 ((r:Nat):Int)) (V.setRow W.heap.size (spl (spl bH i vs) (i+m) (xs.drop (j*5)))):=fun V hV ty =>
      jD (k:=r) (o:=i+m) (qb p2 hV) dK.out (by rw[s2];exact mF.out) underlying47 hsz (by simp only[Nat.min_def];have:=rG.out;split <;> omega) (fG V ((Below.block hV g zO).trans ((k2 _ zO).trans hWg))) h1d
     have ag:∀ V:World,Ext w2 V->VG lo (.slice (some ⟨g,0,none⟩) n cap) tot (xs.take (i*5)++vs++xs.drop (j*5)) w (.returned (.slice (some ⟨W.heap.size,0,none⟩) tot C)) (V.setRow W.heap.size (spl (spl bH i vs) (i+m) (xs.drop (j*5)))):=fun V hV =>
      aI.out _ (setRow_heap _ _ _ _ _ _ (qb p2 hV)) (QL (B2.trans (Below.mono hV zO)) aP zO _) (fun q hq=>(setRow_other _ _ _ _ zO).trans ((Below.block hV q zO).trans (k2 q hq)))
     replace ag:=zH ag;replace dP:=zH dP;replace s2:=trivial;clear aI fG lg;go_upto_region 13 with (simp only[eY])
     refine qm zQ ?_;refine qL (w:=w2) qk (qD []) (List.replicate 9 true) 1 zQ zQ zQ zQ zQ zQ zQ ?st (Rel.drew _ _) ?walk
     case st=>exact qj (fun _ h=>by cases h)
     case walk =>
      intro K hK;dsimp only[qp,List.replicate];repeat ((first|(refine qd ?_ zA0 zA0 (fun W hW _=>⟨W,?_,Rel.refl _ W⟩) ?_;rotate_left;(go_simp<;>with_reducible rfl))|(refine qh zA0 ?_));try simp only[Act.put,ql,qf,qc,qg,zA,zB,zC])
      refine qd (.slice (some ⟨W.heap.size,(i+m)*5,none⟩) (tot-(i+m)) (C-(i+m))) zA0 zA0 (fun W hW _=>⟨W,?_,Rel.refl _ W⟩) ?_
      ·go_simp;rw[aA.out,Int.toNat_natCast,if_pos zO,if_neg zO]
      simp only[Act.put,qf,qc,qg,zA,zB,zC];repeat ((first|(refine qd ?_ zA0 zA0 (fun W hW _=>⟨W,?_,Rel.refl _ W⟩) ?_;rotate_left;(go_simp<;>with_reducible rfl))|(refine qh zA0 ?_));try simp only[Act.put,ql,qf,qc,qg,zA,zB,zC])
      refine qd (.slice (some ⟨g,j*5,none⟩) r (cap-j)) zA0 zA0 (fun W hW _=>⟨W,?_,Rel.refl _ W⟩) ?_
      ·go_simp;rw[hr.out,if_pos zO]
      simp only[Act.put,qf,qc,qg,zA,zB,zC];repeat ((first|(refine qd ?_ zA0 zA0 (fun W hW _=>⟨W,?_,Rel.refl _ W⟩) ?_;rotate_left;(go_simp<;>with_reducible rfl))|(refine qh zA0 ?_));try simp only[Act.put,ql,qf,qc,qg,zA,zB,zC])
      refine qt (hK _ _ fun V hV hF=>?_);clear hF hK;have hV:Ext w2 V:=hV;refine zC3 ?_;have az:=dP.out V hV;go_wp2_with (simp only[az]);refine Qm ?_;go_wp2_with fail;go_ret;exact ag.out V hV
    ·have htm:=rG.out;have iY:(i+m)*5<=cur.size:=by rw[bV];omega
     have mF:(i+m+r)*5<=cur.size:=by rw[bV];omega
     have hti:i<=tot:=zO;have htim:i+m<=tot:=zO;have htlt:i+m<tot:=by have:=hnr.out;omega
     have hct':tot<=cap:=zO;have hcim:¬(cap=i+m):=zO;have aI:∀ V:World,V.heap[g]?=some (.cells (spl (spl cur (i+m) (xs.drop (j*5))) i vs) 68 (0,0))\/V.heap[g]?=some (.cells (spl (spl cur i vs) (i+m) (xs.drop (j*5))) 68 (0,0))->Below lo w V->(∀ q,q<W.heap.size->q≠g->V.heap[q]?=W.heap[q]?)->VG lo (.slice (some ⟨g,0,none⟩) n cap) tot (xs.take (i*5)++vs++xs.drop (j*5)) w (.returned (.slice (some ⟨g,0,none⟩) tot cap)) V:=fun V h1 h2 h3=>by
      refine⟨_,rfl,?_,h2,fun q hq hn=>(h3 q zO (fun e=>hn (by rw[e];rfl))).trans (Below.block hW q hq)⟩;rcases h1 with h1|h1
      ·refine RowI.own ⟨_,h1,?_,?_⟩ wH.out fK hct' eG.out
       ·rw[QE bz (by rw[QE dK zO];omega),QE dK zO,bV]
       ·have:=spl_two (r:=r) xU.out bz dK zO;rw[<-htm] at this;exact this
      ·refine RowI.own ⟨_,h1,?_,?_⟩ wH.out fK hct' eG.out
       ·rw[QE dK (by rw[QE bz zO];omega),QE bz zO,bV]
       ·have e1:=Yv xU.out bz zO;have e2:=Yv e1 dK (by rw[QE bz zO];omega);rw[<-e2,htm]
     replace aI:=zH aI;by_cases hm1:m=1
     ·have hjm:j=i+m:=by have:=uM.out;omega
      have hgd2:∀ V:World,V.heap[g]?=some (.cells (spl cur i vs) 68 (0,0))->∀ q u,(xs.drop (j*5))[q]?=some u->V.cell? ((⟨g,j*5,none⟩:Addr).add q)=some u:=fun V hV q u hu=>by
       have h1:=fG W hWg q u hu;rw[Addr.add_lit,qa (hWg.trans hg),<-Array.getElem?_toList] at h1;rw[Addr.add_lit,qa hV,<-Array.getElem?_toList];have e:(spl cur i vs).toList=(cur.toList.take (i*5)++vs)++cur.toList.drop (i*5+vs.length):=by unfold spl;rw[List.toList_toArray]
       have hl:(cur.toList.take (i*5)++vs).length=(i+m)*5:=by rw[List.length_append,List.length_take,Array.length_toList];omega
       rw[e,List.getElem?_append_right (by rw[hl,hjm];omega),hl,List.getElem?_drop];rw[<-h1];congr 1;omega
      have eY:∀ ty,(Builtin.copy_ #[47,47] ty #[.slice (some ⟨g,i*5,none⟩) (tot-i) (cap-i),.slice (some ⟨vg,0,none⟩) m nD]).run prog W=.ok (.int .i64 (m:Nat)) (W.setRow g (spl cur i vs)):=fun ty =>
       jD (k:=m) (o:=i) (hWg.trans hg) bz iY underlying47 hsz zA9 (lg W hWv) xR
      obtain⟨w2,fM⟩:∃ w2,w2=W.setRow g (spl cur i vs):=⟨_,rfl⟩
      rw[<-fM] at eY;have p2:w2.heap[g]?=some (.cells (spl cur i vs) 68 (0,0)):=by rw[fM];exact setRow_heap _ _ _ _ _ _ (hWg.trans hg)
      have k2:∀ q,q≠g->w2.heap[q]?=W.heap[q]?:=fun q hq=>by rw[fM];exact setRow_other _ _ _ _ hq
      have z2:w2.heap.size=W.heap.size:=by rw[fM];simp
      have B2:Below lo w w2:=by rw[fM];exact QL (Below.mono hW aP) aP fK _
      have s2:=QE (cur:=cur) (o:=i) bz iY;clear fM;have dP:∀ V:World,Ext w2 V->∀ ty,(Builtin.copy_ #[47,47] ty #[.slice (some ⟨g,(i+m)*5,none⟩) (tot-(i+m)) (cap-(i+m)),.slice (some ⟨g,j*5,none⟩) r (cap-j)]).run prog V=.ok (.int .i64 ((r:Nat):Int)) (V.setRow g (spl (spl cur i vs) (i+m) (xs.drop (j*5)))):=fun V hV ty =>
       jD (k:=r) (o:=i+m) (qb p2 hV) dK (by rw[s2];exact mF) underlying47 hsz zA9 (hgd2 V (qb p2 hV)) h1d
      have ag:∀ V:World,Ext w2 V->VG lo (.slice (some ⟨g,0,none⟩) n cap) tot (xs.take (i*5)++vs++xs.drop (j*5)) w (.returned (.slice (some ⟨g,0,none⟩) tot cap)) (V.setRow g (spl (spl cur i vs) (i+m) (xs.drop (j*5)))):=fun V hV =>
       aI.out _ (.inr (setRow_heap _ _ _ _ _ _ (qb p2 hV))) (QL (B2.trans (Below.mono hV zO)) aP fK _) (fun q hq aN=>(setRow_other _ _ _ _ aN).trans ((Below.block hV q zO).trans (k2 q aN)))
      replace ag:=zH ag;replace dP:=zH dP;have hle3:(i:Int)+(m:Int)<=(j:Int):=zO;have htn:tot=n:=by have:=uM.out;have:=hnr.out;omega
      replace hr:=zH hr;replace htn:=zH htn;replace hjm:=zH hjm;replace hm1:=zH hm1;clear aI fG hgd2 lg nN dK bz fH bV hvs hvt bD bI hji htm hj hnm s2 p2;go_upto_region 18 with (simp only[eY])
      refine qm zQ ?_;refine qL (w:=w2) qk (qD []) (List.replicate 9 true) 1 zQ zQ zQ zQ zQ zQ zQ ?st (Rel.drew _ _) ?walk
      case st=>exact qj (fun _ h=>by cases h)
      case walk =>
       intro K hK;dsimp only[qp,List.replicate];repeat ((first|(refine qd ?_ zA0 zA0 (fun W hW _=>⟨W,?_,Rel.refl _ W⟩) ?_;rotate_left;(go_simp<;>with_reducible rfl))|(refine qh zA0 ?_));try simp only[Act.put,ql,qf,qc,qg,zA,zB,zC])
       refine qd (.slice (some ⟨g,(i+m)*5,none⟩) (tot-(i+m)) (cap-(i+m))) zA0 zA0 (fun W hW _=>⟨W,?_,Rel.refl _ W⟩) ?_
       ·go_simp;rw[aA.out,Int.toNat_natCast,if_pos zO,if_neg zO]
       simp only[Act.put,qf,qc,qg,zA,zB,zC];repeat ((first|(refine qd ?_ zA0 zA0 (fun W hW _=>⟨W,?_,Rel.refl _ W⟩) ?_;rotate_left;(go_simp<;>with_reducible rfl))|(refine qh zA0 ?_));try simp only[Act.put,ql,qf,qc,qg,zA,zB,zC])
       refine qd (.slice (some ⟨g,j*5,none⟩) r (cap-j)) zA0 zA0 (fun W hW _=>⟨W,?_,Rel.refl _ W⟩) ?_
       ·go_simp;rw[hr.out,if_pos zO]
       simp only[Act.put,qf,qc,qg,zA,zB,zC];repeat ((first|(refine qd ?_ zA0 zA0 (fun W hW _=>⟨W,?_,Rel.refl _ W⟩) ?_;rotate_left;(go_simp<;>with_reducible rfl))|(refine qh zA0 ?_));try simp only[Act.put,ql,qf,qc,qg,zA,zB,zC])
       refine qt (hK _ _ fun V hV hF=>?_);clear hF hK;have hV:Ext w2 V:=hV;refine zC3 ?_;have az:=dP.out V hV;have ui:=zH (ag.out V hV);clear dP ag;generalize World.setRow V _ _=wf at *;have hclr:∀ A c ty,(Builtin.clear_ #[47] ty #[.slice A (n-tot) c]).run prog wf=.ok (.tuple #[]) wf:=fun A c ty=>by rw[show n-tot=0 by rw[htn.out];omega];exact Xe A c wf ty
       have htn2:tot<=n:=by rw[htn.out];omega
       by_cases hqt:cap=tot
       ·subst hqt;go_wp2_with (simp only[az]);refine Qm ?_;go_wp2_with (first|simp only[hclr]|simp only[Xe]);go_ret;have:=ui.out;simp only[List.append_assoc] at this ⊢;exact this
       ·go_wp2_with (simp only[az]);refine Qm ?_;go_wp2_with (first|simp only[hclr]|simp only[Xe]);go_ret;have:=ui.out;simp only[List.append_assoc] at this ⊢;exact this
     ·have iL:2<=m:=zO;have hov:∀ la ca lb cb,(callFunc 148 #[.slice (some ⟨g,(i+m)*5,none⟩) lb cb,.slice (some ⟨vg,0,none⟩) la ca]).run prog W=.ok (.value (.bool false)) W:=fun la ca lb cb=>XV W vg 0 la ca g lb cb yO cur (hWv.trans hvg) (hWg.trans hg) (fun e=>hCB e.symm) zO _;have eY:∀ V:World,Ext W V->∀ ty dc sc,(Builtin.copy_ #[47,47] ty #[.slice (some ⟨g,(i+m)*5,none⟩) (tot-(i+m)) dc,.slice (some ⟨g,j*5,none⟩) r sc]).run prog V=.ok (.int .i64 ((r:Nat):Int)) (V.setRow g (spl cur (i+m) (xs.drop (j*5)))):=fun V hV ty dc sc =>
       jD (k:=r) (o:=i+m) (qb (hWg.trans hg) hV) dK mF underlying47 hsz zA9 (fG V ((Below.block hV g zO).trans hWg)) h1d
      have s1:=QE (cur:=cur) (o:=i+m) dK mF;have dP:∀ V:World,Ext W V->∀ ty dc,(Builtin.copy_ #[47,47] ty #[.slice (some ⟨g,i*5,none⟩) (tot-i) dc,.slice (some ⟨vg,0,none⟩) m nD]).run prog (V.setRow g (spl cur (i+m) (xs.drop (j*5))))=.ok (.int .i64 (m:Nat)) ((V.setRow g (spl cur (i+m) (xs.drop (j*5)))).setRow g (spl (spl cur (i+m) (xs.drop (j*5))) i vs)):=fun V hV ty dc =>
       jD (k:=m) (o:=i) (setRow_heap _ _ _ _ _ _ (qb (hWg.trans hg) hV)) bz (by rw[s1];exact iY) underlying47 hsz zA9 (lg _ ((setRow_other _ _ _ _ hCB).trans ((Below.block hV vg zO).trans hWv))) xR
      have ag:∀ V:World,Ext W V->VG lo (.slice (some ⟨g,0,none⟩) n cap) tot (xs.take (i*5)++vs++xs.drop (j*5)) w (.returned (.slice (some ⟨g,0,none⟩) tot cap)) ((V.setRow g (spl cur (i+m) (xs.drop (j*5)))).setRow g (spl (spl cur (i+m) (xs.drop (j*5))) i vs)):=fun V hV =>
       aI.out _ (.inl (setRow_heap _ _ _ _ _ _ (setRow_heap _ _ _ _ _ _ (qb (hWg.trans hg) hV)))) (QL (QL (Below.mono (hW.trans hV) aP) aP fK _) aP fK _) (fun q hq aN=>(setRow_other _ _ _ _ aN).trans ((setRow_other _ _ _ _ aN).trans (Below.block hV q hq)))
      replace ag:=zH ag;replace eY:=zH eY;replace dP:=zH dP;have su:¬(i+m<=j):=by have:=uM.out;omega
      have hle3:¬((i:Int)+(m:Int)<=(j:Int)):=by have:=uM.out;omega
      replace hr:=zH hr;clear aI fG lg nN dK bz fH bV hvs hvt bD bI hji htm hj hnm s1 hm1 iL;go_upto_region 22 with (simp only[hov])
      refine qm zQ ?_;refine qL (w:=W) qk (qD []) (List.replicate 9 true) 1 zQ zQ zQ zQ zQ zQ zQ ?st (Rel.drew _ _) ?walk
      case st=>exact qj (fun _ h=>by cases h)
      case walk =>
       intro K hK;dsimp only[qp,List.replicate];repeat ((first|(refine qd ?_ zA0 zA0 (fun W hW _=>⟨W,?_,Rel.refl _ W⟩) ?_;rotate_left;(go_simp<;>with_reducible rfl))|(refine qh zA0 ?_));try simp only[Act.put,ql,qf,qc,qg,zA,zB,zC])
       refine qd (.slice (some ⟨g,(i+m)*5,none⟩) (tot-(i+m)) (cap-(i+m))) zA0 zA0 (fun W hW _=>⟨W,?_,Rel.refl _ W⟩) ?_
       ·go_simp;rw[aA.out,Int.toNat_natCast,if_pos zO,if_neg zO]
       simp only[Act.put,qf,qc,qg,zA,zB,zC];repeat ((first|(refine qd ?_ zA0 zA0 (fun W hW _=>⟨W,?_,Rel.refl _ W⟩) ?_;rotate_left;(go_simp<;>with_reducible rfl))|(refine qh zA0 ?_));try simp only[Act.put,ql,qf,qc,qg,zA,zB,zC])
       refine qd (.slice (some ⟨g,j*5,none⟩) r (cap-j)) zA0 zA0 (fun W hW _=>⟨W,?_,Rel.refl _ W⟩) ?_
       ·go_simp;rw[hr.out,if_pos zO]
       simp only[Act.put,qf,qc,qg,zA,zB,zC];repeat ((first|(refine qd ?_ zA0 zA0 (fun W hW _=>⟨W,?_,Rel.refl _ W⟩) ?_;rotate_left;(go_simp<;>with_reducible rfl))|(refine qh zA0 ?_));try simp only[Act.put,ql,qf,qc,qg,zA,zB,zC])
       refine qt (hK _ _ fun V hV hF=>?_);clear hF hK;have hV:Ext W V:=hV;refine zC3 ?_;have dV:=eY.out V hV;have az:=dP.out V hV;have ui:=zH (ag.out V hV);clear eY dP ag hov;generalize World.setRow (World.setRow V _ _) _ _=wf at *;generalize World.setRow V _ _=wm at *;go_wp2_with (simp only[dV]);refine Qm ?_;go_wp2_with (simp only[az]);go_ret;exact ui.out
end Go.Proofs.YtpbniokljofedaaGreat
