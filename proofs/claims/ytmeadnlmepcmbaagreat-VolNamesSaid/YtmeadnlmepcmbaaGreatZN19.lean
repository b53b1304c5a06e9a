/- Lemmas of the proof. -/
import Derived.Test.YtmeadnlmepcmbaaGreatZN18
set_option linter.all false
set_option maxHeartbeats 8000000
open Go.Proofs.Tryz
namespace Go.Proofs.YtmeadnlmepcmbaaGreat
open Go.RowKit
theorem spl_two {cur:Array Value} {i m r:Nat} {A vs ys:List Value} (hA:cur.toList.take (i*5)=A) (hv:vs.length=m*5) (hy:ys.length=r*5) (h:(i+m+r)*5<=cur.size) : (spl (spl cur (i+m) ys) i vs).toList.take ((i+m+r)*5)=A++vs++ys:=by
 have e1:(spl cur (i+m) ys).toList=cur.toList.take ((i+m)*5)++ys++cur.toList.drop ((i+m)*5+ys.length):=by unfold spl;rw[List.toList_toArray]
 have hl1:(cur.toList.take ((i+m)*5)).length=(i+m)*5:=by rw[List.length_take,Array.length_toList];omega
 have e2:(spl cur (i+m) ys).toList.take (i*5)=A:=by rw[e1,List.append_assoc,List.take_append_of_le_length zO,List.take_take,Nat.min_eq_left zO,hA]
 have e3:(spl cur (i+m) ys).toList.drop (i*5+vs.length)=ys++cur.toList.drop ((i+m)*5+ys.length):=by rw[e1,List.append_assoc];have:i*5+vs.length=(cur.toList.take ((i+m)*5)).length:=zO;rw[this];exact List.drop_left
 generalize hY:spl cur (i+m) ys=Y at *;unfold spl;rw[List.toList_toArray,e2,e3,<-List.append_assoc];have ht:A.length=i*5:=by rw[<-hA,List.length_take,Array.length_toList];omega
 have:(i+m+r)*5=(A++vs++ys).length:=by simp only[List.length_append];omega
 rw[this];exact List.take_left
theorem TA (A c) (W:World) (ty:TypeId):(Builtin.clear_ #[55] ty #[.slice A 0 c]).run prog W=.ok (.tuple #[]) W:=by rcases A with _|a <;> simp[Builtin.clear_,run_underlying underlying55]
set_option maxRecDepth 100000 in
theorem qgQ (lo:Nat) (s:Value) (n i many:Nat) (xs:List Value) (v:Value) (m lov:Nat) (vs:List Value) (w:World) (ho:w.ownsRow lo 51 5 s n xs) (hv:w.ownsRow lov 51 5 v m vs) (hsv:∀ q,v.ownBlock=some q->s.ownBlock≠some q) (hm:0<m) (hnm:n+m<=100) (xFM:many=0\/many=1) (hj:i+many<=n) (h1x:∀ u∈xs,u.oneCell'=true) (h1v:∀ u∈vs,u.oneCell'=true) (hlo:lo<=w.heap.size):Calls prog 119 #[s,.int .i64 (i:Int),.int .i64 ((i+many:Nat):Int),v] w (YQ lo s (n-many+m) (xs.take (i*5)++vs++xs.drop ((i+many)*5)) w):=by
 rcases xFM with rfl|rfl
 ·have HI:=zH (qhN lo s n i xs v m lov vs w ho hv hsv hm hnm zO h1x h1v hlo);simp only[Nat.add_zero,Nat.sub_zero];have hin:i<=n:=zO;obtain⟨Av,cv,rfl,-,-⟩:=qB hv;rcases ho.2 with ⟨rfl,rfl⟩|⟨g,c,cur,rfl,-,-,hc1,-,-,-⟩
  ·obtain rfl:i=0:=zO;clear ho hv hsv h1x h1v;go_enter func119,ntmps119;go_wp2_with fail;refine HI.out.mono ?_;rintro e W ⟨v',rfl,h1,h2,h3⟩;have hF:=zH (show YQ lo (.slice none 0 0) (0+m) (xs.take (0*5)++vs++xs.drop (0*5)) w (.returned v') W from ⟨v',rfl,h1,h2,h3⟩);clear h1 h2 h3 HI;go_wp2_with fail;go_ret;exact hF.out
  ·clear ho hv hsv h1x h1v;go_enter func119,ntmps119;by_cases hci:c=i
   ·have wZS:c-i=0:=zO;go_upto_region 2 with fail;clear hc1 hci wZS hin;go_upto_region 3 with fail;go_wp2_with fail;refine HI.out.mono ?_;rintro e W ⟨v',rfl,h1,h2,h3⟩;have hF:=zH (show YQ lo (.slice (some ⟨g,0,none⟩) n c) (n+m) (xs.take (i*5)++vs++xs.drop (i*5)) w (.returned v') W from ⟨v',rfl,h1,h2,h3⟩);clear h1 h2 h3 HI;go_wp2_with fail;go_ret;exact hF.out
   ·have hci3:¬(c<=i):=zO;have hii:(i:Int)<=(i:Int):=Int.le_refl _;go_upto_region 2 with fail;clear hc1 hci hci3 hii hin;go_upto_region 3 with fail;go_wp2_with fail;refine HI.out.mono ?_;rintro e W ⟨v',rfl,h1,h2,h3⟩;have hF:=zH (show YQ lo (.slice (some ⟨g,0,none⟩) n c) (n+m) (xs.take (i*5)++vs++xs.drop (i*5)) w (.returned v') W from ⟨v',rfl,h1,h2,h3⟩);clear h1 h2 h3 HI;go_wp2_with fail;go_ret;exact hF.out
 ·obtain⟨i0,hi0,hz0,hz1,hz2⟩:=info_parts Tryz.info_item;have hvl:=hv.1;have hxl:=ho.1;obtain⟨vg,vcap,vcur,rfl,hvlo,hvg,hvc,hvm,hvs,hvt⟩:∃ g cap cur,v=.slice (some ⟨g,0,none⟩) m cap/\lov<=g/\w.heap[g]?=some (.cells cur 51 (0,0))/\m<=cap/\cap<=maxLen/\cur.size=cap*5/\cur.toList.take (m*5)=vs:=by
   rcases hv.2 with ⟨_,h0⟩|h
   ·omega
   ·exact h
  obtain⟨g,cap,cur,rfl,wBU,hg,hnc,hcm,hcs,hct⟩:∃ g cap cur,s=.slice (some ⟨g,0,none⟩) n cap/\lo<=g/\w.heap[g]?=some (.cells cur 51 (0,0))/\n<=cap/\cap<=maxLen/\cur.size=cap*5/\cur.toList.take (n*5)=xs:=by
   rcases ho.2 with ⟨_,h0⟩|h
   ·omega
   ·exact h
  have hXE:=qfq hv;have hrv:Rd w w.heap.size 5 (some ⟨vg,0,none⟩) m vs:=Rd.of_own hv;have wTV:vg≠g:=fun e=>hsv vg rfl (by rw[e];rfl);have hgl:=(zG.1 hg).1;have wWV:=(zG.1 hvg).1;have htk:(xs.take (i*5)).length=i*5:=by rw[List.length_take];omega
  have hop:w.ownsRow lo 51 5 (.slice (some ⟨g,0,none⟩) i cap) i (xs.take (i*5)):=⟨htk,.inr ⟨g,cap,cur,rfl,wBU,hg,zO,hcm,hcs,by rw[<-hct,List.take_take,Nat.min_eq_left zO]⟩⟩
  have hsz:(Tryz.prog.info? 51).map (·.size)=some 5:=by rw[hi0];simp[hz1]
  obtain⟨j,hjE⟩:∃ j,j=i+1:=⟨_,rfl⟩
  rw[<-hjE] at hj ⊢;have hij:((i:Int) == (j:Int))=false:=by rw[beq_eq_false_iff_ne];omega
  have hci:¬(cap=i):=zO;have hji:j-i=1:=zO;have hb1:(i:Int)<=(j:Int):=zO;have hb2:(j:Int)<=(cap:Int):=zO;have hb3:(0:Int)<=(i:Int):=zO;have hb4:i<=cap:=zO;replace hcm:=zH hcm;replace hvm:=zH hvm;replace hjE:=zH hjE;replace h1x:=zH h1x;clear hsv ho hv;by_cases hjn:j=n
  ·have hd0:xs.drop (j*5)=[]:=List.drop_eq_nil_of_le zO;rw[hd0,List.append_nil,show n-1+m=i+m by have:=hjE.out;omega];have e1:((j:Int) == (n:Int))=true:=by rw[beq_iff_eq];omega
   have hin:i<n:=by have:=hjE.out;omega
   have e3:decide ((i:Int)+(m:Int)<(n:Int))=false:=decide_eq_false (by have:=hjE.out;omega);have hCI:∀ (v':Value) (W:World),W.ownsRow lo 51 5 v' (i+m) (xs.take (i*5)++vs)->w.grownBy W (Value.slice (some ⟨g,0,none⟩) i cap).ownBlock->Below lo w W->YQ lo (.slice (some ⟨g,0,none⟩) n cap) (i+m) (xs.take (i*5)++vs) w (.returned v') W:=fun v' W h1 h2 h3=>⟨v',rfl,h1,h3,fun q hq hn=>h2.block q hq fun e=>hn e.symm⟩
   replace hCI:=zH hCI;clear hjn hd0 hg hvg hct hvt hXE htk hcs hvs hvl hxl hnc hvc;go_enter func119,ntmps119;go_upto_region 2 with fail;clear hb1 hb2 hci hji;go_wp2_with (at_builtin;refine Qg ?_);refine QI.go (QF _ rfl (.tmp 32) (.tmp 33) 55 rfl lo 51 i0 _ 5 48 underlying55 hi0 hz0 hz1 hz2 rfl zD (.slice (some ⟨g,0,none⟩) i cap) i (xs.take (i*5)) rfl hop w.heap.size _ m vcap vs zE hrv h1v zO zD hlo ?_);intro v' W h1 h2 h3 _;have hF:=zH (hCI.out v' W h1 h2 h3);obtain⟨A7,c7,rfl,-,-⟩:=qB h1;clear hCI h1 h2 hop hrv;go_wp2_with fail;go_ret;exact hF.out
  ·have hjl:j<n:=zO;have f1:((j:Int) == (n:Int))=false:=by rw[beq_eq_false_iff_ne];omega
   obtain⟨r,hr⟩:∃ r,n-j=r:=⟨_,rfl⟩
   have hnr:n=j+r:=zO;have hdl:(xs.drop (j*5)).length=r*5:=by rw[List.length_drop];omega
   have h1d:∀ u∈xs.drop (j*5),u.oneCell'=true:=fun u hu=>h1x.out u (List.mem_of_mem_drop hu);have hA:cur.toList.take (i*5)=xs.take (i*5):=by rw[<-hct,List.take_take,Nat.min_eq_left zO]
   obtain⟨tot,wIM⟩:∃ tot,tot=i+m+r:=⟨_,rfl⟩
   have hgd:∀ W:World,W.heap[g]?=w.heap[g]?->∀ q u,(xs.drop (j*5))[q]?=some u->W.cell? ((⟨g,j*5,none⟩:Addr).add q)=some u:=fun W hW q u hu=>by
    rw[Addr.add_lit,qa (hW.trans hg),<-Array.getElem?_toList];rw[List.getElem?_drop,<-hct,List.getElem?_take] at hu;split at hu
    ·exact hu
    ·cases hu
   have hvd:∀ W:World,W.heap[vg]?=w.heap[vg]?->∀ q u,vs[q]?=some u->W.cell? ((⟨vg,0,none⟩:Addr).add q)=some u:=fun W hW q u hu=>by rw[World.cell?_of_block (w:=w) (by rw[Addr.add_lit];exact hW)];exact hXE q u hu
   have htb:tot<=200:=zO;have xBD:n-1+m=tot:=by have:=hjE.out;omega
   rw[xBD];have hyl:(xs.take (i*5)++vs++xs.drop (j*5)).length=tot*5:=by simp only[List.length_append,htk,hvl,hdl];omega
   have hw1:=zH (show IntKind.i64.wrap ((i:Int)+(m:Int))=((i+m:Nat):Int) by rw[IntKind.wrap_i64];omega);have hw2:=zH (show IntKind.i64.wrap (((i+m:Nat):Int)+(r:Int))=((tot:Nat):Int) by rw[IntKind.wrap_i64];omega);clear hop hrv hXE;replace hyl:=zH hyl;replace wIM:=zH wIM;replace hnr:=zH hnr;replace xBD:=zH xBD;go_enter func119,ntmps119;go_upto_region 2 with fail;go_upto_region 9 with fail;refine qp zQ ?_;refine Qa (w:=w) qm (qM []) (List.replicate 13 true) 0 zQ zQ zQ zQ zQ zQ zQ ?st (Rel.drew _ _) ?walk
   case st=>exact qj (fun _ h=>by cases h)
   case walk =>
    intro K hK;dsimp only[qw,List.replicate];refine zB5 ?_;refine qA (hK _ _ fun W hW hF=>?_);clear hF hK;have hW:Ext w W:=hW;refine zB7 ?_;go_wp2;refine Qw ?_;rw[hw1.out,hw2.out];have hWg:=(Below.block hW g hgl)
    have hWv:=(Below.block hW vg wWV)
    have hWz:=hW.size;have hA2:=zH hA;clear hA hct;by_cases hcap:cap<tot
    ·obtain⟨k,hk⟩:∃ k,k=tot-i:=⟨_,rfl⟩
     have hkm:k=m+r:=by have:=wIM.out;omega
     have hkt:i+k=tot:=by have:=wIM.out;omega
     have hki:(tot:Int)-(i:Int)=((k:Nat):Int):=zO;obtain⟨C,hC⟩:∃ C,C=grownCap W (i+k) cap 51:=⟨_,rfl⟩
     have hCge:i+k<=C:=by rw[hC];exact grownCap_ge W (i+k) cap _
     have hCm:C<=maxLen:=by rw[hC];exact grownCap_le_maxLen W (i+k) cap _ zA6
     obtain⟨cur0,hUU⟩:∃ cur0:Array Value,cur0=(xs.take (i*5)).toArray++Builtin.zeroCells (Value.agg #[.int .u8 0,.int .u32 0,.int .u32 0,.int .i64 0,.slice none 0 0]).cells k++Builtin.zeroCells (Value.agg #[.int .u8 0,.int .u32 0,.int .u32 0,.int .i64 0,.slice none 0 0]).cells (C-(i+k)):=⟨_,rfl⟩
     have hGG:∀ ty (z:Int),z=(k:Int)->(Builtin.append_ #[55,3] ty #[.slice (some ⟨g,0,none⟩) i cap,.int .i64 z]).run prog W=.ok (.slice (some ⟨W.heap.size,0,none⟩) (i+k) C) (W.drew.alloc (.cells cur0 51)):=fun ty z hz=>by
      rw[hz,hC,hUU,hC];exact Lib.run_append_grow_zeros (P:=prog) W 55 3 ty 51 i0 _ .i64 .i64 underlying55 underlying3 hi0 hz0 (some ⟨g,0,none⟩) i cap (xs.take (i*5)) (by
       rw[hz1];exact run_firstCells_some W.drew 5 i ⟨g,0,none⟩ i cap (xs.take (i*5)) (by rw[List.length_take];omega) (fun q u hu=>by
        rw[Addr.add_lit,Nat.zero_add];show W.cell? _=_;rw[qa (hWg.trans hg),<-Array.getElem?_toList];rw[<-hA2.out,List.getElem?_take] at hu;split at hu
        ·exact hu
        ·cases hu)) k zO zO zO zO (by rw[hz2];omega) (by rw[hz2];exact growslice_fits zO zO)
     have hc0:cur0.size=C*5:=by rw[hUU];simp only[Array.size_append,List.size_toArray,size_zeroCells,List.length_take];simp only[Value.cells,List.size_toArray,List.length_cons,List.length_nil];omega
     have wMP:cur0.toList.take (i*5)=xs.take (i*5):=by rw[hUU];simp only[Array.toList_append,List.append_assoc];have:i*5=(xs.take (i*5)).length:=zO;rw[this];simp
     clear hUU hC hki;rw[hkt] at hCge hGG;have htm:=wIM.out;have hCI:∀ V:World,V.heap[W.heap.size]?=some (.cells (spl (spl cur0 i vs) (i+m) (xs.drop (j*5))) 51 (0,0))->Below lo w V->(∀ q,q<W.heap.size->V.heap[q]?=W.heap[q]?)->YQ lo (.slice (some ⟨g,0,none⟩) n cap) tot (xs.take (i*5)++vs++xs.drop (j*5)) w (.returned (.slice (some ⟨W.heap.size,0,none⟩) tot C)) V:=fun V h1 h2 h3=>by
      refine⟨_,rfl,RowI.own ⟨_,h1,?_,?_⟩ hyl.out zO zO hCm,h2,fun q hq _=>(h3 q zO).trans (Below.block hW q hq)⟩
      ·rw[zh (k:=r) hdl (by rw[zh hvl zO];omega),zh hvl zO,hc0]
      ·have e1:=XL wMP hvl zO;have e2:=XL e1 hdl (by rw[zh hvl zO];omega);rw[<-e2,htm]
     have hCi:¬(C=i):=zO;have hCim:¬(C=i+m):=zO;replace hCI:=zH hCI;replace wMP:=zH wMP;replace hCm:=zH hCm;replace hk:=zH hk;replace hkt:=zH hkt;have hti:i<=tot:=zO;have hti2:(i:Int)<=(tot:Int):=zO;have htim:i+m<=tot:=zO;clear hb1 hb2 hji hb3 hkm htm hj hnm;have hci3:(i:Int)<=(cap:Int):=zO;have hXQ:(i+m)*5<=cur0.size:=by rw[hc0];omega
     have wBO:(i+m+r)*5<=cur0.size:=by rw[hc0];have:=wIM.out;omega
     replace hXQ:=zH hXQ;replace wBO:=zH wBO;replace hvl:=zH hvl;replace hr:=zH hr;replace hcap:=zH hcap;replace hdl:=zH hdl;replace htk:=trivial;clear hxl hcs hvs hvt hc0;go_wp2_with (at_builtin;refine Qg ?_);refine QI.go (Lib.wpList_append_run _ rfl _ _ _ _ rfl _ _ zE zE _ _ (hGG _ _ ?hz) ?nx)
     case hz =>have h1:=hk.out;omega
     clear hGG;generalize hOT:World.alloc _ _=w1;have p1:w1.heap[W.heap.size]?=some (.cells cur0 51 (0,0)):=by rw[<-hOT];exact zI _ _ _ rfl
     have k1:∀ q,q<W.heap.size->w1.heap[q]?=W.heap[q]?:=fun q hq=>by rw[<-hOT];exact zK _ _ _ hq
     have z1:W.heap.size<=w1.heap.size:=by rw[<-hOT];simp
     have B1:Below lo w w1:=by rw[<-hOT];exact Below.mono (hW.trans ((Ext.drew W).trans (zN _ _))) hlo
     clear hOT;have hRD:∀ ty,(Builtin.copy_ #[55,55] ty #[.slice (some ⟨W.heap.size,i*5,none⟩) (tot-i) (C-i),.slice (some ⟨vg,0,none⟩) m vcap]).run prog w1=.ok (.int .i64 (m:Nat)) (w1.setRow W.heap.size (spl cur0 i vs)):=fun ty =>
      Jy (k:=m) (o:=i) p1 hvl.out hXQ.out underlying55 hsz (by simp only[Nat.min_def];have:=wIM.out;split <;> omega) (hvd w1 ((k1 _ zO).trans hWv)) h1v
     obtain⟨w2,hTK⟩:∃ w2,w2=w1.setRow W.heap.size (spl cur0 i vs):=⟨_,rfl⟩
     rw[<-hTK] at hRD;have p2:w2.heap[W.heap.size]?=some (.cells (spl cur0 i vs) 51 (0,0)):=by rw[hTK];exact setRow_heap _ _ _ _ _ _ p1
     have k2:∀ q,q<W.heap.size->w2.heap[q]?=W.heap[q]?:=fun q hq=>by rw[hTK];exact(setRow_other _ _ _ _ zO).trans (k1 q hq)
     have z2:W.heap.size<=w2.heap.size:=by rw[hTK];simpa using z1
     have B2:Below lo w w2:=by rw[hTK];exact Zj B1 hlo zO _
     have s2:=zh (cur:=cur0) (o:=i) hvl.out hXQ.out;clear hTK p1 k1 z1;have hOL:∀ V:World,Ext w2 V->∀ ty,(Builtin.copy_ #[55,55] ty #[.slice (some ⟨W.heap.size,(i+m)*5,none⟩) (tot-(i+m)) (C-(i+m)),.slice (some ⟨g,j*5,none⟩) r (cap-j)]).run prog V=.ok (.int .i64 ((r:Nat):Int)) (V.setRow W.heap.size (spl (spl cur0 i vs) (i+m) (xs.drop (j*5)))):=fun V hV ty =>
      Jy (k:=r) (o:=i+m) (qb p2 hV) hdl.out (by rw[s2];exact wBO.out) underlying55 hsz (by simp only[Nat.min_def];have:=wIM.out;split <;> omega) (hgd V ((Below.block hV g zO).trans ((k2 _ zO).trans hWg))) h1d
     have hLR:∀ V:World,Ext w2 V->YQ lo (.slice (some ⟨g,0,none⟩) n cap) tot (xs.take (i*5)++vs++xs.drop (j*5)) w (.returned (.slice (some ⟨W.heap.size,0,none⟩) tot C)) (V.setRow W.heap.size (spl (spl cur0 i vs) (i+m) (xs.drop (j*5)))):=fun V hV =>
      hCI.out _ (setRow_heap _ _ _ _ _ _ (qb p2 hV)) (Zj (B2.trans (Below.mono hV zO)) hlo zO _) (fun q hq=>(setRow_other _ _ _ _ zO).trans ((Below.block hV q zO).trans (k2 q hq)))
     replace hLR:=zH hLR;replace hOL:=zH hOL;replace s2:=trivial;clear hCI hgd hvd;go_upto_region 13 with (simp only[hRD])
     refine qp zQ ?_;refine Qa (w:=w2) qm (qM []) (List.replicate 9 true) 1 zQ zQ zQ zQ zQ zQ zQ ?st (Rel.drew _ _) ?walk
     case st=>exact qj (fun _ h=>by cases h)
     case walk =>
      intro K hK;dsimp only[qw,List.replicate];refine zB5 ?_;refine qe (.slice (some ⟨W.heap.size,(i+m)*5,none⟩) (tot-(i+m)) (C-(i+m))) zA0 zA0 (fun W hW _=>⟨W,?_,Rel.refl _ W⟩) ?_
      ·go_simp;rw[hw1.out,Int.toNat_natCast,if_pos zO,if_neg zO]
      refine zB5 ?_;refine qe (.slice (some ⟨g,j*5,none⟩) r (cap-j)) zA0 zA0 (fun W hW _=>⟨W,?_,Rel.refl _ W⟩) ?_
      ·go_simp;rw[hr.out,if_pos zO]
      refine zB5 ?_;refine qA (hK _ _ fun V hV hF=>?_);clear hF hK;have hV:Ext w2 V:=hV;refine zB7 ?_;have hc2:=hOL.out V hV;go_wp2_with (simp only[hc2]);refine Qw ?_;go_wp2_with fail;go_ret;exact hLR.out V hV
    ·have htm:=wIM.out;have hXQ:(i+m)*5<=cur.size:=by rw[hcs];omega
     have wBO:(i+m+r)*5<=cur.size:=by rw[hcs];omega
     have hti:i<=tot:=zO;have htim:i+m<=tot:=zO;have htlt:i+m<tot:=by have:=hnr.out;omega
     have hct':tot<=cap:=zO;have hcim:¬(cap=i+m):=zO;have hCI:∀ V:World,V.heap[g]?=some (.cells (spl (spl cur (i+m) (xs.drop (j*5))) i vs) 51 (0,0))\/V.heap[g]?=some (.cells (spl (spl cur i vs) (i+m) (xs.drop (j*5))) 51 (0,0))->Below lo w V->(∀ q,q<W.heap.size->q≠g->V.heap[q]?=W.heap[q]?)->YQ lo (.slice (some ⟨g,0,none⟩) n cap) tot (xs.take (i*5)++vs++xs.drop (j*5)) w (.returned (.slice (some ⟨g,0,none⟩) tot cap)) V:=fun V h1 h2 h3=>by
      refine⟨_,rfl,?_,h2,fun q hq hn=>(h3 q zO (fun e=>hn (by rw[e];rfl))).trans (Below.block hW q hq)⟩;rcases h1 with h1|h1
      ·refine RowI.own ⟨_,h1,?_,?_⟩ hyl.out wBU hct' hcm.out
       ·rw[zh hvl (by rw[zh hdl zO];omega),zh hdl zO,hcs]
       ·have:=spl_two (r:=r) hA2.out hvl hdl zO;rw[<-htm] at this;exact this
      ·refine RowI.own ⟨_,h1,?_,?_⟩ hyl.out wBU hct' hcm.out
       ·rw[zh hdl (by rw[zh hvl zO];omega),zh hvl zO,hcs]
       ·have e1:=XL hA2.out hvl zO;have e2:=XL e1 hdl (by rw[zh hvl zO];omega);rw[<-e2,htm]
     replace hCI:=zH hCI;by_cases hm1:m=1
     ·have hjm:j=i+m:=by have:=hjE.out;omega
      have hgd2:∀ V:World,V.heap[g]?=some (.cells (spl cur i vs) 51 (0,0))->∀ q u,(xs.drop (j*5))[q]?=some u->V.cell? ((⟨g,j*5,none⟩:Addr).add q)=some u:=fun V hV q u hu=>by
       have h1:=hgd W hWg q u hu;rw[Addr.add_lit,qa (hWg.trans hg),<-Array.getElem?_toList] at h1;rw[Addr.add_lit,qa hV,<-Array.getElem?_toList];have e:(spl cur i vs).toList=(cur.toList.take (i*5)++vs)++cur.toList.drop (i*5+vs.length):=by unfold spl;rw[List.toList_toArray]
       have hl:(cur.toList.take (i*5)++vs).length=(i+m)*5:=by rw[List.length_append,List.length_take,Array.length_toList];omega
       rw[e,List.getElem?_append_right (by rw[hl,hjm];omega),hl,List.getElem?_drop];rw[<-h1];congr 1;omega
      have hRD:∀ ty,(Builtin.copy_ #[55,55] ty #[.slice (some ⟨g,i*5,none⟩) (tot-i) (cap-i),.slice (some ⟨vg,0,none⟩) m vcap]).run prog W=.ok (.int .i64 (m:Nat)) (W.setRow g (spl cur i vs)):=fun ty =>
       Jy (k:=m) (o:=i) (hWg.trans hg) hvl hXQ underlying55 hsz zA8 (hvd W hWv) h1v
      obtain⟨w2,hTK⟩:∃ w2,w2=W.setRow g (spl cur i vs):=⟨_,rfl⟩
      rw[<-hTK] at hRD;have p2:w2.heap[g]?=some (.cells (spl cur i vs) 51 (0,0)):=by rw[hTK];exact setRow_heap _ _ _ _ _ _ (hWg.trans hg)
      have k2:∀ q,q≠g->w2.heap[q]?=W.heap[q]?:=fun q hq=>by rw[hTK];exact setRow_other _ _ _ _ hq
      have z2:w2.heap.size=W.heap.size:=by rw[hTK];simp
      have B2:Below lo w w2:=by rw[hTK];exact Zj (Below.mono hW hlo) hlo wBU _
      have s2:=zh (cur:=cur) (o:=i) hvl hXQ;clear hTK;have hOL:∀ V:World,Ext w2 V->∀ ty,(Builtin.copy_ #[55,55] ty #[.slice (some ⟨g,(i+m)*5,none⟩) (tot-(i+m)) (cap-(i+m)),.slice (some ⟨g,j*5,none⟩) r (cap-j)]).run prog V=.ok (.int .i64 ((r:Nat):Int)) (V.setRow g (spl (spl cur i vs) (i+m) (xs.drop (j*5)))):=fun V hV ty =>
       Jy (k:=r) (o:=i+m) (qb p2 hV) hdl (by rw[s2];exact wBO) underlying55 hsz zA8 (hgd2 V (qb p2 hV)) h1d
      have hLR:∀ V:World,Ext w2 V->YQ lo (.slice (some ⟨g,0,none⟩) n cap) tot (xs.take (i*5)++vs++xs.drop (j*5)) w (.returned (.slice (some ⟨g,0,none⟩) tot cap)) (V.setRow g (spl (spl cur i vs) (i+m) (xs.drop (j*5)))):=fun V hV =>
       hCI.out _ (.inr (setRow_heap _ _ _ _ _ _ (qb p2 hV))) (Zj (B2.trans (Below.mono hV zO)) hlo wBU _) (fun q hq hne=>(setRow_other _ _ _ _ hne).trans ((Below.block hV q zO).trans (k2 q hne)))
      replace hLR:=zH hLR;replace hOL:=zH hOL;have hle3:(i:Int)+(m:Int)<=(j:Int):=zO;have htn:tot=n:=by have:=hjE.out;have:=hnr.out;omega
      replace hr:=zH hr;replace htn:=zH htn;replace hjm:=zH hjm;replace hm1:=zH hm1;clear hCI hgd hgd2 hvd htk hdl hvl hxl hcs hvs hvt hb1 hb2 hji htm hj hnm s2 p2;go_upto_region 18 with (simp only[hRD])
      refine qp zQ ?_;refine Qa (w:=w2) qm (qM []) (List.replicate 9 true) 1 zQ zQ zQ zQ zQ zQ zQ ?st (Rel.drew _ _) ?walk
      case st=>exact qj (fun _ h=>by cases h)
      case walk =>
       intro K hK;dsimp only[qw,List.replicate];refine zB5 ?_;refine qe (.slice (some ⟨g,(i+m)*5,none⟩) (tot-(i+m)) (cap-(i+m))) zA0 zA0 (fun W hW _=>⟨W,?_,Rel.refl _ W⟩) ?_
       ·go_simp;rw[hw1.out,Int.toNat_natCast,if_pos zO,if_neg zO]
       refine zB5 ?_;refine qe (.slice (some ⟨g,j*5,none⟩) r (cap-j)) zA0 zA0 (fun W hW _=>⟨W,?_,Rel.refl _ W⟩) ?_
       ·go_simp;rw[hr.out,if_pos zO]
       refine zB5 ?_;refine qA (hK _ _ fun V hV hF=>?_);clear hF hK;have hV:Ext w2 V:=hV;refine zB7 ?_;have hc2:=hOL.out V hV;have hfn:=zH (hLR.out V hV);clear hOL hLR;generalize World.setRow V _ _=wf at *;have hclr:∀ A c ty,(Builtin.clear_ #[55] ty #[.slice A (n-tot) c]).run prog wf=.ok (.tuple #[]) wf:=fun A c ty=>by rw[show n-tot=0 by rw[htn.out];omega];exact TA A c wf ty
       have htn2:tot<=n:=by rw[htn.out];omega
       by_cases hqt:cap=tot
       ·subst hqt;go_wp2_with (simp only[hc2]);refine Qw ?_;go_wp2_with (first|simp only[hclr]|simp only[TA]);go_ret;have:=hfn.out;simp only[List.append_assoc] at this ⊢;exact this
       ·go_wp2_with (simp only[hc2]);refine Qw ?_;go_wp2_with (first|simp only[hclr]|simp only[TA]);go_ret;have:=hfn.out;simp only[List.append_assoc] at this ⊢;exact this
     ·have hm2:2<=m:=zO;have hov:∀ la ca lb cb,(callFunc 167 #[.slice (some ⟨g,(i+m)*5,none⟩) lb cb,.slice (some ⟨vg,0,none⟩) la ca]).run prog W=.ok (.value (.bool false)) W:=fun la ca lb cb=>UG W vg 0 la ca g lb cb vcur cur (hWv.trans hvg) (hWg.trans hg) (fun e=>wTV e.symm) zO _;have hRD:∀ V:World,Ext W V->∀ ty dc sc,(Builtin.copy_ #[55,55] ty #[.slice (some ⟨g,(i+m)*5,none⟩) (tot-(i+m)) dc,.slice (some ⟨g,j*5,none⟩) r sc]).run prog V=.ok (.int .i64 ((r:Nat):Int)) (V.setRow g (spl cur (i+m) (xs.drop (j*5)))):=fun V hV ty dc sc =>
       Jy (k:=r) (o:=i+m) (qb (hWg.trans hg) hV) hdl wBO underlying55 hsz zA8 (hgd V ((Below.block hV g zO).trans hWg)) h1d
      have s1:=zh (cur:=cur) (o:=i+m) hdl wBO;have hOL:∀ V:World,Ext W V->∀ ty dc,(Builtin.copy_ #[55,55] ty #[.slice (some ⟨g,i*5,none⟩) (tot-i) dc,.slice (some ⟨vg,0,none⟩) m vcap]).run prog (V.setRow g (spl cur (i+m) (xs.drop (j*5))))=.ok (.int .i64 (m:Nat)) ((V.setRow g (spl cur (i+m) (xs.drop (j*5)))).setRow g (spl (spl cur (i+m) (xs.drop (j*5))) i vs)):=fun V hV ty dc =>
       Jy (k:=m) (o:=i) (setRow_heap _ _ _ _ _ _ (qb (hWg.trans hg) hV)) hvl (by rw[s1];exact hXQ) underlying55 hsz zA8 (hvd _ ((setRow_other _ _ _ _ wTV).trans ((Below.block hV vg zO).trans hWv))) h1v
      have hLR:∀ V:World,Ext W V->YQ lo (.slice (some ⟨g,0,none⟩) n cap) tot (xs.take (i*5)++vs++xs.drop (j*5)) w (.returned (.slice (some ⟨g,0,none⟩) tot cap)) ((V.setRow g (spl cur (i+m) (xs.drop (j*5)))).setRow g (spl (spl cur (i+m) (xs.drop (j*5))) i vs)):=fun V hV =>
       hCI.out _ (.inl (setRow_heap _ _ _ _ _ _ (setRow_heap _ _ _ _ _ _ (qb (hWg.trans hg) hV)))) (Zj (Zj (Below.mono (hW.trans hV) hlo) hlo wBU _) hlo wBU _) (fun q hq hne=>(setRow_other _ _ _ _ hne).trans ((setRow_other _ _ _ _ hne).trans (Below.block hV q hq)))
      replace hLR:=zH hLR;replace hRD:=zH hRD;replace hOL:=zH hOL;have wJR:¬(i+m<=j):=by have:=hjE.out;omega
      have hle3:¬((i:Int)+(m:Int)<=(j:Int)):=by have:=hjE.out;omega
      replace hr:=zH hr;clear hCI hgd hvd htk hdl hvl hxl hcs hvs hvt hb1 hb2 hji htm hj hnm s1 hm1 hm2;go_upto_region 22 with (simp only[hov])
      refine qp zQ ?_;refine Qa (w:=W) qm (qM []) (List.replicate 9 true) 1 zQ zQ zQ zQ zQ zQ zQ ?st (Rel.drew _ _) ?walk
      case st=>exact qj (fun _ h=>by cases h)
      case walk =>
       intro K hK;dsimp only[qw,List.replicate];refine zB5 ?_;refine qe (.slice (some ⟨g,(i+m)*5,none⟩) (tot-(i+m)) (cap-(i+m))) zA0 zA0 (fun W hW _=>⟨W,?_,Rel.refl _ W⟩) ?_
       ·go_simp;rw[hw1.out,Int.toNat_natCast,if_pos zO,if_neg zO]
       refine zB5 ?_;refine qe (.slice (some ⟨g,j*5,none⟩) r (cap-j)) zA0 zA0 (fun W hW _=>⟨W,?_,Rel.refl _ W⟩) ?_
       ·go_simp;rw[hr.out,if_pos zO]
       refine zB5 ?_;refine qA (hK _ _ fun V hV hF=>?_);clear hF hK;have hV:Ext W V:=hV;refine zB7 ?_;have hc1:=hRD.out V hV;have hc2:=hOL.out V hV;have hfn:=zH (hLR.out V hV);clear hRD hOL hLR hov;generalize World.setRow (World.setRow V _ _) _ _=wf at *;generalize World.setRow V _ _=wm at *;go_wp2_with (simp only[hc1]);refine Qw ?_;go_wp2_with (simp only[hc2]);go_ret;exact hfn.out
end Go.Proofs.YtmeadnlmepcmbaaGreat
