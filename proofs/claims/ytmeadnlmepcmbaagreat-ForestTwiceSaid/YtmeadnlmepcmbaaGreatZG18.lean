/- Lemmas of the proof. -/
import Derived.Test.YtmeadnlmepcmbaaGreatZG17
set_option linter.all false
set_option maxHeartbeats 8000000
open Go.Proofs.Tryz
namespace Go.Proofs.YtmeadnlmepcmbaaGreat
open Go.RowKit
theorem spl_two{cur:Array Value}{i m r:Nat}{A vs ys:List Value}(hA:cur.toList.take (i*5)=A)(hv:vs.length=m*5)(hy:ys.length=r*5)(h:(i+m+r)*5<=cur.size):(spl (spl cur (i+m) ys) i vs).toList.take ((i+m+r)*5)=A++vs++ys:=by
 have e1:(spl cur (i+m) ys).toList=cur.toList.take ((i+m)*5)++ys++cur.toList.drop ((i+m)*5+ys.length):=by unfold spl;rw[List.toList_toArray]
 have hl1:(cur.toList.take ((i+m)*5)).length=(i+m)*5:=by rw[List.length_take,Array.length_toList];omega
 have e2:(spl cur (i+m) ys).toList.take (i*5)=A:=by rw[e1,List.append_assoc,List.take_append_of_le_length zO,List.take_take,Nat.min_eq_left zO,hA]
 have e3:(spl cur (i+m) ys).toList.drop (i*5+vs.length)=ys++cur.toList.drop ((i+m)*5+ys.length):=by rw[e1,List.append_assoc];have:i*5+vs.length=(cur.toList.take ((i+m)*5)).length:=zO;rw[this];exact List.drop_left
 generalize hY:spl cur (i+m) ys=Y at*;unfold spl;rw[List.toList_toArray,e2,e3,<-List.append_assoc];have ht:A.length=i*5:=by rw[<-hA,List.length_take,Array.length_toList];omega
 have:(i+m+r)*5=(A++vs++ys).length:=by simp only[List.length_append];omega
 rw[this];exact List.take_left
theorem Ua(A c)(W:World)(ty:TypeId):(Builtin.clear_ #[55] ty #[.slice A 0 c]).run prog W=.ok (.tuple #[]) W:=by rcases A with _|a<;>simp[Builtin.clear_,run_underlying underlying55]
set_option maxRecDepth 100000 in
theorem qaN(lo:Nat)(s:Value)(n i many:Nat)(xs:List Value)(v:Value)(m lov:Nat)(vs:List Value)(w:World)(ho:w.ownsRow lo 51 5 s n xs)(hv:w.ownsRow lov 51 5 v m vs)(hsv:∀q,v.ownBlock=some q->s.ownBlock≠some q)(hm:0<m)(hnm:n+m<=100)(wWS:many=0\/many=1)(hj:i+many<=n)(h1x:∀u∈xs,u.oneCell'=true)(h1v:∀u∈vs,u.oneCell'=true)(hlo:lo<=w.heap.size):Calls prog 119 #[s,.int .i64 (i:Int),.int .i64 ((i+many:Nat):Int),v] w (vL lo s (n-many+m) (xs.take (i*5)++vs++xs.drop ((i+many)*5)) w):=by
 rcases wWS with rfl|rfl
 ·have HI:=zH (qip lo s n i xs v m lov vs w ho hv hsv hm hnm zO h1x h1v hlo);simp only[Nat.add_zero,Nat.sub_zero];have hin:i<=n:=zO;obtain⟨Av,cv,rfl,-,-⟩:=qG hv;rcases ho.2 with⟨rfl,rfl⟩|⟨g,c,cur,rfl,-,-,hc1,-,-,-⟩
  ·obtain rfl:i=0:=zO;clear ho hv hsv h1x h1v;go_enter func119,ntmps119;go_wp2_with fail;refine HI.out.mono ?_;rintro e W ⟨v',rfl,h1,h2,h3⟩;have hF:=zH (show vL lo (.slice none 0 0) (0+m) (xs.take (0*5)++vs++xs.drop (0*5)) w (.returned v') W from⟨v',rfl,h1,h2,h3⟩);clear h1 h2 h3 HI;go_wp2_with fail;go_ret;exact hF.out
  ·clear ho hv hsv h1x h1v;go_enter func119,ntmps119;by_cases hci:c=i
   ·have wQW:c-i=0:=zO;go_upto_region 2 with fail;clear hc1 hci wQW hin;go_upto_region 3 with fail;go_wp2_with fail;refine HI.out.mono ?_;rintro e W ⟨v',rfl,h1,h2,h3⟩;have hF:=zH (show vL lo (.slice (some ⟨g,0,none⟩) n c) (n+m) (xs.take (i*5)++vs++xs.drop (i*5)) w (.returned v') W from⟨v',rfl,h1,h2,h3⟩);clear h1 h2 h3 HI;go_wp2_with fail;go_ret;exact hF.out
   ·have hci3:¬(c<=i):=zO;have hii:(i:Int)<=(i:Int):=Int.le_refl _;go_upto_region 2 with fail;clear hc1 hci hci3 hii hin;go_upto_region 3 with fail;go_wp2_with fail;refine HI.out.mono ?_;rintro e W ⟨v',rfl,h1,h2,h3⟩;have hF:=zH (show vL lo (.slice (some ⟨g,0,none⟩) n c) (n+m) (xs.take (i*5)++vs++xs.drop (i*5)) w (.returned v') W from⟨v',rfl,h1,h2,h3⟩);clear h1 h2 h3 HI;go_wp2_with fail;go_ret;exact hF.out
 ·obtain⟨i0,hi0,hz0,hz1,hz2⟩:=info_parts Tryz.info_item;have hvl:=hv.1;have hxl:=ho.1;obtain⟨vg,vcap,vcur,rfl,wSO,hvg,hvc,hvm,hvs,hvt⟩:∃g cap cur,v=.slice (some ⟨g,0,none⟩) m cap/\lov<=g/\w.heap[g]?=some (.cells cur 51 (0,0))/\m<=cap/\cap<=maxLen/\cur.size=cap*5/\cur.toList.take (m*5)=vs:=by
   rcases hv.2 with⟨_,h0⟩|h
   ·omega
   ·exact h
  obtain⟨g,cap,cur,rfl,hHR,hg,hnc,hcm,hcs,hct⟩:∃g cap cur,s=.slice (some ⟨g,0,none⟩) n cap/\lo<=g/\w.heap[g]?=some (.cells cur 51 (0,0))/\n<=cap/\cap<=maxLen/\cur.size=cap*5/\cur.toList.take (n*5)=xs:=by
   rcases ho.2 with⟨_,h0⟩|h
   ·omega
   ·exact h
  have hKR:=Ux hv;have hrv:Rd w w.heap.size 5 (some ⟨vg,0,none⟩) m vs:=Rd.of_own hv;have wIA:vg≠g:=λe=>hsv vg rfl (by rw[e];rfl);have hgl:=(zG.1 hg).1;have wIB:=(zG.1 hvg).1;have htk:(xs.take (i*5)).length=i*5:=by rw[List.length_take];omega
  have hop:w.ownsRow lo 51 5 (.slice (some ⟨g,0,none⟩) i cap) i (xs.take (i*5)):=⟨htk,.inr ⟨g,cap,cur,rfl,hHR,hg,zO,hcm,hcs,by rw[<-hct,List.take_take,Nat.min_eq_left zO]⟩⟩
  have hsz:(Tryz.prog.info? 51).map (·.size)=some 5:=by rw[hi0];simp[hz1]
  obtain⟨j,hjE⟩:∃j,j=i+1:=⟨_,rfl⟩
  rw[<-hjE]at hj⊢;have hij:((i:Int)==(j:Int))=false:=by rw[beq_eq_false_iff_ne];omega
  have hci:¬(cap=i):=zO;have hji:j-i=1:=zO;have hb1:(i:Int)<=(j:Int):=zO;have hb2:(j:Int)<=(cap:Int):=zO;have hb3:(0:Int)<=(i:Int):=zO;have hb4:i<=cap:=zO;replace⟨hcm,hvm,hjE,h1x⟩:=zH4 hcm hvm hjE h1x;clear hsv ho hv;by_cases hjn:j=n
  ·have hd0:xs.drop (j*5)=[]:=List.drop_eq_nil_of_le zO;rw[hd0,List.append_nil,show n-1+m=i+m by have:=hjE.out;omega];have e1:((j:Int)==(n:Int))=true:=by rw[beq_iff_eq];omega
   have hin:i<n:=by have:=hjE.out;omega
   have e3:decide ((i:Int)+(m:Int)<(n:Int))=false:=decide_eq_false (by have:=hjE.out;omega);have hBY:∀(v':Value)(W:World),W.ownsRow lo 51 5 v' (i+m) (xs.take (i*5)++vs)->w.grownBy W (Value.slice (some ⟨g,0,none⟩) i cap).ownBlock->Below lo w W->vL lo (.slice (some ⟨g,0,none⟩) n cap) (i+m) (xs.take (i*5)++vs) w (.returned v') W:=λv' W h1 h2 h3=>⟨v',rfl,h1,h3,λq hq hn=>h2.block q hq λe=>hn e.symm⟩
   replace hBY:=zH hBY;clear hjn hd0 hg hvg hct hvt hKR htk hcs hvs hvl hxl hnc hvc;go_enter func119,ntmps119;go_upto_region 2 with fail;clear hb1 hb2 hci hji;go_wp2_with (at_builtin;refine qY ?_);refine Qm.go (Qw _ rfl (.tmp 32) (.tmp 33) 55 rfl lo 51 i0 _ 5 48 underlying55 hi0 hz0 hz1 hz2 rfl zA1 (.slice (some ⟨g,0,none⟩) i cap) i (xs.take (i*5)) rfl hop w.heap.size _ m vcap vs zE hrv h1v zO zA1 hlo ?_);intro v' W h1 h2 h3 _;have hF:=zH (hBY.out v' W h1 h2 h3);obtain⟨A7,c7,rfl,-,-⟩:=qG h1;clear hBY h1 h2 hop hrv;go_wp2_with fail;go_ret;exact hF.out
  ·have hjl:j<n:=zO;have f1:((j:Int)==(n:Int))=false:=by rw[beq_eq_false_iff_ne];omega
   obtain⟨r,hr⟩:∃r,n-j=r:=⟨_,rfl⟩
   have hnr:n=j+r:=zO;have hdl:(xs.drop (j*5)).length=r*5:=by rw[List.length_drop];omega
   have h1d:∀u∈xs.drop (j*5),u.oneCell'=true:=λu hu=>h1x.out u (List.mem_of_mem_drop hu);have hA:cur.toList.take (i*5)=xs.take (i*5):=by rw[<-hct,List.take_take,Nat.min_eq_left zO]
   obtain⟨tot,hQP⟩:∃tot,tot=i+m+r:=⟨_,rfl⟩
   have hgd:∀W:World,W.heap[g]?=w.heap[g]?->∀q u,(xs.drop (j*5))[q]?=some u->W.cell? ((⟨g,j*5,none⟩:Addr).add q)=some u:=λW hW q u hu=>by
    rw[Addr.add_lit,qa (hW.trans hg),<-Array.getElem?_toList];rw[List.getElem?_drop,<-hct,List.getElem?_take]at hu;split at hu
    ·exact hu
    ·cases hu
   have hvd:∀W:World,W.heap[vg]?=w.heap[vg]?->∀q u,vs[q]?=some u->W.cell? ((⟨vg,0,none⟩:Addr).add q)=some u:=λW hW q u hu=>by rw[World.cell?_of_block (w:=w) (by rw[Addr.add_lit];exact hW)];exact hKR q u hu
   have htb:tot<=200:=zO;have wEC:n-1+m=tot:=by have:=hjE.out;omega
   rw[wEC];have hyl:(xs.take (i*5)++vs++xs.drop (j*5)).length=tot*5:=by simp only[List.length_append,htk,hvl,hdl];omega
   have hw1:=zH (show IntKind.i64.wrap ((i:Int)+(m:Int))=((i+m:Nat):Int)by rw[IntKind.wrap_i64];omega);have hw2:=zH (show IntKind.i64.wrap (((i+m:Nat):Int)+(r:Int))=((tot:Nat):Int)by rw[IntKind.wrap_i64];omega);clear hop hrv hKR;replace⟨hyl,hQP,hnr,wEC⟩:=zH4 hyl hQP hnr wEC;go_enter func119,ntmps119;go_upto_region 2 with fail;go_upto_region 9 with fail;refine qt zQ ?_;refine qX (w:=w) qj (qQ []) (List.replicate 13 true) 0 zQ zQ zQ zQ zQ zQ zQ ?st (Rel.drew _ _) ?walk
   case st=>exact qi (λ_ h=>by cases h)
   case walk=>
    intro K hK;dsimp only[qw,List.replicate];refine zB7 ?_;refine qD (hK _ _ λW hW hF=>?_);clear hF hK;have hW:Ext w W:=hW;refine zC4 ?_;go_wp2;refine Qn ?_;rw[hw1.out,hw2.out];have hWg:=(Below.block hW g hgl)
    have hWv:=(Below.block hW vg wIB)
    have hWz:=hW.size;have hA2:=zH hA;clear hA hct;by_cases hcap:cap<tot
    ·obtain⟨k,hk⟩:∃k,k=tot-i:=⟨_,rfl⟩
     have hkm:k=m+r:=by have:=hQP.out;omega
     have hkt:i+k=tot:=by have:=hQP.out;omega
     have hki:(tot:Int)-(i:Int)=((k:Nat):Int):=zO;obtain⟨C,hC⟩:∃C,C=grownCap W (i+k) cap 51:=⟨_,rfl⟩
     have hCge:i+k<=C:=by rw[hC];exact grownCap_ge W (i+k) cap _
     have hCm:C<=maxLen:=by rw[hC];exact grownCap_le_maxLen W (i+k) cap _ zA7
     obtain⟨cur0,hOY⟩:∃cur0:Array Value,cur0=(xs.take (i*5)).toArray++Builtin.zeroCells (Value.agg #[.int .u8 0,.int .u32 0,.int .u32 0,.int .i64 0,.slice none 0 0]).cells k++Builtin.zeroCells (Value.agg #[.int .u8 0,.int .u32 0,.int .u32 0,.int .i64 0,.slice none 0 0]).cells (C-(i+k)):=⟨_,rfl⟩
     have hEQ:∀ty (z:Int),z=(k:Int)->(Builtin.append_ #[55,3] ty #[.slice (some ⟨g,0,none⟩) i cap,.int .i64 z]).run prog W=.ok (.slice (some ⟨W.heap.size,0,none⟩) (i+k) C) (W.drew.alloc (.cells cur0 51)):=λty z hz=>by
      rw[hz,hC,hOY,hC];exact Lib.run_append_grow_zeros (P:=prog) W 55 3 ty 51 i0 _ .i64 .i64 underlying55 underlying3 hi0 hz0 (some ⟨g,0,none⟩) i cap (xs.take (i*5)) (by
       rw[hz1];exact run_firstCells_some W.drew 5 i ⟨g,0,none⟩ i cap (xs.take (i*5)) (by rw[List.length_take];omega) (λq u hu=>by
        rw[Addr.add_lit,Nat.zero_add];show W.cell? _=_;rw[qa (hWg.trans hg),<-Array.getElem?_toList];rw[<-hA2.out,List.getElem?_take]at hu;split at hu
        ·exact hu
        ·cases hu)) k zO zO zO zO (by rw[hz2];omega) (by rw[hz2];exact growslice_fits zO zO)
     have hc0:cur0.size=C*5:=by rw[hOY];simp only[Array.size_append,List.size_toArray,size_zeroCells,List.length_take];simp only[Value.cells,List.size_toArray,List.length_cons,List.length_nil];omega
     have wDJ:cur0.toList.take (i*5)=xs.take (i*5):=by rw[hOY];simp only[Array.toList_append,List.append_assoc];have:i*5=(xs.take (i*5)).length:=zO;rw[this];simp
     clear hOY hC hki;rw[hkt]at hCge hEQ;have htm:=hQP.out;have hBY:∀V:World,V.heap[W.heap.size]?=some (.cells (spl (spl cur0 i vs) (i+m) (xs.drop (j*5))) 51 (0,0))->Below lo w V->(∀q,q<W.heap.size->V.heap[q]?=W.heap[q]?)->vL lo (.slice (some ⟨g,0,none⟩) n cap) tot (xs.take (i*5)++vs++xs.drop (j*5)) w (.returned (.slice (some ⟨W.heap.size,0,none⟩) tot C)) V:=λV h1 h2 h3=>by
      refine⟨_,rfl,RowI.own ⟨_,h1,?_,?_⟩ hyl.out zO zO hCm,h2,λq hq _=>(h3 q zO).trans (Below.block hW q hq)⟩
      ·rw[QA (k:=r) hdl (by rw[QA hvl zO];omega),QA hvl zO,hc0]
      ·have e1:=KI wDJ hvl zO;have e2:=KI e1 hdl (by rw[QA hvl zO];omega);rw[<-e2,htm]
     have hCi:¬(C=i):=zO;have hCim:¬(C=i+m):=zO;replace⟨hBY,wDJ,hCm,hk,hkt⟩:=zH5 hBY wDJ hCm hk hkt;have hti:i<=tot:=zO;have hti2:(i:Int)<=(tot:Int):=zO;have htim:i+m<=tot:=zO;clear hb1 hb2 hji hb3 hkm htm hj hnm;have hci3:(i:Int)<=(cap:Int):=zO;have hRJ:(i+m)*5<=cur0.size:=by rw[hc0];omega
     have hUQ:(i+m+r)*5<=cur0.size:=by rw[hc0];have:=hQP.out;omega
     replace⟨hRJ,hUQ,hvl,hr,hcap,hdl⟩:=zH6 hRJ hUQ hvl hr hcap hdl;replace htk:=trivial;clear hxl hcs hvs hvt hc0;go_wp2_with (at_builtin;refine qY ?_);refine Qm.go (Lib.wpList_append_run _ rfl _ _ _ _ rfl _ _ zE zE _ _ (hEQ _ _ ?hz) ?nx)
     case hz=>have h1:=hk.out;omega
     clear hEQ;generalize hTT:World.alloc _ _=w1;have p1:w1.heap[W.heap.size]?=some (.cells cur0 51 (0,0)):=by rw[<-hTT];exact zI _ _ _ rfl
     have k1:∀q,q<W.heap.size->w1.heap[q]?=W.heap[q]?:=λq hq=>by rw[<-hTT];exact zK _ _ _ hq
     have z1:W.heap.size<=w1.heap.size:=by rw[<-hTT];simp
     have B1:Below lo w w1:=by rw[<-hTT];exact Below.mono (hW.trans ((Ext.drew W).trans (zN _ _))) hlo
     clear hTT;have hJN:∀ty,(Builtin.copy_ #[55,55] ty #[.slice (some ⟨W.heap.size,i*5,none⟩) (tot-i) (C-i),.slice (some ⟨vg,0,none⟩) m vcap]).run prog w1=.ok (.int .i64 (m:Nat)) (w1.setRow W.heap.size (spl cur0 i vs)):=λty=>
      jI (k:=m) (o:=i) p1 hvl.out hRJ.out underlying55 hsz (by simp only[Nat.min_def];have:=hQP.out;split<;>omega) (hvd w1 ((k1 _ zO).trans hWv)) h1v
     obtain⟨w2,hMU⟩:∃w2,w2=w1.setRow W.heap.size (spl cur0 i vs):=⟨_,rfl⟩
     rw[<-hMU]at hJN;have p2:w2.heap[W.heap.size]?=some (.cells (spl cur0 i vs) 51 (0,0)):=by rw[hMU];exact setRow_heap _ _ _ _ _ _ p1
     have k2:∀q,q<W.heap.size->w2.heap[q]?=W.heap[q]?:=λq hq=>by rw[hMU];exact(setRow_other _ _ _ _ zO).trans (k1 q hq)
     have z2:W.heap.size<=w2.heap.size:=by rw[hMU];simpa using z1
     have B2:Below lo w w2:=by rw[hMU];exact Qt B1 hlo zO _
     have s2:=QA (cur:=cur0) (o:=i) hvl.out hRJ.out;clear hMU p1 k1 z1;have hHH:∀V:World,Ext w2 V->∀ty,(Builtin.copy_ #[55,55] ty #[.slice (some ⟨W.heap.size,(i+m)*5,none⟩) (tot-(i+m)) (C-(i+m)),.slice (some ⟨g,j*5,none⟩) r (cap-j)]).run prog V=.ok (.int .i64 ((r:Nat):Int)) (V.setRow W.heap.size (spl (spl cur0 i vs) (i+m) (xs.drop (j*5)))):=λV hV ty=>
      jI (k:=r) (o:=i+m) (qb p2 hV) hdl.out (by rw[s2];exact hUQ.out) underlying55 hsz (by simp only[Nat.min_def];have:=hQP.out;split<;>omega) (hgd V ((Below.block hV g zO).trans ((k2 _ zO).trans hWg))) h1d
     have hFX:∀V:World,Ext w2 V->vL lo (.slice (some ⟨g,0,none⟩) n cap) tot (xs.take (i*5)++vs++xs.drop (j*5)) w (.returned (.slice (some ⟨W.heap.size,0,none⟩) tot C)) (V.setRow W.heap.size (spl (spl cur0 i vs) (i+m) (xs.drop (j*5)))):=λV hV=>
      hBY.out _ (setRow_heap _ _ _ _ _ _ (qb p2 hV)) (Qt (B2.trans (Below.mono hV zO)) hlo zO _) (λq hq=>(setRow_other _ _ _ _ zO).trans ((Below.block hV q zO).trans (k2 q hq)))
     replace⟨hFX,hHH⟩:=zH2 hFX hHH;replace s2:=trivial;clear hBY hgd hvd;go_upto_region 13 with(simp only[hJN])
     refine qt zQ ?_;refine qX (w:=w2) qj (qQ []) (List.replicate 9 true) 1 zQ zQ zQ zQ zQ zQ zQ ?st (Rel.drew _ _) ?walk
     case st=>exact qi (λ_ h=>by cases h)
     case walk=>
      intro K hK;dsimp only[qw,List.replicate];refine zB7 ?_;refine qd (.slice (some ⟨W.heap.size,(i+m)*5,none⟩) (tot-(i+m)) (C-(i+m))) zA0 zA0 (λW hW _=>⟨W,?_,Rel.refl _ W⟩) ?_
      ·go_simp;rw[hw1.out,Int.toNat_natCast,if_pos zO,if_neg zO]
      refine zB7 ?_;refine qd (.slice (some ⟨g,j*5,none⟩) r (cap-j)) zA0 zA0 (λW hW _=>⟨W,?_,Rel.refl _ W⟩) ?_
      ·go_simp;rw[hr.out,if_pos zO]
      refine zB7 ?_;refine qD (hK _ _ λV hV hF=>?_);clear hF hK;have hV:Ext w2 V:=hV;refine zC4 ?_;have hc2:=hHH.out V hV;go_wp2_with (simp only[hc2]);refine Qn ?_;go_wp2_with fail;go_ret;exact hFX.out V hV
    ·have htm:=hQP.out;have hRJ:(i+m)*5<=cur.size:=by rw[hcs];omega
     have hUQ:(i+m+r)*5<=cur.size:=by rw[hcs];omega
     have hti:i<=tot:=zO;have htim:i+m<=tot:=zO;have htlt:i+m<tot:=by have:=hnr.out;omega
     have hct':tot<=cap:=zO;have hcim:¬(cap=i+m):=zO;have hBY:∀V:World,V.heap[g]?=some (.cells (spl (spl cur (i+m) (xs.drop (j*5))) i vs) 51 (0,0))\/V.heap[g]?=some (.cells (spl (spl cur i vs) (i+m) (xs.drop (j*5))) 51 (0,0))->Below lo w V->(∀q,q<W.heap.size->q≠g->V.heap[q]?=W.heap[q]?)->vL lo (.slice (some ⟨g,0,none⟩) n cap) tot (xs.take (i*5)++vs++xs.drop (j*5)) w (.returned (.slice (some ⟨g,0,none⟩) tot cap)) V:=λV h1 h2 h3=>by
      refine⟨_,rfl,?_,h2,λq hq hn=>(h3 q zO (λe=>hn (by rw[e];rfl))).trans (Below.block hW q hq)⟩;rcases h1 with h1|h1
      ·refine RowI.own ⟨_,h1,?_,?_⟩ hyl.out hHR hct' hcm.out
       ·rw[QA hvl (by rw[QA hdl zO];omega),QA hdl zO,hcs]
       ·have:=spl_two (r:=r) hA2.out hvl hdl zO;rw[<-htm]at this;exact this
      ·refine RowI.own ⟨_,h1,?_,?_⟩ hyl.out hHR hct' hcm.out
       ·rw[QA hdl (by rw[QA hvl zO];omega),QA hvl zO,hcs]
       ·have e1:=KI hA2.out hvl zO;have e2:=KI e1 hdl (by rw[QA hvl zO];omega);rw[<-e2,htm]
     replace hBY:=zH hBY;by_cases hm1:m=1
     ·have hjm:j=i+m:=by have:=hjE.out;omega
      have hgd2:∀V:World,V.heap[g]?=some (.cells (spl cur i vs) 51 (0,0))->∀q u,(xs.drop (j*5))[q]?=some u->V.cell? ((⟨g,j*5,none⟩:Addr).add q)=some u:=λV hV q u hu=>by
       have h1:=hgd W hWg q u hu;rw[Addr.add_lit,qa (hWg.trans hg),<-Array.getElem?_toList]at h1;rw[Addr.add_lit,qa hV,<-Array.getElem?_toList];have e:(spl cur i vs).toList=(cur.toList.take (i*5)++vs)++cur.toList.drop (i*5+vs.length):=by unfold spl;rw[List.toList_toArray]
       have hl:(cur.toList.take (i*5)++vs).length=(i+m)*5:=by rw[List.length_append,List.length_take,Array.length_toList];omega
       rw[e,List.getElem?_append_right (by rw[hl,hjm];omega),hl,List.getElem?_drop];rw[<-h1];congr 1;omega
      have hJN:∀ty,(Builtin.copy_ #[55,55] ty #[.slice (some ⟨g,i*5,none⟩) (tot-i) (cap-i),.slice (some ⟨vg,0,none⟩) m vcap]).run prog W=.ok (.int .i64 (m:Nat)) (W.setRow g (spl cur i vs)):=λty=>
       jI (k:=m) (o:=i) (hWg.trans hg) hvl hRJ underlying55 hsz zA9 (hvd W hWv) h1v
      obtain⟨w2,hMU⟩:∃w2,w2=W.setRow g (spl cur i vs):=⟨_,rfl⟩
      rw[<-hMU]at hJN;have p2:w2.heap[g]?=some (.cells (spl cur i vs) 51 (0,0)):=by rw[hMU];exact setRow_heap _ _ _ _ _ _ (hWg.trans hg)
      have k2:∀q,q≠g->w2.heap[q]?=W.heap[q]?:=λq hq=>by rw[hMU];exact setRow_other _ _ _ _ hq
      have z2:w2.heap.size=W.heap.size:=by rw[hMU];simp
      have B2:Below lo w w2:=by rw[hMU];exact Qt (Below.mono hW hlo) hlo hHR _
      have s2:=QA (cur:=cur) (o:=i) hvl hRJ;clear hMU;have hHH:∀V:World,Ext w2 V->∀ty,(Builtin.copy_ #[55,55] ty #[.slice (some ⟨g,(i+m)*5,none⟩) (tot-(i+m)) (cap-(i+m)),.slice (some ⟨g,j*5,none⟩) r (cap-j)]).run prog V=.ok (.int .i64 ((r:Nat):Int)) (V.setRow g (spl (spl cur i vs) (i+m) (xs.drop (j*5)))):=λV hV ty=>
       jI (k:=r) (o:=i+m) (qb p2 hV) hdl (by rw[s2];exact hUQ) underlying55 hsz zA9 (hgd2 V (qb p2 hV)) h1d
      have hFX:∀V:World,Ext w2 V->vL lo (.slice (some ⟨g,0,none⟩) n cap) tot (xs.take (i*5)++vs++xs.drop (j*5)) w (.returned (.slice (some ⟨g,0,none⟩) tot cap)) (V.setRow g (spl (spl cur i vs) (i+m) (xs.drop (j*5)))):=λV hV=>
       hBY.out _ (.inr (setRow_heap _ _ _ _ _ _ (qb p2 hV))) (Qt (B2.trans (Below.mono hV zO)) hlo hHR _) (λq hq hne=>(setRow_other _ _ _ _ hne).trans ((Below.block hV q zO).trans (k2 q hne)))
      replace⟨hFX,hHH⟩:=zH2 hFX hHH;have hle3:(i:Int)+(m:Int)<=(j:Int):=zO;have htn:tot=n:=by have:=hjE.out;have:=hnr.out;omega
      replace⟨hr,htn,hjm,hm1⟩:=zH4 hr htn hjm hm1;clear hBY hgd hgd2 hvd htk hdl hvl hxl hcs hvs hvt hb1 hb2 hji htm hj hnm s2 p2;go_upto_region 18 with(simp only[hJN])
      refine qt zQ ?_;refine qX (w:=w2) qj (qQ []) (List.replicate 9 true) 1 zQ zQ zQ zQ zQ zQ zQ ?st (Rel.drew _ _) ?walk
      case st=>exact qi (λ_ h=>by cases h)
      case walk=>
       intro K hK;dsimp only[qw,List.replicate];refine zB7 ?_;refine qd (.slice (some ⟨g,(i+m)*5,none⟩) (tot-(i+m)) (cap-(i+m))) zA0 zA0 (λW hW _=>⟨W,?_,Rel.refl _ W⟩) ?_
       ·go_simp;rw[hw1.out,Int.toNat_natCast,if_pos zO,if_neg zO]
       refine zB7 ?_;refine qd (.slice (some ⟨g,j*5,none⟩) r (cap-j)) zA0 zA0 (λW hW _=>⟨W,?_,Rel.refl _ W⟩) ?_
       ·go_simp;rw[hr.out,if_pos zO]
       refine zB7 ?_;refine qD (hK _ _ λV hV hF=>?_);clear hF hK;have hV:Ext w2 V:=hV;refine zC4 ?_;have hc2:=hHH.out V hV;have hfn:=zH (hFX.out V hV);clear hHH hFX;generalize World.setRow V _ _=wf at*;have hXW:∀A c ty,(Builtin.clear_ #[55] ty #[.slice A (n-tot) c]).run prog wf=.ok (.tuple #[]) wf:=λA c ty=>by rw[show n-tot=0 by rw[htn.out];omega];exact Ua A c wf ty
       have htn2:tot<=n:=by rw[htn.out];omega
       by_cases hqt:cap=tot
       ·subst hqt;go_wp2_with (simp only[hc2]);refine Qn ?_;go_wp2_with (first|simp only[hXW]|simp only[Ua]);go_ret;have:=hfn.out;simp only[List.append_assoc]at this⊢;exact this
       ·go_wp2_with (simp only[hc2]);refine Qn ?_;go_wp2_with (first|simp only[hXW]|simp only[Ua]);go_ret;have:=hfn.out;simp only[List.append_assoc]at this⊢;exact this
     ·have hm2:2<=m:=zO;have hov:∀la ca lb cb,(callFunc 167 #[.slice (some ⟨g,(i+m)*5,none⟩) lb cb,.slice (some ⟨vg,0,none⟩) la ca]).run prog W=.ok (.value (.bool false)) W:=λla ca lb cb=>Gd W vg 0 la ca g lb cb vcur cur (hWv.trans hvg) (hWg.trans hg) (λe=>wIA e.symm) zO _;have hJN:∀V:World,Ext W V->∀ty dc sc,(Builtin.copy_ #[55,55] ty #[.slice (some ⟨g,(i+m)*5,none⟩) (tot-(i+m)) dc,.slice (some ⟨g,j*5,none⟩) r sc]).run prog V=.ok (.int .i64 ((r:Nat):Int)) (V.setRow g (spl cur (i+m) (xs.drop (j*5)))):=λV hV ty dc sc=>
       jI (k:=r) (o:=i+m) (qb (hWg.trans hg) hV) hdl hUQ underlying55 hsz zA9 (hgd V ((Below.block hV g zO).trans hWg)) h1d
      have s1:=QA (cur:=cur) (o:=i+m) hdl hUQ;have hHH:∀V:World,Ext W V->∀ty dc,(Builtin.copy_ #[55,55] ty #[.slice (some ⟨g,i*5,none⟩) (tot-i) dc,.slice (some ⟨vg,0,none⟩) m vcap]).run prog (V.setRow g (spl cur (i+m) (xs.drop (j*5))))=.ok (.int .i64 (m:Nat)) ((V.setRow g (spl cur (i+m) (xs.drop (j*5)))).setRow g (spl (spl cur (i+m) (xs.drop (j*5))) i vs)):=λV hV ty dc=>
       jI (k:=m) (o:=i) (setRow_heap _ _ _ _ _ _ (qb (hWg.trans hg) hV)) hvl (by rw[s1];exact hRJ) underlying55 hsz zA9 (hvd _ ((setRow_other _ _ _ _ wIA).trans ((Below.block hV vg zO).trans hWv))) h1v
      have hFX:∀V:World,Ext W V->vL lo (.slice (some ⟨g,0,none⟩) n cap) tot (xs.take (i*5)++vs++xs.drop (j*5)) w (.returned (.slice (some ⟨g,0,none⟩) tot cap)) ((V.setRow g (spl cur (i+m) (xs.drop (j*5)))).setRow g (spl (spl cur (i+m) (xs.drop (j*5))) i vs)):=λV hV=>
       hBY.out _ (.inl (setRow_heap _ _ _ _ _ _ (setRow_heap _ _ _ _ _ _ (qb (hWg.trans hg) hV)))) (Qt (Qt (Below.mono (hW.trans hV) hlo) hlo hHR _) hlo hHR _) (λq hq hne=>(setRow_other _ _ _ _ hne).trans ((setRow_other _ _ _ _ hne).trans (Below.block hV q hq)))
      replace⟨hFX,hJN,hHH⟩:=zH3 hFX hJN hHH;have hYZ:¬(i+m<=j):=by have:=hjE.out;omega
      have hle3:¬((i:Int)+(m:Int)<=(j:Int)):=by have:=hjE.out;omega
      replace hr:=zH hr;clear hBY hgd hvd htk hdl hvl hxl hcs hvs hvt hb1 hb2 hji htm hj hnm s1 hm1 hm2;go_upto_region 22 with(simp only[hov])
      refine qt zQ ?_;refine qX (w:=W) qj (qQ []) (List.replicate 9 true) 1 zQ zQ zQ zQ zQ zQ zQ ?st (Rel.drew _ _) ?walk
      case st=>exact qi (λ_ h=>by cases h)
      case walk=>
       intro K hK;dsimp only[qw,List.replicate];refine zB7 ?_;refine qd (.slice (some ⟨g,(i+m)*5,none⟩) (tot-(i+m)) (cap-(i+m))) zA0 zA0 (λW hW _=>⟨W,?_,Rel.refl _ W⟩) ?_
       ·go_simp;rw[hw1.out,Int.toNat_natCast,if_pos zO,if_neg zO]
       refine zB7 ?_;refine qd (.slice (some ⟨g,j*5,none⟩) r (cap-j)) zA0 zA0 (λW hW _=>⟨W,?_,Rel.refl _ W⟩) ?_
       ·go_simp;rw[hr.out,if_pos zO]
       refine zB7 ?_;refine qD (hK _ _ λV hV hF=>?_);clear hF hK;have hV:Ext W V:=hV;refine zC4 ?_;have hc1:=hJN.out V hV;have hc2:=hHH.out V hV;have hfn:=zH (hFX.out V hV);clear hJN hHH hFX hov;generalize World.setRow (World.setRow V _ _) _ _=wf at*;generalize World.setRow V _ _=wm at*;go_wp2_with (simp only[hc1]);refine Qn ?_;go_wp2_with (simp only[hc2]);go_ret;exact hfn.out
end Go.Proofs.YtmeadnlmepcmbaaGreat
