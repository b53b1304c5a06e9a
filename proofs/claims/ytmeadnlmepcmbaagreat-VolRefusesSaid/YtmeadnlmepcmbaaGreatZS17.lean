/- Lemmas of the proof. -/
import Derived.Test.YtmeadnlmepcmbaaGreatZS16
set_option linter.all false
set_option maxHeartbeats 8000000
open Go.Proofs.Tryz
open Go.Value renaming slice→l,int→I
open Option renaming some→x,none→F
open Go.Ending renaming returned→y
open Go renaming World→D
open Go.Obj renaming cells→E
namespace Go.Proofs.YtmeadnlmepcmbaaGreat
open Go.RowKit
variable {cur:Array Value}
theorem spl_two{i m r:Nat}{A vs ys:List Value}(hA:cur.toList.take (i*5)=A)(hv:vs.length=m*5)(hy:ys.length=r*5)(h:(i+m+r)*5<=cur.size):(spl (spl cur (i+m) ys) i vs).toList.take ((i+m+r)*5)=A++vs++ys:=by
 have e1:(spl cur (i+m) ys).toList=cur.toList.take ((i+m)*5)++ys++cur.toList.drop ((i+m)*5+ys.length):=by unfold spl;rw[List.toList_toArray]
 have hl1:(cur.toList.take ((i+m)*5)).length=(i+m)*5:=by rw[List.length_take,Array.length_toList];omega
 have e2:(spl cur (i+m) ys).toList.take (i*5)=A:=by rw[e1,List.append_assoc,List.take_append_of_le_length zO,List.take_take,Nat.min_eq_left zO,hA]
 have e3:(spl cur (i+m) ys).toList.drop (i*5+vs.length)=ys++cur.toList.drop ((i+m)*5+ys.length):=by rw[e1,List.append_assoc];have:i*5+vs.length=(cur.toList.take ((i+m)*5)).length:=zO;rw[this];exact List.drop_left
 generalize hY:spl cur (i+m) ys=Y at*;unfold spl;rw[List.toList_toArray,e2,e3,<-List.append_assoc];have ht:A.length=i*5:=by rw[<-hA,List.length_take,Array.length_toList];omega
 have:(i+m+r)*5=(A++vs++ys).length:=by simp only[List.length_append];omega
 rw[this];exact List.take_left
theorem UT(A c)(W:D)(ty:TypeId):(Builtin.clear_ #[55] ty #[l A 0 c]).run prog W=.ok (.tuple #[]) W:=by rcases A with _|a<;>simp[Builtin.clear_,run_underlying underlying55]
set_option maxRecDepth 100000 in
theorem qbx(lo:Nat)(s:Value)(n i many:Nat)(xs:List Value)(v:Value)(m lov:Nat)(vs:List Value)(w:D)(ho:w.ownsRow lo 51 5 s n xs)(hv:w.ownsRow lov 51 5 v m vs)(hsv:∀q,v.ownBlock=x q->s.ownBlock≠x q)(hm:0<m)(hnm:n+m<=100)(wLL:many=0\/many=1)(hj:i+many<=n)(h1x:∀u∈xs,u.oneCell'=true)(h1v:∀u∈vs,u.oneCell'=true)(hlo:lo<=w):Calls prog 119 #[s,(i:Int),I .i64 ((i+many:Nat):Int),v] w (Vh lo s (n-many+m) (xs.take (i*5)++vs++xs.drop ((i+many)*5)) w):=by
 rcases wLL with rfl|rfl
 ·have HI:=zH (qjJ lo s n i xs v m lov vs w ho hv hsv hm hnm zO h1x h1v hlo);simp only[Nat.add_zero,Nat.sub_zero];have hin:i<=n:=zO;obtain⟨Av,cv,rfl,-,-⟩:=qM hv;rcases ho.2 with⟨rfl,rfl⟩|⟨g,c,cur,rfl,-,-,hc1,-,-,-⟩
  ·obtain rfl:i=0:=zO;clear ho hv hsv h1x h1v;go_enter func119,ntmps119;go_wp2_with fail;refine HI.out.mono ?_;rintro e W ⟨v',rfl,h1,h2,h3⟩;have hF:=zH (show Vh lo (l F 0 0) (0+m) (xs.take (0*5)++vs++xs.drop (0*5)) w (y v') W from⟨v',rfl,h1,h2,h3⟩);clear h1 h2 h3 HI;go_wp2_with fail;go_ret;exact hF.out
  clear ho hv hsv h1x h1v;go_enter func119,ntmps119;by_cases hci:c=i
  ·have wFH:c-i=0:=zO;go_upto_region 2 with fail;clear hc1 hci wFH hin;go_upto_region 3 with fail;go_wp2_with fail;refine HI.out.mono ?_;rintro e W ⟨v',rfl,h1,h2,h3⟩;have hF:=zH (show Vh lo (l (x ⟨g,0,F⟩) n c) (n+m) (xs.take (i*5)++vs++xs.drop (i*5)) w (y v') W from⟨v',rfl,h1,h2,h3⟩);clear h1 h2 h3 HI;go_wp2_with fail;go_ret;exact hF.out
  have hci3:¬(c<=i):=zO;have hii:(i:Int)<=(i:Int):=Int.le_refl _;go_upto_region 2 with fail;clear hc1 hci hci3 hii hin;go_upto_region 3 with fail;go_wp2_with fail;refine HI.out.mono ?_;rintro e W ⟨v',rfl,h1,h2,h3⟩;have hF:=zH (show Vh lo (l (x ⟨g,0,F⟩) n c) (n+m) (xs.take (i*5)++vs++xs.drop (i*5)) w (y v') W from⟨v',rfl,h1,h2,h3⟩);clear h1 h2 h3 HI;go_wp2_with fail;go_ret;exact hF.out
 obtain⟨i0,hi0,hz0,hz1,hz2⟩:=info_parts Tryz.info_item;have hvl:=hv.1;have hxl:=ho.1;obtain⟨vg,vcap,vcur,rfl,wHI,hvg,hvc,hvm,hvs,hvt⟩:∃g cap cur,v=l (x ⟨g,0,F⟩) m cap/\lov<=g/\w.heap[g]?=x (E cur 51)/\m<=cap/\cap<=maxLen/\cur.size=cap*5/\cur.toList.take (m*5)=vs:=by
  rcases hv.2 with⟨_,h0⟩|h
  omega;exact h
 obtain⟨g,cap,cur,rfl,hFE,hg,hnc,hcm,hcs,hct⟩:∃g cap cur,s=l (x ⟨g,0,F⟩) n cap/\lo<=g/\w.heap[g]?=x (E cur 51)/\n<=cap/\cap<=maxLen/\cur.size=cap*5/\cur.toList.take (n*5)=xs:=by
  rcases ho.2 with⟨_,h0⟩|h
  omega;exact h
 have hGP:=Gn hv;have hrv:Rd w w 5 vg m vs:=Rd.of_own hv;have hWT:vg≠g:=λe=>hsv vg rfl (by rw[e];rfl);have hgl:=(zG.1 hg).1;have hWU:=(zG.1 hvg).1;have htk:(xs.take (i*5)).length=i*5:=by rw[List.length_take];omega
 have hop:w.ownsRow lo 51 5 (l g i cap) i (xs.take (i*5)):=⟨htk,.inr ⟨g,cap,cur,rfl,hFE,hg,zO,hcm,hcs,by rw[<-hct,List.take_take,Nat.min_eq_left zO]⟩⟩
 have hsz:(Tryz.prog.info? 51).map (·.size)=x 5:=by rw[hi0];simp[hz1]
 obtain⟨j,hjE⟩:∃j,j=i+1:=⟨_,rfl⟩
 rw[<-hjE]at hj⊢;have hij:((i:Int)==(j:Int))=false:=by rw[beq_eq_false_iff_ne];omega
 have hci:¬(cap=i):=zO;have hji:j-i=1:=zO;have hb1:(i:Int)<=(j:Int):=zO;have hb2:(j:Int)<=(cap:Int):=zO;have hb3:(0:Int)<=(i:Int):=zO;have hb4:i<=cap:=zO;replace⟨hcm,hvm,hjE,h1x⟩:=zH4 hcm hvm hjE h1x;clear hsv ho hv;by_cases hjn:j=n
 ·have hd0:xs.drop (j*5)=[]:=List.drop_eq_nil_of_le zO;rw[hd0,List.append_nil,show n-1+m=i+m by have:=hjE.out;omega];have e1:((j:Int)==(n:Int))=true:=by rw[beq_iff_eq];omega
  have hin:i<n:=by have:=hjE.out;omega
  have e3:decide ((i:Int)+(m:Int)<(n:Int))=false:=decide_eq_false (by have:=hjE.out;omega);have hBM:∀(v':Value)(W:D),W.ownsRow lo 51 5 v' (i+m) (xs.take (i*5)++vs)->w.grownBy W (Value.slice g i cap).ownBlock->Below lo w W->Vh lo (l g n cap) (i+m) (xs.take (i*5)++vs) w v' W:=λv' W h1 h2 h3=>⟨v',rfl,h1,h3,λq hq hn=>h2.block q hq λe=>hn e.symm⟩
  replace hBM:=zH hBM;clear hjn hd0 hg hvg hct hvt hGP htk hcs hvs hvl hxl hnc hvc;go_enter func119,ntmps119;go_upto_region 2 with fail;clear hb1 hb2 hci hji;go_wp2_with (at_builtin;refine Qa ?_);refine Qs.go (QG _ rfl (.tmp 32) (.tmp 33) 55 rfl lo 51 i0 _ 5 48 underlying55 hi0 hz0 hz1 hz2 rfl zA1 (l (x ⟨g,0,F⟩) i cap) i (xs.take (i*5)) rfl hop w.heap.size _ m vcap vs zE hrv h1v zO zA1 hlo ?_);intro v' W h1 h2 h3 _;have hF:=zH (hBM.out v' W h1 h2 h3);obtain⟨A7,c7,rfl,-,-⟩:=qM h1;clear hBM h1 h2 hop hrv;go_wp2_with fail;go_ret;exact hF.out
 have hjl:j<n:=zO;have f1:((j:Int)==(n:Int))=false:=by rw[beq_eq_false_iff_ne];omega
 obtain⟨r,hr⟩:∃r,n-j=r:=⟨_,rfl⟩
 have hnr:n=j+r:=zO;have hdl:(xs.drop (j*5)).length=r*5:=by rw[List.length_drop];omega
 have h1d:∀u∈xs.drop (j*5),u.oneCell'=true:=λu hu=>h1x.out u (List.mem_of_mem_drop hu);have hA:cur.toList.take (i*5)=xs.take (i*5):=by rw[<-hct,List.take_take,Nat.min_eq_left zO]
 obtain⟨tot,hKL⟩:∃tot,tot=i+m+r:=⟨_,rfl⟩
 have hgd:∀W:D,W.heap[g]?=w.heap[g]?->∀q u,(xs.drop (j*5))[q]?=x u->W.cell? (((g,j*5):Addr).add q)=x u:=λW hW q u hu=>by rw[Addr.add_lit,qa (hW.trans hg),<-Array.getElem?_toList];rw[List.getElem?_drop,<-hct,List.getElem?_take]at hu;split at hu;exact hu;cases hu
 have hvd:∀W:D,W.heap[vg]?=w.heap[vg]?->∀q u,vs[q]?=x u->W.cell? ((vg:Addr).add q)=x u:=λW hW q u hu=>by rw[World.cell?_of_block (w:=w) (by rw[Addr.add_lit];exact hW)];exact hGP q u hu
 have htb:tot<=200:=zO;have hUV:n-1+m=tot:=by have:=hjE.out;omega
 rw[hUV];have hyl:(xs.take (i*5)++vs++xs.drop (j*5)).length=tot*5:=by simp only[List.length_append,htk,hvl,hdl];omega
 have hw1:=zH (show IntKind.i64.wrap ((i:Int)+(m:Int))=((i+m:Nat):Int)by rw[IntKind.wrap_i64];omega);have hw2:=zH (show IntKind.i64.wrap (((i+m:Nat):Int)+(r:Int))=((tot:Nat):Int)by rw[IntKind.wrap_i64];omega);clear hop hrv hGP;replace⟨hyl,hKL,hnr,hUV⟩:=zH4 hyl hKL hnr hUV;go_enter func119,ntmps119;go_upto_region 2 with fail;go_upto_region 9 with fail;refine qw zQ ?_;refine Qb (w:=w) qp (qV []) (List.replicate 13 true) 0 zQ zQ zQ zQ zQ zQ zQ ?st (Rel.drew _ _) ?walk
 case st=>exact ql (λ_ h=>by cases h)
 case walk=>
  intro K hK;dsimp only[qA,List.replicate];refine zB6 ?_;refine qF (hK _ _ λW hW hF=>?_);clear hF hK;have hW:Ext w W:=hW;refine zB8 ?_;go_wp2;refine Qt ?_;rw[hw1.out,hw2.out];have hWg:=(Below.block hW g hgl)
  have hWv:=(Below.block hW vg hWU)
  have hWz:=hW.size;have hA2:=zH hA;clear hA hct;by_cases hcap:cap<tot
  ·obtain⟨k,hk⟩:∃k,k=tot-i:=⟨_,rfl⟩
   have hkm:k=m+r:=by have:=hKL.out;omega
   have hkt:i+k=tot:=by have:=hKL.out;omega
   have hki:(tot:Int)-(i:Int)=((k:Nat):Int):=zO;obtain⟨C,hC⟩:∃C,C=grownCap W (i+k) cap 51:=⟨_,rfl⟩
   have hCge:i+k<=C:=by rw[hC];exact grownCap_ge W (i+k) cap _
   have hCm:C<=maxLen:=by rw[hC];exact grownCap_le_maxLen W (i+k) cap _ zA7
   obtain⟨cur0,hJY⟩:∃cur0:Array Value,cur0=(xs.take (i*5)).toArray++Builtin.zeroCells (Value.agg #[I .u8 0,I .u32 0,I .u32 0,I .i64 0,l F 0 0]).cells k++Builtin.zeroCells (Value.agg #[I .u8 0,I .u32 0,I .u32 0,I .i64 0,l F 0 0]).cells (C-(i+k)):=⟨_,rfl⟩
   have hCQ:∀ty (z:Int),z=(k:Int)->(Builtin.append_ #[55,3] ty #[l g i cap,z]).run prog W=.ok (l W (i+k) C) (W.drew.alloc (E cur0 51)):=λty z hz=>by
    rw[hz,hC,hJY,hC];exact Lib.run_append_grow_zeros (P:=prog) W 55 3 ty 51 i0 _ .i64 .i64 underlying55 underlying3 hi0 hz0 (x ⟨g,0,F⟩) i cap (xs.take (i*5)) (by
     rw[hz1];exact run_firstCells_some W.drew 5 i ⟨g,0,F⟩ i cap (xs.take (i*5)) (by rw[List.length_take];omega) (λq u hu=>by
      rw[Addr.add_lit,Nat.zero_add];show W.cell? _=_;rw[qa (hWg.trans hg),<-Array.getElem?_toList];rw[<-hA2.out,List.getElem?_take]at hu;split at hu;exact hu
      ·cases hu)) k zO zO zO zO (by rw[hz2];omega) (by rw[hz2];exact growslice_fits zO zO)
   have hc0:cur0.size=C*5:=by rw[hJY];simp only[Array.size_append,List.size_toArray,size_zeroCells,List.length_take];simp only[Value.cells,List.size_toArray,List.length_cons,List.length_nil];omega
   have hUD:cur0.toList.take (i*5)=xs.take (i*5):=by rw[hJY];simp only[Array.toList_append,List.append_assoc];have:i*5=(xs.take (i*5)).length:=zO;rw[this];simp
   clear hJY hC hki;rw[hkt]at hCge hCQ;have htm:=hKL.out;have hBM:∀V:D,V.heap[W.heap.size]?=x (E (spl (spl cur0 i vs) (i+m) (xs.drop (j*5))) 51 (0,0))->Below lo w V->(∀q,q<W.heap.size->V.heap[q]?=W.heap[q]?)->Vh lo (l g n cap) tot (xs.take (i*5)++vs++xs.drop (j*5)) w (y (l W tot C)) V:=λV h1 h2 h3=>by refine⟨_,rfl,RowI.own ⟨_,h1,?_,?_⟩ hyl.out zO zO hCm,h2,λq hq _=>(h3 q zO).trans (Below.block hW q hq)⟩;rw[QK (k:=r) hdl (by rw[QK hvl zO];omega),QK hvl zO,hc0];have e1:=Yi hUD hvl zO;have e2:=Yi e1 hdl (by rw[QK hvl zO];omega);rw[<-e2,htm]
   have hCi:¬(C=i):=zO;have hCim:¬(C=i+m):=zO;replace⟨hBM,hUD,hCm,hk,hkt⟩:=zH5 hBM hUD hCm hk hkt;have hti:i<=tot:=zO;have hti2:(i:Int)<=(tot:Int):=zO;have htim:i+m<=tot:=zO;clear hb1 hb2 hji hb3 hkm htm hj hnm;have hci3:(i:Int)<=(cap:Int):=zO;have hLK:(i+m)*5<=cur0.size:=by rw[hc0];omega
   have hMQ:(i+m+r)*5<=cur0.size:=by rw[hc0];have:=hKL.out;omega
   replace⟨hLK,hMQ,hvl,hr,hcap,hdl⟩:=zH6 hLK hMQ hvl hr hcap hdl;replace htk:=trivial;clear hxl hcs hvs hvt hc0;go_wp2_with (at_builtin;refine Qa ?_);refine Qs.go (Lib.wpList_append_run _ rfl _ _ _ _ rfl _ _ zE zE _ _ (hCQ _ _ ?hz) ?nx)
   case hz=>have h1:=hk.out;omega
   clear hCQ;generalize hMH:World.alloc _ _=w1;have p1:w1.heap[W.heap.size]?=x (E cur0 51):=hMH▸zI _ _ _ rfl;have k1:∀q,q<W.heap.size->w1.heap[q]?=W.heap[q]?:=λq hq=>by rw[<-hMH];exact zK _ _ _ hq
   have z1:W.heap.size<=w1:=by rw[<-hMH];simp
   have B1:Below lo w w1:=hMH▸Below.mono (hW.trans ((Ext.drew W).trans (zN _ _))) hlo;clear hMH;have hFO:∀ty,(Builtin.copy_ #[55,55] ty #[l (W,i*5) (tot-i) (C-i),l vg m vcap]).run prog w1=.ok (I .i64 (m:Nat)) (w1.setRow W (spl cur0 i vs)):=λty=>
    Jb (k:=m) (o:=i) p1 hvl.out hLK.out underlying55 hsz (by simp only[Nat.min_def];have:=hKL.out;split<;>omega) (hvd w1 ((k1 _ zO).trans hWv)) h1v
   obtain⟨w2,hJA⟩:∃w2,w2=w1.setRow W (spl cur0 i vs):=⟨_,rfl⟩
   rw[<-hJA]at hFO;have p2:w2.heap[W.heap.size]?=x (E (spl cur0 i vs) 51):=by rw[hJA];exact setRow_heap _ _ _ _ _ _ p1
   have k2:∀q,q<W.heap.size->w2.heap[q]?=W.heap[q]?:=λq hq=>by rw[hJA];exact(setRow_other _ _ _ _ zO).trans (k1 q hq)
   have z2:W.heap.size<=w2:=by rw[hJA];simpa using z1
   have B2:Below lo w w2:=by rw[hJA];exact Qv B1 hlo zO _
   have s2:=QK (cur:=cur0) (o:=i) hvl.out hLK.out;clear hJA p1 k1 z1;have hFC:∀V:D,Ext w2 V->∀ty,(Builtin.copy_ #[55,55] ty #[l (W,(i+m)*5) (tot-(i+m)) (C-(i+m)),l (g,j*5) r (cap-j)]).run prog V=.ok (I .i64 ((r:Nat):Int)) (V.setRow W (spl (spl cur0 i vs) (i+m) (xs.drop (j*5)))):=λV hV ty=>
    Jb (k:=r) (o:=i+m) (qb p2 hV) hdl.out (by rw[s2];exact hMQ.out) underlying55 hsz (by simp only[Nat.min_def];have:=hKL.out;split<;>omega) (hgd V ((Below.block hV g zO).trans ((k2 _ zO).trans hWg))) h1d
   have hDZ:∀V:D,Ext w2 V->Vh lo (l g n cap) tot (xs.take (i*5)++vs++xs.drop (j*5)) w (y (l W tot C)) (V.setRow W (spl (spl cur0 i vs) (i+m) (xs.drop (j*5)))):=λV hV=>
    hBM.out _ (setRow_heap _ _ _ _ _ _ (qb p2 hV)) (Qv (B2.trans (Below.mono hV zO)) hlo zO _) (λq hq=>(setRow_other _ _ _ _ zO).trans ((Below.block hV q zO).trans (k2 q hq)))
   replace⟨hDZ,hFC⟩:=zH2 hDZ hFC;replace s2:=trivial;clear hBM hgd hvd;go_upto_region 13 with(simp only[hFO])
   refine qw zQ ?_;refine Qb (w:=w2) qp (qV []) (List.replicate 9 true) 1 zQ zQ zQ zQ zQ zQ zQ ?st (Rel.drew _ _) ?walk
   case st=>exact ql (λ_ h=>by cases h)
   case walk=>
    intro K hK;dsimp only[qA,List.replicate];refine zB6 ?_;refine qe (l (x ⟨W.heap.size,(i+m)*5,F⟩) (tot-(i+m)) (C-(i+m))) zA0 zA0 (λW hW _=>⟨W,?_,Rel.refl _ W⟩) ?_
    ·go_simp;rw[hw1.out,Int.toNat_natCast,if_pos zO,if_neg zO]
    refine zB6 ?_;refine qe (l (x ⟨g,j*5,F⟩) r (cap-j)) zA0 zA0 (λW hW _=>⟨W,?_,Rel.refl _ W⟩) ?_
    ·go_simp;rw[hr.out,if_pos zO]
    refine zB6 ?_;refine qF (hK _ _ λV hV hF=>?_);clear hF hK;have hV:Ext w2 V:=hV;refine zB8 ?_;have hc2:=hFC.out V hV;go_wp2_with (simp only[hc2]);refine Qt ?_;go_wp2_with fail;go_ret;exact hDZ.out V hV
  have htm:=hKL.out;have hLK:(i+m)*5<=cur.size:=by rw[hcs];omega
  have hMQ:(i+m+r)*5<=cur.size:=by rw[hcs];omega
  have hti:i<=tot:=zO;have htim:i+m<=tot:=zO;have htlt:i+m<tot:=by have:=hnr.out;omega
  have hct':tot<=cap:=zO;have hcim:¬(cap=i+m):=zO;have hBM:∀V:D,V.heap[g]?=x (E (spl (spl cur (i+m) (xs.drop (j*5))) i vs) 51 (0,0))\/V.heap[g]?=x (E (spl (spl cur i vs) (i+m) (xs.drop (j*5))) 51 (0,0))->Below lo w V->(∀q,q<W.heap.size->q≠g->V.heap[q]?=W.heap[q]?)->Vh lo (l g n cap) tot (xs.take (i*5)++vs++xs.drop (j*5)) w (y (l g tot cap)) V:=λV h1 h2 h3=>by
   refine⟨_,rfl,?_,h2,λq hq hn=>(h3 q zO (λe=>hn (by rw[e];rfl))).trans (Below.block hW q hq)⟩;rcases h1 with h1|h1
   refine RowI.own ⟨_,h1,?_,?_⟩ hyl.out hFE hct' hcm.out;rw[QK hvl (by rw[QK hdl zO];omega),QK hdl zO,hcs];have:=spl_two (r:=r) hA2.out hvl hdl zO;rw[<-htm]at this;exact this;refine RowI.own ⟨_,h1,?_,?_⟩ hyl.out hFE hct' hcm.out;rw[QK hdl (by rw[QK hvl zO];omega),QK hvl zO,hcs];have e1:=Yi hA2.out hvl zO;have e2:=Yi e1 hdl (by rw[QK hvl zO];omega);rw[<-e2,htm]
  replace hBM:=zH hBM;by_cases hm1:m=1
  ·have hjm:j=i+m:=by have:=hjE.out;omega
   have hgd2:∀V:D,V.heap[g]?=x (E (spl cur i vs) 51)->∀q u,(xs.drop (j*5))[q]?=x u->V.cell? (((g,j*5):Addr).add q)=x u:=λV hV q u hu=>by
    have h1:=hgd W hWg q u hu;rw[Addr.add_lit,qa (hWg.trans hg),<-Array.getElem?_toList]at h1;rw[Addr.add_lit,qa hV,<-Array.getElem?_toList];have e:(spl cur i vs).toList=(cur.toList.take (i*5)++vs)++cur.toList.drop (i*5+vs.length):=by unfold spl;rw[List.toList_toArray]
    have hl:(cur.toList.take (i*5)++vs).length=(i+m)*5:=by rw[List.length_append,List.length_take,Array.length_toList];omega
    rw[e,List.getElem?_append_right (by rw[hl,hjm];omega),hl,List.getElem?_drop];rw[<-h1];congr 1;omega
   have hFO:∀ty,(Builtin.copy_ #[55,55] ty #[l (g,i*5) (tot-i) (cap-i),l vg m vcap]).run prog W=.ok (I .i64 (m:Nat)) (W.setRow g (spl cur i vs)):=λty=>
    Jb (k:=m) (o:=i) (hWg.trans hg) hvl hLK underlying55 hsz zA9 (hvd W hWv) h1v
   obtain⟨w2,hJA⟩:∃w2,w2=W.setRow g (spl cur i vs):=⟨_,rfl⟩
   rw[<-hJA]at hFO;have p2:w2.heap[g]?=x (E (spl cur i vs) 51):=by rw[hJA];exact setRow_heap _ _ _ _ _ _ (hWg.trans hg)
   have k2:∀q,q≠g->w2.heap[q]?=W.heap[q]?:=λq hq=>by rw[hJA];exact setRow_other _ _ _ _ hq
   have z2:w2.heap.size=W:=by rw[hJA];simp
   have B2:Below lo w w2:=by rw[hJA];exact Qv (Below.mono hW hlo) hlo hFE _
   have s2:=QK (cur:=cur) (o:=i) hvl hLK;clear hJA;have hFC:∀V:D,Ext w2 V->∀ty,(Builtin.copy_ #[55,55] ty #[l (g,(i+m)*5) (tot-(i+m)) (cap-(i+m)),l (g,j*5) r (cap-j)]).run prog V=.ok (I .i64 ((r:Nat):Int)) (V.setRow g (spl (spl cur i vs) (i+m) (xs.drop (j*5)))):=λV hV ty=>
    Jb (k:=r) (o:=i+m) (qb p2 hV) hdl (by rw[s2];exact hMQ) underlying55 hsz zA9 (hgd2 V (qb p2 hV)) h1d
   have hDZ:∀V:D,Ext w2 V->Vh lo (l g n cap) tot (xs.take (i*5)++vs++xs.drop (j*5)) w (y (l g tot cap)) (V.setRow g (spl (spl cur i vs) (i+m) (xs.drop (j*5)))):=λV hV=>
    hBM.out _ (.inr (setRow_heap _ _ _ _ _ _ (qb p2 hV))) (Qv (B2.trans (Below.mono hV zO)) hlo hFE _) (λq hq hne=>(setRow_other _ _ _ _ hne).trans ((Below.block hV q zO).trans (k2 q hne)))
   replace⟨hDZ,hFC⟩:=zH2 hDZ hFC;have hle3:(i:Int)+(m:Int)<=(j:Int):=zO;have htn:tot=n:=by have:=hjE.out;have:=hnr.out;omega
   replace⟨hr,htn,hjm,hm1⟩:=zH4 hr htn hjm hm1;clear hBM hgd hgd2 hvd htk hdl hvl hxl hcs hvs hvt hb1 hb2 hji htm hj hnm s2 p2;go_upto_region 18 with(simp only[hFO])
   refine qw zQ ?_;refine Qb (w:=w2) qp (qV []) (List.replicate 9 true) 1 zQ zQ zQ zQ zQ zQ zQ ?st (Rel.drew _ _) ?walk
   case st=>exact ql (λ_ h=>by cases h)
   case walk=>
    intro K hK;dsimp only[qA,List.replicate];refine zB6 ?_;refine qe (l (x ⟨g,(i+m)*5,F⟩) (tot-(i+m)) (cap-(i+m))) zA0 zA0 (λW hW _=>⟨W,?_,Rel.refl _ W⟩) ?_
    ·go_simp;rw[hw1.out,Int.toNat_natCast,if_pos zO,if_neg zO]
    refine zB6 ?_;refine qe (l (x ⟨g,j*5,F⟩) r (cap-j)) zA0 zA0 (λW hW _=>⟨W,?_,Rel.refl _ W⟩) ?_
    ·go_simp;rw[hr.out,if_pos zO]
    refine zB6 ?_;refine qF (hK _ _ λV hV hF=>?_);clear hF hK;have hV:Ext w2 V:=hV;refine zB8 ?_;have hc2:=hFC.out V hV;have hfn:=zH (hDZ.out V hV);clear hFC hDZ;generalize World.setRow V _ _=wf at*;have hPS:∀A c ty,(Builtin.clear_ #[55] ty #[l A (n-tot) c]).run prog wf=.ok (.tuple #[]) wf:=λA c ty=>by rw[show n-tot=0 by rw[htn.out];omega];exact UT A c wf ty
    have htn2:tot<=n:=by rw[htn.out];omega
    by_cases hqt:cap=tot
    ·subst hqt;go_wp2_with (simp only[hc2]);refine Qt ?_;go_wp2_with (first|simp only[hPS]|simp only[UT]);go_ret;have:=hfn.out;simp only[List.append_assoc]at this⊢;exact this
    go_wp2_with (simp only[hc2]);refine Qt ?_;go_wp2_with (first|simp only[hPS]|simp only[UT]);go_ret;have:=hfn.out;simp only[List.append_assoc]at this⊢;exact this
  have hm2:2<=m:=zO;have hov:∀la ca lb cb,(callFunc 167 #[l (g,(i+m)*5) lb cb,l vg la ca]).run prog W=.ok (.value (.bool false)) W:=λla ca lb cb=>GT W vg 0 la ca g lb cb vcur cur (hWv.trans hvg) (hWg.trans hg) (λe=>hWT e.symm) zO _;have hFO:∀V:D,Ext W V->∀ty dc sc,(Builtin.copy_ #[55,55] ty #[l (g,(i+m)*5) (tot-(i+m)) dc,l (g,j*5) r sc]).run prog V=.ok (I .i64 ((r:Nat):Int)) (V.setRow g (spl cur (i+m) (xs.drop (j*5)))):=λV hV ty dc sc=>
   Jb (k:=r) (o:=i+m) (qb (hWg.trans hg) hV) hdl hMQ underlying55 hsz zA9 (hgd V ((Below.block hV g zO).trans hWg)) h1d
  have s1:=QK (cur:=cur) (o:=i+m) hdl hMQ;have hFC:∀V:D,Ext W V->∀ty dc,(Builtin.copy_ #[55,55] ty #[l (g,i*5) (tot-i) dc,l vg m vcap]).run prog (V.setRow g (spl cur (i+m) (xs.drop (j*5))))=.ok (I .i64 (m:Nat)) ((V.setRow g (spl cur (i+m) (xs.drop (j*5)))).setRow g (spl (spl cur (i+m) (xs.drop (j*5))) i vs)):=λV hV ty dc=>
   Jb (k:=m) (o:=i) (setRow_heap _ _ _ _ _ _ (qb (hWg.trans hg) hV)) hvl (by rw[s1];exact hLK) underlying55 hsz zA9 (hvd _ ((setRow_other _ _ _ _ hWT).trans ((Below.block hV vg zO).trans hWv))) h1v
  have hDZ:∀V:D,Ext W V->Vh lo (l g n cap) tot (xs.take (i*5)++vs++xs.drop (j*5)) w (y (l g tot cap)) ((V.setRow g (spl cur (i+m) (xs.drop (j*5)))).setRow g (spl (spl cur (i+m) (xs.drop (j*5))) i vs)):=λV hV=>
   hBM.out _ (.inl (setRow_heap _ _ _ _ _ _ (setRow_heap _ _ _ _ _ _ (qb (hWg.trans hg) hV)))) (Qv (Qv (Below.mono (hW.trans hV) hlo) hlo hFE _) hlo hFE _) (λq hq hne=>(setRow_other _ _ _ _ hne).trans ((setRow_other _ _ _ _ hne).trans (Below.block hV q hq)))
  replace⟨hDZ,hFO,hFC⟩:=zH3 hDZ hFO hFC;have hQD:¬(i+m<=j):=by have:=hjE.out;omega
  have hle3:¬((i:Int)+(m:Int)<=(j:Int)):=by have:=hjE.out;omega
  replace hr:=zH hr;clear hBM hgd hvd htk hdl hvl hxl hcs hvs hvt hb1 hb2 hji htm hj hnm s1 hm1 hm2;go_upto_region 22 with(simp only[hov])
  refine qw zQ ?_;refine Qb (w:=W) qp (qV []) (List.replicate 9 true) 1 zQ zQ zQ zQ zQ zQ zQ ?st (Rel.drew _ _) ?walk
  case st=>exact ql (λ_ h=>by cases h)
  case walk=>
   intro K hK;dsimp only[qA,List.replicate];refine zB6 ?_;refine qe (l (x ⟨g,(i+m)*5,F⟩) (tot-(i+m)) (cap-(i+m))) zA0 zA0 (λW hW _=>⟨W,?_,Rel.refl _ W⟩) ?_
   ·go_simp;rw[hw1.out,Int.toNat_natCast,if_pos zO,if_neg zO]
   refine zB6 ?_;refine qe (l (x ⟨g,j*5,F⟩) r (cap-j)) zA0 zA0 (λW hW _=>⟨W,?_,Rel.refl _ W⟩) ?_
   ·go_simp;rw[hr.out,if_pos zO]
   refine zB6 ?_;refine qF (hK _ _ λV hV hF=>?_);clear hF hK;have hV:Ext W V:=hV;refine zB8 ?_;have hc1:=hFO.out V hV;have hc2:=hFC.out V hV;have hfn:=zH (hDZ.out V hV);clear hFO hFC hDZ hov;generalize World.setRow (World.setRow V _ _) _ _=wf at*;generalize World.setRow V _ _=wm at*;go_wp2_with (simp only[hc1]);refine Qt ?_;go_wp2_with (simp only[hc2]);go_ret;exact hfn.out
end Go.Proofs.YtmeadnlmepcmbaaGreat
