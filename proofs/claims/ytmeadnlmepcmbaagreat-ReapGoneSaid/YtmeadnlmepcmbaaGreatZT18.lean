/- Lemmas of the proof. -/
import Derived.Test.YtmeadnlmepcmbaaGreatZT17
set_option linter.all false
set_option maxHeartbeats 8000000
open Go.Proofs.Tryz
open Go.Value renaming slice→l,int→I
open Option renaming some→x,none→F
open Go.Ending renaming returned→y
open Go renaming World→D
open Go.Obj renaming cells→E
namespace Go.Proofs.YtmeadnlmepcmbaaGreat
open Go.RowKit
variable {cur:Array Value}
theorem spl_two{i m r:Nat}{A vs ys:List Value}(hA:cur.toList.take (i*5)=A)(hv:vs.length=m*5)(hy:ys.length=r*5)(h:(i+m+r)*5<=cur.size):(spl (spl cur (i+m) ys) i vs).toList.take ((i+m+r)*5)=A++vs++ys:=by
 have e1:(spl cur (i+m) ys).toList=cur.toList.take ((i+m)*5)++ys++cur.toList.drop ((i+m)*5+ys.length):=by unfold spl;rw[List.toList_toArray]
 have lq:(cur.toList.take ((i+m)*5)).length=(i+m)*5:=by rw[List.length_take,Array.length_toList];omega
 have e2:(spl cur (i+m) ys).toList.take (i*5)=A:=by rw[e1,List.append_assoc,List.take_append_of_le_length zO,List.take_take,Nat.min_eq_left zO,hA]
 have e3:(spl cur (i+m) ys).toList.drop (i*5+vs.length)=ys++cur.toList.drop ((i+m)*5+ys.length):=by rw[e1,List.append_assoc];have:i*5+vs.length=(cur.toList.take ((i+m)*5)).length:=zO;rw[this];exact List.drop_left
 generalize hY:spl cur (i+m) ys=Y at*;unfold spl;rw[List.toList_toArray,e2,e3,<-List.append_assoc];have ht:A.length=i*5:=by rw[<-hA,List.length_take,Array.length_toList];omega
 have:(i+m+r)*5=(A++vs++ys).length:=by simp only[List.length_append];omega
 rw[this];exact List.take_left
theorem UK(A c)(W:D)(ty:TypeId):(Builtin.clear_ #[55] ty #[l A 0 c]).run prog W=.ok (.tuple #[]) W:=by rcases A with _|a<;>simp[Builtin.clear_,run_underlying underlying55]
set_option maxRecDepth 100000 in
theorem qbz(lo:Nat)(s:Value)(n i many:Nat)(xs:List Value)(v:Value)(m lov:Nat)(vs:List Value)(w:D)(ho:w.ownsRow lo 51 5 s n xs)(hv:w.ownsRow lov 51 5 v m vs)(mJ:∀q,v.ownBlock=x q->s.ownBlock≠x q)(hm:0<m)(yO:n+m<=100)(hTK:many=0\/many=1)(hj:i+many<=n)(uY:∀u∈xs,u.oneCell'=true)(og:∀u∈vs,u.oneCell'=true)(aQ:lo<=w):Calls prog 119 #[s,(i:Int),I .i64 ((i+many:Nat):Int),v] w (vY lo s (n-many+m) (xs.take (i*5)++vs++xs.drop ((i+many)*5)) w):=by
 rcases hTK with rfl|rfl
 ·have HI:=zH (qjz lo s n i xs v m lov vs w ho hv mJ hm yO zO uY og aQ);simp only[Nat.add_zero,Nat.sub_zero];have hin:i<=n:=zO;obtain⟨Av,cv,rfl,-,-⟩:=qC hv;rcases ho.2 with⟨rfl,rfl⟩|⟨g,c,cur,rfl,-,-,dP,-,-,-⟩
  ·obtain rfl:i=0:=zO;clear ho hv mJ uY og;go_enter func119,ntmps119;go_wp2_with fail;refine HI.out.mono ?_;rintro e W ⟨v',rfl,h1,h2,h3⟩;have hF:=zH (show vY lo (l F 0 0) (0+m) (xs.take (0*5)++vs++xs.drop (0*5)) w (y v') W from⟨v',rfl,h1,h2,h3⟩);clear h1 h2 h3 HI;go_wp2_with fail;go_ret;exact hF.out
  clear ho hv mJ uY og;go_enter func119,ntmps119;by_cases hci:c=i
  ·have hLW:c-i=0:=zO;go_upto_region 2 with fail;clear dP hci hLW hin;go_upto_region 3 with fail;go_wp2_with fail;refine HI.out.mono ?_;rintro e W ⟨v',rfl,h1,h2,h3⟩;have hF:=zH (show vY lo (l (x ⟨g,0,F⟩) n c) (n+m) (xs.take (i*5)++vs++xs.drop (i*5)) w (y v') W from⟨v',rfl,h1,h2,h3⟩);clear h1 h2 h3 HI;go_wp2_with fail;go_ret;exact hF.out
  have hci3:¬(c<=i):=zO;have hii:(i:Int)<=(i:Int):=Int.le_refl _;go_upto_region 2 with fail;clear dP hci hci3 hii hin;go_upto_region 3 with fail;go_wp2_with fail;refine HI.out.mono ?_;rintro e W ⟨v',rfl,h1,h2,h3⟩;have hF:=zH (show vY lo (l (x ⟨g,0,F⟩) n c) (n+m) (xs.take (i*5)++vs++xs.drop (i*5)) w (y v') W from⟨v',rfl,h1,h2,h3⟩);clear h1 h2 h3 HI;go_wp2_with fail;go_ret;exact hF.out
 obtain⟨i0,lh,aZ,aT,aX⟩:=info_parts Tryz.info_item;have ax:=hv.1;have iG:=ho.1;obtain⟨vg,vcap,vcur,rfl,hNV,hvg,hvc,yX,hvs,hvt⟩:∃g cap cur,v=l (x ⟨g,0,F⟩) m cap/\lov<=g/\w.heap[g]?=x (E cur 51)/\m<=cap/\cap<=maxLen/\cur.size=cap*5/\cur.toList.take (m*5)=vs:=by
  rcases hv.2 with⟨_,h0⟩|h
  omega;exact h
 obtain⟨g,cap,cur,rfl,dQ,hg,fQ,eP,ay,rQ⟩:∃g cap cur,s=l (x ⟨g,0,F⟩) n cap/\lo<=g/\w.heap[g]?=x (E cur 51)/\n<=cap/\cap<=maxLen/\cur.size=cap*5/\cur.toList.take (n*5)=xs:=by
  rcases ho.2 with⟨_,h0⟩|h
  omega;exact h
 have fC:=Gg hv;have hrv:Rd w w 5 vg m vs:=Rd.of_own hv;have hBX:vg≠g:=λe=>mJ vg rfl (by rw[e];rfl);have hgl:=(zG.1 hg).1;have hBY:=(zG.1 hvg).1;have mM:(xs.take (i*5)).length=i*5:=by rw[List.length_take];omega
 have dw:w.ownsRow lo 51 5 (l g i cap) i (xs.take (i*5)):=⟨mM,.inr ⟨g,cap,cur,rfl,dQ,hg,zO,eP,ay,by rw[<-rQ,List.take_take,Nat.min_eq_left zO]⟩⟩
 have hsz:(Tryz.prog.info? 51).map (·.size)=x 5:=by rw[lh];simp[aT]
 obtain⟨j,fP⟩:∃j,j=i+1:=⟨_,rfl⟩
 rw[<-fP]at hj⊢;have hij:((i:Int)==(j:Int))=false:=by rw[beq_eq_false_iff_ne];omega
 have hci:¬(cap=i):=zO;have hji:j-i=1:=zO;have bg:(i:Int)<=(j:Int):=zO;have bP:(j:Int)<=(cap:Int):=zO;have dC:(0:Int)<=(i:Int):=zO;have lW:i<=cap:=zO;replace⟨eP,yX,fP,uY⟩:=zH4 eP yX fP uY;clear mJ ho hv;by_cases hjn:j=n
 ·have hd0:xs.drop (j*5)=[]:=List.drop_eq_nil_of_le zO;rw[hd0,List.append_nil,show n-1+m=i+m by have:=fP.out;omega];have e1:((j:Int)==(n:Int))=true:=by rw[beq_iff_eq];omega
  have hin:i<n:=by have:=fP.out;omega
  have e3:decide ((i:Int)+(m:Int)<(n:Int))=false:=decide_eq_false (by have:=fP.out;omega);have aN:∀(v':Value)(W:D),W.ownsRow lo 51 5 v' (i+m) (xs.take (i*5)++vs)->w.grownBy W (Value.slice g i cap).ownBlock->Below lo w W->vY lo (l g n cap) (i+m) (xs.take (i*5)++vs) w v' W:=λv' W h1 h2 h3=>⟨v',rfl,h1,h3,λq hq hn=>h2.block q hq λe=>hn e.symm⟩
  replace aN:=zH aN;clear hjn hd0 hg hvg rQ hvt fC mM ay hvs ax iG fQ hvc;go_enter func119,ntmps119;go_upto_region 2 with fail;clear bg bP hci hji;go_wp2_with (at_builtin;refine qV ?_);refine Qm.go (QB _ rfl (.tmp 32) (.tmp 33) 55 rfl lo 51 i0 _ 5 48 underlying55 lh aZ aT aX rfl zA1 (l (x ⟨g,0,F⟩) i cap) i (xs.take (i*5)) rfl dw w.heap.size _ m vcap vs zE hrv og zO zA1 aQ ?_);intro v' W h1 h2 h3 _;have hF:=zH (aN.out v' W h1 h2 h3);obtain⟨A7,c7,rfl,-,-⟩:=qC h1;clear aN h1 h2 dw hrv;go_wp2_with fail;go_ret;exact hF.out
 have mW:j<n:=zO;have f1:((j:Int)==(n:Int))=false:=by rw[beq_eq_false_iff_ne];omega
 obtain⟨r,hr⟩:∃r,n-j=r:=⟨_,rfl⟩
 have hnr:n=j+r:=zO;have dV:(xs.drop (j*5)).length=r*5:=by rw[List.length_drop];omega
 have yY:∀u∈xs.drop (j*5),u.oneCell'=true:=λu hu=>uY.out u (List.mem_of_mem_drop hu);have hA:cur.toList.take (i*5)=xs.take (i*5):=by rw[<-rQ,List.take_take,Nat.min_eq_left zO]
 obtain⟨tot,lS⟩:∃tot,tot=i+m+r:=⟨_,rfl⟩
 have fV:∀W:D,W.heap[g]?=w.heap[g]?->∀q u,(xs.drop (j*5))[q]?=x u->W.cell? (((g,j*5):Addr).add q)=x u:=λW hW q u hu=>by rw[Addr.add_lit,qa (hW.trans hg),<-Array.getElem?_toList];rw[List.getElem?_drop,<-rQ,List.getElem?_take]at hu;split at hu;exact hu;cases hu
 have lU:∀W:D,W.heap[vg]?=w.heap[vg]?->∀q u,vs[q]?=x u->W.cell? ((vg:Addr).add q)=x u:=λW hW q u hu=>by rw[World.cell?_of_block (w:=w) (by rw[Addr.add_lit];exact hW)];exact fC q u hu
 have htb:tot<=200:=zO;have yT:n-1+m=tot:=by have:=fP.out;omega
 rw[yT];have ni:(xs.take (i*5)++vs++xs.drop (j*5)).length=tot*5:=by simp only[List.length_append,mM,ax,dV];omega
 have aA:=zH (show IntKind.i64.wrap ((i:Int)+(m:Int))=((i+m:Nat):Int)by rw[IntKind.wrap_i64];omega);have cO:=zH (show IntKind.i64.wrap (((i+m:Nat):Int)+(r:Int))=((tot:Nat):Int)by rw[IntKind.wrap_i64];omega);clear dw hrv fC;replace⟨ni,lS,hnr,yT⟩:=zH4 ni lS hnr yT;go_enter func119,ntmps119;go_upto_region 2 with fail;go_upto_region 9 with fail;refine qt zQ ?_;refine qY (w:=w) qm (qP []) (List.replicate 13 true) 0 zQ zQ zQ zQ zQ zQ zQ ?st (Rel.drew _ _) ?walk
 case st=>exact qk (λ_ h=>by cases h)
 case walk=>
  intro K hK;dsimp only[qv,List.replicate];refine zB7 ?_;refine qB (hK _ _ λW hW hF=>?_);clear hF hK;have hW:Ext w W:=hW;refine zC4 ?_;go_wp2;refine Qq ?_;rw[aA.out,cO.out];have hWg:=(Below.block hW g hgl)
  have hWv:=(Below.block hW vg hBY)
  have hWz:=hW.size;have hA2:=zH hA;clear hA rQ;by_cases hcap:cap<tot
  ·obtain⟨k,hk⟩:∃k,k=tot-i:=⟨_,rfl⟩
   have hkm:k=m+r:=by have:=lS.out;omega
   have hkt:i+k=tot:=by have:=lS.out;omega
   have eX:(tot:Int)-(i:Int)=((k:Nat):Int):=zO;obtain⟨C,hC⟩:∃C,C=grownCap W (i+k) cap 51:=⟨_,rfl⟩
   have hCge:i+k<=C:=by rw[hC];exact grownCap_ge W (i+k) cap _
   have hCm:C<=maxLen:=by rw[hC];exact grownCap_le_maxLen W (i+k) cap _ zA7
   obtain⟨cur0,lD⟩:∃cur0:Array Value,cur0=(xs.take (i*5)).toArray++Builtin.zeroCells (Value.agg #[I .u8 0,I .u32 0,I .u32 0,I .i64 0,l F 0 0]).cells k++Builtin.zeroCells (Value.agg #[I .u8 0,I .u32 0,I .u32 0,I .i64 0,l F 0 0]).cells (C-(i+k)):=⟨_,rfl⟩
   have bH:∀ty (z:Int),z=(k:Int)->(Builtin.append_ #[55,3] ty #[l g i cap,z]).run prog W=.ok (l W (i+k) C) (W.drew.alloc (E cur0 51)):=λty z hz=>by
    rw[hz,hC,lD,hC];exact Lib.run_append_grow_zeros (P:=prog) W 55 3 ty 51 i0 _ .i64 .i64 underlying55 underlying3 lh aZ (x ⟨g,0,F⟩) i cap (xs.take (i*5)) (by
     rw[aT];exact run_firstCells_some W.drew 5 i ⟨g,0,F⟩ i cap (xs.take (i*5)) (by rw[List.length_take];omega) (λq u hu=>by
      rw[Addr.add_lit,Nat.zero_add];show W.cell? _=_;rw[qa (hWg.trans hg),<-Array.getElem?_toList];rw[<-hA2.out,List.getElem?_take]at hu;split at hu;exact hu
      ·cases hu)) k zO zO zO zO (by rw[aX];omega) (by rw[aX];exact growslice_fits zO zO)
   have dX:cur0.size=C*5:=by rw[lD];simp only[Array.size_append,List.size_toArray,size_zeroCells,List.length_take];simp only[Value.cells,List.size_toArray,List.length_cons,List.length_nil];omega
   have yB:cur0.toList.take (i*5)=xs.take (i*5):=by rw[lD];simp only[Array.toList_append,List.append_assoc];have:i*5=(xs.take (i*5)).length:=zO;rw[this];simp
   clear lD hC eX;rw[hkt]at hCge bH;have htm:=lS.out;have aN:∀V:D,V.heap[W.heap.size]?=x (E (spl (spl cur0 i vs) (i+m) (xs.drop (j*5))) 51 (0,0))->Below lo w V->(∀q,q<W.heap.size->V.heap[q]?=W.heap[q]?)->vY lo (l g n cap) tot (xs.take (i*5)++vs++xs.drop (j*5)) w (y (l W tot C)) V:=λV h1 h2 h3=>by refine⟨_,rfl,RowI.own ⟨_,h1,?_,?_⟩ ni.out zO zO hCm,h2,λq hq _=>(h3 q zO).trans (Below.block hW q hq)⟩;rw[QE (k:=r) dV (by rw[QE ax zO];omega),QE ax zO,dX];have e1:=KY yB ax zO;have e2:=KY e1 dV (by rw[QE ax zO];omega);rw[<-e2,htm]
   have hCi:¬(C=i):=zO;have hCim:¬(C=i+m):=zO;replace⟨aN,yB,hCm,hk,hkt⟩:=zH5 aN yB hCm hk hkt;have hti:i<=tot:=zO;have hti2:(i:Int)<=(tot:Int):=zO;have htim:i+m<=tot:=zO;clear bg bP hji dC hkm htm hj yO;have hci3:(i:Int)<=(cap:Int):=zO;have mQ:(i+m)*5<=cur0.size:=by rw[dX];omega
   have oI:(i+m+r)*5<=cur0.size:=by rw[dX];have:=lS.out;omega
   replace⟨mQ,oI,ax,hr,hcap,dV⟩:=zH6 mQ oI ax hr hcap dV;replace mM:=trivial;clear iG ay hvs hvt dX;go_wp2_with (at_builtin;refine qV ?_);refine Qm.go (Lib.wpList_append_run _ rfl _ _ _ _ rfl _ _ zE zE _ _ (bH _ _ ?hz) ?nx)
   case hz=>have h1:=hk.out;omega
   clear bH;generalize nP:World.alloc _ _=w1;have p1:w1.heap[W.heap.size]?=x (E cur0 51):=nP▸zI _ _ _ rfl;have k1:∀q,q<W.heap.size->w1.heap[q]?=W.heap[q]?:=λq hq=>by rw[<-nP];exact zK _ _ _ hq
   have z1:W.heap.size<=w1:=by rw[<-nP];simp
   have B1:Below lo w w1:=nP▸Below.mono (hW.trans ((Ext.drew W).trans (zN _ _))) aQ;clear nP;have dm:∀ty,(Builtin.copy_ #[55,55] ty #[l (W,i*5) (tot-i) (C-i),l vg m vcap]).run prog w1=.ok (I .i64 (m:Nat)) (w1.setRow W (spl cur0 i vs)):=λty=>
    jV (k:=m) (o:=i) p1 ax.out mQ.out underlying55 hsz (by simp only[Nat.min_def];have:=lS.out;split<;>omega) (lU w1 ((k1 _ zO).trans hWv)) og
   obtain⟨w2,iF⟩:∃w2,w2=w1.setRow W (spl cur0 i vs):=⟨_,rfl⟩
   rw[<-iF]at dm;have p2:w2.heap[W.heap.size]?=x (E (spl cur0 i vs) 51):=by rw[iF];exact setRow_heap _ _ _ _ _ _ p1
   have k2:∀q,q<W.heap.size->w2.heap[q]?=W.heap[q]?:=λq hq=>by rw[iF];exact(setRow_other _ _ _ _ zO).trans (k1 q hq)
   have z2:W.heap.size<=w2:=by rw[iF];simpa using z1
   have B2:Below lo w w2:=by rw[iF];exact Qv B1 aQ zO _
   have s2:=QE (cur:=cur0) (o:=i) ax.out mQ.out;clear iF p1 k1 z1;have dJ:∀V:D,Ext w2 V->∀ty,(Builtin.copy_ #[55,55] ty #[l (W,(i+m)*5) (tot-(i+m)) (C-(i+m)),l (g,j*5) r (cap-j)]).run prog V=.ok (I .i64 ((r:Nat):Int)) (V.setRow W (spl (spl cur0 i vs) (i+m) (xs.drop (j*5)))):=λV hV ty=>
    jV (k:=r) (o:=i+m) (qb p2 hV) dV.out (by rw[s2];exact oI.out) underlying55 hsz (by simp only[Nat.min_def];have:=lS.out;split<;>omega) (fV V ((Below.block hV g zO).trans ((k2 _ zO).trans hWg))) yY
   have ak:∀V:D,Ext w2 V->vY lo (l g n cap) tot (xs.take (i*5)++vs++xs.drop (j*5)) w (y (l W tot C)) (V.setRow W (spl (spl cur0 i vs) (i+m) (xs.drop (j*5)))):=λV hV=>
    aN.out _ (setRow_heap _ _ _ _ _ _ (qb p2 hV)) (Qv (B2.trans (Below.mono hV zO)) aQ zO _) (λq hq=>(setRow_other _ _ _ _ zO).trans ((Below.block hV q zO).trans (k2 q hq)))
   replace⟨ak,dJ⟩:=zH2 ak dJ;replace s2:=trivial;clear aN fV lU;go_upto_region 13 with(simp only[dm])
   refine qt zQ ?_;refine qY (w:=w2) qm (qP []) (List.replicate 9 true) 1 zQ zQ zQ zQ zQ zQ zQ ?st (Rel.drew _ _) ?walk
   case st=>exact qk (λ_ h=>by cases h)
   case walk=>
    intro K hK;dsimp only[qv,List.replicate];refine zB7 ?_;refine qd (l (x ⟨W.heap.size,(i+m)*5,F⟩) (tot-(i+m)) (C-(i+m))) zA0 zA0 (λW hW _=>⟨W,?_,Rel.refl _ W⟩) ?_
    ·go_simp;rw[aA.out,Int.toNat_natCast,if_pos zO,if_neg zO]
    refine zB7 ?_;refine qd (l (x ⟨g,j*5,F⟩) r (cap-j)) zA0 zA0 (λW hW _=>⟨W,?_,Rel.refl _ W⟩) ?_
    ·go_simp;rw[hr.out,if_pos zO]
    refine zB7 ?_;refine qB (hK _ _ λV hV hF=>?_);clear hF hK;have hV:Ext w2 V:=hV;refine zC4 ?_;have au:=dJ.out V hV;go_wp2_with (simp only[au]);refine Qq ?_;go_wp2_with fail;go_ret;exact ak.out V hV
  have htm:=lS.out;have mQ:(i+m)*5<=cur.size:=by rw[ay];omega
  have oI:(i+m+r)*5<=cur.size:=by rw[ay];omega
  have hti:i<=tot:=zO;have htim:i+m<=tot:=zO;have htlt:i+m<tot:=by have:=hnr.out;omega
  have hct':tot<=cap:=zO;have hcim:¬(cap=i+m):=zO;have aN:∀V:D,V.heap[g]?=x (E (spl (spl cur (i+m) (xs.drop (j*5))) i vs) 51 (0,0))\/V.heap[g]?=x (E (spl (spl cur i vs) (i+m) (xs.drop (j*5))) 51 (0,0))->Below lo w V->(∀q,q<W.heap.size->q≠g->V.heap[q]?=W.heap[q]?)->vY lo (l g n cap) tot (xs.take (i*5)++vs++xs.drop (j*5)) w (y (l g tot cap)) V:=λV h1 h2 h3=>by
   refine⟨_,rfl,?_,h2,λq hq hn=>(h3 q zO (λe=>hn (by rw[e];rfl))).trans (Below.block hW q hq)⟩;rcases h1 with h1|h1
   refine RowI.own ⟨_,h1,?_,?_⟩ ni.out dQ hct' eP.out;rw[QE ax (by rw[QE dV zO];omega),QE dV zO,ay];have:=spl_two (r:=r) hA2.out ax dV zO;rw[<-htm]at this;exact this;refine RowI.own ⟨_,h1,?_,?_⟩ ni.out dQ hct' eP.out;rw[QE dV (by rw[QE ax zO];omega),QE ax zO,ay];have e1:=KY hA2.out ax zO;have e2:=KY e1 dV (by rw[QE ax zO];omega);rw[<-e2,htm]
  replace aN:=zH aN;by_cases hm1:m=1
  ·have hjm:j=i+m:=by have:=fP.out;omega
   have hgd2:∀V:D,V.heap[g]?=x (E (spl cur i vs) 51)->∀q u,(xs.drop (j*5))[q]?=x u->V.cell? (((g,j*5):Addr).add q)=x u:=λV hV q u hu=>by
    have h1:=fV W hWg q u hu;rw[Addr.add_lit,qa (hWg.trans hg),<-Array.getElem?_toList]at h1;rw[Addr.add_lit,qa hV,<-Array.getElem?_toList];have e:(spl cur i vs).toList=(cur.toList.take (i*5)++vs)++cur.toList.drop (i*5+vs.length):=by unfold spl;rw[List.toList_toArray]
    have hl:(cur.toList.take (i*5)++vs).length=(i+m)*5:=by rw[List.length_append,List.length_take,Array.length_toList];omega
    rw[e,List.getElem?_append_right (by rw[hl,hjm];omega),hl,List.getElem?_drop];rw[<-h1];congr 1;omega
   have dm:∀ty,(Builtin.copy_ #[55,55] ty #[l (g,i*5) (tot-i) (cap-i),l vg m vcap]).run prog W=.ok (I .i64 (m:Nat)) (W.setRow g (spl cur i vs)):=λty=>
    jV (k:=m) (o:=i) (hWg.trans hg) ax mQ underlying55 hsz zA9 (lU W hWv) og
   obtain⟨w2,iF⟩:∃w2,w2=W.setRow g (spl cur i vs):=⟨_,rfl⟩
   rw[<-iF]at dm;have p2:w2.heap[g]?=x (E (spl cur i vs) 51):=by rw[iF];exact setRow_heap _ _ _ _ _ _ (hWg.trans hg)
   have k2:∀q,q≠g->w2.heap[q]?=W.heap[q]?:=λq hq=>by rw[iF];exact setRow_other _ _ _ _ hq
   have z2:w2.heap.size=W:=by rw[iF];simp
   have B2:Below lo w w2:=by rw[iF];exact Qv (Below.mono hW aQ) aQ dQ _
   have s2:=QE (cur:=cur) (o:=i) ax mQ;clear iF;have dJ:∀V:D,Ext w2 V->∀ty,(Builtin.copy_ #[55,55] ty #[l (g,(i+m)*5) (tot-(i+m)) (cap-(i+m)),l (g,j*5) r (cap-j)]).run prog V=.ok (I .i64 ((r:Nat):Int)) (V.setRow g (spl (spl cur i vs) (i+m) (xs.drop (j*5)))):=λV hV ty=>
    jV (k:=r) (o:=i+m) (qb p2 hV) dV (by rw[s2];exact oI) underlying55 hsz zA9 (hgd2 V (qb p2 hV)) yY
   have ak:∀V:D,Ext w2 V->vY lo (l g n cap) tot (xs.take (i*5)++vs++xs.drop (j*5)) w (y (l g tot cap)) (V.setRow g (spl (spl cur i vs) (i+m) (xs.drop (j*5)))):=λV hV=>
    aN.out _ (.inr (setRow_heap _ _ _ _ _ _ (qb p2 hV))) (Qv (B2.trans (Below.mono hV zO)) aQ dQ _) (λq hq aH=>(setRow_other _ _ _ _ aH).trans ((Below.block hV q zO).trans (k2 q aH)))
   replace⟨ak,dJ⟩:=zH2 ak dJ;have hle3:(i:Int)+(m:Int)<=(j:Int):=zO;have htn:tot=n:=by have:=fP.out;have:=hnr.out;omega
   replace⟨hr,htn,hjm,hm1⟩:=zH4 hr htn hjm hm1;clear aN fV hgd2 lU mM dV ax iG ay hvs hvt bg bP hji htm hj yO s2 p2;go_upto_region 18 with(simp only[dm])
   refine qt zQ ?_;refine qY (w:=w2) qm (qP []) (List.replicate 9 true) 1 zQ zQ zQ zQ zQ zQ zQ ?st (Rel.drew _ _) ?walk
   case st=>exact qk (λ_ h=>by cases h)
   case walk=>
    intro K hK;dsimp only[qv,List.replicate];refine zB7 ?_;refine qd (l (x ⟨g,(i+m)*5,F⟩) (tot-(i+m)) (cap-(i+m))) zA0 zA0 (λW hW _=>⟨W,?_,Rel.refl _ W⟩) ?_
    ·go_simp;rw[aA.out,Int.toNat_natCast,if_pos zO,if_neg zO]
    refine zB7 ?_;refine qd (l (x ⟨g,j*5,F⟩) r (cap-j)) zA0 zA0 (λW hW _=>⟨W,?_,Rel.refl _ W⟩) ?_
    ·go_simp;rw[hr.out,if_pos zO]
    refine zB7 ?_;refine qB (hK _ _ λV hV hF=>?_);clear hF hK;have hV:Ext w2 V:=hV;refine zC4 ?_;have au:=dJ.out V hV;have tN:=zH (ak.out V hV);clear dJ ak;generalize World.setRow V _ _=wf at*;have tC:∀A c ty,(Builtin.clear_ #[55] ty #[l A (n-tot) c]).run prog wf=.ok (.tuple #[]) wf:=λA c ty=>by rw[show n-tot=0 by rw[htn.out];omega];exact UK A c wf ty
    have htn2:tot<=n:=by rw[htn.out];omega
    by_cases hqt:cap=tot
    ·subst hqt;go_wp2_with (simp only[au]);refine Qq ?_;go_wp2_with (first|simp only[tC]|simp only[UK]);go_ret;have:=tN.out;simp only[List.append_assoc]at this⊢;exact this
    go_wp2_with (simp only[au]);refine Qq ?_;go_wp2_with (first|simp only[tC]|simp only[UK]);go_ret;have:=tN.out;simp only[List.append_assoc]at this⊢;exact this
  have iR:2<=m:=zO;have hov:∀la ca lb cb,(callFunc 167 #[l (g,(i+m)*5) lb cb,l vg la ca]).run prog W=.ok (.value (.bool false)) W:=λla ca lb cb=>GO W vg 0 la ca g lb cb vcur cur (hWv.trans hvg) (hWg.trans hg) (λe=>hBX e.symm) zO _;have dm:∀V:D,Ext W V->∀ty dc sc,(Builtin.copy_ #[55,55] ty #[l (g,(i+m)*5) (tot-(i+m)) dc,l (g,j*5) r sc]).run prog V=.ok (I .i64 ((r:Nat):Int)) (V.setRow g (spl cur (i+m) (xs.drop (j*5)))):=λV hV ty dc sc=>
   jV (k:=r) (o:=i+m) (qb (hWg.trans hg) hV) dV oI underlying55 hsz zA9 (fV V ((Below.block hV g zO).trans hWg)) yY
  have s1:=QE (cur:=cur) (o:=i+m) dV oI;have dJ:∀V:D,Ext W V->∀ty dc,(Builtin.copy_ #[55,55] ty #[l (g,i*5) (tot-i) dc,l vg m vcap]).run prog (V.setRow g (spl cur (i+m) (xs.drop (j*5))))=.ok (I .i64 (m:Nat)) ((V.setRow g (spl cur (i+m) (xs.drop (j*5)))).setRow g (spl (spl cur (i+m) (xs.drop (j*5))) i vs)):=λV hV ty dc=>
   jV (k:=m) (o:=i) (setRow_heap _ _ _ _ _ _ (qb (hWg.trans hg) hV)) ax (by rw[s1];exact mQ) underlying55 hsz zA9 (lU _ ((setRow_other _ _ _ _ hBX).trans ((Below.block hV vg zO).trans hWv))) og
  have ak:∀V:D,Ext W V->vY lo (l g n cap) tot (xs.take (i*5)++vs++xs.drop (j*5)) w (y (l g tot cap)) ((V.setRow g (spl cur (i+m) (xs.drop (j*5)))).setRow g (spl (spl cur (i+m) (xs.drop (j*5))) i vs)):=λV hV=>
   aN.out _ (.inl (setRow_heap _ _ _ _ _ _ (setRow_heap _ _ _ _ _ _ (qb (hWg.trans hg) hV)))) (Qv (Qv (Below.mono (hW.trans hV) aQ) aQ dQ _) aQ dQ _) (λq hq aH=>(setRow_other _ _ _ _ aH).trans ((setRow_other _ _ _ _ aH).trans (Below.block hV q hq)))
  replace⟨ak,dm,dJ⟩:=zH3 ak dm dJ;have pY:¬(i+m<=j):=by have:=fP.out;omega
  have hle3:¬((i:Int)+(m:Int)<=(j:Int)):=by have:=fP.out;omega
  replace hr:=zH hr;clear aN fV lU mM dV ax iG ay hvs hvt bg bP hji htm hj yO s1 hm1 iR;go_upto_region 22 with(simp only[hov])
  refine qt zQ ?_;refine qY (w:=W) qm (qP []) (List.replicate 9 true) 1 zQ zQ zQ zQ zQ zQ zQ ?st (Rel.drew _ _) ?walk
  case st=>exact qk (λ_ h=>by cases h)
  case walk=>
   intro K hK;dsimp only[qv,List.replicate];refine zB7 ?_;refine qd (l (x ⟨g,(i+m)*5,F⟩) (tot-(i+m)) (cap-(i+m))) zA0 zA0 (λW hW _=>⟨W,?_,Rel.refl _ W⟩) ?_
   ·go_simp;rw[aA.out,Int.toNat_natCast,if_pos zO,if_neg zO]
   refine zB7 ?_;refine qd (l (x ⟨g,j*5,F⟩) r (cap-j)) zA0 zA0 (λW hW _=>⟨W,?_,Rel.refl _ W⟩) ?_
   ·go_simp;rw[hr.out,if_pos zO]
   refine zB7 ?_;refine qB (hK _ _ λV hV hF=>?_);clear hF hK;have hV:Ext W V:=hV;refine zC4 ?_;have dP:=dm.out V hV;have au:=dJ.out V hV;have tN:=zH (ak.out V hV);clear dm dJ ak hov;generalize World.setRow (World.setRow V _ _) _ _=wf at*;generalize World.setRow V _ _=wm at*;go_wp2_with (simp only[dP]);refine Qq ?_;go_wp2_with (simp only[au]);go_ret;exact tN.out
end Go.Proofs.YtmeadnlmepcmbaaGreat
