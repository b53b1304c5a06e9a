/- Texts Reap, Left1, RoomyD, Chg, VOpen, ForW, ForW2, PoolC, VPut, SnapG, SnapS, SnapE, Snap, Freeze, Cre1, FreeN, joined. -/
import Derived.Test.YtpbniokljofedaaGreatZI31
set_option linter.unusedSimpArgs false
set_option linter.unusedVariables false
set_option maxHeartbeats 8000000
open Go.Proofs.Tryz
namespace Go.Proofs.YtpbniokljofedaaGreat
open Go.RowKit
theorem VY {R:Ending->World->Prop} {a:Act} {W:World} {b:Nat} {x0 x1 x2 x3 x4 x5 x6 x7 v:Value} (h4:a.tmps[2]?.getD undef=.pointer (some ⟨b,0,none⟩)) (h5:a.tmps[3]?.getD undef=v) (hd:a.defers=[]) (aC:W.heap[b]?=some (.cells #[x0,x1,x2,x3,x4,x5,x6,x7] 32 (0,0))) (hR:R (.returned (.tuple #[.agg #[x0,x1,x2,x3,x4,x5,x6,x7],v])) W):bodyPost prog Tryz.f35 R .ret a W:=by
 refine bodyPost_ret (v:=.tuple #[.agg #[x0,x1,x2,x3,x4,x5,x6,x7],v]) ?_ hd hR;have k:=qa aC;simp[results,results35,go_sem,h4,h5,k]
theorem Zk.front {w:World} {B:Nat} {A:Option Addr} {c:Nat} {ini:List Int} {x:Int} (h:Zk w B (.slice A (ini++[x]).length c) (ini++[x])):Zk w B (.slice A ini.length c) ini/\∃ b off,A=some ⟨b,off,none⟩/\w.cell? ⟨b,off+ini.length,none⟩=some (.int .i64 x):=by obtain⟨A',c',e,h1,h2,hr⟩:=h;cases e;have hl:0<(ini++[x]).length:=zA3;obtain⟨b,off,rfl,hb,hc⟩:=hr.2 hl;simp only[List.length_append,List.length_singleton] at h1;refine⟨⟨_,_,rfl,zO,h2,by simp[vQ],fun hn=>⟨b,off,rfl,hb,fun j u hu=>hc j u ?_⟩⟩,b,off,rfl,hc ini.length _ (by simp[vQ])⟩;simp only[vQ,List.map_append] at hu ⊢;rw[List.getElem?_append_left (List.getElem?_eq_some_iff.1 hu).1];exact hu
set_option maxRecDepth 100000 in
theorem qeb (A1:Option Addr) (n1 c1:Nat) (A2:Option Addr) (n2 c2:Nat) (A3:Option Addr) (n3 c3:Nat) (A4:Option Addr) (n4 c4:Nat) (gen root next:Int) (A5:Option Addr) (c5:Nat) (S:Sto) (dead:List Int) (w:World) (h:qU w w.heap.size (.slice A1 n1 c1) (.slice A2 n2 c2) (.slice A3 n3 c3) (.slice A4 n4 c4) S) (hd:Zk w w.heap.size (.slice A5 dead.length c5) dead):Calls prog 35 #[.agg (qB (.slice A1 n1 c1) (.slice A2 n2 c2) (.slice A3 n3 c3) (.slice A4 n4 c4) gen root next (.slice A5 dead.length c5))] w (Xr S gen root next dead w):=by
 have HC:=zH (fun W (hx:Ext w W)=>Kc A1 n1 c1 A2 n2 c2 A3 n3 c3 A4 n4 c4 gen root next A5 c5 S dead W (h.ext hx) (hd.ext_ hx));obtain⟨i0,hi,aY,aV,aX⟩:=info_parts Tryz.info_int;replace hi:=zH hi;replace h:=zH h;replace hd:=zH hd;go_enter func35,ntmps35;go_wp2_with fail;generalize aA:World.alloc (World.alloc w _) _=w1;have x1:Ext w w1:=by rw[<-aA];exact(zN _ _).trans (zN _ _)
 have nR:w1.heap[w.heap.size]?=some (.cells (qB (.slice A1 n1 c1) (.slice A2 n2 c2) (.slice A3 n3 c3) (.slice A4 n4 c4) gen root next (.slice A5 dead.length c5)) 32 (0,0)):=by rw[<-aA];exact(zK _ _ _ zA3).trans (zI _ _ _ rfl)
 have yj:w1.heap[w.heap.size+1]?=some (.cells (qB (.slice none 0 0) (.slice none 0 0) (.slice none 0 0) (.slice none 0 0) 0 0 0 (.slice none 0 0)) 32 (0,0)):=by rw[<-aA];exact zI _ _ _ zA3
 have kp1:=qa nR;clear aA;go_wp2_with fail;refine(HC.out w1 x1).mono ?_;clear HC;rintro e w2 ⟨hB,hQ⟩;have x2:Ext w w2:=x1.trans hB;have lU:=qb nR hB;have lT:=qb yj hB;have kp2:=qa lU;have ko2:=qa lT;have fo2:=qe lT;have zo2:w.heap.size+1<w2.heap.size:=(zG.1 lT).1;clear hB nR yj kp1;rcases hQ with ⟨rfl,ah⟩|⟨rfl,vs,refs,nodes,uy,lW,sU⟩
 ·have ah:=zH (show zv S root next dead from ah);go_wp2_with fail;exact VY (b:=w.heap.size+1) rfl rfl rfl (Kf lT _ _ _ _ _ _ _ _) ⟨jz x2 zO _ _ _ _ _ _ _ _,.inl ⟨rfl,ah.out⟩⟩
 have aI:=zH (fun e W (hb:Below w.heap.size w W) hx=>(⟨hb,.inr ⟨vs,refs,nodes,uy,lW,sU,hx⟩⟩:Xr S gen root next dead w e W));rcases List.eq_nil_or_concat dead with h0|⟨ini,at_,h0⟩
 ·subst h0;replace uy:=zH uy;clear lW sU;have hF:Hid (∀ W,Below w.heap.size w W->Xr S gen root next [] w (.returned (.tuple #[vN,.int .i64 6])) W):=zH fun W hb=>aI.out _ W hb (.inl ⟨rfl,rfl⟩);clear aI;go_wp2_with fail;exact VY (b:=w.heap.size+1) rfl rfl rfl (Kf lT _ _ _ _ _ _ _ _) (hF.out _ (jz x2 zO _ _ _ _ _ _ _ _))
 ·rw[List.concat_eq_append] at h0;obtain⟨a,rfl,ha,bK,lvl,xs,hn,-⟩:=VU (uy.ok at_ (by rw[h0];unfold Zs;simp));have hS:=uy.may;have dK:ini.length+1<=40:=by have:=uy.few;rw[h0] at this;simpa using this
  have lH:ZQ S (a:Int)=0:=by rw[Xu hS ha bK,if_neg (show ¬ZE S a=0 from fun e=>by unfold qv at hn;rw[if_pos (show (S.now[a]?.getD 0).toNat=0 from e)] at hn;cases hn)]
  have ag:=zH (fun e W (hb:Below w.heap.size w W) (hx:match Kn S ini a with
    | .error er=>e=.returned (.tuple #[vN,.int .i64 er])
    | .ok (D,T)=>∃ u,e=.returned (.tuple #[u,.int .i64 0])/\Jg w.heap.size T gen root next D u W)=>aI.out e W hb (.inr ⟨ini,a,h0,hx⟩))
  clear aI lW sU uy;have hnH:=zH hn;subst h0;obtain⟨hI,b5,o5,rfl,hca⟩:=(hd.out.ext_ x2).front;have hlen:(ini++[(a:Int)]).length=ini.length+1:=zA3;rw[hlen] at *;have hcap:ini.length<=c5:=by obtain⟨A,c,e,h1,-,-⟩:=hI;cases e;exact h1
  have hGS:(ini.length:Int)<=(c5:Int):=zO;have hli:((ini.length+1:Nat):Int)-1=(ini.length:Int):=zO;replace hI:=zH hI;clear hlen hd;have HI:=zH (Gl (.slice (some ⟨b5,o5,none⟩) ini.length c5) ini zO w2 hI.out);go_wp2_with fail;refine HI.out.mono ?_;clear HI hI hca;rintro e w3 ⟨u,rfl,aB,hB⟩;obtain⟨A6,c6,rfl,-,-⟩:=qy aB;have dJ:Ext w2 w3:=hB;have x3:Ext w w3:=x2.trans dJ;have gy:=qb lU hB;have pI:=qb lT hB;have kp3:=qa gy;have fp3:=qe gy;have zp3:=(zG.1 gy).1;replace aB:=zH aB;clear hB lU lT kp2 ko2 fo2;go_upto_region 9 with fail;generalize hw4:World.setCell w3 _ _=w4;have lD:w4.heap[w.heap.size]?=some (.cells (qB (.slice A1 n1 c1) (.slice A2 n2 c2) (.slice A3 n3 c3) (.slice A4 n4 c4) gen root next (.slice A6 ini.length c6)) 32 (0,0)):=by rw[<-hw4];exact qi gy 7 _
  have o4:∀ q,q≠w.heap.size->w4.heap[q]?=w3.heap[q]?:=fun q hq=>by rw[<-hw4];exact zJ _ _ _ _ hq
  have x4:Ext w w4:=by rw[<-hw4];exact Below.setCell x3 (p:=⟨w.heap.size,7,none⟩) (zM _) _
  have z4:w4.heap.size=w3.heap.size:=by rw[<-hw4];simp
  have ro4:=(o4 (w.heap.size+1) zO).trans pI;have wo:=zH (QA aB.out fun q hq=>o4 q (by have:=(Ql aB.out q hq).1;omega));have z34:w2.heap.size<=w4.heap.size:=by have:=dJ.size;omega
  have HN:=zH (Yt A1 n1 c1 A2 n2 c2 A3 n3 c3 A4 n4 c4 S (a:Int) w4 (h.out.ext x4));rw[lH,if_pos rfl,Int.toNat_natCast,hn] at HN;have kp4:=qa lD;clear hw4 gy pI kp3 fp3 zp3 aB z4 o4;go_wp2_with fail;refine HN.out.mono ?_;clear HN;rintro e w5 ⟨u,rfl,⟨A9,c9,rfl,aG⟩,hB⟩;have af:Ext w4 w5:=hB;have x5:Ext w w5:=x4.trans af;have lm:=qb lD hB;have ro5:=qb ro4 hB;have hBO:=zH (QA wo.out fun q hq=>Below.block af q (Ql wo.out q hq).2);have hlt5:=zH (fun q (hq:(Value.slice A6 ini.length c6).ownBlock=some q)=>(Ql wo.out q hq).2);replace aG:=zH aG;clear hB lD ro4 kp4 wo;go_upto_region 10 with fail;generalize nO:World.alloc w5 _=w6;have dW:Ext w5 w6:=by rw[<-nO];exact zN _ _
  have x6:Ext w w6:=x5.trans dW;have wO:w6.heap[w5.heap.size]?=some (.cells #[.int .i64 (lvl:Int),.slice A9 xs.length c9] 49 (0,0)):=by rw[<-nO];exact zI _ _ _ rfl
  have rP:=qb lm dW;have ro6:=qb ro5 dW;have z56:w5.heap.size<w6.heap.size:=(zG.1 wO).1;have z45:=af.size;have kp6:=qa rP;clear nO lm ro5;have hh6:=h.out.ext x6;obtain⟨b3,o3,dF,wZ,hg6⟩:∃ b3 o3,A3=some ⟨b3,o3,none⟩/\n3=256/\w6.cell? ⟨b3,o3+a,none⟩=some (.int .u8 (qT S.now a:Int)):=by obtain⟨A,c,e,h1,-,hr⟩:=hh6.now;have hl:=(qQ hS).2.2.1;cases e;obtain⟨b,off,e,hb,hc⟩:=hr.2 zO;refine⟨b,off,e,hl,hc a _ ?_⟩;rw[List.getElem?_map,zL zO];simp[qT,zL (show a<S.now.length by omega)]
  subst dF;subst wZ;have hai:(a:Int)<256:=zO;have hAR:Hid (((qT S.now a:Int) == 1)=decide (qT S.now a=1)):=zH (by rw[Bool.eq_iff_iff,beq_iff_eq,decide_eq_true_iff];omega);obtain⟨gone,hgn⟩:∃ gone,decide (qT S.now a=1)=gone:=⟨_,rfl⟩
  obtain⟨gv,hgv⟩:∃ gv,qT S.now a=gv:=⟨_,rfl⟩
  rw[hgv] at hg6 hAR;have hgn2:Hid (((gv:Int) == 1)=gone):=zH (by rw[hAR.out,<-hgn,hgv]);replace hgn:=zH hgn;clear hgv hAR;have HL:=zH (fun W (hx:Ext w W)=>Ga A1 n1 c1 A2 n2 c2 (some ⟨b3,o3,none⟩) 256 c3 A4 n4 c4 S (a:Int) W (h.out.ext hx));rw[lH,Int.toNat_natCast] at HL;have hGQ:=zH lH;clear hh6 lH hn;go_upto_region 11 with fail;rw[hgn2.out];go_wp2_with fail;refine(HL.out w6 x6).mono ?_;rintro e w7 ⟨u,rfl,hQ,hB⟩;rcases hQ with ⟨hh,-⟩|⟨-,v7,rfl,hT⟩
  ·exact absurd rfl hh
  have xQ:Ext w6 w7:=hB;have x7:Ext w w7:=x6.trans xQ;have rp7:=qb rP hB;have ro7:=qb ro6 hB;have rn7:=qb wO hB;obtain⟨BB,WW,gg,D3,d3,D4,d4,rfl,-⟩:=id hT;have hm0:qo (qu S (ZL S.now a))=true:=Gs (T:=S) (a:=(a:Int)) hS (by rw[VQ hGQ.out,Int.toNat_natCast]);replace hT:=zH hT;replace hm0:=zH hm0;clear hB rP ro6 wO kp6;go_upto_region 12 with fail;generalize yY:World.alloc w7 _=wL;have oH:Ext w7 wL:=by rw[<-yY];exact zN _ _
  have rb8:wL.heap[w7.heap.size]?=some (.cells #[.slice (some ⟨BB,0,none⟩) S.bs.length S.bs.length,.slice (some ⟨WW,0,none⟩) S.ws.length (S.ws.length+1),.slice D3 (ZL S.now a).length d3,.slice D4 S.last.length d4] 28 (0,0)):=by rw[<-yY];exact zI _ _ _ rfl
  have x8:Ext w wL:=x7.trans oH;have rp8:=qb rp7 oH;have ro8:=qb ro7 oH;have rn8:=qb rn7 oH;have x58:Ext w5 wL:=(dW.trans xQ).trans oH;have z78:w7.heap.size<wL.heap.size:=(zG.1 rb8).1;have z67:=xQ.size;have hz24:=zH z34;have HIt:Hid (∀ W:World,(∀ p,w4.heap.size<=p->p<w5.heap.size->W.heap[p]?=w5.heap[p]?)->Its W W.heap.size (.slice A9 xs.length c9) xs):=zH fun W hW=>aG.out.keepX (X:=fun q=>q<w4.heap.size) (fun p v hp hv=>by have hb:=World.block_lt_of_cell? w5 p hv;exact(World.cell?_of_block (hW p.block zO hb)).trans hv) fun q h1 h2=>zO;have hI0:RpC S (lvl:Int) xs gone ini a (.slice A1 n1 c1) (.slice A2 n2 c2) (.slice (some ⟨b3,o3,none⟩) 256 c3) (.slice A4 n4 c4) (.int .u32 gen) (.int .i64 root) (.int .u32 next) w.heap.size w7.heap.size w2.heap.size w4.heap.size w wL 0 ini (.ok (qu S (ZL S.now a))) A6 c6
    (.slice (some ⟨BB,0,none⟩) S.bs.length S.bs.length) (.slice (some ⟨WW,0,none⟩) S.ws.length (S.ws.length+1)) (.slice D3 (ZL S.now a).length d3) (.slice D4 S.last.length d4) wL:=by
   refine⟨Nat.zero_le _,by rw[List.take_zero,VQ hGQ.out,Int.toNat_natCast];rfl,zO,rp8,QA hBO.out fun q hq=>Below.block x58 q (Ql hBO.out q hq).2,rb8,fun er h=>(by cases h),fun T h=>?_,fun g hg=>.inl (hlt5.out g hg),fun _ _ _ _=>rfl,zM _,x8,(zG.1 ro8).1,rfl⟩;cases h;exact⟨hm0.out,hT.out.keep zO oH.size fun b _ h2=>Below.block oH b h2⟩
  have kn8:=qa rn8;replace hI0:=zH hI0;have hro8:=zH ro8;have ny:xs.length<=5:=by have:=zt hnH.out;omega
  replace ny:=zH ny;clear yY rp7 ro7 rn7 hT hm0 aG hBO hlt5 rp8 ro8 rb8 HL;go_wp2_with fail;go_loopw [11,64] (fun e i wr=>RpI S (lvl:Int) xs gone ini a (.slice A1 n1 c1) (.slice A2 n2 c2) (.slice (some ⟨b3,o3,none⟩) 256 c3) (.slice A4 n4 c4) (.int .u32 gen) (.int .i64 root) (.int .u32 next) w.heap.size w7.heap.size w2.heap.size w4.heap.size w wL e i wr) (fun _ i _=>xs.length-(intOf i).toNat)
  case atStart=>exact⟨⟨_,_,_,_,_,_,_,_,_,rfl,rfl,hI0.out⟩⟩
  case round =>
   obtain⟨k,D,q,B5,d5,u0,u1,u2,u3,rfl,rfl,hR⟩:=hrel.ex;clear hI0 hrel;have rn:=(hR.kept w5.heap.size zO zO zO).trans rn8;have kn:=qa rn;have rb:=hR.box;have kb:=qa rb;have rp:=hR.pool;have kp:=qa rp;have zwr:=hR.size;by_cases hkl:k<xs.length
   ·obtain⟨x,hx⟩:∃ x,xs[k]=x:=⟨_,rfl⟩
    have iO:=qfF (lvl:Int) gone xs k hkl (ini,ja S (a:Int));rw[hR.eq,hx] at iO;have hIt:=HIt.out wr (fun p h1 h2=>(hR.kept p h1 (by have:=x58.size;omega) zO).trans (Below.block x58 p h2));obtain⟨b9,o9,rfl,-⟩:=hIt.at_.2.2.2 zO;obtain⟨A',c',d0,d1,d2,d3,d4,-⟩:=hIt.item k hkl;rw[hx] at d0 d1 d2 d3 d4;have hn5:=ny.out;have dY:(k:Int)<(xs.length:Int):=zO;have hz5:w5.heap.size<wr.heap.size:=(zG.1 rn).1;have hzp:w.heap.size<wr.heap.size:=(zG.1 rp).1;have hzb:w7.heap.size<wr.heap.size:=(zG.1 rb).1;have mG:=zH (show w.heap.size+1<w2.heap.size/\w2.heap.size<=w4.heap.size/\w4.heap.size<=w7.heap.size/\w7.heap.size<wL.heap.size by omega);replace iO:=zH iO;replace hR:=zH hR;obtain⟨ev,uh⟩:∃ ev,errI q=ev:=⟨_,rfl⟩
    rw[uh];clear hx hIt rn rb rp HIt x1 x2 x3 x4 x5 x6 x7 x8 dJ af dW xQ oH x58 kn8 zwr z78 z67 z56 z45 z34 zo2 dK hcap hGS hli;rcases q with er|T
    ·have aN:(ev != 0)=true:=by rw[bne_iff_ne,<-uh];exact hR.out.err er rfl
     replace uh:=zH uh;go_wp2_with fail;go_roundw
     case rel=>exact⟨⟨k+1,D,.error er,B5,d5,u0,u1,u2,u3,by go_num,by rw[uh.out],hR.out.next (zN _ _) zO zO (by rw[iO.out];rfl)⟩⟩
     case measure=>simp[intOf];omega
    ·obtain rfl:ev=0:=uh.symm;clear uh;by_cases hsk:gone=false\/x.r=0
     ·have hE:=zH (hR.out.next (wr':=wr) (Ext.refl _) (j:=k+1) zO zO (by rw[iO.out,GN _ _ _ hsk]));clear hR iO;by_cases hg:gone=false
      ·subst hg;go_wp2_with fail;go_roundw
       case rel=>exact⟨⟨k+1,D,.ok T,B5,d5,u0,u1,u2,u3,by go_num,rfl,hE.out.next (zN _ _) zO (zM _) hE.out.eq⟩⟩
       case measure=>simp[intOf];omega
      ·obtain rfl:gone=true:=by simpa using hg
       have hr0:x.r=0:=hsk.resolve_left hg;clear hsk hg;go_wp2_with fail;go_roundw
       case rel=>exact⟨⟨k+1,D,.ok T,B5,d5,u0,u1,u2,u3,by go_num,rfl,hE.out.next (zN _ _) zO (zM _) hE.out.eq⟩⟩
       case measure=>simp[intOf];omega
     ·obtain⟨rfl,hr0⟩:gone=true/\x.r≠0:=by simpa using hsk
      have mX:(x.r == 0)=false:=by rw[beq_eq_false_iff_ne];exact hr0
      by_cases hlv:0<(lvl:Int)
      ·have lK:decide (0<lvl)=true:=decide_eq_true zO;have hlv2:0<lvl:=zO;have yI:=zH (iO.out.trans (GM D T hsk hlv));clear iO;go_upto_region 18 with fail;generalize iG:World.alloc wr _=wa;have xa:Ext wr wa:=by rw[<-iG];exact zN _ _
       have ri:wa.heap[wr.heap.size]?=some (.cells #[.int .u8 x.k,.int .u32 x.i,.int .u32 x.o,.int .i64 x.r,.slice A' x.val.length c'] 68 (0,0)):=by rw[<-iG];exact zI _ _ _ rfl
       have ki:=qa ri;have rpa:=qb hR.out.pool xa;have kpa:=qa rpa;have hoa:=zH (QA hR.out.own fun q hq=>Below.block xa q (Ql hR.out.own q hq).2);have hfw:=hR.out.few;have hzL:=hR.out.size;clear iG kp kb kn d0 d1 d2 d3 d4 ri;go_wp2_with (at_builtin;refine qI ?_);refine Qh.go (Zc wa rfl (.tmp 92) (.tmp 95) 30 rfl w2.heap.size 3 i0 _ 1 8 underlying30 hi.out aY aV aX rfl zA1 (.slice B5 D.length d5) D.length (vQ D) zE hoa.out #[.int .i64 x.r] zE rfl zA8 zO zA1 (by have:=mG.out;have:=xa.size;omega) ?_);intro v' w9 aB hg hB dQ;obtain⟨A7,c7,rfl,-,-⟩:=qy aB;have hpo:w9.heap[w.heap.size]?=wa.heap[w.heap.size]?:=hg.block _ (by have:=xa.size;omega) fun e=>by have:=(Ql hoa.out _ e.symm).1;have:=mG.out;omega
       have rp9:=hpo.trans rpa;have kp9:=qa rp9;have fp9:=qe rp9;have zp9:=(zG.1 rp9).1;have hF:=zH (hR.out.more xa (by have:=mG.out;omega) (zM _) (by have:=mG.out;omega) (by have:=mG.out;omega) (by have:=mG.out;omega) aB hg hB dQ hkl yI.out);clear aB hg hB dQ hR hpo kpa ki hoa rpa;go_wp2_with fail;go_roundw
       case rel=>exact⟨⟨k+1,D++[x.r],.ok T,A7,c7,u0,u1,u2,u3,by go_num,rfl,hF.out⟩⟩
       case measure=>simp[intOf];omega
      ·have lK:decide (0<lvl)=false:=decide_eq_false zO;have hlv2:¬0<lvl:=zO;have yI:=zH (iO.out.trans (GL D T hsk hlv));have hmT:=(hR.out.ok T rfl).1;have hTT:=(hR.out.ok T rfl).2;have lN:=hTT.newSto (za hmT);obtain⟨BB',WW',gg',E3,e3,E4,e4,e,-⟩:=id hTT;simp only[Value.agg.injEq,Array.mk.injEq,List.cons.injEq,and_true] at e;obtain⟨rfl,rfl,rfl,rfl⟩:=e;have lN:=VT lN;have HLo:=zH (fun W (hx:Ext wr W)=>Ga _ _ _ _ _ _ _ _ _ _ _ _ T x.r W ((lN wr (KW fun _ _ _=>rfl)).ext hx));clear iO hTT lN;go_upto_region 15 with fail;generalize iG:World.alloc wr _=wa;have xa:Ext wr wa:=by rw[<-iG];exact zN _ _
       have ri:wa.heap[wr.heap.size]?=some (.cells #[.int .u8 x.k,.int .u32 x.i,.int .u32 x.o,.int .i64 x.r,.slice A' x.val.length c'] 68 (0,0)):=by rw[<-iG];exact zI _ _ _ rfl
       have ki:=qa ri;have rba:=qb hR.out.box xa;have kba:=qa rba;have hzL:=hR.out.size;clear iG kp kb kn d0 d1 d2 d3 d4 ri;go_wp2_with fail;refine(HLo.out wa xa).mono ?_;clear HLo;rintro e wb ⟨u,rfl,hQ,hB⟩;have xb:Ext wa wb:=hB;have xrb:=xa.trans xb;have rbb:=qb rba hB;have kbb:=qa rbb;have fbb:=qe rbb;have zbb:=(zG.1 rbb).1;have hgo:=mG.out;have hzx:=xa.size;clear hB rba kba ki;rcases hQ with ⟨aN,rfl⟩|⟨h0,v,rfl,hT⟩
       ·have hF:=fun x0 x1 x2 x3=>hR.out.loose (q':=.error (ZQ T x.r)) (x0:=x0) (x1:=x1) (x2:=x2) (x3:=x3) xrb zO (zM _) zO zO zO (zM _) hkl (by rw[yI.out,Gr aN]) (fun er e=>by cases e;exact aN) (fun T' e=>by cases e);generalize ZQ T x.r=er at *;replace hF:=zH hF;clear hR yI hgo;go_wp2_with fail;go_roundw
        case rel=>exact⟨⟨k+1,D,.error er,B5,d5,_,_,_,_,by go_num,rfl,hF.out _ _ _ _⟩⟩
        case measure=>simp[intOf];omega
       ·obtain⟨BB,WW,gg,G3,g3,G4,g4,rfl,-⟩:=id hT;have hF:=zH (hR.out.loose (q':=.ok (qu T (ZL T.now x.r.toNat))) xrb zO (zM _) zO zO zO (show wL.heap.size<=wa.heap.size by omega) hkl (by rw[yI.out,VQ h0]) (fun er e=>by cases e) (fun T' e=>by cases e;exact⟨Gs hmT (VQ h0),hT⟩));clear hR yI hgo hT;go_wp2_with fail;go_roundw
        case rel=>exact⟨⟨k+1,D,.ok (qu T (ZL T.now x.r.toNat)),B5,d5,_,_,_,_,by go_num,rfl,hF.out⟩⟩
        case measure=>simp[intOf];omega
   ·obtain rfl:k=xs.length:=by have:=hR.le;omega
    have he:=hR.eq;rw[List.take_length] at he;have hE:=fun (r:Except Int (List Int×Sto)) (h:(match ((D,q):List Int×Except Int Sto) with
      |(_,.error _)=>.error 8
      |(D,.ok T)=>if 40<D.length then .error 9 else .ok (D,T))=r)=>(show Kn S ini a=r by
     unfold Kn;rw[hnH.out];simp only;rw[hgn.out,he];exact h)
    have mY:=hR.out.2.trans hro8.out;have ko:=qa mY;have fo:=qe mY;have zo:=(zG.1 mY).1;have mG:w.heap.size+1<w2.heap.size/\w2.heap.size<=w4.heap.size/\w4.heap.size<=w7.heap.size/\w7.heap.size<wL.heap.size:=zO;replace mG:=zH mG;replace hR:=zH hR;obtain⟨ev,uh⟩:∃ ev,errI q=ev:=⟨_,rfl⟩
    rw[uh];clear rn rb rp HIt x1 x2 x3 x4 x5 x6 x7 x8 dJ af dW xQ oH x58 kn8 zwr z78 z67 z56 z45 z34 zo2 dK hcap hGS hli kn;rcases q with er|T
    ·have aN:(ev != 0)=true:=by rw[bne_iff_ne,<-uh];exact hR.out.err er rfl
     have hF:Hid (∀ W,Below w.heap.size w W->Xr S gen root next (ini++[(a:Int)]) w (.returned (.tuple #[vN,.int .i64 8])) W):=zH fun W hb=>ag.out _ W hb (by rw[hE _ rfl]);have cO:=zH hR.out.bel;clear uh hE ag hR;go_wp2_with fail;exact VY (b:=w.heap.size+1) rfl rfl rfl (Kf mY _ _ _ _ _ _ _ _) (hF.out _ (jz cO.out zO _ _ _ _ _ _ _ _))
    ·obtain rfl:ev=0:=uh.symm;clear uh he;have rp:=hR.out.pool;have kp:=qa rp;have fp:=qe rp;have zp:=(zG.1 rp).1;have rb:=hR.out.box;have kb:=qa rb;have hmT:=(hR.out.ok T rfl).1;have hTT:=(hR.out.ok T rfl).2;have hfw:=hR.out.few;have cO:=zH hR.out.bel;have aB:=zH hR.out.own;clear hR;by_cases h40:40<D.length
     ·have h41:decide ((40:Int)<(D.length:Int))=true:=decide_eq_true zO;have h42:decide (40<D.length)=true:=decide_eq_true h40;have hF:Hid (∀ W,Below w.heap.size w W->Xr S gen root next (ini++[(a:Int)]) w (.returned (.tuple #[vN,.int .i64 9])) W):=zH fun W hb=>ag.out _ W hb (by rw[hE (.error 9) (if_pos h40)]);clear hE ag hTT aB rb kb;go_wp2_with fail;exact VY (b:=w.heap.size+1) rfl rfl rfl (Kf mY _ _ _ _ _ _ _ _) (hF.out _ (jz cO.out zO _ _ _ _ _ _ _ _))
     ·have h41:decide ((40:Int)<(D.length:Int))=false:=decide_eq_false zO;have h42:decide (40<D.length)=false:=decide_eq_false h40;have hF:Hid (∀ W u,Below w.heap.size w W->Jg w.heap.size T gen root next D u W->Xr S gen root next (ini++[(a:Int)]) w (.returned (.tuple #[u,.int .i64 0])) W):=zH fun W u hb hu=>ag.out _ W hb (by rw[hE (.ok (D,T)) (if_neg h40)];exact⟨u,rfl,hu⟩);have lN:=hTT.newSto (za hmT);obtain⟨BB',WW',gg',E3,e3,E4,e4,e,-⟩:=id hTT;simp only[Value.agg.injEq,Array.mk.injEq,List.cons.injEq,and_true] at e;obtain⟨rfl,rfl,rfl,rfl⟩:=e;have lN:=zH (VT lN);clear hE ag hTT;go_upto_region 25 with fail;generalize hw9:World.setCell (World.setCell (World.setCell (World.setCell wr _ _) _ _) _ _) _ _=w9;have o9:∀ q,q≠w.heap.size->w9.heap[q]?=wr.heap[q]?:=fun q hq=>by rw[<-hw9];have hs:=fun (A:World) (j:Nat) (v:Value)=>zJ A ⟨w.heap.size,j,none⟩ v q hq;rw[hs,hs,hs,hs]
      have z9:w9.heap.size=wr.heap.size:=by rw[<-hw9];simp
      have rp9:w9.heap[w.heap.size]?=some (.cells (qB (.slice (some ⟨BB',0,none⟩) T.bs.length T.bs.length) (.slice (some ⟨WW',0,none⟩) T.ws.length (T.ws.length+1)) (.slice E3 T.now.length e3) (.slice E4 T.last.length e4) gen root next (.slice B5 D.length d5)) 32 (0,0)):=by rw[<-hw9];exact qi (qi (qi (qi rp 0 _) 1 _) 2 _) 3 _
      have x9:Below w.heap.size w w9:=by rw[<-hw9];exact ZY cO.out (zM _) _ _ _ _
      have ro9:=(o9 (w.heap.size+1) zO).trans mY;have kp9:=qa rp9;have ko9:=qa ro9;have fo9:=qe ro9;have zo9:w.heap.size+1<w9.heap.size:=(zG.1 ro9).1;have z9H:=zH z9;clear hw9 rp kp fp zp rb kb mY ko fo zo z9;go_wp2_with fail;refine VY (b:=w.heap.size+1) rfl rfl rfl (Kf ro9 _ _ _ _ _ _ _ _) (hF.out _ _ (jz x9 zO _ _ _ _ _ _ _ _) ⟨_,_,_,_,_,_,_,_,_,_,rfl,fun C hC=>?_⟩);have hg:=mG.out;have z9:=z9H.out;have aZ:=fun (k:Nat) (h1:k≠w.heap.size) (h2:k≠w.heap.size+1)=>(jM (w:=w9) (b:=w.heap.size+1) h2 (.slice (some ⟨BB',0,none⟩) T.bs.length T.bs.length) (.slice (some ⟨WW',0,none⟩) T.ws.length (T.ws.length+1)) (.slice E3 T.now.length e3) (.slice E4 T.last.length e4) (.int .u32 gen) (.int .i64 root) (.int .u32 next) (.slice B5 D.length d5)).trans (o9 k h1);rw[Kq,z9];have q1:=lN.out C fun q u h1 h2 h3=>hC q u zO (by rw[Kq];omega) ((QR (aZ q.block zO zO)).trans h3);have q2:=(Zk.of_ownT aB.out).pos (Ze.of_own aB.out) (C:=C) fun q u h1 h2 h3=>hC q u zO (by rw[Kq];omega) ((QR (aZ q.block zO zO)).trans h3);exact⟨q1,q2⟩
set_option maxRecDepth 100000 in
theorem qhi (A1:Option Addr) (n1 c1:Nat) (A2:Option Addr) (n2 c2:Nat) (A3:Option Addr) (n3 c3:Nat) (A4:Option Addr) (n4 c4:Nat) (y5 y6 y7 y8:Value) (S:Sto) (a:Nat) (xs:List It) (lH:ZQ S (a:Int)=0) (hn:qv S a=some (0,xs)) (pb tb fb mb:Nat) (w:World) (h:qU w w.heap.size (.slice A1 n1 c1) (.slice A2 n2 c2) (.slice A3 n3 c3) (.slice A4 n4 c4) S) (rp:w.heap[pb]?=some (.cells #[.slice A1 n1 c1,.slice A2 n2 c2,.slice A3 n3 c3,.slice A4 n4 c4,y5,y6,y7,y8] 32 (0,0))) (rt:w.heap[tb]?=some (.cells #[.map (some mb)] 122 (0,0))) (hm:QU w mb fun _=>none):Calls prog 77 #[.int .i64 (a:Int),.pointer (some ⟨tb,0,none⟩),.pointer (some ⟨pb,0,none⟩),.pointer (some ⟨fb,0,none⟩)] w (fun e W=>e=.returned (.int .i64 1)/\w.grownBy W (some mb)):=by
 have HN:=zH (Yt A1 n1 c1 A2 n2 c2 A3 n3 c3 A4 n4 c4 S (a:Int) w h);rw[lH,if_pos rfl,Int.toNat_natCast,hn] at HN;have kp:=qa rp;have kt:=qa rt;have cO:mb<w.heap.size:=by obtain⟨es,cl,hb,-⟩:=hm;exact(zG.1 hb).1
 have aY:(zeroValue 3).run prog w=.ok (.int .i64 0) w:=by obtain⟨i0,hi,aY,aV,aX⟩:=info_parts Tryz.info_int;simp[zeroValue,typeInfo,hi,aY]
 clear h lH hn;go_enter func77,ntmps77;go_wp2_with (at_lookup;refine qI ?_);refine Qh.go (Vo _ rfl (.tmp 14) (.tmp 15) 122 rfl underlying122 underlying3 aY rfl rfl hm ?_);go_wp2_with fail;refine HN.out.mono ?_;clear HN;rintro e w2 ⟨u,rfl,⟨A9,c9,rfl,-⟩,hB⟩;have x2:Ext w w2:=hB;have rt2:=qb rt hB;have iL:=hm.of_heap (hB.block mb cO);have kt2:=qa rt2;clear hB kp kt;go_upto_region 6 with fail;generalize aO:World.alloc w2 _=w3;have dJ:Ext w2 w3:=by rw[<-aO];exact zN _ _
 have rn3:w3.heap[w2.heap.size]?=some (.cells #[.int .i64 0,.slice A9 xs.length c9] 49 (0,0)):=by rw[<-aO];exact zI _ _ _ rfl
 have kn3:=qa rn3;have kt3:=qa (qb rt2 dJ);have tC:=iL.of_heap (dJ.block mb (Nat.lt_of_lt_of_le cO x2.size));have x3:=zH (x2.trans dJ);clear aO rn3 rt2 kt2 iL x2 dJ hm rt rp aY;go_wp2_with (at_mapUpdate;refine qI ?_);refine Qh.go (jg _ rfl (.tmp 45) (.tmp 46) (.tmp 47) 122 rfl underlying122 underlying3 rfl rfl rfl tC ?_);intro w4 hm4 hg4;clear tC hm4 kn3 kt3;go_wp2_with fail;go_ret;exact⟨rfl,World.grownBy.trans ((zy x3.out _)) hg4⟩
theorem qdG {R:Ending->World->Prop} {a:Act} {W:World} {u v:Value} (h4:a.tmps[2]?.getD undef=u) (h5:a.tmps[3]?.getD undef=v) (hd:a.defers=[]) (hR:R (.returned (.tuple #[u,v])) W):bodyPost prog Tryz.f37 R .ret a W:=by refine bodyPost_ret (v:=.tuple #[u,v]) ?_ hd hR;simp[results,results37,go_sem,h4,h5]
set_option maxRecDepth 100000 in
theorem qhh (A1:Option Addr) (n1 c1:Nat) (A2:Option Addr) (n2 c2:Nat) (A3:Option Addr) (n3 c3:Nat) (A4:Option Addr) (n4 c4:Nat) (gen root next:Int) (A5:Option Addr) (c5:Nat) (S:Sto) (dead:List Int) (w:World) (h:qU w w.heap.size (.slice A1 n1 c1) (.slice A2 n2 c2) (.slice A3 n3 c3) (.slice A4 n4 c4) S) (hd:Zk w w.heap.size (.slice A5 dead.length c5) dead) (hq:∀ W e W',kA S root next dead W e W'->e=.returned (.int .i64 0)) (hQE:dead=[]\/∃ (a:Nat) (xs:List It),dead=[(a:Int)]/\ZQ S (a:Int)=0/\qv S a=some (0,xs)):Calls prog 37 #[.agg (qB (.slice A1 n1 c1) (.slice A2 n2 c2) (.slice A3 n3 c3) (.slice A4 n4 c4) gen root next (.slice A5 dead.length c5))] w (Ret (.tuple #[.int .i64 (dead.length:Int),.int .i64 0]) w):=by
 have HC:=zH (fun W (hx:Ext w W)=>Kc A1 n1 c1 A2 n2 c2 A3 n3 c3 A4 n4 c4 gen root next A5 c5 S dead W (h.ext hx) (hd.ext_ hx));have hmf:∀ (fn:Fn) (first cap:Array Value) (w:World),(Instr.makeFunc fn first cap).run prog w=.ok (.func fn first cap) w:=fun _ _ _ _=>rfl;replace hq:=zH hq;replace h:=zH h;replace hd:=zH hd;go_enter func37,ntmps37;go_wp2_with fail;generalize aA:World.alloc w _=w1;have x1:Ext w w1:=by rw[<-aA];exact zN _ _
 have nR:w1.heap[w.heap.size]?=some (.cells (qB (.slice A1 n1 c1) (.slice A2 n2 c2) (.slice A3 n3 c3) (.slice A4 n4 c4) gen root next (.slice A5 dead.length c5)) 32 (0,0)):=by rw[<-aA];exact zI _ _ _ rfl
 have kp1:=qa nR;clear aA;go_wp2_with fail;refine(HC.out w1 x1).mono ?_;clear HC;intro e w2 hQ;have hB:Ext w1 w2:=hQ.1;obtain rfl:=hq.out _ _ _ hQ;have x2:Ext w w2:=x1.trans hB;have lU:=qb nR hB;clear hB hQ hq nR kp1 x1;have hmm:=fun W=>run_mm 122 W;go_upto_region 7 with fail;generalize aO:World.alloc (World.alloc (World.alloc w2 _) _) _=w3;have dJ:Ext w2 w3:=by rw[<-aO];exact((zN _ _).trans (zN _ _)).trans (zN _ _)
 have x3:Ext w w3:=x2.trans dJ;have gy:=qb lU dJ;have hmt:QU w3 w2.heap.size fun _=>none:=(QU.empty w2).of_heap (by rw[<-aO];exact(zK _ _ _ zA2).trans (zK _ _ _ zA3));have rt3:w3.heap[w2.heap.size+1]?=some (.cells #[.map (some w2.heap.size)] 122 (0,0)):=by rw[<-aO];exact(zK _ _ _ zA3).trans (zI _ _ _ zA3)
 have rf3:w3.heap[w2.heap.size+1+1]?=some (.cells #[.func (.func 77) #[] #[.pointer (some ⟨w2.heap.size+1,0,none⟩),.pointer (some ⟨w.heap.size,0,none⟩),.pointer (some ⟨w2.heap.size+1+1,0,none⟩)]] 123 (0,0)):=by rw[<-aO];exact zI _ _ _ zA3
 have kp3:=qa gy;have kf3:=qa rf3;have z2:=x2.size;clear aO lU dJ hmm;rcases hQE with rfl|⟨a,xs,rfl,lH,hn⟩
 ·go_wp2_with fail;refine wp_loop_rounds 1 ?_;rw[rounds_succ];go_wp2_with fail;exact qdG rfl rfl rfl ⟨rfl,x3⟩
 ·obtain⟨A,c,e,h1,-,hr⟩:=hd.out.ext_ x3;cases e;obtain⟨b,off,rfl,hb,hc⟩:=hr.2 zA3;have dC:=hc 0 _ rfl;rw[Nat.add_zero] at dC;have HL:=zH (qhi A1 n1 c1 A2 n2 c2 A3 n3 c3 A4 n4 c4 (.int .u32 gen) (.int .i64 root) (.int .u32 next) (.slice (some ⟨b,off,none⟩) 1 c5) S a xs lH hn w.heap.size (w2.heap.size+1) (w2.heap.size+1+1) w2.heap.size w3 (h.out.ext x3) gy rt3 hmt);clear hr hc hb h1 hmt rt3;go_wp2_with fail;refine wp_loop_rounds 2 ?_;rw[rounds_succ];go_wp2_with fail;refine HL.out.mono ?_;clear HL;rintro e w4 ⟨rfl,hg⟩;have x4:Below w.heap.size w w4:=Below.grown x3 hg x3.size (fun k hk=>by cases hk;exact z2);clear kp3 kf3 gy rf3 hg dC;go_wp2_with fail;rw[rounds_succ];go_wp2_with fail;exact qdG rfl rfl rfl ⟨rfl,x4⟩

def putN (S:Sto) (a:Nat) (x:It):Except Int (Nat×Sto):=match qv S a with
 |none=>.error 8
 |some (lvl,xs)=>TD S lvl.toNat xs a x
def heldS (S:Sto) (a:Int):Sto:=qu S (Ye S.now a.toNat 1)
def rootV (v:Vol) (r:Nat):Vol:=⟨v.id,(r:Int),v.fz,v.frm⟩
section
variable {W C:World} {b:Nat} {u0 u1 u2 u3 u4 u5 u6 u7 x0 x1 x2 x3 x4 x5 x6 x7 y0 y1 y2 y3 z ev q0:Value} {tyP tyV nS rQ:TypeId} {cs ds:Array Value}
end


theorem zv.no {S:Sto} {root next:Int} {dead:List Int} {vs:List Vol} {refs nodes:Nat->Nat} (h:zv S root next dead) (hp:zY S root next dead vs) (hc:Qr S (zF root dead vs) refs nodes) (he:Zu S refs):False:=by obtain⟨r,n,h1,h2⟩:=h vs hp;obtain⟨_,e⟩:=jy.same h1.mkd hc.mkd;subst e;exact h2 he
theorem JD.stack {ks rs:Nat->List Nat} {R:List Nat} {M:Nat->Bool} {refs:Nat->Nat} {s s':List Nat} (h:JD ks rs R M refs s) (hs:∀ x,x∈s↔x∈s'):JD ks rs R M refs s':=
 ⟨h.reach,fun a ha=>h.stk a ((hs a).2 ha),fun a ha=>(h.root a ha).imp id (hs a).1,fun a ha b hb=>(h.kids a ha b hb).imp id (hs b).1,h.sum⟩
def Uw (S:Sto):Nat->List Nat->List Nat->List Nat->Option (List Nat×List Nat)
 |_,[],met,refs=>some (met,refs)
 |0,_ :: _,_,_=>none
 |f+1,a :: s,met,refs=>if met.contains a then Uw S f s met refs else if a<256 then Uw S f (vI S a++s) (a :: met) (vO S a++refs) else none
def Gx (met:List Nat):Nat->Bool:=fun a=>met.contains a
theorem qhm (a:Nat) (met:List Nat):Gx (a :: met)=KO (Gx met) a:=by
 funext b;unfold Gx KO;by_cases h:b=a
 ·subst h;simp
 ·rw[if_neg h];simp[h]
theorem qaf {S:Sto} {R:List Nat}:∀ (f:Nat) (s met refs:List Nat) {met' refs':List Nat},JD (vI S) (vO S) R (Gx met) (fun b=>refs.count b) s->Uw S f s met refs=some (met',refs')->JD (vI S) (vO S) R (Gx met') (fun b=>refs'.count b) []
 |0,[],met,refs,met',refs',h,e=>by simp only[Uw,Option.some.injEq,Prod.mk.injEq] at e;obtain⟨rfl,rfl⟩:=e;exact h
 |f+1,[],met,refs,met',refs',h,e=>by simp only[Uw,Option.some.injEq,Prod.mk.injEq] at e;obtain⟨rfl,rfl⟩:=e;exact h
 |0,_ :: _,met,refs,met',refs',h,e=>by cases e
 |f+1,a :: s,met,refs,met',refs',h,e=>by
  have h1:JD (vI S) (vO S) R (Gx met) (fun b=>refs.count b) (s++[a]):=h.stack fun x=>by simp[or_comm]
  simp only[Uw] at e;split at e
  ·rename_i hm;exact qaf f s met refs (h1.again hm) e
  ·rename_i hm;split at e
   ·rename_i hl;have h2:=h1.new (refs':=fun b=>(vO S a++refs).count b) (by unfold Gx;simpa using hm) hl (fun b=>by simp only[List.count_append];omega);rw[<-qhm] at h2;exact qaf f _ _ _ (h2.stack fun x=>by simp[or_comm]) e
   ·cases e
theorem JD.start (ks rs:Nat->List Nat) (R:List Nat):JD ks rs R (Gx []) (fun b=>R.count b) R:=by
 have h0:∀ b n,TG rs (Gx []) b n=0:=fun b n=>by
  induction n with
  |zero=>rfl
  |succ n ih=>unfold TG;rw[ih];rfl
 exact { reach:=fun a h=>(by cases h),stk:=fun a ha=>.base ha,root:=fun a ha=>.inr ha,kids:=fun a h=>(by cases h),sum:=fun b=>by rw[h0];rfl }
def Xk (met:List Nat):Nat->Nat:=fun a=>if met.contains a then 1 else 0
theorem qfx (met:List Nat):VS (Xk met)=Gx met:=by funext a;unfold VS Xk Gx;cases met.contains a <;> rfl
theorem qeP {S:Sto} {R met refs:List Nat} {f:Nat} (hR:R≠[]) (h:Uw S f R [] R=some (met,refs)):Qr S R (fun b=>refs.count b) (Xk met):=by
 have h1:=qaf f R [] R (JD.start _ _ R) h;refine⟨jy.walk.2 (by rw[qfx];exact h1),fun a=>?_⟩;have h2:=qad (VS (Xk met)) 256;have h3:Xk met a<=1:=by unfold Xk;split <;> omega
 have h4:0<R.length:=List.length_pos_iff.2 hR;omega
def JL (S:Sto) (root next:Int) (dead:List Int):Option (List Vol×List Nat×List Nat):=
 if qo S && decide (dead.length<=40) && okL S (-1) root then match TK S root next with
  |none=>none
  |some vs=>if (Zs root dead vs).all (fun r=>okL S (-1) r) then match Uw S 2000 (zF root dead vs) [] (zF root dead vs) with
   |none=>none
   |some (met,refs)=>if qbP S (fun b=>refs.count b) then some (vs,met,refs) else none
   else none
 else none
theorem KU {S:Sto} {root next:Int} {dead:List Int} {vs:List Vol} {met refs:List Nat} (h:JL S root next dead=some (vs,met,refs)):zY S root next dead vs/\Qr S (zF root dead vs) (fun b=>refs.count b) (Xk met)/\Zu S (fun b=>refs.count b):=by
 unfold JL at h;split at h
 ·rename_i h1;simp only[Bool.and_eq_true,decide_eq_true_eq] at h1;split at h
  ·cases h
  ·rename_i vs' hv;split at h
   ·rename_i h2;split at h
    ·cases h
    ·rename_i met' refs' hw;split at h
     ·rename_i h3;simp only[Option.some.injEq,Prod.mk.injEq] at h;obtain⟨rfl,rfl,rfl⟩:=h;exact⟨⟨h1.1.1,h1.1.2,h1.2,hv,fun r hr=>List.all_eq_true.1 h2 r hr⟩,qeP (by unfold zF Zs;simp) hw,(qdr _ _).1 h3⟩
     ·cases h
   ·cases h
 ·cases h
theorem zY.unique {S:Sto} {root next:Int} {dead:List Int} {vs vs':List Vol} {refs nodes refs' nodes':Nat->Nat} (h:zY S root next dead vs) (hc:Qr S (zF root dead vs) refs nodes) (h':zY S root next dead vs') (hc':Qr S (zF root dead vs') refs' nodes'):vs'=vs/\refs'=refs/\VS nodes'=VS nodes:=by obtain rfl:=zY.same h h';obtain⟨e1,e2⟩:=jy.same hc'.mkd hc.mkd;exact⟨rfl,e2,e1⟩




section
variable {gb:Nat} {c0 c1 c2 c3 c4 c5 c6 c7:Value} {er:Int}
end
def snapV (next:Int) (v:Vol) (fz:Bool) (id:Int):Vol:=⟨next,v.root,fz,id⟩
def frzV (v:Vol) (fz:Bool):Vol:=⟨v.id,v.root,fz,v.frm⟩
def CreEnd (bp be ba:Nat) (cs:Array Value) (a e:Int) (S:Sto) (W W':World):Prop:=Kk bp be ba W W' /\
 ((e=0/\Jk S=0/\W'.heap[bp]?=some (.cells cs 32 (0,0))/\W'.heap[be]?=some (.cells #[.int .i64 0] 36 (0,0))/\W'.heap[ba]?=some (.cells #[.int .u32 a] 29 (0,0))) \/
  ∃ e',e'≠0/\((e=0/\e'=Jk S)\/(e≠0/\e'=e))/\W'.heap[bp]?=some (.cells qak 32 (0,0))/\W'.heap[be]?=some (.cells #[.int .i64 e'] 36 (0,0))/\W'.heap[ba]?=some (.cells #[.int .u32 0] 29 (0,0)))
set_option maxRecDepth 100000 in
theorem cre1_any (bp be ba:Nat) (h12:bp≠be) (h13:bp≠ba) (h23:be≠ba) (A1:Option Addr) (n1 c1:Nat) (A2:Option Addr) (n2 c2:Nat) (A3:Option Addr) (n3 c3:Nat) (A4:Option Addr) (n4 c4:Nat) (gen root next:Int) (v5:Value) (a e:Int) (S:Sto) (u:FrameMode) (w:World) (hp:w.heap[bp]?=some (.cells (qB (.slice A1 n1 c1) (.slice A2 n2 c2) (.slice A3 n3 c3) (.slice A4 n4 c4) gen root next v5) 32 (0,0))) (he:w.heap[be]?=some (.cells #[.int .i64 e] 36 (0,0))) (ha:w.heap[ba]?=some (.cells #[.int .u32 a] 29 (0,0))) (h:e=0->qU w w.heap.size (.slice A1 n1 c1) (.slice A2 n2 c2) (.slice A3 n3 c3) (.slice A4 n4 c4) S):CallsD prog 126 #[.pointer (some ⟨bp,0,none⟩),.pointer (some ⟨be,0,none⟩),.pointer (some ⟨ba,0,none⟩)] u w (fun x u' w'=>u'=u/\x=.returned (.tuple #[])/\CreEnd bp be ba (qB (.slice A1 n1 c1) (.slice A2 n2 c2) (.slice A3 n3 c3) (.slice A4 n4 c4) gen root next v5) a e S w w'):=by
 have HR:=qhA bp be h12 A1 n1 c1 A2 n2 c2 A3 n3 c3 A4 n4 c4 gen root next v5 e S w hp he h
 clear h hp he;go_enter_d func126,ntmps126;go_wp2_with fail;refine HR.mono ?_;rintro x w2 ⟨rfl,hT,⟨h0,hE,fD,lJ⟩|⟨e',h0,hE,fD,lJ⟩⟩
 ·have bK:=(hT.same ba (zG.1 ha).1 (Ne.symm h13) (Ne.symm h23)).trans ha;have ke2:=qa lJ;have hz:=zH h0;clear h0;go_wp2_with fail;go_end0;exact⟨rfl,Kk.of_two hT,.inl ⟨hz.out,hE,fD,lJ,bK⟩⟩
 ·have bK:=(hT.same ba (zG.1 ha).1 (Ne.symm h13) (Ne.symm h23)).trans ha;have ke2:=qa lJ;have ka2:=qa bK;have fa2:=qe bK;have b1:(e' != 0)=true:=by rw[bne_iff_ne];exact h0
  replace h0:=zH h0;replace hE:=zH hE;go_wp2_with fail;go_end0;exact⟨rfl,(Kk.of_two hT).set _,.inr ⟨e',h0.out,hE.out,(zJ _ _ _ _ h13).trans fD,(zJ _ _ _ _ h23).trans lJ,qi bK 0 _⟩⟩
structure VF (n:Nat) (A:Array Bool) (m:Nat):Prop where
 size:A.size=n
 at_:∀ j,j<n->A[j]?=some (m.testBit j)
 out:∀ j,n<=j->m.testBit j=false
theorem VF.none_ (n:Nat):VF n (Array.replicate n false) 0:=
 ⟨zA3,fun j hj=>by rw[Array.getElem?_replicate,if_pos hj,Nat.zero_testBit],fun j _=>Nat.zero_testBit j⟩
theorem VF.getT {n m:Nat} {A:Array Bool} (h:VF n A m) {j:Nat} (hj:j<n) (d:Bool):A.getD j d=m.testBit j:=by rw[Array.getD_eq_getD_getElem?,h.at_ j hj];rfl
theorem VF.set {n m:Nat} {A:Array Bool} (h:VF n A m) {k:Nat} (hk:k<n):VF n (A.setIfInBounds k true) (m ||| 2 ^ k):=by
 refine⟨by simpa using h.size,fun j hj=>?_,fun j hj=>?_⟩
 ·rw[Nat.testBit_or,Nat.testBit_two_pow];by_cases e:k=j
  ·subst e;rw[Array.getElem?_setIfInBounds_self_of_lt (by rw[h.size];exact hk)];simp
  ·rw[Array.getElem?_setIfInBounds_ne e,h.at_ j hj];simp[e]
 ·rw[Nat.testBit_or,Nat.testBit_two_pow,h.out j hj];simp;omega
def freeN (ops:Array Oper) (oi:Oper) (k m:Nat):Nat->List Oper->Bool
 |_,[]=>true
 |j,oj :: r=>(j == k || m.testBit j || oj.after.any (fun e=>Region.binds .any e && e.on == k) || oi.apart ops oj) && freeN ops oi k m (j+1) r
theorem Gf {ops:Array Oper} {oi:Oper} {k m:Nat}:∀ (l:List Oper) (j:Nat),freeN ops oi k m j l=true->∀ i o,l[i]?=some o->(j+i == k || m.testBit (j+i) || o.after.any (fun e=>Region.binds .any e && e.on == k) || oi.apart ops o)=true
 | [],_,_,i,o,h=>by simp at h
 |x :: r,j,h,i,o,ho=>by
  simp only[freeN,Bool.and_eq_true] at h;rcases i with _|i
  ·simp only[List.getElem?_cons_zero,Option.some.injEq] at ho;subst ho;exact h.1
  ·have:=Gf r (j+1) h.2 i o (by simpa using ho)
   rwa [show j+1+i=j+(i+1) by omega] at this
def lexN (l:List Oper) (fin:Nat):List Nat->Nat->Bool
 | [],m=>m == fin
 |k :: r,m=>!m.testBit k && (match l[k]? with
  |some o=>o.after.toList.all (fun e=>!Region.binds .any e || m.testBit e.on) && freeN l.toArray o k m 0 l
  |none=>false) && lexN l fin r (m ||| 2 ^ k)
theorem qbd {l:List Oper} {L:Array Bool} {fin:Nat} (hL:VF l.length L fin):∀ (ks:List Nat) (A:Array Bool) (m:Nat),VF l.length A m->lexN l fin ks m=true->Zq l.toArray L ks A=true
 | [],A,m,hA,h=>by
  simp only[lexN,beq_iff_eq] at h;subst h;simp only[Zq,beq_iff_eq];refine Array.ext_getElem? fun j=>?_;by_cases hj:j<l.length
  ·rw[hA.at_ j hj,hL.at_ j hj]
  ·rw[Array.getElem?_eq_none (by rw[hA.size];omega),Array.getElem?_eq_none (by rw[hL.size];omega)]
 |k :: r,A,m,hA,h=>by
  simp only[lexN,Bool.and_eq_true,Bool.not_eq_true'] at h;obtain⟨⟨h0,h1⟩,h2⟩:=h;split at h1
  ·rename_i o ho;simp only[Bool.and_eq_true] at h1;obtain⟨h1,h3⟩:=h1;have hk:k<l.length:=(List.getElem?_eq_some_iff.1 ho).1;have hoA:l.toArray[k]?=some o:=by simpa using ho
   simp only[Zq,Bool.and_eq_true];refine⟨⟨?_,?_⟩,qbd hL r _ _ (hA.set hk) h2⟩
   ·have:k∈Region.ready .any l.toArray A:=mem_ready.2 ⟨by rw[hA.getT hk,h0],o,hoA,fun e he hb=>by
     have h4:=List.all_eq_true.1 h1 e (by simpa using he);rw[hb] at h4;simp only[Bool.not_true,Bool.false_or] at h4;by_cases hj:e.on<l.length
     ·rw[hA.getT hj,h4]
     ·rw[hA.out e.on zO] at h4;cases h4⟩
    simpa using this
   ·unfold Region.free;rw[hoA];simp only[List.all_eq_true,List.mem_range];intro j hj;have hj':j<l.length:=by simpa using hj
    have h4:=Gf l 0 h3 j l[j] (zL hj');rw[Nat.zero_add] at h4;rw[hA.getT hj',List.getElem?_toArray,zL hj'];simp only;simp only[Bool.or_eq_true] at h4 ⊢;rcases h4 with ((h4|h4)|h4)|h4
    ·exact .inl (.inl h4)
    ·exact .inl (.inr h4)
    ·exact .inr (.inl h4)
    ·exact .inr (.inr h4)
  ·cases h1
theorem VF.listed (n m:Nat) (h:m<=n):VF n (QK n m) (2 ^ m-1):=by
 refine⟨by simp[QK],fun j hj=>?_,fun j hj=>?_⟩
 ·unfold QK;rw[List.getElem?_toArray,List.getElem?_map,List.getElem?_range hj,Nat.testBit_two_pow_sub_one];rfl
 ·rw[Nat.testBit_two_pow_sub_one];simp;omega
theorem qgL {P:Program} {l:List Oper} {Q:Exit->Act->World->Prop} {fuel:Nat} {a:Act} {w W:World} (R:Rel) (H:Nat->Option qS) (M:List Bool) (t:Nat) (hs:Region.noSelect l.toArray=true) (ht:qeq l.toArray (QK l.length (l.length-t)) ((qp 0 l M).map (·.1))=true) (dC:Yj l.toArray (Array.replicate l.length false)=true) (hB:lexN l (2 ^ (l.length-t)-1) ((qp 0 l M).map (·.1)) 0=true) (mZ:TJ l.toArray t (l.length-t) (QK l.length (l.length-t))=true) (hfu:fuel=(qp 0 l M).length+t) (oD:(l.drop (l.length-t)).length=t) (hH:∀ i h,H i=some h->∀ p,qC R (h.φ p)) (hW:R.r w W) (h:∀ K:Act->qJ->Prop,(∀ a' F',(∀ W,R.r w W->(∀ k,F' k W)->wpList P l.toArray Q (l.drop (l.length-t)) a' W)->K a' F')->Zz R P l.toArray w H K (qp 0 l M) a (fun _ _=>True)):wpAny P .any l.toArray Q fuel (Array.replicate l.length false) a W:=
 qL R H M t hs ht dC (qbd (VF.listed _ _ (Nat.sub_le _ _)) _ _ _ (VF.none_ _) hB) mZ hfu oD hH hW h
end Go.Proofs.YtpbniokljofedaaGreat
