/- Lemmas of the proof. -/
import Derived.Test.YtmeadnlmepcmbaaGreatZT26
set_option linter.all false
set_option maxHeartbeats 8000000
open Go.Proofs.Tryz
open Go.Value renaming slice→s,int→O,pointer→U,tuple→Jx
open Option renaming some→E,none→J
open Go.World renaming setCell→F,alloc→Z
open Go.Obj renaming cells→I
open Go.Ending renaming returned→Y
open Go.IntKind renaming i64→Oa,u32→Od
open Bool renaming false→Ob,true→Oc
open Go renaming World→Oe
namespace Go.Proofs.YtmeadnlmepcmbaaGreat
open Go.RowKit
variable {R:Ending->World->Prop}{a:Act}{W w C:World}{B c n m j k fuel:Nat}{ini dead:List Int}{x er z0:Int}{A:Array Bool}{P:Program}{l:List Oper}{Q:Exit->Act->World->Prop}{tmps cs:Array Value}{S:Sto}{v p q0:Value}{ty1 ty2 ty3:TypeId}{vs:List Vol}{met refs:List Nat}{o:Option (Nat×Sto)}{q:Except Int (List Int×Sto)}
theorem YL{b:Nat}{x0 x1 x2 x3 x4 x5 x6 x7 v:Value}(h4:a.tmps[2]?.getD undef=U b)(h5:a.tmps[3]?.getD undef=v)(hd:a.defers=[])(aC:W.heap[b]?=E (I #[x0,x1,x2,x3,x4,x5,x6,x7] 32))(hR:R (Y (Jx #[.agg #[x0,x1,x2,x3,x4,x5,x6,x7],v])) W):bodyPost prog Tryz.f24 R .ret a W:=by refine bodyPost_ret (v:=Jx #[.agg #[x0,x1,x2,x3,x4,x5,x6,x7],v]) ?_ hd hR;have k:=qa aC;simp[results,results24,go_sem,h4,h5,k]
theorem ZS.front{A:OA}(h:ZS w B (s A (ini++[x]).length c) (ini++[x])):ZS w B (s A ini.length c) ini/\∃b off,A=E ⟨b,off,J⟩/\w.cell? ⟨b,off+ini.length,J⟩=E (O Oa x):=by obtain⟨A',c',e,h1,h2,hr⟩:=h;cases e;have hl:0<(ini++[x]).length:=zA3;obtain⟨b,off,rfl,hb,hc⟩:=hr.2 hl;simp only[List.length_append,List.length_singleton]at h1;refine⟨⟨_,_,rfl,zO,h2,by simp[Vq],λhn=>⟨b,off,rfl,hb,λj u hu=>hc j u ?_⟩⟩,b,off,rfl,hc ini.length _ (by simp[Vq])⟩;simp only[Vq,List.map_append]at hu⊢;rw[List.getElem?_append_left (List.getElem?_eq_some_iff.1 hu).1];exact hu
set_option maxRecDepth 100000 in
theorem reap_any(A1 n1 c1 A2 n2 c2 A3 n3 c3 A4 n4 c4)(gen root next:Int)(A5 c5)(S:Sto)(dead:List Int)(w:Oe)(h:Qh w w (s A1 n1 c1) (s A2 n2 c2) (s A3 n3 c3) (s A4 n4 c4) S)(hd:ZS w w (s A5 dead.length c5) dead):Calls prog 24 #[.agg (qR (s A1 n1 c1) (s A2 n2 c2) (s A3 n3 c3) (s A4 n4 c4) gen root next (s A5 dead.length c5))] w (Ge S gen root next dead w):=by
 have HC:=zH (λW (hx:Ext w W)=>UW A1 n1 c1 A2 n2 c2 A3 n3 c3 A4 n4 c4 gen root next A5 c5 S dead W (h.ext hx) (hd.ext_ hx));obtain⟨i0,hi,aZ,aT,aX⟩:=info_parts Tryz.info_int;replace⟨hi,h,hd⟩:=zH3 hi h hd;go_enter func24,ntmps24;go_wp2_with fail;generalize aA:Z (Z w _) _=w1;have x1:Ext w w1:=by rw[<-aA];exact(zN _ _).trans (zN _ _)
 have rp1:w1.heap[w.heap.size]?=E (I (qR (s A1 n1 c1) (s A2 n2 c2) (s A3 n3 c3) (s A4 n4 c4) gen root next (s A5 dead.length c5)) 32 (0,0)):=by rw[<-aA];exact(zK _ _ _ zA3).trans (zI _ _ _ rfl)
 have ro1:w1.heap[w.heap.size+1]?=E (I (qR (s J 0 0) (s J 0 0) (s J 0 0) (s J 0 0) 0 0 0 (s J 0 0)) 32 (0,0)):=aA▸zI _ _ _ zA3;have kp1:=qa rp1;clear aA;go_wp2_with fail;refine(HC.out w1 x1).mono ?_;clear HC;rintro e w2 ⟨hB,hQ⟩;have x2:Ext w w2:=x1.trans hB;have rp2:=qb rp1 hB;have ro2:=qb ro1 hB;have kp2:=qa rp2;have ko2:=qa ro2;have fo2:=qe ro2;have zo2:w.heap.size+1<w2:=(zG.1 ro2).1;clear hB rp1 ro1 kp1;rcases hQ with⟨rfl,bQ⟩|⟨rfl,vs,refs,nodes,hpb,di,tJ⟩
 ·have bQ:=zH (show QI S root next dead from bQ);go_wp2_with fail;exact YL (b:=w.heap.size+1) rfl rfl rfl (kI ro2 _ _ _ _ _ _ _ _) ⟨je x2 zO _ _ _ _ _ _ _ _,.inl ⟨rfl,bQ.out⟩⟩
 have aN:=zH (λe W (hb:Below w.heap.size w W) hx=>(⟨hb,.inr ⟨vs,refs,nodes,hpb,di,tJ,hx⟩⟩:Ge S gen root next dead w e W));rcases List.eq_nil_or_concat dead with h0|⟨ini,at_,h0⟩
 ·subst h0;replace hpb:=zH hpb;clear di tJ;have hF:Hid (∀W,Below w w W->Ge S gen root next [] w (Y (Jx #[vP,O Oa 6])) W):=zH λW hb=>aN.out _ W hb (.inl ⟨rfl,rfl⟩);clear aN;go_wp2_with fail;exact YL (b:=w.heap.size+1) rfl rfl rfl (kI ro2 _ _ _ _ _ _ _ _) (hF.out _ (je x2 zO _ _ _ _ _ _ _ _))
 rw[List.concat_eq_append]at h0;obtain⟨a,rfl,ha,bC,lvl,xs,hn,-⟩:=Zl (hpb.ok at_ (by rw[h0];unfold QJ;simp));have hS:=hpb.may;have dV:ini.length+1<=40:=by have:=hpb.few;rw[h0]at this;simpa using this
 have yA:Jj S (a:Int)=0:=by rw[TK hS ha bC,if_neg (show ¬js S a=0 from λe=>by unfold qo at hn;rw[if_pos (show(S.now[a]?.getD 0).toNat=0 from e)]at hn;cases hn)]
 have ak:=zH (λe W (hb:Below w.heap.size w W) (hx:match qdi S ini a with
   |.error er=>e=Y (Jx #[vP,O Oa er])
   |.ok (D,T)=>∃u,e=Y (Jx #[u,O Oa 0])/\vB w.heap.size T gen root next D u W)=>aN.out e W hb (.inr ⟨ini,a,h0,hx⟩))
 clear aN di tJ hpb;have hnH:=zH hn;subst h0;obtain⟨hI,b5,o5,rfl,hca⟩:=(hd.out.ext_ x2).front;have hlen:(ini++[(a:Int)]).length=ini.length+1:=zA3;rw[hlen]at*;have hcap:ini.length<=c5:=by obtain⟨A,c,e,h1,-,-⟩:=hI;cases e;exact h1
 have hJY:(ini.length:Int)<=(c5:Int):=zO;have yL:((ini.length+1:Nat):Int)-1=(ini.length:Int):=zO;replace hI:=zH hI;clear hlen hd;have HI:=zH (UO (s (E ⟨b5,o5,J⟩) ini.length c5) ini zO w2 hI.out);go_wp2_with fail;refine HI.out.mono ?_;clear HI hI hca;rintro e w3 ⟨u,rfl,aB,hB⟩;obtain⟨A6,c6,rfl,-,-⟩:=qC aB;have x23:Ext w2 w3:=hB;have x3:Ext w w3:=x2.trans x23;have rp3:=qb rp2 hB;have ro3:=qb ro2 hB;have kp3:=qa rp3;have fp3:=qe rp3;have zp3:=(zG.1 rp3).1;replace aB:=zH aB;clear hB rp2 ro2 kp2 ko2 fo2;go_upto_region 9 with fail;generalize hw4:F w3 _ _=w4;have rp4:w4.heap[w.heap.size]?=E (I (qR (s A1 n1 c1) (s A2 n2 c2) (s A3 n3 c3) (s A4 n4 c4) gen root next (s A6 ini.length c6)) 32 (0,0)):=hw4▸qi rp3 7 _;have o4:∀q,q≠w.heap.size->w4.heap[q]?=w3.heap[q]?:=λq hq=>by rw[<-hw4];exact zJ _ _ _ _ hq
 have x4:Ext w w4:=hw4▸Below.setCell x3 (p:=⟨w.heap.size,7,J⟩) (zM _) _;have z4:w4.heap.size=w3:=by rw[<-hw4];simp
 have ro4:=(o4 (w.heap.size+1) zO).trans ro3;have hAE:=zH (QQ aB.out λq hq=>o4 q (by have:=(Qn aB.out q hq).1;omega));have z34:w2.heap.size<=w4:=by have:=x23.size;omega
 have HN:=zH (TV A1 n1 c1 A2 n2 c2 A3 n3 c3 A4 n4 c4 S (a:Int) w4 (h.out.ext x4));rw[yA,if_pos rfl,Int.toNat_natCast,hn]at HN;have kp4:=qa rp4;clear hw4 rp3 ro3 kp3 fp3 zp3 aB z4 o4;go_wp2_with fail;refine HN.out.mono ?_;clear HN;rintro e w5 ⟨u,rfl,⟨A9,c9,rfl,aG⟩,hB⟩;have x45:Ext w4 w5:=hB;have x5:Ext w w5:=x4.trans x45;have rp5:=qb rp4 hB;have ro5:=qb ro4 hB;have hEX:=zH (QQ hAE.out λq hq=>Below.block x45 q (Qn hAE.out q hq).2);have hlt5:=zH (λq (hq:(Value.slice A6 ini.length c6).ownBlock=E q)=>(Qn hAE.out q hq).2);replace aG:=zH aG;clear hB rp4 ro4 kp4 hAE;go_upto_region 10 with fail;generalize mg:Z w5 _=w6;have x56:Ext w5 w6:=mg▸zN _ _;have x6:Ext w w6:=x5.trans x56;have rn6:w6.heap[w5.heap.size]?=E (I #[(lvl:Int),s A9 xs.length c9] 113):=mg▸zI _ _ _ rfl;have rp6:=qb rp5 x56;have ro6:=qb ro5 x56;have z56:w5.heap.size<w6:=(zG.1 rn6).1;have z45:=x45.size;have kp6:=qa rp6;clear mg rp5 ro5;have hh6:=h.out.ext x6;obtain⟨b3,o3,dC,wK,hg6⟩:∃b3 o3,A3=E ⟨b3,o3,J⟩/\n3=256/\w6.cell? ⟨b3,o3+a,J⟩=E (O .u8 (qL S.now a:Int)):=by obtain⟨A,c,e,h1,-,hr⟩:=hh6.now;have hl:=(qZ hS).2.2.1;cases e;obtain⟨b,off,e,hb,hc⟩:=hr.2 zO;refine⟨b,off,e,hl,hc a _ ?_⟩;rw[List.getElem?_map,zL zO];simp[qL,zL (show a<S.now.length by omega)]
 subst dC;subst wK;have hai:(a:Int)<256:=zO;have hDP:Hid (((qL S.now a:Int)==1)=decide (qL S.now a=1)):=zH (by rw[Bool.eq_iff_iff,beq_iff_eq,decide_eq_true_iff];omega);obtain⟨gone,hgn⟩:∃gone,decide (qL S.now a=1)=gone:=⟨_,rfl⟩
 obtain⟨gv,hgv⟩:∃gv,qL S.now a=gv:=⟨_,rfl⟩
 rw[hgv]at hg6 hDP;have hgn2:Hid (((gv:Int)==1)=gone):=zH (by rw[hDP.out,<-hgn,hgv]);replace hgn:=zH hgn;clear hgv hDP;have HL:=zH (λW (hx:Ext w W)=>qcp A1 n1 c1 A2 n2 c2 (E ⟨b3,o3,J⟩) 256 c3 A4 n4 c4 S (a:Int) W (h.out.ext hx));rw[yA,Int.toNat_natCast]at HL;have hJV:=zH yA;clear hh6 yA hn;go_upto_region 11 with fail;rw[hgn2.out];go_wp2_with fail;refine(HL.out w6 x6).mono ?_;rintro e w7 ⟨u,rfl,hQ,hB⟩;rcases hQ with⟨hh,-⟩|⟨-,v7,rfl,hT⟩
 exact absurd rfl hh;have x67:Ext w6 w7:=hB;have x7:Ext w w7:=x6.trans x67;have rp7:=qb rp6 hB;have ro7:=qb ro6 hB;have rn7:=qb rn6 hB;obtain⟨BB,WW,gg,D3,d3,D4,d4,rfl,-⟩:=id hT;have hm0:qj (qp S (jf S.now a))=Oc:=qcJ (T:=S) (a:=(a:Int)) hS (by rw[YB hJV.out,Int.toNat_natCast]);replace⟨hT,hm0⟩:=zH2 hT hm0;clear hB rp6 ro6 rn6 kp6;go_upto_region 12 with fail;generalize xR:Z w7 _=wL;have x78:Ext w7 wL:=xR▸zN _ _;have rb8:wL.heap[w7.heap.size]?=E (I #[s BB S.bs.length S.bs.length,s WW S.ws.length (S.ws.length+1),s D3 (jf S.now a).length d3,s D4 S.last.length d4] 28):=xR▸zI _ _ _ rfl;have x8:Ext w wL:=x7.trans x78;have rp8:=qb rp7 x78;have ro8:=qb ro7 x78;have rn8:=qb rn7 x78;have x58:Ext w5 wL:=(x56.trans x67).trans x78;have z78:w7.heap.size<wL:=(zG.1 rb8).1;have z67:=x67.size;have hz24:=zH z34;have HIt:Hid (∀W:Oe,(∀p,w4.heap.size<=p->p<w5.heap.size->W.heap[p]?=w5.heap[p]?)->Its W W (s A9 xs.length c9) xs):=zH λW hW=>aG.out.keepX (X:=λq=>q<w4.heap.size) (λp v hp hv=>by have hb:=World.block_lt_of_cell? w5 p hv;exact(World.cell?_of_block (hW p.block zO hb)).trans hv) λq h1 h2=>zO;have xG:RpC S (lvl:Int) xs gone ini a (s A1 n1 c1) (s A2 n2 c2) (s (E ⟨b3,o3,J⟩) 256 c3) (s A4 n4 c4) (O Od gen) (O Oa root) (O Od next) w.heap.size w7.heap.size w2.heap.size w4.heap.size w wL 0 ini (.ok (qp S (jf S.now a))) A6 c6
   (s (E ⟨BB,0,J⟩) S.bs.length S.bs.length) (s (E ⟨WW,0,J⟩) S.ws.length (S.ws.length+1)) (s D3 (jf S.now a).length d3) (s D4 S.last.length d4) wL:=by
  refine⟨Nat.zero_le _,by rw[List.take_zero,YB hJV.out,Int.toNat_natCast];rfl,zO,rp8,QQ hEX.out λq hq=>Below.block x58 q (Qn hEX.out q hq).2,rb8,λer h=>(by cases h),λT h=>?_,λg hg=>.inl (hlt5.out g hg),λ_ _ _ _=>rfl,zM _,x8,(zG.1 ro8).1,rfl⟩;cases h;exact⟨hm0.out,hT.out.keep zO x78.size λb _ h2=>Below.block x78 b h2⟩
 have kn8:=qa rn8;replace xG:=zH xG;have hro8:=zH ro8;have nX:xs.length<=5:=by have:=zY hnH.out;omega
 replace nX:=zH nX;clear xR rp7 ro7 rn7 hT hm0 aG hEX hlt5 rp8 ro8 rb8 HL;go_wp2_with fail;go_loopw [11,64] (λe i wr=>RpI S (lvl:Int) xs gone ini a (s A1 n1 c1) (s A2 n2 c2) (s (E ⟨b3,o3,J⟩) 256 c3) (s A4 n4 c4) (O Od gen) (O Oa root) (O Od next) w.heap.size w7.heap.size w2.heap.size w4.heap.size w wL e i wr) (λ_ i _=>xs.length-(intOf i).toNat)
 case atStart=>exact⟨⟨_,_,_,_,_,_,_,_,_,rfl,rfl,xG.out⟩⟩
 case round=>
  obtain⟨k,D,q,B5,d5,u0,u1,u2,u3,rfl,rfl,hR⟩:=hrel.ex;clear xG hrel;have rn:=(hR.kept w5.heap.size zO zO zO).trans rn8;have kn:=qa rn;have rb:=hR.box;have kb:=qa rb;have rp:=hR.pool;have kp:=qa rp;have zwr:=hR.size;by_cases hkl:k<xs.length
  ·obtain⟨x,hx⟩:∃x,xs[k]=x:=⟨_,rfl⟩
   have mF:=qkh (lvl:Int) gone xs k hkl (ini,Vl S (a:Int));rw[hR.eq,hx]at mF;have hIt:=HIt.out wr (λp h1 h2=>(hR.kept p h1 (by have:=x58.size;omega) zO).trans (Below.block x58 p h2));obtain⟨b9,o9,rfl,-⟩:=hIt.at_.2.2.2 zO;obtain⟨A',c',d0,d1,d2,d3,d4,-⟩:=hIt.item k hkl;rw[hx]at d0 d1 d2 d3 d4;have hn5:=nX.out;have eX:(k:Int)<(xs.length:Int):=zO;have pI:w5.heap.size<wr:=(zG.1 rn).1;have hzp:w.heap.size<wr:=(zG.1 rp).1;have hzb:w7.heap.size<wr:=(zG.1 rb).1;have oJ:=zH (show w.heap.size+1<w2.heap.size/\w2.heap.size<=w4.heap.size/\w4.heap.size<=w7.heap.size/\w7.heap.size<wL.heap.size by omega);replace⟨mF,hR⟩:=zH2 mF hR;obtain⟨ev,yC⟩:∃ev,errI q=ev:=⟨_,rfl⟩
   rw[yC];clear hx hIt rn rb rp HIt x1 x2 x3 x4 x5 x6 x7 x8 x23 x45 x56 x67 x78 x58 kn8 zwr z78 z67 z56 z45 z34 zo2 dV hcap hJY yL;rcases q with er|T
   ·have aH:(ev != 0)=Oc:=by rw[bne_iff_ne,<-yC];exact hR.out.err er rfl
    replace yC:=zH yC;go_wp2_with fail;go_roundw
    case rel=>exact⟨⟨k+1,D,.error er,B5,d5,u0,u1,u2,u3,by go_num,by rw[yC.out],hR.out.next (zN _ _) zO zO (by rw[mF.out];rfl)⟩⟩
    case measure=>simp[intOf];omega
   obtain rfl:ev=0:=yC.symm;clear yC;by_cases hsk:gone=Ob\/x.r=0
   ·have hE:=zH (hR.out.next (wr':=wr) (Ext.refl _) (j:=k+1) zO zO (by rw[mF.out,qkg _ _ _ hsk]));clear hR mF;by_cases hg:gone=Ob
    ·subst hg;go_wp2_with fail;go_roundw
     case rel=>exact⟨⟨k+1,D,.ok T,B5,d5,u0,u1,u2,u3,by go_num,rfl,hE.out.next (zN _ _) zO (zM _) hE.out.eq⟩⟩
     case measure=>simp[intOf];omega
    obtain rfl:gone=Oc:=by simpa using hg
    have hr0:x.r=0:=hsk.resolve_left hg;clear hsk hg;go_wp2_with fail;go_roundw
    case rel=>exact⟨⟨k+1,D,.ok T,B5,d5,u0,u1,u2,u3,by go_num,rfl,hE.out.next (zN _ _) zO (zM _) hE.out.eq⟩⟩
    case measure=>simp[intOf];omega
   obtain⟨rfl,hr0⟩:gone=Oc/\x.r≠0:=by simpa using hsk
   have oP:(x.r==0)=Ob:=by rw[beq_eq_false_iff_ne];exact hr0
   by_cases hlv:0<(lvl:Int)
   ·have mV:decide (0<lvl)=Oc:=decide_eq_true zO;have hlv2:0<lvl:=zO;have hBQ:=zH (mF.out.trans (qkf D T hsk hlv));clear mF;go_upto_region 18 with fail;generalize iO:Z wr _=wa;have xa:Ext wr wa:=iO▸zN _ _;have ri:wa.heap[wr.heap.size]?=E (I #[O .u8 x.k,O Od x.i,O Od x.o,O Oa x.r,s A' x.val.length c'] 51):=iO▸zI _ _ _ rfl;have ki:=qa ri;have rpa:=qb hR.out.pool xa;have kpa:=qa rpa;have hoa:=zH (QQ hR.out.own λq hq=>Below.block xa q (Qn hR.out.own q hq).2);have hfw:=hR.out.few;have hzL:=hR.out.size;clear iO kp kb kn d0 d1 d2 d3 d4 ri;go_wp2_with (at_builtin;refine qV ?_);refine Qm.go (Zh wa rfl (.tmp 92) (.tmp 95) 30 rfl w2.heap.size 3 i0 _ 1 8 underlying30 hi.out aZ aT aX rfl zA1 (s B5 D.length d5) D.length (Vq D) zE hoa.out #[O Oa x.r] zE rfl zA8 zO zA1 (by have:=oJ.out;have:=xa.size;omega) ?_);intro v' w9 aB hg hB dO;obtain⟨A7,c7,rfl,-,-⟩:=qC aB;have hpo:w9.heap[w.heap.size]?=wa.heap[w.heap.size]?:=hg.block _ (by have:=xa.size;omega) λe=>by have:=(Qn hoa.out _ e.symm).1;have:=oJ.out;omega
    have rp9:=hpo.trans rpa;have kp9:=qa rp9;have fp9:=qe rp9;have zp9:=(zG.1 rp9).1;have hF:=zH (hR.out.more xa (by have:=oJ.out;omega) (zM _) (by have:=oJ.out;omega) (by have:=oJ.out;omega) (by have:=oJ.out;omega) aB hg hB dO hkl hBQ.out);clear aB hg hB dO hR hpo kpa ki hoa rpa;go_wp2_with fail;go_roundw
    case rel=>exact⟨⟨k+1,D++[x.r],.ok T,A7,c7,u0,u1,u2,u3,by go_num,rfl,hF.out⟩⟩
    case measure=>simp[intOf];omega
   have mV:decide (0<lvl)=Ob:=decide_eq_false zO;have hlv2:¬0<lvl:=zO;have hBQ:=zH (mF.out.trans (qke D T hsk hlv));have hmT:=(hR.out.ok T rfl).1;have hTT:=(hR.out.ok T rfl).2;have nM:=hTT.newSto (Zw hmT);obtain⟨BB',WW',gg',E3,e3,E4,e4,e,-⟩:=id hTT;simp only[Value.agg.injEq,Array.mk.injEq,List.cons.injEq,and_true]at e;obtain⟨rfl,rfl,rfl,rfl⟩:=e;have nM:=YG nM;have HLo:=zH (λW (hx:Ext wr W)=>qcp _ _ _ _ _ _ _ _ _ _ _ _ T x.r W ((nM wr (Ts λ_ _ _=>rfl)).ext hx));clear mF hTT nM;go_upto_region 15 with fail;generalize iO:Z wr _=wa;have xa:Ext wr wa:=iO▸zN _ _;have ri:wa.heap[wr.heap.size]?=E (I #[O .u8 x.k,O Od x.i,O Od x.o,O Oa x.r,s A' x.val.length c'] 51):=iO▸zI _ _ _ rfl;have ki:=qa ri;have rba:=qb hR.out.box xa;have kba:=qa rba;have hzL:=hR.out.size;clear iO kp kb kn d0 d1 d2 d3 d4 ri;go_wp2_with fail;refine(HLo.out wa xa).mono ?_;clear HLo;rintro e wb ⟨u,rfl,hQ,hB⟩;have xb:Ext wa wb:=hB;have xrb:=xa.trans xb;have rbb:=qb rba hB;have kbb:=qa rbb;have fbb:=qe rbb;have zbb:=(zG.1 rbb).1;have hgo:=oJ.out;have hzx:=xa.size;clear hB rba kba ki;rcases hQ with⟨aH,rfl⟩|⟨h0,v,rfl,hT⟩
   ·have hF:=λx0 x1 x2 x3=>hR.out.loose (q':=.error (Jj T x.r)) (x0:=x0) (x1:=x1) (x2:=x2) (x3:=x3) xrb zO (zM _) zO zO zO (zM _) hkl (by rw[hBQ.out,qcI aH]) (λer e=>by cases e;exact aH) (λT' e=>by cases e);generalize Jj T x.r=er at*;replace hF:=zH hF;clear hR hBQ hgo;go_wp2_with fail;go_roundw
    case rel=>exact⟨⟨k+1,D,.error er,B5,d5,_,_,_,_,by go_num,rfl,hF.out _ _ _ _⟩⟩
    case measure=>simp[intOf];omega
   obtain⟨BB,WW,gg,G3,g3,G4,g4,rfl,-⟩:=id hT;have hF:=zH (hR.out.loose (q':=.ok (qp T (jf T.now x.r.toNat))) xrb zO (zM _) zO zO zO (show wL.heap.size<=wa.heap.size by omega) hkl (by rw[hBQ.out,YB h0]) (λer e=>by cases e) (λT' e=>by cases e;exact⟨qcJ hmT (YB h0),hT⟩));clear hR hBQ hgo hT;go_wp2_with fail;go_roundw
   case rel=>exact⟨⟨k+1,D,.ok (qp T (jf T.now x.r.toNat)),B5,d5,_,_,_,_,by go_num,rfl,hF.out⟩⟩
   case measure=>simp[intOf];omega
  obtain rfl:k=xs.length:=by have:=hR.le;omega
  have he:=hR.eq;rw[List.take_length]at he;have hE:=λ(r:Except Int (List Int×Sto))(h:(match((D,q):List Int×Except Int Sto) with
    |(_,.error _)=>.error 8
    |(D,.ok T)=>if 40<D.length then .error 9 else .ok (D,T))=r)=>(show qdi S ini a=r by
   unfold qdi;rw[hnH.out];simp only;rw[hgn.out,he];exact h)
  have oQ:=hR.out.2.trans hro8.out;have ko:=qa oQ;have fo:=qe oQ;have zo:=(zG.1 oQ).1;have oJ:w.heap.size+1<w2/\w2.heap.size<=w4/\w4.heap.size<=w7/\w7.heap.size<wL:=zO;replace⟨oJ,hR⟩:=zH2 oJ hR;obtain⟨ev,yC⟩:∃ev,errI q=ev:=⟨_,rfl⟩
  rw[yC];clear rn rb rp HIt x1 x2 x3 x4 x5 x6 x7 x8 x23 x45 x56 x67 x78 x58 kn8 zwr z78 z67 z56 z45 z34 zo2 dV hcap hJY yL kn;rcases q with er|T
  ·have aH:(ev != 0)=Oc:=by rw[bne_iff_ne,<-yC];exact hR.out.err er rfl
   have hF:Hid (∀W,Below w w W->Ge S gen root next (ini++[(a:Int)]) w (Y (Jx #[vP,O Oa 8])) W):=zH λW hb=>ak.out _ W hb (by rw[hE _ rfl]);have cZ:=zH hR.out.bel;clear yC hE ak hR;go_wp2_with fail;exact YL (b:=w.heap.size+1) rfl rfl rfl (kI oQ _ _ _ _ _ _ _ _) (hF.out _ (je cZ.out zO _ _ _ _ _ _ _ _))
  obtain rfl:ev=0:=yC.symm;clear yC he;have rp:=hR.out.pool;have kp:=qa rp;have fp:=qe rp;have zp:=(zG.1 rp).1;have rb:=hR.out.box;have kb:=qa rb;have hmT:=(hR.out.ok T rfl).1;have hTT:=(hR.out.ok T rfl).2;have hfw:=hR.out.few;have cZ:=zH hR.out.bel;have aB:=zH hR.out.own;clear hR;by_cases h40:40<D.length
  ·have h41:decide ((40:Int)<(D.length:Int))=Oc:=decide_eq_true zO;have h42:decide (40<D.length)=Oc:=decide_eq_true h40;have hF:Hid (∀W,Below w w W->Ge S gen root next (ini++[(a:Int)]) w (Y (Jx #[vP,O Oa 9])) W):=zH λW hb=>ak.out _ W hb (by rw[hE (.error 9) (if_pos h40)]);clear hE ak hTT aB rb kb;go_wp2_with fail;exact YL (b:=w.heap.size+1) rfl rfl rfl (kI oQ _ _ _ _ _ _ _ _) (hF.out _ (je cZ.out zO _ _ _ _ _ _ _ _))
  have h41:decide ((40:Int)<(D.length:Int))=Ob:=decide_eq_false zO;have h42:decide (40<D.length)=Ob:=decide_eq_false h40;have hF:Hid (∀W u,Below w w W->vB w T gen root next D u W->Ge S gen root next (ini++[(a:Int)]) w (Y (Jx #[u,O Oa 0])) W):=zH λW u hb hu=>ak.out _ W hb (by rw[hE (.ok (D,T)) (if_neg h40)];exact⟨u,rfl,hu⟩);have nM:=hTT.newSto (Zw hmT);obtain⟨BB',WW',gg',E3,e3,E4,e4,e,-⟩:=id hTT;simp only[Value.agg.injEq,Array.mk.injEq,List.cons.injEq,and_true]at e;obtain⟨rfl,rfl,rfl,rfl⟩:=e;have nM:=zH (YG nM);clear hE ak hTT;go_upto_region 25 with fail;generalize hw9:F (F (F (F wr _ _) _ _) _ _) _ _=w9;have o9:∀q,q≠w.heap.size->w9.heap[q]?=wr.heap[q]?:=λq hq=>by rw[<-hw9];have hs:=λ(A:Oe)(j:Nat)(v:Value)=>zJ A ⟨w.heap.size,j,J⟩ v q hq;rw[hs,hs,hs,hs]
  have z9:w9.heap.size=wr:=by rw[<-hw9];simp
  have rp9:w9.heap[w.heap.size]?=E (I (qR (s BB' T.bs.length T.bs.length) (s WW' T.ws.length (T.ws.length+1)) (s E3 T.now.length e3) (s E4 T.last.length e4) gen root next (s B5 D.length d5)) 32 (0,0)):=hw9▸qi (qi (qi (qi rp 0 _) 1 _) 2 _) 3 _;have x9:Below w w w9:=hw9▸Je cZ.out (zM _) _ _ _ _;have ro9:=(o9 (w.heap.size+1) zO).trans oQ;have kp9:=qa rp9;have ko9:=qa ro9;have fo9:=qe ro9;have zo9:w.heap.size+1<w9:=(zG.1 ro9).1;have z9H:=zH z9;clear hw9 rp kp fp zp rb kb oQ ko fo zo z9;go_wp2_with fail;refine YL (b:=w.heap.size+1) rfl rfl rfl (kI ro9 _ _ _ _ _ _ _ _) (hF.out _ _ (je x9 zO _ _ _ _ _ _ _ _) ⟨_,_,_,_,_,_,_,_,_,_,rfl,λC hC=>?_⟩);have hg:=oJ.out;have z9:=z9H.out;have ah:=λ(k:Nat)(h1:k≠w.heap.size)(h2:k≠w.heap.size+1)=>(ve (w:=w9) (b:=w.heap.size+1) h2 (s (E ⟨BB',0,J⟩) T.bs.length T.bs.length) (s (E ⟨WW',0,J⟩) T.ws.length (T.ws.length+1)) (s E3 T.now.length e3) (s E4 T.last.length e4) (O Od gen) (O Oa root) (O Od next) (s B5 D.length d5)).trans (o9 k h1);rw[TC,z9];have q1:=nM.out C λq u h1 h2 h3=>hC q u zO (by rw[TC];omega) ((Zd (ah q.block zO zO)).trans h3);have q2:=(ZS.of_ownT aB.out).pos (ZK.of_own aB.out) (C:=C) λq u h1 h2 h3=>hC q u zO (by rw[TC];omega) ((Zd (ah q.block zO zO)).trans h3);exact⟨q1,q2⟩
def CreEnd(bp be ba:Nat)(cs:Array Value)(a e:Int)(S:Sto)(W W':Oe):Prop:=XE bp be ba W W' /\
 ((e=0/\Vc S=0/\W'.heap[bp]?=E (I cs 32)/\W'.heap[be]?=E (I #[O Oa 0] 37)/\W'.heap[ba]?=E (I #[O Od a] 29)) \/
  ∃e',e'≠0/\((e=0/\e'=Vc S)\/(e≠0/\e'=e))/\W'.heap[bp]?=E (I qdJ 32)/\W'.heap[be]?=E (I #[O Oa e'] 37)/\W'.heap[ba]?=E (I #[O Od 0] 29))
set_option maxRecDepth 100000 in
theorem cre1_any(bp be ba:Nat)(h12:bp≠be)(h13:bp≠ba)(h23:be≠ba)(A1 n1 c1 A2 n2 c2 A3 n3 c3 A4 n4 c4)(gen root next:Int)(v5:Value)(a e:Int)(S:Sto)(u:FrameMode)(w:Oe)(hp:w.heap[bp]?=E (I (qR (s A1 n1 c1) (s A2 n2 c2) (s A3 n3 c3) (s A4 n4 c4) gen root next v5) 32 (0,0)))(he:w.heap[be]?=E (I #[e] 37))(ha:w.heap[ba]?=E (I #[O Od a] 29))(h:e=0->Qh w w (s A1 n1 c1) (s A2 n2 c2) (s A3 n3 c3) (s A4 n4 c4) S):CallsD prog 101 #[U bp,U be,U ba] u w (λx u' w'=>u'=u/\x=Y (Jx #[])/\CreEnd bp be ba (qR (s A1 n1 c1) (s A2 n2 c2) (s A3 n3 c3) (s A4 n4 c4) gen root next v5) a e S w w'):=by
 have HR:=qmA bp be h12 A1 n1 c1 A2 n2 c2 A3 n3 c3 A4 n4 c4 gen root next v5 e S w hp he h
 clear h hp he;go_enter_d func101,ntmps101;go_wp2_with fail;refine HR.mono ?_;rintro x w2 ⟨rfl,hT,⟨h0,hE,fG,iW⟩|⟨e',h0,hE,fG,iW⟩⟩
 ·have bC:=(hT.same ba (zG.1 ha).1 (Ne.symm h13) (Ne.symm h23)).trans ha;have ke2:=qa iW;have hz:=zH h0;clear h0;go_wp2_with fail;go_end0;exact⟨rfl,XE.of_two hT,.inl ⟨hz.out,hE,fG,iW,bC⟩⟩
 have bC:=(hT.same ba (zG.1 ha).1 (Ne.symm h13) (Ne.symm h23)).trans ha;have ke2:=qa iW;have ka2:=qa bC;have fa2:=qe bC;have b1:(e' != 0)=Oc:=by rw[bne_iff_ne];exact h0
 replace⟨h0,hE⟩:=zH2 h0 hE;go_wp2_with fail;go_end0;exact⟨rfl,(XE.of_two hT).set _,.inr ⟨e',h0.out,hE.out,(zJ _ _ _ _ h13).trans fG,(zJ _ _ _ _ h23).trans iW,qi bC 0 _⟩⟩
structure Yr(n:Nat)(A:Array Bool)(m:Nat):Prop where
 size:A.size=n
 at_:∀j,j<n->A[j]?=E (m.testBit j)
 out:∀j,n<=j->m.testBit j=Ob
theorem Yr.none_(n:Nat):Yr n (Array.replicate n Ob) 0:=
 ⟨zA3,λj hj=>by rw[Array.getElem?_replicate,if_pos hj,Nat.zero_testBit],λj _=>Nat.zero_testBit j⟩
theorem Yr.getT(h:Yr n A m)(hj:j<n)(d:Bool):A.getD j d=m.testBit j:=by rw[Array.getD_eq_getD_getElem?,h.at_ j hj];rfl
theorem Yr.set(h:Yr n A m)(hk:k<n):Yr n (A.setIfInBounds k Oc) (m||| 2^k):=by refine⟨by simpa using h.size,λj hj=>?_,λj hj=>?_⟩;rw[Nat.testBit_or,Nat.testBit_two_pow];by_cases e:k=j;subst e;rw[Array.getElem?_setIfInBounds_self_of_lt (by rw[h.size];exact hk)];simp;rw[Array.getElem?_setIfInBounds_ne e,h.at_ j hj];simp[e];rw[Nat.testBit_or,Nat.testBit_two_pow,h.out j hj];simp;omega
def freeN(ops:Array Oper)(oi:Oper)(k m:Nat):Nat->List Oper->Bool
 |_,[]=>Oc
 |j,oj::r=>(j==k||m.testBit j||oj.after.any (λe=>Region.binds .any e&&e.on==k)||oi.apart ops oj)&&freeN ops oi k m (j+1) r
theorem qcu{ops:Array Oper}{oi:Oper}{k m:Nat}:∀(l:List Oper)(j:Nat),freeN ops oi k m j l=Oc->∀i o,l[i]?=E o->(j+i==k||m.testBit (j+i)||o.after.any (λe=>Region.binds .any e&&e.on==k)||oi.apart ops o)=Oc
 |[],_,_,i,o,h=>by simp at h
 |x::r,j,h,i,o,ho=>by
  simp only[freeN,Bool.and_eq_true]at h;rcases i with _|i
  simp only[List.getElem?_cons_zero,Option.some.injEq]at ho;subst ho;exact h.1;have:=qcu r (j+1) h.2 i o (by simpa using ho)
  rwa [show j+1+i=j+(i+1)by omega]at this
def lexN(l:List Oper)(fin:Nat):List Nat->Nat->Bool
 |[],m=>m==fin
 |k::r,m=>!m.testBit k&&(match l[k]? with
  |some o=>o.after.toList.all (λe=>!Region.binds .any e||m.testBit e.on)&&freeN l.toArray o k m 0 l
  |none=>Ob)&&lexN l fin r (m||| 2^k)
theorem qeR{l:List Oper}{L:Array Bool}{fin:Nat}(hL:Yr l.length L fin):∀(ks:List Nat)(A:Array Bool)(m:Nat),Yr l.length A m->lexN l fin ks m=Oc->Zu l.toArray L ks A=Oc
 |[],A,m,hA,h=>by simp only[lexN,beq_iff_eq]at h;subst h;simp only[Zu,beq_iff_eq];refine Array.ext_getElem? λj=>?_;by_cases hj:j<l.length;rw[hA.at_ j hj,hL.at_ j hj];rw[Array.getElem?_eq_none (by rw[hA.size];omega),Array.getElem?_eq_none (by rw[hL.size];omega)]
 |k::r,A,m,hA,h=>by
  simp only[lexN,Bool.and_eq_true,Bool.not_eq_true']at h;obtain⟨⟨h0,h1⟩,h2⟩:=h;split at h1;rename_i o ho;simp only[Bool.and_eq_true]at h1;obtain⟨h1,h3⟩:=h1;have hk:k<l.length:=(List.getElem?_eq_some_iff.1 ho).1;have hoA:l.toArray[k]?=o:=by simpa using ho
  simp only[Zu,Bool.and_eq_true];refine⟨⟨?_,?_⟩,qeR hL r _ _ (hA.set hk) h2⟩;have:k∈Region.ready .any l.toArray A:=mem_ready.2 ⟨by rw[hA.getT hk,h0],o,hoA,λe he hb=>by
   have h4:=List.all_eq_true.1 h1 e (by simpa using he);rw[hb]at h4;simp only[Bool.not_true,Bool.false_or]at h4;by_cases hj:e.on<l.length;rw[hA.getT hj,h4]
   ·rw[hA.out e.on zO]at h4;cases h4⟩
  simpa using this;unfold Region.free;rw[hoA];simp only[List.all_eq_true,List.mem_range];intro j hj;have hj':j<l.length:=by simpa using hj
  have h4:=qcu l 0 h3 j l[j] (zL hj');rw[Nat.zero_add]at h4;rw[hA.getT hj',List.getElem?_toArray,zL hj'];simp only;simp only[Bool.or_eq_true]at h4⊢;rcases h4 with((h4|h4)|h4)|h4
  exact .inl (.inl h4);exact .inl (.inr h4);exact .inr (.inl h4);exact .inr (.inr h4);cases h1
theorem Yr.listed(n m:Nat)(h:m<=n):Yr n (QW n m) (2^m-1):=by refine⟨by simp[QW],λj hj=>?_,λj hj=>?_⟩;unfold QW;rw[List.getElem?_toArray,List.getElem?_map,List.getElem?_range hj,Nat.testBit_two_pow_sub_one];rfl;rw[Nat.testBit_two_pow_sub_one];simp;omega
theorem qex(R:Rel)(H:Nat->Option Qb)(M:List Bool)(t:Nat)(hs:Region.noSelect l.toArray=Oc)(ht:qfr l.toArray (QW l.length (l.length-t)) ((qv 0 l M).map (·.1))=Oc)(dX:YX l.toArray (Array.replicate l.length Ob)=Oc)(hB:lexN l (2^(l.length-t)-1) ((qv 0 l M).map (·.1)) 0=Oc)(mD:qaa l.toArray t (l.length-t) (QW l.length (l.length-t))=Oc)(hfu:fuel=(qv 0 l M).length+t)(mO:(l.drop (l.length-t)).length=t)(hH:∀i h,H i=E h->∀p,qS R (h.φ p))(hW:R.r w W)(h:∀K:Act->qN->Prop,(∀a' F',(∀W,R.r w W->(∀k,F' k W)->wpList P l.toArray Q (l.drop (l.length-t)) a' W)->K a' F')->jC R P l.toArray w H K (qv 0 l M) a (λ_ _=>True)):wpAny P .any l.toArray Q fuel (Array.replicate l.length Ob) a W:=
 qY R H M t hs ht dX (qeR (Yr.listed _ _ (Nat.sub_le _ _)) _ _ _ (Yr.none_ _) hB) mD hfu mO hH hW h
def newV(next:Int)(r:Nat):Vol:=⟨next,(r:Int),Ob,0⟩
def qal(S:Sto)(root next:Int)(dead:List Int)(er:Int):Prop:=(er=8/\QI S root next dead)\/∃vs refs nodes,QH S root next dead vs/\Qu S (Qp root dead vs) refs nodes/\ZJ S refs /\
 ((er=9/\(16<=vs.length\/next=4294967295))\/Xl S=.error er\/∃ra S1,Xl S=.ok (ra,S1)/\(qfy S1 root (next+1) dead (newV next ra) er\/∃r S2 vs',qgP S1 root (next+1) dead (newV next ra) r S2 vs'/\Vc S2=er))
def CreQ(S:Sto)(gen root next:Int)(dead:List Int)(w:Oe)(e:Ending)(w':Oe):Prop:=Below w w w' /\
 ((∃er,er≠0/\e=Y (Jx #[vP,O Od 0,O Oa er])/\qal S root next dead er) \/
  ∃vs refs nodes ra S1 r S2 vs' u,QH S root next dead vs/\Qu S (Qp root dead vs) refs nodes/\ZJ S refs/\vs.length<16/\next<4294967295/\Xl S=.ok (ra,S1)/\qgP S1 root (next+1) dead (newV next ra) r S2 vs'/\Vc S2=0 /\
   e=Y (Jx #[u,O Od next,O Oa 0])/\vB w S2 gen (r:Int) (next+1) dead u w')
theorem qkM{b:Nat}{x0 x1 x2 x3 x4 x5 x6 x7 y z:Value}(h4:tmps[2]?.getD undef=U (b+1,0))(h5:tmps[3]?.getD undef=U (b+1+1,0))(h6:tmps[4]?.getD undef=U (b+1+1+1,0))(r4:W.heap[b+1]?=E (I #[x0,x1,x2,x3,x4,x5,x6,x7] 32))(r5:W.heap[b+2]?=E (I #[y] 29))(r6:W.heap[b+3]?=E (I #[z] 37))(hR:R (Y (Jx #[.agg #[x0,x1,x2,x3,x4,x5,x6,x7],y,z])) W):Leaves prog Tryz.f48 tmps R [] .returning W:=by have k4:=qa r4;have k5:=qa r5;have k6:=qa r6;refine⟨Jx #[.agg #[x0,x1,x2,x3,x4,x5,x6,x7],y,z],?_,hR⟩;simp[results,results48,go_sem,h4,h5,h6,k4,k5,k6]
theorem qht{b:Nat}(A1 n1 c1 A2 n2 c2 A3 n3 c3 A4 n4 c4)(gen root next:Int)(v5:Value)(y e:Int)(S:Sto)(h4:tmps[2]?.getD undef=U (b+1,0))(h5:tmps[3]?.getD undef=U (b+1+1,0))(h6:tmps[4]?.getD undef=U (b+1+1+1,0))(r4:W.heap[b+1]?=E (I (qR (s A1 n1 c1) (s A2 n2 c2) (s A3 n3 c3) (s A4 n4 c4) gen root next v5) 32 (0,0)))(r5:W.heap[b+2]?=E (I #[O Od y] 29))(r6:W.heap[b+3]?=E (I #[e] 37))(h:e=0->Qh W W (s A1 n1 c1) (s A2 n2 c2) (s A3 n3 c3) (s A4 n4 c4) S)(hR1:e=0->Vc S=0->∀W',XE (b+1) (b+3) (b+2) W W'->R (Y (Jx #[.agg (qR (s A1 n1 c1) (s A2 n2 c2) (s A3 n3 c3) (s A4 n4 c4) gen root next v5),O Od y,O Oa 0])) W')(hR2:∀e' W',e'≠0->((e=0/\e'=Vc S)\/(e≠0/\e'=e))->XE (b+1) (b+3) (b+2) W W'->R (Y (Jx #[vP,O Od 0,O Oa e'])) W'):bodyPostD prog Tryz.f48 R .ret {tmps:=tmps,defers:=[{target:=.fn (.func 101) #[U (b+1,0),U (b+1+1+1,0),U (b+1+1,0)],args:=#[]}]} W:=by refine leaves_cons (f:=101) (args:=#[U (E ⟨b+1,0,J⟩),U (E ⟨b+1+1+1,0,J⟩),U (E ⟨b+1+1,0,J⟩)]) zA3 (by simp[go_sem]) ?_;refine(cre1_any (b+1) (b+3) (b+2) zO zO zO A1 n1 c1 A2 n2 c2 A3 n3 c3 A4 n4 c4 gen root next v5 y e S .returning W r4 r6 r5 h).mono ?_;rintro x u' w' ⟨rfl,rfl,hT,⟨h0,hE,g4,g6,g5⟩|⟨e',h0,hE,g4,g6,g5⟩⟩;exact qkM h4 h5 h6 g4 g5 g6 (hR1 h0 hE w' hT);exact qkM h4 h5 h6 g4 g5 g6 (hR2 e' w' h0 hE hT)
theorem Gl{gen root next:Int}(aH:er≠0)(hc:qal S root next dead er)(h4:tmps[2]?.getD undef=U (w,1,0))(h5:tmps[3]?.getD undef=U (E ⟨w.heap.size+1+1,0,J⟩))(h6:tmps[4]?.getD undef=U (E ⟨w.heap.size+1+1+1,0,J⟩))(r4:W.heap[w.heap.size+1]?=E (I qdJ 32))(r5:W.heap[w.heap.size+2]?=E (I #[O Od z0] 29))(r6:W.heap[w.heap.size+3]?=E (I #[er] 37))(hB:Ext w W):bodyPostD prog Tryz.f48 (CreQ S gen root next dead w) .ret {tmps:=tmps,defers:=[{target:=.fn (.func 101) #[U (w,1,0),U (E ⟨w.heap.size+1+1+1,0,J⟩),U (E ⟨w.heap.size+1+1,0,J⟩)],args:=#[]}]} W:=by
 refine qht J 0 0 J 0 0 J 0 0 J 0 0 0 0 0 (s J 0 0) z0 er S h4 h5 h6 r4 r5 r6 (λh=>absurd h aH) (λh=>absurd h aH) (λe' W' h0 hE hT=>?_);obtain rfl:e'=er:=by
  rcases hE with⟨h,_⟩|⟨_,h⟩
  exact absurd h aH;exact h
 have z:=(zG.1 r4).1;exact⟨hT.below hB zO zO zO zO,.inl ⟨e',aH,rfl,hc⟩⟩
theorem qcs{b:Nat}(r4:W.heap[b+1]?=E (I cs ty1))(r5:W.heap[b+2]?=E (I #[p] ty2))(r6:W.heap[b+3]?=E (I #[q0] ty3))(hC:W.setCell (b+1+1+1,0) v=C):C.heap[b+1]?=E (I cs ty1)/\C.heap[b+2]?=E (I #[p] ty2)/\C.heap[b+3]?=E (I #[v] ty3)/\(∀{w0:Oe},w0.heap.size<=b->Ext w0 W->Ext w0 C)/\C.heap.size=W/\∀k,k≠b+3->C.heap[k]?=W.heap[k]?:=by subst hC;have hs:=λ(k:Nat)(hk:k≠b+3)=>zJ W ⟨b+1+1+1,0,J⟩ v k hk;exact⟨(hs _ zO).trans r4,(hs _ zO).trans r5,qi r6 0 v,λhb hx=>Below.setCell hx (p:=⟨b+1+1+1,0,J⟩) zA2 _,zA3,hs⟩
theorem newE_err(h:Xl S=.error er):er≠0:=by unfold Xl at h;split at h;exact YC h;cases h;decide
theorem cre_mid{b vb:Nat}{u0 u1 u2 u3 u4 u5 u6 u7 y0 y1 y2 y3 x0 x1 x2 x3 z ev nx:Value}{tyP tyV:TypeId}(ra:W.heap[b]?=E (I #[u0,u1,u2,u3,u4,u5,u6,u7] tyP))(rv:W.heap[vb]?=E (I #[y0,y1,y2,y3] tyV))(r4:W.heap[b+1]?=E (I cs ty1))(r5:W.heap[b+2]?=E (I #[p] ty2))(r6:W.heap[b+3]?=E (I #[q0] ty3))(hvb:b+3<vb)(hC:((((((W.setCell b x0).setCell (b,1) x1).setCell (b,2) x2).setCell (b,3) x3).setCell (vb,1) z).setCell (b+1+1+1,0) ev).setCell (b,6) nx=C):C.heap[b]?=E (I #[x0,x1,x2,x3,u4,u5,nx,u7] tyP)/\C.heap[vb]?=E (I #[y0,z,y2,y3] tyV)/\C.heap[b+1]?=E (I cs ty1)/\C.heap[b+2]?=E (I #[p] ty2)/\C.heap[b+3]?=E (I #[ev] ty3) /\
   C.heap.size=W/\(∀{w0:Oe},w0.heap.size<=b->Ext w0 W->Ext w0 C)/\∀k,k≠b->k≠vb->k≠b+3->C.heap[k]?=W.heap[k]?:=by
 subst hC;have hs:=λ(A:Oe)(b j:Nat)(v:Value)(k:Nat)(hk:k≠b)=>zJ A ⟨b,j,J⟩ v k hk;have r1:=qi (qi (qi (qi ra 0 x0) 1 x1) 2 x2) 3 x3;have o1:∀k,k≠b->((((W.setCell b x0).setCell (b,1) x1).setCell (b,2) x2).setCell (b,3) x3).heap[k]?=W.heap[k]?:=λk hk=>by rw[hs _ _ _ _ _ hk,hs _ _ _ _ _ hk,hs _ _ _ _ _ hk,hs _ _ _ _ _ hk]
 have aW:∀k,k≠b->k≠vb->k≠b+3->(((((((W.setCell b x0).setCell (b,1) x1).setCell (b,2) x2).setCell (b,3) x3).setCell (vb,1) z).setCell (b+1+1+1,0) ev).setCell (b,6) nx).heap[k]?=W.heap[k]?:=λk h1 h2 h3=>by rw[hs _ _ _ _ _ h1,hs _ _ _ _ _ zO,hs _ _ _ _ _ h2,o1 k h1]
 refine⟨?_,?_,(aW _ zO zO zO).trans r4,(aW _ zO zO zO).trans r5,?_,zA3,λhb hx=>?_,aW⟩;exact qi (t:=tyP) (cs:=#[x0,x1,x2,x3,u4,u5,u6,u7]) (by rw[hs _ _ _ _ _ zO,hs _ _ _ _ _ zO];exact r1) 6 nx;rw[hs _ _ _ _ _ zO,hs _ _ _ _ _ zO];exact qi (t:=tyV) (cs:=#[y0,y1,y2,y3]) ((o1 vb zO).trans rv) 1 z;rw[hs _ _ _ _ _ zO];exact qi (t:=ty3) (cs:=#[q0]) (by rw[hs _ _ _ _ _ zO,o1 _ zO];exact r6) 0 ev;exact Below.setCell (Below.setCell (Below.setCell (Je hx (b:=b) hb _ _ _ _) (p:=⟨vb,1,J⟩) zA2 _) (p:=⟨b+1+1+1,0,J⟩) zA2 _) (p:=⟨b,6,J⟩) hb _
set_option maxRecDepth 100000 in
theorem qiF (A1 n1 c1 A2 n2 c2 A3 n3 c3 A4 n4 c4) (gen root next:Int) (A5 c5) (S:Sto) (dead:List Int) (hn0:0<=next) (eY:next<4294967296) (w:World) (h:Qh w w.heap.size (.slice A1 n1 c1) (.slice A2 n2 c2) (.slice A3 n3 c3) (.slice A4 n4 c4) S) (hd:ZS w w.heap.size (.slice A5 dead.length c5) dead):Calls prog 48 #[.agg (qR (.slice A1 n1 c1) (.slice A2 n2 c2) (.slice A3 n3 c3) (.slice A4 n4 c4) gen root next (.slice A5 dead.length c5))] w (CreQ S gen root next dead w):=by
 have HV:=zH (fun W (hx:Ext w W)=>qax A1 n1 c1 A2 n2 c2 A3 n3 c3 A4 n4 c4 gen root next A5 c5 S dead W (h.ext hx) (hd.ext_ hx));have HN:=zH (fun W (hx:Ext w W)=>pnew_any A1 n1 c1 A2 n2 c2 A3 n3 c3 A4 n4 c4 S W (h.ext hx));have hwn0:Hid (next<4294967295->IntKind.u32.wrap (next+1)=next+1):=zH fun h1=>by simp only[IntKind.wrap,IntKind.bits,IntKind.signed,Bool.false_and,Bool.false_eq_true,if_false];omega
 have hvok:Hid (∀ ra:Nat,8<=ra->ra<256->qeu (newV next ra)):=zH fun ra h1 h2=>by refine⟨⟨?_,?_⟩,⟨?_,?_⟩,⟨?_,?_⟩⟩ <;> simp only[newV] <;> omega
 replace h:=zH h;replace hd:=zH hd;go_enter_defers func48,ntmps48;go_wp2_with fail;generalize aA:(World.alloc (World.alloc _ _) _)=w1;have x1:Ext w w1:=by rw[<-aA];exact(((zN _ _).trans (zN _ _)).trans (zN _ _)).trans (zN _ _)
 have s1:w1.heap.size=w.heap.size+4:=by rw[<-aA];simp
 have ra1:w1.heap[w.heap.size]?=some (.cells (qR (.slice A1 n1 c1) (.slice A2 n2 c2) (.slice A3 n3 c3) (.slice A4 n4 c4) gen root next (.slice A5 dead.length c5)) 32 (0,0)):=by rw[<-aA];exact(zK _ _ _ zA4).trans ((zK _ _ _ zA4).trans ((zK _ _ _ zA4).trans (zI _ _ _ rfl)))
 have rb1:w1.heap[w.heap.size+1]?=some (.cells qdJ 32 (0,0)):=by rw[<-aA];exact(zK _ _ _ zA4).trans ((zK _ _ _ zA4).trans (zI _ _ _ zA3))
 have rc1:w1.heap[w.heap.size+2]?=some (.cells #[.int .u32 0] 29 (0,0)):=by rw[<-aA];exact(zK _ _ _ zA4).trans (zI _ _ _ zA3)
 have rd1:w1.heap[w.heap.size+3]?=some (.cells #[.int .i64 0] 37 (0,0)):=by rw[<-aA];exact zI _ _ _ zA3
 clear aA;refine(HV.out w1 x1).mono ?_;clear HV;rintro e w2 ⟨hB,hQ⟩;have x2:Ext w w2:=Ext.trans x1 hB;have z2:w.heap.size+3<w2.heap.size:=by have:=Below.size hB;omega
 have ra2:=qb ra1 hB;have rb2:=qb rb1 hB;have rc2:=qb rc1 hB;have rd2:=qb rd1 hB;clear hB ra1 rb1 rc1 rd1 x1;have ka2:=qa ra2;have kb2:=qa rb2;have kc2:=qa rc2;have kd2:=qa rd2;have fb2:=qe rb2;have fc2:=qe rc2;have fd2:=qe rd2;have zd2:w.heap.size+1+1+1<w2.heap.size:=zO;have zd0:w.heap.size<w2.heap.size:=zO;rcases hQ with ⟨rfl,aj⟩|⟨vs,refs,nodes,cb,ca,vv,lo,rfl,aQ,hT⟩
 ·have hce:Hid (qal S root next dead 8):=zH (.inl ⟨rfl,aj⟩);clear aj HN;go_wp2_with fail;obtain⟨rb3,rc3,rd3,xe,-,-⟩:=qcs (b:=w.heap.size) (v:=.int .i64 8) rb2 rc2 rd2 rfl;obtain⟨g4,g5,g6,cZ,-,-⟩:=Gw (b:=w.heap.size) rb3 rc3 rd3 rfl;exact Gl zA1 hce.out rfl rfl rfl g4 g5 g6 (cZ (B:=w.heap.size) zO (xe (zM _) x2))
 ·have hp:=zH hT.pool;have hc:=zH hT.cnt;have he:=zH hT.enough;obtain⟨AV,cV,rfl,-,-⟩:=qC hT.own;clear hT aQ;by_cases hl:16<=vs.length
  ·have hce:Hid (qal S root next dead 9):=zH (.inr ⟨vs,refs,nodes,hp.out,hc.out,he.out,.inl ⟨rfl,.inl hl⟩⟩);have d1:decide ((vs.length:Int)≥16)=true:=decide_eq_true zO;replace hl:=zH hl;clear HN;go_wp2_with fail;obtain⟨rb3,rc3,rd3,xe,-,-⟩:=qcs (b:=w.heap.size) (v:=.int .i64 0) rb2 rc2 rd2 rfl;obtain⟨g4,g5,g6,cZ,-,-⟩:=Gw (b:=w.heap.size) rb3 rc3 rd3 rfl;exact Gl zA1 hce.out rfl rfl rfl g4 g5 g6 (cZ (B:=w.heap.size) zO (xe (zM _) x2))
  ·have d1:decide ((vs.length:Int)≥16)=false:=decide_eq_false zO;replace hl:=zH hl;by_cases hm:next=4294967295
   ·have hce:Hid (qal S root next dead 9):=zH (.inr ⟨vs,refs,nodes,hp.out,hc.out,he.out,.inl ⟨rfl,.inr hm⟩⟩);have d3:(next == 4294967295)=true:=by rw[beq_iff_eq];exact hm
    replace hm:=zH hm;clear HN;go_wp2_with fail;obtain⟨rb3,rc3,rd3,xe,-,-⟩:=qcs (b:=w.heap.size) (v:=.int .i64 0) rb2 rc2 rd2 rfl;obtain⟨g4,g5,g6,cZ,-,-⟩:=Gw (b:=w.heap.size) rb3 rc3 rd3 rfl;exact Gl zA1 hce.out rfl rfl rfl g4 g5 g6 (cZ (B:=w.heap.size) zO (xe (zM _) x2))
   ·have d3:(next == 4294967295)=false:=by rw[beq_eq_false_iff_ne];exact hm
    replace hm:=zH hm;have hDY:vs.length<16:=by have:=hl.out;omega
    have dR:next<4294967295:=by have:=hm.out;omega
    replace hDY:=zH hDY;replace dR:=zH dR;go_wp2_with fail;generalize aP:World.alloc (World.setCell w2 _ _) _=w3;have rv3:w3.heap[w2.heap.size]?=some (.cells #[.int .u32 next,.int .i64 0,.bool false,.int .u32 0] 36 (0,0)):=by rw[<-aP];exact zI _ _ _ zA3
    obtain⟨rb3,rc3,rd3,xe,ze,oe⟩:=qcs (b:=w.heap.size) (v:=.int .i64 0) rb2 rc2 rd2 rfl;have x3:Ext w w3:=by rw[<-aP];exact(xe (zM _) x2).trans (zN _ _)
    have ha3:=zN (w2.setCell ⟨w.heap.size+1+1+1,0,none⟩ (.int .i64 0)) (.cells #[.int .u32 next,.int .i64 0,.bool false,.int .u32 0] 36);rw[aP] at ha3;replace rb3:=qb rb3 ha3;replace rc3:=qb rc3 ha3;replace rd3:=qb rd3 ha3;have ra3:=qb ((oe w.heap.size zO).trans ra2) ha3;clear aP xe ze oe ha3 rb2 rc2 rd2 ra2 ka2 kb2 kc2 kd2 fb2 fc2 fd2;refine(HN.out w3 x3).mono ?_;clear HN;rintro e w4 ⟨u,rfl,hM,hB⟩;have x4:Ext w w4:=x3.trans hB;have ra4:=qb ra3 hB;have rb4:=qb rb3 hB;have rc4:=qb rc3 hB;have rd4:=qb rd3 hB;have rv4:=qb rv3 hB;have ka4:=qa ra4;have kb4:=qa rb4;have kc4:=qa rc4;have kd4:=qa rd4;have kv4:=qa rv4;have fa4:=qe ra4;have fb4:=qe rb4;have fc4:=qe rc4;have fd4:=qe rd4;have fv4:=qe rv4;have zv3:=(zG.1 rv3).1;have zv4:=(zG.1 rv4).1;clear hB ra3 rb3 rc3 rd3 rv3;rcases hq:Xl S with er|⟨ra,S1⟩
    ·rw[hq] at hM;obtain rfl:=hM;have aH:=newE_err hq;have hce:Hid (qal S root next dead er):=zH (.inr ⟨vs,refs,nodes,hp.out,hc.out,he.out,.inr (.inl hq)⟩);have iK:(er != 0)=true:=by rw[bne_iff_ne];exact aH
     replace aH:=zH aH;replace hq:=zH hq;go_wp2_with fail;have hs5:=(((((Sets.refl (fun k=>k=w.heap.size\/k=w2.heap.size) w4).set (b:=w.heap.size) 0 (.inl rfl) (.slice none 0 0)).set (b:=w.heap.size) 1 (.inl rfl) (.slice none 0 0)).set (b:=w.heap.size) 2 (.inl rfl) (.slice none 0 0)).set (b:=w.heap.size) 3 (.inl rfl) (.slice none 0 0)).set (b:=w2.heap.size) 1 (.inr rfl) (.int .i64 0);obtain⟨rb5,rc5,rd5,xe,-,-⟩:=qcs (b:=w.heap.size) (v:=.int .i64 er) (hs5.row rb4 zO) (hs5.row rc4 zO) (hs5.row rd4 zO) rfl;obtain⟨g4,g5,g6,cZ,-,-⟩:=Gw (b:=w.heap.size) rb5 rc5 rd5 rfl;exact Gl aH.out hce.out rfl rfl rfl g4 g5 g6 (cZ (B:=w.heap.size) zO (xe (zM _) (hs5.below x4 zO)))
    ·rw[hq] at hM;obtain⟨v,rfl,hT⟩:=hM;obtain⟨BB,WW,gg,B3,d3,B4,d4,rfl,-⟩:=id hT;have nM:=zH (YG (hT.newSto (Zw (GE hq).2.2.1)));have hwn:=hwn0.out dR.out;have htr:=zH (new_tree hq);have iw:=(GE hq).2.2.2;have sG:=zH hq;clear hT hq;go_wp2_with fail;generalize aS:World.setCell (World.setCell (World.setCell (World.setCell (World.setCell (World.setCell (World.setCell w4 _ _) _ _) _ _) _ _) _ _) _ _) _ _=w5;obtain⟨ra5,rv5,rb5,rc5,rd5,z5,xe5,o5⟩:=cre_mid (b:=w.heap.size) (vb:=w2.heap.size) ra4 rv4 rb4 rc4 rd4 zO aS;have x5:=xe5 (zM _) x4;have hFM:=(nM.out w5 (Ts fun k h1 h2=>o5 k zO zO zO)).more (show w4.heap.size<=w5.heap.size by omega);have HS:=zH (fset_any (some ⟨BB,0,none⟩) S1.bs.length S1.bs.length (some ⟨WW,0,none⟩) S1.ws.length (S1.ws.length+1) B3 S1.now.length d3 B4 S1.last.length d4 gen root (next+1) A5 c5 S1 dead (newV next ra) (hvok.out ra iw.1 iw.2) (fun _ _ _=>htr.out) w5 hFM (hd.out.ext_ x5));clear aS xe5 ra4 rb4 rc4 rd4 rv4 ka4 kb4 kc4 kd4 kv4 fa4 fb4 fc4 fd4 fv4 hFM nM htr;refine HS.out.mono ?_;clear HS;intro e w6 hQS;obtain⟨fU,hS6⟩:=hQS.split;have x6:Ext w w6:=x5.trans fU;have rb6:=qb rb5 fU;have rc6:=qb rc5 fU;have rd6:=qb rd5 fU;have rv6:=qb rv5 fU;obtain⟨E1,m1,e1,E2,m2,e2,E3,m3,e3,E4,m4,e4,g9,t9,n9,E5,m5,e5,er,rfl,hS7⟩:∃ E1 m1 e1 E2 m2 e2 E3 m3 e3 E4 m4 e4 g9 t9 n9 E5 m5 e5 er,e=.returned (.tuple #[.agg (qR (.slice E1 m1 e1) (.slice E2 m2 e2) (.slice E3 m3 e3) (.slice E4 m4 e4) g9 t9 n9 (.slice E5 m5 e5)),.int .i64 er]) /\
       ((er≠0/\qR (.slice E1 m1 e1) (.slice E2 m2 e2) (.slice E3 m3 e3) (.slice E4 m4 e4) g9 t9 n9 (.slice E5 m5 e5)=qdJ/\qfy S1 root (next+1) dead (newV next ra) er)\/(er=0/\∃ r S2 vs',qgP S1 root (next+1) dead (newV next ra) r S2 vs'/\vB w5.heap.size S2 gen (r:Int) (next+1) dead (.agg (qR (.slice E1 m1 e1) (.slice E2 m2 e2) (.slice E3 m3 e3) (.slice E4 m4 e4) g9 t9 n9 (.slice E5 m5 e5))) w6)):=by
      rcases hS6 with ⟨er,h0,rfl,hE⟩|⟨r,S2,vs',u,hO,rfl,hN⟩
      ·exact⟨none,0,0,none,0,0,none,0,0,none,0,0,0,0,0,none,0,0,er,rfl,.inl ⟨h0,rfl,hE⟩⟩
      ·obtain⟨E1,e1,E2,e2,E3,e3,E4,e4,E5,e5,rfl,-⟩:=id hN;exact⟨E1,_,e1,E2,_,e2,E3,_,e3,E4,_,e4,gen,r,next+1,E5,_,e5,0,rfl,.inr ⟨rfl,r,S2,vs',hO,hN⟩⟩
     replace hS7:=zH hS7;have kb6:=qa rb6;have fb6:=qe rb6;have kd6:=qa rd6;have fd6:=qe rd6;clear hQS hS6 ra5 rb5 rc5 rd5 rv5;go_upto_region 13 with fail;generalize lX:World.setCell (World.setCell (World.setCell (World.setCell (World.setCell (World.setCell (World.setCell (World.setCell (World.setCell w6 _ _) _ _) _ _) _ _) _ _) _ _) _ _) _ _) _ _=w7;have x7:Ext w w7:=by rw[<-lX];exact Below.setCell (je x6 (b:=w.heap.size+1) zO _ _ _ _ _ _ _ _) (p:=⟨w.heap.size+1+1+1,0,none⟩) zA2 _
     have z7:w7.heap.size=w6.heap.size:=by rw[<-lX];simp
     have hs:=fun (A:World) (b j:Nat) (v:Value) (k:Nat) (hk:k≠b)=>zJ A ⟨b,j,none⟩ v k hk;have rb7:w7.heap[w.heap.size+1]?=some (.cells (qR (.slice E1 m1 e1) (.slice E2 m2 e2) (.slice E3 m3 e3) (.slice E4 m4 e4) g9 t9 n9 (.slice E5 m5 e5)) 32 (0,0)):=by rw[<-lX,hs _ _ _ _ _ zO];exact kI rb6 _ _ _ _ _ _ _ _
     have o7:∀ k,k≠w.heap.size+1->k≠w.heap.size+3->w7.heap[k]?=w6.heap[k]?:=fun k h1 h2=>by rw[<-lX,hs _ _ _ _ _ zO,ve h1]
     have rc7:=(o7 (w.heap.size+2) zO zO).trans rc6;have rv7:=(o7 w2.heap.size zO zO).trans rv6;have rd7:w7.heap[w.heap.size+3]?=some (.cells #[.int .i64 er] 37 (0,0)):=by rw[<-lX];exact qi (t:=37) (cs:=#[.int .i64 0]) (by rw[ve zO];exact rd6) 0 _
     clear lX kb6 fb6 kd6 fd6 rb6 rc6 rd6 rv6 hs;have gO:∀ W,qm.r w7 W->∀ i,W.cell? ⟨w.heap.size+1,i,none⟩=(qR (.slice E1 m1 e1) (.slice E2 m2 e2) (.slice E3 m3 e3) (.slice E4 m4 e4) g9 t9 n9 (.slice E5 m5 e5))[i]?:=fun W h=>qa (qb rb7 h);have gV:∀ W,qm.r w7 W->∀ i,W.cell? ⟨w2.heap.size,i,none⟩=#[.int .u32 next,.int .i64 (ra:Int),.bool false,.int .u32 0][i]?:=fun W h=>qa (qb rv7 h);have gE:∀ W,qm.r w7 W->∀ i,W.cell? ⟨w.heap.size+1+1+1,i,none⟩=#[.int .i64 er][i]?:=fun W h=>qa (qb rd7 h);refine qt zQ ?_;refine qex (w:=w7) qm (qP [(4,jn)]) (List.replicate 5 true) 2 zQ zQ zQ zQ zQ zQ zQ ?st (Rel.drew _ _) ?walk
     case st=>exact qk (by simp only[List.forall_mem_cons];exact⟨ZY,fun _ h=>by cases h⟩)
     case walk =>
      intro K hK;dsimp only[qv,List.replicate];refine zD3 ?_;refine qH jn zA0 zA0 (fun W hW _=>?_) (fun (p:Unit)=>?_)
      ·have hW:Ext w7 W:=hW;have r8:=qb rb7 hW;have k8:=qa r8;have f8:=qe r8;refine VL ?_ (same8 r8);clear gO gV gE;go_simp
      refine zD3 ?_;refine qB (hK _ _ fun W hW hF=>?_);clear hF hK gO gV gE;have hW:Ext w7 W:=hW;refine zC4 ?_;have x8:Ext w W:=x7.trans hW;have z78:=hW.size;have rb8:=qb rb7 hW;have rc8:=qb rc7 hW;have rd8:=qb rd7 hW;have kc8:=qa rc8;have fc8:=qe rc8;have kd8:=qa rd8;have fd8:=qe rd8;have zd8:w.heap.size+1+1+1<W.heap.size:=(zG.1 rd8).1;have o8:∀ k,k<w6.heap.size->k≠w.heap.size+1->k≠w.heap.size+3->W.heap[k]?=w6.heap[k]?:=fun k h0 h1 h2=>(Below.block hW k zO).trans (o7 k h1 h2);replace o8:=zH o8;clear hW o7 rb7 rc7 rd7 rv7;go_wp2;refine Qq ?_;go_wp2_with fail;generalize ah:World.setCell (World.setCell W _ _) _ _=Wf;obtain⟨rcf,rdf,hbf,zf,hof⟩:=two_rows (b:=w.heap.size) rc8 rd8 ah;have rbf:=(hof (w.heap.size+1) zO zO).trans rb8;have yf:=hbf (B:=w.heap.size) zO x8;clear ah;have hk6:∀ k,w5.heap.size<=k->k<w6.heap.size->Wf.heap[k]?=w6.heap[k]?:=fun k h1 h2=>(hof k zO zO).trans (o8.out k h2 zO zO);have zWf:Wf.heap.size=W.heap.size:=zf;rcases hS7.out with ⟨h0,hz,hE⟩|⟨rfl,r,S2,vs',hO,hN⟩
      ·rw[hz] at rbf;exact Gl h0 (.inr ⟨vs,refs,nodes,hp.out,hc.out,he.out,.inr (.inr ⟨ra,S1,sG.out,.inl hE⟩)⟩) rfl rfl rfl rbf rcf rdf yf
      ·have hN2:vB w.heap.size S2 gen (r:Int) (next+1) dead (.agg (qR (.slice E1 m1 e1) (.slice E2 m2 e2) (.slice E3 m3 e3) (.slice E4 m4 e4) g9 t9 n9 (.slice E5 m5 e5))) Wf:=hN.keep x5.size zO hk6;obtain⟨F1,f1,F2,f2,F3,f3,F4,f4,F5,f5,ee,aJ,hin⟩:=hN2.sto;simp only[qR,Value.agg.injEq,Array.mk.injEq,List.cons.injEq,Value.slice.injEq,Value.int.injEq,true_and,and_true] at ee;obtain⟨⟨rfl,rfl,rfl⟩,⟨rfl,rfl,rfl⟩,⟨rfl,rfl,rfl⟩,⟨rfl,rfl,rfl⟩,rfl,rfl,rfl,rfl,rfl,rfl⟩:=ee;refine qht _ _ _ _ _ _ _ _ _ _ _ _ _ _ _ _ _ 0 S2 rfl rfl rfl rbf rcf rdf (fun _=>aJ) (fun _ hE W' hT=>?_) (fun e' W' h0 hE hT=>?_)
       ·exact⟨hT.below yf zO zO zO zO,.inr ⟨vs,refs,nodes,ra,S1,r,S2,vs',_,hp.out,hc.out,he.out,hDY.out,dR.out,sG.out,hO,hE,rfl,hN.keep x5.size (by have:=hT.size;omega) fun k h1 h2=>(hT.same k zO zO zO zO).trans (hk6 k h1 h2)⟩⟩
       ·refine⟨hT.below yf zO zO zO zO,.inl ⟨e',h0,rfl,.inr ⟨vs,refs,nodes,hp.out,hc.out,he.out,.inr (.inr ⟨ra,S1,sG.out,.inr ⟨r,S2,vs',hO,?_⟩⟩)⟩⟩⟩;rcases hE with ⟨_,h⟩|⟨h,_⟩
        ·exact h.symm
        ·exact absurd rfl h
def okOf{α:Type}(q:Except Int (Nat×α))(d:α):α:=match q with
 |.ok (_,x)=>x
 |.error _=>d
def st1:Sto:=okOf (Xl Qa) Qa
def vol1:Vol:=⟨1,9,Ob,0⟩
def st2:Sto:=okOf (setE st1 8 vol1) st1
theorem QI.not{root next:Int}(hb:QI S root next dead)(h:VR S root next dead=E (vs,met,refs)):False:=by obtain⟨h1,h2,h3⟩:=Tr h;obtain⟨refs',nodes',hc,hn⟩:=hb vs h1;obtain⟨_,e⟩:=JI.same hc.mkd h2.mkd;subst e;exact hn h3
theorem ZS.nil_(w:Oe)(B:Nat):ZS w B (s J 0 0) []:=⟨J,0,rfl,zM _,by simp[maxLen],Rd.none_⟩
section
variable {S:Sto} {gen root next:Int} {dead:List Int}
theorem QI.notC{vs:List Vol}{met refs:List Nat}(h:VR S root next dead=E (vs,met,refs))(hb:QI S root next dead):False:=QI.not hb h
def setC(S:Sto)(root next:Int)(dead:List Int)(v:Vol):Option (Nat×Sto×List Vol):=match VR S root next dead with
 |none=>J
 |some (vs,_,refs)=>if jN S next v vs (λb=>refs.count b)=0 then match setE S root v with
   |.error _=>J
   |.ok (r,S')=>match VR S' (r:Int) next dead with
    |none=>J
    |some (vs',_,_)=>E (r,S',vs')
  else J
theorem qlo{v:Vol}{r:Nat}{S':Sto}{vs':List Vol}(h:setC S root next dead v=E (r,S',vs')):∃vs met refs met' refs',VR S root next dead=E (vs,met,refs)/\jN S next v vs (λb=>refs.count b)=0/\setE S root v=.ok (r,S')/\VR S' (r:Int) next dead=E (vs',met',refs'):=by unfold setC at h;split at h;cases h;rename_i vs met refs hp;split at h;rename_i hf;split at h;cases h;rename_i r1 S1 he;split at h;cases h;rename_i vs1 met1 refs1 oM;cases h;exact⟨vs,met,refs,met1,refs1,hp,hf,he,oM⟩;cases h
theorem setC_err{v:Vol}{r:Nat}{S':Sto}{vs':List Vol}(h:setC S root next dead v=E (r,S',vs')){er:Int}(aH:er≠0)(hE:qfy S root next dead v er):False:=by
 obtain⟨vs,met,refs,met',refs',hp,hf,he,hp'⟩:=qlo h;obtain⟨h1,h2,h3⟩:=Tr hp;rcases hE with⟨_,hb⟩|⟨vs1,refs1,nodes1,k1,k2,k3,hE⟩
 exact hb.not hp;obtain⟨rfl,rfl,-⟩:=QH.unique h1 h2 k1 k2;rcases hE with e|⟨_,e|⟨_,r2,S2,e,hb⟩⟩
 rw[hf]at e;exact aH e.symm;rw[he]at e;cases e;rw[he]at e;cases e;exact hb.not hp'
theorem qln{v:Vol}{r r1:Nat}{S' S1:Sto}{vs' vs1:List Vol}(h:setC S root next dead v=E (r,S',vs'))(hO:qgP S root next dead v r1 S1 vs1):r1=r/\S1=S'/\vs1=vs':=by obtain⟨vs,met,refs,met',refs',hp,hf,he,hp'⟩:=qlo h;obtain⟨_,_,_,_,_,_,_,e,refs9,nodes9,k1,k2,_⟩:=hO;rw[he]at e;cases e;obtain⟨h1,h2,h3⟩:=Tr hp';obtain⟨rfl,_,_⟩:=QH.unique h1 h2 k1 k2;exact⟨rfl,rfl,rfl⟩
def qbT(S:Sto)(root next:Int)(dead:List Int):Option (Nat×Sto):=match VR S root next dead with
 |none=>J
 |some (vs,_,_)=>if vs.length<16/\next<4294967295 then match Xl S with
   |.error _=>J
   |.ok (ra,S1)=>match setC S1 root (next+1) dead (newV next ra) with
    |none=>J
    |some (r,S2,_)=>if Vc S2=0 then E (r,S2)else J
  else J
theorem qjg{r:Nat}{S2:Sto}(h:qbT S root next dead=E (r,S2)){w w':Oe}{e:Ending}(hQ:CreQ S gen root next dead w e w'):Below w w w'/\∃u,e=Y (Jx #[u,O Od next,O Oa 0])/\vB w S2 gen (r:Int) (next+1) dead u w':=by
 unfold qbT at h;split at h;cases h;rename_i vs met refs hp;split at h;rename_i hl;split at h;cases h;rename_i ra S1 hn;split at h;cases h;rename_i r1 S3 vs3 hs;split at h;rename_i hr;cases h;obtain⟨h1,h2,h3⟩:=Tr hp;refine⟨hQ.1,?_⟩;rcases hQ.2 with⟨er,aH,_,hE⟩|⟨vs1,refs1,nodes1,ra1,T1,r9,T2,vs9,u,k1,k2,k3,k4,k5,k6,k7,k8,rfl,k9⟩
 exfalso;rcases hE with⟨_,hb⟩|⟨vs1,refs1,nodes1,k1,k2,k3,hE⟩
 exact hb.not hp;obtain⟨rfl,rfl,-⟩:=QH.unique h1 h2 k1 k2;rcases hE with⟨_,e|e⟩|e|⟨ra1,T1,e,hE⟩
 omega;omega;rw[hn]at e;cases e;rw[hn]at e;cases e;rcases hE with hE|⟨r9,T2,vs9,hO,e⟩
 exact setC_err hs aH hE;obtain⟨rfl,rfl,rfl⟩:=qln hs hO;exact aH (e.symm.trans hr);rw[hn]at k6;cases k6;obtain⟨rfl,rfl,rfl⟩:=qln hs k7;exact⟨u,rfl,k9⟩;cases h;cases h
def vputC(S:Sto)(root next:Int)(dead:List Int)(id:Int)(x:It):Option (Nat×Sto):=match VR S root next dead with
 |none=>J
 |some (vs,_,_)=>match zF vs id with
  |none=>J
  |some v=>if v.fz=Ob/\itB x.r x.val.length=Oc/\x.r=0/\qkm S v.root=0 then match putN (heldS S v.root) v.root.toNat x with
    |.error _=>J
    |.ok (r2,S2)=>match setC S2 root next dead (rootV v r2) with
     |none=>J
     |some (r3,S3,_)=>match leaveE S3 v.root with
      |.error _=>J
      |.ok S4=>if Vc S4=0 then E (r3,S4)else J
   else J
def snapC(S:Sto)(root next:Int)(dead:List Int)(id:Int)(fz:Bool):Option (Nat×Sto):=match VR S root next dead with
 |none=>J
 |some (vs,_,_)=>match zF vs id with
  |none=>J
  |some v=>if vs.length<16/\next<4294967295/\qkm S v.root=0 then match setC (heldS S v.root) root (next+1) dead (snapV next v fz id) with
    |none=>J
    |some (r,S',_)=>if Vc S'=0 then E (r,S')else J
   else J
def frzC(S:Sto)(root next:Int)(dead:List Int)(id:Int)(fz:Bool):Option (Nat×Sto):=match VR S root next dead with
 |none=>J
 |some (vs,_,_)=>match zF vs id with
  |none=>J
  |some v=>if qkm S v.root=0 then match setC (heldS S v.root) root next dead (frzV v fz) with
    |none=>J
    |some (r,S',_)=>match leaveE S' v.root with
     |.error _=>J
     |.ok S4=>if Vc S4=0 then E (r,S4)else J
   else J
end
def cS(o:Option (Nat×Sto)):Sto:=match o with
 |some (_,S)=>S
 |none=>Qa
def cIs(o:Option (Nat×Sto))(r:Nat):Bool:=match o with
 |some (n,_)=>decide (n=r)
 |none=>Ob
theorem cIs_some{r:Nat}(h:cIs o r=Oc):o=E (r,cS o):=by
 rcases o with _|⟨n,S⟩
 cases h;simp only[cIs,decide_eq_true_eq]at h;subst h;rfl
def x7:It:=⟨2,0,0,0,[7]⟩
def xz:It:=⟨0,0,0,0,[]⟩
def t1:Sto:=cS (qbT Qa 8 1 [])
theorem t1_cre:qbT Qa 8 1 []=E (10,t1):=cIs_some (by decide +kernel)
def t2:Sto:=cS (vputC t1 10 2 [] 1 x7)
def t3:Sto:=cS (snapC t2 11 2 [] 1 Oc)
def va:Vol:=⟨1,8,Ob,0⟩
def vb:Vol:=⟨2,8,Oc,1⟩
def t4:Sto:=cS (frzC t3 9 3 [] 2 Ob)
def t5:Sto:=cS (vputC t4 10 3 [] 2 xz)
section
variable {S:Sto} {gen root next:Int} {dead:List Int} {vs:List Vol} {met refs:List Nat} {w w':World} {e:Ending}
theorem qgN.knownC(h:qgN S root next dead w e w')(hk:VR S root next dead=E (vs,met,refs)):e=Y (Jx #[(jO S dead:Int),O Oa 0]):=by
 rcases h.2 with⟨_,hb⟩|⟨_,_,rfl⟩
 exact(QI.notC hk hb).elim;rfl
theorem qet.knownC{id:Int}{v:Vol}{r:Nat}{T:Sto}(h:qet S gen root next dead id w e w')(hk:VR S root next dead=E (vs,met,refs))(hv:zF vs id=v)(hl:dead.length<=19)(hu:unE S root id=.ok (r,T)):Below w w w'/\∃u,e=Y (Jx #[u,O Oa 0])/\vB w T gen (r:Int) next (dead++[v.root]) u w':=by
 obtain⟨h1,h2,h3⟩:=Tr hk;refine⟨h.1,?_⟩;rcases h.2 with⟨er,aH,rfl,hE⟩|⟨vs',v',r',S',u,⟨refs',nodes',k1,k2,k3⟩,k4,-,k5,rfl,hN⟩
 rcases hE with⟨_,hb⟩|⟨vs',⟨refs',nodes',k1,k2,k3⟩,hE⟩
 exact(QI.notC hk hb).elim;obtain rfl:=QH.same h1 k1;rcases hE with⟨_,e⟩|⟨v',e,⟨_,h9⟩|e2⟩
 rw[hv]at e;cases e;omega;rw[hu]at e2;cases e2;obtain rfl:=QH.same h1 k1;rw[hv]at k4;cases k4;rw[hu]at k5;cases k5;exact⟨u,rfl,hN⟩
theorem Ge.one{a:Nat}{D:List Int}{T:Sto}(h:Ge S gen root next [(a:Int)] w e w')(hk:VR S root next [(a:Int)]=E (vs,met,refs))(hr:qdi S [] a=.ok (D,T)):Below w w w'/\∃u,e=Y (Jx #[u,O Oa 0])/\vB w T gen root next D u w':=by
 refine⟨h.1,?_⟩;rcases h.2 with⟨_,hb⟩|⟨_,_,_,_,_,_,⟨e,_⟩|⟨ini,b,e,h⟩⟩
 exact(QI.notC hk hb).elim;simp at e;have hi:ini=[]:=by
  cases ini with
  |nil=>rfl
  |cons x l=>simp at e
 subst hi;obtain rfl:a=b:=by
  have:(a:Int)=(b:Int):=by simpa using e
  omega
 rw[hr]at h;exact h
end
def mkS(q:Except Int (Nat×Sto)):Sto:=match q with
 |.ok (_,S)=>S
 |.error _=>Qa
def mkIs(q:Except Int (Nat×Sto))(r:Nat):Bool:=match q with
 |.ok (n,_)=>decide (n=r)
 |.error _=>Ob
theorem mkIs_ok{q:Except Int (Nat×Sto)}{r:Nat}(h:mkIs q r=Oc):q=.ok (r,mkS q):=by
 rcases q with e|⟨n,S⟩
 cases h;simp only[mkIs,decide_eq_true_eq]at h;subst h;rfl
def rpS(q:Except Int (List Int×Sto)):Sto:=match q with
 |.ok (_,S)=>S
 |.error _=>Qa
def rpIs(q:Except Int (List Int×Sto)):Bool:=match q with
 |.ok (n,_)=>decide (n=[])
 |.error _=>Ob
theorem rpIs_ok(h:rpIs q=Oc):q=.ok ([],rpS q):=by
 rcases q with e|⟨n,S⟩
 cases h;simp only[rpIs,decide_eq_true_eq]at h;subst h;rfl
def vc:Vol:=⟨1,9,Ob,0⟩
theorem t1_pool:VR t1 10 2 []=E ([vc],[9,10],[10,9]):=by decide +kernel
def t6:Sto:=mkS (unE t1 10 1)
theorem t6_un:unE t1 10 1=.ok (8,t6):=mkIs_ok (by decide +kernel)
theorem qlt:VR t6 8 2 [9]=E ([],[9,8],[8,9]):=by decide +kernel
theorem t6_left:jO t6 [9]=1:=by decide +kernel
def t7:Sto:=rpS (qdi t6 [] 9)
theorem t7_reap:qdi t6 [] 9=.ok ([],t7):=rpIs_ok (by decide +kernel)
theorem gone_ret{b:Nat}{x0 x1 x2 x3 x4 x5 x6 x7 v:Value}(h4:a.tmps[0]?.getD undef=U b)(h5:a.tmps[1]?.getD undef=v)(hd:a.defers=[])(aC:W.heap[b]?=E (I #[x0,x1,x2,x3,x4,x5,x6,x7] 32))(hR:R (Y (Jx #[.agg #[x0,x1,x2,x3,x4,x5,x6,x7],v])) W):bodyPost prog Tryz.f70 R .ret a W:=by refine bodyPost_ret (v:=Jx #[.agg #[x0,x1,x2,x3,x4,x5,x6,x7],v]) ?_ hd hR;have k:=qa aC;simp[results,results70,go_sem,h4,h5,k]
set_option maxRecDepth 100000 in
theorem gone_any(w:Oe):Calls prog 70 #[] w (zZ (λu W=>∃v,u=Jx #[v,.bool Oc]/\vB w t6 0 8 2 [9] v W) w):=by go_enter func70,ntmps70;go_wp2_with fail;generalize aA:Z _ _=w1;have x1:Ext w w1:=aA▸zN _ _;have q1:w1.heap[w.heap.size]?=E (I (qR (s J 0 0) (s J 0 0) (s J 0 0) (s J 0 0) 0 0 0 (s J 0 0)) 32 (0,0)):=aA▸zI _ _ _ zA3;clear aA;refine(fnew_any w1).mono ?_;rintro e w2 ⟨u,rfl,hp,hB⟩;have x12:Ext w1 w2:=hB;have x2:Ext w w2:=x1.trans x12;have q2:=qb q1 x12;obtain⟨A1,c1,A2,c2,A3,c3,A4,c4,rfl,hS⟩:=hp.sto;obtain⟨l1,l2,l3,l4⟩:=XW;have HC:=zH (λW (hx:Ext w2 W)=>qiF A1 256 c1 A2 1 c2 A3 256 c3 A4 256 c4 0 8 1 J 0 Qa [] zA1 zA1 W (hS.ext hx) (ZS.nil_ _ _));clear hS hp l1 l2 l3 l4 hB x1 q1 x12;go_wp2_with fail;refine(HC.out w2 (Ext.refl _)).mono ?_;clear HC;intro e w3 hq;obtain⟨hB,u,rfl,hN⟩:=qjg t1_cre hq;have x23:Ext w2 w3:=hB;have x3:Ext w w3:=x2.trans x23;have q3:=qb q2 x23;obtain⟨A1',c1',A2',c2',A3',c3',A4',c4',A5,c5,rfl,hS,hI⟩:=hN.sto;clear hN hq hB q2 x2 x23;go_wp2_with fail;generalize hw4:Z w3 _=w4;have x34:Ext w3 w4:=hw4▸zN _ _;have p4:w4.heap[w3.heap.size]?=E (I (qR (s A1' t1.bs.length c1') (s A2' t1.ws.length c2') (s A3' t1.now.length c3') (s A4' t1.last.length c4') 0 10 2 (s A5 0 c5)) 32 (0,0)):=hw4▸zI _ _ _ zA3;have q4:=qb q3 x34;have k4:=qa p4;have HD:=zH (qdh A1' _ c1' A2' _ c2' A3' _ c3' A4' _ c4' 0 ((10:Nat):Int) 2 A5 c5 t1 [] 1 w4 (hS.ext x34) (hI.ext_ x34));clear hw4 q3 hS hI;go_wp2_with fail;refine HD.out.mono ?_;clear HD;intro e w5 hq;obtain⟨hB,v,rfl,hN⟩:=hq.knownC t1_pool (v:=vc) rfl zA1 t6_un;have x45:Ext w4 w5:=hB;have q5:=qb q4 x45;have x5:Ext w w5:=(x3.trans x34).trans x45;obtain⟨E1,m1,E2,m2,E3,m3,E4,m4,E5,m5,rfl,-⟩:=id hN;have kq:=qa q5;have fq:=qe q5;have zq:=(zG.1 q5).1;have z05:=(x3.trans x34).size;have zq4:=(zG.1 q4).1;replace hN:=zH hN;clear hB hq q4 p4 k4 x3 x34 x45;go_wp2_with fail;refine gone_ret (b:=w.heap.size) rfl rfl rfl (qb (kI q5 _ _ _ _ _ _ _ _) (zN _ _)) ⟨_,rfl,⟨_,rfl,vB.keep hN.out z05 zA3 λk h1 h2=>?_⟩,Below.alloc (je x5 (zM _) _ _ _ _ _ _ _ _) (by have:=x5.size;simpa using this) _⟩;exact(zK _ _ _ (by simpa using h2)).trans (ve zO _ _ _ _ _ _ _ _)
theorem qgT(h0:a.tmps[0]?.getD undef=v)(hd:a.defers=[])(hR:R v W):bodyPost prog Tryz.f21 R .ret a W:=by refine bodyPost_ret (v:=v) ?_ hd hR;simp[results,results21,go_sem,h0]
set_option maxRecDepth 100000 in
theorem qgS(w:Oe):Calls prog 21 #[] w (Ret (.bool Oc) w):=by go_enter func21,ntmps21;go_wp2_with fail;refine(gone_any w).mono ?_;rintro e w1 ⟨u,rfl,⟨v,rfl,hN⟩,hB⟩;have x1:Ext w w1:=hB;obtain⟨A1,c1,A2,c2,A3,c3,A4,c4,A5,c5,rfl,hS,hI⟩:=hN.sto;have HL:=zH (λW (hx:Ext w1 W)=>qcH A1 _ c1 A2 _ c2 A3 _ c3 A4 _ c4 0 8 2 A5 c5 t6 [9] W (hS.ext hx) (hI.ext_ hx));have HR:=zH (λW (hx:Ext w1 W)=>reap_any A1 _ c1 A2 _ c2 A3 _ c3 A4 _ c4 0 8 2 A5 c5 t6 [9] W (hS.ext hx) (hI.ext_ hx));clear hS hI hN hB;go_wp2_with fail;generalize cO:Z w1 _=w2;have x12:Ext w1 w2:=cO▸zN _ _;have p2:w2.heap[w1.heap.size]?=E (I (qR (s A1 t6.bs.length c1) (s A2 t6.ws.length c2) (s A3 t6.now.length c3) (s A4 t6.last.length c4) 0 8 2 (s A5 1 c5)) 32 (0,0)):=cO▸zI _ _ _ zA3;have k2:=qa p2;clear cO;go_wp2_with fail;refine(HL.out w2 x12).mono ?_;clear HL;intro e w3 hq;have hB:=hq.1;obtain rfl:=hq.knownC qlt;rw[t6_left];have x13:Ext w1 w3:=x12.trans hB;have p3:=qb p2 hB;have k3:=qa p3;clear hB hq p2 k2 x12;go_wp2_with fail;refine(HR.out w3 x13).mono ?_;clear HR;intro e w4 hq;obtain⟨hB,u,rfl,hN⟩:=Ge.one (a:=9) hq qlt t7_reap;have x14:Ext w1 w4:=x13.trans hB;have p4:=qb p3 hB;have k4:=qa p4;have z4:=(zG.1 p4).1;obtain⟨B1,d1,B2,d2,B3,d3,B4,d4,B5,d5,rfl,-⟩:=hN;clear hB hq p3 k3 x13;go_wp2_with fail;exact qgT rfl rfl ⟨rfl,(x1.trans x14).trans (zN _ _)⟩
end Go.Proofs.YtmeadnlmepcmbaaGreat
