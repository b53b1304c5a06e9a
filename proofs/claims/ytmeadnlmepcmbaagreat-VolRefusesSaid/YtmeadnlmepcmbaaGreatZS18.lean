/- Lemmas of the proof. -/
import Derived.Test.YtmeadnlmepcmbaaGreatZS17
set_option linter.all false
set_option maxHeartbeats 8000000
open Go.Proofs.Tryz
open Go.Value renaming slice→E,int→U,pointer→Jx
open Bool renaming true→F
open Option renaming some→I,none→J
open Go.World renaming setCell→M,alloc→Y
open Go.Obj renaming cells→O
open Go.IntKind renaming i64→Z
namespace Go.Proofs.YtmeadnlmepcmbaaGreat
open Go.RowKit Go.Shelf
attribute [local go_sem] Oper.semAt_some
variable {R:Ending->World->Prop}{a:Act}{W W' w:World}{x0 x1 x2 x3 y z:Value}{D:Nat->Prop}{k:Option Nat}{S:Sto}{lvl:Int}{e:Ending}
theorem qlm{n b:Nat}(h4:a.tmps[6]?.getD undef=Jx (b+1+1,0))(h5:a.tmps[7]?.getD undef=Jx (b+1+1+1,0))(h6:a.tmps[8]?.getD undef=Jx (b+1+1+1+1,0))(hd:a.defers=[])(r4:W.heap[b+2]?=I (O #[x0,x1,x2,x3] 28))(r5:W.heap[b+3]?=I (O #[y] 3))(r6:W.heap[b+4]?=I (O #[z] 37))(hR:R (.returned (.tuple #[.agg #[x0,x1,x2,x3],y,z])) W):bodyPostM Fence.wide n prog Tryz.f65 R .ret a W:=by have k4:=qa r4;have k5:=qa r5;have k6:=qa r6;change LeavesInM Fence.wide n prog Tryz.f65 a.tmps R a.defers .returning W;rw[hd];refine⟨.tuple #[.agg #[x0,x1,x2,x3],y,z],?_,hR⟩;simp[results,results65,go_sem,h4,h5,h6,k4,k5,k6]
theorem GX{n b D:Nat}(h4:a.tmps[6]?.getD undef=Jx (b+1+1,0))(h5:a.tmps[7]?.getD undef=Jx (b+1+1+1,0))(h6:a.tmps[8]?.getD undef=Jx (b+1+1+1+1,0))(hd:a.defers=[{target:=.collected D,args:=#[]}])(hK:W.heap[D]?=I (.deferred (I [])))(hD:b+4<D)(r4:W.heap[b+2]?=I (O #[x0,x1,x2,x3] 28))(r5:W.heap[b+3]?=I (O #[y] 3))(r6:W.heap[b+4]?=I (O #[z] 37))(hR:R (.returned (.tuple #[.agg #[x0,x1,x2,x3],y,z])) (W.putObj D (.deferred J))):bodyPostM Fence.wide n prog Tryz.f65 R .ret a W:=by have k4:=qa ((World.putObj_heap_other (o:=.deferred J) (show b+2≠D by omega)).trans r4);have k5:=qa ((World.putObj_heap_other (o:=.deferred J) (show b+3≠D by omega)).trans r5);have k6:=qa ((World.putObj_heap_other (o:=.deferred J) (show b+4≠D by omega)).trans r6);change LeavesInM Fence.wide n prog Tryz.f65 a.tmps R a.defers .returning W;rw[hd];refine⟨zA3,.inl ⟨_,_,rfl,run_takeDeferred hK,.tuple #[.agg #[x0,x1,x2,x3],y,z],?_,hR⟩⟩;simp[results,results65,go_sem,h4,h5,h6,k4,k5,k6]
theorem key_ifn(x:It)(k i o:Int)(W:World):(if x.k=k then if x.i=i then if x.o=o then Result.ok (Next.value (Value.bool false)) W else Result.ok (Next.value (Value.bool F)) W else Result.ok (Next.value (Value.bool F)) W else Result.ok (Next.value (Value.bool F)) W)=Result.ok (Next.value (Value.bool (!decide (qz x=(k,i,o))))) W:=by
 have e:(qz x=(k,i,o))↔(x.k=k/\x.i=i/\x.o=o):=by unfold qz;simp only[Prod.mk.injEq]
 by_cases h1:x.k=k;by_cases h2:x.i=i;by_cases h3:x.o=o;rw[if_pos h1,if_pos h2,if_pos h3,decide_eq_true (e.2 ⟨h1,h2,h3⟩)];rfl;rw[if_pos h1,if_pos h2,if_neg h3,decide_eq_false (λh=>h3 (e.1 h).2.2)];rfl;rw[if_pos h1,if_neg h2,decide_eq_false (λh=>h2 (e.1 h).2.1)];rfl;rw[if_neg h1,decide_eq_false (λh=>h1 (e.1 h).1)];rfl
theorem Qj.of_ext(h:Ext W W'):Qj W W':=⟨h.size,λk o hk _=>(Below.block h k (zG.1 hk).1).trans hk⟩
theorem XT.split{B lo b g:Nat}{l held:List It}(h:XT D B lo b g k S lvl l held w e W):Ql lo b g k w W/\((∃er,Hid (Qr S lvl l held=.error er)/\e=.returned (.tuple #[E J 0 0,U Z er])) \/
  (∃up S' k' D' A c,Hid (Qr S lvl l held=.ok (up,S'))/\e=.returned (.tuple #[E A up.length c,U Z 0])/\Zq w k k'/\Yj w D D'/\Bch D' B lo b g k' S' W/\Hid (qk S'=F)/\W.ownsRow w 51 5 (E A up.length c) up.length (qG (upV up)))):=by
 obtain⟨h1,h2⟩:=h;refine⟨h1,?_⟩;rcases hb:Qr S lvl l held with er|⟨up,S'⟩
 rw[hb]at h2;exact .inl ⟨er,zH rfl,h2⟩;rw[hb]at h2;obtain⟨k',D',A,c,e1,e2,e3,e4,e5,e6,-⟩:=h2;exact .inr ⟨up,S',k',D',A,c,zH rfl,e1,e2,e3,e4,zH e5,e6⟩
set_option maxRecDepth 100000 in
theorem qll (A1 n1 c1 A2 n2 c2 A3 n3 c3 A4 n4 c4) (S:Sto) (hS:qk S=true) (a lvl:Nat) (xs:List It) (ha:8<=a) (ha2:a<256) (hn:qm S a=some ((lvl:Int),xs)) (hsp:(qC S lvl xs).isSome=true) (x:It) (hxo:QW x) (Ax:OA) (cx:Nat) (w:World) (hst:Qi w w.heap.size (.slice A1 n1 c1) (.slice A2 n2 c2) (.slice A3 n3 c3) (.slice A4 n4 c4) S) (hxv:Bys w w.heap.size (.slice Ax x.val.length cx) x.val):Calls prog 65 #[Qp A1 n1 c1 A2 n2 c2 A3 n3 c3 A4 n4 c4,.int .i64 (a:Int),itV x Ax cx] w (zv (PutQ w.heap.size (XR S lvl xs a x)) w):=by
 have HA:=zH (fun W (hx:Ext w W)=>qkf A1 n1 c1 A2 n2 c2 A3 n3 c3 A4 n4 c4 S hS a lvl xs ha ha2 hn hsp x Ax cx W (hst.ext hx));have HW:=zH (fun W (hx:Ext w W)=>way_any A1 n1 c1 A2 n2 c2 A3 n3 c3 A4 n4 c4 S hS a lvl xs ha ha2 hn hsp x.k x.i x.o W (hst.ext hx));have HO:=zH (fun W (hx:Ext w W)=>qdf A1 n1 c1 A2 n2 c2 A3 n3 c3 A4 n4 c4 S (by have:=(qZ hS).2.2.1;omega) W (hst.ext hx));obtain⟨q,hq⟩:∃ q,XR S lvl xs a x=q:=⟨_,rfl⟩
 rw[hq];replace hq:=zH hq;obtain⟨l,hl⟩:∃ l,jA S (x.k,x.i,x.o) lvl xs=l:=⟨_,rfl⟩
 have hwo:=qgG (k:=(x.k,x.i,x.o)) lvl hn hsp;have hwl:=VH (k:=(x.k,x.i,x.o)) lvl (qJ hn).1 hsp;have hl6:lvl<6:=by have:=Zc hn;omega
 rw[hl] at HW hwo hwl;replace hl:=zH hl;replace hwo:=zH hwo;have hlb:0<l.length/\l.length<=6:=zO;replace hlb:=zH hlb;replace hwl:=zH hwl;clear hl6;refine(callsIn_wide (n:=3)).1 ?_;refine callsIn_of_wp_marks func65 rfl trivial ?_ rfl;simp only[ntmps65,List.size_toArray,List.length_cons,List.length_nil,Nat.reduceAdd,Nat.reduceSub,Array.replicate_succ,Array.replicate_zero,List.push_toArray,List.append_toArray,List.nil_append,List.cons_append];refine wpIn_wide.2 ?_;replace hst:=zH hst;replace hxv:=zH hxv;replace hxo:=zH hxo;clear hn hsp;go_wp2_with fail;generalize hw1:(World.alloc (World.alloc (World.alloc (World.alloc (World.alloc w _) _) _) _) _)=w1;have x1:Ext w w1:=by rw[<-hw1];exact((((zN _ _).trans (zN _ _)).trans (zN _ _)).trans (zN _ _)).trans (zN _ _)
 have s1:w.heap.size+5<=w1.heap.size:=by rw[<-hw1];simp
 have ra1:w1.heap[w.heap.size]?=some (.cells #[.slice A1 n1 c1,.slice A2 n2 c2,.slice A3 n3 c3,.slice A4 n4 c4] 28 (0,0)):=by rw[<-hw1];exact(zK _ _ _ zA4).trans ((zK _ _ _ zA4).trans ((zK _ _ _ zA4).trans ((zK _ _ _ zA4).trans (zI _ _ _ rfl))))
 have rb1:w1.heap[w.heap.size+1]?=some (.cells #[.int .u8 x.k,.int .u32 x.i,.int .u32 x.o,.int .i64 x.r,.slice Ax x.val.length cx] 51 (0,0)):=by rw[<-hw1];exact(zK _ _ _ zA4).trans ((zK _ _ _ zA4).trans ((zK _ _ _ zA4).trans (zI _ _ _ zA3)))
 have rc1:w1.heap[w.heap.size+2]?=some (.cells #[.slice none 0 0,.slice none 0 0,.slice none 0 0,.slice none 0 0] 28 (0,0)):=by rw[<-hw1];exact(zK _ _ _ zA4).trans ((zK _ _ _ zA4).trans (zI _ _ _ zA3))
 have rd1:w1.heap[w.heap.size+3]?=some (.cells #[.int .i64 0] 3 (0,0)):=by rw[<-hw1];exact(zK _ _ _ zA4).trans (zI _ _ _ zA3)
 have re1:w1.heap[w.heap.size+4]?=some (.cells #[.int .i64 0] 37 (0,0)):=by rw[<-hw1];exact zI _ _ _ zA3
 clear hw1;refine(HA.out w1 x1).mono ?_;clear HA;rintro e w2 ⟨rfl,hB⟩;have x2:Ext w w2:=x1.trans hB;have s2:=hB.size;have ra2:=qb ra1 hB;have rb2:=qb rb1 hB;have rc2:=qb rc1 hB;have rd2:=qb rd1 hB;have re2:=qb re1 hB;clear hB ra1 rb1 rc1 rd1 re1 x1;have ka2:=qa ra2;have kb2:=qa rb2;have kc2:=qa rc2;have kd2:=qa rd2;have ke2:=qa re2;have fc2:=qd rc2;have fd2:=qd rd2;have fe2:=qd re2;by_cases hE:Ta S x=0
 case neg =>
  have hqe:=zH (show q=.error (Ta S x) by rw[<-hq.out];unfold XR;rw[if_neg hE]);have hne:(Ta S x != 0)=true:=by rw[bne_iff_ne];exact hE
  generalize Ta S x=er at *;clear HW HO;go_wp2_with fail;obtain⟨g4,g5,g6,hb,-⟩:=YM rc2 rd2 re2 rfl;exact qlm rfl rfl rfl rfl g4 g5 g6 ⟨_,rfl,by rw[hqe.out];rfl,hb zO x2⟩
 case pos =>
  have hq1:=zH (show q=putX S lvl xs a x by rw[<-hq.out];unfold XR;rw[if_pos hE]);rw[hE];clear hq;have hq2:Hid (q=match Gf S lvl xs x with
   | .error e=>.error e
   | .ok (up,S2)=>match QD S2 (-1) S2.now a with
    |none=>.error 8
    |some t=>.ok (kE up,qu S2 t)):=zH (by rw[hq1.out,qcd] <;> rfl)
  have hpre:Hid (Gf S lvl xs x=if qbD (x.k,x.i,x.o) l=true then .error 120 else
   match jE (x.k,x.i,x.o) l.reverse [x] S with
   | .error e=>.error e
   | .ok (up,S1)=>if 1<up.length then Qr S1 ((l.length:Nat):Int) up up else .ok (up,S1)):=zH (by rw[<-hl.out];rfl)
  replace hE:=zH hE;clear hq1;go_wp2_with fail;refine(HW.out w2 x2).mono ?_;clear HW;rintro e w3 ⟨u,rfl,hSE,hB⟩;have x23:Ext w2 w3:=hB;have x3:Ext w w3:=x2.trans x23;have s3:=hB.size;have ra3:=qb ra2 hB;have rb3:=qb rb2 hB;have rc3:=qb rc2 hB;have rd3:=qb rd2 hB;have re3:=qb re2 hB;clear hB ra2 rb2 rc2 rd2 re2 ka2 kb2 kc2 kd2 ke2 fc2 fd2 fe2;have ka3:=qa ra3;have kb3:=qa rb3;have kc3:=qa rc3;have kd3:=qa rd3;have ke3:=qa re3;have fc3:=qd rc3;have fd3:=qd rd3;have fe3:=qd re3;have hT:=tall_any u l (by have:=hlb.out;omega) hlb.out.1 x.k x.i x.o (fun s hs=>(hwo.out s hs).len) w3 (hSE.read (qY.refl _ _));obtain⟨ps,hps,⟨As,cs,rfl,wHA,wCU,hsr⟩,hpi⟩:=hSE;replace wCU:=zH wCU;replace hsr:=zH hsr;replace hpi:=zH hpi;replace hps:=zH hps;replace hT:=zH hT;clear wHA;go_wp2_with fail;refine hT.out.mono ?_;clear hT;rintro e w4 ⟨rfl,hB⟩;have x34:Ext w3 w4:=hB;have x4:Ext w w4:=x3.trans x34;have s4:=hB.size;have ra4:=qb ra3 hB;have rb4:=qb rb3 hB;have rc4:=qb rc3 hB;have rd4:=qb rd3 hB;have re4:=qb re3 hB;clear hB ra3 rb3 rc3 rd3 re3 ka3 kb3 kc3 kd3 ke3 fc3 fd3 fe3;have ka4:=qa ra4;have kb4:=qa rb4;have kc4:=qa rc4;have kd4:=qa rd4;have ke4:=qa re4;have fc4:=qd rc4;have fd4:=qd rd4;have fe4:=qd re4;rcases hta:qbD (x.k,x.i,x.o) l with _|_
  case true =>have hqe:=zH (show q=.error 120 by rw[hq2.out,hpre.out,if_pos hta]);clear hq2 hpre HO;go_wp2_with fail;obtain⟨g4,g5,g6,hb,-⟩:=YM rc4 rd4 re4 rfl;exact qlm rfl rfl rfl rfl g4 g5 g6 ⟨_,rfl,by rw[hqe.out];rfl,hb zO x4⟩
  case false =>
   have hLQ:Hid (Gf S lvl xs x=match jE (x.k,x.i,x.o) l.reverse [x] S with
    | .error e=>.error e
    | .ok (up,S1)=>if 1<up.length then Qr S1 ((l.length:Nat):Int) up up else .ok (up,S1)):=zH (by rw[hpre.out,if_neg (by rw[hta];decide)])
   replace hta:=zH hta;clear hpre;have z40:w.heap.size<w4.heap.size:=zO;have z41:w.heap.size+1<w4.heap.size:=zO;have z42:w.heap.size+1+1<w4.heap.size:=zO;have z43:w.heap.size+1+1+1<w4.heap.size:=zO;have z44:w.heap.size+1+1+1+1<w4.heap.size:=zO;go_wp2_with fail;generalize hw5:(World.alloc (World.alloc w4 _) _)=w5;have x45:Ext w4 w5:=by rw[<-hw5];exact(zN _ _).trans (zN _ _)
   have x5:Ext w w5:=x4.trans x45;have s5:w4.heap.size+2<=w5.heap.size:=by rw[<-hw5];simp
   have rU5:w5.heap[w4.heap.size]?=some (.cells #[.int .u8 x.k,.int .u32 x.i,.int .u32 x.o,.int .i64 x.r,.slice Ax x.val.length cx] 51 (0,0)):=by rw[<-hw5];exact(zK _ _ _ zA3).trans (zI _ _ _ rfl)
   have rB5:w5.heap[w4.heap.size+1]?=some (.cells #[.slice (some ⟨w4.heap.size,0,none⟩) 1 1] 55 (0,0)):=by rw[<-hw5];exact zI _ _ _ zA3
   clear hw5;have rb5:=qb rb4 x45;have rc5:=qb rc4 x45;have rd5:=qb rd4 x45;have re5:=qb re4 x45;clear ra4 rb4 rc4 rd4 re4 ka4 kb4 kc4 kd4 ke4 fc4 fd4 fe4;refine(HO.out w5 x5).mono ?_;clear HO;rintro e w6 ⟨u,rfl,⟨b,A3',c3',rfl,hlo,hAH,hAD⟩,hB⟩;have x56:Ext w5 w6:=hB;have x6:Ext w w6:=x5.trans x56;have s6:=hB.size;have hst6:=hst.out.below x6;obtain⟨g,hGK⟩:=Bch.of_on (B:=w.heap.size) x5.size hS hst6 hlo hAH hAD;replace hGK:=zH hGK;have rb6:=qb rb5 hB;have rc6:=qb rc5 hB;have rd6:=qb rd5 hB;have re6:=qb re5 hB;have rU6:=qb rU5 hB;have rB6:=qb rB5 hB;clear hB rb5 rc5 rd5 re5 rU5 rB5 hAH hAD hst6 z40 z41 z42 z43 z44;go_wp2_with fail;generalize hw7:World.alloc w6 _=w7;have x67:Ext w6 w7:=by rw[<-hw7];exact zN _ _
   have rT7:w7.heap[w6.heap.size]?=some (.cells #[.pointer (some ⟨b,0,none⟩)] 92 (0,0)):=by rw[<-hw7];exact zI _ _ _ rfl
   clear hw7;refine(qdT As l.length cs w7).mono ?_;rintro e w8 ⟨rfl,rfl⟩;go_wp2_with fail;generalize hw8:World.alloc w7 _=w8;have x78:Ext w7 w8:=by rw[<-hw8];exact zN _ _
   have s8:w7.heap.size<w8.heap.size:=by rw[<-hw8];simp
   have rS8:w8.heap[w7.heap.size]?=some (.cells #[.slice As l.length cs] 180 (0,0)):=by rw[<-hw8];exact zI _ _ _ rfl
   clear hw8;have x68:Ext w6 w8:=x67.trans x78;have x38:Ext w3 w8:=((x34.trans x45).trans x56).trans x68;have x8:Ext w w8:=x6.trans x68;obtain⟨b2,o2,rfl,hb2,hc2⟩:=(hsr.out w3 (qY.refl _ _)).2 hlb.out.1;have hpl:ps.length=l.length:=by rw[<-hps.out,List.length_map]
   obtain⟨us,hus⟩:∃ us:List Us,us=ps.map fun p=>((p.1,kV p.2):Us):=⟨_,rfl⟩
   have hul:us.length=l.length:=by rw[hus,List.length_map,hpl]
   have hNI:∀ i (hi:i<ps.length),us[i]?.getD usz=(ps[i].1,kV ps[i].2):=fun i hi=>by rw[hus,List.getElem?_map,zL hi];rfl
   have hsv:∀ i (hi:i<ps.length),sv (kV ps[i].2)=ps[i].2:=fun i hi=>by obtain⟨ips,_,⟨⟨A,c,e,_⟩,_⟩⟩:=hpi.out ps[i] (List.getElem_mem hi);rw[e];rfl
   have hPY:∀ j,∃ ips A c,sv (us[j]?.getD usz).2=.slice A (sAt l j).2.1.length c/\(us[j]?.getD usz).1=sAt l j/\ips.map (·.1)=(sAt l j).2.1/\jK (fun q=>q<w2.heap.size) w3 (sv (us[j]?.getD usz).2) ips:=fun j=>by
    by_cases hj:j<ps.length
    ·obtain⟨ips,e1,he⟩:=hpi.out ps[j] (List.getElem_mem hj);have hx:ps[j].1=sAt l j:=by unfold sAt;rw[<-hps.out,List.getElem?_map,zL hj];rfl
     obtain⟨A,c,e⟩:=he.shape e1;rw[hNI j hj];simp only;rw[hsv j hj];rw[hx] at e e1;exact⟨ips,A,c,e,hx,e1,he⟩
    ·have h1:us[j]?=none:=List.getElem?_eq_none (by rw[hul];omega);have h2:sAt l j=(0,[],0):=by unfold sAt;rw[List.getElem?_eq_none zO];rfl
     rw[h1,h2];exact⟨[],none,0,rfl,rfl,rfl,⟨none,0,rfl,zM _,zA7,fun C _=>Rd.none_⟩,fun p hp=>by cases hp⟩
   have hne4:b2≠w.heap.size+4:=fun e=>by have h1:=hc2 1 _ (Kd ps 0 (by rw[hpl];exact hlb.out.1)).2.1;have h2:=Ext.cell ((x34.trans x45).trans x56) h1;rw[e,qa re6] at h2;simp at h2
   have hSW:SWs w8 w7.heap.size b2 (.slice (some ⟨b2,o2,none⟩) l.length cs) us:=by refine⟨by rw[qa rS8];rfl,.inr ⟨o2,cs,by rw[hul],fun i hi=>?_⟩⟩;have hi':i<ps.length:=zO;obtain⟨g0,g1,g2⟩:=Kd ps i hi';rw[hNI i hi'];simp only;rw[hsv i hi'];exact⟨Ext.cell x38 (hc2 _ _ g0),by rw[Nat.add_assoc];exact Ext.cell x38 (hc2 _ _ g1),by rw[Nat.add_assoc];exact Ext.cell x38 (hc2 _ _ g2)⟩
   have hI0:PutI (x.k,x.i,x.o) l S x w.heap.size w5.heap.size b g (w4.heap.size+1) w6.heap.size w7.heap.size w2.heap.size w3 (.slice Ax x.val.length cx) (.slice (some ⟨b2,o2,none⟩) l.length cs) [] w8:=by
    refine⟨⟨[x],S,none,_,_,1,[(x,.slice Ax x.val.length cx)],rfl,hS,zA3,zA3,rfl,fun y hy=>?_,fun p hp=>?_,qb rB6 x68,?_,hGK.out.ext x68⟩,qb rb6 x68,qb rc6 x68,qb rd6 x68,qb re6 x68,qb rT7 x78,rS8,qY.of_ext x38⟩
    ·obtain rfl:y=x:=by simpa using hy
     have hb:itB y.r y.val.length=true:=by
      have:=hE.out;unfold Ta at this;split at this
      ·rename_i h;exact h
      ·cases this
     unfold itB at hb;simp only[decide_eq_true_eq] at hb;have h1:=hxo.out.2.2.2.1;exact⟨hxo.out,zO,h1.2⟩
    ·obtain rfl:p=(x,.slice Ax x.val.length cx):=by simpa using hp
     exact⟨⟨Ax,cx,rfl⟩,hxv.out.below x8⟩
    ·exact⟨rfl,.inr ⟨w4.heap.size,1,_,rfl,Nat.zero_le _,qb rU6 x68,zM _,zA7,rfl,rfl⟩⟩
   replace hI0:=zH hI0;replace hPY:=zH hPY;clear hus hNI hsv hc2 hsr hpi hps hpl rb6 rc6 rd6 re6 rU6 rB6 rT7 rS8;generalize hJG:({ tmps:=_,defers:=_ }:Act)=act;refine(wpIn_wide (n:=3)).1 ?_;refine wpIn_rangeFunc_ownH rfl zO (gf:=176) (lb:=#[.pointer (some ⟨w7.heap.size,0,none⟩)]) (by rw[<-hJG];rfl) trivial (enters_of func176 zQ rfl)
    (qhe (3-1) zO w7.heap.size b2 _ us (by rw[hul];have:=hlb.out;omega) w8 s8 (by have:=x38.size;omega) hSW) Qx.t (Qx.b s8 (by have:=x38.size;omega)) (Below.refl _ _) (fun _=>rfl)
    (fun pre W'=>(∃ Wb,PutI (x.k,x.i,x.o) l S x w.heap.size w5.heap.size b g (w4.heap.size+1) w6.heap.size w7.heap.size w2.heap.size w3 (.slice Ax x.val.length cx) (.slice (some ⟨b2,o2,none⟩) l.length cs) pre Wb/\Qj Wb W')/\Below w.heap.size w W')
    (fun c pre W'=>(∃ er Wb,c=.ret/\jE (x.k,x.i,x.o) (pre.map (sAt l)) [x] S=.error er/\(Wb.heap[w.heap.size+2]?=some (.cells #[.slice none 0 0,.slice none 0 0,.slice none 0 0,.slice none 0 0] 28 (0,0))/\Wb.heap[w.heap.size+3]?=some (.cells #[.int .i64 0] 3 (0,0))/\Wb.heap[w.heap.size+4]?=some (.cells #[.int .i64 er] 37 (0,0)))/\Qj Wb W')/\Below w.heap.size w W')
    (OwnFrom.and (fun s A C row hs hg hr=>by obtain⟨Wb,h1,h2⟩:=hs;exact⟨Wb,h1,h2.grown hg fun r e=>(hr r e).2⟩) (ownFrom_below (zM _) x8.size))
    (fun c=>OwnFrom.and (fun s A C row hs hg hr=>by obtain⟨er,Wb,h1,h2,h3,h4⟩:=hs;exact⟨er,Wb,h1,h2,h3,h4.grown hg fun r e=>(hr r e).2⟩) (ownFrom_below (zM _) x8.size))
    ⟨⟨w8,hI0.out,Qj.refl _⟩,x8⟩
    (fun j a' W'=>∃ t14,a'=(((({ tmps:=act.tmps,defers:=[] }:Act).put (some 42) (.int .i64 (j:Int))).put (some 43) (.agg #[.int .i64 ((us[j]?.getD usz).1.1:Int),sv (us[j]?.getD usz).2,.int .i64 ((us[j]?.getD usz).1.2.2:Int)])).put (some 14) (.pointer (some ⟨t14,0,none⟩)))/\W'.heap[t14]?=some (.cells #[.int .i64 ((us[j]?.getD usz).1.1:Int),sv (us[j]?.getD usz).2,.int .i64 ((us[j]?.getD usz).1.2.2:Int)] 187 (0,0)))
    (fun x a' s A C row hs hg hr=>by obtain⟨t14,e,h⟩:=hs;exact⟨t14,e,QL (β:=Unit) _ _ _ _ () A C row h hg hr⟩) ?assign ?body ?done ?stop
   case assign =>
    rintro l' pre j W' K ⟨⟨Wb,hPI,hck⟩,i4⟩ hK;subst hJG;have z4:=i4.size;have hPW:=hPI.ck hck;have zS:=(zG.1 hPW.rS).1;have zb2:b2<W'.heap.size:=by have:=(((x34.trans x45).trans x56).trans x67).size;omega
    gi_wp2
    exact hK _ _ ((KeepsOthers.alloc _ _).from _) ⟨zK _ _ _ zS,zK _ _ _ zb2⟩ ⟨⟨_,hPW,Qj.of_ext (zN _ _)⟩,Below.alloc i4 z4 _⟩ ⟨W'.heap.size,rfl,zI _ _ _ rfl⟩
   case body =>
    rintro l' pre j a' W' hll ⟨rr,hlp⟩ ⟨⟨Wb,hPI,hck⟩,i4⟩ ⟨t14,rfl,hWL⟩ _;subst hJG;have hPW:=hPI.ck hck;simp only[Act.put,zA,zB,zC];obtain⟨ips,A9,c9,e9,e10,e11,hie⟩:=hPY.out j;have hWO:=sAt_ok hwo.out j;have hPV:=zH (fun (ups:List It) (S':Sto) (h:jE (x.k,x.i,x.o) (pre.map (sAt l)) [x] S=.ok (ups,S'))=>(by rw[List.map_append,vR,h];simp only[List.map_cons,List.map_nil];exact YA _ _ _ _:jE (x.k,x.i,x.o) ((pre++[j]).map (sAt l)) [x] S=Qr S' ((sAt l j).1:Int) (Ze (sAt l j).2.1 (sAt l j).2.2 (JS (x.k,x.i,x.o) (sAt l j).1 (sAt l j).2.1) ups) ups));obtain⟨s9,hs9⟩:∃ s9,sAt l j=s9:=⟨_,rfl⟩
    rw[hs9] at e9 e10 e11 hWO hPV;clear hs9;generalize us[j]?.getD usz=u9 at *;obtain⟨v9,sl9⟩:=u9;simp only at e9 e10 hWL hie;subst e10;obtain⟨lv,ys,pl⟩:=v9;simp only at e9 e11 hWL hPV;rw[e9] at hWL hie ⊢;obtain⟨hWm,hWi,hWl,hUB,hRM,hW0⟩:=hWO;simp only at hWm hWi hWl hUB hRM hW0;obtain⟨ups,S',k',D',Au,cu,hIP,hgr,hS',hSV,hQO,hhm,hOQ,hpv,hrU,hoU,hbc⟩:=hPW.ex;have hit:=(hie.trans hPW.kx fun q _ h=>h).its (qY.refl (fun q=>q<w2.heap.size) W');rw[e11] at hit;obtain⟨many,hmy⟩:∃ many,JS (x.k,x.i,x.o) lv ys=many:=⟨_,rfl⟩
    have wCF:=many_ok (k:=(x.k,x.i,x.o)) (s:=(lv,ys,pl)) ⟨hWm,hWi,hWl,hUB,hRM,hW0⟩;simp only at wCF;rw[hmy] at wCF hPV;have zx:w.heap.size+1<W'.heap.size:=(zG.1 hPW.rx).1;have wBH:Hid ((pl=ys.length->many=0)/\(pl<ys.length->lv≠0->many=1)/\(∀ h:pl<ys.length,lv=0->many=if qz (ys[pl]'h)=(x.k,x.i,x.o) then 1 else 0)):=zH (by
     refine⟨fun h=>?_,fun h h1=>?_,fun h h1=>?_⟩
     ·have h0:lv=0:=by
       rcases Nat.eq_zero_or_pos lv with h0|h0
       ·exact h0
       ·have:=hRM h0;omega
      rw[<-hmy];unfold JS;rw[if_pos ⟨h0,kO (by rw[<-hW0 h0];omega)⟩]
     ·rw[<-hmy];unfold JS;rw[if_neg (fun hh=>h1 hh.1)]
     ·rw[<-hmy];unfold JS;have hp:=hW0 h1;subst hp;rw[vn h];by_cases hk:qz ys[qD ys (x.k,x.i,x.o)]=(x.k,x.i,x.o)
      ·rw[if_neg (by simp[hk]),if_pos hk]
      ·rw[if_pos ⟨h1,by simp[hk]⟩,if_neg hk])
    have hYL:=zH hit;have hKU:=zH hie;have hHQ:=zH hPW;have hPQ:=zH hbc;have wGU:=zH hoU;have hZJ:=zH hpv;have hUA:=zH hWi;have hZW:=zH hOQ;have hgrH:=zH hgr;have wFT:=zH hhm;have hmyH:=zH hmy;have hXZ:=zH hWl;have hRK:=zH hUB;have hSG:=zH wCF;have e11H:=zH e11;have wCZ:=zH (And.intro hSV hQO);have rUH:=zH hrU;have hTZ:=zH hS';have hA:=hit.at_.2.2.2;replace hA:=zH hA;have rxW:=hPW.rx;clear hit hie hPW hbc hoU hpv hWm hWi hRM hW0 hOQ hgr hhm hmy hWl hUB wCF e11 hSV hQO hrU hS' hPI hck e9
    gi_upto_region 12 with fail
    gi_cut [69] from 44 (fun s wx=>s=.bool (decide (many=0))/\Ext W' wx)
    case first =>
     have g14:∀ W,qp.r W' W->∀ i,W.cell? ⟨t14,i,none⟩=#[.int .i64 (lv:Int),.slice A9 ys.length c9,.int .i64 (pl:Int)][i]?:=fun W h=>qa (qb hWL h);by_cases hpl:pl=ys.length
     ·have hm0:=zH (wBH.out.1 hpl);have ee:((pl:Int) == (ys.length:Int))=true:=by rw[beq_iff_eq];omega
      clear hpl;refine zu qp (qV []) (List.replicate 26 true) 0 (vM l') zQ zQ zQ zQ zQ zQ zQ zQ zQ ?st (Rel.drew _ _) ?walk
      case st=>exact ql (fun _ h=>by cases h)
      case walk =>
       intro K hK;dsimp only[qA,List.replicate];refine zC4 ?_;refine qF (hK _ _ fun V hV hF=>?_);clear hF hK;have hV:Ext W' V:=hV;refine zB8 ?_
       gi_wp2_with fail
       gi_meet
       case rel=>exact⟨by rw[hm0.out];rfl,hV⟩
     ·have hlt:pl<ys.length:=by have:=hRK.out;omega
      have ee:((pl:Int) == (ys.length:Int))=false:=by rw[beq_eq_false_iff_ne];omega
      by_cases hlv:lv=0
      ·have hb3:=wBH.out.2.2 hlt hlv;obtain⟨bi,off,rfl,hbi⟩:=hA.out zO;obtain⟨A',c',d0,d1,d2,d3,d4,-⟩:=hYL.out.item pl hlt;have gd0:∀ W,qp.r W' W->_:=fun W h=>Ext.cell h d0;have gd1:∀ W,qp.r W' W->_:=fun W h=>Ext.cell h d1;have gd2:∀ W,qp.r W' W->_:=fun W h=>Ext.cell h d2;have gx:∀ W,qp.r W' W->∀ i,W.cell? ⟨w.heap.size+1,i,none⟩=#[.int .u8 x.k,.int .u32 x.i,.int .u32 x.o,.int .i64 x.r,.slice Ax x.val.length cx][i]?:=fun W h=>qa (qb rxW h);generalize ys[pl]=y at *;subst hlv;clear d0 d1 d2 d3 d4;replace hb3:=zH hb3;replace hpl:=zH hpl;refine zu qp (qV []) (List.replicate 26 true) 0 (vM l') zQ zQ zQ zQ zQ zQ zQ zQ zQ ?st (Rel.drew _ _) ?walk
       case st=>exact ql (fun _ h=>by cases h)
       case walk =>
        intro K hK;dsimp only[qA,List.replicate];refine zC4 ?_;refine qe (.bool (!decide (qz y=(x.k,x.i,x.o)))) zA0 zA0 (fun W hW _=>⟨W,?_,Rel.refl _ W⟩) ?_
        ·go_simp;exact key_ifn y x.k x.i x.o W
        refine zC4 ?_;refine qF (hK _ _ fun V hV hF=>?_);clear hF hK;have hV:Ext W' V:=hV;refine zB8 ?_
        gi_wp2_with fail
        gi_meet
        case rel =>refine⟨?_,hV⟩;rw[hb3.out];by_cases hk:qz y=(x.k,x.i,x.o) <;> simp[hk]
      ·have hm0:=zH (wBH.out.2.1 hlt hlv);have el:((lv:Int) == 0)=false:=by rw[beq_eq_false_iff_ne];omega
       replace hlv:=zH hlv;replace hpl:=zH hpl;refine zu qp (qV []) (List.replicate 26 true) 0 (vM l') zQ zQ zQ zQ zQ zQ zQ zQ zQ ?st (Rel.drew _ _) ?walk
       case st=>exact ql (fun _ h=>by cases h)
       case walk =>
        intro K hK;dsimp only[qA,List.replicate];refine zC4 ?_;refine qF (hK _ _ fun V hV hF=>?_);clear hF hK;have hV:Ext W' V:=hV;refine zB8 ?_
        gi_wp2_with fail
        gi_meet
        case rel=>exact⟨by rw[hm0.out];rfl,hV⟩
    case rest =>
     obtain⟨rfl,xc⟩:=hcut;have hma:many=0\/many=1:=hSG.out.1;clear wBH;have rc14:=qb hWL xc;have wEW:=zH (hHQ.out.ck (Qj.of_ext xc));have hitc:=zH (hYL.out.ext xc);have hFJ:ips.length=ys.length:=by rw[<-e11H.out,List.length_map]
     have hZI:hIP.length=ups.length:=by rw[<-wFT.out,List.length_map]
     have one1:∀ u∈qG ips,u.oneCell'=true:=Kq ips fun p hp=>by obtain⟨A,c,e⟩:=(hKU.out.2 p hp).1;rw[e];rfl
     have one2:∀ u∈qG hIP,u.oneCell'=true:=Kq hIP fun p hp=>by obtain⟨A,c,e⟩:=(hZJ.out p hp).1;rw[e];rfl
     have HCl:Hid (∀ W,Ext wc W->Calls prog 115 #[.slice A9 ys.length c9] W (zv (fun u w'=>w'.ownsRow W.heap.size 51 5 u ys.length (qG ips)) W)):=zH fun W hW=>by obtain⟨⟨A,c,e,_,_,hr⟩,_⟩:=hKU.out;rw[hFJ] at e hr;cases e;exact Yb A9 ys.length c9 (qG ips) (by have:=hXZ.out;omega) one1 W (hr W ((wEW.out.kx).trans (qY.of_ext hW) fun _ _ h=>h))
     have hWK:=zH (Zh wGU.out fun q hq=>Below.block xc q (zl wGU.out q hq).2);have HRp:Hid (∀ (V:World) (Ac:OA) (cc:Nat),Ext wc V->V.ownsRow wc.heap.size 51 5 (.slice Ac ys.length cc) ys.length (qG ips)->Calls prog 119 #[.slice Ac ys.length cc,.int .i64 (pl:Int),.int .i64 ((pl+many:Nat):Int),.slice Au ups.length cu] V (Vh wc.heap.size (.slice Ac ys.length cc) (ys.length-many+ups.length) ((qG ips).take (pl*5)++qG hIP++(qG ips).drop ((pl+many)*5)) V)):=zH fun V Ac cc hV ho =>
      qbx wc.heap.size _ ys.length pl many (qG ips) (.slice Au ups.length cu) ups.length 0 (qG hIP) V ho (Zh hWK.out fun q hq=>Below.block hV q (zl hWK.out q hq).2) (fun q hq hq2=>by have h1:=(zl hWK.out q hq).2;have h2:=(zl ho q hq2).1;omega) wCZ.out.1 (by have:=hXZ.out;have:=wCZ.out.2;omega) hSG.out.1 hSG.out.2 one1 one2 hV.size
     have g14:∀ W,qp.r wc W->∀ i,W.cell? ⟨t14,i,none⟩=#[.int .i64 (lv:Int),.slice A9 ys.length c9,.int .i64 (pl:Int)][i]?:=fun W h=>qa (qb rc14 h);have gU:∀ W,qp.r wc W->∀ i,W.cell? ⟨w4.heap.size+1,i,none⟩=#[.slice Au ups.length cu][i]?:=fun W h=>qa (qb (qb rUH.out xc) h);have hw0:IntKind.i64.wrap (pl:Int)=(pl:Int):=by rw[IntKind.wrap_i64];have:=hRK.out;have:=hXZ.out;omega
     have hw1:IntKind.i64.wrap ((pl:Int)+1)=(pl:Int)+1:=by rw[IntKind.wrap_i64];have:=hRK.out;have:=hXZ.out;omega
     have hmyK:=hmyH;replace hFJ:=zH hFJ;replace hZI:=zH hZI;have wDZ:=hSG;clear hSG hmyK;obtain⟨its,hBE⟩:∃ its,its=Ze ys pl many ups:=⟨_,rfl⟩
     have hiE:ys.length-many+ups.length=its.length:=by rw[hBE];unfold Ze;simp only[List.length_append,List.length_take,List.length_drop];have h3:=hRK.out;have h4:=wDZ.out.2;omega
     have hil:its.length<=100/\0<its.length:=by rw[<-hiE];have h5:=hXZ.out;have h6:=wCZ.out;omega
     replace hiE:=zH hiE;rcases hma with rfl|rfl
     all_goals
      gi_upto_region 14 with fail
      refine zu qp (qV [(3,jI wc.heap.size ys.length (qG ips))]) (List.replicate 11 true) 2 (vM l') zQ zQ zQ zQ zQ zQ zQ zQ zQ ?st (Rel.drew _ _) ?walk
      case st=>exact ql (by simp only[List.forall_mem_cons];exact⟨ZZ _ _ _,fun _ h=>by cases h⟩)
      case walk =>
       intro K hK;dsimp only[qA,List.replicate];refine zC4 ?_;refine qH (jI wc.heap.size ys.length (qG ips)) zA0 zA0 (fun W hW _=>?_) (fun p=>?_)
       ·have hW':Ext wc W:=hW;refine Qh ?_ ((HCl.out W hW').mono fun e w' h=>?_)
        ·go_simp
        obtain⟨u,rfl,hu,hB⟩:=h;obtain⟨Ac,cc,rfl,_,_⟩:=qM hu;exact⟨(Ac,cc),rfl,QM hu hW'.size,hB⟩
       obtain⟨Ac,cc⟩:=p;refine zC4 ?_;refine qF (hK _ _ fun V hV hF=>?_);have hoV:V.ownsRow wc.heap.size 51 5 (.slice Ac ys.length cc) ys.length (qG ips):=(hF 3).1;clear hF hK g14 gU;have hV:Ext wc V:=hV;refine zB8 ?_;have HR:=zH (HRp.out V Ac cc hV hoV);clear HRp HCl
       gi_wp2_with fail
       refine⟨trivial,(CallsIn.inRound _ (callsIn_wide.2 HR.out)).mono ?_⟩;clear HR;rintro e w9 ⟨v9,rfl,ho9,hB9,-⟩;have x9:Ext wc w9:=Below.trans hV hB9;have x19:Ext W' w9:=xc.trans x9;clear hB9 hoV;have hRO:=Bch.ext hPQ.out x19;obtain⟨hlb,-,hlg,-,-,-,hkq⟩:=hRO.size;have hB5:∀ q,B3 b g k' q->w5.heap.size<=q:=fun q hq=>by
        rcases hq with rfl|rfl|e
        ·exact hlb
        ·exact hlg
        ·exact(hkq q e).1
       rw[VL,<-VK,<-Zr,<-Zr] at ho9;have s25:w.heap.size<=w5.heap.size:=x5.size;have hX9:=Kk.of_own (X:=B3 b g k') ho9 (by
        have h1:=hFJ.out;have h2:=hZI.out;have h3:=hRK.out;have h4:=wDZ.out.2;simp only[List.length_append,List.length_take,List.length_drop];omega) (fun q hq=>by
        obtain⟨cur,hc⟩:=ZH ho9 hq;exact hRO.notB3 hc zA1 zA1 zA1) (fun p hp=>by
        have hI:∀ p∈ips,(∃ A c,p.2=.slice A p.1.val.length c)/\∀ C,qY (B3 b g k') w9 C->Bys C C.heap.size p.2 p.1.val:=fun p hp=>⟨(hKU.out.2 p hp).1,fun C hC=>(hKU.out.2 p hp).2 C ((hHQ.out.kx.trans (qY.of_ext (X:=fun q=>q<w2.heap.size) x19) fun _ _ h=>h).trans hC fun q h1 h2=>by have:=hB5 q h2;omega)⟩
        rcases List.mem_append.1 hp with hp|hp
        ·rcases List.mem_append.1 hp with hp|hp
         ·exact hI p (List.mem_of_mem_take hp)
         ·exact⟨(hZJ.out p hp).1,fun C hC=>((hZJ.out p hp).2).keepX ((qY.of_ext (X:=B3 b g k') x19).trans hC fun _ _ h=>h) fun q h1 h2=>by have:=hB5 q h2;omega⟩
        ·exact hI p (List.mem_of_mem_drop hp))
       have hrpl:∀ m,(List.map (·.1) (ips.take pl++hIP++ips.drop (pl+m)))=Ze ys pl m ups:=fun m=>by unfold Ze;rw[List.map_append,List.map_append,List.map_take,List.map_drop,e11H.out,wFT.out]
       rw[hrpl] at hX9;clear hrpl;obtain⟨A8,c8,rfl,-,-⟩:=qM ho9;have hoU9:=Zh hWK.out fun q hq=>Below.block x9 q (zl hWK.out q hq).2;have hRY:=hPV.out _ _ hgrH.out;rw[<-hBE] at hX9 hRY;have hio:∀ y∈its,QW y:=fun y hy=>by
        rw[hBE] at hy;unfold Ze at hy;rcases List.mem_append.1 hy with hy|hy
        ·rcases List.mem_append.1 hy with hy|hy
         ·exact(hUA.out y (List.mem_of_mem_take hy)).1
         ·exact(hZW.out y hy).1
        ·exact(hUA.out y (List.mem_of_mem_drop hy)).1
       have hioH:=zH hio;have HBd:=zH (qex D' w.heap.size w5.heap.size b g k' S' hTZ.out (lv:Int) A8 _ c8 its hio hil.2 hil.1 0 (.slice Au ups.length cu) hIP ups wFT.out (fun p hp=>(hZJ.out p hp).1) (fun y hy=>(hZW.out y hy).2) (by have:=wCZ.out.2;omega) w9 hRO hX9 hoU9);rw[hiE.out] at HBd ⊢;have hHN:=zH (wEW.out.ck (Qj.of_ext x9));have hr9:=qb rc14 x9;have k14:=qa hr9;have rU9:=qb rUH.out x19;have kU:=qa rU9;have kT:=qa hHN.out.rT;have k4:=qa hHN.out.r4;replace hBE:=zH hBE;clear hX9 hio ho9 hKU hYL hitc hZJ wGU hWK hA rc14 hWL
       gi_wp2_with fail
       refine⟨trivial,(CallsIn.inRound _ (callsIn_wide.2 HBd.out)).mono ?_⟩;clear HBd;intro e w10 hbq;obtain⟨hkb,hAP⟩:=hbq.split;clear hbq;have nB:∀ {q cs ty fr},w9.heap[q]?=some (.cells cs ty fr)->ty≠223->ty≠5->ty≠142->¬B3 b g k' q:=fun hr h1 h2 h3=>hRO.notB3 hr h1 h2 h3;have rU10:=hkb.row rU9 (nB rU9 zA1 zA1 zA1);have rT10:=hkb.row hHN.out.rT (nB hHN.out.rT zA1 zA1 zA1);have r410:=hkb.row hHN.out.r4 (nB hHN.out.r4 zA1 zA1 zA1);have r310:=hkb.row hHN.out.r3 (nB hHN.out.r3 zA1 zA1 zA1);have r210:=hkb.row hHN.out.r2 (nB hHN.out.r2 zA1 zA1 zA1);have rx10:=hkb.row hHN.out.rx (nB hHN.out.rx zA1 zA1 zA1);have rS10:=hkb.row hHN.out.rS (nB hHN.out.rS zA1 zA1 zA1);have hko:=(KeepsOthers.of_ext x19).trans (hRO.others hkb);have hEV:=(i4.trans (Below.mono x19 i4.size)).trans (Below.mono hkb.below s25);have hYP:=hkb.keepX;have hk7:=hkb.row hHN.out.rS (nB hHN.out.rS zA1 zA1 zA1);have hkr:=fun q (h:q<w5.heap.size)=>hkb.rows q (by have:=hRO.size.2.2.2.2.2.1;omega) fun hx=>by have:=hB5 q hx;omega
       have wCA:=hHN.out.kx;clear hkb hHN rU9 kU kT k4 k14;rcases hAP with ⟨er,hbx,rfl⟩|⟨up2,S2,k2,D2,A2',c2',hbx,rfl,hNk,hND,hGJ,hS2,hFK⟩
       ·have hga:=zH (hRY.trans hbx.out);have hZA:(er != 0)=true:=by rw[bne_iff_ne];exact Vo hbx.out
        have kU10:=qa rU10;have k410:=qa r410;have fU10:=qd rU10;have f410:=qd r410;replace hko:=zH hko;replace hEV:=zH hEV;clear hRY hYP hk7 hkr wCA nB hbx rT10 rx10 rS10 hRO
        gi_upto_region 17 with fail
        generalize hGS:World.setCell (World.setCell w10 _ _) _ _=w11;obtain⟨t1,t2,t3,t4,t5,t6⟩:=Vc (C:=w11) rU10 r410 zO hGS.symm;clear hGS kU10 k410 fU10 f410;have gE:∀ W,qp.r w11 W->∀ i,W.cell? ⟨w.heap.size+1+1+1+1,i,none⟩=#[.int .i64 er][i]?:=fun W h=>qa (qb t2 h);have q2:=(t3 (w.heap.size+2) zO zO).trans r210;have q3:=(t3 (w.heap.size+3) zO zO).trans r310;refine zu qp (qV [(2,jo),(3,jo)]) (List.replicate 4 true) 1 (vM l') zQ zQ zQ zQ zQ zQ zQ zQ zQ ?st (Rel.drew _ _) ?walk
        case st=>exact ql (by simp only[List.forall_mem_cons];exact⟨ja,ja,fun _ h=>by cases h⟩)
        case walk =>
         intro K hK;dsimp only[qA,List.replicate];refine zC4 ?_;refine qH jo zA0 zA0 (fun V hV _=>?_) (fun (p:Unit)=>?_)
         ·have hV:Ext w11 V:=hV;have q8:=qb q2 hV;have k8:=qa q8;have f8:=qd q8;refine VO ?_ (same4 q8);go_simp
         refine zC4 ?_;refine qH jo zA0 zA0 (fun V hV _=>?_) (fun (p:Unit)=>?_)
         ·have hV:Ext w11 V:=hV;have q8:=qb q3 hV;have k8:=qa q8;have f8:=qd q8;refine VO ?_ (qfm q8);go_simp
         refine zC4 ?_;refine qF (hK _ _ fun V hV hF=>?_);clear hF hK gE;have hV:Ext w11 V:=hV;refine zB8 ?_;have q2V:=qb q2 hV;have q3V:=qb q3 hV;have q4V:=qb t2 hV;have ke:=qa q4V;have fe:=qd q4V;have zV:=hV.size;have z11:w.heap.size+4<w11.heap.size:=(zG.1 t2).1;have zc:w.heap.size+1+1<V.heap.size:=zO;have zd:w.heap.size+1+1+1<V.heap.size:=zO
         gi_wp2_with fail
         have hV2:=hV.trans (qfm q4V);exact⟨((hko.out.trans t5).trans (KeepsOthers.of_ext hV2)).from _,⟨er,_,rfl,hga.out,⟨qb q2 hV2,qb q3 hV2,qb t2 hV2⟩,Qj.refl _⟩,(t6 zO zO hEV.out).trans (Below.mono hV2 zO)⟩
       ·have hga:=zH (hRY.trans hbx.out);obtain⟨-,hSX,hNG⟩:=Kp hioH.out (fun y hy=>(hZW.out y hy).2) hTZ.out hbx.out;have kU10:=qa rU10;have k410:=qa r410;have fU10:=qd rU10;have f410:=qd r410;replace hko:=zH hko;replace hEV:=zH hEV;have hKS:=zH (rS10.trans hHQ.out.rS.symm);have zW7:w7.heap.size<W'.heap.size:=(zG.1 hHQ.out.rS).1;have z67:=x67.size;have z19:=x19.size;have hKb:=zH ((hkr b2 zO).trans (x19.block b2 zO));replace hSX:=zH hSX;replace hNG:=zH hNG;replace hGJ:=zH hGJ;replace hFK:=zH hFK;replace wCA:=zH (wCA.trans hYP fun q hq hx=>by have:=hB5 q hx;omega);clear hRY hYP hk7 hkr nB hbx hRO hB5 hHQ wEW
        gi_wp2_with fail
        generalize hGS:World.setCell (World.setCell w10 _ _) _ _=w11;obtain⟨t1,t2,t3,t4,t5,t6⟩:=Vc (C:=w11) rU10 r410 zO hGS.symm;clear hGS kU10 k410 fU10 f410;refine⟨(hko.out.trans t5).from _,⟨(t3 _ zO zO).trans hKS.out,(t3 _ zO hne4).trans hKb.out⟩,⟨w11,?_,Qj.refl _⟩,t6 zO zO hEV.out⟩;refine⟨⟨up2,S2,k2,D2,A2',c2',upV up2,hga.out,hS2.out,hSX.out.1,hSX.out.2,?_,fun y hy=>⟨(hNG.out y hy).1,.inr (hNG.out y hy).2.1.1,(hNG.out y hy).2.1.2⟩,fun p hp=>?_,t1,Zh (QM hFK.out (Nat.zero_le _)) (fun q hq=>t3 q ?_ ?_),hGJ.out.kept (t6 zO zO (Below.refl _ _)) fun q h _=>t3 q zO zO⟩,(t3 _ zO zO).trans rx10,(t3 _ zO zO).trans r210,(t3 _ zO zO).trans r310,t2,(t3 _ zO zO).trans rT10,(t3 _ zO zO).trans rS10,?_⟩
        ·unfold upV;rw[List.map_map];exact List.map_id' _
        ·obtain⟨y,hy,rfl⟩:=List.mem_map.1 hp;have hv:=(hNG.out y hy).2.2;simp only[hv];exact⟨⟨none,0,rfl⟩,none,0,rfl,zM _,zA7,Rd.none_⟩
        ·have:=(zl hFK.out q hq).1;omega
        ·have:=(zl hFK.out q hq).1;omega
        ·exact wCA.out.trans (qY.of_heap (X:=fun q=>q=w4.heap.size+1\/q=w.heap.size+4) fun k _ hX=>t3 k (fun e=>hX (.inl e)) fun e=>hX (.inr e)) fun k hk hx=>zO
   case done =>
    rintro D ys W hD hys ⟨⟨Wb,hPI,hck⟩,i4⟩ hK;subst hJG;have hPW:=hPI.ck hck;obtain⟨ups,S',k',D',Au,cu,hIP,hgr,hS',hSV,hQO,hhm,hOQ,hpv,hrU,hoU,hbc⟩:=hPW.ex;rw[hys,hul,qac l l.length (zM _),List.take_of_length_le zA3] at hgr;have hMZ:Hid (Gf S lvl xs x=if 1<ups.length then Qr S' ((l.length:Nat):Int) ups ups else .ok (ups,S')):=zH (by rw[hLQ.out,hgr]);clear hLQ hgr;have hOC:=i4;have z8:=x8.size;have zz8:w.heap.size+4<w8.heap.size:=(zG.1 hI0.out.r4).1;have zUW:w4.heap.size+1<W.heap.size:=(zG.1 hrU).1;have kU:=qa hrU;have kT:=qa hPW.rT;have hcc:=(qM hoU)
    replace hbc:=zH hbc;replace hoU:=zH hoU;replace hhm:=zH hhm;replace hpv:=zH hpv;replace hOQ:=zH hOQ;replace hS':=zH hS';replace hQO:=zH (And.intro hSV hQO);have rW2:=hPW.r2;have rW3:=hPW.r3;have rW4:=hPW.r4;have rWT:=hPW.rT;replace hys:=zH hys;clear hSV hPW hPI hck hPY hcc;go_upto_if 98 with fail;go_cut [] from 96 (fun wx=>PutD (Gf S lvl xs x) w.heap.size w5.heap.size b g (w4.heap.size+1) w6.heap.size D w wx)
    case first =>
     by_cases h2:1<ups.length
     case neg =>
      have e1:decide ((1:Int)<(ups.length:Int))=false:=decide_eq_false zO;have e3:¬((1:Int)<(ups.length:Int)):=zO;have hq3:=zH (show Gf S lvl xs x=.ok (ups,S') by rw[hMZ.out,if_neg h2]);replace h2:=zH h2;go_wp2_with fail;go_meet
      case rel=>exact⟨⟨ups,S',k',D',Au,cu,hIP,hq3.out,hS'.out,hQO.out.1,hhm.out,hrU,hoU.out,hbc.out,fun y hy=>(hOQ.out y hy).2⟩,rW2,rW3,rW4,rWT,hK,hOC⟩
     case pos =>
      have e3:(1:Int)<(ups.length:Int):=zO;have e4:¬(ups.length:Int)<=1:=zO;have hq3:=zH (show Gf S lvl xs x=Qr S' ((l.length:Nat):Int) ups ups by rw[hMZ.out,if_pos h2]);have hpl:hIP.length=ups.length:=by rw[<-hhm.out,List.length_map]
      have hnb:∀ q,(Value.slice Au ups.length cu).ownBlock=some q->¬B3 b g k' q:=fun q hq=>by obtain⟨cur,hc⟩:=ZH hoU.out hq;exact hbc.out.notB3 hc zA1 zA1 zA1
      have hB5:∀ q,B3 b g k' q->w5.heap.size<=q:=fun q hq=>(hbc.out.b3 q hq).1;have hX:=Kk.of_own (X:=B3 b g k') hoU.out hpl hnb (fun p hp=>⟨(hpv.out p hp).1,fun C hC=>(hpv.out p hp).2.keepX hC fun q h1 hq=>by have:=hB5 q hq;omega⟩);rw[hhm.out] at hX;have HBd:=zH (qex D' w.heap.size w5.heap.size b g k' S' hS'.out ((l.length:Nat):Int) Au _ cu ups (fun y hy=>(hOQ.out y hy).1) hQO.out.1 (by have:=hQO.out.2;omega) 0 (.slice Au ups.length cu) hIP ups hhm.out (fun p hp=>(hpv.out p hp).1) (fun y hy=>(hOQ.out y hy).2) (by have:=hQO.out.2;omega) W hbc.out hX hoU.out);replace h2:=zH h2;clear hX hpl;go_wp2_with fail;refine HBd.out.mono ?_;clear HBd;intro e w10 hbq;obtain⟨hkb,hAP⟩:=hbq.split;clear hbq;have nB:∀ {q cs ty fr},W.heap[q]?=some (.cells cs ty fr)->ty≠223->ty≠5->ty≠142->¬B3 b g k' q:=fun hr h1 h2 h3=>hbc.out.notB3 hr h1 h2 h3;have rU10:=hkb.row hrU (nB hrU zA1 zA1 zA1);have rT10:=hkb.row rWT (nB rWT zA1 zA1 zA1);have r410:=hkb.row rW4 (nB rW4 zA1 zA1 zA1);have r310:=hkb.row rW3 (nB rW3 zA1 zA1 zA1);have r210:=hkb.row rW2 (nB rW2 zA1 zA1 zA1);have hOB:=(hbc.out.others hkb).same D _ hK rfl;have s25:w.heap.size<=w5.heap.size:=x5.size;have hEV:=hOC.trans (Below.mono hkb.below s25);have kU10:=qa rU10;have k410:=qa r410;have fU10:=qd rU10;have f410:=qd r410;have zU:w4.heap.size+1≠w.heap.size+4:=by have:=z8;omega
      have zz:w.heap.size+4<D:=zO;replace hEV:=zH hEV;clear kU kT nB hkb hOC;rcases hAP with ⟨er,hbx,rfl⟩|⟨up2,S2,k2,D2,A2',c2',hbx,rfl,hNk,hND,hGJ,hS2,hFK⟩
      ·have hqe:=zH (show q=.error er by rw[hq2.out,hq3.out,hbx.out]);have hZA:(er != 0)=true:=by rw[bne_iff_ne];exact Vo hbx.out
       clear hbx hq3 hq2;go_upto_region 21 with fail;generalize hGS:World.setCell (World.setCell w10 _ _) _ _=w11;obtain⟨t1,t2,t3,t4,t5,t6⟩:=Vc (C:=w11) rU10 r410 zU hGS.symm;clear hGS kU10 k410 fU10 f410;have gE:∀ W,qp.r w11 W->∀ i,W.cell? ⟨w.heap.size+1+1+1+1,i,none⟩=#[.int .i64 er][i]?:=fun W h=>qa (qb t2 h);have q2:=(t3 (w.heap.size+2) zO zO).trans r210;have q3:=(t3 (w.heap.size+3) zO zO).trans r310;have qK:=t5.same D _ hOB rfl;refine qw zQ ?_;refine Qb (w:=w11) qp (qV [(2,jo),(3,jo)]) (List.replicate 4 true) 1 zQ zQ zQ zQ zQ zQ zQ ?st (Rel.drew _ _) ?walk
       case st=>exact ql (by simp only[List.forall_mem_cons];exact⟨ja,ja,fun _ h=>by cases h⟩)
       case walk =>
        intro K hK;dsimp only[qA,List.replicate];refine zC4 ?_;refine qH jo zA0 zA0 (fun V hV _=>?_) (fun (p:Unit)=>?_)
        ·have hV:Ext w11 V:=hV;have q8:=qb q2 hV;have k8:=qa q8;have f8:=qd q8;refine VO ?_ (same4 q8);go_simp
        refine zC4 ?_;refine qH jo zA0 zA0 (fun V hV _=>?_) (fun (p:Unit)=>?_)
        ·have hV:Ext w11 V:=hV;have q8:=qb q3 hV;have k8:=qa q8;have f8:=qd q8;refine VO ?_ (qfm q8);go_simp
        refine zC4 ?_;refine qF (hK _ _ fun V hV hF=>?_);clear hF hK gE;have hV:Ext w11 V:=hV;refine zB8 ?_;have q4V:=qb t2 hV;have ke:=qa q4V;have fe:=qd q4V;go_wp2;refine Qt ?_;go_wp2_with fail;have hV2:=hV.trans (qfm q4V);have z11:w.heap.size+4<w11.heap.size:=(zG.1 t2).1;have qKV:=qb qK hV2;exact GX rfl rfl rfl rfl qKV zz (qb q2 hV2) (qb q3 hV2) (qb t2 hV2) ⟨_,rfl,by rw[hqe.out];rfl,((t6 zO zO hEV.out).trans (Below.mono hV2 zO)).trans (belowK_b (w:=w) (zM _) _ D _ _ zO qKV rfl rfl)⟩
      ·have hq4:=zH (hq3.out.trans hbx.out);obtain⟨-,hSX,hNG⟩:=Kp (fun y hy=>(hOQ.out y hy).1) (fun y hy=>(hOQ.out y hy).2) hS'.out hbx.out;replace hSX:=zH hSX;replace hNG:=zH hNG;replace hGJ:=zH hGJ;replace hFK:=zH hFK;clear hbx hq3;go_wp2_with fail;go_meet
       case rel =>
        generalize hGS:World.setCell (World.setCell w10 _ _) _ _=w11;obtain⟨t1,t2,t3,t4,t5,t6⟩:=Vc (C:=w11) rU10 r410 zU hGS.symm;clear hGS;have zT:w6.heap.size≠w4.heap.size+1/\w6.heap.size≠w.heap.size+4:=by have:=x45.size;omega
        refine⟨⟨up2,S2,k2,D2,A2',c2',upV up2,hq4.out,hS2.out,hSX.out.1,?_,t1,Zh (QM hFK.out (Nat.zero_le _)) (fun q hq=>t3 q ?_ ?_),hGJ.out.kept (t6 zO zO (Below.refl _ _)) fun q h _=>t3 q zO zO,fun y hy=>⟨.inr (hNG.out y hy).2.1.1,(hNG.out y hy).2.1.2⟩⟩,(t3 _ zO zO).trans r210,(t3 _ zO zO).trans r310,t2,(t3 _ zT.1 zT.2).trans rT10,t5.same D _ hOB rfl,t6 zO zO hEV.out⟩
        ·unfold upV;rw[List.map_map];exact List.map_id' _
        ·have:=(zl hFK.out q hq).1;omega
        ·have:=(zl hFK.out q hq).1;have:=(zG.1 rW4).1;omega
    case rest =>
     obtain⟨⟨ups,S',k',D',Au,cu,hIP,hq3,hS',hSV,hhm,hrU,hoU,hbc,wDA⟩,rW2,rW3,rW4,rWT,hK,hOC⟩:=hcut;have HL:=zH (YY D' w.heap.size w5.heap.size b g k' S' hS' a ha ha2 wc hbc);have hq5:=zH (show q=match QD S' (-1) S'.now a with
      |none=>.error 8
      |some t=>.ok (kE ups,qu S' t) by rw[hq2.out,hq3] <;> rfl)
     have kT:=qa rWT;replace hq3:=zH hq3;replace hhm:=zH hhm;replace hoU:=zH hoU;replace hbc:=zH hbc;replace wDA:=zH wDA;go_wp2_with fail;refine HL.out.mono ?_;clear HL;rintro e w10 ⟨hkb,hAP⟩;have nB:∀ {q cs ty fr},wc.heap[q]?=some (.cells cs ty fr)->ty≠223->ty≠5->ty≠142->¬B3 b g k' q:=fun hr h1 h2 h3=>hbc.out.notB3 hr h1 h2 h3;have rU10:=hkb.row hrU (nB hrU zA1 zA1 zA1);have rT10:=hkb.row rWT (nB rWT zA1 zA1 zA1);have r410:=hkb.row rW4 (nB rW4 zA1 zA1 zA1);have r310:=hkb.row rW3 (nB rW3 zA1 zA1 zA1);have r210:=hkb.row rW2 (nB rW2 zA1 zA1 zA1);have hOB:=(hbc.out.others hkb).same D _ hK rfl;have s25:w.heap.size<=w5.heap.size:=x5.size;have hEV:=hOC.trans (Below.mono hkb.below s25);have hZC:=hkb.own hoU.out (fun q hq=>by obtain⟨cur,hc⟩:=ZH hoU.out hq;exact nB hc zA1 zA1 zA1);have zz:w.heap.size+4<D:=by have:=z8;omega
     have z10:w.heap.size+4<w10.heap.size:=(zG.1 r410).1;have zlo:w.heap.size+4<w5.heap.size:=zO;replace hEV:=zH hEV;clear nB hkb hOC kT hrU rWT rW4 rW3 rW2 hK hoU;rcases hlv:QD S' (-1) S'.now a with _|t
     ·rw[hlv] at hAP;obtain rfl:=hAP;have hqe:=zH (show q=.error 8 by rw[hq5.out,hlv]);have kc:=qa r210;have kd:=qa r310;have ke:=qa r410;have fc:=qd r210;have fd:=qd r310;have fe:=qd r410;replace hlv:=zH hlv;clear hq5;go_wp2_with fail;obtain⟨g4,g5,g6,hb,-,hk,-⟩:=YM r210 r310 r410 rfl;have qK:=(hk D zO).trans hOB;exact GX rfl rfl rfl rfl qK zz g4 g5 g6 ⟨_,rfl,by rw[hqe.out];rfl,(hb zO hEV.out).trans (belowK_b (w:=w) (zM _) _ D _ _ zO qK rfl rfl)⟩
     ·rw[hlv] at hAP;obtain⟨rfl,hGJ⟩:=hAP;have hqe:=zH (show q=.ok (kE ups,qu S' t) by rw[hq5.out,hlv]);have hsh:Gm (qu S' t):=QY (vX hS' (JC ha (qE.1 hS').2.1 hlv));replace hlv:=zH hlv;clear hq5;go_upto_region 25 with fail;obtain⟨bu,ou,rfl,hbu,hcu⟩:=(Rd.of_own hZC).2 hSV;obtain⟨cur,hcur⟩:=ZH hZC (q:=bu) rfl;have hbu2:bu≠w.heap.size+2:=qP hcur r210 zA1;have hpl:0<hIP.length:=by have:=congrArg List.length hhm.out;rw[List.length_map] at this;omega
      have hcr:w10.cell? ⟨bu,ou+3,none⟩=some (.int .i64 (kE ups:Int)):=by
       obtain⟨-,-,-,g3,-⟩:=Vs hIP 0 hpl;have h1:=hcu _ _ g3;have h2:hIP[0].1.r=(kE ups:Int):=by
        obtain⟨y,ys,hy⟩:∃ y ys,ups=y :: ys:=by
         cases ups with
         |nil=>simp at hSV
         |cons y ys=>exact⟨y,ys,rfl⟩
        have h3:hIP[0].1=y:=by
         have h4:(hIP.map (·.1))[0]?=ups[0]?:=by rw[hhm.out]
         rw[List.getElem?_map,zL hpl,hy] at h4;simpa using h4
        have h5:=wDA.out y (by rw[hy];exact List.mem_cons_self);rw[h3,hy];show y.r=((y.r.toNat:Nat):Int)
        omega
       rw[h2] at h1;exact h1
      have hHS:=zH (fun W (h:(vB (w.heap.size+2) 28 (Zg w10.heap.size (qu S' t)) (Zg.keep zO)).r w10 W)=>by have h1:=hGJ.kept (kR h (B0:=w.heap.size) zO zO) (fun q h1 h2=>Xy h h2 zO);obtain⟨A1,n1,c1,A2,n2,c2,c3,A4,c4,hr,hs⟩:=h1.sto;exact Ko b A1 n1 c1 A2 n2 c2 _ _ c3 A4 _ c4 (qu S' t) hsh W hr hs);have hOJ:w.heap.size+2<w10.heap.size:=zO;obtain⟨RR,hRR⟩:∃ RR:Rel,RR=vB (w.heap.size+2) 28 (Zg w10.heap.size (qu S' t)) (Zg.keep hOJ):=⟨_,rfl⟩
      replace hRR:=zH hRR;obtain⟨SF,hSF⟩:∃ SF,qu S' t=SF:=⟨_,rfl⟩
      rw[hSF] at hqe hGJ hsh hHS hRR;replace hSF:=zH hSF;obtain⟨rF,hrF⟩:∃ rF,kE ups=rF:=⟨_,rfl⟩
      rw[hrF] at hqe hcr;have gT:∀ W,RR.r w10 W->∀ i,W.cell? ⟨w6.heap.size,i,none⟩=#[.pointer (some ⟨b,0,none⟩)][i]?:=fun W h=>qa (jy (hRR.out ▸ h) zO rT10);have gU:∀ W,RR.r w10 W->∀ i,W.cell? ⟨w4.heap.size+1,i,none⟩=#[.slice (some ⟨bu,ou,none⟩) ups.length cu][i]?:=fun W h=>qa (jy (hRR.out ▸ h) zO rU10);have gC:∀ W,RR.r w10 W->W.cell? ⟨bu,ou+3,none⟩=some (.int .i64 (rF:Int)):=fun W h=>by have h:(vB _ _ _ _).r w10 W:=hRR.out ▸ h;exact World.grownBy.cell h.1 hcr (fun x=>hbu2 (by simpa using x))
      clear hcur hcu hcr hpl hhm wDA hZC hrF;refine qw zQ ?_;refine Qb (w:=w10) RR (qV [(1,qfa w10.heap.size SF),(6,Ye (w.heap.size+2) 28 (Zg w10.heap.size SF))]) (List.replicate 7 true) 2 zQ zQ zQ zQ zQ zQ zQ ?st (Rel.drew _ _) ?walk
      case st=>rw[hRR.out];exact ql (by simp only[List.forall_mem_cons];exact⟨Uy hOJ,Tx,fun _ h=>by cases h⟩)
      case walk =>
       intro K hK;dsimp only[qA,List.replicate];refine zC4 ?_;refine qH (qfa w10.heap.size SF) zA0 zA0 (fun W hW _=>?_) (fun p=>?_)
       ·rw[hRR.out] at hW ⊢;refine Qh ?_ ((hHS.out W hW).mono fun e w' h=>?_)
        ·go_simp
        obtain⟨v,rfl,hT,hB⟩:=h;obtain⟨BB,WW,gg,A3',c3',A4',c4',rfl,-⟩:=id hT;exact⟨((BB,WW),(A3',c3'),(A4',c4')),rfl,zm.keep hT hW.1.size (zM _) (fun _ _ _=>rfl),qdu hB⟩
       obtain⟨⟨BB,WW⟩,⟨A3',c3'⟩,⟨A4',c4'⟩⟩:=p;refine zC4 ?_;refine qH (Ye (w.heap.size+2) 28 (Zg w10.heap.size SF)) zA0 zA0 (fun W hW hp=>?_) (fun (p:Unit)=>?_)
       ·have hT:zm w10.heap.size SF (Qp (some ⟨BB,0,none⟩) SF.bs.length SF.bs.length (some ⟨WW,0,none⟩) SF.ws.length (SF.ws.length+1) A3' SF.now.length c3' A4' SF.last.length c4') W:=(hp 1 zA1).1;rw[hRR.out] at hW ⊢;have hr0:=qiN hOJ hW r210;obtain⟨u0,u1,u2,u3,q8⟩:=id hr0;have k8:=qa q8;have f8:=qd q8;refine qbh hOJ hr0 hT ?_;clear hT hr0;go_simp
       refine zC4 ?_;refine qF (hK _ _ fun V hV hF=>?_);have hRT:∃ cs,V.heap[w.heap.size+2]?=some (.cells cs 28 (0,0))/\Zg w10.heap.size SF cs V:=(hF 6).1;clear hF hK gT gU gC hHS;rw[hRR.out] at hV;obtain⟨cs,q2,x0,x1,x2,x3,rfl,hTw⟩:=hRT;have q3:=jy hV (show w.heap.size+3≠w.heap.size+2 by omega) r310;have q4:=jy hV (show w.heap.size+4≠w.heap.size+2 by omega) r410;have qK:=jy hV (show D≠w.heap.size+2 by omega) hOB;have xV:=kR hV (B0:=w.heap.size) zO zO;have zV:=hV.1.size;have kd:=qa q3;have ke:=qa q4;have fd:=qd q3;have fe:=qd q4;have zd:w.heap.size+1+1+1<V.heap.size:=zO;replace hTw:=zH hTw;clear hV hRR;refine zB8 ?_;go_wp2;refine Qt ?_;go_wp2_with fail;generalize hwf:World.setCell (World.setCell V _ _) _ _=wf;obtain⟨t1,t2,t3,t4,t5,t6⟩:=Vc (C:=wf) q3 q4 zO hwf.symm;clear hwf;have qKf:=t5.same D _ qK rfl;refine GX rfl rfl rfl rfl qKf zz ((t3 _ zO zO).trans q2) t1 t2 ⟨_,rfl,?_,(t6 zO zO (hEV.out.trans xV)).trans (belowK_b (w:=w) (zM _) _ D _ _ zO qKf rfl rfl)⟩;rw[hqe.out];refine⟨_,rfl,zm.keep hTw.out zO (by simp[World.putObj,t4]) fun k h1 h2=>?_⟩;exact(World.putObj_heap_other (by have:=(zG.1 hOB).1;omega)).trans (t3 k zO zO)
   case stop =>
    rintro D cc pre W hD ⟨kk,hkk,rfl⟩ ⟨⟨er,Wb,rfl,hgx,⟨g4,g5,g6⟩,hCK⟩,hB⟩ hK;rw[hul] at hkk hgx;rw[qac l kk hkk] at hgx;have hqe:=zH (show q=.error er by rw[hq2.out,hLQ.out,qjH hgx]);subst hJG;have zz:w.heap.size+4<w8.heap.size:=(zG.1 hI0.out.r4).1
    gi_wp2_with fail
    have hOC:Below w.heap.size w (W.putObj D (.deferred none)):=hB.trans (belowK_b (w:=w) (zM _) W D _ _ zO hK rfl rfl);exact GX rfl rfl rfl rfl hK zO (hCK.row g4) (hCK.row g5) (hCK.row g6) ⟨_,rfl,by rw[hqe.out];rfl,hOC⟩
end Go.Proofs.YtmeadnlmepcmbaaGreat
namespace Go.Proofs.YtmeadnlmepcmbaaGreat
open Go.RowKit
variable {ys up xs:List It}{p m lvl a j z i:Nat}{k:K3}{S S2 S':Sto}{x:It}{e:Int}{l:List Oper}{o oz:Oper}
def UpOk(y:It):Prop:=QW y/\(y.r=0\/8<=y.r)/\y.r<256
theorem replL_ok(h1:∀y∈ys,QW y)(h2:∀y∈up,QW y):∀y∈Ze ys p m up,QW y:=λy hy=>by
 unfold Ze at hy;rcases List.mem_append.1 hy with hy|hy
 rcases List.mem_append.1 hy with hy|hy
 exact h1 y (List.mem_of_mem_take hy);exact h2 y hy;exact h1 y (List.mem_of_mem_drop hy)
theorem qeK:∀{ps:List Stp}{up up':List It}{S S':Sto},(∀s∈ps,qgS k s)->(∀y∈up,UpOk y)->qk S=F->jE k ps up S=.ok (up',S')->qk S'=F/\(∀y∈up',UpOk y)/\(ps≠[]->0<up'.length/\up'.length<=2/\∀y∈up',8<=y.r/\y.val=[])
 |[],up,up',S,S',_,hu,hS,e=>by cases e;exact⟨hS,hu,λh=>absurd rfl h⟩
 |(lvl,xs,p)::ps,up,up',S,S',hw,hu,hS,e=>by
  have hw0:=hw _ List.mem_cons_self;simp only[jE]at e;split at e;cases e;rename_i up1 S1 e1;obtain⟨h1,h2,h3⟩:=Kp (replL_ok (λy hy=>(hw0.its y hy).1) λy hy=>(hu y hy).1) (λy hy=>(hu y hy).2) hS e1;have hu1:∀y∈up1,UpOk y:=λy hy=>⟨(h3 y hy).1,.inr (h3 y hy).2.1.1,(h3 y hy).2.1.2⟩
  obtain⟨g1,g2,g3⟩:=qeK (λs hs=>hw s (List.mem_cons_of_mem _ hs)) hu1 h1 e;refine⟨g1,g2,λ_=>?_⟩;by_cases hp:ps=[]
  subst hp;cases e;exact⟨h2.1,h2.2,λy hy=>⟨(h3 y hy).2.1.1,(h3 y hy).2.2⟩⟩;exact g3 hp
theorem askP_up(hx:QW x)(h:Ta S x=0):UpOk x:=by unfold Ta at h;split at h;rename_i h1;unfold itB at h1;simp only[decide_eq_true_eq]at h1;have:=hx.2.2.2.1;exact⟨hx,zO,zO⟩;cases h
theorem preX_may(hS:qk S=F)(hn:qm S a=I ((lvl:Int),xs))(hsp:(qC S lvl xs).isSome=F)(hx:UpOk x)(e:Gf S lvl xs x=.ok (up,S2)):qk S2=F/\0<up.length/\∀y∈up,UpOk y/\8<=y.r:=by have hwl:=VH (k:=qz x) lvl (qJ hn).1 hsp;unfold Gf at e;split at e;cases e;split at e;cases e;rename_i up1 S1 e1;obtain⟨h1,h2,h3⟩:=qeK (λs hs=>qgG lvl hn hsp s (List.mem_reverse.1 hs)) (λy hy=>by rw[List.mem_singleton.1 hy];exact hx) hS e1;obtain⟨h4,h5,h6⟩:=h3 (λe=>by have:=congrArg List.length e;simp[hwl]at this);split at e;obtain⟨k1,k2,k3⟩:=Kp (λy hy=>(h2 y hy).1) (λy hy=>(h2 y hy).2) h1 e;exact⟨k1,k2.1,λy hy=>⟨⟨(k3 y hy).1,.inr (k3 y hy).2.1.1,(k3 y hy).2.1.2⟩,(k3 y hy).2.1.1⟩⟩;cases e;exact⟨h1,h4,λy hy=>⟨h2 y hy,(h6 y hy).1⟩⟩
theorem qiw{lvl a r:Nat}(hS:qk S=F)(ha:8<=a)(hn:qm S a=I ((lvl:Int),xs))(hsp:(qC S lvl xs).isSome=F)(hx:QW x)(e:XR S lvl xs a x=.ok (r,S')):qk S'=F/\8<=r/\r<256:=by
 unfold XR at e;split at e;rename_i h0;rw[qcd]at e;split at e;cases e;rename_i up S2 e2;obtain⟨h1,h2,h3⟩:=preX_may hS hn hsp (askP_up hx h0) e2;split at e;cases e;rename_i t ht;simp only[Except.ok.injEq,Prod.mk.injEq]at e;obtain⟨rfl,rfl⟩:=e;obtain⟨y,ys,rfl⟩:∃y ys,up=y::ys:=by
  cases up with
  |nil=>simp at h2
  |cons y ys=>exact⟨y,ys,rfl⟩
 obtain⟨h4,h5⟩:=h3 y List.mem_cons_self;have h6:=h4.2.2;exact⟨vX h1 (JC ha (qE.1 h1).2.1 ht),by simp only[kE];omega,by simp only[kE];omega⟩;cases e
theorem qeJ:∀{ps:List Stp}{up:List It}{S:Sto}{e:Int},jE k ps up S=.error e->e≠0
 |[],up,S,e,h=>by cases h
 |(lvl,xs,p)::ps,up,S,e,h=>by simp only[jE]at h;split at h;rename_i e1 h1;cases h;exact Vo h1;exact qeJ h
theorem preX_err(h:Gf S lvl xs x=.error e):e≠0:=by unfold Gf at h;split at h;cases h;decide;split at h;rename_i e1 h1;cases h;exact qeJ h1;split at h;exact Vo h;cases h
theorem qiv(h:XR S lvl xs a x=.error e):e≠0:=by unfold XR at h;split at h;rw[qcd]at h;split at h;rename_i e1 h1;cases h;exact preX_err h1;split at h;cases h;decide;cases h;rename_i h0;cases h;exact h0
def JA:List Oper->Nat->Nat->List Oper
 |[],_,_=>[]
 |o::l,0,z=>{o with after:=o.after.push {on:=z,ground:=.data} }::l
 |o::l,j+1,z=>o::JA l j z
theorem Ke:∀(l:List Oper)(j z i:Nat),(JA l j z)[i]?=if i=j then(l[i]?).map (λo=>{o with after:=o.after.push {on:=z,ground:=.data} })else l[i]?
 |[],j,z,i=>by simp[JA]
 |o::l,0,z,i=>by
  cases i with
  |zero=>simp[JA]
  |succ i=>simp[JA]
 |o::l,j+1,z,i=>by
  cases i with
  |zero=>simp[JA]
  |succ i=>
   simp only[JA,List.getElem?_cons_succ];rw[Ke l j z i];by_cases h:i=j;subst h;simp;rw[if_neg h,if_neg zO]
theorem GB(h:i≠j):(JA l j z).toArray[i]?=l.toArray[i]?:=by simp only[List.getElem?_toArray];rw[Ke,if_neg h]
theorem qhS(h:l.toArray[j]?=o):(JA l j z).toArray[j]?=I {o with after:=o.after.push {on:=z,ground:=.data} }:=by simp only[List.getElem?_toArray]at h⊢;rw[Ke,if_pos rfl,h];rfl
theorem JB{listed:Array Bool}:i∈Region.ready .any (JA l j z).toArray listed↔i∈Region.ready .any l.toArray listed/\(i=j->listed.getD z false=F):=by
 rw[mem_ready,mem_ready];by_cases h:i=j;subst h;constructor;rintro⟨h0,o,ho,ha⟩;obtain⟨o',ho',rfl⟩:∃o',l.toArray[i]?=I o'/\o={o' with after:=o'.after.push {on:=z,ground:=.data} }:=by
  simp only[List.getElem?_toArray]at ho⊢;rw[Ke,if_pos rfl]at ho;rcases hq:l[i]? with _|o'
  rw[hq]at ho;cases ho;rw[hq]at ho;cases ho;exact⟨o',rfl,rfl⟩
 refine⟨⟨h0,o',ho',λe he hb=>ha e ?_ hb⟩,λ_=>ha {on:=z,ground:=.data} ?_ rfl⟩;show e∈o'.after.push _;exact Array.mem_push_of_mem _ he;show _∈o'.after.push _;exact Array.mem_push_self;rintro⟨⟨h0,o,ho,ha⟩,hz⟩;refine⟨h0,_,qhS ho,λe he hb=>?_⟩;have he:e∈o.after.push {on:=z,ground:=.data}:=he;rcases Array.mem_push.1 he with he|rfl
 exact ha e he hb;exact hz rfl;rw[GB h];exact⟨λ⟨h0,o,ho,ha⟩=>⟨⟨h0,o,ho,ha⟩,λe=>absurd e h⟩,λ⟨h0,_⟩=>h0⟩
theorem qam(l:List Oper)(j z:Nat)(t:Array Value):yielded (JA l j z).toArray t=yielded l.toArray t:=by funext i;unfold yielded;by_cases h:i=j;subst h;simp only[List.getElem?_toArray];rw[Ke,if_pos rfl];cases l[i]?<;>rfl;rw[GB h]
theorem qfS{src:Operand}{k:Nat}(hop:oz.op=.extract src k)(ev:Operand->Value)(P:Program):(∃v,∀W,(execOp ev oz).run P W=.ok (.value v) W)\/(∀W,∃s,(execOp ev oz).run P W=.halt (.stuck s) W):=by
 unfold execOp;rw[hop];simp only[Instr.extract];split;split;rename_i v _;exact .inl ⟨v,λW=>rfl⟩;exact .inr λW=>⟨_,rfl⟩
 exact .inr λW=>⟨_,rfl⟩
def lateB(ops:Array Oper)(j z:Nat):Bool:=match ops[z]? with
 |none=>false
 |some oz=>(qS oz).all (λk=>UE ops 9 j k)&&(List.range ops.size).all λi=>i==z||UE ops 9 z i||match ops[i]? with
  |some oi=>oi.after.any (λe=>Region.binds .any e&&e.on==z)||oz.apart ops oi
  |none=>F
section
variable {P:Program} {l:List Oper} {Q:Exit->Act->World->Prop}
theorem qmS{j z i:Nat}{K K':Act->World->Prop}{a:Act}{W:World}(hK:∀a w,K a w->K' a w)(h:wpOp P (JA l j z).toArray (QN Q) i K a W):wpOp P l.toArray (QN Q) i K' a W:=by
 refine wpOp_mono hK ?_;unfold wpOp at h⊢;rw[qam]at h;by_cases hi:i=j;subst hi;rcases ho:l.toArray[i]? with _|o
 have:(JA l i z).toArray[i]?=J:=by simp only[List.getElem?_toArray]at ho⊢;rw[Ke,if_pos rfl,ho];rfl
 rw[this]at h;exact h;rw[qhS ho]at h;exact h;rw[GB hi]at h;exact h
theorem qjS{ops:Array Oper}{j z:Nat}{oz:Oper}(hz:ops[z]?=oz)(h:lateB ops j z=F):(∀k∈qS oz,UE ops 9 j k=F)/\∀(i:Nat)(oi:Oper),ops[i]?=oi->i≠z->UE ops 9 z i=F\/(∃e∈oi.after,Region.binds .any e=F/\e.on=z)\/oz.apart ops oi=F:=by
 unfold lateB at h;rw[hz]at h;simp only[Bool.and_eq_true]at h;refine⟨λk hk=>List.all_eq_true.1 h.1 k hk,λi oi hi hiz=>?_⟩;have h1:=List.all_eq_true.1 h.2 i (List.mem_range.2 (zG.1 hi).1);rw[hi]at h1;simp only[Bool.or_eq_true,beq_iff_eq,hiz,false_or]at h1;rcases h1 with h1|h1|h1
 exact .inl h1;rw[<-Array.any_toList]at h1;obtain⟨e,he,h2⟩:=List.any_eq_true.1 h1;replace he:e∈oi.after:=by simpa using he
 simp only[Bool.and_eq_true,beq_iff_eq]at h2;exact .inr (.inl ⟨e,he,h2⟩);exact .inr (.inr h1)
theorem qkB{j z:Nat}{oz:Oper}{src:Operand}{k:Nat}(hz:l.toArray[z]?=oz)(hjz:j≠z)(hop:oz.op=.extract src k)(hg:oz.guard=J)(hs:Region.noSelect l.toArray=F)(hB:lateB l.toArray j z=F):∀(fuel:Nat)(listed:Array Bool)(a:Act)(W:World),Vm l.toArray listed->listed.size=l.length->wpAny P .any (JA l j z).toArray (QN Q) fuel listed a W->wpAny P .any l.toArray (QN Q) fuel listed a W:=by
 obtain⟨hB1,hB2⟩:=qjS hz hB;have hzl:z<l.length:=by simpa using(zG.1 hz).1
 have zr:∀listed:Array Bool,Vm l.toArray listed->listed.size=l.length->j∈Region.ready .any l.toArray listed->¬listed.getD z false=F->z∈Region.ready .any l.toArray listed:=λlisted hc hsz hj hzu=>by refine mem_ready.2 ⟨?_,oz,hz,λe he hb=>?_⟩;have hlt:z<listed.size:=zO;simp only[Array.getD_eq_getD_getElem?,Array.getElem?_eq_getElem hlt,Option.getD_some]at hzu⊢;simpa using hzu;have hk:e.on∈qS oz:=List.mem_map.2 ⟨e,by rw[List.mem_filter];exact⟨by simpa using he,hb⟩,rfl⟩;exact Vf hc 9 j e.on (λo ho=>VT hj ho) (hB1 _ hk)
 intro fuel;induction fuel with
 |zero=>
  intro listed a W hc hsz h;refine⟨?_,h.2⟩;refine Classical.byContradiction λhne=>?_;obtain⟨i,hi⟩:=List.exists_mem_of_ne_nil _ hne;have hno:∀i,i∉Region.ready .any (JA l j z).toArray listed:=λi hi=>by rw[h.1]at hi;cases hi
  by_cases hij:i=j;subst hij;by_cases hzu:listed.getD z false=F;exact hno i (JB.2 ⟨hi,λ_=>hzu⟩);exact hno z (JB.2 ⟨zr listed hc hsz hi hzu,λe=>absurd e.symm hjz⟩);exact hno i (JB.2 ⟨hi,λe=>absurd e hij⟩)
 |succ fuel ih=>
  intro listed a W hc hsz h;refine⟨λh0=>h.1 ?_,λi hi=>?_⟩;refine List.eq_nil_iff_forall_not_mem.2 λi hi=>?_;have:=(JB.1 hi).1;rw[h0]at this;cases this;have key:∀i,i∈Region.ready .any (JA l j z).toArray listed->wpOp P l.toArray (QN Q) i (wpAny P .any l.toArray (QN Q) fuel (listed.setIfInBounds i F)) a W:=λi hi=>
   qmS (λa w hw=>ih _ a w (hc.step (JB.1 hi).1) (by simpa using hsz) hw) (h.2 i hi)
  by_cases hlate:i=j/\¬listed.getD z false=F;obtain⟨rfl,hzu⟩:=hlate;have hzr:=zr listed hc hsz hi hzu;have h1:=h.2 z (JB.2 ⟨hzr,λe=>absurd e.symm hjz⟩);have hw:∀t,Region.wanted oz (yielded l.toArray t)=F:=λt=>by unfold Region.wanted;rw[hg]
  unfold wpOp at h1;rw[GB (λe=>hjz e.symm),hz]at h1;simp only[qam,hw,if_true]at h1;rcases h1 with h1|⟨_,h1⟩
  unfold Oper.wp at h1;rcases qfS hop a.eval P with⟨v,hv⟩|hst
  rw[hv]at h1;have h2:=ih _ _ W (hc.step hzr) (by simpa using hsz) h1;have h3:=qdM (Q:=Q) (v:=v) hz (Region.noSelect_spec hs) fuel listed a W (λj' oj' hJH hjz' hun hno=>by
   rcases hB2 j' oj' hJH hjz' with hwt|⟨e,he,hb,heq⟩|hap
   exfalso;have:=Vf hc 9 z j' (λo ho=>VT hzr ho) hwt;rcases Nat.lt_or_ge j' listed.size with h'|h'
   simp[h']at hun this;rw[hun]at this;cases this;simp[Array.getElem?_eq_none h']at this;exact absurd heq (hno e he hb)
   ·exact hap) hzr (hw _) hv h2
  exact h3.2 i hi;obtain⟨s,hs2⟩:=hst W;rw[hs2]at h1;exact False.elim h1;exact absurd h1 JD;exact key i (JB.2 ⟨hi,λe=>Classical.byContradiction λhn=>hlate ⟨e,hn⟩⟩)
theorem Yw{listed:Array Bool}{a:Act}{W:World}{fuel:Nat}(j z:Nat){oz:Oper}{src:Operand}{k:Nat}(hz:l.toArray[z]?=oz)(hjz:(j==z)=false)(hop:oz.op=.extract src k)(hg:oz.guard=J)(hs:Region.noSelect l.toArray=F)(hB:lateB l.toArray j z=F)(hc:Xb l.toArray listed=F)(hsz:(listed.size==l.length)=F)(h:wpAny P .any (JA l j z).toArray (QN Q) fuel listed a W):wpAny P .any l.toArray (QN Q) fuel listed a W:=
 qkB hz (by simpa using hjz) hop hg hs hB fuel listed a W (vN hc) (by simpa using hsz) h
end
end Go.Proofs.YtmeadnlmepcmbaaGreat
