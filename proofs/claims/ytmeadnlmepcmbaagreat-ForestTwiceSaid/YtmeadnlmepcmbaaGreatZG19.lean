/- Lemmas of the proof. -/
import Derived.Test.YtmeadnlmepcmbaaGreatZG18
set_option linter.all false
set_option maxHeartbeats 8000000
open Go.Proofs.Tryz
namespace Go.Proofs.YtmeadnlmepcmbaaGreat
open Go.RowKit Go.Shelf
attribute [local go_sem] Oper.semAt_some
theorem qjS{n b:Nat}{R:Ending->World->Prop}{a:Act}{W:World}{x0 x1 x2 x3 y z:Value}(h4:a.tmps[6]?.getD undef=.pointer (some ⟨b+1+1,0,none⟩))(h5:a.tmps[7]?.getD undef=.pointer (some ⟨b+1+1+1,0,none⟩))(h6:a.tmps[8]?.getD undef=.pointer (some ⟨b+1+1+1+1,0,none⟩))(hd:a.defers=[])(r4:W.heap[b+2]?=some (.cells #[x0,x1,x2,x3] 28 (0,0)))(r5:W.heap[b+3]?=some (.cells #[y] 3 (0,0)))(r6:W.heap[b+4]?=some (.cells #[z] 37 (0,0)))(hR:R (.returned (.tuple #[.agg #[x0,x1,x2,x3],y,z])) W):bodyPostM Fence.wide n prog Tryz.f65 R .ret a W:=by
 have k4:=qa r4;have k5:=qa r5;have k6:=qa r6;change LeavesInM Fence.wide n prog Tryz.f65 a.tmps R a.defers .returning W;rw[hd];refine⟨.tuple #[.agg #[x0,x1,x2,x3],y,z],?_,hR⟩;simp[results,results65,go_sem,h4,h5,h6,k4,k5,k6]
theorem Gh{n b D:Nat}{R:Ending->World->Prop}{a:Act}{W:World}{x0 x1 x2 x3 y z:Value}(h4:a.tmps[6]?.getD undef=.pointer (some ⟨b+1+1,0,none⟩))(h5:a.tmps[7]?.getD undef=.pointer (some ⟨b+1+1+1,0,none⟩))(h6:a.tmps[8]?.getD undef=.pointer (some ⟨b+1+1+1+1,0,none⟩))(hd:a.defers=[{target:=.collected D,args:=#[]}])(hK:W.heap[D]?=some (.deferred (some [])))(hD:b+4<D)(r4:W.heap[b+2]?=some (.cells #[x0,x1,x2,x3] 28 (0,0)))(r5:W.heap[b+3]?=some (.cells #[y] 3 (0,0)))(r6:W.heap[b+4]?=some (.cells #[z] 37 (0,0)))(hR:R (.returned (.tuple #[.agg #[x0,x1,x2,x3],y,z])) (W.putObj D (.deferred none))):bodyPostM Fence.wide n prog Tryz.f65 R .ret a W:=by
 have k4:=qa ((World.putObj_heap_other (o:=.deferred none) (show b+2≠D by omega)).trans r4);have k5:=qa ((World.putObj_heap_other (o:=.deferred none) (show b+3≠D by omega)).trans r5);have k6:=qa ((World.putObj_heap_other (o:=.deferred none) (show b+4≠D by omega)).trans r6);change LeavesInM Fence.wide n prog Tryz.f65 a.tmps R a.defers .returning W;rw[hd];refine⟨zA3,.inl ⟨_,_,rfl,run_takeDeferred hK,.tuple #[.agg #[x0,x1,x2,x3],y,z],?_,hR⟩⟩;simp[results,results65,go_sem,h4,h5,h6,k4,k5,k6]
theorem key_ifn(x:It)(k i o:Int)(W:World):(if x.k=k then if x.i=i then if x.o=o then Result.ok (Next.value (Value.bool false)) W else Result.ok (Next.value (Value.bool true)) W else Result.ok (Next.value (Value.bool true)) W else Result.ok (Next.value (Value.bool true)) W)=Result.ok (Next.value (Value.bool (!decide (qp x=(k,i,o))))) W:=by
 have e:(qp x=(k,i,o))↔(x.k=k/\x.i=i/\x.o=o):=by unfold qp;simp only[Prod.mk.injEq]
 by_cases h1:x.k=k
 ·by_cases h2:x.i=i
  ·by_cases h3:x.o=o
   ·rw[if_pos h1,if_pos h2,if_pos h3,decide_eq_true (e.2 ⟨h1,h2,h3⟩)];rfl
   ·rw[if_pos h1,if_pos h2,if_neg h3,decide_eq_false (λh=>h3 (e.1 h).2.2)];rfl
  ·rw[if_pos h1,if_neg h2,decide_eq_false (λh=>h2 (e.1 h).2.1)];rfl
 ·rw[if_neg h1,decide_eq_false (λh=>h1 (e.1 h).1)];rfl
theorem Qe.of_ext{W W':World}(h:Ext W W'):Qe W W':=⟨h.size,λk o hk _=>(Below.block h k (zG.1 hk).1).trans hk⟩
theorem Xl.split{D:Nat->Prop}{B lo b g:Nat}{k:Option Nat}{S:Sto}{lvl:Int}{l held:List It}{w W:World}{e:Ending}(h:Xl D B lo b g k S lvl l held w e W):Qh lo b g k w W/\((∃er,Hid (Qs S lvl l held=.error er)/\e=.returned (.tuple #[.slice none 0 0,.int .i64 er])) \/
  (∃up S' k' D' A c,Hid (Qs S lvl l held=.ok (up,S'))/\e=.returned (.tuple #[.slice A up.length c,.int .i64 0])/\Zj w.heap.size k k'/\KL w.heap.size D D'/\Bch D' B lo b g k' S' W/\Hid (qm S'=true)/\W.ownsRow w.heap.size 51 5 (.slice A up.length c) up.length (qC (upV up)))):=by
 obtain⟨h1,h2⟩:=h;refine⟨h1,?_⟩;rcases hb:Qs S lvl l held with er|⟨up,S'⟩
 ·rw[hb]at h2;exact .inl ⟨er,zH rfl,h2⟩
 ·rw[hb]at h2;obtain⟨k',D',A,c,e1,e2,e3,e4,e5,e6,-⟩:=h2;exact .inr ⟨up,S',k',D',A,c,zH rfl,e1,e2,e3,e4,zH e5,e6⟩
set_option maxRecDepth 100000 in
theorem put_any(A1 n1 c1 A2 n2 c2 A3 n3 c3 A4 n4 c4)(S:Sto)(hS:qm S=true)(a lvl:Nat)(xs:List It)(ha:8<=a)(ha2:a<256)(hn:qk S a=some ((lvl:Int),xs))(hsp:(qz S lvl xs).isSome=true)(x:It)(hxo:QY x)(Ax:OA)(cx:Nat)(w:World)(hst:Qq w w.heap.size (.slice A1 n1 c1) (.slice A2 n2 c2) (.slice A3 n3 c3) (.slice A4 n4 c4) S)(hxv:Bys w w.heap.size (.slice Ax x.val.length cx) x.val):Calls prog 65 #[Qp A1 n1 c1 A2 n2 c2 A3 n3 c3 A4 n4 c4,.int .i64 (a:Int),itV x Ax cx] w (zm (PutQ w.heap.size (GT S lvl xs a x)) w):=by
 have HA:=zH (λW (hx:Ext w W)=>qiM A1 n1 c1 A2 n2 c2 A3 n3 c3 A4 n4 c4 S hS a lvl xs ha ha2 hn hsp x Ax cx W (hst.ext hx));have HW:=zH (λW (hx:Ext w W)=>way_any A1 n1 c1 A2 n2 c2 A3 n3 c3 A4 n4 c4 S hS a lvl xs ha ha2 hn hsp x.k x.i x.o W (hst.ext hx));have HO:=zH (λW (hx:Ext w W)=>qfb A1 n1 c1 A2 n2 c2 A3 n3 c3 A4 n4 c4 S (by have:=(Qb hS).2.2.1;omega) W (hst.ext hx));obtain⟨q,hq⟩:∃q,GT S lvl xs a x=q:=⟨_,rfl⟩
 rw[hq];replace hq:=zH hq;obtain⟨l,hl⟩:∃l,jl S (x.k,x.i,x.o) lvl xs=l:=⟨_,rfl⟩
 have hwo:=qfD (k:=(x.k,x.i,x.o)) lvl hn hsp;have hwl:=km (k:=(x.k,x.i,x.o)) lvl (qF hn).1 hsp;have hl6:lvl<6:=by have:=zy hn;omega
 rw[hl]at HW hwo hwl;replace⟨hl,hwo⟩:=zH2 hl hwo;have hlb:0<l.length/\l.length<=6:=zO;replace⟨hlb,hwl⟩:=zH2 hlb hwl;clear hl6;refine(callsIn_wide (n:=3)).1 ?_;refine callsIn_of_wp_marks func65 rfl trivial ?_ rfl;simp only[ntmps65,List.size_toArray,List.length_cons,List.length_nil,Nat.reduceAdd,Nat.reduceSub,Array.replicate_succ,Array.replicate_zero,List.push_toArray,List.append_toArray,List.nil_append,List.cons_append];refine wpIn_wide.2 ?_;replace⟨hst,hxv,hxo⟩:=zH3 hst hxv hxo;clear hn hsp;go_wp2_with fail;generalize hw1:(World.alloc (World.alloc (World.alloc (World.alloc (World.alloc w _) _) _) _) _)=w1;have x1:Ext w w1:=by rw[<-hw1];exact((((zN _ _).trans (zN _ _)).trans (zN _ _)).trans (zN _ _)).trans (zN _ _)
 have s1:w.heap.size+5<=w1.heap.size:=by rw[<-hw1];simp
 have ra1:w1.heap[w.heap.size]?=some (.cells #[.slice A1 n1 c1,.slice A2 n2 c2,.slice A3 n3 c3,.slice A4 n4 c4] 28 (0,0)):=by rw[<-hw1];exact(zK _ _ _ zA4).trans ((zK _ _ _ zA4).trans ((zK _ _ _ zA4).trans ((zK _ _ _ zA4).trans (zI _ _ _ rfl))))
 have rb1:w1.heap[w.heap.size+1]?=some (.cells #[.int .u8 x.k,.int .u32 x.i,.int .u32 x.o,.int .i64 x.r,.slice Ax x.val.length cx] 51 (0,0)):=by rw[<-hw1];exact(zK _ _ _ zA4).trans ((zK _ _ _ zA4).trans ((zK _ _ _ zA4).trans (zI _ _ _ zA3)))
 have rc1:w1.heap[w.heap.size+2]?=some (.cells #[.slice none 0 0,.slice none 0 0,.slice none 0 0,.slice none 0 0] 28 (0,0)):=by rw[<-hw1];exact(zK _ _ _ zA4).trans ((zK _ _ _ zA4).trans (zI _ _ _ zA3))
 have rd1:w1.heap[w.heap.size+3]?=some (.cells #[.int .i64 0] 3 (0,0)):=by rw[<-hw1];exact(zK _ _ _ zA4).trans (zI _ _ _ zA3)
 have re1:w1.heap[w.heap.size+4]?=some (.cells #[.int .i64 0] 37 (0,0)):=by rw[<-hw1];exact zI _ _ _ zA3
 clear hw1;refine(HA.out w1 x1).mono ?_;clear HA;rintro e w2 ⟨rfl,hB⟩;have x2:Ext w w2:=x1.trans hB;have s2:=hB.size;have ra2:=qb ra1 hB;have rb2:=qb rb1 hB;have rc2:=qb rc1 hB;have rd2:=qb rd1 hB;have re2:=qb re1 hB;clear hB ra1 rb1 rc1 rd1 re1 x1;have ka2:=qa ra2;have kb2:=qa rb2;have kc2:=qa rc2;have kd2:=qa rd2;have ke2:=qa re2;have fc2:=qg rc2;have fd2:=qg rd2;have fe2:=qg re2;by_cases hE:TS S x=0
 case neg=>
  have hqe:=zH (show q=.error (TS S x)by rw[<-hq.out];unfold GT;rw[if_neg hE]);have hne:(TS S x != 0)=true:=by rw[bne_iff_ne];exact hE
  generalize TS S x=er at*;clear HW HO;go_wp2_with fail;obtain⟨g4,g5,g6,hb,-⟩:=Yp rc2 rd2 re2 rfl;exact qjS rfl rfl rfl rfl g4 g5 g6 ⟨_,rfl,by rw[hqe.out];rfl,hb zO x2⟩
 case pos=>
  have hq1:=zH (show q=putX S lvl xs a x by rw[<-hq.out];unfold GT;rw[if_pos hE]);rw[hE];clear hq;have hq2:Hid (q=match GS S lvl xs x with
   |.error e=>.error e
   |.ok (up,S2)=>match QC S2 (-1) S2.now a with
    |none=>.error 8
    |some t=>.ok (VP up,qv S2 t)):=zH (by rw[hq1.out,qfm]<;>rfl)
  have hpre:Hid (GS S lvl xs x=if qaS (x.k,x.i,x.o) l=true then .error 120 else
   match jK (x.k,x.i,x.o) l.reverse [x] S with
   |.error e=>.error e
   |.ok (up,S1)=>if 1<up.length then Qs S1 ((l.length:Nat):Int) up up else .ok (up,S1)):=zH (by rw[<-hl.out];rfl)
  replace hE:=zH hE;clear hq1;go_wp2_with fail;refine(HW.out w2 x2).mono ?_;clear HW;rintro e w3 ⟨u,rfl,hSE,hB⟩;have x23:Ext w2 w3:=hB;have x3:Ext w w3:=x2.trans x23;have s3:=hB.size;have ra3:=qb ra2 hB;have rb3:=qb rb2 hB;have rc3:=qb rc2 hB;have rd3:=qb rd2 hB;have re3:=qb re2 hB;clear hB ra2 rb2 rc2 rd2 re2 ka2 kb2 kc2 kd2 ke2 fc2 fd2 fe2;have ka3:=qa ra3;have kb3:=qa rb3;have kc3:=qa rc3;have kd3:=qa rd3;have ke3:=qa re3;have fc3:=qg rc3;have fd3:=qg rd3;have fe3:=qg re3;have hT:=tall_any u l (by have:=hlb.out;omega) hlb.out.1 x.k x.i x.o (λs hs=>(hwo.out s hs).len) w3 (hSE.read (qT.refl _ _));obtain⟨ps,hps,⟨As,cs,rfl,wSI,wOK,hsr⟩,hpi⟩:=hSE;replace⟨wOK,hsr,hpi,hps,hT⟩:=zH5 wOK hsr hpi hps hT;clear wSI;go_wp2_with fail;refine hT.out.mono ?_;clear hT;rintro e w4 ⟨rfl,hB⟩;have x34:Ext w3 w4:=hB;have x4:Ext w w4:=x3.trans x34;have s4:=hB.size;have ra4:=qb ra3 hB;have rb4:=qb rb3 hB;have rc4:=qb rc3 hB;have rd4:=qb rd3 hB;have re4:=qb re3 hB;clear hB ra3 rb3 rc3 rd3 re3 ka3 kb3 kc3 kd3 ke3 fc3 fd3 fe3;have ka4:=qa ra4;have kb4:=qa rb4;have kc4:=qa rc4;have kd4:=qa rd4;have ke4:=qa re4;have fc4:=qg rc4;have fd4:=qg rd4;have fe4:=qg re4;rcases hta:qaS (x.k,x.i,x.o) l with _|_
  case true=>have hqe:=zH (show q=.error 120 by rw[hq2.out,hpre.out,if_pos hta]);clear hq2 hpre HO;go_wp2_with fail;obtain⟨g4,g5,g6,hb,-⟩:=Yp rc4 rd4 re4 rfl;exact qjS rfl rfl rfl rfl g4 g5 g6 ⟨_,rfl,by rw[hqe.out];rfl,hb zO x4⟩
  case false=>
   have hSU:Hid (GS S lvl xs x=match jK (x.k,x.i,x.o) l.reverse [x] S with
    |.error e=>.error e
    |.ok (up,S1)=>if 1<up.length then Qs S1 ((l.length:Nat):Int) up up else .ok (up,S1)):=zH (by rw[hpre.out,if_neg (by rw[hta];decide)])
   replace hta:=zH hta;clear hpre;have z40:w.heap.size<w4.heap.size:=zO;have z41:w.heap.size+1<w4.heap.size:=zO;have z42:w.heap.size+1+1<w4.heap.size:=zO;have z43:w.heap.size+1+1+1<w4.heap.size:=zO;have z44:w.heap.size+1+1+1+1<w4.heap.size:=zO;go_wp2_with fail;generalize hw5:(World.alloc (World.alloc w4 _) _)=w5;have x45:Ext w4 w5:=by rw[<-hw5];exact(zN _ _).trans (zN _ _)
   have x5:Ext w w5:=x4.trans x45;have s5:w4.heap.size+2<=w5.heap.size:=by rw[<-hw5];simp
   have rU5:w5.heap[w4.heap.size]?=some (.cells #[.int .u8 x.k,.int .u32 x.i,.int .u32 x.o,.int .i64 x.r,.slice Ax x.val.length cx] 51 (0,0)):=by rw[<-hw5];exact(zK _ _ _ zA3).trans (zI _ _ _ rfl)
   have rB5:w5.heap[w4.heap.size+1]?=some (.cells #[.slice (some ⟨w4.heap.size,0,none⟩) 1 1] 55 (0,0)):=by rw[<-hw5];exact zI _ _ _ zA3
   clear hw5;have rb5:=qb rb4 x45;have rc5:=qb rc4 x45;have rd5:=qb rd4 x45;have re5:=qb re4 x45;clear ra4 rb4 rc4 rd4 re4 ka4 kb4 kc4 kd4 ke4 fc4 fd4 fe4;refine(HO.out w5 x5).mono ?_;clear HO;rintro e w6 ⟨u,rfl,⟨b,A3',c3',rfl,hlo,hBT,hAE⟩,hB⟩;have x56:Ext w5 w6:=hB;have x6:Ext w w6:=x5.trans x56;have s6:=hB.size;have hst6:=hst.out.below x6;obtain⟨g,hOS⟩:=Bch.of_on (B:=w.heap.size) x5.size hS hst6 hlo hBT hAE;replace hOS:=zH hOS;have rb6:=qb rb5 hB;have rc6:=qb rc5 hB;have rd6:=qb rd5 hB;have re6:=qb re5 hB;have rU6:=qb rU5 hB;have rB6:=qb rB5 hB;clear hB rb5 rc5 rd5 re5 rU5 rB5 hBT hAE hst6 z40 z41 z42 z43 z44;go_wp2_with fail;generalize hw7:World.alloc w6 _=w7;have x67:Ext w6 w7:=by rw[<-hw7];exact zN _ _
   have rT7:w7.heap[w6.heap.size]?=some (.cells #[.pointer (some ⟨b,0,none⟩)] 92 (0,0)):=by rw[<-hw7];exact zI _ _ _ rfl
   clear hw7;refine(qcY As l.length cs w7).mono ?_;rintro e w8 ⟨rfl,rfl⟩;go_wp2_with fail;generalize hw8:World.alloc w7 _=w8;have x78:Ext w7 w8:=by rw[<-hw8];exact zN _ _
   have s8:w7.heap.size<w8.heap.size:=by rw[<-hw8];simp
   have rS8:w8.heap[w7.heap.size]?=some (.cells #[.slice As l.length cs] 180 (0,0)):=by rw[<-hw8];exact zI _ _ _ rfl
   clear hw8;have x68:Ext w6 w8:=x67.trans x78;have x38:Ext w3 w8:=((x34.trans x45).trans x56).trans x68;have x8:Ext w w8:=x6.trans x68;obtain⟨b2,o2,rfl,hb2,hc2⟩:=(hsr.out w3 (qT.refl _ _)).2 hlb.out.1;have hpl:ps.length=l.length:=by rw[<-hps.out,List.length_map]
   obtain⟨us,hus⟩:∃us:List Us,us=ps.map λp=>((p.1,kh p.2):Us):=⟨_,rfl⟩
   have hul:us.length=l.length:=by rw[hus,List.length_map,hpl]
   have hVG:∀i (hi:i<ps.length),us[i]?.getD usz=(ps[i].1,kh ps[i].2):=λi hi=>by rw[hus,List.getElem?_map,zL hi];rfl
   have hsv:∀i (hi:i<ps.length),sv (kh ps[i].2)=ps[i].2:=λi hi=>by obtain⟨ips,_,⟨⟨A,c,e,_⟩,_⟩⟩:=hpi.out ps[i] (List.getElem_mem hi);rw[e];rfl
   have hYK:∀j,∃ips A c,sv (us[j]?.getD usz).2=.slice A (sAt l j).2.1.length c/\(us[j]?.getD usz).1=sAt l j/\ips.map (·.1)=(sAt l j).2.1/\jo (λq=>q<w2.heap.size) w3 (sv (us[j]?.getD usz).2) ips:=λj=>by
    by_cases hj:j<ps.length
    ·obtain⟨ips,e1,he⟩:=hpi.out ps[j] (List.getElem_mem hj);have hx:ps[j].1=sAt l j:=by unfold sAt;rw[<-hps.out,List.getElem?_map,zL hj];rfl
     obtain⟨A,c,e⟩:=he.shape e1;rw[hVG j hj];simp only;rw[hsv j hj];rw[hx]at e e1;exact⟨ips,A,c,e,hx,e1,he⟩
    ·have h1:us[j]?=none:=List.getElem?_eq_none (by rw[hul];omega);have h2:sAt l j=(0,[],0):=by unfold sAt;rw[List.getElem?_eq_none zO];rfl
     rw[h1,h2];exact⟨[],none,0,rfl,rfl,rfl,⟨none,0,rfl,zM _,zA7,λC _=>Rd.none_⟩,λp hp=>by cases hp⟩
   have hne4:b2≠w.heap.size+4:=λe=>by have h1:=hc2 1 _ (kD ps 0 (by rw[hpl];exact hlb.out.1)).2.1;have h2:=Ext.cell ((x34.trans x45).trans x56) h1;rw[e,qa re6]at h2;simp at h2
   have hSW:SWs w8 w7.heap.size b2 (.slice (some ⟨b2,o2,none⟩) l.length cs) us:=by refine⟨by rw[qa rS8];rfl,.inr ⟨o2,cs,by rw[hul],λi hi=>?_⟩⟩;have hi':i<ps.length:=zO;obtain⟨g0,g1,g2⟩:=kD ps i hi';rw[hVG i hi'];simp only;rw[hsv i hi'];exact⟨Ext.cell x38 (hc2 _ _ g0),by rw[Nat.add_assoc];exact Ext.cell x38 (hc2 _ _ g1),by rw[Nat.add_assoc];exact Ext.cell x38 (hc2 _ _ g2)⟩
   have hI0:PutI (x.k,x.i,x.o) l S x w.heap.size w5.heap.size b g (w4.heap.size+1) w6.heap.size w7.heap.size w2.heap.size w3 (.slice Ax x.val.length cx) (.slice (some ⟨b2,o2,none⟩) l.length cs) [] w8:=by
    refine⟨⟨[x],S,none,_,_,1,[(x,.slice Ax x.val.length cx)],rfl,hS,zA3,zA3,rfl,λy hy=>?_,λp hp=>?_,qb rB6 x68,?_,hOS.out.ext x68⟩,qb rb6 x68,qb rc6 x68,qb rd6 x68,qb re6 x68,qb rT7 x78,rS8,qT.of_ext x38⟩
    ·obtain rfl:y=x:=by simpa using hy
     have hb:itB y.r y.val.length=true:=by
      have:=hE.out;unfold TS at this;split at this
      ·rename_i h;exact h
      ·cases this
     unfold itB at hb;simp only[decide_eq_true_eq]at hb;have h1:=hxo.out.2.2.2.1;exact⟨hxo.out,zO,h1.2⟩
    ·obtain rfl:p=(x,.slice Ax x.val.length cx):=by simpa using hp
     exact⟨⟨Ax,cx,rfl⟩,hxv.out.below x8⟩
    ·exact⟨rfl,.inr ⟨w4.heap.size,1,_,rfl,Nat.zero_le _,qb rU6 x68,zM _,zA7,rfl,rfl⟩⟩
   replace⟨hI0,hYK⟩:=zH2 hI0 hYK;clear hus hVG hsv hc2 hsr hpi hps hpl rb6 rc6 rd6 re6 rU6 rB6 rT7 rS8;generalize hNR:({tmps:=_,defers:=_}:Act)=act;refine(wpIn_wide (n:=3)).1 ?_;refine wpIn_rangeFunc_ownH rfl zO (gf:=176) (lb:=#[.pointer (some ⟨w7.heap.size,0,none⟩)]) (by rw[<-hNR];rfl) trivial (enters_of func176 zQ rfl)
    (qga (3-1) zO w7.heap.size b2 _ us (by rw[hul];have:=hlb.out;omega) w8 s8 (by have:=x38.size;omega) hSW) Qu.t (Qu.b s8 (by have:=x38.size;omega)) (Below.refl _ _) (λ_=>rfl)
    (λpre W'=>(∃Wb,PutI (x.k,x.i,x.o) l S x w.heap.size w5.heap.size b g (w4.heap.size+1) w6.heap.size w7.heap.size w2.heap.size w3 (.slice Ax x.val.length cx) (.slice (some ⟨b2,o2,none⟩) l.length cs) pre Wb/\Qe Wb W')/\Below w.heap.size w W')
    (λc pre W'=>(∃er Wb,c=.ret/\jK (x.k,x.i,x.o) (pre.map (sAt l)) [x] S=.error er/\(Wb.heap[w.heap.size+2]?=some (.cells #[.slice none 0 0,.slice none 0 0,.slice none 0 0,.slice none 0 0] 28 (0,0))/\Wb.heap[w.heap.size+3]?=some (.cells #[.int .i64 0] 3 (0,0))/\Wb.heap[w.heap.size+4]?=some (.cells #[.int .i64 er] 37 (0,0)))/\Qe Wb W')/\Below w.heap.size w W')
    (OwnFrom.and (λs A C row hs hg hr=>by obtain⟨Wb,h1,h2⟩:=hs;exact⟨Wb,h1,h2.grown hg λr e=>(hr r e).2⟩) (ownFrom_below (zM _) x8.size))
    (λc=>OwnFrom.and (λs A C row hs hg hr=>by obtain⟨er,Wb,h1,h2,h3,h4⟩:=hs;exact⟨er,Wb,h1,h2,h3,h4.grown hg λr e=>(hr r e).2⟩) (ownFrom_below (zM _) x8.size))
    ⟨⟨w8,hI0.out,Qe.refl _⟩,x8⟩
    (λj a' W'=>∃t14,a'=(((({tmps:=act.tmps,defers:=[]}:Act).put (some 42) (.int .i64 (j:Int))).put (some 43) (.agg #[.int .i64 ((us[j]?.getD usz).1.1:Int),sv (us[j]?.getD usz).2,.int .i64 ((us[j]?.getD usz).1.2.2:Int)])).put (some 14) (.pointer (some ⟨t14,0,none⟩)))/\W'.heap[t14]?=some (.cells #[.int .i64 ((us[j]?.getD usz).1.1:Int),sv (us[j]?.getD usz).2,.int .i64 ((us[j]?.getD usz).1.2.2:Int)] 187 (0,0)))
    (λx a' s A C row hs hg hr=>by obtain⟨t14,e,h⟩:=hs;exact⟨t14,e,QF (β:=Unit) _ _ _ _ () A C row h hg hr⟩) ?assign ?body ?done ?stop
   case assign=>
    rintro l' pre j W' K ⟨⟨Wb,hPI,hck⟩,i4⟩ hK;subst hNR;have z4:=i4.size;have hPW:=hPI.ck hck;have zS:=(zG.1 hPW.rS).1;have zb2:b2<W'.heap.size:=by have:=(((x34.trans x45).trans x56).trans x67).size;omega
    gi_wp2
    exact hK _ _ ((KeepsOthers.alloc _ _).from _) ⟨zK _ _ _ zS,zK _ _ _ zb2⟩ ⟨⟨_,hPW,Qe.of_ext (zN _ _)⟩,Below.alloc i4 z4 _⟩ ⟨W'.heap.size,rfl,zI _ _ _ rfl⟩
   case body=>
    rintro l' pre j a' W' hll ⟨rr,hlp⟩ ⟨⟨Wb,hPI,hck⟩,i4⟩ ⟨t14,rfl,wHS⟩ _;subst hNR;have hPW:=hPI.ck hck;simp only[Act.put,zA,zB,zC];obtain⟨ips,A9,c9,e9,e10,e11,hie⟩:=hYK.out j;have hWO:=sAt_ok hwo.out j;have hYJ:=zH (λ(ups:List It)(S':Sto)(h:jK (x.k,x.i,x.o) (pre.map (sAt l)) [x] S=.ok (ups,S'))=>(by rw[List.map_append,VV,h];simp only[List.map_cons,List.map_nil];exact GJ _ _ _ _:jK (x.k,x.i,x.o) ((pre++[j]).map (sAt l)) [x] S=Qs S' ((sAt l j).1:Int) (zY (sAt l j).2.1 (sAt l j).2.2 (vd (x.k,x.i,x.o) (sAt l j).1 (sAt l j).2.1) ups) ups));obtain⟨s9,hs9⟩:∃s9,sAt l j=s9:=⟨_,rfl⟩
    rw[hs9]at e9 e10 e11 hWO hYJ;clear hs9;generalize us[j]?.getD usz=u9 at*;obtain⟨v9,sl9⟩:=u9;simp only at e9 e10 wHS hie;subst e10;obtain⟨lv,ys,pl⟩:=v9;simp only at e9 e11 wHS hYJ;rw[e9]at wHS hie⊢;obtain⟨hWm,hWi,hWl,wDH,wAP,hW0⟩:=hWO;simp only at hWm hWi hWl wDH wAP hW0;obtain⟨ups,S',k',D',Au,cu,hMJ,hgr,hS',wBR,wAA,hhm,hWZ,hpv,hrU,hoU,hbc⟩:=hPW.ex;have hit:=(hie.trans hPW.kx λq _ h=>h).its (qT.refl (λq=>q<w2.heap.size) W');rw[e11]at hit;obtain⟨many,hmy⟩:∃many,vd (x.k,x.i,x.o) lv ys=many:=⟨_,rfl⟩
    have wNV:=many_ok (k:=(x.k,x.i,x.o)) (s:=(lv,ys,pl)) ⟨hWm,hWi,hWl,wDH,wAP,hW0⟩;simp only at wNV;rw[hmy]at wNV hYJ;have zx:w.heap.size+1<W'.heap.size:=(zG.1 hPW.rx).1;have wMO:Hid ((pl=ys.length->many=0)/\(pl<ys.length->lv≠0->many=1)/\(∀h:pl<ys.length,lv=0->many=if qp (ys[pl]'h)=(x.k,x.i,x.o)then 1 else 0)):=zH (by
     refine⟨λh=>?_,λh h1=>?_,λh h1=>?_⟩
     ·have h0:lv=0:=by
       rcases Nat.eq_zero_or_pos lv with h0|h0
       ·exact h0
       ·have:=wAP h0;omega
      rw[<-hmy];unfold vd;rw[if_pos ⟨h0,VX (by rw[<-hW0 h0];omega)⟩]
     ·rw[<-hmy];unfold vd;rw[if_neg (λhh=>h1 hh.1)]
     ·rw[<-hmy];unfold vd;have hp:=hW0 h1;subst hp;rw[JM h];by_cases hk:qp ys[qA ys (x.k,x.i,x.o)]=(x.k,x.i,x.o)
      ·rw[if_neg (by simp[hk]),if_pos hk]
      ·rw[if_pos ⟨h1,by simp[hk]⟩,if_neg hk])
    have wJO:=zH hit;have hQZ:=zH hie;have hLL:=zH hPW;have hXV:=zH hbc;have wSB:=zH hoU;have wKM:=zH hpv;have wDG:=zH hWi;have wLA:=zH hWZ;have hgrH:=zH hgr;have wRF:=zH hhm;have hmyH:=zH hmy;have wJB:=zH hWl;have wAO:=zH wDH;have wBD:=zH wNV;have e11H:=zH e11;have wOQ:=zH (And.intro wBR wAA);have rUH:=zH hrU;have wDF:=zH hS';have hA:=hit.at_.2.2.2;replace hA:=zH hA;have rxW:=hPW.rx;clear hit hie hPW hbc hoU hpv hWm hWi wAP hW0 hWZ hgr hhm hmy hWl wDH wNV e11 wBR wAA hrU hS' hPI hck e9
    gi_upto_region 12 with fail
    gi_cut [69]from 44 (λs wx=>s=.bool (decide (many=0))/\Ext W' wx)
    case first=>
     have g14:∀W,qj.r W' W->∀i,W.cell? ⟨t14,i,none⟩=#[.int .i64 (lv:Int),.slice A9 ys.length c9,.int .i64 (pl:Int)][i]?:=λW h=>qa (qb wHS h);by_cases hpl:pl=ys.length
     ·have hm0:=zH (wMO.out.1 hpl);have ee:((pl:Int)==(ys.length:Int))=true:=by rw[beq_iff_eq];omega
      clear hpl;refine Zv qj (qQ []) (List.replicate 26 true) 0 (vn l') zQ zQ zQ zQ zQ zQ zQ zQ zQ ?st (Rel.drew _ _) ?walk
      case st=>exact qi (λ_ h=>by cases h)
      case walk=>
       intro K hK;dsimp only[qw,List.replicate];refine zC6 ?_;refine qD (hK _ _ λV hV hF=>?_);clear hF hK;have hV:Ext W' V:=hV;refine zC4 ?_
       gi_wp2_with fail
       gi_meet
       case rel=>exact⟨by rw[hm0.out];rfl,hV⟩
     ·have hlt:pl<ys.length:=by have:=wAO.out;omega
      have ee:((pl:Int)==(ys.length:Int))=false:=by rw[beq_eq_false_iff_ne];omega
      by_cases hlv:lv=0
      ·have hb3:=wMO.out.2.2 hlt hlv;obtain⟨bi,off,rfl,hbi⟩:=hA.out zO;obtain⟨A',c',d0,d1,d2,d3,d4,-⟩:=wJO.out.item pl hlt;have gd0:∀W,qj.r W' W->_:=λW h=>Ext.cell h d0;have gd1:∀W,qj.r W' W->_:=λW h=>Ext.cell h d1;have gd2:∀W,qj.r W' W->_:=λW h=>Ext.cell h d2;have gx:∀W,qj.r W' W->∀i,W.cell? ⟨w.heap.size+1,i,none⟩=#[.int .u8 x.k,.int .u32 x.i,.int .u32 x.o,.int .i64 x.r,.slice Ax x.val.length cx][i]?:=λW h=>qa (qb rxW h);generalize ys[pl]=y at*;subst hlv;clear d0 d1 d2 d3 d4;replace⟨hb3,hpl⟩:=zH2 hb3 hpl;refine Zv qj (qQ []) (List.replicate 26 true) 0 (vn l') zQ zQ zQ zQ zQ zQ zQ zQ zQ ?st (Rel.drew _ _) ?walk
       case st=>exact qi (λ_ h=>by cases h)
       case walk=>
        intro K hK;dsimp only[qw,List.replicate];refine zC6 ?_;refine qd (.bool (!decide (qp y=(x.k,x.i,x.o)))) zA0 zA0 (λW hW _=>⟨W,?_,Rel.refl _ W⟩) ?_
        ·go_simp;exact key_ifn y x.k x.i x.o W
        refine zC6 ?_;refine qD (hK _ _ λV hV hF=>?_);clear hF hK;have hV:Ext W' V:=hV;refine zC4 ?_
        gi_wp2_with fail
        gi_meet
        case rel=>refine⟨?_,hV⟩;rw[hb3.out];by_cases hk:qp y=(x.k,x.i,x.o)<;>simp[hk]
      ·have hm0:=zH (wMO.out.2.1 hlt hlv);have el:((lv:Int)==0)=false:=by rw[beq_eq_false_iff_ne];omega
       replace⟨hlv,hpl⟩:=zH2 hlv hpl;refine Zv qj (qQ []) (List.replicate 26 true) 0 (vn l') zQ zQ zQ zQ zQ zQ zQ zQ zQ ?st (Rel.drew _ _) ?walk
       case st=>exact qi (λ_ h=>by cases h)
       case walk=>
        intro K hK;dsimp only[qw,List.replicate];refine zC6 ?_;refine qD (hK _ _ λV hV hF=>?_);clear hF hK;have hV:Ext W' V:=hV;refine zC4 ?_
        gi_wp2_with fail
        gi_meet
        case rel=>exact⟨by rw[hm0.out];rfl,hV⟩
    case rest=>
     obtain⟨rfl,xc⟩:=hcut;have hma:many=0\/many=1:=wBD.out.1;clear wMO;have rc14:=qb wHS xc;have wQN:=zH (hLL.out.ck (Qe.of_ext xc));have hitc:=zH (wJO.out.ext xc);have hIL:ips.length=ys.length:=by rw[<-e11H.out,List.length_map]
     have wKL:hMJ.length=ups.length:=by rw[<-wRF.out,List.length_map]
     have one1:∀u∈qC ips,u.oneCell'=true:=kX ips λp hp=>by obtain⟨A,c,e⟩:=(hQZ.out.2 p hp).1;rw[e];rfl
     have one2:∀u∈qC hMJ,u.oneCell'=true:=kX hMJ λp hp=>by obtain⟨A,c,e⟩:=(wKM.out p hp).1;rw[e];rfl
     have HCl:Hid (∀W,Ext wc W->Calls prog 115 #[.slice A9 ys.length c9] W (zm (λu w'=>w'.ownsRow W.heap.size 51 5 u ys.length (qC ips)) W)):=zH λW hW=>by obtain⟨⟨A,c,e,_,_,hr⟩,_⟩:=hQZ.out;rw[hIL]at e hr;cases e;exact KD A9 ys.length c9 (qC ips) (by have:=wJB.out;omega) one1 W (hr W ((wQN.out.kx).trans (qT.of_ext hW) λ_ _ h=>h))
     have wHR:=zH (Zb wSB.out λq hq=>Below.block xc q (QM wSB.out q hq).2);have HRp:Hid (∀(V:World)(Ac:OA)(cc:Nat),Ext wc V->V.ownsRow wc.heap.size 51 5 (.slice Ac ys.length cc) ys.length (qC ips)->Calls prog 119 #[.slice Ac ys.length cc,.int .i64 (pl:Int),.int .i64 ((pl+many:Nat):Int),.slice Au ups.length cu] V (vL wc.heap.size (.slice Ac ys.length cc) (ys.length-many+ups.length) ((qC ips).take (pl*5)++qC hMJ++(qC ips).drop ((pl+many)*5)) V)):=zH λV Ac cc hV ho=>
      qaN wc.heap.size _ ys.length pl many (qC ips) (.slice Au ups.length cu) ups.length 0 (qC hMJ) V ho (Zb wHR.out λq hq=>Below.block hV q (QM wHR.out q hq).2) (λq hq hq2=>by have h1:=(QM wHR.out q hq).2;have h2:=(QM ho q hq2).1;omega) wOQ.out.1 (by have:=wJB.out;have:=wOQ.out.2;omega) wBD.out.1 wBD.out.2 one1 one2 hV.size
     have g14:∀W,qj.r wc W->∀i,W.cell? ⟨t14,i,none⟩=#[.int .i64 (lv:Int),.slice A9 ys.length c9,.int .i64 (pl:Int)][i]?:=λW h=>qa (qb rc14 h);have gU:∀W,qj.r wc W->∀i,W.cell? ⟨w4.heap.size+1,i,none⟩=#[.slice Au ups.length cu][i]?:=λW h=>qa (qb (qb rUH.out xc) h);have hw0:IntKind.i64.wrap (pl:Int)=(pl:Int):=by rw[IntKind.wrap_i64];have:=wAO.out;have:=wJB.out;omega
     have hw1:IntKind.i64.wrap ((pl:Int)+1)=(pl:Int)+1:=by rw[IntKind.wrap_i64];have:=wAO.out;have:=wJB.out;omega
     have hmyK:=hmyH;replace⟨hIL,wKL⟩:=zH2 hIL wKL;have wPR:=wBD;clear wBD hmyK;obtain⟨its,hBC⟩:∃its,its=zY ys pl many ups:=⟨_,rfl⟩
     have hiE:ys.length-many+ups.length=its.length:=by rw[hBC];unfold zY;simp only[List.length_append,List.length_take,List.length_drop];have h3:=wAO.out;have h4:=wPR.out.2;omega
     have hil:its.length<=100/\0<its.length:=by rw[<-hiE];have h5:=wJB.out;have h6:=wOQ.out;omega
     replace hiE:=zH hiE;rcases hma with rfl|rfl
     all_goals
      gi_upto_region 14 with fail
      refine Zv qj (qQ [(3,jn wc.heap.size ys.length (qC ips))]) (List.replicate 11 true) 2 (vn l') zQ zQ zQ zQ zQ zQ zQ zQ zQ ?st (Rel.drew _ _) ?walk
      case st=>exact qi (by simp only[List.forall_mem_cons];exact⟨ZK _ _ _,λ_ h=>by cases h⟩)
      case walk=>
       intro K hK;dsimp only[qw,List.replicate];refine zC6 ?_;refine qH (jn wc.heap.size ys.length (qC ips)) zA0 zA0 (λW hW _=>?_) (λp=>?_)
       ·have hW':Ext wc W:=hW;refine Qi ?_ ((HCl.out W hW').mono λe w' h=>?_)
        ·go_simp
        obtain⟨u,rfl,hu,hB⟩:=h;obtain⟨Ac,cc,rfl,_,_⟩:=qG hu;exact⟨(Ac,cc),rfl,QB hu hW'.size,hB⟩
       obtain⟨Ac,cc⟩:=p;refine zC6 ?_;refine qD (hK _ _ λV hV hF=>?_);have hoV:V.ownsRow wc.heap.size 51 5 (.slice Ac ys.length cc) ys.length (qC ips):=(hF 3).1;clear hF hK g14 gU;have hV:Ext wc V:=hV;refine zC4 ?_;have HR:=zH (HRp.out V Ac cc hV hoV);clear HRp HCl
       gi_wp2_with fail
       refine⟨trivial,(CallsIn.inRound _ (callsIn_wide.2 HR.out)).mono ?_⟩;clear HR;rintro e w9 ⟨v9,rfl,ho9,hB9,-⟩;have x9:Ext wc w9:=Below.trans hV hB9;have x19:Ext W' w9:=xc.trans x9;clear hB9 hoV;have wAR:=Bch.ext hXV.out x19;obtain⟨hlb,-,hlg,-,-,-,hkq⟩:=wAR.size;have hB5:∀q,B3 b g k' q->w5.heap.size<=q:=λq hq=>by
        rcases hq with rfl|rfl|e
        ·exact hlb
        ·exact hlg
        ·exact(hkq q e).1
       rw[Vv,<-Vu,<-Zk,<-Zk]at ho9;have s25:w.heap.size<=w5.heap.size:=x5.size;have hX9:=kO.of_own (X:=B3 b g k') ho9 (by
        have h1:=hIL.out;have h2:=wKL.out;have h3:=wAO.out;have h4:=wPR.out.2;simp only[List.length_append,List.length_take,List.length_drop];omega) (λq hq=>by
        obtain⟨cur,hc⟩:=Zz ho9 hq;exact wAR.notB3 hc zA1 zA1 zA1) (λp hp=>by
        have hI:∀p∈ips,(∃A c,p.2=.slice A p.1.val.length c)/\∀C,qT (B3 b g k') w9 C->Bys C C.heap.size p.2 p.1.val:=λp hp=>⟨(hQZ.out.2 p hp).1,λC hC=>(hQZ.out.2 p hp).2 C ((hLL.out.kx.trans (qT.of_ext (X:=λq=>q<w2.heap.size) x19) λ_ _ h=>h).trans hC λq h1 h2=>by have:=hB5 q h2;omega)⟩
        rcases List.mem_append.1 hp with hp|hp
        ·rcases List.mem_append.1 hp with hp|hp
         ·exact hI p (List.mem_of_mem_take hp)
         ·exact⟨(wKM.out p hp).1,λC hC=>((wKM.out p hp).2).keepX ((qT.of_ext (X:=B3 b g k') x19).trans hC λ_ _ h=>h) λq h1 h2=>by have:=hB5 q h2;omega⟩
        ·exact hI p (List.mem_of_mem_drop hp))
       have hrpl:∀m,(List.map (·.1) (ips.take pl++hMJ++ips.drop (pl+m)))=zY ys pl m ups:=λm=>by unfold zY;rw[List.map_append,List.map_append,List.map_take,List.map_drop,e11H.out,wRF.out]
       rw[hrpl]at hX9;clear hrpl;obtain⟨A8,c8,rfl,-,-⟩:=qG ho9;have hoU9:=Zb wHR.out λq hq=>Below.block x9 q (QM wHR.out q hq).2;have wAW:=hYJ.out _ _ hgrH.out;rw[<-hBC]at hX9 wAW;have hio:∀y∈its,QY y:=λy hy=>by
        rw[hBC]at hy;unfold zY at hy;rcases List.mem_append.1 hy with hy|hy
        ·rcases List.mem_append.1 hy with hy|hy
         ·exact(wDG.out y (List.mem_of_mem_take hy)).1
         ·exact(wLA.out y hy).1
        ·exact(wDG.out y (List.mem_of_mem_drop hy)).1
       have hioH:=zH hio;have HBd:=zH (qdD D' w.heap.size w5.heap.size b g k' S' wDF.out (lv:Int) A8 _ c8 its hio hil.2 hil.1 0 (.slice Au ups.length cu) hMJ ups wRF.out (λp hp=>(wKM.out p hp).1) (λy hy=>(wLA.out y hy).2) (by have:=wOQ.out.2;omega) w9 wAR hX9 hoU9);rw[hiE.out]at HBd⊢;have hLJ:=zH (wQN.out.ck (Qe.of_ext x9));have hr9:=qb rc14 x9;have k14:=qa hr9;have rU9:=qb rUH.out x19;have kU:=qa rU9;have kT:=qa hLJ.out.rT;have k4:=qa hLJ.out.r4;replace hBC:=zH hBC;clear hX9 hio ho9 hQZ wJO hitc wKM wSB wHR hA rc14 wHS
       gi_wp2_with fail
       refine⟨trivial,(CallsIn.inRound _ (callsIn_wide.2 HBd.out)).mono ?_⟩;clear HBd;intro e w10 hbq;obtain⟨hkb,hBU⟩:=hbq.split;clear hbq;have nB:∀{q cs ty fr},w9.heap[q]?=some (.cells cs ty fr)->ty≠223->ty≠5->ty≠142->¬B3 b g k' q:=λhr h1 h2 h3=>wAR.notB3 hr h1 h2 h3;have rU10:=hkb.row rU9 (nB rU9 zA1 zA1 zA1);have rT10:=hkb.row hLJ.out.rT (nB hLJ.out.rT zA1 zA1 zA1);have r410:=hkb.row hLJ.out.r4 (nB hLJ.out.r4 zA1 zA1 zA1);have r310:=hkb.row hLJ.out.r3 (nB hLJ.out.r3 zA1 zA1 zA1);have r210:=hkb.row hLJ.out.r2 (nB hLJ.out.r2 zA1 zA1 zA1);have rx10:=hkb.row hLJ.out.rx (nB hLJ.out.rx zA1 zA1 zA1);have rS10:=hkb.row hLJ.out.rS (nB hLJ.out.rS zA1 zA1 zA1);have hko:=(KeepsOthers.of_ext x19).trans (wAR.others hkb);have hJV:=(i4.trans (Below.mono x19 i4.size)).trans (Below.mono hkb.below s25);have wJS:=hkb.keepX;have hk7:=hkb.row hLJ.out.rS (nB hLJ.out.rS zA1 zA1 zA1);have hkr:=λq (h:q<w5.heap.size)=>hkb.rows q (by have:=wAR.size.2.2.2.2.2.1;omega) λhx=>by have:=hB5 q hx;omega
       have wNR:=hLJ.out.kx;clear hkb hLJ rU9 kU kT k4 k14;rcases hBU with⟨er,hbx,rfl⟩|⟨up2,S2,k2,D2,A2',c2',hbx,rfl,hNk,hND,hKH,hS2,hJC⟩
       ·have hga:=zH (wAW.trans hbx.out);have hWM:(er != 0)=true:=by rw[bne_iff_ne];exact vT hbx.out
        have kU10:=qa rU10;have k410:=qa r410;have fU10:=qg rU10;have f410:=qg r410;replace⟨hko,hJV⟩:=zH2 hko hJV;clear wAW wJS hk7 hkr wNR nB hbx rT10 rx10 rS10 wAR
        gi_upto_region 17 with fail
        generalize hNU:World.setCell (World.setCell w10 _ _) _ _=w11;obtain⟨t1,t2,t3,t4,t5,t6⟩:=vD (C:=w11) rU10 r410 zO hNU.symm;clear hNU kU10 k410 fU10 f410;have gE:∀W,qj.r w11 W->∀i,W.cell? ⟨w.heap.size+1+1+1+1,i,none⟩=#[.int .i64 er][i]?:=λW h=>qa (qb t2 h);have q2:=(t3 (w.heap.size+2) zO zO).trans r210;have q3:=(t3 (w.heap.size+3) zO zO).trans r310;refine Zv qj (qQ [(2,jC),(3,jC)]) (List.replicate 4 true) 1 (vn l') zQ zQ zQ zQ zQ zQ zQ zQ zQ ?st (Rel.drew _ _) ?walk
        case st=>exact qi (by simp only[List.forall_mem_cons];exact⟨jw,jw,λ_ h=>by cases h⟩)
        case walk=>
         intro K hK;dsimp only[qw,List.replicate];refine zC6 ?_;refine qH jC zA0 zA0 (λV hV _=>?_) (λ(p:Unit)=>?_)
         ·have hV:Ext w11 V:=hV;have q8:=qb q2 hV;have k8:=qa q8;have f8:=qg q8;refine KB ?_ (same4 q8);go_simp
         refine zC6 ?_;refine qH jC zA0 zA0 (λV hV _=>?_) (λ(p:Unit)=>?_)
         ·have hV:Ext w11 V:=hV;have q8:=qb q3 hV;have k8:=qa q8;have f8:=qg q8;refine KB ?_ (qep q8);go_simp
         refine zC6 ?_;refine qD (hK _ _ λV hV hF=>?_);clear hF hK gE;have hV:Ext w11 V:=hV;refine zC4 ?_;have q2V:=qb q2 hV;have q3V:=qb q3 hV;have q4V:=qb t2 hV;have ke:=qa q4V;have fe:=qg q4V;have zV:=hV.size;have z11:w.heap.size+4<w11.heap.size:=(zG.1 t2).1;have zc:w.heap.size+1+1<V.heap.size:=zO;have zd:w.heap.size+1+1+1<V.heap.size:=zO
         gi_wp2_with fail
         have hV2:=hV.trans (qep q4V);exact⟨((hko.out.trans t5).trans (KeepsOthers.of_ext hV2)).from _,⟨er,_,rfl,hga.out,⟨qb q2 hV2,qb q3 hV2,qb t2 hV2⟩,Qe.refl _⟩,(t6 zO zO hJV.out).trans (Below.mono hV2 zO)⟩
       ·have hga:=zH (wAW.trans hbx.out);obtain⟨-,wBS,hVE⟩:=kV hioH.out (λy hy=>(wLA.out y hy).2) wDF.out hbx.out;have kU10:=qa rU10;have k410:=qa r410;have fU10:=qg rU10;have f410:=qg r410;replace⟨hko,hJV⟩:=zH2 hko hJV;have hKS:=zH (rS10.trans hLL.out.rS.symm);have zW7:w7.heap.size<W'.heap.size:=(zG.1 hLL.out.rS).1;have z67:=x67.size;have z19:=x19.size;have hKb:=zH ((hkr b2 zO).trans (x19.block b2 zO));replace⟨wBS,hVE,hKH,hJC⟩:=zH4 wBS hVE hKH hJC;replace wNR:=zH (wNR.trans wJS λq hq hx=>by have:=hB5 q hx;omega);clear wAW wJS hk7 hkr nB hbx wAR hB5 hLL wQN
        gi_wp2_with fail
        generalize hNU:World.setCell (World.setCell w10 _ _) _ _=w11;obtain⟨t1,t2,t3,t4,t5,t6⟩:=vD (C:=w11) rU10 r410 zO hNU.symm;clear hNU kU10 k410 fU10 f410;refine⟨(hko.out.trans t5).from _,⟨(t3 _ zO zO).trans hKS.out,(t3 _ zO hne4).trans hKb.out⟩,⟨w11,?_,Qe.refl _⟩,t6 zO zO hJV.out⟩;refine⟨⟨up2,S2,k2,D2,A2',c2',upV up2,hga.out,hS2.out,wBS.out.1,wBS.out.2,?_,λy hy=>⟨(hVE.out y hy).1,.inr (hVE.out y hy).2.1.1,(hVE.out y hy).2.1.2⟩,λp hp=>?_,t1,Zb (QB hJC.out (Nat.zero_le _)) (λq hq=>t3 q ?_ ?_),hKH.out.kept (t6 zO zO (Below.refl _ _)) λq h _=>t3 q zO zO⟩,(t3 _ zO zO).trans rx10,(t3 _ zO zO).trans r210,(t3 _ zO zO).trans r310,t2,(t3 _ zO zO).trans rT10,(t3 _ zO zO).trans rS10,?_⟩
        ·unfold upV;rw[List.map_map];exact List.map_id' _
        ·obtain⟨y,hy,rfl⟩:=List.mem_map.1 hp;have hv:=(hVE.out y hy).2.2;simp only[hv];exact⟨⟨none,0,rfl⟩,none,0,rfl,zM _,zA7,Rd.none_⟩
        ·have:=(QM hJC.out q hq).1;omega
        ·have:=(QM hJC.out q hq).1;omega
        ·exact wNR.out.trans (qT.of_heap (X:=λq=>q=w4.heap.size+1\/q=w.heap.size+4) λk _ hX=>t3 k (λe=>hX (.inl e)) λe=>hX (.inr e)) λk hk hx=>zO
   case done=>
    rintro D ys W hD hys ⟨⟨Wb,hPI,hck⟩,i4⟩ hK;subst hNR;have hPW:=hPI.ck hck;obtain⟨ups,S',k',D',Au,cu,hMJ,hgr,hS',wBR,wAA,hhm,hWZ,hpv,hrU,hoU,hbc⟩:=hPW.ex;rw[hys,hul,Gm l l.length (zM _),List.take_of_length_le zA3]at hgr;have hVA:Hid (GS S lvl xs x=if 1<ups.length then Qs S' ((l.length:Nat):Int) ups ups else .ok (ups,S')):=zH (by rw[hSU.out,hgr]);clear hSU hgr;have hVU:=i4;have z8:=x8.size;have zz8:w.heap.size+4<w8.heap.size:=(zG.1 hI0.out.r4).1;have zUW:w4.heap.size+1<W.heap.size:=(zG.1 hrU).1;have kU:=qa hrU;have kT:=qa hPW.rT;have hcc:=(qG hoU)
    replace⟨hbc,hoU,hhm,hpv,hWZ,hS'⟩:=zH6 hbc hoU hhm hpv hWZ hS';replace wAA:=zH (And.intro wBR wAA);have rW2:=hPW.r2;have rW3:=hPW.r3;have rW4:=hPW.r4;have rWT:=hPW.rT;replace hys:=zH hys;clear wBR hPW hPI hck hYK hcc;go_upto_if 98 with fail;go_cut []from 96 (λwx=>PutD (GS S lvl xs x) w.heap.size w5.heap.size b g (w4.heap.size+1) w6.heap.size D w wx)
    case first=>
     by_cases h2:1<ups.length
     case neg=>
      have e1:decide ((1:Int)<(ups.length:Int))=false:=decide_eq_false zO;have e3:¬((1:Int)<(ups.length:Int)):=zO;have hq3:=zH (show GS S lvl xs x=.ok (ups,S')by rw[hVA.out,if_neg h2]);replace h2:=zH h2;go_wp2_with fail;go_meet
      case rel=>exact⟨⟨ups,S',k',D',Au,cu,hMJ,hq3.out,hS'.out,wAA.out.1,hhm.out,hrU,hoU.out,hbc.out,λy hy=>(hWZ.out y hy).2⟩,rW2,rW3,rW4,rWT,hK,hVU⟩
     case pos=>
      have e3:(1:Int)<(ups.length:Int):=zO;have e4:¬(ups.length:Int)<=1:=zO;have hq3:=zH (show GS S lvl xs x=Qs S' ((l.length:Nat):Int) ups ups by rw[hVA.out,if_pos h2]);have hpl:hMJ.length=ups.length:=by rw[<-hhm.out,List.length_map]
      have hnb:∀q,(Value.slice Au ups.length cu).ownBlock=some q->¬B3 b g k' q:=λq hq=>by obtain⟨cur,hc⟩:=Zz hoU.out hq;exact hbc.out.notB3 hc zA1 zA1 zA1
      have hB5:∀q,B3 b g k' q->w5.heap.size<=q:=λq hq=>(hbc.out.b3 q hq).1;have hX:=kO.of_own (X:=B3 b g k') hoU.out hpl hnb (λp hp=>⟨(hpv.out p hp).1,λC hC=>(hpv.out p hp).2.keepX hC λq h1 hq=>by have:=hB5 q hq;omega⟩);rw[hhm.out]at hX;have HBd:=zH (qdD D' w.heap.size w5.heap.size b g k' S' hS'.out ((l.length:Nat):Int) Au _ cu ups (λy hy=>(hWZ.out y hy).1) wAA.out.1 (by have:=wAA.out.2;omega) 0 (.slice Au ups.length cu) hMJ ups hhm.out (λp hp=>(hpv.out p hp).1) (λy hy=>(hWZ.out y hy).2) (by have:=wAA.out.2;omega) W hbc.out hX hoU.out);replace h2:=zH h2;clear hX hpl;go_wp2_with fail;refine HBd.out.mono ?_;clear HBd;intro e w10 hbq;obtain⟨hkb,hBU⟩:=hbq.split;clear hbq;have nB:∀{q cs ty fr},W.heap[q]?=some (.cells cs ty fr)->ty≠223->ty≠5->ty≠142->¬B3 b g k' q:=λhr h1 h2 h3=>hbc.out.notB3 hr h1 h2 h3;have rU10:=hkb.row hrU (nB hrU zA1 zA1 zA1);have rT10:=hkb.row rWT (nB rWT zA1 zA1 zA1);have r410:=hkb.row rW4 (nB rW4 zA1 zA1 zA1);have r310:=hkb.row rW3 (nB rW3 zA1 zA1 zA1);have r210:=hkb.row rW2 (nB rW2 zA1 zA1 zA1);have hVT:=(hbc.out.others hkb).same D _ hK rfl;have s25:w.heap.size<=w5.heap.size:=x5.size;have hJV:=hVU.trans (Below.mono hkb.below s25);have kU10:=qa rU10;have k410:=qa r410;have fU10:=qg rU10;have f410:=qg r410;have zU:w4.heap.size+1≠w.heap.size+4:=by have:=z8;omega
      have zz:w.heap.size+4<D:=zO;replace hJV:=zH hJV;clear kU kT nB hkb hVU;rcases hBU with⟨er,hbx,rfl⟩|⟨up2,S2,k2,D2,A2',c2',hbx,rfl,hNk,hND,hKH,hS2,hJC⟩
      ·have hqe:=zH (show q=.error er by rw[hq2.out,hq3.out,hbx.out]);have hWM:(er != 0)=true:=by rw[bne_iff_ne];exact vT hbx.out
       clear hbx hq3 hq2;go_upto_region 21 with fail;generalize hNU:World.setCell (World.setCell w10 _ _) _ _=w11;obtain⟨t1,t2,t3,t4,t5,t6⟩:=vD (C:=w11) rU10 r410 zU hNU.symm;clear hNU kU10 k410 fU10 f410;have gE:∀W,qj.r w11 W->∀i,W.cell? ⟨w.heap.size+1+1+1+1,i,none⟩=#[.int .i64 er][i]?:=λW h=>qa (qb t2 h);have q2:=(t3 (w.heap.size+2) zO zO).trans r210;have q3:=(t3 (w.heap.size+3) zO zO).trans r310;have qK:=t5.same D _ hVT rfl;refine qt zQ ?_;refine qX (w:=w11) qj (qQ [(2,jC),(3,jC)]) (List.replicate 4 true) 1 zQ zQ zQ zQ zQ zQ zQ ?st (Rel.drew _ _) ?walk
       case st=>exact qi (by simp only[List.forall_mem_cons];exact⟨jw,jw,λ_ h=>by cases h⟩)
       case walk=>
        intro K hK;dsimp only[qw,List.replicate];refine zC6 ?_;refine qH jC zA0 zA0 (λV hV _=>?_) (λ(p:Unit)=>?_)
        ·have hV:Ext w11 V:=hV;have q8:=qb q2 hV;have k8:=qa q8;have f8:=qg q8;refine KB ?_ (same4 q8);go_simp
        refine zC6 ?_;refine qH jC zA0 zA0 (λV hV _=>?_) (λ(p:Unit)=>?_)
        ·have hV:Ext w11 V:=hV;have q8:=qb q3 hV;have k8:=qa q8;have f8:=qg q8;refine KB ?_ (qep q8);go_simp
        refine zC6 ?_;refine qD (hK _ _ λV hV hF=>?_);clear hF hK gE;have hV:Ext w11 V:=hV;refine zC4 ?_;have q4V:=qb t2 hV;have ke:=qa q4V;have fe:=qg q4V;go_wp2;refine Qn ?_;go_wp2_with fail;have hV2:=hV.trans (qep q4V);have z11:w.heap.size+4<w11.heap.size:=(zG.1 t2).1;have qKV:=qb qK hV2;exact Gh rfl rfl rfl rfl qKV zz (qb q2 hV2) (qb q3 hV2) (qb t2 hV2) ⟨_,rfl,by rw[hqe.out];rfl,((t6 zO zO hJV.out).trans (Below.mono hV2 zO)).trans (belowK_b (w:=w) (zM _) _ D _ _ zO qKV rfl rfl)⟩
      ·have hq4:=zH (hq3.out.trans hbx.out);obtain⟨-,wBS,hVE⟩:=kV (λy hy=>(hWZ.out y hy).1) (λy hy=>(hWZ.out y hy).2) hS'.out hbx.out;replace⟨wBS,hVE,hKH,hJC⟩:=zH4 wBS hVE hKH hJC;clear hbx hq3;go_wp2_with fail;go_meet
       case rel=>
        generalize hNU:World.setCell (World.setCell w10 _ _) _ _=w11;obtain⟨t1,t2,t3,t4,t5,t6⟩:=vD (C:=w11) rU10 r410 zU hNU.symm;clear hNU;have zT:w6.heap.size≠w4.heap.size+1/\w6.heap.size≠w.heap.size+4:=by have:=x45.size;omega
        refine⟨⟨up2,S2,k2,D2,A2',c2',upV up2,hq4.out,hS2.out,wBS.out.1,?_,t1,Zb (QB hJC.out (Nat.zero_le _)) (λq hq=>t3 q ?_ ?_),hKH.out.kept (t6 zO zO (Below.refl _ _)) λq h _=>t3 q zO zO,λy hy=>⟨.inr (hVE.out y hy).2.1.1,(hVE.out y hy).2.1.2⟩⟩,(t3 _ zO zO).trans r210,(t3 _ zO zO).trans r310,t2,(t3 _ zT.1 zT.2).trans rT10,t5.same D _ hVT rfl,t6 zO zO hJV.out⟩
        ·unfold upV;rw[List.map_map];exact List.map_id' _
        ·have:=(QM hJC.out q hq).1;omega
        ·have:=(QM hJC.out q hq).1;have:=(zG.1 rW4).1;omega
    case rest=>
     obtain⟨⟨ups,S',k',D',Au,cu,hMJ,hq3,hS',wBR,hhm,hrU,hoU,hbc,wOR⟩,rW2,rW3,rW4,rWT,hK,hVU⟩:=hcut;have HL:=zH (TV D' w.heap.size w5.heap.size b g k' S' hS' a ha ha2 wc hbc);have hq5:=zH (show q=match QC S' (-1) S'.now a with
      |none=>.error 8
      |some t=>.ok (VP ups,qv S' t)by rw[hq2.out,hq3]<;>rfl)
     have kT:=qa rWT;replace⟨hq3,hhm,hoU,hbc,wOR⟩:=zH5 hq3 hhm hoU hbc wOR;go_wp2_with fail;refine HL.out.mono ?_;clear HL;rintro e w10 ⟨hkb,hBU⟩;have nB:∀{q cs ty fr},wc.heap[q]?=some (.cells cs ty fr)->ty≠223->ty≠5->ty≠142->¬B3 b g k' q:=λhr h1 h2 h3=>hbc.out.notB3 hr h1 h2 h3;have rU10:=hkb.row hrU (nB hrU zA1 zA1 zA1);have rT10:=hkb.row rWT (nB rWT zA1 zA1 zA1);have r410:=hkb.row rW4 (nB rW4 zA1 zA1 zA1);have r310:=hkb.row rW3 (nB rW3 zA1 zA1 zA1);have r210:=hkb.row rW2 (nB rW2 zA1 zA1 zA1);have hVT:=(hbc.out.others hkb).same D _ hK rfl;have s25:w.heap.size<=w5.heap.size:=x5.size;have hJV:=hVU.trans (Below.mono hkb.below s25);have wKG:=hkb.own hoU.out (λq hq=>by obtain⟨cur,hc⟩:=Zz hoU.out hq;exact nB hc zA1 zA1 zA1);have zz:w.heap.size+4<D:=by have:=z8;omega
     have z10:w.heap.size+4<w10.heap.size:=(zG.1 r410).1;have zlo:w.heap.size+4<w5.heap.size:=zO;replace hJV:=zH hJV;clear nB hkb hVU kT hrU rWT rW4 rW3 rW2 hK hoU;rcases hlv:QC S' (-1) S'.now a with _|t
     ·rw[hlv]at hBU;obtain rfl:=hBU;have hqe:=zH (show q=.error 8 by rw[hq5.out,hlv]);have kc:=qa r210;have kd:=qa r310;have ke:=qa r410;have fc:=qg r210;have fd:=qg r310;have fe:=qg r410;replace hlv:=zH hlv;clear hq5;go_wp2_with fail;obtain⟨g4,g5,g6,hb,-,hk,-⟩:=Yp r210 r310 r410 rfl;have qK:=(hk D zO).trans hVT;exact Gh rfl rfl rfl rfl qK zz g4 g5 g6 ⟨_,rfl,by rw[hqe.out];rfl,(hb zO hJV.out).trans (belowK_b (w:=w) (zM _) _ D _ _ zO qK rfl rfl)⟩
     ·rw[hlv]at hBU;obtain⟨rfl,hKH⟩:=hBU;have hqe:=zH (show q=.ok (VP ups,qv S' t)by rw[hq5.out,hlv]);have hsh:Uv (qv S' t):=jF (vy hS' (Vb ha (Qg.1 hS').2.1 hlv));replace hlv:=zH hlv;clear hq5;go_upto_region 25 with fail;obtain⟨bu,ou,rfl,hbu,hcu⟩:=(Rd.of_own wKG).2 wBR;obtain⟨cur,hcur⟩:=Zz wKG (q:=bu) rfl;have hbu2:bu≠w.heap.size+2:=qL hcur r210 zA1;have hpl:0<hMJ.length:=by have:=congrArg List.length hhm.out;rw[List.length_map]at this;omega
      have hcr:w10.cell? ⟨bu,ou+3,none⟩=some (.int .i64 (VP ups:Int)):=by
       obtain⟨-,-,-,g3,-⟩:=JX hMJ 0 hpl;have h1:=hcu _ _ g3;have h2:hMJ[0].1.r=(VP ups:Int):=by
        obtain⟨y,ys,hy⟩:∃y ys,ups=y::ys:=by
         cases ups with
         |nil=>simp at wBR
         |cons y ys=>exact⟨y,ys,rfl⟩
        have h3:hMJ[0].1=y:=by
         have h4:(hMJ.map (·.1))[0]?=ups[0]?:=by rw[hhm.out]
         rw[List.getElem?_map,zL hpl,hy]at h4;simpa using h4
        have h5:=wOR.out y (by rw[hy];exact List.mem_cons_self);rw[h3,hy];show y.r=((y.r.toNat:Nat):Int)
        omega
       rw[h2]at h1;exact h1
      have hHS:=zH (λW (h:(JU (w.heap.size+2) 28 (Za w10.heap.size (qv S' t)) (Za.keep zO)).r w10 W)=>by have h1:=hKH.kept (VZ h (B0:=w.heap.size) zO zO) (λq h1 h2=>YV h h2 zO);obtain⟨A1,n1,c1,A2,n2,c2,c3,A4,c4,hr,hs⟩:=h1.sto;exact Yz b A1 n1 c1 A2 n2 c2 _ _ c3 A4 _ c4 (qv S' t) hsh W hr hs);have hWI:w.heap.size+2<w10.heap.size:=zO;obtain⟨RR,hRR⟩:∃RR:Rel,RR=JU (w.heap.size+2) 28 (Za w10.heap.size (qv S' t)) (Za.keep hWI):=⟨_,rfl⟩
      replace hRR:=zH hRR;obtain⟨SF,hSF⟩:∃SF,qv S' t=SF:=⟨_,rfl⟩
      rw[hSF]at hqe hKH hsh hHS hRR;replace hSF:=zH hSF;obtain⟨rF,hrF⟩:∃rF,VP ups=rF:=⟨_,rfl⟩
      rw[hrF]at hqe hcr;have gT:∀W,RR.r w10 W->∀i,W.cell? ⟨w6.heap.size,i,none⟩=#[.pointer (some ⟨b,0,none⟩)][i]?:=λW h=>qa (ji (hRR.out▸h) zO rT10);have gU:∀W,RR.r w10 W->∀i,W.cell? ⟨w4.heap.size+1,i,none⟩=#[.slice (some ⟨bu,ou,none⟩) ups.length cu][i]?:=λW h=>qa (ji (hRR.out▸h) zO rU10);have gC:∀W,RR.r w10 W->W.cell? ⟨bu,ou+3,none⟩=some (.int .i64 (rF:Int)):=λW h=>by have h:(JU _ _ _ _).r w10 W:=hRR.out▸h;exact World.grownBy.cell h.1 hcr (λx=>hbu2 (by simpa using x))
      clear hcur hcu hcr hpl hhm wOR wKG hrF;refine qt zQ ?_;refine qX (w:=w10) RR (qQ [(1,qed w10.heap.size SF),(6,KG (w.heap.size+2) 28 (Za w10.heap.size SF))]) (List.replicate 7 true) 2 zQ zQ zQ zQ zQ zQ zQ ?st (Rel.drew _ _) ?walk
      case st=>rw[hRR.out];exact qi (by simp only[List.forall_mem_cons];exact⟨TF hWI,XO,λ_ h=>by cases h⟩)
      case walk=>
       intro K hK;dsimp only[qw,List.replicate];refine zC6 ?_;refine qH (qed w10.heap.size SF) zA0 zA0 (λW hW _=>?_) (λp=>?_)
       ·rw[hRR.out]at hW⊢;refine Qi ?_ ((hHS.out W hW).mono λe w' h=>?_)
        ·go_simp
        obtain⟨v,rfl,hT,hB⟩:=h;obtain⟨BB,WW,gg,A3',c3',A4',c4',rfl,-⟩:=id hT;exact⟨((BB,WW),(A3',c3'),(A4',c4')),rfl,zp.keep hT hW.1.size (zM _) (λ_ _ _=>rfl),qcB hB⟩
       obtain⟨⟨BB,WW⟩,⟨A3',c3'⟩,⟨A4',c4'⟩⟩:=p;refine zC6 ?_;refine qH (KG (w.heap.size+2) 28 (Za w10.heap.size SF)) zA0 zA0 (λW hW hp=>?_) (λ(p:Unit)=>?_)
       ·have hT:zp w10.heap.size SF (Qp (some ⟨BB,0,none⟩) SF.bs.length SF.bs.length (some ⟨WW,0,none⟩) SF.ws.length (SF.ws.length+1) A3' SF.now.length c3' A4' SF.last.length c4') W:=(hp 1 zA1).1;rw[hRR.out]at hW⊢;have hr0:=qhx hWI hW r210;obtain⟨u0,u1,u2,u3,q8⟩:=id hr0;have k8:=qa q8;have f8:=qg q8;refine qau hWI hr0 hT ?_;clear hT hr0;go_simp
       refine zC6 ?_;refine qD (hK _ _ λV hV hF=>?_);have hRT:∃cs,V.heap[w.heap.size+2]?=some (.cells cs 28 (0,0))/\Za w10.heap.size SF cs V:=(hF 6).1;clear hF hK gT gU gC hHS;rw[hRR.out]at hV;obtain⟨cs,q2,x0,x1,x2,x3,rfl,hTw⟩:=hRT;have q3:=ji hV (show w.heap.size+3≠w.heap.size+2 by omega) r310;have q4:=ji hV (show w.heap.size+4≠w.heap.size+2 by omega) r410;have qK:=ji hV (show D≠w.heap.size+2 by omega) hVT;have xV:=VZ hV (B0:=w.heap.size) zO zO;have zV:=hV.1.size;have kd:=qa q3;have ke:=qa q4;have fd:=qg q3;have fe:=qg q4;have zd:w.heap.size+1+1+1<V.heap.size:=zO;replace hTw:=zH hTw;clear hV hRR;refine zC4 ?_;go_wp2;refine Qn ?_;go_wp2_with fail;generalize hwf:World.setCell (World.setCell V _ _) _ _=wf;obtain⟨t1,t2,t3,t4,t5,t6⟩:=vD (C:=wf) q3 q4 zO hwf.symm;clear hwf;have qKf:=t5.same D _ qK rfl;refine Gh rfl rfl rfl rfl qKf zz ((t3 _ zO zO).trans q2) t1 t2 ⟨_,rfl,?_,(t6 zO zO (hJV.out.trans xV)).trans (belowK_b (w:=w) (zM _) _ D _ _ zO qKf rfl rfl)⟩;rw[hqe.out];refine⟨_,rfl,zp.keep hTw.out zO (by simp[World.putObj,t4]) λk h1 h2=>?_⟩;exact(World.putObj_heap_other (by have:=(zG.1 hVT).1;omega)).trans (t3 k zO zO)
   case stop=>
    rintro D cc pre W hD ⟨kk,hkk,rfl⟩ ⟨⟨er,Wb,rfl,hgx,⟨g4,g5,g6⟩,hCK⟩,hB⟩ hK;rw[hul]at hkk hgx;rw[Gm l kk hkk]at hgx;have hqe:=zH (show q=.error er by rw[hq2.out,hSU.out,qio hgx]);subst hNR;have zz:w.heap.size+4<w8.heap.size:=(zG.1 hI0.out.r4).1
    gi_wp2_with fail
    have hVU:Below w.heap.size w (W.putObj D (.deferred none)):=hB.trans (belowK_b (w:=w) (zM _) W D _ _ zO hK rfl rfl);exact Gh rfl rfl rfl rfl hK zO (hCK.row g4) (hCK.row g5) (hCK.row g6) ⟨_,rfl,by rw[hqe.out];rfl,hVU⟩
end Go.Proofs.YtmeadnlmepcmbaaGreat
namespace Go.Proofs.YtmeadnlmepcmbaaGreat
open Go.RowKit
def JC:List Oper->Nat->Nat->List Oper
 |[],_,_=>[]
 |o::l,0,z=>{o with after:=o.after.push {on:=z,ground:=.data} }::l
 |o::l,j+1,z=>o::JC l j z
theorem kF:∀(l:List Oper)(j z i:Nat),(JC l j z)[i]?=if i=j then(l[i]?).map (λo=>{o with after:=o.after.push {on:=z,ground:=.data} })else l[i]?
 |[],j,z,i=>by simp[JC]
 |o::l,0,z,i=>by
  cases i with
  |zero=>simp[JC]
  |succ i=>simp[JC]
 |o::l,j+1,z,i=>by
  cases i with
  |zero=>simp[JC]
  |succ i=>
   simp only[JC,List.getElem?_cons_succ];rw[kF l j z i];by_cases h:i=j
   ·subst h;simp
   ·rw[if_neg h,if_neg zO]
theorem UN{l:List Oper}{j z i:Nat}(h:i≠j):(JC l j z).toArray[i]?=l.toArray[i]?:=by simp only[List.getElem?_toArray];rw[kF,if_neg h]
theorem qgI{l:List Oper}{j z:Nat}{o:Oper}(h:l.toArray[j]?=some o):(JC l j z).toArray[j]?=some {o with after:=o.after.push {on:=z,ground:=.data} }:=by simp only[List.getElem?_toArray]at h⊢;rw[kF,if_pos rfl,h];rfl
theorem Jf{l:List Oper}{j z i:Nat}{listed:Array Bool}:i∈Region.ready .any (JC l j z).toArray listed↔i∈Region.ready .any l.toArray listed/\(i=j->listed.getD z false=true):=by
 rw[mem_ready,mem_ready];by_cases h:i=j
 ·subst h;constructor
  ·rintro⟨h0,o,ho,ha⟩;obtain⟨o',ho',rfl⟩:∃o',l.toArray[i]?=some o'/\o={o' with after:=o'.after.push {on:=z,ground:=.data} }:=by
    simp only[List.getElem?_toArray]at ho⊢;rw[kF,if_pos rfl]at ho;rcases hq:l[i]? with _|o'
    ·rw[hq]at ho;cases ho
    ·rw[hq]at ho;cases ho;exact⟨o',rfl,rfl⟩
   refine⟨⟨h0,o',ho',λe he hb=>ha e ?_ hb⟩,λ_=>ha {on:=z,ground:=.data} ?_ rfl⟩
   ·show e∈o'.after.push _;exact Array.mem_push_of_mem _ he
   ·show _∈o'.after.push _;exact Array.mem_push_self
  ·rintro⟨⟨h0,o,ho,ha⟩,hz⟩;refine⟨h0,_,qgI ho,λe he hb=>?_⟩;have he:e∈o.after.push {on:=z,ground:=.data}:=he;rcases Array.mem_push.1 he with he|rfl
   ·exact ha e he hb
   ·exact hz rfl
 ·rw[UN h];exact⟨λ⟨h0,o,ho,ha⟩=>⟨⟨h0,o,ho,ha⟩,λe=>absurd e h⟩,λ⟨h0,_⟩=>h0⟩
theorem Gx(l:List Oper)(j z:Nat)(t:Array Value):yielded (JC l j z).toArray t=yielded l.toArray t:=by
 funext i;unfold yielded;by_cases h:i=j
 ·subst h;simp only[List.getElem?_toArray];rw[kF,if_pos rfl];cases l[i]?<;>rfl
 ·rw[UN h]
theorem qeQ{oz:Oper}{src:Operand}{k:Nat}(hop:oz.op=.extract src k)(ev:Operand->Value)(P:Program):(∃v,∀W,(execOp ev oz).run P W=.ok (.value v) W)\/(∀W,∃s,(execOp ev oz).run P W=.halt (.stuck s) W):=by
 unfold execOp;rw[hop];simp only[Instr.extract];split
 ·split
  ·rename_i v _;exact .inl ⟨v,λW=>rfl⟩
  ·exact .inr λW=>⟨_,rfl⟩
 ·exact .inr λW=>⟨_,rfl⟩
def lateB(ops:Array Oper)(j z:Nat):Bool:=match ops[z]? with
 |none=>false
 |some oz=>(qN oz).all (λk=>TK ops 9 j k)&&(List.range ops.size).all λi=>i==z||TK ops 9 z i||match ops[i]? with
  |some oi=>oi.after.any (λe=>Region.binds .any e&&e.on==z)||oz.apart ops oi
  |none=>true
section
variable {P:Program} {l:List Oper} {Q:Exit->Act->World->Prop}
theorem qlt{j z i:Nat}{K K':Act->World->Prop}{a:Act}{W:World}(hK:∀a w,K a w->K' a w)(h:wpOp P (JC l j z).toArray (QN Q) i K a W):wpOp P l.toArray (QN Q) i K' a W:=by
 refine wpOp_mono hK ?_;unfold wpOp at h⊢;rw[Gx]at h;by_cases hi:i=j
 ·subst hi;rcases ho:l.toArray[i]? with _|o
  ·have:(JC l i z).toArray[i]?=none:=by simp only[List.getElem?_toArray]at ho⊢;rw[kF,if_pos rfl,ho];rfl
   rw[this]at h;exact h
  ·rw[qgI ho]at h;exact h
 ·rw[UN hi]at h;exact h
theorem qiA{ops:Array Oper}{j z:Nat}{oz:Oper}(hz:ops[z]?=some oz)(h:lateB ops j z=true):(∀k∈qN oz,TK ops 9 j k=true)/\∀(i:Nat)(oi:Oper),ops[i]?=some oi->i≠z->TK ops 9 z i=true\/(∃e∈oi.after,Region.binds .any e=true/\e.on=z)\/oz.apart ops oi=true:=by
 unfold lateB at h;rw[hz]at h;simp only[Bool.and_eq_true]at h;refine⟨λk hk=>List.all_eq_true.1 h.1 k hk,λi oi hi hiz=>?_⟩;have h1:=List.all_eq_true.1 h.2 i (List.mem_range.2 (zG.1 hi).1);rw[hi]at h1;simp only[Bool.or_eq_true,beq_iff_eq,hiz,false_or]at h1;rcases h1 with h1|h1|h1
 ·exact .inl h1
 ·rw[<-Array.any_toList]at h1;obtain⟨e,he,h2⟩:=List.any_eq_true.1 h1;replace he:e∈oi.after:=by simpa using he
  simp only[Bool.and_eq_true,beq_iff_eq]at h2;exact .inr (.inl ⟨e,he,h2⟩)
 ·exact .inr (.inr h1)
theorem qjl{j z:Nat}{oz:Oper}{src:Operand}{k:Nat}(hz:l.toArray[z]?=some oz)(hjz:j≠z)(hop:oz.op=.extract src k)(hg:oz.guard=none)(hs:Region.noSelect l.toArray=true)(hB:lateB l.toArray j z=true):∀(fuel:Nat)(listed:Array Bool)(a:Act)(W:World),vQ l.toArray listed->listed.size=l.length->wpAny P .any (JC l j z).toArray (QN Q) fuel listed a W->wpAny P .any l.toArray (QN Q) fuel listed a W:=by
 obtain⟨hB1,hB2⟩:=qiA hz hB;have hzl:z<l.length:=by simpa using(zG.1 hz).1
 have zr:∀listed:Array Bool,vQ l.toArray listed->listed.size=l.length->j∈Region.ready .any l.toArray listed->¬listed.getD z false=true->z∈Region.ready .any l.toArray listed:=λlisted hc hsz hj hzu=>by
  refine mem_ready.2 ⟨?_,oz,hz,λe he hb=>?_⟩
  ·have hlt:z<listed.size:=zO;simp only[Array.getD_eq_getD_getElem?,Array.getElem?_eq_getElem hlt,Option.getD_some]at hzu⊢;simpa using hzu
  ·have hk:e.on∈qN oz:=List.mem_map.2 ⟨e,by rw[List.mem_filter];exact⟨by simpa using he,hb⟩,rfl⟩;exact vJ hc 9 j e.on (λo ho=>VD hj ho) (hB1 _ hk)
 intro fuel;induction fuel with
 |zero=>
  intro listed a W hc hsz h;refine⟨?_,h.2⟩;refine Classical.byContradiction λhne=>?_;obtain⟨i,hi⟩:=List.exists_mem_of_ne_nil _ hne;have hno:∀i,i∉Region.ready .any (JC l j z).toArray listed:=λi hi=>by rw[h.1]at hi;cases hi
  by_cases hij:i=j
  ·subst hij;by_cases hzu:listed.getD z false=true
   ·exact hno i (Jf.2 ⟨hi,λ_=>hzu⟩)
   ·exact hno z (Jf.2 ⟨zr listed hc hsz hi hzu,λe=>absurd e.symm hjz⟩)
  ·exact hno i (Jf.2 ⟨hi,λe=>absurd e hij⟩)
 |succ fuel ih=>
  intro listed a W hc hsz h;refine⟨λh0=>h.1 ?_,λi hi=>?_⟩
  ·refine List.eq_nil_iff_forall_not_mem.2 λi hi=>?_;have:=(Jf.1 hi).1;rw[h0]at this;cases this
  ·have key:∀i,i∈Region.ready .any (JC l j z).toArray listed->wpOp P l.toArray (QN Q) i (wpAny P .any l.toArray (QN Q) fuel (listed.setIfInBounds i true)) a W:=λi hi=>
    qlt (λa w hw=>ih _ a w (hc.step (Jf.1 hi).1) (by simpa using hsz) hw) (h.2 i hi)
   by_cases hlate:i=j/\¬listed.getD z false=true
   ·obtain⟨rfl,hzu⟩:=hlate;have hzr:=zr listed hc hsz hi hzu;have h1:=h.2 z (Jf.2 ⟨hzr,λe=>absurd e.symm hjz⟩);have hw:∀t,Region.wanted oz (yielded l.toArray t)=true:=λt=>by unfold Region.wanted;rw[hg]
    unfold wpOp at h1;rw[UN (λe=>hjz e.symm),hz]at h1;simp only[Gx,hw,if_true]at h1;rcases h1 with h1|⟨_,h1⟩
    ·unfold Oper.wp at h1;rcases qeQ hop a.eval P with⟨v,hv⟩|hst
     ·rw[hv]at h1;have h2:=ih _ _ W (hc.step hzr) (by simpa using hsz) h1;have h3:=qcR (Q:=Q) (v:=v) hz (Region.noSelect_spec hs) fuel listed a W (λj' oj' hNS hjz' hun hno=>by
       rcases hB2 j' oj' hNS hjz' with hwt|⟨e,he,hb,heq⟩|hap
       ·exfalso;have:=vJ hc 9 z j' (λo ho=>VD hzr ho) hwt;rcases Nat.lt_or_ge j' listed.size with h'|h'
        ·simp[h']at hun this;rw[hun]at this;cases this
        ·simp[Array.getElem?_eq_none h']at this
       ·exact absurd heq (hno e he hb)
       ·exact hap) hzr (hw _) hv h2
      exact h3.2 i hi
     ·obtain⟨s,hs2⟩:=hst W;rw[hs2]at h1;exact False.elim h1
    ·exact absurd h1 Jg
   ·exact key i (Jf.2 ⟨hi,λe=>Classical.byContradiction λhn=>hlate ⟨e,hn⟩⟩)
theorem Uy{listed:Array Bool}{a:Act}{W:World}{fuel:Nat}(j z:Nat){oz:Oper}{src:Operand}{k:Nat}(hz:l.toArray[z]?=some oz)(hjz:(j==z)=false)(hop:oz.op=.extract src k)(hg:oz.guard=none)(hs:Region.noSelect l.toArray=true)(hB:lateB l.toArray j z=true)(hc:Te l.toArray listed=true)(hsz:(listed.size==l.length)=true)(h:wpAny P .any (JC l j z).toArray (QN Q) fuel listed a W):wpAny P .any l.toArray (QN Q) fuel listed a W:=
 qjl hz (by simpa using hjz) hop hg hs hB fuel listed a W (vp hc) (by simpa using hsz) h
end
end Go.Proofs.YtmeadnlmepcmbaaGreat
