/- Lemmas of the proof. -/
import Derived.Test.YtmeadnlmepcmbaaGreatZJ18
set_option linter.all false
set_option maxHeartbeats 8000000
open Go.Proofs.Tryz
namespace Go.Proofs.YtmeadnlmepcmbaaGreat
open Go.RowKit Go.Shelf
attribute [local go_sem] Oper.semAt_some
theorem qjI {n b:Nat} {R:Ending->World->Prop} {a:Act} {W:World} {x0 x1 x2 x3 y z:Value} (h4:a.tmps[6]?.getD undef=.pointer (some ⟨b+1+1,0,none⟩)) (h5:a.tmps[7]?.getD undef=.pointer (some ⟨b+1+1+1,0,none⟩)) (h6:a.tmps[8]?.getD undef=.pointer (some ⟨b+1+1+1+1,0,none⟩)) (hd:a.defers=[]) (r4:W.heap[b+2]?=some (.cells #[x0,x1,x2,x3] 28 (0,0))) (r5:W.heap[b+3]?=some (.cells #[y] 3 (0,0))) (r6:W.heap[b+4]?=some (.cells #[z] 37 (0,0))) (hR:R (.returned (.tuple #[.agg #[x0,x1,x2,x3],y,z])) W):bodyPostM Fence.wide n prog Tryz.f65 R .ret a W:=by
 have k4:=qa r4;have k5:=qa r5;have k6:=qa r6;change LeavesInM Fence.wide n prog Tryz.f65 a.tmps R a.defers .returning W;rw[hd];refine⟨.tuple #[.agg #[x0,x1,x2,x3],y,z],?_,hR⟩;simp[results,results65,go_sem,h4,h5,h6,k4,k5,k6]
theorem UT {n b D:Nat} {R:Ending->World->Prop} {a:Act} {W:World} {x0 x1 x2 x3 y z:Value} (h4:a.tmps[6]?.getD undef=.pointer (some ⟨b+1+1,0,none⟩)) (h5:a.tmps[7]?.getD undef=.pointer (some ⟨b+1+1+1,0,none⟩)) (h6:a.tmps[8]?.getD undef=.pointer (some ⟨b+1+1+1+1,0,none⟩)) (hd:a.defers=[{ target:=.collected D,args:=#[] }]) (hK:W.heap[D]?=some (.deferred (some []))) (hD:b+4<D) (r4:W.heap[b+2]?=some (.cells #[x0,x1,x2,x3] 28 (0,0))) (r5:W.heap[b+3]?=some (.cells #[y] 3 (0,0))) (r6:W.heap[b+4]?=some (.cells #[z] 37 (0,0))) (hR:R (.returned (.tuple #[.agg #[x0,x1,x2,x3],y,z])) (W.putObj D (.deferred none))):bodyPostM Fence.wide n prog Tryz.f65 R .ret a W:=by
 have k4:=qa ((World.putObj_heap_other (o:=.deferred none) (show b+2≠D by omega)).trans r4);have k5:=qa ((World.putObj_heap_other (o:=.deferred none) (show b+3≠D by omega)).trans r5);have k6:=qa ((World.putObj_heap_other (o:=.deferred none) (show b+4≠D by omega)).trans r6);change LeavesInM Fence.wide n prog Tryz.f65 a.tmps R a.defers .returning W;rw[hd];refine⟨zA2,.inl ⟨_,_,rfl,run_takeDeferred hK,.tuple #[.agg #[x0,x1,x2,x3],y,z],?_,hR⟩⟩;simp[results,results65,go_sem,h4,h5,h6,k4,k5,k6]
theorem key_ifn (x:It) (k i o:Int) (W:World):(if x.k=k then if x.i=i then if x.o=o then Result.ok (Next.value (Value.bool false)) W else Result.ok (Next.value (Value.bool true)) W else Result.ok (Next.value (Value.bool true)) W else Result.ok (Next.value (Value.bool true)) W)=Result.ok (Next.value (Value.bool (!decide (qo x=(k,i,o))))) W:=by
 have e:(qo x=(k,i,o))↔(x.k=k/\x.i=i/\x.o=o):=by unfold qo;simp only[Prod.mk.injEq]
 by_cases h1:x.k=k
 ·by_cases h2:x.i=i
  ·by_cases h3:x.o=o
   ·rw[if_pos h1,if_pos h2,if_pos h3,decide_eq_true (e.2 ⟨h1,h2,h3⟩)];rfl
   ·rw[if_pos h1,if_pos h2,if_neg h3,decide_eq_false (fun h=>h3 (e.1 h).2.2)];rfl
  ·rw[if_pos h1,if_neg h2,decide_eq_false (fun h=>h2 (e.1 h).2.1)];rfl
 ·rw[if_neg h1,decide_eq_false (fun h=>h1 (e.1 h).1)];rfl
theorem Qo.of_ext {W W':World} (h:Ext W W'):Qo W W':=⟨h.size,fun k o hk _=>(Below.block h k (zG.1 hk).1).trans hk⟩
theorem YT.split {D:Nat->Prop} {B lo b g:Nat} {k:Option Nat} {S:Sto} {lvl:Int} {l held:List It} {w W:World} {e:Ending} (h:YT D B lo b g k S lvl l held w e W):Qg lo b g k w W /\ ((∃ er,Hid (QU S lvl l held=.error er)/\e=.returned (.tuple #[.slice none 0 0,.int .i64 er])) \/
  (∃ up S' k' D' A c,Hid (QU S lvl l held=.ok (up,S'))/\e=.returned (.tuple #[.slice A up.length c,.int .i64 0])/\ZD w.heap.size k k'/\YO w.heap.size D D'/\Bch D' B lo b g k' S' W/\Hid (ql S'=true)/\W.ownsRow w.heap.size 51 5 (.slice A up.length c) up.length (Qa (upV up)))):=by
 obtain⟨h1,h2⟩:=h;refine⟨h1,?_⟩;rcases hb:QU S lvl l held with er|⟨up,S'⟩
 ·rw[hb] at h2;exact .inl ⟨er,zH rfl,h2⟩
 ·rw[hb] at h2;obtain⟨k',D',A,c,e1,e2,e3,e4,e5,e6,-⟩:=h2;exact .inr ⟨up,S',k',D',A,c,zH rfl,e1,e2,e3,e4,zH e5,e6⟩
set_option maxRecDepth 100000 in
theorem qjH (A1 n1 c1 A2 n2 c2 A3 n3 c3 A4 n4 c4) (S:Sto) (hS:ql S=true) (a lvl:Nat) (xs:List It) (ha:8<=a) (ak:a<256) (hn:qt S a=some ((lvl:Int),xs)) (aN:(qD S lvl xs).isSome=true) (x:It) (lN:zu x) (Ax:OA) (cx:Nat) (w:World) (aH:qV w w.heap.size (.slice A1 n1 c1) (.slice A2 n2 c2) (.slice A3 n3 c3) (.slice A4 n4 c4) S) (pX:Bys w w.heap.size (.slice Ax x.val.length cx) x.val):Calls prog 65 #[Qe A1 n1 c1 A2 n2 c2 A3 n3 c3 A4 n4 c4,.int .i64 (a:Int),itV x Ax cx] w (Zg (PutQ w.heap.size (Tc S lvl xs a x)) w):=by
 have HA:=zH (fun W (hx:Ext w W)=>qiv A1 n1 c1 A2 n2 c2 A3 n3 c3 A4 n4 c4 S hS a lvl xs ha ak hn aN x Ax cx W (aH.ext hx));have HW:=zH (fun W (hx:Ext w W)=>way_any A1 n1 c1 A2 n2 c2 A3 n3 c3 A4 n4 c4 S hS a lvl xs ha ak hn aN x.k x.i x.o W (aH.ext hx));have HO:=zH (fun W (hx:Ext w W)=>qeB A1 n1 c1 A2 n2 c2 A3 n3 c3 A4 n4 c4 S (by have:=(Qc hS).2.2.1;omega) W (aH.ext hx));obtain⟨q,hq⟩:∃ q,Tc S lvl xs a x=q:=⟨_,rfl⟩
 rw[hq];replace hq:=zH hq;obtain⟨l,hl⟩:∃ l,kI S (x.k,x.i,x.o) lvl xs=l:=⟨_,rfl⟩
 have hwo:=qiT (k:=(x.k,x.i,x.o)) lvl hn aN;have wS:=Ge (k:=(x.k,x.i,x.o)) lvl (qM hn).1 aN;have hl6:lvl<6:=by have:=jw hn;omega
 rw[hl] at HW hwo wS;replace hl:=zH hl;replace hwo:=zH hwo;have lV:0<l.length/\l.length<=6:=zO;replace lV:=zH lV;replace wS:=zH wS;clear hl6;refine(callsIn_wide (n:=3)).1 ?_;refine callsIn_of_wp_marks func65 rfl trivial ?_ rfl;simp only[ntmps65,List.size_toArray,List.length_cons,List.length_nil,Nat.reduceAdd,Nat.reduceSub,Array.replicate_succ,Array.replicate_zero,List.push_toArray,List.append_toArray,List.nil_append,List.cons_append];refine wpIn_wide.2 ?_;replace aH:=zH aH;replace pX:=zH pX;replace lN:=zH lN;clear hn aN;go_wp2_with fail;generalize aA:(World.alloc (World.alloc (World.alloc (World.alloc (World.alloc w _) _) _) _) _)=w1;have x1:Ext w w1:=aA▸((((zN _ _).trans (zN _ _)).trans (zN _ _)).trans (zN _ _)).trans (zN _ _)
 have s1:w.heap.size+5<=w1.heap.size:=by rw[<-aA];simp
 have ra1:w1.heap[w.heap.size]?=some (.cells #[.slice A1 n1 c1,.slice A2 n2 c2,.slice A3 n3 c3,.slice A4 n4 c4] 28 (0,0)):=aA▸(zK _ _ _ zA3).trans ((zK _ _ _ zA3).trans ((zK _ _ _ zA3).trans ((zK _ _ _ zA3).trans (zI _ _ _ rfl))))
 have rb1:w1.heap[w.heap.size+1]?=some (.cells #[.int .u8 x.k,.int .u32 x.i,.int .u32 x.o,.int .i64 x.r,.slice Ax x.val.length cx] 51 (0,0)):=aA▸(zK _ _ _ zA3).trans ((zK _ _ _ zA3).trans ((zK _ _ _ zA3).trans (zI _ _ _ zA2)))
 have rc1:w1.heap[w.heap.size+2]?=some (.cells #[.slice none 0 0,.slice none 0 0,.slice none 0 0,.slice none 0 0] 28 (0,0)):=aA▸(zK _ _ _ zA3).trans ((zK _ _ _ zA3).trans (zI _ _ _ zA2))
 have rd1:w1.heap[w.heap.size+3]?=some (.cells #[.int .i64 0] 3 (0,0)):=aA▸(zK _ _ _ zA3).trans (zI _ _ _ zA2)
 have re1:w1.heap[w.heap.size+4]?=some (.cells #[.int .i64 0] 37 (0,0)):=aA▸zI _ _ _ zA2
 clear aA;refine(HA.out w1 x1).mono ?_;clear HA;rintro e w2 ⟨rfl,hB⟩;have x2:Ext w w2:=x1.trans hB;have s2:=hB.size;have ra2:=qb ra1 hB;have rb2:=qb rb1 hB;have rc2:=qb rc1 hB;have rd2:=qb rd1 hB;have re2:=qb re1 hB;clear hB ra1 rb1 rc1 rd1 re1 x1;have ka2:=qa ra2;have kb2:=qa rb2;have kc2:=qa rc2;have kd2:=qa rd2;have ke2:=qa re2;have fc2:=qe rc2;have fd2:=qe rd2;have fe2:=qe re2;by_cases hE:TA S x=0
 case neg =>
  have sV:=zH (show q=.error (TA S x) by rw[<-hq.out];unfold Tc;rw[if_neg hE]);have aG:(TA S x != 0)=true:=by rw[bne_iff_ne];exact hE
  generalize TA S x=er at *;clear HW HO;go_wp2_with fail;obtain⟨g4,g5,g6,hb,-⟩:=qce rc2 rd2 re2 rfl;exact qjI rfl rfl rfl rfl g4 g5 g6 ⟨_,rfl,by rw[sV.out];rfl,hb zO x2⟩
 case pos =>
  have xZ:=zH (show q=putX S lvl xs a x by rw[<-hq.out];unfold Tc;rw[if_pos hE]);rw[hE];clear hq;have nY:Hid (q=match GJ S lvl xs x with
   | .error e=>.error e
   | .ok (up,S2)=>match QH S2 (-1) S2.now a with
    |none=>.error 8
    |some t=>.ok (YB up,qw S2 t)):=zH (by rw[xZ.out,qeO] <;> rfl)
  have hpre:Hid (GJ S lvl xs x=if qaG (x.k,x.i,x.o) l=true then .error 120 else
   match jo (x.k,x.i,x.o) l.reverse [x] S with
   | .error e=>.error e
   | .ok (up,S1)=>if 1<up.length then QU S1 ((l.length:Nat):Int) up up else .ok (up,S1)):=zH (by rw[<-hl.out];rfl)
  replace hE:=zH hE;clear xZ;go_wp2_with fail;refine(HW.out w2 x2).mono ?_;clear HW;rintro e w3 ⟨u,rfl,hSE,hB⟩;have x23:Ext w2 w3:=hB;have x3:Ext w w3:=x2.trans x23;have s3:=hB.size;have ra3:=qb ra2 hB;have rb3:=qb rb2 hB;have rc3:=qb rc2 hB;have rd3:=qb rd2 hB;have re3:=qb re2 hB;clear hB ra2 rb2 rc2 rd2 re2 ka2 kb2 kc2 kd2 ke2 fc2 fd2 fe2;have ka3:=qa ra3;have kb3:=qa rb3;have kc3:=qa rc3;have kd3:=qa rd3;have ke3:=qa re3;have fc3:=qe rc3;have fd3:=qe rd3;have fe3:=qe re3;have hT:=tall_any u l (by have:=lV.out;omega) lV.out.1 x.k x.i x.o (fun s hs=>(hwo.out s hs).len) w3 (hSE.read (Ql.refl _ _));obtain⟨ps,ax,⟨As,cs,rfl,hsc1,hsc2,hsr⟩,iP⟩:=hSE;replace hsc2:=zH hsc2;replace hsr:=zH hsr;replace iP:=zH iP;replace ax:=zH ax;replace hT:=zH hT;clear hsc1;go_wp2_with fail;refine hT.out.mono ?_;clear hT;rintro e w4 ⟨rfl,hB⟩;have x34:Ext w3 w4:=hB;have x4:Ext w w4:=x3.trans x34;have s4:=hB.size;have ra4:=qb ra3 hB;have rb4:=qb rb3 hB;have rc4:=qb rc3 hB;have rd4:=qb rd3 hB;have re4:=qb re3 hB;clear hB ra3 rb3 rc3 rd3 re3 ka3 kb3 kc3 kd3 ke3 fc3 fd3 fe3;have ka4:=qa ra4;have kb4:=qa rb4;have kc4:=qa rc4;have kd4:=qa rd4;have ke4:=qa re4;have fc4:=qe rc4;have fd4:=qe rd4;have fe4:=qe re4;rcases hta:qaG (x.k,x.i,x.o) l with _|_
  case true =>have sV:=zH (show q=.error 120 by rw[nY.out,hpre.out,if_pos hta]);clear nY hpre HO;go_wp2_with fail;obtain⟨g4,g5,g6,hb,-⟩:=qce rc4 rd4 re4 rfl;exact qjI rfl rfl rfl rfl g4 g5 g6 ⟨_,rfl,by rw[sV.out];rfl,hb zO x4⟩
  case false =>
   have hAX:Hid (GJ S lvl xs x=match jo (x.k,x.i,x.o) l.reverse [x] S with
    | .error e=>.error e
    | .ok (up,S1)=>if 1<up.length then QU S1 ((l.length:Nat):Int) up up else .ok (up,S1)):=zH (by rw[hpre.out,if_neg (by rw[hta];decide)])
   replace hta:=zH hta;clear hpre;have z40:w.heap.size<w4.heap.size:=zO;have z41:w.heap.size+1<w4.heap.size:=zO;have z42:w.heap.size+1+1<w4.heap.size:=zO;have z43:w.heap.size+1+1+1<w4.heap.size:=zO;have z44:w.heap.size+1+1+1+1<w4.heap.size:=zO;go_wp2_with fail;generalize aT:(World.alloc (World.alloc w4 _) _)=w5;have x45:Ext w4 w5:=aT▸(zN _ _).trans (zN _ _)
   have x5:Ext w w5:=x4.trans x45;have s5:w4.heap.size+2<=w5.heap.size:=by rw[<-aT];simp
   have rU5:w5.heap[w4.heap.size]?=some (.cells #[.int .u8 x.k,.int .u32 x.i,.int .u32 x.o,.int .i64 x.r,.slice Ax x.val.length cx] 51 (0,0)):=aT▸(zK _ _ _ zA2).trans (zI _ _ _ rfl)
   have rB5:w5.heap[w4.heap.size+1]?=some (.cells #[.slice (some ⟨w4.heap.size,0,none⟩) 1 1] 55 (0,0)):=aT▸zI _ _ _ zA2
   clear aT;have rb5:=qb rb4 x45;have rc5:=qb rc4 x45;have rd5:=qb rd4 x45;have re5:=qb re4 x45;clear ra4 rb4 rc4 rd4 re4 ka4 kb4 kc4 kd4 ke4 fc4 fd4 fe4;refine(HO.out w5 x5).mono ?_;clear HO;rintro e w6 ⟨u,rfl,⟨b,A3',c3',rfl,aQ,aF,aB⟩,hB⟩;have x56:Ext w5 w6:=hB;have x6:Ext w w6:=x5.trans x56;have s6:=hB.size;have tK:=aH.out.below x6;obtain⟨g,gy⟩:=Bch.of_on (B:=w.heap.size) x5.size hS tK aQ aF aB;replace gy:=zH gy;have rb6:=qb rb5 hB;have rc6:=qb rc5 hB;have rd6:=qb rd5 hB;have re6:=qb re5 hB;have rU6:=qb rU5 hB;have rB6:=qb rB5 hB;clear hB rb5 rc5 rd5 re5 rU5 rB5 aF aB tK z40 z41 z42 z43 z44;go_wp2_with fail;generalize gp:World.alloc w6 _=w7;have x67:Ext w6 w7:=gp▸zN _ _
   have rT7:w7.heap[w6.heap.size]?=some (.cells #[.pointer (some ⟨b,0,none⟩)] 92 (0,0)):=gp▸zI _ _ _ rfl
   clear gp;refine(qcE As l.length cs w7).mono ?_;rintro e w8 ⟨rfl,rfl⟩;go_wp2_with fail;generalize xy:World.alloc w7 _=w8;have x78:Ext w7 w8:=xy▸zN _ _
   have s8:w7.heap.size<w8.heap.size:=by rw[<-xy];simp
   have rS8:w8.heap[w7.heap.size]?=some (.cells #[.slice As l.length cs] 180 (0,0)):=xy▸zI _ _ _ rfl
   clear xy;have x68:Ext w6 w8:=x67.trans x78;have x38:Ext w3 w8:=((x34.trans x45).trans x56).trans x68;have x8:Ext w w8:=x6.trans x68;obtain⟨b2,o2,rfl,bU,bG⟩:=(hsr.out w3 (Ql.refl _ _)).2 lV.out.1;have bM:ps.length=l.length:=by rw[<-ax.out,List.length_map]
   obtain⟨us,ut⟩:∃ us:List Us,us=ps.map fun p=>((p.1,Ku p.2):Us):=⟨_,rfl⟩
   have lY:us.length=l.length:=by rw[ut,List.length_map,bM]
   have uu:∀ i (hi:i<ps.length),us[i]?.getD usz=(ps[i].1,Ku ps[i].2):=fun i hi=>by rw[ut,List.getElem?_map,zL hi];rfl
   have uI:∀ i (hi:i<ps.length),sv (Ku ps[i].2)=ps[i].2:=fun i hi=>by obtain⟨ips,_,⟨⟨A,c,e,_⟩,_⟩⟩:=iP.out ps[i] (List.getElem_mem hi);rw[e];rfl
   have hDP:∀ j,∃ ips A c,sv (us[j]?.getD usz).2=.slice A (sAt l j).2.1.length c/\(us[j]?.getD usz).1=sAt l j/\ips.map (·.1)=(sAt l j).2.1/\Gn (fun q=>q<w2.heap.size) w3 (sv (us[j]?.getD usz).2) ips:=fun j=>by
    by_cases hj:j<ps.length
    ·obtain⟨ips,e1,he⟩:=iP.out ps[j] (List.getElem_mem hj);have hx:ps[j].1=sAt l j:=by unfold sAt;rw[<-ax.out,List.getElem?_map,zL hj];rfl
     obtain⟨A,c,e⟩:=he.shape e1;rw[uu j hj];simp only;rw[uI j hj];rw[hx] at e e1;exact⟨ips,A,c,e,hx,e1,he⟩
    ·have h1:us[j]?=none:=List.getElem?_eq_none (by rw[lY];omega);have h2:sAt l j=(0,[],0):=by unfold sAt;rw[List.getElem?_eq_none zO];rfl
     rw[h1,h2];exact⟨[],none,0,rfl,rfl,rfl,⟨none,0,rfl,zM _,zA6,fun C _=>Rd.none_⟩,fun p hp=>by cases hp⟩
   have hne4:b2≠w.heap.size+4:=fun e=>by have h1:=bG 1 _ (XE ps 0 (by rw[bM];exact lV.out.1)).2.1;have h2:=Ext.cell ((x34.trans x45).trans x56) h1;rw[e,qa re6] at h2;simp at h2
   have hSW:SWs w8 w7.heap.size b2 (.slice (some ⟨b2,o2,none⟩) l.length cs) us:=by refine⟨by rw[qa rS8];rfl,.inr ⟨o2,cs,by rw[lY],fun i hi=>?_⟩⟩;have fP:i<ps.length:=zO;obtain⟨g0,g1,g2⟩:=XE ps i fP;rw[uu i fP];simp only;rw[uI i fP];exact⟨Ext.cell x38 (bG _ _ g0),by rw[Nat.add_assoc];exact Ext.cell x38 (bG _ _ g1),by rw[Nat.add_assoc];exact Ext.cell x38 (bG _ _ g2)⟩
   have hI0:PutI (x.k,x.i,x.o) l S x w.heap.size w5.heap.size b g (w4.heap.size+1) w6.heap.size w7.heap.size w2.heap.size w3 (.slice Ax x.val.length cx) (.slice (some ⟨b2,o2,none⟩) l.length cs) [] w8:=by
    refine⟨⟨[x],S,none,_,_,1,[(x,.slice Ax x.val.length cx)],rfl,hS,zA2,zA2,rfl,fun y hy=>?_,fun p hp=>?_,qb rB6 x68,?_,gy.out.ext x68⟩,qb rb6 x68,qb rc6 x68,qb rd6 x68,qb re6 x68,qb rT7 x78,rS8,Ql.of_ext x38⟩
    ·obtain rfl:y=x:=by simpa using hy
     have hb:itB y.r y.val.length=true:=by
      have:=hE.out;unfold TA at this;split at this
      ·rename_i h;exact h
      ·cases this
     unfold itB at hb;simp only[decide_eq_true_eq] at hb;have h1:=lN.out.2.2.2.1;exact⟨lN.out,zO,h1.2⟩
    ·obtain rfl:p=(x,.slice Ax x.val.length cx):=by simpa using hp
     exact⟨⟨Ax,cx,rfl⟩,pX.out.below x8⟩
    ·exact⟨rfl,.inr ⟨w4.heap.size,1,_,rfl,Nat.zero_le _,qb rU6 x68,zM _,zA6,rfl,rfl⟩⟩
   replace hI0:=zH hI0;replace hDP:=zH hDP;clear ut uu uI bG hsr iP ax bM rb6 rc6 rd6 re6 rU6 rB6 rT7 rS8;generalize nO:({ tmps:=_,defers:=_ }:Act)=act;refine(wpIn_wide (n:=3)).1 ?_;refine wpIn_rangeFunc_ownH rfl zO (gf:=176) (lb:=#[.pointer (some ⟨w7.heap.size,0,none⟩)]) (by rw[<-nO];rfl) trivial (enters_of func176 zQ rfl)
    (qfz (3-1) zO w7.heap.size b2 _ us (by rw[lY];have:=lV.out;omega) w8 s8 (by have:=x38.size;omega) hSW) QA.t (QA.b s8 (by have:=x38.size;omega)) (Below.refl _ _) (fun _=>rfl)
    (fun pre W'=>(∃ Wb,PutI (x.k,x.i,x.o) l S x w.heap.size w5.heap.size b g (w4.heap.size+1) w6.heap.size w7.heap.size w2.heap.size w3 (.slice Ax x.val.length cx) (.slice (some ⟨b2,o2,none⟩) l.length cs) pre Wb/\Qo Wb W')/\Below w.heap.size w W')
    (fun c pre W'=>(∃ er Wb,c=.ret/\jo (x.k,x.i,x.o) (pre.map (sAt l)) [x] S=.error er/\(Wb.heap[w.heap.size+2]?=some (.cells #[.slice none 0 0,.slice none 0 0,.slice none 0 0,.slice none 0 0] 28 (0,0))/\Wb.heap[w.heap.size+3]?=some (.cells #[.int .i64 0] 3 (0,0))/\Wb.heap[w.heap.size+4]?=some (.cells #[.int .i64 er] 37 (0,0)))/\Qo Wb W')/\Below w.heap.size w W')
    (OwnFrom.and (fun s A C row hs hg hr=>by obtain⟨Wb,h1,h2⟩:=hs;exact⟨Wb,h1,h2.grown hg fun r e=>(hr r e).2⟩) (ownFrom_below (zM _) x8.size))
    (fun c=>OwnFrom.and (fun s A C row hs hg hr=>by obtain⟨er,Wb,h1,h2,h3,h4⟩:=hs;exact⟨er,Wb,h1,h2,h3,h4.grown hg fun r e=>(hr r e).2⟩) (ownFrom_below (zM _) x8.size))
    ⟨⟨w8,hI0.out,Qo.refl _⟩,x8⟩
    (fun j a' W'=>∃ t14,a'=(((({ tmps:=act.tmps,defers:=[] }:Act).put (some 42) (.int .i64 (j:Int))).put (some 43) (.agg #[.int .i64 ((us[j]?.getD usz).1.1:Int),sv (us[j]?.getD usz).2,.int .i64 ((us[j]?.getD usz).1.2.2:Int)])).put (some 14) (.pointer (some ⟨t14,0,none⟩)))/\W'.heap[t14]?=some (.cells #[.int .i64 ((us[j]?.getD usz).1.1:Int),sv (us[j]?.getD usz).2,.int .i64 ((us[j]?.getD usz).1.2.2:Int)] 187 (0,0)))
    (fun x a' s A C row hs hg hr=>by obtain⟨t14,e,h⟩:=hs;exact⟨t14,e,QC (β:=Unit) _ _ _ _ () A C row h hg hr⟩) ?assign ?body ?done ?stop
   case assign =>
    rintro l' pre j W' K ⟨⟨Wb,hPI,nP⟩,i4⟩ hK;subst nO;have z4:=i4.size;have rO:=hPI.ck nP;have zS:=(zG.1 rO.rS).1;have zb2:b2<W'.heap.size:=by have:=(((x34.trans x45).trans x56).trans x67).size;omega
    gi_wp2
    exact hK _ _ ((KeepsOthers.alloc _ _).from _) ⟨zK _ _ _ zS,zK _ _ _ zb2⟩ ⟨⟨_,rO,Qo.of_ext (zN _ _)⟩,Below.alloc i4 z4 _⟩ ⟨W'.heap.size,rfl,zI _ _ _ rfl⟩
   case body =>
    rintro l' pre j a' W' hll ⟨rr,hlp⟩ ⟨⟨Wb,hPI,nP⟩,i4⟩ ⟨t14,rfl,xg⟩ _;subst nO;have rO:=hPI.ck nP;simp only[Act.put,zA,zB,zC];obtain⟨ips,A9,c9,e9,e10,e11,mJ⟩:=hDP.out j;have hWO:=sAt_ok hwo.out j;have hDN:=zH (fun (ups:List It) (S':Sto) (h:jo (x.k,x.i,x.o) (pre.map (sAt l)) [x] S=.ok (ups,S'))=>(by rw[List.map_append,vl,h];simp only[List.map_cons,List.map_nil];exact KE _ _ _ _:jo (x.k,x.i,x.o) ((pre++[j]).map (sAt l)) [x] S=QU S' ((sAt l j).1:Int) (Vt (sAt l j).2.1 (sAt l j).2.2 (Jp (x.k,x.i,x.o) (sAt l j).1 (sAt l j).2.1) ups) ups));obtain⟨s9,hs9⟩:∃ s9,sAt l j=s9:=⟨_,rfl⟩
    rw[hs9] at e9 e10 e11 hWO hDN;clear hs9;generalize us[j]?.getD usz=u9 at *;obtain⟨v9,sl9⟩:=u9;simp only at e9 e10 xg mJ;subst e10;obtain⟨lv,ys,pl⟩:=v9;simp only at e9 e11 xg hDN;rw[e9] at xg mJ ⊢;obtain⟨hWm,hWi,hWl,hCX,hCY,oO⟩:=hWO;simp only at hWm hWi hWl hCX hCY oO;obtain⟨ups,S',k',D',Au,cu,eY,bK,rD,tV,pU,rE,nZ,sU,yM,uF,bg⟩:=rO.ex;have hit:=(mJ.trans rO.kx fun q _ h=>h).its (Ql.refl (fun q=>q<w2.heap.size) W');rw[e11] at hit;obtain⟨many,hmy⟩:∃ many,Jp (x.k,x.i,x.o) lv ys=many:=⟨_,rfl⟩
    have hED:=many_ok (k:=(x.k,x.i,x.o)) (s:=(lv,ys,pl)) ⟨hWm,hWi,hWl,hCX,hCY,oO⟩;simp only at hED;rw[hmy] at hED hDN;have zx:w.heap.size+1<W'.heap.size:=(zG.1 rO.rx).1;have hDC:Hid ((pl=ys.length->many=0)/\(pl<ys.length->lv≠0->many=1)/\(∀ h:pl<ys.length,lv=0->many=if qo (ys[pl]'h)=(x.k,x.i,x.o) then 1 else 0)):=zH (by
     refine⟨fun h=>?_,fun h h1=>?_,fun h h1=>?_⟩
     ·have h0:lv=0:=by
       rcases Nat.eq_zero_or_pos lv with h0|h0
       ·exact h0
       ·have:=hCY h0;omega
      rw[<-hmy];unfold Jp;rw[if_pos ⟨h0,XK (by rw[<-oO h0];omega)⟩]
     ·rw[<-hmy];unfold Jp;rw[if_neg (fun hh=>h1 hh.1)]
     ·rw[<-hmy];unfold Jp;have hp:=oO h1;subst hp;rw[Kd h];by_cases hk:qo ys[qA ys (x.k,x.i,x.o)]=(x.k,x.i,x.o)
      ·rw[if_neg (by simp[hk]),if_pos hk]
      ·rw[if_pos ⟨h1,by simp[hk]⟩,if_neg hk])
    have hHP:=zH hit;have hAF:=zH mJ;have yZ:=zH rO;have hbcH:=zH bg;have hIO:=zH uF;have hAY:=zH sU;have hWiH:=zH hWi;have hBO:=zH nZ;have hgrH:=zH bK;have hHM:=zH rE;have hmyH:=zH hmy;have yj:=zH hWl;have rP:=zH hCX;have sN:=zH hED;have e11H:=zH e11;have hET:=zH (And.intro tV pU);have rUH:=zH yM;have hS'H:=zH rD;have hA:=hit.at_.2.2.2;replace hA:=zH hA;have rxW:=rO.rx;clear hit mJ rO bg uF sU hWm hWi hCY oO nZ bK rE hmy hWl hCX hED e11 tV pU yM rD hPI nP e9
    gi_upto_region 12 with fail
    gi_cut [69] from 44 (fun s wx=>s=.bool (decide (many=0))/\Ext W' wx)
    case first =>
     have g14:∀ W,qj.r W' W->∀ i,W.cell? ⟨t14,i,none⟩=#[.int .i64 (lv:Int),.slice A9 ys.length c9,.int .i64 (pl:Int)][i]?:=fun W h=>qa (qb xg h);by_cases bM:pl=ys.length
     ·have hm0:=zH (hDC.out.1 bM);have ee:((pl:Int) == (ys.length:Int))=true:=by rw[beq_iff_eq];omega
      clear bM;refine zY qj (qH []) (List.replicate 26 true) 0 (Vj l') zQ zQ zQ zQ zQ zQ zQ zQ zQ ?st (Rel.drew _ _) ?walk
      case st=>exact qk (fun _ h=>by cases h)
      case walk =>
       intro K hK;dsimp only[qu,List.replicate];refine zC5 ?_;refine qv (hK _ _ fun V hV hF=>?_);clear hF hK;have hV:Ext W' V:=hV;refine zC3 ?_
       gi_wp2_with fail
       gi_meet
       case rel=>exact⟨by rw[hm0.out];rfl,hV⟩
     ·have hlt:pl<ys.length:=by have:=rP.out;omega
      have ee:((pl:Int) == (ys.length:Int))=false:=by rw[beq_eq_false_iff_ne];omega
      by_cases hlv:lv=0
      ·have dJ:=hDC.out.2.2 hlt hlv;obtain⟨bi,off,rfl,hbi⟩:=hA.out zO;obtain⟨A',c',d0,d1,d2,d3,d4,-⟩:=hHP.out.item pl hlt;have gd0:∀ W,qj.r W' W->_:=fun W h=>Ext.cell h d0;have gd1:∀ W,qj.r W' W->_:=fun W h=>Ext.cell h d1;have gd2:∀ W,qj.r W' W->_:=fun W h=>Ext.cell h d2;have gx:∀ W,qj.r W' W->∀ i,W.cell? ⟨w.heap.size+1,i,none⟩=#[.int .u8 x.k,.int .u32 x.i,.int .u32 x.o,.int .i64 x.r,.slice Ax x.val.length cx][i]?:=fun W h=>qa (qb rxW h);generalize ys[pl]=y at *;subst hlv;clear d0 d1 d2 d3 d4;replace dJ:=zH dJ;replace bM:=zH bM;refine zY qj (qH []) (List.replicate 26 true) 0 (Vj l') zQ zQ zQ zQ zQ zQ zQ zQ zQ ?st (Rel.drew _ _) ?walk
       case st=>exact qk (fun _ h=>by cases h)
       case walk =>
        intro K hK;dsimp only[qu,List.replicate];refine zC5 ?_;refine qd (.bool (!decide (qo y=(x.k,x.i,x.o)))) zA0 zA0 (fun W hW _=>⟨W,?_,Rel.refl _ W⟩) ?_
        ·go_simp;exact key_ifn y x.k x.i x.o W
        refine zC5 ?_;refine qv (hK _ _ fun V hV hF=>?_);clear hF hK;have hV:Ext W' V:=hV;refine zC3 ?_
        gi_wp2_with fail
        gi_meet
        case rel =>refine⟨?_,hV⟩;rw[dJ.out];by_cases hk:qo y=(x.k,x.i,x.o) <;> simp[hk]
      ·have hm0:=zH (hDC.out.2.1 hlt hlv);have el:((lv:Int) == 0)=false:=by rw[beq_eq_false_iff_ne];omega
       replace hlv:=zH hlv;replace bM:=zH bM;refine zY qj (qH []) (List.replicate 26 true) 0 (Vj l') zQ zQ zQ zQ zQ zQ zQ zQ zQ ?st (Rel.drew _ _) ?walk
       case st=>exact qk (fun _ h=>by cases h)
       case walk =>
        intro K hK;dsimp only[qu,List.replicate];refine zC5 ?_;refine qv (hK _ _ fun V hV hF=>?_);clear hF hK;have hV:Ext W' V:=hV;refine zC3 ?_
        gi_wp2_with fail
        gi_meet
        case rel=>exact⟨by rw[hm0.out];rfl,hV⟩
    case rest =>
     obtain⟨rfl,xc⟩:=hcut;have hma:many=0\/many=1:=sN.out.1;clear hDC;have rc14:=qb xg xc;have hGR:=zH (yZ.out.ck (Qo.of_ext xc));have hitc:=zH (hHP.out.ext xc);have nT:ips.length=ys.length:=by rw[<-e11H.out,List.length_map]
     have hIS:eY.length=ups.length:=by rw[<-hHM.out,List.length_map]
     have one1:∀ u∈Qa ips,u.oneCell'=true:=qbs ips fun p hp=>by obtain⟨A,c,e⟩:=(hAF.out.2 p hp).1;rw[e];rfl
     have one2:∀ u∈Qa eY,u.oneCell'=true:=qbs eY fun p hp=>by obtain⟨A,c,e⟩:=(hAY.out p hp).1;rw[e];rfl
     have HCl:Hid (∀ W,Ext wc W->Calls prog 115 #[.slice A9 ys.length c9] W (Zg (fun u w'=>w'.ownsRow W.heap.size 51 5 u ys.length (Qa ips)) W)):=zH fun W hW=>by obtain⟨⟨A,c,e,_,_,hr⟩,_⟩:=hAF.out;rw[nT] at e hr;cases e;exact qgg A9 ys.length c9 (Qa ips) (by have:=yj.out;omega) one1 W (hr W ((hGR.out.kx).trans (Ql.of_ext hW) fun _ _ h=>h))
     have xX:=zH (Zx hIO.out fun q hq=>Below.block xc q (QP hIO.out q hq).2);have HRp:Hid (∀ (V:World) (Ac:OA) (cc:Nat),Ext wc V->V.ownsRow wc.heap.size 51 5 (.slice Ac ys.length cc) ys.length (Qa ips)->Calls prog 119 #[.slice Ac ys.length cc,.int .i64 (pl:Int),.int .i64 ((pl+many:Nat):Int),.slice Au ups.length cu] V (YX wc.heap.size (.slice Ac ys.length cc) (ys.length-many+ups.length) ((Qa ips).take (pl*5)++Qa eY++(Qa ips).drop ((pl+many)*5)) V)):=zH fun V Ac cc hV ho =>
      qgR wc.heap.size _ ys.length pl many (Qa ips) (.slice Au ups.length cu) ups.length 0 (Qa eY) V ho (Zx xX.out fun q hq=>Below.block hV q (QP xX.out q hq).2) (fun q hq nY=>by have h1:=(QP xX.out q hq).2;have h2:=(QP ho q nY).1;omega) hET.out.1 (by have:=yj.out;have:=hET.out.2;omega) sN.out.1 sN.out.2 one1 one2 hV.size
     have g14:∀ W,qj.r wc W->∀ i,W.cell? ⟨t14,i,none⟩=#[.int .i64 (lv:Int),.slice A9 ys.length c9,.int .i64 (pl:Int)][i]?:=fun W h=>qa (qb rc14 h);have gU:∀ W,qj.r wc W->∀ i,W.cell? ⟨w4.heap.size+1,i,none⟩=#[.slice Au ups.length cu][i]?:=fun W h=>qa (qb (qb rUH.out xc) h);have hw0:IntKind.i64.wrap (pl:Int)=(pl:Int):=by rw[IntKind.wrap_i64];have:=rP.out;have:=yj.out;omega
     have aA:IntKind.i64.wrap ((pl:Int)+1)=(pl:Int)+1:=by rw[IntKind.wrap_i64];have:=rP.out;have:=yj.out;omega
     have hmyK:=hmyH;replace nT:=zH nT;replace hIS:=zH hIS;have hFS:=sN;clear sN hmyK;obtain⟨its,aK⟩:∃ its,its=Vt ys pl many ups:=⟨_,rfl⟩
     have hiE:ys.length-many+ups.length=its.length:=by rw[aK];unfold Vt;simp only[List.length_append,List.length_take,List.length_drop];have h3:=rP.out;have h4:=hFS.out.2;omega
     have hil:its.length<=100/\0<its.length:=by rw[<-hiE];have h5:=yj.out;have h6:=hET.out;omega
     replace hiE:=zH hiE;rcases hma with rfl|rfl
     all_goals
      gi_upto_region 14 with fail
      refine zY qj (qH [(3,qbe wc.heap.size ys.length (Qa ips))]) (List.replicate 11 true) 2 (Vj l') zQ zQ zQ zQ zQ zQ zQ zQ zQ ?st (Rel.drew _ _) ?walk
      case st=>exact qk (by simp only[List.forall_mem_cons];exact⟨qbX _ _ _,fun _ h=>by cases h⟩)
      case walk =>
       intro K hK;dsimp only[qu,List.replicate];refine zC5 ?_;refine qy (qbe wc.heap.size ys.length (Qa ips)) zA0 zA0 (fun W hW _=>?_) (fun p=>?_)
       ·have au:Ext wc W:=hW;refine Qi ?_ ((HCl.out W au).mono fun e w' h=>?_)
        ·go_simp
        obtain⟨u,rfl,hu,hB⟩:=h;obtain⟨Ac,cc,rfl,_,_⟩:=qE hu;exact⟨(Ac,cc),rfl,QJ hu au.size,hB⟩
       obtain⟨Ac,cc⟩:=p;refine zC5 ?_;refine qv (hK _ _ fun V hV hF=>?_);have hoV:V.ownsRow wc.heap.size 51 5 (.slice Ac ys.length cc) ys.length (Qa ips):=(hF 3).1;clear hF hK g14 gU;have hV:Ext wc V:=hV;refine zC3 ?_;have HR:=zH (HRp.out V Ac cc hV hoV);clear HRp HCl
       gi_wp2_with fail
       refine⟨trivial,(CallsIn.inRound _ (callsIn_wide.2 HR.out)).mono ?_⟩;clear HR;rintro e w9 ⟨v9,rfl,ho9,hB9,-⟩;have x9:Ext wc w9:=Below.trans hV hB9;have x19:Ext W' w9:=xc.trans x9;clear hB9 hoV;have rQ:=Bch.ext hbcH.out x19;obtain⟨lV,-,xP,-,-,-,wG⟩:=rQ.size;have pg:∀ q,B3 b g k' q->w5.heap.size<=q:=fun q hq=>by
        rcases hq with rfl|rfl|e
        ·exact lV
        ·exact xP
        ·exact(wG q e).1
       rw[qae,<-qad,<-vL,<-vL] at ho9;have s25:w.heap.size<=w5.heap.size:=x5.size;have hX9:=kM.of_own (X:=B3 b g k') ho9 (by
        have h1:=nT.out;have h2:=hIS.out;have h3:=rP.out;have h4:=hFS.out.2;simp only[List.length_append,List.length_take,List.length_drop];omega) (fun q hq=>by
        obtain⟨cur,hc⟩:=jh ho9 hq;exact rQ.notB3 hc zD zD zD) (fun p hp=>by
        have hI:∀ p∈ips,(∃ A c,p.2=.slice A p.1.val.length c)/\∀ C,Ql (B3 b g k') w9 C->Bys C C.heap.size p.2 p.1.val:=fun p hp=>⟨(hAF.out.2 p hp).1,fun C hC=>(hAF.out.2 p hp).2 C ((yZ.out.kx.trans (Ql.of_ext (X:=fun q=>q<w2.heap.size) x19) fun _ _ h=>h).trans hC fun q h1 h2=>by have:=pg q h2;omega)⟩
        rcases List.mem_append.1 hp with hp|hp
        ·rcases List.mem_append.1 hp with hp|hp
         ·exact hI p (List.mem_of_mem_take hp)
         ·exact⟨(hAY.out p hp).1,fun C hC=>((hAY.out p hp).2).keepX ((Ql.of_ext (X:=B3 b g k') x19).trans hC fun _ _ h=>h) fun q h1 h2=>by have:=pg q h2;omega⟩
        ·exact hI p (List.mem_of_mem_drop hp))
       have hrpl:∀ m,(List.map (·.1) (ips.take pl++eY++ips.drop (pl+m)))=Vt ys pl m ups:=fun m=>by unfold Vt;rw[List.map_append,List.map_append,List.map_take,List.map_drop,e11H.out,hHM.out]
       rw[hrpl] at hX9;clear hrpl;obtain⟨A8,c8,rfl,-,-⟩:=qE ho9;have hoU9:=Zx xX.out fun q hq=>Below.block x9 q (QP xX.out q hq).2;have sG:=hDN.out _ _ hgrH.out;rw[<-aK] at hX9 sG;have fQ:∀ y∈its,zu y:=fun y hy=>by
        rw[aK] at hy;unfold Vt at hy;rcases List.mem_append.1 hy with hy|hy
        ·rcases List.mem_append.1 hy with hy|hy
         ·exact(hWiH.out y (List.mem_of_mem_take hy)).1
         ·exact(hBO.out y hy).1
        ·exact(hWiH.out y (List.mem_of_mem_drop hy)).1
       have hioH:=zH fQ;have HBd:=zH (qdi D' w.heap.size w5.heap.size b g k' S' hS'H.out (lv:Int) A8 _ c8 its fQ hil.2 hil.1 0 (.slice Au ups.length cu) eY ups hHM.out (fun p hp=>(hAY.out p hp).1) (fun y hy=>(hBO.out y hy).2) (by have:=hET.out.2;omega) w9 rQ hX9 hoU9);rw[hiE.out] at HBd ⊢;have eG:=zH (hGR.out.ck (Qo.of_ext x9));have hr9:=qb rc14 x9;have k14:=qa hr9;have rU9:=qb rUH.out x19;have kU:=qa rU9;have kT:=qa eG.out.rT;have k4:=qa eG.out.r4;replace aK:=zH aK;clear hX9 fQ ho9 hAF hHP hitc hAY hIO xX hA rc14 xg
       gi_wp2_with fail
       refine⟨trivial,(CallsIn.inRound _ (callsIn_wide.2 HBd.out)).mono ?_⟩;clear HBd;intro e w10 hbq;obtain⟨dU,aP⟩:=hbq.split;clear hbq;have nB:∀ {q cs ty fr},w9.heap[q]?=some (.cells cs ty fr)->ty≠223->ty≠5->ty≠142->¬B3 b g k' q:=fun hr h1 h2 h3=>rQ.notB3 hr h1 h2 h3;have rU10:=dU.row rU9 (nB rU9 zD zD zD);have rT10:=dU.row eG.out.rT (nB eG.out.rT zD zD zD);have r410:=dU.row eG.out.r4 (nB eG.out.r4 zD zD zD);have r310:=dU.row eG.out.r3 (nB eG.out.r3 zD zD zD);have r210:=dU.row eG.out.r2 (nB eG.out.r2 zD zD zD);have rx10:=dU.row eG.out.rx (nB eG.out.rx zD zD zD);have rS10:=dU.row eG.out.rS (nB eG.out.rS zD zD zD);have hko:=(KeepsOthers.of_ext x19).trans (rQ.others dU);have fD:=(i4.trans (Below.mono x19 i4.size)).trans (Below.mono dU.below s25);have hAI:=dU.keepX;have hk7:=dU.row eG.out.rS (nB eG.out.rS zD zD zD);have hkr:=fun q (h:q<w5.heap.size)=>dU.rows q (by have:=rQ.size.2.2.2.2.2.1;omega) fun hx=>by have:=pg q hx;omega
       have hDW:=eG.out.kx;clear dU eG rU9 kU kT k4 k14;rcases aP with ⟨er,oU,rfl⟩|⟨up2,S2,k2,D2,A2',c2',oU,rfl,hNk,hND,fH,yc,dG⟩
       ·have hga:=zH (sG.trans oU.out);have hne0:(er != 0)=true:=by rw[bne_iff_ne];exact Yd oU.out
        have kU10:=qa rU10;have k410:=qa r410;have fU10:=qe rU10;have f410:=qe r410;replace hko:=zH hko;replace fD:=zH fD;clear sG hAI hk7 hkr hDW nB oU rT10 rx10 rS10 rQ
        gi_upto_region 17 with fail
        generalize nD:World.setCell (World.setCell w10 _ _) _ _=w11;obtain⟨t1,t2,t3,t4,t5,t6⟩:=Ga (C:=w11) rU10 r410 zO nD.symm;clear nD kU10 k410 fU10 f410;have gE:∀ W,qj.r w11 W->∀ i,W.cell? ⟨w.heap.size+1+1+1+1,i,none⟩=#[.int .i64 er][i]?:=fun W h=>qa (qb t2 h);have q2:=(t3 (w.heap.size+2) zO zO).trans r210;have q3:=(t3 (w.heap.size+3) zO zO).trans r310;refine zY qj (qH [(2,ZT),(3,ZT)]) (List.replicate 4 true) 1 (Vj l') zQ zQ zQ zQ zQ zQ zQ zQ zQ ?st (Rel.drew _ _) ?walk
        case st=>exact qk (by simp only[List.forall_mem_cons];exact⟨ZG,ZG,fun _ h=>by cases h⟩)
        case walk =>
         intro K hK;dsimp only[qu,List.replicate];refine zC5 ?_;refine qy ZT zA0 zA0 (fun V hV _=>?_) (fun (p:Unit)=>?_)
         ·have hV:Ext w11 V:=hV;have q8:=qb q2 hV;have k8:=qa q8;have f8:=qe q8;refine Ja ?_ (same4 q8);go_simp
         refine zC5 ?_;refine qy ZT zA0 zA0 (fun V hV _=>?_) (fun (p:Unit)=>?_)
         ·have hV:Ext w11 V:=hV;have q8:=qb q3 hV;have k8:=qa q8;have f8:=qe q8;refine Ja ?_ (same1 q8);go_simp
         refine zC5 ?_;refine qv (hK _ _ fun V hV hF=>?_);clear hF hK gE;have hV:Ext w11 V:=hV;refine zC3 ?_;have q2V:=qb q2 hV;have q3V:=qb q3 hV;have q4V:=qb t2 hV;have ke:=qa q4V;have fe:=qe q4V;have zV:=hV.size;have z11:w.heap.size+4<w11.heap.size:=(zG.1 t2).1;have zc:w.heap.size+1+1<V.heap.size:=zO;have zd:w.heap.size+1+1+1<V.heap.size:=zO
         gi_wp2_with fail
         have yg:=hV.trans (same1 q4V);exact⟨((hko.out.trans t5).trans (KeepsOthers.of_ext yg)).from _,⟨er,_,rfl,hga.out,⟨qb q2 yg,qb q3 yg,qb t2 yg⟩,Qo.refl _⟩,(t6 zO zO fD.out).trans (Below.mono yg zO)⟩
       ·have hga:=zH (sG.trans oU.out);obtain⟨-,tX,nC⟩:=Ye hioH.out (fun y hy=>(hBO.out y hy).2) hS'H.out oU.out;have kU10:=qa rU10;have k410:=qa r410;have fU10:=qe rU10;have f410:=qe r410;replace hko:=zH hko;replace fD:=zH fD;have hKS:=zH (rS10.trans yZ.out.rS.symm);have zW7:w7.heap.size<W'.heap.size:=(zG.1 yZ.out.rS).1;have z67:=x67.size;have z19:=x19.size;have hKb:=zH ((hkr b2 zO).trans (x19.block b2 zO));replace tX:=zH tX;replace nC:=zH nC;replace fH:=zH fH;replace dG:=zH dG;replace hDW:=zH (hDW.trans hAI fun q hq hx=>by have:=pg q hx;omega);clear sG hAI hk7 hkr nB oU rQ pg yZ hGR
        gi_wp2_with fail
        generalize nD:World.setCell (World.setCell w10 _ _) _ _=w11;obtain⟨t1,t2,t3,t4,t5,t6⟩:=Ga (C:=w11) rU10 r410 zO nD.symm;clear nD kU10 k410 fU10 f410;refine⟨(hko.out.trans t5).from _,⟨(t3 _ zO zO).trans hKS.out,(t3 _ zO hne4).trans hKb.out⟩,⟨w11,?_,Qo.refl _⟩,t6 zO zO fD.out⟩;refine⟨⟨up2,S2,k2,D2,A2',c2',upV up2,hga.out,yc.out,tX.out.1,tX.out.2,?_,fun y hy=>⟨(nC.out y hy).1,.inr (nC.out y hy).2.1.1,(nC.out y hy).2.1.2⟩,fun p hp=>?_,t1,Zx (QJ dG.out (Nat.zero_le _)) (fun q hq=>t3 q ?_ ?_),fH.out.kept (t6 zO zO (Below.refl _ _)) fun q h _=>t3 q zO zO⟩,(t3 _ zO zO).trans rx10,(t3 _ zO zO).trans r210,(t3 _ zO zO).trans r310,t2,(t3 _ zO zO).trans rT10,(t3 _ zO zO).trans rS10,?_⟩
        ·unfold upV;rw[List.map_map];exact List.map_id' _
        ·obtain⟨y,hy,rfl⟩:=List.mem_map.1 hp;have hv:=(nC.out y hy).2.2;simp only[hv];exact⟨⟨none,0,rfl⟩,none,0,rfl,zM _,zA6,Rd.none_⟩
        ·have:=(QP dG.out q hq).1;omega
        ·have:=(QP dG.out q hq).1;omega
        ·exact hDW.out.trans (Ql.of_heap (X:=fun q=>q=w4.heap.size+1\/q=w.heap.size+4) fun k _ hX=>t3 k (fun e=>hX (.inl e)) fun e=>hX (.inr e)) fun k hk hx=>zO
   case done =>
    rintro D ys W hD eQ ⟨⟨Wb,hPI,nP⟩,i4⟩ hK;subst nO;have rO:=hPI.ck nP;obtain⟨ups,S',k',D',Au,cu,eY,bK,rD,tV,pU,rE,nZ,sU,yM,uF,bg⟩:=rO.ex;rw[eQ,lY,qgW l l.length (zM _),List.take_of_length_le zA2] at bK;have hGC:Hid (GJ S lvl xs x=if 1<ups.length then QU S' ((l.length:Nat):Int) ups ups else .ok (ups,S')):=zH (by rw[hAX.out,bK]);clear hAX bK;have rU:=i4;have z8:=x8.size;have zz8:w.heap.size+4<w8.heap.size:=(zG.1 hI0.out.r4).1;have zUW:w4.heap.size+1<W.heap.size:=(zG.1 yM).1;have kU:=qa yM;have kT:=qa rO.rT;have hcc:=(qE uF)
    replace bg:=zH bg;replace uF:=zH uF;replace rE:=zH rE;replace sU:=zH sU;replace nZ:=zH nZ;replace rD:=zH rD;replace pU:=zH (And.intro tV pU);have rW2:=rO.r2;have rW3:=rO.r3;have rW4:=rO.r4;have rWT:=rO.rT;replace eQ:=zH eQ;clear tV rO hPI nP hDP hcc;go_upto_if 98 with fail;go_cut [] from 96 (fun wx=>PutD (GJ S lvl xs x) w.heap.size w5.heap.size b g (w4.heap.size+1) w6.heap.size D w wx)
    case first =>
     by_cases h2:1<ups.length
     case neg =>
      have e1:decide ((1:Int)<(ups.length:Int))=false:=decide_eq_false zO;have e3:¬((1:Int)<(ups.length:Int)):=zO;have nJ:=zH (show GJ S lvl xs x=.ok (ups,S') by rw[hGC.out,if_neg h2]);replace h2:=zH h2;go_wp2_with fail;go_meet
      case rel=>exact⟨⟨ups,S',k',D',Au,cu,eY,nJ.out,rD.out,pU.out.1,rE.out,yM,uF.out,bg.out,fun y hy=>(nZ.out y hy).2⟩,rW2,rW3,rW4,rWT,hK,rU⟩
     case pos =>
      have e3:(1:Int)<(ups.length:Int):=zO;have e4:¬(ups.length:Int)<=1:=zO;have nJ:=zH (show GJ S lvl xs x=QU S' ((l.length:Nat):Int) ups ups by rw[hGC.out,if_pos h2]);have bM:eY.length=ups.length:=by rw[<-rE.out,List.length_map]
      have iG:∀ q,(Value.slice Au ups.length cu).ownBlock=some q->¬B3 b g k' q:=fun q hq=>by obtain⟨cur,hc⟩:=jh uF.out hq;exact bg.out.notB3 hc zD zD zD
      have pg:∀ q,B3 b g k' q->w5.heap.size<=q:=fun q hq=>(bg.out.b3 q hq).1;have hX:=kM.of_own (X:=B3 b g k') uF.out bM iG (fun p hp=>⟨(sU.out p hp).1,fun C hC=>(sU.out p hp).2.keepX hC fun q h1 hq=>by have:=pg q hq;omega⟩);rw[rE.out] at hX;have HBd:=zH (qdi D' w.heap.size w5.heap.size b g k' S' rD.out ((l.length:Nat):Int) Au _ cu ups (fun y hy=>(nZ.out y hy).1) pU.out.1 (by have:=pU.out.2;omega) 0 (.slice Au ups.length cu) eY ups rE.out (fun p hp=>(sU.out p hp).1) (fun y hy=>(nZ.out y hy).2) (by have:=pU.out.2;omega) W bg.out hX uF.out);replace h2:=zH h2;clear hX bM;go_wp2_with fail;refine HBd.out.mono ?_;clear HBd;intro e w10 hbq;obtain⟨dU,aP⟩:=hbq.split;clear hbq;have nB:∀ {q cs ty fr},W.heap[q]?=some (.cells cs ty fr)->ty≠223->ty≠5->ty≠142->¬B3 b g k' q:=fun hr h1 h2 h3=>bg.out.notB3 hr h1 h2 h3;have rU10:=dU.row yM (nB yM zD zD zD);have rT10:=dU.row rWT (nB rWT zD zD zD);have r410:=dU.row rW4 (nB rW4 zD zD zD);have r310:=dU.row rW3 (nB rW3 zD zD zD);have r210:=dU.row rW2 (nB rW2 zD zD zD);have wZ:=(bg.out.others dU).same D _ hK rfl;have s25:w.heap.size<=w5.heap.size:=x5.size;have fD:=rU.trans (Below.mono dU.below s25);have kU10:=qa rU10;have k410:=qa r410;have fU10:=qe rU10;have f410:=qe r410;have zU:w4.heap.size+1≠w.heap.size+4:=by have:=z8;omega
      have zz:w.heap.size+4<D:=zO;replace fD:=zH fD;clear kU kT nB dU rU;rcases aP with ⟨er,oU,rfl⟩|⟨up2,S2,k2,D2,A2',c2',oU,rfl,hNk,hND,fH,yc,dG⟩
      ·have sV:=zH (show q=.error er by rw[nY.out,nJ.out,oU.out]);have hne0:(er != 0)=true:=by rw[bne_iff_ne];exact Yd oU.out
       clear oU nJ nY;go_upto_region 21 with fail;generalize nD:World.setCell (World.setCell w10 _ _) _ _=w11;obtain⟨t1,t2,t3,t4,t5,t6⟩:=Ga (C:=w11) rU10 r410 zU nD.symm;clear nD kU10 k410 fU10 f410;have gE:∀ W,qj.r w11 W->∀ i,W.cell? ⟨w.heap.size+1+1+1+1,i,none⟩=#[.int .i64 er][i]?:=fun W h=>qa (qb t2 h);have q2:=(t3 (w.heap.size+2) zO zO).trans r210;have q3:=(t3 (w.heap.size+3) zO zO).trans r310;have qK:=t5.same D _ wZ rfl;refine qp zQ ?_;refine qQ (w:=w11) qj (qH [(2,ZT),(3,ZT)]) (List.replicate 4 true) 1 zQ zQ zQ zQ zQ zQ zQ ?st (Rel.drew _ _) ?walk
       case st=>exact qk (by simp only[List.forall_mem_cons];exact⟨ZG,ZG,fun _ h=>by cases h⟩)
       case walk =>
        intro K hK;dsimp only[qu,List.replicate];refine zC5 ?_;refine qy ZT zA0 zA0 (fun V hV _=>?_) (fun (p:Unit)=>?_)
        ·have hV:Ext w11 V:=hV;have q8:=qb q2 hV;have k8:=qa q8;have f8:=qe q8;refine Ja ?_ (same4 q8);go_simp
        refine zC5 ?_;refine qy ZT zA0 zA0 (fun V hV _=>?_) (fun (p:Unit)=>?_)
        ·have hV:Ext w11 V:=hV;have q8:=qb q3 hV;have k8:=qa q8;have f8:=qe q8;refine Ja ?_ (same1 q8);go_simp
        refine zC5 ?_;refine qv (hK _ _ fun V hV hF=>?_);clear hF hK gE;have hV:Ext w11 V:=hV;refine zC3 ?_;have q4V:=qb t2 hV;have ke:=qa q4V;have fe:=qe q4V;go_wp2;refine Qr ?_;go_wp2_with fail;have yg:=hV.trans (same1 q4V);have z11:w.heap.size+4<w11.heap.size:=(zG.1 t2).1;have qKV:=qb qK yg;exact UT rfl rfl rfl rfl qKV zz (qb q2 yg) (qb q3 yg) (qb t2 yg) ⟨_,rfl,by rw[sV.out];rfl,((t6 zO zO fD.out).trans (Below.mono yg zO)).trans (belowK_b (w:=w) (zM _) _ D _ _ zO qKV rfl rfl)⟩
      ·have hq4:=zH (nJ.out.trans oU.out);obtain⟨-,tX,nC⟩:=Ye (fun y hy=>(nZ.out y hy).1) (fun y hy=>(nZ.out y hy).2) rD.out oU.out;replace tX:=zH tX;replace nC:=zH nC;replace fH:=zH fH;replace dG:=zH dG;clear oU nJ;go_wp2_with fail;go_meet
       case rel =>
        generalize nD:World.setCell (World.setCell w10 _ _) _ _=w11;obtain⟨t1,t2,t3,t4,t5,t6⟩:=Ga (C:=w11) rU10 r410 zU nD.symm;clear nD;have zT:w6.heap.size≠w4.heap.size+1/\w6.heap.size≠w.heap.size+4:=by have:=x45.size;omega
        refine⟨⟨up2,S2,k2,D2,A2',c2',upV up2,hq4.out,yc.out,tX.out.1,?_,t1,Zx (QJ dG.out (Nat.zero_le _)) (fun q hq=>t3 q ?_ ?_),fH.out.kept (t6 zO zO (Below.refl _ _)) fun q h _=>t3 q zO zO,fun y hy=>⟨.inr (nC.out y hy).2.1.1,(nC.out y hy).2.1.2⟩⟩,(t3 _ zO zO).trans r210,(t3 _ zO zO).trans r310,t2,(t3 _ zT.1 zT.2).trans rT10,t5.same D _ wZ rfl,t6 zO zO fD.out⟩
        ·unfold upV;rw[List.map_map];exact List.map_id' _
        ·have:=(QP dG.out q hq).1;omega
        ·have:=(QP dG.out q hq).1;have:=(zG.1 rW4).1;omega
    case rest =>
     obtain⟨⟨ups,S',k',D',Au,cu,eY,nJ,rD,tV,rE,yM,uF,bg,hEU⟩,rW2,rW3,rW4,rWT,hK,rU⟩:=hcut;have HL:=zH (qbo D' w.heap.size w5.heap.size b g k' S' rD a ha ak wc bg);have hq5:=zH (show q=match QH S' (-1) S'.now a with
      |none=>.error 8
      |some t=>.ok (YB ups,qw S' t) by rw[nY.out,nJ] <;> rfl)
     have kT:=qa rWT;replace nJ:=zH nJ;replace rE:=zH rE;replace uF:=zH uF;replace bg:=zH bg;replace hEU:=zH hEU;go_wp2_with fail;refine HL.out.mono ?_;clear HL;rintro e w10 ⟨dU,aP⟩;have nB:∀ {q cs ty fr},wc.heap[q]?=some (.cells cs ty fr)->ty≠223->ty≠5->ty≠142->¬B3 b g k' q:=fun hr h1 h2 h3=>bg.out.notB3 hr h1 h2 h3;have rU10:=dU.row yM (nB yM zD zD zD);have rT10:=dU.row rWT (nB rWT zD zD zD);have r410:=dU.row rW4 (nB rW4 zD zD zD);have r310:=dU.row rW3 (nB rW3 zD zD zD);have r210:=dU.row rW2 (nB rW2 zD zD zD);have wZ:=(bg.out.others dU).same D _ hK rfl;have s25:w.heap.size<=w5.heap.size:=x5.size;have fD:=rU.trans (Below.mono dU.below s25);have hAR:=dU.own uF.out (fun q hq=>by obtain⟨cur,hc⟩:=jh uF.out hq;exact nB hc zD zD zD);have zz:w.heap.size+4<D:=by have:=z8;omega
     have z10:w.heap.size+4<w10.heap.size:=(zG.1 r410).1;have zlo:w.heap.size+4<w5.heap.size:=zO;replace fD:=zH fD;clear nB dU rU kT yM rWT rW4 rW3 rW2 hK uF;rcases hlv:QH S' (-1) S'.now a with _|t
     ·rw[hlv] at aP;obtain rfl:=aP;have sV:=zH (show q=.error 8 by rw[hq5.out,hlv]);have kc:=qa r210;have kd:=qa r310;have ke:=qa r410;have fc:=qe r210;have fd:=qe r310;have fe:=qe r410;replace hlv:=zH hlv;clear hq5;go_wp2_with fail;obtain⟨g4,g5,g6,hb,-,hk,-⟩:=qce r210 r310 r410 rfl;have qK:=(hk D zO).trans wZ;exact UT rfl rfl rfl rfl qK zz g4 g5 g6 ⟨_,rfl,by rw[sV.out];rfl,(hb zO fD.out).trans (belowK_b (w:=w) (zM _) _ D _ _ zO qK rfl rfl)⟩
     ·rw[hlv] at aP;obtain⟨rfl,fH⟩:=aP;have sV:=zH (show q=.ok (YB ups,qw S' t) by rw[hq5.out,hlv]);have dw:GZ (qw S' t):=QV (UG rD (Yq ha (qG.1 rD).2.1 hlv));replace hlv:=zH hlv;clear hq5;go_upto_region 25 with fail;obtain⟨bu,ou,rfl,hbu,hcu⟩:=(Rd.of_own hAR).2 tV;obtain⟨cur,hcur⟩:=jh hAR (q:=bu) rfl;have hbu2:bu≠w.heap.size+2:=qU hcur r210 zD;have bM:0<eY.length:=by have:=congrArg List.length rE.out;rw[List.length_map] at this;omega
      have hcr:w10.cell? ⟨bu,ou+3,none⟩=some (.int .i64 (YB ups:Int)):=by
       obtain⟨-,-,-,g3,-⟩:=vD eY 0 bM;have h1:=hcu _ _ g3;have h2:eY[0].1.r=(YB ups:Int):=by
        obtain⟨y,ys,hy⟩:∃ y ys,ups=y :: ys:=by
         cases ups with
         |nil=>simp at tV
         |cons y ys=>exact⟨y,ys,rfl⟩
        have h3:eY[0].1=y:=by
         have h4:(eY.map (·.1))[0]?=ups[0]?:=by rw[rE.out]
         rw[List.getElem?_map,zL bM,hy] at h4;simpa using h4
        have h5:=hEU.out y (by rw[hy];exact List.mem_cons_self);rw[h3,hy];show y.r=((y.r.toNat:Nat):Int)
        omega
       rw[h2] at h1;exact h1
      have hHS:=zH (fun W (h:(vI (w.heap.size+2) 28 (jt w10.heap.size (qw S' t)) (jt.keep zO)).r w10 W)=>by have h1:=fH.kept (UX h (B0:=w.heap.size) zO zO) (fun q h1 h2=>UY h h2 zO);obtain⟨A1,n1,c1,A2,n2,c2,c3,A4,c4,hr,hs⟩:=h1.sto;exact Yc b A1 n1 c1 A2 n2 c2 _ _ c3 A4 _ c4 (qw S' t) dw W hr hs);have hDY:w.heap.size+2<w10.heap.size:=zO;obtain⟨RR,bJ⟩:∃ RR:Rel,RR=vI (w.heap.size+2) 28 (jt w10.heap.size (qw S' t)) (jt.keep hDY):=⟨_,rfl⟩
      replace bJ:=zH bJ;obtain⟨SF,hSF⟩:∃ SF,qw S' t=SF:=⟨_,rfl⟩
      rw[hSF] at sV fH dw hHS bJ;replace hSF:=zH hSF;obtain⟨rF,hrF⟩:∃ rF,YB ups=rF:=⟨_,rfl⟩
      rw[hrF] at sV hcr;have gT:∀ W,RR.r w10 W->∀ i,W.cell? ⟨w6.heap.size,i,none⟩=#[.pointer (some ⟨b,0,none⟩)][i]?:=fun W h=>qa (ku (bJ.out ▸ h) zO rT10);have gU:∀ W,RR.r w10 W->∀ i,W.cell? ⟨w4.heap.size+1,i,none⟩=#[.slice (some ⟨bu,ou,none⟩) ups.length cu][i]?:=fun W h=>qa (ku (bJ.out ▸ h) zO rU10);have gC:∀ W,RR.r w10 W->W.cell? ⟨bu,ou+3,none⟩=some (.int .i64 (rF:Int)):=fun W h=>by have h:(vI _ _ _ _).r w10 W:=bJ.out ▸ h;exact World.grownBy.cell h.1 hcr (fun x=>hbu2 (by simpa using x))
      clear hcur hcu hcr bM rE hEU hAR hrF;refine qp zQ ?_;refine qQ (w:=w10) RR (qH [(1,outTw w10.heap.size SF),(6,XN (w.heap.size+2) 28 (jt w10.heap.size SF))]) (List.replicate 7 true) 2 zQ zQ zQ zQ zQ zQ zQ ?st (Rel.drew _ _) ?walk
      case st=>rw[bJ.out];exact qk (by simp only[List.forall_mem_cons];exact⟨qcQ hDY,qbY,fun _ h=>by cases h⟩)
      case walk =>
       intro K hK;dsimp only[qu,List.replicate];refine zC5 ?_;refine qy (outTw w10.heap.size SF) zA0 zA0 (fun W hW _=>?_) (fun p=>?_)
       ·rw[bJ.out] at hW ⊢;refine Qi ?_ ((hHS.out W hW).mono fun e w' h=>?_)
        ·go_simp
        obtain⟨v,rfl,hT,hB⟩:=h;obtain⟨BB,WW,gg,A3',c3',A4',c4',rfl,-⟩:=id hT;exact⟨((BB,WW),(A3',c3'),(A4',c4')),rfl,QM.keep hT hW.1.size (zM _) (fun _ _ _=>rfl),qiF hB⟩
       obtain⟨⟨BB,WW⟩,⟨A3',c3'⟩,⟨A4',c4'⟩⟩:=p;refine zC5 ?_;refine qy (XN (w.heap.size+2) 28 (jt w10.heap.size SF)) zA0 zA0 (fun W hW hp=>?_) (fun (p:Unit)=>?_)
       ·have hT:QM w10.heap.size SF (Qe (some ⟨BB,0,none⟩) SF.bs.length SF.bs.length (some ⟨WW,0,none⟩) SF.ws.length (SF.ws.length+1) A3' SF.now.length c3' A4' SF.last.length c4') W:=(hp 1 zD).1;rw[bJ.out] at hW ⊢;have hr0:=twin_own hDY hW r210;obtain⟨u0,u1,u2,u3,q8⟩:=id hr0;have k8:=qa q8;have f8:=qe q8;refine qgd hDY hr0 hT ?_;clear hT hr0;go_simp
       refine zC5 ?_;refine qv (hK _ _ fun V hV hF=>?_);have hRT:∃ cs,V.heap[w.heap.size+2]?=some (.cells cs 28 (0,0))/\jt w10.heap.size SF cs V:=(hF 6).1;clear hF hK gT gU gC hHS;rw[bJ.out] at hV;obtain⟨cs,q2,x0,x1,x2,x3,rfl,uP⟩:=hRT;have q3:=ku hV (show w.heap.size+3≠w.heap.size+2 by omega) r310;have q4:=ku hV (show w.heap.size+4≠w.heap.size+2 by omega) r410;have qK:=ku hV (show D≠w.heap.size+2 by omega) wZ;have xV:=UX hV (B0:=w.heap.size) zO zO;have zV:=hV.1.size;have kd:=qa q3;have ke:=qa q4;have fd:=qe q3;have fe:=qe q4;have zd:w.heap.size+1+1+1<V.heap.size:=zO;replace uP:=zH uP;clear hV bJ;refine zC3 ?_;go_wp2;refine Qr ?_;go_wp2_with fail;generalize aY:World.setCell (World.setCell V _ _) _ _=wf;obtain⟨t1,t2,t3,t4,t5,t6⟩:=Ga (C:=wf) q3 q4 zO aY.symm;clear aY;have qKf:=t5.same D _ qK rfl;refine UT rfl rfl rfl rfl qKf zz ((t3 _ zO zO).trans q2) t1 t2 ⟨_,rfl,?_,(t6 zO zO (fD.out.trans xV)).trans (belowK_b (w:=w) (zM _) _ D _ _ zO qKf rfl rfl)⟩;rw[sV.out];refine⟨_,rfl,QM.keep uP.out zO (by simp[World.putObj,t4]) fun k h1 h2=>?_⟩;exact(World.putObj_heap_other (by have:=(zG.1 wZ).1;omega)).trans (t3 k zO zO)
   case stop =>
    rintro D cc pre W hD ⟨kk,hkk,rfl⟩ ⟨⟨er,Wb,rfl,hgx,⟨g4,g5,g6⟩,hCK⟩,hB⟩ hK;rw[lY] at hkk hgx;rw[qgW l kk hkk] at hgx;have sV:=zH (show q=.error er by rw[nY.out,hAX.out,qhU hgx]);subst nO;have zz:w.heap.size+4<w8.heap.size:=(zG.1 hI0.out.r4).1
    gi_wp2_with fail
    have rU:Below w.heap.size w (W.putObj D (.deferred none)):=hB.trans (belowK_b (w:=w) (zM _) W D _ _ zO hK rfl rfl);exact UT rfl rfl rfl rfl hK zO (hCK.row g4) (hCK.row g5) (hCK.row g6) ⟨_,rfl,by rw[sV.out];rfl,rU⟩
end Go.Proofs.YtmeadnlmepcmbaaGreat
namespace Go.Proofs.YtmeadnlmepcmbaaGreat
open Go.RowKit
def jp:List Oper->Nat->Nat->List Oper
 | [],_,_=>[]
 |o :: l,0,z=>{ o with after:=o.after.push { on:=z,ground:=.data } } :: l
 |o :: l,j+1,z=>o :: jp l j z
theorem VJ:∀ (l:List Oper) (j z i:Nat),(jp l j z)[i]?=if i=j then (l[i]?).map (fun o=>{ o with after:=o.after.push { on:=z,ground:=.data } }) else l[i]?
 | [],j,z,i=>by simp[jp]
 |o :: l,0,z,i=>by
  cases i with
  |zero=>simp[jp]
  |succ i=>simp[jp]
 |o :: l,j+1,z,i=>by
  cases i with
  |zero=>simp[jp]
  |succ i =>
   simp only[jp,List.getElem?_cons_succ];rw[VJ l j z i];by_cases h:i=j
   ·subst h;simp
   ·rw[if_neg h,if_neg zO]
theorem Uw {l:List Oper} {j z i:Nat} (h:i≠j):(jp l j z).toArray[i]?=l.toArray[i]?:=by simp only[List.getElem?_toArray];rw[VJ,if_neg h]
theorem qgl {l:List Oper} {j z:Nat} {o:Oper} (h:l.toArray[j]?=some o):(jp l j z).toArray[j]?=some { o with after:=o.after.push { on:=z,ground:=.data } }:=by simp only[List.getElem?_toArray] at h ⊢;rw[VJ,if_pos rfl,h];rfl
theorem Jb {l:List Oper} {j z i:Nat} {listed:Array Bool}:i∈Region.ready .any (jp l j z).toArray listed↔i∈Region.ready .any l.toArray listed/\(i=j->listed.getD z false=true):=by
 rw[mem_ready,mem_ready];by_cases h:i=j
 ·subst h;constructor
  ·rintro ⟨h0,o,ho,ha⟩;obtain⟨o',uD,rfl⟩:∃ o',l.toArray[i]?=some o'/\o={ o' with after:=o'.after.push { on:=z,ground:=.data } }:=by
    simp only[List.getElem?_toArray] at ho ⊢;rw[VJ,if_pos rfl] at ho;rcases hq:l[i]? with _|o'
    ·rw[hq] at ho;cases ho
    ·rw[hq] at ho;cases ho;exact⟨o',rfl,rfl⟩
   refine⟨⟨h0,o',uD,fun e he hb=>ha e ?_ hb⟩,fun _=>ha { on:=z,ground:=.data } ?_ rfl⟩
   ·show e∈o'.after.push _;exact Array.mem_push_of_mem _ he
   ·show _∈o'.after.push _;exact Array.mem_push_self
  ·rintro ⟨⟨h0,o,ho,ha⟩,hz⟩;refine⟨h0,_,qgl ho,fun e he hb=>?_⟩;have he:e∈o.after.push { on:=z,ground:=.data }:=he;rcases Array.mem_push.1 he with he|rfl
   ·exact ha e he hb
   ·exact hz rfl
 ·rw[Uw h];exact⟨fun ⟨h0,o,ho,ha⟩=>⟨⟨h0,o,ho,ha⟩,fun e=>absurd e h⟩,fun ⟨h0,_⟩=>h0⟩
theorem Gk (l:List Oper) (j z:Nat) (t:Array Value):yielded (jp l j z).toArray t=yielded l.toArray t:=by
 funext i;unfold yielded;by_cases h:i=j
 ·subst h;simp only[List.getElem?_toArray];rw[VJ,if_pos rfl];cases l[i]? <;> rfl
 ·rw[Uw h]
theorem qer {oz:Oper} {src:Operand} {k:Nat} (dY:oz.op=.extract src k) (ev:Operand->Value) (P:Program):(∃ v,∀ W,(execOp ev oz).run P W=.ok (.value v) W)\/(∀ W,∃ s,(execOp ev oz).run P W=.halt (.stuck s) W):=by
 unfold execOp;rw[dY];simp only[Instr.extract];split
 ·split
  ·rename_i v _;exact .inl ⟨v,fun W=>rfl⟩
  ·exact .inr fun W=>⟨_,rfl⟩
 ·exact .inr fun W=>⟨_,rfl⟩
def lateB (ops:Array Oper) (j z:Nat):Bool:=match ops[z]? with
 |none=>false
 |some oz=>(qO oz).all (fun k=>qaJ ops 9 j k) && (List.range ops.size).all fun i=>i == z || qaJ ops 9 z i || match ops[i]? with
  |some oi=>oi.after.any (fun e=>Region.binds .any e && e.on == z) || oz.apart ops oi
  |none=>true
section
variable {P:Program} {l:List Oper} {Q:Exit->Act->World->Prop}
theorem qlk {j z i:Nat} {K K':Act->World->Prop} {a:Act} {W:World} (hK:∀ a w,K a w->K' a w) (h:wpOp P (jp l j z).toArray (QN Q) i K a W):wpOp P l.toArray (QN Q) i K' a W:=by
 refine wpOp_mono hK ?_;unfold wpOp at h ⊢;rw[Gk] at h;by_cases hi:i=j
 ·subst hi;rcases ho:l.toArray[i]? with _|o
  ·have:(jp l i z).toArray[i]?=none:=by simp only[List.getElem?_toArray] at ho ⊢;rw[VJ,if_pos rfl,ho];rfl
   rw[this] at h;exact h
  ·rw[qgl ho] at h;exact h
 ·rw[Uw hi] at h;exact h
theorem qih {ops:Array Oper} {j z:Nat} {oz:Oper} (hz:ops[z]?=some oz) (h:lateB ops j z=true):(∀ k∈qO oz,qaJ ops 9 j k=true)/\∀ (i:Nat) (oi:Oper),ops[i]?=some oi->i≠z->qaJ ops 9 z i=true\/(∃ e∈oi.after,Region.binds .any e=true/\e.on=z)\/oz.apart ops oi=true:=by
 unfold lateB at h;rw[hz] at h;simp only[Bool.and_eq_true] at h;refine⟨fun k hk=>List.all_eq_true.1 h.1 k hk,fun i oi hi hiz=>?_⟩;have h1:=List.all_eq_true.1 h.2 i (List.mem_range.2 (zG.1 hi).1);rw[hi] at h1;simp only[Bool.or_eq_true,beq_iff_eq,hiz,false_or] at h1;rcases h1 with h1|h1|h1
 ·exact .inl h1
 ·rw[<-Array.any_toList] at h1;obtain⟨e,he,h2⟩:=List.any_eq_true.1 h1;replace he:e∈oi.after:=by simpa using he
  simp only[Bool.and_eq_true,beq_iff_eq] at h2;exact .inr (.inl ⟨e,he,h2⟩)
 ·exact .inr (.inr h1)
theorem qiX {j z:Nat} {oz:Oper} {src:Operand} {k:Nat} (hz:l.toArray[z]?=some oz) (hjz:j≠z) (dY:oz.op=.extract src k) (hg:oz.guard=none) (hs:Region.noSelect l.toArray=true) (hB:lateB l.toArray j z=true) : ∀ (fuel:Nat) (listed:Array Bool) (a:Act) (W:World),YV l.toArray listed->listed.size=l.length->wpAny P .any (jp l j z).toArray (QN Q) fuel listed a W->wpAny P .any l.toArray (QN Q) fuel listed a W:=by
 obtain⟨uy,dI⟩:=qih hz hB;have hzl:z<l.length:=by simpa using (zG.1 hz).1
 have zr:∀ listed:Array Bool,YV l.toArray listed->listed.size=l.length->j∈Region.ready .any l.toArray listed->¬listed.getD z false=true->z∈Region.ready .any l.toArray listed:=fun listed hc hsz hj hzu=>by
  refine mem_ready.2 ⟨?_,oz,hz,fun e he hb=>?_⟩
  ·have hlt:z<listed.size:=zO;simp only[Array.getD_eq_getD_getElem?,Array.getElem?_eq_getElem hlt,Option.getD_some] at hzu ⊢;simpa using hzu
  ·have hk:e.on∈qO oz:=List.mem_map.2 ⟨e,by rw[List.mem_filter];exact⟨by simpa using he,hb⟩,rfl⟩;exact VE hc 9 j e.on (fun o ho=>Kg hj ho) (uy _ hk)
 intro fuel;induction fuel with
 |zero =>
  intro listed a W hc hsz h;refine⟨?_,h.2⟩;refine Classical.byContradiction fun aG=>?_;obtain⟨i,hi⟩:=List.exists_mem_of_ne_nil _ aG;have aX:∀ i,i∉Region.ready .any (jp l j z).toArray listed:=fun i hi=>by rw[h.1] at hi;cases hi
  by_cases hij:i=j
  ·subst hij;by_cases hzu:listed.getD z false=true
   ·exact aX i (Jb.2 ⟨hi,fun _=>hzu⟩)
   ·exact aX z (Jb.2 ⟨zr listed hc hsz hi hzu,fun e=>absurd e.symm hjz⟩)
  ·exact aX i (Jb.2 ⟨hi,fun e=>absurd e hij⟩)
 |succ fuel ih =>
  intro listed a W hc hsz h;refine⟨fun h0=>h.1 ?_,fun i hi=>?_⟩
  ·refine List.eq_nil_iff_forall_not_mem.2 fun i hi=>?_;have:=(Jb.1 hi).1;rw[h0] at this;cases this
  ·have key:∀ i,i∈Region.ready .any (jp l j z).toArray listed->wpOp P l.toArray (QN Q) i (wpAny P .any l.toArray (QN Q) fuel (listed.setIfInBounds i true)) a W:=fun i hi =>
    qlk (fun a w hw=>ih _ a w (hc.step (Jb.1 hi).1) (by simpa using hsz) hw) (h.2 i hi)
   by_cases hlate:i=j/\¬listed.getD z false=true
   ·obtain⟨rfl,hzu⟩:=hlate;have hzr:=zr listed hc hsz hi hzu;have h1:=h.2 z (Jb.2 ⟨hzr,fun e=>absurd e.symm hjz⟩);have hw:∀ t,Region.wanted oz (yielded l.toArray t)=true:=fun t=>by unfold Region.wanted;rw[hg]
    unfold wpOp at h1;rw[Uw (fun e=>hjz e.symm),hz] at h1;simp only[Gk,hw,if_true] at h1;rcases h1 with h1|⟨_,h1⟩
    ·unfold Oper.wp at h1;rcases qer dY a.eval P with ⟨v,hv⟩|aH
     ·rw[hv] at h1;have h2:=ih _ _ W (hc.step hzr) (by simpa using hsz) h1;have h3:=qcz (Q:=Q) (v:=v) hz (Region.noSelect_spec hs) fuel listed a W (fun j' oj' iV hjz' lC aX=>by
       rcases dI j' oj' iV hjz' with hwt|⟨e,he,hb,nS⟩|dh
       ·exfalso;have:=VE hc 9 z j' (fun o ho=>Kg hzr ho) hwt;rcases Nat.lt_or_ge j' listed.size with h'|h'
        ·simp[h'] at lC this;rw[lC] at this;cases this
        ·simp[Array.getElem?_eq_none h'] at this
       ·exact absurd nS (aX e he hb)
       ·exact dh) hzr (hw _) hv h2
      exact h3.2 i hi
     ·obtain⟨s,hs2⟩:=aH W;rw[hs2] at h1;exact False.elim h1
    ·exact absurd h1 vZ
   ·exact key i (Jb.2 ⟨hi,fun e=>Classical.byContradiction fun hn=>hlate ⟨e,hn⟩⟩)
theorem vc {listed:Array Bool} {a:Act} {W:World} {fuel:Nat} (j z:Nat) {oz:Oper} {src:Operand} {k:Nat} (hz:l.toArray[z]?=some oz) (hjz:(j == z)=false) (dY:oz.op=.extract src k) (hg:oz.guard=none) (hs:Region.noSelect l.toArray=true) (hB:lateB l.toArray j z=true) (hc:XG l.toArray listed=true) (hsz:(listed.size == l.length)=true) (h:wpAny P .any (jp l j z).toArray (QN Q) fuel listed a W):wpAny P .any l.toArray (QN Q) fuel listed a W:=
 qiX hz (by simpa using hjz) dY hg hs hB fuel listed a W (Vv hc) (by simpa using hsz) h
end
end Go.Proofs.YtmeadnlmepcmbaaGreat
