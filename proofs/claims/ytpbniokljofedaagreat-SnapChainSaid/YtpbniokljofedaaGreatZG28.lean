/- Texts Put, joined. -/
import Derived.Sort.CutIn
import Derived.Test.YtpbniokljofedaaGreatZG13
import Derived.Test.YtpbniokljofedaaGreatZG18
import Derived.Test.YtpbniokljofedaaGreatZG22
import Derived.Test.YtpbniokljofedaaGreatZG24
import Derived.Test.YtpbniokljofedaaGreatZG26
import Derived.Test.YtpbniokljofedaaGreatZG27
set_option linter.unusedSimpArgs false
set_option linter.unusedVariables false
set_option maxHeartbeats 8000000
open Go.Proofs.Tryz
namespace Go.Proofs.YtpbniokljofedaaGreat
open Go.RowKit Go.Shelf
attribute [local go_sem] Oper.semAt_some
theorem qjf {n b:Nat} {R:Ending->World->Prop} {a:Act} {W:World} {x0 x1 x2 x3 y z:Value} (h4:a.tmps[6]?.getD undef=.pointer (some ⟨b+1+1,0,none⟩)) (h5:a.tmps[7]?.getD undef=.pointer (some ⟨b+1+1+1,0,none⟩)) (h6:a.tmps[8]?.getD undef=.pointer (some ⟨b+1+1+1+1,0,none⟩)) (hd:a.defers=[]) (r4:W.heap[b+2]?=some (.cells #[x0,x1,x2,x3] 28 (0,0))) (r5:W.heap[b+3]?=some (.cells #[y] 3 (0,0))) (r6:W.heap[b+4]?=some (.cells #[z] 36 (0,0))) (hR:R (.returned (.tuple #[.agg #[x0,x1,x2,x3],y,z])) W):bodyPostM Fence.wide n prog Tryz.f54 R .ret a W:=by
 have k4:=qa r4;have k5:=qa r5;have k6:=qa r6;change LeavesInM Fence.wide n prog Tryz.f54 a.tmps R a.defers .returning W;rw[hd];refine⟨.tuple #[.agg #[x0,x1,x2,x3],y,z],?_,hR⟩;simp[results,results54,go_sem,h4,h5,h6,k4,k5,k6]
theorem Ut {n b D:Nat} {R:Ending->World->Prop} {a:Act} {W:World} {x0 x1 x2 x3 y z:Value} (h4:a.tmps[6]?.getD undef=.pointer (some ⟨b+1+1,0,none⟩)) (h5:a.tmps[7]?.getD undef=.pointer (some ⟨b+1+1+1,0,none⟩)) (h6:a.tmps[8]?.getD undef=.pointer (some ⟨b+1+1+1+1,0,none⟩)) (hd:a.defers=[{ target:=.collected D,args:=#[] }]) (hK:W.heap[D]?=some (.deferred (some []))) (hD:b+4<D) (r4:W.heap[b+2]?=some (.cells #[x0,x1,x2,x3] 28 (0,0))) (r5:W.heap[b+3]?=some (.cells #[y] 3 (0,0))) (r6:W.heap[b+4]?=some (.cells #[z] 36 (0,0))) (hR:R (.returned (.tuple #[.agg #[x0,x1,x2,x3],y,z])) (W.putObj D (.deferred none))):bodyPostM Fence.wide n prog Tryz.f54 R .ret a W:=by
 have k4:=qa ((World.putObj_heap_other (o:=.deferred none) (show b+2≠D by omega)).trans r4);have k5:=qa ((World.putObj_heap_other (o:=.deferred none) (show b+3≠D by omega)).trans r5);have k6:=qa ((World.putObj_heap_other (o:=.deferred none) (show b+4≠D by omega)).trans r6);change LeavesInM Fence.wide n prog Tryz.f54 a.tmps R a.defers .returning W;rw[hd];refine⟨zA2,.inl ⟨_,_,rfl,run_takeDeferred hK,.tuple #[.agg #[x0,x1,x2,x3],y,z],?_,hR⟩⟩;simp[results,results54,go_sem,h4,h5,h6,k4,k5,k6]
def qaA (lo n:Nat) (us:List Value):Qa:=⟨Option Addr×Nat,fun p=>.slice p.1 n p.2,fun p W=>W.ownsRow lo 68 5 (.slice p.1 n p.2) n us⟩
theorem Qu (lo n:Nat) (us:List Value) (A:Option Addr) (c:Nat):(qaA lo n us).f (A,c)=.slice A n c:=rfl
theorem qbr (lo n:Nat) (us:List Value):∀ p,qJ qj ((qaA lo n us).φ p):=fun p W W' he h=>by have he:Ext W W':=he;have h:W.ownsRow lo 68 5 (.slice p.1 n p.2) n us:=h;exact Zr h fun q hq=>Below.block he q (QM h q hq).2
theorem key_ifn (x:It) (k i o:Int) (W:World):(if x.k=k then if x.i=i then if x.o=o then Result.ok (Next.value (Value.bool false)) W else Result.ok (Next.value (Value.bool true)) W else Result.ok (Next.value (Value.bool true)) W else Result.ok (Next.value (Value.bool true)) W)=Result.ok (Next.value (Value.bool (!decide (qo x=(k,i,o))))) W:=by
 have e:(qo x=(k,i,o))↔(x.k=k/\x.i=i/\x.o=o):=by unfold qo;simp only[Prod.mk.injEq]
 by_cases h1:x.k=k
 ·by_cases h2:x.i=i
  ·by_cases h3:x.o=o
   ·rw[if_pos h1,if_pos h2,if_pos h3,decide_eq_true (e.2 ⟨h1,h2,h3⟩)];rfl
   ·rw[if_pos h1,if_pos h2,if_neg h3,decide_eq_false (fun h=>h3 (e.1 h).2.2)];rfl
  ·rw[if_pos h1,if_neg h2,decide_eq_false (fun h=>h2 (e.1 h).2.1)];rfl
 ·rw[if_neg h1,decide_eq_false (fun h=>h1 (e.1 h).1)];rfl
theorem Ql.of_ext {W W':World} (h:Ext W W'):Ql W W':=⟨h.size,fun k o hk _=>(Below.block h k (zG.1 hk).1).trans hk⟩
theorem YD.split {D:Nat->Prop} {B lo b g:Nat} {k:Option Nat} {S:Sto} {lvl:Int} {l held:List It} {w W:World} {e:Ending} (h:YD D B lo b g k S lvl l held w e W):Qe lo b g k w W /\ ((∃ er,Hid (QW S lvl l held=.error er)/\e=.returned (.tuple #[.slice none 0 0,.int .i64 er])) \/
  (∃ up S' k' D' A c,Hid (QW S lvl l held=.ok (up,S'))/\e=.returned (.tuple #[.slice A up.length c,.int .i64 0])/\Zx w.heap.size k k'/\Yx w.heap.size D D'/\Bch D' B lo b g k' S' W/\Hid (qm S'=true)/\W.ownsRow w.heap.size 68 5 (.slice A up.length c) up.length (qY (upV up)))):=by
 obtain⟨h1,h2⟩:=h;refine⟨h1,?_⟩;rcases hb:QW S lvl l held with er|⟨up,S'⟩
 ·rw[hb] at h2;exact .inl ⟨er,zH rfl,h2⟩
 ·rw[hb] at h2;obtain⟨k',D',A,c,e1,e2,e3,e4,e5,e6,-⟩:=h2;exact .inr ⟨up,S',k',D',A,c,zH rfl,e1,e2,e3,e4,zH e5,e6⟩
set_option maxRecDepth 100000 in
theorem qje (A1:Option Addr) (n1 c1:Nat) (A2:Option Addr) (n2 c2:Nat) (A3:Option Addr) (n3 c3:Nat) (A4:Option Addr) (n4 c4:Nat) (S:Sto) (hS:qm S=true) (a lvl:Nat) (xs:List It) (ha:8<=a) (aj:a<256) (hn:qu S a=some ((lvl:Int),xs)) (aN:(qD S lvl xs).isSome=true) (x:It) (tK:Zm x) (Ax:Option Addr) (cx:Nat) (w:World) (aI:qU w w.heap.size (.slice A1 n1 c1) (.slice A2 n2 c2) (.slice A3 n3 c3) (.slice A4 n4 c4) S) (hxv:Bys w w.heap.size (.slice Ax x.val.length cx) x.val):Calls prog 54 #[Qd A1 n1 c1 A2 n2 c2 A3 n3 c3 A4 n4 c4,.int .i64 (a:Int),itV x Ax cx] w (Za (PutQ w.heap.size (Tx S lvl xs a x)) w):=by
 have HA:=zH (fun W (hx:Ext w W)=>qhO A1 n1 c1 A2 n2 c2 A3 n3 c3 A4 n4 c4 S hS a lvl xs ha aj hn aN x Ax cx W (aI.ext hx));have HW:=zH (fun W (hx:Ext w W)=>way_any A1 n1 c1 A2 n2 c2 A3 n3 c3 A4 n4 c4 S hS a lvl xs ha aj hn aN x.k x.i x.o W (aI.ext hx));have HO:=zH (fun W (hx:Ext w W)=>qdV A1 n1 c1 A2 n2 c2 A3 n3 c3 A4 n4 c4 S (by have:=(Qc hS).2.2.1;omega) W (aI.ext hx));obtain⟨q,hq⟩:∃ q,Tx S lvl xs a x=q:=⟨_,rfl⟩
 rw[hq];replace hq:=zH hq;obtain⟨l,hl⟩:∃ l,km S (x.k,x.i,x.o) lvl xs=l:=⟨_,rfl⟩
 have hwo:=qiq (k:=(x.k,x.i,x.o)) lvl hn aN;have hwl:=qaG (k:=(x.k,x.i,x.o)) lvl (qN hn).1 aN;have hl6:lvl<6:=by have:=jl hn;omega
 rw[hl] at HW hwo hwl;replace hl:=zH hl;replace hwo:=zH hwo;have mF:0<l.length/\l.length<=6:=zO;replace mF:=zH mF;replace hwl:=zH hwl;clear hl6;refine(callsIn_wide (n:=3)).1 ?_;refine callsIn_of_wp_marks func54 rfl trivial ?_ rfl;simp only[ntmps54,List.size_toArray,List.length_cons,List.length_nil,Nat.reduceAdd,Nat.reduceSub,Array.replicate_succ,Array.replicate_zero,List.push_toArray,List.append_toArray,List.nil_append,List.cons_append];refine wpIn_wide.2 ?_;replace aI:=zH aI;replace hxv:=zH hxv;replace tK:=zH tK;clear hn aN;go_wp2_with fail;generalize aA:(World.alloc (World.alloc (World.alloc (World.alloc (World.alloc w _) _) _) _) _)=w1;have x1:Ext w w1:=by rw[<-aA];exact((((zN _ _).trans (zN _ _)).trans (zN _ _)).trans (zN _ _)).trans (zN _ _)
 have s1:w.heap.size+5<=w1.heap.size:=by rw[<-aA];simp
 have ra1:w1.heap[w.heap.size]?=some (.cells #[.slice A1 n1 c1,.slice A2 n2 c2,.slice A3 n3 c3,.slice A4 n4 c4] 28 (0,0)):=by rw[<-aA];exact(zK _ _ _ zA3).trans ((zK _ _ _ zA3).trans ((zK _ _ _ zA3).trans ((zK _ _ _ zA3).trans (zI _ _ _ rfl))))
 have rb1:w1.heap[w.heap.size+1]?=some (.cells #[.int .u8 x.k,.int .u32 x.i,.int .u32 x.o,.int .i64 x.r,.slice Ax x.val.length cx] 68 (0,0)):=by rw[<-aA];exact(zK _ _ _ zA3).trans ((zK _ _ _ zA3).trans ((zK _ _ _ zA3).trans (zI _ _ _ zA2)))
 have rc1:w1.heap[w.heap.size+2]?=some (.cells #[.slice none 0 0,.slice none 0 0,.slice none 0 0,.slice none 0 0] 28 (0,0)):=by rw[<-aA];exact(zK _ _ _ zA3).trans ((zK _ _ _ zA3).trans (zI _ _ _ zA2))
 have rd1:w1.heap[w.heap.size+3]?=some (.cells #[.int .i64 0] 3 (0,0)):=by rw[<-aA];exact(zK _ _ _ zA3).trans (zI _ _ _ zA2)
 have re1:w1.heap[w.heap.size+4]?=some (.cells #[.int .i64 0] 36 (0,0)):=by rw[<-aA];exact zI _ _ _ zA2
 clear aA;refine(HA.out w1 x1).mono ?_;clear HA;rintro e w2 ⟨rfl,hB⟩;have x2:Ext w w2:=x1.trans hB;have s2:=hB.size;have ra2:=qb ra1 hB;have yH:=qb rb1 hB;have xZ:=qb rc1 hB;have rd2:=qb rd1 hB;have re2:=qb re1 hB;clear hB ra1 rb1 rc1 rd1 re1 x1;have ka2:=qa ra2;have kb2:=qa yH;have kc2:=qa xZ;have kd2:=qa rd2;have ke2:=qa re2;have fc2:=qe xZ;have fd2:=qe rd2;have fe2:=qe re2;by_cases hE:Td S x=0
 case neg =>
  have uZ:=zH (show q=.error (Td S x) by rw[<-hq.out];unfold Tx;rw[if_neg hE]);have aG:(Td S x != 0)=true:=by rw[bne_iff_ne];exact hE
  generalize Td S x=er at *;clear HW HO;go_wp2_with fail;obtain⟨g4,g5,g6,hb,-⟩:=qbx xZ rd2 re2 rfl;exact qjf rfl rfl rfl rfl g4 g5 g6 ⟨_,rfl,by rw[uZ.out];rfl,hb zO x2⟩
 case pos =>
  have yx:=zH (show q=putX S lvl xs a x by rw[<-hq.out];unfold Tx;rw[if_pos hE]);rw[hE];clear hq;have og:Hid (q=match Gg S lvl xs x with
   | .error e=>.error e
   | .ok (up,S2)=>match QQ S2 (-1) S2.now a with
    |none=>.error 8
    |some t=>.ok (Yk up,qy S2 t)):=zH (by rw[yx.out,qek] <;> rfl)
  have hpre:Hid (Gg S lvl xs x=if qab (x.k,x.i,x.o) l=true then .error 120 else
   match jp (x.k,x.i,x.o) l.reverse [x] S with
   | .error e=>.error e
   | .ok (up,S1)=>if 1<up.length then QW S1 ((l.length:Nat):Int) up up else .ok (up,S1)):=zH (by rw[<-hl.out];rfl)
  replace hE:=zH hE;clear yx;go_wp2_with fail;refine(HW.out w2 x2).mono ?_;clear HW;rintro e w3 ⟨u,rfl,hSE,hB⟩;have dO:Ext w2 w3:=hB;have x3:Ext w w3:=x2.trans dO;have s3:=hB.size;have ra3:=qb ra2 hB;have uz:=qb yH hB;have oK:=qb xZ hB;have tV:=qb rd2 hB;have re3:=qb re2 hB;clear hB ra2 yH xZ rd2 re2 ka2 kb2 kc2 kd2 ke2 fc2 fd2 fe2;have ka3:=qa ra3;have kb3:=qa uz;have kc3:=qa oK;have kd3:=qa tV;have ke3:=qa re3;have fc3:=qe oK;have fd3:=qe tV;have fe3:=qe re3;have hT:=tall_any u l (by have:=mF.out;omega) mF.out.1 x.k x.i x.o (fun s hs=>(hwo.out s hs).len) w3 (hSE.read (Qh.refl _ _));obtain⟨ps,au,⟨As,cs,rfl,hsc1,hsc2,hsr⟩,iR⟩:=hSE;replace hsc2:=zH hsc2;replace hsr:=zH hsr;replace iR:=zH iR;replace au:=zH au;replace hT:=zH hT;clear hsc1;go_wp2_with fail;refine hT.out.mono ?_;clear hT;rintro e w4 ⟨rfl,hB⟩;have x34:Ext w3 w4:=hB;have x4:Ext w w4:=x3.trans x34;have s4:=hB.size;have ra4:=qb ra3 hB;have rb4:=qb uz hB;have rc4:=qb oK hB;have rd4:=qb tV hB;have re4:=qb re3 hB;clear hB ra3 uz oK tV re3 ka3 kb3 kc3 kd3 ke3 fc3 fd3 fe3;have ka4:=qa ra4;have kb4:=qa rb4;have kc4:=qa rc4;have kd4:=qa rd4;have ke4:=qa re4;have fc4:=qe rc4;have fd4:=qe rd4;have fe4:=qe re4;rcases hta:qab (x.k,x.i,x.o) l with _|_
  case true =>have uZ:=zH (show q=.error 120 by rw[og.out,hpre.out,if_pos hta]);clear og hpre HO;go_wp2_with fail;obtain⟨g4,g5,g6,hb,-⟩:=qbx rc4 rd4 re4 rfl;exact qjf rfl rfl rfl rfl g4 g5 g6 ⟨_,rfl,by rw[uZ.out];rfl,hb zO x4⟩
  case false =>
   have hDT:Hid (Gg S lvl xs x=match jp (x.k,x.i,x.o) l.reverse [x] S with
    | .error e=>.error e
    | .ok (up,S1)=>if 1<up.length then QW S1 ((l.length:Nat):Int) up up else .ok (up,S1)):=zH (by rw[hpre.out,if_neg (by rw[hta];decide)])
   replace hta:=zH hta;clear hpre;have z40:w.heap.size<w4.heap.size:=zO;have z41:w.heap.size+1<w4.heap.size:=zO;have z42:w.heap.size+1+1<w4.heap.size:=zO;have z43:w.heap.size+1+1+1<w4.heap.size:=zO;have z44:w.heap.size+1+1+1+1<w4.heap.size:=zO;go_wp2_with fail;generalize aV:(World.alloc (World.alloc w4 _) _)=w5;have dP:Ext w4 w5:=by rw[<-aV];exact(zN _ _).trans (zN _ _)
   have x5:Ext w w5:=x4.trans dP;have s5:w4.heap.size+2<=w5.heap.size:=by rw[<-aV];simp
   have rU5:w5.heap[w4.heap.size]?=some (.cells #[.int .u8 x.k,.int .u32 x.i,.int .u32 x.o,.int .i64 x.r,.slice Ax x.val.length cx] 68 (0,0)):=by rw[<-aV];exact(zK _ _ _ zA2).trans (zI _ _ _ rfl)
   have rB5:w5.heap[w4.heap.size+1]?=some (.cells #[.slice (some ⟨w4.heap.size,0,none⟩) 1 1] 47 (0,0)):=by rw[<-aV];exact zI _ _ _ zA2
   clear aV;have rb5:=qb rb4 dP;have rc5:=qb rc4 dP;have rd5:=qb rd4 dP;have re5:=qb re4 dP;clear ra4 rb4 rc4 rd4 re4 ka4 kb4 kc4 kd4 ke4 fc4 fd4 fe4;refine(HO.out w5 x5).mono ?_;clear HO;rintro e w6 ⟨u,rfl,⟨b,A3',c3',rfl,aP,aF,aB⟩,hB⟩;have oM:Ext w5 w6:=hB;have x6:Ext w w6:=x5.trans oM;have s6:=hB.size;have hEG:=aI.out.below x6;obtain⟨g,iC⟩:=Bch.of_on (B:=w.heap.size) x5.size hS hEG aP aF aB;replace iC:=zH iC;have rb6:=qb rb5 hB;have rc6:=qb rc5 hB;have rd6:=qb rd5 hB;have re6:=qb re5 hB;have rU6:=qb rU5 hB;have rB6:=qb rB5 hB;clear hB rb5 rc5 rd5 re5 rU5 rB5 aF aB hEG z40 z41 z42 z43 z44;go_wp2_with fail;generalize gp:World.alloc w6 _=w7;have x67:Ext w6 w7:=by rw[<-gp];exact zN _ _
   have rT7:w7.heap[w6.heap.size]?=some (.cells #[.pointer (some ⟨b,0,none⟩)] 80 (0,0)):=by rw[<-gp];exact zI _ _ _ rfl
   clear gp;refine(qbZ As l.length cs w7).mono ?_;rintro e w8 ⟨rfl,rfl⟩;go_wp2_with fail;generalize hw8:World.alloc w7 _=w8;have x78:Ext w7 w8:=by rw[<-hw8];exact zN _ _
   have s8:w7.heap.size<w8.heap.size:=by rw[<-hw8];simp
   have rS8:w8.heap[w7.heap.size]?=some (.cells #[.slice As l.length cs] 153 (0,0)):=by rw[<-hw8];exact zI _ _ _ rfl
   clear hw8;have x68:Ext w6 w8:=x67.trans x78;have x38:Ext w3 w8:=((x34.trans dP).trans oM).trans x68;have x8:Ext w w8:=x6.trans x68;obtain⟨b2,o2,rfl,bZ,bP⟩:=(hsr.out w3 (Qh.refl _ _)).2 mF.out.1;have bQ:ps.length=l.length:=by rw[<-au.out,List.length_map]
   obtain⟨us,xQ⟩:∃ us:List Us,us=ps.map fun p=>((p.1,Kh p.2):Us):=⟨_,rfl⟩
   have mJ:us.length=l.length:=by rw[xQ,List.length_map,bQ]
   have xR:∀ i (hi:i<ps.length),us[i]?.getD usz=(ps[i].1,Kh ps[i].2):=fun i hi=>by rw[xQ,List.getElem?_map,zL hi];rfl
   have wQ:∀ i (hi:i<ps.length),sv (Kh ps[i].2)=ps[i].2:=fun i hi=>by obtain⟨bC,_,⟨⟨A,c,e,_⟩,_⟩⟩:=iR.out ps[i] (List.getElem_mem hi);rw[e];rfl
   have hGV:∀ j,∃ bC A c,sv (us[j]?.getD usz).2=.slice A (sAt l j).2.1.length c/\(us[j]?.getD usz).1=sAt l j/\bC.map (·.1)=(sAt l j).2.1/\UO (fun q=>q<w2.heap.size) w3 (sv (us[j]?.getD usz).2) bC:=fun j=>by
    by_cases hj:j<ps.length
    ·obtain⟨bC,e1,he⟩:=iR.out ps[j] (List.getElem_mem hj);have hx:ps[j].1=sAt l j:=by unfold sAt;rw[<-au.out,List.getElem?_map,zL hj];rfl
     obtain⟨A,c,e⟩:=he.shape e1;rw[xR j hj];simp only;rw[wQ j hj];rw[hx] at e e1;exact⟨bC,A,c,e,hx,e1,he⟩
    ·have h1:us[j]?=none:=List.getElem?_eq_none (by rw[mJ];omega);have h2:sAt l j=(0,[],0):=by unfold sAt;rw[List.getElem?_eq_none zO];rfl
     rw[h1,h2];exact⟨[],none,0,rfl,rfl,rfl,⟨none,0,rfl,zM _,zA6,fun C _=>Rd.none_⟩,fun p hp=>by cases hp⟩
   have hne4:b2≠w.heap.size+4:=fun e=>by have h1:=bP 1 _ (Xq ps 0 (by rw[bQ];exact mF.out.1)).2.1;have h2:=Ext.cell ((x34.trans dP).trans oM) h1;rw[e,qa re6] at h2;simp at h2
   have hSW:SWs w8 w7.heap.size b2 (.slice (some ⟨b2,o2,none⟩) l.length cs) us:=by refine⟨by rw[qa rS8];rfl,.inr ⟨o2,cs,by rw[mJ],fun i hi=>?_⟩⟩;have fV:i<ps.length:=zO;obtain⟨g0,g1,g2⟩:=Xq ps i fV;rw[xR i fV];simp only;rw[wQ i fV];exact⟨Ext.cell x38 (bP _ _ g0),by rw[Nat.add_assoc];exact Ext.cell x38 (bP _ _ g1),by rw[Nat.add_assoc];exact Ext.cell x38 (bP _ _ g2)⟩
   have hI0:PutI (x.k,x.i,x.o) l S x w.heap.size w5.heap.size b g (w4.heap.size+1) w6.heap.size w7.heap.size w2.heap.size w3 (.slice Ax x.val.length cx) (.slice (some ⟨b2,o2,none⟩) l.length cs) [] w8:=by
    refine⟨⟨[x],S,none,_,_,1,[(x,.slice Ax x.val.length cx)],rfl,hS,zA2,zA2,rfl,fun y hy=>?_,fun p hp=>?_,qb rB6 x68,?_,iC.out.ext x68⟩,qb rb6 x68,qb rc6 x68,qb rd6 x68,qb re6 x68,qb rT7 x78,rS8,Qh.of_ext x38⟩
    ·obtain rfl:y=x:=by simpa using hy
     have hb:itB y.r y.val.length=true:=by
      have:=hE.out;unfold Td at this;split at this
      ·rename_i h;exact h
      ·cases this
     unfold itB at hb;simp only[decide_eq_true_eq] at hb;have h1:=tK.out.2.2.2.1;exact⟨tK.out,zO,h1.2⟩
    ·obtain rfl:p=(x,.slice Ax x.val.length cx):=by simpa using hp
     exact⟨⟨Ax,cx,rfl⟩,hxv.out.below x8⟩
    ·exact⟨rfl,.inr ⟨w4.heap.size,1,_,rfl,Nat.zero_le _,qb rU6 x68,zM _,zA6,rfl,rfl⟩⟩
   replace hI0:=zH hI0;replace hGV:=zH hGV;clear xQ xR wQ bP hsr iR au bQ rb6 rc6 rd6 re6 rU6 rB6 rT7 rS8;generalize oN:({ tmps:=_,defers:=_ }:Act)=act;refine(wpIn_wide (n:=3)).1 ?_;refine wpIn_rangeFunc_ownH rfl zO (gf:=146) (lb:=#[.pointer (some ⟨w7.heap.size,0,none⟩)]) (by rw[<-oN];rfl) trivial (enters_of func146 zQ rfl)
    (qeV (3-1) zO w7.heap.size b2 _ us (by rw[mJ];have:=mF.out;omega) w8 s8 (by have:=x38.size;omega) hSW) Qx.t (Qx.b s8 (by have:=x38.size;omega)) (Below.refl _ _) (fun _=>rfl)
    (fun pre W'=>(∃ Wb,PutI (x.k,x.i,x.o) l S x w.heap.size w5.heap.size b g (w4.heap.size+1) w6.heap.size w7.heap.size w2.heap.size w3 (.slice Ax x.val.length cx) (.slice (some ⟨b2,o2,none⟩) l.length cs) pre Wb/\Ql Wb W')/\Below w.heap.size w W')
    (fun c pre W'=>(∃ er Wb,c=.ret/\jp (x.k,x.i,x.o) (pre.map (sAt l)) [x] S=.error er/\(Wb.heap[w.heap.size+2]?=some (.cells #[.slice none 0 0,.slice none 0 0,.slice none 0 0,.slice none 0 0] 28 (0,0))/\Wb.heap[w.heap.size+3]?=some (.cells #[.int .i64 0] 3 (0,0))/\Wb.heap[w.heap.size+4]?=some (.cells #[.int .i64 er] 36 (0,0)))/\Ql Wb W')/\Below w.heap.size w W')
    (OwnFrom.and (fun s A C row hs hg hr=>by obtain⟨Wb,h1,h2⟩:=hs;exact⟨Wb,h1,h2.grown hg fun r e=>(hr r e).2⟩) (ownFrom_below (zM _) x8.size))
    (fun c=>OwnFrom.and (fun s A C row hs hg hr=>by obtain⟨er,Wb,h1,h2,h3,h4⟩:=hs;exact⟨er,Wb,h1,h2,h3,h4.grown hg fun r e=>(hr r e).2⟩) (ownFrom_below (zM _) x8.size))
    ⟨⟨w8,hI0.out,Ql.refl _⟩,x8⟩
    (fun j a' W'=>∃ t14,a'=(((({ tmps:=act.tmps,defers:=[] }:Act).put (some 42) (.int .i64 (j:Int))).put (some 43) (.agg #[.int .i64 ((us[j]?.getD usz).1.1:Int),sv (us[j]?.getD usz).2,.int .i64 ((us[j]?.getD usz).1.2.2:Int)])).put (some 14) (.pointer (some ⟨t14,0,none⟩)))/\W'.heap[t14]?=some (.cells #[.int .i64 ((us[j]?.getD usz).1.1:Int),sv (us[j]?.getD usz).2,.int .i64 ((us[j]?.getD usz).1.2.2:Int)] 160 (0,0)))
    (fun x a' s A C row hs hg hr=>by obtain⟨t14,e,h⟩:=hs;exact⟨t14,e,Qz (β:=Unit) _ _ _ _ () A C row h hg hr⟩) ?assign ?body ?done ?stop
   case assign =>
    rintro l' pre j W' K ⟨⟨Wb,hPI,oO⟩,i4⟩ hK;subst oN;have z4:=i4.size;have tq:=hPI.ck oO;have zS:=(zG.1 tq.rS).1;have zb2:b2<W'.heap.size:=by have:=(((x34.trans dP).trans oM).trans x67).size;omega
    gi_wp2
    exact hK _ _ ((KeepsOthers.alloc _ _).from _) ⟨zK _ _ _ zS,zK _ _ _ zb2⟩ ⟨⟨_,tq,Ql.of_ext (zN _ _)⟩,Below.alloc i4 z4 _⟩ ⟨W'.heap.size,rfl,zI _ _ _ rfl⟩
   case body =>
    rintro l' pre j a' W' hll ⟨rr,hlp⟩ ⟨⟨Wb,hPI,oO⟩,i4⟩ ⟨t14,rfl,yz⟩ _;subst oN;have tq:=hPI.ck oO;simp only[Act.put,zA,zB,zC];obtain⟨bC,A9,c9,e9,e10,e11,mf⟩:=hGV.out j;have hWO:=sAt_ok hwo.out j;have hGT:=zH (fun (ups:List It) (S':Sto) (h:jp (x.k,x.i,x.o) (pre.map (sAt l)) [x] S=.ok (ups,S'))=>(by rw[List.map_append,Vh,h];simp only[List.map_cons,List.map_nil];exact UX _ _ _ _:jp (x.k,x.i,x.o) ((pre++[j]).map (sAt l)) [x] S=QW S' ((sAt l j).1:Int) (VL (sAt l j).2.1 (sAt l j).2.2 (JE (x.k,x.i,x.o) (sAt l j).1 (sAt l j).2.1) ups) ups));obtain⟨s9,hs9⟩:∃ s9,sAt l j=s9:=⟨_,rfl⟩
    rw[hs9] at e9 e10 e11 hWO hGT;clear hs9;generalize us[j]?.getD usz=u9 at *;obtain⟨v9,sl9⟩:=u9;simp only at e9 e10 yz mf;subst e10;obtain⟨lv,ys,pl⟩:=v9;simp only at e9 e11 yz hGT;rw[e9] at yz mf ⊢;obtain⟨hWm,hWi,hWl,hGD,hGE,rM⟩:=hWO;simp only at hWm hWi hWl hGD hGE rM;obtain⟨ups,S',k',D',Au,cu,eu,bM,tC,uq,sK,tH,oq,uY,hrU,wL,bz⟩:=tq.ex;have hit:=(mf.trans tq.kx fun q _ h=>h).its (Qh.refl (fun q=>q<w2.heap.size) W');rw[e11] at hit;obtain⟨many,hmy⟩:∃ many,JE (x.k,x.i,x.o) lv ys=many:=⟨_,rfl⟩
    have hHG:=many_ok (k:=(x.k,x.i,x.o)) (s:=(lv,ys,pl)) ⟨hWm,hWi,hWl,hGD,hGE,rM⟩;simp only at hHG;rw[hmy] at hHG hGT;have zx:w.heap.size+1<W'.heap.size:=(zG.1 tq.rx).1;have hGI:Hid ((pl=ys.length->many=0)/\(pl<ys.length->lv≠0->many=1)/\(∀ h:pl<ys.length,lv=0->many=if qo (ys[pl]'h)=(x.k,x.i,x.o) then 1 else 0)):=zH (by
     refine⟨fun h=>?_,fun h h1=>?_,fun h h1=>?_⟩
     ·have h0:lv=0:=by
       rcases Nat.eq_zero_or_pos lv with h0|h0
       ·exact h0
       ·have:=hGE h0;omega
      rw[<-hmy];unfold JE;rw[if_pos ⟨h0,Xt (by rw[<-rM h0];omega)⟩]
     ·rw[<-hmy];unfold JE;rw[if_neg (fun hh=>h1 hh.1)]
     ·rw[<-hmy];unfold JE;have hp:=rM h1;subst hp;rw[kI h];by_cases hk:qo ys[qA ys (x.k,x.i,x.o)]=(x.k,x.i,x.o)
      ·rw[if_neg (by simp[hk]),if_pos hk]
      ·rw[if_pos ⟨h1,by simp[hk]⟩,if_neg hk])
    have hMA:=zH hit;have hCU:=zH mf;have hCA:=zH tq;have hbcH:=zH bz;have hMW:=zH wL;have hDU:=zH uY;have hWiH:=zH hWi;have hEI:=zH oq;have hgrH:=zH bM;have hLX:=zH tH;have hmyH:=zH hmy;have hCG:=zH hWl;have uA:=zH hGD;have uT:=zH hHG;have e11H:=zH e11;have hIE:=zH (And.intro uq sK);have rUH:=zH hrU;have hS'H:=zH tC;have hA:=hit.at_.2.2.2;replace hA:=zH hA;have rxW:=tq.rx;clear hit mf tq bz wL uY hWm hWi hGE rM oq bM tH hmy hWl hGD hHG e11 uq sK hrU tC hPI oO e9
    gi_upto_region 12 with fail
    gi_cut [69] from 44 (fun s wx=>s=.bool (decide (many=0))/\Ext W' wx)
    case first =>
     have g14:∀ W,qj.r W' W->∀ i,W.cell? ⟨t14,i,none⟩=#[.int .i64 (lv:Int),.slice A9 ys.length c9,.int .i64 (pl:Int)][i]?:=fun W h=>qa (qb yz h);by_cases bQ:pl=ys.length
     ·have hm0:=zH (hGI.out.1 bQ);have ee:((pl:Int) == (ys.length:Int))=true:=by rw[beq_iff_eq];omega
      clear bQ;refine zy qj (qH []) (List.replicate 26 true) 0 (vW l') zQ zQ zQ zQ zQ zQ zQ zQ zQ ?st (Rel.drew _ _) ?walk
      case st=>exact qk (fun _ h=>by cases h)
      case walk =>
       intro K hK;dsimp only[qt,List.replicate];repeat ((first|(refine qd ?_ zA0 zA0 (fun W hW _=>⟨W,?_,Rel.refl _ W⟩) ?_;rotate_left;(go_simp<;>with_reducible rfl))|(refine qh zA0 ?_));try simp only[Act.put,ql,qg,qc,qf,Qu,QD,Qj,Qv,zA,zB,zC])
       refine qv (hK _ _ fun V hV hF=>?_);clear hF hK;have hV:Ext W' V:=hV;refine zC4 ?_
       gi_wp2_with fail
       gi_meet
       case rel=>exact⟨by rw[hm0.out];rfl,hV⟩
     ·have hlt:pl<ys.length:=by have:=uA.out;omega
      have ee:((pl:Int) == (ys.length:Int))=false:=by rw[beq_eq_false_iff_ne];omega
      by_cases hlv:lv=0
      ·have dK:=hGI.out.2.2 hlt hlv;obtain⟨bi,off,rfl,hbi⟩:=hA.out zO;obtain⟨A',c',d0,d1,d2,d3,d4,-⟩:=hMA.out.item pl hlt;have gd0:∀ W,qj.r W' W->_:=fun W h=>Ext.cell h d0;have gd1:∀ W,qj.r W' W->_:=fun W h=>Ext.cell h d1;have gd2:∀ W,qj.r W' W->_:=fun W h=>Ext.cell h d2;have gx:∀ W,qj.r W' W->∀ i,W.cell? ⟨w.heap.size+1,i,none⟩=#[.int .u8 x.k,.int .u32 x.i,.int .u32 x.o,.int .i64 x.r,.slice Ax x.val.length cx][i]?:=fun W h=>qa (qb rxW h);generalize ys[pl]=y at *;subst hlv;clear d0 d1 d2 d3 d4;replace dK:=zH dK;replace bQ:=zH bQ;refine zy qj (qH []) (List.replicate 26 true) 0 (vW l') zQ zQ zQ zQ zQ zQ zQ zQ zQ ?st (Rel.drew _ _) ?walk
       case st=>exact qk (fun _ h=>by cases h)
       case walk =>
        intro K hK;dsimp only[qt,List.replicate];repeat ((first|(refine qd ?_ zA0 zA0 (fun W hW _=>⟨W,?_,Rel.refl _ W⟩) ?_;rotate_left;(go_simp<;>with_reducible rfl))|(refine qh zA0 ?_));try simp only[Act.put,ql,qg,qc,qf,Qu,QD,Qj,Qv,zA,zB,zC])
        refine qd (.bool (!decide (qo y=(x.k,x.i,x.o)))) zA0 zA0 (fun W hW _=>⟨W,?_,Rel.refl _ W⟩) ?_
        ·go_simp;exact key_ifn y x.k x.i x.o W
        simp only[Act.put,qg,qc,qf,Qu,QD,Qj,Qv,zA,zB,zC];repeat ((first|(refine qd ?_ zA0 zA0 (fun W hW _=>⟨W,?_,Rel.refl _ W⟩) ?_;rotate_left;(go_simp<;>with_reducible rfl))|(refine qh zA0 ?_));try simp only[Act.put,ql,qg,qc,qf,Qu,QD,Qj,Qv,zA,zB,zC])
        refine qv (hK _ _ fun V hV hF=>?_);clear hF hK;have hV:Ext W' V:=hV;refine zC4 ?_
        gi_wp2_with fail
        gi_meet
        case rel =>refine⟨?_,hV⟩;rw[dK.out];by_cases hk:qo y=(x.k,x.i,x.o) <;> simp[hk]
      ·have hm0:=zH (hGI.out.2.1 hlt hlv);have el:((lv:Int) == 0)=false:=by rw[beq_eq_false_iff_ne];omega
       replace hlv:=zH hlv;replace bQ:=zH bQ;refine zy qj (qH []) (List.replicate 26 true) 0 (vW l') zQ zQ zQ zQ zQ zQ zQ zQ zQ ?st (Rel.drew _ _) ?walk
       case st=>exact qk (fun _ h=>by cases h)
       case walk =>
        intro K hK;dsimp only[qt,List.replicate];repeat ((first|(refine qd ?_ zA0 zA0 (fun W hW _=>⟨W,?_,Rel.refl _ W⟩) ?_;rotate_left;(go_simp<;>with_reducible rfl))|(refine qh zA0 ?_));try simp only[Act.put,ql,qg,qc,qf,Qu,QD,Qj,Qv,zA,zB,zC])
        refine qv (hK _ _ fun V hV hF=>?_);clear hF hK;have hV:Ext W' V:=hV;refine zC4 ?_
        gi_wp2_with fail
        gi_meet
        case rel=>exact⟨by rw[hm0.out];rfl,hV⟩
    case rest =>
     obtain⟨rfl,xc⟩:=hcut;have hma:many=0\/many=1:=uT.out.1;clear hGI;have hOK:=qb yz xc;have hLD:=zH (hCA.out.ck (Ql.of_ext xc));have hitc:=zH (hMA.out.ext xc);have oU:bC.length=ys.length:=by rw[<-e11H.out,List.length_map]
     have hNB:eu.length=ups.length:=by rw[<-hLX.out,List.length_map]
     have one1:∀ u∈qY bC,u.oneCell'=true:=qaP bC fun p hp=>by obtain⟨A,c,e⟩:=(hCU.out.2 p hp).1;rw[e];rfl
     have one2:∀ u∈qY eu,u.oneCell'=true:=qaP eu fun p hp=>by obtain⟨A,c,e⟩:=(hDU.out p hp).1;rw[e];rfl
     have HCl:Hid (∀ W,Ext wc W->Calls prog 102 #[.slice A9 ys.length c9] W (Za (fun u w'=>w'.ownsRow W.heap.size 68 5 u ys.length (qY bC)) W)):=zH fun W hW=>by obtain⟨⟨A,c,e,_,_,hr⟩,_⟩:=hCU.out;rw[oU] at e hr;cases e;exact qfz A9 ys.length c9 (qY bC) (by have:=hCG.out;omega) one1 W (hr W ((hLD.out.kx).trans (Qh.of_ext hW) fun _ _ h=>h))
     have yw:=zH (Zr hMW.out fun q hq=>Below.block xc q (QM hMW.out q hq).2);have HRp:Hid (∀ (V:World) (Ac:Option Addr) (cc:Nat),Ext wc V->V.ownsRow wc.heap.size 68 5 (.slice Ac ys.length cc) ys.length (qY bC)->Calls prog 101 #[.slice Ac ys.length cc,.int .i64 (pl:Int),.int .i64 ((pl+many:Nat):Int),.slice Au ups.length cu] V (YH wc.heap.size (.slice Ac ys.length cc) (ys.length-many+ups.length) ((qY bC).take (pl*5)++qY eu++(qY bC).drop ((pl+many)*5)) V)):=zH fun V Ac cc hV ho =>
      qgj wc.heap.size _ ys.length pl many (qY bC) (.slice Au ups.length cu) ups.length 0 (qY eu) V ho (Zr yw.out fun q hq=>Below.block hV q (QM yw.out q hq).2) (fun q hq og=>by have h1:=(QM yw.out q hq).2;have h2:=(QM ho q og).1;omega) hIE.out.1 (by have:=hCG.out;have:=hIE.out.2;omega) uT.out.1 uT.out.2 one1 one2 hV.size
     have g14:∀ W,qj.r wc W->∀ i,W.cell? ⟨t14,i,none⟩=#[.int .i64 (lv:Int),.slice A9 ys.length c9,.int .i64 (pl:Int)][i]?:=fun W h=>qa (qb hOK h);have gU:∀ W,qj.r wc W->∀ i,W.cell? ⟨w4.heap.size+1,i,none⟩=#[.slice Au ups.length cu][i]?:=fun W h=>qa (qb (qb rUH.out xc) h);have hw0:IntKind.i64.wrap (pl:Int)=(pl:Int):=by rw[IntKind.wrap_i64];have:=uA.out;have:=hCG.out;omega
     have aA:IntKind.i64.wrap ((pl:Int)+1)=(pl:Int)+1:=by rw[IntKind.wrap_i64];have:=uA.out;have:=hCG.out;omega
     have hmyK:=hmyH;replace oU:=zH oU;replace hNB:=zH hNB;have hJK:=uT;clear uT hmyK;obtain⟨its,aJ⟩:∃ its,its=VL ys pl many ups:=⟨_,rfl⟩
     have hiE:ys.length-many+ups.length=its.length:=by rw[aJ];unfold VL;simp only[List.length_append,List.length_take,List.length_drop];have h3:=uA.out;have h4:=hJK.out.2;omega
     have hil:its.length<=100/\0<its.length:=by rw[<-hiE];have h5:=hCG.out;have h6:=hIE.out;omega
     replace hiE:=zH hiE;rcases hma with rfl|rfl
     all_goals
      gi_upto_region 14 with fail
      refine zy qj (qH [(3,qaA wc.heap.size ys.length (qY bC))]) (List.replicate 11 true) 2 (vW l') zQ zQ zQ zQ zQ zQ zQ zQ zQ ?st (Rel.drew _ _) ?walk
      case st=>exact qk (by simp only[List.forall_mem_cons];exact⟨qbr _ _ _,fun _ h=>by cases h⟩)
      case walk =>
       intro K hK;dsimp only[qt,List.replicate];repeat ((first|(refine qd ?_ zA0 zA0 (fun W hW _=>⟨W,?_,Rel.refl _ W⟩) ?_;rotate_left;(go_simp<;>with_reducible rfl))|(refine qh zA0 ?_));try simp only[Act.put,ql,qg,qc,qf,Qu,QD,Qj,Qv,zA,zB,zC])
       refine qw (qaA wc.heap.size ys.length (qY bC)) zA0 zA0 (fun W hW _=>?_) (fun p=>?_)
       ·have ak:Ext wc W:=hW;refine Qi ?_ ((HCl.out W ak).mono fun e w' h=>?_)
        ·go_simp
        obtain⟨u,rfl,hu,hB⟩:=h;obtain⟨Ac,cc,rfl,_,_⟩:=qz hu;exact⟨(Ac,cc),rfl,QG hu ak.size,hB⟩
       obtain⟨Ac,cc⟩:=p;simp only[Act.put,qg,qc,qf,Qu,QD,Qj,Qv,zA,zB,zC];repeat ((first|(refine qd ?_ zA0 zA0 (fun W hW _=>⟨W,?_,Rel.refl _ W⟩) ?_;rotate_left;(go_simp<;>with_reducible rfl))|(refine qh zA0 ?_));try simp only[Act.put,ql,qg,qc,qf,Qu,QD,Qj,Qv,zA,zB,zC])
       refine qv (hK _ _ fun V hV hF=>?_);have hoV:V.ownsRow wc.heap.size 68 5 (.slice Ac ys.length cc) ys.length (qY bC):=(hF 3).1;clear hF hK g14 gU;have hV:Ext wc V:=hV;refine zC4 ?_;have HR:=zH (HRp.out V Ac cc hV hoV);clear HRp HCl
       gi_wp2_with fail
       refine⟨trivial,(CallsIn.inRound _ (callsIn_wide.2 HR.out)).mono ?_⟩;clear HR;rintro e w9 ⟨v9,rfl,ho9,hB9,-⟩;have x9:Ext wc w9:=Below.trans hV hB9;have x19:Ext W' w9:=xc.trans x9;clear hB9 hoV;have uB:=Bch.ext hbcH.out x19;obtain⟨mF,-,yj,-,-,-,yB⟩:=uB.size;have sZ:∀ q,B3 b g k' q->w5.heap.size<=q:=fun q hq=>by
        rcases hq with rfl|rfl|e
        ·exact mF
        ·exact yj
        ·exact(yB q e).1
       rw[Gz,<-Gy,<-vw,<-vw] at ho9;have s25:w.heap.size<=w5.heap.size:=x5.size;have hX9:=kh.of_own (X:=B3 b g k') ho9 (by
        have h1:=oU.out;have h2:=hNB.out;have h3:=uA.out;have h4:=hJK.out.2;simp only[List.length_append,List.length_take,List.length_drop];omega) (fun q hq=>by
        obtain⟨cur,hc⟩:=ja ho9 hq;exact uB.notB3 hc zD zD zD) (fun p hp=>by
        have hI:∀ p∈bC,(∃ A c,p.2=.slice A p.1.val.length c)/\∀ C,Qh (B3 b g k') w9 C->Bys C C.heap.size p.2 p.1.val:=fun p hp=>⟨(hCU.out.2 p hp).1,fun C hC=>(hCU.out.2 p hp).2 C ((hCA.out.kx.trans (Qh.of_ext (X:=fun q=>q<w2.heap.size) x19) fun _ _ h=>h).trans hC fun q h1 h2=>by have:=sZ q h2;omega)⟩
        rcases List.mem_append.1 hp with hp|hp
        ·rcases List.mem_append.1 hp with hp|hp
         ·exact hI p (List.mem_of_mem_take hp)
         ·exact⟨(hDU.out p hp).1,fun C hC=>((hDU.out p hp).2).keepX ((Qh.of_ext (X:=B3 b g k') x19).trans hC fun _ _ h=>h) fun q h1 h2=>by have:=sZ q h2;omega⟩
        ·exact hI p (List.mem_of_mem_drop hp))
       have hrpl:∀ m,(List.map (·.1) (bC.take pl++eu++bC.drop (pl+m)))=VL ys pl m ups:=fun m=>by unfold VL;rw[List.map_append,List.map_append,List.map_take,List.map_drop,e11H.out,hLX.out]
       rw[hrpl] at hX9;clear hrpl;obtain⟨A8,c8,rfl,-,-⟩:=qz ho9;have hoU9:=Zr yw.out fun q hq=>Below.block x9 q (QM yw.out q hq).2;have uK:=hGT.out _ _ hgrH.out;rw[<-aJ] at hX9 uK;have lH:∀ y∈its,Zm y:=fun y hy=>by
        rw[aJ] at hy;unfold VL at hy;rcases List.mem_append.1 hy with hy|hy
        ·rcases List.mem_append.1 hy with hy|hy
         ·exact(hWiH.out y (List.mem_of_mem_take hy)).1
         ·exact(hEI.out y hy).1
        ·exact(hWiH.out y (List.mem_of_mem_drop hy)).1
       have hioH:=zH lH;have HBd:=zH (qcG D' w.heap.size w5.heap.size b g k' S' hS'H.out (lv:Int) A8 _ c8 its lH hil.2 hil.1 0 (.slice Au ups.length cu) eu ups hLX.out (fun p hp=>(hDU.out p hp).1) (fun y hy=>(hEI.out y hy).2) (by have:=hIE.out.2;omega) w9 uB hX9 hoU9);rw[hiE.out] at HBd ⊢;have eG:=zH (hLD.out.ck (Ql.of_ext x9));have hr9:=qb hOK x9;have k14:=qa hr9;have rU9:=qb rUH.out x19;have kU:=qa rU9;have kT:=qa eG.out.rT;have k4:=qa eG.out.r4;replace aJ:=zH aJ;clear hX9 lH ho9 hCU hMA hitc hDU hMW yw hA hOK yz
       gi_wp2_with fail
       refine⟨trivial,(CallsIn.inRound _ (callsIn_wide.2 HBd.out)).mono ?_⟩;clear HBd;intro e w10 hbq;obtain⟨dX,aT⟩:=hbq.split;clear hbq;have nB:∀ {q cs ty fr},w9.heap[q]?=some (.cells cs ty fr)->ty≠191->ty≠5->ty≠130->¬B3 b g k' q:=fun hr h1 h2 h3=>uB.notB3 hr h1 h2 h3;have iy:=dX.row rU9 (nB rU9 zD zD zD);have hAI:=dX.row eG.out.rT (nB eG.out.rT zD zD zD);have fD:=dX.row eG.out.r4 (nB eG.out.r4 zD zD zD);have pF:=dX.row eG.out.r3 (nB eG.out.r3 zD zD zD);have nU:=dX.row eG.out.r2 (nB eG.out.r2 zD zD zD);have rx10:=dX.row eG.out.rx (nB eG.out.rx zD zD zD);have hOE:=dX.row eG.out.rS (nB eG.out.rS zD zD zD);have hko:=(KeepsOthers.of_ext x19).trans (uB.others dX);have fF:=(i4.trans (Below.mono x19 i4.size)).trans (Below.mono dX.below s25);have hCZ:=dX.keepX;have hk7:=dX.row eG.out.rS (nB eG.out.rS zD zD zD);have hkr:=fun q (h:q<w5.heap.size)=>dX.rows q (by have:=uB.size.2.2.2.2.2.1;omega) fun hx=>by have:=sZ q hx;omega
       have hHC:=eG.out.kx;clear dX eG rU9 kU kT k4 k14;rcases aT with ⟨er,rQ,rfl⟩|⟨up2,S2,k2,D2,A2',c2',rQ,rfl,hNk,hND,fO,hS2,dG⟩
       ·have hga:=zH (uK.trans rQ.out);have hne0:(er != 0)=true:=by rw[bne_iff_ne];exact KK rQ.out
        have hES:=qa iy;have hER:=qa fD;have hBT:=qe iy;have hBR:=qe fD;replace hko:=zH hko;replace fF:=zH fF;clear uK hCZ hk7 hkr hHC nB rQ hAI rx10 hOE uB
        gi_upto_region 17 with fail
        generalize nS:World.setCell (World.setCell w10 _ _) _ _=sV;obtain⟨t1,t2,t3,t4,t5,t6⟩:=UC (C:=sV) iy fD zO nS.symm;clear nS hES hER hBT hBR;have gE:∀ W,qj.r sV W->∀ i,W.cell? ⟨w.heap.size+1+1+1+1,i,none⟩=#[.int .i64 er][i]?:=fun W h=>qa (qb t2 h);have q2:=(t3 (w.heap.size+2) zO zO).trans nU;have q3:=(t3 (w.heap.size+3) zO zO).trans pF;refine zy qj (qH [(2,ZL),(3,ZL)]) (List.replicate 4 true) 1 (vW l') zQ zQ zQ zQ zQ zQ zQ zQ zQ ?st (Rel.drew _ _) ?walk
        case st=>exact qk (by simp only[List.forall_mem_cons];exact⟨ZA,ZA,fun _ h=>by cases h⟩)
        case walk =>
         intro K hK;dsimp only[qt,List.replicate];repeat ((first|(refine qd ?_ zA0 zA0 (fun W hW _=>⟨W,?_,Rel.refl _ W⟩) ?_;rotate_left;(go_simp<;>with_reducible rfl))|(refine qh zA0 ?_));try simp only[Act.put,ql,qg,qc,qf,Qu,QD,Qj,Qv,zA,zB,zC])
         refine qw ZL zA0 zA0 (fun V hV _=>?_) (fun (p:Unit)=>?_)
         ·have hV:Ext sV V:=hV;have q8:=qb q2 hV;have k8:=qa q8;have f8:=qe q8;refine jO ?_ (same4 q8);go_simp
         simp only[Act.put,qg,qc,qf,Qu,QD,Qj,Qv,zA,zB,zC];repeat ((first|(refine qd ?_ zA0 zA0 (fun W hW _=>⟨W,?_,Rel.refl _ W⟩) ?_;rotate_left;(go_simp<;>with_reducible rfl))|(refine qh zA0 ?_));try simp only[Act.put,ql,qg,qc,qf,Qu,QD,Qj,Qv,zA,zB,zC])
         refine qw ZL zA0 zA0 (fun V hV _=>?_) (fun (p:Unit)=>?_)
         ·have hV:Ext sV V:=hV;have q8:=qb q3 hV;have k8:=qa q8;have f8:=qe q8;refine jO ?_ (same1 q8);go_simp
         simp only[Act.put,qg,qc,qf,Qu,QD,Qj,Qv,zA,zB,zC];repeat ((first|(refine qd ?_ zA0 zA0 (fun W hW _=>⟨W,?_,Rel.refl _ W⟩) ?_;rotate_left;(go_simp<;>with_reducible rfl))|(refine qh zA0 ?_));try simp only[Act.put,ql,qg,qc,qf,Qu,QD,Qj,Qv,zA,zB,zC])
         refine qv (hK _ _ fun V hV hF=>?_);clear hF hK gE;have hV:Ext sV V:=hV;refine zC4 ?_;have q2V:=qb q2 hV;have q3V:=qb q3 hV;have q4V:=qb t2 hV;have ke:=qa q4V;have fe:=qe q4V;have zV:=hV.size;have z11:w.heap.size+4<sV.heap.size:=(zG.1 t2).1;have zc:w.heap.size+1+1<V.heap.size:=zO;have zd:w.heap.size+1+1+1<V.heap.size:=zO
         gi_wp2_with fail
         have hV2:=hV.trans (same1 q4V);exact⟨((hko.out.trans t5).trans (KeepsOthers.of_ext hV2)).from _,⟨er,_,rfl,hga.out,⟨qb q2 hV2,qb q3 hV2,qb t2 hV2⟩,Ql.refl _⟩,(t6 zO zO fF.out).trans (Below.mono hV2 zO)⟩
       ·have hga:=zH (uK.trans rQ.out);obtain⟨-,ut,nR⟩:=KL hioH.out (fun y hy=>(hEI.out y hy).2) hS'H.out rQ.out;have hES:=qa iy;have hER:=qa fD;have hBT:=qe iy;have hBR:=qe fD;replace hko:=zH hko;replace fF:=zH fF;have hKS:=zH (hOE.trans hCA.out.rS.symm);have zW7:w7.heap.size<W'.heap.size:=(zG.1 hCA.out.rS).1;have z67:=x67.size;have z19:=x19.size;have hKb:=zH ((hkr b2 zO).trans (x19.block b2 zO));replace ut:=zH ut;replace nR:=zH nR;replace fO:=zH fO;replace dG:=zH dG;replace hHC:=zH (hHC.trans hCZ fun q hq hx=>by have:=sZ q hx;omega);clear uK hCZ hk7 hkr nB rQ uB sZ hCA hLD
        gi_wp2_with fail
        generalize nS:World.setCell (World.setCell w10 _ _) _ _=sV;obtain⟨t1,t2,t3,t4,t5,t6⟩:=UC (C:=sV) iy fD zO nS.symm;clear nS hES hER hBT hBR;refine⟨(hko.out.trans t5).from _,⟨(t3 _ zO zO).trans hKS.out,(t3 _ zO hne4).trans hKb.out⟩,⟨sV,?_,Ql.refl _⟩,t6 zO zO fF.out⟩;refine⟨⟨up2,S2,k2,D2,A2',c2',upV up2,hga.out,hS2.out,ut.out.1,ut.out.2,?_,fun y hy=>⟨(nR.out y hy).1,.inr (nR.out y hy).2.1.1,(nR.out y hy).2.1.2⟩,fun p hp=>?_,t1,Zr (QG dG.out (Nat.zero_le _)) (fun q hq=>t3 q ?_ ?_),fO.out.kept (t6 zO zO (Below.refl _ _)) fun q h _=>t3 q zO zO⟩,(t3 _ zO zO).trans rx10,(t3 _ zO zO).trans nU,(t3 _ zO zO).trans pF,t2,(t3 _ zO zO).trans hAI,(t3 _ zO zO).trans hOE,?_⟩
        ·unfold upV;rw[List.map_map];exact List.map_id' _
        ·obtain⟨y,hy,rfl⟩:=List.mem_map.1 hp;have hv:=(nR.out y hy).2.2;simp only[hv];exact⟨⟨none,0,rfl⟩,none,0,rfl,zM _,zA6,Rd.none_⟩
        ·have:=(QM dG.out q hq).1;omega
        ·have:=(QM dG.out q hq).1;omega
        ·exact hHC.out.trans (Qh.of_heap (X:=fun q=>q=w4.heap.size+1\/q=w.heap.size+4) fun k _ hX=>t3 k (fun e=>hX (.inl e)) fun e=>hX (.inr e)) fun k hk hx=>zO
   case done =>
    rintro D ys W hD eX ⟨⟨Wb,hPI,oO⟩,i4⟩ hK;subst oN;have tq:=hPI.ck oO;obtain⟨ups,S',k',D',Au,cu,eu,bM,tC,uq,sK,tH,oq,uY,hrU,wL,bz⟩:=tq.ex;rw[eX,mJ,qgn l l.length (zM _),List.take_of_length_le zA2] at bM;have hJU:Hid (Gg S lvl xs x=if 1<ups.length then QW S' ((l.length:Nat):Int) ups ups else .ok (ups,S')):=zH (by rw[hDT.out,bM]);clear hDT bM;have uC:=i4;have z8:=x8.size;have zz8:w.heap.size+4<w8.heap.size:=(zG.1 hI0.out.r4).1;have zUW:w4.heap.size+1<W.heap.size:=(zG.1 hrU).1;have kU:=qa hrU;have kT:=qa tq.rT;have hcc:=(qz wL)
    replace bz:=zH bz;replace wL:=zH wL;replace tH:=zH tH;replace uY:=zH uY;replace oq:=zH oq;replace tC:=zH tC;replace sK:=zH (And.intro uq sK);have rW2:=tq.r2;have rW3:=tq.r3;have rW4:=tq.r4;have rWT:=tq.rT;replace eX:=zH eX;clear uq tq hPI oO hGV hcc;go_upto_if 98 with fail;go_cut [] from 96 (fun wx=>PutD (Gg S lvl xs x) w.heap.size w5.heap.size b g (w4.heap.size+1) w6.heap.size D w wx)
    case first =>
     by_cases h2:1<ups.length
     case neg =>
      have e1:decide ((1:Int)<(ups.length:Int))=false:=decide_eq_false zO;have e3:¬((1:Int)<(ups.length:Int)):=zO;have oG:=zH (show Gg S lvl xs x=.ok (ups,S') by rw[hJU.out,if_neg h2]);replace h2:=zH h2;go_wp2_with fail;go_meet
      case rel=>exact⟨⟨ups,S',k',D',Au,cu,eu,oG.out,tC.out,sK.out.1,tH.out,hrU,wL.out,bz.out,fun y hy=>(oq.out y hy).2⟩,rW2,rW3,rW4,rWT,hK,uC⟩
     case pos =>
      have e3:(1:Int)<(ups.length:Int):=zO;have e4:¬(ups.length:Int)<=1:=zO;have oG:=zH (show Gg S lvl xs x=QW S' ((l.length:Nat):Int) ups ups by rw[hJU.out,if_pos h2]);have bQ:eu.length=ups.length:=by rw[<-tH.out,List.length_map]
      have lL:∀ q,(Value.slice Au ups.length cu).ownBlock=some q->¬B3 b g k' q:=fun q hq=>by obtain⟨cur,hc⟩:=ja wL.out hq;exact bz.out.notB3 hc zD zD zD
      have sZ:∀ q,B3 b g k' q->w5.heap.size<=q:=fun q hq=>(bz.out.b3 q hq).1;have hX:=kh.of_own (X:=B3 b g k') wL.out bQ lL (fun p hp=>⟨(uY.out p hp).1,fun C hC=>(uY.out p hp).2.keepX hC fun q h1 hq=>by have:=sZ q hq;omega⟩);rw[tH.out] at hX;have HBd:=zH (qcG D' w.heap.size w5.heap.size b g k' S' tC.out ((l.length:Nat):Int) Au _ cu ups (fun y hy=>(oq.out y hy).1) sK.out.1 (by have:=sK.out.2;omega) 0 (.slice Au ups.length cu) eu ups tH.out (fun p hp=>(uY.out p hp).1) (fun y hy=>(oq.out y hy).2) (by have:=sK.out.2;omega) W bz.out hX wL.out);replace h2:=zH h2;clear hX bQ;go_wp2_with fail;refine HBd.out.mono ?_;clear HBd;intro e w10 hbq;obtain⟨dX,aT⟩:=hbq.split;clear hbq;have nB:∀ {q cs ty fr},W.heap[q]?=some (.cells cs ty fr)->ty≠191->ty≠5->ty≠130->¬B3 b g k' q:=fun hr h1 h2 h3=>bz.out.notB3 hr h1 h2 h3;have iy:=dX.row hrU (nB hrU zD zD zD);have hAI:=dX.row rWT (nB rWT zD zD zD);have fD:=dX.row rW4 (nB rW4 zD zD zD);have pF:=dX.row rW3 (nB rW3 zD zD zD);have nU:=dX.row rW2 (nB rW2 zD zD zD);have yP:=(bz.out.others dX).same D _ hK rfl;have s25:w.heap.size<=w5.heap.size:=x5.size;have fF:=uC.trans (Below.mono dX.below s25);have hES:=qa iy;have hER:=qa fD;have hBT:=qe iy;have hBR:=qe fD;have zU:w4.heap.size+1≠w.heap.size+4:=by have:=z8;omega
      have zz:w.heap.size+4<D:=zO;replace fF:=zH fF;clear kU kT nB dX uC;rcases aT with ⟨er,rQ,rfl⟩|⟨up2,S2,k2,D2,A2',c2',rQ,rfl,hNk,hND,fO,hS2,dG⟩
      ·have uZ:=zH (show q=.error er by rw[og.out,oG.out,rQ.out]);have hne0:(er != 0)=true:=by rw[bne_iff_ne];exact KK rQ.out
       clear rQ oG og;go_upto_region 21 with fail;generalize nS:World.setCell (World.setCell w10 _ _) _ _=sV;obtain⟨t1,t2,t3,t4,t5,t6⟩:=UC (C:=sV) iy fD zU nS.symm;clear nS hES hER hBT hBR;have gE:∀ W,qj.r sV W->∀ i,W.cell? ⟨w.heap.size+1+1+1+1,i,none⟩=#[.int .i64 er][i]?:=fun W h=>qa (qb t2 h);have q2:=(t3 (w.heap.size+2) zO zO).trans nU;have q3:=(t3 (w.heap.size+3) zO zO).trans pF;have qK:=t5.same D _ yP rfl;refine qp zQ ?_;refine qQ (w:=sV) qj (qH [(2,ZL),(3,ZL)]) (List.replicate 4 true) 1 zQ zQ zQ zQ zQ zQ zQ ?st (Rel.drew _ _) ?walk
       case st=>exact qk (by simp only[List.forall_mem_cons];exact⟨ZA,ZA,fun _ h=>by cases h⟩)
       case walk =>
        intro K hK;dsimp only[qt,List.replicate];repeat ((first|(refine qd ?_ zA0 zA0 (fun W hW _=>⟨W,?_,Rel.refl _ W⟩) ?_;rotate_left;(go_simp<;>with_reducible rfl))|(refine qh zA0 ?_));try simp only[Act.put,ql,qg,qc,qf,Qu,QD,Qj,Qv,zA,zB,zC])
        refine qw ZL zA0 zA0 (fun V hV _=>?_) (fun (p:Unit)=>?_)
        ·have hV:Ext sV V:=hV;have q8:=qb q2 hV;have k8:=qa q8;have f8:=qe q8;refine jO ?_ (same4 q8);go_simp
        simp only[Act.put,qg,qc,qf,Qu,QD,Qj,Qv,zA,zB,zC];repeat ((first|(refine qd ?_ zA0 zA0 (fun W hW _=>⟨W,?_,Rel.refl _ W⟩) ?_;rotate_left;(go_simp<;>with_reducible rfl))|(refine qh zA0 ?_));try simp only[Act.put,ql,qg,qc,qf,Qu,QD,Qj,Qv,zA,zB,zC])
        refine qw ZL zA0 zA0 (fun V hV _=>?_) (fun (p:Unit)=>?_)
        ·have hV:Ext sV V:=hV;have q8:=qb q3 hV;have k8:=qa q8;have f8:=qe q8;refine jO ?_ (same1 q8);go_simp
        simp only[Act.put,qg,qc,qf,Qu,QD,Qj,Qv,zA,zB,zC];repeat ((first|(refine qd ?_ zA0 zA0 (fun W hW _=>⟨W,?_,Rel.refl _ W⟩) ?_;rotate_left;(go_simp<;>with_reducible rfl))|(refine qh zA0 ?_));try simp only[Act.put,ql,qg,qc,qf,Qu,QD,Qj,Qv,zA,zB,zC])
        refine qv (hK _ _ fun V hV hF=>?_);clear hF hK gE;have hV:Ext sV V:=hV;refine zC4 ?_;have q4V:=qb t2 hV;have ke:=qa q4V;have fe:=qe q4V;go_wp2;refine Qo ?_;go_wp2_with fail;have hV2:=hV.trans (same1 q4V);have z11:w.heap.size+4<sV.heap.size:=(zG.1 t2).1;have qKV:=qb qK hV2;exact Ut rfl rfl rfl rfl qKV zz (qb q2 hV2) (qb q3 hV2) (qb t2 hV2) ⟨_,rfl,by rw[uZ.out];rfl,((t6 zO zO fF.out).trans (Below.mono hV2 zO)).trans (belowK_b (w:=w) (zM _) _ D _ _ zO qKV rfl rfl)⟩
      ·have hq4:=zH (oG.out.trans rQ.out);obtain⟨-,ut,nR⟩:=KL (fun y hy=>(oq.out y hy).1) (fun y hy=>(oq.out y hy).2) tC.out rQ.out;replace ut:=zH ut;replace nR:=zH nR;replace fO:=zH fO;replace dG:=zH dG;clear rQ oG;go_wp2_with fail;go_meet
       case rel =>
        generalize nS:World.setCell (World.setCell w10 _ _) _ _=sV;obtain⟨t1,t2,t3,t4,t5,t6⟩:=UC (C:=sV) iy fD zU nS.symm;clear nS;have zT:w6.heap.size≠w4.heap.size+1/\w6.heap.size≠w.heap.size+4:=by have:=dP.size;omega
        refine⟨⟨up2,S2,k2,D2,A2',c2',upV up2,hq4.out,hS2.out,ut.out.1,?_,t1,Zr (QG dG.out (Nat.zero_le _)) (fun q hq=>t3 q ?_ ?_),fO.out.kept (t6 zO zO (Below.refl _ _)) fun q h _=>t3 q zO zO,fun y hy=>⟨.inr (nR.out y hy).2.1.1,(nR.out y hy).2.1.2⟩⟩,(t3 _ zO zO).trans nU,(t3 _ zO zO).trans pF,t2,(t3 _ zT.1 zT.2).trans hAI,t5.same D _ yP rfl,t6 zO zO fF.out⟩
        ·unfold upV;rw[List.map_map];exact List.map_id' _
        ·have:=(QM dG.out q hq).1;omega
        ·have:=(QM dG.out q hq).1;have:=(zG.1 rW4).1;omega
    case rest =>
     obtain⟨⟨ups,S',k',D',Au,cu,eu,oG,tC,uq,tH,hrU,wL,bz,hIG⟩,rW2,rW3,rW4,rWT,hK,uC⟩:=hcut;have HL:=zH (qaL D' w.heap.size w5.heap.size b g k' S' tC a ha aj wc bz);have hq5:=zH (show q=match QQ S' (-1) S'.now a with
      |none=>.error 8
      |some t=>.ok (Yk ups,qy S' t) by rw[og.out,oG] <;> rfl)
     have kT:=qa rWT;replace oG:=zH oG;replace tH:=zH tH;replace wL:=zH wL;replace bz:=zH bz;replace hIG:=zH hIG;go_wp2_with fail;refine HL.out.mono ?_;clear HL;rintro e w10 ⟨dX,aT⟩;have nB:∀ {q cs ty fr},wc.heap[q]?=some (.cells cs ty fr)->ty≠191->ty≠5->ty≠130->¬B3 b g k' q:=fun hr h1 h2 h3=>bz.out.notB3 hr h1 h2 h3;have iy:=dX.row hrU (nB hrU zD zD zD);have hAI:=dX.row rWT (nB rWT zD zD zD);have fD:=dX.row rW4 (nB rW4 zD zD zD);have pF:=dX.row rW3 (nB rW3 zD zD zD);have nU:=dX.row rW2 (nB rW2 zD zD zD);have yP:=(bz.out.others dX).same D _ hK rfl;have s25:w.heap.size<=w5.heap.size:=x5.size;have fF:=uC.trans (Below.mono dX.below s25);have hDM:=dX.own wL.out (fun q hq=>by obtain⟨cur,hc⟩:=ja wL.out hq;exact nB hc zD zD zD);have zz:w.heap.size+4<D:=by have:=z8;omega
     have z10:w.heap.size+4<w10.heap.size:=(zG.1 fD).1;have zlo:w.heap.size+4<w5.heap.size:=zO;replace fF:=zH fF;clear nB dX uC kT hrU rWT rW4 rW3 rW2 hK wL;rcases hlv:QQ S' (-1) S'.now a with _|t
     ·rw[hlv] at aT;obtain rfl:=aT;have uZ:=zH (show q=.error 8 by rw[hq5.out,hlv]);have kc:=qa nU;have kd:=qa pF;have ke:=qa fD;have fc:=qe nU;have fd:=qe pF;have fe:=qe fD;replace hlv:=zH hlv;clear hq5;go_wp2_with fail;obtain⟨g4,g5,g6,hb,-,hk,-⟩:=qbx nU pF fD rfl;have qK:=(hk D zO).trans yP;exact Ut rfl rfl rfl rfl qK zz g4 g5 g6 ⟨_,rfl,by rw[uZ.out];rfl,(hb zO fF.out).trans (belowK_b (w:=w) (zM _) _ D _ _ zO qK rfl rfl)⟩
     ·rw[hlv] at aT;obtain⟨rfl,fO⟩:=aT;have uZ:=zH (show q=.ok (Yk ups,qy S' t) by rw[hq5.out,hlv]);have fK:Gu (qy S' t):=zu (Ue tC (Ya ha (qE.1 tC).2.1 hlv));replace hlv:=zH hlv;clear hq5;go_upto_region 25 with fail;obtain⟨bu,ou,rfl,hbu,hcu⟩:=(Rd.of_own hDM).2 uq;obtain⟨cur,hcur⟩:=ja hDM (q:=bu) rfl;have hbu2:bu≠w.heap.size+2:=qR hcur nU zD;have bQ:0<eu.length:=by have:=congrArg List.length tH.out;rw[List.length_map] at this;omega
      have hcr:w10.cell? ⟨bu,ou+3,none⟩=some (.int .i64 (Yk ups:Int)):=by
       obtain⟨-,-,-,g3,-⟩:=ve eu 0 bQ;have h1:=hcu _ _ g3;have h2:eu[0].1.r=(Yk ups:Int):=by
        obtain⟨y,ys,hy⟩:∃ y ys,ups=y :: ys:=by
         cases ups with
         |nil=>simp at uq
         |cons y ys=>exact⟨y,ys,rfl⟩
        have h3:eu[0].1=y:=by
         have h4:(eu.map (·.1))[0]?=ups[0]?:=by rw[tH.out]
         rw[List.getElem?_map,zL bQ,hy] at h4;simpa using h4
        have h5:=hIG.out y (by rw[hy];exact List.mem_cons_self);rw[h3,hy];show y.r=((y.r.toNat:Nat):Int)
        omega
       rw[h2] at h1;exact h1
      have hHS:=zH (fun W (h:(vn (w.heap.size+2) 28 (ji w10.heap.size (qy S' t)) (ji.keep zO)).r w10 W)=>by have h1:=fO.kept (Uy h (B0:=w.heap.size) zO zO) (fun q h1 h2=>Uz h h2 zO);obtain⟨A1,n1,c1,A2,n2,c2,c3,A4,c4,hr,hs⟩:=h1.sto;exact KJ b A1 n1 c1 A2 n2 c2 _ _ c3 A4 _ c4 (qy S' t) fK W hr hs);have hHD:w.heap.size+2<w10.heap.size:=zO;obtain⟨RR,bK⟩:∃ RR:Rel,RR=vn (w.heap.size+2) 28 (ji w10.heap.size (qy S' t)) (ji.keep hHD):=⟨_,rfl⟩
      replace bK:=zH bK;obtain⟨SF,hSF⟩:∃ SF,qy S' t=SF:=⟨_,rfl⟩
      rw[hSF] at uZ fO fK hHS bK;replace hSF:=zH hSF;obtain⟨rF,hrF⟩:∃ rF,Yk ups=rF:=⟨_,rfl⟩
      rw[hrF] at uZ hcr;have gT:∀ W,RR.r w10 W->∀ i,W.cell? ⟨w6.heap.size,i,none⟩=#[.pointer (some ⟨b,0,none⟩)][i]?:=fun W h=>qa (VO (bK.out ▸ h) zO hAI);have gU:∀ W,RR.r w10 W->∀ i,W.cell? ⟨w4.heap.size+1,i,none⟩=#[.slice (some ⟨bu,ou,none⟩) ups.length cu][i]?:=fun W h=>qa (VO (bK.out ▸ h) zO iy);have gC:∀ W,RR.r w10 W->W.cell? ⟨bu,ou+3,none⟩=some (.int .i64 (rF:Int)):=fun W h=>by have h:(vn _ _ _ _).r w10 W:=bK.out ▸ h;exact World.grownBy.cell h.1 hcr (fun x=>hbu2 (by simpa using x))
      clear hcur hcu hcr bQ tH hIG hDM hrF;refine qp zQ ?_;refine qQ (w:=w10) RR (qH [(1,outTw w10.heap.size SF),(6,Xw (w.heap.size+2) 28 (ji w10.heap.size SF))]) (List.replicate 7 true) 2 zQ zQ zQ zQ zQ zQ zQ ?st (Rel.drew _ _) ?walk
      case st=>rw[bK.out];exact qk (by simp only[List.forall_mem_cons];exact⟨qcn hHD,qbs,fun _ h=>by cases h⟩)
      case walk =>
       intro K hK;dsimp only[qt,List.replicate];repeat ((first|(refine qd ?_ zA0 zA0 (fun W hW _=>⟨W,?_,Rel.refl _ W⟩) ?_;rotate_left;(go_simp<;>with_reducible rfl))|(refine qh zA0 ?_));try simp only[Act.put,ql,qg,qc,qf,Qu,QD,Qj,Qv,zA,zB,zC])
       refine qw (outTw w10.heap.size SF) zA0 zA0 (fun W hW _=>?_) (fun p=>?_)
       ·rw[bK.out] at hW ⊢;refine Qi ?_ ((hHS.out W hW).mono fun e w' h=>?_)
        ·go_simp
        obtain⟨v,rfl,hT,hB⟩:=h;obtain⟨BB,WW,gg,A3',c3',A4',gy,rfl,-⟩:=id hT;exact⟨((BB,WW),(A3',c3'),(A4',gy)),rfl,QP.keep hT hW.1.size (zM _) (fun _ _ _=>rfl),qia hB⟩
       obtain⟨⟨BB,WW⟩,⟨A3',c3'⟩,⟨A4',gy⟩⟩:=p;simp only[Act.put,qg,qc,qf,Qu,QD,Qj,Qv,zA,zB,zC];repeat ((first|(refine qd ?_ zA0 zA0 (fun W hW _=>⟨W,?_,Rel.refl _ W⟩) ?_;rotate_left;(go_simp<;>with_reducible rfl))|(refine qh zA0 ?_));try simp only[Act.put,ql,qg,qc,qf,Qu,QD,Qj,Qv,zA,zB,zC])
       refine qw (Xw (w.heap.size+2) 28 (ji w10.heap.size SF)) zA0 zA0 (fun W hW hp=>?_) (fun (p:Unit)=>?_)
       ·have hT:QP w10.heap.size SF (Qd (some ⟨BB,0,none⟩) SF.bs.length SF.bs.length (some ⟨WW,0,none⟩) SF.ws.length (SF.ws.length+1) A3' SF.now.length c3' A4' SF.last.length gy) W:=(hp 1 zD).1;rw[bK.out] at hW ⊢;have hr0:=twin_own hHD hW nU;obtain⟨u0,u1,u2,u3,q8⟩:=id hr0;have k8:=qa q8;have f8:=qe q8;refine qfx hHD hr0 hT ?_;clear hT hr0;go_simp
       simp only[Act.put,qg,qc,qf,Qu,QD,Qj,Qv,zA,zB,zC];repeat ((first|(refine qd ?_ zA0 zA0 (fun W hW _=>⟨W,?_,Rel.refl _ W⟩) ?_;rotate_left;(go_simp<;>with_reducible rfl))|(refine qh zA0 ?_));try simp only[Act.put,ql,qg,qc,qf,Qu,QD,Qj,Qv,zA,zB,zC])
       refine qv (hK _ _ fun V hV hF=>?_);have hRT:∃ cs,V.heap[w.heap.size+2]?=some (.cells cs 28 (0,0))/\ji w10.heap.size SF cs V:=(hF 6).1;clear hF hK gT gU gC hHS;rw[bK.out] at hV;obtain⟨cs,q2,x0,x1,x2,x3,rfl,hTw⟩:=hRT;have q3:=VO hV (show w.heap.size+3≠w.heap.size+2 by omega) pF;have q4:=VO hV (show w.heap.size+4≠w.heap.size+2 by omega) fD;have qK:=VO hV (show D≠w.heap.size+2 by omega) yP;have xV:=Uy hV (B0:=w.heap.size) zO zO;have zV:=hV.1.size;have kd:=qa q3;have ke:=qa q4;have fd:=qe q3;have fe:=qe q4;have zd:w.heap.size+1+1+1<V.heap.size:=zO;replace hTw:=zH hTw;clear hV bK;refine zC4 ?_;go_wp2;refine Qo ?_;go_wp2_with fail;generalize aY:World.setCell (World.setCell V _ _) _ _=wf;obtain⟨t1,t2,t3,t4,t5,t6⟩:=UC (C:=wf) q3 q4 zO aY.symm;clear aY;have qKf:=t5.same D _ qK rfl;refine Ut rfl rfl rfl rfl qKf zz ((t3 _ zO zO).trans q2) t1 t2 ⟨_,rfl,?_,(t6 zO zO (fF.out.trans xV)).trans (belowK_b (w:=w) (zM _) _ D _ _ zO qKf rfl rfl)⟩;rw[uZ.out];refine⟨_,rfl,QP.keep hTw.out zO (by simp[World.putObj,t4]) fun k h1 h2=>?_⟩;exact(World.putObj_heap_other (by have:=(zG.1 yP).1;omega)).trans (t3 k zO zO)
   case stop =>
    rintro D cc pre W hD ⟨kk,hkk,rfl⟩ ⟨⟨er,Wb,rfl,hgx,⟨g4,g5,g6⟩,hCK⟩,hB⟩ hK;rw[mJ] at hkk hgx;rw[qgn l kk hkk] at hgx;have uZ:=zH (show q=.error er by rw[og.out,hDT.out,qhl hgx]);subst oN;have zz:w.heap.size+4<w8.heap.size:=(zG.1 hI0.out.r4).1
    gi_wp2_with fail
    have uC:Below w.heap.size w (W.putObj D (.deferred none)):=hB.trans (belowK_b (w:=w) (zM _) W D _ _ zO hK rfl rfl);exact Ut rfl rfl rfl rfl hK zO (hCK.row g4) (hCK.row g5) (hCK.row g6) ⟨_,rfl,by rw[uZ.out];rfl,uC⟩
end Go.Proofs.YtpbniokljofedaaGreat
