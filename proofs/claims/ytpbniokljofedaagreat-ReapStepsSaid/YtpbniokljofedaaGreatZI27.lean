/- Texts Put, joined. -/
import Derived.Test.YtpbniokljofedaaGreatZI25
import Derived.Test.YtpbniokljofedaaGreatZI26
set_option linter.unusedSimpArgs false
set_option linter.unusedVariables false
set_option maxHeartbeats 8000000
open Go.Proofs.Tryz
namespace Go.Proofs.YtpbniokljofedaaGreat
open Go.RowKit Go.Shelf
attribute [local go_sem] Oper.semAt_some
theorem qgv {n b:Nat} {R:Ending->World->Prop} {a:Act} {W:World} {x0 x1 x2 x3 y z:Value} (h4:a.tmps[6]?.getD undef=.pointer (some ⟨b+1+1,0,none⟩)) (h5:a.tmps[7]?.getD undef=.pointer (some ⟨b+1+1+1,0,none⟩)) (h6:a.tmps[8]?.getD undef=.pointer (some ⟨b+1+1+1+1,0,none⟩)) (hd:a.defers=[]) (r4:W.heap[b+2]?=some (.cells #[x0,x1,x2,x3] 28 (0,0))) (r5:W.heap[b+3]?=some (.cells #[y] 3 (0,0))) (r6:W.heap[b+4]?=some (.cells #[z] 36 (0,0))) (hR:R (.returned (.tuple #[.agg #[x0,x1,x2,x3],y,z])) W):bodyPostM Fence.wide n prog Tryz.f54 R .ret a W:=by
 have k4:=qa r4;have k5:=qa r5;have k6:=qa r6;change LeavesInM Fence.wide n prog Tryz.f54 a.tmps R a.defers .returning W;rw[hd];refine⟨.tuple #[.agg #[x0,x1,x2,x3],y,z],?_,hR⟩;simp[results,results54,go_sem,h4,h5,h6,k4,k5,k6]
theorem XZ {n b D:Nat} {R:Ending->World->Prop} {a:Act} {W:World} {x0 x1 x2 x3 y z:Value} (h4:a.tmps[6]?.getD undef=.pointer (some ⟨b+1+1,0,none⟩)) (h5:a.tmps[7]?.getD undef=.pointer (some ⟨b+1+1+1,0,none⟩)) (h6:a.tmps[8]?.getD undef=.pointer (some ⟨b+1+1+1+1,0,none⟩)) (hd:a.defers=[{ target:=.collected D,args:=#[] }]) (hK:W.heap[D]?=some (.deferred (some []))) (hD:b+4<D) (r4:W.heap[b+2]?=some (.cells #[x0,x1,x2,x3] 28 (0,0))) (r5:W.heap[b+3]?=some (.cells #[y] 3 (0,0))) (r6:W.heap[b+4]?=some (.cells #[z] 36 (0,0))) (hR:R (.returned (.tuple #[.agg #[x0,x1,x2,x3],y,z])) (W.putObj D (.deferred none))):bodyPostM Fence.wide n prog Tryz.f54 R .ret a W:=by
 have k4:=qa ((World.putObj_heap_other (o:=.deferred none) (show b+2≠D by omega)).trans r4);have k5:=qa ((World.putObj_heap_other (o:=.deferred none) (show b+3≠D by omega)).trans r5);have k6:=qa ((World.putObj_heap_other (o:=.deferred none) (show b+4≠D by omega)).trans r6);change LeavesInM Fence.wide n prog Tryz.f54 a.tmps R a.defers .returning W;rw[hd];refine⟨zA3,.inl ⟨_,_,rfl,run_takeDeferred hK,.tuple #[.agg #[x0,x1,x2,x3],y,z],?_,hR⟩⟩;simp[results,results54,go_sem,h4,h5,h6,k4,k5,k6]
def UO (lo n:Nat) (us:List Value):qS:=⟨Option Addr×Nat,fun p=>.slice p.1 n p.2,fun p W=>W.ownsRow lo 68 5 (.slice p.1 n p.2) n us⟩
theorem Qp (lo n:Nat) (us:List Value) (A:Option Addr) (c:Nat):(UO lo n us).f (A,c)=.slice A n c:=rfl
theorem GI (lo n:Nat) (us:List Value):∀ p,qC qk ((UO lo n us).φ p):=fun p W W' he h=>by have he:Ext W W':=he;have h:W.ownsRow lo 68 5 (.slice p.1 n p.2) n us:=h;exact QA h fun q hq=>Below.block he q (Ql h q hq).2
theorem key_ifn (x:It) (k i o:Int) (W:World):(if x.k=k then if x.i=i then if x.o=o then Result.ok (Next.value (Value.bool false)) W else Result.ok (Next.value (Value.bool true)) W else Result.ok (Next.value (Value.bool true)) W else Result.ok (Next.value (Value.bool true)) W)=Result.ok (Next.value (Value.bool (!decide (qE x=(k,i,o))))) W:=by
 have e:(qE x=(k,i,o))↔(x.k=k/\x.i=i/\x.o=o):=by unfold qE;simp only[Prod.mk.injEq]
 by_cases h1:x.k=k
 ·by_cases h2:x.i=i
  ·by_cases h3:x.o=o
   ·rw[if_pos h1,if_pos h2,if_pos h3,decide_eq_true (e.2 ⟨h1,h2,h3⟩)];rfl
   ·rw[if_pos h1,if_pos h2,if_neg h3,decide_eq_false (fun h=>h3 (e.1 h).2.2)];rfl
  ·rw[if_pos h1,if_neg h2,decide_eq_false (fun h=>h2 (e.1 h).2.1)];rfl
 ·rw[if_neg h1,decide_eq_false (fun h=>h1 (e.1 h).1)];rfl
theorem Qf.of_ext {W W':World} (h:Ext W W'):Qf W W':=⟨h.size,fun k o hk _=>(Below.block h k (zG.1 hk).1).trans hk⟩
theorem Ky.split {D:Nat->Prop} {B lo b g:Nat} {k:Option Nat} {S:Sto} {lvl:Int} {l held:List It} {w W:World} {e:Ending} (h:Ky D B lo b g k S lvl l held w e W):qY lo b g k w W /\ ((∃ er,Hid (QZ S lvl l held=.error er)/\e=.returned (.tuple #[.slice none 0 0,.int .i64 er])) \/
  (∃ up S' k' D' A c,Hid (QZ S lvl l held=.ok (up,S'))/\e=.returned (.tuple #[.slice A up.length c,.int .i64 0])/\Zf w.heap.size k k'/\Ks w.heap.size D D'/\Bch D' B lo b g k' S' W/\Hid (qo S'=true)/\W.ownsRow w.heap.size 68 5 (.slice A up.length c) up.length (qP (upV up)))):=by
 obtain⟨h1,h2⟩:=h;refine⟨h1,?_⟩;rcases hb:QZ S lvl l held with er|⟨up,S'⟩
 ·rw[hb] at h2;exact .inl ⟨er,zH rfl,h2⟩
 ·rw[hb] at h2;obtain⟨k',D',A,c,e1,e2,e3,e4,e5,e6,-⟩:=h2;exact .inr ⟨up,S',k',D',A,c,zH rfl,e1,e2,e3,e4,zH e5,e6⟩
set_option maxRecDepth 100000 in
theorem put_any (A1:Option Addr) (n1 c1:Nat) (A2:Option Addr) (n2 c2:Nat) (A3:Option Addr) (n3 c3:Nat) (A4:Option Addr) (n4 c4:Nat) (S:Sto) (hS:qo S=true) (a lvl:Nat) (xs:List It) (ha:8<=a) (bK:a<256) (hn:qv S a=some ((lvl:Int),xs)) (aU:(Qg S lvl xs).isSome=true) (x:It) (hxo:jq x) (Ax:Option Addr) (cx:Nat) (w:World) (aH:qU w w.heap.size (.slice A1 n1 c1) (.slice A2 n2 c2) (.slice A3 n3 c3) (.slice A4 n4 c4) S) (hxv:Bys w w.heap.size (.slice Ax x.val.length cx) x.val):Calls prog 54 #[Qd A1 n1 c1 A2 n2 c2 A3 n3 c3 A4 n4 c4,.int .i64 (a:Int),itV x Ax cx] w (QV (PutQ w.heap.size (TD S lvl xs a x)) w):=by
 have HA:=zH (fun W (hx:Ext w W)=>qfB A1 n1 c1 A2 n2 c2 A3 n3 c3 A4 n4 c4 S hS a lvl xs ha bK hn aU x Ax cx W (aH.ext hx));have HW:=zH (fun W (hx:Ext w W)=>way_any A1 n1 c1 A2 n2 c2 A3 n3 c3 A4 n4 c4 S hS a lvl xs ha bK hn aU x.k x.i x.o W (aH.ext hx));have HO:=zH (fun W (hx:Ext w W)=>GE A1 n1 c1 A2 n2 c2 A3 n3 c3 A4 n4 c4 S (by have:=(qQ hS).2.2.1;omega) W (aH.ext hx));obtain⟨q,hq⟩:∃ q,TD S lvl xs a x=q:=⟨_,rfl⟩
 rw[hq];replace hq:=zH hq;obtain⟨l,hl⟩:∃ l,VD S (x.k,x.i,x.o) lvl xs=l:=⟨_,rfl⟩
 have hwo:=qfV (k:=(x.k,x.i,x.o)) lvl hn aU;have yM:=qcw (k:=(x.k,x.i,x.o)) lvl (Qc hn).1 aU;have hl6:lvl<6:=by have:=zt hn;omega
 rw[hl] at HW hwo yM;replace hl:=zH hl;replace hwo:=zH hwo;have ik:0<l.length/\l.length<=6:=zO;replace ik:=zH ik;replace yM:=zH yM;clear hl6;refine(callsIn_wide (n:=3)).1 ?_;refine callsIn_of_wp_marks func54 rfl trivial ?_ rfl;simp only[ntmps54,List.size_toArray,List.length_cons,List.length_nil,Nat.reduceAdd,Nat.reduceSub,Array.replicate_succ,Array.replicate_zero,List.push_toArray,List.append_toArray,List.nil_append,List.cons_append];refine wpIn_wide.2 ?_;replace aH:=zH aH;replace hxv:=zH hxv;replace hxo:=zH hxo;clear hn aU;go_wp2_with fail;generalize aA:(World.alloc (World.alloc (World.alloc (World.alloc (World.alloc w _) _) _) _) _)=w1;have x1:Ext w w1:=by rw[<-aA];exact((((zN _ _).trans (zN _ _)).trans (zN _ _)).trans (zN _ _)).trans (zN _ _)
 have s1:w.heap.size+5<=w1.heap.size:=by rw[<-aA];simp
 have wK:w1.heap[w.heap.size]?=some (.cells #[.slice A1 n1 c1,.slice A2 n2 c2,.slice A3 n3 c3,.slice A4 n4 c4] 28 (0,0)):=by rw[<-aA];exact(zK _ _ _ zA4).trans ((zK _ _ _ zA4).trans ((zK _ _ _ zA4).trans ((zK _ _ _ zA4).trans (zI _ _ _ rfl))))
 have rb1:w1.heap[w.heap.size+1]?=some (.cells #[.int .u8 x.k,.int .u32 x.i,.int .u32 x.o,.int .i64 x.r,.slice Ax x.val.length cx] 68 (0,0)):=by rw[<-aA];exact(zK _ _ _ zA4).trans ((zK _ _ _ zA4).trans ((zK _ _ _ zA4).trans (zI _ _ _ zA3)))
 have rc1:w1.heap[w.heap.size+2]?=some (.cells #[.slice none 0 0,.slice none 0 0,.slice none 0 0,.slice none 0 0] 28 (0,0)):=by rw[<-aA];exact(zK _ _ _ zA4).trans ((zK _ _ _ zA4).trans (zI _ _ _ zA3))
 have rd1:w1.heap[w.heap.size+3]?=some (.cells #[.int .i64 0] 3 (0,0)):=by rw[<-aA];exact(zK _ _ _ zA4).trans (zI _ _ _ zA3)
 have re1:w1.heap[w.heap.size+4]?=some (.cells #[.int .i64 0] 36 (0,0)):=by rw[<-aA];exact zI _ _ _ zA3
 clear aA;refine(HA.out w1 x1).mono ?_;clear HA;rintro e w2 ⟨rfl,hB⟩;have x2:Ext w w2:=x1.trans hB;have s2:=hB.size;have rO:=qb wK hB;have pF:=qb rb1 hB;have ry:=qb rc1 hB;have uU:=qb rd1 hB;have re2:=qb re1 hB;clear hB wK rb1 rc1 rd1 re1 x1;have ka2:=qa rO;have kb2:=qa pF;have kc2:=qa ry;have kd2:=qa uU;have ke2:=qa re2;have fc2:=qe ry;have fd2:=qe uU;have fe2:=qe re2;by_cases hE:Tp S x=0
 case neg =>
  have tX:=zH (show q=.error (Tp S x) by rw[<-hq.out];unfold TD;rw[if_neg hE]);have aN:(Tp S x != 0)=true:=by rw[bne_iff_ne];exact hE
  generalize Tp S x=er at *;clear HW HO;go_wp2_with fail;obtain⟨g4,g5,g6,hb,-⟩:=GO ry uU re2 rfl;exact qgv rfl rfl rfl rfl g4 g5 g6 ⟨_,rfl,by rw[tX.out];rfl,hb zO x2⟩
 case pos =>
  have yF:=zH (show q=putX S lvl xs a x by rw[<-hq.out];unfold TD;rw[if_pos hE]);rw[hE];clear hq;have nK:Hid (q=match TC S lvl xs x with
   | .error e=>.error e
   | .ok (up,S2)=>match Qz S2 (-1) S2.now a with
    |none=>.error 8
    |some t=>.ok (Ke up,qu S2 t)):=zH (by rw[yF.out,qco] <;> rfl)
  have hpre:Hid (TC S lvl xs x=if Ut (x.k,x.i,x.o) l=true then .error 120 else
   match ju (x.k,x.i,x.o) l.reverse [x] S with
   | .error e=>.error e
   | .ok (up,S1)=>if 1<up.length then QZ S1 ((l.length:Nat):Int) up up else .ok (up,S1)):=zH (by rw[<-hl.out];rfl)
  replace hE:=zH hE;clear yF;go_wp2_with fail;refine(HW.out w2 x2).mono ?_;clear HW;rintro e w3 ⟨u,rfl,hSE,hB⟩;have dJ:Ext w2 w3:=hB;have x3:Ext w w3:=x2.trans dJ;have s3:=hB.size;have ra3:=qb rO hB;have uG:=qb pF hB;have lh:=qb ry hB;have nC:=qb uU hB;have yg:=qb re2 hB;clear hB rO pF ry uU re2 ka2 kb2 kc2 kd2 ke2 fc2 fd2 fe2;have ka3:=qa ra3;have kb3:=qa uG;have kc3:=qa lh;have kd3:=qa nC;have ke3:=qa yg;have fc3:=qe lh;have fd3:=qe nC;have fe3:=qe yg;have hT:=tall_any u l (by have:=ik.out;omega) ik.out.1 x.k x.i x.o (fun s hs=>(hwo.out s hs).len) w3 (hSE.read (Qa.refl _ _));obtain⟨ps,cZ,⟨As,cs,rfl,hsc1,hsc2,hsr⟩,iE⟩:=hSE;replace hsc2:=zH hsc2;replace hsr:=zH hsr;replace iE:=zH iE;replace cZ:=zH cZ;replace hT:=zH hT;clear hsc1;go_wp2_with fail;refine hT.out.mono ?_;clear hT;rintro e w4 ⟨rfl,hB⟩;have x34:Ext w3 w4:=hB;have x4:Ext w w4:=x3.trans x34;have s4:=hB.size;have ra4:=qb ra3 hB;have yc:=qb uG hB;have sD:=qb lh hB;have xJ:=qb nC hB;have re4:=qb yg hB;clear hB ra3 uG lh nC yg ka3 kb3 kc3 kd3 ke3 fc3 fd3 fe3;have ka4:=qa ra4;have kb4:=qa yc;have kc4:=qa sD;have kd4:=qa xJ;have ke4:=qa re4;have fc4:=qe sD;have fd4:=qe xJ;have fe4:=qe re4;rcases hta:Ut (x.k,x.i,x.o) l with _|_
  case true =>have tX:=zH (show q=.error 120 by rw[nK.out,hpre.out,if_pos hta]);clear nK hpre HO;go_wp2_with fail;obtain⟨g4,g5,g6,hb,-⟩:=GO sD xJ re4 rfl;exact qgv rfl rfl rfl rfl g4 g5 g6 ⟨_,rfl,by rw[tX.out];rfl,hb zO x4⟩
  case false =>
   have hBQ:Hid (TC S lvl xs x=match ju (x.k,x.i,x.o) l.reverse [x] S with
    | .error e=>.error e
    | .ok (up,S1)=>if 1<up.length then QZ S1 ((l.length:Nat):Int) up up else .ok (up,S1)):=zH (by rw[hpre.out,if_neg (by rw[hta];decide)])
   replace hta:=zH hta;clear hpre;have z40:w.heap.size<w4.heap.size:=zO;have z41:w.heap.size+1<w4.heap.size:=zO;have z42:w.heap.size+1+1<w4.heap.size:=zO;have z43:w.heap.size+1+1+1<w4.heap.size:=zO;have z44:w.heap.size+1+1+1+1<w4.heap.size:=zO;go_wp2_with fail;generalize aK:(World.alloc (World.alloc w4 _) _)=w5;have af:Ext w4 w5:=by rw[<-aK];exact(zN _ _).trans (zN _ _)
   have x5:Ext w w5:=x4.trans af;have s5:w4.heap.size+2<=w5.heap.size:=by rw[<-aK];simp
   have rU5:w5.heap[w4.heap.size]?=some (.cells #[.int .u8 x.k,.int .u32 x.i,.int .u32 x.o,.int .i64 x.r,.slice Ax x.val.length cx] 68 (0,0)):=by rw[<-aK];exact(zK _ _ _ zA3).trans (zI _ _ _ rfl)
   have rB5:w5.heap[w4.heap.size+1]?=some (.cells #[.slice (some ⟨w4.heap.size,0,none⟩) 1 1] 47 (0,0)):=by rw[<-aK];exact zI _ _ _ zA3
   clear aK;have rb5:=qb yc af;have rc5:=qb sD af;have rd5:=qb xJ af;have re5:=qb re4 af;clear ra4 yc sD xJ re4 ka4 kb4 kc4 kd4 ke4 fc4 fd4 fe4;refine(HO.out w5 x5).mono ?_;clear HO;rintro e w6 ⟨u,rfl,⟨b,A3',c3',rfl,aP,aC,aB⟩,hB⟩;have dW:Ext w5 w6:=hB;have x6:Ext w w6:=x5.trans dW;have s6:=hB.size;have hst6:=aH.out.below x6;obtain⟨g,iJ⟩:=Bch.of_on (B:=w.heap.size) x5.size hS hst6 aP aC aB;replace iJ:=zH iJ;have rb6:=qb rb5 hB;have rc6:=qb rc5 hB;have rd6:=qb rd5 hB;have re6:=qb re5 hB;have rU6:=qb rU5 hB;have rB6:=qb rB5 hB;clear hB rb5 rc5 rd5 re5 rU5 rB5 aC aB hst6 z40 z41 z42 z43 z44;go_wp2_with fail;generalize gu:World.alloc w6 _=w7;have xQ:Ext w6 w7:=by rw[<-gu];exact zN _ _
   have rT7:w7.heap[w6.heap.size]?=some (.cells #[.pointer (some ⟨b,0,none⟩)] 80 (0,0)):=by rw[<-gu];exact zI _ _ _ rfl
   clear gu;refine(qaq As l.length cs w7).mono ?_;rintro e w8 ⟨rfl,rfl⟩;go_wp2_with fail;generalize yY:World.alloc w7 _=w8;have oH:Ext w7 w8:=by rw[<-yY];exact zN _ _
   have s8:w7.heap.size<w8.heap.size:=by rw[<-yY];simp
   have rS8:w8.heap[w7.heap.size]?=some (.cells #[.slice As l.length cs] 153 (0,0)):=by rw[<-yY];exact zI _ _ _ rfl
   clear yY;have x68:Ext w6 w8:=xQ.trans oH;have x38:Ext w3 w8:=((x34.trans af).trans dW).trans x68;have x8:Ext w w8:=x6.trans x68;obtain⟨b2,o2,rfl,bI,az⟩:=(hsr.out w3 (Qa.refl _ _)).2 ik.out.1;have bU:ps.length=l.length:=by rw[<-cZ.out,List.length_map]
   obtain⟨us,wF⟩:∃ us:List Us,us=ps.map fun p=>((p.1,VB p.2):Us):=⟨_,rfl⟩
   have lZ:us.length=l.length:=by rw[wF,List.length_map,bU]
   have wG:∀ i (hi:i<ps.length),us[i]?.getD usz=(ps[i].1,VB ps[i].2):=fun i hi=>by rw[wF,List.getElem?_map,zL hi];rfl
   have uQ:∀ i (hi:i<ps.length),sv (VB ps[i].2)=ps[i].2:=fun i hi=>by obtain⟨ax,_,⟨⟨A,c,e,_⟩,_⟩⟩:=iE.out ps[i] (List.getElem_mem hi);rw[e];rfl
   have hEK:∀ j,∃ ax A c,sv (us[j]?.getD usz).2=.slice A (sAt l j).2.1.length c/\(us[j]?.getD usz).1=sAt l j/\ax.map (·.1)=(sAt l j).2.1/\Tn (fun q=>q<w2.heap.size) w3 (sv (us[j]?.getD usz).2) ax:=fun j=>by
    by_cases hj:j<ps.length
    ·obtain⟨ax,e1,he⟩:=iE.out ps[j] (List.getElem_mem hj);have hx:ps[j].1=sAt l j:=by unfold sAt;rw[<-cZ.out,List.getElem?_map,zL hj];rfl
     obtain⟨A,c,e⟩:=he.shape e1;rw[wG j hj];simp only;rw[uQ j hj];rw[hx] at e e1;exact⟨ax,A,c,e,hx,e1,he⟩
    ·have h1:us[j]?=none:=List.getElem?_eq_none (by rw[lZ];omega);have h2:sAt l j=(0,[],0):=by unfold sAt;rw[List.getElem?_eq_none zO];rfl
     rw[h1,h2];exact⟨[],none,0,rfl,rfl,rfl,⟨none,0,rfl,zM _,zA7,fun C _=>Rd.none_⟩,fun p hp=>by cases hp⟩
   have hne4:b2≠w.heap.size+4:=fun e=>by have h1:=az 1 _ (Yh ps 0 (by rw[bU];exact ik.out.1)).2.1;have h2:=Ext.cell ((x34.trans af).trans dW) h1;rw[e,qa re6] at h2;simp at h2
   have hSW:SWs w8 w7.heap.size b2 (.slice (some ⟨b2,o2,none⟩) l.length cs) us:=by refine⟨by rw[qa rS8];rfl,.inr ⟨o2,cs,by rw[lZ],fun i hi=>?_⟩⟩;have iK:i<ps.length:=zO;obtain⟨g0,g1,g2⟩:=Yh ps i iK;rw[wG i iK];simp only;rw[uQ i iK];exact⟨Ext.cell x38 (az _ _ g0),by rw[Nat.add_assoc];exact Ext.cell x38 (az _ _ g1),by rw[Nat.add_assoc];exact Ext.cell x38 (az _ _ g2)⟩
   have hI0:PutI (x.k,x.i,x.o) l S x w.heap.size w5.heap.size b g (w4.heap.size+1) w6.heap.size w7.heap.size w2.heap.size w3 (.slice Ax x.val.length cx) (.slice (some ⟨b2,o2,none⟩) l.length cs) [] w8:=by
    refine⟨⟨[x],S,none,_,_,1,[(x,.slice Ax x.val.length cx)],rfl,hS,zA3,zA3,rfl,fun y hy=>?_,fun p hp=>?_,qb rB6 x68,?_,iJ.out.ext x68⟩,qb rb6 x68,qb rc6 x68,qb rd6 x68,qb re6 x68,qb rT7 oH,rS8,Qa.of_ext x38⟩
    ·obtain rfl:y=x:=by simpa using hy
     have hb:itB y.r y.val.length=true:=by
      have:=hE.out;unfold Tp at this;split at this
      ·rename_i h;exact h
      ·cases this
     unfold itB at hb;simp only[decide_eq_true_eq] at hb;have h1:=hxo.out.2.2.2.1;exact⟨hxo.out,zO,h1.2⟩
    ·obtain rfl:p=(x,.slice Ax x.val.length cx):=by simpa using hp
     exact⟨⟨Ax,cx,rfl⟩,hxv.out.below x8⟩
    ·exact⟨rfl,.inr ⟨w4.heap.size,1,_,rfl,Nat.zero_le _,qb rU6 x68,zM _,zA7,rfl,rfl⟩⟩
   replace hI0:=zH hI0;replace hEK:=zH hEK;clear wF wG uQ az hsr iE cZ bU rb6 rc6 rd6 re6 rU6 rB6 rT7 rS8;generalize fU:({ tmps:=_,defers:=_ }:Act)=act;refine(wpIn_wide (n:=3)).1 ?_;refine wpIn_rangeFunc_ownH rfl zO (gf:=146) (lb:=#[.pointer (some ⟨w7.heap.size,0,none⟩)]) (by rw[<-fU];rfl) trivial (enters_of func146 zQ rfl)
    (qcV (3-1) zO w7.heap.size b2 _ us (by rw[lZ];have:=ik.out;omega) w8 s8 (by have:=x38.size;omega) hSW) Qi.t (Qi.b s8 (by have:=x38.size;omega)) (Below.refl _ _) (fun _=>rfl)
    (fun pre W'=>(∃ Wb,PutI (x.k,x.i,x.o) l S x w.heap.size w5.heap.size b g (w4.heap.size+1) w6.heap.size w7.heap.size w2.heap.size w3 (.slice Ax x.val.length cx) (.slice (some ⟨b2,o2,none⟩) l.length cs) pre Wb/\Qf Wb W')/\Below w.heap.size w W')
    (fun c pre W'=>(∃ er Wb,c=.ret/\ju (x.k,x.i,x.o) (pre.map (sAt l)) [x] S=.error er/\(Wb.heap[w.heap.size+2]?=some (.cells #[.slice none 0 0,.slice none 0 0,.slice none 0 0,.slice none 0 0] 28 (0,0))/\Wb.heap[w.heap.size+3]?=some (.cells #[.int .i64 0] 3 (0,0))/\Wb.heap[w.heap.size+4]?=some (.cells #[.int .i64 er] 36 (0,0)))/\Qf Wb W')/\Below w.heap.size w W')
    (OwnFrom.and (fun s A C row hs hg hr=>by obtain⟨Wb,h1,h2⟩:=hs;exact⟨Wb,h1,h2.grown hg fun r e=>(hr r e).2⟩) (ownFrom_below (zM _) x8.size))
    (fun c=>OwnFrom.and (fun s A C row hs hg hr=>by obtain⟨er,Wb,h1,h2,h3,h4⟩:=hs;exact⟨er,Wb,h1,h2,h3,h4.grown hg fun r e=>(hr r e).2⟩) (ownFrom_below (zM _) x8.size))
    ⟨⟨w8,hI0.out,Qf.refl _⟩,x8⟩
    (fun j a' W'=>∃ t14,a'=(((({ tmps:=act.tmps,defers:=[] }:Act).put (some 42) (.int .i64 (j:Int))).put (some 43) (.agg #[.int .i64 ((us[j]?.getD usz).1.1:Int),sv (us[j]?.getD usz).2,.int .i64 ((us[j]?.getD usz).1.2.2:Int)])).put (some 14) (.pointer (some ⟨t14,0,none⟩)))/\W'.heap[t14]?=some (.cells #[.int .i64 ((us[j]?.getD usz).1.1:Int),sv (us[j]?.getD usz).2,.int .i64 ((us[j]?.getD usz).1.2.2:Int)] 160 (0,0)))
    (fun x a' s A C row hs hg hr=>by obtain⟨t14,e,h⟩:=hs;exact⟨t14,e,Qt (β:=Unit) _ _ _ _ () A C row h hg hr⟩) ?assign ?body ?done ?stop
   case assign =>
    rintro l' pre j W' K ⟨⟨Wb,hPI,nV⟩,i4⟩ hK;subst fU;have z4:=i4.size;have sG:=hPI.ck nV;have zS:=(zG.1 sG.rS).1;have zb2:b2<W'.heap.size:=by have:=(((x34.trans af).trans dW).trans xQ).size;omega
    gi_wp2
    exact hK _ _ ((KeepsOthers.alloc _ _).from _) ⟨zK _ _ _ zS,zK _ _ _ zb2⟩ ⟨⟨_,sG,Qf.of_ext (zN _ _)⟩,Below.alloc i4 z4 _⟩ ⟨W'.heap.size,rfl,zI _ _ _ rfl⟩
   case body =>
    rintro l' pre j a' W' hll ⟨rr,hlp⟩ ⟨⟨Wb,hPI,nV⟩,i4⟩ ⟨t14,rfl,yG⟩ _;subst fU;have sG:=hPI.ck nV;simp only[Act.put,zA,zB,zC];obtain⟨ax,A9,c9,e9,e10,e11,iZ⟩:=hEK.out j;have hWO:=sAt_ok hwo.out j;have hEG:=zH (fun (ups:List It) (S':Sto) (h:ju (x.k,x.i,x.o) (pre.map (sAt l)) [x] S=.ok (ups,S'))=>(by rw[List.map_append,kJ,h];simp only[List.map_cons,List.map_nil];exact qhc _ _ _ _:ju (x.k,x.i,x.o) ((pre++[j]).map (sAt l)) [x] S=QZ S' ((sAt l j).1:Int) (Ko (sAt l j).2.1 (sAt l j).2.2 (VR (x.k,x.i,x.o) (sAt l j).1 (sAt l j).2.1) ups) ups));obtain⟨s9,hs9⟩:∃ s9,sAt l j=s9:=⟨_,rfl⟩
    rw[hs9] at e9 e10 e11 hWO hEG;clear hs9;generalize us[j]?.getD usz=u9 at *;obtain⟨v9,sl9⟩:=u9;simp only at e9 e10 yG iZ;subst e10;obtain⟨lv,ys,pl⟩:=v9;simp only at e9 e11 yG hEG;rw[e9] at yG iZ ⊢;obtain⟨hWm,hWi,hWl,hDT,hDU,pO⟩:=hWO;simp only at hWm hWi hWl hDT hDU pO;obtain⟨ups,S',k',D',Au,cu,ed,bP,rX,uA,rH,rZ,oG,tV,yV,uP,bg⟩:=sG.ex;have hit:=(iZ.trans sG.kx fun q _ h=>h).its (Qa.refl (fun q=>q<w2.heap.size) W');rw[e11] at hit;obtain⟨many,hmy⟩:∃ many,VR (x.k,x.i,x.o) lv ys=many:=⟨_,rfl⟩
    have hET:=many_ok (k:=(x.k,x.i,x.o)) (s:=(lv,ys,pl)) ⟨hWm,hWi,hWl,hDT,hDU,pO⟩;simp only at hET;rw[hmy] at hET hEG;have zx:w.heap.size+1<W'.heap.size:=(zG.1 sG.rx).1;have hDV:Hid ((pl=ys.length->many=0)/\(pl<ys.length->lv≠0->many=1)/\(∀ h:pl<ys.length,lv=0->many=if qE (ys[pl]'h)=(x.k,x.i,x.o) then 1 else 0)):=zH (by
     refine⟨fun h=>?_,fun h h1=>?_,fun h h1=>?_⟩
     ·have h0:lv=0:=by
       rcases Nat.eq_zero_or_pos lv with h0|h0
       ·exact h0
       ·have:=hDU h0;omega
      rw[<-hmy];unfold VR;rw[if_pos ⟨h0,XB (by rw[<-pO h0];omega)⟩]
     ·rw[<-hmy];unfold VR;rw[if_neg (fun hh=>h1 hh.1)]
     ·rw[<-hmy];unfold VR;have hp:=pO h1;subst hp;rw[UK h];by_cases hk:qE ys[qG ys (x.k,x.i,x.o)]=(x.k,x.i,x.o)
      ·rw[if_neg (by simp[hk]),if_pos hk]
      ·rw[if_pos ⟨h1,by simp[hk]⟩,if_neg hk])
    have hJU:=zH hit;have hAS:=zH iZ;have hAD:=zH sG;have hbcH:=zH bg;have hKQ:=zH uP;have hBR:=zH tV;have hWiH:=zH hWi;have hCA:=zH oG;have hgrH:=zH bP;have hJQ:=zH rZ;have hmyH:=zH hmy;have hAJ:=zH hWl;have sH:=zH hDT;have tH:=zH hET;have e11H:=zH e11;have hFM:=zH (And.intro uA rH);have rUH:=zH yV;have hS'H:=zH rX;have hA:=hit.at_.2.2.2;replace hA:=zH hA;have rxW:=sG.rx;clear hit iZ sG bg uP tV hWm hWi hDU pO oG bP rZ hmy hWl hDT hET e11 uA rH yV rX hPI nV e9
    gi_upto_region 12 with fail
    gi_cut [69] from 44 (fun s wx=>s=.bool (decide (many=0))/\Ext W' wx)
    case first =>
     have g14:∀ W,qk.r W' W->∀ i,W.cell? ⟨t14,i,none⟩=#[.int .i64 (lv:Int),.slice A9 ys.length c9,.int .i64 (pl:Int)][i]?:=fun W h=>qa (qb yG h);by_cases bU:pl=ys.length
     ·have hm0:=zH (hDV.out.1 bU);have ee:((pl:Int) == (ys.length:Int))=true:=by rw[beq_iff_eq];omega
      clear bU;refine QT qk (qD []) (List.replicate 26 true) 0 (JR l') zQ zQ zQ zQ zQ zQ zQ zQ zQ ?st (Rel.drew _ _) ?walk
      case st=>exact qj (fun _ h=>by cases h)
      case walk =>
       intro K hK;dsimp only[qp,List.replicate];repeat ((first|(refine qd ?_ zA0 zA0 (fun W hW _=>⟨W,?_,Rel.refl _ W⟩) ?_;rotate_left;(go_simp<;>with_reducible rfl))|(refine qh zA0 ?_));try simp only[Act.put,ql,qf,qc,qg,Qp,Qn,Qk,qR,zA,zB,zC])
       refine qt (hK _ _ fun V hV hF=>?_);clear hF hK;have hV:Ext W' V:=hV;refine zC3 ?_
       gi_wp2_with fail
       gi_meet
       case rel=>exact⟨by rw[hm0.out];rfl,hV⟩
     ·have hlt:pl<ys.length:=by have:=sH.out;omega
      have ee:((pl:Int) == (ys.length:Int))=false:=by rw[beq_eq_false_iff_ne];omega
      by_cases hlv:lv=0
      ·have dF:=hDV.out.2.2 hlt hlv;obtain⟨bi,off,rfl,hbi⟩:=hA.out zO;obtain⟨A',c',d0,d1,d2,d3,d4,-⟩:=hJU.out.item pl hlt;have gd0:∀ W,qk.r W' W->_:=fun W h=>Ext.cell h d0;have gd1:∀ W,qk.r W' W->_:=fun W h=>Ext.cell h d1;have gd2:∀ W,qk.r W' W->_:=fun W h=>Ext.cell h d2;have gx:∀ W,qk.r W' W->∀ i,W.cell? ⟨w.heap.size+1,i,none⟩=#[.int .u8 x.k,.int .u32 x.i,.int .u32 x.o,.int .i64 x.r,.slice Ax x.val.length cx][i]?:=fun W h=>qa (qb rxW h);generalize ys[pl]=y at *;subst hlv;clear d0 d1 d2 d3 d4;replace dF:=zH dF;replace bU:=zH bU;refine QT qk (qD []) (List.replicate 26 true) 0 (JR l') zQ zQ zQ zQ zQ zQ zQ zQ zQ ?st (Rel.drew _ _) ?walk
       case st=>exact qj (fun _ h=>by cases h)
       case walk =>
        intro K hK;dsimp only[qp,List.replicate];repeat ((first|(refine qd ?_ zA0 zA0 (fun W hW _=>⟨W,?_,Rel.refl _ W⟩) ?_;rotate_left;(go_simp<;>with_reducible rfl))|(refine qh zA0 ?_));try simp only[Act.put,ql,qf,qc,qg,Qp,Qn,Qk,qR,zA,zB,zC])
        refine qd (.bool (!decide (qE y=(x.k,x.i,x.o)))) zA0 zA0 (fun W hW _=>⟨W,?_,Rel.refl _ W⟩) ?_
        ·go_simp;exact key_ifn y x.k x.i x.o W
        simp only[Act.put,qf,qc,qg,Qp,Qn,Qk,qR,zA,zB,zC];repeat ((first|(refine qd ?_ zA0 zA0 (fun W hW _=>⟨W,?_,Rel.refl _ W⟩) ?_;rotate_left;(go_simp<;>with_reducible rfl))|(refine qh zA0 ?_));try simp only[Act.put,ql,qf,qc,qg,Qp,Qn,Qk,qR,zA,zB,zC])
        refine qt (hK _ _ fun V hV hF=>?_);clear hF hK;have hV:Ext W' V:=hV;refine zC3 ?_
        gi_wp2_with fail
        gi_meet
        case rel =>refine⟨?_,hV⟩;rw[dF.out];by_cases hk:qE y=(x.k,x.i,x.o) <;> simp[hk]
      ·have hm0:=zH (hDV.out.2.1 hlt hlv);have el:((lv:Int) == 0)=false:=by rw[beq_eq_false_iff_ne];omega
       replace hlv:=zH hlv;replace bU:=zH bU;refine QT qk (qD []) (List.replicate 26 true) 0 (JR l') zQ zQ zQ zQ zQ zQ zQ zQ zQ ?st (Rel.drew _ _) ?walk
       case st=>exact qj (fun _ h=>by cases h)
       case walk =>
        intro K hK;dsimp only[qp,List.replicate];repeat ((first|(refine qd ?_ zA0 zA0 (fun W hW _=>⟨W,?_,Rel.refl _ W⟩) ?_;rotate_left;(go_simp<;>with_reducible rfl))|(refine qh zA0 ?_));try simp only[Act.put,ql,qf,qc,qg,Qp,Qn,Qk,qR,zA,zB,zC])
        refine qt (hK _ _ fun V hV hF=>?_);clear hF hK;have hV:Ext W' V:=hV;refine zC3 ?_
        gi_wp2_with fail
        gi_meet
        case rel=>exact⟨by rw[hm0.out];rfl,hV⟩
    case rest =>
     obtain⟨rfl,xc⟩:=hcut;have hma:many=0\/many=1:=tH.out.1;clear hDV;have hLR:=qb yG xc;have hIZ:=zH (hAD.out.ck (Qf.of_ext xc));have hitc:=zH (hJU.out.ext xc);have lL:ax.length=ys.length:=by rw[<-e11H.out,List.length_map]
     have hKT:ed.length=ups.length:=by rw[<-hJQ.out,List.length_map]
     have one1:∀ u∈qP ax,u.oneCell'=true:=Xb ax fun p hp=>by obtain⟨A,c,e⟩:=(hAS.out.2 p hp).1;rw[e];rfl
     have one2:∀ u∈qP ed,u.oneCell'=true:=Xb ed fun p hp=>by obtain⟨A,c,e⟩:=(hBR.out p hp).1;rw[e];rfl
     have HCl:Hid (∀ W,Ext wc W->Calls prog 102 #[.slice A9 ys.length c9] W (QV (fun u w'=>w'.ownsRow W.heap.size 68 5 u ys.length (qP ax)) W)):=zH fun W hW=>by obtain⟨⟨A,c,e,_,_,hr⟩,_⟩:=hAS.out;rw[lL] at e hr;cases e;exact Ub A9 ys.length c9 (qP ax) (by have:=hAJ.out;omega) one1 W (hr W ((hIZ.out.kx).trans (Qa.of_ext hW) fun _ _ h=>h))
     have yE:=zH (QA hKQ.out fun q hq=>Below.block xc q (Ql hKQ.out q hq).2);have HRp:Hid (∀ (V:World) (Ac:Option Addr) (cc:Nat),Ext wc V->V.ownsRow wc.heap.size 68 5 (.slice Ac ys.length cc) ys.length (qP ax)->Calls prog 101 #[.slice Ac ys.length cc,.int .i64 (pl:Int),.int .i64 ((pl+many:Nat):Int),.slice Au ups.length cu] V (VG wc.heap.size (.slice Ac ys.length cc) (ys.length-many+ups.length) ((qP ax).take (pl*5)++qP ed++(qP ax).drop ((pl+many)*5)) V)):=zH fun V Ac cc hV ho =>
      qee wc.heap.size _ ys.length pl many (qP ax) (.slice Au ups.length cu) ups.length 0 (qP ed) V ho (QA yE.out fun q hq=>Below.block hV q (Ql yE.out q hq).2) (fun q hq nK=>by have h1:=(Ql yE.out q hq).2;have h2:=(Ql ho q nK).1;omega) hFM.out.1 (by have:=hAJ.out;have:=hFM.out.2;omega) tH.out.1 tH.out.2 one1 one2 hV.size
     have g14:∀ W,qk.r wc W->∀ i,W.cell? ⟨t14,i,none⟩=#[.int .i64 (lv:Int),.slice A9 ys.length c9,.int .i64 (pl:Int)][i]?:=fun W h=>qa (qb hLR h);have gU:∀ W,qk.r wc W->∀ i,W.cell? ⟨w4.heap.size+1,i,none⟩=#[.slice Au ups.length cu][i]?:=fun W h=>qa (qb (qb rUH.out xc) h);have hw0:IntKind.i64.wrap (pl:Int)=(pl:Int):=by rw[IntKind.wrap_i64];have:=sH.out;have:=hAJ.out;omega
     have aA:IntKind.i64.wrap ((pl:Int)+1)=(pl:Int)+1:=by rw[IntKind.wrap_i64];have:=sH.out;have:=hAJ.out;omega
     have hmyK:=hmyH;replace lL:=zH lL;replace hKT:=zH hKT;have hHG:=tH;clear tH hmyK;obtain⟨its,aG⟩:∃ its,its=Ko ys pl many ups:=⟨_,rfl⟩
     have hiE:ys.length-many+ups.length=its.length:=by rw[aG];unfold Ko;simp only[List.length_append,List.length_take,List.length_drop];have h3:=sH.out;have h4:=hHG.out.2;omega
     have hil:its.length<=100/\0<its.length:=by rw[<-hiE];have h5:=hAJ.out;have h6:=hFM.out;omega
     replace hiE:=zH hiE;rcases hma with rfl|rfl
     all_goals
      gi_upto_region 14 with fail
      refine QT qk (qD [(3,UO wc.heap.size ys.length (qP ax))]) (List.replicate 11 true) 2 (JR l') zQ zQ zQ zQ zQ zQ zQ zQ zQ ?st (Rel.drew _ _) ?walk
      case st=>exact qj (by simp only[List.forall_mem_cons];exact⟨GI _ _ _,fun _ h=>by cases h⟩)
      case walk =>
       intro K hK;dsimp only[qp,List.replicate];repeat ((first|(refine qd ?_ zA0 zA0 (fun W hW _=>⟨W,?_,Rel.refl _ W⟩) ?_;rotate_left;(go_simp<;>with_reducible rfl))|(refine qh zA0 ?_));try simp only[Act.put,ql,qf,qc,qg,Qp,Qn,Qk,qR,zA,zB,zC])
       refine qw (UO wc.heap.size ys.length (qP ax)) zA0 zA0 (fun W hW _=>?_) (fun p=>?_)
       ·have ay:Ext wc W:=hW;refine Qb ?_ ((HCl.out W ay).mono fun e w' h=>?_)
        ·go_simp
        obtain⟨u,rfl,hu,hB⟩:=h;obtain⟨Ac,cc,rfl,_,_⟩:=qy hu;exact⟨(Ac,cc),rfl,Qw hu ay.size,hB⟩
       obtain⟨Ac,cc⟩:=p;simp only[Act.put,qf,qc,qg,Qp,Qn,Qk,qR,zA,zB,zC];repeat ((first|(refine qd ?_ zA0 zA0 (fun W hW _=>⟨W,?_,Rel.refl _ W⟩) ?_;rotate_left;(go_simp<;>with_reducible rfl))|(refine qh zA0 ?_));try simp only[Act.put,ql,qf,qc,qg,Qp,Qn,Qk,qR,zA,zB,zC])
       refine qt (hK _ _ fun V hV hF=>?_);have hoV:V.ownsRow wc.heap.size 68 5 (.slice Ac ys.length cc) ys.length (qP ax):=(hF 3).1;clear hF hK g14 gU;have hV:Ext wc V:=hV;refine zC3 ?_;have HR:=zH (HRp.out V Ac cc hV hoV);clear HRp HCl
       gi_wp2_with fail
       refine⟨trivial,(CallsIn.inRound _ (callsIn_wide.2 HR.out)).mono ?_⟩;clear HR;rintro e w9 ⟨v9,rfl,ho9,hB9,-⟩;have x9:Ext wc w9:=Below.trans hV hB9;have x19:Ext W' w9:=xc.trans x9;clear hB9 hoV;have sJ:=Bch.ext hbcH.out x19;obtain⟨ik,-,uo,-,-,-,wX⟩:=sJ.size;have rW:∀ q,B3 b g k' q->w5.heap.size<=q:=fun q hq=>by
        rcases hq with rfl|rfl|e
        ·exact ik
        ·exact uo
        ·exact(wX q e).1
       rw[TS,<-TR,<-Jv,<-Jv] at ho9;have s25:w.heap.size<=w5.heap.size:=x5.size;have hX9:=JZ.of_own (X:=B3 b g k') ho9 (by
        have h1:=lL.out;have h2:=hKT.out;have h3:=sH.out;have h4:=hHG.out.2;simp only[List.length_append,List.length_take,List.length_drop];omega) (fun q hq=>by
        obtain⟨cur,hc⟩:=Zl ho9 hq;exact sJ.notB3 hc zA1 zA1 zA1) (fun p hp=>by
        have hI:∀ p∈ax,(∃ A c,p.2=.slice A p.1.val.length c)/\∀ C,Qa (B3 b g k') w9 C->Bys C C.heap.size p.2 p.1.val:=fun p hp=>⟨(hAS.out.2 p hp).1,fun C hC=>(hAS.out.2 p hp).2 C ((hAD.out.kx.trans (Qa.of_ext (X:=fun q=>q<w2.heap.size) x19) fun _ _ h=>h).trans hC fun q h1 h2=>by have:=rW q h2;omega)⟩
        rcases List.mem_append.1 hp with hp|hp
        ·rcases List.mem_append.1 hp with hp|hp
         ·exact hI p (List.mem_of_mem_take hp)
         ·exact⟨(hBR.out p hp).1,fun C hC=>((hBR.out p hp).2).keepX ((Qa.of_ext (X:=B3 b g k') x19).trans hC fun _ _ h=>h) fun q h1 h2=>by have:=rW q h2;omega⟩
        ·exact hI p (List.mem_of_mem_drop hp))
       have hrpl:∀ m,(List.map (·.1) (ax.take pl++ed++ax.drop (pl+m)))=Ko ys pl m ups:=fun m=>by unfold Ko;rw[List.map_append,List.map_append,List.map_take,List.map_drop,e11H.out,hJQ.out]
       rw[hrpl] at hX9;clear hrpl;obtain⟨A8,c8,rfl,-,-⟩:=qy ho9;have hoU9:=QA yE.out fun q hq=>Below.block x9 q (Ql yE.out q hq).2;have sW:=hEG.out _ _ hgrH.out;rw[<-aG] at hX9 sW;have mJ:∀ y∈its,jq y:=fun y hy=>by
        rw[aG] at hy;unfold Ko at hy;rcases List.mem_append.1 hy with hy|hy
        ·rcases List.mem_append.1 hy with hy|hy
         ·exact(hWiH.out y (List.mem_of_mem_take hy)).1
         ·exact(hCA.out y hy).1
        ·exact(hWiH.out y (List.mem_of_mem_drop hy)).1
       have hioH:=zH mJ;have HBd:=zH (qaU D' w.heap.size w5.heap.size b g k' S' hS'H.out (lv:Int) A8 _ c8 its mJ hil.2 hil.1 0 (.slice Au ups.length cu) ed ups hJQ.out (fun p hp=>(hBR.out p hp).1) (fun y hy=>(hCA.out y hy).2) (by have:=hFM.out.2;omega) w9 sJ hX9 hoU9);rw[hiE.out] at HBd ⊢;have eF:=zH (hIZ.out.ck (Qf.of_ext x9));have hr9:=qb hLR x9;have k14:=qa hr9;have rU9:=qb rUH.out x19;have kU:=qa rU9;have kT:=qa eF.out.rT;have k4:=qa eF.out.r4;replace aG:=zH aG;clear hX9 mJ ho9 hAS hJU hitc hBR hKQ yE hA hLR yG
       gi_wp2_with fail
       refine⟨trivial,(CallsIn.inRound _ (callsIn_wide.2 HBd.out)).mono ?_⟩;clear HBd;intro e w10 hbq;obtain⟨bQ,aQ⟩:=hbq.split;clear hbq;have nB:∀ {q cs ty fr},w9.heap[q]?=some (.cells cs ty fr)->ty≠191->ty≠5->ty≠130->¬B3 b g k' q:=fun hr h1 h2 h3=>sJ.notB3 hr h1 h2 h3;have iV:=bQ.row rU9 (nB rU9 zA1 zA1 zA1);have uF:=bQ.row eF.out.rT (nB eF.out.rT zA1 zA1 zA1);have dh:=bQ.row eF.out.r4 (nB eF.out.r4 zA1 zA1 zA1);have iU:=bQ.row eF.out.r3 (nB eF.out.r3 zA1 zA1 zA1);have iT:=bQ.row eF.out.r2 (nB eF.out.r2 zA1 zA1 zA1);have rx10:=bQ.row eF.out.rx (nB eF.out.rx zA1 zA1 zA1);have hLL:=bQ.row eF.out.rS (nB eF.out.rS zA1 zA1 zA1);have hko:=(KeepsOthers.of_ext x19).trans (sJ.others bQ);have dS:=(i4.trans (Below.mono x19 i4.size)).trans (Below.mono bQ.below s25);have hAU:=bQ.keepX;have hk7:=bQ.row eF.out.rS (nB eF.out.rS zA1 zA1 zA1);have hkr:=fun q (h:q<w5.heap.size)=>bQ.rows q (by have:=sJ.size.2.2.2.2.2.1;omega) fun hx=>by have:=rW q hx;omega
       have hEP:=eF.out.kx;clear bQ eF rU9 kU kT k4 k14;rcases aQ with ⟨er,sN,rfl⟩|⟨up2,S2,k2,D2,A2',c2',sN,rfl,yQ,hND,dU,hS2,dI⟩
       ·have hga:=zH (sW.trans sN.out);have hne0:(er != 0)=true:=by rw[bne_iff_ne];exact kD sN.out
        have hCG:=qa iV;have hCF:=qa dh;have yw:=qe iV;have yu:=qe dh;replace hko:=zH hko;replace dS:=zH dS;clear sW hAU hk7 hkr hEP nB sN uF rx10 hLL sJ
        gi_upto_region 17 with fail
        generalize fE:World.setCell (World.setCell w10 _ _) _ _=gz;obtain⟨t1,t2,t3,t4,t5,t6⟩:=Vl (C:=gz) iV dh zO fE.symm;clear fE hCG hCF yw yu;have gE:∀ W,qk.r gz W->∀ i,W.cell? ⟨w.heap.size+1+1+1+1,i,none⟩=#[.int .i64 er][i]?:=fun W h=>qa (qb t2 h);have q2:=(t3 (w.heap.size+2) zO zO).trans iT;have q3:=(t3 (w.heap.size+3) zO zO).trans iU;refine QT qk (qD [(2,jt),(3,jt)]) (List.replicate 4 true) 1 (JR l') zQ zQ zQ zQ zQ zQ zQ zQ zQ ?st (Rel.drew _ _) ?walk
        case st=>exact qj (by simp only[List.forall_mem_cons];exact⟨jo,jo,fun _ h=>by cases h⟩)
        case walk =>
         intro K hK;dsimp only[qp,List.replicate];repeat ((first|(refine qd ?_ zA0 zA0 (fun W hW _=>⟨W,?_,Rel.refl _ W⟩) ?_;rotate_left;(go_simp<;>with_reducible rfl))|(refine qh zA0 ?_));try simp only[Act.put,ql,qf,qc,qg,Qp,Qn,Qk,qR,zA,zB,zC])
         refine qw jt zA0 zA0 (fun V hV _=>?_) (fun (p:Unit)=>?_)
         ·have hV:Ext gz V:=hV;have q8:=qb q2 hV;have k8:=qa q8;have f8:=qe q8;refine JF ?_ (same4 q8);go_simp
         simp only[Act.put,qf,qc,qg,Qp,Qn,Qk,qR,zA,zB,zC];repeat ((first|(refine qd ?_ zA0 zA0 (fun W hW _=>⟨W,?_,Rel.refl _ W⟩) ?_;rotate_left;(go_simp<;>with_reducible rfl))|(refine qh zA0 ?_));try simp only[Act.put,ql,qf,qc,qg,Qp,Qn,Qk,qR,zA,zB,zC])
         refine qw jt zA0 zA0 (fun V hV _=>?_) (fun (p:Unit)=>?_)
         ·have hV:Ext gz V:=hV;have q8:=qb q3 hV;have k8:=qa q8;have f8:=qe q8;refine JF ?_ (same1 q8);go_simp
         simp only[Act.put,qf,qc,qg,Qp,Qn,Qk,qR,zA,zB,zC];repeat ((first|(refine qd ?_ zA0 zA0 (fun W hW _=>⟨W,?_,Rel.refl _ W⟩) ?_;rotate_left;(go_simp<;>with_reducible rfl))|(refine qh zA0 ?_));try simp only[Act.put,ql,qf,qc,qg,Qp,Qn,Qk,qR,zA,zB,zC])
         refine qt (hK _ _ fun V hV hF=>?_);clear hF hK gE;have hV:Ext gz V:=hV;refine zC3 ?_;have q2V:=qb q2 hV;have q3V:=qb q3 hV;have q4V:=qb t2 hV;have ke:=qa q4V;have fe:=qe q4V;have zV:=hV.size;have z11:w.heap.size+4<gz.heap.size:=(zG.1 t2).1;have zc:w.heap.size+1+1<V.heap.size:=zO;have zd:w.heap.size+1+1+1<V.heap.size:=zO
         gi_wp2_with fail
         have hV2:=hV.trans (same1 q4V);exact⟨((hko.out.trans t5).trans (KeepsOthers.of_ext hV2)).from _,⟨er,_,rfl,hga.out,⟨qb q2 hV2,qb q3 hV2,qb t2 hV2⟩,Qf.refl _⟩,(t6 zO zO dS.out).trans (Below.mono hV2 zO)⟩
       ·have hga:=zH (sW.trans sN.out);obtain⟨-,uB,mi⟩:=kE hioH.out (fun y hy=>(hCA.out y hy).2) hS'H.out sN.out;have hCG:=qa iV;have hCF:=qa dh;have yw:=qe iV;have yu:=qe dh;replace hko:=zH hko;replace dS:=zH dS;have hKS:=zH (hLL.trans hAD.out.rS.symm);have zW7:w7.heap.size<W'.heap.size:=(zG.1 hAD.out.rS).1;have z67:=xQ.size;have z19:=x19.size;have hKb:=zH ((hkr b2 zO).trans (x19.block b2 zO));replace uB:=zH uB;replace mi:=zH mi;replace dU:=zH dU;replace dI:=zH dI;replace hEP:=zH (hEP.trans hAU fun q hq hx=>by have:=rW q hx;omega);clear sW hAU hk7 hkr nB sN sJ rW hAD hIZ
        gi_wp2_with fail
        generalize fE:World.setCell (World.setCell w10 _ _) _ _=gz;obtain⟨t1,t2,t3,t4,t5,t6⟩:=Vl (C:=gz) iV dh zO fE.symm;clear fE hCG hCF yw yu;refine⟨(hko.out.trans t5).from _,⟨(t3 _ zO zO).trans hKS.out,(t3 _ zO hne4).trans hKb.out⟩,⟨gz,?_,Qf.refl _⟩,t6 zO zO dS.out⟩;refine⟨⟨up2,S2,k2,D2,A2',c2',upV up2,hga.out,hS2.out,uB.out.1,uB.out.2,?_,fun y hy=>⟨(mi.out y hy).1,.inr (mi.out y hy).2.1.1,(mi.out y hy).2.1.2⟩,fun p hp=>?_,t1,QA (Qw dI.out (Nat.zero_le _)) (fun q hq=>t3 q ?_ ?_),dU.out.kept (t6 zO zO (Below.refl _ _)) fun q h _=>t3 q zO zO⟩,(t3 _ zO zO).trans rx10,(t3 _ zO zO).trans iT,(t3 _ zO zO).trans iU,t2,(t3 _ zO zO).trans uF,(t3 _ zO zO).trans hLL,?_⟩
        ·unfold upV;rw[List.map_map];exact List.map_id' _
        ·obtain⟨y,hy,rfl⟩:=List.mem_map.1 hp;have hv:=(mi.out y hy).2.2;simp only[hv];exact⟨⟨none,0,rfl⟩,none,0,rfl,zM _,zA7,Rd.none_⟩
        ·have:=(Ql dI.out q hq).1;omega
        ·have:=(Ql dI.out q hq).1;omega
        ·exact hEP.out.trans (Qa.of_heap (X:=fun q=>q=w4.heap.size+1\/q=w.heap.size+4) fun k _ hX=>t3 k (fun e=>hX (.inl e)) fun e=>hX (.inr e)) fun k hk hx=>zO
   case done =>
    rintro D ys W hD yZ ⟨⟨Wb,hPI,nV⟩,i4⟩ hK;subst fU;have sG:=hPI.ck nV;obtain⟨ups,S',k',D',Au,cu,ed,bP,rX,uA,rH,rZ,oG,tV,yV,uP,bg⟩:=sG.ex;rw[yZ,lZ,qei l l.length (zM _),List.take_of_length_le zA3] at bP;have hHP:Hid (TC S lvl xs x=if 1<ups.length then QZ S' ((l.length:Nat):Int) ups ups else .ok (ups,S')):=zH (by rw[hBQ.out,bP]);clear hBQ bP;have sK:=i4;have z8:=x8.size;have zz8:w.heap.size+4<w8.heap.size:=(zG.1 hI0.out.r4).1;have zUW:w4.heap.size+1<W.heap.size:=(zG.1 yV).1;have kU:=qa yV;have kT:=qa sG.rT;have hcc:=(qy uP)
    replace bg:=zH bg;replace uP:=zH uP;replace rZ:=zH rZ;replace tV:=zH tV;replace oG:=zH oG;replace rX:=zH rX;replace rH:=zH (And.intro uA rH);have rW2:=sG.r2;have rW3:=sG.r3;have rW4:=sG.r4;have rWT:=sG.rT;replace yZ:=zH yZ;clear uA sG hPI nV hEK hcc;go_upto_if 98 with fail;go_cut [] from 96 (fun wx=>PutD (TC S lvl xs x) w.heap.size w5.heap.size b g (w4.heap.size+1) w6.heap.size D w wx)
    case first =>
     by_cases h2:1<ups.length
     case neg =>
      have e1:decide ((1:Int)<(ups.length:Int))=false:=decide_eq_false zO;have e3:¬((1:Int)<(ups.length:Int)):=zO;have nM:=zH (show TC S lvl xs x=.ok (ups,S') by rw[hHP.out,if_neg h2]);replace h2:=zH h2;go_wp2_with fail;go_meet
      case rel=>exact⟨⟨ups,S',k',D',Au,cu,ed,nM.out,rX.out,rH.out.1,rZ.out,yV,uP.out,bg.out,fun y hy=>(oG.out y hy).2⟩,rW2,rW3,rW4,rWT,hK,sK⟩
     case pos =>
      have e3:(1:Int)<(ups.length:Int):=zO;have e4:¬(ups.length:Int)<=1:=zO;have nM:=zH (show TC S lvl xs x=QZ S' ((l.length:Nat):Int) ups ups by rw[hHP.out,if_pos h2]);have bU:ed.length=ups.length:=by rw[<-rZ.out,List.length_map]
      have ru:∀ q,(Value.slice Au ups.length cu).ownBlock=some q->¬B3 b g k' q:=fun q hq=>by obtain⟨cur,hc⟩:=Zl uP.out hq;exact bg.out.notB3 hc zA1 zA1 zA1
      have rW:∀ q,B3 b g k' q->w5.heap.size<=q:=fun q hq=>(bg.out.b3 q hq).1;have hX:=JZ.of_own (X:=B3 b g k') uP.out bU ru (fun p hp=>⟨(tV.out p hp).1,fun C hC=>(tV.out p hp).2.keepX hC fun q h1 hq=>by have:=rW q hq;omega⟩);rw[rZ.out] at hX;have HBd:=zH (qaU D' w.heap.size w5.heap.size b g k' S' rX.out ((l.length:Nat):Int) Au _ cu ups (fun y hy=>(oG.out y hy).1) rH.out.1 (by have:=rH.out.2;omega) 0 (.slice Au ups.length cu) ed ups rZ.out (fun p hp=>(tV.out p hp).1) (fun y hy=>(oG.out y hy).2) (by have:=rH.out.2;omega) W bg.out hX uP.out);replace h2:=zH h2;clear hX bU;go_wp2_with fail;refine HBd.out.mono ?_;clear HBd;intro e w10 hbq;obtain⟨bQ,aQ⟩:=hbq.split;clear hbq;have nB:∀ {q cs ty fr},W.heap[q]?=some (.cells cs ty fr)->ty≠191->ty≠5->ty≠130->¬B3 b g k' q:=fun hr h1 h2 h3=>bg.out.notB3 hr h1 h2 h3;have iV:=bQ.row yV (nB yV zA1 zA1 zA1);have uF:=bQ.row rWT (nB rWT zA1 zA1 zA1);have dh:=bQ.row rW4 (nB rW4 zA1 zA1 zA1);have iU:=bQ.row rW3 (nB rW3 zA1 zA1 zA1);have iT:=bQ.row rW2 (nB rW2 zA1 zA1 zA1);have pK:=(bg.out.others bQ).same D _ hK rfl;have s25:w.heap.size<=w5.heap.size:=x5.size;have dS:=sK.trans (Below.mono bQ.below s25);have hCG:=qa iV;have hCF:=qa dh;have yw:=qe iV;have yu:=qe dh;have zU:w4.heap.size+1≠w.heap.size+4:=by have:=z8;omega
      have zz:w.heap.size+4<D:=zO;replace dS:=zH dS;clear kU kT nB bQ sK;rcases aQ with ⟨er,sN,rfl⟩|⟨up2,S2,k2,D2,A2',c2',sN,rfl,yQ,hND,dU,hS2,dI⟩
      ·have tX:=zH (show q=.error er by rw[nK.out,nM.out,sN.out]);have hne0:(er != 0)=true:=by rw[bne_iff_ne];exact kD sN.out
       clear sN nM nK;go_upto_region 21 with fail;generalize fE:World.setCell (World.setCell w10 _ _) _ _=gz;obtain⟨t1,t2,t3,t4,t5,t6⟩:=Vl (C:=gz) iV dh zU fE.symm;clear fE hCG hCF yw yu;have gE:∀ W,qk.r gz W->∀ i,W.cell? ⟨w.heap.size+1+1+1+1,i,none⟩=#[.int .i64 er][i]?:=fun W h=>qa (qb t2 h);have q2:=(t3 (w.heap.size+2) zO zO).trans iT;have q3:=(t3 (w.heap.size+3) zO zO).trans iU;have qK:=t5.same D _ pK rfl;refine qm zQ ?_;refine qL (w:=gz) qk (qD [(2,jt),(3,jt)]) (List.replicate 4 true) 1 zQ zQ zQ zQ zQ zQ zQ ?st (Rel.drew _ _) ?walk
       case st=>exact qj (by simp only[List.forall_mem_cons];exact⟨jo,jo,fun _ h=>by cases h⟩)
       case walk =>
        intro K hK;dsimp only[qp,List.replicate];repeat ((first|(refine qd ?_ zA0 zA0 (fun W hW _=>⟨W,?_,Rel.refl _ W⟩) ?_;rotate_left;(go_simp<;>with_reducible rfl))|(refine qh zA0 ?_));try simp only[Act.put,ql,qf,qc,qg,Qp,Qn,Qk,qR,zA,zB,zC])
        refine qw jt zA0 zA0 (fun V hV _=>?_) (fun (p:Unit)=>?_)
        ·have hV:Ext gz V:=hV;have q8:=qb q2 hV;have k8:=qa q8;have f8:=qe q8;refine JF ?_ (same4 q8);go_simp
        simp only[Act.put,qf,qc,qg,Qp,Qn,Qk,qR,zA,zB,zC];repeat ((first|(refine qd ?_ zA0 zA0 (fun W hW _=>⟨W,?_,Rel.refl _ W⟩) ?_;rotate_left;(go_simp<;>with_reducible rfl))|(refine qh zA0 ?_));try simp only[Act.put,ql,qf,qc,qg,Qp,Qn,Qk,qR,zA,zB,zC])
        refine qw jt zA0 zA0 (fun V hV _=>?_) (fun (p:Unit)=>?_)
        ·have hV:Ext gz V:=hV;have q8:=qb q3 hV;have k8:=qa q8;have f8:=qe q8;refine JF ?_ (same1 q8);go_simp
        simp only[Act.put,qf,qc,qg,Qp,Qn,Qk,qR,zA,zB,zC];repeat ((first|(refine qd ?_ zA0 zA0 (fun W hW _=>⟨W,?_,Rel.refl _ W⟩) ?_;rotate_left;(go_simp<;>with_reducible rfl))|(refine qh zA0 ?_));try simp only[Act.put,ql,qf,qc,qg,Qp,Qn,Qk,qR,zA,zB,zC])
        refine qt (hK _ _ fun V hV hF=>?_);clear hF hK gE;have hV:Ext gz V:=hV;refine zC3 ?_;have q4V:=qb t2 hV;have ke:=qa q4V;have fe:=qe q4V;go_wp2;refine Qm ?_;go_wp2_with fail;have hV2:=hV.trans (same1 q4V);have z11:w.heap.size+4<gz.heap.size:=(zG.1 t2).1;have qKV:=qb qK hV2;exact XZ rfl rfl rfl rfl qKV zz (qb q2 hV2) (qb q3 hV2) (qb t2 hV2) ⟨_,rfl,by rw[tX.out];rfl,((t6 zO zO dS.out).trans (Below.mono hV2 zO)).trans (belowK_b (w:=w) (zM _) _ D _ _ zO qKV rfl rfl)⟩
      ·have hq4:=zH (nM.out.trans sN.out);obtain⟨-,uB,mi⟩:=kE (fun y hy=>(oG.out y hy).1) (fun y hy=>(oG.out y hy).2) rX.out sN.out;replace uB:=zH uB;replace mi:=zH mi;replace dU:=zH dU;replace dI:=zH dI;clear sN nM;go_wp2_with fail;go_meet
       case rel =>
        generalize fE:World.setCell (World.setCell w10 _ _) _ _=gz;obtain⟨t1,t2,t3,t4,t5,t6⟩:=Vl (C:=gz) iV dh zU fE.symm;clear fE;have zT:w6.heap.size≠w4.heap.size+1/\w6.heap.size≠w.heap.size+4:=by have:=af.size;omega
        refine⟨⟨up2,S2,k2,D2,A2',c2',upV up2,hq4.out,hS2.out,uB.out.1,?_,t1,QA (Qw dI.out (Nat.zero_le _)) (fun q hq=>t3 q ?_ ?_),dU.out.kept (t6 zO zO (Below.refl _ _)) fun q h _=>t3 q zO zO,fun y hy=>⟨.inr (mi.out y hy).2.1.1,(mi.out y hy).2.1.2⟩⟩,(t3 _ zO zO).trans iT,(t3 _ zO zO).trans iU,t2,(t3 _ zT.1 zT.2).trans uF,t5.same D _ pK rfl,t6 zO zO dS.out⟩
        ·unfold upV;rw[List.map_map];exact List.map_id' _
        ·have:=(Ql dI.out q hq).1;omega
        ·have:=(Ql dI.out q hq).1;have:=(zG.1 rW4).1;omega
    case rest =>
     obtain⟨⟨ups,S',k',D',Au,cu,ed,nM,rX,uA,rZ,yV,uP,bg,hFN⟩,rW2,rW3,rW4,rWT,hK,sK⟩:=hcut;have HL:=zH (UX D' w.heap.size w5.heap.size b g k' S' rX a ha bK wc bg);have hq5:=zH (show q=match Qz S' (-1) S'.now a with
      |none=>.error 8
      |some t=>.ok (Ke ups,qu S' t) by rw[nK.out,nM] <;> rfl)
     have kT:=qa rWT;replace nM:=zH nM;replace rZ:=zH rZ;replace uP:=zH uP;replace bg:=zH bg;replace hFN:=zH hFN;go_wp2_with fail;refine HL.out.mono ?_;clear HL;rintro e w10 ⟨bQ,aQ⟩;have nB:∀ {q cs ty fr},wc.heap[q]?=some (.cells cs ty fr)->ty≠191->ty≠5->ty≠130->¬B3 b g k' q:=fun hr h1 h2 h3=>bg.out.notB3 hr h1 h2 h3;have iV:=bQ.row yV (nB yV zA1 zA1 zA1);have uF:=bQ.row rWT (nB rWT zA1 zA1 zA1);have dh:=bQ.row rW4 (nB rW4 zA1 zA1 zA1);have iU:=bQ.row rW3 (nB rW3 zA1 zA1 zA1);have iT:=bQ.row rW2 (nB rW2 zA1 zA1 zA1);have pK:=(bg.out.others bQ).same D _ hK rfl;have s25:w.heap.size<=w5.heap.size:=x5.size;have dS:=sK.trans (Below.mono bQ.below s25);have hBH:=bQ.own uP.out (fun q hq=>by obtain⟨cur,hc⟩:=Zl uP.out hq;exact nB hc zA1 zA1 zA1);have zz:w.heap.size+4<D:=by have:=z8;omega
     have z10:w.heap.size+4<w10.heap.size:=(zG.1 dh).1;have zlo:w.heap.size+4<w5.heap.size:=zO;replace dS:=zH dS;clear nB bQ sK kT yV rWT rW4 rW3 rW2 hK uP;rcases hlv:Qz S' (-1) S'.now a with _|t
     ·rw[hlv] at aQ;obtain rfl:=aQ;have tX:=zH (show q=.error 8 by rw[hq5.out,hlv]);have kc:=qa iT;have kd:=qa iU;have ke:=qa dh;have fc:=qe iT;have fd:=qe iU;have fe:=qe dh;replace hlv:=zH hlv;clear hq5;go_wp2_with fail;obtain⟨g4,g5,g6,hb,-,hk,-⟩:=GO iT iU dh rfl;have qK:=(hk D zO).trans pK;exact XZ rfl rfl rfl rfl qK zz g4 g5 g6 ⟨_,rfl,by rw[tX.out];rfl,(hb zO dS.out).trans (belowK_b (w:=w) (zM _) _ D _ _ zO qK rfl rfl)⟩
     ·rw[hlv] at aQ;obtain⟨rfl,dU⟩:=aQ;have tX:=zH (show q=.ok (Ke ups,qu S' t) by rw[hq5.out,hlv]);have iy:Xs (qu S' t):=za (Yo rX (kO ha (qZ.1 rX).2.1 hlv));replace hlv:=zH hlv;clear hq5;go_upto_region 25 with fail;obtain⟨bu,ou,rfl,hbu,hcu⟩:=(Rd.of_own hBH).2 uA;obtain⟨cur,hcur⟩:=Zl hBH (q:=bu) rfl;have hbu2:bu≠w.heap.size+2:=qN hcur iT zA1;have bU:0<ed.length:=by have:=congrArg List.length rZ.out;rw[List.length_map] at this;omega
      have hcr:w10.cell? ⟨bu,ou+3,none⟩=some (.int .i64 (Ke ups:Int)):=by
       obtain⟨-,-,-,g3,-⟩:=vz ed 0 bU;have h1:=hcu _ _ g3;have h2:ed[0].1.r=(Ke ups:Int):=by
        obtain⟨y,ys,hy⟩:∃ y ys,ups=y :: ys:=by
         cases ups with
         |nil=>simp at uA
         |cons y ys=>exact⟨y,ys,rfl⟩
        have h3:ed[0].1=y:=by
         have h4:(ed.map (·.1))[0]?=ups[0]?:=by rw[rZ.out]
         rw[List.getElem?_map,zL bU,hy] at h4;simpa using h4
        have h5:=hFN.out y (by rw[hy];exact List.mem_cons_self);rw[h3,hy];show y.r=((y.r.toNat:Nat):Int)
        omega
       rw[h2] at h1;exact h1
      have hHS:=zH (fun W (h:(jR (w.heap.size+2) 28 (QW w10.heap.size (qu S' t)) (QW.keep zO)).r w10 W)=>by have h1:=dU.kept (vn h (B0:=w.heap.size) zO zO) (fun q h1 h2=>Kg h h2 zO);obtain⟨A1,n1,c1,A2,n2,c2,c3,A4,c4,hr,hs⟩:=h1.sto;exact vH b A1 n1 c1 A2 n2 c2 _ _ c3 A4 _ c4 (qu S' t) iy W hr hs);have ng:w.heap.size+2<w10.heap.size:=zO;obtain⟨RR,ak⟩:∃ RR:Rel,RR=jR (w.heap.size+2) 28 (QW w10.heap.size (qu S' t)) (QW.keep ng):=⟨_,rfl⟩
      replace ak:=zH ak;obtain⟨SF,hSF⟩:∃ SF,qu S' t=SF:=⟨_,rfl⟩
      rw[hSF] at tX dU iy hHS ak;replace hSF:=zH hSF;obtain⟨rF,hrF⟩:∃ rF,Ke ups=rF:=⟨_,rfl⟩
      rw[hrF] at tX hcr;have gT:∀ W,RR.r w10 W->∀ i,W.cell? ⟨w6.heap.size,i,none⟩=#[.pointer (some ⟨b,0,none⟩)][i]?:=fun W h=>qa (Zx (ak.out ▸ h) zO uF);have gU:∀ W,RR.r w10 W->∀ i,W.cell? ⟨w4.heap.size+1,i,none⟩=#[.slice (some ⟨bu,ou,none⟩) ups.length cu][i]?:=fun W h=>qa (Zx (ak.out ▸ h) zO iV);have gC:∀ W,RR.r w10 W->W.cell? ⟨bu,ou+3,none⟩=some (.int .i64 (rF:Int)):=fun W h=>by have h:(jR _ _ _ _).r w10 W:=ak.out ▸ h;exact World.grownBy.cell h.1 hcr (fun x=>hbu2 (by simpa using x))
      clear hcur hcu hcr bU rZ hFN hBH hrF;refine qm zQ ?_;refine qL (w:=w10) RR (qD [(1,qbk w10.heap.size SF),(6,Vg (w.heap.size+2) 28 (QW w10.heap.size SF))]) (List.replicate 7 true) 2 zQ zQ zQ zQ zQ zQ zQ ?st (Rel.drew _ _) ?walk
      case st=>rw[ak.out];exact qj (by simp only[List.forall_mem_cons];exact⟨YK ng,KT,fun _ h=>by cases h⟩)
      case walk =>
       intro K hK;dsimp only[qp,List.replicate];repeat ((first|(refine qd ?_ zA0 zA0 (fun W hW _=>⟨W,?_,Rel.refl _ W⟩) ?_;rotate_left;(go_simp<;>with_reducible rfl))|(refine qh zA0 ?_));try simp only[Act.put,ql,qf,qc,qg,Qp,Qn,Qk,qR,zA,zB,zC])
       refine qw (qbk w10.heap.size SF) zA0 zA0 (fun W hW _=>?_) (fun p=>?_)
       ·rw[ak.out] at hW ⊢;refine Qb ?_ ((hHS.out W hW).mono fun e w' h=>?_)
        ·go_simp
        obtain⟨v,rfl,hT,hB⟩:=h;obtain⟨BB,WW,gg,A3',c3',A4',eP,rfl,-⟩:=id hT;exact⟨((BB,WW),(A3',c3'),(A4',eP)),rfl,QF.keep hT hW.1.size (zM _) (fun _ _ _=>rfl),GU hB⟩
       obtain⟨⟨BB,WW⟩,⟨A3',c3'⟩,⟨A4',eP⟩⟩:=p;simp only[Act.put,qf,qc,qg,Qp,Qn,Qk,qR,zA,zB,zC];repeat ((first|(refine qd ?_ zA0 zA0 (fun W hW _=>⟨W,?_,Rel.refl _ W⟩) ?_;rotate_left;(go_simp<;>with_reducible rfl))|(refine qh zA0 ?_));try simp only[Act.put,ql,qf,qc,qg,Qp,Qn,Qk,qR,zA,zB,zC])
       refine qw (Vg (w.heap.size+2) 28 (QW w10.heap.size SF)) zA0 zA0 (fun W hW hp=>?_) (fun (p:Unit)=>?_)
       ·have hT:QF w10.heap.size SF (Qd (some ⟨BB,0,none⟩) SF.bs.length SF.bs.length (some ⟨WW,0,none⟩) SF.ws.length (SF.ws.length+1) A3' SF.now.length c3' A4' SF.last.length eP) W:=(hp 1 zA1).1;rw[ak.out] at hW ⊢;have hr0:=qes ng hW iT;obtain⟨u0,u1,u2,u3,q8⟩:=id hr0;have k8:=qa q8;have f8:=qe q8;refine TY ng hr0 hT ?_;clear hT hr0;go_simp
       simp only[Act.put,qf,qc,qg,Qp,Qn,Qk,qR,zA,zB,zC];repeat ((first|(refine qd ?_ zA0 zA0 (fun W hW _=>⟨W,?_,Rel.refl _ W⟩) ?_;rotate_left;(go_simp<;>with_reducible rfl))|(refine qh zA0 ?_));try simp only[Act.put,ql,qf,qc,qg,Qp,Qn,Qk,qR,zA,zB,zC])
       refine qt (hK _ _ fun V hV hF=>?_);have hRT:∃ cs,V.heap[w.heap.size+2]?=some (.cells cs 28 (0,0))/\QW w10.heap.size SF cs V:=(hF 6).1;clear hF hK gT gU gC hHS;rw[ak.out] at hV;obtain⟨cs,q2,x0,x1,x2,x3,rfl,hTw⟩:=hRT;have q3:=Zx hV (show w.heap.size+3≠w.heap.size+2 by omega) iU;have q4:=Zx hV (show w.heap.size+4≠w.heap.size+2 by omega) dh;have qK:=Zx hV (show D≠w.heap.size+2 by omega) pK;have xV:=vn hV (B0:=w.heap.size) zO zO;have zV:=hV.1.size;have kd:=qa q3;have ke:=qa q4;have fd:=qe q3;have fe:=qe q4;have zd:w.heap.size+1+1+1<V.heap.size:=zO;replace hTw:=zH hTw;clear hV ak;refine zC3 ?_;go_wp2;refine Qm ?_;go_wp2_with fail;generalize aZ:World.setCell (World.setCell V _ _) _ _=wf;obtain⟨t1,t2,t3,t4,t5,t6⟩:=Vl (C:=wf) q3 q4 zO aZ.symm;clear aZ;have qKf:=t5.same D _ qK rfl;refine XZ rfl rfl rfl rfl qKf zz ((t3 _ zO zO).trans q2) t1 t2 ⟨_,rfl,?_,(t6 zO zO (dS.out.trans xV)).trans (belowK_b (w:=w) (zM _) _ D _ _ zO qKf rfl rfl)⟩;rw[tX.out];refine⟨_,rfl,QF.keep hTw.out zO (by simp[World.putObj,t4]) fun k h1 h2=>?_⟩;exact(World.putObj_heap_other (by have:=(zG.1 pK).1;omega)).trans (t3 k zO zO)
   case stop =>
    rintro D cc pre W hD ⟨kk,hkk,rfl⟩ ⟨⟨er,Wb,rfl,hgx,⟨g4,g5,g6⟩,hCK⟩,hB⟩ hK;rw[lZ] at hkk hgx;rw[qei l kk hkk] at hgx;have tX:=zH (show q=.error er by rw[nK.out,hBQ.out,qff hgx]);subst fU;have zz:w.heap.size+4<w8.heap.size:=(zG.1 hI0.out.r4).1
    gi_wp2_with fail
    have sK:Below w.heap.size w (W.putObj D (.deferred none)):=hB.trans (belowK_b (w:=w) (zM _) W D _ _ zO hK rfl rfl);exact XZ rfl rfl rfl rfl hK zO (hCK.row g4) (hCK.row g5) (hCK.row g6) ⟨_,rfl,by rw[tX.out];rfl,sK⟩
end Go.Proofs.YtpbniokljofedaaGreat
