/- Lemmas of the proof. -/
import Derived.Test.YtmeadnlmepcmbaaGreatZT18
set_option linter.all false
set_option maxHeartbeats 8000000
open Go.Proofs.Tryz
open Go.Value renaming slice→E,int→U,pointer→Jx
open Option renaming some→F,none→I
open Bool renaming true→J
open Go.World renaming setCell→M,alloc→Y
open Go.Obj renaming cells→O
open Go.IntKind renaming i64→Z
namespace Go.Proofs.YtmeadnlmepcmbaaGreat
open Go.RowKit Go.Shelf
attribute [local go_sem] Oper.semAt_some
variable {R:Ending->World->Prop}{a:Act}{W W' w:World}{x0 x1 x2 x3 y z:Value}{D:Nat->Prop}{k:Option Nat}{S:Sto}{lvl:Int}{l held:List It}{e:Ending}
theorem qli{n b:Nat}(h4:a.tmps[6]?.getD undef=Jx (b+1+1,0))(h5:a.tmps[7]?.getD undef=Jx (b+1+1+1,0))(h6:a.tmps[8]?.getD undef=Jx (b+1+1+1+1,0))(hd:a.defers=[])(r4:W.heap[b+2]?=F (O #[x0,x1,x2,x3] 28))(r5:W.heap[b+3]?=F (O #[y] 3))(r6:W.heap[b+4]?=F (O #[z] 37))(hR:R (.returned (.tuple #[.agg #[x0,x1,x2,x3],y,z])) W):bodyPostM Fence.wide n prog Tryz.f65 R .ret a W:=by have k4:=qa r4;have k5:=qa r5;have k6:=qa r6;change LeavesInM Fence.wide n prog Tryz.f65 a.tmps R a.defers .returning W;rw[hd];refine⟨.tuple #[.agg #[x0,x1,x2,x3],y,z],?_,hR⟩;simp[results,results65,go_sem,h4,h5,h6,k4,k5,k6]
theorem GS{n b D:Nat}(h4:a.tmps[6]?.getD undef=Jx (b+1+1,0))(h5:a.tmps[7]?.getD undef=Jx (b+1+1+1,0))(h6:a.tmps[8]?.getD undef=Jx (b+1+1+1+1,0))(hd:a.defers=[{target:=.collected D,args:=#[]}])(hK:W.heap[D]?=F (.deferred (F [])))(hD:b+4<D)(r4:W.heap[b+2]?=F (O #[x0,x1,x2,x3] 28))(r5:W.heap[b+3]?=F (O #[y] 3))(r6:W.heap[b+4]?=F (O #[z] 37))(hR:R (.returned (.tuple #[.agg #[x0,x1,x2,x3],y,z])) (W.putObj D (.deferred I))):bodyPostM Fence.wide n prog Tryz.f65 R .ret a W:=by have k4:=qa ((World.putObj_heap_other (o:=.deferred I) (show b+2≠D by omega)).trans r4);have k5:=qa ((World.putObj_heap_other (o:=.deferred I) (show b+3≠D by omega)).trans r5);have k6:=qa ((World.putObj_heap_other (o:=.deferred I) (show b+4≠D by omega)).trans r6);change LeavesInM Fence.wide n prog Tryz.f65 a.tmps R a.defers .returning W;rw[hd];refine⟨zA3,.inl ⟨_,_,rfl,run_takeDeferred hK,.tuple #[.agg #[x0,x1,x2,x3],y,z],?_,hR⟩⟩;simp[results,results65,go_sem,h4,h5,h6,k4,k5,k6]
theorem key_ifn(x:It)(k i o:Int)(W:World):(if x.k=k then if x.i=i then if x.o=o then Result.ok (Next.value (Value.bool false)) W else Result.ok (Next.value (Value.bool J)) W else Result.ok (Next.value (Value.bool J)) W else Result.ok (Next.value (Value.bool J)) W)=Result.ok (Next.value (Value.bool (!decide (qw x=(k,i,o))))) W:=by
 have e:(qw x=(k,i,o))↔(x.k=k/\x.i=i/\x.o=o):=by unfold qw;simp only[Prod.mk.injEq]
 by_cases h1:x.k=k;by_cases h2:x.i=i;by_cases h3:x.o=o;rw[if_pos h1,if_pos h2,if_pos h3,decide_eq_true (e.2 ⟨h1,h2,h3⟩)];rfl;rw[if_pos h1,if_pos h2,if_neg h3,decide_eq_false (λh=>h3 (e.1 h).2.2)];rfl;rw[if_pos h1,if_neg h2,decide_eq_false (λh=>h2 (e.1 h).2.1)];rfl;rw[if_neg h1,decide_eq_false (λh=>h1 (e.1 h).1)];rfl
theorem Qe.of_ext(h:Ext W W'):Qe W W':=⟨h.size,λk o hk _=>(Below.block h k (zG.1 hk).1).trans hk⟩
theorem XN.split{B lo b g:Nat}(h:XN D B lo b g k S lvl l held w e W):Qi lo b g k w W/\((∃er,Hid (Qy S lvl l held=.error er)/\e=.returned (.tuple #[E I 0 0,U Z er])) \/
  (∃up S' k' D' A c,Hid (Qy S lvl l held=.ok (up,S'))/\e=.returned (.tuple #[E A up.length c,U Z 0])/\Zs w k k'/\Yd w D D'/\Bch D' B lo b g k' S' W/\Hid (qj S'=J)/\W.ownsRow w 51 5 (E A up.length c) up.length (qD (upV up)))):=by
 obtain⟨h1,h2⟩:=h;refine⟨h1,?_⟩;rcases hb:Qy S lvl l held with er|⟨up,S'⟩
 rw[hb]at h2;exact .inl ⟨er,zH rfl,h2⟩;rw[hb]at h2;obtain⟨k',D',A,c,e1,e2,e3,e4,e5,e6,-⟩:=h2;exact .inr ⟨up,S',k',D',A,c,zH rfl,e1,e2,e3,e4,zH e5,e6⟩
set_option maxRecDepth 100000 in
theorem put_any (A1 n1 c1 A2 n2 c2 A3 n3 c3 A4 n4 c4) (S:Sto) (hS:qj S=true) (a lvl:Nat) (xs:List It) (ha:8<=a) (bC:a<256) (hn:qo S a=some ((lvl:Int),xs)) (aK:(qz S lvl xs).isSome=true) (x:It) (hxo:Zb x) (Ax:OA) (cx:Nat) (w:World) (aJ:Qh w w.heap.size (.slice A1 n1 c1) (.slice A2 n2 c2) (.slice A3 n3 c3) (.slice A4 n4 c4) S) (hxv:Bys w w.heap.size (.slice Ax x.val.length cx) x.val):Calls prog 65 #[Qo A1 n1 c1 A2 n2 c2 A3 n3 c3 A4 n4 c4,.int .i64 (a:Int),itV x Ax cx] w (zZ (PutQ w.heap.size (qaJ S lvl xs a x)) w):=by
 have HA:=zH (fun W (hx:Ext w W)=>qjV A1 n1 c1 A2 n2 c2 A3 n3 c3 A4 n4 c4 S hS a lvl xs ha bC hn aK x Ax cx W (aJ.ext hx));have HW:=zH (fun W (hx:Ext w W)=>way_any A1 n1 c1 A2 n2 c2 A3 n3 c3 A4 n4 c4 S hS a lvl xs ha bC hn aK x.k x.i x.o W (aJ.ext hx));have HO:=zH (fun W (hx:Ext w W)=>qdc A1 n1 c1 A2 n2 c2 A3 n3 c3 A4 n4 c4 S (by have:=(qZ hS).2.2.1;omega) W (aJ.ext hx));obtain⟨q,hq⟩:∃ q,qaJ S lvl xs a x=q:=⟨_,rfl⟩
 rw[hq];replace hq:=zH hq;obtain⟨l,hl⟩:∃ l,jJ S (x.k,x.i,x.o) lvl xs=l:=⟨_,rfl⟩
 have hwo:=qgD (k:=(x.k,x.i,x.o)) lvl hn aK;have ig:=Yb (k:=(x.k,x.i,x.o)) lvl (qI hn).1 aK;have hl6:lvl<6:=by have:=zY hn;omega
 rw[hl] at HW hwo ig;replace hl:=zH hl;replace hwo:=zH hwo;have fZ:0<l.length/\l.length<=6:=zO;replace fZ:=zH fZ;replace ig:=zH ig;clear hl6;refine(callsIn_wide (n:=3)).1 ?_;refine callsIn_of_wp_marks func65 rfl trivial ?_ rfl;simp only[ntmps65,List.size_toArray,List.length_cons,List.length_nil,Nat.reduceAdd,Nat.reduceSub,Array.replicate_succ,Array.replicate_zero,List.push_toArray,List.append_toArray,List.nil_append,List.cons_append];refine wpIn_wide.2 ?_;replace aJ:=zH aJ;replace hxv:=zH hxv;replace hxo:=zH hxo;clear hn aK;go_wp2_with fail;generalize aA:(World.alloc (World.alloc (World.alloc (World.alloc (World.alloc w _) _) _) _) _)=w1;have x1:Ext w w1:=by rw[<-aA];exact((((zN _ _).trans (zN _ _)).trans (zN _ _)).trans (zN _ _)).trans (zN _ _)
 have s1:w.heap.size+5<=w1.heap.size:=by rw[<-aA];simp
 have ra1:w1.heap[w.heap.size]?=some (.cells #[.slice A1 n1 c1,.slice A2 n2 c2,.slice A3 n3 c3,.slice A4 n4 c4] 28 (0,0)):=by rw[<-aA];exact(zK _ _ _ zA4).trans ((zK _ _ _ zA4).trans ((zK _ _ _ zA4).trans ((zK _ _ _ zA4).trans (zI _ _ _ rfl))))
 have rb1:w1.heap[w.heap.size+1]?=some (.cells #[.int .u8 x.k,.int .u32 x.i,.int .u32 x.o,.int .i64 x.r,.slice Ax x.val.length cx] 51 (0,0)):=by rw[<-aA];exact(zK _ _ _ zA4).trans ((zK _ _ _ zA4).trans ((zK _ _ _ zA4).trans (zI _ _ _ zA3)))
 have rc1:w1.heap[w.heap.size+2]?=some (.cells #[.slice none 0 0,.slice none 0 0,.slice none 0 0,.slice none 0 0] 28 (0,0)):=by rw[<-aA];exact(zK _ _ _ zA4).trans ((zK _ _ _ zA4).trans (zI _ _ _ zA3))
 have rd1:w1.heap[w.heap.size+3]?=some (.cells #[.int .i64 0] 3 (0,0)):=by rw[<-aA];exact(zK _ _ _ zA4).trans (zI _ _ _ zA3)
 have re1:w1.heap[w.heap.size+4]?=some (.cells #[.int .i64 0] 37 (0,0)):=by rw[<-aA];exact zI _ _ _ zA3
 clear aA;refine(HA.out w1 x1).mono ?_;clear HA;rintro e w2 ⟨rfl,hB⟩;have x2:Ext w w2:=x1.trans hB;have s2:=hB.size;have ra2:=qb ra1 hB;have rb2:=qb rb1 hB;have rc2:=qb rc1 hB;have rd2:=qb rd1 hB;have re2:=qb re1 hB;clear hB ra1 rb1 rc1 rd1 re1 x1;have ka2:=qa ra2;have kb2:=qa rb2;have kc2:=qa rc2;have kd2:=qa rd2;have ke2:=qa re2;have fc2:=qe rc2;have fd2:=qe rd2;have fe2:=qe re2;by_cases hE:qan S x=0
 case neg =>
  have lK:=zH (show q=.error (qan S x) by rw[<-hq.out];unfold qaJ;rw[if_neg hE]);have aH:(qan S x != 0)=true:=by rw[bne_iff_ne];exact hE
  generalize qan S x=er at *;clear HW HO;go_wp2_with fail;obtain⟨g4,g5,g6,hb,-⟩:=YK rc2 rd2 re2 rfl;exact qli rfl rfl rfl rfl g4 g5 g6 ⟨_,rfl,by rw[lK.out];rfl,hb zO x2⟩
 case pos =>
  have oh:=zH (show q=putX S lvl xs a x by rw[<-hq.out];unfold qaJ;rw[if_pos hE]);rw[hE];clear hq;have hq2:Hid (q=match qaI S lvl xs x with
   | .error e=>.error e
   | .ok (up,S2)=>match QK S2 (-1) S2.now a with
    |none=>.error 8
    |some t=>.ok (ku up,qp S2 t)):=zH (by rw[oh.out,qgo] <;> rfl)
  have hpre:Hid (qaI S lvl xs x=if qbE (x.k,x.i,x.o) l=true then .error 120 else
   match JF (x.k,x.i,x.o) l.reverse [x] S with
   | .error e=>.error e
   | .ok (up,S1)=>if 1<up.length then Qy S1 ((l.length:Nat):Int) up up else .ok (up,S1)):=zH (by rw[<-hl.out];rfl)
  replace hE:=zH hE;clear oh;go_wp2_with fail;refine(HW.out w2 x2).mono ?_;clear HW;rintro e w3 ⟨u,rfl,hSE,hB⟩;have x23:Ext w2 w3:=hB;have x3:Ext w w3:=x2.trans x23;have s3:=hB.size;have ra3:=qb ra2 hB;have rb3:=qb rb2 hB;have rc3:=qb rc2 hB;have rd3:=qb rd2 hB;have re3:=qb re2 hB;clear hB ra2 rb2 rc2 rd2 re2 ka2 kb2 kc2 kd2 ke2 fc2 fd2 fe2;have ka3:=qa ra3;have kb3:=qa rb3;have kc3:=qa rc3;have kd3:=qa rd3;have ke3:=qa re3;have fc3:=qe rc3;have fd3:=qe rd3;have fe3:=qe re3;have hT:=tall_any u l (by have:=fZ.out;omega) fZ.out.1 x.k x.i x.o (fun s hs=>(hwo.out s hs).len) w3 (hSE.read (qU.refl _ _));obtain⟨ps,bM,⟨As,cs,rfl,hNQ,hIS,hsr⟩,eF⟩:=hSE;replace hIS:=zH hIS;replace hsr:=zH hsr;replace eF:=zH eF;replace bM:=zH bM;replace hT:=zH hT;clear hNQ;go_wp2_with fail;refine hT.out.mono ?_;clear hT;rintro e w4 ⟨rfl,hB⟩;have x34:Ext w3 w4:=hB;have x4:Ext w w4:=x3.trans x34;have s4:=hB.size;have ra4:=qb ra3 hB;have rb4:=qb rb3 hB;have rc4:=qb rc3 hB;have rd4:=qb rd3 hB;have re4:=qb re3 hB;clear hB ra3 rb3 rc3 rd3 re3 ka3 kb3 kc3 kd3 ke3 fc3 fd3 fe3;have ka4:=qa ra4;have kb4:=qa rb4;have kc4:=qa rc4;have kd4:=qa rd4;have ke4:=qa re4;have fc4:=qe rc4;have fd4:=qe rd4;have fe4:=qe re4;rcases hta:qbE (x.k,x.i,x.o) l with _|_
  case true =>have lK:=zH (show q=.error 120 by rw[hq2.out,hpre.out,if_pos hta]);clear hq2 hpre HO;go_wp2_with fail;obtain⟨g4,g5,g6,hb,-⟩:=YK rc4 rd4 re4 rfl;exact qli rfl rfl rfl rfl g4 g5 g6 ⟨_,rfl,by rw[lK.out];rfl,hb zO x4⟩
  case false =>
   have mZ:Hid (qaI S lvl xs x=match JF (x.k,x.i,x.o) l.reverse [x] S with
    | .error e=>.error e
    | .ok (up,S1)=>if 1<up.length then Qy S1 ((l.length:Nat):Int) up up else .ok (up,S1)):=zH (by rw[hpre.out,if_neg (by rw[hta];decide)])
   replace hta:=zH hta;clear hpre;have z40:w.heap.size<w4.heap.size:=zO;have z41:w.heap.size+1<w4.heap.size:=zO;have z42:w.heap.size+1+1<w4.heap.size:=zO;have z43:w.heap.size+1+1+1<w4.heap.size:=zO;have z44:w.heap.size+1+1+1+1<w4.heap.size:=zO;go_wp2_with fail;generalize aS:(World.alloc (World.alloc w4 _) _)=w5;have x45:Ext w4 w5:=by rw[<-aS];exact(zN _ _).trans (zN _ _)
   have x5:Ext w w5:=x4.trans x45;have s5:w4.heap.size+2<=w5.heap.size:=by rw[<-aS];simp
   have rU5:w5.heap[w4.heap.size]?=some (.cells #[.int .u8 x.k,.int .u32 x.i,.int .u32 x.o,.int .i64 x.r,.slice Ax x.val.length cx] 51 (0,0)):=by rw[<-aS];exact(zK _ _ _ zA3).trans (zI _ _ _ rfl)
   have rB5:w5.heap[w4.heap.size+1]?=some (.cells #[.slice (some ⟨w4.heap.size,0,none⟩) 1 1] 55 (0,0)):=by rw[<-aS];exact zI _ _ _ zA3
   clear aS;have rb5:=qb rb4 x45;have rc5:=qb rc4 x45;have rd5:=qb rd4 x45;have re5:=qb re4 x45;clear ra4 rb4 rc4 rd4 re4 ka4 kb4 kc4 kd4 ke4 fc4 fd4 fe4;refine(HO.out w5 x5).mono ?_;clear HO;rintro e w6 ⟨u,rfl,⟨b,A3',c3',rfl,aQ,aC,aB⟩,hB⟩;have x56:Ext w5 w6:=hB;have x6:Ext w w6:=x5.trans x56;have s6:=hB.size;have hst6:=aJ.out.below x6;obtain⟨g,iy⟩:=Bch.of_on (B:=w.heap.size) x5.size hS hst6 aQ aC aB;replace iy:=zH iy;have rb6:=qb rb5 hB;have rc6:=qb rc5 hB;have rd6:=qb rd5 hB;have re6:=qb re5 hB;have rU6:=qb rU5 hB;have rB6:=qb rB5 hB;clear hB rb5 rc5 rd5 re5 rU5 rB5 aC aB hst6 z40 z41 z42 z43 z44;go_wp2_with fail;generalize lX:World.alloc w6 _=w7;have x67:Ext w6 w7:=by rw[<-lX];exact zN _ _
   have rT7:w7.heap[w6.heap.size]?=some (.cells #[.pointer (some ⟨b,0,none⟩)] 92 (0,0)):=by rw[<-lX];exact zI _ _ _ rfl
   clear lX;refine(qdQ As l.length cs w7).mono ?_;rintro e w8 ⟨rfl,rfl⟩;go_wp2_with fail;generalize xR:World.alloc w7 _=w8;have x78:Ext w7 w8:=by rw[<-xR];exact zN _ _
   have s8:w7.heap.size<w8.heap.size:=by rw[<-xR];simp
   have rS8:w8.heap[w7.heap.size]?=some (.cells #[.slice As l.length cs] 180 (0,0)):=by rw[<-xR];exact zI _ _ _ rfl
   clear xR;have x68:Ext w6 w8:=x67.trans x78;have x38:Ext w3 w8:=((x34.trans x45).trans x56).trans x68;have x8:Ext w w8:=x6.trans x68;obtain⟨b2,o2,rfl,bP,au⟩:=(hsr.out w3 (qU.refl _ _)).2 fZ.out.1;have bz:ps.length=l.length:=by rw[<-bM.out,List.length_map]
   obtain⟨us,nO⟩:∃ us:List Us,us=ps.map fun p=>((p.1,kK p.2):Us):=⟨_,rfl⟩
   have iT:us.length=l.length:=by rw[nO,List.length_map,bz]
   have oZ:∀ i (hi:i<ps.length),us[i]?.getD usz=(ps[i].1,kK ps[i].2):=fun i hi=>by rw[nO,List.getElem?_map,zL hi];rfl
   have mJ:∀ i (hi:i<ps.length),sv (kK ps[i].2)=ps[i].2:=fun i hi=>by obtain⟨ips,_,⟨⟨A,c,e,_⟩,_⟩⟩:=eF.out ps[i] (List.getElem_mem hi);rw[e];rfl
   have tX:∀ j,∃ ips A c,sv (us[j]?.getD usz).2=.slice A (sAt l j).2.1.length c/\(us[j]?.getD usz).1=sAt l j/\ips.map (·.1)=(sAt l j).2.1/\jD (fun q=>q<w2.heap.size) w3 (sv (us[j]?.getD usz).2) ips:=fun j=>by
    by_cases hj:j<ps.length
    ·obtain⟨ips,e1,he⟩:=eF.out ps[j] (List.getElem_mem hj);have hx:ps[j].1=sAt l j:=by unfold sAt;rw[<-bM.out,List.getElem?_map,zL hj];rfl
     obtain⟨A,c,e⟩:=he.shape e1;rw[oZ j hj];simp only;rw[mJ j hj];rw[hx] at e e1;exact⟨ips,A,c,e,hx,e1,he⟩
    ·have h1:us[j]?=none:=List.getElem?_eq_none (by rw[iT];omega);have h2:sAt l j=(0,[],0):=by unfold sAt;rw[List.getElem?_eq_none zO];rfl
     rw[h1,h2];exact⟨[],none,0,rfl,rfl,rfl,⟨none,0,rfl,zM _,zA7,fun C _=>Rd.none_⟩,fun p hp=>by cases hp⟩
   have hne4:b2≠w.heap.size+4:=fun e=>by have h1:=au 1 _ (kX ps 0 (by rw[bz];exact fZ.out.1)).2.1;have h2:=Ext.cell ((x34.trans x45).trans x56) h1;rw[e,qa re6] at h2;simp at h2
   have hSW:SWs w8 w7.heap.size b2 (.slice (some ⟨b2,o2,none⟩) l.length cs) us:=by refine⟨by rw[qa rS8];rfl,.inr ⟨o2,cs,by rw[iT],fun i hi=>?_⟩⟩;have fF:i<ps.length:=zO;obtain⟨g0,g1,g2⟩:=kX ps i fF;rw[oZ i fF];simp only;rw[mJ i fF];exact⟨Ext.cell x38 (au _ _ g0),by rw[Nat.add_assoc];exact Ext.cell x38 (au _ _ g1),by rw[Nat.add_assoc];exact Ext.cell x38 (au _ _ g2)⟩
   have xG:PutI (x.k,x.i,x.o) l S x w.heap.size w5.heap.size b g (w4.heap.size+1) w6.heap.size w7.heap.size w2.heap.size w3 (.slice Ax x.val.length cx) (.slice (some ⟨b2,o2,none⟩) l.length cs) [] w8:=by
    refine⟨⟨[x],S,none,_,_,1,[(x,.slice Ax x.val.length cx)],rfl,hS,zA3,zA3,rfl,fun y hy=>?_,fun p hp=>?_,qb rB6 x68,?_,iy.out.ext x68⟩,qb rb6 x68,qb rc6 x68,qb rd6 x68,qb re6 x68,qb rT7 x78,rS8,qU.of_ext x38⟩
    ·obtain rfl:y=x:=by simpa using hy
     have hb:itB y.r y.val.length=true:=by
      have:=hE.out;unfold qan at this;split at this
      ·rename_i h;exact h
      ·cases this
     unfold itB at hb;simp only[decide_eq_true_eq] at hb;have h1:=hxo.out.2.2.2.1;exact⟨hxo.out,zO,h1.2⟩
    ·obtain rfl:p=(x,.slice Ax x.val.length cx):=by simpa using hp
     exact⟨⟨Ax,cx,rfl⟩,hxv.out.below x8⟩
    ·exact⟨rfl,.inr ⟨w4.heap.size,1,_,rfl,Nat.zero_le _,qb rU6 x68,zM _,zA7,rfl,rfl⟩⟩
   replace xG:=zH xG;replace tX:=zH tX;clear nO oZ mJ au hsr eF bM bz rb6 rc6 rd6 re6 rU6 rB6 rT7 rS8;generalize iJ:({ tmps:=_,defers:=_ }:Act)=act;refine(wpIn_wide (n:=3)).1 ?_;refine wpIn_rangeFunc_ownH rfl zO (gf:=176) (lb:=#[.pointer (some ⟨w7.heap.size,0,none⟩)]) (by rw[<-iJ];rfl) trivial (enters_of func176 zQ rfl)
    (qhe (3-1) zO w7.heap.size b2 _ us (by rw[iT];have:=fZ.out;omega) w8 s8 (by have:=x38.size;omega) hSW) Qw.t (Qw.b s8 (by have:=x38.size;omega)) (Below.refl _ _) (fun _=>rfl)
    (fun pre W'=>(∃ Wb,PutI (x.k,x.i,x.o) l S x w.heap.size w5.heap.size b g (w4.heap.size+1) w6.heap.size w7.heap.size w2.heap.size w3 (.slice Ax x.val.length cx) (.slice (some ⟨b2,o2,none⟩) l.length cs) pre Wb/\Qe Wb W')/\Below w.heap.size w W')
    (fun c pre W'=>(∃ er Wb,c=.ret/\JF (x.k,x.i,x.o) (pre.map (sAt l)) [x] S=.error er/\(Wb.heap[w.heap.size+2]?=some (.cells #[.slice none 0 0,.slice none 0 0,.slice none 0 0,.slice none 0 0] 28 (0,0))/\Wb.heap[w.heap.size+3]?=some (.cells #[.int .i64 0] 3 (0,0))/\Wb.heap[w.heap.size+4]?=some (.cells #[.int .i64 er] 37 (0,0)))/\Qe Wb W')/\Below w.heap.size w W')
    (OwnFrom.and (fun s A C row hs hg hr=>by obtain⟨Wb,h1,h2⟩:=hs;exact⟨Wb,h1,h2.grown hg fun r e=>(hr r e).2⟩) (ownFrom_below (zM _) x8.size))
    (fun c=>OwnFrom.and (fun s A C row hs hg hr=>by obtain⟨er,Wb,h1,h2,h3,h4⟩:=hs;exact⟨er,Wb,h1,h2,h3,h4.grown hg fun r e=>(hr r e).2⟩) (ownFrom_below (zM _) x8.size))
    ⟨⟨w8,xG.out,Qe.refl _⟩,x8⟩
    (fun j a' W'=>∃ t14,a'=(((({ tmps:=act.tmps,defers:=[] }:Act).put (some 42) (.int .i64 (j:Int))).put (some 43) (.agg #[.int .i64 ((us[j]?.getD usz).1.1:Int),sv (us[j]?.getD usz).2,.int .i64 ((us[j]?.getD usz).1.2.2:Int)])).put (some 14) (.pointer (some ⟨t14,0,none⟩)))/\W'.heap[t14]?=some (.cells #[.int .i64 ((us[j]?.getD usz).1.1:Int),sv (us[j]?.getD usz).2,.int .i64 ((us[j]?.getD usz).1.2.2:Int)] 187 (0,0)))
    (fun x a' s A C row hs hg hr=>by obtain⟨t14,e,h⟩:=hs;exact⟨t14,e,QF (β:=Unit) _ _ _ _ () A C row h hg hr⟩) ?assign ?body ?done ?stop
   case assign =>
    rintro l' pre j W' K ⟨⟨Wb,xm,lC⟩,i4⟩ hK;subst iJ;have z4:=i4.size;have dS:=xm.ck lC;have zS:=(zG.1 dS.rS).1;have zb2:b2<W'.heap.size:=by have:=(((x34.trans x45).trans x56).trans x67).size;omega
    gi_wp2
    exact hK _ _ ((KeepsOthers.alloc _ _).from _) ⟨zK _ _ _ zS,zK _ _ _ zb2⟩ ⟨⟨_,dS,Qe.of_ext (zN _ _)⟩,Below.alloc i4 z4 _⟩ ⟨W'.heap.size,rfl,zI _ _ _ rfl⟩
   case body =>
    rintro l' pre j a' W' hll ⟨rr,hlp⟩ ⟨⟨Wb,xm,lC⟩,i4⟩ ⟨t14,rfl,hBM⟩ _;subst iJ;have dS:=xm.ck lC;simp only[Act.put,zA,zB,zC];obtain⟨ips,A9,c9,e9,e10,e11,dn⟩:=tX.out j;have hWO:=sAt_ok hwo.out j;have tV:=zH (fun (ups:List It) (S':Sto) (h:JF (x.k,x.i,x.o) (pre.map (sAt l)) [x] S=.ok (ups,S'))=>(by rw[List.map_append,Xb,h];simp only[List.map_cons,List.map_nil];exact qlZ _ _ _ _:JF (x.k,x.i,x.o) ((pre++[j]).map (sAt l)) [x] S=Qy S' ((sAt l j).1:Int) (ZE (sAt l j).2.1 (sAt l j).2.2 (YF (x.k,x.i,x.o) (sAt l j).1 (sAt l j).2.1) ups) ups));obtain⟨s9,hs9⟩:∃ s9,sAt l j=s9:=⟨_,rfl⟩
    rw[hs9] at e9 e10 e11 hWO tV;clear hs9;generalize us[j]?.getD usz=u9 at *;obtain⟨v9,sl9⟩:=u9;simp only at e9 e10 hBM dn;subst e10;obtain⟨lv,ys,pl⟩:=v9;simp only at e9 e11 hBM tV;rw[e9] at hBM dn ⊢;obtain⟨hWm,hWi,hWl,xx,uj,iV⟩:=hWO;simp only at hWm hWi hWl xx uj iV;obtain⟨ups,S',k',D',Au,cu,gz,bU,fO,wX,uI,uQ,rP,wS,hrU,xQ,bn⟩:=dS.ex;have hit:=(dn.trans dS.kx fun q _ h=>h).its (qU.refl (fun q=>q<w2.heap.size) W');rw[e11] at hit;obtain⟨many,hmy⟩:∃ many,YF (x.k,x.i,x.o) lv ys=many:=⟨_,rfl⟩
    have hIC:=many_ok (k:=(x.k,x.i,x.o)) (s:=(lv,ys,pl)) ⟨hWm,hWi,hWl,xx,uj,iV⟩;simp only at hIC;rw[hmy] at hIC tV;have zx:w.heap.size+1<W'.heap.size:=(zG.1 dS.rx).1;have hGY:Hid ((pl=ys.length->many=0)/\(pl<ys.length->lv≠0->many=1)/\(∀ h:pl<ys.length,lv=0->many=if qw (ys[pl]'h)=(x.k,x.i,x.o) then 1 else 0)):=zH (by
     refine⟨fun h=>?_,fun h h1=>?_,fun h h1=>?_⟩
     ·have h0:lv=0:=by
       rcases Nat.eq_zero_or_pos lv with h0|h0
       ·exact h0
       ·have:=uj h0;omega
      rw[<-hmy];unfold YF;rw[if_pos ⟨h0,KO (by rw[<-iV h0];omega)⟩]
     ·rw[<-hmy];unfold YF;rw[if_neg (fun hh=>h1 hh.1)]
     ·rw[<-hmy];unfold YF;have hp:=iV h1;subst hp;rw[vH h];by_cases hk:qw ys[qF ys (x.k,x.i,x.o)]=(x.k,x.i,x.o)
      ·rw[if_neg (by simp[hk]),if_pos hk]
      ·rw[if_pos ⟨h1,by simp[hk]⟩,if_neg hk])
    have hDT:=zH hit;have lm:=zH dn;have fM:=zH dS;have sZ:=zH bn;have hNH:=zH xQ;have hFA:=zH wS;have xu:=zH hWi;have hFO:=zH rP;have hgrH:=zH bU;have hMF:=zH uQ;have hmyH:=zH hmy;have hDC:=zH hWl;have uh:=zH xx;have wI:=zH hIC;have e11H:=zH e11;have hJA:=zH (And.intro wX uI);have rUH:=zH hrU;have xn:=zH fO;have hA:=hit.at_.2.2.2;replace hA:=zH hA;have rxW:=dS.rx;clear hit dn dS bn xQ wS hWm hWi uj iV rP bU uQ hmy hWl xx hIC e11 wX uI hrU fO xm lC e9
    gi_upto_region 12 with fail
    gi_cut [69] from 44 (fun s wx=>s=.bool (decide (many=0))/\Ext W' wx)
    case first =>
     have g14:∀ W,qm.r W' W->∀ i,W.cell? ⟨t14,i,none⟩=#[.int .i64 (lv:Int),.slice A9 ys.length c9,.int .i64 (pl:Int)][i]?:=fun W h=>qa (qb hBM h);by_cases bz:pl=ys.length
     ·have hm0:=zH (hGY.out.1 bz);have ee:((pl:Int) == (ys.length:Int))=true:=by rw[beq_iff_eq];omega
      clear bz;refine zv qm (qP []) (List.replicate 26 true) 0 (vA l') zQ zQ zQ zQ zQ zQ zQ zQ zQ ?st (Rel.drew _ _) ?walk
      case st=>exact qk (fun _ h=>by cases h)
      case walk =>
       intro K hK;dsimp only[qv,List.replicate];refine zC6 ?_;refine qB (hK _ _ fun V hV hF=>?_);clear hF hK;have hV:Ext W' V:=hV;refine zC4 ?_
       gi_wp2_with fail
       gi_meet
       case rel=>exact⟨by rw[hm0.out];rfl,hV⟩
     ·have hlt:pl<ys.length:=by have:=uh.out;omega
      have ee:((pl:Int) == (ys.length:Int))=false:=by rw[beq_eq_false_iff_ne];omega
      by_cases hlv:lv=0
      ·have dC:=hGY.out.2.2 hlt hlv;obtain⟨bi,off,rfl,hbi⟩:=hA.out zO;obtain⟨A',c',d0,d1,d2,d3,d4,-⟩:=hDT.out.item pl hlt;have gd0:∀ W,qm.r W' W->_:=fun W h=>Ext.cell h d0;have gd1:∀ W,qm.r W' W->_:=fun W h=>Ext.cell h d1;have gd2:∀ W,qm.r W' W->_:=fun W h=>Ext.cell h d2;have gx:∀ W,qm.r W' W->∀ i,W.cell? ⟨w.heap.size+1,i,none⟩=#[.int .u8 x.k,.int .u32 x.i,.int .u32 x.o,.int .i64 x.r,.slice Ax x.val.length cx][i]?:=fun W h=>qa (qb rxW h);generalize ys[pl]=y at *;subst hlv;clear d0 d1 d2 d3 d4;replace dC:=zH dC;replace bz:=zH bz;refine zv qm (qP []) (List.replicate 26 true) 0 (vA l') zQ zQ zQ zQ zQ zQ zQ zQ zQ ?st (Rel.drew _ _) ?walk
       case st=>exact qk (fun _ h=>by cases h)
       case walk =>
        intro K hK;dsimp only[qv,List.replicate];refine zC6 ?_;refine qd (.bool (!decide (qw y=(x.k,x.i,x.o)))) zA0 zA0 (fun W hW _=>⟨W,?_,Rel.refl _ W⟩) ?_
        ·go_simp;exact key_ifn y x.k x.i x.o W
        refine zC6 ?_;refine qB (hK _ _ fun V hV hF=>?_);clear hF hK;have hV:Ext W' V:=hV;refine zC4 ?_
        gi_wp2_with fail
        gi_meet
        case rel =>refine⟨?_,hV⟩;rw[dC.out];by_cases hk:qw y=(x.k,x.i,x.o) <;> simp[hk]
      ·have hm0:=zH (hGY.out.2.1 hlt hlv);have el:((lv:Int) == 0)=false:=by rw[beq_eq_false_iff_ne];omega
       replace hlv:=zH hlv;replace bz:=zH bz;refine zv qm (qP []) (List.replicate 26 true) 0 (vA l') zQ zQ zQ zQ zQ zQ zQ zQ zQ ?st (Rel.drew _ _) ?walk
       case st=>exact qk (fun _ h=>by cases h)
       case walk =>
        intro K hK;dsimp only[qv,List.replicate];refine zC6 ?_;refine qB (hK _ _ fun V hV hF=>?_);clear hF hK;have hV:Ext W' V:=hV;refine zC4 ?_
        gi_wp2_with fail
        gi_meet
        case rel=>exact⟨by rw[hm0.out];rfl,hV⟩
    case rest =>
     obtain⟨rfl,xc⟩:=hcut;have hma:many=0\/many=1:=wI.out.1;clear hGY;have rc14:=qb hBM xc;have hLK:=zH (fM.out.ck (Qe.of_ext xc));have hitc:=zH (hDT.out.ext xc);have dY:ips.length=ys.length:=by rw[<-e11H.out,List.length_map]
     have hEZ:gz.length=ups.length:=by rw[<-hMF.out,List.length_map]
     have one1:∀ u∈qD ips,u.oneCell'=true:=Kn ips fun p hp=>by obtain⟨A,c,e⟩:=(lm.out.2 p hp).1;rw[e];rfl
     have one2:∀ u∈qD gz,u.oneCell'=true:=Kn gz fun p hp=>by obtain⟨A,c,e⟩:=(hFA.out p hp).1;rw[e];rfl
     have HCl:Hid (∀ W,Ext wc W->Calls prog 115 #[.slice A9 ys.length c9] W (zZ (fun u w'=>w'.ownsRow W.heap.size 51 5 u ys.length (qD ips)) W)):=zH fun W hW=>by obtain⟨⟨A,c,e,_,_,hr⟩,_⟩:=lm.out;rw[dY] at e hr;cases e;exact KQ A9 ys.length c9 (qD ips) (by have:=hDC.out;omega) one1 W (hr W ((hLK.out.kx).trans (qU.of_ext hW) fun _ _ h=>h))
     have hBH:=zH (QQ hNH.out fun q hq=>Below.block xc q (Qn hNH.out q hq).2);have HRp:Hid (∀ (V:World) (Ac:OA) (cc:Nat),Ext wc V->V.ownsRow wc.heap.size 51 5 (.slice Ac ys.length cc) ys.length (qD ips)->Calls prog 119 #[.slice Ac ys.length cc,.int .i64 (pl:Int),.int .i64 ((pl+many:Nat):Int),.slice Au ups.length cu] V (vY wc.heap.size (.slice Ac ys.length cc) (ys.length-many+ups.length) ((qD ips).take (pl*5)++qD gz++(qD ips).drop ((pl+many)*5)) V)):=zH fun V Ac cc hV ho =>
      qbz wc.heap.size _ ys.length pl many (qD ips) (.slice Au ups.length cu) ups.length 0 (qD gz) V ho (QQ hBH.out fun q hq=>Below.block hV q (Qn hBH.out q hq).2) (fun q hq hq2=>by have h1:=(Qn hBH.out q hq).2;have h2:=(Qn ho q hq2).1;omega) hJA.out.1 (by have:=hDC.out;have:=hJA.out.2;omega) wI.out.1 wI.out.2 one1 one2 hV.size
     have g14:∀ W,qm.r wc W->∀ i,W.cell? ⟨t14,i,none⟩=#[.int .i64 (lv:Int),.slice A9 ys.length c9,.int .i64 (pl:Int)][i]?:=fun W h=>qa (qb rc14 h);have gU:∀ W,qm.r wc W->∀ i,W.cell? ⟨w4.heap.size+1,i,none⟩=#[.slice Au ups.length cu][i]?:=fun W h=>qa (qb (qb rUH.out xc) h);have hw0:IntKind.i64.wrap (pl:Int)=(pl:Int):=by rw[IntKind.wrap_i64];have:=uh.out;have:=hDC.out;omega
     have aA:IntKind.i64.wrap ((pl:Int)+1)=(pl:Int)+1:=by rw[IntKind.wrap_i64];have:=uh.out;have:=hDC.out;omega
     have hmyK:=hmyH;replace dY:=zH dY;replace hEZ:=zH hEZ;have hKM:=wI;clear wI hmyK;obtain⟨its,aG⟩:∃ its,its=ZE ys pl many ups:=⟨_,rfl⟩
     have hiE:ys.length-many+ups.length=its.length:=by rw[aG];unfold ZE;simp only[List.length_append,List.length_take,List.length_drop];have h3:=uh.out;have h4:=hKM.out.2;omega
     have hil:its.length<=100/\0<its.length:=by rw[<-hiE];have h5:=hDC.out;have h6:=hJA.out;omega
     replace hiE:=zH hiE;rcases hma with rfl|rfl
     all_goals
      gi_upto_region 14 with fail
      refine zv qm (qP [(3,jB wc.heap.size ys.length (qD ips))]) (List.replicate 11 true) 2 (vA l') zQ zQ zQ zQ zQ zQ zQ zQ zQ ?st (Rel.drew _ _) ?walk
      case st=>exact qk (by simp only[List.forall_mem_cons];exact⟨ZX _ _ _,fun _ h=>by cases h⟩)
      case walk =>
       intro K hK;dsimp only[qv,List.replicate];refine zC6 ?_;refine qH (jB wc.heap.size ys.length (qD ips)) zA0 zA0 (fun W hW _=>?_) (fun p=>?_)
       ·have bZ:Ext wc W:=hW;refine Qk ?_ ((HCl.out W bZ).mono fun e w' h=>?_)
        ·go_simp
        obtain⟨u,rfl,hu,hB⟩:=h;obtain⟨Ac,cc,rfl,_,_⟩:=qC hu;exact⟨(Ac,cc),rfl,QC hu bZ.size,hB⟩
       obtain⟨Ac,cc⟩:=p;refine zC6 ?_;refine qB (hK _ _ fun V hV hF=>?_);have hoV:V.ownsRow wc.heap.size 51 5 (.slice Ac ys.length cc) ys.length (qD ips):=(hF 3).1;clear hF hK g14 gU;have hV:Ext wc V:=hV;refine zC4 ?_;have HR:=zH (HRp.out V Ac cc hV hoV);clear HRp HCl
       gi_wp2_with fail
       refine⟨trivial,(CallsIn.inRound _ (callsIn_wide.2 HR.out)).mono ?_⟩;clear HR;rintro e w9 ⟨v9,rfl,ho9,hB9,-⟩;have x9:Ext wc w9:=Below.trans hV hB9;have x19:Ext W' w9:=xc.trans x9;clear hB9 hoV;have uo:=Bch.ext sZ.out x19;obtain⟨fZ,-,yK,-,-,-,yz⟩:=uo.size;have uK:∀ q,B3 b g k' q->w5.heap.size<=q:=fun q hq=>by
        rcases hq with rfl|rfl|e
        ·exact fZ
        ·exact yK
        ·exact(yz q e).1
       rw[VI,<-VH,<-Zt,<-Zt] at ho9;have s25:w.heap.size<=w5.heap.size:=x5.size;have hX9:=Kh.of_own (X:=B3 b g k') ho9 (by
        have h1:=dY.out;have h2:=hEZ.out;have h3:=uh.out;have h4:=hKM.out.2;simp only[List.length_append,List.length_take,List.length_drop];omega) (fun q hq=>by
        obtain⟨cur,hc⟩:=ZD ho9 hq;exact uo.notB3 hc zA1 zA1 zA1) (fun p hp=>by
        have hI:∀ p∈ips,(∃ A c,p.2=.slice A p.1.val.length c)/\∀ C,qU (B3 b g k') w9 C->Bys C C.heap.size p.2 p.1.val:=fun p hp=>⟨(lm.out.2 p hp).1,fun C hC=>(lm.out.2 p hp).2 C ((fM.out.kx.trans (qU.of_ext (X:=fun q=>q<w2.heap.size) x19) fun _ _ h=>h).trans hC fun q h1 h2=>by have:=uK q h2;omega)⟩
        rcases List.mem_append.1 hp with hp|hp
        ·rcases List.mem_append.1 hp with hp|hp
         ·exact hI p (List.mem_of_mem_take hp)
         ·exact⟨(hFA.out p hp).1,fun C hC=>((hFA.out p hp).2).keepX ((qU.of_ext (X:=B3 b g k') x19).trans hC fun _ _ h=>h) fun q h1 h2=>by have:=uK q h2;omega⟩
        ·exact hI p (List.mem_of_mem_drop hp))
       have hrpl:∀ m,(List.map (·.1) (ips.take pl++gz++ips.drop (pl+m)))=ZE ys pl m ups:=fun m=>by unfold ZE;rw[List.map_append,List.map_append,List.map_take,List.map_drop,e11H.out,hMF.out]
       rw[hrpl] at hX9;clear hrpl;obtain⟨A8,c8,rfl,-,-⟩:=qC ho9;have hoU9:=QQ hBH.out fun q hq=>Below.block x9 q (Qn hBH.out q hq).2;have uz:=tV.out _ _ hgrH.out;rw[<-aG] at hX9 uz;have gu:∀ y∈its,Zb y:=fun y hy=>by
        rw[aG] at hy;unfold ZE at hy;rcases List.mem_append.1 hy with hy|hy
        ·rcases List.mem_append.1 hy with hy|hy
         ·exact(xu.out y (List.mem_of_mem_take hy)).1
         ·exact(hFO.out y hy).1
        ·exact(xu.out y (List.mem_of_mem_drop hy)).1
       have hioH:=zH gu;have HBd:=zH (qey D' w.heap.size w5.heap.size b g k' S' xn.out (lv:Int) A8 _ c8 its gu hil.2 hil.1 0 (.slice Au ups.length cu) gz ups hMF.out (fun p hp=>(hFA.out p hp).1) (fun y hy=>(hFO.out y hy).2) (by have:=hJA.out.2;omega) w9 uo hX9 hoU9);rw[hiE.out] at HBd ⊢;have fK:=zH (hLK.out.ck (Qe.of_ext x9));have hr9:=qb rc14 x9;have k14:=qa hr9;have rU9:=qb rUH.out x19;have kU:=qa rU9;have kT:=qa fK.out.rT;have k4:=qa fK.out.r4;replace aG:=zH aG;clear hX9 gu ho9 lm hDT hitc hFA hNH hBH hA rc14 hBM
       gi_wp2_with fail
       refine⟨trivial,(CallsIn.inRound _ (callsIn_wide.2 HBd.out)).mono ?_⟩;clear HBd;intro e w10 hbq;obtain⟨ai,aI⟩:=hbq.split;clear hbq;have nB:∀ {q cs ty fr},w9.heap[q]?=some (.cells cs ty fr)->ty≠223->ty≠5->ty≠142->¬B3 b g k' q:=fun hr h1 h2 h3=>uo.notB3 hr h1 h2 h3;have rU10:=ai.row rU9 (nB rU9 zA1 zA1 zA1);have rT10:=ai.row fK.out.rT (nB fK.out.rT zA1 zA1 zA1);have r410:=ai.row fK.out.r4 (nB fK.out.r4 zA1 zA1 zA1);have r310:=ai.row fK.out.r3 (nB fK.out.r3 zA1 zA1 zA1);have r210:=ai.row fK.out.r2 (nB fK.out.r2 zA1 zA1 zA1);have rx10:=ai.row fK.out.rx (nB fK.out.rx zA1 zA1 zA1);have rS10:=ai.row fK.out.rS (nB fK.out.rS zA1 zA1 zA1);have hko:=(KeepsOthers.of_ext x19).trans (uo.others ai);have eG:=(i4.trans (Below.mono x19 i4.size)).trans (Below.mono ai.below s25);have hDW:=ai.keepX;have hk7:=ai.row fK.out.rS (nB fK.out.rS zA1 zA1 zA1);have hkr:=fun q (h:q<w5.heap.size)=>ai.rows q (by have:=uo.size.2.2.2.2.2.1;omega) fun hx=>by have:=uK q hx;omega
       have hHU:=fK.out.kx;clear ai fK rU9 kU kT k4 k14;rcases aI with ⟨er,gm,rfl⟩|⟨up2,S2,k2,D2,A2',c2',gm,rfl,ug,hND,eu,uO,dZ⟩
       ·have hga:=zH (uz.trans gm.out);have rD:(er != 0)=true:=by rw[bne_iff_ne];exact Vf gm.out
        have kU10:=qa rU10;have k410:=qa r410;have fU10:=qe rU10;have f410:=qe r410;replace hko:=zH hko;replace eG:=zH eG;clear uz hDW hk7 hkr hHU nB gm rT10 rx10 rS10 uo
        gi_upto_region 17 with fail
        generalize iM:World.setCell (World.setCell w10 _ _) _ _=w11;obtain⟨t1,t2,t3,t4,t5,t6⟩:=vR (C:=w11) rU10 r410 zO iM.symm;clear iM kU10 k410 fU10 f410;have gE:∀ W,qm.r w11 W->∀ i,W.cell? ⟨w.heap.size+1+1+1+1,i,none⟩=#[.int .i64 er][i]?:=fun W h=>qa (qb t2 h);have q2:=(t3 (w.heap.size+2) zO zO).trans r210;have q3:=(t3 (w.heap.size+3) zO zO).trans r310;refine zv qm (qP [(2,jn),(3,jn)]) (List.replicate 4 true) 1 (vA l') zQ zQ zQ zQ zQ zQ zQ zQ zQ ?st (Rel.drew _ _) ?walk
        case st=>exact qk (by simp only[List.forall_mem_cons];exact⟨ZY,ZY,fun _ h=>by cases h⟩)
        case walk =>
         intro K hK;dsimp only[qv,List.replicate];refine zC6 ?_;refine qH jn zA0 zA0 (fun V hV _=>?_) (fun (p:Unit)=>?_)
         ·have hV:Ext w11 V:=hV;have q8:=qb q2 hV;have k8:=qa q8;have f8:=qe q8;refine VL ?_ (same4 q8);go_simp
         refine zC6 ?_;refine qH jn zA0 zA0 (fun V hV _=>?_) (fun (p:Unit)=>?_)
         ·have hV:Ext w11 V:=hV;have q8:=qb q3 hV;have k8:=qa q8;have f8:=qe q8;refine VL ?_ (qfl q8);go_simp
         refine zC6 ?_;refine qB (hK _ _ fun V hV hF=>?_);clear hF hK gE;have hV:Ext w11 V:=hV;refine zC4 ?_;have q2V:=qb q2 hV;have q3V:=qb q3 hV;have q4V:=qb t2 hV;have ke:=qa q4V;have fe:=qe q4V;have zV:=hV.size;have z11:w.heap.size+4<w11.heap.size:=(zG.1 t2).1;have zc:w.heap.size+1+1<V.heap.size:=zO;have zd:w.heap.size+1+1+1<V.heap.size:=zO
         gi_wp2_with fail
         have oD:=hV.trans (qfl q4V);exact⟨((hko.out.trans t5).trans (KeepsOthers.of_ext oD)).from _,⟨er,_,rfl,hga.out,⟨qb q2 oD,qb q3 oD,qb t2 oD⟩,Qe.refl _⟩,(t6 zO zO eG.out).trans (Below.mono oD zO)⟩
       ·have hga:=zH (uz.trans gm.out);obtain⟨-,wY,oV⟩:=Kl hioH.out (fun y hy=>(hFO.out y hy).2) xn.out gm.out;have kU10:=qa rU10;have k410:=qa r410;have fU10:=qe rU10;have f410:=qe r410;replace hko:=zH hko;replace eG:=zH eG;have hKS:=zH (rS10.trans fM.out.rS.symm);have zW7:w7.heap.size<W'.heap.size:=(zG.1 fM.out.rS).1;have z67:=x67.size;have z19:=x19.size;have hKb:=zH ((hkr b2 zO).trans (x19.block b2 zO));replace wY:=zH wY;replace oV:=zH oV;replace eu:=zH eu;replace dZ:=zH dZ;replace hHU:=zH (hHU.trans hDW fun q hq hx=>by have:=uK q hx;omega);clear uz hDW hk7 hkr nB gm uo uK fM hLK
        gi_wp2_with fail
        generalize iM:World.setCell (World.setCell w10 _ _) _ _=w11;obtain⟨t1,t2,t3,t4,t5,t6⟩:=vR (C:=w11) rU10 r410 zO iM.symm;clear iM kU10 k410 fU10 f410;refine⟨(hko.out.trans t5).from _,⟨(t3 _ zO zO).trans hKS.out,(t3 _ zO hne4).trans hKb.out⟩,⟨w11,?_,Qe.refl _⟩,t6 zO zO eG.out⟩;refine⟨⟨up2,S2,k2,D2,A2',c2',upV up2,hga.out,uO.out,wY.out.1,wY.out.2,?_,fun y hy=>⟨(oV.out y hy).1,.inr (oV.out y hy).2.1.1,(oV.out y hy).2.1.2⟩,fun p hp=>?_,t1,QQ (QC dZ.out (Nat.zero_le _)) (fun q hq=>t3 q ?_ ?_),eu.out.kept (t6 zO zO (Below.refl _ _)) fun q h _=>t3 q zO zO⟩,(t3 _ zO zO).trans rx10,(t3 _ zO zO).trans r210,(t3 _ zO zO).trans r310,t2,(t3 _ zO zO).trans rT10,(t3 _ zO zO).trans rS10,?_⟩
        ·unfold upV;rw[List.map_map];exact List.map_id' _
        ·obtain⟨y,hy,rfl⟩:=List.mem_map.1 hp;have hv:=(oV.out y hy).2.2;simp only[hv];exact⟨⟨none,0,rfl⟩,none,0,rfl,zM _,zA7,Rd.none_⟩
        ·have:=(Qn dZ.out q hq).1;omega
        ·have:=(Qn dZ.out q hq).1;omega
        ·exact hHU.out.trans (qU.of_heap (X:=fun q=>q=w4.heap.size+1\/q=w.heap.size+4) fun k _ hX=>t3 k (fun e=>hX (.inl e)) fun e=>hX (.inr e)) fun k hk hx=>zO
   case done =>
    rintro D ys W hD gJ ⟨⟨Wb,xm,lC⟩,i4⟩ hK;subst iJ;have dS:=xm.ck lC;obtain⟨ups,S',k',D',Au,cu,gz,bU,fO,wX,uI,uQ,rP,wS,hrU,xQ,bn⟩:=dS.ex;rw[gJ,iT,GZ l l.length (zM _),List.take_of_length_le zA3] at bU;have oO:Hid (qaI S lvl xs x=if 1<ups.length then Qy S' ((l.length:Nat):Int) ups ups else .ok (ups,S')):=zH (by rw[mZ.out,bU]);clear mZ bU;have pM:=i4;have z8:=x8.size;have zz8:w.heap.size+4<w8.heap.size:=(zG.1 xG.out.r4).1;have zUW:w4.heap.size+1<W.heap.size:=(zG.1 hrU).1;have kU:=qa hrU;have kT:=qa dS.rT;have hcc:=(qC xQ)
    replace bn:=zH bn;replace xQ:=zH xQ;replace uQ:=zH uQ;replace wS:=zH wS;replace rP:=zH rP;replace fO:=zH fO;replace uI:=zH (And.intro wX uI);have rW2:=dS.r2;have rW3:=dS.r3;have rW4:=dS.r4;have rWT:=dS.rT;replace gJ:=zH gJ;clear wX dS xm lC tX hcc;go_upto_if 98 with fail;go_cut [] from 96 (fun wx=>PutD (qaI S lvl xs x) w.heap.size w5.heap.size b g (w4.heap.size+1) w6.heap.size D w wx)
    case first =>
     by_cases h2:1<ups.length
     case neg =>
      have e1:decide ((1:Int)<(ups.length:Int))=false:=decide_eq_false zO;have e3:¬((1:Int)<(ups.length:Int)):=zO;have nZ:=zH (show qaI S lvl xs x=.ok (ups,S') by rw[oO.out,if_neg h2]);replace h2:=zH h2;go_wp2_with fail;go_meet
      case rel=>exact⟨⟨ups,S',k',D',Au,cu,gz,nZ.out,fO.out,uI.out.1,uQ.out,hrU,xQ.out,bn.out,fun y hy=>(rP.out y hy).2⟩,rW2,rW3,rW4,rWT,hK,pM⟩
     case pos =>
      have e3:(1:Int)<(ups.length:Int):=zO;have e4:¬(ups.length:Int)<=1:=zO;have nZ:=zH (show qaI S lvl xs x=Qy S' ((l.length:Nat):Int) ups ups by rw[oO.out,if_pos h2]);have bz:gz.length=ups.length:=by rw[<-uQ.out,List.length_map]
      have iK:∀ q,(Value.slice Au ups.length cu).ownBlock=some q->¬B3 b g k' q:=fun q hq=>by obtain⟨cur,hc⟩:=ZD xQ.out hq;exact bn.out.notB3 hc zA1 zA1 zA1
      have uK:∀ q,B3 b g k' q->w5.heap.size<=q:=fun q hq=>(bn.out.b3 q hq).1;have hX:=Kh.of_own (X:=B3 b g k') xQ.out bz iK (fun p hp=>⟨(wS.out p hp).1,fun C hC=>(wS.out p hp).2.keepX hC fun q h1 hq=>by have:=uK q hq;omega⟩);rw[uQ.out] at hX;have HBd:=zH (qey D' w.heap.size w5.heap.size b g k' S' fO.out ((l.length:Nat):Int) Au _ cu ups (fun y hy=>(rP.out y hy).1) uI.out.1 (by have:=uI.out.2;omega) 0 (.slice Au ups.length cu) gz ups uQ.out (fun p hp=>(wS.out p hp).1) (fun y hy=>(rP.out y hy).2) (by have:=uI.out.2;omega) W bn.out hX xQ.out);replace h2:=zH h2;clear hX bz;go_wp2_with fail;refine HBd.out.mono ?_;clear HBd;intro e w10 hbq;obtain⟨ai,aI⟩:=hbq.split;clear hbq;have nB:∀ {q cs ty fr},W.heap[q]?=some (.cells cs ty fr)->ty≠223->ty≠5->ty≠142->¬B3 b g k' q:=fun hr h1 h2 h3=>bn.out.notB3 hr h1 h2 h3;have rU10:=ai.row hrU (nB hrU zA1 zA1 zA1);have rT10:=ai.row rWT (nB rWT zA1 zA1 zA1);have r410:=ai.row rW4 (nB rW4 zA1 zA1 zA1);have r310:=ai.row rW3 (nB rW3 zA1 zA1 zA1);have r210:=ai.row rW2 (nB rW2 zA1 zA1 zA1);have pK:=(bn.out.others ai).same D _ hK rfl;have s25:w.heap.size<=w5.heap.size:=x5.size;have eG:=pM.trans (Below.mono ai.below s25);have kU10:=qa rU10;have k410:=qa r410;have fU10:=qe rU10;have f410:=qe r410;have zU:w4.heap.size+1≠w.heap.size+4:=by have:=z8;omega
      have zz:w.heap.size+4<D:=zO;replace eG:=zH eG;clear kU kT nB ai pM;rcases aI with ⟨er,gm,rfl⟩|⟨up2,S2,k2,D2,A2',c2',gm,rfl,ug,hND,eu,uO,dZ⟩
      ·have lK:=zH (show q=.error er by rw[hq2.out,nZ.out,gm.out]);have rD:(er != 0)=true:=by rw[bne_iff_ne];exact Vf gm.out
       clear gm nZ hq2;go_upto_region 21 with fail;generalize iM:World.setCell (World.setCell w10 _ _) _ _=w11;obtain⟨t1,t2,t3,t4,t5,t6⟩:=vR (C:=w11) rU10 r410 zU iM.symm;clear iM kU10 k410 fU10 f410;have gE:∀ W,qm.r w11 W->∀ i,W.cell? ⟨w.heap.size+1+1+1+1,i,none⟩=#[.int .i64 er][i]?:=fun W h=>qa (qb t2 h);have q2:=(t3 (w.heap.size+2) zO zO).trans r210;have q3:=(t3 (w.heap.size+3) zO zO).trans r310;have qK:=t5.same D _ pK rfl;refine qt zQ ?_;refine qY (w:=w11) qm (qP [(2,jn),(3,jn)]) (List.replicate 4 true) 1 zQ zQ zQ zQ zQ zQ zQ ?st (Rel.drew _ _) ?walk
       case st=>exact qk (by simp only[List.forall_mem_cons];exact⟨ZY,ZY,fun _ h=>by cases h⟩)
       case walk =>
        intro K hK;dsimp only[qv,List.replicate];refine zC6 ?_;refine qH jn zA0 zA0 (fun V hV _=>?_) (fun (p:Unit)=>?_)
        ·have hV:Ext w11 V:=hV;have q8:=qb q2 hV;have k8:=qa q8;have f8:=qe q8;refine VL ?_ (same4 q8);go_simp
        refine zC6 ?_;refine qH jn zA0 zA0 (fun V hV _=>?_) (fun (p:Unit)=>?_)
        ·have hV:Ext w11 V:=hV;have q8:=qb q3 hV;have k8:=qa q8;have f8:=qe q8;refine VL ?_ (qfl q8);go_simp
        refine zC6 ?_;refine qB (hK _ _ fun V hV hF=>?_);clear hF hK gE;have hV:Ext w11 V:=hV;refine zC4 ?_;have q4V:=qb t2 hV;have ke:=qa q4V;have fe:=qe q4V;go_wp2;refine Qq ?_;go_wp2_with fail;have oD:=hV.trans (qfl q4V);have z11:w.heap.size+4<w11.heap.size:=(zG.1 t2).1;have qKV:=qb qK oD;exact GS rfl rfl rfl rfl qKV zz (qb q2 oD) (qb q3 oD) (qb t2 oD) ⟨_,rfl,by rw[lK.out];rfl,((t6 zO zO eG.out).trans (Below.mono oD zO)).trans (belowK_b (w:=w) (zM _) _ D _ _ zO qKV rfl rfl)⟩
      ·have hq4:=zH (nZ.out.trans gm.out);obtain⟨-,wY,oV⟩:=Kl (fun y hy=>(rP.out y hy).1) (fun y hy=>(rP.out y hy).2) fO.out gm.out;replace wY:=zH wY;replace oV:=zH oV;replace eu:=zH eu;replace dZ:=zH dZ;clear gm nZ;go_wp2_with fail;go_meet
       case rel =>
        generalize iM:World.setCell (World.setCell w10 _ _) _ _=w11;obtain⟨t1,t2,t3,t4,t5,t6⟩:=vR (C:=w11) rU10 r410 zU iM.symm;clear iM;have zT:w6.heap.size≠w4.heap.size+1/\w6.heap.size≠w.heap.size+4:=by have:=x45.size;omega
        refine⟨⟨up2,S2,k2,D2,A2',c2',upV up2,hq4.out,uO.out,wY.out.1,?_,t1,QQ (QC dZ.out (Nat.zero_le _)) (fun q hq=>t3 q ?_ ?_),eu.out.kept (t6 zO zO (Below.refl _ _)) fun q h _=>t3 q zO zO,fun y hy=>⟨.inr (oV.out y hy).2.1.1,(oV.out y hy).2.1.2⟩⟩,(t3 _ zO zO).trans r210,(t3 _ zO zO).trans r310,t2,(t3 _ zT.1 zT.2).trans rT10,t5.same D _ pK rfl,t6 zO zO eG.out⟩
        ·unfold upV;rw[List.map_map];exact List.map_id' _
        ·have:=(Qn dZ.out q hq).1;omega
        ·have:=(Qn dZ.out q hq).1;have:=(zG.1 rW4).1;omega
    case rest =>
     obtain⟨⟨ups,S',k',D',Au,cu,gz,nZ,fO,wX,uQ,hrU,xQ,bn,hJB⟩,rW2,rW3,rW4,rWT,hK,pM⟩:=hcut;have HL:=zH (UE D' w.heap.size w5.heap.size b g k' S' fO a ha bC wc bn);have hq5:=zH (show q=match QK S' (-1) S'.now a with
      |none=>.error 8
      |some t=>.ok (ku ups,qp S' t) by rw[hq2.out,nZ] <;> rfl)
     have kT:=qa rWT;replace nZ:=zH nZ;replace uQ:=zH uQ;replace xQ:=zH xQ;replace bn:=zH bn;replace hJB:=zH hJB;go_wp2_with fail;refine HL.out.mono ?_;clear HL;rintro e w10 ⟨ai,aI⟩;have nB:∀ {q cs ty fr},wc.heap[q]?=some (.cells cs ty fr)->ty≠223->ty≠5->ty≠142->¬B3 b g k' q:=fun hr h1 h2 h3=>bn.out.notB3 hr h1 h2 h3;have rU10:=ai.row hrU (nB hrU zA1 zA1 zA1);have rT10:=ai.row rWT (nB rWT zA1 zA1 zA1);have r410:=ai.row rW4 (nB rW4 zA1 zA1 zA1);have r310:=ai.row rW3 (nB rW3 zA1 zA1 zA1);have r210:=ai.row rW2 (nB rW2 zA1 zA1 zA1);have pK:=(bn.out.others ai).same D _ hK rfl;have s25:w.heap.size<=w5.heap.size:=x5.size;have eG:=pM.trans (Below.mono ai.below s25);have hET:=ai.own xQ.out (fun q hq=>by obtain⟨cur,hc⟩:=ZD xQ.out hq;exact nB hc zA1 zA1 zA1);have zz:w.heap.size+4<D:=by have:=z8;omega
     have z10:w.heap.size+4<w10.heap.size:=(zG.1 r410).1;have zlo:w.heap.size+4<w5.heap.size:=zO;replace eG:=zH eG;clear nB ai pM kT hrU rWT rW4 rW3 rW2 hK xQ;rcases hlv:QK S' (-1) S'.now a with _|t
     ·rw[hlv] at aI;obtain rfl:=aI;have lK:=zH (show q=.error 8 by rw[hq5.out,hlv]);have kc:=qa r210;have kd:=qa r310;have ke:=qa r410;have fc:=qe r210;have fd:=qe r310;have fe:=qe r410;replace hlv:=zH hlv;clear hq5;go_wp2_with fail;obtain⟨g4,g5,g6,hb,-,hk,-⟩:=YK r210 r310 r410 rfl;have qK:=(hk D zO).trans pK;exact GS rfl rfl rfl rfl qK zz g4 g5 g6 ⟨_,rfl,by rw[lK.out];rfl,(hb zO eG.out).trans (belowK_b (w:=w) (zM _) _ D _ _ zO qK rfl rfl)⟩
     ·rw[hlv] at aI;obtain⟨rfl,eu⟩:=aI;have lK:=zH (show q=.ok (ku ups,qp S' t) by rw[hq5.out,hlv]);have gG:Gf (qp S' t):=Zw (vL fO (Vk ha (Qd.1 fO).2.1 hlv));replace hlv:=zH hlv;clear hq5;go_upto_region 25 with fail;obtain⟨bu,ou,rfl,hbu,hcu⟩:=(Rd.of_own hET).2 wX;obtain⟨cur,hcur⟩:=ZD hET (q:=bu) rfl;have hbu2:bu≠w.heap.size+2:=qM hcur r210 zA1;have bz:0<gz.length:=by have:=congrArg List.length uQ.out;rw[List.length_map] at this;omega
      have hcr:w10.cell? ⟨bu,ou+3,none⟩=some (.int .i64 (ku ups:Int)):=by
       obtain⟨-,-,-,g3,-⟩:=vt gz 0 bz;have h1:=hcu _ _ g3;have h2:gz[0].1.r=(ku ups:Int):=by
        obtain⟨y,ys,hy⟩:∃ y ys,ups=y :: ys:=by
         cases ups with
         |nil=>simp at wX
         |cons y ys=>exact⟨y,ys,rfl⟩
        have h3:gz[0].1=y:=by
         have h4:(gz.map (·.1))[0]?=ups[0]?:=by rw[uQ.out]
         rw[List.getElem?_map,zL bz,hy] at h4;simpa using h4
        have h5:=hJB.out y (by rw[hy];exact List.mem_cons_self);rw[h3,hy];show y.r=((y.r.toNat:Nat):Int)
        omega
       rw[h2] at h1;exact h1
      have hHS:=zH (fun W (h:(vp (w.heap.size+2) 28 (Zi w10.heap.size (qp S' t)) (Zi.keep zO)).r w10 W)=>by have h1:=eu.kept (kJ h (B0:=w.heap.size) zO zO) (fun q h1 h2=>Xv h h2 zO);obtain⟨A1,n1,c1,A2,n2,c2,c3,A4,c4,hr,hs⟩:=h1.sto;exact Kk b A1 n1 c1 A2 n2 c2 _ _ c3 A4 _ c4 (qp S' t) gG W hr hs);have pg:w.heap.size+2<w10.heap.size:=zO;obtain⟨RR,aV⟩:∃ RR:Rel,RR=vp (w.heap.size+2) 28 (Zi w10.heap.size (qp S' t)) (Zi.keep pg):=⟨_,rfl⟩
      replace aV:=zH aV;obtain⟨SF,hSF⟩:∃ SF,qp S' t=SF:=⟨_,rfl⟩
      rw[hSF] at lK eu gG hHS aV;replace hSF:=zH hSF;obtain⟨rF,hrF⟩:∃ rF,ku ups=rF:=⟨_,rfl⟩
      rw[hrF] at lK hcr;have gT:∀ W,RR.r w10 W->∀ i,W.cell? ⟨w6.heap.size,i,none⟩=#[.pointer (some ⟨b,0,none⟩)][i]?:=fun W h=>qa (jw (aV.out ▸ h) zO rT10);have gU:∀ W,RR.r w10 W->∀ i,W.cell? ⟨w4.heap.size+1,i,none⟩=#[.slice (some ⟨bu,ou,none⟩) ups.length cu][i]?:=fun W h=>qa (jw (aV.out ▸ h) zO rU10);have gC:∀ W,RR.r w10 W->W.cell? ⟨bu,ou+3,none⟩=some (.int .i64 (rF:Int)):=fun W h=>by have h:(vp _ _ _ _).r w10 W:=aV.out ▸ h;exact World.grownBy.cell h.1 hcr (fun x=>hbu2 (by simpa using x))
      clear hcur hcu hcr bz uQ hJB hET hrF;refine qt zQ ?_;refine qY (w:=w10) RR (qP [(1,qeY w10.heap.size SF),(6,KU (w.heap.size+2) 28 (Zi w10.heap.size SF))]) (List.replicate 7 true) 2 zQ zQ zQ zQ zQ zQ zQ ?st (Rel.drew _ _) ?walk
      case st=>rw[aV.out];exact qk (by simp only[List.forall_mem_cons];exact⟨Ur pg,Tp,fun _ h=>by cases h⟩)
      case walk =>
       intro K hK;dsimp only[qv,List.replicate];refine zC6 ?_;refine qH (qeY w10.heap.size SF) zA0 zA0 (fun W hW _=>?_) (fun p=>?_)
       ·rw[aV.out] at hW ⊢;refine Qk ?_ ((hHS.out W hW).mono fun e w' h=>?_)
        ·go_simp
        obtain⟨v,rfl,hT,hB⟩:=h;obtain⟨BB,WW,gg,A3',c3',A4',c4',rfl,-⟩:=id hT;exact⟨((BB,WW),(A3',c3'),(A4',c4')),rfl,QY.keep hT hW.1.size (zM _) (fun _ _ _=>rfl),qdo hB⟩
       obtain⟨⟨BB,WW⟩,⟨A3',c3'⟩,⟨A4',c4'⟩⟩:=p;refine zC6 ?_;refine qH (KU (w.heap.size+2) 28 (Zi w10.heap.size SF)) zA0 zA0 (fun W hW hp=>?_) (fun (p:Unit)=>?_)
       ·have hT:QY w10.heap.size SF (Qo (some ⟨BB,0,none⟩) SF.bs.length SF.bs.length (some ⟨WW,0,none⟩) SF.ws.length (SF.ws.length+1) A3' SF.now.length c3' A4' SF.last.length c4') W:=(hp 1 zA1).1;rw[aV.out] at hW ⊢;have hr0:=qiE pg hW r210;obtain⟨u0,u1,u2,u3,q8⟩:=id hr0;have k8:=qa q8;have f8:=qe q8;refine qbh pg hr0 hT ?_;clear hT hr0;go_simp
       refine zC6 ?_;refine qB (hK _ _ fun V hV hF=>?_);have hRT:∃ cs,V.heap[w.heap.size+2]?=some (.cells cs 28 (0,0))/\Zi w10.heap.size SF cs V:=(hF 6).1;clear hF hK gT gU gC hHS;rw[aV.out] at hV;obtain⟨cs,q2,x0,x1,x2,x3,rfl,hTw⟩:=hRT;have q3:=jw hV (show w.heap.size+3≠w.heap.size+2 by omega) r310;have q4:=jw hV (show w.heap.size+4≠w.heap.size+2 by omega) r410;have qK:=jw hV (show D≠w.heap.size+2 by omega) pK;have xV:=kJ hV (B0:=w.heap.size) zO zO;have zV:=hV.1.size;have kd:=qa q3;have ke:=qa q4;have fd:=qe q3;have fe:=qe q4;have zd:w.heap.size+1+1+1<V.heap.size:=zO;replace hTw:=zH hTw;clear hV aV;refine zC4 ?_;go_wp2;refine Qq ?_;go_wp2_with fail;generalize ah:World.setCell (World.setCell V _ _) _ _=wf;obtain⟨t1,t2,t3,t4,t5,t6⟩:=vR (C:=wf) q3 q4 zO ah.symm;clear ah;have qKf:=t5.same D _ qK rfl;refine GS rfl rfl rfl rfl qKf zz ((t3 _ zO zO).trans q2) t1 t2 ⟨_,rfl,?_,(t6 zO zO (eG.out.trans xV)).trans (belowK_b (w:=w) (zM _) _ D _ _ zO qKf rfl rfl)⟩;rw[lK.out];refine⟨_,rfl,QY.keep hTw.out zO (by simp[World.putObj,t4]) fun k h1 h2=>?_⟩;exact(World.putObj_heap_other (by have:=(zG.1 pK).1;omega)).trans (t3 k zO zO)
   case stop =>
    rintro D cc pre W hD ⟨kk,hkk,rfl⟩ ⟨⟨er,Wb,rfl,hgx,⟨g4,g5,g6⟩,hCK⟩,hB⟩ hK;rw[iT] at hkk hgx;rw[GZ l kk hkk] at hgx;have lK:=zH (show q=.error er by rw[hq2.out,mZ.out,qjy hgx]);subst iJ;have zz:w.heap.size+4<w8.heap.size:=(zG.1 xG.out.r4).1
    gi_wp2_with fail
    have pM:Below w.heap.size w (W.putObj D (.deferred none)):=hB.trans (belowK_b (w:=w) (zM _) W D _ _ zO hK rfl rfl);exact GS rfl rfl rfl rfl hK zO (hCK.row g4) (hCK.row g5) (hCK.row g6) ⟨_,rfl,by rw[lK.out];rfl,pM⟩
end Go.Proofs.YtmeadnlmepcmbaaGreat
namespace Go.Proofs.YtmeadnlmepcmbaaGreat
open Go.RowKit
variable {l:List Oper}{j z i k:Nat}{o oz:Oper}
def JN:List Oper->Nat->Nat->List Oper
 |[],_,_=>[]
 |o::l,0,z=>{o with after:=o.after.push {on:=z,ground:=.data} }::l
 |o::l,j+1,z=>o::JN l j z
theorem Kb:∀(l:List Oper)(j z i:Nat),(JN l j z)[i]?=if i=j then(l[i]?).map (λo=>{o with after:=o.after.push {on:=z,ground:=.data} })else l[i]?
 |[],j,z,i=>by simp[JN]
 |o::l,0,z,i=>by
  cases i with
  |zero=>simp[JN]
  |succ i=>simp[JN]
 |o::l,j+1,z,i=>by
  cases i with
  |zero=>simp[JN]
  |succ i=>
   simp only[JN,List.getElem?_cons_succ];rw[Kb l j z i];by_cases h:i=j;subst h;simp;rw[if_neg h,if_neg zO]
theorem Gv(h:i≠j):(JN l j z).toArray[i]?=l.toArray[i]?:=by simp only[List.getElem?_toArray];rw[Kb,if_neg h]
theorem qhP(h:l.toArray[j]?=o):(JN l j z).toArray[j]?=F {o with after:=o.after.push {on:=z,ground:=.data} }:=by simp only[List.getElem?_toArray]at h⊢;rw[Kb,if_pos rfl,h];rfl
theorem Jr{listed:Array Bool}:i∈Region.ready .any (JN l j z).toArray listed↔i∈Region.ready .any l.toArray listed/\(i=j->listed.getD z false=J):=by
 rw[mem_ready,mem_ready];by_cases h:i=j;subst h;constructor;rintro⟨h0,o,ho,ha⟩;obtain⟨o',rE,rfl⟩:∃o',l.toArray[i]?=F o'/\o={o' with after:=o'.after.push {on:=z,ground:=.data} }:=by
  simp only[List.getElem?_toArray]at ho⊢;rw[Kb,if_pos rfl]at ho;rcases hq:l[i]? with _|o'
  rw[hq]at ho;cases ho;rw[hq]at ho;cases ho;exact⟨o',rfl,rfl⟩
 refine⟨⟨h0,o',rE,λe he hb=>ha e ?_ hb⟩,λ_=>ha {on:=z,ground:=.data} ?_ rfl⟩;show e∈o'.after.push _;exact Array.mem_push_of_mem _ he;show _∈o'.after.push _;exact Array.mem_push_self;rintro⟨⟨h0,o,ho,ha⟩,hz⟩;refine⟨h0,_,qhP ho,λe he hb=>?_⟩;have he:e∈o.after.push {on:=z,ground:=.data}:=he;rcases Array.mem_push.1 he with he|rfl
 exact ha e he hb;exact hz rfl;rw[Gv h];exact⟨λ⟨h0,o,ho,ha⟩=>⟨⟨h0,o,ho,ha⟩,λe=>absurd e h⟩,λ⟨h0,_⟩=>h0⟩
theorem qaj(l:List Oper)(j z:Nat)(t:Array Value):yielded (JN l j z).toArray t=yielded l.toArray t:=by funext i;unfold yielded;by_cases h:i=j;subst h;simp only[List.getElem?_toArray];rw[Kb,if_pos rfl];cases l[i]?<;>rfl;rw[Gv h]
theorem qfR{src:Operand}(dw:oz.op=.extract src k)(ev:Operand->Value)(P:Program):(∃v,∀W,(execOp ev oz).run P W=.ok (.value v) W)\/(∀W,∃s,(execOp ev oz).run P W=.halt (.stuck s) W):=by
 unfold execOp;rw[dw];simp only[Instr.extract];split;split;rename_i v _;exact .inl ⟨v,λW=>rfl⟩;exact .inr λW=>⟨_,rfl⟩
 exact .inr λW=>⟨_,rfl⟩
def lateB(ops:Array Oper)(j z:Nat):Bool:=match ops[z]? with
 |none=>false
 |some oz=>(qO oz).all (λk=>TE ops 9 j k)&&(List.range ops.size).all λi=>i==z||TE ops 9 z i||match ops[i]? with
  |some oi=>oi.after.any (λe=>Region.binds .any e&&e.on==z)||oz.apart ops oi
  |none=>J
section
variable {P:Program} {l:List Oper} {Q:Exit->Act->World->Prop}
theorem qmP{j z i:Nat}{K K':Act->World->Prop}{a:Act}{W:World}(hK:∀a w,K a w->K' a w)(h:wpOp P (JN l j z).toArray (QN Q) i K a W):wpOp P l.toArray (QN Q) i K' a W:=by
 refine wpOp_mono hK ?_;unfold wpOp at h⊢;rw[qaj]at h;by_cases hi:i=j;subst hi;rcases ho:l.toArray[i]? with _|o
 have:(JN l i z).toArray[i]?=I:=by simp only[List.getElem?_toArray]at ho⊢;rw[Kb,if_pos rfl,ho];rfl
 rw[this]at h;exact h;rw[qhP ho]at h;exact h;rw[Gv hi]at h;exact h
theorem qjK{ops:Array Oper}{j z:Nat}{oz:Oper}(hz:ops[z]?=oz)(h:lateB ops j z=J):(∀k∈qO oz,TE ops 9 j k=J)/\∀(i:Nat)(oi:Oper),ops[i]?=oi->i≠z->TE ops 9 z i=J\/(∃e∈oi.after,Region.binds .any e=J/\e.on=z)\/oz.apart ops oi=J:=by
 unfold lateB at h;rw[hz]at h;simp only[Bool.and_eq_true]at h;refine⟨λk hk=>List.all_eq_true.1 h.1 k hk,λi oi hi hiz=>?_⟩;have h1:=List.all_eq_true.1 h.2 i (List.mem_range.2 (zG.1 hi).1);rw[hi]at h1;simp only[Bool.or_eq_true,beq_iff_eq,hiz,false_or]at h1;rcases h1 with h1|h1|h1
 exact .inl h1;rw[<-Array.any_toList]at h1;obtain⟨e,he,h2⟩:=List.any_eq_true.1 h1;replace he:e∈oi.after:=by simpa using he
 simp only[Bool.and_eq_true,beq_iff_eq]at h2;exact .inr (.inl ⟨e,he,h2⟩);exact .inr (.inr h1)
theorem qky{j z:Nat}{oz:Oper}{src:Operand}{k:Nat}(hz:l.toArray[z]?=oz)(hjz:j≠z)(dw:oz.op=.extract src k)(hg:oz.guard=I)(hs:Region.noSelect l.toArray=J)(hB:lateB l.toArray j z=J):∀(fuel:Nat)(listed:Array Bool)(a:Act)(W:World),Vd l.toArray listed->listed.size=l.length->wpAny P .any (JN l j z).toArray (QN Q) fuel listed a W->wpAny P .any l.toArray (QN Q) fuel listed a W:=by
 obtain⟨yZ,dh⟩:=qjK hz hB;have hzl:z<l.length:=by simpa using(zG.1 hz).1
 have zr:∀listed:Array Bool,Vd l.toArray listed->listed.size=l.length->j∈Region.ready .any l.toArray listed->¬listed.getD z false=J->z∈Region.ready .any l.toArray listed:=λlisted hc hsz hj hzu=>by refine mem_ready.2 ⟨?_,oz,hz,λe he hb=>?_⟩;have hlt:z<listed.size:=zO;simp only[Array.getD_eq_getD_getElem?,Array.getElem?_eq_getElem hlt,Option.getD_some]at hzu⊢;simpa using hzu;have hk:e.on∈qO oz:=List.mem_map.2 ⟨e,by rw[List.mem_filter];exact⟨by simpa using he,hb⟩,rfl⟩;exact vW hc 9 j e.on (λo ho=>VS hj ho) (yZ _ hk)
 intro fuel;induction fuel with
 |zero=>
  intro listed a W hc hsz h;refine⟨?_,h.2⟩;refine Classical.byContradiction λaH=>?_;obtain⟨i,hi⟩:=List.exists_mem_of_ne_nil _ aH;have aj:∀i,i∉Region.ready .any (JN l j z).toArray listed:=λi hi=>by rw[h.1]at hi;cases hi
  by_cases hij:i=j;subst hij;by_cases hzu:listed.getD z false=J;exact aj i (Jr.2 ⟨hi,λ_=>hzu⟩);exact aj z (Jr.2 ⟨zr listed hc hsz hi hzu,λe=>absurd e.symm hjz⟩);exact aj i (Jr.2 ⟨hi,λe=>absurd e hij⟩)
 |succ fuel ih=>
  intro listed a W hc hsz h;refine⟨λh0=>h.1 ?_,λi hi=>?_⟩;refine List.eq_nil_iff_forall_not_mem.2 λi hi=>?_;have:=(Jr.1 hi).1;rw[h0]at this;cases this;have key:∀i,i∈Region.ready .any (JN l j z).toArray listed->wpOp P l.toArray (QN Q) i (wpAny P .any l.toArray (QN Q) fuel (listed.setIfInBounds i J)) a W:=λi hi=>
   qmP (λa w hw=>ih _ a w (hc.step (Jr.1 hi).1) (by simpa using hsz) hw) (h.2 i hi)
  by_cases hlate:i=j/\¬listed.getD z false=J;obtain⟨rfl,hzu⟩:=hlate;have hzr:=zr listed hc hsz hi hzu;have h1:=h.2 z (Jr.2 ⟨hzr,λe=>absurd e.symm hjz⟩);have hw:∀t,Region.wanted oz (yielded l.toArray t)=J:=λt=>by unfold Region.wanted;rw[hg]
  unfold wpOp at h1;rw[Gv (λe=>hjz e.symm),hz]at h1;simp only[qaj,hw,if_true]at h1;rcases h1 with h1|⟨_,h1⟩
  unfold Oper.wp at h1;rcases qfR dw a.eval P with⟨v,hv⟩|aJ
  rw[hv]at h1;have h2:=ih _ _ W (hc.step hzr) (by simpa using hsz) h1;have h3:=qdH (Q:=Q) (v:=v) hz (Region.noSelect_spec hs) fuel listed a W (λj' oj' iL hjz' eU aj=>by
   rcases dh j' oj' iL hjz' with hwt|⟨e,he,hb,nK⟩|dW
   exfalso;have:=vW hc 9 z j' (λo ho=>VS hzr ho) hwt;rcases Nat.lt_or_ge j' listed.size with h'|h'
   simp[h']at eU this;rw[eU]at this;cases this;simp[Array.getElem?_eq_none h']at this;exact absurd nK (aj e he hb)
   ·exact dW) hzr (hw _) hv h2
  exact h3.2 i hi;obtain⟨s,hs2⟩:=aJ W;rw[hs2]at h1;exact False.elim h1;exact absurd h1 Js;exact key i (Jr.2 ⟨hi,λe=>Classical.byContradiction λhn=>hlate ⟨e,hn⟩⟩)
theorem Gh{listed:Array Bool}{a:Act}{W:World}{fuel:Nat}(j z:Nat){oz:Oper}{src:Operand}{k:Nat}(hz:l.toArray[z]?=oz)(hjz:(j==z)=false)(dw:oz.op=.extract src k)(hg:oz.guard=I)(hs:Region.noSelect l.toArray=J)(hB:lateB l.toArray j z=J)(hc:YX l.toArray listed=J)(hsz:(listed.size==l.length)=J)(h:wpAny P .any (JN l j z).toArray (QN Q) fuel listed a W):wpAny P .any l.toArray (QN Q) fuel listed a W:=
 qky hz (by simpa using hjz) dw hg hs hB fuel listed a W (vC hc) (by simpa using hsz) h
end
end Go.Proofs.YtmeadnlmepcmbaaGreat
