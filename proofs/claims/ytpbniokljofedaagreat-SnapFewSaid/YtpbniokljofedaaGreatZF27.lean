/- Texts Put, joined. -/
import Derived.Sort.CutIn
import Derived.Test.YtpbniokljofedaaGreatZF17
import Derived.Test.YtpbniokljofedaaGreatZF19
import Derived.Test.YtpbniokljofedaaGreatZF22
import Derived.Test.YtpbniokljofedaaGreatZF23
import Derived.Test.YtpbniokljofedaaGreatZF25
import Derived.Test.YtpbniokljofedaaGreatZF26
set_option linter.unusedSimpArgs false
set_option linter.unusedVariables false
set_option maxHeartbeats 8000000
namespace Go.Proofs.YtpbniokljofedaaGreat
open Go.RowKit Go.Shelf
attribute [local go_sem] Oper.semAt_some
theorem qhf {n b:Nat} {R:Ending→World→Prop} {a:Act} {W:World} {x0 x1 x2 x3 y z:Value} (h4:a.tmps[6]?.getD undef=.pointer (some ⟨b+1+1,0,none⟩)) (h5:a.tmps[7]?.getD undef=.pointer (some ⟨b+1+1+1,0,none⟩)) (h6:a.tmps[8]?.getD undef=.pointer (some ⟨b+1+1+1+1,0,none⟩)) (hd:a.defers=[])
  (r4:W.heap[b+2]?=some (.cells #[x0,x1,x2,x3] 28 (0,0))) (r5:W.heap[b+3]?=some (.cells #[y] 3 (0,0))) (r6:W.heap[b+4]?=some (.cells #[z] 36 (0,0))) (hR:R (.returned (.tuple #[.agg #[x0,x1,x2,x3],y,z])) W) :
  bodyPostM Fence.wide n Tryz.prog Tryz.f54 R .ret a W:=by
 have k4:=qa r4
 have k5:=qa r5
 have k6:=qa r6
 change LeavesInM Fence.wide n Tryz.prog Tryz.f54 a.tmps R a.defers .returning W
 rw[hd]
 refine⟨.tuple #[.agg #[x0,x1,x2,x3],y,z],?_,hR⟩
 simp[results,Tryz.results54,go_sem,h4,h5,h6,k4,k5,k6]
theorem Tg {n b D:Nat} {R:Ending→World→Prop} {a:Act} {W:World} {x0 x1 x2 x3 y z:Value} (h4:a.tmps[6]?.getD undef=.pointer (some ⟨b+1+1,0,none⟩)) (h5:a.tmps[7]?.getD undef=.pointer (some ⟨b+1+1+1,0,none⟩)) (h6:a.tmps[8]?.getD undef=.pointer (some ⟨b+1+1+1+1,0,none⟩)) (hd:a.defers=[{ target:=.collected D,args:=#[] }])
  (hK:W.heap[D]?=some (.deferred (some []))) (hD:b+4<D)
  (r4:W.heap[b+2]?=some (.cells #[x0,x1,x2,x3] 28 (0,0))) (r5:W.heap[b+3]?=some (.cells #[y] 3 (0,0))) (r6:W.heap[b+4]?=some (.cells #[z] 36 (0,0))) (hR:R (.returned (.tuple #[.agg #[x0,x1,x2,x3],y,z])) (W.putObj D (.deferred none))) :
  bodyPostM Fence.wide n Tryz.prog Tryz.f54 R .ret a W:=by
 have k4:=qa ((World.putObj_heap_other (o:=.deferred none) (show b+2≠D by omega)).trans r4)
 have k5:=qa ((World.putObj_heap_other (o:=.deferred none) (show b+3≠D by omega)).trans r5)
 have k6:=qa ((World.putObj_heap_other (o:=.deferred none) (show b+4≠D by omega)).trans r6)
 change LeavesInM Fence.wide n Tryz.prog Tryz.f54 a.tmps R a.defers .returning W
 rw[hd]
 refine⟨by simp,.inl ⟨_,_,rfl,run_takeDeferred hK,.tuple #[.agg #[x0,x1,x2,x3],y,z],?_,hR⟩⟩
 simp[results,Tryz.results54,go_sem,h4,h5,h6,k4,k5,k6]
def UX (lo n:Nat) (us:List Value):qS:=⟨Option Addr×Nat,fun p=>.slice p.1 n p.2,fun p W=>W.ownsRow lo 68 5 (.slice p.1 n p.2) n us⟩
theorem Qo (lo n:Nat) (us:List Value) (A:Option Addr) (c:Nat):(UX lo n us).f (A,c)=.slice A n c:=rfl
theorem GP (lo n:Nat) (us:List Value):∀ p,qD ql ((UX lo n us).φ p):=fun p W W' he h=>by
 have he:Ext W W':=he
 have h:W.ownsRow lo 68 5 (.slice p.1 n p.2) n us:=h
 exact zO h fun q hq=>Below.block he q (QR h q hq).2
theorem key_ifn (x:It) (k i o:Int) (W:World):(if x.k=k then if x.i=i then if x.o=o then Result.ok (Next.value (Value.bool false)) W else Result.ok (Next.value (Value.bool true)) W else Result.ok (Next.value (Value.bool true)) W else Result.ok (Next.value (Value.bool true)) W)=Result.ok (Next.value (Value.bool (!decide (qE x=(k,i,o))))) W:=by
 have e:(qE x=(k,i,o))↔(x.k=k∧x.i=i∧x.o=o):=by unfold qE;simp only[Prod.mk.injEq]
 by_cases h1:x.k=k
 ·by_cases h2:x.i=i
  ·by_cases h3:x.o=o
   ·rw[if_pos h1,if_pos h2,if_pos h3,decide_eq_true (e.2 ⟨h1,h2,h3⟩)];rfl
   ·rw[if_pos h1,if_pos h2,if_neg h3,decide_eq_false (fun h=>h3 (e.1 h).2.2)];rfl
  ·rw[if_pos h1,if_neg h2,decide_eq_false (fun h=>h2 (e.1 h).2.1)];rfl
 ·rw[if_neg h1,decide_eq_false (fun h=>h1 (e.1 h).1)];rfl
theorem Qf.of_ext {W W':World} (h:Ext W W'):Qf W W':=⟨h.size,fun k o hk _=>(Below.block h k (zG.1 hk).1).trans hk⟩
theorem Kz.split {D:Nat→Prop} {B lo b g:Nat} {k:Option Nat} {S:Sto} {lvl:Int} {l held:List It} {w W:World} {e:Ending} (h:Kz D B lo b g k S lvl l held w e W):qY lo b g k w W ∧
  ((∃ er,Hid (QW S lvl l held=.error er)∧e=.returned (.tuple #[.slice none 0 0,.int .i64 er])) ∨
  (∃ up S' k' D' A c,Hid (QW S lvl l held=.ok (up,S'))∧e=.returned (.tuple #[.slice A up.length c,.int .i64 0])∧Ze w.heap.size k k'∧Kt w.heap.size D D'∧Bch D' B lo b g k' S' W∧Hid (qm S'=true)∧W.ownsRow w.heap.size 68 5 (.slice A up.length c) up.length (qQ (upV up)))):=by
 obtain⟨h1,h2⟩:=h
 refine⟨h1,?_⟩
 rcases hb:QW S lvl l held with er|⟨up,S'⟩
 ·rw[hb] at h2
  exact .inl ⟨er,zH rfl,h2⟩
 ·rw[hb] at h2
  obtain⟨k',D',A,c,e1,e2,e3,e4,e5,e6,-⟩:=h2
  exact .inr ⟨up,S',k',D',A,c,zH rfl,e1,e2,e3,e4,zH e5,e6⟩
set_option maxRecDepth 100000 in
theorem qhe (A1:Option Addr) (n1 c1:Nat) (A2:Option Addr) (n2 c2:Nat) (A3:Option Addr) (n3 c3:Nat) (A4:Option Addr) (n4 c4:Nat) (S:Sto) (hS:qm S=true) (a lvl:Nat) (xs:List It) (ha:8≤a) (ha2:a<256) (hn:qu S a=some ((lvl:Int),xs)) (hsp:(Qd S lvl xs).isSome=true) (x:It) (hxo:ZY x) (Ax:Option Addr) (cx:Nat) (w:World)
  (hst:qP w w.heap.size (.slice A1 n1 c1) (.slice A2 n2 c2) (.slice A3 n3 c3) (.slice A4 n4 c4) S) (hxv:Bys w w.heap.size (.slice Ax x.val.length cx) x.val) :
  Calls Tryz.prog 54 #[qX A1 n1 c1 A2 n2 c2 A3 n3 c3 A4 n4 c4,.int .i64 (a:Int),itV x Ax cx] w (zo (PutQ w.heap.size (Xr S lvl xs a x)) w):=by
 have HA:=zH (fun W (hx:Ext w W)=>qfZ A1 n1 c1 A2 n2 c2 A3 n3 c3 A4 n4 c4 S hS a lvl xs ha ha2 hn hsp x Ax cx W (hst.ext hx))
 have HW:=zH (fun W (hx:Ext w W)=>way_any A1 n1 c1 A2 n2 c2 A3 n3 c3 A4 n4 c4 S hS a lvl xs ha ha2 hn hsp x.k x.i x.o W (hst.ext hx))
 have HO:=zH (fun W (hx:Ext w W)=>qct A1 n1 c1 A2 n2 c2 A3 n3 c3 A4 n4 c4 S (by have:=(qU hS).2.2.1;omega) W (hst.ext hx))
 obtain⟨q,hq⟩:∃ q,Xr S lvl xs a x=q:=⟨_,rfl⟩
 rw[hq]
 replace hq:=zH hq
 obtain⟨l,hl⟩:∃ l,vD S (x.k,x.i,x.o) lvl xs=l:=⟨_,rfl⟩
 have hwo:=qgv (k:=(x.k,x.i,x.o)) lvl hn hsp
 have hwl:=qcP (k:=(x.k,x.i,x.o)) lvl (Qa hn).1 hsp
 have hl6:lvl<6:=by have:=ZO hn;omega
 rw[hl] at HW hwo hwl
 replace hl:=zH hl
 replace hwo:=zH hwo
 have hlb:0<l.length∧l.length≤6:=by omega
 replace hlb:=zH hlb
 replace hwl:=zH hwl
 clear hl6
 refine(callsIn_wide (n:=3)).1 ?_
 refine callsIn_of_wp_marks Tryz.func54 rfl trivial ?_ rfl
 simp only[Tryz.ntmps54,List.size_toArray,List.length_cons,List.length_nil,Nat.reduceAdd,Nat.reduceSub,Array.replicate_succ,Array.replicate_zero,List.push_toArray,List.append_toArray,List.nil_append,List.cons_append]
 refine wpIn_wide.2 ?_
 replace hst:=zH hst
 replace hxv:=zH hxv
 replace hxo:=zH hxo
 clear hn hsp
 go_wp2_with fail
 generalize hw1:(World.alloc (World.alloc (World.alloc (World.alloc (World.alloc w _) _) _) _) _)=w1
 have x1:Ext w w1:=by rw[←hw1];exact((((zN _ _).trans (zN _ _)).trans (zN _ _)).trans (zN _ _)).trans (zN _ _)
 have s1:w.heap.size+5≤w1.heap.size:=by rw[←hw1];simp
 have ra1:w1.heap[w.heap.size]?=some (.cells #[.slice A1 n1 c1,.slice A2 n2 c2,.slice A3 n3 c3,.slice A4 n4 c4] 28 (0,0)):=by rw[←hw1];exact(zK _ _ _ (by simp <;> omega)).trans ((zK _ _ _ (by simp <;> omega)).trans ((zK _ _ _ (by simp <;> omega)).trans ((zK _ _ _ (by simp <;> omega)).trans (zI _ _ _ rfl))))
 have rb1:w1.heap[w.heap.size+1]?=some (.cells #[.int .u8 x.k,.int .u32 x.i,.int .u32 x.o,.int .i64 x.r,.slice Ax x.val.length cx] 68 (0,0)):=by rw[←hw1];exact(zK _ _ _ (by simp <;> omega)).trans ((zK _ _ _ (by simp <;> omega)).trans ((zK _ _ _ (by simp <;> omega)).trans (zI _ _ _ (by simp))))
 have rc1:w1.heap[w.heap.size+2]?=some (.cells #[.slice none 0 0,.slice none 0 0,.slice none 0 0,.slice none 0 0] 28 (0,0)):=by rw[←hw1];exact(zK _ _ _ (by simp <;> omega)).trans ((zK _ _ _ (by simp <;> omega)).trans (zI _ _ _ (by simp)))
 have rd1:w1.heap[w.heap.size+3]?=some (.cells #[.int .i64 0] 3 (0,0)):=by rw[←hw1];exact(zK _ _ _ (by simp <;> omega)).trans (zI _ _ _ (by simp))
 have re1:w1.heap[w.heap.size+4]?=some (.cells #[.int .i64 0] 36 (0,0)):=by rw[←hw1];exact zI _ _ _ (by simp)
 clear hw1
 refine(HA.out w1 x1).mono ?_
 clear HA
 rintro e w2 ⟨rfl,hB⟩
 have x2:Ext w w2:=x1.trans hB
 have s2:=hB.size
 have ra2:=qb ra1 hB
 have rb2:=qb rb1 hB
 have rc2:=qb rc1 hB
 have rd2:=qb rd1 hB
 have re2:=qb re1 hB
 clear hB ra1 rb1 rc1 rd1 re1 x1
 have ka2:=qa ra2
 have kb2:=qa rb2
 have kc2:=qa rc2
 have kd2:=qa rd2
 have ke2:=qa re2
 have fc2:=qd rc2
 have fd2:=qd rd2
 have fe2:=qd re2
 by_cases hE:Tx S x=0
 case neg =>
  have hqe:=zH (show q=.error (Tx S x) by rw[←hq.out];unfold Xr;rw[if_neg hE])
  have hne:(Tx S x != 0)=true:=by rw[bne_iff_ne];exact hE
  generalize Tx S x=er at *
  clear HW HO
  go_wp2_with fail
  obtain⟨g4,g5,g6,hb,-⟩:=GV rc2 rd2 re2 rfl
  exact qhf rfl rfl rfl rfl g4 g5 g6 ⟨_,rfl,by rw[hqe.out];rfl,hb (by omega) x2⟩
 case pos =>
  have hq1:=zH (show q=putX S lvl xs a x by rw[←hq.out];unfold Xr;rw[if_pos hE])
  rw[hE]
  clear hq
  have hq2:Hid (q=match TK S lvl xs x with
   | .error e=>.error e
   | .ok (up,S2)=>match QH S2 (-1) S2.now a with
    |none=>.error 8
    |some t=>.ok (Kh up,qw S2 t)):=zH (by rw[hq1.out,qcH] <;> rfl)
  have hpre:Hid (TK S lvl xs x=if Uy (x.k,x.i,x.o) l=true then .error 120 else
   match ZR (x.k,x.i,x.o) l.reverse [x] S with
   | .error e=>.error e
   | .ok (up,S1)=>if 1<up.length then QW S1 ((l.length:Nat):Int) up up else .ok (up,S1)):=zH (by rw[←hl.out];rfl)
  replace hE:=zH hE
  clear hq1
  go_wp2_with fail
  refine(HW.out w2 x2).mono ?_
  clear HW
  rintro e w3 ⟨u,rfl,hSE,hB⟩
  have x23:Ext w2 w3:=hB
  have x3:Ext w w3:=x2.trans x23
  have s3:=hB.size
  have ra3:=qb ra2 hB
  have rb3:=qb rb2 hB
  have rc3:=qb rc2 hB
  have rd3:=qb rd2 hB
  have re3:=qb re2 hB
  clear hB ra2 rb2 rc2 rd2 re2 ka2 kb2 kc2 kd2 ke2 fc2 fd2 fe2
  have ka3:=qa ra3
  have kb3:=qa rb3
  have kc3:=qa rc3
  have kd3:=qa rd3
  have ke3:=qa re3
  have fc3:=qd rc3
  have fd3:=qd rd3
  have fe3:=qd re3
  have hT:=tall_any u l (by have:=hlb.out;omega) hlb.out.1 x.k x.i x.o (fun s hs=>(hwo.out s hs).len) w3 (hSE.read (Qb.refl _ _))
  obtain⟨ps,hps,⟨As,cs,rfl,hsc1,hsc2,hsr⟩,hpi⟩:=hSE
  replace hsc2:=zH hsc2
  replace hsr:=zH hsr
  replace hpi:=zH hpi
  replace hps:=zH hps
  replace hT:=zH hT
  clear hsc1
  go_wp2_with fail
  refine hT.out.mono ?_
  clear hT
  rintro e w4 ⟨rfl,hB⟩
  have x34:Ext w3 w4:=hB
  have x4:Ext w w4:=x3.trans x34
  have s4:=hB.size
  have ra4:=qb ra3 hB
  have rb4:=qb rb3 hB
  have rc4:=qb rc3 hB
  have rd4:=qb rd3 hB
  have re4:=qb re3 hB
  clear hB ra3 rb3 rc3 rd3 re3 ka3 kb3 kc3 kd3 ke3 fc3 fd3 fe3
  have ka4:=qa ra4
  have kb4:=qa rb4
  have kc4:=qa rc4
  have kd4:=qa rd4
  have ke4:=qa re4
  have fc4:=qd rc4
  have fd4:=qd rd4
  have fe4:=qd re4
  rcases hta:Uy (x.k,x.i,x.o) l with _|_
  case true =>
   have hqe:=zH (show q=.error 120 by rw[hq2.out,hpre.out,if_pos hta])
   clear hq2 hpre HO
   go_wp2_with fail
   obtain⟨g4,g5,g6,hb,-⟩:=GV rc4 rd4 re4 rfl
   exact qhf rfl rfl rfl rfl g4 g5 g6 ⟨_,rfl,by rw[hqe.out];rfl,hb (by omega) x4⟩
  case false =>
   have hpre2:Hid (TK S lvl xs x=match ZR (x.k,x.i,x.o) l.reverse [x] S with
    | .error e=>.error e
    | .ok (up,S1)=>if 1<up.length then QW S1 ((l.length:Nat):Int) up up else .ok (up,S1)):=zH (by rw[hpre.out,if_neg (by rw[hta];decide)])
   replace hta:=zH hta
   clear hpre
   have z40:w.heap.size<w4.heap.size:=by omega
   have z41:w.heap.size+1<w4.heap.size:=by omega
   have z42:w.heap.size+1+1<w4.heap.size:=by omega
   have z43:w.heap.size+1+1+1<w4.heap.size:=by omega
   have z44:w.heap.size+1+1+1+1<w4.heap.size:=by omega
   go_wp2_with fail
   generalize hw5:(World.alloc (World.alloc w4 _) _)=w5
   have x45:Ext w4 w5:=by rw[←hw5];exact(zN _ _).trans (zN _ _)
   have x5:Ext w w5:=x4.trans x45
   have s5:w4.heap.size+2≤w5.heap.size:=by rw[←hw5];simp
   have rU5:w5.heap[w4.heap.size]?=some (.cells #[.int .u8 x.k,.int .u32 x.i,.int .u32 x.o,.int .i64 x.r,.slice Ax x.val.length cx] 68 (0,0)):=by rw[←hw5];exact(zK _ _ _ (by simp)).trans (zI _ _ _ rfl)
   have rB5:w5.heap[w4.heap.size+1]?=some (.cells #[.slice (some ⟨w4.heap.size,0,none⟩) 1 1] 47 (0,0)):=by rw[←hw5];exact zI _ _ _ (by simp)
   clear hw5
   have rb5:=qb rb4 x45
   have rc5:=qb rc4 x45
   have rd5:=qb rd4 x45
   have re5:=qb re4 x45
   clear ra4 rb4 rc4 rd4 re4 ka4 kb4 kc4 kd4 ke4 fc4 fd4 fe4
   refine(HO.out w5 x5).mono ?_
   clear HO
   rintro e w6 ⟨u,rfl,⟨b,A3',c3',rfl,hlo,hrow,hown⟩,hB⟩
   have x56:Ext w5 w6:=hB
   have x6:Ext w w6:=x5.trans x56
   have s6:=hB.size
   have hst6:=hst.out.below x6
   obtain⟨g,hbch⟩:=Bch.of_on (B:=w.heap.size) x5.size hS hst6 hlo hrow hown
   replace hbch:=zH hbch
   have rb6:=qb rb5 hB
   have rc6:=qb rc5 hB
   have rd6:=qb rd5 hB
   have re6:=qb re5 hB
   have rU6:=qb rU5 hB
   have rB6:=qb rB5 hB
   clear hB rb5 rc5 rd5 re5 rU5 rB5 hrow hown hst6 z40 z41 z42 z43 z44
   go_wp2_with fail
   generalize hw7:World.alloc w6 _=w7
   have x67:Ext w6 w7:=by rw[←hw7];exact zN _ _
   have rT7:w7.heap[w6.heap.size]?=some (.cells #[.pointer (some ⟨b,0,none⟩)] 80 (0,0)):=by rw[←hw7];exact zI _ _ _ rfl
   clear hw7
   refine(qax As l.length cs w7).mono ?_
   rintro e w8 ⟨rfl,rfl⟩
   go_wp2_with fail
   generalize hw8:World.alloc w7 _=w8
   have x78:Ext w7 w8:=by rw[←hw8];exact zN _ _
   have s8:w7.heap.size<w8.heap.size:=by rw[←hw8];simp
   have rS8:w8.heap[w7.heap.size]?=some (.cells #[.slice As l.length cs] 153 (0,0)):=by rw[←hw8];exact zI _ _ _ rfl
   clear hw8
   have x68:Ext w6 w8:=x67.trans x78
   have x38:Ext w3 w8:=((x34.trans x45).trans x56).trans x68
   have x8:Ext w w8:=x6.trans x68
   obtain⟨b2,o2,rfl,hb2,hc2⟩:=(hsr.out w3 (Qb.refl _ _)).2 hlb.out.1
   have hpl:ps.length=l.length:=by rw[←hps.out,List.length_map]
   obtain⟨us,hus⟩:∃ us:List Us,us=ps.map fun p=>((p.1,VI p.2):Us):=⟨_,rfl⟩
   have hul:us.length=l.length:=by rw[hus,List.length_map,hpl]
   have husl:∀ i (hi:i<ps.length),us[i]?.getD usz=(ps[i].1,VI ps[i].2):=fun i hi=>by rw[hus,List.getElem?_map,zL hi];rfl
   have hsv:∀ i (hi:i<ps.length),sv (VI ps[i].2)=ps[i].2:=fun i hi=>by
    obtain⟨ips,_,⟨⟨A,c,e,_⟩,_⟩⟩:=hpi.out ps[i] (List.getElem_mem hi)
    rw[e]
    rfl
   have hitm:∀ j,∃ ips A c,sv (us[j]?.getD usz).2=.slice A (sAt l j).2.1.length c∧(us[j]?.getD usz).1=sAt l j∧ips.map (·.1)=(sAt l j).2.1∧Tv (fun q=>q<w2.heap.size) w3 (sv (us[j]?.getD usz).2) ips:=fun j=>by
    by_cases hj:j<ps.length
    ·obtain⟨ips,e1,he⟩:=hpi.out ps[j] (List.getElem_mem hj)
     have hx:ps[j].1=sAt l j:=by
      unfold sAt
      rw[←hps.out,List.getElem?_map,zL hj]
      rfl
     obtain⟨A,c,e⟩:=he.shape e1
     rw[husl j hj]
     simp only
     rw[hsv j hj]
     rw[hx] at e e1
     exact⟨ips,A,c,e,hx,e1,he⟩
    ·have h1:us[j]?=none:=List.getElem?_eq_none (by rw[hul];omega)
     have h2:sAt l j=(0,[],0):=by unfold sAt;rw[List.getElem?_eq_none (by omega)];rfl
     rw[h1,h2]
     exact⟨[],none,0,rfl,rfl,rfl,⟨none,0,rfl,zM _,by unfold maxLen;omega,fun C _=>Rd.none_⟩,fun p hp=>by cases hp⟩
   have hne4:b2≠w.heap.size+4:=fun e=>by
    have h1:=hc2 1 _ (Yj ps 0 (by rw[hpl];exact hlb.out.1)).2.1
    have h2:=Ext.cell ((x34.trans x45).trans x56) h1
    rw[e,qa re6] at h2
    simp at h2
   have hSW:SWs w8 w7.heap.size b2 (.slice (some ⟨b2,o2,none⟩) l.length cs) us:=by
    refine⟨by rw[qa rS8];rfl,.inr ⟨o2,cs,by rw[hul],fun i hi=>?_⟩⟩
    have hi':i<ps.length:=by omega
    obtain⟨g0,g1,g2⟩:=Yj ps i hi'
    rw[husl i hi']
    simp only
    rw[hsv i hi']
    exact⟨Ext.cell x38 (hc2 _ _ g0),by rw[Nat.add_assoc];exact Ext.cell x38 (hc2 _ _ g1),by rw[Nat.add_assoc];exact Ext.cell x38 (hc2 _ _ g2)⟩
   have hI0:PutI (x.k,x.i,x.o) l S x w.heap.size w5.heap.size b g (w4.heap.size+1) w6.heap.size w7.heap.size w2.heap.size w3 (.slice Ax x.val.length cx) (.slice (some ⟨b2,o2,none⟩) l.length cs) [] w8:=by
    refine⟨⟨[x],S,none,_,_,1,[(x,.slice Ax x.val.length cx)],rfl,hS,by simp,by simp,rfl,fun y hy=>?_,fun p hp=>?_,qb rB6 x68,?_,hbch.out.ext x68⟩,qb rb6 x68,qb rc6 x68,qb rd6 x68,qb re6 x68,qb rT7 x78,rS8,Qb.of_ext x38⟩
    ·obtain rfl:y=x:=by simpa using hy
     have hb:itB y.r y.val.length=true:=by
      have:=hE.out
      unfold Tx at this
      split at this
      ·rename_i h;exact h
      ·cases this
     unfold itB at hb
     simp only[decide_eq_true_eq] at hb
     have h1:=hxo.out.2.2.2.1
     exact⟨hxo.out,by omega,h1.2⟩
    ·obtain rfl:p=(x,.slice Ax x.val.length cx):=by simpa using hp
     exact⟨⟨Ax,cx,rfl⟩,hxv.out.below x8⟩
    ·exact⟨rfl,.inr ⟨w4.heap.size,1,_,rfl,Nat.zero_le _,qb rU6 x68,zM _,by unfold maxLen;omega,rfl,rfl⟩⟩
   replace hI0:=zH hI0
   replace hitm:=zH hitm
   clear hus husl hsv hc2 hsr hpi hps hpl rb6 rc6 rd6 re6 rU6 rB6 rT7 rS8
   generalize hact:({ tmps:=_,defers:=_ }:Act)=act
   refine(wpIn_wide (n:=3)).1 ?_
   refine wpIn_rangeFunc_ownH rfl (by omega) (gf:=146) (lb:=#[.pointer (some ⟨w7.heap.size,0,none⟩)]) (by rw[←hact];rfl) trivial (enters_of Tryz.func146 (by kernel_rfl) rfl)
    (qdn (3-1) (by omega) w7.heap.size b2 _ us (by rw[hul];have:=hlb.out;omega) w8 s8 (by have:=x38.size;omega) hSW) Qr.t (Qr.b s8 (by have:=x38.size;omega)) (Below.refl _ _) (fun _=>rfl)
    (fun pre W'=>(∃ Wb,PutI (x.k,x.i,x.o) l S x w.heap.size w5.heap.size b g (w4.heap.size+1) w6.heap.size w7.heap.size w2.heap.size w3 (.slice Ax x.val.length cx) (.slice (some ⟨b2,o2,none⟩) l.length cs) pre Wb∧Qf Wb W')∧Below w.heap.size w W')
    (fun c pre W'=>(∃ er Wb,c=.ret∧ZR (x.k,x.i,x.o) (pre.map (sAt l)) [x] S=.error er∧(Wb.heap[w.heap.size+2]?=some (.cells #[.slice none 0 0,.slice none 0 0,.slice none 0 0,.slice none 0 0] 28 (0,0))∧Wb.heap[w.heap.size+3]?=some (.cells #[.int .i64 0] 3 (0,0))∧Wb.heap[w.heap.size+4]?=some (.cells #[.int .i64 er] 36 (0,0)))∧Qf Wb W')∧Below w.heap.size w W')
    (OwnFrom.and (fun s A C row hs hg hr=>by
     obtain⟨Wb,h1,h2⟩:=hs
     exact⟨Wb,h1,h2.grown hg fun r e=>(hr r e).2⟩) (ownFrom_below (zM _) x8.size))
    (fun c=>OwnFrom.and (fun s A C row hs hg hr=>by
     obtain⟨er,Wb,h1,h2,h3,h4⟩:=hs
     exact⟨er,Wb,h1,h2,h3,h4.grown hg fun r e=>(hr r e).2⟩) (ownFrom_below (zM _) x8.size))
    ⟨⟨w8,hI0.out,Qf.refl _⟩,x8⟩
    (fun j a' W'=>∃ t14,a'=(((({ tmps:=act.tmps,defers:=[] }:Act).put (some 42) (.int .i64 (j:Int))).put (some 43) (.agg #[.int .i64 ((us[j]?.getD usz).1.1:Int),sv (us[j]?.getD usz).2,.int .i64 ((us[j]?.getD usz).1.2.2:Int)])).put (some 14) (.pointer (some ⟨t14,0,none⟩)))∧W'.heap[t14]?=some (.cells #[.int .i64 ((us[j]?.getD usz).1.1:Int),sv (us[j]?.getD usz).2,.int .i64 ((us[j]?.getD usz).1.2.2:Int)] 160 (0,0)))
    (fun x a' s A C row hs hg hr=>by
     obtain⟨t14,e,h⟩:=hs
     exact⟨t14,e,Qs (β:=Unit) _ _ _ _ () A C row h hg hr⟩) ?assign ?body ?done ?stop
   case assign =>
    rintro l' pre j W' K ⟨⟨Wb,hPI,hck⟩,i4⟩ hK
    subst hact
    have z4:=i4.size
    have hPW:=hPI.ck hck
    have zS:=(zG.1 hPW.rS).1
    have zb2:b2<W'.heap.size:=by have:=(((x34.trans x45).trans x56).trans x67).size;omega
    gi_wp2
    exact hK _ _ ((KeepsOthers.alloc _ _).from _) ⟨zK _ _ _ zS,zK _ _ _ zb2⟩ ⟨⟨_,hPW,Qf.of_ext (zN _ _)⟩,Below.alloc i4 z4 _⟩ ⟨W'.heap.size,rfl,zI _ _ _ rfl⟩
   case body =>
    rintro l' pre j a' W' hll ⟨rr,hlp⟩ ⟨⟨Wb,hPI,hck⟩,i4⟩ ⟨t14,rfl,hr14⟩ _
    subst hact
    have hPW:=hPI.ck hck
    simp only[Act.put,zA,zB,zC]
    obtain⟨ips,A9,c9,e9,e10,e11,hie⟩:=hitm.out j
    have hWO:=sAt_ok hwo.out j
    have hgap:=zH (fun (ups:List It) (S':Sto) (h:ZR (x.k,x.i,x.o) (pre.map (sAt l)) [x] S=.ok (ups,S'))=>(by rw[List.map_append,kQ,h];simp only[List.map_cons,List.map_nil];exact qhO _ _ _ _:ZR (x.k,x.i,x.o) ((pre++[j]).map (sAt l)) [x] S=QW S' ((sAt l j).1:Int) (Kq (sAt l j).2.1 (sAt l j).2.2 (VX (x.k,x.i,x.o) (sAt l j).1 (sAt l j).2.1) ups) ups))
    obtain⟨s9,hs9⟩:∃ s9,sAt l j=s9:=⟨_,rfl⟩
    rw[hs9] at e9 e10 e11 hWO hgap
    clear hs9
    generalize us[j]?.getD usz=u9 at *
    obtain⟨v9,sl9⟩:=u9
    simp only at e9 e10 hr14 hie
    subst e10
    obtain⟨lv,ys,pl⟩:=v9
    simp only at e9 e11 hr14 hgap
    rw[e9] at hr14 hie ⊢
    obtain⟨hWm,hWi,hWl,hWle,hWlt,hW0⟩:=hWO
    simp only at hWm hWi hWl hWle hWlt hW0
    obtain⟨ups,S',k',D',Au,cu,hps',hgr,hS',hup0,hup2,hhm,hupo,hpv,hrU,hoU,hbc⟩:=hPW.ex
    have hit:=(hie.trans hPW.kx fun q _ h=>h).its (Qb.refl (fun q=>q<w2.heap.size) W')
    rw[e11] at hit
    obtain⟨many,hmy⟩:∃ many,VX (x.k,x.i,x.o) lv ys=many:=⟨_,rfl⟩
    have hmok:=many_ok (k:=(x.k,x.i,x.o)) (s:=(lv,ys,pl)) ⟨hWm,hWi,hWl,hWle,hWlt,hW0⟩
    simp only at hmok
    rw[hmy] at hmok hgap
    have zx:w.heap.size+1<W'.heap.size:=(zG.1 hPW.rx).1
    have z14:=(zG.1 hr14).1
    have hxW:=zH (Ext.refl W')
    have hb69:Hid ((pl=ys.length→many=0)∧(pl<ys.length→lv≠0→many=1)∧(∀ h:pl<ys.length,lv=0→many=if qE (ys[pl]'h)=(x.k,x.i,x.o) then 1 else 0)):=zH (by
     refine⟨fun h=>?_,fun h h1=>?_,fun h h1=>?_⟩
     ·have h0:lv=0:=by
       rcases Nat.eq_zero_or_pos lv with h0|h0
       ·exact h0
       ·have:=hWlt h0;omega
      rw[←hmy]
      unfold VX
      rw[if_pos ⟨h0,XH (by rw[←hW0 h0];omega)⟩]
     ·rw[←hmy]
      unfold VX
      rw[if_neg (fun hh=>h1 hh.1)]
     ·rw[←hmy]
      unfold VX
      have hp:=hW0 h1
      subst hp
      rw[US h]
      by_cases hk:qE ys[qL ys (x.k,x.i,x.o)]=(x.k,x.i,x.o)
      ·rw[if_neg (by simp[hk]),if_pos hk]
      ·rw[if_pos ⟨h1,by simp[hk]⟩,if_neg hk])
    have hitH:=zH hit
    have hieH:=zH hie
    have hPWH:=zH hPW
    have hbcH:=zH hbc
    have hoUH:=zH hoU
    have hpvH:=zH hpv
    have hWiH:=zH hWi
    have hupoH:=zH hupo
    have hgrH:=zH hgr
    have hhmH:=zH hhm
    have hmyH:=zH hmy
    have hWlH:=zH hWl
    have hWleH:=zH hWle
    have hmokH:=zH hmok
    have e11H:=zH e11
    have hupH:=zH (And.intro hup0 hup2)
    have rUH:=zH hrU
    have hS'H:=zH hS'
    have hA:=hit.at_.2.2.2
    replace hA:=zH hA
    have rxW:=hPW.rx
    clear hit hie hPW hbc hoU hpv hWm hWi hWlt hW0 hupo hgr hhm hmy hWl hWle hmok e11 hup0 hup2 hrU hS' hPI hck e9
    gi_upto_region 12 with fail
    gi_cut [69] from 44 (fun s wx=>s=.bool (decide (many=0))∧Ext W' wx)
    case first =>
     have g14:∀ W,ql.r W' W→∀ i,W.cell? ⟨t14,i,none⟩=#[.int .i64 (lv:Int),.slice A9 ys.length c9,.int .i64 (pl:Int)][i]?:=fun W h=>qa (qb hr14 h)
     by_cases hpl:pl=ys.length
     ·have hm0:=zH (hb69.out.1 hpl)
      have ee:((pl:Int) == (ys.length:Int))=true:=by rw[beq_iff_eq];omega
      have hplH:=zH hpl
      clear hpl
      refine QZ ql (qF []) (List.replicate 26 true) 0 (JZ l') (by kernel_rfl) (by kernel_rfl) (by kernel_rfl) (by kernel_rfl) (by kernel_rfl) (by kernel_rfl) (by kernel_rfl) (by kernel_rfl) (by kernel_rfl) ?st (Rel.drew _ _) ?walk
      case st=>exact qk (fun _ h=>by cases h)
      case walk =>
       intro K hK
       dsimp only[qp,List.replicate]
       repeat ((first|(refine qe ?_ (by rfl) (by rfl) (fun W hW _=>⟨W,?_,Rel.refl _ W⟩) ?_;rotate_left;(go_simp<;>with_reducible rfl))|(refine qh (by rfl) ?_));try simp only[Act.put,qj,qf,qc,qg,Qo,Qu,Qc,Qp,zA,zB,zC])
       refine qt (hK _ _ fun V hV hF=>?_)
       clear hF hK
       have hV:Ext W' V:=hV
       dsimp only[List.drop,List.length_cons,List.length_nil,Nat.reduceAdd,Nat.reduceSub]
       gi_wp2_with fail
       gi_meet
       case rel=>exact⟨by rw[hm0.out];rfl,hV⟩
     ·have hlt:pl<ys.length:=by have:=hWleH.out;omega
      have ee:((pl:Int) == (ys.length:Int))=false:=by rw[beq_eq_false_iff_ne];omega
      have ee2:decide (pl=ys.length)=false:=decide_eq_false hpl
      by_cases hlv:lv=0
      ·have hb3:=hb69.out.2.2 hlt hlv
       obtain⟨bi,off,rfl,hbi⟩:=hA.out (by omega)
       obtain⟨A',c',d0,d1,d2,d3,d4,-⟩:=hitH.out.item pl hlt
       have gd0:∀ W,ql.r W' W→_:=fun W h=>Ext.cell h d0
       have gd1:∀ W,ql.r W' W→_:=fun W h=>Ext.cell h d1
       have gd2:∀ W,ql.r W' W→_:=fun W h=>Ext.cell h d2
       have gx:∀ W,ql.r W' W→∀ i,W.cell? ⟨w.heap.size+1,i,none⟩=#[.int .u8 x.k,.int .u32 x.i,.int .u32 x.o,.int .i64 x.r,.slice Ax x.val.length cx][i]?:=fun W h=>qa (qb rxW h)
       generalize ys[pl]=y at *
       subst hlv
       clear d0 d1 d2 d3 d4
       replace hb3:=zH hb3
       replace hpl:=zH hpl
       refine QZ ql (qF []) (List.replicate 26 true) 0 (JZ l') (by kernel_rfl) (by kernel_rfl) (by kernel_rfl) (by kernel_rfl) (by kernel_rfl) (by kernel_rfl) (by kernel_rfl) (by kernel_rfl) (by kernel_rfl) ?st (Rel.drew _ _) ?walk
       case st=>exact qk (fun _ h=>by cases h)
       case walk =>
        intro K hK
        dsimp only[qp,List.replicate]
        repeat ((first|(refine qe ?_ (by rfl) (by rfl) (fun W hW _=>⟨W,?_,Rel.refl _ W⟩) ?_;rotate_left;(go_simp<;>with_reducible rfl))|(refine qh (by rfl) ?_));try simp only[Act.put,qj,qf,qc,qg,Qo,Qu,Qc,Qp,zA,zB,zC])
        refine qe (.bool (!decide (qE y=(x.k,x.i,x.o)))) (by rfl) (by rfl) (fun W hW _=>⟨W,?_,Rel.refl _ W⟩) ?_
        ·go_simp
         exact key_ifn y x.k x.i x.o W
        simp only[Act.put,qj,qf,qc,qg,Qo,Qu,Qc,Qp,zA,zB,zC]
        repeat ((first|(refine qe ?_ (by rfl) (by rfl) (fun W hW _=>⟨W,?_,Rel.refl _ W⟩) ?_;rotate_left;(go_simp<;>with_reducible rfl))|(refine qh (by rfl) ?_));try simp only[Act.put,qj,qf,qc,qg,Qo,Qu,Qc,Qp,zA,zB,zC])
        refine qt (hK _ _ fun V hV hF=>?_)
        clear hF hK
        have hV:Ext W' V:=hV
        dsimp only[List.drop,List.length_cons,List.length_nil,Nat.reduceAdd,Nat.reduceSub]
        gi_wp2_with fail
        gi_meet
        case rel =>
         refine⟨?_,hV⟩
         rw[hb3.out]
         by_cases hk:qE y=(x.k,x.i,x.o) <;> simp[hk]
      ·have hm0:=zH (hb69.out.2.1 hlt hlv)
       have el:((lv:Int) == 0)=false:=by rw[beq_eq_false_iff_ne];omega
       have el2:decide (lv=0)=false:=decide_eq_false hlv
       replace hlv:=zH hlv
       replace hpl:=zH hpl
       refine QZ ql (qF []) (List.replicate 26 true) 0 (JZ l') (by kernel_rfl) (by kernel_rfl) (by kernel_rfl) (by kernel_rfl) (by kernel_rfl) (by kernel_rfl) (by kernel_rfl) (by kernel_rfl) (by kernel_rfl) ?st (Rel.drew _ _) ?walk
       case st=>exact qk (fun _ h=>by cases h)
       case walk =>
        intro K hK
        dsimp only[qp,List.replicate]
        repeat ((first|(refine qe ?_ (by rfl) (by rfl) (fun W hW _=>⟨W,?_,Rel.refl _ W⟩) ?_;rotate_left;(go_simp<;>with_reducible rfl))|(refine qh (by rfl) ?_));try simp only[Act.put,qj,qf,qc,qg,Qo,Qu,Qc,Qp,zA,zB,zC])
        refine qt (hK _ _ fun V hV hF=>?_)
        clear hF hK
        have hV:Ext W' V:=hV
        dsimp only[List.drop,List.length_cons,List.length_nil,Nat.reduceAdd,Nat.reduceSub]
        gi_wp2_with fail
        gi_meet
        case rel=>exact⟨by rw[hm0.out];rfl,hV⟩
    case rest =>
     obtain⟨rfl,xc⟩:=hcut
     have hma:many=0∨many=1:=hmokH.out.1
     clear hb69
     have rc14:=qb hr14 xc
     have hPWc:=zH (hPWH.out.ck (Qf.of_ext xc))
     have hitc:=zH (hitH.out.ext xc)
     have hips:ips.length=ys.length:=by rw[←e11H.out,List.length_map]
     have hpsl:hps'.length=ups.length:=by rw[←hhmH.out,List.length_map]
     have one1:∀ u∈qQ ips,u.oneCell'=true:=Gj ips fun p hp=>by
      obtain⟨A,c,e⟩:=(hieH.out.2 p hp).1
      rw[e];rfl
     have one2:∀ u∈qQ hps',u.oneCell'=true:=Gj hps' fun p hp=>by
      obtain⟨A,c,e⟩:=(hpvH.out p hp).1
      rw[e];rfl
     have HCl:Hid (∀ W,Ext wc W→Calls Tryz.prog 102 #[.slice A9 ys.length c9] W (zo (fun u w'=>w'.ownsRow W.heap.size 68 5 u ys.length (qQ ips)) W)):=zH fun W hW=>by
      obtain⟨⟨A,c,e,_,_,hr⟩,_⟩:=hieH.out
      rw[hips] at e hr
      cases e
      exact qdN A9 ys.length c9 (qQ ips) (by have:=hWlH.out;omega) one1 W (hr W ((hPWc.out.kx).trans (Qb.of_ext hW) fun _ _ h=>h))
     have hoUc:=zH (zO hoUH.out fun q hq=>Below.block xc q (QR hoUH.out q hq).2)
     have HRp:Hid (∀ (V:World) (Ac:Option Addr) (cc:Nat),Ext wc V→V.ownsRow wc.heap.size 68 5 (.slice Ac ys.length cc) ys.length (qQ ips)→Calls Tryz.prog 101 #[.slice Ac ys.length cc,.int .i64 (pl:Int),.int .i64 ((pl+many:Nat):Int),.slice Au ups.length cu] V (KD wc.heap.size (.slice Ac ys.length cc) (ys.length-many+ups.length) ((qQ ips).take (pl*5)++qQ hps'++(qQ ips).drop ((pl+many)*5)) V)):=zH fun V Ac cc hV ho =>
      qew wc.heap.size _ ys.length pl many (qQ ips) (.slice Au ups.length cu) ups.length 0 (qQ hps') V ho (zO hoUc.out fun q hq=>Below.block hV q (QR hoUc.out q hq).2) (fun q hq hq2=>by
       have h1:=(QR hoUc.out q hq).2
       have h2:=(QR ho q hq2).1
       omega) hupH.out.1 (by have:=hWlH.out;have:=hupH.out.2;omega) hmokH.out.1 hmokH.out.2 one1 one2 hV.size
     have g14:∀ W,ql.r wc W→∀ i,W.cell? ⟨t14,i,none⟩=#[.int .i64 (lv:Int),.slice A9 ys.length c9,.int .i64 (pl:Int)][i]?:=fun W h=>qa (qb rc14 h)
     have gU:∀ W,ql.r wc W→∀ i,W.cell? ⟨w4.heap.size+1,i,none⟩=#[.slice Au ups.length cu][i]?:=fun W h=>qa (qb (qb rUH.out xc) h)
     have hw0:IntKind.i64.wrap (pl:Int)=(pl:Int):=by rw[IntKind.wrap_i64];have:=hWleH.out;have:=hWlH.out;omega
     have hw1:IntKind.i64.wrap ((pl:Int)+1)=(pl:Int)+1:=by rw[IntKind.wrap_i64];have:=hWleH.out;have:=hWlH.out;omega
     have hmyK:=hmyH
     replace hips:=zH hips
     replace hpsl:=zH hpsl
     have hmokP:=hmokH
     clear hmokH hmyK
     obtain⟨its,hits⟩:∃ its,its=Kq ys pl many ups:=⟨_,rfl⟩
     have hiE:ys.length-many+ups.length=its.length:=by
      rw[hits];unfold Kq;simp only[List.length_append,List.length_take,List.length_drop]
      have h3:=hWleH.out
      have h4:=hmokP.out.2
      omega
     have hil:its.length≤100∧0<its.length:=by
      rw[←hiE]
      have h5:=hWlH.out
      have h6:=hupH.out
      omega
     replace hiE:=zH hiE
     rcases hma with rfl|rfl
     all_goals
      gi_upto_region 14 with fail
      refine QZ ql (qF [(3,UX wc.heap.size ys.length (qQ ips))]) (List.replicate 11 true) 2 (JZ l') (by kernel_rfl) (by kernel_rfl) (by kernel_rfl) (by kernel_rfl) (by kernel_rfl) (by kernel_rfl) (by kernel_rfl) (by kernel_rfl) (by kernel_rfl) ?st (Rel.drew _ _) ?walk
      case st=>exact qk (by simp only[List.forall_mem_cons];exact⟨GP _ _ _,fun _ h=>by cases h⟩)
      case walk =>
       intro K hK
       dsimp only[qp,List.replicate]
       repeat ((first|(refine qe ?_ (by rfl) (by rfl) (fun W hW _=>⟨W,?_,Rel.refl _ W⟩) ?_;rotate_left;(go_simp<;>with_reducible rfl))|(refine qh (by rfl) ?_));try simp only[Act.put,qj,qf,qc,qg,Qo,Qu,Qc,Qp,zA,zB,zC])
       refine qy (UX wc.heap.size ys.length (qQ ips)) (by rfl) (by rfl) (fun W hW _=>?_) (fun p=>?_)
       ·have hW':Ext wc W:=hW
        refine Qg ?_ ((HCl.out W hW').mono fun e w' h=>?_)
        ·go_simp
        obtain⟨u,rfl,hu,hB⟩:=h
        obtain⟨Ac,cc,rfl,_,_⟩:=qv hu
        exact⟨(Ac,cc),rfl,QF hu hW'.size,hB⟩
       obtain⟨Ac,cc⟩:=p
       simp only[Act.put,qj,qf,qc,qg,Qo,Qu,Qc,Qp,zA,zB,zC]
       repeat ((first|(refine qe ?_ (by rfl) (by rfl) (fun W hW _=>⟨W,?_,Rel.refl _ W⟩) ?_;rotate_left;(go_simp<;>with_reducible rfl))|(refine qh (by rfl) ?_));try simp only[Act.put,qj,qf,qc,qg,Qo,Qu,Qc,Qp,zA,zB,zC])
       refine qt (hK _ _ fun V hV hF=>?_)
       have hoV:V.ownsRow wc.heap.size 68 5 (.slice Ac ys.length cc) ys.length (qQ ips):=(hF 3).1
       clear hF hK g14 gU
       have hV:Ext wc V:=hV
       dsimp only[List.drop,List.length_cons,List.length_nil,Nat.reduceAdd,Nat.reduceSub]
       have HR:=zH (HRp.out V Ac cc hV hoV)
       clear HRp HCl
       gi_wp2_with fail
       refine⟨trivial,(CallsIn.inRound _ (callsIn_wide.2 HR.out)).mono ?_⟩
       clear HR
       rintro e w9 ⟨v9,rfl,ho9,hB9,-⟩
       have x9:Ext wc w9:=Below.trans hV hB9
       have x19:Ext W' w9:=xc.trans x9
       clear hB9 hoV
       have hbc9:=Bch.ext hbcH.out x19
       obtain⟨hlb,-,hlg,-,-,-,hkq⟩:=hbc9.size
       have hB5:∀ q,B3 b g k' q→w5.heap.size≤q:=fun q hq=>by
        rcases hq with rfl|rfl|e
        ·exact hlb
        ·exact hlg
        ·exact(hkq q e).1
       rw[Ua,←TZ,←JC,←JC] at ho9
       have s35:w3.heap.size≤w5.heap.size:=(x34.trans x45).size
       have s25:w.heap.size≤w5.heap.size:=x5.size
       have hX9:=Vk.of_own (X:=B3 b g k') ho9 (by
        have h1:=hips.out
        have h2:=hpsl.out
        have h3:=hWleH.out
        have h4:=hmokP.out.2
        simp only[List.length_append,List.length_take,List.length_drop]
        omega) (fun q hq=>by
        obtain⟨cur,hc⟩:=ZF ho9 hq
        exact hbc9.notB3 hc (by decide) (by decide) (by decide)) (fun p hp=>by
        have hI:∀ p∈ips,(∃ A c,p.2=.slice A p.1.val.length c)∧∀ C,Qb (B3 b g k') w9 C→Bys C C.heap.size p.2 p.1.val:=fun p hp=>⟨(hieH.out.2 p hp).1,fun C hC=>(hieH.out.2 p hp).2 C ((hPWH.out.kx.trans (Qb.of_ext (X:=fun q=>q<w2.heap.size) x19) fun _ _ h=>h).trans hC fun q h1 h2=>by
         have:=hB5 q h2
         omega)⟩
        rcases List.mem_append.1 hp with hp|hp
        ·rcases List.mem_append.1 hp with hp|hp
         ·exact hI p (List.mem_of_mem_take hp)
         ·exact⟨(hpvH.out p hp).1,fun C hC=>((hpvH.out p hp).2).keepX ((Qb.of_ext (X:=B3 b g k') x19).trans hC fun _ _ h=>h) fun q h1 h2=>by
           have:=hB5 q h2
           omega⟩
        ·exact hI p (List.mem_of_mem_drop hp))
       have hrpl:∀ m,(List.map (·.1) (ips.take pl++hps'++ips.drop (pl+m)))=Kq ys pl m ups:=fun m=>by
        unfold Kq
        rw[List.map_append,List.map_append,List.map_take,List.map_drop,e11H.out,hhmH.out]
       rw[hrpl] at hX9
       clear hrpl
       obtain⟨A8,c8,rfl,-,-⟩:=qv ho9
       have hoU9:=zO hoUc.out fun q hq=>Below.block x9 q (QR hoUc.out q hq).2
       have hgap2:=hgap.out _ _ hgrH.out
       rw[←hits] at hX9 hgap2
       have hio:∀ y∈its,ZY y:=fun y hy=>by
        rw[hits] at hy
        unfold Kq at hy
        rcases List.mem_append.1 hy with hy|hy
        ·rcases List.mem_append.1 hy with hy|hy
         ·exact(hWiH.out y (List.mem_of_mem_take hy)).1
         ·exact(hupoH.out y hy).1
        ·exact(hWiH.out y (List.mem_of_mem_drop hy)).1
       have hioH:=zH hio
       have HBd:=zH (qbe D' w.heap.size w5.heap.size b g k' S' hS'H.out (lv:Int) A8 _ c8 its hio hil.2 hil.1 0 (.slice Au ups.length cu) hps' ups hhmH.out (fun p hp=>(hpvH.out p hp).1) (fun y hy=>(hupoH.out y hy).2) (by have:=hupH.out.2;omega) w9 hbc9 hX9 hoU9)
       rw[hiE.out] at HBd ⊢
       have hPW9:=zH (hPWc.out.ck (Qf.of_ext x9))
       have hr9:=qb rc14 x9
       have k14:=qa hr9
       have rU9:=qb rUH.out x19
       have kU:=qa rU9
       have kT:=qa hPW9.out.rT
       have k4:=qa hPW9.out.r4
       replace hits:=zH hits
       clear hX9 hio ho9 hieH hitH hitc hpvH hoUH hoUc hA rc14 hr14
       gi_wp2_with fail
       refine⟨trivial,(CallsIn.inRound _ (callsIn_wide.2 HBd.out)).mono ?_⟩
       clear HBd
       intro e w10 hbq
       obtain⟨hkb,hcase⟩:=hbq.split
       clear hbq
       have z10:=hkb.below.size
       have nB:∀ {q cs ty fr},w9.heap[q]?=some (.cells cs ty fr)→ty≠191→ty≠5→ty≠130→¬B3 b g k' q:=fun hr h1 h2 h3=>hbc9.notB3 hr h1 h2 h3
       have rU10:=hkb.row rU9 (nB rU9 (by decide) (by decide) (by decide))
       have rT10:=hkb.row hPW9.out.rT (nB hPW9.out.rT (by decide) (by decide) (by decide))
       have r410:=hkb.row hPW9.out.r4 (nB hPW9.out.r4 (by decide) (by decide) (by decide))
       have r310:=hkb.row hPW9.out.r3 (nB hPW9.out.r3 (by decide) (by decide) (by decide))
       have r210:=hkb.row hPW9.out.r2 (nB hPW9.out.r2 (by decide) (by decide) (by decide))
       have rx10:=hkb.row hPW9.out.rx (nB hPW9.out.rx (by decide) (by decide) (by decide))
       have rS10:=hkb.row hPW9.out.rS (nB hPW9.out.rS (by decide) (by decide) (by decide))
       have hko:=(KeepsOthers.of_ext x19).trans (hbc9.others hkb)
       have hB10:=(i4.trans (Below.mono x19 i4.size)).trans (Below.mono hkb.below s25)
       have hkx10:=hkb.keepX
       have hk7:=hkb.row hPW9.out.rS (nB hPW9.out.rS (by decide) (by decide) (by decide))
       have hkr:=fun q (h:q<w5.heap.size)=>hkb.rows q (by have:=hbc9.size.2.2.2.2.2.1;omega) fun hx=>by have:=hB5 q hx;omega
       have hkx9:=hPW9.out.kx
       clear hkb hPW9 rU9 kU kT k4 k14
       rcases hcase with ⟨er,hbx,rfl⟩|⟨up2,S2,k2,D2,A2',c2',hbx,rfl,hNk,hND,hbc10,hS2,hown10⟩
       ·have hga:=zH (hgap2.trans hbx.out)
        have hne0:(er != 0)=true:=by rw[bne_iff_ne];exact kH hbx.out
        have kU10:=qa rU10
        have k410:=qa r410
        have fU10:=qd rU10
        have f410:=qd r410
        replace hko:=zH hko
        replace hB10:=zH hB10
        clear hgap2 hkx10 hk7 hkr hkx9 nB hbx rT10 rx10 rS10 hbc9
        gi_upto_region 17 with fail
        generalize hw11:World.setCell (World.setCell w10 _ _) _ _=w11
        obtain⟨t1,t2,t3,t4,t5,t6⟩:=To (C:=w11) rU10 r410 (by omega) hw11.symm
        clear hw11 kU10 k410 fU10 f410
        have gE:∀ W,ql.r w11 W→∀ i,W.cell? ⟨w.heap.size+1+1+1+1,i,none⟩=#[.int .i64 er][i]?:=fun W h=>qa (qb t2 h)
        have q2:=(t3 (w.heap.size+2) (by omega) (by omega)).trans r210
        have q3:=(t3 (w.heap.size+3) (by omega) (by omega)).trans r310
        refine QZ ql (qF [(2,Zu),(3,Zu)]) (List.replicate 4 true) 1 (JZ l') (by kernel_rfl) (by kernel_rfl) (by kernel_rfl) (by kernel_rfl) (by kernel_rfl) (by kernel_rfl) (by kernel_rfl) (by kernel_rfl) (by kernel_rfl) ?st (Rel.drew _ _) ?walk
        case st=>exact qk (by simp only[List.forall_mem_cons];exact⟨Zh,Zh,fun _ h=>by cases h⟩)
        case walk =>
         intro K hK
         dsimp only[qp,List.replicate]
         repeat ((first|(refine qe ?_ (by rfl) (by rfl) (fun W hW _=>⟨W,?_,Rel.refl _ W⟩) ?_;rotate_left;(go_simp<;>with_reducible rfl))|(refine qh (by rfl) ?_));try simp only[Act.put,qj,qf,qc,qg,Qo,Qu,Qc,Qp,zA,zB,zC])
         refine qy Zu (by rfl) (by rfl) (fun V hV _=>?_) (fun (p:Unit)=>?_)
         ·have hV:Ext w11 V:=hV
          have q8:=qb q2 hV
          have k8:=qa q8
          have f8:=qd q8
          have z8:=(zG.1 q8).1
          refine jq ?_ (same4 q8)
          go_simp
         simp only[Act.put,qj,qf,qc,qg,Qo,Qu,Qc,Qp,zA,zB,zC]
         repeat ((first|(refine qe ?_ (by rfl) (by rfl) (fun W hW _=>⟨W,?_,Rel.refl _ W⟩) ?_;rotate_left;(go_simp<;>with_reducible rfl))|(refine qh (by rfl) ?_));try simp only[Act.put,qj,qf,qc,qg,Qo,Qu,Qc,Qp,zA,zB,zC])
         refine qy Zu (by rfl) (by rfl) (fun V hV _=>?_) (fun (p:Unit)=>?_)
         ·have hV:Ext w11 V:=hV
          have q8:=qb q3 hV
          have k8:=qa q8
          have f8:=qd q8
          have z8:=(zG.1 q8).1
          refine jq ?_ (same1 q8)
          go_simp
         simp only[Act.put,qj,qf,qc,qg,Qo,Qu,Qc,Qp,zA,zB,zC]
         repeat ((first|(refine qe ?_ (by rfl) (by rfl) (fun W hW _=>⟨W,?_,Rel.refl _ W⟩) ?_;rotate_left;(go_simp<;>with_reducible rfl))|(refine qh (by rfl) ?_));try simp only[Act.put,qj,qf,qc,qg,Qo,Qu,Qc,Qp,zA,zB,zC])
         refine qt (hK _ _ fun V hV hF=>?_)
         clear hF hK gE
         have hV:Ext w11 V:=hV
         dsimp only[List.drop,List.length_cons,List.length_nil,Nat.reduceAdd,Nat.reduceSub]
         have q2V:=qb q2 hV
         have q3V:=qb q3 hV
         have q4V:=qb t2 hV
         have kc:=qa q2V
         have kd:=qa q3V
         have ke:=qa q4V
         have fc:=qd q2V
         have fd:=qd q3V
         have fe:=qd q4V
         have zV:=hV.size
         have z11:w.heap.size+4<w11.heap.size:=(zG.1 t2).1
         have zc:w.heap.size+1+1<V.heap.size:=by omega
         have zd:w.heap.size+1+1+1<V.heap.size:=by omega
         have ze:w.heap.size+1+1+1+1<V.heap.size:=by omega
         gi_wp2_with fail
         have hV2:=hV.trans (same1 q4V)
         exact⟨((hko.out.trans t5).trans (KeepsOthers.of_ext hV2)).from _,⟨er,_,rfl,hga.out,⟨qb q2 hV2,qb q3 hV2,qb t2 hV2⟩,Qf.refl _⟩,(t6 (by omega) (by omega) hB10.out).trans (Below.mono hV2 (by omega))⟩
       ·have hga:=zH (hgap2.trans hbx.out)
        obtain⟨-,hupl,hupy⟩:=kI hioH.out (fun y hy=>(hupoH.out y hy).2) hS'H.out hbx.out
        have kU10:=qa rU10
        have k410:=qa r410
        have fU10:=qd rU10
        have f410:=qd r410
        replace hko:=zH hko
        replace hB10:=zH hB10
        have hKS:=zH (rS10.trans hPWH.out.rS.symm)
        have zW7:w7.heap.size<W'.heap.size:=(zG.1 hPWH.out.rS).1
        have z67:=x67.size
        have z19:=x19.size
        have hKb:=zH ((hkr b2 (by omega)).trans (x19.block b2 (by omega)))
        replace hupl:=zH hupl
        replace hupy:=zH hupy
        replace hbc10:=zH hbc10
        replace hown10:=zH hown10
        replace hkx9:=zH (hkx9.trans hkx10 fun q hq hx=>by have:=hB5 q hx;omega)
        have hBq:=zH hB5
        clear hgap2 hkx10 hk7 hkr nB hbx hbc9 hB5 hPWH hPWc
        gi_wp2_with fail
        generalize hw11:World.setCell (World.setCell w10 _ _) _ _=w11
        obtain⟨t1,t2,t3,t4,t5,t6⟩:=To (C:=w11) rU10 r410 (by omega) hw11.symm
        clear hw11 kU10 k410 fU10 f410
        refine⟨(hko.out.trans t5).from _,⟨(t3 _ (by omega) (by omega)).trans hKS.out,(t3 _ (by omega) hne4).trans hKb.out⟩,⟨w11,?_,Qf.refl _⟩,t6 (by omega) (by omega) hB10.out⟩
        refine⟨⟨up2,S2,k2,D2,A2',c2',upV up2,hga.out,hS2.out,hupl.out.1,hupl.out.2,?_,fun y hy=>⟨(hupy.out y hy).1,.inr (hupy.out y hy).2.1.1,(hupy.out y hy).2.1.2⟩,fun p hp=>?_,t1,zO (QF hown10.out (Nat.zero_le _)) (fun q hq=>t3 q ?_ ?_),hbc10.out.kept (t6 (by omega) (by omega) (Below.refl _ _)) fun q h _=>t3 q (by omega) (by omega)⟩,(t3 _ (by omega) (by omega)).trans rx10,(t3 _ (by omega) (by omega)).trans r210,(t3 _ (by omega) (by omega)).trans r310,t2,(t3 _ (by omega) (by omega)).trans rT10,(t3 _ (by omega) (by omega)).trans rS10,?_⟩
        ·unfold upV;rw[List.map_map];exact List.map_id' _
        ·obtain⟨y,hy,rfl⟩:=List.mem_map.1 hp
         have hv:=(hupy.out y hy).2.2
         simp only[hv]
         exact⟨⟨none,0,rfl⟩,none,0,rfl,zM _,by unfold maxLen;omega,Rd.none_⟩
        ·have:=(QR hown10.out q hq).1;omega
        ·have:=(QR hown10.out q hq).1;omega
        ·exact hkx9.out.trans (Qb.of_heap (X:=fun q=>q=w4.heap.size+1∨q=w.heap.size+4) fun k _ hX=>t3 k (fun e=>hX (.inl e)) fun e=>hX (.inr e)) fun k hk hx=>by omega
   case done =>
    rintro D ys W hD hys ⟨⟨Wb,hPI,hck⟩,i4⟩ hK
    subst hact
    have hPW:=hPI.ck hck
    obtain⟨ups,S',k',D',Au,cu,hps',hgr,hS',hup0,hup2,hhm,hupo,hpv,hrU,hoU,hbc⟩:=hPW.ex
    rw[hys,hul,qeA l l.length (zM _),List.take_of_length_le (by simp)] at hgr
    have hpre3:Hid (TK S lvl xs x=if 1<ups.length then QW S' ((l.length:Nat):Int) ups ups else .ok (ups,S')):=zH (by rw[hpre2.out,hgr])
    clear hpre2 hgr
    have hbel:=i4
    have z8:=x8.size
    have zz8:w.heap.size+4<w8.heap.size:=(zG.1 hI0.out.r4).1
    have zUW:w4.heap.size+1<W.heap.size:=(zG.1 hrU).1
    have kU:=qa hrU
    have kT:=qa hPW.rT
    have hcc:=(qv hoU)
    replace hbc:=zH hbc
    replace hoU:=zH hoU
    replace hhm:=zH hhm
    replace hpv:=zH hpv
    replace hupo:=zH hupo
    replace hS':=zH hS'
    replace hup2:=zH (And.intro hup0 hup2)
    have rW2:=hPW.r2
    have rW3:=hPW.r3
    have rW4:=hPW.r4
    have rWT:=hPW.rT
    replace hys:=zH hys
    clear hup0 hPW hPI hck hitm hcc
    go_upto_if 98 with fail
    go_cut [] from 96 (fun wx=>PutD (TK S lvl xs x) w.heap.size w5.heap.size b g (w4.heap.size+1) w6.heap.size D w wx)
    case first =>
     by_cases h2:1<ups.length
     case neg =>
      have e1:decide ((1:Int)<(ups.length:Int))=false:=decide_eq_false (by omega)
      have e2:decide (1<ups.length)=false:=decide_eq_false h2
      have e3:¬((1:Int)<(ups.length:Int)):=by omega
      have e4:(ups.length:Int)≤1:=by omega
      have hq3:=zH (show TK S lvl xs x=.ok (ups,S') by rw[hpre3.out,if_neg h2])
      replace h2:=zH h2
      go_wp2_with fail
      go_meet
      case rel=>exact⟨⟨ups,S',k',D',Au,cu,hps',hq3.out,hS'.out,hup2.out.1,hhm.out,hrU,hoU.out,hbc.out,fun y hy=>(hupo.out y hy).2⟩,rW2,rW3,rW4,rWT,hK,hbel⟩
     case pos =>
      have e1:decide ((1:Int)<(ups.length:Int))=true:=decide_eq_true (by omega)
      have e2:decide (1<ups.length)=true:=decide_eq_true h2
      have e3:(1:Int)<(ups.length:Int):=by omega
      have e4:¬(ups.length:Int)≤1:=by omega
      have hq3:=zH (show TK S lvl xs x=QW S' ((l.length:Nat):Int) ups ups by rw[hpre3.out,if_pos h2])
      have hpl:hps'.length=ups.length:=by rw[←hhm.out,List.length_map]
      have hnb:∀ q,(Value.slice Au ups.length cu).ownBlock=some q→¬B3 b g k' q:=fun q hq=>by
       obtain⟨cur,hc⟩:=ZF hoU.out hq
       exact hbc.out.notB3 hc (by decide) (by decide) (by decide)
      have hB5:∀ q,B3 b g k' q→w5.heap.size≤q:=fun q hq=>(hbc.out.b3 q hq).1
      have hX:=Vk.of_own (X:=B3 b g k') hoU.out hpl hnb (fun p hp=>⟨(hpv.out p hp).1,fun C hC=>(hpv.out p hp).2.keepX hC fun q h1 hq=>by have:=hB5 q hq;omega⟩)
      rw[hhm.out] at hX
      have HBd:=zH (qbe D' w.heap.size w5.heap.size b g k' S' hS'.out ((l.length:Nat):Int) Au _ cu ups (fun y hy=>(hupo.out y hy).1) hup2.out.1 (by have:=hup2.out.2;omega) 0 (.slice Au ups.length cu) hps' ups hhm.out (fun p hp=>(hpv.out p hp).1) (fun y hy=>(hupo.out y hy).2) (by have:=hup2.out.2;omega) W hbc.out hX hoU.out)
      replace h2:=zH h2
      clear hX hpl
      go_wp2_with fail
      refine HBd.out.mono ?_
      clear HBd
      intro e w10 hbq
      obtain⟨hkb,hcase⟩:=hbq.split
      clear hbq
      have nB:∀ {q cs ty fr},W.heap[q]?=some (.cells cs ty fr)→ty≠191→ty≠5→ty≠130→¬B3 b g k' q:=fun hr h1 h2 h3=>hbc.out.notB3 hr h1 h2 h3
      have rU10:=hkb.row hrU (nB hrU (by decide) (by decide) (by decide))
      have rT10:=hkb.row rWT (nB rWT (by decide) (by decide) (by decide))
      have r410:=hkb.row rW4 (nB rW4 (by decide) (by decide) (by decide))
      have r310:=hkb.row rW3 (nB rW3 (by decide) (by decide) (by decide))
      have r210:=hkb.row rW2 (nB rW2 (by decide) (by decide) (by decide))
      have hK10:=(hbc.out.others hkb).same D _ hK rfl
      have s25:w.heap.size≤w5.heap.size:=x5.size
      have hB10:=hbel.trans (Below.mono hkb.below s25)
      have kU10:=qa rU10
      have k410:=qa r410
      have fU10:=qd rU10
      have f410:=qd r410
      have zU:w4.heap.size+1≠w.heap.size+4:=by have:=z8;omega
      have zz:w.heap.size+4<D:=by omega
      replace hB10:=zH hB10
      clear kU kT nB hkb hbel
      rcases hcase with ⟨er,hbx,rfl⟩|⟨up2,S2,k2,D2,A2',c2',hbx,rfl,hNk,hND,hbc10,hS2,hown10⟩
      ·have hqe:=zH (show q=.error er by rw[hq2.out,hq3.out,hbx.out])
       have hne0:(er != 0)=true:=by rw[bne_iff_ne];exact kH hbx.out
       clear hbx hq3 hq2
       go_upto_region 21 with fail
       generalize hw11:World.setCell (World.setCell w10 _ _) _ _=w11
       obtain⟨t1,t2,t3,t4,t5,t6⟩:=To (C:=w11) rU10 r410 zU hw11.symm
       clear hw11 kU10 k410 fU10 f410
       have gE:∀ W,ql.r w11 W→∀ i,W.cell? ⟨w.heap.size+1+1+1+1,i,none⟩=#[.int .i64 er][i]?:=fun W h=>qa (qb t2 h)
       have q2:=(t3 (w.heap.size+2) (by omega) (by omega)).trans r210
       have q3:=(t3 (w.heap.size+3) (by omega) (by omega)).trans r310
       have qK:=t5.same D _ hK10 rfl
       refine qo (by kernel_rfl) ?_
       refine qO (w:=w11) ql (qF [(2,Zu),(3,Zu)]) (List.replicate 4 true) 1 (by kernel_rfl) (by kernel_rfl) (by kernel_rfl) (by kernel_rfl) (by kernel_rfl) (by kernel_rfl) (by kernel_rfl) ?st (Rel.drew _ _) ?walk
       case st=>exact qk (by simp only[List.forall_mem_cons];exact⟨Zh,Zh,fun _ h=>by cases h⟩)
       case walk =>
        intro K hK
        dsimp only[qp,List.replicate]
        repeat ((first|(refine qe ?_ (by rfl) (by rfl) (fun W hW _=>⟨W,?_,Rel.refl _ W⟩) ?_;rotate_left;(go_simp<;>with_reducible rfl))|(refine qh (by rfl) ?_));try simp only[Act.put,qj,qf,qc,qg,Qo,Qu,Qc,Qp,zA,zB,zC])
        refine qy Zu (by rfl) (by rfl) (fun V hV _=>?_) (fun (p:Unit)=>?_)
        ·have hV:Ext w11 V:=hV
         have q8:=qb q2 hV
         have k8:=qa q8
         have f8:=qd q8
         have z8:=(zG.1 q8).1
         refine jq ?_ (same4 q8)
         go_simp
        simp only[Act.put,qj,qf,qc,qg,Qo,Qu,Qc,Qp,zA,zB,zC]
        repeat ((first|(refine qe ?_ (by rfl) (by rfl) (fun W hW _=>⟨W,?_,Rel.refl _ W⟩) ?_;rotate_left;(go_simp<;>with_reducible rfl))|(refine qh (by rfl) ?_));try simp only[Act.put,qj,qf,qc,qg,Qo,Qu,Qc,Qp,zA,zB,zC])
        refine qy Zu (by rfl) (by rfl) (fun V hV _=>?_) (fun (p:Unit)=>?_)
        ·have hV:Ext w11 V:=hV
         have q8:=qb q3 hV
         have k8:=qa q8
         have f8:=qd q8
         have z8:=(zG.1 q8).1
         refine jq ?_ (same1 q8)
         go_simp
        simp only[Act.put,qj,qf,qc,qg,Qo,Qu,Qc,Qp,zA,zB,zC]
        repeat ((first|(refine qe ?_ (by rfl) (by rfl) (fun W hW _=>⟨W,?_,Rel.refl _ W⟩) ?_;rotate_left;(go_simp<;>with_reducible rfl))|(refine qh (by rfl) ?_));try simp only[Act.put,qj,qf,qc,qg,Qo,Qu,Qc,Qp,zA,zB,zC])
        refine qt (hK _ _ fun V hV hF=>?_)
        clear hF hK gE
        have hV:Ext w11 V:=hV
        dsimp only[List.drop,List.length_cons,List.length_nil,Nat.reduceAdd,Nat.reduceSub]
        have q4V:=qb t2 hV
        have ke:=qa q4V
        have fe:=qd q4V
        have ze:w.heap.size+1+1+1+1<V.heap.size:=(zG.1 q4V).1
        go_wp2
        refine Qm ?_
        go_wp2_with fail
        have hV2:=hV.trans (same1 q4V)
        have z11:w.heap.size+4<w11.heap.size:=(zG.1 t2).1
        have qKV:=qb qK hV2
        exact Tg rfl rfl rfl rfl qKV zz (qb q2 hV2) (qb q3 hV2) (qb t2 hV2) ⟨_,rfl,by rw[hqe.out];rfl,((t6 (by omega) (by omega) hB10.out).trans (Below.mono hV2 (by omega))).trans (belowK_b (w:=w) (zM _) _ D _ _ (by omega) qKV rfl rfl)⟩
      ·have hq4:=zH (hq3.out.trans hbx.out)
       obtain⟨-,hupl,hupy⟩:=kI (fun y hy=>(hupo.out y hy).1) (fun y hy=>(hupo.out y hy).2) hS'.out hbx.out
       replace hupl:=zH hupl
       replace hupy:=zH hupy
       replace hbc10:=zH hbc10
       replace hown10:=zH hown10
       clear hbx hq3
       go_wp2_with fail
       go_meet
       case rel =>
        generalize hw11:World.setCell (World.setCell w10 _ _) _ _=w11
        obtain⟨t1,t2,t3,t4,t5,t6⟩:=To (C:=w11) rU10 r410 zU hw11.symm
        clear hw11
        have zT:w6.heap.size≠w4.heap.size+1∧w6.heap.size≠w.heap.size+4:=by have:=x45.size;omega
        have zlo:w4.heap.size+1<w5.heap.size:=by omega
        refine⟨⟨up2,S2,k2,D2,A2',c2',upV up2,hq4.out,hS2.out,hupl.out.1,?_,t1,zO (QF hown10.out (Nat.zero_le _)) (fun q hq=>t3 q ?_ ?_),hbc10.out.kept (t6 (by omega) (by omega) (Below.refl _ _)) fun q h _=>t3 q (by omega) (by omega),fun y hy=>⟨.inr (hupy.out y hy).2.1.1,(hupy.out y hy).2.1.2⟩⟩,(t3 _ (by omega) (by omega)).trans r210,(t3 _ (by omega) (by omega)).trans r310,t2,(t3 _ zT.1 zT.2).trans rT10,t5.same D _ hK10 rfl,t6 (by omega) (by omega) hB10.out⟩
        ·unfold upV;rw[List.map_map];exact List.map_id' _
        ·have:=(QR hown10.out q hq).1;omega
        ·have:=(QR hown10.out q hq).1;have:=(zG.1 rW4).1;omega
    case rest =>
     obtain⟨⟨ups,S',k',D',Au,cu,hps',hq3,hS',hup0,hhm,hrU,hoU,hbc,hupr⟩,rW2,rW3,rW4,rWT,hK,hbel⟩:=hcut
     have HL:=zH (Gg D' w.heap.size w5.heap.size b g k' S' hS' a ha ha2 wc hbc)
     have hq5:=zH (show q=match QH S' (-1) S'.now a with
      |none=>.error 8
      |some t=>.ok (Kh ups,qw S' t) by rw[hq2.out,hq3] <;> rfl)
     have kT:=qa rWT
     replace hq3:=zH hq3
     replace hhm:=zH hhm
     replace hoU:=zH hoU
     replace hbc:=zH hbc
     replace hupr:=zH hupr
     go_wp2_with fail
     refine HL.out.mono ?_
     clear HL
     rintro e w10 ⟨hkb,hcase⟩
     have nB:∀ {q cs ty fr},wc.heap[q]?=some (.cells cs ty fr)→ty≠191→ty≠5→ty≠130→¬B3 b g k' q:=fun hr h1 h2 h3=>hbc.out.notB3 hr h1 h2 h3
     have rU10:=hkb.row hrU (nB hrU (by decide) (by decide) (by decide))
     have rT10:=hkb.row rWT (nB rWT (by decide) (by decide) (by decide))
     have r410:=hkb.row rW4 (nB rW4 (by decide) (by decide) (by decide))
     have r310:=hkb.row rW3 (nB rW3 (by decide) (by decide) (by decide))
     have r210:=hkb.row rW2 (nB rW2 (by decide) (by decide) (by decide))
     have hK10:=(hbc.out.others hkb).same D _ hK rfl
     have s25:w.heap.size≤w5.heap.size:=x5.size
     have hB10:=hbel.trans (Below.mono hkb.below s25)
     have hoU10:=hkb.own hoU.out (fun q hq=>by
      obtain⟨cur,hc⟩:=ZF hoU.out hq
      exact nB hc (by decide) (by decide) (by decide))
     have zz:w.heap.size+4<D:=by have:=z8;omega
     have z10:w.heap.size+4<w10.heap.size:=(zG.1 r410).1
     have zlo:w.heap.size+4<w5.heap.size:=by omega
     replace hB10:=zH hB10
     clear nB hkb hbel kT hrU rWT rW4 rW3 rW2 hK hoU
     rcases hlv:QH S' (-1) S'.now a with _|t
     ·rw[hlv] at hcase
      obtain rfl:=hcase
      have hqe:=zH (show q=.error 8 by rw[hq5.out,hlv])
      have kc:=qa r210
      have kd:=qa r310
      have ke:=qa r410
      have fc:=qd r210
      have fd:=qd r310
      have fe:=qd r410
      replace hlv:=zH hlv
      clear hq5
      go_wp2_with fail
      obtain⟨g4,g5,g6,hb,-,hk,-⟩:=GV r210 r310 r410 rfl
      have qK:=(hk D (by omega)).trans hK10
      exact Tg rfl rfl rfl rfl qK zz g4 g5 g6 ⟨_,rfl,by rw[hqe.out];rfl,(hb (by omega) hB10.out).trans (belowK_b (w:=w) (zM _) _ D _ _ (by omega) qK rfl rfl)⟩
     ·rw[hlv] at hcase
      obtain⟨rfl,hbc10⟩:=hcase
      have hqe:=zH (show q=.ok (Kh ups,qw S' t) by rw[hq5.out,hlv])
      have hsh:Xx (qw S' t):=QY (UT hS' (kZ ha (qz.1 hS').2.1 hlv))
      replace hlv:=zH hlv
      clear hq5
      go_upto_region 25 with fail
      obtain⟨bu,ou,rfl,hbu,hcu⟩:=(Rd.of_own hoU10).2 hup0
      obtain⟨cur,hcur⟩:=ZF hoU10 (q:=bu) rfl
      have hbu2:bu≠w.heap.size+2:=qJ hcur r210 (by decide)
      have hpl:0<hps'.length:=by have:=congrArg List.length hhm.out;rw[List.length_map] at this;omega
      have hcr:w10.cell? ⟨bu,ou+3,none⟩=some (.int .i64 (Kh ups:Int)):=by
       obtain⟨-,-,-,g3,-⟩:=vG hps' 0 hpl
       have h1:=hcu _ _ g3
       have h2:hps'[0].1.r=(Kh ups:Int):=by
        obtain⟨y,ys,hy⟩:∃ y ys,ups=y :: ys:=by
         cases ups with
         |nil=>simp at hup0
         |cons y ys=>exact⟨y,ys,rfl⟩
        have h3:hps'[0].1=y:=by
         have h4:(hps'.map (·.1))[0]?=ups[0]?:=by rw[hhm.out]
         rw[List.getElem?_map,zL hpl,hy] at h4
         simpa using h4
        have h5:=hupr.out y (by rw[hy];exact List.mem_cons_self)
        rw[h3,hy]
        show y.r=((y.r.toNat:Nat):Int)
        omega
       rw[h2] at h1
       exact h1
      have hHS:=zH (fun W (h:(Jw (w.heap.size+2) 28 (ZN w10.heap.size (qw S' t)) (ZN.keep (by omega))).r w10 W)=>by
       have h1:=hbc10.kept (Tl h (B0:=w.heap.size) (by omega) (by omega)) (fun q h1 h2=>Tm h h2 (by omega))
       obtain⟨A1,n1,c1,A2,n2,c2,c3,A4,c4,hr,hs⟩:=h1.sto
       exact kG b A1 n1 c1 A2 n2 c2 _ _ c3 A4 _ c4 (qw S' t) hsh W hr hs)
      have hlo2:w.heap.size+2<w10.heap.size:=by omega
      obtain⟨RR,hRR⟩:∃ RR:Rel,RR=Jw (w.heap.size+2) 28 (ZN w10.heap.size (qw S' t)) (ZN.keep hlo2):=⟨_,rfl⟩
      replace hRR:=zH hRR
      obtain⟨SF,hSF⟩:∃ SF,qw S' t=SF:=⟨_,rfl⟩
      rw[hSF] at hqe hbc10 hsh hHS hRR
      replace hSF:=zH hSF
      obtain⟨rF,hrF⟩:∃ rF,Kh ups=rF:=⟨_,rfl⟩
      rw[hrF] at hqe hcr
      have gT:∀ W,RR.r w10 W→∀ i,W.cell? ⟨w6.heap.size,i,none⟩=#[.pointer (some ⟨b,0,none⟩)][i]?:=fun W h=>qa (Vc (hRR.out ▸ h) (by omega) rT10)
      have gU:∀ W,RR.r w10 W→∀ i,W.cell? ⟨w4.heap.size+1,i,none⟩=#[.slice (some ⟨bu,ou,none⟩) ups.length cu][i]?:=fun W h=>qa (Vc (hRR.out ▸ h) (by omega) rU10)
      have gC:∀ W,RR.r w10 W→W.cell? ⟨bu,ou+3,none⟩=some (.int .i64 (rF:Int)):=fun W h=>by
       have h:(Jw _ _ _ _).r w10 W:=hRR.out ▸ h
       exact World.grownBy.cell h.1 hcr (fun x=>hbu2 (by simpa using x))
      have hup0H:=zH hup0
      have hupC:(0:Int)<(ups.length:Int):=by omega
      clear hcur hcu hcr hpl hhm hupr hoU10 hrF
      refine qo (by kernel_rfl) ?_
      refine qO (w:=w10) RR (qF [(1,outTw w10.heap.size SF),(6,Ys (w.heap.size+2) 28 (ZN w10.heap.size SF))]) (List.replicate 7 true) 2 (by kernel_rfl) (by kernel_rfl) (by kernel_rfl) (by kernel_rfl) (by kernel_rfl) (by kernel_rfl) (by kernel_rfl) ?st (Rel.drew _ _) ?walk
      case st=>rw[hRR.out];exact qk (by simp only[List.forall_mem_cons];exact⟨qaM hlo2,GQ,fun _ h=>by cases h⟩)
      case walk =>
       intro K hK
       dsimp only[qp,List.replicate]
       repeat ((first|(refine qe ?_ (by rfl) (by rfl) (fun W hW _=>⟨W,?_,Rel.refl _ W⟩) ?_;rotate_left;(go_simp<;>with_reducible rfl))|(refine qh (by rfl) ?_));try simp only[Act.put,qj,qf,qc,qg,Qo,Qu,Qc,Qp,zA,zB,zC])
       refine qy (outTw w10.heap.size SF) (by rfl) (by rfl) (fun W hW _=>?_) (fun p=>?_)
       ·rw[hRR.out] at hW ⊢
        refine Qg ?_ ((hHS.out W hW).mono fun e w' h=>?_)
        ·go_simp
        obtain⟨v,rfl,hT,hB⟩:=h
        obtain⟨BB,WW,gg,A3',c3',A4',c4',rfl,-⟩:=id hT
        exact⟨((BB,WW),(A3',c3'),(A4',c4')),rfl,QC.keep hT hW.1.size (zM _) (fun _ _ _=>rfl),qgi hB⟩
       obtain⟨⟨BB,WW⟩,⟨A3',c3'⟩,⟨A4',c4'⟩⟩:=p
       simp only[Act.put,qj,qf,qc,qg,Qo,Qu,Qc,Qp,zA,zB,zC]
       repeat ((first|(refine qe ?_ (by rfl) (by rfl) (fun W hW _=>⟨W,?_,Rel.refl _ W⟩) ?_;rotate_left;(go_simp<;>with_reducible rfl))|(refine qh (by rfl) ?_));try simp only[Act.put,qj,qf,qc,qg,Qo,Qu,Qc,Qp,zA,zB,zC])
       refine qy (Ys (w.heap.size+2) 28 (ZN w10.heap.size SF)) (by rfl) (by rfl) (fun W hW hp=>?_) (fun (p:Unit)=>?_)
       ·have hT:QC w10.heap.size SF (qX (some ⟨BB,0,none⟩) SF.bs.length SF.bs.length (some ⟨WW,0,none⟩) SF.ws.length (SF.ws.length+1) A3' SF.now.length c3' A4' SF.last.length c4') W:=(hp 1 (by decide)).1
        rw[hRR.out] at hW ⊢
        have hr0:=twin_own hlo2 hW r210
        obtain⟨u0,u1,u2,u3,q8⟩:=id hr0
        have k8:=qa q8
        have f8:=qd q8
        have z8:=(zG.1 q8).1
        refine qdL hlo2 hr0 hT ?_
        clear hT hr0
        go_simp
       simp only[Act.put,qj,qf,qc,qg,Qo,Qu,Qc,Qp,zA,zB,zC]
       repeat ((first|(refine qe ?_ (by rfl) (by rfl) (fun W hW _=>⟨W,?_,Rel.refl _ W⟩) ?_;rotate_left;(go_simp<;>with_reducible rfl))|(refine qh (by rfl) ?_));try simp only[Act.put,qj,qf,qc,qg,Qo,Qu,Qc,Qp,zA,zB,zC])
       refine qt (hK _ _ fun V hV hF=>?_)
       have hRT:∃ cs,V.heap[w.heap.size+2]?=some (.cells cs 28 (0,0))∧ZN w10.heap.size SF cs V:=(hF 6).1
       clear hF hK gT gU gC hHS
       rw[hRR.out] at hV
       obtain⟨cs,q2,x0,x1,x2,x3,rfl,hTw⟩:=hRT
       have q3:=Vc hV (show w.heap.size+3≠w.heap.size+2 by omega) r310
       have q4:=Vc hV (show w.heap.size+4≠w.heap.size+2 by omega) r410
       have qK:=Vc hV (show D≠w.heap.size+2 by omega) hK10
       have xV:=Tl hV (B0:=w.heap.size) (by omega) (by omega)
       have zV:=hV.1.size
       have kd:=qa q3
       have ke:=qa q4
       have fd:=qd q3
       have fe:=qd q4
       have zd:w.heap.size+1+1+1<V.heap.size:=by omega
       have ze:w.heap.size+1+1+1+1<V.heap.size:=by omega
       replace hTw:=zH hTw
       clear hV hRR
       dsimp only[List.drop,List.length_cons,List.length_nil,Nat.reduceAdd,Nat.reduceSub]
       go_wp2
       refine Qm ?_
       go_wp2_with fail
       generalize hwf:World.setCell (World.setCell V _ _) _ _=wf
       obtain⟨t1,t2,t3,t4,t5,t6⟩:=To (C:=wf) q3 q4 (by omega) hwf.symm
       clear hwf
       have qKf:=t5.same D _ qK rfl
       refine Tg rfl rfl rfl rfl qKf zz ((t3 _ (by omega) (by omega)).trans q2) t1 t2 ⟨_,rfl,?_,(t6 (by omega) (by omega) (hB10.out.trans xV)).trans (belowK_b (w:=w) (zM _) _ D _ _ (by omega) qKf rfl rfl)⟩
       rw[hqe.out]
       refine⟨_,rfl,QC.keep hTw.out (by omega) (by simp[World.putObj,t4]) fun k h1 h2=>?_⟩
       exact(World.putObj_heap_other (by have:=(zG.1 hK10).1;omega)).trans (t3 k (by omega) (by omega))
   case stop =>
    rintro D cc pre W hD ⟨kk,hkk,rfl⟩ ⟨⟨er,Wb,rfl,hgx,⟨g4,g5,g6⟩,hCK⟩,hB⟩ hK
    rw[hul] at hkk hgx
    rw[qeA l kk hkk] at hgx
    have hqe:=zH (show q=.error er by rw[hq2.out,hpre2.out,qfy hgx])
    subst hact
    have z3:=x38.size
    have z2:=x23.size
    have zz:w.heap.size+4<w8.heap.size:=(zG.1 hI0.out.r4).1
    gi_wp2_with fail
    have hbel:Below w.heap.size w (W.putObj D (.deferred none)):=hB.trans (belowK_b (w:=w) (zM _) W D _ _ (by omega) hK rfl rfl)
    exact Tg rfl rfl rfl rfl hK (by omega) (hCK.row g4) (hCK.row g5) (hCK.row g6) ⟨_,rfl,by rw[hqe.out];rfl,hbel⟩
end Go.Proofs.YtpbniokljofedaaGreat
