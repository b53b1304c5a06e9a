/- scionrylaw14.ForestNames is true; it has no arguments and no condition. -/
import Derived.Test.YtpbniokljofedaaGreatZA18
import Derived.Test.YtpbniokljofedaaGreatZA20
import Derived.Test.YtpbniokljofedaaGreatZA23
import Derived.Test.YtpbniokljofedaaGreatZA28
set_option linter.unusedSimpArgs false
set_option linter.unusedVariables false
namespace Go.Proofs.YtpbniokljofedaaGreat
open Go.RowKit
theorem qdt {R:Ending→World→Prop} {a:Act} {W:World} {b:Nat} {x0 x1 x2 x3 x4 x5 x6 x7 v:Value} (h4:a.tmps[4]?.getD undef=.pointer (some ⟨b,0,none⟩)) (h5:a.tmps[5]?.getD undef=v) (hd:a.defers=[])
  (hrow:W.heap[b]?=some (.cells #[x0,x1,x2,x3,x4,x5,x6,x7] 32 (0,0))) (hR:R (.returned (.tuple #[.agg #[x0,x1,x2,x3,x4,x5,x6,x7],v])) W):bodyPost Tryz.prog Tryz.f25 R .ret a W:=by
 refine bodyPost_ret (v:=.tuple #[.agg #[x0,x1,x2,x3,x4,x5,x6,x7],v]) ?_ hd hR
 have k:=qa hrow
 simp[results,Tryz.results25,go_sem,h4,h5,k]
set_option maxHeartbeats 4000000 in
set_option maxRecDepth 100000 in
theorem qdn (A1:Option Addr) (n1 c1:Nat) (A2:Option Addr) (n2 c2:Nat) (A3:Option Addr) (n3 c3:Nat) (A4:Option Addr) (n4 c4:Nat) (gen root next:Int) (A5:Option Addr) (c5:Nat) (S:Sto) (dead:List Int) (id:Int) (w:World)
  (h:Qc w w.heap.size (.slice A1 n1 c1) (.slice A2 n2 c2) (.slice A3 n3 c3) (.slice A4 n4 c4) S) (hd:Zu w w.heap.size (.slice A5 dead.length c5) dead)
  (er:Int) (her:er≠0) (hq:∀ W e W',VolFQ S root next dead id W e W'→e=.returned (.tuple #[Kh vol0,.int .i64 er])) :
  Calls Tryz.prog 25 #[.agg (Qo (.slice A1 n1 c1) (.slice A2 n2 c2) (.slice A3 n3 c3) (.slice A4 n4 c4) gen root next (.slice A5 dead.length c5)),.int .u32 id] w (Ret (.tuple #[pool0,.int .i64 er]) w):=by
 have HV:=zH (fun W (hx:Ext w W)=>fvol_any A1 n1 c1 A2 n2 c2 A3 n3 c3 A4 n4 c4 gen root next A5 c5 S dead id W (h.ext hx) (hd.ext_ hx))
 replace hq:=zH hq
 clear h hd
 go_enter Tryz.func25,Tryz.ntmps25
 go_wp2_with fail
 generalize hw1:World.alloc (World.alloc w _) _=w1
 have x1:Ext w w1:=by rw[←hw1];exact(Ext.alloc _ _).trans (Ext.alloc _ _)
 have r1:w1.heap[w.heap.size+1]?=some (.cells (Qo (.slice none 0 0) (.slice none 0 0) (.slice none 0 0) (.slice none 0 0) 0 0 0 (.slice none 0 0)) 32 (0,0)):=by rw[←hw1];exact World.alloc_heap_at _ _ _ (by simp)
 clear hw1
 refine(HV.out w1 x1).mono ?_
 clear HV
 intro e w2 hQ
 have hB:Ext w1 w2:=hQ.1
 obtain rfl:=hq.out _ _ _ hQ
 have x2:Ext w w2:=x1.trans hB
 have r2:=qc r1 hB
 have k2:=qa r2
 have f2:=qg r2
 have z2:=(zG.1 r2).1
 have hne:(er != 0)=true:=by rw[bne_iff_ne];exact her
 replace her:=zH her
 clear hq hQ hB r1
 unfold Kh vol0
 go_wp2_with fail
 exact qdt (b:=w.heap.size+1) rfl rfl rfl (qc (row8 r2 _ _ _ _ _ _ _ _) (Ext.alloc _ _)) ⟨rfl,Below.alloc (YO x2 (by omega) _ _ _ _ _ _ _ _) (by have:=x2.size;simpa using this) _⟩
theorem qap:qbI qD 8 1 []=some ([],[8],[8]):=by decide +kernel
def vol8:Vol:=⟨1,8,false,0⟩
theorem qdu:okL qD (-1) 8=true:=by decide +kernel
theorem qcC:qu qD 8=some (0,[]):=by decide +kernel
theorem qaV:ZS qD 1 vol8 [] (fun b=>[8].count b)=2:=by decide +kernel
theorem qdg:GD qD 0 [] (Ki vol8) 8=true:=by decide +kernel
theorem qdq:∀ lvl xs,qu qD (8:Int).toNat=some (lvl,xs)→∀ up S2,Vl qD lvl.toNat xs (Ki vol8)=.ok (up,S2)→∀ l ys,qu S2 (8:Int).toNat=some (l,ys)→l=0:=fun lvl xs hn=>by
 rw[show (8:Int).toNat=8 from rfl,qcC] at hn
 simp only[Option.some.injEq,Prod.mk.injEq] at hn
 obtain⟨rfl,rfl⟩:=hn
 exact qcP qdg
theorem qbY {w w':World} {e:Ending} (h:VolFQ qD 8 1 [] 1 w e w'):e=.returned (.tuple #[Kh vol0,.int .i64 6]):=by
 obtain⟨h1,h2,h3⟩:=TD qap
 rcases h.2 with ⟨_,hb⟩|⟨vs,refs,nodes,hp,hc,_,rfl⟩
 ·exact(vH.not hb qap).elim
 ·obtain⟨rfl,-,-⟩:=QT.unique h1 h2 hp hc
  rfl
theorem qdC {w w':World} {e:Ending} (h:SetQ qD 0 8 1 [] vol8 w e w'):e=.returned (.tuple #[pool0,.int .i64 2]):=by
 obtain⟨hB,h⟩:=h
 rcases h with ⟨_,hb⟩|⟨vs,refs,nodes,hp,hc,he,h⟩
 ·exact(vH.not hb qap).elim
 ·obtain⟨h1,h2,h3⟩:=TD qap
  obtain⟨rfl,rfl,-⟩:=QT.unique h1 h2 hp hc
  rcases h with ⟨er,hne,rfl,h⟩|⟨r,S',vs',u,h0,_⟩
  ·rcases h with h|⟨h0,_⟩
   ·rw[qaV] at h;rw[h]
   ·rw[qaV] at h0;cases h0
  ·rw[qaV] at h0;cases h0
theorem no_pool {w w':World} {e:Ending} (h:GS ⟨[],[],[],[]⟩ 0 0 [] w e w'):e=.returned (.int .i64 8):=by
 rcases h.2 with ⟨rfl,_⟩|⟨_,vs,refs,nodes,hp,_⟩
 ·rfl
 ·have:=hp.may
  exact absurd this (by decide)
theorem qda {R:Ending→World→Prop} {a:Act} {W:World} {v:Value} (h0:a.tmps[0]?.getD undef=v) (hd:a.defers=[]) (hR:R (.returned v) W):bodyPost Tryz.prog Tryz.f5 R .ret a W:=by
 refine bodyPost_ret (v:=v) ?_ hd hR
 simp[results,Tryz.results5,go_sem,h0]
theorem qdx (w:World) (B:Nat):Qc w B (.slice none 0 0) (.slice none 0 0) (.slice none 0 0) (.slice none 0 0) ⟨[],[],[],[]⟩:=
 ⟨⟨[],none,0,rfl,Nat.le_refl _,by simp[maxLen],Rd.none_,fun i u l hu=>by simp at hu⟩,Wrs.nil _ _,Bys.nil _ _,Bys.nil _ _⟩
def all8 (k:Nat):Nat:=if 8<k then 1 else 0
theorem qdF (k:Nat):(all8 k:Int)+(([8].count k:Nat):Int)=(all8 (k+1):Int):=by
 unfold all8
 rcases Nat.lt_trichotomy k 8 with h|rfl|h
 ·rw[List.count_eq_zero.2 (by simp;omega),if_neg (by omega),if_neg (by omega)];rfl
 ·rfl
 ·rw[List.count_eq_zero.2 (by simp;omega),if_pos h,if_pos (by omega)];rfl
set_option maxHeartbeats 8000000 in
set_option maxRecDepth 100000 in
theorem qdp (w:World):Calls Tryz.prog 5 #[] w (Ret (.bool true) w):=by
 go_enter Tryz.func5,Tryz.ntmps5
 go_wp2_with fail
 refine(alive14_any w).mono ?_
 rintro e w1 ⟨rfl,hB⟩
 have x1:Ext w w1:=hB
 clear hB
 go_wp2_with fail
 refine(fnew_any w1).mono ?_
 rintro e w2 ⟨u,rfl,hp,hB⟩
 have x2:Ext w w2:=x1.trans hB
 obtain⟨A1,c1,A2,c2,A3,c3,A4,c4,rfl,hS⟩:=hp.sto
 have HV:=zH (fun W (hx:Ext w2 W)=>fvols_any A1 256 c1 A2 1 c2 A3 256 c3 A4 256 c4 0 8 1 none 0 qD [] W (hS.ext hx) (Zu.nil_ _ _))
 have H1:=zH (fun W (hx:Ext w2 W)=>fvol_any A1 256 c1 A2 1 c2 A3 256 c3 A4 256 c4 0 8 1 none 0 qD [] 1 W (hS.ext hx) (Zu.nil_ _ _))
 have HS:=zH (fun W (hx:Ext w2 W)=>fset_any A1 256 c1 A2 1 c2 A3 256 c3 A4 256 c4 0 8 1 none 0 qD [] vol8 (by refine⟨⟨?_,?_⟩,⟨?_,?_⟩,⟨?_,?_⟩⟩ <;> decide) (fun _ _ _=>qdu) qdq W (hS.ext hx) (Zu.nil_ _ _))
 have HU:=zH (fun W (hx:Ext w2 W)=>qdn A1 256 c1 A2 1 c2 A3 256 c3 A4 256 c4 0 8 1 none 0 qD [] 1 W (hS.ext hx) (Zu.nil_ _ _) 6 (by decide) fun _ _ _ h=>qbY h)
 have HR:=zH (fun W (hx:Ext w2 W)=>refs_any A1 256 c1 A2 1 c2 A3 256 c3 A4 256 c4 0 8 1 none 0 qD [] W (hS.ext hx) (Zu.nil_ _ _))
 clear hS hp hB x1
 go_wp2_with fail
 generalize hw3:World.alloc w2 _=w3
 have x23:Ext w2 w3:=by rw[←hw3];exact Ext.alloc _ _
 have p3:w3.heap[w2.heap.size]?=some (.cells (Qo (.slice A1 256 c1) (.slice A2 1 c2) (.slice A3 256 c3) (.slice A4 256 c4) 0 8 1 (.slice none 0 0)) 32 (0,0)):=by rw[←hw3];exact World.alloc_heap_at _ _ _ (by simp)
 clear hw3
 refine(HV.out w3 x23).mono ?_
 clear HV
 rintro e w4 ⟨hB,hQ⟩
 have x24:Ext w2 w4:=x23.trans hB
 have p4:=qc p3 hB
 have k4:=qa p4
 rcases hQ with ⟨rfl,hbad⟩|⟨vs',refs',nodes4,cb4,ca4,vv4,lo4,rfl,hlo4,hT4⟩
 case inl=>exact(vH.not hbad qap).elim
 case inr =>
  obtain⟨h1,h2,h3⟩:=TD qap
  obtain⟨rfl,-,-⟩:=QT.unique h1 h2 hT4.pool hT4.cnt
  obtain⟨AV,cV,rfl,-,-⟩:=qJ hT4.own
  clear hT4 h1 h2 h3 hB p3 x23
  go_wp2_with fail
  refine(H1.out w4 x24).mono ?_
  clear H1
  intro e w5 hQ
  have x25:Ext w2 w5:=x24.trans hQ.1
  have p5:=qc p4 hQ.1
  obtain rfl:=qbY hQ
  have k5:=qa p5
  have z5:=(zG.1 p5).1
  clear hQ p4 k4 x24
  unfold Kh vol0
  go_wp2_with fail
  generalize hw6:World.alloc w5 _=w6
  have x56:Ext w5 w6:=by rw[←hw6];exact Ext.alloc _ _
  have x26:Ext w2 w6:=x25.trans x56
  have p6:=qc p5 x56
  have k6:=qa p6
  clear hw6 p5 k5 x25 x56
  refine(HS.out w6 x26).mono ?_
  clear HS
  intro e w7 hQ
  have x27:Ext w2 w7:=x26.trans hQ.1
  have p7:=qc p6 hQ.1
  obtain rfl:=qdC hQ
  have k7:=qa p7
  have z7:=(zG.1 p7).1
  clear hQ p6 k6 x26
  go_wp2_with fail
  generalize hw8:World.alloc w7 _=w8
  have x78:Ext w7 w8:=by rw[←hw8];exact Ext.alloc _ _
  have x28:Ext w2 w8:=x27.trans x78
  have p8:=qc p7 x78
  have k8:=qa p8
  clear hw8 p7 k7 x27 x78
  refine(HU.out w8 x28).mono ?_
  clear HU
  rintro e w9 ⟨rfl,hB⟩
  have x29:Ext w2 w9:=x28.trans hB
  have p9:=qc p8 hB
  have k9:=qa p9
  have z9:=(zG.1 p9).1
  clear hB p8 k8 x28
  go_wp2_with fail
  generalize hwa:World.alloc w9 _=wa
  have x9a:Ext w9 wa:=by rw[←hwa];exact Ext.alloc _ _
  have x2a:Ext w2 wa:=x29.trans x9a
  have pa:=qc p9 x9a
  have ka:=qa pa
  clear hwa p9 k9 x29 x9a
  refine(HR.out wa x2a).mono ?_
  clear HR
  rintro e wb ⟨hB,hQ⟩
  have x2b:Ext w2 wb:=x2a.trans hB
  have pb:=qc pa hB
  rcases hQ with ⟨rfl,hbad⟩|⟨vs',refs',nodes2,cb,ca,vv,lo,rfl,hlo,hT⟩
  case inl=>exact(vH.not hbad qap).elim
  case inr =>
   obtain⟨h1,h2,h3⟩:=TD qap
   obtain⟨-,rfl,-⟩:=QT.unique h1 h2 hT.pool hT.cnt
   have hrc:Hid (∀ a,a<256→wb.cell? ⟨cb,6+a,none⟩=some (.int .i64 (([8].count a:Nat):Int))):=zH fun a ha=>(qa hT.row (6+a)).trans (hT.ar.ref a ha)
   clear hT hlo h1 h2 h3 hB pa ka x2a
   go_wp2_with fail
   go_loopw [12,13] (fun s i wr=>∃ j:Nat,j≤256∧i=.int .i64 (j:Int)∧s=.int .i64 (all8 j:Int)∧wr=wb) (fun _ i _=>256-(intOf i).toNat)
   case atStart=>exact⟨0,by omega,rfl,rfl,rfl⟩
   case round =>
    obtain⟨j,hj,rfl,rfl,rfl⟩:=hrel
    by_cases hlt:j<256
    ·have hcell:=hrc.out j hlt
     have hnx:=qdF j
     have hw:wrap64 ((all8 j:Int)+(([8].count j:Nat):Int))=(all8 (j+1):Int):=by
      rw[hnx]
      exact IntWalk.wrap64_in _ (by unfold all8;split <;> omega)
     generalize [8].count j=cj at *
     generalize all8 j=aj at *
     replace hnx:=zH hnx
     go_wp2_with fail
     exact⟨⟨j+1,hlt,rfl,by rw[hw],trivial⟩,by simp[intOf];omega⟩
    ·obtain rfl:j=256:=by omega
     have hc8:=hrc.out 8 (by omega)
     have kb:=qa pb
     have ha8:all8 256=1:=rfl
     rw[ha8]
     have hk8:[8].count 8=1:=rfl
     rw[hk8] at hc8
     clear hrc
     go_wp2_with fail
     refine(qcq none 0 0 none 0 0 none 0 0 none 0 0 0 0 0 none 0 ⟨[],[],[],[]⟩ [] wr (qdx _ _) (Zu.nil_ _ _)).mono ?_
     intro e wc hQ
     have xc:Ext wr wc:=hQ.1
     have x2c:Ext w2 wc:=x2b.trans xc
     obtain rfl:=no_pool hQ
     have hc8':=Ext.cell xc hc8
     have xw:=zH (x2.trans x2c)
     clear hQ hc8
     go_wp2_with fail
     exact qda rfl rfl ⟨rfl,xw.out⟩
end Go.Proofs.YtpbniokljofedaaGreat
namespace Go.Proofs.YtpbniokljofedaaGreat.forestNames
set_option linter.unusedSimpArgs false
set_option linter.unusedVariables false
open Go.ChangeShapes Go.WideShapes Go.ChangeAt Go.RowKit
theorem own:ownKnob Tryz.prog.godebug=none:=by kernel_rfl
theorem laidOut:laidOutB Tryz.prog=true:=by kernel_rfl
set_option maxHeartbeats 1000000 in
set_option maxRecDepth 100000 in
theorem lifted (os:Os) (started:os.Started) (H:Type) (enc:TypeId×Value→H) :
  ReturnsInHanded {} Tryz.checked os 5 .any (Rows.forestNamesSpec.pre6 enc Tryz.prog Tryz.f5 Rows.forestNamesRow.domain false) (Rows.forestNamesSpec.post enc Tryz.prog Tryz.f5 false true false false):=by
 refine returnsInHanded_of_change (C:=Tryz.checked) own started (by kernel_rfl) Tryz.func5
  (ChangeSpec.witness6 (enc:=enc) (C:=Tryz.checked) false ⟨#[],#[],[]⟩ 8 (by kernel_rfl) (by kernel_rfl) (by kernel_rfl) (by kernel_rfl)) ?_
 intro W base args ds gs before hval0 hW hcnd _
 have hval:∀ (j:Nat) t v,Tryz.f5.params[j]?=some t→args[j]?=some v→Value.okWide Tryz.prog W .any base t v:=hval0
 have hW':=hW
 have hlt:∀ x∈before,x.block<W.heap.size:=fun x hx=>hW.lt x hx
 obtain⟨p,q,hA0,hV,rfl,hfz,hnd⟩:=hW
 have hA:DataW.TrodAll enc Tryz.prog W 0 (fun _=>true) true Tryz.f5.params.toList args.toList ds p:=hA0
 rw[Tryz.params5] at hA hval
 obtain⟨hargs,rfl,rfl⟩:=trodAll_nil hA
 obtain rfl:args=#[]:=by cases args;simp_all
 obtain⟨rfl,rfl⟩:=trodVars_none hV
 have walk:Calls Tryz.prog 5 #[] W (Ret (.bool true) W):=qdp W
 refine walk.mono fun e W' ⟨he,hB⟩=>?_
 subst he
 exact⟨_,rfl,law_post rfl laidOut rfl Tryz.underlying4 (by
  intro t ht
  rw[Tryz.params5] at ht
  simp at ht) hW' rfl hB⟩
theorem over:Rows.forestNamesRow.holds Tryz.pinned (OpenSpec.ofChange Rows.forestNamesSpec):=
 OpenClaim.holds_of_wide 5 Tryz.f5 rfl rfl rfl rfl rfl rfl rfl ⟨rfl,rfl,rfl,rfl,rfl⟩ rfl rfl rfl rfl rfl (by kernel_rfl) Tryz.func5 (by kernel_rfl)
  (of_decide_eq_true (by kernel_rfl)) (by unfold Func.isWrapper;first|(rw[if_pos (by decide +kernel)];kernel_rfl)|(rw[if_neg (by decide +kernel)];exact⟨rfl,rfl⟩))
  (fun os started H enc _=>lifted os started H enc)
theorem proved:Rows.ForestNamesSaid:=over
end Go.Proofs.YtpbniokljofedaaGreat.forestNames
