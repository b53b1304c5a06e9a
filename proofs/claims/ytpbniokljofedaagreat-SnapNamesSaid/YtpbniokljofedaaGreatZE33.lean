/- scionrylaw18.SnapNames is true; it has no arguments and no condition. -/
import Derived.Test.YtpbniokljofedaaGreatZE01
import Derived.Test.YtpbniokljofedaaGreatZE32
set_option linter.unusedSimpArgs false
set_option linter.unusedVariables false
set_option maxHeartbeats 8000000
namespace Go.Proofs.YtpbniokljofedaaGreat
open Go.RowKit
theorem qfa {R:Ending→World→Prop} {a:Act} {W:World} {v:Value} (h0:a.tmps[0]?.getD undef=v) (hd:a.defers=[]) (hR:R (.returned v) W):bodyPost Tryz.prog Tryz.f8 R .ret a W:=by
 refine bodyPost_ret (v:=v) ?_ hd hR
 simp[results,Tryz.results8,go_sem,h0]
theorem xz_ok:jd xz:=by refine⟨⟨?_,?_⟩,⟨?_,?_⟩,⟨?_,?_⟩,⟨?_,?_⟩,?_⟩ <;> decide
set_option maxRecDepth 100000 in
theorem qfK (w:World):Calls Tryz.prog 8 #[] w (Ret (.bool true) w):=by
 go_enter Tryz.func8,Tryz.ntmps8
 go_wp2_with fail
 refine(qem w).mono ?_
 rintro e w1 ⟨rfl,hB⟩
 have x1:Ext w w1:=hB
 clear hB
 go_wp2_with fail
 refine(Gu w1).mono ?_
 rintro e w2 ⟨u,rfl,⟨v,rfl,hN⟩,hB⟩
 have x2:Ext w w2:=x1.trans hB
 obtain⟨A1,c1,A2,c2,A3,c3,A4,c4,A5,c5,rfl,hS,hI⟩:=hN.sto
 have H1:=zH (fun W (hx:Ext w2 W)=>TO A1 _ c1 A2 _ c2 A3 _ c3 A4 _ c4 0 11 2 A5 c5 t2 [] 1 true (by decide) (by decide) W (hS.ext hx) (hI.ext_ hx))
 have H9:=zH (fun W (hx:Ext w2 W)=>TO A1 _ c1 A2 _ c2 A3 _ c3 A4 _ c4 0 11 2 A5 c5 t2 [] 9 true (by decide) (by decide) W (hS.ext hx) (hI.ext_ hx))
 clear hS hI hN hB x1
 go_wp2_with fail
 generalize hw3:World.alloc w2 _=w3
 have x23:Ext w2 w3:=by rw[←hw3];exact zN _ _
 have p3:w3.heap[w2.heap.size]?=some (.cells (qB (.slice A1 t2.bs.length c1) (.slice A2 t2.ws.length c2) (.slice A3 t2.now.length c3) (.slice A4 t2.last.length c4) 0 11 2 (.slice A5 0 c5)) 32 (0,0)):=by rw[←hw3];exact zI _ _ _ (by simp)
 clear hw3
 refine(H1.out w3 x23).mono ?_
 clear H1
 intro e w4 hq
 obtain⟨hB,u,rfl,hN⟩:=qeH qhf hq
 have x24:Ext w2 w4:=x23.trans hB
 have p4:=qb p3 hB
 obtain⟨B1,d1,B2,d2,B3,d3,B4,d4,B5,d5,rfl,hS,hI⟩:=hN.sto
 have HP:=zH (fun W (hx:Ext w4 W)=>qaw B1 _ d1 B2 _ d2 B3 _ d3 B4 _ d4 0 9 3 B5 d5 t3 [] 2 xz xz_ok none 0 (KW t3_tree) W (hS.ext hx) (hI.ext_ hx) (Bys.nil _ _))
 have HF:=zH (fun W (hx:Ext w4 W)=>qdW B1 _ d1 B2 _ d2 B3 _ d3 B4 _ d4 0 9 3 B5 d5 t3 [] 2 false W (hS.ext hx) (hI.ext_ hx))
 have HV:=zH (fun W (hx:Ext w4 W)=>Tt B1 _ d1 B2 _ d2 B3 _ d3 B4 _ d4 0 9 3 B5 d5 t3 [] 2 W (hS.ext hx) (hI.ext_ hx))
 clear hS hI hN hB hq p3 x23
 go_wp2_with fail
 generalize hw5:World.alloc w4 _=w5
 have x45:Ext w4 w5:=by rw[←hw5];exact zN _ _
 have r5:w5.heap[w4.heap.size]?=some (.cells (qB (.slice B1 t3.bs.length d1) (.slice B2 t3.ws.length d2) (.slice B3 t3.now.length d3) (.slice B4 t3.last.length d4) 0 9 3 (.slice B5 0 d5)) 32 (0,0)):=by rw[←hw5];exact zI _ _ _ (by simp)
 clear hw5
 refine(HP.out w5 x45).mono ?_
 clear HP
 intro e w6 hq
 have x46:Ext w4 w6:=x45.trans hq.1
 have r6:=qb r5 hq.1
 obtain rfl:=qfn hq
 have k6:=qa r6
 have z6:=(zG.1 r6).1
 clear hq r5 x45
 go_wp2_with fail
 generalize hw7:World.alloc w6 _=w7
 have x67:Ext w6 w7:=by rw[←hw7];exact zN _ _
 have x47:Ext w4 w7:=x46.trans x67
 have r7:=qb r6 x67
 clear hw7 k6 r6 z6 x46 x67
 refine(HF.out w7 x47).mono ?_
 clear HF
 intro e w8 hq
 obtain⟨hB,u,rfl,hN⟩:=frzC_ok t4_frz hq
 have x48:Ext w4 w8:=x47.trans hB
 have r8:=qb r7 hB
 obtain⟨C1,e1,C2,e2,C3,e3,C4,e4,C5,e5,rfl,hS,hI⟩:=hN.sto
 have HP:=zH (fun W (hx:Ext w8 W)=>qaw C1 _ e1 C2 _ e2 C3 _ e3 C4 _ e4 0 10 3 C5 e5 t4 [] 2 xz xz_ok none 0 (KW t5_tree) W (hS.ext hx) (hI.ext_ hx) (Bys.nil _ _))
 clear hS hI hN hB hq r7 x47
 go_wp2_with fail
 generalize hw9:World.alloc w8 _=w9
 have x89:Ext w8 w9:=by rw[←hw9];exact zN _ _
 have x49:Ext w4 w9:=x48.trans x89
 have r9:=qb r8 x89
 clear hw9 r8 x48
 refine(HP.out w9 x89).mono ?_
 clear HP x89
 intro e wa hq
 obtain⟨hB,u,rfl,hN⟩:=qeN t5_put hq
 obtain⟨D1,f1,D2,f2,D3,f3,D4,f4,D5,f5,rfl,-,-⟩:=hN.sto
 have x4a:Ext w4 wa:=x49.trans hB
 have ra:=qb r9 hB
 have x2a:Ext w2 wa:=x24.trans x4a
 have pa:=qb p4 x4a
 have ka:=qa pa
 have za:=(zG.1 pa).1
 clear hq hB r9 x49 x24 p4
 go_wp2_with fail
 generalize hwb:World.alloc wa _=wb
 have xab:Ext wa wb:=by rw[←hwb];exact zN _ _
 have x4b:Ext w4 wb:=x4a.trans xab
 have x2b:Ext w2 wb:=x2a.trans xab
 have rb:=qb ra xab
 clear hwb ra x4a x2a pa ka za xab
 refine(H9.out wb x2b).mono ?_
 clear H9
 intro e wc hq
 have xbc:Ext wb wc:=hq.1
 obtain rfl:=qhV hq
 have x4c:Ext w4 wc:=x4b.trans xbc
 have rc:=qb rb xbc
 have kc:=qa rc
 have zc:=(zG.1 rc).1
 clear hq rb x4b
 go_wp2_with fail
 generalize hwd:World.alloc wc _=wd
 have xcd:Ext wc wd:=by rw[←hwd];exact zN _ _
 have x4d:Ext w4 wd:=x4c.trans xcd
 clear hwd rc kc zc x4c
 refine(HV.out wd x4d).mono ?_
 clear HV
 intro e we hq
 have xf:Ext w we:=(((x2.trans x2b).trans xbc).trans xcd).trans hq.1
 obtain rfl:=t3_vol hq
 clear hq x2 x2b xbc xcd x4d
 unfold volQ jE vb
 go_wp2_with fail
 exact qfa rfl rfl ⟨rfl,xf.trans (zN _ _)⟩
end Go.Proofs.YtpbniokljofedaaGreat
namespace Go.Proofs.YtpbniokljofedaaGreat
open Go.RowKit Go.ChangeShapes Go.WideShapes Go.ChangeAt
section
variable {H:Type} {enc:TypeId×Value→H} {P:Program} {W:World}
end
section
variable {H:Type} {enc:TypeId×Value→H} {P:Program}
theorem YG (hl:laidOutB P=true) {W W':World} {sp:Nat→Bool}:∀ (ts:List TypeId) (vs:List Value) (ds:List (DataW H)) (p:List MemPlace),DataW.TrodAll enc P W 0 (fun _=>true) true ts vs ds p →
  (∀ t∈ts,P.readableRec t=true∧t<P.types.size)→(∀ x∈p,W.sameAt W' x)→(∀ x∈p,sp x.block=true)→DataW.TrodAll enc P W' 0 sp true ts vs ds p
 | [],vs,ds,p,h,_,_,_=>by
  obtain⟨rfl,rfl,rfl⟩:=trodAll_nil h
  exact trodAll_mk0
 |t :: ts,vs,ds,p,h,ht,hs,hsp=>by
  obtain⟨v,vs',d,ds',p0,q0,rfl,rfl,rfl,h0,h1⟩:=trodAll_cons h
  have e:=ht t (List.mem_cons_self)
  exact trodAll_cons_mk (WideElems.Trod_stays hl e.1 e.2 h0 (fun x hx=>hs x (List.mem_append_left _ hx)) (fun x hx=>hsp x (List.mem_append_left _ hx)))
   (YG hl ts vs' ds' q0 h1 (fun t' h'=>ht t' (List.mem_cons_of_mem _ h')) (fun x hx=>hs x (List.mem_append_right _ hx)) (fun x hx=>hsp x (List.mem_append_right _ hx)))
theorem law_post {f:Func} {s:ChangeSpec} {W W':World} {args:Array Value} {ds gs:List (DataW H)} {before:List MemPlace} {b:TypeId} (hv:s.vars=[]) (hl:laidOutB P=true)
  (hr:f.resultTypes=#[b]) (hb:P.underlying b=some .bool) (ht:∀ t∈f.params.toList,P.readableRec t=true∧t<P.types.size)
  (hW:DataW.Whole enc P f.params.toList s.vars false W args.toList ds gs before) (hs:s.fn H (ds++gs)={ results:=[.lit (.bool true)],args:=ds,vars:=[] }) (hB:Below W.heap.size W W') :
  s.post enc P f false true false false W args (.bool true) W':=by
 have hlt:∀ x∈before,x.block<W.heap.size:=fun x hx=>hW.lt x hx
 have hW0:=hW
 obtain⟨p,q,hA,hV,rfl,_,_⟩:=hW
 have hq:q=[]:=by
  rw[hv] at hV
  cases gs with
  |nil=>exact hV
  |cons g gs=>cases hV
 subst hq
 refine⟨ds,gs,p++[],[],p,[],hW0,?_,?_,?_,?_,fun h=>by cases h⟩
 ·rw[hs,hr]
  exact trodAll_cons_mk (shut_bool hb true) trodAll_mk0
 ·rw[hs]
  exact YG hl _ _ _ _ hA ht (fun x hx=>hB.same (hlt x (by simpa using hx))) (fun x hx=>by simpa using hlt x (by simpa using hx))
 ·rw[hs,hv]
  exact rfl
 ·exact World.keptBut_mono (fun x hx=>⟨by simpa using hx,Or.inr (Or.inl hx)⟩) (hB.frame (· ∈ p))
end
end Go.Proofs.YtpbniokljofedaaGreat
namespace Go.Proofs.YtpbniokljofedaaGreat.snapNames
set_option linter.unusedSimpArgs false
set_option linter.unusedVariables false
open Go.ChangeShapes Go.WideShapes Go.ChangeAt Go.RowKit
theorem own:ownKnob Tryz.prog.godebug=none:=by kernel_rfl
theorem laidOut:laidOutB Tryz.prog=true:=by kernel_rfl
set_option maxRecDepth 100000 in
theorem lifted (os:Os) (started:os.Started) (H:Type) (enc:TypeId×Value→H) :
  ReturnsInHanded {} Tryz.checked os 8 .any (Rows.snapNamesSpec.pre6 enc Tryz.prog Tryz.f8 Rows.snapNamesRow.domain false) (Rows.snapNamesSpec.post enc Tryz.prog Tryz.f8 false true false false):=by
 refine returnsInHanded_of_change (C:=Tryz.checked) own started (by kernel_rfl) Tryz.func8
  (ChangeSpec.witness6 (enc:=enc) (C:=Tryz.checked) false ⟨#[],#[],[]⟩ 8 (by kernel_rfl) (by kernel_rfl) (by kernel_rfl) (by kernel_rfl)) ?_
 intro W base args ds gs before hval0 hW hcnd _
 have hval:∀ (j:Nat) t v,Tryz.f8.params[j]?=some t→args[j]?=some v→Value.okWide Tryz.prog W .any base t v:=hval0
 have hW':=hW
 have hlt:∀ x∈before,x.block<W.heap.size:=fun x hx=>hW.lt x hx
 obtain⟨p,q,hA0,hV,rfl,hfz,hnd⟩:=hW
 have hA:DataW.TrodAll enc Tryz.prog W 0 (fun _=>true) true Tryz.f8.params.toList args.toList ds p:=hA0
 rw[Tryz.params8] at hA hval
 obtain⟨hargs,rfl,rfl⟩:=trodAll_nil hA
 obtain rfl:args=#[]:=by cases args;simp_all
 obtain⟨rfl,rfl⟩:=trodVars_none hV
 have walk:Calls Tryz.prog 8 #[] W (Ret (.bool true) W):=qfK W
 refine walk.mono fun e W' ⟨he,hB⟩=>?_
 subst he
 exact⟨_,rfl,law_post rfl laidOut rfl Tryz.underlying4 (by
  intro t ht
  rw[Tryz.params8] at ht
  simp at ht) hW' rfl hB⟩
theorem over:Rows.snapNamesRow.holds Tryz.pinned (OpenSpec.ofChange Rows.snapNamesSpec):=
 OpenClaim.holds_of_wide 8 Tryz.f8 rfl rfl rfl rfl rfl rfl rfl ⟨rfl,rfl,rfl,rfl,rfl⟩ rfl rfl rfl rfl rfl (by kernel_rfl) Tryz.func8 (by kernel_rfl)
  (of_decide_eq_true (by kernel_rfl)) (by unfold Func.isWrapper;first|(rw[if_pos (by decide +kernel)];kernel_rfl)|(rw[if_neg (by decide +kernel)];exact⟨rfl,rfl⟩))
  (fun os started H enc _=>lifted os started H enc)
theorem proved:Rows.SnapNamesSaid:=over
end Go.Proofs.YtpbniokljofedaaGreat.snapNames
