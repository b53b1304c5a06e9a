/- Texts Build, Leave0, joined. -/
import Derived.Test.YtpbniokljofedaaGreatZA04
import Derived.Test.YtpbniokljofedaaGreatZA20
set_option linter.unusedSimpArgs false
set_option linter.unusedVariables false
namespace Go.Proofs.YtpbniokljofedaaGreat
open Go.RowKit
def VS (D:Nat→Prop) (B lo b g:Nat) (k:Option Nat) (S:Sto) (lvl:Int) (l held:List It) (w:World) (e:Ending) (W:World):Prop:=qS lo b g k w W ∧
 match QP S lvl l held with
 | .error er=>e=.returned (.tuple #[.slice none 0 0,.int .i64 er])
 | .ok (up,S')=>∃ k' D' A c,e=.returned (.tuple #[.slice A up.length c,.int .i64 0])∧QV w.heap.size k k'∧VI w.heap.size D D'∧Bch D' B lo b g k' S' W∧qo S'=true∧W.ownsRow w.heap.size 68 5 (.slice A up.length c) up.length (qI (upV up))∧∀ q,(Value.slice A up.length c).ownBlock=some q→¬D' q
theorem VS.bad {D:Nat→Prop} {B lo b g:Nat} {k:Option Nat} {S:Sto} {lvl:Int} {l held:List It} {w W:World} {er:Int} (h:QP S lvl l held=.error er) (hB:qS lo b g k w W):VS D B lo b g k S lvl l held w (.returned (.tuple #[.slice none 0 0,.int .i64 er])) W:=by
 refine⟨hB,?_⟩
 rw[h]
structure BdI (D:Nat→Prop) (B lo b g:Nat) (k:Option Nat) (S:Sto) (lvl:Int) (ps:List (List It)) (P:Nat) (pv:List Value) (w:World) (v i:Value) (wr:World):Prop where
 ex:∃ (j:Nat) (ups:List It) (S':Sto) (k':Option Nat) (D':Nat→Prop) (Av:Option Addr) (cv:Nat),j≤ps.length∧i=.int .i64 (j:Int)∧v=.slice Av j cv∧ups.length=j∧ZR lvl (ps.take j) S=.ok (ups,S')∧qo S'=true∧QV w.heap.size k k'∧VI w.heap.size D D'∧Bch D' B lo b g k' S' wr∧qS lo b g k w wr ∧
  wr.ownsRow w.heap.size 68 5 (.slice Av j cv) j (qI (upV ups))∧(∀ q,(Value.slice Av j cv).ownBlock=some q→¬D' q∧P<q)∧wr.heap[P]?=some (.cells pv.toArray 47 (0,0))∧P<wr.heap.size
structure HdI (D:Nat→Prop) (B lo b g:Nat) (k:Option Nat) (S:Sto) (held:List It) (vu:Value) (wm:World) (v i:Value) (wr:World):Prop where
 ex:∃ (j:Nat) (t:List UInt8),v=vu∧j≤held.length∧i=.int .i64 (j:Int)∧QD (Qb (held.take j)) S.now=.ok t∧Bch D B lo b g k (qF S t) wr∧qS lo b g k wm wr
theorem YH {R:Ending→World→Prop} {a:Act} {W:World} {u v:Value} (h8:a.tmps[8]?.getD undef=u) (h9:a.tmps[9]?.getD undef=v) (hd:a.defers=[]) (hR:R (.returned (.tuple #[u,v])) W):bodyPost Tryz.prog Tryz.f103 R .ret a W:=by
 refine bodyPost_ret (v:=.tuple #[u,v]) ?_ hd hR
 simp[results,Tryz.results103,go_sem,h8,h9]
set_option maxHeartbeats 40000000 in
set_option maxRecDepth 100000 in
theorem UX (D:Nat→Prop) (B lo b g:Nat) (k:Option Nat) (S:Sto) (hS:qo S=true) (lvl:Int) (A:Option Addr) (n c:Nat) (its:List It) (hio:∀ x∈its,ZL x) (hn0:0<its.length) (hn1:its.length≤100) (loh:Nat) (vh:Value) (hps:List (It×Value)) (held:List It) (hhm:hps.map (·.1)=held) (hh1:∀ p∈hps,∃ A c,p.2=.slice A p.1.val.length c) (hhr:∀ x∈held,(x.r=0∨8≤x.r)∧x.r<256) (hhl:held.length≤100) (w:World) (h:Bch D B lo b g k S w) (hx:vk (B3 b g k) w (.slice A n c) its)
  (hho:w.ownsRow loh 68 5 vh held.length (qI hps)) :
  Calls Tryz.prog 103 #[.pointer (some ⟨b,0,none⟩),.int .i64 lvl,.slice A n c,vh] w (VS D B lo b g k S lvl its held w):=by
 obtain⟨hlb,hzb,hlg,hzg,hgb,hlw,hkq⟩:=h.size
 obtain⟨hnn,hnc,hcm,hA⟩:=hx.now.at_
 subst hnn
 obtain⟨bi,off,rfl,hbi⟩:=hA (by omega)
 obtain⟨Ah,ch,rfl,hcc1,hcc2⟩:=qJ hho
 clear hA hkq
 replace h:=zH h
 replace hx:=zH hx
 replace hio:=zH hio
 replace hcm:=zH hcm
 replace hcc2:=zH hcc2
 replace hho:=zH hho
 rcases Nat.lt_or_ge 5 its.length with h5|h5
 case' inl =>
  have hpo:=zH (show vB its=[its.take 3,its.drop 3] by unfold vB;exact if_pos h5)
  have e5:decide ((5:Int)<(its.length:Int))=true:=decide_eq_true (by omega)
  go_enter Tryz.func103,Tryz.ntmps103
  go_upto_region 3 with fail
  generalize hw0:World.alloc _ _=w0
  have x0:Ext w w0:=by rw[←hw0];exact Ext.alloc _ _
  have z0:w.heap.size<w0.heap.size:=by rw[←hw0];simp
  clear hw0
  refine qm (by kernel_rfl) ?_
  refine qR (w:=w0) ql (qG []) (List.replicate 4 true) 2 (by kernel_rfl) (by kernel_rfl) (by kernel_rfl) (by kernel_rfl) (by kernel_rfl) (by kernel_rfl) (by kernel_rfl) ?st (Rel.drew _ _) ?walk
  case' st=>exact qk (fun _ h=>by cases h)
  case' walk =>
   intro K hK
   dsimp only[qp,List.replicate]
   repeat ((first|(refine qd ?_ (by rfl) (by rfl) (fun W hW _=>⟨W,?_,Rel.refl _ W⟩) ?_;rotate_left;(first|(go_simp;with_reducible rfl)|(go_simp;done)))|(refine qh (by rfl) ?_));try simp only[Act.put,qi,qe,qb,qf,qb,qC,zA,zB,zC])
   refine qd (.slice (some ⟨bi,off,none⟩) 3 c) (by rfl) (by rfl) (fun W hW _=>⟨W,?_,Rel.refl _ W⟩) ?_
   ·go_simp
    intro hc3
    exfalso
    omega
   simp only[Act.put,qi,qe,qb,qf,qb,qC,zA,zB,zC]
   repeat ((first|(refine qd ?_ (by rfl) (by rfl) (fun W hW _=>⟨W,?_,Rel.refl _ W⟩) ?_;rotate_left;(first|(go_simp;with_reducible rfl)|(go_simp;done)))|(refine qh (by rfl) ?_));try simp only[Act.put,qi,qe,qb,qf,qb,qC,zA,zB,zC])
   refine qd (.slice (some ⟨bi,off+3*5,none⟩) (its.length-3) (c-3)) (by rfl) (by rfl) (fun W hW _=>⟨W,?_,Rel.refl _ W⟩) ?_
   ·go_simp
    rw[if_pos (by omega),if_neg (by omega)]
   simp only[Act.put,qi,qe,qb,qf,qb,qC,zA,zB,zC]
   repeat ((first|(refine qd ?_ (by rfl) (by rfl) (fun W hW _=>⟨W,?_,Rel.refl _ W⟩) ?_;rotate_left;(first|(go_simp;with_reducible rfl)|(go_simp;done)))|(refine qh (by rfl) ?_));try simp only[Act.put,qi,qe,qb,qf,qb,qC,zA,zB,zC])
   refine qt (hK _ _ fun W hW hF=>?_)
   clear hF hK
   have hW:Ext w0 W:=hW
   dsimp only[List.drop,List.length_cons,List.length_nil,Nat.reduceAdd,Nat.reduceSub]
   go_wp2
   refine Qn ?_
   go_wp2_with fail
   have x1:Ext w (W.alloc (.cells #[.slice (some ⟨bi,off,none⟩) 3 c,.slice (some ⟨bi,off+15,none⟩) (its.length-3) (c-3)] 47)):=(x0.trans hW).trans (Ext.alloc _ _)
   have zP0:w.heap.size≤W.heap.size:=(x0.trans hW).size
   obtain⟨ps,hpe⟩:∃ ps,ps=[its.take 3,its.drop 3]:=⟨_,rfl⟩
   obtain⟨pv,hpv⟩:∃ pv:List Value,pv=[.slice (some ⟨bi,off,none⟩) 3 c,.slice (some ⟨bi,off+15,none⟩) (its.length-3) (c-3)]:=⟨_,rfl⟩
   have hpl:ps.length=2:=by rw[hpe];rfl
   have hel:Hid (∀ j (hj:j<ps.length),∃ bj oj cj,pv[j]?=some (.slice (some ⟨bj,oj,none⟩) ps[j].length cj)∧vk (B3 b g k) w (.slice (some ⟨bj,oj,none⟩) ps[j].length cj) ps[j]∧0<ps[j].length∧∀ x∈ps[j],ZL x):=zH fun j hj=>by
    have e3:(its.take 3).length=3:=by rw[List.length_take];omega
    rcases j with _|_|j
    ·subst hpe hpv
     refine⟨bi,off,c,?_,?_,?_,fun x hxm=>hio.out x (List.mem_of_mem_take hxm)⟩
     ·simp only[List.getElem_cons_zero,e3];rfl
     ·simp only[List.getElem_cons_zero,e3];exact hx.out.take (by omega)
     ·simp only[List.getElem_cons_zero,e3];omega
    ·subst hpe hpv
     refine⟨bi,off+15,c-3,?_,?_,?_,fun x hxm=>hio.out x (List.mem_of_mem_drop hxm)⟩
     ·simp only[List.getElem_cons_succ,List.getElem_cons_zero,List.length_drop];rfl
     ·simp only[List.getElem_cons_succ,List.getElem_cons_zero,List.length_drop];exact hx.out.drop (k:=3) (by omega)
     ·simp only[List.getElem_cons_succ,List.getElem_cons_zero,List.length_drop];omega
    ·omega
   have hPr:(W.alloc (.cells #[.slice (some ⟨bi,off,none⟩) 3 c,.slice (some ⟨bi,off+15,none⟩) (its.length-3) (c-3)] 47)).heap[W.heap.size]?=some (.cells pv.toArray 47 (0,0)):=by rw[hpv];exact World.alloc_heap_at _ _ _ rfl
   have hpsE:=zH (hpo.out.trans hpe.symm)
   clear hpe hpv hpo h5 e5 x0 z0 hW
   generalize World.alloc W _=w1 at *
   generalize W.heap.size=P at *
   generalize Value.slice (some ⟨bi,off+15,none⟩) (its.length-3) (c-3)=v26
   generalize Value.slice (some ⟨bi,off,none⟩) 3 c=v24
   generalize Value.slice (some ⟨w.heap.size,0,none⟩) 1 1=v19
 case' inr =>
  have hpo:=zH (show vB its=[its] by unfold vB;exact if_neg (by omega))
  have e5:decide ((5:Int)<(its.length:Int))=false:=decide_eq_false (by omega)
  go_enter Tryz.func103,Tryz.ntmps103
  go_wp2_with fail
  have x1:Ext w (w.alloc (.cells #[.slice (some ⟨bi,off,none⟩) its.length c] 47)):=Ext.alloc _ _
  have zP0:w.heap.size≤w.heap.size:=Nat.le_refl _
  obtain⟨ps,hpe⟩:∃ ps,ps=[its]:=⟨_,rfl⟩
  obtain⟨pv,hpv⟩:∃ pv:List Value,pv=[.slice (some ⟨bi,off,none⟩) its.length c]:=⟨_,rfl⟩
  have hpl:ps.length=1:=by rw[hpe];rfl
  have hel:Hid (∀ j (hj:j<ps.length),∃ bj oj cj,pv[j]?=some (.slice (some ⟨bj,oj,none⟩) ps[j].length cj)∧vk (B3 b g k) w (.slice (some ⟨bj,oj,none⟩) ps[j].length cj) ps[j]∧0<ps[j].length∧∀ x∈ps[j],ZL x):=zH fun j hj=>by
   rcases j with _|j
   ·subst hpe hpv
    exact⟨bi,off,c,rfl,hx.out,hn0,hio.out⟩
   ·omega
  have hPr:(w.alloc (.cells #[.slice (some ⟨bi,off,none⟩) its.length c] 47)).heap[w.heap.size]?=some (.cells pv.toArray 47 (0,0)):=by rw[hpv];exact World.alloc_heap_at _ _ _ rfl
  have hpsE:=zH (hpo.out.trans hpe.symm)
  obtain⟨P,hPP⟩:∃ P,P=w.heap.size:=⟨_,rfl⟩
  rw[←hPP] at hPr
  clear hpe hpv hpo h5 e5
  generalize World.alloc w _=w1 at *
  have zP0:w.heap.size≤P:=by omega
  simp only[←hPP]
  clear hPP
 all_goals
  clear hx hio hbi hnc hcm
  go_loopw [8,30] (fun v i wr=>BdI D B lo b g k S lvl ps P pv w v i wr) (fun _ i _=>ps.length-(intOf i).toNat)
  case atStart=>exact⟨0,[],S,k,D,none,0,Nat.zero_le _,rfl,rfl,rfl,rfl,hS,QV.refl _ _,VI.refl _ _,h.out.ext x1,qS.of_ext x1 hlw,World.ownsRow_nil _ _ _ _,(fun q hq=>by cases hq),hPr,(zG.1 hPr).1⟩
  case round =>
   obtain⟨j,ups,S',k',D',Av,cv,hj,rfl,rfl,hul,hml,hS',hNk,hND,hbc,hbk,hown,hoD,hPw,hPz⟩:=hrel.ex
   clear hrel hPr
   have hws:=(qV hS').2.1
   by_cases hlt:j<ps.length
   ·obtain⟨bj,oj,cj,hpvj,hxj,hpos,hioj⟩:=hel.out j hlt
    have kP:wr.cell? ⟨P,j,none⟩=some (.slice (some ⟨bj,oj,none⟩) ps[j].length cj):=by rw[qa hPw];simpa using hpvj
    have hxr:=hxj.trans hbk.keepX (B3.of_new hNk)
    have HM:=zH (US D' B lo b g k' S' lvl (some ⟨bj,oj,none⟩) ps[j].length cj ps[j] hioj hws wr hbc hxr)
    have hbad:=zH (fun e h1=>qeb hlt (e:=e) hml h1)
    have hmore:=zH (fun f S'' h1=>qcu hlt (f:=f) (S'':=S'') hml h1)
    have hmay:=zH (fun f S'' (h1:zu S' lvl ps[j]=.ok (f,S''))=>(kQ hioj hS' h1).1)
    have hxr:=zH hxr
    have d1:∀ M:Int,M=(ps.length:Int)→decide ((j:Int)<M)=true:=fun M hM=>decide_eq_true (by omega)
    have d3:∀ M:Nat,M=ps.length→j<M:=fun M hM=>by omega
    first
     |(have d2:=d1 2 (by rw[hpl];rfl);have hjn:=d3 2 hpl.symm)
     |(have d2:=d1 1 (by rw[hpl];rfl);have hjn:=d3 1 hpl.symm)
    have hj1:=zH (IntWalk.wrap64_in ((j:Int)+1) (by omega))
    replace hpl:=zH hpl
    generalize ps[j]=p at *
    generalize hnj:p.length=nj at *
    replace hnj:=zH hnj
    clear hpvj hioj hxj d1 d3 hml hS' hws
    go_wp2_with fail
    refine HM.out.mono ?_
    clear HM
    rintro e wM ⟨hkM,hcase⟩
    have zwr:=hbk.below.size
    have zM:=hkM.below.size
    have nB:∀ {q cs ty fr},wr.heap[q]?=some (.cells cs ty fr)→ty≠191→ty≠5→ty≠130→¬B3 b g k' q:=fun hr h1 h2 h3=>hbc.notB3 hr h1 h2 h3
    have hownM:=hkM.own hown (fun q hq=>by
     obtain⟨cur,hc⟩:=jf hown hq
     exact nB hc (by decide) (by decide) (by decide))
    have hPM:=hkM.row hPw (nB hPw (by decide) (by decide) (by decide))
    have hkAll:=hbk.trans hkM hNk
    rcases hmx:zu S' lvl p with er|⟨f,S''⟩
    ·rw[hmx] at hcase
     have hq:=zH (show QP S lvl its held=.error er by unfold QP;rw[hpsE.out,hbad.out er hmx])
     have hne:(er != 0)=true:=by rw[bne_iff_ne];exact YL hmx
     have hcase:e=.returned (.tuple #[.int .i64 0,.int .i64 er]):=hcase
     subst hcase
     clear hmore hmay hbad hmx hownM hPM hown hPw hoD nB hbc hkM hel kP
     replace hkAll:=zH hkAll
     go_wp2_with fail
     exact YH rfl rfl rfl (VS.bad hq.out hkAll.out)
    ·rw[hmx] at hcase
     obtain⟨rfl,k'',D'',hN2,hD2,hb2⟩:e=.returned (.tuple #[.int .i64 (f:Int),.int .i64 0])∧∃ k'' D'',QV wr.heap.size k' k''∧VI wr.heap.size D' D''∧Bch D'' B lo b g k'' S'' wM:=hcase
     have hml2:=hmore.out f S'' hmx
     have hS2:=hmay.out f S'' hmx
     obtain⟨A',c',g0,g1,g2,-,-,-⟩:=((hxr.out.trans hkM.keepX (B3.of_new hN2)).now).item 0 (by rw[hnj.out];exact hpos)
     have hk0:YS p=((p[0]'(by rw[hnj.out];exact hpos)).k,(p[0]'(by rw[hnj.out];exact hpos)).i,(p[0]'(by rw[hnj.out];exact hpos)).o):=by
      have h0:0<p.length:=by rw[hnj.out];exact hpos
      rcases p with _|⟨y,r⟩
      ·simp at h0
      ·rfl
     generalize p[0]'(by rw[hnj.out];exact hpos)=y at *
     simp only[Nat.zero_mul,Nat.add_zero] at g0 g1 g2
     have hN':QV w.heap.size k k'':=hNk.trans hN2 (by omega)
     have hDn':VI w.heap.size D D'':=hND.trans hD2 (by omega)
     have hoq:∀ q,(Value.slice Av j cv).ownBlock=some q→w.heap.size≤q∧q<wr.heap.size:=fun q hq=>QM hown q hq
     have hfin:∀ (v':Value) (W:World),W.ownsRow w.heap.size 68 5 v' (j+1) (qI (upV ups)++[.int .u8 y.k,.int .u32 y.i,.int .u32 y.o,.int .i64 (f:Int),.slice none 0 0])→wM.grownBy W (Value.slice Av j cv).ownBlock→Below w.heap.size wM W→(v'.ownBlock=(Value.slice Av j cv).ownBlock∨∃ g,v'.ownBlock=some g∧wM.heap.size≤g) →
       BdI D B lo b g k S lvl ps P pv w v' (.int .i64 ((j:Int)+1)) W:=fun v' W hown' hg hB hat=>by
      obtain⟨A7,c7,rfl,-,-⟩:=qJ hown'
      have hrow:∀ q,q<wM.heap.size→¬OwnX (.slice Av j cv) q→W.heap[q]?=wM.heap[q]?:=fun q hq hX=>hg.block q hq fun e=>hX e.symm
      have hbl:=hb2.blo
      have hzW:=hg.size
      have hDq:∀ q,(Value.slice Av j cv).ownBlock=some q→¬D'' q:=fun q hq hd=>(hD2 q hd).elim (fun h1=>(hoD q hq).1 h1) fun h1=>by have:=(hoq q hq).2;omega
      refine⟨j+1,ups++[mkIt (YS p) f],S'',k'',D'',A7,c7,by omega,rfl,rfl,by simp[hul],hml2,hS2,hN',hDn',?_,?_,?_,?_,?_,by omega⟩
      ·refine hb2.keepX (X:=OwnX (.slice Av j cv)) (Below.mono hB (by omega)) hrow (fun q hq hX=>?_)
       rcases hq with hq|hq
       ·obtain⟨cur,hc⟩:=jf hownM (show _=some q from hX)
        exact hb2.notB3 hc (by decide) (by decide) (by decide) hq
       ·exact hDq q hX hq
      ·refine⟨hkAll.below.trans (Below.mono hB hlw),fun q hq hn=>(hrow q (by omega) fun hX=>?_).trans (hkAll.rows q hq hn)⟩
       have:=(hoq q hX).1
       omega
      ·rw[upV_item]
       have:mkIt (YS p) f=⟨y.k,y.i,y.o,(f:Int),[]⟩:=by rw[hk0];rfl
       rw[this]
       exact hown'
      ·intro q hq
       rcases hat with e1|⟨g',e1,e2⟩
       ·rw[e1] at hq
        exact⟨hDq q hq,(hoD q hq).2⟩
       ·rw[e1] at hq
        obtain rfl:g'=q:=by simpa using hq
        exact⟨fun hd=>by have:=(hb2.dB g' hd).2.1;omega,by omega⟩
      ·refine(hrow P (by omega) fun hX=>?_).trans hPM
       have:=(hoD P hX).2
       omega
     replace hfin:=zH hfin
     obtain⟨i0,hi,hz0,hz1,hz2⟩:=info_parts Tryz.info_item
     have hzz:w.heap.size≤wM.heap.size:=by omega
     clear hmore hmay hbad hmx hPM hown hPw hoD nB hbc hkM hel kP hoq hb2 hN2 hD2 hml2 hS2 hkAll hN' hDn' hk0
     go_wp2_with (at_builtin;refine qQ ?_)
     refine Qt.go (Zh wM rfl (.tmp 45) (.tmp 52) 47 rfl w.heap.size 68 i0 _ 5 48 Tryz.underlying47 hi hz0 hz1 hz2 rfl (by decide) (.slice Av j cv) j (qI (upV ups)) (by exact rfl) hownM #[.int .u8 y.k,.int .u32 y.i,.int .u32 y.o,.int .i64 (f:Int),.slice none 0 0] (by exact rfl) rfl (by simp[Value.oneCell']) (by omega) (by decide) hzz ?_)
     intro v' W hown' hg hB hat
     have hF:=zH (hfin.out v' W hown' hg hB hat)
     clear hfin hown' hg hB hat hownM hi
     go_wp2_with fail
     try rw[hj1.out]
     refine⟨hF.out,?_⟩
     simp[intOf]
     omega
   ·obtain rfl:j=ps.length:=by omega
    rw[List.take_length] at hml
    have d1:∀ M:Int,M=(ps.length:Int)→decide (((ps.length:Nat):Int)<M)=false:=fun M hM=>decide_eq_false (by omega)
    first
     |have d2:=d1 2 (by rw[hpl];rfl)
     |have d2:=d1 1 (by rw[hpl];rfl)
    replace hpl:=zH hpl
    have hbX:Hid (QP S lvl its held=match QD (Qb held) S'.now with
     | .error e=>.error e
     | .ok t=>.ok (ups,qF S' t)):=zH (by unfold QP;simp only[hpsE.out,hml] <;> rfl)
    have hhm':=hho.out
    have hhr1:=hbk.own hho.out (fun q hq=>by
     obtain⟨cur,hc⟩:=jf hho.out hq
     exact h.out.notB3 hc (by decide) (by decide) (by decide))
    clear hPw hPz hel hml d1 hhm'
    replace hbk:=zH hbk
    replace hown:=zH hown
    replace hoD:=zH hoD
    replace hbc:=zH hbc
    generalize hwm:wr=wm at *
    clear hwm
    go_wp2_with fail
    go_loopw [8,57] (fun v i wr=>HdI D' B lo b g k' S' held (.slice Av ps.length cv) wm v i wr) (fun _ i _=>held.length-(intOf i).toNat)
    case atStart=>exact⟨0,S'.now,rfl,Nat.zero_le _,rfl,rfl,hbc.out,qS.refl _ _ _ _ _⟩
    case round =>
     obtain⟨j,t,rfl,hj,rfl,hlo,hbt,hbm⟩:=hrel.ex
     clear hrel
     have hkA:=zH (hbk.out.trans hbm hNk)
     by_cases hlt:j<held.length
     ·have hlp:j<hps.length:=by rw[←hhm,List.length_map] at hlt;exact hlt
      have hor:=hbm.own hhr1 (fun q hq=>by
       obtain⟨cur,hc⟩:=jf hhr1 hq
       exact hbc.out.notB3 hc (by decide) (by decide) (by decide))
      obtain⟨bh,offh,rfl,hbh,hch⟩:=(Rd.of_own hor).2 (by omega)
      obtain⟨g0,g1,g2,g3,g4⟩:=kZ hps j hlp
      replace g0:=hch _ _ g0
      replace g1:=hch _ _ g1
      replace g2:=hch _ _ g2
      replace g3:=hch _ _ g3
      replace g4:=hch _ _ g4
      rw[←Nat.add_assoc] at g1 g2 g3 g4
      obtain⟨Ax,cx,hx2⟩:=hh1 hps[j] (List.getElem_mem hlp)
      have hxe:hps[j].1=held[j]:=by simp only[←hhm,List.getElem_map]
      rw[hx2] at g4
      rw[hxe] at g0 g1 g2 g3 g4
      have hrr:=hhr held[j] (List.getElem_mem hlt)
      have hbad:=zH (fun h0 h1=>Tr hlt hlo h0 h1)
      have hmore:=zH (fun h0 h1=>Xh hlt hlo h0 h1)
      have hskip:=zH (fun h0=>Xg hlt hlo h0)
      generalize held[j]=x at *
      have hj1:=zH (IntWalk.wrap64_in ((j:Int)+1) (by omega))
      obtain⟨a,hra⟩:∃ a:Nat,x.r=(a:Int):=⟨x.r.toNat,by omega⟩
      have ha9:a<256:=by omega
      have hsa:(x.r).toNat=a:=by omega
      rw[hra] at g3
      rw[hsa] at hbad hmore hskip
      have hz:=hbt.size.2.2.2.2.2.1
      have HL:=zH (fun W (hW:Ext wr W)=>XB D' B lo b g k' (qF S' t) a ha9 W (hbt.ext hW))
      replace hbt:=zH hbt
      replace hbm:=zH hbm
      clear hch hx2 hxe hor hra hsa hrr hlo hhr1 hlp
      rcases Nat.eq_zero_or_pos a with ha0|ha0
      ·subst ha0
       have hF:HdI D' B lo b g k' S' held (.slice Av ps.length cv) wm (.slice Av ps.length cv) (.int .i64 ((j:Int)+1)) (wr.alloc (.cells #[.int .u8 x.k,.int .u32 x.i,.int .u32 x.o,.int .i64 0,.slice Ax x.val.length cx] 68)):=⟨j+1,t,rfl,by omega,rfl,hskip.out rfl,hbt.out.ext (Ext.alloc _ _),hbm.out.trans (qS.of_ext (Ext.alloc _ _) hz) (QV.refl _ _)⟩
       replace hF:=zH hF
       clear hbad hmore hskip HL
       go_wp2_with fail
       try rw[hj1.out]
       refine⟨hF.out,?_⟩
       simp[intOf]
       omega
      ·have hza:((a:Int) == 0)=false:=by rw[beq_eq_false_iff_ne];omega
       have hzb:decide (a=0)=false:=decide_eq_false (by omega)
       replace ha0:=zH ha0
       go_wp2_with fail
       generalize hwa:World.alloc _ _=wa
       have xa:Ext wr wa:=by rw[←hwa];exact Ext.alloc _ _
       clear hwa g0 g1 g2 g3 g4
       refine(HL.out wa xa).mono ?_
       clear HL
       rintro e wl ⟨hkl,hcase⟩
       have hkl2:=hbm.out.trans ((qS.of_ext xa hz).trans hkl (QV.refl _ _)) (QV.refl _ _)
       rcases hcase with ⟨hc0,rfl⟩|⟨hc0,rfl,hbl⟩
       ·have hq:=zH (show QP S lvl its held=.error 6 by rw[hbX.out,hbad.out (by have:=ha0.out;omega) hc0])
        have hkB:=zH (hbk.out.trans hkl2 hNk)
        clear hbX hbad hmore hskip hkl hkl2 hc0 hkA
        go_wp2_with fail
        exact YH rfl rfl rfl (VS.bad hq.out hkB.out)
       ·have hF:HdI D' B lo b g k' S' held (.slice Av ps.length cv) wm (.slice Av ps.length cv) (.int .i64 ((j:Int)+1)) wl:=⟨j+1,_,rfl,by omega,rfl,hmore.out (by have:=ha0.out;omega) hc0,hbl,hkl2⟩
        replace hF:=zH hF
        clear hbX hbad hmore hskip hkl hkl2 hc0 hbl hkA
        go_wp2_with fail
        try rw[hj1.out]
        refine⟨hF.out,?_⟩
        simp[intOf]
        omega
     ·obtain rfl:j=held.length:=by omega
      rw[List.take_length] at hlo
      have hq:QP S lvl its held=.ok (ups,qF S' t):=by rw[hbX.out,hlo]
      have hmayt:=XX hS' (JO (fun a ha=>by
       obtain⟨x,hxm,rfl⟩:=List.mem_map.1 ha
       have:=hhr x hxm
       omega) (Qr.1 hS').2.1 hlo)
      have hor:=hbm.own hown.out (fun q hq=>by
       obtain⟨cur,hc⟩:=jf hown.out hq
       exact hbc.out.notB3 hc (by decide) (by decide) (by decide))
      have hR:VS D B lo b g k S lvl its held w (.returned (.tuple #[.slice Av ps.length cv,.int .i64 0])) wr:=by
       refine⟨hkA.out,?_⟩
       rw[hq]
       refine⟨k',D',Av,cv,by rw[hul],hNk,hND,hbt,hmayt,?_,?_⟩
       ·rw[hul];exact hor
       ·rw[hul];exact fun q hq=>(hoD.out q hq).1
      replace hR:=zH hR
      clear hor hmayt hq hbt hbm hlo hbX hkA hhr1
      go_wp2_with fail
      exact YH rfl rfl rfl hR.out
def vO (D:Nat→Prop) (B lo b g:Nat) (k:Option Nat) (S:Sto) (a:Nat) (w:World) (e:Ending) (W:World):Prop:=qS lo b g k w W ∧
 match zy S (-1) S.now a with
 |none=>e=.returned (.int .i64 8)
 |some t=>e=.returned (.int .i64 0)∧Bch D B lo b g k (qF S t) W
theorem vO.bad {D:Nat→Prop} {B lo b g:Nat} {k:Option Nat} {S:Sto} {a:Nat} {w W:World} (h:zy S (-1) S.now a=none) (hB:qS lo b g k w W):vO D B lo b g k S a w (.returned (.int .i64 8)) W:=by
 refine⟨hB,?_⟩
 rw[h]
theorem vO.good {D:Nat→Prop} {B lo b g:Nat} {k:Option Nat} {S:Sto} {a:Nat} {t:List UInt8} {w W:World} (h:zy S (-1) S.now a=some t) (hB:qS lo b g k w W) (hb:Bch D B lo b g k (qF S t) W):vO D B lo b g k S a w (.returned (.int .i64 0)) W:=by
 refine⟨hB,?_⟩
 rw[h]
 exact⟨rfl,hb⟩
theorem jW {R:Ending→World→Prop} {a:Act} {W:World} {v:Value} (h4:a.tmps[4]?.getD undef=v) (hd:a.defers=[]) (hR:R (.returned v) W):bodyPost Tryz.prog Tryz.f104 R .ret a W:=by
 refine bodyPost_ret (v:=v) ?_ hd hR
 simp[results,Tryz.results104,go_sem,h4]
structure L0I (D:Nat→Prop) (B lo b g:Nat) (k:Option Nat) (S:Sto) (t0:List UInt8) (xs:List It) (wB:World) (v i:Value) (wr:World):Prop where
 ex:∃ (j:Nat) (t:List UInt8),v=.int .i64 0∧j≤xs.length∧i=.int .i64 (j:Int)∧QD (Qb (xs.take j)) t0=.ok t∧Bch D B lo b g k (qF S t) wr∧qS lo b g k wB wr
set_option maxHeartbeats 8000000 in
set_option maxRecDepth 100000 in
theorem qbh (D:Nat→Prop) (B lo b g:Nat) (k:Option Nat) (S:Sto) (hS:qo S=true) (a:Nat) (ha:8≤a) (ha2:a<256) (hleaf:∀ l xs,qu S a=some (l,xs)→l=0) (w:World) (h:Bch D B lo b g k S w) :
  Calls Tryz.prog 104 #[.pointer (some ⟨b,0,none⟩),.int .i64 (a:Int)] w (vO D B lo b g k S a w):=by
 obtain⟨hlb,hzb,hlg,hzg,hgb,hlw,hkq⟩:=h.size
 obtain⟨hlen,hlen4⟩:=h.lens
 obtain⟨A1,n1,c1,v2,c3,A4,c4,kr,hkn,hfn⟩:=h.cells
 have hown:Hid (w.ownsRow lo 5 1 (.slice (some ⟨g,0,none⟩) 256 c3) 256 (S.now.map bv)):=zH (by
  obtain⟨A1',n1',c1',v2',c3',A4',c4',hr',ho',_⟩:=h.ex
  have:=(kr 2).symm.trans (qa hr' 2)
  simp at this
  rw[this]
  exact ho')
 have hby:Bys w w.heap.size (.slice (some ⟨g,0,none⟩) 256 c3) S.now:=Bys.of_own hown.out
 have HC:=zH (Tq _ S.now (by omega) w hby)
 replace h:=zH h
 clear hby
 go_enter Tryz.func104,Tryz.ntmps104
 go_wp2_with fail
 refine HC.mono ?_
 clear HC
 rintro e w2 ⟨u,rfl,hF,hB⟩
 have x2:Ext w w2:=hB
 obtain⟨AF,cF,rfl,-,-⟩:=qJ hF
 obtain⟨bF,oF,rfl,hbF,hFlo,hcF⟩:∃ bF oF,AF=some ⟨bF,oF,none⟩∧bF<w2.heap.size∧w.heap.size≤bF∧∀ j,j<256→w2.cell? ⟨bF,oF+j,none⟩=some (.int .u8 (Zx S j:Int)):=by
  rw[hlen] at hF
  obtain⟨bF,oF,e,h1,h2⟩:=(Rd.of_own hF).2 (by omega)
  have hlo:=zm.of_own hF ⟨bF,oF,none⟩ _ _ (by rw[e])
  exact⟨bF,oF,e,h1,hlo,fun j hj=>h2 j _ (by rw[List.getElem?_map,List.getElem?_eq_getElem (by omega)];simp[Zx,List.getElem?_eq_getElem (show j<S.now.length by omega)])⟩
 have hFg0:bF≠g:=by
  have:=hFlo
  omega
 clear hB hF
 go_wp2_with fail
 refine wp_loop_rounds 2 ?_
 rw[rounds_succ]
 go_wp2_with fail
 generalize hw3:(World.alloc (World.alloc (World.alloc w2 _) _) _)=w3
 have x23:Ext w2 w3:=by rw[←hw3];exact((Ext.alloc _ _).trans (Ext.alloc _ _)).trans (Ext.alloc _ _)
 have rS:w3.heap[w2.heap.size+1]?=some (.cells #[.slice (some ⟨w2.heap.size,0,none⟩) 0 1] 222 (0,0)):=by rw[←hw3];exact(Below.heap_alloc _ _ _ (by simp)).trans (World.alloc_heap_at _ _ _ (by simp))
 have rX:w3.heap[w2.heap.size+1+1]?=some (.cells #[.int .i64 (a:Int),.int .i64 (-1)] 221 (0,0)):=by rw[←hw3];exact World.alloc_heap_at _ _ _ (by simp)
 clear hw3
 have x3:Ext w w3:=x2.trans x23
 have z2:=x2.size
 have hkF:Hid (∀ W,Ext w3 W→W.cell? ⟨bF,oF+a,none⟩=some (.int .u8 (Zx S a:Int))):=zH fun W hW=>Ext.cell (x23.trans hW) (hcF a ha2)
 have hb3:=zH (h.out.ext x3)
 have hK3:qS lo b g k w w3:=qS.of_ext x3 hlw
 have g0:∀ W,ql.r w3 W→∀ i,W.cell? ⟨b,i,none⟩=#[.slice A1 n1 c1,v2,.slice (some ⟨g,0,none⟩) 256 c3,.slice A4 256 c4][i]?:=fun W hW i=>by
  rw[←kr i]
  exact Below.cell (x3.trans hW) (p:=⟨b,i,none⟩) hzb
 have g1:∀ W,ql.r w3 W→∀ i,W.cell? ⟨w2.heap.size+1+1,i,none⟩=#[.int .i64 (a:Int),.int .i64 (-1)][i]?:=fun W hW=>qa (qc rX hW)
 have g2:∀ W,ql.r w3 W→W.cell? ⟨g,a,none⟩=some (.int .u8 (Zx S a:Int)):=fun W hW=>Ext.cell (x3.trans hW) (hkn a ha2)
 have hstep:=zH (qaC S (-1) S.now a)
 have hFg:Hid (bF≠g):=zH hFg0
 have hcn:Zx S a=zL S.now a:=rfl
 have hc2:=(S.now[a]?.getD 0).toNat_lt
 have hc:zL S.now a=(S.now[a]?.getD 0).toNat:=rfl
 rw[hcn] at g2 hkF
 rw[←hc] at hc2
 obtain⟨nv,hnv⟩:∃ nv,zL S.now a=nv:=⟨_,rfl⟩
 rw[hnv] at hkF g2 hc2
 replace hnv:=zH hnv
 replace hown:=hown
 clear hcF hkn kr hc hcn hbF x23
 refine qm (by kernel_rfl) ?_
 refine qR (w:=w3) ql (qG []) (List.replicate 10 true) 0 (by kernel_rfl) (by kernel_rfl) (by kernel_rfl) (by kernel_rfl) (by kernel_rfl) (by kernel_rfl) (by kernel_rfl) ?st (Rel.drew _ _) ?walk
 case st=>exact qk (fun _ h=>by cases h)
 case walk =>
  intro K hK
  dsimp only[qp,List.replicate]
  repeat ((first|(refine qd ?_ (by rfl) (by rfl) (fun W hW _=>⟨W,?_,Rel.refl _ W⟩) ?_;rotate_left;(first|(go_simp;with_reducible rfl)|(go_simp;done)))|(refine qh (by rfl) ?_));try simp only[Act.put,qi,qe,qb,qf,zA,zB,zC])
  first
   |(refine qd (.pointer (some ⟨g,a,none⟩)) (by rfl) (by rfl) (fun W hW _=>⟨W,?_,Rel.refl _ W⟩) ?_
     ·go_simp
      intro hge
      exfalso
      omega
     simp only[Act.put,qi,qe,qb,qf,zA,zB,zC])
   |skip
  repeat ((first|(refine qd ?_ (by rfl) (by rfl) (fun W hW _=>⟨W,?_,Rel.refl _ W⟩) ?_;rotate_left;(first|(go_simp;with_reducible rfl)|(go_simp;done)))|(refine qh (by rfl) ?_));try simp only[Act.put,qi,qe,qb,qf,zA,zB,zC])
  refine qt (hK _ _ fun W hW hF=>?_)
  clear hF hK
  have hW:Ext w3 W:=hW
  dsimp only[List.drop,List.length_cons,List.length_nil,Nat.reduceAdd,Nat.reduceSub]
  go_wp2
  refine Qn ?_
  by_cases h0:nv=0
  ·have hq:=zH (show zy S (-1) S.now a=none by rw[hstep.out,if_pos (by rw[hnv.out];exact h0)])
   subst h0
   have hkB:=zH (hK3.trans (qS.of_ext hW (by have:=x3.size;omega)) (QV.refl _ _))
   clear g0 g1 g2 hkF hstep
   go_wp2_with fail
   exact jW rfl rfl (vO.bad hq.out hkB.out)
  ·have hz1:((nv:Int) == 0)=false:=by rw[beq_eq_false_iff_ne];omega
   have hz2:decide (nv=0)=false:=decide_eq_false h0
   have h0':=zH h0
   by_cases h1:1<nv
   ·have hd1:decide ((1:Int)<(nv:Int))=true:=decide_eq_true (by omega)
    have hd2:decide (1<nv)=true:=decide_eq_true h1
    have hd3:decide ((nv:Int)>1)=true:=decide_eq_true (by omega)
    have hq:=zH (show zy S (-1) S.now a=some (YR S.now a) by rw[hstep.out,if_neg (by rw[hnv.out];exact h0),if_pos (by rw[hnv.out];exact h1)])
    replace h1:=zH h1
    clear h0
    go_upto_region 8 with fail
    have g0':∀ V,ql.r W V→_:=fun V hV=>g0 V (hW.trans hV)
    have g1':∀ V,ql.r W V→_:=fun V hV=>g1 V (hW.trans hV)
    have g2':∀ V,ql.r W V→_:=fun V hV=>g2 V (hW.trans hV)
    clear g0 g1 g2
    refine qm (by kernel_rfl) ?_
    refine qR (w:=W) ql (qG []) (List.replicate 10 true) 0 (by kernel_rfl) (by kernel_rfl) (by kernel_rfl) (by kernel_rfl) (by kernel_rfl) (by kernel_rfl) (by kernel_rfl) ?st (Rel.drew _ _) ?walk
    case st=>exact qk (fun _ h=>by cases h)
    case walk =>
     intro K hK
     dsimp only[qp,List.replicate]
     repeat ((first|(refine qd ?_ (by rfl) (by rfl) (fun W hW _=>⟨W,?_,Rel.refl _ W⟩) ?_;rotate_left;(first|(go_simp;with_reducible rfl)|(go_simp;done)))|(refine qh (by rfl) ?_));try simp only[Act.put,qi,qe,qb,qf,zA,zB,zC])
     first
      |(refine qd (.pointer (some ⟨g,a,none⟩)) (by rfl) (by rfl) (fun W hW _=>⟨W,?_,Rel.refl _ W⟩) ?_
        ·go_simp
         intro hge
         exfalso
         omega
        simp only[Act.put,qi,qe,qb,qf,zA,zB,zC])
      |skip
     repeat ((first|(refine qd ?_ (by rfl) (by rfl) (fun W hW _=>⟨W,?_,Rel.refl _ W⟩) ?_;rotate_left;(first|(go_simp;with_reducible rfl)|(go_simp;done)))|(refine qh (by rfl) ?_));try simp only[Act.put,qi,qe,qb,qf,zA,zB,zC])
     refine qt (hK _ _ fun V hV hF=>?_)
     clear hF hK
     have hV:Ext W V:=hV
     dsimp only[List.drop,List.length_cons,List.length_nil,Nat.reduceAdd,Nat.reduceSub]
     go_wp2
     refine Qn ?_
     have x3V:Ext w3 V:=Ext.trans hW hV
     have g0:∀ U,ql.r V U→_:=fun U hU=>g0' U (Ext.trans hV hU)
     have g1:∀ U,ql.r V U→_:=fun U hU=>g1' U (Ext.trans hV hU)
     have g2:∀ U,ql.r V U→_:=fun U hU=>g2' U (Ext.trans hV hU)
     have rSV:=qc rS x3V
     have hbV:=zH (hb3.out.ext x3V)
     have hKV:=zH (hK3.trans (qS.of_ext x3V (by have:=x3.size;omega)) (QV.refl _ _))
     have hfg:∀ U,Ext V U→U.frozen? ⟨g,a,none⟩=false:=fun U hU=>(Zc (QJ hown.out (Ext.trans x3 (Ext.trans x3V hU)))).2.1 a
     obtain⟨m,hm⟩:∃ m,nv=m+1:=⟨nv-1,by have:=h1.out;omega⟩
     have hmt:(UInt8.ofNat (nv-1)).toNat=m:=by rw[show nv-1=m by omega,UInt8.toNat_ofNat'];omega
     have hwv:IntKind.u8.wrap ((nv:Int)-1)=(m:Int):=by rw[qdv (n:=nv) (by omega) hc2,hmt]
     have hbm:bv (UInt8.ofNat (nv-1))=.int .u8 (m:Int):=by show Value.int .u8 _=_;rw[hmt]
     replace hbm:=zH hbm
     replace hm:=zH hm
     clear hmt
     clear g0' g1' g2' hW hV hkF hstep
     go_upto_region 9 with fail
     refine qm (by kernel_rfl) ?_
     refine qR (w:=V) ql (qG []) (List.replicate 11 true) 1 (by kernel_rfl) (by kernel_rfl) (by kernel_rfl) (by kernel_rfl) (by kernel_rfl) (by kernel_rfl) (by kernel_rfl) ?st (Rel.drew _ _) ?walk
     case st=>exact qk (fun _ h=>by cases h)
     case walk =>
      intro K hK
      dsimp only[qp,List.replicate]
      repeat ((first|(refine qd ?_ (by rfl) (by rfl) (fun W hW _=>⟨W,?_,Rel.refl _ W⟩) ?_;rotate_left;(first|(go_simp;with_reducible rfl)|(go_simp;done)))|(refine qh (by rfl) ?_));try simp only[Act.put,qi,qe,qb,qf,zA,zB,zC])
      first
       |(refine qd (.pointer (some ⟨g,a,none⟩)) (by rfl) (by rfl) (fun W hW _=>⟨W,?_,Rel.refl _ W⟩) ?_
         ·go_simp
          intro hge
          exfalso
          omega
         simp only[Act.put,qi,qe,qb,qf,zA,zB,zC])
       |skip
      repeat ((first|(refine qd ?_ (by rfl) (by rfl) (fun W hW _=>⟨W,?_,Rel.refl _ W⟩) ?_;rotate_left;(first|(go_simp;with_reducible rfl)|(go_simp;done)))|(refine qh (by rfl) ?_));try simp only[Act.put,qi,qe,qb,qf,zA,zB,zC])
      first
       |(refine qd (.pointer (some ⟨g,a,none⟩)) (by rfl) (by rfl) (fun W hW _=>⟨W,?_,Rel.refl _ W⟩) ?_
         ·go_simp
          intro hge
          exfalso
          omega
         simp only[Act.put,qi,qe,qb,qf,zA,zB,zC])
       |skip
      repeat ((first|(refine qd ?_ (by rfl) (by rfl) (fun W hW _=>⟨W,?_,Rel.refl _ W⟩) ?_;rotate_left;(first|(go_simp;with_reducible rfl)|(go_simp;done)))|(refine qh (by rfl) ?_));try simp only[Act.put,qi,qe,qb,qf,zA,zB,zC])
      refine qt (hK _ _ fun U hU hF=>?_)
      clear hF hK
      have hU:Ext V U:=hU
      dsimp only[List.drop,List.length_cons,List.length_nil,Nat.reduceAdd,Nat.reduceSub]
      have k2:=g2 U hU
      have f2:=hfg U hU
      have rSU:=qc rSV hU
      have hCnt:=(hbV.out.ext hU).count ha2 (UInt8.ofNat (nv-1))
      rw[hbm.out] at hCnt
      have hdn:YR S.now a=S.now.set a (UInt8.ofNat (nv-1)):=by unfold YR;rw[hnv.out]
      have hkB:=zH ((hKV.out.trans (qS.of_ext hU (by have:=x3.size;have:=x3V.size;omega)) (QV.refl _ _)).trans hCnt.2 (QV.refl _ _))
      have hbB:=zH hCnt.1
      have rSB:(U.setCell ⟨g,a,none⟩ (.int .u8 (m:Int))).heap[w2.heap.size+1]?=some (.cells #[.slice (some ⟨w2.heap.size,0,none⟩) 0 1] 222 (0,0)):=(Below.heap_setCell _ _ _ _ (by simp;omega)).trans rSU
      have kSB:=qa rSB
      replace hdn:=zH hdn
      clear g0 g1 g2 hfg hCnt rSU rSV rSB hU
      go_wp2_with fail
      refine Qn ?_
      go_wp2_with fail
      rw[rounds_succ]
      go_wp2_with fail
      exact jW rfl rfl (vO.good (by rw[hq.out,hdn.out]) hkB.out hbB.out)
   ·obtain rfl:nv=1:=by omega
    have hq1:Hid (zy S (-1) S.now a=match qu S a with
     |none=>none
     |some (l,xs)=>if 0<l then YQ S ((Qb xs).map fun r=>(r,l-1)) (S.now.set a 0) else
      match QD (Qb xs) (S.now.set a 0) with
      | .error _=>none
      | .ok t'=>some t'):=zH (by
     rw[hstep.out,if_neg (by rw[hnv.out];decide),if_neg (by rw[hnv.out];decide)]
     rcases qu S a with _|⟨l,xs⟩
     ·rfl
     ·simp only
      rw[if_neg (fun h=>by have:=h.1;omega)] <;> rfl)
    clear h0 hstep
    go_upto_region 8 with fail
    have g0':∀ V,ql.r W V→_:=fun V hV=>g0 V (hW.trans hV)
    have g1':∀ V,ql.r W V→_:=fun V hV=>g1 V (hW.trans hV)
    have g2':∀ V,ql.r W V→_:=fun V hV=>g2 V (hW.trans hV)
    clear g0 g1 g2
    refine qm (by kernel_rfl) ?_
    refine qR (w:=W) ql (qG []) (List.replicate 10 true) 0 (by kernel_rfl) (by kernel_rfl) (by kernel_rfl) (by kernel_rfl) (by kernel_rfl) (by kernel_rfl) (by kernel_rfl) ?st (Rel.drew _ _) ?walk
    case st=>exact qk (fun _ h=>by cases h)
    case walk =>
     intro K hK
     dsimp only[qp,List.replicate]
     repeat ((first|(refine qd ?_ (by rfl) (by rfl) (fun W hW _=>⟨W,?_,Rel.refl _ W⟩) ?_;rotate_left;(first|(go_simp;with_reducible rfl)|(go_simp;done)))|(refine qh (by rfl) ?_));try simp only[Act.put,qi,qe,qb,qf,zA,zB,zC])
     first
      |(refine qd (.pointer (some ⟨g,a,none⟩)) (by rfl) (by rfl) (fun W hW _=>⟨W,?_,Rel.refl _ W⟩) ?_
        ·go_simp
         intro hge
         exfalso
         omega
        simp only[Act.put,qi,qe,qb,qf,zA,zB,zC])
      |skip
     repeat ((first|(refine qd ?_ (by rfl) (by rfl) (fun W hW _=>⟨W,?_,Rel.refl _ W⟩) ?_;rotate_left;(first|(go_simp;with_reducible rfl)|(go_simp;done)))|(refine qh (by rfl) ?_));try simp only[Act.put,qi,qe,qb,qf,zA,zB,zC])
     refine qt (hK _ _ fun V hV hF=>?_)
     clear hF hK
     have hV:Ext W V:=hV
     dsimp only[List.drop,List.length_cons,List.length_nil,Nat.reduceAdd,Nat.reduceSub]
     go_wp2
     refine Qn ?_
     have x3V:Ext w3 V:=Ext.trans hW hV
     have rSV:=qc rS x3V
     have rXV:=qc rX x3V
     have kXV:=qa rXV
     have hbV:=hb3.out.ext x3V
     have hKV:=zH (hK3.trans (qS.of_ext x3V (by have:=x3.size;omega)) (QV.refl _ _))
     have hFV:=hkF.out V x3V
     have hVw:Ext w V:=Ext.trans x3 x3V
     have HN:=(by
      obtain⟨A1',n1',c1',A2',n2',c2',c3',A4',c4',hr',hst'⟩:=hbV.sto
      exact Kd lo b A1' n1' c1' A2' n2' c2' _ 256 c3' A4' 256 c4' S hS a ha ha2 V ⟨hlb,hr',hst'⟩:Calls Tryz.prog 67 #[.pointer (some ⟨b,0,none⟩),.int .i64 (a:Int)] V (zD (UT V.heap.size (qu S a)) V))
     replace hbV:=zH hbV
     clear hkF hb3 hK3 rS rX
     go_wp2_with fail
     refine HN.mono ?_
     clear HN
     rintro e wN ⟨uN,rfl,hN,hBN⟩
     have xN:Ext V wN:=hBN
     have zV:=hVw.size
     have zN:=xN.size
     have rXN:=qc rXV xN
     have kXN:=qa rXN
     have rSN:=qc rSV xN
     clear hBN kXV
     obtain⟨lv,An,nn,cn,er,rfl,hcase⟩:∃ lv An nn cn er,uN=.tuple #[ZA lv An nn cn,.int .i64 er]∧((er≠0∧qu S a=none)∨(er=0∧lv=0∧∃ xs,qu S a=some (0,xs)∧nn=xs.length∧Zp V.heap.size wN (.slice An nn cn) xs)):=by
      rcases hnd:qu S a with _|⟨l,xs⟩
      ·rw[hnd] at hN
       obtain⟨er,hne,rfl⟩:=hN
       exact⟨0,none,0,0,er,rfl,.inl ⟨hne,rfl⟩⟩
      ·rw[hnd] at hN
       obtain⟨A9,c9,rfl,hi⟩:=hN
       obtain rfl:=hleaf l xs hnd
       exact⟨0,A9,xs.length,c9,0,rfl,.inr ⟨rfl,rfl,xs,rfl,rfl,hi⟩⟩
     replace hcase:=zH hcase
     clear hN
     go_upto_region 11 with fail
     generalize hwM:World.alloc wN _=wM
     have xM:Ext wN wM:=by rw[←hwM];exact Ext.alloc _ _
     have rN:wM.heap[wN.heap.size]?=some (.cells #[.int .i64 lv,.slice An nn cn] 49 (0,0)):=by rw[←hwM];exact World.alloc_heap_at _ _ _ rfl
     clear hwM
     have xVM:Ext V wM:=xN.trans xM
     have g0:∀ U,ql.r wM U→_:=fun U hU=>g0' U (Ext.trans hV (Ext.trans xVM hU))
     have g1:∀ U,ql.r wM U→_:=fun U hU=>g1' U (Ext.trans hV (Ext.trans xVM hU))
     have hfg:∀ U,Ext wM U→U.frozen? ⟨g,a,none⟩=false:=fun U hU=>(Zc (QJ hown.out (Ext.trans hVw (Ext.trans xVM hU)))).2.1 a
     have hcg:∀ U,ql.r wM U→_:=fun U hU=>g2' U (Ext.trans hV (Ext.trans xVM hU))
     clear g0' g1' g2' hW hV
     refine qm (by kernel_rfl) ?_
     refine qR (w:=wM) ql (qG []) (List.replicate 8 true) 1 (by kernel_rfl) (by kernel_rfl) (by kernel_rfl) (by kernel_rfl) (by kernel_rfl) (by kernel_rfl) (by kernel_rfl) ?st (Rel.drew _ _) ?walk
     case st=>exact qk (fun _ h=>by cases h)
     case walk =>
      intro K hK
      dsimp only[qp,List.replicate]
      repeat ((first|(refine qd ?_ (by rfl) (by rfl) (fun W hW _=>⟨W,?_,Rel.refl _ W⟩) ?_;rotate_left;(first|(go_simp;with_reducible rfl)|(go_simp;done)))|(refine qh (by rfl) ?_));try simp only[Act.put,qi,qe,qb,qf,zA,zB,zC])
      first
       |(refine qd (.pointer (some ⟨g,a,none⟩)) (by rfl) (by rfl) (fun W hW _=>⟨W,?_,Rel.refl _ W⟩) ?_
         ·go_simp
          intro hge
          exfalso
          omega
         simp only[Act.put,qi,qe,qb,qf,zA,zB,zC])
       |skip
      repeat ((first|(refine qd ?_ (by rfl) (by rfl) (fun W hW _=>⟨W,?_,Rel.refl _ W⟩) ?_;rotate_left;(first|(go_simp;with_reducible rfl)|(go_simp;done)))|(refine qh (by rfl) ?_));try simp only[Act.put,qi,qe,qb,qf,zA,zB,zC])
      refine qt (hK _ _ fun U hU hF=>?_)
      clear hF hK
      have hU:Ext wM U:=hU
      dsimp only[List.drop,List.length_cons,List.length_nil,Nat.reduceAdd,Nat.reduceSub]
      have k2:=hcg U hU
      have f2:=hfg U hU
      have xVU:Ext V U:=xVM.trans hU
      have hCnt:=(hbV.out.ext xVU).count ha2 0
      have hK0:qS lo b g k V (U.setCell ⟨g,a,none⟩ (.int .u8 0)):=(qS.of_ext xVU (by omega)).trans hCnt.2 (QV.refl _ _)
      have hkB:=zH (hKV.out.trans hK0 (QV.refl _ _))
      have hb0:Bch D B lo b g k (qF S (S.now.set a 0)) (U.setCell ⟨g,a,none⟩ (.int .u8 0)):=hCnt.1
      have cB:∀ q,q≠g→(U.setCell ⟨g,a,none⟩ (.int .u8 0)).heap[q]?=U.heap[q]?:=fun q hq=>Below.heap_setCell _ _ _ _ hq
      have rSB:=(cB _ (by omega)).trans (qc rSN (xM.trans hU))
      have rXB:=(cB _ (by omega)).trans (qc rXN (xM.trans hU))
      have rNB:=(cB wN.heap.size (by omega)).trans (qc rN hU)
      have hFB:(U.setCell ⟨g,a,none⟩ (.int .u8 0)).cell? ⟨bF,oF+a,none⟩=some (.int .u8 1):=by
       rw[World.cell?_setCell_other _ _ _ _ (fun e=>by
        have h1:=congrArg Addr.block e
        simp only at h1
        have h2:=QM (by exact hown.out) g rfl
        exact hFg.out (by omega))]
       exact Ext.cell xVU hFV
      have zB:V.heap.size≤U.heap.size:=xVU.size
      have hitB:∀ xs,Zp V.heap.size wN (.slice An nn cn) xs→∀ C,qP (B3 b g k) (U.setCell ⟨g,a,none⟩ (.int .u8 0)) C→Its C C.heap.size (.slice An nn cn) xs:=fun xs hi C hC=>by
       have h1:qP (B3 b g k) wN (U.setCell ⟨g,a,none⟩ (.int .u8 0)):=(qP.of_ext (xM.trans hU)).trans hCnt.2.keepX fun _ _ h=>h
       exact hi.keepX (h1.trans hC fun _ _ h=>h) fun q hq hx=>by have:=(hbV.out.b3 q hx).2;omega
      replace hitB:=zH hitB
      replace hb0:=zH hb0
      clear g0 g1 hfg hcg hCnt hK0 rSN rXN rN cB rSV rXV
      go_wp2
      refine Qn ?_
      generalize World.setCell U _ _=wB at *
      have kSB:=qa rSB
      have kXB:=qa rXB
      have kNB:=qa rNB
      rcases hcase.out with ⟨hne,hnd⟩|⟨rfl,rfl,xs,hnd,rfl,hi⟩
      ·have hq:=zH (show zy S (-1) S.now a=none by rw[hq1.out,hnd])
       have hne2:(er != 0)=true:=by rw[bne_iff_ne];exact hne
       clear hq1 hitB hb0 hFB hcase
       go_wp2_with fail
       exact jW rfl rfl (vO.bad hq.out hkB.out)
      ·have hlx:Hid (xs.length≤5):=zH (jG hnd).2.2
       have hq2:Hid (zy S (-1) S.now a=match QD (Qb xs) (S.now.set a 0) with
        | .error _=>none
        | .ok t'=>some t'):=zH (by rw[hq1.out,hnd];simp only;rw[if_neg (by omega)])
       have hrr:=UI hnd
       have hio:=zH (fun x hx=>((Qa hnd).2.1 x hx).1.2.2.2.1.1)
       have hx0:=hitB.out xs hi
       replace hx0:=zH hx0
       replace hrr:=zH hrr
       have hA:=(hx0.out wB (qP.refl _ _)).at_.2.2.2
       replace hA:=zH hA
       clear hq1 hcase hnd hi hitB
       go_wp2_with fail
       go_loopw [4,126] (fun v i wr=>L0I D B lo b g k S (S.now.set a 0) xs wB v i wr) (fun _ i _=>xs.length-(intOf i).toNat)
       case atStart=>exact⟨0,_,rfl,Nat.zero_le _,rfl,rfl,hb0.out,qS.refl _ _ _ _ _⟩
       case round =>
        obtain⟨j,t,rfl,hj,rfl,hlo,hbt,hbm⟩:=hrel.ex
        clear hrel
        have hkA:=zH (hkB.out.trans hbm (QV.refl _ _))
        have nB:∀ {q cs ty fr},wB.heap[q]?=some (.cells cs ty fr)→ty≠191→ty≠5→ty≠130→¬B3 b g k q:=fun hr h1 h2 h3=>hb0.out.notB3 hr h1 h2 h3
        have rNr:=hbm.row rNB (nB rNB (by decide) (by decide) (by decide))
        have rSr:=hbm.row rSB (nB rSB (by decide) (by decide) (by decide))
        have kNr:=qa rNr
        have kSr:=qa rSr
        clear nB
        by_cases hlt:j<xs.length
        ·obtain⟨bi,off,rfl,hbi⟩:=hA.out (by omega)
         obtain⟨A',c',d0,d1,d2,d3,d4,-⟩:=(hx0.out wr hbm.keepX).item j hlt
         have hr8:=hrr.out _ (List.mem_map_of_mem (f:=fun x:It=>x.r.toNat) (List.getElem_mem hlt))
         have hr0:0≤xs[j].r:=hio.out _ (List.getElem_mem hlt)
         have hbad:=zH (fun h0 h1=>Tr hlt hlo h0 h1)
         have hmore:=zH (fun h0 h1=>Xh hlt hlo h0 h1)
         have hskip:=zH (fun h0=>Xg hlt hlo h0)
         generalize xs[j]=x at *
         have hj1:=zH (IntWalk.wrap64_in ((j:Int)+1) (by have:=hlx.out;omega))
         obtain⟨r,hra⟩:∃ r:Nat,x.r=(r:Int):=⟨x.r.toNat,by omega⟩
         have hsa:(x.r).toNat=r:=by omega
         have ha9:r<256:=by rw[hsa] at hr8;exact hr8.2
         rw[hra] at d3
         rw[hsa] at hbad hmore hskip
         have hz:=hbt.size.2.2.2.2.2.1
         have HL:=zH (fun W (hW:Ext wr W)=>XB D B lo b g k (qF S t) r ha9 W (hbt.ext hW))
         replace hbt:=zH hbt
         replace hbm:=zH hbm
         clear hra hsa hr8 hr0 hlo hbi
         rcases Nat.eq_zero_or_pos r with ha0|ha0
         ·subst ha0
          have hF:L0I D B lo b g k S (S.now.set a 0) xs wB (.int .i64 0) (.int .i64 ((j:Int)+1)) (wr.alloc (.cells #[.int .u8 x.k,.int .u32 x.i,.int .u32 x.o,.int .i64 0,.slice A' x.val.length c'] 68)):=⟨j+1,t,rfl,by omega,rfl,hskip.out rfl,hbt.out.ext (Ext.alloc _ _),hbm.out.trans (qS.of_ext (Ext.alloc _ _) hz) (QV.refl _ _)⟩
          replace hF:=zH hF
          clear hbad hmore hskip HL
          go_wp2_with fail
          try rw[hj1.out]
          refine⟨hF.out,?_⟩
          simp[intOf]
          omega
         ·have hza:((r:Int) == 0)=false:=by rw[beq_eq_false_iff_ne];omega
          have hzb:decide (r=0)=false:=decide_eq_false (by omega)
          replace ha0:=zH ha0
          go_wp2_with fail
          generalize hwa:World.alloc _ _=wa
          have xa:Ext wr wa:=by rw[←hwa];exact Ext.alloc _ _
          clear hwa d0 d1 d2 d3 d4
          refine(HL.out wa xa).mono ?_
          clear HL
          rintro e wl ⟨hkl,hcl⟩
          have hkl2:=hbm.out.trans ((qS.of_ext xa hz).trans hkl (QV.refl _ _)) (QV.refl _ _)
          rcases hcl with ⟨hc0,rfl⟩|⟨hc0,rfl,hbl⟩
          ·have hq:=zH (show zy S (-1) S.now a=none by rw[hq2.out,hbad.out (by have:=ha0.out;omega) hc0])
           have hkZ:=zH (hkB.out.trans hkl2 (QV.refl _ _))
           clear hq2 hbad hmore hskip hkl hkl2 hc0 hkA
           go_wp2_with fail
           exact jW rfl rfl (vO.bad hq.out hkZ.out)
          ·have hF:L0I D B lo b g k S (S.now.set a 0) xs wB (.int .i64 0) (.int .i64 ((j:Int)+1)) wl:=⟨j+1,_,rfl,by omega,rfl,hmore.out (by have:=ha0.out;omega) hc0,hbl,hkl2⟩
           replace hF:=zH hF
           clear hq2 hbad hmore hskip hkl hkl2 hc0 hbl hkA
           go_wp2_with fail
           try rw[hj1.out]
           refine⟨hF.out,?_⟩
           simp[intOf]
           omega
        ·obtain rfl:j=xs.length:=by omega
         rw[List.take_length] at hlo
         have hR:=zH (vO.good (D:=D) (B:=B) (lo:=lo) (b:=b) (g:=g) (k:=k) (S:=S) (a:=a) (w:=w) (W:=wr) (t:=t) (by rw[hq2.out,hlo]) hkA.out hbt)
         clear hq2 hlo hbt hbm hkA
         go_wp2_with fail
         rw[rounds_succ]
         go_wp2_with fail
         exact jW rfl rfl hR.out
end Go.Proofs.YtpbniokljofedaaGreat
