/- Texts Build, Leave0, PAsk, PutW, BackN, DRead, BackS, PutI, joined. -/
import Derived.Test.YtpbniokljofedaaGreatZF07
import Derived.Test.YtpbniokljofedaaGreatZF10
import Derived.Test.YtpbniokljofedaaGreatZF13
import Derived.Test.YtpbniokljofedaaGreatZF14
import Derived.Test.YtpbniokljofedaaGreatZF15
import Derived.Test.YtpbniokljofedaaGreatZF17
import Derived.Test.YtpbniokljofedaaGreatZF18
import Derived.Test.YtpbniokljofedaaGreatZF20
import Derived.Test.YtpbniokljofedaaGreatZF21
set_option linter.unusedSimpArgs false
set_option linter.unusedVariables false
set_option maxHeartbeats 8000000
namespace Go.Proofs.YtpbniokljofedaaGreat
open Go.RowKit
def Kz (D:Nat→Prop) (B lo b g:Nat) (k:Option Nat) (S:Sto) (lvl:Int) (l held:List It) (w:World) (e:Ending) (W:World):Prop:=qY lo b g k w W ∧
 match QW S lvl l held with
 | .error er=>e=.returned (.tuple #[.slice none 0 0,.int .i64 er])
 | .ok (up,S')=>∃ k' D' A c,e=.returned (.tuple #[.slice A up.length c,.int .i64 0])∧Ze w.heap.size k k'∧Kt w.heap.size D D'∧Bch D' B lo b g k' S' W∧qm S'=true∧W.ownsRow w.heap.size 68 5 (.slice A up.length c) up.length (qQ (upV up))∧∀ q,(Value.slice A up.length c).ownBlock=some q→¬D' q
theorem Kz.bad {D:Nat→Prop} {B lo b g:Nat} {k:Option Nat} {S:Sto} {lvl:Int} {l held:List It} {w W:World} {er:Int} (h:QW S lvl l held=.error er) (hB:qY lo b g k w W):Kz D B lo b g k S lvl l held w (.returned (.tuple #[.slice none 0 0,.int .i64 er])) W:=by
 refine⟨hB,?_⟩
 rw[h]
structure BdI (D:Nat→Prop) (B lo b g:Nat) (k:Option Nat) (S:Sto) (lvl:Int) (ps:List (List It)) (P:Nat) (pv:List Value) (w:World) (v i:Value) (wr:World):Prop where
 ex:∃ (j:Nat) (ups:List It) (S':Sto) (k':Option Nat) (D':Nat→Prop) (Av:Option Addr) (cv:Nat),j≤ps.length∧i=.int .i64 (j:Int)∧v=.slice Av j cv∧ups.length=j∧ZT lvl (ps.take j) S=.ok (ups,S')∧qm S'=true∧Ze w.heap.size k k'∧Kt w.heap.size D D'∧Bch D' B lo b g k' S' wr∧qY lo b g k w wr ∧
  wr.ownsRow w.heap.size 68 5 (.slice Av j cv) j (qQ (upV ups))∧(∀ q,(Value.slice Av j cv).ownBlock=some q→¬D' q∧P<q)∧wr.heap[P]?=some (.cells pv.toArray 47 (0,0))∧P<wr.heap.size
structure HdI (D:Nat→Prop) (B lo b g:Nat) (k:Option Nat) (S:Sto) (held:List It) (vu:Value) (wm:World) (v i:Value) (wr:World):Prop where
 ex:∃ (j:Nat) (t:List UInt8),v=vu∧j≤held.length∧i=.int .i64 (j:Int)∧QI (qV (held.take j)) S.now=.ok t∧Bch D B lo b g k (qw S t) wr∧qY lo b g k wm wr
theorem Ty {R:Ending→World→Prop} {a:Act} {W:World} {u v:Value} (h8:a.tmps[8]?.getD undef=u) (h9:a.tmps[9]?.getD undef=v) (hd:a.defers=[]) (hR:R (.returned (.tuple #[u,v])) W):bodyPost Tryz.prog Tryz.f103 R .ret a W:=by
 refine bodyPost_ret (v:=.tuple #[u,v]) ?_ hd hR
 simp[results,Tryz.results103,go_sem,h8,h9]
set_option maxRecDepth 100000 in
theorem qbe (D:Nat→Prop) (B lo b g:Nat) (k:Option Nat) (S:Sto) (hS:qm S=true) (lvl:Int) (A:Option Addr) (n c:Nat) (its:List It) (hio:∀ x∈its,ZY x) (hn0:0<its.length) (hn1:its.length≤100) (loh:Nat) (vh:Value) (hps:List (It×Value)) (held:List It) (hhm:hps.map (·.1)=held) (hh1:∀ p∈hps,∃ A c,p.2=.slice A p.1.val.length c) (hhr:∀ x∈held,(x.r=0∨8≤x.r)∧x.r<256) (hhl:held.length≤100) (w:World) (h:Bch D B lo b g k S w) (hx:Vk (B3 b g k) w (.slice A n c) its)
  (hho:w.ownsRow loh 68 5 vh held.length (qQ hps)) :
  Calls Tryz.prog 103 #[.pointer (some ⟨b,0,none⟩),.int .i64 lvl,.slice A n c,vh] w (Kz D B lo b g k S lvl its held w):=by
 obtain⟨hlb,hzb,hlg,hzg,hgb,hlw,hkq⟩:=h.size
 obtain⟨hnn,hnc,hcm,hA⟩:=hx.now.at_
 subst hnn
 obtain⟨bi,off,rfl,hbi⟩:=hA (by omega)
 obtain⟨Ah,ch,rfl,hcc1,hcc2⟩:=qv hho
 clear hA hkq
 replace h:=zH h
 replace hx:=zH hx
 replace hio:=zH hio
 replace hcm:=zH hcm
 replace hcc2:=zH hcc2
 replace hho:=zH hho
 rcases Nat.lt_or_ge 5 its.length with h5|h5
 case' inl =>
  have hpo:=zH (show vy its=[its.take 3,its.drop 3] by unfold vy;exact if_pos h5)
  have e5:decide ((5:Int)<(its.length:Int))=true:=decide_eq_true (by omega)
  go_enter Tryz.func103,Tryz.ntmps103
  go_upto_region 3 with fail
  generalize hw0:World.alloc _ _=w0
  have x0:Ext w w0:=by rw[←hw0];exact zN _ _
  have z0:w.heap.size<w0.heap.size:=by rw[←hw0];simp
  clear hw0
  refine qo (by kernel_rfl) ?_
  refine qO (w:=w0) ql (qF []) (List.replicate 4 true) 2 (by kernel_rfl) (by kernel_rfl) (by kernel_rfl) (by kernel_rfl) (by kernel_rfl) (by kernel_rfl) (by kernel_rfl) ?st (Rel.drew _ _) ?walk
  case' st=>exact qk (fun _ h=>by cases h)
  case' walk =>
   intro K hK
   dsimp only[qp,List.replicate]
   repeat ((first|(refine qe ?_ (by rfl) (by rfl) (fun W hW _=>⟨W,?_,Rel.refl _ W⟩) ?_;rotate_left;(go_simp<;>with_reducible rfl))|(refine qh (by rfl) ?_));try simp only[Act.put,qj,qf,qc,qg,qc,qN,zA,zB,zC])
   refine qe (.slice (some ⟨bi,off,none⟩) 3 c) (by rfl) (by rfl) (fun W hW _=>⟨W,?_,Rel.refl _ W⟩) ?_
   ·go_simp
    intro hc3
    exfalso
    omega
   simp only[Act.put,qj,qf,qc,qg,qc,qN,zA,zB,zC]
   repeat ((first|(refine qe ?_ (by rfl) (by rfl) (fun W hW _=>⟨W,?_,Rel.refl _ W⟩) ?_;rotate_left;(go_simp<;>with_reducible rfl))|(refine qh (by rfl) ?_));try simp only[Act.put,qj,qf,qc,qg,qc,qN,zA,zB,zC])
   refine qe (.slice (some ⟨bi,off+3*5,none⟩) (its.length-3) (c-3)) (by rfl) (by rfl) (fun W hW _=>⟨W,?_,Rel.refl _ W⟩) ?_
   ·go_simp
    rw[if_pos (by omega),if_neg (by omega)]
   simp only[Act.put,qj,qf,qc,qg,qc,qN,zA,zB,zC]
   repeat ((first|(refine qe ?_ (by rfl) (by rfl) (fun W hW _=>⟨W,?_,Rel.refl _ W⟩) ?_;rotate_left;(go_simp<;>with_reducible rfl))|(refine qh (by rfl) ?_));try simp only[Act.put,qj,qf,qc,qg,qc,qN,zA,zB,zC])
   refine qt (hK _ _ fun W hW hF=>?_)
   clear hF hK
   have hW:Ext w0 W:=hW
   dsimp only[List.drop,List.length_cons,List.length_nil,Nat.reduceAdd,Nat.reduceSub]
   go_wp2
   refine Qm ?_
   go_wp2_with fail
   have x1:Ext w (W.alloc (.cells #[.slice (some ⟨bi,off,none⟩) 3 c,.slice (some ⟨bi,off+15,none⟩) (its.length-3) (c-3)] 47)):=(x0.trans hW).trans (zN _ _)
   have zP0:w.heap.size≤W.heap.size:=(x0.trans hW).size
   obtain⟨ps,hpe⟩:∃ ps,ps=[its.take 3,its.drop 3]:=⟨_,rfl⟩
   obtain⟨pv,hpv⟩:∃ pv:List Value,pv=[.slice (some ⟨bi,off,none⟩) 3 c,.slice (some ⟨bi,off+15,none⟩) (its.length-3) (c-3)]:=⟨_,rfl⟩
   have hpl:ps.length=2:=by rw[hpe];rfl
   have hel:Hid (∀ j (hj:j<ps.length),∃ bj oj cj,pv[j]?=some (.slice (some ⟨bj,oj,none⟩) ps[j].length cj)∧Vk (B3 b g k) w (.slice (some ⟨bj,oj,none⟩) ps[j].length cj) ps[j]∧0<ps[j].length∧∀ x∈ps[j],ZY x):=zH fun j hj=>by
    have e3:(its.take 3).length=3:=by rw[List.length_take];omega
    rcases j with _|_|j
    ·subst hpe hpv
     refine⟨bi,off,c,?_,?_,?_,fun x hxm=>hio.out x (List.mem_of_mem_take hxm)⟩
     ·simp only[List.getElem_cons_zero,e3];rfl
     ·simp only[List.getElem_cons_zero,e3];exact hx.out.take (by omega)
     ·simp only[List.getElem_cons_zero,e3];omega
    ·subst hpe hpv
     refine⟨bi,off+15,c-3,?_,?_,?_,fun x hxm=>hio.out x (List.mem_of_mem_drop hxm)⟩
     ·simp only[List.getElem_cons_succ,List.getElem_cons_zero,List.length_drop];rfl
     ·simp only[List.getElem_cons_succ,List.getElem_cons_zero,List.length_drop];exact hx.out.drop (k:=3) (by omega)
     ·simp only[List.getElem_cons_succ,List.getElem_cons_zero,List.length_drop];omega
    ·omega
   have hPr:(W.alloc (.cells #[.slice (some ⟨bi,off,none⟩) 3 c,.slice (some ⟨bi,off+15,none⟩) (its.length-3) (c-3)] 47)).heap[W.heap.size]?=some (.cells pv.toArray 47 (0,0)):=by rw[hpv];exact zI _ _ _ rfl
   have hpsE:=zH (hpo.out.trans hpe.symm)
   clear hpe hpv hpo h5 e5 x0 z0 hW
   generalize World.alloc W _=w1 at *
   generalize W.heap.size=P at *
   generalize Value.slice (some ⟨bi,off+15,none⟩) (its.length-3) (c-3)=v26
   generalize Value.slice (some ⟨bi,off,none⟩) 3 c=v24
   generalize Value.slice (some ⟨w.heap.size,0,none⟩) 1 1=v19
 case' inr =>
  have hpo:=zH (show vy its=[its] by unfold vy;exact if_neg (by omega))
  have e5:decide ((5:Int)<(its.length:Int))=false:=decide_eq_false (by omega)
  go_enter Tryz.func103,Tryz.ntmps103
  go_wp2_with fail
  have x1:Ext w (w.alloc (.cells #[.slice (some ⟨bi,off,none⟩) its.length c] 47)):=zN _ _
  have zP0:w.heap.size≤w.heap.size:=zM _
  obtain⟨ps,hpe⟩:∃ ps,ps=[its]:=⟨_,rfl⟩
  obtain⟨pv,hpv⟩:∃ pv:List Value,pv=[.slice (some ⟨bi,off,none⟩) its.length c]:=⟨_,rfl⟩
  have hpl:ps.length=1:=by rw[hpe];rfl
  have hel:Hid (∀ j (hj:j<ps.length),∃ bj oj cj,pv[j]?=some (.slice (some ⟨bj,oj,none⟩) ps[j].length cj)∧Vk (B3 b g k) w (.slice (some ⟨bj,oj,none⟩) ps[j].length cj) ps[j]∧0<ps[j].length∧∀ x∈ps[j],ZY x):=zH fun j hj=>by
   rcases j with _|j
   ·subst hpe hpv
    exact⟨bi,off,c,rfl,hx.out,hn0,hio.out⟩
   ·omega
  have hPr:(w.alloc (.cells #[.slice (some ⟨bi,off,none⟩) its.length c] 47)).heap[w.heap.size]?=some (.cells pv.toArray 47 (0,0)):=by rw[hpv];exact zI _ _ _ rfl
  have hpsE:=zH (hpo.out.trans hpe.symm)
  obtain⟨P,hPP⟩:∃ P,P=w.heap.size:=⟨_,rfl⟩
  rw[←hPP] at hPr
  clear hpe hpv hpo h5 e5
  generalize World.alloc w _=w1 at *
  have zP0:w.heap.size≤P:=by omega
  simp only[←hPP]
  clear hPP
 all_goals
  clear hx hio hbi hnc hcm
  go_loopw [8,30] (fun v i wr=>BdI D B lo b g k S lvl ps P pv w v i wr) (fun _ i _=>ps.length-(intOf i).toNat)
  case atStart=>exact⟨0,[],S,k,D,none,0,Nat.zero_le _,rfl,rfl,rfl,rfl,hS,Ze.refl _ _,Kt.refl _ _,h.out.ext x1,qY.of_ext x1 hlw,World.ownsRow_nil _ _ _ _,(fun q hq=>by cases hq),hPr,(zG.1 hPr).1⟩
  case round =>
   obtain⟨j,ups,S',k',D',Av,cv,hj,rfl,rfl,hul,hml,hS',hNk,hND,hbc,hbk,hown,hoD,hPw,hPz⟩:=hrel.ex
   clear hrel hPr
   have hws:=(qU hS').2.1
   by_cases hlt:j<ps.length
   ·obtain⟨bj,oj,cj,hpvj,hxj,hpos,hioj⟩:=hel.out j hlt
    have kP:wr.cell? ⟨P,j,none⟩=some (.slice (some ⟨bj,oj,none⟩) ps[j].length cj):=by rw[qa hPw];simpa using hpvj
    have hxr:=hxj.trans hbk.keepX (B3.of_new hNk)
    have HM:=zH (qbc D' B lo b g k' S' lvl (some ⟨bj,oj,none⟩) ps[j].length cj ps[j] hioj hws wr hbc hxr)
    have hbad:=zH (fun e h1=>qhV hlt (e:=e) hml h1)
    have hmore:=zH (fun f S'' h1=>qfP hlt (f:=f) (S'':=S'') hml h1)
    have hmay:=zH (fun f S'' (h1:zX S' lvl ps[j]=.ok (f,S''))=>(Yq hioj hS' h1).1)
    have hxr:=zH hxr
    have d1:∀ M:Int,M=(ps.length:Int)→decide ((j:Int)<M)=true:=fun M hM=>decide_eq_true (by omega)
    have d3:∀ M:Nat,M=ps.length→j<M:=fun M hM=>by omega
    first
     |(have d2:=d1 2 (by rw[hpl];rfl);have hjn:=d3 2 hpl.symm)
     |(have d2:=d1 1 (by rw[hpl];rfl);have hjn:=d3 1 hpl.symm)
    have hj1:=zH (IntWalk.wrap64_in ((j:Int)+1) (by omega))
    replace hpl:=zH hpl
    generalize ps[j]=p at *
    generalize hnj:p.length=nj at *
    replace hnj:=zH hnj
    clear hpvj hioj hxj d1 d3 hml hS' hws
    go_wp2_with fail
    refine HM.out.mono ?_
    clear HM
    rintro e wM ⟨hkM,hcase⟩
    have zwr:=hbk.below.size
    have zM:=hkM.below.size
    have nB:∀ {q cs ty fr},wr.heap[q]?=some (.cells cs ty fr)→ty≠191→ty≠5→ty≠130→¬B3 b g k' q:=fun hr h1 h2 h3=>hbc.notB3 hr h1 h2 h3
    have hownM:=hkM.own hown (fun q hq=>by
     obtain⟨cur,hc⟩:=ZF hown hq
     exact nB hc (by decide) (by decide) (by decide))
    have hPM:=hkM.row hPw (nB hPw (by decide) (by decide) (by decide))
    have hkAll:=hbk.trans hkM hNk
    rcases hmx:zX S' lvl p with er|⟨f,S''⟩
    ·rw[hmx] at hcase
     have hq:=zH (show QW S lvl its held=.error er by unfold QW;rw[hpsE.out,hbad.out er hmx])
     have hne:(er != 0)=true:=by rw[bne_iff_ne];exact Yp hmx
     have hcase:e=.returned (.tuple #[.int .i64 0,.int .i64 er]):=hcase
     subst hcase
     clear hmore hmay hbad hmx hownM hPM hown hPw hoD nB hbc hkM hel kP
     replace hkAll:=zH hkAll
     go_wp2_with fail
     exact Ty rfl rfl rfl (Kz.bad hq.out hkAll.out)
    ·rw[hmx] at hcase
     obtain⟨rfl,k'',D'',hN2,hD2,hb2⟩:e=.returned (.tuple #[.int .i64 (f:Int),.int .i64 0])∧∃ k'' D'',Ze wr.heap.size k' k''∧Kt wr.heap.size D' D''∧Bch D'' B lo b g k'' S'' wM:=hcase
     have hml2:=hmore.out f S'' hmx
     have hS2:=hmay.out f S'' hmx
     obtain⟨A',c',g0,g1,g2,-,-,-⟩:=((hxr.out.trans hkM.keepX (B3.of_new hN2)).now).item 0 (by rw[hnj.out];exact hpos)
     have hk0:TE p=((p[0]'(by rw[hnj.out];exact hpos)).k,(p[0]'(by rw[hnj.out];exact hpos)).i,(p[0]'(by rw[hnj.out];exact hpos)).o):=by
      have h0:0<p.length:=by rw[hnj.out];exact hpos
      rcases p with _|⟨y,r⟩
      ·simp at h0
      ·rfl
     generalize p[0]'(by rw[hnj.out];exact hpos)=y at *
     simp only[Nat.zero_mul,Nat.add_zero] at g0 g1 g2
     have hN':Ze w.heap.size k k'':=hNk.trans hN2 (by omega)
     have hDn':Kt w.heap.size D D'':=hND.trans hD2 (by omega)
     have hoq:∀ q,(Value.slice Av j cv).ownBlock=some q→w.heap.size≤q∧q<wr.heap.size:=fun q hq=>QR hown q hq
     have hfin:∀ (v':Value) (W:World),W.ownsRow w.heap.size 68 5 v' (j+1) (qQ (upV ups)++[.int .u8 y.k,.int .u32 y.i,.int .u32 y.o,.int .i64 (f:Int),.slice none 0 0])→wM.grownBy W (Value.slice Av j cv).ownBlock→Below w.heap.size wM W→(v'.ownBlock=(Value.slice Av j cv).ownBlock∨∃ g,v'.ownBlock=some g∧wM.heap.size≤g) →
       BdI D B lo b g k S lvl ps P pv w v' (.int .i64 ((j:Int)+1)) W:=fun v' W hown' hg hB hat=>by
      obtain⟨A7,c7,rfl,-,-⟩:=qv hown'
      have hrow:∀ q,q<wM.heap.size→¬OwnX (.slice Av j cv) q→W.heap[q]?=wM.heap[q]?:=fun q hq hX=>hg.block q hq fun e=>hX e.symm
      have hbl:=hb2.blo
      have hzW:=hg.size
      have hDq:∀ q,(Value.slice Av j cv).ownBlock=some q→¬D'' q:=fun q hq hd=>(hD2 q hd).elim (fun h1=>(hoD q hq).1 h1) fun h1=>by have:=(hoq q hq).2;omega
      refine⟨j+1,ups++[mkIt (TE p) f],S'',k'',D'',A7,c7,by omega,rfl,rfl,by simp[hul],hml2,hS2,hN',hDn',?_,?_,?_,?_,?_,by omega⟩
      ·refine hb2.keepX (X:=OwnX (.slice Av j cv)) (Below.mono hB (by omega)) hrow (fun q hq hX=>?_)
       rcases hq with hq|hq
       ·obtain⟨cur,hc⟩:=ZF hownM (show _=some q from hX)
        exact hb2.notB3 hc (by decide) (by decide) (by decide) hq
       ·exact hDq q hX hq
      ·refine⟨hkAll.below.trans (Below.mono hB hlw),fun q hq hn=>(hrow q (by omega) fun hX=>?_).trans (hkAll.rows q hq hn)⟩
       have:=(hoq q hX).1
       omega
      ·rw[upV_item]
       have:mkIt (TE p) f=⟨y.k,y.i,y.o,(f:Int),[]⟩:=by rw[hk0];rfl
       rw[this]
       exact hown'
      ·intro q hq
       rcases hat with e1|⟨g',e1,e2⟩
       ·rw[e1] at hq
        exact⟨hDq q hq,(hoD q hq).2⟩
       ·rw[e1] at hq
        obtain rfl:g'=q:=by simpa using hq
        exact⟨fun hd=>by have:=(hb2.dB g' hd).2.1;omega,by omega⟩
      ·refine(hrow P (by omega) fun hX=>?_).trans hPM
       have:=(hoD P hX).2
       omega
     replace hfin:=zH hfin
     obtain⟨i0,hi,hz0,hz1,hz2⟩:=info_parts Tryz.info_item
     have hzz:w.heap.size≤wM.heap.size:=by omega
     clear hmore hmay hbad hmx hPM hown hPw hoD nB hbc hkM hel kP hoq hb2 hN2 hD2 hml2 hS2 hkAll hN' hDn' hk0
     go_wp2_with (at_builtin;refine qZ ?_)
     refine Qy.go (ZM wM rfl (.tmp 45) (.tmp 52) 47 rfl w.heap.size 68 i0 _ 5 48 Tryz.underlying47 hi hz0 hz1 hz2 rfl (by decide) (.slice Av j cv) j (qQ (upV ups)) (by exact rfl) hownM #[.int .u8 y.k,.int .u32 y.i,.int .u32 y.o,.int .i64 (f:Int),.slice none 0 0] (by exact rfl) rfl (by simp[Value.oneCell']) (by omega) (by decide) hzz ?_)
     intro v' W hown' hg hB hat
     have hF:=zH (hfin.out v' W hown' hg hB hat)
     clear hfin hown' hg hB hat hownM hi
     go_wp2_with fail
     try rw[hj1.out]
     refine⟨hF.out,?_⟩
     simp[intOf]
     omega
   ·obtain rfl:j=ps.length:=by omega
    rw[List.take_length] at hml
    have d1:∀ M:Int,M=(ps.length:Int)→decide (((ps.length:Nat):Int)<M)=false:=fun M hM=>decide_eq_false (by omega)
    first
     |have d2:=d1 2 (by rw[hpl];rfl)
     |have d2:=d1 1 (by rw[hpl];rfl)
    replace hpl:=zH hpl
    have hbX:Hid (QW S lvl its held=match QI (qV held) S'.now with
     | .error e=>.error e
     | .ok t=>.ok (ups,qw S' t)):=zH (by unfold QW;simp only[hpsE.out,hml] <;> rfl)
    have hhm':=hho.out
    have hhr1:=hbk.own hho.out (fun q hq=>by
     obtain⟨cur,hc⟩:=ZF hho.out hq
     exact h.out.notB3 hc (by decide) (by decide) (by decide))
    clear hPw hPz hel hml d1 hhm'
    replace hbk:=zH hbk
    replace hown:=zH hown
    replace hoD:=zH hoD
    replace hbc:=zH hbc
    generalize hwm:wr=wm at *
    clear hwm
    go_wp2_with fail
    go_loopw [8,57] (fun v i wr=>HdI D' B lo b g k' S' held (.slice Av ps.length cv) wm v i wr) (fun _ i _=>held.length-(intOf i).toNat)
    case atStart=>exact⟨0,S'.now,rfl,Nat.zero_le _,rfl,rfl,hbc.out,qY.refl _ _ _ _ _⟩
    case round =>
     obtain⟨j,t,rfl,hj,rfl,hlo,hbt,hbm⟩:=hrel.ex
     clear hrel
     have hkA:=zH (hbk.out.trans hbm hNk)
     by_cases hlt:j<held.length
     ·have hlp:j<hps.length:=by rw[←hhm,List.length_map] at hlt;exact hlt
      have hor:=hbm.own hhr1 (fun q hq=>by
       obtain⟨cur,hc⟩:=ZF hhr1 hq
       exact hbc.out.notB3 hc (by decide) (by decide) (by decide))
      obtain⟨bh,offh,rfl,hbh,hch⟩:=(Rd.of_own hor).2 (by omega)
      obtain⟨g0,g1,g2,g3,g4⟩:=vG hps j hlp
      replace g0:=hch _ _ g0
      replace g1:=hch _ _ g1
      replace g2:=hch _ _ g2
      replace g3:=hch _ _ g3
      replace g4:=hch _ _ g4
      rw[←Nat.add_assoc] at g1 g2 g3 g4
      obtain⟨Ax,cx,hx2⟩:=hh1 hps[j] (List.getElem_mem hlp)
      have hxe:hps[j].1=held[j]:=by simp only[←hhm,List.getElem_map]
      rw[hx2] at g4
      rw[hxe] at g0 g1 g2 g3 g4
      have hrr:=hhr held[j] (List.getElem_mem hlt)
      have hbad:=zH (fun h0 h1=>GC hlt hlo h0 h1)
      have hmore:=zH (fun h0 h1=>Up hlt hlo h0 h1)
      have hskip:=zH (fun h0=>Uq hlt hlo h0)
      generalize held[j]=x at *
      have hj1:=zH (IntWalk.wrap64_in ((j:Int)+1) (by omega))
      obtain⟨a,hra⟩:∃ a:Nat,x.r=(a:Int):=⟨x.r.toNat,by omega⟩
      have ha9:a<256:=by omega
      have hsa:(x.r).toNat=a:=by omega
      rw[hra] at g3
      rw[hsa] at hbad hmore hskip
      have hz:=hbt.size.2.2.2.2.2.1
      have HL:=zH (fun W (hW:Ext wr W)=>TY D' B lo b g k' (qw S' t) a ha9 W (hbt.ext hW))
      replace hbt:=zH hbt
      replace hbm:=zH hbm
      clear hch hx2 hxe hor hra hsa hrr hlo hhr1 hlp
      rcases Nat.eq_zero_or_pos a with ha0|ha0
      ·subst ha0
       have hF:HdI D' B lo b g k' S' held (.slice Av ps.length cv) wm (.slice Av ps.length cv) (.int .i64 ((j:Int)+1)) (wr.alloc (.cells #[.int .u8 x.k,.int .u32 x.i,.int .u32 x.o,.int .i64 0,.slice Ax x.val.length cx] 68)):=⟨j+1,t,rfl,by omega,rfl,hskip.out rfl,hbt.out.ext (zN _ _),hbm.out.trans (qY.of_ext (zN _ _) hz) (Ze.refl _ _)⟩
       replace hF:=zH hF
       clear hbad hmore hskip HL
       go_wp2_with fail
       try rw[hj1.out]
       refine⟨hF.out,?_⟩
       simp[intOf]
       omega
      ·have hza:((a:Int) == 0)=false:=by rw[beq_eq_false_iff_ne];omega
       have hzb:decide (a=0)=false:=decide_eq_false (by omega)
       replace ha0:=zH ha0
       go_wp2_with fail
       generalize hwa:World.alloc _ _=wa
       have xa:Ext wr wa:=by rw[←hwa];exact zN _ _
       clear hwa g0 g1 g2 g3 g4
       refine(HL.out wa xa).mono ?_
       clear HL
       rintro e wl ⟨hkl,hcase⟩
       have hkl2:=hbm.out.trans ((qY.of_ext xa hz).trans hkl (Ze.refl _ _)) (Ze.refl _ _)
       rcases hcase with ⟨hc0,rfl⟩|⟨hc0,rfl,hbl⟩
       ·have hq:=zH (show QW S lvl its held=.error 6 by rw[hbX.out,hbad.out (by have:=ha0.out;omega) hc0])
        have hkB:=zH (hbk.out.trans hkl2 hNk)
        clear hbX hbad hmore hskip hkl hkl2 hc0 hkA
        go_wp2_with fail
        exact Ty rfl rfl rfl (Kz.bad hq.out hkB.out)
       ·have hF:HdI D' B lo b g k' S' held (.slice Av ps.length cv) wm (.slice Av ps.length cv) (.int .i64 ((j:Int)+1)) wl:=⟨j+1,_,rfl,by omega,rfl,hmore.out (by have:=ha0.out;omega) hc0,hbl,hkl2⟩
        replace hF:=zH hF
        clear hbX hbad hmore hskip hkl hkl2 hc0 hbl hkA
        go_wp2_with fail
        try rw[hj1.out]
        refine⟨hF.out,?_⟩
        simp[intOf]
        omega
     ·obtain rfl:j=held.length:=by omega
      rw[List.take_length] at hlo
      have hq:QW S lvl its held=.ok (ups,qw S' t):=by rw[hbX.out,hlo]
      have hmayt:=UT hS' (Jv (fun a ha=>by
       obtain⟨x,hxm,rfl⟩:=List.mem_map.1 ha
       have:=hhr x hxm
       omega) (qz.1 hS').2.1 hlo)
      have hor:=hbm.own hown.out (fun q hq=>by
       obtain⟨cur,hc⟩:=ZF hown.out hq
       exact hbc.out.notB3 hc (by decide) (by decide) (by decide))
      have hR:Kz D B lo b g k S lvl its held w (.returned (.tuple #[.slice Av ps.length cv,.int .i64 0])) wr:=by
       refine⟨hkA.out,?_⟩
       rw[hq]
       refine⟨k',D',Av,cv,by rw[hul],hNk,hND,hbt,hmayt,?_,?_⟩
       ·rw[hul];exact hor
       ·rw[hul];exact fun q hq=>(hoD.out q hq).1
      replace hR:=zH hR
      clear hor hmayt hq hbt hbm hlo hbX hkA hhr1
      go_wp2_with fail
      exact Ty rfl rfl rfl hR.out
def jk (D:Nat→Prop) (B lo b g:Nat) (k:Option Nat) (S:Sto) (a:Nat) (w:World) (e:Ending) (W:World):Prop:=qY lo b g k w W ∧
 match QH S (-1) S.now a with
 |none=>e=.returned (.int .i64 8)
 |some t=>e=.returned (.int .i64 0)∧Bch D B lo b g k (qw S t) W
theorem jk.bad {D:Nat→Prop} {B lo b g:Nat} {k:Option Nat} {S:Sto} {a:Nat} {w W:World} (h:QH S (-1) S.now a=none) (hB:qY lo b g k w W):jk D B lo b g k S a w (.returned (.int .i64 8)) W:=by
 refine⟨hB,?_⟩
 rw[h]
theorem jk.good {D:Nat→Prop} {B lo b g:Nat} {k:Option Nat} {S:Sto} {a:Nat} {t:List UInt8} {w W:World} (h:QH S (-1) S.now a=some t) (hB:qY lo b g k w W) (hb:Bch D B lo b g k (qw S t) W):jk D B lo b g k S a w (.returned (.int .i64 0)) W:=by
 refine⟨hB,?_⟩
 rw[h]
 exact⟨rfl,hb⟩
structure L0I (D:Nat→Prop) (B lo b g:Nat) (k:Option Nat) (S:Sto) (t0:List UInt8) (xs:List It) (wB:World) (v i:Value) (wr:World):Prop where
 ex:∃ (j:Nat) (t:List UInt8),v=.int .i64 0∧j≤xs.length∧i=.int .i64 (j:Int)∧QI (qV (xs.take j)) t0=.ok t∧Bch D B lo b g k (qw S t) wr∧qY lo b g k wB wr
theorem Bch.fresh {D:Nat→Prop} {B lo b g:Nat} {k:Option Nat} {S:Sto} {w0 w W:World} (h0:Bch D B lo b g k S w0) {S':Sto} (h:Bch D B lo b g k S' w) (hx:Below w0.heap.size w W):Bch D B lo b g k S' W:=by
 have h6:=h0.size.2.2.2.2.2.1
 have h1:=h0.blo
 exact h.keep (Below.mono hx (by omega)) fun q hq=>hx.block q (hq.elim (fun h2=>(h0.b3 q h2).2) fun h2=>(h0.dB q h2).2.1)
def Tx (S:Sto) (x:It):Int:=if itB x.r x.val.length=true then (if x.r≠0∧zE S x.r.toNat=0 then 6 else 0) else 8
abbrev itV (x:It) (A:Option Addr) (c:Nat):Value:=.agg #[.int .u8 x.k,.int .u32 x.i,.int .u32 x.o,.int .i64 x.r,.slice A x.val.length c]
set_option maxRecDepth 100000 in
theorem qfZ (A1:Option Addr) (n1 c1:Nat) (A2:Option Addr) (n2 c2:Nat) (A3:Option Addr) (n3 c3:Nat) (A4:Option Addr) (n4 c4:Nat) (S:Sto) (hS:qm S=true) (a lvl:Nat) (xs:List It) (ha:8≤a) (ha2:a<256) (hn:qu S a=some ((lvl:Int),xs)) (hsp:(Qd S lvl xs).isSome=true) (x:It) (Ax:Option Addr) (cx:Nat) (w:World)
  (hst:qP w w.heap.size (.slice A1 n1 c1) (.slice A2 n2 c2) (.slice A3 n3 c3) (.slice A4 n4 c4) S) :
  Calls Tryz.prog 97 #[qX A1 n1 c1 A2 n2 c2 A3 n3 c3 A4 n4 c4,.int .i64 (a:Int),itV x Ax cx] w (Ret (.int .i64 (Tx S x)) w):=by
 have HCK:=zH (fun W (hx:Ext w W)=>Xh A1 n1 c1 A2 n2 c2 A3 n3 c3 A4 n4 c4 S hS a ⟨ha,ha2,lvl,xs,hn,hsp⟩ W (hst.ext hx))
 have HIC:=zH (fun W=>jP x.k x.i x.o x.r Ax x.val.length cx W)
 have hnow:=TG hS hst.now
 obtain⟨b3,o3,cc3,e3,hb3,hk3⟩:=hnow
 simp only[Value.slice.injEq] at e3
 obtain⟨rfl,rfl,rfl⟩:=e3
 have hk3:=zH hk3
 obtain⟨q,hq⟩:∃ q,Tx S x=q:=⟨_,rfl⟩
 rw[hq]
 replace hq:=zH hq
 clear hst hn hsp ha ha2
 go_enter Tryz.func97,Tryz.ntmps97
 go_wp2_with fail
 generalize hw1:(World.alloc (World.alloc w _) _)=w1
 have x1:Ext w w1:=by rw[←hw1];exact(zN _ _).trans (zN _ _)
 have rs1:w1.heap[w.heap.size]?=some (.cells #[.slice A1 n1 c1,.slice A2 n2 c2,.slice (some ⟨b3,o3,none⟩) 256 c3,.slice A4 n4 c4] 28 (0,0)):=by rw[←hw1];exact(zK _ _ _ (by simp)).trans (zI _ _ _ rfl)
 have ri1:w1.heap[w.heap.size+1]?=some (.cells #[.int .u8 x.k,.int .u32 x.i,.int .u32 x.o,.int .i64 x.r,.slice Ax x.val.length cx] 68 (0,0)):=by rw[←hw1];exact zI _ _ _ (by simp)
 clear hw1
 refine(HCK.out w1 x1).mono ?_
 clear HCK
 rintro e w2 ⟨u,rfl,⟨m,rfl⟩,hB⟩
 have x2:Ext w w2:=Ext.trans x1 hB
 have rs2:=qb rs1 hB
 have ri2:=qb ri1 hB
 have ki2:=qa ri2
 clear rs1 ri1 hB x1
 go_wp2_with fail
 refine(HIC.out w2).mono ?_
 clear HIC
 rintro e w3 ⟨rfl,hB⟩
 have x3:Ext w w3:=Ext.trans x2 hB
 have rs3:=qb rs2 hB
 have ri3:=qb ri2 hB
 have ki3:=qa ri3
 have ks3:=qa rs3
 clear rs2 ri2 hB x2 ki2
 cases hit:itB x.r x.val.length
 ·have hqq:q=8:=by rw[←hq.out];unfold Tx;rw[hit];rfl
  subst hqq
  rw[jL rfl]
  go_wp2_with fail
  go_ret
  exact⟨rfl,x3⟩
 ·have hrr:x.r=0∨(8≤x.r∧x.r<256):=by unfold itB at hit;simp at hit;exact hit.1
  have hqq:Hid (q=if x.r≠0∧zE S x.r.toNat=0 then 6 else 0):=zH (by rw[←hq.out];unfold Tx;rw[if_pos hit])
  rw[show jX true=0 from rfl]
  replace hit:=zH hit
  clear hq
  rcases hrr with hr0|hr1
  ·have hq0:=zH (show q=0 by rw[hqq.out,if_neg (fun h=>h.1 hr0)])
   rw[hr0] at ki3
   clear hqq rs3 ri3
   go_wp2_with fail
   go_ret
   exact⟨by rw[hq0.out];rfl,x3⟩
  ·obtain⟨r,hra⟩:∃ r:Nat,x.r=(r:Int):=⟨x.r.toNat,by omega⟩
   have hr256:r<256:=by omega
   have hr8:8≤r:=by omega
   have hkr:=Ext.cell x3 (hk3.out r hr256)
   rw[hra] at ki3
   rw[hra,Int.toNat_natCast] at hqq
   have hz1:((r:Int) == 0)=false:=by rw[beq_eq_false_iff_ne];omega
   have hz2:((r:Int) != 0)=true:=by rw[bne_iff_ne];omega
   have hz3:decide (r=0)=false:=decide_eq_false (by omega)
   generalize zE S r=nv at *
   clear hra hr1 rs3 ri3
   by_cases h0:nv=0
   ·have hq0:=zH (show q=6 by rw[hqq.out,if_pos ⟨by omega,h0⟩])
    subst h0
    clear hqq
    go_wp2_with fail
    go_ret
    exact⟨by rw[hq0.out];rfl,x3⟩
   ·have hq0:=zH (show q=0 by rw[hqq.out,if_neg (fun h=>h0 h.2)])
    have hy1:((nv:Int) == 0)=false:=by rw[beq_eq_false_iff_ne];omega
    have hy2:decide (nv=0)=false:=decide_eq_false h0
    replace h0:=zH h0
    clear hqq
    go_wp2_with fail
    go_ret
    exact⟨by rw[hq0.out];rfl,x3⟩
theorem kQ (k:K3):∀ (ps qs:List Stp) (up:List It) (S:Sto),ZR k (ps++qs) up S=match ZR k ps up S with
  | .error e=>.error e
  | .ok (up',S')=>ZR k qs up' S'
 | [],qs,up,S=>rfl
 |(lvl,xs,p) :: ps,qs,up,S=>by
  simp only[List.cons_append,ZR]
  rcases QW S (lvl:Int) (Kq xs p (VX k lvl xs) up) up with e|⟨up',S'⟩
  ·rfl
  ·exact kQ k ps qs up' S'
theorem qhO (k:K3) (s:Stp) (up:List It) (S:Sto):ZR k [s] up S=QW S (s.1:Int) (Kq s.2.1 s.2.2 (VX k s.1 s.2.1) up) up:=by
 obtain⟨lvl,xs,p⟩:=s
 simp only[ZR]
 rcases QW S (lvl:Int) (Kq xs p (VX k lvl xs) up) up with e|⟨up',S'⟩ <;> rfl
theorem Xm:∀ {l:List Nat} {t:List UInt8} {e:Int},QI l t=.error e→e≠0
 | [],t,e,h=>by cases h
 |a :: l,t,e,h=>by
  by_cases ha:a=0
  ·subst ha;rw[Ja] at h;exact Xm h
  ·by_cases h0:Qh t a=0
   ·rw[Ju ha h0] at h;cases h;decide
   ·rw[jZ ha h0] at h;exact Xm h
theorem qbs {lvl:Int}:∀ {ps:List (List It)} {S:Sto} {e:Int},ZT lvl ps S=.error e→e≠0
 | [],S,e,h=>by cases h
 |p :: ps,S,e,h=>by
  simp only[ZT] at h
  split at h
  ·rename_i e' h'
   cases h
   exact Yp h'
  ·split at h
   ·rename_i e' h'
    cases h
    exact qbs h'
   ·cases h
theorem kH {S:Sto} {lvl:Int} {l held:List It} {e:Int} (h:QW S lvl l held=.error e):e≠0:=by
 unfold QW at h
 split at h
 ·rename_i e' h'
  cases h
  exact qbs h'
 ·split at h
  ·rename_i e' h'
   cases h
   exact Xm h'
  ·cases h
structure qdb (k:K3) (s:Stp):Prop where
 may:Qe (s.1:Int) s.2.1=true
 its:∀ x∈s.2.1,ZY x∧itB x.r x.val.length=true
 len:s.2.1.length≤5
 le:s.2.2≤s.2.1.length
 lt:0<s.1→s.2.2<s.2.1.length
 zero:s.1=0→s.2.2=qL s.2.1 k
theorem qgv {S:Sto} {k:K3}:∀ (h:Nat) {a:Nat} {xs:List It},qu S a=some ((h:Int),xs)→(Qd S h xs).isSome=true→∀ s∈vD S k h xs,qdb k s
 |0,a,xs,hn,hs,s,hm=>by
  rw[qeT] at hm
  obtain rfl:s=(0,xs,qL xs k):=by simpa using hm
  obtain⟨m1,m2,_⟩:=Qa hn
  exact⟨m1,m2,(ZO hn).2.2,JR xs k,fun h=>absurd h (Nat.lt_irrefl 0),fun _=>rfl⟩
 |h+1,a,xs,hn,hs,s,hm=>by
  obtain⟨m1,m2,_⟩:=Qa hn
  have hx:=qcp m1 (by omega)
  obtain⟨b,e1,-,-,zs,e4,e5⟩:=Jj (JV hs _ (List.getElem_mem (Jz (k:=k) hx)))
  rw[qaq (zL (Jz hx)) (by rw[e1,Int.toNat_natCast];exact e4)] at hm
  rcases List.mem_cons.1 hm with rfl|hm
  ·exact⟨m1,m2,(ZO hn).2.2,Nat.le_of_lt (Jz hx),fun _=>Jz hx,fun h=>by cases h⟩
  ·exact qgv h e4 e5 s hm
theorem many_ok {k:K3} {s:Stp} (h:qdb k s):(VX k s.1 s.2.1=0∨VX k s.1 s.2.1=1)∧s.2.2+VX k s.1 s.2.1≤s.2.1.length:=by
 have hle:=h.le
 unfold VX
 split
 ·exact⟨.inl rfl,by omega⟩
 ·rename_i hc
  refine⟨.inr rfl,?_⟩
  rcases Nat.eq_zero_or_pos s.1 with h0|h0
  ·rw[h.zero h0] at hle ⊢
   by_cases hl:qL s.2.1 k<s.2.1.length
   ·omega
   ·exact absurd ⟨h0,XH hl⟩ hc
  ·have:=h.lt h0
   omega
theorem Bch.of_on {B lo b:Nat} {A1:Option Addr} {n1 c1:Nat} {A2:Option Addr} {n2 c2:Nat} {A3:Option Addr} {n3 c3:Nat} {A4:Option Addr} {n4 c4:Nat} {A3':Option Addr} {c3':Nat} {S:Sto} {W:World} (hB:B≤lo) (hS:qm S=true) (hst:qP W B (.slice A1 n1 c1) (.slice A2 n2 c2) (.slice A3 n3 c3) (.slice A4 n4 c4) S) (hlo:lo≤b)
  (hr:W.heap[b]?=some (.cells #[.slice A1 n1 c1,.slice A2 n2 n2,.slice A3' n3 c3',.slice A4 n4 c4] 191 (0,0))) (ho:W.ownsRow lo 5 1 (.slice A3' n3 c3') n3 (S.now.map bv)):∃ g,Bch (fun _=>False) B lo b g none S W:=by
 obtain⟨hl1,hl2,hl3,hl4⟩:=qU hS
 have e3:=hst.now.at_.1
 have e4:=hst.last.at_.1
 obtain rfl:n3=256:=by omega
 obtain rfl:n4=256:=by omega
 obtain⟨g,rfl⟩:∃ g,A3'=some ⟨g,0,none⟩:=by
  rcases ho.2 with ⟨_,h0⟩|⟨g,_,_,e,_⟩
  ·cases h0
  ·cases e;exact⟨g,rfl⟩
 refine⟨g,hlo,hB,fun q h=>h.elim,A1,n1,c1,.slice A2 n2 n2,c3',A4,c4,hr,ho,?_,hst.bs,hst.last⟩
 obtain⟨ps,e,⟨A,c,e2,h1,h2,hrd⟩,hp⟩:=hst.ws
 simp only[Value.slice.injEq] at e2
 obtain⟨rfl,rfl,rfl⟩:=e2
 refine⟨ps,e,.inl ⟨rfl,by omega,A2,rfl,hrd⟩,fun p hpm=>⟨(hp p hpm).1,fun C hC=>(hp p hpm).2.keepX hC fun q hq hx=>by have:=hx.1;omega⟩⟩
def TK (S:Sto) (L:Nat) (xs:List It) (x:It):Except Int (List It×Sto):=
 if Uy (qE x) (vD S (qE x) L xs)=true then .error 120 else
 match ZR (qE x) (vD S (qE x) L xs).reverse [x] S with
 | .error e=>.error e
 | .ok (up,S1)=>if 1<up.length then QW S1 ((vD S (qE x) L xs).length:Int) up up else .ok (up,S1)
def Kh (up:List It):Nat:=match up with
 | []=>0
 |y :: _=>y.r.toNat
theorem qcH (S:Sto) (L:Nat) (xs:List It) (root:Nat) (x:It):putX S L xs root x=match TK S L xs x with
  | .error e=>.error e
  | .ok (up,S2)=>match QH S2 (-1) S2.now root with
   |none=>.error 8
   |some t=>.ok (Kh up,qw S2 t):=by
 unfold putX TK
 by_cases ht:Uy (qE x) (vD S (qE x) L xs)=true
 ·rw[if_pos ht,if_pos ht]
 ·rw[if_neg ht,if_neg ht]
  rcases ZR (qE x) (vD S (qE x) L xs).reverse [x] S with e|⟨up,S1⟩
  ·rfl
  ·simp only
   generalize (if 1<up.length then QW S1 ((vD S (qE x) L xs).length:Int) up up else Except.ok (up,S1))=r
   rcases r with e|⟨up',S2⟩
   ·rfl
   ·simp only
    rcases QH S2 (-1) S2.now root with _|t <;> rfl
def Xr (S:Sto) (L:Nat) (xs:List It) (root:Nat) (x:It):Except Int (Nat×Sto):=if Tx S x=0 then putX S L xs root x else .error (Tx S x)
def PutQ (lo:Nat) (q:Except Int (Nat×Sto)) (u:Value) (W:World):Prop:=match q with
 | .error e=>u=.tuple #[qX none 0 0 none 0 0 none 0 0 none 0 0,.int .i64 0,.int .i64 e]
 | .ok (r,S')=>∃ v,u=.tuple #[v,.int .i64 (r:Int),.int .i64 0]∧QC lo S' v W
end Go.Proofs.YtpbniokljofedaaGreat
namespace Go.Proofs.YtpbniokljofedaaGreat
open Go.RowKit Go.Shelf
attribute [local go_sem] Oper.semAt_some
set_option maxRecDepth 100000 in
theorem backN_in (n:Nat) (hn:1≤n) (l Bs b off len cap:Nat) (us:List W2) (hreach:len<1099511627776) (J Jx:List Nat→World→Prop)
  (hY:∀ pre (x:Nat) W,J pre W→pre.length<len→YieldAt Fence.wide (n-1) Tryz.prog l #[.int .i64 (x:Int),.agg #[.int .i64 (us[x]?.getD w2z).1,sv (us[x]?.getD w2z).2]] W fun e W' =>
   (e=.returned (.bool true)∧J (pre++[x]) W'∧Qr Bs b W W')∨(e=.returned (.bool false)∧Jx (pre++[x]) W'))
  (W:World) (hBs:W.cell? ⟨Bs,0,none⟩=some (.slice (some ⟨b,off,none⟩) len cap)) (hc:∀ i,i<len→W.cell? ⟨b,off+i*2,none⟩=some (.int .i64 (us[i]?.getD w2z).1)∧W.cell? ⟨b,off+i*2+1,none⟩=some (sv (us[i]?.getD w2z).2)) (h0:J [] W) :
  CallsIn Fence.wide n Tryz.prog 141 #[.func (.yield l) #[] #[],.pointer (some ⟨Bs,0,none⟩)] W fun e W'=>(∃ v,e=.returned v) ∧
   ((∃ ys,ys=ZI (fun j=>len-1-j) len∧J ys W')∨(∃ pre,(∃ k,k≤len∧pre=ZI (fun j=>len-1-j) k)∧Jx pre W')):=by
 refine callsIn_of_wp Tryz.func141 rfl trivial ?_ rfl
 simp only[Tryz.ntmps141,List.size_toArray,List.length_cons,List.length_nil,Nat.reduceAdd,Nat.reduceSub,Array.replicate_succ,Array.replicate_zero,List.push_toArray,List.append_toArray,List.nil_append,List.cons_append]
 gi_wp2
 gi_loopw [3] (fun i wr=>∃ k:Nat,k≤len∧i=.int .i64 ((len:Int)-1-k)∧J (ZI (fun j=>len-1-j) k) wr∧Qr Bs b W wr)
  (fun i _=>(intOf i+1).toNat)
 case atStart=>exact⟨0,Nat.zero_le _,by simp,h0,Qr.refl _ _ _⟩
 case round =>
  obtain⟨k,hk,rfl,hJs,hnx⟩:=hrel
  have hBr:wr.cell? ⟨Bs,0,none⟩=some (.slice (some ⟨b,off,none⟩) len cap):=(World.cell?_of_block (w:=W) hnx.1).trans hBs
  by_cases hlt:k<len
  ·have hcx:=(World.cell?_of_block (w:=W) (a:=⟨b,off+(len-1-k)*2,none⟩) hnx.2).trans (hc (len-1-k) (by omega)).1
   have hcy:=(World.cell?_of_block (w:=W) (a:=⟨b,off+(len-1-k)*2+1,none⟩) hnx.2).trans (hc (len-1-k) (by omega)).2
   obtain⟨fn,tmps,assign,body,hy,hR⟩:=hY _ (len-1-k) wr hJs (by rw[Zb];exact hlt)
   try dsimp only at hy
   obtain⟨i,hi⟩:∃ i:Nat,len-1-k=i:=⟨_,rfl⟩
   have hi2:(len:Int)-1-k=(i:Int):=by omega
   have hil:i<len:=by omega
   have hik:k+i+1≤len∧len≤k+i+1:=by omega
   have HU:=zH (vM (fun j=>len-1-j) k)
   obtain⟨u,hu⟩:∃ u,us[i]?.getD w2z=u:=⟨_,rfl⟩
   rw[hi] at hcx hcy hy hR
   rw[hu] at hcx hcy hy
   rw[hi2]
   clear hi2
   have HE:=zH hu
   clear hu
   have HI:=zH hi
   clear hi
   gi_wp2
   refine hR.mono ?_
   rintro e W3 (⟨rfl,hJ3,hk3⟩|⟨rfl,hJx3⟩)
   ·gi_wp2
    go_roundw
    case rel=>exact⟨k+1,by omega,by go_num,by rw[HU.out,HI.out];exact hJ3,hnx.t hk3⟩
    case measure=>simp[intOf]
   ·gi_wp2
    refine bodyPost_ret (results_none rfl _ _ _) rfl ?_
    exact⟨⟨_,rfl⟩,.inr ⟨_,⟨k+1,by omega,by rw[HU.out,HI.out]⟩,hJx3⟩⟩
  ·obtain rfl:k=len:=by omega
   gi_wp2
   go_end0
   exact⟨⟨_,rfl⟩,.inl ⟨_,rfl,hJs⟩⟩
set_option maxRecDepth 100000 in
theorem qbW (n l Bs c:Nat) (A:Option Addr) (J:List Nat→World→Prop) (W:World) (hBs:W.cell? ⟨Bs,0,none⟩=some (.slice A 0 c)) (h0:J [] W) :
  CallsIn Fence.wide n Tryz.prog 141 #[.func (.yield l) #[] #[],.pointer (some ⟨Bs,0,none⟩)] W fun e W'=>(∃ v,e=.returned v)∧J [] W':=by
 refine callsIn_of_wp Tryz.func141 rfl trivial ?_ rfl
 simp only[Tryz.ntmps141,List.size_toArray,List.length_cons,List.length_nil,Nat.reduceAdd,Nat.reduceSub,Array.replicate_succ,Array.replicate_zero,List.push_toArray,List.append_toArray,List.nil_append,List.cons_append]
 gi_wp2
 gi_loopw [3] (fun i wr=>i=.int .i64 (-1)∧J [] wr) (fun _ _=>0)
 case atStart=>exact⟨rfl,h0⟩
 case round =>
  obtain⟨rfl,hJs⟩:=hrel
  gi_wp2
  go_end0
  exact⟨⟨_,rfl⟩,hJs⟩
theorem qdk (n:Nat) (hn:1≤n) (Bs b:Nat) (v:Value) (us:List W2) (hreach:us.length<1099511627776) (w:World) (hBs:Bs<w.heap.size) (hb:b<w.heap.size) (hS:SW w Bs b v us) :
  SeqStopsK Fence.wide n Tryz.prog 141 #[.pointer (some ⟨Bs,0,none⟩)] (fun x:Nat=>#[.int .i64 (x:Int),.agg #[.int .i64 (us[x]?.getD w2z).1,sv (us[x]?.getD w2z).2]]) (Qr Bs b) (fun ys=>ys=ZI (fun j=>us.length-1-j) us.length)
   (fun pre=>∃ k,k≤us.length∧pre=ZI (fun j=>us.length-1-j) k) us.length w:=fun l J Jx W hW _ _ hY h0=>by
 obtain⟨hc,h⟩:=hS.keep (Qr.below hW hBs hb)
 rcases h with ⟨rfl,A,c,rfl⟩|⟨off,cap,rfl,hcs⟩
 ·exact(qbW n l Bs c A J W hc h0).mono fun e W' ⟨he,hj⟩=>⟨he,.inl ⟨_,rfl,hj⟩⟩
 ·exact backN_in n hn l Bs b off us.length cap us hreach J Jx hY W hc hcs h0
def atN (ws:List (Int×List UInt8)) (j:Nat):Int:=((ws[j]?).map (·.1)).getD 0
def datN (ws:List (Int×List UInt8)) (j:Nat):List UInt8:=((ws[j]?).map (·.2)).getD []
theorem Yy (n k j:Nat) (h:j<k):(ZI (fun i=>n-1-i) k)[j]?=some (n-1-j):=by
 unfold ZI
 rw[List.getElem?_map,List.getElem?_range h];rfl
theorem XO {ws:List (Int×List UInt8)} {a:Int}:∀ (d m:Nat),m+d=ws.length→(∀ i,m≤i→i<ws.length→atN ws i≠a)→jC ws a=jC (ws.take m) a:=by
 intro d
 induction d with
 |zero=>intro m hm _;rw[show m=ws.length by omega,List.take_length]
 |succ d ih =>
  intro m hm h
  have hne:=h m (zM _) (by omega)
  unfold atN at hne
  rw[zL (by omega)] at hne
  rw[ih (m+1) (by omega) (fun i hi hl=>h i (by omega) hl),Vt (by omega)]
  exact if_neg hne
theorem qfd {ws:List (Int×List UInt8)} {a:Int} {k:Nat} {pre:List Nat} {x:Nat} (hk:k≤ws.length) (he:pre++[x]=ZI (fun j=>ws.length-1-j) k) (hx:atN ws x=a) (hp:∀ y∈pre,atN ws y≠a):jC ws a=some (datN ws x):=by
 have hl:pre.length+1=k:=by
  have:=congrArg List.length he
  simpa [ZI] using this
 have hxk:x=ws.length-1-pre.length:=by
  have h1:=Yy ws.length k pre.length (by omega)
  rw[←he] at h1
  simpa using h1
 have hxl:x<ws.length:=by omega
 rw[XO (ws:=ws) (a:=a) pre.length (x+1) (by omega) (fun i h1 h2=>by
  have h3:=Yy ws.length k (ws.length-1-i) (by omega)
  rw[←he,List.getElem?_append_left (by omega),show ws.length-1-(ws.length-1-i)=i by omega] at h3
  exact hp _ (List.mem_of_getElem? h3)),Vt hxl]
 unfold atN at hx
 unfold datN
 rw[zL hxl] at hx ⊢
 exact if_pos hx
theorem qfc {ws:List (Int×List UInt8)} {a:Int} (hp:∀ y∈ZI (fun j=>ws.length-1-j) ws.length,atN ws y≠a):jC ws a=none:=by
 rw[XO (ws:=ws) (a:=a) ws.length 0 (by simp) (fun i _ h2=>by
  have h3:=Yy ws.length ws.length (ws.length-1-i) (by omega)
  rw[show ws.length-1-(ws.length-1-i)=i by omega] at h3
  exact hp _ (List.mem_of_getElem? h3))]
 rfl
theorem VG {w w':World} {lo:Nat} {e:TypeId} {size:Nat} {v:Value} {n:Nat} {xs:List Value} (h:w.ownsRow lo e size v n xs) (hk:Qf w w'):w'.ownsRow lo e size v n xs:=
 ⟨h.1,h.2.imp id fun ⟨g,cap,cur,h1,h2,h3,h4⟩=>⟨g,cap,cur,h1,h2,hk.row h3,h4⟩⟩
abbrev Us:Type:=Stp×Sl
abbrev usz:Us:=((0,[],0),(none,0,0))
set_option maxRecDepth 100000 in
theorem backs_in (n:Nat) (hn:1≤n) (l Bs b off len cap:Nat) (us:List Us) (hreach:len<1099511627776) (J Jx:List Nat→World→Prop)
  (hY:∀ pre (x:Nat) W,J pre W→pre.length<len→YieldAt Fence.wide (n-1) Tryz.prog l #[.int .i64 (x:Int),.agg #[.int .i64 ((us[x]?.getD usz).1.1:Int),sv (us[x]?.getD usz).2,.int .i64 ((us[x]?.getD usz).1.2.2:Int)]] W fun e W' =>
   (e=.returned (.bool true)∧J (pre++[x]) W'∧Qr Bs b W W')∨(e=.returned (.bool false)∧Jx (pre++[x]) W'))
  (W:World) (hBs:W.cell? ⟨Bs,0,none⟩=some (.slice (some ⟨b,off,none⟩) len cap)) (hc:∀ i,i<len→W.cell? ⟨b,off+i*3,none⟩=some (.int .i64 ((us[i]?.getD usz).1.1:Int))∧W.cell? ⟨b,off+i*3+1,none⟩=some (sv (us[i]?.getD usz).2)∧W.cell? ⟨b,off+i*3+2,none⟩=some (.int .i64 ((us[i]?.getD usz).1.2.2:Int))) (h0:J [] W) :
  CallsIn Fence.wide n Tryz.prog 146 #[.func (.yield l) #[] #[],.pointer (some ⟨Bs,0,none⟩)] W fun e W'=>(∃ v,e=.returned v) ∧
   ((∃ ys,ys=ZI (fun j=>len-1-j) len∧J ys W')∨(∃ pre,(∃ k,k≤len∧pre=ZI (fun j=>len-1-j) k)∧Jx pre W')):=by
 refine callsIn_of_wp Tryz.func146 rfl trivial ?_ rfl
 simp only[Tryz.ntmps146,List.size_toArray,List.length_cons,List.length_nil,Nat.reduceAdd,Nat.reduceSub,Array.replicate_succ,Array.replicate_zero,List.push_toArray,List.append_toArray,List.nil_append,List.cons_append]
 gi_wp2
 gi_loopw [3] (fun i wr=>∃ k:Nat,k≤len∧i=.int .i64 ((len:Int)-1-k)∧J (ZI (fun j=>len-1-j) k) wr∧Qr Bs b W wr)
  (fun i _=>(intOf i+1).toNat)
 case atStart=>exact⟨0,Nat.zero_le _,by simp,h0,Qr.refl _ _ _⟩
 case round =>
  obtain⟨k,hk,rfl,hJs,hnx⟩:=hrel
  have hBr:wr.cell? ⟨Bs,0,none⟩=some (.slice (some ⟨b,off,none⟩) len cap):=(World.cell?_of_block (w:=W) hnx.1).trans hBs
  by_cases hlt:k<len
  ·obtain⟨fn,tmps,assign,body,hy,hR⟩:=hY _ (len-1-k) wr hJs (by rw[Zb];exact hlt)
   have hc0:=(World.cell?_of_block (w:=W) (a:=⟨b,off+(len-1-k)*3,none⟩) hnx.2).trans (hc (len-1-k) (by omega)).1
   have hc1:=(World.cell?_of_block (w:=W) (a:=⟨b,off+(len-1-k)*3+1,none⟩) hnx.2).trans (hc (len-1-k) (by omega)).2.1
   have hc2:=(World.cell?_of_block (w:=W) (a:=⟨b,off+(len-1-k)*3+2,none⟩) hnx.2).trans (hc (len-1-k) (by omega)).2.2
   try dsimp only at hy
   obtain⟨i,hi⟩:∃ i:Nat,len-1-k=i:=⟨_,rfl⟩
   have hi2:(len:Int)-1-k=(i:Int):=by omega
   have hil:i<len:=by omega
   have hik:k+i+1≤len∧len≤k+i+1:=by omega
   have HU:=zH (vM (fun j=>len-1-j) k)
   obtain⟨u,hu⟩:∃ u,us[i]?.getD usz=u:=⟨_,rfl⟩
   rw[hi] at hc0 hc1 hc2 hy hR
   rw[hu] at hc0 hc1 hc2 hy
   rw[hi2]
   clear hi2
   have HE:=zH hu
   clear hu
   have HI:=zH hi
   clear hi
   gi_wp2
   refine hR.mono ?_
   rintro e W3 (⟨rfl,hJ3,hk3⟩|⟨rfl,hJx3⟩)
   ·gi_wp2
    go_roundw
    case rel=>exact⟨k+1,by omega,by go_num,by rw[HU.out,HI.out];exact hJ3,hnx.t hk3⟩
    case measure=>simp[intOf]
   ·gi_wp2
    refine bodyPost_ret (results_none rfl _ _ _) rfl ?_
    exact⟨⟨_,rfl⟩,.inr ⟨_,⟨k+1,by omega,by rw[HU.out,HI.out]⟩,hJx3⟩⟩
  ·obtain rfl:k=len:=by omega
   gi_wp2
   go_end0
   exact⟨⟨_,rfl⟩,.inl ⟨_,rfl,hJs⟩⟩
set_option maxRecDepth 100000 in
theorem qbZ (n l Bs c:Nat) (A:Option Addr) (J:List Nat→World→Prop) (W:World) (hBs:W.cell? ⟨Bs,0,none⟩=some (.slice A 0 c)) (h0:J [] W) :
  CallsIn Fence.wide n Tryz.prog 146 #[.func (.yield l) #[] #[],.pointer (some ⟨Bs,0,none⟩)] W fun e W'=>(∃ v,e=.returned v)∧J [] W':=by
 refine callsIn_of_wp Tryz.func146 rfl trivial ?_ rfl
 simp only[Tryz.ntmps146,List.size_toArray,List.length_cons,List.length_nil,Nat.reduceAdd,Nat.reduceSub,Array.replicate_succ,Array.replicate_zero,List.push_toArray,List.append_toArray,List.nil_append,List.cons_append]
 gi_wp2
 gi_loopw [3] (fun i wr=>i=.int .i64 (-1)∧J [] wr) (fun _ _=>0)
 case atStart=>exact⟨rfl,h0⟩
 case round =>
  obtain⟨rfl,hJs⟩:=hrel
  gi_wp2
  go_end0
  exact⟨⟨_,rfl⟩,hJs⟩
def SWs (W:World) (Bs b:Nat) (v:Value) (us:List Us):Prop:=
 W.cell? ⟨Bs,0,none⟩=some v∧((us=[]∧∃ A c,v=.slice A 0 c)∨∃ off cap,v=.slice (some ⟨b,off,none⟩) us.length cap∧∀ i,i<us.length→W.cell? ⟨b,off+i*3,none⟩=some (.int .i64 ((us[i]?.getD usz).1.1:Int))∧W.cell? ⟨b,off+i*3+1,none⟩=some (sv (us[i]?.getD usz).2)∧W.cell? ⟨b,off+i*3+2,none⟩=some (.int .i64 ((us[i]?.getD usz).1.2.2:Int)))
theorem SWs.keep {W W':World} {Bs b:Nat} {v:Value} {us:List Us} (h:SWs W Bs b v us) (hk:Qr Bs b W W'):SWs W' Bs b v us:=by
 refine⟨(World.cell?_of_block (w:=W) hk.1).trans h.1,?_⟩
 rcases h.2 with h|⟨off,cap,e,hc⟩
 ·exact .inl h
 ·exact .inr ⟨off,cap,e,fun i hi=>⟨(World.cell?_of_block (w:=W) hk.2).trans (hc i hi).1,(World.cell?_of_block (w:=W) hk.2).trans (hc i hi).2.1,(World.cell?_of_block (w:=W) hk.2).trans (hc i hi).2.2⟩⟩
theorem qdn (n:Nat) (hn:1≤n) (Bs b:Nat) (v:Value) (us:List Us) (hreach:us.length<1099511627776) (w:World) (hBs:Bs<w.heap.size) (hb:b<w.heap.size) (hS:SWs w Bs b v us) :
  SeqStopsK Fence.wide n Tryz.prog 146 #[.pointer (some ⟨Bs,0,none⟩)] (fun x:Nat=>#[.int .i64 (x:Int),.agg #[.int .i64 ((us[x]?.getD usz).1.1:Int),sv (us[x]?.getD usz).2,.int .i64 ((us[x]?.getD usz).1.2.2:Int)]]) (Qr Bs b) (fun ys=>ys=ZI (fun j=>us.length-1-j) us.length)
   (fun pre=>∃ k,k≤us.length∧pre=ZI (fun j=>us.length-1-j) k) us.length w:=fun l J Jx W hW _ _ hY h0=>by
 obtain⟨hc,h⟩:=hS.keep (Qr.below hW hBs hb)
 rcases h with ⟨rfl,A,c,rfl⟩|⟨off,cap,rfl,hcs⟩
 ·exact(qbZ n l Bs c A J W hc h0).mono fun e W' ⟨he,hj⟩=>⟨he,.inl ⟨_,rfl,hj⟩⟩
 ·exact backs_in n hn l Bs b off us.length cap us hreach J Jx hY W hc hcs h0
theorem qax (A:Option Addr) (m c:Nat) (w:World) :
  Calls Tryz.prog 100 #[.slice A m c] w (fun e w'=>e=.returned (.func (.func 146) #[] #[.pointer (some ⟨w.heap.size,0,none⟩)])∧w'=w.alloc (.cells #[.slice A m c] 153)):=by
 go_enter Tryz.func100,Tryz.ntmps100
 go_wp2
 go_ret
 exact⟨rfl,rfl⟩
end Go.Proofs.YtpbniokljofedaaGreat
namespace Go.Proofs.YtpbniokljofedaaGreat
open Go.RowKit
section
variable {w W:World}
theorem Rd.ck {B size n:Nat} {A:Option Addr} {xs:List Value} (h:Rd w B size A n xs) (hk:Qf w W):Rd W B size A n xs:=⟨h.1,fun hn=>by
 obtain⟨b,off,e,hb,hc⟩:=h.2 hn
 exact⟨b,off,e,hb,fun j u hu=>hk.cell (hc j u hu)⟩⟩
theorem Bys.ck {B:Nat} {v:Value} {l:List UInt8} (h:Bys w B v l) (hk:Qf w W):Bys W B v l:=by
 obtain⟨A,c,e,hc,hm,hr⟩:=h
 exact⟨A,c,e,hc,hm,hr.ck hk⟩
theorem Bls.ck {B:Nat} {v:Value} {bs:List (List UInt8)} (h:Bls w B v bs) (hk:Qf w W):Bls W B v bs:=by
 obtain⟨vs,A,c,e,h1,h2,h3,h4⟩:=h
 exact⟨vs,A,c,e,h1,h2,h3.ck hk,fun i u l hu hl=>(h4 i u l hu hl).ck hk⟩
theorem Qb.of_ck (X:Nat→Prop) (hk:Qf w W):Qb X w W:=fun _ _ _ hv=>hk.cell hv
theorem Bch.ck {D:Nat→Prop} {B lo b g:Nat} {k:Option Nat} {S:Sto} (h:Bch D B lo b g k S w) (hk:Qf w W):Bch D B lo b g k S W:=by
 obtain⟨A1,n1,c1,v2,c3,A4,c4,hro,ho,⟨ps,e,hw,hp⟩,h1,h4⟩:=h.ex
 refine⟨h.lob,h.blo,fun q hq=>⟨(h.dB q hq).1,by have:=(h.dB q hq).2.1;have:=hk.size;omega,(h.dB q hq).2.2⟩,A1,n1,c1,v2,c3,A4,c4,hk.row hro,VG ho hk,⟨ps,e,?_,fun p hpm=>⟨(hp p hpm).1,fun C hC=>(hp p hpm).2 C ((Qb.of_ck _ hk).trans hC fun _ _ h=>h)⟩⟩,h1.ck hk,h4.ck hk⟩
 rcases hw with ⟨e,hm,A,e2,hr⟩|⟨q,e,e2,how⟩
 ·exact .inl ⟨e,hm,A,e2,hr.ck hk⟩
 ·exact .inr ⟨q,e,e2,VG how hk⟩
end
theorem Vk.of_own {X:Nat→Prop} {w:World} {lo n:Nat} {v:Value} {ps:List (It×Value)} (ho:w.ownsRow lo 68 5 v n (qQ ps)) (hl:ps.length=n) (hX:∀ q,v.ownBlock=some q→¬X q) (hp:∀ p∈ps,(∃ A c,p.2=.slice A p.1.val.length c)∧∀ C,Qb X w C→Bys C C.heap.size p.2 p.1.val):Vk X w v (ps.map (·.1)):=fun C hC=>by
 have hrd:∀ A c,v=.slice A n c→Rd C C.heap.size 5 A n (qQ ps):=fun A c e=>by
  refine⟨ho.1,fun hn=>?_⟩
  rcases ho.2 with ⟨_,h0⟩|⟨g,cap,cur,hv,hb,hg,hnc,_,hsz,htk⟩
  ·omega
  ·have hne:¬X g:=hX g (by rw[hv];rfl)
   rw[hv] at e
   cases e
   have hc:∀ j u,(qQ ps)[j]?=some u→w.cell? ⟨g,0+j,none⟩=some u:=fun j u hu=>by
    rw[Nat.zero_add,qa hg,←Array.getElem?_toList]
    rw[←htk,List.getElem?_take] at hu
    split at hu
    ·exact hu
    ·cases hu
   have hl0:0<(qQ ps).length:=by rw[ho.1];omega
   exact⟨g,0,rfl,World.block_lt_of_cell? C ⟨g,0+0,none⟩ (hC _ _ hne (hc 0 _ (zL hl0))),fun j u hu=>hC _ _ hne (hc j u hu)⟩
 obtain⟨A,c,rfl,h1,h2⟩:=qv ho
 subst hl
 exact⟨ps,rfl,⟨A,c,by rw[List.length_map],by rw[List.length_map];exact h1,h2,by rw[List.length_map];exact hrd A c rfl⟩,fun p hpm=>⟨(hp p hpm).1,(hp p hpm).2 C hC⟩⟩
theorem Bch.others {D:Nat→Prop} {B lo b g:Nat} {k:Option Nat} {S:Sto} {w W:World} (h:Bch D B lo b g k S w) (hk:qY lo b g k w W):KeepsOthers w W:=⟨hk.below.size,fun q o hq ho=>by
 refine hk.row hq fun hx=>?_
 obtain⟨A1,n1,c1,v2,c3,A4,c4,hro,hno,⟨ps,_,hw,_⟩,_,_⟩:=h.ex
 have key:∀ cs ty fr,w.heap[q]?=some (.cells cs ty fr)→False:=fun cs ty fr hc=>by
  rw[hc] at hq
  cases hq
  cases ho
 rcases hx with rfl|rfl|e
 ·exact key _ _ _ hro
 ·obtain⟨cur,hg⟩:=ZF hno rfl
  exact key _ _ _ hg
 ·rcases hw with ⟨e1,_⟩|⟨q',e1,e2,how⟩
  ·rw[e1] at e;cases e
  ·rw[e1] at e
   cases e
   obtain⟨cur,hg⟩:=ZF how e2
   exact key _ _ _ hg⟩
def sAt (l:List Stp) (x:Nat):Stp:=l[x]?.getD (0,[],0)
theorem sAt_ok {k:K3} {l:List Stp} (h:∀ s∈l,qdb k s) (x:Nat):qdb k (sAt l x):=by
 unfold sAt
 rcases hx:l[x]? with _|s
 ·exact⟨by decide,(fun y hy=>by cases hy),Nat.zero_le _,zM _,fun h=>absurd h (Nat.lt_irrefl 0),fun _=>rfl⟩
 ·exact h s (List.mem_of_getElem? hx)
theorem qeA (l:List Stp) (k:Nat) (hk:k≤l.length):(ZI (fun j=>l.length-1-j) k).map (sAt l)=l.reverse.take k:=by
 apply List.ext_getElem?
 intro i
 unfold ZI
 rw[List.getElem?_map,List.getElem?_map,List.getElem?_take]
 by_cases hi:i<k
 ·rw[List.getElem?_range hi,if_pos hi,List.getElem?_reverse (by omega)]
  simp only[Option.map_some,sAt]
  rw[zL (by omega)]
  simp
 ·rw[List.getElem?_eq_none (by simp;omega),if_neg hi]
  rfl
structure PutI (K:K3) (l:List Stp) (S:Sto) (x:It) (B0 lo b g UB TB SB w2:Nat) (w3:World) (xv sv_:Value) (pre:List Nat) (W:World):Prop where
 ex:∃ (ups:List It) (S':Sto) (k':Option Nat) (D':Nat→Prop) (Au:Option Addr) (cu:Nat) (hps:List (It×Value)),ZR K (pre.map (sAt l)) [x] S=.ok (ups,S')∧qm S'=true∧0<ups.length∧ups.length≤2∧hps.map (·.1)=ups ∧
  (∀ y∈ups,ZY y∧(y.r=0∨8≤y.r)∧y.r<256)∧(∀ p∈hps,(∃ A c,p.2=.slice A p.1.val.length c)∧Bys W B0 p.2 p.1.val)∧W.heap[UB]?=some (.cells #[.slice Au ups.length cu] 47 (0,0))∧W.ownsRow 0 68 5 (.slice Au ups.length cu) ups.length (qQ hps)∧Bch D' B0 lo b g k' S' W
 rx:W.heap[B0+1]?=some (.cells #[.int .u8 x.k,.int .u32 x.i,.int .u32 x.o,.int .i64 x.r,xv] 68 (0,0))
 r2:W.heap[B0+2]?=some (.cells #[.slice none 0 0,.slice none 0 0,.slice none 0 0,.slice none 0 0] 28 (0,0))
 r3:W.heap[B0+3]?=some (.cells #[.int .i64 0] 3 (0,0))
 r4:W.heap[B0+4]?=some (.cells #[.int .i64 0] 36 (0,0))
 rT:W.heap[TB]?=some (.cells #[.pointer (some ⟨b,0,none⟩)] 80 (0,0))
 rS:W.heap[SB]?=some (.cells #[sv_] 153 (0,0))
 kx:Qb (fun q=>q<w2) w3 W
theorem PutI.ck {K:K3} {l:List Stp} {S:Sto} {x:It} {B0 lo b g UB TB SB w2:Nat} {w3:World} {xv sv_:Value} {pre:List Nat} {w W:World} (h:PutI K l S x B0 lo b g UB TB SB w2 w3 xv sv_ pre w) (hk:Qf w W):PutI K l S x B0 lo b g UB TB SB w2 w3 xv sv_ pre W:=by
 obtain⟨ups,S',k',D',Au,cu,hps,h1,h2,h3,h4,h5,h6,h7,h8,h9,h10⟩:=h.ex
 exact⟨⟨ups,S',k',D',Au,cu,hps,h1,h2,h3,h4,h5,h6,fun p hp=>⟨(h7 p hp).1,(h7 p hp).2.ck hk⟩,hk.row h8,VG h9 hk,h10.ck hk⟩,hk.row h.rx,hk.row h.r2,hk.row h.r3,hk.row h.r4,hk.row h.rT,hk.row h.rS,h.kx.trans (Qb.of_ck _ hk) fun _ _ h=>h⟩
end Go.Proofs.YtpbniokljofedaaGreat
