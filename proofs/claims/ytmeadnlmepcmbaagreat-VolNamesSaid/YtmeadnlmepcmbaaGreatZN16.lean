/- Lemmas of the proof. -/
import Derived.Test.YtmeadnlmepcmbaaGreatZN15
set_option linter.all false
set_option maxHeartbeats 8000000
open Go.Proofs.Tryz
namespace Go.Proofs.YtmeadnlmepcmbaaGreat
open Go.RowKit
def YM (D:Nat->Prop) (B lo b g:Nat) (k:Option Nat) (S:Sto) (lvl:Int) (l held:List It) (w:World) (e:Ending) (W:World):Prop:=Qf lo b g k w W /\
 match QQ S lvl l held with
 | .error er=>e=.returned (.tuple #[.slice none 0 0,.int .i64 er])
 | .ok (up,S')=>∃ k' D' A c,e=.returned (.tuple #[.slice A up.length c,.int .i64 0])/\ZK w.heap.size k k'/\YH w.heap.size D D'/\Bch D' B lo b g k' S' W/\ql S'=true/\W.ownsRow w.heap.size 51 5 (.slice A up.length c) up.length (Qd (upV up))/\∀ q,(Value.slice A up.length c).ownBlock=some q->¬D' q
theorem YM.bad {D:Nat->Prop} {B lo b g:Nat} {k:Option Nat} {S:Sto} {lvl:Int} {l held:List It} {w W:World} {er:Int} (h:QQ S lvl l held=.error er) (hB:Qf lo b g k w W):YM D B lo b g k S lvl l held w (.returned (.tuple #[.slice none 0 0,.int .i64 er])) W:=by refine⟨hB,?_⟩;rw[h]
structure BdI (D:Nat->Prop) (B lo b g:Nat) (k:Option Nat) (S:Sto) (lvl:Int) (ps:List (List It)) (P:Nat) (pv:List Value) (w:World) (v i:Value) (wr:World):Prop where
 ex:∃ (j:Nat) (ups:List It) (S':Sto) (k':Option Nat) (D':Nat->Prop) (Av:OA) (cv:Nat),j<=ps.length/\i=.int .i64 (j:Int)/\v=.slice Av j cv/\ups.length=j/\makeL lvl (ps.take j) S=.ok (ups,S')/\ql S'=true/\ZK w.heap.size k k'/\YH w.heap.size D D'/\Bch D' B lo b g k' S' wr/\Qf lo b g k w wr /\
  wr.ownsRow w.heap.size 51 5 (.slice Av j cv) j (Qd (upV ups))/\(∀ q,(Value.slice Av j cv).ownBlock=some q->¬D' q/\P<q)/\wr.heap[P]?=some (.cells pv.toArray 55 (0,0))/\P<wr.heap.size
structure HdI (D:Nat->Prop) (B lo b g:Nat) (k:Option Nat) (S:Sto) (held:List It) (vu:Value) (wm:World) (v i:Value) (wr:World):Prop where
 ex:∃ (j:Nat) (t:List UInt8),v=vu/\j<=held.length/\i=.int .i64 (j:Int)/\looseL (qE (held.take j)) S.now=.ok t/\Bch D B lo b g k (qy S t) wr/\Qf lo b g k wm wr
theorem Gf {R:Ending->World->Prop} {a:Act} {W:World} {u v:Value} (h8:a.tmps[8]?.getD undef=u) (h9:a.tmps[9]?.getD undef=v) (hd:a.defers=[]) (hR:R (.returned (.tuple #[u,v])) W):bodyPost prog Tryz.f130 R .ret a W:=by refine bodyPost_ret (v:=.tuple #[u,v]) ?_ hd hR;simp[results,results130,go_sem,h8,h9]
set_option maxRecDepth 100000 in
theorem qdn (D:Nat->Prop) (B lo b g:Nat) (k:Option Nat) (S:Sto) (hS:ql S=true) (lvl:Int) (A n c) (its:List It) (hio:∀ x∈its,zy x) (hn0:0<its.length) (hn1:its.length<=100) (loh:Nat) (vh:Value) (hps:List (It×Value)) (held:List It) (hhm:hps.map (·.1)=held) (hh1:∀ p∈hps,∃ A c,p.2=.slice A p.1.val.length c) (hhr:∀ x∈held,(x.r=0\/8<=x.r)/\x.r<256) (hhl:held.length<=100) (w:World) (h:Bch D B lo b g k S w) (hx:kL (B3 b g k) w (.slice A n c) its) (hho:w.ownsRow loh 51 5 vh held.length (Qd hps)):Calls prog 130 #[.pointer (some ⟨b,0,none⟩),.int .i64 lvl,.slice A n c,vh] w (YM D B lo b g k S lvl its held w):=by
 obtain⟨hlb,hzb,hlg,hzg,hgb,hlw,hkq⟩:=h.size;obtain⟨hnn,hnc,hcm,hA⟩:=hx.now.at_;subst hnn;obtain⟨bi,off,rfl,hbi⟩:=hA zO;obtain⟨Ah,ch,rfl,hcc1,hcc2⟩:=qB hho;clear hA hkq;replace h:=zH h;replace hx:=zH hx;replace hio:=zH hio;replace hcm:=zH hcm;replace hcc2:=zH hcc2;replace hho:=zH hho;rcases Nat.lt_or_ge 5 its.length with h5|h5
 case' inl =>
  have hpo:=zH (show Zs its=[its.take 3,its.drop 3] by unfold Zs;exact if_pos h5);have e5:decide ((5:Int)<(its.length:Int))=true:=decide_eq_true zO;go_enter func130,ntmps130;go_upto_region 3 with fail;generalize hw0:World.alloc _ _=w0;have x0:Ext w w0:=by rw[<-hw0];exact zN _ _
  have z0:w.heap.size<w0.heap.size:=by rw[<-hw0];simp
  clear hw0;refine qp zQ ?_;refine Qa (w:=w0) qm (qM []) (List.replicate 4 true) 2 zQ zQ zQ zQ zQ zQ zQ ?st (Rel.drew _ _) ?walk
  case' st=>exact qj (fun _ h=>by cases h)
  case' walk =>
   intro K hK;dsimp only[qw,List.replicate];refine zC7 ?_;refine qe (.slice (some ⟨bi,off,none⟩) 3 c) zA0 zA0 (fun W hW _=>⟨W,?_,Rel.refl _ W⟩) ?_
   ·go_simp;intro hc3;exfalso;omega
   refine zC7 ?_;refine qe (.slice (some ⟨bi,off+3*5,none⟩) (its.length-3) (c-3)) zA0 zA0 (fun W hW _=>⟨W,?_,Rel.refl _ W⟩) ?_
   ·go_simp;rw[if_pos zO,if_neg zO]
   refine zC7 ?_;refine qA (hK _ _ fun W hW hF=>?_);clear hF hK;have hW:Ext w0 W:=hW;refine zB7 ?_;go_wp2;refine Qw ?_;go_wp2_with fail;have x1:Ext w (W.alloc (.cells #[.slice (some ⟨bi,off,none⟩) 3 c,.slice (some ⟨bi,off+15,none⟩) (its.length-3) (c-3)] 55)):=(x0.trans hW).trans (zN _ _);have zP0:w.heap.size<=W.heap.size:=(x0.trans hW).size;obtain⟨ps,hpe⟩:∃ ps,ps=[its.take 3,its.drop 3]:=⟨_,rfl⟩
   obtain⟨pv,hpv⟩:∃ pv:List Value,pv=[.slice (some ⟨bi,off,none⟩) 3 c,.slice (some ⟨bi,off+15,none⟩) (its.length-3) (c-3)]:=⟨_,rfl⟩
   have hpl:ps.length=2:=by rw[hpe];rfl
   have hel:Hid (∀ j (hj:j<ps.length),∃ bj oj cj,pv[j]?=some (.slice (some ⟨bj,oj,none⟩) ps[j].length cj)/\kL (B3 b g k) w (.slice (some ⟨bj,oj,none⟩) ps[j].length cj) ps[j]/\0<ps[j].length/\∀ x∈ps[j],zy x):=zH fun j hj=>by
    have e3:(its.take 3).length=3:=by rw[List.length_take];omega
    rcases j with _|_|j
    ·subst hpe hpv;refine⟨bi,off,c,?_,?_,?_,fun x hxm=>hio.out x (List.mem_of_mem_take hxm)⟩
     ·simp only[List.getElem_cons_zero,e3];rfl
     ·simp only[List.getElem_cons_zero,e3];exact hx.out.take zO
     ·simp only[List.getElem_cons_zero,e3];omega
    ·subst hpe hpv;refine⟨bi,off+15,c-3,?_,?_,?_,fun x hxm=>hio.out x (List.mem_of_mem_drop hxm)⟩
     ·simp only[List.getElem_cons_succ,List.getElem_cons_zero,List.length_drop];rfl
     ·simp only[List.getElem_cons_succ,List.getElem_cons_zero,List.length_drop];exact hx.out.drop (k:=3) zO
     ·simp only[List.getElem_cons_succ,List.getElem_cons_zero,List.length_drop];omega
    ·omega
   have hPr:(W.alloc (.cells #[.slice (some ⟨bi,off,none⟩) 3 c,.slice (some ⟨bi,off+15,none⟩) (its.length-3) (c-3)] 55)).heap[W.heap.size]?=some (.cells pv.toArray 55 (0,0)):=by rw[hpv];exact zI _ _ _ rfl
   have xBA:=zH (hpo.out.trans hpe.symm);clear hpe hpv hpo h5 e5 x0 z0 hW;generalize World.alloc W _=w1 at *;generalize W.heap.size=P at *;generalize Value.slice (some ⟨bi,off+15,none⟩) (its.length-3) (c-3)=v26;generalize Value.slice (some ⟨bi,off,none⟩) 3 c=v24;generalize Value.slice (some ⟨w.heap.size,0,none⟩) 1 1=v19
 case' inr =>
  have hpo:=zH (show Zs its=[its] by unfold Zs;exact if_neg zO);have e5:decide ((5:Int)<(its.length:Int))=false:=decide_eq_false zO;go_enter func130,ntmps130;go_wp2_with fail;have x1:Ext w (w.alloc (.cells #[.slice (some ⟨bi,off,none⟩) its.length c] 55)):=zN _ _;obtain⟨ps,hpe⟩:∃ ps,ps=[its]:=⟨_,rfl⟩
  obtain⟨pv,hpv⟩:∃ pv:List Value,pv=[.slice (some ⟨bi,off,none⟩) its.length c]:=⟨_,rfl⟩
  have hpl:ps.length=1:=by rw[hpe];rfl
  have hel:Hid (∀ j (hj:j<ps.length),∃ bj oj cj,pv[j]?=some (.slice (some ⟨bj,oj,none⟩) ps[j].length cj)/\kL (B3 b g k) w (.slice (some ⟨bj,oj,none⟩) ps[j].length cj) ps[j]/\0<ps[j].length/\∀ x∈ps[j],zy x):=zH fun j hj=>by
   rcases j with _|j
   ·subst hpe hpv;exact⟨bi,off,c,rfl,hx.out,hn0,hio.out⟩
   ·omega
  have hPr:(w.alloc (.cells #[.slice (some ⟨bi,off,none⟩) its.length c] 55)).heap[w.heap.size]?=some (.cells pv.toArray 55 (0,0)):=by rw[hpv];exact zI _ _ _ rfl
  have xBA:=zH (hpo.out.trans hpe.symm);obtain⟨P,hPP⟩:∃ P,P=w.heap.size:=⟨_,rfl⟩
  rw[<-hPP] at hPr;clear hpe hpv hpo h5 e5;generalize World.alloc w _=w1 at *;have zP0:w.heap.size<=P:=zO;simp only[<-hPP];clear hPP
 all_goals
  clear hx hio hbi hnc hcm;go_loopw [8,30] (fun v i wr=>BdI D B lo b g k S lvl ps P pv w v i wr) (fun _ i _=>ps.length-(intOf i).toNat)
  case atStart=>exact⟨0,[],S,k,D,none,0,Nat.zero_le _,rfl,rfl,rfl,rfl,hS,ZK.refl _ _,YH.refl _ _,h.out.ext x1,Qf.of_ext x1 hlw,World.ownsRow_nil _ _ _ _,(fun q hq=>by cases hq),hPr,(zG.1 hPr).1⟩
  case round =>
   obtain⟨j,ups,S',k',D',Av,cv,hj,rfl,rfl,hul,hml,hS',hNk,hND,hbc,hbk,hBQ,hoD,hPw,hPz⟩:=hrel.ex;clear hrel hPr;have hws:=(qX hS').2.1;by_cases hlt:j<ps.length
   ·obtain⟨bj,oj,cj,hpvj,hxj,hRF,xAB⟩:=hel.out j hlt;have kP:wr.cell? ⟨P,j,none⟩=some (.slice (some ⟨bj,oj,none⟩) ps[j].length cj):=by rw[qa hPw];simpa using hpvj
    have hxr:=hxj.trans hbk.keepX (B3.of_new hNk);have HM:=zH (qdm D' B lo b g k' S' lvl (some ⟨bj,oj,none⟩) ps[j].length cj ps[j] xAB hws wr hbc hxr);have hJM:=zH (fun e h1=>qkg hlt (e:=e) hml h1);have hFI:=zH (fun f S'' h1=>qib hlt (f:=f) (S'':=S'') hml h1);have hmay:=zH (fun f S'' (h1:ZE S' lvl ps[j]=.ok (f,S''))=>(KF xAB hS' h1).1);have hxr:=zH hxr;have d1:∀ M:Int,M=(ps.length:Int)->decide ((j:Int)<M)=true:=fun M hM=>decide_eq_true zO;have d3:∀ M:Nat,M=ps.length->j<M:=fun M hM=>zO
    first
     |(have d2:=d1 2 (by rw[hpl];rfl);have hjn:=d3 2 hpl.symm)
     |(have d2:=d1 1 (by rw[hpl];rfl);have hjn:=d3 1 hpl.symm)
    have hj1:=zH (IntWalk.wrap64_in ((j:Int)+1) zO);replace hpl:=zH hpl;generalize ps[j]=p at *;generalize hnj:p.length=nj at *;replace hnj:=zH hnj;clear hpvj xAB hxj d1 d3 hml hS' hws;go_wp2_with fail;refine HM.out.mono ?_;clear HM;rintro e wM ⟨hkM,hDJ⟩;have zwr:=hbk.below.size;have zM:=hkM.below.size;have nB:∀ {q cs ty fr},wr.heap[q]?=some (.cells cs ty fr)->ty≠223->ty≠5->ty≠142->¬B3 b g k' q:=fun hr h1 h2 h3=>hbc.notB3 hr h1 h2 h3;have wOH:=hkM.own hBQ (fun q hq=>by obtain⟨cur,hc⟩:=jr hBQ hq;exact nB hc zD zD zD);have hPM:=hkM.row hPw (nB hPw zD zD zD);have wEY:=hbk.trans hkM hNk;rcases hmx:ZE S' lvl p with er|⟨f,S''⟩
    ·rw[hmx] at hDJ;have hq:=zH (show QQ S lvl its held=.error er by unfold QQ;rw[xBA.out,hJM.out er hmx]);have hne:(er != 0)=true:=by rw[bne_iff_ne];exact XD hmx
     have hDJ:e=.returned (.tuple #[.int .i64 0,.int .i64 er]):=hDJ;subst hDJ;clear hFI hmay hJM hmx wOH hPM hBQ hPw hoD nB hbc hkM hel kP;replace wEY:=zH wEY;go_wp2_with fail;exact Gf rfl rfl rfl (YM.bad hq.out wEY.out)
    ·rw[hmx] at hDJ;obtain⟨rfl,k'',D'',hN2,hD2,hb2⟩:e=.returned (.tuple #[.int .i64 (f:Int),.int .i64 0])/\∃ k'' D'',ZK wr.heap.size k' k''/\YH wr.heap.size D' D''/\Bch D'' B lo b g k'' S'' wM:=hDJ;have hml2:=hFI.out f S'' hmx;have hS2:=hmay.out f S'' hmx;obtain⟨A',c',g0,g1,g2,-,-,-⟩:=((hxr.out.trans hkM.keepX (B3.of_new hN2)).now).item 0 (by rw[hnj.out];exact hRF);have hk0:VR p=((p[0]'(by rw[hnj.out];exact hRF)).k,(p[0]'(by rw[hnj.out];exact hRF)).i,(p[0]'(by rw[hnj.out];exact hRF)).o):=by
      have h0:0<p.length:=by rw[hnj.out];exact hRF
      rcases p with _|⟨y,r⟩
      ·simp at h0
      ·rfl
     generalize p[0]'(by rw[hnj.out];exact hRF)=y at *;simp only[Nat.zero_mul,Nat.add_zero] at g0 g1 g2;have hN':ZK w.heap.size k k'':=hNk.trans hN2 zO;have hDn':YH w.heap.size D D'':=hND.trans hD2 zO;have hoq:∀ q,(Value.slice Av j cv).ownBlock=some q->w.heap.size<=q/\q<wr.heap.size:=fun q hq=>QZ hBQ q hq;have hCI:∀ (v':Value) (W:World),W.ownsRow w.heap.size 51 5 v' (j+1) (Qd (upV ups)++[.int .u8 y.k,.int .u32 y.i,.int .u32 y.o,.int .i64 (f:Int),.slice none 0 0])->wM.grownBy W (Value.slice Av j cv).ownBlock->Below w.heap.size wM W->(v'.ownBlock=(Value.slice Av j cv).ownBlock\/∃ g,v'.ownBlock=some g/\wM.heap.size<=g) ->
       BdI D B lo b g k S lvl ps P pv w v' (.int .i64 ((j:Int)+1)) W:=fun v' W hFW hg hB hat=>by
      obtain⟨A7,c7,rfl,-,-⟩:=qB hFW;have hCA:∀ q,q<wM.heap.size->¬OwnX (.slice Av j cv) q->W.heap[q]?=wM.heap[q]?:=fun q hq hX=>hg.block q hq fun e=>hX e.symm;have hbl:=hb2.blo;have hzW:=hg.size;have hDq:∀ q,(Value.slice Av j cv).ownBlock=some q->¬D'' q:=fun q hq hd=>(hD2 q hd).elim (fun h1=>(hoD q hq).1 h1) fun h1=>by have:=(hoq q hq).2;omega
      refine⟨j+1,ups++[Gs (VR p) f],S'',k'',D'',A7,c7,zO,rfl,rfl,by simp[hul],hml2,hS2,hN',hDn',?_,?_,?_,?_,?_,zO⟩
      ·refine hb2.keepX (X:=OwnX (.slice Av j cv)) (Below.mono hB zO) hCA (fun q hq hX=>?_);rcases hq with hq|hq
       ·obtain⟨cur,hc⟩:=jr wOH (show _=some q from hX);exact hb2.notB3 hc zD zD zD hq
       ·exact hDq q hX hq
      ·refine⟨wEY.below.trans (Below.mono hB hlw),fun q hq hn=>(hCA q zO fun hX=>?_).trans (wEY.rows q hq hn)⟩;have:=(hoq q hX).1;omega
      ·rw[upV_item];have:Gs (VR p) f=⟨y.k,y.i,y.o,(f:Int),[]⟩:=by rw[hk0];rfl
       rw[this];exact hFW
      ·intro q hq;rcases hat with e1|⟨g',e1,e2⟩
       ·rw[e1] at hq;exact⟨hDq q hq,(hoD q hq).2⟩
       ·rw[e1] at hq;obtain rfl:g'=q:=by simpa using hq
        exact⟨fun hd=>by have:=(hb2.dB g' hd).2.1;omega,zO⟩
      ·refine(hCA P zO fun hX=>?_).trans hPM;have:=(hoD P hX).2;omega
     replace hCI:=zH hCI;obtain⟨i0,hi,hz0,hz1,hz2⟩:=info_parts Tryz.info_item;have hzz:w.heap.size<=wM.heap.size:=zO;clear hFI hmay hJM hmx hPM hBQ hPw hoD nB hbc hkM hel kP hoq hb2 hN2 hD2 hml2 hS2 wEY hN' hDn' hk0;go_wp2_with (at_builtin;refine Qg ?_);refine QI.go (jF wM rfl (.tmp 45) (.tmp 52) 55 rfl w.heap.size 51 i0 _ 5 48 underlying55 hi hz0 hz1 hz2 rfl zD (.slice Av j cv) j (Qd (upV ups)) zE wOH #[.int .u8 y.k,.int .u32 y.i,.int .u32 y.o,.int .i64 (f:Int),.slice none 0 0] zE rfl zA7 zO zD hzz ?_);intro v' W hFW hg hB hat;have hF:=zH (hCI.out v' W hFW hg hB hat);clear hCI hFW hg hB hat wOH hi;go_wp2_with fail;try rw[hj1.out]
     refine⟨hF.out,?_⟩;simp[intOf];omega
   ·obtain rfl:j=ps.length:=zO;rw[List.take_length] at hml;have d1:∀ M:Int,M=(ps.length:Int)->decide (((ps.length:Nat):Int)<M)=false:=fun M hM=>decide_eq_false zO
    first
     |have d2:=d1 2 (by rw[hpl];rfl)
     |have d2:=d1 1 (by rw[hpl];rfl)
    replace hpl:=zH hpl;have hbX:Hid (QQ S lvl its held=match looseL (qE held) S'.now with
     | .error e=>.error e
     | .ok t=>.ok (ups,qy S' t)):=zH (by unfold QQ;simp only[xBA.out,hml] <;> rfl)
    have hhm':=hho.out;have wVK:=hbk.own hho.out (fun q hq=>by obtain⟨cur,hc⟩:=jr hho.out hq;exact h.out.notB3 hc zD zD zD);clear hPw hPz hel hml d1 hhm';replace hbk:=zH hbk;replace hBQ:=zH hBQ;replace hoD:=zH hoD;replace hbc:=zH hbc;generalize hwm:wr=wm at *;clear hwm;go_wp2_with fail;go_loopw [8,57] (fun v i wr=>HdI D' B lo b g k' S' held (.slice Av ps.length cv) wm v i wr) (fun _ i _=>held.length-(intOf i).toNat)
    case atStart=>exact⟨0,S'.now,rfl,Nat.zero_le _,rfl,rfl,hbc.out,Qf.refl _ _ _ _ _⟩
    case round =>
     obtain⟨j,t,rfl,hj,rfl,hlo,hbt,hbm⟩:=hrel.ex;clear hrel;have hkA:=zH (hbk.out.trans hbm hNk);by_cases hlt:j<held.length
     ·have hlp:j<hps.length:=by rw[<-hhm,List.length_map] at hlt;exact hlt
      have hor:=hbm.own wVK (fun q hq=>by obtain⟨cur,hc⟩:=jr wVK hq;exact hbc.out.notB3 hc zD zD zD);obtain⟨bh,offh,rfl,hbh,hch⟩:=(Rd.of_own hor).2 zO;obtain⟨g0,g1,g2,g3,g4⟩:=VG hps j hlp;replace g0:=hch _ _ g0;replace g1:=hch _ _ g1;replace g2:=hch _ _ g2;replace g3:=hch _ _ g3;replace g4:=hch _ _ g4;rw[<-Nat.add_assoc] at g1 g2 g3 g4;obtain⟨Ax,cx,hx2⟩:=hh1 hps[j] (List.getElem_mem hlp);have hxe:hps[j].1=held[j]:=by simp only[<-hhm,List.getElem_map]
      rw[hx2] at g4;rw[hxe] at g0 g1 g2 g3 g4;have hrr:=hhr held[j] (List.getElem_mem hlt);have hJM:=zH (fun h0 h1=>qbz hlt hlo h0 h1);have hFI:=zH (fun h0 h1=>qaf hlt hlo h0 h1);have hRP:=zH (fun h0=>qag hlt hlo h0);generalize held[j]=x at *;have hj1:=zH (IntWalk.wrap64_in ((j:Int)+1) zO);obtain⟨a,hra⟩:∃ a:Nat,x.r=(a:Int):=⟨x.r.toNat,zO⟩
      have ha9:a<256:=zO;have hsa:(x.r).toNat=a:=zO;rw[hra] at g3;rw[hsa] at hJM hFI hRP;have hz:=hbt.size.2.2.2.2.2.1;have HL:=zH (fun W (hW:Ext wr W)=>GP D' B lo b g k' (qy S' t) a ha9 W (hbt.ext hW));replace hbt:=zH hbt;replace hbm:=zH hbm;clear hch hx2 hxe hor hra hsa hrr hlo wVK hlp;rcases Nat.eq_zero_or_pos a with ha0|ha0
      ·subst ha0;have hF:HdI D' B lo b g k' S' held (.slice Av ps.length cv) wm (.slice Av ps.length cv) (.int .i64 ((j:Int)+1)) (wr.alloc (.cells #[.int .u8 x.k,.int .u32 x.i,.int .u32 x.o,.int .i64 0,.slice Ax x.val.length cx] 51)):=⟨j+1,t,rfl,zO,rfl,hRP.out rfl,hbt.out.ext (zN _ _),hbm.out.trans (Qf.of_ext (zN _ _) hz) (ZK.refl _ _)⟩
       replace hF:=zH hF;clear hJM hFI hRP HL;go_wp2_with fail;try rw[hj1.out]
       refine⟨hF.out,?_⟩;simp[intOf];omega
      ·have hza:((a:Int) == 0)=false:=by rw[beq_eq_false_iff_ne];omega
       replace ha0:=zH ha0;go_wp2_with fail;generalize hwa:World.alloc _ _=wa;have xa:Ext wr wa:=by rw[<-hwa];exact zN _ _
       clear hwa g0 g1 g2 g3 g4;refine(HL.out wa xa).mono ?_;clear HL;rintro e wl ⟨hkl,hDJ⟩;have wIC:=hbm.out.trans ((Qf.of_ext xa hz).trans hkl (ZK.refl _ _)) (ZK.refl _ _);rcases hDJ with ⟨hc0,rfl⟩|⟨hc0,rfl,hbl⟩
       ·have hq:=zH (show QQ S lvl its held=.error 6 by rw[hbX.out,hJM.out (by have:=ha0.out;omega) hc0]);have hkB:=zH (hbk.out.trans wIC hNk);clear hbX hJM hFI hRP hkl wIC hc0 hkA;go_wp2_with fail;exact Gf rfl rfl rfl (YM.bad hq.out hkB.out)
       ·have hF:HdI D' B lo b g k' S' held (.slice Av ps.length cv) wm (.slice Av ps.length cv) (.int .i64 ((j:Int)+1)) wl:=⟨j+1,_,rfl,zO,rfl,hFI.out (by have:=ha0.out;omega) hc0,hbl,wIC⟩
        replace hF:=zH hF;clear hbX hJM hFI hRP hkl wIC hc0 hbl hkA;go_wp2_with fail;try rw[hj1.out]
        refine⟨hF.out,?_⟩;simp[intOf];omega
     ·obtain rfl:j=held.length:=zO;rw[List.take_length] at hlo;have hq:QQ S lvl its held=.ok (ups,qy S' t):=by rw[hbX.out,hlo]
      have wFN:=Uv hS' (JO (fun a ha=>by obtain⟨x,hxm,rfl⟩:=List.mem_map.1 ha;have:=hhr x hxm;omega) (qF.1 hS').2.1 hlo);have hor:=hbm.own hBQ.out (fun q hq=>by obtain⟨cur,hc⟩:=jr hBQ.out hq;exact hbc.out.notB3 hc zD zD zD);have hR:YM D B lo b g k S lvl its held w (.returned (.tuple #[.slice Av ps.length cv,.int .i64 0])) wr:=by
       refine⟨hkA.out,?_⟩;rw[hq];refine⟨k',D',Av,cv,by rw[hul],hNk,hND,hbt,wFN,?_,?_⟩
       ·rw[hul];exact hor
       ·rw[hul];exact fun q hq=>(hoD.out q hq).1
      replace hR:=zH hR;clear hor wFN hq hbt hbm hlo hbX hkA wVK;go_wp2_with fail;exact Gf rfl rfl rfl hR.out
def jW (D:Nat->Prop) (B lo b g:Nat) (k:Option Nat) (S:Sto) (a:Nat) (w:World) (e:Ending) (W:World):Prop:=Qf lo b g k w W /\
 match QL S (-1) S.now a with
 |none=>e=.returned (.int .i64 8)
 |some t=>e=.returned (.int .i64 0)/\Bch D B lo b g k (qy S t) W
theorem jW.bad {D:Nat->Prop} {B lo b g:Nat} {k:Option Nat} {S:Sto} {a:Nat} {w W:World} (h:QL S (-1) S.now a=none) (hB:Qf lo b g k w W):jW D B lo b g k S a w (.returned (.int .i64 8)) W:=by refine⟨hB,?_⟩;rw[h]
theorem jW.good {D:Nat->Prop} {B lo b g:Nat} {k:Option Nat} {S:Sto} {a:Nat} {t:List UInt8} {w W:World} (h:QL S (-1) S.now a=some t) (hB:Qf lo b g k w W) (hb:Bch D B lo b g k (qy S t) W):jW D B lo b g k S a w (.returned (.int .i64 0)) W:=by refine⟨hB,?_⟩;rw[h];exact⟨rfl,hb⟩
structure L0I (D:Nat->Prop) (B lo b g:Nat) (k:Option Nat) (S:Sto) (t0:List UInt8) (xs:List It) (wB:World) (v i:Value) (wr:World):Prop where
 ex:∃ (j:Nat) (t:List UInt8),v=.int .i64 0/\j<=xs.length/\i=.int .i64 (j:Int)/\looseL (qE (xs.take j)) t0=.ok t/\Bch D B lo b g k (qy S t) wr/\Qf lo b g k wB wr
theorem Bch.fresh {D:Nat->Prop} {B lo b g:Nat} {k:Option Nat} {S:Sto} {w0 w W:World} (h0:Bch D B lo b g k S w0) {S':Sto} (h:Bch D B lo b g k S' w) (hx:Below w0.heap.size w W):Bch D B lo b g k S' W:=by have h6:=h0.size.2.2.2.2.2.1;have h1:=h0.blo;exact h.keep (Below.mono hx zO) fun q hq=>hx.block q (hq.elim (fun h2=>(h0.b3 q h2).2) fun h2=>(h0.dB q h2).2.1)
def XV (S:Sto) (x:It):Int:=if itB x.r x.val.length=true then (if x.r≠0/\Zo S x.r.toNat=0 then 6 else 0) else 8
abbrev itV (x:It) (A:OA) (c:Nat):Value:=.agg #[.int .u8 x.k,.int .u32 x.i,.int .u32 x.o,.int .i64 x.r,.slice A x.val.length c]
set_option maxRecDepth 100000 in
theorem qik (A1 n1 c1 A2 n2 c2 A3 n3 c3 A4 n4 c4) (S:Sto) (hS:ql S=true) (a lvl:Nat) (xs:List It) (ha:8<=a) (ha2:a<256) (hn:qu S a=some ((lvl:Int),xs)) (hsp:(qG S lvl xs).isSome=true) (x:It) (Ax:OA) (cx:Nat) (w:World) (hst:qZ w w.heap.size (.slice A1 n1 c1) (.slice A2 n2 c2) (.slice A3 n3 c3) (.slice A4 n4 c4) S):Calls prog 126 #[Qk A1 n1 c1 A2 n2 c2 A3 n3 c3 A4 n4 c4,.int .i64 (a:Int),itV x Ax cx] w (Ret (.int .i64 (XV S x)) w):=by
 have HCK:=zH (fun W (hx:Ext w W)=>TD A1 n1 c1 A2 n2 c2 A3 n3 c3 A4 n4 c4 S hS a ⟨ha,ha2,lvl,xs,hn,hsp⟩ W (hst.ext hx));have HIC:=zH (fun W=>JL x.k x.i x.o x.r Ax x.val.length cx W);have xAV:=Gu hS hst.now;obtain⟨b3,o3,cc3,e3,hb3,hk3⟩:=xAV;simp only[Value.slice.injEq] at e3;obtain⟨rfl,rfl,rfl⟩:=e3;have hk3:=zH hk3;obtain⟨q,hq⟩:∃ q,XV S x=q:=⟨_,rfl⟩
 rw[hq];replace hq:=zH hq;clear hst hn hsp ha ha2;go_enter func126,ntmps126;go_wp2_with fail;generalize hw1:(World.alloc (World.alloc w _) _)=w1;have x1:Ext w w1:=by rw[<-hw1];exact(zN _ _).trans (zN _ _)
 have rs1:w1.heap[w.heap.size]?=some (.cells #[.slice A1 n1 c1,.slice A2 n2 c2,.slice (some ⟨b3,o3,none⟩) 256 c3,.slice A4 n4 c4] 28 (0,0)):=by rw[<-hw1];exact(zK _ _ _ zA2).trans (zI _ _ _ rfl)
 have ri1:w1.heap[w.heap.size+1]?=some (.cells #[.int .u8 x.k,.int .u32 x.i,.int .u32 x.o,.int .i64 x.r,.slice Ax x.val.length cx] 51 (0,0)):=by rw[<-hw1];exact zI _ _ _ zA2
 clear hw1;refine(HCK.out w1 x1).mono ?_;clear HCK;rintro e w2 ⟨u,rfl,⟨m,rfl⟩,hB⟩;have x2:Ext w w2:=Ext.trans x1 hB;have rs2:=qb rs1 hB;have ri2:=qb ri1 hB;have ki2:=qa ri2;clear rs1 ri1 hB x1;go_wp2_with fail;refine(HIC.out w2).mono ?_;clear HIC;rintro e w3 ⟨rfl,hB⟩;have x3:Ext w w3:=Ext.trans x2 hB;have rs3:=qb rs2 hB;have ri3:=qb ri2 hB;have ki3:=qa ri3;have ks3:=qa rs3;clear rs2 ri2 hB x2 ki2;cases hit:itB x.r x.val.length
 ·have hqq:q=8:=by rw[<-hq.out];unfold XV;rw[hit];rfl
  subst hqq;rw[Jl rfl];go_wp2_with fail;go_ret;exact⟨rfl,x3⟩
 ·have hrr:x.r=0\/(8<=x.r/\x.r<256):=by unfold itB at hit;simp at hit;exact hit.1
  have hqq:Hid (q=if x.r≠0/\Zo S x.r.toNat=0 then 6 else 0):=zH (by rw[<-hq.out];unfold XV;rw[if_pos hit]);rw[show Jz true=0 from rfl];replace hit:=zH hit;clear hq;rcases hrr with hr0|hr1
  ·have hq0:=zH (show q=0 by rw[hqq.out,if_neg (fun h=>h.1 hr0)]);rw[hr0] at ki3;clear hqq rs3 ri3;go_wp2_with fail;go_ret;exact⟨by rw[hq0.out];rfl,x3⟩
  ·obtain⟨r,hra⟩:∃ r:Nat,x.r=(r:Int):=⟨x.r.toNat,zO⟩
   have wOM:r<256:=zO;have hr8:8<=r:=zO;have hkr:=Ext.cell x3 (hk3.out r wOM);rw[hra] at ki3;rw[hra,Int.toNat_natCast] at hqq;have hz2:((r:Int) != 0)=true:=by rw[bne_iff_ne];omega
   generalize Zo S r=nv at *;clear hra hr1 rs3 ri3;by_cases h0:nv=0
   ·have hq0:=zH (show q=6 by rw[hqq.out,if_pos ⟨zO,h0⟩]);subst h0;clear hqq;go_wp2_with fail;go_ret;exact⟨by rw[hq0.out];rfl,x3⟩
   ·have hq0:=zH (show q=0 by rw[hqq.out,if_neg (fun h=>h0 h.2)]);have hy1:((nv:Int) == 0)=false:=by rw[beq_eq_false_iff_ne];omega
    replace h0:=zH h0;clear hqq;go_wp2_with fail;go_ret;exact⟨by rw[hq0.out];rfl,x3⟩
theorem JZ (k:K3):∀ (ps qs:List Stp) (up:List It) (S:Sto),jA k (ps++qs) up S=match jA k ps up S with
  | .error e=>.error e
  | .ok (up',S')=>jA k qs up' S'
 | [],qs,up,S=>rfl
 |(lvl,xs,p) :: ps,qs,up,S=>by
  simp only[List.cons_append,jA];rcases QQ S (lvl:Int) (Vq xs p (Jt k lvl xs) up) up with e|⟨up',S'⟩
  ·rfl
  ·exact JZ k ps qs up' S'
theorem Kz (k:K3) (s:Stp) (up:List It) (S:Sto):jA k [s] up S=QQ S (s.1:Int) (Vq s.2.1 s.2.2 (Jt k s.1 s.2.1) up) up:=by obtain⟨lvl,xs,p⟩:=s;simp only[jA];rcases QQ S (lvl:Int) (Vq xs p (Jt k lvl xs) up) up with e|⟨up',S'⟩ <;> rfl
theorem TJ:∀ {l:List Nat} {t:List UInt8} {e:Int},looseL l t=.error e->e≠0
 | [],t,e,h=>by cases h
 |a :: l,t,e,h=>by
  by_cases ha:a=0
  ·subst ha;rw[jC] at h;exact TJ h
  ·by_cases h0:qL t a=0
   ·rw[Jd ha h0] at h;cases h;decide
   ·rw[jB ha h0] at h;exact TJ h
theorem qdz {lvl:Int}:∀ {ps:List (List It)} {S:Sto} {e:Int},makeL lvl ps S=.error e->e≠0
 | [],S,e,h=>by cases h
 |p :: ps,S,e,h=>by
  simp only[makeL] at h;split at h
  ·rename_i e' h';cases h;exact XD h'
  ·split at h
   ·rename_i e' h';cases h;exact qdz h'
   ·cases h
theorem KR {S:Sto} {lvl:Int} {l held:List It} {e:Int} (h:QQ S lvl l held=.error e):e≠0:=by
 unfold QQ at h;split at h
 ·rename_i e' h';cases h;exact qdz h'
 ·split at h
  ·rename_i e' h';cases h;exact TJ h'
  ·cases h
structure qfp (k:K3) (s:Stp):Prop where
 may:Qn (s.1:Int) s.2.1=true
 its:∀ x∈s.2.1,zy x/\itB x.r x.val.length=true
 len:s.2.1.length<=5
 le:s.2.2<=s.2.1.length
 lt:0<s.1->s.2.2<s.2.1.length
 zero:s.1=0->s.2.2=qD s.2.1 k
theorem qiG {S:Sto} {k:K3}:∀ (h:Nat) {a:Nat} {xs:List It},qu S a=some ((h:Int),xs)->(qG S h xs).isSome=true->∀ s∈kJ S k h xs,qfp k s
 |0,a,xs,hn,hs,s,hm=>by
  rw[UU] at hm;obtain rfl:s=(0,xs,qD xs k):=by simpa using hm
  obtain⟨m1,m2,_⟩:=qQ hn;exact⟨m1,m2,(jH hn).2.2,JD xs k,fun h=>absurd h (Nat.lt_irrefl 0),fun _=>rfl⟩
 |h+1,a,xs,hn,hs,s,hm=>by
  obtain⟨m1,m2,_⟩:=qQ hn;have hx:=Uu m1 zO;obtain⟨b,e1,-,-,zs,e4,e5⟩:=ZM (ZP hs _ (List.getElem_mem (jQ (k:=k) hx)));rw[Xs (zL (jQ hx)) (by rw[e1,Int.toNat_natCast];exact e4)] at hm;rcases List.mem_cons.1 hm with rfl|hm
  ·exact⟨m1,m2,(jH hn).2.2,Nat.le_of_lt (jQ hx),fun _=>jQ hx,fun h=>by cases h⟩
  ·exact qiG h e4 e5 s hm
theorem many_ok {k:K3} {s:Stp} (h:qfp k s):(Jt k s.1 s.2.1=0\/Jt k s.1 s.2.1=1)/\s.2.2+Jt k s.1 s.2.1<=s.2.1.length:=by
 have hle:=h.le;unfold Jt;split
 ·exact⟨.inl rfl,zO⟩
 ·rename_i hc;refine⟨.inr rfl,?_⟩;rcases Nat.eq_zero_or_pos s.1 with h0|h0
  ·rw[h.zero h0] at hle ⊢;by_cases hl:qD s.2.1 k<s.2.1.length
   ·omega
   ·exact absurd ⟨h0,XA hl⟩ hc
  ·have:=h.lt h0;omega
theorem Bch.of_on {B lo b:Nat} {A1:OA} {n1 c1:Nat} {A2:OA} {n2 c2:Nat} {A3:OA} {n3 c3:Nat} {A4:OA} {n4 c4:Nat} {A3':OA} {c3':Nat} {S:Sto} {W:World} (hB:B<=lo) (hS:ql S=true) (hst:qZ W B (.slice A1 n1 c1) (.slice A2 n2 c2) (.slice A3 n3 c3) (.slice A4 n4 c4) S) (hlo:lo<=b) (hr:W.heap[b]?=some (.cells #[.slice A1 n1 c1,.slice A2 n2 n2,.slice A3' n3 c3',.slice A4 n4 c4] 223 (0,0))) (ho:W.ownsRow lo 5 1 (.slice A3' n3 c3') n3 (S.now.map bv)):∃ g,Bch (fun _=>False) B lo b g none S W:=by
 obtain⟨hl1,hl2,hl3,hl4⟩:=qX hS;have e3:=hst.now.at_.1;have e4:=hst.last.at_.1;obtain rfl:n3=256:=zO;obtain rfl:n4=256:=zO;obtain⟨g,rfl⟩:∃ g,A3'=some ⟨g,0,none⟩:=by
  rcases ho.2 with ⟨_,h0⟩|⟨g,_,_,e,_⟩
  ·cases h0
  ·cases e;exact⟨g,rfl⟩
 refine⟨g,hlo,hB,fun q h=>h.elim,A1,n1,c1,.slice A2 n2 n2,c3',A4,c4,hr,ho,?_,hst.bs,hst.last⟩;obtain⟨ps,e,⟨A,c,e2,h1,h2,hrd⟩,hp⟩:=hst.ws;simp only[Value.slice.injEq] at e2;obtain⟨rfl,rfl,rfl⟩:=e2;refine⟨ps,e,.inl ⟨rfl,zO,A2,rfl,hrd⟩,fun p hpm=>⟨(hp p hpm).1,fun C hC=>(hp p hpm).2.keepX hC fun q hq hx=>by have:=hx.1;omega⟩⟩
def Gy (S:Sto) (L:Nat) (xs:List It) (x:It):Except Int (List It×Sto):=
 if qas (qt x) (kJ S (qt x) L xs)=true then .error 120 else
 match jA (qt x) (kJ S (qt x) L xs).reverse [x] S with
 | .error e=>.error e
 | .ok (up,S1)=>if 1<up.length then QQ S1 ((kJ S (qt x) L xs).length:Int) up up else .ok (up,S1)
def Yr (up:List It):Nat:=match up with
 | []=>0
 |y :: _=>y.r.toNat
theorem qeS (S:Sto) (L:Nat) (xs:List It) (root:Nat) (x:It):putX S L xs root x=match Gy S L xs x with
  | .error e=>.error e
  | .ok (up,S2)=>match QL S2 (-1) S2.now root with
   |none=>.error 8
   |some t=>.ok (Yr up,qy S2 t):=by
 unfold putX Gy;by_cases ht:qas (qt x) (kJ S (qt x) L xs)=true
 ·rw[if_pos ht,if_pos ht]
 ·rw[if_neg ht,if_neg ht];rcases jA (qt x) (kJ S (qt x) L xs).reverse [x] S with e|⟨up,S1⟩
  ·rfl
  ·simp only;generalize (if 1<up.length then QQ S1 ((kJ S (qt x) L xs).length:Int) up up else Except.ok (up,S1))=r;rcases r with e|⟨up',S2⟩
   ·rfl
   ·simp only;rcases QL S2 (-1) S2.now root with _|t <;> rfl
def XW (S:Sto) (L:Nat) (xs:List It) (root:Nat) (x:It):Except Int (Nat×Sto):=if XV S x=0 then putX S L xs root x else .error (XV S x)
def PutQ (lo:Nat) (q:Except Int (Nat×Sto)) (u:Value) (W:World):Prop:=match q with
 | .error e=>u=.tuple #[Qk none 0 0 none 0 0 none 0 0 none 0 0,.int .i64 0,.int .i64 e]
 | .ok (r,S')=>∃ v,u=.tuple #[v,.int .i64 (r:Int),.int .i64 0]/\zl lo S' v W
end Go.Proofs.YtmeadnlmepcmbaaGreat
namespace Go.Proofs.YtmeadnlmepcmbaaGreat
open Go.RowKit Go.Shelf
attribute [local go_sem] Oper.semAt_some
set_option maxRecDepth 100000 in
theorem backN_in (n:Nat) (hn:1<=n) (l Bs b off len cap:Nat) (us:List W2) (hJR:len<1099511627776) (J Jx:List Nat->World->Prop) (hY:∀ pre (x:Nat) W,J pre W->pre.length<len->YieldAt Fence.wide (n-1) prog l #[.int .i64 (x:Int),.agg #[.int .i64 (us[x]?.getD w2z).1,sv (us[x]?.getD w2z).2]] W fun e W' =>
   (e=.returned (.bool true)/\J (pre++[x]) W'/\Qy Bs b W W')\/(e=.returned (.bool false)/\Jx (pre++[x]) W'))
  (W:World) (hBs:W.cell? ⟨Bs,0,none⟩=some (.slice (some ⟨b,off,none⟩) len cap)) (hc:∀ i,i<len->W.cell? ⟨b,off+i*2,none⟩=some (.int .i64 (us[i]?.getD w2z).1)/\W.cell? ⟨b,off+i*2+1,none⟩=some (sv (us[i]?.getD w2z).2)) (h0:J [] W) :
  CallsIn Fence.wide n prog 189 #[.func (.yield l) #[] #[],.pointer (some ⟨Bs,0,none⟩)] W fun e W'=>(∃ v,e=.returned v) /\
   ((∃ ys,ys=jw (fun j=>len-1-j) len/\J ys W')\/(∃ pre,(∃ k,k<=len/\pre=jw (fun j=>len-1-j) k)/\Jx pre W')):=by
 refine callsIn_of_wp func189 rfl trivial ?_ rfl;simp only[ntmps189,List.size_toArray,List.length_cons,List.length_nil,Nat.reduceAdd,Nat.reduceSub,Array.replicate_succ,Array.replicate_zero,List.push_toArray,List.append_toArray,List.nil_append,List.cons_append]
 gi_wp2
 gi_loopw [3] (fun i wr=>∃ k:Nat,k<=len/\i=.int .i64 ((len:Int)-1-k)/\J (jw (fun j=>len-1-j) k) wr/\Qy Bs b W wr)
  (fun i _=>(intOf i+1).toNat)
 case atStart=>exact⟨0,Nat.zero_le _,zA2,h0,Qy.refl _ _ _⟩
 case round =>
  obtain⟨k,hk,rfl,hJs,hnx⟩:=hrel;have hBr:wr.cell? ⟨Bs,0,none⟩=some (.slice (some ⟨b,off,none⟩) len cap):=(World.cell?_of_block (w:=W) hnx.1).trans hBs;by_cases hlt:k<len
  ·have hcx:=(World.cell?_of_block (w:=W) (a:=⟨b,off+(len-1-k)*2,none⟩) hnx.2).trans (hc (len-1-k) zO).1;have hcy:=(World.cell?_of_block (w:=W) (a:=⟨b,off+(len-1-k)*2+1,none⟩) hnx.2).trans (hc (len-1-k) zO).2;obtain⟨fn,tmps,assign,body,hy,hR⟩:=hY _ (len-1-k) wr hJs (by rw[ZH];exact hlt);try dsimp only at hy
   obtain⟨i,hi⟩:∃ i:Nat,len-1-k=i:=⟨_,rfl⟩
   have hi2:(len:Int)-1-k=(i:Int):=zO;have hil:i<len:=zO;have hik:k+i+1<=len/\len<=k+i+1:=zO;have HU:=zH (VN (fun j=>len-1-j) k);obtain⟨u,hu⟩:∃ u,us[i]?.getD w2z=u:=⟨_,rfl⟩
   rw[hi] at hcx hcy hy hR;rw[hu] at hcx hcy hy;rw[hi2];clear hi2;clear hu;have HI:=zH hi;clear hi
   gi_wp2
   refine hR.mono ?_;rintro e W3 (⟨rfl,hJ3,hk3⟩|⟨rfl,wBI⟩)
   ·gi_wp2
    go_roundw
    case rel=>exact⟨k+1,zO,by go_num,by rw[HU.out,HI.out];exact hJ3,hnx.t hk3⟩
    case measure=>simp[intOf]
   ·gi_wp2
    refine bodyPost_ret (results_none rfl _ _ _) rfl ?_;exact⟨⟨_,rfl⟩,.inr ⟨_,⟨k+1,zO,by rw[HU.out,HI.out]⟩,wBI⟩⟩
  ·obtain rfl:k=len:=zO
   gi_wp2
   go_end0;exact⟨⟨_,rfl⟩,.inl ⟨_,rfl,hJs⟩⟩
set_option maxRecDepth 100000 in
theorem qej (n l Bs c:Nat) (A:OA) (J:List Nat->World->Prop) (W:World) (hBs:W.cell? ⟨Bs,0,none⟩=some (.slice A 0 c)) (h0:J [] W):CallsIn Fence.wide n prog 189 #[.func (.yield l) #[] #[],.pointer (some ⟨Bs,0,none⟩)] W fun e W'=>(∃ v,e=.returned v)/\J [] W':=by
 refine callsIn_of_wp func189 rfl trivial ?_ rfl;simp only[ntmps189,List.size_toArray,List.length_cons,List.length_nil,Nat.reduceAdd,Nat.reduceSub,Array.replicate_succ,Array.replicate_zero,List.push_toArray,List.append_toArray,List.nil_append,List.cons_append]
 gi_wp2
 gi_loopw [3] (fun i wr=>i=.int .i64 (-1)/\J [] wr) (fun _ _=>0)
 case atStart=>exact⟨rfl,h0⟩
 case round =>
  obtain⟨rfl,hJs⟩:=hrel
  gi_wp2
  go_end0;exact⟨⟨_,rfl⟩,hJs⟩
theorem GM (n:Nat) (hn:1<=n) (Bs b:Nat) (v:Value) (us:List W2) (hJR:us.length<1099511627776) (w:World) (hBs:Bs<w.heap.size) (hb:b<w.heap.size) (hS:SW w Bs b v us):SeqStopsK Fence.wide n prog 189 #[.pointer (some ⟨Bs,0,none⟩)] (fun x:Nat=>#[.int .i64 (x:Int),.agg #[.int .i64 (us[x]?.getD w2z).1,sv (us[x]?.getD w2z).2]]) (Qy Bs b) (fun ys=>ys=jw (fun j=>us.length-1-j) us.length)
   (fun pre=>∃ k,k<=us.length/\pre=jw (fun j=>us.length-1-j) k) us.length w:=fun l J Jx W hW _ _ hY h0=>by
 obtain⟨hc,h⟩:=hS.keep (Qy.below hW hBs hb);rcases h with ⟨rfl,A,c,rfl⟩|⟨off,cap,rfl,hcs⟩
 ·exact(qej n l Bs c A J W hc h0).mono fun e W' ⟨he,hj⟩=>⟨he,.inl ⟨_,rfl,hj⟩⟩
 ·exact backN_in n hn l Bs b off us.length cap us hJR J Jx hY W hc hcs h0
def atN (ws:List (Int×List UInt8)) (j:Nat):Int:=((ws[j]?).map (·.1)).getD 0
def Gg (ws:List (Int×List UInt8)) (j:Nat):List UInt8:=((ws[j]?).map (·.2)).getD []
theorem XQ (n k j:Nat) (h:j<k):(jw (fun i=>n-1-i) k)[j]?=some (n-1-j):=by unfold jw;rw[List.getElem?_map,List.getElem?_range h];rfl
theorem Uk {ws:List (Int×List UInt8)} {a:Int}:∀ (d m:Nat),m+d=ws.length->(∀ i,m<=i->i<ws.length->atN ws i≠a)->jp ws a=jp (ws.take m) a:=by
 intro d;induction d with
 |zero=>intro m hm _;rw[show m=ws.length by omega,List.take_length]
 |succ d ih =>
  intro m hm h;have hne:=h m (zM _) zO;unfold atN at hne;rw[zL zO] at hne;rw[ih (m+1) zO (fun i hi hl=>h i zO hl),Kd zO];exact if_neg hne
theorem qaZ {ws:List (Int×List UInt8)} {a:Int} {k:Nat} {pre:List Nat} {x:Nat} (hk:k<=ws.length) (he:pre++[x]=jw (fun j=>ws.length-1-j) k) (hx:atN ws x=a) (hp:∀ y∈pre,atN ws y≠a):jp ws a=some (Gg ws x):=by
 have hl:pre.length+1=k:=by have:=congrArg List.length he;simpa [jw] using this
 have hxk:x=ws.length-1-pre.length:=by have h1:=XQ ws.length k pre.length zO;rw[<-he] at h1;simpa using h1
 have hxl:x<ws.length:=zO;rw[Uk (ws:=ws) (a:=a) pre.length (x+1) zO (fun i h1 h2=>by have h3:=XQ ws.length k (ws.length-1-i) zO;rw[<-he,List.getElem?_append_left zO,show ws.length-1-(ws.length-1-i)=i by omega] at h3;exact hp _ (List.mem_of_getElem? h3)),Kd hxl];unfold atN at hx;unfold Gg;rw[zL hxl] at hx ⊢;exact if_pos hx
theorem qaY {ws:List (Int×List UInt8)} {a:Int} (hp:∀ y∈jw (fun j=>ws.length-1-j) ws.length,atN ws y≠a):jp ws a=none:=by rw[Uk (ws:=ws) (a:=a) ws.length 0 zA2 (fun i _ h2=>by have h3:=XQ ws.length ws.length (ws.length-1-i) zO;rw[show ws.length-1-(ws.length-1-i)=i by omega] at h3;exact hp _ (List.mem_of_getElem? h3))];rfl
theorem JB {w w':World} {lo:Nat} {e:TypeId} {size:Nat} {v:Value} {n:Nat} {xs:List Value} (h:w.ownsRow lo e size v n xs) (hk:qU w w'):w'.ownsRow lo e size v n xs:=
 ⟨h.1,h.2.imp id fun ⟨g,cap,cur,h1,h2,h3,h4⟩=>⟨g,cap,cur,h1,h2,hk.row h3,h4⟩⟩
theorem qkb {W W':World} (h:Ext W W'):KeepsOthers W W':=⟨h.size,fun k _ hk _=>(h.block k (zG.1 hk).1).trans hk⟩
def ReadB (b:Nat) (l:List UInt8) (W:World):Prop:=∃ v,W.heap[b+2]?=some (.cells #[v] 26 (0,0))/\W.heap[b+3]?=some (.cells #[.int .i64 0] 37 (0,0))/\W.ownsRow b 5 1 v l.length (l.map bv)
theorem qbi {n b D:Nat} {l:List UInt8} {R:Ending->World->Prop} {a:Act} {W:World} (h4:a.tmps[4]?.getD undef=.pointer (some ⟨b+1+1,0,none⟩)) (h5:a.tmps[5]?.getD undef=.pointer (some ⟨b+1+1+1,0,none⟩)) (hd:a.defers=[{ target:=.collected D,args:=#[] }]) (hK:W.heap[D]?=some (.deferred (some []))) (hD:b+3<D) (hB:ReadB b l W) (hR:∀ v W',W'.ownsRow b 5 1 v l.length (l.map bv)->W'=W.putObj D (.deferred none)->R (.returned (.tuple #[v,.int .i64 0])) W'):bodyPostM Fence.wide n prog Tryz.f91 R .ret a W:=by
 obtain⟨v,r4,r5,ho⟩:=hB;have k4:=qa ((World.putObj_heap_other (o:=.deferred none) (show b+2≠D by omega)).trans r4);have k5:=qa ((World.putObj_heap_other (o:=.deferred none) (show b+3≠D by omega)).trans r5);change LeavesInM Fence.wide n prog Tryz.f91 a.tmps R a.defers .returning W;rw[hd];refine⟨zA2,.inl ⟨_,_,rfl,run_takeDeferred hK,.tuple #[v,.int .i64 0],?_,hR v _ (JB ho ((qU.refl W).put _ hK rfl)) rfl⟩⟩;simp[results,results91,go_sem,h4,h5,k4,k5]
set_option maxRecDepth 100000 in
theorem qjR (A1 n1 c1 A2 n2 c2) (S:Sto) (hS:ql S=true) (m:Nat) (hm:m<256) (w:World) (hb:Bls w w.heap.size (.slice A1 n1 c1) S.bs) (hw:Wrs w w.heap.size (.slice A2 n2 c2) S.ws):Calls prog 91 #[Va A1 n1 c1 A2 n2 c2,.int .i64 (m:Int)] w (zF (fun u W=>∃ v,u=.tuple #[v,.int .i64 0]/\W.ownsRow w.heap.size 5 1 v (Zu S m).length ((Zu S m).map bv)) w):=by
 obtain⟨hl1,hl2,hl3,hl4⟩:=qX hS;have hE:XU (QM S.bs S.ws) (m:Int)=0:=by
  have:QM S.bs S.ws=true:=by unfold ql at hS;simp at hS;exact hS.1
  unfold XU;rw[if_pos this,if_pos zO]
 have HA:=zH (fun W (hx:Ext w W)=>qbd A1 n1 c1 A2 n2 c2 S.bs S.ws (m:Int) W ((hb.below hx).more hx.size) ((hw.below hx).more hx.size));rw[hE] at HA;clear hE;have hbl:=QS hS;have hLS:Zu S m=match jp S.ws m with|some l=>l|none=>S.bs[m]:=by unfold Zu;rw[zL zO];rfl
 obtain⟨hn1,hc1,hm1,hA1⟩:=hb.at_;obtain⟨b1,o1,rfl,hb1⟩:=hA1 zO;obtain⟨A0,c0,hcb,wHQ⟩:=hb.get (bs:=S.bs) m zO;have wTD:n1=256:=by rw[hn1,hl1]
 have hl0:S.bs[m].length<1000000:=hbl.be _ (List.getElem_mem _);have xAN:∀ j,(Gg S.ws j).length<1000000:=fun j=>by
  unfold Gg;rcases hj:S.ws[j]? with _|p
  ·simp
  ·exact hbl.we p (List.mem_of_getElem? hj)
 generalize S.bs[m]=l0 at *;generalize Zu S m=l at *;generalize xBQ:S.ws=ws at *;obtain⟨ps,hps,⟨A2',c2',e2,hw1,hw2,hw3⟩,hw4⟩:=hw;rw[<-hps] at hLS e2 hw1 hw3 hl2;clear hn1 hS hl1 hl3 hl4 hA1 hbl xBQ hb;subst wTD;simp only[Value.slice.injEq] at e2;obtain⟨rfl,hw5,rfl⟩:=e2;rw[<-hw5] at hw1 hw3 hl2;replace hw5:=zH hw5;replace hLS:=zH hLS;have hpl:ps.length=n2:=by rw[hw5.out];simp
 obtain⟨us,hus⟩:∃ us:List W2,us=ps.map fun p=>((p.1.1,ku p.2):W2):=⟨_,rfl⟩
 have hul:us.length=n2:=by rw[hus,List.length_map,hpl]
 have hua:∀ j,(us[j]?.getD w2z).1=atN ws j:=fun j=>by unfold atN;rw[hus,<-hps,List.getElem?_map,List.getElem?_map];cases ps[j]? <;> rfl
 have hud:∀ j W,Ext w W->Bys W W.heap.size (sv (us[j]?.getD w2z).2) (Gg ws j):=fun j W hx=>by
  unfold Gg;rw[hus,<-hps,List.getElem?_map,List.getElem?_map];rcases hj:ps[j]? with _|p
  ·exact⟨none,0,rfl,zM _,zA6,zA2,fun hn=>absurd hn zA2⟩
  ·obtain⟨⟨A',c',e'⟩,hy⟩:=hw4 p (List.mem_of_getElem? hj);have:sv (ku p.2)=p.2:=by rw[e'];rfl
   simp only[Option.map_some,Option.getD_some];rw[this];exact(hy.below hx).more hx.size
 refine(callsIn_wide (n:=3)).1 ?_;refine callsIn_of_wp_marks func91 rfl trivial ?_ rfl;simp only[ntmps91,List.size_toArray,List.length_cons,List.length_nil,Nat.reduceAdd,Nat.reduceSub,Array.replicate_succ,Array.replicate_zero,List.push_toArray,List.append_toArray,List.nil_append,List.cons_append];refine wpIn_wide.2 ?_;go_wp2_with fail;generalize hOT:(World.alloc (World.alloc _ _) _)=w1;have x1:Ext w w1:=by rw[<-hOT];exact(((zN _ _).trans (zN _ _)).trans (zN _ _)).trans (zN _ _)
 have s1:w1.heap.size=w.heap.size+4:=by rw[<-hOT];simp
 have ra1:w1.heap[w.heap.size]?=some (.cells #[.slice (some ⟨b1,o1,none⟩) 256 c1,.slice A2 n2 c2] 25 (0,0)):=by rw[<-hOT];exact(zK _ _ _ zA3).trans ((zK _ _ _ zA3).trans ((zK _ _ _ zA3).trans (zI _ _ _ rfl)))
 have rb1:w1.heap[w.heap.size+1]?=some (.cells #[.int .i64 (m:Int)] 3 (0,0)):=by rw[<-hOT];exact(zK _ _ _ zA3).trans ((zK _ _ _ zA3).trans (zI _ _ _ zA2))
 have rc1:w1.heap[w.heap.size+2]?=some (.cells #[.slice none 0 0] 26 (0,0)):=by rw[<-hOT];exact(zK _ _ _ zA3).trans (zI _ _ _ zA2)
 have rd1:w1.heap[w.heap.size+3]?=some (.cells #[.int .i64 0] 37 (0,0)):=by rw[<-hOT];exact zI _ _ _ zA2
 clear hOT;refine(HA.out w1 x1).mono ?_;clear HA;rintro e w2 ⟨rfl,hB⟩;have x2:Ext w w2:=x1.trans hB;have s2:=hB.size;have ra2:=qb ra1 hB;have rb2:=qb rb1 hB;have rc2:=qb rc1 hB;have rd2:=qb rd1 hB;clear hB ra1 rb1 rc1 rd1 x1;have ka2:=qa ra2;have kb2:=qa rb2;go_wp2_with fail;refine(Kl A2 n2 c2 w2).mono ?_;rintro e w3 ⟨rfl,rfl⟩;go_wp2_with fail;have x5:Ext w2 (w2.alloc (.cells #[.slice A2 n2 c2] 23)):=zN _ _;obtain⟨b2,hb2,hSW⟩:∃ b2,b2<w.heap.size/\SW (w2.alloc (.cells #[.slice A2 n2 c2] 23)) w2.heap.size b2 (.slice A2 n2 c2) us:=by
  have wIY:(w2.alloc (.cells #[.slice A2 n2 c2] 23)).cell? ⟨w2.heap.size,0,none⟩=some (.slice A2 n2 c2):=by rw[qa (zI _ _ _ rfl)];rfl
  by_cases hz:n2=0
  ·have:us=[]:=List.length_eq_zero_iff.1 zO;exact⟨b1,hb1,wIY,.inl ⟨this,A2,c2,by rw[hz]⟩⟩
  ·obtain⟨b2,o2,rfl,hlt,hc⟩:=hw3.2 zO;refine⟨b2,hlt,wIY,.inr ⟨o2,c2,by rw[hul],fun i hi=>?_⟩⟩;have hi':i<ps.length:=zO;obtain⟨g0,g1⟩:=VF ps i hi';have hx:=x2.trans x5;rw[hus];refine⟨?_,?_⟩
   ·rw[Ext.cell hx (hc _ _ g0),List.getElem?_map,zL hi'];rfl
   ·obtain⟨⟨A',c',e'⟩,_⟩:=hw4 ps[i] (List.getElem_mem hi');rw[Nat.add_assoc,Ext.cell hx (hc _ _ g1),List.getElem?_map,zL hi'];simp only[Option.map_some,Option.getD_some];rw[e'];rfl
 clear hus hw3;replace hua:=zH hua;replace hud:=zH hud;refine(wpIn_wide (n:=3)).1 ?_;refine wpIn_rangeFunc_ownH rfl zO (gf:=189) (lb:=#[.pointer (some ⟨w2.heap.size,0,none⟩)]) rfl trivial (enters_of func189 zQ rfl)
  (GM (3-1) zO w2.heap.size b2 _ _ (by rw[hul];omega) _ zA2 zA1 hSW) Qy.t (Qy.b zA2 zA1) (Below.refl _ _) (fun _=>rfl)
  (fun pre W'=>((W'.heap[w.heap.size]?=some (.cells #[.slice (some ⟨b1,o1,none⟩) 256 c1,.slice A2 n2 c2] 25 (0,0))/\W'.heap[w.heap.size+1]?=some (.cells #[.int .i64 (m:Int)] 3 (0,0)))/\((W'.heap[w.heap.size+2]?=some (.cells #[.slice none 0 0] 26 (0,0))/\W'.heap[w.heap.size+3]?=some (.cells #[.int .i64 0] 37 (0,0)))/\W'.heap[w2.heap.size]?=some (.cells #[.slice A2 n2 c2] 23 (0,0))))/\(Below w.heap.size w W'/\∀ y∈pre,atN ws y≠(m:Int)))
  (fun c pre W'=>(∃ pre' x Wb,c=.ret/\pre=pre'++[x]/\atN ws x=(m:Int)/\(∀ y∈pre',atN ws y≠(m:Int))/\ReadB w.heap.size (Gg ws x) Wb/\qU Wb W')/\Below w.heap.size w W')
  (OwnFrom.and (OwnFrom.and (OwnFrom.and (Qb _ _ _ _) (Qb _ _ _ _)) (OwnFrom.and (OwnFrom.and (Qb _ _ _ _) (Qb _ _ _ _)) (Qb _ _ _ _))) (OwnFrom.and (ownFrom_below (zM _) zA1) (Jp _ _)))
  (fun c=>OwnFrom.and (fun s A C row hs hg hr=>by obtain⟨pre',x,Wb,h1,h2,h3,h4,h5,h6⟩:=hs;exact⟨pre',x,Wb,h1,h2,h3,h4,h5,h6.grown hg fun r e=>(hr r e).2⟩) (ownFrom_below (zM _) zA1))
  ⟨⟨⟨qb ra2 x5,qb rb2 x5⟩,⟨qb rc2 x5,qb rd2 x5⟩,zI _ _ _ rfl⟩,x2.trans x5,fun y hy=>by cases hy⟩
  (fun x a' W'=>∃ t8,a'={ tmps:=#[Va (some ⟨b1,o1,none⟩) 256 c1 A2 n2 c2,.int .i64 (m:Int),.pointer (some ⟨w.heap.size,0,none⟩),.pointer (some ⟨w.heap.size+1,0,none⟩),.pointer (some ⟨w.heap.size+1+1,0,none⟩),.pointer (some ⟨w.heap.size+1+1+1,0,none⟩),.int .i64 0,undef,.pointer (some ⟨t8,0,none⟩),
    .agg #[.slice (some ⟨b1,o1,none⟩) 256 c1,.slice A2 n2 c2],.int .i64 (m:Int),.int .i64 0,.int .i64 0,.bool false,undef,.pointer (some ⟨w.heap.size,1,none⟩),.slice A2 n2 c2,.func (.func 189) #[] #[.pointer (some ⟨w2.heap.size,0,none⟩)],
    .int .i64 (x:Int),.agg #[.int .i64 (us[x]?.getD w2z).1,sv (us[x]?.getD w2z).2],undef,undef,undef,undef,undef,undef,undef,undef,undef,undef,undef,undef,undef],defers:=[] }/\W'.heap[t8]?=some (.cells #[.int .i64 (us[x]?.getD w2z).1,sv (us[x]?.getD w2z).2] 142 (0,0)))
  (fun x a' s A C row hs hg hr=>by obtain⟨t8,e,h⟩:=hs;exact⟨t8,e,Qb (β:=Unit) _ _ _ _ () A C row h hg hr⟩) ?assign ?body ?done ?stop
 case assign =>
  rintro l' pre x W' K ⟨⟨⟨i1,i2⟩,⟨i3,i6⟩,i7⟩,i4,i5⟩ hK
  gi_wp2
  have z1:=(zG.1 i1).1;have z2:=(zG.1 i2).1;have z3:=(zG.1 i3).1;have z6:=(zG.1 i6).1;have z7:=(zG.1 i7).1;have z4:=i4.size;refine hK _ _ ((KeepsOthers.alloc _ _).from _) ⟨zK _ _ _ z7,zK _ _ _ zO⟩ ⟨⟨⟨(zK _ _ _ z1).trans i1,(zK _ _ _ z2).trans i2⟩,⟨(zK _ _ _ z3).trans i3,(zK _ _ _ z6).trans i6⟩,(zK _ _ _ z7).trans i7⟩,Below.alloc i4 z4 _,i5⟩ ⟨W'.heap.size,rfl,zI _ _ _ rfl⟩
 case body =>
  rintro l' pre x a' W' hl ⟨rr,hlp⟩ ⟨⟨⟨i1,i2⟩,⟨i3,i6⟩,i7⟩,i4,i5⟩ ⟨t8,rfl,hr8⟩ _;have HC:=jf _ (Gg ws x) (by have:=xAN x;omega) W' (hud.out x W' i4);have hax:=hua.out x;generalize (us[x]?.getD w2z)=u9 at *;obtain⟨a9,A9,n9,c9⟩:=u9;simp only at hax;subst hax;have k8:=qa hr8;have k2:=qa i2;replace xAN:=zH xAN;replace HC:=zH HC;replace i5:=zH i5;clear ka2 kb2;by_cases hq:atN ws x=(m:Int)
  ·have hqe:(atN ws x == (m:Int))=true:=by rw[beq_iff_eq];exact hq
   replace hq:=zH hq
   gi_wp2_with fail
   refine⟨trivial,(CallsIn.inRound _ (callsIn_wide.2 HC.out)).mono ?_⟩;clear HC;rintro e W4 ⟨u,rfl,hBQ,hB4⟩;obtain⟨A4,c4,rfl,_,_⟩:=qB hBQ;have r3:=qb i3 hB4;have r6:=qb i6 hB4;have k3:=qa r3;have k6:=qa r6;have f3:=qd r3;have f6:=qd r6;have z4:=hB4.size;have zW:=i4.size;have z36:=(zG.1 i6).1;replace hBQ:=zH hBQ;have x4:Ext w W4:=i4.trans (Below.mono hB4 i4.size);have kk:=qkb hB4;clear hB4
   gi_wp2_with fail
   refine⟨((kk.trans (KeepsOthers.setCell _ _ _)).trans (KeepsOthers.setCell _ _ _)).from _,⟨pre,x,_,rfl,rfl,hq.out,i5.out,⟨.slice A4 (Gg ws x).length c4,?_,?_,?_⟩,qU.refl _⟩,Below.setCell (Below.setCell x4 (p:=⟨w.heap.size+1+1,0,none⟩) zA1 _) (p:=⟨w.heap.size+1+1+1,0,none⟩) zA1 _⟩
   ·exact(zJ _ _ _ _ zA2).trans (qi r3 0 _)
   ·exact qi ((zJ _ _ _ _ zA2).trans r6) 0 _
   ·exact Qz (jE (jE (Qz hBQ.out (zM _)) (p:=⟨w.heap.size+1+1,0,none⟩) zA1 _) (p:=⟨w.heap.size+1+1+1,0,none⟩) zA1 _) zO
  ·have hqe:(atN ws x == (m:Int))=false:=by rw[beq_eq_false_iff_ne];exact hq
   replace hq:=zH hq
   gi_wp2_with fail
   refine⟨KeepsFrom.refl _ _,Qy.refl _ _ _,⟨⟨i1,i2⟩,⟨i3,i6⟩,i7⟩,i4,fun y hy=>?_⟩;rcases List.mem_append.1 hy with h|h
   ·exact i5.out y h
   ·obtain rfl:y=x:=by simpa using h
    exact hq.out
 case done =>
  rintro D ys W' hD rfl ⟨⟨⟨i1,i2⟩,⟨i3,i6⟩,_⟩,i4,i5⟩ hK;have h0:=qaY (ws:=ws) (a:=(m:Int)) (by rw[show ws.length=us.length by rw[hul,<-hpl,<-hps,List.length_map]];exact i5);have hll:l=l0:=by rw[hLS.out,hps,h0]
  have HC:=jf _ l0 zO W' ((wHQ.below i4).more i4.size);have wZR:=Ext.cell i4 hcb;rw[<-hll] at HC wZR;clear h0 hll hcb wHQ;have k1:=qa i1;have k2:=qa i2;have im:(m:Int)<256:=zO;have im2:decide (m<256)=true:=decide_eq_true hm;replace HC:=zH HC;replace i5:=zH i5;clear ka2 kb2 hw4 hw5;go_wp2_with fail;refine(HC.out).mono ?_;clear HC;rintro e W4 ⟨u,rfl,hBQ,hB4⟩;obtain⟨A4,c4,rfl,_,_⟩:=qB hBQ;have r3:=qb i3 hB4;have r6:=qb i6 hB4;have k3:=qa r3;have k6:=qa r6;have f3:=qd r3;have f6:=qd r6;have z4:=hB4.size;have zW:=i4.size;replace hBQ:=zH hBQ;have x4:Ext w W4:=i4.trans (Below.mono hB4 i4.size);have hK4:W4.heap[D]?=some (.deferred (some [])):=(hB4.block D (zG.1 hK).1).trans hK;clear hB4;go_wp2_with fail;have hDw:w.heap.size+3<D:=by simp at hD;omega
  have q3:=(zJ _ ⟨w.heap.size+1+1+1,0,none⟩ (.int .i64 0) (w.heap.size+2) zA2).trans (qi r3 0 (.slice A4 l.length c4));have q6:=qi ((zJ _ ⟨w.heap.size+1+1,0,none⟩ (.slice A4 l.length c4) (w.heap.size+3) zA2).trans r6) 0 (.int .i64 0);have qK:=(zJ _ ⟨w.heap.size+1+1+1,0,none⟩ (.int .i64 0) D zA1).trans ((zJ _ ⟨w.heap.size+1+1,0,none⟩ (.slice A4 l.length c4) D zA1).trans hK4);have z36:=(zG.1 i6).1;have qo:=jE (jE (Qz hBQ.out (zM _)) (p:=⟨w.heap.size+1+1,0,none⟩) zA1 (.slice A4 l.length c4)) (p:=⟨w.heap.size+1+1+1,0,none⟩) zA1 (.int .i64 0);have qx:=Below.setCell (Below.setCell x4 (p:=⟨w.heap.size+1+1,0,none⟩) zA1 (.slice A4 l.length c4)) (p:=⟨w.heap.size+1+1+1,0,none⟩) zA1 (.int .i64 0);generalize World.setCell (World.setCell W4 _ _) _ _=wf at *;exact qbi (b:=w.heap.size) (l:=l) rfl rfl rfl qK hDw ⟨_,q3,q6,Qz qo zO⟩ (fun v W' ho e=>⟨_,rfl,⟨v,rfl,ho⟩,e ▸ qx.trans (belowK_b (w:=w) (zM _) wf D _ _ zO qK rfl rfl)⟩)
 case stop =>
  rintro D c pre W' hD ⟨k,hk,hpre⟩ ⟨⟨pre',x,Wb,rfl,rfl,hx,hpp,hRB,hCK⟩,i4⟩ hK
  gi_wp2_with fail
  have hDw:w.heap.size+3<D:=by simp at hD;omega
  have hl2:l=Gg ws x:=by rw[hLS.out,hps,qaZ (ws:=ws) (k:=k) (by rw[<-hps,List.length_map,hpl,<-hul];exact hk) (by rw[show ws.length=us.length by rw[hul,<-hpl,<-hps,List.length_map]];exact hpre) hx hpp]
  rw[<-hl2] at hRB;obtain⟨v,q3,q6,qo⟩:=hRB;exact qbi (b:=w.heap.size) (l:=l) rfl rfl rfl hK hDw ⟨v,hCK.row q3,hCK.row q6,JB qo hCK⟩ (fun v W'' ho e=>⟨_,rfl,⟨v,rfl,ho⟩,e ▸ i4.trans (belowK_b (w:=w) (zM _) W' D _ _ zO hK rfl rfl)⟩)
abbrev Us:Type:=Stp×Sl
abbrev usz:Us:=((0,[],0),(none,0,0))
set_option maxRecDepth 100000 in
theorem backs_in (n:Nat) (hn:1<=n) (l Bs b off len cap:Nat) (us:List Us) (hJR:len<1099511627776) (J Jx:List Nat->World->Prop) (hY:∀ pre (x:Nat) W,J pre W->pre.length<len->YieldAt Fence.wide (n-1) prog l #[.int .i64 (x:Int),.agg #[.int .i64 ((us[x]?.getD usz).1.1:Int),sv (us[x]?.getD usz).2,.int .i64 ((us[x]?.getD usz).1.2.2:Int)]] W fun e W' =>
   (e=.returned (.bool true)/\J (pre++[x]) W'/\Qy Bs b W W')\/(e=.returned (.bool false)/\Jx (pre++[x]) W'))
  (W:World) (hBs:W.cell? ⟨Bs,0,none⟩=some (.slice (some ⟨b,off,none⟩) len cap)) (hc:∀ i,i<len->W.cell? ⟨b,off+i*3,none⟩=some (.int .i64 ((us[i]?.getD usz).1.1:Int))/\W.cell? ⟨b,off+i*3+1,none⟩=some (sv (us[i]?.getD usz).2)/\W.cell? ⟨b,off+i*3+2,none⟩=some (.int .i64 ((us[i]?.getD usz).1.2.2:Int))) (h0:J [] W) :
  CallsIn Fence.wide n prog 176 #[.func (.yield l) #[] #[],.pointer (some ⟨Bs,0,none⟩)] W fun e W'=>(∃ v,e=.returned v) /\
   ((∃ ys,ys=jw (fun j=>len-1-j) len/\J ys W')\/(∃ pre,(∃ k,k<=len/\pre=jw (fun j=>len-1-j) k)/\Jx pre W')):=by
 refine callsIn_of_wp func176 rfl trivial ?_ rfl;simp only[ntmps176,List.size_toArray,List.length_cons,List.length_nil,Nat.reduceAdd,Nat.reduceSub,Array.replicate_succ,Array.replicate_zero,List.push_toArray,List.append_toArray,List.nil_append,List.cons_append]
 gi_wp2
 gi_loopw [3] (fun i wr=>∃ k:Nat,k<=len/\i=.int .i64 ((len:Int)-1-k)/\J (jw (fun j=>len-1-j) k) wr/\Qy Bs b W wr)
  (fun i _=>(intOf i+1).toNat)
 case atStart=>exact⟨0,Nat.zero_le _,zA2,h0,Qy.refl _ _ _⟩
 case round =>
  obtain⟨k,hk,rfl,hJs,hnx⟩:=hrel;have hBr:wr.cell? ⟨Bs,0,none⟩=some (.slice (some ⟨b,off,none⟩) len cap):=(World.cell?_of_block (w:=W) hnx.1).trans hBs;by_cases hlt:k<len
  ·obtain⟨fn,tmps,assign,body,hy,hR⟩:=hY _ (len-1-k) wr hJs (by rw[ZH];exact hlt);have hc0:=(World.cell?_of_block (w:=W) (a:=⟨b,off+(len-1-k)*3,none⟩) hnx.2).trans (hc (len-1-k) zO).1;have hc1:=(World.cell?_of_block (w:=W) (a:=⟨b,off+(len-1-k)*3+1,none⟩) hnx.2).trans (hc (len-1-k) zO).2.1;have hc2:=(World.cell?_of_block (w:=W) (a:=⟨b,off+(len-1-k)*3+2,none⟩) hnx.2).trans (hc (len-1-k) zO).2.2;try dsimp only at hy
   obtain⟨i,hi⟩:∃ i:Nat,len-1-k=i:=⟨_,rfl⟩
   have hi2:(len:Int)-1-k=(i:Int):=zO;have hil:i<len:=zO;have hik:k+i+1<=len/\len<=k+i+1:=zO;have HU:=zH (VN (fun j=>len-1-j) k);obtain⟨u,hu⟩:∃ u,us[i]?.getD usz=u:=⟨_,rfl⟩
   rw[hi] at hc0 hc1 hc2 hy hR;rw[hu] at hc0 hc1 hc2 hy;rw[hi2];clear hi2;clear hu;have HI:=zH hi;clear hi
   gi_wp2
   refine hR.mono ?_;rintro e W3 (⟨rfl,hJ3,hk3⟩|⟨rfl,wBI⟩)
   ·gi_wp2
    go_roundw
    case rel=>exact⟨k+1,zO,by go_num,by rw[HU.out,HI.out];exact hJ3,hnx.t hk3⟩
    case measure=>simp[intOf]
   ·gi_wp2
    refine bodyPost_ret (results_none rfl _ _ _) rfl ?_;exact⟨⟨_,rfl⟩,.inr ⟨_,⟨k+1,zO,by rw[HU.out,HI.out]⟩,wBI⟩⟩
  ·obtain rfl:k=len:=zO
   gi_wp2
   go_end0;exact⟨⟨_,rfl⟩,.inl ⟨_,rfl,hJs⟩⟩
set_option maxRecDepth 100000 in
theorem qem (n l Bs c:Nat) (A:OA) (J:List Nat->World->Prop) (W:World) (hBs:W.cell? ⟨Bs,0,none⟩=some (.slice A 0 c)) (h0:J [] W):CallsIn Fence.wide n prog 176 #[.func (.yield l) #[] #[],.pointer (some ⟨Bs,0,none⟩)] W fun e W'=>(∃ v,e=.returned v)/\J [] W':=by
 refine callsIn_of_wp func176 rfl trivial ?_ rfl;simp only[ntmps176,List.size_toArray,List.length_cons,List.length_nil,Nat.reduceAdd,Nat.reduceSub,Array.replicate_succ,Array.replicate_zero,List.push_toArray,List.append_toArray,List.nil_append,List.cons_append]
 gi_wp2
 gi_loopw [3] (fun i wr=>i=.int .i64 (-1)/\J [] wr) (fun _ _=>0)
 case atStart=>exact⟨rfl,h0⟩
 case round =>
  obtain⟨rfl,hJs⟩:=hrel
  gi_wp2
  go_end0;exact⟨⟨_,rfl⟩,hJs⟩
def SWs (W:World) (Bs b:Nat) (v:Value) (us:List Us):Prop:=
 W.cell? ⟨Bs,0,none⟩=some v/\((us=[]/\∃ A c,v=.slice A 0 c)\/∃ off cap,v=.slice (some ⟨b,off,none⟩) us.length cap/\∀ i,i<us.length->W.cell? ⟨b,off+i*3,none⟩=some (.int .i64 ((us[i]?.getD usz).1.1:Int))/\W.cell? ⟨b,off+i*3+1,none⟩=some (sv (us[i]?.getD usz).2)/\W.cell? ⟨b,off+i*3+2,none⟩=some (.int .i64 ((us[i]?.getD usz).1.2.2:Int)))
theorem SWs.keep {W W':World} {Bs b:Nat} {v:Value} {us:List Us} (h:SWs W Bs b v us) (hk:Qy Bs b W W'):SWs W' Bs b v us:=by
 refine⟨(World.cell?_of_block (w:=W) hk.1).trans h.1,?_⟩;rcases h.2 with h|⟨off,cap,e,hc⟩
 ·exact .inl h
 ·exact .inr ⟨off,cap,e,fun i hi=>⟨(World.cell?_of_block (w:=W) hk.2).trans (hc i hi).1,(World.cell?_of_block (w:=W) hk.2).trans (hc i hi).2.1,(World.cell?_of_block (w:=W) hk.2).trans (hc i hi).2.2⟩⟩
theorem qfA (n:Nat) (hn:1<=n) (Bs b:Nat) (v:Value) (us:List Us) (hJR:us.length<1099511627776) (w:World) (hBs:Bs<w.heap.size) (hb:b<w.heap.size) (hS:SWs w Bs b v us):SeqStopsK Fence.wide n prog 176 #[.pointer (some ⟨Bs,0,none⟩)] (fun x:Nat=>#[.int .i64 (x:Int),.agg #[.int .i64 ((us[x]?.getD usz).1.1:Int),sv (us[x]?.getD usz).2,.int .i64 ((us[x]?.getD usz).1.2.2:Int)]]) (Qy Bs b) (fun ys=>ys=jw (fun j=>us.length-1-j) us.length)
   (fun pre=>∃ k,k<=us.length/\pre=jw (fun j=>us.length-1-j) k) us.length w:=fun l J Jx W hW _ _ hY h0=>by
 obtain⟨hc,h⟩:=hS.keep (Qy.below hW hBs hb);rcases h with ⟨rfl,A,c,rfl⟩|⟨off,cap,rfl,hcs⟩
 ·exact(qem n l Bs c A J W hc h0).mono fun e W' ⟨he,hj⟩=>⟨he,.inl ⟨_,rfl,hj⟩⟩
 ·exact backs_in n hn l Bs b off us.length cap us hJR J Jx hY W hc hcs h0
theorem qcI (A m c) (w:World):Calls prog 129 #[.slice A m c] w (fun e w'=>e=.returned (.func (.func 176) #[] #[.pointer (some ⟨w.heap.size,0,none⟩)])/\w'=w.alloc (.cells #[.slice A m c] 180)):=by
 go_enter func129,ntmps129;go_wp2;go_ret;exact⟨rfl,rfl⟩
end Go.Proofs.YtmeadnlmepcmbaaGreat
namespace Go.Proofs.YtmeadnlmepcmbaaGreat
open Go.RowKit
section
variable {w W:World}
theorem Rd.ck {B size n:Nat} {A:OA} {xs:List Value} (h:Rd w B size A n xs) (hk:qU w W):Rd W B size A n xs:=⟨h.1,fun hn=>by obtain⟨b,off,e,hb,hc⟩:=h.2 hn;exact⟨b,off,e,hb,fun j u hu=>hk.cell (hc j u hu)⟩⟩
theorem Bys.ck {B:Nat} {v:Value} {l:List UInt8} (h:Bys w B v l) (hk:qU w W):Bys W B v l:=by obtain⟨A,c,e,hc,hm,hr⟩:=h;exact⟨A,c,e,hc,hm,hr.ck hk⟩
theorem Bls.ck {B:Nat} {v:Value} {bs:List (List UInt8)} (h:Bls w B v bs) (hk:qU w W):Bls W B v bs:=by obtain⟨vs,A,c,e,h1,h2,h3,h4⟩:=h;exact⟨vs,A,c,e,h1,h2,h3.ck hk,fun i u l hu hl=>(h4 i u l hu hl).ck hk⟩
theorem Ql.of_ck (X:Nat->Prop) (hk:qU w W):Ql X w W:=fun _ _ _ hv=>hk.cell hv
theorem Bch.ck {D:Nat->Prop} {B lo b g:Nat} {k:Option Nat} {S:Sto} (h:Bch D B lo b g k S w) (hk:qU w W):Bch D B lo b g k S W:=by
 obtain⟨A1,n1,c1,v2,c3,A4,c4,hro,ho,⟨ps,e,hw,hp⟩,h1,h4⟩:=h.ex;refine⟨h.lob,h.blo,fun q hq=>⟨(h.dB q hq).1,by have:=(h.dB q hq).2.1;have:=hk.size;omega,(h.dB q hq).2.2⟩,A1,n1,c1,v2,c3,A4,c4,hk.row hro,JB ho hk,⟨ps,e,?_,fun p hpm=>⟨(hp p hpm).1,fun C hC=>(hp p hpm).2 C ((Ql.of_ck _ hk).trans hC fun _ _ h=>h)⟩⟩,h1.ck hk,h4.ck hk⟩;rcases hw with ⟨e,hm,A,e2,hr⟩|⟨q,e,e2,how⟩
 ·exact .inl ⟨e,hm,A,e2,hr.ck hk⟩
 ·exact .inr ⟨q,e,e2,JB how hk⟩
end
theorem kL.of_own {X:Nat->Prop} {w:World} {lo n:Nat} {v:Value} {ps:List (It×Value)} (ho:w.ownsRow lo 51 5 v n (Qd ps)) (hl:ps.length=n) (hX:∀ q,v.ownBlock=some q->¬X q) (hp:∀ p∈ps,(∃ A c,p.2=.slice A p.1.val.length c)/\∀ C,Ql X w C->Bys C C.heap.size p.2 p.1.val):kL X w v (ps.map (·.1)):=fun C hC=>by
 have hrd:∀ A c,v=.slice A n c->Rd C C.heap.size 5 A n (Qd ps):=fun A c e=>by
  refine⟨ho.1,fun hn=>?_⟩;rcases ho.2 with ⟨_,h0⟩|⟨g,cap,cur,hv,hb,hg,hnc,_,hsz,htk⟩
  ·omega
  ·have hne:¬X g:=hX g (by rw[hv];rfl);rw[hv] at e;cases e;have hc:∀ j u,(Qd ps)[j]?=some u->w.cell? ⟨g,0+j,none⟩=some u:=fun j u hu=>by
    rw[Nat.zero_add,qa hg,<-Array.getElem?_toList];rw[<-htk,List.getElem?_take] at hu;split at hu
    ·exact hu
    ·cases hu
   have hl0:0<(Qd ps).length:=by rw[ho.1];omega
   exact⟨g,0,rfl,World.block_lt_of_cell? C ⟨g,0+0,none⟩ (hC _ _ hne (hc 0 _ (zL hl0))),fun j u hu=>hC _ _ hne (hc j u hu)⟩
 obtain⟨A,c,rfl,h1,h2⟩:=qB ho;subst hl;exact⟨ps,rfl,⟨A,c,by rw[List.length_map],by rw[List.length_map];exact h1,h2,by rw[List.length_map];exact hrd A c rfl⟩,fun p hpm=>⟨(hp p hpm).1,(hp p hpm).2 C hC⟩⟩
theorem Bch.others {D:Nat->Prop} {B lo b g:Nat} {k:Option Nat} {S:Sto} {w W:World} (h:Bch D B lo b g k S w) (hk:Qf lo b g k w W):KeepsOthers w W:=⟨hk.below.size,fun q o hq ho=>by
 refine hk.row hq fun hx=>?_;obtain⟨A1,n1,c1,v2,c3,A4,c4,hro,hno,⟨ps,_,hw,_⟩,_,_⟩:=h.ex;have key:∀ cs ty fr,w.heap[q]?=some (.cells cs ty fr)->False:=fun cs ty fr hc=>by rw[hc] at hq;cases hq;cases ho
 rcases hx with rfl|rfl|e
 ·exact key _ _ _ hro
 ·obtain⟨cur,hg⟩:=jr hno rfl;exact key _ _ _ hg
 ·rcases hw with ⟨e1,_⟩|⟨q',e1,e2,how⟩
  ·rw[e1] at e;cases e
  ·rw[e1] at e;cases e;obtain⟨cur,hg⟩:=jr how e2;exact key _ _ _ hg⟩
def sAt (l:List Stp) (x:Nat):Stp:=l[x]?.getD (0,[],0)
theorem sAt_ok {k:K3} {l:List Stp} (h:∀ s∈l,qfp k s) (x:Nat):qfp k (sAt l x):=by
 unfold sAt;rcases hx:l[x]? with _|s
 ·exact⟨zD,(fun y hy=>by cases hy),Nat.zero_le _,zM _,fun h=>absurd h (Nat.lt_irrefl 0),fun _=>rfl⟩
 ·exact h s (List.mem_of_getElem? hx)
theorem qgU (l:List Stp) (k:Nat) (hk:k<=l.length):(jw (fun j=>l.length-1-j) k).map (sAt l)=l.reverse.take k:=by
 apply List.ext_getElem?;intro i;unfold jw;rw[List.getElem?_map,List.getElem?_map,List.getElem?_take];by_cases hi:i<k
 ·rw[List.getElem?_range hi,if_pos hi,List.getElem?_reverse zO];simp only[Option.map_some,sAt];rw[zL zO];simp
 ·rw[List.getElem?_eq_none zA1,if_neg hi];rfl
structure PutI (K:K3) (l:List Stp) (S:Sto) (x:It) (B0 lo b g UB TB SB w2:Nat) (w3:World) (xv sv_:Value) (pre:List Nat) (W:World):Prop where
 ex:∃ (ups:List It) (S':Sto) (k':Option Nat) (D':Nat->Prop) (Au:OA) (cu:Nat) (hps:List (It×Value)),jA K (pre.map (sAt l)) [x] S=.ok (ups,S')/\ql S'=true/\0<ups.length/\ups.length<=2/\hps.map (·.1)=ups /\
  (∀ y∈ups,zy y/\(y.r=0\/8<=y.r)/\y.r<256)/\(∀ p∈hps,(∃ A c,p.2=.slice A p.1.val.length c)/\Bys W B0 p.2 p.1.val)/\W.heap[UB]?=some (.cells #[.slice Au ups.length cu] 55 (0,0))/\W.ownsRow 0 51 5 (.slice Au ups.length cu) ups.length (Qd hps)/\Bch D' B0 lo b g k' S' W
 rx:W.heap[B0+1]?=some (.cells #[.int .u8 x.k,.int .u32 x.i,.int .u32 x.o,.int .i64 x.r,xv] 51 (0,0))
 r2:W.heap[B0+2]?=some (.cells #[.slice none 0 0,.slice none 0 0,.slice none 0 0,.slice none 0 0] 28 (0,0))
 r3:W.heap[B0+3]?=some (.cells #[.int .i64 0] 3 (0,0))
 r4:W.heap[B0+4]?=some (.cells #[.int .i64 0] 37 (0,0))
 rT:W.heap[TB]?=some (.cells #[.pointer (some ⟨b,0,none⟩)] 92 (0,0))
 rS:W.heap[SB]?=some (.cells #[sv_] 180 (0,0))
 kx:Ql (fun q=>q<w2) w3 W
theorem PutI.ck {K:K3} {l:List Stp} {S:Sto} {x:It} {B0 lo b g UB TB SB w2:Nat} {w3:World} {xv sv_:Value} {pre:List Nat} {w W:World} (h:PutI K l S x B0 lo b g UB TB SB w2 w3 xv sv_ pre w) (hk:qU w W):PutI K l S x B0 lo b g UB TB SB w2 w3 xv sv_ pre W:=by obtain⟨ups,S',k',D',Au,cu,hps,h1,h2,h3,h4,h5,h6,h7,h8,h9,h10⟩:=h.ex;exact⟨⟨ups,S',k',D',Au,cu,hps,h1,h2,h3,h4,h5,h6,fun p hp=>⟨(h7 p hp).1,(h7 p hp).2.ck hk⟩,hk.row h8,JB h9 hk,h10.ck hk⟩,hk.row h.rx,hk.row h.r2,hk.row h.r3,hk.row h.r4,hk.row h.rT,hk.row h.rS,h.kx.trans (Ql.of_ck _ hk) fun _ _ h=>h⟩
theorem KS {S S':Sto} {lvl:Int} {l held up:List It} (hl:∀ x∈l,zy x) (hh:∀ x∈held,(x.r=0\/8<=x.r)/\x.r<256) (hS:ql S=true) (e:QQ S lvl l held=.ok (up,S')):ql S'=true/\(0<up.length/\up.length<=2)/\∀ y∈up,zy y/\(8<=y.r/\y.r<256)/\y.val=[]:=by
 unfold QQ at e;split at e
 ·cases e
 ·rename_i up1 S1 e1;split at e
  ·cases e
  ·rename_i t e2;cases e;obtain⟨h1,h2,h3⟩:=Gq (Xm hl) hS e1;refine⟨Uv h1 (JO (fun a ha=>by obtain⟨x,hx,rfl⟩:=List.mem_map.1 ha;have:=hh x hx;omega) (qF.1 h1).2.1 e2),?_,fun y hy=>?_⟩
   ·rw[h2];unfold Zs;split <;> simp
   ·obtain⟨⟨f,k1,k8,k9⟩,k2,p,hp,k3⟩:=h3 y hy;have:=qjd (Xm hl p hp);rw[<-k3] at this;obtain⟨a1,a2,a3⟩:=this;exact⟨⟨a1,a2,a3,by rw[k1];omega,by rw[k2];simp⟩,zO,k2⟩
theorem qhM {k:K3} {ps:List Stp} {j:Nat} {up:List It} {S:Sto} {e:Int} (h:jA k (ps.take j) up S=.error e):jA k ps up S=.error e:=by have:ps=ps.take j++ps.drop j:=(List.take_append_drop _ _).symm;rw[this,JZ,h]
theorem UQ {W C:World} {U E:Nat} {u v u0 v0:Value} {ty1 ty2:TypeId} (hU:W.heap[U]?=some (.cells #[u0] ty1 (0,0))) (hE:W.heap[E]?=some (.cells #[v0] ty2 (0,0))) (hne:U≠E) (hC:C=(W.setCell ⟨U,0,none⟩ u).setCell ⟨E,0,none⟩ v):C.heap[U]?=some (.cells #[u] ty1 (0,0))/\C.heap[E]?=some (.cells #[v] ty2 (0,0))/\(∀ k,k≠U->k≠E->C.heap[k]?=W.heap[k]?)/\C.heap.size=W.heap.size/\KeepsOthers W C/\∀ {B:Nat} {w0:World},B<=U->B<=E->Below B w0 W->Below B w0 C:=by
 subst hC;have hs:=fun (A:World) (b j:Nat) (v:Value) (k:Nat) (hk:k≠b)=>zJ A ⟨b,j,none⟩ v k hk;refine⟨?_,?_,fun k h1 h2=>?_,zA2,(KeepsOthers.setCell _ _ _).trans (KeepsOthers.setCell _ _ _),fun h1 h2 h=>Below.setCell (Below.setCell h (p:=⟨U,0,none⟩) h1 _) (p:=⟨E,0,none⟩) h2 _⟩
 ·rw[hs _ _ _ _ _ hne];exact qi hU 0 u
 ·refine qi (t:=ty2) (cs:=#[v0]) ?_ 0 v;rw[hs _ _ _ _ _ (fun e=>hne e.symm)];exact hE
 ·rw[hs _ _ _ _ _ h2,hs _ _ _ _ _ h1]
def outTw (lo:Nat) (S:Sto):Qe:=⟨(Nat×Nat)×(OA×Nat)×(OA×Nat),fun p=>Qk (some ⟨p.1.1,0,none⟩) S.bs.length S.bs.length (some ⟨p.1.2,0,none⟩) S.ws.length (S.ws.length+1) p.2.1.1 S.now.length p.2.1.2 p.2.2.1 S.last.length p.2.2.2,fun p W=>zl lo S (Qk (some ⟨p.1.1,0,none⟩) S.bs.length S.bs.length (some ⟨p.1.2,0,none⟩) S.ws.length (S.ws.length+1) p.2.1.1 S.now.length p.2.1.2 p.2.2.1 S.last.length p.2.2.2) W⟩
theorem zY (lo:Nat) (S:Sto) (b c:Nat) (A3:OA) (c3:Nat) (A4:OA) (c4:Nat):(outTw lo S).f ((b,c),(A3,c3),(A4,c4))=Qk (some ⟨b,0,none⟩) S.bs.length S.bs.length (some ⟨c,0,none⟩) S.ws.length (S.ws.length+1) A3 S.now.length c3 A4 S.last.length c4:=rfl
structure PutD (q:Except Int (List It×Sto)) (B0 lo b g UB TB D:Nat) (w W:World):Prop where
 ex:∃ (ups:List It) (S':Sto) (k':Option Nat) (D':Nat->Prop) (Au:OA) (cu:Nat) (hps:List (It×Value)),q=.ok (ups,S')/\ql S'=true/\0<ups.length/\hps.map (·.1)=ups /\
  W.heap[UB]?=some (.cells #[.slice Au ups.length cu] 55 (0,0))/\W.ownsRow 0 51 5 (.slice Au ups.length cu) ups.length (Qd hps)/\Bch D' B0 lo b g k' S' W/\∀ y∈ups,(y.r=0\/8<=y.r)/\y.r<256
 r2:W.heap[B0+2]?=some (.cells #[.slice none 0 0,.slice none 0 0,.slice none 0 0,.slice none 0 0] 28 (0,0))
 r3:W.heap[B0+3]?=some (.cells #[.int .i64 0] 3 (0,0))
 r4:W.heap[B0+4]?=some (.cells #[.int .i64 0] 37 (0,0))
 rT:W.heap[TB]?=some (.cells #[.pointer (some ⟨b,0,none⟩)] 92 (0,0))
 hK:W.heap[D]?=some (.deferred (some []))
 below:Below B0 w W
theorem Bch.kept {D:Nat->Prop} {B lo b g:Nat} {k:Option Nat} {S:Sto} {w W:World} (h:Bch D B lo b g k S w) (hB:Below B w W) (hr:∀ q,lo<=q->q<w.heap.size->W.heap[q]?=w.heap[q]?):Bch D B lo b g k S W:=
 h.keep hB fun q hq=>hq.elim (fun h2=>hr q (h.b3 q h2).1 (h.b3 q h2).2) fun h2=>hr q (h.dB q h2).1 (h.dB q h2).2.1
def qaM (lo n:Nat) (us:List Value):Qe:=⟨OA×Nat,fun p=>.slice p.1 n p.2,fun p W=>W.ownsRow lo 51 5 (.slice p.1 n p.2) n us⟩
theorem QD (lo n:Nat) (us:List Value) (A c):(qaM lo n us).f (A,c)=.slice A n c:=rfl
theorem qbQ (lo n:Nat) (us:List Value):∀ p,qJ qm ((qaM lo n us).φ p):=fun p W W' he h=>by have he:Ext W W':=he;have h:W.ownsRow lo 51 5 (.slice p.1 n p.2) n us:=h;exact ZC h fun q hq=>Below.block he q (QZ h q hq).2
end Go.Proofs.YtmeadnlmepcmbaaGreat
